/-
  Put together by program.
-/
import Derived.Shelf.SlSortCmp.QuietGrown
import Derived.Test.YtbiijipkgfpgoaaGreatDoorMfS
set_option maxRecDepth 100000
set_option linter.all false
set_option maxHeartbeats 25600000
open Go.Proofs.Tryz
open Go.Value renaming int→I_,slice→S_,bool→B_,pointer→P_,agg→A_,tuple→U_
open Go.IntKind renaming i64→j_
open Go.Obj renaming cells→C_
open Go.Ending renaming returned→R_
namespace Go.Proofs.YtbiijipkgfpgoaaGreatDoor
open Go.RowKit
theorem j2_ (B g n c:Nat) (ds:List HSt) (E:OA) (n0 k0:Nat) (v0:LI) (P:Int) (w:World) (h:HpD B (some ⟨g,0,none⟩) (n+1) c ds w) (h0:ds[0]? =some ((E,n0,k0),(v0,P))) (hn:n<=1000000):
  Calls prog 142 #[S_ (some ⟨g,0,none⟩) (n+1) c] w (PopR B n c g ((E,n0,k0),(v0,P)) (Vr_ (ds.map Prod.snd)) w):=by
 have hl:=h.len;obtain⟨g',e,bA,bG,bi,a,cs,aT⟩:=h.blk oo;injection e with e;injection e with e;subst e;obtain⟨⟨⟨al,nl,kl⟩,vl,sl⟩,aq⟩:∃d,ds[n]? =some d:=⟨_,gE oo⟩;obtain⟨Q,L,_,_⟩:=h.at0 (k:=0) oo h0;obtain⟨X,Y,_,_⟩:=h.at0 (k:=n) oo aq;rw[Nat.zero_mul]at Q L;rw[Nat.zero_add]at L;obtain⟨R,hR⟩:=ex_ (Vr_ (ds.map Prod.snd));have HR:=h_ (show Y7_ (n+1) (((ds.set 0 ((al,nl,kl),(vl,sl))).take n).map Prod.snd) 0=R by rw[<-hR];exact(QdT_ hl aq).symm);rw[hR];have aN:=h_ (h.2 _ (lm_ h0));have ab:=h.put (i:=0) oo (h.2 _ (lm_ aq));have aa:=XP_ w g 0 ((al,nl,kl),(vl,sl));unfold Wv_ at ab aa;rw[Nat.zero_mul,Nat.zero_add]at ab aa;dsimp only at ab aa;have m:=h_ (show((ds.set 0 ((al,nl,kl),(vl,sl))).take n).length=n by rw[List.length_take,List.length_set,hl];omega);generalize aI:(w.setCell ⟨g,0,none⟩ (S_ al nl kl)).setCell ⟨g,1,none⟩ (I_ j_ sl)=w1 at ab aa;have aJ:w1.heap.size=w.heap.size:=by rw[<-aI];simp[World.setCell]
 have aD:=h_ (((ab.cut (k:=n) oo ⟨_,rfl⟩).next (br.alloc (lr_ _) (C_ #[S_ none 0 0,I_ j_ 0] 185))).next (br.alloc (lr_ _) (C_ #[S_ E n0 k0,I_ j_ P] 185)));have aA:=h_ (Qz_ aa (Z3_ w1 (C_ #[S_ none 0 0,I_ j_ 0] 185) (C_ #[S_ E n0 k0,I_ j_ P] 185)));have aG:=h_ (show Blk ((w1.alloc (C_ #[S_ none 0 0,I_ j_ 0] 185)).alloc (C_ #[S_ E n0 k0,I_ j_ P] 185)) w.heap.size 185 #[S_ none 0 0,I_ j_ 0]from by rw[<-aJ];exact(Blk.new w1 _ _).alloc _);have az:=h_ (show Blk ((w1.alloc (C_ #[S_ none 0 0,I_ j_ 0] 185)).alloc (C_ #[S_ E n0 k0,I_ j_ P] 185)) (w.heap.size+1) 185 #[S_ E n0 k0,I_ j_ P]from by have h:=Blk.new (w1.alloc (C_ #[S_ none 0 0,I_ j_ 0] 185)) 185 #[S_ E n0 k0,I_ j_ P];rw[ws_,aJ]at h;exact h);rw[<-aI]at aD aA aG az;have bv:(n:Int)<=(c:Int):=oo;have aO:=h_ (show ∀q,some g=some q->∃cs,Blk w q 185 cs from fun q e=>by injection e with e;subst e;exact⟨_,aT⟩);clear h h0 aq hR ab aa aI aJ aT hl;have S:=h_ a;go_enter func142,ntmps142;go_wp2;clear Q L X Y a bi;go_loopw [6] (fun x wr=>∃(i f:Nat) (ds:List HSt),i<=n/\n+1<=i+f/\x=I_ j_ i/\Hid (ds.length=n)/\Hid (Y7_ f (ds.map Prod.snd) i=R)/\Hid (HpD B (some ⟨g,0,none⟩) n c ds wr)/\Hid (w.grownBy wr (some g))/\Hid (Blk wr w.heap.size 185 #[S_ none 0 0,I_ j_ 0])/\Hid (Blk wr (w.heap.size+1) 185 #[S_ E n0 k0,I_ j_ P])) (fun x _=>n - (intOf x).toNat)
 case atStart=>exact⟨0,n+1,_,lz_ _,oo,rfl,m,HR,aD,aA,aG,az⟩
 case round=>
  clear HR aD aA aG az m;obtain⟨i,f,ds,bE,bD,rfl,m,HE,HP,HG,HZ,HF⟩:=hrel;obtain⟨f,rfl⟩:∃q,f=q+1:=⟨f - 1,oo⟩;have a:g < wr.heap.size:=ll_ S.o HG.o.size;by_cases h1:2 * i+1 < n
  ·obtain⟨k,hk⟩:=ex_ (kR_ (ds.map Prod.snd) i);have aX:=Qdf_ (ds.map Prod.snd) i (by rw[List.length_map,m.o];exact h1);rw[hk,List.length_map,m.o]at aX;obtain⟨aU,ar,aV⟩:=aX;have HK:=h_ hk;clear hk;obtain⟨W0,rfl⟩:∃W0,W0=wr:=⟨_,rfl⟩
   go_upto_if 47 with fail
   obtain⟨p,hp⟩:∃p,p=2 * i+1:=⟨_,rfl⟩;have bx:=h_ hp;have bz:p < n:=oo;rw[show 2 * (i:Int)+1=(p:Int)from oo];obtain⟨z,hz⟩:=ex_ (decide (k=2 * i+2));have ag:=h_ hz;clear hz;go_cut [47] (fun x wx=>x=B_ z/\Hid (Below W0.heap.size W0 wx))
   case first=>
    obtain⟨⟨⟨T,n2,V⟩,v2,K⟩,t⟩:∃d,ds[2 * i+1]? =some d:=⟨_,gE (by rw[m.o];omega)⟩;obtain⟨X,Y,bl,F⟩:=HP.o.at0 (k:=2 * i+1) oo t;by_cases h2:2 * i+2 < n
    ·obtain⟨⟨⟨a1,n1,k1⟩,v1,s1⟩,y⟩:∃d,ds[2 * i+2]? =some d:=⟨_,gE (by rw[m.o];omega)⟩;obtain⟨Q,L,bk,O⟩:=HP.o.at0 (k:=2 * i+2) oo y;have v:=h_ (fun W h=>Z2_ a1 n1 k1 v1 s1 T n2 V v2 K W oo oo (O.next (w':=W) h) (F.next h));have N:=h_ (vW_ (by rw[m.o];exact h2) y t);have e2:IntKind.i64.wrap ((p:Int)+1)=(p:Int)+1:=(by rw[IntKind.wrap_i64];omega);have e3:decide ((p:Int)+1 < (n:Int))=true:=dt_ oo;have e4:(0:Int)<=(p:Int)+1:=oo;have e5:(p:Int) < (n:Int):=oo;have e6:((p:Int)+1).toNat=p+1:=oo;have e7:(p:Int)+1 < (n:Int):=oo;rw[show 2 * i+2=p+1 from oo]at Q L;rw[<-hp]at X Y
     cases s:Xt_ (v1,s1) (v2,K)with
     |true=>
      have ae:Hid (decide (k=2 * i+2)=true):=h_ (by rw[<-HK.o,N.o];dsimp only;rw[s];simp);rw[s]at v;clear s y t O F hp N;go_wp2
      go_region_held3 (fun w'=>w'.cell? ⟨g,(p+1) * 2,none⟩=some (S_ a1 n1 k1)/\w'.cell? ⟨g,(p+1) * 2+1,none⟩=some (I_ j_ s1)/\w'.cell? ⟨g,p * 2,none⟩=some (S_ T n2 V)/\w'.cell? ⟨g,p * 2+1,none⟩=some (I_ j_ K))
       (first|exact⟨Q,L,X,Y⟩|exact⟨G,H,I,J⟩)
       ((go_at_call 195;refine(v.o _ (by exact br.drew)).mono ?_;rintro e w8 ⟨rfl,h8⟩;have C:=h_ (show Below W0.heap.size W0 w8 from br.drew.trans h8);obtain⟨b,ah⟩:=QW_ C.o;have G:=(b _ _ a).trans Q;have H:=(b _ _ a).trans L;have I:=(b _ _ a).trans X;have J:=(b _ _ a).trans Y))
      clear e2 e3 e4 e5 e6 e7;go_wp2;go_meet;exact⟨congrArg _ (ae.o.symm.trans ag.o),C⟩
     |false=>
      have ae:Hid (decide (k=2 * i+2)=false):=h_ (by rw[<-HK.o,N.o];dsimp only;rw[s];simp);rw[s]at v;clear s y t O F hp N;go_wp2
      go_region_held3 (fun w'=>w'.cell? ⟨g,(p+1) * 2,none⟩=some (S_ a1 n1 k1)/\w'.cell? ⟨g,(p+1) * 2+1,none⟩=some (I_ j_ s1)/\w'.cell? ⟨g,p * 2,none⟩=some (S_ T n2 V)/\w'.cell? ⟨g,p * 2+1,none⟩=some (I_ j_ K))
       (first|exact⟨Q,L,X,Y⟩|exact⟨G,H,I,J⟩)
       ((go_at_call 195;refine(v.o _ (by exact br.drew)).mono ?_;rintro e w8 ⟨rfl,h8⟩;have C:=h_ (show Below W0.heap.size W0 w8 from br.drew.trans h8);obtain⟨b,ah⟩:=QW_ C.o;have G:=(b _ _ a).trans Q;have H:=(b _ _ a).trans L;have I:=(b _ _ a).trans X;have J:=(b _ _ a).trans Y))
      clear e2 e3 e4 e5 e6 e7;go_wp2;go_meet;exact⟨congrArg _ (ae.o.symm.trans ag.o),C⟩
    ·have N:=h_ (vV_ (l:=ds) (i:=i) (by rw[m.o];exact h2));have ae:Hid (decide (k=2 * i+2)=false):=h_ (by rw[<-HK.o,N.o];simp);have e2:IntKind.i64.wrap ((p:Int)+1)=(p:Int)+1:=(by rw[IntKind.wrap_i64];omega);have e1:decide ((p:Int)+1 < (n:Int))=false:=df_ oo;clear t F hp N;go_wp2;go_quiet (fail);go_wp2;go_meet;exact⟨congrArg _ (ae.o.symm.trans ag.o),h_ (below_drewN br _)⟩
   case rest=>
    obtain⟨rfl,D⟩:=hcut;have ax:k=p\/k=p+1:=(by rw[hp,<-HK.o];unfold kR_;split<;>simp);obtain⟨W1,rfl⟩:∃W1,W1=wc:=⟨_,rfl⟩
    go_upto_if 47 with fail
    go_cut [7] (fun x wx=>x=I_ j_ k/\Hid (Below W1.heap.size W1 wx))
    case first=>
     cases z with
     |true=>
      have ai:k=p+1:=(by have:=od_ ag.o;omega);have aC:=h_ ai;clear ai aV aU ar ax;go_wp2;go_meet;exact⟨by rw[aC.o];try go_num,h_ br⟩
     |false=>
      have ai:k=p:=(by have:=of_decide_eq_false ag.o;omega);have aC:=h_ ai;clear ai aV aU ar ax;go_wp2;go_meet;exact⟨by rw[aC.o];try go_num,h_ br⟩
    case rest=>
    obtain⟨rfl,av⟩:=hcut;replace D:=h_ (Qb_ D.o av.o);clear av hp;have Z:=h_ (HP.o.next D.o);have an:=h_ (Qz_ HG.o D.o);have ao:=h_ (HZ.o.next D.o);have am:=h_ (HF.o.next D.o);have a:=ll_ a D.o.size;clear HP HG HZ HF D;obtain⟨⟨⟨a1,n1,k1⟩,v1,s1⟩,y⟩:∃d,ds[k]? =some d:=⟨_,gE (by rw[m.o];omega)⟩;obtain⟨⟨⟨T,n2,V⟩,v2,K⟩,t⟩:∃d,ds[i]? =some d:=⟨_,gE (by rw[m.o];omega)⟩;obtain⟨Q,L,bk,O⟩:=Z.o.at0 (k:=k) ar y;obtain⟨X,Y,bl,F⟩:=Z.o.at0 (k:=i) oo t;have v:=h_ (fun W h=>Z2_ a1 n1 k1 v1 s1 T n2 V v2 K W oo oo (O.next (w':=W) h) (F.next h));have bF:(k:Int) < (n:Int):=oo;have bC:(i:Int) < (n:Int):=oo
    cases s:Xt_ (v1,s1) (v2,K)with
    |false=>
     have af:Hid (R=ds.map Prod.snd):=h_ (by rw[<-HE.o];exact zP_ HK.o y t s);rw[s]at v;clear s y t O F;go_wp2
     go_region_held3 (fun w'=>w'.cell? ⟨g,k * 2,none⟩=some (S_ a1 n1 k1)/\w'.cell? ⟨g,k * 2+1,none⟩=some (I_ j_ s1)/\w'.cell? ⟨g,i * 2,none⟩=some (S_ T n2 V)/\w'.cell? ⟨g,i * 2+1,none⟩=some (I_ j_ K))
      (first|exact⟨Q,L,X,Y⟩|exact⟨G,H,I,J⟩)
      ((go_at_call 195;refine(v.o _ (by exact br.drew)).mono ?_;rintro e w8 ⟨rfl,h8⟩;have C:=h_ (show Below wc.heap.size wc w8 from br.drew.trans h8);obtain⟨b,ah⟩:=QW_ C.o;have G:=(b _ _ a).trans Q;have H:=(b _ _ a).trans L;have I:=(b _ _ a).trans X;have J:=(b _ _ a).trans Y))
     have aE:=h_ (Z.o.next C.o);have aB:=h_ (Qz_ an.o C.o);have r:=h_ (ao.o.next C.o);have M:=h_ (am.o.next C.o);clear Z an ao am Q L X Y G H I J b ah C h8 v;obtain⟨f0,f1⟩:w8.cell? ⟨w.heap.size+1,0,none⟩=some (S_ E n0 k0)/\w8.cell? ⟨w.heap.size+1,1,none⟩=some (I_ j_ P):=⟨M.o.cell 0,M.o.cell 1⟩;obtain⟨r0,r1⟩:w8.cell? ⟨w.heap.size,0,none⟩=some (S_ none 0 0)/\w8.cell? ⟨w.heap.size,1,none⟩=some (I_ j_ 0):=⟨r.o.cell 0,r.o.cell 1⟩;have rf:=r.o.frozen;have rl:=r.o.lt;have fl:=M.o.lt;have A:g≠w.heap.size:=(by have:=S.o;omega);have aF:=h_ (((aE.o.off A r.o 0 (S_ E n0 k0)).off A (r.o.set_ 0 (S_ E n0 k0)) 1 (I_ j_ P)).next br.drew);have ad:=h_ (Qz_ (grow_cell (grow_cell aB.o (lr_ _) 0 (S_ E n0 k0)) (lr_ _) 1 (I_ j_ P)) br.drew);go_wp2
     go_region
     go_wp2_with fail
     refine bodyPost_ret (by simp[results,Tryz.results142,go_sem,r0,r1];try rfl) rfl ?_;exact⟨rfl,⟨ds,af.o.symm,aF.o⟩,aN.o.grown ad.o aO.o,ad.o⟩
    |true=>
     have af:Hid (Y7_ f ((Vx_ ds i k).map Prod.snd) k=R):=h_ (by rw[<-HE.o];exact(Qal_ (by rw[m.o];exact h1) HK.o y t s).symm);have bb:=h_ (fun W (h:HpD B (some ⟨g,0,none⟩) n c ds W)=>h.swap (i:=i) (j:=k) oo ar t y);rw[s]at v;clear s y t O F;go_wp2
     go_region_held3 (fun w'=>w'.cell? ⟨g,k * 2,none⟩=some (S_ a1 n1 k1)/\w'.cell? ⟨g,k * 2+1,none⟩=some (I_ j_ s1)/\w'.cell? ⟨g,i * 2,none⟩=some (S_ T n2 V)/\w'.cell? ⟨g,i * 2+1,none⟩=some (I_ j_ K))
      (first|exact⟨Q,L,X,Y⟩|exact⟨G,H,I,J⟩)
      ((go_at_call 195;refine(v.o _ (by exact br.drew)).mono ?_;rintro e w8 ⟨rfl,h8⟩;have C:=h_ (show Below wc.heap.size wc w8 from br.drew.trans h8);obtain⟨b,ah⟩:=QW_ C.o;have G:=(b _ _ a).trans Q;have H:=(b _ _ a).trans L;have I:=(b _ _ a).trans X;have J:=(b _ _ a).trans Y))
     have aR:=h_ (Z.o.next C.o);have ba:=h_ (Qz_ an.o C.o);have bd:=h_ (ao.o.next C.o);have a8:=h_ (am.o.next C.o);have bs:=ll_ a C.o.size;have bB:g < w.heap.size:=S.o;have bq:∀o,w8.frozen? ⟨g,o,none⟩=false:=(by obtain⟨q,e,_,_,hf,_⟩:=aR.o.blk oo;injection e with e;injection e with e;rw[e];exact hf);clear Q L X Y b ah C h8 a v Z an ao am;have aS:=h_ ((bb.o _ aR.o).next (br.alloc (lr_ _) (C_ #[S_ T n2 V,I_ j_ K] 185)));have aP:=h_ (Qz_ (grow_put (grow_put ba.o (.inl rfl) i ((a1,n1,k1),(v1,s1))) (.inl rfl) k ((T,n2,V),(v2,K))) (br.alloc (lr_ _) (C_ #[S_ T n2 V,I_ j_ K] 185)));unfold Wv_ at aS aP;have A:w.heap.size≠g:=oo;have U:w.heap.size+1≠g:=oo;have be:=h_ (((((bd.o.far (p:=⟨g,i * 2,none⟩) A (S_ a1 n1 k1)).far (p:=⟨g,i * 2+1,none⟩) A (I_ j_ s1)).far (p:=⟨g,k * 2,none⟩) A (S_ T n2 V)).far (p:=⟨g,k * 2+1,none⟩) A (I_ j_ K)).alloc (C_ #[S_ T n2 V,I_ j_ K] 185));have a9:=h_ (((((a8.o.far (p:=⟨g,i * 2,none⟩) U (S_ a1 n1 k1)).far (p:=⟨g,i * 2+1,none⟩) U (I_ j_ s1)).far (p:=⟨g,k * 2,none⟩) U (S_ T n2 V)).far (p:=⟨g,k * 2+1,none⟩) U (I_ j_ K)).alloc (C_ #[S_ T n2 V,I_ j_ K] 185));go_wp2;go_roundw
     case rel=>exact⟨k,f,Vx_ ds i k,oo,oo,rfl,h_ (by rw[Ga_];exact m.o),af,aS,aP,be,a9⟩
     case measure=>simp[intOf];omega
  ·have af:Hid (R=ds.map Prod.snd):=h_ (by rw[<-HE.o];exact xv_ (by rw[m.o];exact h1));have aE:=HP;have aB:=HG;have r:=HZ;have M:=HF;obtain⟨f0,f1⟩:wr.cell? ⟨w.heap.size+1,0,none⟩=some (S_ E n0 k0)/\wr.cell? ⟨w.heap.size+1,1,none⟩=some (I_ j_ P):=⟨M.o.cell 0,M.o.cell 1⟩;obtain⟨r0,r1⟩:wr.cell? ⟨w.heap.size,0,none⟩=some (S_ none 0 0)/\wr.cell? ⟨w.heap.size,1,none⟩=some (I_ j_ 0):=⟨r.o.cell 0,r.o.cell 1⟩;have rf:=r.o.frozen;have rl:=r.o.lt;have fl:=M.o.lt;have A:g≠w.heap.size:=(by have:=S.o;omega);have aF:=h_ (((aE.o.off A r.o 0 (S_ E n0 k0)).off A (r.o.set_ 0 (S_ E n0 k0)) 1 (I_ j_ P)).next br.drew);have ad:=h_ (Qz_ (grow_cell (grow_cell aB.o (lr_ _) 0 (S_ E n0 k0)) (lr_ _) 1 (I_ j_ P)) br.drew);go_wp2
   go_region
   go_wp2_with fail
   refine bodyPost_ret (by simp[results,Tryz.results142,go_sem,r0,r1];try rfl) rfl ?_;exact⟨rfl,⟨ds,af.o.symm,aF.o⟩,aN.o.grown ad.o aO.o,ad.o⟩
open Go.RowKit Go.Sort
abbrev hunC (m:Int) (A0:OA) (n0 c0:Nat) (A1:OA) (n1 c1:Nat) (A2:OA) (n2 c2:Nat) (A3:OA) (n3 c3:Nat) (wd:Int) (Ab:OA) (nb cb:Nat) (co cs:Int) (Ah:OA) (nh ch:Nat) (pops:Int):Array Value:=
 #[I_ j_ m,S_ A0 n0 c0,S_ A1 n1 c1,S_ A2 n2 c2,S_ A3 n3 c3,I_ j_ wd,S_ Ab nb cb,I_ j_ co,I_ j_ cs,S_ Ah nh ch,I_ j_ pops]
theorem Yk_ {w:World} {T:Nat} {t:TypeId} {m:Int} {A0 A1 A2 A3 Ab Ah:OA} {n0 c0 n1 c1 n2 c2 n3 c3 nb cb nh ch:Nat} {wd co cs pops:Int} (h:Blk w T t (hunC m A0 n0 c0 A1 n1 c1 A2 n2 c2 A3 n3 c3 wd Ab nb cb co cs Ah nh ch pops)):
  (w.cell? ⟨T,0,none⟩=some (I_ j_ m)/\w.cell? ⟨T,1,none⟩=some (S_ A0 n0 c0)/\w.cell? ⟨T,2,none⟩=some (S_ A1 n1 c1)/\w.cell? ⟨T,3,none⟩=some (S_ A2 n2 c2)/\w.cell? ⟨T,4,none⟩=some (S_ A3 n3 c3)/\w.cell? ⟨T,5,none⟩=some (I_ j_ wd))/\
  (w.cell? ⟨T,6,none⟩=some (S_ Ab nb cb)/\w.cell? ⟨T,7,none⟩=some (I_ j_ co)/\w.cell? ⟨T,8,none⟩=some (I_ j_ cs)/\w.cell? ⟨T,9,none⟩=some (S_ Ah nh ch)/\w.cell? ⟨T,10,none⟩=some (I_ j_ pops))/\(∀o,w.frozen? ⟨T,o,none⟩=false)/\T < w.heap.size:=
 ⟨⟨h.cell 0,h.cell 1,h.cell 2,h.cell 3,h.cell 4,h.cell 5⟩,⟨h.cell 6,h.cell 7,h.cell 8,h.cell 9,h.cell 10⟩,h.frozen,h.lt⟩
structure Hu where
 P:Hn
 A0:OA
 c0:Nat
 A1:OA
 c1:Nat
 A2:OA
 c2:Nat
 A3:OA
 c3:Nat
 w0:World
 T:Nat
def Hu.cells (D:Hu) (Ab:OA) (nb cb:Nat) (co cs:Int) (Ah:OA) (nh ch:Nat) (pops:Int):Array Value:=
 hunC D.P.m D.A0 D.P.l0.length D.c0 D.A1 D.P.l1.length D.c1 D.A2 D.P.l2.length D.c2 D.A3 D.P.l3.length D.c3 D.P.width Ab nb cb co cs Ah nh ch pops
structure HuA (D:Hu) (best:LI) (cost:Int × Int) (hl:List SSt) (pops:Int) (Ab:OA) (nb cb:Nat) (Ah:OA) (nh ch:Nat) (w:World):Prop where
 blk:Blk w D.T 241 (D.cells Ab nb cb cost.1 cost.2 Ah nh ch pops)
 best:nb<=8/\Mine w D.w0.heap.size 3 1 Ab nb cb (Qa_ best)
 heap:HpM D.w0.heap.size Ah nh ch hl w
 bT:D.w0.heap.size<=D.T
 old:Below D.w0.heap.size D.w0 w
structure HuK (D:Hu):Prop where
 M:PcM D.P D.A0 D.A1 D.A2 D.A3 D.w0
 R:PcR D.P
def HuM (D:Hu) (best:LI) (cost:Int × Int) (hl:List SSt) (pops:Int) (w:World):Prop:=∃Ab nb cb Ah nh ch,HuA D best cost hl pops Ab nb cb Ah nh ch w
section
variable {D:Hu} {best:LI} {cost:Int × Int} {hl:List SSt} {pops:Int} {Ab Ah:OA} {nb cb nh ch:Nat} {w w':World}
theorem HuA.next (h:HuA D best cost hl pops Ab nb cb Ah nh ch w) (k:Below w.heap.size w w'):HuA D best cost hl pops Ab nb cb Ah nh ch w':=⟨h.blk.next k,⟨h.best.1,h.best.2.next k⟩,h.heap.next k,h.bT,Qb_ h.old k⟩
theorem HuA.pc (h:HuA D best cost hl pops Ab nb cb Ah nh ch w) (hK:HuK D):PcM D.P D.A0 D.A1 D.A2 D.A3 w:=hK.M.next h.old
theorem HpM.set {B:Nat} {A:OA} {n c:Nat} {l:List SSt} {w:World} (h:HpM B A n c l w) {q:Nat} {t:TypeId} {cs:Array Value} (hb:Blk w q t cs) (h1:t≠3) (h2:t≠185) (j:Nat) (u:Value):HpM B A n c l (w.setCell ⟨q,j,none⟩ u):=by
 obtain⟨ds,e,h3,h4⟩:=h;exact⟨ds,e,Qt_ h3 hb (Ne.symm h2) _ _,fun d hd=>⟨(h4 d hd).1,Qt_ (h4 d hd).2 hb (Ne.symm h1) _ _⟩⟩
end
theorem HuA.off {D:Hu} {best:LI} {cost:Int × Int} {hl:List SSt} {pops:Int} {Ab Ah:OA} {nb cb nh ch:Nat} {w:World} (h:HuA D best cost hl pops Ab nb cb Ah nh ch w) {q:Nat} {cs:Array Value} (a:Blk w q 182 cs) (hq:D.w0.heap.size<=q) (j:Nat) (u:Value):HuA D best cost hl pops Ab nb cb Ah nh ch (w.setCell ⟨q,j,none⟩ u):=
 ⟨h.blk.far (Kj_ h.blk a dc_) u,⟨h.best.1,Qt_ h.best.2 a dc_ _ _⟩,h.heap.set a dc_ dc_ _ _,h.bT,h.old.setCell hq _⟩
theorem HuA.keep {D:Hu} {best:LI} {cost:Int × Int} {hl:List SSt} {pops:Int} {Ab Ah:OA} {nb cb nh ch:Nat} {w:World} (h:HuA D best cost hl pops Ab nb cb Ah nh ch w) {a:OA} {na ca:Nat} {v:LI} (hv:na<=8/\Mine w D.w0.heap.size 3 1 a na ca (Qa_ v)) (o s:Int):
  HuA D v (o,s) hl pops a na ca Ah nh ch (((w.setCell ⟨D.T,6,none⟩ (S_ a na ca)).setCell ⟨D.T,7,none⟩ (I_ j_ o)).setCell ⟨D.T,8,none⟩ (I_ j_ s)):=by
 have b:=h.blk.set_ 6 (S_ a na ca);have c:=b.set_ 7 (I_ j_ o);exact⟨c.set_ 8 (I_ j_ s),⟨hv.1,Qt_ (Qt_ (Qt_ hv.2 h.blk dc_ _ _) b dc_ _ _) c dc_ _ _⟩,((h.heap.set h.blk dc_ dc_ _ _).set b dc_ dc_ _ _).set c dc_ dc_ _ _,h.bT,((h.old.setCell h.bT _).setCell h.bT _).setCell h.bT _⟩
theorem vu_ {a b:Int × Int} {v u:LI} (h:KQ_ a b=true):Zd_ a v b u=true:=by unfold Zd_;rw[h];rfl
theorem vv_ {a b:Int × Int} {v u:LI} (h:KQ_ a b=false) (c:¬a=b):Zd_ a v b u=false:=by unfold Zd_;rw[h,df_ c];rfl
theorem Uz_ {a:Int × Int} {v u:LI} (h:KQ_ a a=false):Zd_ a v a u=decide (X0_ v u < 0):=by unfold Zd_;rw[h,dt_ rfl];rfl
def HuR (D:Hu) (best:LI) (cost:Int × Int) (hl:List SSt) (pops:Int) (e:Ending) (w':World):Prop:=e=R_ (U_ #[])/\HuM D best cost hl pops w'
theorem jo_ (D:Hu) (hK:HuK D) (best:LI) (cost:Int × Int) (hl:List SSt) (pops:Int) (Ab:OA) (nb cb:Nat) (Ah:OA) (nh ch:Nat) (a:OA) (na ca:Nat) (v:LI) (w:World) (H:HuA D best cost hl pops Ab nb cb Ah nh ch w) (hv:Mine w D.w0.heap.size 3 1 a na ca (Qa_ v)) (O:ValR D.P v) (N:v.length=D.P.l0.length):
  Calls prog 272 #[P_ (some ⟨D.T,0,none⟩),S_ a na ca] w (HuR D (if Zd_ (D.P.cost v) v cost best=true then v else best) (if Zd_ (D.P.cost v) v cost best=true then D.P.cost v else cost) hl pops):=by
 have an:na<=8:=by have h1:=hv.len;have h2:=O.1;have h3:=hK.R.n0;simp[Qa_]at h1;omega
 have R:=h_ (fun W h=>GT_ D.P D.A0 D.A1 D.A2 D.A3 D.c0 D.c1 D.c2 D.c3 a na ca v W ((H.pc hK).next (w':=W) h) hK.R (hv.rd.next h) O N);have HV:=h_ hv;have ad:=h_ (fun W h=>Vg_ a na ca v Ab nb cb best W oo (by have:=H.best.1;omega) (hv.rd.next (w':=W) h) (H.best.2.rd.next h));have HH:=h_ H;obtain⟨co,cs⟩:=cost;obtain⟨⟨o,s⟩,ao⟩:=ex_ (D.P.cost v);rw[ao]at R |-
 obtain⟨rb,F⟩:=ex_ (if Zd_ (o,s) v (co,cs) best=true then v else best);obtain⟨rc,G⟩:=ex_ (if Zd_ (o,s) v (co,cs) best=true then (o,s)else (co,cs));rw[F,G];have A:=h_ (show Zd_ (o,s) v (co,cs) best=true->rb=v/\rc=(o,s)from fun h=>by rw[ip_ h]at F G;exact⟨F.symm,G.symm⟩);have z:=h_ (show Zd_ (o,s) v (co,cs) best=false->rb=best/\rc=(co,cs)from fun h=>by rw[in_ (by rw[h];simp)]at F G;exact⟨F.symm,G.symm⟩);clear F G;have L:=H.blk;unfold Hu.cells at L;obtain⟨⟨q0,q1,q2,q3,q4,q5⟩,⟨q6,q7,P,T,y⟩,U,aD⟩:=Yk_ L;dsimp only at q7 P;unfold pcCells at R;clear hv O N H hK L ao;have Q:=h_ (show Below w.heap.size w (w.alloc (C_ #[I_ j_ 0,I_ j_ 0] 182)).drew from bra.drew);have ac:=h_ (show Blk (w.alloc (C_ #[I_ j_ 0,I_ j_ 0] 182)).drew w.heap.size 182 #[I_ j_ 0,I_ j_ 0]from Blk.new _ _ _);have HT:=h_ aD;have al:D.T≠w.heap.size:=oo;obtain⟨p0,p1,p2,p3,p4,p5⟩:=(Yk_ (show Blk (w.alloc (C_ #[I_ j_ 0,I_ j_ 0] 182)).drew D.T 241 (hunC D.P.m D.A0 D.P.l0.length D.c0 D.A1 D.P.l1.length D.c1 D.A2 D.P.l2.length D.c2 D.A3 D.P.l3.length D.c3 D.P.width Ab nb cb co cs Ah nh ch pops)from HH.o.blk.alloc _)).1;go_enter func272,ntmps272;go_upto_region 0 with fail
 go_cut [4] (fun p B=>∃g,p=P_ (some ⟨g,0,none⟩)/\Hid (Blk B g 182 #[I_ j_ o,I_ j_ s])/\Hid (HuA D best (co,cs) hl pops Ab nb cb Ah nh ch B)/\D.T < g/\Hid (Below w.heap.size w B))
 case first=>
  go_region_held3 (fun w'=>w'.cell? ⟨D.T,0,none⟩=some (I_ j_ D.P.m)/\w'.cell? ⟨D.T,1,none⟩=some (S_ D.A0 D.P.l0.length D.c0)/\w'.cell? ⟨D.T,2,none⟩=some (S_ D.A1 D.P.l1.length D.c1)/\w'.cell? ⟨D.T,3,none⟩=some (S_ D.A2 D.P.l2.length D.c2)/\w'.cell? ⟨D.T,4,none⟩=some (S_ D.A3 D.P.l3.length D.c3)/\w'.cell? ⟨D.T,5,none⟩=some (I_ j_ D.P.width))
   (first|exact⟨q0,q1,q2,q3,q4,q5⟩|exact⟨p0,p1,p2,p3,p4,p5⟩|exact(Yk_ K8.o).1|exact(Yk_ (K8.o.alloc _)).1|exact(Yk_ ((K8.o.far (p:=⟨w.heap.size,0,none⟩) al _).far (p:=⟨w.heap.size,1,none⟩) al _)).1)
   ((go_at_call 270;refine(R.o _ (by first|exact Q.o|exact br.drew)).mono ?_;rintro e w8 ⟨rfl,h8⟩;have H8:Hid (HuA D best (co,cs) hl pops Ab nb cb Ah nh ch w8):=h_ (by first|exact(HH.o.next Q.o).next h8|exact HH.o.next (br.drew.trans h8));have K8:Hid (Blk w8 D.T 241 (hunC D.P.m D.A0 D.P.l0.length D.c0 D.A1 D.P.l1.length D.c1 D.A2 D.P.l2.length D.c2 D.A3 D.P.l3.length D.c3 D.P.width Ab nb cb co cs Ah nh ch pops)):=h_ H8.o.blk;have B8:Hid (Below w.heap.size w w8):=h_ (by first|exact Qb_ Q.o h8|exact br.drew.trans h8);have aC:w.heap.size<=w8.heap.size:=B8.o.size;try (have Z:=h_ (ac.o.next h8);have z0:w8.cell? ⟨w.heap.size,0,none⟩=some (I_ j_ 0):=Z.o.cell 0;have z1:w8.cell? ⟨w.heap.size,1,none⟩=some (I_ j_ 0):=Z.o.cell 1;have zf:=Z.o.frozen;have zl:=Z.o.lt)))
  all_goals (go_wp2_with fail;go_meet)
  ·exact⟨_,rfl,h_ (Blk.new _ _ _),h_ (H8.o.next bra),oo,h_ (B8.o.alloc aC _)⟩
  ·have aq:D.w0.heap.size<=w.heap.size:=HH.o.old.size;exact⟨_,rfl,h_ ((Z.o.set_ 0 (I_ j_ o)).set_ 1 (I_ j_ s)),h_ ((H8.o.off Z.o aq 0 (I_ j_ o)).off (Z.o.set_ 0 (I_ j_ o)) aq 1 (I_ j_ s)),oo,h_ ((B8.o.setCell (lr_ _) _).setCell (lr_ _) _)⟩
 case rest=>
  obtain⟨gc,rfl,E,K,aE,I⟩:=hcut;clear q0 q1 q2 q3 q4 q5 q6 q7 P T y U p0 p1 p2 p3 p4 p5 ac Q R;obtain⟨_,⟨q6,q7,P,T,y⟩,U,d⟩:=Yk_ (show Blk wc D.T 241 (hunC D.P.m D.A0 D.P.l0.length D.c0 D.A1 D.P.l1.length D.c1 D.A2 D.P.l2.length D.c2 D.A3 D.P.l3.length D.c3 D.P.width Ab nb cb co cs Ah nh ch pops)from K.o.blk);have X:wc.cell? ⟨gc,0,none⟩=some (I_ j_ o):=E.o.cell 0;have Y:wc.cell? ⟨gc,1,none⟩=some (I_ j_ s):=E.o.cell 1;have t:=E.o.lt;have f0:=fun n l=>cell_grown (by exact t) X n l
  have f1:=fun n l=>cell_grown (by exact t) Y n l
  have f6:=fun n l=>cell_grown (by exact d) q6 n l
  have f7:=fun n l=>cell_grown (by exact d) q7 n l
  have f8:=fun n l=>cell_grown (by exact d) P n l
  have k:prog.follows .mixedOrders=true:=by kernel_rfl
  cases j:KQ_ (o,s) (co,cs)with
  |true=>
   have J:=h_ (fun(q:Nat) (l:Array Obj)=>Calls.grown_of (show Calls prog 286 #[A_ #[I_ j_ o,I_ j_ s],A_ #[I_ j_ co,I_ j_ cs]] (grow (wc.drewN q) l) (GrR (B_ true) (grow (wc.drewN q) l))by rw[<-j];exact Y0_ o s co cs _));have V:=h_ (A.o (vu_ j));clear j A z X Y q6 q7 P T y U t d;go_upto_region 1 with fail
   refine wp_region_quiet_grown k nr_ ?_
   repeat (first|go_big_quiet_step ((go_at_call 286;with_reducible exact(J.o _ _)))|quiet_step ((go_at_call 286;with_reducible exact(J.o _ _))))
   refine wpQuiet_nil ?_;intro _ x;obtain⟨⟨nq,osq⟩,f⟩:=x;subst f;have b:=Go.Lib.below_grow wc.heap.size wc (lr_ _) nq osq;have i:=h_ (K.o.next b);have m:=h_ (E.o.next b);have C:=h_ (Qb_ I.o b);clear f0 f1 f6 f7 f8 b K E I;generalize grow (wc.drewN nq) osq=B at *;obtain⟨_,⟨q6,q7,P,T,y⟩,U,d⟩:=Yk_ (show Blk B D.T 241 (hunC D.P.m D.A0 D.P.l0.length D.c0 D.A1 D.P.l1.length D.c1 D.A2 D.P.l2.length D.c2 D.A3 D.P.l3.length D.c3 D.P.width Ab nb cb co cs Ah nh ch pops)from i.o.blk);have X:B.cell? ⟨gc,0,none⟩=some (I_ j_ o):=m.o.cell 0;have Y:B.cell? ⟨gc,1,none⟩=some (I_ j_ s):=m.o.cell 1;have t:=m.o.lt;have HK:=h_ (i.o.keep ⟨an,HV.o.next C.o⟩ o s);go_wp2
   go_region
   go_wp2;go_end0;obtain⟨rfl,rfl⟩:=V.o;exact⟨rfl,_,_,_,_,_,_,HK.o.next br.drew⟩
  |false=>
   have J:=h_ (fun(q:Nat) (l:Array Obj)=>Calls.grown_of (show Calls prog 286 #[A_ #[I_ j_ o,I_ j_ s],A_ #[I_ j_ co,I_ j_ cs]] (grow (wc.drewN q) l) (GrR (B_ false) (grow (wc.drewN q) l))by rw[<-j];exact Y0_ o s co cs _));by_cases M:(o,s)=(co,cs)
   ·injection M with h1 h2;subst h1;subst h2;by_cases S:X0_ v best < 0
    ·have V:=h_ (A.o (by rw[Uz_ j,dt_ S]));have HM:=h_ (fun(q:Nat) (l:Array Obj)=>Calls.grown_of (show Calls prog 287 #[S_ a na ca,S_ Ab nb cb] (grow (wc.drewN q) l) (GrR (I_ j_ (X0_ v best)) (grow (wc.drewN q) l))from(ad.o _ (Qb_ I.o (Go.Lib.below_grow wc.heap.size wc (lr_ _) q l))).mono fun _ _ h=>⟨h.1,0,#[],by rw[<-h.2];exact(grow_empty _).symm⟩));clear j A z X Y q6 q7 P T y U t d;have am:decide (X0_ v best < 0)=true:=dt_ S;go_upto_region 1 with fail
     refine wp_region_quiet_grown k nr_ ?_
     repeat (first|go_big_quiet_step ((first|go_at_call 286;with_reducible exact(J.o _ _)|go_at_call 287;with_reducible exact(HM.o _ _)))|quiet_step ((first|go_at_call 286;with_reducible exact(J.o _ _)|go_at_call 287;with_reducible exact(HM.o _ _))))
     refine wpQuiet_nil ?_;intro _ x;obtain⟨⟨nq,osq⟩,f⟩:=x;subst f;have b:=Go.Lib.below_grow wc.heap.size wc (lr_ _) nq osq;have i:=h_ (K.o.next b);have m:=h_ (E.o.next b);have C:=h_ (Qb_ I.o b);clear f0 f1 f6 f7 f8 b K E I;generalize grow (wc.drewN nq) osq=B at *;obtain⟨_,⟨q6,q7,P,T,y⟩,U,d⟩:=Yk_ (show Blk B D.T 241 (hunC D.P.m D.A0 D.P.l0.length D.c0 D.A1 D.P.l1.length D.c1 D.A2 D.P.l2.length D.c2 D.A3 D.P.l3.length D.c3 D.P.width Ab nb cb o s Ah nh ch pops)from i.o.blk);have X:B.cell? ⟨gc,0,none⟩=some (I_ j_ o):=m.o.cell 0;have Y:B.cell? ⟨gc,1,none⟩=some (I_ j_ s):=m.o.cell 1;have t:=m.o.lt;have HK:=h_ (i.o.keep ⟨an,HV.o.next C.o⟩ o s);go_wp2
     go_region
     go_wp2;go_end0;obtain⟨rfl,rfl⟩:=V.o;exact⟨rfl,_,_,_,_,_,_,HK.o.next br.drew⟩
    ·have V:=h_ (z.o (by rw[Uz_ j,df_ S]));have HM:=h_ (fun(q:Nat) (l:Array Obj)=>Calls.grown_of (show Calls prog 287 #[S_ a na ca,S_ Ab nb cb] (grow (wc.drewN q) l) (GrR (I_ j_ (X0_ v best)) (grow (wc.drewN q) l))from(ad.o _ (Qb_ I.o (Go.Lib.below_grow wc.heap.size wc (lr_ _) q l))).mono fun _ _ h=>⟨h.1,0,#[],by rw[<-h.2];exact(grow_empty _).symm⟩));clear j A z X Y q6 q7 P T y U t d;have am:decide (X0_ v best < 0)=false:=df_ S;go_upto_region 1 with fail
     refine wp_region_quiet_grown k nr_ ?_
     repeat (first|go_big_quiet_step ((first|go_at_call 286;with_reducible exact(J.o _ _)|go_at_call 287;with_reducible exact(HM.o _ _)))|quiet_step ((first|go_at_call 286;with_reducible exact(J.o _ _)|go_at_call 287;with_reducible exact(HM.o _ _))))
     refine wpQuiet_nil ?_;intro _ x;obtain⟨⟨nq,osq⟩,f⟩:=x;subst f;have b:=Go.Lib.below_grow wc.heap.size wc (lr_ _) nq osq;have i:=h_ (K.o.next b);have m:=h_ (E.o.next b);have C:=h_ (Qb_ I.o b);clear f0 f1 f6 f7 f8 b K E I;generalize grow (wc.drewN nq) osq=B at *;go_wp2;go_end0;obtain⟨rfl,rfl⟩:=V.o;exact⟨rfl,_,_,_,_,_,_,i.o⟩
   ·have V:=h_ (z.o (vv_ j M));by_cases h1:o=co
    ·subst h1;have aB:(s==cs)=false:=(by rw[bn_];exact fun e=>M (by rw[e]));clear j A z X Y q6 q7 P T y U t d M;go_upto_region 1 with fail
     refine wp_region_quiet_grown k nr_ ?_
     repeat (first|go_big_quiet_step ((go_at_call 286;with_reducible exact(J.o _ _)))|quiet_step ((go_at_call 286;with_reducible exact(J.o _ _))))
     refine wpQuiet_nil ?_;intro _ x;obtain⟨⟨nq,osq⟩,f⟩:=x;subst f;have b:=Go.Lib.below_grow wc.heap.size wc (lr_ _) nq osq;have i:=h_ (K.o.next b);have m:=h_ (E.o.next b);have C:=h_ (Qb_ I.o b);clear f0 f1 f6 f7 f8 b K E I;generalize grow (wc.drewN nq) osq=B at *;go_wp2;go_end0;obtain⟨rfl,rfl⟩:=V.o;exact⟨rfl,_,_,_,_,_,_,i.o⟩
    ·have aB:(o==co)=false:=(by rw[bn_];exact h1);clear j A z X Y q6 q7 P T y U t d M;go_upto_region 1 with fail
     refine wp_region_quiet_grown k nr_ ?_
     repeat (first|go_big_quiet_step ((go_at_call 286;with_reducible exact(J.o _ _)))|quiet_step ((go_at_call 286;with_reducible exact(J.o _ _))))
     refine wpQuiet_nil ?_;intro _ x;obtain⟨⟨nq,osq⟩,f⟩:=x;subst f;have b:=Go.Lib.below_grow wc.heap.size wc (lr_ _) nq osq;have i:=h_ (K.o.next b);have m:=h_ (E.o.next b);have C:=h_ (Qb_ I.o b);clear f0 f1 f6 f7 f8 b K E I;generalize grow (wc.drewN nq) osq=B at *;go_wp2;go_end0;obtain⟨rfl,rfl⟩:=V.o;exact⟨rfl,_,_,_,_,_,_,i.o⟩
open Go.RowKit Go.Sort
theorem HuA.pushed {D:Hu} {best:LI} {cost:Int × Int} {hl hl':List SSt} {pops:Int} {Ab Ah Ah':OA} {nb cb nh ch nh' ch':Nat} {w w':World} (h:HuA D best cost hl pops Ab nb cb Ah nh ch w) (d:w.grownBy w' (Ah.map (·.block))) (hp:HpM D.w0.heap.size Ah' nh' ch' hl' w'):
  Blk w' D.T 241 (D.cells Ab nb cb cost.1 cost.2 Ah nh ch pops)/\HuA D best cost hl' pops Ab nb cb Ah' nh' ch' (w'.setCell ⟨D.T,9,none⟩ (S_ Ah' nh' ch')):=by
 obtain⟨ds,_,hm,_⟩:=h.heap;have a:∀g,Ah.map (·.block)=some g->∃cs,Blk w g 185 cs:=fun g e=>Qw_ hm e
 have c:Blk w' D.T 241 (D.cells Ab nb cb cost.1 cost.2 Ah nh ch pops):=h.blk.grown d (fun e=>by
  obtain⟨cs,b⟩:=a _ e.symm;exact Kj_ h.blk b dc_ rfl)
 have m1:Mine w' D.w0.heap.size 3 1 Ab nb cb (Qa_ best):=h.best.2.grown d (fun g e=>.inr (fun e2=>by
  obtain⟨cs,b⟩:=a _ e;obtain⟨f,b2⟩:=Qw_ h.best.2 e2;exact Kj_ b2 b dc_ rfl))
 exact⟨c,c.set_ 9 (S_ Ah' nh' ch'),⟨h.best.1,Qt_ m1 c dc_ _ _⟩,hp.set c dc_ dc_ _ _,h.bT,(XY_ h.old d (fun g e=>(Mine.blk hm e).1)).setCell h.bT _⟩
theorem qK_ {P:Hn} {cost:Int × Int} {x:LI} {h:List SSt} {k:Nat} (hh:K5_ P.l3 (x++[(k:Int)])=false\/(cost.1=0/\cost.2 < P.bound (x++[(k:Int)]))):Jr_ P cost x h (k+1)=Jr_ P cost x h k:=by
 rw[VI_];unfold Jq_;dsimp only;rw[ip_ hh]
theorem UK_ {P:Hn} {cost:Int × Int} {x:LI} {h:List SSt} {k:Nat} (hh:¬(K5_ P.l3 (x++[(k:Int)])=false\/(cost.1=0/\cost.2 < P.bound (x++[(k:Int)])))):Jr_ P cost x h (k+1)=Wu_ (Jr_ P cost x h k) (x++[(k:Int)],P.bound (x++[(k:Int)])):=by
 rw[VI_];unfold Jq_;dsimp only;rw[in_ hh]
theorem kF_ (D:Hu) (hK:HuK D) (best:LI) (co cs:Int) (hl:List SSt) (pops:Int) (Ab:OA) (nb cb:Nat) (Ah:OA) (nh ch:Nat) (a:OA) (na ca:Nat) (v:LI) (s:Int) (w:World) (H:HuA D best (co,cs) hl pops Ab nb cb Ah nh ch w) (hx:HIn D.w0.heap.size w ((a,na,ca),(v,s))) (S:ValR D.P v) (ap:v.length < D.P.l0.length) (bp:nh<=900000):
  Calls prog 273 #[P_ (some ⟨D.T,0,none⟩),A_ #[S_ a na ca,I_ j_ s]] w (HuR D best (co,cs) (QbJ_ D.P (co,cs) v hl) pops):=by
 have ar:v.length=na:=K2_ hx.2.rd;obtain⟨⟨dv,dc⟩,hd⟩:∃d,D.P.l0[v.length]? =some d:=⟨_,List.getElem?_eq_getElem ap⟩;rw[JZ_ hd];have bj:dv<=3:=hK.R.few _ (lm_ hd);have bn:1<=dv:=(hK.R.rule _ (lm_ hd)).1;obtain⟨q,rfl⟩:=eo_ (show 0<=dv from oo);dsimp only;rw[it_];have HD:=h_ hd;have h8:=hK.R.n0;have aG:=h_ (show na < D.P.l0.length from oo);have bk:na<=7:=oo;have HK:=h_ hK;have aL:=h_ S;have a6:=h_ ar;have T:=h_ (show Below w.heap.size w (w.alloc (C_ #[S_ a na ca,I_ j_ s] 185))from Ql_ br);have O:=h_ (H.next T.o);have aJ:=h_ (Blk.new w 185 #[S_ a na ca,I_ j_ s]);have aK:=h_ (hx.2.next T.o);have i:=h_ (show ∀g,Ah.map (·.block)=some g->g≠w.heap.size from fun g e=>by
  obtain⟨ds,_,hm,_⟩:=H.heap;have:=(Mine.blk hm e).2;omega)
 have a8:=h_ H;obtain⟨b,off,am,hb,cx,cy⟩:=Xo_ (O.o.pc hK).r0 ap hd;rw[ar]at cx cy hd;have A:=O.o.blk;unfold Hu.cells at A;rw[am]at A;obtain⟨⟨q0,q1,q2,q3,q4,q5⟩,_,_,n⟩:=Yk_ A;obtain⟨N0,G⟩:=ex_ D.P.l0.length;have aP:=h_ am;have aS:(na:Int) < (N0:Int):=oo;rw[G]at q1;clear hx S ar hd hK H A ap am;go_enter func273,ntmps273;go_wp2
 go_region
 have V:=h_ (fun(W:World) (Ah:OA) (nh ch:Nat) (l:List SSt) (h:HuA D best (co,cs) l pops Ab nb cb Ah nh ch W)=>(show Blk W D.T 241 (hunC D.P.m (some ⟨b,off,none⟩) N0 D.c0 D.A1 D.P.l1.length D.c1 D.A2 D.P.l2.length D.c2 D.A3 D.P.l3.length D.c3 D.P.width Ab nb cb co cs Ah nh ch pops)from by have:=h.blk;unfold Hu.cells at this;rw[aP.o,G]at this;exact this));have aI:=h_ (show ∀(c0 c1 c2 c3:Nat),pcCells D.P D.A0 D.A1 D.A2 D.A3 c0 c1 c2 c3=pcC D.P.m (some ⟨b,off,none⟩) N0 c0 D.A1 D.P.l1.length c1 D.A2 D.P.l2.length c2 D.A3 D.P.l3.length c3 from fun c0 c1 c2 c3=>by unfold pcCells;rw[aP.o,G]);have aH:=h_ G;have aQ:D.T≠w.heap.size:=by have:=a8.o.blk.lt;omega
 clear q0 q1 q2 q3 q4 q5 n cx cy G hb aS;go_wp2;go_loopw [18] (fun x wr=>∃(k:Nat) (Ah:OA) (nh' ch:Nat),k<=q/\x=I_ j_ k/\nh'<=nh+k/\Hid (HuA D best (co,cs) (Jr_ D.P (co,cs) v hl k) pops Ab nb cb Ah nh' ch wr)/\Hid (Blk wr w.heap.size 185 #[S_ a na ca,I_ j_ s])/\Hid (Mine wr D.w0.heap.size 3 1 a na ca (Qa_ v))/\Hid (∀g,Ah.map (·.block)=some g->g≠w.heap.size)) (fun x _=>q - (intOf x).toNat)
 case atStart=>exact⟨0,Ah,nh,ch,lz_ _,rfl,oo,h_ (O.o.next br.drew),h_ aJ.o.drew,h_ aK.o.drew,i⟩
 case round=>
  clear O aJ aK i T;obtain⟨k,Ah,nh',ch,bo,rfl,bl,HX,HS,HM,i⟩:=hrel;by_cases hk:k < q
  ·have x0:wr.cell? ⟨w.heap.size,0,none⟩=some (S_ a na ca):=HS.o.cell 0;have xl:=HS.o.lt;have a5:=h_ (aL.o.snoc HK.o.R (by rw[a6.o,aH.o];rw[aH.o]at aG;exact aG.o) HD.o (q:=k) (by rw[it_];exact hk));go_wp2_with fail
   refine(QcE_ a na ca v wr HM.o.rd oo).mono ?_;rintro e w1 ⟨A3,c3,rfl,m3,b3⟩;have aE:=h_ m3;have aA:=h_ b3;have aO:=b3.size;clear m3 b3 x0 xl;go_upto_region 5 with(at_builtin;refine Uy_ (.tmp 23) (.tmp 25) aE aO rfl rfl er_ er_ oo ?_;intro A5 c5 w5 Z a2 aB)
   have ah:=h_ (aB.o _ aA.o);have Q:=h_ (HX.o.next ah.o);obtain⟨⟨q0,q1,q2,q3,q4,q5⟩,_,_,n⟩:=Yk_ (V.o _ _ _ _ _ Q.o);have L:=h_ (JK_ D.P D.A0 D.A1 D.A2 D.A3 D.c0 D.c1 D.c2 D.c3 A5 (na+1) c5 (v++[(k:Int)]) w5 (Q.o.pc HK.o) HK.o.R Z.o.rd a5.o);rw[aI.o]at L;obtain⟨bd,an⟩:=ex_ (D.P.bound (v++[(k:Int)]));rw[show YX_ D.P.l0 D.P.l1 D.P.l2 (v++[(k:Int)])=bd from an]at L;have K:=h_ an;clear an aB aA aE aO;go_wp2_with fail
   refine L.o.mono ?_;rintro e w6 ⟨rfl,b6⟩;have aM:=h_ (Qb_ ah.o b6);have R:=h_ (Q.o.next b6);have aa:=h_ (Z.o.next b6);clear q0 q1 q2 q3 q4 q5 n L Q Z ah a2 b6;obtain⟨⟨q0,q1,q2,q3,q4,q5⟩,_,_,n⟩:=Yk_ (V.o _ _ _ _ _ R.o);have M:=h_ (U6_ D.P D.A0 D.A1 D.A2 D.A3 D.c0 D.c1 D.c2 D.c3 A5 (na+1) c5 (v++[(k:Int)]) w6 (R.o.pc HK.o) HK.o.R.toPcOk aa.o.rd oo);rw[aI.o]at M;obtain⟨tv,aq⟩:=ex_ (K5_ D.P.l3 (v++[(k:Int)]));rw[aq]at M;have af:=h_ aq;clear aq;go_wp2_with fail
   refine M.o.mono ?_;rintro e w7 ⟨rfl,b7⟩;have aN:=h_ (Qb_ aM.o b7);have j:=h_ (R.o.next b7);have aF:=h_ (aa.o.next b7);clear q0 q1 q2 q3 q4 q5 n M R aa aM b7;obtain⟨⟨q0,q1,q2,q3,q4,q5⟩,⟨q6,q7,q8,q9,aT⟩,qf,n⟩:=Yk_ (V.o _ _ _ _ _ j.o);have B:=h_ (HS.o.next aN.o);have C:=h_ (HM.o.next aN.o);have bh:=HX.o.old.size;clear HX HS HM;have aC:=h_ (show D.w0.heap.size<=wr.heap.size from bh)
   cases tv with
   |false=>
    have ad:=h_ (qK_ (P:=D.P) (cost:=(co,cs)) (h:=hl) (.inl af.o));go_wp2;go_roundw
    case rel=>exact⟨k+1,Ah,nh',ch,oo,by go_num,oo,h_ (by rw[ad.o];exact j.o),B,C,i⟩
    case measure=>simp[intOf];omega
   |true=>
    by_cases o:co=0
    ·by_cases ao:cs < bd
     ·have ad:=h_ (qK_ (P:=D.P) (cost:=(co,cs)) (h:=hl) (x:=v) (k:=k) (.inr ⟨o,by rw[K.o];exact ao⟩));have aR:(co==0)=true:=(by rw[beq_iff_eq];exact o);clear o;go_wp2;go_roundw
      case rel=>exact⟨k+1,Ah,nh',ch,oo,by go_num,oo,h_ (by rw[ad.o];exact j.o),B,C,i⟩
      case measure=>simp[intOf];omega
     ·have c:=h_ (UK_ (P:=D.P) (cost:=(co,cs)) (h:=hl) (x:=v) (k:=k) (fun e=>e.elim (fun e=>by rw[af.o]at e;cases e) (fun e=>ao (by rw[<-K.o];exact e.2))));rw[K.o]at c;have aR:(co==0)=true:=(by rw[beq_iff_eq];exact o);have bm:decide (cs < bd)=false:=df_ ao;clear o;obtain⟨ds,I,r⟩:=j.o.heap;rw[<-I]at c;have X:=h_ r.1;have ab:=h_ r;have Y:=h_ (show HIn D.w0.heap.size w7 ((A5,na+1,c5),(v++[(k:Int)],bd))from⟨by dsimp only;omega,aF.o.more aC.o⟩);have U:=h_ j.o.old.size;clear I r;go_wp2_with fail
      refine(GU_ D.w0.heap.size Ah nh' ch ds A5 (na+1) c5 (v++[(k:Int)]) bd w7 ab.o Y.o oo U.o).mono ?_;rintro e w8 h8;obtain⟨F,c8,rfl,y,f,z⟩:=h8;have a1:=h_ f;have a4:=h_ y;have a7:=h_ z;obtain⟨E,J⟩:=j.o.pushed f y;have B9:=h_ E;have ai:=h_ J;have m:∀g,Ah.map (·.block)=some g->∃cs,Blk w7 g 185 cs:=fun g e=>Qw_ X.o e
      have ae:=h_ (show Blk (w8.setCell ⟨D.T,9,none⟩ (S_ (some ⟨F,0,none⟩) (nh'+1) c8)) w.heap.size 185 #[S_ a na ca,I_ j_ s]from(B.o.grown f (fun e=>i.o _ e.symm rfl)).far (p:=⟨D.T,9,none⟩) (Ne.symm aQ) _);have ag:=h_ (Qt_ (C.o.grown f (fun g e=>.inr (fun e2=>by
       obtain⟨be,b1⟩:=m _ e;obtain⟨bf,b2⟩:=Qw_ C.o e2;exact Kj_ b2 b1 dc_ rfl))) E dc_ 9 (S_ (some ⟨F,0,none⟩) (nh'+1) c8))
      have ac:Hid (∀g,(some (⟨F,0,none⟩:Addr)).map (·.block)=some g->g≠w.heap.size):=h_ (fun g e=>by
       have e2:F=g:=(by injection e);rcases z with h|h
       ·exact e2 ▸ i.o _ h
       ·have:=B.o.lt;omega)
      have t9:w8.cell? ⟨D.T,9,none⟩=some (S_ Ah nh' ch):=E.cell 9;have tf:=E.frozen;have tl:=E.lt;clear f y z E J m q0 q1 q2 q3 q4 q5 q6 q7 q8 q9 aT qf n;go_wp2;go_roundw
      case rel=>exact⟨k+1,some ⟨F,0,none⟩,nh'+1,c8,oo,by go_num,oo,h_ (by rw[c.o];exact ai.o),ae,ag,ac⟩
      case measure=>simp[intOf];omega
    ·have c:=h_ (UK_ (P:=D.P) (cost:=(co,cs)) (h:=hl) (x:=v) (k:=k) (fun e=>e.elim (fun e=>by rw[af.o]at e;cases e) (fun e=>o e.1)));rw[K.o]at c;have aR:(co==0)=false:=(by rw[bn_];exact o);obtain⟨ds,I,r⟩:=j.o.heap;rw[<-I]at c;have X:=h_ r.1;have ab:=h_ r;have Y:=h_ (show HIn D.w0.heap.size w7 ((A5,na+1,c5),(v++[(k:Int)],bd))from⟨by dsimp only;omega,aF.o.more aC.o⟩);have U:=h_ j.o.old.size;clear I r;go_wp2_with fail
     refine(GU_ D.w0.heap.size Ah nh' ch ds A5 (na+1) c5 (v++[(k:Int)]) bd w7 ab.o Y.o oo U.o).mono ?_;rintro e w8 h8;obtain⟨F,c8,rfl,y,f,z⟩:=h8;have a1:=h_ f;have a4:=h_ y;have a7:=h_ z;obtain⟨E,J⟩:=j.o.pushed f y;have B9:=h_ E;have ai:=h_ J;have m:∀g,Ah.map (·.block)=some g->∃cs,Blk w7 g 185 cs:=fun g e=>Qw_ X.o e
     have ae:=h_ (show Blk (w8.setCell ⟨D.T,9,none⟩ (S_ (some ⟨F,0,none⟩) (nh'+1) c8)) w.heap.size 185 #[S_ a na ca,I_ j_ s]from(B.o.grown f (fun e=>i.o _ e.symm rfl)).far (p:=⟨D.T,9,none⟩) (Ne.symm aQ) _);have ag:=h_ (Qt_ (C.o.grown f (fun g e=>.inr (fun e2=>by
      obtain⟨be,b1⟩:=m _ e;obtain⟨bf,b2⟩:=Qw_ C.o e2;exact Kj_ b2 b1 dc_ rfl))) E dc_ 9 (S_ (some ⟨F,0,none⟩) (nh'+1) c8))
     have ac:Hid (∀g,(some (⟨F,0,none⟩:Addr)).map (·.block)=some g->g≠w.heap.size):=h_ (fun g e=>by
      have e2:F=g:=(by injection e);rcases z with h|h
      ·exact e2 ▸ i.o _ h
      ·have:=B.o.lt;omega)
     have t9:w8.cell? ⟨D.T,9,none⟩=some (S_ Ah nh' ch):=E.cell 9;have tf:=E.frozen;have tl:=E.lt;clear f y z E J m q0 q1 q2 q3 q4 q5 q6 q7 q8 q9 aT qf n;go_wp2;go_roundw
     case rel=>exact⟨k+1,some ⟨F,0,none⟩,nh'+1,c8,oo,by go_num,oo,h_ (by rw[c.o];exact ai.o),ae,ag,ac⟩
     case measure=>simp[intOf];omega
  ·obtain rfl:q=k:=oo;go_wp2;go_end0;exact⟨rfl,_,_,_,_,_,_,HX.o⟩
open Go.RowKit Go.Sort
theorem HuA.popped {D:Hu} {best:LI} {cost:Int × Int} {hl:List SSt} {pops:Int} {Ab Ah:OA} {nb cb nh ch:Nat} {w:World} (h:HuA D best cost hl pops Ab nb cb Ah nh ch w) (p:Int):HuA D best cost hl p Ab nb cb Ah nh ch (w.setCell ⟨D.T,10,none⟩ (I_ j_ p)):=
 ⟨h.blk.set_ 10 (I_ j_ p),⟨h.best.1,Qt_ h.best.2 h.blk dc_ _ _⟩,h.heap.set h.blk dc_ dc_ _ _,h.bT,h.old.setCell h.bT _⟩
theorem HuA.best1 {D:Hu} {best:LI} {cost:Int × Int} {hl:List SSt} {pops:Int} {Ab Ah:OA} {nb cb nh ch:Nat} {w:World} (h:HuA D best cost hl pops Ab nb cb Ah nh ch w) {a:OA} {na ca:Nat} {v:LI} (hv:na<=8/\Mine w D.w0.heap.size 3 1 a na ca (Qa_ v)):HuA D v cost hl pops a na ca Ah nh ch (w.setCell ⟨D.T,6,none⟩ (S_ a na ca)):=
 ⟨h.blk.set_ 6 (S_ a na ca),⟨hv.1,Qt_ hv.2 h.blk dc_ _ _⟩,h.heap.set h.blk dc_ dc_ _ _,h.bT,h.old.setCell h.bT _⟩
theorem HuA.costs {D:Hu} {best:LI} {cost:Int × Int} {hl:List SSt} {pops:Int} {Ab Ah:OA} {nb cb nh ch:Nat} {w:World} (h:HuA D best cost hl pops Ab nb cb Ah nh ch w) (o s:Int):HuA D best (o,s) hl pops Ab nb cb Ah nh ch ((w.setCell ⟨D.T,7,none⟩ (I_ j_ o)).setCell ⟨D.T,8,none⟩ (I_ j_ s)):=by
 have a:=h.blk.set_ 7 (I_ j_ o);exact⟨a.set_ 8 (I_ j_ s),⟨h.best.1,Qt_ (Qt_ h.best.2 h.blk dc_ _ _) a dc_ _ _⟩,(h.heap.set h.blk dc_ dc_ _ _).set a dc_ dc_ _ _,h.bT,(h.old.setCell h.bT _).setCell h.bT _⟩
theorem HuA.heap1 {D:Hu} {best:LI} {cost:Int × Int} {hl hl':List SSt} {pops:Int} {Ab Ah Ah':OA} {nb cb nh ch nh' ch':Nat} {w:World} (h:HuA D best cost hl pops Ab nb cb Ah nh ch w) (hp:HpM D.w0.heap.size Ah' nh' ch' hl' w):HuA D best cost hl' pops Ab nb cb Ah' nh' ch' (w.setCell ⟨D.T,9,none⟩ (S_ Ah' nh' ch')):=
 ⟨h.blk.set_ 9 (S_ Ah' nh' ch'),⟨h.best.1,Qt_ h.best.2 h.blk dc_ _ _⟩,hp.set h.blk dc_ dc_ _ _,h.bT,h.old.setCell h.bT _⟩
theorem Qfm_ (w:World) {B:Nat} (hB:B<=w.heap.size):HpM B (some ⟨w.heap.size,0,none⟩) 1 1 [([],0)] (w.alloc (C_ #[S_ none 0 0,I_ j_ 0] 185)):=
 ⟨[((none,0,0),([],0))],rfl,Mine.mk_own ⟨[],Blk.new _ _ _,rfl⟩ rfl hB (lr_ _) mx_,fun d hd=>by
  obtain rfl:=ms1_.1 hd;exact⟨lz_ _,Mine.mk_nil _ _ _ _⟩⟩
theorem G4_ {P:Hn} {m:Nat} {best:LI} {cost:Int × Int} {h:List SSt} {x:SSt} (hx:h[0]? =some x):KJ_ P (m+1) best cost h=if x.1.length=P.l0.length then (if Zd_ (P.cost x.1) x.1 cost best=true then KJ_ P m x.1 (P.cost x.1) (Vr_ h)else KJ_ P m best cost (Vr_ h))else KJ_ P m best cost (QbJ_ P cost x.1 (Vr_ h)):=by
 cases h with
 |nil=>cases hx
 |cons y r=>obtain rfl:=oi_ hx;rfl
def RunR (D:Hu) (R:LI × Int) (e:Ending) (w':World):Prop:=e=R_ (I_ j_ R.2)/\∃cost hl pops,HuM D R.1 cost hl pops w'
theorem jn_ (D:Hu) (hK:HuK D) (N:Nat) (w:World) (H:HuA D [] (0,0) [] 0 none 0 0 none 0 0 w) (hN:N<=100000):
  Calls prog 252 #[P_ (some ⟨D.T,0,none⟩),I_ j_ (N:Int)] w (RunR D (KU_ D.P (N:Int))):=by
 obtain⟨R,hR⟩:=ex_ (KU_ D.P (N:Int));have HR:=h_ (show KJ_ D.P N (Ui_ D.P.l0) (D.P.cost (Ui_ D.P.l0)) [([],0)]=R by rw[<-hR];unfold KU_;rw[it_]);rw[hR];have aU:=hK.R.n0;have J:=h_ (VC_ D.P.l0);have T:=h_ (Gg_ hK.R);have HK:=h_ hK;have S:=h_ (Uk_ D.P D.A0 D.A1 D.A2 D.A3 D.c0 D.c1 D.c2 D.c3 w (H.pc hK) hK.R.toPcOk);have HH:=h_ H;have F:=H.blk;have aR:=H.old.size;have a9:=H.bT;unfold Hu.cells at F;obtain⟨⟨q0,q1,q2,q3,q4,q5⟩,⟨q6,q7,M,O,j⟩,Q,f⟩:=Yk_ F;unfold pcCells at S;clear hR hK H F;go_enter func252,ntmps252;go_wp2_with fail
 refine S.o.mono ?_;rintro e w1 ⟨a,ca,rfl,ak,ae⟩;rw[J.o]at ak |-
 have h1:=HH.o.next ae;obtain⟨⟨q0,q1,q2,q3,q4,q5⟩,⟨q6,q7,M,O,j⟩,Q,f⟩:=Yk_ (show Blk w1 D.T 241 (hunC D.P.m D.A0 D.P.l0.length D.c0 D.A1 D.P.l1.length D.c1 D.A2 D.P.l2.length D.c2 D.A3 D.P.l3.length D.c3 D.P.width none 0 0 0 0 none 0 0 0)from h1.blk);have HB:=h_ (h1.best1 (a:=a) (na:=D.P.l0.length) (ca:=ca) (v:=Ui_ D.P.l0) ⟨aU,ak.more aR⟩);have a4:=h_ ae;clear ae h1 ak S HH;go_upto_region 2 with fail
 clear q0 q1 q2 q3 q4 q5 q6 q7 M O j Q f;generalize w1.setCell ⟨D.T,6,none⟩ (S_ a D.P.l0.length ca)=W2 at *;obtain⟨⟨q0,q1,q2,q3,q4,q5⟩,⟨q6,q7,M,O,j⟩,Q,f⟩:=Yk_ (show Blk W2 D.T 241 (hunC D.P.m D.A0 D.P.l0.length D.c0 D.A1 D.P.l1.length D.c1 D.A2 D.P.l2.length D.c2 D.A3 D.P.l3.length D.c3 D.P.width a D.P.l0.length ca 0 0 none 0 0 0)from HB.o.blk);have K:=h_ (fun W (h:Below W2.heap.size W2 W)=>GT_ D.P D.A0 D.A1 D.A2 D.A3 D.c0 D.c1 D.c2 D.c3 a D.P.l0.length ca (Ui_ D.P.l0) W ((HB.o.pc HK.o).next h) HK.o.R (HB.o.best.2.rd.next h) T.o J.o);obtain⟨⟨o,s⟩,aE⟩:=ex_ (D.P.cost (Ui_ D.P.l0));rw[aE]at K HR;unfold pcCells at K;clear aE
 go_region_held3 (fun w'=>w'.cell? ⟨D.T,0,none⟩=some (I_ j_ D.P.m)/\w'.cell? ⟨D.T,1,none⟩=some (S_ D.A0 D.P.l0.length D.c0)/\w'.cell? ⟨D.T,2,none⟩=some (S_ D.A1 D.P.l1.length D.c1)/\w'.cell? ⟨D.T,3,none⟩=some (S_ D.A2 D.P.l2.length D.c2)/\w'.cell? ⟨D.T,4,none⟩=some (S_ D.A3 D.P.l3.length D.c3)/\w'.cell? ⟨D.T,5,none⟩=some (I_ j_ D.P.width)/\w'.cell? ⟨D.T,6,none⟩=some (S_ a D.P.l0.length ca))
  (first|exact⟨q0,q1,q2,q3,q4,q5,q6⟩|exact⟨p0,p1,p2,p3,p4,p5,p6⟩|(obtain⟨⟨r0,r1,r2,r3,r4,r5⟩,⟨r6,_⟩,_⟩:=Yk_ (show Blk _ D.T 241 (hunC D.P.m D.A0 D.P.l0.length D.c0 D.A1 D.P.l1.length D.c1 D.A2 D.P.l2.length D.c2 D.A3 D.P.l3.length D.c3 D.P.width a D.P.l0.length ca o s none 0 0 0)from q.o.blk);exact⟨r0,r1,r2,r3,r4,r5,r6⟩))
  ((go_at_call 270;refine(K.o _ (by exact br.drew)).mono ?_;rintro e w8 ⟨rfl,h8⟩;have U:=h_ (HB.o.next (br.drew.trans h8));have q:=h_ (U.o.costs o s);obtain⟨⟨p0,p1,p2,p3,p4,p5⟩,⟨p6,p7,p8,p9,aZ⟩,pf,a1⟩:=Yk_ (show Blk w8 D.T 241 (hunC D.P.m D.A0 D.P.l0.length D.c0 D.A1 D.P.l1.length D.c1 D.A2 D.P.l2.length D.c2 D.A3 D.P.l3.length D.c3 D.P.width a D.P.l0.length ca 0 0 none 0 0 0)from U.o.blk)))
 clear q0 q1 q2 q3 q4 q5 q6 q7 M O j Q f p0 p1 p2 p3 p4 p5 p6 p7 p8 p9 aZ pf a1 K HB U h8;generalize (w8.setCell ⟨D.T,7,none⟩ (I_ j_ o)).setCell ⟨D.T,8,none⟩ (I_ j_ s)=W3 at *;have aY:D.w0.heap.size<=W3.heap.size:=q.o.old.size;have ar:=h_ (Qfm_ W3 aY);have ab:=h_ ((q.o.next bra).heap1 ar.o);rw[World.setCell_alloc_past _ _ _ _ (by have:=q.o.blk.lt;omega)]at ab;obtain⟨⟨q0,q1,q2,q3,q4,q5⟩,⟨q6,q7,M,O,j⟩,Q,f⟩:=Yk_ (show Blk W3 D.T 241 (hunC D.P.m D.A0 D.P.l0.length D.c0 D.A1 D.P.l1.length D.c1 D.A2 D.P.l2.length D.c2 D.A3 D.P.l3.length D.c3 D.P.width a D.P.l0.length ca o s none 0 0 0)from q.o.blk);go_wp2;clear q0 q1 q2 q3 q4 q5 q6 q7 M O j Q f;have av:=h_ (show HeapR D.P [([],0)]from fun x hx=>by obtain rfl:=ms1_.1 hx;exact⟨lz_ _,fun y hy=>by cases hy⟩);have az:=h_ (show ValR D.P (Ui_ D.P.l0)/\(Ui_ D.P.l0).length=D.P.l0.length from⟨T.o,J.o⟩);go_loopg [4] N (fun gh x wr=>x=I_ j_ 0/\∃(n p:Nat) (best:LI) (co cs:Int) (hl:List SSt) (Ab:OA) (nb cb:Nat) (Ah:OA) (nh ch:Nat),p+n=N/\n<=gh/\hl.length<=1+3 * p/\Hid (KJ_ D.P n best (co,cs) hl=R)/\Hid (HuA D best (co,cs) hl (p:Int) Ab nb cb Ah nh ch wr)/\Hid (HeapR D.P hl)/\Hid (ValR D.P best/\best.length=D.P.l0.length))
 case atStart=>exact⟨rfl,N,0,Ui_ D.P.l0,o,s,[([],0)],a,D.P.l0.length,ca,some ⟨W3.heap.size,0,none⟩,1,1,oo,lr_ _,lr_ _,HR,ab,av,az⟩
 case round=>
  clear HR ab av az q ar T J;obtain⟨rfl,n,p,best,co,cs,hl,Ab,nb,cb,Ah,nh,ch,bf,bb,aV,HE,HX,ax,HV⟩:=hrel;have b:=HX.o.heap.len;rw[b]at aV;obtain⟨⟨q0,q1,q2,q3,q4,q5⟩,⟨q6,q7,M,O,j⟩,Q,f⟩:=Yk_ (show Blk wr D.T 241 (hunC D.P.m D.A0 D.P.l0.length D.c0 D.A1 D.P.l1.length D.c1 D.A2 D.P.l2.length D.c2 D.A3 D.P.l3.length D.c3 D.P.width Ab nb cb co cs Ah nh ch (p:Int))from HX.o.blk);by_cases h0:nh=0
  ·subst h0;obtain rfl:hl=[]:=ln_ b;have z:Hid (R=(best,1)):=h_ (by rw[<-HE.o];cases n<;>rfl);clear b;go_wp2;go_ret;exact⟨Kx_ (by rw[z.o]),_,_,_,by rw[z.o];exact⟨_,_,_,_,_,_,HX.o⟩⟩
  ·by_cases aD:n=0
   ·subst aD;have z:Hid (R=(best,2)):=h_ (by rw[<-HE.o];unfold KJ_;rw[in_ (fun e=>by rw[e]at b;exact h0 b.symm)]);clear b;have bc:0 < nh:=oo;obtain rfl:p=N:=oo;go_wp2;go_ret;exact⟨Kx_ (by rw[z.o]),_,_,_,by rw[z.o];exact⟨_,_,_,_,_,_,HX.o⟩⟩
   ·obtain⟨m,rfl⟩:∃m,n=m+1:=⟨n - 1,oo⟩;obtain⟨k,rfl⟩:∃k,nh=k+1:=⟨nh - 1,oo⟩;obtain⟨ds,ah,L⟩:=HX.o.heap;obtain⟨g,rfl,a8,_,_,aC,a7,aS⟩:=L.blk oo;obtain⟨⟨⟨C,n0,k0⟩,l,G⟩,af⟩:∃d,ds[0]? =some d:=⟨_,gE (by have:=L.len;omega)⟩;have ai:hl[0]? =some (l,G):=(by rw[<-ah,List.getElem?_map,af];rfl);have A:=h_ ((G4_ (P:=D.P) (m:=m) (best:=best) (cost:=(co,cs)) ai).symm.trans HE.o);have B:=h_ (ax.o _ (lm_ ai));have Y:=h_ (show HeapR D.P (Vr_ hl)from ax.o.pop);have X:=h_ (jm_ D.w0.heap.size g k ch ds C n0 k0 l G wr L af oo);rw[ah]at X;have be:(p:Int) < (N:Int):=oo;have bd:(p:Int)<=100000:=oo;clear ah L af ai aS b h0 aD;go_wp2_with fail
    refine X.o.mono ?_;rintro e I ⟨rfl,aF,ag,aB⟩;obtain⟨b5,aG⟩:=HX.o.pushed aB aF;have aA:=h_ (aG.popped ((p:Int)+1));have r:=h_ (aA.o.next (br.alloc (lr_ _) (C_ #[S_ C n0 k0,I_ j_ G] 185)));have Z:=h_ (show Blk (((I.setCell ⟨D.T,9,none⟩ (S_ (some ⟨g,0,none⟩) k ch)).setCell ⟨D.T,10,none⟩ (I_ j_ ((p:Int)+1))).alloc (C_ #[S_ C n0 k0,I_ j_ G] 185)) I.heap.size 185 #[S_ C n0 k0,I_ j_ G]from by
     have h:=Blk.new ((I.setCell ⟨D.T,9,none⟩ (S_ (some ⟨g,0,none⟩) k ch)).setCell ⟨D.T,10,none⟩ (I_ j_ ((p:Int)+1))) 185 #[S_ C n0 k0,I_ j_ G];have e:((I.setCell ⟨D.T,9,none⟩ (S_ (some ⟨g,0,none⟩) k ch)).setCell ⟨D.T,10,none⟩ (I_ j_ ((p:Int)+1))).heap.size=I.heap.size:=(by simp[World.setCell]);rw[e]at h;exact h)
    have V:=h_ (show HIn D.w0.heap.size (((I.setCell ⟨D.T,9,none⟩ (S_ (some ⟨g,0,none⟩) k ch)).setCell ⟨D.T,10,none⟩ (I_ j_ ((p:Int)+1))).alloc (C_ #[S_ C n0 k0,I_ j_ G] 185)) ((C,n0,k0),(l,G))from⟨ag.1,(Qt_ (Qt_ ag.2 b5 dc_ _ _) (b5.set_ 9 (S_ (some ⟨g,0,none⟩) k ch)) dc_ _ _).alloc _⟩);have t9:I.cell? ⟨D.T,9,none⟩=some (S_ (some ⟨g,0,none⟩) (k+1) ch):=b5.cell 9;have a2:I.cell? ⟨D.T,10,none⟩=some (I_ j_ (p:Int)):=b5.cell 10;have tf:=b5.frozen;have tl:=b5.lt;clear q0 q1 q2 q3 q4 q5 q6 q7 M O j Q f X HX aF ag aB aG aA b5 aC;go_upto_region 10 with fail
    clear t9 a2 tf tl;generalize ((I.setCell ⟨D.T,9,none⟩ (S_ (some ⟨g,0,none⟩) k ch)).setCell ⟨D.T,10,none⟩ (I_ j_ ((p:Int)+1))).alloc (C_ #[S_ C n0 k0,I_ j_ G] 185)=W7 at *;generalize I.heap.size=gx at *;obtain⟨⟨q0,q1,q2,q3,q4,q5⟩,_,_,f⟩:=Yk_ (show Blk W7 D.T 241 (hunC D.P.m D.A0 D.P.l0.length D.c0 D.A1 D.P.l1.length D.c1 D.A2 D.P.l2.length D.c2 D.A3 D.P.l3.length D.c3 D.P.width Ab nb cb co cs (some ⟨g,0,none⟩) k ch ((p:Int)+1))from r.o.blk);have x0:W7.cell? ⟨gx,0,none⟩=some (S_ C n0 k0):=Z.o.cell 0;have x1:W7.cell? ⟨gx,1,none⟩=some (I_ j_ G):=Z.o.cell 1;have xl:=Z.o.lt;have al:l.length=n0:=K2_ V.o.2.rd;have a6:=h_ al;obtain⟨NL,E⟩:=ex_ D.P.l0.length;have a5:=h_ E;by_cases hf:n0=NL
    ·have i:l.length=D.P.l0.length:=oo;have ay:=h_ (fun W (h:Below W7.heap.size W7 W)=>jo_ D HK.o best (co,cs) (Vr_ hl) ((p:Int)+1) Ab nb cb (some ⟨g,0,none⟩) k ch C n0 k0 l W (r.o.next h) (V.o.2.next h) B.o i);have aL:=h_ i;rw[ip_ i]at A;rw[E]at q1;subst hf;clear i al E
     go_region
     go_wp2_with fail
     refine(ay.o _ (by first|exact br.drew|exact br)).mono ?_;rintro e w9 ⟨rfl,t⟩;clear ay q0 q1 q2 q3 q4 q5 f x0 x1 xl;go_wp2;go_roundg m
     case measure=>omega
     case rel=>
      have aX:=r.o.heap.len
      cases hb:Zd_ (D.P.cost l) l (co,cs) best with
      |true=>
       rw[hb,ip_ rfl,ip_ rfl]at t;have hs:=A.o;rw[hb,ip_ rfl]at hs;obtain⟨Ab,nb,cb,Ah,nh,ch,hx⟩:=t;exact⟨rfl,m,p+1,l,(D.P.cost l).1,(D.P.cost l).2,Vr_ hl,Ab,nb,cb,Ah,nh,ch,oo,lr_ _,oo,h_ hs,h_ (by rw[show((p+1:Nat):Int)=(p:Int)+1 from oo];exact hx),Y,h_ ⟨B.o,aL.o⟩⟩
      |false=>
       rw[hb,in_ sm_,in_ sm_]at t;have hs:=A.o;rw[hb,in_ sm_]at hs;obtain⟨Ab,nb,cb,Ah,nh,ch,hx⟩:=t;exact⟨rfl,m,p+1,best,co,cs,Vr_ hl,Ab,nb,cb,Ah,nh,ch,oo,lr_ _,oo,h_ hs,h_ (by rw[show((p+1:Nat):Int)=(p:Int)+1 from oo];exact hx),Y,HV⟩
    ·have aj:l.length < D.P.l0.length:=(by have:=B.o.1;omega);have aT:=r.o.heap.len;have aq:=h_ (fun W (h:Below W7.heap.size W7 W)=>kF_ D HK.o best co cs (Vr_ hl) ((p:Int)+1) Ab nb cb (some ⟨g,0,none⟩) k ch C n0 k0 l G W (r.o.next h) (V.o.next h) B.o aj oo);rw[in_ oo]at A;have aM:=h_ aj;rw[E]at q1;have ba:((n0:Int)==(NL:Int))=false:=(by rw[bn_];omega);clear al E aj aT
     go_region
     go_wp2_with fail
     refine(aq.o _ (by first|exact br.drew|exact br)).mono ?_;rintro e w9 ⟨rfl,t⟩;clear aq q0 q1 q2 q3 q4 q5 f x0 x1 xl;go_wp2;go_roundg m
     case measure=>omega
     case rel=>
      have aX:=r.o.heap.len;obtain⟨Ab,nb,cb,Ah,nh,ch,hx⟩:=t;obtain⟨dd,hd⟩:∃d,D.P.l0[l.length]? =some d:=⟨_,List.getElem?_eq_getElem aM.o⟩;have a3:=HK.o.R.few _ (lm_ hd);have ho:=xl_ (P:=D.P) (cost:=(co,cs)) (x:=l) (h:=Vr_ hl) dd.1.toNat;rw[<-JZ_ hd (co,cs) (Vr_ hl)]at ho;exact⟨rfl,m,p+1,best,co,cs,QbJ_ D.P (co,cs) l (Vr_ hl),Ab,nb,cb,Ah,nh,ch,oo,lr_ _,oo,A,h_ (by rw[show((p+1:Nat):Int)=(p:Int)+1 from oo];exact hx),h_ (by rw[JZ_ hd];exact Y.o.open_ HK.o.R B.o hd (lr_ _)),HV⟩
open Go.RowKit Go.Sort
def okP (P:Hn):Bool:=Kf_ P.m P.l0 P.l1 P.l2 P.l3
theorem PcR.small {P:Hn} (a:PcR P):(P.l0.length<=1048576/\P.l1.length<=1048576/\P.l2.length<=1048576/\P.l3.length<=1048576)/\∀d∈P.l1,d.1.size<=maxLen:=by
 have h0:=a.n0;have h1:=a.n1;have h2:=a.n2;have h3:=a.n3;refine⟨oo,fun d hd=>lt_ (a.text d hd) (by unfold Xj_ maxLen;omega)⟩
theorem JM_ (P:Hn) (A0 A1 A2 A3:OA) (c0 c1 c2 c3:Nat) (w:World) (a:PcM P A0 A1 A2 A3 w) (hR:PcR P) (b:okP P=true):
  Calls prog 247 #[A_ (pcCells P A0 A1 A2 A3 c0 c1 c2 c3)] w (RB_ (B_ true) w):=by
 have h:=U3_ P.m A0 P.l0.length c0 P.l0 A1 P.l1.length c1 P.l1 A2 P.l2.length c2 P.l2 A3 P.l3.length c3 P.l3 w (h_ ⟨rfl,rfl,rfl,rfl⟩) ⟨a.r0,a.r1,a.r2,a.r3⟩ hR.small.1 (h_ hR.small.2);rw[show Kf_ P.m P.l0 P.l1 P.l2 P.l3=true from b]at h;exact h
def SeaR (R:LI × Int) (w:World) (e:Ending) (w':World):Prop:=∃A n c,e=R_ (U_ #[S_ A n c,I_ j_ R.2])/\n<=8/\Mine w' w.heap.size 3 1 A n c (Qa_ R.1)/\Below w.heap.size w w'
theorem W8_ (P:Hn) (A0 A1 A2 A3:OA) (c0 c1 c2 c3:Nat) (N:Nat) (w:World) (n:PcM P A0 A1 A2 A3 w) (o:PcR P) (k:okP P=true) (hN:N<=100000):
  Calls prog 225 #[A_ (pcCells P A0 A1 A2 A3 c0 c1 c2 c3),I_ j_ P.width,I_ j_ (N:Int)] w (SeaR (KU_ P (N:Int)) w):=by
 have HO:=h_ (fun W h=>JM_ P A0 A1 A2 A3 c0 c1 c2 c3 W (n.next h) o k);have b:=h_ (fun(T:Nat) W (H:HuA ⟨P,A0,c0,A1,c1,A2,c2,A3,c3,w,T⟩ [] (0,0) [] 0 none 0 0 none 0 0 W)=>show Calls prog 252 #[P_ (some ⟨T,0,none⟩),I_ j_ (N:Int)] W (RunR ⟨P,A0,c0,A1,c1,A2,c2,A3,c3,w,T⟩ (KU_ P (N:Int)))from jn_ ⟨P,A0,c0,A1,c1,A2,c2,A3,c3,w,T⟩ ⟨n,o⟩ N W H hN);obtain⟨R,i⟩:=ex_ (KU_ P (N:Int));rw[i]at b |-
 clear n o k i;unfold pcCells at HO |-
 have a:=h_ (show Below w.heap.size w (w.alloc (C_ (pcC P.m A0 P.l0.length c0 A1 P.l1.length c1 A2 P.l2.length c2 A3 P.l3.length c3) 149))from Ql_ br);have f:=h_ (Blk.new w 149 (pcC P.m A0 P.l0.length c0 A1 P.l1.length c1 A2 P.l2.length c2 A3 P.l3.length c3));go_enter func225,ntmps225;go_wp2_with fail
 refine(HO.o _ a.o).mono ?_;rintro e w1 ⟨rfl,h1⟩;have c:=h_ (Qb_ a.o h1);obtain⟨q0,q1,q2,q3,q4,p⟩:=Vp_ (f.o.next h1);have j:=c.o.size;have HX:=h_ (show HuA ⟨P,A0,c0,A1,c1,A2,c2,A3,c3,w,w1.heap.size⟩ [] (0,0) [] 0 none 0 0 none 0 0 (w1.alloc (C_ (hunC P.m A0 P.l0.length c0 A1 P.l1.length c1 A2 P.l2.length c2 A3 P.l3.length c3 P.width none 0 0 0 0 none 0 0 0) 241))from
  ⟨Blk.new _ _ _,⟨lz_ _,Mine.mk_nil _ _ _ _⟩,⟨[],rfl,Mine.mk_nil _ _ _ _,fun d hd=>by cases hd⟩,j,c.o.alloc j _⟩)
 have g:=h_ (b.o _ _ HX.o);clear HO a f h1 b;go_wp2_with fail
 refine g.o.mono ?_;rintro e w2 ⟨rfl,cost,hl,pops,Ab,nb,cb,Ah,nh,ch,l⟩;have m:=h_ l;have t6:w2.cell? ⟨w1.heap.size,6,none⟩=some (S_ Ab nb cb):=l.blk.cell 6;have tl:w1.heap.size < w2.heap.size:=l.blk.lt;clear l HX g q0 q1 q2 q3 q4 p;go_wp2;go_ret2;exact⟨Ab,nb,cb,rfl,m.o.best.1,m.o.best.2,m.o.old⟩
open Go.RowKit Go.Sort
theorem J7_ (P:Hn) (A0 A1 A2 A3:OA) (c0 c1 c2 c3:Nat) (w:World) (a:PcM P A0 A1 A2 A3 w) (hR:PcR P) (b:okP P=true):
  Calls prog 139 #[A_ (pcCells P A0 A1 A2 A3 c0 c1 c2 c3)] w (RB_ (B_ true) w):=by
 have h:=WL_ P.m A0 P.l0.length c0 P.l0 A1 P.l1.length c1 P.l1 A2 P.l2.length c2 P.l2 A3 P.l3.length c3 P.l3 w (h_ ⟨rfl,rfl,rfl,rfl⟩) ⟨a.r0,a.r1,a.r2,a.r3⟩ hR.small.1 (h_ hR.small.2);rw[show Kf_ P.m P.l0 P.l1 P.l2 P.l3=true from b]at h;exact h
structure SpA (w0:World) (gC H:Nat) (pc:Array Value) (best:LI) (co cs:Int) (hl:List SSt) (Ab:OA) (nb cb:Nat) (Ah:OA) (nh ch:Nat) (w:World):Prop where
 best:nb<=8/\Mine w w0.heap.size 3 1 Ab nb cb (Qa_ best)
 heap:HpM w0.heap.size Ah nh ch hl w
 cost:Blk w gC 182 #[I_ j_ co,I_ j_ cs]
 pc:Blk w H 149 pc
 old:Below w0.heap.size w0 w
 gw:w0.heap.size<=gC
section
variable {w0:World} {gC H:Nat} {pc:Array Value} {best:LI} {co cs:Int} {hl hl':List SSt} {Ab Ah Ah':OA} {nb cb nh ch nh' ch':Nat} {w w':World}
theorem SpA.next (h:SpA w0 gC H pc best co cs hl Ab nb cb Ah nh ch w) (k:Below w.heap.size w w'):SpA w0 gC H pc best co cs hl Ab nb cb Ah nh ch w':=⟨⟨h.best.1,h.best.2.next k⟩,h.heap.next k,h.cost.next k,h.pc.next k,Qb_ h.old k,h.gw⟩
theorem SpA.pushed (h:SpA w0 gC H pc best co cs hl Ab nb cb Ah nh ch w) (f:w.grownBy w' (Ah.map (·.block))) (hp:HpM w0.heap.size Ah' nh' ch' hl' w'):SpA w0 gC H pc best co cs hl' Ab nb cb Ah' nh' ch' w':=by
 obtain⟨ds,_,hm,_⟩:=h.heap;have a:∀g,Ah.map (·.block)=some g->∃cs,Blk w g 185 cs:=fun g e=>Qw_ hm e
 have c:∀{q:Nat} {t:TypeId} {cs:Array Value},Blk w q t cs->t≠185->Blk w' q t cs:=fun hb ht=>hb.grown f (fun e=>by
  obtain⟨d,b⟩:=a _ e.symm;exact Kj_ hb b ht rfl)
 exact⟨⟨h.best.1,h.best.2.grown f (fun g e=>.inr (fun e2=>by
  obtain⟨cs,b⟩:=a _ e;obtain⟨d,b2⟩:=Qw_ h.best.2 e2;exact Kj_ b2 b dc_ rfl))⟩,hp,c h.cost dc_,c h.pc dc_,XY_ h.old f (fun g e=>(Mine.blk hm e).1),h.gw⟩
theorem SpA.keep (h:SpA w0 gC H pc best co cs hl Ab nb cb Ah nh ch w) {a:OA} {na ca:Nat} {v:LI} (hv:na<=8/\Mine w w0.heap.size 3 1 a na ca (Qa_ v)) (o s:Int):
  SpA w0 gC H pc v o s hl a na ca Ah nh ch ((w.setCell ⟨gC,0,none⟩ (I_ j_ o)).setCell ⟨gC,1,none⟩ (I_ j_ s)):=by
 have b:=h.cost.set_ 0 (I_ j_ o);exact⟨⟨hv.1,Qt_ (Qt_ hv.2 h.cost dc_ _ _) b dc_ _ _⟩,(h.heap.set h.cost dc_ dc_ _ _).set b dc_ dc_ _ _,b.set_ 1 (I_ j_ s),(h.pc.far (Kj_ h.pc h.cost dc_) _).far (Kj_ h.pc h.cost dc_) _,(h.old.setCell h.gw _).setCell h.gw _,h.gw⟩
end
theorem kq_ {f:Array Oper} {rest:List Oper} {o:Oper} {a:Act} {Q:Exit->Act->World->Prop} (s x:Operand) {B:Nat} {W:World} {A:OA} {n c:Nat} {l:LI}
  (HM:Hid (Mine W B 3 1 A n c (Qa_ l))) (i:o.guard=none) (ho:o.op=.call { callee:=.builtin .append,args:=#[s,x],argTypes:=#[83,83] }) (hs:a.eval s=S_ (some ⟨W.heap.size,0,none⟩) 0 0) (hx:a.eval x=S_ A n c) (hn:n<=100000)
  (h:∀A' c' w',Hid (Mine w' W.heap.size 3 1 A' n c' (Qa_ l))->Hid (Below W.heap.size W w')->wpList prog f Q rest (a.put o.dst (S_ A' n c')) w'):wpList prog f Q (o::rest) a (W.alloc (C_ #[] 3)):=by
 obtain⟨i0,hi,j,k,m⟩:=info_parts QY_;refine Uw_ i s x _ ho W.heap.size 3 i0 (I_ j_ 0) 1 8 underlying83 hi j k m rfl dc_ (S_ (some ⟨W.heap.size,0,none⟩) 0 0) 0 [] hs (ZA_ W 3 1) A n c (Qa_ l) hx (HM.o.rd.alloc _) (fun e=>?_) (fun u hu=>?_) mx_ oo sm_ ?_
 ·rcases HM.o.own with⟨_,h1,h2⟩|⟨g,d,_⟩
  ·exact⟨h1,h2⟩
  ·rw[e]at d;cases d
 ·unfold Qa_ at hu;obtain⟨y,_,rfl⟩:=List.mem_map.1 hu
  rfl
 ·intro v' w5 b hg;rw[Nat.zero_add,List.nil_append]at b;obtain⟨A5,c5,rfl,m5⟩:=Mine.of b;exact h A5 c5 w5 m5 (bra.grown hg sm_ (fun g e=>by
   have d:some W.heap.size=some g:=e;injection d with d;omega))
end Go.Proofs.YtbiijipkgfpgoaaGreatDoor

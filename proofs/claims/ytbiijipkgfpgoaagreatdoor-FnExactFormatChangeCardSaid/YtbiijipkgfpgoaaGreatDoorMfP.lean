/-
  Put together by program.
-/
import Derived.Test.YtbiijipkgfpgoaaGreatDoorMfO
set_option maxRecDepth 100000
set_option linter.all false
set_option maxHeartbeats 25600000
open Go.Proofs.Tryz
open Go.Value renaming int→I_,slice→S_,string→T_,bool→B_,pointer→P_,agg→A_,tuple→U_
open Go.IntKind renaming i64→j_
open Go.Obj renaming cells→C_
namespace Go.Proofs.YtbiijipkgfpgoaaGreatDoor
open Go.RowKit
theorem kG_ (D:BD) (hi:D.imp=true) (ps:List PN) (f:Nat) (aa:Nps D.w0 D.A D.n ps) (aE:f<=D.n) (hN:KidC 224 D ps f) (T:Uh_ 2000000 ps (QR_ ps f)) (A':OA) (m c':Nat) (l:LI) (t:BA) (z:Bool) (s:Pb) (a:Int) (W:World) (hl:Hid (l.length=m)) (hm:m<=3) (hr:Rd D.w0 1 A' m (Qa_ l))
  (hv:Hid (∀v∈l,(0<=v/\v < (f:Int))/\QI_ (Qc_ ps v)/\v<=900)) (ha:0<=a/\a<=40) (k:s.chunks.length<=79) (hC:BdC D s W) (hZ:s.text.size+wS 2000000 ps (Y4_ ps l a)<=Xj_):
  Calls prog 250 #[P_ (some ⟨D.T,0,none⟩),A_ #[I_ j_ 8,T_ t,S_ A' m c',B_ z],I_ j_ a] W (YW_ D W (I_ j_ (Q4_ s)) (VL_ (QR_ ps f) (s,-1) (Y4_ ps l a)).1):=by
 obtain⟨fin,o⟩:=ex_ ((VL_ (QR_ ps f) (s,-1) (Y4_ ps l a)).1);rw[o];have U:Below W.heap.size W (W.alloc (C_ #[I_ j_ 8,T_ t,S_ A' m c',B_ z] 96)):=grow_;have H:=h_ (show Bt 224 D ps f fin (W.alloc (C_ #[I_ j_ 8,T_ t,S_ A' m c',B_ z] 96)) s (-1) (Y4_ ps l a) (W.alloc (C_ #[I_ j_ 8,T_ t,S_ A' m c',B_ z] 96))from⟨hC.next U,o,hZ,Kb.refl _,hN,T,k⟩);have HR:=h_ hr;have HP:=h_ aa;obtain⟨al,am⟩:=ha;clear hC hZ o hN T hr aa U k;unfold Y4_ at H;go_enter func250,ntmps250;go_wp2_with fail
 refine Bt.irule hi H ?_;intro W2 N k2;clear H;obtain⟨r,L⟩:=ex_ (Q4_ s);rw[L]at N |-
 generalize s.rule 2 1=s2 at N;obtain⟨g,hg⟩:∃g:Nat->Int->List Bv,g=(fun i v=>(if 0 < i then [Bv.split 1 true a,.put (if i=1 then ⟨#[63,32]⟩else ⟨#[58,32]⟩)]else [])++[.tied v a (decide (Qc_ ps v=8)) false]):=⟨_,rfl⟩;rw[<-hg]at N;have O:=h_ hg;have ai:=h_ L;have K:=N.o.box;have x2:=K.q2;have xg:=K.lt;clear hg L k2 K;go_wp2;go_loopw [16] (fun j wr=>∃(i:Nat) (P:Pb),i<=m/\j=I_ j_ i/\Hid (Bt 224 D ps f fin (W.alloc (C_ #[I_ j_ 8,T_ t,S_ A' m c',B_ z] 96)) P r (Xp_ g i (l.drop i)) wr)) (fun j _=>m - (intOf j).toNat)
 case atStart=>exact⟨0,s2,lz_ _,rfl,by rw[List.drop_zero];exact N⟩
 case round=>
  clear N x2 xg;obtain⟨i,P,aF,rfl,B⟩:=hrel;by_cases aq:i < m
  ·obtain⟨v,hd⟩:∃d,l[i]? =some d:=⟨_,gE (by have:=hl.o;omega)⟩;obtain⟨⟨ax,aG⟩,ab,aH⟩:=hv.o v (lm_ hd);obtain⟨q,rfl⟩:=eo_ ax;have av:q < f:=oo;obtain⟨b5,A,rfl,G,cv⟩:=Qu_ (HR.o.below B.o.C.old) aq hd;rw[YL_ hd,O.o]at B;rw[<-O.o]at B;have aj:=h_ ab;have C:=h_ (show i+1<=m from oo);clear hd ab;have aB:Below D.w0.heap.size D.w0 wr:=B.o.C.old
   go_upto_if 22 with fail
   go_cut [8] (fun x8 wx=>x8=I_ j_ i/\∃E:Pb,Hid (Bt 224 D ps f fin (W.alloc (C_ #[I_ j_ 8,T_ t,S_ (some ⟨b5,A,none⟩) m c',B_ z] 96)) E r (.tied (q:Int) a (decide (Qc_ ps (q:Int)=8)) false::Xp_ g (i+1) (l.drop (i+1))) wx))
   case first=>
    by_cases ap:0 < i
    ·have b:Hid (Bt 224 D ps f fin (W.alloc (C_ #[I_ j_ 8,T_ t,S_ (some ⟨b5,A,none⟩) m c',B_ z] 96)) P r (.split 1 true a::.put (if i=1 then ⟨#[63,32]⟩else ⟨#[58,32]⟩)::.tied (q:Int) a (decide (Qc_ ps (q:Int)=8)) false::Xp_ g (i+1) (l.drop (i+1))) wr):=by
      have h:=B.o;rw[O.o]at h;dsimp only at h;rw[ip_ ap]at h;rw[O.o];exact h_ h
     clear B;go_wp2_with fail
     refine Bt.isplit hi b rfl ?_;intro W5 F k6;clear b k6 cv G;generalize P.split r 1 true a=s5 at *;have X:i=1\/i=2:=oo;obtain⟨xt,xf,xz⟩:=F.o.C.tx;rcases X with rfl|rfl
     ·rw[ip_ rfl]at F;have p:=F.o.size;simp only[wB,Xj_]at p;have x:(⟨#[63,32]⟩:BA).size=2:=rfl;rw[x]at p;have ar:¬9223372036854775807 < s5.text.size+2:=oo;clear x;rw[show((1:Nat):Int)=1 from rfl];have ix:∀w,(Instr.index 252 (A_ #[T_ ⟨#[]⟩,T_ ⟨#[63,32]⟩,T_ ⟨#[58,32]⟩]) (I_ j_ 1)).run prog w=.ok (T_ ⟨#[63,32]⟩) w:=fun _=>by kernel_rfl
      go_upto_region 7 with fail
      go_still_tail 10,nr_;have H7:=h_ (F.o.put.next br.drew);go_wp2_with fail
      go_meet;exact⟨rfl,_,H7⟩
     ·rw[in_ (show ¬2=1 by decide)]at F;have p:=F.o.size;simp only[wB,Xj_]at p;have x:(⟨#[58,32]⟩:BA).size=2:=rfl;rw[x]at p;have ar:¬9223372036854775807 < s5.text.size+2:=oo;clear x;rw[show((2:Nat):Int)=2 from rfl];have ix:∀w,(Instr.index 252 (A_ #[T_ ⟨#[]⟩,T_ ⟨#[63,32]⟩,T_ ⟨#[58,32]⟩]) (I_ j_ 2)).run prog w=.ok (T_ ⟨#[58,32]⟩) w:=fun _=>by kernel_rfl
      go_upto_region 7 with fail
      go_still_tail 10,nr_;have H7:=h_ (F.o.put.next br.drew);go_wp2_with fail
      go_meet;exact⟨rfl,_,H7⟩
    ·obtain rfl:i=0:=oo;have b:Hid (Bt 224 D ps f fin (W.alloc (C_ #[I_ j_ 8,T_ t,S_ (some ⟨b5,A,none⟩) m c',B_ z] 96)) P r (.tied (q:Int) a (decide (Qc_ ps (q:Int)=8)) false::Xp_ g (0+1) (l.drop (0+1))) wr):=by
      have h:=B.o;rw[O.o]at h;rw[O.o];exact h_ h
     go_wp2_with fail
     go_meet;exact⟨rfl,P,b⟩
   case rest=>
    obtain⟨rfl,E,b⟩:=hcut;have k:=b.o.c79;have M:=b.o.size;have J:=h_ (b.o.N q E a wc av aj.o al oo (fun _=>am) b.o.c79 b.o.C (by simp only[wB,it_]at M;exact M));rw[show min a 40=a from oo,hi]at J;clear M B;go_wp2_with fail
    refine J.o.mono ?_;rintro e w6 ⟨rfl,n,Y⟩;have Q:=h_ n;have R:=h_ Y;have aC:=h_ (WS_ ps f q a E k);obtain⟨_,xn,xf,xz⟩:=n.ti hi;obtain⟨y,hy⟩:=HP.o.get (show q < D.n from oo);obtain⟨b6,ac,A6,c6,eD,c,y0,_⟩:=HP.o.at_ (show q < D.n from oo) hy;have ad:=((QW_ n.old).1 _ _ c).trans y0;have an:b6 < w6.heap.size:=ll_ c n.old.size;have I:Qc_ ps (q:Int)=y.kind:=Qr_ hy;have aD:q < D.n:=oo;rw[eD]at xn;rw[I]at b;have S:=h_ (fun(h:y.kind=8)=>own7 (ps:=ps) (q:=q) (.inr (I.trans h)) E);clear J n Y hy eD y0 c I k;obtain⟨yk,yt,yl,yz⟩:=y;replace ad:w6.cell? ⟨b6,ac+q * 4,none⟩=some (I_ j_ yk):=ad;simp only at b S;have aA:i+1<=12:=oo;by_cases h7:yk=8
    ·subst h7;have e7:=S.o rfl;rw[e7];clear e7;go_wp2_with fail
     refine(U5_ D hi _ (Q4_ E) r _ Q.o).mono ?_;rintro e w7 ⟨rfl,V,Z⟩;have H8:=h_ (b.o.jump (show BdC D ((QR_ ps f q a E).tie (Q4_ E) r) w7 from V) (R.o.trans Z));clear V Z;go_wp2;go_roundw
     case rel=>exact⟨i+1,_,C.o,by go_num,H8⟩
     case measure=>have:=C.o;simp[intOf];omega
    ·have d7:decide (yk=8)=false:=df_ h7;have b7:(yk==8)=false:=bn_.2 h7;rw[d7]at b;have H8:=h_ (b.o.jump (show BdC D (QR_ ps f q a E) w6 from Q.o) R.o);clear d7 h7;go_wp2;go_roundw
     case rel=>exact⟨i+1,_,C.o,by go_num,H8⟩
     case measure=>have:=C.o;simp[intOf];omega
  ·obtain rfl:i=m:=oo;rw[Xu_ (Nat.le_of_eq hl.o)]at B;go_wp2;go_ret;have h2:=B.o.fin_;exact⟨Kx_ ai.o.symm,h2.1,Zc_ h2.2⟩
theorem jq_ (D:BD) (hi:D.imp=true) (ps:List PN) (m f j:Nat) (t:BA) (z:Bool) (a:Int) (s:Pb) (W:World) (h:VIn 224 D ps m f j ⟨1,t,[],z⟩ a s W):
  Calls prog 224 #[P_ (some ⟨D.T,0,none⟩),I_ j_ (j:Int),I_ j_ a] W (YW_ D W (I_ j_ (-1)) (QR_ ps (f+1) j (min a 40) s)):=by
 obtain⟨b,off,A',c',eD,k,y0,y1,y2,y3,hr,n⟩:=h.at_;obtain⟨_,un,uf,uz⟩:=h.hC.ti hi;have ut:=h.hC.tx.1;rw[eD]at un;have o:j < D.n:=by have:=h.lt;have:=h.hn;omega
 have e:j<=300:=by have:=h.lt;have:=h.hF.few;omega
 have ha:=h.ha;have l:=h.hab;have i:=h.h40 hi;have HK:=h_ h.kids;have HR:=h_ hr;have HV:=h_ h;replace y0:W.cell? ⟨b,off+j * 4,none⟩=some (I_ j_ 1):=y0;replace y1:W.cell? ⟨b,off+j * 4+1,none⟩=some (T_ t):=y1;replace y2:W.cell? ⟨b,off+j * 4+2,none⟩=some (S_ A' 0 c'):=y2;replace y3:W.cell? ⟨b,off+j * 4+3,none⟩=some (B_ z):=y3;have H:=h_ (h.bt (min a 40) #[I_ j_ 1,T_ t,S_ A' 0 c',B_ z]);have q:t.size<=1048576:=(h.hpn _ (lm_ h.hx)).1;rw[show min a 40=a from oo]at H |-
 clear h eD hr;replace H:Hid (Bt 224 D ps f (QR_ ps (f+1) j a s) (W.alloc (C_ #[I_ j_ 1,T_ t,S_ A' 0 c',B_ z] 96)) s (-1) ([.put t]) (W.alloc (C_ #[I_ j_ 1,T_ t,S_ A' 0 c',B_ z] 96))):=H;go_enter func224,ntmps224;go_upto_region 2 with fail
 have d:=h_ (Kb.below (show Below W.heap.size W (W.alloc (C_ #[I_ j_ 1,T_ t,S_ A' 0 c',B_ z] 96))from grow_));have c:=h_ (Blk.new W 96 #[I_ j_ 1,T_ t,S_ A' 0 c',B_ z]);generalize W.alloc (C_ #[I_ j_ 1,T_ t,S_ A' 0 c',B_ z] 96)=Wb at *;have K:=c.o;have x0:=K.q0;have x1:=K.q1;have x2:=K.q2;have xg:=K.lt;clear K;obtain⟨xt,xf,xz⟩:=H.o.C.tx;have g:=H.o.size;simp only[wB,Xj_]at g;have p:¬9223372036854775807 < s.text.size+t.size:=oo;go_upto_region 7 with fail
 go_still_tail 9,nr_;have H2:=h_ (H.o.put.next br.drew);go_wp2;go_ret;have h2:=H2.o.fin_;exact⟨rfl,h2.1,d.o.trans h2.2⟩
theorem jr_ (D:BD) (hi:D.imp=true) (ps:List PN) (m f j:Nat) (t:BA) (z:Bool) (a:Int) (s:Pb) (W:World) (h:VIn 224 D ps m f j ⟨2,t,[],z⟩ a s W):
  Calls prog 224 #[P_ (some ⟨D.T,0,none⟩),I_ j_ (j:Int),I_ j_ a] W (YW_ D W (I_ j_ (-1)) (QR_ ps (f+1) j (min a 40) s)):=by
 obtain⟨b,off,A',c',eD,k,y0,y1,y2,y3,hr,n⟩:=h.at_;obtain⟨_,un,uf,uz⟩:=h.hC.ti hi;have ut:=h.hC.tx.1;rw[eD]at un;have o:j < D.n:=by have:=h.lt;have:=h.hn;omega
 have e:j<=300:=by have:=h.lt;have:=h.hF.few;omega
 have ha:=h.ha;have l:=h.hab;have i:=h.h40 hi;have HK:=h_ h.kids;have HR:=h_ hr;have HV:=h_ h;replace y0:W.cell? ⟨b,off+j * 4,none⟩=some (I_ j_ 2):=y0;replace y1:W.cell? ⟨b,off+j * 4+1,none⟩=some (T_ t):=y1;replace y2:W.cell? ⟨b,off+j * 4+2,none⟩=some (S_ A' 0 c'):=y2;replace y3:W.cell? ⟨b,off+j * 4+3,none⟩=some (B_ z):=y3;have H:=h_ (h.bt (min a 40) #[I_ j_ 2,T_ t,S_ A' 0 c',B_ z]);have q:t.size<=1048576:=(h.hpn _ (lm_ h.hx)).1;rw[show min a 40=a from oo]at H |-
 clear h eD hr;replace H:Hid (Bt 224 D ps f (QR_ ps (f+1) j a s) (W.alloc (C_ #[I_ j_ 2,T_ t,S_ A' 0 c',B_ z] 96)) s (-1) ([.put t]) (W.alloc (C_ #[I_ j_ 2,T_ t,S_ A' 0 c',B_ z] 96))):=H;go_enter func224,ntmps224;go_upto_region 2 with fail
 have d:=h_ (Kb.below (show Below W.heap.size W (W.alloc (C_ #[I_ j_ 2,T_ t,S_ A' 0 c',B_ z] 96))from grow_));have c:=h_ (Blk.new W 96 #[I_ j_ 2,T_ t,S_ A' 0 c',B_ z]);generalize W.alloc (C_ #[I_ j_ 2,T_ t,S_ A' 0 c',B_ z] 96)=Wb at *;have K:=c.o;have x0:=K.q0;have x1:=K.q1;have x2:=K.q2;have xg:=K.lt;clear K;obtain⟨xt,xf,xz⟩:=H.o.C.tx;have g:=H.o.size;simp only[wB,Xj_]at g;have p:¬9223372036854775807 < s.text.size+t.size:=oo;go_upto_region 7 with fail
 go_still_tail 9,nr_;have H2:=h_ (H.o.put.next br.drew);go_wp2;go_ret;have h2:=H2.o.fin_;exact⟨rfl,h2.1,d.o.trans h2.2⟩
theorem js_ (D:BD) (hi:D.imp=true) (ps:List PN) (m f j:Nat) (t:BA) (z:Bool) (a:Int) (s:Pb) (W:World) (h:VIn 224 D ps m f j ⟨3,t,[],z⟩ a s W):
  Calls prog 224 #[P_ (some ⟨D.T,0,none⟩),I_ j_ (j:Int),I_ j_ a] W (YW_ D W (I_ j_ (-1)) (QR_ ps (f+1) j (min a 40) s)):=by
 obtain⟨b,off,A',c',eD,k,y0,y1,y2,y3,hr,n⟩:=h.at_;obtain⟨_,un,uf,uz⟩:=h.hC.ti hi;have ut:=h.hC.tx.1;rw[eD]at un;have o:j < D.n:=by have:=h.lt;have:=h.hn;omega
 have e:j<=300:=by have:=h.lt;have:=h.hF.few;omega
 have ha:=h.ha;have l:=h.hab;have i:=h.h40 hi;have HK:=h_ h.kids;have HR:=h_ hr;have HV:=h_ h;replace y0:W.cell? ⟨b,off+j * 4,none⟩=some (I_ j_ 3):=y0;replace y1:W.cell? ⟨b,off+j * 4+1,none⟩=some (T_ t):=y1;replace y2:W.cell? ⟨b,off+j * 4+2,none⟩=some (S_ A' 0 c'):=y2;replace y3:W.cell? ⟨b,off+j * 4+3,none⟩=some (B_ z):=y3;have H:=h_ (h.bt (min a 40) #[I_ j_ 3,T_ t,S_ A' 0 c',B_ z]);have q:t.size<=1048576:=(h.hpn _ (lm_ h.hx)).1;rw[show min a 40=a from oo]at H |-
 clear h eD hr;replace H:Hid (Bt 224 D ps f (QR_ ps (f+1) j a s) (W.alloc (C_ #[I_ j_ 3,T_ t,S_ A' 0 c',B_ z] 96)) s (-1) ([.put t]) (W.alloc (C_ #[I_ j_ 3,T_ t,S_ A' 0 c',B_ z] 96))):=H;go_enter func224,ntmps224;go_upto_region 2 with fail
 have d:=h_ (Kb.below (show Below W.heap.size W (W.alloc (C_ #[I_ j_ 3,T_ t,S_ A' 0 c',B_ z] 96))from grow_));have c:=h_ (Blk.new W 96 #[I_ j_ 3,T_ t,S_ A' 0 c',B_ z]);generalize W.alloc (C_ #[I_ j_ 3,T_ t,S_ A' 0 c',B_ z] 96)=Wb at *;have K:=c.o;have x0:=K.q0;have x1:=K.q1;have x2:=K.q2;have xg:=K.lt;clear K;obtain⟨xt,xf,xz⟩:=H.o.C.tx;have g:=H.o.size;simp only[wB,Xj_]at g;have p:¬9223372036854775807 < s.text.size+t.size:=oo;go_upto_region 7 with fail
 go_still_tail 9,nr_;have H2:=h_ (H.o.put.next br.drew);go_wp2;go_ret;have h2:=H2.o.fin_;exact⟨rfl,h2.1,d.o.trans h2.2⟩
theorem Qc7_ (D:BD) (hi:D.imp=true) (ps:List PN) (m f j:Nat) (t:BA) (z:Bool) (a:Int) (s:Pb) (W:World) (q:Nat) (h:VIn 224 D ps m f j ⟨11,t,[(q:Int)],z⟩ a s W) (v:QI_ (Qc_ ps (q:Int))):
  Calls prog 224 #[P_ (some ⟨D.T,0,none⟩),I_ j_ (j:Int),I_ j_ a] W (YW_ D W (I_ j_ (-1)) (QR_ ps (f+1) j (min a 40) s)):=by
 obtain⟨b,off,A',c',eD,B,y0,y1,y2,y3,hr,E⟩:=h.at_;obtain⟨_,un,uf,uz⟩:=h.hC.ti hi;have ut:=h.hC.tx.1;rw[eD]at un;have F:j < D.n:=by have:=h.lt;have:=h.hn;omega
 have p:j<=300:=by have:=h.lt;have:=h.hF.few;omega
 have ha:=h.ha;have C:=h.hab;have A:=h.h40 hi;have HK:=h_ h.kids;have n:=h_ hr;have HV:=h_ h;replace y0:W.cell? ⟨b,off+j * 4,none⟩=some (I_ j_ 11):=y0;replace y1:W.cell? ⟨b,off+j * 4+1,none⟩=some (T_ t):=y1;replace y2:W.cell? ⟨b,off+j * 4+2,none⟩=some (S_ A' 1 c'):=y2;replace y3:W.cell? ⟨b,off+j * 4+3,none⟩=some (B_ z):=y3;have H:=h_ (h.bt (min a 40) #[I_ j_ 11,T_ t,S_ A' 1 c',B_ z]);have M:t.size<=1048576:=(h.hpn _ (lm_ h.hx)).1;rw[show min a 40=a from oo]at H |-
 clear h eD hr;obtain⟨k,c,rfl⟩:=ZC_ n.o sm_;obtain⟨⟨G,I⟩,J,L⟩:=HK.o (q:Int) sm_;have r:q < f:=oo;replace H:Hid (Bt 224 D ps f (QR_ ps (f+1) j a s) (W.alloc (C_ #[I_ j_ 11,T_ t,S_ (some ⟨k,c,none⟩) 1 c',B_ z] 96)) s (-1) ([.put ⟨#[40]⟩,.kid (q:Int) a,.put ⟨#[41]⟩]) (W.alloc (C_ #[I_ j_ 11,T_ t,S_ (some ⟨k,c,none⟩) 1 c',B_ z] 96))):=H;go_enter func224,ntmps224;go_upto_region 2 with fail
 have l:=h_ (Kb.below (show Below W.heap.size W (W.alloc (C_ #[I_ j_ 11,T_ t,S_ (some ⟨k,c,none⟩) 1 c',B_ z] 96))from grow_));have e:=h_ (Blk.new W 96 #[I_ j_ 11,T_ t,S_ (some ⟨k,c,none⟩) 1 c',B_ z]);generalize W.alloc (C_ #[I_ j_ 11,T_ t,S_ (some ⟨k,c,none⟩) 1 c',B_ z] 96)=Wb at *;have K:=e.o;have x0:=K.q0;have x1:=K.q1;have x:=K.q2;have y:=K.lt;clear K;obtain⟨xt,xf,xz⟩:=H.o.C.tx;have d:=H.o.size;simp only[wB,Xj_]at d;go_upto_region 10 with fail
 have g:=h_ H.o.put;clear H xt xf xz d x0 x1 x y;generalize Wb.setCell ⟨D.T,6,none⟩ (T_ (s.text++⟨#[40]⟩))=W5 at *;have H:=g;clear g;have K:=H.o.K.2 _ _ e.o;have x:=K.q2;have y:=K.lt;clear K;have cv:=QO_ n.o H.o.C.old (i:=0) sm_ rfl;rw[Nat.add_zero]at cv;have o:=ZU_ n.o H.o.C.old sm_;go_wp2_with fail
 refine Bt.kid H r v ha oo oo ?_;intro W1 g k1;clear H;have H:=g;clear g k1;rw[hi];clear x y cv o;obtain⟨xt,xf,xz⟩:=H.o.C.tx;have d:=H.o.size;simp only[wB,Xj_]at d;go_wp2;go_ret;have h2:=H.o.put.fin_;exact⟨rfl,h2.1,l.o.trans h2.2⟩
theorem Qc6_ (D:BD) (hi:D.imp=true) (ps:List PN) (m f j:Nat) (t:BA) (z:Bool) (a:Int) (s:Pb) (W:World) (q:Nat) (h:VIn 224 D ps m f j ⟨6,t,[(q:Int)],z⟩ a s W) (o:QI_ (Qc_ ps (q:Int))):
  Calls prog 224 #[P_ (some ⟨D.T,0,none⟩),I_ j_ (j:Int),I_ j_ a] W (YW_ D W (I_ j_ (-1)) (QR_ ps (f+1) j (min a 40) s)):=by
 obtain⟨b,off,A',c',eD,r,y0,y1,y2,y3,hr,A⟩:=h.at_;obtain⟨_,un,uf,uz⟩:=h.hC.ti hi;have ut:=h.hC.tx.1;rw[eD]at un;have B:j < D.n:=by have:=h.lt;have:=h.hn;omega
 have l:j<=300:=by have:=h.lt;have:=h.hF.few;omega
 have ha:=h.ha;have y:=h.hab;have p:=h.h40 hi;have HK:=h_ h.kids;have g:=h_ hr;have HV:=h_ h;replace y0:W.cell? ⟨b,off+j * 4,none⟩=some (I_ j_ 6):=y0;replace y1:W.cell? ⟨b,off+j * 4+1,none⟩=some (T_ t):=y1;replace y2:W.cell? ⟨b,off+j * 4+2,none⟩=some (S_ A' 1 c'):=y2;replace y3:W.cell? ⟨b,off+j * 4+3,none⟩=some (B_ z):=y3;have H:=h_ (h.bt (min a 40) #[I_ j_ 6,T_ t,S_ A' 1 c',B_ z]);have I:t.size<=1048576:=(h.hpn _ (lm_ h.hx)).1;rw[show min a 40=a from oo]at H |-
 clear h eD hr;obtain⟨b5,c,rfl⟩:=ZC_ g.o sm_;obtain⟨⟨C,E⟩,F,G⟩:=HK.o (q:Int) sm_;have n:q < f:=oo;replace H:Hid (Bt 224 D ps f (QR_ ps (f+1) j a s) (W.alloc (C_ #[I_ j_ 6,T_ t,S_ (some ⟨b5,c,none⟩) 1 c',B_ z] 96)) s (-1) ([.kid (q:Int) a,.put (⟨#[46]⟩++t)]) (W.alloc (C_ #[I_ j_ 6,T_ t,S_ (some ⟨b5,c,none⟩) 1 c',B_ z] 96))):=H;have cv:=QO_ g.o HV.o.hC.old (i:=0) sm_ rfl;rw[Nat.add_zero]at cv;have k:=ZU_ g.o HV.o.hC.old sm_;go_enter func224,ntmps224;go_wp2_with fail
 refine Bt.kid H n o ha oo oo ?_;intro W1 H1 k1;clear H;have H:=H1;clear H1 k1;rw[hi];clear cv k;have K:=H.o.box;have x1:=K.q1;have x2:=K.q2;have xg:=K.lt;clear K;obtain⟨xt,xf,xz⟩:=H.o.C.tx;have d:=H.o.size;simp only[wB,Xj_,bs_]at d;have e:(⟨#[46]⟩:BA).size=1:=rfl;rw[e]at d;clear e;have v:¬9223372036854775807 < 1+t.size:=oo;have x:¬9223372036854775807 < (QR_ ps f q a s).text.size+(1+t.size):=oo;go_upto_region 14 with fail
 go_still_tail 10,nr_;have H2:=h_ (H.o.put.next br.drew);go_wp2;go_ret;have h2:=H2.o.fin_;exact⟨rfl,h2.1,Zc_ h2.2⟩
theorem Qa6_ (D:BD) (hi:D.imp=true) (ps:List PN) (m f j:Nat) (t:BA) (z:Bool) (a:Int) (s:Pb) (W:World) (l:LI) (h:VIn 224 D ps m f j ⟨4,t,l,z⟩ a s W) (k:∀v∈l,QI_ (Qc_ ps v)):
  Calls prog 224 #[P_ (some ⟨D.T,0,none⟩),I_ j_ (j:Int),I_ j_ a] W (YW_ D W (I_ j_ (-1)) (QR_ ps (f+1) j (min a 40) s)):=by
 obtain⟨b,off,A',c',eD,n,y0,y1,y2,y3,hr,p⟩:=h.at_;obtain⟨_,un,uf,uz⟩:=h.hC.ti hi;have ut:=h.hC.tx.1;rw[eD]at un;have q:j < D.n:=by have:=h.lt;have:=h.hn;omega
 have g:j<=300:=by have:=h.lt;have:=h.hF.few;omega
 have ha:=h.ha;have o:=h.hab;have d:=h.h40 hi;have HK:=h_ h.kids;have HR:=h_ hr;have c:=h_ h;replace y0:W.cell? ⟨b,off+j * 4,none⟩=some (I_ j_ 4):=y0;replace y1:W.cell? ⟨b,off+j * 4+1,none⟩=some (T_ t):=y1;replace y2:W.cell? ⟨b,off+j * 4+2,none⟩=some (S_ A' l.length c'):=y2;replace y3:W.cell? ⟨b,off+j * 4+3,none⟩=some (B_ z):=y3;have H:=h_ (h.bt (min a 40) #[I_ j_ 4,T_ t,S_ A' l.length c',B_ z]);have r:t.size<=1048576:=(h.hpn _ (lm_ h.hx)).1;rw[show min a 40=a from oo]at H |-
 clear h eD hr;have HL:=h_ (YD_ _ rfl D hi ps f c.o.hN c.o.light A' l.length c' l ⟨#[91]⟩ ⟨#[93]⟩ s a (W.alloc (C_ #[I_ j_ 4,T_ t,S_ A' l.length c',B_ z] 96)) (h_ rfl) c.o.few HR.o (h_ (fun v i=>⟨(HK.o v i).1,k v i,(HK.o v i).2.1⟩)) ⟨ha,d⟩ c.o.h79 (c.o.hC.next grow_) (c.o.weight a));have HE:=h_ (show(VL_ (QR_ ps f) (s,-1) (XT_ ⟨#[91]⟩ ⟨#[93]⟩ l a)).1=QR_ ps (f+1) j a s from(KX_ c.o.hx a s).symm);rw[HE.o]at HL;clear HE H;go_enter func224,ntmps224;go_wp2_with fail
 refine HL.o.mono ?_;rintro e w2 ⟨rfl,h2,h3⟩;have H2:=h_ h2;have H3:=h_ h3;clear h2 h3;go_wp2;go_ret;exact⟨rfl,H2.o,Zc_ H3.o⟩
theorem jp_ (D:BD) (hi:D.imp=true) (ps:List PN) (m f j:Nat) (t:BA) (z:Bool) (a:Int) (s:Pb) (W:World) (l:LI) (h:VIn 224 D ps m f j ⟨7,t,l,z⟩ a s W) (i:∀v∈l,QI_ (Qc_ ps v)):
  Calls prog 224 #[P_ (some ⟨D.T,0,none⟩),I_ j_ (j:Int),I_ j_ a] W (YW_ D W (I_ j_ (Q4_ s)) (QR_ ps (f+1) j (min a 40) s)):=by
 obtain⟨b,off,A',c',eD,n,y0,y1,y2,y3,hr,p⟩:=h.at_;obtain⟨_,un,uf,uz⟩:=h.hC.ti hi;have ut:=h.hC.tx.1;rw[eD]at un;have q:j < D.n:=by have:=h.lt;have:=h.hn;omega
 have d:j<=300:=by have:=h.lt;have:=h.hF.few;omega
 have ha:=h.ha;have o:=h.hab;have k:=h.h40 hi;have HK:=h_ h.kids;have HR:=h_ hr;have c:=h_ h;replace y0:W.cell? ⟨b,off+j * 4,none⟩=some (I_ j_ 7):=y0;replace y1:W.cell? ⟨b,off+j * 4+1,none⟩=some (T_ t):=y1;replace y2:W.cell? ⟨b,off+j * 4+2,none⟩=some (S_ A' l.length c'):=y2;replace y3:W.cell? ⟨b,off+j * 4+3,none⟩=some (B_ z):=y3;have H:=h_ (h.bt (min a 40) #[I_ j_ 7,T_ t,S_ A' l.length c',B_ z]);have r:t.size<=1048576:=(h.hpn _ (lm_ h.hx)).1;rw[show min a 40=a from oo]at H |-
 clear h eD hr;have HL:=h_ (qq_ D hi ps f c.o.hps c.o.hfn c.o.hN c.o.light A' l.length c' l t z s (min (a+4) 40) (W.alloc (C_ #[I_ j_ 7,T_ t,S_ A' l.length c',B_ z] 96)) (h_ rfl) c.o.few HR.o (h_ (fun v g=>⟨(HK.o v g).1,i v g,(HK.o v g).2.1⟩)) ⟨oo,oo⟩ c.o.h79 (c.o.hC.next grow_) (c.o.weight a));have HE:=h_ (show(VL_ (QR_ ps f) (s,-1) (ZS_ ps t l (inN a))).1=QR_ ps (f+1) j a s from(KX_ c.o.hx a s).symm);rw[show(VL_ (QR_ ps f) (s,-1) (ZS_ ps t l (min (a+4) 40))).1=QR_ ps (f+1) j a s from HE.o]at HL;clear HE H;go_enter func224,ntmps224;go_wp2_with fail
 refine HL.o.mono ?_;rintro e w2 ⟨rfl,h2,h3⟩;have H2:=h_ h2;have H3:=h_ h3;clear h2 h3;go_wp2;go_ret;exact⟨rfl,H2.o,Zc_ H3.o⟩
theorem Qa7_ (D:BD) (hi:D.imp=true) (ps:List PN) (m f j:Nat) (t:BA) (z:Bool) (a:Int) (s:Pb) (W:World) (l:LI) (h:VIn 224 D ps m f j ⟨8,t,l,z⟩ a s W) (k:∀v∈l,QI_ (Qc_ ps v)) (d:Hid (l.length=3)):
  Calls prog 224 #[P_ (some ⟨D.T,0,none⟩),I_ j_ (j:Int),I_ j_ a] W (YW_ D W (I_ j_ (Q4_ s)) (QR_ ps (f+1) j (min a 40) s)):=by
 obtain⟨b,off,A',c',eD,o,y0,y1,y2,y3,hr,q⟩:=h.at_;obtain⟨_,un,uf,uz⟩:=h.hC.ti hi;have ut:=h.hC.tx.1;rw[eD]at un;have r:j < D.n:=by have:=h.lt;have:=h.hn;omega
 have g:j<=300:=by have:=h.lt;have:=h.hF.few;omega
 have ha:=h.ha;have p:=h.hab;have n:=h.h40 hi;have HK:=h_ h.kids;have HR:=h_ hr;have c:=h_ h;replace y0:W.cell? ⟨b,off+j * 4,none⟩=some (I_ j_ 8):=y0;replace y1:W.cell? ⟨b,off+j * 4+1,none⟩=some (T_ t):=y1;replace y2:W.cell? ⟨b,off+j * 4+2,none⟩=some (S_ A' l.length c'):=y2;replace y3:W.cell? ⟨b,off+j * 4+3,none⟩=some (B_ z):=y3;have H:=h_ (h.bt (min a 40) #[I_ j_ 8,T_ t,S_ A' l.length c',B_ z]);have x:t.size<=1048576:=(h.hpn _ (lm_ h.hx)).1;rw[show min a 40=a from oo]at H |-
 clear h eD hr;have HL:=h_ (kG_ D hi ps f c.o.hps c.o.hfn c.o.hN c.o.light A' l.length c' l t z s (min (a+4) 40) (W.alloc (C_ #[I_ j_ 8,T_ t,S_ A' l.length c',B_ z] 96)) (h_ rfl) (by have:=d.o;omega) HR.o (h_ (fun v i=>⟨(HK.o v i).1,k v i,(HK.o v i).2.1⟩)) ⟨oo,oo⟩ c.o.h79 (c.o.hC.next grow_) (c.o.weight a));have HE:=h_ (show(VL_ (QR_ ps f) (s,-1) (Y4_ ps l (inN a))).1=QR_ ps (f+1) j a s from(KX_ c.o.hx a s).symm);rw[show(VL_ (QR_ ps f) (s,-1) (Y4_ ps l (min (a+4) 40))).1=QR_ ps (f+1) j a s from HE.o]at HL;clear HE H;go_enter func224,ntmps224;go_wp2_with fail
 refine HL.o.mono ?_;rintro e w2 ⟨rfl,h2,h3⟩;have H2:=h_ h2;have H3:=h_ h3;clear h2 h3;go_wp2;go_ret;exact⟨rfl,H2.o,Zc_ H3.o⟩
theorem Qa4_ (D:BD) (hi:D.imp=true) (ps:List PN) (m f j:Nat) (t:BA) (z:Bool) (a:Int) (s:Pb) (W:World) (q:Nat) (l:LI) (h:VIn 224 D ps m f j ⟨5,t,(q:Int)::l,z⟩ a s W) (B:QI_ (Qc_ ps (q:Int))) (O:∀v∈l,QI_ (Qc_ ps v)):
  Calls prog 224 #[P_ (some ⟨D.T,0,none⟩),I_ j_ (j:Int),I_ j_ a] W (YW_ D W (I_ j_ (-1)) (QR_ ps (f+1) j (min a 40) s)):=by
 obtain⟨b,off,A',c',eD,P,y0,y1,y2,y3,hr,L⟩:=h.at_;obtain⟨_,un,uf,uz⟩:=h.hC.ti hi;have ut:=h.hC.tx.1;rw[eD]at un;have U:j < D.n:=by have:=h.lt;have:=h.hn;omega
 have M:j<=300:=by have:=h.lt;have:=h.hF.few;omega
 have F:=h.ha;have R:=h.hab;have g:=h.h40 hi;have J:=h_ h.kids;have C:=h_ hr;have k:=h_ h;replace y0:W.cell? ⟨b,off+j * 4,none⟩=some (I_ j_ 5):=y0;replace y1:W.cell? ⟨b,off+j * 4+1,none⟩=some (T_ t):=y1;replace y2:W.cell? ⟨b,off+j * 4+2,none⟩=some (S_ A' (l.length+1) c'):=y2;replace y3:W.cell? ⟨b,off+j * 4+3,none⟩=some (B_ z):=y3;have H:=h_ (h.bt (min a 40) #[I_ j_ 5,T_ t,S_ A' (l.length+1) c',B_ z]);have aa:t.size<=1048576:=(h.hpn _ (lm_ h.hx)).1;rw[show min a 40=a from oo]at H |-
 clear h eD hr;obtain⟨E,c,rfl⟩:=ZC_ C.o sm_;obtain⟨⟨V,X⟩,Y,Z⟩:=J.o (q:Int) sm_;have x:q < f:=oo;replace H:Hid (Bt 224 D ps f (QR_ ps (f+1) j a s) (W.alloc (C_ #[I_ j_ 5,T_ t,S_ (some ⟨E,c,none⟩) (l.length+1) c',B_ z] 96)) s (-1) (.kid (q:Int) a::XT_ ⟨#[40]⟩ ⟨#[41]⟩ l a) (W.alloc (C_ #[I_ j_ 5,T_ t,S_ (some ⟨E,c,none⟩) (l.length+1) c',B_ z] 96))):=H;have cv:=QO_ C.o k.o.hC.old (i:=0) sm_ rfl;rw[Nat.add_zero]at cv;have S:=ZU_ C.o k.o.hC.old sm_;have em:((l.length+1:Nat):Int) - 1=(l.length:Int):=oo;have Q:l.length+1<=c':=L;have y:Rd D.w0 1 (some ⟨E,c+1,none⟩) l.length (Qa_ l):=UL_ C.o sm_ sm_;have N:c'=1->l=[]:=fun e=>ln_ oo
 by_cases r:c'=1
 ·skip
  obtain rfl:l=[]:=N r;subst r;clear em y;go_enter func224,ntmps224;go_wp2_with fail
  refine Bt.kid H x B F oo oo ?_;intro W1 d k1;rw[hi];have K:=d.o.box;have x2:=K.q2;have xg:=K.lt;have n:=h_ (fun A2=>YD_ _ rfl D hi ps f k.o.hN k.o.light A2 0 0 [] ⟨#[40]⟩ ⟨#[41]⟩ (QR_ ps f q a s) a W1 (h_ rfl) oo (Rd.empty_ _ _ _) (h_ (fun v A=>(by cases A))) ⟨F,g⟩ d.o.c79 d.o.C d.o.Z);rw[d.o.L]at n;clear H K;go_wp2_with fail
  refine(n.o _).mono ?_;rintro e w2 ⟨rfl,o,p⟩;have G:=h_ o;have I:=h_ (d.o.K.trans p);clear o p;go_wp2;go_ret;exact⟨rfl,G.o,Zc_ I.o⟩
 ·skip
  have T:1 < c':=oo;go_enter func224,ntmps224;go_wp2_with fail
  refine Bt.kid H x B F oo oo ?_;intro W1 d k1;rw[hi];have K:=d.o.box;have x2:=K.q2;have xg:=K.lt;have n:=h_ (fun c2=>YD_ _ rfl D hi ps f k.o.hN k.o.light (some ⟨E,c+1,none⟩) l.length c2 l ⟨#[40]⟩ ⟨#[41]⟩ (QR_ ps f q a s) a W1 (h_ rfl) (by have:=k.o.few;simp only[List.length_cons]at this;omega) y (h_ (fun v A=>⟨(J.o v (List.mem_cons_of_mem _ A)).1,O v A,(J.o v (List.mem_cons_of_mem _ A)).2.1⟩)) ⟨F,g⟩ d.o.c79 d.o.C d.o.Z);rw[d.o.L]at n;clear H K;go_wp2_with fail
  refine(n.o _).mono ?_;rintro e w2 ⟨rfl,o,p⟩;have G:=h_ o;have I:=h_ (d.o.K.trans p);clear o p;go_wp2;go_ret;exact⟨rfl,G.o,Zc_ I.o⟩
theorem Qa5_ (D:BD) (hi:D.imp=true) (ps:List PN) (m f j:Nat) (t:BA) (z:Bool) (a:Int) (s:Pb) (W:World) (q:Nat) (l:LI) (h:VIn 224 D ps m f j ⟨10,t,(q:Int)::l,z⟩ a s W) (ab:QI_ (Qc_ ps (q:Int))) (ac:∀v∈l,QI_ (Qc_ ps v)) (ak:1<=l.length):
  Calls prog 224 #[P_ (some ⟨D.T,0,none⟩),I_ j_ (j:Int),I_ j_ a] W (YW_ D W (I_ j_ (-1)) (QR_ ps (f+1) j (min a 40) s)):=by
 obtain⟨b,off,A',c',eD,ah,y0,y1,y2,y3,hr,T⟩:=h.at_;obtain⟨_,un,uf,uz⟩:=h.hC.ti hi;have ut:=h.hC.tx.1;rw[eD]at un;have ao:j < D.n:=by have:=h.lt;have:=h.hn;omega
 have V:j<=300:=by have:=h.lt;have:=h.hF.few;omega
 have ha:=h.ha;have al:=h.hab;have ag:=h.h40 hi;have HK:=h_ h.kids;have Q:=h_ hr;have HV:=h_ h;replace y0:W.cell? ⟨b,off+j * 4,none⟩=some (I_ j_ 10):=y0;replace y1:W.cell? ⟨b,off+j * 4+1,none⟩=some (T_ t):=y1;replace y2:W.cell? ⟨b,off+j * 4+2,none⟩=some (S_ A' (l.length+1) c'):=y2;replace y3:W.cell? ⟨b,off+j * 4+3,none⟩=some (B_ z):=y3;have H:=h_ (h.bt (min a 40) #[I_ j_ 10,T_ t,S_ A' (l.length+1) c',B_ z]);have ax:t.size<=1048576:=(h.hpn _ (lm_ h.hx)).1;rw[show min a 40=a from oo]at H |-
 clear h eD hr;obtain⟨C,c,rfl⟩:=ZC_ Q.o sm_;obtain⟨⟨ap,aq⟩,ar,av⟩:=HK.o (q:Int) sm_;have aa:q < f:=oo;replace H:Hid (Bt 224 D ps f (QR_ ps (f+1) j a s) (W.alloc (C_ #[I_ j_ 10,T_ t,S_ (some ⟨C,c,none⟩) (l.length+1) c',B_ z] 96)) s (-1) (.rule 2 1::.kid (q:Int) a::Xp_ (fun _ v=>[.split 1 false (inN a),.put ⟨#[46,46]⟩,.kid v (inN a)]) 0 l) (W.alloc (C_ #[I_ j_ 10,T_ t,S_ (some ⟨C,c,none⟩) (l.length+1) c',B_ z] 96))):=H;have aj:l.length<=11:=by have:=HV.o.few;simp only[List.length_cons]at this;omega
 have ai:l.length+1<=c':=T;have am:1 < c':=oo;have em:((l.length+1:Nat):Int) - 1=(l.length:Int):=oo;have B:=h_ (fun(Z:World) (S:Below D.w0.heap.size D.w0 Z)=>ZU_ Q.o S sm_);have y:=h_ (fun(Z:World) (S:Below D.w0.heap.size D.w0 Z) (i:Nat) (v:Int) (hd:((q:Int)::l)[i]? =some v)=>QO_ Q.o S (by have:=(gs_.1 hd).1;simpa using this) hd);obtain⟨g,U⟩:∃g:Nat->Int->List Bv,g=(fun _ v=>[.split 1 false (inN a),.put ⟨#[46,46]⟩,.kid v (inN a)]):=⟨_,rfl⟩;rw[<-U]at H;have HG:=h_ U;clear U;go_enter func224,ntmps224;go_upto_region 2 with fail
 have P:=h_ (Kb.below (show Below W.heap.size W (W.alloc (C_ #[I_ j_ 10,T_ t,S_ (some ⟨C,c,none⟩) (l.length+1) c',B_ z] 96))from grow_));have e:=h_ (Blk.new W 96 #[I_ j_ 10,T_ t,S_ (some ⟨C,c,none⟩) (l.length+1) c',B_ z]);generalize W.alloc (C_ #[I_ j_ 10,T_ t,S_ (some ⟨C,c,none⟩) (l.length+1) c',B_ z] 96)=Wb at *;have K:=e.o;have x0:=K.q0;have x1:=K.q1;have J:=K.q2;have L:=K.lt;clear K;obtain⟨xt,xf,xz⟩:=H.o.C.tx;go_wp2_with fail
 refine Bt.irule hi H ?_;intro W1 k k1;clear H k1 xt xf xz x0 x1 J L;obtain⟨r,F⟩:=ex_ (Q4_ s);rw[F]at k |-
 generalize s.rule 2 1=s2 at k;have K:=k.o.K.2 _ _ e.o;have J:=K.q2;have L:=K.lt;have E:=y.o _ k.o.C.old 0 _ rfl;rw[Nat.add_zero]at E;have o:=B.o _ k.o.C.old;clear K F;go_wp2_with fail
 refine Bt.kid k aa ab ha oo oo ?_;intro W2 O k2;clear k k2 J L E o;rw[hi];have K:=O.o.K.2 _ _ e.o;have J:=K.q2;have L:=K.lt;clear K;go_wp2;go_loopw [134] (fun x wr=>∃(i:Nat) (N:Pb),i<=l.length/\x=I_ j_ i/\Hid (Bt 224 D ps f (QR_ ps (f+1) j a s) Wb N r (Xp_ g i (l.drop i)) wr)) (fun x _=>l.length - (intOf x).toNat)
 case atStart=>exact⟨0,_,lz_ _,rfl,by rw[List.drop_zero];exact O⟩
 case round=>
  clear O J L;obtain⟨i,N,an,rfl,n⟩:=hrel;by_cases X:i < l.length
  ·obtain⟨v,hd⟩:∃d,l[i]? =some d:=⟨_,List.getElem?_eq_getElem X⟩;obtain⟨⟨I,ay⟩,az,aA⟩:=HK.o v (List.mem_cons_of_mem _ (lm_ hd));have R:=h_ (ac v (lm_ hd));obtain⟨p,rfl⟩:=eo_ I;have Y:p < f:=oo;have E:=y.o _ n.o.C.old (i+1) (p:Int) hd;rw[show c+(i+1)=c+1+i from oo]at E;have o:=B.o _ n.o.C.old;rw[YL_ hd]at n;have H5:Hid (Bt 224 D ps f (QR_ ps (f+1) j a s) Wb N r (.split 1 false (inN a)::.put ⟨#[46,46]⟩::.kid (p:Int) (inN a)::Xp_ g (i+1) (l.drop (i+1))) wr):=by
    have h:=n.o;rw[HG.o]at h;rw[HG.o];exact h_ h
   have A:=h_ (show i+1<=l.length from oo);clear n hd;go_wp2_with fail
   refine Bt.isplit hi H5 (by unfold inN;omega) ?_;intro W5 M k6;clear H5 k6 E o;generalize N.split r 1 false (inN a)=s6 at *;obtain⟨xt,xf,xz⟩:=M.o.C.tx;have G:=M.o.size;simp only[wB,Xj_]at G;go_upto_region 34 with fail
   have H7:=h_ M.o.put;clear M xt xf xz G;generalize W5.setCell ⟨D.T,6,none⟩ (T_ (s6.text++⟨#[46,46]⟩))=W6 at *;go_wp2_with fail
   refine Bt.kid H7 Y R.o oo oo (by unfold inN;omega) ?_;intro W7 H8 k8;clear H7 k8;rw[hi];go_wp2;go_roundw
   case rel=>exact⟨i+1,_,A.o,by go_num,H8⟩
   case measure=>have:=A.o;simp[intOf];omega
  ·obtain rfl:i=l.length:=oo;rw[Xu_ (lr_ _)]at n;go_wp2;go_ret;have h2:=n.o.fin_;exact⟨rfl,h2.1,P.o.trans h2.2⟩
theorem qO_ (s:Pb) (a b:BA):(s.put a).put b=s.put (a++b):=by
 unfold Pb.put;simp only[ByteArray.append_assoc]
theorem zx_ (l:List BA) (t:BA):Q5_ (l++[t])=if l=[]then t else Q5_ l++⟨#[44,32]⟩++t:=by
 cases l with
 |nil=>rfl
 |cons x r=>
  rw[in_ sm_];show((r++[t]).foldl _ x)=_;rw[List.foldl_append]
  rfl
theorem Qfs_ (l r:List BA):(Q5_ l).size<=(Q5_ (l++r)).size:=by
 induction r generalizing l with
 |nil=>rw[List.append_nil];exact lr_ _
 |cons t r ih=>
  have h1:=ih (l++[t]);rw[List.append_assoc]at h1;refine lt_ ?_ h1;rw[zx_];split
  ·rename_i h;subst h;exact lz_ _
  ·rw[Kr_,Kr_];omega
theorem Qb2_ (D:BD) (hi:D.imp=false) (ps:List PN) (m f j:Nat) (t:BA) (z:Bool) (a:Int) (s:Pb) (W:World) (q:Nat) (l:LI) (h:VIn 137 D ps m f j ⟨10,t,(q:Int)::l,z⟩ a s W) (n:QI_ (Qc_ ps (q:Int))) (T:∀v∈l,QI_ (Qc_ ps v)):
  Calls prog 137 #[P_ (some ⟨D.T,0,none⟩),I_ j_ (j:Int),I_ j_ a] W (YW_ D W (U_ #[]) (QR_ ps (f+1) j (min a 40) s)):=by
 obtain⟨b,off,A',c',eD,V,y0,y1,y2,y3,hr,aa⟩:=h.at_;obtain⟨A0,c0,A1,c1,A2,c2,A3,c3,hA⟩:=h.hC;obtain⟨_,_,_,_,un,_,_,uf,uz⟩:=hA.scells hi;rw[eD]at un;have ac:j < D.n:=by have:=h.lt;have:=h.hn;omega
 have P:j<=300:=by have:=h.lt;have:=h.hF.few;omega
 have ha:=h.ha;have Y:=h.hab;have HK:=h_ h.kids;have M:=h_ hr;have HV:=h_ h;replace y0:W.cell? ⟨b,off+j * 4,none⟩=some (I_ j_ 10):=y0;replace y1:W.cell? ⟨b,off+j * 4+1,none⟩=some (T_ t):=y1;replace y2:W.cell? ⟨b,off+j * 4+2,none⟩=some (S_ A' (l.length+1) c'):=y2;replace y3:W.cell? ⟨b,off+j * 4+3,none⟩=some (B_ z):=y3;have H:=h_ (h.bt (min a 40) #[I_ j_ 10,T_ t,S_ A' (l.length+1) c',B_ z]);clear h hA eD hr;replace H:Hid (Bt 137 D ps f (QR_ ps (f+1) j (min a 40) s) (W.alloc (C_ #[I_ j_ 10,T_ t,S_ A' (l.length+1) c',B_ z] 96)) s (-1) (.rule 2 1::.kid (q:Int) (min a 40)::Xp_ (fun _ v=>[.split 1 false (inN (min a 40)),.put ⟨#[46,46]⟩,.kid v (inN (min a 40))]) 0 l) (W.alloc (C_ #[I_ j_ 10,T_ t,S_ A' (l.length+1) c',B_ z] 96))):=H;obtain⟨b5,c,rfl⟩:=ZC_ M.o sm_;obtain⟨⟨ad,ae⟩,af,ag⟩:=HK.o (q:Int) sm_;have S:q < f:=oo;have X:l.length<=11:=by have:=HV.o.few;simp only[List.length_cons]at this;omega
 have E:=h_ (fun(Z:World) (F:Below D.w0.heap.size D.w0 Z)=>ZU_ M.o F sm_);have A:=h_ (fun(Z:World) (F:Below D.w0.heap.size D.w0 Z) (i:Nat) (v:Int) (hd:((q:Int)::l)[i]? =some v)=>QO_ M.o F (by have:=(gs_.1 hd).1;simpa using this) hd);obtain⟨g,O⟩:∃g:Nat->Int->List Bv,g=(fun _ v=>[.split 1 false (inN (min a 40)),.put ⟨#[46,46]⟩,.kid v (inN (min a 40))]):=⟨_,rfl⟩;rw[<-O]at H;have HG:=h_ O;clear O;go_enter func137,ntmps137;go_wp2_with fail
 refine Bt.srule hi H ?_;intro W1 e k1;clear H k1;obtain⟨r,G⟩:=ex_ (Q4_ s);rw[G]at e |-
 generalize s.rule 2 1=s2 at e;have K:=e.o.box;have I:=K.q2;have J:=K.lt;have L:=A.o _ e.o.C.old 0 _ rfl;rw[Nat.add_zero]at L;have k:=E.o _ e.o.C.old;clear K G;go_wp2_with fail
 refine Bt.kid e S n ha oo rfl ?_;intro W2 H2 k2;clear e k2 I J L k;rw[hi];go_wp2;go_loopw [10] (fun o wr=>∃(i:Nat) (U:Pb),i<=l.length/\o=I_ j_ ((i+1:Nat):Int)/\Hid (Bt 137 D ps f (QR_ ps (f+1) j (min a 40) s) (W.alloc (C_ #[I_ j_ 10,T_ t,S_ (some ⟨b5,c,none⟩) (l.length+1) c',B_ z] 96)) U r (Xp_ g i (l.drop i)) wr)) (fun o _=>l.length+1 - (intOf o).toNat)
 case atStart=>exact⟨0,_,lz_ _,rfl,by rw[List.drop_zero];exact H2⟩
 case round=>
  clear H2;obtain⟨i,U,ab,rfl,x⟩:=hrel;have K:=x.o.box;have I:=K.q2;have J:=K.lt;clear K;by_cases Q:i < l.length
  ·obtain⟨v,hd⟩:∃d,l[i]? =some d:=⟨_,List.getElem?_eq_getElem Q⟩;obtain⟨⟨n,ah⟩,ai,aj⟩:=HK.o v (List.mem_cons_of_mem _ (lm_ hd));have N:=h_ (T v (lm_ hd));obtain⟨p,rfl⟩:=eo_ n;have R:p < f:=oo;have B:=h_ (fun(Z:World) (F:Below D.w0.heap.size D.w0 Z)=>A.o Z F (i+1) (p:Int) hd);rw[YL_ hd]at x;have H5:Hid (Bt 137 D ps f (QR_ ps (f+1) j (min a 40) s) (W.alloc (C_ #[I_ j_ 10,T_ t,S_ (some ⟨b5,c,none⟩) (l.length+1) c',B_ z] 96)) U r (.split 1 false (inN (min a 40))::.put ⟨#[46,46]⟩::.kid (p:Int) (inN (min a 40))::Xp_ g (i+1) (l.drop (i+1))) wr):=by
    have h:=x.o;rw[HG.o]at h;rw[HG.o];exact h_ h
   have C:=h_ (show i+1<=l.length from oo);clear x hd;go_wp2_with fail
   refine Bt.ssplit hi H5 (by unfold inN;omega) ?_;intro W5 H6 k6;clear H5 k6 I J;go_wp2_with fail
   refine Bt.sput hi H6 ?_;intro W6 y k7;clear H6 k7;have K:=y.o.box;have I:=K.q2;have J:=K.lt;have L:=B.o _ y.o.C.old;have k:=E.o _ y.o.C.old;clear K;go_wp2_with fail
   refine Bt.kid y R N.o oo oo (by unfold inN;omega) ?_;intro W7 H8 k8;clear y k8 I J L k;rw[hi];go_wp2;go_roundw
   case rel=>exact⟨i+1,_,C.o,by go_num,H8⟩
   case measure=>have:=C.o;simp[intOf];omega
  ·obtain rfl:i=l.length:=oo;rw[Xu_ (lr_ _)]at x;go_wp2;go_end0;have h2:=x.o.fin_;exact⟨rfl,h2.1,Zc_ h2.2⟩
theorem QfZ_ (D:BD) (hi:D.imp=false) (ps:List PN) (m f j:Nat) (t:BA) (z:Bool) (a:Int) (s:Pb) (W:World) (l:LI) (q:Nat) (h:VIn 137 D ps m f j ⟨9,t,l++[(q:Int)],z⟩ a s W) (Q:QI_ (Qc_ ps (q:Int))):
  Calls prog 137 #[P_ (some ⟨D.T,0,none⟩),I_ j_ (j:Int),I_ j_ a] W (YW_ D W (U_ #[]) (QR_ ps (f+1) j (min a 40) s)):=by
 obtain⟨b,off,A',c',B,aS,y0,V,y2,y3,hr,aH⟩:=h.at_;have ah:(⟨9,t,l++[(q:Int)],z⟩:PN).kids.length=l.length+1:=by show(l++[(q:Int)]).length=_;simp
 rw[ah]at y2 hr aH;clear ah;obtain⟨A0,c0,A1,c1,A2,c2,A3,c3,hA⟩:=h.hC;obtain⟨_,_,_,_,un,_,_,uf,uz⟩:=hA.scells hi;rw[B]at un;have aZ:j < D.n:=by have:=h.lt;have:=h.hn;omega
 have aI:j<=300:=by have:=h.lt;have:=h.hF.few;omega
 have ha:=h.ha;have aU:=h.hab;have HK:=h_ h.kids;have HR:=h_ hr;have HV:=h_ h;replace y0:W.cell? ⟨b,off+j * 4,none⟩=some (I_ j_ 9):=y0;replace V:W.cell? ⟨b,off+j * 4+1,none⟩=some (T_ t):=V;replace y2:W.cell? ⟨b,off+j * 4+2,none⟩=some (S_ A' (l.length+1) c'):=y2;replace y3:W.cell? ⟨b,off+j * 4+3,none⟩=some (B_ z):=y3;have H:=h_ (h.bt (min a 40) #[I_ j_ 9,T_ t,S_ A' (l.length+1) c',B_ z]);clear h hA B hr;obtain⟨T,g,rfl⟩:=ZC_ HR.o oo;obtain⟨⟨a0,a1⟩,a2,a3⟩:=HK.o (q:Int) sm_;have aK:q < f:=oo;have aT:l.length<=11:=by have:=HV.o.few;simp only[lA,List.length_cons,List.length_nil]at this;omega
 have J:=h_ (fun(Z:World) (hZ:Below D.w0.heap.size D.w0 Z)=>ZU_ HR.o hZ oo);have F:=h_ (fun(Z:World) (hZ:Below D.w0.heap.size D.w0 Z) (i:Nat) (v:Int) (hd:(l++[(q:Int)])[i]? =some v)=>QO_ HR.o hZ (by have:=(gs_.1 hd).1;simpa using this) hd);have ag:fnE ps (l++[(q:Int)]) (inN (min a 40))=[.put (⟨#[40]⟩++Q5_ (l.map (QE_ ps))++⟨#[41,32,61,62]⟩),.rule 2 2,.split 1 true (inN (min a 40)),.kid (q:Int) (inN (min a 40))]:=by
  have e1:(l++[(q:Int)]).length - 1=l.length:=by simp
  have e2:(l++[(q:Int)]).take l.length=l:=by simp
  have e3:(l++[(q:Int)]).getD l.length 0=(q:Int):=by simp
  unfold fnE;rw[e1,e2,e3]
 replace H:Hid (Bt 137 D ps f (QR_ ps (f+1) j (min a 40) s) (W.alloc (C_ #[I_ j_ 9,T_ t,S_ (some ⟨T,g,none⟩) (l.length+1) c',B_ z] 96)) s (-1) ([.put (⟨#[40]⟩++Q5_ (l.map (QE_ ps))++⟨#[41,32,61,62]⟩),.rule 2 2,.split 1 true (inN (min a 40)),.kid (q:Int) (inN (min a 40))]) (W.alloc (C_ #[I_ j_ 9,T_ t,S_ (some ⟨T,g,none⟩) (l.length+1) c',B_ z] 96))):=by
  rw[<-ag];exact H
 clear ag;have ay:=h_ H.o.size;have r:=h_ (fun(i:Nat)=>(show s.text.size+(1+(Q5_ ((l.take i).map (QE_ ps))).size)+4<=Xj_ by
  have h1:=ay.o;have h2:=Qfs_ ((l.take i).map (QE_ ps)) ((l.drop i).map (QE_ ps));rw[<-List.map_append,List.take_append_drop]at h2;simp only[wB,Kr_]at h1;have e4:(⟨#[40]⟩:BA).size=1:=rfl;have e5:(⟨#[41,32,61,62]⟩:BA).size=4:=rfl;omega))
 have ad:=h_ (fun(i:Nat) (v:Int) (hd:l[i]? =some v)=>(show Q5_ ((l.take (i+1)).map (QE_ ps))=if i=0 then QE_ ps v else Q5_ ((l.take i).map (QE_ ps))++⟨#[44,32]⟩++QE_ ps v by
  have P:=(gs_.1 hd).1;rw[List.take_add_one,hd,List.map_append];show Q5_ (_++[QE_ ps v])=_;rw[zx_];by_cases h0:i=0
  ·subst h0;rfl
  ·rw[in_ (fun e=>h0 (by have h7:=congrArg List.length e;rw[List.length_map,List.length_take,List.length_nil]at h7;omega)),in_ h0]))
 go_enter func137,ntmps137;go_wp2_with fail
 refine(Xh_ D hi s ⟨#[40]⟩ _ H.o.C (by have:=r.o 0;show s.text.size+1<=Xj_;omega)).mono ?_;rintro e w1 ⟨rfl,h1,k1⟩;have Y:=h_ h1;have ab:=h_ k1;have K:=k1.2 _ _ (Blk.new W 96 #[I_ j_ 9,T_ t,S_ (some ⟨T,g,none⟩) (l.length+1) c',B_ z]);have x2:=K.q2;have xg:=K.lt;clear h1 k1 K;go_wp2;go_loopw [8] (fun x8 wr=>∃i:Nat,i<=l.length/\x8=I_ j_ i/\Hid (BdC D (s.put (⟨#[40]⟩++Q5_ ((l.take i).map (QE_ ps)))) wr)/\Hid (Kb (W.alloc (C_ #[I_ j_ 9,T_ t,S_ (some ⟨T,g,none⟩) (l.length+1) c',B_ z] 96)) wr)) (fun x8 _=>l.length - (intOf x8).toNat)
 case atStart=>exact⟨0,lz_ _,rfl,Y,ab⟩
 case round=>
  clear Y ab x2 xg;obtain⟨i,aY,rfl,S,o⟩:=hrel;by_cases P:i < l.length
  ·obtain⟨v,hd⟩:∃d,l[i]? =some d:=⟨_,List.getElem?_eq_getElem P⟩;obtain⟨⟨Q,a4⟩,ai,aj⟩:=HK.o v (List.mem_append_left _ (lm_ hd));obtain⟨p,rfl⟩:=eo_ Q;have aV:=HV.o.hfn;have aJ:p < D.n:=oo;obtain⟨y,hy⟩:=HV.o.hps.get aJ;have A:=h_ (show QE_ ps (p:Int)=y.text by unfold QE_;rw[it_,X7_ hy]);have HD:=h_ (show(l++[(q:Int)])[i]? =some (p:Int)by rw[List.getElem?_append_left P];exact hd);have k:=h_ (ad.o i (p:Int) hd);have L:=h_ (r.o (i+1));have x:=h_ (show i+1<=l.length from oo);by_cases aX:0 < i
   ·have n:=k.o;rw[in_ (show ¬i=0 from oo)]at n;have k:=h_ n;clear n hd ai aj;go_wp2_with fail
    refine(Xh_ D hi _ ⟨#[44,32]⟩ _ S.o (by have h1:=L.o;rw[k.o]at h1;simp only[Kr_]at h1;show(s.text++_:BA).size+2<=Xj_;rw[Kr_,Kr_];have e4:(⟨#[40]⟩:BA).size=1:=rfl;have e5:(⟨#[44,32]⟩:BA).size=2:=rfl;omega)).mono ?_;rintro e w6 ⟨rfl,U,k6⟩;have aa:=h_ U;have ac:=h_ (o.o.trans k6);clear U k6;have M:=h_ (fun(_:Nat) (_:Int) (_:(l++[(q:Int)])[i]? =some (p:Int))=>(show((s.put (⟨#[40]⟩++Q5_ ((l.take i).map (QE_ ps)))).put ⟨#[44,32]⟩).text.size+(QE_ ps (p:Int)).size<=Xj_ by have h1:=L.o;rw[k.o]at h1;simp only[Kr_]at h1;show((s.text++_)++_:BA).size+_<=Xj_;rw[Kr_,Kr_,Kr_];have e4:(⟨#[40]⟩:BA).size=1:=rfl;have e5:(⟨#[44,32]⟩:BA).size=2:=rfl;omega));obtain⟨A0,c0,A1,c1,A2,c2,A3,c3,hA⟩:=aa.o;obtain⟨_,_,_,_,un,_,_,uf,uz⟩:=hA.scells hi;obtain⟨b6,al,A6,c6,B,c,_,V,_⟩:=HV.o.hps.at_ (show p < D.n from oo) hy;rw[B]at un;have aQ:=((QW_ hA.old).1 _ _ c).trans V;have O:b6 < w6.heap.size:=ll_ c hA.old.size;have K:=ac.o.2 _ _ (Blk.new W 96 #[I_ j_ 9,T_ t,S_ (some ⟨T,g,none⟩) (l.length+1) c',B_ z]);have x2:=K.q2;have xg:=K.lt;have cv:=F.o _ hA.old i (p:Int) HD.o;have N:=J.o _ hA.old;have E:=h_ (aa.o.next br.drew);have I:=h_ (ac.o.trans (Kb.below br.drew));clear B c hA K;have aB:i < l.length+1:=oo;have aC:(i:Int) < (l.length:Int)+1:=oo;have aD:((i:Nat):Int) < ((l.length+1:Nat):Int):=oo;have aE:((p:Nat):Int) < ((D.n:Nat):Int):=oo;go_upto_region 38 with fail
    go_still_tail 13,nr_;go_wp2_with fail
    refine(Xh_ D hi ((s.put (⟨#[40]⟩++Q5_ ((l.take i).map (QE_ ps)))).put ⟨#[44,32]⟩) y.text _ E.o (by rw[<-A.o];exact M.o 0 0 HD.o)).mono ?_;rintro e w8 ⟨rfl,h8,R⟩;have C:=h_ (show BdC D (s.put (⟨#[40]⟩++Q5_ ((l.take (i+1)).map (QE_ ps)))) w8 from by
     rw[k.o];have n:=h8;rw[<-A.o]at n;rw[qO_,qO_]at n;simp only[ByteArray.append_assoc]at n |-; exact n)
    have G:=h_ (I.o.trans R);clear h8 R;go_wp2;go_roundw
    case rel=>exact⟨i+1,x.o,by go_num,C,G⟩
    case measure=>have:=x.o;simp[intOf];omega
   ·obtain rfl:i=0:=oo;have n:=k.o;rw[ip_ rfl]at n;have k:=h_ n;clear n hd ai aj;have M:=h_ (fun(_:Nat) (_:Int) (_:(l++[(q:Int)])[0]? =some (p:Int))=>(show(s.put (⟨#[40]⟩++Q5_ ((l.take 0).map (QE_ ps)))).text.size+(QE_ ps (p:Int)).size<=Xj_ by have h1:=L.o;rw[k.o]at h1;show(s.text++_:BA).size+_<=Xj_;rw[Kr_,Kr_];have e4:(⟨#[40]⟩:BA).size=1:=rfl;have e5:(Q5_ ((l.take 0).map (QE_ ps))).size=0:=rfl;omega));obtain⟨A0,c0,A1,c1,A2,c2,A3,c3,hA⟩:=S.o;obtain⟨_,_,_,_,un,_,_,uf,uz⟩:=hA.scells hi;obtain⟨b6,al,A6,c6,B,c,_,V,_⟩:=HV.o.hps.at_ (show p < D.n from oo) hy;rw[B]at un;have aQ:=((QW_ hA.old).1 _ _ c).trans V;have O:b6 < wr.heap.size:=ll_ c hA.old.size;have K:=o.o.2 _ _ (Blk.new W 96 #[I_ j_ 9,T_ t,S_ (some ⟨T,g,none⟩) (l.length+1) c',B_ z]);have x2:=K.q2;have xg:=K.lt;have cv:=F.o _ hA.old 0 (p:Int) HD.o;rw[Nat.add_zero]at cv;have N:=J.o _ hA.old;have E:=h_ (S.o.next br.drew);have I:=h_ (o.o.trans (Kb.below br.drew));clear B c hA K;have aB:0 < l.length+1:=oo;have aC:(0:Int) < (l.length:Int)+1:=oo;have aD:((0:Nat):Int) < ((l.length+1:Nat):Int):=oo;have aE:((p:Nat):Int) < ((D.n:Nat):Int):=oo;go_upto_region 38 with fail
    go_still_tail 13,nr_;go_wp2_with fail
    refine(Xh_ D hi (s.put (⟨#[40]⟩++Q5_ ((l.take 0).map (QE_ ps)))) y.text _ E.o (by rw[<-A.o];exact M.o 0 0 HD.o)).mono ?_;rintro e w8 ⟨rfl,h8,R⟩;have C:=h_ (show BdC D (s.put (⟨#[40]⟩++Q5_ ((l.take (0+1)).map (QE_ ps)))) w8 from by
     rw[k.o];have n:=h8;rw[<-A.o]at n;rw[qO_]at n;exact n)
    have G:=h_ (I.o.trans R);clear h8 R;go_wp2;go_roundw
    case rel=>exact⟨0+1,x.o,by go_num,C,G⟩
    case measure=>have:=x.o;simp[intOf];omega
  ·obtain rfl:i=l.length:=oo;rw[List.take_length]at S;go_wp2_with fail
   refine(Xh_ D hi _ ⟨#[41,32,61,62]⟩ _ S.o (by have h1:=r.o l.length;rw[List.take_length]at h1;show(s.text++_:BA).size+4<=Xj_;rw[Kr_,Kr_];have e4:(⟨#[40]⟩:BA).size=1:=rfl;omega)).mono ?_;rintro e w6 ⟨rfl,U,k6⟩;rw[qO_]at U;have H6:=h_ (H.o.jump (e:=.put (⟨#[40]⟩++Q5_ (l.map (QE_ ps))++⟨#[41,32,61,62]⟩)) U (o.o.trans k6));clear U k6 H S o;go_wp2_with fail
   refine Bt.srule hi H6 ?_;intro W7 H7 k7;clear H6 k7;go_wp2_with fail
   refine Bt.ssplit hi H7 (by unfold inN;omega) ?_;intro W8 X R;clear H7 R;have K:=X.o.box;have x2:=K.q2;have xg:=K.lt;have cv:=F.o _ X.o.C.old l.length (q:Int) sm_;have N:=J.o _ X.o.C.old;clear K;go_wp2_with fail
   refine Bt.kid X aK Q oo oo (by unfold inN;omega) ?_;intro W9 H9 k9;clear X k9 x2 xg cv N;rw[hi];go_wp2;go_end0;have h2:=H9.o.fin_;exact⟨rfl,h2.1,Zc_ h2.2⟩
theorem j9_ (D:BD) (hi:D.imp=false) (ps:List PN) (m:Nat) (k:Nps D.w0 D.A D.n ps) (hF:TreeF ps m) (i:PNs ps) (hn:D.n=m+1):∀f,f<=m+1->KidC 137 D ps f:=by
 intro f
 induction f with
 |zero=>intro _ j s a W hj;omega
 |succ f ih=>
  intro n j s a W hj b ha g d e hC hZ;obtain⟨x,hx⟩:∃x,ps[j]? =some x:=⟨_,gE (by rw[hF.tree.len];omega)⟩;rw[Qr_ hx]at b;have h:VIn 137 D ps m f j x a s W:=⟨k,hF,i,hn,hx,hj,oo,b,ih oo,ha,g,d,e,hC,hZ⟩;rw[show retB D.imp (ownN ps j s)=U_ #[]by rw[hi];rfl];have hV:=h.form;have c:=fun(v:Int) hv=>((h.kids v hv).1.1:(0:Int)<=v)
  obtain⟨kd,t,l,z⟩:=x;simp only at hV c
  cases hV with
  |leaf q hq=>
   rcases hq with rfl|rfl|rfl
   ·exact j6_ D hi ps m f j t z a s W h
   ·exact j7_ D hi ps m f j t z a s W h
   ·exact j8_ D hi ps m f j t z a s W h
  |list l hl=>exact Qb3_ D hi ps m f j t z a s W l h hl
  |call v l h0 hl=>
   obtain⟨q,rfl⟩:=eo_ (c v sm_);exact Qb1_ D hi ps m f j t z a s W q l h h0 hl
  |dot v h0=>
   obtain⟨q,rfl⟩:=eo_ (c v sm_);exact Qeh_ D hi ps m f j t z a s W q h h0
  |chain l h2 hl=>exact j5_ D hi ps m f j t z a s W l h hl
  |pick a1 b1 c1 hl=>exact Qb4_ D hi ps m f j t z a s W [a1,b1,c1] h hl (h_ rfl)
  |fn l v h0 hnm=>
   obtain⟨q,rfl⟩:=eo_ (c v sm_);exact QfZ_ D hi ps m f j t z a s W l q h h0
  |casc v l h1 h0 hl=>
   obtain⟨q,rfl⟩:=eo_ (c v sm_);exact Qb2_ D hi ps m f j t z a s W q l h h0 hl
  |par v h0=>
   obtain⟨q,rfl⟩:=eo_ (c v sm_);exact Qei_ D hi ps m f j t z a s W q h h0
theorem kO_ {l:List BA} (h:l≠[]) (x:BA):Q5_ (l++[x])=Q5_ l++⟨#[44,32]⟩++x:=by
 cases l with
 |nil=>exact absurd rfl h
 |cons a r=>show(r++[x]).foldl _ a=_;rw[List.foldl_append];rfl
theorem Qbf_ {l:List BA} {k:Nat} {x:BA} (hx:l[k+1]? =some x):Q5_ (l.take (k+2))=Q5_ (l.take (k+1))++⟨#[44,32]⟩++x:=by
 rw[List.take_add_one,hx];refine kO_ (fun e=>?_) x;have h1:=(gs_.1 hx).1;have h2:(l.take (k+1)).length=0:=by rw[e];rfl
 rw[List.length_take]at h2;omega
theorem Jj_ {l:List BA} (hs:∀t∈l,t.size<=1048576) (hn:l.length<=12) (k:Nat):(Q5_ (l.take k)).size<=20000000:=by
 have h1:=Wc_ (W:=1048576) (l.take k) (fun t ht=>hs t (List.mem_of_mem_take ht));have h2:(l.take k).length<=12:=by rw[List.length_take];omega
 have h3:(l.take k).length * (1048576+2)<=12 * (1048576+2):=Nat.mul_le_mul_right _ h2;exact lt_ h1 (lt_ h3 dc_)
theorem vT_ (A:OA) (n c:Nat) (l:List BA) (w:World) (J:n<=12) (f:Rd w 1 A n (Qm_ l)) (hs:∀t∈l,t.size<=1048576) (V:n<=c):
  Calls prog 180 #[S_ A n c,T_ ⟨#[44,32]⟩] w (RB_ (T_ (Q5_ l)) w):=by
 have hl:l.length=n:=by have:=f.1;rw[xJ_]at this;omega
 match n,J,f,hl,V with
 |0,_,_,hl,_=>
  obtain rfl:l=[]:=ln_ hl;go_enter func180,ntmps180;go_wp2;go_ret;exact⟨rfl,br⟩
 |1,_,f,hl,_=>
  match l,hl with
  |[x],_=>
   obtain⟨b,off,rfl,hb,p⟩:=Ud_ f (k:=0) oo rfl;rw[Nat.add_zero]at p;clear f hs;go_enter func180,ntmps180;go_wp2;go_ret;exact⟨rfl,br⟩
 |k+2,hk,f,hl,V=>
  obtain⟨n,J⟩:∃n,n=k+2:=⟨_,rfl⟩;rw[<-J]at hk f hl V |-
  have S:2<=n:=oo;clear J;have I:=h_ hl;have P:=h_ hs;have HJ:=h_ (Jj_ hs oo);obtain⟨b,off,rfl,hb,_⟩:=f.at_ oo;have O:=h_ f;have h0:((n:Int)==0)=false:=bn_.2 oo;have h1:((n:Int)==1)=false:=bn_.2 oo;have ab:¬(9223372036854775807 / ((n:Int) - 1)<=2):=by
   have:3<=9223372036854775807 / ((n:Int) - 1):=Int.le_ediv_of_mul_le oo oo;omega
  have Z:(n:Int)<=(c:Int):=oo;clear f hl hs;go_enter func180,ntmps180;go_wp2
  go_loop [5,41] (fun y x=>∃(i m:Nat),i<=n/\x=I_ j_ i/\y=I_ j_ m/\m<=30+1048576 * i) (fun _ x=>n - (intOf x).toNat)
  case atStart=>exact⟨0,2 * (n - 1),lz_ _,rfl,by congr 1;omega,oo⟩
  case round=>
   obtain⟨i,m,ac,rfl,rfl,hm⟩:=hrel;by_cases hi:i < n
   ·obtain⟨x,h⟩:∃x,l[i]? =some x:=⟨_,gE (by rw[I.o];exact hi)⟩;obtain⟨b',o,d,_,p⟩:=Ud_ O.o hi h;injection d with d;injection d with e1 e2;subst e1;subst e2;have Y:=P.o x (lm_ h);clear h;go_wp2
    go_round
    case rel=>exact⟨i+1,m+x.size,oo,by go_num,by go_num,oo⟩
    case measure=>simp[intOf];omega
   ·obtain⟨x0,g⟩:∃x,l[0]? =some x:=⟨_,gE (by rw[I.o];omega)⟩;have R:=h_ (show Q5_ (l.take (0+1))=x0 by rw[List.take_add_one,g];rfl);have ae:=P.o x0 (lm_ g);have U:=h_ (show Below w.heap.size w (w.alloc (C_ #[P_ none,S_ none 0 0] 122))from Ql_ br);have HX:=h_ g;clear g;go_wp2_with fail
    refine(Tryz.Builder_Grow_fresh w.heap.size w.heap.size m _ (lr_ _) (heap_alloc_new w _) sm_ oo).mono ?_;rintro e w1 ⟨rfl,h1,B⟩;have a:=h_ (U.o.trans B);have v:=h_ (show Bld w1 w.heap.size w.heap.size []from .inr h1);obtain⟨b',o,d,_,p⟩:=Ud_ (O.o.next a.o) (oo:0 < n) HX.o;injection d with d;injection d with e1 e2;subst e1;subst e2;rw[Nat.add_zero]at p;have C:b < w1.heap.size:=ll_ hb a.o.size;clear h1 B;go_wp2_with fail
    refine(vz_ w.heap.size w.heap.size [] x0 w1 v.o so_ a.o.size).mono ?_;rintro e w2 ⟨rfl,S,D,_⟩;have r:=h_ (a.o.trans D);have z:Hid (Bld w2 w.heap.size w.heap.size (Q5_ (l.take (0+1))).data.toList):=h_ (by rw[R.o];exact S);clear S D a v p C;go_wp2;go_loopw [65] (fun x wr=>∃j:Nat,j+1<=n/\x=I_ j_ j/\Hid (Bld wr w.heap.size w.heap.size (Q5_ (l.take (j+1))).data.toList)/\Hid (Below w.heap.size w wr)) (fun x _=>n - (intOf x).toNat)
    case atStart=>exact⟨0,oo,rfl,z,r⟩
    case round=>
     clear z r;obtain⟨j,hj,rfl,HD,H⟩:=hrel;have G:=H.o.size;have af:=HJ.o (j+1);by_cases X:j+1 < n
     ·obtain⟨x,h⟩:∃x,l[j+1]? =some x:=⟨_,gE (by rw[I.o];omega)⟩;obtain⟨b',o,d,aa,p⟩:=Ud_ (O.o.next H.o) X h;injection d with d;injection d with e1 e2;subst e1;subst e2;have Y:=P.o x (lm_ h);have Q:=h_ (Qbf_ h);rw[show off+(j+1)=off+1+j from oo]at p;have ad:(j:Int) < (n:Int) - 1:=oo;clear h;go_wp2_with fail
      refine(vz_ w.heap.size w.heap.size _ ⟨#[44,32]⟩ wr HD.o (by rw[QF_];show _+2<=_;omega) G).mono ?_;rintro e w3 ⟨rfl,h3,E,_⟩;have s:=h_ (H.o.trans E);have M:=h_ h3;clear h3 E;go_wp2_with fail
      refine(vz_ w.heap.size w.heap.size _ x w3 M.o (by rw[lA,QF_];show _+2+_<=_;omega) s.o.size).mono ?_;rintro e w4 ⟨rfl,h4,F,_⟩;have K:=h_ (s.o.trans F);have N:Hid (Bld w4 w.heap.size w.heap.size (Q5_ (l.take (j+1+1))).data.toList):=h_ (by rw[Q.o,XX_,XX_];exact h4);clear h4 F;go_wp2;go_roundw
      case rel=>exact⟨j+1,oo,by go_num,N,K⟩
      case measure=>simp[intOf];omega
     ·obtain rfl:n=j+1:=oo;have q:=h_ (show l.take (j+1)=l from List.take_of_length_le (by rw[I.o];exact lr_ _));go_wp2_with fail
      refine(Qcx_ w.heap.size w.heap.size _ wr HD.o G).mono ?_;rintro e w5 ⟨rfl,T⟩;have L:=h_ (H.o.trans T);go_wp2;go_ret;exact⟨Xn_ (by rw[q.o]),L.o⟩
end Go.Proofs.YtbiijipkgfpgoaaGreatDoor

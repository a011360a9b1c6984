/-
  Put together by program (shake.py):FiM,FiN.
-/
import Derived.Test.YtgbikafalcbibaaGreatDoorMaYE
set_option maxRecDepth 100000
set_option linter.all false
set_option maxHeartbeats 25600000
open Go.Lib (hid)
open Go.Proofs.Tryz
namespace Go.Proofs.YtgbikafalcbibaaGreatDoor
open Go.RowKit
theorem Mine.far_ {w:World} {B g s n c:Nat} {e:TypeId} {xs:List Value} (h:Mine w B e s (some ⟨g,0,none⟩) n c xs) {p:Addr} (hp:g≠p.block) (u:Value):Mine (w.setCell p u) B e s (some ⟨g,0,none⟩) n c xs:=by
 have hl:=h.len;rcases h.own with⟨h1,_⟩|⟨g',h1,hB,hn,hc,ho⟩
 ·cases h1
 ·injection h1 with h1;injection h1 with h1;subst h1;exact Mine.mk_own (ho.far hp u) hl hB hn hc
theorem zi_ (A:OA) (n c:Nat) (ps:List PN) (w:World) (hn:n<=1048576) (a:Nps w A n ps) (d:Hid (PNs ps)) (b:KL_ ps=false):
  Calls prog 26 #[.slice A n c] w (VE_ w []):=by
 have HT:=hid (fun(W:World) (hW:Below w.heap.size w W)=>Zu_ A n c ps W hn (a.next hW) d);rw[b]at HT;unfold VE_;clear b a d;go_enter func26,ntmps26;go_wp2_with fail
 refine(HT.o _ grow_).mono ?_;rintro e w1 ⟨rfl,h1⟩;have M0:=hid (show Mine w1 w.heap.size 3 1 (some ⟨w.heap.size,0,none⟩) 0 0 []from Mine.next (QI_ w 3 1) h1);have d:=QA_ br h1;clear h1;go_wp2;go_ret;exact⟨_,_,rfl,M0.o,d⟩
theorem WP_ (A:OA) (n c:Nat) (ps:List PN) (w:World) (Z:Nps w A n ps) (J:Hid (PNs ps)) (al:KL_ ps=true):
  Calls prog 26 #[.slice A n c] w (VE_ w (KV_ (Vc_ ps n) n)):=by
 obtain⟨i0,hi,aR,I,aS⟩:=info_parts QB_;have O:=hid (And.intro hi (And.intro aR (And.intro I aS)));obtain⟨j0,hj,aO,aP,aQ⟩:=info_parts JG_;obtain⟨m,hm,bm,hg,hu⟩:=Zx_ al;have hl:=Z.len;have hn:n<=300:=oo;have HT:=hid (fun(W:World) (hW:Below w.heap.size w W)=>Zu_ A n c ps W oo (Z.next hW) J);rw[al]at HT;have ai:=fun W=>QK_ (P:=prog) 81 4 j0 _ underlying81 hj aO .i64 .i64 n n (Nat.le_refl _) (by rw[aQ];omega) oo W
 rw[aP,Nat.mul_one]at ai;simp only[Value.cells]at ai;have a2:=hid (fun(W:World)=>Own.falses (w:=W) (e:=4) n);obtain⟨M,hM⟩:=ex_ (Vc_ ps);have az:=hid (show M 0=List.replicate n false by rw[<-hM,<-hl];rfl);have Q:=hid (show ∀i,(M i).length=n from fun i=>by rw[<-hM,Wm_,hl]);have aB:=hid (show ∀(i:Nat) (p:PN),ps[i]? =some p->(p.kind==22||p.kind==21)=false->M (i+1)=M i from fun i p X hk=>by
  rw[<-hM];conv=>lhs;unfold Vc_
  rw[X];dsimp only;rw[hk];rfl)
 have aC:=hid (show ∀(i:Nat) (p:PN),ps[i]? =some p->(p.kind==22||p.kind==21)=true->M (i+1)=p.kids.foldl (YE_ ps) (M i)from fun i p X hk=>by
  rw[<-hM];conv=>lhs;unfold Vc_
  rw[X];dsimp only;rw[if_pos hk])
 rw[hM];obtain⟨S,hS⟩:=ex_ (M n);have a8:=hid hS;have a9:=hid (show S.length=n by rw[<-hS];exact Q.o n);rw[hS];obtain⟨F,hF⟩:=ex_ (KV_ S);have a1:=hid (show ∀i,F (i+1)=F i++(if S.getD i false=true then [(i:Int)]else [])from fun i=>by rw[<-hF];rfl);have a0:=hid (show ∀i,(F i).length<=i from fun i=>by rw[<-hF];exact Yr_ S i);have aZ:=hid (show F 0=[]by rw[<-hF];rfl);rw[hF];have HG:=hid hg;have R:=hid Z;unfold VE_;clear hi aR I aS hj aO aP aQ hm bm hg hu hl Z J al hM hS hF;go_enter func26,ntmps26;go_wp2_with fail
 refine(HT.o _ grow_).mono ?_;rintro e w1 ⟨rfl,h1⟩;have aD:=hid (show Mine w1 w.heap.size 3 1 (some ⟨w.heap.size,0,none⟩) 0 0 []from Mine.next (QI_ w 3 1) h1);have N:=hid (QA_ br h1);have bC:w.heap.size < w1.heap.size:=by have:=h1.size;simp at this;omega
 clear h1 HT;have aF:=hid (a2.o w1);have aE:=hid (Mine.alloc aD.o (.cells (madeCells #[.bool false] n) 4));have av:=hid (N.o.alloc N.o.size (.cells (madeCells #[.bool false] n) 4));have I:=N.o.size;go_wp2;clear ai;go_loopw [5] (fun x wr=>∃i:Nat,i<=n/\x=.int .i64 i/\Hid (Own wr w1.heap.size 4 n (Qt_ (M i)))/\Hid (Mine wr w.heap.size 3 1 (some ⟨w.heap.size,0,none⟩) 0 0 [])/\Hid (Below w.heap.size w wr)) (fun x _=>n - (intOf x).toNat)
 case atStart=>exact⟨0,Nat.zero_le _,rfl,by rw[az.o];exact aF,aE,av⟩
 case round=>
  clear aF aD aE av N;obtain⟨i,hi,rfl,f,HO,d⟩:=hrel;by_cases T:i < n
  ·obtain⟨p,X⟩:=R.o.get T;obtain⟨aM,ah⟩:=HG.o i p X;obtain⟨ks,U⟩:=ex_ p.kids;obtain⟨L,V⟩:=ex_ ks.length;obtain⟨K,hK⟩:=ex_ (p.kind==22||p.kind==21);obtain⟨G,hG⟩:=ex_ (fun j=>if K=true then (ks.take j).foldl (YE_ ps) (M i)else M i);have ad:=hid (show K=false->M (i+1)=G 0 from fun h=>by rw[<-hG];dsimp only;rw[h,if_neg (by decide)];exact aB.o i p X (by rw[hK,h]));have ay:=hid (show K=true->M (i+1)=G L from fun h=>by rw[<-hG];dsimp only;rw[if_pos h,<-V,List.take_length,<-U];exact aC.o i p X (by rw[hK,h]));have bF:=hid (show L=0->M (i+1)=G 0 from fun h=>by
    cases z:K with
    |false=>exact ad.o z
    |true=>rw[ay.o z,h])
   have a3:=hid (show G 0=M i by rw[<-hG];dsimp only;split<;>rfl);have a5:=hid (show K=true->∀(j:Nat) (v:Int),ks[j]? =some v->G (j+1)=(G j).set v.toNat (Qs_ ps v != 19)from fun h j v hv=>by
    rw[<-hG];dsimp only;rw[if_pos h,if_pos h,List.take_add_one,hv,Option.toList_some,List.foldl_append]
    rfl)
   have a4:=hid (show ∀j,(G j).length=n from fun j=>by
    rw[<-hG];dsimp only;split
    ·rw[Wk_,Q.o]
    ·exact Q.o i)
   rw[U]at ah aM;have a7:=hid ah;have aA:=hid V;have bn:L<=12:=oo;obtain⟨b,off,A',c',rfl,r,y0,_,y2,_,_,ag⟩:=R.o.atc T X;rw[U,V]at y2 ag;have a6:=hid ag;have bb:=hid (fun(W:World) (h:Below w.heap.size w W)=>((QE_ h).1 _ _ r).trans y0);have bc:=hid (fun(W:World) (h:Below w.heap.size w W)=>((QE_ h).1 _ _ r).trans y2);have aX:=hid (fun(W:World) (h:Below w.heap.size w W)=>show b < W.heap.size by have:=h.size;omega);have bj:(i:Int) < (n:Int):=oo;rw[<-a3.o]at f;have ax:=hid hK;clear X U V hG ah y0 y2 ag r hK;rename World=>wo
   go_wp2;go_loopw [6] (fun x wr=>∃j:Nat,j<=L/\x=.int .i64 j/\(K=false->j=0)/\Hid (Own wr w1.heap.size 4 n (Qt_ (G j)))/\Hid (Mine wr w.heap.size 3 1 (some ⟨w.heap.size,0,none⟩) 0 0 [])/\Hid (Below w.heap.size w wr)) (fun x _=>L - (intOf x).toNat)
   case atStart=>exact⟨0,Nat.zero_le _,rfl,fun _=>rfl,f,HO,d⟩
   case round=>
    clear f HO d;obtain⟨j,hj,rfl,aJ,f,HO,d⟩:=hrel;have x0:=bb.o _ d.o;have x2:=bc.o _ d.o;have ab:=aX.o _ d.o;by_cases aK:j < L
    ·have bB:(j:Int) < (L:Int):=oo;obtain⟨v,hv⟩:∃v,ks[j]? =some v:=⟨_,gE (by rw[aA.o];exact aK)⟩;have an:=a7.o v (List.mem_of_getElem? hv);obtain⟨q,rfl⟩:=Int.eq_ofNat_of_zero_le an.1;have B:q < n:=oo;have bG:(q:Int) < (n:Int):=oo;obtain⟨b7,bD,e7,s,c7⟩:=Ql_ (a6.o.below d.o) aK hv;subst e7;obtain⟨p',Y⟩:=R.o.get B;obtain⟨b8,bE,A8,c8,e8,t,y0,_,_,_,_,_⟩:=R.o.atc B Y;injection e8 with e8;injection e8 with e81 e82;subst e81;subst e82;have z0:=((QE_ d.o).1 _ _ t).trans y0;have af:=QR_ Y
     cases K with
     |true=>
      have ac:=hid (a5.o rfl j _ hv);rw[Int.toNat_natCast,af]at ac;have aN:=a4.o j;clear hv an y0 t Y af;rcases bft (p.kind==22)with g2|g2
      ·go_upto_region 11 with fail
       go_still_tail 23,(by kernel_rfl);change wpList _ _ _ _ _ wr.drew;have hd:=(Below.refl wr.heap.size wr).drew;have a:=hid (f.o.next hd);have k:=hid (HO.o.next hd);have g:=hid (Qb_ d.o hd);clear hd x0 x2 ab c7 s z0 f HO d;generalize wr.drew=wd at a k g |-
       have l:=hid (ZI_ (x:=(p'.kind != 19)) a.o (show q < (G j).length by rw[aN];exact B));rw[<-ac.o]at l;obtain⟨u0,bp⟩:=a.o.there (show q < n from B);have bq:=a.o.frozen;have bs:=a.o.lt;have D:=hid (Mine.far_ k.o (p:=⟨w1.heap.size,q,none⟩) (show w.heap.size≠w1.heap.size from oo) (.bool (p'.kind != 19)));have C:=hid (g.o.setCell (show w.heap.size<=(⟨w1.heap.size,q,none⟩:Addr).block from I) (.bool (p'.kind != 19)));clear a k g;go_wp2;go_roundw
       case rel=>exact⟨j+1,oo,by go_num,fun h=>(by cases h),l,D,C⟩
       case measure=>simp[intOf];omega
      ·have g1:(p.kind==21)=true:=(by have:=ax.o;rw[g2,Bool.false_or]at this;exact this);go_upto_region 11 with fail
       go_still_tail 23,(by kernel_rfl);change wpList _ _ _ _ _ wr.drew;have hd:=(Below.refl wr.heap.size wr).drew;have a:=hid (f.o.next hd);have k:=hid (HO.o.next hd);have g:=hid (Qb_ d.o hd);clear hd x0 x2 ab c7 s z0 f HO d;generalize wr.drew=wd at a k g |-
       have l:=hid (ZI_ (x:=(p'.kind != 19)) a.o (show q < (G j).length by rw[aN];exact B));rw[<-ac.o]at l;obtain⟨u0,bp⟩:=a.o.there (show q < n from B);have bq:=a.o.frozen;have bs:=a.o.lt;have D:=hid (Mine.far_ k.o (p:=⟨w1.heap.size,q,none⟩) (show w.heap.size≠w1.heap.size from oo) (.bool (p'.kind != 19)));have C:=hid (g.o.setCell (show w.heap.size<=(⟨w1.heap.size,q,none⟩:Addr).block from I) (.bool (p'.kind != 19)));clear a k g;go_wp2;go_roundw
       case rel=>exact⟨j+1,oo,by go_num,fun h=>(by cases h),l,D,C⟩
       case measure=>simp[intOf];omega
     |false=>
      obtain rfl:=aJ rfl;have gg:=ax.o;rw[Bool.or_eq_false_iff]at gg;obtain⟨g2,g1⟩:=gg;have HE:=hid (ad.o rfl);rw[<-HE.o]at f;clear hv an y0 z0 t Y af c7 s;go_wp2;exact⟨⟨i+1,oo,by go_num,f,HO,d⟩,by simp[intOf];omega⟩
    ·obtain rfl:j=L:=oo;have HE:Hid (M (i+1)=G j):=(show M (i+1)=G j by
      cases z:K with
      |true=>exact ay.o z
      |false=>rw[aJ z];exact ad.o z)
     rw[<-HE.o]at f;go_wp2;exact⟨⟨i+1,oo,by go_num,f,HO,d⟩,by simp[intOf];omega⟩
  ·obtain rfl:n=i:=oo;rw[a8.o]at f;clear aB aC Q az;go_wp2;go_loopw [3,7] (fun o x wr=>∃(i:Nat) (A:OA) (c:Nat),i<=n/\x=.int .i64 i/\o=.slice A (F i).length c/\Hid (Mine wr w.heap.size 3 1 A (F i).length c (Qa_ (F i)))/\Hid (Own wr w1.heap.size 4 n (Qt_ S))/\Hid (Below w.heap.size w wr)) (fun _ x _=>n - (intOf x).toNat)
   case atStart=>
    refine⟨0,some ⟨w.heap.size,0,none⟩,0,Nat.zero_le _,rfl,?_,?_,f,d⟩
    all_goals rw[aZ.o]
    ·rfl
    ·exact HO
   case round=>
    clear HO f d;obtain⟨i,A3,c3,hi,rfl,rfl,HO,f,d⟩:=hrel;have aI:=a0.o i;have y:=hid (a1.o i);obtain⟨xs,aa⟩:=ex_ (F i);rw[aa]at HO aI y;rw[aa];obtain⟨n1,aj⟩:=ex_ xs.length;have E:=hid aj;rw[aj]at HO aI |-
    have bd:=hid aa;clear aj aa;have aH:=d.o.size;by_cases T:i < n
    ·have c0:=Yz_ f.o (show i < S.length by rw[a9.o];exact T);have cz:=f.o.lt;have bj:(i:Int) < (n:Int):=oo;rcases bft (S.getD i false)with J|J
     ·rw[J]at c0;rw[if_pos J]at y;clear J;go_wp2_with (at_builtin;(refine wpList_append_own _ rfl (.tmp 81) (.tmp 83) _ rfl w.heap.size 3 i0 (.int .i64 0) 1 8 underlying34 O.o.1 O.o.2.1 O.o.2.2.1 O.o.2.2.2 rfl (by decide) _ _ _ rfl (Mine.alloc HO.o _) ⟨wr.heap.size,0,none⟩ 1 1 [.int .i64 i] rfl rfl (Kq_ _ _ _) (Kr_ _) (by unfold maxLen;omega) oo (by simp;omega) ?_);intro v' w3 H ae ak)
      have hr:∀q,(Value.slice A3 n1 c3).ownBlock=some q->w.heap.size<=q/\∃cs,Blk (wr.alloc (.cells #[.int .i64 i] 3)) q 3 cs:=fun q e=>by
       rw[Qw_]at e;exact⟨(Mine.blk HO.o e).1,QP_ (Mine.alloc HO.o (.cells #[.int .i64 i] 3)) e⟩
      have l:=hid ((f.o.alloc (.cells #[.int .i64 i] 3)).grown' ae (fun q e=>by obtain⟨_,cs,hk⟩:=hr q e;exact⟨_,cs,hk,by decide⟩));have C:=hid ((d.o.alloc aH (.cells #[.int .i64 i] 3)).grown ae (d.o.alloc aH (.cells #[.int .i64 i] 3)).size (fun q e=>(hr q e).1));obtain⟨A5,c5,rfl,m5⟩:=Mine.of H;rw[<-QO_]at m5;have D:=hid m5;clear H ae ak hr m5 HO f d c0 cz;go_wp2;go_roundw
      case rel=>exact⟨i+1,A5,c5,oo,by go_num,by rw[y.o,lA,E.o];rfl,by rw[y.o,lA,E.o];exact D,l,C⟩
      case measure=>simp[intOf];omega
     ·rw[J]at c0;rw[if_neg (by rw[J];decide),List.append_nil]at y;clear J;go_wp2;go_roundw
      case rel=>exact⟨i+1,A3,c3,oo,by go_num,by rw[y.o,E.o],by rw[y.o,E.o];exact HO,f,d⟩
      case measure=>simp[intOf];omega
    ·obtain rfl:i=n:=oo;go_wp2;go_ret;rw[bd.o,E.o];exact⟨A3,c3,rfl,HO.o,d.o⟩
theorem GQ_ (t:BA) (w:World) (ht:t.size<=1048576) (h:KF_ t=none):Calls prog 12 #[.string t] w (Kj_ w []):=by
 have c:=hid (fun W=>Zb_ t W ht);unfold SRd at c;rw[h]at c;unfold Kj_;clear h;go_enter func12,ntmps12;go_wp2_with fail
 refine(c.o _).mono ?_;rintro e w1 ⟨h1,g,p,rfl,a⟩;have M0:=hid (show Mine w1 w.heap.size 41 3 (some ⟨w.heap.size,0,none⟩) 0 0 []from Mine.next (QI_ w 41 3) h1);have d:=QA_ br h1;have b:=hid (zi_ (some ⟨g,0,none⟩) 0 0 [] w1 oo a.nps (hid (show PNs []from fun p hp=>by cases hp)) rfl);unfold VE_ at b;clear h1 a c;go_wp2_with fail
 refine b.o.mono ?_;rintro e w2 ⟨A2,c2,rfl,_,f⟩;have M2:=hid (M0.o.next f);have j:=Qb_ d f;clear f d M0 b;go_wp2;go_loopw [3,8] (fun o i wr=>o=.slice (some ⟨w.heap.size,0,none⟩) 0 0/\i=.int .i64 0/\Hid (Mine wr w.heap.size 41 3 (some ⟨w.heap.size,0,none⟩) 0 0 [])/\Below w.heap.size w wr) (fun _ i _=>0)
 case atStart=>exact⟨rfl,rfl,M2,j⟩
 case round=>
  obtain⟨rfl,rfl,HM,d⟩:=hrel;go_wp2;go_ret;exact⟨_,_,rfl,HM.o,d⟩
theorem J9_ (t:BA) (w:World) (ht:t.size<=1048576) (ps:List PN) (h:KF_ t=some ps):Calls prog 12 #[.string t] w (Kj_ w (ZR_ t ps ps.length)):=by
 obtain⟨i0,hi,aN,aO,aP⟩:=info_parts Kl_;have M:=hid (And.intro hi (And.intro aN (And.intro aO aP)));have HR:=hid (fun W=>Zb_ t W ht);unfold SRd at HR;rw[h]at HR;dsimp only at HR;have a4:=hid (fun(A:OA) (n c:Nat) (k:Int) (W:World) h1 K h3=>XZ_ t A n c ps k W ht h1 K h3);have ac:=hid (QU_ h).2.2;have J:=(QU_ h).1;obtain⟨m,hm,bj,hg,hu⟩:=Zx_ J;obtain⟨n,hn⟩:=ex_ ps.length;have bA:n<=300:=oo;have aC:=hid (fun(A:OA) (c k:Nat) (W:World) (al:Nps W A n ps) (X:k < n)=>zk_ A n c ps k W al ac J X);have z:=hid (fun(A:OA) (c:Nat) (W:World) (al:Nps W A n ps)=>WP_ A n c ps W al ac J);have Q:=xo_ (t:=t) J;rw[hn]at Q HR;obtain⟨L,hL⟩:=ex_ (KV_ (Vc_ ps n) n);have ay:=hid (show ∀v∈L,∃q:Nat,v=(q:Int)/\q < n from fun v hv=>by
  rw[<-hL]at hv;obtain⟨j,h1,K,_⟩:=zV_ hv;exact⟨j,h1,K⟩)
 have bh:L.length<=n:=by rw[<-hL];exact Yr_ _ _
 rw[hL]at z Q;unfold VE_ at z;unfold YM_ at aC;obtain⟨S,E⟩:=ex_ L.length;rw[E]at z bh;have N:=hid E;obtain⟨F,hF⟩:=ex_ (fun i=>(L.take i).flatMap (YR_ t ps));have a0:=hid (show F S=ZR_ t ps n by rw[<-Q,<-hF];dsimp only;rw[<-E,List.take_length]);have ap:=hid (show F 0=[]by rw[<-hF];rfl);have ar:=hid (show ∀(i:Nat) (v:Int),L[i]? =some v->F (i+1)=F i++YR_ t ps v from fun i v hv=>by
  rw[<-hF];dsimp only;rw[List.take_add_one,hv,Option.toList_some,List.flatMap_append];simp)
 have a1:=hid (show ∀i,i<=S->(F i).length<=i * 301 from fun i=>by
  induction i with
  |zero=>intro _;rw[ap.o];simp
  |succ i ih=>
   intro hi;obtain⟨v,hv⟩:∃v,L[i]? =some v:=⟨_,gE (by rw[E];omega)⟩;obtain⟨q,rfl,hq⟩:=ay.o v (List.mem_of_getElem? hv);have h1:=zW_ t ps q;have K:=ih oo;rw[ar.o i _ hv,lA];omega)
 have a8:=hid (fun(k:Nat) (p:PN) (hp:ps[k]? =some p) (X:(p.kind==20)=true)=>xJ_ (t:=t) hp X);have a7:=hid (fun(k:Nat) (p:PN) (hp:ps[k]? =some p) (X:(p.kind==20)=false)=>WT_ (t:=t) hp X);have a9:=hid (show ∀k,k < n->(ZQ_ ps k).length<=300 from fun k X=>by
  have h1:=Y8_ ps k;have K:(ZQ_ ps k).length<=(Wb_ ps k).length:=List.length_filter_le _ _;omega)
 rw[hn,<-a0.o];unfold Kj_;clear hi aN aO aP h J hm bj hg hu hn Q hL E hF;go_enter func12,ntmps12;go_wp2_with fail
 refine(HR.o _).mono ?_;rintro e w1 ⟨h1,AN,cN,rfl,H⟩;have az:=hid (show Mine w1 w.heap.size 41 3 (some ⟨w.heap.size,0,none⟩) 0 0 []from Mine.next (QI_ w 41 3) h1);have aA:=hid (H.more (show w.heap.size<=_ by simp));have Y:=hid (QA_ br h1);have V:=hid (z.o AN cN w1 H.nps);clear H h1 HR z;go_wp2_with fail
 refine V.o.mono ?_;rintro e w2 ⟨AI,cI,rfl,aI,K⟩;have aq:Hid (SF w AN n cN ps AI cI L none 0 [] (some ⟨w.heap.size,0,none⟩) 0 [] w2):=(show SF w AN n cN ps AI cI L none 0 [] (some ⟨w.heap.size,0,none⟩) 0 [] w2 from⟨aA.o.next K,by rw[N.o];exact aI.more Y.o.size,Mine.mk_nil _ _ _ _,az.o.next K,Qb_ Y.o K⟩);clear K aI az aA Y V;go_wp2;go_loopw [3,8] (fun o i wr=>∃(k:Nat) (A:OA) (c:Nat),k<=S/\i=.int .i64 k/\o=.slice A (F k).length c/\Hid (SF w AN n cN ps AI cI L none 0 [] A c (F k) wr)) (fun _ i _=>S - (intOf i).toNat)
 case atStart=>
  refine⟨0,some ⟨w.heap.size,0,none⟩,0,Nat.zero_le _,rfl,?_,?_⟩
  all_goals rw[ap.o]
  ·rfl
  ·exact aq
 case round=>
  clear aq;obtain⟨k,A,c,X,rfl,rfl,a⟩:=hrel;have C:=a1.o k X;by_cases aj:k < S
  ·obtain⟨v,f⟩:∃v,L[k]? =some v:=⟨_,gE (by rw[N.o];exact aj)⟩;obtain⟨q,rfl,hq⟩:=ay.o v (List.mem_of_getElem? f);obtain⟨p1,I⟩:=a.o.1.nps.get hq;have g:=hid (ar.o k _ f);obtain⟨b7,l,e7,ae,c7⟩:=Ql_ a.o.2.1.rd (by rw[N.o];exact aj) f;subst e7;obtain⟨b',b,A2,c2,e8,ad,x0,x1,x2,x3,_,_⟩:=a.o.1.nps.atc hq I;subst e8;have bx:(k:Int) < (S:Int):=oo;have bB:(q:Int) < (n:Int):=oo;clear x1 x2 x3;rcases bft (p1.kind==20)with g1|g1
   ·rw[a8.o q p1 I g1]at g;have aL:=a9.o q hq;have O:=hid (fun(W:World) (h:Below wr.heap.size wr W)=>aC.o (some ⟨b',b,none⟩) cN q W (a.o.next h).1.nps hq);obtain⟨U,aM⟩:=ex_ (ZQ_ ps q);rw[aM]at O g aL;obtain⟨T,R⟩:=ex_ U.length;rw[R]at O aL;have ab:=hid R;obtain⟨D,hD⟩:=ex_ (KS_ t (Q3_ ps q));have HD:=hid hD;rw[hD]at g;obtain⟨fs,ah⟩:=ex_ (F k);have bq:=hid ah;rw[ah]at a C g |-
    obtain⟨G,hG⟩:=ex_ (fun j=>fs++(U.take j).map (fun s=>((2:Int),D,s)));have av:=hid (show G 0=fs by rw[<-hG];simp);have ax:=hid (show F (k+1)=G T by rw[g.o,<-hG];dsimp only;rw[<-R,List.take_length]);have a3:=hid (show ∀(j:Nat) (s:BA),U[j]? =some s->G (j+1)=G j++[((2:Int),D,s)]from fun j s hs=>by
     rw[<-hG];dsimp only;rw[List.take_add_one,hs,Option.toList_some,List.map_append,List.append_assoc]
     rfl)
    have a2:=hid (show ∀j,j<=T->(G j).length<=90600 from fun j hj=>by
     rw[<-hG];dsimp only;rw[lA,List.length_map,List.length_take];omega)
    have ba:=hid f;clear I aM R hD ah hG C f;go_wp2_with fail
    refine(O.o _ grow_).mono ?_;rintro e w3 ⟨AS,cS,rfl,aJ,h3⟩;have aQ:=a.o.2.2.2.2.size;have aB:Hid (SF w (some ⟨b',b,none⟩) n cN ps (some ⟨b7,l,none⟩) cI L AS cS U A c (G 0) w3):=(show SF w (some ⟨b',b,none⟩) n cN ps (some ⟨b7,l,none⟩) cI L AS cS U A c (G 0) w3 from by
     rw[av.o];have h:=a.o.next h3;exact⟨h.1,h.2.1,by rw[ab.o];exact aJ.more aQ,h.2.2.2.1,h.2.2.2.2⟩)
    rw[show fs.length=(G 0).length by rw[av.o]];clear aJ h3 a O x0 c7 ae ad aQ;rename World=>wo
    go_wp2;go_loopw [3,10] (fun o i wr=>∃(j:Nat) (A:OA) (c:Nat),j<=T/\i=.int .i64 j/\o=.slice A (G j).length c/\Hid (SF w (some ⟨b',b,none⟩) n cN ps (some ⟨b7,l,none⟩) cI L AS cS U A c (G j) wr)) (fun _ i _=>T - (intOf i).toNat)
    case atStart=>exact⟨0,A,c,Nat.zero_le _,rfl,rfl,aB⟩
    case round=>
     clear aB;obtain⟨j,A,c,hj,rfl,rfl,a⟩:=hrel;have C:=a2.o j hj;obtain⟨gs,ai⟩:=ex_ (G j);have aa:=hid ai;rw[ai]at a C |-
     obtain⟨n1,ak⟩:=ex_ gs.length;have P:=hid ak;rw[ak]at C |-
     clear ak ai;by_cases aG:j < T
     ·obtain⟨s,hs⟩:∃s,U[j]? =some s:=⟨_,gE (by rw[ab.o];exact aG)⟩;have Z:=hid (a3.o j s hs);rw[aa.o]at Z;obtain⟨bs,bp,es,ag,aE⟩:=Ud_ a.o.2.2.1.rd (by rw[ab.o];exact aG) hs;subst es;have f:=ba.o;obtain⟨b9,bo,e9,af,c9⟩:=Ql_ a.o.2.1.rd (by rw[N.o];exact aj) f;injection e9 with e9;injection e9 with e91 e92;subst e91;subst e92;have bz:(j:Int) < (T:Int):=oo;have HM:=hid a.o.2.2.2.1;rw[P.o]at HM;have bv:=a.o.2.2.2.2.size;have H8:=hid (fun(W:World) (h:Below wr.heap.size wr W)=>a4.o (some ⟨b',b,none⟩) n cN q W oo (a.o.next h).1.nps ac);rw[HD.o]at H8;clear hs f;go_upto_region 12 with fail
      go_region_law (first
       |(
        have _s:=S4;refine step_append_lies _ rfl (.tmp 47) (.tmp 60) 22 rfl w.heap.size 41 i0 (.agg #[.int .i64 0,.int .i64 0,.string ⟨#[]⟩]) 3 32 underlying22 M.o.1 M.o.2.1 M.o.2.2.1 M.o.2.2.2 rfl (by decide) (.slice A n1 c) n1 (gs.flatMap Qc_) (by first|(simp[Act.eval];done)|(simp[Act.eval,Act.put];done)|rfl) (by first|exact(Mine.alloc M4.o _).drew|exact Mine.alloc M4.o _) ⟨w4.heap.size,0,none⟩ 1 1 [.int .i64 2,.int .i64 D,.string s] (by first|(simp[Act.eval];done)|(simp[Act.eval,Act.put];done)|rfl) (by rfl) (World.news_of_block (cs:=#[.int .i64 2,.int .i64 D,.string s]) (t:=41) (fr:=(0,0)) (heap_alloc_new w4 _)) (fun x hx=>by simp at hx;rcases hx with rfl|rfl|rfl<;>rfl) (by decide) (by unfold maxLen;omega) oo (by simp;omega) (w4.heap.size+1) (by simp) ?_;intro v' cap w6 y r bi aH;have d:(w4.alloc (.cells #[.int .i64 2,.int .i64 D,.string s] 41)).grownBy w6 (Value.slice A n1 c).ownBlock:=(by first|exact r|exact Kw_ r))
       |(
        refine KY_ rfl 20 func20 (by kernel_rfl) (by kernel_rfl) _ _ rfl #[.string t,.slice (some ⟨b',b,none⟩) n cN,.int .i64 q] (by first|(simp[Act.eval];done)|(simp[Act.eval,Act.put];done)|rfl) (H8.o _ (by first|exact br|exact br.drew)) ?_;rintro e w4 ⟨rfl,h4⟩;refine⟨_,rfl,?_⟩;have B:Below wr.heap.size wr w4:=(by first|exact h4|exact(Below.refl _ wr).drew.trans h4);have S4:=hid (a.o.next B);have M4:=hid (HM.o.next B);have bd:=((QE_ B).1 _ _ ag).trans aE;have bc:=((QE_ B).1 _ _ af).trans c9;have bC:=B.size;have bn:=S4.o.2.2.2.2.size))
      all_goals
       rw[<-P.o]at y d;obtain⟨A6,c6,ev,h6⟩:=SF.find (S4.o.alloc (.cells #[.int .i64 2,.int .i64 D,.string s] 41)) y d;injection ev with ev1 ev2 ev3;subst ev1;subst ev3;have S6:=hid h6;clear y r d bi aH h6 S4 M4 HM a H8 bd bc c9 aE;go_wp2;go_roundw
       case rel=>exact⟨j+1,_,_,oo,by go_num,by rw[Z.o,lA,<-P.o];rfl,by rw[Z.o];exact S6⟩
       case measure=>simp[intOf];omega
     ·obtain rfl:j=T:=oo;rw[<-aa.o,<-ax.o]at a;have aZ:=hid (show n1=(F (k+1)).length by rw[ax.o,aa.o,P.o]);have a6:Hid (SF w (some ⟨b',b,none⟩) n cN ps (some ⟨b7,l,none⟩) cI L none 0 [] A c (F (k+1)) wr):=(show SF w (some ⟨b',b,none⟩) n cN ps (some ⟨b7,l,none⟩) cI L none 0 [] A c (F (k+1)) wr from⟨a.o.1,a.o.2.1,Mine.mk_nil _ _ _ _,a.o.2.2.2.1,a.o.2.2.2.2⟩);clear a;go_wp2;exact⟨⟨k+1,A,c,oo,by go_num,by rw[aZ.o],a6⟩,by simp[intOf];omega⟩
   ·rw[a7.o q p1 I g1,List.append_nil]at g;clear I f;go_wp2;go_roundw
    case rel=>exact⟨k+1,A,c,oo,by go_num,by rw[g.o],by rw[g.o];exact a⟩
    case measure=>simp[intOf];omega
  ·obtain rfl:k=S:=oo;go_wp2;go_ret;exact⟨A,c,rfl,a.o.2.2.2.1,a.o.2.2.2.2⟩
theorem J8_ (t:BA) (w:World) (ht:t.size<=1048576):Calls prog 12 #[.string t] w (Kj_ w (Ze_ t)):=by
 unfold Ze_;rcases hr:KF_ t with _|ps
 ·exact GQ_ t w ht hr
 ·exact J9_ t w ht ps hr
end Go.Proofs.YtgbikafalcbibaaGreatDoor

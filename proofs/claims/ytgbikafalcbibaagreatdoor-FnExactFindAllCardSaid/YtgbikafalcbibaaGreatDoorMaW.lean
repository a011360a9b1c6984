/-
  Put together by program (shake.py):FgF,FgB,FgE,FgD.
-/
import Derived.Test.YtgbikafalcbibaaGreatDoorMaV
set_option maxRecDepth 100000
set_option linter.all false
set_option maxHeartbeats 25600000
open Go.Lib (hid)
open Go.Proofs.Tryz
namespace Go.Proofs.YtgbikafalcbibaaGreatDoor
open Go.RowKit
def Gf_ (t:BA) (ps:List PN) (a:List FindingD × List BA) (v:Int):List FindingD × List BA:=
 match ps[v.toNat]? with
 |none=>a
 |some p=>if (p.kind==19)=true then a else (if Lib.containsS a.2 p.text=true then a.1++[(5,KS_ t (Q3_ ps v.toNat),p.text)]else a.1,a.2++[p.text])
def Zn_ (t:BA) (ps:List PN) (ks:LI) (k:Nat):List FindingD × List BA:=(ks.take k).foldl (Gf_ t ps) ([],[])
def ko_ (ps:List PN):LI:=match ps[ps.length - 1]? with|none=>[]|some p=>p.kids
def Zq_ (t:BA):List FindingD:=match KF_ t with|none=>[]|some ps=>(Zn_ t ps (ko_ ps) (ko_ ps).length).1
section
variable {t:BA} {ps:List PN} {ks:LI} {k:Nat} {v:Nat} {p:PN}
theorem xI_ (hk:ks[k]? =some (v:Int)) (hp:ps[v]? =some p):Zn_ t ps ks (k+1)=if (p.kind==19)=true then Zn_ t ps ks k else (if Lib.containsS (Zn_ t ps ks k).2 p.text=true then (Zn_ t ps ks k).1++[(5,KS_ t (Q3_ ps v),p.text)]else (Zn_ t ps ks k).1,(Zn_ t ps ks k).2++[p.text]):=by
 unfold Zn_;rw[List.take_add_one,hk,Option.toList_some,List.foldl_append];show Gf_ t ps _ (v:Int)=_;unfold Gf_;rw[Int.toNat_natCast,hp]
theorem Qbx_ (a:List FindingD × List BA) (x:Int):(Gf_ t ps a x).1.length<=a.1.length+1/\(Gf_ t ps a x).2.length<=a.2.length+1:=by
 unfold Gf_;split
 ·omega
 ·split
  ·omega
  ·constructor
   ·dsimp only;split<;>simp
   ·simp
theorem WS_ (k:Nat):(Zn_ t ps ks k).1.length<=k/\(Zn_ t ps ks k).2.length<=k:=by
 have h:∀(l:LI) (a:List FindingD × List BA),(l.foldl (Gf_ t ps) a).1.length<=a.1.length+l.length/\(l.foldl (Gf_ t ps) a).2.length<=a.2.length+l.length:=by
  intro l
  induction l with
  |nil=>intro a;simp
  |cons x l ih=>
   intro a;have h1:=ih (Gf_ t ps a x);have h2:=Qbx_ (t:=t) (ps:=ps) a x;simp only[List.foldl_cons,List.length_cons];omega
 have h1:=h (ks.take k) ([],[]);have h2:(ks.take k).length<=k:=by rw[List.length_take];omega
 unfold Zn_;simp at h1 |-
 omega
end
def TwS (t:BA) (ps:List PN) (ks:LI) (F:Nat->List FindingD × List BA):Prop:=
 F 0=([],[])/\(∀k,(F k).1.length<=k/\(F k).2.length<=k)/\∀(k v:Nat) (p:PN),ks[k]? =some (v:Int)->ps[v]? =some p->F (k+1)=if (p.kind==19)=true then F k else (if Lib.containsS (F k).2 p.text=true then (F k).1++[(5,KS_ t (Q3_ ps v),p.text)]else (F k).1,(F k).2++[p.text])
theorem twS (t:BA) (ps:List PN) (ks:LI):Hid (TwS t ps ks (Zn_ t ps ks)):=⟨rfl,fun k=>WS_ k,fun k v p h1 h2=>xI_ h1 h2⟩
theorem UT_ {t:BA} {ps:List PN} (h:KF_ t=some ps):∃m p,ps.length=m+1/\ps[m]? =some p/\ko_ ps=p.kids/\p.kids.length<=12/\∀v∈p.kids,∃q:Nat,v=(q:Int)/\q < m:=by
 obtain⟨d,f,_⟩:=QU_ h;have c:=d;unfold KL_ at c;simp only[Bool.and_eq_true]at c;obtain⟨h1,h2,h3,h4⟩:=c;have hg:Good ps:=UZ_ (by intro e;rw[e]at h3;simp at h3);obtain⟨m,hm⟩:∃m,ps.length=m+1:=by
  unfold inB at h1;have:=of_decide_eq_true h1;exact⟨ps.length - 1,oo⟩
 obtain⟨p,b⟩:∃p,ps[m]? =some p:=⟨_,gE oo⟩;obtain⟨hk,hv⟩:=hg m p b;refine⟨m,p,hm,b,?_,hk,fun v a=>?_⟩
 ·unfold ko_;rw[hm,Nat.add_sub_cancel,b]
 ·obtain⟨q,rfl⟩:=Int.eq_ofNat_of_zero_le (hv v a).1;exact⟨q,rfl,by have:=(hv _ a).2;omega⟩
theorem qg_ (t:BA):(Zq_ t).length<=12:=by
 unfold Zq_;split
 ·simp
 ·next ps h=>
  obtain⟨m,p,_,_,e,a,_⟩:=UT_ h;rw[e];exact Nat.le_trans (WS_ _).1 a
theorem Us_ (t:BA) (w:World) (ht:t.size<=1048576) (h:KF_ t=none):Calls prog 7 #[.string t] w (Kj_ w []):=by
 have b:=hid (fun W=>Zb_ t W ht);unfold SRd at b;rw[h]at b;unfold Kj_;go_enter func7,ntmps7;go_wp2_with fail
 refine(b.o _).mono ?_;rintro e w1 ⟨h1,g,p,rfl,a⟩;have M0:=hid (show Mine w1 w.heap.size 41 3 (some ⟨w.heap.size,0,none⟩) 0 0 []from Mine.next (QI_ w 41 3) h1);have hb:=QA_ br h1;clear h1 a b;go_wp2;go_ret;exact⟨_,_,rfl,M0.o,hb⟩
theorem GP_ (t:BA) (w:World) (ht:t.size<=1048576) (ps:List PN) (h:KF_ t=some ps):Calls prog 7 #[.string t] w (Kj_ w (Zn_ t ps (ko_ ps) (ko_ ps).length).1):=by
 obtain⟨i0,hi,aA,aB,aC⟩:=info_parts Kl_;have L:=hid (And.intro hi (And.intro aA (And.intro aB aC)));obtain⟨j0,hj,ax,ay,az⟩:=info_parts V6_;have j:=hid (And.intro hj (And.intro ax (And.intro ay az)));have HR:=hid (fun W=>Zb_ t W ht);unfold SRd at HR;rw[h]at HR;have aL:=hid (fun(A:OA) (n c:Nat) (k:Int) (W:World) h1 h2 T=>XZ_ t A n c ps k W ht h1 h2 T);have aM:=hid (QU_ h).2.2;obtain⟨m,p,hm,hp,ap,al,hv⟩:=UT_ h;rw[ap];have HV:=hid hv;obtain⟨ks,hk⟩:=ex_ p.kids;rw[hk]at HV al |-
 have ba:m+1<=300:=by have:=(QU_ h).2.1;omega
 obtain⟨F,hF⟩:=ex_ (Zn_ t ps ks);have HT:=twS t ps ks;rw[hF]at HT |-
 have HS:=hid HT.o.2.2;have aK:=hid HT.o.2.1;have HZ:=hid HT.o.1;clear HT;obtain⟨ml,aa⟩:=ex_ ks.length;rw[aa]at al |-
 have M:=hid aa;dsimp only at HR;rw[hm]at HR;unfold Kj_;clear hi aA aB aC hj ax ay az hF h ap hv hm aa;go_enter func7,ntmps7;go_wp2_with fail
 refine(HR.o _).mono ?_;rintro e w1 ⟨h1,AN,cN,rfl,H⟩;obtain⟨b,off,A',c',rfl,an,x0,x1,x2,x3,Y⟩:=H.kidM (Nat.lt_succ_self m) hp;rw[hk]at x2 Y;have R:=hid (show SF w (some ⟨b,off,none⟩) (m+1) cN ps A' c' ks none 0 [] (some ⟨w.heap.size,0,none⟩) 0 [] w1 from⟨H.more (by simp),Y.more (by simp),Mine.mk_nil _ _ _ _,Mine.next (QI_ w 41 3) h1,QA_ br h1⟩);have em:((m+1:Nat):Int) - 1=(m:Int):=oo;rw[M.o]at x2;clear H Y h1 HR x0 x1 x3;go_upto_region 7 with fail
 have ag:=hid (show SF w (some ⟨b,off,none⟩) (m+1) cN ps A' c' ks (some ⟨w1.heap.size,0,none⟩) 0 [] (some ⟨w.heap.size,0,none⟩) 0 [] (w1.alloc (.cells #[] 9))from by
  have h:=R.o.alloc (.cells #[] 9);exact⟨h.1,h.2.1,Mine.more (QI_ w1 9 1) R.o.2.2.2.2.size,h.2.2.2.1,h.2.2.2.2⟩)
 clear x2 an R;go_wp2;go_loopw [3,8,9] (fun o s i wr=>∃(k:Nat) (A:OA) (c:Nat) (AS:OA) (cS:Nat),k<=ml/\i=.int .i64 k/\o=.slice A (F k).1.length c/\s=.slice AS (F k).2.length cS/\Hid (SF w (some ⟨b,off,none⟩) (m+1) cN ps A' c' ks AS cS (F k).2 A c (F k).1 wr)) (fun _ _ i _=>ml - (intOf i).toNat)
 case atStart=>
  refine⟨0,some ⟨w.heap.size,0,none⟩,0,some ⟨w1.heap.size,0,none⟩,0,Nat.zero_le _,rfl,?_,?_,?_⟩
  all_goals rw[HZ.o]
  ·rfl
  ·rfl
  ·exact ag
 case round=>
  clear ag;obtain⟨k,A,c,AS,cS,hk,rfl,rfl,rfl,g⟩:=hrel;obtain⟨aq,ar⟩:=aK.o k;obtain⟨fs,N⟩:=ex_ ((F k).1);obtain⟨ss,O⟩:=ex_ ((F k).2);have ah:=hid (show F k=(fs,ss)by rw[<-N,<-O]);rw[N,O]at g;rw[N]at aq |-
  rw[O]at ar |-
  obtain⟨n1,ab⟩:=ex_ fs.length;obtain⟨n2,ac⟩:=ex_ ss.length;have r:=hid ab;have y:=hid ac;rw[ab]at aq |-
  rw[ac]at ar |-
  clear ab ac N O;by_cases Z:k < ml
  ·obtain⟨v,I⟩:∃v,ks[k]? =some v:=⟨_,gE (by rw[M.o];exact Z)⟩;obtain⟨q,rfl,hq⟩:=HV.o v (List.mem_of_getElem? I);obtain⟨l,ad⟩:=g.o.1.nps.get (show q < m+1 from oo);have a:=hid (HS.o k q l I ad);obtain⟨b7,a7,e7,V,c7⟩:=Ql_ g.o.2.1.rd (by rw[M.o];exact Z) I;subst e7;obtain⟨b',a6,A2,c2,e8,U,x0,x1,x2,x3,_,_⟩:=g.o.1.nps.atc (show q < m+1 from oo) ad;injection e8 with e8;injection e8 with e81 e82;subst e81;subst e82;have a9:(k:Int) < (ml:Int):=oo;have bb:(q:Int) < ((m+1:Nat):Int):=oo;rw[ah.o]at a;dsimp only at a;clear ad;rcases bft (l.kind==19)with g1|g1
   ·rw[g1,if_pos rfl]at a;go_wp2;go_roundw
    case rel=>exact⟨k+1,A,c,AS,cS,oo,by go_num,by rw[a.o,r.o],by rw[a.o,y.o],by rw[a.o];exact g.o.alloc _⟩
    case measure=>simp[intOf];omega
   ·rw[g1,if_neg (by decide)]at a;have K:=Blk.new wr 36 #[.int .i64 l.kind,.string l.text,.slice A2 l.kids.length c2,.bool l.blank];have Q:=hid (fun(W:World) (h:Below wr.heap.size wr W)=>zy_ AS ss.length cS ss l.text W (by rw[y.o];omega) (hid rfl) (g.o.next h).2.2.1.rd);rw[y.o]at Q;go_wp2_with fail
    refine(Q.o _ grow_).mono ?_;rintro e w2 ⟨rfl,h2⟩;have J:=hid ((g.o.alloc _).next h2);have K2:=K.next h2;have k1:=K2.q1;have kz:=K2.lt;clear K x0 x1 x2 x3 U V c7 g Q h2;rcases bft (Lib.containsS ss l.text)with g2|g2
    ·rw[g2,if_pos rfl]at a;rw[g2];have S:=hid J.o.2.2.2.1;rw[r.o]at S;have aZ:=J.o.2.2.2.2.size;have H8:=hid (fun(W:World) (h:Below w2.heap.size w2 W)=>aL.o (some ⟨b,off,none⟩) (m+1) cN q W oo (J.o.next h).1.nps aM);obtain⟨D,hD⟩:=ex_ (KS_ t (Q3_ ps q));rw[hD]at H8 a;obtain⟨b9,a8,e9,X,c9⟩:=Ql_ J.o.2.1.rd (by rw[M.o];exact Z) I;injection e9 with e9;injection e9 with e91 e92;subst e91;subst e92;clear hD I;go_upto_region 13 with fail
     go_region_law (first
      |(
        have _s:=S4;refine step_append_lies _ rfl (.tmp 49) (.tmp 60) 22 rfl w.heap.size 41 i0 (.agg #[.int .i64 0,.int .i64 0,.string ⟨#[]⟩]) 3 32 underlying22 L.o.1 L.o.2.1 L.o.2.2.1 L.o.2.2.2 rfl (by decide) (.slice A n1 c) n1 (fs.flatMap Qc_) (by first|(simp[Act.eval];done)|(simp[Act.eval,Act.put];done)|rfl) (by first|exact(Mine.alloc M4.o _).drew|exact Mine.alloc M4.o _) ⟨w4.heap.size,0,none⟩ 1 1 [.int .i64 5,.int .i64 D,.string l.text] (by first|(simp[Act.eval];done)|(simp[Act.eval,Act.put];done)|rfl) (by rfl) (World.news_of_block (cs:=#[.int .i64 5,.int .i64 D,.string l.text]) (t:=41) (fr:=(0,0)) (heap_alloc_new w4 _)) (fun x P=>by simp at P;rcases P with rfl|rfl|rfl<;>rfl) (by decide) (by unfold maxLen;omega) oo (by simp;omega) (w4.heap.size+1) (by simp) ?_;intro v' cap w6 E B aY av;have f:(w4.alloc (.cells #[.int .i64 5,.int .i64 D,.string l.text] 41)).grownBy w6 (Value.slice A n1 c).ownBlock:=(by first|exact B|exact Kw_ B))
      |(
        refine KY_ rfl 20 func20 (by kernel_rfl) (by kernel_rfl) _ _ rfl #[.string t,.slice (some ⟨b,off,none⟩) (m+1) cN,.int .i64 q] (by first|(simp[Act.eval];done)|(simp[Act.eval,Act.put];done)|rfl) (H8.o _ (by first|exact br|exact br.drew)) ?_;rintro e w4 ⟨rfl,h4⟩;refine⟨_,rfl,?_⟩;have G:Below w2.heap.size w2 w4:=(by first|exact h4|exact(Below.refl _ w2).drew.trans h4);have S4:=hid (J.o.next G);have M4:=hid (S.o.next G);have K4:=K2.next G;have a0:=((QE_ G).1 _ 1 kz).trans k1;have bd:=Nat.lt_of_lt_of_le kz G.size;have a4:=S4.o.2.2.2.2.size;have aT:=((QE_ G).1 _ _ X).trans c9))
     all_goals
      rw[<-r.o]at E f;obtain⟨A6,c6,ev,h6⟩:=SF.find (S4.o.alloc (.cells #[.int .i64 5,.int .i64 D,.string l.text] 41)) E f;injection ev with ev1 ev2 ev3;subst ev1;subst ev3;have K6:=(K4.alloc (.cells #[.int .i64 5,.int .i64 D,.string l.text] 41)).grown f (fun e=>by
       rw[Qw_]at e;obtain⟨cs,hk⟩:=QP_ (Mine.alloc S4.o.2.2.2.1 (.cells #[.int .i64 5,.int .i64 D,.string l.text] 41)) e.symm;exact KM_ (K4.alloc _) hk (by decide) rfl)
      have S6:=hid h6;have M6:=hid h6.2.2.1;rw[y.o]at M6;have bc:=K6.q1;have be:=K6.lt;have a5:=h6.2.2.2.2.size;clear E B f aY av h6 K4 K6 K2 S4 M4 S J a0 k1 H8 aT c9;go_wp2_with (at_builtin;(refine wpList_append_own _ rfl (.tmp 62) (.tmp 65) _ rfl w.heap.size 9 j0 (.string ⟨#[]⟩) 1 16 underlying37 j.o.1 j.o.2.1 j.o.2.2.1 j.o.2.2.2 rfl (by decide) _ _ _ rfl (Mine.alloc M6.o _) ⟨w6.heap.size,0,none⟩ 1 1 [.string l.text] rfl rfl (Ka_ _ _ _) (fun x P=>by simp at P;subst P;rfl) (by unfold maxLen;omega) oo (by simp;omega) ?_);intro v3 w3 d z C)
      rw[<-y.o]at d z;obtain⟨A3,c3,rfl,T⟩:=SF.name (S6.o.alloc _) d z;have S3:=hid T;clear d z C T M6 S6;go_wp2;go_roundw
      case rel=>exact⟨k+1,_,_,A3,c3,oo,by go_num,by rw[a.o,lA,<-r.o];rfl,by rw[a.o,lA];rfl,by rw[a.o];exact S3⟩
      case measure=>simp[intOf];omega
    ·rw[g2,if_neg (by decide)]at a;rw[g2];have S:=hid J.o.2.2.1;rw[y.o]at S;have aZ:=J.o.2.2.2.2.size;go_wp2_with (at_builtin;(refine wpList_append_own _ rfl (.tmp 62) (.tmp 65) _ rfl w.heap.size 9 j0 (.string ⟨#[]⟩) 1 16 underlying37 j.o.1 j.o.2.1 j.o.2.2.1 j.o.2.2.2 rfl (by decide) _ _ _ rfl (Mine.alloc S.o _) ⟨w2.heap.size,0,none⟩ 1 1 [.string l.text] rfl rfl (Ka_ _ _ _) (fun x P=>by simp at P;subst P;rfl) (by unfold maxLen;omega) oo (by simp;omega) ?_);intro v' w3 d z C)
     rw[<-y.o]at d z;obtain⟨A3,c3,rfl,T⟩:=SF.name (J.o.alloc _) d z;have S3:=hid T;clear d z C T S J;go_wp2;go_roundw
     case rel=>exact⟨k+1,A,c,A3,c3,oo,by go_num,by rw[a.o,r.o],by rw[a.o,lA];rfl,by rw[a.o];exact S3⟩
     case measure=>simp[intOf];omega
  ·obtain rfl:k=ml:=oo;go_wp2;go_ret;rw[ah.o];dsimp only;rw[r.o];exact⟨A,c,rfl,by rw[<-r.o];exact g.o.2.2.2.1,g.o.2.2.2.2⟩
theorem GO_ (t:BA) (w:World) (ht:t.size<=1048576):Calls prog 7 #[.string t] w (Kj_ w (Zq_ t)):=by
 unfold Zq_;rcases hr:KF_ t with _|ps
 ·exact Us_ t w ht hr
 ·exact GP_ t w ht ps hr
theorem Gr_ (t:BA) (w:World) (ht:t.size<=1048576):Calls prog 8 #[.string t] w (Kj_ w (Zq_ t)):=by
 have HR:=hid (GX_ t w ht);obtain⟨j0,hj,aD,aE,aF⟩:=info_parts V6_;have g:=hid (And.intro hj (And.intro aD (And.intro aE aF)));obtain⟨fe,aa⟩:=ex_ (Zq_ t);have C:=hid aa;rw[aa];unfold Kj_;clear aa hj aD aE aF;go_enter func8,ntmps8;go_wp2_with fail
 refine HR.o.mono ?_;rintro e w1 ⟨T,A,n,c,ps,ls,rfl,av,a9,aA,ad,aB⟩;have P:=hid av;obtain⟨AL,cL,AF,cF,z,O,hL,N,E,B⟩:=av;have k0:=z.q0;have kf:=z.frozen;have kz:=z.lt;rcases aB with⟨hr,rfl,rfl⟩|⟨hr,hn⟩
 ·have X:=hid (show fe=[]by rw[<-C.o];unfold Zq_;rw[hr]);have HB:=hid B;clear z O hL N ad hr HR C P;go_wp2;go_ret;rw[X.o];exact⟨none,0,rfl,Mine.mk_nil _ _ _ _,HB.o⟩
 ·obtain⟨m,p,hm,hp,ay,an,hv⟩:=UT_ hr;have X:=hid (show fe=(Zn_ t ps (ko_ ps) (ko_ ps).length).1 by rw[<-C.o];unfold Zq_;rw[hr]);rw[ay]at X;obtain rfl:n=m+1:=oo;obtain⟨b,off,A',c',rfl,aq,x0,x1,x2,x3,ac⟩:=O.kidM (Nat.lt_succ_self m) hp;have HV:=hid hv;have aO:=hid ad;obtain⟨ks,hk⟩:=ex_ p.kids;rw[hk]at HV an x2 ac X;have R:=hid ac;have HK:=hid z;obtain⟨F,N⟩:=ex_ (Zn_ t ps ks);have HT:=twS t ps ks;rw[N]at HT X;have HS:=hid HT.o.2.2;have aQ:=hid HT.o.2.1;have HZ:=hid HT.o.1;clear HT;obtain⟨ml,ae⟩:=ex_ ks.length;have em:((m+1:Nat):Int) - 1=(m:Int):=oo;rw[ae]at an x2 R X;have a8:((m:Int)+1==0)=false:=by rw[beq_eq_false_iff_ne];omega
  have S:=hid ae;have aP:=hid aA;clear z O hL N ad hr ay hk hv ac HR C x0 x1 x3 hp hm hn ae aA E B;go_upto_region 5 with fail
  have we:IntKind.i64.wrap (((m+1:Nat):Int) - 1)=(m:Int):=by rw[em];exact IntWalk.i64_in _ oo
  have aI:=we;simp only[Int.natCast_add,Int.natCast_one]at aI;have gm:(m:Int) < ((m+1:Nat):Int):=oo;go_quiet (fail);have U:Hid (FP w T (some ⟨b,off,none⟩) (m+1) c ps ls A' c' ks none 0 [] [] (w1.drewN nq)):=(show FP w T (some ⟨b,off,none⟩) (m+1) c ps ls A' c' ks none 0 [] [] w1 from⟨P.o,by rw[S.o];exact R.o,Mine.mk_nil _ _ _ _⟩).next (below_drewN br nq);generalize w1.drewN nq=W1 at U |-
  clear k0 kf kz x2 aq P R HK we aI gm;go_wp2;go_loopw [4,30] (fun s i wr=>∃(k:Nat) (AS:OA) (cS:Nat),k<=ml/\i=.int .i64 k/\s=.slice AS (F k).2.length cS/\Hid (FP w T (some ⟨b,off,none⟩) (m+1) c ps ls A' c' ks AS cS (F k).2 (F k).1 wr)) (fun _ i _=>ml - (intOf i).toNat)
  case atStart=>
   refine⟨0,none,0,Nat.zero_le _,rfl,?_,?_⟩
   all_goals rw[HZ.o]
   ·rfl
   ·exact U
  case round=>
   clear U;obtain⟨k,AS,cS,hk,rfl,rfl,L⟩:=hrel;obtain⟨a1,az⟩:=aQ.o k;obtain⟨fs,G⟩:=ex_ ((F k).1);obtain⟨ss,I⟩:=ex_ ((F k).2);have aj:=hid (show F k=(fs,ss)by rw[<-G,<-I]);rw[G,I]at L;rw[G]at a1;rw[I]at az |-
   obtain⟨n2,af⟩:=ex_ ss.length;have y:=hid af;rw[af]at az |-
   clear af G I;obtain⟨AL,cL,AF,cF,z,O,hL,N,E,B⟩:=id L.o.1;have k0:=z.q0;have k2:=z.q2;have kf:=z.frozen;have kz:=z.lt;by_cases ax:k < ml
   ·obtain⟨v,J⟩:∃v,ks[k]? =some v:=⟨_,gE (by rw[S.o];exact ax)⟩;obtain⟨q,rfl,hq⟩:=HV.o v (List.mem_of_getElem? J);obtain⟨f,ag⟩:=O.nps.get (show q < m+1 from oo);have d:=hid (HS.o k q f J ag);obtain⟨b7,a6,e7,Z,c7⟩:=Ql_ L.o.2.1.rd (by rw[S.o];exact ax) J;subst e7;obtain⟨b',a5,A2,c2,e8,Y,x0,x1,x2,x3,_,_⟩:=O.nps.atc (show q < m+1 from oo) ag;injection e8 with e8;injection e8 with e81 e82;subst e81;subst e82;have a7:(k:Int) < (ml:Int):=oo;have ba:(q:Int) < ((m+1:Nat):Int):=oo;rw[aj.o]at d;dsimp only at d;have H:=aO.o q oo;clear J ag k2 z O hL N E B;rcases bft (f.kind==19)with g1|g1
    ·rw[g1,if_pos rfl]at d;have aR:=hid (fun(W:World) (h:Below wr.heap.size wr W)=>L.o.next h);clear H;go_wp2;go_roundw
     case rel=>exact⟨k+1,AS,cS,oo,by go_num,by rw[d.o,y.o],by rw[d.o];exact aR.o _ grow_⟩
     case measure=>simp[intOf];omega
    ·rw[g1,if_neg (by decide)]at d;have K:=Blk.new wr 36 #[.int .i64 f.kind,.string f.text,.slice A2 f.kids.length c2,.bool f.blank];have gT:wr.heap.size≠T:=oo;have HC:=hid (fun(W:World) (h:Below wr.heap.size wr W)=>show Calls prog 22 #[.slice AS ss.length cS,.string f.text] W fun e w'=>e=.returned (.bool (Lib.containsS ss f.text))/\W=w' from(UN_ f.text (L.o.next h).2.2).mono (fun e w' h=>⟨h.1,h.2.symm⟩));rw[y.o]at HC;go_wp2_with fail
     refine(HC.o _ grow_).mono ?_;rintro e w2 ⟨rfl,rfl⟩;clear x0 x1 x2 x3 Y Z c7 HC;have l:=hid (L.o.alloc (.cells #[.int .i64 f.kind,.string f.text,.slice A2 f.kids.length c2,.bool f.blank] 36));rcases bft (Lib.containsS ss f.text)with g2|g2
     ·rw[g2,if_pos rfl]at d;rw[g2];have Q:=hid (Jw_ w T (some ⟨b,off,none⟩) (m+1) c ps ls fs 5 q (KS_ t (Q3_ ps q)) f.text _ l.o.1 H oo (by rw[aP.o];omega));obtain⟨D,hD⟩:=ex_ (KS_ t (Q3_ ps q));rw[hD]at Q d;clear hD H;go_wp2_with fail
      refine Q.o.mono ?_;rintro e w2 ⟨rfl,h2,ab⟩;have j:=hid (l.o.found h2 ab);have K2:=ab _ _ _ K gT (by decide);have k1:=K2.q1;have aH:=K2.lt;have M:=hid j.o.2.2;rw[y.o]at M;have ar:w.heap.size<=w2.heap.size:=(by obtain⟨_,_,_,_,_,_,_,_,_,B⟩:=h2;exact B.size);clear h2 ab K K2 l L Q k0 kf;go_wp2_with (at_builtin;(refine wpList_append_own _ rfl (.tmp 53) (.tmp 56) _ rfl w.heap.size 9 j0 (.string ⟨#[]⟩) 1 16 underlying37 g.o.1 g.o.2.1 g.o.2.2.1 g.o.2.2.2 rfl (by decide) _ _ _ rfl (Mine.alloc M.o _) ⟨w2.heap.size,0,none⟩ 1 1 [.string f.text] rfl rfl (Ka_ _ _ _) (fun x hx=>by simp at hx;subst hx;rfl) (by unfold maxLen;omega) oo (by simp;omega) ?_);intro v' w3 a o r)
      rw[<-y.o]at a o;obtain⟨A3,c3,rfl,h3⟩:=FP.name (j.o.alloc _) a o;have V:=hid h3;clear a o r h3 M j;go_wp2;go_roundw
      case rel=>exact⟨k+1,A3,c3,oo,by go_num,by rw[d.o,lA];rfl,by rw[d.o];exact V⟩
      case measure=>simp[intOf];omega
     ·rw[g2,if_neg (by decide)]at d;rw[g2];have M:=hid l.o.2.2;rw[y.o]at M;have ar:w.heap.size<=(wr.alloc (.cells #[.int .i64 f.kind,.string f.text,.slice A2 f.kids.length c2,.bool f.blank] 36)).heap.size:=(by obtain⟨_,_,_,_,_,_,_,_,_,B⟩:=l.o.1;exact B.size);have k1:=K.q1;have aH:=K.lt;have j:=l;clear l H K L k0 kf;generalize (wr.alloc (.cells #[.int .i64 f.kind,.string f.text,.slice A2 f.kids.length c2,.bool f.blank] 36))=w2 at j M k1 aH ar |-
      go_wp2_with (at_builtin;(refine wpList_append_own _ rfl (.tmp 53) (.tmp 56) _ rfl w.heap.size 9 j0 (.string ⟨#[]⟩) 1 16 underlying37 g.o.1 g.o.2.1 g.o.2.2.1 g.o.2.2.2 rfl (by decide) _ _ _ rfl (Mine.alloc M.o _) ⟨w2.heap.size,0,none⟩ 1 1 [.string f.text] rfl rfl (Ka_ _ _ _) (fun x hx=>by simp at hx;subst hx;rfl) (by unfold maxLen;omega) oo (by simp;omega) ?_);intro v' w3 a o r)
      rw[<-y.o]at a o;obtain⟨A3,c3,rfl,h3⟩:=FP.name (j.o.alloc _) a o;have V:=hid h3;clear a o r h3 M j;go_wp2;go_roundw
      case rel=>exact⟨k+1,A3,c3,oo,by go_num,by rw[d.o,lA];rfl,by rw[d.o];exact V⟩
      case measure=>simp[intOf];omega
   ·obtain rfl:k=ml:=oo;have aT:=hid (show fe=fs by rw[X.o,aj.o]);have HM:=hid N;have HB:=hid B;clear z O hL N E B k0;go_wp2;go_ret;rw[aT.o];exact⟨AF,cF,rfl,HM.o,HB.o⟩
end Go.Proofs.YtgbikafalcbibaaGreatDoor

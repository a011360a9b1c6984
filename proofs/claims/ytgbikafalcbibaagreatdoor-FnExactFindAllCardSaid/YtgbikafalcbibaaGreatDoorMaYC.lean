/-
  Put together by program (shake.py):FiI,FiJ.
-/
import Derived.Test.YtgbikafalcbibaaGreatDoorMaYB
set_option maxRecDepth 100000
set_option linter.all false
set_option maxHeartbeats 25600000
open Go.Lib (hid)
open Go.Proofs.Tryz
namespace Go.Proofs.YtgbikafalcbibaaGreatDoor
open Go.RowKit
def Ys_ (ps:List PN) (P:List Bool) (s:BA) (v:Int):Bool:=match ps[v.toNat]? with|none=>false|some p=>(p.kind==1)&&(!(P.getD v.toNat false)&&decide (p.text=s))
def Xl_ (ps:List PN) (k:Nat) (s:BA):Bool:=(VX_ ps k).any (Ys_ ps (WX_ ps (VX_ ps k)) s)
def ZQ_ (ps:List PN) (k:Nat):List BA:=(Wb_ ps k).filter (fun s=>!Xl_ ps k s)
theorem Y8_ (ps:List PN) (k:Nat):(Wb_ ps k).length<=k+1:=by
 have a:∀(l:LI) (o:List BA),(l.foldl (K6_ ps (WX_ ps (VX_ ps k))) o).length<=o.length+l.length:=by
  intro l
  induction l with
  |nil=>intro o;simp
  |cons v l ih=>
   intro o;have h1:=ih (K6_ ps (WX_ ps (VX_ ps k)) o v);have h2:=V8_ ps (WX_ ps (VX_ ps k)) o v;simp only[List.foldl_cons,List.length_cons];omega
 have h1:=a (VX_ ps k) [];have h2:=Gg_ ps k;unfold Wb_;simp only[List.length_nil]at h1;omega
theorem QdM_ {L:LI} {i:Nat} {v:Int} (f:Int->Bool) (h:L[i]? =some v):(L.take (i+1)).any f=((L.take i).any f||f v):=by
 rw[List.take_add_one,h,Option.toList_some,List.any_append];simp
theorem UU_ {L:List BA} {i:Nat} {s:BA} (f:BA->Bool) (h:L[i]? =some s):(L.take (i+1)).filter f=(L.take i).filter f++(if f s=true then [s]else []):=by
 rw[List.take_add_one,h,Option.toList_some,List.filter_append];simp[List.filter_cons]
theorem zk_ (A:OA) (n c:Nat) (ps:List PN) (k:Nat) (w:World) (E:Nps w A n ps) (hb:Hid (PNs ps)) (ae:KL_ ps=true) (hk:k < n):
  Calls prog 27 #[.slice A n c,.int .i64 k] w (YM_ w (ZQ_ ps k)):=by
 obtain⟨j0,hj,a4,a5,a6⟩:=info_parts V6_;have V:=hid (And.intro hj (And.intro a4 (And.intro a5 a6)));obtain⟨m,hm,bH,hg,hu⟩:=Zx_ ae;have hl:=E.len;have hn:n<=300:=oo;have HU:=hid (fun(W:World) (hW:Below w.heap.size w W)=>Gb_ A n c ps k W (E.next hW) hb ae hk);have H:=hid (fun(W:World) (hW:Below w.heap.size w W)=>xz_ A n c ps k W (E.next hW) hb ae hk);have R:=UJ_ (show k < ps.length from oo);rw[hl]at R;have af:=Gg_ ps k;have D:=Y8_ ps k;have K:=Vx_ ps (VX_ ps k);rw[hl]at K;have ac:∀s,Xl_ ps k s=(VX_ ps k).any (Ys_ ps (WX_ ps (VX_ ps k)) s):=fun s=>rfl
 obtain⟨L,hL⟩:=ex_ (VX_ ps k);have an:=hid (fun(AL:OA) (B cl:Nat) (W:World) (hW:Below w.heap.size w W) (hr:Rd W 1 AL B (Qa_ L)) (D:Hid (L.length=B))=>VW_ A n c ps AL B cl L W (E.next hW) hg oo hr D (by have:=D.o;rw[hL]at af;omega) (by rw[<-hL];exact R));unfold ZQ_;rw[hL]at HU R af K ac;obtain⟨P,J⟩:=ex_ (WX_ ps L);rw[J]at an K ac;obtain⟨LT,aT⟩:=ex_ (Wb_ ps k);rw[aT]at H D |-
 obtain⟨B,N⟩:=ex_ L.length;obtain⟨T,O⟩:=ex_ LT.length;obtain⟨F,hF⟩:=ex_ (fun i=>(LT.take i).filter (fun s=>!Xl_ ps k s));have HE:=hid (show LT.filter (fun s=>!Xl_ ps k s)=F T by rw[<-hF];dsimp only;rw[<-O,List.take_length]);have bh:=hid (show F 0=[]by rw[<-hF];rfl);have bj:=hid (show ∀(i:Nat) (s:BA),LT[i]? =some s->F (i+1)=F i++(if (!Xl_ ps k s)=true then [s]else [])from fun i s hs=>by
  rw[<-hF];exact UU_ _ hs)
 have bi:=hid (show ∀i,(F i).length<=i from fun i=>by
  rw[<-hF];exact Nat.le_trans (List.length_filter_le _ _) (by rw[List.length_take];omega))
 have bz:=hid (show ∀s,Xl_ ps k s=(L.take B).any (Ys_ ps P s)from fun s=>by rw[ac,<-N,List.take_length]);rw[HE.o];unfold YM_ at H |-
 rw[O]at H;unfold VE_ at HU;rw[N]at HU;have aK:=hid E;have bA:=R;have aG:=hid N;have bm:=hid O;have aJ:=hid K;rw[N]at af;rw[O]at D;have bK:B<=300:=oo;have bL:T<=300:=oo;clear hj a4 a5 a6 hm bH hg hu hl E hb ae hL J aT hF N O HE R K af D ac;go_enter func27,ntmps27;go_wp2_with fail
 refine(HU.o _ grow_).mono ?_;rintro e w1 ⟨AL,cl,rfl,a3,h1⟩;have aH:=hid (show Mine w1 w.heap.size 9 1 (some ⟨w.heap.size,0,none⟩) 0 0 []from Mine.next (QI_ w 9 1) h1);have am:=hid (a3.more (show w.heap.size<=_ by simp));have al:=hid (QA_ br h1);have bQ:w.heap.size < w1.heap.size:=by have:=h1.size;simp at this;omega
 clear a3 h1 HU;go_wp2_with fail
 refine(an.o AL B cl w1 al.o am.o.rd aG).mono ?_;rintro e w2 ⟨rfl,ay,h2⟩;rw[aJ.o]at ay |-
 have f:=hid (aH.o.next h2);have C:=hid (am.o.next h2);have l:=hid ay;have d:=hid (Qb_ al.o h2);clear h2 ay aH am al an;go_wp2_with fail
 refine(H.o w2 d.o).mono ?_;rintro e w3 ⟨AT,ct,rfl,av,h3⟩;have aI:=hid (f.o.next h3);have aF:=hid (C.o.next h3);have aL:=hid (l.o.next h3);have aM:=hid (av.more d.o.size);have ah:=hid (av.more (show w.heap.size+1<=w2.heap.size by have:=l.o.lt;omega));have aE:=hid (Qb_ d.o h3);clear av h3 f C l d H;have aD:=hid (show ∀g,(some ⟨w.heap.size,0,none⟩:OA).map (·.block)=some g->AT.map (·.block)≠some g from fun g hg e=>by
  have h1:=(Mine.blk ah.o e).1;simp at hg;omega)
 clear ah;go_wp2;go_loopw [5,9] (fun o x wr=>∃(i:Nat) (A3:OA) (c3:Nat),i<=T/\x=.int .i64 i/\o=.slice A3 (F i).length c3/\Hid (Mine wr w.heap.size 9 1 A3 (F i).length c3 (Qm_ (F i)))/\Hid (Mine wr w.heap.size 3 1 AL B cl (Qa_ L))/\Hid (Own wr w1.heap.size 4 n (Qt_ P))/\Hid (Mine wr w.heap.size 9 1 AT T ct (Qm_ LT))/\Hid (∀g,A3.map (·.block)=some g->AT.map (·.block)≠some g)/\Hid (Below w.heap.size w wr)) (fun _ x _=>T - (intOf x).toNat)
 case atStart=>
  refine⟨0,some ⟨w.heap.size,0,none⟩,0,Nat.zero_le _,rfl,?_,?_,aF,aL,aM,aD,aE⟩
  all_goals rw[bh.o]
  ·rfl
  ·exact aI
 case round=>
  clear aI aF aL aM aD aE;obtain⟨i,A3,c3,hi,rfl,rfl,HO,HL,HR,HT,U,HB⟩:=hrel;have aZ:=bi.o i;obtain⟨xs,az⟩:=ex_ (F i);have aP:=hid az;rw[az]at HO aZ |-
  obtain⟨n1,ax⟩:=ex_ xs.length;have aa:=hid ax;rw[ax]at HO aZ |-
  clear ax az;by_cases a0:i < T
  ·obtain⟨s,hs⟩:∃s,LT[i]? =some s:=⟨_,gE (by rw[bm.o];exact a0)⟩;have X:=hid (bj.o i s hs);obtain⟨bt,a7,eT,t,ao⟩:=Ud_ HT.o.rd a0 hs;subst eT;have bN:(i:Int) < (T:Int):=oo;have bx:=hid (bz.o s);have bB:=hid (show ∀(j:Nat) (v:Int),L[j]? =some v->(L.take (j+1)).any (Ys_ ps P s)=((L.take j).any (Ys_ ps P s)||Ys_ ps P s v)from fun j v hv=>QdM_ _ hv);have bv:=hid (show(L.take 0).any (Ys_ ps P s)=false from rfl);have ai:=hid aP.o;clear hs;rename World=>wo
   go_wp2;go_loopw [10,11] (fun u y wx=>∃j:Nat,j<=B/\y=.int .i64 j/\u=.bool ((L.take j).any (Ys_ ps P s))/\Hid (Below wo.heap.size wo wx)) (fun _ y _=>B - (intOf y).toNat)
   case atStart=>exact⟨0,Nat.zero_le _,rfl,by rw[bv.o],br⟩
   case round=>
    obtain⟨j,hj,rfl,rfl,a⟩:=hrel;by_cases a1:j < B
    ·obtain⟨v,hv⟩:∃v,L[j]? =some v:=⟨_,gE (by rw[aG.o];exact a1)⟩;obtain⟨q,rfl,hq⟩:=bA.o v (List.mem_of_getElem? hv);have r:=hid (bB.o j _ hv);obtain⟨b7,bM,e7,aq,c7⟩:=Ql_ (HL.o.next a.o).rd a1 hv;subst e7;obtain⟨p,hp⟩:=aK.o.get hq;have ab:=Qb_ HB.o a.o;obtain⟨b,off,A',c',e8,M,y0,y1,_,_,_,_⟩:=aK.o.atc hq hp;subst e8;have x0:=((QE_ ab).1 _ _ M).trans y0;have x1:=((QE_ ab).1 _ _ M).trans y1;have aY:=ab.size;have aX:b < wr.heap.size:=oo;have hR:=HR.o.next a.o;have c0:=Yz_ hR (show q < P.length by rw[aJ.o];exact hq);have cz:=hR.lt;have ap:=((QE_ a.o).1 _ _ t).trans ao;have z:bt < wr.heap.size:=by have:=a.o.size;omega
     have bO:(j:Int) < (B:Int):=oo;have bP:(q:Int) < (n:Int):=oo;have aO:Hid (Ys_ ps P s (q:Int)=((p.kind==1)&&(!(P.getD q false)&&decide (p.text=s)))):=(show Ys_ ps P s (q:Int)=((p.kind==1)&&(!(P.getD q false)&&decide (p.text=s)))by
      unfold Ys_;rw[Int.toNat_natCast,hp])
     rw[aO.o]at r;clear hv hp ab hR y0 y1 aO;obtain⟨u,hu⟩:=ex_ ((L.take j).any (Ys_ ps P s));rw[hu]at r |-
     clear hu
     cases u with
     |true=>
      have Z:=hid (show(L.take (j+1)).any (Ys_ ps P s)=true by rw[r.o,Bool.true_or]);clear x0 x1 c7 aq aX c0 cz ap z;go_wp2;go_quiet (fail);go_wp2;go_roundw
      case rel=>exact⟨j+1,oo,by go_num,by rw[Z.o],by first|exact below_drewN a.o _|exact a.o⟩
      case measure=>simp[intOf];omega
     |false=>
      rcases bft (p.kind==1)with g1|g1
      ·cases J:P.getD q false with
       |true=>
        rw[J]at c0;have Z:=hid (show(L.take (j+1)).any (Ys_ ps P s)=false by rw[r.o,g1,J];rfl);clear J;go_wp2;go_quiet (fail);go_wp2;go_roundw
        case rel=>exact⟨j+1,oo,by go_num,by rw[Z.o],by first|exact below_drewN a.o _|exact a.o⟩
        case measure=>simp[intOf];omega
       |false=>
        rw[J]at c0;by_cases G:p.text=s
        ·have hs:=Qdf_ G;have Z:=hid (show(L.take (j+1)).any (Ys_ ps P s)=true by rw[r.o,g1,J,decide_eq_true G];rfl);clear J G;go_wp2;go_quiet (fail);go_wp2;go_roundw
         case rel=>exact⟨j+1,oo,by go_num,by rw[Z.o],by first|exact below_drewN a.o _|exact a.o⟩
         case measure=>simp[intOf];omega
        ·have hs:=Qde_ G;have Z:=hid (show(L.take (j+1)).any (Ys_ ps P s)=false by rw[r.o,g1,J,decide_eq_false G];rfl);clear J G;go_wp2;go_quiet (fail);go_wp2;go_roundw
         case rel=>exact⟨j+1,oo,by go_num,by rw[Z.o],by first|exact below_drewN a.o _|exact a.o⟩
         case measure=>simp[intOf];omega
      ·have Z:=hid (show(L.take (j+1)).any (Ys_ ps P s)=false by rw[r.o,g1];rfl);go_wp2;go_quiet (fail);go_wp2;go_roundw
       case rel=>exact⟨j+1,oo,by go_num,by rw[Z.o],by first|exact below_drewN a.o _|exact a.o⟩
       case measure=>simp[intOf];omega
    ·obtain rfl:j=B:=oo;rw[<-bx.o];have hz:=a.o.size;have f:=hid (HO.o.next a.o);have C:=hid (HL.o.next a.o);have l:=hid (HR.o.next a.o);have Y:=hid (HT.o.next a.o);have d:=hid (Qb_ HB.o a.o);have ap:=((QE_ a.o).1 _ _ t).trans ao;have z:bt < wr.heap.size:=oo;have aY:=d.o.size;clear ao t HO HL HR HT HB a;rcases bft (Xl_ ps k s)with S|S
     ·rw[S]at X |-
      have I:=hid (show F (i+1)=xs by rw[X.o,ai.o];simp);clear S;go_wp2;go_roundw
      case rel=>exact⟨i+1,A3,c3,oo,by go_num,by rw[I.o,aa.o],by rw[I.o,aa.o];exact f,C,l,Y,U,d⟩
      case measure=>simp[intOf];omega
     ·rw[S]at X |-
      have I:=hid (show F (i+1)=xs++[s]by rw[X.o,ai.o];simp);clear S;go_wp2_with (at_builtin;(refine Qf_ _ rfl (.tmp 73) (.tmp 78) _ rfl w.heap.size 9 j0 (.string ⟨#[]⟩) 1 16 underlying37 V.o.1 V.o.2.1 V.o.2.2.1 V.o.2.2.2 rfl (by decide) (.slice A3 n1 c3) n1 (Qm_ xs) rfl (Mine.alloc f.o _) ⟨wr.heap.size,0,none⟩ 1 1 [.string s] rfl rfl (Ka_ _ _ _) (fun x hx=>by simp at hx;subst hx;rfl) (by unfold maxLen;omega) oo (by simp;omega) ?_);intro v' w5 Q hg ag)
      rw[<-aa.o]at Q hg ag f;have bs:=hid ((Mine.alloc Y.o (.cells #[.string s] 9)).grown hg (fun g e=>.inr (U.o g (by rw[Qw_]at e;exact e))));obtain⟨A5,c5,rfl,a2,ar,aV⟩:=Jl_ f.o br (KpX.refl _ _) aY Q hg;have bf:=hid (show ∀g,A5.map (·.block)=some g->(some ⟨bt,a7,none⟩:OA).map (·.block)≠some g from fun g e=>by
       rw[Qw_,Qw_]at ag;rcases ag with h|h
       ·exact U.o g (by rw[<-h];exact e)
       ·rw[h]at e;injection e with e;intro e2;have:=(Mine.blk Y.o e2).2;simp at e;omega)
      have bn:=hid a2;have bl:=hid (C.o.kpx ar (by decide));have bp:=hid (l.o.kpx ar (by decide));have bg:=hid (d.o.trans aV);clear Q hg ag a2 ar aV f C l Y d U ap z;go_wp2;go_roundw
      case rel=>exact⟨i+1,A5,c5,oo,by go_num,by rw[I.o,lA];rfl,by rw[I.o];exact bn,bl,bp,bs,bf,bg⟩
      case measure=>simp[intOf];omega
  ·obtain rfl:i=T:=oo;go_wp2;go_ret;rw[aP.o,aa.o];exact⟨A3,c3,rfl,HO.o,HB.o⟩
def Z2_ (ps:List PN) (P:List Bool) (a:List BA) (v:Int):List BA:=match ps[v.toNat]? with|none=>a|some p=>if ((p.kind==1)&&!(P.getD v.toNat false))=true then a++[p.text]else a
def Qgt_ (ps:List PN) (P:List Bool) (L:LI):List BA:=L.foldl (Z2_ ps P) []
theorem jZ_ (ps:List PN) (P:List Bool) (a:List BA) (v:Int) (s:BA):s∈Z2_ ps P a v↔(s∈a\/Ys_ ps P s v=true):=by
 unfold Z2_ Ys_
 cases ps[v.toNat]? with
 |none=>simp
 |some p=>
  dsimp only;by_cases h:((p.kind==1)&&!(P.getD v.toNat false))=true
  ·rw[if_pos h,List.mem_append,List.mem_singleton];rw[Bool.and_eq_true]at h;simp only[h.1,h.2,Bool.true_and,decide_eq_true_eq];exact or_congr Iff.rfl eq_comm
  ·rw[if_neg h];constructor
   ·intro hs;exact .inl hs
   ·rintro(hs|hs)
    ·exact hs
    ·rw[Bool.and_eq_true,Bool.and_eq_true]at hs;exact absurd (by rw[Bool.and_eq_true];exact⟨hs.1,hs.2.1⟩) h
theorem Qdr_ (ps:List PN) (k:Nat) (s:BA):Lib.containsS (Qgt_ ps (WX_ ps (VX_ ps k)) (VX_ ps k)) s=Xl_ ps k s:=by
 have b:∀(L:LI) (a:List BA),s∈L.foldl (Z2_ ps (WX_ ps (VX_ ps k))) a↔(s∈a\/L.any (Ys_ ps (WX_ ps (VX_ ps k)) s)=true):=by
  intro L
  induction L with
  |nil=>intro a;simp
  |cons v L ih=>
   intro a;rw[List.foldl_cons,ih,jZ_,List.any_cons,Bool.or_eq_true,or_assoc]
 rw[Bool.eq_iff_iff,Lib.containsS_iff];unfold Qgt_ Xl_;rw[b];simp
theorem jY_ (ps:List PN) (P:List Bool) (a:List BA) (v:Int):(Z2_ ps P a v).length<=a.length+1:=by
 unfold Z2_;split
 ·omega
 ·split<;>simp
end Go.Proofs.YtgbikafalcbibaaGreatDoor

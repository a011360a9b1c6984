/-
  Put together by program (shake.py):FiK.
-/
import Derived.Test.YtgbikafalcbibaaGreatDoorMaYC
set_option maxRecDepth 100000
set_option linter.all false
set_option maxHeartbeats 25600000
open Go.Lib (hid)
open Go.Proofs.Tryz
namespace Go.Proofs.YtgbikafalcbibaaGreatDoor
open Go.RowKit
theorem zc_ (A:OA) (n c:Nat) (ps:List PN) (k:Nat) (w:World) (I:Nps w A n ps) (hb:Hid (PNs ps)) (Z:KL_ ps=true) (hk:k < n):
  Calls prog 28 #[.slice A n c,.int .i64 k] w (YM_ w (ZQ_ ps k)):=by
 obtain⟨j0,hj,bf,bg,bh⟩:=info_parts V6_;have r:=hid (And.intro hj (And.intro bf (And.intro bg bh)));obtain⟨m,hm,bO,f,hu⟩:=Zx_ Z;have hl:=I.len;have hn:n<=300:=oo;have K:=hid (fun(W:World) (hW:Below w.heap.size w W)=>JF_ A n c ps k W (I.next hW) hb Z hk);have N:=hid (fun(W:World) (hW:Below w.heap.size w W)=>kC_ A n c ps k W (I.next hW) hb Z hk);have aa:=UJ_ (show k < ps.length from oo);rw[hl]at aa;have ak:=Gg_ ps k;have H:=Y8_ ps k;have Q:=Vx_ ps (VX_ ps k);rw[hl]at Q;have z:∀s,Lib.containsS (Qgt_ ps (WX_ ps (VX_ ps k)) (VX_ ps k)) s=Xl_ ps k s:=fun s=>Qdr_ ps k s
 obtain⟨L,hL⟩:=ex_ (VX_ ps k);have ay:=hid (fun(AL:OA) (E cl:Nat) (W:World) (hW:Below w.heap.size w W) (hr:Rd W 1 AL E (Qa_ L)) (H:Hid (L.length=E))=>Y2_ A n c ps AL E cl L W (I.next hW) f oo hr H (by have:=H.o;rw[hL]at ak;omega) (vb_ Z) (by rw[<-hL];exact aa));unfold ZQ_;rw[hL]at K aa ak Q z;obtain⟨P,hP⟩:=ex_ (WX_ ps L);rw[hP]at ay Q z;obtain⟨LT,a5⟩:=ex_ (Wb_ ps k);rw[a5]at N H |-
 obtain⟨E,X⟩:=ex_ L.length;obtain⟨nt,Y⟩:=ex_ LT.length;obtain⟨F,hF⟩:=ex_ (fun i=>(LT.take i).filter (fun s=>!Xl_ ps k s));have HE:=hid (show LT.filter (fun s=>!Xl_ ps k s)=F nt by rw[<-hF];dsimp only;rw[<-Y,List.take_length]);have bx:=hid (show F 0=[]by rw[<-hF];rfl);have bA:=hid (show ∀(i:Nat) (s:BA),LT[i]? =some s->F (i+1)=F i++(if (!Xl_ ps k s)=true then [s]else [])from fun i s hs=>by
  rw[<-hF];exact UU_ _ hs)
 have bz:=hid (show ∀i,(F i).length<=i from fun i=>by
  rw[<-hF];exact Nat.le_trans (List.length_filter_le _ _) (by rw[List.length_take];omega))
 obtain⟨G,hG⟩:=ex_ (fun i=>(L.take i).foldl (Z2_ ps P) []);have a0:=hid (show ∀s,Lib.containsS (G E) s=Xl_ ps k s from fun s=>by rw[<-z,<-hG];dsimp only;rw[<-X,List.take_length];rfl);have aO:=hid (show G 0=[]by rw[<-hG];rfl);have aQ:=hid (show ∀(i:Nat) (v:Int),L[i]? =some v->G (i+1)=Z2_ ps P (G i) v from fun i v hv=>by
  rw[<-hG];dsimp only;rw[List.take_add_one,hv,Option.toList_some,List.foldl_append]
  rfl)
 have aP:=hid (show ∀i,(G i).length<=i from fun i=>by
  rw[<-hG];have bR:∀(l:LI) (o:List BA),(l.foldl (Z2_ ps P) o).length<=o.length+l.length:=by
   intro l
   induction l with
   |nil=>intro o;simp
   |cons v l ih=>
    intro o;have h1:=ih (Z2_ ps P o v);have h2:=jY_ ps P o v;simp only[List.foldl_cons,List.length_cons];omega
  have h1:=bR (L.take i) [];have h2:(L.take i).length<=i:=by rw[List.length_take];omega
  simp only[List.length_nil]at h1;dsimp only;omega)
 rw[HE.o];unfold YM_ at N |-
 rw[Y]at N;unfold VE_ at K;rw[X]at K;have aV:=hid I;have bG:=aa;have aS:=hid X;have bC:=hid Y;have aU:=hid Q;rw[X]at ak;rw[Y]at H;have bT:E<=300:=oo;have bU:nt<=300:=oo;clear hj bf bg bh hm bO f hu hl I hb Z hL hP a5 hF X Y HE aa Q ak H z hG;go_enter func28,ntmps28;go_wp2_with fail
 refine(K.o _ br).mono ?_;rintro e w1 ⟨AL,cl,rfl,bc,h1⟩;have av:=hid bc;have ap:=hid h1;clear bc h1 K;go_wp2_with fail
 refine(ay.o AL E cl w1 ap.o av.o.rd aS).mono ?_;rintro e w2 ⟨rfl,aF,h2⟩;rw[aU.o]at aF |-
 have aR:=hid (av.o.next h2);have aX:=hid aF;have aM:=hid (Qb_ ap.o h2);clear h2 aF av ap ay;go_wp2;go_loopw [7,21] (fun u y wr=>∃(j:Nat) (J:OA) (c3:Nat),j<=E/\y=.int .i64 j/\u=.slice J (G j).length c3/\Hid (Mine wr w.heap.size 9 1 J (G j).length c3 (Qm_ (G j)))/\Hid (Mine wr w.heap.size 3 1 AL E cl (Qa_ L))/\Hid (Own wr w1.heap.size 4 n (Qt_ P))/\Hid (Below w.heap.size w wr)) (fun _ y _=>E - (intOf y).toNat)
 case atStart=>
  refine⟨0,none,0,Nat.zero_le _,rfl,?_,?_,aR,aX,aM⟩
  all_goals rw[aO.o]
  ·rfl
  ·exact Mine.mk_nil _ _ _ _
 case round=>
  clear aR aX aM;obtain⟨j,J,c3,hj,rfl,rfl,HO,HL,HR,t⟩:=hrel;by_cases bb:j < E
  ·obtain⟨v,hv⟩:∃v,L[j]? =some v:=⟨_,gE (by rw[aS.o];exact bb)⟩;obtain⟨q,rfl,hq⟩:=bG v (List.mem_of_getElem? hv);have M:=hid (aQ.o j _ hv);obtain⟨b7,bV,e7,aB,c7⟩:=Ql_ HL.o.rd bb hv;subst e7;obtain⟨p,hp⟩:=aV.o.get hq;have ai:=t.o;obtain⟨b,off,A',c',e8,S,y0,y1,_,_,_,_⟩:=aV.o.atc hq hp;subst e8;have x0:=((QE_ ai).1 _ _ S).trans y0;have x1:=((QE_ ai).1 _ _ S).trans y1;have aD:=ai.size;have a7:b < wr.heap.size:=oo;have c0:=Yz_ HR.o (show q < P.length by rw[aU.o];exact hq);have cz:=HR.o.lt;have bZ:(j:Int) < (E:Int):=oo;have b0:(q:Int) < (n:Int):=oo;have a1:Hid (Z2_ ps P (G j) (q:Int)=(if ((p.kind==1)&&!(P.getD q false))=true then G j++[p.text]else G j)):=(show Z2_ ps P (G j) (q:Int)=(if ((p.kind==1)&&!(P.getD q false))=true then G j++[p.text]else G j)by
    unfold Z2_;rw[Int.toNat_natCast,hp])
   rw[a1.o]at M;have a9:=aP.o j;clear hv hp ai y0 y1 a1;obtain⟨xs,D⟩:=ex_ (G j);have aA:=hid D;rw[D]at HO M a9 |-
   clear D;obtain⟨n1,B⟩:=ex_ xs.length;have d:=hid B;rw[B]at HO a9 |-
   clear B;rcases bft (p.kind==1)with g1|g1
   ·cases hP:P.getD q false with
    |true=>
     rw[hP]at c0;have HV:=hid (show G (j+1)=xs by rw[M.o,g1,hP];rfl);clear hP;go_wp2;go_roundw
     case rel=>exact⟨j+1,J,c3,oo,by go_num,by rw[HV.o,d.o],by rw[HV.o,d.o];exact HO,HL,HR,t⟩
     case measure=>simp[intOf];omega
    |false=>
     rw[hP]at c0;have HV:=hid (show G (j+1)=xs++[p.text]by rw[M.o,g1,hP];rfl);clear hP;go_wp2_with (at_builtin;(refine Qf_ _ rfl (.tmp 38) (.tmp 44) _ rfl w.heap.size 9 j0 (.string ⟨#[]⟩) 1 16 underlying37 r.o.1 r.o.2.1 r.o.2.2.1 r.o.2.2.2 rfl (by decide) (.slice J n1 c3) n1 (Qm_ xs) rfl (Mine.alloc HO.o _) ⟨wr.heap.size,0,none⟩ 1 1 [.string p.text] rfl rfl (Ka_ _ _ _) (fun x hx=>by simp at hx;subst hx;rfl) (by unfold maxLen;omega) oo (by simp;omega) ?_);intro v' w5 a f C)
     rw[<-d.o]at a f C HO;obtain⟨A5,c5,rfl,U,T,R⟩:=Jl_ HO.o br (KpX.refl _ _) aD a f;have ax:=hid U;have bB:=hid (HL.o.kpx T (by decide));have bD:=hid (HR.o.kpx T (by decide));have aq:=hid (t.o.trans R);clear a f C U T R HO HL HR t x0 x1 c7 aB a7 c0 cz;go_wp2;go_roundw
     case rel=>exact⟨j+1,A5,c5,oo,by go_num,by rw[HV.o,lA];rfl,by rw[HV.o];exact ax,bB,bD,aq⟩
     case measure=>simp[intOf];omega
   ·have HV:=hid (show G (j+1)=xs by rw[M.o,g1];rfl);go_wp2;go_roundw
    case rel=>exact⟨j+1,J,c3,oo,by go_num,by rw[HV.o,d.o],by rw[HV.o,d.o];exact HO,HL,HR,t⟩
    case measure=>simp[intOf];omega
  ·obtain rfl:j=E:=oo;have ar:=hid (fun(s:BA) (W:World) (h:Mine W w.heap.size 9 1 J (G j).length c3 (Qm_ (G j)))=>show Calls prog 22 #[.slice J (G j).length c3,.string s] W fun e w'=>e=.returned (.bool (Xl_ ps k s))/\W=w' by rw[<-a0.o s];exact(UN_ s h).mono (fun e w' h=>⟨h.1,h.2.symm⟩));obtain⟨US,z⟩:=ex_ (Qm_ (G j));rw[z]at HO ar;obtain⟨nu,bd⟩:=ex_ ((G j).length);rw[bd]at HO ar |-
   have bi:w.heap.size<=wr.heap.size:=t.o.size;clear z bd aQ aP aO a0 HL HR;go_wp2_with fail
   refine(N.o wr t.o).mono ?_;rintro e w3 ⟨AT,ct,rfl,aE,h3⟩;have aT:=hid (HO.o.next h3);have b1:=Nat.le_trans bi h3.size;have aZ:=hid (aE.more bi);have aN:=hid (Qb_ t.o h3);have bp:=hid (show ∀g,J.map (·.block)=some g->AT.map (·.block)≠some g from fun g f e=>by
    have h1:=(Mine.blk aE e).1;have h2:=(Mine.blk HO.o f).2;omega)
   clear aE h3 HO t N;rename World=>wo
   go_wp2;go_loopw [10,51] (fun o x wr=>∃(i:Nat) (A4:OA) (c4:Nat),i<=nt/\x=.int .i64 i/\o=.slice A4 (F i).length c4/\Hid (Mine wr w.heap.size 9 1 A4 (F i).length c4 (Qm_ (F i)))/\Hid (Mine wr w.heap.size 9 1 J nu c3 US)/\Hid (Mine wr w.heap.size 9 1 AT nt ct (Qm_ LT))/\Hid (∀g,A4.map (·.block)=some g->AT.map (·.block)≠some g)/\Hid (∀g,A4.map (·.block)=some g->J.map (·.block)≠some g)/\Hid (Below w.heap.size w wr)) (fun _ x _=>nt - (intOf x).toNat)
   case atStart=>
    refine⟨0,none,0,Nat.zero_le _,rfl,?_,?_,aT,aZ,fun g f=>(by simp at f),fun g f=>(by simp at f),aN⟩
    all_goals rw[bx.o]
    ·rfl
    ·exact Mine.mk_nil _ _ _ _
   case round=>
    clear aT aZ bp aN;obtain⟨i,A4,c4,hi,rfl,rfl,HO,K,HT,ae,af,t⟩:=hrel;have a8:=bz.o i;obtain⟨xs,D⟩:=ex_ (F i);have aA:=hid D;rw[D]at HO a8 |-
    obtain⟨n1,B⟩:=ex_ xs.length;have d:=hid B;rw[B]at HO a8 |-
    clear B D;by_cases ba:i < nt
    ·obtain⟨s,hs⟩:∃s,LT[i]? =some s:=⟨_,gE (by rw[bC.o];exact ba)⟩;have ag:=hid (bA.o i s hs);have bX:=hid (K.o);obtain⟨bt,bj,eT,aC,bK⟩:=Ud_ HT.o.rd ba hs;subst eT;have bY:(i:Int) < (nt:Int):=oo;have HC:=hid (ar.o s wr K.o);have an:=hid aA.o;clear hs;go_wp2_with fail
     refine HC.o.mono ?_;rintro e w5 ⟨rfl,rfl⟩;have aD:=t.o.size;rcases bft (Xl_ ps k s)with ab|ab
     ·rw[ab]at ag HC |-
      have O:=hid (show F (i+1)=xs by rw[ag.o,an.o];simp);clear ab;go_wp2;go_roundw
      case rel=>exact⟨i+1,A4,c4,oo,by go_num,by rw[O.o,d.o],by rw[O.o,d.o];exact HO,K,HT,ae,af,t⟩
      case measure=>simp[intOf];omega
     ·rw[ab]at ag HC |-
      have O:=hid (show F (i+1)=xs++[s]by rw[ag.o,an.o];simp);clear ab;go_wp2_with (at_builtin;(refine Qf_ _ rfl (.tmp 59) (.tmp 61) _ rfl w.heap.size 9 j0 (.string ⟨#[]⟩) 1 16 underlying37 r.o.1 r.o.2.1 r.o.2.2.1 r.o.2.2.2 rfl (by decide) (.slice A4 n1 c4) n1 (Qm_ xs) rfl (Mine.alloc HO.o _) ⟨wr.heap.size,0,none⟩ 1 1 [.string s] rfl rfl (Ka_ _ _ _) (fun x hx=>by simp at hx;subst hx;rfl) (by unfold maxLen;omega) oo (by simp;omega) ?_);intro v' w6 a f C)
      rw[<-d.o]at a f C HO;have bE:=hid ((Mine.alloc HT.o (.cells #[.string s] 9)).grown f (fun g e=>.inr (ae.o g (by rw[Qw_]at e;exact e))));have bF:=hid ((Mine.alloc K.o (.cells #[.string s] 9)).grown f (fun g e=>.inr (af.o g (by rw[Qw_]at e;exact e))));obtain⟨A5,c5,rfl,U,T,R⟩:=Jl_ HO.o br (KpX.refl _ _) aD a f;have V:∀g,A5.map (·.block)=some g->A4.map (·.block)=some g\/g=wr.heap.size+1\/wr.heap.size<=g:=fun g e=>by
       rw[Qw_,Qw_]at C;rcases C with h|h
       ·exact .inl (by rw[<-h];exact e)
       ·rw[h]at e;injection e with e;simp at e;omega
      have bq:=hid (show ∀g,A5.map (·.block)=some g->(some ⟨bt,bj,none⟩:OA).map (·.block)≠some g from fun g e e2=>by
       have:=(Mine.blk HT.o e2).2;rcases V g e with h|h|h
       ·exact ae.o g h e2
       ·omega
       ·omega)
      have bs:=hid (show ∀g,A5.map (·.block)=some g->J.map (·.block)≠some g from fun g e e2=>by
       have:=(Mine.blk K.o e2).2;rcases V g e with h|h|h
       ·exact af.o g h e2
       ·omega
       ·omega)
      have ax:=hid U;have aq:=hid (t.o.trans R);clear a f C U T R HO K HT t ae af bK aC V;go_wp2;go_roundw
      case rel=>exact⟨i+1,A5,c5,oo,by go_num,by rw[O.o,lA];rfl,by rw[O.o];exact ax,bF,bE,bq,bs,aq⟩
      case measure=>simp[intOf];omega
    ·obtain rfl:i=nt:=oo;go_wp2;go_ret;rw[aA.o,d.o];exact⟨A4,c4,rfl,HO.o,t.o⟩
end Go.Proofs.YtgbikafalcbibaaGreatDoor

/-
  Put together by program (shake.py):FiE,FiF.
-/
import Derived.Test.YtgbikafalcbibaaGreatDoorMaX
set_option maxRecDepth 100000
set_option linter.all false
set_option maxHeartbeats 25600000
open Go.Lib (hid)
open Go.Proofs.Tryz
namespace Go.Proofs.YtgbikafalcbibaaGreatDoor
open Go.RowKit
theorem XN_:∀(l:LI) (B:List Bool),(Q7_ B l).length=B.length:=by
 intro l
 induction l with
 |nil=>intro B;rfl
 |cons v l ih=>intro B;show(Q7_ (B.set v.toNat true) l).length=_;rw[ih,List.length_set]
theorem Vt_ {B:List Bool} {ks:LI} {i:Nat} {v:Int} (hv:ks[i]? =some v):Q7_ B (ks.take (i+1))=(Q7_ B (ks.take i)).set v.toNat true:=by
 unfold Q7_;rw[List.take_add_one,hv,Option.toList_some,List.foldl_append]
 rfl
def X0_ (p:PN):Bool:=(p.kind==9)||(p.kind==20)
def ZZ_ (ps:List PN) (B:List Bool) (v:Int):List Bool:=match ps[v.toNat]? with|none=>B|some p=>if X0_ p=true then Q7_ B (p.kids.take (p.kids.length - 1))else B
def WX_ (ps:List PN) (l:LI):List Bool:=l.foldl (ZZ_ ps) (List.replicate ps.length false)
theorem Vx_ (ps:List PN) (l:LI):(WX_ ps l).length=ps.length:=by
 have a:∀(l:LI) (B:List Bool),(l.foldl (ZZ_ ps) B).length=B.length:=by
  intro l
  induction l with
  |nil=>intro B;rfl
  |cons v l ih=>
   intro B;rw[List.foldl_cons,ih];unfold ZZ_;split
   ·rfl
   ·split
    ·exact XN_ _ _
    ·rfl
 unfold WX_;rw[a,List.length_replicate]
def j2_ (w:World) (B:List Bool) (e:Ending) (w':World):Prop:=
 e=.returned (.slice (some ⟨w.heap.size,0,none⟩) B.length B.length)/\Own w' w.heap.size 4 B.length (Qt_ B)/\Below w.heap.size w w'
theorem VW_ (A:OA) (n c:Nat) (ps:List PN) (AL:OA) (E cl:Nat) (l:LI) (w:World) (J:Nps w A n ps) (hg:Good ps) (hn:n<=1048576) (hr:Rd w 1 AL E (Qa_ l)) (ae:Hid (l.length=E)) (aJ:E<=1048576) (aB:Hid (∀v∈l,∃q:Nat,v=(q:Int)/\q < n)):
  Calls prog 58 #[.slice A n c,.slice AL E cl] w (j2_ w (WX_ ps l)):=by
 obtain⟨j0,hj,ag,K,ah⟩:=info_parts JG_;have U:=fun W=>QK_ (P:=prog) 81 4 j0 _ underlying81 hj ag .i64 .i64 n n (Nat.le_refl _) (by rw[ah];omega) oo W
 rw[K,Nat.mul_one]at U;simp only[Value.cells]at U;have I:=Vx_ ps l;rw[J.len]at I;have af:=J.len;obtain⟨F,Z⟩:=ex_ (fun i=>(l.take i).foldl (ZZ_ ps) (List.replicate n false));have HE:=hid (show WX_ ps l=F E by rw[<-Z];dsimp only;rw[<-ae.o,List.take_length];unfold WX_;rw[af]);have ap:=hid (show F 0=List.replicate n false by rw[<-Z];rfl);have ar:=hid (show ∀(i:Nat) (v:Int),l[i]? =some v->F (i+1)=ZZ_ ps (F i) v from fun i v m=>by
  rw[<-Z];dsimp only;rw[List.take_add_one,m,Option.toList_some,List.foldl_append]
  rfl)
 have aq:=hid (show ∀i,(F i).length=n from fun i=>by
  rw[<-Z];have aF:∀(l:LI) (B:List Bool),(l.foldl (ZZ_ ps) B).length=B.length:=by
   intro l
   induction l with
   |nil=>intro B;rfl
   |cons v l ih=>
    intro B;rw[List.foldl_cons,ih];unfold ZZ_;split
    ·rfl
    ·split
     ·exact XN_ _ _
     ·rfl
  dsimp only;rw[aF,List.length_replicate])
 unfold j2_;rw[HE.o]at I;rw[HE.o,I];have HZ:=hid (Own.falses (w:=w) (e:=4) n);have Y:=hid J;have HG:=hid hg;have HR:=hid hr;clear hj ag K ah J hg hr I af Z HE;go_enter func58,ntmps58;go_wp2;clear U;go_loopw [6] (fun x wr=>∃i:Nat,i<=E/\x=.int .i64 i/\Hid (Own wr w.heap.size 4 n (Qt_ (F i)))/\Below w.heap.size w wr) (fun x _=>E - (intOf x).toNat)
 case atStart=>exact⟨0,Nat.zero_le _,rfl,by rw[ap.o];exact HZ,grow_⟩
 case round=>
  clear HZ;obtain⟨i,hi,rfl,HO,G⟩:=hrel;by_cases az:i < E
  ·obtain⟨v,m⟩:∃v,l[i]? =some v:=⟨_,gE (by have:=ae.o;omega)⟩;obtain⟨q,rfl,hq⟩:=aB.o v (List.mem_of_getElem? m);have N:=hid (ar.o i _ m);obtain⟨b7,aH,rfl,S,c7⟩:=Ql_ (HR.o.below G) az m;obtain⟨p,hp⟩:=Y.o.get hq;obtain⟨aG,ad⟩:=HG.o q p hp;have Q:=aq.o i;obtain⟨B,hB⟩:=ex_ (F i);rw[hB]at HO N Q;have s:Hid (F (i+1)=if X0_ p=true then Q7_ B (p.kids.take (p.kids.length - 1))else B):=(show F (i+1)=if X0_ p=true then Q7_ B (p.kids.take (p.kids.length - 1))else B by
    rw[N.o];unfold ZZ_;rw[Int.toNat_natCast,hp])
   obtain⟨b,off,A',c',rfl,h,y0,y1,y2,y3,_,ac⟩:=Y.o.atc hq hp;have x0:=((QE_ G).1 _ _ h).trans y0;have x1:=((QE_ G).1 _ _ h).trans y1;have x2:=((QE_ G).1 _ _ h).trans y2;have x3:=((QE_ G).1 _ _ h).trans y3;have aa:b < wr.heap.size:=(by have:=G.size;omega);have aI:(i:Int) < (E:Int):=oo;have aK:(q:Int) < (n:Int):=oo;have V:=hid ac;have X:=hid ad;have hz:=HO.o.lt;have r:=hid (HO.o.alloc (.cells #[.int .i64 p.kind,.string p.text,.slice A' p.kids.length c',.bool p.blank] 36));have f:=hid (Blk.new wr 36 #[.int .i64 p.kind,.string p.text,.slice A' p.kids.length c',.bool p.blank]);have o:=hid (G.alloc G.size (.cells #[.int .i64 p.kind,.string p.text,.slice A' p.kids.length c',.bool p.blank] 36));have O:w.heap.size≠wr.heap.size:=oo;clear m hp y0 y1 y2 y3 ac ad N hB HO;go_upto_region 6 with fail
   clear x0 x1 x2 x3 aa c7 S;generalize wr.alloc (.cells #[.int .i64 p.kind,.string p.text,.slice A' p.kids.length c',.bool p.blank] 36)=W1 at r f o |-
   generalize wr.heap.size=gx at f O hz |-
   rcases bft (p.kind==9)with g1|g1
   ·have k:X0_ p=true:=(by unfold X0_;rw[g1];rfl);rw[if_pos k]at s;have L:=hid (show Q7_ B (p.kids.take 0)=B by rw[List.take_zero];rfl);clear k;go_wp2;go_loopw [8] (fun y D=>∃j:Nat,j<=p.kids.length - 1/\y=.int .i64 j/\Hid (Own D w.heap.size 4 n (Qt_ (Q7_ B (p.kids.take j))))/\Hid (Blk D gx 36 #[.int .i64 p.kind,.string p.text,.slice A' p.kids.length c',.bool p.blank])/\Below w.heap.size w D) (fun y _=>p.kids.length - (intOf y).toNat)
    case atStart=>exact⟨0,Nat.zero_le _,rfl,by rw[L.o];exact r,f,o.o⟩
    case round=>
     clear r f o;obtain⟨j,hj,rfl,a,d,g⟩:=hrel;have k0:=d.o.q0;have k2:=d.o.q2;have kz:=d.o.lt;by_cases aA:j < p.kids.length - 1
     ·have H:(j:Int)+1 < (p.kids.length:Int):=oo;obtain⟨v,m⟩:∃v,p.kids[j]? =some v:=⟨_,gE oo⟩;have C:=X.o v (List.mem_of_getElem? m);obtain⟨y,rfl⟩:=Int.eq_ofNat_of_zero_le C.1;obtain⟨b9,ai,rfl,T,c9⟩:=Ql_ (V.o.below g) (show j < p.kids.length from oo) m;have ab:(j:Int) < (p.kids.length:Int):=oo;have K:(y:Int) < (n:Int):=oo;have t:=hid (Vt_ (B:=B) m);rw[Int.toNat_natCast]at t;have z:=hid (ZI_ (x:=true) a.o (show y < (Q7_ B (p.kids.take j)).length by rw[XN_,Q];omega));rw[<-t.o]at z;obtain⟨u0,aC⟩:=a.o.there (show y < n from oo);have aD:=a.o.frozen;have aE:=a.o.lt;have M:=hid (d.o.far (p:=⟨w.heap.size,y,none⟩) (Ne.symm O) (.bool true));have R:=hid (g.setCell (show w.heap.size<=(⟨w.heap.size,y,none⟩:Addr).block from Nat.le_refl _) (.bool true));clear m C;go_wp2;go_roundw
      case rel=>exact⟨j+1,oo,by go_num,z,M,R.o⟩
      case measure=>simp[intOf];omega
     ·obtain rfl:j=p.kids.length - 1:=oo;have H:¬((p.kids.length - 1:Nat):Int)+1 < (p.kids.length:Int):=oo;rw[<-s.o]at a;go_wp2;exact⟨⟨i+1,oo,by go_num,a,g⟩,by simp[intOf];omega⟩
   ·rcases bft (p.kind==20)with g2|g2
    ·have k:X0_ p=true:=(by unfold X0_;rw[g2,Bool.or_true]);rw[if_pos k]at s;have L:=hid (show Q7_ B (p.kids.take 0)=B by rw[List.take_zero];rfl);clear k;go_wp2;go_loopw [8] (fun y D=>∃j:Nat,j<=p.kids.length - 1/\y=.int .i64 j/\Hid (Own D w.heap.size 4 n (Qt_ (Q7_ B (p.kids.take j))))/\Hid (Blk D gx 36 #[.int .i64 p.kind,.string p.text,.slice A' p.kids.length c',.bool p.blank])/\Below w.heap.size w D) (fun y _=>p.kids.length - (intOf y).toNat)
     case atStart=>exact⟨0,Nat.zero_le _,rfl,by rw[L.o];exact r,f,o.o⟩
     case round=>
      clear r f o;obtain⟨j,hj,rfl,a,d,g⟩:=hrel;have k0:=d.o.q0;have k2:=d.o.q2;have kz:=d.o.lt;by_cases aA:j < p.kids.length - 1
      ·have H:(j:Int)+1 < (p.kids.length:Int):=oo;obtain⟨v,m⟩:∃v,p.kids[j]? =some v:=⟨_,gE oo⟩;have C:=X.o v (List.mem_of_getElem? m);obtain⟨y,rfl⟩:=Int.eq_ofNat_of_zero_le C.1;obtain⟨b9,ai,rfl,T,c9⟩:=Ql_ (V.o.below g) (show j < p.kids.length from oo) m;have ab:(j:Int) < (p.kids.length:Int):=oo;have K:(y:Int) < (n:Int):=oo;have t:=hid (Vt_ (B:=B) m);rw[Int.toNat_natCast]at t;have z:=hid (ZI_ (x:=true) a.o (show y < (Q7_ B (p.kids.take j)).length by rw[XN_,Q];omega));rw[<-t.o]at z;obtain⟨u0,aC⟩:=a.o.there (show y < n from oo);have aD:=a.o.frozen;have aE:=a.o.lt;have M:=hid (d.o.far (p:=⟨w.heap.size,y,none⟩) (Ne.symm O) (.bool true));have R:=hid (g.setCell (show w.heap.size<=(⟨w.heap.size,y,none⟩:Addr).block from Nat.le_refl _) (.bool true));clear m C;go_wp2;go_roundw
       case rel=>exact⟨j+1,oo,by go_num,z,M,R.o⟩
       case measure=>simp[intOf];omega
      ·obtain rfl:j=p.kids.length - 1:=oo;have H:¬((p.kids.length - 1:Nat):Int)+1 < (p.kids.length:Int):=oo;rw[<-s.o]at a;go_wp2;exact⟨⟨i+1,oo,by go_num,a,g⟩,by simp[intOf];omega⟩
    ·have k:X0_ p=false:=(by unfold X0_;rw[g1,g2];rfl);rw[k,if_neg (by decide)]at s;clear k;have k0:=f.o.q0;have k2:=f.o.q2;have kz:=f.o.lt;go_wp2;go_loopw [8] (fun y D=>y=.int .i64 0/\Hid (Own D w.heap.size 4 n (Qt_ B))/\Hid (Blk D gx 36 #[.int .i64 p.kind,.string p.text,.slice A' p.kids.length c',.bool p.blank])/\Below w.heap.size w D) (fun y _=>0)
     case atStart=>exact⟨rfl,r,f,o.o⟩
     case round=>
      clear r f o k0 k2 kz;obtain⟨rfl,a,d,g⟩:=hrel;have k0:=d.o.q0;have k2:=d.o.q2;have kz:=d.o.lt;rw[<-s.o]at a;by_cases H:(1:Int) < (p.kids.length:Int)
      ·go_wp2;exact⟨⟨i+1,oo,by go_num,a,g⟩,by simp[intOf];omega⟩
      ·go_wp2;exact⟨⟨i+1,oo,by go_num,a,g⟩,by simp[intOf];omega⟩
  ·obtain rfl:i=E:=oo;go_wp2;go_ret;exact⟨rfl,HO.o,G⟩
theorem vb_ {ps:List PN} (h:KL_ ps=true):Hid (∀(q:Nat) (p:PN),ps[q]? =some p->X0_ p=true->1<=p.kids.length):=(show ∀(q:Nat) (p:PN),ps[q]? =some p->X0_ p=true->1<=p.kids.length from fun q p hp a=>by
 obtain⟨m,hm,_,b,_⟩:=GV_ h;have hq:=(List.getElem?_eq_some_iff.1 hp).1;obtain⟨_,c,_⟩:=Vu_ (b q oo) hp;unfold X0_ at a;rw[Bool.or_eq_true,beq_iff_eq,beq_iff_eq]at a;rcases a with a|a<;>rw[a]at c<;>simp[QW_]at c<;>omega)
theorem Y2_ (A:OA) (n c:Nat) (ps:List PN) (AL:OA) (O cl:Nat) (l:LI) (w:World) (T:Nps w A n ps) (hg:Good ps) (hn:n<=1048576) (hr:Rd w 1 AL O (Qa_ l)) (an:Hid (l.length=O)) (aV:O<=1048576) (ap:Hid (∀(q:Nat) (p:PN),ps[q]? =some p->X0_ p=true->1<=p.kids.length)) (aM:Hid (∀v∈l,∃q:Nat,v=(q:Int)/\q < n)):
  Calls prog 61 #[.slice A n c,.slice AL O cl] w (j2_ w (WX_ ps l)):=by
 obtain⟨j0,hj,ar,U,av⟩:=info_parts JG_;have ae:=fun W=>QK_ (P:=prog) 81 4 j0 _ underlying81 hj ar .i64 .i64 n n (Nat.le_refl _) (by rw[av];omega) oo W
 rw[U,Nat.mul_one]at ae;simp only[Value.cells]at ae;have S:=Vx_ ps l;rw[T.len]at S;have ao:=T.len;obtain⟨F,hF⟩:=ex_ (fun i=>(l.take i).foldl (ZZ_ ps) (List.replicate n false));have HE:=hid (show WX_ ps l=F O by rw[<-hF];dsimp only;rw[<-an.o,List.take_length];unfold WX_;rw[ao]);have aD:=hid (show F 0=List.replicate n false by rw[<-hF];rfl);have aF:=hid (show ∀(i:Nat) (v:Int),l[i]? =some v->F (i+1)=ZZ_ ps (F i) v from fun i v C=>by
  rw[<-hF];dsimp only;rw[List.take_add_one,C,Option.toList_some,List.foldl_append]
  rfl)
 have aE:=hid (show ∀i,(F i).length=n from fun i=>by
  rw[<-hF];have aR:∀(l:LI) (B:List Bool),(l.foldl (ZZ_ ps) B).length=B.length:=by
   intro l
   induction l with
   |nil=>intro B;rfl
   |cons v l ih=>
    intro B;rw[List.foldl_cons,ih];unfold ZZ_;split
    ·rfl
    ·split
     ·exact XN_ _ _
     ·rfl
  dsimp only;rw[aR,List.length_replicate])
 unfold j2_;rw[HE.o]at S;rw[HE.o,S];have HZ:=hid (Own.falses (w:=w) (e:=4) n);have ah:=hid T;have HG:=hid hg;have HR:=hid hr;clear hj ar U av T hg hr S ao hF HE;go_enter func61,ntmps61;go_wp2;clear ae;go_loopw [16] (fun x wr=>∃i:Nat,i<=O/\x=.int .i64 i/\Hid (Own wr w.heap.size 4 n (Qt_ (F i)))/\Below w.heap.size w wr) (fun x _=>O - (intOf x).toNat)
 case atStart=>exact⟨0,Nat.zero_le _,rfl,by rw[aD.o];exact HZ,grow_⟩
 case round=>
  clear HZ;obtain⟨i,hi,rfl,HO,R⟩:=hrel;by_cases aK:i < O
  ·obtain⟨v,C⟩:∃v,l[i]? =some v:=⟨_,gE (by have:=an.o;omega)⟩;obtain⟨q,rfl,hq⟩:=aM.o v (List.mem_of_getElem? C);have Z:=hid (aF.o i _ C);obtain⟨b7,aT,rfl,ac,c7⟩:=Ql_ (HR.o.below R) aK C;obtain⟨p,hp⟩:=ah.o.get hq;obtain⟨X,am⟩:=HG.o q p hp;have aa:=aE.o i;obtain⟨B,hB⟩:=ex_ (F i);rw[hB]at HO Z aa;have V:=hid (ap.o q p hp);have h:Hid (F (i+1)=if X0_ p=true then Q7_ B (p.kids.take (p.kids.length - 1))else B):=(show F (i+1)=if X0_ p=true then Q7_ B (p.kids.take (p.kids.length - 1))else B by
    rw[Z.o];unfold ZZ_;rw[Int.toNat_natCast,hp])
   obtain⟨b,off,A',c',rfl,m,y0,y1,y2,y3,H,al⟩:=ah.o.atc hq hp;have x0:=((QE_ R).1 _ _ m).trans y0;have x1:=((QE_ R).1 _ _ m).trans y1;have x2:=((QE_ R).1 _ _ m).trans y2;have x3:=((QE_ R).1 _ _ m).trans y3;have aj:b < wr.heap.size:=(by have:=R.size;omega);have aU:(i:Int) < (O:Int):=oo;have aX:(q:Int) < (n:Int):=oo;have s:=hid al;have Q:=hid am;have hz:=HO.o.lt;have D:=hid (HO.o.alloc (.cells #[.int .i64 p.kind,.string p.text,.slice A' p.kids.length c',.bool p.blank] 36));have a:=hid (Blk.new wr 36 #[.int .i64 p.kind,.string p.text,.slice A' p.kids.length c',.bool p.blank]);have I:=hid (R.alloc R.size (.cells #[.int .i64 p.kind,.string p.text,.slice A' p.kids.length c',.bool p.blank] 36));have aJ:w.heap.size≠wr.heap.size:=oo;clear C hp y0 y1 y2 y3 al am Z hB HO;go_upto_region 6 with fail
   clear x0 x1 x2 x3 aj c7 ac;generalize wr.alloc (.cells #[.int .i64 p.kind,.string p.text,.slice A' p.kids.length c',.bool p.blank] 36)=W1 at D a I |-
   generalize wr.heap.size=gx at a aJ hz |-
   rcases bft (p.kind==9)with g1|g1
   ·have k:X0_ p=true:=(by unfold X0_;rw[g1];rfl);rw[if_pos k]at h;have t:=V.o k;obtain⟨ks,M⟩:=ex_ p.kids;rw[M]at h t s Q a X H |-
    obtain⟨g,r⟩:∃g,ks.length=g+1:=⟨ks.length - 1,oo⟩;rw[r]at s a H |-
    rw[r,Nat.add_sub_cancel]at h;have K:=hid r;have af:g+1<=12:=oo;have Y:=hid (show Q7_ B (ks.take 0)=B by rw[List.take_zero];rfl);have em:((g+1:Nat):Int) - 1=(g:Int):=oo;have k0:=a.o.q0;have k2:=a.o.q2;have kz:=a.o.lt;clear k M r t;obtain⟨aS,z⟩:∃d,ks[0]? =some d:=⟨_,gE (by rw[K.o];omega)⟩;obtain⟨b9,ax,rfl,o,_⟩:=Ql_ s.o (show 0 < g+1 from oo) z;clear z o;go_upto_region 8 with fail
    clear k0 k2 kz;go_wp2;go_loopw [40] (fun y wx=>∃j:Nat,j<=g/\y=.int .i64 j/\Hid (Own wx w.heap.size 4 n (Qt_ (Q7_ B (ks.take j))))/\Below w.heap.size w wx) (fun y _=>g - (intOf y).toNat)
    case atStart=>exact⟨0,Nat.zero_le _,rfl,by rw[Y.o];exact D,I.o⟩
    case round=>
     clear D a I;obtain⟨j,hj,rfl,f,G⟩:=hrel;by_cases aL:j < g
     ·obtain⟨v,C⟩:∃v,ks[j]? =some v:=⟨_,gE (by rw[K.o];omega)⟩;have N:=Q.o v (List.mem_of_getElem? C);obtain⟨y,rfl⟩:=Int.eq_ofNat_of_zero_le N.1;obtain⟨aG,ag,E,ad,c9⟩:=Ql_ (s.o.below G) (show j < g+1 from oo) C;injection E with E;injection E with e101 e102;subst e101;subst e102;have ak:(j:Int) < (g:Int):=oo;have U:(y:Int) < (n:Int):=oo;have J:=hid (Vt_ (B:=B) C);rw[Int.toNat_natCast]at J;have L:=hid (ZI_ (x:=true) f.o (show y < (Q7_ B (ks.take j)).length by rw[XN_,aa];omega));rw[<-J.o]at L;obtain⟨u0,aN⟩:=f.o.there (show y < n from oo);have aO:=f.o.frozen;have aP:=f.o.lt;have ab:=hid (G.setCell (show w.heap.size<=(⟨w.heap.size,y,none⟩:Addr).block from Nat.le_refl _) (.bool true));clear C N;go_wp2;go_roundw
      case rel=>exact⟨j+1,oo,by go_num,L,ab.o⟩
      case measure=>simp[intOf];omega
     ·obtain rfl:j=g:=oo;rw[<-h.o]at f;go_wp2;exact⟨⟨i+1,oo,by go_num,f,G⟩,by simp[intOf];omega⟩
   ·rcases bft (p.kind==20)with g2|g2
    ·have k:X0_ p=true:=(by unfold X0_;rw[g2,Bool.or_true]);rw[if_pos k]at h;have t:=V.o k;obtain⟨ks,M⟩:=ex_ p.kids;rw[M]at h t s Q a X H |-
     obtain⟨g,r⟩:∃g,ks.length=g+1:=⟨ks.length - 1,oo⟩;rw[r]at s a H |-
     rw[r,Nat.add_sub_cancel]at h;have K:=hid r;have af:g+1<=12:=oo;have Y:=hid (show Q7_ B (ks.take 0)=B by rw[List.take_zero];rfl);have em:((g+1:Nat):Int) - 1=(g:Int):=oo;have k0:=a.o.q0;have k2:=a.o.q2;have kz:=a.o.lt;clear k M r t;obtain⟨aS,z⟩:∃d,ks[0]? =some d:=⟨_,gE (by rw[K.o];omega)⟩;obtain⟨b9,ax,rfl,o,_⟩:=Ql_ s.o (show 0 < g+1 from oo) z;clear z o;go_upto_region 8 with fail
     clear k0 k2 kz;go_wp2;go_loopw [40] (fun y wx=>∃j:Nat,j<=g/\y=.int .i64 j/\Hid (Own wx w.heap.size 4 n (Qt_ (Q7_ B (ks.take j))))/\Below w.heap.size w wx) (fun y _=>g - (intOf y).toNat)
     case atStart=>exact⟨0,Nat.zero_le _,rfl,by rw[Y.o];exact D,I.o⟩
     case round=>
      clear D a I;obtain⟨j,hj,rfl,f,G⟩:=hrel;by_cases aL:j < g
      ·obtain⟨v,C⟩:∃v,ks[j]? =some v:=⟨_,gE (by rw[K.o];omega)⟩;have N:=Q.o v (List.mem_of_getElem? C);obtain⟨y,rfl⟩:=Int.eq_ofNat_of_zero_le N.1;obtain⟨aG,ag,E,ad,c9⟩:=Ql_ (s.o.below G) (show j < g+1 from oo) C;injection E with E;injection E with e101 e102;subst e101;subst e102;have ak:(j:Int) < (g:Int):=oo;have U:(y:Int) < (n:Int):=oo;have J:=hid (Vt_ (B:=B) C);rw[Int.toNat_natCast]at J;have L:=hid (ZI_ (x:=true) f.o (show y < (Q7_ B (ks.take j)).length by rw[XN_,aa];omega));rw[<-J.o]at L;obtain⟨u0,aN⟩:=f.o.there (show y < n from oo);have aO:=f.o.frozen;have aP:=f.o.lt;have ab:=hid (G.setCell (show w.heap.size<=(⟨w.heap.size,y,none⟩:Addr).block from Nat.le_refl _) (.bool true));clear C N;go_wp2;go_roundw
       case rel=>exact⟨j+1,oo,by go_num,L,ab.o⟩
       case measure=>simp[intOf];omega
      ·obtain rfl:j=g:=oo;rw[<-h.o]at f;go_wp2;exact⟨⟨i+1,oo,by go_num,f,G⟩,by simp[intOf];omega⟩
    ·have k:X0_ p=false:=(by unfold X0_;rw[g1,g2];rfl);rw[k,if_neg (by decide)]at h;clear k;have k0:=a.o.q0;have kz:=a.o.lt;rw[<-h.o]at D;go_wp2;go_roundw
     case rel=>exact⟨i+1,oo,by go_num,D,I.o⟩
     case measure=>simp[intOf];omega
  ·obtain rfl:i=O:=oo;go_wp2;go_ret;exact⟨rfl,HO.o,R⟩
end Go.Proofs.YtgbikafalcbibaaGreatDoor

/-
  Put together by program (shake.py):FiO.
-/
import Derived.Test.YtgbikafalcbibaaGreatDoorMaYF
set_option maxRecDepth 100000
set_option linter.all false
set_option maxHeartbeats 25600000
open Go.Lib (hid)
open Go.Proofs.Tryz
namespace Go.Proofs.YtgbikafalcbibaaGreatDoor
open Go.RowKit
theorem JC_ (t:BA) (w:World) (ht:t.size<=1048576):Calls prog 13 #[.string t] w (Kj_ w (Ze_ t)):=by
 have HR:=hid (GX_ t w ht);obtain⟨fe,K⟩:=ex_ (Ze_ t);have P:=hid K;rw[K];unfold Kj_;clear K;go_enter func13,ntmps13;go_wp2_with fail
 refine HR.o.mono ?_;rintro e w1 ⟨T,AN,n,cN,ps,ls,rfl,Z,aO,ad,ac,o⟩;obtain⟨F,V⟩:=ex_ (ZR_ t ps);have HE:Hid (fe=F n):=(show fe=F n by
  rw[<-P.o,<-V];unfold Ze_;rcases o with⟨hr,rfl,rfl⟩|⟨hr,rfl⟩<;>rw[hr]<;>rfl)
 have al:=hid (show F 0=[]by rw[<-V];rfl);have an:=hid (show ∀k,F (k+1)=F k++YR_ t ps (k:Int)from fun k=>by rw[<-V];rfl);have am:=hid (show ∀k,k<=n->(F k).length<=k * 301 from fun k v=>by rw[<-V];exact Ue_ t ps k oo);have aD:=hid (fun(k:Nat) (p:PN) (hp:ps[k]? =some p) (v:(p.kind==20)=true)=>xJ_ (t:=t) hp v);have aC:=hid (fun(k:Nat) (p:PN) (hp:ps[k]? =some p) (v:(p.kind==20)=false)=>WT_ (t:=t) hp v);have U:Hid (∀(A:OA) (c k:Nat) (W:World),Nps W A n ps->k < n->Calls prog 28 #[.slice A n c,.int .i64 k] W (YM_ W (ZQ_ ps k))):=(show ∀(A:OA) (c k:Nat) (W:World),Nps W A n ps->k < n->Calls prog 28 #[.slice A n c,.int .i64 k] W (YM_ W (ZQ_ ps k))from fun A c k W aI v=>by
  rcases o with⟨_,rfl,_⟩|⟨hr,_⟩
  ·omega
  ·exact zc_ A n c ps k W aI (hid (QU_ hr).2.2) (QU_ hr).1 v)
 have aE:=hid (show ∀k,k < n->(ZQ_ ps k).length<=300 from fun k v=>by
  have h1:=Y8_ ps k;have h2:(ZQ_ ps k).length<=(Wb_ ps k).length:=List.length_filter_le _ _;omega)
 have ax:=hid ac;have az:=hid ad;unfold YM_ at U;have R:Hid (FP w T AN n cN ps ls none 0 [] none 0 [] [] w1):=(show FP w T AN n cN ps ls none 0 [] none 0 [] [] w1 from⟨Z,Mine.mk_nil _ _ _ _,Mine.mk_nil _ _ _ _⟩);obtain⟨AL,cL,AF,cF,g,C,hL,f,r,O⟩:=Z;have k0:=g.q0;have kf:=g.frozen;have kz:=g.lt;clear g C hL f r O o ac ad V HR P;go_wp2;go_loopw [15] (fun i wr=>∃(k:Nat),k<=n/\i=.int .i64 k/\Hid (FP w T AN n cN ps ls none 0 [] none 0 [] (F k) wr)) (fun i _=>n - (intOf i).toNat)
 case atStart=>exact⟨0,Nat.zero_le _,rfl,by rw[al.o];exact R⟩
 case round=>
  clear R k0 kf kz;obtain⟨k,v,rfl,d⟩:=hrel;have M:=am.o k v;obtain⟨fs,L⟩:=ex_ (F k);have Q:=hid L;rw[L]at d M;clear L;obtain⟨AL,cL,AF,cF,g,C,hL,f,r,O⟩:=id d.o.1;have k0:=g.q0;have k2:=g.q2;have kf:=g.frozen;have kz:=g.lt;by_cases l:k < n
  ·obtain⟨N,m⟩:=C.nps.get l;obtain⟨b,off,A2,c2,rfl,Y,x0,x1,x2,x3,_,_⟩:=C.nps.atc l m;have aM:(k:Int) < (n:Int):=oo;have x:=ax.o k l;have a:=hid (an.o k);rw[Q.o]at a;have I:=hid (d.o.alloc (.cells #[.int .i64 N.kind,.string N.text,.slice A2 N.kids.length c2,.bool N.blank] 36));have aP:=O.size;clear g C hL f r O k2;rcases bft (N.kind==20)with g1|g1
   ·rw[aD.o k N m g1]at a;have ag:=aE.o k l;have q:=hid (fun(W:World) (h:Below wr.heap.size wr W)=>U.o (some ⟨b,off,none⟩) cN k W (by obtain⟨_,_,_,_,_,C,_⟩:=(d.o.next h).1;exact C.nps) l);obtain⟨B,ah⟩:=ex_ (ZQ_ ps k);rw[ah]at q a ag;obtain⟨z,y⟩:=ex_ B.length;rw[y]at q ag;have H:=hid y;obtain⟨D,hD⟩:=ex_ (KS_ t (Q3_ ps k));rw[hD]at a x;obtain⟨G,X⟩:=ex_ (fun j=>fs++(B.take j).map (fun s=>((2:Int),D,s)));have ao:=hid (show G 0=fs by rw[<-X];simp);have ap:=hid (show F (k+1)=G z by rw[a.o,<-X];dsimp only;rw[<-y,List.take_length]);have ar:=hid (show ∀(j:Nat) (s:BA),B[j]? =some s->G (j+1)=G j++[((2:Int),D,s)]from fun j s hs=>by
     rw[<-X];dsimp only;rw[List.take_add_one,hs,Option.toList_some,List.map_append,List.append_assoc]
     rfl)
    have aq:=hid (show ∀j,j<=z->(G j).length<=90600 from fun j hj=>by
     rw[<-X];dsimp only;rw[lA,List.length_map,List.length_take];omega)
    have ay:=hid x;clear m ah y hD X M x;go_wp2_with fail
    refine(q.o _ grow_).mono ?_;rintro e w3 ⟨AS,cS,rfl,ae,h3⟩;have S:Hid (FP w T (some ⟨b,off,none⟩) n cN ps ls none 0 [] AS cS B (G 0) w3):=(show FP w T (some ⟨b,off,none⟩) n cN ps ls none 0 [] AS cS B (G 0) w3 from by
     rw[ao.o];have h:=I.o.next h3;exact⟨h.1,h.2.1,by rw[H.o];exact ae.more (by simp;omega)⟩)
    clear ae h3 d I q x0 x1 x2 x3 Y k0 kf kz;rename World=>wo
    go_wp2;go_loopw [30] (fun i wr=>∃(j:Nat),j<=z/\i=.int .i64 j/\Hid (FP w T (some ⟨b,off,none⟩) n cN ps ls none 0 [] AS cS B (G j) wr)) (fun i _=>z - (intOf i).toNat)
    case atStart=>exact⟨0,Nat.zero_le _,rfl,S⟩
    case round=>
     clear S;obtain⟨j,hj,rfl,d⟩:=hrel;have M:=aq.o j hj;by_cases aa:j < z
     ·obtain⟨s,hs⟩:∃s,B[j]? =some s:=⟨_,gE (by rw[H.o];exact aa)⟩;have av:=hid (ar.o j s hs);obtain⟨bs,aL,es,J,aF⟩:=Ud_ d.o.2.2.rd (by rw[H.o];exact aa) hs;subst es;have aN:(j:Int) < (z:Int):=oo;have E:=hid (Jw_ w T (some ⟨b,off,none⟩) n cN ps ls (G j) 2 k D s _ d.o.1 ay.o oo (by rw[az.o];omega));rw[<-av.o]at E;clear hs;go_wp2_with fail
      refine E.o.mono ?_;rintro e w4 ⟨rfl,h4,ab⟩;have aA:=hid (d.o.found h4 ab);clear h4 ab aF J d E;go_wp2;go_roundw
      case rel=>exact⟨j+1,oo,by go_num,aA⟩
      case measure=>simp[intOf];omega
     ·obtain rfl:j=z:=oo;rw[<-ap.o]at d;have aB:Hid (FP w T (some ⟨b,off,none⟩) n cN ps ls none 0 [] none 0 [] (F (k+1)) wr):=(show FP w T (some ⟨b,off,none⟩) n cN ps ls none 0 [] none 0 [] (F (k+1)) wr from⟨d.o.1,d.o.2.1,Mine.mk_nil _ _ _ _⟩);clear d;go_wp2;exact⟨⟨k+1,oo,by go_num,aB⟩,by simp[intOf];omega⟩
   ·rw[aC.o k N m g1,List.append_nil]at a;clear m x;go_wp2;go_roundw
    case rel=>exact⟨k+1,oo,by go_num,by rw[a.o];exact I⟩
    case measure=>simp[intOf];omega
  ·obtain rfl:k=n:=oo;have HM:=hid f;have HB:=hid O;clear g C hL f r O k0;go_wp2;go_ret;rw[HE.o,Q.o];exact⟨AF,cF,rfl,HM.o,HB.o⟩
end Go.Proofs.YtgbikafalcbibaaGreatDoor

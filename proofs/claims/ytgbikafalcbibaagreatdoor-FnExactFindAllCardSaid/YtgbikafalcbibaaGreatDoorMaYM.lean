/-
  Put together by program (shake.py):FaA.
-/
import Derived.Test.YtgbikafalcbibaaGreatDoorMaU
import Derived.Shelf.Spec.SlicesGrow
set_option maxRecDepth 100000
set_option linter.all false
set_option maxHeartbeats 25600000
open Go.Lib (hid)
open Go.Proofs.Tryz
namespace Go.Proofs.YtgbikafalcbibaaGreatDoor
open Go.RowKit
def lay66_ren:Go.Shelf.Ren:=⟨fun|4=>66|n=>n,fun|20=>20|22=>22|25=>41|n=>n,fun n=>n⟩
theorem QhD_:Lays8.n4 prog lay66_ren:=⟨(by kernel_rfl),⟨Tryz.f66.name,by kernel_rfl,func66.trans (congrArg some (by kernel_rfl))⟩,underlying0,isAgg0,sizeOf0,zeroValue0,underlying3,isAgg3,sizeOf3,zeroValue3,underlying4,isAgg4,sizeOf4,zeroValue4,underlying9,isAgg9,sizeOf9,zeroValue9,underlying20,isAgg20,sizeOf20,zeroValue20,underlying22,isAgg22,sizeOf22,zeroValue22⟩
theorem grow_zero (w:World):Calls prog 66 #[.slice none 0 0,.int .i64 0] w fun e w'=>e=.returned (.slice none 0 0)/\w=w':=by
 go_enter func66,ntmps66;go_wp2;go_ret;exact⟨rfl,rfl⟩
theorem grow_any (n:Nat) (w:World) (hn:n<=4194304):Calls prog 66 #[.slice none 0 0,.int .i64 n] w fun e w'=>∃A c,e=.returned (.slice A 0 c)/\Mine w' w.heap.size 41 3 A 0 c []/\Below w.heap.size w w':=by
 rcases Nat.eq_zero_or_pos n with rfl|h0
 ·refine(grow_zero w).mono ?_;rintro e w' ⟨rfl,rfl⟩;exact⟨none,0,rfl,Mine.mk_nil _ _ _ _,br⟩
 ·obtain⟨i0,hi,i,j,k⟩:=info_parts Kl_;have h:=Any8.slices_Grow_grow QhD_ i0 _ hi i (by rw[j];omega) none 0 0 n [] w (Nat.le_refl _) oo (by rw[k];omega) oo (by simp) (fun _=>rfl) (fun a ha=>by cases ha);refine h.mono ?_;rintro e w' ⟨rfl,rfl⟩;obtain⟨cap,b⟩:=ex_ (grownCap w (0+n) 0 (lay66_ren.t 25));have g:=grownCap_ge w (0+n) 0 (lay66_ren.t 25);have d:=grownCap_le_maxLen w (0+n) 0 (lay66_ren.t 25) (by unfold maxLen;omega);rw[b]at g d |-
  have f:((([]:List Value).toArray++Builtin.zeroCells (Value.agg #[.int .i64 0,.int .i64 0,.string ⟨#[]⟩]).cells (0+n - 0))++Builtin.zeroCells (Value.agg #[.int .i64 0,.int .i64 0,.string ⟨#[]⟩]).cells (cap - (0+n))).size=cap * 3:=by
   rw[Array.size_append,Array.size_append,size_zeroCells,size_zeroCells];show 0+(0+n - 0) * 3+(cap - (0+n)) * 3=_;omega
  generalize (([]:List Value).toArray++Builtin.zeroCells (Value.agg #[.int .i64 0,.int .i64 0,.string ⟨#[]⟩]).cells (0+n - 0))++Builtin.zeroCells (Value.agg #[.int .i64 0,.int .i64 0,.string ⟨#[]⟩]).cells (cap - (0+n))=cs at f |-
  refine⟨_,_,rfl,Mine.mk_own ⟨cs.toList,by rw[List.nil_append];exact Blk.new w.drew _ _,by simpa using f⟩ rfl (by simp) oo d,?_⟩;exact br.drew.alloc (Nat.le_refl _) _
def sumR (L:List (OA × Nat × List FindingD)):Nat->Nat
 |0=>0
 |k+1=>sumR L k+(match L[k]? with|none=>0|some x=>x.2.2.length)
def catR (L:List (OA × Nat × List FindingD)):Nat->List FindingD
 |0=>[]
 |k+1=>catR L k++(match L[k]? with|none=>[]|some x=>x.2.2)
def rowV (x:OA × Nat × List FindingD):Value:=.slice x.1 x.2.2.length x.2.1
theorem QeQ_ (L:List (OA × Nat × List FindingD)):∀k,(catR L k).length=sumR L k:=by
 intro k
 induction k with
 |zero=>rfl
 |succ k ih=>
  rw[catR,sumR,lA,ih]
  cases L[k]? <;>rfl
theorem Qdg_ (L:List (OA × Nat × List FindingD)) {a b:Nat} (h:a<=b):sumR L a<=sumR L b:=by
 induction h with
 |refl=>exact Nat.le_refl _
 |step _ ih=>exact Nat.le_trans ih (Nat.le_add_right _ _)
/-- slices.Concat of five rows of findings. -/
theorem v4_ (L:List (OA × Nat × List FindingD)) (g c:Nat) (w:World) (hL:L.length=5) (hg:Rd w 1 (some ⟨g,0,none⟩) 5 (L.map rowV)) (hr:Hid (∀x∈L,Mine w 0 41 3 x.1 x.2.2.length x.2.1 (x.2.2.flatMap Qc_))) (hs:sumR L 5<=4194304):
    Calls prog 35 #[.slice (some ⟨g,0,none⟩) 5 c] w (Kj_ w (catR L 5)):=by
  obtain⟨i0,hi,V,X,Y⟩:=info_parts Kl_;have q:=hid (And.intro hi (And.intro V (And.intro X Y)));have HL:=hid hL;have HG:=hid hg;obtain⟨S,P⟩:=ex_ (sumR L);have an:=hid (show S 0=0 by rw[<-P];rfl);have ao:=hid (show ∀(k:Nat) (x:OA × Nat × List FindingD),L[k]? =some x->S (k+1)=S k+x.2.2.length from fun k x h=>by rw[<-P,sumR,h]);have E:=hid (show ∀k,k<=5->S k<=4194304 from fun k hk=>by rw[<-P];exact Nat.le_trans (Qdg_ L hk) hs);obtain⟨F,O⟩:=ex_ (catR L);have ae:=hid (show F 0=[]by rw[<-O];rfl);have af:=hid (show ∀(k:Nat) (x:OA × Nat × List FindingD),L[k]? =some x->F (k+1)=F k++x.2.2 from fun k x h=>by rw[<-O,catR,h]);have ag:=hid (show ∀k,(F k).length=S k from fun k=>by rw[<-O,<-P];exact QeQ_ L k);rw[O];have ah:=hid (fun(n:Nat) (W:World) hn=>grow_any n W hn);unfold Kj_;clear hi V X Y hL hg P O hs;go_enter func35,ntmps35;go_wp2;go_loopw [3,11] (fun s i wr=>∃k:Nat,k<=5/\i=.int .i64 k/\s=.int .i64 (S k)/\wr=w) (fun _ i _=>5 - (intOf i).toNat)
  case atStart=>exact⟨0,oo,rfl,by rw[an.o];rfl,rfl⟩
  case round=>
    obtain⟨k,hk,rfl,rfl,rfl⟩:=hrel;by_cases I:k < 5
    · obtain⟨x,B⟩:∃x,L[k]? =some x:=⟨_,gE (by rw[HL.o];exact I)⟩
      obtain⟨b,off,G,hb,Q⟩:=HG.o.at_ oo;injection G with G;injection G with e01 e02;subst e01;subst e02;have f:=Q k (rowV x) (by rw[List.getElem?_map,B];rfl);simp only[Nat.zero_add]at f;unfold rowV at f;have N:=hid (ao.o k x B);obtain⟨A,cc,l⟩:=x;dsimp only at f N;have T:(k:Int) < 5:=oo;have r:=E.o (k+1) oo;rw[N.o]at r;obtain⟨C,o⟩:=ex_ l.length;rw[o]at f N r;obtain⟨sk,U⟩:=ex_ (S k);rw[U]at N r |-
      have aC:¬((sk:Int)+(C:Int) < 0):=oo;clear B Q o U;go_wp2;go_roundw
      case rel=>
        refine⟨k+1,oo,by go_num,by rw[N.o];simp,?_⟩
        first|rfl|trivial
      case measure=>simp[intOf];omega
    · obtain rfl:k=5:=oo
      have t:=ah.o (S 5) wr (E.o 5 (Nat.le_refl _));go_wp2_with (go_at_call 66;refine t.mono ?_;rintro e w1 ⟨A0,f,rfl,m0,r⟩)
      have M0:=hid m0;have B0:=hid r;clear m0 r t;go_loopw [6,27] (fun s i wx=>∃(k:Nat) (A:OA) (c:Nat),k<=5/\i=.int .i64 k/\s=.slice A (F k).length c/\Hid (Mine wx wr.heap.size 41 3 A (F k).length c ((F k).flatMap Qc_))/\Hid (Below wr.heap.size wr wx)) (fun _ i _=>5 - (intOf i).toNat)
      case atStart=>
        refine⟨0,A0,f,oo,rfl,?_,?_,B0⟩
        all_goals rw[ae.o]
        · rfl
        · exact M0
      case round=>
        clear M0 B0;rename World=>wx
        obtain⟨k,A,c,hk,rfl,rfl,v,D⟩:=hrel;by_cases I:k < 5
        · obtain⟨x,B⟩:∃x,L[k]? =some x:=⟨_,gE (by rw[HL.o];exact I)⟩
          obtain⟨b,off,G,hb,Q⟩:=(HG.o.below D.o).at_ oo;injection G with G;injection G with e01 e02;subst e01;subst e02;have f:=Q k (rowV x) (by rw[List.getElem?_map,B];rfl);simp only[Nat.zero_add]at f;unfold rowV at f;have y:=hid (af.o k x B);have p:=(hr.o x (List.mem_of_getElem? B)).next D.o;obtain⟨Ax,cx,l⟩:=x;dsimp only at f y p;have T:(k:Int) < 5:=oo;have r:=E.o (k+1) oo;rw[<-ag.o,y.o,lA]at r;obtain⟨fs,R⟩:=ex_ (F k);rw[R]at v y r |-
          have aq:=D.o.size;have aj:=hid (show(fs.flatMap Qc_).length=fs.length * 3 by have:=v.o.len;simpa using this);clear B Q R;have J:(l.flatMap Qc_).length=l.length * 3:=p.len;rcases p.own with⟨rfl,ax,rfl⟩|⟨gx,rfl,_,_,_,ay⟩
          · have e:l=[]:=List.eq_nil_of_length_eq_zero ax
            subst e;rw[List.append_nil]at y;have c1:wx.cell? ⟨g,k,none⟩=some (.slice none 0 0):=f;clear f p;go_wp2_with (at_builtin;(refine wpList_append_own_none rfl (.tmp 31) (.tmp 32) _ rfl wr.heap.size 41 i0 3 underlying22 q.o.1 (.slice A fs.length c) fs.length (fs.flatMap Qc_) rfl v.o rfl ?_))
            go_roundw
            case rel=>exact⟨k+1,A,c,oo,by go_num,by rw[y.o],by rw[y.o];exact v,D⟩
            case measure=>simp[intOf];omega
          · have a:∀j u,(l.flatMap Qc_)[j]? =some u->wx.cell? ((⟨gx,0,none⟩:Addr).add j)=some u:=fun j u hj=>by
              have aB:=(List.getElem?_eq_some_iff.1 hj).1;obtain⟨b,off,e,_,ar⟩:=p.rd.2 oo;injection e with e;injection e with e1 e2;subst e1;subst e2;have h7:=ar j u hj;unfold Addr.add;split
              · next e=>subst e;simpa using h7
              · simpa using h7
            have H:∀u∈l.flatMap Qc_,u.oneCell'=true:=fun u hu=>by
              obtain⟨d,_,hd⟩:=List.mem_flatMap.1 hu;simp[Qc_]at hd;rcases hd with rfl|rfl|rfl<;>rfl
            obtain⟨m,M⟩:=ex_ (l.flatMap Qc_);rw[M]at a H J;obtain⟨C,o⟩:=ex_ l.length;rw[o]at f J r;obtain⟨Z,K⟩:=ex_ fs.length;have ap:=hid K;rw[K]at r v |-
            have am:=hid M;have ai:=hid o;have al:=hid a;have ac:=hid H;clear p ay M o K a H aj;go_wp2_with (at_builtin;(refine Qf_ _ rfl (.tmp 31) (.tmp 32) _ rfl wr.heap.size 41 i0 (.agg #[.int .i64 0,.int .i64 0,.string ⟨#[]⟩]) 3 32 underlying22 q.o.1 q.o.2.1 q.o.2.2.1 q.o.2.2.2 rfl (by decide) (.slice A Z c) Z (fs.flatMap Qc_) rfl v.o ⟨gx,0,none⟩ C cx m rfl J al.o ac.o (by unfold maxLen;omega) oo oo ?_);intro v' w5 z t az)
            obtain⟨A5,c5,rfl,m5⟩:=Mine.of z;have ad:=hid (D.o.grown t aq (fun g e=>by rw[Qw_]at e;exact(Mine.blk v.o e).1));have e5:fs.flatMap Qc_++m=(fs++l).flatMap Qc_:=(by rw[List.flatMap_append,am.o]);rw[e5]at m5;have e6:Z+C=(fs++l).length:=(by rw[lA,ap.o,ai.o]);rw[e6]at m5 |-
            have ak:=hid m5;clear z t az m5 e5 e6 v D f;go_wp2;go_roundw
            case rel=>exact⟨k+1,A5,c5,oo,by go_num,by rw[y.o],by rw[y.o];exact ak,ad⟩
            case measure=>simp[intOf];omega
        · obtain rfl:k=5:=oo
          go_wp2;go_ret;exact⟨A,c,rfl,v.o,D.o⟩
end Go.Proofs.YtgbikafalcbibaaGreatDoor

/-
  Put together by program.
-/
import Derived.Test.YtbiijipkgfpgoaaGreatDoorMfX
import Derived.Test.YtbiijipkgfpgoaaGreatDoorMfM
set_option maxRecDepth 100000
set_option linter.all false
set_option maxHeartbeats 25600000
open Go.Proofs.Tryz
open Go.Value renaming int→I_,slice→S_,string→T_,bool→B_,pointer→P_,agg→A_,tuple→U_
open Go.IntKind renaming i64→j_
open Go.Obj renaming cells→C_
open Go.Ending renaming returned→R_
namespace Go.Proofs.YtbiijipkgfpgoaaGreatDoor
open Go.RowKit
theorem Qhb_ (D:WD) (hi:D.imp=true) (f j:Nat) (t:BA) (z:Bool) (a:Int) (s:Ws) (W:World) (l:LI) (c:Nat) (h:WIn 104 D f j ⟨20,t,l++[(c:Int)],z⟩ a s W):
  Calls prog 104 #[P_ (some ⟨D.T,0,none⟩),I_ j_ (j:Int),I_ j_ a] W (WrR D (ZN_ D.Q (f+1) j a s) W):=by
 obtain⟨b,off,A',c',eD,o,X,Y,y2,Z,L,p⟩:=h.at_;have m:(⟨20,t,l++[(c:Int)],z⟩:PN).kids.length=l.length+1:=by show(l++[(c:Int)]).length=_;simp
 rw[m]at y2 L p;obtain⟨A,O,P,Q,R,S⟩:=h.hC.cells;rw[eD]at A;have ac:=h.lt;have J:=h.K.K.F.few;obtain⟨aa,ab⟩:=h.a26;have HK:=h_ h.kids;have y:=h_ L;have r:l.length<=11:=by have h9:=h.few;rw[m]at h9;omega
 clear m;replace X:W.cell? ⟨b,off+j * 4,none⟩=some (I_ j_ 20):=X;replace Y:W.cell? ⟨b,off+j * 4+1,none⟩=some (T_ t):=Y;replace Z:W.cell? ⟨b,off+j * 4+3,none⟩=some (B_ z):=Z;have q:evsW D.Q.ps ⟨20,t,l++[(c:Int)],z⟩=[.line (t++⟨#[40]⟩++Q5_ (l.map (QE_ D.Q.ps))++⟨#[41,32,123]⟩),.all (QC_ D.Q.ps (c:Int)),.line brT]:=by
  have e1:(l++[(c:Int)]).length - 1=l.length:=by simp
  have e2:(l++[(c:Int)]).take l.length=l:=by simp
  have e3:k_ (l++[(c:Int)]) l.length=(c:Int):=by simp[k_]
  show[Wv.line (t++⟨#[40]⟩++Q5_ (((l++[(c:Int)]).take ((l++[(c:Int)]).length - 1)).map (QE_ D.Q.ps))++⟨#[41,32,123]⟩),.all (QC_ D.Q.ps (k_ (l++[(c:Int)]) ((l++[(c:Int)]).length - 1))),.line brT]=_;rw[e1,e2,e3]
 have H:Hid (Wt 104 D f (ZN_ D.Q (f+1) j a s) (W.alloc (C_ #[I_ j_ 20,T_ t,S_ A' (l.length+1) c',B_ z] 96)) a s [.line (t++⟨#[40]⟩++Q5_ (l.map (QE_ D.Q.ps))++⟨#[41,32,123]⟩),.all (QC_ D.Q.ps (c:Int)),.line brT] (W.alloc (C_ #[I_ j_ 20,T_ t,S_ A' (l.length+1) c',B_ z] 96))):=h_ (q ▸ h.wt #[I_ j_ 20,T_ t,S_ A' (l.length+1) c',B_ z]);have M:t.size<=1048576:=(h.K.K.P _ (lm_ h.hx)).1;have G:c < f:=by have:=(HK.o (c:Int) sm_).1;omega
 have C:=h_ (Kb.below (show Below W.heap.size W (W.alloc (C_ #[I_ j_ 20,T_ t,S_ A' (l.length+1) c',B_ z] 96))from grow_));have E:=h_ (fun v (N:v∈l)=>(HK.o v (List.mem_append_left _ N)).1);obtain⟨F,g,rfl⟩:=ZC_ y.o oo;have n:=h_ (Blk.new W 96 #[I_ j_ 20,T_ t,S_ (some ⟨F,g,none⟩) (l.length+1) c',B_ z]);obtain⟨fin,k⟩:=ex_ (ZN_ D.Q (f+1) j a s);rw[k]at H |-
 clear eD L k q;have B:=h_ (fun(W1:World) (hb:Below D.w0.heap.size D.w0 W1)=>Qa0_ D.A (D.Q.m+1) D.c D.Q.ps (some ⟨F,g,none⟩) c' l (c:Int) 20 t z W1 (h.K.P.below hb) h.K.K.P r M (y.o.below hb) p (h_ (fun v N=>by have:=E.o v N;have:=h.K.hf;omega)) oo);clear h;go_enter func104,ntmps104;go_upto_region 1 with fail
 generalize W.alloc (C_ #[I_ j_ 20,T_ t,S_ (some ⟨F,g,none⟩) (l.length+1) c',B_ z] 96)=Wb at *;clear X Y y2 Z o A O P Q R S;have K:=H.o.k.2 _ _ n.o;have x0:=K.q0;have x1:=K.q1;have T:=K.q2;have U:=K.q3;have V:=K.lt;clear K;obtain⟨A,O,P,Q,R,S⟩:=H.o.M.cells;go_upto_region 28 with fail
 go_region_with (first
   |(
    go_at_call 126;refine(B.o _ (by first|exact H.o.M.old|exact Qb_ H.o.M.old br.drew)).mono ?_;rintro e w8 ⟨rfl,h8⟩;have H8:=h_ (H.o.next (show Below Wb.heap.size Wb w8 by first|exact h8|exact br.drew.trans h8)))
   |(
    go_at_call 123;refine Wt.iline hi H8 ?_;intro s1 W1 x))
 all_goals
  clear H x0 x1 T U V A O P Q R S;have K:=x.o.k.2 _ _ n.o;have x0:=K.q0;have x1:=K.q1;have T:=K.q2;have U:=K.q3;have V:=K.lt;clear K;have d:=x.o.M.old;have cv:=QO_ y.o d (i:=l.length) oo (show(l++[(c:Int)])[l.length]? =some (c:Int)by rw[List.getElem?_append_right (lr_ _)];simp);have I:=ZU_ y.o d oo;clear d;go_wp2_with fail
  refine Wt.iblock hi x G ?_;intro s2 W2 H2;clear x x0 x1 T U V cv I;go_wp2_with fail
  refine Wt.iline hi H2 ?_;intro s3 W3 H3;clear H2;go_wp2;go_end0;have h2:=H3.o.end_;exact⟨rfl,h2.1,C.o.trans h2.2⟩
theorem QdG_ {ps:List PN} {l:LI} {i:Nat} {v:Int} (hd:l[i]? =some v) (t:BA):t++⟨#[40]⟩++Q5_ ((l.take (i+1)).map (QE_ ps))=(if i=0 then t++⟨#[40]⟩++Q5_ ((l.take i).map (QE_ ps))else t++⟨#[40]⟩++Q5_ ((l.take i).map (QE_ ps))++⟨#[44,32]⟩)++QE_ ps v:=by
 rw[Gy_ hd];by_cases h0:i=0
 ·subst h0;rw[ip_ rfl];apply VY_;rw[XX_,XX_,XX_,XX_,XX_];show _++(QE_ ps v).data.toList=_++([]:List UInt8)++_;rw[List.append_nil]
 ·rw[in_ h0,kO_ (by intro e;have h7:=congrArg List.length e;rw[List.length_map,List.length_take,List.length_nil]at h7;have:=(gs_.1 hd).1;omega)];apply VY_;simp only[XX_,List.append_assoc]
theorem zd_ {D:WD} (hi:D.imp=false) {f:Nat} {fin s:Ws} {a:Int} {w W:World} {t:BA} {A':OA} {c':Nat} {z:Bool} (l:LI) (n:Nat) (hr:Rd D.w0 1 A' (l.length+1) (Qa_ (l++[(n:Int)]))) (hl:l.length<=11) (S:n < f) (V:Hid (∀v∈l,0<=v/\v < (f:Int))) (ht:t.size<=1048576) (ac:l.length+1<=c')
  (H:Hid (Wt 78 D f fin w a s [.line (t++⟨#[40]⟩++Q5_ (l.map (QE_ D.Q.ps))++⟨#[41,32,123]⟩),.all (QC_ D.Q.ps (n:Int)),.line brT] W)):
  Calls prog 100 #[P_ (some ⟨D.T,0,none⟩),A_ #[I_ j_ 20,T_ t,S_ A' (l.length+1) c',B_ z],I_ j_ a] W (fun e w'=>e=R_ (U_ #[])/\WrM D fin w'/\Kb w w'):=by
 have L:=h_ hr;have ad:=H.o.K.hf;have T:=H.o.K.K.F.few;have J:=h_ H.o.K.P;have N:=h_ H.o.K.K.F.tree.len;have B:=h_ (show ∀k:Int,(QE_ D.Q.ps k).size<=1048576 from fun k=>Yt_ H.o.K.K.P _);have M:=h_ (fun k=>Jj_ (l:=l.map (QE_ D.Q.ps)) (fun t ht=>by obtain⟨u,_,rfl⟩:=List.mem_map.1 ht;exact B.o u) so_ k);obtain⟨P,j,rfl⟩:=ZC_ L.o oo;have m:=h_ (H.o.next (show Below W.heap.size W (W.alloc (C_ #[I_ j_ 20,T_ t,S_ (some ⟨P,j,none⟩) (l.length+1) c',B_ z] 96))from grow_));have y:=h_ (Blk.new W 96 #[I_ j_ 20,T_ t,S_ (some ⟨P,j,none⟩) (l.length+1) c',B_ z]);have o:=h_ (fun(Z:World) (R:Below D.w0.heap.size D.w0 Z) (i:Nat) (v:Int) (hd:(l++[(n:Int)])[i]? =some v)=>QO_ L.o R (by have:=(gs_.1 hd).1;simpa using this) hd);have A:=h_ (fun(Z:World) (R:Below D.w0.heap.size D.w0 Z)=>ZU_ L.o R oo);have q0:¬9223372036854775807 < t.size+1:=oo;have ab:(l.length:Int)+1<=(c':Int):=oo;clear H hr;go_enter func100,ntmps100;go_wp2;go_loopw [6,8] (fun s6 s8 wr=>∃(i:Nat) (c:BA),i<=l.length/\s8=I_ j_ i/\s6=T_ c/\Hid (c=t++⟨#[40]⟩++Q5_ ((l.take i).map (QE_ D.Q.ps)))/\Hid (Wt 78 D f fin w a s [.line (t++⟨#[40]⟩++Q5_ (l.map (QE_ D.Q.ps))++⟨#[41,32,123]⟩),.all (QC_ D.Q.ps (n:Int)),.line brT] wr)/\Hid (Blk wr W.heap.size 96 #[I_ j_ 20,T_ t,S_ (some ⟨P,j,none⟩) (l.length+1) c',B_ z])) (fun _ x _=>l.length - (intOf x).toNat)
 case atStart=>exact⟨0,_,lz_ _,rfl,rfl,h_ (VY_ (by rw[XX_,XX_,XX_];exact(List.append_nil _).symm)),m,y⟩
 case round=>
  clear m y;obtain⟨i,c,ag,rfl,rfl,HO,H,F⟩:=hrel;have ah:c.size<=21048577:=by
   have h1:=M.o i;rw[<-List.map_take]at h1;rw[HO.o,bs_,bs_];show t.size+1+_<=_;omega
  have b:=H.o.M.old;have cl:=A.o wr b;obtain⟨u0,u1,u2,u4,uf,uz⟩:=H.o.M.cells;have K:=F.o;have x1:=K.q1;have x2:=K.q2;have xg:=K.lt;clear K;by_cases h1:i < l.length
  ·obtain⟨v,hd⟩:∃d,l[i]? =some d:=⟨_,List.getElem?_eq_getElem h1⟩;obtain⟨U,ai⟩:=V.o v (lm_ hd);obtain⟨p,rfl⟩:=eo_ U;have E:p < D.Q.m+1:=oo;have Q:=o.o wr b i (p:Int) (by rw[List.getElem?_append_left h1];exact hd);obtain⟨x,X⟩:∃x,D.Q.ps[p]? =some x:=⟨_,gE (by rw[N.o];exact E)⟩;obtain⟨bn,Y,A9,c9,eD,aa,_,yn,_⟩:=GA_ J.o E X b;rw[eD]at u0;have C:=h_ (show QE_ D.Q.ps (p:Int)=x.text by unfold QE_;rw[it_,X7_ X]);have aj:x.text.size<=1048576:=(by rw[<-C.o];exact B.o _);have g:=h_ (QdG_ (ps:=D.Q.ps) hd t);rw[C.o,<-HO.o]at g;have af:(i:Int) < (l.length:Int)+1:=oo;clear hd X eD b;by_cases ae:0 < i
   ·have r:=g.o;rw[in_ oo]at r;have q:=h_ r;have q1:¬9223372036854775807 < c.size+2:=oo;have q2:¬9223372036854775807 < c.size+2+x.text.size:=oo;clear r g;go_upto_region 8 with fail
    go_quiet (fail);go_wp2;have h:Below wr.heap.size wr (wr.drewN nq):=below_drewN br _;go_roundw
    case rel=>exact⟨i+1,_,oo,by go_num,rfl,h_ q.o.symm,h_ (H.o.next h),h_ (F.o.next h)⟩
    case measure=>simp[intOf];omega
   ·obtain rfl:i=0:=oo;have r:=g.o;rw[ip_ rfl]at r;have q:=h_ r;have q2:¬9223372036854775807 < c.size+x.text.size:=oo;clear r g;rw[Nat.add_zero]at Q;go_upto_region 8 with fail
    go_quiet (fail);go_wp2;have h:Below wr.heap.size wr (wr.drewN nq):=below_drewN br _;go_roundw
    case rel=>exact⟨0+1,_,oo,by go_num,rfl,h_ q.o.symm,h_ (H.o.next h),h_ (F.o.next h)⟩
    case measure=>simp[intOf];omega
  ·obtain rfl:i=l.length:=oo;rw[List.take_of_length_le (lr_ _)]at HO;have q3:¬9223372036854775807 < c.size+3:=oo;rw[<-HO.o]at H;have G:=h_ F.o;have Q:=o.o wr b l.length (n:Int) (by rw[List.getElem?_append_right (lr_ _)];simp);have I:=h_ (fun W1 (m:Wt 78 D f fin wr a s [] W1)=>m);have O:=h_ H.o.k;have H0:Hid (Wt 78 D f fin wr a s [.line (c++⟨#[41,32,123]⟩),.all (QC_ D.Q.ps (n:Int)),.line brT] wr):=h_ ⟨H.o.M,H.o.L,H.o.Z,H.o.O,H.o.ha,H.o.K,Kb.refl _⟩;clear H I b;go_wp2_with fail
   refine Wt.sline hi H0 ?_;intro s1 W1 m;have K:=m.o.k.2 _ _ G.o;have x2:=K.q2;have xg:=K.lt;have cl:=A.o W1 m.o.M.old;have Q:=o.o W1 m.o.M.old l.length (n:Int) (by rw[List.getElem?_append_right (lr_ _)];simp);clear K H0;go_wp2_with fail
   refine Wt.sblock hi m S ?_;intro s2 W2 H2;clear m;go_wp2_with fail
   refine Wt.sline hi H2 ?_;intro s3 W3 H3;clear H2;go_wp2;go_end0;have h2:=H3.o.end_;exact⟨rfl,h2.1,O.o.trans h2.2⟩
theorem QhJ_ (D:WD) (hi:D.imp=false) (f j:Nat) (t:BA) (z:Bool) (a:Int) (s:Ws) (W:World) (l:LI) (c:Nat) (h:WIn 78 D f j ⟨20,t,l++[(c:Int)],z⟩ a s W):
  Calls prog 78 #[P_ (some ⟨D.T,0,none⟩),I_ j_ (j:Int),I_ j_ a] W (WrR D (ZN_ D.Q (f+1) j a s) W):=by
 obtain⟨b,off,A',c',eD,k,F,G,y2,I,C,m⟩:=h.at_;have i:(⟨20,t,l++[(c:Int)],z⟩:PN).kids.length=l.length+1:=by show(l++[(c:Int)]).length=_;simp
 rw[i]at y2 C m;obtain⟨u0,u1,u2,u4,uf,uz⟩:=h.hC.cells;rw[eD]at u0;have M:=h.lt;have B:=h.K.K.F.few;obtain⟨J,L⟩:=h.a26;have HK:=h_ h.kids;have HR:=h_ C;have o:l.length<=11:=by have h9:=h.few;rw[i]at h9;omega
 clear i;replace F:W.cell? ⟨b,off+j * 4,none⟩=some (I_ j_ 20):=F;replace G:W.cell? ⟨b,off+j * 4+1,none⟩=some (T_ t):=G;replace I:W.cell? ⟨b,off+j * 4+3,none⟩=some (B_ z):=I;have n:evsW D.Q.ps ⟨20,t,l++[(c:Int)],z⟩=[.line (t++⟨#[40]⟩++Q5_ (l.map (QE_ D.Q.ps))++⟨#[41,32,123]⟩),.all (QC_ D.Q.ps (c:Int)),.line brT]:=by
  have e1:(l++[(c:Int)]).length - 1=l.length:=by simp
  have e2:(l++[(c:Int)]).take l.length=l:=by simp
  have e3:k_ (l++[(c:Int)]) l.length=(c:Int):=by simp[k_]
  show[Wv.line (t++⟨#[40]⟩++Q5_ (((l++[(c:Int)]).take ((l++[(c:Int)]).length - 1)).map (QE_ D.Q.ps))++⟨#[41,32,123]⟩),.all (QC_ D.Q.ps (k_ (l++[(c:Int)]) ((l++[(c:Int)]).length - 1))),.line brT]=_;rw[e1,e2,e3]
 have H:Hid (Wt 78 D f (ZN_ D.Q (f+1) j a s) (W.alloc (C_ #[I_ j_ 20,T_ t,S_ A' (l.length+1) c',B_ z] 96)) a s [.line (t++⟨#[40]⟩++Q5_ (l.map (QE_ D.Q.ps))++⟨#[41,32,123]⟩),.all (QC_ D.Q.ps (c:Int)),.line brT] (W.alloc (C_ #[I_ j_ 20,T_ t,S_ A' (l.length+1) c',B_ z] 96))):=h_ (n ▸ h.wt #[I_ j_ 20,T_ t,S_ A' (l.length+1) c',B_ z]);have E:t.size<=1048576:=(h.K.K.P _ (lm_ h.hx)).1;have A:c < f:=by have:=(HK.o (c:Int) sm_).1;omega
 have q:=h_ (Kb.below (show Below W.heap.size W (W.alloc (C_ #[I_ j_ 20,T_ t,S_ A' (l.length+1) c',B_ z] 96))from grow_));have x:=h_ (fun v (hv:v∈l)=>(HK.o v (List.mem_append_left _ hv)).1);obtain⟨y,d,rfl⟩:=ZC_ HR.o oo;have p:=h_ (Blk.new W 96 #[I_ j_ 20,T_ t,S_ (some ⟨y,d,none⟩) (l.length+1) c',B_ z]);obtain⟨fin,g⟩:=ex_ (ZN_ D.Q (f+1) j a s);rw[g]at H |-
 clear eD C g n;have r:=h_ (fun(W1:World) H=>zd_ (D:=D) hi (fin:=fin) (s:=s) (a:=a) (z:=z) (w:=W.alloc (C_ #[I_ j_ 20,T_ t,S_ (some ⟨y,d,none⟩) (l.length+1) c',B_ z] 96)) (W:=W1) l c HR.o o A (h_ x.o) E m H);clear h;go_enter func78,ntmps78;go_upto_region 1 with fail
 generalize W.alloc (C_ #[I_ j_ 20,T_ t,S_ (some ⟨y,d,none⟩) (l.length+1) c',B_ z] 96)=Wb at *;clear F G y2 I k u0 u1 u2 u4 uf uz;have K:=H.o.k.2 _ _ p.o;have x0:=K.q0;have x1:=K.q1;have x2:=K.q2;have x3:=K.q3;have xg:=K.lt;clear K;go_wp2_with fail
 refine(r.o Wb H).mono ?_;rintro e w1 ⟨rfl,h1⟩;have H1:=h_ h1;clear h1 H x0 x1 x2 x3 xg;go_wp2;go_end0;exact⟨rfl,H1.o.1,q.o.trans H1.o.2⟩
inductive EvW (ps:List PN) (f:Nat) (t:BA):Int->LI->Nat->List Wv->Prop
 |note:EvW ps f t 19 [] 0 [.line t]
 |var0:EvW ps f t 12 [] 0 [.line (⟨#[118,97,114,32]⟩++t++⟨#[59]⟩)]
 |ret0:EvW ps f t 15 [] 0 [.line ⟨#[114,101,116,117,114,110,59]⟩]
 |var1 (q:Nat) (hq:q < f) (hv:QI_ (Qc_ ps (q:Int))):EvW ps f t 12 [(q:Int)] 1 [.val (⟨#[118,97,114,32]⟩++t++⟨#[32,61]⟩) (q:Int) ⟨#[59]⟩]
 |set_ (q:Nat) (hq:q < f) (hv:QI_ (Qc_ ps (q:Int))):EvW ps f t 13 [(q:Int)] 1 [.val (t++⟨#[32,61]⟩) (q:Int) ⟨#[59]⟩]
 |do_ (q:Nat) (hq:q < f) (hv:QI_ (Qc_ ps (q:Int))):EvW ps f t 14 [(q:Int)] 1 [.val ⟨#[]⟩ (q:Int) ⟨#[59]⟩]
 |ret1 (q:Nat) (hq:q < f) (hv:QI_ (Qc_ ps (q:Int))):EvW ps f t 15 [(q:Int)] 1 [.val ⟨#[114,101,116,117,114,110,32]⟩ (q:Int) ⟨#[59]⟩]
 |if2 (q:Nat) (hq:q < f) (hv:QI_ (Qc_ ps (q:Int))) (b:Nat) (hb:b < f):EvW ps f t 16 [(q:Int),(b:Int)] 2 [.val ⟨#[105,102,32,40]⟩ (q:Int) ⟨#[41,32,123]⟩,.all (QC_ ps (b:Int)),.line brT]
 |if3 (q:Nat) (hq:q < f) (hv:QI_ (Qc_ ps (q:Int))) (b:Nat) (hb:b < f) (c:Nat) (hc:c < f):EvW ps f t 16 [(q:Int),(b:Int),(c:Int)] 3 [.val ⟨#[105,102,32,40]⟩ (q:Int) ⟨#[41,32,123]⟩,.all (QC_ ps (b:Int)),.line ⟨#[125,32,101,108,115,101,32,123]⟩,.all (QC_ ps (c:Int)),.line brT]
 |whl (q:Nat) (hq:q < f) (hv:QI_ (Qc_ ps (q:Int))) (b:Nat) (hb:b < f):EvW ps f t 17 [(q:Int),(b:Int)] 2 [.val ⟨#[119,104,105,108,101,32,40]⟩ (q:Int) ⟨#[41,32,123]⟩,.all (QC_ ps (b:Int)),.line brT]
 |cls (l:LI) (hl:l.length<=12):EvW ps f t 21 l l.length [.line (⟨#[99,108,97,115,115,32]⟩++t++⟨#[32,123]⟩),.all l,.line brT]
theorem WIn.ev {F:FuncId} {D:WD} {f j:Nat} {x:PN} {a:Int} {s:Ws} {W:World} (h:WIn F D f j x a s W) (k:x.kind≠20):∃n es,x.kids.length=n/\evsW D.Q.ps x=es/\EvW D.Q.ps f x.text x.kind x.kids n es:=by
 have o:=fun(v:Int) d=>(h.kids v d).1
 have i:=h.few;have hV:=h.form;obtain⟨kd,t,l,z⟩:=x;dsimp only at o i hV k |-
 refine⟨_,_,rfl,rfl,?_⟩;have N:∀v∈l,∃q:Nat,v=(q:Int)/\q < f:=fun v d=>by
  obtain⟨q,rfl⟩:=eo_ (o v d).1;exact⟨q,rfl,by have:=(o _ d).2;omega⟩
 cases hV with
 |note=>exact .note
 |var0=>exact .var0
 |var1 v d=>obtain⟨q,rfl,e⟩:=N v sm_;exact .var1 q e d
 |set_ v d=>obtain⟨q,rfl,e⟩:=N v sm_;exact .set_ q e d
 |do_ v d=>obtain⟨q,rfl,e⟩:=N v sm_;exact .do_ q e d
 |ret0=>exact .ret0
 |ret1 v d=>obtain⟨q,rfl,e⟩:=N v sm_;exact .ret1 q e d
 |if2 v b d hb=>obtain⟨q,rfl,e⟩:=N v sm_;obtain⟨b,rfl,g⟩:=N b sm_;exact .if2 q e d b g
 |if3 v b c d hb hc=>obtain⟨q,rfl,e⟩:=N v sm_;obtain⟨b,rfl,g⟩:=N b sm_;obtain⟨c,rfl,m⟩:=N c sm_;exact .if3 q e d b g c m
 |while_ v b d hb=>obtain⟨q,rfl,e⟩:=N v sm_;obtain⟨b,rfl,g⟩:=N b sm_;exact .whl q e d b g
 |meth l b hn hb=>exact absurd rfl k
 |cls l hl=>exact .cls l i
theorem Qio_ (D:WD) (hi:D.imp=true) (f j:Nat) (kd:Int) (t:BA) (l:LI) (z:Bool) (a:Int) (s:Ws) (W:World) (h:WIn 104 D f j ⟨kd,t,l,z⟩ a s W) (p:kd≠20):
  Calls prog 104 #[P_ (some ⟨D.T,0,none⟩),I_ j_ (j:Int),I_ j_ a] W (WrR D (ZN_ D.Q (f+1) j a s) W):=by
 obtain⟨b,off,A',c',eD,q,y0,y1,E,y3,x,I⟩:=h.at_;obtain⟨u0,u1,u2,u4,uf,uz⟩:=h.hC.cells;rw[eD]at u0;have J:=h.lt;have C:=h.K.K.F.few;obtain⟨F,G⟩:=h.a26;obtain⟨n,es,hn,r,hE⟩:=h.ev p;rw[hn]at E x;dsimp only at y0 y1 E y3 x hE;have c:=h_ x;have v:=h_ (h.wt #[I_ j_ kd,T_ t,S_ A' n c',B_ z]);rw[r]at v;have L:t.size<=1048576:=(h.K.K.P _ (lm_ h.hx)).1;have o:=h_ (Kb.below (show Below W.heap.size W (W.alloc (C_ #[I_ j_ kd,T_ t,S_ A' n c',B_ z] 96))from grow_));have m:=h_ (Blk.new W 96 #[I_ j_ kd,T_ t,S_ A' n c',B_ z]);obtain⟨fin,d⟩:=ex_ (ZN_ D.Q (f+1) j a s);rw[d]at v |-
 have q1:¬9223372036854775807 < 6+t.size:=oo;have q2:¬9223372036854775807 < 6+t.size+2:=oo;have q3:¬9223372036854775807 < 4+t.size:=oo;have q4:¬9223372036854775807 < 4+t.size+1:=oo;have q5:¬9223372036854775807 < 4+t.size+2:=oo;have q6:¬9223372036854775807 < t.size+2:=oo;clear h eD x d hn r p
 cases hE
 all_goals
  first|obtain⟨b5,e,rfl⟩:=ZC_ (n:=1) c.o dc_|obtain⟨b5,e,rfl⟩:=ZC_ (n:=2) c.o dc_|obtain⟨b5,e,rfl⟩:=ZC_ (n:=3) c.o dc_|skip
  go_enter func104,ntmps104;go_upto_region 1 with fail
  generalize W.alloc (C_ _ 96)=Wb at *;have H:=v;clear v y0 y1 E y3 q u0 u1 u2 u4 uf uz;have K:=H.o.k.2 _ _ m.o;have x0:=K.q0;have x1:=K.q1;have x2:=K.q2;have x3:=K.q3;have xg:=K.lt;clear K
  try (have g:=QO_ c.o H.o.M.old (i:=0) sm_ rfl;rw[Nat.add_zero]at g;have B:=ZU_ c.o H.o.M.old sm_)
  try (have y:=QO_ c.o H.o.M.old (i:=1) sm_ rfl)
  try (have A:=QO_ c.o H.o.M.old (i:=2) sm_ rfl)
  repeat (
     go_wp2_with fail
     first
     |(go_at_call 123;refine Wt.iline hi H ?_)
     |(go_at_call 124;refine Wt.ival hi H (by assumption) (by assumption) ?_)
     |(go_at_call 125;refine Wt.iblock hi H (by assumption) ?_)
     |(go_at_call 81;refine Wt.iall hi H c.o (by assumption) ?_)
     intro s1 W1 k;clear H x0 x1 x2 x3 xg;have H:=k;clear k;have K:=H.o.k.2 _ _ m.o;have x0:=K.q0;have x1:=K.q1;have x2:=K.q2;have x3:=K.q3;have xg:=K.lt;clear K
     try (have g:=QO_ c.o H.o.M.old (i:=0) sm_ rfl;rw[Nat.add_zero]at g;have B:=ZU_ c.o H.o.M.old sm_)
     try (have y:=QO_ c.o H.o.M.old (i:=1) sm_ rfl)
     try (have A:=QO_ c.o H.o.M.old (i:=2) sm_ rfl))
  first
  |(
   go_wp2;go_end0;exact⟨rfl,H.o.end_.1,o.o.trans H.o.end_.2⟩)
  |(
   go_wp2_with fail
   go_region_with (go_at_call 124;refine Wt.ival hi (h_ (H.o.next (by first|exact br|exact br.drew))) (by assumption) (by assumption) ?_;intro s1 W1 k)
   all_goals
    go_wp2;go_end0;exact⟨rfl,k.o.end_.1,o.o.trans k.o.end_.2⟩)
theorem Qiy_ (D:WD) (hi:D.imp=false) (f j:Nat) (kd:Int) (t:BA) (l:LI) (z:Bool) (a:Int) (s:Ws) (W:World) (h:WIn 78 D f j ⟨kd,t,l,z⟩ a s W) (m:kd≠20):
  Calls prog 78 #[P_ (some ⟨D.T,0,none⟩),I_ j_ (j:Int),I_ j_ a] W (WrR D (ZN_ D.Q (f+1) j a s) W):=by
 obtain⟨b,off,A',c',eD,o,y0,y1,C,y3,r,G⟩:=h.at_;obtain⟨u0,u1,u2,u4,uf,uz⟩:=h.hC.cells;rw[eD]at u0;have I:=h.lt;have B:=h.K.K.F.few;obtain⟨E,F⟩:=h.a26;obtain⟨n,es,hn,p,hE⟩:=h.ev m;rw[hn]at C r;dsimp only at y0 y1 C y3 r hE;have c:=h_ r;have q:=h_ (h.wt #[I_ j_ kd,T_ t,S_ A' n c',B_ z]);rw[p]at q;have J:t.size<=1048576:=(h.K.K.P _ (lm_ h.hx)).1;have v:=h_ (Kb.below (show Below W.heap.size W (W.alloc (C_ #[I_ j_ kd,T_ t,S_ A' n c',B_ z] 96))from grow_));have k:=h_ (Blk.new W 96 #[I_ j_ kd,T_ t,S_ A' n c',B_ z]);obtain⟨fin,d⟩:=ex_ (ZN_ D.Q (f+1) j a s);rw[d]at q |-
 have q1:¬9223372036854775807 < 6+t.size:=oo;have q2:¬9223372036854775807 < 6+t.size+2:=oo;have q3:¬9223372036854775807 < 4+t.size:=oo;have q4:¬9223372036854775807 < 4+t.size+1:=oo;have q5:¬9223372036854775807 < 4+t.size+2:=oo;have q6:¬9223372036854775807 < t.size+2:=oo;clear h eD r d hn p m
 cases hE
 all_goals
  first|obtain⟨b5,e,rfl⟩:=ZC_ (n:=1) c.o dc_|obtain⟨b5,e,rfl⟩:=ZC_ (n:=2) c.o dc_|obtain⟨b5,e,rfl⟩:=ZC_ (n:=3) c.o dc_|skip
  go_enter func78,ntmps78;go_upto_region 1 with fail
  generalize W.alloc (C_ _ 96)=Wb at *;have H:=q;clear q y0 y1 C y3 o u0 u1 u2 u4 uf uz;have K:=H.o.k.2 _ _ k.o;have x0:=K.q0;have x1:=K.q1;have x2:=K.q2;have x3:=K.q3;have xg:=K.lt;clear K
  try (have g:=QO_ c.o H.o.M.old (i:=0) sm_ rfl;rw[Nat.add_zero]at g;have A:=ZU_ c.o H.o.M.old sm_)
  try (have x:=QO_ c.o H.o.M.old (i:=1) sm_ rfl)
  try (have y:=QO_ c.o H.o.M.old (i:=2) sm_ rfl)
  repeat (
    go_wp2_with fail
    first
    |(go_at_call 97;with_reducible refine Wt.told0 hi c.o H ?_)
    |(go_at_call 97;with_reducible refine Wt.told1 hi c.o H (by assumption) (by assumption) ?_)
    |(go_at_call 96;refine Wt.sline hi H ?_)
    |(go_at_call 98;refine Wt.sval hi H (by assumption) (by assumption) ?_)
    |(go_at_call 99;refine Wt.sblock hi H (by assumption) ?_)
    |(go_at_call 56;refine Wt.sall hi H c.o (by assumption) ?_)
    intro s1 W1 H1;clear H x0 x1 x2 x3 xg;have H:=H1;clear H1;have K:=H.o.k.2 _ _ k.o;have x0:=K.q0;have x1:=K.q1;have x2:=K.q2;have x3:=K.q3;have xg:=K.lt;clear K
    try (have g:=QO_ c.o H.o.M.old (i:=0) sm_ rfl;rw[Nat.add_zero]at g;have A:=ZU_ c.o H.o.M.old sm_)
    try (have x:=QO_ c.o H.o.M.old (i:=1) sm_ rfl)
    try (have y:=QO_ c.o H.o.M.old (i:=2) sm_ rfl))
  go_wp2;go_end0;exact⟨rfl,H.o.end_.1,v.o.trans H.o.end_.2⟩
theorem Qc5_ (D:WD) (hi:D.imp=true) (d:Wk D.Q) (hP:Nps D.w0 D.A (D.Q.m+1) D.Q.ps) (hB:0<=D.Q.budget/\D.Q.budget<=100000):∀f,f<=D.Q.m+1->WK 104 D f:=by
 intro f
 induction f with
 |zero=>intro e;exact⟨fun j a s W hj=>oo,d,hP,hB,e⟩
 |succ f ih=>
  intro e;have K:=ih oo;refine⟨fun j a s W hj hs ha hz hC=>?_,d,hP,hB,e⟩;obtain⟨x,hx⟩:∃x,D.Q.ps[j]? =some x:=⟨_,gE (by rw[d.F.tree.len];omega)⟩;rw[Qr_ hx]at hs;have h:WIn 104 D f j x a s W:=⟨K,hx,hj,hs,ha,hz,hC⟩;obtain⟨kd,t,l,z⟩:=x;by_cases c:kd=20
  ·subst c;have hV:StF D.Q.ps 20 l:=h.form;have hk:=fun(v:Int) hv=>((h.kids v hv).1.1:(0:Int)<=v)
   cases hV with
   |meth l b hn hb=>obtain⟨b1,rfl⟩:=eo_ (hk b sm_);exact Qhb_ D hi f j t z a s W l b1 h
  ·exact Qio_ D hi f j kd t l z a s W h c
theorem Qd8_ (D:WD) (hi:D.imp=false) (d:Wk D.Q) (hP:Nps D.w0 D.A (D.Q.m+1) D.Q.ps) (hB:0<=D.Q.budget/\D.Q.budget<=100000):∀f,f<=D.Q.m+1->WK 78 D f:=by
 intro f
 induction f with
 |zero=>intro e;exact⟨fun j a s W hj=>oo,d,hP,hB,e⟩
 |succ f ih=>
  intro e;have K:=ih oo;refine⟨fun j a s W hj hs ha hz hC=>?_,d,hP,hB,e⟩;obtain⟨x,hx⟩:∃x,D.Q.ps[j]? =some x:=⟨_,gE (by rw[d.F.tree.len];omega)⟩;rw[Qr_ hx]at hs;have h:WIn 78 D f j x a s W:=⟨K,hx,hj,hs,ha,hz,hC⟩;obtain⟨kd,t,l,z⟩:=x;by_cases c:kd=20
  ·subst c;have hV:StF D.Q.ps 20 l:=h.form;have hk:=fun(v:Int) hv=>((h.kids v hv).1.1:(0:Int)<=v)
   cases hV with
   |meth l b hn hb=>obtain⟨b1,rfl⟩:=eo_ (hk b sm_);exact QhJ_ D hi f j t z a s W l b1 h
  ·exact Qiy_ D hi f j kd t l z a s W h c
def Go_ (ps:List PN) (width a:Int):Ws:=if Yb_ ps=true then Ja_ ⟨ps,ps.length - 1,width,a⟩else ([],0)
theorem zt_ {F:FuncId} {D:WD} (a:WK F D (D.Q.m+1)) {W:World} (hM:WrM D ([],1) W):Mt F D (D.Q.m+1) (Ja_ D.Q) W 0 (QC_ D.Q.ps (D.Q.m:Int)) 0 ([],1) W:=by
 obtain⟨x,b,f,_,_⟩:=a.K.F.root;have d:=a.K.F.tree.good;have e:QC_ D.Q.ps (D.Q.m:Int)=x.kids:=Gs_ b;have c:=Vz_ d b;have hr:Kk_ D.Q.ps D.Q.m=D.Q.m+1:=xW_ d a.K.F.tree.len a.K.F.tree.used;have i:=(d _ _ b).1;have h:=a.K.F.few;have hd:=X1_ a.K.D (show D.Q.m < D.Q.m+1 from oo) b;have g:=zs_ (a.K.F.node D.Q.m oo) b f;refine⟨hM,by rw[List.drop_zero];rfl,?_,?_,Int.le_refl _,a,Kb.refl _⟩
 ·rw[List.drop_zero,e];show 0+(x.kids.length+Kv_ (Kk_ D.Q.ps) x.kids * 2100000)<=632000000;omega
 ·intro v c;rw[e]at c;have h1:=(d _ _ b).2 v c;have h2:=hd.2 v c oo;exact⟨oo,g v c,oo⟩
theorem QaC_ {D:WD} {A:OA} {c:Nat} {w:World} (hb:Blk w D.T (wty D.imp) (q7_ D (S_ A 0 c) 1)) (hm:Mine w D.w0.heap.size 9 1 A 0 c []) (hT:D.w0.heap.size<=D.T) (ho:Below D.w0.heap.size D.w0 w):WrM D ([],1) w:=⟨A,c,hb,hm,hT,ho⟩
theorem Gr_ (A:OA) (n c:Nat) (ps:List PN) (width a:Int) (w:World) (hn:n<=300) (t:Nps w A n ps) (hp:Hid (PNs ps)) (hB:0<=a/\a<=100000) (L:Yb_ ps=true):
  Calls prog 59 #[S_ A n c,I_ j_ width,I_ j_ a] w (QgF_ (Go_ ps width a) w):=by
 have HT:=h_ (fun(W:World) (h:Nps W A n ps)=>by have h:=V4_ A n c ps W oo h hp;rwa[L]at h);have r:Below w.heap.size w (w.alloc (C_ #[S_ none 0 0,I_ j_ 0] 61)):=Ql_ br;have B:=h_ r;have k:=h_ (t.next r);have G:=h_ (Blk.new w 61 #[S_ none 0 0,I_ j_ 0]);obtain⟨m,y,hD⟩:=qi_ L;have j:=t.len;rw[y.tree.len]at j;subst j;have hE:Go_ ps width a=Ja_ ⟨ps,m,width,a⟩:=by unfold Go_;rw[ip_ L,y.tree.len];rfl
 rw[hE];have hK:Wk ⟨ps,m,width,a⟩:=⟨y,hp.o,hD⟩;obtain⟨x,M,_⟩:=y.root;have S:=(y.tree.good _ _ M).1;have l:=h_ (fun(w1:World) (hN:Nps w1 A (m+1) ps)=>show ∃b off A' c',A=some ⟨b,off,none⟩/\b < w1.heap.size/\w1.cell? ⟨b,off+m * 4+2,none⟩=some (S_ A' x.kids.length c')/\Calls prog 81 #[P_ (some ⟨w1.heap.size,0,none⟩),S_ A' x.kids.length c',I_ j_ 0] (w1.alloc (C_ #[S_ A (m+1) c,I_ j_ width,I_ j_ a,S_ none 0 0,I_ j_ 1] 119)) (WrR ⟨true,w1.heap.size,A,c,⟨ps,m,width,a⟩,w1⟩ (Ja_ ⟨ps,m,width,a⟩) (w1.alloc (C_ #[S_ A (m+1) c,I_ j_ width,I_ j_ a,S_ none 0 0,I_ j_ 1] 119)))from by
  obtain⟨b,off,A',c',e,s,_,_,P,_,T,hr⟩:=hN.atc (show m < m+1 from oo) M;refine⟨b,off,A',c',e,s,P,?_⟩;have J:=Qc5_ ⟨true,w1.heap.size,A,c,⟨ps,m,width,a⟩,w1⟩ rfl hK hN hB (m+1) (lr_ _);have I:=zt_ (D:=⟨true,w1.heap.size,A,c,⟨ps,m,width,a⟩,w1⟩) J (QaC_ (D:=⟨true,w1.heap.size,A,c,⟨ps,m,width,a⟩,w1⟩) (Blk.new w1 119 _) (Mine.mk_nil _ _ _ _) (lr_ _) (Ql_ br));rw[show QC_ ps (m:Int)=x.kids from Gs_ M]at I;exact Jh_ ⟨true,w1.heap.size,A,c,⟨ps,m,width,a⟩,w1⟩ rfl J _ ([],1) 0 A' x.kids.length c' x.kids _ rfl oo hr I)
 obtain⟨fin,i⟩:=ex_ (Ja_ ⟨ps,m,width,a⟩);rw[i]at l |-
 clear r t L hE hK M y hD i;go_enter func59,ntmps59;go_wp2_with fail
 refine(HT.o _ k.o).mono ?_;rintro e w1 ⟨rfl,K⟩;have C:=h_ (Qb_ B.o K);have o:=h_ (G.o.next K);obtain⟨b,off,A',c',rfl,s,P,H⟩:=l.o w1 (k.o.next K);have z:=h_ H;have U:=o.o.lt;clear K B k G HT l H;go_wp2_with fail
 refine z.o.mono ?_;rintro e v ⟨rfl,⟨f,g,hA⟩,hk⟩;have HA:=h_ hA;have d:=h_ (o.o.next (show Below w1.heap.size w1 v from hA.old));have E:=h_ (Qb_ C.o (show Below w1.heap.size w1 v from hA.old));have x3:v.cell? ⟨w1.heap.size,3,none⟩=some (S_ f fin.1.length g):=hA.blk.cell 3;have x4:v.cell? ⟨w1.heap.size,4,none⟩=some (I_ j_ fin.2):=hA.blk.cell 4;have xz:w1.heap.size < v.heap.size:=hA.blk.lt;have Q:=d.o.q0;have R:=d.o.q1;have zf:=d.o.frozen;have zz:=d.o.lt;clear hA hk z o s P;have F:=h_ (show Mine v w.heap.size 9 1 f fin.1.length g (Qm_ fin.1)from HA.o.row.more C.o.size);go_wp2;have q:=h_ ((d.o.set_ 0 (S_ f fin.1.length g)).set_ 1 (I_ j_ fin.2));have O:=h_ (Qt_ (Qt_ F.o d.o dc_ 0 (S_ f fin.1.length g)) (d.o.set_ 0 (S_ f fin.1.length g)) dc_ 1 (I_ j_ fin.2));have N:=h_ ((E.o.setCell (p:=⟨w.heap.size,0,none⟩) (lr_ _) (S_ f fin.1.length g)).setCell (p:=⟨w.heap.size,1,none⟩) (lr_ _) (I_ j_ fin.2));clear Q R zf zz x3 x4 xz d F E HA;generalize (v.setCell ⟨w.heap.size,0,none⟩ (S_ f fin.1.length g)).setCell ⟨w.heap.size,1,none⟩ (I_ j_ fin.2)=W9 at *;have Q:W9.cell? ⟨w.heap.size,0,none⟩=some (S_ f fin.1.length g):=q.o.cell 0;have R:W9.cell? ⟨w.heap.size,1,none⟩=some (I_ j_ fin.2):=q.o.cell 1;have zz:=q.o.lt;refine bodyPost_ret (by simp[results,Tryz.results59,go_sem,Q,R];try rfl) rfl ?_;exact⟨f,g,rfl,O.o,N.o⟩
theorem GH_ (A:OA) (n c:Nat) (ps:List PN) (width a:Int) (w:World) (hn:n<=300) (t:Nps w A n ps) (hp:Hid (PNs ps)) (hB:0<=a/\a<=100000) (O:Yb_ ps=true):
  Calls prog 36 #[S_ A n c,I_ j_ width,I_ j_ a] w (QgF_ (Go_ ps width a) w):=by
 have HT:=h_ (fun(W:World) (h:Nps W A n ps)=>by have h:=X9_ A n c ps W oo h hp;rwa[O]at h);have r:Below w.heap.size w (w.alloc (C_ #[S_ none 0 0,I_ j_ 0] 61)):=Ql_ br;have B:=h_ r;have k:=h_ (t.next r);have G:=h_ (Blk.new w 61 #[S_ none 0 0,I_ j_ 0]);obtain⟨m,y,hD⟩:=qi_ O;have j:=t.len;rw[y.tree.len]at j;subst j;have hE:Go_ ps width a=Ja_ ⟨ps,m,width,a⟩:=by unfold Go_;rw[ip_ O,y.tree.len];rfl
 rw[hE];have hK:Wk ⟨ps,m,width,a⟩:=⟨y,hp.o,hD⟩;obtain⟨x,P,_⟩:=y.root;have U:=(y.tree.good _ _ P).1;have l:=h_ (fun(w1:World) (hN:Nps w1 A (m+1) ps)=>show ∃b off A' c',A=some ⟨b,off,none⟩/\b < w1.heap.size/\w1.cell? ⟨b,off+m * 4+2,none⟩=some (S_ A' x.kids.length c')/\Calls prog 56 #[P_ (some ⟨w1.heap.size+1,0,none⟩),S_ A' x.kids.length c',I_ j_ 0] ((w1.alloc (C_ #[] 9)).alloc (C_ #[S_ A (m+1) c,I_ j_ width,I_ j_ a,S_ (some ⟨w1.heap.size,0,none⟩) 0 0,I_ j_ 1] 93)) (WrR ⟨false,w1.heap.size+1,A,c,⟨ps,m,width,a⟩,w1⟩ (Ja_ ⟨ps,m,width,a⟩) ((w1.alloc (C_ #[] 9)).alloc (C_ #[S_ A (m+1) c,I_ j_ width,I_ j_ a,S_ (some ⟨w1.heap.size,0,none⟩) 0 0,I_ j_ 1] 93)))from by
  obtain⟨b,off,A',c',e,s,_,_,T,_,V,hr⟩:=hN.atc (show m < m+1 from oo) P;refine⟨b,off,A',c',e,s,T,?_⟩;have K:=Qd8_ ⟨false,w1.heap.size+1,A,c,⟨ps,m,width,a⟩,w1⟩ rfl hK hN hB (m+1) (lr_ _);have J:=zt_ (D:=⟨false,w1.heap.size+1,A,c,⟨ps,m,width,a⟩,w1⟩) K (QaC_ (D:=⟨false,w1.heap.size+1,A,c,⟨ps,m,width,a⟩,w1⟩) (by have h:=Blk.new (w1.alloc (C_ #[] 9)) 93 (q7_ ⟨false,w1.heap.size+1,A,c,⟨ps,m,width,a⟩,w1⟩ (S_ (some ⟨w1.heap.size,0,none⟩) 0 0) 1);rwa[ws_]at h) (Mine.alloc (ZA_ w1 9 1) _) (by show w1.heap.size<=w1.heap.size+1;omega) (by show Below w1.heap.size w1 _;exact grow_));rw[show QC_ ps (m:Int)=x.kids from Gs_ P]at J;exact Vv_ ⟨false,w1.heap.size+1,A,c,⟨ps,m,width,a⟩,w1⟩ rfl K _ ([],1) 0 A' x.kids.length c' x.kids _ rfl oo hr J)
 obtain⟨fin,i⟩:=ex_ (Ja_ ⟨ps,m,width,a⟩);rw[i]at l |-
 clear r t O hE hK P y hD i;go_enter func36,ntmps36;go_wp2_with fail
 refine(HT.o _ k.o).mono ?_;rintro e w1 ⟨rfl,N⟩;have C:=h_ (Qb_ B.o N);have o:=h_ (G.o.next N);obtain⟨b,off,A',c',rfl,s,T,I⟩:=l.o w1 (k.o.next N);have z:=h_ I;have X:=o.o.lt;clear N B k G HT l I;go_wp2_with fail
 refine z.o.mono ?_;rintro e v ⟨rfl,⟨f,g,hA⟩,hk⟩;have HA:=h_ hA;have d:=h_ (o.o.next (show Below w1.heap.size w1 v from hA.old));have E:=h_ (Qb_ C.o (show Below w1.heap.size w1 v from hA.old));have x3:v.cell? ⟨w1.heap.size+1,3,none⟩=some (S_ f fin.1.length g):=hA.blk.cell 3;have x4:v.cell? ⟨w1.heap.size+1,4,none⟩=some (I_ j_ fin.2):=hA.blk.cell 4;have xz:w1.heap.size+1 < v.heap.size:=hA.blk.lt;have L:=d.o.q0;have M:=d.o.q1;have zf:=d.o.frozen;have Q:=d.o.lt;clear hA hk z o s T;have F:=h_ (show Mine v w.heap.size 9 1 f fin.1.length g (Qm_ fin.1)from HA.o.row.more C.o.size);go_upto_region 5 with fail
 go_still_tail 9,nr_;go_wp2;have q:=h_ ((d.o.set_ 0 (S_ f fin.1.length g)).set_ 1 (I_ j_ fin.2));have S:=h_ (Qt_ (Qt_ F.o d.o dc_ 0 (S_ f fin.1.length g)) (d.o.set_ 0 (S_ f fin.1.length g)) dc_ 1 (I_ j_ fin.2));have R:=h_ ((E.o.setCell (p:=⟨w.heap.size,0,none⟩) (lr_ _) (S_ f fin.1.length g)).setCell (p:=⟨w.heap.size,1,none⟩) (lr_ _) (I_ j_ fin.2));clear L M zf Q x3 x4 xz d F E HA;generalize (v.setCell ⟨w.heap.size,0,none⟩ (S_ f fin.1.length g)).setCell ⟨w.heap.size,1,none⟩ (I_ j_ fin.2)=H at *;have L:H.cell? ⟨w.heap.size,0,none⟩=some (S_ f fin.1.length g):=q.o.cell 0;have M:H.cell? ⟨w.heap.size,1,none⟩=some (I_ j_ fin.2):=q.o.cell 1;have Q:=q.o.lt;have L:H.drew.cell? ⟨w.heap.size,0,none⟩=some (S_ f fin.1.length g):=L;have M:H.drew.cell? ⟨w.heap.size,1,none⟩=some (I_ j_ fin.2):=M;have Q:w.heap.size < H.drew.heap.size:=Q;refine bodyPost_ret (by simp[results,Tryz.results36,go_sem,L,M];try rfl) rfl ?_;exact⟨f,g,rfl,S.o,R.o.drew⟩
def Wb_ (l:List BA):BA:=⟨(Jk_ l).toArray⟩
theorem kQ_ (l:List BA):(Jk_ l).length=szL l:=by
 induction l with
 |nil=>rfl
 |cons s l ih=>show(s.data.toList++[10]++Jk_ l).length=_;rw[lA,lA,ih,VP_,QF_];rfl
theorem zA_ (l:List BA):(Wb_ l).size=szL l:=by rw[<-kQ_,<-QF_];rfl
theorem zy_ {l:List BA} {k:Nat} {x:BA} (h:l[k]? =some x):Jk_ (l.take (k+1))=Jk_ (l.take k)++x.data.toList++[10]:=by
 unfold Jk_;rw[List.take_add_one,h];simp
theorem kP_ {l:List BA} {k:Nat} (h:l.length<=k):Jk_ (l.take k)=Jk_ l:=by rw[List.take_of_length_le h]
theorem zz_ (l:List BA) (k:Nat):(Jk_ (l.take k)).length<=szL l:=by
 rw[kQ_];have h:=Qez_ (l.take k) (l.drop k);rw[List.take_append_drop]at h;omega
theorem xy_ (A:OA) (n c:Nat) (l:List BA) (w:World) (hl:l.length=n) (hr:Rd w 1 A n (Qm_ l)) (hz:szL l<=632000000):
  Calls prog 37 #[S_ A n c] w (RB_ (T_ (Wb_ l)) w):=by
 have HR:=h_ hr;have HL:=h_ hl;have HZ:=h_ (fun k=>lt_ (zz_ l k) hz);have hn:n<=632000000:=by have:=Ya_ l;omega
 clear hr hl hz;go_enter func37,ntmps37;go_wp2
 go_loop [3,4] (fun s i=>∃(k:Nat) (a:BA),k<=n/\i=I_ j_ k/\s=T_ a/\Hid (a.data.toList=Jk_ (l.take k))) (fun _ i=>n - (intOf i).toNat)
 case atStart=>exact⟨0,⟨#[]⟩,lz_ _,rfl,rfl,h_ rfl⟩
 case round=>
  obtain⟨k,a,hk,rfl,rfl,HO⟩:=hrel;by_cases f:k < n
  ·obtain⟨x,g⟩:∃x,l[k]? =some x:=⟨_,gE (by rw[HL.o];exact f)⟩;obtain⟨b,off,rfl,h,cx⟩:=Ud_ HR.o f g;have d:=h_ (zy_ g);have h1:=HZ.o (k+1);have h2:(Jk_ (l.take (k+1))).length=a.size+x.size+1:=(by rw[d.o,lA,lA,<-HO.o,QF_,QF_];rfl);have q1:¬9223372036854775807 < a.size+x.size:=oo;have q2:¬9223372036854775807 < a.size+x.size+1:=oo;clear g h1 h2;go_wp2
   go_round
   case rel=>exact⟨k+1,_,oo,by go_num,rfl,h_ (by rw[d.o,XX_,XX_,HO.o])⟩
   case measure=>simp[intOf];omega
  ·obtain rfl:k=n:=oo;have HE:=h_ (show a=Wb_ l from VY_ (by rw[HO.o,kP_ (Nat.le_of_eq HL.o)];rfl));go_wp2;go_ret;exact⟨Xn_ HE.o,br⟩
theorem kC_ (A:OA) (n c:Nat) (l:List BA) (w:World) (hl:l.length=n) (hr:Rd w 1 A n (Qm_ l)) (hz:szL l<=632000000):
  Calls prog 60 #[S_ A n c] w (RB_ (T_ (Wb_ l)) w):=by
 have HR:=h_ hr;have HL:=h_ hl;have HZ:=h_ (fun k=>lt_ (zz_ l k) hz);have hn:n<=632000000:=by have:=Ya_ l;omega
 have a:=h_ (show Below w.heap.size w (w.alloc (C_ #[P_ none,S_ none 0 0] 122))from Ql_ br);have f:=h_ (Bld.fresh w (lr_ w.heap.size));clear hr hl hz;go_enter func60,ntmps60;go_wp2;go_loopw [8] (fun i wr=>∃k:Nat,k<=n/\i=I_ j_ k/\Hid (Bld wr w.heap.size w.heap.size (Jk_ (l.take k)))/\Hid (Below w.heap.size w wr)) (fun i _=>n - (intOf i).toNat)
 case atStart=>exact⟨0,lz_ _,rfl,f,a⟩
 case round=>
  clear f a;obtain⟨k,hk,rfl,HD,p⟩:=hrel;have m:=p.o.size;by_cases o:k < n
  ·obtain⟨x,y⟩:∃x,l[k]? =some x:=⟨_,gE (by rw[HL.o];exact o)⟩;obtain⟨b,off,rfl,z,cx⟩:=Ud_ (HR.o.next p.o) o y;have g:=h_ (zy_ y);have h1:=HZ.o (k+1);have h2:(Jk_ (l.take (k+1))).length=(Jk_ (l.take k)).length+x.size+1:=(by rw[g.o,lA,lA,QF_];rfl);clear y;go_wp2_with fail
   refine(vz_ w.heap.size w.heap.size _ x wr HD.o oo m).mono ?_;rintro e w3 ⟨rfl,h3,h,_⟩;have d:=h_ (p.o.trans h);have s:=h_ h3;clear h3 h;go_wp2_with fail
   refine(QgM_ w.heap.size w.heap.size _ 10 w3 s.o (by rw[lA,QF_];omega) d.o.size).mono ?_;rintro e w4 ⟨rfl,h4,j,_⟩;have q:=h_ (d.o.trans j);have t:Hid (Bld w4 w.heap.size w.heap.size (Jk_ (l.take (k+1)))):=h_ (by rw[g.o];exact h4);clear h4 j;go_wp2;go_roundw
   case rel=>exact⟨k+1,oo,by go_num,t,q⟩
   case measure=>simp[intOf];omega
  ·obtain rfl:k=n:=oo;have HE:=h_ (kP_ (l:=l) (k:=k) (Nat.le_of_eq HL.o));go_wp2_with fail
   refine(Qcx_ w.heap.size w.heap.size _ wr HD.o m).mono ?_;rintro e w5 ⟨rfl,v⟩;have r:=h_ (p.o.trans v);go_wp2;go_ret;exact⟨Xn_ (by rw[HE.o];rfl),r.o⟩
def outV (r:Ws):BA × Int × Int:=if 3000 < (Wb_ r.1).size then (⟨#[]⟩,0,3)else (Wb_ r.1,r.2,0)
def Uj_ (t:BA) (width a:Int):BA × Int × Int:=
 if qL_ width a=false then (⟨#[]⟩,0,2)else match Y5_ t with|none=>(⟨#[]⟩,0,1)|some ps=>outV (Go_ ps width a)
def FmtR (r:BA × Int × Int) (w:World) (e:Ending) (w':World):Prop:=∃p:Int,e=R_ (U_ #[T_ r.1,I_ j_ p,I_ j_ r.2.2])/\(r.2.2≠1->p=r.2.1)/\Below w.heap.size w w'
theorem UZ_ (t:BA) (width a:Int):(Uj_ t width a).1.size<=3000:=by
 unfold Uj_ outV;split
 ·exact lz_ _
 ·split
  ·exact lz_ _
  ·split
   ·exact lz_ _
   ·show(Wb_ _).size<=3000;omega
theorem Qcd_ {Q:Wp} (a:Wk Q):szL (Ja_ Q).1<=632000000:=by
 obtain⟨x,b,f,_,_⟩:=a.F.root;have e:QC_ Q.ps (Q.m:Int)=x.kids:=Gs_ b;have c:=a.F.tree.good;have d:=Vz_ c b;have hr:Kk_ Q.ps Q.m=Q.m+1:=xW_ c a.F.tree.len a.F.tree.used;have j:=(c _ _ b).1;have i:=a.F.few;have hd:=X1_ a.D (show Q.m < Q.m+1 from oo) b;have g:=zs_ (a.F.node Q.m oo) b f;have h0:szL (([]:List BA),(1:Int)).1=0:=rfl;have h:=xa_ (Wq_ a (Q.m+1) (lr_ _)) (Int.le_refl 0) x.kids ([],1) (fun v d=>by
  have h1:=(c _ _ b).2 v d;have h2:=hd.2 v d oo;exact⟨oo,g v d,oo⟩) oo
 unfold Ja_;rw[e];omega
theorem ku_ {ps:List PN} (hp:PNs ps) (width a:Int):szL (Go_ ps width a).1<=632000000:=by
 unfold Go_;split
 ·rename_i ht;obtain⟨m,hF,hD⟩:=qi_ ht;rw[show ps.length - 1=m by rw[hF.tree.len];rfl];exact Qcd_ (Q:=⟨ps,m,width,a⟩) ⟨hF,hp,hD⟩
 ·exact lz_ _
theorem Qgs_ {r:Ws} {z:Bool} (h:decide (3000 < (Wb_ r.1).size)=z):outV r=if z=true then (⟨#[]⟩,0,3)else (Wb_ r.1,r.2,0):=by
 subst h;unfold outV;simp only[decide_eq_true_eq]
theorem zc_ (t:BA) (width a:Int) (w:World) (ht:t.size<=1048576):Calls prog 20 #[T_ t,I_ j_ width,I_ j_ a] w (FmtR (Uj_ t width a) w):=by
 cases h1:inB width 10 200 with
 |false=>
  have l:=h_ (show Uj_ t width a=(⟨#[]⟩,0,2)by unfold Uj_ qL_;rw[h1];rfl);rw[l.o];have v:=h_ (fun W=>Ko_ h1 W);go_enter func20,ntmps20;go_wp2_with (go_at_call 34;refine(v.o _).mono ?_;rintro e w1 ⟨rfl,rfl⟩)
  go_ret3
  exact⟨0,rfl,fun _=>rfl,br⟩
 |true=>
  have v:=h_ (fun W=>Ko_ h1 W)
  cases F:inB a 0 100000 with
  |false=>
   have l:=h_ (show Uj_ t width a=(⟨#[]⟩,0,2)by unfold Uj_ qL_;rw[h1,F];rfl);rw[l.o];have J:=h_ (fun W=>Ko_ F W);go_enter func20,ntmps20;go_wp2_with (go_at_call 34;(first|(with_reducible refine(v.o _).mono ?_)|(with_reducible refine(J.o _).mono ?_));rintro e w1 ⟨rfl,rfl⟩)
   go_ret3
   exact⟨0,rfl,fun _=>rfl,br⟩
  |true=>
   have J:=h_ (fun W=>Ko_ F W);have hB:0<=a/\a<=100000:=Yl_ F;have h1:qL_ width a=true:=by unfold qL_;rw[h1,F];rfl
   cases j:Y5_ t with
   |none=>
    have l:=h_ (show Uj_ t width a=(⟨#[]⟩,0,1)by unfold Uj_;rw[in_ (by rw[h1];simp),j]);rw[l.o];have C:=h_ (fun W=>show Calls prog 35 #[T_ t] W (fun e w'=>∃(g:Nat) (p:Int),e=R_ (U_ #[S_ (some ⟨g,0,none⟩) 0 0,I_ j_ p,B_ false])/\Below W.heap.size W w')from(Ub_ t W ht).mono (by
     rintro e w1 ⟨b,h⟩;rw[j]at h;obtain⟨g,p,rfl,_⟩:=h;exact⟨g,p,rfl,b⟩))
    clear j h1;go_enter func20,ntmps20;go_wp2_with (go_at_call 34;(first|(with_reducible refine(v.o _).mono ?_)|(with_reducible refine(J.o _).mono ?_));rintro e w1 ⟨rfl,rfl⟩)
    go_wp2_with fail
    refine(C.o _).mono ?_;rintro e w1 ⟨g,p,rfl,b⟩;go_wp2
    go_ret3
    exact⟨p,rfl,fun h=>absurd rfl h,b⟩
   |some ps=>
    obtain⟨I,hn,Q⟩:=zO_ j;have l:=h_ (show Uj_ t width a=outV (Go_ ps width a)by unfold Uj_;rw[in_ (by rw[h1];simp),j]);rw[l.o];have k:=ku_ Q width a;have K:=h_ (fun A c W i=>GH_ A ps.length c ps width a W hn i (h_ Q) hB I);have C:=h_ (fun W=>show Calls prog 35 #[T_ t] W (fun e w'=>∃A c,e=R_ (U_ #[S_ A ps.length c,I_ j_ 0,B_ true])/\Nps w' A ps.length ps/\Below W.heap.size W w')from(Ub_ t W ht).mono (by
     rintro e w1 ⟨b,h⟩;rw[j]at h;obtain⟨A,c,rfl,M⟩:=h;exact⟨A,c,rfl,M.nps,b⟩))
    obtain⟨r,H⟩:=ex_ (Go_ ps width a);rw[H]at K k |-
    have d:=h_ (fun A c W j=>xy_ A r.1.length c r.1 W rfl j k);have f:=zA_ r.1;have y:=h_ (fun z hz=>Qgs_ (r:=r) (z:=z) hz);obtain⟨n,G⟩:=ex_ ps.length;rw[G]at C K;clear j h1 H I hn Q G l;obtain⟨L,st⟩:=r;dsimp only at f d;obtain⟨T,P⟩:=ex_ (Wb_ L);rw[P]at f d;have N:=h_ P;have R:T.size<=632000000:=(by rw[f];exact k);clear P f k;go_enter func20,ntmps20;go_wp2_with (go_at_call 34;(first|(with_reducible refine(v.o _).mono ?_)|(with_reducible refine(J.o _).mono ?_));rintro e w1 ⟨rfl,rfl⟩)
    go_wp2_with fail
    refine(C.o _).mono ?_;rintro e w1 ⟨A,c,rfl,i,b⟩;have o:=h_ b;have B:=h_ i;clear b i C;go_wp2_with fail
    refine(K.o A c _ B.o).mono ?_;rintro e w3 ⟨A2,c2,rfl,M,b⟩;have q:=h_ (Qb_ o.o b);have x:=h_ M.rd;clear b M o B K;dsimp only;have m:=h_ (show Below w3.heap.size w3 (w3.alloc (C_ #[S_ A2 L.length c2,I_ j_ st] 61))from Ql_ br);have D:=h_ (Blk.new w3 61 #[S_ A2 L.length c2,I_ j_ st]);go_wp2_with fail
    refine(d.o A2 c2 _ (x.o.next m.o)).mono ?_;rintro e w5 ⟨rfl,b⟩;have s:=h_ (Qb_ q.o (Qb_ m.o b));have E:=h_ (D.o.next b);have z1:=E.o.q1;have zz:=E.o.lt;clear b q x m D d;by_cases h3:3000 < T.size
    ·have HO:=h_ (y.o true (by rw[N.o];exact dt_ h3));have O:(3000:Int) < T.size:=oo;go_wp2
     go_ret3
     exact⟨0,by rw[HO.o];rfl,fun _=>by rw[HO.o];rfl,s.o⟩
    ·have HO:=h_ (y.o false (by rw[N.o];exact df_ h3));have O:¬(3000:Int) < T.size:=oo;go_upto_region 10 with fail
     go_quiet (fail);go_wp2
     go_ret3
     exact⟨st,by rw[HO.o,<-N.o];rfl,fun _=>by rw[HO.o];rfl,below_drewN s.o _⟩
theorem Um_ (t:BA) (width a:Int) (w:World) (ht:t.size<=1048576):Calls prog 38 #[T_ t,I_ j_ width,I_ j_ a,.func (Fn.func 39) #[] #[]] w (FmtR (Uj_ t width a) w):=by
 have m:=h_ (fun W=>Gq_ width a W)
 cases h1:qL_ width a with
 |false=>
  rw[h1]at m;have l:=h_ (show Uj_ t width a=(⟨#[]⟩,0,2)by unfold Uj_;rw[ip_ h1]);rw[l.o];go_enter func38,ntmps38;go_wp2_with fail
  refine(m.o _).mono ?_;rintro e w1 ⟨rfl,rfl⟩;go_wp2
  go_ret3
  exact⟨0,rfl,fun _=>rfl,br⟩
 |true=>
  rw[h1]at m;have hB:0<=a/\a<=100000:=by unfold qL_ at h1;rw[Bool.and_eq_true]at h1;exact Yl_ h1.2
  have HC:=h_ (fun(W:World) (A:OA) (n c:Nat)=>show Calls prog 39 #[S_ A n c] W (RS_ (S_ A n c) W)from by
   go_enter func39,ntmps39;go_wp2;go_ret;exact⟨rfl,rfl⟩)
  cases i:Y5_ t with
  |none=>
   have l:=h_ (show Uj_ t width a=(⟨#[]⟩,0,1)by unfold Uj_;rw[in_ (by rw[h1];simp),i]);rw[l.o];have B:=h_ (fun W=>qt_ t W ht i);clear i h1;go_enter func38,ntmps38;go_wp2_with fail
   refine(m.o _).mono ?_;rintro e w0 ⟨rfl,rfl⟩;go_wp2_with fail
   refine(B.o _).mono ?_;rintro e w1 ⟨p,rfl,b⟩;go_wp2
   go_ret3
   exact⟨p,rfl,fun h=>absurd rfl h,b⟩
  |some ps=>
   obtain⟨G,hn,M⟩:=zO_ i;have l:=h_ (show Uj_ t width a=outV (Go_ ps width a)by unfold Uj_;rw[in_ (by rw[h1];simp),i]);rw[l.o];have j:=ku_ M width a;have H:=h_ (fun A c W g=>Gr_ A ps.length c ps width a W hn g (h_ M) hB G);have B:=h_ (fun W=>show Calls prog 58 #[T_ t] W (fun e w'=>∃A c,e=R_ (U_ #[S_ A ps.length c,I_ j_ 0,B_ true])/\Nps w' A ps.length ps/\Below W.heap.size W w')from qu_ t W ht ps i);obtain⟨r,F⟩:=ex_ (Go_ ps width a);rw[F]at H j |-
   have d:=h_ (fun A c W i=>kC_ A r.1.length c r.1 W rfl i j);have f:=zA_ r.1;have x:=h_ (fun z hz=>Qgs_ (r:=r) (z:=z) hz);obtain⟨n,E⟩:=ex_ ps.length;rw[E]at B H;clear i h1 F G hn M E l;obtain⟨L,st⟩:=r;dsimp only at f d;obtain⟨T,K⟩:=ex_ (Wb_ L);rw[K]at f d;have I:=h_ K;have N:T.size<=632000000:=(by rw[f];exact j);clear K f j;go_enter func38,ntmps38;go_wp2_with fail
   refine(m.o _).mono ?_;rintro e w0 ⟨rfl,rfl⟩;go_wp2_with fail
   refine(B.o _).mono ?_;rintro e w1 ⟨A,c,rfl,g,b⟩;have o:=h_ b;have y:=h_ g;clear b g B;go_wp2_with fail
   refine(HC.o _ A n c).mono ?_;rintro e w2 ⟨rfl,rfl⟩;go_wp2_with fail
   refine(H.o A c _ y.o).mono ?_;rintro e w3 ⟨A2,c2,rfl,hm,b⟩;have q:=h_ (Qb_ o.o b);have v:=h_ hm.rd;clear b hm o y H;dsimp only;have k:=h_ (show Below w3.heap.size w3 (w3.alloc (C_ #[S_ A2 L.length c2,I_ j_ st] 61))from Ql_ br);have C:=h_ (Blk.new w3 61 #[S_ A2 L.length c2,I_ j_ st]);go_wp2_with fail
   refine(d.o A2 c2 _ (v.o.next k.o)).mono ?_;rintro e w5 ⟨rfl,b⟩;have s:=h_ (Qb_ q.o (Qb_ k.o b));have D:=h_ (C.o.next b);have z1:=D.o.q1;have zz:=D.o.lt;clear b q v k C d;by_cases h3:3000 < T.size
   ·have HO:=h_ (x.o true (by rw[I.o];exact dt_ h3));have J:(3000:Int) < T.size:=oo;go_wp2
    go_ret3
    exact⟨0,by rw[HO.o];rfl,fun _=>by rw[HO.o];rfl,s.o⟩
   ·have HO:=h_ (x.o false (by rw[I.o];exact df_ h3));have J:¬(3000:Int) < T.size:=oo;go_upto_region 10 with fail
    go_quiet (fail);go_wp2
    go_ret3
    exact⟨st,by rw[HO.o,<-I.o];rfl,fun _=>by rw[HO.o];rfl,below_drewN s.o _⟩
theorem W3_ (t:BA) (width a:Int) (w:World) (ht:t.size<=1048576):Calls prog 22 #[T_ t,I_ j_ width,I_ j_ a] w (FmtR (Uj_ t width a) w):=by
 have HF:=h_ (fun W=>Um_ t width a W ht);obtain⟨r,hr⟩:=ex_ (Uj_ t width a);rw[hr]at HF |-
 clear hr;go_enter func22,ntmps22;go_wp2_with fail
 refine(HF.o _).mono ?_;rintro e w1 ⟨p,rfl,hp,hb⟩;have HP:=h_ hp;clear hp;go_wp2
 go_ret3
 exact⟨p,rfl,HP.o,hb⟩
def FchR (t:BA) (r:BA × Int × Int) (w:World) (e:Ending) (w':World):Prop:=
 Below w.heap.size w w'/\(r.2.2=0->∃n m:Nat,zi_ t r.1 n m/\e=R_ (U_ #[A_ #[I_ j_ n,I_ j_ (t.size - m),T_ (r.1.extract n (r.1.size - m))],B_ true]))/\(r.2.2≠0->e=R_ (U_ #[A_ #[I_ j_ 0,I_ j_ 0,T_ ⟨#[]⟩],B_ false]))
theorem VV_ (t:BA) (width a:Int) (w:World) (ht:t.size<=1048576):Calls prog 5 #[T_ t,I_ j_ width,I_ j_ a] w (FchR t (Uj_ t width a) w):=by
 have z:=h_ (fun W=>zc_ t width a W ht);have o:=UZ_ t width a;obtain⟨⟨s,st,cd⟩,hr⟩:=ex_ (Uj_ t width a);rw[hr]at z o |-
 dsimp only at o;have B:=h_ (fun W=>Ut_ t s W oo oo);have i:=h_ (show Below w.heap.size w (w.alloc (C_ #[I_ j_ 0,I_ j_ 0,T_ ⟨#[]⟩] 23))from Ql_ br);have j:=h_ (Blk.new w 23 #[I_ j_ 0,I_ j_ 0,T_ ⟨#[]⟩]);clear hr o ht;by_cases C:cd=0
 ·subst C;go_enter func5,ntmps5;go_wp2_with fail
  refine(z.o _).mono ?_;rintro e w1 ⟨p,rfl,_,g⟩;have f:=h_ (Qb_ i.o g);have b:=h_ (j.o.next g);clear g i j z;dsimp only;go_wp2_with fail
  refine(B.o _).mono ?_;rintro e w2 ⟨n,m,hn,rfl,g⟩;have y:=h_ (Qb_ f.o g);have d:=h_ (b.o.next g);have HN:=h_ hn;have q:=d.o.q0;have v:=d.o.q1;have x:=d.o.q2;have D:=d.o.frozen;have A:=d.o.lt;clear g f b B hn;go_wp2;have k:=h_ (((y.o.setCell (p:=⟨w.heap.size,0,none⟩) (lr_ _) (I_ j_ (n:Int))).setCell (p:=⟨w.heap.size,1,none⟩) (lr_ _) (I_ j_ ((t.size:Int) - (m:Int)))).setCell (p:=⟨w.heap.size,2,none⟩) (lr_ _) (T_ (s.extract n (s.size - m))));have c:=h_ (((d.o.set_ 0 (I_ j_ (n:Int))).set_ 1 (I_ j_ ((t.size:Int) - (m:Int)))).set_ 2 (T_ (s.extract n (s.size - m))));clear q v x D A d y;generalize ((w2.setCell ⟨w.heap.size,0,none⟩ (I_ j_ (n:Int))).setCell ⟨w.heap.size,1,none⟩ (I_ j_ ((t.size:Int) - (m:Int)))).setCell ⟨w.heap.size,2,none⟩ (T_ (s.extract n (s.size - m)))=l at *;have q:l.cell? ⟨w.heap.size,0,none⟩=some (I_ j_ (n:Int)):=c.o.cell 0;have v:l.cell? ⟨w.heap.size,1,none⟩=some (I_ j_ ((t.size:Int) - (m:Int))):=c.o.cell 1;have x:l.cell? ⟨w.heap.size,2,none⟩=some (T_ (s.extract n (s.size - m))):=c.o.cell 2;have A:=c.o.lt;refine bodyPost_ret (by simp[results,Tryz.results5,go_sem,q,v,x];try rfl) rfl ?_;exact⟨k.o,fun _=>⟨n,m,HN.o,rfl⟩,fun h=>absurd rfl h⟩
 ·have h1:(cd != 0)=true:=by simpa using C
  go_enter func5,ntmps5;go_wp2_with fail
  refine(z.o _).mono ?_;rintro e w1 ⟨p,rfl,_,g⟩;have f:=h_ (Qb_ i.o g);have b:=h_ (j.o.next g);have q:=b.o.q0;have v:=b.o.q1;have x:=b.o.q2;have D:=b.o.frozen;have A:=b.o.lt;clear g i j z B;dsimp only;have k:=h_ (((f.o.setCell (p:=⟨w.heap.size,0,none⟩) (lr_ _) (I_ j_ 0)).setCell (p:=⟨w.heap.size,1,none⟩) (lr_ _) (I_ j_ 0)).setCell (p:=⟨w.heap.size,2,none⟩) (lr_ _) (T_ ⟨#[]⟩));have c:=h_ (((b.o.set_ 0 (I_ j_ 0)).set_ 1 (I_ j_ 0)).set_ 2 (T_ ⟨#[]⟩));go_wp2;clear q v x D A b f;generalize ((w1.setCell ⟨w.heap.size,0,none⟩ (I_ j_ 0)).setCell ⟨w.heap.size,1,none⟩ (I_ j_ 0)).setCell ⟨w.heap.size,2,none⟩ (T_ ⟨#[]⟩)=l at *;have q:l.cell? ⟨w.heap.size,0,none⟩=some (I_ j_ 0):=c.o.cell 0;have v:l.cell? ⟨w.heap.size,1,none⟩=some (I_ j_ 0):=c.o.cell 1;have x:l.cell? ⟨w.heap.size,2,none⟩=some (T_ ⟨#[]⟩):=c.o.cell 2;have A:=c.o.lt;refine bodyPost_ret (by simp[results,Tryz.results5,go_sem,q,v,x];try rfl) rfl ?_;exact⟨k.o,fun h=>absurd h C,fun _=>rfl⟩
theorem VT_ (t:BA) (width a:Int) (w:World) (ht:t.size<=1048576):Calls prog 6 #[T_ t,I_ j_ width,I_ j_ a] w (FchR t (Uj_ t width a) w):=by
 have z:=h_ (fun W=>W3_ t width a W ht);have o:=UZ_ t width a;obtain⟨⟨s,st,cd⟩,hr⟩:=ex_ (Uj_ t width a);rw[hr]at z o |-
 dsimp only at o;have B:=h_ (fun W=>Ul_ t s W oo oo);have i:=h_ (show Below w.heap.size w (w.alloc (C_ #[I_ j_ 0,I_ j_ 0,T_ ⟨#[]⟩] 23))from Ql_ br);have j:=h_ (Blk.new w 23 #[I_ j_ 0,I_ j_ 0,T_ ⟨#[]⟩]);clear hr o ht;by_cases C:cd=0
 ·subst C;go_enter func6,ntmps6;go_wp2_with fail
  refine(z.o _).mono ?_;rintro e w1 ⟨p,rfl,_,g⟩;have f:=h_ (Qb_ i.o g);have b:=h_ (j.o.next g);clear g i j z;dsimp only;go_wp2_with fail
  refine(B.o _).mono ?_;rintro e w2 ⟨n,m,hn,rfl,g⟩;have y:=h_ (Qb_ f.o g);have d:=h_ (b.o.next g);have HN:=h_ hn;have q:=d.o.q0;have v:=d.o.q1;have x:=d.o.q2;have D:=d.o.frozen;have A:=d.o.lt;clear g f b B hn;go_wp2;have k:=h_ (((y.o.setCell (p:=⟨w.heap.size,0,none⟩) (lr_ _) (I_ j_ (n:Int))).setCell (p:=⟨w.heap.size,1,none⟩) (lr_ _) (I_ j_ ((t.size:Int) - (m:Int)))).setCell (p:=⟨w.heap.size,2,none⟩) (lr_ _) (T_ (s.extract n (s.size - m))));have c:=h_ (((d.o.set_ 0 (I_ j_ (n:Int))).set_ 1 (I_ j_ ((t.size:Int) - (m:Int)))).set_ 2 (T_ (s.extract n (s.size - m))));clear q v x D A d y;generalize ((w2.setCell ⟨w.heap.size,0,none⟩ (I_ j_ (n:Int))).setCell ⟨w.heap.size,1,none⟩ (I_ j_ ((t.size:Int) - (m:Int)))).setCell ⟨w.heap.size,2,none⟩ (T_ (s.extract n (s.size - m)))=l at *;have q:l.cell? ⟨w.heap.size,0,none⟩=some (I_ j_ (n:Int)):=c.o.cell 0;have v:l.cell? ⟨w.heap.size,1,none⟩=some (I_ j_ ((t.size:Int) - (m:Int))):=c.o.cell 1;have x:l.cell? ⟨w.heap.size,2,none⟩=some (T_ (s.extract n (s.size - m))):=c.o.cell 2;have A:=c.o.lt;refine bodyPost_ret (by simp[results,Tryz.results6,go_sem,q,v,x];try rfl) rfl ?_;exact⟨k.o,fun _=>⟨n,m,HN.o,rfl⟩,fun h=>absurd rfl h⟩
 ·have h1:(cd != 0)=true:=by simpa using C
  go_enter func6,ntmps6;go_wp2_with fail
  refine(z.o _).mono ?_;rintro e w1 ⟨p,rfl,_,g⟩;have f:=h_ (Qb_ i.o g);have b:=h_ (j.o.next g);have q:=b.o.q0;have v:=b.o.q1;have x:=b.o.q2;have D:=b.o.frozen;have A:=b.o.lt;clear g i j z B;dsimp only;have k:=h_ (((f.o.setCell (p:=⟨w.heap.size,0,none⟩) (lr_ _) (I_ j_ 0)).setCell (p:=⟨w.heap.size,1,none⟩) (lr_ _) (I_ j_ 0)).setCell (p:=⟨w.heap.size,2,none⟩) (lr_ _) (T_ ⟨#[]⟩));have c:=h_ (((b.o.set_ 0 (I_ j_ 0)).set_ 1 (I_ j_ 0)).set_ 2 (T_ ⟨#[]⟩));go_wp2;clear q v x D A b f;generalize ((w1.setCell ⟨w.heap.size,0,none⟩ (I_ j_ 0)).setCell ⟨w.heap.size,1,none⟩ (I_ j_ 0)).setCell ⟨w.heap.size,2,none⟩ (T_ ⟨#[]⟩)=l at *;have q:l.cell? ⟨w.heap.size,0,none⟩=some (I_ j_ 0):=c.o.cell 0;have v:l.cell? ⟨w.heap.size,1,none⟩=some (I_ j_ 0):=c.o.cell 1;have x:l.cell? ⟨w.heap.size,2,none⟩=some (T_ ⟨#[]⟩):=c.o.cell 2;have A:=c.o.lt;refine bodyPost_ret (by simp[results,Tryz.results6,go_sem,q,v,x];try rfl) rfl ?_;exact⟨k.o,fun h=>absurd h C,fun _=>rfl⟩
theorem lawFormatChange (t:BA) (width a:Int) (w:World) (ht:t.size<=maxLen):Calls prog 3 #[T_ t,I_ j_ width,I_ j_ a] w (RB_ (B_ true) w):=by
 by_cases h0:1048576 < t.size
 ·go_enter func3,ntmps3;go_wp2;go_ret;exact⟨rfl,grow_⟩
 have l:=h_ (fun W=>VV_ t width a W oo);have k:=h_ (fun W=>VT_ t width a W oo);have j:=UZ_ t width a;obtain⟨⟨s,st,cd⟩,hr⟩:=ex_ (Uj_ t width a);rw[hr]at l k j;dsimp only at j;clear hr;by_cases q:cd=0
 ·subst q;have c:=Below.refl w.heap.size w;go_enter func3,ntmps3;go_wp2_with fail
  refine(l.o _).mono ?_;rintro e w1 ⟨h1,b,_⟩;obtain⟨n,m,⟨hn,hm⟩,rfl⟩:=b rfl;replace c:=Qb_ c h1;clear h1;dsimp only;go_wp2_with fail
  refine(k.o _).mono ?_;rintro e w2 ⟨h1,b,_⟩;obtain⟨n',m',⟨i,h⟩,rfl⟩:=b rfl;dsimp only at hn hm i h |-
  obtain rfl:=QgO_ hn i;obtain rfl:=QgR_ hm h;have A1:=Blk.fresh h1;replace c:=Q7_ c h1;have d:=A1.cell;have g:=A1.lt;have f:=A1.frozen;clear h1;go_wp2_with fail
  refine(ks_ _ _ _ _).mono ?_;rintro e w2 ⟨rfl,b⟩;clear d f g;replace A1:=by first|exact A1.next b|exact A1.next1 b|exact A1.next2 b
  have A2:=Blk.fresh b;replace c:=by first|exact Qb_ c b|exact Q7_ c b|exact Jf_ c b
  clear b;have d:=A1.cell;have f:=A1.frozen;have g:=A1.lt;have o:=A2.cell;have p:=A2.frozen;have v:=A2.lt;go_wp2;go_ret;exact⟨rfl,grow_⟩
 ·have c:=Below.refl w.heap.size w;go_enter func3,ntmps3;go_wp2_with fail
  refine(l.o _).mono ?_;rintro e w1 ⟨h1,_,b⟩;obtain rfl:=b q;replace c:=Qb_ c h1;clear h1;go_wp2_with fail
  refine(k.o _).mono ?_;rintro e w2 ⟨h1,_,b⟩;obtain rfl:=b q;have A1:=Blk.fresh h1;replace c:=Q7_ c h1;have d:=A1.cell;have g:=A1.lt;have f:=A1.frozen;clear h1;go_wp2_with fail
  refine(ks_ _ _ _ _).mono ?_;rintro e w2 ⟨rfl,b⟩;clear d f g;replace A1:=by first|exact A1.next b|exact A1.next1 b|exact A1.next2 b
  have A2:=Blk.fresh b;replace c:=by first|exact Qb_ c b|exact Q7_ c b|exact Jf_ c b
  clear b;have d:=A1.cell;have f:=A1.frozen;have g:=A1.lt;have o:=A2.cell;have p:=A2.frozen;have v:=A2.lt;go_wp2;go_ret;exact⟨rfl,grow_⟩
end Go.Proofs.YtbiijipkgfpgoaaGreatDoor

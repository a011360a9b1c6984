/-
  Put together by program.
-/
import Derived.Test.YtbiijipkgfpgoaaGreatDoorMfU
set_option maxRecDepth 100000
set_option linter.all false
set_option maxHeartbeats 25600000
open Go.Proofs.Tryz
open Go.Value renaming int→I_,slice→S_,string→T_,bool→B_,pointer→P_,agg→A_,tuple→U_
open Go.IntKind renaming i64→j_
open Go.Obj renaming cells→C_
open Go.Ending renaming returned→R_
namespace Go.Proofs.YtbiijipkgfpgoaaGreatDoor
open Go.RowKit
abbrev wty (a:Bool):TypeId:=if a then 119 else 93
theorem QeP_ (a:Bool):wty a≠9/\wty a≠96:=by cases a<;>decide
structure WD where
 imp:Bool
 T:Nat
 A:OA
 c:Nat
 Q:Wp
 w0:World
def q7_ (D:WD) (v:Value) (st:Int):Array Value:=#[S_ D.A (D.Q.m+1) D.c,I_ j_ D.Q.width,I_ j_ D.Q.budget,v,I_ j_ st]
structure WrA (D:WD) (s:Ws) (A:OA) (c:Nat) (w:World):Prop where
 blk:Blk w D.T (wty D.imp) (q7_ D (S_ A s.1.length c) s.2)
 row:Mine w D.w0.heap.size 9 1 A s.1.length c (Qm_ s.1)
 bT:D.w0.heap.size<=D.T
 old:Below D.w0.heap.size D.w0 w
def WrM (D:WD) (s:Ws) (w:World):Prop:=∃A c,WrA D s A c w
def WrR (D:WD) (s:Ws) (w:World) (e:Ending) (w':World):Prop:=e=R_ (U_ #[])/\WrM D s w'/\Kb w w'
section
variable {D:WD} {s:Ws} {A:OA} {c:Nat} {w w' w1:World}
theorem WrA.next (h:WrA D s A c w) (a:Below w.heap.size w w'):WrA D s A c w':=⟨h.blk.next a,h.row.next a,h.bT,Qb_ h.old a⟩
theorem WrM.next (h:WrM D s w) (hb:Below w.heap.size w w'):WrM D s w':=by
 obtain⟨A,c,h⟩:=h;exact⟨A,c,h.next hb⟩
theorem WrM.old (h:WrM D s w):Below D.w0.heap.size D.w0 w:=by
 obtain⟨A,c,h⟩:=h;exact h.old
theorem WrA.cells (h:WrA D s A c w):w.cell? ⟨D.T,0,none⟩=some (S_ D.A (D.Q.m+1) D.c)/\w.cell? ⟨D.T,1,none⟩=some (I_ j_ D.Q.width)/\w.cell? ⟨D.T,2,none⟩=some (I_ j_ D.Q.budget)/\w.cell? ⟨D.T,3,none⟩=some (S_ A s.1.length c)/\w.cell? ⟨D.T,4,none⟩=some (I_ j_ s.2)/\(∀i,w.frozen? ⟨D.T,i,none⟩=false)/\D.T < w.heap.size:=
 ⟨h.blk.cell 0,h.blk.cell 1,h.blk.cell 2,h.blk.cell 3,h.blk.cell 4,h.blk.frozen,h.blk.lt⟩
theorem WrM.cells (h:WrM D s w):w.cell? ⟨D.T,0,none⟩=some (S_ D.A (D.Q.m+1) D.c)/\w.cell? ⟨D.T,1,none⟩=some (I_ j_ D.Q.width)/\w.cell? ⟨D.T,2,none⟩=some (I_ j_ D.Q.budget)/\w.cell? ⟨D.T,4,none⟩=some (I_ j_ s.2)/\(∀i,w.frozen? ⟨D.T,i,none⟩=false)/\D.T < w.heap.size:=by
 obtain⟨A,c,h⟩:=h;exact⟨h.blk.cell 0,h.blk.cell 1,h.blk.cell 2,h.blk.cell 4,h.blk.frozen,h.blk.lt⟩
theorem WrA.put (h:WrA D s A c w) {A':OA} {c' n:Nat} {ls:List BA} (hn:n=(s.1++ls).length) (hm:Mine w' D.w0.heap.size 9 1 A' n c' (Qm_ (s.1++ls))) (a:w.heap.size<=w'.heap.size/\∀g t cs,Blk w g t cs->t≠9->Blk w' g t cs) (hb:∀w0,Below D.w0.heap.size w0 w->Below D.w0.heap.size w0 w'):
  Blk w' D.T (wty D.imp) (q7_ D (S_ A s.1.length c) s.2)/\WrA D (s.1++ls,s.2) A' c' (w'.setCell ⟨D.T,3,none⟩ (S_ A' n c'))/\Kb w (w'.setCell ⟨D.T,3,none⟩ (S_ A' n c')):=by
 subst hn;obtain⟨n1,n2⟩:=QeP_ D.imp;have k0:=a.2 _ _ _ h.blk n1;exact⟨k0,⟨k0.set_ 3 _,Qt_ hm k0 (Ne.symm n1) _ _,h.bT,(hb _ h.old).setCell h.bT _⟩,Kb.trans ⟨a.1,fun g cs hg=>a.2 _ _ _ hg dc_⟩ (Kb.set k0 n2 _ _)⟩
theorem WrA.state (h:WrA D s A c w) (st:Int):WrA D (s.1,st) A c (w.setCell ⟨D.T,4,none⟩ (I_ j_ st))/\Kb w (w.setCell ⟨D.T,4,none⟩ (I_ j_ st)):=
 ⟨⟨h.blk.set_ 4 _,Qt_ h.row h.blk (Ne.symm (QeP_ D.imp).1) _ _,h.bT,h.old.setCell h.bT _⟩,Kb.set h.blk (QeP_ D.imp).2 _ _⟩
end
def QiR_ (F:FuncId) (D:WD) (f:Nat):Prop:=
 ∀(j:Nat) (a:Int) (s:Ws) (W:World),j < f->XS_ (Qc_ D.Q.ps (j:Int))->(0<=a/\a+2 * Kt_ D.Q.ps j<=28)->szL s.1+Kk_ D.Q.ps j * 2100000<=632000000->WrM D s W->
  Calls prog F #[P_ (some ⟨D.T,0,none⟩),I_ j_ (j:Int),I_ j_ a] W (WrR D (ZN_ D.Q f j a s) W)
structure WK (F:FuncId) (D:WD) (f:Nat):Prop where
 N:QiR_ F D f
 K:Wk D.Q
 P:Nps D.w0 D.A (D.Q.m+1) D.Q.ps
 B:0<=D.Q.budget/\D.Q.budget<=100000
 hf:f<=D.Q.m+1
structure Wt (F:FuncId) (D:WD) (f:Nat) (fin:Ws) (w:World) (a:Int) (s:Ws) (es:List Wv) (W:World):Prop where
 M:WrM D s W
 L:runW D.Q (ZN_ D.Q f) a s es=fin
 Z:szL s.1+wW 2100000 D.Q.ps es<=632000000
 O:∀e∈es,okW D.Q f a e
 ha:0<=a/\a<=26
 K:WK F D f
 k:Kb w W
section
variable {F:FuncId} {D:WD} {f:Nat} {fin s:Ws} {a:Int} {e:Wv} {es:List Wv} {w W W':World}
theorem Wt.size (H:Wt F D f fin w a s (e::es) W):szL s.1+wE 2100000 D.Q.ps e<=632000000:=by
 have h2:=H.Z;rw[vk_]at h2;omega
theorem Wt.jump (H:Wt F D f fin w a s (e::es) W) {b:Ws} (hs:b=Qen_ D.Q (ZN_ D.Q f) a s e) (hM:WrM D b W') (hk:Kb W W'):Wt F D f fin w a b es W':=by
 subst hs;have hz:=xH_ H.K.K H.K.hf (Wq_ H.K.K f H.K.hf) H.ha (H.O e sm_) H.size;refine⟨hM,H.L,?_,fun u hu=>H.O u (List.mem_cons_of_mem _ hu),H.ha,H.K,H.k.trans hk⟩;have h2:=H.Z;rw[vk_]at h2;omega
theorem Wt.next (H:Wt F D f fin w a s es W) (hb:Below W.heap.size W W'):Wt F D f fin w a s es W':=⟨H.M.next hb,H.L,H.Z,H.O,H.ha,H.K,H.k.trans (Kb.below hb)⟩
theorem Wt.end_ (H:Wt F D f fin w a s [] W):WrM D fin W/\Kb w W:=by
 have h:=H.L;subst h;exact⟨H.M,H.k⟩
end
structure Mt (F:FuncId) (D:WD) (f:Nat) (fin:Ws) (w:World) (a:Int) (l:LI) (i:Nat) (s:Ws) (W:World):Prop where
 M:WrM D s W
 L:Wg_ D.Q (ZN_ D.Q f) a s (l.drop i)=fin
 Z:szL s.1+((l.drop i).length+Kv_ (Kk_ D.Q.ps) (l.drop i) * 2100000)<=632000000
 O:∀v∈l,(0<=v/\v < (f:Int))/\XS_ (Qc_ D.Q.ps v)/\a+2 * Kt_ D.Q.ps v.toNat<=28
 ha:0<=a
 K:WK F D f
 k:Kb w W
section
variable {F:FuncId} {D:WD} {f:Nat} {fin s s1:Ws} {a:Int} {l:LI} {i q:Nat} {w W W1:World} {R:Ending->World->Prop}
theorem Mt.next (H:Mt F D f fin w a l i s W) (hb:Below W.heap.size W W1):Mt F D f fin w a l i s W1:=⟨H.M.next hb,H.L,H.Z,H.O,H.ha,H.K,H.k.trans (Kb.below hb)⟩
theorem Mt.end_ (H:Mt F D f fin w a l i s W) (hi:l.length<=i):WrM D fin W/\Kb w W:=by
 have h:=H.L;rw[List.drop_of_length_le hi]at h;subst h;exact⟨H.M,H.k⟩
theorem vH_ {l:LI} {i:Nat} {v:Int} (h:l[i]? =some v):l.drop i=v::l.drop (i+1):=by
 obtain⟨h1,h2⟩:=gs_.1 h;rw[List.drop_eq_getElem_cons h1,h2]
theorem Mt.room (H:Mt F D f fin w a l i s W) (hd:l[i]? =some (q:Int)):szL s.1+1+Kk_ D.Q.ps q * 2100000+((l.drop (i+1)).length+Kv_ (Kk_ D.Q.ps) (l.drop (i+1)) * 2100000)<=632000000:=by
 have h:=H.Z;rw[vH_ hd,List.length_cons]at h;have e:Kv_ (Kk_ D.Q.ps) ((q:Int)::l.drop (i+1))=Kk_ D.Q.ps q+Kv_ (Kk_ D.Q.ps) (l.drop (i+1)):=by simp[Kv_]
 rw[e,Nat.add_mul]at h;omega
theorem Mt.node (H:Hid (Mt F D f fin w a l i s W)) (hd:Hid (l[i]? =some (q:Int))) (c:Hid (s1=if X4_ D.Q.ps (q:Int)=true then WX_ s [⟨#[]⟩] 1 else s)) (hM:Hid (WrM D s1 W1/\Kb W W1)) (k:∀W2,Hid (Mt F D f fin w a l (i+1) (ZN_ D.Q f q a s1) W2)->R (R_ (U_ #[])) W2):Calls prog F #[P_ (some ⟨D.T,0,none⟩),I_ j_ (q:Int),I_ j_ a] W1 R:=by
 have h:=H.o;have b:=h.O _ (lm_ hd.o);have hr:=h.room hd.o;have g:szL s1.1<=szL s.1+1:=by
  rw[c.o];split
  ·rw[Va_,ve_];exact lr_ _
  ·omega
 rw[it_]at b;have d:=Wq_ h.K.K f h.K.hf q a s1 oo b.2.1 ⟨h.ha,b.2.2⟩ oo;refine(h.K.N q a s1 W1 oo b.2.1 ⟨h.ha,b.2.2⟩ oo hM.o.1).mono ?_;rintro e w1 ⟨rfl,h1,h2⟩;refine k w1 ⟨h1,?_,?_,h.O,h.ha,h.K,(h.k.trans hM.o.2).trans h2⟩
 ·have hL:=h.L;rw[vH_ hd.o]at hL;rw[c.o];rw[<-hL];show _=Wg_ D.Q (ZN_ D.Q f) a (oneW D.Q (ZN_ D.Q f) a s (q:Int)) _;unfold oneW;rw[it_]
 ·omega
end
theorem GA_ {D:WD} {w:World} {j:Nat} {x:PN} (hP:Nps D.w0 D.A (D.Q.m+1) D.Q.ps) (hj:j < D.Q.m+1) (hx:D.Q.ps[j]? =some x) (hb:Below D.w0.heap.size D.w0 w):∃b off A' c',D.A=some ⟨b,off,none⟩/\b < w.heap.size/\w.cell? ⟨b,off+j * 4,none⟩=some (I_ j_ x.kind)/\w.cell? ⟨b,off+j * 4+1,none⟩=some (T_ x.text)/\w.cell? ⟨b,off+j * 4+2,none⟩=some (S_ A' x.kids.length c')/\w.cell? ⟨b,off+j * 4+3,none⟩=some (B_ x.blank)/\Rd D.w0 1 A' x.kids.length (Qa_ x.kids)/\x.kids.length<=c':=by
 obtain⟨b,off,A',c',e,a,y0,y1,y2,y3,d,hr⟩:=hP.atc hj hx;have c:=(QW_ hb).1;exact⟨b,off,A',c',e,ll_ a hb.size,(c _ _ a).trans y0,(c _ _ a).trans y1,(c _ _ a).trans y2,(c _ _ a).trans y3,hr,d⟩
structure WIn (F:FuncId) (D:WD) (f j:Nat) (x:PN) (a:Int) (s:Ws) (W:World):Prop where
 K:WK F D f
 hx:D.Q.ps[j]? =some x
 hj:j < f+1
 hs:XS_ x.kind
 ha:0<=a/\a+2 * Kt_ D.Q.ps j<=28
 hz:szL s.1+Kk_ D.Q.ps j * 2100000<=632000000
 hC:WrM D s W
section
variable {F:FuncId} {D:WD} {f j:Nat} {x:PN} {a:Int} {s:Ws} {W:World}
theorem WIn.lt (h:WIn F D f j x a s W):j < D.Q.m+1:=by have:=(gs_.1 h.hx).1;rw[h.K.K.F.tree.len]at this;exact this
theorem WIn.form (h:WIn F D f j x a s W):StF D.Q.ps x.kind x.kids:=Qem_ (h.K.K.F.node j h.lt) h.hx h.hs
theorem WIn.a26 (h:WIn F D f j x a s W):0<=a/\a<=26:=by
 have h1:=vG_ h.K.K h.lt;have h2:=h.ha;omega
theorem WIn.kids (h:WIn F D f j x a s W):∀v∈x.kids,(0<=v/\v < (f:Int))/\v<=900:=fun v hv=>by
 have h1:=(h.K.K.F.tree.good j x h.hx).2 v hv;have h2:=h.K.K.F.few;have h3:=h.lt;have h4:=h.hj;omega
theorem WIn.few (h:WIn F D f j x a s W):x.kids.length<=12:=(h.K.K.F.tree.good j x h.hx).1
theorem WIn.wt (h:WIn F D f j x a s W) (cs:Array Value):Wt F D f (ZN_ D.Q (f+1) j a s) (W.alloc (C_ cs 96)) a s (evsW D.Q.ps x) (W.alloc (C_ cs 96)):=by
 refine⟨h.hC.next grow_,(zK_ h.hx a s).symm,?_,QcK_ h.K.K h.hx h.hs h.hj h.ha.2,h.a26,h.K,Kb.refl _⟩;have h1:=UU_ h.K.K (lr_ 2100000) h.hx h.hs;have h2:=h.hz;omega
theorem WIn.at_ (h:WIn F D f j x a s W):∃b off A' c',D.A=some ⟨b,off,none⟩/\b < W.heap.size/\W.cell? ⟨b,off+j * 4,none⟩=some (I_ j_ x.kind)/\W.cell? ⟨b,off+j * 4+1,none⟩=some (T_ x.text)/\W.cell? ⟨b,off+j * 4+2,none⟩=some (S_ A' x.kids.length c')/\W.cell? ⟨b,off+j * 4+3,none⟩=some (B_ x.blank)/\Rd D.w0 1 A' x.kids.length (Qa_ x.kids)/\x.kids.length<=c':=GA_ h.K.P h.lt h.hx h.hC.old
end
theorem ke_ {B:Nat} {b d:World} {A:OA} {n c:Nat} {ks:List BA} {k:BA} {v':Value} (HM:Mine b B 9 1 A n c (Qm_ ks)) (hB:B<=b.heap.size) (f:d.ownsRow B 9 1 v' (n+1) (Qm_ ks++[T_ k])) (a:(b.alloc (C_ #[T_ k] 9)).grownBy d (S_ A n c).ownBlock):
  ∃A' c',v'=S_ A' (n+1) c'/\Mine d B 9 1 A' (n+1) c' (Qm_ (ks++[k]))/\(b.heap.size<=d.heap.size/\∀g t cs,Blk b g t cs->t≠9->Blk d g t cs)/\(∀w0,Below B w0 b->Below B w0 d):=by
 obtain⟨A5,c5,rfl,m5⟩:=Mine.of f;refine⟨A5,c5,rfl,by rw[show Qm_ (ks++[k])=Qm_ ks++[T_ k]by simp[Qm_]];exact m5,⟨lt_ sm_ a.size,fun g t cs h ht=>?_⟩,fun w0 h=>?_⟩
 ·refine(h.alloc _).grown a (fun e=>?_);rw[Q3_]at e;obtain⟨i,b'⟩:=Qw_ HM e.symm;exact Kj_ h b' ht rfl
 ·exact(h.alloc hB _).grown a so_ (fun g a=>by rw[Q3_]at a;exact(Mine.blk HM a).1)
theorem Je_ {B:Nat} {w0 w w':World} (h:Below B w0 w) (h2:Below w.heap.size w w') (hB:B<=w.heap.size):Below B w0 w':=h.trans (h2.mono hB)
theorem Qae_ (D:WD) (hi:D.imp=true) (s:Ws) (a:Int) (t:BA) (W:World) (h:WrM D s W) (ha:0<=a/\a<=60) (hz:szL s.1+(61+t.size)<=1000000000):
  Calls prog 123 #[P_ (some ⟨D.T,0,none⟩),I_ j_ a,T_ t] W (WrR D (WX_ s [QK_ a++t] 1) W):=by
 obtain⟨A,c,h⟩:=h;obtain⟨x0,x1,x2,x3,x4,xf,xz⟩:=h.cells;have hl:s.1.length<=1000000000:=by have:=Ya_ s.1;omega
 have o:=h_ (fun Z (q:Below W.heap.size W Z)=>show Calls prog 175 #[I_ j_ a] Z (RB_ (T_ (QK_ a)) W)from(V1_ a Z ⟨ha.1,oo⟩).mono (by rintro e w1 ⟨rfl,rfl⟩;exact⟨rfl,q⟩));have I:(QK_ a).size<=60:=by rw[Kc_];omega
 obtain⟨i,v⟩:=ex_ (QK_ a);rw[v]at o I |-
 have hq:¬9223372036854775807 < i.size+t.size:=oo;have HA:=h_ h;have m:=h_ h.old.size;obtain⟨n,hn⟩:=ex_ s.1.length;have HP:=h_ (fun A' c' w' h1 h2 h3=>h.put (w':=w') (A':=A') (c':=c') (n:=n+1) (ls:=[i++t]) (by rw[<-hn];simp) h1 h2 h3);have HM:=h_ h.row;rw[hn]at hl x3 HM;obtain⟨i0,y,B,C,E⟩:=info_parts qy_;have F:=h_ (ai_ y (ai_ B (ai_ C E)));clear y B C E h v hz ha;go_enter func123,ntmps123;go_region_law (first
  |(
   have _s:=G;refine step_append_lies _ rfl (.tmp 11) (.tmp 16) 31 rfl D.w0.heap.size 9 i0 (T_ ⟨#[]⟩) 1 16 underlying31 F.o.1 F.o.2.1 F.o.2.2.1 F.o.2.2.2 rfl dc_ (S_ A n c) n (Qm_ s.1) ev_ (Mine.alloc M4.o _) ⟨H.heap.size,0,none⟩ 1 1 [T_ (i++t)] ev_ (by rfl) (World.news_of_block (cs:=#[T_ (i++t)]) (t:=9) (fr:=(0,0)) (heap_alloc_new H _)) (fun x hx=>by simp at hx;subst hx;rfl) dc_ mx_ oo so_ (H.heap.size+1) sm_ ?_;intro v' cap K l b M L;have f:(H.alloc (C_ #[T_ (i++t)] 9)).grownBy K (S_ A n c).ownBlock:=(by first|exact b|exact Q9_ b);obtain⟨A6,c6,ev,z,j,r⟩:=ke_ (ks:=s.1) (k:=i++t) M4.o J l f;have d:=HP.o A6 c6 K z ⟨lt_ G.o.size j.1,fun g t cs q ht=>j.2 g t cs (q.next G.o) ht⟩ (fun w0 q=>r w0 (Je_ q G.o m.o));injection ev with ev1 ev2 ev3;subst ev1;subst ev3;have j3:K.cell? ⟨D.T,3,none⟩=some (S_ A s.1.length c):=d.1.cell 3;have jf:=d.1.frozen;have jz:=d.1.lt;have HW:=h_ d.2)
  |(
   refine GJ_ rfl 175 func175 nr_ nr_ _ _ rfl #[I_ j_ a] ev_ (o.o _ (by first|exact br|exact br.drew)) ?_;rintro e H ⟨rfl,p⟩;refine⟨_,rfl,?_⟩;have G:=h_ p;have M4:=h_ (HM.o.next p);have k3:=((QW_ p).1 _ 3 xz).trans x3;have kz:=ll_ xz p.size;have J:=lt_ m.o p.size))
 all_goals
  clear d j3 jf jz z j r;go_end0;exact⟨rfl,⟨_,_,HW.o.1⟩,HW.o.2⟩
theorem Qaz_ (D:WD) (hi:D.imp=false) (s:Ws) (a:Int) (t:BA) (W:World) (h:WrM D s W) (ha:0<=a/\a<=60) (hz:szL s.1+(61+t.size)<=1000000000):
  Calls prog 96 #[P_ (some ⟨D.T,0,none⟩),I_ j_ a,T_ t] W (WrR D (WX_ s [QK_ a++t] 1) W):=by
 obtain⟨A,c,h⟩:=h;obtain⟨x0,x1,x2,x3,x4,xf,xz⟩:=h.cells;have hl:s.1.length<=1000000000:=by have:=Ya_ s.1;omega
 have o:=h_ (fun Z (q:Below W.heap.size W Z)=>show Calls prog 112 #[I_ j_ a] Z (RB_ (T_ (QK_ a)) W)from(V8_ a Z ⟨ha.1,oo⟩).mono (by rintro e w1 ⟨rfl,rfl⟩;exact⟨rfl,q⟩));have I:(QK_ a).size<=60:=by rw[Kc_];omega
 obtain⟨i,v⟩:=ex_ (QK_ a);rw[v]at o I |-
 have hq:¬9223372036854775807 < i.size+t.size:=oo;have HA:=h_ h;have m:=h_ h.old.size;obtain⟨n,hn⟩:=ex_ s.1.length;have HP:=h_ (fun A' c' w' h1 h2 h3=>h.put (w':=w') (A':=A') (c':=c') (n:=n+1) (ls:=[i++t]) (by rw[<-hn];simp) h1 h2 h3);have HM:=h_ h.row;rw[hn]at hl x3 HM;obtain⟨i0,y,B,C,E⟩:=info_parts qy_;have F:=h_ (ai_ y (ai_ B (ai_ C E)));clear y B C E h v hz ha;go_enter func96,ntmps96;go_region_law (first
  |(
   have _s:=G;refine step_append_lies _ rfl (.tmp 10) (.tmp 15) 31 rfl D.w0.heap.size 9 i0 (T_ ⟨#[]⟩) 1 16 underlying31 F.o.1 F.o.2.1 F.o.2.2.1 F.o.2.2.2 rfl dc_ (S_ A n c) n (Qm_ s.1) ev_ (Mine.alloc M4.o _) ⟨H.heap.size,0,none⟩ 1 1 [T_ (i++t)] ev_ (by rfl) (World.news_of_block (cs:=#[T_ (i++t)]) (t:=9) (fr:=(0,0)) (heap_alloc_new H _)) (fun x hx=>by simp at hx;subst hx;rfl) dc_ mx_ oo so_ (H.heap.size+1) sm_ ?_;intro v' cap K l b M L;have f:(H.alloc (C_ #[T_ (i++t)] 9)).grownBy K (S_ A n c).ownBlock:=(by first|exact b|exact Q9_ b);obtain⟨A6,c6,ev,z,j,r⟩:=ke_ (ks:=s.1) (k:=i++t) M4.o J l f;have d:=HP.o A6 c6 K z ⟨lt_ G.o.size j.1,fun g t cs q ht=>j.2 g t cs (q.next G.o) ht⟩ (fun w0 q=>r w0 (Je_ q G.o m.o));injection ev with ev1 ev2 ev3;subst ev1;subst ev3;have j3:K.cell? ⟨D.T,3,none⟩=some (S_ A s.1.length c):=d.1.cell 3;have jf:=d.1.frozen;have jz:=d.1.lt;have HW:=h_ d.2)
  |(
   refine GJ_ rfl 112 func112 nr_ nr_ _ _ rfl #[I_ j_ a] ev_ (o.o _ (by first|exact br|exact br.drew)) ?_;rintro e H ⟨rfl,p⟩;refine⟨_,rfl,?_⟩;have G:=h_ p;have M4:=h_ (HM.o.next p);have k3:=((QW_ p).1 _ 3 xz).trans x3;have kz:=ll_ xz p.size;have J:=lt_ m.o p.size))
 all_goals
  clear d j3 jf jz z j r;go_end0;exact⟨rfl,⟨_,_,HW.o.1⟩,HW.o.2⟩
theorem Gs_ {ps:List PN} {q:Nat} {x:PN} (hx:ps[q]? =some x):QC_ ps (q:Int)=x.kids:=by unfold QC_;rw[it_,X7_ hx]
theorem vy_ {ps:List PN} {q:Nat} {x:PN} {z:Bool} (hx:ps[q]? =some x) (hz:x.blank=z):X4_ ps (q:Int)=z:=by unfold X4_;rw[it_,X7_ hx,hz]
theorem Mt.blank {F:FuncId} {D:WD} {f:Nat} {fin s:Ws} {a:Int} {l:LI} {i q:Nat} {w W:World} (H:Mt F D f fin w a l i s W) (hd:l[i]? =some (q:Int)):∃A c,Hid (Mine W D.w0.heap.size 9 1 A s.1.length c (Qm_ s.1))/\W.cell? ⟨D.T,3,none⟩=some (S_ A s.1.length c)/\s.1.length<=632000000/\D.w0.heap.size<=W.heap.size/\
  Hid (∀A' c' w',Hid (Mine w' D.w0.heap.size 9 1 A' (s.1.length+1) c' (Qm_ (s.1++[⟨#[]⟩])))->Hid (W.heap.size<=w'.heap.size/\∀g t cs,Blk W g t cs->t≠9->Blk w' g t cs)->Hid (∀w0,Below D.w0.heap.size w0 W->Below D.w0.heap.size w0 w')->w'.cell? ⟨D.T,3,none⟩=some (S_ A s.1.length c)/\(∀i,w'.frozen? ⟨D.T,i,none⟩=false)/\D.T < w'.heap.size/\Hid (WrM D (WX_ s [⟨#[]⟩] 1) (w'.setCell ⟨D.T,3,none⟩ (S_ A' (s.1.length+1) c'))/\Kb W (w'.setCell ⟨D.T,3,none⟩ (S_ A' (s.1.length+1) c')))):=by
 obtain⟨A,c,h⟩:=H.M;have h1:=Ya_ s.1;have h2:=H.room hd;refine⟨A,c,h.row,h.blk.cell 3,oo,h.old.size,fun A' c' w' m k b=>?_⟩;obtain⟨k0,k1,k2⟩:=h.put (ls:=[⟨#[]⟩]) sm_ m.o k.o b.o;exact⟨k0.cell 3,k0.frozen,k0.lt,⟨A',c',k1⟩,k2⟩
theorem Jh_ (D:WD) (hi:D.imp=true) {f:Nat} (p:WK 104 D f) (fin s:Ws) (a:Int) (A':OA) (n c':Nat) (l:LI) (W:World) (hl:l.length=n) (hn:n<=1000) (hr:Rd D.w0 1 A' n (Qa_ l)) (y:Mt 104 D f fin W a l 0 s W):
  Calls prog 81 #[P_ (some ⟨D.T,0,none⟩),S_ A' n c',I_ j_ a] W (WrR D fin W):=by
 have HL:=h_ hl;have HR:=h_ hr;have y:=h_ y;have E:=h_ p.P;have F:=h_ p.K.F.tree.len;have K:=p.K.F.few;have P:=p.hf;obtain⟨m,hm⟩:=ex_ (D.Q.m+1);clear hl hr p;go_enter func81,ntmps81;go_wp2;go_loopw [10] (fun x wr=>∃(i:Nat) (h:Ws),i<=n/\x=I_ j_ i/\Hid (Mt 104 D f fin W a l i h wr)) (fun x _=>n - (intOf x).toNat)
 case atStart=>exact⟨0,s,lz_ _,rfl,y⟩
 case round=>
  clear y;obtain⟨i,h,Q,rfl,H⟩:=hrel;by_cases J:i < n
  ·obtain⟨v,hd⟩:∃d,l[i]? =some d:=⟨_,gE (by have:=HL.o;omega)⟩;have hv:=(H.o.O v (lm_ hd)).1;obtain⟨q,rfl⟩:=eo_ hv.1;have hq:q < f:=oo;have I:=H.o.M.old;obtain⟨b5,O,rfl,o,cv⟩:=Qu_ (HR.o.below I) J hd;obtain⟨x,M⟩:∃x,D.Q.ps[q]? =some x:=⟨_,gE (by rw[F.o];omega)⟩;obtain⟨b,off,A2,c2,eD,r,y0,y1,y2,N,_,_⟩:=GA_ E.o oo M I;obtain⟨x0,x1,x2,x4,xf,xz⟩:=H.o.M.cells;rw[eD]at x0;have HD:=h_ hd;have g:=h_ (fun z j=>vy_ (z:=z) M j);clear hv I y0 y1 y2 M
   cases j:x.blank with
   |true=>
    rw[j]at N;obtain⟨A,c,C,x3,L,hB,e⟩:=H.o.blank hd;have k:=h_ (show WX_ h [⟨#[]⟩] 1=if X4_ D.Q.ps (q:Int)=true then WX_ h [⟨#[]⟩] 1 else h by rw[ip_ (g.o true j)]);clear hd j g;obtain⟨n1,t⟩:=ex_ h.1.length;rw[t]at C x3 L e;clear t;go_upto_region 5 with(at_builtin;refine XW_ (.tmp 27) (.tmp 28) C hB rfl rfl er_ er_ oo ?_;intro A5 c5 w5 M5 K5 B5;obtain⟨j5,jf,jz,G⟩:=e.o A5 c5 w5 M5 K5 B5)
    clear C e x0 x1 x2 x3 x4 xf xz cv r o N;generalize w5.setCell ⟨D.T,3,none⟩ (S_ A5 (n1+1) c5)=W5 at *;go_wp2_with fail
    refine Mt.node H HD k G ?_;intro W6 B;go_wp2;go_roundw
    case rel=>exact⟨i+1,_,oo,by go_num,B⟩
    case measure=>simp[intOf];omega
   |false=>
    rw[j]at N;have k:=h_ (show h=if X4_ D.Q.ps (q:Int)=true then WX_ h [⟨#[]⟩] 1 else h by rw[in_ (by rw[g.o false j];simp)]);have G:=h_ (ai_ H.o.M (Kb.refl wr));clear hd j g;go_wp2_with fail
    refine Mt.node H HD k G ?_;intro W6 B;go_wp2;go_roundw
    case rel=>exact⟨i+1,_,oo,by go_num,B⟩
    case measure=>simp[intOf];omega
  ·obtain rfl:i=n:=oo;have h2:=h_ (H.o.end_ (Nat.le_of_eq HL.o));go_wp2;go_end0;exact⟨rfl,h2.o⟩
theorem Vv_ (D:WD) (hi:D.imp=false) {f:Nat} (r:WK 78 D f) (fin s:Ws) (a:Int) (A':OA) (n c':Nat) (l:LI) (W:World) (hl:l.length=n) (hn:n<=1000) (hr:Rd D.w0 1 A' n (Qa_ l)) (F:Mt 78 D f fin W a l 0 s W):
  Calls prog 56 #[P_ (some ⟨D.T,0,none⟩),S_ A' n c',I_ j_ a] W (WrR D fin W):=by
 have HL:=h_ hl;have I:=h_ hr;have F:=h_ F;have M:=h_ r.P;have N:=h_ r.K.F.tree.len;have P:=r.K.F.few;have X:=r.hf;clear hl hr r;go_enter func56,ntmps56;go_wp2;go_loopw [6] (fun x wr=>∃(i:Nat) (j:Ws),i<=n/\x=I_ j_ i/\Hid (Mt 78 D f fin W a l i j wr)) (fun x _=>n - (intOf x).toNat)
 case atStart=>exact⟨0,s,lz_ _,rfl,F⟩
 case round=>
  clear F;obtain⟨i,j,Y,rfl,H⟩:=hrel;by_cases y:i < n
  ·obtain⟨v,hd⟩:∃d,l[i]? =some d:=⟨_,gE (by have:=HL.o;omega)⟩;have hv:=(H.o.O v (lm_ hd)).1;obtain⟨q,rfl⟩:=eo_ hv.1;have hq:q < f:=oo;have O:=H.o.M.old;obtain⟨b5,E,rfl,e,J⟩:=Qu_ (I.o.below O) y hd;obtain⟨x,R⟩:∃x,D.Q.ps[q]? =some x:=⟨_,gE (by rw[N.o];omega)⟩;obtain⟨b,off,A2,c2,eD,t,y0,y1,y2,y3,_,_⟩:=GA_ M.o oo R O;obtain⟨x0,x1,S,T,U,V⟩:=H.o.M.cells;rw[eD]at x0;have G:=h_ hd;have o:=h_ (fun(Z:World) (hZ:Below D.w0.heap.size D.w0 Z)=>show Z.cell? ⟨b5,E+i,none⟩=some (I_ j_ (q:Int))from QO_ I.o hZ y G.o);have h:=h_ (fun z C=>vy_ (z:=z) R C);clear hv O y0 y1 y2 R;obtain⟨z,C⟩:=ex_ x.blank;rw[C]at y3;have h:=h_ (h.o z C);clear hd C;go_upto_region 3 with fail
   go_quiet (fail);have k:=h_ (H.o.next (show Below wr.heap.size wr (wr.drewN nq)from below_drewN (Below.refl wr.heap.size wr) _));clear H x0 x1 S T U V J t e y3;generalize wr.drewN nq=wq at *;have J:=o.o wq k.o.M.old;have e:=ZU_ I.o k.o.M.old oo;obtain⟨x0,x1,S,T,U,V⟩:=k.o.M.cells
   cases z with
   |true=>
    obtain⟨A,c,L,x3,Q,hB,g⟩:=k.o.blank G.o;have m:=h_ (show WX_ j [⟨#[]⟩] 1=if X4_ D.Q.ps (q:Int)=true then WX_ j [⟨#[]⟩] 1 else j by rw[ip_ h.o]);obtain⟨n1,B⟩:=ex_ j.1.length;rw[B]at L x3 Q g;clear B;go_upto_region 5 with(at_builtin;refine XW_ (.tmp 28) (.tmp 29) L hB rfl rfl er_ er_ oo ?_;intro A5 c5 w5 M5 K5 B5;obtain⟨j5,jf,jz,p⟩:=g.o A5 c5 w5 M5 K5 B5)
    clear L g x0 x1 S x3 T U V J e;generalize w5.setCell ⟨D.T,3,none⟩ (S_ A5 (n1+1) c5)=W5 at *;have J:=o.o W5 p.o.1.old;have e:=ZU_ I.o p.o.1.old oo;go_wp2_with fail
    refine Mt.node k G m p ?_;intro W6 K;go_wp2;go_roundw
    case rel=>exact⟨i+1,_,oo,by go_num,K⟩
    case measure=>simp[intOf];omega
   |false=>
    have m:=h_ (show j=if X4_ D.Q.ps (q:Int)=true then WX_ j [⟨#[]⟩] 1 else j by rw[in_ (by rw[h.o];simp)]);have p:=h_ (ai_ k.o.M (Kb.refl wq));go_wp2_with fail
    refine Mt.node k G m p ?_;intro W6 K;go_wp2;go_roundw
    case rel=>exact⟨i+1,_,oo,by go_num,K⟩
    case measure=>simp[intOf];omega
  ·obtain rfl:i=n:=oo;have h2:=h_ (H.o.end_ (Nat.le_of_eq HL.o));go_wp2;go_end0;exact⟨rfl,h2.o⟩
theorem Mt.start {F:FuncId} {D:WD} {f:Nat} {a a':Int} {l:LI} {s:Ws} {W:World} (hK:WK F D f) (h:WrM D s W) (c:okW D.Q f a (.all l)) (ha:0<=a) (b:a'=a+2) (hz:szL s.1+wE 2100000 D.Q.ps (.all l)<=632000000):Mt F D f (Wg_ D.Q (ZN_ D.Q f) (a+2) s l) W a' l 0 s W:=by
 subst b;exact⟨h,by rw[List.drop_zero],by rw[List.drop_zero];exact hz,c,oo,hK,Kb.refl _⟩
theorem qo_ (D:WD) (hi:D.imp=true) {f:Nat} (d:WK 104 D f) (s:Ws) (a:Int) (q:Nat) (W:World) (h:WrM D s W) (hq:q < D.Q.m+1) (g:okW D.Q f a (.all (QC_ D.Q.ps (q:Int)))) (ha:0<=a/\a<=26) (k:szL s.1+wE 2100000 D.Q.ps (.all (QC_ D.Q.ps (q:Int)))<=632000000):
  Calls prog 125 #[P_ (some ⟨D.T,0,none⟩),I_ j_ (q:Int),I_ j_ a] W (WrR D (Wg_ D.Q (ZN_ D.Q f) (a+2) s (QC_ D.Q.ps (q:Int))) W):=by
 obtain⟨x,i⟩:∃x,D.Q.ps[q]? =some x:=⟨_,gE (by rw[d.K.F.tree.len];omega)⟩;rw[Gs_ i]at g k |-
 obtain⟨b,off,A2,c2,eD,l,y0,y1,y2,y3,hr,o⟩:=GA_ d.P hq i h.old;obtain⟨x0,x1,x2,x4,xf,xz⟩:=h.cells;rw[eD]at x0;have j:=d.K.F.few;have p:=(d.K.F.tree.good q x i).1;have HA:=h_ (Jh_ D hi d _ s (a+2) A2 x.kids.length c2 x.kids W rfl oo hr (Mt.start d h g ha.1 rfl k));obtain⟨fin,c⟩:=ex_ (Wg_ D.Q (ZN_ D.Q f) (a+2) s x.kids);rw[c]at HA |-
 obtain⟨m,n⟩:=ha;clear h d g k hr i c;go_enter func125,ntmps125;go_wp2_with fail
 refine HA.o.mono ?_;rintro e w1 ⟨rfl,h1⟩;have H1:=h_ h1;clear h1;go_wp2;go_end0;exact⟨rfl,H1.o⟩
theorem qY_ (D:WD) (hi:D.imp=false) {f:Nat} (d:WK 78 D f) (s:Ws) (a:Int) (q:Nat) (W:World) (h:WrM D s W) (hq:q < D.Q.m+1) (g:okW D.Q f a (.all (QC_ D.Q.ps (q:Int)))) (ha:0<=a/\a<=26) (k:szL s.1+wE 2100000 D.Q.ps (.all (QC_ D.Q.ps (q:Int)))<=632000000):
  Calls prog 99 #[P_ (some ⟨D.T,0,none⟩),I_ j_ (q:Int),I_ j_ a] W (WrR D (Wg_ D.Q (ZN_ D.Q f) (a+2) s (QC_ D.Q.ps (q:Int))) W):=by
 obtain⟨x,i⟩:∃x,D.Q.ps[q]? =some x:=⟨_,gE (by rw[d.K.F.tree.len];omega)⟩;rw[Gs_ i]at g k |-
 obtain⟨b,off,A2,c2,eD,l,y0,y1,y2,y3,hr,o⟩:=GA_ d.P hq i h.old;obtain⟨x0,x1,x2,x4,xf,xz⟩:=h.cells;rw[eD]at x0;have j:=d.K.F.few;have p:=(d.K.F.tree.good q x i).1;have HA:=h_ (Vv_ D hi d _ s (a+2) A2 x.kids.length c2 x.kids W rfl oo hr (Mt.start d h g ha.1 rfl k));obtain⟨fin,c⟩:=ex_ (Wg_ D.Q (ZN_ D.Q f) (a+2) s x.kids);rw[c]at HA |-
 obtain⟨m,n⟩:=ha;clear h d g k hr i c;go_enter func99,ntmps99;go_wp2_with fail
 refine HA.o.mono ?_;rintro e w1 ⟨rfl,h1⟩;have H1:=h_ h1;clear h1;go_wp2;go_end0;exact⟨rfl,H1.o⟩
def QgF_ (s:Ws) (w:World) (e:Ending) (w':World):Prop:=∃A c,e=R_ (A_ #[S_ A s.1.length c,I_ j_ s.2])/\Mine w' w.heap.size 9 1 A s.1.length c (Qm_ s.1)/\Below w.heap.size w w'
theorem W9_ (P:Hn) (A0 A1 A2 A3:OA) (c0 c1 c2 c3:Nat) (N:Nat) (w:World) (m:PcM P A0 A1 A2 A3 w) (K:PcR P) (E:okP P=true) (hN:N<=100000):
  Calls prog 179 #[A_ (pcCells P A0 A1 A2 A3 c0 c1 c2 c3),I_ j_ P.width,I_ j_ (N:Int)] w (QgF_ (YI_ P.m P.l1 (KU_ P (N:Int)).1,(KU_ P (N:Int)).2) w):=by
 have l:=h_ (fun W h=>W8_ P A0 A1 A2 A3 c0 c1 c2 c3 N W (m.next h) K E hN);have k:=G6_ P (N:Int);have a:=(G5_ K (N:Int)).2;obtain⟨R,hv⟩:=ex_ (KU_ P (N:Int));rw[hv]at l k a |-
 obtain⟨v,st⟩:=R;dsimp only at k a |-
 have s:=h_ (fun W h V n S hr=>V3_ P A0 A1 A2 A3 c0 c1 c2 c3 V n S v W (m.next h) K hr a);obtain⟨L,hL⟩:=ex_ (YI_ P.m P.l1 v);rw[hL]at s |-
 have Y:(st==0)=false:=by rw[bn_];omega
 obtain⟨wd,F⟩:=ex_ P.width;rw[F]at l |-
 clear m K E hN hv k a hL F;unfold pcCells at l s |-
 obtain⟨M,m⟩:=ex_ P.m;obtain⟨G,y⟩:=ex_ P.l0.length;obtain⟨H,z⟩:=ex_ P.l1.length;obtain⟨I,B⟩:=ex_ P.l2.length;obtain⟨J,C⟩:=ex_ P.l3.length;rw[m,y,z,B,C]at l s |-
 clear m y z B C;have i:=h_ (show Below w.heap.size w ((w.alloc (C_ (pcC M A0 G c0 A1 H c1 A2 I c2 A3 J c3) 149)).alloc (C_ #[S_ none 0 0,I_ j_ 0] 61))from grow_);have q:=h_ ((Blk.new w 149 (pcC M A0 G c0 A1 H c1 A2 I c2 A3 J c3)).alloc (C_ #[S_ none 0 0,I_ j_ 0] 61));have r:Hid (Blk ((w.alloc (C_ (pcC M A0 G c0 A1 H c1 A2 I c2 A3 J c3) 149)).alloc (C_ #[S_ none 0 0,I_ j_ 0] 61)) (w.heap.size+1) 61 #[S_ none 0 0,I_ j_ 0]):=h_ (by
  have h:=Blk.new (w.alloc (C_ (pcC M A0 G c0 A1 H c1 A2 I c2 A3 J c3) 149)) 61 #[S_ none 0 0,I_ j_ 0];rwa[ws_]at h)
 go_enter func179,ntmps179;go_wp2_with fail
 refine(l.o _ i.o).mono ?_;rintro e w1 ⟨V,n,S,rfl,Z,D,g⟩;have f:=h_ (Qb_ i.o g);have t:=h_ (q.o.next g);have x:=h_ (r.o.next g);have HV:=h_ D.rd;obtain⟨q0,q1,q2,q3,q4,T⟩:=Vp_ t.o;clear D g i q r l;go_wp2_with fail
 refine(s.o _ f.o V n S HV.o).mono ?_;rintro e w2 ⟨A,c,rfl,D,g⟩;have HM:=h_ (D.more f.o.size);have o:=h_ (Qb_ f.o g);have b:=h_ (x.o.next g);have U:=b.o.q0;have X:=b.o.q1;have zf:=b.o.frozen;have zz:=b.o.lt;clear D g f t x HV s q0 q1 q2 q3 q4 T;go_wp2;have j:=h_ ((b.o.set_ 0 (S_ A L.length c)).set_ 1 (I_ j_ st));have Q:=h_ (Qt_ (Qt_ HM.o b.o dc_ 0 (S_ A L.length c)) (b.o.set_ 0 (S_ A L.length c)) dc_ 1 (I_ j_ st));have O:=h_ ((o.o.setCell (p:=⟨w.heap.size+1,0,none⟩) (show w.heap.size<=w.heap.size+1 from oo) (S_ A L.length c)).setCell (p:=⟨w.heap.size+1,1,none⟩) (show w.heap.size<=w.heap.size+1 from oo) (I_ j_ st));clear U X zf zz b HM o;generalize (w2.setCell ⟨w.heap.size+1,0,none⟩ (S_ A L.length c)).setCell ⟨w.heap.size+1,1,none⟩ (I_ j_ st)=W9 at *;have U:W9.cell? ⟨w.heap.size+1,0,none⟩=some (S_ A L.length c):=j.o.cell 0;have X:W9.cell? ⟨w.heap.size+1,1,none⟩=some (I_ j_ st):=j.o.cell 1;have zz:=j.o.lt;refine bodyPost_ret (by simp[results,Tryz.results179,go_sem,U,X];try rfl) rfl ?_;exact⟨A,c,rfl,Q.o,O.o⟩
end Go.Proofs.YtbiijipkgfpgoaaGreatDoor

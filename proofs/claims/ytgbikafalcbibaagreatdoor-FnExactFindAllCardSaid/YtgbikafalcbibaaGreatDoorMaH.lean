/-
  Put together by program (shake.py):TellA,TellB,TellC,TellL,TellHd,TellM,TellP,TellNa.
-/
import Derived.Test.YtgbikafalcbibaaGreatDoorMaG
import Derived.Deep.AppendLies
set_option maxRecDepth 100000
set_option linter.all false
set_option maxHeartbeats 25600000
open Go.Lib (hid)
open Go.Proofs.Tryz
namespace Go.Proofs.YtgbikafalcbibaaGreatDoor
open Go.RowKit
abbrev SgD:=Int × BA
abbrev TS:=List SgD × LI
def QX_ (d:SgD):List Value:=[.int .i64 d.1,.string d.2,.int .i64 0,.bool false]
def TL (ty:TypeId) (T Sb:Nat) (A:OA) (n c:Nat) (w0:World) (s:TS) (w:World):Prop:=
 ∃AS cS,Blk w T ty #[.slice A n c,.slice AS s.1.length cS,.slice (some ⟨Sb,0,none⟩) n n]/\Mine w w0.heap.size 68 4 AS s.1.length cS (s.1.flatMap QX_)/\Own w Sb 3 n (Qa_ s.2)/\s.2.length=n/\T≠Sb/\w0.heap.size<=T/\w0.heap.size<=Sb/\(∀g,AS.map (·.block)=some g->g≠T/\g≠Sb)/\Below w0.heap.size w0 w
def Kp (T Sb:Nat) (w w':World):Prop:=w.heap.size<=w'.heap.size/\∀g t cs,Blk w g t cs->g≠T->g≠Sb->t≠68->Blk w' g t cs
section
variable {ty:TypeId} {T Sb:Nat} {A:OA} {n c:Nat} {w0 w w' w2:World} {s:TS}
theorem Kp.refl (T Sb:Nat) (w:World):Kp T Sb w w:=⟨Nat.le_refl _,fun g t cs h _ _ _=>h⟩
theorem Kp.trans (h:Kp T Sb w w') (k:Kp T Sb w' w2):Kp T Sb w w2:=⟨Nat.le_trans h.1 k.1,fun g t cs hb h1 h2 h3=>k.2 g t cs (h.2 g t cs hb h1 h2 h3) h1 h2 h3⟩
theorem Kp.alloc (h:Kp T Sb w w') (o:Obj):Kp T Sb w (w'.alloc o):=⟨Nat.le_trans h.1 (by simp),fun g t cs hb h1 h2 h3=>(h.2 g t cs hb h1 h2 h3).alloc o⟩
theorem Kp.of_alloc {o:Obj} (h:Kp T Sb (w.alloc o) w'):Kp T Sb w w':=((Kp.refl T Sb w).alloc o).trans h
theorem Kp.drewN (h:Kp T Sb w w') (k:Nat):Kp T Sb w (w'.drewN k):=h
theorem Blk.kp {g:Nat} {t:TypeId} {cs:Array Value} (h:Blk w g t cs) (k:Kp T Sb w w') (h1:g≠T) (h2:g≠Sb) (h3:t≠68):Blk w' g t cs:=k.2 g t cs h h1 h2 h3
theorem TL.blkT (h:TL ty T Sb A n c w0 s w):T < w.heap.size:=by obtain⟨AS,cS,hb,_⟩:=h;exact hb.lt
theorem TL.blkS (h:TL ty T Sb A n c w0 s w):Sb < w.heap.size:=by obtain⟨AS,cS,_,_,ho,_⟩:=h;exact ho.lt
theorem TL.below (h:TL ty T Sb A n c w0 s w):Below w0.heap.size w0 w:=by obtain⟨AS,cS,_,_,_,_,_,_,_,_,hb⟩:=h;exact hb
theorem TL.len (h:TL ty T Sb A n c w0 s w):s.2.length=n:=by obtain⟨AS,cS,_,_,_,hl,_⟩:=h;exact hl
theorem TL.alloc (h:TL ty T Sb A n c w0 s w) (o:Obj):TL ty T Sb A n c w0 s (w.alloc o):=by
 obtain⟨AS,cS,hb,hm,ho,h1,h2,h3,h4,h5,a⟩:=h;exact⟨AS,cS,hb.alloc o,hm.alloc o,ho.alloc o,h1,h2,h3,h4,h5,a.alloc a.size o⟩
theorem TL.drewN (h:TL ty T Sb A n c w0 s w) (k:Nat):TL ty T Sb A n c w0 s (w.drewN k):=by
 obtain⟨AS,cS,hb,hm,ho,h1,h2,h3,h4,h5,a⟩:=h;exact⟨AS,cS,hb.drewN k,hm.drewN k,ho.drewN k,h1,h2,h3,h4,h5,below_drewN a k⟩
theorem vC_ {B:Nat} {e:TypeId} {sz:Nat} {xs:List Value} (h:Mine w B e sz A n c xs) {g:Nat} (a:A.map (·.block)=some g):∃cs,Blk w g e cs:=by
 rcases h.own with⟨rfl,_⟩|⟨g',rfl,_,_,_,rest,hb,_⟩
 ·simp at a
 ·simp at a;subst a;exact⟨_,hb⟩
theorem Qe9_ {AS:OA} {cS m:Nat} {B:Nat} {xs:List Value} (hm:Mine w B 68 4 AS m cS xs):∀g t cs,Blk w g t cs->t≠68->some g≠(Value.slice AS m cS).ownBlock:=fun g t cs hk ht e=>by
 have b:AS.map (·.block)=some g:=by
  rcases hm.own with⟨rfl,_,_⟩|⟨g',rfl,_⟩
  ·simp[Value.ownBlock]at e
  ·simp[Value.ownBlock]at e;subst e;rfl
 obtain⟨c,a⟩:=vC_ hm b;unfold Blk at hk a;rw[hk]at a;injection a with a;injection a with _ h2;exact ht h2
theorem zU_ {o:Obj} {AS:OA} {cS m B:Nat} {xs:List Value} {g:Nat} {t:TypeId} {cs:Array Value} {w3:World} (hk:Blk w g t cs) (ht:t≠68) (hm:Mine w B 68 4 AS m cS xs) (hg:(w.alloc o).grownBy w3 (Value.slice AS m cS).ownBlock):Blk w3 g t cs:=
 (hk.alloc o).grown hg (Qe9_ hm g t cs hk ht)
theorem TL.push {o:Obj} {AS:OA} {cS:Nat} (C:ty≠68)
  (hb:Blk w T ty #[.slice A n c,.slice AS s.1.length cS,.slice (some ⟨Sb,0,none⟩) n n]) (hm:Mine w w0.heap.size 68 4 AS s.1.length cS (s.1.flatMap QX_)) (ho:Own w Sb 3 n (Qa_ s.2)) (hl:s.2.length=n) (m:T≠Sb) (hT:w0.heap.size<=T) (hS:w0.heap.size<=Sb) (k:Below w0.heap.size w0 w)
  (d:SgD) {v':Value} {w3:World} (B:w3.ownsRow w0.heap.size 68 4 v' (s.1.length+1) (s.1.flatMap QX_++QX_ d)) (v:(w.alloc o).grownBy w3 (Value.slice AS s.1.length cS).ownBlock):
  TL ty T Sb A n c w0 (s.1++[d],s.2) (w3.setCell ⟨T,1,none⟩ v')/\Kp T Sb w (w3.setCell ⟨T,1,none⟩ v'):=by
 have b:=Qe9_ hm;have j:∃cs,Blk w Sb 3 cs:=by obtain⟨rest,h,_⟩:=ho;exact⟨_,h⟩
 obtain⟨L,j⟩:=j;have p:Blk w3 T ty #[.slice A n c,.slice AS s.1.length cS,.slice (some ⟨Sb,0,none⟩) n n]:=(hb.alloc o).grown v (b T ty _ hb C);have z:Own w3 Sb 3 n (Qa_ s.2):=(ho.alloc o).grown v (fun q e1 e2=>b Sb _ _ j (by decide) (by rw[e1,e2]));obtain⟨E,c3,rfl,J⟩:=Mine.of B;have r:Below w0.heap.size w0 w3:=(k.alloc k.size o).grown v (by have:=k.size;simp;omega) (fun g l=>GG_ hm l);have i:∀g,E.map (·.block)=some g->g≠T/\g≠Sb:=fun g l=>by
  obtain⟨K,f⟩:=vC_ J l;have a:=p;obtain⟨rest,e,_⟩:=z;constructor
  ·rintro rfl;unfold Blk at f a;rw[f]at a;injection a with a;injection a with _ D;exact C D.symm
  ·rintro rfl;unfold Blk at f e;rw[f]at e;injection e with e;injection e with _ D;exact absurd D (by decide)
 have y:(s.1++[d]).length=s.1.length+1:=by simp
 have G:(s.1++[d]).flatMap QX_=s.1.flatMap QX_++QX_ d:=by simp
 refine⟨⟨E,c3,?_,?_,z.far m.symm _,hl,m,hT,hS,i,r.setCell hT _⟩,?_,?_⟩
 ·have:=p.set_ 1 (.slice E (s.1.length+1) c3);rw[y];simpa using this
 ·rw[y,G];have x:=J.len;rcases J.own with⟨_,h0,_⟩|⟨g,rfl,hB,H,F,I⟩
  ·omega
  ·exact Mine.mk_own (I.far (i g rfl).1 _) x hB H F
 ·exact Nat.le_trans (by simp) (Nat.le_trans v.size (by simp[World.setCell]))
 ·intro g t cs hk h1 D h3;exact((hk.alloc o).grown v (b g t cs hk h3)).far h1 _
end
theorem Vp_:(prog.info? 68).map (fun i=>(i.zero,i.size,i.bytes))=some (some (.agg #[.int .i64 0,.string ⟨#[]⟩,.int .i64 0,.bool false]),4,40):=by kernel_rfl
theorem UM_ (w:World) (d:SgD) (t:TypeId):∀j v,(QX_ d)[j]? =some v->(w.alloc (.cells #[.int .i64 d.1,.string d.2,.int .i64 0,.bool false] t)).cell? ((⟨w.heap.size,0,none⟩:Addr).add j)=some v:=by
 intro j v a;have b:=Blk.new w t #[.int .i64 d.1,.string d.2,.int .i64 0,.bool false]
 match j,a with
 |0,a=>obtain rfl:=Option.some.inj a;exact b.cell 0
 |1,a=>obtain rfl:=Option.some.inj a;exact b.cell 1
 |2,a=>obtain rfl:=Option.some.inj a;exact b.cell 2
 |3,a=>obtain rfl:=Option.some.inj a;exact b.cell 3
 |j+4,a=>simp[QX_]at a
theorem VB_ (d:SgD):∀u∈QX_ d,u.oneCell'=true:=by
 intro u hu;simp[QX_]at hu;rcases hu with rfl|rfl|rfl|rfl<;>rfl
def Xy_ (ty:TypeId) (T Sb:Nat) (A:OA) (n c:Nat) (w0 w:World) (s':TS) (e:Ending) (w':World):Prop:=e=.returned (.tuple #[])/\TL ty T Sb A n c w0 s' w'/\Kp T Sb w w'
theorem Je_ (T Sb:Nat) (A:OA) (n c:Nat) (w0 w:World) (s:TS) (k:Int) (t:BA) (h:TL 97 T Sb A n c w0 s w) (hs:s.1.length<=1000000):
  Calls prog 112 #[.pointer (some ⟨T,0,none⟩),.int .i64 k,.string t] w (Xy_ 97 T Sb A n c w0 w (s.1++[(k,t)],s.2)):=by
 obtain⟨AS,cS,d,p,ho,hl,q,hT,hS,r,e⟩:=h;obtain⟨i0,hi,i,j,l⟩:=info_parts Vp_;have m:=hid (And.intro hi (And.intro i (And.intro j l)));have HM:=hid p;have HP:=hid (fun(o:Obj) (v':Value) (w3:World)=>TL.push (ty:=97) (s:=s) (o:=o) (v':=v') (w3:=w3) (by decide) d p ho hl q hT hS e (k,t));have HB:=hid (fun(o:Obj) (w3:World)=>zU_ (o:=o) (w3:=w3) d (by decide) p);have k1:=d.q1;have kf:=d.frozen;have kz:=d.lt;clear hi i j l p ho r;unfold Xy_;go_enter func112,ntmps112;go_wp2_with (at_builtin;(refine wpList_append_own _ rfl (.tmp 10) (.tmp 14) _ rfl w0.heap.size 68 i0 (.agg #[.int .i64 0,.string ⟨#[]⟩,.int .i64 0,.bool false]) 4 40 underlying57 m.o.1 m.o.2.1 m.o.2.2.1 m.o.2.2.2 rfl (by decide) _ _ _ rfl (Mine.alloc HM.o _) ⟨w.heap.size,0,none⟩ 1 1 (QX_ (k,t)) rfl rfl (UM_ _ (k,t) _) (VB_ _) (by unfold maxLen;omega) oo (by have:=e.size;simp;omega) ?_);intro v' w3 a g v;(obtain⟨A3,c3,rfl,m3⟩:=Mine.of a);(have b:=HB.o _ _ g);(have x:=b.cell 1);(have f3:=b.frozen);(have z3:=b.lt);simp only[List.getElem?_toArray,List.getElem?_cons_zero,List.getElem?_cons_succ]at x)
 have f:=HP.o _ _ _ a g;go_wp2;go_end0;exact⟨rfl,f⟩
def GI_ (s:TS) (d:SgD):TS:=(s.1++[d],s.2)
theorem Uc_ (T Sb:Nat) (A:OA) (n c:Nat) (w0 w:World) (s:TS) (t:BA) (h:TL 97 T Sb A n c w0 s w) (hs:s.1.length<=1000000):
  Calls prog 108 #[.pointer (some ⟨T,0,none⟩),.string t] w (Xy_ 97 T Sb A n c w0 w (GI_ s (1,t))):=by
 have H:=hid (Je_ T Sb A n c w0 w s 1 t h hs);unfold Xy_ GI_;clear h;go_enter func108,ntmps108;go_wp2_with fail
 refine(H.o).mono ?_;rintro e w2 ⟨rfl,h1,h2⟩;go_wp2;go_end0;exact⟨rfl,h1,h2⟩
theorem ZE_ (T Sb:Nat) (A:OA) (n c:Nat) (w0 w:World) (s:TS) (t:BA) (h:TL 97 T Sb A n c w0 s w) (hs:s.1.length<=1000000):
  Calls prog 109 #[.pointer (some ⟨T,0,none⟩),.string t] w (Xy_ 97 T Sb A n c w0 w (GI_ s (4,t))):=by
 have H:=hid (Je_ T Sb A n c w0 w s 4 t h hs);unfold Xy_ GI_;clear h;go_enter func109,ntmps109;go_wp2_with fail
 refine(H.o).mono ?_;rintro e w2 ⟨rfl,h1,h2⟩;go_wp2;go_end0;exact⟨rfl,h1,h2⟩
theorem kJ_ (T Sb:Nat) (A:OA) (n c:Nat) (w0 w:World) (m:TS) (t:BA) (h:TL 76 T Sb A n c w0 m w) (hs:m.1.length<=1000000):
  Calls prog 151 #[.pointer (some ⟨T,0,none⟩),.string t] w (Xy_ 76 T Sb A n c w0 w (GI_ m (1,t))):=by
 obtain⟨AS,cS,d,p,ho,hl,q,hT,hS,r,e⟩:=h;obtain⟨i0,hi,i,j,k⟩:=info_parts Vp_;have l:=hid (And.intro hi (And.intro i (And.intro j k)));have HM:=hid p;have HP:=hid (fun(o:Obj) (v':Value) (w3:World)=>TL.push (ty:=76) (s:=m) (o:=o) (v':=v') (w3:=w3) (by decide) d p ho hl q hT hS e (1,t));have HB:=hid (fun(o:Obj) (w3:World)=>zU_ (o:=o) (w3:=w3) d (by decide) p);have k1:=d.q1;have kf:=d.frozen;have kz:=d.lt;clear hi i j k p ho r;unfold Xy_ GI_;go_enter func151,ntmps151;go_wp2_with (at_builtin;(refine wpList_append_own _ rfl (.tmp 8) (.tmp 11) _ rfl w0.heap.size 68 i0 (.agg #[.int .i64 0,.string ⟨#[]⟩,.int .i64 0,.bool false]) 4 40 underlying57 l.o.1 l.o.2.1 l.o.2.2.1 l.o.2.2.2 rfl (by decide) _ _ _ rfl (Mine.alloc HM.o _) ⟨w.heap.size,0,none⟩ 1 1 (QX_ (1,t)) rfl rfl (UM_ _ (1,t) _) (VB_ _) (by unfold maxLen;omega) oo (by have:=e.size;simp;omega) ?_);intro v' w3 a g v;(obtain⟨A3,c3,rfl,m3⟩:=Mine.of a);(have b:=HB.o _ _ g);(have x:=b.cell 1);(have f3:=b.frozen);(have z3:=b.lt);simp only[List.getElem?_toArray,List.getElem?_cons_zero,List.getElem?_cons_succ]at x)
 have f:=HP.o _ _ _ a g;go_wp2;go_end0;exact⟨rfl,f⟩
def Va_ (s:TS) (ts:List BA):TS:=(s.1++ts.map (fun t=>((4:Int),t)),s.2)
theorem jp_ {s:TS} {a:List BA} {k:Nat} {t:BA} (h:a[k]? =some t):Va_ s (a.take (k+1))=GI_ (Va_ s (a.take k)) (4,t):=by
 unfold Va_ GI_;rw[List.take_add_one,h];simp
theorem JD_ (T Sb:Nat) (A:OA) (n c:Nat) (w0 w:World) (s:TS) (a:List BA) (g:Nat) (h:TL 76 T Sb A n c w0 s w) (hs:s.1.length+a.length<=1000000) (hg:Blk w g 9 (a.map Value.string).toArray) (I:g≠T) (H:g≠Sb):
  Calls prog 152 #[.pointer (some ⟨T,0,none⟩),.slice (some ⟨g,0,none⟩) a.length a.length] w (Xy_ 76 T Sb A n c w0 w (Va_ s a)):=by
 unfold Xy_;have D:=hid h;have HG:=hid hg;clear h hg;go_enter func152,ntmps152;go_wp2;go_loopw [8] (fun i wr=>∃k:Nat,k<=a.length/\i=.int .i64 k/\TL 76 T Sb A n c w0 (Va_ s (a.take k)) wr/\Kp T Sb w wr) (fun i _=>a.length - (intOf i).toNat)
 case atStart=>exact⟨0,Nat.zero_le _,rfl,by simpa[Va_]using D.o,Kp.refl _ _ _⟩
 case round=>
  obtain⟨k,hk,rfl,f,e⟩:=hrel;by_cases J:k < a.length
  ·obtain⟨t,hd⟩:∃d,a[k]? =some d:=⟨_,List.getElem?_eq_getElem J⟩;have E:=HG.o.kp e I H (by decide);have gk:wr.cell? ⟨g,k,none⟩=some (.string t):=(by rw[E.cell];simp[hd]);have gz:=E.lt;have N:(k:Int) < a.length:=oo;have v:=hid (jp_ (s:=s) hd);have r:(Va_ s (a.take k)).1.length<=1000000:=(by unfold Va_;simp;omega);generalize Va_ s (a.take k)=SS at f v r;have F:=hid e;obtain⟨AS,cS,m,C,ho,hl,G,hT,hS,K,p⟩:=f;obtain⟨i0,hi,x,y,z⟩:=info_parts Vp_;have B:=hid (And.intro hi (And.intro x (And.intro y z)));have HM:=hid C;have HP:=hid (fun(o:Obj) (v':Value) (w3:World)=>TL.push (ty:=76) (s:=SS) (o:=o) (v':=v') (w3:=w3) (by decide) m C ho hl G hT hS p (4,t));have HB:=hid (fun(o:Obj) (w3:World)=>zU_ (o:=o) (w3:=w3) m (by decide) C);have k1:=m.q1;have kf:=m.frozen;have kz:=m.lt;clear hi x y z C ho K;clear e hd E;go_wp2_with (at_builtin;(refine wpList_append_own _ rfl (.tmp 16) (.tmp 19) _ rfl w0.heap.size 68 i0 (.agg #[.int .i64 0,.string ⟨#[]⟩,.int .i64 0,.bool false]) 4 40 underlying57 B.o.1 B.o.2.1 B.o.2.2.1 B.o.2.2.2 rfl (by decide) _ _ _ rfl (Mine.alloc HM.o _) ⟨wr.heap.size,0,none⟩ 1 1 (QX_ (4,t)) rfl rfl (UM_ _ (4,t) _) (VB_ _) (by unfold maxLen;omega) oo (by have:=p.size;simp;omega) ?_);intro v' w3 b q L;(obtain⟨A3,c3,rfl,m3⟩:=Mine.of b);(have l:=HB.o _ _ q);(have M:=l.cell 1);(have f3:=l.frozen);(have z3:=l.lt);simp only[List.getElem?_toArray,List.getElem?_cons_zero,List.getElem?_cons_succ]at M)
   have j:=HP.o _ _ _ b q;go_wp2;go_roundw
   case rel=>exact⟨k+1,oo,by go_num,by rw[v.o];exact j.1,F.o.trans j.2⟩
   case measure=>simp[intOf];omega
  ·obtain rfl:k=a.length:=oo;rw[List.take_length]at f;go_wp2;go_end0;exact⟨rfl,f,e⟩
inductive Ev
 |sg (k:Int) (t:BA)
 |kid (j:Int)
def zm_ (f:Nat->TS->TS) (s:TS):Ev->TS
 |.sg k t=>GI_ s (k,t)
 |.kid j=>f j.toNat s
def Ki_ (f:Nat->TS->TS) (s:TS) (es:List Ev):TS:=es.foldl (zm_ f) s
def Mono (f:Nat->TS->TS):Prop:=∀k s,s.1.length<=(f k s).1.length
section
variable {f:Nat->TS->TS} {s:TS} {es fs:List Ev}
theorem ZL_:Ki_ f s (es++fs)=Ki_ f (Ki_ f s es) fs:=List.foldl_append
theorem JZ_ {e:Ev}:Ki_ f s (e::es)=Ki_ f (zm_ f s e) es:=rfl
theorem Qbn_ (h:Mono f) (e:Ev):s.1.length<=(zm_ f s e).1.length:=by
 cases e with
 |sg k t=>simp[zm_,GI_]
 |kid j=>exact h _ _
theorem Wx_ (h:Mono f):∀(es:List Ev) (s:TS),s.1.length<=(Ki_ f s es).1.length:=by
 intro es
 induction es with
 |nil=>intro s;exact Nat.le_refl _
 |cons e es ih=>intro s;rw[JZ_];exact Nat.le_trans (Qbn_ h e) (ih _)
theorem XQ_ (h:Mono f) {N:Nat} (hb:(Ki_ f s (es++fs)).1.length<=N):(Ki_ f s es).1.length<=N:=by
 rw[ZL_]at hb;exact Nat.le_trans (Wx_ h fs _) hb
end
def mkE (t:BA):Ev:=.sg 4 t
def KG_ (mk:BA):LI->List Ev
 |[]=>[]
 |k::r=>.kid k::r.flatMap (fun v=>[mkE mk,.kid v])
def Xz_ (ks:LI):List Ev:=ks.map .kid
theorem vN_ (mk:BA) {a:LI} (ha:a≠[]) (b:LI):KG_ mk (a++b)=KG_ mk a++b.flatMap (fun v=>[mkE mk,.kid v]):=by
 cases a with
 |nil=>exact absurd rfl ha
 |cons x a=>simp[KG_]
theorem J2_ {mk:BA} {ks:LI} {i:Nat} {v:Int} (hv:ks[i]? =some v):KG_ mk (ks.take (i+1))=KG_ mk (ks.take i)++(if 0 < i then [mkE mk,.kid v]else [.kid v]):=by
 rw[List.take_add_one,hv];have hl:=(List.getElem?_eq_some_iff.1 hv).1;by_cases hi:0 < i
 ·rw[vN_ mk (by intro e;have:=congrArg List.length e;rw[List.length_take,List.length_nil]at this;omega),if_pos hi];simp
 ·obtain rfl:i=0:=oo;simp[KG_]
theorem UI_ (mk:BA) (ks:LI) (i:Nat):∃fs,KG_ mk ks=KG_ mk (ks.take i)++fs:=by
 by_cases h:ks.take i=[]
 ·exact⟨KG_ mk ks,by rw[h];rfl⟩
 ·refine⟨(ks.drop i).flatMap (fun v=>[mkE mk,.kid v]),?_⟩
  conv=>lhs;rw[<-List.take_append_drop i ks]
  exact vN_ mk h _
theorem q8_ {ks:LI} {i:Nat} {v:Int} (hv:ks[i]? =some v):Xz_ (ks.take (i+1))=Xz_ (ks.take i)++[.kid v]:=by
 rw[List.take_add_one,hv];simp[Xz_]
theorem j8_ (ks:LI) (i:Nat):∃fs,Xz_ ks=Xz_ (ks.take i)++fs:=⟨Xz_ (ks.drop i),by unfold Xz_;rw[<-List.map_append,List.take_append_drop]⟩
def t1 (n:Nat):BA:=⟨#[n.toUInt8]⟩
def evs (p:PN):List Ev:=
 let k:=p.kids
 let kd:=fun(i:Nat)=>Ev.kid (k.getD i 0)
 if p.kind=1 then [.sg 1 p.text]
 else if p.kind=2 then [.sg 2 p.text]
 else if p.kind=3 then [.sg 3 p.text]
 else if p.kind=4 then mkE ⟨#[91]⟩::(KG_ ⟨#[44]⟩ k++[mkE ⟨#[93]⟩])
 else if p.kind=5 then kd 0::mkE ⟨#[40]⟩::(KG_ ⟨#[44]⟩ (k.drop 1)++[mkE ⟨#[41]⟩])
 else if p.kind=6 then [kd 0,mkE ⟨#[46]⟩,.sg 1 p.text]
 else if p.kind=7 then KG_ p.text k
 else if p.kind=8 then [kd 0,mkE ⟨#[63]⟩,kd 1,mkE ⟨#[58]⟩,kd 2]
 else if p.kind=9 then mkE ⟨#[40]⟩::(KG_ ⟨#[44]⟩ (k.take (k.length - 1))++[mkE ⟨#[41]⟩,mkE ⟨#[61,62]⟩,kd (k.length - 1)])
 else if p.kind=10 then KG_ ⟨#[46,46]⟩ k
 else if p.kind=11 then [mkE ⟨#[40]⟩,kd 0,mkE ⟨#[41]⟩]
 else if p.kind=12 then .sg 1 ⟨#[118,97,114]⟩::.sg 1 p.text::((if 0 < k.length then [mkE ⟨#[61]⟩]else [])++(Xz_ k++[mkE ⟨#[59]⟩]))
 else if p.kind=13 then .sg 1 p.text::((if 0 < k.length then [mkE ⟨#[61]⟩]else [])++(Xz_ k++[mkE ⟨#[59]⟩]))
 else if p.kind=14 then Xz_ k++[mkE ⟨#[59]⟩]
 else if p.kind=15 then .sg 1 ⟨#[114,101,116,117,114,110]⟩::(Xz_ k++[mkE ⟨#[59]⟩])
 else if p.kind=16 then .sg 1 ⟨#[105,102]⟩::mkE ⟨#[40]⟩::kd 0::mkE ⟨#[41]⟩::kd 1::(if k.length=3 then [.sg 1 ⟨#[101,108,115,101]⟩,kd 2]else [])
 else if p.kind=17 then [.sg 1 ⟨#[119,104,105,108,101]⟩,mkE ⟨#[40]⟩,kd 0,mkE ⟨#[41]⟩,kd 1]
 else if p.kind=18 then mkE ⟨#[123]⟩::(Xz_ k++[mkE ⟨#[125]⟩])
 else if p.kind=19 then [.sg 5 p.text]
 else if p.kind=20 then .sg 1 p.text::mkE ⟨#[40]⟩::(KG_ ⟨#[44]⟩ (k.take (k.length - 1))++[mkE ⟨#[41]⟩,kd (k.length - 1)])
 else if p.kind=21 then .sg 1 ⟨#[99,108,97,115,115]⟩::.sg 1 p.text::mkE ⟨#[123]⟩::(Xz_ k++[mkE ⟨#[125]⟩])
 else if p.kind=22 then Xz_ k
 else []
def Qn_ (ps:List PN):Nat->Nat->TS->TS
 |0,_,s=>s
 |f+1,k,s=>match ps[k]? with|none=>s|some p=>Ki_ (Qn_ ps f) (s.1,s.2.set k (s.1.length:Int)) (evs p)
theorem QH_ (ps:List PN):∀f,Mono (Qn_ ps f):=by
 intro f
 induction f with
 |zero=>intro k s;exact Nat.le_refl _
 |succ f ih=>
  intro k s;unfold Qn_
  cases ps[k]? with
  |none=>exact Nat.le_refl _
  |some p=>exact Wx_ ih (evs p) (s.1,s.2.set k (s.1.length:Int))
theorem GU_ {ps:List PN} {f k:Nat} {p:PN} (h:ps[k]? =some p) (s:TS):Qn_ ps (f+1) k s=Ki_ (Qn_ ps f) (s.1,s.2.set k (s.1.length:Int)) (evs p):=by
 conv=>lhs;unfold Qn_
 rw[h]
def Yt_ (F:FuncId) (ty:TypeId) (T Sb:Nat) (A:OA) (n c:Nat) (w0:World) (ps:List PN) (f:Nat):Prop:=
 ∀(j:Nat) (s:TS) (w:World),j < f->j < n->TL ty T Sb A n c w0 s w->(Qn_ ps f j s).1.length<=1000000->Calls prog F #[.pointer (some ⟨T,0,none⟩),.int .i64 j] w (Xy_ ty T Sb A n c w0 w (Qn_ ps f j s))
theorem GY_ (T Sb:Nat) (A:OA) (n c:Nat) (w0 w:World) (s:TS) (t:BA) (g:Nat) (h:TL 76 T Sb A n c w0 s w) (hs:s.1.length+1<=1000000) (hg:Blk w g 9 #[.string t]) (b:g≠T) (a:g≠Sb):
  Calls prog 152 #[.pointer (some ⟨T,0,none⟩),.slice (some ⟨g,0,none⟩) 1 1] w (Xy_ 76 T Sb A n c w0 w (GI_ s (4,t))):=
 JD_ T Sb A n c w0 w s [t] g h hs hg b a
theorem kF_ (T Sb:Nat) (A:OA) (n c:Nat) (w0 w:World) (s:TS) (t u:BA) (g:Nat) (h:TL 76 T Sb A n c w0 s w) (hs:s.1.length+2<=1000000) (hg:Blk w g 9 #[.string t,.string u]) (b:g≠T) (a:g≠Sb):
  Calls prog 152 #[.pointer (some ⟨T,0,none⟩),.slice (some ⟨g,0,none⟩) 2 2] w (Xy_ 76 T Sb A n c w0 w (GI_ (GI_ s (4,t)) (4,u))):=by
 have:=JD_ T Sb A n c w0 w s [t,u] g h hs hg b a;rwa[show Va_ s [t,u]=GI_ (GI_ s (4,t)) (4,u)by simp[Va_,GI_]]at this
theorem kD_ (T Sb:Nat) (A:OA) (n c:Nat) (w0 w:World) (ps:List PN) (f:Nat) (A':OA) (m c':Nat) (l:LI) (mk:BA) (s:TS) (hN:Yt_ 85 76 T Sb A n c w0 ps f) (hl:Hid (l.length=m)) (hm:m<=4096) (hr:Rd w0 1 A' m (Qa_ l)) (hv:Hid (∀v∈l,0<=v/\v < (f:Int)/\v < (n:Int))) (h:TL 76 T Sb A n c w0 s w) (hs:(Ki_ (Qn_ ps f) s (KG_ mk l)).1.length<=1000000):
  Calls prog 153 #[.pointer (some ⟨T,0,none⟩),.slice A' m c',.string mk] w (Xy_ 76 T Sb A n c w0 w (Ki_ (Qn_ ps f) s (KG_ mk l))):=by
 unfold Xy_;have G:=hid h;have HN:=hid hN;have HR:=hid hr;have HS:=hid (fun i=>(show(Ki_ (Qn_ ps f) s (KG_ mk (l.take i))).1.length<=1000000 by
  obtain⟨fs,J⟩:=UI_ mk l i;rw[J]at hs;exact XQ_ (QH_ ps f) hs))
 clear h hN hr hs;go_enter func153,ntmps153;go_wp2;go_loopw [10] (fun j wr=>∃i:Nat,i<=m/\j=.int .i64 i/\TL 76 T Sb A n c w0 (Ki_ (Qn_ ps f) s (KG_ mk (l.take i))) wr/\Kp T Sb w wr) (fun j _=>m - (intOf j).toNat)
 case atStart=>exact⟨0,Nat.zero_le _,rfl,by simpa[Ki_,KG_,Xz_]using G.o,Kp.refl _ _ _⟩
 case round=>
  obtain⟨i,hi,rfl,k,t⟩:=hrel;by_cases M:i < m
  ·obtain⟨v,hd⟩:∃d,l[i]? =some d:=⟨_,gE (by have:=hl.o;omega)⟩;have F:=hv.o v (List.mem_of_getElem? hd);obtain⟨q,rfl⟩:=Int.eq_ofNat_of_zero_le F.1;have D:q < f:=oo;have E:q < n:=oo;have gi:(i:Int) < m:=oo;obtain⟨b5,O,rfl,I,cv⟩:=Ql_ (HR.o.below k.below) M hd;have a:=HS.o (i+1);have HD:=hid hd;have o:=hid k;have r:=hid t;have zT:=k.blkT;have zS:=k.blkS;clear F hd k t;have x:=hid (J2_ (mk:=mk) HD.o);by_cases B:0 < i
   ·have C:(0:Int) < i:=oo;have b:=hid (show Ki_ (Qn_ ps f) s (KG_ mk (l.take (i+1)))=Qn_ ps f q (GI_ (Ki_ (Qn_ ps f) s (KG_ mk (l.take i))) (4,mk))by
     rw[x.o,if_pos B,ZL_];rfl)
    rw[b.o]at a;have p:(Ki_ (Qn_ ps f) s (KG_ mk (l.take i))).1.length+1<=1000000:=by
     have:=Nat.le_trans (QH_ ps f q (GI_ (Ki_ (Qn_ ps f) s (KG_ mk (l.take i))) (4,mk))) a;simpa[GI_]using this
    generalize Ki_ (Qn_ ps f) s (KG_ mk (l.take i))=H at o b a p;clear x;have HM:=hid (fun(W:World) (g:Nat) (ht:TL 76 T Sb A n c w0 H W) (hg:Blk W g 9 #[.string mk]) h1 h2=>GY_ T Sb A n c w0 W H mk g ht p hg h1 h2);go_wp2_with fail
    refine(HM.o _ _ (o.o.alloc _) (Blk.new _ _ _) oo oo).mono ?_;rintro e w2 ⟨rfl,N,K⟩;have L:=r.o.trans K.of_alloc;go_wp2_with fail
    refine(HN.o q _ _ D E N a).mono ?_;rintro e w3 ⟨rfl,z,y⟩;go_wp2;go_roundw
    case rel=>exact⟨i+1,oo,by go_num,(by rw[b.o];exact z),L.trans y⟩
    case measure=>simp[intOf];omega
   ·have C:¬(0:Int) < i:=oo;have b:=hid (show Ki_ (Qn_ ps f) s (KG_ mk (l.take (i+1)))=Qn_ ps f q (Ki_ (Qn_ ps f) s (KG_ mk (l.take i)))by
     rw[x.o,if_neg B,ZL_];rfl)
    rw[b.o]at a;generalize Ki_ (Qn_ ps f) s (KG_ mk (l.take i))=H at o b a;clear x;go_wp2_with fail
    refine(HN.o q _ _ D E o.o a).mono ?_;rintro e w3 ⟨rfl,z,y⟩;go_wp2;go_roundw
    case rel=>exact⟨i+1,oo,by go_num,(by rw[b.o];exact z),r.o.trans y⟩
    case measure=>simp[intOf];omega
  ·obtain rfl:i=m:=oo;rw[show l.take i=l by rw[List.take_of_length_le (by have:=hl.o;omega)]]at k;have o:=hid k;have r:=hid t;clear k t;go_wp2;go_end0;exact⟨rfl,o.o,r.o⟩
theorem kA_ (T Sb:Nat) (A:OA) (n c:Nat) (w0 w:World) (ps:List PN) (f:Nat) (A':OA) (m c':Nat) (l:LI) (s:TS) (hN:Yt_ 85 76 T Sb A n c w0 ps f) (hl:Hid (l.length=m)) (hm:m<=4096) (hr:Rd w0 1 A' m (Qa_ l)) (hv:Hid (∀v∈l,0<=v/\v < (f:Int)/\v < (n:Int))) (h:TL 76 T Sb A n c w0 s w) (hs:(Ki_ (Qn_ ps f) s (Xz_ l)).1.length<=1000000):
  Calls prog 154 #[.pointer (some ⟨T,0,none⟩),.slice A' m c'] w (Xy_ 76 T Sb A n c w0 w (Ki_ (Qn_ ps f) s (Xz_ l))):=by
 unfold Xy_;have t:=hid h;have HN:=hid hN;have HR:=hid hr;have HS:=hid (fun i=>(show(Ki_ (Qn_ ps f) s (Xz_ (l.take i))).1.length<=1000000 by
  obtain⟨fs,y⟩:=j8_ l i;rw[y]at hs;exact XQ_ (QH_ ps f) hs))
 clear h hN hr hs;go_enter func154,ntmps154;go_wp2;go_loopw [8] (fun j wr=>∃i:Nat,i<=m/\j=.int .i64 i/\TL 76 T Sb A n c w0 (Ki_ (Qn_ ps f) s (Xz_ (l.take i))) wr/\Kp T Sb w wr) (fun j _=>m - (intOf j).toNat)
 case atStart=>exact⟨0,Nat.zero_le _,rfl,by simpa[Ki_,KG_,Xz_]using t.o,Kp.refl _ _ _⟩
 case round=>
  obtain⟨i,hi,rfl,a,o⟩:=hrel;by_cases B:i < m
  ·obtain⟨v,hd⟩:∃d,l[i]? =some d:=⟨_,gE (by have:=hl.o;omega)⟩;have r:=hv.o v (List.mem_of_getElem? hd);obtain⟨q,rfl⟩:=Int.eq_ofNat_of_zero_le r.1;have C:q < f:=oo;have D:q < n:=oo;have gi:(i:Int) < m:=oo;obtain⟨b5,F,rfl,x,cv⟩:=Ql_ (HR.o.below a.below) B hd;have b:=HS.o (i+1);have HD:=hid hd;have k:=hid a;have p:=hid o;have zT:=a.blkT;have zS:=a.blkS;clear r hd a o;have g:=hid (show Ki_ (Qn_ ps f) s (Xz_ (l.take (i+1)))=Qn_ ps f q (Ki_ (Qn_ ps f) s (Xz_ (l.take i)))by
    rw[q8_ HD.o,ZL_];rfl)
   rw[g.o]at b;generalize Ki_ (Qn_ ps f) s (Xz_ (l.take i))=SI at k g b;go_wp2_with fail
   refine(HN.o q _ _ C D k.o b).mono ?_;rintro e w3 ⟨rfl,E,z⟩;go_wp2;go_roundw
   case rel=>exact⟨i+1,oo,by go_num,(by rw[g.o];exact E),p.o.trans z⟩
   case measure=>simp[intOf];omega
  ·obtain rfl:i=m:=oo;rw[show l.take i=l by rw[List.take_of_length_le (by have:=hl.o;omega)]]at a;have k:=hid a;have p:=hid o;clear a o;go_wp2;go_end0;exact⟨rfl,k.o,p.o⟩
theorem xD_ (T Sb:Nat) (A:OA) (n c:Nat) (w0 w:World) (ps:List PN) (f:Nat) (A':OA) (m c':Nat) (l:LI) (s:TS) (hN:Yt_ 80 97 T Sb A n c w0 ps f) (hl:Hid (l.length=m)) (hm:m<=4096) (hr:Rd w0 1 A' m (Qa_ l)) (hv:Hid (∀v∈l,0<=v/\v < (f:Int)/\v < (n:Int))) (h:TL 97 T Sb A n c w0 s w) (hs:(Ki_ (Qn_ ps f) s (KG_ ⟨#[44]⟩ l)).1.length<=1000000):
  Calls prog 113 #[.pointer (some ⟨T,0,none⟩),.slice A' m c'] w (Xy_ 97 T Sb A n c w0 w (Ki_ (Qn_ ps f) s (KG_ ⟨#[44]⟩ l))):=by
 unfold Xy_;have H:=hid h;have HN:=hid hN;have HR:=hid hr;have HS:=hid (fun i=>(show(Ki_ (Qn_ ps f) s (KG_ ⟨#[44]⟩ (l.take i))).1.length<=1000000 by
  obtain⟨fs,L⟩:=UI_ ⟨#[44]⟩ l i;rw[L]at hs;exact XQ_ (QH_ ps f) hs))
 clear h hN hr hs;go_enter func113,ntmps113;go_wp2;go_loopw [4] (fun j wr=>∃i:Nat,i<=m/\j=.int .i64 i/\TL 97 T Sb A n c w0 (Ki_ (Qn_ ps f) s (KG_ ⟨#[44]⟩ (l.take i))) wr/\Kp T Sb w wr) (fun j _=>m - (intOf j).toNat)
 case atStart=>exact⟨0,Nat.zero_le _,rfl,by simpa[Ki_,KG_,Xz_]using H.o,Kp.refl _ _ _⟩
 case round=>
  obtain⟨i,hi,rfl,g,p⟩:=hrel;by_cases C:i < m
  ·obtain⟨v,hd⟩:∃d,l[i]? =some d:=⟨_,gE (by have:=hl.o;omega)⟩;have G:=hv.o v (List.mem_of_getElem? hd);obtain⟨q,rfl⟩:=Int.eq_ofNat_of_zero_le G.1;have D:q < f:=oo;have E:q < n:=oo;have gi:(i:Int) < m:=oo;obtain⟨b5,O,rfl,J,cv⟩:=Ql_ (HR.o.below g.below) C hd;have a:=HS.o (i+1);have HD:=hid hd;have k:=hid g;have o:=hid p;have zT:=g.blkT;have zS:=g.blkS;clear G hd g p;have r:=hid (J2_ (mk:=⟨#[44]⟩) HD.o);by_cases z:0 < i
   ·have B:(0:Int) < i:=oo;have b:=hid (show Ki_ (Qn_ ps f) s (KG_ ⟨#[44]⟩ (l.take (i+1)))=Qn_ ps f q (GI_ (Ki_ (Qn_ ps f) s (KG_ ⟨#[44]⟩ (l.take i))) (4,⟨#[44]⟩))by
     rw[r.o,if_pos z,ZL_];rfl)
    rw[b.o]at a;have x:(Ki_ (Qn_ ps f) s (KG_ ⟨#[44]⟩ (l.take i))).1.length+1<=1000000:=by
     have:=Nat.le_trans (QH_ ps f q (GI_ (Ki_ (Qn_ ps f) s (KG_ ⟨#[44]⟩ (l.take i))) (4,⟨#[44]⟩))) a;simpa[GI_]using this
    generalize Ki_ (Qn_ ps f) s (KG_ ⟨#[44]⟩ (l.take i))=SI at k b a x;clear r;have HM:=hid (ZE_ T Sb A n c w0 wr SI ⟨#[44]⟩ k.o oo);go_wp2_with fail
    refine(HM.o).mono ?_;rintro e w2 ⟨rfl,F,M⟩;have N:=o.o.trans M;obtain⟨b6,P,I,K,Q⟩:=Ql_ (HR.o.below F.below) C HD.o;injection I with I;injection I with e61 e62;subst e61;subst e62;go_wp2_with fail
    refine(HN.o q _ _ D E F a).mono ?_;rintro e w3 ⟨rfl,y,t⟩;go_wp2;go_roundw
    case rel=>exact⟨i+1,oo,by go_num,(by rw[b.o];exact y),N.trans t⟩
    case measure=>simp[intOf];omega
   ·have B:¬(0:Int) < i:=oo;have b:=hid (show Ki_ (Qn_ ps f) s (KG_ ⟨#[44]⟩ (l.take (i+1)))=Qn_ ps f q (Ki_ (Qn_ ps f) s (KG_ ⟨#[44]⟩ (l.take i)))by
     rw[r.o,if_neg z,ZL_];rfl)
    rw[b.o]at a;generalize Ki_ (Qn_ ps f) s (KG_ ⟨#[44]⟩ (l.take i))=SI at k b a;clear r;go_wp2_with fail
    refine(HN.o q _ _ D E k.o a).mono ?_;rintro e w3 ⟨rfl,y,t⟩;go_wp2;go_roundw
    case rel=>exact⟨i+1,oo,by go_num,(by rw[b.o];exact y),o.o.trans t⟩
    case measure=>simp[intOf];omega
  ·obtain rfl:i=m:=oo;rw[show l.take i=l by rw[List.take_of_length_le (by have:=hl.o;omega)]]at g;have k:=hid g;have o:=hid p;clear g p;go_wp2;go_end0;exact⟨rfl,k.o,o.o⟩
theorem jH_ (T Sb:Nat) (A:OA) (n c:Nat) (w0 w:World) (ps:List PN) (f:Nat) (A':OA) (m c':Nat) (l:LI) (s:TS) (hN:Yt_ 80 97 T Sb A n c w0 ps f) (hl:Hid (l.length=m)) (hm:m<=4096) (hr:Rd w0 1 A' m (Qa_ l)) (hv:Hid (∀v∈l,0<=v/\v < (f:Int)/\v < (n:Int))) (h:TL 97 T Sb A n c w0 s w) (hs:(Ki_ (Qn_ ps f) s (Xz_ l)).1.length<=1000000):
  Calls prog 110 #[.pointer (some ⟨T,0,none⟩),.slice A' m c'] w (Xy_ 97 T Sb A n c w0 w (Ki_ (Qn_ ps f) s (Xz_ l))):=by
 unfold Xy_;have t:=hid h;have HN:=hid hN;have HR:=hid hr;have HS:=hid (fun i=>(show(Ki_ (Qn_ ps f) s (Xz_ (l.take i))).1.length<=1000000 by
  obtain⟨fs,y⟩:=j8_ l i;rw[y]at hs;exact XQ_ (QH_ ps f) hs))
 clear h hN hr hs;go_enter func110,ntmps110;go_wp2;go_loopw [4] (fun j wr=>∃i:Nat,i<=m/\j=.int .i64 i/\TL 97 T Sb A n c w0 (Ki_ (Qn_ ps f) s (Xz_ (l.take i))) wr/\Kp T Sb w wr) (fun j _=>m - (intOf j).toNat)
 case atStart=>exact⟨0,Nat.zero_le _,rfl,by simpa[Ki_,KG_,Xz_]using t.o,Kp.refl _ _ _⟩
 case round=>
  obtain⟨i,hi,rfl,a,o⟩:=hrel;by_cases B:i < m
  ·obtain⟨v,hd⟩:∃d,l[i]? =some d:=⟨_,gE (by have:=hl.o;omega)⟩;have r:=hv.o v (List.mem_of_getElem? hd);obtain⟨q,rfl⟩:=Int.eq_ofNat_of_zero_le r.1;have C:q < f:=oo;have D:q < n:=oo;have gi:(i:Int) < m:=oo;obtain⟨b5,F,rfl,x,cv⟩:=Ql_ (HR.o.below a.below) B hd;have b:=HS.o (i+1);have HD:=hid hd;have k:=hid a;have p:=hid o;have zT:=a.blkT;have zS:=a.blkS;clear r hd a o;have g:=hid (show Ki_ (Qn_ ps f) s (Xz_ (l.take (i+1)))=Qn_ ps f q (Ki_ (Qn_ ps f) s (Xz_ (l.take i)))by
    rw[q8_ HD.o,ZL_];rfl)
   rw[g.o]at b;generalize Ki_ (Qn_ ps f) s (Xz_ (l.take i))=SI at k g b;go_wp2_with fail
   refine(HN.o q _ _ C D k.o b).mono ?_;rintro e w3 ⟨rfl,E,z⟩;go_wp2;go_roundw
   case rel=>exact⟨i+1,oo,by go_num,(by rw[g.o];exact E),p.o.trans z⟩
   case measure=>simp[intOf];omega
  ·obtain rfl:i=m:=oo;rw[show l.take i=l by rw[List.take_of_length_le (by have:=hl.o;omega)]]at a;have k:=hid a;have p:=hid o;clear a o;go_wp2;go_end0;exact⟨rfl,k.o,p.o⟩
def LeftE (f:Nat->TS->TS) (s:TS) (es:List Ev) (fin:TS):Prop:=Mono f/\Ki_ f s es=fin/\fin.1.length<=1000000
section
variable {f:Nat->TS->TS} {s fin:TS} {a b:List Ev}
theorem LeftE.seg (h:LeftE f s (a++b) fin):(Ki_ f s a).1.length<=1000000/\LeftE f (Ki_ f s a) b fin:=by
 obtain⟨hm,h1,h2⟩:=h;have h3:(Ki_ f s (a++b)).1.length<=1000000:=by rw[h1];exact h2
 exact⟨XQ_ hm h3,hm,by rw[<-h1,ZL_],h2⟩
theorem LeftE.done (h:LeftE f s [] fin):s=fin:=h.2.1
theorem Z5_ (hm:Mono f) {e:Ev} (h:(Ki_ f s [e]).1.length<=1000000):s.1.length<=1000000:=Nat.le_trans (Wx_ hm [e] s) h
theorem QcT_ {t:BA} (h:(Ki_ f s [mkE t]).1.length<=1000000):s.1.length+1<=1000000:=by simpa[Ki_,zm_,mkE,GI_]using h
theorem QcU_ {t u:BA} (h:(Ki_ f s [mkE t,mkE u]).1.length<=1000000):s.1.length+2<=1000000:=by simpa[Ki_,zm_,mkE,GI_]using h
end
theorem z8_ {W:World} {b off m j:Nat} {l:LI} {v:Int} (h:Rd W 1 (some ⟨b,off,none⟩) m (Qa_ l)) (hj:j < m) (hd:l[j]? =some v):W.cell? ⟨b,off+j,none⟩=some (.int .i64 v):=by
 obtain⟨b',a,e,_,hc⟩:=Ql_ h hj hd;injection e with e;injection e with e1 e2;subst e1;subst e2;exact hc
def Qcd_ (t:BA) (q:Nat):List Ev:=[Ev.sg 1 t,mkE ⟨#[40]⟩,Ev.kid (q:Int),mkE ⟨#[41]⟩]
theorem xx_ (T Sb:Nat) (A:OA) (n c:Nat) (w0 w:World) (ps:List PN) (f:Nat) (t:BA) (q:Nat) (s:TS) (hN:Yt_ 80 97 T Sb A n c w0 ps f) (r:q < f) (v:q < n) (h:TL 97 T Sb A n c w0 s w) (hS:(Ki_ (Qn_ ps f) s (Qcd_ t q)).1.length<=1000000):
  Calls prog 111 #[.pointer (some ⟨T,0,none⟩),.string t,.int .i64 q] w (Xy_ 97 T Sb A n c w0 w (Ki_ (Qn_ ps f) s (Qcd_ t q))):=by
 have k:LeftE (Qn_ ps f) s ([Ev.sg 1 t]++([mkE ⟨#[40]⟩]++([Ev.kid (q:Int)]++([mkE ⟨#[41]⟩]++[])))) (Ki_ (Qn_ ps f) s (Qcd_ t q)):=⟨QH_ ps f,rfl,hS⟩;generalize Ki_ (Qn_ ps f) s (Qcd_ t q)=fin at k |-
 unfold Xy_;have d:=hid k;have HN:=hid hN;have g:=hid h;clear k hN h hS;go_enter func111,ntmps111;have a:=d.o.seg.1;replace d:=hid d.o.seg.2;have i:=hid (fun W h=>Uc_ T Sb A n c w0 W _ t h (Z5_ (QH_ ps f) a));go_wp2_with fail
 refine(i.o _ g.o).mono ?_;rintro e w1 ⟨rfl,b,l⟩;clear i g;have g:=hid (show TL 97 T Sb A n c w0 (Ki_ (Qn_ ps f) s [Ev.sg 1 t]) w1 from b);clear b a;generalize Ki_ (Qn_ ps f) s [Ev.sg 1 t]=S1 at d g;have a:=d.o.seg.1;replace d:=hid d.o.seg.2;have i:=hid (fun W h=>ZE_ T Sb A n c w0 W _ ⟨#[40]⟩ h (Z5_ (QH_ ps f) a));go_wp2_with fail
 refine(i.o _ g.o).mono ?_;rintro e w2 ⟨rfl,b,m⟩;clear i g;have g:=hid (show TL 97 T Sb A n c w0 (Ki_ (Qn_ ps f) S1 [mkE ⟨#[40]⟩]) w2 from b);clear b a;generalize Ki_ (Qn_ ps f) S1 [mkE ⟨#[40]⟩]=S2 at d g;have a:=d.o.seg.1;replace d:=hid d.o.seg.2;have i:=hid (fun W h=>HN.o q _ W r v h a);go_wp2_with fail
 refine(i.o _ g.o).mono ?_;rintro e w3 ⟨rfl,b,o⟩;clear i g;have g:=hid (show TL 97 T Sb A n c w0 (Ki_ (Qn_ ps f) S2 [Ev.kid (q:Int)]) w3 from b);clear b a;generalize Ki_ (Qn_ ps f) S2 [Ev.kid (q:Int)]=S3 at d g;have a:=d.o.seg.1;replace d:=hid d.o.seg.2;have i:=hid (fun W h=>ZE_ T Sb A n c w0 W _ ⟨#[41]⟩ h (Z5_ (QH_ ps f) a));go_wp2_with fail
 refine(i.o _ g.o).mono ?_;rintro e w4 ⟨rfl,b,p⟩;clear i g;have g:=hid (show TL 97 T Sb A n c w0 (Ki_ (Qn_ ps f) S3 [mkE ⟨#[41]⟩]) w4 from b);clear b a;generalize Ki_ (Qn_ ps f) S3 [mkE ⟨#[41]⟩]=S4 at d g;have j:=d.o.done;subst j;clear d HN;go_wp2;go_end0;exact⟨rfl,g.o,((l.trans m).trans o).trans p⟩
structure At (ty:TypeId) (T Sb:Nat) (A:OA) (n c:Nat) (w0 w:World) (FN:FuncId) (ps:List PN) (f:Nat) (fin:TS) (g:Nat) (kd:Int) (text:BA) (A':OA) (m c':Nat) (z:Bool) (l:LI) (s:TS) (es:List Ev) (W:World):Prop where
 ht:TL ty T Sb A n c w0 s W
 K:Blk W g 36 #[.int .i64 kd,.string text,.slice A' m c',.bool z]
 P:Kp T Sb w W
 L:LeftE (Qn_ ps f) s es fin
 gT:g≠T
 gS:g≠Sb
 hl:l.length=m
 hm:m<=12
 hr:Rd w0 1 A' m (Qa_ l)
 hv:∀v∈l,0<=v/\v < (f:Int)/\v < (n:Int)
 N:Yt_ FN ty T Sb A n c w0 ps f
section
variable {ty:TypeId} {T Sb:Nat} {A:OA} {n c:Nat} {w0 w W:World} {FN:FuncId} {ps:List PN} {f:Nat} {fin:TS} {g:Nat} {kd:Int} {text:BA} {A':OA} {m c':Nat} {z:Bool} {l:LI} {s:TS} {es a:List Ev} {b off v v' v'':Nat} {R:Ending->World->Prop} {t u:BA} {A2:OA} {m2 c2:Nat} {l2:LI}
theorem At.new (h:TL ty T Sb A n c w0 s W) (hp:Kp T Sb w W) (hL:LeftE (Qn_ ps f) s es fin) (hN:Yt_ FN ty T Sb A n c w0 ps f) (hv:∀v∈l,0<=v/\v < (f:Int)/\v < (n:Int)) (hr:Rd w0 1 A' m (Qa_ l)) (hl:l.length=m) (hm:m<=12):
  Hid (At ty T Sb A n c w0 w FN ps f fin W.heap.size kd text A' m c' z l s es (W.alloc (.cells #[.int .i64 kd,.string text,.slice A' m c',.bool z] 36))):=
 ⟨h.alloc _,Blk.new _ _ _,hp.alloc _,hL,by have:=h.blkT;omega,by have:=h.blkS;omega,hl,hm,hr,hv,hN⟩
theorem At.facts (H:Hid (At ty T Sb A n c w0 w FN ps f fin g kd text A' m c' z l s es W)):W.cell? ⟨g,0,none⟩=some (.int .i64 kd)/\W.cell? ⟨g,1,none⟩=some (.string text)/\W.cell? ⟨g,2,none⟩=some (.slice A' m c')/\W.cell? ⟨g,3,none⟩=some (.bool z)/\g < W.heap.size/\T < W.heap.size/\Sb < W.heap.size:=
 ⟨H.o.K.cell 0,H.o.K.cell 1,H.o.K.cell 2,H.o.K.cell 3,H.o.K.lt,H.o.ht.blkT,H.o.ht.blkS⟩
theorem At.kid {v:Int} (H:Hid (At ty T Sb A n c w0 w FN ps f fin g kd text (some ⟨b,off,none⟩) m c' z l s es W)) (j:Nat) (hd:l[j]? =some v):W.cell? ⟨b,off+j,none⟩=some (.int .i64 v):=
 z8_ (H.o.hr.below H.o.ht.below) (by rw[<-H.o.hl];exact(List.getElem?_eq_some_iff.1 hd).1) hd
theorem At.kc1 (H:Hid (At ty T Sb A n c w0 w FN ps f fin g kd text (some ⟨b,off,none⟩) m c' z ((v:Int)::l) s es W)):W.cell? ⟨b,off,none⟩=some (.int .i64 v)/\True/\True:=⟨At.kid H 0 rfl,trivial,trivial⟩
theorem At.kc2 (H:Hid (At ty T Sb A n c w0 w FN ps f fin g kd text (some ⟨b,off,none⟩) m c' z [(v:Int),(v':Int)] s es W)):W.cell? ⟨b,off,none⟩=some (.int .i64 v)/\W.cell? ⟨b,off+1,none⟩=some (.int .i64 v')/\True:=⟨At.kid H 0 rfl,At.kid H 1 rfl,trivial⟩
theorem At.kc3 (H:Hid (At ty T Sb A n c w0 w FN ps f fin g kd text (some ⟨b,off,none⟩) m c' z [(v:Int),(v':Int),(v'':Int)] s es W)):W.cell? ⟨b,off,none⟩=some (.int .i64 v)/\W.cell? ⟨b,off+1,none⟩=some (.int .i64 v')/\W.cell? ⟨b,off+2,none⟩=some (.int .i64 v''):=⟨At.kid H 0 rfl,At.kid H 1 rfl,At.kid H 2 rfl⟩
theorem At.kcl (H:Hid (At ty T Sb A n c w0 w FN ps f fin g kd text (some ⟨b,off,none⟩) (m+1) c' z (l++[(v:Int)]) s es W)):W.cell? ⟨b,off+m,none⟩=some (.int .i64 v)/\True/\True:=
 ⟨At.kid H m (by have:=H.o.hl;rw[lA]at this;simp at this;subst this;simp),trivial,trivial⟩
theorem At.next (H:Hid (At ty T Sb A n c w0 w FN ps f fin g kd text A' m c' z l s (a++es) W)) {F:FuncId} {b:Array Value} (hc:(Ki_ (Qn_ ps f) s a).1.length<=1000000->Calls prog F b W (Xy_ ty T Sb A n c w0 W (Ki_ (Qn_ ps f) s a)))
  (k:∀W1 s1,Hid (At ty T Sb A n c w0 w FN ps f fin g kd text A' m c' z l s1 es W1)->R (.returned (.tuple #[])) W1):Calls prog F b W R:=
 (hc H.o.L.seg.1).mono (by rintro e w1 ⟨rfl,h1,h2⟩;exact k w1 _ ⟨h1,H.o.K.kp h2 H.o.gT H.o.gS (by decide),H.o.P.trans h2,H.o.L.seg.2,H.o.gT,H.o.gS,H.o.hl,H.o.hm,H.o.hr,H.o.hv,H.o.N⟩)
theorem At.alloc (H:Hid (At ty T Sb A n c w0 w FN ps f fin g kd text A' m c' z l s es W)) (o:Obj):Hid (At ty T Sb A n c w0 w FN ps f fin g kd text A' m c' z l s es (W.alloc o)):=
 ⟨H.o.ht.alloc o,H.o.K.alloc o,H.o.P.alloc o,H.o.L,H.o.gT,H.o.gS,H.o.hl,H.o.hm,H.o.hr,H.o.hv,H.o.N⟩
theorem At.fin_ (H:Hid (At ty T Sb A n c w0 w FN ps f fin g kd text A' m c' z l s [] W)):TL ty T Sb A n c w0 fin W/\Kp T Sb w W:=by
 have h:=H.o.L.done;subst h;exact⟨H.o.ht,H.o.P⟩
theorem At.one (H:Hid (At ty T Sb A n c w0 w FN ps f fin g kd text A' m c' z l s (Ev.kid (v:Int)::es) W)) (k:∀W1 s1,Hid (At ty T Sb A n c w0 w FN ps f fin g kd text A' m c' z l s1 es W1)->R (.returned (.tuple #[])) W1) (hi:(v:Int)∈l:=by simp):Calls prog FN #[.pointer (some ⟨T,0,none⟩),.int .i64 v] W R:=
 At.next (a:=[Ev.kid (v:Int)]) H (fun hb=>H.o.N v s W (by have:=H.o.hv _ hi;omega) (by have:=H.o.hv _ hi;omega) H.o.ht hb) k
end
section
variable {T Sb:Nat} {A:OA} {n c:Nat} {w0 w W:World} {FN:FuncId} {ps:List PN} {f:Nat} {fin:TS} {g:Nat} {kd:Int} {text:BA} {A':OA} {m c':Nat} {z:Bool} {l:LI} {s:TS} {es:List Ev} {b off v:Nat} {R:Ending->World->Prop} {t u:BA} {A2:OA} {m2 c2:Nat} {l2:LI}
theorem At.sword (H:Hid (At 97 T Sb A n c w0 w FN ps f fin g kd text A' m c' z l s (Ev.sg 1 t::es) W)) (k:∀W1 s1,Hid (At 97 T Sb A n c w0 w FN ps f fin g kd text A' m c' z l s1 es W1)->R (.returned (.tuple #[])) W1):Calls prog 108 #[.pointer (some ⟨T,0,none⟩),.string t] W R:=
 At.next (a:=[Ev.sg 1 t]) H (fun hb=>Uc_ T Sb A n c w0 W s t H.o.ht (Z5_ (QH_ ps f) hb)) k
theorem At.smark (H:Hid (At 97 T Sb A n c w0 w FN ps f fin g kd text A' m c' z l s (mkE t::es) W)) (k:∀W1 s1,Hid (At 97 T Sb A n c w0 w FN ps f fin g kd text A' m c' z l s1 es W1)->R (.returned (.tuple #[])) W1):Calls prog 109 #[.pointer (some ⟨T,0,none⟩),.string t] W R:=
 At.next (a:=[mkE t]) H (fun hb=>ZE_ T Sb A n c w0 W s t H.o.ht (Z5_ (QH_ ps f) hb)) k
theorem At.sput {q:Int} (H:Hid (At 97 T Sb A n c w0 w FN ps f fin g kd text A' m c' z l s (Ev.sg q t::es) W)) (k:∀W1 s1,Hid (At 97 T Sb A n c w0 w FN ps f fin g kd text A' m c' z l s1 es W1)->R (.returned (.tuple #[])) W1):Calls prog 112 #[.pointer (some ⟨T,0,none⟩),.int .i64 q,.string t] W R:=
 At.next (a:=[Ev.sg q t]) H (fun hb=>Je_ T Sb A n c w0 W s q t H.o.ht (Z5_ (QH_ ps f) hb)) k
theorem At.sheld (H:Hid (At 97 T Sb A n c w0 w 80 ps f fin g kd text A' m c' z l s (Ev.sg 1 t::mkE ⟨#[40]⟩::Ev.kid (v:Int)::mkE ⟨#[41]⟩::es) W)) (k:∀W1 s1,Hid (At 97 T Sb A n c w0 w 80 ps f fin g kd text A' m c' z l s1 es W1)->R (.returned (.tuple #[])) W1) (hi:(v:Int)∈l:=by simp):Calls prog 111 #[.pointer (some ⟨T,0,none⟩),.string t,.int .i64 v] W R:=
 At.next (a:=Qcd_ t v) H (fun hb=>xx_ T Sb A n c w0 W ps f t v s H.o.N (by have:=H.o.hv _ hi;omega) (by have:=H.o.hv _ hi;omega) H.o.ht hb) k
theorem At.ssome (H:Hid (At 97 T Sb A n c w0 w 80 ps f fin g kd text A' m c' z l s (KG_ ⟨#[44]⟩ l2++es) W)) (hl:l2.length=m2) (hm:m2<=12) (hr:Rd w0 1 A2 m2 (Qa_ l2)) (hi:∀v∈l2,v∈l) (k:∀W1 s1,Hid (At 97 T Sb A n c w0 w 80 ps f fin g kd text A' m c' z l s1 es W1)->R (.returned (.tuple #[])) W1):Calls prog 113 #[.pointer (some ⟨T,0,none⟩),.slice A2 m2 c2] W R:=
 At.next H (fun hb=>xD_ T Sb A n c w0 W ps f A2 m2 c2 l2 s H.o.N hl oo hr (hid (fun v h=>H.o.hv v (hi v h))) H.o.ht hb) k
theorem At.sall (H:Hid (At 97 T Sb A n c w0 w 80 ps f fin g kd text A' m c' z l s (Xz_ l++es) W)) (k:∀W1 s1,Hid (At 97 T Sb A n c w0 w 80 ps f fin g kd text A' m c' z l s1 es W1)->R (.returned (.tuple #[])) W1):Calls prog 110 #[.pointer (some ⟨T,0,none⟩),.slice A' m c2] W R:=
 At.next H (fun hb=>jH_ T Sb A n c w0 W ps f A' m c2 l s H.o.N H.o.hl (by have:=H.o.hm;omega) H.o.hr H.o.hv H.o.ht hb) k
theorem At.iword (H:Hid (At 76 T Sb A n c w0 w FN ps f fin g kd text A' m c' z l s (Ev.sg 1 t::es) W)) (k:∀W1 s1,Hid (At 76 T Sb A n c w0 w FN ps f fin g kd text A' m c' z l s1 es W1)->R (.returned (.tuple #[])) W1):Calls prog 151 #[.pointer (some ⟨T,0,none⟩),.string t] W R:=
 At.next (a:=[Ev.sg 1 t]) H (fun hb=>kJ_ T Sb A n c w0 W s t H.o.ht (Z5_ (QH_ ps f) hb)) k
theorem At.imark {g0:Nat} (H:Hid (At 76 T Sb A n c w0 w FN ps f fin g kd text A' m c' z l s (mkE t::es) W)) (k:∀W1 s1,Hid (At 76 T Sb A n c w0 w FN ps f fin g kd text A' m c' z l s1 es W1)->R (.returned (.tuple #[])) W1) (hg:g0=W.heap.size:=by simp):Calls prog 152 #[.pointer (some ⟨T,0,none⟩),.slice (some ⟨g0,0,none⟩) 1 1] (W.alloc (.cells #[.string t] 9)) R:=by
 subst hg;exact At.next (a:=[mkE t]) (At.alloc H _) (fun hb=>GY_ T Sb A n c w0 _ s t _ (H.o.ht.alloc _) (QcT_ hb) (Blk.new _ _ _) (by have:=H.o.ht.blkT;omega) (by have:=H.o.ht.blkS;omega)) k
theorem At.imark2 {g0:Nat} (H:Hid (At 76 T Sb A n c w0 w FN ps f fin g kd text A' m c' z l s (mkE t::mkE u::es) W)) (k:∀W1 s1,Hid (At 76 T Sb A n c w0 w FN ps f fin g kd text A' m c' z l s1 es W1)->R (.returned (.tuple #[])) W1) (hg:g0=W.heap.size:=by simp):Calls prog 152 #[.pointer (some ⟨T,0,none⟩),.slice (some ⟨g0,0,none⟩) 2 2] (W.alloc (.cells #[.string t,.string u] 9)) R:=by
 subst hg;exact At.next (a:=[mkE t,mkE u]) (At.alloc H _) (fun hb=>kF_ T Sb A n c w0 _ s t u _ (H.o.ht.alloc _) (QcU_ hb) (Blk.new _ _ _) (by have:=H.o.ht.blkT;omega) (by have:=H.o.ht.blkS;omega)) k
theorem At.q2 (H:Hid (At 76 T Sb A n c w0 w FN ps f fin g kd text A' m c' z l s (mkE t::mkE u::es) W)):True:=trivial
theorem At.ilist (H:Hid (At 76 T Sb A n c w0 w 85 ps f fin g kd text A' m c' z l s (KG_ t l2++es) W)) (hl:l2.length=m2) (hm:m2<=12) (hr:Rd w0 1 A2 m2 (Qa_ l2)) (hi:∀v∈l2,v∈l) (k:∀W1 s1,Hid (At 76 T Sb A n c w0 w 85 ps f fin g kd text A' m c' z l s1 es W1)->R (.returned (.tuple #[])) W1):Calls prog 153 #[.pointer (some ⟨T,0,none⟩),.slice A2 m2 c2,.string t] W R:=
 At.next H (fun hb=>kD_ T Sb A n c w0 W ps f A2 m2 c2 l2 t s H.o.N hl oo hr (hid (fun v h=>H.o.hv v (hi v h))) H.o.ht hb) k
theorem At.ieach (H:Hid (At 76 T Sb A n c w0 w 85 ps f fin g kd text A' m c' z l s (Xz_ l++es) W)) (k:∀W1 s1,Hid (At 76 T Sb A n c w0 w 85 ps f fin g kd text A' m c' z l s1 es W1)->R (.returned (.tuple #[])) W1):Calls prog 154 #[.pointer (some ⟨T,0,none⟩),.slice A' m c2] W R:=
 At.next H (fun hb=>kA_ T Sb A n c w0 W ps f A' m c2 l s H.o.N H.o.hl (by have:=H.o.hm;omega) H.o.hr H.o.hv H.o.ht hb) k
end
inductive EvF (t:BA):Int->LI->Nat->List Ev->Prop
 |k1:EvF t 1 [] 0 [.sg 1 t]
 |k2:EvF t 2 [] 0 [.sg 2 t]
 |k3:EvF t 3 [] 0 [.sg 3 t]
 |k4 (l:LI) (m:Nat):EvF t 4 l m (mkE ⟨#[91]⟩::(KG_ ⟨#[44]⟩ l++[mkE ⟨#[93]⟩]))
 |k5 (v:Nat) (l:LI) (m:Nat) (hm:0 < m) (em:((m+1:Nat):Int) - 1=(m:Int)):EvF t 5 ((v:Int)::l) (m+1) (.kid (v:Int)::mkE ⟨#[40]⟩::(KG_ ⟨#[44]⟩ l++[mkE ⟨#[41]⟩]))
 |k5n (v:Nat):EvF t 5 [(v:Int)] 1 (.kid (v:Int)::mkE ⟨#[40]⟩::(KG_ ⟨#[44]⟩ []++[mkE ⟨#[41]⟩]))
 |k6 (v:Nat):EvF t 6 [(v:Int)] 1 [.kid (v:Int),mkE ⟨#[46]⟩,.sg 1 t]
 |k7 (l:LI) (m:Nat) (h2:2<=m):EvF t 7 l m (KG_ t l++[])
 |k8 (v v' v'':Nat):EvF t 8 [(v:Int),(v':Int),(v'':Int)] 3 [.kid (v:Int),mkE ⟨#[63]⟩,.kid (v':Int),mkE ⟨#[58]⟩,.kid (v'':Int)]
 |k9 (l:LI) (v m:Nat) (em:((m+1:Nat):Int) - 1=(m:Int)):EvF t 9 (l++[(v:Int)]) (m+1) (mkE ⟨#[40]⟩::(KG_ ⟨#[44]⟩ l++[mkE ⟨#[41]⟩,mkE ⟨#[61,62]⟩,.kid (v:Int)]))
 |k10 (l:LI) (m:Nat) (h2:2<=m):EvF t 10 l m (KG_ ⟨#[46,46]⟩ l++[])
 |k11 (v:Nat):EvF t 11 [(v:Int)] 1 [mkE ⟨#[40]⟩,.kid (v:Int),mkE ⟨#[41]⟩]
 |k12 (v:Nat):EvF t 12 [(v:Int)] 1 [.sg 1 ⟨#[118,97,114]⟩,.sg 1 t,mkE ⟨#[61]⟩,.kid (v:Int),mkE ⟨#[59]⟩]
 |k12n:EvF t 12 [] 0 [.sg 1 ⟨#[118,97,114]⟩,.sg 1 t,mkE ⟨#[59]⟩]
 |k13 (v:Nat):EvF t 13 [(v:Int)] 1 [.sg 1 t,mkE ⟨#[61]⟩,.kid (v:Int),mkE ⟨#[59]⟩]
 |k14 (v:Nat):EvF t 14 [(v:Int)] 1 [.kid (v:Int),mkE ⟨#[59]⟩]
 |k15 (l:LI) (m:Nat):EvF t 15 l m (.sg 1 ⟨#[114,101,116,117,114,110]⟩::(Xz_ l++[mkE ⟨#[59]⟩]))
 |k16 (v v':Nat):EvF t 16 [(v:Int),(v':Int)] 2 [.sg 1 ⟨#[105,102]⟩,mkE ⟨#[40]⟩,.kid (v:Int),mkE ⟨#[41]⟩,.kid (v':Int)]
 |k16e (v v' v'':Nat):EvF t 16 [(v:Int),(v':Int),(v'':Int)] 3 [.sg 1 ⟨#[105,102]⟩,mkE ⟨#[40]⟩,.kid (v:Int),mkE ⟨#[41]⟩,.kid (v':Int),.sg 1 ⟨#[101,108,115,101]⟩,.kid (v'':Int)]
 |k17 (v v':Nat):EvF t 17 [(v:Int),(v':Int)] 2 [.sg 1 ⟨#[119,104,105,108,101]⟩,mkE ⟨#[40]⟩,.kid (v:Int),mkE ⟨#[41]⟩,.kid (v':Int)]
 |k18 (l:LI) (m:Nat):EvF t 18 l m (mkE ⟨#[123]⟩::(Xz_ l++[mkE ⟨#[125]⟩]))
 |k19:EvF t 19 [] 0 [.sg 5 t]
 |k20 (l:LI) (v m:Nat) (em:((m+1:Nat):Int) - 1=(m:Int)):EvF t 20 (l++[(v:Int)]) (m+1) (.sg 1 t::mkE ⟨#[40]⟩::(KG_ ⟨#[44]⟩ l++[mkE ⟨#[41]⟩,.kid (v:Int)]))
 |k21 (l:LI) (m:Nat):EvF t 21 l m (.sg 1 ⟨#[99,108,97,115,115]⟩::.sg 1 t::mkE ⟨#[123]⟩::(Xz_ l++[mkE ⟨#[125]⟩]))
 |k22 (l:LI) (m:Nat):EvF t 22 l m (Xz_ l++[])
theorem lit1 {l:LI} (h:l.length=1) (hv:∀v∈l,0<=v):∃a:Nat,l=[(a:Int)]:=by
 match l,h with
 |[x],_=>obtain⟨a,rfl⟩:=Int.eq_ofNat_of_zero_le (hv x (by simp));exact⟨a,rfl⟩
theorem lit2 {l:LI} (h:l.length=2) (hv:∀v∈l,0<=v):∃a b:Nat,l=[(a:Int),(b:Int)]:=by
 match l,h with
 |x::r,h=>
  obtain⟨a,rfl⟩:=Int.eq_ofNat_of_zero_le (hv x (by simp));obtain⟨b,rfl⟩:=lit1 (l:=r) (by simpa using h) (fun v h=>hv v (by simp[h]));exact⟨a,b,rfl⟩
theorem lit3 {l:LI} (h:l.length=3) (hv:∀v∈l,0<=v):∃a b c:Nat,l=[(a:Int),(b:Int),(c:Int)]:=by
 match l,h with
 |x::r,h=>
  obtain⟨a,rfl⟩:=Int.eq_ofNat_of_zero_le (hv x (by simp));obtain⟨b,c,rfl⟩:=lit2 (l:=r) (by simpa using h) (fun v h=>hv v (by simp[h]));exact⟨a,b,c,rfl⟩
theorem litl {l:LI} (h:1<=l.length) (hv:∀v∈l,0<=v):∃(r:LI) (a:Nat),l=r++[(a:Int)]:=by
 rcases List.eq_nil_or_concat l with rfl|⟨r,x,rfl⟩
 ·simp at h
 ·obtain⟨a,rfl⟩:=Int.eq_ofNat_of_zero_le (hv x (by simp));exact⟨r,a,by simp⟩
theorem vm_ {kd:Int} {t:BA} {l:LI} {z:Bool} (hk:1<=kd/\kd<=22) (g:QW_ kd<=(l.length:Int)) (h:(l.length:Int)<=QT_ kd) (c:∀v∈l,0<=v):l.length<=12/\EvF t kd l l.length (evs ⟨kd,t,l,z⟩):=by
 have h2:kd=1\/kd=2\/kd=3\/kd=4\/kd=5\/kd=6\/kd=7\/kd=8\/kd=9\/kd=10\/kd=11\/kd=12\/kd=13\/kd=14\/kd=15\/kd=16\/kd=17\/kd=18\/kd=19\/kd=20\/kd=21\/kd=22:=oo;rcases h2 with rfl|rfl|rfl|rfl|rfl|rfl|rfl|rfl|rfl|rfl|rfl|rfl|rfl|rfl|rfl|rfl|rfl|rfl|rfl|rfl|rfl|rfl
 all_goals
  simp only[QW_,QT_,Int.reduceEq,or_self,or_true,true_or,or_false,false_or,if_true,if_false]at g h;refine⟨oo,?_⟩
  first
  |(have e:l.length=0:=oo;obtain rfl:l=[]:=List.eq_nil_of_length_eq_zero e;first|exact .k1|exact .k2|exact .k3|exact .k19)
  |exact .k4 l _
  |exact .k15 l _
  |exact .k18 l _
  |exact .k21 l _
  |(have e:=EvF.k7 (t:=t) l l.length oo;rw[List.append_nil]at e;exact e)
  |(have e:=EvF.k10 (t:=t) l l.length oo;rw[List.append_nil]at e;exact e)
  |(have e:=EvF.k22 (t:=t) l l.length;rw[List.append_nil]at e;exact e)
  |(have e:l.length=1:=oo;obtain⟨a,rfl⟩:=lit1 e c;first|exact .k6 a|exact .k11 a|exact .k13 a|exact .k14 a|exact .k12 a|exact .k5n a)
  |(have e:l.length=2:=oo;obtain⟨a,b,rfl⟩:=lit2 e c;first|exact .k16 a b|exact .k17 a b)
  |(have e:l.length=3:=oo;obtain⟨a,b,d,rfl⟩:=lit3 e c;first|exact .k8 a b d|exact .k16e a b d)
  |(have e:l.length=0:=oo;obtain rfl:l=[]:=List.eq_nil_of_length_eq_zero e;exact .k12n)
  |skip
 ·obtain⟨x,r,rfl⟩:∃x r,l=x::r:=by
   match l,g with
   |x::r,_=>exact⟨x,r,rfl⟩
  obtain⟨a,rfl⟩:=Int.eq_ofNat_of_zero_le (c x (by simp));by_cases f:r.length=0
  ·obtain rfl:=List.eq_nil_of_length_eq_zero f;exact .k5n a
  ·exact .k5 a r r.length oo oo
 ·obtain⟨r,a,rfl⟩:=litl oo c;simpa[evs]using EvF.k9 (t:=t) r a r.length oo
 ·by_cases f:l.length=0
  ·obtain rfl:=List.eq_nil_of_length_eq_zero f;exact .k12n
  ·obtain⟨a,rfl⟩:=lit1 oo c;exact .k12 a
 ·by_cases f:l.length=2
  ·obtain⟨a,b,rfl⟩:=lit2 f c;exact .k16 a b
  ·obtain⟨a,b,d,rfl⟩:=lit3 oo c;exact .k16e a b d
 ·obtain⟨r,a,rfl⟩:=litl oo c;simpa[evs]using EvF.k20 (t:=t) r a r.length oo
theorem qS_ {w:World} {A:OA} {m:Nat} {l:LI} (h:Rd w 1 A m (Qa_ l)) (hl:l.length=m) (hm:0 < m):∃b off,A=some ⟨b,off,none⟩:=by
 obtain⟨x,hx⟩:∃x,l[0]? =some x:=⟨_,gE oo⟩;obtain⟨b,off,e,_⟩:=Ql_ h hm hx;exact⟨b,off,e⟩
theorem JP_ {l:LI} {v:Int} {m:Nat} (h:(l++[v]).length=m+1):l.length=m:=by simpa using h
theorem UH_ {w:World} {A:OA} {l:LI} {v:Int} {m:Nat} (h:Rd w 1 A (m+1) (Qa_ (l++[v]))) (hl:(l++[v]).length=m+1):Rd w 1 A m (Qa_ l):=by
 have h2:=qR_ h hl (Nat.le_succ m);rwa[List.take_left' (JP_ hl)]at h2
theorem YC_ {w w':World} {row:ON} (h:w.drew.grownBy w' row):w.grownBy w' row:=⟨h.os,h.tape,h.output,h.size,h.block⟩
theorem iv_2 (T Sb:Nat) (A:OA) (n c:Nat) (w0 w:World) (ps:List PN) (f:Nat) (text:BA) (A':OA) (m c':Nat) (z:Bool) (s fin:TS) (h:TL 76 T Sb A n c w0 s w) (x:LeftE (Qn_ ps f) s [Ev.sg 2 text] fin):
  Calls prog 120 #[.pointer (some ⟨T,0,none⟩),.agg #[.int .i64 2,.string text,.slice A' m c',.bool z]] w (Xy_ 76 T Sb A n c w0 w fin):=by
 have hs:=Z5_ (QH_ ps f) (show(Ki_ (Qn_ ps f) s [Ev.sg 2 text]).1.length<=1000000 by rw[x.2.1];exact x.2.2);have d:fin=(s.1++[((2:Int),text)],s.2):=x.2.1.symm;subst d;have gT:w.heap.size≠T:=by have:=h.blkT;omega
 have gS:w.heap.size≠Sb:=by have:=h.blkS;omega
 obtain⟨AS,cS,i,y,ho,hl,B,hT,hS,E,j⟩:=h.alloc (.cells #[.int .i64 2,.string text,.slice A' m c',.bool z] 36);have K:=Blk.new w 36 #[.int .i64 2,.string text,.slice A' m c',.bool z];have P:Kp T Sb w (w.alloc (.cells #[.int .i64 2,.string text,.slice A' m c',.bool z] 36)):=(Kp.refl T Sb w).alloc _;obtain⟨i0,hi,l,p,r⟩:=info_parts Vp_;have v:=hid (And.intro hi (And.intro l (And.intro p r)));have HM:=hid y;have HP:=hid (fun(o:Obj) (v':Value) (w3:World)=>TL.push (ty:=76) (s:=s) (o:=o) (v':=v') (w3:=w3) (by decide) i y ho hl B hT hS j (2,text));have HB:=hid (fun(o:Obj) (w3:World)=>zU_ (o:=o) (w3:=w3) i (by decide) y);have k1:(w.alloc (.cells #[.int .i64 2,.string text,.slice A' m c',.bool z] 36)).cell? ⟨T,1,none⟩=some (.slice AS s.1.length cS):=i.cell 1;have a1:∀o,((w.alloc (.cells #[.int .i64 2,.string text,.slice A' m c',.bool z] 36)).alloc o).cell? ⟨T,1,none⟩=some (.slice AS s.1.length cS):=fun o=>(i.alloc o).cell 1
 have kx:(w.alloc (.cells #[.int .i64 2,.string text,.slice A' m c',.bool z] 36)).cell? ⟨w.heap.size,1,none⟩=some (.string text):=K.cell 1;have ax:∀o,((w.alloc (.cells #[.int .i64 2,.string text,.slice A' m c',.bool z] 36)).alloc o).cell? ⟨w.heap.size,1,none⟩=some (.string text):=fun o=>(K.alloc o).cell 1
 have kf:=i.frozen;have kz:=i.lt;have D:((w.alloc (.cells #[.int .i64 2,.string text,.slice A' m c',.bool z] 36)).alloc (.cells #[.int .i64 2,.string text,.int .i64 0,.bool false] 68)).heap[w.heap.size+1]? =some (.cells #[.int .i64 2,.string text,.int .i64 0,.bool false] 68 (0,0)):=by
  have:=heap_alloc_new (w.alloc (.cells #[.int .i64 2,.string text,.slice A' m c',.bool z] 36)) (.cells #[.int .i64 2,.string text,.int .i64 0,.bool false] 68);rwa[World.size_alloc]at this
 have k:=j.size;clear hi l p r y ho E x;unfold Xy_;go_enter func120,ntmps120;go_upto_region 6 with fail
 go_region_law
  (refine step_append_lies _ rfl (.tmp 23) (.tmp 27) 57 rfl w0.heap.size 68 i0 (.agg #[.int .i64 0,.string ⟨#[]⟩,.int .i64 0,.bool false]) 4 40 underlying57 v.o.1 v.o.2.1 v.o.2.2.1 v.o.2.2.2 rfl (by decide) (.slice AS s.1.length cS) s.1.length (s.1.flatMap QX_) (by first|(simp[Act.eval];done)|(simp[Act.eval,Act.put];done)|rfl) (by first|exact(HM.o.alloc _).drew|exact HM.o.alloc _) ⟨w.heap.size+1,0,none⟩ 1 1 (QX_ (2,text)) (by first|(simp[Act.eval];done)|(simp[Act.eval,Act.put];done)|rfl) (by rfl) (World.news_of_block (cs:=#[.int .i64 2,.string text,.int .i64 0,.bool false]) (t:=68) (fr:=(0,0)) D) (VB_ _) (by decide) (by unfold maxLen;omega) oo (by simp at k |-; omega) (w.heap.size+1+1) (by simp) ?_
   intro q cap w6 e b C F;have a:((w.alloc (.cells #[.int .i64 2,.string text,.slice A' m c',.bool z] 36)).alloc (.cells #[.int .i64 2,.string text,.int .i64 0,.bool false] 68)).grownBy w6 (Value.slice AS s.1.length cS).ownBlock:=(by first|exact b|exact YC_ b);have g:=HB.o _ _ a;have fz:w6.cell? ⟨T,1,none⟩=some (.slice AS s.1.length cS):=g.cell 1;have G:=g.frozen;have H:=g.lt;have d:=hid (HP.o _ _ _ e a);clear e b C a g)
 all_goals
  go_wp2;go_end0;exact⟨rfl,d.o.1,P.trans d.o.2⟩
theorem iv_3 (T Sb:Nat) (A:OA) (n c:Nat) (w0 w:World) (ps:List PN) (f:Nat) (text:BA) (A':OA) (m c':Nat) (z:Bool) (s fin:TS) (h:TL 76 T Sb A n c w0 s w) (x:LeftE (Qn_ ps f) s [Ev.sg 3 text] fin):
  Calls prog 120 #[.pointer (some ⟨T,0,none⟩),.agg #[.int .i64 3,.string text,.slice A' m c',.bool z]] w (Xy_ 76 T Sb A n c w0 w fin):=by
 have hs:=Z5_ (QH_ ps f) (show(Ki_ (Qn_ ps f) s [Ev.sg 3 text]).1.length<=1000000 by rw[x.2.1];exact x.2.2);have d:fin=(s.1++[((3:Int),text)],s.2):=x.2.1.symm;subst d;have gT:w.heap.size≠T:=by have:=h.blkT;omega
 have gS:w.heap.size≠Sb:=by have:=h.blkS;omega
 obtain⟨AS,cS,i,y,ho,hl,B,hT,hS,E,j⟩:=h.alloc (.cells #[.int .i64 3,.string text,.slice A' m c',.bool z] 36);have K:=Blk.new w 36 #[.int .i64 3,.string text,.slice A' m c',.bool z];have P:Kp T Sb w (w.alloc (.cells #[.int .i64 3,.string text,.slice A' m c',.bool z] 36)):=(Kp.refl T Sb w).alloc _;obtain⟨i0,hi,l,p,r⟩:=info_parts Vp_;have v:=hid (And.intro hi (And.intro l (And.intro p r)));have HM:=hid y;have HP:=hid (fun(o:Obj) (v':Value) (w3:World)=>TL.push (ty:=76) (s:=s) (o:=o) (v':=v') (w3:=w3) (by decide) i y ho hl B hT hS j (3,text));have HB:=hid (fun(o:Obj) (w3:World)=>zU_ (o:=o) (w3:=w3) i (by decide) y);have k1:(w.alloc (.cells #[.int .i64 3,.string text,.slice A' m c',.bool z] 36)).cell? ⟨T,1,none⟩=some (.slice AS s.1.length cS):=i.cell 1;have a1:∀o,((w.alloc (.cells #[.int .i64 3,.string text,.slice A' m c',.bool z] 36)).alloc o).cell? ⟨T,1,none⟩=some (.slice AS s.1.length cS):=fun o=>(i.alloc o).cell 1
 have kx:(w.alloc (.cells #[.int .i64 3,.string text,.slice A' m c',.bool z] 36)).cell? ⟨w.heap.size,1,none⟩=some (.string text):=K.cell 1;have ax:∀o,((w.alloc (.cells #[.int .i64 3,.string text,.slice A' m c',.bool z] 36)).alloc o).cell? ⟨w.heap.size,1,none⟩=some (.string text):=fun o=>(K.alloc o).cell 1
 have kf:=i.frozen;have kz:=i.lt;have D:((w.alloc (.cells #[.int .i64 3,.string text,.slice A' m c',.bool z] 36)).alloc (.cells #[.int .i64 3,.string text,.int .i64 0,.bool false] 68)).heap[w.heap.size+1]? =some (.cells #[.int .i64 3,.string text,.int .i64 0,.bool false] 68 (0,0)):=by
  have:=heap_alloc_new (w.alloc (.cells #[.int .i64 3,.string text,.slice A' m c',.bool z] 36)) (.cells #[.int .i64 3,.string text,.int .i64 0,.bool false] 68);rwa[World.size_alloc]at this
 have k:=j.size;clear hi l p r y ho E x;unfold Xy_;go_enter func120,ntmps120;go_upto_region 8 with fail
 go_region_law
  (refine step_append_lies _ rfl (.tmp 37) (.tmp 41) 57 rfl w0.heap.size 68 i0 (.agg #[.int .i64 0,.string ⟨#[]⟩,.int .i64 0,.bool false]) 4 40 underlying57 v.o.1 v.o.2.1 v.o.2.2.1 v.o.2.2.2 rfl (by decide) (.slice AS s.1.length cS) s.1.length (s.1.flatMap QX_) (by first|(simp[Act.eval];done)|(simp[Act.eval,Act.put];done)|rfl) (by first|exact(HM.o.alloc _).drew|exact HM.o.alloc _) ⟨w.heap.size+1,0,none⟩ 1 1 (QX_ (3,text)) (by first|(simp[Act.eval];done)|(simp[Act.eval,Act.put];done)|rfl) (by rfl) (World.news_of_block (cs:=#[.int .i64 3,.string text,.int .i64 0,.bool false]) (t:=68) (fr:=(0,0)) D) (VB_ _) (by decide) (by unfold maxLen;omega) oo (by simp at k |-; omega) (w.heap.size+1+1) (by simp) ?_
   intro q cap w6 e b C F;have a:((w.alloc (.cells #[.int .i64 3,.string text,.slice A' m c',.bool z] 36)).alloc (.cells #[.int .i64 3,.string text,.int .i64 0,.bool false] 68)).grownBy w6 (Value.slice AS s.1.length cS).ownBlock:=(by first|exact b|exact YC_ b);have g:=HB.o _ _ a;have fz:w6.cell? ⟨T,1,none⟩=some (.slice AS s.1.length cS):=g.cell 1;have G:=g.frozen;have H:=g.lt;have d:=hid (HP.o _ _ _ e a);clear e b C a g)
 all_goals
  go_wp2;go_end0;exact⟨rfl,d.o.1,P.trans d.o.2⟩
theorem QhA_ (T Sb:Nat) (A:OA) (n c:Nat) (w0 w:World) (ps:List PN) (f:Nat) (text:BA) (A':OA) (m c':Nat) (z:Bool) (s fin:TS) (h:TL 76 T Sb A n c w0 s w) (x:LeftE (Qn_ ps f) s [Ev.sg 5 text] fin):
  Calls prog 121 #[.pointer (some ⟨T,0,none⟩),.agg #[.int .i64 19,.string text,.slice A' m c',.bool z]] w (Xy_ 76 T Sb A n c w0 w fin):=by
 have hs:=Z5_ (QH_ ps f) (show(Ki_ (Qn_ ps f) s [Ev.sg 5 text]).1.length<=1000000 by rw[x.2.1];exact x.2.2);have d:fin=(s.1++[((5:Int),text)],s.2):=x.2.1.symm;subst d;have gT:w.heap.size≠T:=by have:=h.blkT;omega
 have gS:w.heap.size≠Sb:=by have:=h.blkS;omega
 obtain⟨AS,cS,i,y,ho,hl,B,hT,hS,E,j⟩:=h.alloc (.cells #[.int .i64 19,.string text,.slice A' m c',.bool z] 36);have K:=Blk.new w 36 #[.int .i64 19,.string text,.slice A' m c',.bool z];have P:Kp T Sb w (w.alloc (.cells #[.int .i64 19,.string text,.slice A' m c',.bool z] 36)):=(Kp.refl T Sb w).alloc _;obtain⟨i0,hi,l,p,r⟩:=info_parts Vp_;have v:=hid (And.intro hi (And.intro l (And.intro p r)));have HM:=hid y;have HP:=hid (fun(o:Obj) (v':Value) (w3:World)=>TL.push (ty:=76) (s:=s) (o:=o) (v':=v') (w3:=w3) (by decide) i y ho hl B hT hS j (5,text));have HB:=hid (fun(o:Obj) (w3:World)=>zU_ (o:=o) (w3:=w3) i (by decide) y);have k1:(w.alloc (.cells #[.int .i64 19,.string text,.slice A' m c',.bool z] 36)).cell? ⟨T,1,none⟩=some (.slice AS s.1.length cS):=i.cell 1;have a1:∀o,((w.alloc (.cells #[.int .i64 19,.string text,.slice A' m c',.bool z] 36)).alloc o).cell? ⟨T,1,none⟩=some (.slice AS s.1.length cS):=fun o=>(i.alloc o).cell 1
 have kx:(w.alloc (.cells #[.int .i64 19,.string text,.slice A' m c',.bool z] 36)).cell? ⟨w.heap.size,1,none⟩=some (.string text):=K.cell 1;have ax:∀o,((w.alloc (.cells #[.int .i64 19,.string text,.slice A' m c',.bool z] 36)).alloc o).cell? ⟨w.heap.size,1,none⟩=some (.string text):=fun o=>(K.alloc o).cell 1
 have kf:=i.frozen;have kz:=i.lt;have D:((w.alloc (.cells #[.int .i64 19,.string text,.slice A' m c',.bool z] 36)).alloc (.cells #[.int .i64 5,.string text,.int .i64 0,.bool false] 68)).heap[w.heap.size+1]? =some (.cells #[.int .i64 5,.string text,.int .i64 0,.bool false] 68 (0,0)):=by
  have:=heap_alloc_new (w.alloc (.cells #[.int .i64 19,.string text,.slice A' m c',.bool z] 36)) (.cells #[.int .i64 5,.string text,.int .i64 0,.bool false] 68);rwa[World.size_alloc]at this
 have k:=j.size;clear hi l p r y ho E x;unfold Xy_;go_enter func121,ntmps121;go_upto_region 35 with fail
 go_region_law
  (refine step_append_lies _ rfl (.tmp 110) (.tmp 114) 57 rfl w0.heap.size 68 i0 (.agg #[.int .i64 0,.string ⟨#[]⟩,.int .i64 0,.bool false]) 4 40 underlying57 v.o.1 v.o.2.1 v.o.2.2.1 v.o.2.2.2 rfl (by decide) (.slice AS s.1.length cS) s.1.length (s.1.flatMap QX_) (by first|(simp[Act.eval];done)|(simp[Act.eval,Act.put];done)|rfl) (by first|exact(HM.o.alloc _).drew|exact HM.o.alloc _) ⟨w.heap.size+1,0,none⟩ 1 1 (QX_ (5,text)) (by first|(simp[Act.eval];done)|(simp[Act.eval,Act.put];done)|rfl) (by rfl) (World.news_of_block (cs:=#[.int .i64 5,.string text,.int .i64 0,.bool false]) (t:=68) (fr:=(0,0)) D) (VB_ _) (by decide) (by unfold maxLen;omega) oo (by simp at k |-; omega) (w.heap.size+1+1) (by simp) ?_
   intro q cap w6 e b C F;have a:((w.alloc (.cells #[.int .i64 19,.string text,.slice A' m c',.bool z] 36)).alloc (.cells #[.int .i64 5,.string text,.int .i64 0,.bool false] 68)).grownBy w6 (Value.slice AS s.1.length cS).ownBlock:=(by first|exact b|exact YC_ b);have g:=HB.o _ _ a;have fz:w6.cell? ⟨T,1,none⟩=some (.slice AS s.1.length cS):=g.cell 1;have G:=g.frozen;have H:=g.lt;have d:=hid (HP.o _ _ _ e a);clear e b C a g)
 all_goals
  go_wp2;go_end0;exact⟨rfl,d.o.1,P.trans d.o.2⟩
theorem QgZ_ (T Sb:Nat) (A:OA) (n c:Nat) (w0 w:World) (ps:List PN) (f:Nat) (kd:Int) (text:BA) (A':OA) (m c':Nat) (z:Bool) (l:LI) (es:List Ev) (s fin:TS) (hN:Yt_ 85 76 T Sb A n c w0 ps f) (h:TL 76 T Sb A n c w0 s w) (i:Rd w0 1 A' m (Qa_ l)) (g:l.length=m) (hm:m<=12) (j:m<=c') (hv:Hid (∀v∈l,0<=v/\v < (f:Int)/\v < (n:Int))) (hk:1<=kd/\kd<=11) (hF:EvF text kd l m es) (e:LeftE (Qn_ ps f) s es fin):
  Calls prog 120 #[.pointer (some ⟨T,0,none⟩),.agg #[.int .i64 kd,.string text,.slice A' m c',.bool z]] w (Xy_ 76 T Sb A n c w0 w fin):=by
 have H:=At.new (kd:=kd) (text:=text) (c':=c') (z:=z) (A':=A') h (Kp.refl T Sb w) e hN hv.o i g hm;have zT:=h.blkT;have zS:=h.blkS
 cases hF
 all_goals first|(exfalso;omega)|skip
 case k2=>exact iv_2 T Sb A n c w0 w ps f text A' 0 c' z s fin h e
 case k3=>exact iv_3 T Sb A n c w0 w ps f text A' 0 c' z s fin h e
 case' k9=>have k9:=True.intro
 case' k5n=>rcases (show c'=1\/1 < c' from oo)with rfl|o
 all_goals
  first|(have ha:=qS_ i g oo;obtain⟨b5,k,rfl⟩:=ha)|skip
  clear h e hN hv i g;unfold Xy_
  first|obtain⟨a,b,d⟩:=At.kc3 H|obtain⟨a,b,d⟩:=At.kc2 H|obtain⟨a,b,d⟩:=At.kc1 H|obtain⟨a,b,d⟩:=At.kcl H|skip
  go_enter func120,ntmps120
  repeat
   go_wp2_with fail
   first
   |(go_at_call 85;refine At.one H ?_)
   |(go_at_call 151;refine At.iword H ?_)
   |(go_at_call 152;have f9:=k9;have q9:=At.q2 H;refine At.imark2 H ?_)
   |(go_at_call 152;refine At.imark H ?_)
   |(go_at_call 154;refine At.ieach H ?_)
   |(go_at_call 153;refine At.ilist H H.o.hl H.o.hm H.o.hr (fun v h=>h) ?_)
   |(go_at_call 153;refine At.ilist H (Nat.succ.inj H.o.hl) (Nat.le_of_succ_le H.o.hm) (JY_ H.o.hr H.o.hl oo) (fun v h=>List.mem_cons_of_mem _ h) ?_)
   |(go_at_call 153;refine At.ilist (l2:=[]) H rfl (by decide) (Rd.none_ _ _ _) (fun v h=>absurd h (by simp)) ?_)
   |(go_at_call 153;refine At.ilist H (JP_ H.o.hl) (Nat.le_of_succ_le H.o.hm) (UH_ H.o.hr H.o.hl) (fun v h=>List.mem_append_left _ h) ?_)
   try clear k0 k1 k2 k3 kz zT zS
   try clear a b d
   intro W1 s1 H1;clear H;have H:=H1;clear H1;obtain⟨k0,k1,k2,k3,kz,zT,zS⟩:=At.facts H
   first|obtain⟨a,b,d⟩:=At.kc3 H|obtain⟨a,b,d⟩:=At.kc2 H|obtain⟨a,b,d⟩:=At.kc1 H|obtain⟨a,b,d⟩:=At.kcl H|skip
  go_wp2;go_end0;exact⟨rfl,(At.fin_ H).1,(At.fin_ H).2⟩
end Go.Proofs.YtgbikafalcbibaaGreatDoor

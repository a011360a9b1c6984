/-
  Put together by program (shake.py):Base,Mem,Open,LaidW,MemB,Mine,Ints,FamNode,NodeS,SignA,SignB,Shelf,Options,Lines.
-/
import Derived.Lib.SmallJoins
import Derived.WalkSmall
import Derived.Handy
import Derived.StillTailTactics
import Derived.BigQuiet
import Derived.Test.YtgbikafalcbibaaGreatDoorRows
import Derived.Lay
import Derived.HandedShaped
import Derived.LaidMore
import Derived.Stop.LaidErr
import Derived.DataShut
import Derived.Shelf.Strings.Trim
import Derived.Shelf.Small.Wraps
import Derived.Shelf.Utf8.RuneCount
import Derived.Shelf.Strconv.Itoa3
import Derived.Shelf.Strings.Shaped
import Derived.Shelf.Strings.LastIndex
import Derived.Shelf.Strings.SplitShaped
import Derived.Shelf.Strings.Runes
import Derived.Shelf.Strings.AsciiSet
import Derived.Shelf.Strings.Explode
import Derived.Shelf.Unicode.DecodeLast
import Derived.Shelf.Slices.Turned
import Derived.Shelf.Slices.SearchI
import Derived.Shelf.Path.Small
set_option maxRecDepth 100000
set_option linter.all false
set_option maxHeartbeats 25600000
open Go.Lib (hid)
open Go.Proofs.Tryz
namespace Go.RowKit
theorem Hid.o {p:Prop} (h:Hid p):p:=h
end Go.RowKit
namespace Go
theorem Aside.o {p:Prop} (h:Aside p):p:=h
end Go
theorem oo {p:Prop} (h:p:=by omega):p:=h
theorem br {n:Nat} {w:Go.World}:Go.RowKit.Below n w w:=Go.RowKit.Below.refl n w
theorem bra {w:Go.World} {o:Go.Obj}:Go.RowKit.Below w.heap.size w (w.alloc o):=(Go.RowKit.Below.refl _ _).alloc (Nat.le_refl _) _
theorem ex_ {α:Sort _} (a:α):∃x,a=x:=⟨a,rfl⟩
abbrev BA:=ByteArray
abbrev OA:=Option Go.Addr
abbrev ON:=Option Nat
abbrev LI:=List Int
namespace Go.Proofs.YtgbikafalcbibaaGreatDoor
open Go.RowKit Go.WideShapes Go.ChangeShapes
section
variable {H:Type} {enc:TypeId × Value->H} {P:Program}
theorem post_of_below {f:Func} {s:ChangeSpec} {apart fresh d m:Bool} {W n:World} {c:Array Value} {v:Value} {o q:List (DataW H)} {a z A:List MemPlace}
  (B:DataW.Whole enc P f.params.toList s.vars apart W c.toList o q a)
  (l:∀(b:Nat) (sp:Nat->Bool) (hd:Bool),DataW.TrodAll enc P n b sp hd f.resultTypes.toList (v.resultList f.resultTypes.size) (s.fn H (o++q)).results [])
  (e:∀sp:Nat->Bool,(∀p∈a,sp p.block=true)->DataW.TrodAll enc P n 0 sp true f.params.toList c.toList (s.fn H (o++q)).args z)
  (h:∀sp:Nat->Bool,(∀p∈a,sp p.block=true)->DataW.TrodVars enc P n sp s.vars (s.fn H (o++q)).vars A)
  (i:a=z++A) (hb:Below W.heap.size W n)
  (C:∀(j:Nat) (t:TypeId) (r:Value),f.resultTypes[j]? =some t->(v.resultList f.resultTypes.size)[j]? =some r->Value.okWide P n .any 0 t r):
  s.post enc P f apart fresh d m W c v n:=by
 have y:∀p∈a,p.block < W.heap.size:=fun p g=>B.lt p g
 have k:∀p∈a,(fun b=>decide (b < W.heap.size)) p.block=true:=fun p g=>by simpa using y p g
 refine⟨o,q,a,[],z,A,B,l _ _ _,e _ k,h _ k,World.keptBut_mono (fun p g=>⟨g,?_⟩) (hb.frame (·∈a)),fun _=>?_⟩
 ·rw[i,List.mem_append]at g;exact Or.inr g
 ·obtain⟨_,_,_,_,_,hz,hn⟩:=B;refine⟨C,_,_,([]++z)++A,⟨[]++z,A,trodAll_append (e _ (fun _ _=>rfl)) (l _ _ _),h _ (fun _ _=>rfl),rfl,?_,?_⟩,?_⟩
  ·intro b off g;have x:MemPlace.cell b off∈a:=(by rw[i];simpa using g);rw[hb.frozen (y _ x)];exact hz b off x
  ·intro ha;have:=hn ha;rw[i]at this;simpa using this
  ·intro p g _;rw[i];simpa using g
end
theorem QE_ {W w1:World} (hb:Below W.heap.size W w1):(∀b o,b < W.heap.size->w1.cell? ⟨b,o,none⟩=W.cell? ⟨b,o,none⟩)/\(∀b o,b < W.heap.size->w1.frozen? ⟨b,o,none⟩=W.frozen? ⟨b,o,none⟩):=
 ⟨fun b o h=>hb.cell (p:=⟨b,o,none⟩) h,fun b o h=>hb.frozen (p:=⟨b,o,none⟩) h⟩
theorem Z7_ {w w1:World} {o:Obj} (hb:Below (w.alloc o).heap.size (w.alloc o) w1):Below w.heap.size w w1:=
 (br.alloc (Nat.le_refl _) o).trans (hb.mono (by simp))
theorem Qb_ {W w1 w2:World} (h1:Below W.heap.size W w1) (h2:Below w1.heap.size w1 w2):Below W.heap.size W w2:=h1.trans (h2.mono h1.size)
theorem Qx_ {a b:Bool} (h:a=b):Ending.returned (.bool a)=.returned (.bool b):=by rw[h]
theorem Vg_ {k:IntKind} {a b:Int} (h:a=b):Ending.returned (.int k a)=.returned (.int k b):=by rw[h]
theorem XP_ {a b:BA} (h:a=b):Ending.returned (.string a)=.returned (.string b):=by rw[h]
def Blk (w:World) (g:Nat) (t:TypeId) (cs:Array Value):Prop:=w.heap[g]? =some (.cells cs t (0,0))
section
variable {w w':World} {g:Nat} {t:TypeId} {cs:Array Value}
theorem Blk.lt (h:Blk w g t cs):g < w.heap.size:=by
 rcases Nat.lt_or_ge g w.heap.size with b|a
 ·exact b
 ·unfold Blk at h;rw[Array.getElem?_eq_none a]at h;cases h
theorem Blk.cell (h:Blk w g t cs) (i:Nat):w.cell? ⟨g,i,none⟩=cs[i]? :=cell_of_row w g i cs t (0,0) h
theorem Blk.frozen (h:Blk w g t cs) (i:Nat):w.frozen? ⟨g,i,none⟩=false:=by
 unfold Blk at h;simp[World.frozen?,h]
theorem Blk.new (w:World) (t:TypeId) (cs:Array Value):Blk (w.alloc (.cells cs t)) w.heap.size t cs:=heap_alloc_new w _
theorem Blk.drew (h:Blk w g t cs):Blk w.drew g t cs:=h
theorem Blk.drewN (h:Blk w g t cs) (n:Nat):Blk (w.drewN n) g t cs:=h
theorem Blk.alloc (h:Blk w g t cs) (o:Obj):Blk (w.alloc o) g t cs:=(Below.heap_alloc w o g h.lt).trans h
theorem Blk.set_ (h:Blk w g t cs) (i:Nat) (u:Value):Blk (w.setCell ⟨g,i,none⟩ u) g t (cs.setIfInBounds i u):=by
 unfold Blk at h |-
 simp[World.setCell,Array.getElem?_modify,h]
theorem Blk.far (h:Blk w g t cs) {p:Addr} (hp:g≠p.block) (u:Value):Blk (w.setCell p u) g t cs:=(Below.heap_setCell w p u g hp).trans h
theorem Blk.below {B:Nat} (h:Blk w g t cs) (hb:Below B w w') (hg:g < B):Blk w' g t cs:=(hb.block g hg).trans h
theorem Blk.grown {row:ON} (h:Blk w g t cs) (hb:w.grownBy w' row) (hg:some g≠row):Blk w' g t cs:=(hb.block g h.lt hg).trans h
variable {w2:World} {o o':Obj}
theorem Blk.fresh (h:Below (w.alloc (.cells cs t)).heap.size (w.alloc (.cells cs t)) w2):Blk w2 w.heap.size t cs:=(Blk.new w t cs).below h (Blk.new w t cs).lt
theorem Blk.next (k:Blk w g t cs) (h:Below w.heap.size w w2):Blk w2 g t cs:=k.below h k.lt
theorem Blk.next1 (k:Blk w g t cs) (h:Below (w.alloc o).heap.size (w.alloc o) w2):Blk w2 g t cs:=(k.alloc o).next h
theorem Blk.next2 (k:Blk w g t cs) (h:Below ((w.alloc o).alloc o').heap.size ((w.alloc o).alloc o') w2):Blk w2 g t cs:=((k.alloc o).alloc o').next h
theorem QA_ {W:World} (h1:Below W.heap.size W w) (h2:Below (w.alloc o).heap.size (w.alloc o) w2):Below W.heap.size W w2:=Qb_ (h1.alloc h1.size o) h2
theorem Yy_ {W:World} (h1:Below W.heap.size W w) (h2:Below ((w.alloc o).alloc o').heap.size ((w.alloc o).alloc o') w2):Below W.heap.size W w2:=QA_ (h1.alloc h1.size o) h2
end
theorem bft (b:Bool):b=true\/b=false:=Bool.eq_false_or_eq_true b
theorem gE {α:Type _} {l:List α} {i:Nat} (h:i < l.length):l[i]? =some l[i]:=List.getElem?_eq_getElem h
theorem lA {α:Type _} {a b:List α}:(a++b).length=a.length+b.length:=List.length_append
theorem Blk.q0 {w:World} {g:Nat} {t:TypeId} {a:Value} {cs:List Value} (h:Blk w g t (a::cs).toArray):w.cell? ⟨g,0,none⟩=some a:=h.cell 0
theorem Blk.q1 {w:World} {g:Nat} {t:TypeId} {x0 a:Value} {cs:List Value} (h:Blk w g t (x0::a::cs).toArray):w.cell? ⟨g,1,none⟩=some a:=h.cell 1
theorem Blk.q2 {w:World} {g:Nat} {t:TypeId} {x0 x1 a:Value} {cs:List Value} (h:Blk w g t (x0::x1::a::cs).toArray):w.cell? ⟨g,2,none⟩=some a:=h.cell 2
theorem Blk.q3 {w:World} {g:Nat} {t:TypeId} {x0 x1 x2 a:Value} {cs:List Value} (h:Blk w g t (x0::x1::x2::a::cs).toArray):w.cell? ⟨g,3,none⟩=some a:=h.cell 3
theorem Blk.q4 {w:World} {g:Nat} {t:TypeId} {x0 x1 x2 x3 a:Value} {cs:List Value} (h:Blk w g t (x0::x1::x2::x3::a::cs).toArray):w.cell? ⟨g,4,none⟩=some a:=h.cell 4
theorem Blk.q5 {w:World} {g:Nat} {t:TypeId} {x0 x1 x2 x3 x4 a:Value} {cs:List Value} (h:Blk w g t (x0::x1::x2::x3::x4::a::cs).toArray):w.cell? ⟨g,5,none⟩=some a:=h.cell 5
theorem Blk.q6 {w:World} {g:Nat} {t:TypeId} {x0 x1 x2 x3 x4 x5 a:Value} {cs:List Value} (h:Blk w g t (x0::x1::x2::x3::x4::x5::a::cs).toArray):w.cell? ⟨g,6,none⟩=some a:=h.cell 6
theorem Blk.q7 {w:World} {g:Nat} {t:TypeId} {x0 x1 x2 x3 x4 x5 x6 a:Value} {cs:List Value} (h:Blk w g t (x0::x1::x2::x3::x4::x5::x6::a::cs).toArray):w.cell? ⟨g,7,none⟩=some a:=h.cell 7
theorem grow_ {B:Nat} {w w':World} (h:Below B w w':=by repeat' (first|(with_reducible exact br)|(with_reducible assumption)|(with_reducible refine below_drewN ?_ _)|(with_reducible refine Below.drew ?_)|(with_reducible refine Below.alloc ?_ ?_ _)|(with_reducible refine Below.setCell ?_ ?_ _)|go_size)):Below B w w':=h
def Rd (w:World) (size:Nat) (A:OA) (n:Nat) (xs:List Value):Prop:=
 xs.length=n * size/\(0 < n->∃b off,A=some ⟨b,off,none⟩/\b < w.heap.size/\∀j u,xs[j]? =some u->w.cell? ⟨b,off+j,none⟩=some u)
section
variable {w w':World} {size n:Nat} {A:OA} {xs:List Value}
theorem Rd.none_ (w:World) (size:Nat) (A:OA):Rd w size A 0 []:=⟨by simp,fun h=>absurd h oo⟩
theorem Rd.keep (h:Rd w size A n xs) (hz:w.heap.size<=w'.heap.size) (hk:∀b o,b < w.heap.size->w'.cell? ⟨b,o,none⟩=w.cell? ⟨b,o,none⟩):Rd w' size A n xs:=
 ⟨h.1,fun a=>by
  obtain⟨b,off,e,hb,hc⟩:=h.2 a;exact⟨b,off,e,oo,fun j u hj=>(hk b _ hb).trans (hc j u hj)⟩⟩
theorem Rd.below (h:Rd w size A n xs) (hb:Below w.heap.size w w'):Rd w' size A n xs:=h.keep hb.size (QE_ hb).1
theorem Rd.next (h:Rd w size A n xs) (hb:Below w.heap.size w w'):Rd w' size A n xs:=h.below hb
theorem Rd.alloc (h:Rd w size A n xs) (o:Obj):Rd (w.alloc o) size A n xs:=h.below (br.alloc (Nat.le_refl _) o)
theorem Rd.next1 {o:Obj} (h:Rd w size A n xs) (hb:Below (w.alloc o).heap.size (w.alloc o) w'):Rd w' size A n xs:=(h.alloc o).next hb
theorem Rd.next2 {o o':Obj} (h:Rd w size A n xs) (hb:Below ((w.alloc o).alloc o').heap.size ((w.alloc o).alloc o') w'):Rd w' size A n xs:=((h.alloc o).alloc o').next hb
theorem Rd.drewN (h:Rd w size A n xs) (k:Nat):Rd (w.drewN k) size A n xs:=h
theorem Rd.drew (h:Rd w size A n xs):Rd w.drew size A n xs:=h
theorem Rd.at_ (h:Rd w size A n xs) (hk:0 < n):∃b off,A=some ⟨b,off,none⟩/\b < w.heap.size/\∀j u,xs[j]? =some u->w.cell? ⟨b,off+j,none⟩=some u:=h.2 hk
end
theorem QaM_ {α:Type} (f:α->Nat) {l:List α} {d:α} (h:d∈l):f d<=(l.map f).sum:=by
 induction l with
 |nil=>cases h
 |cons x l ih=>
  simp only[List.map_cons,List.sum_cons];rcases List.mem_cons.1 h with rfl|h
  ·omega
  ·have:=ih h;omega
theorem Jz_ {α:Type} (f:α->List Value) {size:Nat} (hf:∀d,(f d).length=size) (l:List α):(l.flatMap f).length=l.length * size:=by
 induction l with
 |nil=>simp
 |cons d l ih=>simp only[List.flatMap_cons,lA,List.length_cons,ih,hf,Nat.add_mul];omega
theorem ZJ_ {α:Type} (f:α->List Value) {size:Nat} (hf:∀d,(f d).length=size):∀{l:List α} {i:Nat} {d:α},l[i]? =some d->∀{j:Nat} {v:Value},(f d)[j]? =some v->(l.flatMap f)[i * size+j]? =some v:=by
 intro l
 induction l with
 |nil=>intro i d h;simp at h
 |cons x l ih=>
  intro i d h j v a
  cases i with
  |zero=>
   simp at h;subst h;have b:j < (f x).length:=(List.getElem?_eq_some_iff.1 a).1;simp only[List.flatMap_cons,Nat.zero_mul,Nat.zero_add];rw[List.getElem?_append_left b];exact a
  |succ i=>
   simp at h;simp only[List.flatMap_cons];rw[List.getElem?_append_right (by rw[hf,Nat.add_mul];omega)];rw[hf,show(i+1) * size+j - size=i * size+j from by rw[Nat.add_mul];omega];exact ih h a
theorem Jr_ {w:World} {b o:Nat} {v:Value} (h:w.cell? ⟨b,o,none⟩=some v):b < w.heap.size:=by
 rcases Nat.lt_or_ge b w.heap.size with a|a
 ·exact a
 ·exfalso;have h2:w.heap[b]? =none:=Array.getElem?_eq_none a;simp[World.cell?,h2]at h
def Own (w:World) (g:Nat) (t:TypeId) (cap:Nat) (xs:List Value):Prop:=
 ∃rest:List Value,Blk w g t (xs++rest).toArray/\(xs++rest).length=cap
section
variable {w w':World} {g:Nat} {t:TypeId} {cap:Nat} {xs:List Value} {o:Obj}
theorem Own.lt (h:Own w g t cap xs):g < w.heap.size:=by obtain⟨cs,hb,_⟩:=h;exact hb.lt
theorem Own.next (h:Own w g t cap xs) (hb:Below w.heap.size w w'):Own w' g t cap xs:=by
 obtain⟨cs,a,h'⟩:=h;exact⟨cs,a.next hb,h'⟩
theorem Own.next1 (h:Own w g t cap xs) (hb:Below (w.alloc o).heap.size (w.alloc o) w'):Own w' g t cap xs:=by
 obtain⟨cs,a,h'⟩:=h;exact⟨cs,a.next1 hb,h'⟩
theorem Own.drewN (h:Own w g t cap xs) (k:Nat):Own (w.drewN k) g t cap xs:=h
theorem Own.drew (h:Own w g t cap xs):Own w.drew g t cap xs:=h
theorem Own.there (h:Own w g t cap xs) {i:Nat} (hi:i < cap):∃v,w.cell? ⟨g,i,none⟩=some v:=by
 obtain⟨rest,hb,hs⟩:=h;exact⟨(xs++rest)[i]'oo,by rw[hb.cell];simp⟩
theorem Own.frozen (h:Own w g t cap xs) (i:Nat):w.frozen? ⟨g,i,none⟩=false:=by obtain⟨cs,hb,_⟩:=h;exact hb.frozen i
theorem Own.push (h:Own w g t cap xs) (hk:xs.length < cap) {i:Nat} (hi:i=xs.length) (u:Value):Own (w.setCell ⟨g,i,none⟩ u) g t cap (xs++[u]):=by
 subst hi;obtain⟨rest,a,hs⟩:=h
 match rest,a,hs with
 |[],_,hs=>simp at hs;omega
 |r::rest,a,hs=>
  refine⟨rest,?_,by simpa using hs⟩;have h2:=a.set_ xs.length u;have e:((xs++r::rest).toArray).setIfInBounds xs.length u=((xs++[u])++rest).toArray:=by
   simp
  rwa[e]at h2
theorem Own.rd {size n:Nat} (h:Own w g t cap xs) (hl:xs.length=n * size):Rd w size (some ⟨g,0,none⟩) n xs:=⟨hl,fun _=>by
 obtain⟨rest,hb,hs⟩:=h;refine⟨g,0,rfl,hb.lt,fun j u hj=>?_⟩;rw[hb.cell,Nat.zero_add];have a:j < xs.length:=(List.getElem?_eq_some_iff.1 hj).1;simpa[List.getElem?_append_left a]using hj⟩
end
theorem Rd.fresh {size n:Nat} (w:World) (t:TypeId) (xs:List Value) (hl:xs.length=n * size):Rd (w.alloc (.cells xs.toArray t)) size (some ⟨w.heap.size,0,none⟩) n xs:=
 ⟨hl,fun _=>⟨w.heap.size,0,rfl,(Blk.new w t xs.toArray).lt,fun j u hj=>by rw[(Blk.new w t xs.toArray).cell,Nat.zero_add];simpa using hj⟩⟩
theorem Own.alloc {w:World} {g:Nat} {t:TypeId} {cap:Nat} {xs:List Value} (h:Own w g t cap xs) (o:Obj):Own (w.alloc o) g t cap xs:=by
 obtain⟨rest,hb,hs⟩:=h;exact⟨rest,hb.alloc o,hs⟩
theorem Own.far {w:World} {g:Nat} {t:TypeId} {cap:Nat} {xs:List Value} (h:Own w g t cap xs) {p:Addr} (hp:g≠p.block) (u:Value):Own (w.setCell p u) g t cap xs:=by
 obtain⟨rest,hb,hs⟩:=h;exact⟨rest,hb.far hp u,hs⟩
theorem Qde_ {x t:BA} (h:x≠t):(x.toList==t.toList)=false:=by
 rw[beq_eq_false_iff_ne];intro e;rw[ByteArray.toList_eq,ByteArray.toList_eq]at e;exact h (Go.WideShapes.bytes_inj e)
theorem QK_ {P:Program} (t e:TypeId) (i:TypeInfo) (z:Value) (ht:P.underlying t=some (.slice e)) (hi:P.info? e=some i) (hz:i.zero=some z)
  (kl kc:IntKind) (n c:Nat) (d:n<=c) (a:i.bytes * c<=281474976710656) (b:c<=9223372036854775807) (w:World):
  (Instr.makeSlice t (.int kl (n:Int)) (.int kc (c:Int))).run P w=.ok (.slice (some ⟨w.heap.size,0,none⟩) n c) (w.alloc (.cells (madeCells z.cells (c * i.size)) e)):=by
 have hb:(i.bytes:Int) * (c:Int)<=281474976710656:=by
  have h:((i.bytes * c:Nat):Int)<=281474976710656:=oo;rwa[Int.natCast_mul]at h
 have hr:=run_make (P:=P) w t e i z ht hi hz kl kc n c oo oo hb oo;simp only[Int.toNat_natCast]at hr;exact hr
theorem Own.made {w:World} {e:TypeId} {cs:Array Value} {cap:Nat} (h:cs.size=cap):Own (w.alloc (.cells cs e)) w.heap.size e cap []:=
 ⟨cs.toList,by simpa using Blk.new w e cs,by simpa using h⟩
open Go.RowKit Go.WideShapes Go.ChangeShapes Go.Joins Go.Deep
section
variable {H:Type} {enc:TypeId × Value->H} {P:Program}
theorem trodAll_stays (hl:laidOutB P=true) {W W':World} {b:Nat->Bool}:∀{c:List TypeId} {vs:List Value} {ds:List (DataW H)} {ps:List MemPlace},
  c.all (fun t=>P.readableRec t&&decide (t < P.types.size))=true->DataW.TrodAll enc P W 0 (fun _=>true) true c vs ds ps->
  (∀x∈ps,W.sameAt W' x)->(∀x∈ps,b x.block=true)->DataW.TrodAll enc P W' 0 b true c vs ds ps
 |[],_,_,_,_,h,_,_=>by
  obtain⟨rfl,rfl,rfl⟩:=trodAll_nil h;exact trodAll_mk0
 |t::c,_,_,_,hr,h,hs,hp=>by
  obtain⟨v,f,d,e,p,q,rfl,rfl,rfl,h1,h2⟩:=trodAll_cons h;simp only[List.all_cons,Bool.and_eq_true,decide_eq_true_eq]at hr;exact trodAll_cons_mk (WideElems.Trod_stays hl hr.1.1 hr.1.2 h1 (fun x a=>hs x (List.mem_append.2 (.inl a))) (fun x a=>hp x (List.mem_append.2 (.inl a))))
   (trodAll_stays hl hr.2 h2 (fun x a=>hs x (List.mem_append.2 (.inr a))) (fun x a=>hp x (List.mem_append.2 (.inr a))))
end
section
variable {H:Type} {enc:TypeId × Value->H} {P:Program} {w:World} {base:Nat} {spare:Nat->Bool} {held:Bool}
end
section
variable {H:Type} {enc:TypeId × Value->H} {W:World} {base:Nat} {v:Value} {d:DataW H} {p:List MemPlace} {sp:Nat->Bool} {hd:Bool}
end
open Go.ChangeShapes Go.WideShapes Go.ChangeAt Go.RowKit
theorem retAndShaped {H:Type} {enc:TypeId × Value->H} {a:Assume} {C:Checked} {os:Os} {f:FuncId} {l:Func} {s:ChangeSpec} {h:List PathCond} {apart fresh g m:Bool} {X:World->Array Value->Prop}
  (hX:∀(w w':World) (b:Array Value),w.heap=w'.heap->X w b->X w' b)
  (own:ownKnob C.prog.godebug=none) (n:os.Started) (q:C.prog.inits.idxOf? f=none) (D:C.prog.funcs[f]? =some l)
  (o:∃(w:World) (c:Tape) (i:Input),w.os=os/\(w.forCall c i).Shaped C.prog/\i.vars=[]/\Input.okWide C.prog (w.forCall c i) .any w.heap.size f i/\
   ((s.pre enc C.prog l h apart (w.forCall c i).memory i.args/\X (w.forCall c i).memory i.args)/\sizedMet enc C.prog l (OpenSpec.ofChange s) apart (w.forCall c i).memory i.args)/\a.holds C.prog (lone (Frame.enter C.prog f i.args .normal) [] (w.forCall c i)))
  (k:∀(W:World) (base:Nat) (b:Array Value) (r x:List (DataW H)) (d:List MemPlace),
   (∀(j:Nat) t v,l.params[j]? =some t->b[j]? =some v->Value.okWide C.prog W .any base t v)->
   DataW.Whole enc C.prog l.params.toList s.vars apart W b.toList r x d->
   h.all (PathCond.test C.prog ⟨l.params.toList,r,s.plain.varTypes C.prog,x⟩)=true->
   (DataW.weightsEach C.prog (l.params.toList++s.plain.varTypes C.prog) (r++x)).all (·<=reachBytes)=true->X W b->W.ShapedOpen C.prog->
   a.holds C.prog (lone (Frame.enter C.prog f b .normal) [] W)->
   Calls C.prog f b W fun e W'=>∃v,e=.returned v/\s.post enc C.prog l apart fresh g m W b v W'):
  ReturnsInHanded a C os f .any (fun w b=>(s.pre enc C.prog l h apart w b/\X w b)/\sizedMet enc C.prog l (OpenSpec.ofChange s) apart w b) (s.post enc C.prog l apart fresh g m):=by
 refine returnsInHanded_of_calls own n q o ?_;intro w c i _ F _ E z p;obtain⟨_,_,_,B,y,_,_,_,_,A⟩:=E;have e:B=l:=Option.some.inj (y.symm.trans D);subst e;obtain⟨⟨⟨r,x,d,hw,hc⟩,hx⟩,hz⟩:=z;have G:=DataW.Whole.of_heap (w':=w.forCall c i) (by rfl) hw;refine(k (w.forCall c i) w.heap.size i.args r x d A G hc (hz.weights hw) (hX _ _ _ (by rfl) hx) F p).mono fun e W' ⟨v,he,hp⟩=>?_
 subst he;exact ChangeSpec.post_blind hp
theorem Rd.grown {w w':World} {size n g:Nat} {A:OA} {xs:List Value} (h:Rd w size A n xs) (hg:w.grownBy w' (some g)) (c:0 < n->∀b off,A=some ⟨b,off,none⟩->b≠g):Rd w' size A n xs:=
 ⟨h.1,fun hn=>by
  obtain⟨b,off,e,hb,hc⟩:=h.2 hn;exact⟨b,off,e,Nat.lt_of_lt_of_le hb hg.size,fun j u hj=>(World.cell?_of_block (a:=⟨b,off+j,none⟩) (hg.block b hb (fun q=>c hn b off e (Option.some.inj q)))).trans (hc j u hj)⟩⟩
theorem Ju_ (x:BA) (i j:Nat):(x.extract i j).data.toList=(x.data.toList.take j).drop i:=by
 rw[ByteArray.data_extract,Array.toList_extract,List.extract_eq_take_drop];rw[List.take_drop,List.drop_take];simp[List.drop_take]
theorem kd_ {x y:BA} (h:x.data.toList=y.data.toList):x=y:=by
 apply ByteArray.ext;exact Array.toList_inj.1 h
theorem QgG_ (x y:BA):(x++y).data.toList=x.data.toList++y.data.toList:=by rw[ByteArray.data_append];simp
theorem Qz_ (x:BA):x.data.toList.length=x.size:=by rw[Array.length_toList];rfl
theorem Qg1_ {t:BA} (h:0 < t.size):¬t.toList=[]:=by
 intro e;have h2:=Qz_ t;rw[<-ByteArray.toList_eq,e]at h2;simp at h2;omega
theorem Qc4_ (l:List UInt8):(⟨l.toArray⟩:BA).size=l.length:=by simp[ByteArray.size]
def Qm_ (l:List BA):List Value:=l.map Value.string
def Mine (w:World) (B:Nat) (e:TypeId) (s:Nat) (A:OA) (n c:Nat) (xs:List Value):Prop:=w.ownsRow B e s (.slice A n c) n xs
section
variable {w w' w2:World} {B:Nat} {e:TypeId} {s:Nat} {A:OA} {n c:Nat} {xs:List Value} {o o' o'':Obj}
theorem Mine.of {v:Value} (h:w.ownsRow B e s v n xs):∃A c,v=.slice A n c/\Mine w B e s A n c xs:=by
 obtain⟨h1,h2⟩:=h;rcases h2 with⟨rfl,rfl⟩|⟨g,cap,a,rfl,r⟩
 ·exact⟨none,0,rfl,h1,.inl ⟨rfl,rfl⟩⟩
 ·exact⟨_,cap,rfl,h1,.inr ⟨g,cap,a,rfl,r⟩⟩
theorem Mine.len (h:Mine w B e s A n c xs):xs.length=n * s:=h.1
theorem Mine.own (h:Mine w B e s A n c xs):(A=none/\n=0/\c=0)\/∃g,A=some ⟨g,0,none⟩/\B<=g/\n<=c/\c<=maxLen/\Own w g e (c * s) xs:=by
 obtain⟨h1,i⟩:=h;rcases i with⟨i,h3⟩|⟨g,cap,f,hv,hg,hh,hn,hc,j,ht⟩
 ·injection i with a b d;exact .inl ⟨a,h3,d⟩
 ·injection hv with a b d;subst a;subst d;refine .inr ⟨g,rfl,hg,hn,hc,f.toList.drop (n * s),?_,?_⟩
  ·have e1:(xs++f.toList.drop (n * s)).toArray=f:=(by rw[<-ht,List.take_append_drop]);rw[e1];exact hh
  ·rw[<-ht,List.take_append_drop];simpa using j
theorem Mine.mk_own {g:Nat} (h:Own w g e (c * s) xs) (hl:xs.length=n * s) (hg:B<=g) (hn:n<=c) (hc:c<=maxLen):Mine w B e s (some ⟨g,0,none⟩) n c xs:=by
 obtain⟨rest,hb,hs⟩:=h;refine⟨hl,.inr ⟨g,c,_,rfl,hg,hb,hn,hc,by simpa using hs,?_⟩⟩;rw[<-hl];simp
theorem Mine.mk_nil (w:World) (B:Nat) (e:TypeId) (s:Nat):Mine w B e s none 0 0 []:=⟨by simp,.inl ⟨rfl,rfl⟩⟩
theorem Mine.rd (h:Mine w B e s A n c xs):Rd w s A n xs:=by
 rcases h.own with⟨rfl,rfl,_⟩|⟨g,rfl,_,_,_,ho⟩
 ·have:xs=[]:=List.eq_nil_of_length_eq_zero (by simpa using h.len);subst this;exact Rd.none_ _ _ _
 ·exact ho.rd h.len
theorem Mine.grown {row:ON} (h:Mine w B e s A n c xs) (hg:w.grownBy w' row) (a:∀g,row=some g->g < B\/A.map (·.block)≠some g):Mine w' B e s A n c xs:=by
 have hl:=h.len;rcases h.own with⟨rfl,rfl,rfl⟩|⟨g,rfl,hB,hn,hc,rest,hb,hs⟩
 ·exact⟨hl,.inl ⟨rfl,rfl⟩⟩
 ·refine Mine.mk_own ⟨rest,hb.grown hg (fun q=>?_),hs⟩ hl hB hn hc;rcases a g q.symm with h1|h1
  ·omega
  ·exact h1 rfl
theorem Mine.next (h:Mine w B e s A n c xs) (hb:Below w.heap.size w w'):Mine w' B e s A n c xs:=by
 have hl:=h.len;rcases h.own with⟨rfl,rfl,rfl⟩|⟨g,rfl,hB,hn,hc,ho⟩
 ·exact⟨hl,.inl ⟨rfl,rfl⟩⟩
 ·exact Mine.mk_own (ho.next hb) hl hB hn hc
theorem Mine.alloc (h:Mine w B e s A n c xs) (o:Obj):Mine (w.alloc o) B e s A n c xs:=h.next (br.alloc (Nat.le_refl _) o)
theorem Mine.next1 (h:Mine w B e s A n c xs) (hb:Below (w.alloc o).heap.size (w.alloc o) w2):Mine w2 B e s A n c xs:=(h.alloc o).next hb
theorem Mine.next2 (h:Mine w B e s A n c xs) (hb:Below ((w.alloc o).alloc o').heap.size ((w.alloc o).alloc o') w2):Mine w2 B e s A n c xs:=((h.alloc o).alloc o').next hb
theorem Mine.drewN (h:Mine w B e s A n c xs) (k:Nat):Mine (w.drewN k) B e s A n c xs:=h
theorem Mine.drew (h:Mine w B e s A n c xs):Mine w.drew B e s A n c xs:=h
theorem Mine.more (h:Mine w B e s A n c xs) {B':Nat} (hB:B'<=B):Mine w B' e s A n c xs:=by
 have hl:=h.len;rcases h.own with⟨rfl,rfl,rfl⟩|⟨g,rfl,hg,hn,hc,ho⟩
 ·exact⟨hl,.inl ⟨rfl,rfl⟩⟩
 ·exact Mine.mk_own ho hl oo hn hc
theorem QI_ (w:World) (e:TypeId) (s:Nat):(w.alloc (.cells #[] e)).ownsRow w.heap.size e s (.slice (some ⟨w.heap.size,0,none⟩) 0 0) 0 []:=
 ⟨by simp,.inr ⟨w.heap.size,0,#[],rfl,Nat.le_refl _,heap_alloc_new w _,Nat.le_refl _,Nat.zero_le _,by simp,by simp⟩⟩
theorem Mine.blk (h:Mine w B e s A n c xs) {g:Nat} (a:A.map (·.block)=some g):B<=g/\g < w.heap.size:=by
 rcases h.own with⟨rfl,_⟩|⟨g',rfl,hB,_,_,ho⟩
 ·simp at a
 ·simp at a;subst a;exact⟨hB,ho.lt⟩
theorem Rd.lt {size:Nat} (h:Rd w size A n xs) (hn:0 < n):∀b off,A=some ⟨b,off,none⟩->b < w.heap.size:=fun b off e=>by
 obtain⟨b',c,a,hb,_⟩:=h.2 hn;rw[e]at a;injection a with a;injection a with e1;omega
theorem Rd.turned {size:Nat} {row:ON} (h:Rd w size A n xs) (hg:w.grownBy w' row) (c:0 < n->∀g,row=some g->∀b off,A=some ⟨b,off,none⟩->b≠g):Rd w' size A n xs:=
 ⟨h.1,fun hn=>by
  obtain⟨b,off,e,hb,hc⟩:=h.2 hn;refine⟨b,off,e,Nat.lt_of_lt_of_le hb hg.size,fun j u hj=>(World.cell?_of_block (a:=⟨b,off+j,none⟩) (hg.block b hb (fun q=>?_))).trans (hc j u hj)⟩;exact c hn b q.symm b off e rfl⟩
theorem Blk.turned {g:Nat} {t:TypeId} {cs:Array Value} {row:ON} (h:Blk w g t cs) (hb:w.grownBy w' row) (hg:∀q,row=some q->g≠q):Blk w' g t cs:=
 h.grown hb (fun q=>hg g q.symm rfl)
theorem Own.grown {g cap:Nat} {t:TypeId} {row:ON} (h:Own w g t cap xs) (hb:w.grownBy w' row) (hg:∀q,row=some q->g≠q):Own w' g t cap xs:=by
 obtain⟨rest,h1,h2⟩:=h;exact⟨rest,h1.turned hb hg,h2⟩
theorem ke_ {W:World} {row:ON} (h:Below W.heap.size W w) (hg:w.grownBy w' row) (hr:∀g,row=some g->W.heap.size<=g):Below W.heap.size W w':=
 h.grown hg h.size hr
end
theorem Mine.apart {w:World} {B B':Nat} {e e':TypeId} {s s':Nat} {A A':OA} {n c n' c':Nat} {xs j:List Value} (h:Mine w B e s A n c xs) (h':Mine w B' e' s' A' n' c' j) (i:e≠e') {g:Nat} (f:A'.map (·.block)=some g):A.map (·.block)≠some g:=by
 intro b;rcases h.own with⟨rfl,_⟩|⟨a,rfl,_,_,_,r,hb,_⟩
 ·simp at b
 ·rcases h'.own with⟨rfl,_⟩|⟨a',rfl,_,_,_,r',d,_⟩
  ·simp at f
  ·simp at b f;subst b;subst f;have:=hb.symm.trans d;injection this with this;injection this with _ this;exact i this
theorem Qw_ (A:OA) (n c:Nat):(Value.slice A n c).ownBlock=A.map (·.block):=by cases A<;>rfl
theorem Ud_ {w:World} {A:OA} {n k:Nat} {l:List BA} {x:BA} (h:Rd w 1 A n (Qm_ l)) (hk:k < n) (hd:l[k]? =some x):
  ∃b off,A=some ⟨b,off,none⟩/\b < w.heap.size/\w.cell? ⟨b,off+k,none⟩=some (.string x):=by
 obtain⟨b,off,e,hb,hc⟩:=h.at_ oo;exact⟨b,off,e,hb,hc k _ (by unfold Qm_;rw[List.getElem?_map,hd];rfl)⟩
open Go.RowKit Go.WideShapes Go.ChangeShapes Go.Joins Go.Deep
def Qa_ (l:LI):List Value:=l.map (Value.int .i64)
theorem Ql_ {w:World} {A:OA} {n k:Nat} {l:LI} {x:Int} (h:Rd w 1 A n (Qa_ l)) (hk:k < n) (hd:l[k]? =some x):
  ∃b off,A=some ⟨b,off,none⟩/\b < w.heap.size/\w.cell? ⟨b,off+k,none⟩=some (.int .i64 x):=by
 obtain⟨b,off,e,hb,hc⟩:=h.at_ oo;exact⟨b,off,e,hb,hc k _ (by unfold Qa_;rw[List.getElem?_map,hd];rfl)⟩
section
variable {H:Type} {enc:TypeId × Value->H} {W:World} {base:Nat} {v:Value} {d:DataW H} {p:List MemPlace} {hd:Bool}
end
theorem QB_:(prog.info? 3).map (fun i=>(i.zero,i.size,i.bytes))=some (some (.int .i64 0),1,8):=by kernel_rfl
open Go.RowKit Go.WideShapes Go.ChangeShapes Go.Joins Go.Deep
structure Nd where
 kind:Int
 text:BA
 adr:OA
 cnt:Nat
 cap:Nat
 kids:LI
 blank:Bool
structure PN where
 kind:Int
 text:BA
 kids:LI
 blank:Bool
def Nd.pn (d:Nd):PN:=⟨d.kind,d.text,d.kids,d.blank⟩
def Qq_ (d:Nd):List Value:=[.int .i64 d.kind,.string d.text,.slice d.adr d.cnt d.cap,.bool d.blank]
theorem Kz_ (d:Nd):(Qq_ d).length=4:=rfl
def Nds (w:World) (A:OA) (n:Nat) (l:List Nd):Prop:=
 l.length=n/\Rd w 4 A n (l.flatMap Qq_)/\∀d∈l,Rd w 1 d.adr d.cnt (Qa_ d.kids)
def OwnNds (w:World) (t u:TypeId) (B g n:Nat) (l:List Nd):Prop:=
 l.length=n/\B<=g/\Own w g t (n * 4) (l.flatMap Qq_)/\∀d∈l,∃h,d.adr=some ⟨h,0,none⟩/\B<=h/\h≠g/\Own w h u d.cnt (Qa_ d.kids)
section
variable {w w' w2:World} {A:OA} {n k g B:Nat} {l:List Nd} {d:Nd} {o o':Obj} {t u:TypeId}
theorem Nds.len (h:Nds w A n l):l.length=n:=h.1
theorem Nds.next (h:Nds w A n l) (hb:Below w.heap.size w w'):Nds w' A n l:=⟨h.1,h.2.1.next hb,fun d hd=>(h.2.2 d hd).next hb⟩
theorem Nds.below (h:Nds w A n l) (hb:Below w.heap.size w w'):Nds w' A n l:=h.next hb
theorem Nds.alloc (h:Nds w A n l) (o:Obj):Nds (w.alloc o) A n l:=⟨h.1,h.2.1.alloc o,fun d hd=>(h.2.2 d hd).alloc o⟩
theorem Nds.next1 (h:Nds w A n l) (hb:Below (w.alloc o).heap.size (w.alloc o) w'):Nds w' A n l:=(h.alloc o).next hb
theorem Nds.next2 (h:Nds w A n l) (hb:Below ((w.alloc o).alloc o').heap.size ((w.alloc o).alloc o') w'):Nds w' A n l:=((h.alloc o).alloc o').next hb
theorem Nds.drewN (h:Nds w A n l) (k:Nat):Nds (w.drewN k) A n l:=h
theorem Nds.drew (h:Nds w A n l):Nds w.drew A n l:=h
theorem Qge_ {xs:LI} {m:Nat} (h:Rd w 1 A m (Qa_ xs)):xs.length=m:=by have:=h.1;simpa[Qa_]using this
theorem Nds.cnt (h:Nds w A n l) (hd:d∈l):d.kids.length=d.cnt:=Qge_ (h.2.2 d hd)
theorem Nds.get (h:Nds w A n l) (hk:k < n):∃d,l[k]? =some d:=⟨_,gE (by have:=h.1;omega)⟩
theorem Nds.at_ (h:Nds w A n l) (hk:k < n) (hd:l[k]? =some d):
  ∃b off,A=some ⟨b,off,none⟩/\b < w.heap.size/\w.cell? ⟨b,off+k * 4,none⟩=some (.int .i64 d.kind)/\w.cell? ⟨b,off+k * 4+1,none⟩=some (.string d.text)/\w.cell? ⟨b,off+k * 4+2,none⟩=some (.slice d.adr d.cnt d.cap)/\w.cell? ⟨b,off+k * 4+3,none⟩=some (.bool d.blank):=by
 obtain⟨b,off,e,hb,a⟩:=h.2.1.at_ oo;exact⟨b,off,e,hb,a _ _ (ZJ_ Qq_ Kz_ hd (j:=0) rfl),a _ _ (ZJ_ Qq_ Kz_ hd (j:=1) rfl),a _ _ (ZJ_ Qq_ Kz_ hd (j:=2) rfl),a _ _ (ZJ_ Qq_ Kz_ hd (j:=3) rfl)⟩
theorem Nds.kids (h:Nds w A n l) (hd:l[k]? =some d):Rd w 1 d.adr d.cnt (Qa_ d.kids):=h.2.2 d (List.mem_of_getElem? hd)
theorem OwnNds.next (h:OwnNds w t u B g n l) (hb:Below w.heap.size w w'):OwnNds w' t u B g n l:=
 ⟨h.1,h.2.1,h.2.2.1.next hb,fun d hd=>by obtain⟨x,e,hx,a,ho⟩:=h.2.2.2 d hd;exact⟨x,e,hx,a,ho.next hb⟩⟩
theorem OwnNds.alloc (h:OwnNds w t u B g n l) (o:Obj):OwnNds (w.alloc o) t u B g n l:=h.next (br.alloc (Nat.le_refl _) o)
theorem OwnNds.next1 (h:OwnNds w t u B g n l) (hb:Below (w.alloc o).heap.size (w.alloc o) w'):OwnNds w' t u B g n l:=(h.alloc o).next hb
theorem OwnNds.next2 (h:OwnNds w t u B g n l) (hb:Below ((w.alloc o).alloc o').heap.size ((w.alloc o).alloc o') w'):OwnNds w' t u B g n l:=((h.alloc o).alloc o').next hb
end
section
variable {H:Type} {enc:TypeId × Value->H} {W:World} {base:Nat} {v:Value} {d:DataW H} {p:List MemPlace} {hd:Bool}
end
def Nps (w:World) (A:OA) (n:Nat) (ps:List PN):Prop:=∃l,Nds w A n l/\(∀d∈l,d.cnt<=d.cap)/\l.map Nd.pn=ps
section
variable {w w':World} {A:OA} {n k:Nat} {ps:List PN} {p:PN} {o o':Obj}
theorem Nps.len (h:Nps w A n ps):ps.length=n:=by obtain⟨l,h,_,rfl⟩:=h;rw[List.length_map];exact h.1
theorem Nps.next (h:Nps w A n ps) (hb:Below w.heap.size w w'):Nps w' A n ps:=by obtain⟨l,h,c,e⟩:=h;exact⟨l,h.next hb,c,e⟩
theorem Nps.below (h:Nps w A n ps) (hb:Below w.heap.size w w'):Nps w' A n ps:=h.next hb
theorem Nps.alloc (h:Nps w A n ps) (o:Obj):Nps (w.alloc o) A n ps:=by obtain⟨l,h,c,e⟩:=h;exact⟨l,h.alloc o,c,e⟩
theorem Nps.next1 (h:Nps w A n ps) (hb:Below (w.alloc o).heap.size (w.alloc o) w'):Nps w' A n ps:=(h.alloc o).next hb
theorem Nps.next2 (h:Nps w A n ps) (hb:Below ((w.alloc o).alloc o').heap.size ((w.alloc o).alloc o') w'):Nps w' A n ps:=((h.alloc o).alloc o').next hb
theorem Nps.drewN (h:Nps w A n ps) (k:Nat):Nps (w.drewN k) A n ps:=h
theorem Nps.drew (h:Nps w A n ps):Nps w.drew A n ps:=h
theorem Nps.get (h:Nps w A n ps) (hk:k < n):∃p,ps[k]? =some p:=⟨_,gE (by have:=h.len;omega)⟩
theorem Nps.atc (h:Nps w A n ps) (hk:k < n) (hd:ps[k]? =some p):
  ∃b off A' c',A=some ⟨b,off,none⟩/\b < w.heap.size/\w.cell? ⟨b,off+k * 4,none⟩=some (.int .i64 p.kind)/\w.cell? ⟨b,off+k * 4+1,none⟩=some (.string p.text)/\w.cell? ⟨b,off+k * 4+2,none⟩=some (.slice A' p.kids.length c')/\w.cell? ⟨b,off+k * 4+3,none⟩=some (.bool p.blank)/\p.kids.length<=c'/\Rd w 1 A' p.kids.length (Qa_ p.kids):=by
 obtain⟨l,h,c,rfl⟩:=h;rw[List.getElem?_map]at hd;obtain⟨d,a,rfl⟩:=Option.map_eq_some_iff.1 hd;obtain⟨b,off,e,hb,c0,c1,c2,c3⟩:=h.at_ hk a;have f:=h.cnt (List.mem_of_getElem? a);have hr:=h.kids a;refine⟨b,off,d.adr,d.cap,e,hb,c0,c1,?_,c3,?_,?_⟩
 ·show w.cell? _=some (.slice d.adr d.kids.length d.cap);rw[f];exact c2
 ·show d.kids.length<=d.cap;rw[f];exact c d (List.mem_of_getElem? a)
 ·show Rd w 1 d.adr d.kids.length (Qa_ d.kids);rw[f];exact hr
theorem Nps.at_ (h:Nps w A n ps) (hk:k < n) (hd:ps[k]? =some p):
  ∃b off A' c',A=some ⟨b,off,none⟩/\b < w.heap.size/\w.cell? ⟨b,off+k * 4,none⟩=some (.int .i64 p.kind)/\w.cell? ⟨b,off+k * 4+1,none⟩=some (.string p.text)/\w.cell? ⟨b,off+k * 4+2,none⟩=some (.slice A' p.kids.length c')/\w.cell? ⟨b,off+k * 4+3,none⟩=some (.bool p.blank)/\Rd w 1 A' p.kids.length (Qa_ p.kids):=by
 obtain⟨b,off,A',c',e,hb,c0,c1,c2,c3,_,hr⟩:=h.atc hk hd;exact⟨b,off,A',c',e,hb,c0,c1,c2,c3,hr⟩
end
def ToN (w:World) (B n k:Nat) (l:List Nd):Prop:=
 l.length=k/\Own w B 36 (n * 4) (l.flatMap Qq_)/\∀d∈l,(d.kids.length=d.cnt/\d.cnt<=d.cap)/\∃h,d.adr=some ⟨h,0,none⟩/\B < h/\Own w h 3 d.cnt (Qa_ d.kids)
theorem ToN.next {w w':World} {B n k:Nat} {l:List Nd} (h:ToN w B n k l) (hb:Below w.heap.size w w'):ToN w' B n k l:=
 ⟨h.1,h.2.1.next hb,fun d hd=>by obtain⟨e,x,e1,h1,ho⟩:=h.2.2 d hd;exact⟨e,x,e1,h1,ho.next hb⟩⟩
theorem ToN.push {w:World} {B n k:Nat} {l:List Nd} (h:ToN w B n k l) (hk:k < n) (d:Nd) (hc:d.kids.length=d.cnt/\d.cnt<=d.cap) {g:Nat} (ha:d.adr=some ⟨g,0,none⟩) (hB:B < g) (ho:Own w g 3 d.cnt (Qa_ d.kids)) {c f j m:Value} (hv:Qq_ d=[c,f,j,m]):
  ToN ((((w.setCell ⟨B,k * 4,none⟩ c).setCell ⟨B,k * 4+1,none⟩ f).setCell ⟨B,k * 4+2,none⟩ j).setCell ⟨B,k * 4+3,none⟩ m) B n (k+1) (l++[d]):=by
 obtain⟨h1,h2,h3⟩:=h;have a:(l.flatMap Qq_).length=k * 4:=by rw[Jz_ Qq_ Kz_,h1]
 have o:=h2.push (by simp[a];omega) (i:=k * 4) (by simp[a]) c;have p:=o.push (by simp[a];omega) (i:=k * 4+1) (by simp[a]) f;have q:=p.push (by simp[a];omega) (i:=k * 4+2) (by simp[a]) j;have r:=q.push (by simp[a];omega) (i:=k * 4+3) (by simp[a]) m;refine⟨by simp[h1],?_,fun x b=>?_⟩
 ·rw[List.flatMap_append,show[d].flatMap Qq_=[c,f,j,m]by simp[hv]];simpa using r
 ·rcases List.mem_append.1 b with b|b
  ·obtain⟨e,y,e1,h4,hw⟩:=h3 x b;exact⟨e,y,e1,h4,(((hw.far (by simp;omega) _).far (by simp;omega) _).far (by simp;omega) _).far (by simp;omega) _⟩
  ·obtain rfl:=List.mem_singleton.1 b;exact⟨hc,g,ha,hB,(((ho.far (by simp;omega) _).far (by simp;omega) _).far (by simp;omega) _).far (by simp;omega) _⟩
def Gi_ (p:UInt8->Bool) (s:BA):Bool:=s.data.toList.all p
def VY_ (p:UInt8->Bool) (s:BA) (k:Nat):Prop:=(s.data.toList.take k).all p=true
section
variable {p:UInt8->Bool} {s:BA} {k:Nat}
theorem Xr_ (p:UInt8->Bool) (s:BA):VY_ p s 0:=by simp[VY_]
theorem ZU_ (h:VY_ p s k) (hk:k < s.size) (hc:p s[k]=true):VY_ p s (k+1):=by
 unfold VY_ at h |-
 rw[List.take_succ_eq_append_getElem (by simpa using hk),List.all_append,h];simp only[List.all_cons,List.all_nil,Bool.and_true,Bool.true_and];exact hc
theorem Jp_ (hk:k < s.size) (hc:p s[k]=false):Gi_ p s=false:=by
 unfold Gi_;rw[List.all_eq_false];exact⟨s[k],by rw[show s[k]=s.data.toList[k]'(by simpa using hk)from rfl];exact List.getElem_mem _,by simp[hc]⟩
theorem Jo_ (h:VY_ p s k) (hk:k=s.size):Gi_ p s=true:=by
 unfold VY_ at h;unfold Gi_;rwa[List.take_of_length_le (by simp[hk])]at h
end
def QN_ (c:UInt8):Bool:=decide ((97<=(c.toNat:Int)/\(c.toNat:Int)<=122)\/(65<=(c.toNat:Int)/\(c.toNat:Int)<=90)\/(c.toNat:Int)=95)
def Km_ (c:UInt8):Bool:=decide (48<=(c.toNat:Int)/\(c.toNat:Int)<=57)
def Qp_ (c:UInt8):Bool:=QN_ c||Km_ c
def QJ_ (c:UInt8):Bool:=decide (32<=(c.toNat:Int)/\(c.toNat:Int)<=126)
def K0_ (p:UInt8->Bool):List UInt8->Nat
 |[]=>0
 |c::l=>if p c then K0_ p l+1 else 0
theorem KN_ (p:UInt8->Bool) (l:List UInt8):K0_ p l<=l.length:=by
 induction l with
 |nil=>exact Nat.le_refl _
 |cons c l ih=>unfold K0_;split<;>simp<;>omega
theorem QeB_ (p:UInt8->Bool) (l:List UInt8):K0_ p l=l.length↔l.all p=true:=by
 induction l with
 |nil=>simp[K0_]
 |cons c l ih=>
  unfold K0_;by_cases h:p c=true
  ·rw[if_pos h,List.length_cons,List.all_cons,h,Bool.true_and,<-ih];omega
  ·rw[if_neg h,List.length_cons,List.all_cons,Bool.eq_false_iff.2 h];simp
theorem Wz_ (p:UInt8->Bool) (s:BA):K0_ p s.data.toList=s.size↔Gi_ p s=true:=by
 have h:=QeB_ p s.data.toList;rw[Qz_]at h;exact h
theorem Wy_ {p:UInt8->Bool} {s:BA} {k:Nat} (h:VY_ p s k) (b:k < s.size) (a:p s[k]=false):K0_ p s.data.toList=k:=by
 have d:∀(l:List UInt8) (k:Nat) (b:k < l.length),(l.take k).all p=true->p l[k]=false->K0_ p l=k:=by
  intro l
  induction l with
  |nil=>intro k b;simp at b
  |cons c l ih=>
   intro k b h a
   cases k with
   |zero=>simp only[List.getElem_cons_zero]at a;unfold K0_;rw[if_neg (by rw[a];decide)]
   |succ k=>
    simp only[List.take_succ_cons,List.all_cons,Bool.and_eq_true]at h;simp only[List.getElem_cons_succ]at a;unfold K0_;rw[if_pos h.1,ih k (by simpa using b) h.2 a]
 exact d s.data.toList k (by rw[Qz_];exact b) h a
theorem qW_ {p:UInt8->Bool} {s:BA} {k:Nat} (h:VY_ p s k) (hk:k=s.size):K0_ p s.data.toList=k:=by
 rw[(Wz_ p s).2 (Jo_ h hk),hk]
theorem zt_ {c:UInt8} (h:((97:Int)<=c.toNat/\(c.toNat:Int)<=122)\/((65:Int)<=c.toNat/\(c.toNat:Int)<=90)\/(c.toNat:Int)=95):true=QN_ c:=(decide_eq_true h).symm
theorem Yi_ {c:UInt8} (h:¬(((97:Int)<=c.toNat/\(c.toNat:Int)<=122)\/((65:Int)<=c.toNat/\(c.toNat:Int)<=90)\/(c.toNat:Int)=95)):false=QN_ c:=(decide_eq_false h).symm
theorem vn_ {c:UInt8} (h:(48:Int)<=c.toNat/\(c.toNat:Int)<=57):true=Km_ c:=(decide_eq_true h).symm
theorem QbY_ {c:UInt8} (h:¬((48:Int)<=c.toNat/\(c.toNat:Int)<=57)):false=Km_ c:=(decide_eq_false h).symm
theorem zI_ {c:UInt8} (h:(32:Int)<=c.toNat/\(c.toNat:Int)<=126):true=QJ_ c:=(decide_eq_true h).symm
theorem Wt_ {c:UInt8} (h:¬((32:Int)<=c.toNat/\(c.toNat:Int)<=126)):false=QJ_ c:=(decide_eq_false h).symm
theorem Q9_ (c:UInt8) (w:World):Calls prog 99 #[.int .u8 c.toNat] w fun e w'=>e=.returned (.bool (QN_ c))/\w=w':=by
 by_cases h1:(97:Int)<=c.toNat
 all_goals by_cases h2:(c.toNat:Int)<=122
 all_goals by_cases h3:(65:Int)<=c.toNat
 all_goals by_cases h4:(c.toNat:Int)<=90
 all_goals by_cases h5:(c.toNat:Int)=95
 all_goals try omega
 all_goals
  go_enter func99,ntmps99;go_wp2;go_ret;refine⟨Qx_ ?_,rfl⟩
  first|exact zt_ (c:=c) oo|exact Yi_ (c:=c) oo|(have d:((c.toNat:Int)==95)=false:=(by rw[beq_eq_false_iff_ne];omega);rw[d];exact Yi_ (c:=c) oo)|(have d:decide ((c.toNat:Int)=95)=false:=decide_eq_false oo;rw[d];exact Yi_ (c:=c) oo)
theorem Zf_ (c:UInt8) (w:World):Calls prog 141 #[.int .u8 c.toNat] w fun e w'=>e=.returned (.bool (QN_ c))/\w=w':=by
 by_cases h1:(97:Int)<=c.toNat
 all_goals by_cases h2:(c.toNat:Int)<=122
 all_goals by_cases h3:(65:Int)<=c.toNat
 all_goals by_cases h4:(c.toNat:Int)<=90
 all_goals by_cases h5:(c.toNat:Int)=95
 all_goals try omega
 all_goals
  go_enter func141,ntmps141;go_wp2;go_ret;refine⟨Qx_ ?_,rfl⟩
  first|exact zt_ (c:=c) oo|exact Yi_ (c:=c) oo|(have d:((c.toNat:Int)==95)=false:=(by rw[beq_eq_false_iff_ne];omega);rw[d];exact Yi_ (c:=c) oo)|(have d:decide ((c.toNat:Int)=95)=false:=decide_eq_false oo;rw[d];exact Yi_ (c:=c) oo)
theorem QZ_ (c:UInt8) (w:World):Calls prog 100 #[.int .u8 c.toNat] w fun e w'=>e=.returned (.bool (Km_ c))/\w=w':=by
 by_cases h1:(48:Int)<=c.toNat
 all_goals by_cases h2:(c.toNat:Int)<=57
 all_goals
  go_enter func100,ntmps100;go_wp2;go_ret;refine⟨Qx_ ?_,rfl⟩
  first|exact vn_ oo|exact QbY_ oo
theorem KX_ (c:UInt8) (w:World):Calls prog 144 #[.int .u8 c.toNat] w fun e w'=>e=.returned (.bool (Km_ c))/\w=w':=by
 by_cases h1:(48:Int)<=c.toNat
 all_goals by_cases h2:(c.toNat:Int)<=57
 all_goals
  go_enter func144,ntmps144;go_wp2;go_ret;refine⟨Qx_ ?_,rfl⟩
  first|exact vn_ oo|exact QbY_ oo
theorem Ga_ (c:UInt8) (w:World):Calls prog 131 #[.int .u8 c.toNat] w fun e w'=>e=.returned (.bool (QJ_ c))/\w=w':=by
 by_cases h1:(32:Int)<=c.toNat
 all_goals by_cases h2:(c.toNat:Int)<=126
 all_goals
  go_enter func131,ntmps131;go_wp2;go_ret;refine⟨Qx_ ?_,rfl⟩
  first|exact zI_ oo|exact Wt_ oo
theorem qm_ (c:UInt8) (w:World):Calls prog 143 #[.int .u8 c.toNat] w fun e w'=>e=.returned (.bool (Qp_ c))/\w=w':=by
 have d:=hid (fun(b:Bool) (a:QN_ c=b) (W:World)=>show Calls prog 141 #[.int .u8 (c.toNat:Int)] W fun e w'=>e=.returned (.bool b)/\W=w' by rw[<-a];exact Zf_ c W)
 cases a:QN_ c with
 |true=>
  have f:=hid (d.o _ a);have hi:Qp_ c=true:=by unfold Qp_;rw[a];rfl
  rw[hi];clear d a hi;go_enter func143,ntmps143;go_wp2_with (go_at_call 141;refine(f.o _).mono ?_;rintro e w1 ⟨rfl,rfl⟩)
  go_ret;exact⟨rfl,rfl⟩
 |false=>
  have f:=hid (d.o _ a);have hi:Qp_ c=Km_ c:=by unfold Qp_;rw[a];rfl
  rw[hi];clear d a hi;go_enter func143,ntmps143;go_wp2_with (first|(go_at_call 141;refine(f.o _).mono ?_;rintro e w1 ⟨rfl,rfl⟩)|(go_at_call 144;refine(KX_ c _).mono ?_;rintro e w1 ⟨rfl,rfl⟩))
  go_ret;exact⟨rfl,rfl⟩
theorem W9_ (c:UInt8) (w:World):Calls prog 147 #[.int .u8 c.toNat] w fun e w'=>e=.returned (.bool (c != 10))/\w=w':=by
 by_cases h:(c.toNat:Int)=10
 ·have a:c=10:=by apply UInt8.toNat_inj.1;show c.toNat=10;omega
  subst a;go_enter func147,ntmps147;go_wp2;go_ret;exact⟨rfl,rfl⟩
 ·have a:(c != 10)=true:=by
   rw[bne_iff_ne];intro e;subst e;exact h rfl
  rw[a];have h2:((c.toNat:Int)==10)=false:=by rw[beq_eq_false_iff_ne];exact h
  have h3:((c.toNat:Int) != 10)=true:=by rw[bne_iff_ne];exact h
  go_enter func147,ntmps147;go_wp2;go_ret;refine⟨Qx_ ?_,rfl⟩
  first|rfl|exact h3|simp[h2]|simpa using h
theorem JE_ (s:BA) (w:World) (hs:s.size<=maxLen):Calls prog 149 #[.string s] w fun e w'=>e=.returned (.bool (Gi_ QJ_ s))/\w=w':=by
 unfold maxLen at hs;go_enter func149,ntmps149;go_wp2
 go_loop [3] (fun i=>∃k:Nat,k<=s.size/\VY_ QJ_ s k/\i=.int .i64 k) (fun i=>s.size - (intOf i).toNat)
 case atStart=>exact⟨0,Nat.zero_le _,Xr_ _ s,rfl⟩
 case round=>
  obtain⟨k,hk,ha,rfl⟩:=hrel;by_cases a:k < s.size
  ·by_cases h1:(s[k].toNat:Int) < 32
   ·have b:=hid (Jp_ a (Wt_ oo).symm);go_wp2;go_ret;exact⟨Qx_ b.o.symm,rfl⟩
   ·by_cases h2:(126:Int) < s[k].toNat
    ·have b:=hid (Jp_ a (Wt_ oo).symm);go_wp2;go_ret;exact⟨Qx_ b.o.symm,rfl⟩
    ·have b:=ZU_ ha a (zI_ oo).symm;go_wp2
     go_round
     case rel=>exact⟨k+1,oo,b,by go_num⟩
     case measure=>simp[intOf];omega
  ·have b:=hid (Jo_ ha oo);go_wp2;go_ret;exact⟨Qx_ b.o.symm,rfl⟩
def X3_ (s:BA):Bool:=
 s.toList==[99,108,97,115,115]||s.toList==[118,97,114]||s.toList==[105,102]||s.toList==[101,108,115,101]||s.toList==[119,104,105,108,101]||s.toList==[114,101,116,117,114,110]
theorem U2_ (s:BA) (w:World):Calls prog 229 #[.string s] w fun e w'=>e=.returned (.bool (X3_ s))/\w=w':=by
 cases h0:(s.toList==[99,108,97,115,115])with
 |true=>
  have a:X3_ s=true:=by unfold X3_;simp only[h0,Bool.or_true,Bool.true_or]
  rw[a];clear a;go_enter func229,ntmps229;go_wp2;go_ret;exact⟨rfl,rfl⟩
 |false=>
 cases h1:(s.toList==[118,97,114])with
 |true=>
  have a:X3_ s=true:=by unfold X3_;simp only[h1,Bool.or_true,Bool.true_or]
  rw[a];clear a;go_enter func229,ntmps229;go_wp2;go_ret;exact⟨rfl,rfl⟩
 |false=>
 cases h2:(s.toList==[105,102])with
 |true=>
  have a:X3_ s=true:=by unfold X3_;simp only[h2,Bool.or_true,Bool.true_or]
  rw[a];clear a;go_enter func229,ntmps229;go_wp2;go_ret;exact⟨rfl,rfl⟩
 |false=>
 cases h3:(s.toList==[101,108,115,101])with
 |true=>
  have a:X3_ s=true:=by unfold X3_;simp only[h3,Bool.or_true,Bool.true_or]
  rw[a];clear a;go_enter func229,ntmps229;go_wp2;go_ret;exact⟨rfl,rfl⟩
 |false=>
 cases h4:(s.toList==[119,104,105,108,101])with
 |true=>
  have a:X3_ s=true:=by unfold X3_;simp only[h4,Bool.or_true,Bool.true_or]
  rw[a];clear a;go_enter func229,ntmps229;go_wp2;go_ret;exact⟨rfl,rfl⟩
 |false=>
 cases h5:(s.toList==[114,101,116,117,114,110])with
 |true=>
  have a:X3_ s=true:=by unfold X3_;simp only[h5,Bool.or_true,Bool.true_or]
  rw[a];clear a;go_enter func229,ntmps229;go_wp2;go_ret;exact⟨rfl,rfl⟩
 |false=>
 have a:X3_ s=false:=by unfold X3_;simp only[h0,h1,h2,h3,h4,h5,Bool.or_self]
 rw[a];clear a;go_enter func229,ntmps229;go_wp2;go_ret;exact⟨rfl,rfl⟩
theorem Jd_ (s:BA) (w:World):Calls prog 103 #[.string s] w fun e w'=>e=.returned (.bool (X3_ s))/\w=w':=by
 cases h0:(s.toList==[99,108,97,115,115])with
 |true=>
  have a:X3_ s=true:=by unfold X3_;simp only[h0,Bool.or_true,Bool.true_or]
  rw[a];clear a;go_enter func103,ntmps103;go_wp2;go_ret;exact⟨rfl,rfl⟩
 |false=>
 cases h1:(s.toList==[118,97,114])with
 |true=>
  have a:X3_ s=true:=by unfold X3_;simp only[h1,Bool.or_true,Bool.true_or]
  rw[a];clear a;go_enter func103,ntmps103;go_wp2;go_ret;exact⟨rfl,rfl⟩
 |false=>
 cases h2:(s.toList==[105,102])with
 |true=>
  have a:X3_ s=true:=by unfold X3_;simp only[h2,Bool.or_true,Bool.true_or]
  rw[a];clear a;go_enter func103,ntmps103;go_wp2;go_ret;exact⟨rfl,rfl⟩
 |false=>
 cases h3:(s.toList==[101,108,115,101])with
 |true=>
  have a:X3_ s=true:=by unfold X3_;simp only[h3,Bool.or_true,Bool.true_or]
  rw[a];clear a;go_enter func103,ntmps103;go_wp2;go_ret;exact⟨rfl,rfl⟩
 |false=>
 cases h4:(s.toList==[119,104,105,108,101])with
 |true=>
  have a:X3_ s=true:=by unfold X3_;simp only[h4,Bool.or_true,Bool.true_or]
  rw[a];clear a;go_enter func103,ntmps103;go_wp2;go_ret;exact⟨rfl,rfl⟩
 |false=>
 cases h5:(s.toList==[114,101,116,117,114,110])with
 |true=>
  have a:X3_ s=true:=by unfold X3_;simp only[h5,Bool.or_true,Bool.true_or]
  rw[a];clear a;go_enter func103,ntmps103;go_wp2;go_ret;exact⟨rfl,rfl⟩
 |false=>
 have a:X3_ s=false:=by unfold X3_;simp only[h0,h1,h2,h3,h4,h5,Bool.or_self]
 rw[a];clear a;go_enter func103,ntmps103;go_wp2;go_ret;exact⟨rfl,rfl⟩
def Q2_ (s:BA):Bool:=
 s.toList==[38,38]||s.toList==[124,124]||s.toList==[61,61]||s.toList==[60]||s.toList==[43]||s.toList==[45]||s.toList==[42]
theorem qZ_ (s:BA) (w:World):Calls prog 212 #[.string s] w fun e w'=>e=.returned (.bool (Q2_ s))/\w=w':=by
 cases h0:(s.toList==[38,38])with
 |true=>
  have a:Q2_ s=true:=by unfold Q2_;simp only[h0,Bool.or_true,Bool.true_or]
  rw[a];clear a;go_enter func212,ntmps212;go_wp2;go_ret;exact⟨rfl,rfl⟩
 |false=>
 cases h1:(s.toList==[124,124])with
 |true=>
  have a:Q2_ s=true:=by unfold Q2_;simp only[h1,Bool.or_true,Bool.true_or]
  rw[a];clear a;go_enter func212,ntmps212;go_wp2;go_ret;exact⟨rfl,rfl⟩
 |false=>
 cases h2:(s.toList==[61,61])with
 |true=>
  have a:Q2_ s=true:=by unfold Q2_;simp only[h2,Bool.or_true,Bool.true_or]
  rw[a];clear a;go_enter func212,ntmps212;go_wp2;go_ret;exact⟨rfl,rfl⟩
 |false=>
 cases h3:(s.toList==[60])with
 |true=>
  have a:Q2_ s=true:=by unfold Q2_;simp only[h3,Bool.or_true,Bool.true_or]
  rw[a];clear a;go_enter func212,ntmps212;go_wp2;go_ret;exact⟨rfl,rfl⟩
 |false=>
 cases h4:(s.toList==[43])with
 |true=>
  have a:Q2_ s=true:=by unfold Q2_;simp only[h4,Bool.or_true,Bool.true_or]
  rw[a];clear a;go_enter func212,ntmps212;go_wp2;go_ret;exact⟨rfl,rfl⟩
 |false=>
 cases h5:(s.toList==[45])with
 |true=>
  have a:Q2_ s=true:=by unfold Q2_;simp only[h5,Bool.or_true,Bool.true_or]
  rw[a];clear a;go_enter func212,ntmps212;go_wp2;go_ret;exact⟨rfl,rfl⟩
 |false=>
 cases h6:(s.toList==[42])with
 |true=>
  have a:Q2_ s=true:=by unfold Q2_;simp only[h6,Bool.or_true,Bool.true_or]
  rw[a];clear a;go_enter func212,ntmps212;go_wp2;go_ret;exact⟨rfl,rfl⟩
 |false=>
 have a:Q2_ s=false:=by unfold Q2_;simp only[h0,h1,h2,h3,h4,h5,h6,Bool.or_self]
 rw[a];clear a;go_enter func212,ntmps212;go_wp2;go_ret;exact⟨rfl,rfl⟩
end Go.Proofs.YtgbikafalcbibaaGreatDoor
namespace Go.Proofs
open Go.Shelf
def Tryz.lays162_ren:Go.Shelf.Ren:=⟨fun|162=>185|232=>223|227=>224|234=>225|236=>226|228=>240|271=>241|151=>242|120=>245|197=>205|152=>246|260=>233|137=>183|119=>249|224=>189|225=>188|217=>187|266=>227|n=>n,fun|9=>9|4=>4|3=>3|5=>5|117=>174|116=>173|0=>0|124=>177|21=>21|105=>167|46=>130|119=>184|139=>187|138=>186|n=>n,fun|3=>4|4=>5|n=>n⟩
theorem Tryz.lays162:Go.Proofs.Lays.n162 prog Tryz.lays162_ren:=⟨(by kernel_rfl),func249.trans (congrArg some (by kernel_rfl)),func245.trans (congrArg some (by kernel_rfl)),func183.trans (congrArg some (by kernel_rfl)),func242.trans (congrArg some (by kernel_rfl)),func246.trans (congrArg some (by kernel_rfl)),func185.trans (congrArg some (by kernel_rfl)),func205.trans (congrArg some (by kernel_rfl)),func187.trans (congrArg some (by kernel_rfl)),func189.trans (congrArg some (by kernel_rfl)),func188.trans (congrArg some (by kernel_rfl)),func224.trans (congrArg some (by kernel_rfl)),func240.trans (congrArg some (by kernel_rfl)),func223.trans (congrArg some (by kernel_rfl)),func225.trans (congrArg some (by kernel_rfl)),func226.trans (congrArg some (by kernel_rfl)),func233.trans (congrArg some (by kernel_rfl)),func227.trans (congrArg some (by kernel_rfl)),func241.trans (congrArg some (by kernel_rfl)),underlying0,isAgg0,sizeOf0,zeroValue0,underlying3,isAgg3,sizeOf3,zeroValue3,underlying4,isAgg4,sizeOf4,zeroValue4,underlying5,isAgg5,sizeOf5,zeroValue5,underlying9,isAgg9,sizeOf9,zeroValue9,underlying21,isAgg21,sizeOf21,zeroValue21,underlying130,isAgg130,sizeOf130,zeroValue130,underlying167,isAgg167,sizeOf167,zeroValue167,underlying173,isAgg173,sizeOf173,underlying174,isAgg174,sizeOf174,zeroValue174,underlying184,isAgg184,sizeOf184,underlying177,isAgg177,sizeOf177,zeroValue177,underlying186,isAgg186,sizeOf186,zeroValue186,underlying187,isAgg187,sizeOf187,zeroValue187,(by kernel_rfl),(by kernel_rfl)⟩
open Go.RowKit in
/-- strings.TrimRight: "TrimRight returns a slice of the string s, with all trailing Unicode code points contained in cutset removed.": AT A cutset OF ONE ASCII BYTE. The world is as it was. (LAID: no walk: one application.) -/
theorem Tryz.strings_TrimRight_one (s:BA) (c:UInt8) (hc:c.toNat < 128) (w:World) (hs:s.size<=9223372036854775807):
    Calls prog 185 #[.string s,.string ⟨#[c]⟩] w fun e w'=>e=.returned (.string ⟨(Lib.trimRightB s.data.toList c).toArray⟩)/\w'=w:=Any.strings_TrimRight_one Tryz.lays162 s c hc w hs
def Tryz.lays137_ren:Go.Shelf.Ren:=⟨fun|137=>183|217=>187|266=>227|n=>n,fun|9=>9|5=>5|3=>3|n=>n,fun|n=>n⟩
theorem Tryz.lays137:Go.Proofs.Lays.n137 prog Tryz.lays137_ren:=⟨(by kernel_rfl),func183.trans (congrArg some (by kernel_rfl)),func187.trans (congrArg some (by kernel_rfl)),func227.trans (congrArg some (by kernel_rfl)),underlying3,isAgg3,sizeOf3,zeroValue3,underlying5,isAgg5,sizeOf5,zeroValue5,underlying9,isAgg9,sizeOf9,zeroValue9⟩
open Go.RowKit in
/-- strings.IndexByte: "IndexByte returns the index of the first instance of c in s, or -1 if c is not present in s.": IT RETURNS 'Lib.indexByte s c'; the world is as it was. (LAID: no walk: one application.) -/
theorem Tryz.strings_IndexByte (s:BA) (c:Int) (w:World):
    Calls prog 183 #[.string s,.int .u8 c] w fun e w'=>e=.returned (.int .i64 (Lib.indexByte s.data.toList c.toNat.toUInt8))/\w'=w:=Any.strings_IndexByte Tryz.lays137 s c w
def Tryz.laysM171_ren:Go.Shelf.Ren:=⟨fun|171=>64|243=>93|246=>128|283=>162|284=>163|285=>164|286=>165|129=>201|317=>200|318=>202|319=>203|320=>204|337=>231|338=>232|n=>n,fun|3=>3|9=>9|2=>2|4=>4|171=>147|0=>0|53=>148|37=>80|5=>5|173=>151|212=>163|51=>164|20=>20|213=>165|46=>130|232=>182|233=>183|n=>n,fun|17=>1|18=>2|19=>3|n=>n⟩
theorem Tryz.laysM171:Go.Proofs.LaysM.n171 prog Tryz.laysM171_ren:={
 mixed:=by kernel_rfl
 f129:=func201.trans (congrArg some (by kernel_rfl))
 f171:=func64.trans (congrArg some (by kernel_rfl))
 f243:=func93.trans (congrArg some (by kernel_rfl))
 f246:=func128.trans (congrArg some (by kernel_rfl))
 f283:=func162.trans (congrArg some (by kernel_rfl))
 f284:=func163.trans (congrArg some (by kernel_rfl))
 f285:=func164.trans (congrArg some (by kernel_rfl))
 f286:=func165.trans (congrArg some (by kernel_rfl))
 f317:=func200.trans (congrArg some (by kernel_rfl))
 f318:=func202.trans (congrArg some (by kernel_rfl))
 f319:=func203.trans (congrArg some (by kernel_rfl))
 f320:=func204.trans (congrArg some (by kernel_rfl))
 f337:=func231.trans (congrArg some (by kernel_rfl))
 f338:=func232.trans (congrArg some (by kernel_rfl))
 t0:=underlying0
 a0:=Tryz.isAgg0
 z0:=Tryz.sizeOf0
 v0:=Tryz.zeroValue0
 t2:=underlying2
 a2:=Tryz.isAgg2
 z2:=Tryz.sizeOf2
 v2:=Tryz.zeroValue2
 t3:=underlying3
 a3:=Tryz.isAgg3
 z3:=Tryz.sizeOf3
 v3:=Tryz.zeroValue3
 t4:=underlying4
 a4:=Tryz.isAgg4
 z4:=Tryz.sizeOf4
 v4:=Tryz.zeroValue4
 t5:=underlying5
 a5:=Tryz.isAgg5
 z5:=Tryz.sizeOf5
 v5:=Tryz.zeroValue5
 t9:=underlying9
 a9:=Tryz.isAgg9
 z9:=Tryz.sizeOf9
 v9:=Tryz.zeroValue9
 t20:=underlying20
 a20:=Tryz.isAgg20
 z20:=Tryz.sizeOf20
 v20:=Tryz.zeroValue20
 t37:=underlying80
 a37:=Tryz.isAgg80
 z37:=Tryz.sizeOf80
 v37:=Tryz.zeroValue80
 t46:=underlying130
 a46:=Tryz.isAgg130
 z46:=Tryz.sizeOf130
 v46:=Tryz.zeroValue130
 t51:=underlying164
 a51:=Tryz.isAgg164
 z51:=Tryz.sizeOf164
 v51:=Tryz.zeroValue164
 t53:=underlying148
 a53:=Tryz.isAgg148
 z53:=Tryz.sizeOf148
 v53:=Tryz.zeroValue148
 t171:=underlying147
 a171:=Tryz.isAgg147
 z171:=Tryz.sizeOf147
 v171:=Tryz.zeroValue147
 t173:=underlying151
 a173:=Tryz.isAgg151
 z173:=Tryz.sizeOf151
 v173:=Tryz.zeroValue151
 t212:=underlying163
 a212:=Tryz.isAgg163
 z212:=Tryz.sizeOf163
 v212:=Tryz.zeroValue163
 t213:=underlying165
 a213:=Tryz.isAgg165
 z213:=Tryz.sizeOf165
 t232:=underlying182
 a232:=Tryz.isAgg182
 z232:=Tryz.sizeOf182
 v232:=Tryz.zeroValue182
 t233:=underlying183
 a233:=Tryz.isAgg183
 z233:=Tryz.sizeOf183
 v233:=Tryz.zeroValue183
 g17:=by kernel_rfl
 g18:=by kernel_rfl
 g19:=by kernel_rfl
 i0:=by kernel_rfl
 i2:=by kernel_rfl
 i3:=by kernel_rfl
 i4:=by kernel_rfl
 i5:=by kernel_rfl
 i9:=by kernel_rfl
 i20:=by kernel_rfl
 i37:=by kernel_rfl
 i46:=by kernel_rfl
 i51:=by kernel_rfl
 i53:=by kernel_rfl
 i171:=by kernel_rfl
 i173:=by kernel_rfl
 i212:=by kernel_rfl
 i232:=by kernel_rfl
 i233:=by kernel_rfl
 m17:=by kernel_rfl
 m18:=by kernel_rfl
 m19:=by kernel_rfl }
open Go.RowKit Go.Sort Go.Lib in
/-- strconv.Itoa: "Itoa is equivalent to FormatInt(int64(i), 10).": i's DECIMAL NUMERAL ('Lib.itoa': a '-' where i is negative, then the digits), FOR EVERY int. The world behind the call: the world before it, new blocks behind the heap (the library's 'var a [24]byte'), draws. (LAID: no walk: one application.) -/
theorem Tryz.strconv_Itoa (n:Int) (h0: -9223372036854775808≤n) (h1:n≤9223372036854775807) (w:World) (a:Lib.TabIs prog w "internal/strconv.uint64pow10" .u64 Lib.pow10Tab):
    Calls prog 64 #[.int .i64 n] w fun e w'=>e=.returned (.string ⟨(Lib.itoa n).toArray⟩)∧∃k os,w'=grow (w.drewN k) os:=Any.strconv_Itoa Tryz.laysM171 n h0 h1 w a
def Tryz.lays144_ren:Go.Shelf.Ren:=⟨fun|144=>186|143=>124|219=>155|217=>187|225=>188|224=>189|267=>190|266=>227|314=>228|n=>n,fun|9=>9|4=>4|3=>3|5=>5|46=>130|146=>178|51=>164|n=>n,fun|1=>0|n=>n⟩
theorem Tryz.lays144:Go.Proofs.Lays.n144 prog Tryz.lays144_ren:=⟨(by kernel_rfl),func124.trans (congrArg some (by kernel_rfl)),func186.trans (congrArg some (by kernel_rfl)),func187.trans (congrArg some (by kernel_rfl)),func155.trans (congrArg some (by kernel_rfl)),func189.trans (congrArg some (by kernel_rfl)),func188.trans (congrArg some (by kernel_rfl)),func227.trans (congrArg some (by kernel_rfl)),func190.trans (congrArg some (by kernel_rfl)),func228.trans (congrArg some (by kernel_rfl)),underlying3,isAgg3,sizeOf3,zeroValue3,underlying4,isAgg4,sizeOf4,zeroValue4,underlying5,isAgg5,sizeOf5,zeroValue5,underlying9,isAgg9,sizeOf9,zeroValue9,underlying130,isAgg130,sizeOf130,zeroValue130,underlying164,isAgg164,sizeOf164,zeroValue164,underlying178,isAgg178,sizeOf178,zeroValue178,(by kernel_rfl)⟩
open Go.RowKit Go.Lib in
/-- strings.Contains: "Contains reports whether substr is within s.": AT A substr OF ONE BYTE c: IT RETURNS 'decide (0 ≤ Lib.indexByte s c)'; the world is as it was. (LAID: no walk: one application.) -/
theorem Tryz.strings_Contains_one (s:BA) (c:UInt8) (w:World):
    Calls prog 186 #[.string s,.string ⟨#[c]⟩] w fun e w'=>e=.returned (.bool (decide (0<=Lib.indexByte s.data.toList c)))/\w'=w:=Any.strings_Contains_one Tryz.lays144 s c w
def Tryz.lays138_ren:Go.Shelf.Ren:=⟨fun|138=>86|195=>122|218=>123|143=>124|219=>155|217=>187|225=>188|224=>189|267=>190|266=>227|314=>228|n=>n,fun|9=>9|3=>3|4=>4|5=>5|0=>0|46=>130|146=>178|51=>164|n=>n,fun|1=>0|n=>n⟩
theorem Tryz.lays138:Go.Proofs.Lays.n138 prog Tryz.lays138_ren:=⟨(by kernel_rfl),func86.trans (congrArg some (by kernel_rfl)),func124.trans (congrArg some (by kernel_rfl)),func122.trans (congrArg some (by kernel_rfl)),func187.trans (congrArg some (by kernel_rfl)),func123.trans (congrArg some (by kernel_rfl)),func155.trans (congrArg some (by kernel_rfl)),func189.trans (congrArg some (by kernel_rfl)),func188.trans (congrArg some (by kernel_rfl)),func227.trans (congrArg some (by kernel_rfl)),func190.trans (congrArg some (by kernel_rfl)),func228.trans (congrArg some (by kernel_rfl)),underlying0,isAgg0,sizeOf0,zeroValue0,underlying3,isAgg3,sizeOf3,zeroValue3,underlying4,isAgg4,sizeOf4,zeroValue4,underlying5,isAgg5,sizeOf5,zeroValue5,underlying9,isAgg9,sizeOf9,zeroValue9,underlying130,isAgg130,sizeOf130,zeroValue130,underlying164,isAgg164,sizeOf164,zeroValue164,underlying178,isAgg178,sizeOf178,zeroValue178,(by kernel_rfl)⟩
open Go.RowKit Go.Lib in
/-- strings.Count AT A substr OF ONE BYTE ('hp'): "Count counts the number of non-overlapping instances of substr in s.": IT RETURNS 'Lib.countByte s (that byte)'; the world is as it was. ✋ NO CONTRACT HERE YET at an empty substr (utf8.RuneCountInString) or at a longer one (a loop over strings.Index). (LAID: no walk: one application.) -/
theorem Tryz.strings_Count_one (s:BA) (c:UInt8) (w:World):
    Calls prog 86 #[.string s,.string ⟨#[c]⟩] w fun e w'=>e=.returned (.int .i64 (Lib.countByte s.data.toList c))/\w'=w:=Any.strings_Count_one Tryz.lays138 s c w
def Tryz.lays149_ren:Go.Shelf.Ren:=⟨fun|149=>87|222=>125|n=>n,fun|9=>9|5=>5|3=>3|4=>4|n=>n,fun|n=>n⟩
theorem Tryz.lays149:Go.Proofs.Lays.n149 prog Tryz.lays149_ren:=⟨(by kernel_rfl),func87.trans (congrArg some (by kernel_rfl)),func125.trans (congrArg some (by kernel_rfl)),underlying3,isAgg3,sizeOf3,zeroValue3,underlying4,isAgg4,sizeOf4,zeroValue4,underlying5,isAgg5,sizeOf5,zeroValue5,underlying9,isAgg9,sizeOf9,zeroValue9⟩
open Go.RowKit Go.Lib in
/-- strings.LastIndexByte: "LastIndexByte returns the index of the last instance of c in s, or -1 if c is not present in s." (LAID: no walk: one application.) -/
theorem Tryz.strings_LastIndexByte (s:BA) (c:Int) (hs:s.size < 4611686018427387904) (w:World):
    Calls prog 87 #[.string s,.int .u8 c] w fun e w'=>e=.returned (.int .i64 (Lib.lastIndexByte s c))/\w'=w:=Any.strings_LastIndexByte Tryz.lays149 s c hs w
def Tryz.lays99_ren:Go.Shelf.Ren:=⟨fun|99=>146|206=>184|n=>n,fun|9=>9|4=>4|3=>3|n=>n,fun|n=>n⟩
theorem Tryz.lays99:Go.Proofs.Lays.n99 prog Tryz.lays99_ren:=⟨(by kernel_rfl),func146.trans (congrArg some (by kernel_rfl)),func184.trans (congrArg some (by kernel_rfl)),underlying3,isAgg3,sizeOf3,zeroValue3,underlying4,isAgg4,sizeOf4,zeroValue4,underlying9,isAgg9,sizeOf9,zeroValue9⟩
open Go.RowKit Go.Lib in
/-- strings.HasPrefix: "HasPrefix reports whether the string s begins with prefix.": IT RETURNS 'Lib.hasPrefix s prefix'; the world is as it was. (LAID: no walk: one application.) -/
theorem Tryz.strings_HasPrefix (s p:BA) (w:World):
    Calls prog 146 #[.string s,.string p] w fun e w'=>e=.returned (.bool (Lib.hasPrefix s.data.toList p.data.toList))/\w'=w:=Any.strings_HasPrefix Tryz.lays99 s p w
def Tryz.lays146_ren:Go.Shelf.Ren:=⟨fun|146=>94|221=>129|268=>166|138=>86|143=>124|195=>122|197=>205|218=>123|219=>155|260=>233|217=>187|225=>188|224=>189|267=>190|266=>227|314=>228|n=>n,fun|9=>9|31=>37|3=>3|4=>4|0=>0|105=>167|21=>21|5=>5|46=>130|119=>184|139=>187|138=>186|146=>178|51=>164|n=>n,fun|1=>0|3=>4|4=>5|n=>n⟩
theorem Tryz.lays146:Go.Proofs.Lays.n146 prog Tryz.lays146_ren:=⟨(by kernel_rfl),func86.trans (congrArg some (by kernel_rfl)),func124.trans (congrArg some (by kernel_rfl)),func94.trans (congrArg some (by kernel_rfl)),func122.trans (congrArg some (by kernel_rfl)),func205.trans (congrArg some (by kernel_rfl)),func187.trans (congrArg some (by kernel_rfl)),func123.trans (congrArg some (by kernel_rfl)),func155.trans (congrArg some (by kernel_rfl)),func129.trans (congrArg some (by kernel_rfl)),func189.trans (congrArg some (by kernel_rfl)),func188.trans (congrArg some (by kernel_rfl)),func233.trans (congrArg some (by kernel_rfl)),func227.trans (congrArg some (by kernel_rfl)),func190.trans (congrArg some (by kernel_rfl)),func166.trans (congrArg some (by kernel_rfl)),func228.trans (congrArg some (by kernel_rfl)),underlying0,isAgg0,sizeOf0,zeroValue0,underlying3,isAgg3,sizeOf3,zeroValue3,underlying4,isAgg4,sizeOf4,zeroValue4,underlying5,isAgg5,sizeOf5,zeroValue5,underlying9,isAgg9,sizeOf9,zeroValue9,underlying21,isAgg21,sizeOf21,zeroValue21,underlying37,isAgg37,sizeOf37,zeroValue37,underlying130,isAgg130,sizeOf130,zeroValue130,underlying164,isAgg164,sizeOf164,zeroValue164,underlying167,isAgg167,sizeOf167,zeroValue167,underlying184,isAgg184,sizeOf184,underlying186,isAgg186,sizeOf186,zeroValue186,underlying187,isAgg187,sizeOf187,zeroValue187,underlying178,isAgg178,sizeOf178,zeroValue178,(by kernel_rfl),(by kernel_rfl),(by kernel_rfl)⟩
open Go.RowKit Go.Lib in
/-- strings.Split. (LAID: no walk: one application.) -/
theorem Tryz.strings_Split (s a:BA) (m:Int) (w:World) (hs:s.size < 4294967281) (hm:w.cell? ⟨0,0,none⟩=some (.int .i64 m)) (h1:1<=a.size):
    Calls prog 94 #[.string s,.string a] w fun e w'=>
      e=.returned (.slice (some ⟨w.heap.size,0,none⟩) (Lib.countB s a+1) (Lib.countB s a+1))/\w'=w.alloc (.cells ((Lib.splitB a 0 (Lib.countB s a) s).map Value.string).toArray 9):=Any.strings_Split Tryz.lays146 (by kernel_rfl) s a m w hs hm h1
def Tryz.lays107_ren:Go.Shelf.Ren:=⟨fun|107=>157|108=>193|n=>n,fun|28=>34|3=>3|4=>4|0=>0|n=>n,fun|n=>n⟩
theorem Tryz.lays107:Go.Proofs.Lays.n107 prog Tryz.lays107_ren:=⟨(by kernel_rfl),func157.trans (congrArg some (by kernel_rfl)),func193.trans (congrArg some (by kernel_rfl)),underlying0,isAgg0,sizeOf0,zeroValue0,underlying3,isAgg3,sizeOf3,zeroValue3,underlying4,isAgg4,sizeOf4,zeroValue4,underlying34,isAgg34,sizeOf34,zeroValue34⟩
open Go.Lib in
/-- slices.Contains at []int: "Contains reports whether v is present in s.": IT RETURNS 'elements.contains v'; the world is as it was. ITS CALLEE slices.Index IS MET BY ITS OWN CONTRACT OFF THE SHELF (lay that first): no loop is walked here. (LAID: no walk: one application.) -/
theorem Tryz.slices_Contains_int (b off n c:Nat) (d:LI) (x:Int) (w:World) (hz:n<=d.length) (a:n<=9223372036854775807) (hc:∀j,j < d.length->w.cell? ⟨b,off+j,none⟩=some (.int .i64 (d.getD j 0))):
    Calls prog 157 #[.slice (some ⟨b,off,none⟩) n c,.int .i64 x] w fun e w'=>e=.returned (.bool ((d.take n).contains x))/\w'=w:=Any.slices_Contains_int Tryz.lays107 b off n c d x w hz a hc
def Tryz.lays110_ren:Go.Shelf.Ren:=⟨fun|110=>22|109=>56|n=>n,fun|31=>37|9=>9|4=>4|3=>3|0=>0|n=>n,fun|n=>n⟩
theorem Tryz.lays110:Go.Proofs.Lays.n110 prog Tryz.lays110_ren:=⟨(by kernel_rfl),func56.trans (congrArg some (by kernel_rfl)),func22.trans (congrArg some (by kernel_rfl)),underlying0,isAgg0,sizeOf0,zeroValue0,underlying3,isAgg3,sizeOf3,zeroValue3,underlying4,isAgg4,sizeOf4,zeroValue4,underlying9,isAgg9,sizeOf9,zeroValue9,underlying37,isAgg37,sizeOf37,zeroValue37⟩
open Go.Lib in
/-- slices.Contains at []string: "Contains reports whether v is present in s.": IT RETURNS 'Lib.containsS (the elements) v', which is true just where v is among them ('Lib.containsS_iff'); the world is as it was. ITS CALLEE slices.Index IS MET BY ITS OWN CONTRACT OFF THE SHELF (lay that first): no loop is walked here. (LAID: no walk: one application.) -/
theorem Tryz.slices_Contains_string (b off n c:Nat) (d:List BA) (x:BA) (w:World) (hz:n<=d.length) (a:n<=9223372036854775807) (hc:∀j,j < d.length->w.cell? ⟨b,off+j,none⟩=some (.string (d.getD j ByteArray.empty))):
    Calls prog 22 #[.slice (some ⟨b,off,none⟩) n c,.string x] w fun e w'=>e=.returned (.bool (Lib.containsS (d.take n) x))/\w'=w:=Any.slices_Contains_string Tryz.lays110 b off n c d x w hz a hc
open Go.Lib in
/-- The same at a slice of length 0, a nil one too. (LAID: no walk: one application.) -/
theorem Tryz.slices_Contains_string_empty (a:OA) (c:Nat) (x:BA) (w:World):
    Calls prog 22 #[.slice a 0 c,.string x] w fun e w'=>e=.returned (.bool false)/\w'=w:=Any.slices_Contains_string_empty Tryz.lays110 a c x w
end Go.Proofs
namespace Go.Proofs.YtgbikafalcbibaaGreatDoor
open Go.RowKit
def inB (n a b:Int):Bool:=decide (a<=n/\n<=b)
theorem x4_ {n a b:Int} (h:a<=n) (h':n<=b):inB n a b=true:=decide_eq_true ⟨h,h'⟩
theorem Qce_ {n a b:Int} (h:¬a<=n):inB n a b=false:=decide_eq_false (fun g=>h g.1)
theorem vp_ {n a b:Int} (h:¬n<=b):inB n a b=false:=decide_eq_false (fun g=>h g.2)
theorem qy_ (a b c:Int) (w:World):Calls prog 50 #[.int .i64 a,.int .i64 b,.int .i64 c] w fun e w'=>e=.returned (.bool (inB a b c))/\w=w':=by
 by_cases h0:b<=a
 ·by_cases h1:a<=c
  ·rw[x4_ h0 h1];go_enter func50,ntmps50;go_wp2;go_ret;exact⟨rfl,rfl⟩
  ·rw[vp_ h1];go_enter func50,ntmps50;go_wp2;go_ret;exact⟨rfl,rfl⟩
 ·rw[Qce_ h0];go_enter func50,ntmps50;go_wp2;go_ret;exact⟨rfl,rfl⟩
theorem U6_ (a b c:Int) (w:World):Calls prog 140 #[.int .i64 a,.int .i64 b,.int .i64 c] w fun e w'=>e=.returned (.bool (inB a b c))/\w=w':=by
 by_cases h0:b<=a
 ·by_cases h1:a<=c
  ·rw[x4_ h0 h1];go_enter func140,ntmps140;go_wp2;go_ret;exact⟨rfl,rfl⟩
  ·rw[vp_ h1];go_enter func140,ntmps140;go_wp2;go_ret;exact⟨rfl,rfl⟩
 ·rw[Qce_ h0];go_enter func140,ntmps140;go_wp2;go_ret;exact⟨rfl,rfl⟩
def K7_ (acc:List UInt8):List UInt8->List BA
 |[]=>if acc.isEmpty then []else [⟨acc.toArray⟩]
 |c::l=>if c==10 then ⟨acc.toArray⟩::K7_ [] l else K7_ (acc++[c]) l
def KJ_ (t:BA):List BA:=K7_ [] t.data.toList
def ZT_ (t:BA) (a:List BA) (b k:Nat):Prop:=KJ_ t=a++K7_ ((t.data.toList.take k).drop b) (t.data.toList.drop k)
theorem xa_ (t:BA):ZT_ t [] 0 0:=by simp[ZT_,KJ_]
theorem kn_ {t:BA} {k:Nat} (h:k < t.size):t.data.toList.drop k=t[k]::t.data.toList.drop (k+1):=by
 rw[List.drop_eq_getElem_cons (by rw[Qz_];exact h)];rfl
theorem jj_ {t:BA} {a:List BA} {b k:Nat} (h:ZT_ t a b k) (hk:k < t.size) (hc:t[k]=10):ZT_ t (a++[t.extract b k]) (k+1) (k+1):=by
 unfold ZT_ at h |-
 rw[h,kn_ hk,K7_,hc,if_pos (by decide)];have e:(t.data.toList.take (k+1)).drop (k+1)=[]:=List.drop_eq_nil_of_le (by rw[List.length_take];omega);rw[e,List.append_assoc,List.singleton_append];congr 2;exact kd_ (by rw[Ju_])
theorem k9_ {t:BA} {a:List BA} {b k:Nat} (h:ZT_ t a b k) (hb:b<=k) (hk:k < t.size) (hc:t[k]≠10):ZT_ t a b (k+1):=by
 unfold ZT_ at h |-
 rw[h,kn_ hk,K7_,if_neg (by simpa using hc)];congr 2;rw[List.take_succ_eq_append_getElem (by rw[Qz_];exact hk),List.drop_append_of_le_length (by rw[List.length_take,Qz_];omega)]
 rfl
theorem k7_ {t:BA} {a:List BA} {b k:Nat} (h:ZT_ t a b k) (hk:k=t.size) (hb:b < t.size):KJ_ t=a++[t.extract b t.size]:=by
 unfold ZT_ at h;subst hk;have e2:(t.data.toList.take t.size).drop b=(t.extract b t.size).data.toList:=(Ju_ t b t.size).symm;rw[h,e2,List.drop_eq_nil_of_le (by rw[Qz_];omega),K7_,if_neg];rw[<-Qz_]at hb;rw[List.isEmpty_iff,Ju_];intro e;have h3:=congrArg List.length e;rw[List.length_drop,List.length_take,Qz_]at h3;simp at h3;rw[Qz_]at hb;omega
theorem k8_ {t:BA} {a:List BA} {b k:Nat} (h:ZT_ t a b k) (hk:k=t.size) (hb:t.size<=b):KJ_ t=a:=by
 unfold ZT_ at h;subst hk;have e1:(t.data.toList.take t.size).drop b=[]:=List.drop_eq_nil_of_le (by rw[List.length_take,Qz_];omega);rw[h,e1,List.drop_eq_nil_of_le (by rw[Qz_];omega),K7_];simp
theorem qw_ (c:UInt8) (l:List UInt8):Lib.indexByte l c= -1\/∃k:Nat,Lib.indexByte l c=k/\k < l.length:=by
 induction l with
 |nil=>exact .inl rfl
 |cons b l ih=>
  rw[Lib.indexByte];by_cases h:(b==c)=true
  ·rw[if_pos h];exact .inr ⟨0,rfl,by simp⟩
  ·rw[if_neg h];rcases ih with h1|⟨k,h1,h2⟩
   ·rw[h1];exact .inl rfl
   ·rw[h1,if_neg (by rw[beq_iff_eq];omega)];exact .inr ⟨k+1,oo,by simp;omega⟩
theorem jk_ (l:List UInt8):∀acc:List UInt8,
  (Lib.indexByte l 10= -1->K7_ acc l=if (acc++l).isEmpty then []else [⟨(acc++l).toArray⟩])/\
  (∀k:Nat,Lib.indexByte l 10=k->K7_ acc l=⟨(acc++l.take k).toArray⟩::K7_ [] (l.drop (k+1))):=by
 induction l with
 |nil=>
  intro acc;refine⟨fun _=>by simp[K7_],fun k h=>?_⟩;simp[Lib.indexByte]at h
 |cons b l ih=>
  intro acc;rw[Lib.indexByte,K7_];by_cases h:(b==10)=true
  ·rw[if_pos h,if_pos h];refine⟨fun e=>oo,fun k e=>?_⟩;obtain rfl:k=0:=oo;simp
  ·rw[if_neg h,if_neg h];obtain⟨h1,h2⟩:=ih (acc++[b]);rcases qw_ 10 l with a|⟨j,a,_⟩
   ·rw[a];refine⟨fun _=>?_,fun k e=>?_⟩
    ·rw[h1 a];simp
    ·simp at e
   ·rw[a,if_neg (by rw[beq_iff_eq];omega)];refine⟨fun e=>oo,fun k e=>?_⟩;obtain rfl:k=j+1:=oo;rw[h2 j a];simp
def V1_ (t:BA):BA:=if Lib.indexByte t.data.toList 10 < 0 then t else t.extract 0 (Lib.indexByte t.data.toList 10).toNat
def YB_ (t:BA):BA:=if Lib.indexByte t.data.toList 10 < 0 then ⟨#[]⟩else t.extract ((Lib.indexByte t.data.toList 10).toNat+1) t.size
theorem Qcr_ {t:BA} (h:0 < t.size):KJ_ t=V1_ t::KJ_ (YB_ t):=by
 unfold KJ_ V1_ YB_;obtain⟨h1,h2⟩:=jk_ t.data.toList [];rcases qw_ 10 t.data.toList with e|⟨k,e,hk⟩
 ·rw[h1 e,e,if_neg,if_pos oo,if_pos oo]
  ·simp[K7_]
  ·rw[List.nil_append,List.isEmpty_iff];intro e2;have h3:=Qz_ t;rw[e2]at h3;simp at h3;omega
 ·rw[h2 k e,e,if_neg oo,if_neg oo];rw[Qz_]at hk;congr 1
  ·exact kd_ (by rw[Ju_];simp)
  ·congr 1;rw[Ju_,Int.toNat_natCast,List.take_of_length_le (by rw[Qz_];exact Nat.le_refl _)]
theorem QcQ_ {t:BA} (h:0 < t.size):(YB_ t).size < t.size:=by
 unfold YB_;split
 ·exact h
 ·rw[ByteArray.size_extract];omega
theorem xb_ (l:List UInt8):∀acc:List UInt8,((K7_ acc l).map (fun s:BA=>s.size+1)).sum<=acc.length+l.length+1:=by
 induction l with
 |nil=>
  intro acc;rw[K7_];split
  ·simp
  ·simp[Qc4_]
 |cons c l ih=>
  intro acc;rw[K7_];split
  ·have:=ih [];simp only[List.map_cons,List.sum_cons,Qc4_,List.length_cons,List.length_nil]at this |-
   omega
  ·have:=ih (acc++[c]);simp only[lA,List.length_cons,List.length_nil]at this |-
   omega
def G0_ (s:BA):Nat:=s.size+1
theorem zA_ (t:BA):((KJ_ t).map G0_).sum<=t.size+1:=by
 have h:=xb_ t.data.toList [];rw[Qz_]at h;have e:G0_=fun s:BA=>s.size+1:=rfl
 rw[e];simpa[KJ_]using h
theorem Qgp_ (ls:List BA):ls.length<=(ls.map G0_).sum:=by
 induction ls with
 |nil=>simp
 |cons a l ih=>simp only[List.map_cons,List.sum_cons,List.length_cons,G0_]at ih |-; omega
theorem Wd_ (t:BA):(KJ_ t).length<=t.size+1:=Nat.le_trans (Qgp_ _) (zA_ t)
theorem V6_:(prog.info? 9).map (fun i=>(i.zero,i.size,i.bytes))=some (some (.string ⟨#[]⟩),1,16):=by kernel_rfl
theorem Ka_ (w:World) (u:Value) (t:TypeId):∀j v,[u][j]? =some v->(w.alloc (.cells #[u] t)).cell? ((⟨w.heap.size,0,none⟩:Addr).add j)=some v:=by
 intro j v a
 match j,a with
 |0,a=>
  obtain rfl:=Option.some.inj a;exact(Blk.new w t #[u]).cell 0
 |j+1,a=>simp at a
def QgE_ (w:World) (ss:List BA) (e:Ending) (w':World):Prop:=
 ∃v:Value,e=.returned v/\w'.ownsRow w.heap.size 9 1 v ss.length (Qm_ ss)/\Below w.heap.size w w'
theorem JX_ {w:World} {B:Nat} {e:TypeId} {s:Nat} {v:Value} {n n':Nat} {xs a:List Value} (h:w.ownsRow B e s v n xs) (h1:n=n') (h2:xs=a):w.ownsRow B e s v n' a:=by subst h1;subst h2;exact h
theorem XU_ {w:World} {B:Nat} {e:TypeId} {s:Nat} {v:Value} {n:Nat} {xs:List Value} (h:w.ownsRow B e s v n xs) {g:Nat} (hg:v.ownBlock=some g):B<=g:=by
 rcases h.2 with⟨rfl,_⟩|⟨g',cap,a,rfl,b,_⟩
 ·simp[Value.ownBlock]at hg
 ·simp[Value.ownBlock]at hg;omega
def QdD_ (w:World) (ss:List BA) (e:Ending) (w':World):Prop:=
 ∃(A:OA) (c:Nat),e=.returned (.slice A ss.length c)/\Mine w' w.heap.size 9 1 A ss.length c (Qm_ ss)/\Below w.heap.size w w'
theorem QeO_ {w:World} {ss:List BA} {e:Ending} {w':World} (h:QgE_ w ss e w'):QdD_ w ss e w':=by
 obtain⟨v,rfl,ho,hb⟩:=h;obtain⟨A,c,rfl,hm⟩:=Mine.of ho;exact⟨A,c,rfl,hm,hb⟩
theorem Qfh_ {c:UInt8} {n:Nat} (hn:n < 256) (h:c=UInt8.ofNat n):((c.toNat:Int)==(n:Int))=true:=by
 rw[h,beq_iff_eq];simp;omega
theorem QdR_ {c:UInt8} {n:Nat} (hn:n < 256) (h:c≠UInt8.ofNat n):((c.toNat:Int)==(n:Int))=false:=by
 rw[beq_eq_false_iff_ne];intro e;refine h (UInt8.toNat_inj.1 ?_);simp;omega
theorem WO_ (t:BA) (w:World) (ht:t.size<=4194304):Calls prog 65 #[.string t] w (QgE_ w (KJ_ t)):=by
 obtain⟨i0,hi,v,y,z⟩:=info_parts V6_;have h:=hid (And.intro hi (And.intro v (And.intro y z)));clear hi v y z;go_enter func65,ntmps65;go_wp2;go_loopw [3,4,5] (fun o bb i wr=>∃(d:List BA) (b k:Nat),k<=t.size/\b<=k/\d.length<=b/\Hid (ZT_ t d b k)/\bb=.int .i64 b/\i=.int .i64 k/\Hid (wr.ownsRow w.heap.size 9 1 o d.length (Qm_ d))/\Below w.heap.size w wr) (fun _ _ i _=>t.size - (intOf i).toNat)
 case atStart=>exact⟨[],0,0,Nat.zero_le _,Nat.le_refl _,Nat.le_refl _,xa_ t,rfl,rfl,QI_ w _ 1,grow_⟩
 case round=>
  obtain⟨d,b,k,hk,A,D,f,rfl,rfl,HO,j⟩:=hrel;by_cases r:k < t.size
  ·by_cases q:t[k]=10
   ·have c:=hid (jj_ f.o r q);have d1:=Qfh_ (n:=10) oo q;clear q;go_wp2_with (at_builtin;(refine wpList_append_own _ rfl (.tmp 17) (.tmp 22) _ rfl w.heap.size 9 i0 (.string ⟨#[]⟩) 1 16 underlying37 h.o.1 h.o.2.1 h.o.2.2.1 h.o.2.2.2 rfl (by decide) _ _ _ rfl (HO.o.alloc _) ⟨wr.heap.size,0,none⟩ 1 1 [.string (t.extract b k)] rfl rfl (Ka_ _ _ _) (fun x s=>by simp at s;subst s;rfl) (by unfold maxLen;omega) oo (by have:=j.size;simp;omega) ?_);intro v' w3 a m p)
    have e:=j.alloc j.size (.cells #[.string (t.extract b k)] 9);have l:Below w.heap.size w w3:=e.grown m e.size (fun g C=>XU_ HO.o C);go_wp2;go_roundw
    case rel=>exact⟨d++[t.extract b k],k+1,k+1,oo,oo,by simp;omega,c.o,by go_num,by go_num,JX_ a (by simp) (by simp[Qm_]),l⟩
    case measure=>simp[intOf];omega
   ·have c:=hid (k9_ f.o A r q);have d1:=QdR_ (n:=10) oo q;clear q;go_wp2;go_roundw
    case rel=>exact⟨d,b,k+1,oo,oo,D,c.o,rfl,by go_num,HO.o,j⟩
    case measure=>simp[intOf];omega
  ·obtain rfl:k=t.size:=oo;by_cases B:b < t.size
   ·have c:=hid (k7_ f.o rfl B);go_wp2_with (at_builtin;(refine wpList_append_own _ rfl (.tmp 30) (.tmp 34) _ rfl w.heap.size 9 i0 (.string ⟨#[]⟩) 1 16 underlying37 h.o.1 h.o.2.1 h.o.2.2.1 h.o.2.2.2 rfl (by decide) _ _ _ rfl (HO.o.alloc _) ⟨wr.heap.size,0,none⟩ 1 1 [.string (t.extract b t.size)] rfl rfl (Ka_ _ _ _) (fun x s=>by simp at s;subst s;rfl) (by unfold maxLen;omega) oo (by have:=j.size;simp;omega) ?_);intro v' w3 a m p)
    have e:=j.alloc j.size (.cells #[.string (t.extract b t.size)] 9);have l:Below w.heap.size w w3:=e.grown m e.size (fun g C=>XU_ HO.o C);go_wp2;go_ret;exact⟨_,rfl,by rw[c.o];exact JX_ a (by simp) (by simp[Qm_]),l⟩
   ·have c:=hid (k8_ f.o rfl oo);go_wp2;go_ret;exact⟨_,rfl,by rw[c.o];exact HO.o,j⟩
end Go.Proofs.YtgbikafalcbibaaGreatDoor

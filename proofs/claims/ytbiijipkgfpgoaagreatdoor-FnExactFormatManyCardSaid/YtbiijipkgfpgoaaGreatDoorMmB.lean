/-
  Put together by program.
-/
import Derived.Lib.SmallJoins
import Derived.Lib.Hide
import Derived.WalkSmall
import Derived.Handy
import Derived.StillTailTactics
import Derived.BigQuiet
import Derived.Test.YtbiijipkgfpgoaaGreatDoorRows
import Derived.Lay
import Derived.HandedShaped
import Derived.LaidMore
import Derived.Stop.LaidErr
import Derived.DataShut
import Derived.Shelf.Strings.Builder2
import Derived.Shelf.Strings.Trim
import Derived.Shelf.Small.Utf8
import Derived.Shelf.Small.Wraps
import Derived.Shelf.Strings.BuilderK
import Derived.Shelf.Strings.Shaped
import Derived.Shelf.Unicode.Decode
import Derived.Shelf.Strings.Runes
import Derived.Shelf.Strings.AsciiSet
import Derived.Shelf.Bits.Mul64
import Derived.Shelf.Unicode.DecodeSlow
import Derived.Shelf.Slices.Turned
import Derived.Shelf.Slices.Clone
import Derived.Shelf.Slices.SearchI
import Derived.Deep.AppendLies
import Derived.Deep.DeepCutAuto
import Derived.Lib.OwnKind
set_option maxRecDepth 100000
set_option linter.all false
set_option maxHeartbeats 25600000
open Go.Lib (hid)
open Go.Proofs.Tryz
namespace Go.RowKit
theorem Hid.o {p:Prop} (h:Hid p):p:=h
end Go.RowKit
namespace Go
theorem Aside.o {p:Prop} (h:Aside p):p:=h
end Go
theorem oo {p:Prop} (h:p:=by omega):p:=h
theorem br {n:Nat} {w:Go.World}:Go.RowKit.Below n w w:=Go.RowKit.Below.refl n w
theorem bra {w:Go.World} {o:Go.Obj}:Go.RowKit.Below w.heap.size w (w.alloc o):=(Go.RowKit.Below.refl _ _).alloc (Nat.le_refl _) _
theorem ex_ {α:Sort _} (a:α):∃x,a=x:=⟨a,rfl⟩
abbrev BA:=ByteArray
abbrev OA:=Option Go.Addr
abbrev ON:=Option Nat
abbrev LI:=List Int

namespace Go.Proofs.YtbiijipkgfpgoaaGreatDoor
theorem dc_ {p:Prop} (h:p:=by decide):p:=h
theorem ev_ {p:Prop} (h:p:=by first|(simp[Go.Act.eval];done)|(simp[Go.Act.eval,Go.Act.put];done)|rfl):p:=h
theorem er_ {p:Prop} (h:p:=by first|rfl|(simp[Go.Act.eval];done)):p:=h
theorem sm_ {p:Prop} (h:p:=by simp):p:=h
theorem mx_ {p:Prop} (h:p:=by unfold Go.maxLen;omega):p:=h
theorem nr_ {p:Prop} (h:p:=by kernel_rfl):p:=h
theorem so_ {p:Prop} (h:p:=by simp;omega):p:=h
theorem lm_ {α:Type _} {l:List α} {i:Nat} {a:α} (e:l[i]? =some a):a∈l:=List.mem_of_getElem? e
theorem lr_ (n:Nat):n≤n:=Nat.le_refl n
theorem lz_ (n:Nat):0≤n:=Nat.zero_le n
theorem df_ {p:Prop} [i:Decidable p] (h:¬p):decide p=false:=decide_eq_false h
theorem dt_ {p:Prop} [i:Decidable p] (h:p):decide p=true:=decide_eq_true h
theorem bn_ {α:Type _} [BEq α] [LawfulBEq α] {a b:α}:(a==b)=false↔a≠b:=beq_eq_false_iff_ne
theorem eo_ {a:Int} (h:0≤a):∃n:Nat,a=n:=Int.eq_ofNat_of_zero_le h
theorem gs_ {α:Type _} {l:List α} {i:Nat} {a:α}:l[i]? =some a↔∃h:i < l.length,l[i]=a:=List.getElem?_eq_some_iff
theorem oi_ {α:Type _} {a b:α} (h:some a=some b):a=b:=Option.some.inj h
theorem in_ {c:Prop} {h:Decidable c} (hnc:¬c) {α:Sort _} {t e:α}:(ite c t e)=e:=if_neg hnc
theorem ip_ {c:Prop} {h:Decidable c} (hc:c) {α:Sort _} {t e:α}:(ite c t e)=t:=if_pos hc
theorem ln_ {α:Type _} {l:List α} (h:l.length=0):l=[]:=List.eq_nil_of_length_eq_zero h
theorem it_ (n:Nat):((n:Int)).toNat=n:=Int.toNat_natCast n
theorem ll_ {n m k:Nat} (h:n < m) (h2:m≤k):n < k:=Nat.lt_of_lt_of_le h h2
theorem lt_ {n m k:Nat} (h:n≤m) (h2:m≤k):n≤k:=Nat.le_trans h h2
theorem ai_ {a b:Prop} (h:a) (k:b):a∧b:=⟨h,k⟩
theorem ms1_ {α:Type _} {a b:α}:a∈[b]↔a=b:=List.mem_singleton
theorem od_ {p:Prop} [i:Decidable p] (h:decide p=true):p:=of_decide_eq_true h
theorem bs_ {a b:ByteArray}:(a++b).size=a.size+b.size:=ByteArray.size_append
theorem ws_ (w:Go.World) (o:Go.Obj):(w.alloc o).heap.size=w.heap.size+1:=Go.World.size_alloc w o
abbrev RB_ (v:Go.Value) (w:Go.World) (e:Go.Ending) (w':Go.World):Prop:=e=.returned v∧Go.RowKit.Below w.heap.size w w'
abbrev RS_ (v:Go.Value) (w:Go.World) (e:Go.Ending) (w':Go.World):Prop:=e=.returned v∧w=w'
theorem ms_ {p:Prop} (h:p:=by simp[Go.RowKit.intOf];omega):p:=h
theorem h_ {p:Prop} (h:p):Go.RowKit.Hid p:=Go.Lib.hid h
open Go.RowKit Go.WideShapes Go.ChangeShapes
section
variable {H:Type} {enc:TypeId × Value->H} {P:Program}
theorem post_of_below {f:Func} {s:ChangeSpec} {c fresh e n:Bool} {W W':World} {d:Array Value} {v:Value} {ds o:List (DataW H)} {a y z:List MemPlace}
  (A:DataW.Whole enc P f.params.toList s.vars c W d.toList ds o a)
  (m:∀(b:Nat) (sp:Nat->Bool) (hd:Bool),DataW.TrodAll enc P W' b sp hd f.resultTypes.toList (v.resultList f.resultTypes.size) (s.fn H (ds++o)).results [])
  (g:∀sp:Nat->Bool,(∀p∈a,sp p.block=true)->DataW.TrodAll enc P W' 0 sp true f.params.toList d.toList (s.fn H (ds++o)).args y)
  (i:∀sp:Nat->Bool,(∀p∈a,sp p.block=true)->DataW.TrodVars enc P W' sp s.vars (s.fn H (ds++o)).vars z)
  (k:a=y++z) (hb:Below W.heap.size W W')
  (B:∀(j:Nat) (t:TypeId) (r:Value),f.resultTypes[j]? =some t->(v.resultList f.resultTypes.size)[j]? =some r->Value.okWide P W' .any 0 t r):
  s.post enc P f c fresh e n W d v W':=by
 have x:∀p∈a,p.block < W.heap.size:=fun p h=>A.lt p h
 have l:∀p∈a,(fun b=>decide (b < W.heap.size)) p.block=true:=fun p h=>by simpa using x p h
 refine⟨ds,o,a,[],y,z,A,m _ _ _,g _ l,i _ l,World.keptBut_mono (fun p h=>⟨h,?_⟩) (hb.frame (·∈a)),fun _=>?_⟩
 ·rw[k,List.mem_append]at h;exact Or.inr h
 ·obtain⟨_,_,_,_,_,hz,hn⟩:=A;refine⟨B,_,_,([]++y)++z,⟨[]++y,z,trodAll_append (g _ (fun _ _=>rfl)) (m _ _ _),i _ (fun _ _=>rfl),rfl,?_,?_⟩,?_⟩
  ·intro b off h;have q:MemPlace.cell b off∈a:=(by rw[k];simpa using h);rw[hb.frozen (x _ q)];exact hz b off q
  ·intro ha;have:=hn ha;rw[k]at this;simpa using this
  ·intro p h _;rw[k];simpa using h
end
theorem QW_ {W w1:World} (hb:Below W.heap.size W w1):(∀b o,b < W.heap.size->w1.cell? ⟨b,o,none⟩=W.cell? ⟨b,o,none⟩)/\(∀b o,b < W.heap.size->w1.frozen? ⟨b,o,none⟩=W.frozen? ⟨b,o,none⟩):=
 ⟨fun b o h=>hb.cell (p:=⟨b,o,none⟩) h,fun b o h=>hb.frozen (p:=⟨b,o,none⟩) h⟩
theorem Ql_ {w w1:World} {o:Obj} (hb:Below (w.alloc o).heap.size (w.alloc o) w1):Below w.heap.size w w1:=
 (br.alloc (Nat.le_refl _) o).trans (hb.mono (by simp))
theorem Gi_ {w w1:World} {o o':Obj} (hb:Below ((w.alloc o).alloc o').heap.size ((w.alloc o).alloc o') w1):Below w.heap.size w w1:=
 Ql_ (Ql_ hb)
theorem Qb_ {W w1 w2:World} (h1:Below W.heap.size W w1) (h2:Below w1.heap.size w1 w2):Below W.heap.size W w2:=h1.trans (h2.mono h1.size)
theorem Qg_ {a b:Bool} (h:a=b):Ending.returned (.bool a)=.returned (.bool b):=by rw[h]
theorem Kx_ {k:IntKind} {a b:Int} (h:a=b):Ending.returned (.int k a)=.returned (.int k b):=by rw[h]
theorem Xn_ {a b:BA} (h:a=b):Ending.returned (.string a)=.returned (.string b):=by rw[h]
def Blk (w:World) (g:Nat) (t:TypeId) (cs:Array Value):Prop:=w.heap[g]? =some (.cells cs t (0,0))
section
variable {w w':World} {g:Nat} {t:TypeId} {cs:Array Value}
theorem Blk.lt (h:Blk w g t cs):g < w.heap.size:=by
 rcases Nat.lt_or_ge g w.heap.size with b|a
 ·exact b
 ·unfold Blk at h;rw[Array.getElem?_eq_none a]at h;cases h
theorem Blk.cell (h:Blk w g t cs) (i:Nat):w.cell? ⟨g,i,none⟩=cs[i]? :=cell_of_row w g i cs t (0,0) h
theorem Blk.frozen (h:Blk w g t cs) (i:Nat):w.frozen? ⟨g,i,none⟩=false:=by
 unfold Blk at h;simp[World.frozen?,h]
theorem Blk.new (w:World) (t:TypeId) (cs:Array Value):Blk (w.alloc (.cells cs t)) w.heap.size t cs:=heap_alloc_new w _
theorem Blk.drew (h:Blk w g t cs):Blk w.drew g t cs:=h
theorem Blk.drewN (h:Blk w g t cs) (n:Nat):Blk (w.drewN n) g t cs:=h
theorem Blk.alloc (h:Blk w g t cs) (o:Obj):Blk (w.alloc o) g t cs:=(Below.heap_alloc w o g h.lt).trans h
theorem Blk.set_ (h:Blk w g t cs) (i:Nat) (u:Value):Blk (w.setCell ⟨g,i,none⟩ u) g t (cs.setIfInBounds i u):=by
 unfold Blk at h |-
 simp[World.setCell,Array.getElem?_modify,h]
theorem Blk.far (h:Blk w g t cs) {p:Addr} (hp:g≠p.block) (u:Value):Blk (w.setCell p u) g t cs:=(Below.heap_setCell w p u g hp).trans h
theorem Blk.below {B:Nat} (h:Blk w g t cs) (hb:Below B w w') (hg:g < B):Blk w' g t cs:=(hb.block g hg).trans h
theorem Blk.grown {row:ON} (h:Blk w g t cs) (hb:w.grownBy w' row) (hg:some g≠row):Blk w' g t cs:=(hb.block g h.lt hg).trans h
variable {w2:World} {o o':Obj}
theorem Blk.fresh (h:Below (w.alloc (.cells cs t)).heap.size (w.alloc (.cells cs t)) w2):Blk w2 w.heap.size t cs:=(Blk.new w t cs).below h (Blk.new w t cs).lt
theorem Blk.fresh2 (h:Below ((w.alloc (.cells cs t)).alloc o).heap.size ((w.alloc (.cells cs t)).alloc o) w2):Blk w2 w.heap.size t cs:=((Blk.new w t cs).alloc o).below h ((Blk.new w t cs).alloc o).lt
theorem Blk.next (k:Blk w g t cs) (h:Below w.heap.size w w2):Blk w2 g t cs:=k.below h k.lt
theorem Blk.next1 (k:Blk w g t cs) (h:Below (w.alloc o).heap.size (w.alloc o) w2):Blk w2 g t cs:=(k.alloc o).next h
theorem Q7_ {W:World} (h1:Below W.heap.size W w) (h2:Below (w.alloc o).heap.size (w.alloc o) w2):Below W.heap.size W w2:=Qb_ (h1.alloc h1.size o) h2
theorem Jf_ {W:World} (h1:Below W.heap.size W w) (h2:Below ((w.alloc o).alloc o').heap.size ((w.alloc o).alloc o') w2):Below W.heap.size W w2:=Q7_ (h1.alloc h1.size o) h2
end
theorem bft (b:Bool):b=true\/b=false:=Bool.eq_false_or_eq_true b
theorem gE {α:Type _} {l:List α} {i:Nat} (h:i < l.length):l[i]? =some l[i]:=List.getElem?_eq_getElem h
theorem lA {α:Type _} {a b:List α}:(a++b).length=a.length+b.length:=List.length_append
theorem Blk.q0 {w:World} {g:Nat} {t:TypeId} {a:Value} {cs:List Value} (h:Blk w g t (a::cs).toArray):w.cell? ⟨g,0,none⟩=some a:=h.cell 0
theorem Blk.q1 {w:World} {g:Nat} {t:TypeId} {x0 a:Value} {cs:List Value} (h:Blk w g t (x0::a::cs).toArray):w.cell? ⟨g,1,none⟩=some a:=h.cell 1
theorem Blk.q2 {w:World} {g:Nat} {t:TypeId} {x0 x1 a:Value} {cs:List Value} (h:Blk w g t (x0::x1::a::cs).toArray):w.cell? ⟨g,2,none⟩=some a:=h.cell 2
theorem Blk.q3 {w:World} {g:Nat} {t:TypeId} {x0 x1 x2 a:Value} {cs:List Value} (h:Blk w g t (x0::x1::x2::a::cs).toArray):w.cell? ⟨g,3,none⟩=some a:=h.cell 3
theorem Blk.q4 {w:World} {g:Nat} {t:TypeId} {x0 x1 x2 x3 a:Value} {cs:List Value} (h:Blk w g t (x0::x1::x2::x3::a::cs).toArray):w.cell? ⟨g,4,none⟩=some a:=h.cell 4
theorem Blk.q5 {w:World} {g:Nat} {t:TypeId} {x0 x1 x2 x3 x4 a:Value} {cs:List Value} (h:Blk w g t (x0::x1::x2::x3::x4::a::cs).toArray):w.cell? ⟨g,5,none⟩=some a:=h.cell 5
theorem Blk.q6 {w:World} {g:Nat} {t:TypeId} {x0 x1 x2 x3 x4 x5 a:Value} {cs:List Value} (h:Blk w g t (x0::x1::x2::x3::x4::x5::a::cs).toArray):w.cell? ⟨g,6,none⟩=some a:=h.cell 6
theorem Blk.q7 {w:World} {g:Nat} {t:TypeId} {x0 x1 x2 x3 x4 x5 x6 a:Value} {cs:List Value} (h:Blk w g t (x0::x1::x2::x3::x4::x5::x6::a::cs).toArray):w.cell? ⟨g,7,none⟩=some a:=h.cell 7
theorem grow_ {B:Nat} {w w':World} (h:Below B w w':=by repeat' (first|(with_reducible exact br)|(with_reducible assumption)|(with_reducible refine below_drewN ?_ _)|(with_reducible refine Below.drew ?_)|(with_reducible refine Below.alloc ?_ ?_ _)|(with_reducible refine Below.setCell ?_ ?_ _)|go_size)):Below B w w':=h
abbrev Λ (w w':Go.World):Prop:=Go.RowKit.Below w.heap.size w w'
theorem mb_ {P:Go.Program} {f:Go.FuncId} {x:Array Go.Value} {w:Go.World} {v:Go.Value} {R:Go.World->Prop} {Q:Go.Ending->Go.World->Prop} (h:Go.Calls P f x w fun e w'=>e=.returned v/\R w') (k:∀w',R w'->Q (.returned v) w'):Go.Calls P f x w Q:=h.mono (by rintro e w' ⟨rfl,h⟩;exact k w' h)
theorem iq_ {P:Go.Program} {e:Go.TypeId} {z:Go.Value} {s b:Nat} (h:(P.info? e).map (fun i=>(i.zero,i.size,i.bytes))=some (some z,s,b)):∃i,Go.RowKit.Hid (P.info? e=some i/\i.zero=some z/\i.size=s/\i.bytes=b):=let⟨i,h⟩:=info_parts h;⟨i,Go.Lib.hid h⟩
theorem rs_ {p:Prop} (h:p:=by simp[results,Tryz.results101,Tryz.results117,Tryz.results35,Tryz.results50,Tryz.results58,Tryz.results68,Tryz.results90,go_sem];try rfl):p:=h
theorem Γ {p:Prop} (h:p:=by go_wp2;go_ret;exact⟨rfl,grow_⟩):p:=h
theorem Θ {p:Prop} (h:p:=by go_wp2;go_ret;exact⟨rfl,rfl⟩):p:=h
theorem Ξ {p:Prop} (h:p:=by go_ret;exact⟨rfl,grow_⟩):p:=h
theorem Φ {p:Prop} (h:p:=by go_ret;exact⟨rfl,rfl⟩):p:=h
def Rd (w:World) (size:Nat) (A:OA) (n:Nat) (xs:List Value):Prop:=
 xs.length=n * size/\(0 < n->∃b off,A=some ⟨b,off,none⟩/\b < w.heap.size/\∀j u,xs[j]? =some u->w.cell? ⟨b,off+j,none⟩=some u)
section
variable {w w':World} {size n:Nat} {A:OA} {xs:List Value}
theorem Rd.none_ (w:World) (size:Nat) (A:OA):Rd w size A 0 []:=⟨by simp,fun h=>absurd h oo⟩
theorem Rd.keep (h:Rd w size A n xs) (hz:w.heap.size<=w'.heap.size) (hk:∀b o,b < w.heap.size->w'.cell? ⟨b,o,none⟩=w.cell? ⟨b,o,none⟩):Rd w' size A n xs:=
 ⟨h.1,fun a=>by
  obtain⟨b,off,e,hb,hc⟩:=h.2 a;exact⟨b,off,e,oo,fun j u hj=>(hk b _ hb).trans (hc j u hj)⟩⟩
theorem Rd.below (h:Rd w size A n xs) (hb:Below w.heap.size w w'):Rd w' size A n xs:=h.keep hb.size (QW_ hb).1
theorem Rd.next (h:Rd w size A n xs) (hb:Below w.heap.size w w'):Rd w' size A n xs:=h.below hb
theorem Rd.alloc (h:Rd w size A n xs) (o:Obj):Rd (w.alloc o) size A n xs:=h.below (br.alloc (Nat.le_refl _) o)
theorem Rd.next1 {o:Obj} (h:Rd w size A n xs) (hb:Below (w.alloc o).heap.size (w.alloc o) w'):Rd w' size A n xs:=(h.alloc o).next hb
theorem Rd.drewN (h:Rd w size A n xs) (k:Nat):Rd (w.drewN k) size A n xs:=h
theorem Rd.drew (h:Rd w size A n xs):Rd w.drew size A n xs:=h
theorem Rd.at_ (h:Rd w size A n xs) (hk:0 < n):∃b off,A=some ⟨b,off,none⟩/\b < w.heap.size/\∀j u,xs[j]? =some u->w.cell? ⟨b,off+j,none⟩=some u:=h.2 hk
end
def sumK {α:Type} (f:α->Nat) (l:List α) (k:Nat):Nat:=((l.take k).map f).sum
theorem QiI_ {α:Type} (f:α->Nat) (l:List α):sumK f l 0=0:=by simp[sumK]
theorem QiH_ {α:Type} (f:α->Nat) (l:List α) (k:Nat) (d:α) (h:l[k]? =some d):sumK f l (k+1)=sumK f l k+f d:=by
 unfold sumK;rw[List.take_add_one,h];simp
theorem QiY_ {α:Type} (f:α->Nat) (l:List α) (k:Nat):sumK f l k<=(l.map f).sum:=by
 have h:(l.map f).sum=((l.take k).map f).sum+((l.drop k).map f).sum:=by
  rw[<-List.sum_append,<-List.map_append,List.take_append_drop]
 unfold sumK;omega
theorem QiN_ {α:Type} (f:α->Nat) (l:List α) (k:Nat) (h:l.length<=k):sumK f l k=(l.map f).sum:=by
 unfold sumK;rw[List.take_of_length_le h]
theorem Qbx_ {α:Type} (f:α->Nat) {l:List α} {d:α} (h:d∈l):f d<=(l.map f).sum:=by
 induction l with
 |nil=>cases h
 |cons x l ih=>
  simp only[List.map_cons,List.sum_cons];rcases List.mem_cons.1 h with rfl|h
  ·omega
  ·have:=ih h;omega
theorem Xs_ {α:Type} (f:α->List Value) {size:Nat} (hf:∀d,(f d).length=size) (l:List α):(l.flatMap f).length=l.length * size:=by
 induction l with
 |nil=>simp
 |cons d l ih=>simp only[List.flatMap_cons,lA,List.length_cons,ih,hf,Nat.add_mul];omega
theorem Kw_ {α:Type} (f:α->List Value) {size:Nat} (hf:∀d,(f d).length=size):∀{l:List α} {i:Nat} {d:α},l[i]? =some d->∀{j:Nat} {v:Value},(f d)[j]? =some v->(l.flatMap f)[i * size+j]? =some v:=by
 intro l
 induction l with
 |nil=>intro i d h;simp at h
 |cons x l ih=>
  intro i d h j v a
  cases i with
  |zero=>
   simp at h;subst h;have b:j < (f x).length:=(List.getElem?_eq_some_iff.1 a).1;simp only[List.flatMap_cons,Nat.zero_mul,Nat.zero_add];rw[List.getElem?_append_left b];exact a
  |succ i=>
   simp at h;simp only[List.flatMap_cons];rw[List.getElem?_append_right (by rw[hf,Nat.add_mul];omega)];rw[hf,show(i+1) * size+j - size=i * size+j from by rw[Nat.add_mul];omega];exact ih h a
theorem Qfl_ {α:Type} (f:α->List Value) {size:Nat} (b:∀d,(f d).length=size) (hs:0 < size):∀(l:List α) (x:Nat),(l.flatMap f)[x]? =l[x / size]?.bind (fun d=>(f d)[x % size]?):=by
 intro l
 induction l with
 |nil=>intro x;simp
 |cons d l ih=>
  intro x;simp only[List.flatMap_cons];by_cases h:x < size
  ·rw[List.getElem?_append_left (by rw[b];exact h),Nat.div_eq_of_lt h,Nat.mod_eq_of_lt h];simp
  ·rw[List.getElem?_append_right (by rw[b];omega),b,ih];have e1:x / size=(x - size) / size+1:=by
    have a:x=(x - size)+size:=oo
    conv=>lhs;rw[a]
    exact Nat.add_div_right _ hs
   have e2:x % size=(x - size) % size:=by
    have a:x=(x - size)+size:=oo
    conv=>lhs;rw[a]
    exact Nat.add_mod_right _ _
   rw[e1,e2,List.getElem?_cons_succ]
theorem qc_ {w:World} {b o:Nat} {v:Value} (h:w.cell? ⟨b,o,none⟩=some v):b < w.heap.size:=by
 rcases Nat.lt_or_ge b w.heap.size with hl|hl
 ·exact hl
 ·exfalso;have h2:w.heap[b]? =none:=Array.getElem?_eq_none hl;simp[World.cell?,h2]at h
theorem QhG_ {α:Type} {W:World} {a:Addr} {n size:Nat} (cells:α->List Value) (Pr:α->Prop) (e:∀d,(cells d).length=size) (m:0 < size)
  (h:∀i,i < n->∃d:α,Pr d/\∀j v,(cells d)[j]? =some v->W.cell? (a.add (i * size+j))=some v):
  ∃l:List α,l.length=n/\Rd W size (some a) n (l.flatMap cells)/\∀d∈l,Pr d:=by
 refine⟨List.ofFn (fun i:Fin n=>Classical.choose (h i.1 i.2)),by simp,⟨by rw[Xs_ cells e];simp,fun hn=>?_⟩,?_⟩
 ·have f:∀j u,((List.ofFn (fun i:Fin n=>Classical.choose (h i.1 i.2))).flatMap cells)[j]? =some u->W.cell? (a.add j)=some u:=by
   intro j u p;rw[Qfl_ cells e m]at p;obtain⟨d,hd,q⟩:=Option.bind_eq_some_iff.1 p;rw[List.getElem?_ofFn]at hd;split at hd
   ·rename_i g;obtain rfl:=Option.some.inj hd;have h2:=(Classical.choose_spec (h (j / size) g)).2 (j % size) u q;rwa[show j / size * size+j % size=j from by rw[Nat.mul_comm];exact Nat.div_add_mod j size]at h2
   ·cases hd
  obtain⟨b,off,o⟩:=a;have r:∃u,((List.ofFn (fun i:Fin n=>Classical.choose (h i.1 i.2))).flatMap cells)[0]? =some u:=by
   have hl:0 < ((List.ofFn (fun i:Fin n=>Classical.choose (h i.1 i.2))).flatMap cells).length:=by
    rw[Xs_ cells e];simp only[List.length_ofFn];exact Nat.mul_pos hn m
   exact⟨_,List.getElem?_eq_getElem hl⟩
  obtain⟨u,q⟩:=r;have k:o=none:=by simpa[Addr.add]using World.cell?_spot (f 0 u q)
  subst k;have c:∀j u,((List.ofFn (fun i:Fin n=>Classical.choose (h i.1 i.2))).flatMap cells)[j]? =some u->W.cell? ⟨b,off+j,none⟩=some u:=fun j u p=>by
   rw[<-Go.WideShapes.add_plain];exact f j u p
  exact⟨b,off,rfl,qc_ (c 0 u q),c⟩
 ·intro d hd;obtain⟨i,hi⟩:=List.mem_iff_getElem?.1 hd;rw[List.getElem?_ofFn]at hi;split at hi
  ·rename_i g;obtain rfl:=Option.some.inj hi;exact(Classical.choose_spec (h i g)).1
  ·cases hi
def Own (w:World) (g:Nat) (t:TypeId) (cap:Nat) (xs:List Value):Prop:=
 ∃rest:List Value,Blk w g t (xs++rest).toArray/\(xs++rest).length=cap
section
variable {w w':World} {g:Nat} {t:TypeId} {cap:Nat} {xs:List Value} {o:Obj}
theorem Own.lt (h:Own w g t cap xs):g < w.heap.size:=by obtain⟨cs,hb,_⟩:=h;exact hb.lt
theorem Own.next (h:Own w g t cap xs) (hb:Below w.heap.size w w'):Own w' g t cap xs:=by
 obtain⟨cs,a,h'⟩:=h;exact⟨cs,a.next hb,h'⟩
theorem Own.next1 (h:Own w g t cap xs) (hb:Below (w.alloc o).heap.size (w.alloc o) w'):Own w' g t cap xs:=by
 obtain⟨cs,a,h'⟩:=h;exact⟨cs,a.next1 hb,h'⟩
theorem Own.drewN (h:Own w g t cap xs) (k:Nat):Own (w.drewN k) g t cap xs:=h
theorem Own.drew (h:Own w g t cap xs):Own w.drew g t cap xs:=h
theorem Own.there (h:Own w g t cap xs) {i:Nat} (hi:i < cap):∃v,w.cell? ⟨g,i,none⟩=some v:=by
 obtain⟨rest,hb,hs⟩:=h;exact⟨(xs++rest)[i]'oo,by rw[hb.cell];simp⟩
theorem Own.frozen (h:Own w g t cap xs) (i:Nat):w.frozen? ⟨g,i,none⟩=false:=by obtain⟨cs,hb,_⟩:=h;exact hb.frozen i
theorem Own.push (h:Own w g t cap xs) (hk:xs.length < cap) {i:Nat} (hi:i=xs.length) (u:Value):Own (w.setCell ⟨g,i,none⟩ u) g t cap (xs++[u]):=by
 subst hi;obtain⟨rest,a,hs⟩:=h
 match rest,a,hs with
 |[],_,hs=>simp at hs;omega
 |r::rest,a,hs=>
  refine⟨rest,?_,by simpa using hs⟩;have h2:=a.set_ xs.length u;have e:((xs++r::rest).toArray).setIfInBounds xs.length u=((xs++[u])++rest).toArray:=by
   simp
  rwa[e]at h2
theorem Own.rd {size n:Nat} (h:Own w g t cap xs) (hl:xs.length=n * size):Rd w size (some ⟨g,0,none⟩) n xs:=⟨hl,fun _=>by
 obtain⟨rest,hb,hs⟩:=h;refine⟨g,0,rfl,hb.lt,fun j u hj=>?_⟩;rw[hb.cell,Nat.zero_add];have a:j < xs.length:=(List.getElem?_eq_some_iff.1 hj).1;simpa[List.getElem?_append_left a]using hj⟩
end
theorem Rd.fresh {size n:Nat} (w:World) (t:TypeId) (xs:List Value) (hl:xs.length=n * size):Rd (w.alloc (.cells xs.toArray t)) size (some ⟨w.heap.size,0,none⟩) n xs:=
 ⟨hl,fun _=>⟨w.heap.size,0,rfl,(Blk.new w t xs.toArray).lt,fun j u hj=>by rw[(Blk.new w t xs.toArray).cell,Nat.zero_add];simpa using hj⟩⟩
theorem Own.alloc {w:World} {g:Nat} {t:TypeId} {cap:Nat} {xs:List Value} (h:Own w g t cap xs) (o:Obj):Own (w.alloc o) g t cap xs:=by
 obtain⟨rest,hb,hs⟩:=h;exact⟨rest,hb.alloc o,hs⟩
theorem Own.far {w:World} {g:Nat} {t:TypeId} {cap:Nat} {xs:List Value} (h:Own w g t cap xs) {p:Addr} (hp:g≠p.block) (u:Value):Own (w.setCell p u) g t cap xs:=by
 obtain⟨rest,hb,hs⟩:=h;exact⟨rest,hb.far hp u,hs⟩
theorem Blk.fresh3 {w w2:World} {t:TypeId} {cs:Array Value} {o o':Obj} (h:Below (((w.alloc (.cells cs t)).alloc o).alloc o').heap.size (((w.alloc (.cells cs t)).alloc o).alloc o') w2):Blk w2 w.heap.size t cs:=
 (((Blk.new w t cs).alloc o).alloc o').next h
theorem QgL_ {W w w2:World} {o o' o'':Obj} (h1:Below W.heap.size W w) (h2:Below (((w.alloc o).alloc o').alloc o'').heap.size (((w.alloc o).alloc o').alloc o'') w2):Below W.heap.size W w2:=Jf_ (h1.alloc h1.size o) h2
theorem QiF_ {x t:BA} (h:x≠t):(x.toList==t.toList)=false:=by
 rw[beq_eq_false_iff_ne];intro e;rw[ByteArray.toList_eq,ByteArray.toList_eq]at e;exact h (Go.WideShapes.bytes_inj e)
theorem Z6_ {a b c:World} {row:ON} (h:a.grownBy b row) (k:b.grownBy c row):a.grownBy c row:=
 ⟨k.os.trans h.os,k.tape.trans h.tape,k.output.trans h.output,Nat.le_trans h.size k.size,fun i hi d=>(k.block i (Nat.lt_of_lt_of_le hi h.size) d).trans (h.block i hi d)⟩
theorem YK_ {P:Program} (t e:TypeId) (i:TypeInfo) (z:Value) (ht:P.underlying t=some (.slice e)) (hi:P.info? e=some i) (hz:i.zero=some z)
  (kl kc:IntKind) (n c:Nat) (d:n<=c) (a:i.bytes * c<=281474976710656) (b:c<=9223372036854775807) (w:World):
  (Instr.makeSlice t (.int kl (n:Int)) (.int kc (c:Int))).run P w=.ok (.slice (some ⟨w.heap.size,0,none⟩) n c) (w.alloc (.cells (madeCells z.cells (c * i.size)) e)):=by
 have hb:(i.bytes:Int) * (c:Int)<=281474976710656:=by
  have h:((i.bytes * c:Nat):Int)<=281474976710656:=oo;rwa[Int.natCast_mul]at h
 have hr:=run_make (P:=P) w t e i z ht hi hz kl kc n c oo oo hb oo;simp only[Int.toNat_natCast]at hr;exact hr
theorem Own.made {w:World} {e:TypeId} {cs:Array Value} {cap:Nat} (h:cs.size=cap):Own (w.alloc (.cells cs e)) w.heap.size e cap []:=
 ⟨cs.toList,by simpa using Blk.new w e cs,by simpa using h⟩
open Go.RowKit Go.WideShapes Go.ChangeShapes Go.Joins Go.Deep
section
variable {H:Type} {enc:TypeId × Value->H} {P:Program}
theorem trodAll_stays (hl:laidOutB P=true) {W W':World} {b:Nat->Bool}:∀{c:List TypeId} {vs:List Value} {ds:List (DataW H)} {ps:List MemPlace},
  c.all (fun t=>P.readableRec t&&decide (t < P.types.size))=true->DataW.TrodAll enc P W 0 (fun _=>true) true c vs ds ps->
  (∀x∈ps,W.sameAt W' x)->(∀x∈ps,b x.block=true)->DataW.TrodAll enc P W' 0 b true c vs ds ps
 |[],_,_,_,_,h,_,_=>by
  obtain⟨rfl,rfl,rfl⟩:=trodAll_nil h;exact trodAll_mk0
 |t::c,_,_,_,hr,h,hs,hp=>by
  obtain⟨v,f,d,e,p,q,rfl,rfl,rfl,h1,h2⟩:=trodAll_cons h;simp only[List.all_cons,Bool.and_eq_true,decide_eq_true_eq]at hr;exact trodAll_cons_mk (WideElems.Trod_stays hl hr.1.1 hr.1.2 h1 (fun x a=>hs x (List.mem_append.2 (.inl a))) (fun x a=>hp x (List.mem_append.2 (.inl a))))
   (trodAll_stays hl hr.2 h2 (fun x a=>hs x (List.mem_append.2 (.inr a))) (fun x a=>hp x (List.mem_append.2 (.inr a))))
end
section
variable {H:Type} {enc:TypeId × Value->H} {P:Program} {w:World} {base:Nat} {spare:Nat->Bool} {held:Bool}
theorem QbK_ {t e:TypeId} {fs:Array Field} {g:Nat} {cs:List Value} {x:DataW H × List MemPlace} (ht:P.underlying t=some (.slice e)) (he:P.underlying e=some (.struct fs))
  (k:oneCellFields P fs=true) (hC:P.cellsOf e=fs.size) (h:DataW.trod enc P w base spare held g t cs=some x):
  (cs=[.slice none 0 0]/\x=(.nil,[]))\/
  ∃(a:Addr) (len cap m:Nat) (D:Nat->DataW H) (o:Nat->List MemPlace),cs=[.slice (some a) len cap]/\base<=a.block/\len<=cap/\cap<=maxLen/\m=(if spare a.block then cap else len)/\
   x=(.slice ((List.range len).map D) ((List.range (m - len)).map fun j=>D (len+j)),MemPlace.row a (m * fs.size)++(List.range m).flatMap o)/\
   ∀i,i < m->∃(ys:List (DataW H × List MemPlace)) (n:Nat),D i=.agg (ys.map (·.1))/\o i=ys.flatMap (·.2)/\ys.length=fs.size/\
    ∀(j:Nat) (f:Field),fs[j]? =some f->∃(v:Value) (y:DataW H × List MemPlace),w.cell? (a.add (i * fs.size+j))=some v/\ys[j]? =some y/\DataW.trod enc P w base spare held n f.type [v]=some y:=by
 rcases open_slice ht h with h0|⟨a,len,cap,m,n,D,o,q,hb,hl,hm,A,hx,hi⟩
 ·exact .inl h0
 ·refine .inr ⟨a,len,cap,m,D,o,q,hb,hl,hm,A,by rw[hC]at hx;exact hx,fun i r=>?_⟩;obtain⟨b,hc,B⟩:=hi i r;rw[hC]at hc;obtain⟨ys,n',I,C,F,E,hf⟩:=DataW.trod_struct he B;obtain⟨_,G,p⟩:=World.cells?_some hc;simp only[Prod.mk.injEq]at C;refine⟨ys,n',C.1,C.2,E,fun j f s=>?_⟩;obtain⟨ho,hk⟩:=hone_of k j f s;have z:j < fs.size:=(Array.getElem?_eq_some_iff.1 s).1;have c:=p j z;have hv:b[j]? =some (b[j]'oo):=List.getElem?_eq_getElem oo;have h1:=hf j f s;rw[ho,hk]at h1;have d:(b.drop j).take 1=[b[j]'oo]:=by
   rw[List.drop_eq_getElem_cons oo]
   rfl
  rw[d]at h1;have l:ys[j]? =some (ys[j]'oo):=List.getElem?_eq_getElem oo;refine⟨_,_,?_,l,h1.trans l⟩;rw[<-Go.Deep.add_add,c,hv]
end
section
variable {H:Type} {enc:TypeId × Value->H} {W:World} {base:Nat} {v:Value} {d:DataW H} {p:List MemPlace} {sp:Nat->Bool} {hd:Bool}
end
open Go.ChangeShapes Go.WideShapes Go.ChangeAt Go.RowKit
theorem retAndShaped {H:Type} {enc:TypeId × Value->H} {a:Assume} {C:Checked} {I:Os} {f:FuncId} {m:Func} {s:ChangeSpec} {k:List PathCond} {c fresh h n:Bool} {X:World->Array Value->Prop}
  (hX:∀(w w':World) (b:Array Value),w.heap=w'.heap->X w b->X w' b)
  (own:ownKnob C.prog.godebug=none) (o:I.Started) (r:C.prog.inits.idxOf? f=none) (D:C.prog.funcs[f]? =some m)
  (p:∃(w:World) (d:Tape) (i:Input),w.os=I/\(w.forCall d i).Shaped C.prog/\i.vars=[]/\Input.okWide C.prog (w.forCall d i) .any w.heap.size f i/\
   ((s.pre enc C.prog m k c (w.forCall d i).memory i.args/\X (w.forCall d i).memory i.args)/\sizedMet enc C.prog m (OpenSpec.ofChange s) c (w.forCall d i).memory i.args)/\a.holds C.prog (lone (Frame.enter C.prog f i.args .normal) [] (w.forCall d i)))
  (l:∀(W:World) (base:Nat) (b:Array Value) (ds x:List (DataW H)) (g:List MemPlace),
   (∀(j:Nat) t v,m.params[j]? =some t->b[j]? =some v->Value.okWide C.prog W .any base t v)->
   DataW.Whole enc C.prog m.params.toList s.vars c W b.toList ds x g->
   k.all (PathCond.test C.prog ⟨m.params.toList,ds,s.plain.varTypes C.prog,x⟩)=true->
   (DataW.weightsEach C.prog (m.params.toList++s.plain.varTypes C.prog) (ds++x)).all (·<=reachBytes)=true->X W b->W.ShapedOpen C.prog->
   a.holds C.prog (lone (Frame.enter C.prog f b .normal) [] W)->
   Calls C.prog f b W fun e W'=>∃v,e=.returned v/\s.post enc C.prog m c fresh h n W b v W'):
  ReturnsInHanded a C I f .any (fun w b=>(s.pre enc C.prog m k c w b/\X w b)/\sizedMet enc C.prog m (OpenSpec.ofChange s) c w b) (s.post enc C.prog m c fresh h n):=by
 refine returnsInHanded_of_calls own o r p ?_;intro w d i _ F _ E z q;obtain⟨_,_,_,B,y,_,_,_,_,A⟩:=E;have e:B=m:=Option.some.inj (y.symm.trans D);subst e;obtain⟨⟨⟨ds,x,g,hw,hc⟩,hx⟩,hz⟩:=z;have G:=DataW.Whole.of_heap (w':=w.forCall d i) (by rfl) hw;refine(l (w.forCall d i) w.heap.size i.args ds x g A G hc (hz.weights hw) (hX _ _ _ (by rfl) hx) F q).mono fun e W' ⟨v,he,hp⟩=>?_
 subst he;exact ChangeSpec.post_blind hp
theorem Qja_ {a b c:World} {row:ON} (h:a.grownBy b row) (k:b.grownBy c row):a.grownBy c row:=
 ⟨k.os.trans h.os,k.tape.trans h.tape,k.output.trans h.output,Nat.le_trans h.size k.size,fun i hi d=>(k.block i (Nat.lt_of_lt_of_le hi h.size) d).trans (h.block i hi d)⟩
theorem Rd.grown {w w':World} {size n g:Nat} {A:OA} {xs:List Value} (h:Rd w size A n xs) (hg:w.grownBy w' (some g)) (c:0 < n->∀b off,A=some ⟨b,off,none⟩->b≠g):Rd w' size A n xs:=
 ⟨h.1,fun hn=>by
  obtain⟨b,off,e,hb,hc⟩:=h.2 hn;exact⟨b,off,e,Nat.lt_of_lt_of_le hb hg.size,fun j u hj=>(World.cell?_of_block (a:=⟨b,off+j,none⟩) (hg.block b hb (fun q=>c hn b off e (Option.some.inj q)))).trans (hc j u hj)⟩⟩
theorem Qfe_ (x:BA) (i j:Nat):(x.extract i j).data.toList=(x.data.toList.take j).drop i:=by
 rw[ByteArray.data_extract,Array.toList_extract,List.extract_eq_take_drop];rw[List.take_drop,List.drop_take];simp[List.drop_take]
theorem VY_ {x y:BA} (h:x.data.toList=y.data.toList):x=y:=by
 apply ByteArray.ext;exact Array.toList_inj.1 h
theorem XX_ (x y:BA):(x++y).data.toList=x.data.toList++y.data.toList:=by rw[ByteArray.data_append];simp
theorem QF_ (x:BA):x.data.toList.length=x.size:=by rw[Array.length_toList];rfl
theorem Qis_ {t:BA} (h:0 < t.size):¬t.toList=[]:=by
 intro e;have h2:=QF_ t;rw[<-ByteArray.toList_eq,e]at h2;simp at h2;omega
def Qm_ (l:List BA):List Value:=l.map Value.string
def Mine (w:World) (B:Nat) (e:TypeId) (s:Nat) (A:OA) (n c:Nat) (xs:List Value):Prop:=w.ownsRow B e s (.slice A n c) n xs
section
variable {w w' w2:World} {B:Nat} {e:TypeId} {s:Nat} {A:OA} {n c:Nat} {xs:List Value} {o o' o'':Obj}
theorem Mine.of {v:Value} (h:w.ownsRow B e s v n xs):∃A c,v=.slice A n c/\Mine w B e s A n c xs:=by
 obtain⟨h1,h2⟩:=h;rcases h2 with⟨rfl,rfl⟩|⟨g,cap,a,rfl,r⟩
 ·exact⟨none,0,rfl,h1,.inl ⟨rfl,rfl⟩⟩
 ·exact⟨_,cap,rfl,h1,.inr ⟨g,cap,a,rfl,r⟩⟩
theorem Mine.len (h:Mine w B e s A n c xs):xs.length=n * s:=h.1
theorem Mine.own (h:Mine w B e s A n c xs):(A=none/\n=0/\c=0)\/∃g,A=some ⟨g,0,none⟩/\B<=g/\n<=c/\c<=maxLen/\Own w g e (c * s) xs:=by
 obtain⟨h1,i⟩:=h;rcases i with⟨i,h3⟩|⟨g,cap,f,hv,hg,hh,hn,hc,j,ht⟩
 ·injection i with a b d;exact .inl ⟨a,h3,d⟩
 ·injection hv with a b d;subst a;subst d;refine .inr ⟨g,rfl,hg,hn,hc,f.toList.drop (n * s),?_,?_⟩
  ·have e1:(xs++f.toList.drop (n * s)).toArray=f:=(by rw[<-ht,List.take_append_drop]);rw[e1];exact hh
  ·rw[<-ht,List.take_append_drop];simpa using j
theorem Mine.mk_own {g:Nat} (h:Own w g e (c * s) xs) (hl:xs.length=n * s) (hg:B<=g) (hn:n<=c) (hc:c<=maxLen):Mine w B e s (some ⟨g,0,none⟩) n c xs:=by
 obtain⟨rest,hb,hs⟩:=h;refine⟨hl,.inr ⟨g,c,_,rfl,hg,hb,hn,hc,by simpa using hs,?_⟩⟩;rw[<-hl];simp
theorem Mine.mk_nil (w:World) (B:Nat) (e:TypeId) (s:Nat):Mine w B e s none 0 0 []:=⟨by simp,.inl ⟨rfl,rfl⟩⟩
theorem Mine.rd (h:Mine w B e s A n c xs):Rd w s A n xs:=by
 rcases h.own with⟨rfl,rfl,_⟩|⟨g,rfl,_,_,_,ho⟩
 ·have:xs=[]:=List.eq_nil_of_length_eq_zero (by simpa using h.len);subst this;exact Rd.none_ _ _ _
 ·exact ho.rd h.len
theorem Mine.grown {row:ON} (h:Mine w B e s A n c xs) (hg:w.grownBy w' row) (a:∀g,row=some g->g < B\/A.map (·.block)≠some g):Mine w' B e s A n c xs:=by
 have hl:=h.len;rcases h.own with⟨rfl,rfl,rfl⟩|⟨g,rfl,hB,hn,hc,rest,hb,hs⟩
 ·exact⟨hl,.inl ⟨rfl,rfl⟩⟩
 ·refine Mine.mk_own ⟨rest,hb.grown hg (fun q=>?_),hs⟩ hl hB hn hc;rcases a g q.symm with h1|h1
  ·omega
  ·exact h1 rfl
theorem Mine.next (h:Mine w B e s A n c xs) (hb:Below w.heap.size w w'):Mine w' B e s A n c xs:=by
 have hl:=h.len;rcases h.own with⟨rfl,rfl,rfl⟩|⟨g,rfl,hB,hn,hc,ho⟩
 ·exact⟨hl,.inl ⟨rfl,rfl⟩⟩
 ·exact Mine.mk_own (ho.next hb) hl hB hn hc
theorem Mine.alloc (h:Mine w B e s A n c xs) (o:Obj):Mine (w.alloc o) B e s A n c xs:=h.next (br.alloc (Nat.le_refl _) o)
theorem Mine.next1 (h:Mine w B e s A n c xs) (hb:Below (w.alloc o).heap.size (w.alloc o) w2):Mine w2 B e s A n c xs:=(h.alloc o).next hb
theorem Mine.drewN (h:Mine w B e s A n c xs) (k:Nat):Mine (w.drewN k) B e s A n c xs:=h
theorem Mine.drew (h:Mine w B e s A n c xs):Mine w.drew B e s A n c xs:=h
theorem Mine.more (h:Mine w B e s A n c xs) {B':Nat} (hB:B'<=B):Mine w B' e s A n c xs:=by
 have hl:=h.len;rcases h.own with⟨rfl,rfl,rfl⟩|⟨g,rfl,hg,hn,hc,ho⟩
 ·exact⟨hl,.inl ⟨rfl,rfl⟩⟩
 ·exact Mine.mk_own ho hl oo hn hc
theorem ZA_ (w:World) (e:TypeId) (s:Nat):(w.alloc (.cells #[] e)).ownsRow w.heap.size e s (.slice (some ⟨w.heap.size,0,none⟩) 0 0) 0 []:=
 ⟨by simp,.inr ⟨w.heap.size,0,#[],rfl,Nat.le_refl _,heap_alloc_new w _,Nat.le_refl _,Nat.zero_le _,by simp,by simp⟩⟩
theorem Mine.blk (h:Mine w B e s A n c xs) {g:Nat} (a:A.map (·.block)=some g):B<=g/\g < w.heap.size:=by
 rcases h.own with⟨rfl,_⟩|⟨g',rfl,hB,_,_,ho⟩
 ·simp at a
 ·simp at a;subst a;exact⟨hB,ho.lt⟩
theorem Rd.lt {size:Nat} (h:Rd w size A n xs) (hn:0 < n):∀b off,A=some ⟨b,off,none⟩->b < w.heap.size:=fun b off e=>by
 obtain⟨b',c,a,hb,_⟩:=h.2 hn;rw[e]at a;injection a with a;injection a with e1;omega
theorem Rd.turned {size:Nat} {row:ON} (h:Rd w size A n xs) (hg:w.grownBy w' row) (c:0 < n->∀g,row=some g->∀b off,A=some ⟨b,off,none⟩->b≠g):Rd w' size A n xs:=
 ⟨h.1,fun hn=>by
  obtain⟨b,off,e,hb,hc⟩:=h.2 hn;refine⟨b,off,e,Nat.lt_of_lt_of_le hb hg.size,fun j u hj=>(World.cell?_of_block (a:=⟨b,off+j,none⟩) (hg.block b hb (fun q=>?_))).trans (hc j u hj)⟩;exact c hn b q.symm b off e rfl⟩
theorem Blk.turned {g:Nat} {t:TypeId} {cs:Array Value} {row:ON} (h:Blk w g t cs) (hb:w.grownBy w' row) (hg:∀q,row=some q->g≠q):Blk w' g t cs:=
 h.grown hb (fun q=>hg g q.symm rfl)
theorem Own.grown {g cap:Nat} {t:TypeId} {row:ON} (h:Own w g t cap xs) (hb:w.grownBy w' row) (hg:∀q,row=some q->g≠q):Own w' g t cap xs:=by
 obtain⟨rest,h1,h2⟩:=h;exact⟨rest,h1.turned hb hg,h2⟩
theorem XY_ {W:World} {row:ON} (h:Below W.heap.size W w) (hg:w.grownBy w' row) (hr:∀g,row=some g->W.heap.size<=g):Below W.heap.size W w':=
 h.grown hg h.size hr
end
theorem Q3_ (A:OA) (n c:Nat):(Value.slice A n c).ownBlock=A.map (·.block):=by cases A<;>rfl
theorem Ud_ {w:World} {A:OA} {n k:Nat} {l:List BA} {x:BA} (h:Rd w 1 A n (Qm_ l)) (hk:k < n) (hd:l[k]? =some x):
  ∃b off,A=some ⟨b,off,none⟩/\b < w.heap.size/\w.cell? ⟨b,off+k,none⟩=some (.string x):=by
 obtain⟨b,off,e,hb,hc⟩:=h.at_ oo;exact⟨b,off,e,hb,hc k _ (by unfold Qm_;rw[List.getElem?_map,hd];rfl)⟩
theorem xJ_ (l:List BA):(Qm_ l).length=l.length:=by simp[Qm_]
open Go.RowKit Go.WideShapes Go.ChangeShapes Go.Joins Go.Deep
def Qa_ (l:LI):List Value:=l.map (Value.int .i64)
theorem Qu_ {w:World} {A:OA} {n k:Nat} {l:LI} {x:Int} (h:Rd w 1 A n (Qa_ l)) (hk:k < n) (hd:l[k]? =some x):
  ∃b off,A=some ⟨b,off,none⟩/\b < w.heap.size/\w.cell? ⟨b,off+k,none⟩=some (.int .i64 x):=by
 obtain⟨b,off,e,hb,hc⟩:=h.at_ oo;exact⟨b,off,e,hb,hc k _ (by unfold Qa_;rw[List.getElem?_map,hd];rfl)⟩
section
variable {H:Type} {enc:TypeId × Value->H} {W:World} {base:Nat} {v:Value} {d:DataW H} {p:List MemPlace} {hd:Bool}
end
theorem QY_:(prog.info? 3).map (fun i=>(i.zero,i.size,i.bytes))=some (some (.int .i64 0),1,8):=by kernel_rfl
open Go.RowKit Go.WideShapes Go.ChangeShapes Go.Joins Go.Deep
structure Nd where
 kind:Int
 text:BA
 adr:OA
 cnt:Nat
 cap:Nat
 kids:LI
 blank:Bool
structure PN where
 kind:Int
 text:BA
 kids:LI
 blank:Bool
def Nd.pn (d:Nd):PN:=⟨d.kind,d.text,d.kids,d.blank⟩
def Qv_ (d:Nd):List Value:=[.int .i64 d.kind,.string d.text,.slice d.adr d.cnt d.cap,.bool d.blank]
theorem K1_ (d:Nd):(Qv_ d).length=4:=rfl
def Nds (w:World) (A:OA) (n:Nat) (l:List Nd):Prop:=
 l.length=n/\Rd w 4 A n (l.flatMap Qv_)/\∀d∈l,Rd w 1 d.adr d.cnt (Qa_ d.kids)
section
variable {w w' w2:World} {A:OA} {n k g B:Nat} {l:List Nd} {d:Nd} {o o':Obj} {t u:TypeId}
theorem Nds.len (h:Nds w A n l):l.length=n:=h.1
theorem Nds.next (h:Nds w A n l) (hb:Below w.heap.size w w'):Nds w' A n l:=⟨h.1,h.2.1.next hb,fun d hd=>(h.2.2 d hd).next hb⟩
theorem Nds.alloc (h:Nds w A n l) (o:Obj):Nds (w.alloc o) A n l:=⟨h.1,h.2.1.alloc o,fun d hd=>(h.2.2 d hd).alloc o⟩
theorem K2_ {xs:LI} {m:Nat} (h:Rd w 1 A m (Qa_ xs)):xs.length=m:=by have:=h.1;simpa[Qa_]using this
theorem Nds.cnt (h:Nds w A n l) (hd:d∈l):d.kids.length=d.cnt:=K2_ (h.2.2 d hd)
theorem Nds.at_ (h:Nds w A n l) (hk:k < n) (hd:l[k]? =some d):
  ∃b off,A=some ⟨b,off,none⟩/\b < w.heap.size/\w.cell? ⟨b,off+k * 4,none⟩=some (.int .i64 d.kind)/\w.cell? ⟨b,off+k * 4+1,none⟩=some (.string d.text)/\w.cell? ⟨b,off+k * 4+2,none⟩=some (.slice d.adr d.cnt d.cap)/\w.cell? ⟨b,off+k * 4+3,none⟩=some (.bool d.blank):=by
 obtain⟨b,off,e,hb,a⟩:=h.2.1.at_ oo;exact⟨b,off,e,hb,a _ _ (Kw_ Qv_ K1_ hd (j:=0) rfl),a _ _ (Kw_ Qv_ K1_ hd (j:=1) rfl),a _ _ (Kw_ Qv_ K1_ hd (j:=2) rfl),a _ _ (Kw_ Qv_ K1_ hd (j:=3) rfl)⟩
theorem Nds.kids (h:Nds w A n l) (hd:l[k]? =some d):Rd w 1 d.adr d.cnt (Qa_ d.kids):=h.2.2 d (List.mem_of_getElem? hd)
end
section
variable {H:Type} {enc:TypeId × Value->H} {W:World} {base:Nat} {v:Value} {d:DataW H} {p:List MemPlace} {hd:Bool}
end
def Nps (w:World) (A:OA) (n:Nat) (ps:List PN):Prop:=∃l,Nds w A n l/\(∀d∈l,d.cnt<=d.cap)/\l.map Nd.pn=ps
section
variable {w w':World} {A:OA} {n k:Nat} {ps:List PN} {p:PN} {o o':Obj}
theorem Nps.len (h:Nps w A n ps):ps.length=n:=by obtain⟨l,h,_,rfl⟩:=h;rw[List.length_map];exact h.1
theorem Nps.next (h:Nps w A n ps) (hb:Below w.heap.size w w'):Nps w' A n ps:=by obtain⟨l,h,c,e⟩:=h;exact⟨l,h.next hb,c,e⟩
theorem Nps.below (h:Nps w A n ps) (hb:Below w.heap.size w w'):Nps w' A n ps:=h.next hb
theorem Nps.alloc (h:Nps w A n ps) (o:Obj):Nps (w.alloc o) A n ps:=by obtain⟨l,h,c,e⟩:=h;exact⟨l,h.alloc o,c,e⟩
theorem Nps.get (h:Nps w A n ps) (hk:k < n):∃p,ps[k]? =some p:=⟨_,gE (by have:=h.len;omega)⟩
theorem Nps.atc (h:Nps w A n ps) (hk:k < n) (hd:ps[k]? =some p):
  ∃b off A' c',A=some ⟨b,off,none⟩/\b < w.heap.size/\w.cell? ⟨b,off+k * 4,none⟩=some (.int .i64 p.kind)/\w.cell? ⟨b,off+k * 4+1,none⟩=some (.string p.text)/\w.cell? ⟨b,off+k * 4+2,none⟩=some (.slice A' p.kids.length c')/\w.cell? ⟨b,off+k * 4+3,none⟩=some (.bool p.blank)/\p.kids.length<=c'/\Rd w 1 A' p.kids.length (Qa_ p.kids):=by
 obtain⟨l,h,c,rfl⟩:=h;rw[List.getElem?_map]at hd;obtain⟨d,a,rfl⟩:=Option.map_eq_some_iff.1 hd;obtain⟨b,off,e,hb,c0,c1,c2,c3⟩:=h.at_ hk a;have f:=h.cnt (List.mem_of_getElem? a);have hr:=h.kids a;refine⟨b,off,d.adr,d.cap,e,hb,c0,c1,?_,c3,?_,?_⟩
 ·show w.cell? _=some (.slice d.adr d.kids.length d.cap);rw[f];exact c2
 ·show d.kids.length<=d.cap;rw[f];exact c d (List.mem_of_getElem? a)
 ·show Rd w 1 d.adr d.kids.length (Qa_ d.kids);rw[f];exact hr
theorem Nps.at_ (h:Nps w A n ps) (hk:k < n) (hd:ps[k]? =some p):
  ∃b off A' c',A=some ⟨b,off,none⟩/\b < w.heap.size/\w.cell? ⟨b,off+k * 4,none⟩=some (.int .i64 p.kind)/\w.cell? ⟨b,off+k * 4+1,none⟩=some (.string p.text)/\w.cell? ⟨b,off+k * 4+2,none⟩=some (.slice A' p.kids.length c')/\w.cell? ⟨b,off+k * 4+3,none⟩=some (.bool p.blank)/\Rd w 1 A' p.kids.length (Qa_ p.kids):=by
 obtain⟨b,off,A',c',e,hb,c0,c1,c2,c3,_,hr⟩:=h.atc hk hd;exact⟨b,off,A',c',e,hb,c0,c1,c2,c3,hr⟩
end
def Ge_ (p:UInt8->Bool) (s:BA):Bool:=s.data.toList.all p
def Jb_ (p:UInt8->Bool) (s:BA) (k:Nat):Prop:=(s.data.toList.take k).all p=true
section
variable {p:UInt8->Bool} {s:BA} {k:Nat}
theorem Xw_ (p:UInt8->Bool) (s:BA):Jb_ p s 0:=by simp[Jb_]
theorem ZW_ (h:Jb_ p s k) (hk:k < s.size) (hc:p s[k]=true):Jb_ p s (k+1):=by
 unfold Jb_ at h |-
 rw[List.take_succ_eq_append_getElem (by simpa using hk),List.all_append,h];simp only[List.all_cons,List.all_nil,Bool.and_true,Bool.true_and];exact hc
theorem JB_ (hk:k < s.size) (hc:p s[k]=false):Ge_ p s=false:=by
 unfold Ge_;rw[List.all_eq_false];exact⟨s[k],by rw[show s[k]=s.data.toList[k]'(by simpa using hk)from rfl];exact List.getElem_mem _,by simp[hc]⟩
theorem JA_ (h:Jb_ p s k) (hk:k=s.size):Ge_ p s=true:=by
 unfold Jb_ at h;unfold Ge_;rwa[List.take_of_length_le (by simp[hk])]at h
end
def QN_ (c:UInt8):Bool:=decide ((97<=(c.toNat:Int)/\(c.toNat:Int)<=122)\/(65<=(c.toNat:Int)/\(c.toNat:Int)<=90)\/(c.toNat:Int)=95)
def Kz_ (c:UInt8):Bool:=decide (48<=(c.toNat:Int)/\(c.toNat:Int)<=57)
def Qp_ (c:UInt8):Bool:=QN_ c||Kz_ c
def QM_ (c:UInt8):Bool:=decide (32<=(c.toNat:Int)/\(c.toNat:Int)<=126)
def Zb_ (p:UInt8->Bool):List UInt8->Nat
 |[]=>0
 |c::l=>if p c then Zb_ p l+1 else 0
theorem K3_ (p:UInt8->Bool) (l:List UInt8):Zb_ p l<=l.length:=by
 induction l with
 |nil=>exact Nat.le_refl _
 |cons c l ih=>unfold Zb_;split<;>simp<;>omega
theorem QfS_ (p:UInt8->Bool) (l:List UInt8):Zb_ p l=l.length↔l.all p=true:=by
 induction l with
 |nil=>simp[Zb_]
 |cons c l ih=>
  unfold Zb_;by_cases h:p c=true
  ·rw[if_pos h,List.length_cons,List.all_cons,h,Bool.true_and,<-ih];omega
  ·rw[if_neg h,List.length_cons,List.all_cons,Bool.eq_false_iff.2 h];simp
theorem WA_ (p:UInt8->Bool) (s:BA):Zb_ p s.data.toList=s.size↔Ge_ p s=true:=by
 have h:=QfS_ p s.data.toList;rw[QF_]at h;exact h
theorem Wz_ {p:UInt8->Bool} {s:BA} {k:Nat} (h:Jb_ p s k) (b:k < s.size) (a:p s[k]=false):Zb_ p s.data.toList=k:=by
 have d:∀(l:List UInt8) (k:Nat) (b:k < l.length),(l.take k).all p=true->p l[k]=false->Zb_ p l=k:=by
  intro l
  induction l with
  |nil=>intro k b;simp at b
  |cons c l ih=>
   intro k b h a
   cases k with
   |zero=>simp only[List.getElem_cons_zero]at a;unfold Zb_;rw[if_neg (by rw[a];decide)]
   |succ k=>
    simp only[List.take_succ_cons,List.all_cons,Bool.and_eq_true]at h;simp only[List.getElem_cons_succ]at a;unfold Zb_;rw[if_pos h.1,ih k (by simpa using b) h.2 a]
 exact d s.data.toList k (by rw[QF_];exact b) h a
theorem qR_ {p:UInt8->Bool} {s:BA} {k:Nat} (h:Jb_ p s k) (hk:k=s.size):Zb_ p s.data.toList=k:=by
 rw[(WA_ p s).2 (JA_ h hk),hk]
theorem zu_ {c:UInt8} (h:((97:Int)<=c.toNat/\(c.toNat:Int)<=122)\/((65:Int)<=c.toNat/\(c.toNat:Int)<=90)\/(c.toNat:Int)=95):true=QN_ c:=(decide_eq_true h).symm
theorem Yi_ {c:UInt8} (h:¬(((97:Int)<=c.toNat/\(c.toNat:Int)<=122)\/((65:Int)<=c.toNat/\(c.toNat:Int)<=90)\/(c.toNat:Int)=95)):false=QN_ c:=(decide_eq_false h).symm
theorem vJ_ {c:UInt8} (h:(48:Int)<=c.toNat/\(c.toNat:Int)<=57):true=Kz_ c:=(decide_eq_true h).symm
theorem QcL_ {c:UInt8} (h:¬((48:Int)<=c.toNat/\(c.toNat:Int)<=57)):false=Kz_ c:=(decide_eq_false h).symm
theorem zL_ {c:UInt8} (h:(32:Int)<=c.toNat/\(c.toNat:Int)<=126):true=QM_ c:=(decide_eq_true h).symm
theorem Wt_ {c:UInt8} (h:¬((32:Int)<=c.toNat/\(c.toNat:Int)<=126)):false=QM_ c:=(decide_eq_false h).symm
theorem Km_ (c:UInt8) (w:World):Calls prog 87 #[.int .u8 c.toNat] w fun e w'=>e=.returned (.bool (QN_ c))/\w=w':=by
 by_cases h1:(97:Int)<=c.toNat
 all_goals by_cases h2:(c.toNat:Int)<=122
 all_goals by_cases h3:(65:Int)<=c.toNat
 all_goals by_cases h4:(c.toNat:Int)<=90
 all_goals by_cases h5:(c.toNat:Int)=95
 all_goals try omega
 all_goals
  go_enter func87,ntmps87;go_wp2;go_ret;refine⟨Qg_ ?_,rfl⟩
  first|exact zu_ (c:=c) oo|exact Yi_ (c:=c) oo|(have d:((c.toNat:Int)==95)=false:=(by rw[beq_eq_false_iff_ne];omega);rw[d];exact Yi_ (c:=c) oo)|(have d:decide ((c.toNat:Int)=95)=false:=decide_eq_false oo;rw[d];exact Yi_ (c:=c) oo)
theorem Zm_ (c:UInt8) (w:World):Calls prog 149 #[.int .u8 c.toNat] w fun e w'=>e=.returned (.bool (QN_ c))/\w=w':=by
 by_cases h1:(97:Int)<=c.toNat
 all_goals by_cases h2:(c.toNat:Int)<=122
 all_goals by_cases h3:(65:Int)<=c.toNat
 all_goals by_cases h4:(c.toNat:Int)<=90
 all_goals by_cases h5:(c.toNat:Int)=95
 all_goals try omega
 all_goals
  go_enter func149,ntmps149;go_wp2;go_ret;refine⟨Qg_ ?_,rfl⟩
  first|exact zu_ (c:=c) oo|exact Yi_ (c:=c) oo|(have d:((c.toNat:Int)==95)=false:=(by rw[beq_eq_false_iff_ne];omega);rw[d];exact Yi_ (c:=c) oo)|(have d:decide ((c.toNat:Int)=95)=false:=decide_eq_false oo;rw[d];exact Yi_ (c:=c) oo)
theorem Q6_ (c:UInt8) (w:World):Calls prog 88 #[.int .u8 c.toNat] w fun e w'=>e=.returned (.bool (Kz_ c))/\w=w':=by
 by_cases h1:(48:Int)<=c.toNat
 all_goals by_cases h2:(c.toNat:Int)<=57
 all_goals
  go_enter func88,ntmps88;go_wp2;go_ret;refine⟨Qg_ ?_,rfl⟩
  first|exact vJ_ oo|exact QcL_ oo
theorem K7_ (c:UInt8) (w:World):Calls prog 152 #[.int .u8 c.toNat] w fun e w'=>e=.returned (.bool (Kz_ c))/\w=w':=by
 by_cases h1:(48:Int)<=c.toNat
 all_goals by_cases h2:(c.toNat:Int)<=57
 all_goals
  go_enter func152,ntmps152;go_wp2;go_ret;refine⟨Qg_ ?_,rfl⟩
  first|exact vJ_ oo|exact QcL_ oo
theorem J8_ (c:UInt8) (w:World):Calls prog 106 #[.int .u8 c.toNat] w fun e w'=>e=.returned (.bool (QM_ c))/\w=w':=by
 by_cases h1:(32:Int)<=c.toNat
 all_goals by_cases h2:(c.toNat:Int)<=126
 all_goals
  go_enter func106,ntmps106;go_wp2;go_ret;refine⟨Qg_ ?_,rfl⟩
  first|exact zL_ oo|exact Wt_ oo
theorem qr_ (c:UInt8) (w:World):Calls prog 151 #[.int .u8 c.toNat] w fun e w'=>e=.returned (.bool (Qp_ c))/\w=w':=by
 have d:=hid (fun(b:Bool) (a:QN_ c=b) (W:World)=>show Calls prog 149 #[.int .u8 (c.toNat:Int)] W fun e w'=>e=.returned (.bool b)/\W=w' by rw[<-a];exact Zm_ c W)
 cases a:QN_ c with
 |true=>
  have f:=hid (d.o _ a);have hi:Qp_ c=true:=by unfold Qp_;rw[a];rfl
  rw[hi];go_enter func151,ntmps151;go_wp2_with (go_at_call 149;refine(f.o _).mono ?_;rintro e w1 ⟨rfl,rfl⟩)
  go_ret;exact⟨rfl,rfl⟩
 |false=>
  have f:=hid (d.o _ a);have hi:Qp_ c=Kz_ c:=by unfold Qp_;rw[a];rfl
  rw[hi];go_enter func151,ntmps151;go_wp2_with (first|(go_at_call 149;refine(f.o _).mono ?_;rintro e w1 ⟨rfl,rfl⟩)|(go_at_call 152;refine(K7_ c _).mono ?_;rintro e w1 ⟨rfl,rfl⟩))
  go_ret;exact⟨rfl,rfl⟩
theorem W7_ (c:UInt8) (w:World):Calls prog 155 #[.int .u8 c.toNat] w fun e w'=>e=.returned (.bool (c != 10))/\w=w':=by
 by_cases h:(c.toNat:Int)=10
 ·have a:c=10:=by apply UInt8.toNat_inj.1;show c.toNat=10;omega
  subst a;go_enter func155,ntmps155;go_wp2;go_ret;exact⟨rfl,rfl⟩
 ·have a:(c != 10)=true:=by
   rw[bne_iff_ne];intro e;subst e;exact h rfl
  rw[a];have h2:((c.toNat:Int)==10)=false:=by rw[beq_eq_false_iff_ne];exact h
  have h3:((c.toNat:Int) != 10)=true:=by rw[bne_iff_ne];exact h
  go_enter func155,ntmps155;go_wp2;go_ret;refine⟨Qg_ ?_,rfl⟩
  first|rfl|exact h3|simp[h2]|simpa using h
theorem JN_ (s:BA) (w:World) (hs:s.size<=maxLen):Calls prog 157 #[.string s] w fun e w'=>e=.returned (.bool (Ge_ QM_ s))/\w=w':=by
 unfold maxLen at hs;go_enter func157,ntmps157;go_wp2
 go_loop [3] (fun i=>∃k:Nat,k<=s.size/\Jb_ QM_ s k/\i=.int .i64 k) (fun i=>s.size - (intOf i).toNat)
 case atStart=>exact⟨0,Nat.zero_le _,Xw_ _ s,rfl⟩
 case round=>
  obtain⟨k,hk,ha,rfl⟩:=hrel;by_cases a:k < s.size
  ·by_cases h1:(s[k].toNat:Int) < 32
   ·have b:=hid (JB_ a (Wt_ oo).symm);go_wp2;go_ret;exact⟨Qg_ b.o.symm,rfl⟩
   ·by_cases h2:(126:Int) < s[k].toNat
    ·have b:=hid (JB_ a (Wt_ oo).symm);go_wp2;go_ret;exact⟨Qg_ b.o.symm,rfl⟩
    ·have b:=ZW_ ha a (zL_ oo).symm;go_wp2
     go_round
     case rel=>exact⟨k+1,oo,b,by go_num⟩
     case measure=>simp[intOf];omega
  ·have b:=hid (JA_ ha oo);go_wp2;go_ret;exact⟨Qg_ b.o.symm,rfl⟩
def X5_ (s:BA):Bool:=
 s.toList==[99,108,97,115,115]||s.toList==[118,97,114]||s.toList==[105,102]||s.toList==[101,108,115,101]||s.toList==[119,104,105,108,101]||s.toList==[114,101,116,117,114,110]
theorem U1_ (s:BA) (w:World):Calls prog 238 #[.string s] w fun e w'=>e=.returned (.bool (X5_ s))/\w=w':=by
 cases h0:(s.toList==[99,108,97,115,115])with
 |true=>
  have a:X5_ s=true:=by unfold X5_;simp only[h0,Bool.or_true,Bool.true_or]
  rw[a];go_enter func238,ntmps238;go_wp2;go_ret;exact⟨rfl,rfl⟩
 |false=>
 cases h1:(s.toList==[118,97,114])with
 |true=>
  have a:X5_ s=true:=by unfold X5_;simp only[h1,Bool.or_true,Bool.true_or]
  rw[a];go_enter func238,ntmps238;go_wp2;go_ret;exact⟨rfl,rfl⟩
 |false=>
 cases h2:(s.toList==[105,102])with
 |true=>
  have a:X5_ s=true:=by unfold X5_;simp only[h2,Bool.or_true,Bool.true_or]
  rw[a];go_enter func238,ntmps238;go_wp2;go_ret;exact⟨rfl,rfl⟩
 |false=>
 cases h3:(s.toList==[101,108,115,101])with
 |true=>
  have a:X5_ s=true:=by unfold X5_;simp only[h3,Bool.or_true,Bool.true_or]
  rw[a];go_enter func238,ntmps238;go_wp2;go_ret;exact⟨rfl,rfl⟩
 |false=>
 cases h4:(s.toList==[119,104,105,108,101])with
 |true=>
  have a:X5_ s=true:=by unfold X5_;simp only[h4,Bool.or_true,Bool.true_or]
  rw[a];go_enter func238,ntmps238;go_wp2;go_ret;exact⟨rfl,rfl⟩
 |false=>
 cases h5:(s.toList==[114,101,116,117,114,110])with
 |true=>
  have a:X5_ s=true:=by unfold X5_;simp only[h5,Bool.or_true,Bool.true_or]
  rw[a];go_enter func238,ntmps238;go_wp2;go_ret;exact⟨rfl,rfl⟩
 |false=>
 have a:X5_ s=false:=by unfold X5_;simp only[h0,h1,h2,h3,h4,h5,Bool.or_self]
 rw[a];go_enter func238,ntmps238;go_wp2;go_ret;exact⟨rfl,rfl⟩
theorem Ju_ (s:BA) (w:World):Calls prog 91 #[.string s] w fun e w'=>e=.returned (.bool (X5_ s))/\w=w':=by
 cases h0:(s.toList==[99,108,97,115,115])with
 |true=>
  have a:X5_ s=true:=by unfold X5_;simp only[h0,Bool.or_true,Bool.true_or]
  rw[a];go_enter func91,ntmps91;go_wp2;go_ret;exact⟨rfl,rfl⟩
 |false=>
 cases h1:(s.toList==[118,97,114])with
 |true=>
  have a:X5_ s=true:=by unfold X5_;simp only[h1,Bool.or_true,Bool.true_or]
  rw[a];go_enter func91,ntmps91;go_wp2;go_ret;exact⟨rfl,rfl⟩
 |false=>
 cases h2:(s.toList==[105,102])with
 |true=>
  have a:X5_ s=true:=by unfold X5_;simp only[h2,Bool.or_true,Bool.true_or]
  rw[a];go_enter func91,ntmps91;go_wp2;go_ret;exact⟨rfl,rfl⟩
 |false=>
 cases h3:(s.toList==[101,108,115,101])with
 |true=>
  have a:X5_ s=true:=by unfold X5_;simp only[h3,Bool.or_true,Bool.true_or]
  rw[a];go_enter func91,ntmps91;go_wp2;go_ret;exact⟨rfl,rfl⟩
 |false=>
 cases h4:(s.toList==[119,104,105,108,101])with
 |true=>
  have a:X5_ s=true:=by unfold X5_;simp only[h4,Bool.or_true,Bool.true_or]
  rw[a];go_enter func91,ntmps91;go_wp2;go_ret;exact⟨rfl,rfl⟩
 |false=>
 cases h5:(s.toList==[114,101,116,117,114,110])with
 |true=>
  have a:X5_ s=true:=by unfold X5_;simp only[h5,Bool.or_true,Bool.true_or]
  rw[a];go_enter func91,ntmps91;go_wp2;go_ret;exact⟨rfl,rfl⟩
 |false=>
 have a:X5_ s=false:=by unfold X5_;simp only[h0,h1,h2,h3,h4,h5,Bool.or_self]
 rw[a];go_enter func91,ntmps91;go_wp2;go_ret;exact⟨rfl,rfl⟩
def Q1_ (s:BA):Bool:=
 s.toList==[38,38]||s.toList==[124,124]||s.toList==[61,61]||s.toList==[60]||s.toList==[43]||s.toList==[45]||s.toList==[42]
theorem q0_ (s:BA) (w:World):Calls prog 187 #[.string s] w fun e w'=>e=.returned (.bool (Q1_ s))/\w=w':=by
 cases h0:(s.toList==[38,38])with
 |true=>
  have a:Q1_ s=true:=by unfold Q1_;simp only[h0,Bool.or_true,Bool.true_or]
  rw[a];go_enter func187,ntmps187;go_wp2;go_ret;exact⟨rfl,rfl⟩
 |false=>
 cases h1:(s.toList==[124,124])with
 |true=>
  have a:Q1_ s=true:=by unfold Q1_;simp only[h1,Bool.or_true,Bool.true_or]
  rw[a];go_enter func187,ntmps187;go_wp2;go_ret;exact⟨rfl,rfl⟩
 |false=>
 cases h2:(s.toList==[61,61])with
 |true=>
  have a:Q1_ s=true:=by unfold Q1_;simp only[h2,Bool.or_true,Bool.true_or]
  rw[a];go_enter func187,ntmps187;go_wp2;go_ret;exact⟨rfl,rfl⟩
 |false=>
 cases h3:(s.toList==[60])with
 |true=>
  have a:Q1_ s=true:=by unfold Q1_;simp only[h3,Bool.or_true,Bool.true_or]
  rw[a];go_enter func187,ntmps187;go_wp2;go_ret;exact⟨rfl,rfl⟩
 |false=>
 cases h4:(s.toList==[43])with
 |true=>
  have a:Q1_ s=true:=by unfold Q1_;simp only[h4,Bool.or_true,Bool.true_or]
  rw[a];go_enter func187,ntmps187;go_wp2;go_ret;exact⟨rfl,rfl⟩
 |false=>
 cases h5:(s.toList==[45])with
 |true=>
  have a:Q1_ s=true:=by unfold Q1_;simp only[h5,Bool.or_true,Bool.true_or]
  rw[a];go_enter func187,ntmps187;go_wp2;go_ret;exact⟨rfl,rfl⟩
 |false=>
 cases h6:(s.toList==[42])with
 |true=>
  have a:Q1_ s=true:=by unfold Q1_;simp only[h6,Bool.or_true,Bool.true_or]
  rw[a];go_enter func187,ntmps187;go_wp2;go_ret;exact⟨rfl,rfl⟩
 |false=>
 have a:Q1_ s=false:=by unfold Q1_;simp only[h0,h1,h2,h3,h4,h5,h6,Bool.or_self]
 rw[a];go_enter func187,ntmps187;go_wp2;go_ret;exact⟨rfl,rfl⟩
end Go.Proofs.YtbiijipkgfpgoaaGreatDoor
namespace Go.Proofs
open Go.Shelf
def Tryz.lays169_ren:Go.Shelf.Ren:=⟨fun|169=>84|n=>n,fun|70=>120|9=>9|0=>0|72=>122|37=>76|127=>140|3=>3|5=>5|n=>n,fun|n=>n⟩
theorem Tryz.lays169:Go.Proofs.Lays.n169 prog Tryz.lays169_ren:=⟨(by kernel_rfl),func84.trans (congrArg some (by kernel_rfl)),underlying0,isAgg0,sizeOf0,zeroValue0,underlying3,isAgg3,sizeOf3,zeroValue3,underlying9,isAgg9,sizeOf9,zeroValue9,underlying76,isAgg76,sizeOf76,zeroValue76,underlying120,isAgg120,sizeOf120,zeroValue120,underlying122,isAgg122,sizeOf122,zeroValue122,underlying140,isAgg140,sizeOf140,zeroValue140⟩
theorem Tryz.Builder_Extra_169:Builder.Extra prog Tryz.lays169_ren:={
 sizeBuilder:=by kernel_rfl
 liesBuilder:=by kernel_rfl
 t5:=underlying5
 a5:=Tryz.isAgg5
 z5:=Tryz.sizeOf5
 v5:=Tryz.zeroValue5
 infoByte:=by kernel_rfl
 cellsByte:=by kernel_rfl
 sizeByte:=by kernel_rfl
 neB5:=by decide }
open Go.RowKit in
/-- (*strings.Builder).String: "String returns the accumulated string.": WHATEVER THE BUILDER HOLDS. (LAID: no walk: one application.) -/
theorem Tryz.Builder_String_any (B b:Nat) (l:List UInt8) (w:World) (h:Lib.IsBuilder 122 5 B b (Lib.byteCells l) w) (a:B<=w.heap.size):
    Calls prog 84 #[.pointer (some ⟨b,0,none⟩)] w fun e w'=>e=.returned (.string ⟨l.toArray⟩)/\Below B w w':=Any.Builder_String_any Tryz.lays169 Tryz.Builder_Extra_169 B b l w h a
def Tryz.lays165_ren:Go.Shelf.Ren:=⟨fun|165=>227|240=>105|241=>254|276=>127|277=>274|n=>n,fun|70=>120|3=>3|0=>0|4=>4|9=>9|20=>20|72=>122|37=>76|164=>164|5=>5|n=>n,fun|n=>n⟩
theorem Tryz.lays165:Go.Proofs.Lays.n165 prog Tryz.lays165_ren:=⟨(by kernel_rfl),func227.trans (congrArg some (by kernel_rfl)),func105.trans (congrArg some (by kernel_rfl)),func254.trans (congrArg some (by kernel_rfl)),func127.trans (congrArg some (by kernel_rfl)),func274.trans (congrArg some (by kernel_rfl)),underlying0,isAgg0,sizeOf0,zeroValue0,underlying3,isAgg3,sizeOf3,zeroValue3,underlying4,isAgg4,sizeOf4,zeroValue4,underlying9,isAgg9,sizeOf9,zeroValue9,underlying20,isAgg20,sizeOf20,zeroValue20,underlying76,isAgg76,sizeOf76,zeroValue76,underlying120,isAgg120,sizeOf120,zeroValue120,underlying122,isAgg122,sizeOf122,zeroValue122,underlying164,isAgg164,sizeOf164,zeroValue164⟩
theorem Tryz.Builder_Extra_165:Builder.Extra prog Tryz.lays165_ren:={
 sizeBuilder:=by kernel_rfl
 liesBuilder:=by kernel_rfl
 t5:=underlying5
 a5:=Tryz.isAgg5
 z5:=Tryz.sizeOf5
 v5:=Tryz.zeroValue5
 infoByte:=by kernel_rfl
 cellsByte:=by kernel_rfl
 sizeByte:=by kernel_rfl
 neB5:=by decide }
open Go.RowKit in
/-- (*strings.Builder).Grow AT A BUILDER THAT HAS NOT BEEN WRITTEN ('var b strings.Builder; b.Grow(n)'): "Grow grows b's capacity, if necessary, to guarantee space for another n bytes.": it holds no byte behind it as before it. (LAID: no walk: one application.) -/
theorem Tryz.Builder_Grow_fresh (B b n:Nat) (w:World) (hB:B<=b) (c:w.heap[b]? =some (.cells #[.pointer none,.slice none 0 0] 122 (0,0))) (a:B<=w.heap.size) (hn:n<=281474976710656):
    Calls prog 227 #[.pointer (some ⟨b,0,none⟩),.int .i64 n] w fun e w'=>e=.returned (.tuple #[])/\(Lib.BuilderAt 122 5 B b (.pointer (some ⟨b,0,none⟩)) [] w'/\Below B w w'):=Any.Builder_Grow_fresh Tryz.lays165 Tryz.Builder_Extra_165 B b n w hB c a hn
def Tryz.lays162_ren:Go.Shelf.Ren:=⟨fun|162=>198|232=>231|227=>232|234=>233|236=>234|228=>257|271=>258|151=>259|120=>275|197=>276|152=>277|260=>291|137=>196|119=>292|224=>279|225=>278|217=>230|266=>256|n=>n,fun|9=>9|4=>4|3=>3|5=>5|117=>230|116=>229|0=>0|124=>233|21=>21|105=>242|46=>235|119=>263|139=>266|138=>265|n=>n,fun|3=>1|4=>2|n=>n⟩
theorem Tryz.lays162:Go.Proofs.Lays.n162 prog Tryz.lays162_ren:=⟨(by kernel_rfl),func292.trans (congrArg some (by kernel_rfl)),func275.trans (congrArg some (by kernel_rfl)),func196.trans (congrArg some (by kernel_rfl)),func259.trans (congrArg some (by kernel_rfl)),func277.trans (congrArg some (by kernel_rfl)),func198.trans (congrArg some (by kernel_rfl)),func276.trans (congrArg some (by kernel_rfl)),func230.trans (congrArg some (by kernel_rfl)),func279.trans (congrArg some (by kernel_rfl)),func278.trans (congrArg some (by kernel_rfl)),func232.trans (congrArg some (by kernel_rfl)),func257.trans (congrArg some (by kernel_rfl)),func231.trans (congrArg some (by kernel_rfl)),func233.trans (congrArg some (by kernel_rfl)),func234.trans (congrArg some (by kernel_rfl)),func291.trans (congrArg some (by kernel_rfl)),func256.trans (congrArg some (by kernel_rfl)),func258.trans (congrArg some (by kernel_rfl)),underlying0,isAgg0,sizeOf0,zeroValue0,underlying3,isAgg3,sizeOf3,zeroValue3,underlying4,isAgg4,sizeOf4,zeroValue4,underlying5,isAgg5,sizeOf5,zeroValue5,underlying9,isAgg9,sizeOf9,zeroValue9,underlying21,isAgg21,sizeOf21,zeroValue21,underlying235,isAgg235,sizeOf235,zeroValue235,underlying242,isAgg242,sizeOf242,zeroValue242,underlying229,isAgg229,sizeOf229,underlying230,isAgg230,sizeOf230,zeroValue230,underlying263,isAgg263,sizeOf263,underlying233,isAgg233,sizeOf233,zeroValue233,underlying265,isAgg265,sizeOf265,zeroValue265,underlying266,isAgg266,sizeOf266,zeroValue266,(by kernel_rfl),(by kernel_rfl)⟩
open Go.RowKit in
/-- strings.TrimRight: "TrimRight returns a slice of the string s, with all trailing Unicode code points contained in cutset removed.": AT A cutset OF ONE ASCII BYTE. The world is as it was. (LAID: no walk: one application.) -/
theorem Tryz.strings_TrimRight_one (s:BA) (c:UInt8) (hc:c.toNat < 128) (w:World) (hs:s.size<=9223372036854775807):
    Calls prog 198 #[.string s,.string ⟨#[c]⟩] w fun e w'=>e=.returned (.string ⟨(Lib.trimRightB s.data.toList c).toArray⟩)/\w'=w:=Any.strings_TrimRight_one Tryz.lays162 s c hc w hs
def Tryz.lays137_ren:Go.Shelf.Ren:=⟨fun|137=>196|217=>230|266=>256|n=>n,fun|9=>9|5=>5|3=>3|n=>n,fun|n=>n⟩
theorem Tryz.lays137:Go.Proofs.Lays.n137 prog Tryz.lays137_ren:=⟨(by kernel_rfl),func196.trans (congrArg some (by kernel_rfl)),func230.trans (congrArg some (by kernel_rfl)),func256.trans (congrArg some (by kernel_rfl)),underlying3,isAgg3,sizeOf3,zeroValue3,underlying5,isAgg5,sizeOf5,zeroValue5,underlying9,isAgg9,sizeOf9,zeroValue9⟩
open Go.RowKit in
/-- strings.IndexByte: "IndexByte returns the index of the first instance of c in s, or -1 if c is not present in s.": IT RETURNS 'Lib.indexByte s c'; the world is as it was. (LAID: no walk: one application.) -/
theorem Tryz.strings_IndexByte (s:BA) (c:Int) (w:World):
    Calls prog 196 #[.string s,.int .u8 c] w fun e w'=>e=.returned (.int .i64 (Lib.indexByte s.data.toList c.toNat.toUInt8))/\w'=w:=Any.strings_IndexByte Tryz.lays137 s c w
def Tryz.lays144_ren:Go.Shelf.Ren:=⟨fun|144=>199|143=>235|219=>260|217=>230|225=>278|224=>279|267=>280|266=>256|314=>293|n=>n,fun|9=>9|4=>4|3=>3|5=>5|46=>235|146=>246|51=>245|n=>n,fun|1=>0|n=>n⟩
theorem Tryz.lays144:Go.Proofs.Lays.n144 prog Tryz.lays144_ren:=⟨(by kernel_rfl),func235.trans (congrArg some (by kernel_rfl)),func199.trans (congrArg some (by kernel_rfl)),func230.trans (congrArg some (by kernel_rfl)),func260.trans (congrArg some (by kernel_rfl)),func279.trans (congrArg some (by kernel_rfl)),func278.trans (congrArg some (by kernel_rfl)),func256.trans (congrArg some (by kernel_rfl)),func280.trans (congrArg some (by kernel_rfl)),func293.trans (congrArg some (by kernel_rfl)),underlying3,isAgg3,sizeOf3,zeroValue3,underlying4,isAgg4,sizeOf4,zeroValue4,underlying5,isAgg5,sizeOf5,zeroValue5,underlying9,isAgg9,sizeOf9,zeroValue9,underlying235,isAgg235,sizeOf235,zeroValue235,underlying245,isAgg245,sizeOf245,zeroValue245,underlying246,isAgg246,sizeOf246,zeroValue246,(by kernel_rfl)⟩
open Go.RowKit Go.Lib in
/-- strings.Contains: "Contains reports whether substr is within s.": AT A substr OF ONE BYTE c: IT RETURNS 'decide (0 ≤ Lib.indexByte s c)'; the world is as it was. (LAID: no walk: one application.) -/
theorem Tryz.strings_Contains_one (s:BA) (c:UInt8) (w:World):
    Calls prog 199 #[.string s,.string ⟨#[c]⟩] w fun e w'=>e=.returned (.bool (decide (0<=Lib.indexByte s.data.toList c)))/\w'=w:=Any.strings_Contains_one Tryz.lays144 s c w
def Tryz.lays99_ren:Go.Shelf.Ren:=⟨fun|99=>154|206=>197|n=>n,fun|9=>9|4=>4|3=>3|n=>n,fun|n=>n⟩
theorem Tryz.lays99:Go.Proofs.Lays.n99 prog Tryz.lays99_ren:=⟨(by kernel_rfl),func154.trans (congrArg some (by kernel_rfl)),func197.trans (congrArg some (by kernel_rfl)),underlying3,isAgg3,sizeOf3,zeroValue3,underlying4,isAgg4,sizeOf4,zeroValue4,underlying9,isAgg9,sizeOf9,zeroValue9⟩
open Go.RowKit Go.Lib in
/-- strings.HasPrefix: "HasPrefix reports whether the string s begins with prefix.": IT RETURNS 'Lib.hasPrefix s prefix'; the world is as it was. (LAID: no walk: one application.) -/
theorem Tryz.strings_HasPrefix (s p:BA) (w:World):
    Calls prog 154 #[.string s,.string p] w fun e w'=>e=.returned (.bool (Lib.hasPrefix s.data.toList p.data.toList))/\w'=w:=Any.strings_HasPrefix Tryz.lays99 s p w
def Tryz.lays100_ren:Go.Shelf.Ren:=⟨fun|100=>177|207=>223|n=>n,fun|9=>9|4=>4|3=>3|n=>n,fun|n=>n⟩
theorem Tryz.lays100:Go.Proofs.Lays.n100 prog Tryz.lays100_ren:=⟨(by kernel_rfl),func177.trans (congrArg some (by kernel_rfl)),func223.trans (congrArg some (by kernel_rfl)),underlying3,isAgg3,sizeOf3,zeroValue3,underlying4,isAgg4,sizeOf4,zeroValue4,underlying9,isAgg9,sizeOf9,zeroValue9⟩
open Go.RowKit Go.Lib in
/-- strings.HasSuffix: "HasSuffix reports whether the string s ends with suffix.": IT RETURNS 'Lib.hasSuffix s suffix'; the world is as it was. ('hs': no Go string is longer: a caller has it of every string that it was handed.) (LAID: no walk: one application.) -/
theorem Tryz.strings_HasSuffix (s p:BA) (w:World) (hs:s.size<=9223372036854775807):
    Calls prog 177 #[.string s,.string p] w fun e w'=>e=.returned (.bool (Lib.hasSuffix s.data.toList p.data.toList))/\w'=w:=Any.strings_HasSuffix Tryz.lays100 s p w hs
def Tryz.lays212_ren:Go.Shelf.Ren:=⟨fun|212=>243|263=>262|264=>263|n=>n,fun|46=>235|51=>245|146=>246|53=>248|148=>249|n=>n,fun|n=>n⟩
theorem Tryz.lays212:Go.Proofs.Lays.n212 prog Tryz.lays212_ren:=⟨(by kernel_rfl),func243.trans (congrArg some (by kernel_rfl)),func262.trans (congrArg some (by kernel_rfl)),func263.trans (congrArg some (by kernel_rfl)),underlying235,isAgg235,sizeOf235,zeroValue235,underlying245,isAgg245,sizeOf245,zeroValue245,underlying248,isAgg248,sizeOf248,zeroValue248,underlying246,isAgg246,sizeOf246,zeroValue246,underlying249,isAgg249,sizeOf249,zeroValue249⟩
open Go.RowKit Go.Lib in
/-- math/bits.Mul: "Mul returns the full-width product of x and y": on a machine of 64 bits: Mul64's. (LAID: no walk: one application.) -/
theorem Tryz.bits_Mul (x y:Nat) (hx:x < 18446744073709551616) (hy:y < 18446744073709551616) (w:World):
    Calls prog 243 #[.int .u64 x,.int .u64 y] w fun e w'=>e=.returned (.tuple #[.int .u64 ((x * y / 18446744073709551616:Nat):Int),.int .u64 ((x * y % 18446744073709551616:Nat):Int)])/\w'=w:=Any.bits_Mul Tryz.lays212 x y hx hy w
def Tryz.lays107_ren:Go.Shelf.Ren:=⟨fun|107=>170|108=>211|n=>n,fun|28=>83|3=>3|4=>4|0=>0|n=>n,fun|n=>n⟩
theorem Tryz.lays107:Go.Proofs.Lays.n107 prog Tryz.lays107_ren:=⟨(by kernel_rfl),func170.trans (congrArg some (by kernel_rfl)),func211.trans (congrArg some (by kernel_rfl)),underlying0,isAgg0,sizeOf0,zeroValue0,underlying3,isAgg3,sizeOf3,zeroValue3,underlying4,isAgg4,sizeOf4,zeroValue4,underlying83,isAgg83,sizeOf83,zeroValue83⟩
open Go.Lib in
/-- slices.Contains at []int: "Contains reports whether v is present in s.": IT RETURNS 'elements.contains v'; the world is as it was. ITS CALLEE slices.Index IS MET BY ITS OWN CONTRACT OFF THE SHELF (lay that first): no loop is walked here. (LAID: no walk: one application.) -/
theorem Tryz.slices_Contains_int (b off n c:Nat) (d:LI) (x:Int) (w:World) (hz:n<=d.length) (a:n<=9223372036854775807) (hc:∀j,j < d.length->w.cell? ⟨b,off+j,none⟩=some (.int .i64 (d.getD j 0))):
    Calls prog 170 #[.slice (some ⟨b,off,none⟩) n c,.int .i64 x] w fun e w'=>e=.returned (.bool ((d.take n).contains x))/\w'=w:=Any.slices_Contains_int Tryz.lays107 b off n c d x w hz a hc
def Tryz.laysNm215_ren:Go.Shelf.Ren:=⟨fun|15=>288|n=>n,fun|22=>83|3=>3|4=>4|n=>n,fun|n=>n⟩
theorem Tryz.laysNm215:Go.Proofs.Lays2.n15 prog Tryz.laysNm215_ren:=⟨(by kernel_rfl),func288.trans (congrArg some (by kernel_rfl)),underlying3,isAgg3,sizeOf3,zeroValue3,underlying4,isAgg4,sizeOf4,zeroValue4,underlying83,isAgg83,sizeOf83,zeroValue83,(by kernel_rfl)⟩
open Go.RowKit Go.Lib in
/-- slices.Clone at []int: "Clone returns a copy of the slice. The elements are copied using assignment, so this is a shallow clone. The result may have additional unused capacity. The result preserves the nilness of s.": OF A SLICE THAT IS NOT nil IT RETURNS A SLICE THAT IS NOT nil, OF THE SAME ELEMENTS, IN MEMORY OF THE CALL's OWN: in the how-to's words (6f): 'w'.ownsRow B e 1 v' n cells': v' begins at the head of a row among the blocks from B on (B: the heap's size at the call), not frozen, whose first cells are the elements · 'Below B w w'': below B all is as it was. The capacity is whatever the run-time gives. 'zs': what the cells behind the slice's address hold; 'zs.take n': its elements. (LAID: no walk: one application.) -/
theorem Tryz.slices_Clone_int (b off n c:Nat) (d:LI) (w:World) (hz:n<=d.length) (a:n * 8<=140737488355328) (hc:∀j,j < d.length->w.cell? ⟨b,off+j,none⟩=some (.int .i64 (d.getD j 0))):
    Calls prog 288 #[.slice (some ⟨b,off,none⟩) n c] w fun e w'=>∃v',e=.returned v'/\w'.ownsRow w.heap.size 3 1 v' n ((d.take n).map (Value.int .i64))/\v'≠.slice none 0 0/\Below w.heap.size w w':=Any.slices_Clone_int Tryz.laysNm215 b off n c d w hz a hc
open Go.RowKit Go.Lib in
/-- The same at nil: nil comes back; the world is as it was. (LAID: no walk: one application.) -/
theorem Tryz.slices_Clone_int_nil (n c:Nat) (w:World):
    Calls prog 288 #[.slice none n c] w fun e w'=>e=.returned (.slice none 0 0)/\w'=w:=Any.slices_Clone_int_nil Tryz.laysNm215 n c w
open Go.RowKit Go.Lib in
/-- The same at a slice of length 0 that is not nil, WHATEVER ITS ADDRESS (no cell is asked for): a slice that is not nil and owns nothing comes back. (LAID: no walk: one application.) -/
theorem Tryz.slices_Clone_int_zero (a:Addr) (c:Nat) (w:World):
    Calls prog 288 #[.slice (some a) 0 c] w fun e w'=>∃v',e=.returned v'/\w'.ownsRow w.heap.size 3 1 v' 0 []/\v'≠.slice none 0 0/\Below w.heap.size w w':=Any.slices_Clone_int_zero Tryz.laysNm215 a c w
end Go.Proofs
namespace Go.Proofs.YtbiijipkgfpgoaaGreatDoor
open Go.RowKit
def inB (n a b:Int):Bool:=decide (a<=n/\n<=b)
theorem ju_ {n a b:Int} (h:a<=n) (h':n<=b):inB n a b=true:=decide_eq_true ⟨h,h'⟩
theorem Qc8_ {n a b:Int} (h:¬a<=n):inB n a b=false:=decide_eq_false (fun g=>h g.1)
theorem vO_ {n a b:Int} (h:¬n<=b):inB n a b=false:=decide_eq_false (fun g=>h g.2)
theorem KH_ (a b c:Int) (w:World):Calls prog 34 #[.int .i64 a,.int .i64 b,.int .i64 c] w fun e w'=>e=.returned (.bool (inB a b c))/\w=w':=by
 by_cases h0:b<=a
 ·by_cases h1:a<=c
  ·rw[ju_ h0 h1];go_enter func34,ntmps34;go_wp2;go_ret;exact⟨rfl,rfl⟩
  ·rw[vO_ h1];go_enter func34,ntmps34;go_wp2;go_ret;exact⟨rfl,rfl⟩
 ·rw[Qc8_ h0];go_enter func34,ntmps34;go_wp2;go_ret;exact⟨rfl,rfl⟩
theorem QL_ (a b c:Int) (w:World):Calls prog 62 #[.int .i64 a,.int .i64 b,.int .i64 c] w fun e w'=>e=.returned (.bool (inB a b c))/\w=w':=by
 by_cases h0:b<=a
 ·by_cases h1:a<=c
  ·rw[ju_ h0 h1];go_enter func62,ntmps62;go_wp2;go_ret;exact⟨rfl,rfl⟩
  ·rw[vO_ h1];go_enter func62,ntmps62;go_wp2;go_ret;exact⟨rfl,rfl⟩
 ·rw[Qc8_ h0];go_enter func62,ntmps62;go_wp2;go_ret;exact⟨rfl,rfl⟩
def qL_ (a b:Int):Bool:=inB a 10 200&&inB b 0 100000
theorem Gq_ (a b:Int) (w:World):Calls prog 57 #[.int .i64 a,.int .i64 b] w fun e w'=>e=.returned (.bool (qL_ a b))/\w=w':=by
 unfold qL_
 cases h1:inB a 10 200 with
 |true=>
  go_enter func57,ntmps57;go_wp2_with (go_at_call 62;refine(QL_ _ _ _ _).mono ?_;rintro e w1 ⟨rfl,rfl⟩)
  go_ret;exact⟨rfl,rfl⟩
 |false=>
  go_enter func57,ntmps57;go_wp2_with (go_at_call 62;refine(QL_ _ _ _ _).mono ?_;rintro e w1 ⟨rfl,rfl⟩)
  go_ret;exact⟨rfl,rfl⟩
theorem qy_:(prog.info? 9).map (fun i=>(i.zero,i.size,i.bytes))=some (some (.string ⟨#[]⟩),1,16):=by kernel_rfl
theorem km_ (w:World) (u:Value) (t:TypeId):∀j v,[u][j]? =some v->(w.alloc (.cells #[u] t)).cell? ((⟨w.heap.size,0,none⟩:Addr).add j)=some v:=by
 intro j v a
 match j,a with
 |0,a=>
  obtain rfl:=Option.some.inj a;exact(Blk.new w t #[u]).cell 0
 |j+1,a=>simp at a
theorem Qjf_ {w:World} {B:Nat} {e:TypeId} {s:Nat} {v:Value} {n n':Nat} {xs xs':List Value} (h:w.ownsRow B e s v n xs) (h1:n=n') (h2:xs=xs'):w.ownsRow B e s v n' xs':=by subst h1;subst h2;exact h
theorem QjS_ {w w':World} {B:Nat} {e:TypeId} {s:Nat} {v:Value} {n:Nat} {xs:List Value} (h:w.ownsRow B e s v n xs) (hb:Below w.heap.size w w'):w'.ownsRow B e s v n xs:=by
 obtain⟨A,c,rfl,hm⟩:=Mine.of h;exact hm.next hb
def QgE_ (w:World) (a:List BA) (e:Ending) (w':World):Prop:=
 ∃(A:OA) (c:Nat),e=.returned (.slice A a.length c)/\Mine w' w.heap.size 9 1 A a.length c (Qm_ a)/\Below w.heap.size w w'
theorem GJ_ {P:Program} {j:Array Oper} {o:Oper} {a:Act} {w:World} {K:Act→World→Prop} {Q:Exit→Act→World→Prop} {E:Prop} (m:o.guard=none) (f:FuncId) {k:Func} (hf:P.funcs[f]? =some k) (g:(k.name== "runtime.NumGoroutine")=false) (hb:k.body.isSome=true) (xs:Array Operand) (ts:Array TypeId)
  (ho:o.op=.call { callee:=.value (.func f),args:=xs,argTypes:=ts }) (b:Array Value) (d:xs.map a.eval=b) {R:Ending→World→Prop} (hc:Calls P f b w R)
  (h:∀e w',R e w'→∃v,e=.returned v∧K (a.put o.dst v) w'):
  if Region.wanted o (yielded j a.tmps)=true then Oper.wp P o a w K Q else E:=by
 have hw:Region.wanted o (yielded j a.tmps)=true:=by simp[Region.wanted,m]
 rw[if_pos hw]
 have i:(execOp a.eval o).run P w=.ok (.enter f b) w:=by
  obtain⟨c,l⟩:=Option.isSome_iff_exists.1 hb
  have h1:k.name≠ "runtime.NumGoroutine" :=by simpa using g
  have h2:(callFunc f b).run P w=.ok (.enter f b) w:=by simp[callFunc,hf,h1,l]
  have h3:execOp a.eval o=callFunc f b:=by
   cases o
   simp only at ho
   subst ho
   rw[execOp_call_go,d]
   simp
  rw[h3,h2]
 unfold Oper.wp
 rw[i,Oper.upon_enter]
 exact hc.mono fun e w' hR=>by
  obtain⟨v,rfl,hk⟩:=h e w' hR
  exact hk
section
variable {P:Program} (w:World)
theorem GO_ (base:Nat) (t ty e:TypeId) (i:TypeInfo) (z:Value) (size l:Nat) (r:P.underlying t=some (.slice e)) (hi:P.info? e=some i) (hz:i.zero=some z)
  (q:i.size=size) (y:i.bytes=l) (C:0 < size)
  (v:Value) (n:Nat) (xs:List Value) (o:w.ownsRow base e size v n xs)
  (a:Addr) (m c:Nat) (d:List Value) (hl:d.length=m * size) (f:∀j u,d[j]? =some u->w.cell? (a.add j)=some u) (h1:∀u∈d,u.oneCell'=true)
  (x:n+m<=maxLen) (k:(n+m) * l<=140737488355328) {v':Value} {w':World}
  (p:(Builtin.append_ #[t,t] ty #[v,.slice (some a) m c]).run P w=.ok v' w'):v'.ownBlock=v.ownBlock\/v'.ownBlock=some w.heap.size:=by
 subst q;subst y;have B:n+m<=9223372036854775807:=by simp only[maxLen]at x;omega
 rcases o.2 with⟨rfl,rfl⟩|⟨g,cap,s,rfl,_,hg,_,_,A,_⟩
 ·rcases Nat.eq_zero_or_pos m with rfl|hm
  ·obtain rfl:d=[]:=List.eq_nil_of_length_eq_zero (by simpa using hl);have h:(Builtin.append_ #[t,t] ty #[.slice none 0 0,.slice (some a) 0 c]).run P w=.ok (.slice none 0 0) w:=by
    simp[Builtin.append_,run_underlying r,sizeOf,typeInfo,hi,Builtin.lenOf,Builtin.firstCells,loadCells,loadCellsFrom]
   rw[h]at p;injection p with h2 _;exact .inl (by rw[<-h2])
  ·rw[run_append_nil (P:=P) w t ty e i z r hi hz a m c d hl f hm oo (by rw[Nat.zero_add]at k;omega)]at p;injection p with h2 _;exact .inr (by rw[<-h2];rfl)
 ·rcases Nat.lt_or_ge cap (n+m)with b|b
  ·rw[run_append_grow (P:=P) w t ty e i z r hi hz ⟨g,0,none⟩ n cap xs o.1 (o.cells (g:=g) rfl) a m c d hl f b oo (growslice_fits b k)]at p;injection p with h2 _;exact .inr (by rw[<-h2];rfl)
  ·rw[run_append_room (P:=P) w t ty e i r hi g n cap s hg a m c d hl f h1 b (by rw[hl,A,<-Nat.add_mul];exact Nat.mul_le_mul_right _ b)]at p;injection p with h2 _;exact .inl (by rw[<-h2];rfl)
theorem Qi_ {A:Array Oper} {rest:List Oper} {o:Oper} {a:Act} {Q:Exit->Act->World->Prop} (C:o.guard=none) (s x:Operand) (t:TypeId)
  (ho:o.op=.call { callee:=.builtin .append,args:=#[s,x],argTypes:=#[t,t] })
  (base:Nat) (e:TypeId) (i:TypeInfo) (z:Value) (size d:Nat) (ht:P.underlying t=some (.slice e)) (hi:P.info? e=some i) (hz:i.zero=some z)
  (k:i.size=size) (r:i.bytes=d) (D:z.cells.size=size) (y:0 < size)
  (v:Value) (n:Nat) (xs:List Value) (hs:a.eval s=v) (l:w.ownsRow base e size v n xs)
  (B:Addr) (m c:Nat) (b:List Value) (hx:a.eval x=.slice (some B) m c) (hl:b.length=m * size) (g:∀j u,b[j]? =some u->w.cell? (B.add j)=some u) (h1:∀u∈b,u.oneCell'=true)
  (q:n+m<=maxLen) (f:(n+m) * d<=140737488355328) (p:base<=w.heap.size)
  (h:∀v' w',w'.ownsRow base e size v' (n+m) (xs++b)->w.grownBy w' v.ownBlock->(v'.ownBlock=v.ownBlock\/v'.ownBlock=some w.heap.size)->wpList P A Q rest (a.put o.dst v') w'):wpList P A Q (o::rest) a w:=by
 obtain⟨v',w',hr,h2,h3,_⟩:=run_append_own (P:=P) w base t o.type e i z size d ht hi hz k r D y v n xs l B m c b hl g h1 q f p;have h4:=GO_ (P:=P) w base t o.type e i z size d ht hi hz k r y v n xs l B m c b hl g h1 q f hr;refine wpList_plain C fun K hK=>?_
 unfold Oper.wp;simp[execOp,ho,resolve,invoke,builtin,hs,hx,hr,Result.andThen];exact hK _ _ (h v' w' h2 h3 h4)
end
theorem Qw_ {w:World} {A:OA} {n c:Nat} {B:Nat} {e:TypeId} {sz:Nat} {xs:List Value} (h:Mine w B e sz A n c xs) {g:Nat} (a:A.map (·.block)=some g):∃cs,Blk w g e cs:=by
 rcases h.own with⟨rfl,_⟩|⟨g',rfl,_,_,_,rest,hb,_⟩
 ·simp at a
 ·simp at a;subst a;exact⟨_,hb⟩
theorem Kj_ {w:World} {g g':Nat} {t t':TypeId} {cs a:Array Value} (h:Blk w g t cs) (h':Blk w g' t' a) (ht:t≠t'):g≠g':=by
 rintro rfl;unfold Blk at h h';rw[h]at h';injection h' with h';injection h' with _ h2;exact ht h2
theorem Qt_ {w:World} {B:Nat} {t:TypeId} {s:Nat} {A:OA} {n c:Nat} {xs:List Value} {g:Nat} {t':TypeId} {cs:Array Value} (hm:Mine w B t s A n c xs) (hb:Blk w g t' cs) (ht:t≠t') (i:Nat) (u:Value):Mine (w.setCell ⟨g,i,none⟩ u) B t s A n c xs:=by
 have hl:=hm.len;rcases hm.own with⟨rfl,rfl,rfl⟩|⟨g',rfl,hB,hn,hc,rest,a,hs⟩
 ·exact⟨hl,.inl ⟨rfl,rfl⟩⟩
 ·exact Mine.mk_own ⟨rest,a.far (Kj_ a hb ht) u,hs⟩ hl hB hn hc
theorem Q9_ {w w':World} {row:ON} (h:w.drew.grownBy w' row):w.grownBy w' row:=⟨h.os,h.tape,h.output,h.size,h.block⟩
theorem Qgl_:(prog.info? 96).map (fun i=>(i.zero,i.size,i.bytes))=some (some (.agg #[.int .i64 0,.string ⟨#[]⟩,.slice none 0 0,.bool false]),4,56):=by kernel_rfl
theorem Qgp_ (w:World) (x:Nd) (t:TypeId):∀j v,(Qv_ x)[j]? =some v->(w.alloc (.cells #[.int .i64 x.kind,.string x.text,.slice x.adr x.cnt x.cap,.bool x.blank] t)).cell? ((⟨w.heap.size,0,none⟩:Addr).add j)=some v:=by
 intro j v a;have b:=Blk.new w t #[.int .i64 x.kind,.string x.text,.slice x.adr x.cnt x.cap,.bool x.blank]
 match j,a with
 |0,a=>obtain rfl:=Option.some.inj a;exact b.cell 0
 |1,a=>obtain rfl:=Option.some.inj a;exact b.cell 1
 |2,a=>obtain rfl:=Option.some.inj a;exact b.cell 2
 |3,a=>obtain rfl:=Option.some.inj a;exact b.cell 3
 |j+4,a=>simp[Qv_]at a
theorem Qgq_ (x:Nd):∀u∈Qv_ x,u.oneCell'=true:=by
 intro u hu;simp[Qv_]at hu;rcases hu with rfl|rfl|rfl|rfl<;>rfl
theorem K8_ (w:World) (x:Int) (t:TypeId):∀j v,[Value.int .i64 x][j]? =some v->(w.alloc (.cells #[.int .i64 x] t)).cell? ((⟨w.heap.size,0,none⟩:Addr).add j)=some v:=by
 intro j v a;have hb:=Blk.new w t #[.int .i64 x]
 match j,a with
 |0,a=>obtain rfl:=Option.some.inj a;exact hb.cell 0
 |j+1,a=>simp at a
theorem K9_ (x:Int):∀u∈[Value.int .i64 x],u.oneCell'=true:=by
 intro u hu;simp at hu;subst hu;rfl
theorem Ke_ (l:LI) (x:Int):Qa_ (l++[x])=Qa_ l++[.int .i64 x]:=by simp[Qa_]
def KidsIn (w:World) (B:Nat) (U:Nat->Prop) (d:Nd):Prop:=(d.cnt<=d.cap/\∀g,d.adr.map (·.block)=some g->¬U g)/\Mine w B 3 1 d.adr d.cnt d.cap (Qa_ d.kids)
theorem KidsIn.next {w w':World} {B:Nat} {U:Nat->Prop} {x:Nd} (h:KidsIn w B U x) (hb:Below w.heap.size w w'):KidsIn w' B U x:=⟨h.1,h.2.next hb⟩
def mkGo:Nat->Nat->BA->BA
 |0,_,out=>out
 |f+1,k,out=>if k=0 then out else mkGo f (k / 10) ((⟨#[48+UInt8.ofNat (k % 10)]⟩:BA)++out)
def mkT (k:Int):BA:=(⟨#[109]⟩:BA)++mkGo k.toNat k.toNat ⟨#[]⟩
def MkAt (k f q:Nat) (a:BA):Prop:=mkGo k k ⟨#[]⟩=mkGo f q a/\q<=f/\a.size+f<=k
theorem QkK_ {k f q:Nat} {a:BA} (h:MkAt k f q a) (hq:0 < q):MkAt k (f - 1) (q / 10) ((⟨#[48+UInt8.ofNat (q % 10)]⟩:BA)++a):=by
 obtain⟨h1,h2,h3⟩:=h;obtain⟨f,rfl⟩:∃g,f=g+1:=⟨f - 1,oo⟩;refine⟨?_,oo,?_⟩
 ·rw[h1,mkGo,if_neg oo];rfl
 ·rw[ByteArray.size_append,show(⟨#[48+UInt8.ofNat (q % 10)]⟩:BA).size=1 from rfl];omega
theorem QkX_ {k f q:Nat} {a:BA} (h:MkAt k f q a) (hq:q=0):mkGo k k ⟨#[]⟩=a:=by
 obtain⟨h1,h2,h3⟩:=h;subst hq;rw[h1]
 cases f with
 |zero=>rfl
 |succ f=>rw[mkGo,if_pos rfl]
theorem QkS_ (W:World) (q:Nat):(convert 76 9 (.slice (some ⟨W.heap.size,0,none⟩) 1 1)).run prog (W.alloc (.cells #[.int .u8 (48+(q:Int) % 10)] 5))=.ok (.string ⟨#[48+UInt8.ofNat (q % 10)]⟩) (W.alloc (.cells #[.int .u8 (48+(q:Int) % 10)] 5)):=by
 have h:=run_convert_bytes_back (P:=prog) (W.alloc (.cells #[.int .u8 (48+(q:Int) % 10)] 5)) 76 9 5 ⟨W.heap.size,0,none⟩ 1 [48+UInt8.ofNat (q % 10)] underlying76 underlying5 underlying9 (fun j hj=>by
  simp at hj;subst hj;have h2:=(Blk.new W 5 #[.int .u8 (48+(q:Int) % 10)]).cell 0;rw[show(⟨W.heap.size,0,none⟩:Addr).add 0=⟨W.heap.size,0,none⟩from rfl,h2];simp;omega)
 simpa using h
theorem Qj1_ (k:Nat) (w:World) (h0:1<=k) (h1:k<=1099511627776):
  Calls prog 32 #[.int .i64 (k:Int)] w fun e w'=>e=.returned (.string (mkT k))/\Below w.heap.size w w':=by
 have i:¬(k:Int)<=0:=oo;have HC:=hid (show mkT k=(⟨#[109]⟩:BA)++mkGo k k ⟨#[]⟩from rfl);go_enter func32,ntmps32;go_wp2;go_loopw [0,3] (fun a o wr=>∃(f q:Nat) (b:BA),q<=k/\MkAt k f q b/\a=.int .i64 q/\o=.string b/\Below w.heap.size w wr) (fun a _ _=>(intOf a).toNat)
 case atStart=>exact⟨k,k,⟨#[]⟩,Nat.le_refl _,⟨rfl,Nat.le_refl _,by simp[ByteArray.size]⟩,rfl,rfl,br⟩
 case round=>
  obtain⟨f,q,b,m,c,rfl,rfl,hb⟩:=hrel;have g:b.size<=1099511627776:=by have:=c.2.2;omega
  by_cases hq:0 < q
  ·have d:=QkK_ c hq;have hz:=hb.size;have j:(0:Int)<=(q:Int) % 10:=oo;have l:(q:Int) % 10<=9:=oo;have h:=fun W=>QkS_ W q
   go_wp2;go_roundw
   case rel=>exact⟨f - 1,q / 10,_,oo,d,by go_num,rfl,grow_⟩
   case measure=>simp[intOf];omega
  ·have d:=hid (QkX_ c oo);go_wp2;go_ret;exact⟨Xn_ (by rw[HC.o,d.o]),hb⟩
theorem Qe2_ (k:Int) (w:World) (h0:1<=k) (h1:k<=1099511627776):
  Calls prog 32 #[.int .i64 k] w fun e w'=>e=.returned (.string (mkT k))/\Below w.heap.size w w':=by
 obtain⟨n,rfl⟩:=Int.eq_ofNat_of_zero_le (show 0<=k from oo);exact Qj1_ n w oo oo
def Qjg_ (xs:List Value) (i:Nat):List Value->List Value
 |[]=>xs
 |v::r=>Qjg_ (xs.set i v) (i+1) r
theorem Qkx_ (r:List Value):∀(xs:List Value) (i:Nat),(Qjg_ xs i r).length=xs.length:=by
 induction r with
 |nil=>intro xs i;rfl
 |cons v r ih=>intro xs i;rw[Qjg_,ih,List.length_set]
theorem Qji_ (r:List Value):∀(xs:List Value) (i x:Nat),i+r.length<=xs.length->(Qjg_ xs i r)[x]? =if i<=x/\x < i+r.length then r[x - i]? else xs[x]? :=by
 induction r with
 |nil=>intro xs i x h;rw[Qjg_,if_neg (by simp)]
 |cons v r ih=>
  intro xs i x h;simp only[List.length_cons]at h;rw[Qjg_,ih _ _ _ (by rw[List.length_set];omega)];by_cases h1:i+1<=x/\x < i+1+r.length
  ·rw[if_pos h1,if_pos ⟨oo,by simp only[List.length_cons];omega⟩,show x - i=(x - (i+1))+1 from oo,List.getElem?_cons_succ]
  ·rw[if_neg h1,List.getElem?_set];by_cases h2:i=x
   ·subst h2;rw[if_pos rfl,if_pos oo,if_pos ⟨oo,by simp only[List.length_cons];omega⟩];simp
   ·rw[if_neg h2,if_neg];intro h3;simp only[List.length_cons]at h3;omega
def Qi2_ (xs M:List Value) (size j:Nat):Prop:=xs.length=M.length/\∀x,x < j * size->xs[x]? =M[x]?
theorem Qjx_ {xs M:List Value} {size:Nat} (h:xs.length=M.length):Qi2_ xs M size 0:=⟨h,fun x hx=>absurd hx oo⟩
theorem Qjv_ {xs M row:List Value} {size j:Nat} (h:Qi2_ xs M size j) (hr:row.length=size) (hl:(j+1) * size<=M.length) (hM:∀y,y < size->M[j * size+y]? =row[y]?):
  Qi2_ (Qjg_ xs (j * size) row) M size (j+1):=by
 obtain⟨h1,h2⟩:=h;have e:(j+1) * size=j * size+size:=by rw[Nat.add_mul];omega
 refine⟨by rw[Qkx_,h1],fun x hx=>?_⟩;rw[Qji_ _ _ _ _ oo];by_cases h3:j * size<=x/\x < j * size+row.length
 ·rw[if_pos h3];have h4:=hM (x - j * size) oo;rw[show j * size+(x - j * size)=x from oo]at h4;exact h4.symm
 ·rw[if_neg h3];exact h2 x oo
theorem QjH_ {xs M:List Value} {size n:Nat} (h:Qi2_ xs M size n) (hl:M.length=n * size):xs=M:=by
 obtain⟨h1,h2⟩:=h;apply List.ext_getElem?;intro x;by_cases hx:x < n * size
 ·exact h2 x hx
 ·rw[List.getElem?_eq_none oo,List.getElem?_eq_none oo]
def QdH_ (row:Int->List Value) (size:Nat) (k:Int) (n:Nat):List Value:=(List.range n).flatMap (fun i=>row (k+(size * i:Nat)))
theorem QeV_ {row:Int->List Value} {size:Nat} (h:∀k,(row k).length=size) (k:Int) (n:Nat):(QdH_ row size k n).length=n * size:=by
 unfold QdH_;rw[Xs_ _ (fun _=>h _),List.length_range]
theorem Qjy_ {row:Int->List Value} {size:Nat} (h:∀k,(row k).length=size) (k:Int) (n j:Nat) (hj:j < n):∀y,y < size->(QdH_ row size k n)[j * size+y]? =(row (k+(size * j:Nat)))[y]? :=by
 intro y hy;unfold QdH_;have h1:(row (k+(size * j:Nat)))[y]? =some ((row (k+(size * j:Nat)))[y]'(by rw[h];exact hy)):=List.getElem?_eq_getElem _;rw[h1];exact Kw_ (fun i:Nat=>row (k+(size * i:Nat))) (fun _=>h _) (l:=List.range n) (i:=j) (d:=j) (by simp[hj]) h1
theorem Qhz_ {row:Int->List Value} {size:Nat} (h:∀k,(row k).length=size) {k q:Int} {n j:Nat} (hj:j < n) (hq:q=k+(size * j:Nat)) {y:Nat} {v:Value} (hv:(row q)[y]? =some v):(QdH_ row size k n)[j * size+y]? =some v:=by
 subst hq;have hy:y < size:=by have:=(List.getElem?_eq_some_iff.1 hv).1;rw[h]at this;exact this
 rw[Qjy_ h k n j hj y hy,hv]
theorem grow_set {a w:World} {g:Nat} (h:a.grownBy w (some g)) (o:Nat) (u:Value):a.grownBy (w.setCell ⟨g,o,none⟩ u) (some g):=
 ⟨h.os,h.tape,h.output,by simpa[World.setCell]using h.size,fun i hi b=>(Below.heap_setCell w ⟨g,o,none⟩ u i (fun e=>b (by rw[e]))).trans (h.block i hi b)⟩
theorem grow_below {a w w2:World} {row:ON} (h:a.grownBy w row) (b:Below w.heap.size w w2):a.grownBy w2 row:=
 ⟨b.os.trans h.os,b.tape.trans h.tape,b.output.trans h.output,Nat.le_trans h.size b.size,fun i hi c=>(b.block i (Nat.lt_of_lt_of_le hi h.size)).trans (h.block i hi c)⟩
section
variable {w w':World} {g:Nat} {t:TypeId} {cap:Nat} {xs:List Value}
theorem Own.fits (h:Own w g t cap xs):xs.length<=cap:=by obtain⟨rest,hb,hs⟩:=h;rw[lA]at hs;omega
theorem Own.set (h:Own w g t cap xs) {i:Nat} (hi:i < xs.length) (u:Value):Own (w.setCell ⟨g,i,none⟩ u) g t cap (xs.set i u):=by
 obtain⟨rest,hb,hs⟩:=h;refine⟨rest,?_,by simpa using hs⟩;have h2:=hb.set_ i u;have e:((xs++rest).toArray).setIfInBounds i u=((xs.set i u)++rest).toArray:=by
  simp[List.set_append_left _ _ hi]
 rwa[e]at h2
end
end Go.Proofs.YtbiijipkgfpgoaaGreatDoor
namespace Go.Proofs.YtbiijipkgfpgoaaGreatDoor
open Go.RowKit
theorem Qip_:(prog.info? 5).map (fun i=>(i.zero,i.size,i.bytes))=some (some (.int .u8 0),1,1):=by kernel_rfl
theorem YO_:(prog.info? 122).map (·.size)=some 2:=by kernel_rfl
theorem Jm_:liesAt prog prog.depth 122 (2 / prog.cellsOf 122) 0 122 1=true:=by kernel_rfl
def Bld (w:World) (B b:Nat) (l:List UInt8):Prop:=Lib.IsBuilder 122 5 B b (Lib.byteCells l) w
theorem Bld.fresh (w:World) {B:Nat} (hB:B<=w.heap.size):Bld (w.alloc (.cells #[.pointer none,.slice none 0 0] 122)) B w.heap.size []:=
 .inl ⟨hB,.slice none 0 0,heap_alloc_new w _,World.ownsRow_nil _ _ _ _,by simp[Value.ownBlock]⟩
theorem WY_ (b:Nat) (w:World) (h0:w.cell? ⟨b,0,none⟩=some (.pointer (some ⟨b,0,none⟩))):
  Calls prog 105 #[.pointer (some ⟨b,0,none⟩)] w fun e w'=>e=.returned (.tuple #[])/\w'=w:=by
 obtain⟨j,hj,_⟩:=Option.map_eq_some_iff.1 YO_;go_enter func105,ntmps105;go_wp2;rw[Lib.run_neq_ptr_same w _ underlying120 hj];go_wp2;go_end0;exact⟨rfl,rfl⟩
theorem UP_ (b:Nat) (w:World) (h0:w.cell? ⟨b,0,none⟩=some (.pointer none)) (a:w.shape? b=some (122,2)) (d:w.frozen? ⟨b,0,none⟩=false):
  Calls prog 105 #[.pointer (some ⟨b,0,none⟩)] w fun e w'=>e=.returned (.tuple #[])/\w'=w.setCell ⟨b,0,none⟩ (.pointer (some ⟨b,0,none⟩)):=by
 obtain⟨j,hj,c⟩:=Option.map_eq_some_iff.1 YO_;go_enter func105,ntmps105;go_wp2;rw[Lib.run_to_unsafe w ⟨b,0,none⟩ underlying120 underlying164 hj (by rw[c];decide) a (Nat.zero_lt_succ 1)];simp only[Result.andThen];rw[Oper.upon_value];go_wp2;rw[run_callFunc_extern func127 (by kernel_rfl) (by kernel_rfl) (by kernel_rfl) (e:=Extern.AbiNoEscape.same) (by kernel_rfl)];rw[Lib.run_noEscape];simp only[Result.andThen];rw[Oper.upon_value];go_wp2;rw[Lib.run_from_unsafe w ⟨b,0,none⟩ underlying164 underlying120 hj a Jm_];simp only[Result.andThen];rw[Oper.upon_value];go_wp2;go_end0;exact⟨rfl,rfl⟩
theorem JE_ (B b:Nat) (bs:List Value) (w:World) (h:Lib.IsBuilder 122 5 B b bs w):
  Calls prog 105 #[.pointer (some ⟨b,0,none⟩)] w fun e w'=>e=.returned (.tuple #[])/\(Lib.BuilderAt 122 5 B b (.pointer (some ⟨b,0,none⟩)) bs w'/\Below B w w'/\Lib.OthersKept 5 (some b) w w'):=by
 rcases h with h|h
 ·refine(UP_ b w h.cell0 h.shape h.frozen0).mono ?_;rintro e w' ⟨rfl,rfl⟩;exact⟨rfl,h.used _,(Below.refl B w).setCell (p:=⟨b,0,none⟩) h.1 _,(Lib.OthersKept.refl _ _ w).setCell ⟨b,0,none⟩ rfl _⟩
 ·refine(WY_ b w h.cell0).mono ?_;rintro e w' ⟨rfl,rfl⟩;exact⟨rfl,h,Below.refl B _,Lib.OthersKept.refl _ _ _⟩
theorem q8_ (B b:Nat) (n:List Value) (c:Int) (w:World) (h:Lib.IsBuilder 122 5 B b n w) (z:n.length+1<=140737488355328) (C:B<=w.heap.size):
  Calls prog 83 #[.pointer (some ⟨b,0,none⟩),.int .u8 c] w fun e w'=>e=.returned .nilIface/\(Lib.IsBuilder 122 5 B b (n++[.int .u8 c]) w'/\Below B w w'/\Lib.OthersKept 5 (some b) w w'):=by
 obtain⟨i0,hi,t,x,y⟩:=info_parts Qip_;go_enter func83,ntmps83;go_wp2_with fail
 refine(JE_ B b n _ h).mono ?_;rintro e w1 ⟨rfl,h1,i,q⟩;obtain⟨hB,v,m,d,s⟩:=h1;have c0:w1.cell? ⟨b,0,none⟩=some (.pointer (some ⟨b,0,none⟩)):=by rw[Lib.cell_of_heap m];rfl
 have c1:w1.cell? ⟨b,1,none⟩=some v:=by rw[Lib.cell_of_heap m];rfl
 go_wp2_with (at_builtin;refine wpList_append_own _ rfl _ _ 76 rfl B 5 i0 (.int .u8 0) 1 1 underlying76 hi t x y rfl (by decide) _ _ _ rfl (d.alloc _) ⟨w1.heap.size,0,none⟩ 1 1 [.int .u8 c] rfl rfl ?c1 ?c2 ?c3 ?c4 ?c5 ?_)
 case c1=>
  intro j u o
  match j,o with
  |0,o=>simp at o;subst o;simp[Addr.add]
 case c2=>intro u hu;simp at hu;subst hu;rfl
 case c3=>unfold maxLen;omega
 case c4=>omega
 case c5=>have:=i.size;simp;omega
 intro v' w2 f a _;have r:b < w1.heap.size:=by
  rcases Nat.lt_or_ge b w1.heap.size with h'|h'
  ·exact h'
  ·simp[Array.getElem?_eq_none h']at m
 have l:w2.heap[b]? =some (.cells #[.pointer (some ⟨b,0,none⟩),v] 122 (0,0)):=by
  rw[a.block b (by simp;omega) (fun e=>s e.symm),Lib.alloc_old w1 _ b r];exact m
 have d0:w2.cell? ⟨b,0,none⟩=some (.pointer (some ⟨b,0,none⟩)):=by rw[Lib.cell_of_heap l];rfl
 have d1:w2.cell? ⟨b,1,none⟩=some v:=by rw[Lib.cell_of_heap l];rfl
 have f1:w2.frozen? ⟨b,1,none⟩=false:=Lib.frozen_of_heap l 1;obtain⟨g,cap,rfl⟩:∃g cap,v'=.slice (some ⟨g,0,none⟩) (n.length+1) cap:=by
  rcases f.2 with⟨_,h0⟩|⟨g,cap,A,hv,_⟩
  ·omega
  ·exact⟨g,cap,hv⟩
 go_wp2;go_ret;refine⟨rfl,.inr ?_,?_,?_⟩
 ·exact Lib.BuilderAt.put (T:=122) (e:=5) hB l (bs':=n++[.int .u8 c]) (by simpa using f) (by decide)
 ·exact((i.alloc (by have:=i.size;omega) _).grown a (by have:=i.size;simp;omega) (fun k hk=>(d.lt k hk).1)).setCell (p:=⟨b,1,none⟩) hB _
 ·exact((q.alloc _).grown a (Lib.ownsRow_kind (d.alloc _))).setCell ⟨b,1,none⟩ rfl _
theorem WV_ (B b:Nat) (l:List Value) (s:BA) (w:World) (h:Lib.IsBuilder 122 5 B b l w) (y:l.length+s.size<=140737488355328) (A:B<=w.heap.size):
  Calls prog 82 #[.pointer (some ⟨b,0,none⟩),.string s] w fun e w'=>e=.returned (.tuple #[.int .i64 s.size,.nilIface])/\(Lib.IsBuilder 122 5 B b (l++Lib.strCells s) w'/\Below B w w'/\Lib.OthersKept 5 (some b) w w'):=by
 obtain⟨i0,hi,r,t,x⟩:=info_parts Qip_;go_enter func82,ntmps82;go_wp2_with fail
 refine(JE_ B b l _ h).mono ?_;rintro e w1 ⟨rfl,h1,j,m⟩;obtain⟨hB,v,i,c,o⟩:=h1;have c0:w1.cell? ⟨b,0,none⟩=some (.pointer (some ⟨b,0,none⟩)):=by rw[Lib.cell_of_heap i];rfl
 have c1:w1.cell? ⟨b,1,none⟩=some v:=by rw[Lib.cell_of_heap i];rfl
 go_wp2_with (at_builtin;refine Lib.wpList_append_own_string _ rfl _ _ 76 9 rfl B 5 i0 underlying76 underlying9 hi r t x _ _ _ rfl c s rfl ?c3 ?c4 ?c5 ?_)
 case c3=>unfold maxLen;omega
 case c4=>omega
 case c5=>have:=j.size;omega
 intro v' w2 d a _;have n:b < w1.heap.size:=by
  rcases Nat.lt_or_ge b w1.heap.size with h'|h'
  ·exact h'
  ·simp[Array.getElem?_eq_none h']at i
 have f:w2.heap[b]? =some (.cells #[.pointer (some ⟨b,0,none⟩),v] 122 (0,0)):=by
  rw[a.block b n (fun e=>o e.symm)];exact i
 have d0:w2.cell? ⟨b,0,none⟩=some (.pointer (some ⟨b,0,none⟩)):=by rw[Lib.cell_of_heap f];rfl
 have d1:w2.cell? ⟨b,1,none⟩=some v:=by rw[Lib.cell_of_heap f];rfl
 have f1:w2.frozen? ⟨b,1,none⟩=false:=Lib.frozen_of_heap f 1;obtain⟨ao,n',cap,rfl⟩:∃ao n' cap,v'=.slice ao n' cap:=by
  rcases d.2 with⟨q,_⟩|⟨g,cap,z,q,_⟩
  ·exact⟨_,_,_,q⟩
  ·exact⟨_,_,_,q⟩
 go_wp2;go_ret2;refine⟨rfl,.inr ?_,?_,?_⟩
 ·exact Lib.BuilderAt.put (T:=122) (e:=5) hB f (bs':=l++Lib.strCells s) (by simpa[Lib.strCells_length]using d) (by decide)
 ·exact(j.grown a (by have:=j.size;omega) (fun k hk=>(c.lt k hk).1)).setCell (p:=⟨b,1,none⟩) hB _
 ·exact(m.grown a (Lib.ownsRow_kind c)).setCell ⟨b,1,none⟩ rfl _
theorem QgM_ (B b:Nat) (l:List UInt8) (c:UInt8) (w:World) (h:Bld w B b l) (a:l.length+1<=140737488355328) (d:B<=w.heap.size):
  Calls prog 83 #[.pointer (some ⟨b,0,none⟩),.int .u8 c.toNat] w fun e w'=>e=.returned .nilIface/\Bld w' B b (l++[c])/\Below B w w'/\Lib.OthersKept 5 (some b) w w':=by
 refine(q8_ B b _ c.toNat w h (by rw[Lib.byteCells_length];exact a) d).mono ?_;rintro e w' ⟨he,h1,h2⟩;exact⟨he,by rw[Bld,Lib.byteCells_append];exact h1,h2⟩
theorem vz_ (B b:Nat) (l:List UInt8) (s:BA) (w:World) (h:Bld w B b l) (a:l.length+s.size<=140737488355328) (c:B<=w.heap.size):
  Calls prog 82 #[.pointer (some ⟨b,0,none⟩),.string s] w fun e w'=>e=.returned (.tuple #[.int .i64 s.size,.nilIface])/\Bld w' B b (l++s.data.toList)/\Below B w w'/\Lib.OthersKept 5 (some b) w w':=by
 refine(WV_ B b _ s w h (by rw[Lib.byteCells_length];exact a) c).mono ?_;rintro e w' ⟨he,h1,h2⟩;exact⟨he,by rw[Bld,Lib.byteCells_append];exact h1,h2⟩
theorem Qcx_ (B b:Nat) (l:List UInt8) (w:World) (h:Bld w B b l) (a:B<=w.heap.size):
  Calls prog 84 #[.pointer (some ⟨b,0,none⟩)] w fun e w'=>e=.returned (.string ⟨l.toArray⟩)/\Below B w w':=
 Tryz.Builder_String_any B b l w h a
end Go.Proofs.YtbiijipkgfpgoaaGreatDoor

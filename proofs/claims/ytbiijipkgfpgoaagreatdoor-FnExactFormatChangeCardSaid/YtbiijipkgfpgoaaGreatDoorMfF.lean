/-
  Put together by program.
-/
import Derived.Deep.RegionHeld3
import Derived.Test.YtbiijipkgfpgoaaGreatDoorMfD
import Derived.Laws.AppendOwnNone
set_option maxRecDepth 100000
set_option linter.all false
set_option maxHeartbeats 25600000
open Go.Proofs.Tryz
open Go.Value renaming int→I_,slice→S_,string→T_,bool→B_,agg→A_
open Go.IntKind renaming i64→j_
open Go.Obj renaming cells→C_
open Go.Ending renaming returned→R_
namespace Go.Proofs.YtbiijipkgfpgoaaGreatDoor
open Go.RowKit
abbrev RuleD:=Int × Int
def Q0_ (d:RuleD):List Value:=[I_ j_ (d.1),I_ j_ (d.2)]
theorem J0_ (d:RuleD):(Q0_ d).length=2:=rfl
theorem Xo_ {w:World} {A:OA} {n k:Nat} {l:List RuleD} {x0:Int} {x1:Int} (h:Rd w 2 A n (l.flatMap Q0_)) (hk:k < n) (hd:l[k]? =some (x0,x1)):
  ∃b off,A=some ⟨b,off,none⟩/\b < w.heap.size/\w.cell? ⟨b,off+k * 2,none⟩=some (I_ j_ x0)/\w.cell? ⟨b,off+k * 2+1,none⟩=some (I_ j_ x1):=by
 obtain⟨b,off,e,hb,hc⟩:=h.at_ oo;exact⟨b,off,e,hb,hc _ _ (Kw_ Q0_ J0_ hd (j:=0) rfl),hc _ _ (Kw_ Q0_ J0_ hd (j:=1) rfl)⟩
theorem vP_:(prog.info? 192).map (fun i=>(i.zero,i.size,i.bytes))=some (some (A_ #[I_ j_ 0,I_ j_ 0]),2,16):=by kernel_rfl
end Go.Proofs.YtbiijipkgfpgoaaGreatDoor
namespace Go.Proofs.YtbiijipkgfpgoaaGreatDoor
open Go.RowKit
abbrev ChunkD:=BA × Int × Int × Bool × Int
def Qo_ (d:ChunkD):List Value:=[T_ (d.1),I_ j_ (d.2.1),I_ j_ (d.2.2.1),B_ (d.2.2.2.1),I_ j_ (d.2.2.2.2)]
theorem Zx_ (d:ChunkD):(Qo_ d).length=5:=rfl
theorem Zk_ {w:World} {A:OA} {n k:Nat} {l:List ChunkD} {x0:BA} {x1:Int} {x2:Int} {x3:Bool} {x4:Int} (h:Rd w 5 A n (l.flatMap Qo_)) (hk:k < n) (hd:l[k]? =some (x0,x1,x2,x3,x4)):
  ∃b off,A=some ⟨b,off,none⟩/\b < w.heap.size/\w.cell? ⟨b,off+k * 5,none⟩=some (T_ x0)/\w.cell? ⟨b,off+k * 5+1,none⟩=some (I_ j_ x1)/\w.cell? ⟨b,off+k * 5+2,none⟩=some (I_ j_ x2)/\w.cell? ⟨b,off+k * 5+3,none⟩=some (B_ x3)/\w.cell? ⟨b,off+k * 5+4,none⟩=some (I_ j_ x4):=by
 obtain⟨b,off,e,hb,a⟩:=h.at_ oo;exact⟨b,off,e,hb,a _ _ (Kw_ Qo_ Zx_ hd (j:=0) rfl),a _ _ (Kw_ Qo_ Zx_ hd (j:=1) rfl),a _ _ (Kw_ Qo_ Zx_ hd (j:=2) rfl),a _ _ (Kw_ Qo_ Zx_ hd (j:=3) rfl),a _ _ (Kw_ Qo_ Zx_ hd (j:=4) rfl)⟩
theorem Vh_:(prog.info? 178).map (fun i=>(i.zero,i.size,i.bytes))=some (some (A_ #[T_ ⟨#[]⟩,I_ j_ 0,I_ j_ 0,B_ false,I_ j_ 0]),5,48):=by kernel_rfl
abbrev SpanD:=Int × Int × Int
def QJ_ (d:SpanD):List Value:=[I_ j_ (d.1),I_ j_ (d.2.1),I_ j_ (d.2.2)]
theorem YQ_ (d:SpanD):(QJ_ d).length=3:=rfl
theorem WJ_ {w:World} {A:OA} {n k:Nat} {l:List SpanD} {x0:Int} {x1:Int} {x2:Int} (h:Rd w 3 A n (l.flatMap QJ_)) (hk:k < n) (hd:l[k]? =some (x0,x1,x2)):
  ∃b off,A=some ⟨b,off,none⟩/\b < w.heap.size/\w.cell? ⟨b,off+k * 3,none⟩=some (I_ j_ x0)/\w.cell? ⟨b,off+k * 3+1,none⟩=some (I_ j_ x1)/\w.cell? ⟨b,off+k * 3+2,none⟩=some (I_ j_ x2):=by
 obtain⟨b,off,e,hb,a⟩:=h.at_ oo;exact⟨b,off,e,hb,a _ _ (Kw_ QJ_ YQ_ hd (j:=0) rfl),a _ _ (Kw_ QJ_ YQ_ hd (j:=1) rfl),a _ _ (Kw_ QJ_ YQ_ hd (j:=2) rfl)⟩
theorem qx_:(prog.info? 213).map (fun i=>(i.zero,i.size,i.bytes))=some (some (A_ #[I_ j_ 0,I_ j_ 0,I_ j_ 0]),3,24):=by kernel_rfl
abbrev TieD:=Int × Int
def KF_ (d:TieD):List Value:=[I_ j_ (d.1),I_ j_ (d.2)]
theorem Ue_ (d:TieD):(KF_ d).length=2:=rfl
theorem Qax_ {w:World} {A:OA} {n k:Nat} {l:List TieD} {x0:Int} {x1:Int} (h:Rd w 2 A n (l.flatMap KF_)) (hk:k < n) (hd:l[k]? =some (x0,x1)):
  ∃b off,A=some ⟨b,off,none⟩/\b < w.heap.size/\w.cell? ⟨b,off+k * 2,none⟩=some (I_ j_ x0)/\w.cell? ⟨b,off+k * 2+1,none⟩=some (I_ j_ x1):=by
 obtain⟨b,off,e,hb,hc⟩:=h.at_ oo;exact⟨b,off,e,hb,hc _ _ (Kw_ KF_ Ue_ hd (j:=0) rfl),hc _ _ (Kw_ KF_ Ue_ hd (j:=1) rfl)⟩
theorem Qdb_:(prog.info? 215).map (fun i=>(i.zero,i.size,i.bytes))=some (some (A_ #[I_ j_ 0,I_ j_ 0]),2,16):=by kernel_rfl
def RdP (w:World) (A0:OA) (n0:Nat) (l0:List RuleD) (A1:OA) (n1:Nat) (l1:List ChunkD) (A2:OA) (n2:Nat) (l2:List SpanD) (A3:OA) (n3:Nat) (l3:List TieD):Prop:=
 Rd w 2 A0 n0 (l0.flatMap Q0_)/\Rd w 5 A1 n1 (l1.flatMap Qo_)/\Rd w 3 A2 n2 (l2.flatMap QJ_)/\Rd w 2 A3 n3 (l3.flatMap KF_)
def LenP (n0:Nat) (l0:List RuleD) (n1:Nat) (l1:List ChunkD) (n2:Nat) (l2:List SpanD) (n3:Nat) (l3:List TieD):Prop:=l0.length=n0/\l1.length=n1/\l2.length=n2/\l3.length=n3
section
variable {w w' w2:World} {o o':Obj} {A0:OA} {n0:Nat} {l0:List RuleD} {A1:OA} {n1:Nat} {l1:List ChunkD} {A2:OA} {n2:Nat} {l2:List SpanD} {A3:OA} {n3:Nat} {l3:List TieD}
theorem RdP.next (h:RdP w A0 n0 l0 A1 n1 l1 A2 n2 l2 A3 n3 l3) (a:Below w.heap.size w w'):RdP w' A0 n0 l0 A1 n1 l1 A2 n2 l2 A3 n3 l3:=⟨h.1.next a,h.2.1.next a,h.2.2.1.next a,h.2.2.2.next a⟩
theorem RdP.alloc (h:RdP w A0 n0 l0 A1 n1 l1 A2 n2 l2 A3 n3 l3) (o:Obj):RdP (w.alloc o) A0 n0 l0 A1 n1 l1 A2 n2 l2 A3 n3 l3:=h.next (br.alloc (lr_ _) o)
end
end Go.Proofs.YtbiijipkgfpgoaaGreatDoor
namespace Go.Proofs.YtbiijipkgfpgoaaGreatDoor
open Go.RowKit
def AllK {α:Type} (p:Nat->α->Bool) (l:List α) (k:Nat):Prop:=∀j d,j < k->l[j]? =some d->p j d=true
def KG_ {α:Type} (p:Nat->α->Bool) (l:List α):Bool:=(List.range l.length).all (fun j=>match l[j]? with|some d=>p j d|none=>true)
theorem Z9_ {α:Type} (p:Nat->α->Bool) (l:List α):AllK p l 0:=fun j d hj=>absurd hj oo
theorem ZK_ {α:Type} {p:Nat->α->Bool} {l:List α} {k:Nat} {d:α} (h:AllK p l k) (hd:l[k]? =some d) (hp:p k d=true):AllK p l (k+1):=fun j e hj a=>by
 by_cases q:j=k
 ·subst q;rw[hd]at a;obtain rfl:=oi_ a;exact hp
 ·exact h j e oo a
theorem XV_ {α:Type} {p:Nat->α->Bool} {l:List α} {k:Nat} (h:AllK p l k) (hk:k=l.length):KG_ p l=true:=by
 unfold KG_;rw[List.all_eq_true];intro j hj;have a:j < l.length:=List.mem_range.1 hj;rw[List.getElem?_eq_getElem a];exact h j _ oo (List.getElem?_eq_getElem a)
theorem XF_ {α:Type} {p:Nat->α->Bool} {l:List α} {k:Nat} {d:α} (hd:l[k]? =some d) (hp:p k d=false):KG_ p l=false:=by
 unfold KG_;refine List.all_eq_false.2 ⟨k,List.mem_range.2 (gs_.1 hd).1,?_⟩;rw[hd];simp[hp]
theorem vr_ {α:Type} {p:Nat->α->Bool} {l:List α} {k:Nat} {d:α} (h:KG_ p l=true) (hd:l[k]? =some d):p k d=true:=by
 cases hp:p k d with
 |true=>rfl
 |false=>rw[XF_ hd hp]at h;cases h
def pl (c:UInt8):Bool:=decide (32<=(c.toNat:Int)/\(c.toNat:Int)<=126)
def QV_ (s:BA):Bool:=s.data.toList.all pl
def PlTo (s:BA) (k:Nat):Prop:=(s.data.toList.take k).all pl=true
theorem xo_ (s:BA):PlTo s 0:=by simp[PlTo]
theorem xn_ {s:BA} {k:Nat} (h:PlTo s k) (hk:k < s.size) (hc:pl s[k]=true):PlTo s (k+1):=by
 unfold PlTo at h |-
 rw[List.take_succ_eq_append_getElem (by simpa using hk),List.all_append,h];simp only[List.all_cons,List.all_nil,Bool.and_true,Bool.true_and];exact hc
theorem jJ_ {s:BA} {k:Nat} (hk:k < s.size) (hc:pl s[k]=false):QV_ s=false:=by
 unfold QV_;rw[List.all_eq_false];exact⟨s[k],by rw[show s[k]=s.data.toList[k]'(by simpa using hk)from rfl];exact List.getElem_mem _,by simp[hc]⟩
theorem Qaa_ {s:BA} {k:Nat} (h:PlTo s k) (hk:k=s.size):QV_ s=true:=by
 unfold PlTo at h;unfold QV_;rwa[List.take_of_length_le (by simp[hk])]at h
theorem YE_ (s:BA) (w:World) (hs:s.size<=maxLen):Calls prog 157 #[T_ s] w (RS_ (B_ (QV_ s)) w):=by
 unfold maxLen at hs;go_enter func157,ntmps157;go_wp2
 go_loop [3] (fun i=>∃k:Nat,k<=s.size/\PlTo s k/\i=I_ j_ k) (fun i=>s.size - (intOf i).toNat)
 case atStart=>exact⟨0,lz_ _,xo_ s,rfl⟩
 case round=>
  obtain⟨k,hk,ha,rfl⟩:=hrel;by_cases a:k < s.size
  ·by_cases h1:(s[k].toNat:Int) < 32
   ·have b:=h_ (jJ_ a (by unfold pl;exact df_ oo));go_wp2;go_ret;exact⟨Qg_ b.o.symm,rfl⟩
   ·by_cases h2:(126:Int) < s[k].toNat
    ·have b:=h_ (jJ_ a (by unfold pl;exact df_ oo));go_wp2;go_ret;exact⟨Qg_ b.o.symm,rfl⟩
    ·have b:=xn_ ha a (by unfold pl;exact dt_ oo);go_wp2
     go_round
     case rel=>exact⟨k+1,oo,b,by go_num⟩
     case measure=>exact ms_
  ·have b:=h_ (Qaa_ ha oo);go_wp2;go_ret;exact⟨Qg_ b.o.symm,rfl⟩
def YJ_ (k:Nat) (d:RuleD):Bool:=inB d.1 2 3&&inB d.2 0 9
def X3_ (l0:List RuleD):Bool:=KG_ YJ_ l0&&decide (l0.length<=8)
theorem jP_ (m:Int) (A0:OA) (n0 c0:Nat) (l0:List RuleD) (A1:OA) (n1 c1:Nat) (l1:List ChunkD) (A2:OA) (n2 c2:Nat) (l2:List SpanD) (A3:OA) (n3 c3:Nat) (l3:List TieD) (w:World) (hl:Hid (LenP n0 l0 n1 l1 n2 l2 n3 l3)) (hr:RdP w A0 n0 l0 A1 n1 l1 A2 n2 l2 A3 n3 l3) (hn:n0<=1048576):
  Calls prog 264 #[A_ #[I_ j_ m,S_ A0 n0 c0,S_ A1 n1 c1,S_ A2 n2 c2,S_ A3 n3 c3]] w (RB_ (B_ (X3_ l0)) w):=by
 have HR:=h_ (fun W (hW:Below w.heap.size w W)=>hr.next hW);have g:Hid (X3_ l0=(KG_ YJ_ l0&&decide (l0.length<=8))):=rfl;have n:=h_ hl.o.1;clear hr hl;go_enter func264,ntmps264;go_wp2;go_loopw [8] (fun i wr=>∃k:Nat,k<=n0/\AllK YJ_ l0 k/\i=I_ j_ k/\Blk wr w.heap.size 149 #[I_ j_ m,S_ A0 n0 c0,S_ A1 n1 c1,S_ A2 n2 c2,S_ A3 n3 c3]/\Below w.heap.size w wr) (fun i _=>n0 - (intOf i).toNat)
 case atStart=>exact⟨0,lz_ _,Z9_ _ _,rfl,Blk.new _ _ _,grow_⟩
 case round=>
  obtain⟨k,hk,f,rfl,K,o⟩:=hrel;by_cases p:k < n0
  ·obtain⟨⟨x0,x1⟩,hd⟩:∃d,l0[k]? =some d:=⟨_,gE (by have:=n.o;omega)⟩;obtain⟨b,off,hA,r,c0,c1⟩:=Xo_ (HR.o _ o).1 p hd;have HA:=h_ f;have a:=h_ hd;have j:Hid (YJ_ k (x0,x1)=(inB x0 2 3&&inB x1 0 9)):=rfl;have zK:=K.lt;have hz:=o.size;subst hA;clear f hd
   cases l:inB x0 2 3 with
   |false=>
    have c:=h_ (show X3_ l0=false by rw[g.o,XF_ a.o (by rw[j.o,l];rfl)];rfl);go_wp2_with (go_at_call 62;refine(QL_ _ _ _ _).mono ?_;rintro e w1 ⟨rfl,rfl⟩)
    go_ret;exact⟨Qg_ c.o.symm,grow_⟩
   |true=>
    cases h1:inB x1 0 9 with
    |false=>
     have c:=h_ (show X3_ l0=false by rw[g.o,XF_ a.o (by rw[j.o,l,h1];rfl)];rfl);go_wp2_with (go_at_call 62;refine(QL_ _ _ _ _).mono ?_;rintro e w1 ⟨rfl,rfl⟩)
     go_ret;exact⟨Qg_ c.o.symm,grow_⟩
    |true=>
     have q:=ZK_ HA.o a.o (by rw[j.o,l,h1];rfl);go_wp2_with (go_at_call 62;refine(QL_ _ _ _ _).mono ?_;rintro e w1 ⟨rfl,rfl⟩)
     go_roundw
     case rel=>exact⟨k+1,oo,q,by go_num,K.alloc _,grow_⟩
     case measure=>exact ms_
  ·have c:=h_ (show X3_ l0=decide ((n0:Int)<=8)by rw[g.o,XV_ f (by have:=n.o;omega),n.o,Bool.true_and];congr 1;exact propext ⟨fun h=>oo,fun h=>oo⟩);have cK:=K.cell;have zK:=K.lt;clear f;go_wp2;go_ret;exact⟨Qg_ c.o.symm,o⟩
theorem vN_ (x:Int) (h0:0<=x) (h1:x<=1000):IntKind.i64.wrap (x - 1)=x - 1:=by
 rw[IntKind.wrap_i64];omega
def jk_ (l0:List RuleD) (r f:Int):Bool:=match l0[r.toNat]? with|some d=>inB f 1 (d.1 - 1)|none=>false
def KW_ (l0:List RuleD) (r f q:Int):Bool:=inB r 0 ((l0.length:Int) - 1)&&inB q 0 40&&jk_ l0 r f
theorem vK_ {l0:List RuleD} {k:Nat} {f x0 x1:Int} (h:l0[k]? =some (x0,x1)):jk_ l0 (k:Int) f=inB f 1 (x0 - 1):=by
 unfold jk_;rw[show((k:Int)).toNat=k from oo,h]
theorem Yl_ {a b c:Int} (h:inB a b c=true):b<=a/\a<=c:=od_ h
theorem Qbc_ (m:Int) (A0:OA) (n0 c0:Nat) (l0:List RuleD) (A1:OA) (n1 c1:Nat) (l1:List ChunkD) (A2:OA) (n2 c2:Nat) (l2:List SpanD) (A3:OA) (n3 c3:Nat) (l3:List TieD) (i:Int) (w:World) (hn:n0<=1048576):
  Calls prog 266 #[A_ #[I_ j_ m,S_ A0 n0 c0,S_ A1 n1 c1,S_ A2 n2 c2,S_ A3 n3 c3],I_ j_ i] w fun e w'=>e=R_ (B_ (inB i 0 ((n0:Int) - 1)))/\Below w.heap.size w w':=by
 go_enter func266,ntmps266;go_wp2_with (go_at_call 62;refine(QL_ _ _ _ _).mono ?_;rintro e w1 ⟨rfl,rfl⟩)
 go_ret;exact⟨rfl,grow_⟩
theorem vb_ (m:Int) (A0:OA) (n0 c0:Nat) (l0:List RuleD) (A1:OA) (n1 c1:Nat) (l1:List ChunkD) (A2:OA) (n2 c2:Nat) (l2:List SpanD) (A3:OA) (n3 c3:Nat) (l3:List TieD) (r f:Int) (s:Bool) (q:Int) (w:World) (hl:Hid (LenP n0 l0 n1 l1 n2 l2 n3 l3)) (hr:RdP w A0 n0 l0 A1 n1 l1 A2 n2 l2 A3 n3 l3) (hn:n0<=8) (hv:Hid (KG_ YJ_ l0=true)):
  Calls prog 283 #[A_ #[I_ j_ m,S_ A0 n0 c0,S_ A1 n1 c1,S_ A2 n2 c2,S_ A3 n3 c3],A_ #[I_ j_ r,I_ j_ f,B_ s,I_ j_ q]] w (RB_ (B_ (KW_ l0 r f q)) w):=by
 have i:Hid (KW_ l0 r f q=(inB r 0 ((n0:Int) - 1)&&inB q 0 40&&jk_ l0 r f)):=by
  have:=hl.o.1;exact h_ (by unfold KW_;rw[this])
 have hL:=h_ hl.o.1;have hR:=hr.1;clear hr hl
 cases g:inB r 0 ((n0:Int) - 1)with
 |false=>
  have c:=h_ (show KW_ l0 r f q=false by rw[i.o,g];rfl);go_enter func283,ntmps283;go_wp2_with (go_at_call 62;refine(QL_ _ _ _ _).mono ?_;rintro e w1 ⟨rfl,rfl⟩)
  go_ret;exact⟨Qg_ c.o.symm,grow_⟩
 |true=>
  cases h1:inB q 0 40 with
  |false=>
   have c:=h_ (show KW_ l0 r f q=false by rw[i.o,g,h1];rfl);go_enter func283,ntmps283;go_wp2_with (go_at_call 62;refine(QL_ _ _ _ _).mono ?_;rintro e w1 ⟨rfl,rfl⟩)
   go_ret;exact⟨Qg_ c.o.symm,grow_⟩
  |true=>
   obtain⟨r1,r2⟩:=Yl_ g;obtain⟨k,rfl⟩:=eo_ r1;have j:k < n0:=oo;obtain⟨⟨x0,x1⟩,hd⟩:∃d,l0[k]? =some d:=⟨_,gE (by have:=hL.o;omega)⟩;have a:=vr_ hv.o hd;have c:=h_ (show KW_ l0 (k:Int) f q=inB f 1 (x0 - 1)by rw[i.o,g,h1,vK_ hd];rfl);have l:2<=x0/\x0<=3:=by
    unfold YJ_ at a;have:=(Bool.and_eq_true _ _).mp a;exact Yl_ this.1
   obtain⟨v0,v1⟩:=l;have n:IntKind.i64.wrap (x0 - 1)=x0 - 1:=vN_ x0 oo oo;have hW:=h_ n;clear n;obtain⟨b,off,hA,o,c0,c1⟩:=Xo_ ((hR.alloc (C_ #[I_ j_ m,S_ A0 n0 c0,S_ A1 n1 c1,S_ A2 n2 c2,S_ A3 n3 c3] 149)).alloc (C_ #[I_ j_ (k:Int),I_ j_ f,B_ s,I_ j_ q] 176)) j hd;subst hA;have p:(0:Int)<=(k:Int):=oo;have t:(k:Int) < (n0:Int):=oo;clear hd a hR;go_enter func283,ntmps283;go_wp2_with (go_at_call 62;refine(QL_ _ _ _ _).mono ?_;rintro e w1 ⟨rfl,rfl⟩)
   have n:=hW.o;go_quiet ((go_at_call 62;exact Calls.quiet_of_same ((QL_ _ _ _ _).mono fun _ _ h=>⟨h.1,h.2.symm⟩)));go_wp2;go_ret;exact⟨Qg_ c.o.symm,grow_⟩
def ZT_ (l0:List RuleD) (n k:Nat) (d:ChunkD):Bool:=QV_ d.1&&(decide (n<=k+1)||KW_ l0 d.2.1 d.2.2.1 d.2.2.2.2)
def GM_ (d:ChunkD):Bool:=decide (d.2.1=0)&&decide (d.2.2.1=0)&&!d.2.2.2.1&&decide (d.2.2.2.2=0)
def Vm_ (l1:List ChunkD):Bool:=match l1[l1.length - 1]? with|some d=>GM_ d|none=>false
def KS_ (l0:List RuleD) (l1:List ChunkD):Bool:=inB l1.length 1 80&&KG_ (ZT_ l0 l1.length) l1&&Vm_ l1
theorem ko_ (m:Int) (A0:OA) (n0 c0:Nat) (l0:List RuleD) (A1:OA) (n1 c1:Nat) (l1:List ChunkD) (A2:OA) (n2 c2:Nat) (l2:List SpanD) (A3:OA) (n3 c3:Nat) (l3:List TieD) (w:World) (hl:Hid (LenP n0 l0 n1 l1 n2 l2 n3 l3)) (hr:RdP w A0 n0 l0 A1 n1 l1 A2 n2 l2 A3 n3 l3) (hn:n0<=8) (M:n1<=1048576) (hv:Hid (KG_ YJ_ l0=true)) (hs:Hid (∀d∈l1,d.1.size<=maxLen)):
  Calls prog 265 #[A_ #[I_ j_ m,S_ A0 n0 c0,S_ A1 n1 c1,S_ A2 n2 c2,S_ A3 n3 c3]] w (RB_ (B_ (KS_ l0 l1)) w):=by
 have A:=h_ (fun W (hW:Below w.heap.size w W)=>hr.next hW);have r:Hid (KS_ l0 l1=(inB (n1:Int) 1 80&&KG_ (ZT_ l0 n1) l1&&Vm_ l1)):=by
  have:=hl.o.2.1;exact h_ (by unfold KS_;rw[this])
 have v:=h_ hl.o.2.1;clear hr
 cases hi:inB (n1:Int) 1 80 with
 |false=>
  have f:=h_ (show KS_ l0 l1=false by rw[r.o,hi];rfl);go_enter func265,ntmps265;go_wp2_with (go_at_call 62;refine(QL_ _ _ _ _).mono ?_;rintro e w1 ⟨rfl,rfl⟩)
  go_ret;exact⟨Qg_ f.o.symm,grow_⟩
 |true=>
  obtain⟨i1,i2⟩:=Yl_ hi;have z:=h_ hi;go_enter func265,ntmps265;go_wp2_with (go_at_call 62;refine(QL_ _ _ _ _).mono ?_;rintro e w1 ⟨rfl,rfl⟩)
  clear hi;go_loopw [4,15] (fun _ i wr=>∃k:Nat,k<=n1/\AllK (ZT_ l0 n1) l1 k/\i=I_ j_ k/\Blk wr w.heap.size 149 #[I_ j_ m,S_ A0 n0 c0,S_ A1 n1 c1,S_ A2 n2 c2,S_ A3 n3 c3]/\Below w.heap.size w wr) (fun _ i _=>n1 - (intOf i).toNat)
  case atStart=>exact⟨0,lz_ _,Z9_ _ _,rfl,Blk.new _ _ _,grow_⟩
  case round=>
   obtain⟨k,hk,x,rfl,K,c⟩:=hrel;by_cases G:k < n1
   ·obtain⟨⟨x0,x1,l,y,n⟩,hd⟩:∃d,l1[k]? =some d:=⟨_,gE (by have:=v.o;omega)⟩;obtain⟨b,off,hA,p,c0,c1,c2,c3,c4⟩:=Zk_ (A.o _ c).2.1 G hd;have B:=h_ (hs.o _ (lm_ hd));have HA:=h_ x;have h:=h_ hd;have s:Hid (ZT_ l0 n1 k (x0,x1,l,y,n)=(QV_ x0&&(decide (n1<=k+1)||KW_ l0 x1 l n))):=rfl;have C:=K.cell;have zK:=K.lt;have hz:=c.size;subst hA;clear x hd
    cases t:QV_ x0 with
    |false=>
     have f:=h_ (show KS_ l0 l1=false by rw[r.o,z.o,XF_ h.o (by rw[s.o,t];rfl)];rfl);go_wp2_with (go_at_call 157;refine(YE_ _ _ B.o).mono ?_;rintro e w1 ⟨rfl,rfl⟩)
     go_ret;exact⟨Qg_ f.o.symm,grow_⟩
    |true=>
     by_cases g:n1<=k+1
     ·have j:=ZK_ HA.o h.o (by rw[s.o,t,dt_ g];rfl);have hq:¬((k:Int) < (n1:Int) - 1):=oo;go_wp2_with (go_at_call 157;refine(YE_ _ _ B.o).mono ?_;rintro e w1 ⟨rfl,rfl⟩)
      go_roundw
      case rel=>exact⟨k+1,oo,j,by go_num,K.alloc _,grow_⟩
      case measure=>exact ms_
     ·have hq:((k:Int) < (n1:Int) - 1):=oo;have H:=h_ (A.o _ c);go_wp2_with (go_at_call 157;refine(YE_ _ _ B.o).mono ?_;rintro e w1 ⟨rfl,rfl⟩)
      refine(vb_ _ _ _ _ _ _ _ _ _ _ _ _ _ _ _ _ _ _ _ _ _ _ hl (H.o.alloc _) hn hv).mono ?_;rintro e w2 ⟨rfl,h2⟩;have o:=Q7_ c h2;have K2:=K.next1 h2
      cases h1:KW_ l0 x1 l n with
      |false=>
       have f:=h_ (show KS_ l0 l1=false by rw[r.o,z.o,XF_ h.o (by rw[s.o,t,h1,df_ g];rfl)];rfl);clear C;go_wp2;go_ret;exact⟨Qg_ f.o.symm,o⟩
      |true=>
       have j:=ZK_ HA.o h.o (by rw[s.o,t,h1];simp);clear C;go_wp2;go_roundw
       case rel=>exact⟨k+1,oo,j,by go_num,K2,o⟩
       case measure=>exact ms_
   ·obtain⟨⟨x0,x1,l,y,n⟩,hd⟩:∃d,l1[n1 - 1]? =some d:=⟨_,gE (by have:=v.o;omega)⟩;have q:n1 - 1 < n1:=oo;obtain⟨b,off,hA,p,c0,c1,c2,c3,c4⟩:=Zk_ (A.o _ c).2.1 q hd;have f:=h_ (show KS_ l0 l1=GM_ (x0,x1,l,y,n)by rw[r.o,z.o,XV_ x (by have:=v.o;omega)];unfold Vm_;rw[v.o,hd];rfl);have C:=K.cell;have zK:=K.lt;have hz:=c.size;subst hA;clear x hd;have j0:((n1 - 1:Nat):Int)=(n1:Int) - 1:=oo;have J0:=h_ j0;clear j0;by_cases D:x1=0
    ·subst D;by_cases E:l=0
     ·subst E
      cases y with
      |true=>
       have a:=h_ (show KS_ l0 l1=false by rw[f.o];simp[GM_]);go_wp2;go_ret;exact⟨Qg_ a.o.symm,c⟩
      |false=>
       by_cases F:n=0
       ·subst F;have a:=h_ (show KS_ l0 l1=true by rw[f.o];rfl);go_wp2;go_ret;exact⟨Qg_ a.o.symm,c⟩
       ·
        have a:=h_ (show KS_ l0 l1=false by rw[f.o];simp[GM_,F]);have L:(n==0)=false:=bn_.2 F;go_wp2;go_ret;exact⟨Qg_ a.o.symm,c⟩
     ·
      have a:=h_ (show KS_ l0 l1=false by rw[f.o];simp[GM_,E]);have J:(l==0)=false:=bn_.2 E;go_wp2;go_ret;exact⟨Qg_ a.o.symm,c⟩
    ·
     have a:=h_ (show KS_ l0 l1=false by rw[f.o];simp[GM_,D]);have I:(x1==0)=false:=bn_.2 D;go_wp2;go_ret;exact⟨Qg_ a.o.symm,c⟩
def Y8_ (n1:Nat) (k:Nat) (d:SpanD):Bool:=decide (0<=d.1)&&(decide (d.1<=d.2.1)&&(decide (d.2.1 < (n1:Int) - 1)&&inB d.2.2 0 9))
def ka_ (n0:Nat) (k:Nat) (d:TieD):Bool:=inB d.1 0 ((n0:Int) - 1)&&(inB d.2 0 ((n0:Int) - 1)&&!decide (d.1=d.2))
def GS_ (m:Int) (l0:List RuleD) (l1:List ChunkD) (l2:List SpanD) (l3:List TieD):Bool:=inB m 0 60&&(X3_ l0&&(KS_ l0 l1&&(decide (l2.length<=40)&&decide (l3.length<=20))))
def Kf_ (m:Int) (l0:List RuleD) (l1:List ChunkD) (l2:List SpanD) (l3:List TieD):Bool:=GS_ m l0 l1 l2 l3&&(KG_ (Y8_ l1.length) l2&&KG_ (ka_ l0.length) l3)
theorem Qd3_ {l0:List RuleD} (h:X3_ l0=true):l0.length<=8/\KG_ YJ_ l0=true:=by
 unfold X3_ at h;rw[Bool.and_eq_true]at h;exact⟨od_ h.2,h.1⟩
theorem QaN_ {l0:List RuleD} {l1:List ChunkD} (h:KS_ l0 l1=true):1<=l1.length/\l1.length<=80:=by
 unfold KS_ at h;rw[Bool.and_eq_true,Bool.and_eq_true]at h;have:=Yl_ h.1.1;omega
theorem U3_ (m:Int) (A0:OA) (n0 c0:Nat) (l0:List RuleD) (A1:OA) (n1 c1:Nat) (l1:List ChunkD) (A2:OA) (n2 c2:Nat) (l2:List SpanD) (A3:OA) (n3 c3:Nat) (l3:List TieD) (w:World) (hl:Hid (LenP n0 l0 n1 l1 n2 l2 n3 l3)) (hr:RdP w A0 n0 l0 A1 n1 l1 A2 n2 l2 A3 n3 l3) (hn:n0<=1048576/\n1<=1048576/\n2<=1048576/\n3<=1048576) (hs:Hid (∀d∈l1,d.1.size<=maxLen)):
  Calls prog 247 #[A_ #[I_ j_ m,S_ A0 n0 c0,S_ A1 n1 c1,S_ A2 n2 c2,S_ A3 n3 c3]] w (RB_ (B_ (Kf_ m l0 l1 l2 l3)) w):=by
 have q:=h_ (fun W (hW:Below w.heap.size w W)=>hr.next hW);obtain⟨q0,q1,q2,q3⟩:=hn;have n:Hid (Kf_ m l0 l1 l2 l3=(GS_ m l0 l1 l2 l3&&(KG_ (Y8_ n1) l2&&KG_ (ka_ n0) l3))):=by
  have r:=hl.o.1;have t:=hl.o.2.1;exact h_ (by unfold Kf_;rw[r,t])
 have y:Hid (GS_ m l0 l1 l2 l3=(inB m 0 60&&(X3_ l0&&(KS_ l0 l1&&(decide (n2<=40)&&decide (n3<=20)))))):=by
  have r:=hl.o.2.2.1;have t:=hl.o.2.2.2;exact h_ (by unfold GS_;rw[r,t])
 have A:=h_ (fun(b:Bool) (a:X3_ l0=b) (W:World) (Z:RdP W A0 n0 l0 A1 n1 l1 A2 n2 l2 A3 n3 l3)=>show Calls prog 264 #[A_ #[I_ j_ m,S_ A0 n0 c0,S_ A1 n1 c1,S_ A2 n2 c2,S_ A3 n3 c3]] W fun e w'=>e=R_ (B_ b)/\Below W.heap.size W w' by rw[<-a];exact jP_ m A0 n0 c0 l0 A1 n1 c1 l1 A2 n2 c2 l2 A3 n3 c3 l3 W hl Z q0);have N:=h_ (fun(aa:X3_ l0=true) (b:Bool) (a:KS_ l0 l1=b) (W:World) (Z:RdP W A0 n0 l0 A1 n1 l1 A2 n2 l2 A3 n3 l3)=>show Calls prog 265 #[A_ #[I_ j_ m,S_ A0 n0 c0,S_ A1 n1 c1,S_ A2 n2 c2,S_ A3 n3 c3]] W fun e w'=>e=R_ (B_ b)/\Below W.heap.size W w' by
  rw[<-a];have Y:=Qd3_ aa;rw[hl.o.1]at Y;exact ko_ m A0 n0 c0 l0 A1 n1 c1 l1 A2 n2 c2 l2 A3 n3 c3 l3 W hl Z Y.1 q1 Y.2 hs)
 have HI:=h_ (fun(i:Int) (W:World)=>Qbc_ m A0 n0 c0 l0 A1 n1 c1 l1 A2 n2 c2 l2 A3 n3 c3 l3 i W q0);clear hr
 cases O:inB m 0 60 with
 |false=>
  have f:=h_ (show Kf_ m l0 l1 l2 l3=false by rw[n.o,y.o,O];rfl);clear n y A N;go_enter func247,ntmps247;go_wp2_with (go_at_call 62;refine(QL_ _ _ _ _).mono ?_;rintro e w1 ⟨rfl,rfl⟩)
  go_ret;exact⟨Qg_ f.o.symm,grow_⟩
 |true=>
 cases h1:X3_ l0 with
 |false=>
  have f:=h_ (show Kf_ m l0 l1 l2 l3=false by rw[n.o,y.o,O,h1];rfl);have H:=h_ (A.o _ h1);clear n y A N h1;go_enter func247,ntmps247;go_wp2_with (go_at_call 62;refine(QL_ _ _ _ _).mono ?_;rintro e w1 ⟨rfl,rfl⟩)
  refine(H.o _ (q.o _ grow_)).mono ?_;rintro e w2 ⟨rfl,c⟩;have a:=Q7_ br c;have g:=(Blk.fresh c).cell;have j:=(Blk.fresh c).lt;clear c;go_wp2;go_ret;exact⟨Qg_ f.o.symm,a⟩
 |true=>
 cases c:KS_ l0 l1 with
 |false=>
  have f:=h_ (show Kf_ m l0 l1 l2 l3=false by rw[n.o,y.o,O,h1,c];rfl);have B:=h_ (A.o _ h1);have D:=h_ (N.o h1 _ c);clear n y A N h1 c;go_enter func247,ntmps247;go_wp2_with (go_at_call 62;refine(QL_ _ _ _ _).mono ?_;rintro e w1 ⟨rfl,rfl⟩)
  refine(B.o _ (q.o _ grow_)).mono ?_;rintro e w2 ⟨rfl,c⟩;have K:=Blk.fresh c;have a:=Q7_ br c;have g:=K.cell;have j:=K.lt;clear c;go_wp2_with fail
  refine(D.o _ (q.o _ grow_)).mono ?_;rintro e w3 ⟨rfl,l⟩;replace a:=Qb_ a l;clear g;go_wp2;go_ret;exact⟨Qg_ f.o.symm,a⟩
 |true=>
  have z:=QaN_ c;rw[hl.o.2.1]at z;obtain⟨i1,i2⟩:=z;have o:=h_ (show GS_ m l0 l1 l2 l3=(decide (n2<=40)&&decide (n3<=20))by rw[y.o,O,h1,c];rfl);have B:=h_ (A.o _ h1);have D:=h_ (N.o h1 _ c);clear y A N h1 c;by_cases l:n2<=40
  ·by_cases G:n3<=20
   ·have E:=h_ (show GS_ m l0 l1 l2 l3=true by rw[o.o,dt_ l,dt_ G];rfl);clear o;go_enter func247,ntmps247;go_wp2_with (go_at_call 62;refine(QL_ _ _ _ _).mono ?_;rintro e w1 ⟨rfl,rfl⟩)
    refine(B.o _ (q.o _ grow_)).mono ?_;rintro e w2 ⟨rfl,c⟩;have K:=Blk.fresh c;have a:=Q7_ br c;have g:=K.cell;have j:=K.lt;clear c;go_wp2_with fail
    refine(D.o _ (q.o _ grow_)).mono ?_;rintro e w3 ⟨rfl,l⟩;replace a:=Qb_ a l;replace K:=K.next l;clear g j l;have g:=K.cell;have j:=K.lt;go_wp2;clear g j O;go_loopw [36] (fun i wr=>∃k:Nat,k<=n2/\AllK (Y8_ n1) l2 k/\i=I_ j_ k/\Blk wr w.heap.size 149 #[I_ j_ m,S_ A0 n0 c0,S_ A1 n1 c1,S_ A2 n2 c2,S_ A3 n3 c3]/\Below w.heap.size w wr) (fun i _=>n2 - (intOf i).toNat)
    case atStart=>exact⟨0,lz_ _,Z9_ _ _,rfl,K,a⟩
    case round=>
     clear K a;obtain⟨k,hk,v,rfl,K,a⟩:=hrel;by_cases L:k < n2
     ·obtain⟨⟨x0,x1,T⟩,hd⟩:∃d,l2[k]? =some d:=⟨_,gE (by have:=hl.o.2.2.1;omega)⟩;obtain⟨b,off,hA,P,c0,c1,c2⟩:=WJ_ (q.o _ a).2.2.1 L hd;have C:=h_ v;have p:=h_ hd;have s:Hid (Y8_ n1 k (x0,x1,T)=(decide (0<=x0)&&(decide (x0<=x1)&&(decide (x1 < (n1:Int) - 1)&&inB T 0 9)))):=rfl;have x:=h_ (fun(h:Y8_ n1 k (x0,x1,T)=false)=>show Kf_ m l0 l1 l2 l3=false by rw[n.o,E.o,XF_ p.o h];rfl);have g:=K.cell;have j:=K.lt;have hz:=a.size;subst hA;clear v hd B D n;by_cases r:0<=x0
      ·by_cases t:x0<=x1
       ·by_cases F:x1 < (n1:Int) - 1
        ·cases V:inB T 0 9 with
         |false=>
          have f:=h_ (x.o (by rw[s.o,V];simp));go_wp2_with (go_at_call 62;refine(QL_ _ _ _ _).mono ?_;rintro e w1 ⟨rfl,rfl⟩)
          go_ret;exact⟨Qg_ f.o.symm,grow_⟩
         |true=>
          have M:=ZK_ C.o p.o (by rw[s.o,V,dt_ r,dt_ t,dt_ F];rfl);go_wp2_with (go_at_call 62;refine(QL_ _ _ _ _).mono ?_;rintro e w1 ⟨rfl,rfl⟩)
          go_roundw
          case rel=>exact⟨k+1,oo,M,by go_num,K.alloc _,grow_⟩
          case measure=>exact ms_
        ·have f:=h_ (x.o (by rw[s.o,df_ F];simp));have ae:(n1:Int) - 1<=x1:=oo;go_wp2;go_ret;exact⟨Qg_ f.o.symm,grow_⟩
       ·have f:=h_ (x.o (by rw[s.o,df_ t];simp));have ad:x1 < x0:=oo;go_wp2;go_ret;exact⟨Qg_ f.o.symm,grow_⟩
      ·have f:=h_ (x.o (by rw[s.o,df_ r];simp));have ac:x0 < 0:=oo;go_wp2;go_ret;exact⟨Qg_ f.o.symm,grow_⟩
     ·have HS:=h_ (XV_ v (by have:=hl.o.2.2.1;omega));have g:=K.cell;have j:=K.lt;clear v;go_wp2;clear g j;obtain⟨wO,ab⟩:∃wO,wO=wr:=⟨_,rfl⟩;subst ab;go_loopw [69] (fun i wr=>∃k:Nat,k<=n3/\AllK (ka_ n0) l3 k/\i=I_ j_ k/\Blk wr w.heap.size 149 #[I_ j_ m,S_ A0 n0 c0,S_ A1 n1 c1,S_ A2 n2 c2,S_ A3 n3 c3]/\Below w.heap.size w wr) (fun i _=>n3 - (intOf i).toNat)
      case atStart=>exact⟨0,lz_ _,Z9_ _ _,rfl,K,a⟩
      case round=>
       clear K a;obtain⟨k,hk,v,rfl,K,a⟩:=hrel;by_cases L:k < n3
       ·obtain⟨⟨x0,x1⟩,hd⟩:∃d,l3[k]? =some d:=⟨_,gE (by have:=hl.o.2.2.2;omega)⟩;obtain⟨b,off,hA,P,c0,c1⟩:=Qax_ (q.o _ a).2.2.2 L hd;have C:=h_ v;have p:=h_ hd;have s:Hid (ka_ n0 k (x0,x1)=(inB x0 0 ((n0:Int) - 1)&&(inB x1 0 ((n0:Int) - 1)&&!decide (x0=x1)))):=rfl;have x:=h_ (fun(h:ka_ n0 k (x0,x1)=false)=>show Kf_ m l0 l1 l2 l3=false by rw[n.o,E.o,HS.o,XF_ p.o h];rfl);have g:=K.cell;have j:=K.lt;have hz:=a.size;subst hA;clear v hd B D n;go_wp2_with fail
        refine(HI.o _ _).mono ?_;rintro e w4 ⟨rfl,G⟩;have I:=Q7_ a G;have R:=K.next1 G;have Q:=Blk.fresh G;clear g j c0 c1 K a G;have g:=R.cell;have j:=R.lt;have cB:=Q.cell;have zB:=Q.lt
        cases r:inB x0 0 ((n0:Int) - 1)with
        |false=>
         have f:=h_ (x.o (by rw[s.o,r];rfl));go_wp2;go_ret;exact⟨Qg_ f.o.symm,I⟩
        |true=>
        go_wp2_with fail
        refine(HI.o _ _).mono ?_;rintro e w5 ⟨rfl,S⟩;have J:=Qb_ I S;have U:=R.next S;have B5:=Q.next S;clear g j cB zB R Q I S;have g:=U.cell;have j:=U.lt;have cB:=B5.cell;have zB:=B5.lt
        cases t:inB x1 0 ((n0:Int) - 1)with
        |false=>
         have f:=h_ (x.o (by rw[s.o,r,t];rfl));go_wp2;go_ret;exact⟨Qg_ f.o.symm,J⟩
        |true=>
        by_cases F:x0=x1
        ·have f:=h_ (x.o (by rw[s.o,r,t,dt_ F];rfl));subst F;go_wp2;go_ret;exact⟨Qg_ f.o.symm,J⟩
        ·have M:=ZK_ C.o p.o (by rw[s.o,r,t,df_ F];rfl);have V:(x0==x1)=false:=bn_.2 F;go_wp2;go_roundw
         case rel=>exact⟨k+1,oo,M,by go_num,U,J⟩
         case measure=>exact ms_
       ·have f:=h_ (show Kf_ m l0 l1 l2 l3=true by rw[n.o,E.o,HS.o,XV_ v (by have:=hl.o.2.2.2;omega)];rfl);clear v;go_wp2;go_ret;exact⟨Qg_ f.o.symm,a⟩
   ·have f:=h_ (show Kf_ m l0 l1 l2 l3=false by rw[n.o,o.o,df_ G];simp);clear n o;have X:(20:Int) < (n3:Int):=oo;go_enter func247,ntmps247;go_wp2_with (go_at_call 62;refine(QL_ _ _ _ _).mono ?_;rintro e w1 ⟨rfl,rfl⟩)
    refine(B.o _ (q.o _ grow_)).mono ?_;rintro e w2 ⟨rfl,c⟩;have K:=Blk.fresh c;have a:=Q7_ br c;have g:=K.cell;have j:=K.lt;clear c;go_wp2_with fail
    refine(D.o _ (q.o _ grow_)).mono ?_;rintro e w3 ⟨rfl,l⟩;replace a:=Qb_ a l;replace K:=K.next l;clear g j l;have g:=K.cell;have j:=K.lt;go_wp2;go_ret;exact⟨Qg_ f.o.symm,a⟩
  ·have f:=h_ (show Kf_ m l0 l1 l2 l3=false by rw[n.o,o.o,df_ l];simp);clear n o;have X:(40:Int) < (n2:Int):=oo;go_enter func247,ntmps247;go_wp2_with (go_at_call 62;refine(QL_ _ _ _ _).mono ?_;rintro e w1 ⟨rfl,rfl⟩)
   refine(B.o _ (q.o _ grow_)).mono ?_;rintro e w2 ⟨rfl,c⟩;have K:=Blk.fresh c;have a:=Q7_ br c;have g:=K.cell;have j:=K.lt;clear c;go_wp2_with fail
   refine(D.o _ (q.o _ grow_)).mono ?_;rintro e w3 ⟨rfl,l⟩;replace a:=Qb_ a l;replace K:=K.next l;clear g j l;have g:=K.cell;have j:=K.lt;go_wp2;go_ret;exact⟨Qg_ f.o.symm,a⟩
def plI (c:Int):Bool:=decide (32<=c/\c<=126)
theorem kX_ (c:Int) (w:World):Calls prog 106 #[I_ .u8 c] w (RS_ (B_ (plI c)) w):=by
 by_cases h1:32<=c
 ·by_cases h2:c<=126
  ·go_enter func106,ntmps106;go_wp2;go_ret;exact⟨Qg_ (show true=plI c from(dt_ ⟨h1,h2⟩).symm),rfl⟩
  ·go_enter func106,ntmps106;go_wp2;go_ret;exact⟨Qg_ (show false=plI c from(df_ oo).symm),rfl⟩
 ·have a:c < 32:=oo;go_enter func106,ntmps106;go_wp2;go_ret;exact⟨Qg_ (show false=plI c from(df_ oo).symm),rfl⟩
theorem Vl_ (s:BA) (w:World) (hs:s.size<=maxLen):Calls prog 134 #[T_ s] w (RS_ (B_ (QV_ s)) w):=by
 unfold maxLen at hs;go_enter func134,ntmps134;go_wp2
 go_loop [3] (fun i=>∃k:Nat,k<=s.size/\PlTo s k/\i=I_ j_ k) (fun i=>s.size - (intOf i).toNat)
 case atStart=>exact⟨0,lz_ _,xo_ s,rfl⟩
 case round=>
  obtain⟨k,hk,ha,rfl⟩:=hrel;by_cases d:k < s.size
  ·have g:=h_ (fun(b:Bool) (hb:pl s[k]=b) (W:World)=>show Calls prog 106 #[I_ .u8 (s[k].toNat:Int)] W fun e w'=>e=R_ (B_ b)/\W=w' by rw[<-hb];exact kX_ _ W)
   cases c:pl s[k]with
   |false=>
    have f:=h_ (jJ_ d c);have a:=h_ (g.o _ c);clear g c;go_wp2_with (go_at_call 106;refine(a.o _).mono ?_;rintro e w1 ⟨rfl,rfl⟩)
    go_ret;exact⟨Qg_ f.o.symm,rfl⟩
   |true=>
    have f:=xn_ ha d c;have a:=h_ (g.o _ c);clear g c;go_wp2_with (go_at_call 106;refine(a.o _).mono ?_;rintro e w1 ⟨rfl,rfl⟩)
    go_round
    case rel=>exact⟨k+1,oo,f,by go_num⟩
    case measure=>exact ms_
  ·have f:=h_ (Qaa_ ha oo);go_wp2;go_ret;exact⟨Qg_ f.o.symm,rfl⟩
theorem Ks_ {a b c:Int} {v:Bool} (h:inB a b c=v) (w:World):Calls prog 34 #[I_ j_ a,I_ j_ b,I_ j_ c] w fun e w'=>e=R_ (B_ v)/\w'=w:=by
 rw[<-h];exact(KH_ a b c w).mono fun _ _ h=>⟨h.1,h.2.symm⟩
theorem k6_ (m:Int) (A0:OA) (n0 c0:Nat) (l0:List RuleD) (A1:OA) (n1 c1:Nat) (l1:List ChunkD) (A2:OA) (n2 c2:Nat) (l2:List SpanD) (A3:OA) (n3 c3:Nat) (l3:List TieD) (r f:Int) (s:Bool) (q:Int) (w:World) (hl:Hid (LenP n0 l0 n1 l1 n2 l2 n3 l3)) (hr:RdP w A0 n0 l0 A1 n1 l1 A2 n2 l2 A3 n3 l3) (hn:n0<=8) (hv:Hid (KG_ YJ_ l0=true)):
  Calls prog 191 #[A_ #[I_ j_ m,S_ A0 n0 c0,S_ A1 n1 c1,S_ A2 n2 c2,S_ A3 n3 c3],A_ #[I_ j_ r,I_ j_ f,B_ s,I_ j_ q]] w (RB_ (B_ (KW_ l0 r f q)) w):=by
 have HD:Hid (KW_ l0 r f q=(inB r 0 ((n0:Int) - 1)&&inB q 0 40&&jk_ l0 r f)):=by
  have:=hl.o.1;exact h_ (by unfold KW_;rw[this])
 have hL:=h_ hl.o.1;have hR:=hr.1;clear hr hl;have k0:IntKind.i64.wrap ((n0:Int) - 1)=(n0:Int) - 1:=by rw[IntKind.wrap_i64];omega
 have j:=h_ k0;clear k0
 cases g:inB r 0 ((n0:Int) - 1)with
 |false=>
  have h:=h_ (show KW_ l0 r f q=false by rw[HD.o,g];rfl);go_enter func191,ntmps191;go_wp2;have k0:=j.o;go_quiet ((go_at_call 34;first|(with_reducible exact Calls.quiet_of_same (Ks_ g _))|exact Calls.quiet_of_same (Ks_ rfl _)));go_wp2;go_ret;exact⟨Qg_ h.o.symm,grow_⟩
 |true=>
  obtain⟨r1,r2⟩:=Yl_ g;obtain⟨k,rfl⟩:=eo_ r1;have l:k < n0:=oo;obtain⟨⟨x0,x1⟩,hd⟩:∃d,l0[k]? =some d:=⟨_,gE (by have:=hL.o;omega)⟩;have a:=vr_ hv.o hd;have h:=h_ (show KW_ l0 (k:Int) f q=(inB q 0 40&&inB f 1 (x0 - 1))by rw[HD.o,g,vK_ hd,Bool.true_and]);have n:2<=x0/\x0<=3:=by
   unfold YJ_ at a;have:=(Bool.and_eq_true _ _).mp a;exact Yl_ this.1
  obtain⟨v0,v1⟩:=n;have i:IntKind.i64.wrap (x0 - 1)=x0 - 1:=vN_ x0 oo oo;have hW:=h_ i;clear i;obtain⟨b,off,hA,o,c0,c1⟩:=Xo_ ((hR.alloc (C_ #[I_ j_ m,S_ A0 n0 c0,S_ A1 n1 c1,S_ A2 n2 c2,S_ A3 n3 c3] 149)).alloc (C_ #[I_ j_ (k:Int),I_ j_ f,B_ s,I_ j_ q] 176)) l hd;subst hA;have p:(0:Int)<=(k:Int):=oo;have t:(k:Int) < (n0:Int):=oo;clear hd a hR
  cases h1:inB f 1 (x0 - 1)with
  |false=>
   have c:=h_ (show KW_ l0 (k:Int) f q=false by rw[h.o,h1,Bool.and_false]);go_enter func191,ntmps191;go_wp2;have k0:=j.o;have i:=hW.o;go_quiet ((go_at_call 34;first|(with_reducible exact Calls.quiet_of_same (Ks_ g _))|(with_reducible exact Calls.quiet_of_same (Ks_ h1 _))|exact Calls.quiet_of_same (Ks_ rfl _)));go_wp2;go_ret;exact⟨Qg_ c.o.symm,grow_⟩
  |true=>
   have c:=h_ (show KW_ l0 (k:Int) f q=inB q 0 40 by rw[h.o,h1,Bool.and_true]);go_enter func191,ntmps191;go_wp2;have k0:=j.o;have i:=hW.o;go_quiet ((go_at_call 34;first|(with_reducible exact Calls.quiet_of_same (Ks_ g _))|(with_reducible exact Calls.quiet_of_same (Ks_ h1 _))|exact Calls.quiet_of_same (Ks_ rfl _)));go_wp2;go_ret;exact⟨Qg_ c.o.symm,grow_⟩
theorem Jl_ {s:BA} {v:Bool} (h:QV_ s=v) (hs:s.size<=maxLen) (w:World):Calls prog 134 #[T_ s] w (RS_ (B_ v) w):=by
 rw[<-h];exact Vl_ s w hs
theorem QdR_ (m:Int) (l0:List RuleD) (l1:List ChunkD) (l2:List SpanD) (l3:List TieD):
  Kf_ m l0 l1 l2 l3=(inB m 0 60&&(decide (l0.length<=8)&&(inB l1.length 1 80&&(decide (l2.length<=40)&&(decide (l3.length<=20)&&(KG_ YJ_ l0&&(KG_ (ZT_ l0 l1.length) l1&&(Vm_ l1&&(KG_ (Y8_ l1.length) l2&&KG_ (ka_ l0.length) l3))))))))):=by
 unfold Kf_ GS_ X3_ KS_;generalize inB m 0 60=b0;generalize decide (l0.length<=8)=b1;generalize inB l1.length 1 80=b2;generalize decide (l2.length<=40)=b3;generalize decide (l3.length<=20)=b4;generalize KG_ YJ_ l0=b5;generalize KG_ (ZT_ l0 l1.length) l1=b6;generalize Vm_ l1=b7;generalize KG_ (Y8_ l1.length) l2=b8;generalize KG_ (ka_ l0.length) l3=b9
 ac_rfl
theorem QfY_ (n1 k:Nat) (x0 x1 x2:Int):Y8_ n1 k (x0,x1,x2)=(inB x1 0 ((n1:Int) - 2)&&(inB x0 0 x1&&inB x2 0 9)):=by
 unfold Y8_ inB;rw[Bool.eq_iff_iff];simp only[Bool.and_eq_true,decide_eq_true_eq];constructor
 ·rintro⟨a,b,c,d⟩;exact⟨oo,oo,d⟩
 ·rintro⟨a,b,c⟩;exact⟨oo,oo,oo,c⟩
theorem WL_ (m:Int) (A0:OA) (n0 c0:Nat) (l0:List RuleD) (A1:OA) (n1 c1:Nat) (l1:List ChunkD) (A2:OA) (n2 c2:Nat) (l2:List SpanD) (A3:OA) (n3 c3:Nat) (l3:List TieD) (w:World) (hl:Hid (LenP n0 l0 n1 l1 n2 l2 n3 l3)) (hr:RdP w A0 n0 l0 A1 n1 l1 A2 n2 l2 A3 n3 l3) (hn:n0<=1048576/\n1<=1048576/\n2<=1048576/\n3<=1048576) (hs:Hid (∀d∈l1,d.1.size<=maxLen)):
  Calls prog 139 #[A_ #[I_ j_ m,S_ A0 n0 c0,S_ A1 n1 c1,S_ A2 n2 c2,S_ A3 n3 c3]] w (RB_ (B_ (Kf_ m l0 l1 l2 l3)) w):=by
 have U:=h_ (fun W (hW:Below w.heap.size w W)=>hr.next hW);obtain⟨q0,q1,q2,q3⟩:=hn;have F:Hid (Kf_ m l0 l1 l2 l3=(inB m 0 60&&(decide (n0<=8)&&(inB n1 1 80&&(decide (n2<=40)&&(decide (n3<=20)&&(KG_ YJ_ l0&&(KG_ (ZT_ l0 n1) l1&&(Vm_ l1&&(KG_ (Y8_ n1) l2&&KG_ (ka_ n0) l3)))))))))):=by
  obtain⟨o,v,E,e3⟩:=hl.o;have h:=QdR_ m l0 l1 l2 l3;rw[o,v,E,e3]at h;exact h_ h
 have t:=h_ (fun(h8:n0<=8) (hv:KG_ YJ_ l0=true) (x1 n:Int) (C:Bool) (q:Int) (b:Bool) (g:KW_ l0 x1 n q=b) (W:World) (hR:RdP W A0 n0 l0 A1 n1 l1 A2 n2 l2 A3 n3 l3)=>show Calls prog 191 #[A_ #[I_ j_ m,S_ A0 n0 c0,S_ A1 n1 c1,S_ A2 n2 c2,S_ A3 n3 c3],A_ #[I_ j_ x1,I_ j_ n,B_ C,I_ j_ q]] W fun e w'=>e=R_ (B_ b)/\Below W.heap.size W w' by rw[<-g];exact k6_ m A0 n0 c0 l0 A1 n1 c1 l1 A2 n2 c2 l2 A3 n3 c3 l3 x1 n C q W hl hR h8 (h_ hv));clear hr
 cases h0:inB m 0 60 with
 |false=>
  have c:=h_ (show Kf_ m l0 l1 l2 l3=false by rw[F.o,h0];rfl);clear F t;go_enter func139,ntmps139;go_wp2_with (go_at_call 34;refine(KH_ _ _ _ _).mono ?_;rintro e w1 ⟨rfl,rfl⟩)
  go_ret;exact⟨Qg_ c.o.symm,grow_⟩
 |true=>
 by_cases h1:n0<=8
 rotate_left
 ·
  have c:=h_ (show Kf_ m l0 l1 l2 l3=false by rw[F.o,df_ h1];simp);clear F t;have aG:(8:Int) < (n0:Int):=oo;go_enter func139,ntmps139;go_wp2_with (go_at_call 34;refine(KH_ _ _ _ _).mono ?_;rintro e w1 ⟨rfl,rfl⟩)
  go_ret;exact⟨Qg_ c.o.symm,grow_⟩
 cases O:inB (n1:Int) 1 80 with
 |false=>
  have c:=h_ (show Kf_ m l0 l1 l2 l3=false by rw[F.o,O];simp);clear F t;go_enter func139,ntmps139;go_wp2_with (go_at_call 34;refine(KH_ _ _ _ _).mono ?_;rintro e w1 ⟨rfl,rfl⟩)
  go_ret;exact⟨Qg_ c.o.symm,grow_⟩
 |true=>
 by_cases h3:n2<=40
 rotate_left
 ·
  have c:=h_ (show Kf_ m l0 l1 l2 l3=false by rw[F.o,df_ h3];simp);clear F t;have aH:(40:Int) < (n2:Int):=oo;go_enter func139,ntmps139;go_wp2_with (go_at_call 34;refine(KH_ _ _ _ _).mono ?_;rintro e w1 ⟨rfl,rfl⟩)
  go_ret;exact⟨Qg_ c.o.symm,grow_⟩
 by_cases h4:n3<=20
 rotate_left
 ·
  have c:=h_ (show Kf_ m l0 l1 l2 l3=false by rw[F.o,df_ h4];simp);clear F t;have aI:(20:Int) < (n3:Int):=oo;go_enter func139,ntmps139;go_wp2_with (go_at_call 34;refine(KH_ _ _ _ _).mono ?_;rintro e w1 ⟨rfl,rfl⟩)
  go_ret;exact⟨Qg_ c.o.symm,grow_⟩
 have I:=h_ (show Kf_ m l0 l1 l2 l3=(KG_ YJ_ l0&&(KG_ (ZT_ l0 n1) l1&&(Vm_ l1&&(KG_ (Y8_ n1) l2&&KG_ (ka_ n0) l3))))by rw[F.o,h0,O,dt_ h1,dt_ h3,dt_ h4];simp);obtain⟨i1,i2⟩:=Yl_ O;clear F;go_enter func139,ntmps139;go_wp2_with (go_at_call 34;refine(KH_ _ _ _ _).mono ?_;rintro e w1 ⟨rfl,rfl⟩)
 clear h0 O;go_loopw [4] (fun i wr=>∃k:Nat,k<=n0/\AllK YJ_ l0 k/\i=I_ j_ k/\Blk wr w.heap.size 149 #[I_ j_ m,S_ A0 n0 c0,S_ A1 n1 c1,S_ A2 n2 c2,S_ A3 n3 c3]/\Below w.heap.size w wr) (fun i _=>n0 - (intOf i).toNat)
 case atStart=>exact⟨0,lz_ _,Z9_ _ _,rfl,Blk.new _ _ _,grow_⟩
 case round=>
 obtain⟨k,hk,p,rfl,K,g⟩:=hrel;by_cases A:k < n0
 ·obtain⟨⟨x0,x1⟩,hd⟩:∃d,l0[k]? =some d:=⟨_,gE (by have:=hl.o.1;omega)⟩;obtain⟨b,off,hA,f,P,Q⟩:=Xo_ (U.o _ g).1 A hd;have x:=h_ p;have j:=h_ hd;have r:Hid (YJ_ k (x0,x1)=(inB x0 2 3&&inB x1 0 9)):=rfl;have G:=h_ (fun(h:YJ_ k (x0,x1)=false)=>show Kf_ m l0 l1 l2 l3=false by rw[I.o,XF_ j.o h];rfl);have N:=K.cell;have D:=K.lt;subst hA;clear p hd t I
  cases o:inB x0 2 3 with
  |false=>
   have c:=h_ (G.o (by rw[r.o,o];rfl));go_wp2_with (go_at_call 34;refine(KH_ _ _ _ _).mono ?_;rintro e w1 ⟨rfl,rfl⟩)
   go_ret;exact⟨Qg_ c.o.symm,g⟩
  |true=>
  cases v:inB x1 0 9 with
  |false=>
   have c:=h_ (G.o (by rw[r.o,o,v];rfl));go_wp2_with (go_at_call 34;refine(KH_ _ _ _ _).mono ?_;rintro e w1 ⟨rfl,rfl⟩)
   go_ret;exact⟨Qg_ c.o.symm,g⟩
  |true=>
   have B:=ZK_ x.o j.o (by rw[r.o,o,v];rfl);go_wp2_with (go_at_call 34;refine(KH_ _ _ _ _).mono ?_;rintro e w1 ⟨rfl,rfl⟩)
   go_roundw
   case rel=>exact⟨k+1,oo,B,by go_num,K,g⟩
   case measure=>exact ms_
 have S:=XV_ p (by have:=hl.o.1;omega);have J:=h_ (show Kf_ m l0 l1 l2 l3=(KG_ (ZT_ l0 n1) l1&&(Vm_ l1&&(KG_ (Y8_ n1) l2&&KG_ (ka_ n0) l3)))by rw[I.o,S];rfl);have aa:=h_ (t.o h1 S);have N:=K.cell;have D:=K.lt;clear p t I S;go_wp2;clear N D;obtain⟨wO,ar⟩:∃wO,wO=wr:=⟨_,rfl⟩;subst ar;go_loopw [5] (fun i wr=>∃k:Nat,k<=n1/\AllK (ZT_ l0 n1) l1 k/\i=I_ j_ k/\Blk wr w.heap.size 149 #[I_ j_ m,S_ A0 n0 c0,S_ A1 n1 c1,S_ A2 n2 c2,S_ A3 n3 c3]/\Below w.heap.size w wr) (fun i _=>n1 - (intOf i).toNat)
 case atStart=>exact⟨0,lz_ _,Z9_ _ _,rfl,K,g⟩
 case round=>
 clear K g;obtain⟨k,hk,p,rfl,K,g⟩:=hrel;by_cases A:k < n1
 ·obtain⟨⟨x0,x1,n,C,q⟩,hd⟩:∃d,l1[k]? =some d:=⟨_,gE (by have:=hl.o.2.1;omega)⟩;have HX:=h_ (hs.o _ (lm_ hd));have x:=h_ p;have j:=h_ hd;have r:Hid (ZT_ l0 n1 k (x0,x1,n,C,q)=(QV_ x0&&(decide (n1<=k+1)||KW_ l0 x1 n q))):=rfl;have G:=h_ (fun(h:ZT_ l0 n1 k (x0,x1,n,C,q)=false)=>show Kf_ m l0 l1 l2 l3=false by rw[J.o,XF_ j.o h];rfl);obtain⟨b,off,hA,f,P,Q,V,y3,y4⟩:=Zk_ (U.o _ g).2.1 A hd;have Z:=h_ (U.o _ g);subst hA;have D:=K.lt;have k0:wr.cell? ⟨w.heap.size,0,none⟩=some (I_ j_ m):=K.cell 0;have k1:wr.cell? ⟨w.heap.size,1,none⟩=some (S_ A0 n0 c0):=K.cell 1;have k2:wr.cell? ⟨w.heap.size,2,none⟩=some (S_ (some ⟨b,off,none⟩) n1 c1):=K.cell 2;have k3:wr.cell? ⟨w.heap.size,3,none⟩=some (S_ A2 n2 c2):=K.cell 3;have k4:wr.cell? ⟨w.heap.size,4,none⟩=some (S_ A3 n3 c3):=K.cell 4;have aJ:(0:Int)<=(k:Int):=oo;have aK:(k:Int) < (n1:Int):=oo;have wk:IntKind.i64.wrap ((k:Int)+1)=(k:Int)+1:=by rw[IntKind.wrap_i64];omega
  have WK:=h_ wk;clear p hd J wk
  -- what the test comes to
  have T:∃(bad:Bool),(bad=true->ZT_ l0 n1 k (x0,x1,n,C,q)=false)/\(bad=false->ZT_ l0 n1 k (x0,x1,n,C,q)=true)/\bad=!ZT_ l0 n1 k (x0,x1,n,C,q):=⟨_,by cases ZT_ l0 n1 k (x0,x1,n,C,q)<;>simp,by cases ZT_ l0 n1 k (x0,x1,n,C,q)<;>simp,rfl⟩;obtain⟨bad,af,ag,ah⟩:=T;have al:=h_ af;have am:=h_ ag;have R:=h_ ah;clear af ag ah;go_upto_region 12 with fail
  go_cut [94] (fun s wx=>s=B_ bad/\Below wr.heap.size wr wx)
  case first=>
   have wk:=WK.o
   cases o:QV_ x0 with
   |false=>
    have a:bad=true:=(by rw[R.o,r.o,o];rfl);have X:=h_ a;clear a;go_quiet ((go_at_call 134;(with_reducible exact Calls.quiet_of_same ((Jl_ o HX.o _).mono fun _ _ h=>⟨h.1,h.2.symm⟩))))
    all_goals (go_wp2_with fail;go_meet;exact⟨by rw[X.o],grow_⟩)
   |true=>
    by_cases H:n1<=k+1
    ·have a:bad=false:=(by rw[R.o,r.o,o,dt_ H];rfl);have X:=h_ a;have hq:¬((k:Int)+1 < (n1:Int)):=oo;clear a;go_quiet ((go_at_call 134;(with_reducible exact Calls.quiet_of_same ((Jl_ o HX.o _).mono fun _ _ h=>⟨h.1,h.2.symm⟩))))
     all_goals (go_wp2_with fail;go_meet;exact⟨by rw[X.o],grow_⟩)
    ·have hq:((k:Int)+1 < (n1:Int)):=oo;have a:bad=!KW_ l0 x1 n q:=(by rw[R.o,r.o,o,df_ H];simp);have X:=h_ a;clear a
     go_region_held3 (fun w'=>w'.cell? ⟨w.heap.size,0,none⟩=some (I_ j_ m)/\w'.cell? ⟨w.heap.size,1,none⟩=some (S_ A0 n0 c0)/\w'.cell? ⟨w.heap.size,2,none⟩=some (S_ (some ⟨b,off,none⟩) n1 c1)/\w'.cell? ⟨w.heap.size,3,none⟩=some (S_ A2 n2 c2)/\w'.cell? ⟨w.heap.size,4,none⟩=some (S_ A3 n3 c3)/\w'.cell? ⟨b,off+k * 5,none⟩=some (T_ x0)/\w'.cell? ⟨b,off+k * 5+1,none⟩=some (I_ j_ x1)/\w'.cell? ⟨b,off+k * 5+2,none⟩=some (I_ j_ n)/\w'.cell? ⟨b,off+k * 5+3,none⟩=some (B_ C)/\w'.cell? ⟨b,off+k * 5+4,none⟩=some (I_ j_ q)) (first|exact⟨k0,k1,k2,k3,k4,P,Q,V,y3,y4⟩|exact⟨u0,u1,u2,u3,u4,u5,u6,u7,u8,u9⟩|go_keep) (first|(go_at_call 134;(with_reducible refine(Jl_ o HX.o _).mono ?_);rintro e w8 ⟨rfl,rfl⟩)|(go_at_call 191;refine(aa.o _ _ _ _ _ rfl _ (by first|exact Z.o|exact Z.o.drew)).mono ?_;rintro e w9 ⟨rfl,h9⟩;have l:Below wr.heap.size wr w9:=Qb_ grow_ h9;have u0:=((QW_ l).1 _ _ D).trans k0;have u1:=((QW_ l).1 _ _ D).trans k1;have u2:=((QW_ l).1 _ _ D).trans k2;have u3:=((QW_ l).1 _ _ D).trans k3;have u4:=((QW_ l).1 _ _ D).trans k4;have u5:=((QW_ l).1 _ _ f).trans P;have u6:=((QW_ l).1 _ _ f).trans Q;have u7:=((QW_ l).1 _ _ f).trans V;have u8:=((QW_ l).1 _ _ f).trans y3;have u9:=((QW_ l).1 _ _ f).trans y4))
     all_goals (go_wp2_with fail;go_meet;exact⟨by rw[X.o],l⟩)
  case rest=>
  obtain⟨rfl,O⟩:=hcut;have ab:=Qb_ g O;have K2:=K.next O;clear g K O k0 k1 k2 k3 k4 P Q V y3 y4
  cases a:bad with
  |true=>
   have c:=h_ (G.o (al.o a));go_wp2;go_ret;exact⟨Qg_ c.o.symm,ab⟩
  |false=>
   have B:=ZK_ x.o j.o (am.o a);go_wp2;go_roundw
   case rel=>exact⟨k+1,oo,B,by go_num,K2,ab⟩
   case measure=>exact ms_
 have ac:=XV_ p (by have:=hl.o.2.1;omega);have Y:=h_ (show Kf_ m l0 l1 l2 l3=(Vm_ l1&&(KG_ (Y8_ n1) l2&&KG_ (ka_ n0) l3))by rw[J.o,ac];rfl);obtain⟨⟨x0,x1,n,C,q⟩,hd⟩:∃d,l1[n1 - 1]? =some d:=⟨_,gE (by have:=hl.o.2.1;omega)⟩;have ad:n1 - 1 < n1:=oo;obtain⟨b,off,hA,f,P,Q,V,y3,y4⟩:=Zk_ (U.o _ g).2.1 ad hd;have y:=h_ (show Kf_ m l0 l1 l2 l3=(GM_ (x0,x1,n,C,q)&&(KG_ (Y8_ n1) l2&&KG_ (ka_ n0) l3))by rw[Y.o];unfold Vm_;rw[hl.o.2.1,hd]);have c:=h_ (fun(h:GM_ (x0,x1,n,C,q)=false)=>show Kf_ m l0 l1 l2 l3=false by rw[y.o,h];rfl);have N:=K.cell;have D:=K.lt;have j0:((n1 - 1:Nat):Int)=(n1:Int) - 1:=oo;have J0:=h_ j0;subst hA;clear p hd J Y ac aa j0;by_cases v:x1=0
 rotate_left
 ·
  have z:=h_ (c.o (by simp[GM_,v]));have aD:(x1==0)=false:=bn_.2 v;clear y;go_wp2;go_ret;exact⟨Qg_ z.o.symm,g⟩
 subst v;by_cases E:n=0
 rotate_left
 ·
  have z:=h_ (c.o (by simp[GM_,E]));have aE:(n==0)=false:=bn_.2 E;clear y;go_wp2;go_ret;exact⟨Qg_ z.o.symm,g⟩
 subst E
 cases C with
 |true=>
  have z:=h_ (c.o (by simp[GM_]));clear y;go_wp2;go_ret;exact⟨Qg_ z.o.symm,g⟩
 |false=>
 by_cases e4:q=0
 rotate_left
 ·
  have z:=h_ (c.o (by simp[GM_,e4]));have aF:(q==0)=false:=bn_.2 e4;clear y;go_wp2;go_ret;exact⟨Qg_ z.o.symm,g⟩
 subst e4;have L:=h_ (show Kf_ m l0 l1 l2 l3=(KG_ (Y8_ n1) l2&&KG_ (ka_ n0) l3)by rw[y.o];rfl);clear y c;go_wp2;clear N D P Q V y3 y4;obtain⟨wP,av⟩:∃wP,wP=wr:=⟨_,rfl⟩;subst av;go_loopw [6] (fun i wr=>∃k:Nat,k<=n2/\AllK (Y8_ n1) l2 k/\i=I_ j_ k/\Blk wr w.heap.size 149 #[I_ j_ m,S_ A0 n0 c0,S_ (some ⟨b,off,none⟩) n1 c1,S_ A2 n2 c2,S_ A3 n3 c3]/\Below w.heap.size w wr) (fun i _=>n2 - (intOf i).toNat)
 case atStart=>exact⟨0,lz_ _,Z9_ _ _,rfl,K,g⟩
 case round=>
 clear K g f;obtain⟨k,hk,p,rfl,K,g⟩:=hrel;by_cases A:k < n2
 ·obtain⟨⟨x0,x1,n⟩,hd⟩:∃d,l2[k]? =some d:=⟨_,gE (by have:=hl.o.2.2.1;omega)⟩;obtain⟨b',ai,hA,f,P,Q,V⟩:=WJ_ (U.o _ g).2.2.1 A hd;have x:=h_ p;have j:=h_ hd;have r:=h_ (QfY_ n1 k x0 x1 n);have G:=h_ (fun(h:Y8_ n1 k (x0,x1,n)=false)=>show Kf_ m l0 l1 l2 l3=false by rw[L.o,XF_ j.o h];rfl);have N:=K.cell;have D:=K.lt;have hz:=g.size;subst hA;clear p hd L
  cases o:inB x1 0 ((n1:Int) - 2)with
  |false=>
   have c:=h_ (G.o (by rw[r.o,o];rfl));go_wp2_with (go_at_call 34;refine(KH_ _ _ _ _).mono ?_;rintro e w1 ⟨rfl,rfl⟩)
   go_ret;exact⟨Qg_ c.o.symm,grow_⟩
  |true=>
  cases v:inB x0 0 x1 with
  |false=>
   have c:=h_ (G.o (by rw[r.o,o,v];rfl));go_wp2_with (go_at_call 34;refine(KH_ _ _ _ _).mono ?_;rintro e w1 ⟨rfl,rfl⟩)
   go_ret;exact⟨Qg_ c.o.symm,grow_⟩
  |true=>
  cases E:inB n 0 9 with
  |false=>
   have c:=h_ (G.o (by rw[r.o,o,v,E];rfl));go_wp2_with (go_at_call 34;refine(KH_ _ _ _ _).mono ?_;rintro e w1 ⟨rfl,rfl⟩)
   go_ret;exact⟨Qg_ c.o.symm,grow_⟩
  |true=>
   have B:=ZK_ x.o j.o (by rw[r.o,o,v,E];rfl);go_wp2_with (go_at_call 34;refine(KH_ _ _ _ _).mono ?_;rintro e w1 ⟨rfl,rfl⟩)
   go_roundw
   case rel=>exact⟨k+1,oo,B,by go_num,K.alloc _,grow_⟩
   case measure=>exact ms_
 have ae:=XV_ p (by have:=hl.o.2.2.1;omega);have M:=h_ (show Kf_ m l0 l1 l2 l3=KG_ (ka_ n0) l3 by rw[L.o,ae];rfl);have N:=K.cell;have D:=K.lt;clear p L ae;go_wp2;clear N D;obtain⟨wQ,ax⟩:∃wQ,wQ=wr:=⟨_,rfl⟩;subst ax;go_loopw [8] (fun i wr=>∃k:Nat,k<=n3/\AllK (ka_ n0) l3 k/\i=I_ j_ k/\Blk wr w.heap.size 149 #[I_ j_ m,S_ A0 n0 c0,S_ (some ⟨b,off,none⟩) n1 c1,S_ A2 n2 c2,S_ A3 n3 c3]/\Below w.heap.size w wr) (fun i _=>n3 - (intOf i).toNat)
 case atStart=>exact⟨0,lz_ _,Z9_ _ _,rfl,K,g⟩
 case round=>
 clear K g;obtain⟨k,hk,p,rfl,K,g⟩:=hrel;by_cases A:k < n3
 ·obtain⟨⟨x0,x1⟩,hd⟩:∃d,l3[k]? =some d:=⟨_,gE (by have:=hl.o.2.2.2;omega)⟩;obtain⟨b',ai,hA,f,P,Q⟩:=Qax_ (U.o _ g).2.2.2 A hd;have x:=h_ p;have j:=h_ hd;have r:Hid (ka_ n0 k (x0,x1)=(inB x0 0 ((n0:Int) - 1)&&(inB x1 0 ((n0:Int) - 1)&&!decide (x0=x1)))):=rfl;have G:=h_ (fun(h:ka_ n0 k (x0,x1)=false)=>show Kf_ m l0 l1 l2 l3=false by rw[M.o,XF_ j.o h]);have N:=K.cell;have D:=K.lt;have hz:=g.size;subst hA;clear p hd M
  cases o:inB x0 0 ((n0:Int) - 1)with
  |false=>
   have c:=h_ (G.o (by rw[r.o,o];rfl));go_wp2_with (go_at_call 34;refine(KH_ _ _ _ _).mono ?_;rintro e w1 ⟨rfl,rfl⟩)
   go_ret;exact⟨Qg_ c.o.symm,grow_⟩
  |true=>
  cases v:inB x1 0 ((n0:Int) - 1)with
  |false=>
   have c:=h_ (G.o (by rw[r.o,o,v];rfl));go_wp2_with (go_at_call 34;refine(KH_ _ _ _ _).mono ?_;rintro e w1 ⟨rfl,rfl⟩)
   go_ret;exact⟨Qg_ c.o.symm,grow_⟩
  |true=>
  by_cases E:x0=x1
  ·have c:=h_ (G.o (by rw[r.o,o,v,dt_ E];rfl));subst E;go_wp2_with (go_at_call 34;refine(KH_ _ _ _ _).mono ?_;rintro e w1 ⟨rfl,rfl⟩)
   go_ret;exact⟨Qg_ c.o.symm,grow_⟩
  ·have B:=ZK_ x.o j.o (by rw[r.o,o,v,df_ E];rfl);have e3:(x0==x1)=false:=bn_.2 E;go_wp2_with (go_at_call 34;refine(KH_ _ _ _ _).mono ?_;rintro e w1 ⟨rfl,rfl⟩)
   go_roundw
   case rel=>exact⟨k+1,oo,B,by go_num,K.alloc _,grow_⟩
   case measure=>exact ms_
 have c:=h_ (show Kf_ m l0 l1 l2 l3=true by rw[M.o,XV_ p (by have:=hl.o.2.2.2;omega)]);have N:=K.cell;have D:=K.lt;clear p M;go_wp2;go_ret;exact⟨Qg_ c.o.symm,g⟩
section
variable {B hi b B2 hi2:Nat} {w w' w2 w0:World} {A:OA} {n c:Nat}
variable {l:List Nd}
end
theorem QcE_ (A:OA) (m c:Nat) (l:LI) (w:World) (hr:Rd w 1 A m (Qa_ l)) (hm:m<=1048576):
  Calls prog 288 #[S_ A m c] w fun e w'=>∃A3 c3,e=R_ (S_ A3 m c3)/\Mine w' w.heap.size 3 1 A3 m c3 (Qa_ l)/\Below w.heap.size w w':=by
 have hl:l.length=m:=by have:=hr.1;simpa[Qa_]using this
 by_cases h0:m=0
 ·subst h0;obtain rfl:l=[]:=ln_ hl
  cases A with
  |none=>
   refine(Tryz.slices_Clone_int_nil 0 c w).mono ?_;rintro e w2 ⟨rfl,rfl⟩;exact⟨none,0,rfl,Mine.mk_nil _ _ _ _,br⟩
  |some a=>
   refine(Tryz.slices_Clone_int_zero a c w).mono ?_;rintro e w2 ⟨v',rfl,h1,_,d⟩;obtain⟨A3,c3,rfl,f⟩:=Mine.of h1;exact⟨A3,c3,rfl,f,d⟩
 ·obtain⟨b,off,rfl,hb,hc⟩:=hr.at_ oo;refine(Tryz.slices_Clone_int b off m c l w oo oo (fun j hj=>?_)).mono ?_
  ·have:=hc j (I_ j_ (l.getD j 0)) (by
    unfold Qa_;rw[List.getElem?_map,List.getElem?_eq_getElem hj,List.getD_eq_getElem?_getD,List.getElem?_eq_getElem hj];rfl)
   exact this
  ·rintro e w2 ⟨v',rfl,h1,_,d⟩;rw[List.take_of_length_le oo]at h1;obtain⟨A3,c3,rfl,f⟩:=Mine.of h1;exact⟨A3,c3,rfl,f,d⟩
theorem Uw_ {P:Program} {w:World} {B:Array Oper} {rest:List Oper} {o:Oper} {a:Act} {Q:Exit->Act->World->Prop} (r:o.guard=none) (s x:Operand) (t:TypeId)
  (ho:o.op=.call { callee:=.builtin .append,args:=#[s,x],argTypes:=#[t,t] })
  (base:Nat) (e:TypeId) (i:TypeInfo) (z:Value) (size f:Nat) (ht:P.underlying t=some (.slice e)) (hi:P.info? e=some i) (hz:i.zero=some z)
  (q:i.size=size) (F:i.bytes=f) (I:z.cells.size=size) (H:0 < size)
  (v:Value) (n:Nat) (xs:List Value) (hs:a.eval s=v) (g:w.ownsRow base e size v n xs)
  (A:OA) (m c:Nat) (d:List Value) (hx:a.eval x=S_ A m c) (C:Rd w size A m d) (hA:A=none->m=0/\c=0) (h1:∀u∈d,u.oneCell'=true)
  (E:n+m<=maxLen) (l:(n+m) * f<=140737488355328) (p:base<=w.heap.size)
  (h:∀v' w',w'.ownsRow base e size v' (n+m) (xs++d)->w.grownBy w' v.ownBlock->wpList P B Q rest (a.put o.dst v') w'):wpList P B Q (o::rest) a w:=by
 cases A with
 |none=>
  obtain⟨rfl,rfl⟩:=hA rfl;have e0:d=[]:=ln_ (by simpa using C.1);subst e0;exact wpList_append_own_none r s x t ho base e i size ht hi v n xs hs g hx (h v w (by rw[List.append_nil];exact g) ⟨rfl,rfl,rfl,lr_ _,fun k _ _=>rfl⟩)
 |some ad=>
  refine Qi_ w r s x t ho base e i z size f ht hi hz q F I H v n xs hs g ad m c d hx C.1 (fun j u hj=>?_) h1 E l p (fun v' w' h2 h3 _=>h v' w' h2 h3);have y:=(gs_.1 hj).1;rw[C.1]at y;have h0:0 < m:=Nat.pos_of_ne_zero (fun e=>by subst e;simp at y);obtain⟨b,off,D,_,G⟩:=C.2 h0;injection D with D;subst D;have h7:=G j u hj;unfold Addr.add;split
  ·next e=>subst e;simpa using h7
  ·simpa using h7
theorem Below.grown {w wr W1 w3:World} {e:TypeId} {s:Nat} {A:OA} {n c:Nat} {xs:List Value} (hm:Mine wr w.heap.size e s A n c xs) (hb:Below w.heap.size w wr) (h1:Below wr.heap.size wr W1) (hg:W1.grownBy w3 (S_ A n c).ownBlock):Below w.heap.size w w3:=by
 have h2:=Qb_ hb h1;rw[Q3_]at hg;exact XY_ h2 hg (fun g e=>(Mine.blk hm e).1)
theorem zg_ {P:Program} {w:World} {H:Array Oper} {o:Oper} {a:Act} {K:Act->World->Prop} {Q:Exit->Act->World->Prop} {E:Prop} (M:o.guard=none) (s x:Operand) (t:TypeId)
  (ho:o.op=.call { callee:=.builtin .append,args:=#[s,x],argTypes:=#[t,t] })
  (base:Nat) (e:TypeId) (i:TypeInfo) (z:Value) (size f:Nat) (N:P.underlying t=some (.slice e)) (hi:P.info? e=some i) (hz:i.zero=some z)
  (q:i.size=size) (B:i.bytes=f) (O:z.cells.size=size) (G:0 < size)
  (v:Value) (n:Nat) (xs:List Value) (hs:a.eval s=v) (l:w.ownsRow base e size v n xs)
  (A:OA) (m c:Nat) (d:List Value) (hx:a.eval x=S_ A m c) (D:Rd w size A m d) (hA:A=none->m=0/\c=0) (h1:∀u∈d,u.oneCell'=true)
  (y:n+m<=maxLen) (g:(n+m) * f<=140737488355328) (r:base<=w.heap.size)
  (h:∀v' w',w'.ownsRow base e size v' (n+m) (xs++d)->w.grownBy w' v.ownBlock->(v'.ownBlock=v.ownBlock\/v'.ownBlock=some w.heap.size)->K (a.put o.dst v') w'):
  if Region.wanted o (yielded H a.tmps)=true then Oper.wp P o a w K Q else E:=by
 have hw:Region.wanted o (yielded H a.tmps)=true:=by simp[Region.wanted,M]
 rw[ip_ hw]
 cases A with
 |none=>
  obtain⟨rfl,rfl⟩:=hA rfl;have e0:d=[]:=ln_ (by simpa using D.1);subst e0;have F:=run_append_owned_none (P:=P) (w:=w) base t o.type e i size N hi v n xs l;unfold Oper.wp;simp[execOp,ho,resolve,invoke,builtin,hs,hx,F,Result.andThen];exact h v w (by rw[List.append_nil];exact l) ⟨rfl,rfl,rfl,lr_ _,fun k _ _=>rfl⟩ (.inl rfl)
 |some I=>
  have p:∀j u,d[j]? =some u->w.cell? (I.add j)=some u:=fun j u hj=>by
   have C:=(gs_.1 hj).1;rw[D.1]at C;have h0:0 < m:=Nat.pos_of_ne_zero (fun e=>by subst e;simp at C);obtain⟨b,off,J,_,L⟩:=D.2 h0;injection J with J;subst J;have h7:=L j u hj;unfold Addr.add;split
   ·next e=>subst e;simpa using h7
   ·simpa using h7
  obtain⟨v',w',hr,h2,h3,_⟩:=run_append_own (P:=P) w base t o.type e i z size f N hi hz q B O G v n xs l I m c d D.1 p h1 y g r;have h4:=GO_ (P:=P) w base t o.type e i z size f N hi hz q B G v n xs l I m c d D.1 p h1 y g hr;unfold Oper.wp;simp[execOp,ho,resolve,invoke,builtin,hs,hx,hr,Result.andThen];exact h v' w' h2 h3 h4
theorem z1_ {r:Array Oper} {o:Oper} {a:Act} {K:Act->World->Prop} {Q:Exit->Act->World->Prop} {E:Prop} (s x:Operand) {B:Nat} {w1:World} {A A2:OA} {b c m c2:Nat} {ks l:List BA}
  (j:Mine w1 B 9 1 A b c (Qm_ ks)) (HR:Mine w1 B 9 1 A2 m c2 (Qm_ l)) (hB:B<=w1.heap.size) (k:o.guard=none) (ho:o.op=.call { callee:=.builtin .append,args:=#[s,x],argTypes:=#[31,31] }) (hs:a.eval s=S_ A b c) (hx:a.eval x=S_ A2 m c2) (z:b+m<=1000000000)
  (h:∀A' c' w',Hid (Mine w' B 9 1 A' (b+m) c' (Qm_ (ks++l)))->Hid (w1.heap.size<=w'.heap.size/\∀g t cs,Blk w1 g t cs->t≠9->Blk w' g t cs)->Hid (∀w0,Below B w0 w1->Below B w0 w')->K (a.put o.dst (S_ A' (b+m) c')) w'):if Region.wanted o (yielded r a.tmps)=true then Oper.wp prog o a w1 K Q else E:=by
 obtain⟨i0,hi,n,p,q⟩:=info_parts qy_;refine zg_ k s x _ ho B 9 i0 (T_ ⟨#[]⟩) 1 16 underlying31 hi n p q rfl dc_ (S_ A b c) b (Qm_ ks) hs j A2 m c2 (Qm_ l) hx HR.rd (fun e=>?_) (fun u hu=>?_) mx_ oo hB ?_
 ·rcases HR.own with⟨_,h1,h2⟩|⟨g,e2,_⟩
  ·exact⟨h1,h2⟩
  ·rw[e]at e2;cases e2
 ·unfold Qm_ at hu;obtain⟨y,_,rfl⟩:=List.mem_map.1 hu
  rfl
 ·intro v' w5 f d _;obtain⟨A5,c5,rfl,m5⟩:=Mine.of f;have m6:Mine w5 B 9 1 A5 (b+m) c5 (Qm_ (ks++l)):=by
   have:Qm_ (ks++l)=Qm_ ks++Qm_ l:=(by simp[Qm_]);rw[this];exact m5
  refine h A5 c5 w5 m6 ⟨d.size,fun g t cs i ht=>?_⟩ (fun w0 i=>?_)
  ·refine i.grown d (fun e=>?_);rw[Q3_]at e;obtain⟨v,b'⟩:=Qw_ j e.symm;exact Kj_ i b' ht rfl
  ·exact i.grown d hB (fun g d=>by rw[Q3_]at d;exact(Mine.blk j d).1)
end Go.Proofs.YtbiijipkgfpgoaaGreatDoor
namespace Go.Proofs.YtbiijipkgfpgoaaGreatDoor
open Go.RowKit
def Pre (a b:BA) (k:Nat):Prop:=k<=a.size/\k<=b.size/\∀i,i < k->a.data[i]? =b.data[i]?
def xX_ (a b:BA) (k:Nat):Prop:=Pre a b k/\(k < a.size->k < b.size->a.data[k]? ≠b.data[k]?)
def Suf (a b:BA) (n m:Nat):Prop:=m<=a.size - n/\m<=b.size - n/\∀i,i < m->a.data[a.size - 1 - i]? =b.data[b.size - 1 - i]?
def xY_ (a b:BA) (n m:Nat):Prop:=Suf a b n m/\(m < a.size - n->m < b.size - n->a.data[a.size - 1 - m]? ≠b.data[b.size - 1 - m]?)
theorem Qad_ (a b:BA):Pre a b 0:=⟨lz_ _,lz_ _,fun i hi=>absurd hi oo⟩
theorem Qas_ (a b:BA) (n:Nat):Suf a b n 0:=⟨lz_ _,lz_ _,fun i hi=>absurd hi oo⟩
theorem kh_ {a:BA} {i:Nat} (h:i < a.size):a.data[i]? =some a[i]:=by
 rw[Array.getElem?_eq_getElem (by simpa using h)];rfl
theorem Qcz_ {x y:UInt8} (h:((x.toNat:Int)==(y.toNat:Int))=true):x=y:=by
 have h2:=eq_of_beq h;exact UInt8.toNat_inj.1 oo
theorem QcA_ {x y:UInt8} (h:((x.toNat:Int)==(y.toNat:Int))=false):x≠y:=by
 rintro rfl;simp at h
theorem Qac_ {a b:BA} {k:Nat} (hp:Pre a b k) (h1:k < a.size) (h2:k < b.size) (hq:((a[k].toNat:Int)==(b[k].toNat:Int))=true):Pre a b (k+1):=by
 refine⟨h1,h2,fun i hi=>?_⟩;by_cases e:i=k
 ·subst e;rw[kh_ h1,kh_ h2,Qcz_ hq]
 ·exact hp.2.2 i oo
theorem vD_ {a b:BA} {k:Nat} (hp:Pre a b k) (h1:k < a.size) (h2:k < b.size) (hq:((a[k].toNat:Int)==(b[k].toNat:Int))=false):xX_ a b k:=
 ⟨hp,fun g1 g2 h=>by rw[kh_ g1,kh_ g2]at h;exact QcA_ hq (oi_ h)⟩
theorem jf_ {a b:BA} {k:Nat} (hp:Pre a b k) (h:¬(k < a.size/\k < b.size)):xX_ a b k:=⟨hp,fun g1 g2=>absurd ⟨g1,g2⟩ h⟩
theorem Qar_ {a b:BA} {n k i j:Nat} (hp:Suf a b n k) (h1:k < a.size - n) (h2:k < b.size - n) (hi:i=a.size - 1 - k) (hj:j=b.size - 1 - k) (gi:i < a.size) (gj:j < b.size)
  (hq:((a[i].toNat:Int)==(b[j].toNat:Int))=true):Suf a b n (k+1):=by
 refine⟨h1,h2,fun x hx=>?_⟩;by_cases e:x=k
 ·subst e;subst hi;subst hj;rw[kh_ gi,kh_ gj,Qcz_ hq]
 ·exact hp.2.2 x oo
theorem vI_ {a b:BA} {n k i j:Nat} (hp:Suf a b n k) (hi:i=a.size - 1 - k) (hj:j=b.size - 1 - k) (gi:i < a.size) (gj:j < b.size)
  (hq:((a[i].toNat:Int)==(b[j].toNat:Int))=false):xY_ a b n k:=
 ⟨hp,fun g1 g2 h=>by subst hi;subst hj;rw[kh_ gi,kh_ gj]at h;exact QcA_ hq (oi_ h)⟩
theorem jh_ {a b:BA} {n k:Nat} (hp:Suf a b n k) (h:¬(k < a.size - n/\k < b.size - n)):xY_ a b n k:=⟨hp,fun g1 g2=>absurd ⟨g1,g2⟩ h⟩
theorem QgO_ {a b:BA} {k l:Nat} (h:xX_ a b k) (g:xX_ a b l):k=l:=by
 obtain⟨⟨h1,h2,h3⟩,h4⟩:=h;obtain⟨⟨g1,g2,g3⟩,g4⟩:=g;rcases Nat.lt_trichotomy k l with e|e|e
 ·exact absurd (g3 k e) (h4 oo oo)
 ·exact e
 ·exact absurd (h3 l e) (g4 oo oo)
theorem QgR_ {a b:BA} {n k l:Nat} (h:xY_ a b n k) (g:xY_ a b n l):k=l:=by
 obtain⟨⟨h1,h2,h3⟩,h4⟩:=h;obtain⟨⟨g1,g2,g3⟩,g4⟩:=g;rcases Nat.lt_trichotomy k l with e|e|e
 ·exact absurd (g3 k e) (h4 oo oo)
 ·exact e
 ·exact absurd (h3 l e) (g4 oo oo)
def zi_ (a b:BA) (n m:Nat):Prop:=xX_ a b n/\xY_ a b n m
def GN_ (a b:BA) (w:World) (e:Ending) (w':World):Prop:=
 ∃n m:Nat,zi_ a b n m/\e=R_ (A_ #[I_ j_ n,I_ j_ (a.size - m),T_ (b.extract n (b.size - m))])/\Below w.heap.size w w'
theorem Ut_ (a b:BA) (w:World) (ha:a.size<=4194304) (hb:b.size<=4194304):
  Calls prog 21 #[T_ a,T_ b] w (GN_ a b w):=by
 go_enter func21,ntmps21
 go_upto_block 0 with fail
 go_cut [5] (fun n v=>∃k:Nat,n=I_ j_ k/\k<=a.size/\k<=b.size/\xX_ a b k/\Below (w.alloc (C_ #[I_ j_ 0,I_ j_ 0,T_ ⟨#[]⟩] 23)).heap.size (w.alloc (C_ #[I_ j_ 0,I_ j_ 0,T_ ⟨#[]⟩] 23)) v)
 case first=>
  go_wp2_with fail
  go_loopw [5] (fun n wr=>∃k:Nat,k<=a.size/\k<=b.size/\Pre a b k/\n=I_ j_ k/\Below (w.alloc (C_ #[I_ j_ 0,I_ j_ 0,T_ ⟨#[]⟩] 23)).heap.size (w.alloc (C_ #[I_ j_ 0,I_ j_ 0,T_ ⟨#[]⟩] 23)) wr) (fun n _=>a.size - (intOf n).toNat)
  case atStart=>exact⟨0,lz_ _,lz_ _,Qad_ a b,rfl,br⟩
  case round=>
   obtain⟨k,e,f,j,rfl,d⟩:=hrel;by_cases h1:k < a.size
   ·by_cases l:k < b.size
    ·cases r:((a[k].toNat:Int)==(b[k].toNat:Int))with
     |true=>
      have c:=Qac_ j h1 l r;go_wp2;go_quiet (fail);go_wp2;go_roundw
      case rel=>exact⟨k+1,oo,oo,c,by go_num,grow_⟩
      case measure=>exact ms_
     |false=>
      have c:=vD_ j h1 l r;go_wp2;go_quiet (fail);go_wp2;go_meet
      case rel=>exact⟨k,rfl,e,f,c,grow_⟩
    ·have c:=jf_ j (fun h=>l h.2);have hd:decide (k < b.size)=false:=df_ l;go_wp2;go_quiet (fail);go_wp2;go_meet
     case rel=>exact⟨k,rfl,e,f,c,grow_⟩
   ·have c:=jf_ j (fun h=>h1 h.1);have hd:decide (k < a.size)=false:=df_ h1;go_wp2;go_quiet (fail);go_wp2;go_meet
    case rel=>exact⟨k,rfl,e,f,c,grow_⟩
 case rest=>
  obtain⟨k,rfl,e,f,p,d⟩:=hcut
  go_upto_block 2 with fail
  go_cut [6] (fun n v=>∃m:Nat,n=I_ j_ m/\m<=a.size - k/\m<=b.size - k/\xY_ a b k m/\Below (w.alloc (C_ #[I_ j_ 0,I_ j_ 0,T_ ⟨#[]⟩] 23)).heap.size (w.alloc (C_ #[I_ j_ 0,I_ j_ 0,T_ ⟨#[]⟩] 23)) v)
  case first=>
   go_wp2_with fail
   go_loopw [6] (fun n wr=>∃m:Nat,m<=a.size - k/\m<=b.size - k/\Suf a b k m/\n=I_ j_ m/\Below (w.alloc (C_ #[I_ j_ 0,I_ j_ 0,T_ ⟨#[]⟩] 23)).heap.size (w.alloc (C_ #[I_ j_ 0,I_ j_ 0,T_ ⟨#[]⟩] 23)) wr) (fun n _=>a.size - (intOf n).toNat)
   case atStart=>exact⟨0,lz_ _,lz_ _,Qas_ a b k,rfl,d⟩
   case round=>
    obtain⟨m,g,i,j,rfl,d⟩:=hrel;by_cases h1:m < a.size - k
    ·by_cases l:m < b.size - k
     ·have g1:a.size - 1 - m < a.size:=oo;have g2:b.size - 1 - m < b.size:=oo
      cases r:((a[a.size - 1 - m].toNat:Int)==(b[b.size - 1 - m].toNat:Int))with
      |true=>
       have c:=Qar_ j h1 l rfl rfl g1 g2 r;go_wp2;have w1:IntKind.i64.wrap ((a.size:Int) - k)=a.size - k:=IntWalk.i64_in _ oo;have w2:IntKind.i64.wrap ((b.size:Int) - k)=b.size - k:=IntWalk.i64_in _ oo;have w3:IntKind.i64.wrap ((a.size:Int) - 1)=a.size - 1:=IntWalk.i64_in _ oo;have w4:IntKind.i64.wrap ((b.size:Int) - 1)=b.size - 1:=IntWalk.i64_in _ oo;have w5:IntKind.i64.wrap ((a.size:Int) - 1 - m)=a.size - 1 - m:=IntWalk.i64_in _ oo;have w6:IntKind.i64.wrap ((b.size:Int) - 1 - m)=b.size - 1 - m:=IntWalk.i64_in _ oo;have t:decide ((m:Int) < a.size - k)=true:=dt_ oo;have d2:decide ((m:Int) < b.size - k)=true:=dt_ oo;have i1:(m:Int)<=a.size - 1:=oo;have i2:(m:Int)<=b.size - 1:=oo;have i3:(a.size:Int) - 1 - m < a.size:=oo;have i4:(b.size:Int) - 1 - m < b.size:=oo;go_quiet (fail);go_wp2;go_roundw
       case rel=>exact⟨m+1,oo,oo,c,by go_num,grow_⟩
       case measure=>exact ms_
      |false=>
       have c:=vI_ j rfl rfl g1 g2 r;go_wp2;have w1:IntKind.i64.wrap ((a.size:Int) - k)=a.size - k:=IntWalk.i64_in _ oo;have w2:IntKind.i64.wrap ((b.size:Int) - k)=b.size - k:=IntWalk.i64_in _ oo;have w3:IntKind.i64.wrap ((a.size:Int) - 1)=a.size - 1:=IntWalk.i64_in _ oo;have w4:IntKind.i64.wrap ((b.size:Int) - 1)=b.size - 1:=IntWalk.i64_in _ oo;have w5:IntKind.i64.wrap ((a.size:Int) - 1 - m)=a.size - 1 - m:=IntWalk.i64_in _ oo;have w6:IntKind.i64.wrap ((b.size:Int) - 1 - m)=b.size - 1 - m:=IntWalk.i64_in _ oo;have t:decide ((m:Int) < a.size - k)=true:=dt_ oo;have d2:decide ((m:Int) < b.size - k)=true:=dt_ oo;have i1:(m:Int)<=a.size - 1:=oo;have i2:(m:Int)<=b.size - 1:=oo;have i3:(a.size:Int) - 1 - m < a.size:=oo;have i4:(b.size:Int) - 1 - m < b.size:=oo;go_quiet (fail);go_wp2;go_meet
       case rel=>exact⟨m,rfl,g,i,c,grow_⟩
     ·have c:=jh_ j (fun h=>l h.2);go_wp2;have w1:IntKind.i64.wrap ((a.size:Int) - k)=a.size - k:=IntWalk.i64_in _ oo;have w2:IntKind.i64.wrap ((b.size:Int) - k)=b.size - k:=IntWalk.i64_in _ oo;have t:decide ((m:Int) < a.size - k)=true:=dt_ oo;have d2:decide ((m:Int) < b.size - k)=false:=df_ oo;go_quiet (fail);go_wp2;go_meet
      case rel=>exact⟨m,rfl,g,i,c,grow_⟩
    ·have c:=jh_ j (fun h=>h1 h.1);go_wp2;have w1:IntKind.i64.wrap ((a.size:Int) - k)=a.size - k:=IntWalk.i64_in _ oo;have t:decide ((m:Int) < a.size - k)=false:=df_ oo;go_quiet (fail);go_wp2;go_meet
     case rel=>exact⟨m,rfl,g,i,c,grow_⟩
  case rest=>
   obtain⟨m,rfl,g,i,q,d⟩:=hcut;obtain⟨s,hf⟩:=QW_ d;have hz:w.heap.size < wc.heap.size:=(by have:=d.size;simp at this;omega);have c0:wc.cell? ⟨w.heap.size,0,none⟩=some (I_ j_ 0):=(by rw[s _ _ sm_];go_cell);have c1:wc.cell? ⟨w.heap.size,1,none⟩=some (I_ j_ 0):=(by rw[s _ _ sm_];go_cell);have c2:wc.cell? ⟨w.heap.size,2,none⟩=some (T_ ⟨#[]⟩):=(by rw[s _ _ sm_];go_cell);have z:∀o,wc.frozen? ⟨w.heap.size,o,none⟩=false:=fun o=>by rw[hf _ _ sm_];go_cell
   have b1:(k:Int)<=b.size - m:=oo;have b2:(m:Int)<=b.size:=oo;have b3:m<=a.size:=oo;have b4:(b.size:Int) - m<=b.size:=oo;have b5:(0:Int)<=b.size - m:=oo;have b6:((b.size:Int) - m).toNat=b.size - m:=oo;have x:=Ql_ d;clear s hf d;go_wp2;refine bodyPost_ret (by simp[results,Tryz.results21,go_sem,c0,c1,c2];try rfl) rfl ?_;exact⟨k,m,⟨p,q⟩,rfl,grow_⟩
theorem Ul_ (a b:BA) (w:World) (ha:a.size<=4194304) (hb:b.size<=4194304):
  Calls prog 23 #[T_ a,T_ b] w (GN_ a b w):=by
 go_enter func23,ntmps23;go_upto_region 1 with fail
 go_cut [5] (fun s l=>∃d:Nat,s=I_ j_ d/\d<=a.size/\d<=b.size/\(d=a.size\/d=b.size)/\l=(w.alloc (C_ #[I_ j_ 0,I_ j_ 0,T_ ⟨#[]⟩] 23)))
 case first=>
  by_cases h:b.size < a.size
  all_goals
   go_wp2;go_meet
   case rel=>first|exact⟨a.size,congrArg (I_ j_) oo,oo,oo,.inl rfl,rfl⟩|exact⟨b.size,congrArg (I_ j_) oo,oo,oo,.inr rfl,rfl⟩
 case rest=>
  obtain⟨d,rfl,x,y,t,rfl⟩:=hcut
  go_upto_block 0 with fail
  go_cut [6] (fun n l=>∃k:Nat,n=I_ j_ k/\k<=d/\xX_ a b k/\Below (w.alloc (C_ #[I_ j_ 0,I_ j_ 0,T_ ⟨#[]⟩] 23)).heap.size (w.alloc (C_ #[I_ j_ 0,I_ j_ 0,T_ ⟨#[]⟩] 23)) l)
  case first=>
   go_wp2_with fail
   go_loopw [6] (fun n wr=>∃k:Nat,k<=d/\Pre a b k/\n=I_ j_ k/\Below (w.alloc (C_ #[I_ j_ 0,I_ j_ 0,T_ ⟨#[]⟩] 23)).heap.size (w.alloc (C_ #[I_ j_ 0,I_ j_ 0,T_ ⟨#[]⟩] 23)) wr) (fun n _=>d - (intOf n).toNat)
   case atStart=>exact⟨0,lz_ _,Qad_ a b,rfl,br⟩
   case round=>
    obtain⟨k,q,f,rfl,c⟩:=hrel;by_cases h1:k < d
    ·have h2:k < a.size:=oo;have h3:k < b.size:=oo
     cases j:((a[k].toNat:Int)==(b[k].toNat:Int))with
     |true=>
      have e:=Qac_ f h2 h3 j;go_wp2;go_quiet (fail);go_wp2;go_roundw
      case rel=>exact⟨k+1,oo,e,by go_num,grow_⟩
      case measure=>exact ms_
     |false=>
      have e:=vD_ f h2 h3 j;go_wp2;go_quiet (fail);go_wp2;go_meet
      case rel=>exact⟨k,rfl,q,e,grow_⟩
    ·have e:=jf_ f (fun h=>oo);have hd:decide (k < d)=false:=df_ h1;go_wp2;go_quiet (fail);go_wp2;go_meet
     case rel=>exact⟨k,rfl,q,e,grow_⟩
  case rest=>
   obtain⟨k,rfl,q,g,c⟩:=hcut
   go_upto_block 2 with fail
   go_cut [7] (fun n l=>∃m:Nat,n=I_ j_ m/\m<=d - k/\xY_ a b k m/\Below (w.alloc (C_ #[I_ j_ 0,I_ j_ 0,T_ ⟨#[]⟩] 23)).heap.size (w.alloc (C_ #[I_ j_ 0,I_ j_ 0,T_ ⟨#[]⟩] 23)) l)
   case first=>
    go_wp2_with fail
    go_loopw [7] (fun n wr=>∃m:Nat,m<=d - k/\Suf a b k m/\n=I_ j_ m/\Below (w.alloc (C_ #[I_ j_ 0,I_ j_ 0,T_ ⟨#[]⟩] 23)).heap.size (w.alloc (C_ #[I_ j_ 0,I_ j_ 0,T_ ⟨#[]⟩] 23)) wr) (fun n _=>d - k - (intOf n).toNat)
    case atStart=>exact⟨0,lz_ _,Qas_ a b k,rfl,c⟩
    case round=>
     obtain⟨m,r,f,rfl,c⟩:=hrel;by_cases h1:m < d - k
     ·have g1:a.size - 1 - m < a.size:=oo;have g2:b.size - 1 - m < b.size:=oo
      cases j:((a[a.size - 1 - m].toNat:Int)==(b[b.size - 1 - m].toNat:Int))with
      |true=>
       have e:=Qar_ f oo oo rfl rfl g1 g2 j;go_wp2;have w1:IntKind.i64.wrap ((d:Int) - k)=d - k:=IntWalk.i64_in _ oo;have w3:IntKind.i64.wrap ((a.size:Int) - 1)=a.size - 1:=IntWalk.i64_in _ oo;have w4:IntKind.i64.wrap ((b.size:Int) - 1)=b.size - 1:=IntWalk.i64_in _ oo;have w5:IntKind.i64.wrap ((a.size:Int) - 1 - m)=a.size - 1 - m:=IntWalk.i64_in _ oo;have w6:IntKind.i64.wrap ((b.size:Int) - 1 - m)=b.size - 1 - m:=IntWalk.i64_in _ oo;have d1:decide ((m:Int) < d - k)=true:=dt_ oo;have i1:(m:Int)<=a.size - 1:=oo;have i2:(m:Int)<=b.size - 1:=oo;have i3:(a.size:Int) - 1 - m < a.size:=oo;have i4:(b.size:Int) - 1 - m < b.size:=oo;go_quiet (fail);go_wp2;go_roundw
       case rel=>exact⟨m+1,oo,e,by go_num,grow_⟩
       case measure=>exact ms_
      |false=>
       have e:=vI_ f rfl rfl g1 g2 j;go_wp2;have w1:IntKind.i64.wrap ((d:Int) - k)=d - k:=IntWalk.i64_in _ oo;have w3:IntKind.i64.wrap ((a.size:Int) - 1)=a.size - 1:=IntWalk.i64_in _ oo;have w4:IntKind.i64.wrap ((b.size:Int) - 1)=b.size - 1:=IntWalk.i64_in _ oo;have w5:IntKind.i64.wrap ((a.size:Int) - 1 - m)=a.size - 1 - m:=IntWalk.i64_in _ oo;have w6:IntKind.i64.wrap ((b.size:Int) - 1 - m)=b.size - 1 - m:=IntWalk.i64_in _ oo;have d1:decide ((m:Int) < d - k)=true:=dt_ oo;have i1:(m:Int)<=a.size - 1:=oo;have i2:(m:Int)<=b.size - 1:=oo;have i3:(a.size:Int) - 1 - m < a.size:=oo;have i4:(b.size:Int) - 1 - m < b.size:=oo;go_quiet (fail);go_wp2;go_meet
       case rel=>exact⟨m,rfl,r,e,grow_⟩
     ·have e:=jh_ f (fun h=>oo);go_wp2;have w1:IntKind.i64.wrap ((d:Int) - k)=d - k:=IntWalk.i64_in _ oo;have d1:decide ((m:Int) < d - k)=false:=df_ oo;go_quiet (fail);go_wp2;go_meet
      case rel=>exact⟨m,rfl,r,e,grow_⟩
   case rest=>
    obtain⟨m,rfl,r,i,c⟩:=hcut;obtain⟨p,hf⟩:=QW_ c;have hz:w.heap.size < wc.heap.size:=(by have:=c.size;simp at this;omega);have c0:wc.cell? ⟨w.heap.size,0,none⟩=some (I_ j_ 0):=(by rw[p _ _ sm_];go_cell);have c1:wc.cell? ⟨w.heap.size,1,none⟩=some (I_ j_ 0):=(by rw[p _ _ sm_];go_cell);have c2:wc.cell? ⟨w.heap.size,2,none⟩=some (T_ ⟨#[]⟩):=(by rw[p _ _ sm_];go_cell);have z:∀o,wc.frozen? ⟨w.heap.size,o,none⟩=false:=fun o=>by rw[hf _ _ sm_];go_cell
    have b1:(k:Int)<=b.size - m:=oo;have b2:(m:Int)<=b.size:=oo;have b3:m<=a.size:=oo;have b4:(b.size:Int) - m<=b.size:=oo;have b5:(0:Int)<=b.size - m:=oo;have b6:((b.size:Int) - m).toNat=b.size - m:=oo;have v:=Ql_ c;clear p hf c t;go_wp2;refine bodyPost_ret (by simp[results,Tryz.results23,go_sem,c0,c1,c2];try rfl) rfl ?_;exact⟨k,m,⟨g,i⟩,rfl,grow_⟩
theorem ks_ (a b:Int) (s:BA) (w:World):
  Calls prog 7 #[A_ #[I_ j_ a,I_ j_ b,T_ s],A_ #[I_ j_ a,I_ j_ b,T_ s]] w (RB_ (B_ true) w):=by
 go_enter func7,ntmps7;go_wp2;go_ret;exact⟨rfl,grow_⟩
end Go.Proofs.YtbiijipkgfpgoaaGreatDoor

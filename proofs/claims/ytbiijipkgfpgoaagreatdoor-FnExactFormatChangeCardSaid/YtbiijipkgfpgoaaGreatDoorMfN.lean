/-
  Put together by program.
-/
import Derived.Test.YtbiijipkgfpgoaaGreatDoorMfF
import Derived.Test.YtbiijipkgfpgoaaGreatDoorMfE
set_option maxRecDepth 100000
set_option linter.all false
set_option maxHeartbeats 25600000
open Go.Proofs.Tryz
open Go.Value renaming int→I_,slice→S_,string→T_,bool→B_,pointer→P_,agg→A_,tuple→U_
open Go.IntKind renaming i64→j_
open Go.Obj renaming cells→C_
open Go.Ending renaming returned→R_
namespace Go.Proofs.YtbiijipkgfpgoaaGreatDoor
open Go.RowKit
structure Pb where
 rules:List RuleD
 chunks:List ChunkD
 spans:List SpanD
 ties:List TieD
 text:BA
def Pb.put (s:Pb) (t:BA):Pb:=⟨s.rules,s.chunks,s.spans,s.ties,s.text++t⟩
def Q4_ (s:Pb):Int:=if s.rules.length < 8 then (s.rules.length:Int)else -1
def Pb.rule (s:Pb) (v c:Int):Pb:=if s.rules.length < 8 then ⟨s.rules++[(v,c)],s.chunks,s.spans,s.ties,s.text⟩else s
def Pb.split (s:Pb) (r a:Int) (sp:Bool) (ne:Int):Pb:=
 if 0<=r/\s.chunks.length < 79 then ⟨s.rules,s.chunks++[(s.text,r,a,sp,min ne 40)],s.spans,s.ties,⟨#[]⟩⟩else if sp=true then s.put ⟨#[32]⟩else s
def Pb.tie (s:Pb) (kid up:Int):Pb:=if 0<=kid/\0<=up/\s.ties.length < 20 then ⟨s.rules,s.chunks,s.spans,s.ties++[(kid,up)],s.text⟩else s
def Pb.span (s:Pb) (a:Nat):Pb:=if a < s.chunks.length/\s.spans.length < 40 then ⟨s.rules,s.chunks,s.spans++[((a:Int),(s.chunks.length:Int) - 1,1)],s.ties,s.text⟩else s
inductive Bv
 |put (t:BA)
 |rule (v c:Int)
 |split (a:Int) (sp:Bool) (ne:Int)
 |kid (j ne:Int)
 |tied (j ne:Int) (ti sp:Bool)
def Jw_ (f:Nat->Int->Pb->Pb) (s:Pb) (r j ne:Int) (ti sp:Bool):Pb:=
 let s1:=f j.toNat ne s
 let s2:=if ti=true then s1.tie (Q4_ s) r else s1
 if sp=true then s2.span s.chunks.length else s2
def Jv_ (f:Nat->Int->Pb->Pb) (s:Pb × Int):Bv->Pb × Int
 |.put t=>(s.1.put t,s.2)
 |.rule v c=>(s.1.rule v c,Q4_ s.1)
 |.split a sp ne=>(s.1.split s.2 a sp ne,s.2)
 |.kid j ne=>(f j.toNat ne s.1,s.2)
 |.tied j ne ti sp=>(Jw_ f s.1 s.2 j ne ti sp,s.2)
def VL_ (f:Nat->Int->Pb->Pb) (s:Pb × Int) (es:List Bv):Pb × Int:=es.foldl (Jv_ f) s
section
variable {f:Nat->Int->Pb->Pb} {s:Pb × Int} {es fs:List Bv} {e:Bv}
theorem XQ_:VL_ f s (e::es)=VL_ f (Jv_ f s e) es:=rfl
end
def Xp_ (g:Nat->Int->List Bv):Nat->LI->List Bv
 |_,[]=>[]
 |i,x::r=>g i x++Xp_ g (i+1) r
theorem YL_ {g:Nat->Int->List Bv} {l:LI} {i:Nat} {v:Int} (h:l[i]? =some v):Xp_ g i (l.drop i)=g i v++Xp_ g (i+1) (l.drop (i+1)):=by
 obtain⟨h1,h2⟩:=gs_.1 h;rw[List.drop_eq_getElem_cons h1,h2]
 rfl
theorem Xu_ {g:Nat->Int->List Bv} {l:LI} {i:Nat} (h:l.length<=i):Xp_ g i (l.drop i)=[]:=by rw[List.drop_of_length_le h];rfl
def inN (ne:Int):Int:=min (ne+4) 40
def XT_ (op en:BA) (l:LI) (a:Int):List Bv:=
 .put op::((if l.length=0 then []else .rule (min (l.length:Int) 2+1) 1::.split 1 false (inN a)::
  (Xp_ (fun i v=>(if 0 < i then [.put ⟨#[44]⟩,.split (min (l.length:Int) 2) true (inN a)]else [])++[.kid v (inN a)]) 0 l++[.split 1 false a]))++[.put en])
def ZB_ (k:Int):Bool:=decide (k=1\/k=2\/k=3)
def ZS_ (ps:List PN) (t:BA) (l:LI) (ne:Int):List Bv:=
 .rule 2 1::Xp_ (fun i v=>(if 0 < i then [.put (⟨#[32]⟩++t),.split 1 true ne]else [])++[.tied v ne (decide (Qc_ ps v=7)) (!ZB_ (Qc_ ps v))]) 0 l
def Y4_ (ps:List PN) (l:LI) (ne:Int):List Bv:=
 .rule 2 1::Xp_ (fun i v=>(if 0 < i then [.split 1 true ne,.put (if i=1 then ⟨#[63,32]⟩else ⟨#[58,32]⟩)]else [])++[.tied v ne (decide (Qc_ ps v=8)) false]) 0 l
def Q5_:List BA->BA
 |[]=>⟨#[]⟩
 |x::r=>r.foldl (fun a t=>a++⟨#[44,32]⟩++t) x
def QE_ (ps:List PN) (v:Int):BA:=(ndAt ps v.toNat).text
def fnE (ps:List PN) (l:LI) (ne:Int):List Bv:=
 [.put (⟨#[40]⟩++Q5_ ((l.take (l.length - 1)).map (QE_ ps))++⟨#[41,32,61,62]⟩),.rule 2 2,.split 1 true ne,.kid (l.getD (l.length - 1) 0) ne]
def QcC_ (l:LI) (a:Int):List Bv:=
 .rule 2 1::.kid (l.getD 0 0) a::Xp_ (fun _ v=>[.split 1 false (inN a),.put ⟨#[46,46]⟩,.kid v (inN a)]) 0 (l.drop 1)
def evsB (ps:List PN) (p:PN) (a:Int):List Bv:=
 if p.kind=11 then [.put ⟨#[40]⟩,.kid (p.kids.getD 0 0) a,.put ⟨#[41]⟩]
 else if p.kind=6 then [.kid (p.kids.getD 0 0) a,.put (⟨#[46]⟩++p.text)]
 else if p.kind=4 then XT_ ⟨#[91]⟩ ⟨#[93]⟩ p.kids a
 else if p.kind=5 then .kid (p.kids.getD 0 0) a::XT_ ⟨#[40]⟩ ⟨#[41]⟩ (p.kids.drop 1) a
 else if p.kind=7 then ZS_ ps p.text p.kids (inN a)
 else if p.kind=8 then Y4_ ps p.kids (inN a)
 else if p.kind=9 then fnE ps p.kids (inN a)
 else if p.kind=10 then QcC_ p.kids a
 else [.put p.text]
def QR_ (ps:List PN):Nat->Nat->Int->Pb->Pb
 |0,_,_,s=>s
 |f+1,k,ne,s=>match ps[k]? with|none=>s|some p=>(VL_ (QR_ ps f) (s,-1) (evsB ps p ne)).1
theorem KX_ {ps:List PN} {f k:Nat} {p:PN} (h:ps[k]? =some p) (ne:Int) (s:Pb):QR_ ps (f+1) k ne s=(VL_ (QR_ ps f) (s,-1) (evsB ps p ne)).1:=by
 conv=>lhs;unfold QR_
 rw[h]
def ownN (ps:List PN) (k:Nat) (s:Pb):Int:=if (ndAt ps k).kind=7\/(ndAt ps k).kind=8 then Q4_ s else -1
/-! ### Rules: their number never falls; none is made where there is no room. -/
def GrowR (s s':Pb):Prop:=(∃l,s'.rules=s.rules++l)/\(8<=s.rules.length->s'.rules=s.rules)
theorem GrowR.refl (s:Pb):GrowR s s:=⟨⟨[],by simp⟩,fun _=>rfl⟩
theorem GrowR.trans {s s' s2:Pb} (h:GrowR s s') (k:GrowR s' s2):GrowR s s2:=by
 obtain⟨⟨l,h1⟩,h2⟩:=h;obtain⟨⟨l',k1⟩,k2⟩:=k;exact⟨⟨l++l',by rw[k1,h1,List.append_assoc]⟩,fun a=>by rw[k2 (by rw[h2 a];exact a),h2 a]⟩
theorem GrowR.same {s s':Pb} (h:s'.rules=s.rules):GrowR s s':=⟨⟨[],by simp[h]⟩,fun _=>h⟩
theorem WP_ (s:Pb) (r a:Int) (sp:Bool) (ne:Int):(s.split r a sp ne).rules=s.rules:=by unfold Pb.split;split;rfl;split<;>rfl
theorem xO_ (s:Pb) (a b:Int):(s.tie a b).rules=s.rules:=by unfold Pb.tie;split<;>rfl
theorem zZ_ (s:Pb) (a:Nat):(s.span a).rules=s.rules:=by unfold Pb.span;split<;>rfl
theorem Qd2_ (s:Pb) (v c:Int):GrowR s (s.rule v c):=by
 unfold Pb.rule;split
 ·exact⟨⟨[(v,c)],rfl⟩,fun h=>oo⟩
 ·exact .refl s
theorem QeH_ {f:Nat->Int->Pb->Pb} (hf:∀k a s,GrowR s (f k a s)) (s:Pb) (r j a:Int) (ti sp:Bool):GrowR s (Jw_ f s r j a ti sp):=by
 unfold Jw_;dsimp only;refine(hf j.toNat a s).trans ?_;generalize f j.toNat a s=s1;have h2:GrowR s1 (if ti=true then s1.tie (Q4_ s) r else s1):=by
  split
  ·exact .same (xO_ _ _ _)
  ·exact .refl _
 refine h2.trans ?_;generalize (if ti=true then s1.tie (Q4_ s) r else s1)=s2;split
 ·exact .same (zZ_ _ _)
 ·exact .refl _
theorem Qeo_ {f:Nat->Int->Pb->Pb} (hf:∀k b s,GrowR s (f k b s)) (s:Pb × Int) (e:Bv):GrowR s.1 (Jv_ f s e).1:=by
 cases e with
 |put t=>exact .same rfl
 |rule v c=>exact Qd2_ s.1 v c
 |split a sp b=>exact .same (WP_ _ _ _ _ _)
 |kid j b=>exact hf _ _ _
 |tied j b ti sp=>exact QeH_ hf _ _ _ _ _ _
theorem Qaj_ {f:Nat->Int->Pb->Pb} (hf:∀k ne s,GrowR s (f k ne s)):∀(es:List Bv) (s:Pb × Int),GrowR s.1 (VL_ f s es).1:=by
 intro es
 induction es with
 |nil=>intro s;exact .refl _
 |cons e es ih=>intro s;rw[XQ_];exact(Qeo_ hf s e).trans (ih _)
theorem q6_ (ps:List PN):∀f k a s,GrowR s (QR_ ps f k a s):=by
 intro f
 induction f with
 |zero=>intro k a s;exact .refl s
 |succ f ih=>
  intro k a s;unfold QR_
  cases ps[k]? with
  |none=>exact .refl s
  |some p=>exact Qaj_ ih _ (s,-1)
theorem xm_ {ps:List PN} {f k:Nat} {p:PN} (h:ps[k]? =some p) (hk:p.kind=7\/p.kind=8) (c:Int) (s:Pb):((s.rules.length:Int) < (QR_ ps (f+1) k c s).rules.length↔0<=Q4_ s)/\(0<=Q4_ s->Q4_ s=s.rules.length):=by
 have h0:0<=Q4_ s->Q4_ s=s.rules.length:=by unfold Q4_;split<;>omega
 refine⟨?_,h0⟩;have a:∃es,evsB ps p c=.rule 2 1::es:=by
  rcases hk with e|e
  ·exact⟨_,by unfold evsB;rw[e];rfl⟩
  ·exact⟨_,by unfold evsB;rw[e];rfl⟩
 obtain⟨es,a⟩:=a;rw[KX_ h,a,XQ_];have hg:=Qaj_ (f:=QR_ ps f) (q6_ ps f) es (Jv_ (QR_ ps f) (s,-1) (.rule 2 1));have hv:=q6_ ps (f+1) k c s;rw[KX_ h,a,XQ_]at hv;constructor
 ·intro b;unfold Q4_;split
  ·omega
  ·have:=hv.2 oo;rw[this]at b;omega
 ·intro hr;obtain⟨⟨l,hl⟩,_⟩:=hg;rw[hl];have:(Jv_ (QR_ ps f) (s,-1) (.rule 2 1)).1.rules.length=s.rules.length+1:=by
   show(s.rule 2 1).rules.length=_;unfold Pb.rule Q4_ at *;split at hr
   ·rename_i h8;rw[ip_ h8];simp
   ·omega
  rw[lA,this];omega
def QI_ (k:Int):Prop:=1<=k/\k<=11
inductive ValF (ps:List PN):Int->LI->Prop
 |leaf (k:Int) (h:k=1\/k=2\/k=3):ValF ps k []
 |list (l:LI) (h:∀v∈l,QI_ (Qc_ ps v)):ValF ps 4 l
 |call (v:Int) (l:LI) (h0:QI_ (Qc_ ps v)) (h:∀v∈l,QI_ (Qc_ ps v)):ValF ps 5 (v::l)
 |dot (v:Int) (h0:QI_ (Qc_ ps v)):ValF ps 6 [v]
 |chain (l:LI) (h2:2<=l.length) (h:∀v∈l,QI_ (Qc_ ps v)):ValF ps 7 l
 |pick (a b c:Int) (h:∀v∈[a,b,c],QI_ (Qc_ ps v)):ValF ps 8 [a,b,c]
 |fn (l:LI) (v:Int) (h0:QI_ (Qc_ ps v)) (hn:∀u∈l,Qc_ ps u=1):ValF ps 9 (l++[v])
 |casc (v:Int) (l:LI) (h1:1<=l.length) (h0:QI_ (Qc_ ps v)) (h:∀v∈l,QI_ (Qc_ ps v)):ValF ps 10 (v::l)
 |par (v:Int) (h0:QI_ (Qc_ ps v)):ValF ps 11 [v]
theorem Yx_ {k:Int} (h:Qk_ k=true):QI_ k:=(od_ (show decide (1<=k/\k<=11)=true from h):1<=k/\k<=11)
theorem Z5_ {ps:List PN} {l:LI} (h:(Qe_ ps l).all Qk_=true):∀v∈l,QI_ (Qc_ ps v):=fun v hv=>
 Yx_ (List.all_eq_true.1 h _ (List.mem_map.2 ⟨v,hv,rfl⟩))
theorem vi_ {ps:List PN} {k:Nat} {x:PN} (hb:Za_ ps k=true) (hx:ps[k]? =some x) (hv:QI_ x.kind):ValF ps x.kind x.kids:=by
 have d:=(K0_ hb hx).2.1;obtain⟨kd,t,l,z⟩:=x;simp only at d hv |-
 have hl:(Qe_ ps l).length=l.length:=List.length_map ..;have h2:kd=1\/kd=2\/kd=3\/kd=4\/kd=5\/kd=6\/kd=7\/kd=8\/kd=9\/kd=10\/kd=11:=by unfold QI_ at hv;omega
 rcases h2 with rfl|rfl|rfl|rfl|rfl|rfl|rfl|rfl|rfl|rfl|rfl<;>simp only[kfB,Int.reduceEq,or_self,or_true,true_or,or_false,false_or,if_true,if_false,hl,Bool.and_eq_true,decide_eq_true_eq]at d
 ·obtain rfl:l=[]:=ln_ d;exact .leaf 1 oo
 ·obtain rfl:l=[]:=ln_ d;exact .leaf 2 oo
 ·obtain rfl:l=[]:=ln_ d;exact .leaf 3 oo
 ·exact .list l (Z5_ d)
 ·obtain⟨h1,f⟩:=d;have g:=Z5_ f
  match l,h1 with
  |v::r,_=>exact .call v r (g v sm_) (fun u h=>g u (by simp[h]))
 ·obtain⟨h1,f⟩:=d;have g:=Z5_ f
  match l,h1 with
  |[v],_=>exact .dot v (g v sm_)
 ·exact .chain l d.1 (Z5_ d.2)
 ·obtain⟨h1,f⟩:=d;have g:=Z5_ f
  match l,h1 with
  |[a,b,c],_=>exact .pick a b c g
 ·rcases List.eq_nil_or_concat l with rfl|⟨r,v,rfl⟩
  ·simp[YF_,Qe_]at d
  ·have f:YF_ Qk_ (Qe_ ps (r++[v]))=(Qk_ (Qc_ ps v)&&((Qe_ ps (r++[v])).take r.length).all (isK 1)):=Yo_ (by simp[Qe_]) (by simp[Qe_]);rw[List.concat_eq_append]at d |-
   rw[f,Bool.and_eq_true]at d;refine .fn r v (Yx_ d.1) (fun u h=>?_);have e:(Qe_ ps (r++[v])).take r.length=Qe_ ps r:=(by simp[Qe_]);rw[e]at d;have i:=List.all_eq_true.1 d.2 (Qc_ ps u) (List.mem_map.2 ⟨u,h,rfl⟩);simpa[isK]using i
 ·obtain⟨⟨h1,f⟩,h5⟩:=d
  match l,h1 with
  |v::r,h1=>
   refine .casc v r (by simp at h1;omega) (Yx_ f) (fun u h=>?_);have i:=List.all_eq_true.1 h5 (Qc_ ps u) (by simp[Qe_];exact⟨u,h,rfl⟩);have:Qc_ ps u=5:=(by simpa[isK]using i);rw[this];exact⟨oo,oo⟩
 ·obtain⟨h1,f⟩:=d;have g:=Z5_ f
  match l,h1 with
  |[v],_=>exact .par v (g v sm_)
/-! ### How much text -/
def wB (W:Nat) (ps:List PN):Bv->Nat
 |.put t=>t.size
 |.rule _ _=>0
 |.split _ _ _=>1
 |.kid j _=>Kk_ ps j.toNat * W
 |.tied j _ _ _=>Kk_ ps j.toNat * W
def wS (W:Nat) (ps:List PN) (es:List Bv):Nat:=(es.map (wB W ps)).sum
theorem Ky_ (W:Nat) (ps:List PN) (e:Bv) (es:List Bv):wS W ps (e::es)=wB W ps e+wS W ps es:=by simp[wS]
theorem WU_ (W:Nat) (ps:List PN) (a b:List Bv):wS W ps (a++b)=wS W ps a+wS W ps b:=by simp[wS]
def Uh_ (W:Nat) (ps:List PN) (f:Nat->Int->Pb->Pb):Prop:=∀k ne s,(f k ne s).text.size<=s.text.size+Kk_ ps k * W
theorem Qga_ (s:Pb) (a b:Int):(s.tie a b).text=s.text:=by unfold Pb.tie;split<;>rfl
theorem Qeg_ (s:Pb) (a:Nat):(s.span a).text=s.text:=by unfold Pb.span;split<;>rfl
theorem xs_ (s:Pb) (a b:Int):(s.rule a b).text=s.text:=by unfold Pb.rule;split<;>rfl
theorem Qb6_ (s:Pb) (r a:Int) (sp:Bool) (ne:Int):(s.split r a sp ne).text.size<=s.text.size+1:=by
 unfold Pb.split;split
 ·show(0:Nat)<=_;omega
 ·split
  ·show(s.text++⟨#[32]⟩).size<=_;rw[bs_];exact lr_ _
  ·omega
theorem xP_ (f:Nat->Int->Pb->Pb) (s:Pb) (r j a:Int) (ti sp:Bool):(Jw_ f s r j a ti sp).text=(f j.toNat a s).text:=by
 unfold Jw_;dsimp only;generalize f j.toNat a s=s1;have h2:(if ti=true then s1.tie (Q4_ s) r else s1).text=s1.text:=by split;exact Qga_ _ _ _;rfl
 rw[<-h2];generalize (if ti=true then s1.tie (Q4_ s) r else s1)=s2;split
 ·exact Qeg_ _ _
 ·rfl
theorem xI_ {W:Nat} {ps:List PN} {f:Nat->Int->Pb->Pb} (hf:Uh_ W ps f) (s:Pb × Int) (e:Bv):(Jv_ f s e).1.text.size<=s.1.text.size+wB W ps e:=by
 cases e with
 |put t=>show(s.1.text++t).size<=_;rw[bs_];exact lr_ _
 |rule v c=>show(s.1.rule v c).text.size<=_;rw[xs_];exact Nat.le_add_right _ _
 |split a sp b=>exact Qb6_ _ _ _ _ _
 |kid j b=>exact hf _ _ _
 |tied j b ti sp=>show(Jw_ f s.1 s.2 j b ti sp).text.size<=_;rw[xP_];exact hf _ _ _
theorem QfU_ {W:Nat} {ps:List PN} {f:Nat->Int->Pb->Pb} (hf:Uh_ W ps f):∀(es:List Bv) (s:Pb × Int),(VL_ f s es).1.text.size<=s.1.text.size+wS W ps es:=by
 intro es
 induction es with
 |nil=>intro s;exact Nat.le_add_right _ _
 |cons e es ih=>
  intro s;rw[XQ_,Ky_];have h1:=ih (Jv_ f s e);have h2:=xI_ hf s e;omega
theorem YM_ {W:Nat} {ps:List PN} {g:Nat->Int->List Bv} {c:Nat} (hg:∀i v,wS W ps (g i v)<=c+Kk_ ps v.toNat * W):∀(l:LI) (i:Nat),wS W ps (Xp_ g i l)<=l.length * c+Kv_ (Kk_ ps) l * W:=by
 intro l
 induction l with
 |nil=>intro i;exact lz_ _
 |cons v l ih=>
  intro i;have h1:=ih (i+1);have h2:=hg i v;unfold Xp_;rw[WU_,List.length_cons,show Kv_ (Kk_ ps) (v::l)=Kk_ ps v.toNat+Kv_ (Kk_ ps) l by simp[Kv_],Nat.add_mul,Nat.add_mul];omega
theorem Kr_ {a b:BA}:(a++b).size=a.size+b.size:=bs_
theorem Qbe_ {W:Nat}:∀(l:List BA) (a:BA),(∀t∈l,t.size<=W)->(l.foldl (fun a t=>a++⟨#[44,32]⟩++t) a).size<=a.size+l.length * (W+2):=by
 intro l
 induction l with
 |nil=>intro a _;simp
 |cons t l ih=>
  intro a h;have h1:=ih (a++⟨#[44,32]⟩++t) (fun u hu=>h u (by simp[hu]));have h2:=h t sm_;have h3:(a++(⟨#[44,32]⟩:BA)++t).size=a.size+2+t.size:=by rw[Kr_,Kr_];rfl
  rw[List.foldl_cons,List.length_cons];rw[h3]at h1;rw[Nat.add_mul];omega
theorem Wc_ {W:Nat} (l:List BA) (h:∀t∈l,t.size<=W):(Q5_ l).size<=l.length * (W+2):=by
 cases l with
 |nil=>exact lz_ _
 |cons t l=>
  have h1:=Qbe_ l t (fun u hu=>h u (by simp[hu]));have h2:=h t sm_;show(l.foldl (fun a t=>a++⟨#[44,32]⟩++t) t).size<=_;rw[List.length_cons,Nat.add_mul];omega
/-! ### At most 79 chunks -/
def Cap (f:Nat->Int->Pb->Pb):Prop:=∀k ne s,s.chunks.length<=79->(f k ne s).chunks.length<=79
theorem GL_ (s:Pb) (a b:Int):(s.tie a b).chunks=s.chunks:=by unfold Pb.tie;split<;>rfl
theorem j0_ (s:Pb) (a:Nat):(s.span a).chunks=s.chunks:=by unfold Pb.span;split<;>rfl
theorem Wy_ (s:Pb) (a b:Int):(s.rule a b).chunks=s.chunks:=by unfold Pb.rule;split<;>rfl
theorem WQ_ (f:Nat->Int->Pb->Pb) (s:Pb) (r j a:Int) (ti sp:Bool):(Jw_ f s r j a ti sp).chunks=(f j.toNat a s).chunks:=by
 unfold Jw_;dsimp only;generalize f j.toNat a s=s1;have h2:(if ti=true then s1.tie (Q4_ s) r else s1).chunks=s1.chunks:=by split;exact GL_ _ _ _;rfl
 rw[<-h2];generalize (if ti=true then s1.tie (Q4_ s) r else s1)=s2;split
 ·exact j0_ _ _
 ·rfl
theorem Qap_ {f:Nat->Int->Pb->Pb} (hf:Cap f) (s:Pb × Int) (e:Bv) (h:s.1.chunks.length<=79):(Jv_ f s e).1.chunks.length<=79:=by
 cases e with
 |put t=>exact h
 |rule v c=>show(s.1.rule v c).chunks.length<=79;rw[Wy_];exact h
 |split a sp b=>
  show(s.1.split s.2 a sp b).chunks.length<=79;unfold Pb.split;split
  ·rename_i h1;show(s.1.chunks++_).length<=79;rw[lA];have:=h1.2;simp;omega
  ·split<;>exact h
 |kid j b=>exact hf _ _ _ h
 |tied j b ti sp=>show(Jw_ f s.1 s.2 j b ti sp).chunks.length<=79;rw[WQ_];exact hf _ _ _ h
theorem QhI_ {f:Nat->Int->Pb->Pb} (hf:Cap f):∀(es:List Bv) (s:Pb × Int),s.1.chunks.length<=79->(VL_ f s es).1.chunks.length<=79:=by
 intro es
 induction es with
 |nil=>intro s h;exact h
 |cons e es ih=>intro s h;rw[XQ_];exact ih _ (Qap_ hf s e h)
theorem WS_ (ps:List PN):∀f,Cap (QR_ ps f):=by
 intro f
 induction f with
 |zero=>intro k ne s h;exact h
 |succ f ih=>
  intro k ne s h;unfold QR_
  cases ps[k]? with
  |none=>exact h
  |some p=>exact QhI_ ih _ (s,-1) h
theorem vE_ {ps:List PN}:∀{l:LI},(∀v∈l,1<=Kk_ ps v.toNat)->l.length<=Kv_ (Kk_ ps) l:=by
 intro l
 induction l with
 |nil=>intro _;exact lz_ _
 |cons v l ih=>
  intro h;have h1:=h v sm_;have h2:=ih (fun u hu=>h u (by simp[hu]));rw[show Kv_ (Kk_ ps) (v::l)=Kk_ ps v.toNat+Kv_ (Kk_ ps) l by simp[Kv_],List.length_cons];omega
theorem KC_ {ps:List PN} (v:Int) (l:LI):Kv_ (Kk_ ps) (v::l)=Kk_ ps v.toNat+Kv_ (Kk_ ps) l:=by simp[Kv_]
theorem Yt_ {ps:List PN} (hp:PNs ps) (k:Nat):(ndAt ps k).text.size<=1048576:=by
 unfold ndAt;rw[List.getD_eq_getElem?_getD]
 cases h:ps[k]? with
 |none=>exact lz_ _
 |some x=>exact(hp x (lm_ h)).1
theorem GY_ {W:Nat} {ps:List PN} {op en:BA} (h1:op.size=1) (h2:en.size=1) (l:LI) (a:Int):wS W ps (XT_ op en l a)<=4+l.length * 2+Kv_ (Kk_ ps) l * W:=by
 unfold XT_;rw[Ky_,WU_];have e1:wB W ps (.put op)=1:=h1;have e2:wS W ps [.put en]=1:=by rw[Ky_];show en.size+0=1;omega
 rw[e1,e2];split
 ·show 1+(0+1)<=_;omega
 ·rw[Ky_,Ky_,WU_];have h3:=YM_ (W:=W) (ps:=ps) (g:=fun i v=>(if 0 < i then [Bv.put ⟨#[44]⟩,.split (min (l.length:Int) 2) true (inN a)]else [])++[.kid v (inN a)]) (c:=2) (fun i v=>by
   try dsimp only
   rw[WU_];have:wS W ps [Bv.kid v (inN a)]=Kk_ ps v.toNat * W:=(by rw[Ky_];rfl);rw[this];split
   ·show 1+(1+0)+_<=_;omega
   ·show 0+_<=_;omega) l 0
  have e3:wB W ps (.rule (min (l.length:Int) 2+1) 1)=0:=rfl;have e4:wB W ps (.split 1 false (inN a))=1:=rfl;have e5:wS W ps [Bv.split 1 false a]=1:=rfl;rw[e3,e4,e5];omega
theorem vg_ {ps:List PN} {m k:Nat} (hF:TreeF ps m) (hk:k < m+1) {x:PN} (hx:ps[k]? =some x) (h7:x.kind=7):x.text.size<=4:=by
 have h1:=(K0_ (hF.node k hk) hx).1;rw[h7]at h1;have a:Q1_ x.text=true:=h1;unfold Q1_ at a;simp only[Bool.or_eq_true,beq_iff_eq]at a;have h3:x.text.toList.length=x.text.size:=by rw[ByteArray.toList_eq,QF_]
 rcases a with((((((e|e)|e)|e)|e)|e)|e)<;>rw[e]at h3<;>simp at h3<;>omega
theorem Gn_ {W:Nat} {ps:List PN} {m k:Nat} (hW:2000000<=W) (r:TreeF ps m) (hp:PNs ps) {x:PN} (p:ps[k]? =some x) (d:Int):wS W ps (evsB ps x d)<=Kk_ ps k * W:=by
 have y:=r.tree.good;have s:k < m+1:=by have:=(gs_.1 p).1;rw[r.tree.len]at this;exact this
 have A:=Vz_ y p;have C:=(hp x (lm_ p)).1;have j:=(y k x p).1;have n:∀v∈x.kids,1<=Kk_ ps v.toNat:=fun v h=>by
  have h1:=(y k x p).2 v h;have h2:=Vz_ y (k:=v.toNat) (List.getElem?_eq_getElem (by rw[r.tree.len];omega));omega
 have f:wS W ps [Bv.put x.text]<=Kk_ ps k * W:=by
  rw[Ky_,A,Nat.add_mul];show x.text.size+0<=_;omega
 by_cases o:QI_ x.kind
 ·have hV:=vi_ (r.node k s) p o;obtain⟨kd,t,l,z⟩:=x;simp only at hV A C j n f;rw[A,Nat.add_mul,Nat.one_mul];rw[A,Nat.add_mul,Nat.one_mul]at f
  cases hV with
  |leaf k h=>rcases h with rfl|rfl|rfl<;>exact f
  |list l h=>
   have:=GY_ (W:=W) (ps:=ps) (op:=⟨#[91]⟩) (en:=⟨#[93]⟩) rfl rfl l d;show wS W ps (XT_ _ _ l d)<=_;omega
  |call v l h0 h=>
   have:=GY_ (W:=W) (ps:=ps) (op:=⟨#[40]⟩) (en:=⟨#[41]⟩) rfl rfl l d;show wS W ps (.kid v d::XT_ _ _ l d)<=_;rw[Ky_,KC_,Nat.add_mul];show Kk_ ps v.toNat * W+_<=_;simp only[List.length_cons]at j;omega
  |dot v h0=>
   show wS W ps [.kid v d,.put (⟨#[46]⟩++t)]<=_;rw[Ky_,Ky_,KC_,Nat.add_mul];show Kk_ ps v.toNat * W+((⟨#[46]⟩++t:BA).size+0)<=_;rw[Kr_];have:(⟨#[46]⟩:BA).size=1:=rfl;omega
  |chain l h2 h=>
   show wS W ps (ZS_ ps t l (inN d))<=_;unfold ZS_;rw[Ky_];have q:=YM_ (W:=W) (ps:=ps) (g:=fun i v=>(if 0 < i then [Bv.put (⟨#[32]⟩++t),.split 1 true (inN d)]else [])++[.tied v (inN d) (decide (Qc_ ps v=7)) (!ZB_ (Qc_ ps v))]) (c:=t.size+2) (fun i v=>by
    try dsimp only
    rw[WU_];have:wS W ps [Bv.tied v (inN d) (decide (Qc_ ps v=7)) (!ZB_ (Qc_ ps v))]=Kk_ ps v.toNat * W:=(by rw[Ky_];rfl);rw[this];split
    ·have e:wS W ps [Bv.put (⟨#[32]⟩++t),.split 1 true (inN d)]=t.size+2:=by
      show(⟨#[32]⟩++t:BA).size+(1+0)=_;rw[Kr_];have:(⟨#[32]⟩:BA).size=1:=rfl;omega
     omega
    ·show 0+_<=_;omega) l 0
   have B:=vg_ r s p rfl;have h5:l.length * (t.size+2)<=12 * 6:=Nat.mul_le_mul j (by simp only at B;omega);have e0:wB W ps (.rule 2 1)=0:=rfl;rw[e0];omega
  |pick a b c h=>
   show wS W ps (Y4_ ps [a,b,c] (inN d))<=_;unfold Y4_;rw[Ky_];have q:=YM_ (W:=W) (ps:=ps) (g:=fun i v=>(if 0 < i then [Bv.split 1 true (inN d),.put (if i=1 then ⟨#[63,32]⟩else ⟨#[58,32]⟩)]else [])++[.tied v (inN d) (decide (Qc_ ps v=8)) false]) (c:=3) (fun i v=>by
    try dsimp only
    rw[WU_];have:wS W ps [Bv.tied v (inN d) (decide (Qc_ ps v=8)) false]=Kk_ ps v.toNat * W:=(by rw[Ky_];rfl);rw[this];split
    ·have e:wS W ps [Bv.split 1 true (inN d),.put (if i=1 then ⟨#[63,32]⟩else ⟨#[58,32]⟩)]=3:=by
      show 1+((if i=1 then (⟨#[63,32]⟩:BA)else ⟨#[58,32]⟩).size+0)=_;split<;>rfl
     omega
    ·show 0+_<=_;omega) [a,b,c] 0
   show 0+_<=_;simp only[List.length_cons,List.length_nil]at q;omega
  |fn l v h0 hn=>
   show wS W ps (fnE ps (l++[v]) (inN d))<=_;have e1:(l++[v]).length - 1=l.length:=sm_;have e2:(l++[v]).take l.length=l:=sm_;have e3:(l++[v]).getD l.length 0=v:=sm_;unfold fnE;have e5:Kv_ (Kk_ ps) [v]=Kk_ ps v.toNat:=(by simp[Kv_]);rw[e1,e2,e3,Ky_,Ky_,Ky_,Ky_,UQ_,e5,Nat.add_mul];have q:=Wc_ (W:=1048576) (l.map (QE_ ps)) (fun t C=>by obtain⟨u,_,rfl⟩:=List.mem_map.1 C;exact Yt_ hp _);rw[List.length_map]at q;have B:=vE_ (ps:=ps) (l:=l) (fun u hu=>n u (by simp[hu]));have h5:l.length * (1048576+2)<=Kv_ (Kk_ ps) l * W:=Nat.mul_le_mul B oo;show((⟨#[40]⟩++Q5_ (l.map (QE_ ps))++⟨#[41,32,61,62]⟩:BA).size)+(0+(1+(Kk_ ps v.toNat * W+0)))<=_;rw[Kr_,Kr_];have:(⟨#[40]⟩:BA).size=1:=rfl;have:(⟨#[41,32,61,62]⟩:BA).size=4:=rfl;omega
  |casc v l h1 h0 h=>
   show wS W ps (QcC_ (v::l) d)<=_;unfold QcC_;rw[Ky_,Ky_,KC_,Nat.add_mul];have q:=YM_ (W:=W) (ps:=ps) (g:=fun _ v=>[Bv.split 1 false (inN d),.put ⟨#[46,46]⟩,.kid v (inN d)]) (c:=3) (fun i v=>by
    show 1+(2+(Kk_ ps v.toNat * W+0))<=_;omega) l 0
   show 0+(Kk_ ps v.toNat * W+_)<=_;simp only[List.length_cons]at j;show 0+(Kk_ ps v.toNat * W+wS W ps (Xp_ (fun _ v=>[Bv.split 1 false (inN d),.put ⟨#[46,46]⟩,.kid v (inN d)]) 0 l))<=_;omega
  |par v h0=>
   show wS W ps [.put ⟨#[40]⟩,.kid v d,.put ⟨#[41]⟩]<=_;rw[KC_,Nat.add_mul];show 1+(Kk_ ps v.toNat * W+(1+0))<=_;omega
 ·have he:evsB ps x d=[.put x.text]:=by
   unfold QI_ at o;unfold evsB;rw[in_ oo,in_ oo,in_ oo,in_ oo,in_ oo,in_ oo,in_ oo,in_ oo]
  rw[he];exact f
theorem xV_ {W:Nat} {ps:List PN} {m:Nat} (hW:2000000<=W) (hF:TreeF ps m) (hp:PNs ps):∀f,Uh_ W ps (QR_ ps f):=by
 intro f
 induction f with
 |zero=>intro k b s;exact Nat.le_add_right _ _
 |succ f ih=>
  intro k b s
  cases a:ps[k]? with
  |none=>unfold QR_;rw[a];exact Nat.le_add_right _ _
  |some p=>
   rw[KX_ a];have h1:=QfU_ ih (evsB ps p b) (s,-1);have h2:=Gn_ hW hF hp a b;dsimp only at h1;omega
/-! ### Texts of nodes are plain -/
theorem U8_ {c:UInt8} (h:Qp_ c=true):pl c=true:=by
 unfold Qp_ QN_ Kz_ at h;unfold pl;simp only[Bool.or_eq_true,decide_eq_true_eq]at h |-
 omega
theorem QcM_ {c:UInt8} (h:Kz_ c=true):pl c=true:=U8_ (by unfold Qp_;rw[h,Bool.or_true])
theorem zM_ {s:BA} (h:Ys_ s=true):QV_ s=true/\s.size<=30:=by
 unfold Ys_ Up_ at h;simp only[Bool.and_eq_true,decide_eq_true_eq]at h;exact⟨List.all_eq_true.2 (fun c hc=>U8_ (List.all_eq_true.1 h.1.2 c hc)),h.1.1.1⟩
theorem QbM_:∀l:List UInt8,(l.take (VJ_ l)).all pl=true:=by
 intro l
 induction l with
 |nil=>rfl
 |cons c l ih=>
  unfold VJ_;split
  ·rename_i h;subst h;rfl
  ·split
   ·rename_i h;split
    ·rfl
    ·rw[List.take_succ_cons,List.all_cons,ih,Bool.and_true];exact h
   ·rfl
theorem QdS_ {s:BA} (h:quoB s=true):QV_ s=true:=by
 unfold quoB at h;simp only[Bool.and_eq_true,decide_eq_true_eq]at h;obtain⟨⟨h1,h2⟩,a⟩:=h;have hl:=QF_ s;unfold QV_
 cases hs:s.data.toList with
 |nil=>rfl
 |cons c l=>
  rw[hs]at h2 a hl;have hc:c=39:=od_ h2;unfold Ur_ at a;rw[List.drop_succ_cons,List.drop_zero]at a;have h4:=QbM_ l;rw[List.length_cons]at hl;have h5:VJ_ l=l.length:=by split at a<;>omega
  rw[h5,List.take_length]at h4;rw[List.all_cons,h4,hc]
  rfl
theorem z4_ {k:Int} {s:BA} (h:Zi_ k s=true) (hk:k≠19):QV_ s=true:=by
 unfold Zi_ at h;split at h
 ·exact(zM_ h).1
 ·split at h
  ·unfold v9_ at h;rw[Bool.and_eq_true]at h;exact List.all_eq_true.2 (fun c hc=>QcM_ (List.all_eq_true.1 h.2 c hc))
  ·split at h
   ·exact QdS_ h
   ·split at h
    ·unfold Q1_ at h;simp only[Bool.or_eq_true,beq_iff_eq,ByteArray.toList_eq]at h;unfold QV_;rcases h with((((((e|e)|e)|e)|e)|e)|e)<;>rw[e]<;>rfl
    ·have:s.data.toList=[]:=ln_ (by rw[QF_];exact od_ h);unfold QV_;rw[this];rfl
theorem Zh_ {a b:BA} (ha:QV_ a=true) (hb:QV_ b=true):QV_ (a++b)=true:=by
 unfold QV_ at *;rw[XX_,List.all_append,ha,hb];rfl
theorem QbL_ {l:List BA} (h:∀t∈l,QV_ t=true):QV_ (Q5_ l)=true:=by
 cases l with
 |nil=>rfl
 |cons t l=>
  show QV_ (l.foldl (fun a t=>a++⟨#[44,32]⟩++t) t)=true;have ht:=h t sm_;have hl:=fun u hu=>h u (List.mem_cons_of_mem _ hu)
  clear h
  induction l generalizing t with
  |nil=>exact ht
  |cons u l ih=>
   rw[List.foldl_cons];exact ih (t++⟨#[44,32]⟩++u) (Zh_ (Zh_ ht rfl) (hl u sm_)) (fun x hx=>hl x (by simp[hx]))
/-! ### A builder's state is right -/
structure OkP (s:Pb):Prop where
 rules:∀d∈s.rules,(2<=d.1/\d.1<=3)/\0<=d.2/\d.2<=9
 r8:s.rules.length<=8
 chunks:∀d∈s.chunks,QV_ d.1=true/\KW_ s.rules d.2.1 d.2.2.1 d.2.2.2.2=true
 c79:s.chunks.length<=79
 spans:∀d∈s.spans,0<=d.1/\d.1<=d.2.1/\d.2.1 < (s.chunks.length:Int)/\d.2.2=1
 s40:s.spans.length<=40
 ties:∀d∈s.ties,(0<=d.1/\d.1 < (s.rules.length:Int))/\(0<=d.2/\d.2 < (s.rules.length:Int))/\d.1≠d.2
 t20:s.ties.length<=20
 text:QV_ s.text=true
def RuleV (s:Pb) (r v:Int):Prop:=r= -1\/(0<=r/\∃c,s.rules[r.toNat]? =some (v,c))
theorem RuleV.grow {s s':Pb} {r v:Int} (h:RuleV s r v) (hg:GrowR s s'):RuleV s' r v:=by
 rcases h with h|⟨h0,c,hc⟩
 ·exact .inl h
 ·refine .inr ⟨h0,c,?_⟩;obtain⟨⟨l,hl⟩,_⟩:=hg;rw[hl,List.getElem?_append_left (gs_.1 hc).1];exact hc
theorem va_ {l l':List RuleD} {r f q:Int} (h:KW_ l r f q=true):KW_ (l++l') r f q=true:=by
 unfold KW_ at h |-
 simp only[Bool.and_eq_true]at h |-
 obtain⟨⟨h1,h2⟩,h3⟩:=h;have hr:=Yl_ h1;refine⟨⟨dt_ ⟨hr.1,by rw[lA];omega⟩,h2⟩,?_⟩;unfold jk_ at h3 |-
 have a:r.toNat < l.length:=oo;rw[List.getElem?_append_left a];exact h3
theorem OkP.put {s:Pb} (h:OkP s) {t:BA} (ht:QV_ t=true):OkP (s.put t):=⟨h.rules,h.r8,h.chunks,h.c79,h.spans,h.s40,h.ties,h.t20,Zh_ h.text ht⟩
theorem OkP.rule {s:Pb} (h:OkP s) {v c:Int} (hv:2<=v/\v<=3) (hc:0<=c/\c<=9):OkP (s.rule v c)/\RuleV (s.rule v c) (Q4_ s) v:=by
 unfold Pb.rule Q4_;by_cases a:s.rules.length < 8
 ·rw[ip_ a,ip_ a];refine⟨⟨fun d hd=>?_,by simp;omega,fun d hd=>⟨(h.chunks d hd).1,va_ (h.chunks d hd).2⟩,h.c79,h.spans,h.s40,fun d hd=>?_,h.t20,h.text⟩,.inr ⟨oo,c,by simp⟩⟩
  ·rcases List.mem_append.1 hd with hd|hd
   ·exact h.rules d hd
   ·obtain rfl:=ms1_.1 hd;exact⟨hv,hc⟩
  ·have:=h.ties d hd;simp only[lA,List.length_cons,List.length_nil];exact⟨⟨this.1.1,oo⟩,⟨this.2.1.1,oo⟩,this.2.2⟩
 ·rw[in_ a,in_ a];exact⟨h,.inl rfl⟩
theorem OkP.split {s:Pb} (h:OkP s) {r v a b:Int} {sp:Bool} (hr:RuleV s r v) (ha:1<=a/\a<=v - 1) (hn:0<=b):OkP (s.split r a sp b):=by
 unfold Pb.split;split
 ·rename_i h1;rcases hr with e|⟨h0,c,hc⟩
  ·omega
  ·have f:=(gs_.1 hc).1;have hs:KW_ s.rules r a (min b 40)=true:=by
    unfold KW_;simp only[Bool.and_eq_true];refine⟨⟨dt_ ⟨h0,oo⟩,dt_ ⟨oo,oo⟩⟩,?_⟩;unfold jk_;rw[hc];exact dt_ ⟨ha.1,ha.2⟩
   refine⟨h.rules,h.r8,fun d hd=>?_,by simp;omega,fun d hd=>?_,h.s40,h.ties,h.t20,rfl⟩
   ·rcases List.mem_append.1 hd with hd|hd
    ·exact h.chunks d hd
    ·obtain rfl:=ms1_.1 hd;exact⟨h.text,hs⟩
   ·have:=h.spans d hd;simp only[lA,List.length_cons,List.length_nil];exact⟨this.1,this.2.1,oo,this.2.2.2⟩
 ·split
  ·exact h.put rfl
  ·exact h
theorem OkP.tie {s:Pb} (h:OkP s) {a b:Int} (ha:a < (s.rules.length:Int)) (hb:b < (s.rules.length:Int)) (c:0<=a->0<=b->a≠b):OkP (s.tie a b):=by
 unfold Pb.tie;split
 ·rename_i h1;refine⟨h.rules,h.r8,h.chunks,h.c79,h.spans,h.s40,fun d hd=>?_,by simp;omega,h.text⟩;rcases List.mem_append.1 hd with hd|hd
  ·exact h.ties d hd
  ·obtain rfl:=ms1_.1 hd;exact⟨⟨h1.1,ha⟩,⟨h1.2.1,hb⟩,c h1.1 h1.2.1⟩
 ·exact h
theorem OkP.span {s:Pb} (h:OkP s) (a:Nat):OkP (s.span a):=by
 unfold Pb.span;split
 ·rename_i h1;refine⟨h.rules,h.r8,h.chunks,h.c79,fun d hd=>?_,by simp;omega,h.ties,h.t20,h.text⟩;rcases List.mem_append.1 hd with hd|hd
  ·exact h.spans d hd
  ·obtain rfl:=ms1_.1 hd;exact⟨show(0:Int)<=(a:Int)from oo,show(a:Int)<=(s.chunks.length:Int) - 1 from oo,show(s.chunks.length:Int) - 1 < (s.chunks.length:Int)from oo,rfl⟩
 ·exact h
def QgC_ (ps:List PN) (f:Nat->Int->Pb->Pb) (k:Nat):Prop:=
 ∀j,j < k->QI_ (Qc_ ps (j:Int))->∀a s,0<=a->OkP s->OkP (f j a s)/\GrowR s (f j a s)/\(Qc_ ps (j:Int)=7\/Qc_ ps (j:Int)=8->0<=Q4_ s->Q4_ s=(s.rules.length:Int)/\(s.rules.length:Int) < (f j a s).rules.length)
def WW_ (ps:List PN) (k:Nat):Int->List Bv->Prop
 |_,[]=>True
 |v,.put t::es=>QV_ t=true/\WW_ ps k v es
 |_,.rule v' c::es=>((2<=v'/\v'<=3)/\0<=c/\c<=9)/\WW_ ps k v' es
 |v,.split a _ ne::es=>((1<=a/\a<=v - 1)/\0<=ne)/\WW_ ps k v es
 |v,.kid j ne::es=>((0<=j/\j < (k:Int))/\QI_ (Qc_ ps j)/\0<=ne)/\WW_ ps k v es
 |v,.tied j ne ti _::es=>(((0<=j/\j < (k:Int))/\QI_ (Qc_ ps j)/\0<=ne)/\(ti=true->Qc_ ps j=7\/Qc_ ps j=8))/\WW_ ps k v es
theorem Qgv_ {ps:List PN} {f:Nat->Int->Pb->Pb} {k:Nat} (hf:QgC_ ps f k):∀(es:List Bv) (s:Pb × Int) (v:Int),OkP s.1->RuleV s.1 s.2 v->WW_ ps k v es->OkP (VL_ f s es).1:=by
 intro es
 induction es with
 |nil=>intro s v h _ _;exact h
 |cons e es n=>
  intro s v h i b;rw[XQ_]
  cases e with
  |put t=>exact n _ v (h.put b.1) (i.grow (.same rfl)) b.2
  |rule v' c=>
   obtain⟨h1,g⟩:=h.rule b.1.1 b.1.2;exact n _ v' h1 g b.2
  |split a sp d=>exact n _ v (h.split i b.1.1 b.1.2) (i.grow (.same (WP_ _ _ _ _ _))) b.2
  |kid j d=>
   obtain⟨q,rfl⟩:=eo_ b.1.1.1;obtain⟨h1,g,_⟩:=hf q (by have:=b.1.1.2;omega) b.1.2.1 d s.1 b.1.2.2 h;have p:Jv_ f s (.kid (q:Int) d)=(f q d s.1,s.2):=(by show(f (q:Int).toNat d s.1,s.2)=_;rw[it_]);rw[p];exact n _ v h1 (i.grow g) b.2
  |tied j d ti sp=>
   obtain⟨⟨⟨⟨x,z⟩,hv,hn⟩,y⟩,r⟩:=b;obtain⟨q,rfl⟩:=eo_ x;obtain⟨h1,g,h3⟩:=hf q oo hv d s.1 hn h;have p:Jv_ f s (.tied (q:Int) d ti sp)=(Jw_ f s.1 s.2 (q:Int) d ti sp,s.2):=rfl;rw[p];have hg:GrowR s.1 (Jw_ f s.1 s.2 (q:Int) d ti sp)/\OkP (Jw_ f s.1 s.2 (q:Int) d ti sp):=by
    unfold Jw_;rw[it_];dsimp only;generalize f q d s.1=s1 at h1 g h3;have o:GrowR s.1 (if ti=true then s1.tie (Q4_ s.1) s.2 else s1)/\OkP (if ti=true then s1.tie (Q4_ s.1) s.2 else s1):=by
     split
     ·rename_i m;refine⟨g.trans (.same (xO_ _ _ _)),?_⟩;have B:s.2 < (s.1.rules.length:Int):=by
       rcases i with e|⟨h0,c,hc⟩
       ·rw[e];omega
       ·have:=(gs_.1 hc).1;omega
      have A:s.1.rules.length<=s1.rules.length:=(by obtain⟨⟨l,hl⟩,_⟩:=g;rw[hl];simp);by_cases hk:0<=Q4_ s.1
      ·have h4:=h3 (y m) hk;exact h1.tie oo oo (fun _ _ e=>oo)
      ·exact h1.tie oo oo (fun h0=>absurd h0 hk)
     ·exact⟨g,h1⟩
    generalize (if ti=true then s1.tie (Q4_ s.1) s.2 else s1)=s2 at o;split
    ·exact⟨o.1.trans (.same (zZ_ _ _)),o.2.span _⟩
    ·exact o
   exact n _ v hg.2 (i.grow hg.1) r
theorem JY_ {ps:List PN} {k:Nat} {v:Int} {g:Nat->Int->List Bv} {es:List Bv} (he:WW_ ps k v es):∀(l:LI) (i:Nat),(∀i u rest,u∈l->WW_ ps k v rest->WW_ ps k v (g i u++rest))->WW_ ps k v (Xp_ g i l++es):=by
 intro l
 induction l with
 |nil=>intro i _;exact he
 |cons u l ih=>
  intro i hg;unfold Xp_;rw[List.append_assoc];exact hg i u _ sm_ (ih (i+1) (fun i x rest hx hr=>hg i x rest (by simp[hx]) hr))
theorem Qgk_ {ne:Int} (h:0<=ne):0<=inN ne:=by unfold inN;omega
theorem vY_ {ps:List PN} {k:Nat} {op en:BA} (h1:QV_ op=true) (h2:QV_ en=true) {l:LI} {b v:Int} (hn:0<=b) (hl:∀u∈l,(0<=u/\u < (k:Int))/\QI_ (Qc_ ps u)):WW_ ps k v (XT_ op en l b):=by
 have hi:=Qgk_ hn;unfold XT_;refine⟨h1,?_⟩;split
 ·exact⟨h2,trivial⟩
 ·rename_i h0;refine⟨⟨⟨oo,oo⟩,oo,oo⟩,⟨⟨oo,oo⟩,hi⟩,?_⟩;change WW_ ps k _ ((Xp_ _ 0 l++[Bv.split 1 false b])++[Bv.put en]);rw[List.append_assoc];refine JY_ (show WW_ ps k _ ([Bv.split 1 false b]++[.put en])from⟨⟨⟨oo,oo⟩,hn⟩,h2,trivial⟩) l 0 (fun i u rest a hr=>?_)
  try dsimp only
  split
  ·exact⟨rfl,⟨⟨oo,oo⟩,hi⟩,⟨(hl u a).1,(hl u a).2,hi⟩,hr⟩
  ·exact⟨⟨(hl u a).1,(hl u a).2,hi⟩,hr⟩
theorem Qh9_ {ps:List PN} {m k:Nat} (s:TreeF ps m) {x:PN} (n:ps[k]? =some x) (o:QI_ x.kind) {A v:Int} (p:0<=A):WW_ ps k v (evsB ps x A):=by
 have B:k < m+1:=by have:=(gs_.1 n).1;rw[s.tree.len]at this;exact this
 have d:=(s.tree.good k x n).2;have hV:=vi_ (s.node k B) n o;have g:=z4_ (K0_ (s.node k B) n).1 (by unfold QI_ at o;omega);have hi:=Qgk_ p;obtain⟨kd,t,l,z⟩:=x;simp only at hV d g
 cases hV with
 |leaf q h=>rcases h with rfl|rfl|rfl<;>exact⟨g,trivial⟩
 |list l h=>exact vY_ rfl rfl p (fun u f=>⟨d u f,h u f⟩)
 |call u l h0 h=>exact⟨⟨d u sm_,h0,p⟩,vY_ rfl rfl p (fun x n=>⟨d x (List.mem_cons_of_mem _ n),h x n⟩)⟩
 |dot u h0=>exact⟨⟨d u sm_,h0,p⟩,Zh_ rfl g,trivial⟩
 |chain l h2 h=>
  show WW_ ps k v (ZS_ ps t l (inN A));unfold ZS_;refine⟨⟨⟨oo,oo⟩,oo,oo⟩,?_⟩;rw[<-List.append_nil (Xp_ _ _ _)];refine JY_ (es:=[]) (show WW_ ps k _ []from trivial) l 0 (fun i u rest f r=>?_)
  try dsimp only
  split
  ·exact⟨Zh_ rfl g,⟨⟨oo,oo⟩,hi⟩,⟨⟨d u f,h u f,hi⟩,fun e=>.inl (od_ e)⟩,r⟩
  ·exact⟨⟨⟨d u f,h u f,hi⟩,fun e=>.inl (od_ e)⟩,r⟩
 |pick a b c h=>
  show WW_ ps k v (Y4_ ps [a,b,c] (inN A));unfold Y4_;refine⟨⟨⟨oo,oo⟩,oo,oo⟩,?_⟩;rw[<-List.append_nil (Xp_ _ _ _)];refine JY_ (es:=[]) (show WW_ ps k _ []from trivial) [a,b,c] 0 (fun i u rest f r=>?_)
  try dsimp only
  split
  ·refine⟨⟨⟨oo,oo⟩,hi⟩,?_,⟨⟨d u f,h u f,hi⟩,fun e=>.inr (od_ e)⟩,r⟩;split<;>rfl
  ·exact⟨⟨⟨d u f,h u f,hi⟩,fun e=>.inr (od_ e)⟩,r⟩
 |fn l u h0 hnm=>
  show WW_ ps k v (fnE ps (l++[u]) (inN A));have e1:(l++[u]).length - 1=l.length:=by simp
  have e2:(l++[u]).take l.length=l:=by simp
  have e3:(l++[u]).getD l.length 0=u:=by simp
  unfold fnE;rw[e1,e2,e3];refine⟨Zh_ (Zh_ rfl (QbL_ (fun t ht=>?_))) rfl,⟨⟨oo,oo⟩,oo,oo⟩,⟨⟨oo,oo⟩,hi⟩,⟨d u sm_,h0,hi⟩,trivial⟩;obtain⟨q,hq,rfl⟩:=List.mem_map.1 ht;have D:=d q (by simp[hq]);obtain⟨j,rfl⟩:=eo_ D.1;obtain⟨y,E⟩:∃y,ps[j]? =some y:=⟨_,gE (by rw[s.tree.len];omega)⟩;unfold QE_;rw[it_,X7_ E];have F:y.kind=1:=by rw[<-Qr_ E];exact hnm _ hq
  exact z4_ (K0_ (s.node j oo) E).1 oo
 |casc u l h1 h0 h=>
  show WW_ ps k v (QcC_ (u::l) A);unfold QcC_;refine⟨⟨⟨oo,oo⟩,oo,oo⟩,⟨d u sm_,h0,p⟩,?_⟩;rw[<-List.append_nil (Xp_ _ _ _)];refine JY_ (es:=[]) (show WW_ ps k _ []from trivial) _ 0 (fun i x rest n r=>?_);have C:x∈l:=n;exact⟨⟨⟨oo,oo⟩,hi⟩,rfl,⟨d x (List.mem_cons_of_mem _ C),h x C,hi⟩,r⟩
 |par u h0=>exact⟨rfl,⟨d u sm_,h0,p⟩,rfl,trivial⟩
theorem QiK_ {ps:List PN} {m:Nat} (hF:TreeF ps m):∀f,f<=m+1->QgC_ ps (QR_ ps f) f:=by
 intro f
 induction f with
 |zero=>intro _ j hj;omega
 |succ f ih=>
  intro d j hj a ne s hn hs;obtain⟨x,b⟩:∃x,ps[j]? =some x:=⟨_,gE (by rw[hF.tree.len];omega)⟩;rw[Qr_ b]at a |-
  refine⟨?_,q6_ ps _ _ _ _,fun hk h0=>?_⟩
  ·rw[KX_ b];have c:QgC_ ps (QR_ ps f) j:=fun i hi=>ih oo i oo
   exact Qgv_ c _ (s,-1) 2 hs (.inl rfl) (Qh9_ hF b a hn)
  ·have h1:=xm_ (ps:=ps) (f:=f) b hk ne s;exact⟨h1.2 h0,h1.1.2 h0⟩
theorem qM_ {s:Pb} (h:OkP s) {m:Int} (hm:0<=m/\m<=60) {g:BA} (f:QV_ g=true):Kf_ m s.rules (s.chunks++[(s.text++g,0,0,false,0)]) s.spans s.ties=true:=by
 have a:(s.chunks++[((s.text++g,0,0,false,0):ChunkD)]).length=s.chunks.length+1:=by simp
 have b:∀{α:Type} (p:Nat->α->Bool) (l:List α),(∀j d,l[j]? =some d->p j d=true)->KG_ p l=true:=fun p l f=>by
  unfold KG_;rw[List.all_eq_true];intro j hj
  cases hd:l[j]? with
  |none=>rfl
  |some d=>exact f j d hd
 have i:=h.c79;unfold Kf_ GS_ X3_ KS_;simp only[Bool.and_eq_true];refine⟨⟨dt_ hm,⟨b _ _ (fun j d hd=>?_),dt_ h.r8⟩,⟨⟨dt_ ⟨by rw[a];omega,by rw[a];omega⟩,b _ _ (fun j d hd=>?_)⟩,?_⟩,dt_ h.s40,dt_ h.t20⟩,b _ _ (fun j d hd=>?_),b _ _ (fun j d hd=>?_)⟩
 ·have:=h.rules d (lm_ hd);unfold YJ_;rw[Bool.and_eq_true];exact⟨dt_ this.1,dt_ this.2⟩
 ·unfold ZT_;rw[Bool.and_eq_true,Bool.or_eq_true,a];by_cases hj:j < s.chunks.length
  ·rw[List.getElem?_append_left hj]at hd;have:=h.chunks d (lm_ hd);exact⟨this.1,.inr this.2⟩
  ·rw[List.getElem?_append_right oo]at hd;have c:=(gs_.1 hd).1;simp at c;have e:j - s.chunks.length=0:=oo;rw[e]at hd;obtain rfl:=oi_ hd;exact⟨Zh_ h.text f,.inl (dt_ oo)⟩
 ·unfold Vm_;rw[a,Nat.add_sub_cancel];simp[GM_]
 ·have:=h.spans d (lm_ hd);unfold Y8_;simp only[Bool.and_eq_true];rw[a];exact⟨dt_ this.1,dt_ this.2.1,dt_ oo,dt_ ⟨oo,oo⟩⟩
 ·have:=h.ties d (lm_ hd);unfold ka_;simp only[Bool.and_eq_true,Bool.not_eq_true'];exact⟨dt_ ⟨this.1.1,oo⟩,dt_ ⟨this.2.1.1,oo⟩,df_ this.2.2⟩
abbrev bty (a:Bool):TypeId:=if a then 225 else 172
def Kh_ (a:Bool) (m:Int) (A:OA) (n c:Nat) (v0 v1 v2 v3:Value) (t:BA):Array Value:=
 if a then #[I_ j_ m,v0,v1,v2,v3,S_ A n c,T_ t,B_ true]else #[S_ A n c,I_ j_ m,v0,v1,v2,v3,T_ t,B_ false]
structure BD where
 imp:Bool
 T:Nat
 m:Int
 A:OA
 n:Nat
 c:Nat
 w0:World
abbrev BD.fo (D:BD) (k:Nat):Nat:=if D.imp then k+1 else k+2
structure BdA (D:BD) (s:Pb) (A0:OA) (c0:Nat) (A1:OA) (c1:Nat) (A2:OA) (c2:Nat) (A3:OA) (c3:Nat) (w:World):Prop where
 blk:Blk w D.T (bty D.imp) (Kh_ D.imp D.m D.A D.n D.c (S_ A0 s.rules.length c0) (S_ A1 s.chunks.length c1) (S_ A2 s.spans.length c2) (S_ A3 s.ties.length c3) s.text)
 r0:Mine w D.w0.heap.size 192 2 A0 s.rules.length c0 (s.rules.flatMap Q0_)
 r1:Mine w D.w0.heap.size 178 5 A1 s.chunks.length c1 (s.chunks.flatMap Qo_)
 r2:Mine w D.w0.heap.size 213 3 A2 s.spans.length c2 (s.spans.flatMap QJ_)
 r3:Mine w D.w0.heap.size 215 2 A3 s.ties.length c3 (s.ties.flatMap KF_)
 bT:D.w0.heap.size<=D.T
 old:Below D.w0.heap.size D.w0 w
def BdC (D:BD) (s:Pb) (w:World):Prop:=∃A0 c0 A1 c1 A2 c2 A3 c3,BdA D s A0 c0 A1 c1 A2 c2 A3 c3 w
def Kb (w w':World):Prop:=w.heap.size<=w'.heap.size/\∀g cs,Blk w g 96 cs->Blk w' g 96 cs
theorem Kb.refl (w:World):Kb w w:=⟨lr_ _,fun _ _ h=>h⟩
theorem Kb.trans {w w1 w2:World} (h:Kb w w1) (k:Kb w1 w2):Kb w w2:=⟨lt_ h.1 k.1,fun g cs hb=>k.2 g cs (h.2 g cs hb)⟩
theorem Kb.below {w w':World} (hb:Below w.heap.size w w'):Kb w w':=⟨hb.size,fun g cs h=>h.next hb⟩
theorem YY_ (a:Bool):bty a≠96/\bty a≠192/\bty a≠178/\bty a≠213/\bty a≠215:=by cases a<;>decide
section
variable {D:BD} {s:Pb} {A0 A1 A2 A3:OA} {c0 c1 c2 c3:Nat} {w w' w1 w3:World}
theorem Mine.far_set {B:Nat} {e:TypeId} {z:Nat} {A:OA} {n c:Nat} {xs:List Value} {g:Nat} {t:TypeId} {cs:Array Value} (h:Mine w B e z A n c xs) (hb:Blk w g t cs) (ht:t≠e) (i:Nat) (u:Value):Mine (w.setCell ⟨g,i,none⟩ u) B e z A n c xs:=Qt_ h hb (Ne.symm ht) i u
theorem BdA.next (h:BdA D s A0 c0 A1 c1 A2 c2 A3 c3 w) (a:Below w.heap.size w w'):BdA D s A0 c0 A1 c1 A2 c2 A3 c3 w':=
 ⟨h.blk.next a,h.r0.next a,h.r1.next a,h.r2.next a,h.r3.next a,h.bT,Qb_ h.old a⟩
theorem BdC.next (h:BdC D s w) (hb:Below w.heap.size w w'):BdC D s w':=by
 obtain⟨A0,c0,A1,c1,A2,c2,A3,c3,h⟩:=h;exact⟨A0,c0,A1,c1,A2,c2,A3,c3,h.next hb⟩
theorem Kb.set {g:Nat} {t:TypeId} {cs:Array Value} (hb:Blk w g t cs) (ht:t≠96) (i:Nat) (u:Value):Kb w (w.setCell ⟨g,i,none⟩ u):=
 ⟨by simp[World.setCell],fun q qs hq=>hq.far (Kj_ hq hb (Ne.symm ht)) u⟩
theorem BdA.setAt (h:BdA D s A0 c0 A1 c1 A2 c2 A3 c3 w) (i:Nat) (u:Value):Blk (w.setCell ⟨D.T,i,none⟩ u) D.T (bty D.imp) ((Kh_ D.imp D.m D.A D.n D.c (S_ A0 s.rules.length c0) (S_ A1 s.chunks.length c1) (S_ A2 s.spans.length c2) (S_ A3 s.ties.length c3) s.text).setIfInBounds i u)/\
  Mine (w.setCell ⟨D.T,i,none⟩ u) D.w0.heap.size 192 2 A0 s.rules.length c0 (s.rules.flatMap Q0_)/\Mine (w.setCell ⟨D.T,i,none⟩ u) D.w0.heap.size 178 5 A1 s.chunks.length c1 (s.chunks.flatMap Qo_)/\
  Mine (w.setCell ⟨D.T,i,none⟩ u) D.w0.heap.size 213 3 A2 s.spans.length c2 (s.spans.flatMap QJ_)/\Mine (w.setCell ⟨D.T,i,none⟩ u) D.w0.heap.size 215 2 A3 s.ties.length c3 (s.ties.flatMap KF_)/\
  Below D.w0.heap.size D.w0 (w.setCell ⟨D.T,i,none⟩ u)/\Kb w (w.setCell ⟨D.T,i,none⟩ u):=by
 obtain⟨n0,n1,n2,n3,n4⟩:=YY_ D.imp;exact⟨h.blk.set_ i u,h.r0.far_set h.blk n1 _ _,h.r1.far_set h.blk n2 _ _,h.r2.far_set h.blk n3 _ _,h.r3.far_set h.blk n4 _ _,h.old.setCell h.bT _,Kb.set h.blk n0 _ _⟩
theorem BdA.setText (h:BdA D s A0 c0 A1 c1 A2 c2 A3 c3 w) (t:BA):BdA D ⟨s.rules,s.chunks,s.spans,s.ties,t⟩ A0 c0 A1 c1 A2 c2 A3 c3 (w.setCell ⟨D.T,6,none⟩ (T_ t))/\Kb w (w.setCell ⟨D.T,6,none⟩ (T_ t)):=by
 obtain⟨k0,k1,k2,k3,k4,k5,k6⟩:=h.setAt 6 (T_ t);refine⟨⟨?_,k1,k2,k3,k4,h.bT,k5⟩,k6⟩;have e:(Kh_ D.imp D.m D.A D.n D.c (S_ A0 s.rules.length c0) (S_ A1 s.chunks.length c1) (S_ A2 s.spans.length c2) (S_ A3 s.ties.length c3) s.text).setIfInBounds 6 (T_ t)=Kh_ D.imp D.m D.A D.n D.c (S_ A0 s.rules.length c0) (S_ A1 s.chunks.length c1) (S_ A2 s.spans.length c2) (S_ A3 s.ties.length c3) t:=by
  unfold Kh_;cases D.imp<;>rfl
 rw[e]at k0;exact k0
theorem BdC.put (h:BdC D s w) (t:BA):BdC D (s.put t) (w.setCell ⟨D.T,6,none⟩ (T_ (s.text++t)))/\Kb w (w.setCell ⟨D.T,6,none⟩ (T_ (s.text++t))):=by
 obtain⟨A0,c0,A1,c1,A2,c2,A3,c3,h⟩:=h;obtain⟨k1,k2⟩:=h.setText (s.text++t);exact⟨⟨A0,c0,A1,c1,A2,c2,A3,c3,k1⟩,k2⟩
theorem BdA.grown (h:BdA D s A0 c0 A1 c1 A2 c2 A3 c3 w) (b:Below w.heap.size w w1) {e:TypeId} {z:Nat} {A:OA} {n c:Nat} {xs:List Value} (hm:Mine w D.w0.heap.size e z A n c xs) (l:w1.grownBy w3 (S_ A n c).ownBlock) (he:e≠bty D.imp) (hN:e≠96):
  Blk w3 D.T (bty D.imp) (Kh_ D.imp D.m D.A D.n D.c (S_ A0 s.rules.length c0) (S_ A1 s.chunks.length c1) (S_ A2 s.spans.length c2) (S_ A3 s.ties.length c3) s.text)/\
  (e≠192->Mine w3 D.w0.heap.size 192 2 A0 s.rules.length c0 (s.rules.flatMap Q0_))/\(e≠178->Mine w3 D.w0.heap.size 178 5 A1 s.chunks.length c1 (s.chunks.flatMap Qo_))/\
  (e≠213->Mine w3 D.w0.heap.size 213 3 A2 s.spans.length c2 (s.spans.flatMap QJ_))/\(e≠215->Mine w3 D.w0.heap.size 215 2 A3 s.ties.length c3 (s.ties.flatMap KF_))/\
  Below D.w0.heap.size D.w0 w3/\Kb w w3:=by
 rw[Q3_]at l;have h1:=h.next b;have d:=hm.next b;have a:∀{j:TypeId} {z2:Nat} {A2:OA} {n2 c2:Nat} {m:List Value},Mine w1 D.w0.heap.size j z2 A2 n2 c2 m->e≠j->Mine w3 D.w0.heap.size j z2 A2 n2 c2 m:=fun h2 f=>h2.grown l (fun g i=>.inr (fun j=>by
  obtain⟨q1,p⟩:=Qw_ d i;obtain⟨q2,b2⟩:=Qw_ h2 j;exact Kj_ p b2 f rfl))
 have k:∀{g:Nat} {t:TypeId} {cs:Array Value},Blk w1 g t cs->e≠t->Blk w3 g t cs:=fun o f=>o.grown l (fun i=>by
  obtain⟨q1,p⟩:=Qw_ d i.symm;exact Kj_ p o f rfl)
 refine⟨k h1.blk he,a h1.r0,a h1.r1,a h1.r2,a h1.r3,XY_ h1.old l (fun g i=>(Mine.blk d i).1),lt_ b.size l.size,fun g cs o=>k (o.next b) hN⟩
theorem BdA.app0 (h:BdA D s A0 c0 A1 c1 A2 c2 A3 c3 w) {i:Nat} (b:D.fo 0=i) (c:Below w.heap.size w w1) {d:RuleD} {v':Value} (a:w3.ownsRow D.w0.heap.size 192 2 v' (s.rules.length+1) (s.rules.flatMap Q0_++Q0_ d)) (hg:w1.grownBy w3 (S_ A0 s.rules.length c0).ownBlock):
  ∃A' c',v'=S_ A' (s.rules.length+1) c'/\Blk w3 D.T (bty D.imp) (Kh_ D.imp D.m D.A D.n D.c (S_ A0 s.rules.length c0) (S_ A1 s.chunks.length c1) (S_ A2 s.spans.length c2) (S_ A3 s.ties.length c3) s.text)/\
   BdA D ⟨s.rules++[d],s.chunks,s.spans,s.ties,s.text⟩ A' c' A1 c1 A2 c2 A3 c3 (w3.setCell ⟨D.T,i,none⟩ v')/\Kb w (w3.setCell ⟨D.T,i,none⟩ v'):=by
 subst b;obtain⟨q0,q1,q2,q3,q4⟩:=YY_ D.imp;obtain⟨k0,_,k2,k3,k4,k5,k6⟩:=h.grown c h.r0 hg (Ne.symm q1) dc_;obtain⟨A',c',rfl,m⟩:=Mine.of a;refine⟨A',c',rfl,k0,⟨?_,?_,(k2 dc_).far_set k0 q2 _ _,(k3 dc_).far_set k0 q3 _ _,(k4 dc_).far_set k0 q4 _ _,h.bT,k5.setCell h.bT _⟩,k6.trans (Kb.set k0 q0 _ _)⟩
 ·have hb:=k0.set_ (D.fo 0) (S_ A' (s.rules.length+1) c');have e:(Kh_ D.imp D.m D.A D.n D.c (S_ A0 s.rules.length c0) (S_ A1 s.chunks.length c1) (S_ A2 s.spans.length c2) (S_ A3 s.ties.length c3) s.text).setIfInBounds (D.fo 0) (S_ A' (s.rules.length+1) c')=Kh_ D.imp D.m D.A D.n D.c (S_ A' (s.rules++[d]).length c') (S_ A1 s.chunks.length c1) (S_ A2 s.spans.length c2) (S_ A3 s.ties.length c3) s.text:=by
   rw[lA];unfold Kh_ BD.fo;cases D.imp<;>rfl
  rw[e]at hb;exact hb
 ·have hm:=m.far_set k0 q1 (D.fo 0) (S_ A' (s.rules.length+1) c');rw[lA,List.flatMap_append];simpa using hm
theorem BdA.app1 (h:BdA D s A0 c0 A1 c1 A2 c2 A3 c3 w) {i:Nat} (b:D.fo 1=i) (c:Below w.heap.size w w1) {d:ChunkD} {v':Value} (a:w3.ownsRow D.w0.heap.size 178 5 v' (s.chunks.length+1) (s.chunks.flatMap Qo_++Qo_ d)) (hg:w1.grownBy w3 (S_ A1 s.chunks.length c1).ownBlock):
  ∃A' c',v'=S_ A' (s.chunks.length+1) c'/\Blk w3 D.T (bty D.imp) (Kh_ D.imp D.m D.A D.n D.c (S_ A0 s.rules.length c0) (S_ A1 s.chunks.length c1) (S_ A2 s.spans.length c2) (S_ A3 s.ties.length c3) s.text)/\
   BdA D ⟨s.rules,s.chunks++[d],s.spans,s.ties,s.text⟩ A0 c0 A' c' A2 c2 A3 c3 (w3.setCell ⟨D.T,i,none⟩ v')/\Kb w (w3.setCell ⟨D.T,i,none⟩ v'):=by
 subst b;obtain⟨q0,q1,q2,q3,q4⟩:=YY_ D.imp;obtain⟨k0,k1,_,k3,k4,k5,k6⟩:=h.grown c h.r1 hg (Ne.symm q2) dc_;obtain⟨A',c',rfl,m⟩:=Mine.of a;refine⟨A',c',rfl,k0,⟨?_,(k1 dc_).far_set k0 q1 _ _,?_,(k3 dc_).far_set k0 q3 _ _,(k4 dc_).far_set k0 q4 _ _,h.bT,k5.setCell h.bT _⟩,k6.trans (Kb.set k0 q0 _ _)⟩
 ·have hb:=k0.set_ (D.fo 1) (S_ A' (s.chunks.length+1) c');have e:(Kh_ D.imp D.m D.A D.n D.c (S_ A0 s.rules.length c0) (S_ A1 s.chunks.length c1) (S_ A2 s.spans.length c2) (S_ A3 s.ties.length c3) s.text).setIfInBounds (D.fo 1) (S_ A' (s.chunks.length+1) c')=Kh_ D.imp D.m D.A D.n D.c (S_ A0 s.rules.length c0) (S_ A' (s.chunks++[d]).length c') (S_ A2 s.spans.length c2) (S_ A3 s.ties.length c3) s.text:=by
   rw[lA];unfold Kh_ BD.fo;cases D.imp<;>rfl
  rw[e]at hb;exact hb
 ·have hm:=m.far_set k0 q2 (D.fo 1) (S_ A' (s.chunks.length+1) c');rw[lA,List.flatMap_append];simpa using hm
theorem BdA.app2 (h:BdA D s A0 c0 A1 c1 A2 c2 A3 c3 w) {i:Nat} (b:D.fo 2=i) (c:Below w.heap.size w w1) {d:SpanD} {v':Value} (a:w3.ownsRow D.w0.heap.size 213 3 v' (s.spans.length+1) (s.spans.flatMap QJ_++QJ_ d)) (hg:w1.grownBy w3 (S_ A2 s.spans.length c2).ownBlock):
  ∃A' c',v'=S_ A' (s.spans.length+1) c'/\Blk w3 D.T (bty D.imp) (Kh_ D.imp D.m D.A D.n D.c (S_ A0 s.rules.length c0) (S_ A1 s.chunks.length c1) (S_ A2 s.spans.length c2) (S_ A3 s.ties.length c3) s.text)/\
   BdA D ⟨s.rules,s.chunks,s.spans++[d],s.ties,s.text⟩ A0 c0 A1 c1 A' c' A3 c3 (w3.setCell ⟨D.T,i,none⟩ v')/\Kb w (w3.setCell ⟨D.T,i,none⟩ v'):=by
 subst b;obtain⟨q0,q1,q2,q3,q4⟩:=YY_ D.imp;obtain⟨k0,k1,k2,_,k4,k5,k6⟩:=h.grown c h.r2 hg (Ne.symm q3) dc_;obtain⟨A',c',rfl,m⟩:=Mine.of a;refine⟨A',c',rfl,k0,⟨?_,(k1 dc_).far_set k0 q1 _ _,(k2 dc_).far_set k0 q2 _ _,?_,(k4 dc_).far_set k0 q4 _ _,h.bT,k5.setCell h.bT _⟩,k6.trans (Kb.set k0 q0 _ _)⟩
 ·have hb:=k0.set_ (D.fo 2) (S_ A' (s.spans.length+1) c');have e:(Kh_ D.imp D.m D.A D.n D.c (S_ A0 s.rules.length c0) (S_ A1 s.chunks.length c1) (S_ A2 s.spans.length c2) (S_ A3 s.ties.length c3) s.text).setIfInBounds (D.fo 2) (S_ A' (s.spans.length+1) c')=Kh_ D.imp D.m D.A D.n D.c (S_ A0 s.rules.length c0) (S_ A1 s.chunks.length c1) (S_ A' (s.spans++[d]).length c') (S_ A3 s.ties.length c3) s.text:=by
   rw[lA];unfold Kh_ BD.fo;cases D.imp<;>rfl
  rw[e]at hb;exact hb
 ·have hm:=m.far_set k0 q3 (D.fo 2) (S_ A' (s.spans.length+1) c');rw[lA,List.flatMap_append];simpa using hm
theorem BdA.app3 (h:BdA D s A0 c0 A1 c1 A2 c2 A3 c3 w) {i:Nat} (b:D.fo 3=i) (c:Below w.heap.size w w1) {d:TieD} {v':Value} (a:w3.ownsRow D.w0.heap.size 215 2 v' (s.ties.length+1) (s.ties.flatMap KF_++KF_ d)) (hg:w1.grownBy w3 (S_ A3 s.ties.length c3).ownBlock):
  ∃A' c',v'=S_ A' (s.ties.length+1) c'/\Blk w3 D.T (bty D.imp) (Kh_ D.imp D.m D.A D.n D.c (S_ A0 s.rules.length c0) (S_ A1 s.chunks.length c1) (S_ A2 s.spans.length c2) (S_ A3 s.ties.length c3) s.text)/\
   BdA D ⟨s.rules,s.chunks,s.spans,s.ties++[d],s.text⟩ A0 c0 A1 c1 A2 c2 A' c' (w3.setCell ⟨D.T,i,none⟩ v')/\Kb w (w3.setCell ⟨D.T,i,none⟩ v'):=by
 subst b;obtain⟨q0,q1,q2,q3,q4⟩:=YY_ D.imp;obtain⟨k0,k1,k2,k3,_,k5,k6⟩:=h.grown c h.r3 hg (Ne.symm q4) dc_;obtain⟨A',c',rfl,m⟩:=Mine.of a;refine⟨A',c',rfl,k0,⟨?_,(k1 dc_).far_set k0 q1 _ _,(k2 dc_).far_set k0 q2 _ _,(k3 dc_).far_set k0 q3 _ _,?_,h.bT,k5.setCell h.bT _⟩,k6.trans (Kb.set k0 q0 _ _)⟩
 ·have hb:=k0.set_ (D.fo 3) (S_ A' (s.ties.length+1) c');have e:(Kh_ D.imp D.m D.A D.n D.c (S_ A0 s.rules.length c0) (S_ A1 s.chunks.length c1) (S_ A2 s.spans.length c2) (S_ A3 s.ties.length c3) s.text).setIfInBounds (D.fo 3) (S_ A' (s.ties.length+1) c')=Kh_ D.imp D.m D.A D.n D.c (S_ A0 s.rules.length c0) (S_ A1 s.chunks.length c1) (S_ A2 s.spans.length c2) (S_ A' (s.ties++[d]).length c') s.text:=by
   rw[lA];unfold Kh_ BD.fo;cases D.imp<;>rfl
  rw[e]at hb;exact hb
 ·have hm:=m.far_set k0 q4 (D.fo 3) (S_ A' (s.ties.length+1) c');rw[lA,List.flatMap_append];simpa using hm
end
def Xj_:Nat:=1000000000000
def YW_ (D:BD) (W:World) (v:Value) (s':Pb) (e:Ending) (w':World):Prop:=e=R_ v/\BdC D s' w'/\Kb W w'
theorem Qai_ (d:RuleD):∀u∈Q0_ d,u.oneCell'=true:=by intro u hu;simp[Q0_]at hu;rcases hu with rfl|rfl<;>rfl
theorem QeF_ (d:TieD):∀u∈KF_ d,u.oneCell'=true:=by intro u hu;simp[KF_]at hu;rcases hu with rfl|rfl<;>rfl
theorem qW_ (d:SpanD):∀u∈QJ_ d,u.oneCell'=true:=by intro u hu;simp[QJ_]at hu;rcases hu with rfl|rfl|rfl<;>rfl
theorem Vc_ (d:ChunkD):∀u∈Qo_ d,u.oneCell'=true:=by intro u hu;simp[Qo_]at hu;rcases hu with rfl|rfl|rfl|rfl|rfl<;>rfl
section
variable {D:BD} {s:Pb} {A0 A1 A2 A3:OA} {c0 c1 c2 c3:Nat} {w:World}
theorem BdA.icells (h:BdA D s A0 c0 A1 c1 A2 c2 A3 c3 w) (hi:D.imp=true):w.cell? ⟨D.T,1,none⟩=some (S_ A0 s.rules.length c0)/\w.cell? ⟨D.T,2,none⟩=some (S_ A1 s.chunks.length c1)/\w.cell? ⟨D.T,3,none⟩=some (S_ A2 s.spans.length c2)/\w.cell? ⟨D.T,4,none⟩=some (S_ A3 s.ties.length c3)/\
  w.cell? ⟨D.T,5,none⟩=some (S_ D.A D.n D.c)/\w.cell? ⟨D.T,6,none⟩=some (T_ s.text)/\w.cell? ⟨D.T,7,none⟩=some (B_ true)/\(∀i,w.frozen? ⟨D.T,i,none⟩=false)/\D.T < w.heap.size:=by
 have a:=h.blk;unfold Kh_ at a;rw[hi]at a;exact⟨a.cell 1,a.cell 2,a.cell 3,a.cell 4,a.cell 5,a.cell 6,a.cell 7,a.frozen,a.lt⟩
theorem BdA.scells (h:BdA D s A0 c0 A1 c1 A2 c2 A3 c3 w) (hi:D.imp=false):w.cell? ⟨D.T,2,none⟩=some (S_ A0 s.rules.length c0)/\w.cell? ⟨D.T,3,none⟩=some (S_ A1 s.chunks.length c1)/\w.cell? ⟨D.T,4,none⟩=some (S_ A2 s.spans.length c2)/\w.cell? ⟨D.T,5,none⟩=some (S_ A3 s.ties.length c3)/\
  w.cell? ⟨D.T,0,none⟩=some (S_ D.A D.n D.c)/\w.cell? ⟨D.T,6,none⟩=some (T_ s.text)/\w.cell? ⟨D.T,7,none⟩=some (B_ false)/\(∀i,w.frozen? ⟨D.T,i,none⟩=false)/\D.T < w.heap.size:=by
 have a:=h.blk;unfold Kh_ at a;rw[hi]at a;exact⟨a.cell 2,a.cell 3,a.cell 4,a.cell 5,a.cell 0,a.cell 6,a.cell 7,a.frozen,a.lt⟩
end
theorem kH_ (D:BD) (hi:D.imp=true) (s:Pb) (v c:Int) (W:World) (h:BdC D s W):
  Calls prog 245 #[P_ (some ⟨D.T,0,none⟩),I_ j_ v,I_ j_ c] W (YW_ D W (I_ j_ (Q4_ s)) (s.rule v c)):=by
 obtain⟨A0,c0,A1,c1,A2,c2,A3,c3,hA⟩:=h;obtain⟨x0,x1,x2,x3,xn,xt,xb,xf,xz⟩:=hA.icells hi;have k:=h_ hA;clear hA;by_cases m:s.rules.length < 8
 ·rw[show Q4_ s=(s.rules.length:Int)from ip_ m,show s.rule v c=⟨s.rules++[(v,c)],s.chunks,s.spans,s.ties,s.text⟩from ip_ m];have p:D.fo 0=1:=by unfold BD.fo;rw[hi];rfl
  obtain⟨i0,e,g,i,j⟩:=info_parts vP_;have l:=h_ (ai_ e (ai_ g (ai_ i j)));clear e g i j;go_enter func245,ntmps245;go_wp2_with (at_builtin;refine Qi_ _ rfl (.tmp 26) (.tmp 30) _ rfl D.w0.heap.size 192 i0 (A_ #[I_ j_ 0,I_ j_ 0]) 2 16 underlying144 l.o.1 l.o.2.1 l.o.2.2.1 l.o.2.2.2 rfl dc_ (S_ A0 s.rules.length c0) s.rules.length (s.rules.flatMap Q0_) rfl (Mine.alloc k.o.r0 _) ⟨W.heap.size,0,none⟩ 1 1 (Q0_ (v,c)) rfl rfl (World.news_of_block (cs:=#[I_ j_ v,I_ j_ c]) (t:=192) (fr:=(0,0)) (heap_alloc_new _ _)) (Qai_ _) mx_ oo (by have:=k.o.old.size;simp;omega) ?_;intro v' w5 b hg q;obtain⟨A',c',rfl,a,d,f⟩:=k.o.app0 p bra b hg;rw[hi]at a;have bc:w5.cell? ⟨D.T,1,none⟩=some (S_ A0 s.rules.length c0):=a.cell 1;have bf:=a.frozen;have bz:=a.lt;have r:=h_ a;have n:=h_ d;have o:=h_ f;clear a d f b hg q)
  go_ret;exact⟨Kx_ oo,⟨_,_,_,_,_,_,_,_,n.o⟩,o.o⟩
 ·rw[show Q4_ s= -1 from in_ m,show s.rule v c=s from in_ m];have h9:8<=s.rules.length:=oo;go_enter func245,ntmps245;go_wp2;go_ret;exact⟨rfl,⟨_,_,_,_,_,_,_,_,k.o⟩,Kb.refl _⟩
theorem U5_ (D:BD) (hi:D.imp=true) (s:Pb) (a b:Int) (W:World) (h:BdC D s W):
  Calls prog 267 #[P_ (some ⟨D.T,0,none⟩),I_ j_ a,I_ j_ b] W (YW_ D W (U_ #[]) (s.tie a b)):=by
 obtain⟨A0,c0,A1,c1,A2,c2,A3,c3,hA⟩:=h;obtain⟨x0,x1,x2,x3,xn,xt,xb,xf,xz⟩:=hA.icells hi;have e:=h_ hA;clear hA;by_cases f:0<=a/\0<=b/\s.ties.length < 20
 ·rw[show s.tie a b=⟨s.rules,s.chunks,s.spans,s.ties++[(a,b)],s.text⟩from ip_ f];obtain⟨q0,q1,q2⟩:=f;have q:D.fo 3=4:=by unfold BD.fo;rw[hi];rfl
  obtain⟨i0,i,k,l,m⟩:=info_parts Qdb_;have n:=h_ (ai_ i (ai_ k (ai_ l m)));clear i k l m;go_enter func267,ntmps267;go_wp2_with (at_builtin;refine Qi_ _ rfl (.tmp 26) (.tmp 30) _ rfl D.w0.heap.size 215 i0 (A_ #[I_ j_ 0,I_ j_ 0]) 2 16 underlying147 n.o.1 n.o.2.1 n.o.2.2.1 n.o.2.2.2 rfl dc_ (S_ A3 s.ties.length c3) s.ties.length (s.ties.flatMap KF_) rfl (Mine.alloc e.o.r3 _) ⟨W.heap.size,0,none⟩ 1 1 (KF_ (a,b)) rfl rfl (World.news_of_block (cs:=#[I_ j_ a,I_ j_ b]) (t:=215) (fr:=(0,0)) (heap_alloc_new _ _)) (QeF_ _) mx_ oo (by have:=e.o.old.size;simp;omega) ?_;intro v' w5 d hg r;obtain⟨A',c',rfl,c,g,j⟩:=e.o.app3 q bra d hg;rw[hi]at c;have bc:w5.cell? ⟨D.T,4,none⟩=some (S_ A3 s.ties.length c3):=c.cell 4;have bf:=c.frozen;have bz:=c.lt;have v:=h_ c;have o:=h_ g;have p:=h_ j;clear c g j d hg r)
  go_end0;exact⟨rfl,⟨_,_,_,_,_,_,_,_,o.o⟩,p.o⟩
 ·rw[show s.tie a b=s from in_ f];by_cases q0:0<=a
  ·by_cases q1:0<=b
   ·have q2:20<=s.ties.length:=oo;clear f;go_enter func267,ntmps267;go_wp2;go_end0;exact⟨rfl,⟨_,_,_,_,_,_,_,_,e.o⟩,Kb.refl _⟩
   ·clear f;go_enter func267,ntmps267;go_wp2;go_end0;exact⟨rfl,⟨_,_,_,_,_,_,_,_,e.o⟩,Kb.refl _⟩
  ·clear f;go_enter func267,ntmps267;go_wp2;go_end0;exact⟨rfl,⟨_,_,_,_,_,_,_,_,e.o⟩,Kb.refl _⟩
theorem qw_ (D:BD) (hi:D.imp=true) (s:Pb) (r a b:Int) (sp:Bool) (W:World) (h:BdC D s W) (ht:s.text.size+1<=Xj_):
    Calls prog 246 #[P_ (some ⟨D.T,0,none⟩),I_ j_ r,I_ j_ a,B_ sp,I_ j_ b] W (YW_ D W (U_ #[]) (s.split r a sp b)):=by
  obtain⟨A0,c0,A1,c1,A2,c2,A3,c3,hA⟩:=h;obtain⟨x0,x1,x2,x3,xn,xt,xb,xf,xz⟩:=hA.icells hi;have k:=h_ hA;clear hA;unfold Xj_ at ht;by_cases l:0<=r/\s.chunks.length < 79
  · rw[show s.split r a sp b=⟨s.rules,s.chunks++[(s.text,r,a,sp,min b 40)],s.spans,s.ties,⟨#[]⟩⟩from ip_ l]
    obtain⟨q0,q1⟩:=l;have J:D.fo 1=2:=(by unfold BD.fo;rw[hi];rfl);obtain⟨i0,y,z,A,B⟩:=info_parts Vh_;have C:=h_ (ai_ y (ai_ z (ai_ A B)));have f:Below W.heap.size W ((W.alloc (C_ #[I_ j_ r,I_ j_ a,B_ sp,I_ j_ (min b 40)] 176)).alloc (C_ #[T_ s.text,I_ j_ r,I_ j_ a,B_ sp,I_ j_ (min b 40)] 178)):=grow_;have N:=h_ f;have HM:=h_ (k.o.r1.next f);have K:((W.alloc (C_ #[I_ j_ r,I_ j_ a,B_ sp,I_ j_ (min b 40)] 176)).alloc (C_ #[T_ s.text,I_ j_ r,I_ j_ a,B_ sp,I_ j_ (min b 40)] 178)).heap[W.heap.size+1]? =some (C_ #[T_ s.text,I_ j_ r,I_ j_ a,B_ sp,I_ j_ (min b 40)] 178 (0,0)):=by
      have:=heap_alloc_new (W.alloc (C_ #[I_ j_ r,I_ j_ a,B_ sp,I_ j_ (min b 40)] 176)) (C_ #[T_ s.text,I_ j_ r,I_ j_ a,B_ sp,I_ j_ (min b 40)] 178);rwa[ws_]at this
    have x:D.w0.heap.size<=((W.alloc (C_ #[I_ j_ r,I_ j_ a,B_ sp,I_ j_ (min b 40)] 176)).alloc (C_ #[T_ s.text,I_ j_ r,I_ j_ a,B_ sp,I_ j_ (min b 40)] 178)).heap.size:=lt_ k.o.old.size f.size;have F:=h_ x;have E:=h_ (fun(w3:World) hg=>(k.o.grown f k.o.r1 (w3:=w3) hg (Ne.symm (YY_ D.imp).2.2.1) dc_).1);have n:=h_ (fun(v':Value) (w3:World) h1 h2=>k.o.app1 J f (d:=(s.text,r,a,sp,min b 40)) (v':=v') (w3:=w3) h1 h2);clear y z A B f x;go_enter func246,ntmps246;go_upto_region 2 with fail
    go_region_law
      (refine step_append_lies _ rfl (.tmp 33) (.tmp 40) 145 rfl D.w0.heap.size 178 i0 (A_ #[T_ ⟨#[]⟩,I_ j_ 0,I_ j_ 0,B_ false,I_ j_ 0]) 5 48 underlying145 C.o.1 C.o.2.1 C.o.2.2.1 C.o.2.2.2 rfl dc_ (S_ A1 s.chunks.length c1) s.chunks.length (s.chunks.flatMap Qo_) ev_ (by first|exact HM.o.drew|exact HM.o) ⟨W.heap.size+1,0,none⟩ 1 1 (Qo_ (s.text,r,a,sp,min b 40)) ev_ (by rfl) (World.news_of_block (cs:=#[T_ s.text,I_ j_ r,I_ j_ a,B_ sp,I_ j_ (min b 40)]) (t:=178) (fr:=(0,0)) K) (Vc_ _) dc_ mx_ oo (by first|exact F.o) (W.heap.size+1+1) sm_ ?_
       intro q6 cap L i e I M;have c:((W.alloc (C_ #[I_ j_ r,I_ j_ a,B_ sp,I_ j_ (min b 40)] 176)).alloc (C_ #[T_ s.text,I_ j_ r,I_ j_ a,B_ sp,I_ j_ (min b 40)] 178)).grownBy L (S_ A1 s.chunks.length c1).ownBlock:=(by first|exact e|exact Q9_ e);have g:=E.o _ c;rw[hi]at g;have j5:L.cell? ⟨D.T,2,none⟩=some (S_ A1 s.chunks.length c1):=g.cell 2;have jf:=g.frozen;have jz:=g.lt;have HW:=h_ (n.o _ _ i c);clear i e I c g)
    all_goals
      obtain⟨A',c',ev,j,o,q⟩:=HW.o;injection ev with ev1 ev2 ev3;subst ev1;subst ev3;obtain⟨p,v⟩:=o.setText ⟨#[]⟩;have G:=h_ p;have H:=h_ (q.trans v);rw[hi]at j;have yc:L.cell? ⟨D.T,6,none⟩=some (T_ s.text):=j.cell 6;have yf:=j.frozen;clear j o q p v HW ev2;go_wp2;go_end0;exact⟨rfl,⟨_,_,_,_,_,_,_,_,G.o⟩,H.o⟩
  · by_cases m:sp=true
    · subst m
      rw[show s.split r a true b=s.put ⟨#[32]⟩from(in_ l).trans (ip_ rfl)];have n:=h_ (BdC.put (D:=D) (s:=s) (w:=W) ⟨A0,c0,A1,c1,A2,c2,A3,c3,k.o⟩ ⟨#[32]⟩)
      
      by_cases q0:0<=r
      · have q1:79<=s.chunks.length:=oo
        clear l;go_enter func246,ntmps246;go_wp2;go_end0;exact⟨rfl,n.o.1,n.o.2⟩
      · clear l
        have q2:r < 0:=oo;go_enter func246,ntmps246;go_wp2;go_end0;exact⟨rfl,n.o.1,n.o.2⟩
    · obtain rfl:sp=false:=by cases sp;rfl;exact absurd rfl m
      rw[show s.split r a false b=s from(in_ l).trans (in_ m)];by_cases q0:0<=r
      · have q1:79<=s.chunks.length:=oo
        clear l;go_enter func246,ntmps246;go_wp2;go_end0;exact⟨rfl,⟨_,_,_,_,_,_,_,_,k.o⟩,Kb.refl _⟩
      · clear l
        have q2:r < 0:=oo;go_enter func246,ntmps246;go_wp2;go_end0;exact⟨rfl,⟨_,_,_,_,_,_,_,_,k.o⟩,Kb.refl _⟩
theorem GV_ (D:BD) (hi:D.imp=true) (s:Pb) (a:Nat) (W:World) (h:BdC D s W) (h1:a<=1000) (hc:s.chunks.length<=1000):
  Calls prog 268 #[P_ (some ⟨D.T,0,none⟩),I_ j_ (a:Int)] W (YW_ D W (U_ #[]) (s.span a)):=by
 obtain⟨A0,c0,A1,c1,A2,c2,A3,c3,hA⟩:=h;obtain⟨x0,x1,x2,x3,xn,xt,xb,xf,xz⟩:=hA.icells hi;have d:=h_ hA;clear hA;by_cases e:a < s.chunks.length/\s.spans.length < 40
 ·rw[show s.span a=⟨s.rules,s.chunks,s.spans++[((a:Int),(s.chunks.length:Int) - 1,1)],s.ties,s.text⟩from ip_ e];obtain⟨q0,q1⟩:=e;have p:D.fo 2=3:=by unfold BD.fo;rw[hi];rfl
  obtain⟨i0,g,j,k,l⟩:=info_parts qx_;have m:=h_ (ai_ g (ai_ j (ai_ k l)));clear g j k l;go_enter func268,ntmps268;go_wp2_with (at_builtin;refine Qi_ _ rfl (.tmp 29) (.tmp 33) _ rfl D.w0.heap.size 213 i0 (A_ #[I_ j_ 0,I_ j_ 0,I_ j_ 0]) 3 24 underlying146 m.o.1 m.o.2.1 m.o.2.2.1 m.o.2.2.2 rfl dc_ (S_ A2 s.spans.length c2) s.spans.length (s.spans.flatMap QJ_) rfl (Mine.alloc d.o.r2 _) ⟨W.heap.size,0,none⟩ 1 1 (QJ_ ((a:Int),(s.chunks.length:Int) - 1,1)) rfl rfl (World.news_of_block (cs:=#[I_ j_ (a:Int),I_ j_ ((s.chunks.length:Int) - 1),I_ j_ 1]) (t:=213) (fr:=(0,0)) (heap_alloc_new _ _)) (qW_ _) mx_ oo (by have:=d.o.old.size;simp;omega) ?_;intro v' w5 c hg q;obtain⟨A',c',rfl,b,f,i⟩:=d.o.app2 p bra c hg;rw[hi]at b;have bc:w5.cell? ⟨D.T,3,none⟩=some (S_ A2 s.spans.length c2):=b.cell 3;have bf:=b.frozen;have bz:=b.lt;have r:=h_ b;have n:=h_ f;have o:=h_ i;clear b f i c hg q)
  go_end0;exact⟨rfl,⟨_,_,_,_,_,_,_,_,n.o⟩,o.o⟩
 ·rw[show s.span a=s from in_ e];by_cases q0:a < s.chunks.length
  ·have q1:40<=s.spans.length:=oo;clear e;go_enter func268,ntmps268;go_wp2;go_end0;exact⟨rfl,⟨_,_,_,_,_,_,_,_,d.o⟩,Kb.refl _⟩
  ·clear e;go_enter func268,ntmps268;go_wp2;go_end0;exact⟨rfl,⟨_,_,_,_,_,_,_,_,d.o⟩,Kb.refl _⟩
theorem xD_ (D:BD) (hi:D.imp=false) (s:Pb) (v c:Int) (W:World) (h:BdC D s W):
  Calls prog 136 #[P_ (some ⟨D.T,0,none⟩),I_ j_ v,I_ j_ c] W (YW_ D W (I_ j_ (Q4_ s)) (s.rule v c)):=by
 obtain⟨A0,c0,A1,c1,A2,c2,A3,c3,hA⟩:=h;obtain⟨x0,x1,x2,x3,xn,xt,xb,xf,xz⟩:=hA.scells hi;have k:=h_ hA;clear hA;by_cases m:s.rules.length < 8
 ·rw[show Q4_ s=(s.rules.length:Int)from ip_ m,show s.rule v c=⟨s.rules++[(v,c)],s.chunks,s.spans,s.ties,s.text⟩from ip_ m];have p:D.fo 0=2:=by unfold BD.fo;rw[hi];rfl
  obtain⟨i0,e,g,i,j⟩:=info_parts vP_;have l:=h_ (ai_ e (ai_ g (ai_ i j)));clear e g i j;go_enter func136,ntmps136;go_wp2_with (at_builtin;refine Qi_ _ rfl (.tmp 25) (.tmp 29) _ rfl D.w0.heap.size 192 i0 (A_ #[I_ j_ 0,I_ j_ 0]) 2 16 underlying144 l.o.1 l.o.2.1 l.o.2.2.1 l.o.2.2.2 rfl dc_ (S_ A0 s.rules.length c0) s.rules.length (s.rules.flatMap Q0_) rfl (Mine.alloc k.o.r0 _) ⟨W.heap.size,0,none⟩ 1 1 (Q0_ (v,c)) rfl rfl (World.news_of_block (cs:=#[I_ j_ v,I_ j_ c]) (t:=192) (fr:=(0,0)) (heap_alloc_new _ _)) (Qai_ _) mx_ oo (by have:=k.o.old.size;simp;omega) ?_;intro v' w5 b hg q;obtain⟨A',c',rfl,a,d,f⟩:=k.o.app0 p bra b hg;rw[hi]at a;have bc:w5.cell? ⟨D.T,2,none⟩=some (S_ A0 s.rules.length c0):=a.cell 2;have bf:=a.frozen;have bz:=a.lt;have r:=h_ a;have n:=h_ d;have o:=h_ f;clear a d f b hg q)
  go_ret;exact⟨Kx_ oo,⟨_,_,_,_,_,_,_,_,n.o⟩,o.o⟩
 ·rw[show Q4_ s= -1 from in_ m,show s.rule v c=s from in_ m];have h9:8<=s.rules.length:=oo;go_enter func136,ntmps136;go_wp2;go_ret;exact⟨rfl,⟨_,_,_,_,_,_,_,_,k.o⟩,Kb.refl _⟩
theorem WN_ (D:BD) (hi:D.imp=false) (s:Pb) (a b:Int) (W:World) (h:BdC D s W) (ha:0<=a):
  Calls prog 229 #[P_ (some ⟨D.T,0,none⟩),I_ j_ a,I_ j_ b] W (YW_ D W (U_ #[]) (if a < (s.rules.length:Int)then s.tie a b else s)):=by
 obtain⟨A0,c0,A1,c1,A2,c2,A3,c3,hA⟩:=h;obtain⟨x0,x1,x2,x3,xn,xt,xb,xf,xz⟩:=hA.scells hi;have f:=h_ hA;clear hA;by_cases q1:0<=b
 ·by_cases q0:a < (s.rules.length:Int)
  ·rw[ip_ q0];by_cases q2:s.ties.length < 20
   ·rw[show s.tie a b=⟨s.rules,s.chunks,s.spans,s.ties++[(a,b)],s.text⟩from ip_ ⟨ha,q1,q2⟩];have q:D.fo 3=5:=(by unfold BD.fo;rw[hi];rfl);obtain⟨i0,i,k,l,m⟩:=info_parts Qdb_;have n:=h_ (ai_ i (ai_ k (ai_ l m)));clear i k l m;go_enter func229,ntmps229;go_wp2_with (at_builtin;refine Qi_ _ rfl (.tmp 32) (.tmp 36) _ rfl D.w0.heap.size 215 i0 (A_ #[I_ j_ 0,I_ j_ 0]) 2 16 underlying147 n.o.1 n.o.2.1 n.o.2.2.1 n.o.2.2.2 rfl dc_ (S_ A3 s.ties.length c3) s.ties.length (s.ties.flatMap KF_) rfl (Mine.alloc f.o.r3 _) ⟨W.heap.size,0,none⟩ 1 1 (KF_ (a,b)) rfl rfl (World.news_of_block (cs:=#[I_ j_ a,I_ j_ b]) (t:=215) (fr:=(0,0)) (heap_alloc_new _ _)) (QeF_ _) mx_ oo (by have:=f.o.old.size;simp;omega) ?_;intro v' w5 d hg r;obtain⟨A',c',rfl,c,g,j⟩:=f.o.app3 q bra d hg;rw[hi]at c;have bc:w5.cell? ⟨D.T,5,none⟩=some (S_ A3 s.ties.length c3):=c.cell 5;have bf:=c.frozen;have bz:=c.lt;have v:=h_ c;have o:=h_ g;have p:=h_ j;clear c g j d hg r)
    go_end0;exact⟨rfl,⟨_,_,_,_,_,_,_,_,o.o⟩,p.o⟩
   ·rw[show s.tie a b=s from in_ (fun h=>q2 h.2.2)];have q3:20<=s.ties.length:=oo;go_enter func229,ntmps229;go_wp2;go_end0;exact⟨rfl,⟨_,_,_,_,_,_,_,_,f.o⟩,Kb.refl _⟩
  ·rw[in_ q0];go_enter func229,ntmps229;go_wp2;go_end0;exact⟨rfl,⟨_,_,_,_,_,_,_,_,f.o⟩,Kb.refl _⟩
 ·have e:s.tie a b=s:=in_ (fun h=>q1 h.2.1);rw[show(if a < (s.rules.length:Int)then s.tie a b else s)=s by rw[e,ite_self]];go_enter func229,ntmps229;go_wp2;go_end0;exact⟨rfl,⟨_,_,_,_,_,_,_,_,f.o⟩,Kb.refl _⟩
theorem Xh_ (D:BD) (hi:D.imp=false) (s:Pb) (t:BA) (W:World) (h:BdC D s W) (ht:s.text.size+t.size<=Xj_):
  Calls prog 138 #[P_ (some ⟨D.T,0,none⟩),T_ t] W (YW_ D W (U_ #[]) (s.put t)):=by
 obtain⟨A0,c0,A1,c1,A2,c2,A3,c3,hA⟩:=h;obtain⟨x0,x1,x2,x3,xn,xt,xb,xf,xz⟩:=hA.scells hi;have HA:=h_ hA;clear hA;unfold Xj_ at ht;have HP:=h_ (BdC.put (D:=D) (s:=s) (w:=W) ⟨A0,c0,A1,c1,A2,c2,A3,c3,HA.o⟩ t);go_enter func138,ntmps138;go_wp2;go_end0;exact⟨rfl,HP.o.1,HP.o.2⟩
theorem q2_ (D:BD) (hi:D.imp=false) (s:Pb) (r a B:Int) (sp:Bool) (W:World) (h:BdC D s W) (ht:s.text.size+1<=Xj_):
  Calls prog 135 #[P_ (some ⟨D.T,0,none⟩),I_ j_ r,I_ j_ a,B_ sp,I_ j_ B] W (YW_ D W (U_ #[]) (s.split r a sp B)):=by
 obtain⟨A0,c0,A1,c1,A2,c2,A3,c3,hA⟩:=h;obtain⟨x0,x1,x2,x3,xn,xt,xb,xf,xz⟩:=hA.scells hi;have l:=h_ hA;clear hA;unfold Xj_ at ht;by_cases F:0<=r/\s.chunks.length < 79
 ·rw[show s.split r a sp B=⟨s.rules,s.chunks++[(s.text,r,a,sp,min B 40)],s.spans,s.ties,⟨#[]⟩⟩from ip_ F];by_cases aa:40 < B
  ·obtain⟨k,x⟩:∃k,k=min B 40:=⟨_,rfl⟩;obtain rfl:k=40:=oo;rw[<-x];obtain⟨q0,q1⟩:=F;have L:D.fo 1=3:=(by unfold BD.fo;rw[hi];rfl);obtain⟨Z,v,y,z,A⟩:=info_parts Vh_;have C:=h_ (ai_ v (ai_ y (ai_ z A)));have f:Below W.heap.size W (W.alloc (C_ #[T_ s.text,I_ j_ r,I_ j_ a,B_ sp,I_ j_ 40] 178)):=grow_;have X:=h_ f;have P:=h_ (l.o.r1.next f);have M:(W.alloc (C_ #[T_ s.text,I_ j_ r,I_ j_ a,B_ sp,I_ j_ 40] 178)).heap[W.heap.size]? =some (C_ #[T_ s.text,I_ j_ r,I_ j_ a,B_ sp,I_ j_ 40] 178 (0,0)):=by
    have:=heap_alloc_new W (C_ #[T_ s.text,I_ j_ r,I_ j_ a,B_ sp,I_ j_ 40] 178);rwa[show W.heap.size=W.heap.size from rfl]at this
   have q:D.w0.heap.size<=(W.alloc (C_ #[T_ s.text,I_ j_ r,I_ j_ a,B_ sp,I_ j_ 40] 178)).heap.size:=lt_ l.o.old.size f.size;have H:=h_ q;have G:=h_ (fun(w3:World) Y=>(l.o.grown f l.o.r1 (w3:=w3) Y (Ne.symm (YY_ D.imp).2.2.1) dc_).1);have T:=h_ (fun(v':Value) (w3:World) h1 E=>l.o.app1 L f (d:=(s.text,r,a,sp,40)) (v':=v') (w3:=w3) h1 E);clear v y z A f q;clear x;go_enter func135,ntmps135;go_upto_region 5 with fail
   go_region_law
    (refine step_append_lies _ rfl (.tmp 31) (.tmp 42) 145 rfl D.w0.heap.size 178 Z (A_ #[T_ ⟨#[]⟩,I_ j_ 0,I_ j_ 0,B_ false,I_ j_ 0]) 5 48 underlying145 C.o.1 C.o.2.1 C.o.2.2.1 C.o.2.2.2 rfl dc_ (S_ A1 s.chunks.length c1) s.chunks.length (s.chunks.flatMap Qo_) ev_ (by first|exact P.o.drew|exact P.o) ⟨W.heap.size,0,none⟩ 1 1 (Qo_ (s.text,r,a,sp,40)) ev_ (by rfl) (World.news_of_block (cs:=#[T_ s.text,I_ j_ r,I_ j_ a,B_ sp,I_ j_ 40]) (t:=178) (fr:=(0,0)) M) (Vc_ _) dc_ mx_ oo (by first|exact H.o) (W.heap.size+1) sm_ ?_
     intro q6 cap O i c K S;have b:(W.alloc (C_ #[T_ s.text,I_ j_ r,I_ j_ a,B_ sp,I_ j_ 40] 178)).grownBy O (S_ A1 s.chunks.length c1).ownBlock:=(by first|exact c|exact Q9_ c);have g:=G.o _ b;rw[hi]at g;have j5:O.cell? ⟨D.T,3,none⟩=some (S_ A1 s.chunks.length c1):=g.cell 3;have jf:=g.frozen;have jz:=g.lt;have Q:=h_ (T.o _ _ i b);clear i c K b g)
   all_goals
    obtain⟨A',c',ev,j,m,o⟩:=Q.o;injection ev with ev1 ev2 ev3;subst ev1;subst ev3;obtain⟨n,p⟩:=m.setText ⟨#[]⟩;have I:=h_ n;have J:=h_ (o.trans p);rw[hi]at j;have yc:O.cell? ⟨D.T,6,none⟩=some (T_ s.text):=j.cell 6;have yf:=j.frozen;clear j m o n p Q ev2;go_wp2;go_end0;exact⟨rfl,⟨_,_,_,_,_,_,_,_,I.o⟩,J.o⟩
  ·obtain⟨k,x⟩:∃k,k=min B 40:=⟨_,rfl⟩;obtain rfl:k=B:=oo;rw[<-x];obtain⟨q0,q1⟩:=F;have L:D.fo 1=3:=(by unfold BD.fo;rw[hi];rfl);obtain⟨Z,v,y,z,A⟩:=info_parts Vh_;have C:=h_ (ai_ v (ai_ y (ai_ z A)));have f:Below W.heap.size W (W.alloc (C_ #[T_ s.text,I_ j_ r,I_ j_ a,B_ sp,I_ j_ k] 178)):=grow_;have X:=h_ f;have P:=h_ (l.o.r1.next f);have M:(W.alloc (C_ #[T_ s.text,I_ j_ r,I_ j_ a,B_ sp,I_ j_ k] 178)).heap[W.heap.size]? =some (C_ #[T_ s.text,I_ j_ r,I_ j_ a,B_ sp,I_ j_ k] 178 (0,0)):=by
    have:=heap_alloc_new W (C_ #[T_ s.text,I_ j_ r,I_ j_ a,B_ sp,I_ j_ k] 178);rwa[show W.heap.size=W.heap.size from rfl]at this
   have q:D.w0.heap.size<=(W.alloc (C_ #[T_ s.text,I_ j_ r,I_ j_ a,B_ sp,I_ j_ k] 178)).heap.size:=lt_ l.o.old.size f.size;have H:=h_ q;have G:=h_ (fun(w3:World) Y=>(l.o.grown f l.o.r1 (w3:=w3) Y (Ne.symm (YY_ D.imp).2.2.1) dc_).1);have T:=h_ (fun(v':Value) (w3:World) h1 E=>l.o.app1 L f (d:=(s.text,r,a,sp,k)) (v':=v') (w3:=w3) h1 E);clear v y z A f q;clear x;go_enter func135,ntmps135;go_upto_region 5 with fail
   go_region_law
    (refine step_append_lies _ rfl (.tmp 31) (.tmp 42) 145 rfl D.w0.heap.size 178 Z (A_ #[T_ ⟨#[]⟩,I_ j_ 0,I_ j_ 0,B_ false,I_ j_ 0]) 5 48 underlying145 C.o.1 C.o.2.1 C.o.2.2.1 C.o.2.2.2 rfl dc_ (S_ A1 s.chunks.length c1) s.chunks.length (s.chunks.flatMap Qo_) ev_ (by first|exact P.o.drew|exact P.o) ⟨W.heap.size,0,none⟩ 1 1 (Qo_ (s.text,r,a,sp,k)) ev_ (by rfl) (World.news_of_block (cs:=#[T_ s.text,I_ j_ r,I_ j_ a,B_ sp,I_ j_ k]) (t:=178) (fr:=(0,0)) M) (Vc_ _) dc_ mx_ oo (by first|exact H.o) (W.heap.size+1) sm_ ?_
     intro q6 cap O i c K S;have b:(W.alloc (C_ #[T_ s.text,I_ j_ r,I_ j_ a,B_ sp,I_ j_ k] 178)).grownBy O (S_ A1 s.chunks.length c1).ownBlock:=(by first|exact c|exact Q9_ c);have g:=G.o _ b;rw[hi]at g;have j5:O.cell? ⟨D.T,3,none⟩=some (S_ A1 s.chunks.length c1):=g.cell 3;have jf:=g.frozen;have jz:=g.lt;have Q:=h_ (T.o _ _ i b);clear i c K b g)
   all_goals
    obtain⟨A',c',ev,j,m,o⟩:=Q.o;injection ev with ev1 ev2 ev3;subst ev1;subst ev3;obtain⟨n,p⟩:=m.setText ⟨#[]⟩;have I:=h_ n;have J:=h_ (o.trans p);rw[hi]at j;have yc:O.cell? ⟨D.T,6,none⟩=some (T_ s.text):=j.cell 6;have yf:=j.frozen;clear j m o n p Q ev2;go_wp2;go_end0;exact⟨rfl,⟨_,_,_,_,_,_,_,_,I.o⟩,J.o⟩
 ·by_cases N:sp=true
  ·subst N;rw[show s.split r a true B=s.put ⟨#[32]⟩from(in_ F).trans (ip_ rfl)];have T:=h_ (BdC.put (D:=D) (s:=s) (w:=W) ⟨A0,c0,A1,c1,A2,c2,A3,c3,l.o⟩ ⟨#[32]⟩);have HS:=h_ (Xh_ D hi s ⟨#[32]⟩ W ⟨A0,c0,A1,c1,A2,c2,A3,c3,l.o⟩ (by unfold Xj_;exact ht));by_cases q0:0<=r
   ·have q1:79<=s.chunks.length:=oo;clear F;go_enter func135,ntmps135;go_wp2_with fail
    refine HS.o.mono ?_;rintro e w2 ⟨rfl,E,R⟩;have U:=h_ E;have V:=h_ R;clear E R;go_wp2;go_end0;exact⟨rfl,U.o,V.o⟩
   ·clear F;have q2:r < 0:=oo;go_enter func135,ntmps135;go_wp2_with fail
    refine HS.o.mono ?_;rintro e w2 ⟨rfl,E,R⟩;have U:=h_ E;have V:=h_ R;clear E R;go_wp2;go_end0;exact⟨rfl,U.o,V.o⟩
  ·obtain rfl:sp=false:=(by cases sp;rfl;exact absurd rfl N);rw[show s.split r a false B=s from(in_ F).trans (in_ N)];by_cases q0:0<=r
   ·have q1:79<=s.chunks.length:=oo;clear F;go_enter func135,ntmps135;go_wp2;go_end0;exact⟨rfl,⟨_,_,_,_,_,_,_,_,l.o⟩,Kb.refl _⟩
   ·clear F;have q2:r < 0:=oo;go_enter func135,ntmps135;go_wp2;go_end0;exact⟨rfl,⟨_,_,_,_,_,_,_,_,l.o⟩,Kb.refl _⟩
abbrev retB (a:Bool) (v:Int):Value:=if a then I_ j_ v else U_ #[]
def KidC (F:FuncId) (D:BD) (ps:List PN) (f:Nat):Prop:=
 ∀(j:Nat) (s:Pb) (a:Int) (W:World),j < f->QI_ (Qc_ ps (j:Int))->0<=a->a+4 * (j:Int)<=4000->(D.imp=true->a<=40)->s.chunks.length<=79->BdC D s W->s.text.size+Kk_ ps j * 2000000<=Xj_->
  Calls prog F #[P_ (some ⟨D.T,0,none⟩),I_ j_ (j:Int),I_ j_ a] W (YW_ D W (retB D.imp (ownN ps j s)) (QR_ ps f j (min a 40) s))
structure Bt (F:FuncId) (D:BD) (ps:List PN) (f:Nat) (fin:Pb) (w:World) (s:Pb) (r:Int) (es:List Bv) (W:World):Prop where
 C:BdC D s W
 L:(VL_ (QR_ ps f) (s,r) es).1=fin
 Z:s.text.size+wS 2000000 ps es<=Xj_
 K:Kb w W
 N:KidC F D ps f
 Li:Uh_ 2000000 ps (QR_ ps f)
 c79:s.chunks.length<=79
section
variable {F:FuncId} {D:BD} {ps:List PN} {f:Nat} {fin:Pb} {w:World} {s:Pb} {r:Int} {es:List Bv} {e:Bv} {W W':World}
theorem Bt.jump (H:Bt F D ps f fin w s r (e::es) W) (hC:BdC D (Jv_ (QR_ ps f) (s,r) e).1 W') (hk:Kb W W'):Bt F D ps f fin w (Jv_ (QR_ ps f) (s,r) e).1 (Jv_ (QR_ ps f) (s,r) e).2 es W':=by
 refine⟨hC,H.L,?_,H.K.trans hk,H.N,H.Li,Qap_ (WS_ ps f) (s,r) e H.c79⟩;have h1:=xI_ H.Li (s,r) e;have h2:=H.Z;rw[Ky_]at h2;dsimp only at h1;omega
theorem Bt.next (H:Bt F D ps f fin w s r es W) (hb:Below W.heap.size W W'):Bt F D ps f fin w s r es W':=⟨H.C.next hb,H.L,H.Z,H.K.trans (Kb.below hb),H.N,H.Li,H.c79⟩
theorem Bt.fin_ (H:Bt F D ps f fin w s r [] W):BdC D fin W/\Kb w W:=by
 have h:=H.L;subst h;exact⟨H.C,H.K⟩
theorem Bt.size (H:Bt F D ps f fin w s r (e::es) W):s.text.size+wB 2000000 ps e<=Xj_:=by
 have h2:=H.Z;rw[Ky_]at h2;omega
theorem Bt.put {t:BA} (H:Bt F D ps f fin w s r (.put t::es) W):Bt F D ps f fin w (s.put t) r es (W.setCell ⟨D.T,6,none⟩ (T_ (s.text++t))):=by
 obtain⟨h1,h2⟩:=H.C.put t;exact H.jump h1 h2
theorem BdC.tx (h:BdC D s W):W.cell? ⟨D.T,6,none⟩=some (T_ s.text)/\(∀i,W.frozen? ⟨D.T,i,none⟩=false)/\D.T < W.heap.size:=by
 obtain⟨A0,c0,A1,c1,A2,c2,A3,c3,h⟩:=h
 cases hi:D.imp with
 |true=>have:=h.icells hi;exact⟨this.2.2.2.2.2.1,this.2.2.2.2.2.2.2.1,this.2.2.2.2.2.2.2.2⟩
 |false=>have:=h.scells hi;exact⟨this.2.2.2.2.2.1,this.2.2.2.2.2.2.2.1,this.2.2.2.2.2.2.2.2⟩
theorem BdC.old (h:BdC D s W):Below D.w0.heap.size D.w0 W:=by
 obtain⟨A0,c0,A1,c1,A2,c2,A3,c3,h⟩:=h;exact h.old
theorem xG_ (s:Pb) (r a:Int) (sp:Bool) {n n':Int} (h:min n 40=min n' 40):s.split r a sp n=s.split r a sp n':=by unfold Pb.split;rw[h]
variable {R:Ending->World->Prop}
theorem Bt.irule {v c:Int} (hi:D.imp=true) (H:Hid (Bt F D ps f fin w s r (.rule v c::es) W)) (k:∀W1,Hid (Bt F D ps f fin w (s.rule v c) (Q4_ s) es W1)->Hid (Kb W W1)->R (R_ (I_ j_ (Q4_ s))) W1):Calls prog 245 #[P_ (some ⟨D.T,0,none⟩),I_ j_ v,I_ j_ c] W R:=
 (kH_ D hi s v c W H.o.C).mono (by rintro e w1 ⟨rfl,h1,h2⟩;exact k w1 (h_ (H.o.jump h1 h2)) (h_ h2))
theorem Bt.isplit {a b n:Int} {sp:Bool} (hi:D.imp=true) (H:Hid (Bt F D ps f fin w s r (.split a sp b::es) W)) (hn:min n 40=min b 40) (k:∀W1,Hid (Bt F D ps f fin w (s.split r a sp b) r es W1)->Hid (Kb W W1)->R (R_ (U_ #[])) W1):Calls prog 246 #[P_ (some ⟨D.T,0,none⟩),I_ j_ r,I_ j_ a,B_ sp,I_ j_ n] W R:=by
 have h:=qw_ D hi s r a n sp W H.o.C (by have:=H.o.size;exact this);rw[xG_ s r a sp hn]at h;exact h.mono (by rintro e w1 ⟨rfl,h1,h2⟩;exact k w1 (h_ (H.o.jump h1 h2)) (h_ h2))
theorem Bt.srule {v c:Int} (hi:D.imp=false) (H:Hid (Bt F D ps f fin w s r (.rule v c::es) W)) (k:∀W1,Hid (Bt F D ps f fin w (s.rule v c) (Q4_ s) es W1)->Hid (Kb W W1)->R (R_ (I_ j_ (Q4_ s))) W1):Calls prog 136 #[P_ (some ⟨D.T,0,none⟩),I_ j_ v,I_ j_ c] W R:=
 (xD_ D hi s v c W H.o.C).mono (by rintro e w1 ⟨rfl,h1,h2⟩;exact k w1 (h_ (H.o.jump h1 h2)) (h_ h2))
theorem Bt.ssplit {a b n:Int} {sp:Bool} (hi:D.imp=false) (H:Hid (Bt F D ps f fin w s r (.split a sp b::es) W)) (hn:min n 40=min b 40) (k:∀W1,Hid (Bt F D ps f fin w (s.split r a sp b) r es W1)->Hid (Kb W W1)->R (R_ (U_ #[])) W1):Calls prog 135 #[P_ (some ⟨D.T,0,none⟩),I_ j_ r,I_ j_ a,B_ sp,I_ j_ n] W R:=by
 have h:=q2_ D hi s r a n sp W H.o.C (by have:=H.o.size;exact this);rw[xG_ s r a sp hn]at h;exact h.mono (by rintro e w1 ⟨rfl,h1,h2⟩;exact k w1 (h_ (H.o.jump h1 h2)) (h_ h2))
theorem Bt.sput {t:BA} (hi:D.imp=false) (H:Hid (Bt F D ps f fin w s r (.put t::es) W)) (k:∀W1,Hid (Bt F D ps f fin w (s.put t) r es W1)->Hid (Kb W W1)->R (R_ (U_ #[])) W1):Calls prog 138 #[P_ (some ⟨D.T,0,none⟩),T_ t] W R:=
 (Xh_ D hi s t W H.o.C (by have:=H.o.size;exact this)).mono (by rintro e w1 ⟨rfl,h1,h2⟩;exact k w1 (h_ (H.o.jump h1 h2)) (h_ h2))
theorem Bt.kid {j:Nat} {d a:Int} (H:Hid (Bt F D ps f fin w s r (.kid (j:Int) d::es) W)) (hj:j < f) (hv:QI_ (Qc_ ps (j:Int))) (ha:0<=a) (c:a+4 * (j:Int)<=4000) (hn:min a 40=d) (k:∀W1,Hid (Bt F D ps f fin w (QR_ ps f j d s) r es W1)->Hid (Kb W W1)->R (R_ (retB D.imp (ownN ps j s))) W1) (b:D.imp=true->a<=40:=by first|(intro _;omega)|(intro e;simp_all)):Calls prog F #[P_ (some ⟨D.T,0,none⟩),I_ j_ (j:Int),I_ j_ a] W R:=by
 subst hn;refine(H.o.N j s a W hj hv ha c b H.o.c79 H.o.C (by have:=H.o.size;exact this)).mono ?_;rintro e w1 ⟨rfl,h1,h2⟩;exact k w1 (h_ (H.o.jump (e:=.kid (j:Int) (min a 40)) h1 h2)) (h_ h2)
end
end Go.Proofs.YtbiijipkgfpgoaaGreatDoor

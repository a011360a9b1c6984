/-
  Put together by program (shake.py):PlaceS.
-/
import Derived.Test.YtgbikafalcbibaaGreatDoorMaC
set_option maxRecDepth 100000
set_option linter.all false
set_option maxHeartbeats 25600000
open Go.Lib (hid)
open Go.Proofs.Tryz
namespace Go.Proofs.YtgbikafalcbibaaGreatDoor
open Go.RowKit
def marks04:List (List UInt8):=[[38,38],[124,124],[61,61],[61,62],[46,46],[40],[41],[123],[125],[91],[93],[59],[44],[46],[61],[43],[45],[42],[60],[63],[58]]
def X4_:List (List UInt8)->List UInt8->List UInt8
 |[],_=>[]
 |m::ms,l=>if m.isPrefixOf l=true then m else X4_ ms l
def XS_ (l:List UInt8):List UInt8:=X4_ marks04 l
def Ke_ (l:List UInt8) (q:Nat):Int × BA × Int × Nat:=
 if 0 < Ko_ l then (5,VK_ ⟨(l.take (Ko_ l)).toArray⟩,(q:Int),Ko_ l)
 else match l with
 |[]=>(0,⟨#[]⟩,0,0)
 |c::_=>
  if QN_ c=true then (if 30 < K0_ Qp_ l then (0,⟨#[]⟩,0,0)else (1,⟨(l.take (K0_ Qp_ l)).toArray⟩,(q:Int),K0_ Qp_ l))
  else if Km_ c=true then (if 12 < K0_ Km_ l then (0,⟨#[]⟩,0,0)else (2,⟨(l.take (K0_ Km_ l)).toArray⟩,(q:Int),K0_ Km_ l))
  else if c=39 then (3,⟨(l.take (UG_ l)).toArray⟩,(q:Int),UG_ l)
  else (4,⟨(XS_ l).toArray⟩,(q:Int),(XS_ l).length)
def SgOk (l:List UInt8) (k:Int) (x:BA) (z:Nat) (ok:Bool):Prop:=
 if ok=true then 0 < z/\z<=l.length/\∀q,Ke_ l q=(k,x,(q:Int),z)else ∀q,(Ke_ l q).2.2.2=0
theorem ZC_ (s:BA) (n:Nat):s.extract 0 n=⟨(s.data.toList.take n).toArray⟩:=by
 apply ByteArray.ext;apply Array.toList_inj.1;rw[ByteArray.data_extract];simp
theorem XH_ (s:BA) (q n:Nat):s.extract q (q+n)=⟨((s.data.toList.drop q).take n).toArray⟩:=by
 apply ByteArray.ext;apply Array.toList_inj.1;rw[ByteArray.data_extract];simp[List.extract_eq_take_drop]
theorem GW_ (s:BA) (q:Nat):(s.extract q s.size).data.toList=s.data.toList.drop q:=by
 rw[ByteArray.data_extract];simp only[Array.toList_extract,List.extract_eq_take_drop];exact List.take_of_length_le (by rw[List.length_drop,Qz_];omega)
theorem J0_ (p:UInt8->Bool) (s:BA):ZS_ p s=⟨(s.data.toList.take (K0_ p s.data.toList)).toArray⟩:=ZC_ s _
theorem Vw_ {c:UInt8} {l:List UInt8} (h:¬c=47):Ko_ (c::l)=0:=by
 apply Vv_;unfold Lib.hasPrefix;simp only[List.isPrefixOf];have:((47:UInt8)==c)=false:=by rw[beq_eq_false_iff_ne];exact fun e=>h e.symm
 rw[this,Bool.false_and]
theorem Qgi_ {s:BA} (h0:0 < s.size) (d:QN_ s[0]=true):
  SgOk s.data.toList 1 (ZS_ Qp_ s) (ZS_ Qp_ s).size (decide (((ZS_ Qp_ s).size:Int)<=30)):=by
 obtain⟨l,f⟩:=ZW_ h0;have hn:Ko_ s.data.toList=0:=by rw[f];exact Vw_ (by intro e;rw[e]at d;revert d;decide)
 have b:0 < K0_ Qp_ s.data.toList:=by
  rw[f];unfold K0_;rw[if_pos (by unfold Qp_;rw[d];rfl)];omega
 have g:=KN_ Qp_ s.data.toList;have hz:∀q,Ke_ s.data.toList q=if 30 < K0_ Qp_ s.data.toList then (0,⟨#[]⟩,0,0)else (1,⟨(s.data.toList.take (K0_ Qp_ s.data.toList)).toArray⟩,(q:Int),K0_ Qp_ s.data.toList):=fun q=>by
  unfold Ke_;rw[if_neg oo];split
  ·rename_i h;rw[f]at h;cases h
  ·rename_i c l' h;rw[f]at h;injection h with h1 h2;subst h1;rw[if_pos d]
 unfold SgOk;rw[Zt_];by_cases a:30 < K0_ Qp_ s.data.toList
 ·rw[decide_eq_false oo,if_neg (by decide)];intro q;rw[hz,if_pos a]
 ·rw[decide_eq_true oo,if_pos rfl];exact⟨b,g,fun q=>by rw[hz,if_neg a,J0_]⟩
theorem Qhb_ {s:BA} (h0:0 < s.size) (hb:QN_ s[0]=false) (d:Km_ s[0]=true):
  SgOk s.data.toList 2 (ZS_ Km_ s) (ZS_ Km_ s).size (decide (((ZS_ Km_ s).size:Int)<=12)):=by
 obtain⟨l,f⟩:=ZW_ h0;have hn:Ko_ s.data.toList=0:=by rw[f];exact Vw_ (by intro e;rw[e]at d;revert d;decide)
 have b:0 < K0_ Km_ s.data.toList:=by
  rw[f];unfold K0_;rw[if_pos d];omega
 have g:=KN_ Km_ s.data.toList;have hz:∀q,Ke_ s.data.toList q=if 12 < K0_ Km_ s.data.toList then (0,⟨#[]⟩,0,0)else (2,⟨(s.data.toList.take (K0_ Km_ s.data.toList)).toArray⟩,(q:Int),K0_ Km_ s.data.toList):=fun q=>by
  unfold Ke_;rw[if_neg oo];split
  ·rename_i h;rw[f]at h;cases h
  ·rename_i c l' h;rw[f]at h;injection h with h1 h2;subst h1;rw[if_neg (by rw[hb];decide),if_pos d]
 unfold SgOk;rw[Zt_];by_cases a:12 < K0_ Km_ s.data.toList
 ·rw[decide_eq_false oo,if_neg (by decide)];intro q;rw[hz,if_pos a]
 ·rw[decide_eq_true oo,if_pos rfl];exact⟨b,g,fun q=>by rw[hz,if_neg a,J0_]⟩
theorem Qhc_ {s:BA} (h0:0 < s.size) (hq:s[0]=39):SgOk s.data.toList 3 (qQ_ s).1 (qQ_ s).1.size (qQ_ s).2:=by
 obtain⟨l,b⟩:=ZW_ h0;rw[hq]at b;have r:l.length+1=s.size:=by have:=Qz_ s;rw[b]at this;simpa using this
 have i:(s.extract 1 s.size).data.toList=l:=by rw[GW_,b];rfl
 have m:∀q,Ke_ s.data.toList q=(3,⟨(s.data.toList.take (UG_ s.data.toList)).toArray⟩,(q:Int),UG_ s.data.toList):=fun q=>by
  unfold Ke_;rw[if_neg (by rw[b,Vw_ (by decide)];omega)];split
  ·rename_i h;rw[b]at h;cases h
  ·rename_i c l' h;rw[b]at h;injection h with h1 h2;subst h1;rw[if_neg (by decide),if_neg (by decide),if_pos rfl]
 have d:UG_ s.data.toList=if Jc_ l=0 then 0 else Jc_ l+1:=by rw[b];rfl
 unfold SgOk;unfold qQ_;rw[i];by_cases hi:Lib.indexByte l 39 < 0
 ·rw[if_pos hi];rw[if_neg (by decide)];intro q;rw[m,d,ju_,if_pos hi]
  rfl
 ·rw[if_neg hi];have p:=Lib.indexByte_ge l 39;obtain⟨o,j⟩:=Int.eq_ofNat_of_zero_le (show 0<=Lib.indexByte l 39 from oo);have a:=Lib.indexByte_some j;have n:o < l.length:=(List.getElem?_eq_some_iff.1 a.1).1;rw[j,show((o:Int)+2).toNat=o+2 from oo];have e:Gi_ QJ_ (s.extract 0 (o+2))=(l.take o).all QJ_:=by
   unfold Gi_;rw[show(s.extract 0 (o+2)).data.toList=s.data.toList.take (o+2)by rw[ByteArray.data_extract];simp,b,List.take_succ_cons,List.all_cons];rw[show QJ_ 39=true from rfl,Bool.true_and];rw[List.take_add_one,a.1,List.all_append];simp[show QJ_ 39=true from rfl]
  have g:Jc_ l=if (l.take o).all QJ_=true then o+1 else 0:=by
   rw[ju_,if_neg hi,j,Int.toNat_natCast]
  simp only[e]
  cases hc:(l.take o).all QJ_ with
  |false=>
   rw[if_neg (by decide)];intro q;rw[m,d,g,hc]
   rfl
  |true=>
   rw[if_pos rfl];have f:UG_ s.data.toList=o+2:=(by rw[d,g,hc,if_pos rfl,if_neg oo]);have k:(s.extract 0 (o+2)).size=o+2:=(by simp;omega);rw[k];refine⟨oo,by rw[Qz_];omega,fun q=>?_⟩;rw[m,f,ZC_]
theorem Qgj_ {s:BA} (h0:0 < s.size) (hp:Lib.hasPrefix s.data.toList [47,47]=true):
  SgOk s.data.toList 5 (VK_ (ZS_ QV_ s)) (ZS_ QV_ s).size (Gi_ QJ_ (ZS_ QV_ s)):=by
 obtain⟨l,g⟩:=ZW_ h0;have a:=vL_ h0 hp;have hn:=KN_ QV_ s.data.toList;have b:Gi_ QJ_ (ZS_ QV_ s)=(s.data.toList.take (K0_ QV_ s.data.toList)).all QJ_:=by
  unfold Gi_;rw[J0_]
 have e:0 < K0_ QV_ s.data.toList:=by
  rw[g,a];unfold K0_;rw[if_pos (by decide)];omega
 have f:Ko_ s.data.toList=if (s.data.toList.take (K0_ QV_ s.data.toList)).all QJ_=true then K0_ QV_ s.data.toList else 0:=by
  unfold Ko_;by_cases h:(s.data.toList.take (K0_ QV_ s.data.toList)).all QJ_=true
  ·rw[if_pos ⟨hp,h⟩,if_pos h]
  ·rw[if_neg (fun x=>h x.2),if_neg h]
 unfold SgOk;rw[b,Zt_]
 cases hc:(s.data.toList.take (K0_ QV_ s.data.toList)).all QJ_ with
 |false=>
  rw[if_neg (by decide)];intro q;rw[hc,if_neg (by decide)]at f;unfold Ke_;rw[if_neg oo];split
  ·rfl
  ·rename_i c l' h;rw[g]at h;injection h with h1 h2;have d:c=47:=(by rw[<-h1];exact a);subst d;rw[if_neg (by decide),if_neg (by decide),if_neg (by decide)];rw[g,a];have:XS_ (47::l)=[]:=(by unfold XS_ marks04;simp[X4_,List.isPrefixOf]);rw[this]
   rfl
 |true=>
  rw[if_pos rfl];rw[hc,if_pos rfl]at f;refine⟨e,hn,fun q=>?_⟩;unfold Ke_;rw[if_pos oo,f,J0_]
def G2_ (c d:UInt8):Bool:=(c==38&&d==38)||(c==124&&d==124)||(c==61&&d==61)||(c==61&&d==62)||(c==46&&d==46)
theorem Qcf_ (l:List UInt8) (c:UInt8):decide (0<=Lib.indexByte l c)=l.contains c:=by
 induction l with
 |nil=>rfl
 |cons x l ih=>
  have d:=Lib.indexByte_ge l c;rw[List.contains_cons];unfold Lib.indexByte;by_cases h:x=c
  ·subst h;simp
  ·have hb:(x==c)=false:=(by rw[beq_eq_false_iff_ne];exact h);have b:(c==x)=false:=(by rw[beq_eq_false_iff_ne];exact fun e=>h e.symm);rw[hb,b,Bool.false_or,<-ih];simp only[Bool.false_eq_true,if_false];by_cases h1:Lib.indexByte l c= -1
   ·have a:(Lib.indexByte l c== -1)=true:=(by rw[h1];rfl);rw[if_pos a,h1]
   ·have a:(Lib.indexByte l c== -1)=false:=(by rw[beq_eq_false_iff_ne];exact h1);rw[if_neg (by rw[a];decide)];rw[decide_eq_true (show 0<=Lib.indexByte l c+1 from oo),decide_eq_true (show 0<=Lib.indexByte l c from oo)]
theorem Qcx_ (c d:UInt8):ZG_ ⟨#[c,d]⟩=G2_ c d:=by
 unfold ZG_ VR_ G2_;simp only[ByteArray.toList_eq,Bool.or_false];have e:∀a b:UInt8,([c,d]==[a,b])=(c==a&&d==b):=fun a b=>by
  simp only[List.cons_beq_cons,List.nil_beq_eq,List.isEmpty_nil,Bool.and_true]
 simp only[e]
theorem xf_ (c:UInt8):ZG_ ⟨#[c]⟩=JQ_ c:=by
 unfold ZG_ VR_;simp only[ByteArray.toList_eq];have e:∀a b:UInt8,([c]==[a,b])=false:=fun a b=>by
  simp only[List.cons_beq_cons];simp
 simp only[e,Bool.false_or]
def one04:List UInt8:=[40,41,123,125,91,93,59,44,46,61,43,45,42,60,63,58]
theorem Wh_:marks04=[[38,38],[124,124],[61,61],[61,62],[46,46]]++one04.map (fun c=>[c]):=by rfl
theorem Y9_ {m l:List UInt8} {ms:List (List UInt8)} (h:m.isPrefixOf l=true):X4_ (m::ms) l=m:=if_pos h
theorem JR_ {m l:List UInt8} {ms:List (List UInt8)} (h:¬m.isPrefixOf l=true):X4_ (m::ms) l=X4_ ms l:=if_neg h
theorem xg_ (a b:List (List UInt8)) (l:List UInt8) (h:∀m∈a,m≠[]):X4_ (a++b) l=if X4_ a l=[]then X4_ b l else X4_ a l:=by
 induction a with
 |nil=>rfl
 |cons m ms c=>
  have hm:=h m (List.mem_cons_self ..);have c:=c (fun x hx=>h x (List.mem_cons_of_mem _ hx));rw[List.cons_append];by_cases h:m.isPrefixOf l=true
  ·rw[Y9_ h,Y9_ h,if_neg hm]
  ·rw[JR_ h,JR_ h];exact c
theorem xi_ (a:List UInt8) (c:UInt8) (l:List UInt8):X4_ (a.map (fun c=>[c])) (c::l)=if a.contains c=true then [c]else []:=by
 induction a with
 |nil=>rfl
 |cons x a ih=>
  simp only[List.map_cons,X4_,List.isPrefixOf,Bool.and_true,List.contains_cons];by_cases h:x=c
  ·subst h;simp
  ·have e1:(x==c)=false:=(by rw[beq_eq_false_iff_ne];exact h);have e2:(c==x)=false:=(by rw[beq_eq_false_iff_ne];exact fun e=>h e.symm);rw[e1,e2,Bool.false_or,if_neg (by decide),ih]
theorem Qga_ (a b c d:UInt8) (l:List UInt8):List.isPrefixOf [a,b] (c::d::l)=(c==a&&d==b):=by
 simp only[List.isPrefixOf,Bool.and_true];rw[BEq.comm (a:=a),BEq.comm (a:=b)]
theorem jm_ (c d:UInt8) (l:List UInt8):X4_ [[38,38],[124,124],[61,61],[61,62],[46,46]] (c::d::l)=if G2_ c d=true then [c,d]else []:=by
 simp only[X4_,Qga_];unfold G2_;have e:∀(a b:UInt8) (B:Bool) (X:List UInt8),X=(if B=true then [c,d]else [])->(if (c==a&&d==b)=true then [a,b]else X)=if ((c==a&&d==b)||B)=true then [c,d]else []:=by
  intro a b B X hX
  cases h:(c==a&&d==b)with
  |true=>
   simp only[Bool.and_eq_true,beq_iff_eq]at h;rw[h.1,h.2];simp
  |false=>rw[hX];simp
 simp only[Bool.or_assoc];refine e _ _ _ _ (e _ _ _ _ (e _ _ _ _ (e _ _ _ _ ?_)));have:=e 46 46 false [] rfl;rw[Bool.or_false]at this;exact this
theorem xe_ (c:UInt8):JQ_ c=one04.contains c:=Qcf_ one04 c
theorem Qcz_ (c d:UInt8) (l:List UInt8):XS_ (c::d::l)=if G2_ c d=true then [c,d]else if JQ_ c=true then [c]else []:=by
 rw[xe_];unfold XS_;rw[Wh_,xg_ _ _ _ (by decide),jm_,xi_]
 cases G2_ c d with
 |true=>simp
 |false=>simp
theorem Qcy_ (c:UInt8):XS_ [c]=if JQ_ c=true then [c]else []:=by
 rw[xe_];unfold XS_;rw[Wh_,xg_ _ _ _ (by decide),xi_];have:X4_ [[38,38],[124,124],[61,61],[61,62],[46,46]] [c]=[]:=by simp[X4_,List.isPrefixOf]
 rw[this,if_pos rfl]
theorem xj_ (s:BA) (h0:0 < s.size):XS_ s.data.toList=s.data.toList.take (XO_ s)/\XO_ s<=s.size:=by
 obtain⟨l,b⟩:=ZW_ h0;generalize hc:s[0]=c at b;have a:=Qz_ s;rw[b]at a;have e1:s.extract 0 1=⟨#[c]⟩:=by rw[ZC_,b];rfl
 match l,b,a with
 |[],b,a=>
  have e:XO_ s=if JQ_ c=true then 1 else 0:=by
   unfold XO_;rw[if_neg (by simp at a;omega),e1,xf_]
  rw[e,b,Qcy_];split<;>simp<;>omega
 |d::l,b,a=>
  have e2:s.extract 0 2=⟨#[c,d]⟩:=by rw[ZC_,b];rfl
  have h2:2<=s.size:=by simp at a;omega
  have e:XO_ s=if G2_ c d=true then 2 else if JQ_ c=true then 1 else 0:=by
   unfold XO_;rw[e1,xf_,e2,Qcx_];by_cases h:G2_ c d=true
   ·rw[if_pos ⟨h2,h⟩,if_pos h]
   ·rw[if_neg (fun x=>h x.2),if_neg h]
  rw[e,b,Qcz_];split
  ·simp;omega
  ·split<;>simp;omega
theorem Qgh_ {s:BA} (h0:0 < s.size) (hb:QN_ s[0]=false) (hg:Km_ s[0]=false) (hq:¬s[0]=39) (hp:Lib.hasPrefix s.data.toList [47,47]=false):
  ∀q,Ke_ s.data.toList q=(4,s.extract 0 (XO_ s),(q:Int),XO_ s):=by
 intro q;obtain⟨l,hl⟩:=ZW_ h0;obtain⟨hm,a⟩:=xj_ s h0;unfold Ke_;rw[if_neg (by rw[Vv_ hp];omega)];split
 ·rename_i h;rw[hl]at h;cases h
 ·rename_i c l' h;rw[hl]at h;injection h with h1 h2;subst h1;rw[if_neg (by rw[hb];decide),if_neg (by rw[hg];decide),if_neg hq,hm,<-ZC_,List.length_take,Qz_,Nat.min_eq_left a]
abbrev SgP:=Int × BA × Int × Bool
def Q1_ (d:SgP):List Value:=[.int .i64 d.1,.string d.2.1,.int .i64 d.2.2.1,.bool d.2.2.2]
theorem WC_ (d:SgP):(Q1_ d).length=4:=rfl
def ZN_ (l:List UInt8):Nat->Nat->Nat->List SgP->List SgP × Int × Bool
 |0,_,_,acc=>(acc,0,true)
 |f+1,at_,br,acc=>
  match l.drop at_ with
  |[]=>(acc,0,true)
  |c::l'=>
   if c=32 then ZN_ l f (at_+1) br acc
   else if c=10 then ZN_ l f (at_+1) (br+1) acc
   else if (Ke_ (c::l') at_).2.2.2=0 then ([],(at_:Int),false)
   else ZN_ l f (at_+(Ke_ (c::l') at_).2.2.2) 0 (acc++[((Ke_ (c::l') at_).1,(Ke_ (c::l') at_).2.1,(Ke_ (c::l') at_).2.2.1,decide (1 < br))])
def QY_ (t:BA):List SgP × Int × Bool:=if 3000 < t.size then ([],3000,false)else ZN_ t.data.toList t.size 0 0 []
section
variable {s:BA} {f at_ br:Nat} {acc:List SgP} {R:List SgP × Int × Bool}
def KB_ (s:BA) (at_ br:Nat) (acc:List SgP) (R:List SgP × Int × Bool):Prop:=∃f,s.size<=at_+f/\ZN_ s.data.toList f at_ br acc=R
theorem WH_ (h:KB_ s at_ br acc R) (hk:s.size<=at_):R=(acc,0,true):=by
 obtain⟨f,hf,h⟩:=h
 cases f with
 |zero=>exact h.symm
 |succ f=>
  unfold ZN_ at h;rw[List.drop_of_length_le (by rw[Qz_];exact hk)]at h;exact h.symm
theorem J6_ (h:KB_ s at_ br acc R) (hk:at_ < s.size) (hc:s[at_]=32):KB_ s (at_+1) br acc R:=by
 obtain⟨f,hf,h⟩:=h
 cases f with
 |zero=>omega
 |succ f=>
  unfold ZN_ at h;rw[Kv_ hk]at h;simp only[hc]at h;rw[if_pos trivial]at h;exact⟨f,oo,h⟩
theorem G8_ (h:KB_ s at_ br acc R) (hk:at_ < s.size) (hc:s[at_]=10):KB_ s (at_+1) (br+1) acc R:=by
 obtain⟨f,hf,h⟩:=h
 cases f with
 |zero=>omega
 |succ f=>
  unfold ZN_ at h;rw[Kv_ hk]at h;simp only[hc]at h;rw[if_neg (by decide),if_pos trivial]at h;exact⟨f,oo,h⟩
theorem WG_ (h:KB_ s at_ br acc R) (hk:at_ < s.size) (h1:¬s[at_]=32) (h2:¬s[at_]=10) (hz:(Ke_ (s.data.toList.drop at_) at_).2.2.2=0):R=([],(at_:Int),false):=by
 obtain⟨f,hf,h⟩:=h
 cases f with
 |zero=>omega
 |succ f=>
  unfold ZN_ at h;rw[Kv_ hk]at h hz;simp only at h;rw[if_neg h1,if_neg h2,if_pos hz]at h;exact h.symm
theorem G9_ {k:Int} {x:BA} {q:Int} {z:Nat} (h:KB_ s at_ br acc R) (hk:at_ < s.size) (h1:¬s[at_]=32) (h2:¬s[at_]=10) (hz:Ke_ (s.data.toList.drop at_) at_=(k,x,q,z)) (h0:0 < z):
  KB_ s (at_+z) 0 (acc++[(k,x,q,decide (1 < br))]) R:=by
 obtain⟨f,hf,h⟩:=h
 cases f with
 |zero=>omega
 |succ f=>
  unfold ZN_ at h;rw[Kv_ hk]at h hz;simp only[hz]at h;rw[if_neg h1,if_neg h2,if_neg oo]at h;exact⟨f,oo,h⟩
theorem G7_ (h:s.size<=3000):KB_ s 0 0 [] (QY_ s):=⟨s.size,oo,by unfold QY_;rw[if_neg oo]⟩
end
theorem zM_ {s:BA} (h:3000 < s.size):QY_ s=([],3000,false):=by unfold QY_;rw[if_pos h]
def Yp_ (a b:SgP):Bool:=(a.1==4)&&(a.2.1.toList==[44])&&(b.1==4)&&((b.2.1.toList==[41])||(b.2.1.toList==[93]))
def Za_ (l:List SgP) (k:Nat):Bool:=match l[k]?,l[k+1]? with|some a,some b=>Yp_ a b|_,_=>false
def KR_ (l:List SgP):Nat->List SgP
 |0=>[]
 |k+1=>KR_ l k++(match l[k]? with|some a=>if Za_ l k=true then []else [a]|none=>[])
def Y7_ (l:List SgP):List SgP:=KR_ l l.length
theorem zz_ {l:List SgP} {k:Nat} {a:SgP} (h:l[k]? =some a) (hs:Za_ l k=true):KR_ l (k+1)=KR_ l k:=by
 unfold KR_;rw[h];simp only[hs,if_true,List.append_nil]
 cases k<;>rfl
theorem k4_ {l:List SgP} {k:Nat} {a:SgP} (h:l[k]? =some a) (hs:Za_ l k=false):KR_ l (k+1)=KR_ l k++[a]:=by
 rw[KR_,h];simp only[hs];rfl
theorem Gw_ (l:List SgP) (k:Nat):(KR_ l k).length<=k:=by
 induction k with
 |zero=>simp[KR_]
 |succ k ih=>
  rw[KR_,lA];have:(match l[k]? with|some a=>if Za_ l k=true then []else [a]|none=>[]:List SgP).length<=1:=by
   split
   ·split<;>simp
   ·simp
  omega
theorem WJ_ {l:List SgP} {k:Nat} {a b:SgP} (ha:l[k]? =some a) (hb:l[k+1]? =some b):Za_ l k=Yp_ a b:=by unfold Za_;rw[ha,hb]
theorem Ua_ {l:List SgP} {k:Nat} (hb:l[k+1]? =none):Za_ l k=false:=by
 unfold Za_;rw[hb]
 cases l[k]? <;>rfl
def K9_ (t:BA):LI:=if (QY_ t).2.2=true then (Y7_ (QY_ t).1).map (fun d=>d.2.2.1)else []
theorem Qbe_ (l:List UInt8):∀(f at_ br:Nat) (acc:List SgP),(ZN_ l f at_ br acc).1.length<=acc.length+f:=by
 intro f
 induction f with
 |zero=>intro at_ br acc;simp[ZN_]
 |succ f a=>
  intro at_ br acc;unfold ZN_;split
  ·simp<;>omega
  ·split
   ·have:=a (at_+1) br acc;omega
   ·split
    ·have:=a (at_+1) (br+1) acc;omega
    ·split
     ·simp
     ·refine Nat.le_trans (a _ _ _) ?_;simp;omega
theorem Qbd_ (l:List UInt8):∀(f at_ br:Nat) (acc:List SgP),(ZN_ l f at_ br acc).2.2=false->(ZN_ l f at_ br acc).1=[]:=by
 intro f
 induction f with
 |zero=>intro at_ br acc h;simp[ZN_]at h
 |succ f a=>
  intro at_ br acc;unfold ZN_;split
  ·intro h;simp at h
  ·split
   ·exact a _ _ _
   ·split
    ·exact a _ _ _
    ·split
     ·intro _;rfl
     ·exact a _ _ _
theorem Z0_ (t:BA):(QY_ t).1.length<=3000:=by
 unfold QY_;split
 ·simp
 ·have:=Qbe_ t.data.toList t.size 0 0 [];simp at this;omega
theorem Qbf_ {t:BA} (h:(QY_ t).2.2=false):(QY_ t).1=[]:=by
 unfold QY_ at h |-
 split
 ·rfl
 ·rename_i hs;rw[if_neg hs]at h;exact Qbd_ _ _ _ _ _ h
theorem GH_ (t:BA):K9_ t=(Y7_ (QY_ t).1).map (fun d=>d.2.2.1):=by
 unfold K9_;split
 ·rfl
 ·rename_i h;rw[Qbf_ (by simpa using h)];rfl
def Wc_ (t:BA) (q:Int):Int:=if 0<=q/\q<=(t.size:Int)then ((t.data.toList.take q.toNat).count 10:Nat)+1 else 0
def KS_ (t:BA) (at_:Int):Int:=if 0<=at_/\at_ < ((K9_ t).length:Int)then Wc_ t ((K9_ t).getD at_.toNat 0)else 0
def G4_:List BA:=[⟨#[38,38]⟩,⟨#[124,124]⟩,⟨#[61,61]⟩,⟨#[61,62]⟩,⟨#[46,46]⟩,⟨#[40]⟩,⟨#[41]⟩,⟨#[123]⟩,⟨#[125]⟩,⟨#[91]⟩,⟨#[93]⟩,⟨#[59]⟩,⟨#[44]⟩,⟨#[46]⟩,⟨#[61]⟩,⟨#[43]⟩,⟨#[45]⟩,⟨#[42]⟩,⟨#[60]⟩,⟨#[63]⟩,⟨#[58]⟩]
theorem xl_:G4_=marks04.map (fun m=>⟨m.toArray⟩):=rfl
theorem QcC_:∀x∈G4_,x.size<=2:=by decide
theorem kT_ (w:World):Calls prog 132 #[] w fun e w'=>∃A,e=.returned (.slice A 21 21)/\Rd w' 1 A 21 (Qm_ G4_)/\Below w.heap.size w w':=by
 go_enter func132,ntmps132;go_wp2;go_ret;exact⟨_,rfl,Rd.fresh w 9 (Qm_ G4_) rfl,grow_⟩
def YL_ (l:List UInt8) (k:Nat) (M:List UInt8):Prop:=X4_ (marks04.drop k) l=M
theorem QaB_ {l M:List UInt8} {k:Nat} (h:YL_ l k M) (hk:21<=k):M=[]:=by
 unfold YL_ at h;rw[List.drop_of_length_le (by exact hk)]at h;exact h.symm
theorem QaC_ {l M:List UInt8} {k:Nat} {x:BA} (h:YL_ l k M) (hx:G4_[k]? =some x) (hp:x.data.toList.isPrefixOf l=true):(⟨M.toArray⟩:BA)=x:=by
 rw[xl_,List.getElem?_map]at hx;obtain⟨m,hm,rfl⟩:=Option.map_eq_some_iff.1 hx;obtain⟨a,he⟩:=List.getElem?_eq_some_iff.1 hm;unfold YL_ at h;rw[List.drop_eq_getElem_cons a,he]at h;rw[Y9_ (by simpa using hp)]at h;rw[h]
theorem Qcv_ {l M:List UInt8} {k:Nat} {x:BA} (h:YL_ l k M) (hx:G4_[k]? =some x) (hp:x.data.toList.isPrefixOf l=false):YL_ l (k+1) M:=by
 rw[xl_,List.getElem?_map]at hx;obtain⟨m,hm,rfl⟩:=Option.map_eq_some_iff.1 hx;obtain⟨a,he⟩:=List.getElem?_eq_some_iff.1 hm;unfold YL_ at h;rw[List.drop_eq_getElem_cons a,he]at h;rw[JR_ (by rw[show m.isPrefixOf l=false from hp];decide)]at h;exact h
theorem Qf9_ {s x:BA} {q:Nat} (h:q+x.size<=s.size):((s.extract q (q+x.size)).toList==x.toList)=x.data.toList.isPrefixOf (s.data.toList.drop q):=by
 rw[ByteArray.toList_eq,ByteArray.toList_eq,XH_];have hx:x.data.toList.length=x.size:=Qz_ x
 cases hp:x.data.toList.isPrefixOf (s.data.toList.drop q)with
 |true=>
  have:=List.prefix_iff_eq_take.1 (List.isPrefixOf_iff_prefix.1 hp);rw[hx]at this;rw[beq_iff_eq];exact this.symm
 |false=>
  rw[beq_eq_false_iff_ne];intro e;have:x.data.toList.isPrefixOf (s.data.toList.drop q)=true:=by
   rw[List.isPrefixOf_iff_prefix,List.prefix_iff_eq_take,hx];exact e.symm
  rw[hp]at this;cases this
theorem QcN_ {s x:BA} {q:Nat} (h:¬q+x.size<=s.size) (hq:q<=s.size):x.data.toList.isPrefixOf (s.data.toList.drop q)=false:=by
 cases hp:x.data.toList.isPrefixOf (s.data.toList.drop q)with
 |false=>rfl
 |true=>
  have:=(List.isPrefixOf_iff_prefix.1 hp).length_le;rw[Qz_,List.length_drop,Qz_]at this;omega
theorem ja_ (s:BA) (q:Nat) (w:World) (hq:q<=s.size) (hs:s.size<=4611686018427387904):
  Calls prog 102 #[.string s,.int .i64 q] w fun e w'=>e=.returned (.string ⟨(XS_ (s.data.toList.drop q)).toArray⟩)/\Below w.heap.size w w':=by
 have a:Hid (YL_ (s.data.toList.drop q) 0 (XS_ (s.data.toList.drop q))):=rfl;generalize XS_ (s.data.toList.drop q)=M at a |-
 have g:=hid (fun(x:BA) (h:q+x.size<=s.size)=>Qf9_ (s:=s) (x:=x) (q:=q) h);have j:=hid (fun(x:BA) (h:¬q+x.size<=s.size)=>QcN_ (s:=s) (x:=x) h hq);generalize s.data.toList.drop q=l at a g j;go_enter func102,ntmps102;go_wp2_with fail
 refine(kT_ _).mono ?_;rintro e w1 ⟨A,rfl,hr,t⟩;have c:=hid hr;clear hr;go_wp2;go_loopw [6] (fun i wr=>∃k:Nat,k<=21/\Hid (YL_ l k M)/\i=.int .i64 k/\Hid (Rd wr 1 A 21 (Qm_ G4_))/\Below w.heap.size w wr) (fun i _=>21 - (intOf i).toNat)
 case atStart=>exact⟨0,oo,a,rfl,c,t⟩
 case round=>
  clear c t;obtain⟨k,hk,p,rfl,c,t⟩:=hrel;clear a;by_cases m:k < 21
  ·obtain⟨x,o⟩:∃x,G4_[k]? =some x:=⟨_,gE (by exact m)⟩;have B:=QcC_ x (List.mem_of_getElem? o);have r:=hid (fun h=>QaC_ p o h);have f:Hid (x.data.toList.isPrefixOf l=false->YL_ l (k+1) M):=(show _->_ from fun h=>Qcv_ p o h);obtain⟨b,off,rfl,y,c0⟩:=Ud_ c.o m o;clear o p;by_cases hz:q+x.size<=s.size
   ·have n:=g.o x hz;have d2:decide ((q:Int)+x.size<=s.size)=true:=decide_eq_true oo;have g2:(q:Int)+x.size<=s.size:=oo;have z:∀W:World,(Instr.slice 9 (.string s) (some (.int .i64 (q:Int))) (some (.int .i64 ((q:Int)+x.size))) none).run prog W=.ok (.string (s.extract q (q+x.size))) W:=fun W=>by
     have h:=run_slice_string (P:=prog) W 9 s .i64 .i64 (q:Int) ((q:Int)+x.size) underlying9 oo oo oo;rwa[show((q:Int)+x.size).toNat=q+x.size from oo,Int.toNat_natCast]at h
    cases d:x.data.toList.isPrefixOf l with
    |true=>
     rw[d]at n;have he:=hid (r.o d);clear r f g j d;go_wp2;go_quiet (fail);go_wp2;refine bodyPost_ret (by simp[results,Tryz.results102,go_sem,];try rfl) rfl ?_;exact⟨by rw[he.o],grow_⟩
    |false=>
     rw[d]at n;have v:Hid (YL_ l (k+1) M):=f.o d;clear r f g j d;go_wp2;go_quiet (fail);go_wp2;go_roundw
     case rel=>exact⟨k+1,oo,v,by go_num,c,grow_⟩
     case measure=>simp[intOf];omega
   ·have v:Hid (YL_ l (k+1) M):=f.o (j.o x hz);have d2:decide ((q:Int)+x.size<=s.size)=false:=decide_eq_false oo;have g2:¬(q:Int)+x.size<=s.size:=oo;clear r f g j;go_wp2;go_quiet (fail);go_wp2;go_roundw
    case rel=>exact⟨k+1,oo,v,by go_num,c,grow_⟩
    case measure=>simp[intOf];omega
  ·obtain rfl:k=21:=oo;obtain rfl:=QaB_ p (Nat.le_refl _);go_wp2;go_ret;exact⟨rfl,t⟩
def SgR (z:Int × BA × Int × Nat) (w:World) (e:Ending) (w':World):Prop:=
 e=.returned (.tuple #[.agg #[.int .i64 z.1,.string z.2.1,.int .i64 z.2.2.1,.bool false],.int .i64 z.2.2.2])/\Below w.heap.size w w'
theorem Qbc_ {l:List UInt8} (q:Nat) (h:0 < Ko_ l):Ke_ l q=(5,VK_ ⟨(l.take (Ko_ l)).toArray⟩,(q:Int),Ko_ l):=by unfold Ke_;rw[if_pos h]
theorem Qc3_ {c:UInt8} {l:List UInt8} (q:Nat) (h:Ko_ (c::l)=0) (hc:c=39):Ke_ (c::l) q=(3,⟨((c::l).take (UG_ (c::l))).toArray⟩,(q:Int),UG_ (c::l)):=by
 subst hc;unfold Ke_;rw[if_neg oo];simp only;rw[if_neg (by decide),if_neg (by decide),if_pos trivial]
theorem Qbb_ {c:UInt8} {l:List UInt8} (q:Nat) (h:Ko_ (c::l)=0) (h1:QN_ c=false) (h2:Km_ c=false) (hc:¬c=39):Ke_ (c::l) q=(4,⟨(XS_ (c::l)).toArray⟩,(q:Int),(XS_ (c::l)).length):=by
 unfold Ke_;rw[if_neg oo];simp only;rw[if_neg (by rw[h1];decide),if_neg (by rw[h2];decide),if_neg hc]
theorem vJ_ (l:List UInt8):Ko_ l<=l.length:=by
 unfold Ko_;split
 ·exact KN_ _ _
 ·omega
theorem Qgd_ (l:List UInt8):Jc_ l<=l.length:=by
 induction l with
 |nil=>exact Nat.le_refl _
 |cons c l ih=>
  unfold Jc_;split
  ·simp
  split
  ·split<;>simp<;>omega
  simp
theorem QcO_ (l:List UInt8):UG_ l<=l.length:=by
 unfold UG_;split
 ·omega
 ·have:=Qgd_ (l.drop 1);rw[List.length_drop]at this;omega
theorem Qej_ (l:List UInt8):(XS_ l).length<=2:=by
 have b:∀a:List (List UInt8),(∀m∈a,m.length<=2)->(X4_ a l).length<=2:=by
  intro a
  induction a with
  |nil=>intro _;simp[X4_]
  |cons m a ih=>
   intro h;by_cases hm:m.isPrefixOf l=true
   ·rw[Y9_ hm];exact h m (List.mem_cons_self ..)
   ·rw[JR_ hm];exact ih (fun x hx=>h x (List.mem_cons_of_mem _ hx))
 exact b marks04 (by decide)
theorem kW_ (s:BA) (q:Nat) (w:World) (hq:q < s.size) (hs:s.size<=1048576) (hn:0 < Ko_ (s.data.toList.drop q)):
  Calls prog 70 #[.string s,.int .i64 q] w (SgR (Ke_ (s.data.toList.drop q) q) w):=by
 rw[Qbc_ q hn,<-XH_];have a:=vJ_ (s.data.toList.drop q);rw[List.length_drop,Qz_]at a;have HN:=hid (fun W=>K5_ s q W oo oo);generalize Ko_ (s.data.toList.drop q)=n at hn a HN |-
 have HT:=hid (fun W=>Vk_ (s.extract q (q+n)) W (by unfold maxLen;simp;omega));have b:∀W:World,(Instr.slice 9 (.string s) (some (.int .i64 (q:Int))) (some (.int .i64 ((q:Int)+n))) none).run prog W=.ok (.string (s.extract q (q+n))) W:=fun W=>by
  have h:=run_slice_string (P:=prog) W 9 s .i64 .i64 (q:Int) ((q:Int)+n) underlying9 oo oo oo;rwa[show((q:Int)+n).toNat=q+n from oo,Int.toNat_natCast]at h
 unfold SgR;generalize VK_ (s.extract q (q+n))=x at HT |-
 go_enter func70,ntmps70;go_wp2_with fail
 refine(HN.o _).mono ?_;rintro e w1 ⟨rfl,rfl⟩;have hK:=Blk.new w 68 #[.int .i64 0,.string ⟨#[]⟩,.int .i64 0,.bool false];go_wp2_with fail
 refine(HT.o _).mono ?_;rintro e w2 ⟨rfl,rfl⟩;go_wp2;refine bodyPost_ret (by simp[results,Tryz.results70,go_sem,];try rfl) rfl ?_;exact⟨rfl,grow_⟩
theorem zL_ {c:UInt8} {l:List UInt8} (q:Nat) (h:Ko_ (c::l)=0) (h1:QN_ c=true):Ke_ (c::l) q=if 30 < K0_ Qp_ (c::l)then (0,⟨#[]⟩,0,0)else (1,⟨((c::l).take (K0_ Qp_ (c::l))).toArray⟩,(q:Int),K0_ Qp_ (c::l)):=by
 unfold Ke_;rw[if_neg oo];simp only;rw[if_pos h1]
theorem xw_ {c:UInt8} {l:List UInt8} (q:Nat) (h:Ko_ (c::l)=0) (h1:QN_ c=false) (h2:Km_ c=true):Ke_ (c::l) q=if 12 < K0_ Km_ (c::l)then (0,⟨#[]⟩,0,0)else (2,⟨((c::l).take (K0_ Km_ (c::l))).toArray⟩,(q:Int),K0_ Km_ (c::l)):=by
 unfold Ke_;rw[if_neg oo];simp only;rw[if_neg (by rw[h1];decide),if_pos h2]
def Xh_ (p:UInt8->Bool) (s:BA) (q n:Nat):Prop:=((s.data.toList.drop q).take (n - q)).all p=true
section
variable {p:UInt8->Bool} {s:BA} {q n:Nat}
theorem Vz_ (p:UInt8->Bool) (s:BA) (q:Nat):Xh_ p s q q:=by unfold Xh_;rw[Nat.sub_self];rfl
theorem Xu_ (h:Xh_ p s q n) (hq:q<=n) (hn:n < s.size) (hc:p s[n]=true):Xh_ p s q (n+1):=by
 unfold Xh_ at h |-
 have hl:n - q < (s.data.toList.drop q).length:=by rw[Zd_];omega
 rw[show n+1 - q=n - q+1 from oo,List.take_succ_eq_append_getElem hl,List.all_append,h,x1_ hq hn hl];simp[hc]
theorem Vy_ (h:Xh_ p s q n) (hq:q<=n) (hn:n < s.size) (hc:p s[n]=false):K0_ p (s.data.toList.drop q)=n - q:=
 jz_ h (fun hl=>by rw[x1_ hq hn hl];exact hc) (by rw[Zd_];omega)
theorem J1_ (h:Xh_ p s q n) (hq:q<=n) (hn:n=s.size):K0_ p (s.data.toList.drop q)=n - q:=
 jz_ h (fun hl=>by rw[Zd_]at hl;omega) (by rw[Zd_];omega)
end
theorem kV_ (s:BA) (q:Nat) (w:World) (hq:q < s.size) (hs:s.size<=1048576) (f:Ko_ (s.data.toList.drop q)=0) (g:QN_ s[q]=true) (C:¬30 < K0_ Qp_ (s.data.toList.drop q)):
  Calls prog 70 #[.string s,.int .i64 q] w (SgR (Ke_ (s.data.toList.drop q) q) w):=by
 have hz:Ke_ (s.data.toList.drop q) q=(1,s.extract q (q+K0_ Qp_ (s.data.toList.drop q)),(q:Int),K0_ Qp_ (s.data.toList.drop q)):=by
  rw[XH_];rw[Kv_ hq]at f C |-
  rw[zL_ q f g,if_neg C]
 rw[hz];clear hz;have HN:=hid (fun W=>show Calls prog 97 #[.string s,.int .i64 q] W fun e w'=>e=.returned (.int .i64 0)/\W=w' by have h:=K5_ s q W oo oo;rwa[f]at h);have m:=hid (fun(W:World)=>show Calls prog 99 #[.int .u8 (s[q].toNat:Int)] W fun e w'=>e=.returned (.bool true)/\W=w' by rw[<-g];exact Q9_ _ W);have p:=KN_ Qp_ (s.data.toList.drop q);rw[Zd_]at p;have v:=hid (fun(n:Nat) (h:Xh_ Qp_ s q n) h1 (B:n < s.size) h3=>Vy_ h h1 B h3);have t:=hid (fun(n:Nat) (h:Xh_ Qp_ s q n) h1 (B:n=s.size)=>J1_ h h1 B);generalize K0_ Qp_ (s.data.toList.drop q)=K at C p v t |-
 unfold SgR;have hK:=Blk.new w 68 #[.int .i64 0,.string ⟨#[]⟩,.int .i64 0,.bool false];clear f g;go_enter func70,ntmps70;go_wp2_with fail
 refine(HN.o _).mono ?_;rintro e w1 ⟨rfl,rfl⟩;go_wp2_with fail
 refine(m.o _).mono ?_;rintro e w1 ⟨rfl,rfl⟩;go_wp2;clear HN m
 go_loop [6] (fun i=>∃n:Nat,q<=n/\n<=s.size/\Hid (Xh_ Qp_ s q n)/\i=.int .i64 n) (fun i=>s.size - (intOf i).toNat)
 case atStart=>exact⟨q,oo,oo,Vz_ _ _ _,rfl⟩
 case round=>
  obtain⟨n,d,E,l,rfl⟩:=hrel;by_cases k:n < s.size
  ·have x:=hid (fun(b:Bool) (g:QN_ s[n]=b) (W:World)=>show Calls prog 99 #[.int .u8 (s[n].toNat:Int)] W fun e w'=>e=.returned (.bool b)/\W=w' by rw[<-g];exact Q9_ _ W);have y:=hid (fun(b:Bool) (g:Km_ s[n]=b) (W:World)=>show Calls prog 100 #[.int .u8 (s[n].toNat:Int)] W fun e w'=>e=.returned (.bool b)/\W=w' by rw[<-g];exact QZ_ _ W)
   cases r:QN_ s[n]with
   |true=>
    have a:=hid (x.o _ r);have f:Hid (Xh_ Qp_ s q (n+1)):=Xu_ l d k (show Qp_ s[n]=true by unfold Qp_;rw[r];rfl);go_wp2_with fail
    refine(a.o _).mono ?_;rintro e w1 ⟨rfl,rfl⟩;go_wp2
    go_round
    case rel=>exact⟨n+1,oo,oo,f,by go_num⟩
    case measure=>simp[intOf];omega
   |false=>
    have a:=hid (x.o _ r)
    cases o:Km_ s[n]with
    |true=>
     have c:=hid (y.o _ o);have f:Hid (Xh_ Qp_ s q (n+1)):=Xu_ l d k (show Qp_ s[n]=true by unfold Qp_;rw[o,Bool.or_true]);go_wp2_with fail
     refine(a.o _).mono ?_;rintro e w1 ⟨rfl,rfl⟩;go_wp2_with fail
     refine(c.o _).mono ?_;rintro e w1 ⟨rfl,rfl⟩;go_wp2
     go_round
     case rel=>exact⟨n+1,oo,oo,f,by go_num⟩
     case measure=>simp[intOf];omega
    |false=>
     have c:=hid (y.o _ o);have j:=v.o n l d k (show Qp_ s[n]=false by unfold Qp_;rw[r,o];rfl);clear x y r o;go_wp2_with fail
     refine(a.o _).mono ?_;rintro e w1 ⟨rfl,rfl⟩;go_wp2_with fail
     refine(c.o _).mono ?_;rintro e w1 ⟨rfl,rfl⟩;have g3:¬(30:Int) < (n:Int) - q:=oo;have z:q+K=n:=oo;have A:((K:Nat):Int)=(n:Int) - q:=oo;have D:∀W:World,(Instr.slice 9 (.string s) (some (.int .i64 (q:Int))) (some (.int .i64 (n:Int))) none).run prog W=.ok (.string (s.extract q n)) W:=fun W=>by
      have h:=run_slice_string (P:=prog) W 9 s .i64 .i64 (q:Int) (n:Int) underlying9 oo oo oo;rwa[Int.toNat_natCast,Int.toNat_natCast]at h
     clear v t l j a c;go_wp2;refine bodyPost_ret (by simp[results,Tryz.results70,go_sem,];try rfl) rfl ?_;exact⟨by simp only[z,A],grow_⟩
  ·have j:=t.o n l d oo;have gl:¬(n:Int) < s.size:=oo;have g3:¬(30:Int) < (n:Int) - q:=oo;have z:q+K=n:=oo;have A:((K:Nat):Int)=(n:Int) - q:=oo;have D:∀W:World,(Instr.slice 9 (.string s) (some (.int .i64 (q:Int))) (some (.int .i64 (n:Int))) none).run prog W=.ok (.string (s.extract q n)) W:=fun W=>by
    have h:=run_slice_string (P:=prog) W 9 s .i64 .i64 (q:Int) (n:Int) underlying9 oo oo oo;rwa[Int.toNat_natCast,Int.toNat_natCast]at h
   clear v t l j;go_wp2;refine bodyPost_ret (by simp[results,Tryz.results70,go_sem,];try rfl) rfl ?_;exact⟨by simp only[z,A],grow_⟩
theorem Gv_ (s:BA) (q:Nat) (w:World) (hq:q < s.size) (hs:s.size<=1048576) (f:Ko_ (s.data.toList.drop q)=0) (g:QN_ s[q]=true) (A:30 < K0_ Qp_ (s.data.toList.drop q)):
  Calls prog 70 #[.string s,.int .i64 q] w (SgR (Ke_ (s.data.toList.drop q) q) w):=by
 have hz:Ke_ (s.data.toList.drop q) q=(0,⟨#[]⟩,0,0):=by
  skip
  rw[Kv_ hq]at f A |-
  rw[zL_ q f g,if_pos A]
 rw[hz];clear hz;have HN:=hid (fun W=>show Calls prog 97 #[.string s,.int .i64 q] W fun e w'=>e=.returned (.int .i64 0)/\W=w' by have h:=K5_ s q W oo oo;rwa[f]at h);have m:=hid (fun(W:World)=>show Calls prog 99 #[.int .u8 (s[q].toNat:Int)] W fun e w'=>e=.returned (.bool true)/\W=w' by rw[<-g];exact Q9_ _ W);have p:=KN_ Qp_ (s.data.toList.drop q);rw[Zd_]at p;have v:=hid (fun(n:Nat) (h:Xh_ Qp_ s q n) h1 (z:n < s.size) h3=>Vy_ h h1 z h3);have t:=hid (fun(n:Nat) (h:Xh_ Qp_ s q n) h1 (z:n=s.size)=>J1_ h h1 z);generalize K0_ Qp_ (s.data.toList.drop q)=K at A p v t |-
 unfold SgR;have hK:=Blk.new w 68 #[.int .i64 0,.string ⟨#[]⟩,.int .i64 0,.bool false];clear f g;go_enter func70,ntmps70;go_wp2_with fail
 refine(HN.o _).mono ?_;rintro e w1 ⟨rfl,rfl⟩;go_wp2_with fail
 refine(m.o _).mono ?_;rintro e w1 ⟨rfl,rfl⟩;go_wp2;clear HN m
 go_loop [6] (fun i=>∃n:Nat,q<=n/\n<=s.size/\Hid (Xh_ Qp_ s q n)/\i=.int .i64 n) (fun i=>s.size - (intOf i).toNat)
 case atStart=>exact⟨q,oo,oo,Vz_ _ _ _,rfl⟩
 case round=>
  obtain⟨n,d,B,l,rfl⟩:=hrel;by_cases k:n < s.size
  ·have x:=hid (fun(b:Bool) (g:QN_ s[n]=b) (W:World)=>show Calls prog 99 #[.int .u8 (s[n].toNat:Int)] W fun e w'=>e=.returned (.bool b)/\W=w' by rw[<-g];exact Q9_ _ W);have y:=hid (fun(b:Bool) (g:Km_ s[n]=b) (W:World)=>show Calls prog 100 #[.int .u8 (s[n].toNat:Int)] W fun e w'=>e=.returned (.bool b)/\W=w' by rw[<-g];exact QZ_ _ W)
   cases r:QN_ s[n]with
   |true=>
    have a:=hid (x.o _ r);have f:Hid (Xh_ Qp_ s q (n+1)):=Xu_ l d k (show Qp_ s[n]=true by unfold Qp_;rw[r];rfl);go_wp2_with fail
    refine(a.o _).mono ?_;rintro e w1 ⟨rfl,rfl⟩;go_wp2
    go_round
    case rel=>exact⟨n+1,oo,oo,f,by go_num⟩
    case measure=>simp[intOf];omega
   |false=>
    have a:=hid (x.o _ r)
    cases o:Km_ s[n]with
    |true=>
     have c:=hid (y.o _ o);have f:Hid (Xh_ Qp_ s q (n+1)):=Xu_ l d k (show Qp_ s[n]=true by unfold Qp_;rw[o,Bool.or_true]);go_wp2_with fail
     refine(a.o _).mono ?_;rintro e w1 ⟨rfl,rfl⟩;go_wp2_with fail
     refine(c.o _).mono ?_;rintro e w1 ⟨rfl,rfl⟩;go_wp2
     go_round
     case rel=>exact⟨n+1,oo,oo,f,by go_num⟩
     case measure=>simp[intOf];omega
    |false=>
     have c:=hid (y.o _ o);have j:=v.o n l d k (show Qp_ s[n]=false by unfold Qp_;rw[r,o];rfl);clear x y r o;go_wp2_with fail
     refine(a.o _).mono ?_;rintro e w1 ⟨rfl,rfl⟩;go_wp2_with fail
     refine(c.o _).mono ?_;rintro e w1 ⟨rfl,rfl⟩;have g3:  (30:Int) < (n:Int) - q:=oo;clear v t l j a c;go_wp2;refine bodyPost_ret (by simp[results,Tryz.results70,go_sem,];try rfl) rfl ?_;exact⟨rfl,grow_⟩
  ·have j:=t.o n l d oo;have gl:¬(n:Int) < s.size:=oo;have g3:  (30:Int) < (n:Int) - q:=oo;clear v t l j;go_wp2;refine bodyPost_ret (by simp[results,Tryz.results70,go_sem,];try rfl) rfl ?_;exact⟨rfl,grow_⟩
theorem jb_ (s:BA) (q:Nat) (w:World) (hq:q < s.size) (hs:s.size<=1048576) (g:Ko_ (s.data.toList.drop q)=0) (m:QN_ s[q]=false) (c:Km_ s[q]=true) (A:¬12 < K0_ Km_ (s.data.toList.drop q)):
  Calls prog 70 #[.string s,.int .i64 q] w (SgR (Ke_ (s.data.toList.drop q) q) w):=by
 have hz:Ke_ (s.data.toList.drop q) q=(2,s.extract q (q+K0_ Km_ (s.data.toList.drop q)),(q:Int),K0_ Km_ (s.data.toList.drop q)):=by
  rw[XH_];rw[Kv_ hq]at g A |-
  rw[xw_ q g m c,if_neg A]
 rw[hz];clear hz;have HN:=hid (fun W=>show Calls prog 97 #[.string s,.int .i64 q] W fun e w'=>e=.returned (.int .i64 0)/\W=w' by have h:=K5_ s q W oo oo;rwa[g]at h);have j:=hid (fun(W:World)=>show Calls prog 99 #[.int .u8 (s[q].toNat:Int)] W fun e w'=>e=.returned (.bool false)/\W=w' by rw[<-m];exact Q9_ _ W);have k:=hid (fun(W:World)=>show Calls prog 100 #[.int .u8 (s[q].toNat:Int)] W fun e w'=>e=.returned (.bool true)/\W=w' by rw[<-c];exact QZ_ _ W);have o:=KN_ Km_ (s.data.toList.drop q);rw[Zd_]at o;have t:=hid (fun(n:Nat) (h:Xh_ Km_ s q n) h1 (z:n < s.size) h3=>Vy_ h h1 z h3);have r:=hid (fun(n:Nat) (h:Xh_ Km_ s q n) h1 (z:n=s.size)=>J1_ h h1 z);generalize K0_ Km_ (s.data.toList.drop q)=K at A o t r |-
 unfold SgR;have hK:=Blk.new w 68 #[.int .i64 0,.string ⟨#[]⟩,.int .i64 0,.bool false];clear g m c;go_enter func70,ntmps70;go_wp2_with fail
 refine(HN.o _).mono ?_;rintro e w1 ⟨rfl,rfl⟩;go_wp2_with fail
 refine(j.o _).mono ?_;rintro e w1 ⟨rfl,rfl⟩;go_wp2_with fail
 refine(k.o _).mono ?_;rintro e w1 ⟨rfl,rfl⟩;go_wp2;clear HN j k
 go_loop [6] (fun i=>∃n:Nat,q<=n/\n<=s.size/\Hid (Xh_ Km_ s q n)/\i=.int .i64 n) (fun i=>s.size - (intOf i).toNat)
 case atStart=>exact⟨q,oo,oo,Vz_ _ _ _,rfl⟩
 case round=>
  obtain⟨n,f,C,l,rfl⟩:=hrel;by_cases p:n < s.size
  ·skip
   have v:=hid (fun(b:Bool) (m:Km_ s[n]=b) (W:World)=>show Calls prog 100 #[.int .u8 (s[n].toNat:Int)] W fun e w'=>e=.returned (.bool b)/\W=w' by rw[<-m];exact QZ_ _ W)
   cases c:Km_ s[n]with
   |true=>
    have a:=hid (v.o _ c);have g:Hid (Xh_ Km_ s q (n+1)):=Xu_ l f p (c);go_wp2_with fail
    refine(a.o _).mono ?_;rintro e w1 ⟨rfl,rfl⟩;go_wp2
    go_round
    case rel=>exact⟨n+1,oo,oo,g,by go_num⟩
    case measure=>simp[intOf];omega
   |false=>
    have a:=hid (v.o _ c);have d:=t.o n l f p c;clear v c;go_wp2_with fail
    refine(a.o _).mono ?_;rintro e w1 ⟨rfl,rfl⟩;have g3:¬(12:Int) < (n:Int) - q:=oo;have x:q+K=n:=oo;have y:((K:Nat):Int)=(n:Int) - q:=oo;have B:∀W:World,(Instr.slice 9 (.string s) (some (.int .i64 (q:Int))) (some (.int .i64 (n:Int))) none).run prog W=.ok (.string (s.extract q n)) W:=fun W=>by
     have h:=run_slice_string (P:=prog) W 9 s .i64 .i64 (q:Int) (n:Int) underlying9 oo oo oo;rwa[Int.toNat_natCast,Int.toNat_natCast]at h
    clear t r l d a;go_wp2;refine bodyPost_ret (by simp[results,Tryz.results70,go_sem,];try rfl) rfl ?_;exact⟨by simp only[x,y],grow_⟩
  ·have d:=r.o n l f oo;have gl:¬(n:Int) < s.size:=oo;have g3:¬(12:Int) < (n:Int) - q:=oo;have x:q+K=n:=oo;have y:((K:Nat):Int)=(n:Int) - q:=oo;have B:∀W:World,(Instr.slice 9 (.string s) (some (.int .i64 (q:Int))) (some (.int .i64 (n:Int))) none).run prog W=.ok (.string (s.extract q n)) W:=fun W=>by
    have h:=run_slice_string (P:=prog) W 9 s .i64 .i64 (q:Int) (n:Int) underlying9 oo oo oo;rwa[Int.toNat_natCast,Int.toNat_natCast]at h
   clear t r l d;go_wp2;refine bodyPost_ret (by simp[results,Tryz.results70,go_sem,];try rfl) rfl ?_;exact⟨by simp only[x,y],grow_⟩
theorem Um_ (s:BA) (q:Nat) (w:World) (hq:q < s.size) (hs:s.size<=1048576) (g:Ko_ (s.data.toList.drop q)=0) (m:QN_ s[q]=false) (c:Km_ s[q]=true) (y:12 < K0_ Km_ (s.data.toList.drop q)):
  Calls prog 70 #[.string s,.int .i64 q] w (SgR (Ke_ (s.data.toList.drop q) q) w):=by
 have hz:Ke_ (s.data.toList.drop q) q=(0,⟨#[]⟩,0,0):=by
  skip
  rw[Kv_ hq]at g y |-
  rw[xw_ q g m c,if_pos y]
 rw[hz];clear hz;have HN:=hid (fun W=>show Calls prog 97 #[.string s,.int .i64 q] W fun e w'=>e=.returned (.int .i64 0)/\W=w' by have h:=K5_ s q W oo oo;rwa[g]at h);have j:=hid (fun(W:World)=>show Calls prog 99 #[.int .u8 (s[q].toNat:Int)] W fun e w'=>e=.returned (.bool false)/\W=w' by rw[<-m];exact Q9_ _ W);have k:=hid (fun(W:World)=>show Calls prog 100 #[.int .u8 (s[q].toNat:Int)] W fun e w'=>e=.returned (.bool true)/\W=w' by rw[<-c];exact QZ_ _ W);have o:=KN_ Km_ (s.data.toList.drop q);rw[Zd_]at o;have t:=hid (fun(n:Nat) (h:Xh_ Km_ s q n) h1 (x:n < s.size) h3=>Vy_ h h1 x h3);have r:=hid (fun(n:Nat) (h:Xh_ Km_ s q n) h1 (x:n=s.size)=>J1_ h h1 x);generalize K0_ Km_ (s.data.toList.drop q)=K at y o t r |-
 unfold SgR;have hK:=Blk.new w 68 #[.int .i64 0,.string ⟨#[]⟩,.int .i64 0,.bool false];clear g m c;go_enter func70,ntmps70;go_wp2_with fail
 refine(HN.o _).mono ?_;rintro e w1 ⟨rfl,rfl⟩;go_wp2_with fail
 refine(j.o _).mono ?_;rintro e w1 ⟨rfl,rfl⟩;go_wp2_with fail
 refine(k.o _).mono ?_;rintro e w1 ⟨rfl,rfl⟩;go_wp2;clear HN j k
 go_loop [6] (fun i=>∃n:Nat,q<=n/\n<=s.size/\Hid (Xh_ Km_ s q n)/\i=.int .i64 n) (fun i=>s.size - (intOf i).toNat)
 case atStart=>exact⟨q,oo,oo,Vz_ _ _ _,rfl⟩
 case round=>
  obtain⟨n,f,z,l,rfl⟩:=hrel;by_cases p:n < s.size
  ·skip
   have v:=hid (fun(b:Bool) (m:Km_ s[n]=b) (W:World)=>show Calls prog 100 #[.int .u8 (s[n].toNat:Int)] W fun e w'=>e=.returned (.bool b)/\W=w' by rw[<-m];exact QZ_ _ W)
   cases c:Km_ s[n]with
   |true=>
    have a:=hid (v.o _ c);have g:Hid (Xh_ Km_ s q (n+1)):=Xu_ l f p (c);go_wp2_with fail
    refine(a.o _).mono ?_;rintro e w1 ⟨rfl,rfl⟩;go_wp2
    go_round
    case rel=>exact⟨n+1,oo,oo,g,by go_num⟩
    case measure=>simp[intOf];omega
   |false=>
    have a:=hid (v.o _ c);have d:=t.o n l f p c;clear v c;go_wp2_with fail
    refine(a.o _).mono ?_;rintro e w1 ⟨rfl,rfl⟩;have g3:  (12:Int) < (n:Int) - q:=oo;clear t r l d a;go_wp2;refine bodyPost_ret (by simp[results,Tryz.results70,go_sem,];try rfl) rfl ?_;exact⟨rfl,grow_⟩
  ·have d:=r.o n l f oo;have gl:¬(n:Int) < s.size:=oo;have g3:  (12:Int) < (n:Int) - q:=oo;clear t r l d;go_wp2;refine bodyPost_ret (by simp[results,Tryz.results70,go_sem,];try rfl) rfl ?_;exact⟨rfl,grow_⟩
theorem jc_ (s:BA) (q:Nat) (w:World) (hq:q < s.size) (hs:s.size<=1048576) (f:Ko_ (s.data.toList.drop q)=0) (c:s[q]=39):
  Calls prog 70 #[.string s,.int .i64 q] w (SgR (Ke_ (s.data.toList.drop q) q) w):=by
 have hz:Ke_ (s.data.toList.drop q) q=(3,s.extract q (q+UG_ (s.data.toList.drop q)),(q:Int),UG_ (s.data.toList.drop q)):=by
  rw[XH_];rw[Kv_ hq]at f |-
  rw[Qc3_ q f c]
 rw[hz];clear hz;have HN:=hid (fun W=>show Calls prog 97 #[.string s,.int .i64 q] W fun e w'=>e=.returned (.int .i64 0)/\W=w' by have h:=K5_ s q W oo oo;rwa[f]at h);have a:=hid (fun(W:World)=>show Calls prog 99 #[.int .u8 (s[q].toNat:Int)] W fun e w'=>e=.returned (.bool false)/\W=w' by rw[show false=QN_ s[q]by rw[c];rfl];exact Q9_ _ W);have b:=hid (fun(W:World)=>show Calls prog 100 #[.int .u8 (s[q].toNat:Int)] W fun e w'=>e=.returned (.bool false)/\W=w' by rw[show false=Km_ s[q]by rw[c];rfl];exact QZ_ _ W);have g:=hid (fun W=>JN_ s q W oo oo);have i:((s[q].toNat:Int)==39)=true:=by rw[c];rfl
 have d:=QcO_ (s.data.toList.drop q);rw[Zd_]at d;generalize UG_ (s.data.toList.drop q)=n at d g |-
 have j:∀W:World,(Instr.slice 9 (.string s) (some (.int .i64 (q:Int))) (some (.int .i64 ((q:Int)+n))) none).run prog W=.ok (.string (s.extract q (q+n))) W:=fun W=>by
  have h:=run_slice_string (P:=prog) W 9 s .i64 .i64 (q:Int) ((q:Int)+n) underlying9 oo oo oo;rwa[show((q:Int)+n).toNat=q+n from oo,Int.toNat_natCast]at h
 unfold SgR;have hK:=Blk.new w 68 #[.int .i64 0,.string ⟨#[]⟩,.int .i64 0,.bool false];clear f c;go_enter func70,ntmps70;go_wp2_with fail
 refine(HN.o _).mono ?_;rintro e w1 ⟨rfl,rfl⟩;go_wp2_with fail
 refine(a.o _).mono ?_;rintro e w1 ⟨rfl,rfl⟩;go_wp2_with fail
 refine(b.o _).mono ?_;rintro e w1 ⟨rfl,rfl⟩;go_wp2_with fail
 refine(g.o _).mono ?_;rintro e w1 ⟨rfl,rfl⟩;clear HN a b g;go_wp2;refine bodyPost_ret (by simp[results,Tryz.results70,go_sem,];try rfl) rfl ?_;exact⟨rfl,grow_⟩
theorem kU_ (s:BA) (q:Nat) (w:World) (hq:q < s.size) (hs:s.size<=1048576) (f:Ko_ (s.data.toList.drop q)=0) (g:QN_ s[q]=false) (j:Km_ s[q]=false) (i:¬s[q]=39):
  Calls prog 70 #[.string s,.int .i64 q] w (SgR (Ke_ (s.data.toList.drop q) q) w):=by
 have hz:Ke_ (s.data.toList.drop q) q=(4,⟨(XS_ (s.data.toList.drop q)).toArray⟩,(q:Int),(XS_ (s.data.toList.drop q)).length):=by
  rw[Kv_ hq]at f |-
  rw[Qbb_ q f g j i]
 rw[hz];clear hz;have HN:=hid (fun W=>show Calls prog 97 #[.string s,.int .i64 q] W fun e w'=>e=.returned (.int .i64 0)/\W=w' by have h:=K5_ s q W oo oo;rwa[f]at h);have b:=hid (fun(W:World)=>show Calls prog 99 #[.int .u8 (s[q].toNat:Int)] W fun e w'=>e=.returned (.bool false)/\W=w' by rw[<-g];exact Q9_ _ W);have c:=hid (fun(W:World)=>show Calls prog 100 #[.int .u8 (s[q].toNat:Int)] W fun e w'=>e=.returned (.bool false)/\W=w' by rw[<-j];exact QZ_ _ W);have d:=hid (fun W=>ja_ s q W oo oo);have l:=QfZ_ i;have k:=Qej_ (s.data.toList.drop q);have a:(⟨(XS_ (s.data.toList.drop q)).toArray⟩:BA).size=(XS_ (s.data.toList.drop q)).length:=rfl;revert d a;generalize (⟨(XS_ (s.data.toList.drop q)).toArray⟩:BA)=x;intro d a;rw[<-a]at k |-
 clear a;unfold SgR;have hK:=hid (Blk.new w 68 #[.int .i64 0,.string ⟨#[]⟩,.int .i64 0,.bool false]);clear f i g j;go_enter func70,ntmps70;go_wp2_with fail
 refine(HN.o _).mono ?_;rintro e w1 ⟨rfl,rfl⟩;go_wp2_with fail
 refine(b.o _).mono ?_;rintro e w1 ⟨rfl,rfl⟩;go_wp2_with fail
 refine(c.o _).mono ?_;rintro e w1 ⟨rfl,rfl⟩;go_wp2_with fail
 refine(d.o _).mono ?_;rintro e w1 ⟨rfl,h1⟩;clear HN b c d;have m:=Z7_ h1;have K:=hK.o.next h1;have c0:=K.q0;have c1:=K.q1;have c2:=K.q2;have c3:=K.q3;have fK:=K.frozen;have zK:=K.lt;go_wp2;refine bodyPost_ret (by simp[results,Tryz.results70,go_sem,c0,c1,c2,c3];try rfl) rfl ?_;exact⟨rfl,grow_⟩
theorem xC_ (s:BA) (q:Nat) (w:World) (b:q < s.size) (hs:s.size<=1048576):
  Calls prog 70 #[.string s,.int .i64 q] w (SgR (Ke_ (s.data.toList.drop q) q) w):=by
 by_cases hn:0 < Ko_ (s.data.toList.drop q)
 ·exact kW_ s q w b hs hn
 ·have a:Ko_ (s.data.toList.drop q)=0:=oo
  cases c:QN_ s[q]with
  |true=>
   by_cases d:30 < K0_ Qp_ (s.data.toList.drop q)
   ·exact Gv_ s q w b hs a c d
   ·exact kV_ s q w b hs a c d
  |false=>
   cases e:Km_ s[q]with
   |true=>
    by_cases d:12 < K0_ Km_ (s.data.toList.drop q)
    ·exact Um_ s q w b hs a c e d
    ·exact jb_ s q w b hs a c e d
   |false=>
    by_cases hc:s[q]=39
    ·exact jc_ s q w b hs a hc
    ·exact kU_ s q w b hs a c e hc
def SgI (l:List UInt8) (w:World) (e:Ending) (w':World):Prop:=
 ∃(k:Int) (x:BA) (z:Nat) (ok:Bool),e=.returned (.tuple #[.int .i64 k,.string x,.int .i64 z,.bool ok])/\SgOk l k x z ok/\z<=l.length/\Below w.heap.size w w'
theorem kH_ (s:BA) (w:World) (a:0 < s.size) (hs:s.size<=maxLen):Calls prog 117 #[.string s] w (SgI s.data.toList w):=by
 have hl:=Qz_ s
 cases c:QN_ s[0]with
 |true=>
  refine(WE_ s w a hs c).mono fun e w' ⟨h1,b⟩=>⟨_,_,_,_,h1,Qgi_ a c,?_,by subst b;exact br⟩
  rw[Zt_];exact KN_ _ _
 |false=>
  cases d:Km_ s[0]with
  |true=>
   refine(zJ_ s w a hs c d).mono fun e w' ⟨h1,b⟩=>⟨_,_,_,_,h1,Qhb_ a c d,?_,by subst b;exact br⟩
   rw[Zt_];exact KN_ _ _
  |false=>
   by_cases g:s[0]=39
   ·refine(zK_ s w a hs c d g).mono fun e w' ⟨h1,b⟩=>⟨_,_,_,_,h1,Qhc_ a g,?_,by subst b;exact br⟩
    rw[hl];unfold qQ_;split
    ·exact Nat.zero_le _
    ·simp;omega
   ·cases h:Lib.hasPrefix s.data.toList [47,47]with
    |true=>
     refine(WF_ s w a hs c d g h).mono fun e w' ⟨h1,b⟩=>⟨_,_,_,_,h1,Qgj_ a h,?_,by subst b;exact br⟩
     rw[Zt_];exact KN_ _ _
    |false=>
     have hm:=Qgh_ a c d g h;refine(WD_ s w a hs c d g h).mono fun e w' ⟨h1,b⟩=>?_
     by_cases i:XO_ s=0
     ·rw[GA_ i]at h1;refine⟨0,⟨#[]⟩,0,false,h1,?_,Nat.zero_le _,b⟩;unfold SgOk;rw[if_neg (by decide)];intro q;rw[hm q];exact i
     ·rw[GB_ rfl (Nat.pos_of_ne_zero i)]at h1;have f:XO_ s<=s.data.toList.length:=(by rw[hl];exact(xj_ s a).2);refine⟨4,_,_,true,h1,?_,f,b⟩;unfold SgOk;rw[if_pos rfl];exact⟨Nat.pos_of_ne_zero i,f,hm⟩
end Go.Proofs.YtgbikafalcbibaaGreatDoor

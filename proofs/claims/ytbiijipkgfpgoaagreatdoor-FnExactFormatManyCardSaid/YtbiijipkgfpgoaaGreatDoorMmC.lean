/-
  Put together by program.
-/
import Derived.Test.YtbiijipkgfpgoaaGreatDoorMmB
import Derived.Deep.CutBlock
set_option maxRecDepth 100000
set_option linter.all false
set_option maxHeartbeats 25600000
open Go.Proofs.Tryz
open Go.Value renaming int→I_,slice→S_,string→T_,bool→B_,agg→A_,tuple→U_
open Go.IntKind renaming i64→j_
open Go.Obj renaming cells→C_
open Go.Ending renaming returned→R_
open List renaming length→η
open Go renaming World→Ω,Calls→Δ,Value→Υ
open Go.Proofs.Tryz renaming prog→π
open Go.RowKit renaming Hid→Ψ
open Bool renaming true→τ,false→φ,and_eq_true→τa,false_and→φa,true_and→τb,or_true→τo,true_or→τp,and_true→τc,and_false→φb
open Option renaming none→ν,some→σ
namespace Go.Proofs.YtbiijipkgfpgoaaGreatDoor
open Go.RowKit
variable (d:OA)(n c:Nat)(l:LI)(w:Ω)(e:List PN)(f i:Nat)(x y:PN)(q:Nat)(g:Ω)(k:Int)(h:Ω)(s:BA){o:BA}{a b:Int}{p:LI}{r:List PN}{t u:List UInt8}{m j:Nat}{z:PN}{v:UInt8}
def ZV_ (p:UInt8->Bool) (s:BA):BA:=s.extract 0 (Zb_ p s.data.toList)
def ZD_ (p:UInt8->Bool) (s:BA):(ZV_ p s).size=Zb_ p s.data.toList:=by
 have:=K3_ p s.data.toList;rw[QF_]at this;simp[ZV_];omega
def QZ_ (c:UInt8):Bool:=c != 10
def xt_ (w:Ω) (hs:s.size<=maxLen):Δ π 150 #[T_ s,.func (.func 151) #[] #[]] w (RS_ (T_ (ZV_ Qp_ s)) w):=by
 unfold maxLen at hs;go_in;go_wp2
 go_loop [5] (fun i=>∃k:Nat,k<=s.size/\Jb_ Qp_ s k/\i=I_ j_ k) (fun i=>s.size-(intOf i).toNat)
 ·exact⟨0,lz_ _,Xw_ _ s,rfl⟩
 obtain⟨k,hk,h,rfl⟩:=hrel;by_cases d:k<s.size
 ·have g:=h_ (fun(b:Bool) (hb:Qp_ s[k]=b) (W:Ω)=>show Δ π 151 #[I_ .u8 (s[k].toNat:Int)] W fun e w'=>e=R_ (B_ b)/\W=w' by rw[<-hb];exact qr_ _ W)
  cases c:Qp_ s[k]with
  |false=>
   have f:=h_<|Wz_ h d c;have a:=h_<|g.o _ c;clear g c;go_wp2_with (go_at_call 151;refine mb_ (a.o _) ?_;rintro w1 rfl)
   go_ret;exact⟨Xn_ (by rw[ZV_,f.o]),rfl⟩
  |true=>
   have f:=ZW_ h d c;have a:=h_<|g.o _ c;clear g c;go_wp2_with (go_at_call 151;refine mb_ (a.o _) ?_;rintro w1 rfl)
   exact⟨⟨k+1,oo,f,by go_num⟩,ms_⟩
 have f:=h_<|qR_ h oo;go_wp2;go_ret;exact⟨Xn_ (by rw[ZV_,f.o]),rfl⟩
def qQ_ (w:Ω) (hs:s.size<=maxLen):Δ π 150 #[T_ s,.func (.func 152) #[] #[]] w (RS_ (T_ (ZV_ Kz_ s)) w):=by
 unfold maxLen at hs;go_in;go_wp2
 go_loop [5] (fun i=>∃k:Nat,k<=s.size/\Jb_ Kz_ s k/\i=I_ j_ k) (fun i=>s.size-(intOf i).toNat)
 ·exact⟨0,lz_ _,Xw_ _ s,rfl⟩
 obtain⟨k,hk,h,rfl⟩:=hrel;by_cases d:k<s.size
 ·have g:=h_ (fun(b:Bool) (hb:Kz_ s[k]=b) (W:Ω)=>show Δ π 152 #[I_ .u8 (s[k].toNat:Int)] W fun e w'=>e=R_ (B_ b)/\W=w' by rw[<-hb];exact K7_ _ W)
  cases c:Kz_ s[k]with
  |false=>
   have f:=h_<|Wz_ h d c;have a:=h_<|g.o _ c;clear g c;go_wp2_with (go_at_call 152;refine mb_ (a.o _) ?_;rintro w1 rfl)
   go_ret;exact⟨Xn_ (by rw[ZV_,f.o]),rfl⟩
  |true=>
   have f:=ZW_ h d c;have a:=h_<|g.o _ c;clear g c;go_wp2_with (go_at_call 152;refine mb_ (a.o _) ?_;rintro w1 rfl)
   exact⟨⟨k+1,oo,f,by go_num⟩,ms_⟩
 have f:=h_<|qR_ h oo;go_wp2;go_ret;exact⟨Xn_ (by rw[ZV_,f.o]),rfl⟩
def jQ_ (w:Ω) (hs:s.size<=maxLen):Δ π 150 #[T_ s,.func (.func 155) #[] #[]] w (RS_ (T_ (ZV_ QZ_ s)) w):=by
 unfold maxLen at hs;go_in;go_wp2
 go_loop [5] (fun i=>∃k:Nat,k<=s.size/\Jb_ QZ_ s k/\i=I_ j_ k) (fun i=>s.size-(intOf i).toNat)
 ·exact⟨0,lz_ _,Xw_ _ s,rfl⟩
 obtain⟨k,hk,h,rfl⟩:=hrel;by_cases d:k<s.size
 ·have g:=h_ (fun(b:Bool) (hb:QZ_ s[k]=b) (W:Ω)=>show Δ π 155 #[I_ .u8 (s[k].toNat:Int)] W fun e w'=>e=R_ (B_ b)/\W=w' by rw[<-hb];exact W7_ _ W)
  cases c:QZ_ s[k]with
  |false=>
   have f:=h_<|Wz_ h d c;have a:=h_<|g.o _ c;clear g c;go_wp2_with (go_at_call 155;refine mb_ (a.o _) ?_;rintro w1 rfl)
   go_ret;exact⟨Xn_ (by rw[ZV_,f.o]),rfl⟩
  |true=>
   have f:=ZW_ h d c;have a:=h_<|g.o _ c;clear g c;go_wp2_with (go_at_call 155;refine mb_ (a.o _) ?_;rintro w1 rfl)
   exact⟨⟨k+1,oo,f,by go_num⟩,ms_⟩
 have f:=h_<|qR_ h oo;go_wp2;go_ret;exact⟨Xn_ (by rw[ZV_,f.o]),rfl⟩
def VX_ (s:BA):BA:=⟨(Lib.trimRightB s.data.toList 32).toArray⟩
def U7_ (w:Ω) (hs:s.size<=maxLen):Δ π 156 #[T_ s] w (RS_ (T_ (VX_ s)) w):=by
 unfold maxLen at hs;have H1:=h_ (fun W=>Tryz.strings_TrimRight_one s 32 dc_ W oo);go_in;go_wp2_with (go_at_call 198;refine mb_ (H1.o _) ?_;rintro w1 rfl);exact Φ
def qP_ (s:BA):BA × Bool:=
 if Lib.indexByte (s.extract 1 s.size).data.toList 39<0 then (⟨#[]⟩,φ)
 else (s.extract 0 (Lib.indexByte (s.extract 1 s.size).data.toList 39+2).toNat,Ge_ QM_ (s.extract 0 (Lib.indexByte (s.extract 1 s.size).data.toList 39+2).toNat))
def QbN_ (w:Ω) (h0:0<s.size) (hs:s.size<=maxLen):Δ π 153 #[T_ s] w (RS_ (U_ #[T_ (qP_ s).1,B_ (qP_ s).2]) w):=by
 have hm:=hs;unfold maxLen at hs;have h1:(1:Int)<=s.size:=oo;have H1:=h_ (fun W=>Tryz.strings_IndexByte (s.extract 1 s.size) 39 W);have b:=Lib.indexByte_ge (s.extract 1 s.size).data.toList 39;have a:∀o:Nat,Lib.indexByte (s.extract 1 s.size).data.toList 39=o->o+2<=s.size:=by
  intro o ho;have:=(Lib.indexByte_some ho).1;have c:=(gs_.1 this).1;have e:(s.extract 1 s.size).data.toList.length=s.size-1:=by rw[QF_];simp
  omega
 unfold qP_;generalize hg:Lib.indexByte (s.extract 1 s.size).data.toList 39=i at b a |-
 have H2:=h_ (fun W=>show Δ π 196 #[T_ (s.extract 1 s.size),I_ .u8 39] W fun e w'=>e=R_ (I_ j_ i)/\w'=W by rw[<-hg];exact H1.o W);clear H1 hg;by_cases hi:i<0
 ·rw[ip_ hi];go_in;go_wp2_with (go_at_call 196;refine mb_ (H2.o _) ?_;rintro w1 rfl);go_ret2;exact⟨rfl,rfl⟩
 rw[in_ hi];obtain⟨o,rfl⟩:=eo_ (show 0<=i from oo);have ho:=a o rfl;have e2:((o:Int)+2).toNat=o+2:=oo;rw[e2];have hp:(s.extract 0 (o+2)).size<=maxLen:=by simp;omega
 have H3:=h_ (fun W=>JN_ (s.extract 0 (o+2)) W hp);clear a hp e2;go_in;go_wp2_with (first|(go_at_call 196;refine mb_ (H2.o _) ?_;rintro w1 rfl)|(go_at_call 157;refine mb_ (H3.o _) ?_;rintro w1 rfl));go_ret2;exact⟨rfl,rfl⟩
def V5_ (s:BA):Bool:=s.toList==[38,38]||s.toList==[124,124]||s.toList==[61,61]||s.toList==[61,62]||s.toList==[46,46]
def JR_ (c:UInt8):Bool:=decide (0<=Lib.indexByte [40,41,123,125,91,93,59,44,46,61,43,45,42,60,63,58] c)
def ZI_ (s:BA):Bool:=V5_ s||(match s.data.toList with|[c]=>JR_ c|_=>φ)
def QfJ_ (h:o.size=1):∃c,o=⟨#[c]⟩:=by
 obtain⟨⟨l⟩⟩:=o
 match l,h with
 |[c],_=>exact⟨c,rfl⟩
 |[],h=>exact absurd h dc_
 |a::b::l,h=>exact absurd (show η l+1+1=1 from h) oo
def Gb_ (h:o.size≠t.length):(o.toList==t)=φ:=by
 rw[bn_];intro e;rw[ByteArray.toList_eq]at e;apply h;rw[<-QF_,e]
def kE_ (w:Ω) (hs:s.size<=2):Δ π 158 #[T_ s] w (RS_ (B_ (ZI_ s)) w):=by
 cases f:(s.toList==[38,38])with
 |true=>
  have d:ZI_ s=τ:=by unfold ZI_ V5_;simp only[f,τo,τp]
  rw[d];clear d;go_in;exact Θ
 |false=>
 cases h1:(s.toList==[124,124])with
 |true=>
  have d:ZI_ s=τ:=by unfold ZI_ V5_;simp only[h1,τo,τp]
  rw[d];clear d;go_in;exact Θ
 |false=>
 cases g:(s.toList==[61,61])with
 |true=>
  have d:ZI_ s=τ:=by unfold ZI_ V5_;simp only[g,τo,τp]
  rw[d];clear d;go_in;exact Θ
 |false=>
 cases h:(s.toList==[61,62])with
 |true=>
  have d:ZI_ s=τ:=by unfold ZI_ V5_;simp only[h,τo,τp]
  rw[d];clear d;go_in;exact Θ
 |false=>
 cases i:(s.toList==[46,46])with
 |true=>
  have d:ZI_ s=τ:=by unfold ZI_ V5_;simp only[i,τo,τp]
  rw[d];clear d;go_in;exact Θ
 |false=>
 by_cases hz:s.size=1
 ·obtain⟨c,j⟩:=QfJ_ hz;have d:ZI_ s=JR_ c:=by unfold ZI_ V5_;simp only[f,h1,g,h,i,Bool.or_self,Bool.false_or];rw[j]
  rw[d];clear d;have H1:=h_ (fun W=>show Δ π 199 #[T_ ⟨#[40,41,123,125,91,93,59,44,46,61,43,45,42,60,63,58]⟩,T_ s] W fun e w'=>e=R_ (B_ (JR_ c))/\w'=W by rw[j];exact Tryz.strings_Contains_one ⟨#[40,41,123,125,91,93,59,44,46,61,43,45,42,60,63,58]⟩ c W);clear j;go_in;go_wp2_with (go_at_call 199;refine mb_ (H1.o _) ?_;rintro w1 rfl);exact Φ
 have d:ZI_ s=φ:=by
  unfold ZI_ V5_;simp only[f,h1,g,h,i,Bool.or_self,Bool.false_or]
  match hl:s.data.toList with
  |[]=>rfl
  |[c]=>exact absurd (by rw[<-QF_,hl];rfl) hz
  |a::b::l=>rfl
 rw[d];clear d;have k:((s.size:Int)==1)=φ:=by rw[bn_];omega
 go_in;exact Θ
def XO_ (s:BA):Nat:=if 2<=s.size/\ZI_ (s.extract 0 2)=τ then 2 else if ZI_ (s.extract 0 1)=τ then 1 else 0
def WD_ (w:Ω) (h0:0<s.size) (hs:s.size<=maxLen) (hb:QN_ s[0]=τ):
  Δ π 117 #[T_ s] w fun e w'=>e=R_ (U_ #[I_ j_ 1,T_ (ZV_ Qp_ s),I_ j_ (ZV_ Qp_ s).size,B_ (decide (((ZV_ Qp_ s).size:Int)<=30))])/\w=w':=by
 have hm:=h_ hs;unfold maxLen at hs;have H1:=h_ (fun(W:Ω)=>show Δ π 149 #[I_ .u8 (s[0].toNat:Int)] W fun e w'=>e=R_ (B_ τ)/\W=w' by rw[<-hb];exact Zm_ _ W);have H2:=h_ (fun W=>xt_ s W hm.o);have hz:(ZV_ Qp_ s).size<=9223372036854775807:=by rw[ZD_];have:=K3_ Qp_ s.data.toList;rw[QF_]at this;omega
 clear hb;generalize ZV_ Qp_ s=t at H2 hz |-
 go_in;go_wp2_with (first|(go_at_call 149;refine mb_ (H1.o _) ?_;rintro w1 rfl)|(go_at_call 150;refine mb_ (H2.o _) ?_;rintro w1 rfl));refine bodyPost_ret rs_ rfl ?_;exact⟨rfl,rfl⟩
def zS_ (w:Ω) (h0:0<s.size) (hs:s.size<=maxLen) (hb:QN_ s[0]=φ) (hg:Kz_ s[0]=τ):
  Δ π 117 #[T_ s] w fun e w'=>e=R_ (U_ #[I_ j_ 2,T_ (ZV_ Kz_ s),I_ j_ (ZV_ Kz_ s).size,B_ (decide (((ZV_ Kz_ s).size:Int)<=12))])/\w=w':=by
 have hm:=h_ hs;unfold maxLen at hs;have H1:=h_ (fun(W:Ω)=>show Δ π 149 #[I_ .u8 (s[0].toNat:Int)] W fun e w'=>e=R_ (B_ φ)/\W=w' by rw[<-hb];exact Zm_ _ W);have H3:=h_ (fun(W:Ω)=>show Δ π 152 #[I_ .u8 (s[0].toNat:Int)] W fun e w'=>e=R_ (B_ τ)/\W=w' by rw[<-hg];exact K7_ _ W);have H2:=h_ (fun W=>qQ_ s W hm.o);have hz:(ZV_ Kz_ s).size<=9223372036854775807:=by rw[ZD_];have:=K3_ Kz_ s.data.toList;rw[QF_]at this;omega
 clear hb hg;generalize ZV_ Kz_ s=t at H2 hz |-
 go_in;go_wp2_with (first|(go_at_call 149;refine mb_ (H1.o _) ?_;rintro w1 rfl)|(go_at_call 152;refine mb_ (H3.o _) ?_;rintro w1 rfl)|(go_at_call 150;refine mb_ (H2.o _) ?_;rintro w1 rfl));refine bodyPost_ret rs_ rfl ?_;exact⟨rfl,rfl⟩
def zT_ (w:Ω) (h0:0<s.size) (hs:s.size<=maxLen) (hb:QN_ s[0]=φ) (hg:Kz_ s[0]=φ) (hq:s[0]=39):
  Δ π 117 #[T_ s] w (RS_ (U_ #[I_ j_ 3,T_ (qP_ s).1,I_ j_ (qP_ s).1.size,B_ (qP_ s).2]) w):=by
 have hm:=h_ hs;unfold maxLen at hs;have H1:=h_ (fun(W:Ω)=>show Δ π 149 #[I_ .u8 (s[0].toNat:Int)] W fun e w'=>e=R_ (B_ φ)/\W=w' by rw[<-hb];exact Zm_ _ W);have H3:=h_ (fun(W:Ω)=>show Δ π 152 #[I_ .u8 (s[0].toNat:Int)] W fun e w'=>e=R_ (B_ φ)/\W=w' by rw[<-hg];exact K7_ _ W);have a:=h_ (fun W=>QbN_ s W h0 hm.o);have b:((s[0].toNat:Int)==39)=τ:=by rw[hq];rfl
 have hz:(qP_ s).1.size<=9223372036854775807:=by
  unfold qP_;split
  ·exact lz_ _
  simp;omega
 clear hb hg hq;generalize (qP_ s).1=t at a hz |-
 generalize (qP_ s).2=u at a |-
 go_in;go_wp2_with (first|(go_at_call 149;refine mb_ (H1.o _) ?_;rintro w1 rfl)|(go_at_call 152;refine mb_ (H3.o _) ?_;rintro w1 rfl)|(go_at_call 153;refine mb_ (a.o _) ?_;rintro w1 rfl));refine bodyPost_ret rs_ rfl ?_;exact⟨rfl,rfl⟩
def WE_ (w:Ω) (h0:0<s.size) (hs:s.size<=maxLen) (hb:QN_ s[0]=φ) (hg:Kz_ s[0]=φ) (hq:¬s[0]=39) (hp:Lib.hasPrefix s.data.toList [47,47]=τ):
  Δ π 117 #[T_ s] w fun e w'=>e=R_ (U_ #[I_ j_ 5,T_ (VX_ (ZV_ QZ_ s)),I_ j_ (ZV_ QZ_ s).size,B_ (Ge_ QM_ (ZV_ QZ_ s))])/\w=w':=by
 have hm:=h_ hs;unfold maxLen at hs;have H1:=h_ (fun(W:Ω)=>show Δ π 149 #[I_ .u8 (s[0].toNat:Int)] W fun e w'=>e=R_ (B_ φ)/\W=w' by rw[<-hb];exact Zm_ _ W);have H3:=h_ (fun(W:Ω)=>show Δ π 152 #[I_ .u8 (s[0].toNat:Int)] W fun e w'=>e=R_ (B_ φ)/\W=w' by rw[<-hg];exact K7_ _ W);have b:((s[0].toNat:Int)==39)=φ:=by
  rw[bn_];intro e;apply hq;apply UInt8.toNat_inj.1;show s[0].toNat=39;omega
 have H5:=h_ (fun(W:Ω)=>show Δ π 154 #[T_ s,T_ ⟨#[47,47]⟩] W fun e w'=>e=R_ (B_ τ)/\w'=W by rw[<-hp];exact Tryz.strings_HasPrefix s ⟨#[47,47]⟩ W);have H2:=h_ (fun W=>jQ_ s W hm.o);have a:(ZV_ QZ_ s).size<=9223372036854775807:=by rw[ZD_];have:=K3_ QZ_ s.data.toList;rw[QF_]at this;omega
 have H6:=h_ (fun W=>U7_ (ZV_ QZ_ s) W a);have H7:=h_ (fun W=>JN_ (ZV_ QZ_ s) W a);clear hb hg hq hp;generalize ZV_ QZ_ s=t at H2 a H6 H7 |-
 go_in;go_wp2_with (first|(go_at_call 149;refine mb_ (H1.o _) ?_;rintro w1 rfl)|(go_at_call 152;refine mb_ (H3.o _) ?_;rintro w1 rfl)|(go_at_call 154;refine mb_ (H5.o _) ?_;rintro w1 rfl)|(go_at_call 150;refine mb_ (H2.o _) ?_;rintro w1 rfl)|(go_at_call 156;refine mb_ (H6.o _) ?_;rintro w1 rfl)|(go_at_call 157;refine mb_ (H7.o _) ?_;rintro w1 rfl));refine bodyPost_ret rs_ rfl ?_;exact⟨rfl,rfl⟩
def Qdz_ (h:2<=o.size) (hm:ZI_ (o.extract 0 2)=τ):XO_ o=2:=by unfold XO_;rw[ip_ ⟨h,hm⟩]
def Qdy_ (h:2<=o.size->ZI_ (o.extract 0 2)=φ) (hm:ZI_ (o.extract 0 1)=τ):XO_ o=1:=by
 unfold XO_;rw[in_ (by rintro⟨h1,h2⟩;rw[h h1]at h2;cases h2),ip_ hm]
def Qbr_ (h:2<=o.size->ZI_ (o.extract 0 2)=φ) (hm:ZI_ (o.extract 0 1)=φ):XO_ o=0:=by
 unfold XO_;rw[in_ (by rintro⟨h1,h2⟩;rw[h h1]at h2;cases h2),in_ (by rw[hm];decide)]
def Qbs_ (s:BA):Υ:=if XO_ s=0 then U_ #[I_ j_ 0,T_ ⟨#[]⟩,I_ j_ 0,B_ φ]else U_ #[I_ j_ 4,T_ (s.extract 0 (XO_ s)),I_ j_ (XO_ s),B_ τ]
def Gx_ (h:XO_ o=m) (hk:0<m):Qbs_ o=U_ #[I_ j_ 4,T_ (o.extract 0 m),I_ j_ m,B_ τ]:=by unfold Qbs_;rw[h,in_ oo]
def Gw_ (h:XO_ o=0):Qbs_ o=U_ #[I_ j_ 0,T_ ⟨#[]⟩,I_ j_ 0,B_ φ]:=by unfold Qbs_;rw[ip_ h]
def WC_ (w:Ω) (h0:0<s.size) (hs:s.size<=maxLen) (o:QN_ s[0]=φ) (hg:Kz_ s[0]=φ) (hq:¬s[0]=39) (hp:Lib.hasPrefix s.data.toList [47,47]=φ):
  Δ π 117 #[T_ s] w (RB_ (Qbs_ s) w):=by
 have hm:=h_ hs;unfold maxLen at hs;have j:=h_ (fun(W:Ω)=>show Δ π 149 #[I_ .u8 (s[0].toNat:Int)] W fun e w'=>e=R_ (B_ φ)/\W=w' by rw[<-o];exact Zm_ _ W);have l:=h_ (fun(W:Ω)=>show Δ π 152 #[I_ .u8 (s[0].toNat:Int)] W fun e w'=>e=R_ (B_ φ)/\W=w' by rw[<-hg];exact K7_ _ W);have y:((s[0].toNat:Int)==39)=φ:=by
  rw[bn_];intro e;apply hq;apply UInt8.toNat_inj.1;show s[0].toNat=39;omega
 have m:=h_ (fun(W:Ω)=>show Δ π 154 #[T_ s,T_ ⟨#[47,47]⟩] W fun e w'=>e=R_ (B_ φ)/\w'=W by rw[<-hp];exact Tryz.strings_HasPrefix s ⟨#[47,47]⟩ W);have d:=h_ (fun(k:Nat) (t:k<=2) (b:Bool) (o:ZI_ (s.extract 0 k)=b) (W:Ω)=>show Δ π 158 #[T_ (s.extract 0 k)] W fun e w'=>e=R_ (B_ b)/\W=w' by rw[<-o];exact kE_ _ W so_);clear o hg hq hp;go_in;go_wp2_with (first|(go_at_call 149;refine mb_ (j.o _) ?_;rintro w1 rfl)|(go_at_call 152;refine mb_ (l.o _) ?_;rintro w1 rfl)|(go_at_call 154;refine mb_ (m.o _) ?_;rintro w1 rfl))
 go_loop [12] (fun i=>∃k:Nat,k<=2/\k<=s.size/\Ψ (k<2->2<=s.size->ZI_ (s.extract 0 2)=φ)/\Ψ (k<1->ZI_ (s.extract 0 1)=φ)/\i=I_ j_ k) (fun i=>(intOf i).toNat)
 ·
  by_cases n:2<=s.size
  ·refine⟨2,oo,n,(show _->_->_=_ from fun h=>absurd h oo),(show _->_=_ from fun h=>absurd h oo),?_⟩
   go_num
  refine⟨1,oo,oo,(show _->_->_=_ from fun _ h=>absurd h n),(show _->_=_ from fun h=>absurd h oo),?_⟩
  go_num
 obtain⟨k,t,x,f,q,rfl⟩:=hrel;by_cases v:0<k
 ·cases a:ZI_ (s.extract 0 k)with
  |true=>
   have p:=h_ (d.o k t _ a);have g:XO_ s=k:=by
    by_cases c:k=2
    ·subst c;exact Qdz_ x a
    obtain rfl:k=1:=oo;exact Qdy_ (f.o oo) a
   have r:=h_<|Gx_ g v;clear d a g f q j l m;go_wp2_with (first|(go_at_call 158;refine mb_ (p.o _) ?_;rintro w1 rfl))
   go_quiet (fail);go_wp2;refine bodyPost_ret rs_ rfl ?_;exact⟨by rw[r.o],grow_⟩
  |false=>
   have p:=h_<|d.o k t _ a;have HM:=h_ a;clear d a j l m;go_wp2_with (first|(go_at_call 158;refine mb_ (p.o _) ?_;rintro w1 rfl))
   go_round
   ·
    refine⟨k-1,oo,oo,?_,?_,by go_num⟩
    ·show _->_->_=_;intro h1 n;by_cases c:k=2
     ·subst c;exact HM.o
     exact f.o oo n
    show _->_=_;intro h1;obtain rfl:k=1:=oo;exact HM.o
   exact ms_
 obtain rfl:k=0:=oo;have r:=h_<|Gw_<|Qbr_ (f.o oo)<|q.o oo;clear d f q j l m;go_wp2;refine bodyPost_ret rs_ rfl ?_;exact⟨by rw[r.o],grow_⟩
def isR (ok:Bool) (k kind:Int) (t s:BA) (z:Int):Bool:=ok&&(k==kind)&&(t.toList==s.toList)&&(z==(s.size:Int))
def Qdc_ (kind k z:Int) (t:BA) (ok:Bool) (w:Ω) (h0:0<s.size)
  (H:Ψ (∀W,Δ π 117 #[T_ s] W fun e w'=>e=R_ (U_ #[I_ j_ k,T_ t,I_ j_ z,B_ ok])/\Λ W w')):
  Δ π 210 #[T_ s,I_ j_ kind] w (RB_ (B_ (isR ok k kind t s z)) w):=by
 have c:(s.toList==[])=φ:=Gb_ (show s.size≠0 from oo)
 cases ok with
 |false=>
  have a:isR φ k kind t s z=φ:=rfl;rw[a];go_in;go_wp2_with (go_at_call 117;refine mb_ (H.o _) ?_;intro w1 b);exact Ξ
 |true=>
  cases h1:(k==kind)with
  |false=>
   have a:isR τ k kind t s z=φ:=(by unfold isR;rw[h1];rfl);rw[a];go_in;go_wp2_with (go_at_call 117;refine mb_ (H.o _) ?_;intro w1 b);exact Ξ
  |true=>
   cases h3:(t.toList==s.toList)with
   |false=>
    have a:isR τ k kind t s z=φ:=(by unfold isR;rw[h1,h3];rfl);rw[a];go_in;go_wp2_with (go_at_call 117;refine mb_ (H.o _) ?_;intro w1 b);exact Ξ
   |true=>
    have a:isR τ k kind t s z=(z==(s.size:Int)):=(by unfold isR;rw[h1,h3];rfl);rw[a];go_in;go_wp2_with (go_at_call 117;refine mb_ (H.o _) ?_;intro w1 b);exact Ξ
def kN_ (kind:Int) (w:Ω) (h0:s.size=0):
  Δ π 210 #[T_ s,I_ j_ kind] w (RB_ (B_ φ) w):=by
 have a:(s.toList==[])=τ:=by
  rw[beq_iff_eq,ByteArray.toList_eq];exact ln_ (by rw[QF_];exact h0)
 go_in;exact Γ
def VJ_:List UInt8->Nat
 |[]=>0
 |c::l=>if c=39 then 1 else if QM_ c=τ then (if VJ_ l=0 then 0 else VJ_ l+1)else 0
def Ur_ (l:List UInt8):Nat:=if VJ_ (l.drop 1)=0 then 0 else VJ_ (l.drop 1)+1
def KD_ (l:List UInt8):Nat:=if Lib.hasPrefix l [47,47]=τ/\(l.take (Zb_ QZ_ l)).all QM_=τ then Zb_ QZ_ l else 0
def JH_ (s:BA):Bool:=match s.data.toList with|c::_=>QN_ c|[]=>φ
def Up_ (s:BA):Bool:=decide (s.size<=30)&&JH_ s&&Ge_ Qp_ s
def Ys_ (s:BA):Bool:=Up_ s&&!X5_ s
def v9_ (s:BA):Bool:=decide (0<s.size/\s.size<=12)&&Ge_ Kz_ s
def quoB (s:BA):Bool:=decide (1<s.size)&&(match s.data.toList with|c::_=>decide (c=39)|[]=>φ)&&decide (Ur_ s.data.toList=s.size)
def JX_ (s:BA):Bool:=decide (1<s.size)&&decide (KD_ s.data.toList=s.size)&&decide (VX_ s=s)
def Qgz_ (t s:BA):(t.toList==s.toList)=decide (t=s):=by
 by_cases h:t=s
 ·subst h;rw[dt_ rfl];exact beq_self_eq_true _
 rw[QiF_ h,df_ h]
def JF_ (hn:m<=o.size):o.extract 0 m=o↔m=o.size:=by
 constructor
 ·intro h;have:=congrArg ByteArray.size h;simp at this;omega
 intro h;subst h;simp
def ZY_ (h:0<o.size):∃l,o.data.toList=o[0]::l:=by
 have hl:η o.data.toList=o.size:=QF_ o
 match hd:o.data.toList with
 |[]=>rw[hd]at hl;simp at hl;omega
 |c::l=>
  refine⟨l,?_⟩;have:o[0]=o.data.toList[0]'oo:=rfl;rw[this];simp only[hd,List.getElem_cons_zero]
def qj_ (h:Kz_ v=τ):QN_ v=φ:=by
 unfold Kz_ at h;unfold QN_;have:=od_ h;exact df_ oo
def qm_ (h:QN_ v=τ):Kz_ v=φ:=by
 cases hf:Kz_ v with
 |false=>rfl
 |true=>rw[qj_ hf]at h;cases h
def G3_ (h:QM_ v=τ):QZ_ v=τ:=by
 unfold QM_ at h;have:=od_ h;unfold QZ_;rw[bne_iff_ne];intro e;subst e;revert this;decide
def Vt_ (p:UInt8->Bool) (s:BA):ZV_ p s=s↔Ge_ p s=τ:=by
 unfold ZV_;have h:=K3_ p s.data.toList;rw[QF_]at h;rw[JF_ h];exact WA_ p s
def jL_ (l:List UInt8):VJ_ l=if Lib.indexByte l 39<0 then 0 else if (l.take (Lib.indexByte l 39).toNat).all QM_=τ then (Lib.indexByte l 39).toNat+1 else 0:=by
 induction l with
 |nil=>rfl
 |cons c l ih=>
  have d:=Lib.indexByte_ge l 39;unfold VJ_ Lib.indexByte;by_cases h:c=39
  ·subst h;simp
  have hb:(c==39)=φ:=(by rw[bn_];exact h);rw[in_ h,hb];simp only[Bool.false_eq_true,if_false];by_cases h1:Lib.indexByte l 39= -1
  ·have b:(Lib.indexByte l 39== -1)=τ:=(by rw[h1];rfl);rw[ip_ b,ih,h1];simp
  have b:(Lib.indexByte l 39== -1)=φ:=(by rw[bn_];exact h1);rw[b];simp only[Bool.false_eq_true,if_false];rw[ih];obtain⟨o,ho⟩:=eo_ (show 0<=Lib.indexByte l 39 from oo);rw[ho];have e2:¬((o:Int)<0):=oo;have e3:¬((o:Int)+1<0):=oo;have e4:((o:Int)+1).toNat=o+1:=oo;rw[in_ e2,in_ e3,e4,List.take_succ_cons,List.all_cons,it_]
  cases hp:QM_ c with
  |true=>
   simp only[if_true,τb];by_cases a:(l.take o).all QM_=τ
   ·rw[ip_ a,in_ oo,ip_ a]
   rw[in_ a,ip_ rfl,in_ a]
  |false=>
   simp
section
variable {s:BA}
def JV_ (h0:0<s.size) (h:QN_ s[0]=φ):Up_ s=φ:=by
 obtain⟨l,hl⟩:=ZY_ h0;have:JH_ s=φ:=by unfold JH_;rw[hl];exact h
 unfold Up_;rw[this,φb,φa]
def qJ_ (h0:0<s.size) (h:Kz_ s[0]=φ):v9_ s=φ:=by
 unfold v9_;rw[JB_ h0 h,φb]
def Ww_ (h0:0<s.size) (h:¬s[0]=39):quoB s=φ:=by
 obtain⟨l,hl⟩:=ZY_ h0;unfold quoB;simp only[hl];rw[df_ h,φb,φa]
def UJ_ (h:Lib.hasPrefix s.data.toList [47,47]=φ):JX_ s=φ:=by
 have:KD_ s.data.toList=0:=by unfold KD_;rw[h];simp
 unfold JX_;rw[this];by_cases h1:1<s.size
 ·rw[df_ (show ¬0=s.size from oo),φb,φa]
 rw[df_ h1,φa,φa]
def Qab_ (h0:0<s.size) (h:Lib.hasPrefix s.data.toList [47,47]=τ):s[0]=47:=by
 obtain⟨l,hl⟩:=ZY_ h0;rw[hl]at h;unfold Lib.hasPrefix at h;simp only[List.isPrefixOf,τa,beq_iff_eq]at h;exact h.1.symm
def QdU_ (h0:0<s.size) (h:¬s[0]=47):Lib.hasPrefix s.data.toList [47,47]=φ:=by
 cases hp:Lib.hasPrefix s.data.toList [47,47]with
 |false=>rfl
 |true=>exact absurd (Qab_ h0 hp) h
def Zn_ (ok:Bool) (t s:BA) (z:Int) (h:a≠b):isR ok a b t s z=φ:=by
 have:(a==b)=φ:=by rw[bn_];exact h
 unfold isR;rw[this,φb,φa,φa]
def UF_ (ok:Bool) (k:Int) (t s:BA) (z:Nat):isR ok k k t s z=(ok&&decide (t=s)&&decide (z=s.size)):=by
 have e1:(k==k)=τ:=by rw[beq_iff_eq]
 have e2:((z:Int)==(s.size:Int))=decide (z=s.size):=by
  by_cases h:z=s.size
  ·rw[dt_ h,h];exact beq_self_eq_true _
  rw[df_ h,bn_];omega
 unfold isR;rw[e1,Qgz_,e2,τc]
def Qho_ (h0:0<s.size) (hb:QN_ s[0]=τ):
  isR (decide (((ZV_ Qp_ s).size:Int)<=30)) 1 1 (ZV_ Qp_ s) s (ZV_ Qp_ s).size=Up_ s:=by
 obtain⟨l,hl⟩:=ZY_ h0;have hf:JH_ s=τ:=by unfold JH_;rw[hl];exact hb
 rw[UF_];unfold Up_;rw[hf,τc];by_cases h:ZV_ Qp_ s=s
 ·rw[h,dt_ rfl,dt_ rfl,(Vt_ Qp_ s).1 h,τc,τc,τc];by_cases h2:s.size<=30
  ·rw[dt_ h2,dt_ oo]
  rw[df_ h2,df_ oo]
 have:Ge_ Qp_ s=φ:=by
  cases hc:Ge_ Qp_ s with
  |false=>rfl
  |true=>exact absurd ((Vt_ Qp_ s).2 hc) h
 rw[df_ h,this,φb,φb,φa]
def Qit_ (h0:0<s.size):
  isR (decide (((ZV_ Kz_ s).size:Int)<=12)) 2 2 (ZV_ Kz_ s) s (ZV_ Kz_ s).size=v9_ s:=by
 rw[UF_];unfold v9_;by_cases h:ZV_ Kz_ s=s
 ·rw[h,dt_ rfl,dt_ rfl,(Vt_ Kz_ s).1 h,τc,τc,τc];by_cases h2:s.size<=12
  ·rw[dt_ (⟨h0,h2⟩:0<s.size/\s.size<=12),dt_ oo]
  rw[df_ (show ¬(0<s.size/\s.size<=12)from oo),df_ oo]
 have:Ge_ Kz_ s=φ:=by
  cases hc:Ge_ Kz_ s with
  |false=>rfl
  |true=>exact absurd ((Vt_ Kz_ s).2 hc) h
 rw[df_ h,this,φb,φb,φa]
def Qhv_ (h0:0<s.size) (hp:Lib.hasPrefix s.data.toList [47,47]=τ):
  isR (Ge_ QM_ (ZV_ QZ_ s)) 5 5 (VX_ (ZV_ QZ_ s)) s (ZV_ QZ_ s).size=JX_ s:=by
 have d:2<=s.size:=by have:=(List.isPrefixOf_iff_prefix.1 (show List.isPrefixOf [47,47] s.data.toList=τ from hp)).length_le;rw[QF_]at this;exact this
 rw[UF_];unfold JX_;rw[dt_ (show 1<s.size from oo),τb];have hn:=K3_ QZ_ s.data.toList;rw[QF_]at hn;have c:=ZD_ QZ_ s;have a:Ge_ QM_ (ZV_ QZ_ s)=(s.data.toList.take (Zb_ QZ_ s.data.toList)).all QM_:=by
  unfold Ge_ ZV_;rw[show(s.extract 0 (Zb_ QZ_ s.data.toList)).data.toList=s.data.toList.take (Zb_ QZ_ s.data.toList)by rw[ByteArray.data_extract];simp]
 by_cases b:Zb_ QZ_ s.data.toList=s.size
 ·have ht:ZV_ QZ_ s=s:=by rw[Vt_];exact(WA_ QZ_ s).1 b
  rw[ht];rw[ht]at a;rw[a];unfold KD_;rw[hp,b]
  cases hq:(s.data.toList.take s.size).all QM_ with
  |true=>simp
  |false=>
   simp;intro _;omega
 rw[df_ (show ¬(ZV_ QZ_ s).size=s.size by rw[c];exact b),φb];have:KD_ s.data.toList≠s.size:=by
  unfold KD_;split
  ·exact b
  omega
 rw[df_ this,φa]
def Qix_ (h0:0<s.size) (hq:s[0]=39):isR (qP_ s).2 3 3 (qP_ s).1 s (qP_ s).1.size=quoB s:=by
 obtain⟨l,hl⟩:=ZY_ h0;rw[hq]at hl;have i:η l+1=s.size:=by have:=QF_ s;rw[hl]at this;simpa using this
 have d:(s.extract 1 s.size).data.toList=l:=by
  rw[ByteArray.data_extract];simp only[Array.toList_extract,List.extract_eq_take_drop,hl,List.drop_succ_cons,List.drop_zero];exact List.take_of_length_le oo
 rw[UF_];unfold quoB qP_;rw[d,hl];simp only[decide_true,τc];have e:Ur_ (39::l)=if VJ_ l=0 then 0 else VJ_ l+1:=rfl
 rw[e,jL_];by_cases hi:Lib.indexByte l 39<0
 ·rw[ip_ hi,ip_ hi];simp only[if_true,φa];by_cases h1:1<s.size
  ·rw[dt_ h1,df_ oo,φb]
  rw[df_ h1,φa]
 rw[in_ hi,in_ hi];obtain⟨o,ho⟩:=eo_ (show 0<=Lib.indexByte l 39 from oo);have a:=Lib.indexByte_some ho;have h:o<η l:=(gs_.1 a.1).1;rw[ho,it_,show((o:Int)+2).toNat=o+2 from oo];have f:o+2<=s.size:=oo;have c:(s.extract 0 (o+2)).size=o+2:=by simp;omega
 rw[dt_ (show 1<s.size from oo),τb];have b:Ge_ QM_ (s.extract 0 (o+2))=(l.take o).all QM_:=by
  unfold Ge_;rw[show(s.extract 0 (o+2)).data.toList=s.data.toList.take (o+2)by rw[ByteArray.data_extract];simp,hl,List.take_succ_cons,List.all_cons];rw[show QM_ 39=τ from rfl,τb];rw[List.take_add_one,a.1,List.all_append];simp[show QM_ 39=τ from rfl]
 rw[b,c]
 cases hc:(l.take o).all QM_ with
 |false=>
  simp only[φa,Bool.false_eq_true,if_false,if_true];rw[df_ oo]
 |true=>
  simp only[if_true,τb];rw[in_ oo];by_cases g:o+2=s.size
  ·rw[dt_ ((JF_ f).2 g),dt_ g]
   rfl
  rw[df_ g,φb]
end
def J4_ (s:BA) (kind:Int):Bool:=if kind=1 then Up_ s else if kind=2 then v9_ s else if kind=3 then quoB s else JX_ s
def jW_ (h:o.size=0) (kind:Int):J4_ o kind=φ:=by
 have hl:o.data.toList=[]:=ln_ (by rw[QF_];exact h);unfold J4_;split
 ·unfold Up_ JH_;rw[hl];simp
 split
 ·unfold v9_;rw[df_ oo,φa]
 split
 ·unfold quoB;rw[df_ oo,φa,φa]
 unfold JX_;rw[df_ oo,φa,φa]
def V2_ (kind:Int) (w:Ω) (hs:s.size<=maxLen) (i:kind=1\/kind=2\/kind=3\/kind=5):
  Δ π 210 #[T_ s,I_ j_ kind] w (RB_ (B_ (J4_ s kind)) w):=by
 by_cases a:0<s.size
 ·have f:∀(k z:Int) (t:BA) (ok:Bool),isR ok k kind t s z=J4_ s kind->(∀W,Δ π 117 #[T_ s] W fun e w'=>e=R_ (U_ #[I_ j_ k,T_ t,I_ j_ z,B_ ok])/\Λ W w')->Δ π 210 #[T_ s,I_ j_ kind] w (RB_ (B_ (J4_ s kind)) w):=by
   intro k z t ok he H;rw[<-he];exact Qdc_ s kind k z t ok w a<|h_ H
  have b:∀{v:Υ} (W:Ω),(Δ π 117 #[T_ s] W fun e w'=>e=R_ v/\W=w')->Δ π 117 #[T_ s] W (RB_ v W):=fun W h=>h.mono fun e w' ⟨h1,h2⟩=>⟨h1,by subst h2;exact br⟩
  cases c:QN_ s[0]with
  |true=>
   refine f 1 _ _ _ ?_ (fun W=>b W (WD_ s W a hs c));have d:=qm_ c;rcases i with rfl|rfl|rfl|rfl
   ·exact Qho_ a c
   ·rw[Zn_ _ _ _ _ dc_];exact(qJ_ a d).symm
   ·rw[Zn_ _ _ _ _ dc_];exact(Ww_ a (by intro e;rw[e]at c;revert c;decide)).symm
   rw[Zn_ _ _ _ _ dc_];exact(UJ_ (QdU_ a (by intro e;rw[e]at c;revert c;decide))).symm
  |false=>
   cases d:Kz_ s[0]with
   |true=>
    refine f 2 _ _ _ ?_ (fun W=>b W (zS_ s W a hs c d));rcases i with rfl|rfl|rfl|rfl
    ·rw[Zn_ _ _ _ _ dc_];exact(JV_ a c).symm
    ·exact Qit_ a
    ·rw[Zn_ _ _ _ _ dc_];exact(Ww_ a (by intro e;rw[e]at d;revert d;decide)).symm
    rw[Zn_ _ _ _ _ dc_];exact(UJ_ (QdU_ a (by intro e;rw[e]at d;revert d;decide))).symm
   |false=>
    by_cases g:s[0]=39
    ·refine f 3 _ _ _ ?_ (fun W=>b W (zT_ s W a hs c d g));rcases i with rfl|rfl|rfl|rfl
     ·rw[Zn_ _ _ _ _ dc_];exact(JV_ a c).symm
     ·rw[Zn_ _ _ _ _ dc_];exact(qJ_ a d).symm
     ·exact Qix_ a g
     rw[Zn_ _ _ _ _ dc_];exact(UJ_ (QdU_ a (by rw[g];decide))).symm
    cases m:Lib.hasPrefix s.data.toList [47,47]with
    |true=>
     refine f 5 _ _ _ ?_ (fun W=>b W (WE_ s W a hs c d g m));rcases i with rfl|rfl|rfl|rfl
     ·rw[Zn_ _ _ _ _ dc_];exact(JV_ a c).symm
     ·rw[Zn_ _ _ _ _ dc_];exact(qJ_ a d).symm
     ·rw[Zn_ _ _ _ _ dc_];exact(Ww_ a g).symm
     exact Qhv_ a m
    |false=>
     have j:J4_ s kind=φ:=by
      rcases i with rfl|rfl|rfl|rfl
      ·exact JV_ a c
      ·exact qJ_ a d
      ·exact Ww_ a g
      exact UJ_ m
     have l:∀W,Δ π 117 #[T_ s] W (RB_ (Qbs_ s) W):=fun W=>WC_ s W a hs c d g m
     by_cases hz:XO_ s=0
     ·rw[Gw_ hz]at l;exact f 0 0 ⟨#[]⟩ φ (by rw[j];rfl) l
     rw[Gx_ rfl (Nat.pos_of_ne_zero hz)]at l;exact f 4 _ _ τ (by rw[j];exact Zn_ _ _ _ _ (by rcases i with rfl|rfl|rfl|rfl<;>decide)) l
 rw[jW_ oo];exact kN_ s kind w oo
def W4_ (w:Ω) (hs:s.size<=maxLen):Δ π 209 #[T_ s] w (RB_ (B_ (Ys_ s)) w):=by
 have d:=h_ (fun(b:Bool) (a:Up_ s=b) (W:Ω)=>show Δ π 210 #[T_ s,I_ j_ 1] W fun e w'=>e=R_ (B_ b)/\Λ W w' by rw[<-a];exact V2_ s 1 W hs (.inl rfl))
 cases a:Up_ s with
 |false=>
  have f:=h_<|d.o _ a;have c:Ys_ s=φ:=by unfold Ys_;rw[a];rfl
  rw[c];clear d a c;go_in;go_wp2_with (go_at_call 210;refine mb_ (f.o _) ?_;intro w1 h2);exact Ξ
 |true=>
  have f:=h_<|d.o _ a;have c:Ys_ s=!X5_ s:=by unfold Ys_;rw[a];rfl
  rw[c];have H3:=h_ (fun W=>U1_ s W);clear d a c;generalize X5_ s=u at H3 |-
  go_in;go_wp2_with (first|(go_at_call 210;refine mb_ (f.o _) ?_;intro w1 h2)|(go_at_call 238;refine mb_ (H3.o _) ?_;rintro w1 rfl));exact Ξ
def Zi_ (kind:Int) (s:BA):Bool:=
 if kind=1\/kind=6\/kind=12\/kind=13\/kind=20\/kind=21 then Ys_ s
 else if kind=2 then v9_ s else if kind=3 then quoB s else if kind=19 then JX_ s else if kind=7 then Q1_ s else decide (s.size=0)
def z2_ (h:a=1\/a=6\/a=12\/a=13\/a=20\/a=21) (s:BA):Zi_ a s=Ys_ s:=by unfold Zi_;rw[ip_ h]
def VQ_ {j:Int} (h:(a=2/\j=2)\/(a=3/\j=3)\/(a=19/\j=5)) (s:BA):Zi_ a s=J4_ s j:=by
 rcases h with⟨rfl,rfl⟩|⟨rfl,rfl⟩|⟨rfl,rfl⟩<;>rfl
def vf_:Zi_ 7 s=Q1_ s:=rfl
def z3_ (h:a≠1/\a≠6/\a≠12/\a≠13/\a≠20/\a≠21/\a≠2/\a≠3/\a≠19/\a≠7) (s:BA):Zi_ a s=decide (s.size=0):=by
 unfold Zi_;rw[in_ oo,in_ oo,in_ oo,in_ oo,in_ oo]
def J6_:(s.toList==[])=decide (s.size=0):=by
 by_cases h:s.size=0
 ·rw[dt_ h,beq_iff_eq,ByteArray.toList_eq];exact ln_ (by rw[QF_];exact h)
 rw[df_ h];exact Gb_ h
def q4_ (A:OA) (n c:Nat) (z:Bool) (w:Ω) (hs:s.size<=maxLen) (hk:k=1\/k=6\/k=12\/k=13\/k=20\/k=21):
  Δ π 169 #[A_ #[I_ j_ k,T_ s,S_ A n c,B_ z]] w (RB_ (B_ (Zi_ k s)) w):=by
 rw[z2_ hk];have H:=h_ (fun W=>W4_ s W hs);generalize Ys_ s=u at H |-
 rcases hk with rfl|rfl|rfl|rfl|rfl|rfl
 all_goals
  go_in;go_wp2_with (go_at_call 209;refine mb_ (H.o _) ?_;intro w1 h2);go_ret;exact⟨rfl,Ql_ h2⟩
def YT_ (A:OA) (n c:Nat) (z:Bool) (w:Ω) (hs:s.size<=maxLen) (j:Int) (hk:(k=2/\j=2)\/(k=3/\j=3)\/(k=19/\j=5)):
  Δ π 169 #[A_ #[I_ j_ k,T_ s,S_ A n c,B_ z]] w (RB_ (B_ (Zi_ k s)) w):=by
 rw[VQ_ hk];have H:=h_ (fun W=>V2_ s j W hs oo);generalize J4_ s j=u at H |-
 rcases hk with⟨rfl,rfl⟩|⟨rfl,rfl⟩|⟨rfl,rfl⟩
 all_goals
  go_in;go_wp2_with (go_at_call 210;refine mb_ (H.o _) ?_;intro w1 h2);go_ret;exact⟨rfl,Ql_ h2⟩
def zh_ (A:OA) (n c:Nat) (z:Bool) (w:Ω):
  Δ π 169 #[A_ #[I_ j_ 7,T_ s,S_ A n c,B_ z]] w (RB_ (B_ (Zi_ 7 s)) w):=by
 rw[vf_]
 cases h0:(s.toList==[38,38])with
 |true=>
  have a:Q1_ s=τ:=by unfold Q1_;simp only[h0,τo,τp]
  rw[a];clear a;go_in;exact Γ
 |false=>
 cases h1:(s.toList==[124,124])with
 |true=>
  have a:Q1_ s=τ:=by unfold Q1_;simp only[h1,τo,τp]
  rw[a];clear a;go_in;exact Γ
 |false=>
 cases h2:(s.toList==[61,61])with
 |true=>
  have a:Q1_ s=τ:=by unfold Q1_;simp only[h2,τo,τp]
  rw[a];clear a;go_in;exact Γ
 |false=>
 cases h3:(s.toList==[60])with
 |true=>
  have a:Q1_ s=τ:=by unfold Q1_;simp only[h3,τo,τp]
  rw[a];clear a;go_in;exact Γ
 |false=>
 cases h4:(s.toList==[43])with
 |true=>
  have a:Q1_ s=τ:=by unfold Q1_;simp only[h4,τo,τp]
  rw[a];clear a;go_in;exact Γ
 |false=>
 cases h5:(s.toList==[45])with
 |true=>
  have a:Q1_ s=τ:=by unfold Q1_;simp only[h5,τo,τp]
  rw[a];clear a;go_in;exact Γ
 |false=>
 cases h6:(s.toList==[42])with
 |true=>
  have a:Q1_ s=τ:=by unfold Q1_;simp only[h6,τo,τp]
  rw[a];clear a;go_in;exact Γ
 |false=>
 have a:Q1_ s=φ:=by unfold Q1_;simp only[h0,h1,h2,h3,h4,h5,h6,Bool.or_self]
 rw[a];clear a;go_in;exact Γ
def q5_ (A:OA) (n c:Nat) (z:Bool) (w:Ω) (hs:s.size<=maxLen) (hk:k≠1/\k≠6/\k≠12/\k≠13/\k≠20/\k≠21/\k≠2/\k≠3/\k≠19/\k≠7):
  Δ π 169 #[A_ #[I_ j_ k,T_ s,S_ A n c,B_ z]] w (RB_ (B_ (Zi_ k s)) w):=by
 rw[z3_ hk,<-J6_];have d1:(k==1)=φ:=by rw[bn_];omega
 have d6:(k==6)=φ:=by rw[bn_];omega
 have a:(k==12)=φ:=by rw[bn_];omega
 have b:(k==13)=φ:=by rw[bn_];omega
 have f:(k==20)=φ:=by rw[bn_];omega
 have g:(k==21)=φ:=by rw[bn_];omega
 have d2:(k==2)=φ:=by rw[bn_];omega
 have d3:(k==3)=φ:=by rw[bn_];omega
 have d:(k==19)=φ:=by rw[bn_];omega
 have d7:(k==7)=φ:=by rw[bn_];omega
 clear hk hs;go_in;go_wp2;go_ret;refine⟨Qg_ ?_,grow_⟩
 first|rfl|exact List.isEmpty_eq_beq_nil|simp
def xN_ (A:OA) (n c:Nat) (z:Bool) (w:Ω) (hs:s.size<=maxLen):
  Δ π 169 #[A_ #[I_ j_ k,T_ s,S_ A n c,B_ z]] w (RB_ (B_ (Zi_ k s)) w):=by
 by_cases h1:k=1\/k=6\/k=12\/k=13\/k=20\/k=21
 ·exact q4_ k s A n c z w hs h1
 by_cases h2:k=2
 ·exact YT_ k s A n c z w hs 2<|.inl ⟨h2,rfl⟩
 by_cases h3:k=3
 ·exact YT_ k s A n c z w hs 3<|.inr (.inl ⟨h3,rfl⟩)
 by_cases h4:k=19
 ·exact YT_ k s A n c z w hs 5<|.inr (.inr ⟨h4,rfl⟩)
 by_cases h5:k=7
 ·subst h5;exact zh_ s A n c z w
 exact q5_ k s A n c z w hs oo
def KE_ {P:Program} {f:FuncId} {a:Array Υ} {W:Ω} {v:Υ} (h:Δ P f a W fun e w'=>e=R_ v/\W=w'):Δ P f a W (RB_ v W):=
 h.mono fun e w' ⟨h1,h2⟩=>⟨h1,by subst h2;exact br⟩
def Ko_ {a b c:Int} {v:Bool} (h:inB a b c=v) (w:Ω):Δ π 34 #[I_ j_ a,I_ j_ b,I_ j_ c] w (RS_ (B_ v) w):=by rw[<-h];exact KH_ a b c w
def KL_ (h:m<o.size):o.data.toList.drop m=o[m]::o.data.toList.drop (m+1):=by
 rw[List.drop_eq_getElem_cons (by rw[QF_];exact h)]
 rfl
def quoK (j r:Nat):Nat:=if r=0 then 0 else r+j
def QfQ_ (h:v=39):VJ_ (v::t)=1:=by unfold VJ_;rw[ip_ h]
def QfP_ (h:¬v=39) (hp:QM_ v=φ):VJ_ (v::t)=0:=by unfold VJ_;rw[in_ h,hp];rfl
def QdZ_ (h:¬v=39) (hp:QM_ v=τ):quoK n (VJ_ (v::t))=quoK (n+1) (VJ_ t):=by
 rw[show VJ_ (v::t)=if v=39 then 1 else if QM_ v=τ then (if VJ_ t=0 then 0 else VJ_ t+1)else 0 from rfl,in_ h,ip_ hp];unfold quoK;by_cases a:VJ_ t=0
 ·rw[ip_ a,ip_ rfl,ip_ a]
 rw[in_ a,in_ oo,in_ a];omega
def QhE_ (h:VJ_ (t.drop 1)=m):Ur_ t=if m=0 then 0 else m+1:=by unfold Ur_;rw[h]
def Qhq_ (h:¬v=39):((v.toNat:Int)==39)=φ:=by
 rw[bn_];intro e;apply h;apply UInt8.toNat_inj.1;show v.toNat=39;omega
def JQ_ (q:Nat) (w:Ω) (hq:q<=s.size) (hs:s.size<=4611686018427387904):
  Δ π 89 #[T_ s,I_ j_ q] w fun e w'=>e=R_ (I_ j_ (Ur_ (s.data.toList.drop q):Nat))/\w=w':=by
 have hd:(s.data.toList.drop q).drop 1=s.data.toList.drop (q+1):=by rw[List.drop_drop]
 have d:=h_ (fun r (h:VJ_ (s.data.toList.drop (q+1))=r)=>QhE_ (show VJ_ ((s.data.toList.drop q).drop 1)=r by rw[hd];exact h));clear hd;generalize Ur_ (s.data.toList.drop q)=N at d |-
 go_in;go_wp2
 go_loop [5] (fun i=>∃n:Nat,q+1<=n/\n<=s.size+1/\Ψ (quoK (n-(q+1)) (VJ_ (s.data.toList.drop n))=VJ_ (s.data.toList.drop (q+1)))/\i=I_ j_ n) (fun i=>s.size+1-(intOf i).toNat)
 ·exact⟨q+1,oo,oo,(show _=_ by rw[Nat.sub_self];unfold quoK;split<;>omega),by go_num⟩
 obtain⟨n,t,v,c,rfl⟩:=hrel;by_cases f:n<s.size
 ·by_cases a:s[n]=39
  ·have k:N=n+1-q:=by
    have h1:=c.o;rw[KL_ f,QfQ_ a]at h1;have g:=d.o _ h1.symm;rw[show quoK (n-(q+1)) 1=1+(n-(q+1))by unfold quoK;rw[in_ dc_],in_ oo]at g;omega
   have p:((s[n].toNat:Int)==39)=τ:=(by rw[a];rfl);have eN:((n:Int)+1)-q=(N:Nat):=oo;clear d c a k;go_wp2;go_ret;exact⟨Kx_ oo,rfl⟩
  have p:=Qhq_ a;have l:=h_ (fun(b:Bool) (hb:QM_ s[n]=b) (W:Ω)=>show Δ π 106 #[I_ .u8 (s[n].toNat:Int)] W fun e w'=>e=R_ (B_ b)/\W=w' by rw[<-hb];exact J8_ _ W)
  cases j:QM_ s[n]with
  |true=>
   have m:=h_ (l.o _ j);have o:Ψ (quoK (n+1-(q+1)) (VJ_ (s.data.toList.drop (n+1)))=VJ_ (s.data.toList.drop (q+1))):=by
    show _=_;rw[<-c.o,KL_ f,QdZ_ _ a j,show n+1-(q+1)=n-(q+1)+1 from oo]
   clear l j c d a;go_wp2_with (go_at_call 106;refine mb_ (m.o _) ?_;rintro w1 rfl);exact⟨⟨n+1,oo,oo,o,by go_num⟩,ms_⟩
  |false=>
   have m:=h_ (l.o _ j);have k:N=0:=by
    have h1:=c.o;rw[KL_ f,QfP_ a j]at h1;have g:=d.o _ h1.symm;unfold quoK at g;simpa using g
   subst k;clear l j c d a;go_wp2_with (go_at_call 106;refine mb_ (m.o _) ?_;rintro w1 rfl);exact Φ
 have k:N=0:=by
  have h1:=c.o;rw[List.drop_of_length_le (by rw[QF_];omega)]at h1;have g:=d.o _ h1.symm;simpa[quoK,VJ_]using g
 subst k;clear d c;exact Θ
def jR_ {p:UInt8->Bool}:∀{l:List UInt8} {k:Nat},(l.take k).all p=τ->(∀(h:k<η l),p l[k]=φ)->k<=η l->Zb_ p l=k:=by
 intro l
 induction l with
 |nil=>intro k h _ a;simp at a;subst a;rfl
 |cons c l ih=>
  intro k h hc a
  cases k with
  |zero=>
   have:=hc sm_;simp only[List.getElem_cons_zero]at this;unfold Zb_;rw[in_ (by rw[this];decide)]
  |succ k=>
   simp only[List.take_succ_cons,List.all_cons,τa]at h;unfold Zb_;rw[ip_ h.1,ih h.2 (fun hl=>by have:=hc (by simpa using hl);simpa using this) (by simpa using a)]
def Qcq_ {p q:UInt8->Bool} (a:∀c,p c=τ->q c=τ) (h:t.all p=τ):t.all q=τ:=by
 rw[List.all_eq_true]at h |-
 exact fun x hx=>a x (h x hx)
def QbI_ {l:List UInt8} {k:Nat} (hp:Lib.hasPrefix l [47,47]=τ) (h:(l.take k).all QM_=τ) (hk:k<=η l) (hc:∀(hl:k<η l),l[k]=10):KD_ l=k:=by
 have hr:Zb_ QZ_ l=k:=jR_ (Qcq_ (fun c=>G3_) h) (fun hl=>by rw[hc hl];rfl) hk;unfold KD_;rw[hr,ip_ ⟨hp,h⟩]
def QhH_ {p:UInt8->Bool}:∀{l:List UInt8} {k:Nat},(l.take (k+1)).all p=τ->k<η l->k<Zb_ p l:=by
 intro l
 induction l with
 |nil=>intro k _ h;simp at h
 |cons c l ih=>
  intro k h hk;simp only[List.take_succ_cons,List.all_cons,τa]at h;unfold Zb_;rw[ip_ h.1]
  cases k with
  |zero=>omega
  |succ k=>have:=ih h.2 (by simpa using hk);omega
def QdM_ {l:List UInt8} {k:Nat} (h:(l.take k).all QM_=τ) (hk:k<η l) (hn:¬l[k]=10) (hb:QM_ l[k]=φ):KD_ l=0:=by
 unfold KD_;rw[in_];rintro⟨_,h2⟩;have a:k<Zb_ QZ_ l:=by
  refine QhH_ ?_ hk;rw[List.take_succ_eq_append_getElem hk,List.all_append,Qcq_ (fun c=>G3_) h];simp only[List.all_cons,List.all_nil,τc,τb];unfold QZ_;rw[bne_iff_ne];exact hn
 rw[List.all_eq_true]at h2;have:=h2 l[k] (by rw[List.mem_take_iff_getElem];exact⟨k,oo,rfl⟩);rw[hb]at this;cases this
def VG_ (hp:Lib.hasPrefix t [47,47]=φ):KD_ t=0:=by unfold KD_;rw[hp];simp
def jK_ (hq:m+2<=o.size):((o.extract m (m+2)).toList==[47,47])=Lib.hasPrefix (o.data.toList.drop m) [47,47]:=by
 have e:(o.extract m (m+2)).toList=[o[m],o[m+1]]:=by
  rw[ByteArray.toList_eq,ByteArray.data_extract];simp only[Array.toList_extract,List.extract_eq_take_drop,show m+2-m=2 from oo];rw[KL_ oo,KL_ oo]
  rfl
 rw[e,KL_ oo,KL_ (show m+1<o.size from oo)];unfold Lib.hasPrefix;simp only[List.isPrefixOf,τc];by_cases h1:o[m]=47
 ·by_cases c:o[m+1]=47
  ·rw[h1,c];rfl
  rw[h1];have a:([(47:UInt8),o[m+1]]==[47,47])=φ:=(by rw[bn_];intro e;injection e with _ e;injection e with e _;exact c e);have b:((47:UInt8)==o[m+1])=φ:=(by rw[bn_];exact fun e=>c e.symm);rw[a,b,φb]
 have a:([o[m],o[m+1]]==[47,47])=φ:=by rw[bn_];intro e;injection e with e _;exact h1 e
 have b:((47:UInt8)==o[m])=φ:=by rw[bn_];exact fun e=>h1 e.symm
 rw[a,b,φa]
def Qhp_ (h:¬v=10):((v.toNat:Int)==10)=φ:=by
 rw[bn_];intro e;apply h;apply UInt8.toNat_inj.1;show v.toNat=10;omega
def Zl_ {s:BA} {q:Nat}:(s.data.toList.drop q).length=s.size-q:=by rw[List.length_drop,QF_]
def jg_ (hq:m<=j) (h:j<o.size):∀(hl:j-m<(o.data.toList.drop m).length),(o.data.toList.drop m)[j-m]=o[j]:=by
 intro hl;rw[List.getElem_drop];have:m+(j-m)=j:=oo;simp only[this]
 rfl
def Zf_ (s:BA) (q:Nat) (w:Ω) (hq:q<=s.size) (hs:s.size<=4611686018427387904):
  Δ π 85 #[T_ s,I_ j_ q] w fun e w'=>e=R_ (I_ j_ (KD_ (s.data.toList.drop q):Nat))/\w=w':=by
 by_cases h2:q+2<=s.size
 ·have y:¬((s.size:Int)<q+2):=oo;have d2:decide ((s.size:Int)<q+2)=φ:=df_ y;have p:=jK_ h2;have D:∀W:Ω,(Instr.slice 9 (T_ s) (σ (I_ j_ (q:Int))) (σ (I_ j_ ((q:Int)+2))) ν).run π W=.ok (T_ (s.extract q (q+2))) W:=fun W=>by
   have h:=run_slice_string (P:=π) W 9 s j_ j_ (q:Int) ((q:Int)+2) underlying9 oo oo oo;rwa[show((q:Int)+2).toNat=q+2 from oo,it_]at h
  cases f:Lib.hasPrefix (s.data.toList.drop q) [47,47]with
  |false=>
   rw[VG_ f];rw[f]at p;clear f;go_in;exact Θ
  |true=>
   rw[f]at p;have j:=h_ (fun(k:Nat)=>QbI_ (l:=s.data.toList.drop q) (k:=k) f);have o:=h_ (fun(k:Nat)=>QdM_ (l:=s.data.toList.drop q) (k:=k));clear f;have a:=Zl_ (s:=s) (q:=q);generalize hN:KD_ (s.data.toList.drop q)=N at j o |-
   clear hN;go_in;go_wp2
   go_loop [5] (fun i=>∃n:Nat,q<=n/\n<=s.size/\Ψ (((s.data.toList.drop q).take (n-q)).all QM_=τ)/\i=I_ j_ n) (fun i=>s.size-(intOf i).toNat)
   ·exact⟨q,oo,oo,(show _=_ by rw[Nat.sub_self];rfl),rfl⟩
   obtain⟨n,B,C,g,rfl⟩:=hrel;by_cases A:n<s.size
   ·have d:=jg_ B A (by rw[a];omega);by_cases c:s[n]=10
    ·have m:N=n-q:=j.o _ g.o oo (fun _=>by rw[d];exact c);have x:((s[n].toNat:Int)==10)=τ:=(by rw[c];rfl);have eN:(n:Int)-q=(N:Nat):=oo;clear j o g d c m a;go_wp2;go_ret;exact⟨Kx_ oo,rfl⟩
    have x:=Qhp_ c;have r:=h_ (fun(b:Bool) (hb:QM_ s[n]=b) (W:Ω)=>show Δ π 106 #[I_ .u8 (s[n].toNat:Int)] W fun e w'=>e=R_ (B_ b)/\W=w' by rw[<-hb];exact J8_ _ W)
    cases f:QM_ s[n]with
    |true=>
     have t:=h_ (r.o _ f);have v:Ψ (((s.data.toList.drop q).take (n+1-q)).all QM_=τ):=by
      show _=_;rw[show n+1-q=n-q+1 from oo,List.take_succ_eq_append_getElem (by rw[a];omega),List.all_append,g.o,d];simp[f]
     clear r f j o g d c a;go_wp2_with (go_at_call 106;refine mb_ (t.o _) ?_;rintro w1 rfl);exact⟨⟨n+1,oo,oo,v,by go_num⟩,ms_⟩
    |false=>
     have t:=h_<|r.o _ f;have z:N=0:=o.o _ g.o (by rw[a];omega) (by rw[d];exact c) (by rw[d];exact f);subst z;clear r f j o g d c a;go_wp2_with (go_at_call 106;refine mb_ (t.o _) ?_;rintro w1 rfl)
     exact Φ
   have m:N=n-q:=j.o _ g.o oo (fun hl=>by rw[a]at hl;omega);have eN:(n:Int)-q=(N:Nat):=oo;clear j o g m a;go_wp2;go_ret;exact⟨Kx_ oo,rfl⟩
 have y:(s.size:Int)<q+2:=oo;have d2:decide ((s.size:Int)<q+2)=τ:=dt_ y;have hn:KD_ (s.data.toList.drop q)=0:=by
  apply VG_
  cases f:Lib.hasPrefix (s.data.toList.drop q) [47,47]with
  |false=>rfl
  |true=>
   have:=(List.isPrefixOf_iff_prefix.1 (show List.isPrefixOf [47,47] (s.data.toList.drop q)=τ from f)).length_le;rw[Zl_]at this;simp at this;omega
 rw[hn];clear hn;go_in;exact Θ
def Vw_ (w:Ω) (hs:s.size<=maxLen):Δ π 86 #[T_ s] w (RS_ (T_ (VX_ s)) w):=by
 unfold maxLen at hs;have g:=h_ (fun(k:Nat) (l:k<=s.size) h1 h2=>show s.extract 0 k=VX_ s from by
  have h:=Lib.trimRightB_take s.data.toList 32 k (by rw[QF_];exact l) h1 h2;unfold VX_;rw[h];apply VY_;rw[ByteArray.data_extract];simp)
 generalize VX_ s=T at g |-
 go_in;go_wp2
 go_loop [3] (fun i=>∃k:Nat,k<=s.size/\Ψ (∀(j:Nat) b,k<=j->s.data.toList[j]? =σ b->b=32)/\i=I_ j_ k) (fun i=>(intOf i).toNat)
 ·exact⟨s.size,lr_ _,(show ∀_ _,_ from fun j b hj d=>by have:=(gs_.1 d).1;rw[QF_]at this;omega),rfl⟩
 obtain⟨k,l,f,rfl⟩:=hrel;by_cases h0:0<k
 ·obtain⟨j,rfl⟩:∃j,k=j+1:=⟨k-1,oo⟩;have q:j<s.size:=oo;have ej:((j+1:Nat):Int)-1=(j:Nat):=oo;have a:s.data.toList[j]? =σ s[j]:=(by rw[List.getElem?_eq_getElem (by rw[QF_];exact q)];rfl);by_cases c:s[j]=32
  ·have o:((s[j].toNat:Int)==32)=τ:=(by rw[c];rfl);have m:Ψ (∀(i:Nat) b,j<=i->s.data.toList[i]? =σ b->b=32):=by
    show ∀_ _,_;intro i b hi d;by_cases p:i=j
    ·subst p;rw[a]at d;obtain rfl:=oi_ d;exact c
    exact f.o i b oo d
   clear g f c a;go_wp2
   go_round
   ·exact⟨j,oo,m,by go_num⟩
   simp[intOf]<;>omega
  have o:((s[j].toNat:Int)==32)=φ:=by
   rw[bn_];intro e;apply c;apply UInt8.toNat_inj.1;show s[j].toNat=32;omega
  have n:=h_ (g.o (j+1) l f.o (fun b _ d=>by
   rw[Nat.add_sub_cancel,a]at d;obtain rfl:=oi_ d;exact c))
  clear g f c a;go_wp2;go_ret;exact⟨Xn_ n.o,rfl⟩
 obtain rfl:k=0:=oo;have n:=h_<|g.o 0 l f.o (fun b h=>absurd h oo);clear g f;go_wp2;go_ret;exact⟨Xn_ (by rw[<-n.o];simp),rfl⟩
def j1_ (w:Ω) (hs:s.size<=maxLen):Δ π 184 #[T_ s] w (RB_ (B_ (v9_ s)) w):=by
 unfold maxLen at hs;apply KE_;have a:∀(h:Ge_ Kz_ s=τ),v9_ s=inB s.size 1 12:=by
  intro h;unfold v9_ inB;rw[h,τc];by_cases h2:0<s.size/\s.size<=12
  ·rw[dt_ h2,dt_ oo]
  rw[df_ h2,df_ oo]
 have j:∀(h:Ge_ Kz_ s=φ),v9_ s=φ:=by intro h;unfold v9_;rw[h,φb]
 have l:=h_ (fun W=>KH_ (s.size:Int) 1 12 W);have d:=h_ a;have HO:=h_ j;clear a j;generalize inB (s.size:Int) 1 12=u at l d;generalize v9_ s=N at d HO |-
 go_in;go_wp2
 go_loop [3] (fun i=>∃k:Nat,k<=s.size/\Jb_ Kz_ s k/\i=I_ j_ k) (fun i=>s.size-(intOf i).toNat)
 ·exact⟨0,lz_ _,Xw_ _ s,rfl⟩
 obtain⟨k,hk,ha,rfl⟩:=hrel;by_cases g:k<s.size
 ·have m:=h_ (fun(b:Bool) (hb:Kz_ s[k]=b) (W:Ω)=>show Δ π 88 #[I_ .u8 (s[k].toNat:Int)] W fun e w'=>e=R_ (B_ b)/\W=w' by rw[<-hb];exact Q6_ _ W)
  cases f:Kz_ s[k]with
  |false=>
   have n:N=φ:=HO.o<|JB_ g f;have c:=h_<|m.o _ f;subst n;clear m f d HO l;go_wp2_with (go_at_call 88;refine mb_ (c.o _) ?_;rintro w1 rfl)
   exact Φ
  |true=>
   have hn:=ZW_ ha g f;have c:=h_<|m.o _ f;clear m f d HO l;go_wp2_with (go_at_call 88;refine mb_ (c.o _) ?_;rintro w1 rfl)
   exact⟨⟨k+1,oo,hn,by go_num⟩,ms_⟩
 have n:N=u:=d.o<|JA_ ha oo;subst n;clear d HO;go_wp2_with (go_at_call 34;refine mb_ (l.o _) ?_;rintro w1 rfl)
 exact Φ
def xA_ (w:Ω) (hs:s.size<=maxLen):Δ π 183 #[T_ s] w (RB_ (B_ (Ys_ s)) w):=by
 unfold maxLen at hs;apply KE_;by_cases h1:1<=s.size/\s.size<=30
 ·have y:0<s.size:=h1.1;have n:=h_ (fun W=>Ko_ (show inB (s.size:Int) 1 30=τ from dt_ oo) W);have r:=h_ (fun(b:Bool) (c:QN_ s[0]=b) (W:Ω)=>show Δ π 87 #[I_ .u8 (s[0].toNat:Int)] W fun e w'=>e=R_ (B_ b)/\W=w' by rw[<-c];exact Km_ _ W)
  cases c:QN_ s[0]with
  |false=>
   have d:Ys_ s=φ:=(by unfold Ys_;rw[JV_ y c];rfl);rw[d];have p:=h_<|r.o _ c;clear r c d;go_in;go_wp2_with (first|(go_at_call 34;refine mb_ (n.o _) ?_;rintro w1 rfl)|(go_at_call 87;refine mb_ (p.o _) ?_;rintro w1 rfl))
   exact Φ
  |true=>
   have p:=h_<|r.o _ c;have x:=h_ (fun(b:Bool) (c:X5_ s=b) (W:Ω)=>show Δ π 91 #[T_ s] W fun e w'=>e=R_ (B_ b)/\W=w' by rw[<-c];exact Ju_ _ W)
   cases a:X5_ s with
   |true=>
    have d:Ys_ s=φ:=(by unfold Ys_;rw[a];simp);rw[d];have v:=h_<|x.o _ a;clear r c d x a;go_in;go_wp2_with (first|(go_at_call 34;refine mb_ (n.o _) ?_;rintro w1 rfl)|(go_at_call 87;refine mb_ (p.o _) ?_;rintro w1 rfl)|(go_at_call 91;refine mb_ (v.o _) ?_;rintro w1 rfl))
    exact Φ
   |false=>
    have v:=h_ (x.o _ a);have d:Ys_ s=Ge_ Qp_ s:=by
     obtain⟨l,hl⟩:=ZY_ y;have hf:JH_ s=τ:=(by unfold JH_;rw[hl];exact c);unfold Ys_ Up_;rw[a,hf,dt_ h1.2];simp
    rw[d];clear r c d x a;go_in;go_wp2_with (first|(go_at_call 34;refine mb_ (n.o _) ?_;rintro w1 rfl)|(go_at_call 87;refine mb_ (p.o _) ?_;rintro w1 rfl)|(go_at_call 91;refine mb_ (v.o _) ?_;rintro w1 rfl));clear n p v
    go_loop [3] (fun i=>∃k:Nat,k<=s.size/\Jb_ Qp_ s k/\i=I_ j_ k) (fun i=>s.size-(intOf i).toNat)
    ·exact⟨0,lz_ _,Xw_ _ s,rfl⟩
    obtain⟨k,hk,z,rfl⟩:=hrel;by_cases h:k<s.size
    ·have q:=h_ (fun(b:Bool) (c:QN_ s[k]=b) (W:Ω)=>show Δ π 87 #[I_ .u8 (s[k].toNat:Int)] W fun e w'=>e=R_ (B_ b)/\W=w' by rw[<-c];exact Km_ _ W);have t:=h_ (fun(b:Bool) (c:Kz_ s[k]=b) (W:Ω)=>show Δ π 88 #[I_ .u8 (s[k].toNat:Int)] W fun e w'=>e=R_ (B_ b)/\W=w' by rw[<-c];exact Q6_ _ W)
     cases m:QN_ s[k]with
     |true=>
      have j:=ZW_ z h (show Qp_ s[k]=τ by unfold Qp_;rw[m];rfl);have f:=h_<|q.o _ m;clear q m t;go_wp2_with (first|(go_at_call 87;refine mb_ (f.o _) ?_;rintro w1 rfl))
      exact⟨⟨k+1,oo,j,by go_num⟩,ms_⟩
     |false=>
      have f:=h_<|q.o _ m
      cases o:Kz_ s[k]with
      |true=>
       have j:=ZW_ z h (show Qp_ s[k]=τ by unfold Qp_;rw[o,τo]);have g:=h_<|t.o _ o;clear q m t o;go_wp2_with (first|(go_at_call 87;refine mb_ (f.o _) ?_;rintro w1 rfl)|(go_at_call 88;refine mb_ (g.o _) ?_;rintro w1 rfl))
       exact⟨⟨k+1,oo,j,by go_num⟩,ms_⟩
      |false=>
       have j:=h_<|JB_ h (show Qp_ s[k]=φ by unfold Qp_;rw[m,o];rfl);have g:=h_<|t.o _ o;clear q m t o;go_wp2_with (first|(go_at_call 87;refine mb_ (f.o _) ?_;rintro w1 rfl)|(go_at_call 88;refine mb_ (g.o _) ?_;rintro w1 rfl))
       go_ret;exact⟨Qg_ j.o.symm,rfl⟩
    have j:=h_<|JA_ z oo;go_wp2;go_ret;exact⟨Qg_ j.o.symm,rfl⟩
 have n:=h_ (fun W=>Ko_ (show inB (s.size:Int) 1 30=φ from df_ oo) W);have d:Ys_ s=φ:=by
  unfold Ys_ Up_;by_cases y:s.size=0
  ·have hl:s.data.toList=[]:=ln_ (by rw[QF_];exact y);unfold JH_;rw[hl];simp
  rw[df_ (show ¬s.size<=30 from oo)];simp
 rw[d];clear d;go_in;go_wp2_with (first|(go_at_call 34;refine mb_ (n.o _) ?_;rintro w1 rfl));exact Φ
def j3_ (w:Ω) (hs:s.size<=4611686018427387904):Δ π 185 #[T_ s] w (RB_ (B_ (quoB s)) w):=by
 apply KE_;by_cases h1:1<s.size
 ·have g1:(1:Int)<s.size:=oo;have h0:0<s.size:=oo;by_cases a:s[0]=39
  ·have d:((s[0].toNat:Int)==39)=τ:=(by rw[a];rfl);have c:=h_ (fun W=>JQ_ s 0 W oo hs);have b:quoB s=decide (Ur_ s.data.toList=s.size):=by
    obtain⟨l,hl⟩:=ZY_ h0;unfold quoB;rw[dt_ h1];rw[hl];simp[a]
   have hi:((Ur_ s.data.toList:Int)==(s.size:Int))=decide (Ur_ s.data.toList=s.size):=by
    by_cases h:Ur_ s.data.toList=s.size
    ·rw[dt_ h,h];exact beq_self_eq_true _
    rw[df_ h,bn_];omega
   rw[b,<-hi];rw[show s.data.toList.drop 0=s.data.toList from rfl]at c;clear b hi a;generalize Ur_ s.data.toList=N at c |-
   go_in;go_wp2_with (go_at_call 89;refine mb_ (c.o _) ?_;rintro w1 rfl);exact Φ
  have d:=Qhq_ a;rw[Ww_ h0 a];clear a;go_in;exact Θ
 have b:quoB s=φ:=by unfold quoB;rw[df_ h1,φa,φa]
 have g1:¬((1:Int)<s.size):=oo;rw[b];go_in;exact Θ
def xB_ (w:Ω) (hs:s.size<=4611686018427387904):Δ π 186 #[T_ s] w (RB_ (B_ (JX_ s)) w):=by
 apply KE_;by_cases h1:1<s.size
 ·have g1:(1:Int)<s.size:=oo;have b:=h_ (fun W=>Zf_ s 0 W oo hs);rw[show s.data.toList.drop 0=s.data.toList from rfl]at b;by_cases c:KD_ s.data.toList=s.size
  ·have H2:=h_ (fun W=>Vw_ s W mx_);have a:JX_ s=((VX_ s).toList==s.toList):=by
    rw[Qgz_];unfold JX_;rw[dt_ h1,dt_ c];simp
   rw[a];rw[c]at b;clear c a;generalize VX_ s=T at H2 |-
   go_in;go_wp2_with (first|(go_at_call 85;refine mb_ (b.o _) ?_;rintro w1 rfl)|(go_at_call 86;refine mb_ (H2.o _) ?_;rintro w1 rfl));exact Φ
  have a:JX_ s=φ:=(by unfold JX_;rw[df_ c,φb,φa]);rw[a];have hi:((KD_ s.data.toList:Int)==(s.size:Int))=φ:=(by rw[bn_];omega);clear a c;generalize KD_ s.data.toList=N at b hi |-
  go_in;go_wp2_with (first|(go_at_call 85;refine mb_ (b.o _) ?_;rintro w1 rfl));exact Φ
 have a:JX_ s=φ:=by unfold JX_;rw[df_ h1,φa,φa]
 have g1:¬((1:Int)<s.size):=oo;rw[a];go_in;exact Θ
def k3_ (w:Ω) (hs:s.size<=4611686018427387904) (hk:k=1\/k=6\/k=12\/k=13\/k=20\/k=21):
  Δ π 130 #[I_ j_ k,T_ s] w (RB_ (B_ (Zi_ k s)) w):=by
 rw[z2_ hk];have H:=h_ (fun W=>xA_ s W mx_);generalize Ys_ s=u at H |-
 rcases hk with rfl|rfl|rfl|rfl|rfl|rfl
 all_goals
  go_in;go_wp2_with (go_at_call 183;refine mb_ (H.o _) ?_;intro w1 h2);go_ret;exact⟨rfl,h2⟩
def jC_ (w:Ω) (hs:s.size<=4611686018427387904) (hk:k=2):
  Δ π 130 #[I_ j_ k,T_ s] w (RB_ (B_ (Zi_ k s)) w):=by
 rw[VQ_ (j:=2) (.inl ⟨hk,rfl⟩)];have H:=h_ (fun W=>show Δ π 184 #[T_ s] W fun e w'=>e=R_ (B_ (J4_ s 2))/\Λ W w' from j1_ s W mx_);generalize J4_ s 2=u at H |-
 subst hk
 all_goals
  go_in;go_wp2_with (go_at_call 184;refine mb_ (H.o _) ?_;intro w1 h2);go_ret;exact⟨rfl,h2⟩
def jD_ (w:Ω) (hs:s.size<=4611686018427387904) (hk:k=3):
  Δ π 130 #[I_ j_ k,T_ s] w (RB_ (B_ (Zi_ k s)) w):=by
 rw[VQ_ (j:=3) (.inr (.inl ⟨hk,rfl⟩))];have H:=h_ (fun W=>show Δ π 185 #[T_ s] W fun e w'=>e=R_ (B_ (J4_ s 3))/\Λ W w' from j3_ s W hs);generalize J4_ s 3=u at H |-
 subst hk
 all_goals
  go_in;go_wp2_with (go_at_call 185;refine mb_ (H.o _) ?_;intro w1 h2);go_ret;exact⟨rfl,h2⟩
def k4_ (w:Ω) (hs:s.size<=4611686018427387904) (hk:k=19):
  Δ π 130 #[I_ j_ k,T_ s] w (RB_ (B_ (Zi_ k s)) w):=by
 rw[VQ_ (j:=5) (.inr (.inr ⟨hk,rfl⟩))];have H:=h_ (fun W=>show Δ π 186 #[T_ s] W fun e w'=>e=R_ (B_ (J4_ s 5))/\Λ W w' from xB_ s W hs);generalize J4_ s 5=u at H |-
 subst hk
 all_goals
  go_in;go_wp2_with (go_at_call 186;refine mb_ (H.o _) ?_;intro w1 h2);go_ret;exact⟨rfl,h2⟩
def qB_ (w:Ω) (hs:s.size<=4611686018427387904) (hk:k=7):
  Δ π 130 #[I_ j_ k,T_ s] w (RB_ (B_ (Zi_ k s)) w):=by
 rw[show Zi_ k s=Q1_ s from by subst hk;rfl];have H:=h_ (fun W=>show Δ π 187 #[T_ s] W fun e w'=>e=R_ (B_ (Q1_ s))/\Λ W w' from(q0_ s W).mono fun e w' ⟨h1,a⟩=>⟨h1,by subst a;exact br⟩);generalize Q1_ s=u at H |-
 subst hk
 all_goals
  go_in;go_wp2_with (go_at_call 187;refine mb_ (H.o _) ?_;intro w1 a);go_ret;exact⟨rfl,a⟩
def k5_ (w:Ω) (hs:s.size<=4611686018427387904) (hk:k≠1/\k≠6/\k≠12/\k≠13/\k≠20/\k≠21/\k≠2/\k≠3/\k≠19/\k≠7):
  Δ π 130 #[I_ j_ k,T_ s] w (RB_ (B_ (Zi_ k s)) w):=by
 rw[z3_ hk,<-J6_];have d1:(k==1)=φ:=by rw[bn_];omega
 have d6:(k==6)=φ:=by rw[bn_];omega
 have a:(k==12)=φ:=by rw[bn_];omega
 have b:(k==13)=φ:=by rw[bn_];omega
 have d:(k==20)=φ:=by rw[bn_];omega
 have f:(k==21)=φ:=by rw[bn_];omega
 have d2:(k==2)=φ:=by rw[bn_];omega
 have d3:(k==3)=φ:=by rw[bn_];omega
 have c:(k==19)=φ:=by rw[bn_];omega
 have d7:(k==7)=φ:=by rw[bn_];omega
 clear hk hs;go_in;go_wp2;go_ret;refine⟨Qg_ ?_,grow_⟩
 first|rfl|simp
def jB_ (w:Ω) (hs:s.size<=4611686018427387904):
  Δ π 130 #[I_ j_ k,T_ s] w (RB_ (B_ (Zi_ k s)) w):=by
 by_cases h1:k=1\/k=6\/k=12\/k=13\/k=20\/k=21
 ·exact k3_ k s w hs h1
 by_cases h2:k=2
 ·exact jC_ k s w hs h2
 by_cases h3:k=3
 ·exact jD_ k s w hs h3
 by_cases h4:k=19
 ·exact k4_ k s w hs h4
 by_cases h5:k=7
 ·exact qB_ k s w hs h5
 exact k5_ k s w hs oo
def marks04:List (List UInt8):=[[38,38],[124,124],[61,61],[61,62],[46,46],[40],[41],[123],[125],[91],[93],[59],[44],[46],[61],[43],[45],[42],[60],[63],[58]]
def X6_:List (List UInt8)->List UInt8->List UInt8
 |[],_=>[]
 |m::ms,l=>if m.isPrefixOf l=τ then m else X6_ ms l
def XU_ (l:List UInt8):List UInt8:=X6_ marks04 l
def Kq_ (l:List UInt8) (q:Nat):Int × BA × Int × Nat:=
 if 0<KD_ l then (5,VX_ ⟨(l.take (KD_ l)).toArray⟩,(q:Int),KD_ l)
 else match l with
 |[]=>(0,⟨#[]⟩,0,0)
 |c::_=>
  if QN_ c=τ then (if 30<Zb_ Qp_ l then (0,⟨#[]⟩,0,0)else (1,⟨(l.take (Zb_ Qp_ l)).toArray⟩,(q:Int),Zb_ Qp_ l))
  else if Kz_ c=τ then (if 12<Zb_ Kz_ l then (0,⟨#[]⟩,0,0)else (2,⟨(l.take (Zb_ Kz_ l)).toArray⟩,(q:Int),Zb_ Kz_ l))
  else if c=39 then (3,⟨(l.take (Ur_ l)).toArray⟩,(q:Int),Ur_ l)
  else (4,⟨(XU_ l).toArray⟩,(q:Int),(XU_ l).length)
def SgOk (l:List UInt8) (k:Int) (x:BA) (z:Nat) (ok:Bool):Prop:=
 if ok=τ then 0<z/\z<=η l/\∀q,Kq_ l q=(k,x,(q:Int),z)else ∀q,(Kq_ l q).2.2.2=0
def Xd_ (n:Nat):s.extract 0 n=⟨(s.data.toList.take n).toArray⟩:=by
 apply ByteArray.ext;apply Array.toList_inj.1;rw[ByteArray.data_extract];simp
def XK_ (q n:Nat):s.extract q (q+n)=⟨((s.data.toList.drop q).take n).toArray⟩:=by
 apply ByteArray.ext;apply Array.toList_inj.1;rw[ByteArray.data_extract];simp[List.extract_eq_take_drop]
def GR_ (q:Nat):(s.extract q s.size).data.toList=s.data.toList.drop q:=by
 rw[ByteArray.data_extract];simp only[Array.toList_extract,List.extract_eq_take_drop];exact List.take_of_length_le (by rw[List.length_drop,QF_];omega)
def J1_ (p:UInt8->Bool) (s:BA):ZV_ p s=⟨(s.data.toList.take (Zb_ p s.data.toList)).toArray⟩:=Xd_ s _
def VH_ (h:¬v=47):KD_ (v::t)=0:=by
 apply VG_;unfold Lib.hasPrefix;simp only[List.isPrefixOf];have:((47:UInt8)==v)=φ:=by rw[bn_];exact fun e=>h e.symm
 rw[this,φa]
def QhM_ (h0:0<o.size) (d:QN_ o[0]=τ):
  SgOk o.data.toList 1 (ZV_ Qp_ o) (ZV_ Qp_ o).size (decide (((ZV_ Qp_ o).size:Int)<=30)):=by
 obtain⟨l,hl⟩:=ZY_ h0;have hn:KD_ o.data.toList=0:=by rw[hl];exact VH_ (by intro e;rw[e]at d;revert d;decide)
 have b:0<Zb_ Qp_ o.data.toList:=by
  rw[hl];unfold Zb_;rw[ip_ (by unfold Qp_;rw[d];rfl)];omega
 have f:=K3_ Qp_ o.data.toList;have hz:∀q,Kq_ o.data.toList q=if 30<Zb_ Qp_ o.data.toList then (0,⟨#[]⟩,0,0)else (1,⟨(o.data.toList.take (Zb_ Qp_ o.data.toList)).toArray⟩,(q:Int),Zb_ Qp_ o.data.toList):=fun q=>by
  unfold Kq_;rw[in_ oo];split
  ·rename_i h;rw[hl]at h;cases h
  rename_i c l' h;rw[hl]at h;injection h with h1 h2;subst h1;rw[ip_ d]
 unfold SgOk;rw[ZD_];by_cases a:30<Zb_ Qp_ o.data.toList
 ·rw[df_ oo,in_ dc_];intro q;rw[hz,ip_ a]
 rw[dt_ oo,ip_ rfl];exact⟨b,f,fun q=>by rw[hz,in_ a,J1_]⟩
def QiA_ (h0:0<o.size) (hb:QN_ o[0]=φ) (d:Kz_ o[0]=τ):
  SgOk o.data.toList 2 (ZV_ Kz_ o) (ZV_ Kz_ o).size (decide (((ZV_ Kz_ o).size:Int)<=12)):=by
 obtain⟨l,hl⟩:=ZY_ h0;have hn:KD_ o.data.toList=0:=by rw[hl];exact VH_ (by intro e;rw[e]at d;revert d;decide)
 have b:0<Zb_ Kz_ o.data.toList:=by
  rw[hl];unfold Zb_;rw[ip_ d];omega
 have f:=K3_ Kz_ o.data.toList;have hz:∀q,Kq_ o.data.toList q=if 12<Zb_ Kz_ o.data.toList then (0,⟨#[]⟩,0,0)else (2,⟨(o.data.toList.take (Zb_ Kz_ o.data.toList)).toArray⟩,(q:Int),Zb_ Kz_ o.data.toList):=fun q=>by
  unfold Kq_;rw[in_ oo];split
  ·rename_i h;rw[hl]at h;cases h
  rename_i c l' h;rw[hl]at h;injection h with h1 h2;subst h1;rw[in_ (by rw[hb];decide),ip_ d]
 unfold SgOk;rw[ZD_];by_cases a:12<Zb_ Kz_ o.data.toList
 ·rw[df_ oo,in_ dc_];intro q;rw[hz,ip_ a]
 rw[dt_ oo,ip_ rfl];exact⟨b,f,fun q=>by rw[hz,in_ a,J1_]⟩
def QiB_ (h0:0<o.size) (hq:o[0]=39):SgOk o.data.toList 3 (qP_ o).1 (qP_ o).1.size (qP_ o).2:=by
 obtain⟨l,hl⟩:=ZY_ h0;rw[hq]at hl;have p:η l+1=o.size:=by have:=QF_ o;rw[hl]at this;simpa using this
 have g:(o.extract 1 o.size).data.toList=l:=by rw[GR_,hl];rfl
 have k:∀q,Kq_ o.data.toList q=(3,⟨(o.data.toList.take (Ur_ o.data.toList)).toArray⟩,(q:Int),Ur_ o.data.toList):=fun q=>by
  unfold Kq_;rw[in_ (by rw[hl,VH_ dc_];omega)];split
  ·rename_i h;rw[hl]at h;cases h
  rename_i c l' h;rw[hl]at h;injection h with h1 h2;subst h1;rw[in_ dc_,in_ dc_,ip_ rfl]
 have b:Ur_ o.data.toList=if VJ_ l=0 then 0 else VJ_ l+1:=by rw[hl];rfl
 unfold SgOk;unfold qP_;rw[g];by_cases hi:Lib.indexByte l 39<0
 ·rw[ip_ hi];rw[in_ dc_];intro q;rw[k,b,jL_,ip_ hi]
  rfl
 rw[in_ hi];have n:=Lib.indexByte_ge l 39;obtain⟨s,i⟩:=eo_ (show 0<=Lib.indexByte l 39 from oo);have a:=Lib.indexByte_some i;have m:s<η l:=(gs_.1 a.1).1;rw[i,show((s:Int)+2).toNat=s+2 from oo];have d:Ge_ QM_ (o.extract 0 (s+2))=(l.take s).all QM_:=by
  unfold Ge_;rw[show(o.extract 0 (s+2)).data.toList=o.data.toList.take (s+2)by rw[ByteArray.data_extract];simp,hl,List.take_succ_cons,List.all_cons];rw[show QM_ 39=τ from rfl,τb];rw[List.take_add_one,a.1,List.all_append];simp[show QM_ 39=τ from rfl]
 have f:VJ_ l=if (l.take s).all QM_=τ then s+1 else 0:=by
  rw[jL_,in_ hi,i,it_]
 simp only[d]
 cases hc:(l.take s).all QM_ with
 |false=>
  rw[in_ dc_];intro q;rw[k,b,f,hc]
  rfl
 |true=>
  rw[ip_ rfl];have e:Ur_ o.data.toList=s+2:=(by rw[b,f,hc,ip_ rfl,in_ oo]);have j:(o.extract 0 (s+2)).size=s+2:=so_;rw[j];refine⟨oo,by rw[QF_];omega,fun q=>?_⟩;rw[k,e,Xd_]
def QhN_ (h0:0<o.size) (hp:Lib.hasPrefix o.data.toList [47,47]=τ):
  SgOk o.data.toList 5 (VX_ (ZV_ QZ_ o)) (ZV_ QZ_ o).size (Ge_ QM_ (ZV_ QZ_ o)):=by
 obtain⟨l,hl⟩:=ZY_ h0;have a:=Qab_ h0 hp;have hn:=K3_ QZ_ o.data.toList;have b:Ge_ QM_ (ZV_ QZ_ o)=(o.data.toList.take (Zb_ QZ_ o.data.toList)).all QM_:=by
  unfold Ge_;rw[J1_]
 have e:0<Zb_ QZ_ o.data.toList:=by
  rw[hl,a];unfold Zb_;rw[ip_ dc_];omega
 have f:KD_ o.data.toList=if (o.data.toList.take (Zb_ QZ_ o.data.toList)).all QM_=τ then Zb_ QZ_ o.data.toList else 0:=by
  unfold KD_;by_cases h:(o.data.toList.take (Zb_ QZ_ o.data.toList)).all QM_=τ
  ·rw[ip_ ⟨hp,h⟩,ip_ h]
  rw[in_ (fun x=>h x.2),in_ h]
 unfold SgOk;rw[b,ZD_]
 cases hc:(o.data.toList.take (Zb_ QZ_ o.data.toList)).all QM_ with
 |false=>
  rw[in_ dc_];intro q;rw[hc,in_ dc_]at f;unfold Kq_;rw[in_ oo];split
  ·rfl
  rename_i c l' h;rw[hl]at h;injection h with h1 h2;have d:c=47:=(by rw[<-h1];exact a);subst d;rw[in_ dc_,in_ dc_,in_ dc_];rw[hl,a];have:XU_ (47::l)=[]:=(by unfold XU_ marks04;simp[X6_,List.isPrefixOf]);rw[this]
  rfl
 |true=>
  rw[ip_ rfl];rw[hc,ip_ rfl]at f;refine⟨e,hn,fun q=>?_⟩;unfold Kq_;rw[ip_ oo,f,J1_]
def G0_ (c d:UInt8):Bool:=(c==38&&d==38)||(c==124&&d==124)||(c==61&&d==61)||(c==61&&d==62)||(c==46&&d==46)
def Qc9_ (l:List UInt8) (c:UInt8):decide (0<=Lib.indexByte l c)=l.contains c:=by
 induction l with
 |nil=>rfl
 |cons x l ih=>
  have d:=Lib.indexByte_ge l c;rw[List.contains_cons];unfold Lib.indexByte;by_cases h:x=c
  ·subst h;simp
  have hb:(x==c)=φ:=(by rw[bn_];exact h);have b:(c==x)=φ:=(by rw[bn_];exact fun e=>h e.symm);rw[hb,b,Bool.false_or,<-ih];simp only[Bool.false_eq_true,if_false];by_cases h1:Lib.indexByte l c= -1
  ·have a:(Lib.indexByte l c== -1)=τ:=(by rw[h1];rfl);rw[ip_ a,h1]
  have a:(Lib.indexByte l c== -1)=φ:=(by rw[bn_];exact h1);rw[in_ (by rw[a];decide)];rw[dt_ (show 0<=Lib.indexByte l c+1 from oo),dt_ (show 0<=Lib.indexByte l c from oo)]
def Qdt_ (c d:UInt8):ZI_ ⟨#[c,d]⟩=G0_ c d:=by
 unfold ZI_ V5_ G0_;simp only[ByteArray.toList_eq,Bool.or_false];have e:∀a b:UInt8,([c,d]==[a,b])=(c==a&&d==b):=fun a b=>by
  simp only[List.cons_beq_cons,List.nil_beq_eq,List.isEmpty_nil,τc]
 simp only[e]
def xc_ (c:UInt8):ZI_ ⟨#[c]⟩=JR_ c:=by
 unfold ZI_ V5_;simp only[ByteArray.toList_eq];have e:∀a b:UInt8,([c]==[a,b])=φ:=fun a b=>by
  simp only[List.cons_beq_cons];simp
 simp only[e,Bool.false_or]
def one04:List UInt8:=[40,41,123,125,91,93,59,44,46,61,43,45,42,60,63,58]
def Wh_:marks04=[[38,38],[124,124],[61,61],[61,62],[46,46]]++one04.map (fun c=>[c]):=by rfl
def Vn_ {ms:List (List UInt8)} (h:t.isPrefixOf u=τ):X6_ (t::ms) u=t:=ip_ h
def JS_ {ms:List (List UInt8)} (h:¬t.isPrefixOf u=τ):X6_ (t::ms) u=X6_ ms u:=in_ h
def xd_ (a b:List (List UInt8)) (l:List UInt8) (h:∀m∈a,m≠[]):X6_ (a++b) l=if X6_ a l=[]then X6_ b l else X6_ a l:=by
 induction a with
 |nil=>rfl
 |cons m ms c=>
  have hm:=h m<|List.mem_cons_self ..;have c:=c (fun x hx=>h x (List.mem_cons_of_mem _ hx));rw[List.cons_append];by_cases h:m.isPrefixOf l=τ
  ·rw[Vn_ h,Vn_ h,in_ hm]
  rw[JS_ h,JS_ h];exact c
def xf_ (a:List UInt8) (c:UInt8) (l:List UInt8):X6_ (a.map (fun c=>[c])) (c::l)=if a.contains c=τ then [c]else []:=by
 induction a with
 |nil=>rfl
 |cons x a ih=>
  simp only[List.map_cons,X6_,List.isPrefixOf,τc,List.contains_cons];by_cases h:x=c
  ·subst h;simp
  have e1:(x==c)=φ:=(by rw[bn_];exact h);have e2:(c==x)=φ:=(by rw[bn_];exact fun e=>h e.symm);rw[e1,e2,Bool.false_or,in_ dc_,ih]
def QhC_ (a b c d:UInt8) (l:List UInt8):List.isPrefixOf [a,b] (c::d::l)=(c==a&&d==b):=by
 simp only[List.isPrefixOf,τc];rw[BEq.comm (a:=a),BEq.comm (a:=b)]
def jG_ (c d:UInt8) (l:List UInt8):X6_ [[38,38],[124,124],[61,61],[61,62],[46,46]] (c::d::l)=if G0_ c d=τ then [c,d]else []:=by
 simp only[X6_,QhC_];unfold G0_;have e:∀(a b:UInt8) (B:Bool) (X:List UInt8),X=(if B=τ then [c,d]else [])->(if (c==a&&d==b)=τ then [a,b]else X)=if ((c==a&&d==b)||B)=τ then [c,d]else []:=by
  intro a b B X hX
  cases h:(c==a&&d==b)with
  |true=>
   simp only[τa,beq_iff_eq]at h;rw[h.1,h.2];simp
  |false=>rw[hX];simp
 simp only[Bool.or_assoc];refine e _ _ _ _ (e _ _ _ _ (e _ _ _ _ (e _ _ _ _ ?_)));have:=e 46 46 φ [] rfl;rw[Bool.or_false]at this;exact this
def xb_ (c:UInt8):JR_ c=one04.contains c:=Qc9_ one04 c
def Qdx_ (c d:UInt8) (l:List UInt8):XU_ (c::d::l)=if G0_ c d=τ then [c,d]else if JR_ c=τ then [c]else []:=by
 rw[xb_];unfold XU_;rw[Wh_,xd_ _ _ _ dc_,jG_,xf_]
 cases G0_ c d with
 |true=>simp
 |false=>simp
def Qdv_ (c:UInt8):XU_ [c]=if JR_ c=τ then [c]else []:=by
 rw[xb_];unfold XU_;rw[Wh_,xd_ _ _ _ dc_,xf_];have:X6_ [[38,38],[124,124],[61,61],[61,62],[46,46]] [c]=[]:=by simp[X6_,List.isPrefixOf]
 rw[this,ip_ rfl]
def xg_ (h0:0<s.size):XU_ s.data.toList=s.data.toList.take (XO_ s)/\XO_ s<=s.size:=by
 obtain⟨l,hl⟩:=ZY_ h0;generalize hc:s[0]=c at hl;have a:=QF_ s;rw[hl]at a;have e1:s.extract 0 1=⟨#[c]⟩:=by rw[Xd_,hl];rfl
 match l,hl,a with
 |[],hl,a=>
  have b:XO_ s=if JR_ c=τ then 1 else 0:=by
   unfold XO_;rw[in_ (by simp at a;omega),e1,xc_]
  rw[b,hl,Qdv_];split<;>simp<;>omega
 |d::l,hl,a=>
  have e2:s.extract 0 2=⟨#[c,d]⟩:=by rw[Xd_,hl];rfl
  have h2:2<=s.size:=by simp at a;omega
  have b:XO_ s=if G0_ c d=τ then 2 else if JR_ c=τ then 1 else 0:=by
   unfold XO_;rw[e1,xc_,e2,Qdt_];by_cases h:G0_ c d=τ
   ·rw[ip_ ⟨h2,h⟩,ip_ h]
   rw[in_ (fun x=>h x.2),in_ h]
  rw[b,hl,Qdx_];split
  ·simp;omega
  split<;>simp;omega
def QhL_ (h0:0<o.size) (hb:QN_ o[0]=φ) (hg:Kz_ o[0]=φ) (hq:¬o[0]=39) (hp:Lib.hasPrefix o.data.toList [47,47]=φ):
  ∀q,Kq_ o.data.toList q=(4,o.extract 0 (XO_ o),(q:Int),XO_ o):=by
 intro q;obtain⟨l,hl⟩:=ZY_ h0;obtain⟨hm,a⟩:=xg_ o h0;unfold Kq_;rw[in_ (by rw[VG_ hp];omega)];split
 ·rename_i h;rw[hl]at h;cases h
 rename_i c l' h;rw[hl]at h;injection h with h1 h2;subst h1;rw[in_ (by rw[hb];decide),in_ (by rw[hg];decide),in_ hq,hm,<-Xd_,List.length_take,QF_,Nat.min_eq_left a]
abbrev SgP:=Int × BA × Int × Bool
def ZP_ (d:SgP):List Υ:=[I_ j_ d.1,T_ d.2.1,I_ j_ d.2.2.1,B_ d.2.2.2]
def jU_ (d:SgP):(ZP_ d).length=4:=rfl
def XR_ (l:List UInt8):Nat->Nat->Nat->List SgP->List SgP × Int × Bool
 |0,_,_,acc=>(acc,0,τ)
 |f+1,at_,br,acc=>
  match l.drop at_ with
  |[]=>(acc,0,τ)
  |c::l'=>
   if c=32 then XR_ l f (at_+1) br acc
   else if c=10 then XR_ l f (at_+1) (br+1) acc
   else if (Kq_ (c::l') at_).2.2.2=0 then ([],(at_:Int),φ)
   else XR_ l f (at_+(Kq_ (c::l') at_).2.2.2) 0 (acc++[((Kq_ (c::l') at_).1,(Kq_ (c::l') at_).2.1,(Kq_ (c::l') at_).2.2.1,decide (1<br))])
def KV_ (t:BA):List SgP × Int × Bool:=if 3000<t.size then ([],3000,φ)else XR_ t.data.toList t.size 0 0 []
section
variable {s:BA} {f at_ br:Nat} {acc:List SgP} {R:List SgP × Int × Bool}
def KO_ (s:BA) (at_ br:Nat) (acc:List SgP) (R:List SgP × Int × Bool):Prop:=∃f,s.size<=at_+f/\XR_ s.data.toList f at_ br acc=R
def WG_ (h:KO_ s at_ br acc R) (hk:s.size<=at_):R=(acc,0,τ):=by
 obtain⟨f,hf,h⟩:=h
 cases f with
 |zero=>exact h.symm
 |succ f=>
  unfold XR_ at h;rw[List.drop_of_length_le (by rw[QF_];exact hk)]at h;exact h.symm
def J5_ (h:KO_ s at_ br acc R) (hk:at_<s.size) (hc:s[at_]=32):KO_ s (at_+1) br acc R:=by
 obtain⟨f,hf,h⟩:=h
 cases f with
 |zero=>omega
 |succ f=>
  unfold XR_ at h;rw[KL_ hk]at h;simp only[hc]at h;rw[ip_ trivial]at h;exact⟨f,oo,h⟩
def G8_ (h:KO_ s at_ br acc R) (hk:at_<s.size) (hc:s[at_]=10):KO_ s (at_+1) (br+1) acc R:=by
 obtain⟨f,hf,h⟩:=h
 cases f with
 |zero=>omega
 |succ f=>
  unfold XR_ at h;rw[KL_ hk]at h;simp only[hc]at h;rw[in_ dc_,ip_ trivial]at h;exact⟨f,oo,h⟩
def WF_ (h:KO_ s at_ br acc R) (hk:at_<s.size) (h1:¬s[at_]=32) (h2:¬s[at_]=10) (hz:(Kq_ (s.data.toList.drop at_) at_).2.2.2=0):R=([],(at_:Int),φ):=by
 obtain⟨f,hf,h⟩:=h
 cases f with
 |zero=>omega
 |succ f=>
  unfold XR_ at h;rw[KL_ hk]at h hz;simp only at h;rw[in_ h1,in_ h2,ip_ hz]at h;exact h.symm
def G9_ (h:KO_ s at_ br acc R) (hk:at_<s.size) (h1:¬s[at_]=32) (h2:¬s[at_]=10) (hz:Kq_ (s.data.toList.drop at_) at_=(a,o,b,m)) (h0:0<m):
  KO_ s (at_+m) 0 (acc++[(a,o,b,decide (1<br))]) R:=by
 obtain⟨f,hf,h⟩:=h
 cases f with
 |zero=>omega
 |succ f=>
  unfold XR_ at h;rw[KL_ hk]at h hz;simp only[hz]at h;rw[in_ h1,in_ h2,in_ oo]at h;exact⟨f,oo,h⟩
def G7_ (h:s.size<=3000):KO_ s 0 0 [] (KV_ s):=⟨s.size,oo,by unfold KV_;rw[in_ oo]⟩
end
def zV_ (h:3000<o.size):KV_ o=([],3000,φ):=by unfold KV_;rw[ip_ h]
def QbV_ (l:List UInt8):∀(f at_ br:Nat) (acc:List SgP),(XR_ l f at_ br acc).1.length<=η acc+f:=by
 intro f
 induction f with
 |zero=>intro at_ br acc;simp[XR_]
 |succ f a=>
  intro at_ br acc;unfold XR_;split
  ·simp<;>omega
  split
  ·have:=a (at_+1) br acc;omega
  split
  ·have:=a (at_+1) (br+1) acc;omega
  split
  ·simp
  refine lt_ (a _ _ _) ?_;simp;omega
def zW_:(KV_ s).1.length<=3000:=by
 unfold KV_;split
 ·simp
 have:=QbV_ s.data.toList s.size 0 0 [];simp at this;omega
def G1_:List BA:=[⟨#[38,38]⟩,⟨#[124,124]⟩,⟨#[61,61]⟩,⟨#[61,62]⟩,⟨#[46,46]⟩,⟨#[40]⟩,⟨#[41]⟩,⟨#[123]⟩,⟨#[125]⟩,⟨#[91]⟩,⟨#[93]⟩,⟨#[59]⟩,⟨#[44]⟩,⟨#[46]⟩,⟨#[61]⟩,⟨#[43]⟩,⟨#[45]⟩,⟨#[42]⟩,⟨#[60]⟩,⟨#[63]⟩,⟨#[58]⟩]
def xh_:G1_=marks04.map (fun m=>⟨m.toArray⟩):=rfl
def QdA_:∀x∈G1_,x.size<=2:=by decide
def kW_:Δ π 107 #[] w fun e w'=>∃A,e=R_ (S_ A 21 21)/\Rd w' 1 A 21 (Qm_ G1_)/\Λ w w':=by
 go_in;go_wp2;go_ret;exact⟨_,rfl,Rd.fresh w 9 (Qm_ G1_) rfl,grow_⟩
def YV_ (l:List UInt8) (k:Nat) (M:List UInt8):Prop:=X6_ (marks04.drop k) l=M
def Qbn_ (h:YV_ t m u) (hk:21<=m):u=[]:=by
 unfold YV_ at h;rw[List.drop_of_length_le (by exact hk)]at h;exact h.symm
def Qbo_ (h:YV_ t m u) (hx:G1_[m]? =σ o) (hp:o.data.toList.isPrefixOf t=τ):(⟨u.toArray⟩:BA)=o:=by
 rw[xh_,List.getElem?_map]at hx;obtain⟨l,hm,rfl⟩:=Option.map_eq_some_iff.1 hx;obtain⟨a,he⟩:=gs_.1 hm;unfold YV_ at h;rw[List.drop_eq_getElem_cons a,he]at h;rw[Vn_ (by simpa using hp)]at h;rw[h]
def Qds_ (h:YV_ t m u) (hx:G1_[m]? =σ o) (hp:o.data.toList.isPrefixOf t=φ):YV_ t (m+1) u:=by
 rw[xh_,List.getElem?_map]at hx;obtain⟨l,hm,rfl⟩:=Option.map_eq_some_iff.1 hx;obtain⟨a,he⟩:=gs_.1 hm;unfold YV_ at h;rw[List.drop_eq_getElem_cons a,he]at h;rw[JS_ (by rw[show l.isPrefixOf t=φ from hp];decide)]at h;exact h
def QhB_ {s x:BA} {q:Nat} (h:q+x.size<=s.size):((s.extract q (q+x.size)).toList==x.toList)=x.data.toList.isPrefixOf (s.data.toList.drop q):=by
 rw[ByteArray.toList_eq,ByteArray.toList_eq,XK_];have hx:η x.data.toList=x.size:=QF_ x
 cases hp:x.data.toList.isPrefixOf (s.data.toList.drop q)with
 |true=>
  have:=List.prefix_iff_eq_take.1 (List.isPrefixOf_iff_prefix.1 hp);rw[hx]at this;rw[beq_iff_eq];exact this.symm
 |false=>
  rw[bn_];intro e;have:x.data.toList.isPrefixOf (s.data.toList.drop q)=τ:=by
   rw[List.isPrefixOf_iff_prefix,List.prefix_iff_eq_take,hx];exact e.symm
  rw[hp]at this;cases this
def QdV_ {s x:BA} (h:¬m+x.size<=s.size) (hq:m<=s.size):x.data.toList.isPrefixOf (s.data.toList.drop m)=φ:=by
 cases hp:x.data.toList.isPrefixOf (s.data.toList.drop m)with
 |false=>rfl
 |true=>
  have:=(List.isPrefixOf_iff_prefix.1 hp).length_le;rw[QF_,List.length_drop,QF_]at this;omega
def jx_ (s:BA) (q:Nat) (w:Ω) (hq:q<=s.size) (hs:s.size<=4611686018427387904):
  Δ π 90 #[T_ s,I_ j_ q] w fun e w'=>e=R_ (T_ ⟨(XU_ (s.data.toList.drop q)).toArray⟩)/\Λ w w':=by
 have a:Ψ (YV_ (s.data.toList.drop q) 0 (XU_ (s.data.toList.drop q))):=rfl;generalize XU_ (s.data.toList.drop q)=M at a |-
 have g:=h_ (fun(x:BA) (h:q+x.size<=s.size)=>QhB_ (s:=s) (x:=x) (q:=q) h);have j:=h_ (fun(x:BA) (h:¬q+x.size<=s.size)=>QdV_ (s:=s) (x:=x) h hq);generalize s.data.toList.drop q=l at a g j;go_in;go_wp2_with fail;refine(kW_ _).mono ?_;rintro e w1 ⟨A,rfl,hr,t⟩;have c:=h_ hr;clear hr;go_wp2;go_loopw [6] (fun i wr=>∃k:Nat,k<=21/\Ψ (YV_ l k M)/\i=I_ j_ k/\Ψ (Rd wr 1 A 21 (Qm_ G1_))/\Λ w wr) (fun i _=>21-(intOf i).toNat)
 ·exact⟨0,oo,a,rfl,c,t⟩
 clear c t;obtain⟨k,hk,p,rfl,c,t⟩:=hrel;clear a;by_cases m:k<21
 ·obtain⟨x,o⟩:∃x,G1_[k]? =σ x:=⟨_,gE (by exact m)⟩;have B:=QdA_ x (lm_ o);have r:=h_ (fun h=>Qbo_ p o h);have f:Ψ (x.data.toList.isPrefixOf l=φ->YV_ l (k+1) M):=(show _->_ from fun h=>Qds_ p o h);obtain⟨b,off,rfl,y,c0⟩:=Ud_ c.o m o;clear o p;by_cases hz:q+x.size<=s.size
  ·have n:=g.o x hz;have d2:decide ((q:Int)+x.size<=s.size)=τ:=dt_ oo;have g2:(q:Int)+x.size<=s.size:=oo;have z:∀W:Ω,(Instr.slice 9 (T_ s) (σ (I_ j_ (q:Int))) (σ (I_ j_ ((q:Int)+x.size))) ν).run π W=.ok (T_ (s.extract q (q+x.size))) W:=fun W=>by
    have h:=run_slice_string (P:=π) W 9 s j_ j_ (q:Int) ((q:Int)+x.size) underlying9 oo oo oo;rwa[show((q:Int)+x.size).toNat=q+x.size from oo,it_]at h
   cases d:x.data.toList.isPrefixOf l with
   |true=>
    rw[d]at n;have he:=h_<|r.o d;clear r f g j d;go_wp2;go_quiet (fail);go_wp2;refine bodyPost_ret rs_ rfl ?_;exact⟨by rw[he.o],grow_⟩
   |false=>
    rw[d]at n;have v:Ψ (YV_ l (k+1) M):=f.o d;clear r f g j d;go_wp2;go_quiet (fail);go_wp2;exact⟨⟨k+1,oo,v,by go_num,c,grow_⟩,ms_⟩
  have v:Ψ (YV_ l (k+1) M):=f.o<|j.o x hz;have d2:decide ((q:Int)+x.size<=s.size)=φ:=df_ oo;have g2:¬(q:Int)+x.size<=s.size:=oo;clear r f g j;go_wp2;go_quiet (fail);go_wp2;exact⟨⟨k+1,oo,v,by go_num,c,grow_⟩,ms_⟩
 obtain rfl:k=21:=oo;obtain rfl:=Qbn_ p (lr_ _);go_wp2;go_ret;exact⟨rfl,t⟩
def SgR (z:Int × BA × Int × Nat) (w:Ω) (e:Ending) (w':Ω):Prop:=
 e=R_ (U_ #[A_ #[I_ j_ z.1,T_ z.2.1,I_ j_ z.2.2.1,B_ φ],I_ j_ z.2.2.2])/\Λ w w'
def QbU_ (h:0<KD_ t):Kq_ t n=(5,VX_ ⟨(t.take (KD_ t)).toArray⟩,(n:Int),KD_ t):=by unfold Kq_;rw[ip_ h]
def Qee_ (h:KD_ (v::t)=0) (hc:v=39):Kq_ (v::t) n=(3,⟨((v::t).take (Ur_ (v::t))).toArray⟩,(n:Int),Ur_ (v::t)):=by
 subst hc;unfold Kq_;rw[in_ oo];simp only;rw[in_ dc_,in_ dc_,ip_ trivial]
def QbT_ (h:KD_ (v::t)=0) (h1:QN_ v=φ) (h2:Kz_ v=φ) (hc:¬v=39):Kq_ (v::t) n=(4,⟨(XU_ (v::t)).toArray⟩,(n:Int),(XU_ (v::t)).length):=by
 unfold Kq_;rw[in_ oo];simp only;rw[in_ (by rw[h1];decide),in_ (by rw[h2];decide),in_ hc]
def v7_ (l:List UInt8):KD_ l<=η l:=by
 unfold KD_;split
 ·exact K3_ _ _
 omega
def QhF_ (l:List UInt8):VJ_ l<=η l:=by
 induction l with
 |nil=>exact lr_ _
 |cons c l ih=>
  unfold VJ_;split
  ·simp
  split
  ·split<;>simp<;>omega
  simp
def QdY_ (l:List UInt8):Ur_ l<=η l:=by
 unfold Ur_;split
 ·omega
 have:=QhF_ (l.drop 1);rw[List.length_drop]at this;omega
def QfD_ (l:List UInt8):(XU_ l).length<=2:=by
 have b:∀a:List (List UInt8),(∀m∈a,η m<=2)->(X6_ a l).length<=2:=by
  intro a
  induction a with
  |nil=>intro _;simp[X6_]
  |cons m a ih=>
   intro h;by_cases hm:m.isPrefixOf l=τ
   ·rw[Vn_ hm];exact h m<|List.mem_cons_self ..
   rw[JS_ hm];exact ih (fun x hx=>h x (List.mem_cons_of_mem _ hx))
 exact b marks04 dc_
def k0_ (q:Nat) (w:Ω) (hq:q<s.size) (hs:s.size<=1048576) (hn:0<KD_ (s.data.toList.drop q)):
  Δ π 68 #[T_ s,I_ j_ q] w (SgR (Kq_ (s.data.toList.drop q) q) w):=by
 rw[QbU_ q hn,<-XK_];have a:=v7_<|s.data.toList.drop q;rw[List.length_drop,QF_]at a;have HN:=h_ (fun W=>Zf_ s q W oo oo);generalize KD_ (s.data.toList.drop q)=n at hn a HN |-
 have HT:=h_ (fun W=>Vw_ (s.extract q (q+n)) W (by unfold maxLen;simp;omega));have b:∀W:Ω,(Instr.slice 9 (T_ s) (σ (I_ j_ (q:Int))) (σ (I_ j_ ((q:Int)+n))) ν).run π W=.ok (T_ (s.extract q (q+n))) W:=fun W=>by
  have h:=run_slice_string (P:=π) W 9 s j_ j_ (q:Int) ((q:Int)+n) underlying9 oo oo oo;rwa[show((q:Int)+n).toNat=q+n from oo,it_]at h
 unfold SgR;generalize VX_ (s.extract q (q+n))=x at HT |-
 go_in;go_wp2_with fail;refine mb_ (HN.o _) ?_;rintro w1 rfl;have hK:=Blk.new w 89 #[I_ j_ 0,T_ ⟨#[]⟩,I_ j_ 0,B_ φ];go_wp2_with fail;refine mb_ (HT.o _) ?_;rintro w2 rfl;go_wp2;refine bodyPost_ret rs_ rfl ?_;exact⟨rfl,grow_⟩
def zU_ (h:KD_ (v::t)=0) (h1:QN_ v=τ):Kq_ (v::t) n=if 30<Zb_ Qp_ (v::t)then (0,⟨#[]⟩,0,0)else (1,⟨((v::t).take (Zb_ Qp_ (v::t))).toArray⟩,(n:Int),Zb_ Qp_ (v::t)):=by
 unfold Kq_;rw[in_ oo];simp only;rw[ip_ h1]
def xw_ (h:KD_ (v::t)=0) (h1:QN_ v=φ) (h2:Kz_ v=τ):Kq_ (v::t) n=if 12<Zb_ Kz_ (v::t)then (0,⟨#[]⟩,0,0)else (2,⟨((v::t).take (Zb_ Kz_ (v::t))).toArray⟩,(n:Int),Zb_ Kz_ (v::t)):=by
 unfold Kq_;rw[in_ oo];simp only;rw[in_ (by rw[h1];decide),ip_ h2]
def Xk_ (p:UInt8->Bool) (s:BA) (q n:Nat):Prop:=((s.data.toList.drop q).take (n-q)).all p=τ
section
variable {p:UInt8->Bool} {s:BA} {q n:Nat}
def VN_ (p:UInt8->Bool) (s:BA) (q:Nat):Xk_ p s q q:=by unfold Xk_;rw[Nat.sub_self];rfl
def XA_ (h:Xk_ p s q n) (hq:q<=n) (hn:n<s.size) (hc:p s[n]=τ):Xk_ p s q (n+1):=by
 unfold Xk_ at h |-
 have hl:n-q<(s.data.toList.drop q).length:=by rw[Zl_];omega
 rw[show n+1-q=n-q+1 from oo,List.take_succ_eq_append_getElem hl,List.all_append,h,jg_ hq hn hl];simp[hc]
def VM_ (h:Xk_ p s q n) (hq:q<=n) (hn:n<s.size) (hc:p s[n]=φ):Zb_ p (s.data.toList.drop q)=n-q:=
 jR_ h (fun hl=>by rw[jg_ hq hn hl];exact hc) (by rw[Zl_];omega)
def J2_ (h:Xk_ p s q n) (hq:q<=n) (hn:n=s.size):Zb_ p (s.data.toList.drop q)=n-q:=
 jR_ h (fun hl=>by rw[Zl_]at hl;omega) (by rw[Zl_];omega)
end
def kZ_ (q:Nat) (w:Ω) (hq:q<s.size) (hs:s.size<=1048576) (f:KD_ (s.data.toList.drop q)=0) (g:QN_ s[q]=τ) (C:¬30<Zb_ Qp_ (s.data.toList.drop q)):
  Δ π 68 #[T_ s,I_ j_ q] w (SgR (Kq_ (s.data.toList.drop q) q) w):=by
 have hz:Kq_ (s.data.toList.drop q) q=(1,s.extract q (q+Zb_ Qp_ (s.data.toList.drop q)),(q:Int),Zb_ Qp_ (s.data.toList.drop q)):=by
  rw[XK_];rw[KL_ hq]at f C |-
  rw[zU_ q f g,in_ C]
 rw[hz];clear hz;have HN:=h_ (fun W=>show Δ π 85 #[T_ s,I_ j_ q] W fun e w'=>e=R_ (I_ j_ 0)/\W=w' by have h:=Zf_ s q W oo oo;rwa[f]at h);have m:=h_ (fun(W:Ω)=>show Δ π 87 #[I_ .u8 (s[q].toNat:Int)] W fun e w'=>e=R_ (B_ τ)/\W=w' by rw[<-g];exact Km_ _ W);have p:=K3_ Qp_<|s.data.toList.drop q;rw[Zl_]at p;have v:=h_ (fun(n:Nat) (h:Xk_ Qp_ s q n) h1 (B:n<s.size) h3=>VM_ h h1 B h3);have t:=h_ (fun(n:Nat) (h:Xk_ Qp_ s q n) h1 (B:n=s.size)=>J2_ h h1 B);generalize Zb_ Qp_ (s.data.toList.drop q)=K at C p v t |-
 unfold SgR;have hK:=Blk.new w 89 #[I_ j_ 0,T_ ⟨#[]⟩,I_ j_ 0,B_ φ];clear f g;go_in;go_wp2_with fail;refine mb_ (HN.o _) ?_;rintro w1 rfl;go_wp2_with fail;refine mb_ (m.o _) ?_;rintro w1 rfl;go_wp2;clear HN m
 go_loop [6] (fun i=>∃n:Nat,q<=n/\n<=s.size/\Ψ (Xk_ Qp_ s q n)/\i=I_ j_ n) (fun i=>s.size-(intOf i).toNat)
 ·exact⟨q,oo,oo,VN_ _ _ _,rfl⟩
 obtain⟨n,d,E,l,rfl⟩:=hrel;by_cases k:n<s.size
 ·have x:=h_ (fun(b:Bool) (g:QN_ s[n]=b) (W:Ω)=>show Δ π 87 #[I_ .u8 (s[n].toNat:Int)] W fun e w'=>e=R_ (B_ b)/\W=w' by rw[<-g];exact Km_ _ W);have y:=h_ (fun(b:Bool) (g:Kz_ s[n]=b) (W:Ω)=>show Δ π 88 #[I_ .u8 (s[n].toNat:Int)] W fun e w'=>e=R_ (B_ b)/\W=w' by rw[<-g];exact Q6_ _ W)
  cases r:QN_ s[n]with
  |true=>
   have a:=h_<|x.o _ r;have f:Ψ (Xk_ Qp_ s q (n+1)):=XA_ l d k (show Qp_ s[n]=τ by unfold Qp_;rw[r];rfl);go_wp2_with fail
   refine mb_ (a.o _) ?_;rintro w1 rfl;go_wp2;exact⟨⟨n+1,oo,oo,f,by go_num⟩,ms_⟩
  |false=>
   have a:=h_<|x.o _ r
   cases o:Kz_ s[n]with
   |true=>
    have c:=h_<|y.o _ o;have f:Ψ (Xk_ Qp_ s q (n+1)):=XA_ l d k (show Qp_ s[n]=τ by unfold Qp_;rw[o,τo]);go_wp2_with fail
    refine mb_ (a.o _) ?_;rintro w1 rfl;go_wp2_with fail;refine mb_ (c.o _) ?_;rintro w1 rfl;go_wp2;exact⟨⟨n+1,oo,oo,f,by go_num⟩,ms_⟩
   |false=>
    have c:=h_<|y.o _ o;have j:=v.o n l d k (show Qp_ s[n]=φ by unfold Qp_;rw[r,o];rfl);clear x y r o;go_wp2_with fail
    refine mb_ (a.o _) ?_;rintro w1 rfl;go_wp2_with fail;refine mb_ (c.o _) ?_;rintro w1 rfl;have g3:¬(30:Int)<(n:Int)-q:=oo;have z:q+K=n:=oo;have A:((K:Nat):Int)=(n:Int)-q:=oo;have D:∀W:Ω,(Instr.slice 9 (T_ s) (σ (I_ j_ (q:Int))) (σ (I_ j_ (n:Int))) ν).run π W=.ok (T_ (s.extract q n)) W:=fun W=>by
     have h:=run_slice_string (P:=π) W 9 s j_ j_ (q:Int) (n:Int) underlying9 oo oo oo;rwa[it_,it_]at h
    clear v t l j a c;go_wp2;refine bodyPost_ret rs_ rfl ?_;exact⟨by simp only[z,A],grow_⟩
 have j:=t.o n l d oo;have gl:¬(n:Int)<s.size:=oo;have g3:¬(30:Int)<(n:Int)-q:=oo;have z:q+K=n:=oo;have A:((K:Nat):Int)=(n:Int)-q:=oo;have D:∀W:Ω,(Instr.slice 9 (T_ s) (σ (I_ j_ (q:Int))) (σ (I_ j_ (n:Int))) ν).run π W=.ok (T_ (s.extract q n)) W:=fun W=>by
  have h:=run_slice_string (P:=π) W 9 s j_ j_ (q:Int) (n:Int) underlying9 oo oo oo;rwa[it_,it_]at h
 clear v t l j;go_wp2;refine bodyPost_ret rs_ rfl ?_;exact⟨by simp only[z,A],grow_⟩
def Gv_ (q:Nat) (w:Ω) (hq:q<s.size) (hs:s.size<=1048576) (f:KD_ (s.data.toList.drop q)=0) (g:QN_ s[q]=τ) (A:30<Zb_ Qp_ (s.data.toList.drop q)):
  Δ π 68 #[T_ s,I_ j_ q] w (SgR (Kq_ (s.data.toList.drop q) q) w):=by
 have hz:Kq_ (s.data.toList.drop q) q=(0,⟨#[]⟩,0,0):=by
  skip
  rw[KL_ hq]at f A |-
  rw[zU_ q f g,ip_ A]
 rw[hz];clear hz;have HN:=h_ (fun W=>show Δ π 85 #[T_ s,I_ j_ q] W fun e w'=>e=R_ (I_ j_ 0)/\W=w' by have h:=Zf_ s q W oo oo;rwa[f]at h);have m:=h_ (fun(W:Ω)=>show Δ π 87 #[I_ .u8 (s[q].toNat:Int)] W fun e w'=>e=R_ (B_ τ)/\W=w' by rw[<-g];exact Km_ _ W);have p:=K3_ Qp_<|s.data.toList.drop q;rw[Zl_]at p;have v:=h_ (fun(n:Nat) (h:Xk_ Qp_ s q n) h1 (z:n<s.size) h3=>VM_ h h1 z h3);have t:=h_ (fun(n:Nat) (h:Xk_ Qp_ s q n) h1 (z:n=s.size)=>J2_ h h1 z);generalize Zb_ Qp_ (s.data.toList.drop q)=K at A p v t |-
 unfold SgR;have hK:=Blk.new w 89 #[I_ j_ 0,T_ ⟨#[]⟩,I_ j_ 0,B_ φ];clear f g;go_in;go_wp2_with fail;refine mb_ (HN.o _) ?_;rintro w1 rfl;go_wp2_with fail;refine mb_ (m.o _) ?_;rintro w1 rfl;go_wp2;clear HN m
 go_loop [6] (fun i=>∃n:Nat,q<=n/\n<=s.size/\Ψ (Xk_ Qp_ s q n)/\i=I_ j_ n) (fun i=>s.size-(intOf i).toNat)
 ·exact⟨q,oo,oo,VN_ _ _ _,rfl⟩
 obtain⟨n,d,B,l,rfl⟩:=hrel;by_cases k:n<s.size
 ·have x:=h_ (fun(b:Bool) (g:QN_ s[n]=b) (W:Ω)=>show Δ π 87 #[I_ .u8 (s[n].toNat:Int)] W fun e w'=>e=R_ (B_ b)/\W=w' by rw[<-g];exact Km_ _ W);have y:=h_ (fun(b:Bool) (g:Kz_ s[n]=b) (W:Ω)=>show Δ π 88 #[I_ .u8 (s[n].toNat:Int)] W fun e w'=>e=R_ (B_ b)/\W=w' by rw[<-g];exact Q6_ _ W)
  cases r:QN_ s[n]with
  |true=>
   have a:=h_<|x.o _ r;have f:Ψ (Xk_ Qp_ s q (n+1)):=XA_ l d k (show Qp_ s[n]=τ by unfold Qp_;rw[r];rfl);go_wp2_with fail
   refine mb_ (a.o _) ?_;rintro w1 rfl;go_wp2;exact⟨⟨n+1,oo,oo,f,by go_num⟩,ms_⟩
  |false=>
   have a:=h_<|x.o _ r
   cases o:Kz_ s[n]with
   |true=>
    have c:=h_<|y.o _ o;have f:Ψ (Xk_ Qp_ s q (n+1)):=XA_ l d k (show Qp_ s[n]=τ by unfold Qp_;rw[o,τo]);go_wp2_with fail
    refine mb_ (a.o _) ?_;rintro w1 rfl;go_wp2_with fail;refine mb_ (c.o _) ?_;rintro w1 rfl;go_wp2;exact⟨⟨n+1,oo,oo,f,by go_num⟩,ms_⟩
   |false=>
    have c:=h_<|y.o _ o;have j:=v.o n l d k (show Qp_ s[n]=φ by unfold Qp_;rw[r,o];rfl);clear x y r o;go_wp2_with fail
    refine mb_ (a.o _) ?_;rintro w1 rfl;go_wp2_with fail;refine mb_ (c.o _) ?_;rintro w1 rfl;have g3:  (30:Int)<(n:Int)-q:=oo;clear v t l j a c;go_wp2;refine bodyPost_ret rs_ rfl ?_;exact⟨rfl,grow_⟩
 have j:=t.o n l d oo;have gl:¬(n:Int)<s.size:=oo;have g3:  (30:Int)<(n:Int)-q:=oo;clear v t l j;go_wp2;refine bodyPost_ret rs_ rfl ?_;exact⟨rfl,grow_⟩
def jy_ (q:Nat) (w:Ω) (hq:q<s.size) (hs:s.size<=1048576) (g:KD_ (s.data.toList.drop q)=0) (m:QN_ s[q]=φ) (c:Kz_ s[q]=τ) (A:¬12<Zb_ Kz_ (s.data.toList.drop q)):
  Δ π 68 #[T_ s,I_ j_ q] w (SgR (Kq_ (s.data.toList.drop q) q) w):=by
 have hz:Kq_ (s.data.toList.drop q) q=(2,s.extract q (q+Zb_ Kz_ (s.data.toList.drop q)),(q:Int),Zb_ Kz_ (s.data.toList.drop q)):=by
  rw[XK_];rw[KL_ hq]at g A |-
  rw[xw_ q g m c,in_ A]
 rw[hz];clear hz;have HN:=h_ (fun W=>show Δ π 85 #[T_ s,I_ j_ q] W fun e w'=>e=R_ (I_ j_ 0)/\W=w' by have h:=Zf_ s q W oo oo;rwa[g]at h);have j:=h_ (fun(W:Ω)=>show Δ π 87 #[I_ .u8 (s[q].toNat:Int)] W fun e w'=>e=R_ (B_ φ)/\W=w' by rw[<-m];exact Km_ _ W);have k:=h_ (fun(W:Ω)=>show Δ π 88 #[I_ .u8 (s[q].toNat:Int)] W fun e w'=>e=R_ (B_ τ)/\W=w' by rw[<-c];exact Q6_ _ W);have o:=K3_ Kz_<|s.data.toList.drop q;rw[Zl_]at o;have t:=h_ (fun(n:Nat) (h:Xk_ Kz_ s q n) h1 (z:n<s.size) h3=>VM_ h h1 z h3);have r:=h_ (fun(n:Nat) (h:Xk_ Kz_ s q n) h1 (z:n=s.size)=>J2_ h h1 z);generalize Zb_ Kz_ (s.data.toList.drop q)=K at A o t r |-
 unfold SgR;have hK:=Blk.new w 89 #[I_ j_ 0,T_ ⟨#[]⟩,I_ j_ 0,B_ φ];clear g m c;go_in;go_wp2_with fail;refine mb_ (HN.o _) ?_;rintro w1 rfl;go_wp2_with fail;refine mb_ (j.o _) ?_;rintro w1 rfl;go_wp2_with fail;refine mb_ (k.o _) ?_;rintro w1 rfl;go_wp2;clear HN j k
 go_loop [6] (fun i=>∃n:Nat,q<=n/\n<=s.size/\Ψ (Xk_ Kz_ s q n)/\i=I_ j_ n) (fun i=>s.size-(intOf i).toNat)
 ·exact⟨q,oo,oo,VN_ _ _ _,rfl⟩
 obtain⟨n,f,C,l,rfl⟩:=hrel;by_cases p:n<s.size
 ·skip
  have v:=h_ (fun(b:Bool) (m:Kz_ s[n]=b) (W:Ω)=>show Δ π 88 #[I_ .u8 (s[n].toNat:Int)] W fun e w'=>e=R_ (B_ b)/\W=w' by rw[<-m];exact Q6_ _ W)
  cases c:Kz_ s[n]with
  |true=>
   have a:=h_<|v.o _ c;have g:Ψ (Xk_ Kz_ s q (n+1)):=XA_ l f p<|c;go_wp2_with fail
   refine mb_ (a.o _) ?_;rintro w1 rfl;go_wp2;exact⟨⟨n+1,oo,oo,g,by go_num⟩,ms_⟩
  |false=>
   have a:=h_<|v.o _ c;have d:=t.o n l f p c;clear v c;go_wp2_with fail
   refine mb_ (a.o _) ?_;rintro w1 rfl;have g3:¬(12:Int)<(n:Int)-q:=oo;have x:q+K=n:=oo;have y:((K:Nat):Int)=(n:Int)-q:=oo;have B:∀W:Ω,(Instr.slice 9 (T_ s) (σ (I_ j_ (q:Int))) (σ (I_ j_ (n:Int))) ν).run π W=.ok (T_ (s.extract q n)) W:=fun W=>by
    have h:=run_slice_string (P:=π) W 9 s j_ j_ (q:Int) (n:Int) underlying9 oo oo oo;rwa[it_,it_]at h
   clear t r l d a;go_wp2;refine bodyPost_ret rs_ rfl ?_;exact⟨by simp only[x,y],grow_⟩
 have d:=r.o n l f oo;have gl:¬(n:Int)<s.size:=oo;have g3:¬(12:Int)<(n:Int)-q:=oo;have x:q+K=n:=oo;have y:((K:Nat):Int)=(n:Int)-q:=oo;have B:∀W:Ω,(Instr.slice 9 (T_ s) (σ (I_ j_ (q:Int))) (σ (I_ j_ (n:Int))) ν).run π W=.ok (T_ (s.extract q n)) W:=fun W=>by
  have h:=run_slice_string (P:=π) W 9 s j_ j_ (q:Int) (n:Int) underlying9 oo oo oo;rwa[it_,it_]at h
 clear t r l d;go_wp2;refine bodyPost_ret rs_ rfl ?_;exact⟨by simp only[x,y],grow_⟩
def Uo_ (q:Nat) (w:Ω) (hq:q<s.size) (hs:s.size<=1048576) (g:KD_ (s.data.toList.drop q)=0) (m:QN_ s[q]=φ) (c:Kz_ s[q]=τ) (y:12<Zb_ Kz_ (s.data.toList.drop q)):
  Δ π 68 #[T_ s,I_ j_ q] w (SgR (Kq_ (s.data.toList.drop q) q) w):=by
 have hz:Kq_ (s.data.toList.drop q) q=(0,⟨#[]⟩,0,0):=by
  skip
  rw[KL_ hq]at g y |-
  rw[xw_ q g m c,ip_ y]
 rw[hz];clear hz;have HN:=h_ (fun W=>show Δ π 85 #[T_ s,I_ j_ q] W fun e w'=>e=R_ (I_ j_ 0)/\W=w' by have h:=Zf_ s q W oo oo;rwa[g]at h);have j:=h_ (fun(W:Ω)=>show Δ π 87 #[I_ .u8 (s[q].toNat:Int)] W fun e w'=>e=R_ (B_ φ)/\W=w' by rw[<-m];exact Km_ _ W);have k:=h_ (fun(W:Ω)=>show Δ π 88 #[I_ .u8 (s[q].toNat:Int)] W fun e w'=>e=R_ (B_ τ)/\W=w' by rw[<-c];exact Q6_ _ W);have o:=K3_ Kz_<|s.data.toList.drop q;rw[Zl_]at o;have t:=h_ (fun(n:Nat) (h:Xk_ Kz_ s q n) h1 (x:n<s.size) h3=>VM_ h h1 x h3);have r:=h_ (fun(n:Nat) (h:Xk_ Kz_ s q n) h1 (x:n=s.size)=>J2_ h h1 x);generalize Zb_ Kz_ (s.data.toList.drop q)=K at y o t r |-
 unfold SgR;have hK:=Blk.new w 89 #[I_ j_ 0,T_ ⟨#[]⟩,I_ j_ 0,B_ φ];clear g m c;go_in;go_wp2_with fail;refine mb_ (HN.o _) ?_;rintro w1 rfl;go_wp2_with fail;refine mb_ (j.o _) ?_;rintro w1 rfl;go_wp2_with fail;refine mb_ (k.o _) ?_;rintro w1 rfl;go_wp2;clear HN j k
 go_loop [6] (fun i=>∃n:Nat,q<=n/\n<=s.size/\Ψ (Xk_ Kz_ s q n)/\i=I_ j_ n) (fun i=>s.size-(intOf i).toNat)
 ·exact⟨q,oo,oo,VN_ _ _ _,rfl⟩
 obtain⟨n,f,z,l,rfl⟩:=hrel;by_cases p:n<s.size
 ·skip
  have v:=h_ (fun(b:Bool) (m:Kz_ s[n]=b) (W:Ω)=>show Δ π 88 #[I_ .u8 (s[n].toNat:Int)] W fun e w'=>e=R_ (B_ b)/\W=w' by rw[<-m];exact Q6_ _ W)
  cases c:Kz_ s[n]with
  |true=>
   have a:=h_<|v.o _ c;have g:Ψ (Xk_ Kz_ s q (n+1)):=XA_ l f p<|c;go_wp2_with fail
   refine mb_ (a.o _) ?_;rintro w1 rfl;go_wp2;exact⟨⟨n+1,oo,oo,g,by go_num⟩,ms_⟩
  |false=>
   have a:=h_<|v.o _ c;have d:=t.o n l f p c;clear v c;go_wp2_with fail
   refine mb_ (a.o _) ?_;rintro w1 rfl;have g3:  (12:Int)<(n:Int)-q:=oo;clear t r l d a;go_wp2;refine bodyPost_ret rs_ rfl ?_;exact⟨rfl,grow_⟩
 have d:=r.o n l f oo;have gl:¬(n:Int)<s.size:=oo;have g3:  (12:Int)<(n:Int)-q:=oo;clear t r l d;go_wp2;refine bodyPost_ret rs_ rfl ?_;exact⟨rfl,grow_⟩
def jz_ (q:Nat) (w:Ω) (hq:q<s.size) (hs:s.size<=1048576) (f:KD_ (s.data.toList.drop q)=0) (c:s[q]=39):
  Δ π 68 #[T_ s,I_ j_ q] w (SgR (Kq_ (s.data.toList.drop q) q) w):=by
 have hz:Kq_ (s.data.toList.drop q) q=(3,s.extract q (q+Ur_ (s.data.toList.drop q)),(q:Int),Ur_ (s.data.toList.drop q)):=by
  rw[XK_];rw[KL_ hq]at f |-
  rw[Qee_ q f c]
 rw[hz];clear hz;have HN:=h_ (fun W=>show Δ π 85 #[T_ s,I_ j_ q] W fun e w'=>e=R_ (I_ j_ 0)/\W=w' by have h:=Zf_ s q W oo oo;rwa[f]at h);have a:=h_ (fun(W:Ω)=>show Δ π 87 #[I_ .u8 (s[q].toNat:Int)] W fun e w'=>e=R_ (B_ φ)/\W=w' by rw[show φ=QN_ s[q]by rw[c];rfl];exact Km_ _ W);have b:=h_ (fun(W:Ω)=>show Δ π 88 #[I_ .u8 (s[q].toNat:Int)] W fun e w'=>e=R_ (B_ φ)/\W=w' by rw[show φ=Kz_ s[q]by rw[c];rfl];exact Q6_ _ W);have g:=h_ (fun W=>JQ_ s q W oo oo);have i:((s[q].toNat:Int)==39)=τ:=by rw[c];rfl
 have d:=QdY_<|s.data.toList.drop q;rw[Zl_]at d;generalize Ur_ (s.data.toList.drop q)=n at d g |-
 have j:∀W:Ω,(Instr.slice 9 (T_ s) (σ (I_ j_ (q:Int))) (σ (I_ j_ ((q:Int)+n))) ν).run π W=.ok (T_ (s.extract q (q+n))) W:=fun W=>by
  have h:=run_slice_string (P:=π) W 9 s j_ j_ (q:Int) ((q:Int)+n) underlying9 oo oo oo;rwa[show((q:Int)+n).toNat=q+n from oo,it_]at h
 unfold SgR;have hK:=Blk.new w 89 #[I_ j_ 0,T_ ⟨#[]⟩,I_ j_ 0,B_ φ];clear f c;go_in;go_wp2_with fail;refine mb_ (HN.o _) ?_;rintro w1 rfl;go_wp2_with fail;refine mb_ (a.o _) ?_;rintro w1 rfl;go_wp2_with fail;refine mb_ (b.o _) ?_;rintro w1 rfl;go_wp2_with fail;refine mb_ (g.o _) ?_;rintro w1 rfl;clear HN a b g;go_wp2;refine bodyPost_ret rs_ rfl ?_;exact⟨rfl,grow_⟩
def kY_ (q:Nat) (w:Ω) (hq:q<s.size) (hs:s.size<=1048576) (f:KD_ (s.data.toList.drop q)=0) (g:QN_ s[q]=φ) (j:Kz_ s[q]=φ) (i:¬s[q]=39):
  Δ π 68 #[T_ s,I_ j_ q] w (SgR (Kq_ (s.data.toList.drop q) q) w):=by
 have hz:Kq_ (s.data.toList.drop q) q=(4,⟨(XU_ (s.data.toList.drop q)).toArray⟩,(q:Int),(XU_ (s.data.toList.drop q)).length):=by
  rw[KL_ hq]at f |-
  rw[QbT_ q f g j i]
 rw[hz];clear hz;have HN:=h_ (fun W=>show Δ π 85 #[T_ s,I_ j_ q] W fun e w'=>e=R_ (I_ j_ 0)/\W=w' by have h:=Zf_ s q W oo oo;rwa[f]at h);have b:=h_ (fun(W:Ω)=>show Δ π 87 #[I_ .u8 (s[q].toNat:Int)] W fun e w'=>e=R_ (B_ φ)/\W=w' by rw[<-g];exact Km_ _ W);have c:=h_ (fun(W:Ω)=>show Δ π 88 #[I_ .u8 (s[q].toNat:Int)] W fun e w'=>e=R_ (B_ φ)/\W=w' by rw[<-j];exact Q6_ _ W);have d:=h_ (fun W=>jx_ s q W oo oo);have l:=Qhq_ i;have k:=QfD_<|s.data.toList.drop q;have a:(⟨(XU_ (s.data.toList.drop q)).toArray⟩:BA).size=(XU_ (s.data.toList.drop q)).length:=rfl;revert d a;generalize (⟨(XU_ (s.data.toList.drop q)).toArray⟩:BA)=x;intro d a;rw[<-a]at k |-
 clear a;unfold SgR;have hK:=h_<|Blk.new w 89 #[I_ j_ 0,T_ ⟨#[]⟩,I_ j_ 0,B_ φ];clear f i g j;go_in;go_wp2_with fail
 refine mb_ (HN.o _) ?_;rintro w1 rfl;go_wp2_with fail;refine mb_ (b.o _) ?_;rintro w1 rfl;go_wp2_with fail;refine mb_ (c.o _) ?_;rintro w1 rfl;go_wp2_with fail;refine mb_ (d.o _) ?_;intro w1 h1;clear HN b c d;have m:=Ql_ h1;have K:=hK.o.next h1;have c0:=K.q0;have c1:=K.q1;have c2:=K.q2;have c3:=K.q3;have fK:=K.frozen;have zK:=K.lt;go_wp2;refine bodyPost_ret (by simp[results,Tryz.results68,go_sem,c0,c1,c2,c3];try rfl) rfl ?_;exact⟨rfl,grow_⟩
def xE_ (q:Nat) (w:Ω) (b:q<s.size) (hs:s.size<=1048576):
  Δ π 68 #[T_ s,I_ j_ q] w (SgR (Kq_ (s.data.toList.drop q) q) w):=by
 by_cases hn:0<KD_ (s.data.toList.drop q)
 ·exact k0_ s q w b hs hn
 have a:KD_ (s.data.toList.drop q)=0:=oo
 cases c:QN_ s[q]with
 |true=>
  by_cases d:30<Zb_ Qp_ (s.data.toList.drop q)
  ·exact Gv_ s q w b hs a c d
  exact kZ_ s q w b hs a c d
 |false=>
  cases e:Kz_ s[q]with
  |true=>
   by_cases d:12<Zb_ Kz_ (s.data.toList.drop q)
   ·exact Uo_ s q w b hs a c e d
   exact jy_ s q w b hs a c e d
  |false=>
   by_cases hc:s[q]=39
   ·exact jz_ s q w b hs a hc
   exact kY_ s q w b hs a c e hc
def SgI (l:List UInt8) (w:Ω) (e:Ending) (w':Ω):Prop:=
 ∃(k:Int) (x:BA) (z:Nat) (ok:Bool),e=R_ (U_ #[I_ j_ k,T_ x,I_ j_ z,B_ ok])/\SgOk l k x z ok/\z<=η l/\Λ w w'
def kI_ (w:Ω) (a:0<s.size) (hs:s.size<=maxLen):Δ π 117 #[T_ s] w (SgI s.data.toList w):=by
 have hl:=QF_ s
 cases c:QN_ s[0]with
 |true=>
  refine(WD_ s w a hs c).mono fun e w' ⟨h1,b⟩=>⟨_,_,_,_,h1,QhM_ a c,?_,by subst b;exact br⟩
  rw[ZD_];exact K3_ _ _
 |false=>
  cases d:Kz_ s[0]with
  |true=>
   refine(zS_ s w a hs c d).mono fun e w' ⟨h1,b⟩=>⟨_,_,_,_,h1,QiA_ a c d,?_,by subst b;exact br⟩
   rw[ZD_];exact K3_ _ _
  |false=>
   by_cases g:s[0]=39
   ·refine(zT_ s w a hs c d g).mono fun e w' ⟨h1,b⟩=>⟨_,_,_,_,h1,QiB_ a g,?_,by subst b;exact br⟩
    rw[hl];unfold qP_;split
    ·exact lz_ _
    simp;omega
   cases h:Lib.hasPrefix s.data.toList [47,47]with
   |true=>
    refine(WE_ s w a hs c d g h).mono fun e w' ⟨h1,b⟩=>⟨_,_,_,_,h1,QhN_ a h,?_,by subst b;exact br⟩
    rw[ZD_];exact K3_ _ _
   |false=>
    have hm:=QhL_ a c d g h;refine(WC_ s w a hs c d g h).mono fun e w' ⟨h1,b⟩=>?_
    by_cases i:XO_ s=0
    ·rw[Gw_ i]at h1;refine⟨0,⟨#[]⟩,0,φ,h1,?_,lz_ _,b⟩;unfold SgOk;rw[in_ dc_];intro q;rw[hm q];exact i
    rw[Gx_ rfl (Nat.pos_of_ne_zero i)]at h1;have f:XO_ s<=η s.data.toList:=(by rw[hl];exact(xg_ s a).2);refine⟨4,_,_,τ,h1,?_,f,b⟩;unfold SgOk;rw[ip_ rfl];exact⟨Nat.pos_of_ne_zero i,f,hm⟩
def Qk_ (k:Int):Bool:=inB k 1 11
def VW_ (k:Int):Bool:=inB k 12 17
def Ka_ (k:Int):Bool:=k==12||k==20||k==19
def ZR_ (k:Int):Bool:=VW_ k||k==19
def xR_ (k:Int):Bool:=Ka_ k||k==21
def isK (j k:Int):Bool:=k==j
def Q2_ {a b c:Int} {v:Bool} (h:inB a b c=v) (w:Ω):Δ π 62 #[I_ j_ a,I_ j_ b,I_ j_ c] w (RS_ (B_ v) w):=by rw[<-h];exact QL_ a b c w
def vl_ (p:Int->Bool) (l:LI) (k:Nat):Prop:=(l.take k).all p=τ
section
variable {p:Int->Bool} {l:LI} {k:Nat} {x:Int}
def XH_ (p:Int->Bool) (l:LI):vl_ p l 0:=by simp[vl_]
def XG_ (h:vl_ p l k) (hx:l[k]? =σ x) (hp:p x=τ):vl_ p l (k+1):=by
 unfold vl_ at h |-
 rw[List.take_add_one,hx,List.all_append,h];simp[hp]
def Jd_ (hx:l[k]? =σ x) (hp:p x=φ):l.all p=φ:=by
 rw[List.all_eq_false];exact⟨x,lm_ hx,by simp[hp]⟩
def YA_ (h:vl_ p l k) (hk:η l<=k):l.all p=τ:=by
 unfold vl_ at h;rwa[List.take_of_length_le hk]at h
end
def Z0_:Δ π 213 #[I_ j_ k] h (RS_ (B_ (Qk_ k)) h):=by
 have H1:=h_ (fun W=>QL_ k 1 11 W);unfold Qk_;generalize inB k 1 11=u at H1 |-
 go_in;go_wp2_with (go_at_call 62;refine mb_ (H1.o _) ?_;rintro w1 rfl);exact Φ
def zw_:Δ π 171 #[I_ j_ k] h (RS_ (B_ (VW_ k)) h):=by
 have H1:=h_ (fun W=>QL_ k 12 17 W);unfold VW_;generalize inB k 12 17=u at H1 |-
 go_in;go_wp2_with (go_at_call 62;refine mb_ (H1.o _) ?_;rintro w1 rfl);exact Φ
def Zq_:Δ π 133 #[I_ j_ k] h (RS_ (B_ (Qk_ k)) h):=by
 have H1:=h_ (fun W=>KH_ k 1 11 W);unfold Qk_;generalize inB k 1 11=u at H1 |-
 go_in;go_wp2_with (go_at_call 34;refine mb_ (H1.o _) ?_;rintro w1 rfl);exact Φ
def Vi_:Δ π 172 #[I_ j_ k] h (RS_ (B_ (Ka_ k)) h):=by
 cases h1:(k==12)with
 |true=>
  have a:Ka_ k=τ:=by unfold Ka_;rw[h1];rfl
  rw[a];go_in;exact Θ
 |false=>
  cases h2:(k==20)with
  |true=>
   have a:Ka_ k=τ:=(by unfold Ka_;rw[h1,h2];rfl);rw[a];go_in;exact Θ
  |false=>
   have a:Ka_ k=(k==19):=(by unfold Ka_;rw[h1,h2];rfl);rw[a];go_in;exact Θ
def Ji_:Δ π 216 #[I_ j_ k] h (RS_ (B_ (isK 18 k)) h):=by
 go_in;go_wp2;go_ret;refine⟨Qg_ ?_,rfl⟩
 rfl
def Qa8_:Δ π 215 #[I_ j_ k] h (RS_ (B_ (isK 5 k)) h):=by
 go_in;go_wp2;go_ret;refine⟨Qg_ ?_,rfl⟩
 rfl
def jv_:Δ π 242 #[I_ j_ k] h (RS_ (B_ (isK 1 k)) h):=by
 go_in;go_wp2;go_ret;refine⟨Qg_ ?_,rfl⟩
 rfl
def Qbd_:Δ π 217 #[I_ j_ k] h (RS_ (B_ (ZR_ k)) h):=by
 have d:=h_ (fun(b:Bool) (a:VW_ k=b) (W:Ω)=>show Δ π 171 #[I_ j_ k] W fun e w'=>e=R_ (B_ b)/\W=w' by rw[<-a];exact zw_ k W)
 cases a:VW_ k with
 |true=>
  have f:=h_<|d.o _ a;have c:ZR_ k=τ:=by unfold ZR_;first|(rw[a];rfl)|(unfold VW_;rw[a];rfl)
  rw[c];go_in;go_wp2_with (go_at_call 171;refine mb_ (f.o _) ?_;rintro w1 rfl);exact Φ
 |false=>
  have f:=h_<|d.o _ a;have c:ZR_ k=(k==19):=by unfold ZR_;first|(rw[a];rfl)|(unfold VW_;rw[a];rfl)
  rw[c];go_in;go_wp2_with (go_at_call 171;refine mb_ (f.o _) ?_;rintro w1 rfl);exact Φ
def Qdd_:Δ π 218 #[I_ j_ k] h (RS_ (B_ (xR_ k)) h):=by
 have d:=h_ (fun(b:Bool) (a:Ka_ k=b) (W:Ω)=>show Δ π 172 #[I_ j_ k] W fun e w'=>e=R_ (B_ b)/\W=w' by rw[<-a];exact Vi_ k W)
 cases a:Ka_ k with
 |true=>
  have f:=h_<|d.o _ a;have c:xR_ k=τ:=by unfold xR_;first|(rw[a];rfl)|(unfold VW_;rw[a];rfl)
  rw[c];go_in;go_wp2_with (go_at_call 172;refine mb_ (f.o _) ?_;rintro w1 rfl);exact Φ
 |false=>
  have f:=h_<|d.o _ a;have c:xR_ k=(k==21):=by unfold xR_;first|(rw[a];rfl)|(unfold VW_;rw[a];rfl)
  rw[c];go_in;go_wp2_with (go_at_call 172;refine mb_ (f.o _) ?_;rintro w1 rfl);exact Φ
def Uc_:Δ π 131 #[I_ j_ k] h (RS_ (B_ (ZR_ k)) h):=by
 have d:=h_ (fun(b:Bool) (a:inB k 12 17=b) (W:Ω)=>show Δ π 34 #[I_ j_ k,I_ j_ 12,I_ j_ 17] W fun e w'=>e=R_ (B_ b)/\W=w' by rw[<-a];exact KH_ k 12 17 W)
 cases a:inB k 12 17 with
 |true=>
  have f:=h_<|d.o _ a;have c:ZR_ k=τ:=by unfold ZR_;first|(rw[a];rfl)|(unfold VW_;rw[a];rfl)
  rw[c];go_in;go_wp2_with (go_at_call 34;refine mb_ (f.o _) ?_;rintro w1 rfl);exact Φ
 |false=>
  have f:=h_<|d.o _ a;have c:ZR_ k=(k==19):=by unfold ZR_;first|(rw[a];rfl)|(unfold VW_;rw[a];rfl)
  rw[c];go_in;go_wp2_with (go_at_call 34;refine mb_ (f.o _) ?_;rintro w1 rfl);exact Φ
def Ku_ (hn:n<=4194304) (hl:Ψ (η l=n)) (hr:Rd w 1 d n (Qa_ l)):
  Δ π 212 #[S_ d n c,.func (.func 213) #[] #[]] w fun e w'=>e=R_ (B_ (l.all (Qk_)))/\Λ w w':=by
 apply KE_;have HR:=h_ hr;clear hr;go_in;go_wp2
 go_loop [9] (fun i=>∃k:Nat,k<=n/\vl_ (Qk_) l k/\i=I_ j_ k) (fun i=>n-(intOf i).toNat)
 ·exact⟨0,lz_ _,XH_ _ l,rfl⟩
 obtain⟨k,hk,h,rfl⟩:=hrel;by_cases m:k<n
 ·obtain⟨x,hd⟩:∃A,l[k]? =σ A:=⟨_,gE (by have:=hl.o;omega)⟩;obtain⟨b,off,rfl,p,c0⟩:=Qu_ HR.o m hd;have j:=h_ (fun(v:Bool) (hb:Qk_ x=v) (W:Ω)=>show Δ π 213 #[I_ j_ x] W fun e w'=>e=R_ (B_ v)/\W=w' by rw[<-hb];exact Z0_ _ W)
  cases g:Qk_ x with
  |false=>
   have f:=h_<|Jd_ hd g;have a:=h_<|j.o _ g;clear j g hd h;go_wp2_with (go_at_call 213;refine mb_ (a.o _) ?_;rintro w1 rfl)
   go_ret;exact⟨Qg_ f.o.symm,rfl⟩
  |true=>
   have o:=XG_ h hd g;have a:=h_<|j.o _ g;clear j g hd h;go_wp2_with (go_at_call 213;refine mb_ (a.o _) ?_;rintro w1 rfl)
   exact⟨⟨k+1,oo,o,by go_num⟩,ms_⟩
 have f:=h_<|YA_ h (by have:=hl.o;omega);clear h;go_wp2;go_ret;exact⟨Qg_ f.o.symm,rfl⟩
def Qe3_ (hn:n<=4194304) (hl:Ψ (η l=n)) (hr:Rd w 1 d n (Qa_ l)):
  Δ π 212 #[S_ d n c,.func (.func 215) #[] #[]] w fun e w'=>e=R_ (B_ (l.all (isK 5)))/\Λ w w':=by
 apply KE_;have HR:=h_ hr;clear hr;go_in;go_wp2
 go_loop [9] (fun i=>∃k:Nat,k<=n/\vl_ (isK 5) l k/\i=I_ j_ k) (fun i=>n-(intOf i).toNat)
 ·exact⟨0,lz_ _,XH_ _ l,rfl⟩
 obtain⟨k,hk,h,rfl⟩:=hrel;by_cases m:k<n
 ·obtain⟨x,hd⟩:∃A,l[k]? =σ A:=⟨_,gE (by have:=hl.o;omega)⟩;obtain⟨b,off,rfl,p,c0⟩:=Qu_ HR.o m hd;have j:=h_ (fun(v:Bool) (hb:isK 5 x=v) (W:Ω)=>show Δ π 215 #[I_ j_ x] W fun e w'=>e=R_ (B_ v)/\W=w' by rw[<-hb];exact Qa8_ _ W)
  cases g:isK 5 x with
  |false=>
   have f:=h_<|Jd_ hd g;have a:=h_<|j.o _ g;clear j g hd h;go_wp2_with (go_at_call 215;refine mb_ (a.o _) ?_;rintro w1 rfl)
   go_ret;exact⟨Qg_ f.o.symm,rfl⟩
  |true=>
   have o:=XG_ h hd g;have a:=h_<|j.o _ g;clear j g hd h;go_wp2_with (go_at_call 215;refine mb_ (a.o _) ?_;rintro w1 rfl)
   exact⟨⟨k+1,oo,o,by go_num⟩,ms_⟩
 have f:=h_<|YA_ h (by have:=hl.o;omega);clear h;go_wp2;go_ret;exact⟨Qg_ f.o.symm,rfl⟩
def Qco_ (hn:n<=4194304) (hl:Ψ (η l=n)) (hr:Rd w 1 d n (Qa_ l)):
  Δ π 212 #[S_ d n c,.func (.func 216) #[] #[]] w fun e w'=>e=R_ (B_ (l.all (isK 18)))/\Λ w w':=by
 apply KE_;have HR:=h_ hr;clear hr;go_in;go_wp2
 go_loop [9] (fun i=>∃k:Nat,k<=n/\vl_ (isK 18) l k/\i=I_ j_ k) (fun i=>n-(intOf i).toNat)
 ·exact⟨0,lz_ _,XH_ _ l,rfl⟩
 obtain⟨k,hk,h,rfl⟩:=hrel;by_cases m:k<n
 ·obtain⟨x,hd⟩:∃A,l[k]? =σ A:=⟨_,gE (by have:=hl.o;omega)⟩;obtain⟨b,off,rfl,p,c0⟩:=Qu_ HR.o m hd;have j:=h_ (fun(v:Bool) (hb:isK 18 x=v) (W:Ω)=>show Δ π 216 #[I_ j_ x] W fun e w'=>e=R_ (B_ v)/\W=w' by rw[<-hb];exact Ji_ _ W)
  cases g:isK 18 x with
  |false=>
   have f:=h_<|Jd_ hd g;have a:=h_<|j.o _ g;clear j g hd h;go_wp2_with (go_at_call 216;refine mb_ (a.o _) ?_;rintro w1 rfl)
   go_ret;exact⟨Qg_ f.o.symm,rfl⟩
  |true=>
   have o:=XG_ h hd g;have a:=h_<|j.o _ g;clear j g hd h;go_wp2_with (go_at_call 216;refine mb_ (a.o _) ?_;rintro w1 rfl)
   exact⟨⟨k+1,oo,o,by go_num⟩,ms_⟩
 have f:=h_<|YA_ h (by have:=hl.o;omega);clear h;go_wp2;go_ret;exact⟨Qg_ f.o.symm,rfl⟩
def Qe4_ (hn:n<=4194304) (hl:Ψ (η l=n)) (hr:Rd w 1 d n (Qa_ l)):
  Δ π 212 #[S_ d n c,.func (.func 217) #[] #[]] w fun e w'=>e=R_ (B_ (l.all (ZR_)))/\Λ w w':=by
 apply KE_;have HR:=h_ hr;clear hr;go_in;go_wp2
 go_loop [9] (fun i=>∃k:Nat,k<=n/\vl_ (ZR_) l k/\i=I_ j_ k) (fun i=>n-(intOf i).toNat)
 ·exact⟨0,lz_ _,XH_ _ l,rfl⟩
 obtain⟨k,hk,h,rfl⟩:=hrel;by_cases m:k<n
 ·obtain⟨x,hd⟩:∃A,l[k]? =σ A:=⟨_,gE (by have:=hl.o;omega)⟩;obtain⟨b,off,rfl,p,c0⟩:=Qu_ HR.o m hd;have j:=h_ (fun(v:Bool) (hb:ZR_ x=v) (W:Ω)=>show Δ π 217 #[I_ j_ x] W fun e w'=>e=R_ (B_ v)/\W=w' by rw[<-hb];exact Qbd_ _ W)
  cases g:ZR_ x with
  |false=>
   have f:=h_<|Jd_ hd g;have a:=h_<|j.o _ g;clear j g hd h;go_wp2_with (go_at_call 217;refine mb_ (a.o _) ?_;rintro w1 rfl)
   go_ret;exact⟨Qg_ f.o.symm,rfl⟩
  |true=>
   have o:=XG_ h hd g;have a:=h_<|j.o _ g;clear j g hd h;go_wp2_with (go_at_call 217;refine mb_ (a.o _) ?_;rintro w1 rfl)
   exact⟨⟨k+1,oo,o,by go_num⟩,ms_⟩
 have f:=h_<|YA_ h (by have:=hl.o;omega);clear h;go_wp2;go_ret;exact⟨Qg_ f.o.symm,rfl⟩
def QaE_ (hn:n<=4194304) (hl:Ψ (η l=n)) (hr:Rd w 1 d n (Qa_ l)):
  Δ π 212 #[S_ d n c,.func (.func 172) #[] #[]] w fun e w'=>e=R_ (B_ (l.all (Ka_)))/\Λ w w':=by
 apply KE_;have HR:=h_ hr;clear hr;go_in;go_wp2
 go_loop [9] (fun i=>∃k:Nat,k<=n/\vl_ (Ka_) l k/\i=I_ j_ k) (fun i=>n-(intOf i).toNat)
 ·exact⟨0,lz_ _,XH_ _ l,rfl⟩
 obtain⟨k,hk,h,rfl⟩:=hrel;by_cases m:k<n
 ·obtain⟨x,hd⟩:∃A,l[k]? =σ A:=⟨_,gE (by have:=hl.o;omega)⟩;obtain⟨b,off,rfl,p,c0⟩:=Qu_ HR.o m hd;have j:=h_ (fun(v:Bool) (hb:Ka_ x=v) (W:Ω)=>show Δ π 172 #[I_ j_ x] W fun e w'=>e=R_ (B_ v)/\W=w' by rw[<-hb];exact Vi_ _ W)
  cases g:Ka_ x with
  |false=>
   have f:=h_<|Jd_ hd g;have a:=h_<|j.o _ g;clear j g hd h;go_wp2_with (go_at_call 172;refine mb_ (a.o _) ?_;rintro w1 rfl)
   go_ret;exact⟨Qg_ f.o.symm,rfl⟩
  |true=>
   have o:=XG_ h hd g;have a:=h_<|j.o _ g;clear j g hd h;go_wp2_with (go_at_call 172;refine mb_ (a.o _) ?_;rintro w1 rfl)
   exact⟨⟨k+1,oo,o,by go_num⟩,ms_⟩
 have f:=h_<|YA_ h (by have:=hl.o;omega);clear h;go_wp2;go_ret;exact⟨Qg_ f.o.symm,rfl⟩
def QgI_ (hn:n<=4194304) (hl:Ψ (η l=n)) (hr:Rd w 1 d n (Qa_ l)):
  Δ π 212 #[S_ d n c,.func (.func 218) #[] #[]] w fun e w'=>e=R_ (B_ (l.all (xR_)))/\Λ w w':=by
 apply KE_;have HR:=h_ hr;clear hr;go_in;go_wp2
 go_loop [9] (fun i=>∃k:Nat,k<=n/\vl_ (xR_) l k/\i=I_ j_ k) (fun i=>n-(intOf i).toNat)
 ·exact⟨0,lz_ _,XH_ _ l,rfl⟩
 obtain⟨k,hk,h,rfl⟩:=hrel;by_cases m:k<n
 ·obtain⟨x,hd⟩:∃A,l[k]? =σ A:=⟨_,gE (by have:=hl.o;omega)⟩;obtain⟨b,off,rfl,p,c0⟩:=Qu_ HR.o m hd;have j:=h_ (fun(v:Bool) (hb:xR_ x=v) (W:Ω)=>show Δ π 218 #[I_ j_ x] W fun e w'=>e=R_ (B_ v)/\W=w' by rw[<-hb];exact Qdd_ _ W)
  cases g:xR_ x with
  |false=>
   have f:=h_<|Jd_ hd g;have a:=h_<|j.o _ g;clear j g hd h;go_wp2_with (go_at_call 218;refine mb_ (a.o _) ?_;rintro w1 rfl)
   go_ret;exact⟨Qg_ f.o.symm,rfl⟩
  |true=>
   have o:=XG_ h hd g;have a:=h_<|j.o _ g;clear j g hd h;go_wp2_with (go_at_call 218;refine mb_ (a.o _) ?_;rintro w1 rfl)
   exact⟨⟨k+1,oo,o,by go_num⟩,ms_⟩
 have f:=h_<|YA_ h (by have:=hl.o;omega);clear h;go_wp2;go_ret;exact⟨Qg_ f.o.symm,rfl⟩
def vt_ (hn:n<=4194304) (hl:Ψ (η l=n)) (hr:Rd w 1 d n (Qa_ l)):
  Δ π 212 #[S_ d n c,.func (.func 242) #[] #[]] w fun e w'=>e=R_ (B_ (l.all (isK 1)))/\Λ w w':=by
 apply KE_;have HR:=h_ hr;clear hr;go_in;go_wp2
 go_loop [9] (fun i=>∃k:Nat,k<=n/\vl_ (isK 1) l k/\i=I_ j_ k) (fun i=>n-(intOf i).toNat)
 ·exact⟨0,lz_ _,XH_ _ l,rfl⟩
 obtain⟨k,hk,h,rfl⟩:=hrel;by_cases m:k<n
 ·obtain⟨x,hd⟩:∃A,l[k]? =σ A:=⟨_,gE (by have:=hl.o;omega)⟩;obtain⟨b,off,rfl,p,c0⟩:=Qu_ HR.o m hd;have j:=h_ (fun(v:Bool) (hb:isK 1 x=v) (W:Ω)=>show Δ π 242 #[I_ j_ x] W fun e w'=>e=R_ (B_ v)/\W=w' by rw[<-hb];exact jv_ _ W)
  cases g:isK 1 x with
  |false=>
   have f:=h_<|Jd_ hd g;have a:=h_<|j.o _ g;clear j g hd h;go_wp2_with (go_at_call 242;refine mb_ (a.o _) ?_;rintro w1 rfl)
   go_ret;exact⟨Qg_ f.o.symm,rfl⟩
  |true=>
   have o:=XG_ h hd g;have a:=h_<|j.o _ g;clear j g hd h;go_wp2_with (go_at_call 242;refine mb_ (a.o _) ?_;rintro w1 rfl)
   exact⟨⟨k+1,oo,o,by go_num⟩,ms_⟩
 have f:=h_<|YA_ h (by have:=hl.o;omega);clear h;go_wp2;go_ret;exact⟨Qg_ f.o.symm,rfl⟩
def Qaf_ {w:Ω} {A:OA} (h:Rd w 1 A j (Qa_ p)) (hl:η p=j) (hm:m<=j):Rd w 1 A m (Qa_ (p.take m)):=by
 refine⟨by simp[Qa_];omega,fun c=>?_⟩;obtain⟨b,off,e,hb,hc⟩:=h.2 oo;refine⟨b,off,e,hb,fun n u a=>hc n u ?_⟩;unfold Qa_ at a |-
 rw[List.getElem?_map,List.getElem?_take]at a;split at a
 ·rw[List.getElem?_map];exact a
 cases a
def UL_ {w:Ω} {b n:Nat} (h:Rd w 1 (σ ⟨m,j,ν⟩) n (Qa_ p)) (hl:η p=n) (hm:b+1=n):Rd w 1 (σ ⟨m,j+1,ν⟩) b (Qa_ (p.drop 1)):=by
 refine⟨by simp[Qa_];omega,fun d=>?_⟩;obtain⟨b',c,e,hb,hc⟩:=h.2 oo;injection e with e;injection e with e1 e2 _;subst e1;subst e2;refine⟨m,j+1,rfl,hb,fun off u a=>?_⟩;have h2:=hc (off+1) u (by
  unfold Qa_ at a |-
  rw[List.getElem?_map,List.getElem?_drop]at a;rw[List.getElem?_map,Nat.add_comm off 1];exact a)
 rwa[show j+(off+1)=j+1+off from oo]at h2
def YF_ (p:Int->Bool) (l:LI):Bool:=match l.getLast? with|some x=>p x&&(l.take (η l-1)).all (isK 1)|none=>φ
def Yo_ {l:Int->Bool} {m:Nat} {x:Int} (hl:η p=m+1) (hx:p[m]? =σ x):YF_ l p=(l x&&(p.take m).all (isK 1)):=by
 have:p.getLast? =σ x:=by rw[List.getLast?_eq_getElem?,hl];exact hx
 unfold YF_;rw[this,hl];rfl
def Qbk_ (hn:n<=4194304) (hc:n<=c) (hl:Ψ (η l=n)) (f:Rd w 1 d n (Qa_ l)):
  Δ π 214 #[S_ d n c,.func (.func 213) #[] #[]] w fun e w'=>e=R_ (B_ (YF_ (Qk_) l))/\Λ w w':=by
 by_cases h0:n=0
 ·subst h0;have hz:l=[]:=ln_ hl.o;have g:YF_ (Qk_) l=φ:=by rw[hz];rfl
  rw[g];clear f hz g;go_in;exact Γ
 obtain⟨m,rfl⟩:∃m,n=m+1:=⟨n-1,oo⟩;obtain⟨x,hd⟩:∃A,l[m]? =σ A:=⟨_,gE (by have:=hl.o;omega)⟩;obtain⟨b,off,rfl,j,c0⟩:=Qu_ f oo hd;have h:=h_ (fun(v:Bool) (hb:Qk_ x=v) (W:Ω)=>show Δ π 213 #[I_ j_ x] W fun e w'=>e=R_ (B_ v)/\W=w' by rw[<-hb];exact Z0_ _ W);have e1:((m+1:Nat):Int)-1=(m:Nat):=oo;have g1:(0:Int)<((m+1:Nat):Int):=oo;rw[Yo_ hl.o hd]
 cases i:Qk_ x with
 |false=>
  have a:=h_<|h.o _ i;clear h i hd f;go_in;go_wp2_with (go_at_call 213;refine mb_ (a.o _) ?_;rintro w1 rfl)
  exact Ξ
 |true=>
  have a:=h_<|h.o _ i;have HA:=h_ (fun c=>vt_ (σ ⟨b,off,ν⟩) m c (l.take m) w oo (h_ (by rw[List.length_take,hl.o];omega)) (Qaf_ f hl.o oo));clear h i hd f;generalize (l.take m).all (isK 1)=u at HA |-
  go_in;go_wp2_with (first|(go_at_call 212;refine mb_ (HA.o _) ?_;intro w1 h2)|(go_at_call 213;refine mb_ (a.o _) ?_;rintro w1 rfl));go_ret;exact⟨rfl,h2⟩
def Qbj_ (hn:n<=4194304) (hc:n<=c) (hl:Ψ (η l=n)) (f:Rd w 1 d n (Qa_ l)):
  Δ π 214 #[S_ d n c,.func (.func 216) #[] #[]] w fun e w'=>e=R_ (B_ (YF_ (isK 18) l))/\Λ w w':=by
 by_cases h0:n=0
 ·subst h0;have hz:l=[]:=ln_ hl.o;have g:YF_ (isK 18) l=φ:=by rw[hz];rfl
  rw[g];clear f hz g;go_in;exact Γ
 obtain⟨m,rfl⟩:∃m,n=m+1:=⟨n-1,oo⟩;obtain⟨x,hd⟩:∃A,l[m]? =σ A:=⟨_,gE (by have:=hl.o;omega)⟩;obtain⟨b,off,rfl,j,c0⟩:=Qu_ f oo hd;have h:=h_ (fun(v:Bool) (hb:isK 18 x=v) (W:Ω)=>show Δ π 216 #[I_ j_ x] W fun e w'=>e=R_ (B_ v)/\W=w' by rw[<-hb];exact Ji_ _ W);have e1:((m+1:Nat):Int)-1=(m:Nat):=oo;have g1:(0:Int)<((m+1:Nat):Int):=oo;rw[Yo_ hl.o hd]
 cases i:isK 18 x with
 |false=>
  have a:=h_<|h.o _ i;clear h i hd f;go_in;go_wp2_with (go_at_call 216;refine mb_ (a.o _) ?_;rintro w1 rfl)
  exact Ξ
 |true=>
  have a:=h_<|h.o _ i;have HA:=h_ (fun c=>vt_ (σ ⟨b,off,ν⟩) m c (l.take m) w oo (h_ (by rw[List.length_take,hl.o];omega)) (Qaf_ f hl.o oo));clear h i hd f;generalize (l.take m).all (isK 1)=u at HA |-
  go_in;go_wp2_with (first|(go_at_call 212;refine mb_ (HA.o _) ?_;intro w1 h2)|(go_at_call 216;refine mb_ (a.o _) ?_;rintro w1 rfl));go_ret;exact⟨rfl,h2⟩
def Jg_ (p:Int->Bool) (l:LI):Bool:=match l with|x::_=>p x|[]=>φ
def kfB (kind:Int) (l:LI):Bool:=
 if kind=1\/kind=2\/kind=3\/kind=19 then decide (η l=0)
 else if kind=4 then l.all Qk_
 else if kind=5 then decide (1<=η l)&&l.all Qk_
 else if kind=7 then decide (2<=η l)&&l.all Qk_
 else if kind=8 then decide (η l=3)&&l.all Qk_
 else if kind=6\/kind=11\/kind=13\/kind=14 then decide (η l=1)&&l.all Qk_
 else if kind=12\/kind=15 then decide (η l<=1)&&l.all Qk_
 else if kind=9 then YF_ Qk_ l
 else if kind=10 then decide (2<=η l)&&Jg_ Qk_ l&&(l.drop 1).all (isK 5)
 else if kind=16 then decide (2<=η l/\η l<=3)&&Jg_ Qk_ l&&(l.drop 1).all (isK 18)
 else if kind=17 then decide (η l=2)&&Jg_ Qk_ l&&(l.drop 1).all (isK 18)
 else if kind=18 then l.all ZR_
 else if kind=20 then YF_ (isK 18) l
 else if kind=21 then l.all Ka_
 else if kind=22 then l.all xR_
 else φ
def QbE_:((n:Int)==(c:Int))=decide (n=c):=by
 by_cases h:n=c
 ·rw[dt_ h,h];exact beq_self_eq_true _
 rw[df_ h,bn_];omega
def qA_ (hn:n<=4096) (hc:n<=c) (hl:Ψ (η l=n)) (hr:Rd w 1 d n (Qa_ l)) (kind:Int) (hk:kind=1\/kind=2\/kind=3\/kind=19):
  Δ π 173 #[I_ j_ kind,S_ d n c] w (RB_ (B_ (kfB kind l)) w):=by
 have HV:=h_ (fun c=>Ku_ d n c l w oo hl hr);have hb:kfB kind l=((n:Int)==(0:Nat)):=by rw[QbE_];unfold kfB;rw[ip_ hk,hl.o]
 rw[hb];clear hb hr hl;generalize l.all Qk_=u at HV;rcases hk with rfl|rfl|rfl|rfl
 all_goals
  go_in;go_wp2_with (go_at_call 212;refine mb_ (HV.o _) ?_;intro w1 h2);go_ret;refine⟨Qg_ ?_,h2⟩
  rfl
def Qhi_ (hn:n<=4096) (hc:n<=c) (hl:Ψ (η l=n)) (hr:Rd w 1 d n (Qa_ l)):
  Δ π 173 #[I_ j_ 4,S_ d n c] w (RB_ (B_ (kfB 4 l)) w):=by
 have HV:=h_ (fun c=>Ku_ d n c l w oo hl hr);have hb:kfB 4 l=l.all Qk_:=rfl;rw[hb];clear hb hr hl;generalize l.all Qk_=u at HV |-
 go_in;go_wp2_with (go_at_call 212;refine mb_ (HV.o _) ?_;intro w1 h2);go_ret;exact⟨rfl,h2⟩
def Qhf_ (hn:n<=4096) (hc:n<=c) (hl:Ψ (η l=n)) (hr:Rd w 1 d n (Qa_ l)) (kind:Int) (A:kind=5):
  Δ π 173 #[I_ j_ kind,S_ d n c] w (RB_ (B_ (kfB kind l)) w):=by
 have a:=h_ (fun c=>Ku_ d n c l w oo hl hr);have hb:kfB kind l=(decide (1<=n)&&l.all Qk_):=by rw[<-hl.o];rcases A with rfl<;>rfl
 rw[hb];clear hb hr hl;generalize l.all Qk_=u at a |-
 by_cases ht:1<=n
 ·rw[dt_ ht,τb];have i1:(1:Int)<=n:=oo;rcases A with rfl
  all_goals
   go_in;go_wp2_with (go_at_call 212;refine mb_ (a.o _) ?_;intro w1 b);go_ret;exact⟨rfl,b⟩
 rw[df_ ht,φa];have i1:¬(1:Int)<=n:=oo;rcases A with rfl
 all_goals
  go_in;go_wp2_with (go_at_call 212;refine mb_ (a.o _) ?_;intro w1 b);go_ret;exact⟨rfl,b⟩
def Qfv_ (hn:n<=4096) (hc:n<=c) (hl:Ψ (η l=n)) (hr:Rd w 1 d n (Qa_ l)) (kind:Int) (A:kind=7):
  Δ π 173 #[I_ j_ kind,S_ d n c] w (RB_ (B_ (kfB kind l)) w):=by
 have a:=h_ (fun c=>Ku_ d n c l w oo hl hr);have hb:kfB kind l=(decide (2<=n)&&l.all Qk_):=by rw[<-hl.o];rcases A with rfl<;>rfl
 rw[hb];clear hb hr hl;generalize l.all Qk_=u at a |-
 by_cases ht:2<=n
 ·rw[dt_ ht,τb];have i1:(2:Int)<=n:=oo;rcases A with rfl
  all_goals
   go_in;go_wp2_with (go_at_call 212;refine mb_ (a.o _) ?_;intro w1 b);go_ret;exact⟨rfl,b⟩
 rw[df_ ht,φa];have i1:¬(2:Int)<=n:=oo;rcases A with rfl
 all_goals
  go_in;go_wp2_with (go_at_call 212;refine mb_ (a.o _) ?_;intro w1 b);go_ret;exact⟨rfl,b⟩
def Qhj_ (hn:n<=4096) (hc:n<=c) (hl:Ψ (η l=n)) (hr:Rd w 1 d n (Qa_ l)) (kind:Int) (A:kind=8):
  Δ π 173 #[I_ j_ kind,S_ d n c] w (RB_ (B_ (kfB kind l)) w):=by
 have a:=h_ (fun c=>Ku_ d n c l w oo hl hr);have hb:kfB kind l=(decide (n=3)&&l.all Qk_):=by rw[<-hl.o];rcases A with rfl<;>rfl
 rw[hb];clear hb hr hl;generalize l.all Qk_=u at a |-
 by_cases f:n=3
 ·rw[dt_ f,τb];obtain rfl:n=3:=f;rcases A with rfl
  all_goals
   go_in;go_wp2_with (go_at_call 212;refine mb_ (a.o _) ?_;intro w1 b);go_ret;exact⟨rfl,b⟩
 rw[df_ f,φa];have i1:((n:Int)==3)=φ:=by rw[bn_];omega
 rcases A with rfl
 all_goals
  go_in;go_wp2_with (go_at_call 212;refine mb_ (a.o _) ?_;intro w1 b);go_ret;exact⟨rfl,b⟩
def vU_ (hn:n<=4096) (hc:n<=c) (hl:Ψ (η l=n)) (hr:Rd w 1 d n (Qa_ l)) (kind:Int) (A:kind=6\/kind=11\/kind=13\/kind=14):
  Δ π 173 #[I_ j_ kind,S_ d n c] w (RB_ (B_ (kfB kind l)) w):=by
 have a:=h_ (fun c=>Ku_ d n c l w oo hl hr);have hb:kfB kind l=(decide (n=1)&&l.all Qk_):=by rw[<-hl.o];rcases A with rfl|rfl|rfl|rfl<;>rfl
 rw[hb];clear hb hr hl;generalize l.all Qk_=u at a |-
 by_cases f:n=1
 ·rw[dt_ f,τb];obtain rfl:n=1:=f;rcases A with rfl|rfl|rfl|rfl
  all_goals
   go_in;go_wp2_with (go_at_call 212;refine mb_ (a.o _) ?_;intro w1 b);go_ret;exact⟨rfl,b⟩
 rw[df_ f,φa];have i1:((n:Int)==1)=φ:=by rw[bn_];omega
 rcases A with rfl|rfl|rfl|rfl
 all_goals
  go_in;go_wp2_with (go_at_call 212;refine mb_ (a.o _) ?_;intro w1 b);go_ret;exact⟨rfl,b⟩
def Qgn_ (hn:n<=4096) (hc:n<=c) (hl:Ψ (η l=n)) (hr:Rd w 1 d n (Qa_ l)) (kind:Int) (A:kind=12\/kind=15):
  Δ π 173 #[I_ j_ kind,S_ d n c] w (RB_ (B_ (kfB kind l)) w):=by
 have a:=h_ (fun c=>Ku_ d n c l w oo hl hr);have hb:kfB kind l=(decide (n<=1)&&l.all Qk_):=by rw[<-hl.o];rcases A with rfl|rfl<;>rfl
 rw[hb];clear hb hr hl;generalize l.all Qk_=u at a |-
 by_cases ht:n<=1
 ·rw[dt_ ht,τb];have i1:(n:Int)<=1:=oo;rcases A with rfl|rfl
  all_goals
   go_in;go_wp2_with (go_at_call 212;refine mb_ (a.o _) ?_;intro w1 b);go_ret;exact⟨rfl,b⟩
 rw[df_ ht,φa];have i1:¬(n:Int)<=1:=oo;rcases A with rfl|rfl
 all_goals
  go_in;go_wp2_with (go_at_call 212;refine mb_ (a.o _) ?_;intro w1 b);go_ret;exact⟨rfl,b⟩
def QiU_ (hn:n<=4096) (a:n<=c) (hl:Ψ (η l=n)) (b:Rd w 1 d n (Qa_ l)):
  Δ π 173 #[I_ j_ 9,S_ d n c] w (RB_ (B_ (kfB 9 l)) w):=by
 have HV:=h_ (fun c=>Ku_ d n c l w oo hl b);have HL:=h_ (fun w1 (h:Λ w w1) c a=>Qbk_ d n c l w1 oo a hl (b.next h));have hb:kfB 9 l=YF_ (Qk_) l:=rfl;rw[hb];clear hb b hl;generalize l.all Qk_=u at HV;generalize YF_ (Qk_) l=v at HL |-
 go_in;go_wp2_with (first|(go_at_call 212;refine mb_ (HV.o _) ?_;intro w1 h2)|(go_at_call 214;refine mb_ (HL.o _ h2 _ a) ?_;intro w3 h3));go_ret;exact⟨rfl,Qb_ h2 h3⟩
def Qde_ (hn:n<=4096) (a:n<=c) (hl:Ψ (η l=n)) (b:Rd w 1 d n (Qa_ l)):
  Δ π 173 #[I_ j_ 20,S_ d n c] w (RB_ (B_ (kfB 20 l)) w):=by
 have HV:=h_ (fun c=>Ku_ d n c l w oo hl b);have HL:=h_ (fun w1 (h:Λ w w1) c a=>Qbj_ d n c l w1 oo a hl (b.next h));have hb:kfB 20 l=YF_ (isK 18) l:=rfl;rw[hb];clear hb b hl;generalize l.all Qk_=u at HV;generalize YF_ (isK 18) l=v at HL |-
 go_in;go_wp2_with (first|(go_at_call 212;refine mb_ (HV.o _) ?_;intro w1 h2)|(go_at_call 214;refine mb_ (HL.o _ h2 _ a) ?_;intro w3 h3));go_ret;exact⟨rfl,Qb_ h2 h3⟩
def Qft_ (hn:n<=4096) (hc:n<=c) (hl:Ψ (η l=n)) (a:Rd w 1 d n (Qa_ l)):
  Δ π 173 #[I_ j_ 18,S_ d n c] w (RB_ (B_ (kfB 18 l)) w):=by
 have HV:=h_ (fun c=>Ku_ d n c l w oo hl a);have HL:=h_ (fun w1 (h:Λ w w1) c=>Qe4_ d n c l w1 oo hl (a.next h));have hb:kfB 18 l=l.all (ZR_):=rfl;rw[hb];clear hb a hl;generalize l.all Qk_=u at HV;generalize l.all (ZR_)=v at HL |-
 go_in;go_wp2_with fail;refine mb_ (HV.o _) ?_;intro w1 h2;go_wp2_with fail;refine mb_ (HL.o _ h2 _) ?_;intro w3 h3;go_wp2;go_ret;exact⟨rfl,Qb_ h2 h3⟩
def Qfx_ (hn:n<=4096) (hc:n<=c) (hl:Ψ (η l=n)) (a:Rd w 1 d n (Qa_ l)):
  Δ π 173 #[I_ j_ 21,S_ d n c] w (RB_ (B_ (kfB 21 l)) w):=by
 have HV:=h_ (fun c=>Ku_ d n c l w oo hl a);have HL:=h_ (fun w1 (h:Λ w w1) c=>QaE_ d n c l w1 oo hl (a.next h));have hb:kfB 21 l=l.all (Ka_):=rfl;rw[hb];clear hb a hl;generalize l.all Qk_=u at HV;generalize l.all (Ka_)=v at HL |-
 go_in;go_wp2_with fail;refine mb_ (HV.o _) ?_;intro w1 h2;go_wp2_with fail;refine mb_ (HL.o _ h2 _) ?_;intro w3 h3;go_wp2;go_ret;exact⟨rfl,Qb_ h2 h3⟩
def Qhg_ (hn:n<=4096) (hc:n<=c) (hl:Ψ (η l=n)) (a:Rd w 1 d n (Qa_ l)):
  Δ π 173 #[I_ j_ 22,S_ d n c] w (RB_ (B_ (kfB 22 l)) w):=by
 have HV:=h_ (fun c=>Ku_ d n c l w oo hl a);have HL:=h_ (fun w1 (h:Λ w w1) c=>QgI_ d n c l w1 oo hl (a.next h));have hb:kfB 22 l=l.all (xR_):=rfl;rw[hb];clear hb a hl;generalize l.all Qk_=u at HV;generalize l.all (xR_)=v at HL |-
 go_in;go_wp2_with fail;refine mb_ (HV.o _) ?_;intro w1 h2;go_wp2_with fail;refine mb_ (HL.o _ h2 _) ?_;intro w3 h3;go_wp2;go_ret;exact⟨rfl,Qb_ h2 h3⟩
def Qhk_ (hn:n<=4096) (hc:n<=c) (hl:Ψ (η l=n)) (hr:Rd w 1 d n (Qa_ l)) (kind:Int) (hk:¬(1<=kind/\kind<=22)):
  Δ π 173 #[I_ j_ kind,S_ d n c] w (RB_ (B_ (kfB kind l)) w):=by
 have HV:=h_ (fun c=>Ku_ d n c l w oo hl hr);have d1:(kind==1)=φ:=by rw[bn_];omega
 have d2:(kind==2)=φ:=by rw[bn_];omega
 have d3:(kind==3)=φ:=by rw[bn_];omega
 have d4:(kind==4)=φ:=by rw[bn_];omega
 have d5:(kind==5)=φ:=by rw[bn_];omega
 have d6:(kind==6)=φ:=by rw[bn_];omega
 have d7:(kind==7)=φ:=by rw[bn_];omega
 have d8:(kind==8)=φ:=by rw[bn_];omega
 have d9:(kind==9)=φ:=by rw[bn_];omega
 have a:(kind==10)=φ:=by rw[bn_];omega
 have b:(kind==11)=φ:=by rw[bn_];omega
 have A:(kind==12)=φ:=by rw[bn_];omega
 have f:(kind==13)=φ:=by rw[bn_];omega
 have g:(kind==14)=φ:=by rw[bn_];omega
 have h:(kind==15)=φ:=by rw[bn_];omega
 have i:(kind==16)=φ:=by rw[bn_];omega
 have j:(kind==17)=φ:=by rw[bn_];omega
 have k:(kind==18)=φ:=by rw[bn_];omega
 have m:(kind==19)=φ:=by rw[bn_];omega
 have o:(kind==20)=φ:=by rw[bn_];omega
 have p:(kind==21)=φ:=by rw[bn_];omega
 have q:(kind==22)=φ:=by rw[bn_];omega
 have hb:kfB kind l=φ:=by
  unfold kfB;rw[in_ oo,in_ oo,in_ oo,in_ oo,in_ oo,in_ oo,in_ oo,in_ oo,in_ oo,in_ oo,in_ oo,in_ oo,in_ oo,in_ oo,in_ oo]
 rw[hb];clear hb hr hl hk;generalize l.all Qk_=u at HV;go_in;go_wp2_with (go_at_call 212;refine mb_ (HV.o _) ?_;intro w1 h2);go_ret;exact⟨rfl,h2⟩
def kA_ (hl:η p=m) (hn:0<m):∃x r,p=x::r/\p[0]? =σ x/\η r+1=m:=by
 match p,hl with
 |[],hl=>simp at hl;omega
 |x::r,hl=>exact⟨x,r,rfl,rfl,by simpa using hl⟩
def Qbg_ (hn:n<=4096) (hc:n<=c) (hl:Ψ (η l=n)) (g:Rd w 1 d n (Qa_ l)):
  Δ π 173 #[I_ j_ 10,S_ d n c] w (RB_ (B_ (kfB 10 l)) w):=by
 have f:=h_ (fun c=>Ku_ d n c l w oo hl g);have j:kfB 10 l=(decide (2<=n)&&Jg_ Qk_ l&&(l.drop 1).all (isK 5)):=by rw[<-hl.o];rfl
 rw[j];by_cases ht:2<=n
 ·rw[dt_ ht,τb];obtain⟨x,r,s,hd,y⟩:=kA_ hl.o oo;obtain⟨b,off,rfl,t,c0⟩:=Qu_ g oo hd;have m:=h_ (UL_ g hl.o (oo:n-1+1=n));have i:=h_ (fun(v:Bool) (j:Qk_ x=v) (W:Ω)=>show Δ π 213 #[I_ j_ x] W fun e w'=>e=R_ (B_ v)/\W=w' by rw[<-j];exact Z0_ _ W);have q:Jg_ Qk_ l=Qk_ x:=by rw[s];rfl
  rw[q];have i1:(2:Int)<=n:=oo;simp only[Nat.add_zero]at c0
  cases k:Qk_ x with
  |false=>
   have A:=h_<|i.o _ k;rw[φa];generalize l.all Qk_=u at f;go_in;go_wp2_with fail
   refine mb_ (f.o _) ?_;intro w1 a;obtain⟨o,p⟩:=QW_ a;go_wp2_with (go_at_call 213;refine mb_ (A.o _) ?_;rintro w1 rfl);go_ret;exact⟨rfl,a⟩
  |true=>
   have A:=h_<|i.o _ k;rw[τb];have HL:=h_ (fun w1 (h:Λ w w1) c=>Qe3_ (σ ⟨b,off+1,ν⟩) (n-1) c (l.drop 1) w1 oo (h_ (by rw[List.length_drop,hl.o])) (m.o.next h));have e1:(n:Int)-1=((n-1:Nat):Int):=oo;generalize l.all Qk_=u at f;generalize (l.drop 1).all (isK 5)=v at HL |-
   go_in;go_wp2_with fail;refine mb_ (f.o _) ?_;intro w1 a;obtain⟨o,p⟩:=QW_ a;go_wp2_with fail;refine mb_ (A.o _) ?_;rintro w1 rfl;go_wp2_with fail;refine mb_ (HL.o _ a _) ?_;intro w3 h3;go_wp2;go_ret;exact⟨rfl,Qb_ a h3⟩
 rw[df_ ht,φa,φa];have i1:¬(2:Int)<=n:=oo;generalize l.all Qk_=u at f;go_in;go_wp2_with (go_at_call 212;refine mb_ (f.o _) ?_;intro w1 a);go_ret;exact⟨rfl,a⟩
def QiV_ (hn:n<=4096) (hc:n<=c) (hl:Ψ (η l=n)) (g:Rd w 1 d n (Qa_ l)):
  Δ π 173 #[I_ j_ 16,S_ d n c] w (RB_ (B_ (kfB 16 l)) w):=by
 have f:=h_ (fun c=>Ku_ d n c l w oo hl g);have k:kfB 16 l=(decide (2<=n/\n<=3)&&Jg_ Qk_ l&&(l.drop 1).all (isK 18)):=by rw[<-hl.o];rfl
 rw[k];by_cases ht:2<=n/\n<=3
 ·rw[dt_ ht,τb];obtain⟨x,r,t,hd,z⟩:=kA_ hl.o oo;obtain⟨b,off,rfl,y,c0⟩:=Qu_ g oo hd;have o:=h_ (UL_ g hl.o (oo:n-1+1=n));have i:=h_ (fun(v:Bool) (k:Qk_ x=v) (W:Ω)=>show Δ π 213 #[I_ j_ x] W fun e w'=>e=R_ (B_ v)/\W=w' by rw[<-k];exact Z0_ _ W);have s:Jg_ Qk_ l=Qk_ x:=by rw[t];rfl
  rw[s];have j:=h_ (fun W=>Q2_ (show inB (n:Int) 2 3=τ from dt_ oo) W);simp only[Nat.add_zero]at c0
  cases m:Qk_ x with
  |false=>
   have A:=h_<|i.o _ m;rw[φa];generalize l.all Qk_=u at f;go_in;go_wp2_with fail
   refine mb_ (f.o _) ?_;intro w1 a;obtain⟨p,q⟩:=QW_ a;go_wp2_with fail;refine mb_ (j.o _) ?_;rintro w5 rfl;go_wp2_with fail;refine mb_ (A.o _) ?_;rintro w1 rfl;go_wp2;go_ret;exact⟨rfl,a⟩
  |true=>
   have A:=h_<|i.o _ m;rw[τb];have HL:=h_ (fun w1 (h:Λ w w1) c=>Qco_ (σ ⟨b,off+1,ν⟩) (n-1) c (l.drop 1) w1 oo (h_ (by rw[List.length_drop,hl.o])) (o.o.next h));have e1:(n:Int)-1=((n-1:Nat):Int):=oo;generalize l.all Qk_=u at f;generalize (l.drop 1).all (isK 18)=v at HL |-
   go_in;go_wp2_with fail;refine mb_ (f.o _) ?_;intro w1 a;obtain⟨p,q⟩:=QW_ a;go_wp2_with fail;refine mb_ (j.o _) ?_;rintro w5 rfl;go_wp2_with fail;refine mb_ (A.o _) ?_;rintro w1 rfl;go_wp2_with fail;refine mb_ (HL.o _ a _) ?_;intro w3 h3;go_wp2;go_ret;exact⟨rfl,Qb_ a h3⟩
 rw[df_ ht,φa,φa];have j:=h_ (fun W=>Q2_ (show inB (n:Int) 2 3=φ from df_ oo) W);generalize l.all Qk_=u at f;go_in;go_wp2_with fail;refine mb_ (f.o _) ?_;intro w1 a;go_wp2_with fail;refine mb_ (j.o _) ?_;rintro w5 rfl;go_wp2;go_ret;exact⟨rfl,a⟩
def Qfz_ (hn:n<=4096) (hc:n<=c) (hl:Ψ (η l=n)) (g:Rd w 1 d n (Qa_ l)):
  Δ π 173 #[I_ j_ 17,S_ d n c] w (RB_ (B_ (kfB 17 l)) w):=by
 have f:=h_ (fun c=>Ku_ d n c l w oo hl g);have j:kfB 17 l=(decide (n=2)&&Jg_ Qk_ l&&(l.drop 1).all (isK 18)):=by rw[<-hl.o];rfl
 rw[j];by_cases t:n=2
 ·rw[dt_ t,τb];obtain rfl:n=2:=t;obtain⟨x,y,h⟩:∃x y,l=[x,y]:=by
   match l,hl.o with
   |[x,y],_=>exact⟨x,y,rfl⟩
  obtain⟨b,off,rfl,z,c0⟩:=Qu_ (k:=0) (x:=x) g oo (by rw[h];rfl);obtain⟨b',B,o,p,c1⟩:=Qu_ (k:=1) (x:=y) g oo (by rw[h];rfl);injection o with o;injection o with e41 e42;subst e41;subst e42;have i:=h_ (fun(v:Bool) (j:Qk_ x=v) (W:Ω)=>show Δ π 213 #[I_ j_ x] W fun e w'=>e=R_ (B_ v)/\W=w' by rw[<-j];exact Z0_ _ W);have HB:=h_ (fun(W:Ω)=>Ji_ y W);have s:(Jg_ Qk_ l&&(l.drop 1).all (isK 18))=(Qk_ x&&isK 18 y):=by rw[h];simp[Jg_]
  rw[s];simp only[Nat.add_zero]at c0
  cases m:Qk_ x with
  |false=>
   have a:=h_<|i.o _ m;rw[φa];generalize l.all Qk_=u at f;go_in;go_wp2_with fail
   refine mb_ (f.o _) ?_;intro w1 A;obtain⟨q,r⟩:=QW_ A;go_wp2_with fail;refine mb_ (a.o _) ?_;rintro w1 rfl;go_wp2;go_ret;exact⟨rfl,A⟩
  |true=>
   have a:=h_<|i.o _ m;rw[τb];generalize l.all Qk_=u at f;generalize isK 18 y=v at HB |-
   go_in;go_wp2_with fail;refine mb_ (f.o _) ?_;intro w1 A;obtain⟨q,r⟩:=QW_ A;go_wp2_with fail;refine mb_ (a.o _) ?_;rintro w1 rfl;go_wp2_with fail;refine mb_ (HB.o _) ?_;rintro w1 rfl;go_wp2;go_ret;exact⟨rfl,A⟩
 rw[df_ t,φa,φa];have i1:((n:Int)==2)=φ:=by rw[bn_];omega
 generalize l.all Qk_=u at f;go_in;go_wp2_with fail;refine mb_ (f.o _) ?_;intro w1 A;go_wp2;go_ret;exact⟨rfl,A⟩
def kV_ (A:OA) (n c:Nat) (l:LI) (w:Ω) (b:n<=4096) (a:n<=c) (hl:Ψ (η l=n)) (d:Rd w 1 A n (Qa_ l)):
  Δ π 173 #[I_ j_ k,S_ A n c] w (RB_ (B_ (kfB k l)) w):=by
 by_cases h:1<=k/\k<=22
 ·have h2:k=1\/k=2\/k=3\/k=4\/k=5\/k=6\/k=7\/k=8\/k=9\/k=10\/k=11\/k=12\/k=13\/k=14\/k=15\/k=16\/k=17\/k=18\/k=19\/k=20\/k=21\/k=22:=oo;rcases h2 with rfl|rfl|rfl|rfl|rfl|rfl|rfl|rfl|rfl|rfl|rfl|rfl|rfl|rfl|rfl|rfl|rfl|rfl|rfl|rfl|rfl|rfl
  ·exact qA_ A n c l w b a hl d 1 oo
  ·exact qA_ A n c l w b a hl d 2 oo
  ·exact qA_ A n c l w b a hl d 3 oo
  ·exact Qhi_ A n c l w b a hl d
  ·exact Qhf_ A n c l w b a hl d 5 oo
  ·exact vU_ A n c l w b a hl d 6 oo
  ·exact Qfv_ A n c l w b a hl d 7 oo
  ·exact Qhj_ A n c l w b a hl d 8 oo
  ·exact QiU_ A n c l w b a hl d
  ·exact Qbg_ A n c l w b a hl d
  ·exact vU_ A n c l w b a hl d 11 oo
  ·exact Qgn_ A n c l w b a hl d 12 oo
  ·exact vU_ A n c l w b a hl d 13 oo
  ·exact vU_ A n c l w b a hl d 14 oo
  ·exact Qgn_ A n c l w b a hl d 15 oo
  ·exact QiV_ A n c l w b a hl d
  ·exact Qfz_ A n c l w b a hl d
  ·exact Qft_ A n c l w b a hl d
  ·exact qA_ A n c l w b a hl d 19 oo
  ·exact Qde_ A n c l w b a hl d
  ·exact Qfx_ A n c l w b a hl d
  exact Qhg_ A n c l w b a hl d
 exact Qhk_ A n c l w b a hl d k h
def Qc_ (ps:List PN) (j:Int):Int:=match ps[j.toNat]? with|some z=>z.kind|none=>0
def Qr_ (h:r[m]? =σ z):Qc_ r (m:Int)=z.kind:=by unfold Qc_;rw[it_,h]
def Zt_ (ps:List PN) (kind:Int) (i:Nat) (kid:Int):Bool:=
 match ps[kid.toNat]? with
 |some y=>if y.kind=5 then (match y.kids with|[]=>φ|j::_=>inB j 0 ((η ps:Int)-1)&&(!(kind==10&&decide (0<i))||Qc_ ps j==1))else τ
 |none=>φ
section
variable {ps:List PN} {kind:Int} {i k:Nat} {y z:PN} {j:Int} {js:LI}
def kk_ (h:ps[k]? =σ y) (h5:¬y.kind=5):Zt_ ps kind i (k:Int)=τ:=by unfold Zt_;rw[it_,h];simp only;rw[in_ h5]
def jc_ (h:ps[k]? =σ y) (h5:y.kind=5) (hk:y.kids=[]):Zt_ ps kind i (k:Int)=φ:=by unfold Zt_;rw[it_,h];simp only;rw[ip_ h5,hk]
def QaJ_ (h:ps[k]? =σ y) (h5:y.kind=5) (hk:y.kids=j::js) (hj:inB j 0 ((η ps:Int)-1)=φ):Zt_ ps kind i (k:Int)=φ:=by unfold Zt_;rw[it_,h];simp only;rw[ip_ h5,hk];simp only;rw[hj,φa]
def QcB_ (h:ps[k]? =σ y) (h5:y.kind=5) (hk:y.kids=j::js) (hj:inB j 0 ((η ps:Int)-1)=τ):Zt_ ps kind i (k:Int)=(!(kind==10&&decide (0<i))||Qc_ ps j==1):=by unfold Zt_;rw[it_,h];simp only;rw[ip_ h5,hk];simp only;rw[hj,τb]
end
def Kd_ (p:Nat->Int->Bool) (l:LI):Bool:=l.zipIdx.all (fun q=>p q.2 q.1)
def ZF_ {p:Nat->Int->Bool} {l:LI} {k:Nat} {x:Int} (hx:l[k]? =σ x) (hp:p k x=φ):Kd_ p l=φ:=by
 unfold Kd_;rw[List.all_eq_false];exact⟨(x,k),by rw[List.mem_zipIdx_iff_getElem?];exact hx,by simp[hp]⟩
def XD_ {l:Nat->Int->Bool} (h:∀j x,p[j]? =σ x->l j x=τ):Kd_ l p=τ:=by
 unfold Kd_;rw[List.all_eq_true];rintro⟨x,j⟩ hm;rw[List.mem_zipIdx_iff_getElem?]at hm;exact h j x hm
def Z4_ {l:Nat->Int->Bool} (h:Kd_ l p=τ) (hx:p[m]? =σ a):l m a=τ:=by
 cases hp:l m a with
 |true=>rfl
 |false=>rw[ZF_ hx hp]at h;cases h
def x4_ {l q:Nat->Int->Bool} (h:∀j x,p[j]? =σ x->l j x=q j x):Kd_ l p=Kd_ q p:=by
 cases b:Kd_ q p with
 |true=>exact XD_ (fun j x a=>by rw[h j x a];exact Z4_ b a)
 |false=>
  cases hp:Kd_ l p with
  |false=>rfl
  |true=>rw[XD_ (fun j x a=>by rw[<-h j x a];exact Z4_ hp a)]at b;cases b
def AllI (p:Nat->Int->Bool) (l:LI) (k:Nat):Prop:=∀j x,j<k->l[j]? =σ x->p j x=τ
def Jz_ (p:Nat->Int->Bool) (l:LI):AllI p l 0:=fun j x h=>absurd h oo
def XE_ {p:Nat->Int->Bool} {l:LI} {k:Nat} {x:Int} (h:AllI p l k) (hx:l[k]? =σ x) (hp:p k x=τ):AllI p l (k+1):=by
 intro j y hj a;by_cases e:j=k
 ·subst e;rw[hx]at a;obtain rfl:=oi_ a;exact hp
 exact h j y oo a
def Ux_ {l:Nat->Int->Bool} (h:AllI l p m) (hk:η p<=m):Kd_ l p=τ:=
 XD_ (fun j x hx=>h j x (by have:=(gs_.1 hx).1;omega) hx)
def Yh_ (ps:List PN) (kind:Int) (kids:LI):Bool:=Kd_ (Zt_ ps kind) kids
def Qbb_:Δ π 121 #[S_ d n c,I_ j_ k] h fun e w'=>e=R_ (B_ (inB k 0 ((n:Int)-1)))/\h=w':=by
 by_cases h0:0<=k
 ·by_cases h1:k<n
  ·rw[ju_ h0 oo];go_in;exact Θ
  rw[vO_ oo];go_in;exact Θ
 rw[Qc8_ h0];go_in;exact Θ
def Ym_ {n:Nat} {v:Bool} (h:inB a 0 ((n:Int)-1)=v) (A:OA) (c:Nat) (w:Ω):Δ π 121 #[S_ A n c,I_ j_ a] w (RS_ (B_ v) w):=by rw[<-h];exact Qbb_ A n c a w
def kl_ (n c:Nat) (ps:List PN) (kind:Int) (text:BA) (kids:LI) (z:Bool) (A':OA) (m c':Nat) (w:Ω) (hn:n<=1048576) (hm:m<=1048576) (H:Nps w d n ps) (P:Ψ (η kids=m)) (hk:Rd w 1 A' m (Qa_ kids)) (ab:Ψ (∀x∈kids,0<=x/\x<(n:Int))) (hb:Ψ (∀p∈ps,η p.kids<=1048576)):
  Δ π 174 #[S_ d n c,A_ #[I_ j_ kind,T_ text,S_ A' m c',B_ z]] w (RB_ (B_ (Yh_ ps kind kids)) w):=by
 have V:=h_ H;have HK:=h_ hk;have HL:=h_ H.len;have M:=Blk.new w 96 #[I_ j_ kind,T_ text,S_ A' m c',B_ z];go_in;go_wp2;go_loopw [11] (fun i wr=>∃k:Nat,k<=m/\Ψ (AllI (Zt_ ps kind) kids k)/\i=I_ j_ k/\Blk wr w.heap.size 96 #[I_ j_ kind,T_ text,S_ A' m c',B_ z]/\Λ w wr) (fun i _=>m-(intOf i).toNat)
 ·exact⟨0,lz_ _,Jz_ _ kids,rfl,M,grow_⟩
 obtain⟨k,al,B,rfl,K,F⟩:=hrel;have k0:=K.cell 0;simp only[List.getElem?_toArray,List.getElem?_cons_zero]at k0;have kz:=K.lt;by_cases ad:k<m
 ·obtain⟨x,hd⟩:∃A,kids[k]? =σ A:=⟨_,gE (by have:=P.o;omega)⟩;have hx:=ab.o x (lm_ hd);obtain⟨q,rfl⟩:=eo_ hx.1;have Q:q<n:=oo;have g0:(0:Int)<=(q:Int):=oo;have g1:(q:Int)<n:=oo;obtain⟨b,off,rfl,ah,cx⟩:=Qu_ (HK.o.below F) ad hd;obtain⟨y,t⟩:=V.o.get Q;obtain⟨b2,T,A2,c2,rfl,Y,y0,y1,y2,y3,C⟩:=(V.o.below F).at_ Q t;have am:=hb.o y (lm_ t);by_cases J:y.kind=5
  ·have e5:(y.kind==5)=τ:=by rw[beq_iff_eq];exact J
   cases a:y.kids with
   |nil=>
    have l:=h_<|ZF_ (p:=Zt_ ps kind) hd<|jc_ t J a;rw[a]at y2;go_wp2;go_ret;exact⟨Qg_ (by unfold Yh_;exact l.o.symm),grow_⟩
   |cons j js=>
    have ae:0<η y.kids:=(by rw[a];simp);have ac:y.kids[0]? =σ j:=(by rw[a];rfl);obtain⟨b3,ai,rfl,Z,cj⟩:=Qu_ C ae ac;simp only[Nat.add_zero]at cj;have i1:((η y.kids:Int)==0)=φ:=(by rw[bn_];omega);have i2:(0:Int)<η y.kids:=oo;have U:=h_ (fun(v:Bool) (h:inB j 0 ((n:Int)-1)=v) c W=>Ym_ (n:=n) h (σ ⟨b2,T,ν⟩) c W)
    cases g:inB j 0 ((n:Int)-1)with
    |false=>
     have l:=h_<|ZF_ (p:=Zt_ ps kind) hd<|QaJ_ (kind:=kind) (i:=k) t J a (by rw[HL.o];exact g);have o:=h_<|U.o _ g;go_wp2_with (go_at_call 121;refine mb_ (o.o _ _) ?_;rintro w1 rfl)
     go_ret;exact⟨Qg_ (by unfold Yh_;exact l.o.symm),grow_⟩
    |true=>
     have f:=QcB_ (kind:=kind) (i:=k) t J a (by rw[HL.o];exact g);have o:=h_<|U.o _ g;have N:=od_ g;obtain⟨r,rfl⟩:=eo_ N.1;have R:r<n:=oo;have g2:(0:Int)<=(r:Int):=oo;have g3:(r:Int)<n:=oo;obtain⟨zz,I⟩:=V.o.get R;obtain⟨b4,aj,A4,c4,X,aa,z0,z1,z2,z3,af⟩:=(V.o.below F).at_ R I;injection X with X;injection X with e41 e42;subst e41;subst e42;rw[Qr_ I]at f;by_cases E:kind=10/\0<k
     ·obtain⟨O,G⟩:=E;subst O;have ik:(0:Int)<(k:Int):=oo;rw[show((10:Int)==10)=τ from rfl,dt_ G]at f
      cases D:(zz.kind==1)with
      |true=>
       have s:=h_<|XE_ (p:=Zt_ ps 10) B.o hd (by rw[f,D];rfl);have S:(zz.kind != 1)=φ:=(by unfold bne;rw[D];rfl);go_wp2_with (go_at_call 121;refine mb_ (o.o _ _) ?_;rintro w1 rfl)
       exact⟨⟨k+1,oo,s,by go_num,K.alloc _,grow_⟩,ms_⟩
      |false=>
       have l:=h_<|ZF_ (p:=Zt_ ps 10) hd (by rw[f,D];rfl);have S:(zz.kind != 1)=τ:=(by unfold bne;rw[D];rfl);go_wp2_with (go_at_call 121;refine mb_ (o.o _ _) ?_;rintro w1 rfl)
       go_ret;exact⟨Qg_ (by unfold Yh_;exact l.o.symm),grow_⟩
     have s:=h_ (XE_ (p:=Zt_ ps kind) B.o hd (by
      rw[f];by_cases h1:kind=10
      ·rw[df_ (show ¬0<k from fun h=>E ⟨h1,h⟩),φb];rfl
      rw[show(kind==10)=φ by rw[bn_];exact h1];rfl))
     by_cases L:kind=10
     ·subst L;have ik:¬(0:Int)<(k:Int):=oo;go_wp2_with (go_at_call 121;refine mb_ (o.o _ _) ?_;rintro w1 rfl);exact⟨⟨k+1,oo,s,by go_num,K.alloc _,grow_⟩,ms_⟩
     have an:(kind==10)=φ:=(by rw[bn_];exact L);go_wp2_with (go_at_call 121;refine mb_ (o.o _ _) ?_;rintro w1 rfl);exact⟨⟨k+1,oo,s,by go_num,K.alloc _,grow_⟩,ms_⟩
  have e5:(y.kind==5)=φ:=(by rw[bn_];exact J);have ak:(y.kind != 5)=τ:=(by unfold bne;rw[e5];rfl);have s:=h_<|XE_ (p:=Zt_ ps kind) B.o hd<|kk_ t J;go_wp2;exact⟨⟨k+1,oo,s,by go_num,K.alloc _,grow_⟩,ms_⟩
 have l:=h_<|Ux_ B.o (by have:=P.o;omega);go_wp2;go_ret;exact⟨Qg_ (by unfold Yh_;exact l.o.symm),grow_⟩
def JD_ (w:Ω) (u:Υ) (t:TypeId):∀j v,[u][j]? =σ v->(w.alloc (C_ #[u] t)).cell? ((⟨w.heap.size,0,ν⟩:Addr).add j)=σ v:=by
 intro j v a
 match j,a with
 |0,a=>
  obtain rfl:=oi_ a;exact(Blk.new w t #[u]).cell 0
 |j+1,a=>simp at a
def Ws_ {w:Ω} {B:Nat} {e:TypeId} {s:Nat} {v:Υ} {n:Nat} {xs:List Υ} (h:w.ownsRow B e s v n xs) {g:Nat} (hg:v.ownBlock=σ g):B<=g:=by
 rcases h.2 with⟨rfl,_⟩|⟨g',cap,a,rfl,b,_⟩
 ·simp[Value.ownBlock]at hg
 simp[Value.ownBlock]at hg;omega
def Gf_ (k:Int):Bool:=VW_ k||Ka_ k||k==21
def Un_ (k:Nat) (kids:LI) (i:Nat) (x:Int):Bool:=inB x 0 ((k:Int)-1)&&!(kids.take i).contains x
def JP_ (k:Nat) (kids:LI):Bool:=Kd_ (Un_ k kids) kids
def Qe_ (ps:List PN) (kids:LI):LI:=kids.map (Qc_ ps)
def Za_ (ps:List PN) (k:Nat):Bool:=
 match ps[k]? with
 |some x=>decide (η x.kids<=12)&&Zi_ x.kind x.text&&JP_ k x.kids&&(kfB x.kind (Qe_ ps x.kids)&&(Yh_ ps x.kind x.kids&&(Gf_ x.kind||!x.blank)))
 |none=>φ
def QbH_ (ps:List PN) (k:Int):Bool:=if 0<=k/\k<(η ps:Int)then Za_ ps k.toNat else φ
def PNs (ps:List PN):Prop:=∀p∈ps,p.text.size<=1048576/\η p.kids<=1048576
section
variable {ps:List PN} {k:Nat} {x:PN}
def zJ_ (h:ps[k]? =σ x) (h1:¬x.kids.length<=12):Za_ ps k=φ:=by unfold Za_;rw[h];simp[h1]
def QbG_ (h:ps[k]? =σ x) (h1:Zi_ x.kind x.text=φ):Za_ ps k=φ:=by unfold Za_;rw[h];simp[h1]
def zI_ (h:ps[k]? =σ x) (h1:JP_ k x.kids=φ):Za_ ps k=φ:=by unfold Za_;rw[h];simp[h1]
def QbF_ (h:ps[k]? =σ x) (h1:η x.kids<=12) (h2:Zi_ x.kind x.text=τ) (h3:JP_ k x.kids=τ):Za_ ps k=(kfB x.kind (Qe_ ps x.kids)&&(Yh_ ps x.kind x.kids&&(Gf_ x.kind||!x.blank))):=by unfold Za_;rw[h];simp[h1,h2,h3]
def QdL_ {k:Int} (h:¬(0<=k/\k<(η ps:Int))):QbH_ ps k=φ:=by unfold QbH_;rw[in_ h]
def v6_ (h:k<η ps):QbH_ ps (k:Int)=Za_ ps k:=by unfold QbH_;rw[ip_ ⟨oo,oo⟩,it_]
end
def Qbi_ (hd:p[m]? =σ (j:Int)) (hy:r[j]? =σ z):Qe_ r (p.take (m+1))=Qe_ r (p.take m)++[z.kind]:=by
 unfold Qe_;rw[List.take_add_one,hd];simp[Qr_ hy]
def W6_ (n c:Nat) (ps:List PN) (k:Int) (w:Ω) (hl:Ψ (η ps=n)) (hk:¬(0<=k/\k<(n:Int))):
  Δ π 122 #[S_ d n c,I_ j_ k] w (RB_ (B_ (QbH_ ps k)) w):=by
 rw[QdL_ (by rw[hl.o];exact hk)];have HN:=h_ (fun W=>Ym_ (n:=n) (show inB k 0 ((n:Int)-1)=φ from df_ oo) d c W);go_in;go_wp2_with (go_at_call 121;refine mb_ (HN.o _) ?_;rintro w1 rfl);exact Ξ
def Mine.cap {w:Ω} {B:Nat} {e:TypeId} {s:Nat} {A:OA} {n c:Nat} {xs:List Υ} (h:Mine w B e s A n c xs):n<=c:=by
 rcases h.own with⟨_,rfl,rfl⟩|⟨g,_,_,h2,_⟩
 ·exact lr_ _
 exact h2
def vX_ (h:inB a 0 ((m:Int)-1)=φ):Un_ m p j a=φ:=by unfold Un_;rw[h];rfl
def kS_ (h:(p.take j).contains a=τ):Un_ m p j a=φ:=by unfold Un_;rw[h];simp
def kT_ (h:inB a 0 ((m:Int)-1)=τ) (h2:(p.take j).contains a=φ):Un_ m p j a=τ:=by unfold Un_;rw[h,h2];rfl
def Qha_ (h:p[m]? =σ a):p.getD m 0=a:=by rw[List.getD_eq_getElem?_getD,h];rfl
def qs_ (n c:Nat) (ps:List PN) (k:Nat) (w:Ω) (hn:n<=1048576) (V:Nps w d n ps) (hb:Ψ (PNs ps)) (hk:k<n):
  Δ π 122 #[S_ d n c,I_ j_ k] w (RB_ (B_ (Za_ ps k)) w):=by
 have HP:=h_ V;have HL:=h_ V.len;have aO:Ψ (∀p∈ps,η p.kids<=1048576):=(show ∀p∈ps,_ from fun p hp=>(hb.o p hp).2);obtain⟨x,hx⟩:=V.get hk;obtain⟨b,off,A2,c2,rfl,av,x0,x1,x2,x3,bb,aB⟩:=V.atc hk hx;have a6:=hb.o x<|lm_ hx;have HX:=h_ hx;have ar:=h_ aB;have HN:=h_ (fun W=>Ym_ (n:=n) (show inB (k:Int) 0 ((n:Int)-1)=τ from dt_ oo) (σ ⟨b,off,ν⟩) c W);have bf:(k:Int)<n:=oo;obtain⟨bl,a7⟩:=a6;clear V hx aB;by_cases hm:η x.kids<=12
 ·have a2:¬((12:Int)<η x.kids):=oo;have HT:=h_ (fun(v:Bool) (h:Zi_ x.kind x.text=v) d n c z W=>show Δ π 169 #[A_ #[I_ j_ x.kind,T_ x.text,S_ d n c,B_ z]] W fun e w'=>e=R_ (B_ v)/\Λ W w' by rw[<-h];exact xN_ x.kind x.text d n c z W mx_)
  cases ht:Zi_ x.kind x.text with
  |false=>
   have Z:=h_<|HT.o _ ht;rw[QbG_ HX.o ht];clear HT ht;go_in;go_wp2_with fail
   refine mb_ (HN.o _) ?_;rintro w1 rfl;go_wp2_with fail;refine mb_ (Z.o _ _ _ _ _) ?_;intro w2 h2;go_wp2;go_ret;exact⟨rfl,Ql_ h2⟩
  |true=>
   have Z:=h_<|HT.o _ ht;have L:=h_ (fun h3=>QbF_ HX.o hm ht h3);have E:=h_ (fun h3=>zI_ (k:=k) HX.o h3);clear HT ht;generalize f:Za_ ps k=NB at L E |-
   clear f;go_in;go_wp2_with fail;refine mb_ (HN.o _) ?_;rintro w1 rfl;go_wp2_with fail;refine mb_ (Z.o _ _ _ _ _) ?_;intro w2 h2;have K:=Blk.fresh h2;have a:=Ql_ h2;clear h2 x0 x1 x2 x3 av HN Z;have ap:Mine w2 (w.heap.size+1) 3 1 ν 0 0 (Qa_ (Qe_ ps (x.kids.take 0))):=Mine.mk_nil _ _ _ _;obtain⟨i0,HI⟩:=iq_ QY_;have k2:=K.q2;have kz:=K.lt;go_wp2;go_loopw [6,30] (fun s6 i wr=>∃(t:Nat) (A6:OA) (c6:Nat),t<=η x.kids/\i=I_ j_ t/\s6=S_ A6 t c6/\Mine wr (w.heap.size+1) 3 1 A6 t c6 (Qa_ (Qe_ ps (x.kids.take t)))/\Ψ (AllI (Un_ k x.kids) x.kids t)/\Blk wr w.heap.size 96 #[I_ j_ x.kind,T_ x.text,S_ A2 (η x.kids) c2,B_ x.blank]/\Λ w wr) (fun _ i _=>η x.kids-(intOf i).toNat)
   ·exact⟨0,ν,0,lz_ _,rfl,rfl,ap,Jz_ _ _,K,a⟩
   clear ap K a k2 kz;obtain⟨t,A6,c6,bk,rfl,rfl,X,HA,F,a⟩:=hrel;have o:=h_ X;have kz:=F.lt;clear X;by_cases aA:t<η x.kids
   ·have k2:=F.cell 2;simp only[List.getElem?_toArray,List.getElem?_cons_zero,List.getElem?_cons_succ]at k2;obtain⟨v,hd⟩:∃A,x.kids[t]? =σ A:=⟨_,List.getElem?_eq_getElem aA⟩;have S:=ar.o.below a;obtain⟨b5,ac,rfl,a1,cv⟩:=Qu_ S aA hd
    cases H:inB v 0 ((k:Int)-1)with
    |false=>
     have f:NB=φ:=E.o<|ZF_ hd<|vX_ H;subst f;have ab:¬(0<=v/\v<=(k:Int)-1):=of_decide_eq_false H;clear hd L E S H HA o;by_cases a4:v<0
     ·go_wp2;go_ret;exact⟨rfl,a⟩
     have a5:(k:Int)<=v:=oo;go_wp2;go_ret;exact⟨rfl,a⟩
    |true=>
     have ab:0<=v/\v<=(k:Int)-1:=od_ H;obtain⟨q,rfl⟩:=eo_ ab.1;have bh:q<k:=oo;have a4:¬(q:Int)<0:=oo;have a5:¬(k:Int)<=(q:Int):=oo;have bj:t<=c2:=oo;have bc:(t:Int)<=c2:=oo;have HC:=h_ (fun(u:Bool) (h:(x.kids.take t).contains (q:Int)=u) c W (hW:Λ wr W)=>show Δ π 170 #[S_ (σ ⟨b5,ac,ν⟩) t c,I_ j_ q] W fun e w'=>e=R_ (B_ u)/\W=w' by
      rw[<-h];refine(Tryz.slices_Contains_int b5 ac t c x.kids q W oo oo ?_).mono (fun e w' ⟨h1,h2⟩=>⟨h1,h2.symm⟩);exact(fun j hj=>by
       obtain⟨y,hy⟩:∃y,x.kids[j]? =σ y:=⟨_,List.getElem?_eq_getElem hj⟩;obtain⟨b6,be,e6,_,cy⟩:=Qu_ (S.below hW) hj hy;injection e6 with e6;injection e6 with e61 e62;subst e61;subst e62;rw[Qha_ hy];exact cy))
     cases r:(x.kids.take t).contains (q:Int)with
     |true=>
      have f:NB=φ:=E.o<|ZF_ hd<|kS_ r;subst f;have ad:=h_<|HC.o _ r;clear hd L E S H HA o HC r;go_wp2_with (go_at_call 170;refine mb_ (ad.o _ _ br) ?_;rintro w1 rfl)
      go_ret;exact⟨rfl,a⟩
     |false=>
      have aU:=h_<|XE_ HA.o hd<|kT_ H r;have ad:=h_<|HC.o _ r;obtain⟨y,hy⟩:=HP.o.get (show q<n from oo);obtain⟨b3,bd,A3,c3,e3,a0,y0,y1,y2,y3,a8⟩:=(HP.o.below a).at_ (show q<n from oo) hy;injection e3 with e3;injection e3 with e31 e32;subst e31;subst e32;have a3:=h_<|Qbi_ hd hy;have bi:(q:Int)<n:=oo;have bg:(0:Int)<=q:=oo;clear hd L E H HA HC r a8 y1 y2 y3 hy;go_wp2_with (first|(go_at_call 170;refine mb_ (ad.o _ _ br) ?_;rintro w1 rfl)|(at_builtin;(refine wpList_append_own _ rfl (.tmp 50) (.tmp 56) _ rfl (w.heap.size+1) 3 i0 (I_ j_ 0) 1 8 underlying83 HI.o.1 HI.o.2.1 HI.o.2.2.1 HI.o.2.2.2 rfl dc_ _ _ _ rfl (Mine.alloc o.o _) ⟨wr.heap.size,0,ν⟩ 1 1 [I_ j_ y.kind] rfl rfl (JD_ _ _ _) (fun x hx=>by simp at hx;subst hx;rfl) mx_ oo so_ ?_);intro v' w3 U ag ai))
      have af:=a.alloc a.size<|C_ #[I_ j_ y.kind] 3;have aZ:Λ w w3:=af.grown ag af.size (fun g hg=>by have:=(Ws_ o.o hg);omega);have aV:=(F.alloc (C_ #[I_ j_ y.kind] 3)).grown ag (fun e=>by have:=Ws_ o.o e.symm;omega);obtain⟨A7,c7,rfl,m3⟩:=Mine.of U;have aP:=h_ m3;clear U ag ai af m3 S;go_wp2;go_roundw
      ·exact⟨t+1,A7,c7,oo,by go_num,rfl,by rw[a3.o];simpa[Qa_]using aP.o,aU,aV,aZ⟩
      exact ms_
   obtain rfl:t=η x.kids:=oo;have ah:=Ux_ HA.o (lr_ _);have l:=h_ (L.o ah);have O:Ψ (∀v∈x.kids,0<=v/\v<(n:Int)):=(show ∀v∈x.kids,_ from fun v hv=>by
    obtain⟨j,hj⟩:=List.mem_iff_getElem?.1 hv;have h1:=Z4_ ah hj;unfold Un_ at h1;rw[τa]at h1;have h2:=od_ h1.1;exact⟨h2.1,oo⟩)
   have az:Qe_ ps (x.kids.take (η x.kids))=Qe_ ps x.kids:=(by rw[List.take_length]);rw[az]at o;clear L E HA ah az;have k0:=F.q0;go_upto_region 14 with fail
   go_cut [9] (fun s wx=>s=B_ (Gf_ x.kind)/\Mine wx (w.heap.size+1) 3 1 A6 (η x.kids) c6 (Qa_ (Qe_ ps x.kids))/\Blk wx w.heap.size 96 #[I_ j_ x.kind,T_ x.text,S_ A2 (η x.kids) c2,B_ x.blank]/\Λ w wx)
   ·
    have HS:=h_ (fun(u:Bool) (h:VW_ x.kind=u) (W:Ω)=>show Δ π 171 #[I_ j_ x.kind] W fun e w'=>e=R_ (B_ u)/\W=w' by rw[<-h];exact zw_ _ W);have P:=h_ (fun(u:Bool) (h:Ka_ x.kind=u) (W:Ω)=>show Δ π 172 #[I_ j_ x.kind] W fun e w'=>e=R_ (B_ u)/\W=w' by rw[<-h];exact Vi_ _ W)
    cases hs:VW_ x.kind with
    |true=>
     have Y:=h_<|HS.o _ hs;have T:Gf_ x.kind=τ:=(by unfold Gf_;rw[hs];rfl);clear HS P hs l;go_wp2_with (go_at_call 171;refine mb_ (Y.o _) ?_;rintro w1 rfl)
     go_meet;exact⟨by rw[T],o.o,F,a⟩
    |false=>
     have Y:=h_<|HS.o _ hs
     cases M:Ka_ x.kind with
     |true=>
      have Q:=h_<|P.o _ M;have T:Gf_ x.kind=τ:=(by unfold Gf_;rw[hs,M];rfl);clear HS P hs M l;go_wp2_with (first|(go_at_call 171;refine mb_ (Y.o _) ?_;rintro w1 rfl)|(go_at_call 172;refine mb_ (Q.o _) ?_;rintro w1 rfl))
      go_meet;exact⟨by rw[T],o.o,F,a⟩
     |false=>
      have Q:=h_<|P.o _ M;have T:Gf_ x.kind=(x.kind==21):=(by unfold Gf_;rw[hs,M];rfl);clear HS P hs M l;go_wp2_with (first|(go_at_call 171;refine mb_ (Y.o _) ?_;rintro w1 rfl)|(go_at_call 172;refine mb_ (Q.o _) ?_;rintro w1 rfl))
      go_meet;exact⟨by rw[T],o.o,F,a⟩
   clear o F a k0 kz;obtain⟨rfl,X,F,a⟩:=hcut;have k0:=F.q0;have k1:=F.q1;have k2:=F.q2;have k3:=F.q3;have kz:=F.lt;have J:=h_ (fun(u:Bool) (h:kfB x.kind (Qe_ ps x.kids)=u)=>show Δ π 173 #[I_ j_ x.kind,S_ A6 (η x.kids) c6] wc fun e w'=>e=R_ (B_ u)/\Λ wc w' by rw[<-h];exact kV_ x.kind A6 (η x.kids) c6 (Qe_ ps x.kids) wc oo X.cap (h_ (by unfold Qe_;rw[List.length_map])) X.rd)
   cases D:kfB x.kind (Qe_ ps x.kids)with
   |false=>
    have f:NB=φ:=(by rw[l.o,D];rfl);subst f;have B:=h_<|J.o _ D;clear J D l X O;go_wp2_with fail
    refine mb_ B.o ?_;intro w5 R;go_wp2;go_ret;exact⟨rfl,Qb_ a R⟩
   |true=>
    have B:=h_<|J.o _ D;have f:NB=(Yh_ ps x.kind x.kids&&(Gf_ x.kind||!x.blank)):=(by rw[l.o,D];rfl);have N:=h_ (fun(u:Bool) (h:Yh_ ps x.kind x.kids=u) (W:Ω) (hW:Λ w W)=>show Δ π 174 #[S_ (σ ⟨b,off,ν⟩) n c,A_ #[I_ j_ x.kind,T_ x.text,S_ A2 (η x.kids) c2,B_ x.blank]] W fun e w'=>e=R_ (B_ u)/\Λ W w' by rw[<-h];exact kl_ _ n c ps x.kind x.text x.kids x.blank A2 (η x.kids) c2 W hn a7 (HP.o.below hW) (h_ rfl) (ar.o.below hW) O aO)
    cases G:Yh_ ps x.kind x.kids with
    |false=>
     have I:=h_<|N.o _ G;rw[G]at f;have C:NB=φ:=f;subst C;clear J D l X O f N G;go_wp2_with fail
     refine mb_ B.o ?_;intro w5 R;have m:=Qb_ a R;obtain⟨ax,ay⟩:=QW_ R;go_wp2_with fail;refine mb_ (I.o _ m) ?_;intro w6 h6;go_wp2;go_ret;exact⟨rfl,Qb_ m h6⟩
    |true=>
     have I:=h_<|N.o _ G;rw[G,τb]at f;generalize Gf_ x.kind=mb at f
     cases mb with
     |true=>
      have C:NB=τ:=f;subst C;clear J D l X O f N G;go_wp2_with fail;refine mb_ B.o ?_;intro w5 R;have m:=Qb_ a R;obtain⟨ax,ay⟩:=QW_ R;go_wp2_with fail;refine mb_ (I.o _ m) ?_;intro w6 h6;go_wp2;go_ret;exact⟨rfl,Qb_ m h6⟩
     |false=>
      have C:NB=!x.blank:=f;subst C;clear J D l X O N G f;go_wp2_with fail;refine mb_ B.o ?_;intro w5 R;have m:=Qb_ a R;have aX:=F.next R;obtain⟨ax,ay⟩:=QW_ R;go_wp2_with fail;refine mb_ (I.o _ m) ?_;intro w6 h6;have aY:=aX.next h6;have bm:=aY.q3;go_wp2;go_ret;exact⟨rfl,Qb_ m h6⟩
 have a2:(12:Int)<η x.kids:=oo;rw[zJ_ HX.o hm];go_in;go_wp2_with fail;refine mb_ (HN.o _) ?_;rintro w1 rfl;exact Γ
def W5_ (hn:n<=1048576) (a:Nps h d n e) (hb:Ψ (PNs e)):
  Δ π 122 #[S_ d n c,I_ j_ k] h (RB_ (B_ (QbH_ e k)) h):=by
 have hl:=a.len;by_cases hk:0<=k/\k<(n:Int)
 ·obtain⟨q,rfl⟩:=eo_ hk.1;rw[v6_ oo];exact qs_ d n c e q h hn a hb oo
 exact W6_ d n c e k h (h_ hl) hk
def Ki_ (kind:Int):Int:=
 if kind=5\/kind=9\/kind=20\/kind=6\/kind=11\/kind=13\/kind=14 then 1
 else if kind=7\/kind=10\/kind=16\/kind=17 then 2
 else if kind=8 then 3 else 0
def Kb_ (kind:Int):Int:=
 if kind=4\/kind=18\/kind=21\/kind=22\/kind=5\/kind=9\/kind=20\/kind=7\/kind=10 then 12
 else if kind=6\/kind=11\/kind=13\/kind=14\/kind=12\/kind=15 then 1
 else if kind=8\/kind=16 then 3
 else if kind=17 then 2 else 0
def Vf_ (ps:List PN) (kind:Int) (n i:Nat) (kid:Int):Bool:=
 if kind=9 then (if i+1<n then isK 1 (Qc_ ps kid)else Qk_ (Qc_ ps kid))
 else if kind=20 then (if i+1<n then isK 1 (Qc_ ps kid)else isK 18 (Qc_ ps kid))
 else if kind=10 then (if 0<i then isK 5 (Qc_ ps kid)&&(match ps[kid.toNat]? with|some y=>(match y.kids with|j::_=>isK 1 (Qc_ ps j)|[]=>φ)|none=>φ)else Qk_ (Qc_ ps kid))
 else if kind=16\/kind=17 then (if 0<i then isK 18 (Qc_ ps kid)else Qk_ (Qc_ ps kid))
 else if kind=18 then ZR_ (Qc_ ps kid)
 else if kind=21 then Ka_ (Qc_ ps kid)
 else if kind=22 then isK 21 (Qc_ ps kid)||Ka_ (Qc_ ps kid)
 else Qk_ (Qc_ ps kid)
def UB_ (hk:k=4\/k=18\/k=21\/k=22):Δ π 129 #[I_ j_ k] h (RS_ (U_ #[I_ j_ 0,I_ j_ 12]) h):=by
 rcases hk with rfl|rfl|rfl|rfl
 all_goals
  go_in;go_wp2;go_ret2;exact⟨rfl,rfl⟩
def qg_ (hk:k=5\/k=9\/k=20):Δ π 129 #[I_ j_ k] h (RS_ (U_ #[I_ j_ 1,I_ j_ 12]) h):=by
 rcases hk with rfl|rfl|rfl
 all_goals
  go_in;go_wp2;go_ret2;exact⟨rfl,rfl⟩
def qh_ (hk:k=6\/k=11\/k=13\/k=14):Δ π 129 #[I_ j_ k] h (RS_ (U_ #[I_ j_ 1,I_ j_ 1]) h):=by
 rcases hk with rfl|rfl|rfl|rfl
 all_goals
  go_in;go_wp2;go_ret2;exact⟨rfl,rfl⟩
def kp_ (hk:k=7\/k=10):Δ π 129 #[I_ j_ k] h (RS_ (U_ #[I_ j_ 2,I_ j_ 12]) h):=by
 rcases hk with rfl|rfl
 all_goals
  go_in;go_wp2;go_ret2;exact⟨rfl,rfl⟩
def Qfb_ (hk:k=8):Δ π 129 #[I_ j_ k] h (RS_ (U_ #[I_ j_ 3,I_ j_ 3]) h):=by
 rcases hk with rfl
 all_goals
  go_in;go_wp2;go_ret2;exact⟨rfl,rfl⟩
def QcH_ (hk:k=12\/k=15):Δ π 129 #[I_ j_ k] h (RS_ (U_ #[I_ j_ 0,I_ j_ 1]) h):=by
 rcases hk with rfl|rfl
 all_goals
  go_in;go_wp2;go_ret2;exact⟨rfl,rfl⟩
def Qh7_ (hk:k=16):Δ π 129 #[I_ j_ k] h (RS_ (U_ #[I_ j_ 2,I_ j_ 3]) h):=by
 rcases hk with rfl
 all_goals
  go_in;go_wp2;go_ret2;exact⟨rfl,rfl⟩
def QcI_ (hk:k=17):Δ π 129 #[I_ j_ k] h (RS_ (U_ #[I_ j_ 2,I_ j_ 2]) h):=by
 rcases hk with rfl
 all_goals
  go_in;go_wp2;go_ret2;exact⟨rfl,rfl⟩
def UC_ (hk:k=1\/k=2\/k=3\/k=19):Δ π 129 #[I_ j_ k] h (RS_ (U_ #[I_ j_ 0,I_ j_ 0]) h):=by
 rcases hk with rfl|rfl|rfl|rfl
 all_goals
  go_in;go_wp2;go_ret2;exact⟨rfl,rfl⟩
def k1_ (hk:1<=k/\k<=22):Δ π 129 #[I_ j_ k] h (RS_ (U_ #[I_ j_ (Ki_ k),I_ j_ (Kb_ k)]) h):=by
 have h2:k=1\/k=2\/k=3\/k=4\/k=5\/k=6\/k=7\/k=8\/k=9\/k=10\/k=11\/k=12\/k=13\/k=14\/k=15\/k=16\/k=17\/k=18\/k=19\/k=20\/k=21\/k=22:=oo;rcases h2 with rfl|rfl|rfl|rfl|rfl|rfl|rfl|rfl|rfl|rfl|rfl|rfl|rfl|rfl|rfl|rfl|rfl|rfl|rfl|rfl|rfl|rfl
 ·exact UC_ 1 h oo
 ·exact UC_ 2 h oo
 ·exact UC_ 3 h oo
 ·exact UB_ 4 h oo
 ·exact qg_ 5 h oo
 ·exact qh_ 6 h oo
 ·exact kp_ 7 h oo
 ·exact Qfb_ 8 h oo
 ·exact qg_ 9 h oo
 ·exact kp_ 10 h oo
 ·exact qh_ 11 h oo
 ·exact QcH_ 12 h oo
 ·exact qh_ 13 h oo
 ·exact qh_ 14 h oo
 ·exact QcH_ 15 h oo
 ·exact Qh7_ 16 h oo
 ·exact QcI_ 17 h oo
 ·exact UB_ 18 h oo
 ·exact UC_ 19 h oo
 ·exact qg_ 20 h oo
 ·exact UB_ 21 h oo
 exact UB_ 22 h oo
def QgU_ (hn:n<=1048576) (k:Nps g d n e) (hb:Ψ (PNs e)) (hk:f<n) (hx:Ψ (e[f]? =σ x)) (hi:i<η x.kids) (hd:Ψ (x.kids[i]? =σ (q:Int))) (hq:q<n) (hy:Ψ (e[q]? =σ y)) (a:x.kind=1\/x.kind=2\/x.kind=3\/x.kind=4\/x.kind=5\/x.kind=6\/x.kind=7\/x.kind=8\/x.kind=11\/x.kind=12\/x.kind=13\/x.kind=14\/x.kind=15\/x.kind=19):
  Δ π 132 #[S_ d n c,I_ j_ f,I_ j_ i] g (RB_ (B_ (Vf_ e x.kind (η x.kids) i q)) g):=by
 have F:=(hb.o x (lm_ hx.o)).2;obtain⟨b,off,A2,c2,rfl,p,x0,x1,x2,x3,h⟩:=k.at_ hk hx.o;obtain⟨b3,r,A3,c3,j,l,y0,y1,y2,y3,o⟩:=k.at_ hq hy.o;injection j with j;injection j with e31 e32;subst e31;subst e32;obtain⟨b5,s,rfl,m,cv⟩:=Qu_ h hi hd.o;have g0:(0:Int)<=(q:Int):=oo;have g1:(q:Int)<n:=oo;have g2:(f:Int)<n:=oo;have g3:(i:Int)<η x.kids:=oo;have ps:=Qr_ hy.o;have A:Vf_ e x.kind (η x.kids) i (q:Int)=Qk_ y.kind:=by
  unfold Vf_;rw[ps,in_ oo,in_ oo,in_ oo,in_ oo,in_ oo,in_ oo,in_ oo]
 rw[A];have HV:=h_ (fun W=>Zq_ y.kind W);generalize Qk_ y.kind=u at HV |-
 have d9:(x.kind==9)=φ:=by rw[bn_];omega
 have C:(x.kind==20)=φ:=by rw[bn_];omega
 have t:(x.kind==10)=φ:=by rw[bn_];omega
 have v:(x.kind==16)=φ:=by rw[bn_];omega
 have z:(x.kind==17)=φ:=by rw[bn_];omega
 have B:(x.kind==18)=φ:=by rw[bn_];omega
 have D:(x.kind==21)=φ:=by rw[bn_];omega
 have E:(x.kind==22)=φ:=by rw[bn_];omega
 go_in;go_wp2_with fail;refine mb_ (HV.o _) ?_;rintro w1 rfl;exact Γ
def Qib_ (hn:n<=1048576) (k:Nps g d n e) (hb:Ψ (PNs e)) (hk:f<n) (hx:Ψ (e[f]? =σ x)) (hi:i<η x.kids) (hd:Ψ (x.kids[i]? =σ (q:Int))) (hq:q<n) (hy:Ψ (e[q]? =σ y)) (a:x.kind=9):
  Δ π 132 #[S_ d n c,I_ j_ f,I_ j_ i] g (RB_ (B_ (Vf_ e x.kind (η x.kids) i q)) g):=by
 have t:=(hb.o x (lm_ hx.o)).2;obtain⟨b,off,A2,c2,rfl,p,x0,x1,x2,x3,h⟩:=k.at_ hk hx.o;obtain⟨b3,r,A3,c3,j,l,y0,y1,y2,y3,o⟩:=k.at_ hq hy.o;injection j with j;injection j with e31 e32;subst e31;subst e32;obtain⟨b5,s,rfl,m,cv⟩:=Qu_ h hi hd.o;have g0:(0:Int)<=(q:Int):=oo;have g1:(q:Int)<n:=oo;have g2:(f:Int)<n:=oo;have g3:(i:Int)<η x.kids:=oo;have ps:=Qr_ hy.o;rw[a]at x0;have A:Vf_ e x.kind (η x.kids) i (q:Int)=if i+1<η x.kids then isK 1 y.kind else Qk_ y.kind:=by
  rw[a];unfold Vf_;rw[ps];simp
 rw[A];by_cases ht:i+1<η x.kids
 ·rw[ip_ ht];have i1:((i:Int)+1<η x.kids):=oo;go_in;exact Γ
 rw[in_ ht];have i1:(¬(i:Int)+1<η x.kids):=oo;have HV:=h_ (fun W=>Zq_ y.kind W);generalize Qk_ y.kind=u at HV |-
 go_in;go_wp2_with fail;refine mb_ (HV.o _) ?_;rintro w1 rfl;exact Γ
def QaX_ (hn:n<=1048576) (k:Nps g d n e) (hb:Ψ (PNs e)) (hk:f<n) (hx:Ψ (e[f]? =σ x)) (hi:i<η x.kids) (hd:Ψ (x.kids[i]? =σ (q:Int))) (hq:q<n) (hy:Ψ (e[q]? =σ y)) (a:x.kind=20):
  Δ π 132 #[S_ d n c,I_ j_ f,I_ j_ i] g (RB_ (B_ (Vf_ e x.kind (η x.kids) i q)) g):=by
 have t:=(hb.o x (lm_ hx.o)).2;obtain⟨b,off,A2,c2,rfl,p,x0,x1,x2,x3,h⟩:=k.at_ hk hx.o;obtain⟨b3,r,A3,c3,j,l,y0,y1,y2,y3,o⟩:=k.at_ hq hy.o;injection j with j;injection j with e31 e32;subst e31;subst e32;obtain⟨b5,s,rfl,m,cv⟩:=Qu_ h hi hd.o;have g0:(0:Int)<=(q:Int):=oo;have g1:(q:Int)<n:=oo;have g2:(f:Int)<n:=oo;have g3:(i:Int)<η x.kids:=oo;have ps:=Qr_ hy.o;rw[a]at x0;have A:Vf_ e x.kind (η x.kids) i (q:Int)=if i+1<η x.kids then isK 1 y.kind else isK 18 y.kind:=by
  rw[a];unfold Vf_;rw[ps];simp
 rw[A];by_cases ht:i+1<η x.kids
 ·rw[ip_ ht];have i1:((i:Int)+1<η x.kids):=oo;go_in;exact Γ
 rw[in_ ht];have i1:(¬(i:Int)+1<η x.kids):=oo;go_in;exact Γ
def Qic_ (hn:n<=1048576) (k:Nps g d n e) (hb:Ψ (PNs e)) (hk:f<n) (hx:Ψ (e[f]? =σ x)) (hi:i<η x.kids) (hd:Ψ (x.kids[i]? =σ (q:Int))) (hq:q<n) (hy:Ψ (e[q]? =σ y)) (a:x.kind=16):
  Δ π 132 #[S_ d n c,I_ j_ f,I_ j_ i] g (RB_ (B_ (Vf_ e x.kind (η x.kids) i q)) g):=by
 have t:=(hb.o x (lm_ hx.o)).2;obtain⟨b,off,A2,c2,rfl,p,x0,x1,x2,x3,h⟩:=k.at_ hk hx.o;obtain⟨b3,r,A3,c3,j,l,y0,y1,y2,y3,o⟩:=k.at_ hq hy.o;injection j with j;injection j with e31 e32;subst e31;subst e32;obtain⟨b5,s,rfl,m,cv⟩:=Qu_ h hi hd.o;have g0:(0:Int)<=(q:Int):=oo;have g1:(q:Int)<n:=oo;have g2:(f:Int)<n:=oo;have g3:(i:Int)<η x.kids:=oo;have ps:=Qr_ hy.o;rw[a]at x0;have A:Vf_ e x.kind (η x.kids) i (q:Int)=if 0<i then isK 18 y.kind else Qk_ y.kind:=by
  rw[a];unfold Vf_;rw[ps];simp
 rw[A];by_cases ht:0<i
 ·rw[ip_ ht];have i1:((0:Int)<i):=oo;go_in;exact Γ
 rw[in_ ht];have i1:(¬(0:Int)<i):=oo;have HV:=h_ (fun W=>Zq_ y.kind W);generalize Qk_ y.kind=u at HV |-
 go_in;go_wp2_with fail;refine mb_ (HV.o _) ?_;rintro w1 rfl;exact Γ
def QcX_ (hn:n<=1048576) (k:Nps g d n e) (hb:Ψ (PNs e)) (hk:f<n) (hx:Ψ (e[f]? =σ x)) (hi:i<η x.kids) (hd:Ψ (x.kids[i]? =σ (q:Int))) (hq:q<n) (hy:Ψ (e[q]? =σ y)) (a:x.kind=17):
  Δ π 132 #[S_ d n c,I_ j_ f,I_ j_ i] g (RB_ (B_ (Vf_ e x.kind (η x.kids) i q)) g):=by
 have t:=(hb.o x (lm_ hx.o)).2;obtain⟨b,off,A2,c2,rfl,p,x0,x1,x2,x3,h⟩:=k.at_ hk hx.o;obtain⟨b3,r,A3,c3,j,l,y0,y1,y2,y3,o⟩:=k.at_ hq hy.o;injection j with j;injection j with e31 e32;subst e31;subst e32;obtain⟨b5,s,rfl,m,cv⟩:=Qu_ h hi hd.o;have g0:(0:Int)<=(q:Int):=oo;have g1:(q:Int)<n:=oo;have g2:(f:Int)<n:=oo;have g3:(i:Int)<η x.kids:=oo;have ps:=Qr_ hy.o;rw[a]at x0;have A:Vf_ e x.kind (η x.kids) i (q:Int)=if 0<i then isK 18 y.kind else Qk_ y.kind:=by
  rw[a];unfold Vf_;rw[ps];simp
 rw[A];by_cases ht:0<i
 ·rw[ip_ ht];have i1:((0:Int)<i):=oo;go_in;exact Γ
 rw[in_ ht];have i1:(¬(0:Int)<i):=oo;have HV:=h_ (fun W=>Zq_ y.kind W);generalize Qk_ y.kind=u at HV |-
 go_in;go_wp2_with fail;refine mb_ (HV.o _) ?_;rintro w1 rfl;exact Γ
def QcU_ (hn:n<=1048576) (k:Nps g d n e) (hb:Ψ (PNs e)) (hk:f<n) (hx:Ψ (e[f]? =σ x)) (hi:i<η x.kids) (hd:Ψ (x.kids[i]? =σ (q:Int))) (hq:q<n) (hy:Ψ (e[q]? =σ y)) (a:x.kind=18):
  Δ π 132 #[S_ d n c,I_ j_ f,I_ j_ i] g (RB_ (B_ (Vf_ e x.kind (η x.kids) i q)) g):=by
 have t:=(hb.o x (lm_ hx.o)).2;obtain⟨b,off,A2,c2,rfl,p,x0,x1,x2,x3,h⟩:=k.at_ hk hx.o;obtain⟨b3,r,A3,c3,j,l,y0,y1,y2,y3,o⟩:=k.at_ hq hy.o;injection j with j;injection j with e31 e32;subst e31;subst e32;obtain⟨b5,s,rfl,m,cv⟩:=Qu_ h hi hd.o;have g0:(0:Int)<=(q:Int):=oo;have g1:(q:Int)<n:=oo;have g2:(f:Int)<n:=oo;have g3:(i:Int)<η x.kids:=oo;have ps:=Qr_ hy.o;rw[a]at x0;have A:Vf_ e x.kind (η x.kids) i (q:Int)=ZR_ y.kind:=by
  rw[a];unfold Vf_;rw[ps];simp
 rw[A];have HV:=h_ (fun W=>Uc_ y.kind W);generalize ZR_ y.kind=u at HV |-
 go_in;go_wp2_with fail;refine mb_ (HV.o _) ?_;rintro w1 rfl;exact Γ
def QcV_ (hn:n<=1048576) (k:Nps g d n e) (hb:Ψ (PNs e)) (hk:f<n) (hx:Ψ (e[f]? =σ x)) (hi:i<η x.kids) (hd:Ψ (x.kids[i]? =σ (q:Int))) (hq:q<n) (hy:Ψ (e[q]? =σ y)) (a:x.kind=21):
  Δ π 132 #[S_ d n c,I_ j_ f,I_ j_ i] g (RB_ (B_ (Vf_ e x.kind (η x.kids) i q)) g):=by
 have t:=(hb.o x (lm_ hx.o)).2;obtain⟨b,off,A2,c2,rfl,p,x0,x1,x2,x3,h⟩:=k.at_ hk hx.o;obtain⟨b3,r,A3,c3,j,l,y0,y1,y2,y3,o⟩:=k.at_ hq hy.o;injection j with j;injection j with e31 e32;subst e31;subst e32;obtain⟨b5,s,rfl,m,cv⟩:=Qu_ h hi hd.o;have g0:(0:Int)<=(q:Int):=oo;have g1:(q:Int)<n:=oo;have g2:(f:Int)<n:=oo;have g3:(i:Int)<η x.kids:=oo;have ps:=Qr_ hy.o;rw[a]at x0;have A:Vf_ e x.kind (η x.kids) i (q:Int)=(y.kind==12||(y.kind==20||y.kind==19)):=by
  rw[a];unfold Vf_;rw[ps];simp[isK,Ka_,Bool.or_assoc]
 rw[A]
 cases e0:(y.kind==12)with
 |true=>
  simp only[τp,τo,Bool.false_or];go_in;exact Γ
 |false=>
  cases e1:(y.kind==20)with
  |true=>
   simp only[τp,τo,Bool.false_or];go_in;exact Γ
  |false=>
   simp only[Bool.false_or];go_in;exact Γ
def Qfk_ (hn:n<=1048576) (k:Nps g d n e) (hb:Ψ (PNs e)) (hk:f<n) (hx:Ψ (e[f]? =σ x)) (hi:i<η x.kids) (hd:Ψ (x.kids[i]? =σ (q:Int))) (hq:q<n) (hy:Ψ (e[q]? =σ y)) (a:x.kind=22):
  Δ π 132 #[S_ d n c,I_ j_ f,I_ j_ i] g (RB_ (B_ (Vf_ e x.kind (η x.kids) i q)) g):=by
 have t:=(hb.o x (lm_ hx.o)).2;obtain⟨b,off,A2,c2,rfl,p,x0,x1,x2,x3,h⟩:=k.at_ hk hx.o;obtain⟨b3,r,A3,c3,j,l,y0,y1,y2,y3,o⟩:=k.at_ hq hy.o;injection j with j;injection j with e31 e32;subst e31;subst e32;obtain⟨b5,s,rfl,m,cv⟩:=Qu_ h hi hd.o;have g0:(0:Int)<=(q:Int):=oo;have g1:(q:Int)<n:=oo;have g2:(f:Int)<n:=oo;have g3:(i:Int)<η x.kids:=oo;have ps:=Qr_ hy.o;rw[a]at x0;have A:Vf_ e x.kind (η x.kids) i (q:Int)=(y.kind==21||(y.kind==12||(y.kind==20||y.kind==19))):=by
  rw[a];unfold Vf_;rw[ps];simp[isK,Ka_,Bool.or_assoc]
 rw[A]
 cases e0:(y.kind==21)with
 |true=>
  simp only[τp,τo,Bool.false_or];go_in;exact Γ
 |false=>
  cases e1:(y.kind==12)with
  |true=>
   simp only[τp,τo,Bool.false_or];go_in;exact Γ
  |false=>
   cases e2:(y.kind==20)with
   |true=>
    simp only[τp,τo,Bool.false_or];go_in;exact Γ
   |false=>
    simp only[Bool.false_or];go_in;exact Γ
def jj_ (hn:n<=1048576) (ps:Nps g d n e) (hb:Ψ (PNs e)) (hk:f<n) (hx:Ψ (e[f]? =σ x)) (hi:i<η x.kids) (hd:Ψ (x.kids[i]? =σ (q:Int))) (hq:q<n) (H:Ψ (e[q]? =σ y)) (l:y.kind=5->∃(r:Nat) (js:LI),y.kids=(r:Int)::js/\r<n) (A:x.kind=10):
  Δ π 132 #[S_ d n c,I_ j_ f,I_ j_ i] g (RB_ (B_ (Vf_ e x.kind (η x.kids) i q)) g):=by
 have P:=(hb.o x (lm_ hx.o)).2;obtain⟨b,off,A2,c2,rfl,K,x0,x1,x2,x3,v⟩:=ps.at_ hk hx.o;obtain⟨b3,L,A3,c3,B,D,y0,y1,y2,y3,h⟩:=ps.at_ hq H.o;injection B with B;injection B with e31 e32;subst e31;subst e32;obtain⟨b5,N,rfl,F,cv⟩:=Qu_ v hi hd.o;have g0:(0:Int)<=(q:Int):=oo;have g1:(q:Int)<n:=oo;have g2:(f:Int)<n:=oo;have g3:(i:Int)<η x.kids:=oo;have s:=Qr_ H.o;rw[A]at x0;have o:Vf_ e x.kind (η x.kids) i (q:Int)=if 0<i then isK 5 y.kind&&(match y.kids with|j::_=>isK 1 (Qc_ e j)|[]=>φ)else Qk_ y.kind:=by
  rw[A];unfold Vf_;rw[s,it_,H.o];simp<;>rfl
 rw[o];by_cases ht:0<i
 ·rw[ip_ ht];have i1:(0:Int)<i:=oo;by_cases z:y.kind=5
  ·obtain⟨r,js,k,t⟩:=l z;have I:0<η y.kids:=(by rw[k];simp);have p:y.kids[0]? =σ (r:Int):=(by rw[k];rfl);obtain⟨b6,O,rfl,G,cj⟩:=Qu_ h I p;simp only[Nat.add_zero]at cj;have i2:(0:Int)<η y.kids:=oo;have g4:(0:Int)<=(r:Int):=oo;have g5:(r:Int)<n:=oo;obtain⟨zz,m⟩:=ps.get t;obtain⟨b4,M,A4,c4,C,E,z0,z1,z2,z3,J⟩:=ps.at_ t m;injection C with C;injection C with e41 e42;subst e41;subst e42;have a:(isK 5 y.kind&&(match y.kids with|j::_=>isK 1 (Qc_ e j)|[]=>φ))=(zz.kind==1):=by
    rw[k,z];simp only[Qr_ m];rfl
   rw[a];rw[z]at y0;go_in;exact Γ
  have e5:(y.kind==5)=φ:=(by rw[bn_];exact z);have a:(isK 5 y.kind&&(match y.kids with|j::_=>isK 1 (Qc_ e j)|[]=>φ))=φ:=by
   unfold isK;rw[e5,φa]
  rw[a];go_in;exact Γ
 rw[in_ ht];have i1:¬(0:Int)<i:=oo;have HV:=h_ (fun W=>Zq_ y.kind W);generalize Qk_ y.kind=u at HV |-
 go_in;go_wp2_with fail;refine mb_ (HV.o _) ?_;rintro w1 rfl;exact Γ
def jA_ (ps:n<=1048576) (a:Nps g d n e) (b:Ψ (PNs e)) (A:f<n) (h:Ψ (e[f]? =σ x)) (hi:i<η x.kids) (hd:Ψ (x.kids[i]? =σ (q:Int))) (k:q<n) (j:Ψ (e[q]? =σ y)) (l:y.kind=5->∃(r:Nat) (js:LI),y.kids=(r:Int)::js/\r<n) (B:1<=x.kind/\x.kind<=22):
  Δ π 132 #[S_ d n c,I_ j_ f,I_ j_ i] g (RB_ (B_ (Vf_ e x.kind (η x.kids) i q)) g):=by
 by_cases h9:x.kind=9
 ·exact Qib_ d n c e f i x y q g ps a b A h hi hd k j h9
 by_cases t:x.kind=20
 ·exact QaX_ d n c e f i x y q g ps a b A h hi hd k j t
 by_cases m:x.kind=10
 ·exact jj_ d n c e f i x y q g ps a b A h hi hd k j l m
 by_cases o:x.kind=16
 ·exact Qic_ d n c e f i x y q g ps a b A h hi hd k j o
 by_cases p:x.kind=17
 ·exact QcX_ d n c e f i x y q g ps a b A h hi hd k j p
 by_cases s:x.kind=18
 ·exact QcU_ d n c e f i x y q g ps a b A h hi hd k j s
 by_cases v:x.kind=21
 ·exact QcV_ d n c e f i x y q g ps a b A h hi hd k j v
 by_cases z:x.kind=22
 ·exact Qfk_ d n c e f i x y q g ps a b A h hi hd k j z
 exact QgU_ d n c e f i x y q g ps a b A h hi hd k j oo
def Yf_ (ps:List PN) (v:Int):Bool:=
 match ps[v.toNat]? with
 |some y=>if y.kind=5 then (match y.kids with|[]=>φ|j::_=>inB j 0 ((η ps:Int)-1))else τ
 |none=>φ
section
variable {ps:List PN} {k:Nat} {y:PN} {j:Int} {js:LI}
def kj_ (h:ps[k]? =σ y) (h5:¬y.kind=5):Yf_ ps (k:Int)=τ:=by unfold Yf_;rw[it_,h];simp only;rw[in_ h5]
def ja_ (h:ps[k]? =σ y) (h5:y.kind=5) (hk:y.kids=[]):Yf_ ps (k:Int)=φ:=by unfold Yf_;rw[it_,h];simp only;rw[ip_ h5,hk]
def jb_ (h:ps[k]? =σ y) (h5:y.kind=5) (hk:y.kids=j::js):Yf_ ps (k:Int)=inB j 0 ((η ps:Int)-1):=by unfold Yf_;rw[it_,h];simp only;rw[ip_ h5,hk]
end
def Xf_ (ps:List PN) (x:PN) (i:Nat) (v:Int):Bool:=Yf_ ps v&&Vf_ ps x.kind (η x.kids) i v
def z0_ (ps:List PN) (k:Nat):Bool:=
 match ps[k]? with
 |some x=>inB x.kind 1 22&&(inB (η x.kids:Int) (Ki_ x.kind) (Kb_ x.kind)&&(Zi_ x.kind x.text&&(!(x.blank&&!Gf_ x.kind)&&(JP_ k x.kids&&Kd_ (Xf_ ps x) x.kids))))
 |none=>φ
def Qhm_:Gf_ k=(ZR_ k||k==20||k==21):=by
 unfold Gf_ ZR_ Ka_ VW_
 cases c:(k==12)with
 |true=>
  rw[beq_iff_eq]at c;subst c;decide
 |false=>
  generalize inB k 12 17=a;generalize (k==20)=b;generalize (k==19)=d;generalize (k==21)=e;revert a b d e;decide
def q1_ (hn:n<=1048576) (X:Nps g d n e) (hb:Ψ (PNs e)) (hk:f<n):
  Δ π 111 #[S_ d n c,I_ j_ f] g (RB_ (B_ (z0_ e f)) g):=by
 have HP:=h_ X;have HL:=h_ X.len;obtain⟨x,hx⟩:=X.get hk;obtain⟨b,off,A2,c2,rfl,aA,x0,x1,x2,x3,a7,aF⟩:=X.atc hk hx;have a3:=hb.o x<|lm_ hx;have HX:=h_ hx;have af:=h_ aF;have HN:=h_ (fun W=>Ko_ (show inB (f:Int) 0 ((n:Int)-1)=τ from dt_ oo) W);have bc:(f:Int)<n:=oo;obtain⟨bf,be⟩:=a3;have w:Ψ (z0_ e f=(inB x.kind 1 22&&(inB (η x.kids:Int) (Ki_ x.kind) (Kb_ x.kind)&&(Zi_ x.kind x.text&&(!(x.blank&&!Gf_ x.kind)&&(JP_ f x.kids&&Kd_ (Xf_ e x) x.kids)))))):=(show _=_ by unfold z0_;rw[hx]);clear X hx aF;generalize z0_ e f=F at w |-
 cases I:inB x.kind 1 22 with
 |false=>
  have l:F=φ:=by rw[w.o,I];rfl
  subst l;have HK:=h_ (fun W=>Ko_ I W);clear w I;go_in;go_wp2_with fail;refine mb_ (HN.o _) ?_;rintro w1 rfl;go_wp2_with fail;refine mb_ (HK.o _) ?_;rintro w1 rfl;exact Γ
 |true=>
  have HK:=h_ (fun W=>Ko_ I W);have V:1<=x.kind/\x.kind<=22:=od_ I;have Y:=h_ (fun W=>k1_ x.kind W V);have aM:=h_ V;replace w:Ψ (F=(inB (η x.kids:Int) (Ki_ x.kind) (Kb_ x.kind)&&(Zi_ x.kind x.text&&(!(x.blank&&!Gf_ x.kind)&&(JP_ f x.kids&&Kd_ (Xf_ e x) x.kids))))):=(show _=_ by rw[w.o,I,τb]);clear I V;have ac:=h_ (fun(v:Bool) (h:inB (η x.kids:Int) (Ki_ x.kind) (Kb_ x.kind)=v) W=>Ko_ h W)
  cases o:inB (η x.kids:Int) (Ki_ x.kind) (Kb_ x.kind)with
  |false=>
   have l:F=φ:=(by rw[w.o,o];rfl);subst l;have E:=h_<|ac.o _ o;clear w o ac;generalize Ki_ x.kind=lo at *;generalize Kb_ x.kind=hh at *;go_in;go_wp2_with fail
   refine mb_ (HN.o _) ?_;rintro w1 rfl;go_wp2_with fail;refine mb_ (HK.o _) ?_;rintro w1 rfl;go_wp2_with fail;refine mb_ (Y.o _) ?_;rintro w1 rfl;go_wp2_with fail;refine mb_ (E.o _) ?_;rintro w1 rfl;exact Γ
  |true=>
   have E:=h_<|ac.o _ o;replace w:Ψ (F=(Zi_ x.kind x.text&&(!(x.blank&&!Gf_ x.kind)&&(JP_ f x.kids&&Kd_ (Xf_ e x) x.kids)))):=(show _=_ by rw[w.o,o,τb]);clear o ac;have HT:=h_ (fun(v:Bool) (h:Zi_ x.kind x.text=v) W=>show Δ π 130 #[I_ j_ x.kind,T_ x.text] W fun ps w'=>ps=R_ (B_ v)/\Λ W w' by rw[<-h];exact jB_ x.kind x.text W oo);generalize Ki_ x.kind=lo at *;generalize Kb_ x.kind=hh at *
   cases ht:Zi_ x.kind x.text with
   |false=>
    have l:F=φ:=(by rw[w.o,ht];rfl);subst l;have ae:=h_<|HT.o _ ht;clear w ht HT;go_in;go_wp2_with fail
    refine mb_ (HN.o _) ?_;rintro w1 rfl;go_wp2_with fail;refine mb_ (HK.o _) ?_;rintro w1 rfl;go_wp2_with fail;refine mb_ (Y.o _) ?_;rintro w1 rfl;go_wp2_with fail;refine mb_ (E.o _) ?_;rintro w1 rfl;go_wp2_with fail;refine mb_ (ae.o _) ?_;intro w2 h2;go_wp2;go_ret;exact⟨rfl,Ql_ h2⟩
   |true=>
    have ae:=h_<|HT.o _ ht;replace w:Ψ (F=(!(x.blank&&!Gf_ x.kind)&&(JP_ f x.kids&&Kd_ (Xf_ e x) x.kids))):=(show _=_ by rw[w.o,ht,τb]);clear ht HT;go_in;go_wp2_with fail
    refine mb_ (HN.o _) ?_;rintro w1 rfl;go_wp2_with fail;refine mb_ (HK.o _) ?_;rintro w1 rfl;go_wp2_with fail;refine mb_ (Y.o _) ?_;rintro w1 rfl;go_wp2_with fail;refine mb_ (E.o _) ?_;rintro w1 rfl;go_wp2_with fail;refine mb_ (ae.o _) ?_;intro w2 h2;have K:=Blk.fresh h2;have a:=Ql_ h2;clear h2 x0 x1 x2 x3 aA HN HK Y E ae;have k0:=K.q0;have k2:=K.q2;have k3:=K.q3;have kz:=K.lt;go_upto_region 7 with fail
    go_cut [69] (fun s wx=>s=B_ (x.blank&&!Gf_ x.kind)/\Blk wx g.heap.size 96 #[I_ j_ x.kind,T_ x.text,S_ A2 (η x.kids) c2,B_ x.blank]/\Λ g wx)
    ·
     have HS:=h_ (fun(u:Bool) (h:ZR_ x.kind=u) (W:Ω)=>show Δ π 131 #[I_ j_ x.kind] W fun ps w'=>ps=R_ (B_ u)/\W=w' by rw[<-h];exact Uc_ _ W);have L:=h_<|Qhm_ x.kind;clear w
     cases P:x.blank with
     |false=>
      rw[P]at k3;clear HS L;go_wp2;go_meet;exact⟨by rw[P,φa],K,a⟩
     |true=>
      rw[P]at k3
      cases hs:ZR_ x.kind with
      |true=>
       have ad:=h_<|HS.o _ hs;have hm:=h_ (show Gf_ x.kind=τ by rw[L.o,hs];rfl);clear HS hs L;go_wp2_with fail
       refine mb_ (ad.o _) ?_;rintro w1 rfl;go_wp2;go_meet;exact⟨by rw[P,hm.o];rfl,K,a⟩
      |false=>
       have ad:=h_<|HS.o _ hs
       cases O:(x.kind==20)with
       |true=>
        have hm:=h_ (show Gf_ x.kind=τ by rw[L.o,O];simp);have ay:(x.kind != 20)=φ:=(by unfold bne;rw[O];rfl);clear HS hs L O;go_wp2_with fail;refine mb_ (ad.o _) ?_;rintro w1 rfl;go_wp2;go_meet;exact⟨by rw[P,hm.o];rfl,K,a⟩
       |false=>
        have hm:=h_ (show(!Gf_ x.kind)=(x.kind != 21)by rw[L.o,hs,O];rfl);have ay:(x.kind != 20)=τ:=(by unfold bne;rw[O];rfl);clear HS hs L O;go_wp2_with fail;refine mb_ (ad.o _) ?_;rintro w1 rfl;go_wp2;go_meet;exact⟨by rw[P,hm.o];rfl,K,a⟩
    clear K a k0 k2 k3 kz;obtain⟨rfl,K,a⟩:=hcut;generalize a0:(x.blank&&!Gf_ x.kind)=bm at w |-
    clear a0
    cases bm with
    |true=>
     have l:F=φ:=w.o;subst l;go_wp2;go_ret;exact⟨rfl,a⟩
    |false=>
     replace w:Ψ (F=(JP_ f x.kids&&Kd_ (Xf_ e x) x.kids)):=(show _=_ by rw[w.o];rfl);have H:=h_ (fun h3:JP_ f x.kids=φ=>show F=φ by rw[w.o,h3];rfl);have N:=h_ (fun h3:JP_ f x.kids=τ=>show F=Kd_ (Xf_ e x) x.kids by rw[w.o,h3];rfl);clear w;go_wp2;go_loopw [8] (fun i wr=>∃t:Nat,t<=η x.kids/\i=I_ j_ t/\Ψ (AllI (Un_ f x.kids) x.kids t)/\Blk wr g.heap.size 96 #[I_ j_ x.kind,T_ x.text,S_ A2 (η x.kids) c2,B_ x.blank]/\Λ g wr) (fun i _=>η x.kids-(intOf i).toNat)
     ·exact⟨0,lz_ _,rfl,Jz_ _ _,K,a⟩
     clear K a;obtain⟨t,a2,rfl,D,K,a⟩:=hrel;have kz:=K.lt;have k2:=K.q2;by_cases J:t<η x.kids
     ·obtain⟨v,hd⟩:∃A,x.kids[t]? =σ A:=⟨_,List.getElem?_eq_getElem J⟩;obtain⟨b5,ai,rfl,T,cv⟩:=Qu_ (af.o.below a) J hd;have HI:=h_ (fun(u:Bool) (h:inB v 0 ((f:Int)-1)=u) W=>Ko_ h W)
      cases p:inB v 0 ((f:Int)-1)with
      |false=>
       have l:F=φ:=H.o<|ZF_ hd<|vX_ p;subst l;have C:=h_<|HI.o _ p;clear hd N H p D HI;go_wp2_with fail
       refine mb_ (C.o _) ?_;rintro w1 rfl;go_wp2;go_ret;exact⟨rfl,a⟩
      |true=>
       have C:=h_<|HI.o _ p;have R:=h_ hd;have av:=h_ p;clear hd HI p;go_wp2_with fail
       refine mb_ (C.o _) ?_;rintro w1 rfl;go_wp2;clear C;go_loopw [9] (fun i w2=>∃s:Nat,s<=t/\i=I_ j_ s/\Ψ ((x.kids.take s).contains v=φ)/\Blk w2 g.heap.size 96 #[I_ j_ x.kind,T_ x.text,S_ (σ ⟨b5,ai,ν⟩) (η x.kids) c2,B_ x.blank]/\Λ g w2) (fun i _=>t-(intOf i).toNat)
       ·exact⟨0,lz_ _,rfl,(show _=_ by simp),K,a⟩
       clear K a kz k2 cv T;obtain⟨s,bd,rfl,Y,K,a⟩:=hrel;have kz:=K.lt;have k2:=K.q2;by_cases aB:s<t
       ·obtain⟨u,hu⟩:∃A,x.kids[s]? =σ A:=⟨_,gE oo⟩;obtain⟨b6,ba,e6,aY,cu⟩:=Qu_ (af.o.below a) oo hu;injection e6 with e6;injection e6 with e61 e62;subst e61;subst e62;obtain⟨b7,bb,e7,aZ,cv⟩:=Qu_ (af.o.below a) J R.o;injection e7 with e7;injection e7 with e71 e72;subst e71;subst e72;have gs:(s:Int)<η x.kids:=oo;have gt:(t:Int)<η x.kids:=oo
        cases U:(v==u)with
        |true=>
         have l:F=φ:=H.o (ZF_ R.o (kS_ (by
          rw[List.contains_iff_exists_mem_beq];exact⟨u,lm_ (i:=s) (by rw[List.getElem?_take,ip_ aB];exact hu),U⟩)))
         subst l;rw[beq_iff_eq]at U;subst U;clear N H D Y hu;go_wp2;go_quiet (fail);exact Γ
        |false=>
         have aK:Ψ ((x.kids.take (s+1)).contains v=φ):=(show _=_ by
          rw[List.take_add_one,hu];have:=Y.o;simp only[List.contains_eq_mem]at this |-
          simp at this U |-
          exact⟨this,U⟩)
         clear N H D Y hu;go_wp2;go_quiet (fail);go_wp2;exact⟨⟨s+1,oo,by go_num,aK,K,grow_⟩,ms_⟩
       obtain rfl:s=t:=oo;have S:=h_<|XE_ D.o R.o<|kT_ av.o Y.o;clear N H D Y;go_wp2;exact⟨⟨s+1,oo,by go_num,S,K,a⟩,ms_⟩
     obtain rfl:t=η x.kids:=oo;have al:=Ux_ D.o (lr_ _);have m:=h_ (N.o al);have aL:Ψ (∀v∈x.kids,0<=v/\v<(n:Int)):=(show ∀v∈x.kids,_ from fun v hv=>by
      obtain⟨j,hj⟩:=List.mem_iff_getElem?.1 hv;have h1:=Z4_ al hj;unfold Un_ at h1;rw[τa]at h1;have h2:=od_ h1.1;exact⟨h2.1,oo⟩)
     clear N H D al;go_wp2;go_loopw [10] (fun i wr=>∃t:Nat,t<=η x.kids/\i=I_ j_ t/\Ψ (AllI (Xf_ e x) x.kids t)/\Blk wr g.heap.size 96 #[I_ j_ x.kind,T_ x.text,S_ A2 (η x.kids) c2,B_ x.blank]/\Λ g wr) (fun i _=>η x.kids-(intOf i).toNat)
     ·exact⟨0,lz_ _,rfl,Jz_ _ _,K,a⟩
     clear K a kz k2;obtain⟨t,a2,rfl,D,K,a⟩:=hrel;have kz:=K.lt;have k2:=K.q2;by_cases J:t<η x.kids
     ·obtain⟨v,hd⟩:∃A,x.kids[t]? =σ A:=⟨_,List.getElem?_eq_getElem J⟩;have hv:=aL.o v (lm_ hd);obtain⟨q,rfl⟩:=eo_ hv.1;have am:q<n:=oo;have g0:(0:Int)<=(q:Int):=oo;have g1:(q:Int)<n:=oo;have gt:(t:Int)<η x.kids:=oo;obtain⟨b5,ai,rfl,T,cv⟩:=Qu_ (af.o.below a) J hd;obtain⟨y,hy⟩:=HP.o.get am;obtain⟨b3,a8,A3,c3,e3,aV,y0,y1,y2,y3,M⟩:=(HP.o.below a).at_ am hy;injection e3 with e3;injection e3 with e31 e32;subst e31;subst e32;have bg:=(hb.o y (lm_ hy)).2;have HY:=h_ hy;have R:=h_ hd;have Z:=h_ (fun(k:y.kind=5->∃(r:Nat) (js:LI),y.kids=(r:Int)::js/\r<n) (u:Bool) (h:Vf_ e x.kind (η x.kids) t (q:Int)=u) (W:Ω) (hW:Λ g W)=>show Δ π 132 #[S_ (σ ⟨b,off,ν⟩) n c,I_ j_ f,I_ j_ t] W fun ps w'=>ps=R_ (B_ u)/\Λ W w' by rw[<-h];exact jA_ _ n c e f t x y q W hn (HP.o.below hW) hb hk HX J R am HY k aM.o);have z:Λ g (wr.alloc (C_ #[I_ j_ y.kind,T_ y.text,S_ A3 (η y.kids) c3,B_ y.blank] 96)):=grow_;clear hv hy hd;by_cases h5:y.kind=5
      ·cases B:y.kids with
       |nil=>
        have l:F=φ:=(by rw[m.o];exact ZF_ R.o (by unfold Xf_;rw[ja_ HY.o h5 B];rfl));subst l;rw[B]at y2;rw[h5]at y0;clear m D Z M B z;exact Γ
       |cons j js=>
        have a4:0<η y.kids:=(by rw[B];simp);have ah:y.kids[0]? =σ j:=(by rw[B];rfl);obtain⟨b4,a9,rfl,aX,cj⟩:=Qu_ M a4 ah;simp only[Nat.add_zero]at cj;have i1:((η y.kids:Int)==0)=φ:=(by rw[bn_];omega);have i2:(0:Int)<η y.kids:=oo;have HI:=h_ (fun(u:Bool) (h:inB j 0 ((n:Int)-1)=u) W=>Ko_ h W);have o:=jb_ HY.o h5 B;rw[HL.o]at o;have az:=h5;rw[h5]at y0
        cases p:inB j 0 ((n:Int)-1)with
        |false=>
         have l:F=φ:=(by rw[m.o];exact ZF_ R.o (by unfold Xf_;rw[o,p];rfl));subst l;have C:=h_<|HI.o _ p;clear m D Z M B z HI p o ah;go_wp2_with fail
         refine mb_ (C.o _) ?_;rintro w1 rfl;exact Γ
        |true=>
         have ak:=od_ p;have C:=h_ (HI.o _ p);have k:y.kind=5->∃(r:Nat) (js:LI),y.kids=(r:Int)::js/\r<n:=fun _=>by
          obtain⟨r,hr⟩:=eo_ ak.1;exact⟨r,js,by rw[B,hr],oo⟩
         cases Q:Vf_ e x.kind (η x.kids) t (q:Int)with
         |false=>
          have l:F=φ:=(by rw[m.o];exact ZF_ R.o (by unfold Xf_;rw[Q,φb]));subst l;have G:=h_<|Z.o k _ Q;clear m D Z M B HI p o ah ak k Q;go_wp2_with fail
          refine mb_ (C.o _) ?_;rintro w1 rfl;rw[az]at z;go_wp2_with fail;refine mb_ (G.o _ z) ?_;intro w6 h6;go_wp2;go_ret;exact⟨rfl,Qb_ z h6⟩
         |true=>
          have S:=h_<|XE_ D.o R.o (by unfold Xf_;rw[o,p,Q];rfl);have G:=h_<|Z.o k _ Q;clear m D Z M B HI p o ah ak k Q;go_wp2_with fail
          refine mb_ (C.o _) ?_;rintro w1 rfl;rw[az]at z;go_wp2_with fail;refine mb_ (G.o _ z) ?_;intro w6 h6;have K6:=(K.alloc _).next h6;go_wp2;exact⟨⟨t+1,oo,by go_num,S,K6,Qb_ z h6⟩,ms_⟩
      have e5:(y.kind==5)=φ:=(by rw[bn_];exact h5);have o:=kj_ HY.o h5;have k:y.kind=5->∃(r:Nat) (js:LI),y.kids=(r:Int)::js/\r<n:=fun h=>absurd h h5
      cases Q:Vf_ e x.kind (η x.kids) t (q:Int)with
      |false=>
       have l:F=φ:=(by rw[m.o];exact ZF_ R.o (by unfold Xf_;rw[Q,φb]));subst l;have G:=h_<|Z.o k _ Q;clear m D Z M o k Q h5;go_wp2_with fail
       refine mb_ (G.o _ z) ?_;intro w6 h6;go_wp2;go_ret;exact⟨rfl,Qb_ z h6⟩
      |true=>
       have S:=h_<|XE_ D.o R.o (by unfold Xf_;rw[o,Q];rfl);have G:=h_<|Z.o k _ Q;clear m D Z M o k Q h5;go_wp2_with fail
       refine mb_ (G.o _ z) ?_;intro w6 h6;have K6:=(K.alloc _).next h6;go_wp2;exact⟨⟨t+1,oo,by go_num,S,K6,Qb_ z h6⟩,ms_⟩
     obtain rfl:t=η x.kids:=oo;have l:F=τ:=(by rw[m.o];exact Ux_ D.o (lr_ _));subst l;clear m D;go_wp2;go_ret;exact⟨rfl,a⟩
def Qcn_ (p q:Nat->Int->Bool) (l:LI):(Kd_ p l&&Kd_ q l)=Kd_ (fun i v=>p i v&&q i v) l:=by
 cases h:Kd_ (fun i v=>p i v&&q i v) l with
 |true=>
  have h1:Kd_ p l=τ:=XD_ (fun j x a=>by have:=Z4_ h a;simp only[τa]at this;exact this.1);have b:Kd_ q l=τ:=XD_ (fun j x a=>by have:=Z4_ h a;simp only[τa]at this;exact this.2);rw[h1,b];rfl
 |false=>
  cases h1:Kd_ p l with
  |false=>rfl
  |true=>
   cases b:Kd_ q l with
   |false=>rfl
   |true=>
    rw[XD_ (fun j x a=>by simp only[τa];exact⟨Z4_ h1 a,Z4_ b a⟩)]at h
    cases h
def qd_ {a b:Bool} (h:a=τ↔b=τ):a=b:=by
 cases a<;>cases b<;>simp at h |-
def UN_ {l:Nat->Int->Bool} :Kd_ l p=τ↔∀j x,p[j]? =σ x->l j x=τ:=⟨fun h j x hx=>Z4_ h hx,XD_⟩
section
variable {ps:List PN} {kids:LI}
def Kn_ (ps:List PN) (kids:LI):(Qe_ ps kids).length=η kids:=by unfold Qe_;rw[List.length_map]
def KT_ (p:Int->Bool):(Qe_ ps kids).all p=Kd_ (fun i v=>p (Qc_ ps v)) kids:=by
 apply qd_;rw[UN_,List.all_eq_true];unfold Qe_;constructor
 ·intro h j x a;exact h _<|List.mem_map.2 ⟨x,lm_ a,rfl⟩
 intro h y hy;obtain⟨x,a,rfl⟩:=List.mem_map.1 hy;obtain⟨j,hj⟩:=List.mem_iff_getElem?.1 a;exact h j x hj
def Vk_ (ps:List PN) (kids:LI) (j:Nat):(Qe_ ps kids)[j]? =(kids[j]?).map (Qc_ ps):=by unfold Qe_;rw[List.getElem?_map]
def Qcp_ {l:Int->Bool}:p.all l=τ↔∀(j:Nat) x,p[j]? =σ x->l x=τ:=by
 rw[List.all_eq_true];constructor
 ·intro h j x a;exact h x<|lm_ a
 intro h x a;obtain⟨j,hj⟩:=List.mem_iff_getElem?.1 a;exact h j x hj
def Gu_ (p q:Int->Bool) (h:1<=η kids):(Jg_ p (Qe_ ps kids)&&((Qe_ ps kids).drop 1).all q)=Kd_ (fun i v=>if 0<i then q (Qc_ ps v)else p (Qc_ ps v)) kids:=by
 match kids,h with
 |x::r,_=>
  have e0:Jg_ p (Qe_ ps (x::r))=p (Qc_ ps x):=rfl;rw[e0];apply qd_;rw[UN_,τa,Qcp_];constructor
  ·rintro⟨h1,h2⟩ j v a
   cases j with
   |zero=>simp at a;subst a;simpa using h1
   |succ j=>
    simp only[Nat.zero_lt_succ,if_true];refine h2 j _ ?_;rw[List.getElem?_drop,Vk_,Nat.add_comm 1 j,a];rfl
  intro h;refine⟨by simpa using h 0 x rfl,fun j v a=>?_⟩;rw[List.getElem?_drop,Vk_,Nat.add_comm 1 j]at a;obtain⟨u,hu,rfl⟩:=Option.map_eq_some_iff.1 a;have:=h (j+1) u hu;simpa using this
def zC_ (p:Int->Bool) (h:1<=η kids):YF_ p (Qe_ ps kids)=Kd_ (fun i v=>if i+1<η kids then isK 1 (Qc_ ps v)else p (Qc_ ps v)) kids:=by
 obtain⟨m,hm⟩:∃m,η kids=m+1:=⟨η kids-1,oo⟩;obtain⟨x,b⟩:∃x,kids[m]? =σ x:=⟨_,gE oo⟩;rw[Yo_ (m:=m) (x:=Qc_ ps x) (by rw[Kn_];exact hm) (by rw[Vk_,b];rfl)];apply qd_;rw[UN_,τa,Qcp_];constructor
 ·rintro⟨h1,h2⟩ j v a;have c:=(gs_.1 a).1;by_cases hj:j+1<η kids
  ·rw[ip_ hj];refine h2 j _ ?_;rw[List.getElem?_take,ip_ oo,Vk_,a];rfl
  rw[in_ hj];obtain rfl:j=m:=oo;rw[b]at a;obtain rfl:=oi_ a;exact h1
 intro h;refine⟨?_,fun j v a=>?_⟩
 ·have:=h m x b;rwa[in_ oo]at this
 rw[List.getElem?_take]at a;split at a
 ·rename_i d;rw[Vk_]at a;obtain⟨u,hu,rfl⟩:=Option.map_eq_some_iff.1 a;have:=h j u hu;rwa[ip_ oo]at this
 cases a
end
def kfF (kind:Int) (n i:Nat) (y:Int):Bool:=
 if kind=9 then (if i+1<n then isK 1 y else Qk_ y)
 else if kind=20 then (if i+1<n then isK 1 y else isK 18 y)
 else if kind=10 then (if 0<i then isK 5 y else Qk_ y)
 else if kind=16\/kind=17 then (if 0<i then isK 18 y else Qk_ y)
 else if kind=18 then ZR_ y
 else if kind=21 then Ka_ y
 else if kind=22 then xR_ y
 else Qk_ y
section
variable {ps:List PN} {kids:LI}
def Qie_ (hn:η kids<=12):kfB 1 (Qe_ ps kids)=(inB (η kids:Int) (Ki_ 1) (Kb_ 1)&&Kd_ (fun i v=>kfF 1 (η kids) i (Qc_ ps v)) kids):=by
 have e2:inB (η kids:Int) (Ki_ 1) (Kb_ 1)=decide (η kids=0):=by
  show decide ((0:Int)<=η kids/\(η kids:Int)<=0)=decide (η kids=0);exact decide_eq_decide.2 oo
 rw[e2,show kfB 1 (Qe_ ps kids)=decide ((Qe_ ps kids).length=0)from rfl,Kn_];by_cases h:η kids=0
 ·have:kids=[]:=ln_ h;subst this;rfl
 rw[df_ h,φa]
def Qif_ (hn:η kids<=12):kfB 2 (Qe_ ps kids)=(inB (η kids:Int) (Ki_ 2) (Kb_ 2)&&Kd_ (fun i v=>kfF 2 (η kids) i (Qc_ ps v)) kids):=by
 have e2:inB (η kids:Int) (Ki_ 2) (Kb_ 2)=decide (η kids=0):=by
  show decide ((0:Int)<=η kids/\(η kids:Int)<=0)=decide (η kids=0);exact decide_eq_decide.2 oo
 rw[e2,show kfB 2 (Qe_ ps kids)=decide ((Qe_ ps kids).length=0)from rfl,Kn_];by_cases h:η kids=0
 ·have:kids=[]:=ln_ h;subst this;rfl
 rw[df_ h,φa]
def Qig_ (hn:η kids<=12):kfB 3 (Qe_ ps kids)=(inB (η kids:Int) (Ki_ 3) (Kb_ 3)&&Kd_ (fun i v=>kfF 3 (η kids) i (Qc_ ps v)) kids):=by
 have e2:inB (η kids:Int) (Ki_ 3) (Kb_ 3)=decide (η kids=0):=by
  show decide ((0:Int)<=η kids/\(η kids:Int)<=0)=decide (η kids=0);exact decide_eq_decide.2 oo
 rw[e2,show kfB 3 (Qe_ ps kids)=decide ((Qe_ ps kids).length=0)from rfl,Kn_];by_cases h:η kids=0
 ·have:kids=[]:=ln_ h;subst this;rfl
 rw[df_ h,φa]
def Qih_ (hn:η kids<=12):kfB 4 (Qe_ ps kids)=(inB (η kids:Int) (Ki_ 4) (Kb_ 4)&&Kd_ (fun i v=>kfF 4 (η kids) i (Qc_ ps v)) kids):=by
 have e2:inB (η kids:Int) (Ki_ 4) (Kb_ 4)=decide (True):=by
  show decide ((0:Int)<=η kids/\(η kids:Int)<=12)=decide (True);exact decide_eq_decide.2 ⟨fun _=>trivial,fun _=>oo⟩
 rw[e2,show kfB 4 (Qe_ ps kids)=(Qe_ ps kids).all Qk_ from rfl,KT_,decide_true,τb]
 rfl
def Qii_ (hn:η kids<=12):kfB 5 (Qe_ ps kids)=(inB (η kids:Int) (Ki_ 5) (Kb_ 5)&&Kd_ (fun i v=>kfF 5 (η kids) i (Qc_ ps v)) kids):=by
 have e2:inB (η kids:Int) (Ki_ 5) (Kb_ 5)=decide (1<=η kids):=by
  show decide ((1:Int)<=η kids/\(η kids:Int)<=12)=decide (1<=η kids);exact decide_eq_decide.2 oo
 rw[e2,show kfB 5 (Qe_ ps kids)=(decide (1<=(Qe_ ps kids).length)&&(Qe_ ps kids).all Qk_)from rfl,Kn_,KT_]
 rfl
def Qij_ (hn:η kids<=12):kfB 6 (Qe_ ps kids)=(inB (η kids:Int) (Ki_ 6) (Kb_ 6)&&Kd_ (fun i v=>kfF 6 (η kids) i (Qc_ ps v)) kids):=by
 have e2:inB (η kids:Int) (Ki_ 6) (Kb_ 6)=decide (η kids=1):=by
  show decide ((1:Int)<=η kids/\(η kids:Int)<=1)=decide (η kids=1);exact decide_eq_decide.2 oo
 rw[e2,show kfB 6 (Qe_ ps kids)=(decide ((Qe_ ps kids).length=1)&&(Qe_ ps kids).all Qk_)from rfl,Kn_,KT_]
 rfl
def Qik_ (hn:η kids<=12):kfB 7 (Qe_ ps kids)=(inB (η kids:Int) (Ki_ 7) (Kb_ 7)&&Kd_ (fun i v=>kfF 7 (η kids) i (Qc_ ps v)) kids):=by
 have e2:inB (η kids:Int) (Ki_ 7) (Kb_ 7)=decide (2<=η kids):=by
  show decide ((2:Int)<=η kids/\(η kids:Int)<=12)=decide (2<=η kids);exact decide_eq_decide.2 oo
 rw[e2,show kfB 7 (Qe_ ps kids)=(decide (2<=(Qe_ ps kids).length)&&(Qe_ ps kids).all Qk_)from rfl,Kn_,KT_]
 rfl
def Qil_ (hn:η kids<=12):kfB 8 (Qe_ ps kids)=(inB (η kids:Int) (Ki_ 8) (Kb_ 8)&&Kd_ (fun i v=>kfF 8 (η kids) i (Qc_ ps v)) kids):=by
 have e2:inB (η kids:Int) (Ki_ 8) (Kb_ 8)=decide (η kids=3):=by
  show decide ((3:Int)<=η kids/\(η kids:Int)<=3)=decide (η kids=3);exact decide_eq_decide.2 oo
 rw[e2,show kfB 8 (Qe_ ps kids)=(decide ((Qe_ ps kids).length=3)&&(Qe_ ps kids).all Qk_)from rfl,Kn_,KT_]
 rfl
def Qim_ (hn:η kids<=12):kfB 9 (Qe_ ps kids)=(inB (η kids:Int) (Ki_ 9) (Kb_ 9)&&Kd_ (fun i v=>kfF 9 (η kids) i (Qc_ ps v)) kids):=by
 have e2:inB (η kids:Int) (Ki_ 9) (Kb_ 9)=decide (1<=η kids):=by
  show decide ((1:Int)<=η kids/\(η kids:Int)<=12)=decide (1<=η kids);exact decide_eq_decide.2 oo
 rw[e2,show kfB 9 (Qe_ ps kids)=YF_ Qk_ (Qe_ ps kids)from rfl];by_cases h:1<=η kids
 ·rw[zC_ _ h,dt_ h,τb]
  rfl
 have:kids=[]:=ln_ oo;subst this;rfl
def QgX_ (hn:η kids<=12):kfB 10 (Qe_ ps kids)=(inB (η kids:Int) (Ki_ 10) (Kb_ 10)&&Kd_ (fun i v=>kfF 10 (η kids) i (Qc_ ps v)) kids):=by
 have e2:inB (η kids:Int) (Ki_ 10) (Kb_ 10)=decide (2<=η kids):=by
  show decide ((2:Int)<=η kids/\(η kids:Int)<=12)=decide (2<=η kids);exact decide_eq_decide.2 oo
 rw[e2,show kfB 10 (Qe_ ps kids)=(decide (2<=(Qe_ ps kids).length)&&Jg_ Qk_ (Qe_ ps kids)&&((Qe_ ps kids).drop 1).all (isK 5))from rfl,Kn_,Bool.and_assoc];by_cases h:1<=η kids
 ·rw[Gu_ _ _ h]
  rfl
 rw[df_ oo,φa,φa]
def QgY_ (hn:η kids<=12):kfB 11 (Qe_ ps kids)=(inB (η kids:Int) (Ki_ 11) (Kb_ 11)&&Kd_ (fun i v=>kfF 11 (η kids) i (Qc_ ps v)) kids):=by
 have e2:inB (η kids:Int) (Ki_ 11) (Kb_ 11)=decide (η kids=1):=by
  show decide ((1:Int)<=η kids/\(η kids:Int)<=1)=decide (η kids=1);exact decide_eq_decide.2 oo
 rw[e2,show kfB 11 (Qe_ ps kids)=(decide ((Qe_ ps kids).length=1)&&(Qe_ ps kids).all Qk_)from rfl,Kn_,KT_]
 rfl
def QgZ_ (hn:η kids<=12):kfB 12 (Qe_ ps kids)=(inB (η kids:Int) (Ki_ 12) (Kb_ 12)&&Kd_ (fun i v=>kfF 12 (η kids) i (Qc_ ps v)) kids):=by
 have e2:inB (η kids:Int) (Ki_ 12) (Kb_ 12)=decide (η kids<=1):=by
  show decide ((0:Int)<=η kids/\(η kids:Int)<=1)=decide (η kids<=1);exact decide_eq_decide.2 oo
 rw[e2,show kfB 12 (Qe_ ps kids)=(decide ((Qe_ ps kids).length<=1)&&(Qe_ ps kids).all Qk_)from rfl,Kn_,KT_]
 rfl
def Qg0_ (hn:η kids<=12):kfB 13 (Qe_ ps kids)=(inB (η kids:Int) (Ki_ 13) (Kb_ 13)&&Kd_ (fun i v=>kfF 13 (η kids) i (Qc_ ps v)) kids):=by
 have e2:inB (η kids:Int) (Ki_ 13) (Kb_ 13)=decide (η kids=1):=by
  show decide ((1:Int)<=η kids/\(η kids:Int)<=1)=decide (η kids=1);exact decide_eq_decide.2 oo
 rw[e2,show kfB 13 (Qe_ ps kids)=(decide ((Qe_ ps kids).length=1)&&(Qe_ ps kids).all Qk_)from rfl,Kn_,KT_]
 rfl
def Qg1_ (hn:η kids<=12):kfB 14 (Qe_ ps kids)=(inB (η kids:Int) (Ki_ 14) (Kb_ 14)&&Kd_ (fun i v=>kfF 14 (η kids) i (Qc_ ps v)) kids):=by
 have e2:inB (η kids:Int) (Ki_ 14) (Kb_ 14)=decide (η kids=1):=by
  show decide ((1:Int)<=η kids/\(η kids:Int)<=1)=decide (η kids=1);exact decide_eq_decide.2 oo
 rw[e2,show kfB 14 (Qe_ ps kids)=(decide ((Qe_ ps kids).length=1)&&(Qe_ ps kids).all Qk_)from rfl,Kn_,KT_]
 rfl
def Qg2_ (hn:η kids<=12):kfB 15 (Qe_ ps kids)=(inB (η kids:Int) (Ki_ 15) (Kb_ 15)&&Kd_ (fun i v=>kfF 15 (η kids) i (Qc_ ps v)) kids):=by
 have e2:inB (η kids:Int) (Ki_ 15) (Kb_ 15)=decide (η kids<=1):=by
  show decide ((0:Int)<=η kids/\(η kids:Int)<=1)=decide (η kids<=1);exact decide_eq_decide.2 oo
 rw[e2,show kfB 15 (Qe_ ps kids)=(decide ((Qe_ ps kids).length<=1)&&(Qe_ ps kids).all Qk_)from rfl,Kn_,KT_]
 rfl
def Qg3_ (hn:η kids<=12):kfB 16 (Qe_ ps kids)=(inB (η kids:Int) (Ki_ 16) (Kb_ 16)&&Kd_ (fun i v=>kfF 16 (η kids) i (Qc_ ps v)) kids):=by
 have e2:inB (η kids:Int) (Ki_ 16) (Kb_ 16)=decide (2<=η kids/\η kids<=3):=by
  show decide ((2:Int)<=η kids/\(η kids:Int)<=3)=decide (2<=η kids/\η kids<=3);exact decide_eq_decide.2 oo
 rw[e2,show kfB 16 (Qe_ ps kids)=(decide (2<=(Qe_ ps kids).length/\(Qe_ ps kids).length<=3)&&Jg_ Qk_ (Qe_ ps kids)&&((Qe_ ps kids).drop 1).all (isK 18))from rfl,Kn_,Bool.and_assoc];by_cases h:1<=η kids
 ·rw[Gu_ _ _ h]
  rfl
 rw[df_ oo,φa,φa]
def Qg4_ (hn:η kids<=12):kfB 17 (Qe_ ps kids)=(inB (η kids:Int) (Ki_ 17) (Kb_ 17)&&Kd_ (fun i v=>kfF 17 (η kids) i (Qc_ ps v)) kids):=by
 have e2:inB (η kids:Int) (Ki_ 17) (Kb_ 17)=decide (η kids=2):=by
  show decide ((2:Int)<=η kids/\(η kids:Int)<=2)=decide (η kids=2);exact decide_eq_decide.2 oo
 rw[e2,show kfB 17 (Qe_ ps kids)=(decide ((Qe_ ps kids).length=2)&&Jg_ Qk_ (Qe_ ps kids)&&((Qe_ ps kids).drop 1).all (isK 18))from rfl,Kn_,Bool.and_assoc];by_cases h:1<=η kids
 ·rw[Gu_ _ _ h]
  rfl
 rw[df_ oo,φa,φa]
def Qg5_ (hn:η kids<=12):kfB 18 (Qe_ ps kids)=(inB (η kids:Int) (Ki_ 18) (Kb_ 18)&&Kd_ (fun i v=>kfF 18 (η kids) i (Qc_ ps v)) kids):=by
 have e2:inB (η kids:Int) (Ki_ 18) (Kb_ 18)=decide (True):=by
  show decide ((0:Int)<=η kids/\(η kids:Int)<=12)=decide (True);exact decide_eq_decide.2 ⟨fun _=>trivial,fun _=>oo⟩
 rw[e2,show kfB 18 (Qe_ ps kids)=(Qe_ ps kids).all ZR_ from rfl,KT_,decide_true,τb]
 rfl
def Qg6_ (hn:η kids<=12):kfB 19 (Qe_ ps kids)=(inB (η kids:Int) (Ki_ 19) (Kb_ 19)&&Kd_ (fun i v=>kfF 19 (η kids) i (Qc_ ps v)) kids):=by
 have e2:inB (η kids:Int) (Ki_ 19) (Kb_ 19)=decide (η kids=0):=by
  show decide ((0:Int)<=η kids/\(η kids:Int)<=0)=decide (η kids=0);exact decide_eq_decide.2 oo
 rw[e2,show kfB 19 (Qe_ ps kids)=decide ((Qe_ ps kids).length=0)from rfl,Kn_];by_cases h:η kids=0
 ·have:kids=[]:=ln_ h;subst this;rfl
 rw[df_ h,φa]
def Qg7_ (hn:η kids<=12):kfB 20 (Qe_ ps kids)=(inB (η kids:Int) (Ki_ 20) (Kb_ 20)&&Kd_ (fun i v=>kfF 20 (η kids) i (Qc_ ps v)) kids):=by
 have e2:inB (η kids:Int) (Ki_ 20) (Kb_ 20)=decide (1<=η kids):=by
  show decide ((1:Int)<=η kids/\(η kids:Int)<=12)=decide (1<=η kids);exact decide_eq_decide.2 oo
 rw[e2,show kfB 20 (Qe_ ps kids)=YF_ (isK 18) (Qe_ ps kids)from rfl];by_cases h:1<=η kids
 ·rw[zC_ _ h,dt_ h,τb]
  rfl
 have:kids=[]:=ln_ oo;subst this;rfl
def Qg8_ (hn:η kids<=12):kfB 21 (Qe_ ps kids)=(inB (η kids:Int) (Ki_ 21) (Kb_ 21)&&Kd_ (fun i v=>kfF 21 (η kids) i (Qc_ ps v)) kids):=by
 have e2:inB (η kids:Int) (Ki_ 21) (Kb_ 21)=decide (True):=by
  show decide ((0:Int)<=η kids/\(η kids:Int)<=12)=decide (True);exact decide_eq_decide.2 ⟨fun _=>trivial,fun _=>oo⟩
 rw[e2,show kfB 21 (Qe_ ps kids)=(Qe_ ps kids).all Ka_ from rfl,KT_,decide_true,τb]
 rfl
def Qg9_ (hn:η kids<=12):kfB 22 (Qe_ ps kids)=(inB (η kids:Int) (Ki_ 22) (Kb_ 22)&&Kd_ (fun i v=>kfF 22 (η kids) i (Qc_ ps v)) kids):=by
 have e2:inB (η kids:Int) (Ki_ 22) (Kb_ 22)=decide (True):=by
  show decide ((0:Int)<=η kids/\(η kids:Int)<=12)=decide (True);exact decide_eq_decide.2 ⟨fun _=>trivial,fun _=>oo⟩
 rw[e2,show kfB 22 (Qe_ ps kids)=(Qe_ ps kids).all xR_ from rfl,KT_,decide_true,τb]
 rfl
def Qhh_ (hk:1<=a/\a<=22) (kind:η kids<=12):kfB a (Qe_ ps kids)=(inB (η kids:Int) (Ki_ a) (Kb_ a)&&Kd_ (fun i v=>kfF a (η kids) i (Qc_ ps v)) kids):=by
 have h2:a=1\/a=2\/a=3\/a=4\/a=5\/a=6\/a=7\/a=8\/a=9\/a=10\/a=11\/a=12\/a=13\/a=14\/a=15\/a=16\/a=17\/a=18\/a=19\/a=20\/a=21\/a=22:=oo;rcases h2 with rfl|rfl|rfl|rfl|rfl|rfl|rfl|rfl|rfl|rfl|rfl|rfl|rfl|rfl|rfl|rfl|rfl|rfl|rfl|rfl|rfl|rfl
 ·exact Qie_ kind
 ·exact Qif_ kind
 ·exact Qig_ kind
 ·exact Qih_ kind
 ·exact Qii_ kind
 ·exact Qij_ kind
 ·exact Qik_ kind
 ·exact Qil_ kind
 ·exact Qim_ kind
 ·exact QgX_ kind
 ·exact QgY_ kind
 ·exact QgZ_ kind
 ·exact Qg0_ kind
 ·exact Qg1_ kind
 ·exact Qg2_ kind
 ·exact Qg3_ kind
 ·exact Qg4_ kind
 ·exact Qg5_ kind
 ·exact Qg6_ kind
 ·exact Qg7_ kind
 ·exact Qg8_ kind
 exact Qg9_ kind
def Qfy_ (hk:¬(1<=a/\a<=22)):kfB a l=φ:=by
 unfold kfB;rw[in_ oo,in_ oo,in_ oo,in_ oo,in_ oo,in_ oo,in_ oo,in_ oo,in_ oo,in_ oo,in_ oo,in_ oo,in_ oo,in_ oo,in_ oo]
def Qh8_:Kb_ k<=12:=by unfold Kb_;split<;>(try split)<;>(try split)<;>(try split)<;>omega
def QaK_ (h:a≠10) (i:Nat) (v:Int):Zt_ ps a i v=Yf_ ps v:=by
 unfold Zt_ Yf_;have hb:(a==10)=φ:=by rw[bn_];exact h
 rw[hb]
 cases ps[v.toNat]? with
 |none=>rfl
 |some y=>
  simp only[φa,Bool.not_false,τp,τc]<;>(split<;>(try cases y.kids)<;>rfl)
def QhA_ (hk:1<=a/\a<=22) (n i:Nat) (v:Int):(kfF a n i (Qc_ ps v)&&Zt_ ps a i v)=(Yf_ ps v&&Vf_ ps a n i v):=by
 by_cases kind:a=10
 ·subst kind;have e1:kfF 10 n i (Qc_ ps v)=if 0<i then isK 5 (Qc_ ps v)else Qk_ (Qc_ ps v):=rfl
  have e2:Vf_ ps 10 n i v=if 0<i then isK 5 (Qc_ ps v)&&(match ps[v.toNat]? with|some y=>(match y.kids with|j::_=>isK 1 (Qc_ ps j)|[]=>φ)|none=>φ)else Qk_ (Qc_ ps v):=rfl
  rw[e1,e2];by_cases hi:0<i
  ·rw[ip_ hi,ip_ hi];unfold Zt_ Yf_;rw[dt_ hi];unfold Qc_
   cases ps[v.toNat]? with
   |none=>simp
   |some y=>
    simp only;by_cases b:y.kind=5
    ·rw[ip_ b,ip_ b,b]
     cases y.kids with
     |nil=>simp
     |cons j js=>
      simp[isK]
    have:isK 5 y.kind=φ:=(by unfold isK;rw[bn_];exact b);rw[this,φa,φa,φb]
  rw[in_ hi,in_ hi];have:Zt_ ps 10 i v=Yf_ ps v:=by
   unfold Zt_ Yf_;rw[df_ hi]
   cases ps[v.toNat]? with
   |none=>rfl
   |some y=>
    simp only[φb,Bool.not_false,τp,τc]<;>(split<;>(try cases y.kids)<;>rfl)
  rw[this,Bool.and_comm]
 rw[QaK_ kind,Bool.and_comm];congr 1;unfold kfF Vf_;simp only[in_ kind];split
 ·rfl
 split
 ·rfl
 split
 ·rfl
 split
 ·rfl
 split
 ·rfl
 split
 ·unfold xR_ isK;rw[Bool.or_comm]
 rfl
def jH_:z0_ ps n=Za_ ps n:=by
 unfold z0_ Za_
 cases ps[n]? with
 |none=>rfl
 |some x=>
  simp only;have l:(decide (η x.kids<=12)&&(kfB x.kind (Qe_ ps x.kids)&&Yh_ ps x.kind x.kids))=(inB x.kind 1 22&&(inB (η x.kids:Int) (Ki_ x.kind) (Kb_ x.kind)&&Kd_ (Xf_ ps x) x.kids)):=by
   by_cases m:1<=x.kind/\x.kind<=22
   ·rw[show inB x.kind 1 22=τ from dt_ m,τb];by_cases k:η x.kids<=12
    ·rw[dt_ k,τb,Qhh_ m k,Bool.and_assoc];unfold Yh_;rw[Qcn_];congr 1;exact x4_ (fun j v _=>by unfold Xf_;exact QhA_ m _ j v)
    have o:=Qh8_ x.kind;rw[df_ k,φa,vO_ (show ¬(η x.kids:Int)<=Kb_ x.kind from oo),φa]
   rw[show inB x.kind 1 22=φ from df_ m,Qfy_ _ m,φa,φa,φb]
  have hm:(!(x.blank&&!Gf_ x.kind))=(Gf_ x.kind||!x.blank):=by cases x.blank<;>cases Gf_ x.kind<;>rfl
  rw[hm];revert l;generalize inB x.kind 1 22=a;generalize inB (η x.kids:Int) (Ki_ x.kind) (Kb_ x.kind)=b;generalize Zi_ x.kind x.text=c;generalize (Gf_ x.kind||!x.blank)=d;generalize JP_ n x.kids=e;generalize Kd_ (Xf_ ps x) x.kids=f;generalize decide (η x.kids<=12)=g;generalize kfB x.kind (Qe_ ps x.kids)=h;generalize Yh_ ps x.kind x.kids=i;revert a b c d e f g h i;decide
end
def Own.put {w:Ω} {g:Nat} {t:TypeId} {cap:Nat} {xs:List Υ} (h:Own w g t cap xs) {i:Nat} (hi:i<η xs) (u:Υ):Own (w.setCell ⟨g,i,ν⟩ u) g t cap (xs.set i u):=by
 obtain⟨rest,hb,hs⟩:=h;refine⟨rest,?_,by simpa using hs⟩;have h2:=hb.set_ i u;have e:((xs++rest).toArray).setIfInBounds i u=(xs.set i u++rest).toArray:=by
  simp[List.set_append,hi]
 rwa[e]at h2
def Own.zeros {w:Ω} {e:TypeId} (n:Nat):Own (w.alloc (C_ (madeCells #[I_ j_ 0] n) e)) w.heap.size e n (Qa_ (List.replicate n 0)):=
 ⟨[],by
  have h:=Blk.new w e (madeCells #[I_ j_ 0] n);have e1:(Qa_ (List.replicate n 0)++[]).toArray=madeCells #[I_ j_ 0] n:=by
   apply Array.ext';rw[toList_madeCells_one];simp[Qa_]
  rw[e1];exact h,by simp[Qa_]⟩
def mxK (l:LI) (kids:LI) (t:Nat):Int:=(kids.take t).foldl (fun d v=>max d (l.getD v.toNat 0)) 0
def v4_ (l kids:LI):mxK l kids 0=0:=by simp[mxK]
def v3_ {kids:LI} (h:kids[m]? =σ (j:Int)) (hx:p[j]? =σ a):mxK p kids (m+1)=max (mxK p kids m) a:=by
 unfold mxK;rw[List.take_add_one,h,List.foldl_append];simp[List.getD_eq_getElem?_getD,hx]
def Wm_ {l kids:LI} (hl:∀x∈l,1<=x/\x<=14) (t:Nat):0<=mxK l kids t/\mxK l kids t<=14:=by
 unfold mxK;generalize kids.take t=r;have:∀(r:LI) (d:Int),0<=d/\d<=14->0<=r.foldl (fun d v=>max d (l.getD v.toNat 0)) d/\r.foldl (fun d v=>max d (l.getD v.toNat 0)) d<=14:=by
  intro r
  induction r with
  |nil=>intro d h;exact h
  |cons v r ih=>
   intro d h;apply ih;have hv:0<=l.getD v.toNat 0/\l.getD v.toNat 0<=14:=by
    rw[List.getD_eq_getElem?_getD]
    cases hg:l[v.toNat]? with
    |none=>simp
    |some x=>have:=hl x (lm_ hg);simp;omega
   show 0<=max d (l.getD v.toNat 0)/\max d (l.getD v.toNat 0)<=14;omega
 exact this r 0 oo
def QX_ (ps:List PN):Nat->Option (LI)
 |0=>σ []
 |m+1=>
  match QX_ ps m with
  |none=>ν
  |some l=>
   match ps[m]? with
   |none=>ν
   |some x=>if Za_ ps m=τ/\mxK l x.kids (η x.kids)<14 then σ (l++[mxK l x.kids (η x.kids)+1])else ν
def QiO_ (l:LI) (m:Nat):Prop:=η l=m/\∀x∈l,1<=x/\x<=14
def ZL_:∀{m:Nat} {l:LI},QX_ r m=σ l->QiO_ l m:=by
 intro m
 induction m with
 |zero=>intro l h;unfold QX_ at h;obtain rfl:=oi_ h;exact⟨rfl,fun x b=>by cases b⟩
 |succ m ih=>
  intro l h;unfold QX_ at h
  cases hd:QX_ r m with
  |none=>rw[hd]at h;cases h
  |some l0=>
   rw[hd]at h
   cases b:r[m]? with
   |none=>rw[b]at h;cases h
   |some x=>
    rw[b]at h;simp only at h;split at h
    ·rename_i hc;obtain rfl:=oi_ h;obtain⟨h1,h2⟩:=ih hd;have:=Wm_ (kids:=x.kids) h2 (η x.kids);refine⟨by simp[h1],fun y a=>?_⟩;rcases List.mem_append.1 a with a|a
     ·exact h2 y a
     obtain rfl:=ms1_.1 a;omega
    cases h
def Gl_ (h:Za_ r m=φ):QX_ r (m+1)=ν:=by
 unfold QX_
 cases QX_ r m with
 |none=>rfl
 |some l=>
  cases hx:r[m]? with
  |none=>rfl
  |some x=>simp[h]
def UR_ (hd:QX_ r m=σ p) (hx:r[m]? =σ z) (h:¬mxK p z.kids (η z.kids)<14):QX_ r (m+1)=ν:=by
 unfold QX_;rw[hd,hx];simp only;rw[in_ (fun hh=>h hh.2)]
def US_ (hd:QX_ r m=σ p) (hx:r[m]? =σ z) (hb:Za_ r m=τ) (h:mxK p z.kids (η z.kids)<14):QX_ r (m+1)=σ (p++[mxK p z.kids (η z.kids)+1]):=by
 conv=>lhs;unfold QX_
 rw[hd,hx];simp only;rw[ip_ ⟨hb,h⟩]
def YC_ (h:QX_ r m=ν) (hk:m<=j):QX_ r j=ν:=by
 induction j with
 |zero=>
    obtain rfl:m=0:=oo;exact h
 |succ j ih=>
  by_cases e:m=j+1
  ·subst e;exact h
  unfold QX_;rw[ih oo]
def Kt_ (ps:List PN) (k:Nat):Int:=match QX_ ps (k+1)with|some l=>l.getD k 0|none=>0
def Gj_ (h:QX_ r m=ν) (hk:m<=j+1):Kt_ r j=0:=by unfold Kt_;rw[YC_ h hk]
def Gk_ (h:QX_ r (m+1)=σ p) (hx:p[m]? =σ a):Kt_ r m=a:=by unfold Kt_;rw[h];simp[List.getD_eq_getElem?_getD,hx]
def VS_ (ps:List PN) (k:Int):Int:=if 0<=k/\k<(η ps:Int)then Kt_ ps k.toNat else 0
def Wp_ (hb:Za_ r m=τ) (hx:r[m]? =σ z) (hv:a∈z.kids):0<=a/\a<(m:Int):=by
 have hk:JP_ m z.kids=τ:=by
  cases h:JP_ m z.kids with
  |true=>rfl
  |false=>rw[zI_ hx h]at hb;cases hb
 obtain⟨j,hj⟩:=List.mem_iff_getElem?.1 hv;have h1:=Z4_ hk hj;unfold Un_ at h1;rw[τa]at h1;have h2:=od_ h1.1;exact⟨h2.1,oo⟩
def W2_ (n c:Nat) (k:Int) (w:Ω) (hk:¬(0<=k/\k<(n:Int))):
  Δ π 103 #[S_ d n c,I_ j_ k] w (RB_ (I_ j_ 0) w):=by
 have HN:=h_ (fun W=>Ym_ (n:=n) (show inB k 0 ((n:Int)-1)=φ from df_ oo) d c W);go_in;go_wp2_with fail;refine mb_ (HN.o _) ?_;rintro w1 rfl;exact Γ
def JL_ (n c:Nat) (ps:List PN) (k:Nat) (w:Ω) (hn:n<=1048576) (K:Nps w d n ps) (hb:Ψ (PNs ps)) (hk:k<n):
  Δ π 103 #[S_ d n c,I_ j_ k] w (RB_ (I_ j_ (Kt_ ps k)) w):=by
 have HP:=h_ K;have HL:=h_ K.len;obtain⟨i0,hi,Y,Z,aa⟩:=info_parts QY_;have I:=fun W=>YK_ (P:=π) 83 3 i0 _ underlying83 hi Y j_ j_ (k+1) (k+1) (lr_ _) (by rw[aa];omega) oo W
 rw[Z]at I;have HN:=h_ (fun W=>Ym_ (n:=n) (show inB (k:Int) 0 ((n:Int)-1)=τ from dt_ oo) d c W);have e1:((k+1:Nat):Int)=(k:Int)+1:=oo;rw[e1]at I;have a:=h_ (fun m (h:QX_ ps m=ν) (hm:m<=k+1)=>Gj_ h hm);have f:=h_ (fun l x (h:QX_ ps (k+1)=σ l) (L:l[k]? =σ x)=>Gk_ h L);generalize Kt_ ps k=D at a f |-
 go_in;go_wp2_with fail;refine mb_ (HN.o _) ?_;rintro w1 rfl;go_wp2;go_loopw [19] (fun i wr=>∃(m:Nat) (l:LI),m<=k+1/\i=I_ j_ m/\Ψ (QX_ ps m=σ l)/\Own wr w.heap.size 3 (k+1) (Qa_ l)/\Λ w wr) (fun i _=>k+1-(intOf i).toNat)
 ·exact⟨0,[],lz_ _,rfl,rfl,Own.made (size_madeCells _ _),grow_⟩
 obtain⟨m,l,hm,rfl,z,U,o⟩:=hrel;have p:=(ZL_ z.o).1;have HR:=h_ (ZL_ z.o).2;have HO:=h_ U;by_cases av:m<k+1
 ·have am:(m:Int)<(k:Int)+1:=oo;have J:m<n:=oo;have an:(m:Int)<n:=oo;have HB:=h_ (fun(u:Bool) (h:Za_ ps m=u)=>show Δ π 122 #[S_ d n c,I_ j_ m] wr fun e w'=>e=R_ (B_ u)/\Λ wr w' by rw[<-h,<-v6_ (by rw[HL.o];exact J)];exact W5_ d n c ps m wr hn (HP.o.below o) hb)
  cases g:Za_ ps m with
  |false=>
   have R:D=0:=a.o (m+1) (Gl_ g) oo;subst R;have y:=h_<|HB.o _ g;go_wp2_with fail
   refine mb_ y.o ?_;intro w2 Q;go_wp2;go_ret;exact⟨rfl,Qb_ o Q⟩
  |true=>
   have y:=h_<|HB.o _ g;have N:=h_ g;go_wp2_with fail
   refine mb_ y.o ?_;intro w2 Q;have S:=Qb_ o Q;have j:=h_<|HO.o.next Q;obtain⟨x,L⟩:=HP.o.get J;obtain⟨b,off,A2,c2,rfl,al,x0,x1,x2,x3,X⟩:=(HP.o.below S).at_ J L;have ax:=(hb.o x (lm_ L)).2;have HX:=h_ L;have ag:=h_ X;go_wp2
   go_loop [7,32] (fun s i=>∃t:Nat,t<=η x.kids/\s=I_ j_ (mxK l x.kids t)/\i=I_ j_ t) (fun _ i=>η x.kids-(intOf i).toNat)
   ·exact⟨0,lz_ _,by rw[v4_],rfl⟩
   obtain⟨t,ht,rfl,rfl⟩:=hrel;have G:=Wm_ (kids:=x.kids) HR.o t;by_cases C:t<η x.kids
   ·obtain⟨v,hd⟩:∃A,x.kids[t]? =σ A:=⟨_,List.getElem?_eq_getElem C⟩;have hv:=Wp_ N.o HX.o (lm_ hd);obtain⟨q,rfl⟩:=eo_ hv.1;have ak:q<m:=oo;have g0:(0:Int)<=(q:Int):=oo;have g1:(q:Int)<(k:Int)+1:=oo;have g2:q<k+1:=oo;have gt:(t:Int)<η x.kids:=oo;obtain⟨b5,ao,rfl,ai,cv⟩:=Qu_ ag.o C hd;obtain⟨A,E⟩:∃A,l[q]? =σ A:=⟨_,gE oo⟩;have r:=(j.o.rd (size:=1) (n:=m) (by simp[Qa_,p]));obtain⟨b6,ab,F,H,cq⟩:=Qu_ r ak E;injection F with F;injection F with e61 e62;subst e61;subst e62;simp only[Nat.zero_add]at cq;have V:=h_ (v3_ hd E);have ap:=HR.o A (lm_ E);generalize mxK l x.kids t=M at V G |-
    go_wp2;exact⟨⟨t+1,oo,by rw[V.o],by go_num⟩,ms_⟩
   obtain rfl:t=η x.kids:=oo;have aj:=j.o.there (i:=m) oo;obtain⟨o0,e0⟩:=aj;have ar:=j.o.lt;have aq:=j.o.frozen;by_cases B:mxK l x.kids (η x.kids)<14
   ·have T:=h_ (US_ z.o HX.o N.o B);generalize mxK l x.kids (η x.kids)=M at T G B |-
    have O:¬(14:Int)<=M:=oo;go_wp2;go_roundw
    ·exact⟨m+1,l++[M+1],oo,by go_num,T.o,by
     have:=j.o.push (by simp[Qa_];omega) (i:=m) (by simp[Qa_,p]) (I_ j_ (M+1));simpa[Qa_]using this,grow_⟩
    exact ms_
   have R:D=0:=a.o (m+1) (UR_ z.o HX.o B) oo;subst R;generalize mxK l x.kids (η x.kids)=M at G B |-
   have O:(14:Int)<=M:=oo;go_wp2;go_ret;exact⟨rfl,S⟩
 obtain rfl:m=k+1:=oo;obtain⟨A,E⟩:∃A,l[k]? =σ A:=⟨_,gE oo⟩;have R:D=A:=f.o l A z.o E;subst R;have r:=(HO.o.rd (size:=1) (n:=k+1) (by simp[Qa_,p]));obtain⟨b6,ab,F,H,cq⟩:=Qu_ r oo E;injection F with F;injection F with e61 e62;subst e61;subst e62;simp only[Nat.zero_add]at cq;have g1:(k:Int)<(k:Int)+1:=oo;have g3:¬((k:Int)+1<(k:Int)+1):=oo;go_wp2;go_ret;exact⟨rfl,o⟩
def W1_ (hn:n<=1048576) (a:Nps h d n e) (hb:Ψ (PNs e)):
  Δ π 103 #[S_ d n c,I_ j_ k] h (RB_ (I_ j_ (VS_ e k)) h):=by
 have hl:=a.len;by_cases b:0<=k/\k<(n:Int)
 ·obtain⟨q,rfl⟩:=eo_ b.1;have:VS_ e (q:Int)=Kt_ e q:=by unfold VS_;rw[ip_ (by rw[hl];exact b),it_]
  rw[this];exact JL_ d n c e q h hn a hb oo
 have:VS_ e k=0:=by unfold VS_;rw[in_ (by rw[hl];exact b)]
 rw[this];exact W2_ d n c k h b
def SpL (ps:List PN) (m:Nat) (a:LI):Prop:=η a=m/\(∀x∈a,0<=x/\x<=14)/\(QX_ ps m=σ a\/(QX_ ps m=ν/\0<m/\a[m-1]? =σ 0))
def Qf1_:SpL e 0 []:=⟨rfl,(fun x hx=>by cases hx),.inl rfl⟩
def Qej_ (h:SpL r m p) (hd:QX_ r (m+1)=ν):SpL r (m+1) (p++[0]):=by
 refine⟨by simp[h.1],fun x a=>?_,.inr ⟨hd,oo,?_⟩⟩
 ·rcases List.mem_append.1 a with a|a
  ·exact h.2.1 x a
  obtain rfl:=ms1_.1 a;omega
 rw[Nat.add_sub_cancel,List.getElem?_append_right (by rw[h.1];exact lr_ _),h.1,Nat.sub_self];rfl
def Qf0_ (hd:QX_ r (m+1)=σ (p++[a])):SpL r (m+1) (p++[a]):=by
 obtain⟨h1,h2⟩:=ZL_ hd;exact⟨h1,fun x hx=>by have:=h2 x hx;omega,.inl hd⟩
def JI_ (ps:List PN) (m:Nat):Bool:=Za_ ps m&&(QX_ ps m).isSome
def WZ_ (h:JI_ r m=φ):QX_ r (m+1)=ν:=by
 unfold JI_ at h
 cases hn:Za_ r m with
 |false=>exact Gl_ hn
 |true=>
  rw[hn,τb]at h
  cases hd:QX_ r m with
  |none=>exact YC_ hd oo
  |some l=>rw[hd]at h;cases h
def k2_ (hn:n<=1048576) (ad:Nps g d n e) (hb:Ψ (PNs e)) (hk:f<n):
  Δ π 95 #[S_ d n c,I_ j_ f] g fun ps w'=>∃A' c' a,ps=R_ (S_ A' (f+1) c')/\Rd w' 1 A' (f+1) (Qa_ a)/\Ψ (SpL e (f+1) a)/\Λ g w':=by
 have HP:=h_ ad;have HL:=h_ ad.len;obtain⟨i0,hi,ar,av,ax⟩:=info_parts QY_;have D:=h_<|ai_ hi<|ai_ ar<|ai_ av ax;have al:Mine (g.alloc (C_ #[] 3)) g.heap.size 3 1 (σ ⟨g.heap.size,0,ν⟩) 0 0 (Qa_ []):=ZA_ g 3 1;go_in;go_wp2;go_loopw [5,6] (fun s i wr=>∃(m:Nat) (a:LI) (A5:OA) (c5:Nat),m<=f+1/\s=S_ A5 m c5/\i=I_ j_ m/\Mine wr g.heap.size 3 1 A5 m c5 (Qa_ a)/\SpL e m a/\Λ g wr) (fun _ i _=>f+1-(intOf i).toNat)
 ·exact⟨0,[],_,_,lz_ _,rfl,rfl,al,Qf1_ e,grow_⟩
 obtain⟨m,a,A5,c5,hm,rfl,rfl,hM,hS,z⟩:=hrel;have B:=h_ hM;have K:=h_ hS;by_cases aO:m<f+1
 ·have ao:(m:Int)<=f:=oo;have ab:m<n:=oo;have ap:(m:Int)<n:=oo;have X:=h_ (fun(u:Bool) (h:Za_ e m=u)=>show Δ π 111 #[S_ d n c,I_ j_ m] wr fun ps w'=>ps=R_ (B_ u)/\Λ wr w' by rw[<-h,<-jH_];exact q1_ d n c e m wr hn (HP.o.below z) hb ab);go_upto_region 6 with fail
  go_cut [36] (fun s wx=>s=B_ (!JI_ e m)/\Mine wx g.heap.size 3 1 A5 m c5 (Qa_ a)/\Λ g wx)
  ·
   cases l:Za_ e m with
   |false=>
    have E:=h_<|X.o _ l;have k:JI_ e m=φ:=(by unfold JI_;rw[l];rfl);go_wp2_with fail
    refine mb_ E.o ?_;intro w2 G;go_wp2;go_meet;exact⟨by rw[k];rfl,B.o.next G,Qb_ z G⟩
   |true=>
    have E:=h_<|X.o _ l;by_cases aE:m=0
    ·subst aE;have k:JI_ e 0=τ:=(by unfold JI_;rw[l];rfl);go_wp2_with fail;refine mb_ E.o ?_;intro w2 G;go_wp2;go_meet;exact⟨by rw[k];rfl,B.o.next G,Qb_ z G⟩
    obtain⟨L,rfl⟩:∃L,m=L+1:=⟨m-1,oo⟩;have g0:(0:Int)<((L+1:Nat):Int):=oo;have g1:((L+1:Nat):Int)-1=(L:Int):=oo;have g2:(L:Int)<((L+1:Nat):Int):=oo;obtain⟨A,R⟩:∃A,a[L]? =σ A:=⟨_,gE (by have:=K.o.1;omega)⟩;by_cases aa:A=0
    ·have k:JI_ e (L+1)=φ:=by
      unfold JI_;rcases K.o.2.2 with h|⟨h,_⟩
      ·have:=(ZL_ h).2 A (lm_ R);omega
      rw[h,l];rfl
     subst aa;go_wp2_with fail;refine mb_ E.o ?_;intro w2 G;have H:=B.o.next G;obtain⟨b6,V,rfl,J,cq⟩:=Qu_ H.rd oo R;go_wp2;go_meet;exact⟨by rw[k];rfl,H,Qb_ z G⟩
    have k:JI_ e (L+1)=τ:=by
     unfold JI_;rcases K.o.2.2 with h|⟨h,_,h3⟩
     ·rw[h,l];rfl
     rw[Nat.add_sub_cancel,R]at h3;exact absurd (oi_ h3) aa
    have aL:(A==0)=φ:=(by rw[bn_];exact aa);go_wp2_with fail;refine mb_ E.o ?_;intro w2 G;have H:=B.o.next G;obtain⟨b6,V,rfl,J,cq⟩:=Qu_ H.rd oo R;go_wp2;go_meet;exact⟨by rw[k];rfl,H,Qb_ z G⟩
  obtain⟨rfl,hM,r⟩:=hcut;have Y:=h_ hM;obtain⟨x,C⟩:=HP.o.get ab;obtain⟨b,off,A2,c2,rfl,aI,x0,x1,x2,x3,aq⟩:=(HP.o.below r).at_ ab C;have aP:=(hb.o x (lm_ C)).2;have HX:=h_ C;have aC:=h_ aq
  cases k:JI_ e m with
  |false=>
   have aG:=h_<|Qej_ K.o<|WZ_ k;simp only[Bool.not_false];go_wp2
   go_loop [7,8] (fun s i=>s=I_ j_ 0/\i=I_ j_ 0) (fun _ i=>0)
   ·exact⟨rfl,rfl⟩
   obtain⟨rfl,rfl⟩:=hrel;go_wp2_with (at_builtin;(refine wpList_append_own _ rfl (.tmp 79) (.tmp 81) _ rfl g.heap.size 3 i0 (I_ j_ 0) 1 8 underlying83 D.o.1 D.o.2.1 D.o.2.2.1 D.o.2.2.2 rfl dc_ _ _ _ rfl (Mine.alloc Y.o _) ⟨wc.heap.size,0,ν⟩ 1 1 [I_ j_ 0] rfl rfl (JD_ _ _ _) (fun x C=>by simp at C;subst C;rfl) mx_ oo (by have:=r.size;simp;omega) ?_);intro v' w3 j y p);have o:=r.alloc r.size<|C_ #[I_ j_ 0] 3;have I:Λ g w3:=o.grown y o.size (fun w hg=>Ws_ Y.o hg);obtain⟨A7,c7,rfl,U⟩:=Mine.of j;have F:=h_ U;go_wp2;exact⟨⟨m+1,a++[0],A7,c7,oo,rfl,by go_num,by simpa[Qa_]using F.o,aG.o,I⟩,ms_⟩
  |true=>
   have l:Za_ e m=τ:=(by unfold JI_ at k;rw[τa]at k;exact k.1);have P:QX_ e m=σ a:=by
    rcases K.o.2.2 with h|⟨h,_⟩
    ·exact h
    unfold JI_ at k;rw[h]at k;simp at k
   have N:=h_ l;have HD:=h_ P;have aJ:=(ZL_ P).1;have HR:=h_ (ZL_ P).2;simp only[Bool.not_true];go_wp2
   go_loop [7,8] (fun s i=>∃t:Nat,t<=η x.kids/\s=I_ j_ (mxK a x.kids t+1)/\i=I_ j_ t) (fun _ i=>η x.kids-(intOf i).toNat)
   ·exact⟨0,lz_ _,by rw[v4_];rfl,rfl⟩
   obtain⟨t,ht,rfl,rfl⟩:=hrel;have Z:=Wm_ (kids:=x.kids) HR.o t;by_cases S:t<η x.kids
   ·obtain⟨v,hd⟩:∃A,x.kids[t]? =σ A:=⟨_,List.getElem?_eq_getElem S⟩;have hv:=Wp_ N.o HX.o (lm_ hd);obtain⟨q,rfl⟩:=eo_ hv.1;have aF:q<m:=oo;have g0:(0:Int)<=(q:Int):=oo;have g1:(q:Int)<(m:Int):=oo;have gt:(t:Int)<η x.kids:=oo;obtain⟨b5,aK,rfl,aD,cv⟩:=Qu_ aC.o S hd;obtain⟨A,R⟩:∃A,a[q]? =σ A:=⟨_,gE oo⟩;obtain⟨b6,V,rfl,J,cq⟩:=Qu_ Y.o.rd aF R;have ae:=h_ (v3_ hd R);have aM:=HR.o A (lm_ R);generalize mxK a x.kids t=M at ae Z |-
    have T:(0:Int)<M+1:=oo;by_cases aN:M+1<A+1
    ·have ac:=h_ (show max M A=A from oo);go_wp2;exact⟨⟨t+1,oo,by rw[ae.o,ac.o],by go_num⟩,ms_⟩
    have ac:=h_ (show max M A=M from oo);go_wp2;exact⟨⟨t+1,oo,by rw[ae.o,ac.o],by go_num⟩,ms_⟩
   obtain rfl:t=η x.kids:=oo;by_cases O:mxK a x.kids (η x.kids)<14
   ·have Q:=h_ (Qf0_ (US_ HD.o HX.o N.o O));generalize mxK a x.kids (η x.kids)=M at Q Z O |-
    have aj:¬(14:Int)<M+1:=oo;have T:(0:Int)<M+1:=oo;go_wp2_with (at_builtin;(refine wpList_append_own _ rfl (.tmp 79) (.tmp 81) _ rfl g.heap.size 3 i0 (I_ j_ 0) 1 8 underlying83 D.o.1 D.o.2.1 D.o.2.2.1 D.o.2.2.2 rfl dc_ _ _ _ rfl (Mine.alloc Y.o _) ⟨wc.heap.size,0,ν⟩ 1 1 [I_ j_ (M+1)] rfl rfl (JD_ _ _ _) (fun x C=>by simp at C;subst C;rfl) mx_ oo (by have:=r.size;simp;omega) ?_);intro v' w3 j y p);have o:=r.alloc r.size<|C_ #[I_ j_ (M+1)] 3;have I:Λ g w3:=o.grown y o.size (fun w hg=>Ws_ Y.o hg);obtain⟨A7,c7,rfl,U⟩:=Mine.of j;have F:=h_ U;go_wp2;exact⟨⟨m+1,a++[(M+1)],A7,c7,oo,rfl,by go_num,by simpa[Qa_]using F.o,Q.o,I⟩,ms_⟩
   have Q:=h_<|Qej_ K.o<|UR_ HD.o HX.o O;generalize mxK a x.kids (η x.kids)=M at Z O |-
   have aj:(14:Int)<M+1:=oo;have T:(0:Int)<M+1:=oo;go_wp2_with (at_builtin;(refine wpList_append_own _ rfl (.tmp 79) (.tmp 81) _ rfl g.heap.size 3 i0 (I_ j_ 0) 1 8 underlying83 D.o.1 D.o.2.1 D.o.2.2.1 D.o.2.2.2 rfl dc_ _ _ _ rfl (Mine.alloc Y.o _) ⟨wc.heap.size,0,ν⟩ 1 1 [I_ j_ 0] rfl rfl (JD_ _ _ _) (fun x C=>by simp at C;subst C;rfl) mx_ oo (by have:=r.size;simp;omega) ?_);intro v' w3 j y p);have o:=r.alloc r.size<|C_ #[I_ j_ 0] 3;have I:Λ g w3:=o.grown y o.size (fun w hg=>Ws_ Y.o hg);obtain⟨A7,c7,rfl,U⟩:=Mine.of j;have F:=h_ U;go_wp2;exact⟨⟨m+1,a++[0],A7,c7,oo,rfl,by go_num,by simpa[Qa_]using F.o,Q.o,I⟩,ms_⟩
 obtain rfl:m=f+1:=oo;have g3:¬(((f+1:Nat):Int)<=(f:Int)):=oo;go_wp2;go_ret;have am:=B.o.rd;exact⟨A5,⟨c5,rfl⟩,a,am,K,z⟩
def QiC_ (h:SpL r (m+1) p):p[m]? =σ (Kt_ r m):=by
 obtain⟨h1,h2,h3⟩:=h;rcases h3 with h|⟨h,_,h4⟩
 ·obtain⟨d,hd⟩:∃d,p[m]? =σ d:=⟨_,gE oo⟩;rw[Gk_ h hd,hd]
 rw[Gj_ h (lr_ _)];exact h4
def V9_ (hn:n<=1048576) (a:Nps h d n e) (hb:Ψ (PNs e)):
  Δ π 77 #[S_ d n c,I_ j_ k] h (RB_ (I_ j_ (VS_ e k)) h):=by
 have hl:=a.len;by_cases f:0<=k/\k<(n:Int)
 ·obtain⟨q,rfl⟩:=eo_ f.1;have g:VS_ e (q:Int)=Kt_ e q:=by unfold VS_;rw[ip_ (by rw[hl];exact f),it_]
  rw[g];have A:=h_ (fun W=>Ko_ (show inB (q:Int) 0 ((n:Int)-1)=τ from dt_ oo) W);have HD:=h_ (fun c=>k2_ d n c e q h hn a hb oo);go_in;go_wp2_with fail;refine mb_ (A.o _) ?_;rintro w1 rfl;go_wp2_with fail;refine(HD.o _).mono ?_;rintro ps w2 ⟨A',c',i,rfl,hr,hs,h2⟩;obtain⟨b,off,rfl,w,cq⟩:=Qu_ hr (oo:q<q+1) (QiC_ hs.o);have g0:(0:Int)<=(q:Int):=oo;have g1:(q:Int)<((q+1:Nat):Int):=oo;go_wp2;go_ret;exact⟨rfl,h2⟩
 have g:VS_ e k=0:=by unfold VS_;rw[in_ (by rw[hl];exact f)]
 rw[g];have A:=h_ (fun W=>Ko_ (show inB k 0 ((n:Int)-1)=φ from df_ oo) W);go_in;go_wp2_with fail;refine mb_ (A.o _) ?_;rintro w1 rfl;exact Γ
def useL (F:LI) (n:Nat):LI:=(List.range n).map (fun(j:Nat)=>((F.count (j:Int):Nat):Int))
def Xv_:(useL l f).length=f:=by simp[useL]
def QaA_:useL [] n=List.replicate n 0:=by
 unfold useL;apply List.ext_getElem
 ·simp
 intro i h1 h2;simp
def VR_ (h:j<m):(useL p m)[j]? =σ ((p.count (j:Int):Nat):Int):=by
 unfold useL;rw[List.getElem?_map,List.getElem?_range h];rfl
def xS_ {F:LI} (h:j<m):(Qa_ (useL F m)).set j (I_ j_ ((F.count (j:Int):Nat)+1:Int))=Qa_ (useL (F++[(j:Int)]) m):=by
 unfold Qa_;apply List.ext_getElem?;intro i;rw[List.getElem?_set,List.getElem?_map,List.getElem?_map];by_cases hi:i<m
 ·rw[VR_ hi,VR_ hi];by_cases hq:j=i
  ·subst hq;rw[ip_ rfl,ip_ (by simp[Xv_];exact h)];simp
  rw[in_ hq];have:List.count (i:Int) [(j:Int)]=0:=by
   rw[List.count_singleton];simp;omega
  simp[List.count_append,this]
 have e1:(useL F m)[i]? =ν:=List.getElem?_eq_none (by rw[Xv_];omega);have e2:(useL (F++[(j:Int)]) m)[i]? =ν:=List.getElem?_eq_none (by rw[Xv_];omega);rw[e1,e2,in_ oo]
def QU_ (ps:List PN) (m:Nat):LI:=(ps.take m).flatMap PN.kids
def Wd_:QU_ e 0=[]:=rfl
def XN_ (h:r[m]? =σ z):QU_ r (m+1)=QU_ r m++z.kids:=by
 unfold QU_;rw[List.take_add_one,h];simp
def zB_ (h:∀p∈r,η p.kids<=12) (m:Nat):(QU_ r m).length<=12*m:=by
 induction m with
 |zero=>simp[QU_]
 |succ m ih=>
  cases a:r[m]? with
  |none=>
   have:QU_ r (m+1)=QU_ r m:=(by unfold QU_;rw[List.take_add_one,a];simp);rw[this];omega
  |some x=>
   rw[XN_ a,lA];have:=h x (lm_ a);omega
def Uf_ (ps:List PN) (n j:Nat):Prop:=∀(i:Nat),i<j->((QU_ ps n).count (i:Int))=1
def Gc_ (ps:List PN) (n:Nat):Bool:=(List.range (n-1)).all (fun(j:Nat)=>(QU_ ps n).count (j:Int)==1)
def xT_ (h:Uf_ r m (m-1)):Gc_ r m=τ:=by
 unfold Gc_;rw[List.all_eq_true];intro j hj;rw[List.mem_range]at hj;rw[beq_iff_eq];exact h j hj
def QaB_ (hj:j<m-1) (h:¬(QU_ r m).count (j:Int)=1):Gc_ r m=φ:=by
 unfold Gc_;rw[List.all_eq_false];exact⟨j,List.mem_range.2 hj,by simp;exact h⟩
def Yb_ (ps:List PN):Bool:=inB (η ps:Int) 1 300&&((Qc_ ps ((η ps:Int)-1)==22)&&(!(Kt_ ps (η ps-1)==0)&&Gc_ ps (η ps)))
def QaP_:∀{m:Nat} {l:LI},QX_ r m=σ l->∀i,i<m->Za_ r i=τ:=by
 intro m
 induction m with
 |zero=>intro l h i hi;omega
 |succ m ih=>
  intro l h i hi
  cases hd:QX_ r m with
  |none=>rw[YC_ hd (Nat.le_succ m)]at h;cases h
  |some l0=>
   by_cases hm:i=m
   ·subst hm
    cases hn:Za_ r i with
    |true=>rfl
    |false=>rw[Gl_ hn]at h;cases h
   exact ih hd i oo
def vF_ (h:¬Kt_ r m=0):∀i,i<=m->Za_ r i=τ:=by
 unfold Kt_ at h
 cases hd:QX_ r (m+1)with
 |none=>rw[hd]at h;exact absurd rfl h
 |some l=>exact fun i hi=>QaP_ hd i oo
def xk_ (hb:Za_ r m=τ) (hx:r[m]? =σ z):η z.kids<=12:=by
 by_cases h:η z.kids<=12
 ·exact h
 rw[zJ_ hx h]at hb;cases hb
def Good (ps:List PN):Prop:=∀(m:Nat) (x:PN),ps[m]? =σ x->η x.kids<=12/\∀v∈x.kids,0<=v/\v<(m:Int)
def jl_ {ps:List PN} (h:¬Kt_ ps (η ps-1)=0):Good ps:=fun m x a=>by
 have hl:=(gs_.1 a).1;have hb:=vF_ h m oo;exact⟨xk_ hb a,fun v hv=>Wp_ hb a hv⟩
def Good.len (h:Good r):∀p∈r,η p.kids<=12:=fun p hp=>by
 obtain⟨j,hj⟩:=List.mem_iff_getElem?.1 hp;exact(h j p hj).1
def kr_:l.count k<=η l:=List.count_le_length
def V4_ (n c:Nat) (ps:List PN) (w:Ω) (hn:n<=1048576) (K:Nps w d n ps) (hb:Ψ (PNs ps)):
  Δ π 80 #[S_ d n c] w (RB_ (B_ (Yb_ ps)) w):=by
 have M:=h_ K;have HL:=h_ K.len;have f:Ψ (Yb_ ps=(inB (n:Int) 1 300&&((Qc_ ps ((n:Int)-1)==22)&&(!(Kt_ ps (n-1)==0)&&Gc_ ps n)))):=(show _=_ by unfold Yb_;rw[HL.o]);generalize Yb_ ps=T at f |-
 by_cases aL:1<=n/\n<=300
 ·have l:=h_ (fun W=>Q2_ (show inB (n:Int) 1 300=τ from dt_ oo) W);obtain⟨a,rfl⟩:∃a,n=a+1:=⟨n-1,oo⟩;have e1:((a+1:Nat):Int)-1=(a:Int):=oo;obtain⟨x,hx⟩:=M.o.get (show a<a+1 from oo);obtain⟨b,off,A2,c2,rfl,R,x0,x1,x2,x3,ay⟩:=M.o.at_ (show a<a+1 from oo) hx;have V:=Qr_ hx;replace f:Ψ (T=((x.kind==22)&&(!(Kt_ ps a==0)&&Gc_ ps (a+1)))):=(show _=_ by
   rw[f.o,show inB ((a+1:Nat):Int) 1 300=τ from dt_ oo,e1,V,Nat.add_sub_cancel,τb])
  have g1:(a:Int)<((a+1:Nat):Int):=oo;have g0:(0:Int)<=(a:Int):=oo
  cases o:(x.kind==22)with
  |false=>
   have r:T=φ:=(by rw[f.o,o];rfl);subst r;have Q:(x.kind != 22)=τ:=(by unfold bne;rw[o];rfl);go_in;go_wp2_with fail;refine mb_ (l.o _) ?_;rintro w1 rfl;exact Γ
  |true=>
   have Q:(x.kind != 22)=φ:=(by unfold bne;rw[o];rfl);replace f:Ψ (T=(!(Kt_ ps a==0)&&Gc_ ps (a+1))):=(show _=_ by rw[f.o,o,τb]);have U:VS_ ps (a:Int)=Kt_ ps a:=(by unfold VS_;rw[ip_ (by rw[HL.o];omega),it_]);have p:=h_ (fun W (hW:Λ w W)=>show Δ π 103 #[S_ (σ ⟨b,off,ν⟩) (a+1) c,I_ j_ a] W fun e w'=>e=R_ (I_ j_ (Kt_ ps a))/\Λ W w' by rw[<-U];exact W1_ _ (a+1) c ps a W hn (M.o.below hW) hb);by_cases k:Kt_ ps a=0
   ·have r:T=φ:=(by rw[f.o,k];rfl);subst r;rw[k]at p;go_in;go_wp2_with fail;refine mb_ (l.o _) ?_;rintro w1 rfl;go_wp2_with fail;refine mb_ (p.o _ br) ?_;intro w2 h2;go_wp2;go_ret;exact⟨rfl,h2⟩
   have S:(Kt_ ps a==0)=φ:=(by rw[bn_];exact k);have HG:=h_<|jl_ (ps:=ps) (by rw[HL.o,Nat.add_sub_cancel];exact k);replace f:Ψ (T=Gc_ ps (a+1)):=(show _=_ by rw[f.o,S];rfl);generalize Kt_ ps a=D at p S k;obtain⟨i0,hi,ac,ad,ae⟩:=info_parts QY_;have s:=fun W=>YK_ (P:=π) 83 3 i0 _ underlying83 hi ac j_ j_ (a+1) (a+1) (lr_ _) (by rw[ae];omega) oo W
   rw[ad,Nat.mul_one]at s;simp only[Value.cells]at s;have e9:((a+1:Nat):Int)=(a:Int)+1:=oo;rw[e9]at s;have ai:=h_<|zB_ HG.o.len;go_in;go_wp2_with fail
   refine mb_ (l.o _) ?_;rintro w1 rfl;go_wp2_with fail;refine mb_ (p.o _ br) ?_;intro w2 h2;go_wp2;have aC:=h2.size;have hZ:=Own.zeros (w:=w2) (e:=3)<|a+1;go_loopw [36] (fun i wr=>∃m:Nat,m<=a+1/\i=I_ j_ m/\Own wr w2.heap.size 3 (a+1) (Qa_ (useL (QU_ ps m) (a+1)))/\Λ w wr) (fun i _=>a+1-(intOf i).toNat)
   ·exact⟨0,lz_ _,rfl,by rw[Wd_,QaA_];exact hZ,grow_⟩
   obtain⟨m,hm,rfl,g,h⟩:=hrel;have aK:=h2.size;by_cases X:m<a+1
   ·have aA:(m:Int)<((a+1:Nat):Int):=oo;obtain⟨y,Z⟩:=M.o.get X;obtain⟨b3,aF,A3,c3,e3,I,y0,y1,y2,y3,aa⟩:=M.o.at_ X Z;injection e3 with e3;injection e3 with e31 e32;subst e31;subst e32;obtain⟨aq,ar⟩:=QW_ h;have az:=HG.o m y Z;have HY:=h_ Z;have ak:=h_ aa;have ao:=h_ (XN_ Z);have G:=g.alloc (C_ #[I_ j_ y.kind,T_ y.text,S_ A3 (η y.kids) c3,B_ y.blank] 96);have aD:=h.size;have C:Λ w (wr.alloc (C_ #[I_ j_ y.kind,T_ y.text,S_ A3 (η y.kids) c3,B_ y.blank] 96)):=grow_;have aN:=ai.o m;obtain⟨aE,ab⟩:=az;have al:=h_ ab;go_wp2;go_loopw [43] (fun i w3=>∃t:Nat,t<=η y.kids/\i=I_ j_ t/\Own w3 w2.heap.size 3 (a+1) (Qa_ (useL (QU_ ps m++y.kids.take t) (a+1)))/\Λ w w3) (fun i _=>η y.kids-(intOf i).toNat)
    ·exact⟨0,lz_ _,rfl,by simpa using G,C⟩
    obtain⟨t,ht,rfl,g,h⟩:=hrel;by_cases E:t<η y.kids
    ·obtain⟨v,hd⟩:∃A,y.kids[t]? =σ A:=⟨_,List.getElem?_eq_getElem E⟩;have hv:=al.o v (lm_ hd);obtain⟨q,rfl⟩:=eo_ hv.1;have B:q<a+1:=oo;have k0:(0:Int)<=(q:Int):=oo;have k1:(q:Int)<((a+1:Nat):Int):=oo;have gt:(t:Int)<η y.kids:=oo;obtain⟨b5,aG,rfl,ap,cv⟩:=Qu_ (ak.o.below h) E hd;have z:=(g.rd (size:=1) (n:=a+1) (by simp[Qa_,Xv_]));obtain⟨b6,af,H,J,cq⟩:=Qu_ z B (VR_ B);injection H with H;injection H with e61 e62;subst e61;subst e62;simp only[Nat.zero_add]at cq;have L:=h_ (xS_ (F:=QU_ ps m++y.kids.take t) B);have Y:=h_ (g.put (i:=q) (by simp[Qa_,Xv_];exact B) (I_ j_ (((QU_ ps m++y.kids.take t).count (q:Int):Nat)+1:Int)));have aI:=kr_ (QU_ ps m++y.kids.take t) (q:Int);have aO:(QU_ ps m++y.kids.take t).length<=12*m+12:=(by rw[lA,List.length_take];omega);have ax:=h_ (show y.kids.take (t+1)=y.kids.take t++[(q:Int)]by rw[List.take_add_one,hd];rfl);have av:=g.lt;have aJ:=g.frozen;generalize hN:(QU_ ps m++y.kids.take t).count (q:Int)=N at *;have aH:N<=3624:=oo;go_wp2;go_roundw
     ·exact⟨t+1,oo,by go_num,by rw[ax.o,<-List.append_assoc,<-L.o];exact Y.o,grow_⟩
     exact ms_
    obtain rfl:t=η y.kids:=oo;rw[List.take_length,<-ao.o]at g;have HO:=h_ g;go_wp2;exact⟨⟨m+1,oo,by go_num,HO.o,h⟩,ms_⟩
   obtain rfl:m=a+1:=oo;have av:=g.lt;have z:=h_<|g.rd (size:=1) (n:=a+1) (by simp[Qa_,Xv_]);have e5:((a+1:Nat):Int)-1=(a:Int):=oo;go_wp2
   go_loop [60] (fun i=>∃j:Nat,j<=a/\i=I_ j_ j/\Ψ (Uf_ ps (a+1) j)) (fun i=>a-(intOf i).toNat)
   ·exact⟨0,lz_ _,rfl,(show ∀i,_ from fun i hi=>absurd hi oo)⟩
   obtain⟨j,hj,rfl,O⟩:=hrel;by_cases aM:j<a
   ·obtain⟨b6,af,H,J,cq⟩:=Qu_ z.o (show j<a+1 from oo) (VR_ (show j<a+1 from oo));injection H with H;injection H with e61 e62;subst e61;subst e62;simp only[Nat.zero_add]at cq;have gj:(j:Int)<a:=oo;by_cases h1:(QU_ ps (a+1)).count (j:Int)=1
    ·have an:Ψ (Uf_ ps (a+1) (j+1)):=(show ∀i,_ from fun i hi=>by
      by_cases e:i=j
      ·subst e;exact h1
      exact O.o i oo)
     rw[h1]at cq;go_wp2;exact⟨⟨j+1,oo,by go_num,an⟩,ms_⟩
    have r:T=φ:=(by rw[f.o];exact QaB_ oo h1);subst r;have aP:((((QU_ ps (a+1)).count (j:Int):Nat):Int) != 1)=τ:=(by rw[bne_iff_ne];omega);have aB:((((QU_ ps (a+1)).count (j:Int):Nat):Int)==1)=φ:=(by rw[bn_];omega);generalize (QU_ ps (a+1)).count (j:Int)=N at *;go_wp2;go_ret;exact⟨rfl,h⟩
   obtain rfl:j=a:=oo;have r:T=τ:=(by rw[f.o];exact xT_ (by simpa using O.o));subst r;go_wp2;go_ret;exact⟨rfl,h⟩
 have l:=h_ (fun W=>Q2_ (show inB (n:Int) 1 300=φ from df_ oo) W);have r:T=φ:=by rw[f.o,show inB (n:Int) 1 300=φ from df_ oo];rfl
 subst r;go_in;go_wp2_with fail;refine mb_ (l.o _) ?_;rintro w1 rfl;exact Γ
def X9_ (n c:Nat) (ps:List PN) (w:Ω) (hn:n<=1048576) (J:Nps w d n ps) (hb:Ψ (PNs ps)):
  Δ π 55 #[S_ d n c] w (RB_ (B_ (Yb_ ps)) w):=by
 have L:=h_ J;have HL:=h_ J.len;have f:Ψ (Yb_ ps=(inB (n:Int) 1 300&&((Qc_ ps ((n:Int)-1)==22)&&(!(Kt_ ps (n-1)==0)&&Gc_ ps n)))):=(show _=_ by unfold Yb_;rw[HL.o]);generalize Yb_ ps=T at f |-
 by_cases aM:1<=n/\n<=300
 ·have l:=h_ (fun W=>Ko_ (show inB (n:Int) 1 300=τ from dt_ oo) W);obtain⟨a,rfl⟩:∃a,n=a+1:=⟨n-1,oo⟩;have e1:((a+1:Nat):Int)-1=(a:Int):=oo;obtain⟨x,hx⟩:=L.o.get (show a<a+1 from oo);obtain⟨b,off,A2,c2,rfl,Q,x0,x1,x2,x3,ay⟩:=L.o.at_ (show a<a+1 from oo) hx;have X:=Qr_ hx;replace f:Ψ (T=((x.kind==22)&&(!(Kt_ ps a==0)&&Gc_ ps (a+1)))):=(show _=_ by
   rw[f.o,show inB ((a+1:Nat):Int) 1 300=τ from dt_ oo,e1,X,Nat.add_sub_cancel,τb])
  have g1:(a:Int)<((a+1:Nat):Int):=oo;have g0:(0:Int)<=(a:Int):=oo
  cases o:(x.kind==22)with
  |false=>
   have r:T=φ:=(by rw[f.o,o];rfl);subst r;have O:(x.kind != 22)=τ:=(by unfold bne;rw[o];rfl);go_in;go_wp2_with fail;refine mb_ (l.o _) ?_;rintro w1 rfl;exact Γ
  |true=>
   have O:(x.kind != 22)=φ:=(by unfold bne;rw[o];rfl);replace f:Ψ (T=(!(Kt_ ps a==0)&&Gc_ ps (a+1))):=(show _=_ by rw[f.o,o,τb]);have U:VS_ ps (a:Int)=Kt_ ps a:=(by unfold VS_;rw[ip_ (by rw[HL.o];omega),it_]);have p:=h_ (fun W (hW:Λ w W)=>show Δ π 77 #[S_ (σ ⟨b,off,ν⟩) (a+1) c,I_ j_ a] W fun e w'=>e=R_ (I_ j_ (Kt_ ps a))/\Λ W w' by rw[<-U];exact V9_ _ (a+1) c ps a W hn (L.o.below hW) hb);by_cases k:Kt_ ps a=0
   ·have r:T=φ:=(by rw[f.o,k];rfl);subst r;rw[k]at p;go_in;go_wp2_with fail;refine mb_ (l.o _) ?_;rintro w1 rfl;go_wp2_with fail;refine mb_ (p.o _ br) ?_;intro w2 h2;go_wp2;go_ret;exact⟨rfl,h2⟩
   have S:(Kt_ ps a==0)=φ:=(by rw[bn_];exact k);have HG:=h_<|jl_ (ps:=ps) (by rw[HL.o,Nat.add_sub_cancel];exact k);replace f:Ψ (T=Gc_ ps (a+1)):=(show _=_ by rw[f.o,S];rfl);generalize Kt_ ps a=D at p S k;obtain⟨i0,hi,ad,ae,af⟩:=info_parts QY_;have s:=fun W=>YK_ (P:=π) 83 3 i0 _ underlying83 hi ad j_ j_ (a+1) (a+1) (lr_ _) (by rw[af];omega) oo W
   rw[ae,Nat.mul_one]at s;simp only[Value.cells]at s;have e9:((a+1:Nat):Int)=(a:Int)+1:=oo;rw[e9]at s;have aj:=h_<|zB_ HG.o.len;go_in;go_wp2_with fail
   refine mb_ (l.o _) ?_;rintro w1 rfl;go_wp2_with fail;refine mb_ (p.o _ br) ?_;intro w2 h2;go_wp2;have aC:=h2.size;have hZ:=Own.zeros (w:=w2) (e:=3)<|a+1;go_loopw [5] (fun i wr=>∃m:Nat,m<=a+1/\i=I_ j_ m/\Own wr w2.heap.size 3 (a+1) (Qa_ (useL (QU_ ps m) (a+1)))/\Λ w wr) (fun i _=>a+1-(intOf i).toNat)
   ·exact⟨0,lz_ _,rfl,by rw[Wd_,QaA_];exact hZ,grow_⟩
   obtain⟨m,hm,rfl,g,h⟩:=hrel;have aL:=h2.size;by_cases Y:m<a+1
   ·have aA:(m:Int)<((a+1:Nat):Int):=oo;obtain⟨y,hy⟩:=L.o.get Y;obtain⟨b3,aF,A3,c3,e3,aq,y0,y1,y2,y3,ab⟩:=L.o.at_ Y hy;injection e3 with e3;injection e3 with e31 e32;subst e31;subst e32;obtain⟨R,V⟩:=QW_ h;have az:=HG.o m y hy;have HY:=h_ hy;have al:=h_ ab;have ap:=h_ (XN_ hy);have G:=g;have aD:=h.size;have C:=h;have aO:=aj.o m;obtain⟨aE,ac⟩:=az;have am:=h_ ac;go_wp2;go_loopw [6] (fun i w3=>∃t:Nat,t<=η y.kids/\i=I_ j_ t/\Own w3 w2.heap.size 3 (a+1) (Qa_ (useL (QU_ ps m++y.kids.take t) (a+1)))/\Λ w w3) (fun i _=>η y.kids-(intOf i).toNat)
    ·exact⟨0,lz_ _,rfl,by simpa using G,C⟩
    obtain⟨t,ht,rfl,g,h⟩:=hrel;obtain⟨R,V⟩:=QW_ h;by_cases E:t<η y.kids
    ·obtain⟨v,hd⟩:∃A,y.kids[t]? =σ A:=⟨_,List.getElem?_eq_getElem E⟩;have hv:=am.o v (lm_ hd);obtain⟨q,rfl⟩:=eo_ hv.1;have B:q<a+1:=oo;have k0:(0:Int)<=(q:Int):=oo;have k1:(q:Int)<((a+1:Nat):Int):=oo;have gt:(t:Int)<η y.kids:=oo;obtain⟨b5,aG,rfl,ar,cv⟩:=Qu_ (al.o.below h) E hd;have z:=(g.rd (size:=1) (n:=a+1) (by simp[Qa_,Xv_]));obtain⟨b6,ag,H,I,cq⟩:=Qu_ z B (VR_ B);injection H with H;injection H with e61 e62;subst e61;subst e62;simp only[Nat.zero_add]at cq;have K:=h_ (xS_ (F:=QU_ ps m++y.kids.take t) B);have Z:=h_ (g.put (i:=q) (by simp[Qa_,Xv_];exact B) (I_ j_ (((QU_ ps m++y.kids.take t).count (q:Int):Nat)+1:Int)));have aJ:=kr_ (QU_ ps m++y.kids.take t) (q:Int);have aP:(QU_ ps m++y.kids.take t).length<=12*m+12:=(by rw[lA,List.length_take];omega);have ax:=h_ (show y.kids.take (t+1)=y.kids.take t++[(q:Int)]by rw[List.take_add_one,hd];rfl);have av:=g.lt;have aK:=g.frozen;generalize hN:(QU_ ps m++y.kids.take t).count (q:Int)=N at *;have aI:N<=3624:=oo;go_wp2;go_roundw
     ·exact⟨t+1,oo,by go_num,by rw[ax.o,<-List.append_assoc,<-K.o];exact Z.o,grow_⟩
     exact ms_
    obtain rfl:t=η y.kids:=oo;rw[List.take_length,<-ap.o]at g;have HO:=h_ g;go_wp2;exact⟨⟨m+1,oo,by go_num,HO.o,h⟩,ms_⟩
   obtain rfl:m=a+1:=oo;have av:=g.lt;have z:=h_<|g.rd (size:=1) (n:=a+1) (by simp[Qa_,Xv_]);go_wp2
   go_loop [7] (fun i=>∃j:Nat,j<=a/\i=I_ j_ j/\Ψ (Uf_ ps (a+1) j)) (fun i=>a-(intOf i).toNat)
   ·exact⟨0,lz_ _,rfl,(show ∀i,_ from fun i hi=>absurd hi oo)⟩
   obtain⟨j,hj,rfl,M⟩:=hrel;by_cases aN:j<a
   ·obtain⟨b6,ag,H,I,cq⟩:=Qu_ z.o (show j<a+1 from oo) (VR_ (show j<a+1 from oo));injection H with H;injection H with e61 e62;subst e61;subst e62;simp only[Nat.zero_add]at cq;have gj:(j:Int)+1<(a:Int)+1:=oo;have aH:(j:Int)<(a:Int)+1:=oo;by_cases h1:(QU_ ps (a+1)).count (j:Int)=1
    ·have ao:Ψ (Uf_ ps (a+1) (j+1)):=(show ∀i,_ from fun i hi=>by
      by_cases e:i=j
      ·subst e;exact h1
      exact M.o i oo)
     rw[h1]at cq;go_wp2;exact⟨⟨j+1,oo,by go_num,ao⟩,ms_⟩
    have r:T=φ:=(by rw[f.o];exact QaB_ oo h1);subst r;have aQ:((((QU_ ps (a+1)).count (j:Int):Nat):Int) != 1)=τ:=(by rw[bne_iff_ne];omega);have aB:((((QU_ ps (a+1)).count (j:Int):Nat):Int)==1)=φ:=(by rw[bn_];omega);generalize (QU_ ps (a+1)).count (j:Int)=N at *;go_wp2;go_ret;exact⟨rfl,h⟩
   obtain rfl:j=a:=oo;have gj:¬((j:Int)+1<(j:Int)+1):=oo;have r:T=τ:=(by rw[f.o];exact xT_ (by simpa using M.o));subst r;go_wp2;go_ret;exact⟨rfl,h⟩
 have l:=h_ (fun W=>Ko_ (show inB (n:Int) 1 300=φ from df_ oo) W);have r:T=φ:=by rw[f.o,show inB (n:Int) 1 300=φ from df_ oo];rfl
 subst r;go_in;go_wp2_with fail;refine mb_ (l.o _) ?_;rintro w1 rfl;exact Γ
end Go.Proofs.YtbiijipkgfpgoaaGreatDoor

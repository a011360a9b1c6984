/-
  Put together by program.
-/
import Derived.Test.YtbiijipkgfpgoaaGreatDoorMfB
set_option maxRecDepth 100000
set_option linter.all false
set_option maxHeartbeats 25600000
open Go.Proofs.Tryz
open Go.Value renaming int→I_,slice→S_,string→T_,bool→B_,agg→A_,tuple→U_
open Go.IntKind renaming i64→j_
open Go.Ending renaming returned→R_
namespace Go.Proofs.YtbiijipkgfpgoaaGreatDoor
open Go.RowKit
def ZV_ (p:UInt8->Bool) (s:BA):BA:=s.extract 0 (Zb_ p s.data.toList)
theorem ZD_ (p:UInt8->Bool) (s:BA):(ZV_ p s).size=Zb_ p s.data.toList:=by
 have:=K3_ p s.data.toList;rw[QF_]at this;simp[ZV_];omega
def QZ_ (c:UInt8):Bool:=c != 10
theorem xt_ (s:BA) (w:World) (hs:s.size<=maxLen):Calls prog 150 #[T_ s,.func (.func 151) #[] #[]] w (RS_ (T_ (ZV_ Qp_ s)) w):=by
 unfold maxLen at hs;go_enter func150,ntmps150;go_wp2
 go_loop [5] (fun i=>∃k:Nat,k<=s.size/\Jb_ Qp_ s k/\i=I_ j_ k) (fun i=>s.size - (intOf i).toNat)
 case atStart=>exact⟨0,lz_ _,Xw_ _ s,rfl⟩
 case round=>
  obtain⟨k,hk,h,rfl⟩:=hrel;by_cases d:k < s.size
  ·have g:=h_ (fun(b:Bool) (hb:Qp_ s[k]=b) (W:World)=>show Calls prog 151 #[I_ .u8 (s[k].toNat:Int)] W fun e w'=>e=R_ (B_ b)/\W=w' by rw[<-hb];exact qr_ _ W)
   cases c:Qp_ s[k]with
   |false=>
    have f:=h_ (Wz_ h d c);have a:=h_ (g.o _ c);clear g c;go_wp2_with (go_at_call 151;refine(a.o _).mono ?_;rintro e w1 ⟨rfl,rfl⟩)
    go_ret;exact⟨Xn_ (by rw[ZV_,f.o]),rfl⟩
   |true=>
    have f:=ZW_ h d c;have a:=h_ (g.o _ c);clear g c;go_wp2_with (go_at_call 151;refine(a.o _).mono ?_;rintro e w1 ⟨rfl,rfl⟩)
    go_round
    case rel=>exact⟨k+1,oo,f,by go_num⟩
    case measure=>exact ms_
  ·have f:=h_ (qR_ h oo);go_wp2;go_ret;exact⟨Xn_ (by rw[ZV_,f.o]),rfl⟩
theorem qQ_ (s:BA) (w:World) (hs:s.size<=maxLen):Calls prog 150 #[T_ s,.func (.func 152) #[] #[]] w (RS_ (T_ (ZV_ Kz_ s)) w):=by
 unfold maxLen at hs;go_enter func150,ntmps150;go_wp2
 go_loop [5] (fun i=>∃k:Nat,k<=s.size/\Jb_ Kz_ s k/\i=I_ j_ k) (fun i=>s.size - (intOf i).toNat)
 case atStart=>exact⟨0,lz_ _,Xw_ _ s,rfl⟩
 case round=>
  obtain⟨k,hk,h,rfl⟩:=hrel;by_cases d:k < s.size
  ·have g:=h_ (fun(b:Bool) (hb:Kz_ s[k]=b) (W:World)=>show Calls prog 152 #[I_ .u8 (s[k].toNat:Int)] W fun e w'=>e=R_ (B_ b)/\W=w' by rw[<-hb];exact K7_ _ W)
   cases c:Kz_ s[k]with
   |false=>
    have f:=h_ (Wz_ h d c);have a:=h_ (g.o _ c);clear g c;go_wp2_with (go_at_call 152;refine(a.o _).mono ?_;rintro e w1 ⟨rfl,rfl⟩)
    go_ret;exact⟨Xn_ (by rw[ZV_,f.o]),rfl⟩
   |true=>
    have f:=ZW_ h d c;have a:=h_ (g.o _ c);clear g c;go_wp2_with (go_at_call 152;refine(a.o _).mono ?_;rintro e w1 ⟨rfl,rfl⟩)
    go_round
    case rel=>exact⟨k+1,oo,f,by go_num⟩
    case measure=>exact ms_
  ·have f:=h_ (qR_ h oo);go_wp2;go_ret;exact⟨Xn_ (by rw[ZV_,f.o]),rfl⟩
theorem jQ_ (s:BA) (w:World) (hs:s.size<=maxLen):Calls prog 150 #[T_ s,.func (.func 155) #[] #[]] w (RS_ (T_ (ZV_ QZ_ s)) w):=by
 unfold maxLen at hs;go_enter func150,ntmps150;go_wp2
 go_loop [5] (fun i=>∃k:Nat,k<=s.size/\Jb_ QZ_ s k/\i=I_ j_ k) (fun i=>s.size - (intOf i).toNat)
 case atStart=>exact⟨0,lz_ _,Xw_ _ s,rfl⟩
 case round=>
  obtain⟨k,hk,h,rfl⟩:=hrel;by_cases d:k < s.size
  ·have g:=h_ (fun(b:Bool) (hb:QZ_ s[k]=b) (W:World)=>show Calls prog 155 #[I_ .u8 (s[k].toNat:Int)] W fun e w'=>e=R_ (B_ b)/\W=w' by rw[<-hb];exact W7_ _ W)
   cases c:QZ_ s[k]with
   |false=>
    have f:=h_ (Wz_ h d c);have a:=h_ (g.o _ c);clear g c;go_wp2_with (go_at_call 155;refine(a.o _).mono ?_;rintro e w1 ⟨rfl,rfl⟩)
    go_ret;exact⟨Xn_ (by rw[ZV_,f.o]),rfl⟩
   |true=>
    have f:=ZW_ h d c;have a:=h_ (g.o _ c);clear g c;go_wp2_with (go_at_call 155;refine(a.o _).mono ?_;rintro e w1 ⟨rfl,rfl⟩)
    go_round
    case rel=>exact⟨k+1,oo,f,by go_num⟩
    case measure=>exact ms_
  ·have f:=h_ (qR_ h oo);go_wp2;go_ret;exact⟨Xn_ (by rw[ZV_,f.o]),rfl⟩
def VX_ (s:BA):BA:=⟨(Lib.trimRightB s.data.toList 32).toArray⟩
theorem U7_ (s:BA) (w:World) (hs:s.size<=maxLen):Calls prog 156 #[T_ s] w (RS_ (T_ (VX_ s)) w):=by
 unfold maxLen at hs;have H1:=h_ (fun W=>Tryz.strings_TrimRight_one s 32 dc_ W oo);go_enter func156,ntmps156;go_wp2_with (go_at_call 198;refine(H1.o _).mono ?_;rintro e w1 ⟨rfl,rfl⟩)
 go_ret;exact⟨rfl,rfl⟩
def qP_ (s:BA):BA × Bool:=
 if Lib.indexByte (s.extract 1 s.size).data.toList 39 < 0 then (⟨#[]⟩,false)
 else (s.extract 0 (Lib.indexByte (s.extract 1 s.size).data.toList 39+2).toNat,Ge_ QM_ (s.extract 0 (Lib.indexByte (s.extract 1 s.size).data.toList 39+2).toNat))
theorem QbN_ (s:BA) (w:World) (h0:0 < s.size) (hs:s.size<=maxLen):Calls prog 153 #[T_ s] w (RS_ (U_ #[T_ (qP_ s).1,B_ (qP_ s).2]) w):=by
 have hm:=hs;unfold maxLen at hs;have h1:(1:Int)<=s.size:=oo;have H1:=h_ (fun W=>Tryz.strings_IndexByte (s.extract 1 s.size) 39 W);have b:=Lib.indexByte_ge (s.extract 1 s.size).data.toList 39;have a:∀o:Nat,Lib.indexByte (s.extract 1 s.size).data.toList 39=o->o+2<=s.size:=by
  intro o ho;have:=(Lib.indexByte_some ho).1;have c:=(gs_.1 this).1;have e:(s.extract 1 s.size).data.toList.length=s.size - 1:=by rw[QF_];simp
  omega
 unfold qP_;generalize hg:Lib.indexByte (s.extract 1 s.size).data.toList 39=i at b a |-
 have H2:=h_ (fun W=>show Calls prog 196 #[T_ (s.extract 1 s.size),I_ .u8 39] W fun e w'=>e=R_ (I_ j_ i)/\w'=W by rw[<-hg];exact H1.o W);clear H1 hg;by_cases hi:i < 0
 ·rw[ip_ hi];go_enter func153,ntmps153;go_wp2_with (go_at_call 196;refine(H2.o _).mono ?_;rintro e w1 ⟨rfl,rfl⟩)
  go_ret2;exact⟨rfl,rfl⟩
 ·rw[in_ hi];obtain⟨o,rfl⟩:=eo_ (show 0<=i from oo);have ho:=a o rfl;have e2:((o:Int)+2).toNat=o+2:=oo;rw[e2];have hp:(s.extract 0 (o+2)).size<=maxLen:=by simp;omega
  have H3:=h_ (fun W=>JN_ (s.extract 0 (o+2)) W hp);clear a hp e2;go_enter func153,ntmps153;go_wp2_with (first|(go_at_call 196;refine(H2.o _).mono ?_;rintro e w1 ⟨rfl,rfl⟩)|(go_at_call 157;refine(H3.o _).mono ?_;rintro e w1 ⟨rfl,rfl⟩))
  go_ret2;exact⟨rfl,rfl⟩
def V5_ (s:BA):Bool:=s.toList==[38,38]||s.toList==[124,124]||s.toList==[61,61]||s.toList==[61,62]||s.toList==[46,46]
def JR_ (c:UInt8):Bool:=decide (0<=Lib.indexByte [40,41,123,125,91,93,59,44,46,61,43,45,42,60,63,58] c)
def ZI_ (s:BA):Bool:=V5_ s||(match s.data.toList with|[c]=>JR_ c|_=>false)
theorem QfJ_ {s:BA} (h:s.size=1):∃c,s=⟨#[c]⟩:=by
 obtain⟨⟨l⟩⟩:=s
 match l,h with
 |[c],_=>exact⟨c,rfl⟩
 |[],h=>exact absurd h dc_
 |a::b::l,h=>exact absurd (show l.length+1+1=1 from h) oo
theorem Gb_ {s:BA} {l:List UInt8} (h:s.size≠l.length):(s.toList==l)=false:=by
 rw[bn_];intro e;rw[ByteArray.toList_eq]at e;apply h;rw[<-QF_,e]
theorem kE_ (s:BA) (w:World) (hs:s.size<=2):Calls prog 158 #[T_ s] w (RS_ (B_ (ZI_ s)) w):=by
 cases f:(s.toList==[38,38])with
 |true=>
  have d:ZI_ s=true:=by unfold ZI_ V5_;simp only[f,Bool.or_true,Bool.true_or]
  rw[d];clear d;go_enter func158,ntmps158;go_wp2;go_ret;exact⟨rfl,rfl⟩
 |false=>
 cases h1:(s.toList==[124,124])with
 |true=>
  have d:ZI_ s=true:=by unfold ZI_ V5_;simp only[h1,Bool.or_true,Bool.true_or]
  rw[d];clear d;go_enter func158,ntmps158;go_wp2;go_ret;exact⟨rfl,rfl⟩
 |false=>
 cases g:(s.toList==[61,61])with
 |true=>
  have d:ZI_ s=true:=by unfold ZI_ V5_;simp only[g,Bool.or_true,Bool.true_or]
  rw[d];clear d;go_enter func158,ntmps158;go_wp2;go_ret;exact⟨rfl,rfl⟩
 |false=>
 cases h:(s.toList==[61,62])with
 |true=>
  have d:ZI_ s=true:=by unfold ZI_ V5_;simp only[h,Bool.or_true,Bool.true_or]
  rw[d];clear d;go_enter func158,ntmps158;go_wp2;go_ret;exact⟨rfl,rfl⟩
 |false=>
 cases i:(s.toList==[46,46])with
 |true=>
  have d:ZI_ s=true:=by unfold ZI_ V5_;simp only[i,Bool.or_true,Bool.true_or]
  rw[d];clear d;go_enter func158,ntmps158;go_wp2;go_ret;exact⟨rfl,rfl⟩
 |false=>
 by_cases hz:s.size=1
 ·obtain⟨c,j⟩:=QfJ_ hz;have d:ZI_ s=JR_ c:=by unfold ZI_ V5_;simp only[f,h1,g,h,i,Bool.or_self,Bool.false_or];rw[j]
  rw[d];clear d;have H1:=h_ (fun W=>show Calls prog 199 #[T_ ⟨#[40,41,123,125,91,93,59,44,46,61,43,45,42,60,63,58]⟩,T_ s] W fun e w'=>e=R_ (B_ (JR_ c))/\w'=W by rw[j];exact Tryz.strings_Contains_one ⟨#[40,41,123,125,91,93,59,44,46,61,43,45,42,60,63,58]⟩ c W);clear j;go_enter func158,ntmps158;go_wp2_with (go_at_call 199;refine(H1.o _).mono ?_;rintro e w1 ⟨rfl,rfl⟩)
  go_ret;exact⟨rfl,rfl⟩
 ·have d:ZI_ s=false:=by
   unfold ZI_ V5_;simp only[f,h1,g,h,i,Bool.or_self,Bool.false_or]
   match hl:s.data.toList with
   |[]=>rfl
   |[c]=>exact absurd (by rw[<-QF_,hl];rfl) hz
   |a::b::l=>rfl
  rw[d];clear d;have k:((s.size:Int)==1)=false:=by rw[bn_];omega
  go_enter func158,ntmps158;go_wp2;go_ret;exact⟨rfl,rfl⟩
def XO_ (s:BA):Nat:=if 2<=s.size/\ZI_ (s.extract 0 2)=true then 2 else if ZI_ (s.extract 0 1)=true then 1 else 0
theorem WD_ (s:BA) (w:World) (h0:0 < s.size) (hs:s.size<=maxLen) (hb:QN_ s[0]=true):
  Calls prog 117 #[T_ s] w fun e w'=>e=R_ (U_ #[I_ j_ 1,T_ (ZV_ Qp_ s),I_ j_ (ZV_ Qp_ s).size,B_ (decide (((ZV_ Qp_ s).size:Int)<=30))])/\w=w':=by
 have hm:=h_ hs;unfold maxLen at hs;have H1:=h_ (fun(W:World)=>show Calls prog 149 #[I_ .u8 (s[0].toNat:Int)] W fun e w'=>e=R_ (B_ true)/\W=w' by rw[<-hb];exact Zm_ _ W);have H2:=h_ (fun W=>xt_ s W hm.o);have hz:(ZV_ Qp_ s).size<=9223372036854775807:=by rw[ZD_];have:=K3_ Qp_ s.data.toList;rw[QF_]at this;omega
 clear hb;generalize ZV_ Qp_ s=t at H2 hz |-
 go_enter func117,ntmps117;go_wp2_with (first|(go_at_call 149;refine(H1.o _).mono ?_;rintro e w1 ⟨rfl,rfl⟩)|(go_at_call 150;refine(H2.o _).mono ?_;rintro e w1 ⟨rfl,rfl⟩))
 refine bodyPost_ret (by simp[results,Tryz.results117,go_sem,];try rfl) rfl ?_;exact⟨rfl,rfl⟩
theorem zS_ (s:BA) (w:World) (h0:0 < s.size) (hs:s.size<=maxLen) (hb:QN_ s[0]=false) (hg:Kz_ s[0]=true):
  Calls prog 117 #[T_ s] w fun e w'=>e=R_ (U_ #[I_ j_ 2,T_ (ZV_ Kz_ s),I_ j_ (ZV_ Kz_ s).size,B_ (decide (((ZV_ Kz_ s).size:Int)<=12))])/\w=w':=by
 have hm:=h_ hs;unfold maxLen at hs;have H1:=h_ (fun(W:World)=>show Calls prog 149 #[I_ .u8 (s[0].toNat:Int)] W fun e w'=>e=R_ (B_ false)/\W=w' by rw[<-hb];exact Zm_ _ W);have H3:=h_ (fun(W:World)=>show Calls prog 152 #[I_ .u8 (s[0].toNat:Int)] W fun e w'=>e=R_ (B_ true)/\W=w' by rw[<-hg];exact K7_ _ W);have H2:=h_ (fun W=>qQ_ s W hm.o);have hz:(ZV_ Kz_ s).size<=9223372036854775807:=by rw[ZD_];have:=K3_ Kz_ s.data.toList;rw[QF_]at this;omega
 clear hb hg;generalize ZV_ Kz_ s=t at H2 hz |-
 go_enter func117,ntmps117;go_wp2_with (first|(go_at_call 149;refine(H1.o _).mono ?_;rintro e w1 ⟨rfl,rfl⟩)|(go_at_call 152;refine(H3.o _).mono ?_;rintro e w1 ⟨rfl,rfl⟩)|(go_at_call 150;refine(H2.o _).mono ?_;rintro e w1 ⟨rfl,rfl⟩))
 refine bodyPost_ret (by simp[results,Tryz.results117,go_sem,];try rfl) rfl ?_;exact⟨rfl,rfl⟩
theorem zT_ (s:BA) (w:World) (h0:0 < s.size) (hs:s.size<=maxLen) (hb:QN_ s[0]=false) (hg:Kz_ s[0]=false) (hq:s[0]=39):
  Calls prog 117 #[T_ s] w (RS_ (U_ #[I_ j_ 3,T_ (qP_ s).1,I_ j_ (qP_ s).1.size,B_ (qP_ s).2]) w):=by
 have hm:=h_ hs;unfold maxLen at hs;have H1:=h_ (fun(W:World)=>show Calls prog 149 #[I_ .u8 (s[0].toNat:Int)] W fun e w'=>e=R_ (B_ false)/\W=w' by rw[<-hb];exact Zm_ _ W);have H3:=h_ (fun(W:World)=>show Calls prog 152 #[I_ .u8 (s[0].toNat:Int)] W fun e w'=>e=R_ (B_ false)/\W=w' by rw[<-hg];exact K7_ _ W);have a:=h_ (fun W=>QbN_ s W h0 hm.o);have b:((s[0].toNat:Int)==39)=true:=by rw[hq];rfl
 have hz:(qP_ s).1.size<=9223372036854775807:=by
  unfold qP_;split
  ·exact lz_ _
  ·simp;omega
 clear hb hg hq;generalize (qP_ s).1=t at a hz |-
 generalize (qP_ s).2=u at a |-
 go_enter func117,ntmps117;go_wp2_with (first|(go_at_call 149;refine(H1.o _).mono ?_;rintro e w1 ⟨rfl,rfl⟩)|(go_at_call 152;refine(H3.o _).mono ?_;rintro e w1 ⟨rfl,rfl⟩)|(go_at_call 153;refine(a.o _).mono ?_;rintro e w1 ⟨rfl,rfl⟩))
 refine bodyPost_ret (by simp[results,Tryz.results117,go_sem,];try rfl) rfl ?_;exact⟨rfl,rfl⟩
theorem WE_ (s:BA) (w:World) (h0:0 < s.size) (hs:s.size<=maxLen) (hb:QN_ s[0]=false) (hg:Kz_ s[0]=false) (hq:¬s[0]=39) (hp:Lib.hasPrefix s.data.toList [47,47]=true):
  Calls prog 117 #[T_ s] w fun e w'=>e=R_ (U_ #[I_ j_ 5,T_ (VX_ (ZV_ QZ_ s)),I_ j_ (ZV_ QZ_ s).size,B_ (Ge_ QM_ (ZV_ QZ_ s))])/\w=w':=by
 have hm:=h_ hs;unfold maxLen at hs;have H1:=h_ (fun(W:World)=>show Calls prog 149 #[I_ .u8 (s[0].toNat:Int)] W fun e w'=>e=R_ (B_ false)/\W=w' by rw[<-hb];exact Zm_ _ W);have H3:=h_ (fun(W:World)=>show Calls prog 152 #[I_ .u8 (s[0].toNat:Int)] W fun e w'=>e=R_ (B_ false)/\W=w' by rw[<-hg];exact K7_ _ W);have b:((s[0].toNat:Int)==39)=false:=by
  rw[bn_];intro e;apply hq;apply UInt8.toNat_inj.1;show s[0].toNat=39;omega
 have H5:=h_ (fun(W:World)=>show Calls prog 154 #[T_ s,T_ ⟨#[47,47]⟩] W fun e w'=>e=R_ (B_ true)/\w'=W by rw[<-hp];exact Tryz.strings_HasPrefix s ⟨#[47,47]⟩ W);have H2:=h_ (fun W=>jQ_ s W hm.o);have a:(ZV_ QZ_ s).size<=9223372036854775807:=by rw[ZD_];have:=K3_ QZ_ s.data.toList;rw[QF_]at this;omega
 have H6:=h_ (fun W=>U7_ (ZV_ QZ_ s) W a);have H7:=h_ (fun W=>JN_ (ZV_ QZ_ s) W a);clear hb hg hq hp;generalize ZV_ QZ_ s=t at H2 a H6 H7 |-
 go_enter func117,ntmps117;go_wp2_with (first|(go_at_call 149;refine(H1.o _).mono ?_;rintro e w1 ⟨rfl,rfl⟩)|(go_at_call 152;refine(H3.o _).mono ?_;rintro e w1 ⟨rfl,rfl⟩)|(go_at_call 154;refine(H5.o _).mono ?_;rintro e w1 ⟨rfl,rfl⟩)|(go_at_call 150;refine(H2.o _).mono ?_;rintro e w1 ⟨rfl,rfl⟩)|(go_at_call 156;refine(H6.o _).mono ?_;rintro e w1 ⟨rfl,rfl⟩)|(go_at_call 157;refine(H7.o _).mono ?_;rintro e w1 ⟨rfl,rfl⟩))
 refine bodyPost_ret (by simp[results,Tryz.results117,go_sem,];try rfl) rfl ?_;exact⟨rfl,rfl⟩
theorem Qdz_ {s:BA} (h:2<=s.size) (hm:ZI_ (s.extract 0 2)=true):XO_ s=2:=by unfold XO_;rw[ip_ ⟨h,hm⟩]
theorem Qdy_ {s:BA} (h:2<=s.size->ZI_ (s.extract 0 2)=false) (hm:ZI_ (s.extract 0 1)=true):XO_ s=1:=by
 unfold XO_;rw[in_ (by rintro⟨h1,h2⟩;rw[h h1]at h2;cases h2),ip_ hm]
theorem Qbr_ {s:BA} (h:2<=s.size->ZI_ (s.extract 0 2)=false) (hm:ZI_ (s.extract 0 1)=false):XO_ s=0:=by
 unfold XO_;rw[in_ (by rintro⟨h1,h2⟩;rw[h h1]at h2;cases h2),in_ (by rw[hm];decide)]
def Qbs_ (s:BA):Value:=if XO_ s=0 then U_ #[I_ j_ 0,T_ ⟨#[]⟩,I_ j_ 0,B_ false]else U_ #[I_ j_ 4,T_ (s.extract 0 (XO_ s)),I_ j_ (XO_ s),B_ true]
theorem Gx_ {s:BA} {k:Nat} (h:XO_ s=k) (hk:0 < k):Qbs_ s=U_ #[I_ j_ 4,T_ (s.extract 0 k),I_ j_ k,B_ true]:=by unfold Qbs_;rw[h,in_ oo]
theorem Gw_ {s:BA} (h:XO_ s=0):Qbs_ s=U_ #[I_ j_ 0,T_ ⟨#[]⟩,I_ j_ 0,B_ false]:=by unfold Qbs_;rw[ip_ h]
theorem WC_ (s:BA) (w:World) (h0:0 < s.size) (hs:s.size<=maxLen) (o:QN_ s[0]=false) (hg:Kz_ s[0]=false) (hq:¬s[0]=39) (hp:Lib.hasPrefix s.data.toList [47,47]=false):
  Calls prog 117 #[T_ s] w (RB_ (Qbs_ s) w):=by
 have hm:=h_ hs;unfold maxLen at hs;have j:=h_ (fun(W:World)=>show Calls prog 149 #[I_ .u8 (s[0].toNat:Int)] W fun e w'=>e=R_ (B_ false)/\W=w' by rw[<-o];exact Zm_ _ W);have l:=h_ (fun(W:World)=>show Calls prog 152 #[I_ .u8 (s[0].toNat:Int)] W fun e w'=>e=R_ (B_ false)/\W=w' by rw[<-hg];exact K7_ _ W);have y:((s[0].toNat:Int)==39)=false:=by
  rw[bn_];intro e;apply hq;apply UInt8.toNat_inj.1;show s[0].toNat=39;omega
 have m:=h_ (fun(W:World)=>show Calls prog 154 #[T_ s,T_ ⟨#[47,47]⟩] W fun e w'=>e=R_ (B_ false)/\w'=W by rw[<-hp];exact Tryz.strings_HasPrefix s ⟨#[47,47]⟩ W);have d:=h_ (fun(k:Nat) (t:k<=2) (b:Bool) (o:ZI_ (s.extract 0 k)=b) (W:World)=>show Calls prog 158 #[T_ (s.extract 0 k)] W fun e w'=>e=R_ (B_ b)/\W=w' by rw[<-o];exact kE_ _ W so_);clear o hg hq hp;go_enter func117,ntmps117;go_wp2_with (first|(go_at_call 149;refine(j.o _).mono ?_;rintro e w1 ⟨rfl,rfl⟩)|(go_at_call 152;refine(l.o _).mono ?_;rintro e w1 ⟨rfl,rfl⟩)|(go_at_call 154;refine(m.o _).mono ?_;rintro e w1 ⟨rfl,rfl⟩))
 go_loop [12] (fun i=>∃k:Nat,k<=2/\k<=s.size/\Hid (k < 2->2<=s.size->ZI_ (s.extract 0 2)=false)/\Hid (k < 1->ZI_ (s.extract 0 1)=false)/\i=I_ j_ k) (fun i=>(intOf i).toNat)
 case atStart=>
  by_cases n:2<=s.size
  ·refine⟨2,oo,n,(show _->_->_=_ from fun h=>absurd h oo),(show _->_=_ from fun h=>absurd h oo),?_⟩
   go_num
  ·refine⟨1,oo,oo,(show _->_->_=_ from fun _ h=>absurd h n),(show _->_=_ from fun h=>absurd h oo),?_⟩
   go_num
 case round=>
  obtain⟨k,t,x,f,q,rfl⟩:=hrel;by_cases v:0 < k
  ·cases a:ZI_ (s.extract 0 k)with
   |true=>
    have p:=h_ (d.o k t _ a);have g:XO_ s=k:=by
     by_cases c:k=2
     ·subst c;exact Qdz_ x a
     ·obtain rfl:k=1:=oo;exact Qdy_ (f.o oo) a
    have r:=h_ (Gx_ g v);clear d a g f q j l m;go_wp2_with (first|(go_at_call 158;refine(p.o _).mono ?_;rintro e w1 ⟨rfl,rfl⟩))
    go_quiet (fail);go_wp2;refine bodyPost_ret (by simp[results,Tryz.results117,go_sem,];try rfl) rfl ?_;exact⟨by rw[r.o],grow_⟩
   |false=>
    have p:=h_ (d.o k t _ a);have HM:=h_ a;clear d a j l m;go_wp2_with (first|(go_at_call 158;refine(p.o _).mono ?_;rintro e w1 ⟨rfl,rfl⟩))
    go_round
    case rel=>
     refine⟨k - 1,oo,oo,?_,?_,by go_num⟩
     ·show _->_->_=_;intro h1 n;by_cases c:k=2
      ·subst c;exact HM.o
      ·exact f.o oo n
     ·show _->_=_;intro h1;obtain rfl:k=1:=oo;exact HM.o
    case measure=>exact ms_
  ·obtain rfl:k=0:=oo;have r:=h_ (Gw_ (Qbr_ (f.o oo) (q.o oo)));clear d f q j l m;go_wp2;refine bodyPost_ret (by simp[results,Tryz.results117,go_sem,];try rfl) rfl ?_;exact⟨by rw[r.o],grow_⟩
def isR (ok:Bool) (k kind:Int) (t s:BA) (z:Int):Bool:=ok&&(k==kind)&&(t.toList==s.toList)&&(z==(s.size:Int))
theorem Qdc_ (s:BA) (kind k z:Int) (t:BA) (ok:Bool) (w:World) (h0:0 < s.size)
  (H:Hid (∀W,Calls prog 117 #[T_ s] W fun e w'=>e=R_ (U_ #[I_ j_ k,T_ t,I_ j_ z,B_ ok])/\Below W.heap.size W w')):
  Calls prog 210 #[T_ s,I_ j_ kind] w (RB_ (B_ (isR ok k kind t s z)) w):=by
 have c:(s.toList==[])=false:=Gb_ (show s.size≠0 from oo)
 cases ok with
 |false=>
  have a:isR false k kind t s z=false:=rfl;rw[a];go_enter func210,ntmps210;go_wp2_with (go_at_call 117;refine(H.o _).mono ?_;rintro e w1 ⟨rfl,b⟩)
  go_ret;exact⟨rfl,grow_⟩
 |true=>
  cases h1:(k==kind)with
  |false=>
   have a:isR true k kind t s z=false:=(by unfold isR;rw[h1];rfl);rw[a];go_enter func210,ntmps210;go_wp2_with (go_at_call 117;refine(H.o _).mono ?_;rintro e w1 ⟨rfl,b⟩)
   go_ret;exact⟨rfl,grow_⟩
  |true=>
   cases h3:(t.toList==s.toList)with
   |false=>
    have a:isR true k kind t s z=false:=(by unfold isR;rw[h1,h3];rfl);rw[a];go_enter func210,ntmps210;go_wp2_with (go_at_call 117;refine(H.o _).mono ?_;rintro e w1 ⟨rfl,b⟩)
    go_ret;exact⟨rfl,grow_⟩
   |true=>
    have a:isR true k kind t s z=(z==(s.size:Int)):=(by unfold isR;rw[h1,h3];rfl);rw[a];go_enter func210,ntmps210;go_wp2_with (go_at_call 117;refine(H.o _).mono ?_;rintro e w1 ⟨rfl,b⟩)
    go_ret;exact⟨rfl,grow_⟩
theorem kN_ (s:BA) (kind:Int) (w:World) (h0:s.size=0):
  Calls prog 210 #[T_ s,I_ j_ kind] w (RB_ (B_ false) w):=by
 have a:(s.toList==[])=true:=by
  rw[beq_iff_eq,ByteArray.toList_eq];exact ln_ (by rw[QF_];exact h0)
 go_enter func210,ntmps210;go_wp2;go_ret;exact⟨rfl,grow_⟩
def VJ_:List UInt8->Nat
 |[]=>0
 |c::l=>if c=39 then 1 else if QM_ c=true then (if VJ_ l=0 then 0 else VJ_ l+1)else 0
def Ur_ (l:List UInt8):Nat:=if VJ_ (l.drop 1)=0 then 0 else VJ_ (l.drop 1)+1
def KD_ (l:List UInt8):Nat:=if Lib.hasPrefix l [47,47]=true/\(l.take (Zb_ QZ_ l)).all QM_=true then Zb_ QZ_ l else 0
def JH_ (s:BA):Bool:=match s.data.toList with|c::_=>QN_ c|[]=>false
def Up_ (s:BA):Bool:=decide (s.size<=30)&&JH_ s&&Ge_ Qp_ s
def Ys_ (s:BA):Bool:=Up_ s&&!X5_ s
def v9_ (s:BA):Bool:=decide (0 < s.size/\s.size<=12)&&Ge_ Kz_ s
def quoB (s:BA):Bool:=decide (1 < s.size)&&(match s.data.toList with|c::_=>decide (c=39)|[]=>false)&&decide (Ur_ s.data.toList=s.size)
def JX_ (s:BA):Bool:=decide (1 < s.size)&&decide (KD_ s.data.toList=s.size)&&decide (VX_ s=s)
theorem Qgz_ (t s:BA):(t.toList==s.toList)=decide (t=s):=by
 by_cases h:t=s
 ·subst h;rw[dt_ rfl];exact beq_self_eq_true _
 ·rw[QiF_ h,df_ h]
theorem JF_ {s:BA} {n:Nat} (hn:n<=s.size):s.extract 0 n=s↔n=s.size:=by
 constructor
 ·intro h;have:=congrArg ByteArray.size h;simp at this;omega
 ·intro h;subst h;simp
theorem ZY_ {s:BA} (h:0 < s.size):∃l,s.data.toList=s[0]::l:=by
 have hl:s.data.toList.length=s.size:=QF_ s
 match hd:s.data.toList with
 |[]=>rw[hd]at hl;simp at hl;omega
 |c::l=>
  refine⟨l,?_⟩;have:s[0]=s.data.toList[0]'oo:=rfl;rw[this];simp only[hd,List.getElem_cons_zero]
theorem qj_ {c:UInt8} (h:Kz_ c=true):QN_ c=false:=by
 unfold Kz_ at h;unfold QN_;have:=od_ h;exact df_ oo
theorem qm_ {c:UInt8} (h:QN_ c=true):Kz_ c=false:=by
 cases hf:Kz_ c with
 |false=>rfl
 |true=>rw[qj_ hf]at h;cases h
theorem G3_ {c:UInt8} (h:QM_ c=true):QZ_ c=true:=by
 unfold QM_ at h;have:=od_ h;unfold QZ_;rw[bne_iff_ne];intro e;subst e;revert this;decide
theorem Vt_ (p:UInt8->Bool) (s:BA):ZV_ p s=s↔Ge_ p s=true:=by
 unfold ZV_;have h:=K3_ p s.data.toList;rw[QF_]at h;rw[JF_ h];exact WA_ p s
theorem jL_ (l:List UInt8):VJ_ l=if Lib.indexByte l 39 < 0 then 0 else if (l.take (Lib.indexByte l 39).toNat).all QM_=true then (Lib.indexByte l 39).toNat+1 else 0:=by
 induction l with
 |nil=>rfl
 |cons c l ih=>
  have d:=Lib.indexByte_ge l 39;unfold VJ_ Lib.indexByte;by_cases h:c=39
  ·subst h;simp
  ·have hb:(c==39)=false:=(by rw[bn_];exact h);rw[in_ h,hb];simp only[Bool.false_eq_true,if_false];by_cases h1:Lib.indexByte l 39= -1
   ·have b:(Lib.indexByte l 39== -1)=true:=(by rw[h1];rfl);rw[ip_ b,ih,h1];simp
   ·have b:(Lib.indexByte l 39== -1)=false:=(by rw[bn_];exact h1);rw[b];simp only[Bool.false_eq_true,if_false];rw[ih];obtain⟨o,ho⟩:=eo_ (show 0<=Lib.indexByte l 39 from oo);rw[ho];have e2:¬((o:Int) < 0):=oo;have e3:¬((o:Int)+1 < 0):=oo;have e4:((o:Int)+1).toNat=o+1:=oo;rw[in_ e2,in_ e3,e4,List.take_succ_cons,List.all_cons,it_]
    cases hp:QM_ c with
    |true=>
     simp only[if_true,Bool.true_and];by_cases a:(l.take o).all QM_=true
     ·rw[ip_ a,in_ oo,ip_ a]
     ·rw[in_ a,ip_ rfl,in_ a]
    |false=>
     simp
section
variable {s:BA}
theorem JV_ (h0:0 < s.size) (h:QN_ s[0]=false):Up_ s=false:=by
 obtain⟨l,hl⟩:=ZY_ h0;have:JH_ s=false:=by unfold JH_;rw[hl];exact h
 unfold Up_;rw[this,Bool.and_false,Bool.false_and]
theorem qJ_ (h0:0 < s.size) (h:Kz_ s[0]=false):v9_ s=false:=by
 unfold v9_;rw[JB_ h0 h,Bool.and_false]
theorem Ww_ (h0:0 < s.size) (h:¬s[0]=39):quoB s=false:=by
 obtain⟨l,hl⟩:=ZY_ h0;unfold quoB;simp only[hl];rw[df_ h,Bool.and_false,Bool.false_and]
theorem UJ_ (h:Lib.hasPrefix s.data.toList [47,47]=false):JX_ s=false:=by
 have:KD_ s.data.toList=0:=by unfold KD_;rw[h];simp
 unfold JX_;rw[this];by_cases h1:1 < s.size
 ·rw[df_ (show ¬0=s.size from oo),Bool.and_false,Bool.false_and]
 ·rw[df_ h1,Bool.false_and,Bool.false_and]
theorem Qab_ (h0:0 < s.size) (h:Lib.hasPrefix s.data.toList [47,47]=true):s[0]=47:=by
 obtain⟨l,hl⟩:=ZY_ h0;rw[hl]at h;unfold Lib.hasPrefix at h;simp only[List.isPrefixOf,Bool.and_eq_true,beq_iff_eq]at h;exact h.1.symm
theorem QdU_ (h0:0 < s.size) (h:¬s[0]=47):Lib.hasPrefix s.data.toList [47,47]=false:=by
 cases hp:Lib.hasPrefix s.data.toList [47,47]with
 |false=>rfl
 |true=>exact absurd (Qab_ h0 hp) h
theorem Zn_ (ok:Bool) {k kind:Int} (t s:BA) (z:Int) (h:k≠kind):isR ok k kind t s z=false:=by
 have:(k==kind)=false:=by rw[bn_];exact h
 unfold isR;rw[this,Bool.and_false,Bool.false_and,Bool.false_and]
theorem UF_ (ok:Bool) (k:Int) (t s:BA) (z:Nat):isR ok k k t s z=(ok&&decide (t=s)&&decide (z=s.size)):=by
 have e1:(k==k)=true:=by rw[beq_iff_eq]
 have e2:((z:Int)==(s.size:Int))=decide (z=s.size):=by
  by_cases h:z=s.size
  ·rw[dt_ h,h];exact beq_self_eq_true _
  ·rw[df_ h,bn_];omega
 unfold isR;rw[e1,Qgz_,e2,Bool.and_true]
theorem Qho_ (h0:0 < s.size) (hb:QN_ s[0]=true):
  isR (decide (((ZV_ Qp_ s).size:Int)<=30)) 1 1 (ZV_ Qp_ s) s (ZV_ Qp_ s).size=Up_ s:=by
 obtain⟨l,hl⟩:=ZY_ h0;have hf:JH_ s=true:=by unfold JH_;rw[hl];exact hb
 rw[UF_];unfold Up_;rw[hf,Bool.and_true];by_cases h:ZV_ Qp_ s=s
 ·rw[h,dt_ rfl,dt_ rfl,(Vt_ Qp_ s).1 h,Bool.and_true,Bool.and_true,Bool.and_true];by_cases h2:s.size<=30
  ·rw[dt_ h2,dt_ oo]
  ·rw[df_ h2,df_ oo]
 ·have:Ge_ Qp_ s=false:=by
   cases hc:Ge_ Qp_ s with
   |false=>rfl
   |true=>exact absurd ((Vt_ Qp_ s).2 hc) h
  rw[df_ h,this,Bool.and_false,Bool.and_false,Bool.false_and]
theorem Qit_ (h0:0 < s.size):
  isR (decide (((ZV_ Kz_ s).size:Int)<=12)) 2 2 (ZV_ Kz_ s) s (ZV_ Kz_ s).size=v9_ s:=by
 rw[UF_];unfold v9_;by_cases h:ZV_ Kz_ s=s
 ·rw[h,dt_ rfl,dt_ rfl,(Vt_ Kz_ s).1 h,Bool.and_true,Bool.and_true,Bool.and_true];by_cases h2:s.size<=12
  ·rw[dt_ (⟨h0,h2⟩:0 < s.size/\s.size<=12),dt_ oo]
  ·rw[df_ (show ¬(0 < s.size/\s.size<=12)from oo),df_ oo]
 ·have:Ge_ Kz_ s=false:=by
   cases hc:Ge_ Kz_ s with
   |false=>rfl
   |true=>exact absurd ((Vt_ Kz_ s).2 hc) h
  rw[df_ h,this,Bool.and_false,Bool.and_false,Bool.false_and]
theorem Qhv_ (h0:0 < s.size) (hp:Lib.hasPrefix s.data.toList [47,47]=true):
  isR (Ge_ QM_ (ZV_ QZ_ s)) 5 5 (VX_ (ZV_ QZ_ s)) s (ZV_ QZ_ s).size=JX_ s:=by
 have d:2<=s.size:=by have:=(List.isPrefixOf_iff_prefix.1 (show List.isPrefixOf [47,47] s.data.toList=true from hp)).length_le;rw[QF_]at this;exact this
 rw[UF_];unfold JX_;rw[dt_ (show 1 < s.size from oo),Bool.true_and];have hn:=K3_ QZ_ s.data.toList;rw[QF_]at hn;have c:=ZD_ QZ_ s;have a:Ge_ QM_ (ZV_ QZ_ s)=(s.data.toList.take (Zb_ QZ_ s.data.toList)).all QM_:=by
  unfold Ge_ ZV_;rw[show(s.extract 0 (Zb_ QZ_ s.data.toList)).data.toList=s.data.toList.take (Zb_ QZ_ s.data.toList)by rw[ByteArray.data_extract];simp]
 by_cases b:Zb_ QZ_ s.data.toList=s.size
 ·have ht:ZV_ QZ_ s=s:=by rw[Vt_];exact(WA_ QZ_ s).1 b
  rw[ht];rw[ht]at a;rw[a];unfold KD_;rw[hp,b]
  cases hq:(s.data.toList.take s.size).all QM_ with
  |true=>simp
  |false=>
   simp;intro _;omega
 ·rw[df_ (show ¬(ZV_ QZ_ s).size=s.size by rw[c];exact b),Bool.and_false];have:KD_ s.data.toList≠s.size:=by
   unfold KD_;split
   ·exact b
   ·omega
  rw[df_ this,Bool.false_and]
theorem Qix_ (h0:0 < s.size) (hq:s[0]=39):isR (qP_ s).2 3 3 (qP_ s).1 s (qP_ s).1.size=quoB s:=by
 obtain⟨l,hl⟩:=ZY_ h0;rw[hq]at hl;have i:l.length+1=s.size:=by have:=QF_ s;rw[hl]at this;simpa using this
 have d:(s.extract 1 s.size).data.toList=l:=by
  rw[ByteArray.data_extract];simp only[Array.toList_extract,List.extract_eq_take_drop,hl,List.drop_succ_cons,List.drop_zero];exact List.take_of_length_le oo
 rw[UF_];unfold quoB qP_;rw[d,hl];simp only[decide_true,Bool.and_true];have e:Ur_ (39::l)=if VJ_ l=0 then 0 else VJ_ l+1:=rfl
 rw[e,jL_];by_cases hi:Lib.indexByte l 39 < 0
 ·rw[ip_ hi,ip_ hi];simp only[if_true,Bool.false_and];by_cases h1:1 < s.size
  ·rw[dt_ h1,df_ oo,Bool.and_false]
  ·rw[df_ h1,Bool.false_and]
 ·rw[in_ hi,in_ hi];obtain⟨o,ho⟩:=eo_ (show 0<=Lib.indexByte l 39 from oo);have a:=Lib.indexByte_some ho;have h:o < l.length:=(gs_.1 a.1).1;rw[ho,it_,show((o:Int)+2).toNat=o+2 from oo];have f:o+2<=s.size:=oo;have c:(s.extract 0 (o+2)).size=o+2:=by simp;omega
  rw[dt_ (show 1 < s.size from oo),Bool.true_and];have b:Ge_ QM_ (s.extract 0 (o+2))=(l.take o).all QM_:=by
   unfold Ge_;rw[show(s.extract 0 (o+2)).data.toList=s.data.toList.take (o+2)by rw[ByteArray.data_extract];simp,hl,List.take_succ_cons,List.all_cons];rw[show QM_ 39=true from rfl,Bool.true_and];rw[List.take_add_one,a.1,List.all_append];simp[show QM_ 39=true from rfl]
  rw[b,c]
  cases hc:(l.take o).all QM_ with
  |false=>
   simp only[Bool.false_and,Bool.false_eq_true,if_false,if_true];rw[df_ oo]
  |true=>
   simp only[if_true,Bool.true_and];rw[in_ oo];by_cases g:o+2=s.size
   ·rw[dt_ ((JF_ f).2 g),dt_ g]
    rfl
   ·rw[df_ g,Bool.and_false]
end
def J4_ (s:BA) (kind:Int):Bool:=if kind=1 then Up_ s else if kind=2 then v9_ s else if kind=3 then quoB s else JX_ s
theorem jW_ {s:BA} (h:s.size=0) (kind:Int):J4_ s kind=false:=by
 have hl:s.data.toList=[]:=ln_ (by rw[QF_];exact h);unfold J4_;split
 ·unfold Up_ JH_;rw[hl];simp
 ·split
  ·unfold v9_;rw[df_ oo,Bool.false_and]
  ·split
   ·unfold quoB;rw[df_ oo,Bool.false_and,Bool.false_and]
   ·unfold JX_;rw[df_ oo,Bool.false_and,Bool.false_and]
theorem V2_ (s:BA) (kind:Int) (w:World) (hs:s.size<=maxLen) (i:kind=1\/kind=2\/kind=3\/kind=5):
  Calls prog 210 #[T_ s,I_ j_ kind] w (RB_ (B_ (J4_ s kind)) w):=by
 by_cases a:0 < s.size
 ·have f:∀(k z:Int) (t:BA) (ok:Bool),isR ok k kind t s z=J4_ s kind->(∀W,Calls prog 117 #[T_ s] W fun e w'=>e=R_ (U_ #[I_ j_ k,T_ t,I_ j_ z,B_ ok])/\Below W.heap.size W w')->Calls prog 210 #[T_ s,I_ j_ kind] w (RB_ (B_ (J4_ s kind)) w):=by
   intro k z t ok he H;rw[<-he];exact Qdc_ s kind k z t ok w a (h_ H)
  have b:∀{v:Value} (W:World),(Calls prog 117 #[T_ s] W fun e w'=>e=R_ v/\W=w')->Calls prog 117 #[T_ s] W (RB_ v W):=fun W h=>h.mono fun e w' ⟨h1,h2⟩=>⟨h1,by subst h2;exact br⟩
  cases c:QN_ s[0]with
  |true=>
   refine f 1 _ _ _ ?_ (fun W=>b W (WD_ s W a hs c));have d:=qm_ c;rcases i with rfl|rfl|rfl|rfl
   ·exact Qho_ a c
   ·rw[Zn_ _ _ _ _ dc_];exact(qJ_ a d).symm
   ·rw[Zn_ _ _ _ _ dc_];exact(Ww_ a (by intro e;rw[e]at c;revert c;decide)).symm
   ·rw[Zn_ _ _ _ _ dc_];exact(UJ_ (QdU_ a (by intro e;rw[e]at c;revert c;decide))).symm
  |false=>
   cases d:Kz_ s[0]with
   |true=>
    refine f 2 _ _ _ ?_ (fun W=>b W (zS_ s W a hs c d));rcases i with rfl|rfl|rfl|rfl
    ·rw[Zn_ _ _ _ _ dc_];exact(JV_ a c).symm
    ·exact Qit_ a
    ·rw[Zn_ _ _ _ _ dc_];exact(Ww_ a (by intro e;rw[e]at d;revert d;decide)).symm
    ·rw[Zn_ _ _ _ _ dc_];exact(UJ_ (QdU_ a (by intro e;rw[e]at d;revert d;decide))).symm
   |false=>
    by_cases g:s[0]=39
    ·refine f 3 _ _ _ ?_ (fun W=>b W (zT_ s W a hs c d g));rcases i with rfl|rfl|rfl|rfl
     ·rw[Zn_ _ _ _ _ dc_];exact(JV_ a c).symm
     ·rw[Zn_ _ _ _ _ dc_];exact(qJ_ a d).symm
     ·exact Qix_ a g
     ·rw[Zn_ _ _ _ _ dc_];exact(UJ_ (QdU_ a (by rw[g];decide))).symm
    ·cases m:Lib.hasPrefix s.data.toList [47,47]with
     |true=>
      refine f 5 _ _ _ ?_ (fun W=>b W (WE_ s W a hs c d g m));rcases i with rfl|rfl|rfl|rfl
      ·rw[Zn_ _ _ _ _ dc_];exact(JV_ a c).symm
      ·rw[Zn_ _ _ _ _ dc_];exact(qJ_ a d).symm
      ·rw[Zn_ _ _ _ _ dc_];exact(Ww_ a g).symm
      ·exact Qhv_ a m
     |false=>
      have j:J4_ s kind=false:=by
       rcases i with rfl|rfl|rfl|rfl
       ·exact JV_ a c
       ·exact qJ_ a d
       ·exact Ww_ a g
       ·exact UJ_ m
      have l:∀W,Calls prog 117 #[T_ s] W (RB_ (Qbs_ s) W):=fun W=>WC_ s W a hs c d g m
      by_cases hz:XO_ s=0
      ·rw[Gw_ hz]at l;exact f 0 0 ⟨#[]⟩ false (by rw[j];rfl) l
      ·rw[Gx_ rfl (Nat.pos_of_ne_zero hz)]at l;exact f 4 _ _ true (by rw[j];exact Zn_ _ _ _ _ (by rcases i with rfl|rfl|rfl|rfl<;>decide)) l
 ·rw[jW_ oo];exact kN_ s kind w oo
theorem W4_ (s:BA) (w:World) (hs:s.size<=maxLen):Calls prog 209 #[T_ s] w (RB_ (B_ (Ys_ s)) w):=by
 have d:=h_ (fun(b:Bool) (a:Up_ s=b) (W:World)=>show Calls prog 210 #[T_ s,I_ j_ 1] W fun e w'=>e=R_ (B_ b)/\Below W.heap.size W w' by rw[<-a];exact V2_ s 1 W hs (.inl rfl))
 cases a:Up_ s with
 |false=>
  have f:=h_ (d.o _ a);have c:Ys_ s=false:=by unfold Ys_;rw[a];rfl
  rw[c];clear d a c;go_enter func209,ntmps209;go_wp2_with (go_at_call 210;refine(f.o _).mono ?_;rintro e w1 ⟨rfl,h2⟩)
  go_ret;exact⟨rfl,grow_⟩
 |true=>
  have f:=h_ (d.o _ a);have c:Ys_ s=!X5_ s:=by unfold Ys_;rw[a];rfl
  rw[c];have H3:=h_ (fun W=>U1_ s W);clear d a c;generalize X5_ s=u at H3 |-
  go_enter func209,ntmps209;go_wp2_with (first|(go_at_call 210;refine(f.o _).mono ?_;rintro e w1 ⟨rfl,h2⟩)|(go_at_call 238;refine(H3.o _).mono ?_;rintro e w1 ⟨rfl,rfl⟩))
  go_ret;exact⟨rfl,grow_⟩
def Zi_ (kind:Int) (s:BA):Bool:=
 if kind=1\/kind=6\/kind=12\/kind=13\/kind=20\/kind=21 then Ys_ s
 else if kind=2 then v9_ s else if kind=3 then quoB s else if kind=19 then JX_ s else if kind=7 then Q1_ s else decide (s.size=0)
theorem z2_ {kind:Int} (h:kind=1\/kind=6\/kind=12\/kind=13\/kind=20\/kind=21) (s:BA):Zi_ kind s=Ys_ s:=by unfold Zi_;rw[ip_ h]
theorem VQ_ {kind:Int} {j:Int} (h:(kind=2/\j=2)\/(kind=3/\j=3)\/(kind=19/\j=5)) (s:BA):Zi_ kind s=J4_ s j:=by
 rcases h with⟨rfl,rfl⟩|⟨rfl,rfl⟩|⟨rfl,rfl⟩<;>rfl
theorem vf_ (s:BA):Zi_ 7 s=Q1_ s:=rfl
theorem z3_ {kind:Int} (h:kind≠1/\kind≠6/\kind≠12/\kind≠13/\kind≠20/\kind≠21/\kind≠2/\kind≠3/\kind≠19/\kind≠7) (s:BA):Zi_ kind s=decide (s.size=0):=by
 unfold Zi_;rw[in_ oo,in_ oo,in_ oo,in_ oo,in_ oo]
theorem J6_ (s:BA):(s.toList==[])=decide (s.size=0):=by
 by_cases h:s.size=0
 ·rw[dt_ h,beq_iff_eq,ByteArray.toList_eq];exact ln_ (by rw[QF_];exact h)
 ·rw[df_ h];exact Gb_ h
theorem q4_ (kind:Int) (s:BA) (A:OA) (n c:Nat) (z:Bool) (w:World) (hs:s.size<=maxLen) (hk:kind=1\/kind=6\/kind=12\/kind=13\/kind=20\/kind=21):
  Calls prog 169 #[A_ #[I_ j_ kind,T_ s,S_ A n c,B_ z]] w (RB_ (B_ (Zi_ kind s)) w):=by
 rw[z2_ hk];have H:=h_ (fun W=>W4_ s W hs);generalize Ys_ s=u at H |-
 rcases hk with rfl|rfl|rfl|rfl|rfl|rfl
 all_goals
  go_enter func169,ntmps169;go_wp2_with (go_at_call 209;refine(H.o _).mono ?_;rintro e w1 ⟨rfl,h2⟩)
  go_ret;exact⟨rfl,Ql_ h2⟩
theorem YT_ (kind:Int) (s:BA) (A:OA) (n c:Nat) (z:Bool) (w:World) (hs:s.size<=maxLen) (j:Int) (hk:(kind=2/\j=2)\/(kind=3/\j=3)\/(kind=19/\j=5)):
  Calls prog 169 #[A_ #[I_ j_ kind,T_ s,S_ A n c,B_ z]] w (RB_ (B_ (Zi_ kind s)) w):=by
 rw[VQ_ hk];have H:=h_ (fun W=>V2_ s j W hs oo);generalize J4_ s j=u at H |-
 rcases hk with⟨rfl,rfl⟩|⟨rfl,rfl⟩|⟨rfl,rfl⟩
 all_goals
  go_enter func169,ntmps169;go_wp2_with (go_at_call 210;refine(H.o _).mono ?_;rintro e w1 ⟨rfl,h2⟩)
  go_ret;exact⟨rfl,Ql_ h2⟩
theorem zh_ (s:BA) (A:OA) (n c:Nat) (z:Bool) (w:World):
  Calls prog 169 #[A_ #[I_ j_ 7,T_ s,S_ A n c,B_ z]] w (RB_ (B_ (Zi_ 7 s)) w):=by
 rw[vf_]
 cases h0:(s.toList==[38,38])with
 |true=>
  have a:Q1_ s=true:=by unfold Q1_;simp only[h0,Bool.or_true,Bool.true_or]
  rw[a];clear a;go_enter func169,ntmps169;go_wp2;go_ret;exact⟨rfl,grow_⟩
 |false=>
 cases h1:(s.toList==[124,124])with
 |true=>
  have a:Q1_ s=true:=by unfold Q1_;simp only[h1,Bool.or_true,Bool.true_or]
  rw[a];clear a;go_enter func169,ntmps169;go_wp2;go_ret;exact⟨rfl,grow_⟩
 |false=>
 cases h2:(s.toList==[61,61])with
 |true=>
  have a:Q1_ s=true:=by unfold Q1_;simp only[h2,Bool.or_true,Bool.true_or]
  rw[a];clear a;go_enter func169,ntmps169;go_wp2;go_ret;exact⟨rfl,grow_⟩
 |false=>
 cases h3:(s.toList==[60])with
 |true=>
  have a:Q1_ s=true:=by unfold Q1_;simp only[h3,Bool.or_true,Bool.true_or]
  rw[a];clear a;go_enter func169,ntmps169;go_wp2;go_ret;exact⟨rfl,grow_⟩
 |false=>
 cases h4:(s.toList==[43])with
 |true=>
  have a:Q1_ s=true:=by unfold Q1_;simp only[h4,Bool.or_true,Bool.true_or]
  rw[a];clear a;go_enter func169,ntmps169;go_wp2;go_ret;exact⟨rfl,grow_⟩
 |false=>
 cases h5:(s.toList==[45])with
 |true=>
  have a:Q1_ s=true:=by unfold Q1_;simp only[h5,Bool.or_true,Bool.true_or]
  rw[a];clear a;go_enter func169,ntmps169;go_wp2;go_ret;exact⟨rfl,grow_⟩
 |false=>
 cases h6:(s.toList==[42])with
 |true=>
  have a:Q1_ s=true:=by unfold Q1_;simp only[h6,Bool.or_true,Bool.true_or]
  rw[a];clear a;go_enter func169,ntmps169;go_wp2;go_ret;exact⟨rfl,grow_⟩
 |false=>
 have a:Q1_ s=false:=by unfold Q1_;simp only[h0,h1,h2,h3,h4,h5,h6,Bool.or_self]
 rw[a];clear a;go_enter func169,ntmps169;go_wp2;go_ret;exact⟨rfl,grow_⟩
theorem q5_ (kind:Int) (s:BA) (A:OA) (n c:Nat) (z:Bool) (w:World) (hs:s.size<=maxLen) (hk:kind≠1/\kind≠6/\kind≠12/\kind≠13/\kind≠20/\kind≠21/\kind≠2/\kind≠3/\kind≠19/\kind≠7):
  Calls prog 169 #[A_ #[I_ j_ kind,T_ s,S_ A n c,B_ z]] w (RB_ (B_ (Zi_ kind s)) w):=by
 rw[z3_ hk,<-J6_];have d1:(kind==1)=false:=by rw[bn_];omega
 have d6:(kind==6)=false:=by rw[bn_];omega
 have a:(kind==12)=false:=by rw[bn_];omega
 have b:(kind==13)=false:=by rw[bn_];omega
 have f:(kind==20)=false:=by rw[bn_];omega
 have g:(kind==21)=false:=by rw[bn_];omega
 have d2:(kind==2)=false:=by rw[bn_];omega
 have d3:(kind==3)=false:=by rw[bn_];omega
 have d:(kind==19)=false:=by rw[bn_];omega
 have d7:(kind==7)=false:=by rw[bn_];omega
 clear hk hs;go_enter func169,ntmps169;go_wp2;go_ret;refine⟨Qg_ ?_,grow_⟩
 first|rfl|exact List.isEmpty_eq_beq_nil|simp
theorem xN_ (kind:Int) (s:BA) (A:OA) (n c:Nat) (z:Bool) (w:World) (hs:s.size<=maxLen):
  Calls prog 169 #[A_ #[I_ j_ kind,T_ s,S_ A n c,B_ z]] w (RB_ (B_ (Zi_ kind s)) w):=by
 by_cases h1:kind=1\/kind=6\/kind=12\/kind=13\/kind=20\/kind=21
 ·exact q4_ kind s A n c z w hs h1
 ·by_cases h2:kind=2
  ·exact YT_ kind s A n c z w hs 2 (.inl ⟨h2,rfl⟩)
  ·by_cases h3:kind=3
   ·exact YT_ kind s A n c z w hs 3 (.inr (.inl ⟨h3,rfl⟩))
   ·by_cases h4:kind=19
    ·exact YT_ kind s A n c z w hs 5 (.inr (.inr ⟨h4,rfl⟩))
    ·by_cases h5:kind=7
     ·subst h5;exact zh_ s A n c z w
     ·exact q5_ kind s A n c z w hs oo
theorem KE_ {P:Program} {f:FuncId} {a:Array Value} {W:World} {v:Value} (h:Calls P f a W fun e w'=>e=R_ v/\W=w'):Calls P f a W (RB_ v W):=
 h.mono fun e w' ⟨h1,h2⟩=>⟨h1,by subst h2;exact br⟩
theorem Ko_ {a b c:Int} {v:Bool} (h:inB a b c=v) (w:World):Calls prog 34 #[I_ j_ a,I_ j_ b,I_ j_ c] w (RS_ (B_ v) w):=by rw[<-h];exact KH_ a b c w
theorem KL_ {s:BA} {n:Nat} (h:n < s.size):s.data.toList.drop n=s[n]::s.data.toList.drop (n+1):=by
 rw[List.drop_eq_getElem_cons (by rw[QF_];exact h)]
 rfl
def quoK (j r:Nat):Nat:=if r=0 then 0 else r+j
theorem QfQ_ {c:UInt8} {l:List UInt8} (h:c=39):VJ_ (c::l)=1:=by unfold VJ_;rw[ip_ h]
theorem QfP_ {c:UInt8} {l:List UInt8} (h:¬c=39) (hp:QM_ c=false):VJ_ (c::l)=0:=by unfold VJ_;rw[in_ h,hp];rfl
theorem QdZ_ {c:UInt8} {l:List UInt8} (j:Nat) (h:¬c=39) (hp:QM_ c=true):quoK j (VJ_ (c::l))=quoK (j+1) (VJ_ l):=by
 rw[show VJ_ (c::l)=if c=39 then 1 else if QM_ c=true then (if VJ_ l=0 then 0 else VJ_ l+1)else 0 from rfl,in_ h,ip_ hp];unfold quoK;by_cases a:VJ_ l=0
 ·rw[ip_ a,ip_ rfl,ip_ a]
 ·rw[in_ a,in_ oo,in_ a];omega
theorem QhE_ {l:List UInt8} {r:Nat} (h:VJ_ (l.drop 1)=r):Ur_ l=if r=0 then 0 else r+1:=by unfold Ur_;rw[h]
theorem Qhq_ {c:UInt8} (h:¬c=39):((c.toNat:Int)==39)=false:=by
 rw[bn_];intro e;apply h;apply UInt8.toNat_inj.1;show c.toNat=39;omega
theorem JQ_ (s:BA) (q:Nat) (w:World) (hq:q<=s.size) (hs:s.size<=4611686018427387904):
  Calls prog 89 #[T_ s,I_ j_ q] w fun e w'=>e=R_ (I_ j_ (Ur_ (s.data.toList.drop q):Nat))/\w=w':=by
 have hd:(s.data.toList.drop q).drop 1=s.data.toList.drop (q+1):=by rw[List.drop_drop]
 have d:=h_ (fun r (h:VJ_ (s.data.toList.drop (q+1))=r)=>QhE_ (show VJ_ ((s.data.toList.drop q).drop 1)=r by rw[hd];exact h));clear hd;generalize Ur_ (s.data.toList.drop q)=N at d |-
 go_enter func89,ntmps89;go_wp2
 go_loop [5] (fun i=>∃n:Nat,q+1<=n/\n<=s.size+1/\Hid (quoK (n - (q+1)) (VJ_ (s.data.toList.drop n))=VJ_ (s.data.toList.drop (q+1)))/\i=I_ j_ n) (fun i=>s.size+1 - (intOf i).toNat)
 case atStart=>exact⟨q+1,oo,oo,(show _=_ by rw[Nat.sub_self];unfold quoK;split<;>omega),by go_num⟩
 case round=>
  obtain⟨n,t,v,c,rfl⟩:=hrel;by_cases f:n < s.size
  ·by_cases a:s[n]=39
   ·have k:N=n+1 - q:=by
     have h1:=c.o;rw[KL_ f,QfQ_ a]at h1;have g:=d.o _ h1.symm;rw[show quoK (n - (q+1)) 1=1+(n - (q+1))by unfold quoK;rw[in_ dc_],in_ oo]at g;omega
    have p:((s[n].toNat:Int)==39)=true:=(by rw[a];rfl);have eN:((n:Int)+1) - q=(N:Nat):=oo;clear d c a k;go_wp2;go_ret;exact⟨Kx_ oo,rfl⟩
   ·have p:=Qhq_ a;have l:=h_ (fun(b:Bool) (hb:QM_ s[n]=b) (W:World)=>show Calls prog 106 #[I_ .u8 (s[n].toNat:Int)] W fun e w'=>e=R_ (B_ b)/\W=w' by rw[<-hb];exact J8_ _ W)
    cases j:QM_ s[n]with
    |true=>
     have m:=h_ (l.o _ j);have o:Hid (quoK (n+1 - (q+1)) (VJ_ (s.data.toList.drop (n+1)))=VJ_ (s.data.toList.drop (q+1))):=by
      show _=_;rw[<-c.o,KL_ f,QdZ_ _ a j,show n+1 - (q+1)=n - (q+1)+1 from oo]
     clear l j c d a;go_wp2_with (go_at_call 106;refine(m.o _).mono ?_;rintro e w1 ⟨rfl,rfl⟩)
     go_round
     case rel=>exact⟨n+1,oo,oo,o,by go_num⟩
     case measure=>exact ms_
    |false=>
     have m:=h_ (l.o _ j);have k:N=0:=by
      have h1:=c.o;rw[KL_ f,QfP_ a j]at h1;have g:=d.o _ h1.symm;unfold quoK at g;simpa using g
     subst k;clear l j c d a;go_wp2_with (go_at_call 106;refine(m.o _).mono ?_;rintro e w1 ⟨rfl,rfl⟩)
     go_ret;exact⟨rfl,rfl⟩
  ·have k:N=0:=by
    have h1:=c.o;rw[List.drop_of_length_le (by rw[QF_];omega)]at h1;have g:=d.o _ h1.symm;simpa[quoK,VJ_]using g
   subst k;clear d c;go_wp2;go_ret;exact⟨rfl,rfl⟩
theorem jR_ {p:UInt8->Bool}:∀{l:List UInt8} {k:Nat},(l.take k).all p=true->(∀(h:k < l.length),p l[k]=false)->k<=l.length->Zb_ p l=k:=by
 intro l
 induction l with
 |nil=>intro k h _ a;simp at a;subst a;rfl
 |cons c l ih=>
  intro k h hc a
  cases k with
  |zero=>
   have:=hc sm_;simp only[List.getElem_cons_zero]at this;unfold Zb_;rw[in_ (by rw[this];decide)]
  |succ k=>
   simp only[List.take_succ_cons,List.all_cons,Bool.and_eq_true]at h;unfold Zb_;rw[ip_ h.1,ih h.2 (fun hl=>by have:=hc (by simpa using hl);simpa using this) (by simpa using a)]
theorem Qcq_ {l:List UInt8} {p q:UInt8->Bool} (a:∀c,p c=true->q c=true) (h:l.all p=true):l.all q=true:=by
 rw[List.all_eq_true]at h |-
 exact fun x hx=>a x (h x hx)
theorem QbI_ {l:List UInt8} {k:Nat} (hp:Lib.hasPrefix l [47,47]=true) (h:(l.take k).all QM_=true) (hk:k<=l.length) (hc:∀(hl:k < l.length),l[k]=10):KD_ l=k:=by
 have hr:Zb_ QZ_ l=k:=jR_ (Qcq_ (fun c=>G3_) h) (fun hl=>by rw[hc hl];rfl) hk;unfold KD_;rw[hr,ip_ ⟨hp,h⟩]
theorem QhH_ {p:UInt8->Bool}:∀{l:List UInt8} {k:Nat},(l.take (k+1)).all p=true->k < l.length->k < Zb_ p l:=by
 intro l
 induction l with
 |nil=>intro k _ h;simp at h
 |cons c l ih=>
  intro k h hk;simp only[List.take_succ_cons,List.all_cons,Bool.and_eq_true]at h;unfold Zb_;rw[ip_ h.1]
  cases k with
  |zero=>omega
  |succ k=>have:=ih h.2 (by simpa using hk);omega
theorem QdM_ {l:List UInt8} {k:Nat} (h:(l.take k).all QM_=true) (hk:k < l.length) (hn:¬l[k]=10) (hb:QM_ l[k]=false):KD_ l=0:=by
 unfold KD_;rw[in_];rintro⟨_,h2⟩;have a:k < Zb_ QZ_ l:=by
  refine QhH_ ?_ hk;rw[List.take_succ_eq_append_getElem hk,List.all_append,Qcq_ (fun c=>G3_) h];simp only[List.all_cons,List.all_nil,Bool.and_true,Bool.true_and];unfold QZ_;rw[bne_iff_ne];exact hn
 rw[List.all_eq_true]at h2;have:=h2 l[k] (by rw[List.mem_take_iff_getElem];exact⟨k,oo,rfl⟩);rw[hb]at this;cases this
theorem VG_ {l:List UInt8} (hp:Lib.hasPrefix l [47,47]=false):KD_ l=0:=by unfold KD_;rw[hp];simp
theorem jK_ {s:BA} {q:Nat} (hq:q+2<=s.size):((s.extract q (q+2)).toList==[47,47])=Lib.hasPrefix (s.data.toList.drop q) [47,47]:=by
 have e:(s.extract q (q+2)).toList=[s[q],s[q+1]]:=by
  rw[ByteArray.toList_eq,ByteArray.data_extract];simp only[Array.toList_extract,List.extract_eq_take_drop,show q+2 - q=2 from oo];rw[KL_ oo,KL_ oo]
  rfl
 rw[e,KL_ oo,KL_ (show q+1 < s.size from oo)];unfold Lib.hasPrefix;simp only[List.isPrefixOf,Bool.and_true];by_cases h1:s[q]=47
 ·by_cases c:s[q+1]=47
  ·rw[h1,c];rfl
  ·rw[h1];have a:([(47:UInt8),s[q+1]]==[47,47])=false:=(by rw[bn_];intro e;injection e with _ e;injection e with e _;exact c e);have b:((47:UInt8)==s[q+1])=false:=(by rw[bn_];exact fun e=>c e.symm);rw[a,b,Bool.and_false]
 ·have a:([s[q],s[q+1]]==[47,47])=false:=by rw[bn_];intro e;injection e with e _;exact h1 e
  have b:((47:UInt8)==s[q])=false:=by rw[bn_];exact fun e=>h1 e.symm
  rw[a,b,Bool.false_and]
theorem Qhp_ {c:UInt8} (h:¬c=10):((c.toNat:Int)==10)=false:=by
 rw[bn_];intro e;apply h;apply UInt8.toNat_inj.1;show c.toNat=10;omega
theorem Zl_ {s:BA} {q:Nat}:(s.data.toList.drop q).length=s.size - q:=by rw[List.length_drop,QF_]
theorem jg_ {s:BA} {q n:Nat} (hq:q<=n) (h:n < s.size):∀(hl:n - q < (s.data.toList.drop q).length),(s.data.toList.drop q)[n - q]=s[n]:=by
 intro hl;rw[List.getElem_drop];have:q+(n - q)=n:=oo;simp only[this]
 rfl
theorem Zf_ (s:BA) (q:Nat) (w:World) (hq:q<=s.size) (hs:s.size<=4611686018427387904):
  Calls prog 85 #[T_ s,I_ j_ q] w fun e w'=>e=R_ (I_ j_ (KD_ (s.data.toList.drop q):Nat))/\w=w':=by
 by_cases h2:q+2<=s.size
 ·have y:¬((s.size:Int) < q+2):=oo;have d2:decide ((s.size:Int) < q+2)=false:=df_ y;have p:=jK_ h2;have D:∀W:World,(Instr.slice 9 (T_ s) (some (I_ j_ (q:Int))) (some (I_ j_ ((q:Int)+2))) none).run prog W=.ok (T_ (s.extract q (q+2))) W:=fun W=>by
   have h:=run_slice_string (P:=prog) W 9 s j_ j_ (q:Int) ((q:Int)+2) underlying9 oo oo oo;rwa[show((q:Int)+2).toNat=q+2 from oo,it_]at h
  cases f:Lib.hasPrefix (s.data.toList.drop q) [47,47]with
  |false=>
   rw[VG_ f];rw[f]at p;clear f;go_enter func85,ntmps85;go_wp2;go_ret;exact⟨rfl,rfl⟩
  |true=>
   rw[f]at p;have j:=h_ (fun(k:Nat)=>QbI_ (l:=s.data.toList.drop q) (k:=k) f);have o:=h_ (fun(k:Nat)=>QdM_ (l:=s.data.toList.drop q) (k:=k));clear f;have a:=Zl_ (s:=s) (q:=q);generalize hN:KD_ (s.data.toList.drop q)=N at j o |-
   clear hN;go_enter func85,ntmps85;go_wp2
   go_loop [5] (fun i=>∃n:Nat,q<=n/\n<=s.size/\Hid (((s.data.toList.drop q).take (n - q)).all QM_=true)/\i=I_ j_ n) (fun i=>s.size - (intOf i).toNat)
   case atStart=>exact⟨q,oo,oo,(show _=_ by rw[Nat.sub_self];rfl),rfl⟩
   case round=>
    obtain⟨n,B,C,g,rfl⟩:=hrel;by_cases A:n < s.size
    ·have d:=jg_ B A (by rw[a];omega);by_cases c:s[n]=10
     ·have m:N=n - q:=j.o _ g.o oo (fun _=>by rw[d];exact c);have x:((s[n].toNat:Int)==10)=true:=(by rw[c];rfl);have eN:(n:Int) - q=(N:Nat):=oo;clear j o g d c m a;go_wp2;go_ret;exact⟨Kx_ oo,rfl⟩
     ·have x:=Qhp_ c;have r:=h_ (fun(b:Bool) (hb:QM_ s[n]=b) (W:World)=>show Calls prog 106 #[I_ .u8 (s[n].toNat:Int)] W fun e w'=>e=R_ (B_ b)/\W=w' by rw[<-hb];exact J8_ _ W)
      cases f:QM_ s[n]with
      |true=>
       have t:=h_ (r.o _ f);have v:Hid (((s.data.toList.drop q).take (n+1 - q)).all QM_=true):=by
        show _=_;rw[show n+1 - q=n - q+1 from oo,List.take_succ_eq_append_getElem (by rw[a];omega),List.all_append,g.o,d];simp[f]
       clear r f j o g d c a;go_wp2_with (go_at_call 106;refine(t.o _).mono ?_;rintro e w1 ⟨rfl,rfl⟩)
       go_round
       case rel=>exact⟨n+1,oo,oo,v,by go_num⟩
       case measure=>exact ms_
      |false=>
       have t:=h_ (r.o _ f);have z:N=0:=o.o _ g.o (by rw[a];omega) (by rw[d];exact c) (by rw[d];exact f);subst z;clear r f j o g d c a;go_wp2_with (go_at_call 106;refine(t.o _).mono ?_;rintro e w1 ⟨rfl,rfl⟩)
       go_ret;exact⟨rfl,rfl⟩
    ·have m:N=n - q:=j.o _ g.o oo (fun hl=>by rw[a]at hl;omega);have eN:(n:Int) - q=(N:Nat):=oo;clear j o g m a;go_wp2;go_ret;exact⟨Kx_ oo,rfl⟩
 ·have y:(s.size:Int) < q+2:=oo;have d2:decide ((s.size:Int) < q+2)=true:=dt_ y;have hn:KD_ (s.data.toList.drop q)=0:=by
   apply VG_
   cases f:Lib.hasPrefix (s.data.toList.drop q) [47,47]with
   |false=>rfl
   |true=>
    have:=(List.isPrefixOf_iff_prefix.1 (show List.isPrefixOf [47,47] (s.data.toList.drop q)=true from f)).length_le;rw[Zl_]at this;simp at this;omega
  rw[hn];clear hn;go_enter func85,ntmps85;go_wp2;go_ret;exact⟨rfl,rfl⟩
theorem Vw_ (s:BA) (w:World) (hs:s.size<=maxLen):Calls prog 86 #[T_ s] w (RS_ (T_ (VX_ s)) w):=by
 unfold maxLen at hs;have g:=h_ (fun(k:Nat) (l:k<=s.size) h1 h2=>show s.extract 0 k=VX_ s from by
  have h:=Lib.trimRightB_take s.data.toList 32 k (by rw[QF_];exact l) h1 h2;unfold VX_;rw[h];apply VY_;rw[ByteArray.data_extract];simp)
 generalize VX_ s=T at g |-
 go_enter func86,ntmps86;go_wp2
 go_loop [3] (fun i=>∃k:Nat,k<=s.size/\Hid (∀(j:Nat) b,k<=j->s.data.toList[j]? =some b->b=32)/\i=I_ j_ k) (fun i=>(intOf i).toNat)
 case atStart=>exact⟨s.size,lr_ _,(show ∀_ _,_ from fun j b hj d=>by have:=(gs_.1 d).1;rw[QF_]at this;omega),rfl⟩
 case round=>
  obtain⟨k,l,f,rfl⟩:=hrel;by_cases h0:0 < k
  ·obtain⟨j,rfl⟩:∃j,k=j+1:=⟨k - 1,oo⟩;have q:j < s.size:=oo;have ej:((j+1:Nat):Int) - 1=(j:Nat):=oo;have a:s.data.toList[j]? =some s[j]:=(by rw[List.getElem?_eq_getElem (by rw[QF_];exact q)];rfl);by_cases c:s[j]=32
   ·have o:((s[j].toNat:Int)==32)=true:=(by rw[c];rfl);have m:Hid (∀(i:Nat) b,j<=i->s.data.toList[i]? =some b->b=32):=by
     show ∀_ _,_;intro i b hi d;by_cases p:i=j
     ·subst p;rw[a]at d;obtain rfl:=oi_ d;exact c
     ·exact f.o i b oo d
    clear g f c a;go_wp2
    go_round
    case rel=>exact⟨j,oo,m,by go_num⟩
    case measure=>simp[intOf]<;>omega
   ·have o:((s[j].toNat:Int)==32)=false:=by
     rw[bn_];intro e;apply c;apply UInt8.toNat_inj.1;show s[j].toNat=32;omega
    have n:=h_ (g.o (j+1) l f.o (fun b _ d=>by
     rw[Nat.add_sub_cancel,a]at d;obtain rfl:=oi_ d;exact c))
    clear g f c a;go_wp2;go_ret;exact⟨Xn_ n.o,rfl⟩
  ·obtain rfl:k=0:=oo;have n:=h_ (g.o 0 l f.o (fun b h=>absurd h oo));clear g f;go_wp2;go_ret;exact⟨Xn_ (by rw[<-n.o];simp),rfl⟩
theorem j1_ (s:BA) (w:World) (hs:s.size<=maxLen):Calls prog 184 #[T_ s] w (RB_ (B_ (v9_ s)) w):=by
 unfold maxLen at hs;apply KE_;have a:∀(h:Ge_ Kz_ s=true),v9_ s=inB s.size 1 12:=by
  intro h;unfold v9_ inB;rw[h,Bool.and_true];by_cases h2:0 < s.size/\s.size<=12
  ·rw[dt_ h2,dt_ oo]
  ·rw[df_ h2,df_ oo]
 have j:∀(h:Ge_ Kz_ s=false),v9_ s=false:=by intro h;unfold v9_;rw[h,Bool.and_false]
 have l:=h_ (fun W=>KH_ (s.size:Int) 1 12 W);have d:=h_ a;have HO:=h_ j;clear a j;generalize inB (s.size:Int) 1 12=u at l d;generalize v9_ s=N at d HO |-
 go_enter func184,ntmps184;go_wp2
 go_loop [3] (fun i=>∃k:Nat,k<=s.size/\Jb_ Kz_ s k/\i=I_ j_ k) (fun i=>s.size - (intOf i).toNat)
 case atStart=>exact⟨0,lz_ _,Xw_ _ s,rfl⟩
 case round=>
  obtain⟨k,hk,ha,rfl⟩:=hrel;by_cases g:k < s.size
  ·have m:=h_ (fun(b:Bool) (hb:Kz_ s[k]=b) (W:World)=>show Calls prog 88 #[I_ .u8 (s[k].toNat:Int)] W fun e w'=>e=R_ (B_ b)/\W=w' by rw[<-hb];exact Q6_ _ W)
   cases f:Kz_ s[k]with
   |false=>
    have n:N=false:=HO.o (JB_ g f);have c:=h_ (m.o _ f);subst n;clear m f d HO l;go_wp2_with (go_at_call 88;refine(c.o _).mono ?_;rintro e w1 ⟨rfl,rfl⟩)
    go_ret;exact⟨rfl,rfl⟩
   |true=>
    have hn:=ZW_ ha g f;have c:=h_ (m.o _ f);clear m f d HO l;go_wp2_with (go_at_call 88;refine(c.o _).mono ?_;rintro e w1 ⟨rfl,rfl⟩)
    go_round
    case rel=>exact⟨k+1,oo,hn,by go_num⟩
    case measure=>exact ms_
  ·have n:N=u:=d.o (JA_ ha oo);subst n;clear d HO;go_wp2_with (go_at_call 34;refine(l.o _).mono ?_;rintro e w1 ⟨rfl,rfl⟩)
   go_ret;exact⟨rfl,rfl⟩
theorem xA_ (s:BA) (w:World) (hs:s.size<=maxLen):Calls prog 183 #[T_ s] w (RB_ (B_ (Ys_ s)) w):=by
 unfold maxLen at hs;apply KE_;by_cases h1:1<=s.size/\s.size<=30
 ·have y:0 < s.size:=h1.1;have n:=h_ (fun W=>Ko_ (show inB (s.size:Int) 1 30=true from dt_ oo) W);have r:=h_ (fun(b:Bool) (c:QN_ s[0]=b) (W:World)=>show Calls prog 87 #[I_ .u8 (s[0].toNat:Int)] W fun e w'=>e=R_ (B_ b)/\W=w' by rw[<-c];exact Km_ _ W)
  cases c:QN_ s[0]with
  |false=>
   have d:Ys_ s=false:=(by unfold Ys_;rw[JV_ y c];rfl);rw[d];have p:=h_ (r.o _ c);clear r c d;go_enter func183,ntmps183;go_wp2_with (first|(go_at_call 34;refine(n.o _).mono ?_;rintro e w1 ⟨rfl,rfl⟩)|(go_at_call 87;refine(p.o _).mono ?_;rintro e w1 ⟨rfl,rfl⟩))
   go_ret;exact⟨rfl,rfl⟩
  |true=>
   have p:=h_ (r.o _ c);have x:=h_ (fun(b:Bool) (c:X5_ s=b) (W:World)=>show Calls prog 91 #[T_ s] W fun e w'=>e=R_ (B_ b)/\W=w' by rw[<-c];exact Ju_ _ W)
   cases a:X5_ s with
   |true=>
    have d:Ys_ s=false:=(by unfold Ys_;rw[a];simp);rw[d];have v:=h_ (x.o _ a);clear r c d x a;go_enter func183,ntmps183;go_wp2_with (first|(go_at_call 34;refine(n.o _).mono ?_;rintro e w1 ⟨rfl,rfl⟩)|(go_at_call 87;refine(p.o _).mono ?_;rintro e w1 ⟨rfl,rfl⟩)|(go_at_call 91;refine(v.o _).mono ?_;rintro e w1 ⟨rfl,rfl⟩))
    go_ret;exact⟨rfl,rfl⟩
   |false=>
    have v:=h_ (x.o _ a);have d:Ys_ s=Ge_ Qp_ s:=by
     obtain⟨l,hl⟩:=ZY_ y;have hf:JH_ s=true:=(by unfold JH_;rw[hl];exact c);unfold Ys_ Up_;rw[a,hf,dt_ h1.2];simp
    rw[d];clear r c d x a;go_enter func183,ntmps183;go_wp2_with (first|(go_at_call 34;refine(n.o _).mono ?_;rintro e w1 ⟨rfl,rfl⟩)|(go_at_call 87;refine(p.o _).mono ?_;rintro e w1 ⟨rfl,rfl⟩)|(go_at_call 91;refine(v.o _).mono ?_;rintro e w1 ⟨rfl,rfl⟩))
    clear n p v
    go_loop [3] (fun i=>∃k:Nat,k<=s.size/\Jb_ Qp_ s k/\i=I_ j_ k) (fun i=>s.size - (intOf i).toNat)
    case atStart=>exact⟨0,lz_ _,Xw_ _ s,rfl⟩
    case round=>
     obtain⟨k,hk,z,rfl⟩:=hrel;by_cases h:k < s.size
     ·have q:=h_ (fun(b:Bool) (c:QN_ s[k]=b) (W:World)=>show Calls prog 87 #[I_ .u8 (s[k].toNat:Int)] W fun e w'=>e=R_ (B_ b)/\W=w' by rw[<-c];exact Km_ _ W);have t:=h_ (fun(b:Bool) (c:Kz_ s[k]=b) (W:World)=>show Calls prog 88 #[I_ .u8 (s[k].toNat:Int)] W fun e w'=>e=R_ (B_ b)/\W=w' by rw[<-c];exact Q6_ _ W)
      cases m:QN_ s[k]with
      |true=>
       have j:=ZW_ z h (show Qp_ s[k]=true by unfold Qp_;rw[m];rfl);have f:=h_ (q.o _ m);clear q m t;go_wp2_with (first|(go_at_call 87;refine(f.o _).mono ?_;rintro e w1 ⟨rfl,rfl⟩))
       go_round
       case rel=>exact⟨k+1,oo,j,by go_num⟩
       case measure=>exact ms_
      |false=>
       have f:=h_ (q.o _ m)
       cases o:Kz_ s[k]with
       |true=>
        have j:=ZW_ z h (show Qp_ s[k]=true by unfold Qp_;rw[o,Bool.or_true]);have g:=h_ (t.o _ o);clear q m t o;go_wp2_with (first|(go_at_call 87;refine(f.o _).mono ?_;rintro e w1 ⟨rfl,rfl⟩)|(go_at_call 88;refine(g.o _).mono ?_;rintro e w1 ⟨rfl,rfl⟩))
        go_round
        case rel=>exact⟨k+1,oo,j,by go_num⟩
        case measure=>exact ms_
       |false=>
        have j:=h_ (JB_ h (show Qp_ s[k]=false by unfold Qp_;rw[m,o];rfl));have g:=h_ (t.o _ o);clear q m t o;go_wp2_with (first|(go_at_call 87;refine(f.o _).mono ?_;rintro e w1 ⟨rfl,rfl⟩)|(go_at_call 88;refine(g.o _).mono ?_;rintro e w1 ⟨rfl,rfl⟩))
        go_ret;exact⟨Qg_ j.o.symm,rfl⟩
     ·have j:=h_ (JA_ z oo);go_wp2;go_ret;exact⟨Qg_ j.o.symm,rfl⟩
 ·have n:=h_ (fun W=>Ko_ (show inB (s.size:Int) 1 30=false from df_ oo) W);have d:Ys_ s=false:=by
   unfold Ys_ Up_;by_cases y:s.size=0
   ·have hl:s.data.toList=[]:=ln_ (by rw[QF_];exact y);unfold JH_;rw[hl];simp
   ·rw[df_ (show ¬s.size<=30 from oo)];simp
  rw[d];clear d;go_enter func183,ntmps183;go_wp2_with (first|(go_at_call 34;refine(n.o _).mono ?_;rintro e w1 ⟨rfl,rfl⟩))
  go_ret;exact⟨rfl,rfl⟩
theorem j3_ (s:BA) (w:World) (hs:s.size<=4611686018427387904):Calls prog 185 #[T_ s] w (RB_ (B_ (quoB s)) w):=by
 apply KE_;by_cases h1:1 < s.size
 ·have g1:(1:Int) < s.size:=oo;have h0:0 < s.size:=oo;by_cases a:s[0]=39
  ·have d:((s[0].toNat:Int)==39)=true:=(by rw[a];rfl);have c:=h_ (fun W=>JQ_ s 0 W oo hs);have b:quoB s=decide (Ur_ s.data.toList=s.size):=by
    obtain⟨l,hl⟩:=ZY_ h0;unfold quoB;rw[dt_ h1];rw[hl];simp[a]
   have hi:((Ur_ s.data.toList:Int)==(s.size:Int))=decide (Ur_ s.data.toList=s.size):=by
    by_cases h:Ur_ s.data.toList=s.size
    ·rw[dt_ h,h];exact beq_self_eq_true _
    ·rw[df_ h,bn_];omega
   rw[b,<-hi];rw[show s.data.toList.drop 0=s.data.toList from rfl]at c;clear b hi a;generalize Ur_ s.data.toList=N at c |-
   go_enter func185,ntmps185;go_wp2_with (go_at_call 89;refine(c.o _).mono ?_;rintro e w1 ⟨rfl,rfl⟩)
   go_ret;exact⟨rfl,rfl⟩
  ·have d:=Qhq_ a;rw[Ww_ h0 a];clear a;go_enter func185,ntmps185;go_wp2;go_ret;exact⟨rfl,rfl⟩
 ·have b:quoB s=false:=by unfold quoB;rw[df_ h1,Bool.false_and,Bool.false_and]
  have g1:¬((1:Int) < s.size):=oo;rw[b];go_enter func185,ntmps185;go_wp2;go_ret;exact⟨rfl,rfl⟩
theorem xB_ (s:BA) (w:World) (hs:s.size<=4611686018427387904):Calls prog 186 #[T_ s] w (RB_ (B_ (JX_ s)) w):=by
 apply KE_;by_cases h1:1 < s.size
 ·have g1:(1:Int) < s.size:=oo;have b:=h_ (fun W=>Zf_ s 0 W oo hs);rw[show s.data.toList.drop 0=s.data.toList from rfl]at b;by_cases c:KD_ s.data.toList=s.size
  ·have H2:=h_ (fun W=>Vw_ s W mx_);have a:JX_ s=((VX_ s).toList==s.toList):=by
    rw[Qgz_];unfold JX_;rw[dt_ h1,dt_ c];simp
   rw[a];rw[c]at b;clear c a;generalize VX_ s=T at H2 |-
   go_enter func186,ntmps186;go_wp2_with (first|(go_at_call 85;refine(b.o _).mono ?_;rintro e w1 ⟨rfl,rfl⟩)|(go_at_call 86;refine(H2.o _).mono ?_;rintro e w1 ⟨rfl,rfl⟩))
   go_ret;exact⟨rfl,rfl⟩
  ·have a:JX_ s=false:=(by unfold JX_;rw[df_ c,Bool.and_false,Bool.false_and]);rw[a];have hi:((KD_ s.data.toList:Int)==(s.size:Int))=false:=(by rw[bn_];omega);clear a c;generalize KD_ s.data.toList=N at b hi |-
   go_enter func186,ntmps186;go_wp2_with (first|(go_at_call 85;refine(b.o _).mono ?_;rintro e w1 ⟨rfl,rfl⟩))
   go_ret;exact⟨rfl,rfl⟩
 ·have a:JX_ s=false:=by unfold JX_;rw[df_ h1,Bool.false_and,Bool.false_and]
  have g1:¬((1:Int) < s.size):=oo;rw[a];go_enter func186,ntmps186;go_wp2;go_ret;exact⟨rfl,rfl⟩
theorem k3_ (kind:Int) (s:BA) (w:World) (hs:s.size<=4611686018427387904) (hk:kind=1\/kind=6\/kind=12\/kind=13\/kind=20\/kind=21):
  Calls prog 130 #[I_ j_ kind,T_ s] w (RB_ (B_ (Zi_ kind s)) w):=by
 rw[z2_ hk];have H:=h_ (fun W=>xA_ s W mx_);generalize Ys_ s=u at H |-
 rcases hk with rfl|rfl|rfl|rfl|rfl|rfl
 all_goals
  go_enter func130,ntmps130;go_wp2_with (go_at_call 183;refine(H.o _).mono ?_;rintro e w1 ⟨rfl,h2⟩)
  go_ret;exact⟨rfl,h2⟩
theorem jC_ (kind:Int) (s:BA) (w:World) (hs:s.size<=4611686018427387904) (hk:kind=2):
  Calls prog 130 #[I_ j_ kind,T_ s] w (RB_ (B_ (Zi_ kind s)) w):=by
 rw[VQ_ (j:=2) (.inl ⟨hk,rfl⟩)];have H:=h_ (fun W=>show Calls prog 184 #[T_ s] W fun e w'=>e=R_ (B_ (J4_ s 2))/\Below W.heap.size W w' from j1_ s W mx_);generalize J4_ s 2=u at H |-
 subst hk
 all_goals
  go_enter func130,ntmps130;go_wp2_with (go_at_call 184;refine(H.o _).mono ?_;rintro e w1 ⟨rfl,h2⟩)
  go_ret;exact⟨rfl,h2⟩
theorem jD_ (kind:Int) (s:BA) (w:World) (hs:s.size<=4611686018427387904) (hk:kind=3):
  Calls prog 130 #[I_ j_ kind,T_ s] w (RB_ (B_ (Zi_ kind s)) w):=by
 rw[VQ_ (j:=3) (.inr (.inl ⟨hk,rfl⟩))];have H:=h_ (fun W=>show Calls prog 185 #[T_ s] W fun e w'=>e=R_ (B_ (J4_ s 3))/\Below W.heap.size W w' from j3_ s W hs);generalize J4_ s 3=u at H |-
 subst hk
 all_goals
  go_enter func130,ntmps130;go_wp2_with (go_at_call 185;refine(H.o _).mono ?_;rintro e w1 ⟨rfl,h2⟩)
  go_ret;exact⟨rfl,h2⟩
theorem k4_ (kind:Int) (s:BA) (w:World) (hs:s.size<=4611686018427387904) (hk:kind=19):
  Calls prog 130 #[I_ j_ kind,T_ s] w (RB_ (B_ (Zi_ kind s)) w):=by
 rw[VQ_ (j:=5) (.inr (.inr ⟨hk,rfl⟩))];have H:=h_ (fun W=>show Calls prog 186 #[T_ s] W fun e w'=>e=R_ (B_ (J4_ s 5))/\Below W.heap.size W w' from xB_ s W hs);generalize J4_ s 5=u at H |-
 subst hk
 all_goals
  go_enter func130,ntmps130;go_wp2_with (go_at_call 186;refine(H.o _).mono ?_;rintro e w1 ⟨rfl,h2⟩)
  go_ret;exact⟨rfl,h2⟩
theorem qB_ (kind:Int) (s:BA) (w:World) (hs:s.size<=4611686018427387904) (hk:kind=7):
  Calls prog 130 #[I_ j_ kind,T_ s] w (RB_ (B_ (Zi_ kind s)) w):=by
 rw[show Zi_ kind s=Q1_ s from by subst hk;rfl];have H:=h_ (fun W=>show Calls prog 187 #[T_ s] W fun e w'=>e=R_ (B_ (Q1_ s))/\Below W.heap.size W w' from(q0_ s W).mono fun e w' ⟨h1,a⟩=>⟨h1,by subst a;exact br⟩);generalize Q1_ s=u at H |-
 subst hk
 all_goals
  go_enter func130,ntmps130;go_wp2_with (go_at_call 187;refine(H.o _).mono ?_;rintro e w1 ⟨rfl,a⟩)
  go_ret;exact⟨rfl,a⟩
theorem k5_ (kind:Int) (s:BA) (w:World) (hs:s.size<=4611686018427387904) (hk:kind≠1/\kind≠6/\kind≠12/\kind≠13/\kind≠20/\kind≠21/\kind≠2/\kind≠3/\kind≠19/\kind≠7):
  Calls prog 130 #[I_ j_ kind,T_ s] w (RB_ (B_ (Zi_ kind s)) w):=by
 rw[z3_ hk,<-J6_];have d1:(kind==1)=false:=by rw[bn_];omega
 have d6:(kind==6)=false:=by rw[bn_];omega
 have a:(kind==12)=false:=by rw[bn_];omega
 have b:(kind==13)=false:=by rw[bn_];omega
 have d:(kind==20)=false:=by rw[bn_];omega
 have f:(kind==21)=false:=by rw[bn_];omega
 have d2:(kind==2)=false:=by rw[bn_];omega
 have d3:(kind==3)=false:=by rw[bn_];omega
 have c:(kind==19)=false:=by rw[bn_];omega
 have d7:(kind==7)=false:=by rw[bn_];omega
 clear hk hs;go_enter func130,ntmps130;go_wp2;go_ret;refine⟨Qg_ ?_,grow_⟩
 first|rfl|simp
theorem jB_ (kind:Int) (s:BA) (w:World) (hs:s.size<=4611686018427387904):
  Calls prog 130 #[I_ j_ kind,T_ s] w (RB_ (B_ (Zi_ kind s)) w):=by
 by_cases h1:kind=1\/kind=6\/kind=12\/kind=13\/kind=20\/kind=21
 ·exact k3_ kind s w hs h1
 ·by_cases h2:kind=2
  ·exact jC_ kind s w hs h2
  ·by_cases h3:kind=3
   ·exact jD_ kind s w hs h3
   ·by_cases h4:kind=19
    ·exact k4_ kind s w hs h4
    ·by_cases h5:kind=7
     ·exact qB_ kind s w hs h5
     ·exact k5_ kind s w hs oo
def marks04:List (List UInt8):=[[38,38],[124,124],[61,61],[61,62],[46,46],[40],[41],[123],[125],[91],[93],[59],[44],[46],[61],[43],[45],[42],[60],[63],[58]]
def X6_:List (List UInt8)->List UInt8->List UInt8
 |[],_=>[]
 |m::ms,l=>if m.isPrefixOf l=true then m else X6_ ms l
def XU_ (l:List UInt8):List UInt8:=X6_ marks04 l
def Kq_ (l:List UInt8) (q:Nat):Int × BA × Int × Nat:=
 if 0 < KD_ l then (5,VX_ ⟨(l.take (KD_ l)).toArray⟩,(q:Int),KD_ l)
 else match l with
 |[]=>(0,⟨#[]⟩,0,0)
 |c::_=>
  if QN_ c=true then (if 30 < Zb_ Qp_ l then (0,⟨#[]⟩,0,0)else (1,⟨(l.take (Zb_ Qp_ l)).toArray⟩,(q:Int),Zb_ Qp_ l))
  else if Kz_ c=true then (if 12 < Zb_ Kz_ l then (0,⟨#[]⟩,0,0)else (2,⟨(l.take (Zb_ Kz_ l)).toArray⟩,(q:Int),Zb_ Kz_ l))
  else if c=39 then (3,⟨(l.take (Ur_ l)).toArray⟩,(q:Int),Ur_ l)
  else (4,⟨(XU_ l).toArray⟩,(q:Int),(XU_ l).length)
def SgOk (l:List UInt8) (k:Int) (x:BA) (z:Nat) (ok:Bool):Prop:=
 if ok=true then 0 < z/\z<=l.length/\∀q,Kq_ l q=(k,x,(q:Int),z)else ∀q,(Kq_ l q).2.2.2=0
theorem Xd_ (s:BA) (n:Nat):s.extract 0 n=⟨(s.data.toList.take n).toArray⟩:=by
 apply ByteArray.ext;apply Array.toList_inj.1;rw[ByteArray.data_extract];simp
theorem XK_ (s:BA) (q n:Nat):s.extract q (q+n)=⟨((s.data.toList.drop q).take n).toArray⟩:=by
 apply ByteArray.ext;apply Array.toList_inj.1;rw[ByteArray.data_extract];simp[List.extract_eq_take_drop]
theorem GR_ (s:BA) (q:Nat):(s.extract q s.size).data.toList=s.data.toList.drop q:=by
 rw[ByteArray.data_extract];simp only[Array.toList_extract,List.extract_eq_take_drop];exact List.take_of_length_le (by rw[List.length_drop,QF_];omega)
theorem J1_ (p:UInt8->Bool) (s:BA):ZV_ p s=⟨(s.data.toList.take (Zb_ p s.data.toList)).toArray⟩:=Xd_ s _
theorem VH_ {c:UInt8} {l:List UInt8} (h:¬c=47):KD_ (c::l)=0:=by
 apply VG_;unfold Lib.hasPrefix;simp only[List.isPrefixOf];have:((47:UInt8)==c)=false:=by rw[bn_];exact fun e=>h e.symm
 rw[this,Bool.false_and]
theorem QhM_ {s:BA} (h0:0 < s.size) (d:QN_ s[0]=true):
  SgOk s.data.toList 1 (ZV_ Qp_ s) (ZV_ Qp_ s).size (decide (((ZV_ Qp_ s).size:Int)<=30)):=by
 obtain⟨l,hl⟩:=ZY_ h0;have hn:KD_ s.data.toList=0:=by rw[hl];exact VH_ (by intro e;rw[e]at d;revert d;decide)
 have b:0 < Zb_ Qp_ s.data.toList:=by
  rw[hl];unfold Zb_;rw[ip_ (by unfold Qp_;rw[d];rfl)];omega
 have f:=K3_ Qp_ s.data.toList;have hz:∀q,Kq_ s.data.toList q=if 30 < Zb_ Qp_ s.data.toList then (0,⟨#[]⟩,0,0)else (1,⟨(s.data.toList.take (Zb_ Qp_ s.data.toList)).toArray⟩,(q:Int),Zb_ Qp_ s.data.toList):=fun q=>by
  unfold Kq_;rw[in_ oo];split
  ·rename_i h;rw[hl]at h;cases h
  ·rename_i c l' h;rw[hl]at h;injection h with h1 h2;subst h1;rw[ip_ d]
 unfold SgOk;rw[ZD_];by_cases a:30 < Zb_ Qp_ s.data.toList
 ·rw[df_ oo,in_ dc_];intro q;rw[hz,ip_ a]
 ·rw[dt_ oo,ip_ rfl];exact⟨b,f,fun q=>by rw[hz,in_ a,J1_]⟩
theorem QiA_ {s:BA} (h0:0 < s.size) (hb:QN_ s[0]=false) (d:Kz_ s[0]=true):
  SgOk s.data.toList 2 (ZV_ Kz_ s) (ZV_ Kz_ s).size (decide (((ZV_ Kz_ s).size:Int)<=12)):=by
 obtain⟨l,hl⟩:=ZY_ h0;have hn:KD_ s.data.toList=0:=by rw[hl];exact VH_ (by intro e;rw[e]at d;revert d;decide)
 have b:0 < Zb_ Kz_ s.data.toList:=by
  rw[hl];unfold Zb_;rw[ip_ d];omega
 have f:=K3_ Kz_ s.data.toList;have hz:∀q,Kq_ s.data.toList q=if 12 < Zb_ Kz_ s.data.toList then (0,⟨#[]⟩,0,0)else (2,⟨(s.data.toList.take (Zb_ Kz_ s.data.toList)).toArray⟩,(q:Int),Zb_ Kz_ s.data.toList):=fun q=>by
  unfold Kq_;rw[in_ oo];split
  ·rename_i h;rw[hl]at h;cases h
  ·rename_i c l' h;rw[hl]at h;injection h with h1 h2;subst h1;rw[in_ (by rw[hb];decide),ip_ d]
 unfold SgOk;rw[ZD_];by_cases a:12 < Zb_ Kz_ s.data.toList
 ·rw[df_ oo,in_ dc_];intro q;rw[hz,ip_ a]
 ·rw[dt_ oo,ip_ rfl];exact⟨b,f,fun q=>by rw[hz,in_ a,J1_]⟩
theorem QiB_ {s:BA} (h0:0 < s.size) (hq:s[0]=39):SgOk s.data.toList 3 (qP_ s).1 (qP_ s).1.size (qP_ s).2:=by
 obtain⟨l,hl⟩:=ZY_ h0;rw[hq]at hl;have p:l.length+1=s.size:=by have:=QF_ s;rw[hl]at this;simpa using this
 have g:(s.extract 1 s.size).data.toList=l:=by rw[GR_,hl];rfl
 have k:∀q,Kq_ s.data.toList q=(3,⟨(s.data.toList.take (Ur_ s.data.toList)).toArray⟩,(q:Int),Ur_ s.data.toList):=fun q=>by
  unfold Kq_;rw[in_ (by rw[hl,VH_ dc_];omega)];split
  ·rename_i h;rw[hl]at h;cases h
  ·rename_i c l' h;rw[hl]at h;injection h with h1 h2;subst h1;rw[in_ dc_,in_ dc_,ip_ rfl]
 have b:Ur_ s.data.toList=if VJ_ l=0 then 0 else VJ_ l+1:=by rw[hl];rfl
 unfold SgOk;unfold qP_;rw[g];by_cases hi:Lib.indexByte l 39 < 0
 ·rw[ip_ hi];rw[in_ dc_];intro q;rw[k,b,jL_,ip_ hi]
  rfl
 ·rw[in_ hi];have n:=Lib.indexByte_ge l 39;obtain⟨o,i⟩:=eo_ (show 0<=Lib.indexByte l 39 from oo);have a:=Lib.indexByte_some i;have m:o < l.length:=(gs_.1 a.1).1;rw[i,show((o:Int)+2).toNat=o+2 from oo];have d:Ge_ QM_ (s.extract 0 (o+2))=(l.take o).all QM_:=by
   unfold Ge_;rw[show(s.extract 0 (o+2)).data.toList=s.data.toList.take (o+2)by rw[ByteArray.data_extract];simp,hl,List.take_succ_cons,List.all_cons];rw[show QM_ 39=true from rfl,Bool.true_and];rw[List.take_add_one,a.1,List.all_append];simp[show QM_ 39=true from rfl]
  have f:VJ_ l=if (l.take o).all QM_=true then o+1 else 0:=by
   rw[jL_,in_ hi,i,it_]
  simp only[d]
  cases hc:(l.take o).all QM_ with
  |false=>
   rw[in_ dc_];intro q;rw[k,b,f,hc]
   rfl
  |true=>
   rw[ip_ rfl];have e:Ur_ s.data.toList=o+2:=(by rw[b,f,hc,ip_ rfl,in_ oo]);have j:(s.extract 0 (o+2)).size=o+2:=so_;rw[j];refine⟨oo,by rw[QF_];omega,fun q=>?_⟩;rw[k,e,Xd_]
theorem QhN_ {s:BA} (h0:0 < s.size) (hp:Lib.hasPrefix s.data.toList [47,47]=true):
  SgOk s.data.toList 5 (VX_ (ZV_ QZ_ s)) (ZV_ QZ_ s).size (Ge_ QM_ (ZV_ QZ_ s)):=by
 obtain⟨l,hl⟩:=ZY_ h0;have a:=Qab_ h0 hp;have hn:=K3_ QZ_ s.data.toList;have b:Ge_ QM_ (ZV_ QZ_ s)=(s.data.toList.take (Zb_ QZ_ s.data.toList)).all QM_:=by
  unfold Ge_;rw[J1_]
 have e:0 < Zb_ QZ_ s.data.toList:=by
  rw[hl,a];unfold Zb_;rw[ip_ dc_];omega
 have f:KD_ s.data.toList=if (s.data.toList.take (Zb_ QZ_ s.data.toList)).all QM_=true then Zb_ QZ_ s.data.toList else 0:=by
  unfold KD_;by_cases h:(s.data.toList.take (Zb_ QZ_ s.data.toList)).all QM_=true
  ·rw[ip_ ⟨hp,h⟩,ip_ h]
  ·rw[in_ (fun x=>h x.2),in_ h]
 unfold SgOk;rw[b,ZD_]
 cases hc:(s.data.toList.take (Zb_ QZ_ s.data.toList)).all QM_ with
 |false=>
  rw[in_ dc_];intro q;rw[hc,in_ dc_]at f;unfold Kq_;rw[in_ oo];split
  ·rfl
  ·rename_i c l' h;rw[hl]at h;injection h with h1 h2;have d:c=47:=(by rw[<-h1];exact a);subst d;rw[in_ dc_,in_ dc_,in_ dc_];rw[hl,a];have:XU_ (47::l)=[]:=(by unfold XU_ marks04;simp[X6_,List.isPrefixOf]);rw[this]
   rfl
 |true=>
  rw[ip_ rfl];rw[hc,ip_ rfl]at f;refine⟨e,hn,fun q=>?_⟩;unfold Kq_;rw[ip_ oo,f,J1_]
def G0_ (c d:UInt8):Bool:=(c==38&&d==38)||(c==124&&d==124)||(c==61&&d==61)||(c==61&&d==62)||(c==46&&d==46)
theorem Qc9_ (l:List UInt8) (c:UInt8):decide (0<=Lib.indexByte l c)=l.contains c:=by
 induction l with
 |nil=>rfl
 |cons x l ih=>
  have d:=Lib.indexByte_ge l c;rw[List.contains_cons];unfold Lib.indexByte;by_cases h:x=c
  ·subst h;simp
  ·have hb:(x==c)=false:=(by rw[bn_];exact h);have b:(c==x)=false:=(by rw[bn_];exact fun e=>h e.symm);rw[hb,b,Bool.false_or,<-ih];simp only[Bool.false_eq_true,if_false];by_cases h1:Lib.indexByte l c= -1
   ·have a:(Lib.indexByte l c== -1)=true:=(by rw[h1];rfl);rw[ip_ a,h1]
   ·have a:(Lib.indexByte l c== -1)=false:=(by rw[bn_];exact h1);rw[in_ (by rw[a];decide)];rw[dt_ (show 0<=Lib.indexByte l c+1 from oo),dt_ (show 0<=Lib.indexByte l c from oo)]
theorem Qdt_ (c d:UInt8):ZI_ ⟨#[c,d]⟩=G0_ c d:=by
 unfold ZI_ V5_ G0_;simp only[ByteArray.toList_eq,Bool.or_false];have e:∀a b:UInt8,([c,d]==[a,b])=(c==a&&d==b):=fun a b=>by
  simp only[List.cons_beq_cons,List.nil_beq_eq,List.isEmpty_nil,Bool.and_true]
 simp only[e]
theorem xc_ (c:UInt8):ZI_ ⟨#[c]⟩=JR_ c:=by
 unfold ZI_ V5_;simp only[ByteArray.toList_eq];have e:∀a b:UInt8,([c]==[a,b])=false:=fun a b=>by
  simp only[List.cons_beq_cons];simp
 simp only[e,Bool.false_or]
def one04:List UInt8:=[40,41,123,125,91,93,59,44,46,61,43,45,42,60,63,58]
theorem Wh_:marks04=[[38,38],[124,124],[61,61],[61,62],[46,46]]++one04.map (fun c=>[c]):=by rfl
theorem Vn_ {m l:List UInt8} {ms:List (List UInt8)} (h:m.isPrefixOf l=true):X6_ (m::ms) l=m:=ip_ h
theorem JS_ {m l:List UInt8} {ms:List (List UInt8)} (h:¬m.isPrefixOf l=true):X6_ (m::ms) l=X6_ ms l:=in_ h
theorem xd_ (a b:List (List UInt8)) (l:List UInt8) (h:∀m∈a,m≠[]):X6_ (a++b) l=if X6_ a l=[]then X6_ b l else X6_ a l:=by
 induction a with
 |nil=>rfl
 |cons m ms c=>
  have hm:=h m (List.mem_cons_self ..);have c:=c (fun x hx=>h x (List.mem_cons_of_mem _ hx));rw[List.cons_append];by_cases h:m.isPrefixOf l=true
  ·rw[Vn_ h,Vn_ h,in_ hm]
  ·rw[JS_ h,JS_ h];exact c
theorem xf_ (a:List UInt8) (c:UInt8) (l:List UInt8):X6_ (a.map (fun c=>[c])) (c::l)=if a.contains c=true then [c]else []:=by
 induction a with
 |nil=>rfl
 |cons x a ih=>
  simp only[List.map_cons,X6_,List.isPrefixOf,Bool.and_true,List.contains_cons];by_cases h:x=c
  ·subst h;simp
  ·have e1:(x==c)=false:=(by rw[bn_];exact h);have e2:(c==x)=false:=(by rw[bn_];exact fun e=>h e.symm);rw[e1,e2,Bool.false_or,in_ dc_,ih]
theorem QhC_ (a b c d:UInt8) (l:List UInt8):List.isPrefixOf [a,b] (c::d::l)=(c==a&&d==b):=by
 simp only[List.isPrefixOf,Bool.and_true];rw[BEq.comm (a:=a),BEq.comm (a:=b)]
theorem jG_ (c d:UInt8) (l:List UInt8):X6_ [[38,38],[124,124],[61,61],[61,62],[46,46]] (c::d::l)=if G0_ c d=true then [c,d]else []:=by
 simp only[X6_,QhC_];unfold G0_;have e:∀(a b:UInt8) (B:Bool) (X:List UInt8),X=(if B=true then [c,d]else [])->(if (c==a&&d==b)=true then [a,b]else X)=if ((c==a&&d==b)||B)=true then [c,d]else []:=by
  intro a b B X hX
  cases h:(c==a&&d==b)with
  |true=>
   simp only[Bool.and_eq_true,beq_iff_eq]at h;rw[h.1,h.2];simp
  |false=>rw[hX];simp
 simp only[Bool.or_assoc];refine e _ _ _ _ (e _ _ _ _ (e _ _ _ _ (e _ _ _ _ ?_)));have:=e 46 46 false [] rfl;rw[Bool.or_false]at this;exact this
theorem xb_ (c:UInt8):JR_ c=one04.contains c:=Qc9_ one04 c
theorem Qdx_ (c d:UInt8) (l:List UInt8):XU_ (c::d::l)=if G0_ c d=true then [c,d]else if JR_ c=true then [c]else []:=by
 rw[xb_];unfold XU_;rw[Wh_,xd_ _ _ _ dc_,jG_,xf_]
 cases G0_ c d with
 |true=>simp
 |false=>simp
theorem Qdv_ (c:UInt8):XU_ [c]=if JR_ c=true then [c]else []:=by
 rw[xb_];unfold XU_;rw[Wh_,xd_ _ _ _ dc_,xf_];have:X6_ [[38,38],[124,124],[61,61],[61,62],[46,46]] [c]=[]:=by simp[X6_,List.isPrefixOf]
 rw[this,ip_ rfl]
theorem xg_ (s:BA) (h0:0 < s.size):XU_ s.data.toList=s.data.toList.take (XO_ s)/\XO_ s<=s.size:=by
 obtain⟨l,hl⟩:=ZY_ h0;generalize hc:s[0]=c at hl;have a:=QF_ s;rw[hl]at a;have e1:s.extract 0 1=⟨#[c]⟩:=by rw[Xd_,hl];rfl
 match l,hl,a with
 |[],hl,a=>
  have b:XO_ s=if JR_ c=true then 1 else 0:=by
   unfold XO_;rw[in_ (by simp at a;omega),e1,xc_]
  rw[b,hl,Qdv_];split<;>simp<;>omega
 |d::l,hl,a=>
  have e2:s.extract 0 2=⟨#[c,d]⟩:=by rw[Xd_,hl];rfl
  have h2:2<=s.size:=by simp at a;omega
  have b:XO_ s=if G0_ c d=true then 2 else if JR_ c=true then 1 else 0:=by
   unfold XO_;rw[e1,xc_,e2,Qdt_];by_cases h:G0_ c d=true
   ·rw[ip_ ⟨h2,h⟩,ip_ h]
   ·rw[in_ (fun x=>h x.2),in_ h]
  rw[b,hl,Qdx_];split
  ·simp;omega
  ·split<;>simp;omega
theorem QhL_ {s:BA} (h0:0 < s.size) (hb:QN_ s[0]=false) (hg:Kz_ s[0]=false) (hq:¬s[0]=39) (hp:Lib.hasPrefix s.data.toList [47,47]=false):
  ∀q,Kq_ s.data.toList q=(4,s.extract 0 (XO_ s),(q:Int),XO_ s):=by
 intro q;obtain⟨l,hl⟩:=ZY_ h0;obtain⟨hm,a⟩:=xg_ s h0;unfold Kq_;rw[in_ (by rw[VG_ hp];omega)];split
 ·rename_i h;rw[hl]at h;cases h
 ·rename_i c l' h;rw[hl]at h;injection h with h1 h2;subst h1;rw[in_ (by rw[hb];decide),in_ (by rw[hg];decide),in_ hq,hm,<-Xd_,List.length_take,QF_,Nat.min_eq_left a]
abbrev SgP:=Int × BA × Int × Bool
def ZP_ (d:SgP):List Value:=[I_ j_ d.1,T_ d.2.1,I_ j_ d.2.2.1,B_ d.2.2.2]
theorem jU_ (d:SgP):(ZP_ d).length=4:=rfl
def XR_ (l:List UInt8):Nat->Nat->Nat->List SgP->List SgP × Int × Bool
 |0,_,_,acc=>(acc,0,true)
 |f+1,at_,br,acc=>
  match l.drop at_ with
  |[]=>(acc,0,true)
  |c::l'=>
   if c=32 then XR_ l f (at_+1) br acc
   else if c=10 then XR_ l f (at_+1) (br+1) acc
   else if (Kq_ (c::l') at_).2.2.2=0 then ([],(at_:Int),false)
   else XR_ l f (at_+(Kq_ (c::l') at_).2.2.2) 0 (acc++[((Kq_ (c::l') at_).1,(Kq_ (c::l') at_).2.1,(Kq_ (c::l') at_).2.2.1,decide (1 < br))])
def KV_ (t:BA):List SgP × Int × Bool:=if 3000 < t.size then ([],3000,false)else XR_ t.data.toList t.size 0 0 []
section
variable {s:BA} {f at_ br:Nat} {acc:List SgP} {R:List SgP × Int × Bool}
def KO_ (s:BA) (at_ br:Nat) (acc:List SgP) (R:List SgP × Int × Bool):Prop:=∃f,s.size<=at_+f/\XR_ s.data.toList f at_ br acc=R
theorem WG_ (h:KO_ s at_ br acc R) (hk:s.size<=at_):R=(acc,0,true):=by
 obtain⟨f,hf,h⟩:=h
 cases f with
 |zero=>exact h.symm
 |succ f=>
  unfold XR_ at h;rw[List.drop_of_length_le (by rw[QF_];exact hk)]at h;exact h.symm
theorem J5_ (h:KO_ s at_ br acc R) (hk:at_ < s.size) (hc:s[at_]=32):KO_ s (at_+1) br acc R:=by
 obtain⟨f,hf,h⟩:=h
 cases f with
 |zero=>omega
 |succ f=>
  unfold XR_ at h;rw[KL_ hk]at h;simp only[hc]at h;rw[ip_ trivial]at h;exact⟨f,oo,h⟩
theorem G8_ (h:KO_ s at_ br acc R) (hk:at_ < s.size) (hc:s[at_]=10):KO_ s (at_+1) (br+1) acc R:=by
 obtain⟨f,hf,h⟩:=h
 cases f with
 |zero=>omega
 |succ f=>
  unfold XR_ at h;rw[KL_ hk]at h;simp only[hc]at h;rw[in_ dc_,ip_ trivial]at h;exact⟨f,oo,h⟩
theorem WF_ (h:KO_ s at_ br acc R) (hk:at_ < s.size) (h1:¬s[at_]=32) (h2:¬s[at_]=10) (hz:(Kq_ (s.data.toList.drop at_) at_).2.2.2=0):R=([],(at_:Int),false):=by
 obtain⟨f,hf,h⟩:=h
 cases f with
 |zero=>omega
 |succ f=>
  unfold XR_ at h;rw[KL_ hk]at h hz;simp only at h;rw[in_ h1,in_ h2,ip_ hz]at h;exact h.symm
theorem G9_ {k:Int} {x:BA} {q:Int} {z:Nat} (h:KO_ s at_ br acc R) (hk:at_ < s.size) (h1:¬s[at_]=32) (h2:¬s[at_]=10) (hz:Kq_ (s.data.toList.drop at_) at_=(k,x,q,z)) (h0:0 < z):
  KO_ s (at_+z) 0 (acc++[(k,x,q,decide (1 < br))]) R:=by
 obtain⟨f,hf,h⟩:=h
 cases f with
 |zero=>omega
 |succ f=>
  unfold XR_ at h;rw[KL_ hk]at h hz;simp only[hz]at h;rw[in_ h1,in_ h2,in_ oo]at h;exact⟨f,oo,h⟩
theorem G7_ (h:s.size<=3000):KO_ s 0 0 [] (KV_ s):=⟨s.size,oo,by unfold KV_;rw[in_ oo]⟩
end
theorem zV_ {s:BA} (h:3000 < s.size):KV_ s=([],3000,false):=by unfold KV_;rw[ip_ h]
theorem QbV_ (l:List UInt8):∀(f at_ br:Nat) (acc:List SgP),(XR_ l f at_ br acc).1.length<=acc.length+f:=by
 intro f
 induction f with
 |zero=>intro at_ br acc;simp[XR_]
 |succ f a=>
  intro at_ br acc;unfold XR_;split
  ·simp<;>omega
  ·split
   ·have:=a (at_+1) br acc;omega
   ·split
    ·have:=a (at_+1) (br+1) acc;omega
    ·split
     ·simp
     ·refine lt_ (a _ _ _) ?_;simp;omega
theorem zW_ (t:BA):(KV_ t).1.length<=3000:=by
 unfold KV_;split
 ·simp
 ·have:=QbV_ t.data.toList t.size 0 0 [];simp at this;omega
def G1_:List BA:=[⟨#[38,38]⟩,⟨#[124,124]⟩,⟨#[61,61]⟩,⟨#[61,62]⟩,⟨#[46,46]⟩,⟨#[40]⟩,⟨#[41]⟩,⟨#[123]⟩,⟨#[125]⟩,⟨#[91]⟩,⟨#[93]⟩,⟨#[59]⟩,⟨#[44]⟩,⟨#[46]⟩,⟨#[61]⟩,⟨#[43]⟩,⟨#[45]⟩,⟨#[42]⟩,⟨#[60]⟩,⟨#[63]⟩,⟨#[58]⟩]
theorem xh_:G1_=marks04.map (fun m=>⟨m.toArray⟩):=rfl
theorem QdA_:∀x∈G1_,x.size<=2:=by decide
theorem kW_ (w:World):Calls prog 107 #[] w fun e w'=>∃A,e=R_ (S_ A 21 21)/\Rd w' 1 A 21 (Qm_ G1_)/\Below w.heap.size w w':=by
 go_enter func107,ntmps107;go_wp2;go_ret;exact⟨_,rfl,Rd.fresh w 9 (Qm_ G1_) rfl,grow_⟩
def YV_ (l:List UInt8) (k:Nat) (M:List UInt8):Prop:=X6_ (marks04.drop k) l=M
theorem Qbn_ {l M:List UInt8} {k:Nat} (h:YV_ l k M) (hk:21<=k):M=[]:=by
 unfold YV_ at h;rw[List.drop_of_length_le (by exact hk)]at h;exact h.symm
theorem Qbo_ {l M:List UInt8} {k:Nat} {x:BA} (h:YV_ l k M) (hx:G1_[k]? =some x) (hp:x.data.toList.isPrefixOf l=true):(⟨M.toArray⟩:BA)=x:=by
 rw[xh_,List.getElem?_map]at hx;obtain⟨m,hm,rfl⟩:=Option.map_eq_some_iff.1 hx;obtain⟨a,he⟩:=gs_.1 hm;unfold YV_ at h;rw[List.drop_eq_getElem_cons a,he]at h;rw[Vn_ (by simpa using hp)]at h;rw[h]
theorem Qds_ {l M:List UInt8} {k:Nat} {x:BA} (h:YV_ l k M) (hx:G1_[k]? =some x) (hp:x.data.toList.isPrefixOf l=false):YV_ l (k+1) M:=by
 rw[xh_,List.getElem?_map]at hx;obtain⟨m,hm,rfl⟩:=Option.map_eq_some_iff.1 hx;obtain⟨a,he⟩:=gs_.1 hm;unfold YV_ at h;rw[List.drop_eq_getElem_cons a,he]at h;rw[JS_ (by rw[show m.isPrefixOf l=false from hp];decide)]at h;exact h
theorem QhB_ {s x:BA} {q:Nat} (h:q+x.size<=s.size):((s.extract q (q+x.size)).toList==x.toList)=x.data.toList.isPrefixOf (s.data.toList.drop q):=by
 rw[ByteArray.toList_eq,ByteArray.toList_eq,XK_];have hx:x.data.toList.length=x.size:=QF_ x
 cases hp:x.data.toList.isPrefixOf (s.data.toList.drop q)with
 |true=>
  have:=List.prefix_iff_eq_take.1 (List.isPrefixOf_iff_prefix.1 hp);rw[hx]at this;rw[beq_iff_eq];exact this.symm
 |false=>
  rw[bn_];intro e;have:x.data.toList.isPrefixOf (s.data.toList.drop q)=true:=by
   rw[List.isPrefixOf_iff_prefix,List.prefix_iff_eq_take,hx];exact e.symm
  rw[hp]at this;cases this
theorem QdV_ {s x:BA} {q:Nat} (h:¬q+x.size<=s.size) (hq:q<=s.size):x.data.toList.isPrefixOf (s.data.toList.drop q)=false:=by
 cases hp:x.data.toList.isPrefixOf (s.data.toList.drop q)with
 |false=>rfl
 |true=>
  have:=(List.isPrefixOf_iff_prefix.1 hp).length_le;rw[QF_,List.length_drop,QF_]at this;omega
theorem jx_ (s:BA) (q:Nat) (w:World) (hq:q<=s.size) (hs:s.size<=4611686018427387904):
  Calls prog 90 #[T_ s,I_ j_ q] w fun e w'=>e=R_ (T_ ⟨(XU_ (s.data.toList.drop q)).toArray⟩)/\Below w.heap.size w w':=by
 have a:Hid (YV_ (s.data.toList.drop q) 0 (XU_ (s.data.toList.drop q))):=rfl;generalize XU_ (s.data.toList.drop q)=M at a |-
 have g:=h_ (fun(x:BA) (h:q+x.size<=s.size)=>QhB_ (s:=s) (x:=x) (q:=q) h);have j:=h_ (fun(x:BA) (h:¬q+x.size<=s.size)=>QdV_ (s:=s) (x:=x) h hq);generalize s.data.toList.drop q=l at a g j;go_enter func90,ntmps90;go_wp2_with fail
 refine(kW_ _).mono ?_;rintro e w1 ⟨A,rfl,hr,t⟩;have c:=h_ hr;clear hr;go_wp2;go_loopw [6] (fun i wr=>∃k:Nat,k<=21/\Hid (YV_ l k M)/\i=I_ j_ k/\Hid (Rd wr 1 A 21 (Qm_ G1_))/\Below w.heap.size w wr) (fun i _=>21 - (intOf i).toNat)
 case atStart=>exact⟨0,oo,a,rfl,c,t⟩
 case round=>
  clear c t;obtain⟨k,hk,p,rfl,c,t⟩:=hrel;clear a;by_cases m:k < 21
  ·obtain⟨x,o⟩:∃x,G1_[k]? =some x:=⟨_,gE (by exact m)⟩;have B:=QdA_ x (lm_ o);have r:=h_ (fun h=>Qbo_ p o h);have f:Hid (x.data.toList.isPrefixOf l=false->YV_ l (k+1) M):=(show _->_ from fun h=>Qds_ p o h);obtain⟨b,off,rfl,y,c0⟩:=Ud_ c.o m o;clear o p;by_cases hz:q+x.size<=s.size
   ·have n:=g.o x hz;have d2:decide ((q:Int)+x.size<=s.size)=true:=dt_ oo;have g2:(q:Int)+x.size<=s.size:=oo;have z:∀W:World,(Instr.slice 9 (T_ s) (some (I_ j_ (q:Int))) (some (I_ j_ ((q:Int)+x.size))) none).run prog W=.ok (T_ (s.extract q (q+x.size))) W:=fun W=>by
     have h:=run_slice_string (P:=prog) W 9 s j_ j_ (q:Int) ((q:Int)+x.size) underlying9 oo oo oo;rwa[show((q:Int)+x.size).toNat=q+x.size from oo,it_]at h
    cases d:x.data.toList.isPrefixOf l with
    |true=>
     rw[d]at n;have he:=h_ (r.o d);clear r f g j d;go_wp2;go_quiet (fail);go_wp2;refine bodyPost_ret (by simp[results,Tryz.results90,go_sem,];try rfl) rfl ?_;exact⟨by rw[he.o],grow_⟩
    |false=>
     rw[d]at n;have v:Hid (YV_ l (k+1) M):=f.o d;clear r f g j d;go_wp2;go_quiet (fail);go_wp2;go_roundw
     case rel=>exact⟨k+1,oo,v,by go_num,c,grow_⟩
     case measure=>exact ms_
   ·have v:Hid (YV_ l (k+1) M):=f.o (j.o x hz);have d2:decide ((q:Int)+x.size<=s.size)=false:=df_ oo;have g2:¬(q:Int)+x.size<=s.size:=oo;clear r f g j;go_wp2;go_quiet (fail);go_wp2;go_roundw
    case rel=>exact⟨k+1,oo,v,by go_num,c,grow_⟩
    case measure=>exact ms_
  ·obtain rfl:k=21:=oo;obtain rfl:=Qbn_ p (lr_ _);go_wp2;go_ret;exact⟨rfl,t⟩
def SgR (z:Int × BA × Int × Nat) (w:World) (e:Ending) (w':World):Prop:=
 e=R_ (U_ #[A_ #[I_ j_ z.1,T_ z.2.1,I_ j_ z.2.2.1,B_ false],I_ j_ z.2.2.2])/\Below w.heap.size w w'
theorem QbU_ {l:List UInt8} (q:Nat) (h:0 < KD_ l):Kq_ l q=(5,VX_ ⟨(l.take (KD_ l)).toArray⟩,(q:Int),KD_ l):=by unfold Kq_;rw[ip_ h]
theorem Qee_ {c:UInt8} {l:List UInt8} (q:Nat) (h:KD_ (c::l)=0) (hc:c=39):Kq_ (c::l) q=(3,⟨((c::l).take (Ur_ (c::l))).toArray⟩,(q:Int),Ur_ (c::l)):=by
 subst hc;unfold Kq_;rw[in_ oo];simp only;rw[in_ dc_,in_ dc_,ip_ trivial]
theorem QbT_ {c:UInt8} {l:List UInt8} (q:Nat) (h:KD_ (c::l)=0) (h1:QN_ c=false) (h2:Kz_ c=false) (hc:¬c=39):Kq_ (c::l) q=(4,⟨(XU_ (c::l)).toArray⟩,(q:Int),(XU_ (c::l)).length):=by
 unfold Kq_;rw[in_ oo];simp only;rw[in_ (by rw[h1];decide),in_ (by rw[h2];decide),in_ hc]
theorem v7_ (l:List UInt8):KD_ l<=l.length:=by
 unfold KD_;split
 ·exact K3_ _ _
 ·omega
theorem QhF_ (l:List UInt8):VJ_ l<=l.length:=by
 induction l with
 |nil=>exact lr_ _
 |cons c l ih=>
  unfold VJ_;split
  ·simp
  split
  ·split<;>simp<;>omega
  simp
theorem QdY_ (l:List UInt8):Ur_ l<=l.length:=by
 unfold Ur_;split
 ·omega
 ·have:=QhF_ (l.drop 1);rw[List.length_drop]at this;omega
theorem QfD_ (l:List UInt8):(XU_ l).length<=2:=by
 have b:∀a:List (List UInt8),(∀m∈a,m.length<=2)->(X6_ a l).length<=2:=by
  intro a
  induction a with
  |nil=>intro _;simp[X6_]
  |cons m a ih=>
   intro h;by_cases hm:m.isPrefixOf l=true
   ·rw[Vn_ hm];exact h m (List.mem_cons_self ..)
   ·rw[JS_ hm];exact ih (fun x hx=>h x (List.mem_cons_of_mem _ hx))
 exact b marks04 dc_
theorem k0_ (s:BA) (q:Nat) (w:World) (hq:q < s.size) (hs:s.size<=1048576) (hn:0 < KD_ (s.data.toList.drop q)):
  Calls prog 68 #[T_ s,I_ j_ q] w (SgR (Kq_ (s.data.toList.drop q) q) w):=by
 rw[QbU_ q hn,<-XK_];have a:=v7_ (s.data.toList.drop q);rw[List.length_drop,QF_]at a;have HN:=h_ (fun W=>Zf_ s q W oo oo);generalize KD_ (s.data.toList.drop q)=n at hn a HN |-
 have HT:=h_ (fun W=>Vw_ (s.extract q (q+n)) W (by unfold maxLen;simp;omega));have b:∀W:World,(Instr.slice 9 (T_ s) (some (I_ j_ (q:Int))) (some (I_ j_ ((q:Int)+n))) none).run prog W=.ok (T_ (s.extract q (q+n))) W:=fun W=>by
  have h:=run_slice_string (P:=prog) W 9 s j_ j_ (q:Int) ((q:Int)+n) underlying9 oo oo oo;rwa[show((q:Int)+n).toNat=q+n from oo,it_]at h
 unfold SgR;generalize VX_ (s.extract q (q+n))=x at HT |-
 go_enter func68,ntmps68;go_wp2_with fail
 refine(HN.o _).mono ?_;rintro e w1 ⟨rfl,rfl⟩;have hK:=Blk.new w 89 #[I_ j_ 0,T_ ⟨#[]⟩,I_ j_ 0,B_ false];go_wp2_with fail
 refine(HT.o _).mono ?_;rintro e w2 ⟨rfl,rfl⟩;go_wp2;refine bodyPost_ret (by simp[results,Tryz.results68,go_sem,];try rfl) rfl ?_;exact⟨rfl,grow_⟩
theorem zU_ {c:UInt8} {l:List UInt8} (q:Nat) (h:KD_ (c::l)=0) (h1:QN_ c=true):Kq_ (c::l) q=if 30 < Zb_ Qp_ (c::l)then (0,⟨#[]⟩,0,0)else (1,⟨((c::l).take (Zb_ Qp_ (c::l))).toArray⟩,(q:Int),Zb_ Qp_ (c::l)):=by
 unfold Kq_;rw[in_ oo];simp only;rw[ip_ h1]
theorem xw_ {c:UInt8} {l:List UInt8} (q:Nat) (h:KD_ (c::l)=0) (h1:QN_ c=false) (h2:Kz_ c=true):Kq_ (c::l) q=if 12 < Zb_ Kz_ (c::l)then (0,⟨#[]⟩,0,0)else (2,⟨((c::l).take (Zb_ Kz_ (c::l))).toArray⟩,(q:Int),Zb_ Kz_ (c::l)):=by
 unfold Kq_;rw[in_ oo];simp only;rw[in_ (by rw[h1];decide),ip_ h2]
def Xk_ (p:UInt8->Bool) (s:BA) (q n:Nat):Prop:=((s.data.toList.drop q).take (n - q)).all p=true
section
variable {p:UInt8->Bool} {s:BA} {q n:Nat}
theorem VN_ (p:UInt8->Bool) (s:BA) (q:Nat):Xk_ p s q q:=by unfold Xk_;rw[Nat.sub_self];rfl
theorem XA_ (h:Xk_ p s q n) (hq:q<=n) (hn:n < s.size) (hc:p s[n]=true):Xk_ p s q (n+1):=by
 unfold Xk_ at h |-
 have hl:n - q < (s.data.toList.drop q).length:=by rw[Zl_];omega
 rw[show n+1 - q=n - q+1 from oo,List.take_succ_eq_append_getElem hl,List.all_append,h,jg_ hq hn hl];simp[hc]
theorem VM_ (h:Xk_ p s q n) (hq:q<=n) (hn:n < s.size) (hc:p s[n]=false):Zb_ p (s.data.toList.drop q)=n - q:=
 jR_ h (fun hl=>by rw[jg_ hq hn hl];exact hc) (by rw[Zl_];omega)
theorem J2_ (h:Xk_ p s q n) (hq:q<=n) (hn:n=s.size):Zb_ p (s.data.toList.drop q)=n - q:=
 jR_ h (fun hl=>by rw[Zl_]at hl;omega) (by rw[Zl_];omega)
end
theorem kZ_ (s:BA) (q:Nat) (w:World) (hq:q < s.size) (hs:s.size<=1048576) (f:KD_ (s.data.toList.drop q)=0) (g:QN_ s[q]=true) (C:¬30 < Zb_ Qp_ (s.data.toList.drop q)):
  Calls prog 68 #[T_ s,I_ j_ q] w (SgR (Kq_ (s.data.toList.drop q) q) w):=by
 have hz:Kq_ (s.data.toList.drop q) q=(1,s.extract q (q+Zb_ Qp_ (s.data.toList.drop q)),(q:Int),Zb_ Qp_ (s.data.toList.drop q)):=by
  rw[XK_];rw[KL_ hq]at f C |-
  rw[zU_ q f g,in_ C]
 rw[hz];clear hz;have HN:=h_ (fun W=>show Calls prog 85 #[T_ s,I_ j_ q] W fun e w'=>e=R_ (I_ j_ 0)/\W=w' by have h:=Zf_ s q W oo oo;rwa[f]at h);have m:=h_ (fun(W:World)=>show Calls prog 87 #[I_ .u8 (s[q].toNat:Int)] W fun e w'=>e=R_ (B_ true)/\W=w' by rw[<-g];exact Km_ _ W);have p:=K3_ Qp_ (s.data.toList.drop q);rw[Zl_]at p;have v:=h_ (fun(n:Nat) (h:Xk_ Qp_ s q n) h1 (B:n < s.size) h3=>VM_ h h1 B h3);have t:=h_ (fun(n:Nat) (h:Xk_ Qp_ s q n) h1 (B:n=s.size)=>J2_ h h1 B);generalize Zb_ Qp_ (s.data.toList.drop q)=K at C p v t |-
 unfold SgR;have hK:=Blk.new w 89 #[I_ j_ 0,T_ ⟨#[]⟩,I_ j_ 0,B_ false];clear f g;go_enter func68,ntmps68;go_wp2_with fail
 refine(HN.o _).mono ?_;rintro e w1 ⟨rfl,rfl⟩;go_wp2_with fail
 refine(m.o _).mono ?_;rintro e w1 ⟨rfl,rfl⟩;go_wp2;clear HN m
 go_loop [6] (fun i=>∃n:Nat,q<=n/\n<=s.size/\Hid (Xk_ Qp_ s q n)/\i=I_ j_ n) (fun i=>s.size - (intOf i).toNat)
 case atStart=>exact⟨q,oo,oo,VN_ _ _ _,rfl⟩
 case round=>
  obtain⟨n,d,E,l,rfl⟩:=hrel;by_cases k:n < s.size
  ·have x:=h_ (fun(b:Bool) (g:QN_ s[n]=b) (W:World)=>show Calls prog 87 #[I_ .u8 (s[n].toNat:Int)] W fun e w'=>e=R_ (B_ b)/\W=w' by rw[<-g];exact Km_ _ W);have y:=h_ (fun(b:Bool) (g:Kz_ s[n]=b) (W:World)=>show Calls prog 88 #[I_ .u8 (s[n].toNat:Int)] W fun e w'=>e=R_ (B_ b)/\W=w' by rw[<-g];exact Q6_ _ W)
   cases r:QN_ s[n]with
   |true=>
    have a:=h_ (x.o _ r);have f:Hid (Xk_ Qp_ s q (n+1)):=XA_ l d k (show Qp_ s[n]=true by unfold Qp_;rw[r];rfl);go_wp2_with fail
    refine(a.o _).mono ?_;rintro e w1 ⟨rfl,rfl⟩;go_wp2
    go_round
    case rel=>exact⟨n+1,oo,oo,f,by go_num⟩
    case measure=>exact ms_
   |false=>
    have a:=h_ (x.o _ r)
    cases o:Kz_ s[n]with
    |true=>
     have c:=h_ (y.o _ o);have f:Hid (Xk_ Qp_ s q (n+1)):=XA_ l d k (show Qp_ s[n]=true by unfold Qp_;rw[o,Bool.or_true]);go_wp2_with fail
     refine(a.o _).mono ?_;rintro e w1 ⟨rfl,rfl⟩;go_wp2_with fail
     refine(c.o _).mono ?_;rintro e w1 ⟨rfl,rfl⟩;go_wp2
     go_round
     case rel=>exact⟨n+1,oo,oo,f,by go_num⟩
     case measure=>exact ms_
    |false=>
     have c:=h_ (y.o _ o);have j:=v.o n l d k (show Qp_ s[n]=false by unfold Qp_;rw[r,o];rfl);clear x y r o;go_wp2_with fail
     refine(a.o _).mono ?_;rintro e w1 ⟨rfl,rfl⟩;go_wp2_with fail
     refine(c.o _).mono ?_;rintro e w1 ⟨rfl,rfl⟩;have g3:¬(30:Int) < (n:Int) - q:=oo;have z:q+K=n:=oo;have A:((K:Nat):Int)=(n:Int) - q:=oo;have D:∀W:World,(Instr.slice 9 (T_ s) (some (I_ j_ (q:Int))) (some (I_ j_ (n:Int))) none).run prog W=.ok (T_ (s.extract q n)) W:=fun W=>by
      have h:=run_slice_string (P:=prog) W 9 s j_ j_ (q:Int) (n:Int) underlying9 oo oo oo;rwa[it_,it_]at h
     clear v t l j a c;go_wp2;refine bodyPost_ret (by simp[results,Tryz.results68,go_sem,];try rfl) rfl ?_;exact⟨by simp only[z,A],grow_⟩
  ·have j:=t.o n l d oo;have gl:¬(n:Int) < s.size:=oo;have g3:¬(30:Int) < (n:Int) - q:=oo;have z:q+K=n:=oo;have A:((K:Nat):Int)=(n:Int) - q:=oo;have D:∀W:World,(Instr.slice 9 (T_ s) (some (I_ j_ (q:Int))) (some (I_ j_ (n:Int))) none).run prog W=.ok (T_ (s.extract q n)) W:=fun W=>by
    have h:=run_slice_string (P:=prog) W 9 s j_ j_ (q:Int) (n:Int) underlying9 oo oo oo;rwa[it_,it_]at h
   clear v t l j;go_wp2;refine bodyPost_ret (by simp[results,Tryz.results68,go_sem,];try rfl) rfl ?_;exact⟨by simp only[z,A],grow_⟩
theorem Gv_ (s:BA) (q:Nat) (w:World) (hq:q < s.size) (hs:s.size<=1048576) (f:KD_ (s.data.toList.drop q)=0) (g:QN_ s[q]=true) (A:30 < Zb_ Qp_ (s.data.toList.drop q)):
  Calls prog 68 #[T_ s,I_ j_ q] w (SgR (Kq_ (s.data.toList.drop q) q) w):=by
 have hz:Kq_ (s.data.toList.drop q) q=(0,⟨#[]⟩,0,0):=by
  skip
  rw[KL_ hq]at f A |-
  rw[zU_ q f g,ip_ A]
 rw[hz];clear hz;have HN:=h_ (fun W=>show Calls prog 85 #[T_ s,I_ j_ q] W fun e w'=>e=R_ (I_ j_ 0)/\W=w' by have h:=Zf_ s q W oo oo;rwa[f]at h);have m:=h_ (fun(W:World)=>show Calls prog 87 #[I_ .u8 (s[q].toNat:Int)] W fun e w'=>e=R_ (B_ true)/\W=w' by rw[<-g];exact Km_ _ W);have p:=K3_ Qp_ (s.data.toList.drop q);rw[Zl_]at p;have v:=h_ (fun(n:Nat) (h:Xk_ Qp_ s q n) h1 (z:n < s.size) h3=>VM_ h h1 z h3);have t:=h_ (fun(n:Nat) (h:Xk_ Qp_ s q n) h1 (z:n=s.size)=>J2_ h h1 z);generalize Zb_ Qp_ (s.data.toList.drop q)=K at A p v t |-
 unfold SgR;have hK:=Blk.new w 89 #[I_ j_ 0,T_ ⟨#[]⟩,I_ j_ 0,B_ false];clear f g;go_enter func68,ntmps68;go_wp2_with fail
 refine(HN.o _).mono ?_;rintro e w1 ⟨rfl,rfl⟩;go_wp2_with fail
 refine(m.o _).mono ?_;rintro e w1 ⟨rfl,rfl⟩;go_wp2;clear HN m
 go_loop [6] (fun i=>∃n:Nat,q<=n/\n<=s.size/\Hid (Xk_ Qp_ s q n)/\i=I_ j_ n) (fun i=>s.size - (intOf i).toNat)
 case atStart=>exact⟨q,oo,oo,VN_ _ _ _,rfl⟩
 case round=>
  obtain⟨n,d,B,l,rfl⟩:=hrel;by_cases k:n < s.size
  ·have x:=h_ (fun(b:Bool) (g:QN_ s[n]=b) (W:World)=>show Calls prog 87 #[I_ .u8 (s[n].toNat:Int)] W fun e w'=>e=R_ (B_ b)/\W=w' by rw[<-g];exact Km_ _ W);have y:=h_ (fun(b:Bool) (g:Kz_ s[n]=b) (W:World)=>show Calls prog 88 #[I_ .u8 (s[n].toNat:Int)] W fun e w'=>e=R_ (B_ b)/\W=w' by rw[<-g];exact Q6_ _ W)
   cases r:QN_ s[n]with
   |true=>
    have a:=h_ (x.o _ r);have f:Hid (Xk_ Qp_ s q (n+1)):=XA_ l d k (show Qp_ s[n]=true by unfold Qp_;rw[r];rfl);go_wp2_with fail
    refine(a.o _).mono ?_;rintro e w1 ⟨rfl,rfl⟩;go_wp2
    go_round
    case rel=>exact⟨n+1,oo,oo,f,by go_num⟩
    case measure=>exact ms_
   |false=>
    have a:=h_ (x.o _ r)
    cases o:Kz_ s[n]with
    |true=>
     have c:=h_ (y.o _ o);have f:Hid (Xk_ Qp_ s q (n+1)):=XA_ l d k (show Qp_ s[n]=true by unfold Qp_;rw[o,Bool.or_true]);go_wp2_with fail
     refine(a.o _).mono ?_;rintro e w1 ⟨rfl,rfl⟩;go_wp2_with fail
     refine(c.o _).mono ?_;rintro e w1 ⟨rfl,rfl⟩;go_wp2
     go_round
     case rel=>exact⟨n+1,oo,oo,f,by go_num⟩
     case measure=>exact ms_
    |false=>
     have c:=h_ (y.o _ o);have j:=v.o n l d k (show Qp_ s[n]=false by unfold Qp_;rw[r,o];rfl);clear x y r o;go_wp2_with fail
     refine(a.o _).mono ?_;rintro e w1 ⟨rfl,rfl⟩;go_wp2_with fail
     refine(c.o _).mono ?_;rintro e w1 ⟨rfl,rfl⟩;have g3:  (30:Int) < (n:Int) - q:=oo;clear v t l j a c;go_wp2;refine bodyPost_ret (by simp[results,Tryz.results68,go_sem,];try rfl) rfl ?_;exact⟨rfl,grow_⟩
  ·have j:=t.o n l d oo;have gl:¬(n:Int) < s.size:=oo;have g3:  (30:Int) < (n:Int) - q:=oo;clear v t l j;go_wp2;refine bodyPost_ret (by simp[results,Tryz.results68,go_sem,];try rfl) rfl ?_;exact⟨rfl,grow_⟩
theorem jy_ (s:BA) (q:Nat) (w:World) (hq:q < s.size) (hs:s.size<=1048576) (g:KD_ (s.data.toList.drop q)=0) (m:QN_ s[q]=false) (c:Kz_ s[q]=true) (A:¬12 < Zb_ Kz_ (s.data.toList.drop q)):
  Calls prog 68 #[T_ s,I_ j_ q] w (SgR (Kq_ (s.data.toList.drop q) q) w):=by
 have hz:Kq_ (s.data.toList.drop q) q=(2,s.extract q (q+Zb_ Kz_ (s.data.toList.drop q)),(q:Int),Zb_ Kz_ (s.data.toList.drop q)):=by
  rw[XK_];rw[KL_ hq]at g A |-
  rw[xw_ q g m c,in_ A]
 rw[hz];clear hz;have HN:=h_ (fun W=>show Calls prog 85 #[T_ s,I_ j_ q] W fun e w'=>e=R_ (I_ j_ 0)/\W=w' by have h:=Zf_ s q W oo oo;rwa[g]at h);have j:=h_ (fun(W:World)=>show Calls prog 87 #[I_ .u8 (s[q].toNat:Int)] W fun e w'=>e=R_ (B_ false)/\W=w' by rw[<-m];exact Km_ _ W);have k:=h_ (fun(W:World)=>show Calls prog 88 #[I_ .u8 (s[q].toNat:Int)] W fun e w'=>e=R_ (B_ true)/\W=w' by rw[<-c];exact Q6_ _ W);have o:=K3_ Kz_ (s.data.toList.drop q);rw[Zl_]at o;have t:=h_ (fun(n:Nat) (h:Xk_ Kz_ s q n) h1 (z:n < s.size) h3=>VM_ h h1 z h3);have r:=h_ (fun(n:Nat) (h:Xk_ Kz_ s q n) h1 (z:n=s.size)=>J2_ h h1 z);generalize Zb_ Kz_ (s.data.toList.drop q)=K at A o t r |-
 unfold SgR;have hK:=Blk.new w 89 #[I_ j_ 0,T_ ⟨#[]⟩,I_ j_ 0,B_ false];clear g m c;go_enter func68,ntmps68;go_wp2_with fail
 refine(HN.o _).mono ?_;rintro e w1 ⟨rfl,rfl⟩;go_wp2_with fail
 refine(j.o _).mono ?_;rintro e w1 ⟨rfl,rfl⟩;go_wp2_with fail
 refine(k.o _).mono ?_;rintro e w1 ⟨rfl,rfl⟩;go_wp2;clear HN j k
 go_loop [6] (fun i=>∃n:Nat,q<=n/\n<=s.size/\Hid (Xk_ Kz_ s q n)/\i=I_ j_ n) (fun i=>s.size - (intOf i).toNat)
 case atStart=>exact⟨q,oo,oo,VN_ _ _ _,rfl⟩
 case round=>
  obtain⟨n,f,C,l,rfl⟩:=hrel;by_cases p:n < s.size
  ·skip
   have v:=h_ (fun(b:Bool) (m:Kz_ s[n]=b) (W:World)=>show Calls prog 88 #[I_ .u8 (s[n].toNat:Int)] W fun e w'=>e=R_ (B_ b)/\W=w' by rw[<-m];exact Q6_ _ W)
   cases c:Kz_ s[n]with
   |true=>
    have a:=h_ (v.o _ c);have g:Hid (Xk_ Kz_ s q (n+1)):=XA_ l f p (c);go_wp2_with fail
    refine(a.o _).mono ?_;rintro e w1 ⟨rfl,rfl⟩;go_wp2
    go_round
    case rel=>exact⟨n+1,oo,oo,g,by go_num⟩
    case measure=>exact ms_
   |false=>
    have a:=h_ (v.o _ c);have d:=t.o n l f p c;clear v c;go_wp2_with fail
    refine(a.o _).mono ?_;rintro e w1 ⟨rfl,rfl⟩;have g3:¬(12:Int) < (n:Int) - q:=oo;have x:q+K=n:=oo;have y:((K:Nat):Int)=(n:Int) - q:=oo;have B:∀W:World,(Instr.slice 9 (T_ s) (some (I_ j_ (q:Int))) (some (I_ j_ (n:Int))) none).run prog W=.ok (T_ (s.extract q n)) W:=fun W=>by
     have h:=run_slice_string (P:=prog) W 9 s j_ j_ (q:Int) (n:Int) underlying9 oo oo oo;rwa[it_,it_]at h
    clear t r l d a;go_wp2;refine bodyPost_ret (by simp[results,Tryz.results68,go_sem,];try rfl) rfl ?_;exact⟨by simp only[x,y],grow_⟩
  ·have d:=r.o n l f oo;have gl:¬(n:Int) < s.size:=oo;have g3:¬(12:Int) < (n:Int) - q:=oo;have x:q+K=n:=oo;have y:((K:Nat):Int)=(n:Int) - q:=oo;have B:∀W:World,(Instr.slice 9 (T_ s) (some (I_ j_ (q:Int))) (some (I_ j_ (n:Int))) none).run prog W=.ok (T_ (s.extract q n)) W:=fun W=>by
    have h:=run_slice_string (P:=prog) W 9 s j_ j_ (q:Int) (n:Int) underlying9 oo oo oo;rwa[it_,it_]at h
   clear t r l d;go_wp2;refine bodyPost_ret (by simp[results,Tryz.results68,go_sem,];try rfl) rfl ?_;exact⟨by simp only[x,y],grow_⟩
theorem Uo_ (s:BA) (q:Nat) (w:World) (hq:q < s.size) (hs:s.size<=1048576) (g:KD_ (s.data.toList.drop q)=0) (m:QN_ s[q]=false) (c:Kz_ s[q]=true) (y:12 < Zb_ Kz_ (s.data.toList.drop q)):
  Calls prog 68 #[T_ s,I_ j_ q] w (SgR (Kq_ (s.data.toList.drop q) q) w):=by
 have hz:Kq_ (s.data.toList.drop q) q=(0,⟨#[]⟩,0,0):=by
  skip
  rw[KL_ hq]at g y |-
  rw[xw_ q g m c,ip_ y]
 rw[hz];clear hz;have HN:=h_ (fun W=>show Calls prog 85 #[T_ s,I_ j_ q] W fun e w'=>e=R_ (I_ j_ 0)/\W=w' by have h:=Zf_ s q W oo oo;rwa[g]at h);have j:=h_ (fun(W:World)=>show Calls prog 87 #[I_ .u8 (s[q].toNat:Int)] W fun e w'=>e=R_ (B_ false)/\W=w' by rw[<-m];exact Km_ _ W);have k:=h_ (fun(W:World)=>show Calls prog 88 #[I_ .u8 (s[q].toNat:Int)] W fun e w'=>e=R_ (B_ true)/\W=w' by rw[<-c];exact Q6_ _ W);have o:=K3_ Kz_ (s.data.toList.drop q);rw[Zl_]at o;have t:=h_ (fun(n:Nat) (h:Xk_ Kz_ s q n) h1 (x:n < s.size) h3=>VM_ h h1 x h3);have r:=h_ (fun(n:Nat) (h:Xk_ Kz_ s q n) h1 (x:n=s.size)=>J2_ h h1 x);generalize Zb_ Kz_ (s.data.toList.drop q)=K at y o t r |-
 unfold SgR;have hK:=Blk.new w 89 #[I_ j_ 0,T_ ⟨#[]⟩,I_ j_ 0,B_ false];clear g m c;go_enter func68,ntmps68;go_wp2_with fail
 refine(HN.o _).mono ?_;rintro e w1 ⟨rfl,rfl⟩;go_wp2_with fail
 refine(j.o _).mono ?_;rintro e w1 ⟨rfl,rfl⟩;go_wp2_with fail
 refine(k.o _).mono ?_;rintro e w1 ⟨rfl,rfl⟩;go_wp2;clear HN j k
 go_loop [6] (fun i=>∃n:Nat,q<=n/\n<=s.size/\Hid (Xk_ Kz_ s q n)/\i=I_ j_ n) (fun i=>s.size - (intOf i).toNat)
 case atStart=>exact⟨q,oo,oo,VN_ _ _ _,rfl⟩
 case round=>
  obtain⟨n,f,z,l,rfl⟩:=hrel;by_cases p:n < s.size
  ·skip
   have v:=h_ (fun(b:Bool) (m:Kz_ s[n]=b) (W:World)=>show Calls prog 88 #[I_ .u8 (s[n].toNat:Int)] W fun e w'=>e=R_ (B_ b)/\W=w' by rw[<-m];exact Q6_ _ W)
   cases c:Kz_ s[n]with
   |true=>
    have a:=h_ (v.o _ c);have g:Hid (Xk_ Kz_ s q (n+1)):=XA_ l f p (c);go_wp2_with fail
    refine(a.o _).mono ?_;rintro e w1 ⟨rfl,rfl⟩;go_wp2
    go_round
    case rel=>exact⟨n+1,oo,oo,g,by go_num⟩
    case measure=>exact ms_
   |false=>
    have a:=h_ (v.o _ c);have d:=t.o n l f p c;clear v c;go_wp2_with fail
    refine(a.o _).mono ?_;rintro e w1 ⟨rfl,rfl⟩;have g3:  (12:Int) < (n:Int) - q:=oo;clear t r l d a;go_wp2;refine bodyPost_ret (by simp[results,Tryz.results68,go_sem,];try rfl) rfl ?_;exact⟨rfl,grow_⟩
  ·have d:=r.o n l f oo;have gl:¬(n:Int) < s.size:=oo;have g3:  (12:Int) < (n:Int) - q:=oo;clear t r l d;go_wp2;refine bodyPost_ret (by simp[results,Tryz.results68,go_sem,];try rfl) rfl ?_;exact⟨rfl,grow_⟩
theorem jz_ (s:BA) (q:Nat) (w:World) (hq:q < s.size) (hs:s.size<=1048576) (f:KD_ (s.data.toList.drop q)=0) (c:s[q]=39):
  Calls prog 68 #[T_ s,I_ j_ q] w (SgR (Kq_ (s.data.toList.drop q) q) w):=by
 have hz:Kq_ (s.data.toList.drop q) q=(3,s.extract q (q+Ur_ (s.data.toList.drop q)),(q:Int),Ur_ (s.data.toList.drop q)):=by
  rw[XK_];rw[KL_ hq]at f |-
  rw[Qee_ q f c]
 rw[hz];clear hz;have HN:=h_ (fun W=>show Calls prog 85 #[T_ s,I_ j_ q] W fun e w'=>e=R_ (I_ j_ 0)/\W=w' by have h:=Zf_ s q W oo oo;rwa[f]at h);have a:=h_ (fun(W:World)=>show Calls prog 87 #[I_ .u8 (s[q].toNat:Int)] W fun e w'=>e=R_ (B_ false)/\W=w' by rw[show false=QN_ s[q]by rw[c];rfl];exact Km_ _ W);have b:=h_ (fun(W:World)=>show Calls prog 88 #[I_ .u8 (s[q].toNat:Int)] W fun e w'=>e=R_ (B_ false)/\W=w' by rw[show false=Kz_ s[q]by rw[c];rfl];exact Q6_ _ W);have g:=h_ (fun W=>JQ_ s q W oo oo);have i:((s[q].toNat:Int)==39)=true:=by rw[c];rfl
 have d:=QdY_ (s.data.toList.drop q);rw[Zl_]at d;generalize Ur_ (s.data.toList.drop q)=n at d g |-
 have j:∀W:World,(Instr.slice 9 (T_ s) (some (I_ j_ (q:Int))) (some (I_ j_ ((q:Int)+n))) none).run prog W=.ok (T_ (s.extract q (q+n))) W:=fun W=>by
  have h:=run_slice_string (P:=prog) W 9 s j_ j_ (q:Int) ((q:Int)+n) underlying9 oo oo oo;rwa[show((q:Int)+n).toNat=q+n from oo,it_]at h
 unfold SgR;have hK:=Blk.new w 89 #[I_ j_ 0,T_ ⟨#[]⟩,I_ j_ 0,B_ false];clear f c;go_enter func68,ntmps68;go_wp2_with fail
 refine(HN.o _).mono ?_;rintro e w1 ⟨rfl,rfl⟩;go_wp2_with fail
 refine(a.o _).mono ?_;rintro e w1 ⟨rfl,rfl⟩;go_wp2_with fail
 refine(b.o _).mono ?_;rintro e w1 ⟨rfl,rfl⟩;go_wp2_with fail
 refine(g.o _).mono ?_;rintro e w1 ⟨rfl,rfl⟩;clear HN a b g;go_wp2;refine bodyPost_ret (by simp[results,Tryz.results68,go_sem,];try rfl) rfl ?_;exact⟨rfl,grow_⟩
theorem kY_ (s:BA) (q:Nat) (w:World) (hq:q < s.size) (hs:s.size<=1048576) (f:KD_ (s.data.toList.drop q)=0) (g:QN_ s[q]=false) (j:Kz_ s[q]=false) (i:¬s[q]=39):
  Calls prog 68 #[T_ s,I_ j_ q] w (SgR (Kq_ (s.data.toList.drop q) q) w):=by
 have hz:Kq_ (s.data.toList.drop q) q=(4,⟨(XU_ (s.data.toList.drop q)).toArray⟩,(q:Int),(XU_ (s.data.toList.drop q)).length):=by
  rw[KL_ hq]at f |-
  rw[QbT_ q f g j i]
 rw[hz];clear hz;have HN:=h_ (fun W=>show Calls prog 85 #[T_ s,I_ j_ q] W fun e w'=>e=R_ (I_ j_ 0)/\W=w' by have h:=Zf_ s q W oo oo;rwa[f]at h);have b:=h_ (fun(W:World)=>show Calls prog 87 #[I_ .u8 (s[q].toNat:Int)] W fun e w'=>e=R_ (B_ false)/\W=w' by rw[<-g];exact Km_ _ W);have c:=h_ (fun(W:World)=>show Calls prog 88 #[I_ .u8 (s[q].toNat:Int)] W fun e w'=>e=R_ (B_ false)/\W=w' by rw[<-j];exact Q6_ _ W);have d:=h_ (fun W=>jx_ s q W oo oo);have l:=Qhq_ i;have k:=QfD_ (s.data.toList.drop q);have a:(⟨(XU_ (s.data.toList.drop q)).toArray⟩:BA).size=(XU_ (s.data.toList.drop q)).length:=rfl;revert d a;generalize (⟨(XU_ (s.data.toList.drop q)).toArray⟩:BA)=x;intro d a;rw[<-a]at k |-
 clear a;unfold SgR;have hK:=h_ (Blk.new w 89 #[I_ j_ 0,T_ ⟨#[]⟩,I_ j_ 0,B_ false]);clear f i g j;go_enter func68,ntmps68;go_wp2_with fail
 refine(HN.o _).mono ?_;rintro e w1 ⟨rfl,rfl⟩;go_wp2_with fail
 refine(b.o _).mono ?_;rintro e w1 ⟨rfl,rfl⟩;go_wp2_with fail
 refine(c.o _).mono ?_;rintro e w1 ⟨rfl,rfl⟩;go_wp2_with fail
 refine(d.o _).mono ?_;rintro e w1 ⟨rfl,h1⟩;clear HN b c d;have m:=Ql_ h1;have K:=hK.o.next h1;have c0:=K.q0;have c1:=K.q1;have c2:=K.q2;have c3:=K.q3;have fK:=K.frozen;have zK:=K.lt;go_wp2;refine bodyPost_ret (by simp[results,Tryz.results68,go_sem,c0,c1,c2,c3];try rfl) rfl ?_;exact⟨rfl,grow_⟩
theorem xE_ (s:BA) (q:Nat) (w:World) (b:q < s.size) (hs:s.size<=1048576):
  Calls prog 68 #[T_ s,I_ j_ q] w (SgR (Kq_ (s.data.toList.drop q) q) w):=by
 by_cases hn:0 < KD_ (s.data.toList.drop q)
 ·exact k0_ s q w b hs hn
 ·have a:KD_ (s.data.toList.drop q)=0:=oo
  cases c:QN_ s[q]with
  |true=>
   by_cases d:30 < Zb_ Qp_ (s.data.toList.drop q)
   ·exact Gv_ s q w b hs a c d
   ·exact kZ_ s q w b hs a c d
  |false=>
   cases e:Kz_ s[q]with
   |true=>
    by_cases d:12 < Zb_ Kz_ (s.data.toList.drop q)
    ·exact Uo_ s q w b hs a c e d
    ·exact jy_ s q w b hs a c e d
   |false=>
    by_cases hc:s[q]=39
    ·exact jz_ s q w b hs a hc
    ·exact kY_ s q w b hs a c e hc
def SgI (l:List UInt8) (w:World) (e:Ending) (w':World):Prop:=
 ∃(k:Int) (x:BA) (z:Nat) (ok:Bool),e=R_ (U_ #[I_ j_ k,T_ x,I_ j_ z,B_ ok])/\SgOk l k x z ok/\z<=l.length/\Below w.heap.size w w'
theorem kI_ (s:BA) (w:World) (a:0 < s.size) (hs:s.size<=maxLen):Calls prog 117 #[T_ s] w (SgI s.data.toList w):=by
 have hl:=QF_ s
 cases c:QN_ s[0]with
 |true=>
  refine(WD_ s w a hs c).mono fun e w' ⟨h1,b⟩=>⟨_,_,_,_,h1,QhM_ a c,?_,by subst b;exact br⟩
  rw[ZD_];exact K3_ _ _
 |false=>
  cases d:Kz_ s[0]with
  |true=>
   refine(zS_ s w a hs c d).mono fun e w' ⟨h1,b⟩=>⟨_,_,_,_,h1,QiA_ a c d,?_,by subst b;exact br⟩
   rw[ZD_];exact K3_ _ _
  |false=>
   by_cases g:s[0]=39
   ·refine(zT_ s w a hs c d g).mono fun e w' ⟨h1,b⟩=>⟨_,_,_,_,h1,QiB_ a g,?_,by subst b;exact br⟩
    rw[hl];unfold qP_;split
    ·exact lz_ _
    ·simp;omega
   ·cases h:Lib.hasPrefix s.data.toList [47,47]with
    |true=>
     refine(WE_ s w a hs c d g h).mono fun e w' ⟨h1,b⟩=>⟨_,_,_,_,h1,QhN_ a h,?_,by subst b;exact br⟩
     rw[ZD_];exact K3_ _ _
    |false=>
     have hm:=QhL_ a c d g h;refine(WC_ s w a hs c d g h).mono fun e w' ⟨h1,b⟩=>?_
     by_cases i:XO_ s=0
     ·rw[Gw_ i]at h1;refine⟨0,⟨#[]⟩,0,false,h1,?_,lz_ _,b⟩;unfold SgOk;rw[in_ dc_];intro q;rw[hm q];exact i
     ·rw[Gx_ rfl (Nat.pos_of_ne_zero i)]at h1;have f:XO_ s<=s.data.toList.length:=(by rw[hl];exact(xg_ s a).2);refine⟨4,_,_,true,h1,?_,f,b⟩;unfold SgOk;rw[ip_ rfl];exact⟨Nat.pos_of_ne_zero i,f,hm⟩
def Qk_ (k:Int):Bool:=inB k 1 11
def VW_ (k:Int):Bool:=inB k 12 17
def Ka_ (k:Int):Bool:=k==12||k==20||k==19
def ZR_ (k:Int):Bool:=VW_ k||k==19
def xR_ (k:Int):Bool:=Ka_ k||k==21
def isK (j k:Int):Bool:=k==j
theorem Q2_ {a b c:Int} {v:Bool} (h:inB a b c=v) (w:World):Calls prog 62 #[I_ j_ a,I_ j_ b,I_ j_ c] w (RS_ (B_ v) w):=by rw[<-h];exact QL_ a b c w
def vl_ (p:Int->Bool) (l:LI) (k:Nat):Prop:=(l.take k).all p=true
section
variable {p:Int->Bool} {l:LI} {k:Nat} {x:Int}
theorem XH_ (p:Int->Bool) (l:LI):vl_ p l 0:=by simp[vl_]
theorem XG_ (h:vl_ p l k) (hx:l[k]? =some x) (hp:p x=true):vl_ p l (k+1):=by
 unfold vl_ at h |-
 rw[List.take_add_one,hx,List.all_append,h];simp[hp]
theorem Jd_ (hx:l[k]? =some x) (hp:p x=false):l.all p=false:=by
 rw[List.all_eq_false];exact⟨x,lm_ hx,by simp[hp]⟩
theorem YA_ (h:vl_ p l k) (hk:l.length<=k):l.all p=true:=by
 unfold vl_ at h;rwa[List.take_of_length_le hk]at h
end
theorem Z0_ (k:Int) (w:World):Calls prog 213 #[I_ j_ k] w (RS_ (B_ (Qk_ k)) w):=by
 have H1:=h_ (fun W=>QL_ k 1 11 W);unfold Qk_;generalize inB k 1 11=u at H1 |-
 go_enter func213,ntmps213;go_wp2_with (go_at_call 62;refine(H1.o _).mono ?_;rintro e w1 ⟨rfl,rfl⟩)
 go_ret;exact⟨rfl,rfl⟩
theorem zw_ (k:Int) (w:World):Calls prog 171 #[I_ j_ k] w (RS_ (B_ (VW_ k)) w):=by
 have H1:=h_ (fun W=>QL_ k 12 17 W);unfold VW_;generalize inB k 12 17=u at H1 |-
 go_enter func171,ntmps171;go_wp2_with (go_at_call 62;refine(H1.o _).mono ?_;rintro e w1 ⟨rfl,rfl⟩)
 go_ret;exact⟨rfl,rfl⟩
theorem Zq_ (k:Int) (w:World):Calls prog 133 #[I_ j_ k] w (RS_ (B_ (Qk_ k)) w):=by
 have H1:=h_ (fun W=>KH_ k 1 11 W);unfold Qk_;generalize inB k 1 11=u at H1 |-
 go_enter func133,ntmps133;go_wp2_with (go_at_call 34;refine(H1.o _).mono ?_;rintro e w1 ⟨rfl,rfl⟩)
 go_ret;exact⟨rfl,rfl⟩
theorem Vi_ (k:Int) (w:World):Calls prog 172 #[I_ j_ k] w (RS_ (B_ (Ka_ k)) w):=by
 cases h1:(k==12)with
 |true=>
  have a:Ka_ k=true:=by unfold Ka_;rw[h1];rfl
  rw[a];clear a;go_enter func172,ntmps172;go_wp2;go_ret;exact⟨rfl,rfl⟩
 |false=>
  cases h2:(k==20)with
  |true=>
   have a:Ka_ k=true:=(by unfold Ka_;rw[h1,h2];rfl);rw[a];clear a;go_enter func172,ntmps172;go_wp2;go_ret;exact⟨rfl,rfl⟩
  |false=>
   have a:Ka_ k=(k==19):=(by unfold Ka_;rw[h1,h2];rfl);rw[a];clear a;go_enter func172,ntmps172;go_wp2;go_ret;exact⟨rfl,rfl⟩
theorem Ji_ (k:Int) (w:World):Calls prog 216 #[I_ j_ k] w (RS_ (B_ (isK 18 k)) w):=by
 go_enter func216,ntmps216;go_wp2;go_ret;refine⟨Qg_ ?_,rfl⟩
 rfl
theorem Qa8_ (k:Int) (w:World):Calls prog 215 #[I_ j_ k] w (RS_ (B_ (isK 5 k)) w):=by
 go_enter func215,ntmps215;go_wp2;go_ret;refine⟨Qg_ ?_,rfl⟩
 rfl
theorem jv_ (k:Int) (w:World):Calls prog 242 #[I_ j_ k] w (RS_ (B_ (isK 1 k)) w):=by
 go_enter func242,ntmps242;go_wp2;go_ret;refine⟨Qg_ ?_,rfl⟩
 rfl
theorem Qbd_ (k:Int) (w:World):Calls prog 217 #[I_ j_ k] w (RS_ (B_ (ZR_ k)) w):=by
 have d:=h_ (fun(b:Bool) (a:VW_ k=b) (W:World)=>show Calls prog 171 #[I_ j_ k] W fun e w'=>e=R_ (B_ b)/\W=w' by rw[<-a];exact zw_ k W)
 cases a:VW_ k with
 |true=>
  have f:=h_ (d.o _ a);have c:ZR_ k=true:=by unfold ZR_;first|(rw[a];rfl)|(unfold VW_;rw[a];rfl)
  rw[c];clear d a c;go_enter func217,ntmps217;go_wp2_with (go_at_call 171;refine(f.o _).mono ?_;rintro e w1 ⟨rfl,rfl⟩)
  go_ret;exact⟨rfl,rfl⟩
 |false=>
  have f:=h_ (d.o _ a);have c:ZR_ k=(k==19):=by unfold ZR_;first|(rw[a];rfl)|(unfold VW_;rw[a];rfl)
  rw[c];clear d a c;go_enter func217,ntmps217;go_wp2_with (go_at_call 171;refine(f.o _).mono ?_;rintro e w1 ⟨rfl,rfl⟩)
  go_ret;exact⟨rfl,rfl⟩
theorem Qdd_ (k:Int) (w:World):Calls prog 218 #[I_ j_ k] w (RS_ (B_ (xR_ k)) w):=by
 have d:=h_ (fun(b:Bool) (a:Ka_ k=b) (W:World)=>show Calls prog 172 #[I_ j_ k] W fun e w'=>e=R_ (B_ b)/\W=w' by rw[<-a];exact Vi_ k W)
 cases a:Ka_ k with
 |true=>
  have f:=h_ (d.o _ a);have c:xR_ k=true:=by unfold xR_;first|(rw[a];rfl)|(unfold VW_;rw[a];rfl)
  rw[c];clear d a c;go_enter func218,ntmps218;go_wp2_with (go_at_call 172;refine(f.o _).mono ?_;rintro e w1 ⟨rfl,rfl⟩)
  go_ret;exact⟨rfl,rfl⟩
 |false=>
  have f:=h_ (d.o _ a);have c:xR_ k=(k==21):=by unfold xR_;first|(rw[a];rfl)|(unfold VW_;rw[a];rfl)
  rw[c];clear d a c;go_enter func218,ntmps218;go_wp2_with (go_at_call 172;refine(f.o _).mono ?_;rintro e w1 ⟨rfl,rfl⟩)
  go_ret;exact⟨rfl,rfl⟩
theorem Uc_ (k:Int) (w:World):Calls prog 131 #[I_ j_ k] w (RS_ (B_ (ZR_ k)) w):=by
 have d:=h_ (fun(b:Bool) (a:inB k 12 17=b) (W:World)=>show Calls prog 34 #[I_ j_ k,I_ j_ 12,I_ j_ 17] W fun e w'=>e=R_ (B_ b)/\W=w' by rw[<-a];exact KH_ k 12 17 W)
 cases a:inB k 12 17 with
 |true=>
  have f:=h_ (d.o _ a);have c:ZR_ k=true:=by unfold ZR_;first|(rw[a];rfl)|(unfold VW_;rw[a];rfl)
  rw[c];clear d a c;go_enter func131,ntmps131;go_wp2_with (go_at_call 34;refine(f.o _).mono ?_;rintro e w1 ⟨rfl,rfl⟩)
  go_ret;exact⟨rfl,rfl⟩
 |false=>
  have f:=h_ (d.o _ a);have c:ZR_ k=(k==19):=by unfold ZR_;first|(rw[a];rfl)|(unfold VW_;rw[a];rfl)
  rw[c];clear d a c;go_enter func131,ntmps131;go_wp2_with (go_at_call 34;refine(f.o _).mono ?_;rintro e w1 ⟨rfl,rfl⟩)
  go_ret;exact⟨rfl,rfl⟩
theorem Ku_ (A:OA) (n c:Nat) (l:LI) (w:World) (hn:n<=4194304) (hl:Hid (l.length=n)) (hr:Rd w 1 A n (Qa_ l)):
  Calls prog 212 #[S_ A n c,.func (.func 213) #[] #[]] w fun e w'=>e=R_ (B_ (l.all (Qk_)))/\Below w.heap.size w w':=by
 apply KE_;have HR:=h_ hr;clear hr;go_enter func212,ntmps212;go_wp2
 go_loop [9] (fun i=>∃k:Nat,k<=n/\vl_ (Qk_) l k/\i=I_ j_ k) (fun i=>n - (intOf i).toNat)
 case atStart=>exact⟨0,lz_ _,XH_ _ l,rfl⟩
 case round=>
  obtain⟨k,hk,h,rfl⟩:=hrel;by_cases m:k < n
  ·obtain⟨x,hd⟩:∃d,l[k]? =some d:=⟨_,gE (by have:=hl.o;omega)⟩;obtain⟨b,off,rfl,p,c0⟩:=Qu_ HR.o m hd;have j:=h_ (fun(v:Bool) (hb:Qk_ x=v) (W:World)=>show Calls prog 213 #[I_ j_ x] W fun e w'=>e=R_ (B_ v)/\W=w' by rw[<-hb];exact Z0_ _ W)
   cases g:Qk_ x with
   |false=>
    have f:=h_ (Jd_ hd g);have a:=h_ (j.o _ g);clear j g hd h;go_wp2_with (go_at_call 213;refine(a.o _).mono ?_;rintro e w1 ⟨rfl,rfl⟩)
    go_ret;exact⟨Qg_ f.o.symm,rfl⟩
   |true=>
    have o:=XG_ h hd g;have a:=h_ (j.o _ g);clear j g hd h;go_wp2_with (go_at_call 213;refine(a.o _).mono ?_;rintro e w1 ⟨rfl,rfl⟩)
    go_round
    case rel=>exact⟨k+1,oo,o,by go_num⟩
    case measure=>exact ms_
  ·have f:=h_ (YA_ h (by have:=hl.o;omega));clear h;go_wp2;go_ret;exact⟨Qg_ f.o.symm,rfl⟩
theorem Qe3_ (A:OA) (n c:Nat) (l:LI) (w:World) (hn:n<=4194304) (hl:Hid (l.length=n)) (hr:Rd w 1 A n (Qa_ l)):
  Calls prog 212 #[S_ A n c,.func (.func 215) #[] #[]] w fun e w'=>e=R_ (B_ (l.all (isK 5)))/\Below w.heap.size w w':=by
 apply KE_;have HR:=h_ hr;clear hr;go_enter func212,ntmps212;go_wp2
 go_loop [9] (fun i=>∃k:Nat,k<=n/\vl_ (isK 5) l k/\i=I_ j_ k) (fun i=>n - (intOf i).toNat)
 case atStart=>exact⟨0,lz_ _,XH_ _ l,rfl⟩
 case round=>
  obtain⟨k,hk,h,rfl⟩:=hrel;by_cases m:k < n
  ·obtain⟨x,hd⟩:∃d,l[k]? =some d:=⟨_,gE (by have:=hl.o;omega)⟩;obtain⟨b,off,rfl,p,c0⟩:=Qu_ HR.o m hd;have j:=h_ (fun(v:Bool) (hb:isK 5 x=v) (W:World)=>show Calls prog 215 #[I_ j_ x] W fun e w'=>e=R_ (B_ v)/\W=w' by rw[<-hb];exact Qa8_ _ W)
   cases g:isK 5 x with
   |false=>
    have f:=h_ (Jd_ hd g);have a:=h_ (j.o _ g);clear j g hd h;go_wp2_with (go_at_call 215;refine(a.o _).mono ?_;rintro e w1 ⟨rfl,rfl⟩)
    go_ret;exact⟨Qg_ f.o.symm,rfl⟩
   |true=>
    have o:=XG_ h hd g;have a:=h_ (j.o _ g);clear j g hd h;go_wp2_with (go_at_call 215;refine(a.o _).mono ?_;rintro e w1 ⟨rfl,rfl⟩)
    go_round
    case rel=>exact⟨k+1,oo,o,by go_num⟩
    case measure=>exact ms_
  ·have f:=h_ (YA_ h (by have:=hl.o;omega));clear h;go_wp2;go_ret;exact⟨Qg_ f.o.symm,rfl⟩
theorem Qco_ (A:OA) (n c:Nat) (l:LI) (w:World) (hn:n<=4194304) (hl:Hid (l.length=n)) (hr:Rd w 1 A n (Qa_ l)):
  Calls prog 212 #[S_ A n c,.func (.func 216) #[] #[]] w fun e w'=>e=R_ (B_ (l.all (isK 18)))/\Below w.heap.size w w':=by
 apply KE_;have HR:=h_ hr;clear hr;go_enter func212,ntmps212;go_wp2
 go_loop [9] (fun i=>∃k:Nat,k<=n/\vl_ (isK 18) l k/\i=I_ j_ k) (fun i=>n - (intOf i).toNat)
 case atStart=>exact⟨0,lz_ _,XH_ _ l,rfl⟩
 case round=>
  obtain⟨k,hk,h,rfl⟩:=hrel;by_cases m:k < n
  ·obtain⟨x,hd⟩:∃d,l[k]? =some d:=⟨_,gE (by have:=hl.o;omega)⟩;obtain⟨b,off,rfl,p,c0⟩:=Qu_ HR.o m hd;have j:=h_ (fun(v:Bool) (hb:isK 18 x=v) (W:World)=>show Calls prog 216 #[I_ j_ x] W fun e w'=>e=R_ (B_ v)/\W=w' by rw[<-hb];exact Ji_ _ W)
   cases g:isK 18 x with
   |false=>
    have f:=h_ (Jd_ hd g);have a:=h_ (j.o _ g);clear j g hd h;go_wp2_with (go_at_call 216;refine(a.o _).mono ?_;rintro e w1 ⟨rfl,rfl⟩)
    go_ret;exact⟨Qg_ f.o.symm,rfl⟩
   |true=>
    have o:=XG_ h hd g;have a:=h_ (j.o _ g);clear j g hd h;go_wp2_with (go_at_call 216;refine(a.o _).mono ?_;rintro e w1 ⟨rfl,rfl⟩)
    go_round
    case rel=>exact⟨k+1,oo,o,by go_num⟩
    case measure=>exact ms_
  ·have f:=h_ (YA_ h (by have:=hl.o;omega));clear h;go_wp2;go_ret;exact⟨Qg_ f.o.symm,rfl⟩
theorem Qe4_ (A:OA) (n c:Nat) (l:LI) (w:World) (hn:n<=4194304) (hl:Hid (l.length=n)) (hr:Rd w 1 A n (Qa_ l)):
  Calls prog 212 #[S_ A n c,.func (.func 217) #[] #[]] w fun e w'=>e=R_ (B_ (l.all (ZR_)))/\Below w.heap.size w w':=by
 apply KE_;have HR:=h_ hr;clear hr;go_enter func212,ntmps212;go_wp2
 go_loop [9] (fun i=>∃k:Nat,k<=n/\vl_ (ZR_) l k/\i=I_ j_ k) (fun i=>n - (intOf i).toNat)
 case atStart=>exact⟨0,lz_ _,XH_ _ l,rfl⟩
 case round=>
  obtain⟨k,hk,h,rfl⟩:=hrel;by_cases m:k < n
  ·obtain⟨x,hd⟩:∃d,l[k]? =some d:=⟨_,gE (by have:=hl.o;omega)⟩;obtain⟨b,off,rfl,p,c0⟩:=Qu_ HR.o m hd;have j:=h_ (fun(v:Bool) (hb:ZR_ x=v) (W:World)=>show Calls prog 217 #[I_ j_ x] W fun e w'=>e=R_ (B_ v)/\W=w' by rw[<-hb];exact Qbd_ _ W)
   cases g:ZR_ x with
   |false=>
    have f:=h_ (Jd_ hd g);have a:=h_ (j.o _ g);clear j g hd h;go_wp2_with (go_at_call 217;refine(a.o _).mono ?_;rintro e w1 ⟨rfl,rfl⟩)
    go_ret;exact⟨Qg_ f.o.symm,rfl⟩
   |true=>
    have o:=XG_ h hd g;have a:=h_ (j.o _ g);clear j g hd h;go_wp2_with (go_at_call 217;refine(a.o _).mono ?_;rintro e w1 ⟨rfl,rfl⟩)
    go_round
    case rel=>exact⟨k+1,oo,o,by go_num⟩
    case measure=>exact ms_
  ·have f:=h_ (YA_ h (by have:=hl.o;omega));clear h;go_wp2;go_ret;exact⟨Qg_ f.o.symm,rfl⟩
theorem QaE_ (A:OA) (n c:Nat) (l:LI) (w:World) (hn:n<=4194304) (hl:Hid (l.length=n)) (hr:Rd w 1 A n (Qa_ l)):
  Calls prog 212 #[S_ A n c,.func (.func 172) #[] #[]] w fun e w'=>e=R_ (B_ (l.all (Ka_)))/\Below w.heap.size w w':=by
 apply KE_;have HR:=h_ hr;clear hr;go_enter func212,ntmps212;go_wp2
 go_loop [9] (fun i=>∃k:Nat,k<=n/\vl_ (Ka_) l k/\i=I_ j_ k) (fun i=>n - (intOf i).toNat)
 case atStart=>exact⟨0,lz_ _,XH_ _ l,rfl⟩
 case round=>
  obtain⟨k,hk,h,rfl⟩:=hrel;by_cases m:k < n
  ·obtain⟨x,hd⟩:∃d,l[k]? =some d:=⟨_,gE (by have:=hl.o;omega)⟩;obtain⟨b,off,rfl,p,c0⟩:=Qu_ HR.o m hd;have j:=h_ (fun(v:Bool) (hb:Ka_ x=v) (W:World)=>show Calls prog 172 #[I_ j_ x] W fun e w'=>e=R_ (B_ v)/\W=w' by rw[<-hb];exact Vi_ _ W)
   cases g:Ka_ x with
   |false=>
    have f:=h_ (Jd_ hd g);have a:=h_ (j.o _ g);clear j g hd h;go_wp2_with (go_at_call 172;refine(a.o _).mono ?_;rintro e w1 ⟨rfl,rfl⟩)
    go_ret;exact⟨Qg_ f.o.symm,rfl⟩
   |true=>
    have o:=XG_ h hd g;have a:=h_ (j.o _ g);clear j g hd h;go_wp2_with (go_at_call 172;refine(a.o _).mono ?_;rintro e w1 ⟨rfl,rfl⟩)
    go_round
    case rel=>exact⟨k+1,oo,o,by go_num⟩
    case measure=>exact ms_
  ·have f:=h_ (YA_ h (by have:=hl.o;omega));clear h;go_wp2;go_ret;exact⟨Qg_ f.o.symm,rfl⟩
theorem QgI_ (A:OA) (n c:Nat) (l:LI) (w:World) (hn:n<=4194304) (hl:Hid (l.length=n)) (hr:Rd w 1 A n (Qa_ l)):
  Calls prog 212 #[S_ A n c,.func (.func 218) #[] #[]] w fun e w'=>e=R_ (B_ (l.all (xR_)))/\Below w.heap.size w w':=by
 apply KE_;have HR:=h_ hr;clear hr;go_enter func212,ntmps212;go_wp2
 go_loop [9] (fun i=>∃k:Nat,k<=n/\vl_ (xR_) l k/\i=I_ j_ k) (fun i=>n - (intOf i).toNat)
 case atStart=>exact⟨0,lz_ _,XH_ _ l,rfl⟩
 case round=>
  obtain⟨k,hk,h,rfl⟩:=hrel;by_cases m:k < n
  ·obtain⟨x,hd⟩:∃d,l[k]? =some d:=⟨_,gE (by have:=hl.o;omega)⟩;obtain⟨b,off,rfl,p,c0⟩:=Qu_ HR.o m hd;have j:=h_ (fun(v:Bool) (hb:xR_ x=v) (W:World)=>show Calls prog 218 #[I_ j_ x] W fun e w'=>e=R_ (B_ v)/\W=w' by rw[<-hb];exact Qdd_ _ W)
   cases g:xR_ x with
   |false=>
    have f:=h_ (Jd_ hd g);have a:=h_ (j.o _ g);clear j g hd h;go_wp2_with (go_at_call 218;refine(a.o _).mono ?_;rintro e w1 ⟨rfl,rfl⟩)
    go_ret;exact⟨Qg_ f.o.symm,rfl⟩
   |true=>
    have o:=XG_ h hd g;have a:=h_ (j.o _ g);clear j g hd h;go_wp2_with (go_at_call 218;refine(a.o _).mono ?_;rintro e w1 ⟨rfl,rfl⟩)
    go_round
    case rel=>exact⟨k+1,oo,o,by go_num⟩
    case measure=>exact ms_
  ·have f:=h_ (YA_ h (by have:=hl.o;omega));clear h;go_wp2;go_ret;exact⟨Qg_ f.o.symm,rfl⟩
theorem vt_ (A:OA) (n c:Nat) (l:LI) (w:World) (hn:n<=4194304) (hl:Hid (l.length=n)) (hr:Rd w 1 A n (Qa_ l)):
  Calls prog 212 #[S_ A n c,.func (.func 242) #[] #[]] w fun e w'=>e=R_ (B_ (l.all (isK 1)))/\Below w.heap.size w w':=by
 apply KE_;have HR:=h_ hr;clear hr;go_enter func212,ntmps212;go_wp2
 go_loop [9] (fun i=>∃k:Nat,k<=n/\vl_ (isK 1) l k/\i=I_ j_ k) (fun i=>n - (intOf i).toNat)
 case atStart=>exact⟨0,lz_ _,XH_ _ l,rfl⟩
 case round=>
  obtain⟨k,hk,h,rfl⟩:=hrel;by_cases m:k < n
  ·obtain⟨x,hd⟩:∃d,l[k]? =some d:=⟨_,gE (by have:=hl.o;omega)⟩;obtain⟨b,off,rfl,p,c0⟩:=Qu_ HR.o m hd;have j:=h_ (fun(v:Bool) (hb:isK 1 x=v) (W:World)=>show Calls prog 242 #[I_ j_ x] W fun e w'=>e=R_ (B_ v)/\W=w' by rw[<-hb];exact jv_ _ W)
   cases g:isK 1 x with
   |false=>
    have f:=h_ (Jd_ hd g);have a:=h_ (j.o _ g);clear j g hd h;go_wp2_with (go_at_call 242;refine(a.o _).mono ?_;rintro e w1 ⟨rfl,rfl⟩)
    go_ret;exact⟨Qg_ f.o.symm,rfl⟩
   |true=>
    have o:=XG_ h hd g;have a:=h_ (j.o _ g);clear j g hd h;go_wp2_with (go_at_call 242;refine(a.o _).mono ?_;rintro e w1 ⟨rfl,rfl⟩)
    go_round
    case rel=>exact⟨k+1,oo,o,by go_num⟩
    case measure=>exact ms_
  ·have f:=h_ (YA_ h (by have:=hl.o;omega));clear h;go_wp2;go_ret;exact⟨Qg_ f.o.symm,rfl⟩
theorem Qaf_ {w:World} {A:OA} {m n:Nat} {l:LI} (h:Rd w 1 A n (Qa_ l)) (hl:l.length=n) (hm:m<=n):Rd w 1 A m (Qa_ (l.take m)):=by
 refine⟨by simp[Qa_];omega,fun c=>?_⟩;obtain⟨b,off,e,hb,hc⟩:=h.2 oo;refine⟨b,off,e,hb,fun j u a=>hc j u ?_⟩;unfold Qa_ at a |-
 rw[List.getElem?_map,List.getElem?_take]at a;split at a
 ·rw[List.getElem?_map];exact a
 ·cases a
theorem UL_ {w:World} {b off m n:Nat} {l:LI} (h:Rd w 1 (some ⟨b,off,none⟩) n (Qa_ l)) (hl:l.length=n) (hm:m+1=n):Rd w 1 (some ⟨b,off+1,none⟩) m (Qa_ (l.drop 1)):=by
 refine⟨by simp[Qa_];omega,fun d=>?_⟩;obtain⟨b',c,e,hb,hc⟩:=h.2 oo;injection e with e;injection e with e1 e2 _;subst e1;subst e2;refine⟨b,off+1,rfl,hb,fun j u a=>?_⟩;have h2:=hc (j+1) u (by
  unfold Qa_ at a |-
  rw[List.getElem?_map,List.getElem?_drop]at a;rw[List.getElem?_map,Nat.add_comm j 1];exact a)
 rwa[show off+(j+1)=off+1+j from oo]at h2
def YF_ (p:Int->Bool) (l:LI):Bool:=match l.getLast? with|some x=>p x&&(l.take (l.length - 1)).all (isK 1)|none=>false
theorem Yo_ {p:Int->Bool} {l:LI} {m:Nat} {x:Int} (hl:l.length=m+1) (hx:l[m]? =some x):YF_ p l=(p x&&(l.take m).all (isK 1)):=by
 have:l.getLast? =some x:=by rw[List.getLast?_eq_getElem?,hl];exact hx
 unfold YF_;rw[this,hl];rfl
theorem Qbk_ (A:OA) (n c:Nat) (l:LI) (w:World) (hn:n<=4194304) (hc:n<=c) (hl:Hid (l.length=n)) (f:Rd w 1 A n (Qa_ l)):
  Calls prog 214 #[S_ A n c,.func (.func 213) #[] #[]] w fun e w'=>e=R_ (B_ (YF_ (Qk_) l))/\Below w.heap.size w w':=by
 by_cases h0:n=0
 ·subst h0;have hz:l=[]:=ln_ hl.o;have g:YF_ (Qk_) l=false:=by rw[hz];rfl
  rw[g];clear f hz g;go_enter func214,ntmps214;go_wp2;go_ret;exact⟨rfl,grow_⟩
 ·obtain⟨m,rfl⟩:∃m,n=m+1:=⟨n - 1,oo⟩;obtain⟨x,hd⟩:∃d,l[m]? =some d:=⟨_,gE (by have:=hl.o;omega)⟩;obtain⟨b,off,rfl,j,c0⟩:=Qu_ f oo hd;have h:=h_ (fun(v:Bool) (hb:Qk_ x=v) (W:World)=>show Calls prog 213 #[I_ j_ x] W fun e w'=>e=R_ (B_ v)/\W=w' by rw[<-hb];exact Z0_ _ W);have e1:((m+1:Nat):Int) - 1=(m:Nat):=oo;have g1:(0:Int) < ((m+1:Nat):Int):=oo;rw[Yo_ hl.o hd]
  cases i:Qk_ x with
  |false=>
   have a:=h_ (h.o _ i);clear h i hd f;go_enter func214,ntmps214;go_wp2_with (go_at_call 213;refine(a.o _).mono ?_;rintro e w1 ⟨rfl,rfl⟩)
   go_ret;exact⟨rfl,grow_⟩
  |true=>
   have a:=h_ (h.o _ i);have HA:=h_ (fun c=>vt_ (some ⟨b,off,none⟩) m c (l.take m) w oo (h_ (by rw[List.length_take,hl.o];omega)) (Qaf_ f hl.o oo));clear h i hd f;generalize (l.take m).all (isK 1)=u at HA |-
   go_enter func214,ntmps214;go_wp2_with (first|(go_at_call 212;refine(HA.o _).mono ?_;rintro e w1 ⟨rfl,h2⟩)|(go_at_call 213;refine(a.o _).mono ?_;rintro e w1 ⟨rfl,rfl⟩))
   go_ret;exact⟨rfl,h2⟩
theorem Qbj_ (A:OA) (n c:Nat) (l:LI) (w:World) (hn:n<=4194304) (hc:n<=c) (hl:Hid (l.length=n)) (f:Rd w 1 A n (Qa_ l)):
  Calls prog 214 #[S_ A n c,.func (.func 216) #[] #[]] w fun e w'=>e=R_ (B_ (YF_ (isK 18) l))/\Below w.heap.size w w':=by
 by_cases h0:n=0
 ·subst h0;have hz:l=[]:=ln_ hl.o;have g:YF_ (isK 18) l=false:=by rw[hz];rfl
  rw[g];clear f hz g;go_enter func214,ntmps214;go_wp2;go_ret;exact⟨rfl,grow_⟩
 ·obtain⟨m,rfl⟩:∃m,n=m+1:=⟨n - 1,oo⟩;obtain⟨x,hd⟩:∃d,l[m]? =some d:=⟨_,gE (by have:=hl.o;omega)⟩;obtain⟨b,off,rfl,j,c0⟩:=Qu_ f oo hd;have h:=h_ (fun(v:Bool) (hb:isK 18 x=v) (W:World)=>show Calls prog 216 #[I_ j_ x] W fun e w'=>e=R_ (B_ v)/\W=w' by rw[<-hb];exact Ji_ _ W);have e1:((m+1:Nat):Int) - 1=(m:Nat):=oo;have g1:(0:Int) < ((m+1:Nat):Int):=oo;rw[Yo_ hl.o hd]
  cases i:isK 18 x with
  |false=>
   have a:=h_ (h.o _ i);clear h i hd f;go_enter func214,ntmps214;go_wp2_with (go_at_call 216;refine(a.o _).mono ?_;rintro e w1 ⟨rfl,rfl⟩)
   go_ret;exact⟨rfl,grow_⟩
  |true=>
   have a:=h_ (h.o _ i);have HA:=h_ (fun c=>vt_ (some ⟨b,off,none⟩) m c (l.take m) w oo (h_ (by rw[List.length_take,hl.o];omega)) (Qaf_ f hl.o oo));clear h i hd f;generalize (l.take m).all (isK 1)=u at HA |-
   go_enter func214,ntmps214;go_wp2_with (first|(go_at_call 212;refine(HA.o _).mono ?_;rintro e w1 ⟨rfl,h2⟩)|(go_at_call 216;refine(a.o _).mono ?_;rintro e w1 ⟨rfl,rfl⟩))
   go_ret;exact⟨rfl,h2⟩
def Jg_ (p:Int->Bool) (l:LI):Bool:=match l with|x::_=>p x|[]=>false
def kfB (kind:Int) (l:LI):Bool:=
 if kind=1\/kind=2\/kind=3\/kind=19 then decide (l.length=0)
 else if kind=4 then l.all Qk_
 else if kind=5 then decide (1<=l.length)&&l.all Qk_
 else if kind=7 then decide (2<=l.length)&&l.all Qk_
 else if kind=8 then decide (l.length=3)&&l.all Qk_
 else if kind=6\/kind=11\/kind=13\/kind=14 then decide (l.length=1)&&l.all Qk_
 else if kind=12\/kind=15 then decide (l.length<=1)&&l.all Qk_
 else if kind=9 then YF_ Qk_ l
 else if kind=10 then decide (2<=l.length)&&Jg_ Qk_ l&&(l.drop 1).all (isK 5)
 else if kind=16 then decide (2<=l.length/\l.length<=3)&&Jg_ Qk_ l&&(l.drop 1).all (isK 18)
 else if kind=17 then decide (l.length=2)&&Jg_ Qk_ l&&(l.drop 1).all (isK 18)
 else if kind=18 then l.all ZR_
 else if kind=20 then YF_ (isK 18) l
 else if kind=21 then l.all Ka_
 else if kind=22 then l.all xR_
 else false
theorem QbE_ (n m:Nat):((n:Int)==(m:Int))=decide (n=m):=by
 by_cases h:n=m
 ·rw[dt_ h,h];exact beq_self_eq_true _
 ·rw[df_ h,bn_];omega
theorem qA_ (A:OA) (n c:Nat) (l:LI) (w:World) (hn:n<=4096) (hc:n<=c) (hl:Hid (l.length=n)) (hr:Rd w 1 A n (Qa_ l)) (kind:Int) (hk:kind=1\/kind=2\/kind=3\/kind=19):
  Calls prog 173 #[I_ j_ kind,S_ A n c] w (RB_ (B_ (kfB kind l)) w):=by
 have HV:=h_ (fun c=>Ku_ A n c l w oo hl hr);have hb:kfB kind l=((n:Int)==(0:Nat)):=by rw[QbE_];unfold kfB;rw[ip_ hk,hl.o]
 rw[hb];clear hb hr hl;generalize l.all Qk_=u at HV;rcases hk with rfl|rfl|rfl|rfl
 all_goals
  go_enter func173,ntmps173;go_wp2_with (go_at_call 212;refine(HV.o _).mono ?_;rintro e w1 ⟨rfl,h2⟩)
  go_ret;refine⟨Qg_ ?_,h2⟩
  rfl
theorem Qhi_ (A:OA) (n c:Nat) (l:LI) (w:World) (hn:n<=4096) (hc:n<=c) (hl:Hid (l.length=n)) (hr:Rd w 1 A n (Qa_ l)):
  Calls prog 173 #[I_ j_ 4,S_ A n c] w (RB_ (B_ (kfB 4 l)) w):=by
 have HV:=h_ (fun c=>Ku_ A n c l w oo hl hr);have hb:kfB 4 l=l.all Qk_:=rfl;rw[hb];clear hb hr hl;generalize l.all Qk_=u at HV |-
 go_enter func173,ntmps173;go_wp2_with (go_at_call 212;refine(HV.o _).mono ?_;rintro e w1 ⟨rfl,h2⟩)
 go_ret;exact⟨rfl,h2⟩
theorem Qhf_ (A:OA) (n c:Nat) (l:LI) (w:World) (hn:n<=4096) (hc:n<=c) (hl:Hid (l.length=n)) (hr:Rd w 1 A n (Qa_ l)) (kind:Int) (d:kind=5):
  Calls prog 173 #[I_ j_ kind,S_ A n c] w (RB_ (B_ (kfB kind l)) w):=by
 have a:=h_ (fun c=>Ku_ A n c l w oo hl hr);have hb:kfB kind l=(decide (1<=n)&&l.all Qk_):=by rw[<-hl.o];rcases d with rfl<;>rfl
 rw[hb];clear hb hr hl;generalize l.all Qk_=u at a |-
 by_cases ht:1<=n
 ·rw[dt_ ht,Bool.true_and];have i1:(1:Int)<=n:=oo;rcases d with rfl
  all_goals
   go_enter func173,ntmps173;go_wp2_with (go_at_call 212;refine(a.o _).mono ?_;rintro e w1 ⟨rfl,b⟩)
   go_ret;exact⟨rfl,b⟩
 ·rw[df_ ht,Bool.false_and];have i1:¬(1:Int)<=n:=oo;rcases d with rfl
  all_goals
   go_enter func173,ntmps173;go_wp2_with (go_at_call 212;refine(a.o _).mono ?_;rintro e w1 ⟨rfl,b⟩)
   go_ret;exact⟨rfl,b⟩
theorem Qfv_ (A:OA) (n c:Nat) (l:LI) (w:World) (hn:n<=4096) (hc:n<=c) (hl:Hid (l.length=n)) (hr:Rd w 1 A n (Qa_ l)) (kind:Int) (d:kind=7):
  Calls prog 173 #[I_ j_ kind,S_ A n c] w (RB_ (B_ (kfB kind l)) w):=by
 have a:=h_ (fun c=>Ku_ A n c l w oo hl hr);have hb:kfB kind l=(decide (2<=n)&&l.all Qk_):=by rw[<-hl.o];rcases d with rfl<;>rfl
 rw[hb];clear hb hr hl;generalize l.all Qk_=u at a |-
 by_cases ht:2<=n
 ·rw[dt_ ht,Bool.true_and];have i1:(2:Int)<=n:=oo;rcases d with rfl
  all_goals
   go_enter func173,ntmps173;go_wp2_with (go_at_call 212;refine(a.o _).mono ?_;rintro e w1 ⟨rfl,b⟩)
   go_ret;exact⟨rfl,b⟩
 ·rw[df_ ht,Bool.false_and];have i1:¬(2:Int)<=n:=oo;rcases d with rfl
  all_goals
   go_enter func173,ntmps173;go_wp2_with (go_at_call 212;refine(a.o _).mono ?_;rintro e w1 ⟨rfl,b⟩)
   go_ret;exact⟨rfl,b⟩
theorem Qhj_ (A:OA) (n c:Nat) (l:LI) (w:World) (hn:n<=4096) (hc:n<=c) (hl:Hid (l.length=n)) (hr:Rd w 1 A n (Qa_ l)) (kind:Int) (d:kind=8):
  Calls prog 173 #[I_ j_ kind,S_ A n c] w (RB_ (B_ (kfB kind l)) w):=by
 have a:=h_ (fun c=>Ku_ A n c l w oo hl hr);have hb:kfB kind l=(decide (n=3)&&l.all Qk_):=by rw[<-hl.o];rcases d with rfl<;>rfl
 rw[hb];clear hb hr hl;generalize l.all Qk_=u at a |-
 by_cases f:n=3
 ·rw[dt_ f,Bool.true_and];obtain rfl:n=3:=f;rcases d with rfl
  all_goals
   go_enter func173,ntmps173;go_wp2_with (go_at_call 212;refine(a.o _).mono ?_;rintro e w1 ⟨rfl,b⟩)
   go_ret;exact⟨rfl,b⟩
 ·rw[df_ f,Bool.false_and];have i1:((n:Int)==3)=false:=by rw[bn_];omega
  rcases d with rfl
  all_goals
   go_enter func173,ntmps173;go_wp2_with (go_at_call 212;refine(a.o _).mono ?_;rintro e w1 ⟨rfl,b⟩)
   go_ret;exact⟨rfl,b⟩
theorem vU_ (A:OA) (n c:Nat) (l:LI) (w:World) (hn:n<=4096) (hc:n<=c) (hl:Hid (l.length=n)) (hr:Rd w 1 A n (Qa_ l)) (kind:Int) (d:kind=6\/kind=11\/kind=13\/kind=14):
  Calls prog 173 #[I_ j_ kind,S_ A n c] w (RB_ (B_ (kfB kind l)) w):=by
 have a:=h_ (fun c=>Ku_ A n c l w oo hl hr);have hb:kfB kind l=(decide (n=1)&&l.all Qk_):=by rw[<-hl.o];rcases d with rfl|rfl|rfl|rfl<;>rfl
 rw[hb];clear hb hr hl;generalize l.all Qk_=u at a |-
 by_cases f:n=1
 ·rw[dt_ f,Bool.true_and];obtain rfl:n=1:=f;rcases d with rfl|rfl|rfl|rfl
  all_goals
   go_enter func173,ntmps173;go_wp2_with (go_at_call 212;refine(a.o _).mono ?_;rintro e w1 ⟨rfl,b⟩)
   go_ret;exact⟨rfl,b⟩
 ·rw[df_ f,Bool.false_and];have i1:((n:Int)==1)=false:=by rw[bn_];omega
  rcases d with rfl|rfl|rfl|rfl
  all_goals
   go_enter func173,ntmps173;go_wp2_with (go_at_call 212;refine(a.o _).mono ?_;rintro e w1 ⟨rfl,b⟩)
   go_ret;exact⟨rfl,b⟩
theorem Qgn_ (A:OA) (n c:Nat) (l:LI) (w:World) (hn:n<=4096) (hc:n<=c) (hl:Hid (l.length=n)) (hr:Rd w 1 A n (Qa_ l)) (kind:Int) (d:kind=12\/kind=15):
  Calls prog 173 #[I_ j_ kind,S_ A n c] w (RB_ (B_ (kfB kind l)) w):=by
 have a:=h_ (fun c=>Ku_ A n c l w oo hl hr);have hb:kfB kind l=(decide (n<=1)&&l.all Qk_):=by rw[<-hl.o];rcases d with rfl|rfl<;>rfl
 rw[hb];clear hb hr hl;generalize l.all Qk_=u at a |-
 by_cases ht:n<=1
 ·rw[dt_ ht,Bool.true_and];have i1:(n:Int)<=1:=oo;rcases d with rfl|rfl
  all_goals
   go_enter func173,ntmps173;go_wp2_with (go_at_call 212;refine(a.o _).mono ?_;rintro e w1 ⟨rfl,b⟩)
   go_ret;exact⟨rfl,b⟩
 ·rw[df_ ht,Bool.false_and];have i1:¬(n:Int)<=1:=oo;rcases d with rfl|rfl
  all_goals
   go_enter func173,ntmps173;go_wp2_with (go_at_call 212;refine(a.o _).mono ?_;rintro e w1 ⟨rfl,b⟩)
   go_ret;exact⟨rfl,b⟩
theorem QiU_ (A:OA) (n c:Nat) (l:LI) (w:World) (hn:n<=4096) (a:n<=c) (hl:Hid (l.length=n)) (b:Rd w 1 A n (Qa_ l)):
  Calls prog 173 #[I_ j_ 9,S_ A n c] w (RB_ (B_ (kfB 9 l)) w):=by
 have HV:=h_ (fun c=>Ku_ A n c l w oo hl b);have HL:=h_ (fun w1 (h:Below w.heap.size w w1) c a=>Qbk_ A n c l w1 oo a hl (b.next h));have hb:kfB 9 l=YF_ (Qk_) l:=rfl;rw[hb];clear hb b hl;generalize l.all Qk_=u at HV;generalize YF_ (Qk_) l=v at HL |-
 go_enter func173,ntmps173;go_wp2_with (first|(go_at_call 212;refine(HV.o _).mono ?_;rintro e w1 ⟨rfl,h2⟩)|(go_at_call 214;refine(HL.o _ h2 _ a).mono ?_;rintro e w3 ⟨rfl,h3⟩))
 go_ret;exact⟨rfl,Qb_ h2 h3⟩
theorem Qde_ (A:OA) (n c:Nat) (l:LI) (w:World) (hn:n<=4096) (a:n<=c) (hl:Hid (l.length=n)) (b:Rd w 1 A n (Qa_ l)):
  Calls prog 173 #[I_ j_ 20,S_ A n c] w (RB_ (B_ (kfB 20 l)) w):=by
 have HV:=h_ (fun c=>Ku_ A n c l w oo hl b);have HL:=h_ (fun w1 (h:Below w.heap.size w w1) c a=>Qbj_ A n c l w1 oo a hl (b.next h));have hb:kfB 20 l=YF_ (isK 18) l:=rfl;rw[hb];clear hb b hl;generalize l.all Qk_=u at HV;generalize YF_ (isK 18) l=v at HL |-
 go_enter func173,ntmps173;go_wp2_with (first|(go_at_call 212;refine(HV.o _).mono ?_;rintro e w1 ⟨rfl,h2⟩)|(go_at_call 214;refine(HL.o _ h2 _ a).mono ?_;rintro e w3 ⟨rfl,h3⟩))
 go_ret;exact⟨rfl,Qb_ h2 h3⟩
theorem Qft_ (A:OA) (n c:Nat) (l:LI) (w:World) (hn:n<=4096) (hc:n<=c) (hl:Hid (l.length=n)) (a:Rd w 1 A n (Qa_ l)):
  Calls prog 173 #[I_ j_ 18,S_ A n c] w (RB_ (B_ (kfB 18 l)) w):=by
 have HV:=h_ (fun c=>Ku_ A n c l w oo hl a);have HL:=h_ (fun w1 (h:Below w.heap.size w w1) c=>Qe4_ A n c l w1 oo hl (a.next h));have hb:kfB 18 l=l.all (ZR_):=rfl;rw[hb];clear hb a hl;generalize l.all Qk_=u at HV;generalize l.all (ZR_)=v at HL |-
 go_enter func173,ntmps173;go_wp2_with fail
 refine(HV.o _).mono ?_;rintro e w1 ⟨rfl,h2⟩;go_wp2_with fail
 refine(HL.o _ h2 _).mono ?_;rintro e w3 ⟨rfl,h3⟩;go_wp2;go_ret;exact⟨rfl,Qb_ h2 h3⟩
theorem Qfx_ (A:OA) (n c:Nat) (l:LI) (w:World) (hn:n<=4096) (hc:n<=c) (hl:Hid (l.length=n)) (a:Rd w 1 A n (Qa_ l)):
  Calls prog 173 #[I_ j_ 21,S_ A n c] w (RB_ (B_ (kfB 21 l)) w):=by
 have HV:=h_ (fun c=>Ku_ A n c l w oo hl a);have HL:=h_ (fun w1 (h:Below w.heap.size w w1) c=>QaE_ A n c l w1 oo hl (a.next h));have hb:kfB 21 l=l.all (Ka_):=rfl;rw[hb];clear hb a hl;generalize l.all Qk_=u at HV;generalize l.all (Ka_)=v at HL |-
 go_enter func173,ntmps173;go_wp2_with fail
 refine(HV.o _).mono ?_;rintro e w1 ⟨rfl,h2⟩;go_wp2_with fail
 refine(HL.o _ h2 _).mono ?_;rintro e w3 ⟨rfl,h3⟩;go_wp2;go_ret;exact⟨rfl,Qb_ h2 h3⟩
theorem Qhg_ (A:OA) (n c:Nat) (l:LI) (w:World) (hn:n<=4096) (hc:n<=c) (hl:Hid (l.length=n)) (a:Rd w 1 A n (Qa_ l)):
  Calls prog 173 #[I_ j_ 22,S_ A n c] w (RB_ (B_ (kfB 22 l)) w):=by
 have HV:=h_ (fun c=>Ku_ A n c l w oo hl a);have HL:=h_ (fun w1 (h:Below w.heap.size w w1) c=>QgI_ A n c l w1 oo hl (a.next h));have hb:kfB 22 l=l.all (xR_):=rfl;rw[hb];clear hb a hl;generalize l.all Qk_=u at HV;generalize l.all (xR_)=v at HL |-
 go_enter func173,ntmps173;go_wp2_with fail
 refine(HV.o _).mono ?_;rintro e w1 ⟨rfl,h2⟩;go_wp2_with fail
 refine(HL.o _ h2 _).mono ?_;rintro e w3 ⟨rfl,h3⟩;go_wp2;go_ret;exact⟨rfl,Qb_ h2 h3⟩
theorem Qhk_ (A:OA) (n c:Nat) (l:LI) (w:World) (hn:n<=4096) (hc:n<=c) (hl:Hid (l.length=n)) (hr:Rd w 1 A n (Qa_ l)) (kind:Int) (hk:¬(1<=kind/\kind<=22)):
  Calls prog 173 #[I_ j_ kind,S_ A n c] w (RB_ (B_ (kfB kind l)) w):=by
 have HV:=h_ (fun c=>Ku_ A n c l w oo hl hr);have d1:(kind==1)=false:=by rw[bn_];omega
 have d2:(kind==2)=false:=by rw[bn_];omega
 have d3:(kind==3)=false:=by rw[bn_];omega
 have d4:(kind==4)=false:=by rw[bn_];omega
 have d5:(kind==5)=false:=by rw[bn_];omega
 have d6:(kind==6)=false:=by rw[bn_];omega
 have d7:(kind==7)=false:=by rw[bn_];omega
 have d8:(kind==8)=false:=by rw[bn_];omega
 have d9:(kind==9)=false:=by rw[bn_];omega
 have a:(kind==10)=false:=by rw[bn_];omega
 have b:(kind==11)=false:=by rw[bn_];omega
 have d:(kind==12)=false:=by rw[bn_];omega
 have f:(kind==13)=false:=by rw[bn_];omega
 have g:(kind==14)=false:=by rw[bn_];omega
 have h:(kind==15)=false:=by rw[bn_];omega
 have i:(kind==16)=false:=by rw[bn_];omega
 have j:(kind==17)=false:=by rw[bn_];omega
 have k:(kind==18)=false:=by rw[bn_];omega
 have m:(kind==19)=false:=by rw[bn_];omega
 have o:(kind==20)=false:=by rw[bn_];omega
 have p:(kind==21)=false:=by rw[bn_];omega
 have q:(kind==22)=false:=by rw[bn_];omega
 have hb:kfB kind l=false:=by
  unfold kfB;rw[in_ oo,in_ oo,in_ oo,in_ oo,in_ oo,in_ oo,in_ oo,in_ oo,in_ oo,in_ oo,in_ oo,in_ oo,in_ oo,in_ oo,in_ oo]
 rw[hb];clear hb hr hl hk;generalize l.all Qk_=u at HV;go_enter func173,ntmps173;go_wp2_with (go_at_call 212;refine(HV.o _).mono ?_;rintro e w1 ⟨rfl,h2⟩)
 go_ret;exact⟨rfl,h2⟩
end Go.Proofs.YtbiijipkgfpgoaaGreatDoor

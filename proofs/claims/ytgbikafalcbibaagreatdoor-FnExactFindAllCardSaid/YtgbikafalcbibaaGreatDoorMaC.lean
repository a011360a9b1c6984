/-
  Put together by program (shake.py):SignC,SignD,SignE,SignF,SignG,SignH.
-/
import Derived.Test.YtgbikafalcbibaaGreatDoorMaB
set_option maxRecDepth 100000
set_option linter.all false
set_option maxHeartbeats 25600000
open Go.Lib (hid)
open Go.Proofs.Tryz
namespace Go.Proofs.YtgbikafalcbibaaGreatDoor
open Go.RowKit
def ZS_ (p:UInt8->Bool) (s:BA):BA:=s.extract 0 (K0_ p s.data.toList)
theorem Zt_ (p:UInt8->Bool) (s:BA):(ZS_ p s).size=K0_ p s.data.toList:=by
 have:=KN_ p s.data.toList;rw[Qz_]at this;simp[ZS_];omega
def QV_ (c:UInt8):Bool:=c != 10
theorem xu_ (s:BA) (w:World) (hs:s.size<=maxLen):Calls prog 142 #[.string s,.func (.func 143) #[] #[]] w fun e w'=>e=.returned (.string (ZS_ Qp_ s))/\w=w':=by
 unfold maxLen at hs;go_enter func142,ntmps142;go_wp2
 go_loop [5] (fun i=>∃k:Nat,k<=s.size/\VY_ Qp_ s k/\i=.int .i64 k) (fun i=>s.size - (intOf i).toNat)
 case atStart=>exact⟨0,Nat.zero_le _,Xr_ _ s,rfl⟩
 case round=>
  obtain⟨k,hk,h,rfl⟩:=hrel;by_cases d:k < s.size
  ·have g:=hid (fun(b:Bool) (hb:Qp_ s[k]=b) (W:World)=>show Calls prog 143 #[.int .u8 (s[k].toNat:Int)] W fun e w'=>e=.returned (.bool b)/\W=w' by rw[<-hb];exact qm_ _ W)
   cases c:Qp_ s[k]with
   |false=>
    have f:=hid (Wy_ h d c);have a:=hid (g.o _ c);clear g c;go_wp2_with (go_at_call 143;refine(a.o _).mono ?_;rintro e w1 ⟨rfl,rfl⟩)
    go_ret;exact⟨XP_ (by rw[ZS_,f.o]),rfl⟩
   |true=>
    have f:=ZU_ h d c;have a:=hid (g.o _ c);clear g c;go_wp2_with (go_at_call 143;refine(a.o _).mono ?_;rintro e w1 ⟨rfl,rfl⟩)
    go_round
    case rel=>exact⟨k+1,oo,f,by go_num⟩
    case measure=>simp[intOf];omega
  ·have f:=hid (qW_ h oo);go_wp2;go_ret;exact⟨XP_ (by rw[ZS_,f.o]),rfl⟩
theorem qV_ (s:BA) (w:World) (hs:s.size<=maxLen):Calls prog 142 #[.string s,.func (.func 144) #[] #[]] w fun e w'=>e=.returned (.string (ZS_ Km_ s))/\w=w':=by
 unfold maxLen at hs;go_enter func142,ntmps142;go_wp2
 go_loop [5] (fun i=>∃k:Nat,k<=s.size/\VY_ Km_ s k/\i=.int .i64 k) (fun i=>s.size - (intOf i).toNat)
 case atStart=>exact⟨0,Nat.zero_le _,Xr_ _ s,rfl⟩
 case round=>
  obtain⟨k,hk,h,rfl⟩:=hrel;by_cases d:k < s.size
  ·have g:=hid (fun(b:Bool) (hb:Km_ s[k]=b) (W:World)=>show Calls prog 144 #[.int .u8 (s[k].toNat:Int)] W fun e w'=>e=.returned (.bool b)/\W=w' by rw[<-hb];exact KX_ _ W)
   cases c:Km_ s[k]with
   |false=>
    have f:=hid (Wy_ h d c);have a:=hid (g.o _ c);clear g c;go_wp2_with (go_at_call 144;refine(a.o _).mono ?_;rintro e w1 ⟨rfl,rfl⟩)
    go_ret;exact⟨XP_ (by rw[ZS_,f.o]),rfl⟩
   |true=>
    have f:=ZU_ h d c;have a:=hid (g.o _ c);clear g c;go_wp2_with (go_at_call 144;refine(a.o _).mono ?_;rintro e w1 ⟨rfl,rfl⟩)
    go_round
    case rel=>exact⟨k+1,oo,f,by go_num⟩
    case measure=>simp[intOf];omega
  ·have f:=hid (qW_ h oo);go_wp2;go_ret;exact⟨XP_ (by rw[ZS_,f.o]),rfl⟩
theorem jy_ (s:BA) (w:World) (hs:s.size<=maxLen):Calls prog 142 #[.string s,.func (.func 147) #[] #[]] w fun e w'=>e=.returned (.string (ZS_ QV_ s))/\w=w':=by
 unfold maxLen at hs;go_enter func142,ntmps142;go_wp2
 go_loop [5] (fun i=>∃k:Nat,k<=s.size/\VY_ QV_ s k/\i=.int .i64 k) (fun i=>s.size - (intOf i).toNat)
 case atStart=>exact⟨0,Nat.zero_le _,Xr_ _ s,rfl⟩
 case round=>
  obtain⟨k,hk,h,rfl⟩:=hrel;by_cases d:k < s.size
  ·have g:=hid (fun(b:Bool) (hb:QV_ s[k]=b) (W:World)=>show Calls prog 147 #[.int .u8 (s[k].toNat:Int)] W fun e w'=>e=.returned (.bool b)/\W=w' by rw[<-hb];exact W9_ _ W)
   cases c:QV_ s[k]with
   |false=>
    have f:=hid (Wy_ h d c);have a:=hid (g.o _ c);clear g c;go_wp2_with (go_at_call 147;refine(a.o _).mono ?_;rintro e w1 ⟨rfl,rfl⟩)
    go_ret;exact⟨XP_ (by rw[ZS_,f.o]),rfl⟩
   |true=>
    have f:=ZU_ h d c;have a:=hid (g.o _ c);clear g c;go_wp2_with (go_at_call 147;refine(a.o _).mono ?_;rintro e w1 ⟨rfl,rfl⟩)
    go_round
    case rel=>exact⟨k+1,oo,f,by go_num⟩
    case measure=>simp[intOf];omega
  ·have f:=hid (qW_ h oo);go_wp2;go_ret;exact⟨XP_ (by rw[ZS_,f.o]),rfl⟩
def VK_ (s:BA):BA:=⟨(Lib.trimRightB s.data.toList 32).toArray⟩
theorem U5_ (s:BA) (w:World) (hs:s.size<=maxLen):Calls prog 148 #[.string s] w fun e w'=>e=.returned (.string (VK_ s))/\w=w':=by
 unfold maxLen at hs;have H1:=hid (fun W=>Tryz.strings_TrimRight_one s 32 (by decide) W oo);go_enter func148,ntmps148;go_wp2_with (go_at_call 185;refine(H1.o _).mono ?_;rintro e w1 ⟨rfl,rfl⟩)
 go_ret;exact⟨rfl,rfl⟩
def qQ_ (s:BA):BA × Bool:=
 if Lib.indexByte (s.extract 1 s.size).data.toList 39 < 0 then (⟨#[]⟩,false)
 else (s.extract 0 (Lib.indexByte (s.extract 1 s.size).data.toList 39+2).toNat,Gi_ QJ_ (s.extract 0 (Lib.indexByte (s.extract 1 s.size).data.toList 39+2).toNat))
theorem Qa3_ (s:BA) (w:World) (h0:0 < s.size) (hs:s.size<=maxLen):Calls prog 145 #[.string s] w fun e w'=>e=.returned (.tuple #[.string (qQ_ s).1,.bool (qQ_ s).2])/\w=w':=by
 have hm:=hs;unfold maxLen at hs;have h1:(1:Int)<=s.size:=oo;have H1:=hid (fun W=>Tryz.strings_IndexByte (s.extract 1 s.size) 39 W);have b:=Lib.indexByte_ge (s.extract 1 s.size).data.toList 39;have a:∀o:Nat,Lib.indexByte (s.extract 1 s.size).data.toList 39=o->o+2<=s.size:=by
  intro o ho;have:=(Lib.indexByte_some ho).1;have c:=(List.getElem?_eq_some_iff.1 this).1;have e:(s.extract 1 s.size).data.toList.length=s.size - 1:=by rw[Qz_];simp
  omega
 unfold qQ_;generalize hg:Lib.indexByte (s.extract 1 s.size).data.toList 39=i at b a |-
 have H2:=hid (fun W=>show Calls prog 183 #[.string (s.extract 1 s.size),.int .u8 39] W fun e w'=>e=.returned (.int .i64 i)/\w'=W by rw[<-hg];exact H1.o W);clear H1 hg;by_cases hi:i < 0
 ·rw[if_pos hi];go_enter func145,ntmps145;go_wp2_with (go_at_call 183;refine(H2.o _).mono ?_;rintro e w1 ⟨rfl,rfl⟩)
  go_ret2;exact⟨rfl,rfl⟩
 ·rw[if_neg hi];obtain⟨o,rfl⟩:=Int.eq_ofNat_of_zero_le (show 0<=i from oo);have ho:=a o rfl;have e2:((o:Int)+2).toNat=o+2:=oo;rw[e2];have hp:(s.extract 0 (o+2)).size<=maxLen:=by simp;omega
  have H3:=hid (fun W=>JE_ (s.extract 0 (o+2)) W hp);clear a hp e2;go_enter func145,ntmps145;go_wp2_with (first|(go_at_call 183;refine(H2.o _).mono ?_;rintro e w1 ⟨rfl,rfl⟩)|(go_at_call 149;refine(H3.o _).mono ?_;rintro e w1 ⟨rfl,rfl⟩))
  go_ret2;exact⟨rfl,rfl⟩
def VR_ (s:BA):Bool:=s.toList==[38,38]||s.toList==[124,124]||s.toList==[61,61]||s.toList==[61,62]||s.toList==[46,46]
def JQ_ (c:UInt8):Bool:=decide (0<=Lib.indexByte [40,41,123,125,91,93,59,44,46,61,43,45,42,60,63,58] c)
def ZG_ (s:BA):Bool:=VR_ s||(match s.data.toList with|[c]=>JQ_ c|_=>false)
theorem Qep_ {s:BA} (h:s.size=1):∃c,s=⟨#[c]⟩:=by
 obtain⟨⟨l⟩⟩:=s
 match l,h with
 |[c],_=>exact⟨c,rfl⟩
 |[],h=>exact absurd h (by decide)
 |a::b::l,h=>exact absurd (show l.length+1+1=1 from h) oo
theorem Ge_ {s:BA} {l:List UInt8} (h:s.size≠l.length):(s.toList==l)=false:=by
 rw[beq_eq_false_iff_ne];intro e;rw[ByteArray.toList_eq]at e;apply h;rw[<-Qz_,e]
theorem kE_ (s:BA) (w:World) (hs:s.size<=2):Calls prog 150 #[.string s] w fun e w'=>e=.returned (.bool (ZG_ s))/\w=w':=by
 cases f:(s.toList==[38,38])with
 |true=>
  have d:ZG_ s=true:=by unfold ZG_ VR_;simp only[f,Bool.or_true,Bool.true_or]
  rw[d];clear d;go_enter func150,ntmps150;go_wp2;go_ret;exact⟨rfl,rfl⟩
 |false=>
 cases h1:(s.toList==[124,124])with
 |true=>
  have d:ZG_ s=true:=by unfold ZG_ VR_;simp only[h1,Bool.or_true,Bool.true_or]
  rw[d];clear d;go_enter func150,ntmps150;go_wp2;go_ret;exact⟨rfl,rfl⟩
 |false=>
 cases g:(s.toList==[61,61])with
 |true=>
  have d:ZG_ s=true:=by unfold ZG_ VR_;simp only[g,Bool.or_true,Bool.true_or]
  rw[d];clear d;go_enter func150,ntmps150;go_wp2;go_ret;exact⟨rfl,rfl⟩
 |false=>
 cases h:(s.toList==[61,62])with
 |true=>
  have d:ZG_ s=true:=by unfold ZG_ VR_;simp only[h,Bool.or_true,Bool.true_or]
  rw[d];clear d;go_enter func150,ntmps150;go_wp2;go_ret;exact⟨rfl,rfl⟩
 |false=>
 cases i:(s.toList==[46,46])with
 |true=>
  have d:ZG_ s=true:=by unfold ZG_ VR_;simp only[i,Bool.or_true,Bool.true_or]
  rw[d];clear d;go_enter func150,ntmps150;go_wp2;go_ret;exact⟨rfl,rfl⟩
 |false=>
 by_cases hz:s.size=1
 ·obtain⟨c,j⟩:=Qep_ hz;have d:ZG_ s=JQ_ c:=by unfold ZG_ VR_;simp only[f,h1,g,h,i,Bool.or_self,Bool.false_or];rw[j]
  rw[d];clear d;have H1:=hid (fun W=>show Calls prog 186 #[.string ⟨#[40,41,123,125,91,93,59,44,46,61,43,45,42,60,63,58]⟩,.string s] W fun e w'=>e=.returned (.bool (JQ_ c))/\w'=W by rw[j];exact Tryz.strings_Contains_one ⟨#[40,41,123,125,91,93,59,44,46,61,43,45,42,60,63,58]⟩ c W);clear j;go_enter func150,ntmps150;go_wp2_with (go_at_call 186;refine(H1.o _).mono ?_;rintro e w1 ⟨rfl,rfl⟩)
  go_ret;exact⟨rfl,rfl⟩
 ·have d:ZG_ s=false:=by
   unfold ZG_ VR_;simp only[f,h1,g,h,i,Bool.or_self,Bool.false_or]
   match hl:s.data.toList with
   |[]=>rfl
   |[c]=>exact absurd (by rw[<-Qz_,hl];rfl) hz
   |a::b::l=>rfl
  rw[d];clear d;have k:((s.size:Int)==1)=false:=by rw[beq_eq_false_iff_ne];omega
  go_enter func150,ntmps150;go_wp2;go_ret;exact⟨rfl,rfl⟩
def XO_ (s:BA):Nat:=if 2<=s.size/\ZG_ (s.extract 0 2)=true then 2 else if ZG_ (s.extract 0 1)=true then 1 else 0
theorem WE_ (s:BA) (w:World) (h0:0 < s.size) (hs:s.size<=maxLen) (hb:QN_ s[0]=true):
  Calls prog 117 #[.string s] w fun e w'=>e=.returned (.tuple #[.int .i64 1,.string (ZS_ Qp_ s),.int .i64 (ZS_ Qp_ s).size,.bool (decide (((ZS_ Qp_ s).size:Int)<=30))])/\w=w':=by
 have hm:=hid hs;unfold maxLen at hs;have H1:=hid (fun(W:World)=>show Calls prog 141 #[.int .u8 (s[0].toNat:Int)] W fun e w'=>e=.returned (.bool true)/\W=w' by rw[<-hb];exact Zf_ _ W);have H2:=hid (fun W=>xu_ s W hm.o);have hz:(ZS_ Qp_ s).size<=9223372036854775807:=by rw[Zt_];have:=KN_ Qp_ s.data.toList;rw[Qz_]at this;omega
 clear hb;generalize ZS_ Qp_ s=t at H2 hz |-
 go_enter func117,ntmps117;go_wp2_with (first|(go_at_call 141;refine(H1.o _).mono ?_;rintro e w1 ⟨rfl,rfl⟩)|(go_at_call 142;refine(H2.o _).mono ?_;rintro e w1 ⟨rfl,rfl⟩))
 refine bodyPost_ret (by simp[results,Tryz.results117,go_sem,];try rfl) rfl ?_;exact⟨rfl,rfl⟩
theorem zJ_ (s:BA) (w:World) (h0:0 < s.size) (hs:s.size<=maxLen) (hb:QN_ s[0]=false) (hg:Km_ s[0]=true):
  Calls prog 117 #[.string s] w fun e w'=>e=.returned (.tuple #[.int .i64 2,.string (ZS_ Km_ s),.int .i64 (ZS_ Km_ s).size,.bool (decide (((ZS_ Km_ s).size:Int)<=12))])/\w=w':=by
 have hm:=hid hs;unfold maxLen at hs;have H1:=hid (fun(W:World)=>show Calls prog 141 #[.int .u8 (s[0].toNat:Int)] W fun e w'=>e=.returned (.bool false)/\W=w' by rw[<-hb];exact Zf_ _ W);have H3:=hid (fun(W:World)=>show Calls prog 144 #[.int .u8 (s[0].toNat:Int)] W fun e w'=>e=.returned (.bool true)/\W=w' by rw[<-hg];exact KX_ _ W);have H2:=hid (fun W=>qV_ s W hm.o);have hz:(ZS_ Km_ s).size<=9223372036854775807:=by rw[Zt_];have:=KN_ Km_ s.data.toList;rw[Qz_]at this;omega
 clear hb hg;generalize ZS_ Km_ s=t at H2 hz |-
 go_enter func117,ntmps117;go_wp2_with (first|(go_at_call 141;refine(H1.o _).mono ?_;rintro e w1 ⟨rfl,rfl⟩)|(go_at_call 144;refine(H3.o _).mono ?_;rintro e w1 ⟨rfl,rfl⟩)|(go_at_call 142;refine(H2.o _).mono ?_;rintro e w1 ⟨rfl,rfl⟩))
 refine bodyPost_ret (by simp[results,Tryz.results117,go_sem,];try rfl) rfl ?_;exact⟨rfl,rfl⟩
theorem zK_ (s:BA) (w:World) (h0:0 < s.size) (hs:s.size<=maxLen) (hb:QN_ s[0]=false) (hg:Km_ s[0]=false) (hq:s[0]=39):
  Calls prog 117 #[.string s] w fun e w'=>e=.returned (.tuple #[.int .i64 3,.string (qQ_ s).1,.int .i64 (qQ_ s).1.size,.bool (qQ_ s).2])/\w=w':=by
 have hm:=hid hs;unfold maxLen at hs;have H1:=hid (fun(W:World)=>show Calls prog 141 #[.int .u8 (s[0].toNat:Int)] W fun e w'=>e=.returned (.bool false)/\W=w' by rw[<-hb];exact Zf_ _ W);have H3:=hid (fun(W:World)=>show Calls prog 144 #[.int .u8 (s[0].toNat:Int)] W fun e w'=>e=.returned (.bool false)/\W=w' by rw[<-hg];exact KX_ _ W);have a:=hid (fun W=>Qa3_ s W h0 hm.o);have b:((s[0].toNat:Int)==39)=true:=by rw[hq];rfl
 have hz:(qQ_ s).1.size<=9223372036854775807:=by
  unfold qQ_;split
  ·exact Nat.zero_le _
  ·simp;omega
 clear hb hg hq;generalize (qQ_ s).1=t at a hz |-
 generalize (qQ_ s).2=u at a |-
 go_enter func117,ntmps117;go_wp2_with (first|(go_at_call 141;refine(H1.o _).mono ?_;rintro e w1 ⟨rfl,rfl⟩)|(go_at_call 144;refine(H3.o _).mono ?_;rintro e w1 ⟨rfl,rfl⟩)|(go_at_call 145;refine(a.o _).mono ?_;rintro e w1 ⟨rfl,rfl⟩))
 refine bodyPost_ret (by simp[results,Tryz.results117,go_sem,];try rfl) rfl ?_;exact⟨rfl,rfl⟩
theorem WF_ (s:BA) (w:World) (h0:0 < s.size) (hs:s.size<=maxLen) (hb:QN_ s[0]=false) (hg:Km_ s[0]=false) (hq:¬s[0]=39) (hp:Lib.hasPrefix s.data.toList [47,47]=true):
  Calls prog 117 #[.string s] w fun e w'=>e=.returned (.tuple #[.int .i64 5,.string (VK_ (ZS_ QV_ s)),.int .i64 (ZS_ QV_ s).size,.bool (Gi_ QJ_ (ZS_ QV_ s))])/\w=w':=by
 have hm:=hid hs;unfold maxLen at hs;have H1:=hid (fun(W:World)=>show Calls prog 141 #[.int .u8 (s[0].toNat:Int)] W fun e w'=>e=.returned (.bool false)/\W=w' by rw[<-hb];exact Zf_ _ W);have H3:=hid (fun(W:World)=>show Calls prog 144 #[.int .u8 (s[0].toNat:Int)] W fun e w'=>e=.returned (.bool false)/\W=w' by rw[<-hg];exact KX_ _ W);have b:((s[0].toNat:Int)==39)=false:=by
  rw[beq_eq_false_iff_ne];intro e;apply hq;apply UInt8.toNat_inj.1;show s[0].toNat=39;omega
 have H5:=hid (fun(W:World)=>show Calls prog 146 #[.string s,.string ⟨#[47,47]⟩] W fun e w'=>e=.returned (.bool true)/\w'=W by rw[<-hp];exact Tryz.strings_HasPrefix s ⟨#[47,47]⟩ W);have H2:=hid (fun W=>jy_ s W hm.o);have a:(ZS_ QV_ s).size<=9223372036854775807:=by rw[Zt_];have:=KN_ QV_ s.data.toList;rw[Qz_]at this;omega
 have H6:=hid (fun W=>U5_ (ZS_ QV_ s) W a);have H7:=hid (fun W=>JE_ (ZS_ QV_ s) W a);clear hb hg hq hp;generalize ZS_ QV_ s=t at H2 a H6 H7 |-
 go_enter func117,ntmps117;go_wp2_with (first|(go_at_call 141;refine(H1.o _).mono ?_;rintro e w1 ⟨rfl,rfl⟩)|(go_at_call 144;refine(H3.o _).mono ?_;rintro e w1 ⟨rfl,rfl⟩)|(go_at_call 146;refine(H5.o _).mono ?_;rintro e w1 ⟨rfl,rfl⟩)|(go_at_call 142;refine(H2.o _).mono ?_;rintro e w1 ⟨rfl,rfl⟩)|(go_at_call 148;refine(H6.o _).mono ?_;rintro e w1 ⟨rfl,rfl⟩)|(go_at_call 149;refine(H7.o _).mono ?_;rintro e w1 ⟨rfl,rfl⟩))
 refine bodyPost_ret (by simp[results,Tryz.results117,go_sem,];try rfl) rfl ?_;exact⟨rfl,rfl⟩
theorem QcB_ {s:BA} (h:2<=s.size) (hm:ZG_ (s.extract 0 2)=true):XO_ s=2:=by unfold XO_;rw[if_pos ⟨h,hm⟩]
theorem QcA_ {s:BA} (h:2<=s.size->ZG_ (s.extract 0 2)=false) (hm:ZG_ (s.extract 0 1)=true):XO_ s=1:=by
 unfold XO_;rw[if_neg (by rintro⟨h1,h2⟩;rw[h h1]at h2;cases h2),if_pos hm]
theorem QaG_ {s:BA} (h:2<=s.size->ZG_ (s.extract 0 2)=false) (hm:ZG_ (s.extract 0 1)=false):XO_ s=0:=by
 unfold XO_;rw[if_neg (by rintro⟨h1,h2⟩;rw[h h1]at h2;cases h2),if_neg (by rw[hm];decide)]
def QaH_ (s:BA):Value:=if XO_ s=0 then .tuple #[.int .i64 0,.string ⟨#[]⟩,.int .i64 0,.bool false]else .tuple #[.int .i64 4,.string (s.extract 0 (XO_ s)),.int .i64 (XO_ s),.bool true]
theorem GB_ {s:BA} {k:Nat} (h:XO_ s=k) (hk:0 < k):QaH_ s=.tuple #[.int .i64 4,.string (s.extract 0 k),.int .i64 k,.bool true]:=by unfold QaH_;rw[h,if_neg oo]
theorem GA_ {s:BA} (h:XO_ s=0):QaH_ s=.tuple #[.int .i64 0,.string ⟨#[]⟩,.int .i64 0,.bool false]:=by unfold QaH_;rw[if_pos h]
theorem WD_ (s:BA) (w:World) (h0:0 < s.size) (hs:s.size<=maxLen) (o:QN_ s[0]=false) (hg:Km_ s[0]=false) (hq:¬s[0]=39) (hp:Lib.hasPrefix s.data.toList [47,47]=false):
  Calls prog 117 #[.string s] w fun e w'=>e=.returned (QaH_ s)/\Below w.heap.size w w':=by
 have hm:=hid hs;unfold maxLen at hs;have j:=hid (fun(W:World)=>show Calls prog 141 #[.int .u8 (s[0].toNat:Int)] W fun e w'=>e=.returned (.bool false)/\W=w' by rw[<-o];exact Zf_ _ W);have l:=hid (fun(W:World)=>show Calls prog 144 #[.int .u8 (s[0].toNat:Int)] W fun e w'=>e=.returned (.bool false)/\W=w' by rw[<-hg];exact KX_ _ W);have y:((s[0].toNat:Int)==39)=false:=by
  rw[beq_eq_false_iff_ne];intro e;apply hq;apply UInt8.toNat_inj.1;show s[0].toNat=39;omega
 have m:=hid (fun(W:World)=>show Calls prog 146 #[.string s,.string ⟨#[47,47]⟩] W fun e w'=>e=.returned (.bool false)/\w'=W by rw[<-hp];exact Tryz.strings_HasPrefix s ⟨#[47,47]⟩ W);have d:=hid (fun(k:Nat) (t:k<=2) (b:Bool) (o:ZG_ (s.extract 0 k)=b) (W:World)=>show Calls prog 150 #[.string (s.extract 0 k)] W fun e w'=>e=.returned (.bool b)/\W=w' by rw[<-o];exact kE_ _ W (by simp;omega));clear o hg hq hp;go_enter func117,ntmps117;go_wp2_with (first|(go_at_call 141;refine(j.o _).mono ?_;rintro e w1 ⟨rfl,rfl⟩)|(go_at_call 144;refine(l.o _).mono ?_;rintro e w1 ⟨rfl,rfl⟩)|(go_at_call 146;refine(m.o _).mono ?_;rintro e w1 ⟨rfl,rfl⟩))
 go_loop [12] (fun i=>∃k:Nat,k<=2/\k<=s.size/\Hid (k < 2->2<=s.size->ZG_ (s.extract 0 2)=false)/\Hid (k < 1->ZG_ (s.extract 0 1)=false)/\i=.int .i64 k) (fun i=>(intOf i).toNat)
 case atStart=>
  by_cases n:2<=s.size
  ·refine⟨2,oo,n,(show _->_->_=_ from fun h=>absurd h oo),(show _->_=_ from fun h=>absurd h oo),?_⟩
   go_num
  ·refine⟨1,oo,oo,(show _->_->_=_ from fun _ h=>absurd h n),(show _->_=_ from fun h=>absurd h oo),?_⟩
   go_num
 case round=>
  obtain⟨k,t,x,f,q,rfl⟩:=hrel;by_cases v:0 < k
  ·cases a:ZG_ (s.extract 0 k)with
   |true=>
    have p:=hid (d.o k t _ a);have g:XO_ s=k:=by
     by_cases c:k=2
     ·subst c;exact QcB_ x a
     ·obtain rfl:k=1:=oo;exact QcA_ (f.o oo) a
    have r:=hid (GB_ g v);clear d a g f q j l m;go_wp2_with (first|(go_at_call 150;refine(p.o _).mono ?_;rintro e w1 ⟨rfl,rfl⟩))
    go_quiet (fail);go_wp2;refine bodyPost_ret (by simp[results,Tryz.results117,go_sem,];try rfl) rfl ?_;exact⟨by rw[r.o],grow_⟩
   |false=>
    have p:=hid (d.o k t _ a);have HM:=hid a;clear d a j l m;go_wp2_with (first|(go_at_call 150;refine(p.o _).mono ?_;rintro e w1 ⟨rfl,rfl⟩))
    go_round
    case rel=>
     refine⟨k - 1,oo,oo,?_,?_,by go_num⟩
     ·show _->_->_=_;intro h1 n;by_cases c:k=2
      ·subst c;exact HM.o
      ·exact f.o oo n
     ·show _->_=_;intro h1;obtain rfl:k=1:=oo;exact HM.o
    case measure=>simp[intOf];omega
  ·obtain rfl:k=0:=oo;have r:=hid (GA_ (QaG_ (f.o oo) (q.o oo)));clear d f q j l m;go_wp2;refine bodyPost_ret (by simp[results,Tryz.results117,go_sem,];try rfl) rfl ?_;exact⟨by rw[r.o],grow_⟩
def isR (ok:Bool) (k kind:Int) (t s:BA) (z:Int):Bool:=ok&&(k==kind)&&(t.toList==s.toList)&&(z==(s.size:Int))
theorem Qci_ (s:BA) (kind k z:Int) (t:BA) (ok:Bool) (w:World) (h0:0 < s.size)
  (H:Hid (∀W,Calls prog 117 #[.string s] W fun e w'=>e=.returned (.tuple #[.int .i64 k,.string t,.int .i64 z,.bool ok])/\Below W.heap.size W w')):
  Calls prog 192 #[.string s,.int .i64 kind] w fun e w'=>e=.returned (.bool (isR ok k kind t s z))/\Below w.heap.size w w':=by
 have c:(s.toList==[])=false:=Ge_ (show s.size≠0 from oo)
 cases ok with
 |false=>
  have a:isR false k kind t s z=false:=rfl;rw[a];go_enter func192,ntmps192;go_wp2_with (go_at_call 117;refine(H.o _).mono ?_;rintro e w1 ⟨rfl,b⟩)
  go_ret;exact⟨rfl,grow_⟩
 |true=>
  cases h1:(k==kind)with
  |false=>
   have a:isR true k kind t s z=false:=(by unfold isR;rw[h1];rfl);rw[a];go_enter func192,ntmps192;go_wp2_with (go_at_call 117;refine(H.o _).mono ?_;rintro e w1 ⟨rfl,b⟩)
   go_ret;exact⟨rfl,grow_⟩
  |true=>
   cases h3:(t.toList==s.toList)with
   |false=>
    have a:isR true k kind t s z=false:=(by unfold isR;rw[h1,h3];rfl);rw[a];go_enter func192,ntmps192;go_wp2_with (go_at_call 117;refine(H.o _).mono ?_;rintro e w1 ⟨rfl,b⟩)
    go_ret;exact⟨rfl,grow_⟩
   |true=>
    have a:isR true k kind t s z=(z==(s.size:Int)):=(by unfold isR;rw[h1,h3];rfl);rw[a];go_enter func192,ntmps192;go_wp2_with (go_at_call 117;refine(H.o _).mono ?_;rintro e w1 ⟨rfl,b⟩)
    go_ret;exact⟨rfl,grow_⟩
theorem kO_ (s:BA) (kind:Int) (w:World) (h0:s.size=0):
  Calls prog 192 #[.string s,.int .i64 kind] w fun e w'=>e=.returned (.bool false)/\Below w.heap.size w w':=by
 have a:(s.toList==[])=true:=by
  rw[beq_iff_eq,ByteArray.toList_eq];exact List.eq_nil_of_length_eq_zero (by rw[Qz_];exact h0)
 go_enter func192,ntmps192;go_wp2;go_ret;exact⟨rfl,grow_⟩
def Jc_:List UInt8->Nat
 |[]=>0
 |c::l=>if c=39 then 1 else if QJ_ c=true then (if Jc_ l=0 then 0 else Jc_ l+1)else 0
def UG_ (l:List UInt8):Nat:=if Jc_ (l.drop 1)=0 then 0 else Jc_ (l.drop 1)+1
def Ko_ (l:List UInt8):Nat:=if Lib.hasPrefix l [47,47]=true/\(l.take (K0_ QV_ l)).all QJ_=true then K0_ QV_ l else 0
def Jy_ (s:BA):Bool:=match s.data.toList with|c::_=>QN_ c|[]=>false
def Wp_ (s:BA):Bool:=decide (s.size<=30)&&Jy_ s&&Gi_ Qp_ s
def YT_ (s:BA):Bool:=Wp_ s&&!X3_ s
def numB (s:BA):Bool:=decide (0 < s.size/\s.size<=12)&&Gi_ Km_ s
def quoB (s:BA):Bool:=decide (1 < s.size)&&(match s.data.toList with|c::_=>decide (c=39)|[]=>false)&&decide (UG_ s.data.toList=s.size)
def JW_ (s:BA):Bool:=decide (1 < s.size)&&decide (Ko_ s.data.toList=s.size)&&decide (VK_ s=s)
theorem Qe8_ (t s:BA):(t.toList==s.toList)=decide (t=s):=by
 by_cases h:t=s
 ·subst h;rw[decide_eq_true rfl];exact beq_self_eq_true _
 ·rw[Qde_ h,decide_eq_false h]
theorem Jv_ {s:BA} {n:Nat} (hn:n<=s.size):s.extract 0 n=s↔n=s.size:=by
 constructor
 ·intro h;have:=congrArg ByteArray.size h;simp at this;omega
 ·intro h;subst h;simp
theorem ZW_ {s:BA} (h:0 < s.size):∃l,s.data.toList=s[0]::l:=by
 have hl:s.data.toList.length=s.size:=Qz_ s
 match hd:s.data.toList with
 |[]=>rw[hd]at hl;simp at hl;omega
 |c::l=>
  refine⟨l,?_⟩;have:s[0]=s.data.toList[0]'oo:=rfl;rw[this];simp only[hd,List.getElem_cons_zero]
theorem qe_ {c:UInt8} (h:Km_ c=true):QN_ c=false:=by
 unfold Km_ at h;unfold QN_;have:=of_decide_eq_true h;exact decide_eq_false oo
theorem qj_ {c:UInt8} (h:QN_ c=true):Km_ c=false:=by
 cases hf:Km_ c with
 |false=>rfl
 |true=>rw[qe_ hf]at h;cases h
theorem G6_ {c:UInt8} (h:QJ_ c=true):QV_ c=true:=by
 unfold QJ_ at h;have:=of_decide_eq_true h;unfold QV_;rw[bne_iff_ne];intro e;subst e;revert this;decide
theorem Vh_ (p:UInt8->Bool) (s:BA):ZS_ p s=s↔Gi_ p s=true:=by
 unfold ZS_;have h:=KN_ p s.data.toList;rw[Qz_]at h;rw[Jv_ h];exact Wz_ p s
theorem ju_ (l:List UInt8):Jc_ l=if Lib.indexByte l 39 < 0 then 0 else if (l.take (Lib.indexByte l 39).toNat).all QJ_=true then (Lib.indexByte l 39).toNat+1 else 0:=by
 induction l with
 |nil=>rfl
 |cons c l ih=>
  have d:=Lib.indexByte_ge l 39;unfold Jc_ Lib.indexByte;by_cases h:c=39
  ·subst h;simp
  ·have hb:(c==39)=false:=(by rw[beq_eq_false_iff_ne];exact h);rw[if_neg h,hb];simp only[Bool.false_eq_true,if_false];by_cases h1:Lib.indexByte l 39= -1
   ·have b:(Lib.indexByte l 39== -1)=true:=(by rw[h1];rfl);rw[if_pos b,ih,h1];simp
   ·have b:(Lib.indexByte l 39== -1)=false:=(by rw[beq_eq_false_iff_ne];exact h1);rw[b];simp only[Bool.false_eq_true,if_false];rw[ih];obtain⟨o,ho⟩:=Int.eq_ofNat_of_zero_le (show 0<=Lib.indexByte l 39 from oo);rw[ho];have e2:¬((o:Int) < 0):=oo;have e3:¬((o:Int)+1 < 0):=oo;have e4:((o:Int)+1).toNat=o+1:=oo;rw[if_neg e2,if_neg e3,e4,List.take_succ_cons,List.all_cons,Int.toNat_natCast]
    cases hp:QJ_ c with
    |true=>
     simp only[if_true,Bool.true_and];by_cases a:(l.take o).all QJ_=true
     ·rw[if_pos a,if_neg oo,if_pos a]
     ·rw[if_neg a,if_pos rfl,if_neg a]
    |false=>
     simp
section
variable {s:BA}
theorem JU_ (h0:0 < s.size) (h:QN_ s[0]=false):Wp_ s=false:=by
 obtain⟨l,hl⟩:=ZW_ h0;have:Jy_ s=false:=by unfold Jy_;rw[hl];exact h
 unfold Wp_;rw[this,Bool.and_false,Bool.false_and]
theorem qO_ (h0:0 < s.size) (h:Km_ s[0]=false):numB s=false:=by
 unfold numB;rw[Jp_ h0 h,Bool.and_false]
theorem Wu_ (h0:0 < s.size) (h:¬s[0]=39):quoB s=false:=by
 obtain⟨l,hl⟩:=ZW_ h0;unfold quoB;simp only[hl];rw[decide_eq_false h,Bool.and_false,Bool.false_and]
theorem UF_ (h:Lib.hasPrefix s.data.toList [47,47]=false):JW_ s=false:=by
 have:Ko_ s.data.toList=0:=by unfold Ko_;rw[h];simp
 unfold JW_;rw[this];by_cases h1:1 < s.size
 ·rw[decide_eq_false (show ¬0=s.size from oo),Bool.and_false,Bool.false_and]
 ·rw[decide_eq_false h1,Bool.false_and,Bool.false_and]
theorem vL_ (h0:0 < s.size) (h:Lib.hasPrefix s.data.toList [47,47]=true):s[0]=47:=by
 obtain⟨l,hl⟩:=ZW_ h0;rw[hl]at h;unfold Lib.hasPrefix at h;simp only[List.isPrefixOf,Bool.and_eq_true,beq_iff_eq]at h;exact h.1.symm
theorem QcM_ (h0:0 < s.size) (h:¬s[0]=47):Lib.hasPrefix s.data.toList [47,47]=false:=by
 cases hp:Lib.hasPrefix s.data.toList [47,47]with
 |false=>rfl
 |true=>exact absurd (vL_ h0 hp) h
theorem Zg_ (ok:Bool) {k kind:Int} (t s:BA) (z:Int) (h:k≠kind):isR ok k kind t s z=false:=by
 have:(k==kind)=false:=by rw[beq_eq_false_iff_ne];exact h
 unfold isR;rw[this,Bool.and_false,Bool.false_and,Bool.false_and]
theorem UA_ (ok:Bool) (k:Int) (t s:BA) (z:Nat):isR ok k k t s z=(ok&&decide (t=s)&&decide (z=s.size)):=by
 have e1:(k==k)=true:=by rw[beq_iff_eq]
 have e2:((z:Int)==(s.size:Int))=decide (z=s.size):=by
  by_cases h:z=s.size
  ·rw[decide_eq_true h,h];exact beq_self_eq_true _
  ·rw[decide_eq_false h,beq_eq_false_iff_ne];omega
 unfold isR;rw[e1,Qe8_,e2,Bool.and_true]
theorem QfY_ (h0:0 < s.size) (hb:QN_ s[0]=true):
  isR (decide (((ZS_ Qp_ s).size:Int)<=30)) 1 1 (ZS_ Qp_ s) s (ZS_ Qp_ s).size=Wp_ s:=by
 obtain⟨l,hl⟩:=ZW_ h0;have hf:Jy_ s=true:=by unfold Jy_;rw[hl];exact hb
 rw[UA_];unfold Wp_;rw[hf,Bool.and_true];by_cases h:ZS_ Qp_ s=s
 ·rw[h,decide_eq_true rfl,decide_eq_true rfl,(Vh_ Qp_ s).1 h,Bool.and_true,Bool.and_true,Bool.and_true];by_cases h2:s.size<=30
  ·rw[decide_eq_true h2,decide_eq_true oo]
  ·rw[decide_eq_false h2,decide_eq_false oo]
 ·have:Gi_ Qp_ s=false:=by
   cases hc:Gi_ Qp_ s with
   |false=>rfl
   |true=>exact absurd ((Vh_ Qp_ s).2 hc) h
  rw[decide_eq_false h,this,Bool.and_false,Bool.and_false,Bool.false_and]
theorem Qg4_ (h0:0 < s.size):
  isR (decide (((ZS_ Km_ s).size:Int)<=12)) 2 2 (ZS_ Km_ s) s (ZS_ Km_ s).size=numB s:=by
 rw[UA_];unfold numB;by_cases h:ZS_ Km_ s=s
 ·rw[h,decide_eq_true rfl,decide_eq_true rfl,(Vh_ Km_ s).1 h,Bool.and_true,Bool.and_true,Bool.and_true];by_cases h2:s.size<=12
  ·rw[decide_eq_true (⟨h0,h2⟩:0 < s.size/\s.size<=12),decide_eq_true oo]
  ·rw[decide_eq_false (show ¬(0 < s.size/\s.size<=12)from oo),decide_eq_false oo]
 ·have:Gi_ Km_ s=false:=by
   cases hc:Gi_ Km_ s with
   |false=>rfl
   |true=>exact absurd ((Vh_ Km_ s).2 hc) h
  rw[decide_eq_false h,this,Bool.and_false,Bool.and_false,Bool.false_and]
theorem Qf5_ (h0:0 < s.size) (hp:Lib.hasPrefix s.data.toList [47,47]=true):
  isR (Gi_ QJ_ (ZS_ QV_ s)) 5 5 (VK_ (ZS_ QV_ s)) s (ZS_ QV_ s).size=JW_ s:=by
 have d:2<=s.size:=by have:=(List.isPrefixOf_iff_prefix.1 (show List.isPrefixOf [47,47] s.data.toList=true from hp)).length_le;rw[Qz_]at this;exact this
 rw[UA_];unfold JW_;rw[decide_eq_true (show 1 < s.size from oo),Bool.true_and];have hn:=KN_ QV_ s.data.toList;rw[Qz_]at hn;have c:=Zt_ QV_ s;have a:Gi_ QJ_ (ZS_ QV_ s)=(s.data.toList.take (K0_ QV_ s.data.toList)).all QJ_:=by
  unfold Gi_ ZS_;rw[show(s.extract 0 (K0_ QV_ s.data.toList)).data.toList=s.data.toList.take (K0_ QV_ s.data.toList)by rw[ByteArray.data_extract];simp]
 by_cases b:K0_ QV_ s.data.toList=s.size
 ·have ht:ZS_ QV_ s=s:=by rw[Vh_];exact(Wz_ QV_ s).1 b
  rw[ht];rw[ht]at a;rw[a];unfold Ko_;rw[hp,b]
  cases hq:(s.data.toList.take s.size).all QJ_ with
  |true=>simp
  |false=>
   simp;intro _;omega
 ·rw[decide_eq_false (show ¬(ZS_ QV_ s).size=s.size by rw[c];exact b),Bool.and_false];have:Ko_ s.data.toList≠s.size:=by
   unfold Ko_;split
   ·exact b
   ·omega
  rw[decide_eq_false this,Bool.false_and]
theorem Qg7_ (h0:0 < s.size) (hq:s[0]=39):isR (qQ_ s).2 3 3 (qQ_ s).1 s (qQ_ s).1.size=quoB s:=by
 obtain⟨l,c⟩:=ZW_ h0;rw[hq]at c;have j:l.length+1=s.size:=by have:=Qz_ s;rw[c]at this;simpa using this
 have e:(s.extract 1 s.size).data.toList=l:=by
  rw[ByteArray.data_extract];simp only[Array.toList_extract,List.extract_eq_take_drop,c,List.drop_succ_cons,List.drop_zero];exact List.take_of_length_le oo
 rw[UA_];unfold quoB qQ_;rw[e,c];simp only[decide_true,Bool.and_true];have f:UG_ (39::l)=if Jc_ l=0 then 0 else Jc_ l+1:=rfl
 rw[f,ju_];by_cases hi:Lib.indexByte l 39 < 0
 ·rw[if_pos hi,if_pos hi];simp only[if_true,Bool.false_and];by_cases h1:1 < s.size
  ·rw[decide_eq_true h1,decide_eq_false oo,Bool.and_false]
  ·rw[decide_eq_false h1,Bool.false_and]
 ·rw[if_neg hi,if_neg hi];obtain⟨o,ho⟩:=Int.eq_ofNat_of_zero_le (show 0<=Lib.indexByte l 39 from oo);have a:=Lib.indexByte_some ho;have i:o < l.length:=(List.getElem?_eq_some_iff.1 a.1).1;rw[ho,Int.toNat_natCast,show((o:Int)+2).toNat=o+2 from oo];have g:o+2<=s.size:=oo;have d:(s.extract 0 (o+2)).size=o+2:=by simp;omega
  rw[decide_eq_true (show 1 < s.size from oo),Bool.true_and];have b:Gi_ QJ_ (s.extract 0 (o+2))=(l.take o).all QJ_:=by
   unfold Gi_;rw[show(s.extract 0 (o+2)).data.toList=s.data.toList.take (o+2)by rw[ByteArray.data_extract];simp,c,List.take_succ_cons,List.all_cons];rw[show QJ_ 39=true from rfl,Bool.true_and];rw[List.take_add_one,a.1,List.all_append];simp[show QJ_ 39=true from rfl]
  rw[b,d]
  cases hc:(l.take o).all QJ_ with
  |false=>
   simp only[Bool.false_and,Bool.false_eq_true,if_false,if_true];rw[decide_eq_false oo]
  |true=>
   simp only[if_true,Bool.true_and];rw[if_neg oo];by_cases h:o+2=s.size
   ·rw[decide_eq_true ((Jv_ g).2 h),decide_eq_true h]
    rfl
   ·rw[decide_eq_false h,Bool.and_false]
end
def J5_ (s:BA) (kind:Int):Bool:=if kind=1 then Wp_ s else if kind=2 then numB s else if kind=3 then quoB s else JW_ s
theorem jD_ {s:BA} (h:s.size=0) (kind:Int):J5_ s kind=false:=by
 have hl:s.data.toList=[]:=List.eq_nil_of_length_eq_zero (by rw[Qz_];exact h);unfold J5_;split
 ·unfold Wp_ Jy_;rw[hl];simp
 ·split
  ·unfold numB;rw[decide_eq_false oo,Bool.false_and]
  ·split
   ·unfold quoB;rw[decide_eq_false oo,Bool.false_and,Bool.false_and]
   ·unfold JW_;rw[decide_eq_false oo,Bool.false_and,Bool.false_and]
theorem VO_ (s:BA) (kind:Int) (w:World) (hs:s.size<=maxLen) (i:kind=1\/kind=2\/kind=3\/kind=5):
  Calls prog 192 #[.string s,.int .i64 kind] w fun e w'=>e=.returned (.bool (J5_ s kind))/\Below w.heap.size w w':=by
 by_cases a:0 < s.size
 ·have f:∀(k z:Int) (t:BA) (ok:Bool),isR ok k kind t s z=J5_ s kind->(∀W,Calls prog 117 #[.string s] W fun e w'=>e=.returned (.tuple #[.int .i64 k,.string t,.int .i64 z,.bool ok])/\Below W.heap.size W w')->Calls prog 192 #[.string s,.int .i64 kind] w fun e w'=>e=.returned (.bool (J5_ s kind))/\Below w.heap.size w w':=by
   intro k z t ok he H;rw[<-he];exact Qci_ s kind k z t ok w a (hid H)
  have b:∀{v:Value} (W:World),(Calls prog 117 #[.string s] W fun e w'=>e=.returned v/\W=w')->Calls prog 117 #[.string s] W fun e w'=>e=.returned v/\Below W.heap.size W w':=fun W h=>h.mono fun e w' ⟨h1,h2⟩=>⟨h1,by subst h2;exact br⟩
  cases c:QN_ s[0]with
  |true=>
   refine f 1 _ _ _ ?_ (fun W=>b W (WE_ s W a hs c));have d:=qj_ c;rcases i with rfl|rfl|rfl|rfl
   ·exact QfY_ a c
   ·rw[Zg_ _ _ _ _ (by decide)];exact(qO_ a d).symm
   ·rw[Zg_ _ _ _ _ (by decide)];exact(Wu_ a (by intro e;rw[e]at c;revert c;decide)).symm
   ·rw[Zg_ _ _ _ _ (by decide)];exact(UF_ (QcM_ a (by intro e;rw[e]at c;revert c;decide))).symm
  |false=>
   cases d:Km_ s[0]with
   |true=>
    refine f 2 _ _ _ ?_ (fun W=>b W (zJ_ s W a hs c d));rcases i with rfl|rfl|rfl|rfl
    ·rw[Zg_ _ _ _ _ (by decide)];exact(JU_ a c).symm
    ·exact Qg4_ a
    ·rw[Zg_ _ _ _ _ (by decide)];exact(Wu_ a (by intro e;rw[e]at d;revert d;decide)).symm
    ·rw[Zg_ _ _ _ _ (by decide)];exact(UF_ (QcM_ a (by intro e;rw[e]at d;revert d;decide))).symm
   |false=>
    by_cases g:s[0]=39
    ·refine f 3 _ _ _ ?_ (fun W=>b W (zK_ s W a hs c d g));rcases i with rfl|rfl|rfl|rfl
     ·rw[Zg_ _ _ _ _ (by decide)];exact(JU_ a c).symm
     ·rw[Zg_ _ _ _ _ (by decide)];exact(qO_ a d).symm
     ·exact Qg7_ a g
     ·rw[Zg_ _ _ _ _ (by decide)];exact(UF_ (QcM_ a (by rw[g];decide))).symm
    ·cases m:Lib.hasPrefix s.data.toList [47,47]with
     |true=>
      refine f 5 _ _ _ ?_ (fun W=>b W (WF_ s W a hs c d g m));rcases i with rfl|rfl|rfl|rfl
      ·rw[Zg_ _ _ _ _ (by decide)];exact(JU_ a c).symm
      ·rw[Zg_ _ _ _ _ (by decide)];exact(qO_ a d).symm
      ·rw[Zg_ _ _ _ _ (by decide)];exact(Wu_ a g).symm
      ·exact Qf5_ a m
     |false=>
      have j:J5_ s kind=false:=by
       rcases i with rfl|rfl|rfl|rfl
       ·exact JU_ a c
       ·exact qO_ a d
       ·exact Wu_ a g
       ·exact UF_ m
      have l:∀W,Calls prog 117 #[.string s] W fun e w'=>e=.returned (QaH_ s)/\Below W.heap.size W w':=fun W=>WD_ s W a hs c d g m
      by_cases hz:XO_ s=0
      ·rw[GA_ hz]at l;exact f 0 0 ⟨#[]⟩ false (by rw[j];rfl) l
      ·rw[GB_ rfl (Nat.pos_of_ne_zero hz)]at l;exact f 4 _ _ true (by rw[j];exact Zg_ _ _ _ _ (by rcases i with rfl|rfl|rfl|rfl<;>decide)) l
 ·rw[jD_ oo];exact kO_ s kind w oo
theorem W6_ (s:BA) (w:World) (hs:s.size<=maxLen):Calls prog 191 #[.string s] w fun e w'=>e=.returned (.bool (YT_ s))/\Below w.heap.size w w':=by
 have d:=hid (fun(b:Bool) (a:Wp_ s=b) (W:World)=>show Calls prog 192 #[.string s,.int .i64 1] W fun e w'=>e=.returned (.bool b)/\Below W.heap.size W w' by rw[<-a];exact VO_ s 1 W hs (.inl rfl))
 cases a:Wp_ s with
 |false=>
  have f:=hid (d.o _ a);have c:YT_ s=false:=by unfold YT_;rw[a];rfl
  rw[c];clear d a c;go_enter func191,ntmps191;go_wp2_with (go_at_call 192;refine(f.o _).mono ?_;rintro e w1 ⟨rfl,h2⟩)
  go_ret;exact⟨rfl,grow_⟩
 |true=>
  have f:=hid (d.o _ a);have c:YT_ s=!X3_ s:=by unfold YT_;rw[a];rfl
  rw[c];have H3:=hid (fun W=>U2_ s W);clear d a c;generalize X3_ s=u at H3 |-
  go_enter func191,ntmps191;go_wp2_with (first|(go_at_call 192;refine(f.o _).mono ?_;rintro e w1 ⟨rfl,h2⟩)|(go_at_call 229;refine(H3.o _).mono ?_;rintro e w1 ⟨rfl,rfl⟩))
  go_ret;exact⟨rfl,grow_⟩
def ZB_ (kind:Int) (s:BA):Bool:=
 if kind=1\/kind=6\/kind=12\/kind=13\/kind=20\/kind=21 then YT_ s
 else if kind=2 then numB s else if kind=3 then quoB s else if kind=19 then JW_ s else if kind=7 then Q2_ s else decide (s.size=0)
theorem zS_ {kind:Int} (h:kind=1\/kind=6\/kind=12\/kind=13\/kind=20\/kind=21) (s:BA):ZB_ kind s=YT_ s:=by unfold ZB_;rw[if_pos h]
theorem VC_ {kind:Int} {j:Int} (h:(kind=2/\j=2)\/(kind=3/\j=3)\/(kind=19/\j=5)) (s:BA):ZB_ kind s=J5_ s j:=by
 rcases h with⟨rfl,rfl⟩|⟨rfl,rfl⟩|⟨rfl,rfl⟩<;>rfl
theorem jS_ (s:BA):ZB_ 7 s=Q2_ s:=rfl
theorem zT_ {kind:Int} (h:kind≠1/\kind≠6/\kind≠12/\kind≠13/\kind≠20/\kind≠21/\kind≠2/\kind≠3/\kind≠19/\kind≠7) (s:BA):ZB_ kind s=decide (s.size=0):=by
 unfold ZB_;rw[if_neg oo,if_neg oo,if_neg oo,if_neg oo,if_neg oo]
theorem J7_ (s:BA):(s.toList==[])=decide (s.size=0):=by
 by_cases h:s.size=0
 ·rw[decide_eq_true h,beq_iff_eq,ByteArray.toList_eq];exact List.eq_nil_of_length_eq_zero (by rw[Qz_];exact h)
 ·rw[decide_eq_false h];exact Ge_ h
theorem q2_ (kind:Int) (s:BA) (A:OA) (n c:Nat) (z:Bool) (w:World) (hs:s.size<=maxLen) (hk:kind=1\/kind=6\/kind=12\/kind=13\/kind=20\/kind=21):
  Calls prog 156 #[.agg #[.int .i64 kind,.string s,.slice A n c,.bool z]] w fun e w'=>e=.returned (.bool (ZB_ kind s))/\Below w.heap.size w w':=by
 rw[zS_ hk];have H:=hid (fun W=>W6_ s W hs);generalize YT_ s=u at H |-
 rcases hk with rfl|rfl|rfl|rfl|rfl|rfl
 all_goals
  go_enter func156,ntmps156;go_wp2_with (go_at_call 191;refine(H.o _).mono ?_;rintro e w1 ⟨rfl,h2⟩)
  go_ret;exact⟨rfl,Z7_ h2⟩
theorem YJ_ (kind:Int) (s:BA) (A:OA) (n c:Nat) (z:Bool) (w:World) (hs:s.size<=maxLen) (j:Int) (hk:(kind=2/\j=2)\/(kind=3/\j=3)\/(kind=19/\j=5)):
  Calls prog 156 #[.agg #[.int .i64 kind,.string s,.slice A n c,.bool z]] w fun e w'=>e=.returned (.bool (ZB_ kind s))/\Below w.heap.size w w':=by
 rw[VC_ hk];have H:=hid (fun W=>VO_ s j W hs oo);generalize J5_ s j=u at H |-
 rcases hk with⟨rfl,rfl⟩|⟨rfl,rfl⟩|⟨rfl,rfl⟩
 all_goals
  go_enter func156,ntmps156;go_wp2_with (go_at_call 192;refine(H.o _).mono ?_;rintro e w1 ⟨rfl,h2⟩)
  go_ret;exact⟨rfl,Z7_ h2⟩
theorem zn_ (s:BA) (A:OA) (n c:Nat) (z:Bool) (w:World):
  Calls prog 156 #[.agg #[.int .i64 7,.string s,.slice A n c,.bool z]] w fun e w'=>e=.returned (.bool (ZB_ 7 s))/\Below w.heap.size w w':=by
 rw[jS_]
 cases h0:(s.toList==[38,38])with
 |true=>
  have a:Q2_ s=true:=by unfold Q2_;simp only[h0,Bool.or_true,Bool.true_or]
  rw[a];clear a;go_enter func156,ntmps156;go_wp2;go_ret;exact⟨rfl,grow_⟩
 |false=>
 cases h1:(s.toList==[124,124])with
 |true=>
  have a:Q2_ s=true:=by unfold Q2_;simp only[h1,Bool.or_true,Bool.true_or]
  rw[a];clear a;go_enter func156,ntmps156;go_wp2;go_ret;exact⟨rfl,grow_⟩
 |false=>
 cases h2:(s.toList==[61,61])with
 |true=>
  have a:Q2_ s=true:=by unfold Q2_;simp only[h2,Bool.or_true,Bool.true_or]
  rw[a];clear a;go_enter func156,ntmps156;go_wp2;go_ret;exact⟨rfl,grow_⟩
 |false=>
 cases h3:(s.toList==[60])with
 |true=>
  have a:Q2_ s=true:=by unfold Q2_;simp only[h3,Bool.or_true,Bool.true_or]
  rw[a];clear a;go_enter func156,ntmps156;go_wp2;go_ret;exact⟨rfl,grow_⟩
 |false=>
 cases h4:(s.toList==[43])with
 |true=>
  have a:Q2_ s=true:=by unfold Q2_;simp only[h4,Bool.or_true,Bool.true_or]
  rw[a];clear a;go_enter func156,ntmps156;go_wp2;go_ret;exact⟨rfl,grow_⟩
 |false=>
 cases h5:(s.toList==[45])with
 |true=>
  have a:Q2_ s=true:=by unfold Q2_;simp only[h5,Bool.or_true,Bool.true_or]
  rw[a];clear a;go_enter func156,ntmps156;go_wp2;go_ret;exact⟨rfl,grow_⟩
 |false=>
 cases h6:(s.toList==[42])with
 |true=>
  have a:Q2_ s=true:=by unfold Q2_;simp only[h6,Bool.or_true,Bool.true_or]
  rw[a];clear a;go_enter func156,ntmps156;go_wp2;go_ret;exact⟨rfl,grow_⟩
 |false=>
 have a:Q2_ s=false:=by unfold Q2_;simp only[h0,h1,h2,h3,h4,h5,h6,Bool.or_self]
 rw[a];clear a;go_enter func156,ntmps156;go_wp2;go_ret;exact⟨rfl,grow_⟩
theorem q3_ (kind:Int) (s:BA) (A:OA) (n c:Nat) (z:Bool) (w:World) (hs:s.size<=maxLen) (hk:kind≠1/\kind≠6/\kind≠12/\kind≠13/\kind≠20/\kind≠21/\kind≠2/\kind≠3/\kind≠19/\kind≠7):
  Calls prog 156 #[.agg #[.int .i64 kind,.string s,.slice A n c,.bool z]] w fun e w'=>e=.returned (.bool (ZB_ kind s))/\Below w.heap.size w w':=by
 rw[zT_ hk,<-J7_];have d1:(kind==1)=false:=by rw[beq_eq_false_iff_ne];omega
 have d6:(kind==6)=false:=by rw[beq_eq_false_iff_ne];omega
 have a:(kind==12)=false:=by rw[beq_eq_false_iff_ne];omega
 have b:(kind==13)=false:=by rw[beq_eq_false_iff_ne];omega
 have f:(kind==20)=false:=by rw[beq_eq_false_iff_ne];omega
 have g:(kind==21)=false:=by rw[beq_eq_false_iff_ne];omega
 have d2:(kind==2)=false:=by rw[beq_eq_false_iff_ne];omega
 have d3:(kind==3)=false:=by rw[beq_eq_false_iff_ne];omega
 have d:(kind==19)=false:=by rw[beq_eq_false_iff_ne];omega
 have d7:(kind==7)=false:=by rw[beq_eq_false_iff_ne];omega
 clear hk hs;go_enter func156,ntmps156;go_wp2;go_ret;refine⟨Qx_ ?_,grow_⟩
 first|rfl|exact List.isEmpty_eq_beq_nil|simp
theorem xH_ (kind:Int) (s:BA) (A:OA) (n c:Nat) (z:Bool) (w:World) (hs:s.size<=maxLen):
  Calls prog 156 #[.agg #[.int .i64 kind,.string s,.slice A n c,.bool z]] w fun e w'=>e=.returned (.bool (ZB_ kind s))/\Below w.heap.size w w':=by
 by_cases h1:kind=1\/kind=6\/kind=12\/kind=13\/kind=20\/kind=21
 ·exact q2_ kind s A n c z w hs h1
 ·by_cases h2:kind=2
  ·exact YJ_ kind s A n c z w hs 2 (.inl ⟨h2,rfl⟩)
  ·by_cases h3:kind=3
   ·exact YJ_ kind s A n c z w hs 3 (.inr (.inl ⟨h3,rfl⟩))
   ·by_cases h4:kind=19
    ·exact YJ_ kind s A n c z w hs 5 (.inr (.inr ⟨h4,rfl⟩))
    ·by_cases h5:kind=7
     ·subst h5;exact zn_ s A n c z w
     ·exact q3_ kind s A n c z w hs oo
theorem Kp_ {P:Program} {f:FuncId} {a:Array Value} {W:World} {v:Value} (h:Calls P f a W fun e w'=>e=.returned v/\W=w'):Calls P f a W fun e w'=>e=.returned v/\Below W.heap.size W w':=
 h.mono fun e w' ⟨h1,h2⟩=>⟨h1,by subst h2;exact br⟩
theorem Kh_ {a b c:Int} {v:Bool} (h:inB a b c=v) (w:World):Calls prog 50 #[.int .i64 a,.int .i64 b,.int .i64 c] w fun e w'=>e=.returned (.bool v)/\w=w':=by rw[<-h];exact qy_ a b c w
theorem Kv_ {s:BA} {n:Nat} (h:n < s.size):s.data.toList.drop n=s[n]::s.data.toList.drop (n+1):=by
 rw[List.drop_eq_getElem_cons (by rw[Qz_];exact h)]
 rfl
def quoK (j r:Nat):Nat:=if r=0 then 0 else r+j
theorem Qev_ {c:UInt8} {l:List UInt8} (h:c=39):Jc_ (c::l)=1:=by unfold Jc_;rw[if_pos h]
theorem Qet_ {c:UInt8} {l:List UInt8} (h:¬c=39) (hp:QJ_ c=false):Jc_ (c::l)=0:=by unfold Jc_;rw[if_neg h,hp];rfl
theorem QcP_ {c:UInt8} {l:List UInt8} (j:Nat) (h:¬c=39) (hp:QJ_ c=true):quoK j (Jc_ (c::l))=quoK (j+1) (Jc_ l):=by
 rw[show Jc_ (c::l)=if c=39 then 1 else if QJ_ c=true then (if Jc_ l=0 then 0 else Jc_ l+1)else 0 from rfl,if_neg h,if_pos hp];unfold quoK;by_cases a:Jc_ l=0
 ·rw[if_pos a,if_pos rfl,if_pos a]
 ·rw[if_neg a,if_neg oo,if_neg a];omega
theorem Qgc_ {l:List UInt8} {r:Nat} (h:Jc_ (l.drop 1)=r):UG_ l=if r=0 then 0 else r+1:=by unfold UG_;rw[h]
theorem QfZ_ {c:UInt8} (h:¬c=39):((c.toNat:Int)==39)=false:=by
 rw[beq_eq_false_iff_ne];intro e;apply h;apply UInt8.toNat_inj.1;show c.toNat=39;omega
theorem JN_ (s:BA) (q:Nat) (w:World) (hq:q<=s.size) (hs:s.size<=4611686018427387904):
  Calls prog 101 #[.string s,.int .i64 q] w fun e w'=>e=.returned (.int .i64 (UG_ (s.data.toList.drop q):Nat))/\w=w':=by
 have hd:(s.data.toList.drop q).drop 1=s.data.toList.drop (q+1):=by rw[List.drop_drop]
 have d:=hid (fun r (h:Jc_ (s.data.toList.drop (q+1))=r)=>Qgc_ (show Jc_ ((s.data.toList.drop q).drop 1)=r by rw[hd];exact h));clear hd;generalize UG_ (s.data.toList.drop q)=N at d |-
 go_enter func101,ntmps101;go_wp2
 go_loop [5] (fun i=>∃n:Nat,q+1<=n/\n<=s.size+1/\Hid (quoK (n - (q+1)) (Jc_ (s.data.toList.drop n))=Jc_ (s.data.toList.drop (q+1)))/\i=.int .i64 n) (fun i=>s.size+1 - (intOf i).toNat)
 case atStart=>exact⟨q+1,oo,oo,(show _=_ by rw[Nat.sub_self];unfold quoK;split<;>omega),by go_num⟩
 case round=>
  obtain⟨n,t,v,c,rfl⟩:=hrel;by_cases f:n < s.size
  ·by_cases a:s[n]=39
   ·have k:N=n+1 - q:=by
     have h1:=c.o;rw[Kv_ f,Qev_ a]at h1;have g:=d.o _ h1.symm;rw[show quoK (n - (q+1)) 1=1+(n - (q+1))by unfold quoK;rw[if_neg (by decide)],if_neg oo]at g;omega
    have p:((s[n].toNat:Int)==39)=true:=(by rw[a];rfl);have eN:((n:Int)+1) - q=(N:Nat):=oo;clear d c a k;go_wp2;go_ret;exact⟨Vg_ oo,rfl⟩
   ·have p:=QfZ_ a;have l:=hid (fun(b:Bool) (hb:QJ_ s[n]=b) (W:World)=>show Calls prog 131 #[.int .u8 (s[n].toNat:Int)] W fun e w'=>e=.returned (.bool b)/\W=w' by rw[<-hb];exact Ga_ _ W)
    cases j:QJ_ s[n]with
    |true=>
     have m:=hid (l.o _ j);have o:Hid (quoK (n+1 - (q+1)) (Jc_ (s.data.toList.drop (n+1)))=Jc_ (s.data.toList.drop (q+1))):=by
      show _=_;rw[<-c.o,Kv_ f,QcP_ _ a j,show n+1 - (q+1)=n - (q+1)+1 from oo]
     clear l j c d a;go_wp2_with (go_at_call 131;refine(m.o _).mono ?_;rintro e w1 ⟨rfl,rfl⟩)
     go_round
     case rel=>exact⟨n+1,oo,oo,o,by go_num⟩
     case measure=>simp[intOf];omega
    |false=>
     have m:=hid (l.o _ j);have k:N=0:=by
      have h1:=c.o;rw[Kv_ f,Qet_ a j]at h1;have g:=d.o _ h1.symm;unfold quoK at g;simpa using g
     subst k;clear l j c d a;go_wp2_with (go_at_call 131;refine(m.o _).mono ?_;rintro e w1 ⟨rfl,rfl⟩)
     go_ret;exact⟨rfl,rfl⟩
  ·have k:N=0:=by
    have h1:=c.o;rw[List.drop_of_length_le (by rw[Qz_];omega)]at h1;have g:=d.o _ h1.symm;simpa[quoK,Jc_]using g
   subst k;clear d c;go_wp2;go_ret;exact⟨rfl,rfl⟩
theorem jz_ {p:UInt8->Bool}:∀{l:List UInt8} {k:Nat},(l.take k).all p=true->(∀(h:k < l.length),p l[k]=false)->k<=l.length->K0_ p l=k:=by
 intro l
 induction l with
 |nil=>intro k h _ a;simp at a;subst a;rfl
 |cons c l ih=>
  intro k h hc a
  cases k with
  |zero=>
   have:=hc (by simp);simp only[List.getElem_cons_zero]at this;unfold K0_;rw[if_neg (by rw[this];decide)]
  |succ k=>
   simp only[List.take_succ_cons,List.all_cons,Bool.and_eq_true]at h;unfold K0_;rw[if_pos h.1,ih h.2 (fun hl=>by have:=hc (by simpa using hl);simpa using this) (by simpa using a)]
theorem QbJ_ {l:List UInt8} {p q:UInt8->Bool} (a:∀c,p c=true->q c=true) (h:l.all p=true):l.all q=true:=by
 rw[List.all_eq_true]at h |-
 exact fun x hx=>a x (h x hx)
theorem Qa0_ {l:List UInt8} {k:Nat} (hp:Lib.hasPrefix l [47,47]=true) (h:(l.take k).all QJ_=true) (hk:k<=l.length) (hc:∀(hl:k < l.length),l[k]=10):Ko_ l=k:=by
 have hr:K0_ QV_ l=k:=jz_ (QbJ_ (fun c=>G6_) h) (fun hl=>by rw[hc hl];rfl) hk;unfold Ko_;rw[hr,if_pos ⟨hp,h⟩]
theorem Qgf_ {p:UInt8->Bool}:∀{l:List UInt8} {k:Nat},(l.take (k+1)).all p=true->k < l.length->k < K0_ p l:=by
 intro l
 induction l with
 |nil=>intro k _ h;simp at h
 |cons c l ih=>
  intro k h hk;simp only[List.take_succ_cons,List.all_cons,Bool.and_eq_true]at h;unfold K0_;rw[if_pos h.1]
  cases k with
  |zero=>omega
  |succ k=>have:=ih h.2 (by simpa using hk);omega
theorem QcK_ {l:List UInt8} {k:Nat} (h:(l.take k).all QJ_=true) (hk:k < l.length) (hn:¬l[k]=10) (hb:QJ_ l[k]=false):Ko_ l=0:=by
 unfold Ko_;rw[if_neg];rintro⟨_,h2⟩;have a:k < K0_ QV_ l:=by
  refine Qgf_ ?_ hk;rw[List.take_succ_eq_append_getElem hk,List.all_append,QbJ_ (fun c=>G6_) h];simp only[List.all_cons,List.all_nil,Bool.and_true,Bool.true_and];unfold QV_;rw[bne_iff_ne];exact hn
 rw[List.all_eq_true]at h2;have:=h2 l[k] (by rw[List.mem_take_iff_getElem];exact⟨k,oo,rfl⟩);rw[hb]at this;cases this
theorem Vv_ {l:List UInt8} (hp:Lib.hasPrefix l [47,47]=false):Ko_ l=0:=by unfold Ko_;rw[hp];simp
theorem jt_ {s:BA} {q:Nat} (hq:q+2<=s.size):((s.extract q (q+2)).toList==[47,47])=Lib.hasPrefix (s.data.toList.drop q) [47,47]:=by
 have e:(s.extract q (q+2)).toList=[s[q],s[q+1]]:=by
  rw[ByteArray.toList_eq,ByteArray.data_extract];simp only[Array.toList_extract,List.extract_eq_take_drop,show q+2 - q=2 from oo];rw[Kv_ oo,Kv_ oo]
  rfl
 rw[e,Kv_ oo,Kv_ (show q+1 < s.size from oo)];unfold Lib.hasPrefix;simp only[List.isPrefixOf,Bool.and_true];by_cases h1:s[q]=47
 ·by_cases c:s[q+1]=47
  ·rw[h1,c];rfl
  ·rw[h1];have a:([(47:UInt8),s[q+1]]==[47,47])=false:=(by rw[beq_eq_false_iff_ne];intro e;injection e with _ e;injection e with e _;exact c e);have b:((47:UInt8)==s[q+1])=false:=(by rw[beq_eq_false_iff_ne];exact fun e=>c e.symm);rw[a,b,Bool.and_false]
 ·have a:([s[q],s[q+1]]==[47,47])=false:=by rw[beq_eq_false_iff_ne];intro e;injection e with e _;exact h1 e
  have b:((47:UInt8)==s[q])=false:=by rw[beq_eq_false_iff_ne];exact fun e=>h1 e.symm
  rw[a,b,Bool.false_and]
theorem Qem_ {c:UInt8} (h:¬c=10):((c.toNat:Int)==10)=false:=by
 rw[beq_eq_false_iff_ne];intro e;apply h;apply UInt8.toNat_inj.1;show c.toNat=10;omega
theorem Zd_ {s:BA} {q:Nat}:(s.data.toList.drop q).length=s.size - q:=by rw[List.length_drop,Qz_]
theorem x1_ {s:BA} {q n:Nat} (hq:q<=n) (h:n < s.size):∀(hl:n - q < (s.data.toList.drop q).length),(s.data.toList.drop q)[n - q]=s[n]:=by
 intro hl;rw[List.getElem_drop];have:q+(n - q)=n:=oo;simp only[this]
 rfl
theorem K5_ (s:BA) (q:Nat) (w:World) (hq:q<=s.size) (hs:s.size<=4611686018427387904):
  Calls prog 97 #[.string s,.int .i64 q] w fun e w'=>e=.returned (.int .i64 (Ko_ (s.data.toList.drop q):Nat))/\w=w':=by
 by_cases h2:q+2<=s.size
 ·have y:¬((s.size:Int) < q+2):=oo;have d2:decide ((s.size:Int) < q+2)=false:=decide_eq_false y;have p:=jt_ h2;have D:∀W:World,(Instr.slice 9 (.string s) (some (.int .i64 (q:Int))) (some (.int .i64 ((q:Int)+2))) none).run prog W=.ok (.string (s.extract q (q+2))) W:=fun W=>by
   have h:=run_slice_string (P:=prog) W 9 s .i64 .i64 (q:Int) ((q:Int)+2) underlying9 oo oo oo;rwa[show((q:Int)+2).toNat=q+2 from oo,Int.toNat_natCast]at h
  cases f:Lib.hasPrefix (s.data.toList.drop q) [47,47]with
  |false=>
   rw[Vv_ f];rw[f]at p;clear f;go_enter func97,ntmps97;go_wp2;go_ret;exact⟨rfl,rfl⟩
  |true=>
   rw[f]at p;have j:=hid (fun(k:Nat)=>Qa0_ (l:=s.data.toList.drop q) (k:=k) f);have o:=hid (fun(k:Nat)=>QcK_ (l:=s.data.toList.drop q) (k:=k));clear f;have a:=Zd_ (s:=s) (q:=q);generalize hN:Ko_ (s.data.toList.drop q)=N at j o |-
   clear hN;go_enter func97,ntmps97;go_wp2
   go_loop [5] (fun i=>∃n:Nat,q<=n/\n<=s.size/\Hid (((s.data.toList.drop q).take (n - q)).all QJ_=true)/\i=.int .i64 n) (fun i=>s.size - (intOf i).toNat)
   case atStart=>exact⟨q,oo,oo,(show _=_ by rw[Nat.sub_self];rfl),rfl⟩
   case round=>
    obtain⟨n,B,C,g,rfl⟩:=hrel;by_cases A:n < s.size
    ·have d:=x1_ B A (by rw[a];omega);by_cases c:s[n]=10
     ·have m:N=n - q:=j.o _ g.o oo (fun _=>by rw[d];exact c);have x:((s[n].toNat:Int)==10)=true:=(by rw[c];rfl);have eN:(n:Int) - q=(N:Nat):=oo;clear j o g d c m a;go_wp2;go_ret;exact⟨Vg_ oo,rfl⟩
     ·have x:=Qem_ c;have r:=hid (fun(b:Bool) (hb:QJ_ s[n]=b) (W:World)=>show Calls prog 131 #[.int .u8 (s[n].toNat:Int)] W fun e w'=>e=.returned (.bool b)/\W=w' by rw[<-hb];exact Ga_ _ W)
      cases f:QJ_ s[n]with
      |true=>
       have t:=hid (r.o _ f);have v:Hid (((s.data.toList.drop q).take (n+1 - q)).all QJ_=true):=by
        show _=_;rw[show n+1 - q=n - q+1 from oo,List.take_succ_eq_append_getElem (by rw[a];omega),List.all_append,g.o,d];simp[f]
       clear r f j o g d c a;go_wp2_with (go_at_call 131;refine(t.o _).mono ?_;rintro e w1 ⟨rfl,rfl⟩)
       go_round
       case rel=>exact⟨n+1,oo,oo,v,by go_num⟩
       case measure=>simp[intOf];omega
      |false=>
       have t:=hid (r.o _ f);have z:N=0:=o.o _ g.o (by rw[a];omega) (by rw[d];exact c) (by rw[d];exact f);subst z;clear r f j o g d c a;go_wp2_with (go_at_call 131;refine(t.o _).mono ?_;rintro e w1 ⟨rfl,rfl⟩)
       go_ret;exact⟨rfl,rfl⟩
    ·have m:N=n - q:=j.o _ g.o oo (fun hl=>by rw[a]at hl;omega);have eN:(n:Int) - q=(N:Nat):=oo;clear j o g m a;go_wp2;go_ret;exact⟨Vg_ oo,rfl⟩
 ·have y:(s.size:Int) < q+2:=oo;have d2:decide ((s.size:Int) < q+2)=true:=decide_eq_true y;have hn:Ko_ (s.data.toList.drop q)=0:=by
   apply Vv_
   cases f:Lib.hasPrefix (s.data.toList.drop q) [47,47]with
   |false=>rfl
   |true=>
    have:=(List.isPrefixOf_iff_prefix.1 (show List.isPrefixOf [47,47] (s.data.toList.drop q)=true from f)).length_le;rw[Zd_]at this;simp at this;omega
  rw[hn];clear hn;go_enter func97,ntmps97;go_wp2;go_ret;exact⟨rfl,rfl⟩
theorem Vk_ (s:BA) (w:World) (hs:s.size<=maxLen):Calls prog 98 #[.string s] w fun e w'=>e=.returned (.string (VK_ s))/\w=w':=by
 unfold maxLen at hs;have g:=hid (fun(k:Nat) (l:k<=s.size) h1 h2=>show s.extract 0 k=VK_ s from by
  have h:=Lib.trimRightB_take s.data.toList 32 k (by rw[Qz_];exact l) h1 h2;unfold VK_;rw[h];apply kd_;rw[ByteArray.data_extract];simp)
 generalize VK_ s=T at g |-
 go_enter func98,ntmps98;go_wp2
 go_loop [3] (fun i=>∃k:Nat,k<=s.size/\Hid (∀(j:Nat) b,k<=j->s.data.toList[j]? =some b->b=32)/\i=.int .i64 k) (fun i=>(intOf i).toNat)
 case atStart=>exact⟨s.size,Nat.le_refl _,(show ∀_ _,_ from fun j b hj d=>by have:=(List.getElem?_eq_some_iff.1 d).1;rw[Qz_]at this;omega),rfl⟩
 case round=>
  obtain⟨k,l,f,rfl⟩:=hrel;by_cases h0:0 < k
  ·obtain⟨j,rfl⟩:∃j,k=j+1:=⟨k - 1,oo⟩;have q:j < s.size:=oo;have ej:((j+1:Nat):Int) - 1=(j:Nat):=oo;have a:s.data.toList[j]? =some s[j]:=(by rw[List.getElem?_eq_getElem (by rw[Qz_];exact q)];rfl);by_cases c:s[j]=32
   ·have o:((s[j].toNat:Int)==32)=true:=(by rw[c];rfl);have m:Hid (∀(i:Nat) b,j<=i->s.data.toList[i]? =some b->b=32):=by
     show ∀_ _,_;intro i b hi d;by_cases p:i=j
     ·subst p;rw[a]at d;obtain rfl:=Option.some.inj d;exact c
     ·exact f.o i b oo d
    clear g f c a;go_wp2
    go_round
    case rel=>exact⟨j,oo,m,by go_num⟩
    case measure=>simp[intOf]<;>omega
   ·have o:((s[j].toNat:Int)==32)=false:=by
     rw[beq_eq_false_iff_ne];intro e;apply c;apply UInt8.toNat_inj.1;show s[j].toNat=32;omega
    have n:=hid (g.o (j+1) l f.o (fun b _ d=>by
     rw[Nat.add_sub_cancel,a]at d;obtain rfl:=Option.some.inj d;exact c))
    clear g f c a;go_wp2;go_ret;exact⟨XP_ n.o,rfl⟩
  ·obtain rfl:k=0:=oo;have n:=hid (g.o 0 l f.o (fun b h=>absurd h oo));clear g f;go_wp2;go_ret;exact⟨XP_ (by rw[<-n.o];simp),rfl⟩
theorem jI_ (s:BA) (w:World) (hs:s.size<=maxLen):Calls prog 209 #[.string s] w fun e w'=>e=.returned (.bool (numB s))/\Below w.heap.size w w':=by
 unfold maxLen at hs;apply Kp_;have a:∀(h:Gi_ Km_ s=true),numB s=inB s.size 1 12:=by
  intro h;unfold numB inB;rw[h,Bool.and_true];by_cases h2:0 < s.size/\s.size<=12
  ·rw[decide_eq_true h2,decide_eq_true oo]
  ·rw[decide_eq_false h2,decide_eq_false oo]
 have j:∀(h:Gi_ Km_ s=false),numB s=false:=by intro h;unfold numB;rw[h,Bool.and_false]
 have l:=hid (fun W=>qy_ (s.size:Int) 1 12 W);have d:=hid a;have HO:=hid j;clear a j;generalize inB (s.size:Int) 1 12=u at l d;generalize numB s=N at d HO |-
 go_enter func209,ntmps209;go_wp2
 go_loop [3] (fun i=>∃k:Nat,k<=s.size/\VY_ Km_ s k/\i=.int .i64 k) (fun i=>s.size - (intOf i).toNat)
 case atStart=>exact⟨0,Nat.zero_le _,Xr_ _ s,rfl⟩
 case round=>
  obtain⟨k,hk,ha,rfl⟩:=hrel;by_cases g:k < s.size
  ·have m:=hid (fun(b:Bool) (hb:Km_ s[k]=b) (W:World)=>show Calls prog 100 #[.int .u8 (s[k].toNat:Int)] W fun e w'=>e=.returned (.bool b)/\W=w' by rw[<-hb];exact QZ_ _ W)
   cases f:Km_ s[k]with
   |false=>
    have n:N=false:=HO.o (Jp_ g f);have c:=hid (m.o _ f);subst n;clear m f d HO l;go_wp2_with (go_at_call 100;refine(c.o _).mono ?_;rintro e w1 ⟨rfl,rfl⟩)
    go_ret;exact⟨rfl,rfl⟩
   |true=>
    have hn:=ZU_ ha g f;have c:=hid (m.o _ f);clear m f d HO l;go_wp2_with (go_at_call 100;refine(c.o _).mono ?_;rintro e w1 ⟨rfl,rfl⟩)
    go_round
    case rel=>exact⟨k+1,oo,hn,by go_num⟩
    case measure=>simp[intOf];omega
  ·have n:N=u:=d.o (Jo_ ha oo);subst n;clear d HO;go_wp2_with (go_at_call 50;refine(l.o _).mono ?_;rintro e w1 ⟨rfl,rfl⟩)
   go_ret;exact⟨rfl,rfl⟩
theorem xA_ (s:BA) (w:World) (hs:s.size<=maxLen):Calls prog 208 #[.string s] w fun e w'=>e=.returned (.bool (YT_ s))/\Below w.heap.size w w':=by
 unfold maxLen at hs;apply Kp_;by_cases h1:1<=s.size/\s.size<=30
 ·have y:0 < s.size:=h1.1;have n:=hid (fun W=>Kh_ (show inB (s.size:Int) 1 30=true from decide_eq_true oo) W);have r:=hid (fun(b:Bool) (c:QN_ s[0]=b) (W:World)=>show Calls prog 99 #[.int .u8 (s[0].toNat:Int)] W fun e w'=>e=.returned (.bool b)/\W=w' by rw[<-c];exact Q9_ _ W)
  cases c:QN_ s[0]with
  |false=>
   have d:YT_ s=false:=(by unfold YT_;rw[JU_ y c];rfl);rw[d];have p:=hid (r.o _ c);clear r c d;go_enter func208,ntmps208;go_wp2_with (first|(go_at_call 50;refine(n.o _).mono ?_;rintro e w1 ⟨rfl,rfl⟩)|(go_at_call 99;refine(p.o _).mono ?_;rintro e w1 ⟨rfl,rfl⟩))
   go_ret;exact⟨rfl,rfl⟩
  |true=>
   have p:=hid (r.o _ c);have x:=hid (fun(b:Bool) (c:X3_ s=b) (W:World)=>show Calls prog 103 #[.string s] W fun e w'=>e=.returned (.bool b)/\W=w' by rw[<-c];exact Jd_ _ W)
   cases a:X3_ s with
   |true=>
    have d:YT_ s=false:=(by unfold YT_;rw[a];simp);rw[d];have v:=hid (x.o _ a);clear r c d x a;go_enter func208,ntmps208;go_wp2_with (first|(go_at_call 50;refine(n.o _).mono ?_;rintro e w1 ⟨rfl,rfl⟩)|(go_at_call 99;refine(p.o _).mono ?_;rintro e w1 ⟨rfl,rfl⟩)|(go_at_call 103;refine(v.o _).mono ?_;rintro e w1 ⟨rfl,rfl⟩))
    go_ret;exact⟨rfl,rfl⟩
   |false=>
    have v:=hid (x.o _ a);have d:YT_ s=Gi_ Qp_ s:=by
     obtain⟨l,A⟩:=ZW_ y;have hf:Jy_ s=true:=(by unfold Jy_;rw[A];exact c);unfold YT_ Wp_;rw[a,hf,decide_eq_true h1.2];simp
    rw[d];clear r c d x a;go_enter func208,ntmps208;go_wp2_with (first|(go_at_call 50;refine(n.o _).mono ?_;rintro e w1 ⟨rfl,rfl⟩)|(go_at_call 99;refine(p.o _).mono ?_;rintro e w1 ⟨rfl,rfl⟩)|(go_at_call 103;refine(v.o _).mono ?_;rintro e w1 ⟨rfl,rfl⟩))
    clear n p v
    go_loop [3] (fun i=>∃k:Nat,k<=s.size/\VY_ Qp_ s k/\i=.int .i64 k) (fun i=>s.size - (intOf i).toNat)
    case atStart=>exact⟨0,Nat.zero_le _,Xr_ _ s,rfl⟩
    case round=>
     obtain⟨k,hk,z,rfl⟩:=hrel;by_cases h:k < s.size
     ·have q:=hid (fun(b:Bool) (c:QN_ s[k]=b) (W:World)=>show Calls prog 99 #[.int .u8 (s[k].toNat:Int)] W fun e w'=>e=.returned (.bool b)/\W=w' by rw[<-c];exact Q9_ _ W);have t:=hid (fun(b:Bool) (c:Km_ s[k]=b) (W:World)=>show Calls prog 100 #[.int .u8 (s[k].toNat:Int)] W fun e w'=>e=.returned (.bool b)/\W=w' by rw[<-c];exact QZ_ _ W)
      cases m:QN_ s[k]with
      |true=>
       have j:=ZU_ z h (show Qp_ s[k]=true by unfold Qp_;rw[m];rfl);have f:=hid (q.o _ m);clear q m t;go_wp2_with (first|(go_at_call 99;refine(f.o _).mono ?_;rintro e w1 ⟨rfl,rfl⟩))
       go_round
       case rel=>exact⟨k+1,oo,j,by go_num⟩
       case measure=>simp[intOf];omega
      |false=>
       have f:=hid (q.o _ m)
       cases o:Km_ s[k]with
       |true=>
        have j:=ZU_ z h (show Qp_ s[k]=true by unfold Qp_;rw[o,Bool.or_true]);have g:=hid (t.o _ o);clear q m t o;go_wp2_with (first|(go_at_call 99;refine(f.o _).mono ?_;rintro e w1 ⟨rfl,rfl⟩)|(go_at_call 100;refine(g.o _).mono ?_;rintro e w1 ⟨rfl,rfl⟩))
        go_round
        case rel=>exact⟨k+1,oo,j,by go_num⟩
        case measure=>simp[intOf];omega
       |false=>
        have j:=hid (Jp_ h (show Qp_ s[k]=false by unfold Qp_;rw[m,o];rfl));have g:=hid (t.o _ o);clear q m t o;go_wp2_with (first|(go_at_call 99;refine(f.o _).mono ?_;rintro e w1 ⟨rfl,rfl⟩)|(go_at_call 100;refine(g.o _).mono ?_;rintro e w1 ⟨rfl,rfl⟩))
        go_ret;exact⟨Qx_ j.o.symm,rfl⟩
     ·have j:=hid (Jo_ z oo);go_wp2;go_ret;exact⟨Qx_ j.o.symm,rfl⟩
 ·have n:=hid (fun W=>Kh_ (show inB (s.size:Int) 1 30=false from decide_eq_false oo) W);have d:YT_ s=false:=by
   unfold YT_ Wp_;by_cases y:s.size=0
   ·have A:s.data.toList=[]:=List.eq_nil_of_length_eq_zero (by rw[Qz_];exact y);unfold Jy_;rw[A];simp
   ·rw[decide_eq_false (show ¬s.size<=30 from oo)];simp
  rw[d];clear d;go_enter func208,ntmps208;go_wp2_with (first|(go_at_call 50;refine(n.o _).mono ?_;rintro e w1 ⟨rfl,rfl⟩))
  go_ret;exact⟨rfl,rfl⟩
theorem jK_ (s:BA) (w:World) (hs:s.size<=4611686018427387904):Calls prog 210 #[.string s] w fun e w'=>e=.returned (.bool (quoB s))/\Below w.heap.size w w':=by
 apply Kp_;by_cases h1:1 < s.size
 ·have g1:(1:Int) < s.size:=oo;have h0:0 < s.size:=oo;by_cases a:s[0]=39
  ·have d:((s[0].toNat:Int)==39)=true:=(by rw[a];rfl);have c:=hid (fun W=>JN_ s 0 W oo hs);have b:quoB s=decide (UG_ s.data.toList=s.size):=by
    obtain⟨l,hl⟩:=ZW_ h0;unfold quoB;rw[decide_eq_true h1];rw[hl];simp[a]
   have hi:((UG_ s.data.toList:Int)==(s.size:Int))=decide (UG_ s.data.toList=s.size):=by
    by_cases h:UG_ s.data.toList=s.size
    ·rw[decide_eq_true h,h];exact beq_self_eq_true _
    ·rw[decide_eq_false h,beq_eq_false_iff_ne];omega
   rw[b,<-hi];rw[show s.data.toList.drop 0=s.data.toList from rfl]at c;clear b hi a;generalize UG_ s.data.toList=N at c |-
   go_enter func210,ntmps210;go_wp2_with (go_at_call 101;refine(c.o _).mono ?_;rintro e w1 ⟨rfl,rfl⟩)
   go_ret;exact⟨rfl,rfl⟩
  ·have d:=QfZ_ a;rw[Wu_ h0 a];clear a;go_enter func210,ntmps210;go_wp2;go_ret;exact⟨rfl,rfl⟩
 ·have b:quoB s=false:=by unfold quoB;rw[decide_eq_false h1,Bool.false_and,Bool.false_and]
  have g1:¬((1:Int) < s.size):=oo;rw[b];go_enter func210,ntmps210;go_wp2;go_ret;exact⟨rfl,rfl⟩
theorem xB_ (s:BA) (w:World) (hs:s.size<=4611686018427387904):Calls prog 211 #[.string s] w fun e w'=>e=.returned (.bool (JW_ s))/\Below w.heap.size w w':=by
 apply Kp_;by_cases h1:1 < s.size
 ·have g1:(1:Int) < s.size:=oo;have b:=hid (fun W=>K5_ s 0 W oo hs);rw[show s.data.toList.drop 0=s.data.toList from rfl]at b;by_cases c:Ko_ s.data.toList=s.size
  ·have H2:=hid (fun W=>Vk_ s W (by unfold maxLen;omega));have a:JW_ s=((VK_ s).toList==s.toList):=by
    rw[Qe8_];unfold JW_;rw[decide_eq_true h1,decide_eq_true c];simp
   rw[a];rw[c]at b;clear c a;generalize VK_ s=T at H2 |-
   go_enter func211,ntmps211;go_wp2_with (first|(go_at_call 97;refine(b.o _).mono ?_;rintro e w1 ⟨rfl,rfl⟩)|(go_at_call 98;refine(H2.o _).mono ?_;rintro e w1 ⟨rfl,rfl⟩))
   go_ret;exact⟨rfl,rfl⟩
  ·have a:JW_ s=false:=(by unfold JW_;rw[decide_eq_false c,Bool.and_false,Bool.false_and]);rw[a];have hi:((Ko_ s.data.toList:Int)==(s.size:Int))=false:=(by rw[beq_eq_false_iff_ne];omega);clear a c;generalize Ko_ s.data.toList=N at b hi |-
   go_enter func211,ntmps211;go_wp2_with (first|(go_at_call 97;refine(b.o _).mono ?_;rintro e w1 ⟨rfl,rfl⟩))
   go_ret;exact⟨rfl,rfl⟩
 ·have a:JW_ s=false:=by unfold JW_;rw[decide_eq_false h1,Bool.false_and,Bool.false_and]
  have g1:¬((1:Int) < s.size):=oo;rw[a];go_enter func211,ntmps211;go_wp2;go_ret;exact⟨rfl,rfl⟩
theorem kZ_ (kind:Int) (s:BA) (w:World) (hs:s.size<=4611686018427387904) (hk:kind=1\/kind=6\/kind=12\/kind=13\/kind=20\/kind=21):
  Calls prog 170 #[.int .i64 kind,.string s] w fun e w'=>e=.returned (.bool (ZB_ kind s))/\Below w.heap.size w w':=by
 rw[zS_ hk];have H:=hid (fun W=>xA_ s W (by unfold maxLen;omega));generalize YT_ s=u at H |-
 rcases hk with rfl|rfl|rfl|rfl|rfl|rfl
 all_goals
  go_enter func170,ntmps170;go_wp2_with (go_at_call 208;refine(H.o _).mono ?_;rintro e w1 ⟨rfl,h2⟩)
  go_ret;exact⟨rfl,h2⟩
theorem jf_ (kind:Int) (s:BA) (w:World) (hs:s.size<=4611686018427387904) (hk:kind=2):
  Calls prog 170 #[.int .i64 kind,.string s] w fun e w'=>e=.returned (.bool (ZB_ kind s))/\Below w.heap.size w w':=by
 rw[VC_ (j:=2) (.inl ⟨hk,rfl⟩)];have H:=hid (fun W=>show Calls prog 209 #[.string s] W fun e w'=>e=.returned (.bool (J5_ s 2))/\Below W.heap.size W w' from jI_ s W (by unfold maxLen;omega));generalize J5_ s 2=u at H |-
 subst hk
 all_goals
  go_enter func170,ntmps170;go_wp2_with (go_at_call 209;refine(H.o _).mono ?_;rintro e w1 ⟨rfl,h2⟩)
  go_ret;exact⟨rfl,h2⟩
theorem jg_ (kind:Int) (s:BA) (w:World) (hs:s.size<=4611686018427387904) (hk:kind=3):
  Calls prog 170 #[.int .i64 kind,.string s] w fun e w'=>e=.returned (.bool (ZB_ kind s))/\Below w.heap.size w w':=by
 rw[VC_ (j:=3) (.inr (.inl ⟨hk,rfl⟩))];have H:=hid (fun W=>show Calls prog 210 #[.string s] W fun e w'=>e=.returned (.bool (J5_ s 3))/\Below W.heap.size W w' from jK_ s W hs);generalize J5_ s 3=u at H |-
 subst hk
 all_goals
  go_enter func170,ntmps170;go_wp2_with (go_at_call 210;refine(H.o _).mono ?_;rintro e w1 ⟨rfl,h2⟩)
  go_ret;exact⟨rfl,h2⟩
theorem k0_ (kind:Int) (s:BA) (w:World) (hs:s.size<=4611686018427387904) (hk:kind=19):
  Calls prog 170 #[.int .i64 kind,.string s] w fun e w'=>e=.returned (.bool (ZB_ kind s))/\Below w.heap.size w w':=by
 rw[VC_ (j:=5) (.inr (.inr ⟨hk,rfl⟩))];have H:=hid (fun W=>show Calls prog 211 #[.string s] W fun e w'=>e=.returned (.bool (J5_ s 5))/\Below W.heap.size W w' from xB_ s W hs);generalize J5_ s 5=u at H |-
 subst hk
 all_goals
  go_enter func170,ntmps170;go_wp2_with (go_at_call 211;refine(H.o _).mono ?_;rintro e w1 ⟨rfl,h2⟩)
  go_ret;exact⟨rfl,h2⟩
theorem qz_ (kind:Int) (s:BA) (w:World) (hs:s.size<=4611686018427387904) (hk:kind=7):
  Calls prog 170 #[.int .i64 kind,.string s] w fun e w'=>e=.returned (.bool (ZB_ kind s))/\Below w.heap.size w w':=by
 rw[show ZB_ kind s=Q2_ s from by subst hk;rfl];have H:=hid (fun W=>show Calls prog 212 #[.string s] W fun e w'=>e=.returned (.bool (Q2_ s))/\Below W.heap.size W w' from(qZ_ s W).mono fun e w' ⟨h1,a⟩=>⟨h1,by subst a;exact br⟩);generalize Q2_ s=u at H |-
 subst hk
 all_goals
  go_enter func170,ntmps170;go_wp2_with (go_at_call 212;refine(H.o _).mono ?_;rintro e w1 ⟨rfl,a⟩)
  go_ret;exact⟨rfl,a⟩
theorem k1_ (kind:Int) (s:BA) (w:World) (hs:s.size<=4611686018427387904) (hk:kind≠1/\kind≠6/\kind≠12/\kind≠13/\kind≠20/\kind≠21/\kind≠2/\kind≠3/\kind≠19/\kind≠7):
  Calls prog 170 #[.int .i64 kind,.string s] w fun e w'=>e=.returned (.bool (ZB_ kind s))/\Below w.heap.size w w':=by
 rw[zT_ hk,<-J7_];have d1:(kind==1)=false:=by rw[beq_eq_false_iff_ne];omega
 have d6:(kind==6)=false:=by rw[beq_eq_false_iff_ne];omega
 have a:(kind==12)=false:=by rw[beq_eq_false_iff_ne];omega
 have b:(kind==13)=false:=by rw[beq_eq_false_iff_ne];omega
 have d:(kind==20)=false:=by rw[beq_eq_false_iff_ne];omega
 have f:(kind==21)=false:=by rw[beq_eq_false_iff_ne];omega
 have d2:(kind==2)=false:=by rw[beq_eq_false_iff_ne];omega
 have d3:(kind==3)=false:=by rw[beq_eq_false_iff_ne];omega
 have c:(kind==19)=false:=by rw[beq_eq_false_iff_ne];omega
 have d7:(kind==7)=false:=by rw[beq_eq_false_iff_ne];omega
 clear hk hs;go_enter func170,ntmps170;go_wp2;go_ret;refine⟨Qx_ ?_,grow_⟩
 first|rfl|simp
theorem je_ (kind:Int) (s:BA) (w:World) (hs:s.size<=4611686018427387904):
  Calls prog 170 #[.int .i64 kind,.string s] w fun e w'=>e=.returned (.bool (ZB_ kind s))/\Below w.heap.size w w':=by
 by_cases h1:kind=1\/kind=6\/kind=12\/kind=13\/kind=20\/kind=21
 ·exact kZ_ kind s w hs h1
 ·by_cases h2:kind=2
  ·exact jf_ kind s w hs h2
  ·by_cases h3:kind=3
   ·exact jg_ kind s w hs h3
   ·by_cases h4:kind=19
    ·exact k0_ kind s w hs h4
    ·by_cases h5:kind=7
     ·exact qz_ kind s w hs h5
     ·exact k1_ kind s w hs oo
end Go.Proofs.YtgbikafalcbibaaGreatDoor

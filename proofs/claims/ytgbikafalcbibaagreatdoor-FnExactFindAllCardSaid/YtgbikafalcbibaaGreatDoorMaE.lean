/-
  Put together by program (shake.py):ShapeA,ShapeB,ShapeC,ShapeK,ShapeD,ShapeE.
-/
import Derived.Test.YtgbikafalcbibaaGreatDoorMaC
set_option maxRecDepth 100000
set_option linter.all false
set_option maxHeartbeats 25600000
open Go.Lib (hid)
open Go.Proofs.Tryz
namespace Go.Proofs.YtgbikafalcbibaaGreatDoor
open Go.RowKit
def Qj_ (k:Int):Bool:=inB k 1 11
def Jf_ (k:Int):Bool:=inB k 12 17
def Q6_ (k:Int):Bool:=k==12||k==20||k==19
def Xf_ (k:Int):Bool:=Jf_ k||k==19
def jU_ (k:Int):Bool:=Q6_ k||k==21
def isK (j k:Int):Bool:=k==j
theorem Vo_ {a b c:Int} {v:Bool} (h:inB a b c=v) (w:World):Calls prog 140 #[.int .i64 a,.int .i64 b,.int .i64 c] w fun e w'=>e=.returned (.bool v)/\w=w':=by rw[<-h];exact U6_ a b c w
def j1_ (p:Int->Bool) (l:LI) (k:Nat):Prop:=(l.take k).all p=true
section
variable {p:Int->Bool} {l:LI} {k:Nat} {x:Int}
theorem XD_ (p:Int->Bool) (l:LI):j1_ p l 0:=by simp[j1_]
theorem XC_ (h:j1_ p l k) (hx:l[k]? =some x) (hp:p x=true):j1_ p l (k+1):=by
 unfold j1_ at h |-
 rw[List.take_add_one,hx,List.all_append,h];simp[hp]
theorem V0_ (hx:l[k]? =some x) (hp:p x=false):l.all p=false:=by
 rw[List.all_eq_false];exact⟨x,List.mem_of_getElem? hx,by simp[hp]⟩
theorem Yw_ (h:j1_ p l k) (hk:l.length<=k):l.all p=true:=by
 unfold j1_ at h;rwa[List.take_of_length_le hk]at h
end
theorem Zy_ (k:Int) (w:World):Calls prog 119 #[.int .i64 k] w fun e w'=>e=.returned (.bool (Qj_ k))/\w=w':=by
 have H1:=hid (fun W=>U6_ k 1 11 W);unfold Qj_;generalize inB k 1 11=u at H1 |-
 go_enter func119,ntmps119;go_wp2_with (go_at_call 140;refine(H1.o _).mono ?_;rintro e w1 ⟨rfl,rfl⟩)
 go_ret;exact⟨rfl,rfl⟩
theorem zv_ (k:Int) (w:World):Calls prog 158 #[.int .i64 k] w fun e w'=>e=.returned (.bool (Jf_ k))/\w=w':=by
 have H1:=hid (fun W=>U6_ k 12 17 W);unfold Jf_;generalize inB k 12 17=u at H1 |-
 go_enter func158,ntmps158;go_wp2_with (go_at_call 140;refine(H1.o _).mono ?_;rintro e w1 ⟨rfl,rfl⟩)
 go_ret;exact⟨rfl,rfl⟩
theorem ZO_ (k:Int) (w:World):Calls prog 213 #[.int .i64 k] w fun e w'=>e=.returned (.bool (Qj_ k))/\w=w':=by
 have H1:=hid (fun W=>qy_ k 1 11 W);unfold Qj_;generalize inB k 1 11=u at H1 |-
 go_enter func213,ntmps213;go_wp2_with (go_at_call 50;refine(H1.o _).mono ?_;rintro e w1 ⟨rfl,rfl⟩)
 go_ret;exact⟨rfl,rfl⟩
theorem Y3_ (k:Int) (w:World):Calls prog 159 #[.int .i64 k] w fun e w'=>e=.returned (.bool (Q6_ k))/\w=w':=by
 cases h1:(k==12)with
 |true=>
  have a:Q6_ k=true:=by unfold Q6_;rw[h1];rfl
  rw[a];clear a;go_enter func159,ntmps159;go_wp2;go_ret;exact⟨rfl,rfl⟩
 |false=>
  cases h2:(k==20)with
  |true=>
   have a:Q6_ k=true:=(by unfold Q6_;rw[h1,h2];rfl);rw[a];clear a;go_enter func159,ntmps159;go_wp2;go_ret;exact⟨rfl,rfl⟩
  |false=>
   have a:Q6_ k=(k==19):=(by unfold Q6_;rw[h1,h2];rfl);rw[a];clear a;go_enter func159,ntmps159;go_wp2;go_ret;exact⟨rfl,rfl⟩
theorem V7_ (k:Int) (w:World):Calls prog 197 #[.int .i64 k] w fun e w'=>e=.returned (.bool (isK 18 k))/\w=w':=by
 go_enter func197,ntmps197;go_wp2;go_ret;refine⟨Qx_ ?_,rfl⟩
 rfl
theorem Qam_ (k:Int) (w:World):Calls prog 196 #[.int .i64 k] w fun e w'=>e=.returned (.bool (isK 5 k))/\w=w':=by
 go_enter func196,ntmps196;go_wp2;go_ret;refine⟨Qx_ ?_,rfl⟩
 rfl
theorem x6_ (k:Int) (w:World):Calls prog 230 #[.int .i64 k] w fun e w'=>e=.returned (.bool (isK 1 k))/\w=w':=by
 go_enter func230,ntmps230;go_wp2;go_ret;refine⟨Qx_ ?_,rfl⟩
 rfl
theorem Qap_ (k:Int) (w:World):Calls prog 198 #[.int .i64 k] w fun e w'=>e=.returned (.bool (Xf_ k))/\w=w':=by
 have d:=hid (fun(b:Bool) (a:Jf_ k=b) (W:World)=>show Calls prog 158 #[.int .i64 k] W fun e w'=>e=.returned (.bool b)/\W=w' by rw[<-a];exact zv_ k W)
 cases a:Jf_ k with
 |true=>
  have f:=hid (d.o _ a);have c:Xf_ k=true:=by unfold Xf_;first|(rw[a];rfl)|(unfold Jf_;rw[a];rfl)
  rw[c];clear d a c;go_enter func198,ntmps198;go_wp2_with (go_at_call 158;refine(f.o _).mono ?_;rintro e w1 ⟨rfl,rfl⟩)
  go_ret;exact⟨rfl,rfl⟩
 |false=>
  have f:=hid (d.o _ a);have c:Xf_ k=(k==19):=by unfold Xf_;first|(rw[a];rfl)|(unfold Jf_;rw[a];rfl)
  rw[c];clear d a c;go_enter func198,ntmps198;go_wp2_with (go_at_call 158;refine(f.o _).mono ?_;rintro e w1 ⟨rfl,rfl⟩)
  go_ret;exact⟨rfl,rfl⟩
theorem Qcj_ (k:Int) (w:World):Calls prog 199 #[.int .i64 k] w fun e w'=>e=.returned (.bool (jU_ k))/\w=w':=by
 have d:=hid (fun(b:Bool) (a:Q6_ k=b) (W:World)=>show Calls prog 159 #[.int .i64 k] W fun e w'=>e=.returned (.bool b)/\W=w' by rw[<-a];exact Y3_ k W)
 cases a:Q6_ k with
 |true=>
  have f:=hid (d.o _ a);have c:jU_ k=true:=by unfold jU_;first|(rw[a];rfl)|(unfold Jf_;rw[a];rfl)
  rw[c];clear d a c;go_enter func199,ntmps199;go_wp2_with (go_at_call 159;refine(f.o _).mono ?_;rintro e w1 ⟨rfl,rfl⟩)
  go_ret;exact⟨rfl,rfl⟩
 |false=>
  have f:=hid (d.o _ a);have c:jU_ k=(k==21):=by unfold jU_;first|(rw[a];rfl)|(unfold Jf_;rw[a];rfl)
  rw[c];clear d a c;go_enter func199,ntmps199;go_wp2_with (go_at_call 159;refine(f.o _).mono ?_;rintro e w1 ⟨rfl,rfl⟩)
  go_ret;exact⟨rfl,rfl⟩
theorem Ub_ (k:Int) (w:World):Calls prog 171 #[.int .i64 k] w fun e w'=>e=.returned (.bool (Xf_ k))/\w=w':=by
 have d:=hid (fun(b:Bool) (a:inB k 12 17=b) (W:World)=>show Calls prog 50 #[.int .i64 k,.int .i64 12,.int .i64 17] W fun e w'=>e=.returned (.bool b)/\W=w' by rw[<-a];exact qy_ k 12 17 W)
 cases a:inB k 12 17 with
 |true=>
  have f:=hid (d.o _ a);have c:Xf_ k=true:=by unfold Xf_;first|(rw[a];rfl)|(unfold Jf_;rw[a];rfl)
  rw[c];clear d a c;go_enter func171,ntmps171;go_wp2_with (go_at_call 50;refine(f.o _).mono ?_;rintro e w1 ⟨rfl,rfl⟩)
  go_ret;exact⟨rfl,rfl⟩
 |false=>
  have f:=hid (d.o _ a);have c:Xf_ k=(k==19):=by unfold Xf_;first|(rw[a];rfl)|(unfold Jf_;rw[a];rfl)
  rw[c];clear d a c;go_enter func171,ntmps171;go_wp2_with (go_at_call 50;refine(f.o _).mono ?_;rintro e w1 ⟨rfl,rfl⟩)
  go_ret;exact⟨rfl,rfl⟩
theorem Kg_ (A:OA) (n c:Nat) (l:LI) (w:World) (hn:n<=4194304) (hl:Hid (l.length=n)) (hr:Rd w 1 A n (Qa_ l)):
  Calls prog 194 #[.slice A n c,.func (.func 119) #[] #[]] w fun e w'=>e=.returned (.bool (l.all (Qj_)))/\Below w.heap.size w w':=by
 apply Kp_;have HR:=hid hr;clear hr;go_enter func194,ntmps194;go_wp2
 go_loop [9] (fun i=>∃k:Nat,k<=n/\j1_ (Qj_) l k/\i=.int .i64 k) (fun i=>n - (intOf i).toNat)
 case atStart=>exact⟨0,Nat.zero_le _,XD_ _ l,rfl⟩
 case round=>
  obtain⟨k,hk,h,rfl⟩:=hrel;by_cases m:k < n
  ·obtain⟨x,hd⟩:∃d,l[k]? =some d:=⟨_,gE (by have:=hl.o;omega)⟩;obtain⟨b,off,rfl,p,c0⟩:=Ql_ HR.o m hd;have j:=hid (fun(v:Bool) (hb:Qj_ x=v) (W:World)=>show Calls prog 119 #[.int .i64 x] W fun e w'=>e=.returned (.bool v)/\W=w' by rw[<-hb];exact Zy_ _ W)
   cases g:Qj_ x with
   |false=>
    have f:=hid (V0_ hd g);have a:=hid (j.o _ g);clear j g hd h;go_wp2_with (go_at_call 119;refine(a.o _).mono ?_;rintro e w1 ⟨rfl,rfl⟩)
    go_ret;exact⟨Qx_ f.o.symm,rfl⟩
   |true=>
    have o:=XC_ h hd g;have a:=hid (j.o _ g);clear j g hd h;go_wp2_with (go_at_call 119;refine(a.o _).mono ?_;rintro e w1 ⟨rfl,rfl⟩)
    go_round
    case rel=>exact⟨k+1,oo,o,by go_num⟩
    case measure=>simp[intOf];omega
  ·have f:=hid (Yw_ h (by have:=hl.o;omega));clear h;go_wp2;go_ret;exact⟨Qx_ f.o.symm,rfl⟩
theorem QdK_ (A:OA) (n c:Nat) (l:LI) (w:World) (hn:n<=4194304) (hl:Hid (l.length=n)) (hr:Rd w 1 A n (Qa_ l)):
  Calls prog 194 #[.slice A n c,.func (.func 196) #[] #[]] w fun e w'=>e=.returned (.bool (l.all (isK 5)))/\Below w.heap.size w w':=by
 apply Kp_;have HR:=hid hr;clear hr;go_enter func194,ntmps194;go_wp2
 go_loop [9] (fun i=>∃k:Nat,k<=n/\j1_ (isK 5) l k/\i=.int .i64 k) (fun i=>n - (intOf i).toNat)
 case atStart=>exact⟨0,Nat.zero_le _,XD_ _ l,rfl⟩
 case round=>
  obtain⟨k,hk,h,rfl⟩:=hrel;by_cases m:k < n
  ·obtain⟨x,hd⟩:∃d,l[k]? =some d:=⟨_,gE (by have:=hl.o;omega)⟩;obtain⟨b,off,rfl,p,c0⟩:=Ql_ HR.o m hd;have j:=hid (fun(v:Bool) (hb:isK 5 x=v) (W:World)=>show Calls prog 196 #[.int .i64 x] W fun e w'=>e=.returned (.bool v)/\W=w' by rw[<-hb];exact Qam_ _ W)
   cases g:isK 5 x with
   |false=>
    have f:=hid (V0_ hd g);have a:=hid (j.o _ g);clear j g hd h;go_wp2_with (go_at_call 196;refine(a.o _).mono ?_;rintro e w1 ⟨rfl,rfl⟩)
    go_ret;exact⟨Qx_ f.o.symm,rfl⟩
   |true=>
    have o:=XC_ h hd g;have a:=hid (j.o _ g);clear j g hd h;go_wp2_with (go_at_call 196;refine(a.o _).mono ?_;rintro e w1 ⟨rfl,rfl⟩)
    go_round
    case rel=>exact⟨k+1,oo,o,by go_num⟩
    case measure=>simp[intOf];omega
  ·have f:=hid (Yw_ h (by have:=hl.o;omega));clear h;go_wp2;go_ret;exact⟨Qx_ f.o.symm,rfl⟩
theorem QbH_ (A:OA) (n c:Nat) (l:LI) (w:World) (hn:n<=4194304) (hl:Hid (l.length=n)) (hr:Rd w 1 A n (Qa_ l)):
  Calls prog 194 #[.slice A n c,.func (.func 197) #[] #[]] w fun e w'=>e=.returned (.bool (l.all (isK 18)))/\Below w.heap.size w w':=by
 apply Kp_;have HR:=hid hr;clear hr;go_enter func194,ntmps194;go_wp2
 go_loop [9] (fun i=>∃k:Nat,k<=n/\j1_ (isK 18) l k/\i=.int .i64 k) (fun i=>n - (intOf i).toNat)
 case atStart=>exact⟨0,Nat.zero_le _,XD_ _ l,rfl⟩
 case round=>
  obtain⟨k,hk,h,rfl⟩:=hrel;by_cases m:k < n
  ·obtain⟨x,hd⟩:∃d,l[k]? =some d:=⟨_,gE (by have:=hl.o;omega)⟩;obtain⟨b,off,rfl,p,c0⟩:=Ql_ HR.o m hd;have j:=hid (fun(v:Bool) (hb:isK 18 x=v) (W:World)=>show Calls prog 197 #[.int .i64 x] W fun e w'=>e=.returned (.bool v)/\W=w' by rw[<-hb];exact V7_ _ W)
   cases g:isK 18 x with
   |false=>
    have f:=hid (V0_ hd g);have a:=hid (j.o _ g);clear j g hd h;go_wp2_with (go_at_call 197;refine(a.o _).mono ?_;rintro e w1 ⟨rfl,rfl⟩)
    go_ret;exact⟨Qx_ f.o.symm,rfl⟩
   |true=>
    have o:=XC_ h hd g;have a:=hid (j.o _ g);clear j g hd h;go_wp2_with (go_at_call 197;refine(a.o _).mono ?_;rintro e w1 ⟨rfl,rfl⟩)
    go_round
    case rel=>exact⟨k+1,oo,o,by go_num⟩
    case measure=>simp[intOf];omega
  ·have f:=hid (Yw_ h (by have:=hl.o;omega));clear h;go_wp2;go_ret;exact⟨Qx_ f.o.symm,rfl⟩
theorem QdL_ (A:OA) (n c:Nat) (l:LI) (w:World) (hn:n<=4194304) (hl:Hid (l.length=n)) (hr:Rd w 1 A n (Qa_ l)):
  Calls prog 194 #[.slice A n c,.func (.func 198) #[] #[]] w fun e w'=>e=.returned (.bool (l.all (Xf_)))/\Below w.heap.size w w':=by
 apply Kp_;have HR:=hid hr;clear hr;go_enter func194,ntmps194;go_wp2
 go_loop [9] (fun i=>∃k:Nat,k<=n/\j1_ (Xf_) l k/\i=.int .i64 k) (fun i=>n - (intOf i).toNat)
 case atStart=>exact⟨0,Nat.zero_le _,XD_ _ l,rfl⟩
 case round=>
  obtain⟨k,hk,h,rfl⟩:=hrel;by_cases m:k < n
  ·obtain⟨x,hd⟩:∃d,l[k]? =some d:=⟨_,gE (by have:=hl.o;omega)⟩;obtain⟨b,off,rfl,p,c0⟩:=Ql_ HR.o m hd;have j:=hid (fun(v:Bool) (hb:Xf_ x=v) (W:World)=>show Calls prog 198 #[.int .i64 x] W fun e w'=>e=.returned (.bool v)/\W=w' by rw[<-hb];exact Qap_ _ W)
   cases g:Xf_ x with
   |false=>
    have f:=hid (V0_ hd g);have a:=hid (j.o _ g);clear j g hd h;go_wp2_with (go_at_call 198;refine(a.o _).mono ?_;rintro e w1 ⟨rfl,rfl⟩)
    go_ret;exact⟨Qx_ f.o.symm,rfl⟩
   |true=>
    have o:=XC_ h hd g;have a:=hid (j.o _ g);clear j g hd h;go_wp2_with (go_at_call 198;refine(a.o _).mono ?_;rintro e w1 ⟨rfl,rfl⟩)
    go_round
    case rel=>exact⟨k+1,oo,o,by go_num⟩
    case measure=>simp[intOf];omega
  ·have f:=hid (Yw_ h (by have:=hl.o;omega));clear h;go_wp2;go_ret;exact⟨Qx_ f.o.symm,rfl⟩
theorem vW_ (A:OA) (n c:Nat) (l:LI) (w:World) (hn:n<=4194304) (hl:Hid (l.length=n)) (hr:Rd w 1 A n (Qa_ l)):
  Calls prog 194 #[.slice A n c,.func (.func 159) #[] #[]] w fun e w'=>e=.returned (.bool (l.all (Q6_)))/\Below w.heap.size w w':=by
 apply Kp_;have HR:=hid hr;clear hr;go_enter func194,ntmps194;go_wp2
 go_loop [9] (fun i=>∃k:Nat,k<=n/\j1_ (Q6_) l k/\i=.int .i64 k) (fun i=>n - (intOf i).toNat)
 case atStart=>exact⟨0,Nat.zero_le _,XD_ _ l,rfl⟩
 case round=>
  obtain⟨k,hk,h,rfl⟩:=hrel;by_cases m:k < n
  ·obtain⟨x,hd⟩:∃d,l[k]? =some d:=⟨_,gE (by have:=hl.o;omega)⟩;obtain⟨b,off,rfl,p,c0⟩:=Ql_ HR.o m hd;have j:=hid (fun(v:Bool) (hb:Q6_ x=v) (W:World)=>show Calls prog 159 #[.int .i64 x] W fun e w'=>e=.returned (.bool v)/\W=w' by rw[<-hb];exact Y3_ _ W)
   cases g:Q6_ x with
   |false=>
    have f:=hid (V0_ hd g);have a:=hid (j.o _ g);clear j g hd h;go_wp2_with (go_at_call 159;refine(a.o _).mono ?_;rintro e w1 ⟨rfl,rfl⟩)
    go_ret;exact⟨Qx_ f.o.symm,rfl⟩
   |true=>
    have o:=XC_ h hd g;have a:=hid (j.o _ g);clear j g hd h;go_wp2_with (go_at_call 159;refine(a.o _).mono ?_;rintro e w1 ⟨rfl,rfl⟩)
    go_round
    case rel=>exact⟨k+1,oo,o,by go_num⟩
    case measure=>simp[intOf];omega
  ·have f:=hid (Yw_ h (by have:=hl.o;omega));clear h;go_wp2;go_ret;exact⟨Qx_ f.o.symm,rfl⟩
theorem Qfe_ (A:OA) (n c:Nat) (l:LI) (w:World) (hn:n<=4194304) (hl:Hid (l.length=n)) (hr:Rd w 1 A n (Qa_ l)):
  Calls prog 194 #[.slice A n c,.func (.func 199) #[] #[]] w fun e w'=>e=.returned (.bool (l.all (jU_)))/\Below w.heap.size w w':=by
 apply Kp_;have HR:=hid hr;clear hr;go_enter func194,ntmps194;go_wp2
 go_loop [9] (fun i=>∃k:Nat,k<=n/\j1_ (jU_) l k/\i=.int .i64 k) (fun i=>n - (intOf i).toNat)
 case atStart=>exact⟨0,Nat.zero_le _,XD_ _ l,rfl⟩
 case round=>
  obtain⟨k,hk,h,rfl⟩:=hrel;by_cases m:k < n
  ·obtain⟨x,hd⟩:∃d,l[k]? =some d:=⟨_,gE (by have:=hl.o;omega)⟩;obtain⟨b,off,rfl,p,c0⟩:=Ql_ HR.o m hd;have j:=hid (fun(v:Bool) (hb:jU_ x=v) (W:World)=>show Calls prog 199 #[.int .i64 x] W fun e w'=>e=.returned (.bool v)/\W=w' by rw[<-hb];exact Qcj_ _ W)
   cases g:jU_ x with
   |false=>
    have f:=hid (V0_ hd g);have a:=hid (j.o _ g);clear j g hd h;go_wp2_with (go_at_call 199;refine(a.o _).mono ?_;rintro e w1 ⟨rfl,rfl⟩)
    go_ret;exact⟨Qx_ f.o.symm,rfl⟩
   |true=>
    have o:=XC_ h hd g;have a:=hid (j.o _ g);clear j g hd h;go_wp2_with (go_at_call 199;refine(a.o _).mono ?_;rintro e w1 ⟨rfl,rfl⟩)
    go_round
    case rel=>exact⟨k+1,oo,o,by go_num⟩
    case measure=>simp[intOf];omega
  ·have f:=hid (Yw_ h (by have:=hl.o;omega));clear h;go_wp2;go_ret;exact⟨Qx_ f.o.symm,rfl⟩
theorem j9_ (A:OA) (n c:Nat) (l:LI) (w:World) (hn:n<=4194304) (hl:Hid (l.length=n)) (hr:Rd w 1 A n (Qa_ l)):
  Calls prog 194 #[.slice A n c,.func (.func 230) #[] #[]] w fun e w'=>e=.returned (.bool (l.all (isK 1)))/\Below w.heap.size w w':=by
 apply Kp_;have HR:=hid hr;clear hr;go_enter func194,ntmps194;go_wp2
 go_loop [9] (fun i=>∃k:Nat,k<=n/\j1_ (isK 1) l k/\i=.int .i64 k) (fun i=>n - (intOf i).toNat)
 case atStart=>exact⟨0,Nat.zero_le _,XD_ _ l,rfl⟩
 case round=>
  obtain⟨k,hk,h,rfl⟩:=hrel;by_cases m:k < n
  ·obtain⟨x,hd⟩:∃d,l[k]? =some d:=⟨_,gE (by have:=hl.o;omega)⟩;obtain⟨b,off,rfl,p,c0⟩:=Ql_ HR.o m hd;have j:=hid (fun(v:Bool) (hb:isK 1 x=v) (W:World)=>show Calls prog 230 #[.int .i64 x] W fun e w'=>e=.returned (.bool v)/\W=w' by rw[<-hb];exact x6_ _ W)
   cases g:isK 1 x with
   |false=>
    have f:=hid (V0_ hd g);have a:=hid (j.o _ g);clear j g hd h;go_wp2_with (go_at_call 230;refine(a.o _).mono ?_;rintro e w1 ⟨rfl,rfl⟩)
    go_ret;exact⟨Qx_ f.o.symm,rfl⟩
   |true=>
    have o:=XC_ h hd g;have a:=hid (j.o _ g);clear j g hd h;go_wp2_with (go_at_call 230;refine(a.o _).mono ?_;rintro e w1 ⟨rfl,rfl⟩)
    go_round
    case rel=>exact⟨k+1,oo,o,by go_num⟩
    case measure=>simp[intOf];omega
  ·have f:=hid (Yw_ h (by have:=hl.o;omega));clear h;go_wp2;go_ret;exact⟨Qx_ f.o.symm,rfl⟩
theorem qR_ {w:World} {A:OA} {m n:Nat} {l:LI} (h:Rd w 1 A n (Qa_ l)) (hl:l.length=n) (hm:m<=n):Rd w 1 A m (Qa_ (l.take m)):=by
 refine⟨by simp[Qa_];omega,fun c=>?_⟩;obtain⟨b,off,e,hb,hc⟩:=h.2 oo;refine⟨b,off,e,hb,fun j u a=>hc j u ?_⟩;unfold Qa_ at a |-
 rw[List.getElem?_map,List.getElem?_take]at a;split at a
 ·rw[List.getElem?_map];exact a
 ·cases a
theorem JY_ {w:World} {b off m n:Nat} {l:LI} (h:Rd w 1 (some ⟨b,off,none⟩) n (Qa_ l)) (hl:l.length=n) (hm:m+1=n):Rd w 1 (some ⟨b,off+1,none⟩) m (Qa_ (l.drop 1)):=by
 refine⟨by simp[Qa_];omega,fun d=>?_⟩;obtain⟨b',c,e,hb,hc⟩:=h.2 oo;injection e with e;injection e with e1 e2 _;subst e1;subst e2;refine⟨b,off+1,rfl,hb,fun j u a=>?_⟩;have h2:=hc (j+1) u (by
  unfold Qa_ at a |-
  rw[List.getElem?_map,List.getElem?_drop]at a;rw[List.getElem?_map,Nat.add_comm j 1];exact a)
 rwa[show off+(j+1)=off+1+j from oo]at h2
def VG_ (p:Int->Bool) (l:LI):Bool:=match l.getLast? with|some x=>p x&&(l.take (l.length - 1)).all (isK 1)|none=>false
theorem Vr_ {p:Int->Bool} {l:LI} {m:Nat} {x:Int} (hl:l.length=m+1) (hx:l[m]? =some x):VG_ p l=(p x&&(l.take m).all (isK 1)):=by
 have:l.getLast? =some x:=by rw[List.getLast?_eq_getElem?,hl];exact hx
 unfold VG_;rw[this,hl];rfl
theorem Qax_ (A:OA) (n c:Nat) (l:LI) (w:World) (hn:n<=4194304) (hc:n<=c) (f:Hid (l.length=n)) (g:Rd w 1 A n (Qa_ l)):
  Calls prog 195 #[.slice A n c,.func (.func 119) #[] #[]] w fun e w'=>e=.returned (.bool (VG_ (Qj_) l))/\Below w.heap.size w w':=by
 by_cases h0:n=0
 ·subst h0;have hz:l=[]:=List.eq_nil_of_length_eq_zero f.o;have h:VG_ (Qj_) l=false:=by rw[hz];rfl
  rw[h];clear g hz h;go_enter func195,ntmps195;go_wp2;go_ret;exact⟨rfl,grow_⟩
 ·obtain⟨m,rfl⟩:∃m,n=m+1:=⟨n - 1,oo⟩;obtain⟨x,hd⟩:∃d,l[m]? =some d:=⟨_,gE (by have:=f.o;omega)⟩;obtain⟨b,off,rfl,k,c0⟩:=Ql_ g oo hd;have i:=hid (fun(v:Bool) (hb:Qj_ x=v) (W:World)=>show Calls prog 119 #[.int .i64 x] W fun e w'=>e=.returned (.bool v)/\W=w' by rw[<-hb];exact Zy_ _ W);have e1:((m+1:Nat):Int) - 1=(m:Nat):=oo;have g1:(0:Int) < ((m+1:Nat):Int):=oo;rw[Vr_ f.o hd]
  cases j:Qj_ x with
  |false=>
   have a:=hid (i.o _ j);clear i j hd g;go_enter func195,ntmps195;go_wp2_with (go_at_call 119;refine(a.o _).mono ?_;rintro e w1 ⟨rfl,rfl⟩)
   go_ret;exact⟨rfl,grow_⟩
  |true=>
   have a:=hid (i.o _ j);have HA:=hid (fun c=>j9_ (some ⟨b,off,none⟩) m c (l.take m) w oo (hid (by rw[List.length_take,f.o];omega)) (qR_ g f.o oo));clear i j hd g;generalize (l.take m).all (isK 1)=u at HA |-
   go_enter func195,ntmps195;go_wp2_with (first|(go_at_call 194;refine(HA.o _).mono ?_;rintro e w1 ⟨rfl,h2⟩)|(go_at_call 119;refine(a.o _).mono ?_;rintro e w1 ⟨rfl,rfl⟩))
   go_ret;exact⟨rfl,h2⟩
theorem Qav_ (A:OA) (n c:Nat) (l:LI) (w:World) (hn:n<=4194304) (hc:n<=c) (f:Hid (l.length=n)) (g:Rd w 1 A n (Qa_ l)):
  Calls prog 195 #[.slice A n c,.func (.func 197) #[] #[]] w fun e w'=>e=.returned (.bool (VG_ (isK 18) l))/\Below w.heap.size w w':=by
 by_cases h0:n=0
 ·subst h0;have hz:l=[]:=List.eq_nil_of_length_eq_zero f.o;have h:VG_ (isK 18) l=false:=by rw[hz];rfl
  rw[h];clear g hz h;go_enter func195,ntmps195;go_wp2;go_ret;exact⟨rfl,grow_⟩
 ·obtain⟨m,rfl⟩:∃m,n=m+1:=⟨n - 1,oo⟩;obtain⟨x,hd⟩:∃d,l[m]? =some d:=⟨_,gE (by have:=f.o;omega)⟩;obtain⟨b,off,rfl,k,c0⟩:=Ql_ g oo hd;have i:=hid (fun(v:Bool) (hb:isK 18 x=v) (W:World)=>show Calls prog 197 #[.int .i64 x] W fun e w'=>e=.returned (.bool v)/\W=w' by rw[<-hb];exact V7_ _ W);have e1:((m+1:Nat):Int) - 1=(m:Nat):=oo;have g1:(0:Int) < ((m+1:Nat):Int):=oo;rw[Vr_ f.o hd]
  cases j:isK 18 x with
  |false=>
   have a:=hid (i.o _ j);clear i j hd g;go_enter func195,ntmps195;go_wp2_with (go_at_call 197;refine(a.o _).mono ?_;rintro e w1 ⟨rfl,rfl⟩)
   go_ret;exact⟨rfl,grow_⟩
  |true=>
   have a:=hid (i.o _ j);have HA:=hid (fun c=>j9_ (some ⟨b,off,none⟩) m c (l.take m) w oo (hid (by rw[List.length_take,f.o];omega)) (qR_ g f.o oo));clear i j hd g;generalize (l.take m).all (isK 1)=u at HA |-
   go_enter func195,ntmps195;go_wp2_with (first|(go_at_call 194;refine(HA.o _).mono ?_;rintro e w1 ⟨rfl,h2⟩)|(go_at_call 197;refine(a.o _).mono ?_;rintro e w1 ⟨rfl,rfl⟩))
   go_ret;exact⟨rfl,h2⟩
def VF_ (p:Int->Bool) (l:LI):Bool:=match l with|x::_=>p x|[]=>false
def kfB (kind:Int) (l:LI):Bool:=
 if kind=1\/kind=2\/kind=3\/kind=19 then decide (l.length=0)
 else if kind=4 then l.all Qj_
 else if kind=5 then decide (1<=l.length)&&l.all Qj_
 else if kind=7 then decide (2<=l.length)&&l.all Qj_
 else if kind=8 then decide (l.length=3)&&l.all Qj_
 else if kind=6\/kind=11\/kind=13\/kind=14 then decide (l.length=1)&&l.all Qj_
 else if kind=12\/kind=15 then decide (l.length<=1)&&l.all Qj_
 else if kind=9 then VG_ Qj_ l
 else if kind=10 then decide (2<=l.length)&&VF_ Qj_ l&&(l.drop 1).all (isK 5)
 else if kind=16 then decide (2<=l.length/\l.length<=3)&&VF_ Qj_ l&&(l.drop 1).all (isK 18)
 else if kind=17 then decide (l.length=2)&&VF_ Qj_ l&&(l.drop 1).all (isK 18)
 else if kind=18 then l.all Xf_
 else if kind=20 then VG_ (isK 18) l
 else if kind=21 then l.all Q6_
 else if kind=22 then l.all jU_
 else false
theorem QaV_ (n m:Nat):((n:Int)==(m:Int))=decide (n=m):=by
 by_cases h:n=m
 ·rw[decide_eq_true h,h];exact beq_self_eq_true _
 ·rw[decide_eq_false h,beq_eq_false_iff_ne];omega
theorem qx_ (A:OA) (n c:Nat) (l:LI) (w:World) (hn:n<=4096) (hc:n<=c) (a:Hid (l.length=n)) (hr:Rd w 1 A n (Qa_ l)) (kind:Int) (hk:kind=1\/kind=2\/kind=3\/kind=19):
  Calls prog 160 #[.int .i64 kind,.slice A n c] w fun e w'=>e=.returned (.bool (kfB kind l))/\Below w.heap.size w w':=by
 have HV:=hid (fun c=>Kg_ A n c l w oo a hr);have hb:kfB kind l=((n:Int)==(0:Nat)):=by rw[QaV_];unfold kfB;rw[if_pos hk,a.o]
 rw[hb];clear hb hr a;generalize l.all Qj_=u at HV;rcases hk with rfl|rfl|rfl|rfl
 all_goals
  go_enter func160,ntmps160;go_wp2_with (go_at_call 194;refine(HV.o _).mono ?_;rintro e w1 ⟨rfl,h2⟩)
  go_ret;refine⟨Qx_ ?_,h2⟩
  rfl
theorem QfN_ (A:OA) (n c:Nat) (l:LI) (w:World) (hn:n<=4096) (hc:n<=c) (hl:Hid (l.length=n)) (hr:Rd w 1 A n (Qa_ l)):
  Calls prog 160 #[.int .i64 4,.slice A n c] w fun e w'=>e=.returned (.bool (kfB 4 l))/\Below w.heap.size w w':=by
 have HV:=hid (fun c=>Kg_ A n c l w oo hl hr);have hb:kfB 4 l=l.all Qj_:=rfl;rw[hb];clear hb hr hl;generalize l.all Qj_=u at HV |-
 go_enter func160,ntmps160;go_wp2_with (go_at_call 194;refine(HV.o _).mono ?_;rintro e w1 ⟨rfl,h2⟩)
 go_ret;exact⟨rfl,h2⟩
theorem QfK_ (A:OA) (n c:Nat) (l:LI) (w:World) (hn:n<=4096) (hc:n<=c) (f:Hid (l.length=n)) (hr:Rd w 1 A n (Qa_ l)) (kind:Int) (d:kind=5):
  Calls prog 160 #[.int .i64 kind,.slice A n c] w fun e w'=>e=.returned (.bool (kfB kind l))/\Below w.heap.size w w':=by
 have a:=hid (fun c=>Kg_ A n c l w oo f hr);have hb:kfB kind l=(decide (1<=n)&&l.all Qj_):=by rw[<-f.o];rcases d with rfl<;>rfl
 rw[hb];clear hb hr f;generalize l.all Qj_=u at a |-
 by_cases ht:1<=n
 ·rw[decide_eq_true ht,Bool.true_and];have i1:(1:Int)<=n:=oo;rcases d with rfl
  all_goals
   go_enter func160,ntmps160;go_wp2_with (go_at_call 194;refine(a.o _).mono ?_;rintro e w1 ⟨rfl,b⟩)
   go_ret;exact⟨rfl,b⟩
 ·rw[decide_eq_false ht,Bool.false_and];have i1:¬(1:Int)<=n:=oo;rcases d with rfl
  all_goals
   go_enter func160,ntmps160;go_wp2_with (go_at_call 194;refine(a.o _).mono ?_;rintro e w1 ⟨rfl,b⟩)
   go_ret;exact⟨rfl,b⟩
theorem Qea_ (A:OA) (n c:Nat) (l:LI) (w:World) (hn:n<=4096) (hc:n<=c) (f:Hid (l.length=n)) (hr:Rd w 1 A n (Qa_ l)) (kind:Int) (d:kind=7):
  Calls prog 160 #[.int .i64 kind,.slice A n c] w fun e w'=>e=.returned (.bool (kfB kind l))/\Below w.heap.size w w':=by
 have a:=hid (fun c=>Kg_ A n c l w oo f hr);have hb:kfB kind l=(decide (2<=n)&&l.all Qj_):=by rw[<-f.o];rcases d with rfl<;>rfl
 rw[hb];clear hb hr f;generalize l.all Qj_=u at a |-
 by_cases ht:2<=n
 ·rw[decide_eq_true ht,Bool.true_and];have i1:(2:Int)<=n:=oo;rcases d with rfl
  all_goals
   go_enter func160,ntmps160;go_wp2_with (go_at_call 194;refine(a.o _).mono ?_;rintro e w1 ⟨rfl,b⟩)
   go_ret;exact⟨rfl,b⟩
 ·rw[decide_eq_false ht,Bool.false_and];have i1:¬(2:Int)<=n:=oo;rcases d with rfl
  all_goals
   go_enter func160,ntmps160;go_wp2_with (go_at_call 194;refine(a.o _).mono ?_;rintro e w1 ⟨rfl,b⟩)
   go_ret;exact⟨rfl,b⟩
theorem QfO_ (A:OA) (n c:Nat) (l:LI) (w:World) (hn:n<=4096) (hc:n<=c) (f:Hid (l.length=n)) (hr:Rd w 1 A n (Qa_ l)) (kind:Int) (d:kind=8):
  Calls prog 160 #[.int .i64 kind,.slice A n c] w fun e w'=>e=.returned (.bool (kfB kind l))/\Below w.heap.size w w':=by
 have a:=hid (fun c=>Kg_ A n c l w oo f hr);have hb:kfB kind l=(decide (n=3)&&l.all Qj_):=by rw[<-f.o];rcases d with rfl<;>rfl
 rw[hb];clear hb hr f;generalize l.all Qj_=u at a |-
 by_cases g:n=3
 ·rw[decide_eq_true g,Bool.true_and];obtain rfl:n=3:=g;rcases d with rfl
  all_goals
   go_enter func160,ntmps160;go_wp2_with (go_at_call 194;refine(a.o _).mono ?_;rintro e w1 ⟨rfl,b⟩)
   go_ret;exact⟨rfl,b⟩
 ·rw[decide_eq_false g,Bool.false_and];have i1:((n:Int)==3)=false:=by rw[beq_eq_false_iff_ne];omega
  rcases d with rfl
  all_goals
   go_enter func160,ntmps160;go_wp2_with (go_at_call 194;refine(a.o _).mono ?_;rintro e w1 ⟨rfl,b⟩)
   go_ret;exact⟨rfl,b⟩
theorem vu_ (A:OA) (n c:Nat) (l:LI) (w:World) (hn:n<=4096) (hc:n<=c) (f:Hid (l.length=n)) (hr:Rd w 1 A n (Qa_ l)) (kind:Int) (d:kind=6\/kind=11\/kind=13\/kind=14):
  Calls prog 160 #[.int .i64 kind,.slice A n c] w fun e w'=>e=.returned (.bool (kfB kind l))/\Below w.heap.size w w':=by
 have a:=hid (fun c=>Kg_ A n c l w oo f hr);have hb:kfB kind l=(decide (n=1)&&l.all Qj_):=by rw[<-f.o];rcases d with rfl|rfl|rfl|rfl<;>rfl
 rw[hb];clear hb hr f;generalize l.all Qj_=u at a |-
 by_cases g:n=1
 ·rw[decide_eq_true g,Bool.true_and];obtain rfl:n=1:=g;rcases d with rfl|rfl|rfl|rfl
  all_goals
   go_enter func160,ntmps160;go_wp2_with (go_at_call 194;refine(a.o _).mono ?_;rintro e w1 ⟨rfl,b⟩)
   go_ret;exact⟨rfl,b⟩
 ·rw[decide_eq_false g,Bool.false_and];have i1:((n:Int)==1)=false:=by rw[beq_eq_false_iff_ne];omega
  rcases d with rfl|rfl|rfl|rfl
  all_goals
   go_enter func160,ntmps160;go_wp2_with (go_at_call 194;refine(a.o _).mono ?_;rintro e w1 ⟨rfl,b⟩)
   go_ret;exact⟨rfl,b⟩
theorem Qe2_ (A:OA) (n c:Nat) (l:LI) (w:World) (hn:n<=4096) (hc:n<=c) (f:Hid (l.length=n)) (hr:Rd w 1 A n (Qa_ l)) (kind:Int) (d:kind=12\/kind=15):
  Calls prog 160 #[.int .i64 kind,.slice A n c] w fun e w'=>e=.returned (.bool (kfB kind l))/\Below w.heap.size w w':=by
 have a:=hid (fun c=>Kg_ A n c l w oo f hr);have hb:kfB kind l=(decide (n<=1)&&l.all Qj_):=by rw[<-f.o];rcases d with rfl|rfl<;>rfl
 rw[hb];clear hb hr f;generalize l.all Qj_=u at a |-
 by_cases ht:n<=1
 ·rw[decide_eq_true ht,Bool.true_and];have i1:(n:Int)<=1:=oo;rcases d with rfl|rfl
  all_goals
   go_enter func160,ntmps160;go_wp2_with (go_at_call 194;refine(a.o _).mono ?_;rintro e w1 ⟨rfl,b⟩)
   go_ret;exact⟨rfl,b⟩
 ·rw[decide_eq_false ht,Bool.false_and];have i1:¬(n:Int)<=1:=oo;rcases d with rfl|rfl
  all_goals
   go_enter func160,ntmps160;go_wp2_with (go_at_call 194;refine(a.o _).mono ?_;rintro e w1 ⟨rfl,b⟩)
   go_ret;exact⟨rfl,b⟩
theorem QhB_ (A:OA) (n c:Nat) (l:LI) (w:World) (hn:n<=4096) (a:n<=c) (b:Hid (l.length=n)) (d:Rd w 1 A n (Qa_ l)):
  Calls prog 160 #[.int .i64 9,.slice A n c] w fun e w'=>e=.returned (.bool (kfB 9 l))/\Below w.heap.size w w':=by
 have HV:=hid (fun c=>Kg_ A n c l w oo b d);have HL:=hid (fun w1 (h:Below w.heap.size w w1) c a=>Qax_ A n c l w1 oo a b (d.next h));have hb:kfB 9 l=VG_ (Qj_) l:=rfl;rw[hb];clear hb d b;generalize l.all Qj_=u at HV;generalize VG_ (Qj_) l=v at HL |-
 go_enter func160,ntmps160;go_wp2_with (first|(go_at_call 194;refine(HV.o _).mono ?_;rintro e w1 ⟨rfl,h2⟩)|(go_at_call 195;refine(HL.o _ h2 _ a).mono ?_;rintro e w3 ⟨rfl,h3⟩))
 go_ret;exact⟨rfl,Qb_ h2 h3⟩
theorem Qck_ (A:OA) (n c:Nat) (l:LI) (w:World) (hn:n<=4096) (a:n<=c) (b:Hid (l.length=n)) (d:Rd w 1 A n (Qa_ l)):
  Calls prog 160 #[.int .i64 20,.slice A n c] w fun e w'=>e=.returned (.bool (kfB 20 l))/\Below w.heap.size w w':=by
 have HV:=hid (fun c=>Kg_ A n c l w oo b d);have HL:=hid (fun w1 (h:Below w.heap.size w w1) c a=>Qav_ A n c l w1 oo a b (d.next h));have hb:kfB 20 l=VG_ (isK 18) l:=rfl;rw[hb];clear hb d b;generalize l.all Qj_=u at HV;generalize VG_ (isK 18) l=v at HL |-
 go_enter func160,ntmps160;go_wp2_with (first|(go_at_call 194;refine(HV.o _).mono ?_;rintro e w1 ⟨rfl,h2⟩)|(go_at_call 195;refine(HL.o _ h2 _ a).mono ?_;rintro e w3 ⟨rfl,h3⟩))
 go_ret;exact⟨rfl,Qb_ h2 h3⟩
theorem Qd9_ (A:OA) (n c:Nat) (l:LI) (w:World) (hn:n<=4096) (hc:n<=c) (a:Hid (l.length=n)) (b:Rd w 1 A n (Qa_ l)):
  Calls prog 160 #[.int .i64 18,.slice A n c] w fun e w'=>e=.returned (.bool (kfB 18 l))/\Below w.heap.size w w':=by
 have HV:=hid (fun c=>Kg_ A n c l w oo a b);have HL:=hid (fun w1 (h:Below w.heap.size w w1) c=>QdL_ A n c l w1 oo a (b.next h));have hb:kfB 18 l=l.all (Xf_):=rfl;rw[hb];clear hb b a;generalize l.all Qj_=u at HV;generalize l.all (Xf_)=v at HL |-
 go_enter func160,ntmps160;go_wp2_with fail
 refine(HV.o _).mono ?_;rintro e w1 ⟨rfl,h2⟩;go_wp2_with fail
 refine(HL.o _ h2 _).mono ?_;rintro e w3 ⟨rfl,h3⟩;go_wp2;go_ret;exact⟨rfl,Qb_ h2 h3⟩
theorem Qeb_ (A:OA) (n c:Nat) (l:LI) (w:World) (hn:n<=4096) (hc:n<=c) (a:Hid (l.length=n)) (b:Rd w 1 A n (Qa_ l)):
  Calls prog 160 #[.int .i64 21,.slice A n c] w fun e w'=>e=.returned (.bool (kfB 21 l))/\Below w.heap.size w w':=by
 have HV:=hid (fun c=>Kg_ A n c l w oo a b);have HL:=hid (fun w1 (h:Below w.heap.size w w1) c=>vW_ A n c l w1 oo a (b.next h));have hb:kfB 21 l=l.all (Q6_):=rfl;rw[hb];clear hb b a;generalize l.all Qj_=u at HV;generalize l.all (Q6_)=v at HL |-
 go_enter func160,ntmps160;go_wp2_with fail
 refine(HV.o _).mono ?_;rintro e w1 ⟨rfl,h2⟩;go_wp2_with fail
 refine(HL.o _ h2 _).mono ?_;rintro e w3 ⟨rfl,h3⟩;go_wp2;go_ret;exact⟨rfl,Qb_ h2 h3⟩
theorem QfL_ (A:OA) (n c:Nat) (l:LI) (w:World) (hn:n<=4096) (hc:n<=c) (a:Hid (l.length=n)) (b:Rd w 1 A n (Qa_ l)):
  Calls prog 160 #[.int .i64 22,.slice A n c] w fun e w'=>e=.returned (.bool (kfB 22 l))/\Below w.heap.size w w':=by
 have HV:=hid (fun c=>Kg_ A n c l w oo a b);have HL:=hid (fun w1 (h:Below w.heap.size w w1) c=>Qfe_ A n c l w1 oo a (b.next h));have hb:kfB 22 l=l.all (jU_):=rfl;rw[hb];clear hb b a;generalize l.all Qj_=u at HV;generalize l.all (jU_)=v at HL |-
 go_enter func160,ntmps160;go_wp2_with fail
 refine(HV.o _).mono ?_;rintro e w1 ⟨rfl,h2⟩;go_wp2_with fail
 refine(HL.o _ h2 _).mono ?_;rintro e w3 ⟨rfl,h3⟩;go_wp2;go_ret;exact⟨rfl,Qb_ h2 h3⟩
theorem QfP_ (A:OA) (n c:Nat) (l:LI) (w:World) (hn:n<=4096) (hc:n<=c) (hl:Hid (l.length=n)) (hr:Rd w 1 A n (Qa_ l)) (kind:Int) (hk:¬(1<=kind/\kind<=22)):
  Calls prog 160 #[.int .i64 kind,.slice A n c] w fun e w'=>e=.returned (.bool (kfB kind l))/\Below w.heap.size w w':=by
 have HV:=hid (fun c=>Kg_ A n c l w oo hl hr);have d1:(kind==1)=false:=by rw[beq_eq_false_iff_ne];omega
 have d2:(kind==2)=false:=by rw[beq_eq_false_iff_ne];omega
 have d3:(kind==3)=false:=by rw[beq_eq_false_iff_ne];omega
 have d4:(kind==4)=false:=by rw[beq_eq_false_iff_ne];omega
 have d5:(kind==5)=false:=by rw[beq_eq_false_iff_ne];omega
 have d6:(kind==6)=false:=by rw[beq_eq_false_iff_ne];omega
 have d7:(kind==7)=false:=by rw[beq_eq_false_iff_ne];omega
 have d8:(kind==8)=false:=by rw[beq_eq_false_iff_ne];omega
 have d9:(kind==9)=false:=by rw[beq_eq_false_iff_ne];omega
 have a:(kind==10)=false:=by rw[beq_eq_false_iff_ne];omega
 have b:(kind==11)=false:=by rw[beq_eq_false_iff_ne];omega
 have d:(kind==12)=false:=by rw[beq_eq_false_iff_ne];omega
 have f:(kind==13)=false:=by rw[beq_eq_false_iff_ne];omega
 have g:(kind==14)=false:=by rw[beq_eq_false_iff_ne];omega
 have h:(kind==15)=false:=by rw[beq_eq_false_iff_ne];omega
 have i:(kind==16)=false:=by rw[beq_eq_false_iff_ne];omega
 have j:(kind==17)=false:=by rw[beq_eq_false_iff_ne];omega
 have k:(kind==18)=false:=by rw[beq_eq_false_iff_ne];omega
 have m:(kind==19)=false:=by rw[beq_eq_false_iff_ne];omega
 have o:(kind==20)=false:=by rw[beq_eq_false_iff_ne];omega
 have p:(kind==21)=false:=by rw[beq_eq_false_iff_ne];omega
 have q:(kind==22)=false:=by rw[beq_eq_false_iff_ne];omega
 have hb:kfB kind l=false:=by
  unfold kfB;rw[if_neg oo,if_neg oo,if_neg oo,if_neg oo,if_neg oo,if_neg oo,if_neg oo,if_neg oo,if_neg oo,if_neg oo,if_neg oo,if_neg oo,if_neg oo,if_neg oo,if_neg oo]
 rw[hb];clear hb hr hl hk;generalize l.all Qj_=u at HV;go_enter func160,ntmps160;go_wp2_with (go_at_call 194;refine(HV.o _).mono ?_;rintro e w1 ⟨rfl,h2⟩)
 go_ret;exact⟨rfl,h2⟩
theorem kz_ {l:LI} {n:Nat} (a:l.length=n) (hn:0 < n):∃x r,l=x::r/\l[0]? =some x/\r.length+1=n:=by
 match l,a with
 |[],a=>simp at a;omega
 |x::r,a=>exact⟨x,r,rfl,rfl,by simpa using a⟩
theorem Qaq_ (A:OA) (n c:Nat) (l:LI) (w:World) (hn:n<=4096) (hc:n<=c) (i:Hid (l.length=n)) (g:Rd w 1 A n (Qa_ l)):
  Calls prog 160 #[.int .i64 10,.slice A n c] w fun e w'=>e=.returned (.bool (kfB 10 l))/\Below w.heap.size w w':=by
 have f:=hid (fun c=>Kg_ A n c l w oo i g);have k:kfB 10 l=(decide (2<=n)&&VF_ Qj_ l&&(l.drop 1).all (isK 5)):=by rw[<-i.o];rfl
 rw[k];clear k;by_cases ht:2<=n
 ·rw[decide_eq_true ht,Bool.true_and];obtain⟨x,r,t,hd,z⟩:=kz_ i.o oo;obtain⟨b,off,rfl,y,c0⟩:=Ql_ g oo hd;have o:=hid (JY_ g i.o (oo:n - 1+1=n));have j:=hid (fun(v:Bool) (k:Qj_ x=v) (W:World)=>show Calls prog 119 #[.int .i64 x] W fun e w'=>e=.returned (.bool v)/\W=w' by rw[<-k];exact Zy_ _ W);have s:VF_ Qj_ l=Qj_ x:=by rw[t];rfl
  rw[s];have i1:(2:Int)<=n:=oo;simp only[Nat.add_zero]at c0
  cases m:Qj_ x with
  |false=>
   have d:=hid (j.o _ m);rw[Bool.false_and];clear j m hd g s t o;generalize l.all Qj_=u at f;go_enter func160,ntmps160;go_wp2_with fail
   refine(f.o _).mono ?_;rintro e w1 ⟨rfl,a⟩;obtain⟨p,q⟩:=QE_ a;go_wp2_with (go_at_call 119;refine(d.o _).mono ?_;rintro e w1 ⟨rfl,rfl⟩)
   go_ret;exact⟨rfl,a⟩
  |true=>
   have d:=hid (j.o _ m);rw[Bool.true_and];have HL:=hid (fun w1 (h:Below w.heap.size w w1) c=>QdK_ (some ⟨b,off+1,none⟩) (n - 1) c (l.drop 1) w1 oo (hid (by rw[List.length_drop,i.o])) (o.o.next h));have e1:(n:Int) - 1=((n - 1:Nat):Int):=oo;clear j m hd g s t o;generalize l.all Qj_=u at f;generalize (l.drop 1).all (isK 5)=v at HL |-
   go_enter func160,ntmps160;go_wp2_with fail
   refine(f.o _).mono ?_;rintro e w1 ⟨rfl,a⟩;obtain⟨p,q⟩:=QE_ a;go_wp2_with fail
   refine(d.o _).mono ?_;rintro e w1 ⟨rfl,rfl⟩;go_wp2_with fail
   refine(HL.o _ a _).mono ?_;rintro e w3 ⟨rfl,h3⟩;go_wp2;go_ret;exact⟨rfl,Qb_ a h3⟩
 ·rw[decide_eq_false ht,Bool.false_and,Bool.false_and];have i1:¬(2:Int)<=n:=oo;clear g;generalize l.all Qj_=u at f;go_enter func160,ntmps160;go_wp2_with (go_at_call 194;refine(f.o _).mono ?_;rintro e w1 ⟨rfl,a⟩)
  go_ret;exact⟨rfl,a⟩
theorem QhC_ (A:OA) (n c:Nat) (l:LI) (w:World) (hn:n<=4096) (hc:n<=c) (i:Hid (l.length=n)) (g:Rd w 1 A n (Qa_ l)):
  Calls prog 160 #[.int .i64 16,.slice A n c] w fun e w'=>e=.returned (.bool (kfB 16 l))/\Below w.heap.size w w':=by
 have f:=hid (fun c=>Kg_ A n c l w oo i g);have m:kfB 16 l=(decide (2<=n/\n<=3)&&VF_ Qj_ l&&(l.drop 1).all (isK 18)):=by rw[<-i.o];rfl
 rw[m];clear m;by_cases ht:2<=n/\n<=3
 ·rw[decide_eq_true ht,Bool.true_and];obtain⟨x,r,y,hd,B⟩:=kz_ i.o oo;obtain⟨b,off,rfl,z,c0⟩:=Ql_ g oo hd;have p:=hid (JY_ g i.o (oo:n - 1+1=n));have j:=hid (fun(v:Bool) (m:Qj_ x=v) (W:World)=>show Calls prog 119 #[.int .i64 x] W fun e w'=>e=.returned (.bool v)/\W=w' by rw[<-m];exact Zy_ _ W);have t:VF_ Qj_ l=Qj_ x:=by rw[y];rfl
  rw[t];have k:=hid (fun W=>Vo_ (show inB (n:Int) 2 3=true from decide_eq_true oo) W);simp only[Nat.add_zero]at c0
  cases o:Qj_ x with
  |false=>
   have d:=hid (j.o _ o);rw[Bool.false_and];clear j o hd g t y p;generalize l.all Qj_=u at f;go_enter func160,ntmps160;go_wp2_with fail
   refine(f.o _).mono ?_;rintro e w1 ⟨rfl,a⟩;obtain⟨q,s⟩:=QE_ a;go_wp2_with fail
   refine(k.o _).mono ?_;rintro e w5 ⟨rfl,rfl⟩;go_wp2_with fail
   refine(d.o _).mono ?_;rintro e w1 ⟨rfl,rfl⟩;go_wp2;go_ret;exact⟨rfl,a⟩
  |true=>
   have d:=hid (j.o _ o);rw[Bool.true_and];have HL:=hid (fun w1 (h:Below w.heap.size w w1) c=>QbH_ (some ⟨b,off+1,none⟩) (n - 1) c (l.drop 1) w1 oo (hid (by rw[List.length_drop,i.o])) (p.o.next h));have e1:(n:Int) - 1=((n - 1:Nat):Int):=oo;clear j o hd g t y p;generalize l.all Qj_=u at f;generalize (l.drop 1).all (isK 18)=v at HL |-
   go_enter func160,ntmps160;go_wp2_with fail
   refine(f.o _).mono ?_;rintro e w1 ⟨rfl,a⟩;obtain⟨q,s⟩:=QE_ a;go_wp2_with fail
   refine(k.o _).mono ?_;rintro e w5 ⟨rfl,rfl⟩;go_wp2_with fail
   refine(d.o _).mono ?_;rintro e w1 ⟨rfl,rfl⟩;go_wp2_with fail
   refine(HL.o _ a _).mono ?_;rintro e w3 ⟨rfl,h3⟩;go_wp2;go_ret;exact⟨rfl,Qb_ a h3⟩
 ·rw[decide_eq_false ht,Bool.false_and,Bool.false_and];have k:=hid (fun W=>Vo_ (show inB (n:Int) 2 3=false from decide_eq_false oo) W);clear g;generalize l.all Qj_=u at f;go_enter func160,ntmps160;go_wp2_with fail
  refine(f.o _).mono ?_;rintro e w1 ⟨rfl,a⟩;go_wp2_with fail
  refine(k.o _).mono ?_;rintro e w5 ⟨rfl,rfl⟩;go_wp2;go_ret;exact⟨rfl,a⟩
theorem Qed_ (A:OA) (n c:Nat) (l:LI) (w:World) (hn:n<=4096) (hc:n<=c) (t:Hid (l.length=n)) (g:Rd w 1 A n (Qa_ l)):
  Calls prog 160 #[.int .i64 17,.slice A n c] w fun e w'=>e=.returned (.bool (kfB 17 l))/\Below w.heap.size w w':=by
 have f:=hid (fun c=>Kg_ A n c l w oo t g);have j:kfB 17 l=(decide (n=2)&&VF_ Qj_ l&&(l.drop 1).all (isK 18)):=by rw[<-t.o];rfl
 rw[j];clear j;by_cases z:n=2
 ·rw[decide_eq_true z,Bool.true_and];obtain rfl:n=2:=z;obtain⟨x,y,h⟩:∃x y,l=[x,y]:=by
   match l,t.o with
   |[x,y],_=>exact⟨x,y,rfl⟩
  obtain⟨b,off,rfl,B,c0⟩:=Ql_ (k:=0) (x:=x) g oo (by rw[h];rfl);obtain⟨b',C,o,p,c1⟩:=Ql_ (k:=1) (x:=y) g oo (by rw[h];rfl);injection o with o;injection o with e41 e42;subst e41;subst e42;have i:=hid (fun(v:Bool) (j:Qj_ x=v) (W:World)=>show Calls prog 119 #[.int .i64 x] W fun e w'=>e=.returned (.bool v)/\W=w' by rw[<-j];exact Zy_ _ W);have HB:=hid (fun(W:World)=>V7_ y W);have s:(VF_ Qj_ l&&(l.drop 1).all (isK 18))=(Qj_ x&&isK 18 y):=by rw[h];simp[VF_]
  rw[s];simp only[Nat.add_zero]at c0
  cases m:Qj_ x with
  |false=>
   have a:=hid (i.o _ m);rw[Bool.false_and];clear i m g s h;generalize l.all Qj_=u at f;go_enter func160,ntmps160;go_wp2_with fail
   refine(f.o _).mono ?_;rintro e w1 ⟨rfl,d⟩;obtain⟨q,r⟩:=QE_ d;go_wp2_with fail
   refine(a.o _).mono ?_;rintro e w1 ⟨rfl,rfl⟩;go_wp2;go_ret;exact⟨rfl,d⟩
  |true=>
   have a:=hid (i.o _ m);rw[Bool.true_and];clear i m g s h;generalize l.all Qj_=u at f;generalize isK 18 y=v at HB |-
   go_enter func160,ntmps160;go_wp2_with fail
   refine(f.o _).mono ?_;rintro e w1 ⟨rfl,d⟩;obtain⟨q,r⟩:=QE_ d;go_wp2_with fail
   refine(a.o _).mono ?_;rintro e w1 ⟨rfl,rfl⟩;go_wp2_with fail
   refine(HB.o _).mono ?_;rintro e w1 ⟨rfl,rfl⟩;go_wp2;go_ret;exact⟨rfl,d⟩
 ·rw[decide_eq_false z,Bool.false_and,Bool.false_and];have i1:((n:Int)==2)=false:=by rw[beq_eq_false_iff_ne];omega
  clear g;generalize l.all Qj_=u at f;go_enter func160,ntmps160;go_wp2_with fail
  refine(f.o _).mono ?_;rintro e w1 ⟨rfl,d⟩;go_wp2;go_ret;exact⟨rfl,d⟩
theorem kS_ (kind:Int) (A:OA) (n c:Nat) (l:LI) (w:World) (d:n<=4096) (a:n<=c) (b:Hid (l.length=n)) (f:Rd w 1 A n (Qa_ l)):
  Calls prog 160 #[.int .i64 kind,.slice A n c] w fun e w'=>e=.returned (.bool (kfB kind l))/\Below w.heap.size w w':=by
 by_cases h:1<=kind/\kind<=22
 ·have h2:kind=1\/kind=2\/kind=3\/kind=4\/kind=5\/kind=6\/kind=7\/kind=8\/kind=9\/kind=10\/kind=11\/kind=12\/kind=13\/kind=14\/kind=15\/kind=16\/kind=17\/kind=18\/kind=19\/kind=20\/kind=21\/kind=22:=oo;rcases h2 with rfl|rfl|rfl|rfl|rfl|rfl|rfl|rfl|rfl|rfl|rfl|rfl|rfl|rfl|rfl|rfl|rfl|rfl|rfl|rfl|rfl|rfl
  ·exact qx_ A n c l w d a b f 1 oo
  ·exact qx_ A n c l w d a b f 2 oo
  ·exact qx_ A n c l w d a b f 3 oo
  ·exact QfN_ A n c l w d a b f
  ·exact QfK_ A n c l w d a b f 5 oo
  ·exact vu_ A n c l w d a b f 6 oo
  ·exact Qea_ A n c l w d a b f 7 oo
  ·exact QfO_ A n c l w d a b f 8 oo
  ·exact QhB_ A n c l w d a b f
  ·exact Qaq_ A n c l w d a b f
  ·exact vu_ A n c l w d a b f 11 oo
  ·exact Qe2_ A n c l w d a b f 12 oo
  ·exact vu_ A n c l w d a b f 13 oo
  ·exact vu_ A n c l w d a b f 14 oo
  ·exact Qe2_ A n c l w d a b f 15 oo
  ·exact QhC_ A n c l w d a b f
  ·exact Qed_ A n c l w d a b f
  ·exact Qd9_ A n c l w d a b f
  ·exact qx_ A n c l w d a b f 19 oo
  ·exact Qck_ A n c l w d a b f
  ·exact Qeb_ A n c l w d a b f
  ·exact QfL_ A n c l w d a b f
 ·exact QfP_ A n c l w d a b f kind h
def Qs_ (ps:List PN) (j:Int):Int:=match ps[j.toNat]? with|some z=>z.kind|none=>0
theorem QR_ {ps:List PN} {j:Nat} {z:PN} (h:ps[j]? =some z):Qs_ ps (j:Int)=z.kind:=by unfold Qs_;rw[Int.toNat_natCast,h]
def Zm_ (ps:List PN) (kind:Int) (i:Nat) (kid:Int):Bool:=
 match ps[kid.toNat]? with
 |some y=>if y.kind=5 then (match y.kids with|[]=>false|j::_=>inB j 0 ((ps.length:Int) - 1)&&(!(kind==10&&decide (0 < i))||Qs_ ps j==1))else true
 |none=>false
section
variable {ps:List PN} {kind:Int} {i k:Nat} {y z:PN} {j:Int} {js:LI}
theorem ki_ (h:ps[k]? =some y) (h5:¬y.kind=5):Zm_ ps kind i (k:Int)=true:=by unfold Zm_;rw[Int.toNat_natCast,h];simp only;rw[if_neg h5]
theorem xY_ (h:ps[k]? =some y) (h5:y.kind=5) (hk:y.kids=[]):Zm_ ps kind i (k:Int)=false:=by unfold Zm_;rw[Int.toNat_natCast,h];simp only;rw[if_pos h5,hk]
theorem v0_ (h:ps[k]? =some y) (h5:y.kind=5) (hk:y.kids=j::js) (hj:inB j 0 ((ps.length:Int) - 1)=false):Zm_ ps kind i (k:Int)=false:=by unfold Zm_;rw[Int.toNat_natCast,h];simp only;rw[if_pos h5,hk];simp only;rw[hj,Bool.false_and]
theorem QbO_ (h:ps[k]? =some y) (h5:y.kind=5) (hk:y.kids=j::js) (hj:inB j 0 ((ps.length:Int) - 1)=true):Zm_ ps kind i (k:Int)=(!(kind==10&&decide (0 < i))||Qs_ ps j==1):=by unfold Zm_;rw[Int.toNat_natCast,h];simp only;rw[if_pos h5,hk];simp only;rw[hj,Bool.true_and]
end
def Q4_ (p:Nat->Int->Bool) (l:LI):Bool:=l.zipIdx.all (fun q=>p q.2 q.1)
theorem Zv_ {p:Nat->Int->Bool} {l:LI} {k:Nat} {x:Int} (hx:l[k]? =some x) (hp:p k x=false):Q4_ p l=false:=by
 unfold Q4_;rw[List.all_eq_false];exact⟨(x,k),by rw[List.mem_zipIdx_iff_getElem?];exact hx,by simp[hp]⟩
theorem XA_ {p:Nat->Int->Bool} {l:LI} (h:∀j x,l[j]? =some x->p j x=true):Q4_ p l=true:=by
 unfold Q4_;rw[List.all_eq_true];rintro⟨x,j⟩ hm;rw[List.mem_zipIdx_iff_getElem?]at hm;exact h j x hm
theorem Z3_ {p:Nat->Int->Bool} {l:LI} {k:Nat} {x:Int} (h:Q4_ p l=true) (hx:l[k]? =some x):p k x=true:=by
 cases hp:p k x with
 |true=>rfl
 |false=>rw[Zv_ hx hp]at h;cases h
theorem xT_ {p q:Nat->Int->Bool} {l:LI} (h:∀j x,l[j]? =some x->p j x=q j x):Q4_ p l=Q4_ q l:=by
 cases b:Q4_ q l with
 |true=>exact XA_ (fun j x a=>by rw[h j x a];exact Z3_ b a)
 |false=>
  cases hp:Q4_ p l with
  |false=>rfl
  |true=>rw[XA_ (fun j x a=>by rw[<-h j x a];exact Z3_ hp a)]at b;cases b
def AllI (p:Nat->Int->Bool) (l:LI) (k:Nat):Prop:=∀j x,j < k->l[j]? =some x->p j x=true
theorem Jn_ (p:Nat->Int->Bool) (l:LI):AllI p l 0:=fun j x h=>absurd h oo
theorem XB_ {p:Nat->Int->Bool} {l:LI} {k:Nat} {x:Int} (h:AllI p l k) (hx:l[k]? =some x) (hp:p k x=true):AllI p l (k+1):=by
 intro j y hj a;by_cases e:j=k
 ·subst e;rw[hx]at a;obtain rfl:=Option.some.inj a;exact hp
 ·exact h j y oo a
theorem Ut_ {p:Nat->Int->Bool} {l:LI} {k:Nat} (h:AllI p l k) (hk:l.length<=k):Q4_ p l=true:=
 XA_ (fun j x hx=>h j x (by have:=(List.getElem?_eq_some_iff.1 hx).1;omega) hx)
def Yd_ (ps:List PN) (kind:Int) (kids:LI):Bool:=Q4_ (Zm_ ps kind) kids
theorem Qao_ (A:OA) (n c:Nat) (j:Int) (w:World):Calls prog 126 #[.slice A n c,.int .i64 j] w fun e w'=>e=.returned (.bool (inB j 0 ((n:Int) - 1)))/\w=w':=by
 by_cases h0:0<=j
 ·by_cases h1:j < n
  ·rw[x4_ h0 oo];go_enter func126,ntmps126;go_wp2;go_ret;exact⟨rfl,rfl⟩
  ·rw[vp_ oo];go_enter func126,ntmps126;go_wp2;go_ret;exact⟨rfl,rfl⟩
 ·rw[Qce_ h0];go_enter func126,ntmps126;go_wp2;go_ret;exact⟨rfl,rfl⟩
theorem Y4_ {n:Nat} {j:Int} {v:Bool} (h:inB j 0 ((n:Int) - 1)=v) (A:OA) (c:Nat) (w:World):Calls prog 126 #[.slice A n c,.int .i64 j] w fun e w'=>e=.returned (.bool v)/\w=w':=by rw[<-h];exact Qao_ A n c j w
theorem kj_ (A:OA) (n c:Nat) (ps:List PN) (kind:Int) (text:BA) (kids:LI) (z:Bool) (A':OA) (m c':Nat) (w:World) (hn:n<=1048576) (hm:m<=1048576) (H:Nps w A n ps) (P:Hid (kids.length=m)) (hk:Rd w 1 A' m (Qa_ kids)) (ab:Hid (∀x∈kids,0<=x/\x < (n:Int))) (hb:Hid (∀p∈ps,p.kids.length<=1048576)):
  Calls prog 161 #[.slice A n c,.agg #[.int .i64 kind,.string text,.slice A' m c',.bool z]] w fun e w'=>e=.returned (.bool (Yd_ ps kind kids))/\Below w.heap.size w w':=by
 have V:=hid H;have HK:=hid hk;have HL:=hid H.len;have M:=Blk.new w 36 #[.int .i64 kind,.string text,.slice A' m c',.bool z];clear H hk;go_enter func161,ntmps161;go_wp2;go_loopw [11] (fun i wr=>∃k:Nat,k<=m/\Hid (AllI (Zm_ ps kind) kids k)/\i=.int .i64 k/\Blk wr w.heap.size 36 #[.int .i64 kind,.string text,.slice A' m c',.bool z]/\Below w.heap.size w wr) (fun i _=>m - (intOf i).toNat)
 case atStart=>exact⟨0,Nat.zero_le _,Jn_ _ kids,rfl,M,grow_⟩
 case round=>
  clear M;obtain⟨k,al,B,rfl,K,F⟩:=hrel;have k0:=K.cell 0;simp only[List.getElem?_toArray,List.getElem?_cons_zero]at k0;have kz:=K.lt;by_cases ad:k < m
  ·obtain⟨x,hd⟩:∃d,kids[k]? =some d:=⟨_,gE (by have:=P.o;omega)⟩;have hx:=ab.o x (List.mem_of_getElem? hd);obtain⟨q,rfl⟩:=Int.eq_ofNat_of_zero_le hx.1;have Q:q < n:=oo;have g0:(0:Int)<=(q:Int):=oo;have g1:(q:Int) < n:=oo;obtain⟨b,off,rfl,ah,cx⟩:=Ql_ (HK.o.below F) ad hd;obtain⟨y,t⟩:=V.o.get Q;obtain⟨b2,T,A2,c2,rfl,Y,y0,y1,y2,y3,C⟩:=(V.o.below F).at_ Q t;have am:=hb.o y (List.mem_of_getElem? t);clear hx;by_cases J:y.kind=5
   ·have e5:(y.kind==5)=true:=by rw[beq_iff_eq];exact J
    cases a:y.kids with
    |nil=>
     have l:=hid (Zv_ (p:=Zm_ ps kind) hd (xY_ t J a));rw[a]at y2;clear B hd t C;go_wp2;go_ret;exact⟨Qx_ (by unfold Yd_;exact l.o.symm),grow_⟩
    |cons j js=>
     have ae:0 < y.kids.length:=(by rw[a];simp);have ac:y.kids[0]? =some j:=(by rw[a];rfl);obtain⟨b3,ai,rfl,Z,cj⟩:=Ql_ C ae ac;simp only[Nat.add_zero]at cj;have i1:((y.kids.length:Int)==0)=false:=(by rw[beq_eq_false_iff_ne];omega);have i2:(0:Int) < y.kids.length:=oo;have U:=hid (fun(v:Bool) (h:inB j 0 ((n:Int) - 1)=v) c W=>Y4_ (n:=n) h (some ⟨b2,T,none⟩) c W)
     cases g:inB j 0 ((n:Int) - 1)with
     |false=>
      have l:=hid (Zv_ (p:=Zm_ ps kind) hd (v0_ (kind:=kind) (i:=k) t J a (by rw[HL.o];exact g)));have o:=hid (U.o _ g);clear B hd t C U g a;go_wp2_with (go_at_call 126;refine(o.o _ _).mono ?_;rintro e w1 ⟨rfl,rfl⟩)
      go_ret;exact⟨Qx_ (by unfold Yd_;exact l.o.symm),grow_⟩
     |true=>
      have f:=QbO_ (kind:=kind) (i:=k) t J a (by rw[HL.o];exact g);have o:=hid (U.o _ g);have N:=of_decide_eq_true g;obtain⟨r,rfl⟩:=Int.eq_ofNat_of_zero_le N.1;have R:r < n:=oo;have g2:(0:Int)<=(r:Int):=oo;have g3:(r:Int) < n:=oo;obtain⟨zz,I⟩:=V.o.get R;obtain⟨b4,aj,A4,c4,X,aa,z0,z1,z2,z3,af⟩:=(V.o.below F).at_ R I;injection X with X;injection X with e41 e42;subst e41;subst e42;rw[QR_ I]at f;clear I af z1 z2 z3 N U C g;by_cases E:kind=10/\0 < k
      ·obtain⟨O,G⟩:=E;subst O;have ik:(0:Int) < (k:Int):=oo;rw[show((10:Int)==10)=true from rfl,decide_eq_true G]at f
       cases D:(zz.kind==1)with
       |true=>
        have s:=hid (XB_ (p:=Zm_ ps 10) B.o hd (by rw[f,D];rfl));clear B hd t f a;have S:(zz.kind != 1)=false:=(by unfold bne;rw[D];rfl);go_wp2_with (go_at_call 126;refine(o.o _ _).mono ?_;rintro e w1 ⟨rfl,rfl⟩)
        go_roundw
        case rel=>exact⟨k+1,oo,s,by go_num,K.alloc _,grow_⟩
        case measure=>simp[intOf];omega
       |false=>
        have l:=hid (Zv_ (p:=Zm_ ps 10) hd (by rw[f,D];rfl));clear B hd t f a;have S:(zz.kind != 1)=true:=(by unfold bne;rw[D];rfl);go_wp2_with (go_at_call 126;refine(o.o _ _).mono ?_;rintro e w1 ⟨rfl,rfl⟩)
        go_ret;exact⟨Qx_ (by unfold Yd_;exact l.o.symm),grow_⟩
      ·have s:=hid (XB_ (p:=Zm_ ps kind) B.o hd (by
        rw[f];by_cases h1:kind=10
        ·rw[decide_eq_false (show ¬0 < k from fun h=>E ⟨h1,h⟩),Bool.and_false];rfl
        ·rw[show(kind==10)=false by rw[beq_eq_false_iff_ne];exact h1];rfl))
       clear B hd t f a;by_cases L:kind=10
       ·subst L;have ik:¬(0:Int) < (k:Int):=oo;go_wp2_with (go_at_call 126;refine(o.o _ _).mono ?_;rintro e w1 ⟨rfl,rfl⟩)
        go_roundw
        case rel=>exact⟨k+1,oo,s,by go_num,K.alloc _,grow_⟩
        case measure=>simp[intOf];omega
       ·have an:(kind==10)=false:=(by rw[beq_eq_false_iff_ne];exact L);go_wp2_with (go_at_call 126;refine(o.o _ _).mono ?_;rintro e w1 ⟨rfl,rfl⟩)
        go_roundw
        case rel=>exact⟨k+1,oo,s,by go_num,K.alloc _,grow_⟩
        case measure=>simp[intOf];omega
   ·have e5:(y.kind==5)=false:=(by rw[beq_eq_false_iff_ne];exact J);have ak:(y.kind != 5)=true:=(by unfold bne;rw[e5];rfl);have s:=hid (XB_ (p:=Zm_ ps kind) B.o hd (ki_ t J));clear B hd t C;go_wp2;go_roundw
    case rel=>exact⟨k+1,oo,s,by go_num,K.alloc _,grow_⟩
    case measure=>simp[intOf];omega
  ·have l:=hid (Ut_ B.o (by have:=P.o;omega));clear B;go_wp2;go_ret;exact⟨Qx_ (by unfold Yd_;exact l.o.symm),grow_⟩
end Go.Proofs.YtgbikafalcbibaaGreatDoor

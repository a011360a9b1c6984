/-
  Put together by program (shake.py):TellNb,TellQ,TellNc.
-/
import Derived.Test.YtgbikafalcbibaaGreatDoorMaH
set_option maxRecDepth 100000
set_option linter.all false
set_option maxHeartbeats 25600000
open Go.Lib (hid)
open Go.Proofs.Tryz
namespace Go.Proofs.YtgbikafalcbibaaGreatDoor
open Go.RowKit
theorem QgY_ (T Sb:Nat) (A:OA) (n c:Nat) (w0 w:World) (ps:List PN) (f:Nat) (kd:Int) (text:BA) (A':OA) (m c':Nat) (z:Bool) (l:LI) (es:List Ev) (s fin:TS) (hN:Yt_ 85 76 T Sb A n c w0 ps f) (h:TL 76 T Sb A n c w0 s w) (i:Rd w0 1 A' m (Qa_ l)) (g:l.length=m) (hm:m<=12) (j:m<=c') (hv:Hid (∀v∈l,0<=v/\v < (f:Int)/\v < (n:Int))) (hk:12<=kd/\kd<=22) (hF:EvF text kd l m es) (e:LeftE (Qn_ ps f) s es fin):
  Calls prog 121 #[.pointer (some ⟨T,0,none⟩),.agg #[.int .i64 kd,.string text,.slice A' m c',.bool z]] w (Xy_ 76 T Sb A n c w0 w fin):=by
 have H:=At.new (kd:=kd) (text:=text) (c':=c') (z:=z) (A':=A') h (Kp.refl T Sb w) e hN hv.o i g hm;have zT:=h.blkT;have zS:=h.blkS
 cases hF
 all_goals first|(exfalso;omega)|skip
 case k19=>exact QhA_ T Sb A n c w0 w ps f text A' 0 c' z s fin h e
 all_goals
  first|(have ha:=qS_ i g oo;obtain⟨b5,k,rfl⟩:=ha)|skip
  clear h e hN hv i g;unfold Xy_
  first|obtain⟨a,b,d⟩:=At.kc3 H|obtain⟨a,b,d⟩:=At.kc2 H|obtain⟨a,b,d⟩:=At.kc1 H|obtain⟨a,b,d⟩:=At.kcl H|skip
  go_enter func121,ntmps121
  repeat
   go_wp2_with fail
   first
   |(go_at_call 85;refine At.one H ?_)
   |(go_at_call 151;refine At.iword H ?_)
   |(go_at_call 152;refine At.imark H ?_)
   |(go_at_call 154;refine At.ieach H ?_)
   |(go_at_call 153;refine At.ilist H H.o.hl H.o.hm H.o.hr (fun v h=>h) ?_)
   |(go_at_call 153;refine At.ilist H (Nat.succ.inj H.o.hl) (Nat.le_of_succ_le H.o.hm) (JY_ H.o.hr H.o.hl oo) (fun v h=>List.mem_cons_of_mem _ h) ?_)
   |(go_at_call 153;refine At.ilist (l2:=[]) H rfl (by decide) (Rd.none_ _ _ _) (fun v h=>absurd h (by simp)) ?_)
   |(go_at_call 153;refine At.ilist H (JP_ H.o.hl) (Nat.le_of_succ_le H.o.hm) (UH_ H.o.hr H.o.hl) (fun v h=>List.mem_append_left _ h) ?_)
   try clear k0 k1 k2 k3 kz zT zS
   try clear a b d
   intro W1 s1 H1;clear H;have H:=H1;clear H1;obtain⟨k0,k1,k2,k3,kz,zT,zS⟩:=At.facts H
   first|obtain⟨a,b,d⟩:=At.kc3 H|obtain⟨a,b,d⟩:=At.kc2 H|obtain⟨a,b,d⟩:=At.kc1 H|obtain⟨a,b,d⟩:=At.kcl H|skip
  go_wp2;go_end0;exact⟨rfl,(At.fin_ H).1,(At.fin_ H).2⟩
theorem sv_7 (T Sb:Nat) (A:OA) (n c:Nat) (w0 w:World) (ps:List PN) (f:Nat) (text:BA) (A':OA) (c':Nat) (z:Bool) (s fin:TS) (m:Nat) (l:LI) (hl:Hid (l.length=m)) (al:2<=m) (hm:m<=12) (hN:Yt_ 80 97 T Sb A n c w0 ps f) (h:TL 97 T Sb A n c w0 s w) (hr:Rd w0 1 A' m (Qa_ l)) (aj:m<=c') (hv:Hid (∀v∈l,0<=v/\v < (f:Int)/\v < (n:Int))) (hL:LeftE (Qn_ ps f) s (KG_ text l) fin):
  Calls prog 114 #[.pointer (some ⟨T,0,none⟩),.agg #[.int .i64 7,.string text,.slice A' m c',.bool z]] w (Xy_ 97 T Sb A n c w0 w fin):=by
 unfold Xy_;obtain⟨x0,G⟩:∃x,l[0]? =some x:=⟨_,gE (by have:=hl.o;omega)⟩;obtain⟨U,o,rfl,ak,_⟩:=Ql_ hr oo G;have I:=hid (fun(W:World) (hW:Below w0.heap.size w0 W) (j:Nat) (v:Int) (hj:j < m) (hd:l[j]? =some v)=>z8_ (hr.below hW) hj hd);obtain⟨g,rfl⟩:∃g,m=g+1:=⟨m - 1,oo⟩;have em:((g+1:Nat):Int) - 1=(g:Int):=oo;have HN:=hid hN;have p:Ki_ (Qn_ ps f) s (KG_ text l)=fin:=hL.2.1;have y:=hL.2.2;have HS:=hid (fun i=>(show(Ki_ (Qn_ ps f) s (KG_ text (l.take i))).1.length<=1000000 by
  obtain⟨fs,af⟩:=UI_ text l i;rw[<-p,af]at y;exact XQ_ (QH_ ps f) y))
 have HF:=hid p;have K:=Blk.new w 36 #[.int .i64 7,.string text,.slice (some ⟨U,o,none⟩) (g+1) c',.bool z];have P:Kp T Sb w (w.alloc (.cells #[.int .i64 7,.string text,.slice (some ⟨U,o,none⟩) (g+1) c',.bool z] 36)):=(Kp.refl T Sb w).alloc _;have V:=hid (h.alloc (.cells #[.int .i64 7,.string text,.slice (some ⟨U,o,none⟩) (g+1) c',.bool z] 36));have zT:=h.blkT;have zS:=h.blkS;have gT:w.heap.size≠T:=oo;have gS:w.heap.size≠Sb:=oo;have X:=hid G;clear hN h hr hL p y G;go_enter func114,ntmps114;go_wp2;go_loopw [5] (fun j wr=>∃i:Nat,i<=g+1/\j=.int .i64 i/\TL 97 T Sb A n c w0 (Ki_ (Qn_ ps f) s (KG_ text (l.take i))) wr/\Kp T Sb w wr/\Blk wr w.heap.size 36 #[.int .i64 7,.string text,.slice (some ⟨U,o,none⟩) (g+1) c',.bool z]) (fun j _=>g+1 - (intOf j).toNat)
 case atStart=>exact⟨0,Nat.zero_le _,rfl,by simpa[Ki_,KG_]using V.o,P,K⟩
 case round=>
  clear K P V X;obtain⟨i,hi,rfl,B,D,H⟩:=hrel;have k0:=H.q0;have k1:=H.q1;have k2:=H.q2;have kz:=H.lt;by_cases am:i < g+1
  ·have ad:(i:Int)<=(g:Int):=oo;obtain⟨v,hd⟩:∃d,l[i]? =some d:=⟨_,gE (by have:=hl.o;omega)⟩;have S:=hv.o v (List.mem_of_getElem? hd);obtain⟨q,rfl⟩:=Int.eq_ofNat_of_zero_le S.1;have O:q < f:=oo;have Q:q < n:=oo;have gi:(i:Int) < (g:Int)+1:=oo;have HD:=hid hd;have k:=hid B;have C:=hid D;have J:=hid H;have a:=HS.o (i+1);have E:=hid (J2_ (mk:=text) hd);clear S hd B D H;by_cases L:0 < i
   ·have M:(0:Int) < i:=oo;have b:=hid (show Ki_ (Qn_ ps f) s (KG_ text (l.take (i+1)))=Qn_ ps f q (GI_ (Ki_ (Qn_ ps f) s (KG_ text (l.take i))) (4,text))by
     rw[E.o,if_pos L,ZL_];rfl)
    rw[b.o]at a;have t:(Ki_ (Qn_ ps f) s (KG_ text (l.take i))).1.length<=1000000:=HS.o i;generalize Ki_ (Qn_ ps f) s (KG_ text (l.take i))=SI at k b a t;clear E;have HM:=hid (fun(W:World) (V:TL 97 T Sb A n c w0 SI W)=>ZE_ T Sb A n c w0 W SI text V t);go_wp2_with fail
    refine(HM.o _ k.o).mono ?_;rintro e w2 ⟨rfl,R,N⟩;have Y:=J.o.kp N gT gS (by decide);have cv:=I.o _ R.below i (q:Int) oo HD.o;have ag:=C.o.trans N;clear k0 k1 k2 kz;have k2:=Y.q2;have kz:=Y.lt;go_wp2_with fail
    refine(HN.o q _ _ O Q R a).mono ?_;rintro e w3 ⟨rfl,F,r⟩;have Z:=Y.kp r gT gS (by decide);go_wp2;go_roundw
    case rel=>exact⟨i+1,oo,by go_num,(by rw[b.o];exact F),ag.trans r,Z⟩
    case measure=>simp[intOf];omega
   ·have M:¬(0:Int) < i:=oo;have b:=hid (show Ki_ (Qn_ ps f) s (KG_ text (l.take (i+1)))=Qn_ ps f q (Ki_ (Qn_ ps f) s (KG_ text (l.take i)))by
     rw[E.o,if_neg L,ZL_];rfl)
    rw[b.o]at a;have cv:=I.o _ k.o.below i (q:Int) oo HD.o;generalize Ki_ (Qn_ ps f) s (KG_ text (l.take i))=SI at k b a;clear E;go_wp2_with fail
    refine(HN.o q _ _ O Q k.o a).mono ?_;rintro e w3 ⟨rfl,F,r⟩;have Z:=J.o.kp r gT gS (by decide);go_wp2;go_roundw
    case rel=>exact⟨i+1,oo,by go_num,(by rw[b.o];exact F),C.o.trans r,Z⟩
    case measure=>simp[intOf];omega
  ·obtain rfl:i=g+1:=oo;rw[show l.take (g+1)=l by rw[List.take_of_length_le (by have:=hl.o;omega)],HF.o]at B;have ad:¬(((g+1:Nat):Int)<=(g:Int)):=oo;have k:=hid B;have C:=hid D;clear B D;go_wp2;go_end0;exact⟨rfl,k.o,C.o⟩
theorem QhI_ (T Sb:Nat) (A:OA) (n c:Nat) (w0 w:World) (ps:List PN) (f:Nat) (text:BA) (A':OA) (c':Nat) (z:Bool) (s fin:TS) (m:Nat) (l:LI) (hl:Hid (l.length=m)) (aA:2<=m) (hm:m<=12) (hN:Yt_ 80 97 T Sb A n c w0 ps f) (h:TL 97 T Sb A n c w0 s w) (hr:Rd w0 1 A' m (Qa_ l)) (ay:m<=c') (hv:Hid (∀v∈l,0<=v/\v < (f:Int)/\v < (n:Int))) (hL:LeftE (Qn_ ps f) s (KG_ ⟨#[46,46]⟩ l) fin):
  Calls prog 114 #[.pointer (some ⟨T,0,none⟩),.agg #[.int .i64 10,.string text,.slice A' m c',.bool z]] w (Xy_ 97 T Sb A n c w0 w fin):=by
 unfold Xy_;obtain⟨x0,I⟩:∃x,l[0]? =some x:=⟨_,gE (by have:=hl.o;omega)⟩;obtain⟨Z,k,rfl,az,_⟩:=Ql_ hr oo I;have M:=hid (fun(W:World) (hW:Below w0.heap.size w0 W) (j:Nat) (v:Int) (hj:j < m) (hd:l[j]? =some v)=>z8_ (hr.below hW) hj hd);obtain⟨a,rfl⟩:∃a,m=a+1:=⟨m - 1,oo⟩;have em:((a+1:Nat):Int) - 1=(a:Int):=oo;have HN:=hid hN;have p:Ki_ (Qn_ ps f) s (KG_ ⟨#[46,46]⟩ l)=fin:=hL.2.1;have t:=hL.2.2;have HS:=hid (fun i=>(show(Ki_ (Qn_ ps f) s (KG_ ⟨#[46,46]⟩ (l.take i))).1.length<=1000000 by
  obtain⟨fs,aj⟩:=UI_ ⟨#[46,46]⟩ l i;rw[<-p,aj]at t;exact XQ_ (QH_ ps f) t))
 have HF:=hid p;have K:=Blk.new w 36 #[.int .i64 10,.string text,.slice (some ⟨Z,k,none⟩) (a+1) c',.bool z];have P:Kp T Sb w (w.alloc (.cells #[.int .i64 10,.string text,.slice (some ⟨Z,k,none⟩) (a+1) c',.bool z] 36)):=(Kp.refl T Sb w).alloc _;have V:=hid (h.alloc (.cells #[.int .i64 10,.string text,.slice (some ⟨Z,k,none⟩) (a+1) c',.bool z] 36));have zT:=h.blkT;have zS:=h.blkS;have gT:w.heap.size≠T:=oo;have gS:w.heap.size≠Sb:=oo;have E:=hid I;clear hN h hr hL p t I;have X:=hv.o x0 (List.mem_of_getElem? E.o);obtain⟨q0,rfl⟩:=Int.eq_ofNat_of_zero_le X.1;have R:q0 < f:=oo;have S:q0 < n:=oo;have O:=M.o _ V.o.below 0 (q0:Int) oo E.o;simp only[Nat.add_zero]at O;have y:l.take 1=[(q0:Int)]:=by rw[List.take_add_one,E.o];rfl
 have H:=HS.o 1;rw[y]at H;have N:=hid (fun W h=>HN.o q0 s W R S h (show(Ki_ (Qn_ ps f) s (KG_ ⟨#[46,46]⟩ [(q0:Int)])).1.length<=1000000 from H));clear X H;go_enter func114,ntmps114;go_wp2_with fail
 refine(N.o _ V.o).mono ?_;rintro e w1 ⟨rfl,C,o⟩;have J:=K.kp o gT gS (by decide);have P1:=P.trans o;have b:=hid C;have k0:=J.q0;have k1:=J.q1;have k2:=J.q2;have kz:=J.lt;clear N O K P V C o;go_wp2;clear k0 k1 k2 kz;go_loopw [6] (fun j wr=>∃i:Nat,1<=i/\i<=a+1/\j=.int .i64 i/\TL 97 T Sb A n c w0 (Ki_ (Qn_ ps f) s (KG_ ⟨#[46,46]⟩ (l.take i))) wr/\Kp T Sb w wr/\Blk wr w.heap.size 36 #[.int .i64 10,.string text,.slice (some ⟨Z,k,none⟩) (a+1) c',.bool z]) (fun j _=>a+1 - (intOf j).toNat)
 case atStart=>exact⟨1,oo,oo,rfl,by rw[y];exact b.o,P1,J⟩
 case round=>
  clear J P1 b E y;obtain⟨i,al,hi,rfl,D,F,L⟩:=hrel;have k0:=L.q0;have k1:=L.q1;have k2:=L.q2;have kz:=L.lt;by_cases aB:i < a+1
  ·have ah:(i:Int)<=(a:Int):=oo;obtain⟨v,hd⟩:∃d,l[i]? =some d:=⟨_,gE (by have:=hl.o;omega)⟩;have Y:=hv.o v (List.mem_of_getElem? hd);obtain⟨q,rfl⟩:=Int.eq_ofNat_of_zero_le Y.1;have ao:q < f:=oo;have ap:q < n:=oo;have gi:(i:Int) < (a:Int)+1:=oo;have HD:=hid hd;have b:=hid D;have G:=hid F;have ac:=hid L;have g:=HS.o (i+1);have U:=hid (J2_ (mk:=⟨#[46,46]⟩) hd);clear Y hd D F L;have ak:0 < i:=al;have B:=hid (show Ki_ (Qn_ ps f) s (KG_ ⟨#[46,46]⟩ (l.take (i+1)))=Qn_ ps f q (GI_ (Ki_ (Qn_ ps f) s (KG_ ⟨#[46,46]⟩ (l.take i))) (4,⟨#[46,46]⟩))by
    rw[U.o,if_pos ak,ZL_];rfl)
   rw[B.o]at g;have r:(Ki_ (Qn_ ps f) s (KG_ ⟨#[46,46]⟩ (l.take i))).1.length<=1000000:=HS.o i;generalize Ki_ (Qn_ ps f) s (KG_ ⟨#[46,46]⟩ (l.take i))=SI at b B g r;clear U;have HM:=hid (fun(W:World) (V:TL 97 T Sb A n c w0 SI W)=>ZE_ T Sb A n c w0 W SI ⟨#[46,46]⟩ V r);go_wp2_with fail
   refine(HM.o _ b.o).mono ?_;rintro e w2 ⟨rfl,C,o⟩;have K2:=ac.o.kp o gT gS (by decide);have cv:=M.o _ C.below i (q:Int) oo HD.o;have am:=G.o.trans o;clear k0 k1 k2 kz;have k2:=K2.q2;have kz:=K2.lt;go_wp2_with fail
   refine(HN.o q _ _ ao ap C g).mono ?_;rintro e w3 ⟨rfl,ar,Q⟩;have K3:=K2.kp Q gT gS (by decide);go_wp2;go_roundw
   case rel=>exact⟨i+1,oo,oo,by go_num,(by rw[B.o];exact ar),am.trans Q,K3⟩
   case measure=>simp[intOf];omega
  ·obtain rfl:i=a+1:=oo;rw[show l.take (a+1)=l by rw[List.take_of_length_le (by have:=hl.o;omega)],HF.o]at D;have ah:¬(((a+1:Nat):Int)<=(a:Int)):=oo;have b:=hid D;have G:=hid F;clear D F;go_wp2;go_end0;exact⟨rfl,b.o,G.o⟩
theorem Qhg_ (T Sb:Nat) (A:OA) (n c:Nat) (w0 w:World) (ps:List PN) (f:Nat) (kd:Int) (text:BA) (A':OA) (m c':Nat) (z:Bool) (l:LI) (es:List Ev) (s fin:TS) (k:Yt_ 80 97 T Sb A n c w0 ps f) (h:TL 97 T Sb A n c w0 s w) (j:Rd w0 1 A' m (Qa_ l)) (i:l.length=m) (hm:m<=12) (e:m<=c') (o:Hid (∀v∈l,0<=v/\v < (f:Int)/\v < (n:Int))) (hk:1<=kd/\kd<=11) (hF:EvF text kd l m es) (g:LeftE (Qn_ ps f) s es fin):
  Calls prog 114 #[.pointer (some ⟨T,0,none⟩),.agg #[.int .i64 kd,.string text,.slice A' m c',.bool z]] w (Xy_ 97 T Sb A n c w0 w fin):=by
 have H:=At.new (kd:=kd) (text:=text) (c':=c') (z:=z) (A':=A') h (Kp.refl T Sb w) g k o.o j i hm;have zT:=h.blkT;have zS:=h.blkS
 cases hF
 all_goals first|(exfalso;omega)|skip
 case k7=>exact sv_7 T Sb A n c w0 w ps f text A' c' z s fin m l (hid i) oo oo k h j e o (by rw[List.append_nil]at g;exact g)
 case k10=>exact QhI_ T Sb A n c w0 w ps f text A' c' z s fin m l (hid i) oo oo k h j e o (by rw[List.append_nil]at g;exact g)
 case' k5n=>rcases (show c'=1\/1 < c' from oo)with rfl|q
 all_goals
  first|(have ha:=qS_ j i oo;obtain⟨b5,p,rfl⟩:=ha)|skip
  clear h g k o j i;unfold Xy_
  first|obtain⟨a,b,d⟩:=At.kc3 H|obtain⟨a,b,d⟩:=At.kc2 H|obtain⟨a,b,d⟩:=At.kc1 H|obtain⟨a,b,d⟩:=At.kcl H|skip
  go_enter func114,ntmps114
  repeat
   go_wp2_with fail
   first
   |(go_at_call 80;refine At.one H ?_)
   |(go_at_call 111;refine At.sheld H ?_)
   |(go_at_call 108;refine At.sword H ?_)
   |(go_at_call 109;refine At.smark H ?_)
   |(go_at_call 112;refine At.sput H ?_)
   |(go_at_call 110;refine At.sall H ?_)
   |(go_at_call 113;refine At.ssome H H.o.hl H.o.hm H.o.hr (fun v h=>h) ?_)
   |(go_at_call 113;refine At.ssome H (Nat.succ.inj H.o.hl) (Nat.le_of_succ_le H.o.hm) (JY_ H.o.hr H.o.hl oo) (fun v h=>List.mem_cons_of_mem _ h) ?_)
   |(go_at_call 113;refine At.ssome (l2:=[]) H rfl (by decide) (Rd.none_ _ _ _) (fun v h=>absurd h (by simp)) ?_)
   |(go_at_call 113;refine At.ssome H (JP_ H.o.hl) (Nat.le_of_succ_le H.o.hm) (UH_ H.o.hr H.o.hl) (fun v h=>List.mem_append_left _ h) ?_)
   try clear k0 k1 k2 k3 kz zT zS
   try clear a b d
   intro W1 s1 H1;clear H;have H:=H1;clear H1;obtain⟨k0,k1,k2,k3,kz,zT,zS⟩:=At.facts H
   first|obtain⟨a,b,d⟩:=At.kc3 H|obtain⟨a,b,d⟩:=At.kc2 H|obtain⟨a,b,d⟩:=At.kc1 H|obtain⟨a,b,d⟩:=At.kcl H|skip
  go_wp2;go_end0;exact⟨rfl,(At.fin_ H).1,(At.fin_ H).2⟩
end Go.Proofs.YtgbikafalcbibaaGreatDoor

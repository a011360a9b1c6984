/-
  Put together by program (shake.py):SoJ,SoK,SoL.
-/
import Derived.Test.YtgbikafalcbibaaGreatDoorMaYK
import Derived.Test.YtgbikafalcbibaaGreatDoorMaU
set_option maxRecDepth 100000
set_option linter.all false
set_option maxHeartbeats 25600000
open Go.Lib (hid)
namespace Go.Proofs.YtgbikafalcbibaaGreatDoor
open Go.Sort Go.RowKit Go.Shelf Go.Lib
section
variable {α:Type} [Inhabited α]
theorem zu_ {lt:α->α->Bool} (hO:SWO lt) (n:Nat):∀(f:Nat) (d:Array α) (a:Nat),a<=n->n<=d.size->(Gs_ lt n f d a).size=d.size:=by
 intro f
 induction f with
 |zero=>intro d a _ _;rfl
 |succ f ih=>
  intro d a ha hn;unfold Gs_;split
  ·next h=>
   have e:=(insertionSort_holds hO d a (a+20) oo oo).1.1;rw[ih _ _ h (by rw[e];exact hn),e]
  ·exact(insertionSort_holds hO d a n ha hn).1.1
theorem xp_ (lt:α->α->Bool) (n s:Nat):∀(f:Nat) (d:Array α) (a:Nat),(vE_ lt n s f d a).size=d.size:=by
 intro f
 induction f with
 |zero=>intro d a;rfl
 |succ f ih=>
  intro d a;unfold vE_;split
  ·rw[ih,Gd_]
  ·split
   ·exact Gd_ _ _ _ _ _ _
   ·rfl
variable {P:Program}
theorem QeJ_ (k:Nat) (L:SoP P k) (enc:α->List Value) (c:α->α->Int) (g:Nat) (cb:Array Value) (blk off cap:Nat) (d:Array α) (w:World) (eg:∀b w,(callFunc g b).run P w=.ok (.enter g b) w) (E:CmpLays P g cb enc k c blk off d.size w)
  (R:RowK enc k w blk off d) (hO:SWO (ltOf c)) (ai:d.size < 1073741824)
  (ar:∀b w,(callFunc 95 b).run P w=.ok (.enter 95 b) w)
  (C:∀(a:Array α) (W:World) (x y:Nat),a.size=d.size->SWK enc k w blk off a W->x<=y->y<=d.size->Calls P 95 #[.slice (some ⟨blk,off,none⟩) d.size cap,.int .i64 x,.int .i64 y,.func (.func g) #[] cb] W fun e w'=>e=.returned (.tuple #[])/\SWK enc k w blk off (insertionSort (ltOf c) a x y) w'):
  Calls P 68 #[.slice (some ⟨blk,off,none⟩) d.size cap,.int .i64 d.size,.func (.func g) #[] cb] w fun e w'=>e=.returned (.tuple #[])/\SWK enc k w blk off (Z1_ (ltOf c) d) w':=by
 have al:=L.mixed;have t3:=L.t3;have a3:=L.a3;have z3:=L.z3;have v3:=L.v3;have t4:=L.t4;have a4:=L.a4;have z4:=L.z4;have v4:=L.v4;have aI:=L.t22;have ap:=L.a22;have aM:=L.z22;have aL:=L.v22;have aJ:=L.t56;have aq:=L.a56;have aN:=L.z56;have aK:=run_underlying L.t22;have u3:=run_underlying L.t3;have FG:=L.fSt;have av:∀b w,(callFunc 96 b).run P w=.ok (.enter 96 b) w:=enters_of L.fSy (by kernel_rfl) rfl;have S0:Aside (SWK enc k w blk off d w):=SWK.start R.hH;have H:=hid C;have HO:=hid hO;have I:=hid (fun(f:Nat) (a:Array α) (W:World) (x y z:Nat) (h1:z - x<=f) (Q:x < y) (X:y < z) (h4:z<=d.size) (h5:a.size=d.size) (h6:SWK enc k w blk off a W)=>Qbt_ k L enc c g cb blk off cap d w eg E R oo f a W x y z h1 Q X h4 h5 h6);obtain⟨n,Y⟩:=ex_ d.size;unfold Z1_;obtain⟨o,v⟩:=ex_ (Gs_ (ltOf c) d.size (d.size+1) d 0);have N:o.size=d.size:=by rw[<-v];exact zu_ hO _ _ _ _ (Nat.zero_le _) (Nat.le_refl _)
 have H1:Aside (Gs_ (ltOf c) n (n+1) d 0=o):=by show _=_;rw[<-Y];exact v
 rw[v];obtain⟨F,M⟩:=ex_ (stF (ltOf c) d.size (d.size+1) o 20);have H2:Aside (stF (ltOf c) n (n+1) o 20=F):=by show _=_;rw[<-Y];exact M
 rw[M];rw[Y]at H I N |-
 have HN:Aside (d.size=n):=Y;have S:Aside (o.size=n):=N;have aB:n < 1073741824:=oo;clear C hO E R v M N Y ai;go_enter FG,Tryz.ntmps68;go_wp2;go_loopg [7,8] n (fun kx s7 s8 wr=>∃(x f:Nat) (a:Array α),s7=.int .i64 x/\s8=.int .i64 ((x+20:Nat):Int)/\x<=n/\n - x < f/\n - x<=kx/\Aside (a.size=n)/\Aside (SWK enc k w blk off a wr)/\Aside (Gs_ (ltOf c) n f a x=o))
 case atStart=>exact⟨0,n+1,d,rfl,by go_num,Nat.zero_le _,oo,oo,HN,S0,H1⟩
 case round=>
  clear S0 H1;obtain⟨x,f,a,rfl,rfl,ak,hf,hg,i,j,r⟩:=hrel;obtain⟨f,rfl⟩:∃U,f=U+1:=⟨f - 1,oo⟩;by_cases hx:x+20<=n
  ·have aj:((x+20:Nat):Int)<=(n:Int):=oo;have h:Aside (Gs_ (ltOf c) n f (insertionSort (ltOf c) a x (x+20)) (x+20)=o):=by
    have:=r.o;unfold Gs_ at this;rwa[if_pos hx]at this
   have G:Aside ((insertionSort (ltOf c) a x (x+20)).size=n):=by
    show _=_;rw[(insertionSort_holds HO.o a x (x+20) oo (by rw[i.o];exact hx)).1.1,i.o]
   have p:=H.o a wr x (x+20) i.o j.o oo hx;have rx:IntKind.i64.wrap (((x+20:Nat):Int)+20)=((x+20+20:Nat):Int):=(by rw[IntKind.wrap_i64];omega);clear r i j;go_wp2_with (go_at_fn 95;refine p.mono ?_;rintro e w2 ⟨rfl,Q⟩)
   have S2:Aside (SWK enc k w blk off (insertionSort (ltOf c) a x (x+20)) w2):=Q;go_roundg (n - (x+20))
   case measure=>omega
   case rel=>exact⟨x+20,f,_,rfl,by go_num,hx,oo,Nat.le_refl _,G,S2,h⟩
  ·have aj:¬((x+20:Nat):Int)<=(n:Int):=oo;have h:Aside (insertionSort (ltOf c) a x n=o):=by
    have:=r.o;unfold Gs_ at this;rwa[if_neg hx]at this
   have p:=H.o a wr x n i.o j.o ak (Nat.le_refl _);rw[h.o]at p;clear r h i j HN;go_wp2_with (go_at_fn 95;refine p.mono ?_;rintro e w2 ⟨rfl,Q⟩)
   have S2:Aside (SWK enc k w blk off o w2):=Q;clear Q p;go_loopg [6] (n+1) (fun kx s6 wr=>∃(s f:Nat) (a:Array α),s6=.int .i64 s/\0 < s/\s < 2 * n+21/\n < s+f/\n+1 - s<=kx/\Aside (a.size=n)/\Aside (SWK enc k w blk off a wr)/\Aside (stF (ltOf c) n f a s=F))
   case atStart=>exact⟨20,n+1,o,rfl,oo,oo,oo,oo,S,S2,H2⟩
   case round=>
    clear S2 H2 S;obtain⟨s,D,a,rfl,aC,aD,ax,az,i,j,r⟩:=hrel;by_cases Z:s < n
    ·have aa:(s:Int) < (n:Int):=oo;obtain⟨D,rfl⟩:∃U,D=U+1:=⟨D - 1,oo⟩;obtain⟨m,A⟩:=ex_ (vE_ (ltOf c) n s (n+1) a 0);have h:Aside (stF (ltOf c) n D m (2 * s)=F):=by
      have:=r.o;unfold stF at this;rw[if_pos Z,A]at this;exact this
     have T:Aside (m.size=n):=(by show _=_;rw[<-A,xp_];exact i.o);have t:Aside (vE_ (ltOf c) n s (n+1) a 0=m):=A;have aE:IntKind.i64.wrap (2 * (s:Int))=((2 * s:Nat):Int):=(by rw[IntKind.wrap_i64];omega);have aG:IntKind.i64.wrap ((s:Int) * 2)=((2 * s:Nat):Int):=(by rw[IntKind.wrap_i64];omega);clear r A;rename World=>wo
     go_wp2;go_loopg [7,8] n (fun kx s7 s8 wr=>∃(x f:Nat) (a:Array α),s7=.int .i64 x/\s8=.int .i64 ((x+2 * s:Nat):Int)/\x<=n/\n < x+f/\n - x<=kx/\Aside (a.size=n)/\Aside (SWK enc k w blk off a wr)/\Aside (vE_ (ltOf c) n s f a x=m))
     case atStart=>exact⟨0,n+1,a,rfl,by congr 1;omega,Nat.zero_le _,oo,oo,i,j,t⟩
     case round=>
      clear j t i;obtain⟨x,V,K,rfl,rfl,ao,ay,aA,i,j,t⟩:=hrel;obtain⟨V,rfl⟩:∃U,V=U+1:=⟨V - 1,oo⟩;have aH:IntKind.i64.wrap ((x:Int)+(s:Int))=((x+s:Nat):Int):=(by rw[IntKind.wrap_i64];omega);by_cases q:x+2 * s<=n
      ·have ac:((x+2 * s:Nat):Int)<=(n:Int):=oo;have l:Aside (vE_ (ltOf c) n s V (VI_ (ltOf c) (2 * s) K x (x+s) (x+2 * s)) (x+2 * s)=m):=by
        have:=t.o;unfold vE_ at this;rwa[if_pos q]at this
       have G:Aside ((VI_ (ltOf c) (2 * s) K x (x+s) (x+2 * s)).size=n):=(by show _=_;rw[Gd_];exact i.o);have B:=I.o (2 * s) K wr x (x+s) (x+2 * s) oo oo oo q i.o j.o;have rb:IntKind.i64.wrap (((x+2 * s:Nat):Int)+2 * (s:Int))=((x+2 * s+2 * s:Nat):Int):=(by rw[IntKind.wrap_i64];omega);have aF:IntKind.i64.wrap (((x+2 * s:Nat):Int)+((2 * s:Nat):Int))=((x+2 * s+2 * s:Nat):Int):=(by rw[IntKind.wrap_i64];omega);clear t i j;go_wp2_with (go_at_fn 96;refine B.mono ?_;rintro e w3 ⟨rfl,X⟩)
       have J:Aside (SWK enc k w blk off (VI_ (ltOf c) (2 * s) K x (x+s) (x+2 * s)) w3):=X;go_roundg (n - (x+2 * s))
       case measure=>omega
       case rel=>exact⟨x+2 * s,V,_,rfl,by first|rfl|(congr 1;omega),q,oo,Nat.le_refl _,G,J,l⟩
      ·have ac:¬((x+2 * s:Nat):Int)<=(n:Int):=oo;by_cases O:x+s < n
       ·have ad:((x+s:Nat):Int) < (n:Int):=oo;have l:Aside (VI_ (ltOf c) (n - x) K x (x+s) n=m):=by
         have:=t.o;unfold vE_ at this;rwa[if_neg q,if_pos O]at this
        have B:=I.o (n - x) K wr x (x+s) n oo oo O (Nat.le_refl _) i.o j.o;rw[l.o]at B;clear t l i j;go_wp2_with (go_at_fn 96;refine B.mono ?_;rintro e w3 ⟨rfl,X⟩)
        have J:Aside (SWK enc k w blk off m w3):=X;go_roundg (n+1 - 2 * s)
        case measure=>omega
        case rel=>exact⟨2 * s,D,m,by first|rfl|(congr 1;omega),oo,oo,oo,Nat.le_refl _,T,J,h⟩
       ·have ad:¬((x+s:Nat):Int) < (n:Int):=oo;have l:Aside (K=m):=by
         have:=t.o;unfold vE_ at this;rwa[if_neg q,if_neg O]at this
        have J:Aside (SWK enc k w blk off m wr):=(by rw[<-l.o];exact j);clear t l i j;go_wp2;go_roundg (n+1 - 2 * s)
        case measure=>omega
        case rel=>exact⟨2 * s,D,m,by first|rfl|(congr 1;omega),oo,oo,oo,Nat.le_refl _,T,J,h⟩
    ·have aa:¬(s:Int) < (n:Int):=oo;have h:Aside (a=F):=by
      have:=r.o
      cases D with
      |zero=>exact this
      |succ D=>unfold stF at this;rwa[if_neg Z]at this
     have J:Aside (SWK enc k w blk off F wr):=(by rw[<-h.o];exact j);clear r h j;go_wp2;go_end0;exact⟨rfl,J.o⟩
end
open Go.Sort Go.RowKit Go.Shelf Go.Lib
abbrev FindS:=(Int × Int × BA) × Nat
def UR_ (x:FindS):List Value:=[.int .i64 x.1.1,.int .i64 x.1.2.1,.string x.1.2.2]
def cfI (x y:Int × Int × BA):Int:=if (Lib.compareInt x.2.1 y.2.1 != 0)=true then Lib.compareInt x.2.1 y.2.1 else Lib.compareInt x.1 y.1
def ltI (x y:Int × Int × BA):Bool:=decide (x.2.1 < y.2.1)||(decide (x.2.1=y.2.1)&&decide (x.1 < y.1))
theorem QeY_ (x y:Int × Int × BA):decide (cfI x y < 0)=ltI x y:=by
 unfold cfI ltI Lib.compareInt;by_cases h1:x.2.1 < y.2.1
 ·simp[h1]
 ·by_cases a:x.2.1=y.2.1
  ·by_cases b:x.1 < y.1
   ·simp[a,b]
   ·by_cases h4:y.1 < x.1
    ·simp[a,b,h4]
    ·simp[a,b,h4]
  ·have h5:y.2.1 < x.2.1:=oo;simp[h1,a,h5]
theorem ltI_swo:SWO ltI:=by
 constructor
 ·intro x;unfold ltI;simp
 ·intro x y z h1 h2;unfold ltI at *;simp only[Bool.or_eq_true,Bool.and_eq_true,decide_eq_true_eq]at *;omega
 ·intro x y z h1 h2;unfold ltI at *;simp only[Bool.or_eq_false_iff,Bool.and_eq_false_iff,decide_eq_false_iff_not]at *;omega
def Qco_:Go.Shelf.Ren:=⟨fun|20=>95|n=>n,fun|22=>22|24=>41|25=>56|n=>n,fun n=>n⟩
theorem QhE_:SlLaysF0.n20 Tryz.prog Qco_:=⟨(by kernel_rfl),⟨Tryz.f95.name,by kernel_rfl,Tryz.func95.trans (congrArg some (by kernel_rfl))⟩,Tryz.underlying0,Tryz.isAgg0,Tryz.sizeOf0,Tryz.zeroValue0,Tryz.underlying3,Tryz.isAgg3,Tryz.sizeOf3,Tryz.zeroValue3,Tryz.underlying4,Tryz.isAgg4,Tryz.sizeOf4,Tryz.zeroValue4,Tryz.underlying22,Tryz.isAgg22,Tryz.sizeOf22,Tryz.zeroValue22,Tryz.underlying56,Tryz.isAgg56,Tryz.sizeOf56,Tryz.zeroValue56⟩
theorem soP:SoP Tryz.prog 3:=⟨(by kernel_rfl),Tryz.func167,Tryz.func130,Tryz.func96,Tryz.func68,Tryz.underlying3,Tryz.isAgg3,Tryz.sizeOf3,Tryz.zeroValue3,Tryz.underlying4,Tryz.isAgg4,Tryz.sizeOf4,Tryz.zeroValue4,Tryz.underlying22,Tryz.isAgg22,Tryz.sizeOf22,Tryz.zeroValue22,Tryz.underlying56,Tryz.isAgg56,Tryz.sizeOf56,Tryz.underlying130,Tryz.isAgg41,Tryz.sizeOf41⟩
theorem Qch_ (a:Int) (w:World):Calls Tryz.prog 69 #[.int .i64 a] w fun e w'=>e=.returned (.bool false)/\w'=w:=by
 go_enter Tryz.func69,Tryz.ntmps69;go_wp2;go_ret;exact⟨by simp,rfl⟩
theorem x0_ (a b:Int) (w:World):Calls Tryz.prog 41 #[.int .i64 a,.int .i64 b] w fun e w'=>e=.returned (.int .i64 (Lib.compareInt a b))/\w'=w:=by
 obtain⟨r,c⟩:=ex_ (Lib.compareInt a b);have d:=hid (fun(x:Int) (W:World)=>Qch_ x W);unfold Lib.compareInt at c |-
 rw[c];by_cases h1:a < b
 ·rw[if_pos h1]at c;subst c;go_enter Tryz.func41,Tryz.ntmps41;go_wp2_with (go_at_call 69;refine(d.o _ _).mono ?_;rintro e w1 ⟨rfl,rfl⟩)
  go_ret;exact⟨rfl,rfl⟩
 ·rw[if_neg h1]at c;by_cases h2:b < a
  ·rw[if_pos h2]at c;subst c;go_enter Tryz.func41,Tryz.ntmps41;go_wp2_with (go_at_call 69;refine(d.o _ _).mono ?_;rintro e w1 ⟨rfl,rfl⟩)
   go_ret;exact⟨rfl,rfl⟩
  ·rw[if_neg h2]at c;subst c;go_enter Tryz.func41,Tryz.ntmps41;go_wp2_with (go_at_call 69;refine(d.o _ _).mono ?_;rintro e w1 ⟨rfl,rfl⟩)
   go_ret;exact⟨rfl,rfl⟩
/-- cmp.Or of two. -/
theorem Qf6_ (g:Nat) (u v:Int) (w:World) (h0:w.cell? ⟨g,0,none⟩=some (.int .i64 u)) (h1:w.cell? ⟨g,1,none⟩=some (.int .i64 v)):
    Calls Tryz.prog 40 #[.slice (some ⟨g,0,none⟩) 2 2] w fun e w'=>e=.returned (.int .i64 (if (u != 0)=true then u else v))/\w=w':=by
  obtain⟨r,a⟩:=ex_ (if (u != 0)=true then u else v);have HA:=hid (show(u != 0)=true->r=u from fun h=>by rw[<-a,if_pos h]);have HB:=hid (show(u != 0)=false->r=v from fun h=>by rw[<-a,h];rfl);rw[a];clear a;go_enter Tryz.func40,Tryz.ntmps40;go_wp2;go_loopw [8] (fun i wr=>wr=w/\∃k:Nat,i=.int .i64 k/\k<=2/\Hid (0 < k->(u != 0)=false)/\Hid (1 < k->(v != 0)=false)) (fun i _=>2 - (intOf i).toNat)
  case atStart=>exact⟨rfl,0,rfl,oo,(fun h=>absurd h oo:0 < 0->(u != 0)=false),(fun h=>absurd h oo:1 < 0->(v != 0)=false)⟩
  case round=>
    obtain⟨rfl,k,rfl,hk,b,H1⟩:=hrel
    match k,hk with
    |0,_=>
      cases c:(u != 0)with
      |true=>
        have e:=HA.o c;subst e;go_wp2;go_ret;exact⟨rfl,rfl⟩
      |false=>
        have HU:=hid c;go_wp2;clear c;go_roundw
        case rel=>
          refine⟨?_,1,by go_num,oo,?_,?_⟩
          all_goals first|trivial|rfl|exact hid (fun _=>HU.o)|exact hid (fun _=>trivial)|exact hid (fun h=>absurd h oo)
        case measure=>simp[intOf]
    |1,_=>
      have e:=HB.o (b.o oo);subst e
      cases hv:(r != 0)with
      |true=>
        go_wp2;go_ret;exact⟨rfl,rfl⟩
      |false=>
        have HV:=hid hv;go_wp2;clear hv;go_roundw
        case rel=>
          refine⟨?_,2,by go_num,oo,?_,?_⟩
          all_goals first|trivial|rfl|exact hid (fun _=>b.o oo)|exact hid (fun _=>HV.o)|exact hid (fun _=>trivial)
        case measure=>simp[intOf]
    |2,_=>
      have e:=HB.o (b.o oo);subst e;have e:r=0:=(by simpa using H1.o oo);subst e;go_wp2;go_ret;exact⟨rfl,rfl⟩
/-- FindAll's function. -/
theorem xs_ (x y:Int × Int × BA) (w:World):Calls Tryz.prog 39 #[.agg #[.int .i64 x.1,.int .i64 x.2.1,.string x.2.2],.agg #[.int .i64 y.1,.int .i64 y.2.1,.string y.2.2]] w fun e w'=>e=.returned (.int .i64 (cfI x y))/\∃q z,w'=grow (w.drewN q) z:=by
  obtain⟨c,d,i⟩:=x;obtain⟨f,h,j⟩:=y;have p:=fun(a b:Int) (W:World)=>x0_ a b W
  obtain⟨u,s⟩:=ex_ (Lib.compareInt d h);obtain⟨v,t⟩:=ex_ (Lib.compareInt c f);have l:=fun W=>p d h W
  have m:=fun W=>p c f W
  rw[s]at l;rw[t]at m;have HU:=hid (show cfI (c,d,i) (f,h,j)=if (u != 0)=true then u else v by unfold cfI;dsimp only;rw[s,t]);have k:=hid (fun(g:Nat) (W:World) h0 h1=>Qf6_ g u v W h0 h1);obtain⟨r,hr⟩:=ex_ (if (u != 0)=true then u else v);rw[hr]at HU k;rw[HU.o];clear p s t hr;go_enter Tryz.func39,Tryz.ntmps39;go_wp2_with fail
  have n:=(Blk.new w 41 #[.int .i64 c,.int .i64 d,.string i]).alloc (.cells #[.int .i64 f,.int .i64 h,.string j] 41);have o:=Blk.new (w.alloc (.cells #[.int .i64 c,.int .i64 d,.string i] 41)) 41 #[.int .i64 f,.int .i64 h,.string j];have HW:=hid (show(w.alloc (.cells #[.int .i64 c,.int .i64 d,.string i] 41)).alloc (.cells #[.int .i64 f,.int .i64 h,.string j] 41)=grow w #[.cells #[.int .i64 c,.int .i64 d,.string i] 41,.cells #[.int .i64 f,.int .i64 h,.string j] 41]by rw[alloc_eq_grow,alloc_eq_grow,grow_grow];rfl);generalize (w.alloc (.cells #[.int .i64 c,.int .i64 d,.string i] 41)).alloc (.cells #[.int .i64 f,.int .i64 h,.string j] 41)=W1 at n o HW |-
  have c0:=n.cell 0;have c1:=n.cell 1;have d0:=o.cell 0;have d1:=o.cell 1;simp only[List.getElem?_toArray,List.getElem?_cons_zero,List.getElem?_cons_succ,World.size_alloc]at c0 c1 d0 d1;clear n o;refine wp_region_still_tail 10 (by kernel_rfl) (by kernel_rfl) ?_;simp only[List.take_succ_cons,List.take_zero,List.drop_succ_cons,List.drop_zero];still_step;still_step;still_step;still_step;still_call (l _);still_step;still_step;still_step;still_step;still_call (m _);refine wpStill_nil ?_;change wpList _ _ _ _ _ W1.drew;have K3:=Blk.new W1.drew 3 #[.int .i64 u,.int .i64 v];have e0:=K3.q0;have e1:=K3.q1;have HO:=hid (k.o _ _ e0 e1);go_wp2_with (go_at_call 40;refine HO.o.mono ?_;rintro e w5 ⟨rfl,rfl⟩)
  go_ret;refine⟨rfl,1,#[.cells #[.int .i64 c,.int .i64 d,.string i] 41,.cells #[.int .i64 f,.int .i64 h,.string j] 41,.cells #[.int .i64 u,.int .i64 v] 3],?_⟩;rw[alloc_eq_grow,HW.o]
  rfl
open Go.Sort Go.RowKit Go.Shelf Go.Lib
theorem Ux_ (x:FindS):(UR_ x).length=3:=rfl
theorem ky_ (d:Array FindS) (t:Nat) (ht:t < d.size * 3):(d.toList.flatMap UR_)[t]? =some (flatK UR_ 3 d)[t]! :=by
 rw[get_flatK _ _ _ _ ht];have hi:t / 3 < d.size:=oo;have hd:d.toList[t / 3]? =some d[t / 3]! :=by
  rw[List.getElem?_eq_getElem (by simpa using hi),getElem!_pos d _ hi];simp
 have hv:(UR_ d[t / 3]!)[HMod.hMod t 3]? =some (UR_ d[t / 3]!)[HMod.hMod t 3]! :=by
  have h3:HMod.hMod t 3 < (UR_ d[t / 3]!).length:=by rw[Ux_];omega
  rw[List.getElem?_eq_getElem h3,getElem!_pos (UR_ d[t / 3]!) (HMod.hMod t 3) h3]
 have:=ZJ_ UR_ Ux_ hd hv;rwa[show t / 3 * 3+HMod.hMod t 3=t from oo]at this
theorem Qb8_ (l:List FindS):(l.flatMap UR_).length=l.length * 3:=by
 induction l with
 |nil=>rfl
 |cons x l ih=>rw[List.flatMap_cons,lA,ih,Ux_,List.length_cons];omega
theorem Qah_ (d:Array FindS):(flatK UR_ 3 d).toList=d.toList.flatMap UR_:=by
 refine List.ext_getElem? (fun t=>?_);by_cases a:t < d.size * 3
 ·rw[ky_ d t a,List.getElem?_eq_getElem (by simpa using a),getElem!_pos _ _ (by simpa using a)];simp
 ·rw[List.getElem?_eq_none (by simp;omega),List.getElem?_eq_none (by rw[Qb8_];simp;omega)]
theorem jR_ (l:List FindingD):(KU_ l).toList.flatMap UR_=l.flatMap Qc_:=by
 unfold KU_;show l.zipIdx.flatMap UR_=_;have a:∀(l:List FindingD) (k:Nat),(l.zipIdx k).flatMap UR_=l.flatMap Qc_:=by
  intro l
  induction l with
  |nil=>intro k;rfl
  |cons x l ih=>intro k;rw[List.zipIdx_cons,List.flatMap_cons,List.flatMap_cons,ih];rfl
 exact a l 0
theorem Qes_ {w:World} {B g n c:Nat} {q:Nat} {os:Array Obj} {xs:List Value} (m:Mine w B 41 3 (some ⟨g,0,none⟩) n c xs) (F:Array Value) (b:F.size=n * 3):
  Mine (grow (putRow id (Sort.ahead w q) g 0 F) os) B 41 3 (some ⟨g,0,none⟩) n c F.toList/\w.grownBy (grow (putRow id (Sort.ahead w q) g 0 F) os) (some g):=by
 have j:=m.len;rcases m.own with⟨h1,_⟩|⟨g',h1,hB,hn,hc,rest,d,hs⟩
 ·cases h1
 ·injection h1 with h1;injection h1 with h1;subst h1;have hg:=d.lt;constructor
  ·refine Mine.mk_own ⟨rest,?_,?_⟩ (by simpa using b) hB hn hc
   ·unfold Blk at d |-
    rw[heap_grow_old _ _ (by simpa using hg)];have e:(putRow id (Sort.ahead w q) g 0 F).heap[g]? =some (.cells (putCells id 0 F (xs++rest).toArray) 41 (0,0)):=by
     simp[putRow,mapBlock,Sort.ahead,Array.getElem?_modify,d,onCells]
    rw[e];have a:putCells id 0 F (xs++rest).toArray=(F.toList++rest).toArray:=by
     apply Array.ext_getElem?;intro k;by_cases f:k < n * 3
     ·have h:k < (xs++rest).length:=(by rw[lA,j];omega);have i:k < (F.toList++rest).length:=(by rw[lA];simp[b];omega);simp only[putCells,Array.getElem?_mapIdx,List.getElem?_toArray,List.getElem?_eq_getElem h,List.getElem?_eq_getElem i,Option.map_some];rw[if_pos ⟨oo,oo⟩,Nat.sub_zero,getElem!_pos F k oo,List.getElem_append_left (by simp[b];exact f)];simp
     ·simp only[putCells,Array.getElem?_mapIdx,List.getElem?_toArray];rw[List.getElem?_append_right oo,List.getElem?_append_right (by simp[b];omega),j];simp only[Array.length_toList,b]
      cases rest[k - n * 3]? with
      |none=>rfl
      |some v=>rw[Option.map_some,if_neg oo]
    rw[a]
   ·rw[lA,j]at hs;simp[b];exact hs
  ·refine⟨rfl,rfl,rfl,by simp,fun k f l=>?_⟩;rw[heap_grow_old _ _ (by simpa using f)];have:g≠k:=fun e=>l (by rw[e])
   simp[putRow,mapBlock,Sort.ahead,Array.getElem?_modify,this]
theorem QaQ_ {w:World} {B g n c:Nat} {l:List FindingD} (m:Mine w B 41 3 (some ⟨g,0,none⟩) n c (l.flatMap Qc_)):HoldsK UR_ 3 w g 0 (KU_ l):=by
 have hl:=m.len;rcases m.own with⟨h1,_⟩|⟨g',h1,hB,hn,hc,rest,hb,hs⟩
 ·cases h1
 ·injection h1 with h1;injection h1 with h1;subst h1;intro j hj;rw[size_flatK]at hj;refine⟨?_,hb.frozen _⟩;rw[hb.cell,Nat.zero_add,List.getElem?_toArray];have a:=ky_ (KU_ l) j hj;rw[jR_]at a;have h3:j < (l.flatMap Qc_).length:=(List.getElem?_eq_some_iff.1 a).1;rw[List.getElem?_append_left h3,a];rfl
theorem xE_ {α:Type} [Inhabited α] {lt:α->α->Bool} (hO:SWO lt) (d:Array α):(Z1_ lt d).size=d.size:=by
 have a:∀(n f:Nat) (d:Array α) (s:Nat),(stF lt n f d s).size=d.size:=by
  intro n f
  induction f with
  |zero=>intro d s;rfl
  |succ f ih=>
   intro d s;unfold stF;split
   ·rw[ih,xp_]
   ·rfl
 unfold Z1_;rw[a,zu_ hO _ _ _ _ (Nat.zero_le _) (Nat.le_refl _)]
theorem zd_ (A:OA) (c:Nat) (fv:Value) (w:World):Calls Tryz.prog 95 #[.slice A 0 c,.int .i64 0,.int .i64 0,fv] w fun e w'=>e=.returned (.tuple #[])/\w=w':=by
 go_enter Tryz.func95,Tryz.ntmps95;go_wp2;go_loopw [8] (fun i wr=>i=.int .i64 1/\wr=w) (fun i _=>0)
 case atStart=>exact⟨by go_num,rfl⟩
 case round=>
  obtain⟨rfl,rfl⟩:=hrel;go_wp2;go_end0;exact⟨rfl,rfl⟩
theorem jM_ (A:OA) (c:Nat) (fv:Value) (w:World):Calls Tryz.prog 68 #[.slice A 0 c,.int .i64 0,fv] w fun e w'=>e=.returned (.tuple #[])/\w=w':=by
 have HI:=hid (fun W=>zd_ A c fv W);go_enter Tryz.func68,Tryz.ntmps68;go_wp2;go_loopw [7,8] (fun a b wr=>a=.int .i64 0/\b=.int .i64 20/\wr=w) (fun _ i _=>0)
 case atStart=>exact⟨rfl,rfl,rfl⟩
 case round=>
  obtain⟨rfl,rfl,rfl⟩:=hrel;go_wp2_with (go_at_call 95;refine(HI.o _).mono ?_;rintro e w1 ⟨rfl,rfl⟩)
  go_loopw [6] (fun a d=>a=.int .i64 20/\d=wr) (fun _ _=>0)
  case atStart=>exact⟨rfl,rfl⟩
  case round=>
   obtain⟨rfl,rfl⟩:=hrel;go_wp2;go_end0;exact⟨rfl,rfl⟩
/-- Stable sorting of findings by their lines, then their kinds. -/
theorem zg_ (A:OA) (n c B:Nat) (l:List FindingD) (w:World) (hn:n < 1073741824) (hl:l.length=n) (m:Mine w B 41 3 A n c (l.flatMap Qc_)):
    Calls Tryz.prog 38 #[.slice A n c,.func (.func 39) #[] #[]] w fun e w'=>e=.returned (.tuple #[])/\Mine w' B 41 3 A n c ((VQ_ ltI l).flatMap Qc_)/\w.grownBy w' (A.map (·.block)):=by
  by_cases h0:n=0
  · subst h0
    have e:l=[]:=List.eq_nil_of_length_eq_zero hl;subst e;have p:=hid (jM_ A c (.func (.func 39) #[] #[]) w);have t:=hid m;clear m;go_enter Tryz.func38,Tryz.ntmps38;go_wp2_with (go_at_call 68;refine p.o.mono ?_;rintro e w1 ⟨rfl,rfl⟩)
    go_end0;exact⟨rfl,t.o,⟨rfl,rfl,rfl,Nat.le_refl _,fun k _ _=>rfl⟩⟩
  · rcases m.own with⟨_,h,_⟩|⟨g,rfl,hB,J,hc,ho⟩
    · omega
    · have G:(KU_ l).size=n:=by unfold KU_;simp[hl]
      have hH:=QaQ_ m;have s:SWO (ltOf (fun x y:FindS=>cfI x.1 y.1)):=by
        have e:(ltOf (fun x y:FindS=>cfI x.1 y.1))=fun x y:FindS=>ltI x.1 y.1:=(by funext x y;exact QeY_ x.1 y.1)
        rw[e];exact⟨fun x=>ltI_swo.irrefl _,fun x y z=>ltI_swo.trans _ _ _,fun x y z=>ltI_swo.ntrans _ _ _⟩
      have f:(ltOf (fun x y:FindS=>cfI x.1 y.1))=fun x y:FindS=>ltI x.1 y.1:=(by funext x y;exact QeY_ x.1 y.1)
      have C:∀a w,(callFunc 39 a).run Tryz.prog w=.ok (.enter 39 a) w:=enters_of Tryz.func39 (by kernel_rfl) rfl;have j:∀a w,(callFunc 95 a).run Tryz.prog w=.ok (.enter 95 a) w:=enters_of Tryz.func95 (by kernel_rfl) rfl;have b:CmpLays Tryz.prog 39 #[] UR_ 3 (fun x y=>cfI x.1 y.1) g 0 (KU_ l).size w:=fun m os r F x y=>xs_ x.1 y.1 _
      have R:RowK UR_ 3 w g 0 (KU_ l):=⟨Ux_,fun x v hv=>by simp[UR_]at hv;rcases hv with rfl|rfl|rfl<;>rfl,hH,ho.lt⟩;have i:=QeJ_ 3 soP UR_ (fun x y=>cfI x.1 y.1) 39 #[] g 0 c (KU_ l) w C b R s oo j (fun r W x y h1 E h3 h4=>by
        have hC:CmpLays Tryz.prog 39 #[] UR_ 3 (fun x y=>cfI x.1 y.1) g 0 r.size W:=fun m os I F x y=>xs_ x.1 y.1 _
        rw[<-h1];refine(AnyQ.insertionSortCmpFunc QhE_ 3 Tryz.isAgg41 Tryz.sizeOf41 UR_ R.hk R.h1 _ 39 #[] g 0 c x y r W C hC (E.holds R.hblk R.hH h1) (E.lt R.hblk) h3 oo oo).mono ?_;rintro e w' ⟨rfl,q,os,rfl⟩;exact⟨rfl,E.on R.hblk q _ os (insertionSort_holds s r x y h3 oo).1.1⟩)
      rw[f,G]at i;have d:=Qbm_ ltI ltI_swo l;have o:(Z1_ (fun x y:FindS=>ltI x.1 y.1) (KU_ l)).size=n:=(by rw[xE_ (by rw[<-f];exact s),G]);have p:=hid i;have t:=hid m;have HF:=hid d;obtain⟨D,hD⟩:=ex_ (Z1_ (fun x y:FindS=>ltI x.1 y.1) (KU_ l));rw[hD]at p HF o;clear i b R hH s f C j d hD m ho G;go_enter Tryz.func38,Tryz.ntmps38;go_wp2_with (go_at_call 68;refine p.o.mono ?_;rintro e w1 ⟨rfl,q,os,rfl⟩)
      go_end0;obtain⟨H,p2⟩:=Qes_ (q:=q) (os:=os) t.o (flatK UR_ 3 D) (by rw[size_flatK,o]);rw[Qah_]at H;have e:D.toList.flatMap UR_=(VQ_ ltI l).flatMap Qc_:=by
        rw[<-HF.o,List.flatMap_map]
        rfl
      rw[e]at H;exact⟨rfl,H,p2⟩
end Go.Proofs.YtgbikafalcbibaaGreatDoor

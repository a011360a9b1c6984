/-
  Put together by program.
-/
import Derived.Test.YtbiijipkgfpgoaaGreatDoorMfH
set_option maxRecDepth 100000
set_option linter.all false
set_option maxHeartbeats 25600000
open Go.Proofs.Tryz
open Go.Value renaming int→I_,slice→S_,string→T_,bool→B_,pointer→P_,agg→A_,tuple→U_
open Go.IntKind renaming i64→j_
open Go.Obj renaming cells→C_
open Go.Ending renaming returned→R_
namespace Go.Proofs.YtbiijipkgfpgoaaGreatDoor
open Go.RowKit
section
variable {R:RC} {a d:Nat} {b:Bool} {AN:OA} {cN:Nat} {l:List Nd} {st:RdSt} {s:PS} {row:ON} {w:World}
theorem RdC.cs (hi:R.imp=false) (h:RdC R a d b AN cN l w):
  w.cell? ⟨R.T,0,none⟩=some (S_ R.A R.n R.c)/\w.cell? ⟨R.T,1,none⟩=some (I_ j_ a)/\w.cell? ⟨R.T,2,none⟩=some (B_ b)/\w.cell? ⟨R.T,3,none⟩=some (I_ j_ d)/\w.cell? ⟨R.T,4,none⟩=some (S_ AN l.length cN)/\(∀i,w.frozen? ⟨R.T,i,none⟩=false)/\R.T < w.heap.size:=by
 have c:=h.1;unfold RC.cells at c;rw[in_ (by rw[hi];decide)]at c;exact⟨c.cell 0,c.cell 1,c.cell 2,c.cell 3,c.cell 4,c.frozen,c.lt⟩
theorem RdI.sat1 (hi:R.imp=false) (hc:RdC R a d b AN cN l w) (hs:StOk (some s) b a l) (hr:row=AN.map (·.block)) (c:s.at_ < R.n):
  RdI R d (Qf_ (some s)) row (w.setCell ⟨R.T,1,none⟩ (I_ j_ ((a:Int)+1)))/\Kr R.T row w row (w.setCell ⟨R.T,1,none⟩ (I_ j_ ((a:Int)+1))):=by
 obtain⟨h1,h2,h3⟩:=hs;have:=hc.set (i:=1) (u:=I_ j_ ((a:Int)+1)) (a':=a+1) (d':=d) (b':=b) (by unfold RC.cells;rw[in_ (by rw[hi];decide),in_ (by rw[hi];decide)];simp) oo;rw[hr];exact⟨⟨a+1,b,AN,cN,l,this.1,⟨h1,(show s.at_+1=a+1 by rw[h2]),h3⟩,rfl⟩,this.2⟩
theorem RdI.sbad1 (hi:R.imp=false) (hc:RdC R a d b AN cN l w) (hr:row=AN.map (·.block)):
  RdI R d none row (w.setCell ⟨R.T,2,none⟩ (B_ true))/\Kr R.T row w row (w.setCell ⟨R.T,2,none⟩ (B_ true)):=by
 have:=hc.set (i:=2) (u:=B_ true) (a':=a) (d':=d) (b':=true) (by unfold RC.cells;rw[in_ (by rw[hi];decide),in_ (by rw[hi];decide)];simp) hc.2.2.2.2.1;rw[hr];exact⟨⟨a,true,AN,cN,l,this.1,rfl,rfl⟩,this.2⟩
theorem RdI.snest1 (hi:R.imp=false) (hc:RdC R a d b AN cN l w) (hs:StOk st b a l) (hr:row=AN.map (·.block)) {u:Int} {d':Nat} (hu:u=(d':Int)):
  RdI R d' st row (w.setCell ⟨R.T,3,none⟩ (I_ j_ u))/\Kr R.T row w row (w.setCell ⟨R.T,3,none⟩ (I_ j_ u)):=by
 subst hu;have:=hc.set (i:=3) (u:=I_ j_ (d':Int)) (a':=a) (d':=d') (b':=b) (by unfold RC.cells;rw[in_ (by rw[hi];decide),in_ (by rw[hi];decide)];simp) hc.2.2.2.2.1;rw[hr];exact⟨⟨a,b,AN,cN,l,this.1,hs,rfl⟩,this.2⟩
end
def isKm (sg:List SgP) (st:RdSt) (k:Int) (m:BA):Bool:=((Qx_ sg st 0).1==k)&&((Qx_ sg st 0).2.1.toList==m.toList)
theorem kL_ {sg:List SgP} {k:Int} (hk:k≠0) (m:BA):isKm sg none k m=false:=by
 unfold isKm;rw[show((Qx_ sg none 0).1==k)=false by rw[bn_];exact fun e=>hk e.symm,Bool.false_and]
theorem RdI.see {R:RC} {d:Nat} {st:RdSt} {row:ON} {w:World} (hi:R.imp=false) (h:RdI R d st row w):
  (st=none/\w.cell? ⟨R.T,2,none⟩=some (B_ true)/\Qx_ R.sg st 0=sgZero/\R.T < w.heap.size/\∀i,w.frozen? ⟨R.T,i,none⟩=false)\/
  (∃s a,st=some s/\s.at_=a/\R.n<=a/\a<=3000/\w.cell? ⟨R.T,0,none⟩=some (S_ R.A R.n R.c)/\w.cell? ⟨R.T,1,none⟩=some (I_ j_ a)/\w.cell? ⟨R.T,2,none⟩=some (B_ false)/\Qx_ R.sg st 0=sgZero/\R.T < w.heap.size/\∀i,w.frozen? ⟨R.T,i,none⟩=false)\/
  (∃s a b off x,st=some s/\s.at_=a/\a < R.n/\a<=3000/\w.cell? ⟨R.T,0,none⟩=some (S_ (some ⟨b,off,none⟩) R.n R.c)/\w.cell? ⟨R.T,1,none⟩=some (I_ j_ a)/\w.cell? ⟨R.T,2,none⟩=some (B_ false)/\R.sg[a]? =some x/\Qx_ R.sg st 0=x/\R.T < w.heap.size/\(∀i,w.frozen? ⟨R.T,i,none⟩=false)/\b < w.heap.size/\b≠R.T/\
   w.cell? ⟨b,off+a * 4,none⟩=some (I_ j_ x.1)/\w.cell? ⟨b,off+a * 4+1,none⟩=some (T_ x.2.1)/\w.cell? ⟨b,off+a * 4+2,none⟩=some (I_ j_ x.2.2.1)/\w.cell? ⟨b,off+a * 4+3,none⟩=some (B_ x.2.2.2)):=by
 obtain⟨a,b,AN,cN,l,m,j,y⟩:=h;obtain⟨c0,c1,c2,c3,c4,n,o⟩:=m.cs hi;have c:=m.2.2.2.2.2.2;have A:=m.2.2.2.2.1;have C:=c.most;have t:=c.len
 cases st with
 |none=>
  obtain rfl:b=true:=j;exact .inl ⟨rfl,c2,rfl,o,n⟩
 |some s=>
  obtain⟨rfl,k,_⟩:=j;rcases Nat.lt_or_ge a R.n with g|q
  ·right;right;obtain⟨x,r⟩:∃x,R.sg[a]? =some x:=⟨_,gE oo⟩;obtain⟨b1,off,hA,f,e0,e1,e2,e3⟩:=Yv_ (c.rd.below m.2.2.2.2.2.1) g r;have v:=c.low;have p:b1≠R.T:=by
    obtain⟨b2,z,e,B,_⟩:=c.rd.at_ (show 0 < R.n from oo);rw[hA]at e;injection e with e;injection e with e _;omega
   refine⟨s,a,b1,off,x,rfl,k,g,oo,by rw[<-hA];exact c0,c1,c2,r,GE_ (by rw[k];exact r),o,n,f,p,e0,e1,e2,e3⟩
  ·right;left;exact⟨s,a,rfl,k,q,oo,c0,c1,c2,ZO_ (by rw[k];omega),o,n⟩
theorem GF_ (R:RC) (hi:R.imp=false) (d:Nat) (st:RdSt) (row:ON) (k:Int) (hk:k≠0) (m:BA) (w:World) (c:RdI R d st row w):
  Calls prog 92 #[P_ (some ⟨R.T,0,none⟩),I_ j_ k,T_ m] w (RB_ (B_ (isKm R.sg st k m)) w):=by
 have f:isKm R.sg none k m=false:=kL_ hk m;have b:∀st,Qx_ R.sg st 0=sgZero->isKm R.sg st k m=false:=fun st e=>by
  unfold isKm;rw[e,show(sgZero.1==k)=false by rw[bn_];exact fun e=>hk e.symm,Bool.false_and]
 rcases c.see hi with⟨rfl,c2,_,cz,cf⟩|⟨s,a,rfl,ha,q,g,c0,c1,c2,hs,cz,cf⟩|⟨s,a,b1,off,x,rfl,ha,r,g,c0,c1,c2,hx,hs,cz,cf,h,p,e0,e1,e2,e3⟩
 ·rw[f];clear c f b;go_enter func92,ntmps92;go_wp2;go_quiet (fail);go_wp2;go_ret;exact⟨rfl,grow_⟩
 ·rw[b _ hs];have i:¬(a:Int) < R.n:=oo;have j:¬a < R.n:=oo;have l:decide ((a:Int) < (R.n:Int))=false:=by rw[decide_eq_false_iff_not];omega
  have n:(R.n:Int)<=a:=oo;clear c f b hs;go_enter func92,ntmps92;go_wp2;go_quiet (fail);go_wp2;go_ret;exact⟨rfl,grow_⟩
 ·have hv:isKm R.sg (some s) k m=((x.1==k)&&(x.2.1.toList==m.toList)):=by unfold isKm;rw[hs]
  rw[hv];obtain⟨kd,xt,xp,xz⟩:=x;dsimp only at e0 e1 e2 e3 |-
  have o:(a:Int) < R.n:=oo;clear c f b hs hx hv;rcases bft (kd==k)with h1|h1
  ·obtain rfl:kd=k:=eq_of_beq h1;rw[show(kd==kd)=true from h1,Bool.true_and];clear h1;go_enter func92,ntmps92;go_wp2;go_quiet (fail);go_wp2;go_ret;exact⟨rfl,grow_⟩
  ·rw[h1,Bool.false_and];go_enter func92,ntmps92;go_wp2;go_quiet (fail);go_wp2;go_ret;exact⟨rfl,grow_⟩
theorem Qhd_ {sg:List SgP} {st:RdSt} {k:Int} {m:BA} (hk:k≠0) (h:isKm sg st k m=true):∃s,st=some s/\s.at_ < sg.length:=by
 cases st with
 |none=>exact absurd h (by rw[kL_ hk];decide)
 |some s=>
  refine⟨s,rfl,?_⟩;rcases Nat.lt_or_ge s.at_ sg.length with hl|hl
  ·exact hl
  ·unfold isKm at h;rw[ZO_ (i:=0) hl,show(sgZero.1==k)=false by rw[bn_];exact fun e=>hk e.symm,Bool.false_and]at h;exact absurd h dc_
theorem JO_ (sg:List SgP) (st:RdSt) (m:BA):isKm sg st 4 m=isM sg st m:=rfl
theorem Qfq_ (sg:List SgP) (st:RdSt) (m:BA):isKm sg st 1 m=isW sg st m:=rfl
def qU_ (sg:List SgP) (st:RdSt) (m:BA):RdSt:=if isW sg st m=true then Qf_ st else st
theorem K4_ {sg:List SgP} {st:RdSt} {m:BA} (h:isW sg st m=true):qU_ sg st m=Qf_ st:=ip_ h
theorem Zp_ {sg:List SgP} {st:RdSt} {m:BA} (h:isW sg st m=false):qU_ sg st m=st:=in_ (by rw[h];decide)
theorem JT_ (R:RC) (hi:R.imp=false) (d:Nat) (st:RdSt) (row:ON) (m:BA) (w:World) (k:RdI R d st row w):
  Calls prog 74 #[P_ (some ⟨R.T,0,none⟩),T_ m] w (QA_ R d row w (B_ (isM R.sg st m)) (zX_ R.sg st m)):=by
 have h:=h_ (GF_ R hi d st row 4 dc_ m w k);rw[JO_]at h;have HI:=h_ k;unfold QA_;clear k;rcases bft (isM R.sg st m)with c|c
 ·rw[Qy_ c];rw[c]at h;obtain⟨s,rfl,n⟩:=Xe_ c;rw[c];clear c;go_enter func74,ntmps74;go_wp2_with fail
  refine h.o.mono ?_;rintro e w1 ⟨rfl,i⟩;obtain⟨a,b,AN,cN,l,g,j,f⟩:=HI.o.next i;obtain⟨c0,c1,c2,c3,c4,cf,cz⟩:=g.cs hi;have HF:=h_ (RdI.sat1 hi g j f (by rw[<-g.2.2.2.2.2.2.len];exact n));have o:=g.2.2.2.2.1;have p:=g.2.2.2.2.2.2.most;clear g j f c0 c2 c3 c4;go_wp2;go_ret;exact⟨rfl,row,HF.o.1,(Kr.of_below i).trans HF.o.2⟩
 ·rw[QD_ c];rw[c]at h;rw[c];clear c;go_enter func74,ntmps74;go_wp2_with fail
  refine h.o.mono ?_;rintro e w1 ⟨rfl,i⟩;go_wp2;go_ret;exact⟨rfl,row,HI.o.next i,Kr.of_below i⟩
theorem Wa_ {sg:List SgP} {st:RdSt} {m:BA} (h:isW sg st m=true):∃s,st=some s/\s.at_ < sg.length:=Qhd_ (k:=1) dc_ h
theorem Qge_ (R:RC) (hi:R.imp=false) (d:Nat) (st:RdSt) (row:ON) (m:BA) (w:World) (k:RdI R d st row w):
  Calls prog 71 #[P_ (some ⟨R.T,0,none⟩),T_ m] w (QA_ R d row w (B_ (isW R.sg st m)) (qU_ R.sg st m)):=by
 have h:=h_ (GF_ R hi d st row 1 dc_ m w k);rw[Qfq_]at h;have HI:=h_ k;unfold QA_;clear k;rcases bft (isW R.sg st m)with c|c
 ·rw[K4_ c];rw[c]at h;obtain⟨s,rfl,n⟩:=Wa_ c;rw[c];clear c;go_enter func71,ntmps71;go_wp2_with fail
  refine h.o.mono ?_;rintro e w1 ⟨rfl,i⟩;obtain⟨a,b,AN,cN,l,g,j,f⟩:=HI.o.next i;obtain⟨c0,c1,c2,c3,c4,cf,cz⟩:=g.cs hi;have HF:=h_ (RdI.sat1 hi g j f (by rw[<-g.2.2.2.2.2.2.len];exact n));have o:=g.2.2.2.2.1;have p:=g.2.2.2.2.2.2.most;clear g j f c0 c2 c3 c4;go_wp2;go_ret;exact⟨rfl,row,HF.o.1,(Kr.of_below i).trans HF.o.2⟩
 ·rw[Zp_ c];rw[c]at h;rw[c];clear c;go_enter func71,ntmps71;go_wp2_with fail
  refine h.o.mono ?_;rintro e w1 ⟨rfl,i⟩;go_wp2;go_ret;exact⟨rfl,row,HI.o.next i,Kr.of_below i⟩
theorem KN_ (R:RC) (hi:R.imp=false) (d:Nat) (st:RdSt) (row:ON) (m:BA) (w:World) (hI:RdI R d st row w):
  Calls prog 73 #[P_ (some ⟨R.T,0,none⟩),T_ m] w (QA_ R d row w (U_ #[]) (Qn_ R.sg st m)):=by
 have i:=h_ (JT_ R hi d st row m w hI);unfold QA_ at i |-
 clear hI;rcases bft (isM R.sg st m)with f|f
 ·rw[Zr_ f];rw[f,Qy_ f]at i;clear f;go_enter func73,ntmps73;go_wp2_with fail
  refine i.o.mono ?_;rintro e w1 ⟨rfl,c,h,n⟩;go_wp2;go_end0;exact⟨rfl,c,h,n⟩
 ·rw[GK_ f];rw[f,QD_ f]at i;clear f;go_enter func73,ntmps73;go_wp2_with fail
  refine i.o.mono ?_;rintro e w1 ⟨rfl,c,h,n⟩;obtain⟨a,b,AN,cN,l,j,k,g⟩:=h;obtain⟨c0,c1,c2,c3,c4,cf,cz⟩:=j.cs hi;have HF:=h_ (RdI.sbad1 hi j g);clear j k g c0 c1 c3 c4;go_wp2;go_end0;exact⟨rfl,c,HF.o.1,n.trans HF.o.2⟩
theorem Yn_ (R:RC) (hi:R.imp=false) (d:Nat) (st:RdSt) (row:ON) (k:Int) (hk:k≠0) (g:k≠1) (w:World) (c:RdI R d st row w):
  Calls prog 69 #[P_ (some ⟨R.T,0,none⟩),I_ j_ k] w fun e w'=>e=R_ (B_ ((Qx_ R.sg st 0).1==k))/\Below w.heap.size w w':=by
 have b:(sgZero.1==k)=false:=by rw[bn_];exact fun e=>hk e.symm
 have n:(k==1)=false:=bn_.2 g;rcases c.see hi with⟨rfl,c2,hs,cz,cf⟩|⟨s,a,rfl,ha,q,f,c0,c1,c2,hs,cz,cf⟩|⟨s,a,b1,off,x,rfl,ha,r,f,c0,c1,c2,hx,hs,cz,cf,h,p,e0,e1,e2,e3⟩
 ·rw[hs,b];clear c b;go_enter func69,ntmps69;go_wp2;go_quiet (fail);go_wp2;go_ret;exact⟨rfl,grow_⟩
 ·rw[hs,b];have l:decide ((a:Int) < (R.n:Int))=false:=by rw[decide_eq_false_iff_not];omega
  have i:¬(a:Int) < R.n:=oo;have j:¬a < R.n:=oo;have m:(R.n:Int)<=a:=oo;clear c b hs;go_enter func69,ntmps69;go_wp2;go_quiet (fail);go_wp2;go_ret;exact⟨rfl,grow_⟩
 ·rw[hs];obtain⟨kd,xt,xp,xz⟩:=x;dsimp only at e0 e1 e2 e3 |-
  have o:(a:Int) < R.n:=oo;clear c b hs hx;rcases bft (kd==k)with h1|h1
  ·obtain rfl:kd=k:=eq_of_beq h1;rw[show(kd==kd)=true from h1];clear h1;go_enter func69,ntmps69;go_wp2;go_quiet (fail);go_wp2;go_ret;exact⟨rfl,grow_⟩
  ·rw[h1];go_enter func69,ntmps69;go_wp2;go_quiet (fail);go_wp2;go_ret;exact⟨rfl,grow_⟩
theorem kU_ (R:RC) (hi:R.imp=false) (d:Nat) (st:RdSt) (row:ON) (w:World) (b:RdI R d st row w):
  Calls prog 69 #[P_ (some ⟨R.T,0,none⟩),I_ j_ 1] w (RB_ (B_ (Kp_ R.sg st 0)) w):=by
 unfold Kp_;rcases b.see hi with⟨rfl,c2,hs,cz,cf⟩|⟨s,a,rfl,ha,n,c,c0,c1,c2,hs,cz,cf⟩|⟨s,a,b1,off,x,rfl,ha,o,c,c0,c1,c2,hx,hs,cz,cf,f,m,e0,e1,e2,e3⟩
 ·rw[hs,show((sgZero.1==1)&&!X5_ sgZero.2.1)=false from rfl];clear b;go_enter func69,ntmps69;go_wp2;go_quiet (fail);go_wp2;go_ret;exact⟨rfl,grow_⟩
 ·rw[hs,show((sgZero.1==1)&&!X5_ sgZero.2.1)=false from rfl];have j:decide ((a:Int) < (R.n:Int))=false:=by rw[decide_eq_false_iff_not];omega
  have g:¬(a:Int) < R.n:=oo;have i:¬a < R.n:=oo;have k:(R.n:Int)<=a:=oo;clear b hs;go_enter func69,ntmps69;go_wp2;go_quiet (fail);go_wp2;go_ret;exact⟨rfl,grow_⟩
 ·rw[hs];obtain⟨kd,xt,xp,xz⟩:=x;dsimp only at e0 e1 e2 e3 |-
  have l:(a:Int) < R.n:=oo;clear b hs hx;rcases bft (kd==1)with h1|h1
  ·obtain rfl:kd=1:=eq_of_beq h1;rw[show((1:Int)==1)=true from h1,Bool.true_and];clear h1;have HK:=h_ (fun W=>Ju_ xt W);generalize X5_ xt=kb at HK |-
   go_enter func69,ntmps69;go_wp2;go_quiet ((go_at_call 91;exact Calls.quiet_of_same ((HK.o _).mono fun _ _ h=>⟨h.1,h.2.symm⟩)));go_wp2;go_ret;exact⟨rfl,grow_⟩
  ·rw[h1,Bool.false_and];go_enter func69,ntmps69;go_wp2;go_quiet (fail);go_wp2;go_ret;exact⟨rfl,grow_⟩
section
/-- text, once it is known what kind says. -/
theorem Qav_ (R:RC) (hi:R.imp=false) (d:Nat) (st:RdSt) (row:ON) (k:Int) (w:World) (hI:RdI R d st row w) (g:∃s,st=some s/\s.at_ < R.sg.length)
    (HN:Hid (Calls prog 69 #[P_ (some ⟨R.T,0,none⟩),I_ j_ k] w fun e w'=>e=R_ (B_ true)/\Below w.heap.size w w')):
    Calls prog 70 #[P_ (some ⟨R.T,0,none⟩),I_ j_ k] w (QA_ R d row w (T_ (Qx_ R.sg st 0).2.1) (Qf_ st)):=by
  have HI:=h_ hI;unfold QA_;clear hI;obtain⟨s,rfl,g⟩:=g;obtain⟨x,o⟩:∃x,R.sg[s.at_]? =some x:=⟨_,List.getElem?_eq_getElem g⟩;rw[show Qx_ R.sg (some s) 0=x from GE_ o];go_enter func70,ntmps70;go_wp2_with fail
  refine HN.o.mono ?_;rintro e w1 ⟨rfl,q⟩;have j:=HI.o.next q;have h:=j.old;have c:=j.ok;obtain⟨a,b,AN,cN,l,n,f,i⟩:=j;obtain⟨c0,c1,c2,c3,c4,cf,cz⟩:=n.cs hi;have m:=c.len;rw[f.2.1]at o;obtain⟨p,off,hA,t,e0,e1,e2,e3⟩:=Yv_ (c.rd.below h) (show a < R.n by have:=f.2.1;omega) o;rw[hA]at c0;have r:=RdI.sat1 hi n f i (by have:=f.2.1;omega);have z:=n.2.2.2.2.1;have D:=c.most;have v:=c.low;have A:a < R.n:=by have:=f.2.1;omega
  have C:p≠R.T:=by
    obtain⟨b2,y,e,B,_⟩:=c.rd.at_ (show 0 < R.n from oo);rw[hA]at e;injection e with e;injection e with e _;omega
  clear n f i o m c h e0 e2 e3 g;have E:IntKind.i64.wrap ((a:Int)+1)=(a:Int)+1:=IntWalk.i64_in _ oo;have HK:=h_ ((Kr.of_below q).trans r.2);have HF:=h_ r.1;clear r q;go_upto_region 5 with fail
  have q0:(w1.setCell ⟨R.T,1,none⟩ (I_ j_ ((a:Int)+1))).cell? ⟨R.T,0,none⟩=some (S_ (some ⟨p,off,none⟩) R.n R.c):=by go_simp
  have q2:(w1.setCell ⟨R.T,1,none⟩ (I_ j_ ((a:Int)+1))).cell? ⟨R.T,1,none⟩=some (I_ j_ ((a:Int)+1)):=by go_simp
  have q1:(w1.setCell ⟨R.T,1,none⟩ (I_ j_ ((a:Int)+1))).cell? ⟨p,off+a * 4+1,none⟩=some (T_ x.2.1):=by go_simp
  have F:IntKind.i64.wrap (a:Int)=(a:Int):=IntWalk.i64_in _ oo;clear e1 c0 c1 c2 c3 c4 cf;generalize w1.setCell ⟨R.T,1,none⟩ (I_ j_ ((a:Int)+1))=W at q0 q1 q2 HK HF |-
  go_quiet (fail);go_wp2;go_ret;exact⟨rfl,row,HF.o.next (below_drewN br _),HK.o.below (below_drewN br _)⟩
theorem QhR_ (R:RC) (hi:R.imp=false) (d:Nat) (st:RdSt) (row:ON) (k:Int) (w:World) (hI:RdI R d st row w)
  (HN:Hid (Calls prog 69 #[P_ (some ⟨R.T,0,none⟩),I_ j_ k] w fun e w'=>e=R_ (B_ false)/\Below w.heap.size w w')):
  Calls prog 70 #[P_ (some ⟨R.T,0,none⟩),I_ j_ k] w (QA_ R d row w (T_ noT) none):=by
 have HI:=h_ hI;unfold QA_;clear hI;go_enter func70,ntmps70;go_wp2_with fail
 refine HN.o.mono ?_;rintro e w1 ⟨rfl,g1⟩;obtain⟨a,b,AN,cN,l,f,g,c⟩:=HI.o.next g1;obtain⟨c0,c1,c2,c3,c4,cf,cz⟩:=f.cs hi;have HF:=h_ (RdI.sbad1 hi f c);clear f g c c0 c1 c3 c4;go_wp2;go_ret;exact⟨rfl,row,HF.o.1,(Kr.of_below g1).trans HF.o.2⟩
theorem QeA_ (R:RC) (hi:R.imp=false) (d:Nat) (st:RdSt) (row:ON) (w:World) (c:RdI R d st row w):
  Calls prog 70 #[P_ (some ⟨R.T,0,none⟩),I_ j_ 1] w (QA_ R d row w (T_ (nmT R.sg st)) (nmS R.sg st)):=by
 have b:=kU_ R hi d st row w c;unfold nmT nmS;rcases bft (Kp_ R.sg st 0)with a|a
 ·rw[a]at b;rw[ip_ a,ip_ a];obtain⟨s,e,h⟩:=Z7_ a;exact Qav_ R hi d st row 1 w c ⟨s,e,h⟩ b
 ·rw[a]at b;rw[in_ (by rw[a];decide),in_ (by rw[a];decide)];exact QhR_ R hi d st row 1 w c b
theorem Vy_ (R:RC) (hi:R.imp=false) (d:Nat) (st:RdSt) (row:ON) (k:Int) (a:k≠0) (b:k≠1) (w:World) (hI:RdI R d st row w) (h:(Qx_ R.sg st 0).1=k):
  Calls prog 70 #[P_ (some ⟨R.T,0,none⟩),I_ j_ k] w (QA_ R d row w (T_ (Qx_ R.sg st 0).2.1) (Qf_ st)):=by
 have HN:=Yn_ R hi d st row k a b w hI;rw[h,show(k==k)=true from beq_self_eq_true k]at HN;refine Qav_ R hi d st row k w hI ?_ HN
 cases st with
 |none=>exact absurd h.symm a
 |some s=>
  refine⟨s,rfl,?_⟩;rcases Nat.lt_or_ge s.at_ R.sg.length with hl|hl
  ·exact hl
  ·rw[ZO_ (i:=0) hl]at h;exact absurd h.symm a
end
theorem RdC.sblk3 {R:RC} {a d:Nat} {b:Bool} {AN:OA} {cN:Nat} {l:List Nd} {w w1 w3:World} (hi:R.imp=false) (h:RdC R a d b AN cN l w) (k:Below w.heap.size w w1) (hg:w1.grownBy w3 (S_ AN l.length cN).ownBlock):
  (∃v,w3.cell? ⟨R.T,4,none⟩=some v)/\(∀i,w3.frozen? ⟨R.T,i,none⟩=false)/\R.T < w3.heap.size:=by
 have g:=h.next k;rw[Q3_]at hg;have c:Blk w3 R.T R.ty (R.cells a d b (S_ AN l.length cN)):=g.1.grown hg (fun e=>by
  obtain⟨m,j⟩:=Qw_ g.2.1 e.symm;exact Kj_ g.1 j R.ty_node rfl)
 have f:=c;unfold RC.cells at c;rw[in_ (by rw[hi];decide)]at c;exact⟨⟨_,c.cell 4⟩,f.frozen,f.lt⟩
theorem RC.scells_nodes {R:RC} (hi:R.imp=false) (a d:Nat) (b:Bool) (u v:Value):(R.cells a d b u).setIfInBounds 4 v=R.cells a d b v:=by
 unfold RC.cells;rw[in_ (by rw[hi];decide),in_ (by rw[hi];decide)];simp
theorem QhD_ (R:RC) (hi:R.imp=false) (d:Nat) (st:RdSt) (row:ON) (x:Nd) (w:World) (hI:RdI R d st row w) (z:KidsIn w R.w0.heap.size R.U x) (m:x.blank=false):
  Calls prog 54 #[P_ (some ⟨R.T,0,none⟩),I_ j_ x.kind,T_ x.text,S_ x.adr x.cnt x.cap] w (QA_ R d row w (I_ j_ (KP_ st x.pn).1) (KP_ st x.pn).2):=by
 obtain⟨a,b,AN,cN,l,g,v,f⟩:=id hI;obtain⟨c0,c1,c2,c3,c4,cf,cz⟩:=g.cs hi;clear c0 c1 c3 hI;unfold QA_
 cases st with
 |none=>
  obtain rfl:b=true:=v;rw[Z8_];have p:=h_ (RdI.sbad1 hi g f);clear g z;go_enter func54,ntmps54;go_wp2;go_ret;exact⟨rfl,row,p.o.1,p.o.2⟩
 |some s=>
  obtain⟨rfl,ha,k⟩:=v;have o:s.nodes.length=l.length:=by rw[k,List.length_map]
  by_cases c:l.length=300
  ·rw[vn_ (o.trans c)];have p:=h_ (RdI.sbad1 hi g f);rw[c]at c4;clear g z c o k;go_enter func54,ntmps54;go_wp2;go_ret;exact⟨rfl,row,p.o.1,p.o.2⟩
  ·rw[vo_ oo,o];have O:=g.2.2.2.1;have I:l.length < 300:=oo;obtain⟨i0,t,A,B,C⟩:=info_parts Qgl_;have D:=h_ (ai_ t (ai_ A (ai_ B C)));have P:decide ((300:Int)<=(l.length:Int))=false:=(by rw[decide_eq_false_iff_not];omega);have J:¬(300:Int)<=(l.length:Int):=oo;have K:(l.length:Int) < 300:=oo;have L:¬300<=l.length:=oo;have HX:=h_ z;have HC:=h_ g;have HP:=h_ (fun(v':Value) (w3:World) h1 h2 h3=>g.push x z I (w1:=w.alloc (C_ #[I_ j_ x.kind,T_ x.text,S_ x.adr x.cnt x.cap,B_ false] 96)) bra (i:=4) (v':=v') (w3:=w3) h1 h2 h3 (RC.scells_nodes hi _ _ _ _ _));have H3:=h_ (fun(w3:World) h=>g.sblk3 hi (w1:=w.alloc (C_ #[I_ j_ x.kind,T_ x.text,S_ x.adr x.cnt x.cap,B_ false] 96)) (w3:=w3) bra h);have HM:=h_ (Mine.alloc g.2.1 (C_ #[I_ j_ x.kind,T_ x.text,S_ x.adr x.cnt x.cap,B_ false] 96));have E:=h_ (show R.w0.heap.size<=(w.alloc (C_ #[I_ j_ x.kind,T_ x.text,S_ x.adr x.cnt x.cap,B_ false] 96)).heap.size by
    have:=g.2.2.2.2.2.1.size;simp only[ws_];omega)
   have HH:=h_ (show s.at_=a/\s.nodes=l.map Nd.pn from⟨ha,k⟩);have HR:=h_ f;have M:=h_ (heap_alloc_new w (C_ #[I_ j_ x.kind,T_ x.text,S_ x.adr x.cnt x.cap,B_ false] 96));have N:=h_ (show Qv_ x=[I_ j_ x.kind,T_ x.text,S_ x.adr x.cnt x.cap,B_ false]by unfold Qv_;rw[m]);have n:=Qgp_ w x 96;rw[m]at n;have G:=h_ n;clear t A B C g z ha k f m n;go_enter func54,ntmps54;go_wp2_with (at_builtin;(refine Qi_ _ rfl (.tmp 28) (.tmp 33) _ rfl R.w0.heap.size 96 i0 (A_ #[I_ j_ 0,T_ ⟨#[]⟩,S_ none 0 0,B_ false]) 4 56 underlying57 D.o.1 D.o.2.1 D.o.2.2.1 D.o.2.2.2 rfl dc_ (S_ AN l.length cN) l.length (l.flatMap Qv_) rfl HM.o ⟨w.heap.size,0,none⟩ 1 1 (Qv_ x) rfl rfl G.o (Qgq_ _) mx_ oo E.o ?_);intro v' w6 j e y;obtain⟨⟨v5,j5⟩,jf,jz⟩:=H3.o _ e;obtain⟨A3,c3,rfl,q,r⟩:=HP.o _ _ j e y)
   have F:=h_ q;have H:=h_ r;clear q r j e y;go_wp2;go_ret;refine⟨rfl,_,⟨a,false,_,_,_,F.o,⟨rfl,HH.o.1,?_⟩,rfl⟩,?_⟩
   ·rw[HH.o.2,List.map_append];rfl
   ·rw[HR.o];exact H.o
section
variable {R:RC} (U:Nat->Prop) (hi:R.imp=false) (d:Nat) (st:RdSt) (row:ON)
include hi
theorem RdC.csu {a:Nat} {b:Bool} {AN:OA} {cN:Nat} {l:List Nd} {w:World} (h:RdC { R with U:=U } a d b AN cN l w):
  w.cell? ⟨R.T,1,none⟩=some (I_ j_ a)/\w.cell? ⟨R.T,2,none⟩=some (B_ b)/\w.cell? ⟨R.T,3,none⟩=some (I_ j_ d)/\(∀i,w.frozen? ⟨R.T,i,none⟩=false)/\R.T < w.heap.size:=by
 obtain⟨c0,c1,c2,c3,c4,cf,cz⟩:=RdC.cs (R:={ R with U:=U }) hi h;exact⟨c1,c2,c3,cf,cz⟩
theorem QiX_ (k:Int) (hk:k≠0) (m:BA) (w:World) (hI:RdI { R with U:=U } d st row w):
 Calls prog 92 #[P_ (some ⟨R.T,0,none⟩),I_ j_ k,T_ m] w (RB_ (B_ (isKm R.sg st k m)) w):=GF_ { R with U:=U } hi d st row k hk m w hI
theorem X2_ (m:BA) (w:World) (hI:RdI { R with U:=U } d st row w):
 Calls prog 74 #[P_ (some ⟨R.T,0,none⟩),T_ m] w fun e w'=>e=R_ (B_ (isM R.sg st m))/\∃row',RdI { R with U:=U } d (zX_ R.sg st m) row' w'/\Kr R.T row w row' w':=JT_ { R with U:=U } hi d st row m w hI
theorem Ug_ (m:BA) (w:World) (hI:RdI { R with U:=U } d st row w):
 Calls prog 71 #[P_ (some ⟨R.T,0,none⟩),T_ m] w fun e w'=>e=R_ (B_ (isW R.sg st m))/\∃row',RdI { R with U:=U } d (qU_ R.sg st m) row' w'/\Kr R.T row w row' w':=Qge_ { R with U:=U } hi d st row m w hI
theorem Yc_ (m:BA) (w:World) (hI:RdI { R with U:=U } d st row w):
 Calls prog 73 #[P_ (some ⟨R.T,0,none⟩),T_ m] w fun e w'=>e=R_ (U_ #[])/\∃row',RdI { R with U:=U } d (Qn_ R.sg st m) row' w'/\Kr R.T row w row' w':=KN_ { R with U:=U } hi d st row m w hI
theorem YU_ (w:World) (hI:RdI { R with U:=U } d st row w):
 Calls prog 70 #[P_ (some ⟨R.T,0,none⟩),I_ j_ 1] w fun e w'=>e=R_ (T_ (nmT R.sg st))/\∃row',RdI { R with U:=U } d (nmS R.sg st) row' w'/\Kr R.T row w row' w':=QeA_ { R with U:=U } hi d st row w hI
theorem Yu_ (k:Int) (t:BA) (A:OA) (n c:Nat) (ks:LI) (B:Nat) (w:World) (hI:RdI { R with U:=U } d st row w) (a:Mine w B 3 1 A n c (Qa_ ks)) (hB:({ R with U:=U }:RC).Lo B):
  Calls prog 54 #[P_ (some ⟨R.T,0,none⟩),I_ j_ k,T_ t,S_ A n c] w fun e w'=>e=R_ (I_ j_ (KP_ st ⟨k,t,ks,false⟩).1)/\∃row',RdI { R with U:=U } d (KP_ st ⟨k,t,ks,false⟩).2 row' w'/\Kr R.T row w row' w':=
 QhD_ { R with U:=U } hi d st row ⟨k,t,A,n,c,ks,false⟩ w hI ⟨⟨v2_ a,fun g hg hu=>by have:=(Mine.blk a hg).1;have:=hB.2 g hu;omega⟩,a.more hB.1⟩ rfl
end
def QeU_ (R:RC) (F:FuncId) (d lo:Nat) (one:RdSt->PR):Prop:=
 ∀(U:Nat->Prop) (st:RdSt) (row:ON) (w:World),RdI { R with U:=U } d st row w->(∀s,st=some s->lo<=s.at_)->Calls prog F #[P_ (some ⟨R.T,0,none⟩)] w fun e w'=>e=R_ (I_ j_ (one st).1)/\∃row',RdI { R with U:=U } d (one st).2 row' w'/\Kr R.T row w row' w'
def Jn_ (R:RC) (w:World):Nat:=match w.cell? ⟨R.T,2,none⟩,w.cell? ⟨R.T,1,none⟩with|some (B_ false),some (I_ _ a)=>R.n+1 - a.toNat|_,_=>0
theorem zE_ {R:RC} {U:Nat->Prop} {d:Nat} {s:PS} {row:ON} {w:World} (hi:R.imp=false) (h:RdI { R with U:=U } d (some s) row w):Jn_ R w=R.n+1 - s.at_/\s.at_<=R.n:=by
 obtain⟨a,b,AN,cN,l,hc,⟨rfl,rfl,_⟩,_⟩:=h;obtain⟨c1,c2,c3,cf,cz⟩:=hc.csu _ hi;have:s.at_<=R.n:=hc.2.2.2.2.1;unfold Jn_;rw[c2,c1];exact⟨rfl,this⟩
theorem Qbv_ {R:RC} {U:Nat->Prop} {d:Nat} {row:ON} {w:World} (hi:R.imp=false) (h:RdI { R with U:=U } d none row w):Jn_ R w=0:=by
 obtain⟨a,b,AN,cN,l,hc,hb,_⟩:=h;obtain rfl:b=true:=hb;obtain⟨c1,c2,c3,cf,cz⟩:=hc.csu _ hi;unfold Jn_;rw[c2]
theorem ZG_ {R:RC} {U U':Nat->Prop} {d d':Nat} {s:PS} {row row':ON} {w w':World} (hi:R.imp=false) (h:RdI { R with U:=U } d (some s) row w) {st':RdSt} (h':RdI { R with U:=U' } d' st' row' w') {i j:Nat} (k:Adv (i+1) j (some s) st'):Jn_ R w' < Jn_ R w:=by
 obtain⟨e1,e2⟩:=zE_ hi h
 cases st' with
 |none=>have:=Qbv_ hi h';omega
 |some t=>
  have e4:=zE_ hi h';obtain⟨s',e5,h1,_⟩:=k t rfl;obtain rfl:=oi_ e5;omega
theorem XB_ (sg:List SgP) (m:BA):Qn_ sg none m=none:=ZH_
theorem z5_ (R:RC) (hi:R.imp=false) (d lo:Nat) (one:RdSt->PR) (HO:Hid (QeU_ R 93 d lo one)) (h1:∀st,Adv 1 1 st (one st).2) (m:BA) (N:Nat) (st:RdSt) (row row0:ON) (w w0:World) (f:LI) (A0:OA) (c0:Nat)
  (hI:RdI (R.res A0) d st row w) (hm:Mine w w0.heap.size 3 1 A0 f.length c0 (Qa_ f)) (hk:Kr R.T row0 w0 row w) (hB:R.w0.heap.size<=w0.heap.size) (h0:f.length<=1) (ae:LoB lo st) (hN:Enough R.n N st):
  Calls prog 109 #[P_ (some ⟨R.T,0,none⟩),T_ m,S_ A0 f.length c0] w fun e w'=>∃(A:OA) (n c:Nat),e=R_ (S_ A n c)/\n=f.length+(QG_ R.sg one m N [] st).1.length/\Mine w' w0.heap.size 3 1 A n c (Qa_ (f++(QG_ R.sg one m N [] st).1))/\(QG_ R.sg one m N [] st).1.length<=301/\∃row',RdI (R.res A) d (Qn_ R.sg (QG_ R.sg one m N [] st).2 m) row' w'/\Kr R.T row0 w0 row' w':=by
 obtain⟨i0,aq,ar,av,ag⟩:=info_parts QY_;have H:=h_ (ai_ aq (ai_ ar (ai_ av ag)));clear aq ar av ag;have q:=h_ hI;have HM:=h_ hm;have HK:=h_ hk;have B:=h_ ae;have HN:=h_ hN;have HA:=h_ h1;obtain⟨Q,hQ⟩:=ex_ (QG_ R.sg one m N [] st);rw[hQ];have j:=h_ hQ;obtain⟨T,hT⟩:=ex_ (Qn_ R.sg Q.2 m);rw[hT];have HT:=h_ hT;clear hT;clear hQ;clear hI ae hN h1 hm hk;go_enter func109,ntmps109;go_wp2;go_loopw [2] (fun v wr=>∃(M:Nat) (ks:LI) (st':RdSt) (row':ON) (A:OA) (n c:Nat),v=S_ A n c/\Hid (n=f.length+ks.length)/\Hid (QG_ R.sg one m M ks st'=Q)/\Hid (LoB lo st')/\Hid (Enough R.n M st')/\Hid (KidB ks st')/\Hid (Mine wr w0.heap.size 3 1 A n c (Qa_ (f++ks)))/\Hid (RdI (R.res A) d st' row' wr)/\Hid (Kr R.T row0 w0 row' wr)) (fun _ wr=>Jn_ R wr)
 case atStart=>exact⟨N,[],st,row,A0,f.length,c0,rfl,(show f.length=f.length+0 from rfl),j,B,HN,⟨by simp,fun s _=>by simp⟩,by rw[List.append_nil];exact HM,q,HK⟩
 case round=>
  clear j B HN q HM HK;obtain⟨M,ks,st',row',A,n,c,rfl,HL,j,B,HN,K,HM,q,HK⟩:=hrel
  cases st' with
  |none=>
   obtain⟨a,b,AN,cN,l,hc,hb,D⟩:=q.o;obtain⟨c1,c2,c3,cf,cz⟩:=hc.csu _ hi;obtain rfl:b=true:=hb;have i:=j.o;rw[VF_]at i;subst i;have ht:=HT.o;rw[XB_]at ht;subst ht;clear hc c1 c3 D j HT;go_wp2;go_ret;exact⟨A,n,c,rfl,HL.o,HM.o,K.o.1,row',q.o,HK.o⟩
  |some s=>
   obtain⟨M,rfl⟩:∃M',M=M'+1:=⟨M - 1,by
    have h1:=HN.o s rfl;have h2:=(q.o.le rfl).1;have:(R.res A).n=R.n:=rfl;omega⟩
   obtain⟨a,b,AN,cN,l,hc,hb,D⟩:=q.o;obtain⟨c1,c2,c3,cf,cz⟩:=hc.csu _ hi;obtain⟨rfl,_,_⟩:=hb;have y:=h_ (X2_ _ hi d (some s) row' m wr q.o);have i:=j.o;unfold QG_ at i;rw[in_ (show ¬(some s).isNone=true by simp)]at i;clear hc c1 c3 D j;rcases bft (isM R.sg (some s) m)with h|h
   ·rw[ip_ h]at i;subst i;rw[h,Qy_ h]at y;have ht:=HT.o;rw[show Qn_ R.sg (ks,some s).2 m=Qf_ (some s)from Zr_ h]at ht;subst ht;clear h HT;go_wp2_with fail
    refine y.o.mono ?_;rintro e w2 ⟨rfl,row2,h2,k2⟩;have L:=h_ (q.o.keepI k2 HM.o);have z:=h_ (HK.o.trans k2);clear c2 cf cz;go_wp2;go_ret;exact⟨A,n,c,rfl,HL.o,L.o,K.o.1,row2,h2,z.o⟩
   ·rw[in_ (by rw[h];decide)]at i;rw[h,QD_ h]at y;have j:=h_ i;clear h i;go_wp2_with fail
    refine y.o.mono ?_;rintro e w2 ⟨rfl,row2,h2,k2⟩;have L:=h_ (q.o.keepI k2 HM.o);have z:=h_ (HK.o.trans k2);have G:=h_ h2;have ag:=z.o.size;clear c2 cf cz h2 k2 y HM HK;have HC:=h_ (HO.o _ (some s) row2 w2 G.o B.o);have aQ:=K.o.2 s rfl;have aS:=(G.o.le rfl).2;have o:=HA.o (some s);have X:Hid (LoB lo (one (some s)).2):=B.o.adv o;have Y:Hid (Enough R.n M (one (some s)).2):=HN.o.adv o;have F:Hid (KidB (ks++[(one (some s)).1]) (one (some s)).2):=(show KidB _ _ from⟨by rw[lA];simp;omega,fun t e=>by
     obtain⟨s',e2,_,h3⟩:=o t e;obtain rfl:=oi_ e2;rw[lA];simp;omega⟩)
    have V:=h_ o;generalize one (some s)=r at HC j X Y F V;obtain⟨k,st2⟩:=r;dsimp only at HC j X Y F V;go_wp2_with fail
    refine HC.o.mono ?_;rintro e w3 ⟨rfl,ax,h3,k3⟩;have O:=h_ (G.o.keepI k3 L.o);have Z:=h_ h3;have ab:=h_ (z.o.trans k3);have aT:=ab.o.size;have ae:=Z.o.lo.1;have ak:Hid (n+1=f.length+(ks++[k]).length):=(show _=_ by rw[lA,HL.o];simp;omega);have aR:n<=302:=(by have:=K.o.1;have:=HL.o;omega);clear h3 k3 G L z HC;have aC:Hid (R.w0.heap.size<=w0.heap.size):=(show R.w0.heap.size<=w0.heap.size from hB);go_wp2_with (at_builtin;(refine Qi_ _ rfl (.tmp 18) (.tmp 21) _ rfl w0.heap.size 3 i0 (I_ j_ 0) 1 8 underlying83 H.o.1 H.o.2.1 H.o.2.2.1 H.o.2.2.2 rfl dc_ (S_ A n c) n (Qa_ (f++ks)) rfl (Mine.alloc O.o _) ⟨w3.heap.size,0,none⟩ 1 1 [I_ j_ k] rfl rfl (K8_ _ k _) (K9_ _) mx_ oo so_ ?_);intro v' w4 C ad U;obtain⟨A4,am,rfl,h4,m4⟩:=RdI.appended Z.o O.o aC.o bra C ad U)
    have I:=h_ ((ab.o.below bra).grown ad (fun g hg=>by rw[Q3_]at hg;exact(Mine.blk O.o hg).1));rw[<-Ke_,List.append_assoc]at m4;have x:=h_ h4;have P:=h_ m4;clear C ad U h4 m4 Z O ab;have HS:=h_ (X2_ _ hi d st2 ax ⟨#[44]⟩ w4 x.o);rcases bft (isM R.sg st2 ⟨#[44]⟩)with h|h
    ·rw[h,Qy_ h]at HS;have i:=j.o;rw[ip_ h]at i;have aG:=h_ i;clear i j h;go_wp2_with fail
     refine HS.o.mono ?_;rintro e w5 ⟨rfl,E,h5,k5⟩;have S:=h_ (x.o.keepI k5 P.o);have p:=h_ h5;have J:=h_ (I.o.trans k5);clear h5 k5 x P I;go_wp2;go_roundw
     case rel=>exact⟨M,ks++[k],Qf_ st2,E,A4,n+1,am,rfl,ak,aG,X.o.adv (Qh_ _),Y.o.mono (Qh_ _),F.o.mono (Qh_ _),S,p,J⟩
     case measure=>exact ZG_ hi q.o p.o ((V.o.trans (Qh_ st2)).weak (i':=1) (j':=0) oo oo)
    ·rw[h,QD_ h]at HS;have i:=j.o;rw[in_ (by rw[h];decide)]at i;subst i;have ht:=HT.o;subst ht;clear j h HT;go_wp2_with fail
     refine HS.o.mono ?_;rintro e w5 ⟨rfl,E,h5,k5⟩;have S:=h_ (x.o.keepI k5 P.o);have p:=h_ h5;have J:=h_ (I.o.trans k5);clear h5 k5 x P I;go_wp2_with fail
     refine(Yc_ _ hi d st2 E m w5 p.o).mono ?_;rintro e w6 ⟨rfl,ay,h6,k6⟩;have aF:=h_ (p.o.keepI k6 S.o);have aD:=h_ h6;have aE:=h_ (J.o.trans k6);clear h6 k6 p S J;go_wp2;go_ret;exact⟨A4,n+1,am,rfl,by have:=ak.o;simp at this;omega,aF.o,by have:=F.o.1;simp at this;omega,ay,aD.o,aE.o⟩
theorem Y3_ (w:World):Mine (w.alloc (C_ #[] 3)) w.heap.size 3 1 (some ⟨w.heap.size,0,none⟩) 0 0 (Qa_ []):=jO_ w [] sm_
theorem Wn_ (R:RC) (hi:R.imp=false) (d:Nat) (N:Nat) (st:RdSt) (row:ON) (w:World) (hI:RdI R d st row w) (hN:R.n < N):
  Calls prog 75 #[P_ (some ⟨R.T,0,none⟩)] w fun e w'=>∃(A:OA) (n c:Nat),e=R_ (S_ A n c)/\n=(QG_ R.sg (Qj_ R.sg) ⟨#[41]⟩ N [] (Qn_ R.sg st ⟨#[40]⟩)).1.length/\Mine w' w.heap.size 3 1 A n c (Qa_ (QG_ R.sg (Qj_ R.sg) ⟨#[41]⟩ N [] (Qn_ R.sg st ⟨#[40]⟩)).1)/\(QG_ R.sg (Qj_ R.sg) ⟨#[41]⟩ N [] (Qn_ R.sg st ⟨#[40]⟩)).1.length<=301/\∃row',RdI (R.res A) d (Qn_ R.sg (QG_ R.sg (Qj_ R.sg) ⟨#[41]⟩ N [] (Qn_ R.sg st ⟨#[40]⟩)).2 ⟨#[41]⟩) row' w'/\Kr R.T row w row' w':=by
 obtain⟨i0,aA,aC,aD,ab⟩:=info_parts QY_;have E:=h_ (ai_ aA (ai_ aC (ai_ aD ab)));clear aA aC aD ab;have ag:=h_ hI;have aB:=hI.lo.1;have HA:=h_ (fun st=>QT_ (sg:=R.sg) st);obtain⟨Q,hQ⟩:=ex_ (QG_ R.sg (Qj_ R.sg) ⟨#[41]⟩ N [] (Qn_ R.sg st ⟨#[40]⟩));rw[hQ];have i:=h_ hQ;obtain⟨T,hT⟩:=ex_ (Qn_ R.sg Q.2 ⟨#[41]⟩);rw[hT];have HT:=h_ hT;clear hT hQ hI;go_enter func75,ntmps75;go_wp2_with fail
 have ap:=h_ (Y3_ w);have U:=h_ (ag.o.res_new (A:=some ⟨w.heap.size,0,none⟩) (br.alloc (lr_ _) (C_ #[] 3)) (fun g hg=>by simp at hg;subst hg;simp));refine(Yc_ _ hi d st row ⟨#[40]⟩ _ U.o).mono ?_;rintro e w1 ⟨rfl,aE,h1,k1⟩;have am:=h_ (U.o.keepI k1 ap.o);have ah:=h_ h1;have ai:=h_ ((Kr.of_below (T:=R.T) (row:=row) ((Below.refl w.heap.size w).alloc (lr_ _) (C_ #[] 3))).trans k1);have ao:=i;clear h1 k1 ag U ap;go_wp2;go_loopw [3] (fun v wr=>∃(M:Nat) (ks:LI) (st':RdSt) (row':ON) (A:OA) (n c:Nat),v=S_ A n c/\Hid (n=ks.length)/\Hid (QG_ R.sg (Qj_ R.sg) ⟨#[41]⟩ M ks st'=Q)/\Hid (Enough R.n M st')/\Hid (KidB ks st')/\Hid (Mine wr w.heap.size 3 1 A n c (Qa_ ks))/\Hid (RdI (R.res A) d st' row' wr)/\Hid (Kr R.T row w row' wr)) (fun _ wr=>Jn_ R wr)
 case atStart=>exact⟨N,[],Qn_ R.sg st ⟨#[40]⟩,aE,_,0,0,rfl,(show 0=0 from rfl),ao,(show Enough _ _ _ from QP_ hN _),⟨by simp,fun s _=>by simp⟩,am,ah,ai⟩
 case round=>
  clear i ao ah am ai;obtain⟨M,ks,st',row',A,n,c,rfl,HL,i,HN,G,HM,K,HK⟩:=hrel
  cases st' with
  |none=>
   obtain⟨a,b,AN,cN,l,hc,hb,y⟩:=K.o;obtain⟨c1,c2,c3,cf,cz⟩:=hc.csu _ hi;obtain rfl:b=true:=hb;have h:=i.o;rw[VF_]at h;subst h;have ht:=HT.o;rw[XB_]at ht;subst ht;clear hc c1 c3 y i HT;go_wp2;go_ret;exact⟨A,n,c,rfl,HL.o,HM.o,G.o.1,row',K.o,HK.o⟩
  |some s=>
   obtain⟨M,rfl⟩:∃M',M=M'+1:=⟨M - 1,by
    have h1:=HN.o s rfl;have h2:=(K.o.le rfl).1;have:(R.res A).n=R.n:=rfl;omega⟩
   obtain⟨a,b,AN,cN,l,hc,hb,y⟩:=K.o;obtain⟨c1,c2,c3,cf,cz⟩:=hc.csu _ hi;obtain⟨rfl,_,_⟩:=hb;have o:=h_ (X2_ _ hi d (some s) row' ⟨#[41]⟩ wr K.o);have h:=i.o;unfold QG_ at h;rw[in_ (show ¬(some s).isNone=true by simp)]at h;clear hc c1 c3 y i;rcases bft (isM R.sg (some s) ⟨#[41]⟩)with f|f
   ·rw[ip_ f]at h;subst h;rw[f,Qy_ f]at o;have ht:=HT.o;rw[show Qn_ R.sg (ks,some s).2 ⟨#[41]⟩=Qf_ (some s)from Zr_ f]at ht;subst ht;clear f HT;go_wp2_with fail
    refine o.o.mono ?_;rintro e w2 ⟨rfl,row2,h2,k2⟩;have H:=h_ (K.o.keepI k2 HM.o);have p:=h_ (HK.o.trans k2);clear c2 cf cz;go_wp2;go_ret;exact⟨A,n,c,rfl,HL.o,H.o,G.o.1,row2,h2,p.o⟩
   ·rw[in_ (by rw[f];decide)]at h;rw[f,QD_ f]at o;have i:=h_ h;clear f h;go_wp2_with fail
    refine o.o.mono ?_;rintro e w2 ⟨rfl,row2,h2,k2⟩;have H:=h_ (K.o.keepI k2 HM.o);have p:=h_ (HK.o.trans k2);have C:=h_ h2;have ab:=p.o.size;clear c2 cf cz h2 k2 o HM HK;have HC:=h_ (YU_ _ hi d (some s) row2 w2 C.o);have a5:=G.o.2 s rfl;have a8:=(C.o.le rfl).2;have q:=HA.o (some s);have P:Hid (Enough R.n M (Qj_ R.sg (some s)).2):=HN.o.adv q;have B:Hid (KidB (ks++[(Qj_ R.sg (some s)).1]) (Qj_ R.sg (some s)).2):=(show KidB _ _ from⟨by rw[lA];simp;omega,fun t e=>by
     obtain⟨s',e2,_,h3⟩:=q t e;obtain rfl:=oi_ e2;rw[lA];simp;omega⟩)
    have O:=h_ q;have HE:=h_ (Jo_ (sg:=R.sg) (some s));generalize Qj_ R.sg (some s)=r at i P B O HE;obtain⟨k,st2⟩:=r;dsimp only at i P B O;generalize nmT R.sg (some s)=tx at HC HE;generalize nmS R.sg (some s)=a4 at HC HE;go_wp2_with fail
    refine HC.o.mono ?_;rintro e w3 ⟨rfl,aF,h3,k3⟩;have an:=h_ (C.o.keepI k3 H.o);have D:=h_ h3;have aj:=h_ (p.o.trans k3);have al:=h_ D.o.lo;clear h3 k3 C H p HC;have HP:=h_ (Yu_ _ hi d a4 aF 1 tx _ 0 0 [] w3.heap.size (w3.alloc (C_ #[] 3)) (D.o.next bra) (Y3_ w3) al.o);rw[HE.o]at HP;dsimp only at HP;clear HE;go_wp2_with fail
    refine HP.o.mono ?_;rintro e w4 ⟨rfl,aG,h4,k4⟩;have I:=VE_ D k4 an;have V:=QS_ aj k4;have S:=h_ h4;have a9:=V.o.size;have a7:=S.o.lo.1;have ak:Hid (n+1=(ks++[k]).length):=(show _=_ by rw[lA,HL.o];simp);have a6:n<=302:=(by have:=G.o.1;have:=HL.o;omega);clear h4 k4 D an aj HP;have aO:Hid (R.w0.heap.size<=w.heap.size):=(show R.w0.heap.size<=w.heap.size from aB);go_wp2_with (at_builtin;(refine Qi_ _ rfl (.tmp 17) (.tmp 23) _ rfl w.heap.size 3 i0 (I_ j_ 0) 1 8 underlying83 E.o.1 E.o.2.1 E.o.2.2.1 E.o.2.2.2 rfl dc_ (S_ A n c) n (Qa_ ks) rfl (Mine.alloc I.o _) ⟨w4.heap.size,0,none⟩ 1 1 [I_ j_ k] rfl rfl (K8_ _ k _) (K9_ _) mx_ oo so_ ?_);intro v' w5 x Z L;obtain⟨A4,aq,rfl,h4,m4⟩:=RdI.appended S.o I.o aO.o bra x Z L)
    have F:=h_ ((V.o.below bra).grown Z (fun g hg=>by rw[Q3_]at hg;exact(Mine.blk I.o hg).1));rw[<-Ke_]at m4;have j:=h_ h4;have J:=h_ m4;clear x Z L h4 m4 S I V;have HS:=h_ (X2_ _ hi d st2 aG ⟨#[44]⟩ w5 j.o);rcases bft (isM R.sg st2 ⟨#[44]⟩)with f|f
    ·rw[f,Qy_ f]at HS;have h:=i.o;rw[ip_ f]at h;have aR:=h_ h;clear h i f;go_wp2_with fail
     refine HS.o.mono ?_;rintro e w6 ⟨rfl,z,h6,k6⟩;have Y:=h_ (j.o.keepI k6 J.o);have m:=h_ h6;have X:=h_ (F.o.trans k6);clear h6 k6 j J F;go_wp2;go_roundw
     case rel=>exact⟨M,ks++[k],Qf_ st2,z,A4,n+1,aq,rfl,ak,aR,P.o.mono (Qh_ _),B.o.mono (Qh_ _),Y,m,X⟩
     case measure=>exact ZG_ hi K.o m.o ((O.o.trans (Qh_ st2)).weak (i':=1) (j':=0) oo oo)
    ·rw[f,QD_ f]at HS;have h:=i.o;rw[in_ (by rw[f];decide)]at h;subst h;have ht:=HT.o;subst ht;clear i f HT;go_wp2_with fail
     refine HS.o.mono ?_;rintro e w6 ⟨rfl,z,h6,k6⟩;have Y:=h_ (j.o.keepI k6 J.o);have m:=h_ h6;have X:=h_ (F.o.trans k6);clear h6 k6 j J F;go_wp2_with fail
     refine(Yc_ _ hi d st2 z ⟨#[41]⟩ w6 m.o).mono ?_;rintro e w7 ⟨rfl,aH,h7,k7⟩;have aQ:=h_ (m.o.keepI k7 Y.o);have aP:=h_ (X.o.trans k7);go_wp2;go_ret;exact⟨A4,n+1,aq,rfl,by have:=ak.o;simp at this;omega,aQ.o,by have:=B.o.1;simp at this;omega,aH,h7,aP.o⟩
theorem kf_ {sg:List SgP} {j:Nat} {x y:SgP} (hx:sg[j]? =some x) (hy:sg[j+1]? =some y):JC_ sg j=((x.2.1.toList==[41])&&(x.1==4)&&(y.2.1.toList==[61,62])&&(y.1==4)):=by
 have h:j+1 < sg.length:=(gs_.1 hy).1;unfold JC_;rw[hx,hy,dt_ h,Bool.true_and]
 rfl
theorem Gh_ {sg:List SgP} {j:Nat} (h:¬j+1 < sg.length):JC_ sg j=false:=by
 unfold JC_;rw[df_ h]
 rfl
theorem Qe6_ {sg:List SgP} {f j:Nat} (h:¬j+1 < sg.length):kg_ sg f j=false:=by
 cases f with
 |zero=>exact Gh_ h
 |succ f=>unfold kg_;rw[in_ (fun e=>h e.1)];exact Gh_ h
theorem Qe5_ {sg:List SgP} {s:PS} (h:isM sg (some s) ⟨#[40]⟩=true):x7_ sg (some s)=kg_ sg (sg.length+1) (s.at_+1):=by
 unfold x7_;rw[h,Bool.true_and]
theorem QgJ_ {sg:List SgP} {st:RdSt} (h:isM sg st ⟨#[40]⟩=false):x7_ sg st=false:=by
 unfold x7_;rw[h,Bool.false_and]
theorem Qcs_ (R:RC) (hi:R.imp=false) (d:Nat) (st:RdSt) (row:ON) (w:World) (L:RdI R d st row w):
  Calls prog 255 #[P_ (some ⟨R.T,0,none⟩)] w (RB_ (B_ (x7_ R.sg st)) w):=by
 have M:=h_ (GF_ R hi d st row 4 dc_ ⟨#[40]⟩ w L);rw[JO_]at M;obtain⟨a,b,AN,cN,l,hc,H,q⟩:=id L;obtain⟨c0,c1,c2,c3,V,cf,cz⟩:=hc.cs hi;have HI:=h_ L;rcases bft (isM R.sg st ⟨#[40]⟩)with p|p
 ·rw[p]at M;obtain⟨s,rfl,ad⟩:=Xe_ p;rw[Qe5_ p];have ae:s.at_=a:=H.2.1;have S:=L.ok;have P:=S.len;have ay:=S.most;rw[ae];rw[P];obtain⟨Q,hQ⟩:=ex_ (kg_ R.sg (R.n+1) (a+1));rw[hQ];have t:=h_ hQ;clear hQ p H hc L q c0 c2 c3 V;have ax:a < R.n:=oo;go_enter func255,ntmps255;go_wp2_with fail
  refine M.o.mono ?_;rintro e w1 ⟨rfl,K⟩;go_wp2;go_loopw [3] (fun v wr=>∃(f j:Nat),v=I_ j_ j/\Hid (kg_ R.sg f j=Q)/\Hid (R.n < f+j)/\j<=R.n+1/\Below w.heap.size w wr) (fun v wr=>R.n+2 - (intOf v).toNat)
  case atStart=>exact⟨R.n+1,a+1,by go_num,t,(show R.n < R.n+1+(a+1)from oo),oo,K⟩
  case round=>
   clear t K c1 cz;obtain⟨f,j,rfl,t,J,hj,m⟩:=hrel;have D:=HI.o.next m;have g:=D.old;have i:=D.ok;obtain⟨a1,b1,an,ao,l1,O,T,G⟩:=D;obtain⟨c0,c1,c2,c3,V,cf,cz⟩:=O.cs hi;have aA:IntKind.i64.wrap ((j:Int)+1)=(j:Int)+1:=IntWalk.i64_in _ oo;clear c1 c2 c3 V O T G;rcases Nat.lt_or_ge (j+1) R.n with ad|ap
   ·obtain⟨x,I⟩:∃x,R.sg[j]? =some x:=⟨_,gE oo⟩;obtain⟨y,r⟩:∃y,R.sg[j+1]? =some y:=⟨_,gE oo⟩;obtain⟨b2,off,hA,ai,e0,e1,e2,e3⟩:=Yv_ (i.rd.below g) (show j < R.n from oo) I;obtain⟨b3,al,B,h,g0,K,g2,g3⟩:=Yv_ (i.rd.below g) (show j+1 < R.n from oo) r;rw[hA]at B;simp only[Option.some.injEq,Addr.mk.injEq,and_true]at B;obtain⟨rfl,rfl⟩:=B;rw[hA]at c0;have ar:(j:Int)+1 < (R.n:Int):=oo;have aq:(j:Int) < (R.n:Int):=oo;have ht:((j:Int)+1).toNat=j+1:=oo;have k:=kf_ I r;obtain⟨f,rfl⟩:∃f',f=f'+1:=⟨f - 1,by have:=J.o;omega⟩;have c:=t.o;unfold kg_ at c;rw[I,r]at c;simp only[Option.getD_some]at c;obtain⟨xk,xt,xp,xz⟩:=x;obtain⟨yk,U,yp,yz⟩:=y;dsimp only at e0 e1 g0 K c k;clear e2 e3 g2 g3 t i;rcases bft (xk==1)with h1|h1
    ·obtain rfl:xk=1:=eq_of_beq h1;rw[ip_ ⟨oo,rfl⟩]at c;rcases bft (U.toList==[44])with N|N
     ·rw[ip_ N]at c;have Z:(U.toList != [44])=false:=(by rw[bne,N];rfl);have Y:=h_ c;have X:Hid (R.n < f+(j+2)):=(show R.n < f+(j+2)by have:=J.o;omega);have af:IntKind.i64.wrap ((j:Int)+1+1)=(j:Int)+1+1:=IntWalk.i64_in _ oo;clear c k I r g hA;go_wp2;go_roundw
      case rel=>exact⟨f,j+2,by go_num,Y,X,oo,m⟩
      case measure=>exact ms_
     ·have Z:(U.toList != [44])=true:=(by rw[bne,N];rfl);rw[in_ (by rw[N];decide)]at c;have af:IntKind.i64.wrap ((j:Int)+1+1)=(j:Int)+1+1:=IntWalk.i64_in _ oo;rcases Nat.lt_or_ge (j+2) R.n with ak|aj
      ·obtain⟨z,hz⟩:∃z,R.sg[j+1+1]? =some z:=⟨_,gE oo⟩;obtain⟨b4,am,C,E,u0,u1,u2,u3⟩:=Yv_ (HI.o.ok.rd.below g) (show j+1+1 < R.n from oo) hz;rw[hA]at C;simp only[Option.some.injEq,Addr.mk.injEq,and_true]at C;obtain⟨rfl,rfl⟩:=C;rw[kf_ r hz]at c;obtain⟨zk,zt,zp,zz⟩:=z;dsimp only at u0 u1 c;have av:(j:Int)+1+1 < (R.n:Int):=oo;have az:((j:Int)+1+1).toNat=j+1+1:=oo;clear k I r g hA hz u2 u3 h E J;rcases bft (U.toList==[41])with n|n
       ·rcases bft (yk==4)with o|o
        ·rcases bft (zt.toList==[61,62])with A|A
         ·simp only[n,o,A,Bool.true_and,Bool.and_true,Bool.false_and,Bool.and_false]at c;subst c;go_wp2;go_ret;exact⟨rfl,m⟩
         ·simp only[n,o,A,Bool.true_and,Bool.and_true,Bool.false_and,Bool.and_false]at c;subst c;go_wp2;go_ret;exact⟨rfl,m⟩
        ·simp only[n,o,Bool.true_and,Bool.and_true,Bool.false_and,Bool.and_false]at c;subst c;go_wp2;go_ret;exact⟨rfl,m⟩
       ·simp only[n,Bool.true_and,Bool.and_true,Bool.false_and,Bool.and_false]at c;subst c;go_wp2;go_ret;exact⟨rfl,m⟩
      ·rw[Gh_ oo]at c;subst c;have F:¬(j:Int)+1+1 < (R.n:Int):=oo;have ac:decide ((j:Int)+1+1 < (R.n:Int))=false:=df_ F;clear k I r g hA J h;go_wp2;go_ret;exact⟨rfl,m⟩
    ·rw[in_ (fun e=>by rw[e.2]at h1;exact absurd h1 dc_),k]at c;clear k I r g hA J h;rcases bft (xt.toList==[41])with n|n
     ·rcases bft (xk==4)with o|o
      ·rcases bft (U.toList==[61,62])with A|A
       ·simp only[n,o,A,Bool.true_and,Bool.and_true,Bool.false_and,Bool.and_false]at c;subst c;go_wp2;go_ret;exact⟨rfl,m⟩
       ·simp only[n,o,A,Bool.true_and,Bool.and_true,Bool.false_and,Bool.and_false]at c;subst c;go_wp2;go_ret;exact⟨rfl,m⟩
      ·simp only[n,o,Bool.true_and,Bool.and_true,Bool.false_and,Bool.and_false]at c;subst c;go_wp2;go_ret;exact⟨rfl,m⟩
     ·simp only[n,Bool.true_and,Bool.and_true,Bool.false_and,Bool.and_false]at c;subst c;go_wp2;go_ret;exact⟨rfl,m⟩
   ·have c:=t.o;rw[Qe6_ oo]at c;subst c;have F:¬(j:Int)+1 < (R.n:Int):=oo;have ac:decide ((j:Int)+1 < (R.n:Int))=false:=df_ F;clear t J g i;go_wp2;go_ret;exact⟨rfl,m⟩
 ·rw[p]at M;rw[QgJ_ p];clear p H hc L q c0 c2 c3 V;go_enter func255,ntmps255;go_wp2_with fail
  refine M.o.mono ?_;rintro e w1 ⟨rfl,K⟩;go_wp2;go_ret;exact⟨rfl,K⟩
def Deep (d:Nat) (st:RdSt):Prop:=∀s,st=some s->d<=20
theorem Deep.adv {d i j:Nat} {st st':RdSt} (h:Deep d st) (k:Adv i j st st'):Deep d st':=fun t e=>by
 obtain⟨s,e2,_,_⟩:=k t e;exact h s e2
theorem Deep.nest {d:Nat} {st:RdSt} (h:Deep d st):Deep (d+1) (KI_ d st):=fun t e=>by
 unfold KI_ at e;by_cases a:d=20
 ·rw[ip_ a]at e;cases e
 ·rw[in_ a]at e;have:=h t e;omega
abbrev PosS (R:RC) (U:Nat->Prop) (d:Nat) (row:ON) (w:World) (r:PR) (e:Ending) (w':World):Prop:=
 e=R_ (I_ j_ r.1)/\∃row',RdI { R with U:=U } d r.2 row' w'/\Kr R.T row w row' w'
structure SC (R:RC) (N f:Nat):Prop where
 value:∀(U:Nat->Prop) (d:Nat) (st:RdSt) (row:ON) (w:World),RdI { R with U:=U } d st row w->Need R.n st 11 f->d+f<=100000->Deep d st->Calls prog 93 #[P_ (some ⟨R.T,0,none⟩)] w (PosS R U d row w (Qd_ R.sg N f .value d st))
 pick:∀(U:Nat->Prop) (d:Nat) (st:RdSt) (row:ON) (w:World),RdI { R with U:=U } d st row w->Need R.n st 10 f->d+f<=100000->Deep d st->Calls prog 108 #[P_ (some ⟨R.T,0,none⟩)] w (PosS R U d row w (Qd_ R.sg N f .pick d st))
 chain:∀(U:Nat->Prop) (l d:Nat) (st:RdSt) (row:ON) (w:World),RdI { R with U:=U } d st row w->l<=6->Need R.n st (9 - l) f->d+f<=100000->Deep d st->Calls prog 128 #[P_ (some ⟨R.T,0,none⟩),I_ j_ l] w (PosS R U d row w (Qd_ R.sg N f (.chain l) d st))
 end_:∀(U:Nat->Prop) (d:Nat) (st:RdSt) (row:ON) (w:World),RdI { R with U:=U } d st row w->Need R.n st 2 f->d+f<=100000->Deep d st->Calls prog 181 #[P_ (some ⟨R.T,0,none⟩)] w (PosS R U d row w (Qd_ R.sg N f .end_ d st))
 base:∀(U:Nat->Prop) (d:Nat) (st:RdSt) (row:ON) (w:World),RdI { R with U:=U } d st row w->Need R.n st 1 f->d+f<=100000->Deep d st->Calls prog 228 #[P_ (some ⟨R.T,0,none⟩)] w (PosS R U d row w (Qd_ R.sg N f .base d st))
 step:∀(U:Nat->Prop) (d:Nat) (st:RdSt) (row:ON) (w:World),RdI { R with U:=U } d st row w->Need R.n st 12 f->d+f<=100000->Deep d st->Calls prog 94 #[P_ (some ⟨R.T,0,none⟩)] w (PosS R U d row w (Qd_ R.sg N f (.stmt false) d st))
 block:∀(U:Nat->Prop) (d:Nat) (st:RdSt) (row:ON) (w:World),RdI { R with U:=U } d st row w->Need R.n st 13 f->d+f<=100000->Deep d st->Calls prog 76 #[P_ (some ⟨R.T,0,none⟩)] w (PosS R U d row w (Qd_ R.sg N f .block d st))
theorem SC.one {R:RC} {N f:Nat} (h:SC R N f) {d r:Nat} (hd:d+f<=100000) {s:PS} (hn:Need R.n (some s) r (f+1)) (c:s.at_ < R.n) (a:d<=20):QeU_ R 93 d (s.at_+1) (Qd_ R.sg N f .value d):=
 fun U st row w hI b=>h.value U d st row w hI (by
  have h2:=hn.2 s rfl;refine⟨oo,fun t e=>?_⟩;have:=b t e;have:R.n - t.at_<=R.n - s.at_ - 1:=oo;omega) hd (fun _ _=>a)
theorem Jp_ {R:RC} {U:Nat->Prop} {d:Nat} {st:RdSt} {row:ON} {w:World} (hi:R.imp=false) (h:RdI { R with U:=U } (d+1) st row w):
  w.cell? ⟨R.T,3,none⟩=some (I_ j_ ((d:Int)+1))/\(∀i,w.frozen? ⟨R.T,i,none⟩=false)/\R.T < w.heap.size/\RdI { R with U:=U } d st row (w.setCell ⟨R.T,3,none⟩ (I_ j_ d))/\Kr R.T row w row (w.setCell ⟨R.T,3,none⟩ (I_ j_ d)):=by
 obtain⟨a,b,AN,cN,l,hc,hst,hrow⟩:=h;obtain⟨c1,c2,c3,cf,cz⟩:=hc.csu _ hi;have hF:=RdI.snest1 (R:={ R with U:=U }) hi hc hst hrow (u:=(d:Int)) (d':=d) rfl;exact⟨by rw[c3];simp,cf,cz,hF.1,hF.2⟩
theorem Qhr_ {R:RC} {d:Nat} {s:PS} {row:ON} {w:World} (hi:R.imp=false) (h:RdI R d (some s) row w) (hd:d < 20):
  RdI R (d+1) (KI_ d (some s)) row (w.setCell ⟨R.T,3,none⟩ (I_ j_ ((d:Int)+1)))/\Kr R.T row w row (w.setCell ⟨R.T,3,none⟩ (I_ j_ ((d:Int)+1))):=by
 obtain⟨a,b,AN,cN,l,hc,e,c⟩:=h;unfold KI_;rw[in_ oo];exact RdI.snest1 hi hc e c oo
theorem QfH_ {R:RC} {st:RdSt} {row:ON} {w:World} (hi:R.imp=false) (h:RdI R 20 st row w):
  RdI R 21 none row ((w.setCell ⟨R.T,3,none⟩ (I_ j_ 21)).setCell ⟨R.T,2,none⟩ (B_ true))/\Kr R.T row w row ((w.setCell ⟨R.T,3,none⟩ (I_ j_ 21)).setCell ⟨R.T,2,none⟩ (B_ true)):=by
 obtain⟨a,b,AN,cN,l,hc,f,d⟩:=h;have hF:=RdI.snest1 hi hc f d (u:=21) (d':=21) (by rfl);obtain⟨a',b',i,j,l',e,g,c⟩:=hF.1;have hG:=RdI.sbad1 hi e c;exact⟨hG.1,hF.2.trans hG.2⟩
theorem Qb5_ (R:RC) (hi:R.imp=false) (N f:Nat) (HE:SC R N f) (d:Nat) (st:RdSt) (row:ON) (w:World) (Q:RdI R d st row w) (hn:Need R.n st 10 (f+1)) (hd:d+(f+1)<=100000) (D:Deep d st):
  Calls prog 108 #[P_ (some ⟨R.T,0,none⟩)] w (PosS R R.U d row w (Vq_ R.sg (Qd_ R.sg N f) d st)):=by
 have aq:=h_ Q;have az:=h_ (Kr.refl R.T row w);unfold PosS
 cases st with
 |none=>
  have hz:Vq_ R.sg (Qd_ R.sg N f) d none=(0,none):=GI_ (N:=N) (fun m d=>Xy_ f m d) .pick d;rw[hz];obtain⟨a,b,AN,cN,l,hc,hb,F⟩:=Q;obtain⟨c0,c1,c2,c3,c4,V,X⟩:=hc.cs hi;obtain rfl:b=true:=hb;clear hc F c0 c1 c3 c4 hz;go_enter func108,ntmps108;go_wp2;go_ret;exact⟨rfl,row,aq.o,az.o⟩
 |some s=>
  have ac:=hn.same (r':=9) oo (Xq_ d (some s));have HC:=h_ (fun(row:ON) (W:World) (h:RdI R (d+1) (KI_ d (some s)) row W)=>HE.chain R.U 0 (d+1) (KI_ d (some s)) row W h oo ac oo D.nest);have g:=(Xq_ d (some s)).trans (QB_ (sg:=R.sg) (N:=N) f (.chain 0) (d+1) (KI_ d (some s)));have j:=QB_ (sg:=R.sg) (N:=N) f (.chain 0) (d+1) (KI_ d (some s));have aa:=D.nest;have ai:∀(d':Nat) (row:ON) (W:World) (t:PS),RdI R d' (some t) row W->t.at_<=R.n:=fun d' row W t h=>(h.le rfl).1
  have S:=Q.ok.len;have aN:=D s rfl;obtain⟨a,b,AN,cN,l,hc,hb,F⟩:=id Q;obtain⟨c0,c1,c2,c3,c4,V,X⟩:=hc.cs hi;obtain⟨rfl,_,_⟩:=hb;clear hc F c0 c1 c4
  -- the reader one deeper
  have z:Hid ((d < 20->RdI R (d+1) (KI_ d (some s)) row (w.setCell ⟨R.T,3,none⟩ (I_ j_ ((d:Int)+1)))/\Kr R.T row w row (w.setCell ⟨R.T,3,none⟩ (I_ j_ ((d:Int)+1))))/\(d=20->RdI R 21 none row ((w.setCell ⟨R.T,3,none⟩ (I_ j_ 21)).setCell ⟨R.T,2,none⟩ (B_ true))/\Kr R.T row w row ((w.setCell ⟨R.T,3,none⟩ (I_ j_ 21)).setCell ⟨R.T,2,none⟩ (B_ true)))):=
   (show _/\_ from⟨fun h=>Qhr_ hi Q h,fun h=>by subst h;exact QfH_ hi Q⟩)
  have x:d=20->KI_ d (some s)=none:=fun e=>ip_ e
  unfold PosS at HC;unfold Vq_;dsimp only;generalize Y:KI_ d (some s)=aL at *;generalize Qd_ R.sg N f (.chain 0) (d+1) aL=r at HC g j |-
  obtain⟨k0,i⟩:=r;dsimp only at HC g j |-
  have v:=h_ x;rcases bft (isM R.sg i ⟨#[63]⟩)with G|G
  ·rw[ip_ G];have ak:=Qy_ G;obtain⟨t,et,aI⟩:=Xe_ G;obtain⟨s',es,ha,_⟩:=g t et;obtain rfl:=oi_ es;have al:s.at_ < R.n:=oo;have Z:=aa.adv (j.trans (Qh_ i));have I:=h_ (fun(row:ON) (W:World) (h:RdI R (d+1) (Qf_ i) row W)=>HE.pick R.U (d+1) (Qf_ i) row W h (hn.next al (g.trans (Qh_ _)) oo) oo Z);have k:=(g.trans (Qh_ i)).trans (QB_ (sg:=R.sg) (N:=N) f .pick (d+1) (Qf_ i));have L:=Z.adv (QB_ (sg:=R.sg) (N:=N) f .pick (d+1) (Qf_ i));unfold PosS at I;generalize Qd_ R.sg N f .pick (d+1) (Qf_ i)=r2 at I k L |-
   obtain⟨k1,st2⟩:=r2;dsimp only at I k L |-
   have J:=h_ (fun(row:ON) (W:World) (h:RdI R (d+1) (Qn_ R.sg st2 ⟨#[58]⟩) row W)=>HE.pick R.U (d+1) (Qn_ R.sg st2 ⟨#[58]⟩) row W h (hn.next al (k.trans (Qq_ _ _)) oo) oo (L.adv (Qq_ _ _)));unfold PosS at J;generalize Qd_ R.sg N f .pick (d+1) (Qn_ R.sg st2 ⟨#[58]⟩)=r3 at J |-
   obtain⟨k2,aK⟩:=r3;dsimp only at J |-
   have K:=h_ ak;have H:=h_ G
   -- too deep:nothing comes
   have q:d < 20:=by
    rcases Nat.lt_or_ge d 20 with h|h
    ·exact h
    ·have aF:d=20:=oo;have e1:=x aF;obtain⟨s2,e2,_⟩:=j t et;rw[e1]at e2
     cases e2
   have c:=h_ (z.o.1 q);have E:¬(20:Int) < (d:Int)+1:=oo;have ah:decide ((20:Int) < (d:Int)+1)=false:=df_ E;have aJ:IntKind.i64.wrap ((d:Int)+1)=(d:Int)+1:=IntWalk.i64_in _ oo;clear Q hn g k ai S G ak et ha aI ac x v z Z L D aa j Y;go_enter func108,ntmps108;go_wp2_with fail
   refine(HC.o _ _ c.o.1).mono ?_;rintro e w2 ⟨rfl,row2,O,p⟩;have A:=h_ O;have B:=h_ (c.o.2.trans p);clear O p c2 c3 V X c;go_wp2_with fail
   refine(JT_ R hi (d+1) i row2 ⟨#[63]⟩ w2 A.o).mono ?_;rw[H.o,K.o];rintro e w3 ⟨rfl,y,P,T⟩;have C:=QS_ B T;have ar:=h_ P;clear P T;go_wp2_with fail
   refine pst (I.o _ _ ar.o) C ?_;intro w4 am av aA;go_wp2_with fail
   refine pst (KN_ R hi (d+1) st2 am ⟨#[58]⟩ w4 av.o) aA ?_;intro w5 aO ax aB;go_wp2_with fail
   refine pst (J.o _ _ ax.o) aB ?_;intro w6 an ae aC;have af:=h_ ae.o.lo;go_wp2_with fail
   refine pst (Yu_ R.U hi (d+1) aK an 8 noT (some ⟨w6.heap.size,0,none⟩) 3 3 [k0,k1,k2] w6.heap.size _ (ae.o.alloc _) (kid3 w6 k0 k1 k2) af.o) aC ?_;intro w7 ao ay aD;obtain⟨c3,V,X,n,o⟩:=Jp_ hi ay.o;have M:=h_ (ai_ n (aD.o.trans o));clear n o;go_wp2;go_ret;exact⟨rfl,ao,M.o.1,M.o.2⟩
  ·rw[in_ (by rw[G];decide)];have K:=h_ (QD_ G);have H:=h_ G;clear Q hn g ai S G ac D aa j x;rcases Nat.lt_or_ge d 20 with q|ab
   ·have c:=h_ (z.o.1 q);have E:¬(20:Int) < (d:Int)+1:=oo;have ah:decide ((20:Int) < (d:Int)+1)=false:=df_ E;have aJ:IntKind.i64.wrap ((d:Int)+1)=(d:Int)+1:=IntWalk.i64_in _ oo;clear v z Y;go_enter func108,ntmps108;go_wp2_with fail
    refine(HC.o _ _ c.o.1).mono ?_;rintro e w2 ⟨rfl,row2,O,p⟩;have A:=h_ O;have B:=h_ (c.o.2.trans p);clear O p c2 c3 V X c;go_wp2_with fail
    refine(JT_ R hi (d+1) i row2 ⟨#[63]⟩ w2 A.o).mono ?_;rw[H.o,K.o];rintro e w3 ⟨rfl,y,P,T⟩;have C:=QS_ B T;obtain⟨c3,V,X,n,o⟩:=Jp_ (U:=R.U) hi P;have M:=h_ (ai_ n (C.o.trans o));clear P T n o;go_wp2;go_ret;exact⟨rfl,y,M.o.1,M.o.2⟩
   ·obtain rfl:d=20:=oo;have c:=h_ (z.o.2 rfl);have e0:=v.o rfl;subst e0;clear v z Y ab;go_enter func108,ntmps108;go_wp2_with fail
    refine(HC.o _ _ c.o.1).mono ?_;rintro e w2 ⟨rfl,row2,O,p⟩;have A:=h_ O;have B:=h_ (c.o.2.trans p);clear O p c2 c3 V X c;go_wp2_with fail
    refine(JT_ R hi (20+1) i row2 ⟨#[63]⟩ w2 A.o).mono ?_;rw[H.o,K.o];rintro e w3 ⟨rfl,y,P,T⟩;have C:=QS_ B T;obtain⟨c3,V,X,n,o⟩:=Jp_ (U:=R.U) hi P;have M:=h_ (ai_ n (C.o.trans o));clear P T n o;go_wp2;go_ret;exact⟨rfl,y,M.o.1,M.o.2⟩
end Go.Proofs.YtbiijipkgfpgoaaGreatDoor

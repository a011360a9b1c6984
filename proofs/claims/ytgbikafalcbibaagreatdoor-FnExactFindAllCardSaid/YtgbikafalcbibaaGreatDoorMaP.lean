/-
  Put together by program (shake.py):SpaA,SpaB,SpaC,SpaD,SpaE,SpaF,SpaG.
-/
import Derived.Test.YtgbikafalcbibaaGreatDoorMaM
set_option maxRecDepth 100000
set_option linter.all false
set_option maxHeartbeats 25600000
open Go.Lib (hid)
open Go.Proofs.Tryz
namespace Go.Proofs.YtgbikafalcbibaaGreatDoor
open Go.RowKit
section
variable {R:RC} {a d:Nat} {b:Bool} {AN:OA} {cN:Nat} {l:List Nd} {st:RdSt} {s:PS} {row:ON} {w:World}
theorem RdC.cs (hi:R.imp=false) (h:RdC R a d b AN cN l w):
  w.cell? ⟨R.T,0,none⟩=some (.slice R.A R.n R.c)/\w.cell? ⟨R.T,1,none⟩=some (.int .i64 a)/\w.cell? ⟨R.T,2,none⟩=some (.bool b)/\w.cell? ⟨R.T,3,none⟩=some (.int .i64 d)/\w.cell? ⟨R.T,4,none⟩=some (.slice AN l.length cN)/\(∀i,w.frozen? ⟨R.T,i,none⟩=false)/\R.T < w.heap.size:=by
 have c:=h.1;unfold RC.cells at c;rw[if_neg (by rw[hi];decide)]at c;exact⟨c.cell 0,c.cell 1,c.cell 2,c.cell 3,c.cell 4,c.frozen,c.lt⟩
theorem RdI.sat1 (hi:R.imp=false) (hc:RdC R a d b AN cN l w) (hs:StOk (some s) b a l) (hr:row=AN.map (·.block)) (c:s.at_ < R.n):
  RdI R d (Qe_ (some s)) row (w.setCell ⟨R.T,1,none⟩ (.int .i64 ((a:Int)+1)))/\Kr R.T row w row (w.setCell ⟨R.T,1,none⟩ (.int .i64 ((a:Int)+1))):=by
 obtain⟨h1,h2,h3⟩:=hs;have:=hc.set (i:=1) (u:=.int .i64 ((a:Int)+1)) (a':=a+1) (d':=d) (b':=b) (by unfold RC.cells;rw[if_neg (by rw[hi];decide),if_neg (by rw[hi];decide)];simp) oo;rw[hr];exact⟨⟨a+1,b,AN,cN,l,this.1,⟨h1,(show s.at_+1=a+1 by rw[h2]),h3⟩,rfl⟩,this.2⟩
theorem RdI.sbad1 (hi:R.imp=false) (hc:RdC R a d b AN cN l w) (hr:row=AN.map (·.block)):
  RdI R d none row (w.setCell ⟨R.T,2,none⟩ (.bool true))/\Kr R.T row w row (w.setCell ⟨R.T,2,none⟩ (.bool true)):=by
 have:=hc.set (i:=2) (u:=.bool true) (a':=a) (d':=d) (b':=true) (by unfold RC.cells;rw[if_neg (by rw[hi];decide),if_neg (by rw[hi];decide)];simp) hc.2.2.2.2.1;rw[hr];exact⟨⟨a,true,AN,cN,l,this.1,rfl,rfl⟩,this.2⟩
theorem RdI.snest1 (hi:R.imp=false) (hc:RdC R a d b AN cN l w) (hs:StOk st b a l) (hr:row=AN.map (·.block)) {u:Int} {d':Nat} (hu:u=(d':Int)):
  RdI R d' st row (w.setCell ⟨R.T,3,none⟩ (.int .i64 u))/\Kr R.T row w row (w.setCell ⟨R.T,3,none⟩ (.int .i64 u)):=by
 subst hu;have:=hc.set (i:=3) (u:=.int .i64 (d':Int)) (a':=a) (d':=d') (b':=b) (by unfold RC.cells;rw[if_neg (by rw[hi];decide),if_neg (by rw[hi];decide)];simp) hc.2.2.2.2.1;rw[hr];exact⟨⟨a,b,AN,cN,l,this.1,hs,rfl⟩,this.2⟩
end
def isKm (sg:List SgP) (st:RdSt) (k:Int) (m:BA):Bool:=((Qu_ sg st 0).1==k)&&((Qu_ sg st 0).2.1.toList==m.toList)
theorem kM_ {sg:List SgP} {k:Int} (hk:k≠0) (m:BA):isKm sg none k m=false:=by
 unfold isKm;rw[show((Qu_ sg none 0).1==k)=false by rw[beq_eq_false_iff_ne];exact fun e=>hk e.symm,Bool.false_and]
theorem RdI.see {R:RC} {d:Nat} {st:RdSt} {row:ON} {w:World} (hi:R.imp=false) (h:RdI R d st row w):
  (st=none/\w.cell? ⟨R.T,2,none⟩=some (.bool true)/\Qu_ R.sg st 0=sgZero/\R.T < w.heap.size/\∀i,w.frozen? ⟨R.T,i,none⟩=false)\/
  (∃s a,st=some s/\s.at_=a/\R.n<=a/\a<=3000/\w.cell? ⟨R.T,0,none⟩=some (.slice R.A R.n R.c)/\w.cell? ⟨R.T,1,none⟩=some (.int .i64 a)/\w.cell? ⟨R.T,2,none⟩=some (.bool false)/\Qu_ R.sg st 0=sgZero/\R.T < w.heap.size/\∀i,w.frozen? ⟨R.T,i,none⟩=false)\/
  (∃s a b off x,st=some s/\s.at_=a/\a < R.n/\a<=3000/\w.cell? ⟨R.T,0,none⟩=some (.slice (some ⟨b,off,none⟩) R.n R.c)/\w.cell? ⟨R.T,1,none⟩=some (.int .i64 a)/\w.cell? ⟨R.T,2,none⟩=some (.bool false)/\R.sg[a]? =some x/\Qu_ R.sg st 0=x/\R.T < w.heap.size/\(∀i,w.frozen? ⟨R.T,i,none⟩=false)/\b < w.heap.size/\b≠R.T/\
   w.cell? ⟨b,off+a * 4,none⟩=some (.int .i64 x.1)/\w.cell? ⟨b,off+a * 4+1,none⟩=some (.string x.2.1)/\w.cell? ⟨b,off+a * 4+2,none⟩=some (.int .i64 x.2.2.1)/\w.cell? ⟨b,off+a * 4+3,none⟩=some (.bool x.2.2.2)):=by
 obtain⟨a,b,AN,cN,l,m,j,y⟩:=h;obtain⟨c0,c1,c2,c3,c4,n,o⟩:=m.cs hi;have c:=m.2.2.2.2.2.2;have A:=m.2.2.2.2.1;have C:=c.most;have t:=c.len
 cases st with
 |none=>
  obtain rfl:b=true:=j;exact .inl ⟨rfl,c2,rfl,o,n⟩
 |some s=>
  obtain⟨rfl,k,_⟩:=j;rcases Nat.lt_or_ge a R.n with g|q
  ·right;right;obtain⟨x,r⟩:∃x,R.sg[a]? =some x:=⟨_,gE oo⟩;obtain⟨b1,off,hA,f,e0,e1,e2,e3⟩:=XY_ (c.rd.below m.2.2.2.2.2.1) g r;have v:=c.low;have p:b1≠R.T:=by
    obtain⟨b2,z,e,B,_⟩:=c.rd.at_ (show 0 < R.n from oo);rw[hA]at e;injection e with e;injection e with e _;omega
   refine⟨s,a,b1,off,x,rfl,k,g,oo,by rw[<-hA];exact c0,c1,c2,r,GL_ (by rw[k];exact r),o,n,f,p,e0,e1,e2,e3⟩
  ·right;left;exact⟨s,a,rfl,k,q,oo,c0,c1,c2,ZM_ (by rw[k];omega),o,n⟩
theorem GM_ (R:RC) (hi:R.imp=false) (d:Nat) (st:RdSt) (row:ON) (k:Int) (hk:k≠0) (m:BA) (w:World) (c:RdI R d st row w):
  Calls prog 104 #[.pointer (some ⟨R.T,0,none⟩),.int .i64 k,.string m] w fun e w'=>e=.returned (.bool (isKm R.sg st k m))/\Below w.heap.size w w':=by
 have f:isKm R.sg none k m=false:=kM_ hk m;have b:∀st,Qu_ R.sg st 0=sgZero->isKm R.sg st k m=false:=fun st e=>by
  unfold isKm;rw[e,show(sgZero.1==k)=false by rw[beq_eq_false_iff_ne];exact fun e=>hk e.symm,Bool.false_and]
 rcases c.see hi with⟨rfl,c2,_,cz,cf⟩|⟨s,a,rfl,ha,q,g,c0,c1,c2,hs,cz,cf⟩|⟨s,a,b1,off,x,rfl,ha,r,g,c0,c1,c2,hx,hs,cz,cf,h,p,e0,e1,e2,e3⟩
 ·rw[f];clear c f b;go_enter func104,ntmps104;go_wp2;go_quiet (fail);go_wp2;go_ret;exact⟨rfl,grow_⟩
 ·rw[b _ hs];have i:¬(a:Int) < R.n:=oo;have j:¬a < R.n:=oo;have l:decide ((a:Int) < (R.n:Int))=false:=by rw[decide_eq_false_iff_not];omega
  have n:(R.n:Int)<=a:=oo;clear c f b hs;go_enter func104,ntmps104;go_wp2;go_quiet (fail);go_wp2;go_ret;exact⟨rfl,grow_⟩
 ·have hv:isKm R.sg (some s) k m=((x.1==k)&&(x.2.1.toList==m.toList)):=by unfold isKm;rw[hs]
  rw[hv];obtain⟨kd,xt,xp,xz⟩:=x;dsimp only at e0 e1 e2 e3 |-
  have o:(a:Int) < R.n:=oo;clear c f b hs hx hv;rcases bft (kd==k)with h1|h1
  ·obtain rfl:kd=k:=eq_of_beq h1;rw[show(kd==kd)=true from h1,Bool.true_and];clear h1;go_enter func104,ntmps104;go_wp2;go_quiet (fail);go_wp2;go_ret;exact⟨rfl,grow_⟩
  ·rw[h1,Bool.false_and];go_enter func104,ntmps104;go_wp2;go_quiet (fail);go_wp2;go_ret;exact⟨rfl,grow_⟩
theorem QfI_ {sg:List SgP} {st:RdSt} {k:Int} {m:BA} (hk:k≠0) (h:isKm sg st k m=true):∃s,st=some s/\s.at_ < sg.length:=by
 cases st with
 |none=>exact absurd h (by rw[kM_ hk];decide)
 |some s=>
  refine⟨s,rfl,?_⟩;rcases Nat.lt_or_ge s.at_ sg.length with a|a
  ·exact a
  ·unfold isKm at h;rw[ZM_ (i:=0) a,show(sgZero.1==k)=false by rw[beq_eq_false_iff_ne];exact fun e=>hk e.symm,Bool.false_and]at h;exact absurd h (by decide)
theorem JL_ (sg:List SgP) (st:RdSt) (m:BA):isKm sg st 4 m=isM sg st m:=rfl
theorem Qd7_ (sg:List SgP) (st:RdSt) (m:BA):isKm sg st 1 m=isW sg st m:=rfl
def qY_ (sg:List SgP) (st:RdSt) (m:BA):RdSt:=if isW sg st m=true then Qe_ st else st
theorem KP_ {sg:List SgP} {st:RdSt} {m:BA} (h:isW sg st m=true):qY_ sg st m=Qe_ st:=if_pos h
theorem Zj_ {sg:List SgP} {st:RdSt} {m:BA} (h:isW sg st m=false):qY_ sg st m=st:=if_neg (by rw[h];decide)
theorem JS_ (R:RC) (hi:R.imp=false) (d:Nat) (st:RdSt) (row:ON) (m:BA) (w:World) (k:RdI R d st row w):
  Calls prog 76 #[.pointer (some ⟨R.T,0,none⟩),.string m] w (Does R d row w (.bool (isM R.sg st m)) (zN_ R.sg st m)):=by
 have h:=hid (GM_ R hi d st row 4 (by decide) m w k);rw[JL_]at h;have HI:=hid k;unfold Does;clear k;rcases bft (isM R.sg st m)with c|c
 ·rw[Qv_ c];rw[c]at h;obtain⟨s,rfl,n⟩:=Xb_ c;rw[c];clear c;go_enter func76,ntmps76;go_wp2_with fail
  refine h.o.mono ?_;rintro e w1 ⟨rfl,i⟩;obtain⟨a,b,AN,cN,l,g,j,f⟩:=HI.o.next i;obtain⟨c0,c1,c2,c3,c4,cf,cz⟩:=g.cs hi;have HF:=hid (RdI.sat1 hi g j f (by rw[<-g.2.2.2.2.2.2.len];exact n));have o:=g.2.2.2.2.1;have p:=g.2.2.2.2.2.2.most;clear g j f c0 c2 c3 c4;go_wp2;go_ret;exact⟨rfl,row,HF.o.1,(Kr.of_below i).trans HF.o.2⟩
 ·rw[QC_ c];rw[c]at h;rw[c];clear c;go_enter func76,ntmps76;go_wp2_with fail
  refine h.o.mono ?_;rintro e w1 ⟨rfl,i⟩;go_wp2;go_ret;exact⟨rfl,row,HI.o.next i,Kr.of_below i⟩
theorem U8_ {sg:List SgP} {st:RdSt} {m:BA} (h:isW sg st m=true):∃s,st=some s/\s.at_ < sg.length:=QfI_ (k:=1) (by decide) h
theorem QeU_ (R:RC) (hi:R.imp=false) (d:Nat) (st:RdSt) (row:ON) (m:BA) (w:World) (k:RdI R d st row w):
  Calls prog 73 #[.pointer (some ⟨R.T,0,none⟩),.string m] w (Does R d row w (.bool (isW R.sg st m)) (qY_ R.sg st m)):=by
 have h:=hid (GM_ R hi d st row 1 (by decide) m w k);rw[Qd7_]at h;have HI:=hid k;unfold Does;clear k;rcases bft (isW R.sg st m)with c|c
 ·rw[KP_ c];rw[c]at h;obtain⟨s,rfl,n⟩:=U8_ c;rw[c];clear c;go_enter func73,ntmps73;go_wp2_with fail
  refine h.o.mono ?_;rintro e w1 ⟨rfl,i⟩;obtain⟨a,b,AN,cN,l,g,j,f⟩:=HI.o.next i;obtain⟨c0,c1,c2,c3,c4,cf,cz⟩:=g.cs hi;have HF:=hid (RdI.sat1 hi g j f (by rw[<-g.2.2.2.2.2.2.len];exact n));have o:=g.2.2.2.2.1;have p:=g.2.2.2.2.2.2.most;clear g j f c0 c2 c3 c4;go_wp2;go_ret;exact⟨rfl,row,HF.o.1,(Kr.of_below i).trans HF.o.2⟩
 ·rw[Zj_ c];rw[c]at h;rw[c];clear c;go_enter func73,ntmps73;go_wp2_with fail
  refine h.o.mono ?_;rintro e w1 ⟨rfl,i⟩;go_wp2;go_ret;exact⟨rfl,row,HI.o.next i,Kr.of_below i⟩
theorem KA_ (R:RC) (hi:R.imp=false) (d:Nat) (st:RdSt) (row:ON) (m:BA) (w:World) (hI:RdI R d st row w):
  Calls prog 75 #[.pointer (some ⟨R.T,0,none⟩),.string m] w (Does R d row w (.tuple #[]) (Qk_ R.sg st m)):=by
 have i:=hid (JS_ R hi d st row m w hI);unfold Does at i |-
 clear hI;rcases bft (isM R.sg st m)with f|f
 ·rw[Zk_ f];rw[f,Qv_ f]at i;clear f;go_enter func75,ntmps75;go_wp2_with fail
  refine i.o.mono ?_;rintro e w1 ⟨rfl,c,h,n⟩;go_wp2;go_end0;exact⟨rfl,c,h,n⟩
 ·rw[GT_ f];rw[f,QC_ f]at i;clear f;go_enter func75,ntmps75;go_wp2_with fail
  refine i.o.mono ?_;rintro e w1 ⟨rfl,c,h,n⟩;obtain⟨a,b,AN,cN,l,j,k,g⟩:=h;obtain⟨c0,c1,c2,c3,c4,cf,cz⟩:=j.cs hi;have HF:=hid (RdI.sbad1 hi j g);clear j k g c0 c1 c3 c4;go_wp2;go_end0;exact⟨rfl,c,HF.o.1,n.trans HF.o.2⟩
theorem Yj_ (R:RC) (hi:R.imp=false) (d:Nat) (st:RdSt) (row:ON) (k:Int) (hk:k≠0) (g:k≠1) (w:World) (c:RdI R d st row w):
  Calls prog 71 #[.pointer (some ⟨R.T,0,none⟩),.int .i64 k] w fun e w'=>e=.returned (.bool ((Qu_ R.sg st 0).1==k))/\Below w.heap.size w w':=by
 have b:(sgZero.1==k)=false:=by rw[beq_eq_false_iff_ne];exact fun e=>hk e.symm
 have n:(k==1)=false:=beq_eq_false_iff_ne.2 g;rcases c.see hi with⟨rfl,c2,hs,cz,cf⟩|⟨s,a,rfl,ha,q,f,c0,c1,c2,hs,cz,cf⟩|⟨s,a,b1,off,x,rfl,ha,r,f,c0,c1,c2,hx,hs,cz,cf,h,p,e0,e1,e2,e3⟩
 ·rw[hs,b];clear c b;go_enter func71,ntmps71;go_wp2;go_quiet (fail);go_wp2;go_ret;exact⟨rfl,grow_⟩
 ·rw[hs,b];have l:decide ((a:Int) < (R.n:Int))=false:=by rw[decide_eq_false_iff_not];omega
  have i:¬(a:Int) < R.n:=oo;have j:¬a < R.n:=oo;have m:(R.n:Int)<=a:=oo;clear c b hs;go_enter func71,ntmps71;go_wp2;go_quiet (fail);go_wp2;go_ret;exact⟨rfl,grow_⟩
 ·rw[hs];obtain⟨kd,xt,xp,xz⟩:=x;dsimp only at e0 e1 e2 e3 |-
  have o:(a:Int) < R.n:=oo;clear c b hs hx;rcases bft (kd==k)with h1|h1
  ·obtain rfl:kd=k:=eq_of_beq h1;rw[show(kd==kd)=true from h1];clear h1;go_enter func71,ntmps71;go_wp2;go_quiet (fail);go_wp2;go_ret;exact⟨rfl,grow_⟩
  ·rw[h1];go_enter func71,ntmps71;go_wp2;go_quiet (fail);go_wp2;go_ret;exact⟨rfl,grow_⟩
theorem kR_ (R:RC) (hi:R.imp=false) (d:Nat) (st:RdSt) (row:ON) (w:World) (b:RdI R d st row w):
  Calls prog 71 #[.pointer (some ⟨R.T,0,none⟩),.int .i64 1] w fun e w'=>e=.returned (.bool (Kd_ R.sg st 0))/\Below w.heap.size w w':=by
 unfold Kd_;rcases b.see hi with⟨rfl,c2,hs,cz,cf⟩|⟨s,a,rfl,ha,n,c,c0,c1,c2,hs,cz,cf⟩|⟨s,a,b1,off,x,rfl,ha,o,c,c0,c1,c2,hx,hs,cz,cf,f,m,e0,e1,e2,e3⟩
 ·rw[hs,show((sgZero.1==1)&&!X3_ sgZero.2.1)=false from rfl];clear b;go_enter func71,ntmps71;go_wp2;go_quiet (fail);go_wp2;go_ret;exact⟨rfl,grow_⟩
 ·rw[hs,show((sgZero.1==1)&&!X3_ sgZero.2.1)=false from rfl];have j:decide ((a:Int) < (R.n:Int))=false:=by rw[decide_eq_false_iff_not];omega
  have g:¬(a:Int) < R.n:=oo;have i:¬a < R.n:=oo;have k:(R.n:Int)<=a:=oo;clear b hs;go_enter func71,ntmps71;go_wp2;go_quiet (fail);go_wp2;go_ret;exact⟨rfl,grow_⟩
 ·rw[hs];obtain⟨kd,xt,xp,xz⟩:=x;dsimp only at e0 e1 e2 e3 |-
  have l:(a:Int) < R.n:=oo;clear b hs hx;rcases bft (kd==1)with h1|h1
  ·obtain rfl:kd=1:=eq_of_beq h1;rw[show((1:Int)==1)=true from h1,Bool.true_and];clear h1;have HK:=hid (fun W=>Jd_ xt W);generalize X3_ xt=kb at HK |-
   go_enter func71,ntmps71;go_wp2;go_quiet ((go_at_call 103;exact Calls.quiet_of_same ((HK.o _).mono fun _ _ h=>⟨h.1,h.2.symm⟩)));go_wp2;go_ret;exact⟨rfl,grow_⟩
  ·rw[h1,Bool.false_and];go_enter func71,ntmps71;go_wp2;go_quiet (fail);go_wp2;go_ret;exact⟨rfl,grow_⟩
section
/-- text, once it is known what kind says. -/
theorem vR_ (R:RC) (hi:R.imp=false) (d:Nat) (st:RdSt) (row:ON) (k:Int) (w:World) (hI:RdI R d st row w) (g:∃s,st=some s/\s.at_ < R.sg.length)
    (HN:Hid (Calls prog 71 #[.pointer (some ⟨R.T,0,none⟩),.int .i64 k] w fun e w'=>e=.returned (.bool true)/\Below w.heap.size w w')):
    Calls prog 72 #[.pointer (some ⟨R.T,0,none⟩),.int .i64 k] w (Does R d row w (.string (Qu_ R.sg st 0).2.1) (Qe_ st)):=by
  have HI:=hid hI;unfold Does;clear hI;obtain⟨s,rfl,g⟩:=g;obtain⟨x,o⟩:∃x,R.sg[s.at_]? =some x:=⟨_,List.getElem?_eq_getElem g⟩;rw[show Qu_ R.sg (some s) 0=x from GL_ o];go_enter func72,ntmps72;go_wp2_with fail
  refine HN.o.mono ?_;rintro e w1 ⟨rfl,q⟩;have j:=HI.o.next q;have h:=j.old;have c:=j.ok;obtain⟨a,b,AN,cN,l,n,f,i⟩:=j;obtain⟨c0,c1,c2,c3,c4,cf,cz⟩:=n.cs hi;have m:=c.len;rw[f.2.1]at o;obtain⟨p,off,hA,t,e0,e1,e2,e3⟩:=XY_ (c.rd.below h) (show a < R.n by have:=f.2.1;omega) o;rw[hA]at c0;have r:=RdI.sat1 hi n f i (by have:=f.2.1;omega);have z:=n.2.2.2.2.1;have D:=c.most;have v:=c.low;have A:a < R.n:=by have:=f.2.1;omega
  have C:p≠R.T:=by
    obtain⟨b2,y,e,B,_⟩:=c.rd.at_ (show 0 < R.n from oo);rw[hA]at e;injection e with e;injection e with e _;omega
  clear n f i o m c h e0 e2 e3 g;have E:IntKind.i64.wrap ((a:Int)+1)=(a:Int)+1:=IntWalk.i64_in _ oo;have HK:=hid ((Kr.of_below q).trans r.2);have HF:=hid r.1;clear r q;go_upto_region 5 with fail
  have q0:(w1.setCell ⟨R.T,1,none⟩ (.int .i64 ((a:Int)+1))).cell? ⟨R.T,0,none⟩=some (.slice (some ⟨p,off,none⟩) R.n R.c):=by go_simp
  have q2:(w1.setCell ⟨R.T,1,none⟩ (.int .i64 ((a:Int)+1))).cell? ⟨R.T,1,none⟩=some (.int .i64 ((a:Int)+1)):=by go_simp
  have q1:(w1.setCell ⟨R.T,1,none⟩ (.int .i64 ((a:Int)+1))).cell? ⟨p,off+a * 4+1,none⟩=some (.string x.2.1):=by go_simp
  have F:IntKind.i64.wrap (a:Int)=(a:Int):=IntWalk.i64_in _ oo;clear e1 c0 c1 c2 c3 c4 cf;generalize w1.setCell ⟨R.T,1,none⟩ (.int .i64 ((a:Int)+1))=W at q0 q1 q2 HK HF |-
  go_quiet (fail);go_wp2;go_ret;exact⟨rfl,row,HF.o.next (below_drewN br _),HK.o.below (below_drewN br _)⟩
theorem Qgq_ (R:RC) (hi:R.imp=false) (d:Nat) (st:RdSt) (row:ON) (k:Int) (w:World) (hI:RdI R d st row w)
  (HN:Hid (Calls prog 71 #[.pointer (some ⟨R.T,0,none⟩),.int .i64 k] w fun e w'=>e=.returned (.bool false)/\Below w.heap.size w w')):
  Calls prog 72 #[.pointer (some ⟨R.T,0,none⟩),.int .i64 k] w (Does R d row w (.string noT) none):=by
 have HI:=hid hI;unfold Does;clear hI;go_enter func72,ntmps72;go_wp2_with fail
 refine HN.o.mono ?_;rintro e w1 ⟨rfl,g1⟩;obtain⟨a,b,AN,cN,l,f,g,c⟩:=HI.o.next g1;obtain⟨c0,c1,c2,c3,c4,cf,cz⟩:=f.cs hi;have HF:=hid (RdI.sbad1 hi f c);clear f g c c0 c1 c3 c4;go_wp2;go_ret;exact⟨rfl,row,HF.o.1,(Kr.of_below g1).trans HF.o.2⟩
theorem Qdl_ (R:RC) (hi:R.imp=false) (d:Nat) (st:RdSt) (row:ON) (w:World) (c:RdI R d st row w):
  Calls prog 72 #[.pointer (some ⟨R.T,0,none⟩),.int .i64 1] w (Does R d row w (.string (nmT R.sg st)) (nmS R.sg st)):=by
 have b:=kR_ R hi d st row w c;unfold nmT nmS;rcases bft (Kd_ R.sg st 0)with a|a
 ·rw[a]at b;rw[if_pos a,if_pos a];obtain⟨s,e,h⟩:=Z4_ a;exact vR_ R hi d st row 1 w c ⟨s,e,h⟩ b
 ·rw[a]at b;rw[if_neg (by rw[a];decide),if_neg (by rw[a];decide)];exact Qgq_ R hi d st row 1 w c b
theorem Vl_ (R:RC) (hi:R.imp=false) (d:Nat) (st:RdSt) (row:ON) (k:Int) (a:k≠0) (b:k≠1) (w:World) (hI:RdI R d st row w) (h:(Qu_ R.sg st 0).1=k):
  Calls prog 72 #[.pointer (some ⟨R.T,0,none⟩),.int .i64 k] w (Does R d row w (.string (Qu_ R.sg st 0).2.1) (Qe_ st)):=by
 have HN:=Yj_ R hi d st row k a b w hI;rw[h,show(k==k)=true from beq_self_eq_true k]at HN;refine vR_ R hi d st row k w hI ?_ HN
 cases st with
 |none=>exact absurd h.symm a
 |some s=>
  refine⟨s,rfl,?_⟩;rcases Nat.lt_or_ge s.at_ R.sg.length with c|c
  ·exact c
  ·rw[ZM_ (i:=0) c]at h;exact absurd h.symm a
end
theorem RdC.sblk3 {R:RC} {a d:Nat} {b:Bool} {AN:OA} {cN:Nat} {l:List Nd} {w w1 w3:World} (hi:R.imp=false) (h:RdC R a d b AN cN l w) (k:Below w.heap.size w w1) (hg:w1.grownBy w3 (Value.slice AN l.length cN).ownBlock):
  (∃v,w3.cell? ⟨R.T,4,none⟩=some v)/\(∀i,w3.frozen? ⟨R.T,i,none⟩=false)/\R.T < w3.heap.size:=by
 have g:=h.next k;rw[Qw_]at hg;have c:Blk w3 R.T R.ty (R.cells a d b (.slice AN l.length cN)):=g.1.grown hg (fun e=>by
  obtain⟨m,j⟩:=QP_ g.2.1 e.symm;exact KM_ g.1 j R.ty_node rfl)
 have f:=c;unfold RC.cells at c;rw[if_neg (by rw[hi];decide)]at c;exact⟨⟨_,c.cell 4⟩,f.frozen,f.lt⟩
theorem RC.scells_nodes {R:RC} (hi:R.imp=false) (a d:Nat) (b:Bool) (u v:Value):(R.cells a d b u).setIfInBounds 4 v=R.cells a d b v:=by
 unfold RC.cells;rw[if_neg (by rw[hi];decide),if_neg (by rw[hi];decide)];simp
theorem Qgb_ (R:RC) (hi:R.imp=false) (d:Nat) (st:RdSt) (row:ON) (x:Nd) (w:World) (hI:RdI R d st row w) (z:KidsIn w R.w0.heap.size R.U x) (m:x.blank=false):
  Calls prog 46 #[.pointer (some ⟨R.T,0,none⟩),.int .i64 x.kind,.string x.text,.slice x.adr x.cnt x.cap] w (Does R d row w (.int .i64 (KC_ st x.pn).1) (KC_ st x.pn).2):=by
 obtain⟨a,b,AN,cN,l,g,v,f⟩:=id hI;obtain⟨c0,c1,c2,c3,c4,cf,cz⟩:=g.cs hi;clear c0 c1 c3 hI;unfold Does
 cases st with
 |none=>
  obtain rfl:b=true:=v;rw[Z6_];have p:=hid (RdI.sbad1 hi g f);clear g z;go_enter func46,ntmps46;go_wp2;go_ret;exact⟨rfl,row,p.o.1,p.o.2⟩
 |some s=>
  obtain⟨rfl,ha,k⟩:=v;have o:s.nodes.length=l.length:=by rw[k,List.length_map]
  by_cases c:l.length=300
  ·rw[j4_ (o.trans c)];have p:=hid (RdI.sbad1 hi g f);rw[c]at c4;clear g z c o k;go_enter func46,ntmps46;go_wp2;go_ret;exact⟨rfl,row,p.o.1,p.o.2⟩
  ·rw[j5_ oo,o];have O:=g.2.2.2.1;have I:l.length < 300:=oo;obtain⟨i0,t,A,B,C⟩:=info_parts Qe0_;have D:=hid (And.intro t (And.intro A (And.intro B C)));have P:decide ((300:Int)<=(l.length:Int))=false:=(by rw[decide_eq_false_iff_not];omega);have J:¬(300:Int)<=(l.length:Int):=oo;have K:(l.length:Int) < 300:=oo;have L:¬300<=l.length:=oo;have HX:=hid z;have HC:=hid g;have HP:=hid (fun(v':Value) (w3:World) h1 h2 h3=>g.push x z I (w1:=w.alloc (.cells #[.int .i64 x.kind,.string x.text,.slice x.adr x.cnt x.cap,.bool false] 36)) bra (i:=4) (v':=v') (w3:=w3) h1 h2 h3 (RC.scells_nodes hi _ _ _ _ _));have H3:=hid (fun(w3:World) h=>g.sblk3 hi (w1:=w.alloc (.cells #[.int .i64 x.kind,.string x.text,.slice x.adr x.cnt x.cap,.bool false] 36)) (w3:=w3) bra h);have HM:=hid (Mine.alloc g.2.1 (.cells #[.int .i64 x.kind,.string x.text,.slice x.adr x.cnt x.cap,.bool false] 36));have E:=hid (show R.w0.heap.size<=(w.alloc (.cells #[.int .i64 x.kind,.string x.text,.slice x.adr x.cnt x.cap,.bool false] 36)).heap.size by
    have:=g.2.2.2.2.2.1.size;simp only[World.size_alloc];omega)
   have HH:=hid (show s.at_=a/\s.nodes=l.map Nd.pn from⟨ha,k⟩);have HR:=hid f;have M:=hid (heap_alloc_new w (.cells #[.int .i64 x.kind,.string x.text,.slice x.adr x.cnt x.cap,.bool false] 36));have N:=hid (show Qq_ x=[.int .i64 x.kind,.string x.text,.slice x.adr x.cnt x.cap,.bool false]by unfold Qq_;rw[m]);have n:=Qe5_ w x 36;rw[m]at n;have G:=hid n;clear t A B C g z ha k f m n;go_enter func46,ntmps46;go_wp2_with (at_builtin;(refine Qf_ _ rfl (.tmp 28) (.tmp 33) _ rfl R.w0.heap.size 36 i0 (.agg #[.int .i64 0,.string ⟨#[]⟩,.slice none 0 0,.bool false]) 4 56 underlying31 D.o.1 D.o.2.1 D.o.2.2.1 D.o.2.2.2 rfl (by decide) (.slice AN l.length cN) l.length (l.flatMap Qq_) rfl HM.o ⟨w.heap.size,0,none⟩ 1 1 (Qq_ x) rfl rfl G.o (Qe6_ _) (by unfold maxLen;omega) oo E.o ?_);intro v' w6 j e y;obtain⟨⟨v5,j5⟩,jf,jz⟩:=H3.o _ e;obtain⟨A3,c3,rfl,q,r⟩:=HP.o _ _ j e y)
   have F:=hid q;have H:=hid r;clear q r j e y;go_wp2;go_ret;refine⟨rfl,_,⟨a,false,_,_,_,F.o,⟨rfl,HH.o.1,?_⟩,rfl⟩,?_⟩
   ·rw[HH.o.2,List.map_append];rfl
   ·rw[HR.o];exact H.o
section
variable {R:RC} (U:Nat->Prop) (hi:R.imp=false) (d:Nat) (st:RdSt) (row:ON)
include hi
theorem RdC.csu {a:Nat} {b:Bool} {AN:OA} {cN:Nat} {l:List Nd} {w:World} (h:RdC { R with U:=U } a d b AN cN l w):
  w.cell? ⟨R.T,1,none⟩=some (.int .i64 a)/\w.cell? ⟨R.T,2,none⟩=some (.bool b)/\w.cell? ⟨R.T,3,none⟩=some (.int .i64 d)/\(∀i,w.frozen? ⟨R.T,i,none⟩=false)/\R.T < w.heap.size:=by
 obtain⟨c0,c1,c2,c3,c4,cf,cz⟩:=RdC.cs (R:={ R with U:=U }) hi h;exact⟨c1,c2,c3,cf,cz⟩
theorem QhH_ (k:Int) (hk:k≠0) (m:BA) (w:World) (hI:RdI { R with U:=U } d st row w):
 Calls prog 104 #[.pointer (some ⟨R.T,0,none⟩),.int .i64 k,.string m] w fun e w'=>e=.returned (.bool (isKm R.sg st k m))/\Below w.heap.size w w':=GM_ { R with U:=U } hi d st row k hk m w hI
theorem XX_ (m:BA) (w:World) (hI:RdI { R with U:=U } d st row w):
 Calls prog 76 #[.pointer (some ⟨R.T,0,none⟩),.string m] w fun e w'=>e=.returned (.bool (isM R.sg st m))/\∃row',RdI { R with U:=U } d (zN_ R.sg st m) row' w'/\Kr R.T row w row' w':=JS_ { R with U:=U } hi d st row m w hI
theorem Uf_ (m:BA) (w:World) (hI:RdI { R with U:=U } d st row w):
 Calls prog 73 #[.pointer (some ⟨R.T,0,none⟩),.string m] w fun e w'=>e=.returned (.bool (isW R.sg st m))/\∃row',RdI { R with U:=U } d (qY_ R.sg st m) row' w'/\Kr R.T row w row' w':=QeU_ { R with U:=U } hi d st row m w hI
theorem X8_ (m:BA) (w:World) (hI:RdI { R with U:=U } d st row w):
 Calls prog 75 #[.pointer (some ⟨R.T,0,none⟩),.string m] w fun e w'=>e=.returned (.tuple #[])/\∃row',RdI { R with U:=U } d (Qk_ R.sg st m) row' w'/\Kr R.T row w row' w':=KA_ { R with U:=U } hi d st row m w hI
theorem YK_ (w:World) (hI:RdI { R with U:=U } d st row w):
 Calls prog 72 #[.pointer (some ⟨R.T,0,none⟩),.int .i64 1] w fun e w'=>e=.returned (.string (nmT R.sg st))/\∃row',RdI { R with U:=U } d (nmS R.sg st) row' w'/\Kr R.T row w row' w':=Qdl_ { R with U:=U } hi d st row w hI
theorem Ym_ (k:Int) (t:BA) (A:OA) (n c:Nat) (ks:LI) (B:Nat) (w:World) (hI:RdI { R with U:=U } d st row w) (a:Mine w B 3 1 A n c (Qa_ ks)) (hB:({ R with U:=U }:RC).Lo B):
  Calls prog 46 #[.pointer (some ⟨R.T,0,none⟩),.int .i64 k,.string t,.slice A n c] w fun e w'=>e=.returned (.int .i64 (KC_ st ⟨k,t,ks,false⟩).1)/\∃row',RdI { R with U:=U } d (KC_ st ⟨k,t,ks,false⟩).2 row' w'/\Kr R.T row w row' w':=
 Qgb_ { R with U:=U } hi d st row ⟨k,t,A,n,c,ks,false⟩ w hI ⟨⟨vD_ a,fun g hg hu=>by have:=(Mine.blk a hg).1;have:=hB.2 g hu;omega⟩,a.more hB.1⟩ rfl
end
def QdC_ (R:RC) (F:FuncId) (d lo:Nat) (one:RdSt->PR):Prop:=
 ∀(U:Nat->Prop) (st:RdSt) (row:ON) (w:World),RdI { R with U:=U } d st row w->(∀s,st=some s->lo<=s.at_)->Calls prog F #[.pointer (some ⟨R.T,0,none⟩)] w fun e w'=>e=.returned (.int .i64 (one st).1)/\∃row',RdI { R with U:=U } d (one st).2 row' w'/\Kr R.T row w row' w'
def V9_ (R:RC) (w:World):Nat:=match w.cell? ⟨R.T,2,none⟩,w.cell? ⟨R.T,1,none⟩with|some (.bool false),some (.int _ a)=>R.n+1 - a.toNat|_,_=>0
theorem zD_ {R:RC} {U:Nat->Prop} {d:Nat} {s:PS} {row:ON} {w:World} (hi:R.imp=false) (h:RdI { R with U:=U } d (some s) row w):V9_ R w=R.n+1 - s.at_/\s.at_<=R.n:=by
 obtain⟨a,b,AN,cN,l,hc,⟨rfl,rfl,_⟩,_⟩:=h;obtain⟨c1,c2,c3,cf,cz⟩:=hc.csu _ hi;have:s.at_<=R.n:=hc.2.2.2.2.1;unfold V9_;rw[c2,c1];exact⟨rfl,this⟩
theorem QaK_ {R:RC} {U:Nat->Prop} {d:Nat} {row:ON} {w:World} (hi:R.imp=false) (h:RdI { R with U:=U } d none row w):V9_ R w=0:=by
 obtain⟨a,b,AN,cN,l,hc,hb,_⟩:=h;obtain rfl:b=true:=hb;obtain⟨c1,c2,c3,cf,cz⟩:=hc.csu _ hi;unfold V9_;rw[c2]
theorem ZA_ {R:RC} {U U':Nat->Prop} {d d':Nat} {s:PS} {row row':ON} {w w':World} (hi:R.imp=false) (h:RdI { R with U:=U } d (some s) row w) {st':RdSt} (h':RdI { R with U:=U' } d' st' row' w') {i j:Nat} (k:Adv (i+1) j (some s) st'):V9_ R w' < V9_ R w:=by
 obtain⟨e1,e2⟩:=zD_ hi h
 cases st' with
 |none=>have:=QaK_ hi h';omega
 |some t=>
  have e4:=zD_ hi h';obtain⟨s',e5,h1,_⟩:=k t rfl;obtain rfl:=Option.some.inj e5;omega
theorem Xv_ (sg:List SgP) (m:BA):Qk_ sg none m=none:=ZF_
theorem zX_ (R:RC) (hi:R.imp=false) (d lo:Nat) (one:RdSt->PR) (HO:Hid (QdC_ R 105 d lo one)) (h1:∀st,Adv 1 1 st (one st).2) (m:BA) (N:Nat) (st:RdSt) (row row0:ON) (w w0:World) (f:LI) (A0:OA) (c0:Nat)
  (hI:RdI (R.res A0) d st row w) (hm:Mine w w0.heap.size 3 1 A0 f.length c0 (Qa_ f)) (hk:Kr R.T row0 w0 row w) (hB:R.w0.heap.size<=w0.heap.size) (h0:f.length<=1) (ae:LoB lo st) (hN:Enough R.n N st):
  Calls prog 134 #[.pointer (some ⟨R.T,0,none⟩),.string m,.slice A0 f.length c0] w fun e w'=>∃(A:OA) (n c:Nat),e=.returned (.slice A n c)/\n=f.length+(QF_ R.sg one m N [] st).1.length/\Mine w' w0.heap.size 3 1 A n c (Qa_ (f++(QF_ R.sg one m N [] st).1))/\(QF_ R.sg one m N [] st).1.length<=301/\∃row',RdI (R.res A) d (Qk_ R.sg (QF_ R.sg one m N [] st).2 m) row' w'/\Kr R.T row0 w0 row' w':=by
 obtain⟨i0,aq,ar,av,ag⟩:=info_parts QB_;have H:=hid (And.intro aq (And.intro ar (And.intro av ag)));clear aq ar av ag;have q:=hid hI;have HM:=hid hm;have HK:=hid hk;have B:=hid ae;have HN:=hid hN;have HA:=hid h1;obtain⟨Q,hQ⟩:=ex_ (QF_ R.sg one m N [] st);rw[hQ];have j:=hid hQ;obtain⟨T,hT⟩:=ex_ (Qk_ R.sg Q.2 m);rw[hT];have HT:=hid hT;clear hT;clear hQ;clear hI ae hN h1 hm hk;go_enter func134,ntmps134;go_wp2;go_loopw [2] (fun v wr=>∃(M:Nat) (ks:LI) (st':RdSt) (row':ON) (A:OA) (n c:Nat),v=.slice A n c/\Hid (n=f.length+ks.length)/\Hid (QF_ R.sg one m M ks st'=Q)/\Hid (LoB lo st')/\Hid (Enough R.n M st')/\Hid (KidB ks st')/\Hid (Mine wr w0.heap.size 3 1 A n c (Qa_ (f++ks)))/\Hid (RdI (R.res A) d st' row' wr)/\Hid (Kr R.T row0 w0 row' wr)) (fun _ wr=>V9_ R wr)
 case atStart=>exact⟨N,[],st,row,A0,f.length,c0,rfl,(show f.length=f.length+0 from rfl),j,B,HN,⟨by simp,fun s _=>by simp⟩,by rw[List.append_nil];exact HM,q,HK⟩
 case round=>
  clear j B HN q HM HK;obtain⟨M,ks,st',row',A,n,c,rfl,HL,j,B,HN,K,HM,q,HK⟩:=hrel
  cases st' with
  |none=>
   obtain⟨a,b,AN,cN,l,hc,hb,D⟩:=q.o;obtain⟨c1,c2,c3,cf,cz⟩:=hc.csu _ hi;obtain rfl:b=true:=hb;have i:=j.o;rw[Vs_]at i;subst i;have ht:=HT.o;rw[Xv_]at ht;subst ht;clear hc c1 c3 D j HT;go_wp2;go_ret;exact⟨A,n,c,rfl,HL.o,HM.o,K.o.1,row',q.o,HK.o⟩
  |some s=>
   obtain⟨M,rfl⟩:∃M',M=M'+1:=⟨M - 1,by
    have h1:=HN.o s rfl;have h2:=(q.o.le rfl).1;have:(R.res A).n=R.n:=rfl;omega⟩
   obtain⟨a,b,AN,cN,l,hc,hb,D⟩:=q.o;obtain⟨c1,c2,c3,cf,cz⟩:=hc.csu _ hi;obtain⟨rfl,_,_⟩:=hb;have y:=hid (XX_ _ hi d (some s) row' m wr q.o);have i:=j.o;unfold QF_ at i;rw[if_neg (show ¬(some s).isNone=true by simp)]at i;clear hc c1 c3 D j;rcases bft (isM R.sg (some s) m)with h|h
   ·rw[if_pos h]at i;subst i;rw[h,Qv_ h]at y;have ht:=HT.o;rw[show Qk_ R.sg (ks,some s).2 m=Qe_ (some s)from Zk_ h]at ht;subst ht;clear h HT;go_wp2_with fail
    refine y.o.mono ?_;rintro e w2 ⟨rfl,row2,h2,k2⟩;have L:=hid (q.o.keepI k2 HM.o);have z:=hid (HK.o.trans k2);clear c2 cf cz;go_wp2;go_ret;exact⟨A,n,c,rfl,HL.o,L.o,K.o.1,row2,h2,z.o⟩
   ·rw[if_neg (by rw[h];decide)]at i;rw[h,QC_ h]at y;have j:=hid i;clear h i;go_wp2_with fail
    refine y.o.mono ?_;rintro e w2 ⟨rfl,row2,h2,k2⟩;have L:=hid (q.o.keepI k2 HM.o);have z:=hid (HK.o.trans k2);have G:=hid h2;have ag:=z.o.size;clear c2 cf cz h2 k2 y HM HK;have HC:=hid (HO.o _ (some s) row2 w2 G.o B.o);have aU:=K.o.2 s rfl;have aX:=(G.o.le rfl).2;have o:=HA.o (some s);have X:Hid (LoB lo (one (some s)).2):=B.o.adv o;have Y:Hid (Enough R.n M (one (some s)).2):=HN.o.adv o;have F:Hid (KidB (ks++[(one (some s)).1]) (one (some s)).2):=(show KidB _ _ from⟨by rw[lA];simp;omega,fun t e=>by
     obtain⟨s',e2,_,h3⟩:=o t e;obtain rfl:=Option.some.inj e2;rw[lA];simp;omega⟩)
    have V:=hid o;generalize one (some s)=r at HC j X Y F V;obtain⟨k,st2⟩:=r;dsimp only at HC j X Y F V;go_wp2_with fail
    refine HC.o.mono ?_;rintro e w3 ⟨rfl,ax,h3,k3⟩;have O:=hid (G.o.keepI k3 L.o);have Z:=hid h3;have ab:=hid (z.o.trans k3);have aY:=ab.o.size;have ae:=Z.o.lo.1;have ak:Hid (n+1=f.length+(ks++[k]).length):=(show _=_ by rw[lA,HL.o];simp;omega);have aV:n<=302:=(by have:=K.o.1;have:=HL.o;omega);clear h3 k3 G L z HC;have aD:Hid (R.w0.heap.size<=w0.heap.size):=(show R.w0.heap.size<=w0.heap.size from hB);go_wp2_with (at_builtin;(refine Qf_ _ rfl (.tmp 18) (.tmp 21) _ rfl w0.heap.size 3 i0 (.int .i64 0) 1 8 underlying34 H.o.1 H.o.2.1 H.o.2.2.1 H.o.2.2.2 rfl (by decide) (.slice A n c) n (Qa_ (f++ks)) rfl (Mine.alloc O.o _) ⟨w3.heap.size,0,none⟩ 1 1 [.int .i64 k] rfl rfl (Kq_ _ k _) (Kr_ _) (by unfold maxLen;omega) oo (by simp;omega) ?_);intro v' w4 C ad U;obtain⟨A4,am,rfl,h4,m4⟩:=RdI.appended Z.o O.o aD.o bra C ad U)
    have I:=hid ((ab.o.below bra).grown ad (fun g hg=>by rw[Qw_]at hg;exact(Mine.blk O.o hg).1));rw[<-QO_,List.append_assoc]at m4;have x:=hid h4;have P:=hid m4;clear C ad U h4 m4 Z O ab;have HS:=hid (XX_ _ hi d st2 ax ⟨#[44]⟩ w4 x.o);rcases bft (isM R.sg st2 ⟨#[44]⟩)with h|h
    ·rw[h,Qv_ h]at HS;have i:=j.o;rw[if_pos h]at i;have aH:=hid i;clear i j h;go_wp2_with fail
     refine HS.o.mono ?_;rintro e w5 ⟨rfl,E,h5,k5⟩;have S:=hid (x.o.keepI k5 P.o);have p:=hid h5;have J:=hid (I.o.trans k5);clear h5 k5 x P I;go_wp2;go_roundw
     case rel=>exact⟨M,ks++[k],Qe_ st2,E,A4,n+1,am,rfl,ak,aH,X.o.adv (Qh_ _),Y.o.mono (Qh_ _),F.o.mono (Qh_ _),S,p,J⟩
     case measure=>exact ZA_ hi q.o p.o ((V.o.trans (Qh_ st2)).weak (i':=1) (j':=0) oo oo)
    ·rw[h,QC_ h]at HS;have i:=j.o;rw[if_neg (by rw[h];decide)]at i;subst i;have ht:=HT.o;subst ht;clear j h HT;go_wp2_with fail
     refine HS.o.mono ?_;rintro e w5 ⟨rfl,E,h5,k5⟩;have S:=hid (x.o.keepI k5 P.o);have p:=hid h5;have J:=hid (I.o.trans k5);clear h5 k5 x P I;go_wp2_with fail
     refine(X8_ _ hi d st2 E m w5 p.o).mono ?_;rintro e w6 ⟨rfl,ay,h6,k6⟩;have aG:=hid (p.o.keepI k6 S.o);have aE:=hid h6;have aF:=hid (J.o.trans k6);clear h6 k6 p S J;go_wp2;go_ret;exact⟨A4,n+1,am,rfl,by have:=ak.o;simp at this;omega,aG.o,by have:=F.o.1;simp at this;omega,ay,aE.o,aF.o⟩
theorem q5_ (w:World):Mine (w.alloc (.cells #[] 3)) w.heap.size 3 1 (some ⟨w.heap.size,0,none⟩) 0 0 (Qa_ []):=jx_ w [] (by simp)
theorem Wq_ (R:RC) (hi:R.imp=false) (d:Nat) (N:Nat) (st:RdSt) (row:ON) (w:World) (hI:RdI R d st row w) (hN:R.n < N):
  Calls prog 77 #[.pointer (some ⟨R.T,0,none⟩)] w fun e w'=>∃(A:OA) (n c:Nat),e=.returned (.slice A n c)/\n=(QF_ R.sg (Qi_ R.sg) ⟨#[41]⟩ N [] (Qk_ R.sg st ⟨#[40]⟩)).1.length/\Mine w' w.heap.size 3 1 A n c (Qa_ (QF_ R.sg (Qi_ R.sg) ⟨#[41]⟩ N [] (Qk_ R.sg st ⟨#[40]⟩)).1)/\(QF_ R.sg (Qi_ R.sg) ⟨#[41]⟩ N [] (Qk_ R.sg st ⟨#[40]⟩)).1.length<=301/\∃row',RdI (R.res A) d (Qk_ R.sg (QF_ R.sg (Qi_ R.sg) ⟨#[41]⟩ N [] (Qk_ R.sg st ⟨#[40]⟩)).2 ⟨#[41]⟩) row' w'/\Kr R.T row w row' w':=by
 obtain⟨i0,aA,aC,aD,ab⟩:=info_parts QB_;have E:=hid (And.intro aA (And.intro aC (And.intro aD ab)));clear aA aC aD ab;have ag:=hid hI;have aB:=hI.lo.1;have HA:=hid (fun st=>QS_ (sg:=R.sg) st);obtain⟨Q,hQ⟩:=ex_ (QF_ R.sg (Qi_ R.sg) ⟨#[41]⟩ N [] (Qk_ R.sg st ⟨#[40]⟩));rw[hQ];have i:=hid hQ;obtain⟨T,hT⟩:=ex_ (Qk_ R.sg Q.2 ⟨#[41]⟩);rw[hT];have HT:=hid hT;clear hT hQ hI;go_enter func77,ntmps77;go_wp2_with fail
 have ap:=hid (q5_ w);have U:=hid (ag.o.res_new (A:=some ⟨w.heap.size,0,none⟩) (br.alloc (Nat.le_refl _) (.cells #[] 3)) (fun g hg=>by simp at hg;subst hg;simp));refine(X8_ _ hi d st row ⟨#[40]⟩ _ U.o).mono ?_;rintro e w1 ⟨rfl,aE,h1,k1⟩;have am:=hid (U.o.keepI k1 ap.o);have ah:=hid h1;have ai:=hid ((Kr.of_below (T:=R.T) (row:=row) ((Below.refl w.heap.size w).alloc (Nat.le_refl _) (.cells #[] 3))).trans k1);have ao:=i;clear h1 k1 ag U ap;go_wp2;go_loopw [3] (fun v wr=>∃(M:Nat) (ks:LI) (st':RdSt) (row':ON) (A:OA) (n c:Nat),v=.slice A n c/\Hid (n=ks.length)/\Hid (QF_ R.sg (Qi_ R.sg) ⟨#[41]⟩ M ks st'=Q)/\Hid (Enough R.n M st')/\Hid (KidB ks st')/\Hid (Mine wr w.heap.size 3 1 A n c (Qa_ ks))/\Hid (RdI (R.res A) d st' row' wr)/\Hid (Kr R.T row w row' wr)) (fun _ wr=>V9_ R wr)
 case atStart=>exact⟨N,[],Qk_ R.sg st ⟨#[40]⟩,aE,_,0,0,rfl,(show 0=0 from rfl),ao,(show Enough _ _ _ from QL_ hN _),⟨by simp,fun s _=>by simp⟩,am,ah,ai⟩
 case round=>
  clear i ao ah am ai;obtain⟨M,ks,st',row',A,n,c,rfl,HL,i,HN,G,HM,K,HK⟩:=hrel
  cases st' with
  |none=>
   obtain⟨a,b,AN,cN,l,hc,hb,y⟩:=K.o;obtain⟨c1,c2,c3,cf,cz⟩:=hc.csu _ hi;obtain rfl:b=true:=hb;have h:=i.o;rw[Vs_]at h;subst h;have ht:=HT.o;rw[Xv_]at ht;subst ht;clear hc c1 c3 y i HT;go_wp2;go_ret;exact⟨A,n,c,rfl,HL.o,HM.o,G.o.1,row',K.o,HK.o⟩
  |some s=>
   obtain⟨M,rfl⟩:∃M',M=M'+1:=⟨M - 1,by
    have h1:=HN.o s rfl;have h2:=(K.o.le rfl).1;have:(R.res A).n=R.n:=rfl;omega⟩
   obtain⟨a,b,AN,cN,l,hc,hb,y⟩:=K.o;obtain⟨c1,c2,c3,cf,cz⟩:=hc.csu _ hi;obtain⟨rfl,_,_⟩:=hb;have o:=hid (XX_ _ hi d (some s) row' ⟨#[41]⟩ wr K.o);have h:=i.o;unfold QF_ at h;rw[if_neg (show ¬(some s).isNone=true by simp)]at h;clear hc c1 c3 y i;rcases bft (isM R.sg (some s) ⟨#[41]⟩)with f|f
   ·rw[if_pos f]at h;subst h;rw[f,Qv_ f]at o;have ht:=HT.o;rw[show Qk_ R.sg (ks,some s).2 ⟨#[41]⟩=Qe_ (some s)from Zk_ f]at ht;subst ht;clear f HT;go_wp2_with fail
    refine o.o.mono ?_;rintro e w2 ⟨rfl,row2,h2,k2⟩;have H:=hid (K.o.keepI k2 HM.o);have p:=hid (HK.o.trans k2);clear c2 cf cz;go_wp2;go_ret;exact⟨A,n,c,rfl,HL.o,H.o,G.o.1,row2,h2,p.o⟩
   ·rw[if_neg (by rw[f];decide)]at h;rw[f,QC_ f]at o;have i:=hid h;clear f h;go_wp2_with fail
    refine o.o.mono ?_;rintro e w2 ⟨rfl,row2,h2,k2⟩;have H:=hid (K.o.keepI k2 HM.o);have p:=hid (HK.o.trans k2);have C:=hid h2;have ab:=p.o.size;clear c2 cf cz h2 k2 o HM HK;have HC:=hid (YK_ _ hi d (some s) row2 w2 C.o);have a7:=G.o.2 s rfl;have ba:=(C.o.le rfl).2;have q:=HA.o (some s);have P:Hid (Enough R.n M (Qi_ R.sg (some s)).2):=HN.o.adv q;have B:Hid (KidB (ks++[(Qi_ R.sg (some s)).1]) (Qi_ R.sg (some s)).2):=(show KidB _ _ from⟨by rw[lA];simp;omega,fun t e=>by
     obtain⟨s',e2,_,h3⟩:=q t e;obtain rfl:=Option.some.inj e2;rw[lA];simp;omega⟩)
    have O:=hid q;have HE:=hid (Ja_ (sg:=R.sg) (some s));generalize Qi_ R.sg (some s)=r at i P B O HE;obtain⟨k,st2⟩:=r;dsimp only at i P B O;generalize nmT R.sg (some s)=tx at HC HE;generalize nmS R.sg (some s)=a6 at HC HE;go_wp2_with fail
    refine HC.o.mono ?_;rintro e w3 ⟨rfl,aF,h3,k3⟩;have an:=hid (C.o.keepI k3 H.o);have D:=hid h3;have aj:=hid (p.o.trans k3);have al:=hid D.o.lo;clear h3 k3 C H p HC;have HP:=hid (Ym_ _ hi d a6 aF 1 tx _ 0 0 [] w3.heap.size (w3.alloc (.cells #[] 3)) (D.o.next bra) (q5_ w3) al.o);rw[HE.o]at HP;dsimp only at HP;clear HE;go_wp2_with fail
    refine HP.o.mono ?_;rintro e w4 ⟨rfl,aG,h4,k4⟩;have I:=Vq_ D k4 an;have V:=QQ_ aj k4;have S:=hid h4;have bb:=V.o.size;have a9:=S.o.lo.1;have ak:Hid (n+1=(ks++[k]).length):=(show _=_ by rw[lA,HL.o];simp);have a8:n<=302:=(by have:=G.o.1;have:=HL.o;omega);clear h4 k4 D an aj HP;have aO:Hid (R.w0.heap.size<=w.heap.size):=(show R.w0.heap.size<=w.heap.size from aB);go_wp2_with (at_builtin;(refine Qf_ _ rfl (.tmp 17) (.tmp 23) _ rfl w.heap.size 3 i0 (.int .i64 0) 1 8 underlying34 E.o.1 E.o.2.1 E.o.2.2.1 E.o.2.2.2 rfl (by decide) (.slice A n c) n (Qa_ ks) rfl (Mine.alloc I.o _) ⟨w4.heap.size,0,none⟩ 1 1 [.int .i64 k] rfl rfl (Kq_ _ k _) (Kr_ _) (by unfold maxLen;omega) oo (by simp;omega) ?_);intro v' w5 x Z L;obtain⟨A4,aq,rfl,h4,m4⟩:=RdI.appended S.o I.o aO.o bra x Z L)
    have F:=hid ((V.o.below bra).grown Z (fun g hg=>by rw[Qw_]at hg;exact(Mine.blk I.o hg).1));rw[<-QO_]at m4;have j:=hid h4;have J:=hid m4;clear x Z L h4 m4 S I V;have HS:=hid (XX_ _ hi d st2 aG ⟨#[44]⟩ w5 j.o);rcases bft (isM R.sg st2 ⟨#[44]⟩)with f|f
    ·rw[f,Qv_ f]at HS;have h:=i.o;rw[if_pos f]at h;have aR:=hid h;clear h i f;go_wp2_with fail
     refine HS.o.mono ?_;rintro e w6 ⟨rfl,z,h6,k6⟩;have Y:=hid (j.o.keepI k6 J.o);have m:=hid h6;have X:=hid (F.o.trans k6);clear h6 k6 j J F;go_wp2;go_roundw
     case rel=>exact⟨M,ks++[k],Qe_ st2,z,A4,n+1,aq,rfl,ak,aR,P.o.mono (Qh_ _),B.o.mono (Qh_ _),Y,m,X⟩
     case measure=>exact ZA_ hi K.o m.o ((O.o.trans (Qh_ st2)).weak (i':=1) (j':=0) oo oo)
    ·rw[f,QC_ f]at HS;have h:=i.o;rw[if_neg (by rw[f];decide)]at h;subst h;have ht:=HT.o;subst ht;clear i f HT;go_wp2_with fail
     refine HS.o.mono ?_;rintro e w6 ⟨rfl,z,h6,k6⟩;have Y:=hid (j.o.keepI k6 J.o);have m:=hid h6;have X:=hid (F.o.trans k6);clear h6 k6 j J F;go_wp2_with fail
     refine(X8_ _ hi d st2 z ⟨#[41]⟩ w6 m.o).mono ?_;rintro e w7 ⟨rfl,aH,h7,k7⟩;have aQ:=hid (m.o.keepI k7 Y.o);have aP:=hid (X.o.trans k7);go_wp2;go_ret;exact⟨A4,n+1,aq,rfl,by have:=ak.o;simp at this;omega,aQ.o,by have:=B.o.1;simp at this;omega,aH,h7,aP.o⟩
theorem ka_ {sg:List SgP} {j:Nat} {x y:SgP} (hx:sg[j]? =some x) (hy:sg[j+1]? =some y):Jq_ sg j=((x.2.1.toList==[41])&&(x.1==4)&&(y.2.1.toList==[61,62])&&(y.1==4)):=by
 have h:j+1 < sg.length:=(List.getElem?_eq_some_iff.1 hy).1;unfold Jq_;rw[hx,hy,decide_eq_true h,Bool.true_and]
 rfl
theorem Gj_ {sg:List SgP} {j:Nat} (h:¬j+1 < sg.length):Jq_ sg j=false:=by
 unfold Jq_;rw[decide_eq_false h]
 rfl
theorem QdO_ {sg:List SgP} {f j:Nat} (h:¬j+1 < sg.length):kb_ sg f j=false:=by
 cases f with
 |zero=>exact Gj_ h
 |succ f=>unfold kb_;rw[if_neg (fun e=>h e.1)];exact Gj_ h
theorem QdN_ {sg:List SgP} {s:PS} (h:isM sg (some s) ⟨#[40]⟩=true):xU_ sg (some s)=kb_ sg (sg.length+1) (s.at_+1):=by
 unfold xU_;rw[h,Bool.true_and]
theorem Qff_ {sg:List SgP} {st:RdSt} (h:isM sg st ⟨#[40]⟩=false):xU_ sg st=false:=by
 unfold xU_;rw[h,Bool.false_and]
theorem QbK_ (R:RC) (hi:R.imp=false) (d:Nat) (st:RdSt) (row:ON) (w:World) (L:RdI R d st row w):
  Calls prog 243 #[.pointer (some ⟨R.T,0,none⟩)] w fun e w'=>e=.returned (.bool (xU_ R.sg st))/\Below w.heap.size w w':=by
 have M:=hid (GM_ R hi d st row 4 (by decide) ⟨#[40]⟩ w L);rw[JL_]at M;obtain⟨a,b,AN,cN,l,hc,H,q⟩:=id L;obtain⟨V,c1,c2,X,Y,cf,cz⟩:=hc.cs hi;have HI:=hid L;rcases bft (isM R.sg st ⟨#[40]⟩)with p|p
 ·rw[p]at M;obtain⟨s,rfl,ag⟩:=Xb_ p;rw[QdN_ p];have ah:s.at_=a:=H.2.1;have S:=L.ok;have P:=S.len;have aB:=S.most;rw[ah];rw[P];obtain⟨Q,hQ⟩:=ex_ (kb_ R.sg (R.n+1) (a+1));rw[hQ];have t:=hid hQ;clear hQ p H hc L q V c2 X Y;have aA:a < R.n:=oo;go_enter func243,ntmps243;go_wp2_with fail
  refine M.o.mono ?_;rintro e w1 ⟨rfl,K⟩;go_wp2;go_loopw [3] (fun v wr=>∃(f j:Nat),v=.int .i64 j/\Hid (kb_ R.sg f j=Q)/\Hid (R.n < f+j)/\j<=R.n+1/\Below w.heap.size w wr) (fun v wr=>R.n+2 - (intOf v).toNat)
  case atStart=>exact⟨R.n+1,a+1,by go_num,t,(show R.n < R.n+1+(a+1)from oo),oo,K⟩
  case round=>
   clear t K c1 cz;obtain⟨f,j,rfl,t,J,hj,m⟩:=hrel;have D:=HI.o.next m;have g:=D.old;have i:=D.ok;obtain⟨a1,b1,aq,ar,l1,O,T,G⟩:=D;obtain⟨V,c1,c2,X,Y,cf,cz⟩:=O.cs hi;have aD:IntKind.i64.wrap ((j:Int)+1)=(j:Int)+1:=IntWalk.i64_in _ oo;clear c1 c2 X Y O T G;rcases Nat.lt_or_ge (j+1) R.n with ag|av
   ·obtain⟨x,I⟩:∃x,R.sg[j]? =some x:=⟨_,gE oo⟩;obtain⟨y,r⟩:∃y,R.sg[j+1]? =some y:=⟨_,gE oo⟩;obtain⟨b2,off,hA,al,e0,e1,e2,e3⟩:=XY_ (i.rd.below g) (show j < R.n from oo) I;obtain⟨b3,ao,B,h,g0,K,g2,g3⟩:=XY_ (i.rd.below g) (show j+1 < R.n from oo) r;rw[hA]at B;simp only[Option.some.injEq,Addr.mk.injEq,and_true]at B;obtain⟨rfl,rfl⟩:=B;rw[hA]at V;have ay:(j:Int)+1 < (R.n:Int):=oo;have ax:(j:Int) < (R.n:Int):=oo;have ht:((j:Int)+1).toNat=j+1:=oo;have k:=ka_ I r;obtain⟨f,rfl⟩:∃f',f=f'+1:=⟨f - 1,by have:=J.o;omega⟩;have c:=t.o;unfold kb_ at c;rw[I,r]at c;simp only[Option.getD_some]at c;obtain⟨xk,xt,xp,xz⟩:=x;obtain⟨yk,U,yp,yz⟩:=y;dsimp only at e0 e1 g0 K c k;clear e2 e3 g2 g3 t i;rcases bft (xk==1)with h1|h1
    ·obtain rfl:xk=1:=eq_of_beq h1;rw[if_pos ⟨oo,rfl⟩]at c;rcases bft (U.toList==[44])with N|N
     ·rw[if_pos N]at c;have ac:(U.toList != [44])=false:=(by rw[bne,N];rfl);have aa:=hid c;have Z:Hid (R.n < f+(j+2)):=(show R.n < f+(j+2)by have:=J.o;omega);have ai:IntKind.i64.wrap ((j:Int)+1+1)=(j:Int)+1+1:=IntWalk.i64_in _ oo;clear c k I r g hA;go_wp2;go_roundw
      case rel=>exact⟨f,j+2,by go_num,aa,Z,oo,m⟩
      case measure=>simp[intOf];omega
     ·have ac:(U.toList != [44])=true:=(by rw[bne,N];rfl);rw[if_neg (by rw[N];decide)]at c;have ai:IntKind.i64.wrap ((j:Int)+1+1)=(j:Int)+1+1:=IntWalk.i64_in _ oo;rcases Nat.lt_or_ge (j+2) R.n with an|am
      ·obtain⟨z,hz⟩:∃z,R.sg[j+1+1]? =some z:=⟨_,gE oo⟩;obtain⟨b4,ap,C,E,u0,u1,u2,u3⟩:=XY_ (HI.o.ok.rd.below g) (show j+1+1 < R.n from oo) hz;rw[hA]at C;simp only[Option.some.injEq,Addr.mk.injEq,and_true]at C;obtain⟨rfl,rfl⟩:=C;rw[ka_ r hz]at c;obtain⟨zk,zt,zp,zz⟩:=z;dsimp only at u0 u1 c;have az:(j:Int)+1+1 < (R.n:Int):=oo;have aC:((j:Int)+1+1).toNat=j+1+1:=oo;clear k I r g hA hz u2 u3 h E J;rcases bft (U.toList==[41])with n|n
       ·rcases bft (yk==4)with o|o
        ·rcases bft (zt.toList==[61,62])with A|A
         ·simp only[n,o,A,Bool.true_and,Bool.and_true,Bool.false_and,Bool.and_false]at c;subst c;go_wp2;go_ret;exact⟨rfl,m⟩
         ·simp only[n,o,A,Bool.true_and,Bool.and_true,Bool.false_and,Bool.and_false]at c;subst c;go_wp2;go_ret;exact⟨rfl,m⟩
        ·simp only[n,o,Bool.true_and,Bool.and_true,Bool.false_and,Bool.and_false]at c;subst c;go_wp2;go_ret;exact⟨rfl,m⟩
       ·simp only[n,Bool.true_and,Bool.and_true,Bool.false_and,Bool.and_false]at c;subst c;go_wp2;go_ret;exact⟨rfl,m⟩
      ·rw[Gj_ oo]at c;subst c;have F:¬(j:Int)+1+1 < (R.n:Int):=oo;have af:decide ((j:Int)+1+1 < (R.n:Int))=false:=decide_eq_false F;clear k I r g hA J h;go_wp2;go_ret;exact⟨rfl,m⟩
    ·rw[if_neg (fun e=>by rw[e.2]at h1;exact absurd h1 (by decide)),k]at c;clear k I r g hA J h;rcases bft (xt.toList==[41])with n|n
     ·rcases bft (xk==4)with o|o
      ·rcases bft (U.toList==[61,62])with A|A
       ·simp only[n,o,A,Bool.true_and,Bool.and_true,Bool.false_and,Bool.and_false]at c;subst c;go_wp2;go_ret;exact⟨rfl,m⟩
       ·simp only[n,o,A,Bool.true_and,Bool.and_true,Bool.false_and,Bool.and_false]at c;subst c;go_wp2;go_ret;exact⟨rfl,m⟩
      ·simp only[n,o,Bool.true_and,Bool.and_true,Bool.false_and,Bool.and_false]at c;subst c;go_wp2;go_ret;exact⟨rfl,m⟩
     ·simp only[n,Bool.true_and,Bool.and_true,Bool.false_and,Bool.and_false]at c;subst c;go_wp2;go_ret;exact⟨rfl,m⟩
   ·have c:=t.o;rw[QdO_ oo]at c;subst c;have F:¬(j:Int)+1 < (R.n:Int):=oo;have af:decide ((j:Int)+1 < (R.n:Int))=false:=decide_eq_false F;clear t J g i;go_wp2;go_ret;exact⟨rfl,m⟩
 ·rw[p]at M;rw[Qff_ p];clear p H hc L q V c2 X Y;go_enter func243,ntmps243;go_wp2_with fail
  refine M.o.mono ?_;rintro e w1 ⟨rfl,K⟩;go_wp2;go_ret;exact⟨rfl,K⟩
end Go.Proofs.YtgbikafalcbibaaGreatDoor

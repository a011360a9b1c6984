/-
  Put together by program (shake.py):SoA,SoB,SoC,SoD,SoE,SoF.
-/
import Derived.Test.YtgbikafalcbibaaGreatDoorMaB
import Derived.Shelf.SlSortCmp.KitK
set_option maxRecDepth 100000
set_option linter.all false
set_option maxHeartbeats 25600000
open Go.Lib (hid)
namespace Go.Proofs.YtgbikafalcbibaaGreatDoor
open Go.Sort
section
variable {α:Type} [Inhabited α] {lt:α->α->Bool} {tg:α->Nat}
def KZ_ (lt:α->α->Bool) (tg:α->Nat) (x y:α):Bool:=lt x y||(!lt y x&&decide (tg x < tg y))
omit [Inhabited α]in
theorem XW_ (h:SWO lt):SWO (KZ_ lt tg):=by
 constructor
 ·intro x;unfold KZ_;simp[h.irrefl x]
 ·intro x y z h1 a;unfold KZ_ at *;simp only[Bool.or_eq_true,Bool.and_eq_true,Bool.not_eq_true',decide_eq_true_eq]at *;rcases h1 with h1|⟨h1,t1⟩<;>rcases a with a|⟨a,t2⟩
  ·exact .inl (h.trans _ _ _ h1 a)
  ·refine .inl ?_
   cases b:lt x z with
   |true=>rfl
   |false=>have:=h.ntrans _ _ _ b a;rw[h1]at this;cases this
  ·refine .inl ?_
   cases b:lt x z with
   |true=>rfl
   |false=>have:=h.ntrans _ _ _ h1 b;rw[a]at this;cases this
  ·cases b:lt x z with
   |true=>exact .inl rfl
   |false=>exact .inr ⟨h.ntrans _ _ _ a h1,oo⟩
 ·intro x y z h1 a;unfold KZ_ at *;simp only[Bool.or_eq_false_iff,Bool.and_eq_false_iff,Bool.not_eq_false',decide_eq_false_iff_not]at *;obtain⟨a1,c⟩:=h1;obtain⟨a2,d⟩:=a;refine⟨h.ntrans _ _ _ a1 a2,?_⟩
  cases e:lt z x with
  |true=>exact .inl rfl
  |false=>
   refine .inr ?_;have e1:lt y x=false:=by
    cases f:lt y x with
    |false=>rfl
    |true=>
     have:=h.ntrans _ _ _ a2 e;rw[f]at this;cases this
   have e2:lt z y=false:=by
    cases g:lt z y with
    |false=>rfl
    |true=>
     have:=h.ntrans _ _ _ e a1;rw[g]at this;cases this
   rcases c with c|c
   ·rw[e1]at c;cases c
   ·rcases d with d|d
    ·rw[e2]at d;cases d
    ·omega
omit [Inhabited α]in
theorem Zr_ {x y:α} (h:tg y<=tg x):KZ_ lt tg x y=lt x y:=by
 unfold KZ_;rw[decide_eq_false oo,Bool.and_false,Bool.or_false]
omit [Inhabited α]in
theorem Qaz_ {x y:α} (hS:SWO lt) (h1:KZ_ lt tg x y=false) (h2:KZ_ lt tg y x=false):tg x=tg y:=by
 unfold KZ_ at *;simp only[Bool.or_eq_false_iff,Bool.and_eq_false_iff,Bool.not_eq_false',decide_eq_false_iff_not]at *;obtain⟨a1,a⟩:=h1;obtain⟨a2,b⟩:=h2;rw[a1]at b;rw[a2]at a;rcases a with a|a
 ·cases a
 ·rcases b with b|b
  ·cases b
  ·omega
theorem kK_ (a:Nat):∀(j:Nat) (d:Array α),j < d.size->(∀p,a<=p->p < j->tg d[p]! < tg d[j]!)->insInner lt a j d=insInner (KZ_ lt tg) a j d:=by
 intro j
 induction j with
 |zero=>intro d _ _;rfl
 |succ j ih=>
  intro d hj ht;unfold insInner;by_cases ha:j+1 > a
  ·have hl:KZ_ lt tg d[j+1]! d[j]! =lt d[j+1]! d[j]! :=Zr_ (Nat.le_of_lt (ht j oo oo));rw[hl];split
   ·refine ih _ (by rw[swp_size];omega) (fun p b c=>?_);rw[swp_get d hj oo,swp_get d hj oo,if_neg oo,if_neg oo,if_pos rfl];exact ht p b oo
   ·rfl
  ·rw[decide_eq_false ha];rfl
theorem qu_ (lt:α->α->Bool) (a:Nat):∀(j:Nat) (d:Array α),(insInner lt a j d).size=d.size:=by
 intro j
 induction j with
 |zero=>intro d;rfl
 |succ j ih=>
  intro d;unfold insInner;split
  ·rw[ih,swp_size]
  ·rfl
theorem qt_ (lt:α->α->Bool) (a b i:Nat) (e:i < b):∀(j:Nat) (d:Array α),a<=j->j<=i->b<=d.size->PermIn a (i+1) d (insInner lt a j d):=by
 intro j
 induction j with
 |zero=>intro d _ _ _;exact permIn_refl d a (i+1)
 |succ j ih=>
  intro d c f hb;unfold insInner;split
  ·rename_i hc;simp only[Bool.and_eq_true,decide_eq_true_eq]at hc;exact permIn_trans _ _ _ a (i+1) (swp_permIn d a (i+1) (j+1) j c oo oo oo oo) (ih _ oo oo (by rw[swp_size];exact hb))
  ·exact permIn_refl d a (i+1)
theorem kL_ (a b:Nat):∀(n i:Nat) (d:Array α),b - i=n->a<=i->b<=d.size->(∀p q,a<=p->p < q->i<=q->q < b->tg d[p]! < tg d[q]!)->insOuter lt a b i d=insOuter (KZ_ lt tg) a b i d:=by
 intro n
 induction n with
 |zero=>intro i d hn _ _ _;rw[insOuter,if_neg oo,insOuter,if_neg oo]
 |succ n ih=>
  intro i d hn j hb m;have e:i < b:=oo
  conv=>lhs;rw[insOuter,if_pos e]
  conv=>rhs;rw[insOuter,if_pos e]
  rw[<-kK_ a i d oo (fun p c f=>m p i c f (Nat.le_refl _) e)];have h:=qt_ lt a b i e i d j (Nat.le_refl _) hb;refine ih (i+1) _ oo oo (by rw[qu_];exact hb) (fun p q c l o g=>?_);have hq:(insInner lt a i d)[q]! =d[q]! :=h.2.1 q (.inr oo);rw[hq];by_cases f:p < i+1
  ·exact permIn_all d _ a (i+1) (fun x=>tg x < tg d[q]!) oo h (fun r k s=>m r q k oo oo g) p c f
  ·rw[h.2.1 p (.inr oo)];exact m p q c l oo g
theorem JJ_ (hS:SWO lt) (d:Array α) (a b:Nat) (c:a<=b) (hb:b<=d.size) (ht:∀p q,a<=p->p < q->q < b->tg d[p]! < tg d[q]!):
  PermIn a b d (insertionSort lt d a b)/\SortedIn (KZ_ lt tg) a b (insertionSort lt d a b):=by
 have e:insertionSort lt d a b=insertionSort (KZ_ lt tg) d a b:=by
  unfold insertionSort;exact kL_ a b _ (a+1) d rfl oo hb (fun p q f g _ h=>ht p q f g h)
 rw[e];exact insertionSort_holds (XW_ hS) d a b c hb
end
open Go.Sort
section
variable {α:Type} [Inhabited α]
def swR (d:Array α) (a b:Nat):Nat->Array α
 |0=>d
 |n+1=>swp (swR d a b n) (a+n) (b+n)
theorem Zw_ (d:Array α) (a b:Nat):∀n,(swR d a b n).size=d.size:=by
 intro n
 induction n with
 |zero=>rfl
 |succ n ih=>rw[swR,swp_size,ih]
theorem jP_ (d:Array α) (a b:Nat):∀n,a+n<=b->b+n<=d.size->∀k,(swR d a b n)[k]! =if a<=k/\k < a+n then d[k+b - a]! else if b<=k/\k < b+n then d[k+a - b]! else d[k]! :=by
 intro n
 induction n with
 |zero=>
  intro h1 h2 k;rw[if_neg oo,if_neg oo];rfl
 |succ n ih=>
  intro h1 h2 k;have g:=ih oo oo;rw[swR,swp_get _ (by rw[Zw_];omega) (by rw[Zw_];omega),g,g,g];by_cases e1:k=b+n
  ·subst e1;rw[if_pos rfl,if_neg oo,if_neg oo,if_neg oo,if_pos oo];congr 1;omega
  ·rw[if_neg e1];by_cases e2:k=a+n
   ·subst e2;rw[if_pos rfl,if_neg oo,if_neg oo,if_pos oo];congr 1;omega
   ·rw[if_neg e2];by_cases e3:a<=k/\k < a+n
    ·rw[if_pos e3,if_pos oo]
    ·rw[if_neg e3];by_cases e4:b<=k/\k < b+n
     ·rw[if_pos e4,if_neg oo,if_pos oo]
     ·rw[if_neg e4,if_neg oo,if_neg oo]
def q6_:Nat->Array α->Nat->Nat->Nat->Array α
 |0,d,_,_,_=>d
 |f+1,d,m,i,j=>if i=j then swR d (m - i) m i else if j < i then q6_ f (swR d (m - i) m j) m (i - j) j else q6_ f (swR d (m - i) (m+j - i) i) m i (j - i)
theorem QcS_:∀(f:Nat) (d:Array α) (m i j:Nat),(q6_ f d m i j).size=d.size:=by
 intro f
 induction f with
 |zero=>intro d m i j;rfl
 |succ f ih=>
  intro d m i j;unfold q6_;split
  ·exact Zw_ _ _ _ _
  ·split
   ·rw[ih,Zw_]
   ·rw[ih,Zw_]
theorem Qey_:∀(f:Nat) (d:Array α) (m i j:Nat),i+j<=f->0 < i->0 < j->i<=m->m+j<=d.size->∀k,(q6_ f d m i j)[k]! =if m - i<=k/\k < m - i+j then d[k+i]! else if m - i+j<=k/\k < m+j then d[k - j]! else d[k]! :=by
 intro f
 induction f with
 |zero=>intro d m i j h;omega
 |succ f ih=>
  intro d m i j hf hi hj b a k;unfold q6_;by_cases e:i=j
  ·subst e;rw[if_pos rfl,jP_ d (m - i) m i oo a]
   repeat' split
   all_goals first|(exfalso;omega)|rfl|(congr 1;omega)
  ·rw[if_neg e];by_cases e2:j < i
   ·rw[if_pos e2,ih _ m (i - j) j oo oo hj oo (by rw[Zw_];exact a)];have g:=jP_ d (m - i) m j oo a;rw[g,g,g]
    repeat' split
    all_goals first|(exfalso;omega)|rfl|(congr 1;omega)
   ·rw[if_neg e2,ih _ m i (j - i) oo hi oo b (by rw[Zw_];omega)];have g:=jP_ d (m - i) (m+j - i) i oo oo;rw[g,g,g]
    repeat' split
    all_goals first|(exfalso;omega)|rfl|(congr 1;omega)
theorem q1_ (d:Array α) (lo hi a b:Nat):∀n,lo<=a->a+n<=hi->lo<=b->b+n<=hi->hi<=d.size->PermIn lo hi d (swR d a b n):=by
 intro n
 induction n with
 |zero=>intro _ _ _ _ _;exact permIn_refl d lo hi
 |succ n ih=>
  intro h1 h2 h3 h4 h5;exact permIn_trans _ _ _ lo hi (ih h1 oo h3 oo h5) (swp_permIn _ lo hi _ _ oo oo oo oo (by rw[Zw_];exact h5))
theorem QcR_ (lo hi:Nat):∀(f:Nat) (d:Array α) (m i j:Nat),lo<=m - i->i<=m->m+j<=hi->hi<=d.size->PermIn lo hi d (q6_ f d m i j):=by
 intro f
 induction f with
 |zero=>intro d m i j _ _ _ _;exact permIn_refl d lo hi
 |succ f ih=>
  intro d m i j h1 h2 b a;unfold q6_;split
  ·next e=>subst e;exact q1_ d lo hi _ _ _ h1 oo oo b a
  ·split
   ·exact permIn_trans _ _ _ lo hi (q1_ d lo hi _ _ _ h1 oo oo b a) (ih _ _ _ _ oo oo b (by rw[Zw_];exact a))
   ·exact permIn_trans _ _ _ lo hi (q1_ d lo hi _ _ _ h1 oo oo oo a) (ih _ _ _ _ h1 h2 oo (by rw[Zw_];exact a))
def bsF (p:Nat->Bool):Nat->Nat->Nat->Nat
 |0,i,_=>i
 |f+1,i,j=>if i < j then (if p ((i+j) / 2)=true then bsF p f ((i+j) / 2+1) j else bsF p f i ((i+j) / 2))else i
theorem YA_ (p:Nat->Bool):∀(f i j:Nat),i<=j->j - i<=f->i<=bsF p f i j/\bsF p f i j<=j/\(i < bsF p f i j->p (bsF p f i j - 1)=true)/\(bsF p f i j < j->p (bsF p f i j)=false):=by
 intro f
 induction f with
 |zero=>
  intro i j h1 h2;obtain rfl:i=j:=oo;unfold bsF;exact⟨Nat.le_refl _,Nat.le_refl _,fun h=>absurd h (Nat.lt_irrefl _),fun h=>absurd h (Nat.lt_irrefl _)⟩
 |succ f ih=>
  intro i j h1 h2;unfold bsF;by_cases a:i < j
  ·rw[if_pos a];by_cases b:p ((i+j) / 2)=true
   ·rw[if_pos b];obtain⟨k1,k2,d,g⟩:=ih ((i+j) / 2+1) j oo oo;refine⟨oo,k2,fun _=>?_,g⟩;by_cases c:(i+j) / 2+1 < bsF p f ((i+j) / 2+1) j
    ·exact d c
    ·have e:bsF p f ((i+j) / 2+1) j - 1=(i+j) / 2:=oo;rw[e];exact b
   ·rw[if_neg b];obtain⟨k1,k2,d,g⟩:=ih i ((i+j) / 2) oo oo;refine⟨k1,oo,d,fun _=>?_⟩;by_cases c:bsF p f i ((i+j) / 2) < (i+j) / 2
    ·exact g c
    ·have e:bsF p f i ((i+j) / 2)=(i+j) / 2:=oo;rw[e];simpa using b
  ·rw[if_neg a];obtain rfl:i=j:=oo;exact⟨Nat.le_refl _,Nat.le_refl _,fun h=>absurd h (Nat.lt_irrefl _),fun h=>absurd h (Nat.lt_irrefl _)⟩
def shU (d:Array α) (a:Nat):Nat->Array α
 |0=>d
 |n+1=>swp (shU d a n) (a+n) (a+n+1)
theorem J4_ (d:Array α) (a:Nat):∀n,(shU d a n).size=d.size:=by
 intro n
 induction n with
 |zero=>rfl
 |succ n ih=>rw[shU,swp_size,ih]
theorem Qgl_ (d:Array α) (a:Nat):∀n,a+n < d.size->∀k,(shU d a n)[k]! =if a<=k/\k < a+n then d[k+1]! else if k=a+n then d[a]! else d[k]! :=by
 intro n
 induction n with
 |zero=>
  intro h k;show d[k]! =_;rw[if_neg oo];split
  ·next e=>subst e;rfl
  ·rfl
 |succ n ih=>
  intro h k;have g:=ih oo;rw[shU,swp_get _ (by rw[J4_];omega) (by rw[J4_];omega),g,g,g]
  repeat' split
  all_goals first|(exfalso;omega)|rfl|(congr 1;omega)
theorem QeE_ (d:Array α) (lo hi a:Nat):∀n,lo<=a->a+n < hi->hi<=d.size->PermIn lo hi d (shU d a n):=by
 intro n
 induction n with
 |zero=>intro _ _ _;exact permIn_refl d lo hi
 |succ n ih=>
  intro h1 h2 h3;exact permIn_trans _ _ _ lo hi (ih h1 oo h3) (swp_permIn _ lo hi _ _ oo oo oo oo (by rw[J4_];exact h3))
def shD (d:Array α) (m:Nat):Nat->Array α
 |0=>d
 |n+1=>swp (shD d m n) (m - n) (m - n - 1)
theorem J3_ (d:Array α) (m:Nat):∀n,(shD d m n).size=d.size:=by
 intro n
 induction n with
 |zero=>rfl
 |succ n ih=>rw[shD,swp_size,ih]
theorem Qgk_ (d:Array α) (m:Nat) (hm:m < d.size):∀n,n<=m->∀k,(shD d m n)[k]! =if m - n < k/\k<=m then d[k - 1]! else if k=m - n then d[m]! else d[k]! :=by
 intro n
 induction n with
 |zero=>
  intro h k;show d[k]! =_;rw[if_neg oo];split
  ·next e=>subst e;rfl
  ·rfl
 |succ n ih=>
  intro h k;have g:=ih oo;rw[shD,swp_get _ (by rw[J3_];omega) (by rw[J3_];omega),g,g,g]
  repeat' split
  all_goals first|(exfalso;omega)|rfl|(congr 1;omega)
theorem QeD_ (d:Array α) (lo hi m:Nat) (hm:m < hi) (hh:hi<=d.size):∀n,lo+n<=m->PermIn lo hi d (shD d m n):=by
 intro n
 induction n with
 |zero=>intro _;exact permIn_refl d lo hi
 |succ n ih=>
  intro h1;exact permIn_trans _ _ _ lo hi (ih oo) (swp_permIn _ lo hi _ _ oo oo oo oo (by rw[J3_];exact hh))
end
open Go.Sort
section
variable {α:Type} [Inhabited α]
def vk_ (lt:α->α->Bool) (d:Array α) (a m b:Nat):Nat:=
 if (a+b) / 2 < m then bsF (fun c=>!lt d[(a+b) / 2+m - 1 - c]! d[c]!) (b - a) ((a+b) / 2+m - b) ((a+b) / 2)
 else bsF (fun c=>!lt d[(a+b) / 2+m - 1 - c]! d[c]!) (b - a) a m
def Xk_ (d:Array α) (s m e:Nat):Array α:=if s < m/\m < e then q6_ (e - s) d m (m - s) (e - m)else d
def VI_ (lt:α->α->Bool):Nat->Array α->Nat->Nat->Nat->Array α
 |0,d,_,_,_=>d
 |f+1,d,a,m,b=>
  if m - a=1 then shU d a (bsF (fun h=>lt d[h]! d[a]!) (b - m) m b - 1 - a)
  else if b - m=1 then shD d m (m - bsF (fun h=>!lt d[m]! d[h]!) (m - a) a m)
  else
   let s:=vk_ lt d a m b
   let e:=(a+b) / 2+m - s
   let d1:=Xk_ d s m e
   let d2:=if a < s/\s < (a+b) / 2 then VI_ lt f d1 a s ((a+b) / 2)else d1
   if (a+b) / 2 < e/\e < b then VI_ lt f d2 ((a+b) / 2) e b else d2
variable {lt:α->α->Bool} {tg:α->Nat}
omit [Inhabited α]in
theorem QaA_ (hS:SWO lt) {x y z:α} (h1:KZ_ lt tg y x=false) (h2:KZ_ lt tg z y=false):KZ_ lt tg z x=false:=(XW_ hS).ntrans _ _ _ h2 h1
omit [Inhabited α]in
theorem QfT_ (hS:SWO lt) {x y:α} (h1:KZ_ lt tg x y=true):KZ_ lt tg y x=false:=(XW_ hS).asymmA h1
omit [Inhabited α]in
theorem qG_ (hS:SWO lt) {x y z:α} (h1:KZ_ lt tg x y=true) (h2:KZ_ lt tg z y=false):KZ_ lt tg x z=true:=by
 cases h:KZ_ lt tg x z with
 |true=>rfl
 |false=>have:=(XW_ hS).ntrans _ _ _ h h2;rw[h1]at this;cases this
omit [Inhabited α]in
theorem qF_ (hS:SWO lt) {x y z:α} (h1:KZ_ lt tg y x=false) (h2:KZ_ lt tg y z=true):KZ_ lt tg x z=true:=by
 cases h:KZ_ lt tg x z with
 |true=>rfl
 |false=>have:=(XW_ hS).ntrans _ _ _ h1 h;rw[h2]at this;cases this
theorem KE_ {a b:Nat} {d:Array α} (hS:SWO lt) (h:SortedIn (KZ_ lt tg) a b d) {i j:Nat} (h1:a<=i) (h2:i<=j) (h3:j < b):KZ_ lt tg d[j]! d[i]! =false:=by
 rcases Nat.lt_or_ge i j with c|c
 ·exact h i j h1 c h3
 ·obtain rfl:i=j:=oo;exact(XW_ hS).irrefl _
theorem Qhl_ (c:SWO lt) (d:Array α) (a m b:Nat) (hm:m - a=1) (s:a < m) (x:m < b) (hb:b<=d.size) (e:SortedIn (KZ_ lt tg) m b d) (ht:∀q,m<=q->q < b->tg d[a]! < tg d[q]!):
  PermIn a b d (shU d a (bsF (fun h=>lt d[h]! d[a]!) (b - m) m b - 1 - a))/\SortedIn (KZ_ lt tg) a b (shU d a (bsF (fun h=>lt d[h]! d[a]!) (b - m) m b - 1 - a)):=by
 obtain⟨k1,k2,k3,k4⟩:=YA_ (fun h=>lt d[h]! d[a]!) (b - m) m b oo oo;generalize bsF (fun h=>lt d[h]! d[a]!) (b - m) m b=i at *;have n:∀k,m<=k->k < i->KZ_ lt tg d[k]! d[a]! =true:=fun k o v=>by
  have h1:KZ_ lt tg d[i - 1]! d[a]! =true:=by rw[Zr_ (Nat.le_of_lt (ht _ oo oo))];exact k3 oo
  exact qF_ c (KE_ c e o oo oo) h1
 have f:∀k,i<=k->k < b->KZ_ lt tg d[k]! d[a]! =false:=fun k j l=>by
  have h1:KZ_ lt tg d[i]! d[a]! =false:=by rw[Zr_ (Nat.le_of_lt (ht _ oo oo))];exact k4 oo
  exact QaA_ c h1 (KE_ c e oo j l)
 refine⟨QeE_ d a b a _ (Nat.le_refl _) oo hb,fun p q t y r=>?_⟩;have g:=Qgl_ d a (i - 1 - a) oo;rw[g,g];by_cases q1:a<=q/\q < a+(i - 1 - a)
 ·rw[if_pos q1,if_pos oo];exact KE_ c e oo oo oo
 ·rw[if_neg q1];by_cases q2:q=a+(i - 1 - a)
  ·rw[if_pos q2,if_pos oo];exact QfT_ c (n _ oo oo)
  ·rw[if_neg q2];by_cases p1:a<=p/\p < a+(i - 1 - a)
   ·rw[if_pos p1];exact KE_ c e oo oo oo
   ·rw[if_neg p1];by_cases p2:p=a+(i - 1 - a)
    ·rw[if_pos p2];exact f q oo r
    ·rw[if_neg p2];exact KE_ c e oo oo oo
theorem Qhk_ (c:SWO lt) (d:Array α) (a m b:Nat) (hm:b - m=1) (s:a < m) (r:m < b) (hb:b<=d.size) (e:SortedIn (KZ_ lt tg) a m d) (ht:∀p,a<=p->p < m->tg d[p]! < tg d[m]!):
  PermIn a b d (shD d m (m - bsF (fun h=>!lt d[m]! d[h]!) (m - a) a m))/\SortedIn (KZ_ lt tg) a b (shD d m (m - bsF (fun h=>!lt d[m]! d[h]!) (m - a) a m)):=by
 obtain⟨k1,k2,k3,k4⟩:=YA_ (fun h=>!lt d[m]! d[h]!) (m - a) a m oo oo;generalize bsF (fun h=>!lt d[m]! d[h]!) (m - a) a m=i at *;simp only[Bool.not_eq_true',Bool.not_eq_false']at k3 k4;have o:∀k,a<=k->k < i->KZ_ lt tg d[m]! d[k]! =false:=fun k f v=>by
  have h1:KZ_ lt tg d[m]! d[i - 1]! =false:=by rw[Zr_ (Nat.le_of_lt (ht _ oo oo))];exact k3 oo
  exact QaA_ c (KE_ c e f oo oo) h1
 have j:∀k,i<=k->k < m->KZ_ lt tg d[m]! d[k]! =true:=fun k l n=>by
  have h1:KZ_ lt tg d[m]! d[i]! =true:=by rw[Zr_ (Nat.le_of_lt (ht _ oo oo))];exact k4 oo
  exact qG_ c h1 (KE_ c e oo l n)
 refine⟨QeD_ d a b m r hb _ oo,fun p q t x y=>?_⟩;have g:=Qgk_ d m oo (m - i) oo;rw[g,g];by_cases q1:m - (m - i) < q/\q<=m
 ·rw[if_pos q1];by_cases p1:m - (m - i) < p/\p<=m
  ·rw[if_pos p1];exact KE_ c e oo oo oo
  ·rw[if_neg p1];by_cases p2:p=m - (m - i)
   ·rw[if_pos p2];exact QfT_ c (j _ oo oo)
   ·rw[if_neg p2];exact KE_ c e oo oo oo
 ·rw[if_neg q1];by_cases q2:q=m - (m - i)
  ·rw[if_pos q2,if_neg oo,if_neg oo];exact o _ oo oo
  ·rw[if_neg q2,if_neg oo,if_neg oo];exact KE_ c e oo oo oo
theorem QdU_ (e:SWO lt) (d:Array α) (a m b:Nat) (h1:a+2<=m) (h2:m+2<=b) (hb:b<=d.size) (r:SortedIn (KZ_ lt tg) a m d) (t:SortedIn (KZ_ lt tg) m b d) (v:∀p q,a<=p->p < m->m<=q->q < b->tg d[p]! < tg d[q]!):
  a<=vk_ lt d a m b/\vk_ lt d a m b<=m/\vk_ lt d a m b<=(a+b) / 2/\m<=(a+b) / 2+m - vk_ lt d a m b/\(a+b) / 2+m - vk_ lt d a m b<=b/\
  (∀i j,vk_ lt d a m b<=i->i < m->m<=j->j < (a+b) / 2+m - vk_ lt d a m b->KZ_ lt tg d[j]! d[i]! =true)/\
  (∀i j,a<=i->i < vk_ lt d a m b->(a+b) / 2+m - vk_ lt d a m b<=j->j < b->KZ_ lt tg d[j]! d[i]! =false):=by
 unfold vk_;obtain⟨c,hc⟩:=ex_ ((a+b) / 2);have z:a+b=2 * c\/a+b=2 * c+1:=oo;rw[hc];by_cases k:c < m
 ·rw[if_pos k];obtain⟨k1,y,n,o⟩:=YA_ (fun x=>!lt d[c+m - 1 - x]! d[x]!) (b - a) (c+m - b) c oo oo;generalize bsF (fun x=>!lt d[c+m - 1 - x]! d[x]!) (b - a) (c+m - b) c=s at *;simp only[Bool.not_eq_true',Bool.not_eq_false']at n o;refine⟨oo,oo,y,oo,oo,fun i j hi f l g=>?_,fun i j hi f l g=>?_⟩
  ·have hs:s < c:=oo;have h:KZ_ lt tg d[c+m - 1 - s]! d[s]! =true:=(by rw[Zr_ (Nat.le_of_lt (v _ _ oo oo oo oo))];exact o hs);exact qG_ e (qF_ e (KE_ e t l oo oo) h) (KE_ e r oo hi f)
  ·have hs:c+m - b < s:=oo;have h:KZ_ lt tg d[c+m - 1 - (s - 1)]! d[s - 1]! =false:=(by rw[Zr_ (Nat.le_of_lt (v _ _ oo oo oo oo))];exact n hs);exact QaA_ e (KE_ e r hi (show i<=s - 1 from oo) oo) (QaA_ e h (KE_ e t oo oo g))
 ·rw[if_neg k];obtain⟨k1,y,n,o⟩:=YA_ (fun x=>!lt d[c+m - 1 - x]! d[x]!) (b - a) a m oo oo;generalize bsF (fun x=>!lt d[c+m - 1 - x]! d[x]!) (b - a) a m=s at *;simp only[Bool.not_eq_true',Bool.not_eq_false']at n o;refine⟨k1,y,oo,oo,oo,fun i j hi f l g=>?_,fun i j hi f l g=>?_⟩
  ·have hs:s < m:=oo;have h:KZ_ lt tg d[c+m - 1 - s]! d[s]! =true:=(by rw[Zr_ (Nat.le_of_lt (v _ _ oo oo oo oo))];exact o hs);exact qG_ e (qF_ e (KE_ e t l oo oo) h) (KE_ e r oo hi f)
  ·have hs:a < s:=oo;have h:KZ_ lt tg d[c+m - 1 - (s - 1)]! d[s - 1]! =false:=(by rw[Zr_ (Nat.le_of_lt (v _ _ oo oo oo oo))];exact n hs);exact QaA_ e (KE_ e r hi (show i<=s - 1 from oo) oo) (QaA_ e h (KE_ e t oo oo g))
theorem Xw_ (d:Array α) (s m e:Nat):(Xk_ d s m e).size=d.size:=by
 unfold Xk_;split
 ·exact QcS_ _ _ _ _ _
 ·rfl
theorem Qdn_ (d:Array α) (s m e:Nat) (h1:s<=m) (h2:m<=e) (h3:e<=d.size) (k:Nat):(Xk_ d s m e)[k]! =if s<=k/\k < s+(e - m)then d[k+(m - s)]! else if s+(e - m)<=k/\k < e then d[k - (e - m)]! else d[k]! :=by
 unfold Xk_;split
 ·next h=>
  rw[Qey_ _ d m (m - s) (e - m) oo oo oo oo oo]
  repeat' split
  all_goals first|(exfalso;omega)|rfl|(congr 1;omega)
 ·next h=>
  repeat' split
  all_goals first|(exfalso;omega)|rfl|(congr 1;omega)
theorem Qbv_ (d:Array α) (lo hi s m e:Nat) (h1:lo<=s) (h2:s<=m) (h3:m<=e) (h4:e<=hi) (h5:hi<=d.size):PermIn lo hi d (Xk_ d s m e):=by
 unfold Xk_;split
 ·exact QcR_ lo hi _ _ _ _ _ oo oo oo h5
 ·exact permIn_refl d lo hi
theorem Qdi_ (n:SWO lt):∀(f:Nat) (d:Array α) (a m b:Nat),b - a<=f->a < m->m < b->b<=d.size->SortedIn (KZ_ lt tg) a m d->SortedIn (KZ_ lt tg) m b d->(∀p q,a<=p->p < m->m<=q->q < b->tg d[p]! < tg d[q]!)->
  PermIn a b d (VI_ lt f d a m b)/\SortedIn (KZ_ lt tg) a b (VI_ lt f d a m b):=by
 intro f
 induction f with
 |zero=>intro d a m b h1 h l;omega
 |succ f ih=>
  intro d a m b hf D E K B C H;unfold VI_;by_cases N:m - a=1
  ·rw[if_pos N];exact Qhl_ n d a m b N D E K C (fun q h1 h=>H a q (Nat.le_refl _) D h1 h)
  ·rw[if_neg N];by_cases O:b - m=1
   ·rw[if_pos O];exact Qhk_ n d a m b O D E K B (fun p h1 h=>H p m h1 h (Nat.le_refl _) E)
   ·rw[if_neg O];dsimp only;obtain⟨s1,s2,s3,M,Z,s6,s7⟩:=QdU_ (tg:=tg) n d a m b oo oo K B C H;generalize vk_ lt d a m b=s at *;obtain⟨c,hc⟩:=ex_ ((a+b) / 2);have ac:a < c:=oo;have ad:c < b:=oo;rw[hc]at s3 M Z s6 s7 |-
    obtain⟨e,he⟩:=ex_ (c+m - s);rw[he]at M Z s6 s7 |-
    have V:s+(e - m)=c:=oo;have g:=Qdn_ d s m e s2 M oo;rw[V]at g;have hz:=Xw_ d s m e;have Q:=Qbv_ d a b s m e s1 s2 M Z K;generalize Xk_ d s m e=j at *
    -- the left half
    have L1:PermIn a c j (if a < s/\s < c then VI_ lt f j a s c else j)/\SortedIn (KZ_ lt tg) a c (if a < s/\s < c then VI_ lt f j a s c else j):=by
     by_cases v:a < s/\s < c
     ·rw[if_pos v];refine ih j a s c oo v.1 v.2 oo (fun p q h1 h l=>?_) (fun p q h1 h l=>?_) (fun p q h1 h l J=>?_)
      ·rw[g,g,if_neg oo,if_neg oo,if_neg oo,if_neg oo];exact KE_ n B h1 oo oo
      ·rw[g,g,if_pos oo,if_pos oo];exact KE_ n C oo oo oo
      ·rw[g,g,if_neg oo,if_neg oo,if_pos oo];exact H _ _ h1 oo oo oo
     ·rw[if_neg v];refine⟨permIn_refl _ _ _,fun p q h1 h l=>?_⟩;rw[g,g];by_cases af:s=a
      ·rw[if_pos oo,if_pos oo];exact KE_ n C oo oo oo
      ·rw[if_neg oo,if_neg oo,if_neg oo,if_neg oo];exact KE_ n B h1 oo oo
    obtain⟨i,R⟩:=ex_ (if a < s/\s < c then VI_ lt f j a s c else j);rw[R]at L1 |-
    obtain⟨F,S2⟩:=L1;have t:∀k,c<=k->i[k]! =j[k]! :=fun k T=>F.2.1 k (.inr T)
    have R1:PermIn c b i (if c < e/\e < b then VI_ lt f i c e b else i)/\SortedIn (KZ_ lt tg) c b (if c < e/\e < b then VI_ lt f i c e b else i):=by
     by_cases v:c < e/\e < b
     ·rw[if_pos v];refine ih i c e b oo v.1 v.2 (by rw[F.1];omega) (fun p q h1 h l=>?_) (fun p q h1 h l=>?_) (fun p q h1 h l J=>?_)
      ·rw[t _ oo,t _ oo,g,g,if_neg oo,if_pos oo,if_neg oo,if_pos oo];exact KE_ n B oo oo oo
      ·rw[t _ oo,t _ oo,g,g,if_neg oo,if_neg oo,if_neg oo,if_neg oo];exact KE_ n C oo oo oo
      ·rw[t _ oo,t _ oo,g,g,if_neg oo,if_pos oo,if_neg oo,if_neg oo];exact H _ _ oo oo oo oo
     ·rw[if_neg v];refine⟨permIn_refl _ _ _,fun p q h1 h l=>?_⟩;rw[t _ oo,t _ oo,g,g];by_cases ae:e=c
      ·rw[if_neg oo,if_neg oo,if_neg oo,if_neg oo];exact KE_ n C oo oo oo
      ·rw[if_neg oo,if_pos oo,if_neg oo,if_pos oo];exact KE_ n B oo oo oo
    obtain⟨y,S⟩:=ex_ (if c < e/\e < b then VI_ lt f i c e b else i);rw[S]at R1 |-
    obtain⟨I,S3⟩:=R1;have z1:=F.1;have z2:=I.1;have P:∀k,k < c->y[k]! =i[k]! :=fun k T=>I.2.1 k (.inl T)
    have A:∀p q,a<=p->p < c->c<=q->q < b->KZ_ lt tg j[q]! j[p]! =false:=fun p q h1 h l J=>by
     rw[g,g];by_cases L:s<=p/\p < c
     ·rw[if_neg oo,if_pos L];by_cases z:c<=q/\q < e
      ·rw[if_pos z];exact QfT_ n (s6 _ _ oo oo oo oo)
      ·rw[if_neg z];exact KE_ n C oo oo oo
     ·rw[if_neg oo,if_neg L,if_neg (oo:¬(c<=p/\p < e))];by_cases z:c<=q/\q < e
      ·rw[if_pos z];exact KE_ n B oo oo oo
      ·rw[if_neg z];exact s7 _ _ oo oo oo oo
    have o:∀p q,a<=p->p < c->c<=q->q < b->KZ_ lt tg y[q]! y[p]! =false:=fun p q h1 h l J=>by
     refine permIn_all i y c b (fun x=>KZ_ lt tg x y[p]! =false) oo I (fun r G U=>?_) q l J;rw[P p h,t r G];exact permIn_all j i a c (fun x=>KZ_ lt tg j[r]! x=false) oo F (fun u X Y=>A u r X Y G U) p h1 h
    refine⟨permIn_trans _ _ _ a b Q (permIn_trans _ _ _ a b (permIn_mono j i a c a b (Nat.le_refl _) oo oo F) (permIn_mono i y c b a b oo (Nat.le_refl _) oo I)),fun p q h1 h l=>?_⟩;by_cases z:q < c
    ·rw[P p oo,P q z];exact S2 p q h1 h z
    ·by_cases L:p < c
     ·exact o p q h1 L oo l
     ·exact S3 p q oo h l
end
open Go.Sort
section
variable {α:Type} [Inhabited α]
def Gs_ (lt:α->α->Bool) (n:Nat):Nat->Array α->Nat->Array α
 |0,d,_=>d
 |f+1,d,a=>if a+20<=n then Gs_ lt n f (insertionSort lt d a (a+20)) (a+20)else insertionSort lt d a n
def vE_ (lt:α->α->Bool) (n s:Nat):Nat->Array α->Nat->Array α
 |0,d,_=>d
 |f+1,d,a=>if a+2 * s<=n then vE_ lt n s f (VI_ lt (2 * s) d a (a+s) (a+2 * s)) (a+2 * s)else if a+s < n then VI_ lt (n - a) d a (a+s) n else d
def stF (lt:α->α->Bool) (n:Nat):Nat->Array α->Nat->Array α
 |0,d,_=>d
 |f+1,d,s=>if s < n then stF lt n f (vE_ lt n s (n+1) d 0) (2 * s)else d
def Z1_ (lt:α->α->Bool) (d:Array α):Array α:=stF lt d.size (d.size+1) (Gs_ lt d.size (d.size+1) d 0) 20
variable {lt:α->α->Bool} {tg:α->Nat}
def Cut (tg:α->Nat) (n c:Nat) (d:Array α):Prop:=∀p q,p < c->c<=q->q < n->tg d[p]! < tg d[q]!
theorem Cut.perm {n c lo hi:Nat} {d d':Array α} (h:Cut tg n c d) (a:PermIn lo hi d d') (hh:hi<=n) (hn:n<=d.size) (hc:hi<=c\/c<=lo):Cut tg n c d':=by
 intro p q hp hq f;by_cases b:lo<=p/\p < hi
 ·rw[a.2.1 q oo];exact permIn_all d d' lo hi (fun x=>tg x < tg d[q]!) oo a (fun r h1 h2=>h r q oo hq f) p b.1 b.2
 ·rw[a.2.1 p oo];by_cases e:lo<=q/\q < hi
  ·exact permIn_all d d' lo hi (fun x=>tg d[p]! < tg x) oo a (fun r h1 h2=>h p r hp oo oo) q e.1 e.2
  ·rw[a.2.1 q oo];exact h p q hp hq f
theorem Gc_ {a b lo hi:Nat} {d d':Array α} {r:α->α->Bool} (h:SortedIn r a b d) (hP:PermIn lo hi d d') (hx:b<=lo\/hi<=a):SortedIn r a b d':=by
 intro p q h1 h2 h3;rw[hP.2.1 p oo,hP.2.1 q oo];exact h p q h1 h2 h3
def BS (lt:α->α->Bool) (tg:α->Nat) (n s:Nat) (d:Array α):Prop:=(∀j,Cut tg n (j * s) d)/\∀j,SortedIn (KZ_ lt tg) (j * s) (min (j * s+s) n) d
theorem Qd4_ (hS:SWO lt) (n:Nat):∀(f:Nat) (d:Array α) (k:Nat),n - k * 20 < f->n=d.size->k * 20<=n->(∀c,c ≥ k * 20->Cut tg n c d)->(∀j,Cut tg n (j * 20) d)->(∀j,j < k->SortedIn (KZ_ lt tg) (j * 20) (j * 20+20) d)->
  PermIn 0 n d (Gs_ lt n f d (k * 20))/\BS lt tg n 20 (Gs_ lt n f d (k * 20)):=by
 intro f
 induction f with
 |zero=>intro d k h;omega
 |succ f ih=>
  intro d k hf hn hk hC hJ m;unfold Gs_;have g:∀p q,k * 20<=p->p < q->q < n->tg d[p]! < tg d[q]! :=fun p q h1 i l=>hC q oo p q i (Nat.le_refl _) l
  by_cases h:k * 20+20<=n
  ·rw[if_pos h];obtain⟨a,r⟩:=JJ_ (tg:=tg) hS d (k * 20) (k * 20+20) oo oo (fun p q h1 i l=>g p q h1 i oo);generalize insertionSort lt d (k * 20) (k * 20+20)=s at *;have e:k * 20+20=(k+1) * 20:=oo;rw[e]at a r h |-
   obtain⟨P2,B2⟩:=ih s (k+1) oo (by rw[a.1];exact hn) h
    (fun c hc=>(hC c oo).perm a h oo (.inl hc))
    (fun j=>(hJ j).perm a h oo (by rcases Nat.lt_or_ge k j with b|b<;>omega))
    (fun j b=>by
     rcases Nat.lt_or_ge j k with o|o
     ·exact Gc_ (m j o) a (.inl oo)
     ·obtain rfl:j=k:=oo;rw[e];exact r)
   exact⟨permIn_trans _ _ _ 0 n (permIn_mono d s _ _ 0 n (Nat.zero_le _) h oo a) P2,B2⟩
  ·rw[if_neg h];obtain⟨a,r⟩:=JJ_ (tg:=tg) hS d (k * 20) n hk oo (fun p q h1 i l=>g p q h1 i l);generalize insertionSort lt d (k * 20) n=s at *;refine⟨permIn_mono d s _ _ 0 n (Nat.zero_le _) (Nat.le_refl _) oo a,fun j=>(hJ j).perm a (Nat.le_refl _) oo ?_,fun j=>?_⟩
   ·rcases Nat.lt_or_ge k j with b|b<;>omega
   ·rcases Nat.lt_trichotomy j k with b|b|b
    ·rw[Nat.min_eq_left oo];exact Gc_ (m j b) a (.inl oo)
    ·subst b;rw[Nat.min_eq_right oo];exact r
    ·intro p q h1 i l;omega
theorem QfX_ (hS:SWO lt) (n s:Nat) (hs:0 < s):∀(f:Nat) (d:Array α) (k a:Nat),a=k * (2 * s)->n < a+f->n=d.size->a<=n->(∀j,Cut tg n (j * (2 * s)) d)->(∀j,a<=j * s->Cut tg n (j * s) d)->
  (∀j,j < k->SortedIn (KZ_ lt tg) (j * (2 * s)) (j * (2 * s)+2 * s) d)->(∀j,a<=j * s->SortedIn (KZ_ lt tg) (j * s) (min (j * s+s) n) d)->
  PermIn 0 n d (vE_ lt n s f d a)/\BS lt tg n (2 * s) (vE_ lt n s f d a):=by
 intro f
 induction f with
 |zero=>intro d k a y h;omega
 |succ f ih=>
  intro d k a y hf hn A o hC hB r;have e2:(2 * k) * s=a:=by rw[y,Nat.mul_comm 2 k,Nat.mul_assoc]
  have e3:(2 * k+1) * s=a+s:=by rw[Nat.add_mul,Nat.one_mul,e2]
  have e:∀j,j * (2 * s)<=a\/a+2 * s<=j * (2 * s):=fun j=>by
   rcases Nat.lt_or_ge k j with h|h
   ·right;have:=Nat.mul_le_mul_right (2 * s) (show k+1<=j from h);rw[Nat.add_mul,Nat.one_mul]at this;omega
   ·left;have:=Nat.mul_le_mul_right (2 * s) h;omega
  have m:∀j,j < k->j * (2 * s)+2 * s<=a:=fun j b=>by
   have:=Nat.mul_le_mul_right (2 * s) (show j+1<=k from b);rw[Nat.add_mul,Nat.one_mul]at this;omega
  have hA:SortedIn (KZ_ lt tg) a (min (a+s) n) d:=by have:=r (2 * k) oo;rw[e2]at this;exact this
  have i:SortedIn (KZ_ lt tg) (a+s) (min (a+s+s) n) d:=by have:=r (2 * k+1) oo;rw[e3]at this;exact this
  have x:Cut tg n (a+s) d:=by have:=hC (2 * k+1) oo;rw[e3]at this;exact this
  unfold vE_;by_cases h:a+2 * s<=n
  ·rw[if_pos h];rw[Nat.min_eq_left oo]at hA i;obtain⟨c,v⟩:=Qdi_ (tg:=tg) hS (2 * s) d a (a+s) (a+2 * s) oo oo oo oo hA (by rw[show a+2 * s=a+s+s from oo];exact i) (fun p q h1 l z h4=>x p q l z oo);generalize VI_ lt (2 * s) d a (a+s) (a+2 * s)=g at *;have hm:∀j,a+2 * s<=j * s->a<=j * s:=fun j b=>oo
   obtain⟨P2,B2⟩:=ih g (k+1) (a+2 * s) (by rw[Nat.add_mul,Nat.one_mul,y]) oo (by rw[c.1];exact hn) h
    (fun j=>(o j).perm c h oo (e j).symm)
    (fun j b=>(hC j (hm j b)).perm c h oo (.inl b))
    (fun j b=>by
     rcases Nat.lt_or_ge j k with t|t
     ·exact Gc_ (hB j t) c (.inl (m j t))
     ·obtain rfl:j=k:=oo;rw[<-y];exact v)
    (fun j b=>Gc_ (r j (hm j b)) c (.inr b))
   exact⟨permIn_trans _ _ _ 0 n (permIn_mono d g _ _ 0 n (Nat.zero_le _) h oo c) P2,B2⟩
  ·rw[if_neg h];have fin:∀g:Array α,PermIn a n d g->SortedIn (KZ_ lt tg) a n g->PermIn 0 n d g/\BS lt tg n (2 * s) g:=fun g c v=>by
    refine⟨permIn_mono d g _ _ 0 n (Nat.zero_le _) (Nat.le_refl _) oo c,fun j=>?_,fun j=>?_⟩
    ·rcases e j with b|b
     ·exact(o j).perm c (Nat.le_refl _) oo (.inr b)
     ·exact(o j).perm c (Nat.le_refl _) oo (.inl oo)
    ·rcases Nat.lt_trichotomy j k with b|b|b
     ·have:=m j b;rw[Nat.min_eq_left oo];exact Gc_ (hB j b) c (.inl this)
     ·subst b;rw[<-y,Nat.min_eq_right oo];exact v
     ·rcases e j with h5|h5
      ·exfalso;have:=Nat.mul_le_mul_right (2 * s) (show k+1<=j from b);rw[Nat.add_mul,Nat.one_mul]at this;omega
      ·intro p q h1 l z;omega
   by_cases l:a+s < n
   ·rw[if_pos l];rw[Nat.min_eq_left oo]at hA;rw[Nat.min_eq_right oo]at i;obtain⟨c,v⟩:=Qdi_ (tg:=tg) hS (n - a) d a (a+s) n oo oo l oo hA i (fun p q h1 l z h4=>x p q l z h4);exact fin _ c v
   ·rw[if_neg l];rw[Nat.min_eq_right oo]at hA;exact fin d (permIn_refl _ _ _) hA
theorem Qhf_ (hS:SWO lt) (n:Nat):∀(f:Nat) (d:Array α) (s:Nat),0 < s->n < s+f->n=d.size->BS lt tg n s d->PermIn 0 n d (stF lt n f d s)/\SortedIn (KZ_ lt tg) 0 n (stF lt n f d s):=by
 intro f
 induction f with
 |zero=>
  intro d s hs h c a;unfold stF;have:=a.2 0;rw[Nat.zero_mul,Nat.min_eq_right oo]at this;exact⟨permIn_refl _ _ _,this⟩
 |succ f ih=>
  intro d s hs h c a;unfold stF;by_cases b:s < n
  ·rw[if_pos b];have e:∀j,j * (2 * s)=(2 * j) * s:=fun j=>by rw[Nat.mul_comm 2 j,Nat.mul_assoc]
   obtain⟨P1,B1⟩:=QfX_ (tg:=tg) hS n s hs (n+1) d 0 0 oo oo c (Nat.zero_le _) (fun j=>by rw[e];exact a.1 _) (fun j _=>a.1 j) (fun j hj=>oo) (fun j _=>a.2 j);obtain⟨P2,S2⟩:=ih _ (2 * s) oo oo (by rw[P1.1];exact c) B1;exact⟨permIn_trans _ _ _ 0 n P1 P2,S2⟩
  ·rw[if_neg b];have:=a.2 0;rw[Nat.zero_mul,Nat.min_eq_right oo]at this;exact⟨permIn_refl _ _ _,this⟩
theorem Qbl_ (hS:SWO lt) (d:Array α) (ht:∀p q,p < q->q < d.size->tg d[p]! < tg d[q]!):PermIn 0 d.size d (Z1_ lt d)/\SortedIn (KZ_ lt tg) 0 d.size (Z1_ lt d):=by
 unfold Z1_;have hc:∀c,Cut tg d.size c d:=fun c p q h1 h2 h3=>ht p q oo h3
 obtain⟨a,B1⟩:=Qd4_ (tg:=tg) hS d.size (d.size+1) d 0 oo rfl (Nat.zero_le _) (fun c _=>hc c) (fun j=>hc _) (fun j hj=>oo);rw[Nat.zero_mul]at a B1;obtain⟨P2,S2⟩:=Qhf_ (tg:=tg) hS d.size (d.size+1) _ 20 oo oo a.1.symm B1;exact⟨permIn_trans _ _ _ 0 _ a P2,S2⟩
omit [Inhabited α]in
theorem QfS_ (hS:SWO lt):∀(a l2:List α),a.Perm l2->a.Pairwise (fun x y=>KZ_ lt tg y x=false)->l2.Pairwise (fun x y=>KZ_ lt tg y x=false)->(∀x∈a,∀y∈a,tg x=tg y->x=y)->a=l2:=by
 intro a
 induction a with
 |nil=>intro l2 h _ _ _;exact(List.Perm.nil_eq h)
 |cons x a ih=>
  intro l2 h h1 h2 hu
  cases l2 with
  |nil=>exact absurd (List.Perm.length_eq h) (by simp)
  |cons y l2=>
   have f:x=y:=by
    have d:x∈y::l2:=h.subset (by simp);have hy:y∈x::a:=h.symm.subset (by simp);rcases List.mem_cons.1 d with e|d
    ·exact e
    ·rcases List.mem_cons.1 hy with e|g
     ·exact e.symm
     ·have a1:=(List.pairwise_cons.1 h1).1 y g;have a2:=(List.pairwise_cons.1 h2).1 x d;exact hu x (by simp) y hy (Qaz_ hS a2 a1)
   subst f;rw[ih l2 (List.Perm.cons_inv h) (List.pairwise_cons.1 h1).2 (List.pairwise_cons.1 h2).2 (fun u b v c=>hu u (by simp[b]) v (by simp[c]))]
theorem QeI_ {r:α->α->Bool} (d:Array α) (h:SortedIn r 0 d.size d):d.toList.Pairwise (fun x y=>r y x=false):=by
 rw[List.pairwise_iff_getElem];intro i j hi hj a;have:=h i j (Nat.zero_le _) a (by simpa using hj);rw[getElem!_pos d i (by simpa using hi),getElem!_pos d j (by simpa using hj)]at this;simpa using this
end
def WW_ {α:Type} (lt:α->α->Bool) (x:α):List α->List α
 |[]=>[x]
 |y::l=>if lt x y=true then x::y::l else y::WW_ lt x l
def VQ_ {α:Type} (lt:α->α->Bool) (l:List α):List α:=l.foldl (fun o x=>WW_ lt x o) []
section
variable {α:Type} {lt:α->α->Bool} {tg:α->Nat}
theorem JI_ (x:α):∀l,(WW_ lt x l).Perm (x::l):=by
 intro l
 induction l with
 |nil=>exact List.Perm.refl _
 |cons y l ih=>
  unfold WW_;split
  ·exact List.Perm.refl _
  ·exact(List.Perm.cons y ih).trans (List.Perm.swap x y l)
theorem x5_ (hS:SWO lt) (x:α):∀l:List α,l.Pairwise (fun x y=>KZ_ lt tg y x=false)->(∀y∈l,tg y < tg x)->(WW_ lt x l).Pairwise (fun x y=>KZ_ lt tg y x=false):=by
 intro l
 induction l with
 |nil=>intro _ _;unfold WW_;simp
 |cons y l ih=>
  intro h ht;obtain⟨h1,h2⟩:=List.pairwise_cons.1 h;have e:KZ_ lt tg x y=lt x y:=Zr_ (Nat.le_of_lt (ht y (by simp)));unfold WW_;by_cases d:lt x y=true
  ·rw[if_pos d];rw[d]at e;have c:KZ_ lt tg y x=false:=(XW_ hS).asymmA e;refine List.pairwise_cons.2 ⟨fun z a=>?_,h⟩;rcases List.mem_cons.1 a with rfl|a
   ·exact c
   ·exact(XW_ hS).ntrans _ _ _ (h1 z a) c
  ·rw[if_neg d];refine List.pairwise_cons.2 ⟨fun z a=>?_,ih h2 (fun z a=>ht z (by simp[a]))⟩;have b:=(JI_ x l).subset a;rcases List.mem_cons.1 b with rfl|b
   ·rw[e];simpa using d
   ·exact h1 z b
theorem Qcg_ (hS:SWO lt):∀(l o:List α),o.Pairwise (fun x y=>KZ_ lt tg y x=false)->(∀y∈o,∀x∈l,tg y < tg x)->l.Pairwise (fun x y=>tg x < tg y)->
  (l.foldl (fun o x=>WW_ lt x o) o).Perm (o++l)/\(l.foldl (fun o x=>WW_ lt x o) o).Pairwise (fun x y=>KZ_ lt tg y x=false):=by
 intro l
 induction l with
 |nil=>intro o b _ _;rw[List.append_nil];exact⟨List.Perm.refl _,b⟩
 |cons x l ih=>
  intro o b ht hp;obtain⟨h1,h2⟩:=List.pairwise_cons.1 hp;have hI:=JI_ (lt:=lt) x o;obtain⟨p1,p2⟩:=ih (WW_ lt x o) (x5_ hS x o b (fun y a=>ht y a x (by simp))) (fun y a z hz=>by
   rcases List.mem_cons.1 (hI.subset a)with rfl|a
   ·exact h1 z hz
   ·exact ht y a z (by simp[hz])) h2
  refine⟨?_,p2⟩;rw[List.foldl_cons];refine p1.trans ?_;refine(List.Perm.append_right l hI).trans ?_;exact(List.perm_middle).symm
theorem Qd5_ {β:Type} {lt':β->β->Bool} (f:α->β) (hf:∀x y,lt x y=lt' (f x) (f y)) (x:α):∀l,(WW_ lt x l).map f=WW_ lt' (f x) (l.map f):=by
 intro l
 induction l with
 |nil=>rfl
 |cons y l ih=>
  rw[List.map_cons];unfold WW_;rw[hf];split
  ·simp
  ·rw[List.map_cons,ih]
theorem Qal_ {β:Type} {lt':β->β->Bool} (f:α->β) (hf:∀x y,lt x y=lt' (f x) (f y)):∀(l o:List α),(l.foldl (fun o x=>WW_ lt x o) o).map f=(l.map f).foldl (fun o x=>WW_ lt' x o) (o.map f):=by
 intro l
 induction l with
 |nil=>intro o;rfl
 |cons x l ih=>intro o;rw[List.foldl_cons,ih,Qd5_ f hf,List.map_cons,List.foldl_cons]
end
section
variable {β:Type} [Inhabited β]
def KU_ (l:List β):Array (β × Nat):=l.zipIdx.toArray
theorem Qbm_ (lt:β->β->Bool) (n:SWO lt) (l:List β):(Z1_ (fun x y:β × Nat=>lt x.1 y.1) (KU_ l)).toList.map (·.1)=VQ_ lt l:=by
 have f:SWO (fun x y:β × Nat=>lt x.1 y.1):=⟨fun x=>n.irrefl _,fun x y z=>n.trans _ _ _,fun x y z=>n.ntrans _ _ _⟩;have hz:(KU_ l).size=l.length:=by unfold KU_;simp
 have hg:∀p,p < l.length->(KU_ l)[p]!.2=p:=fun p hp=>by
  unfold KU_;rw[getElem!_pos _ p (by simpa using hp)];simp
 obtain⟨P,S⟩:=Qbl_ (tg:=fun x:β × Nat=>x.2) f (KU_ l) (fun p q r hq=>by rw[hz]at hq;rw[hg p oo,hg q hq];exact r);have h:l.zipIdx.Pairwise (fun x y=>x.2 < y.2):=by
  rw[List.pairwise_iff_getElem];intro i j hi hj o;simp;exact o
 obtain⟨p1,p2⟩:=Qcg_ (lt:=fun x y:β × Nat=>lt x.1 y.1) (tg:=fun x:β × Nat=>x.2) f l.zipIdx [] List.Pairwise.nil (fun y t=>by cases t) h;rw[List.nil_append]at p1;have c:(Z1_ (fun x y:β × Nat=>lt x.1 y.1) (KU_ l)).toList.Perm l.zipIdx:=by
  have m:=P.2.2;rw[show(KU_ l).extract 0 (KU_ l).size=KU_ l by simp]at m;have e:(Z1_ (fun x y:β × Nat=>lt x.1 y.1) (KU_ l)).extract 0 (KU_ l).size=Z1_ (fun x y:β × Nat=>lt x.1 y.1) (KU_ l):=by
   rw[<-P.1];simp
  rw[e]at m;simpa[KU_]using m
 have s:=QeI_ _ (by rw[P.1];exact S);have e:=QfS_ (lt:=fun x y:β × Nat=>lt x.1 y.1) (tg:=fun x:β × Nat=>x.2) f _ _ (c.trans p1.symm) s p2 (fun x hx y t k=>by
  have g:=c.subset hx;have d:=c.subset t;obtain⟨a,i⟩:=x;obtain⟨b,j⟩:=y;rw[List.mem_zipIdx_iff_getElem?]at g d;simp at k g d;subst k;rw[g]at d;simpa using d)
 have e3:=Qal_ (lt:=fun x y:β × Nat=>lt x.1 y.1) (lt':=lt) (fun x:β × Nat=>x.1) (fun _ _=>rfl) l.zipIdx [];rw[e,e3,List.map_nil];unfold VQ_;congr 1;simp
end
open Go.Sort Go.RowKit Go.Shelf Go.Lib
structure SoP (P:Program) (k:Nat):Prop where
 mixed:P.follows .mixedOrders=true
 fSw:P.funcs[167]? =some Tryz.f167
 fRo:P.funcs[130]? =some Tryz.f130
 fSy:P.funcs[96]? =some Tryz.f96
 fSt:P.funcs[68]? =some Tryz.f68
 t3:P.underlying 3=some (TypeDesc.int IntKind.i64)
 a3:∀w,(isAgg 3).run P w=.ok false w
 z3:∀w,(Go.sizeOf 3).run P w=.ok 1 w
 v3:∀w,(zeroValue 3).run P w=.ok (Value.int IntKind.i64 0) w
 t4:P.underlying 4=some (TypeDesc.bool)
 a4:∀w,(isAgg 4).run P w=.ok false w
 z4:∀w,(Go.sizeOf 4).run P w=.ok 1 w
 v4:∀w,(zeroValue 4).run P w=.ok (Value.bool false) w
 t22:P.underlying 22=some (TypeDesc.slice 41)
 a22:∀w,(isAgg 22).run P w=.ok false w
 z22:∀w,(Go.sizeOf 22).run P w=.ok 1 w
 v22:∀w,(zeroValue 22).run P w=.ok (Value.slice none 0 0) w
 t56:P.underlying 56=some (TypeDesc.func #[41,41] #[3] false)
 a56:∀w,(isAgg 56).run P w=.ok false w
 z56:∀w,(Go.sizeOf 56).run P w=.ok 1 w
 t130:P.underlying 130=some (TypeDesc.int IntKind.u64)
 aE:∀w,(isAgg 41).run P w=.ok true w
 zE:∀w,(Go.sizeOf 41).run P w=.ok k w
section
variable {P:Program} {α:Type} [Inhabited α]
theorem jQ_ (k:Nat) (L:SoP P k) (enc:α->List Value) (fv:Value) (blk off cap:Nat) (m d:Array α) (w0 w:World) (a b n:Nat) (R:RowK enc k w0 blk off m) (hs:d.size=m.size) (S:SWK enc k w0 blk off d w) (ha:a+n<=b) (hb:b+n<=d.size) (v:d.size < 4611686018427387904):
  Calls P 167 #[.slice (some ⟨blk,off,none⟩) d.size cap,.int .i64 a,.int .i64 b,.int .i64 n,fv] w fun e w'=>e=.returned (.tuple #[])/\SWK enc k w0 blk off (swR d a b n) w':=by
 have q:=L.mixed;have t3:=L.t3;have a3:=L.a3;have z3:=L.z3;have v3:=L.v3;have t4:=L.t4;have a4:=L.a4;have z4:=L.z4;have v4:=L.v4;have z:=L.t22;have s:=L.a22;have C:=L.z22;have B:=L.v22;have aE:=L.aE;have zE:=L.zE;have A:=run_underlying L.t22;have FG:=L.fSw;have HZ:Aside (∀x,(swR d a b x).size=d.size):=fun x=>Zw_ d a b x
 have S0:Aside (SWK enc k w0 blk off d w):=S;have l:Aside (RowK enc k w0 blk off m):=R;have p:Aside (d.size=m.size):=hs;clear S R hs;go_enter FG,Tryz.ntmps167;go_wp2;go_loopg [10] n (fun g i wr=>∃x:Nat,i=.int .i64 x/\x<=n/\n - x<=g/\Aside (SWK enc k w0 blk off (swR d a b x) wr))
 case atStart=>exact⟨0,rfl,Nat.zero_le _,Nat.le_refl _,S0⟩
 case round=>
  clear S0;obtain⟨x,rfl,hx,hg,j⟩:=hrel;by_cases y:x < n
  ·have t:(x:Int) < (n:Int):=oo;obtain⟨c,h⟩:=ex_ (swR d a b x);have hz:c.size=d.size:=(by rw[<-h];exact HZ.o x);have HN:Aside (swR d a b (x+1)=swp c (a+x) (b+x)):=(by show _=_;rw[<-h];rfl);rw[h]at j;have f:c.size=m.size:=(by rw[hz];exact p.o);have ra:IntKind.i64.wrap ((a:Int)+(x:Int))=((a+x:Nat):Int):=(by rw[IntKind.wrap_i64];omega);have rb:IntKind.i64.wrap ((b:Int)+(x:Int))=((b+x:Nat):Int):=(by rw[IntKind.wrap_i64];omega);have ba:((a+x:Nat):Int) < (d.size:Int):=oo;have bb:((b+x:Nat):Int) < (d.size:Int):=oo;have pa:(0:Int)<=((a+x:Nat):Int):=oo;have pb:(0:Int)<=((b+x:Nat):Int):=oo;have ea:(((a+x:Nat):Int)).toNat=a+x:=oo;have eb:(((b+x:Nat):Int)).toNat=b+x:=oo;have o:Aside (SWK enc k w0 blk off (swR d a b (x+1)) ((wr.drew.setCells blk (off+(a+x) * k) (enc c[b+x]!)).setCells blk (off+(b+x) * k) (enc c[a+x]!))):=(by rw[HN.o];exact j.o.swapped l.o (a+x) (b+x) oo oo);have l1:=j.o.ld1 l.o f P (a+x) oo;have l2:=j.o.ld1 l.o f P (b+x) oo;have s1:=j.o.st1 l.o f P (a+x) oo c[b+x]!;have r:=j.o.st2 l.o f P (a+x) (b+x) oo oo c[b+x]! c[a+x]!;have n1:(enc c[a+x]!).length=k:=l.o.hk _;have n2:(enc c[b+x]!).length=k:=l.o.hk _;generalize enc c[a+x]! =cI at o l1 r n1;generalize enc c[b+x]! =cJ at o l2 s1 r n2;clear j HN h hz f;generalize ((a+x:Nat):Int)=ai at ra ba pa ea;generalize ((b+x:Nat):Int)=bi at rb bb pb eb;go_wp2_with fail
   go_big_region_o
   clear l1 l2 s1 r;generalize (wr.drew.setCells blk (off+(a+x) * k) cJ).setCells blk (off+(b+x) * k) cI=w2 at o |-
   go_wp2;go_roundg (n - (x+1))
   case measure=>omega
   case rel=>exact⟨x+1,by go_num,oo,Nat.le_refl _,o⟩
  ·obtain rfl:x=n:=oo;go_wp2;go_end0;exact⟨rfl,j.o⟩
end
open Go.Sort Go.RowKit Go.Shelf Go.Lib
section
variable {P:Program} {α:Type} [Inhabited α]
theorem Qez_ (k:Nat) (L:SoP P k) (enc:α->List Value) (G:Value) (blk off cap:Nat) (F d:Array α) (w0 w:World) (a m b:Nat) (R:RowK enc k w0 blk off F) (hs:d.size=F.size) (S:SWK enc k w0 blk off d w) (ha:a < m) (hm:m < b) (hb:b<=d.size) (T:d.size < 4611686018427387904):
  Calls P 130 #[.slice (some ⟨blk,off,none⟩) d.size cap,.int .i64 a,.int .i64 m,.int .i64 b,G] w fun e w'=>e=.returned (.tuple #[])/\SWK enc k w0 blk off (q6_ (b - a) d m (m - a) (b - m)) w':=by
 have M:=L.mixed;have t3:=L.t3;have a3:=L.a3;have z3:=L.z3;have v3:=L.v3;have t4:=L.t4;have a4:=L.a4;have z4:=L.z4;have v4:=L.v4;have V:=L.t22;have Q:=L.a22;have Z:=L.z22;have Y:=L.v22;have X:=run_underlying L.t22;have FG:=L.fRo;have e1:∀l w,(callFunc 167 l).run P w=.ok (.enter 167 l) w:=enters_of L.fSw (by kernel_rfl) rfl;have C:Aside (∀(c:Array α) (W:World) (x y n:Nat),c.size=d.size->SWK enc k w0 blk off c W->x+n<=y->y+n<=d.size->Calls P 167 #[.slice (some ⟨blk,off,none⟩) d.size cap,.int .i64 x,.int .i64 y,.int .i64 n,G] W fun e w'=>e=.returned (.tuple #[])/\SWK enc k w0 blk off (swR c x y n) w'):=fun c W x y n h1 o h3 h4=>by
  rw[<-h1];exact jQ_ k L enc G blk off cap F c w0 W x y n R oo o h3 oo oo
 have HS:Aside (∀(x:Array α) (a b n:Nat),(swR x a b n).size=x.size):=fun x a b n=>Zw_ x a b n
 have S0:Aside (SWK enc k w0 blk off d w):=S;obtain⟨E,hE⟩:=ex_ (q6_ (b - a) d m (m - a) (b - m));have HE:Aside (q6_ (b - a) d m (m - a) (b - m)=E):=hE;have r0:IntKind.i64.wrap ((m:Int) - (a:Int))=((m - a:Nat):Int):=by rw[IntKind.wrap_i64];omega
 have r1:IntKind.i64.wrap ((b:Int) - (m:Int))=((b - m:Nat):Int):=by rw[IntKind.wrap_i64];omega
 rw[hE];clear S R hs hE;go_enter FG,Tryz.ntmps130;go_wp2;go_loopg [10,11] (b - a) (fun g i j wr=>∃(x y f:Nat) (c:Array α),i=.int .i64 x/\j=.int .i64 y/\0 < x/\0 < y/\x<=m/\m+y<=d.size/\x+y<=f/\x+y<=g/\c.size=d.size/\Aside (SWK enc k w0 blk off c wr)/\Aside (q6_ f c m x y=E))
 case atStart=>exact⟨m - a,b - m,b - a,d,rfl,rfl,oo,oo,oo,oo,oo,oo,rfl,S0,HE⟩
 case round=>
  clear S0 HE r0 r1;obtain⟨x,y,f,c,rfl,rfl,I,K,J,H,hf,hg,B,s,r⟩:=hrel;obtain⟨f,rfl⟩:∃f',f=f'+1:=⟨f - 1,oo⟩;have rm:IntKind.i64.wrap ((m:Int) - (x:Int))=((m - x:Nat):Int):=by rw[IntKind.wrap_i64];omega
  have U:IntKind.i64.wrap ((m:Int)+(y:Int))=((m+y:Nat):Int):=by rw[IntKind.wrap_i64];omega
  by_cases q:x=y
  ·subst q;have A:((x:Int) != (x:Int))=false:=(by simp);have t:Aside (swR c (m - x) m x=E):=by
    have:=r.o;unfold q6_ at this;rw[if_pos rfl]at this;exact this
   have h:=hid (C.o c wr (m - x) m x B s.o oo oo);clear r s;go_wp2_with (go_at_fn 167;refine h.o.mono ?_;rintro e w2 ⟨rfl,o⟩)
   go_end0;rw[<-t.o];exact⟨rfl,o⟩
  ·have A:((x:Int)==(y:Int))=false:=(by rw[beq_eq_false_iff_ne];omega);have O:((x:Int) != (y:Int))=true:=(by unfold bne;rw[A];rfl);by_cases v:y < x
   ·have z:(y:Int) < (x:Int):=oo;have N:IntKind.i64.wrap ((x:Int) - (y:Int))=((x - y:Nat):Int):=(by rw[IntKind.wrap_i64];omega);have t:Aside (q6_ f (swR c (m - x) m y) m (x - y) y=E):=by
     have:=r.o;unfold q6_ at this;rw[if_neg q,if_pos v]at this;exact this
    have h:=hid (C.o c wr (m - x) m y B s.o oo oo);clear r s;go_wp2_with (go_at_fn 167;refine h.o.mono ?_;rintro e w2 ⟨rfl,o⟩)
    have D:=hid o;go_roundg x
    case measure=>omega
    case rel=>exact⟨x - y,y,f,swR c (m - x) m y,by first|rfl|go_num,rfl,oo,K,oo,H,oo,oo,by rw[HS.o];exact B,D,t⟩
   ·have z:¬(y:Int) < (x:Int):=oo;have N:IntKind.i64.wrap ((y:Int) - (x:Int))=((y - x:Nat):Int):=(by rw[IntKind.wrap_i64];omega);have t:Aside (q6_ f (swR c (m - x) (m+y - x) x) m x (y - x)=E):=by
     have:=r.o;unfold q6_ at this;rw[if_neg q,if_neg v]at this;exact this
    have p:=C.o c wr (m - x) (m+y - x) x B s.o oo oo;rw[show((m+y - x:Nat):Int)=(m:Int)+(y:Int) - (x:Int)from oo]at p;have h:=hid p;clear p;clear r s;go_wp2_with (go_at_fn 167;refine h.o.mono ?_;rintro e w2 ⟨rfl,o⟩)
    have D:=hid o;go_roundg y
    case measure=>omega
    case rel=>exact⟨x,y - x,f,swR c (m - x) (m+y - x) x,rfl,by first|rfl|go_num,I,oo,J,oo,oo,oo,by rw[HS.o];exact B,D,t⟩
end
end Go.Proofs.YtgbikafalcbibaaGreatDoor

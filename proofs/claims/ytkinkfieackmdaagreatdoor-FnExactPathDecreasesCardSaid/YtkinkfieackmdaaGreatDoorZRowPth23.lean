/-
  Texts that the claim rests on, merged: Vs1, Lpo0.
-/
import Derived.Test.YtkinkfieackmdaaGreatDoorZRowPth20

namespace Go.Proofs.YtkinkfieackmdaaGreatDoor.Den
open Go.RowKit
theorem nA {a b c:Int} (h:aS a b<=0) (k:aS b c<=0):aS a c<=0/\(aS a c=0->aS a b=0/\aS b c=0):=by
 unfold aS at*;split at h<;>split at k<;>split<;>(try split at h)<;>(try split at k)<;>(try split)<;>simp_all<;>omega
theorem lX :∀(a b c:List UInt8),Op.bytesLess a b=true->Op.bytesLess b c=true->Op.bytesLess a c=true
 |[],[],_,h,_=>by cases h
 |[],_::_,[],_,k=>by cases k
 |[],_::_,_::_,_,_=>rfl
 |_::_,[],_,h,_=>by cases h
 |_::_,_::_,[],_,k=>by cases k
 | x :: xs, y :: ys, z :: zs, h, k => by
  unfold Op.bytesLess at h k ⊢;simp only[Bool.or_eq_true,bA,decide_eq_true_eq,beq_iff_eq]at h k ⊢;rcases h with h|⟨h1,h2⟩
  ·rcases k with k|⟨k1,k2⟩
   ·exact .inl (by rw[UInt8.lt_iff_toNat_lt]at*;omega)
   ·exact .inl (k1▸h)
  ·rcases k with k|⟨k1,k2⟩
   ·exact .inl (h1▸k)
   ·exact .inr ⟨h1.trans k1,lX xs ys zs h2 k2⟩
theorem j7 {a b:ByteArray} (h:bB a b=0):a=b:=by
 unfold bB at h;split at h
 ·assumption
 ·split at h<;>cases h
theorem tP {a b c:ByteArray} (h:bB a b<=0) (k:bB b c<=0):bB a c<=0/\(bB a c=0->bB a b=0/\bB b c=0):=by
 by_cases e1:a=b
 ·subst e1;exact⟨k,λh=>⟨kc _,h⟩⟩
 by_cases e2:b=c
 ·subst e2;exact⟨h,λh=>⟨h,kc _⟩⟩
 have l1:Abs.strLt a b=true:=by
  unfold bB at h;rw[if_neg e1]at h;cases hl:Abs.strLt a b with
  |true=>rfl
  |false=>rw[hl]at h;exact absurd h (by decide)
 have l2:Abs.strLt b c=true:=by
  unfold bB at k;rw[if_neg e2]at k;cases hl:Abs.strLt b c with
  |true=>rfl
  |false=>rw[hl]at k;exact absurd k (by decide)
 have l3:Abs.strLt a c=true:=lX _ _ _ l1 l2;have hne:a≠c:=λe=>by
  subst e;have:=i7 a.toList b.toList λe=>e1 (Abs.cn e);unfold Abs.strLt at l1 l2;rw[l1,l2]at this;cases this
 have e:bB a c= -1:=by unfold bB;rw[if_neg hne,if_pos l3]
 exact⟨by omega,λh=>by omega⟩
theorem oX {f:Tm->Tm->Int}:∀{xs ys:List Tm},(∀x∈xs,∀y,f x y=0->x=y)->cV f xs ys=0->xs=ys
 |[],[],_,_=>rfl
 |[],_::_,_,h=>by cases h
 |_::_,[],_,h=>by cases h
 | x :: xs, y :: ys, h, k => by
  unfold cV at k;split at k
  ·rename_i e;rw[h x (by simp) y e,oX (xs:=xs) (λz hz=>h z (by simp[hz])) k]
  ·exact absurd k ‹_›
theorem pm :∀(k:Nat) (a b:Tm),a.total<k->aQ a b=0->a=b
 |0,_,_,h,_=>absurd h (Nat.not_lt_zero _)
 | k + 1, a, b, h, e => by
  rw[dU]at e;unfold iv at e;split at e
  ·rename_i h1;split at e
   ·rename_i h2;split at e
    ·rename_i h3;have:=oX (λx hx y=>pm k x y (by have:=ac hx;omega)) e;obtain⟨o,n,s,l⟩:=a;obtain⟨o',n',s',l'⟩:=b;rw[show o=o' from dh h1,show n=n' from j7 h2,show s=s' from dh h3,show l=l' from this]
    ·exact absurd e ‹_›
   ·exact absurd e ‹_›
  ·exact absurd e ‹_›
theorem z03 {a b:Tm} (h:aQ a b=0):a=b:=pm _ a b (Nat.lt_succ_self _) h
theorem z09 (a:Tm):aQ a a=0:=ko _ a (Nat.lt_succ_self _)
theorem z04 {a b:Tm}:aQ a b=0↔a=b:=⟨z03,λe=>e▸z09 a⟩
theorem z08 (a b:Tm):aQ b a= -aQ a b:=sO _ a b (Nat.lt_succ_self _)
theorem mH {f:Tm->Tm->Int} (hn:∀x y,f y x= -f x y) (hz:∀x y,f x y=0->x=y):∀{xs ys zs:List Tm},(∀x∈xs,∀y z,f x y<=0->f y z<=0->f x z<=0)->cV f xs ys<=0->cV f ys zs<=0->cV f xs zs<=0
 |[],_,[],_,_,_=>by show (0:Int)<=0;omega
 |[],_,_::_,_,_,_=>by show (-1:Int)<=0;omega
 |_::_,[],_,_,h,_=>by have:(1:Int)<=0:=h;omega
 |_::_,_::_,[],_,_,k=>by have:(1:Int)<=0:=k;omega
 | x :: xs, y :: ys, z :: zs, ht, h, k => by
  unfold cV at h k ⊢;have tr:=ht x (by simp) y z;by_cases e1:f x y=0
  ·rw[if_pos e1]at h;have:x=y:=hz _ _ e1;subst this;by_cases e2:f x z=0
   ·rw[if_pos e2]at k ⊢;exact mH hn hz (λw hw=>ht w (by simp[hw])) h k
   ·rw[if_neg e2]at k ⊢;exact k
  ·rw [if_neg e1] at h;by_cases e2:f y z=0
   ·have:y=z:=hz _ _ e2;subst this;rw[if_neg e1];exact h
   ·rw[if_neg e2]at k;have hxz:=tr h k;rw[if_neg]
    ·exact hxz
    ·intro e3;have:x=z:=hz _ _ e3;subst this;have:=hn x y;omega
theorem ng : ∀ (k : Nat) (a b c : Tm), a.total < k → aQ a b ≤ 0 → aQ b c ≤ 0 → aQ a c ≤ 0
 |0,_,_,_,h,_,_=>absurd h (Nat.not_lt_zero _)
 | k + 1, a, b, c, h, h1, h2 => by
  rw[dU]at h1 h2 ⊢;unfold iv at h1 h2 ⊢;have hl:=mH (f:=aQ) z08 (λx y=>z03) (xs:=a.args) (ys:=b.args) (zs:=c.args) λx hx y z=>ng k x y z (by have:=ac hx;omega);by_cases i1:aS a.op b.op=0
  ·rw [if_pos i1] at h1;have:=dh        i1;rw[this];by_cases j1:aS   b.op c.op=0
   ·rw [if_pos j1] at h2 ⊢;by_cases i2:bB   a.name b.name=0
    ·rw [if_pos i2] at h1;rw[j7        i2];by_cases j2:bB   b.name c.name=0
     ·rw [if_pos j2] at h2 ⊢;by_cases i3:aS   a.sort b.sort=0
      ·rw[if_pos i3]at h1;rw[dh        i3];by_cases j3:aS   b.sort c.sort=0
       ·rw[if_pos j3]at h2 ⊢;exact hl h1 h2
       ·rw[if_neg j3]at h2 ⊢;exact h2
      ·rw[if_neg i3]at h1;by_cases j3:aS   b.sort c.sort=0
       ·rw[<-dh j3,if_neg i3];exact h1
       ·rw[if_neg j3]at h2;obtain⟨t1,t2⟩:=nA h1 h2;rw[if_neg λe=>i3 (t2 e).1];exact t1
     ·rw[if_neg j2]at h2 ⊢;exact h2
    ·rw[if_neg i2]at h1;by_cases j2:bB   b.name c.name=0
     ·rw[<-j7 j2,if_neg i2];exact h1
     ·rw[if_neg j2]at h2;obtain⟨t1,t2⟩:=tP h1 h2;rw[if_neg λe=>i2 (t2 e).1];exact t1
   ·rw[if_neg j1]at h2 ⊢;exact h2
  ·rw[if_neg i1]at h1;by_cases j1:aS   b.op c.op=0
   ·rw[<-dh j1,if_neg i1];exact h1
   ·rw[if_neg j1]at h2;obtain⟨t1,t2⟩:=nA h1 h2;rw[if_neg λe=>i1 (t2 e).1];exact t1
theorem z06 {a b c:Tm} (h:aQ a b<=0) (k:aQ b c<=0):aQ a c<=0:=ng _ a b c (Nat.lt_succ_self _) h k
theorem z07 {a b c:Tm} (h:aQ a b<0) (k:aQ b c<=0):aQ a c<0:=by
 have:=z06 (Int.le_of_lt h) k;by_cases e:aQ a c=0
 ·have:=z03 e;subst this;have:=z08 a b;omega
 ·omega
abbrev Asc (l:List Tm):Prop:=l.Pairwise λa b=>aQ a b<0
theorem rx :∀{l m:List Tm},Asc l->Asc m->(∀x,x∈l↔x∈m)->l=m
 |[],[],_,_,_=>rfl
 |[],y::m,_,_,h=>absurd ((h y).2 (by simp)) (by simp)
 |x::l,[],_,_,h=>absurd ((h x).1 (by simp)) (by simp)
 | x :: l, y :: m, hl, hm, h => by
  obtain⟨l1,l2⟩:=List.pairwise_cons.1 hl;obtain⟨m1,m2⟩:=List.pairwise_cons.1 hm;have e:x=y:=by
   rcases List.mem_cons.1 ((h x).1 (by simp))with e|hx
   ·exact e
   ·rcases List.mem_cons.1 ((h y).2 (by simp))with e|hy
    ·exact e.symm
    ·have a:=m1 x hx;have b:=l1 y hy;have:=z08 x y;omega
  subst e;rw[rx l2 m2 λz=> ?_];constructor
  ·intro hz;rcases List.mem_cons.1 ((h z).1 (by simp[hz]))with e|q
   ·subst e;have:=l1 z hz;rw[z09]at this;omega
   ·exact q
  ·intro hz;rcases List.mem_cons.1 ((h z).2 (by simp[hz]))with e|q
   ·subst e;have:=m1 z hz;rw[z09]at this;omega
   ·exact q
def dL :List Tm->Tm->List Tm
 |[],t=>[t]
 |y::ys,t=>if aQ y t<0 then y::dL ys t else if aQ y t=0 then y::ys else t::y::ys
theorem jP {t x:Tm}:∀{l:List Tm},x∈dL l t↔x=t\/x∈l
 |[]=>by simp[dL]
 | y :: ys => by
  unfold dL;split
  ·rw[List.mem_cons,jP      ,List.mem_cons];constructor
   ·rintro(h|h|h)
    ·exact .inr (.inl h)
    ·exact .inl h
    ·exact .inr (.inr h)
   ·rintro(h|h|h)
    ·exact .inr (.inl h)
    ·exact .inl h
    ·exact .inr (.inr h)
  ·split
   ·rename_i e;have:=z03 e;subst this;simp
   ·simp
theorem sq {t:Tm}:∀{l:List Tm},Asc l->Asc (dL l t)
 |[],_=>List.pairwise_singleton _ _
 | y :: ys, h => by
  obtain⟨h1,h2⟩:=List.pairwise_cons.1 h;unfold dL;split
  ·rename_i hl;refine List.pairwise_cons.2 ⟨λz hz=> ?_,sq       h2⟩;rcases jP.1       hz with rfl|hz
   ·exact hl
   ·exact h1 z hz
  ·split
   ·exact h
   ·rename_i hl hn;have hty:aQ   t y<0:=by have:=z08 y t;omega
    refine List.pairwise_cons.2 ⟨λz hz=> ?_,h⟩;rcases List.mem_cons.1 hz with rfl|hz
    ·exact hty
    ·exact z07 hty (Int.le_of_lt (h1 z hz))
theorem lY {t:Tm}:∀(l:List Tm),(dL l t).length<=l.length+1
 |[]=>Nat.le_refl _
 | y :: ys => by
  unfold dL;have:=lY (t:=t) ys;split
  ·simp only[List.length_cons];omega
  ·split<;>simp only[List.length_cons]<;>omega
theorem nF :∀(xs l:List Tm),Asc l->Asc (xs.foldl dL l)/\∀x,x∈xs.foldl dL l↔x∈l\/x∈xs
 |[],l,h=>⟨h,λx=>by simp⟩
 | y :: ys, l, h => by
  obtain⟨i1,i2⟩:=nF ys (dL l y) (sq h);refine⟨i1,λx=> ?_⟩;rw[List.foldl_cons,i2,jP,List.mem_cons];constructor
  ·rintro((h|h)|h)
   ·exact .inr (.inl h)
   ·exact .inl h
   ·exact .inr (.inr h)
  ·rintro(h|h|h)
   ·exact .inl (.inr h)
   ·exact .inl (.inl h)
   ·exact .inr h
def jm (xs:List Tm):List Tm:=xs.foldl dL []
theorem zk (xs:List Tm):Asc (jm xs):=(nF xs [] .nil).1
theorem sj {xs:List Tm} {x:Tm}:x∈jm xs↔x∈xs:=by have:=(nF xs [] .nil).2 x;simpa [jm]using this
theorem Bs (xs:List Tm):(jm xs).length<=xs.length:=by
 have:∀(ys l:List Tm),(ys.foldl dL l).length<=l.length+ys.length:=λys=>by
  induction ys with
  |nil=>intro l;exact Nat.le_refl _
  | cons y ys ih =>
   intro l;have:=ih (dL l y);have:=lY (t:=y) l;rw[List.foldl_cons,List.length_cons];omega
 have:=this xs [];simpa [jm]using this
def dQ :List Tm->List Tm
 |[]=>[]
 |[x]=>[x]
 |x::y::r=>if aQ y x=0 then dQ (x::r)else x::dQ (y::r)
theorem ib :∀(n:Nat) (l:List Tm),l.length<=n->l.Pairwise (λa b=>aQ a b<=0)->Asc (dQ l)/\∀x,x∈dQ l↔x∈l
 |_,[],_,_=>by unfold dQ;exact⟨.nil,λx=>Iff.rfl⟩
 |_,[x],_,_=>by unfold dQ;exact⟨List.pairwise_singleton _ _,λx=>Iff.rfl⟩
 |0,_::_::_,h,_=>by simp at h
 | n + 1, x :: y :: r, hn, h => by
  obtain⟨h1,h2⟩:=List.pairwise_cons.1 h;obtain⟨h3,h4⟩:=List.pairwise_cons.1 h2;have hn':r.length+1<=n:=by simp only[List.length_cons]at hn;omega
  unfold dQ;split
  ·rename_i e;have:=z03 e;subst this;obtain⟨i1,i2⟩:=ib n (y::r) hn' h2;exact⟨i1,λz=>by rw[i2];simp⟩
  ·rename_i e;obtain⟨i1,i2⟩:=ib        n (y::r) hn' h2;have hxy:aQ   x y<0:=by
    have:=h1 y (by simp);have:=z08 x y;omega
   refine⟨List.pairwise_cons.2 ⟨λz hz=> ?_,i1⟩,λz=>by rw[List.mem_cons,i2,List.mem_cons (b:=x)]⟩;rcases List.mem_cons.1 ((i2 z).1 hz)with rfl|hz
   ·exact hxy
   ·exact z07 hxy (h3 z hz)
theorem tX {l m:List Tm} (h:l.Pairwise λa b=>aQ a b<=0) (hm:∀x,x∈l↔x∈m):dQ l=jm m:=
 rx (ib _ l (Nat.le_refl _) h).1 (zk m) λx=>by rw[(ib _ l (Nat.le_refl _) h).2,sj,hm]
def vT (t:Tm):Tm:=Tm.mk (-1) t.name t.sort []
def ocK :Nat->Tm->List Tm
 |0,_=>[]
 |k+1,t=>if t.op= -1 then [vT t]else t.args.flatMap (ocK k)
def oc (t:Tm):List Tm:=ocK (t.total+1) t
theorem eR {A B:Type} {f g:A->List B}:∀{l:List A},(∀x∈l,f x=g x)->l.flatMap f=l.flatMap g
 |[],_=>rfl
 |x::l,h=>by rw[List.flatMap_cons,List.flatMap_cons,h x (by simp),eR λy hy=>h y (by simp[hy])]
theorem yE :∀(k j:Nat) (t:Tm),t.total<k->t.total<j->ocK k t=ocK j t
 |0,_,_,h,_=>absurd h (Nat.not_lt_zero _)
 |_+1,0,_,_,h=>absurd h (Nat.not_lt_zero _)
 | k + 1, j + 1, t, h1, h2 => by
  unfold ocK;rw[eR λx hx=>yE k j x (by have:=ac hx;omega) (by have:=ac hx;omega)]
theorem vr (t:Tm):oc t=if t.op= -1 then [vT t]else t.args.flatMap oc:=by
 show (if t.op= -1 then [vT t]else t.args.flatMap (ocK t.total))=_;rw[eR λx hx=>yE _ (x.total+1) x (ac hx) (Nat.lt_succ_self _)];rfl
theorem zO :∀(k:Nat) (t:Tm),t.total<k->(oc t).length<=tsz t
 |0,_,h=>absurd h (Nat.not_lt_zero _)
 | k + 1, t, h => by
  rw[vr,gG];split
  ·show 1<=_;omega
  ·have:∀l:List Tm,(∀x∈l,(oc x).length<=tsz x)->(l.flatMap oc).length<=wS tsz l:=λl=>by
    induction l with
    |nil=>intro _;exact Nat.zero_le _
    | cons x l ih =>
     intro hl;rw[List.flatMap_cons,List.length_append,fj];have:=hl x (by simp);have:=ih λy hy=>hl y (by simp[hy]);omega
   have:=this t.args λx hx=>zO k x (by have:=ac hx;omega);omega
theorem yT :∀(k:Nat) (t:Tm),t.total<k->∀x∈oc t,x.op= -1/\x.args=[]/\x.total<=t.total
 |0,_,h=>absurd h (Nat.not_lt_zero _)
 | k + 1, t, h => by
  rw[vr];split
  ·intro x hx;rw[List.mem_singleton.1 hx];refine⟨rfl,rfl,?_⟩;rw[az (vT t),az t];exact Nat.add_le_add_left (Nat.zero_le _) _
  ·intro x hx;obtain⟨y,y1,y2⟩:=List.mem_flatMap.1 hx;have:=ac y1;obtain⟨a,b,c⟩:=yT k y (by omega) x y2;exact⟨a,b,by omega⟩
def bk (t:Tm):List Tm:=jm (oc t)
open Classical
noncomputable def erT:List Tm->Tm->List Tm
 |[],_=>[]
 |x::xs,t=>if x=t then xs else x::erT xs t
noncomputable def aP (a b:List Tm):List Tm:=b.foldl erT a
noncomputable def cz:List Tm->List Tm->List Tm
 |[],_=>[]
 |t::a,b=>if t∈b then cz a (erT b t)else t::cz a b
theorem pi :∀b:List Tm,aP [] b=[]
 |[]=>rfl
 |_::b=>pi b
theorem j4 {t:Tm}:∀{b a:List Tm},t∉b->aP (t::a) b=t::aP a b
 |[],_,_=>rfl
 | u :: b, a, h => by
  simp only[List.mem_cons,not_or]at h;show aP (erT (t::a) u) b=t::aP (erT a u) b;unfold erT;rw[if_neg h.1];cases a with
  |nil=>exact j4 h.2
  |cons x xs=>exact j4 h.2
theorem nr {t:Tm}:∀{b a:List Tm},t∈b->aP (t::a) b=aP a (erT b t)
 |[],_,h=>by simp at h
 | u :: b, a, h => by
  by_cases e:u=t
  ·subst e;show aP (erT (u::a) u) b=aP a (erT (u::b) u);rw[show erT (u::a) u=a from if_pos rfl,show erT (u::b) u=b from if_pos rfl]
  ·have hb:t∈b:=by
    rcases List.mem_cons.1 h with h|h
    ·exact absurd h.symm e
    ·exact h
   show aP (erT (t::a) u) b=aP a (erT (u::b) t);rw[show erT (t::a) u=t::erT a u from if_neg λq=>e q.symm,show erT (u::b) t=u::erT b t from if_neg e,nr hb];rfl
theorem gR :∀a b:List Tm,cz a b=aP a b
 |[],b=>(pi b).symm
 | t :: a, b => by
  unfold cz;by_cases h:t∈b
  ·rw[if_pos h,nr h,gR a]
  ·rw[if_neg h,j4 h,gR a]
theorem wE {l:List Tm} {t x:Tm} (h:x∈erT l t):x∈l:=by
 induction l with
 |nil=>exact h
 | cons y ys ih =>
  unfold erT at h;split at h
  ·exact List.mem_cons_of_mem _ h
  ·rcases List.mem_cons.1 h with h|h
   ·exact h▸List.mem_cons_self
   ·exact List.mem_cons_of_mem _ (ih h)
theorem cK :∀{b a:List Tm} {x:Tm},x∈aP a b->x∈a
 |[],_,_,h=>h
 |_::b,_,_,h=>wE (cK (b:=b) h)
theorem lV :∀a:List Tm,aP a a=[]
 |[]=>rfl
 | t :: a => by
  rw[nr (by simp),show erT (t::a) t=a from if_pos rfl];exact lV a
noncomputable def dc (G:Tm->Tm->Bool) (a b:List Tm):Bool:=(aP b a).all (λu=>(aP a b).any λt=>G t u)&&decide (0<(aP a b).length)
noncomputable def gQ (G:Tm->Tm->Bool):List Tm->List Tm->Bool
 |t::a,u::b=>if t=u then gQ G a b else G t u
 |_,_=>false
noncomputable def jK (ops:List Opr) (op:Int):Bool:=match ix ops op with
 |some o=>o.comm
 |none=>false
noncomputable def eY (ops:List Opr) (rank:List Int) (G:Tm->Tm->Bool) (a b:Tm):Bool:=a.args.any (λt=>decide (t=b)||G t b)||(if a.op≠b.op/\ap rank a.op<=ap rank b.op then false else b.args.all (G a)&&(if a.op≠b.op then true else if jK ops a.op=true then dc G a.args b.args else gQ G a.args b.args))
noncomputable def pT:Nat->Tm->Tm->Bool
 |0,_,_=>false
 |k+1,v,t=>decide (v=t)||t.args.any (pT k v)
noncomputable def gF (v t:Tm):Bool:=pT (t.total+1) v t
noncomputable def gtK (ops:List Opr) (rank:List Int):Nat->Tm->Tm->Bool
 |0,_,_=>false
 |k+1,a,b=>if a.op<0 then false else if b.op<0 then gF b a else eY ops rank (gtK ops rank k) a b
noncomputable def gtF (ops:List Opr) (rank:List Int) (a b:Tm):Bool:=gtK ops rank (a.total+b.total+1) a b
noncomputable def grK (ops:List Opr) (rank:List Int):Nat->Tm->Tm->Bool
 |0,_,_=>false
 |k+1,a,b=>if a.op<0\/a=b then false else if b.op<0 then gF b a else eY ops rank (grK ops rank k) a b
noncomputable def grF (ops:List Opr) (rank:List Int) (a b:Tm):Bool:=grK ops rank (a.total+b.total+1) a b
theorem fN {α:Type} {F F':α->Bool}:∀{l:List α},(∀y∈l,F y=F' y)->l.any F=l.any F'
 |[],_=>rfl
 |y::l,h=>by rw[List.any_cons,List.any_cons,h y (by simp),fN λz hz=>h z (by simp[hz])]
theorem fW {α:Type} {F F':α->Bool}:∀{l:List α},(∀y∈l,F y=F' y)->l.all F=l.all F'
 |[],_=>rfl
 |y::l,h=>by rw[List.all_cons,List.all_cons,h y (by simp),fW λz hz=>h z (by simp[hz])]
theorem tV {G G':Tm->Tm->Bool} {a b:List Tm} (h:∀t∈a,∀u∈b,G t u=G' t u):dc G a b=dc G' a b:=by
 unfold dc;rw[fW (F':=λu=>(aP a b).any λt=>G' t u) λu hu=>fN λt ht=>h t (cK ht) u (cK hu)]
theorem oi {G G':Tm->Tm->Bool}:∀{a b:List Tm},(∀t∈a,∀u∈b,G t u=G' t u)->gQ G a b=gQ G' a b
 |[],[],_=>rfl
 |[],_::_,_=>rfl
 |_::_,[],_=>rfl
 | t :: a, u :: b, h => by
  unfold gQ;rw[h t (by simp) u (by simp),oi λx hx y hy=>h x (by simp[hx]) y (by simp[hy])]
theorem dE {ops:List Opr} {rank:List Int} {G G':Tm->Tm->Bool} {a b:Tm} (h1:∀t∈a.args,G t b=G' t b) (h2:∀u∈b.args,G a u=G' a u) (h3:∀t∈a.args,∀u∈b.args,G t u=G' t u):eY ops rank G a b=eY ops rank G' a b:=by
 unfold eY;rw[fN (F':=λt=>decide (t=b)||G' t b) λt ht=>by rw[h1 t ht],fW h2,tV h3,oi h3]
theorem jT {ops:List Opr} {rank:List Int}:∀(k j:Nat) (a b:Tm),a.total+b.total<k->a.total+b.total<j->gtK ops rank k a b=gtK ops rank j a b
 |0,_,_,_,h,_=>absurd h (Nat.not_lt_zero _)
 |_,0,_,_,_,h=>absurd h (Nat.not_lt_zero _)
 | k + 1, j + 1, a, b, h1, h2 => by
  unfold gtK;rw[dE (λt ht=>jT k j t b (by have:=ac ht;omega) (by have:=ac ht;omega)) (λu hu=>jT k j a u (by have:=ac hu;omega) (by have:=ac hu;omega)) λt ht u hu=>jT k j t u (by have:=ac ht;have:=ac hu;omega) (by have:=ac ht;have:=ac hu;omega)]
theorem lT (ops:List Opr) (rank:List Int) (a b:Tm):gtF ops rank a b=if a.op<0 then false else if b.op<0 then gF b a else eY ops rank (gtF ops rank) a b:=by
 show gtK ops rank (a.total+b.total+1) a b=_;unfold gtK;rw[dE (G':=gtF ops rank) (λt ht=>jT (a.total+b.total) (t.total+b.total+1) t b (by have:=ac ht;omega) (by omega)) (λu hu=>jT (a.total+b.total) (a.total+u.total+1) a u (by have:=ac hu;omega) (by omega)) λt ht u hu=>jT (a.total+b.total) (t.total+u.total+1) t u (by have:=ac ht;have:=ac hu;omega) (by omega)]
theorem kJ {ops:List Opr} {rank:List Int}:∀(k j:Nat) (a b:Tm),a.total+b.total<k->a.total+b.total<j->grK ops rank k a b=grK ops rank j a b
 |0,_,_,_,h,_=>absurd h (Nat.not_lt_zero _)
 |_,0,_,_,_,h=>absurd h (Nat.not_lt_zero _)
 | k + 1, j + 1, a, b, h1, h2 => by
  unfold grK;rw[dE (λt ht=>kJ k j t b (by have:=ac ht;omega) (by have:=ac ht;omega)) (λu hu=>kJ k j a u (by have:=ac hu;omega) (by have:=ac hu;omega)) λt ht u hu=>kJ k j t u (by have:=ac ht;have:=ac hu;omega) (by have:=ac ht;have:=ac hu;omega)]
theorem uk (ops:List Opr) (rank:List Int) (a b:Tm):grF ops rank a b=if a.op<0\/a=b then false else if b.op<0 then gF b a else eY ops rank (grF ops rank) a b:=by
 show grK ops rank (a.total+b.total+1) a b=_;unfold grK;rw[dE (G':=grF ops rank) (λt ht=>kJ (a.total+b.total) (t.total+b.total+1) t b (by have:=ac ht;omega) (by omega)) (λu hu=>kJ (a.total+b.total) (a.total+u.total+1) a u (by have:=ac hu;omega) (by omega)) λt ht u hu=>kJ (a.total+b.total) (t.total+u.total+1) t u (by have:=ac ht;have:=ac hu;omega) (by omega)]
theorem mc :∀(k:Nat) (v t:Tm),pT k v t=true->v.total<=t.total
 |0,_,_,h=>by cases h
 | k + 1, v, t, h => by
  unfold pT at h;rcases(Bool.or_eq_true _ _).mp h with h|h
  ·rw[of_decide_eq_true h];exact Nat.le_refl _
  ·obtain⟨x,x1,x2⟩:=List.any_eq_true.1 h;have:=mc k v x x2;have:=ac x1;omega
inductive Sub :Tm->Tm->Prop
 |refl (t:Tm):Sub t t
 |arg {t s x:Tm} (hx:x∈s.args) (h:Sub t x):Sub t s
theorem Sub.total {t s:Tm} (h:Sub t s):t.total<=s.total:=by
 induction h with
 |refl=>exact Nat.le_refl _
 |arg hx _ ih=>have:=ac hx;omega
theorem Sub.down {t s x:Tm} (h:Sub t s):x∈t.args->Sub x s:=by
 induction h with
 |refl=>exact λhx=>.arg hx (.refl x)
 |arg hy _ ih=>exact λhx=>.arg hy (ih hx)
theorem ra (G:Tm->Tm->Bool):∀a:List Tm,gQ G a a=false
 |[]=>rfl
 | t :: a => by
  unfold gQ;rw[if_pos rfl];exact ra G a
theorem ye (G:Tm->Tm->Bool) (a:List Tm):dc G a a=false:=by
 unfold dc;rw[lV];rfl
theorem ue {ops:List Opr} {rank:List Int}:∀(k:Nat) (t s:Tm),t.total+s.total<k->Sub t s->gtF ops rank t s=false
 |0,_,_,h,_=>absurd h (Nat.not_lt_zero _)
 | k + 1, t, s, h, hs => by
  rw[lT];by_cases h0:t.op<0
  ·rw[if_pos h0]
  rw[if_neg h0];have parts:t.args.any (λx=>decide (x=s)||gtF ops rank x s)=false:=by
   rw[List.any_eq_false];intro x hx;have hxt:=ac hx;have:=hs.total;have ne:x≠s:=λe=>by subst e;omega
   rw[dF ne,Bool.false_or,ue k x s (by omega) (hs.down hx)];exact Bool.false_ne_true
  by_cases h1:s.op<0
  ·rw [if_pos h1];cases hs with
   |refl=>exact absurd h1 h0
   | arg hx hy =>
    cases ho:gF s t with
    |false=>rfl
    | true =>
     have:=mc _ s t ho;have:=hy.total;have:=ac hx;omega
  rw[if_neg h1];unfold eY;rw[parts,Bool.false_or];split
  ·rfl
  ·cases hs with
   | refl =>
    rw[if_neg (by simp)];split
    ·rw[ye,Bool.and_false]
    ·rw[ra,Bool.and_false]
   | arg hx hy =>
    have hxt:=ac hx;have:gtF ops rank t _=false:=ue k t _ (by omega) hy;have:s.args.all (gtF ops rank t)=false:=by
     rw[List.all_eq_false];exact⟨_,hx,by rw[this];exact Bool.false_ne_true⟩
    rw[this,Bool.false_and]
theorem BN (ops:List Opr) (rank:List Int) (t:Tm):gtF ops rank t t=false:=ue _ t t (Nat.lt_succ_self _) (.refl t)
theorem vo {ops:List Opr} {rank:List Int}:∀(k:Nat) (a b:Tm),a.total+b.total<k->grF ops rank a b=gtF ops rank a b
 |0,_,_,h=>absurd h (Nat.not_lt_zero _)
 | k + 1, a, b, h => by
  by_cases e:a=b
  ·subst e;rw[BN,uk,if_pos (.inr rfl)]
  ·rw[uk    ,lT    ];by_cases h0:a.op<0
   ·rw[if_pos (.inl h0),if_pos h0]
   ·rw[if_neg (by simp[h0,e]),if_neg h0];split
    ·rfl
    ·exact dE (λt ht=>vo k t b (by have:=ac ht;omega)) (λu hu=>vo k a u (by have:=ac hu;omega)) λt ht u hu=>vo k t u (by have:=ac ht;have:=ac hu;omega)
end Go.Proofs.YtkinkfieackmdaaGreatDoor.Den

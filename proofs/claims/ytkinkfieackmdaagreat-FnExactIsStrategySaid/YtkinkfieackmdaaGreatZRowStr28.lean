import Derived.Test.YtkinkfieackmdaaGreatZRowStr21
namespace Go.Proofs.YtkinkfieackmdaaGreat.Den
open Go.RowKit
theorem cmpI_trans {a b c:Int} (h:cmpI a b<=0) (k:cmpI b c<=0):cmpI a c<=0/\(cmpI a c=0->cmpI a b=0/\cmpI b c=0):=by
 unfold cmpI at*
 split at h<;>split at k<;>split<;>(try split at h)<;>(try split at k)<;>(try split)<;>simp_all<;>omega
theorem less_trans :∀(a b c:List UInt8),Op.bytesLess a b=true->Op.bytesLess b c=true->Op.bytesLess a c=true
 |[],[],_,h,_=>by cases h
 |[],_::_,[],_,k=>by cases k
 |[],_::_,_::_,_,_=>rfl
 |_::_,[],_,h,_=>by cases h
 |_::_,_::_,[],_,k=>by cases k
 | x :: xs, y :: ys, z :: zs, h, k => by
  unfold Op.bytesLess at h k ⊢
  simp only[Bool.or_eq_true,bA,decide_eq_true_eq,beq_iff_eq]at h k ⊢
  rcases h with h|⟨h1,h2⟩
  ·rcases k with k|⟨k1,k2⟩
   ·exact .inl (by rw[UInt8.lt_iff_toNat_lt]at*;omega)
   ·exact .inl (k1▸h)
  ·rcases k with k|⟨k1,k2⟩
   ·exact .inl (h1▸k)
   ·exact .inr ⟨h1.trans k1,less_trans xs ys zs h2 k2⟩
theorem cmpB_zero {a b:ByteArray} (h:cmpB a b=0):a=b:=by
 unfold cmpB at h
 split at h
 ·assumption
 ·split at h<;>cases h
theorem cmpB_trans {a b c:ByteArray} (h:cmpB a b<=0) (k:cmpB b c<=0):cmpB a c<=0/\(cmpB a c=0->cmpB a b=0/\cmpB b c=0):=by
 by_cases e1:a=b
 ·subst e1;exact⟨k,λh=>⟨cmpB_self _,h⟩⟩
 by_cases e2:b=c
 ·subst e2;exact⟨h,λh=>⟨h,cmpB_self _⟩⟩
 have l1:Abs.strLt a b=true:=by
  unfold cmpB at h
  rw[if_neg e1]at h
  cases hl:Abs.strLt a b with
  |true=>rfl
  |false=>rw[hl]at h;exact absurd h (by decide)
 have l2:Abs.strLt b c=true:=by
  unfold cmpB at k
  rw[if_neg e2]at k
  cases hl:Abs.strLt b c with
  |true=>rfl
  |false=>rw[hl]at k;exact absurd k (by decide)
 have l3:Abs.strLt a c=true:=less_trans _ _ _ l1 l2
 have hne:a≠c:=λe=>by
  subst e
  have:=less_total a.toList b.toList λe=>e1 (Abs.bytes_toList_inj e)
  unfold Abs.strLt at l1 l2
  rw[l1,l2]at this
  cases this
 have e:cmpB a c= -1:=by unfold cmpB;rw[if_neg hne,if_pos l3]
 exact⟨by omega,λh=>by omega⟩
theorem cmpL_zero {f:Tm->Tm->Int}:∀{xs ys:List Tm},(∀x∈xs,∀y,f x y=0->x=y)->cmpL f xs ys=0->xs=ys
 |[],[],_,_=>rfl
 |[],_::_,_,h=>by cases h
 |_::_,[],_,h=>by cases h
 | x :: xs, y :: ys, h, k => by
  unfold cmpL at k
  split at k
  ·rename_i e
   rw[h x (by simp) y e,cmpL_zero (xs:=xs) (λz hz=>h z (by simp[hz])) k]
  ·exact absurd k ‹_›
theorem cmpT_zero :∀(k:Nat) (a b:Tm),a.total<k->cmpT a b=0->a=b
 |0,_,_,h,_=>absurd h (Nat.not_lt_zero _)
 | k + 1, a, b, h, e => by
  rw[cmpT_eq]at e
  unfold cmpN at e
  split at e
  ·rename_i h1
   split at e
   ·rename_i h2
    split at e
    ·rename_i h3
     have:=cmpL_zero (λx hx y=>cmpT_zero k x y (by have:=arg_total hx;omega)) e
     obtain⟨o,n,s,l⟩:=a
     obtain⟨o',n',s',l'⟩:=b
     rw[show o=o' from cmpI_zero h1,show n=n' from cmpB_zero h2,show s=s' from cmpI_zero h3,show l=l' from this]
    ·exact absurd e ‹_›
   ·exact absurd e ‹_›
  ·exact absurd e ‹_›
theorem z03 {a b:Tm} (h:cmpT a b=0):a=b:=cmpT_zero _ a b (Nat.lt_succ_self _) h
theorem z09 (a:Tm):cmpT a a=0:=cmpT_self _ a (Nat.lt_succ_self _)
theorem z08 (a b:Tm):cmpT b a= -cmpT a b:=cmpT_neg _ a b (Nat.lt_succ_self _)
theorem cmpL_trans {f:Tm->Tm->Int} (hn:∀x y,f y x= -f x y) (hz:∀x y,f x y=0->x=y):∀{xs ys zs:List Tm},(∀x∈xs,∀y z,f x y<=0->f y z<=0->f x z<=0)->cmpL f xs ys<=0->cmpL f ys zs<=0->cmpL f xs zs<=0
 |[],_,[],_,_,_=>by show (0:Int)<=0;omega
 |[],_,_::_,_,_,_=>by show (-1:Int)<=0;omega
 |_::_,[],_,_,h,_=>by have:(1:Int)<=0:=h;omega
 |_::_,_::_,[],_,_,k=>by have:(1:Int)<=0:=k;omega
 | x :: xs, y :: ys, z :: zs, ht, h, k => by
  unfold cmpL at h k ⊢
  have tr:=ht x (by simp) y z
  by_cases e1:f x y=0
  ·rw[if_pos e1]at h
   have:x=y:=hz _ _ e1
   subst this
   by_cases e2:f x z=0
   ·rw[if_pos e2]at k ⊢
    exact cmpL_trans hn hz (λw hw=>ht w (by simp[hw])) h k
   ·rw[if_neg e2]at k ⊢
    exact k
  ·rw [if_neg e1] at h
   by_cases e2:f y z=0
   ·have:y=z:=hz _ _ e2
    subst this
    rw[if_neg e1]
    exact h
   ·rw[if_neg e2]at k
    have hxz:=tr h k
    rw[if_neg]
    ·exact hxz
    ·intro e3
     have:x=z:=hz _ _ e3
     subst this
     have:=hn x y
     omega
theorem cmpT_trans : ∀ (k : Nat) (a b c : Tm), a.total < k → cmpT a b ≤ 0 → cmpT b c ≤ 0 → cmpT a c ≤ 0
 |0,_,_,_,h,_,_=>absurd h (Nat.not_lt_zero _)
 | k + 1, a, b, c, h, h1, h2 => by
  rw[cmpT_eq]at h1 h2 ⊢
  unfold cmpN at h1 h2 ⊢
  have hl:=cmpL_trans (f:=cmpT) z08 (λx y=>z03) (xs:=a.args) (ys:=b.args) (zs:=c.args) λx hx y z=>cmpT_trans k x y z (by have:=arg_total hx;omega)
  by_cases i1:cmpI a.op b.op=0
  ·rw [if_pos i1] at h1
   have:=cmpI_zero i1
   rw[this]
   by_cases j1:cmpI b.op c.op=0
   ·rw [if_pos j1] at h2 ⊢
    by_cases i2:cmpB a.name b.name=0
    ·rw [if_pos i2] at h1
     rw[cmpB_zero i2]
     by_cases j2:cmpB b.name c.name=0
     ·rw [if_pos j2] at h2 ⊢
      by_cases i3:cmpI a.sort b.sort=0
      ·rw[if_pos i3]at h1
       rw[cmpI_zero i3]
       by_cases j3:cmpI b.sort c.sort=0
       ·rw[if_pos j3]at h2 ⊢
        exact hl h1 h2
       ·rw[if_neg j3]at h2 ⊢
        exact h2
      ·rw[if_neg i3]at h1
       by_cases j3:cmpI b.sort c.sort=0
       ·rw[<-cmpI_zero j3,if_neg i3]
        exact h1
       ·rw[if_neg j3]at h2
        obtain⟨t1,t2⟩:=cmpI_trans h1 h2
        rw[if_neg λe=>i3 (t2 e).1]
        exact t1
     ·rw[if_neg j2]at h2 ⊢
      exact h2
    ·rw[if_neg i2]at h1
     by_cases j2:cmpB b.name c.name=0
     ·rw[<-cmpB_zero j2,if_neg i2]
      exact h1
     ·rw[if_neg j2]at h2
      obtain⟨t1,t2⟩:=cmpB_trans h1 h2
      rw[if_neg λe=>i2 (t2 e).1]
      exact t1
   ·rw[if_neg j1]at h2 ⊢
    exact h2
  ·rw[if_neg i1]at h1
   by_cases j1:cmpI b.op c.op=0
   ·rw[<-cmpI_zero j1,if_neg i1]
    exact h1
   ·rw[if_neg j1]at h2
    obtain⟨t1,t2⟩:=cmpI_trans h1 h2
    rw[if_neg λe=>i1 (t2 e).1]
    exact t1
theorem z06 {a b c:Tm} (h:cmpT a b<=0) (k:cmpT b c<=0):cmpT a c<=0:=cmpT_trans _ a b c (Nat.lt_succ_self _) h k
theorem z07 {a b c:Tm} (h:cmpT a b<0) (k:cmpT b c<=0):cmpT a c<0:=by
 have:=z06 (Int.le_of_lt h) k
 by_cases e:cmpT a c=0
 ·have:=z03 e
  subst this
  have:=z08 a b
  omega
 ·omega
abbrev Asc (l:List Tm):Prop:=l.Pairwise λa b=>cmpT a b<0
theorem asc_uniq :∀{l m:List Tm},Asc l->Asc m->(∀x,x∈l↔x∈m)->l=m
 |[],[],_,_,_=>rfl
 |[],y::m,_,_,h=>absurd ((h y).2 (by simp)) (by simp)
 |x::l,[],_,_,h=>absurd ((h x).1 (by simp)) (by simp)
 | x :: l, y :: m, hl, hm, h => by
  obtain⟨l1,l2⟩:=List.pairwise_cons.1 hl
  obtain⟨m1,m2⟩:=List.pairwise_cons.1 hm
  have e:x=y:=by
   rcases List.mem_cons.1 ((h x).1 (by simp))with e|hx
   ·exact e
   ·rcases List.mem_cons.1 ((h y).2 (by simp))with e|hy
    ·exact e.symm
    ·have a:=m1 x hx
     have b:=l1 y hy
     have:=z08 x y
     omega
  subst e
  rw[asc_uniq l2 m2 λz=> ?_]
  constructor
  ·intro hz
   rcases List.mem_cons.1 ((h z).1 (by simp[hz]))with e|q
   ·subst e;have:=l1 z hz;rw[z09]at this;omega
   ·exact q
  ·intro hz
   rcases List.mem_cons.1 ((h z).2 (by simp[hz]))with e|q
   ·subst e;have:=m1 z hz;rw[z09]at this;omega
   ·exact q
def insU :List Tm->Tm->List Tm
 |[],t=>[t]
 |y::ys,t=>if cmpT y t<0 then y::insU ys t else if cmpT y t=0 then y::ys else t::y::ys
theorem mem_insU {t x:Tm}:∀{l:List Tm},x∈insU l t↔x=t\/x∈l
 |[]=>by simp[insU]
 | y :: ys => by
  unfold insU
  split
  ·rw[List.mem_cons,mem_insU,List.mem_cons]
   constructor
   ·rintro(h|h|h)
    ·exact .inr (.inl h)
    ·exact .inl h
    ·exact .inr (.inr h)
   ·rintro(h|h|h)
    ·exact .inr (.inl h)
    ·exact .inl h
    ·exact .inr (.inr h)
  ·split
   ·rename_i e
    have:=z03 e
    subst this
    simp
   ·simp
theorem asc_insU {t:Tm}:∀{l:List Tm},Asc l->Asc (insU l t)
 |[],_=>List.pairwise_singleton _ _
 | y :: ys, h => by
  obtain⟨h1,h2⟩:=List.pairwise_cons.1 h
  unfold insU
  split
  ·rename_i hl
   refine List.pairwise_cons.2 ⟨λz hz=> ?_,asc_insU h2⟩
   rcases mem_insU.1 hz with rfl|hz
   ·exact hl
   ·exact h1 z hz
  ·split
   ·exact h
   ·rename_i hl hn
    have hty:cmpT t y<0:=by have:=z08 y t;omega
    refine List.pairwise_cons.2 ⟨λz hz=> ?_,h⟩
    rcases List.mem_cons.1 hz with rfl|hz
    ·exact hty
    ·exact z07 hty (Int.le_of_lt (h1 z hz))
theorem insU_len {t:Tm}:∀(l:List Tm),(insU l t).length<=l.length+1
 |[]=>Nat.le_refl _
 | y :: ys => by
  unfold insU
  have:=insU_len (t:=t) ys
  split
  ·simp only[List.length_cons];omega
  ·split<;>simp only[List.length_cons]<;>omega
theorem asc_fold :∀(xs l:List Tm),Asc l->Asc (xs.foldl insU l)/\∀x,x∈xs.foldl insU l↔x∈l\/x∈xs
 |[],l,h=>⟨h,λx=>by simp⟩
 | y :: ys, l, h => by
  obtain⟨i1,i2⟩:=asc_fold ys (insU l y) (asc_insU h)
  refine⟨i1,λx=> ?_⟩
  rw[List.foldl_cons,i2,mem_insU,List.mem_cons]
  constructor
  ·rintro((h|h)|h)
   ·exact .inr (.inl h)
   ·exact .inl h
   ·exact .inr (.inr h)
  ·rintro(h|h|h)
   ·exact .inl (.inr h)
   ·exact .inl (.inl h)
   ·exact .inr h
def setT (xs:List Tm):List Tm:=xs.foldl insU []
theorem setT_asc (xs:List Tm):Asc (setT xs):=(asc_fold xs [] .nil).1
theorem mem_setT {xs:List Tm} {x:Tm}:x∈setT xs↔x∈xs:=by have:=(asc_fold xs [] .nil).2 x;simpa [setT]using this
theorem setT_len (xs:List Tm):(setT xs).length<=xs.length:=by
 have:∀(ys l:List Tm),(ys.foldl insU l).length<=l.length+ys.length:=λys=>by
  induction ys with
  |nil=>intro l;exact Nat.le_refl _
  | cons y ys ih =>
   intro l
   have:=ih (insU l y)
   have:=insU_len (t:=y) l
   rw[List.foldl_cons,List.length_cons]
   omega
 have:=this xs []
 simpa [setT]using this
def cmpct :List Tm->List Tm
 |[]=>[]
 |[x]=>[x]
 |x::y::r=>if cmpT y x=0 then cmpct (x::r)else x::cmpct (y::r)
theorem cmpct_set :∀(n:Nat) (l:List Tm),l.length<=n->l.Pairwise (λa b=>cmpT a b<=0)->Asc (cmpct l)/\∀x,x∈cmpct l↔x∈l
 |_,[],_,_=>by unfold cmpct;exact⟨.nil,λx=>Iff.rfl⟩
 |_,[x],_,_=>by unfold cmpct;exact⟨List.pairwise_singleton _ _,λx=>Iff.rfl⟩
 |0,_::_::_,h,_=>by simp at h
 | n + 1, x :: y :: r, hn, h => by
  obtain⟨h1,h2⟩:=List.pairwise_cons.1 h
  obtain⟨h3,h4⟩:=List.pairwise_cons.1 h2
  have hn':r.length+1<=n:=by simp only[List.length_cons]at hn;omega
  unfold cmpct
  split
  ·rename_i e
   have:=z03 e
   subst this
   obtain⟨i1,i2⟩:=cmpct_set n (y::r) hn' h2
   exact⟨i1,λz=>by rw[i2];simp⟩
  ·rename_i e
   obtain⟨i1,i2⟩:=cmpct_set n (y::r) hn' h2
   have hxy:cmpT x y<0:=by
    have:=h1 y (by simp)
    have:=z08 x y
    omega
   refine⟨List.pairwise_cons.2 ⟨λz hz=> ?_,i1⟩,λz=>by rw[List.mem_cons,i2,List.mem_cons (b:=x)]⟩
   rcases List.mem_cons.1 ((i2 z).1 hz)with rfl|hz
   ·exact hxy
   ·exact z07 hxy (h3 z hz)
theorem cmpct_setT {l m:List Tm} (h:l.Pairwise λa b=>cmpT a b<=0) (hm:∀x,x∈l↔x∈m):cmpct l=setT m:=
 asc_uniq (cmpct_set _ l (Nat.le_refl _) h).1 (setT_asc m) λx=>by rw[(cmpct_set _ l (Nat.le_refl _) h).2,mem_setT,hm]
def vT (t:Tm):Tm:=Tm.mk (-1) t.name t.sort []
def ocK :Nat->Tm->List Tm
 |0,_=>[]
 |k+1,t=>if t.op= -1 then [vT t]else t.args.flatMap (ocK k)
def oc (t:Tm):List Tm:=ocK (t.total+1) t
theorem flatMap_congr' {A B:Type} {f g:A->List B}:∀{l:List A},(∀x∈l,f x=g x)->l.flatMap f=l.flatMap g
 |[],_=>rfl
 |x::l,h=>by rw[List.flatMap_cons,List.flatMap_cons,h x (by simp),flatMap_congr' λy hy=>h y (by simp[hy])]
theorem ocK_eq :∀(k j:Nat) (t:Tm),t.total<k->t.total<j->ocK k t=ocK j t
 |0,_,_,h,_=>absurd h (Nat.not_lt_zero _)
 |_+1,0,_,_,h=>absurd h (Nat.not_lt_zero _)
 | k + 1, j + 1, t, h1, h2 => by
  unfold ocK
  rw[flatMap_congr' λx hx=>ocK_eq k j x (by have:=arg_total hx;omega) (by have:=arg_total hx;omega)]
theorem oc_eq (t:Tm):oc t=if t.op= -1 then [vT t]else t.args.flatMap oc:=by
 show (if t.op= -1 then [vT t]else t.args.flatMap (ocK t.total))=_
 rw[flatMap_congr' λx hx=>ocK_eq _ (x.total+1) x (arg_total hx) (Nat.lt_succ_self _)]
 rfl
theorem oc_len :∀(k:Nat) (t:Tm),t.total<k->(oc t).length<=tsz t
 |0,_,h=>absurd h (Nat.not_lt_zero _)
 | k + 1, t, h => by
  rw[oc_eq,tsz_eq]
  split
  ·show 1<=_;omega
  ·have:∀l:List Tm,(∀x∈l,(oc x).length<=tsz x)->(l.flatMap oc).length<=wS tsz l:=λl=>by
    induction l with
    |nil=>intro _;exact Nat.zero_le _
    | cons x l ih =>
     intro hl
     rw[List.flatMap_cons,List.length_append,wS_cons]
     have:=hl x (by simp)
     have:=ih λy hy=>hl y (by simp[hy])
     omega
   have:=this t.args λx hx=>oc_len k x (by have:=arg_total hx;omega)
   omega
theorem oc_var :∀(k:Nat) (t:Tm),t.total<k->∀x∈oc t,x.op= -1/\x.args=[]/\x.total<=t.total
 |0,_,h=>absurd h (Nat.not_lt_zero _)
 | k + 1, t, h => by
  rw[oc_eq]
  split
  ·intro x hx
   rw[List.mem_singleton.1 hx]
   refine⟨rfl,rfl,?_⟩
   rw[total_args (vT t),total_args t]
   exact Nat.add_le_add_left (Nat.zero_le _) _
  ·intro x hx
   obtain⟨y,y1,y2⟩:=List.mem_flatMap.1 hx
   have:=arg_total y1
   obtain⟨a,b,c⟩:=oc_var k y (by omega) x y2
   exact⟨a,b,by omega⟩
def varsF (t:Tm):List Tm:=setT (oc t)
end Go.Proofs.YtkinkfieackmdaaGreat.Den

/-
  Texts that the claim rests on, merged: HoldP, Las, Pl, Run, PlS, Cr.
-/
import Derived.Test.YtjafncnjefnloaaDoorZRowEC2
import Derived.Test.YtjafncnjefnloaaDoorZRowEC23
import Derived.Test.YtjafncnjefnloaaDoorZRowEC28
import Derived.Test.YtjafncnjefnloaaDoorZRowEC33
import Derived.Test.YtjafncnjefnloaaDoorZRowEC34

namespace Go.Proofs.YtjafncnjefnloaaDoor
def nxt (n back i:Nat):Nat:=if i+1<n then i+1 else back
section
variable (n back : Nat) (a b : Nat → Bool)
def untilR :Nat->Nat->Bool
 |0,i=>b i
 |k+1,i=>b i||(a i&&untilR k (nxt n back i))
def wit :Nat->Nat->Prop
 |0,i=>b i=true
 |k+1,i=>a i=true/\wit k (nxt n back i)
def swF (c:Bool):Nat->Bool
 |0=>b (n-1)||(a (n-1)&&c)
 |d+1=>b (n-1-(d+1))||(a (n-1-(d+1))&&swF c d)
theorem untilR_iff (k:Nat):∀i,untilR n back a b k i=true↔∃j,j<=k/\wit n back a b j i:=by
 induction k with
 | zero =>
  intro i
  constructor
  ·intro h;exact⟨0,Nat.le_refl _,h⟩
  ·rintro⟨j,hj,h⟩
   obtain rfl:j=0:=by omega
   exact h
 | succ k ih =>
  intro i
  simp only[untilR,Bool.or_eq_true,Bool.and_eq_true,ih]
  constructor
  ·rintro(h|⟨h,j,hj,hw⟩)
   ·exact⟨0,by omega,h⟩
   ·exact⟨j+1,by omega,h,hw⟩
  ·rintro⟨j,hj,hw⟩
   cases j with
   |zero=>exact .inl hw
   |succ j=>exact .inr ⟨hw.1,j,by omega,hw.2⟩
theorem wit_straight (k:Nat):∀i,i+k<n->(wit n back a b k i↔(b (i+k)=true/\∀m,i<=m->m<i+k->a m=true)):=by
 induction k with
 | zero =>
  intro i hi
  simp only[wit,Nat.add_zero]
  exact⟨fun h=>⟨h,fun m h1 h2=>by omega⟩,fun h=>h.1⟩
 | succ k ih =>
  intro i hi
  have e:nxt n back i=i+1:=by unfold nxt;rw[if_pos (by omega)]
  simp only[wit,e,ih (i+1) (by omega)]
  rw[show i+1+k=i+(k+1) by omega]
  constructor
  ·rintro⟨h1,h2,h3⟩
   refine⟨h2,fun m hm hm2=> ?_⟩
   by_cases e:m=i
   ·subst e;exact h1
   ·exact h3 m (by omega) hm2
  ·rintro⟨h1,h2⟩
   exact⟨h2 i (by omega) (by omega),h1,fun m hm hm2=>h2 m (by omega) hm2⟩
theorem wit_wrap (r:Nat) (e:Nat):∀i,i<n->n-i=e->(wit n back a b (n-i+r) i↔((∀m,i<=m->m<n->a m=true)/\wit n back a b r back)):=by
 induction e with
 |zero=>intro i hi he;omega
 | succ e ih =>
  intro i hi he
  have e1:n-i+r=(e+r)+1:=by omega
  rw[e1]
  simp only[wit]
  by_cases hl:i+1<n
  ·have e2:nxt n back i=i+1:=by unfold nxt;rw[if_pos hl]
   have e3:e+r=n-(i+1)+r:=by omega
   rw[e2,e3,ih (i+1) hl (by omega)]
   constructor
   ·rintro⟨h1,h2,h3⟩
    refine⟨fun m hm hm2=> ?_,h3⟩
    by_cases e:m=i
    ·subst e;exact h1
    ·exact h2 m (by omega) hm2
   ·rintro⟨h1,h2⟩
    exact⟨h1 i (by omega) hi,fun m hm hm2=>h1 m (by omega) hm2,h2⟩
  ·have e2:nxt n back i=back:=by unfold nxt;rw[if_neg hl]
   have e3:e=0:=by omega
   subst e3
   rw[e2,Nat.zero_add]
   constructor
   ·rintro⟨h1,h2⟩
    refine⟨fun m hm hm2=> ?_,h2⟩
    obtain rfl:m=i:=by omega
    exact h1
   ·rintro⟨h1,h2⟩
    exact⟨h1 i (by omega) hi,h2⟩
theorem swF_iff (c:Bool) (d:Nat) (hd:d<n):swF n a b c d=true↔
  ((∃p,n-1-d<=p/\p<n/\b p=true/\∀m,n-1-d<=m->m<p->a m=true)\/(c=true/\∀m,n-1-d<=m->m<n->a m=true)):=by
 induction d with
 | zero =>
  simp only[swF,Bool.or_eq_true,Bool.and_eq_true,Nat.sub_zero]
  constructor
  ·rintro(h|⟨h1,h2⟩)
   ·exact .inl ⟨n-1,by omega,by omega,h,fun m h1 h2=>by omega⟩
   ·refine .inr ⟨h2,fun m hm hm2=> ?_⟩
    obtain rfl:m=n-1:=by omega
    exact h1
  ·rintro(⟨p,hp,hp2,h1,_⟩|⟨h1,h2⟩)
   ·obtain rfl:p=n-1:=by omega
    exact .inl h1
   ·exact .inr ⟨h2 (n-1) (by omega) (by omega),h1⟩
 | succ d ih =>
  simp only[swF,Bool.or_eq_true,Bool.and_eq_true,ih (by omega)]
  have e:n-1-d=n-1-(d+1)+1:=by omega
  rw[e]
  generalize n-1-(d+1)=i at*
  constructor
  ·rintro(h|⟨h1,⟨p,hp,hp2,h3,h4⟩|⟨h3,h4⟩⟩)
   ·exact .inl ⟨i,by omega,by omega,h,fun m h1 h2=>by omega⟩
   ·refine .inl ⟨p,by omega,hp2,h3,fun m hm hm2=> ?_⟩
    by_cases em:m=i
    ·subst em;exact h1
    ·exact h4 m (by omega) hm2
   ·refine .inr ⟨h3,fun m hm hm2=> ?_⟩
    by_cases em:m=i
    ·subst em;exact h1
    ·exact h4 m (by omega) hm2
  ·rintro(⟨p,hp,hp2,h3,h4⟩|⟨h3,h4⟩)
   ·by_cases ep:p=i
    ·subst ep;exact .inl h3
    ·exact .inr ⟨h4 i (by omega) (by omega),.inl ⟨p,by omega,hp2,h3,fun m hm hm2=>h4 m (by omega) hm2⟩⟩
   ·exact .inr ⟨h4 i (by omega) (by omega),.inr ⟨h3,fun m hm hm2=>h4 m (by omega) hm2⟩⟩
theorem wit_short (hb:back<n) (r:Nat):wit n back a b r back->∃r',r'<n-back/\wit n back a b r' back:=by
 induction r using Nat.strongRecOn with
 | ind r ih =>
  intro h
  by_cases hr:r<n-back
  ·exact⟨r,hr,h⟩
  ·have e:r=n-back+(r-(n-back)):=by omega
   rw[e,wit_wrap n back a b _ _ back hb rfl]at h
   exact ih _ (by omega) h.2
theorem until_eq (hb:back<n) (i:Nat) (hi:i<n):swF n a b (swF n a b false (n-1-back)) (n-1-i)=untilR n back a b n i:=by
 rw[Bool.eq_iff_iff,untilR_iff,swF_iff n a b _ _ (by omega),swF_iff n a b _ _ (by omega)]
 rw[show n-1-(n-1-i)=i by omega,show n-1-(n-1-back)=back by omega]
 simp only[Bool.false_eq_true,false_and,or_false]
 constructor
 ·rintro(⟨p,hp,hp2,h1,h2⟩|⟨⟨p,hp,hp2,h1,h2⟩,h3⟩)
  ·refine⟨p-i,by omega,(wit_straight n back a b (p-i) i (by omega)).2 ?_⟩
   rw[show i+(p-i)=p by omega]
   exact⟨h1,fun m hm hm2=>h2 m hm hm2⟩
  ·by_cases hpi:i<=p
   ·refine⟨p-i,by omega,(wit_straight n back a b (p-i) i (by omega)).2 ?_⟩
    rw[show i+(p-i)=p by omega]
    exact⟨h1,fun m hm hm2=>h3 m hm (by omega)⟩
   ·refine⟨n-i+(p-back),by omega,(wit_wrap n back a b (p-back) _ i hi rfl).2 ⟨h3,?_⟩⟩
    refine(wit_straight n back a b (p-back) back (by omega)).2 ?_
    rw[show back+(p-back)=p by omega]
    exact⟨h1,h2⟩
 ·rintro⟨j,hj,hw⟩
  by_cases hji:i+j<n
  ·have h:=(wit_straight n back a b j i hji).1 hw
   exact .inl ⟨i+j,by omega,hji,h.1,h.2⟩
  ·have e:j=n-i+(j-(n-i)):=by omega
   rw[e,wit_wrap n back a b _ _ i hi rfl]at hw
   obtain⟨r,hr,hw2⟩:=wit_short n back a b hb _ hw.2
   have h:=(wit_straight n back a b r back (by omega)).1 hw2
   exact .inr ⟨⟨back+r,by omega,by omega,h.1,h.2⟩,hw.1⟩
end
def hasBit (lab q:Int):Bool:=lab.toNat.testBit q.toNat
def evalK (n back:Nat) (lab:Nat->Int) (k q:Int) (ks:List (Nat->Bool)) (i:Nat):Bool:=
 if k=1 then true
 else if k=2 then hasBit (lab i) q
 else if k=3 then !(ks.getD 0 fun _=>false) i
 else if k=4 then (ks.getD 0 fun _=>false) i&&(ks.getD 1 fun _=>false) i
 else if k=5 then (ks.getD 0 fun _=>false) i||(ks.getD 1 fun _=>false) i
 else if k=6 then (ks.getD 0 fun _=>false) (nxt n back i)
 else untilR n back (ks.getD 0 fun _=>false) (ks.getD 1 fun _=>false) n i
def Fm.hold (n back:Nat) (lab:Nat->Int) (f:Fm):Nat->Bool:=
 match f with
 |⟨k,q,kids⟩=>evalK n back lab k q (kids.attach.map fun⟨x,_⟩=>Fm.hold n back lab x)
termination_by f
decreasing_by
 rename_i hx
 have:=List.sizeOf_lt_of_mem hx
 simp only[Fm.mk.sizeOf_spec]
 omega
theorem Fm.hold_eq (n back:Nat) (lab:Nat->Int) (k q:Int) (kids:List Fm):Fm.hold n back lab ⟨k,q,kids⟩=evalK n back lab k q (kids.map (Fm.hold n back lab)):=by
 rw[Fm.hold]
 congr 1
 conv=>rhs;rw[<-List.attach_map_subtype_val kids,List.map_map]
 rfl
end Go.Proofs.YtjafncnjefnloaaDoor

namespace Go.Proofs.YtjafncnjefnloaaDoor.Den
open Go.RowKit
open Classical
inductive Within :Fm->Fm->Prop
 |refl (f:Fm):Within f f
 |kid {x y f:Fm}:y∈f.kids->Within x y->Within x f
def covers (T:List Fm) (f:Fm):Prop:=∀x,Within x f->6<=x.kind->x∈T
section
variable (labels : List Int) (n back : Nat) (st : Nat → Nat)
noncomputable def hv (p:Fm) (i:Nat):Bool:=Fm.hold n back (fun i=>((labAt labels (st i):Nat):Int)) p i
theorem hv_kid (kids:List Fm) (j i:Nat):((kids.map (Fm.hold n back (fun i=>((labAt labels (st i):Nat):Int)))).getD j fun _=>false) i=kidv (fun x=>hv labels n back st x i) kids j:=by
 unfold kidv
 rw[List.getD_eq_getElem?_getD,List.getElem?_map]
 cases kids[j]? <;>rfl
theorem hv_eq (f:Fm) (i:Nat):hv labels n back st f i=if f.kind=1 then true else if f.kind=2 then (labAt labels (st i)).testBit f.prop.toNat else if f.kind=3 then !kidv (fun x=>hv labels n back st x i) f.kids 0 else if f.kind=4 then kidv (fun x=>hv labels n back st x i) f.kids 0&&kidv (fun x=>hv labels n back st x i) f.kids 1 else if f.kind=5 then kidv (fun x=>hv labels n back st x i) f.kids 0||kidv (fun x=>hv labels n back st x i) f.kids 1 else if f.kind=6 then kidv (fun x=>hv labels n back st x (nxt n back i)) f.kids 0 else untilR n back (fun i=>kidv (fun x=>hv labels n back st x i) f.kids 0) (fun i=>kidv (fun x=>hv labels n back st x i) f.kids 1) n i:=by
 obtain⟨k,q,kids⟩:=f
 have e:∀j,((kids.map (Fm.hold n back (fun i=>((labAt labels (st i):Nat):Int)))).getD j fun _=>false)=fun i=>kidv (fun x=>hv labels n back st x i) kids j:=fun j=>funext fun i=>hv_kid labels n back st kids j i
 unfold hv
 rw[Fm.hold_eq]
 unfold evalK
 simp only[e]
 rfl
variable (T : List Fm)
variable (hT : T.Nodup)
include hT
variable (hC : ∀ t ∈ T, covers T t ∧ t.ok = true ∧ 6 ≤ t.kind)
include hC
end
theorem nxt_lt' {n back i:Nat} (hb:back<n):nxt n back i<n:=by
 unfold nxt;split<;>omega
end Go.Proofs.YtjafncnjefnloaaDoor.Den

namespace Go.Proofs.YtjafncnjefnloaaDoor.Den
open Go.RowKit
open Classical
def tabl (N:Nat) (g:Nat->Bool):List Bool:=(List.range N).map g
theorem tabl_at {N:Nat} {g:Nat->Bool} {i:Nat} (h:i<N):ix (tabl N g) (i:Int)=some (g i):=by
 rw[ix_nat]
 unfold tabl
 rw[List.getElem?_map,List.getElem?_range h];rfl
theorem tabl_congr {N:Nat} {g g':Nat->Bool} (h:∀i,i<N->g i=g' i):tabl N g=tabl N g':=List.map_congr_left fun i hi=>h i (List.mem_range.1 hi)
theorem tabl_set {N:Nat} {g:Nat->Bool} {i:Nat} {v:Bool}:(tabl N g).set i v=tabl N (fun j=>if j=i then v else g j):=by
 apply List.ext_getElem?
 intro j
 unfold tabl
 rw[List.getElem?_set,List.getElem?_map,List.getElem?_map,List.length_map,List.length_range]
 by_cases e:i=j
 ·subst e
  by_cases h:i<N
  ·rw[if_pos rfl,if_pos h,List.getElem?_range h,Option.map_some,if_pos rfl]
  ·rw[if_pos rfl,if_neg h,List.getElem?_eq_none (by simp;omega)];rfl
 ·rw[if_neg e]
  by_cases h:j<N
  ·rw[List.getElem?_range h,Option.map_some,Option.map_some,if_neg (Ne.symm e)]
  ·rw[List.getElem?_eq_none (by simp;omega)];rfl
theorem tabl_rep {N:Nat}:List.replicate N false=tabl N fun _=>false:=by
 apply List.ext_getElem?
 intro j
 unfold tabl
 rw[List.getElem?_map,List.getElem?_replicate]
 by_cases h:j<N
 ·rw[if_pos h,List.getElem?_range h];rfl
 ·rw[if_neg h,List.getElem?_eq_none (by simp;omega)];rfl
def lasOk (l:Lasso):Prop:=1<=l.states.length/\l.states.length<=40/\0<=l.back/\l.back<l.states.length/\∀x∈l.states,0<=x
def stOf (l:Lasso) (i:Nat):Nat:=(l.states[i]?.getD 0).toNat
theorem stOf_at {l:Lasso} (h:lasOk l) {i:Nat} (hi:i<l.states.length):ix l.states (i:Int)=some ((stOf l i:Nat):Int):=by
 rw[ix_nat,List.getElem?_eq_getElem hi]
 unfold stOf
 rw[List.getElem?_eq_getElem hi,Option.getD_some,Int.toNat_of_nonneg (h.2.2.2.2 _ (List.getElem_mem hi))]
noncomputable def hvL (labels:List Int) (l:Lasso) (f:Fm) (i:Nat):Bool:=hv labels l.states.length l.back.toNat (stOf l) f i
noncomputable def rowF (labels:List Int) (l:Lasso) (f:Fm):List Bool:=tabl l.states.length (hvL labels l f)
def PreL (labels:List Int) (l:Lasso):Prop:=lasOk l/\byteL labels/\∀x∈l.states,x<labels.length
theorem PreL.st {labels:List Int} {l:Lasso} (h:PreL labels l) {i:Nat} (hi:i<l.states.length):stOf l i<labels.length:=by
 unfold stOf
 rw[List.getElem?_eq_getElem hi,Option.getD_some]
 have:=h.2.2 _ (List.getElem_mem hi)
 have:=h.1.2.2.2.2 _ (List.getElem_mem hi)
 omega
noncomputable def gPl (k:Nat):Fm->Lasso->List Int->Option (List Bool):=fun f l labels=>if f.size<=k/\goodF f/\PreL labels l then some (rowF labels l f)else none
noncomputable def gNx:Int->Int->Lasso->Option Int:=fun i c0 l=>if lasOk l/\0<=i/\i<l.states.length/\c0=l.states.length then some ((nxt l.states.length l.back.toNat i.toNat:Nat):Int)else none
theorem nx_main {R:Type} (i:Nat) (l:Lasso) (h:lasOk l) (hi:i<l.states.length) (K:Int->Option R):i_places_f1.main ⟨()⟩ 1 i (l.states.length:Int) l K=K ((nxt l.states.length l.back.toNat i:Nat):Int):=by
 obtain⟨_,h2,h3,_,_⟩:=h
 unfold i_places_f1.main nxt
 rw[wr_one (by omega)]
 by_cases c:i+1<l.states.length
 ·rw[lt_nat c,cond_true,if_pos c]
 ·rw[nlt_nat c,cond_false,if_neg c,Int.toNat_of_nonneg h3]
theorem nx_ok :EntOK Tryd.prog (i_places_f1.ent gNx):=i_places_f1.ok (G:=⟨()⟩) trivial fun i c0 l r h=>by
 unfold gNx at h
 split at h
 ·rename_i hp
  cases h
  obtain⟨h1,h2,h3,rfl⟩:=hp
  obtain⟨i,rfl⟩:=Int.eq_ofNat_of_zero_le h2
  exact⟨1,nx_main i l h1 (by omega) _⟩
 ·cases h
theorem gNx_at {l:Lasso} (h:lasOk l) {i:Nat} (hi:i<l.states.length):gNx (i:Int) (l.states.length:Int) l=some ((nxt l.states.length l.back.toNat i:Nat):Int):=if_pos ⟨h,by omega,by omega,rfl⟩
theorem lasOk.lt {l:Lasso} (h:lasOk l):l.back.toNat<l.states.length:=by have:=h.2.2.1;have:=h.2.2.2.1;omega
section
variable {R : Type} (k n : Nat) (hn : 100 ≤ n) {labels : List Int} {l : Lasso} (hp : PreL labels l)
include hn hp
theorem kids_loopP {f:Fm} (h:f.size<=k+1) (hf:goodF f) (a b:Int) (c:List Fm) (k0:List (List Bool)->Option R):
  i_places.l3 ⟨gPl k,gNx⟩ n n labels f.kids (f.kids.length:Int) a b c l.states l.back 0 [] k0=k0 (f.kids.map (rowF labels l)):=by
 have hk:f.kids.length<=2:=by
  rcases ok_cases hf.2 with⟨_,e⟩|⟨_,e,_⟩|⟨_,_,e,_⟩|⟨_,_,_,e,_⟩<;>rw[e]<;>simp
 unfold i_places.l3
 refine(count f.kids.length (fun t a' nx=>i_places.b3 ⟨gPl k,gNx⟩ n labels f.kids (f.kids.length:Int) a b c l.states l.back t a' nx k0) (fun i a=>a=(f.kids.take i).map (rowF labels l)) (fun _ _=>k0 (f.kids.map (rowF labels l))) (fun a nx ha=> ?_) (fun i a nx hi ha hnx=> ?_) n 0 [] (by simp) (by omega) (by omega)).trans rfl
 ·unfold i_places.b3
  rw[nlt_nat (by omega),cond_false,ha,take_all]
 ·obtain⟨x,hx,hm⟩:=get_lt hi
  have e:gPl k x ⟨l.states,l.back⟩ labels=some (rowF labels l x):=if_pos ⟨by have:=size_mem hm;omega,hf.kid hm,hp⟩
  have hta:a.length<=2:=by rw[ha];simp;omega
  unfold i_places.b3
  dsimp only
  rw[lt_nat hi,cond_true,ix_get hx,Option.bind_some,Fm.eta,e,Option.bind_some,lim_eq (by simp;omega),Option.bind_some,wr_one (by omega)]
  refine hnx _ ?_
  obtain⟨hlt,rfl⟩:=List.getElem?_eq_some_iff.1 hx
  rw[List.take_succ_eq_append_getElem hlt,List.map_append,ha];rfl
theorem out_loopP {f:Fm} (hf:goodF f) (c:List Fm) (k0:List Bool->Option R):
  i_places.l11 ⟨gPl k,gNx⟩ n n labels l.states (l.states.length:Int) f.kind f.prop c (f.kids.map (rowF labels l)) (l.states.length:Int) l.states l.back 0 (tabl l.states.length fun _=>false) k0=k0 (tabl l.states.length fun i=>if f.kind=7 then false else hvL labels l f i):=by
 obtain⟨hl,hb,hs⟩:=id hp
 have h40:=hl.2.1
 unfold i_places.l11
 refine(count l.states.length (fun t a' nx=>i_places.b11 ⟨gPl k,gNx⟩ n labels l.states (l.states.length:Int) f.kind f.prop c (f.kids.map (rowF labels l)) (l.states.length:Int) l.states l.back t a' nx k0) (fun i a=>a=tabl l.states.length fun j=>if j<i then (if f.kind=7 then false else hvL labels l f j)else false) (fun _ _=>k0 (tabl l.states.length fun i=>if f.kind=7 then false else hvL labels l f i)) (fun a nx ha=> ?_) (fun i a nx hi ha hnx=> ?_) n 0 _ (tabl_congr fun j _=>by rw[if_neg (by omega)]) (by omega) (by omega)).trans rfl
 ·unfold i_places.b11
  rw[nlt_nat (by omega),cond_false,ha]
  congr 1
  exact tabl_congr fun j hj=>by rw[if_pos hj]
 ·have key:∀v:Bool,v=(if f.kind=7 then false else hvL labels l f i)->(Option.bind (ix a (i:Int)) fun _=>nx (wr ((i:Int)+1)) (a.set ((i:Int)).toNat v))=k0 (tabl l.states.length fun i=>if f.kind=7 then false else hvL labels l f i):=fun v hv=>by
   rw[ha,tabl_at hi,Option.bind_some,wr_one (by omega),Int.toNat_natCast,tabl_set]
   refine hnx _ (tabl_congr fun j _=> ?_)
   by_cases e:j=i
   ·subst e;rw[if_pos rfl,if_pos (by omega),hv]
   ·by_cases c:j<i
    ·rw[if_neg e,if_pos c,if_pos (c:=j<i+1) (by omega)]
    ·rw[if_neg e,if_neg c,if_neg (c:=j<i+1) (by omega)]
  have hh:=hv_eq labels l.states.length l.back.toNat (stOf l) f i
  have hat:∀x,ix (rowF labels l x) (i:Int)=some (hvL labels l x i):=fun x=>tabl_at hi
  unfold i_places.b11
  dsimp only
  rw[lt_nat hi,cond_true,stOf_at hl hi,Option.bind_some]
  rcases ok_cases hf.2 with⟨c,hk⟩|⟨c,hk,q0,q1⟩|⟨c,x,hk,hx⟩|⟨c,x,y,hk,hx,hy⟩
  ·rw[decide_eq_true c,cond_true]
   refine key _ ?_
   rw[if_neg (by omega)]
   unfold hvL
   rw[hh,if_pos c]
  ·obtain⟨p,hpp⟩:=Int.eq_ofNat_of_zero_le q0
   obtain⟨e1,e2⟩:=labAt_get hb (hp.st hi)
   rw[decide_eq_false (p:=f.kind=1) (by omega),decide_eq_true c,cond_false,cond_true,e1,Option.bind_some,hpp]
   refine(bit_bind (a:=labAt labels (stOf l i)) (k:=p) (by omega) (by omega) (fun b=>Option.bind (ix a (i:Int)) fun _=>nx (wr ((i:Int)+1)) (a.set ((i:Int)).toNat b))).trans ?_
   refine key _ ?_
   rw[if_neg (by omega)]
   unfold hvL
   rw[hh,if_neg (by omega),if_pos c,hpp,Int.toNat_natCast]
  ·rw[hk]at hh ⊢
   simp only[List.map_cons,List.map_nil,ix_zero,Option.bind_some,hat]
   by_cases c3:f.kind=3
   ·rw[decide_eq_false (p:=f.kind=1) (by omega),decide_eq_false (p:=f.kind=2) (by omega),decide_eq_true c3,cond_false,cond_false,cond_true]
    refine key _ ?_
    rw[if_neg (by omega)]
    unfold hvL
    rw[hh,if_neg (by omega),if_neg (by omega),if_pos c3,kidv_zero]
   ·have c6:f.kind=6:=by omega
    rw[decide_eq_false (p:=f.kind=1) (by omega),decide_eq_false (p:=f.kind=2) (by omega),decide_eq_false c3,decide_eq_false (p:=f.kind=4) (by omega),decide_eq_false (p:=f.kind=5) (by omega),decide_eq_true c6,cond_false,cond_false,cond_false,cond_false,cond_false,cond_true]
    rw[show gNx (i:Int) (l.states.length:Int) ⟨l.states,l.back⟩=some _ from gNx_at hl hi,Option.bind_some]
    have e2:ix (rowF labels l x) ((nxt l.states.length l.back.toNat i:Nat):Int)=some (hvL labels l x (nxt l.states.length l.back.toNat i)):=tabl_at (nxt_lt' hl.lt)
    rw[e2,Option.bind_some]
    refine key _ ?_
    rw[if_neg (by omega)]
    unfold hvL
    rw[hh,if_neg (by omega),if_neg (by omega),if_neg (by omega),if_neg (by omega),if_neg (by omega),if_pos c6,kidv_zero]
  ·rw [hk] at hh ⊢
   simp only[List.map_cons,List.map_nil,ix_zero,ix_one,Option.bind_some,hat]
   by_cases c4:f.kind=4
   ·rw[decide_eq_false (p:=f.kind=1) (by omega),decide_eq_false (p:=f.kind=2) (by omega),decide_eq_false (p:=f.kind=3) (by omega),decide_eq_true c4,cond_false,cond_false,cond_false,cond_true]
    have fin:hvL labels l f i=(hvL labels l x i&&hvL labels l y i):=by
     unfold hvL
     rw[hh,if_neg (by omega),if_neg (by omega),if_neg (by omega),if_pos c4,kidv_zero,kidv_one]
    cases hxi:hvL labels l x i<;>rw[hxi]at fin
    ·exact key _ (by rw[if_neg (by omega),fin];rfl)
    ·exact key _ (by rw[if_neg (by omega),fin];rfl)
   ·by_cases c5:f.kind=5
    ·rw[decide_eq_false (p:=f.kind=1) (by omega),decide_eq_false (p:=f.kind=2) (by omega),decide_eq_false (p:=f.kind=3) (by omega),decide_eq_false c4,decide_eq_true c5,cond_false,cond_false,cond_false,cond_false,cond_true]
     have fin:hvL labels l f i=(hvL labels l x i||hvL labels l y i):=by
      unfold hvL
      rw[hh,if_neg (by omega),if_neg (by omega),if_neg (by omega),if_neg (by omega),if_pos c5,kidv_zero,kidv_one]
     cases hxi:hvL labels l x i<;>rw[hxi]at fin
     ·exact key _ (by rw[if_neg (by omega),fin];rfl)
     ·exact key _ (by rw[if_neg (by omega),fin];rfl)
    ·have c7:f.kind=7:=by omega
     rw[decide_eq_false (p:=f.kind=1) (by omega),decide_eq_false (p:=f.kind=2) (by omega),decide_eq_false (p:=f.kind=3) (by omega),decide_eq_false c4,decide_eq_false c5,decide_eq_false (p:=f.kind=6) (by omega),cond_false,cond_false,cond_false,cond_false,cond_false,cond_false,wr_one (by omega),ha]
     refine hnx _ (tabl_congr fun j _=> ?_)
     simp only[if_pos c7,ite_self]
theorem sweepP (t:Int) (x y:Fm) (g:Nat->Bool) (k0:List Bool->Option R):
  i_places.l31 ⟨gPl k,gNx⟩ n n t [rowF labels l x,rowF labels l y] (l.states.length:Int) l.states l.back (wr ((l.states.length:Int)-1)) (tabl l.states.length g) k0=k0 (tabl l.states.length fun j=>swF l.states.length (hvL labels l x) (hvL labels l y) (g l.back.toNat) (l.states.length-1-j)):=by
 obtain⟨hl,hb,hs⟩:=id hp
 have h40:=hl.2.1
 have h1:=hl.1
 have hlt:=hl.lt
 have hsw:∀d,swF l.states.length (hvL labels l x) (hvL labels l y) (g l.back.toNat) d=(hvL labels l y (l.states.length-1-d)||(hvL labels l x (l.states.length-1-d)&&if d=0 then g l.back.toNat else swF l.states.length (hvL labels l x) (hvL labels l y) (g l.back.toNat) (d-1))):=fun d=>by
  cases d with
  |zero=>rfl
  |succ d=>rw[if_neg (by omega)];rfl
 generalize hS:swF l.states.length (hvL labels l x) (hvL labels l y) (g l.back.toNat)=S at*
 unfold i_places.l31
 refine(iterV l.states.length (fun(v:Int×List Bool) nx=>i_places.b31 ⟨gPl k,gNx⟩ n t [rowF labels l x,rowF labels l y] (l.states.length:Int) l.states l.back v.1 v.2 (fun y0 y1=>nx (y0,y1)) k0) (fun d s=>s=((l.states.length:Int)-1-(d:Int),tabl l.states.length fun j=>if l.states.length-d<=j then S (l.states.length-1-j)else g j)) (fun _ _=>k0 (tabl l.states.length fun j=>S (l.states.length-1-j))) (fun s nx hq=> ?_) (fun d s nx hd hq hnx=> ?_) n 0 _ ?_ (by omega) (by omega)).trans rfl
 ·subst hq
  unfold i_places.b31
  dsimp only
  rw[decide_eq_false (by omega),cond_false]
  congr 1
  exact tabl_congr fun j hj=>by rw[if_pos (by omega)]
 ·subst hq
  have hi:l.states.length-1-d<l.states.length:=by omega
  have ei:(l.states.length:Int)-1-(d:Int)=((l.states.length-1-d:Nat):Int):=by omega
  have hx:ix (rowF labels l x) ((l.states.length-1-d:Nat):Int)=some (hvL labels l x (l.states.length-1-d)):=tabl_at hi
  have hy:ix (rowF labels l y) ((l.states.length-1-d:Nat):Int)=some (hvL labels l y (l.states.length-1-d)):=tabl_at hi
  have key:∀v:Bool,v=S d->nx ((wr (((l.states.length-1-d:Nat):Int)-1)),(tabl l.states.length fun j=>if l.states.length-d<=j then S (l.states.length-1-j)else g j).set (((l.states.length-1-d:Nat):Int)).toNat v)=k0 (tabl l.states.length fun j=>S (l.states.length-1-j)):=fun v hv=>by
   refine hnx _ ?_
   rw[wr_in (by omega),Int.toNat_natCast,tabl_set]
   refine Prod.ext (by simp only;omega) (tabl_congr fun j hj=> ?_)
   by_cases e:j=l.states.length-1-d
   ·rw[if_pos e,if_pos (by omega),hv,e]
    congr 1;omega
   ·rw[if_neg e]
    by_cases c:l.states.length-d<=j
    ·rw[if_pos c,if_pos (by omega)]
    ·rw[if_neg c,if_neg (by omega)]
  have hw:=hsw d
  unfold i_places.b31
  dsimp only
  rw[ei,decide_eq_true (by omega),cond_true,ix_one,Option.bind_some,hy,Option.bind_some]
  cases hyi:hvL labels l y (l.states.length-1-d)
  ·rw [cond_false, ix_zero, Option.bind_some, hx, Option.bind_some]
   rw[hyi,Bool.false_or]at hw
   cases hxi:hvL labels l x (l.states.length-1-d)
   ·rw[hxi,Bool.false_and]at hw
    rw[cond_false,tabl_at hi,Option.bind_some]
    exact key _ hw.symm
   ·rw[hxi,Bool.true_and]at hw
    rw[cond_true,show gNx ((l.states.length-1-d:Nat):Int) (l.states.length:Int) ⟨l.states,l.back⟩=some _ from gNx_at hl hi,Option.bind_some,tabl_at (nxt_lt' hlt),Option.bind_some,tabl_at hi,Option.bind_some]
    refine key _ ?_
    rw[hw]
    unfold nxt
    by_cases c:d=0
    ·subst c
     rw[if_neg (c:=l.states.length-1-0+1<l.states.length) (by omega),if_neg (by omega),if_pos rfl]
    ·rw[if_pos (c:=l.states.length-1-d+1<l.states.length) (by omega),if_pos (by omega),if_neg c]
     congr 1;omega
  ·rw[hyi,Bool.true_or]at hw
   rw[cond_true,tabl_at hi,Option.bind_some]
   exact key _ hw.symm
 ·rw[wr_in (by omega)]
  refine Prod.ext (by simp) (tabl_congr fun j hj=> ?_)
  rw[if_neg (by omega)]
theorem until_loopP (x y:Fm) (k0:List Bool->Option R):
  i_places.l29 ⟨gPl k,gNx⟩ n n [rowF labels l x,rowF labels l y] (l.states.length:Int) l.states l.back 0 (tabl l.states.length fun _=>false) k0=k0 (tabl l.states.length fun j=>untilR l.states.length l.back.toNat (hvL labels l x) (hvL labels l y) l.states.length j):=by
 have hlt:=hp.1.lt
 obtain⟨m,rfl⟩:∃m,n=m+3:=⟨n-3,by omega⟩
 have e1:=fun(t:Int) (g:Nat->Bool) (k0:List Bool->Option R)=>sweepP k (m+3) hn hp t x y g k0
 have step:∀(q:Nat) (t:Int) (g:Nat->Bool),t<2->0<=t->i_places.l29 ⟨gPl k,gNx⟩ (m+3) (q+1) [rowF labels l x,rowF labels l y] (l.states.length:Int) l.states l.back t (tabl l.states.length g) k0=i_places.l29 ⟨gPl k,gNx⟩ (m+3) q [rowF labels l x,rowF labels l y] (l.states.length:Int) l.states l.back (t+1) (tabl l.states.length fun j=>swF l.states.length (hvL labels l x) (hvL labels l y) (g l.back.toNat) (l.states.length-1-j)) k0:=fun q t g ht ht0=>by
  show i_places.b29 ⟨gPl k,gNx⟩ (m+3) [rowF labels l x,rowF labels l y] (l.states.length:Int) l.states l.back t (tabl l.states.length g) (fun y0 y1=>i_places.l29 ⟨gPl k,gNx⟩ (m+3) q [rowF labels l x,rowF labels l y] (l.states.length:Int) l.states l.back y0 y1 k0) k0=_
  unfold i_places.b29
  rw[decide_eq_true ht,cond_true,e1,wr_in (by omega)]
 have fin:∀(q:Nat) (g:Nat->Bool),i_places.l29 ⟨gPl k,gNx⟩ (m+3) (q+1) [rowF labels l x,rowF labels l y] (l.states.length:Int) l.states l.back (0+1+1) (tabl l.states.length g) k0=k0 (tabl l.states.length g):=fun q g=>by
  show i_places.b29 ⟨gPl k,gNx⟩ (m+3) [rowF labels l x,rowF labels l y] (l.states.length:Int) l.states l.back (0+1+1) (tabl l.states.length g) (fun y0 y1=>i_places.l29 ⟨gPl k,gNx⟩ (m+3) q [rowF labels l x,rowF labels l y] (l.states.length:Int) l.states l.back y0 y1 k0) k0=_
  unfold i_places.b29
  rw[decide_eq_false (by omega),cond_false]
 rw[step _ _ _ (by omega) (by omega),step _ _ _ (by omega) (by omega),fin]
 congr 1
 exact tabl_congr fun j hj=>until_eq _ _ _ _ hlt j hj
theorem places_main {f:Fm} (h:f.size<=k+1) (hf:goodF f) (K:List Bool->Option R):i_places.main ⟨gPl k,gNx⟩ n f l labels K=K (rowF labels l f):=by
 have h40:=hp.1.2.1
 unfold i_places.main
 rw[kids_loopP k n hn hp h hf,mk_eq (by omega),Option.bind_some,tabl_rep,out_loopP k n hn hp hf]
 by_cases c7:f.kind=7
 ·obtain⟨x,y,hk⟩:∃x y,f.kids=[x,y]:=by
   rcases ok_cases hf.2 with⟨c,_⟩|⟨c,_⟩|⟨c,_⟩|⟨c,x,y,e,_⟩
   ·omega
   ·omega
   ·omega
   ·exact⟨x,y,e⟩
  rw[decide_eq_true c7,cond_true,hk]
  simp only[if_pos c7,List.map_cons,List.map_nil]
  rw[until_loopP k n hn hp]
  congr 1
  refine tabl_congr fun j hj=> ?_
  unfold hvL
  rw[hv_eq _ _ _ _ f,if_neg (by omega),if_neg (by omega),if_neg (by omega),if_neg (by omega),if_neg (by omega),if_neg (by omega),hk]
  rfl
 ·rw[decide_eq_false c7,cond_false]
  congr 1
  exact tabl_congr fun j hj=>by rw[if_neg c7]
end
theorem gPl_zero :gPl 0=fun _ _ _=>none:=by
 funext f l labels
 exact if_neg fun q=>by have:=q.1;rw[Fm.size_eq]at this;omega
theorem places_ok :∀k,EntOK Tryd.prog (i_places.ent (gPl k))
 | 0 => by
  rw[gPl_zero]
  intro R xs H K r h
  simp only[i_places.ent]at h
  split at h<;>cases h
 | k + 1 => i_places.ok (G := ⟨gPl k, gNx⟩) ⟨places_ok k, nx_ok, trivial⟩ fun f l labels r h => by
  unfold gPl at h
  split at h
  ·rename_i hp
   cases h
   exact⟨100,places_main k 100 (by omega) hp.2.2 hp.1 hp.2.1 _⟩
  ·cases h
end Go.Proofs.YtjafncnjefnloaaDoor.Den

namespace Go.Proofs.YtjafncnjefnloaaDoor.Den
open Go.RowKit
open Classical
theorem all_loopN {R:Type} (N:Nat) (P:Nat->Prop) [∀i,Decidable (P i)] [Decidable (∀j,j<N->P j)] (B:Int->(Int->Option R)->Option R) (k0 k1:Option R) (hend:∀nx,B N nx=k1) (hstep:∀i nx,i<N->B i nx=if P i then nx ((i+1:Nat):Int)else k0) (m:Nat) (hm:N<m):iter (fun(v:Int) nx=>B v (fun y0=>nx y0)) m 0=if ∀j,j<N->P j then k1 else k0:=by
 refine(count0 N B (fun i=>if ∀j,i<=j->j<N->P j then k1 else k0) (fun nx=> ?_) (fun i nx hi hnx=> ?_) m 0 (by omega) (by omega)).trans ?_
 ·rw[hend,if_pos fun j h1 h2=>by omega]
 ·rw[hstep i nx hi,hnx]
  by_cases h:P i
  ·rw[if_pos h]
   by_cases c:∀j,i+1<=j->j<N->P j
   ·rw[if_pos c,if_pos fun j h1 h2=>(Nat.eq_or_lt_of_le h1).elim (fun e=>e▸h) fun h1=>c j h1 h2]
   ·rw[if_neg c,if_neg fun q=>c fun j h1 h2=>q j (by omega) h2]
  ·rw[if_neg h,if_neg fun q=>h (q i (Nat.le_refl _) hi)]
 ·by_cases c:∀j,j<N->P j
  ·rw[if_pos c,if_pos fun j _ h2=>c j h2]
  ·rw[if_neg c,if_neg fun q=>c fun j h2=>q j (by omega) h2]
def idxI (v:Int):List Int->Nat->Int
 |[],_=> -1
 |x::xs,i=>if v=x then (i:Int)else idxI v xs (i+1)
theorem idxI_cons {v x:Int} {xs:List Int} {i:Nat}:idxI v (x::xs) i=if v=x then (i:Int)else idxI v xs (i+1):=rfl
theorem idxI_sign (v:Int):∀(xs:List Int) (i:Nat),decide (0<=idxI v xs i)=decide (v∈xs)
 |[],i=>by simp[idxI]
 | x :: xs, i => by
  unfold idxI
  by_cases h:v=x
  ·rw[if_pos h,decide_eq_true (by omega),decide_eq_true (by simp[h])]
  ·rw[if_neg h,idxI_sign v xs (i+1)]
   exact decide_eq_decide.2 (by simp[h])
noncomputable def gIdx:List Int->Int->Option Int:=fun s v=>if s.length<=100000 then some (idxI v s 0)else none
theorem idx_main {R:Type} (s:List Int) (v:Int) (h:s.length<=100000) (K:Int->Option R):slices_Index_intint.main ⟨()⟩ 100001 s v K=K (idxI v s 0):=by
 unfold slices_Index_intint.main slices_Index_intint.l2
 refine(count0 s.length (fun t nx=>slices_Index_intint.b2 ⟨()⟩ 100001 s v (s.length:Int) t nx (fun t4=>K t4) (K (-1))) (fun i=>K (idxI v (s.drop i) i)) (fun nx=> ?_) (fun i nx hi hnx=> ?_) 100001 0 (by omega) (by omega)).trans ?_
 ·unfold slices_Index_intint.b2
  rw[nlt_nat (by omega),cond_false,drop_nat];rfl
 ·obtain⟨x,hx,hm⟩:=get_lt hi
  obtain⟨hlt,e⟩:=List.getElem?_eq_some_iff.1 hx
  unfold slices_Index_intint.b2
  rw[lt_nat hi,cond_true,ix_get hx,Option.bind_some,wr_one (by omega),hnx,List.drop_eq_getElem_cons hlt,e,idxI_cons]
  by_cases c:v=x
  ·rw[decide_eq_true c,cond_true,if_pos c]
  ·rw[decide_eq_false c,cond_false,if_neg c]
 ·rw[List.drop_zero]
theorem idx_ok :EntOK Tryd.prog (slices_Index_intint.ent gIdx):=slices_Index_intint.ok (G:=⟨()⟩) trivial fun s v r h=>by
 unfold gIdx at h
 split at h
 ·rename_i hp
  cases h
  exact⟨100001,idx_main s v hp _⟩
 ·cases h
theorem cont_ok :EntOK Tryd.prog (slices_Contains_intint.ent gHasInt):=slices_Contains_intint.ok (G:=⟨gIdx⟩) ⟨idx_ok,trivial⟩ fun s v r h=>by
 unfold gHasInt at h
 split at h
 ·rename_i hp
  cases h
  refine⟨1,?_⟩
  unfold slices_Contains_intint.main
  dsimp only
  rw[show gIdx s v=some _ from if_pos hp,Option.bind_some,idxI_sign]
 ·cases h
noncomputable def gAft:Lasso->Int->Option Int:=fun l i=>if lasOk l/\0<=i/\i<l.states.length then some ((nxt l.states.length l.back.toNat i.toNat:Nat):Int)else none
theorem aft_ok :EntOK Tryd.prog (s_l31After.ent gAft):=s_l31After.ok (G:=⟨()⟩) trivial fun l i r h=>by
 unfold gAft at h
 split at h
 ·rename_i hp
  cases h
  obtain⟨h1,h2,h3⟩:=hp
  obtain⟨i,rfl⟩:=Int.eq_ofNat_of_zero_le h2
  refine⟨1,?_⟩
  obtain⟨_,h2,h3,_,_⟩:=h1
  unfold s_l31After.main nxt
  rw[wr_one (by omega),Int.toNat_natCast]
  by_cases c:i+1<l.states.length
  ·rw[lt_nat c,cond_true,if_pos c]
  ·rw[nlt_nat c,cond_false,if_neg c,Int.toNat_of_nonneg h3]
 ·cases h
end Go.Proofs.YtjafncnjefnloaaDoor.Den

namespace Go.Proofs.YtjafncnjefnloaaDoor.Den
open Go.RowKit
open Classical
section
variable {R : Type} (k n : Nat) (hn : 100 ≤ n) {labels : List Int} {l : Lasso} (hp : PreL labels l)
include hp
theorem until_loopS {i:Nat} (hi:i<l.states.length) (a b:Int) (c:List Fm) (x y:Fm) (k0:List Bool->Option R):∀(r m at_:Nat) (g:Nat->Bool),r+2<=m->r<=l.states.length->at_<l.states.length->g i=false->
  s_l31Places.l27 ⟨gPl k,gHasB,gAft⟩ n m labels (l.states.length:Int) (i:Int) a b c l.states l.back [rowF labels l x,rowF labels l y] (at_:Int) ((l.states.length-r:Nat):Int) (tabl l.states.length g) k0=k0 (tabl l.states.length fun j=>if j=i then untilR l.states.length l.back.toNat (hvL labels l x) (hvL labels l y) r at_ else g j):=by
 have h40:=hp.1.2.1
 intro r
 induction r with
 | zero =>
  intro m at_ g hm hr ha hg
  obtain⟨m,rfl⟩:∃q,m=q+2:=⟨m-2,by omega⟩
  have hx:ix (rowF labels l x) (at_:Int)=some (hvL labels l x at_):=tabl_at ha
  have hy:ix (rowF labels l y) (at_:Int)=some (hvL labels l y at_):=tabl_at ha
  show s_l31Places.b27 ⟨gPl k,gHasB,gAft⟩ n labels (l.states.length:Int) (i:Int) a b c l.states l.back [rowF labels l x,rowF labels l y] (at_:Int) ((l.states.length-0:Nat):Int) (tabl l.states.length g) (fun y0 y1 y2=>s_l31Places.b27 ⟨gPl k,gHasB,gAft⟩ n labels (l.states.length:Int) (i:Int) a b c l.states l.back [rowF labels l x,rowF labels l y] y0 y1 y2 (fun y0 y1 y2=>s_l31Places.l27 ⟨gPl k,gHasB,gAft⟩ n m labels (l.states.length:Int) (i:Int) a b c l.states l.back [rowF labels l x,rowF labels l y] y0 y1 y2 k0) k0) k0=_
  unfold s_l31Places.b27
  dsimp only
  rw[decide_eq_true (by omega),cond_true,tabl_at hi,Option.bind_some,hg,Bool.not_false,cond_true,ix_one,Option.bind_some,hy,Option.bind_some,Option.bind_some,ix_zero,Option.bind_some,hx,Option.bind_some,Int.toNat_natCast,tabl_set]
  cases hvL labels l x at_
  ·rw[Bool.not_false,cond_true];rfl
  ·rw[Bool.not_true,cond_false,show gAft ⟨l.states,l.back⟩ (at_:Int)=some _ from if_pos ⟨hp.1,by omega,by simpa using ha⟩,Option.bind_some,wr_one (by omega),decide_eq_false (by omega),cond_false];rfl
 | succ r ih =>
  intro m at_ g hm hr ha hg
  obtain⟨m,rfl⟩:∃q,m=q+1:=⟨m-1,by omega⟩
  have hx:ix (rowF labels l x) (at_:Int)=some (hvL labels l x at_):=tabl_at ha
  have hy:ix (rowF labels l y) (at_:Int)=some (hvL labels l y at_):=tabl_at ha
  show s_l31Places.b27 ⟨gPl k,gHasB,gAft⟩ n labels (l.states.length:Int) (i:Int) a b c l.states l.back [rowF labels l x,rowF labels l y] (at_:Int) ((l.states.length-(r+1):Nat):Int) (tabl l.states.length g) (fun y0 y1 y2=>s_l31Places.l27 ⟨gPl k,gHasB,gAft⟩ n m labels (l.states.length:Int) (i:Int) a b c l.states l.back [rowF labels l x,rowF labels l y] y0 y1 y2 k0) k0=_
  have hu:untilR l.states.length l.back.toNat (hvL labels l x) (hvL labels l y) (r+1) at_=(hvL labels l y at_||(hvL labels l x at_&&untilR l.states.length l.back.toNat (hvL labels l x) (hvL labels l y) r (nxt l.states.length l.back.toNat at_))):=rfl
  unfold s_l31Places.b27
  dsimp only
  rw[decide_eq_true (by omega),cond_true,tabl_at hi,Option.bind_some,hg,Bool.not_false,cond_true,ix_one,Option.bind_some,hy,Option.bind_some,Option.bind_some,ix_zero,Option.bind_some,hx,Option.bind_some,Int.toNat_natCast,tabl_set,hu]
  cases hxa:hvL labels l x at_
  ·rw[Bool.not_false,cond_true,Bool.false_and,Bool.or_false]
  ·rw[Bool.not_true,cond_false,show gAft ⟨l.states,l.back⟩ (at_:Int)=some _ from if_pos ⟨hp.1,by omega,by simpa using ha⟩,Option.bind_some,wr_one (by omega),Int.toNat_natCast,show l.states.length-(r+1)+1=l.states.length-r by omega]
   cases hya:hvL labels l y at_
   ·rw[ih m _ _ (by omega) (by omega) (nxt_lt' hp.1.lt) (by rw[if_pos rfl])]
    congr 1
    refine tabl_congr fun j _=> ?_
    by_cases e:j=i
    ·rw[if_pos e,if_pos e,Bool.true_and,Bool.false_or]
    ·rw[if_neg e,if_neg e,if_neg e]
   ·obtain⟨m,rfl⟩:∃q,m=q+1:=⟨m-1,by omega⟩
    rw[Bool.true_or]
    show s_l31Places.b27 ⟨gPl k,gHasB,gAft⟩ n labels (l.states.length:Int) (i:Int) a b c l.states l.back [rowF labels l x,rowF labels l y] _ _ _ (fun y0 y1 y2=>s_l31Places.l27 ⟨gPl k,gHasB,gAft⟩ n m labels (l.states.length:Int) (i:Int) a b c l.states l.back [rowF labels l x,rowF labels l y] y0 y1 y2 k0) k0=_
    unfold s_l31Places.b27
    dsimp only
    rw[decide_eq_true (by omega),cond_true,tabl_at hi,Option.bind_some,if_pos rfl,Bool.not_true,cond_false]
include hn
theorem kids_loopS {f:Fm} (h:f.size<=k+1) (hf:goodF f) (a b:Int) (z:List Bool) (k0:List (List Bool)->Option R):
  s_l31Places.l5 ⟨gPl k,gHasB,gAft⟩ n n labels (l.states.length:Int) a b f.kids l.states l.back z 0 [] k0=k0 (f.kids.map (rowF labels l)):=by
 have hk:f.kids.length<=2:=by
  rcases ok_cases hf.2 with⟨_,e⟩|⟨_,e,_⟩|⟨_,_,e,_⟩|⟨_,_,_,e,_⟩<;>rw[e]<;>simp
 unfold s_l31Places.l5
 refine(count f.kids.length (fun t a' nx=>s_l31Places.b5 ⟨gPl k,gHasB,gAft⟩ n labels (l.states.length:Int) a b f.kids l.states l.back z t a' nx k0) (fun i a=>a=(f.kids.take i).map (rowF labels l)) (fun _ _=>k0 (f.kids.map (rowF labels l))) (fun a nx ha=> ?_) (fun i a nx hi ha hnx=> ?_) n 0 [] (by simp) (by omega) (by omega)).trans rfl
 ·unfold s_l31Places.b5
  rw[nlt_nat (by omega),cond_false,ha,take_all]
 ·obtain⟨x,hx,hm⟩:=get_lt hi
  have e:gPl k x ⟨l.states,l.back⟩ labels=some (rowF labels l x):=if_pos ⟨by have:=size_mem hm;omega,hf.kid hm,hp⟩
  have hta:a.length<=2:=by rw[ha];simp;omega
  unfold s_l31Places.b5
  dsimp only
  rw[lt_nat hi,cond_true,ix_get hx,Option.bind_some,Fm.eta,e,Option.bind_some,lim_eq (by simp;omega),Option.bind_some,wr_one (by omega)]
  refine hnx _ ?_
  obtain⟨hlt,rfl⟩:=List.getElem?_eq_some_iff.1 hx
  rw[List.take_succ_eq_append_getElem hlt,List.map_append,ha];rfl
theorem out_loopS {f:Fm} (hf:goodF f) (cc:List Fm) (k0:List Bool->Option R):
  s_l31Places.l9 ⟨gPl k,gHasB,gAft⟩ n n labels (l.states.length:Int) f.kind f.prop cc l.states l.back (f.kids.map (rowF labels l)) 0 (tabl l.states.length fun _=>false) k0=k0 (rowF labels l f):=by
 obtain⟨hl,hb,hs⟩:=id hp
 have h40:=hl.2.1
 unfold s_l31Places.l9
 refine(count l.states.length (fun t a' nx=>s_l31Places.b9 ⟨gPl k,gHasB,gAft⟩ n labels (l.states.length:Int) f.kind f.prop cc l.states l.back (f.kids.map (rowF labels l)) t a' nx k0) (fun i a=>a=tabl l.states.length fun j=>if j<i then hvL labels l f j else false) (fun _ _=>k0 (rowF labels l f)) (fun a nx ha=> ?_) (fun i a nx hi ha hnx=> ?_) n 0 _ (tabl_congr fun j _=>by rw[if_neg (by omega)]) (by omega) (by omega)).trans rfl
 ·unfold s_l31Places.b9
  rw[nlt_nat (by omega),cond_false,ha]
  congr 1
  exact tabl_congr fun j hj=>by rw[if_pos hj]
 ·have hup:∀v:Bool,v=hvL labels l f i->(tabl l.states.length fun j=>if j=i then v else if j<i then hvL labels l f j else false)=tabl l.states.length fun j=>if j<i+1 then hvL labels l f j else false:=fun v hv=>tabl_congr fun j _=>by
   by_cases e:j=i
   ·subst e;rw[if_pos rfl,if_pos (by omega),hv]
   ·by_cases c:j<i
    ·rw[if_neg e,if_pos c,if_pos (c:=j<i+1) (by omega)]
    ·rw[if_neg e,if_neg c,if_neg (c:=j<i+1) (by omega)]
  have key:∀v:Bool,v=hvL labels l f i->(Option.bind (ix a (i:Int)) fun _=>nx (wr ((i:Int)+1)) (a.set ((i:Int)).toNat v))=k0 (rowF labels l f):=fun v hv=>by
   rw[ha,tabl_at hi,Option.bind_some,wr_one (by omega),Int.toNat_natCast,tabl_set]
   exact hnx _ (hup v hv)
  have hh:=hv_eq labels l.states.length l.back.toNat (stOf l) f i
  have hat:∀x,ix (rowF labels l x) (i:Int)=some (hvL labels l x i):=fun x=>tabl_at hi
  unfold s_l31Places.b9
  dsimp only
  rw[lt_nat hi,cond_true]
  rcases ok_cases hf.2 with⟨c,hk⟩|⟨c,hk,q0,q1⟩|⟨c,x,hk,hx⟩|⟨c,x,y,hk,hx,hy⟩
  ·rw[decide_eq_true c,cond_true]
   refine key _ ?_
   unfold hvL
   rw[hh,if_pos c]
  ·obtain⟨p,hpp⟩:=Int.eq_ofNat_of_zero_le q0
   obtain⟨e1,e2⟩:=labAt_get hb (hp.st hi)
   have hg:gHasB ((labAt labels (stOf l i):Nat):Int) f.prop=some ((labAt labels (stOf l i)).testBit f.prop.toNat):=by
    unfold gHasB
    rw[if_pos ⟨by omega,by omega⟩,hpp,Int.toNat_natCast,hasB_nat (by omega),Int.toNat_natCast]
   rw[decide_eq_false (p:=f.kind=1) (by omega),decide_eq_true c,cond_false,cond_true,stOf_at hl hi,Option.bind_some,e1,Option.bind_some,hg,Option.bind_some]
   refine key _ ?_
   unfold hvL
   rw[hh,if_neg (by omega),if_pos c]
  ·rw[hk]at hh ⊢
   simp only[List.map_cons,List.map_nil,ix_zero,Option.bind_some,hat]
   by_cases c3:f.kind=3
   ·rw[decide_eq_false (p:=f.kind=1) (by omega),decide_eq_false (p:=f.kind=2) (by omega),decide_eq_true c3,cond_false,cond_false,cond_true]
    refine key _ ?_
    unfold hvL
    rw[hh,if_neg (by omega),if_neg (by omega),if_pos c3,kidv_zero]
   ·have c6:f.kind=6:=by omega
    rw[decide_eq_false (p:=f.kind=1) (by omega),decide_eq_false (p:=f.kind=2) (by omega),decide_eq_false c3,decide_eq_false (p:=f.kind=4) (by omega),decide_eq_false (p:=f.kind=5) (by omega),decide_eq_true c6,cond_false,cond_false,cond_false,cond_false,cond_false,cond_true]
    rw[show gAft ⟨l.states,l.back⟩ (i:Int)=some _ from if_pos ⟨hl,by omega,by simpa using hi⟩,Option.bind_some,Int.toNat_natCast]
    have e2:ix (rowF labels l x) ((nxt l.states.length l.back.toNat i:Nat):Int)=some (hvL labels l x (nxt l.states.length l.back.toNat i)):=tabl_at (nxt_lt' hl.lt)
    rw[e2,Option.bind_some]
    refine key _ ?_
    unfold hvL
    rw[hh,if_neg (by omega),if_neg (by omega),if_neg (by omega),if_neg (by omega),if_neg (by omega),if_pos c6,kidv_zero]
  ·rw [hk] at hh ⊢
   simp only[List.map_cons,List.map_nil,ix_zero,ix_one,Option.bind_some,hat]
   by_cases c4:f.kind=4
   ·rw[decide_eq_false (p:=f.kind=1) (by omega),decide_eq_false (p:=f.kind=2) (by omega),decide_eq_false (p:=f.kind=3) (by omega),decide_eq_true c4,cond_false,cond_false,cond_false,cond_true]
    have fin:hvL labels l f i=(hvL labels l x i&&hvL labels l y i):=by
     unfold hvL
     rw[hh,if_neg (by omega),if_neg (by omega),if_neg (by omega),if_pos c4,kidv_zero,kidv_one]
    cases hxi:hvL labels l x i<;>rw[hxi]at fin
    ·exact key _ (by rw[fin];rfl)
    ·exact key _ (by rw[fin];rfl)
   ·by_cases c5:f.kind=5
    ·rw[decide_eq_false (p:=f.kind=1) (by omega),decide_eq_false (p:=f.kind=2) (by omega),decide_eq_false (p:=f.kind=3) (by omega),decide_eq_false c4,decide_eq_true c5,cond_false,cond_false,cond_false,cond_false,cond_true]
     have fin:hvL labels l f i=(hvL labels l x i||hvL labels l y i):=by
      unfold hvL
      rw[hh,if_neg (by omega),if_neg (by omega),if_neg (by omega),if_neg (by omega),if_pos c5,kidv_zero,kidv_one]
     cases hxi:hvL labels l x i<;>rw[hxi]at fin
     ·exact key _ (by rw[fin];rfl)
     ·exact key _ (by rw[fin];rfl)
    ·have c7:f.kind=7:=by omega
     have hu:=until_loopS k n hp hi f.kind f.prop cc x y (fun h22=>nx (wr ((i:Int)+1)) h22) l.states.length n i (fun j=>if j<i then hvL labels l f j else false) (by omega) (Nat.le_refl _) hi (by rw[if_neg (by omega)])
     rw[Nat.sub_self]at hu
     rw[decide_eq_false (p:=f.kind=1) (by omega),decide_eq_false (p:=f.kind=2) (by omega),decide_eq_false (p:=f.kind=3) (by omega),decide_eq_false c4,decide_eq_false c5,decide_eq_false (p:=f.kind=6) (by omega),decide_eq_true c7,cond_false,cond_false,cond_false,cond_false,cond_false,cond_false,cond_true,ha]
     refine hu.trans ?_
     rw[wr_one (by omega)]
     refine hnx _ (hup _ ?_)
     have hh':hvL labels l f i=_:=hh
     rw[hh',if_neg (by omega),if_neg (by omega),if_neg (by omega),if_neg (by omega),if_neg (by omega),if_neg (by omega)]
     rfl
theorem placesS_main {f:Fm} (h:f.size<=k+1) (hf:goodF f) (K:List Bool->Option R):s_l31Places.main ⟨gPl k,gHasB,gAft⟩ n f l labels K=K (rowF labels l f):=by
 have h40:=hp.1.2.1
 unfold s_l31Places.main
 rw[mk_eq (by omega),Option.bind_some,tabl_rep,kids_loopS k n hn hp h hf,out_loopS k n hn hp hf]
end
theorem placesS_ok :∀k,EntOK Tryd.prog (s_l31Places.ent (gPl k))
 | 0 => by
  rw[gPl_zero]
  intro R xs H K r h
  simp only[s_l31Places.ent]at h
  split at h<;>cases h
 | k + 1 => s_l31Places.ok (G := ⟨gPl k, gHasB, gAft⟩) ⟨placesS_ok k, hasB_ok, aft_ok, trivial⟩ fun f l labels r h => by
  unfold gPl at h
  split at h
  ·rename_i hp
   cases h
   exact⟨100,placesS_main k 100 (by omega) hp.2.2 hp.1 hp.2.1 _⟩
  ·cases h
end Go.Proofs.YtjafncnjefnloaaDoor.Den

namespace Go.Proofs.YtjafncnjefnloaaDoor.Den
open Go.RowKit
open Classical
def lastS (s:List Int):Nat:=(s[s.length-1]?.getD 0).toNat
noncomputable def badAt (g:Gr) (labels:List Int) (f:Fm) (s:List Int) (b:Nat):Bool:=decide (s[b]?.getD 0∈folS g (lastS s))&& !hvL labels ⟨s,(b:Int)⟩ f 0
def fnd (P:Nat->Bool):Nat->Nat->Option Nat
 |0,_=>none
 |k+1,i=>if P i=true then some i else fnd P k (i+1)
noncomputable def crF (g:Gr) (labels:List Int) (f:Fm):Nat->List Int->Option Lasso
 |0,s=>(fnd (badAt g labels f s) s.length 0).map fun(b:Nat)=>(⟨s,(b:Int)⟩:Lasso)
 |d+1,s=>(folS g (lastS s)).findSome? fun x=>crF g labels f d (s++[x])
theorem crF_zero (g:Gr) (labels:List Int) (f:Fm) (s:List Int):crF g labels f 0 s=(fnd (badAt g labels f s) s.length 0).map fun(b:Nat)=>(⟨s,(b:Int)⟩:Lasso):=rfl
def outC :Option Lasso->Lasso×Bool
 |some l=>(l,true)
 |none=>(⟨[],0⟩,false)
def pathOk (g:Gr) (s:List Int):Prop:=1<=s.length/\s.length<=7/\∀x∈s,0<=x/\x<g.states.length
theorem pathOk.last {g:Gr} {s:List Int} (h:pathOk g s):ix s (wr ((s.length:Int)-1))=some ((lastS s:Nat):Int)/\lastS s<g.states.length:=by
 obtain⟨h1,h2,h3⟩:=h
 have hlt:s.length-1<s.length:=by omega
 have hx:=h3 _ (List.getElem_mem hlt)
 unfold lastS
 rw[wr_in (by omega),show (s.length:Int)-1=((s.length-1:Nat):Int) by omega,ix_nat,List.getElem?_eq_getElem hlt,Option.getD_some,Int.toNat_of_nonneg hx.1]
 exact⟨rfl,by omega⟩
theorem pathOk.app {g:Gr} {s:List Int} (h:pathOk g s) {x:Int} (hx:0<=x/\x<g.states.length) (hl:s.length<7):pathOk g (s++[x]):=⟨by simp,by simp;omega,fun y hy=>by
 rcases List.mem_append.1 hy with q|q
 ·exact h.2.2 y q
 ·simp at q;subst q;exact hx⟩
theorem pathOk.pre {g:Gr} {labels:List Int} {f:Fm} (hc:chkOk g labels f) {s:List Int} (h:pathOk g s) {b:Nat} (hb:b<s.length):PreL labels ⟨s,(b:Int)⟩:=
 ⟨⟨h.1,by have:=h.2.1;simp only;omega,by simp only;omega,by simp only;omega,fun x hx=>(h.2.2 x hx).1⟩,hc.2.2.1,fun x hx=>by have:=(h.2.2 x hx).2;have:=hc.2.1;omega⟩
noncomputable def gCr (k:Nat):Gr->List Int->Fm->List Int->Int->Option (Lasso×Bool):=fun g labels f s n1=>if chkOk g labels f/\pathOk g s/\(s.length:Int)<=n1/\n1<=7/\n1-s.length<k then some (outC (crF g labels f (n1.toNat-s.length) s))else none
noncomputable abbrev gClip:List Int->Option (List Int):=fun xs=>some xs
theorem clip_ok :EntOK Tryd.prog (slices_Clip_intint_c.ent gClip):=slices_Clip_intint_c.ok (G:=⟨()⟩) trivial fun s r h=>⟨1,by
 cases h
 unfold slices_Clip_intint_c.main
 rw[show clipOK (List.length s) (List.length s:Int) (List.length s:Int)=some () by unfold clipOK;simp];rfl⟩
section
variable {R : Type} {g : Gr} {labels : List Int} {f : Fm} (hc : chkOk g labels f) {s : List Int} (hs : pathOk g s) (k : Nat)
include hc hs
theorem backI_loop (a:Int) (b:List Int) (k0:Bool->List Int->Int->Option R) (k1:Option R):
  i_counterRun.l4 ⟨gFollow,gHasInt,gPl 13,gClone,gClip,gCr k⟩ 100 100 labels s ((lastS s:Nat):Int) (s.length:Int) g.states g.edges g.whole f.kind f.prop f.kids a b 0 k0 k1=(fnd (badAt g labels f s) s.length 0).elim k1 fun b=>k0 true s (b:Int):=by
 have h7:=hs.2.1
 have hg:=isF_good hc.2.2.2.1
 obtain⟨_,hlast⟩:=hs.last
 have hfol:=(folS_of hc.1 hlast).2.1
 unfold i_counterRun.l4
 refine(count0 s.length (fun t nx=>i_counterRun.b4 ⟨gFollow,gHasInt,gPl 13,gClone,gClip,gCr k⟩ 100 labels s ((lastS s:Nat):Int) (s.length:Int) g.states g.edges g.whole f.kind f.prop f.kids a b t nx k0 k1) (fun i=>(fnd (badAt g labels f s) (s.length-i) i).elim k1 fun b=>k0 true s (b:Int)) (fun nx=> ?_) (fun i nx hi hnx=> ?_) 100 0 (by omega) (by omega)).trans rfl
 ·unfold i_counterRun.b4
  rw[nlt_nat (by omega),cond_false,Nat.sub_self];rfl
 ·obtain⟨x,hx,hm⟩:=get_lt hi
  have hbad:badAt g labels f s i=(decide (x∈folS g (lastS s))&& !hvL labels ⟨s,(i:Int)⟩ f 0):=by
   unfold badAt
   rw[hx];rfl
  have hf:fnd (badAt g labels f s) (s.length-i) i=if badAt g labels f s i=true then some i else fnd (badAt g labels f s) (s.length-(i+1)) (i+1):=by
   rw[show s.length-i=(s.length-(i+1))+1 by omega];rfl
  unfold i_counterRun.b4
  dsimp only
  rw[lt_nat hi,cond_true,show gFollow ⟨g.states,g.edges,g.whole⟩ ((lastS s:Nat):Int)=some _ from if_pos ⟨hc.1,by omega,by simpa using hlast⟩,Option.bind_some,ix_get hx,Option.bind_some,Int.toNat_natCast]
  rw[show gHasInt (folS ⟨g.states,g.edges,g.whole⟩ (lastS s)) x=some (decide (x∈folS g (lastS s)))from if_pos (Nat.le_trans hfol (by omega)),Option.bind_some,wr_one (by omega),hf,hbad]
  by_cases c1:x∈folS g (lastS s)
  ·rw[decide_eq_true c1,cond_true,Fm.eta,show gPl 13 f ⟨s,(i:Int)⟩ labels=some _ from if_pos ⟨hg.1,hg,hs.pre hc hi⟩,Option.bind_some,show ix (rowF labels ⟨s,(i:Int)⟩ f) 0=some _ from tabl_at hs.1,Option.bind_some,Bool.true_and]
   cases hvL labels ⟨s,(i:Int)⟩ f 0
   ·rw[Bool.not_false,cond_true,if_pos rfl,show gClone s=some s from if_pos ⟨fun e=>by have:=hs.1;rw[e]at this;simp at this,by omega⟩,Option.bind_some];rfl
   ·rw[Bool.not_true,cond_false,if_neg (by simp),hnx]
  ·rw[decide_eq_false c1,cond_false,Bool.false_and,if_neg (by simp),hnx]
theorem nextI_loop {n1:Nat} (hn:s.length<n1) (hn7:n1<=7) (hk:n1-s.length<=k) (a:Int) (b:List Int) (k0:Bool->List Int->Int->Option R) (k1:Option R):
  i_counterRun.l12 ⟨gFollow,gHasInt,gPl 13,gClone,gClip,gCr k⟩ 100 100 labels s (n1:Int) (folS g (lastS s)) ((folS g (lastS s)).length:Int) g.states g.edges g.whole f.kind f.prop f.kids a b 0 k0 k1=(crF g labels f (n1-s.length) s).elim k1 fun l=>k0 true l.states l.back:=by
 obtain⟨_,hlast⟩:=hs.last
 obtain⟨_,hfol,hin⟩:=folS_of hc.1 hlast
 obtain⟨d,hd⟩:∃d,n1-s.length=d+1:=⟨n1-s.length-1,by omega⟩
 rw[hd]
 show _=((folS g (lastS s)).findSome? fun x=>crF g labels f d (s++[x])).elim k1 _
 generalize hF:folS g (lastS s)=F at*
 unfold i_counterRun.l12
 refine(count0 F.length (fun t nx=>i_counterRun.b12 ⟨gFollow,gHasInt,gPl 13,gClone,gClip,gCr k⟩ 100 labels s (n1:Int) F (F.length:Int) g.states g.edges g.whole f.kind f.prop f.kids a b t nx k0 k1) (fun i=>((F.drop i).findSome? fun x=>crF g labels f d (s++[x])).elim k1 fun l=>k0 true l.states l.back) (fun nx=> ?_) (fun i nx hi hnx=> ?_) 100 0 (by omega) (by omega)).trans ?_
 ·unfold i_counterRun.b12
  rw[nlt_nat (by omega),cond_false,drop_nat];rfl
 ·obtain⟨x,hx,hm⟩:=get_lt hi
  obtain⟨hlt,e⟩:=List.getElem?_eq_some_iff.1 hx
  have hcr:gCr k g labels f (s++[x]) (n1:Int)=some (outC (crF g labels f d (s++[x]))):=by
   unfold gCr
   rw[if_pos ⟨hc,hs.app (hin x hm) (by omega),by simp;omega,by omega,by simp;omega⟩]
   rw[show ((n1:Int)).toNat-(s++[x]).length=d by simp;omega]
  unfold i_counterRun.b12 i_counterRun.d14
  dsimp only
  rw[lt_nat hi,cond_true,ix_get hx,Option.bind_some,Option.bind_some,show lim1 s [x]=some (s++[x])from lim_eq (by simp;omega),Option.bind_some,Fm.eta,show gCr k ⟨g.states,g.edges,g.whole⟩ labels f (s++[x]) (n1:Int)=_ from hcr,Option.bind_some,wr_one (by omega),List.drop_eq_getElem_cons hlt,e,List.findSome?_cons]
  cases crF g labels f d (s++[x])with
  |none=>exact hnx
  |some l=>rfl
 ·rw[List.drop_zero]
theorem crI_main {n1:Nat} (hn:s.length<=n1) (hn7:n1<=7) (hk:n1-s.length<=k) (K:Lasso->Bool->Option R):
  i_counterRun.main ⟨gFollow,gHasInt,gPl 13,gClone,gClip,gCr k⟩ 100 g labels f s (n1:Int) K=K (outC (crF g labels f (n1-s.length) s)).1 (outC (crF g labels f (n1-s.length) s)).2:=by
 obtain⟨hl,hlast⟩:=hs.last
 unfold i_counterRun.main
 dsimp only
 rw[hl,Option.bind_some]
 by_cases c:s.length=n1
 ·rw[decide_eq_true (by omega),cond_true,backI_loop hc hs,show n1-s.length=0 by omega,crF_zero]
  cases fnd (badAt g labels f s) s.length 0<;>rfl
 ·rw[decide_eq_false (by omega),cond_false,show gFollow g ((lastS s:Nat):Int)=some _ from if_pos ⟨hc.1,by omega,by omega⟩,Option.bind_some,Int.toNat_natCast,nextI_loop hc hs k (by omega) hn7 hk]
  cases crF g labels f (n1-s.length) s<;>rfl
theorem backS_loop {n1:Nat} (hn:s.length=n1) (a:Int) (b:List Int) (k0:Bool->Int->Option R) (k1:Option R):
  s_l32Try.l5 ⟨gFollow,gHasInt,gPl 13,gCr k⟩ 100 100 labels s (n1:Int) (folS g (lastS s)) f.kind f.prop f.kids a b 0 k0 k1=(fnd (badAt g labels f s) s.length 0).elim k1 fun b=>k0 true (b:Int):=by
 have h7:=hs.2.1
 subst hn
 have hg:=isF_good hc.2.2.2.1
 obtain⟨_,hlast⟩:=hs.last
 have hfol:=(folS_of hc.1 hlast).2.1
 unfold s_l32Try.l5
 refine(count0 s.length (fun t nx=>s_l32Try.b5 ⟨gFollow,gHasInt,gPl 13,gCr k⟩ 100 labels s (s.length:Int) (folS g (lastS s)) f.kind f.prop f.kids a b t nx k0 k1) (fun i=>(fnd (badAt g labels f s) (s.length-i) i).elim k1 fun b=>k0 true (b:Int)) (fun nx=> ?_) (fun i nx hi hnx=> ?_) 100 0 (by omega) (by omega)).trans rfl
 ·unfold s_l32Try.b5
  rw[nlt_nat (by omega),cond_false,Nat.sub_self];rfl
 ·obtain⟨x,hx,hm⟩:=get_lt hi
  have hbad:badAt g labels f s i=(decide (x∈folS g (lastS s))&& !hvL labels ⟨s,(i:Int)⟩ f 0):=by
   unfold badAt
   rw[hx];rfl
  have hf:fnd (badAt g labels f s) (s.length-i) i=if badAt g labels f s i=true then some i else fnd (badAt g labels f s) (s.length-(i+1)) (i+1):=by
   rw[show s.length-i=(s.length-(i+1))+1 by omega];rfl
  unfold s_l32Try.b5
  dsimp only
  rw[lt_nat hi,cond_true,ix_get hx,Option.bind_some,show gHasInt (folS g (lastS s)) x=some (decide (x∈folS g (lastS s)))from if_pos (Nat.le_trans hfol (by omega)),Option.bind_some,wr_one (by omega),hf,hbad]
  by_cases c1:x∈folS g (lastS s)
  ·rw[decide_eq_true c1,cond_true,Fm.eta,show gPl 13 f ⟨s,(i:Int)⟩ labels=some _ from if_pos ⟨hg.1,hg,hs.pre hc hi⟩,Option.bind_some,show ix (rowF labels ⟨s,(i:Int)⟩ f) 0=some _ from tabl_at hs.1,Option.bind_some,Bool.true_and]
   cases hvL labels ⟨s,(i:Int)⟩ f 0
   ·rw[Bool.not_false,cond_true,if_pos rfl];rfl
   ·rw[Bool.not_true,cond_false,if_neg (by simp),hnx]
  ·rw[decide_eq_false c1,cond_false,Bool.false_and,if_neg (by simp),hnx]
theorem nextS_loop {n1:Nat} (hn:s.length<n1) (hn7:n1<=7) (hk:n1-s.length<=k) (a:Int) (b:List Int) (k0:Bool->List Int->Int->Option R) (k1:Option R):
  s_l32Try.l12 ⟨gFollow,gHasInt,gPl 13,gCr k⟩ 100 100 labels s (n1:Int) (folS g (lastS s)) g.states g.edges g.whole f.kind f.prop f.kids a b 0 k0 k1=(crF g labels f (n1-s.length) s).elim k1 fun l=>k0 true l.states l.back:=by
 obtain⟨_,hlast⟩:=hs.last
 obtain⟨_,hfol,hin⟩:=folS_of hc.1 hlast
 obtain⟨d,hd⟩:∃d,n1-s.length=d+1:=⟨n1-s.length-1,by omega⟩
 rw[hd]
 show _=((folS g (lastS s)).findSome? fun x=>crF g labels f d (s++[x])).elim k1 _
 generalize hF:folS g (lastS s)=F at*
 unfold s_l32Try.l12
 refine(count0 F.length (fun t nx=>s_l32Try.b12 ⟨gFollow,gHasInt,gPl 13,gCr k⟩ 100 labels s (n1:Int) F g.states g.edges g.whole f.kind f.prop f.kids a b t nx k0 k1) (fun i=>((F.drop i).findSome? fun x=>crF g labels f d (s++[x])).elim k1 fun l=>k0 true l.states l.back) (fun nx=> ?_) (fun i nx hi hnx=> ?_) 100 0 (by omega) (by omega)).trans ?_
 ·unfold s_l32Try.b12
  rw[nlt_nat (by omega),cond_false,drop_nat];rfl
 ·obtain⟨x,hx,hm⟩:=get_lt hi
  obtain⟨hlt,e⟩:=List.getElem?_eq_some_iff.1 hx
  have hcr:gCr k g labels f (s++[x]) (n1:Int)=some (outC (crF g labels f d (s++[x]))):=by
   unfold gCr
   rw[if_pos ⟨hc,hs.app (hin x hm) (by omega),by simp;omega,by omega,by simp;omega⟩]
   rw[show ((n1:Int)).toNat-(s++[x]).length=d by simp;omega]
  unfold s_l32Try.b12 s_l32Try.d14
  dsimp only
  rw[lt_nat hi,cond_true,List.nil_append,lim_eq (by omega),Option.bind_some,ix_get hx,Option.bind_some,lim_eq (by simp;omega),Option.bind_some,Fm.eta,show gCr k ⟨g.states,g.edges,g.whole⟩ labels f (s++[x]) (n1:Int)=_ from hcr,Option.bind_some,wr_one (by omega),List.drop_eq_getElem_cons hlt,e,List.findSome?_cons]
  cases crF g labels f d (s++[x])with
  |none=>exact hnx
  |some l=>rfl
 ·rw[List.drop_zero]
theorem crS_main {n1:Nat} (hn:s.length<=n1) (hn7:n1<=7) (hk:n1-s.length<=k) (K:Lasso->Bool->Option R):
  s_l32Try.main ⟨gFollow,gHasInt,gPl 13,gCr k⟩ 100 g labels f s (n1:Int) K=K (outC (crF g labels f (n1-s.length) s)).1 (outC (crF g labels f (n1-s.length) s)).2:=by
 obtain⟨hl,hlast⟩:=hs.last
 unfold s_l32Try.main
 dsimp only
 rw[hl,Option.bind_some,show gFollow g ((lastS s:Nat):Int)=some _ from if_pos ⟨hc.1,by omega,by omega⟩,Option.bind_some,Int.toNat_natCast]
 by_cases c:s.length=n1
 ·rw[decide_eq_true (by omega),cond_true,backS_loop hc hs k c,show n1-s.length=0 by omega,crF_zero]
  cases fnd (badAt g labels f s) s.length 0<;>rfl
 ·rw[decide_eq_false (by omega),cond_false,nextS_loop hc hs k (by omega) hn7 hk]
  cases crF g labels f (n1-s.length) s<;>rfl
end
theorem gCr_zero :gCr 0=fun _ _ _ _ _=>none:=by
 funext g labels f s n1
 exact if_neg fun q=>by have:=q.2.2.1;have:=q.2.2.2.2;omega
theorem crI_ok :∀k,EntOK Tryd.prog (i_counterRun.ent (gCr k))
 | 0 => by
  rw[gCr_zero]
  intro R xs H K r h
  simp only[i_counterRun.ent]at h
  split at h<;>cases h
 | k + 1 => i_counterRun.ok (G := ⟨gFollow, gHasInt, gPl 13, gClone, gClip, gCr k⟩) ⟨followers_ok, cont_ok, places_ok 13, clone_ok, clip_ok, crI_ok k, trivial⟩ fun g labels f s n1 r h => by
  unfold gCr at h
  split at h
  ·rename_i hp
   cases h
   obtain⟨h1,h2,h3,h4,h5⟩:=hp
   obtain⟨n1,rfl⟩:=Int.eq_ofNat_of_zero_le (show 0<=n1 by omega)
   exact⟨100,crI_main h1 h2 k (by omega) (by omega) (by omega) _⟩
  ·cases h
theorem crS_ok :∀k,EntOK Tryd.prog (s_l32Try.ent (gCr k))
 | 0 => by
  rw[gCr_zero]
  intro R xs H K r h
  simp only[s_l32Try.ent]at h
  split at h<;>cases h
 | k + 1 => s_l32Try.ok (G := ⟨gFollow, gHasInt, gPl 13, gCr k⟩) ⟨edges_ok, hasInt_ok, placesS_ok 13, crS_ok k, trivial⟩ fun g labels f s n1 r h => by
  unfold gCr at h
  split at h
  ·rename_i hp
   cases h
   obtain⟨h1,h2,h3,h4,h5⟩:=hp
   obtain⟨n1,rfl⟩:=Int.eq_ofNat_of_zero_le (show 0<=n1 by omega)
   exact⟨100,crS_main h1 h2 k (by omega) (by omega) (by omega) _⟩
  ·cases h
end Go.Proofs.YtjafncnjefnloaaDoor.Den

/-
  Texts that the claim rests on, merged: PS3, TP, Val.
-/
import Derived.Test.YtjafncnjefnloaaDoorZRowEC14
import Derived.Test.YtjafncnjefnloaaDoorZRowEC24
import Derived.Test.YtjafncnjefnloaaDoorZRowEC26
import Derived.Test.YtjafncnjefnloaaDoorZRowEC27
import Derived.Test.YtjafncnjefnloaaDoorZRowEC28
import Derived.Test.YtjafncnjefnloaaDoorZRowEC29

namespace Go.Proofs.YtjafncnjefnloaaDoor.Den
open Go.RowKit
set_option maxRecDepth 100000
set_option linter.unusedVariables false
namespace s_l32At
noncomputable abbrev bd:=bodyOf Tryd.f88
noncomputable abbrev q2:=nthC [1,0,1,0,0] bd
end s_l32At
namespace s_l32Kids
noncomputable abbrev bd:=bodyOf Tryd.f89
noncomputable abbrev q7:=nthC [1,1,0,1,0,0,1,0,0,1,0,1,0,0] bd
noncomputable abbrev q3:=nthC [1,1,0,1,0,0] bd
end s_l32Kids
namespace s_l2Bit
noncomputable abbrev bd:=bodyOf Tryd.f111
end s_l2Bit
namespace s_l2Has
structure Gs where
 none_:Unit
noncomputable def ents (_:Gs):List Ent:=[]
noncomputable def main {R:Type} (G:Gs) (n:Nat) (set1:Int) (k:Int) (K:Bool->Option R):Option R:=
 bif decide (0<=k)then
  (
  bif decide (k<16)then
   (
   Option.bind (bif decide (0<=(IntKind.wrap .u64 k))then some (Abs.bitsI .shr .i64 set1 (IntKind.wrap .u64 k))else none) fun q=>
   K (decide ((Abs.bitsI .and .i64 q 1)=1))
   )
  else
   K false
  )
 else
  K false
noncomputable def pc (_:Gs) (_:Nat):Pcs:=⟨fun _ _ _ _=>none,fun _ _ _ _=>none,fun _ _ _ _=>none⟩
noncomputable def an:Ann:=⟨19,0,[],[],[4],[],[]⟩
noncomputable abbrev bd:=bodyOf Tryd.f91
noncomputable def Does (G:Gs) (set1:Int) (k:Int) (r:Bool):Prop:=∃n,main (R:=AT×List Ob) G n set1 k (fun r0=>some (.one (.b r0),[]))=some (.one (.b r),[])
theorem ok {G:Gs} (hG:AllE Tryd.prog (ents G)) {g:Int->Int->Option (Bool)} (hg:∀set1 k r,g set1 k=some r->Does G set1 k r):EntOK Tryd.prog (ent g):=fun R xs H K r hc=>by
 simp only[ent]at hc
 split at hc
 ·obtain⟨r,j1,j2⟩:=bind_some hc
  obtain⟨n,j3⟩:=hg _ _ _ j1
  exact⟨_,_,j2,fnP hG an (pc G n) bd [.tmp 4] Tryd.func91 (.inl rfl) (apl [] trivial) (.trans (by kernel_rfl) j3)⟩
 ·cases hc
end s_l2Has
namespace s_l32Atoms
noncomputable abbrev bd:=bodyOf Tryd.f90
noncomputable abbrev q3:=nthC [1,1,0,1,0,0] bd
noncomputable abbrev q19:=nthC [1,1,1,1,0,1,0,0,1,0,0,1,1,0,1,0,0,1,0,0,1,1,0,1,0,0] bd
noncomputable abbrev q14:=nthC [1,1,1,1,0,1,0,0,1,0,0,1,1,0,1,0,0] bd
noncomputable abbrev q9:=nthC [1,1,1,1,0,1,0,0] bd
end s_l32Atoms
namespace s_l32Step
noncomputable abbrev bd:=bodyOf Tryd.f92
noncomputable abbrev q7:=nthC [1,0,1,0,0,1,0,0,1,1] bd
noncomputable abbrev q2:=nthC [1,0,1,0,0] bd
end s_l32Step
namespace s_l32Reach
noncomputable abbrev bd:=bodyOf Tryd.f93
noncomputable abbrev q7:=nthC [1,1,1,0,1,0,0,1,0,0,1,0,0] bd
noncomputable abbrev q4:=nthC [1,1,1,0,1,0,0] bd
end s_l32Reach
namespace s_l32Reach_o
noncomputable abbrev bd:=bodyOf Tryd.f93
noncomputable abbrev q7:=nthC [1,1,1,0,1,0,0,1,0,0,1,0,0] bd
noncomputable abbrev q4:=nthC [1,1,1,0,1,0,0] bd
end s_l32Reach_o
namespace s_l32Fair
noncomputable abbrev bd:=bodyOf Tryd.f94
noncomputable abbrev q12:=nthC [1,1,0,1,0,0,1,0,0,1,1,0,1,0,0,1,0,0,1] bd
noncomputable abbrev q9:=nthC [1,1,0,1,0,0,1,0,0,1,1,0,1,0,0] bd
noncomputable abbrev q4:=nthC [1,1,0,1,0,0] bd
end s_l32Fair
namespace s_l32Runs
noncomputable abbrev bd:=bodyOf Tryd.f55
noncomputable abbrev q15:=nthC [1,1,1,1,1,1,0,1,0,0,1,0,0,1,1,0,0,1,0,0,1] bd
noncomputable abbrev q11:=nthC [1,1,1,1,1,1,0,1,0,0,1,0,0,1,1,0,0] bd
noncomputable abbrev q7:=nthC [1,1,1,1,1,1,0,1,0,0] bd
end s_l32Runs
namespace s_AllRunsHold
noncomputable abbrev bd:=bodyOf Tryd.f24
end s_AllRunsHold
namespace s_SomeRunHolds
noncomputable abbrev bd:=bodyOf Tryd.f26
end s_SomeRunHolds
end Go.Proofs.YtjafncnjefnloaaDoor.Den

namespace Go.Proofs.YtjafncnjefnloaaDoor.Den
open Go.RowKit
open Classical
def goodF (f:Fm):Prop:=f.size<=13/\f.ok=true
theorem ok_kids {f x:Fm} (h:f.ok=true) (hx:x∈f.kids):x.ok=true:=by
 rw[ok_parts_eq,Bool.and_eq_true]at h
 exact List.all_eq_true.1 h.2 x hx
theorem goodF.kid {f x:Fm} (h:goodF f) (hx:x∈f.kids):goodF x:=⟨by have:=size_mem hx;have:=h.1;omega,ok_kids h.2 hx⟩
theorem text_same {f g:Fm} (hf:goodF f) (hg:goodF g):sEq (Fm.text f) (Fm.text g)=decide (f=g):=by
 unfold sEq
 refine decide_eq_decide.2 ⟨fun e=>text_eq_inj hf.2 hg.2 e,fun e=>by rw[e]⟩
theorem gText_good {f:Fm} (h:goodF f):gText 13 f=some (Fm.text f):=if_pos ⟨h.1,h.1,h.2⟩
noncomputable def gF1:Fm->Fm->Option Bool:=fun h c=>if goodF h/\goodF c then some (decide (h=c))else none
theorem f1_ok :EntOK Tryd.prog (i_temporalParts_f1.ent gF1):=i_temporalParts_f1.ok (G:=⟨gText 13⟩) ⟨formulaText_ok 13,trivial⟩ fun h c r hr=>by
 unfold gF1 at hr
 split at hr
 ·rename_i hg
  cases hr
  refine⟨1,?_⟩
  unfold i_temporalParts_f1.main
  simp only[Fm.eta]
  rw[gText_good hg.1,Option.bind_some,gText_good hg.2,Option.bind_some,text_same hg.1 hg.2]
 ·cases hr
noncomputable def idxF (f:Fm):List Fm->Nat->Int
 |[],_=> -1
 |x::xs,i=>if x=f then (i:Int)else idxF f xs (i+1)
theorem idxF_sign (f:Fm):∀(xs:List Fm) (i:Nat),decide (0<=idxF f xs i)=decide (f∈xs)
 |[],i=>by simp[idxF]
 | x :: xs, i => by
  unfold idxF
  split
  ·rename_i h;subst h;simp
  ·rename_i h
   rw[idxF_sign f xs (i+1)]
   refine decide_eq_decide.2 ⟨fun h=>List.mem_cons_of_mem _ h,fun hm=> ?_⟩
   rcases List.mem_cons.1 hm with e|hm
   ·exact absurd e.symm h
   ·exact hm
def goods (xs:List Fm):Prop:=(∀x∈xs,goodF x)/\xs.length<=1000
noncomputable def gIx:List Fm->Fm->Option Int:=fun s f=>if goods s/\goodF f then some (idxF f s 0)else none
theorem seek_idx {R:Type} (f:Fm) (k0:Int->Option R):∀(xs:List Fm) (i:Nat),seek (fun x=>decide (x=f)) (fun _ (i:Nat)=>k0 i) (k0 (-1)) xs i=k0 (idxF f xs i)
 |[],i=>rfl
 | x :: xs, i => by
  show cond (decide (x=f)) _ _=_
  unfold idxF
  by_cases h:x=f
  ·rw[decide_eq_true h,cond_true,if_pos h]
  ·rw[decide_eq_false h,cond_false,if_neg h];exact seek_idx f k0 xs (i+1)
theorem ix_main {R:Type} (s:List Fm) (f:Fm) (hg:goods s/\goodF f) (K:Int->Option R):slices_IndexFunc_tp.main ⟨gF1⟩ (s.length+1) s f K=K (idxF f s 0):=by
 unfold slices_IndexFunc_tp.main slices_IndexFunc_tp.l2
 refine(count0 s.length (fun t nx=>slices_IndexFunc_tp.b2 ⟨gF1⟩ (s.length+1) s f (s.length:Int) t nx (fun t4=>K t4) (K (-1))) (fun i=>seek (fun x=>decide (x=f)) (fun _ (i:Nat)=>K (i:Int)) (K (-1)) (s.drop i) i) (fun nx=> ?_) (fun i nx hi hnx=> ?_) (s.length+1) 0 (by omega) (by omega)).trans ?_
 ·unfold slices_IndexFunc_tp.b2
  rw[nlt_nat (by omega),cond_false,drop_nat];rfl
 ·obtain⟨x,hx,hm⟩:=get_lt hi
  unfold slices_IndexFunc_tp.b2
  simp only[Fm.eta]
  rw[lt_nat hi,cond_true,ix_get hx,Option.bind_some,show gF1 x f=some _ from if_pos ⟨hg.1.1 x hm,hg.2⟩,Option.bind_some,wr_one (by have:=hg.1.2;omega),hnx,seek_drop hx]
 ·rw[List.drop_zero]
  exact seek_idx f K s 0
theorem ix_ok :EntOK Tryd.prog (slices_IndexFunc_tp.ent gIx):=slices_IndexFunc_tp.ok (G:=⟨gF1⟩) ⟨f1_ok,trivial⟩ fun s f r hr=>by
 unfold gIx at hr
 split at hr
 ·rename_i hg
  cases hr
  exact⟨s.length+1,ix_main s f hg _⟩
 ·cases hr
noncomputable def gHasF:List Fm->Fm->Option Bool:=fun s f=>if goods s/\goodF f then some (decide (f∈s))else none
theorem has_ok :EntOK Tryd.prog (slices_ContainsFunc_tp.ent gHasF):=slices_ContainsFunc_tp.ok (G:=⟨gIx⟩) ⟨ix_ok,trivial⟩ fun s f r hr=>by
 unfold gHasF at hr
 split at hr
 ·rename_i hg
  cases hr
  refine⟨1,?_⟩
  unfold slices_ContainsFunc_tp.main
  simp only[Fm.eta]
  rw[show gIx s f=some _ from if_pos hg,Option.bind_some,idxF_sign]
 ·cases hr
noncomputable def add6 (f:Fm) (acc:List Fm):List Fm:=if (f.kind=6\/f.kind=7)/\f∉acc then acc++[f]else acc
noncomputable def addF (f:Fm) (acc:List Fm):List Fm:=if f∈acc then acc else acc++[f]
noncomputable def temps:Nat->Fm->List Fm->List Fm
 |0,_,acc=>acc
 |k+1,f,acc=>add6 f (f.kids.foldl (fun a x=>temps k x a) acc)
noncomputable def parts:Nat->Fm->List Fm->List Fm
 |0,_,acc=>acc
 |k+1,f,acc=>addF f (f.kids.foldl (fun a x=>parts k x a) acc)
theorem fold_grow {step:List Fm->Fm->List Fm}:∀(xs:List Fm) (acc:List Fm),(∀x∈xs,∀a,(step a x).length<=a.length+x.size/\((∀y∈a,goodF y)->∀y∈step a x,goodF y))->
  (xs.foldl step acc).length<=acc.length+wS Fm.size xs/\((∀y∈acc,goodF y)->∀y∈xs.foldl step acc,goodF y)
 |[],acc,_=>⟨by simp[wS],fun h=>h⟩
 | x :: xs, acc, h => by
  obtain⟨h1,h2⟩:=h x (by simp) acc
  obtain⟨i1,i2⟩:=fold_grow xs (step acc x) (fun y hy=>h y (by simp[hy]))
  rw[List.foldl_cons,wS_cons]
  exact⟨by omega,fun hg=>i2 (h2 hg)⟩
theorem temps_grow :∀(k:Nat) (f:Fm) (acc:List Fm),goodF f->(temps k f acc).length<=acc.length+f.size/\((∀y∈acc,goodF y)->∀y∈temps k f acc,goodF y)
 |0,f,acc,_=>⟨by simp[temps],fun h=>h⟩
 | k + 1, f, acc, hf => by
  obtain⟨h1,h2⟩:=fold_grow (step:=fun a x=>temps k x a) f.kids acc (fun x hx a=>temps_grow k x a (hf.kid hx))
  have hs:=sizes_eq f
  unfold temps add6
  split
  ·refine⟨by simp;omega,fun hg y hy=> ?_⟩
   rcases List.mem_append.1 hy with hy|hy
   ·exact h2 hg y hy
   ·simp at hy;subst hy;exact hf
  ·exact⟨by omega,h2⟩
theorem parts_grow :∀(k:Nat) (f:Fm) (acc:List Fm),goodF f->(parts k f acc).length<=acc.length+f.size/\((∀y∈acc,goodF y)->∀y∈parts k f acc,goodF y)
 |0,f,acc,_=>⟨by simp[parts],fun h=>h⟩
 | k + 1, f, acc, hf => by
  obtain⟨h1,h2⟩:=fold_grow (step:=fun a x=>parts k x a) f.kids acc (fun x hx a=>parts_grow k x a (hf.kid hx))
  have hs:=sizes_eq f
  unfold parts addF
  split
  ·exact⟨by omega,h2⟩
  ·refine⟨by simp;omega,fun hg y hy=> ?_⟩
   rcases List.mem_append.1 hy with hy|hy
   ·exact h2 hg y hy
   ·simp at hy;subst hy;exact hf
def PreT (k:Nat) (f:Fm) (acc:List Fm):Prop:=f.size<=k/\goodF f/\(∀y∈acc,goodF y)/\acc.length+f.size<=1000
noncomputable def gTemps (k:Nat):Fm->List Fm->Option (List Fm):=fun f acc=>if PreT k f acc then some (temps k f acc)else none
noncomputable def gParts (k:Nat):Fm->List Fm->Option (List Fm):=fun f acc=>if PreT k f acc then some (parts k f acc)else none
theorem wS_app {A:Type} {f:A->Nat} (a b:List A):wS f (a++b)=wS f a+wS f b:=by simp[wS]
theorem mid_pre {step:List Fm->Fm->List Fm} {k:Nat} {f:Fm} {acc:List Fm} (h:PreT (k+1) f acc) (hst:∀x∈f.kids,∀a,(step a x).length<=a.length+x.size/\((∀y∈a,goodF y)->∀y∈step a x,goodF y)) {i:Nat} {x:Fm} (hx:f.kids[i]? =some x):PreT k x ((f.kids.take i).foldl step acc):=by
 obtain⟨hlt,rfl⟩:=List.getElem?_eq_some_iff.1 hx
 have hm:=List.getElem_mem hlt
 obtain⟨h1,h2⟩:=fold_grow (f.kids.take i) acc (fun x hx a=>hst x (List.mem_of_mem_take hx) a)
 have hs:=sizes_eq f
 have hsm:=size_mem hm
 have e:wS Fm.size f.kids=wS Fm.size (f.kids.take i)+wS Fm.size (f.kids.drop i):=by
  conv=>lhs;rw[<-List.take_append_drop i f.kids]
  exact wS_app _ _
 rw[List.drop_eq_getElem_cons hlt,wS_cons]at e
 obtain⟨q1,q2,q3,q4⟩:=h
 exact⟨by omega,q2.kid hm,h2 q3,by omega⟩
theorem end_pre {step:List Fm->Fm->List Fm} {k:Nat} {f:Fm} {acc:List Fm} (h:PreT (k+1) f acc) (hst:∀x∈f.kids,∀a,(step a x).length<=a.length+x.size/\((∀y∈a,goodF y)->∀y∈step a x,goodF y)):goods (f.kids.foldl step acc)/\(f.kids.foldl step acc).length<1000:=by
 obtain⟨h1,h2⟩:=fold_grow f.kids acc hst
 have hs:=sizes_eq f
 obtain⟨q1,q2,q3,q4⟩:=h
 exact⟨⟨h2 q3,by omega⟩,by omega⟩
theorem temps_main {R:Type} (k:Nat) (f:Fm) (acc:List Fm) (h:PreT (k+1) f acc) (K:List Fm->Option R):i_temporalParts_o.main ⟨gTemps k,gHasF⟩ (f.kids.length+1) f acc K=K (temps (k+1) f acc):=by
 have hst:∀x∈f.kids,∀a,((fun a x=>temps k x a) a x).length<=a.length+x.size/\((∀y∈a,goodF y)->∀y∈(fun a x=>temps k x a) a x,goodF y):=fun x hx a=>temps_grow k x a (h.2.1.kid hx)
 unfold i_temporalParts_o.main i_temporalParts_o.l2
 refine(count f.kids.length (fun t a nx=>i_temporalParts_o.b2 ⟨gTemps k,gHasF⟩ (f.kids.length+1) f.kids (f.kids.length:Int) f.kind f.prop f.kids t a nx _) (fun i a=>a=(f.kids.take i).foldl (fun a x=>temps k x a) acc) (fun _ _=>K (temps (k+1) f acc)) (fun a nx ha=> ?_) (fun i a nx hi ha hnx=> ?_) (f.kids.length+1) 0 acc (by simp) (by omega) (by omega))
 ·subst ha
  unfold i_temporalParts_o.b2
  rw[nlt_nat (by omega),cond_false,take_all]
  obtain⟨h1,h2⟩:=end_pre h hst
  have e1:gHasF (f.kids.foldl (fun a x=>temps k x a) acc) f=some _:=if_pos ⟨h1,h.2.1⟩
  have e2:temps (k+1) f acc=add6 f (f.kids.foldl (fun a x=>temps k x a) acc):=rfl
  rw[e2]
  generalize f.kids.foldl (fun a x=>temps k x a) acc=L at*
  simp only[Fm.eta,i_temporalParts_o.c8]
  have e3:lim (L++[f])=some (L++[f]):=lim_eq (by simp;omega)
  rw[e1,e3]
  unfold add6
  by_cases h6:f.kind=6
  ·rw[decide_eq_true h6,cond_true,Option.bind_some]
   by_cases hm:f∈L
   ·rw[decide_eq_true hm,if_neg (fun q=>q.2 hm)];rfl
   ·rw[decide_eq_false hm,if_pos ⟨.inl h6,hm⟩];rfl
  ·by_cases h7:f.kind=7
   ·rw[decide_eq_false h6,decide_eq_true h7,cond_false,cond_true,Option.bind_some]
    by_cases hm:f∈L
    ·rw[decide_eq_true hm,if_neg (fun q=>q.2 hm)];rfl
    ·rw[decide_eq_false hm,if_pos ⟨.inr h7,hm⟩];rfl
   ·rw[decide_eq_false h6,decide_eq_false h7,if_neg (fun q=>q.1.elim h6 h7)];rfl
 ·subst ha
  obtain⟨x,hx,hm⟩:=get_lt hi
  have hp:=mid_pre h hst hx
  unfold i_temporalParts_o.b2
  simp only[Fm.eta]
  have hl:f.kids.length<=1000:=by have:=len_size f;have:=h.1;have:=h.2.1.1;omega
  rw[lt_nat hi,cond_true,ix_get hx,Option.bind_some,show gTemps k x _=some _ from if_pos hp,Option.bind_some,wr_one (by omega)]
  exact hnx _ (fold_take (f:=fun a x=>temps k x a) hx).symm
theorem gTemps_zero :gTemps 0=fun _ _=>none:=by
 funext f acc
 exact if_neg fun q=>by have:=q.1;rw[Fm.size_eq]at this;omega
theorem temps_ok :∀k,EntOK Tryd.prog (i_temporalParts_o.ent (gTemps k))
 | 0 => by
  rw[gTemps_zero]
  intro R xs H K r h
  simp only[i_temporalParts_o.ent]at h
  split at h<;>cases h
 | k + 1 => i_temporalParts_o.ok (G := ⟨gTemps k, gHasF⟩) ⟨temps_ok k, has_ok, trivial⟩ fun f acc r h => by
  unfold gTemps at h
  split at h
  ·rename_i hp
   cases h
   exact⟨f.kids.length+1,temps_main k f acc hp _⟩
  ·cases h
end Go.Proofs.YtjafncnjefnloaaDoor.Den

namespace Go.Proofs.YtjafncnjefnloaaDoor.Den
open Go.RowKit
open Classical
def kidv (g:Fm->Bool) (xs:List Fm) (j:Nat):Bool:=match xs[j]? with|some x=>g x|none=>false
theorem kidv_zero {g:Fm->Bool} {x:Fm} {xs:List Fm}:kidv g (x::xs) 0=g x:=rfl
theorem kidv_one {g:Fm->Bool} {x y:Fm} {xs:List Fm}:kidv g (x::y::xs) 1=g y:=rfl
theorem shl_some {k:Nat} (hk:k<63):(bif decide (0<=(k:Int))then some (Abs.bitsI .shl .i64 1 (k:Int))else none)=some ((2^k:Nat):Int):=by
 rw[decide_eq_true (by omega),cond_true,shl1_nat hk]
theorem bit_bind {R:Type} {a k:Nat} (ha:a<9223372036854775808) (hk:k<63) (K:Bool->Option R):(Option.bind (bif decide (0<=(k:Int))then some (Abs.bitsI .shl .i64 1 (k:Int))else none) fun q=>K (!decide (Abs.bitsI .and .i64 (a:Int) q=0)))=K (a.testBit k):=by
 rw[shl_some hk,Option.bind_some,bit_and ha hk,Bool.not_not]
end Go.Proofs.YtjafncnjefnloaaDoor.Den

/-
  Texts that the claim rests on, merged: PK1, KeyO.
-/
import Derived.Test.YtkinkfieackmdaaGreatDoorZRowPth11
import Derived.Test.YtkinkfieackmdaaGreatDoorZRowPth20

namespace Go.Proofs.YtkinkfieackmdaaGreatDoor.Den
open Go.RowKit
set_option maxRecDepth 100000
set_option linter.unusedVariables false
namespace z0f
structure Gs where
 z0i:z0i.Q
noncomputable def ae (G:Gs):List Ent:=[z0i.ent G.z0i]
noncomputable def b2 {R:Type} (G:Gs) (n:Nat) (t6:LO) (t7:Int) (h0:LB) (h02:LS) (h03:LO) (t8:Int) (nx:Int->Option R) (k0:Bool->Option R) (k1:Option R):Option R:=
 bif decide (t8<t7)then
  (
  (ix t6 t8).bind λe=>
  bif e.assoc then
   (k0 false)
  else
   bif !decide (e.unit=0)then
    (k0 false)
   else
    nx (wr (t8+1))
  )
 else
  k1
noncomputable def l2 {R:Type} (G:Gs) (n m:Nat) (t6:LO) (t7:Int) (h0:LB) (h02:LS) (h03:LO) (t8:Int) (k0:Bool->Option R) (k1:Option R):Option R:=au (λ(v:Int) nx=>b2 G n t6 t7 h0 h02 h03 v (λy0=>nx y0) k0 k1) m t8
noncomputable def main {R:Type} (G:Gs) (n:Nat) (s:Sg) (K:Bool->Option R):Option R:=
 l2 G n n s.ops (List.length s.ops:Int) s.sorts.names s.sorts.subs s.ops 0
  (λt2=>K t2)
  (
   (G.z0i s).bind λr=>
   K r
  )
noncomputable def dl2 (G:Gs) (n m:Nat) (R:Type) (st:St) (K:Kt R):Option R:=match st with
 |⟨[(1,.one (.p 0 0)),(6,.one (.l (.n 8) t6)),(7,.one (.i t7)),(8,.one (.i t8))],[.box [.l .s h0,.l (.n 5) h02,.l (.n 8) h03]]⟩=>l2 G n m t6 t7 h0 h02 h03 t8 (λt2=>K .ret ⟨[(2,.one (.b t2))],[]⟩) (K (.exit 0) ⟨[(1,.one (.p 0 0))],[.box [.l .s h0,.l (.n 5) h02,.l (.n 8) h03]]⟩)
 |_=>none
noncomputable def pc (G:Gs) (n:Nat):Pcs:=⟨λR id st K=>bif Nat.beq id 2 then dl2 G n n R st K else none,nK,nK⟩
noncomputable def an:Ann:=⟨22,0,[(2,[1,6,7,8])],[],[2],[],[]⟩
noncomputable abbrev bd:=ai Tryz.f20
noncomputable abbrev q2:=am [1,0,1,0,0] bd
theorem pl2 {G:Gs} (hG:AE (ae G)) (n:Nat):∀m,PO an (.loop q2) (dl2 G n m):=lpc hG (pc G n) [1,6,7,8] ⟨[1],[2],[(0,[1])]⟩ (apl [] trivial) (λR st K=>by unfold dl2;split<;>rfl) λm R st K r h=>by unfold dl2 at h;split at h;exact .trans (by kernel_rfl) h;cases h
theorem ok {G:Gs} (hG:AE (ae G)) {g:Q} (hg:∀s r,g s=some r->∃n,main (R:=AT×List Ob) G n s (λr0=>some (.one (.b r0),[]))=some (.one (.b r),[])):EO (ent g):=λR xs H K r hc=>by
 simp only[ent]at hc;split at hc
 ·exact okL hc λr j=>let⟨n,j⟩:=hg _ _ j;fF hG an (pc G n) Tryz.func20 j (apl [(1,2,.loop q2)] ⟨pl2 hG n n,trivial⟩)
 ·cases hc
end z0f
namespace z0n
structure Gs where
 z1n:z1n.Q
 z0n:z0n.Q
noncomputable def ae (G:Gs):List Ent:=[z1n.ent G.z1n,ent G.z0n]
noncomputable def b4 {R:Type} (G:Gs) (n:Nat) (t11:LT) (t12 h0:Int) (h02:ByteArray) (h03:Int) (h04:LT) (t13:Int) (nx:Int->Option R) (k0:Bool->Option R) (k1:Option R):Option R:=
 bif decide (t13<t12)then
  (
  (ix t11 t13).bind λe=>
  (G.z0n (Tm.mk h0 h02 h03 h04) (Tm.mk e.op e.name e.sort e.args)).bind λr=>
  bif r then
   (k0 true)
  else
   nx (wr (t13+1))
  )
 else
  k1
noncomputable def l4 {R:Type} (G:Gs) (n m:Nat) (t11:LT) (t12 h0:Int) (h02:ByteArray) (h03:Int) (h04:LT) (t13:Int) (k0:Bool->Option R) (k1:Option R):Option R:=au (λ(v:Int) nx=>b4 G n t11 t12 h0 h02 h03 h04 v (λy0=>nx y0) k0 k1) m t13
noncomputable def main {R:Type} (G:Gs) (n:Nat) (v2 t:Tm) (K:Bool->Option R):Option R:=
 (G.z1n (Tm.mk v2.op v2.name v2.sort v2.args) (Tm.mk t.op t.name t.sort t.args)).bind λr=>
 bif r then
  (K true)
 else
  l4 G n n t.args (List.length t.args:Int) v2.op v2.name v2.sort v2.args 0
   (λt4=>K t4)
   (K false)
noncomputable def dl4 (G:Gs) (n m:Nat) (R:Type) (st:St) (K:Kt R):Option R:=match st with
 |⟨[(2,.one (.p 0 0)),(11,.one (.l (.n 1) t11)),(12,.one (.i t12)),(13,.one (.i t13))],[.box [.i h0,.s h02,.i h03,.l (.n 1) h04]]⟩=>l4 G n m t11 t12 h0 h02 h03 h04 t13 (λt4=>K .ret ⟨[(4,.one (.b t4))],[]⟩) (K (.exit 0) ⟨[],[]⟩)
 |_=>none
noncomputable def pc (G:Gs) (n:Nat):Pcs:=⟨λR id st K=>bif Nat.beq id 4 then dl4 G n n R st K else none,nK,nK⟩
noncomputable def an:Ann:=⟨21,0,[(4,[2,11,12,13])],[],[4],[],[]⟩
noncomputable abbrev bd:=ai Tryz.f41
noncomputable abbrev q4:=am [1,1,0,1,0,0] bd
theorem pl4 {G:Gs} (hG:AE (ae G)) (n:Nat):∀m,PO an (.loop q4) (dl4 G n m):=lpc hG (pc G n) [2,11,12,13] ⟨[],[4],[(0,[])]⟩ (apl [] trivial) (λR st K=>by unfold dl4;split<;>rfl) λm R st K r h=>by unfold dl4 at h;split at h;exact .trans (by kernel_rfl) h;cases h
theorem ok {G:Gs} (hG:AE (ae G)) {g:Q} (hg:∀v2 t r,g v2 t=some r->∃n,main (R:=AT×List Ob) G n v2 t (λr0=>some (.one (.b r0),[]))=some (.one (.b r),[])):EO (ent g):=λR xs H K r hc=>by
 simp only[ent]at hc;split at hc
 ·exact okL hc λr j=>let⟨n,j⟩:=hg _ _ _ j;fF hG an (pc G n) Tryz.func41 j (apl [(1,4,.loop q4)] ⟨pl4 hG n n,trivial⟩)
 ·cases hc
end z0n
namespace z1b
structure Gs where
 z5i:z5i.Q
 z1b:z1b.Q
noncomputable def ae (G:Gs):List Ent:=[z5i.ent G.z5i,ent G.z1b]
noncomputable def b9 {R:Type} (G:Gs) (n:Nat) (t31:LT) (t32 t33:Int) (h3:LI) (nx:Int->LI->Option R) (k0:LI->Option R):Option R:=
 bif decide (t33<t32)then
  (
  (ix t31 t33).bind λe=>
  (G.z1b (Tm.mk e.op e.name e.sort e.args) h3).bind λr=>
  nx (wr (t33+1)) r
  )
 else
  k0 h3
noncomputable def l9 {R:Type} (G:Gs) (n m:Nat) (t31:LT) (t32 t33:Int) (h3:LI) (k0:LI->Option R):Option R:=au (λ(v:Int×LI) nx=>b9 G n t31 t32 v.1 v.2 (λy0 y1=>nx (y0,y1)) k0) m (t33,h3)
noncomputable def c7 {R:Type} (G:Gs) (n:Nat) (h3:LI) (h4:Int) (h42:ByteArray) (h43:Int) (h44:LT) (k0:LI->Option R):Option R:=
 (lim (h3++[40])).bind λzs=>
 l9 G n n h44 (List.length h44:Int) 0 zs
  (fun h32 =>
   (lim (h32++[41])).bind λzs2=>
   k0 zs2
  )
noncomputable def main {R:Type} (G:Gs) (n:Nat) (t:Tm) (c0:LI) (K:LI->Option R):Option R:=
 (G.z5i c0 t.op 10).bind λr=>
 bif decide (t.op<0)then
  (
  (lim (r++[58])).bind λzs=>
  (lim (List.append zs (ofS t.name))).bind λzs2=>
  (lim (zs2++[58])).bind λzs3=>
  (G.z5i zs3 t.sort 10).bind λr2=>
  c7 G n r2 t.op t.name t.sort t.args
   (λh32=>K h32)
  )
 else
  c7 G n r t.op t.name t.sort t.args
   (λh322=>K h322)
noncomputable def dl9 (G:Gs) (n m:Nat) (R:Type) (st:St) (K:Kt R):Option R:=match st with
 |⟨[(1,.one (.p 0 0)),(2,.one (.p 2 0)),(31,.one (.l (.n 1) t31)),(32,.one (.i t32)),(33,.one (.i t33))],[.box [.o 3],.gone,.box [.f 78 [.p 0 0,.p 2 0]],.row .u 0 h3]⟩=>l9 G n m t31 t32 t33 h3 (λh32=>K (.exit 0) ⟨[(1,.one (.p 0 0))],[.box [.o 3],.gone,.box [.f 78 [.p 0 0,.p 2 0]],.row .u 0 h32]⟩)
 |_=>none
noncomputable def dc7 (G:Gs) (n:Nat) (R:Type) (st:St) (K:Kt R):Option R:=match st with
 |⟨[(1,.one (.p 0 0)),(2,.one (.p 2 0)),(3,.one (.p 4 0))],[.box [.o 3],.gone,.box [.f 78 [.p 0 0,.p 2 0]],.row .u 0 h3,.box [.i h4,.s h42,.i h43,.l (.n 1) h44]]⟩=>c7 G n h3 h4 h42 h43 h44 (λh32=>K .normal ⟨[],[.box [.o 3],.gone,.box [.f 78 [.p 0 0,.p 2 0]],.row .u 0 h32]⟩)
 |_=>none
noncomputable def pc (G:Gs) (n:Nat):Pcs:=⟨λR id st K=>bif Nat.beq id 9 then dl9 G n n R st K else none,λR id st K=>bif Nat.beq id 7 then dc7 G n R st K else none,nK⟩
noncomputable def an:Ann:=⟨44,3,[(9,[1,2,31,32,33])],[(7,[1,2,3])],[],[],[]⟩
noncomputable abbrev bd:=ai Tryz.f78
noncomputable abbrev q9:=am [1,1,1,1,0,1,0,0] bd
noncomputable abbrev q7:=am [1,1,1] bd
theorem pl9 {G:Gs} (hG:AE (ae G)) (n:Nat):∀m,PO an (.loop q9) (dl9 G n m):=lpc hG (pc G n) [1,2,31,32,33] ⟨[1],[],[(0,[1])]⟩ (apl [] trivial) (λR st K=>by unfold dl9;split<;>rfl) λm R st K r h=>by unfold dl9 at h;split at h;exact .trans (by kernel_rfl) h;cases h
theorem pc7 {G:Gs} (hG:AE (ae G)) {n:Nat}:PO an q7 (dc7 G n):=cpc hG (pc G n) ⟨[],[],[]⟩ (apl [(1,9,.loop q9)] ⟨pl9 hG n n,trivial⟩) λR st K r h=>by unfold dc7 at h;split at h;exact .trans (by kernel_rfl) h;cases h
theorem ok {G:Gs} (hG:AE (ae G)) {g:Q} (hg:∀t c0 r,g t c0=some r->∃n,main (R:=AT×List Ob) G n t c0 (λr0=>some (.tup [],[.box [.o 3],.gone,.box [.f 78 [.p 0 0,.p 2 0]],.row .u 0 r0]))=some (.tup [],[.box [.o 3],.gone,.box [.f 78 [.p 0 0,.p 2 0]],.row .u 0 r])):EO (ent g):=λR xs H K r hc=>by
 simp only[ent]at hc;split at hc
 ·rename_i a a2 a3 a4 h;exact okL hc λr j=>let⟨n,j⟩:=hg _ _ _ j;rF hG an (pc G n) [1] (xs2:=[.agg [.i a,.s a2,.i a3,.l (.n 1) a4],.one (.p 0 0),.one (.p 2 0)]) (H2:=[.box [.o 3],.gone,.box [.f 78 [.p 0 0,.p 2 0]],.row .u 0 h]) Tryz.func78 j (apl [(0,7,q7)] ⟨pc7 hG,trivial⟩)
 ·cases hc
end z1b
namespace z1a
structure Gs where
 z1b:z1b.Q
noncomputable def main {R:Type} (G:Gs) (n:Nat) (t:Tm) (K:ByteArray->Option R):Option R:=
 (G.z1b (Tm.mk t.op t.name t.sort t.args) []).bind λr=>
 K (sOf r)
theorem ok {G:Gs} (hG:AE [z1b.ent G.z1b]) {g:Q} (hg:∀t r,g t=some r->∃n,main (R:=AT×List Ob) G n t (λr0=>some (.one (.s r0),[]))=some (.one (.s r),[])):EO (ent g):=λR xs H K r hc=>by
 simp only[ent]at hc;split at hc
 ·exact okL hc λr j=>let⟨_,j⟩:=hg _ _ j;fF hG ⟨12,0,[],[],[2],[],[]⟩ nP Tryz.func42 j
 ·cases hc
end z1a
open Classical
noncomputable def hM:List Int->Int->Int->Option (List Int):=λl i b=>if b=10/\ -1<=i/\i<100/\l.length<1000000000 then some (l++bO i)else none
theorem gJ (i:Int):(bO i).length<=2:=by
 unfold bO;split
 ·simp
 ·split<;>simp
theorem ma :∀{l:List Tm},(∀x∈l,(bZ x).length<=8*(x.total+1))->(l.flatMap bZ).length<=8*bb l
 |[],_=>by simp
 | x :: l, h => by
  rw[List.flatMap_cons,List.length_append,jE];have:=h x (by simp);have:=ma (l:=l) λy hy=>h y (by simp[hy]);omega
theorem v8 :∀(k:Nat) (t:Tm),t.total<k->(bZ t).length<=8*(t.total+1)
 |0,_,h=>absurd h (Nat.not_lt_zero _)
 | k + 1, t, h => by
  have h1:=ma (l:=t.args) λx hx=>v8 k x (by have:=ac hx;omega);have h2:=az t;have h3:=gJ t.op;have h4:=gJ t.sort;have h5:=eV t.name;rw[iq];split<;>simp only[List.length_append,List.length_cons,List.length_nil]<;>omega
theorem g9 (t:Tm):(bZ t).length<=8*(t.total+1):=v8 _ t (Nat.lt_succ_self _)
noncomputable def gKf (k:Nat):Tm->List Int->Option (List Int):=λt l=>if t.total<k/\KeysOk t/\l.length+8*(t.total+1)<1000000000 then some (l++bZ t)else none
theorem FI {R:Type} (k n:Nat) (h4 h43:Int) (h42:ByteArray) (xs:List Tm) (hx:∀x∈xs,x.total<k/\KeysOk x) (l:List Int) (hl:l.length+8*bb xs+2<1000000000) (hn:xs.length<n) (k0:List Int->Option R):
  z1b.c7 ⟨hM,gKf k⟩ n l h4 h42 h43 xs k0=k0 (l++40::(xs.flatMap bZ++[41])):=by
 have hll:=bm xs;unfold z1b.c7;rw[cj (by simp;omega),bS];have key:∀m (i:Nat) (h:List Int),h.length+8*bb (xs.drop i)<1000000000->i<=xs.length->xs.length-i<m->∀k0:List Int->Option R,z1b.l9 ⟨hM,gKf k⟩ n m xs (xs.length:Int) (i:Int) h k0=k0 (h++(xs.drop i).flatMap bZ):=by
  intro m
  induction m with
  |zero=>intro i h _ _ hm;omega
  | succ m ih =>
   intro i h hh h1 hm k0;show z1b.b9 ⟨hM,gKf k⟩ n xs (xs.length:Int) (i:Int) h (λy0 y1=>z1b.l9 ⟨hM,gKf k⟩ n m xs (xs.length:Int) y0 y1 k0) k0=_;unfold z1b.b9;by_cases hi:i<xs.length
   ·obtain⟨x,x1,x2⟩:=aV hi;rw[aE x1,jE]at hh;rw[aH hi,cT,aD x1,bS,Tm.eta,aO (by omega),aE x1];show Option.bind (gKf k x h) _=_;rw[show gKf k x h=some (h++bZ x)from if_pos ⟨(hx x x2).1,(hx x x2).2,by omega⟩,bS];have hkl:=g9 x;dsimp only;rw[ih (i+1) _ (by rw[List.length_append];omega) hi (by omega),List.flatMap_cons,List.append_assoc]
   ·obtain rfl:i=xs.length:=by omega
    rw[aq (Nat.lt_irrefl _),cF,aK,List.flatMap_nil,List.append_nil]
 have hfl:=ma (l:=xs) λx _=>g9 x;refine(key n 0 _ (by rw[List.drop_zero];simp;omega) (by omega) (by omega) _).trans ?_;rw[List.drop_zero,cj (by simp;simp at hfl;omega),bS];simp
theorem B2 {R:Type} (k:Nat) (t:Tm) (ht:t.total<k+1) (ho:KeysOk t) (l:List Int) (hl:l.length+8*(t.total+1)<1000000000) (K:List Int->Option R):
  z1b.main ⟨hM,gKf k⟩ (t.args.length+1) t l K=K (l++bZ t):=by
 obtain⟨ok,oa⟩:=ho.out;have h2:=az t;have d1:=gJ t.op;have d2:=gJ t.sort;have d3:=eV t.name;have rng: -1<=t.op/\t.op<100/\ -1<=t.sort/\t.sort<100:=by
  rcases ok with⟨a,_,b,c,_⟩|⟨a,b,_,c⟩<;>omega
 have c7:=λ(l':List Int) hl'=>FI (R:=R) k (t.args.length+1) t.op t.sort t.name t.args (λx hx=>⟨by have:=ac hx;omega,oa x hx⟩) l' hl' (by omega) K
 unfold z1b.main;show Option.bind (hM l t.op 10) _=_;rw[show hM l t.op 10=some (l++bO t.op)from if_pos ⟨rfl,rng.1,rng.2.1,by omega⟩,bS,iq];by_cases h0:t.op<0
 ·rw[dT h0,cT,if_pos h0,cj (by simp;omega),bS];rw[show lim (List.append (l++bO t.op++[58]) (ofS t.name))=some ((l++bO t.op++[58])++ofS t.name)from cj (by simp;omega),bS,cj (by simp;omega),bS];show Option.bind (hM _ t.sort 10) _=_;rw[show hM ((l++bO t.op++[58])++ofS t.name++[58]) t.sort 10=some (((l++bO t.op++[58])++ofS t.name++[58])++bO t.sort)from if_pos ⟨rfl,rng.2.2.1,rng.2.2.2,by simp;omega⟩,bS];refine(c7 _ (by simp;omega)).trans ?_;simp
 ·rw[dF h0,cF,if_neg h0];refine(c7 _ (by simp;omega)).trans ?_;simp
theorem lg (hap:EO (z5i.ent hM)):∀k,EO (z1b.ent (gKf k))
 | 0 => fun R xs H K r h => by
  simp only[z1b.ent]at h;split at h
  ·simp[gKf]at h
  ·cases h
 | k + 1 => z1b.ok        (G := ⟨hM, gKf k⟩) ⟨hap, lg hap k, trivial⟩ fun t l r h => by
  unfold gKf at h;split at h
  ·rename_i hs;obtain⟨ht,ho,hl⟩:=hs;cases h;exact⟨t.args.length+1,(B2 k t ht ho l hl _).trans rfl⟩
  ·cases h
noncomputable def tT:Tm->Option ByteArray:=λt=>if t.total<100000000/\KeysOk t then some (sOf (bZ t))else none
theorem zI (hap:EO (z5i.ent hM)):EO (z1a.ent tT):=z1a.ok (G:=⟨gKf 100000000⟩) ⟨lg hap _,trivial⟩ λt r h=>by
 unfold tT at h;split at h
 ·rename_i hs;cases h;refine⟨1,?_⟩;unfold z1a.main;rw[Tm.eta];show Option.bind (gKf 100000000 t []) _=_;rw[show gKf 100000000 t []=some ([]++bZ t)from if_pos ⟨hs.1,hs.2,by have:=hs.1;simp;omega⟩,bS,List.nil_append]
 ·cases h
end Go.Proofs.YtkinkfieackmdaaGreatDoor.Den

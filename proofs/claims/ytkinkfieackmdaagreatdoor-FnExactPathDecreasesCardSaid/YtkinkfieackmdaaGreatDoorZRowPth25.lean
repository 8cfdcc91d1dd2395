/-
  Texts that the claim rests on, merged: PR1, Free, GrS, GrG.
-/
import Derived.Test.YtkinkfieackmdaaGreatDoorZRowPth11
import Derived.Test.YtkinkfieackmdaaGreatDoorZRowPth19
import Derived.Test.YtkinkfieackmdaaGreatDoorZRowPth21
import Derived.Test.YtkinkfieackmdaaGreatDoorZRowPth23
import Derived.Test.YtkinkfieackmdaaGreatDoorZRowPth24

namespace Go.Proofs.YtkinkfieackmdaaGreatDoor.Den
open Go.RowKit
set_option maxRecDepth 100000
set_option linter.unusedVariables false
namespace z3h
structure Gs where
 z3m:z3m.Q
noncomputable def ae (G:Gs):List Ent:=[z3m.ent G.z3m]
noncomputable def b2 {R:Type} (G:Gs) (n:Nat) (h0:LB) (h02:LS) (h03:LO) (i:Int) (nx:Int->Option R) (k0:Bool->Option R) (k1:Option R):Option R:=
 bif decide (i<(List.length h03:Int))then
  (
  (ix h03 i).bind λe=>
  bif e.assoc then
   (k0 false)
  else
   (ix h03 i).bind λe2=>
   bif decide (0<e2.unit)then
    (k0 false)
   else
    nx (wr (i+1))
  )
 else
  k1
noncomputable def l2 {R:Type} (G:Gs) (n m:Nat) (h0:LB) (h02:LS) (h03:LO) (i:Int) (k0:Bool->Option R) (k1:Option R):Option R:=au (λ(v:Int) nx=>b2 G n h0 h02 h03 v (λy0=>nx y0) k0 k1) m i
noncomputable def main {R:Type} (G:Gs) (n:Nat) (s:Sg) (K:Bool->Option R):Option R:=
 l2 G n n s.sorts.names s.sorts.subs s.ops 0
  (λt2=>K t2)
  (
   (G.z3m s).bind λr=>
   K r
  )
noncomputable def dl2 (G:Gs) (n m:Nat) (R:Type) (st:St) (K:Kt R):Option R:=match st with
 |⟨[(1,.one (.p 0 0)),(3,.one (.i i))],[.box [.l .s h0,.l (.n 5) h02,.l (.n 8) h03]]⟩=>l2 G n m h0 h02 h03 i (λt2=>K .ret ⟨[(2,.one (.b t2))],[]⟩) (K (.exit 0) ⟨[(1,.one (.p 0 0))],[.box [.l .s h0,.l (.n 5) h02,.l (.n 8) h03]]⟩)
 |_=>none
noncomputable def pc (G:Gs) (n:Nat):Pcs:=⟨λR id st K=>bif Nat.beq id 2 then dl2 G n n R st K else none,nK,nK⟩
noncomputable def an:Ann:=⟨28,0,[(2,[1,3])],[],[2],[],[]⟩
noncomputable abbrev bd:=ai Tryz.f14
noncomputable abbrev q2:=am [1,0,1,0,0] bd
theorem pl2 {G:Gs} (hG:AE (ae G)) (n:Nat):∀m,PO an (.loop q2) (dl2 G n m):=lpc hG (pc G n) [1,3] ⟨[1],[2],[(0,[1])]⟩ (apl [] trivial) (λR st K=>by unfold dl2;split<;>rfl) λm R st K r h=>by unfold dl2 at h;split at h;exact .trans (by kernel_rfl) h;cases h
theorem ok {G:Gs} (hG:AE (ae G)) {g:Q} (hg:∀s r,g s=some r->∃n,main (R:=AT×List Ob) G n s (λr0=>some (.one (.b r0),[]))=some (.one (.b r),[])):EO (ent g):=λR xs H K r hc=>by
 simp only[ent]at hc;split at hc
 ·exact okL hc λr j=>let⟨n,j⟩:=hg _ _ j;fF hG an (pc G n) Tryz.func14 j (apl [(1,2,.loop q2)] ⟨pl2 hG n n,trivial⟩)
 ·cases hc
end z3h
namespace z3q
structure Gs where
 z4j:z4j.Q
 z3q:z3q.Q
noncomputable def ae (G:Gs):List Ent:=[z4j.ent G.z4j,ent G.z3q]
noncomputable def b4 {R:Type} (G:Gs) (n:Nat) (h0:Int) (h02:ByteArray) (h03:Int) (h04:LT) (h1:Int) (h12:ByteArray) (h13:Int) (h14:LT) (i:Int) (nx:Int->Option R) (k0:Bool->Option R) (k1:Option R):Option R:=
 bif decide (i<(List.length h14:Int))then
  (
  (ix h14 i).bind λe2=>
  (G.z3q (Tm.mk h0 h02 h03 h04) (Tm.mk e2.op e2.name e2.sort e2.args)).bind λr2=>
  bif r2 then
   (k0 true)
  else
   nx (wr (i+1))
  )
 else
  k1
noncomputable def l4 {R:Type} (G:Gs) (n m:Nat) (h0:Int) (h02:ByteArray) (h03:Int) (h04:LT) (h1:Int) (h12:ByteArray) (h13:Int) (h14:LT) (i:Int) (k0:Bool->Option R) (k1:Option R):Option R:=au (λ(v:Int) nx=>b4 G n h0 h02 h03 h04 h1 h12 h13 h14 v (λy0=>nx y0) k0 k1) m i
noncomputable def main {R:Type} (G:Gs) (n:Nat) (v2 t:Tm) (K:Bool->Option R):Option R:=
 (G.z4j (Tm.mk v2.op v2.name v2.sort v2.args) (Tm.mk t.op t.name t.sort t.args)).bind λr=>
 bif r then
  (K true)
 else
  l4 G n n v2.op v2.name v2.sort v2.args t.op t.name t.sort t.args 0
   (λt4=>K t4)
   (K false)
noncomputable def dl4 (G:Gs) (n m:Nat) (R:Type) (st:St) (K:Kt R):Option R:=match st with
 |⟨[(2,.one (.p 0 0)),(3,.one (.p 1 0)),(5,.one (.i i))],[.box [.i h0,.s h02,.i h03,.l (.n 1) h04],.box [.i h1,.s h12,.i h13,.l (.n 1) h14]]⟩=>l4 G n m h0 h02 h03 h04 h1 h12 h13 h14 i (λt4=>K .ret ⟨[(4,.one (.b t4))],[]⟩) (K (.exit 0) ⟨[],[]⟩)
 |_=>none
noncomputable def pc (G:Gs) (n:Nat):Pcs:=⟨λR id st K=>bif Nat.beq id 4 then dl4 G n n R st K else none,nK,nK⟩
noncomputable def an:Ann:=⟨23,0,[(4,[2,3,5])],[],[4],[(6,⟨[([0,1,2,3,4,5,6],[],[])],[],[],[0,1],[]⟩)],[]⟩
noncomputable abbrev bd:=ai Tryz.f31
noncomputable abbrev q4:=am [1,1,0,1,0,0] bd
theorem pl4 {G:Gs} (hG:AE (ae G)) (n:Nat):∀m,PO an (.loop q4) (dl4 G n m):=lpc hG (pc G n) [2,3,5] ⟨[],[4],[(0,[])]⟩ (apl [] trivial) (λR st K=>by unfold dl4;split<;>rfl) λm R st K r h=>by unfold dl4 at h;split at h;exact .trans (by kernel_rfl) h;cases h
theorem ok {G:Gs} (hG:AE (ae G)) {g:Q} (hg:∀v2 t r,g v2 t=some r->∃n,main (R:=AT×List Ob) G n v2 t (λr0=>some (.one (.b r0),[]))=some (.one (.b r),[])):EO (ent g):=λR xs H K r hc=>by
 simp only[ent]at hc;split at hc
 ·exact okL hc λr j=>let⟨n,j⟩:=hg _ _ _ j;fF hG an (pc G n) Tryz.func31 j (apl [(1,4,.loop q4)] ⟨pl4 hG n n,trivial⟩)
 ·cases hc
end z3q
namespace z3x
structure Gs where
 none_:Unit
noncomputable def main {R:Type} (G:Gs) (n:Nat) (list:LT) (i:Int) (K:LT->Option R):Option R:=
 (sub list 0 i).bind λys2=>
 (lim ([]++ys2)).bind λzs=>
 (sub list (wr (i+1)) (List.length list:Int)).bind λys4=>
 (lim (zs++ys4)).bind λzs2=>
 K zs2
theorem ok {G:Gs} (hG:AE []) {g:Q} (hg:∀list i r,g list i=some r->∃n,main (R:=AT×List Ob) G n list i (λr0=>some (.one (.o 0),[.row (.n 1) 0 r0]))=some (.one (.o 0),[.row (.n 1) 0 r])):EO (ent g):=λR xs H K r hc=>by
 simp only[ent]at hc;split at hc
 ·exact okL hc λr j=>let⟨_,j⟩:=hg _ _ _ j;fR hG ⟨15,0,[],[],[4],[(1,⟨[([0,1,2,3,4,5,6,7,8,9,10],[0,4,9],[])],[0,4,9],[],[],[]⟩)],[]⟩ nP Tryz.func99 j
 ·cases hc
end z3x
namespace z49
structure Gs where
 z4j:z4j.Q
 z3x:z3x.Q
noncomputable def ae (G:Gs):List Ent:=[z4j.ent G.z4j,z3x.ent G.z3x]
noncomputable def b6 {R:Type} (G:Gs) (n:Nat) (b:LT) (i:Int) (h0:LT) (k:Int) (nx:Int->Option R) (k0:LT->Option R):Option R:=
 bif decide (k<(List.length h0:Int))then
  (
  (ix h0 k).bind λe2=>
  (ix b i).bind λe4=>
  (G.z4j (Tm.mk e2.op e2.name e2.sort e2.args) (Tm.mk e4.op e4.name e4.sort e4.args)).bind λr2=>
  bif r2 then
   (
   (G.z3x h0 k).bind λr3=>
   k0 r3
   )
  else
   nx (wr (k+1))
  )
 else
  k0 h0
noncomputable def l6 {R:Type} (G:Gs) (n m:Nat) (b:LT) (i:Int) (h0:LT) (k:Int) (k0:LT->Option R):Option R:=au (λ(v:Int) nx=>b6 G n b i h0 v (λy0=>nx y0) k0) m k
noncomputable def b3 {R:Type} (G:Gs) (n:Nat) (b:LT) (i:Int) (h0:LT) (nx:Int->LT->Option R) (k0:LT->Option R):Option R:=
 bif decide (i<(List.length b:Int))then
  (
  l6 G n n b i h0 0
   (λh02=>nx (wr (i+1)) h02)
  )
 else
  k0 h0
noncomputable def l3 {R:Type} (G:Gs) (n m:Nat) (b:LT) (i:Int) (h0:LT) (k0:LT->Option R):Option R:=au (λ(v:Int×LT) nx=>b3 G n b v.1 v.2 (λy0 y1=>nx (y0,y1)) k0) m (i,h0)
noncomputable def main {R:Type} (G:Gs) (n:Nat) (a b:LT) (K:LT->Option R):Option R:=
 (lim ([]++a)).bind λzs=>
 l3 G n n b 0 zs
  (λh02=>K h02)
noncomputable def dl6 (G:Gs) (n m:Nat) (R:Type) (st:St) (K:Kt R):Option R:=match st with
 |⟨[(1,.one (.l (.n 1) b)),(5,.one (.o 0)),(6,.one (.i i)),(7,.one (.i k))],[.row (.n 1) 0 h0]⟩=>l6 G n m b i h0 k (λh02=>K (.exit 2) ⟨[(1,.one (.l (.n 1) b)),(5,.one (.o 0)),(6,.one (.i i))],[.row (.n 1) 0 h02]⟩)
 |_=>none
noncomputable def dl3 (G:Gs) (n m:Nat) (R:Type) (st:St) (K:Kt R):Option R:=match st with
 |⟨[(1,.one (.l (.n 1) b)),(5,.one (.o 0)),(6,.one (.i i))],[.row (.n 1) 0 h0]⟩=>l3 G n m b i h0 (λh02=>K (.exit 0) ⟨[(5,.one (.o 0))],[.row (.n 1) 0 h02]⟩)
 |_=>none
noncomputable def pc (G:Gs) (n:Nat):Pcs:=⟨λR id st K=>bif Nat.beq id 6 then dl6 G n n R st K else bif Nat.beq id 3 then dl3 G n n R st K else none,nK,nK⟩
noncomputable def an:Ann:=⟨36,0,[(6,[1,5,6,7]),(3,[1,5,6])],[],[4],[(8,⟨[([0,1,2,3,4,5,6,7,8],[],[])],[],[],[0],[]⟩)],[]⟩
noncomputable abbrev bd:=ai Tryz.f60
noncomputable abbrev q6:=am [1,1,0,1,0,0,1,0,0,1,0,0] bd
noncomputable abbrev q3:=am [1,1,0,1,0,0] bd
theorem pl6 {G:Gs} (hG:AE (ae G)) (n:Nat):∀m,PO an (.loop q6) (dl6 G n m):=lpc hG (pc G n) [1,5,6,7] ⟨[1,5,6],[4],[(0,[5]),(1,[1,5,6]),(2,[1,5,6])]⟩ (apl [] trivial) (λR st K=>by unfold dl6;split<;>rfl) λm R st K r h=>by unfold dl6 at h;split at h;exact .trans (by kernel_rfl) h;cases h
theorem pl3 {G:Gs} (hG:AE (ae G)) (n:Nat):∀m,PO an (.loop q3) (dl3 G n m):=lpc hG (pc G n) [1,5,6] ⟨[5],[4],[(0,[5])]⟩ (apl [(1,6,.loop q6)] ⟨pl6 hG n n,trivial⟩) (λR st K=>by unfold dl3;split<;>rfl) λm R st K r h=>by unfold dl3 at h;split at h;exact .trans (by kernel_rfl) h;cases h
theorem ok {G:Gs} (hG:AE (ae G)) {g:Q} (hg:∀a b r,g a b=some r->∃n,main (R:=AT×List Ob) G n a b (λr0=>some (.one (.l (.n 1) r0),[]))=some (.one (.l (.n 1) r),[])):EO (ent g):=λR xs H K r hc=>by
 simp only[ent]at hc;split at hc
 ·exact okL hc λr j=>let⟨n,j⟩:=hg _ _ _ j;fF hG an (pc G n) Tryz.func60 j (apl [(1,3,.loop q3)] ⟨pl3 hG n n,trivial⟩)
 ·cases hc
end z49
namespace z48
structure Gs where
 z4j:z4j.Q
 z47:z47.Q
noncomputable def ae (G:Gs):List Ent:=[z4j.ent G.z4j,z47.ent G.z47]
noncomputable def b2 {R:Type} (G:Gs) (n:Nat) (rank:LI) (a b:LT) (h0:LB) (h02:LS) (h03:LO) (i:Int) (nx:Int->Option R) (k0:Bool->Option R) (k1:Option R):Option R:=
 bif decide (i<(List.length a:Int))then
  (
  (ix a i).bind λe2=>
  (ix b i).bind λe4=>
  (G.z4j (Tm.mk e2.op e2.name e2.sort e2.args) (Tm.mk e4.op e4.name e4.sort e4.args)).bind λr2=>
  bif !r2 then
   (
   (ix a i).bind λe6=>
   (ix b i).bind λe8=>
   (G.z47 (Sg.mk (So.mk h0 h02) h03) rank (Tm.mk e6.op e6.name e6.sort e6.args) (Tm.mk e8.op e8.name e8.sort e8.args)).bind λr4=>
   k0 r4
   )
  else
   nx (wr (i+1))
  )
 else
  k1
noncomputable def l2 {R:Type} (G:Gs) (n m:Nat) (rank:LI) (a b:LT) (h0:LB) (h02:LS) (h03:LO) (i:Int) (k0:Bool->Option R) (k1:Option R):Option R:=au (λ(v:Int) nx=>b2 G n rank a b h0 h02 h03 v (λy0=>nx y0) k0 k1) m i
noncomputable def main {R:Type} (G:Gs) (n:Nat) (s:Sg) (rank:LI) (a b:LT) (K:Bool->Option R):Option R:=
 l2 G n n rank a b s.sorts.names s.sorts.subs s.ops 0
  (λt8=>K t8)
  (K false)
noncomputable def dl2 (G:Gs) (n m:Nat) (R:Type) (st:St) (K:Kt R):Option R:=match st with
 |⟨[(1,.one (.l .i rank)),(2,.one (.l (.n 1) a)),(3,.one (.l (.n 1) b)),(4,.one (.p 0 0)),(9,.one (.i i))],[.box [.l .s h0,.l (.n 5) h02,.l (.n 8) h03]]⟩=>l2 G n m rank a b h0 h02 h03 i (λt8=>K .ret ⟨[(8,.one (.b t8))],[]⟩) (K (.exit 0) ⟨[],[]⟩)
 |_=>none
noncomputable def pc (G:Gs) (n:Nat):Pcs:=⟨λR id st K=>bif Nat.beq id 2 then dl2 G n n R st K else none,nK,nK⟩
noncomputable def an:Ann:=⟨37,0,[(2,[1,2,3,4,9])],[],[8],[(4,⟨[([0,1,2,3,4,5,6,7,8,9],[],[])],[],[],[0],[]⟩),(5,⟨[([0,1,2,3,4,5,6,7,8,9,10,11],[],[])],[],[],[0],[]⟩)],[]⟩
noncomputable abbrev bd:=ai Tryz.f33
noncomputable abbrev q2:=am [1,0,1,0,0] bd
theorem pl2 {G:Gs} (hG:AE (ae G)) (n:Nat):∀m,PO an (.loop q2) (dl2 G n m):=lpc hG (pc G n) [1,2,3,4,9] ⟨[],[8],[(0,[])]⟩ (apl [] trivial) (λR st K=>by unfold dl2;split<;>rfl) λm R st K r h=>by unfold dl2 at h;split at h;exact .trans (by kernel_rfl) h;cases h
theorem ok {G:Gs} (hG:AE (ae G)) {g:Q} (hg:∀s rank a b r,g s rank a b=some r->∃n,main (R:=AT×List Ob) G n s rank a b (λr0=>some (.one (.b r0),[]))=some (.one (.b r),[])):EO (ent g):=λR xs H K r hc=>by
 simp only[ent]at hc;split at hc
 ·exact okL hc λr j=>let⟨n,j⟩:=hg _ _ _ _ _ j;fF hG an (pc G n) Tryz.func33 j (apl [(1,2,.loop q2)] ⟨pl2 hG n n,trivial⟩)
 ·cases hc
end z48
namespace z44
structure Gs where
 z49:z49.Q
 z47:z47.Q
noncomputable def ae (G:Gs):List Ent:=[z49.ent G.z49,z47.ent G.z47]
noncomputable def b8 {R:Type} (G:Gs) (n:Nat) (rank:LI) (x y:LT) (i:Int) (h0:LB) (h02:LS) (h03:LO) (less:Bool) (k:Int) (nx:Bool->Int->Option R) (k0:Bool->Option R):Option R:=
 bif decide (k<(List.length x:Int))then
  (
  bif less then
   (nx true (wr (k+1)))
  else
   (ix x k).bind λe2=>
   (ix y i).bind λe4=>
   (G.z47 (Sg.mk (So.mk h0 h02) h03) rank (Tm.mk e2.op e2.name e2.sort e2.args) (Tm.mk e4.op e4.name e4.sort e4.args)).bind λr2=>
   nx r2 (wr (k+1))
  )
 else
  k0 less
noncomputable def l8 {R:Type} (G:Gs) (n m:Nat) (rank:LI) (x y:LT) (i:Int) (h0:LB) (h02:LS) (h03:LO) (less:Bool) (k:Int) (k0:Bool->Option R):Option R:=au (λ(v:Bool×Int) nx=>b8 G n rank x y i h0 h02 h03 v.1 v.2 (λy0 y1=>nx (y0,y1)) k0) m (less,k)
noncomputable def b4 {R:Type} (G:Gs) (n:Nat) (rank:LI) (x y:LT) (h0:LB) (h02:LS) (h03:LO) (i:Int) (nx:Int->Option R) (k0:Bool->Option R) (k1:Option R):Option R:=
 bif decide (i < (List.length y : Int)) then
  (
  l8 G n n rank x y i h0 h02 h03 false 0
   (fun less2 =>
    bif !less2 then
     (k0 false)
    else
     nx (wr (i+1))
   )
  )
 else
  k1
noncomputable def l4 {R:Type} (G:Gs) (n m:Nat) (rank:LI) (x y:LT) (h0:LB) (h02:LS) (h03:LO) (i:Int) (k0:Bool->Option R) (k1:Option R):Option R:=au (λ(v:Int) nx=>b4 G n rank x y h0 h02 h03 v (λy0=>nx y0) k0 k1) m i
noncomputable def main {R:Type} (G:Gs) (n:Nat) (s:Sg) (rank:LI) (a b:LT) (K:Bool->Option R):Option R:=
 (G.z49 a b).bind λr=>
 (G.z49 b a).bind λr2=>
 l4 G n n rank r r2 s.sorts.names s.sorts.subs s.ops 0
  (λt8=>K t8)
  (K (decide (0<(List.length r:Int))))
noncomputable def dl8 (G:Gs) (n m:Nat) (R:Type) (st:St) (K:Kt R):Option R:=match st with
 |⟨[(1,.one (.l .i rank)),(4,.one (.p 0 0)),(9,.one (.l (.n 1) x)),(10,.one (.l (.n 1) y)),(11,.one (.i i)),(12,.one (.b less)),(13,.one (.i k))],[.box [.l .s h0,.l (.n 5) h02,.l (.n 8) h03]]⟩=>l8 G n m rank x y i h0 h02 h03 less k (λless2=>K (.exit 2) ⟨[(1,.one (.l .i rank)),(4,.one (.p 0 0)),(9,.one (.l (.n 1) x)),(10,.one (.l (.n 1) y)),(11,.one (.i i)),(12,.one (.b less2))],[.box [.l .s h0,.l (.n 5) h02,.l (.n 8) h03]]⟩)
 |_=>none
noncomputable def dl4 (G:Gs) (n m:Nat) (R:Type) (st:St) (K:Kt R):Option R:=match st with
 |⟨[(1,.one (.l .i rank)),(4,.one (.p 0 0)),(9,.one (.l (.n 1) x)),(10,.one (.l (.n 1) y)),(11,.one (.i i))],[.box [.l .s h0,.l (.n 5) h02,.l (.n 8) h03]]⟩=>l4 G n m rank x y h0 h02 h03 i (λt8=>K .ret ⟨[(8,.one (.b t8))],[]⟩) (K (.exit 0) ⟨[(9,.one (.l (.n 1) x))],[]⟩)
 |_=>none
noncomputable def pc (G:Gs) (n:Nat):Pcs:=⟨λR id st K=>bif Nat.beq id 8 then dl8 G n n R st K else bif Nat.beq id 4 then dl4 G n n R st K else none,nK,nK⟩
noncomputable def an:Ann:=⟨51,0,[(8,[1,4,9,10,11,12,13]),(4,[1,4,9,10,11])],[],[8],[(10,⟨[([0,1,2,3,4,5,6,7,8,9,10,11,12,13,14],[],[])],[],[],[0],[]⟩)],[]⟩
noncomputable abbrev bd:=ai Tryz.f32
noncomputable abbrev q8:=am [1,1,1,0,1,0,0,1,0,0,1,0,1,0,0] bd
noncomputable abbrev q4:=am [1,1,1,0,1,0,0] bd
theorem pl8 {G:Gs} (hG:AE (ae G)) (n:Nat):∀m,PO an (.loop q8) (dl8 G n m):=lpc hG (pc G n) [1,4,9,10,11,12,13] ⟨[1,4,9,10,11,12],[8],[(0,[9]),(1,[1,4,9,10,11]),(2,[1,4,9,10,11,12])]⟩ (apl [] trivial) (λR st K=>by unfold dl8;split<;>rfl) λm R st K r h=>by unfold dl8 at h;split at h;exact .trans (by kernel_rfl) h;cases h
theorem pl4 {G:Gs} (hG:AE (ae G)) (n:Nat):∀m,PO an (.loop q4) (dl4 G n m):=lpc hG (pc G n) [1,4,9,10,11] ⟨[9],[8],[(0,[9])]⟩ (apl [(1,8,.loop q8)] ⟨pl8 hG n n,trivial⟩) (λR st K=>by unfold dl4;split<;>rfl) λm R st K r h=>by unfold dl4 at h;split at h;exact .trans (by kernel_rfl) h;cases h
theorem ok {G:Gs} (hG:AE (ae G)) {g:Q} (hg:∀s rank a b r,g s rank a b=some r->∃n,main (R:=AT×List Ob) G n s rank a b (λr0=>some (.one (.b r0),[]))=some (.one (.b r),[])):EO (ent g):=λR xs H K r hc=>by
 simp only[ent]at hc;split at hc
 ·exact okL hc λr j=>let⟨n,j⟩:=hg _ _ _ _ _ j;fF hG an (pc G n) Tryz.func32 j (apl [(1,4,.loop q4)] ⟨pl4 hG n n,trivial⟩)
 ·cases hc
end z44
namespace z47
structure Gs where
 z4j:z4j.Q
 z3q:z3q.Q
 z47:z47.Q
 z44:z44.Q
 z48:z48.Q
noncomputable def ae (G:Gs):List Ent:=[z4j.ent G.z4j,z3q.ent G.z3q,ent G.z47,z44.ent G.z44,z48.ent G.z48]
noncomputable def b6 {R:Type} (G:Gs) (n:Nat) (rank:LI) (h0:LB) (h02:LS) (h03:LO) (h1:Int) (h12:ByteArray) (h13:Int) (h14:LT) (h2:Int) (h22:ByteArray) (h23:Int) (h24:LT) (i:Int) (nx:Int->Option R) (k0:Bool->Option R) (k1:Option R):Option R:=
 bif decide (i<(List.length h14:Int))then
  (
  (ix h14 i).bind λe2=>
  (G.z4j (Tm.mk e2.op e2.name e2.sort e2.args) (Tm.mk h2 h22 h23 h24)).bind λr2=>
  bif r2 then
   (k0 true)
  else
   (ix h14 i).bind λe4=>
   (G.z47 (Sg.mk (So.mk h0 h02) h03) rank (Tm.mk e4.op e4.name e4.sort e4.args) (Tm.mk h2 h22 h23 h24)).bind λr4=>
   bif r4 then
    (k0 true)
   else
    nx (wr (i+1))
  )
 else
  k1
noncomputable def l6 {R:Type} (G:Gs) (n m:Nat) (rank:LI) (h0:LB) (h02:LS) (h03:LO) (h1:Int) (h12:ByteArray) (h13:Int) (h14:LT) (h2:Int) (h22:ByteArray) (h23:Int) (h24:LT) (i:Int) (k0:Bool->Option R) (k1:Option R):Option R:=au (λ(v:Int) nx=>b6 G n rank h0 h02 h03 h1 h12 h13 h14 h2 h22 h23 h24 v (λy0=>nx y0) k0 k1) m i
noncomputable def b13 {R:Type} (G:Gs) (n:Nat) (rank:LI) (h0:LB) (h02:LS) (h03:LO) (h1:Int) (h12:ByteArray) (h13:Int) (h14:LT) (h2:Int) (h22:ByteArray) (h23:Int) (h24:LT) (i:Int) (nx:Int->Option R) (k0:Bool->Option R) (k1:Option R):Option R:=
 bif decide (i<(List.length h24:Int))then
  (
  (ix h24 i).bind λe2=>
  (G.z47 (Sg.mk (So.mk h0 h02) h03) rank (Tm.mk h1 h12 h13 h14) (Tm.mk e2.op e2.name e2.sort e2.args)).bind λr2=>
  bif !r2 then
   (k0 false)
  else
   nx (wr (i+1))
  )
 else
  k1
noncomputable def l13 {R:Type} (G:Gs) (n m:Nat) (rank:LI) (h0:LB) (h02:LS) (h03:LO) (h1:Int) (h12:ByteArray) (h13:Int) (h14:LT) (h2:Int) (h22:ByteArray) (h23:Int) (h24:LT) (i:Int) (k0:Bool->Option R) (k1:Option R):Option R:=au (λ(v:Int) nx=>b13 G n rank h0 h02 h03 h1 h12 h13 h14 h2 h22 h23 h24 v (λy0=>nx y0) k0 k1) m i
noncomputable def c12 {R:Type} (G:Gs) (n:Nat) (rank:LI) (h0:LB) (h02:LS) (h03:LO) (h1:Int) (h12:ByteArray) (h13:Int) (h14:LT) (h2:Int) (h22:ByteArray) (h23:Int) (h24:LT) (k0:Bool->Option R):Option R:=
 l13 G n n rank h0 h02 h03 h1 h12 h13 h14 h2 h22 h23 h24 0
  (λt8=>k0 t8)
  (
   bif !decide (h1=h2)then
    (k0 true)
   else
    (ix h03 h1).bind λe=>
    bif e.comm then
     (
     (G.z44 (Sg.mk (So.mk h0 h02) h03) rank h14 h24).bind λr=>
     k0 r
     )
    else
     (G.z48 (Sg.mk (So.mk h0 h02) h03) rank h14 h24).bind λr2=>
     k0 r2
  )
noncomputable def main {R:Type} (G:Gs) (n:Nat) (s:Sg) (rank:LI) (a b:Tm) (K:Bool->Option R):Option R:=
 bif decide (a.op=(-1))then
  (K false)
 else
  (G.z4j (Tm.mk a.op a.name a.sort a.args) (Tm.mk b.op b.name b.sort b.args)).bind λr=>
  bif r then
   (K false)
  else
   bif decide (b.op=(-1))then
    (
    (G.z3q (Tm.mk b.op b.name b.sort b.args) (Tm.mk a.op a.name a.sort a.args)).bind λr2=>
    K r2
    )
   else
    l6 G n n rank s.sorts.names s.sorts.subs s.ops a.op a.name a.sort a.args b.op b.name b.sort b.args 0
     (λt8=>K t8)
     (
      (ix rank a.op).bind λe2=>
      (ix rank b.op).bind λe4=>
      bif decide (e2<e4)then
       (K false)
      else
       (ix rank a.op).bind λe6=>
       (ix rank b.op).bind λe8=>
       bif decide (e6=e8)then
        (
        bif !decide (a.op=b.op)then
         (K false)
        else
         c12 G n rank s.sorts.names s.sorts.subs s.ops a.op a.name a.sort a.args b.op b.name b.sort b.args
          (λt82=>K t82)
        )
       else
        c12 G n rank s.sorts.names s.sorts.subs s.ops a.op a.name a.sort a.args b.op b.name b.sort b.args
         (λt83=>K t83)
     )
noncomputable def dl6 (G:Gs) (n m:Nat) (R:Type) (st:St) (K:Kt R):Option R:=match st with
 |⟨[(1,.one (.l .i rank)),(4,.one (.p 0 0)),(6,.one (.p 1 0)),(7,.one (.p 2 0)),(9,.one (.i i))],[.box [.l .s h0,.l (.n 5) h02,.l (.n 8) h03],.box [.i h1,.s h12,.i h13,.l (.n 1) h14],.box [.i h2,.s h22,.i h23,.l (.n 1) h24]]⟩=>l6 G n m rank h0 h02 h03 h1 h12 h13 h14 h2 h22 h23 h24 i (λt8=>K .ret ⟨[(8,.one (.b t8))],[]⟩) (K (.exit 0) ⟨[(1,.one (.l .i rank)),(4,.one (.p 0 0)),(6,.one (.p 1 0)),(7,.one (.p 2 0))],[.box [.l .s h0,.l (.n 5) h02,.l (.n 8) h03],.box [.i h1,.s h12,.i h13,.l (.n 1) h14],.box [.i h2,.s h22,.i h23,.l (.n 1) h24]]⟩)
 |_=>none
noncomputable def dW (G:Gs) (n m:Nat) (R:Type) (st:St) (K:Kt R):Option R:=match st with
 |⟨[(1,.one (.l .i rank)),(4,.one (.p 0 0)),(6,.one (.p 1 0)),(7,.one (.p 2 0)),(10,.one (.i i))],[.box [.l .s h0,.l (.n 5) h02,.l (.n 8) h03],.box [.i h1,.s h12,.i h13,.l (.n 1) h14],.box [.i h2,.s h22,.i h23,.l (.n 1) h24]]⟩=>l13 G n m rank h0 h02 h03 h1 h12 h13 h14 h2 h22 h23 h24 i (λt8=>K .ret ⟨[(8,.one (.b t8))],[]⟩) (K (.exit 2) ⟨[(1,.one (.l .i rank)),(4,.one (.p 0 0)),(6,.one (.p 1 0)),(7,.one (.p 2 0))],[.box [.l .s h0,.l (.n 5) h02,.l (.n 8) h03],.box [.i h1,.s h12,.i h13,.l (.n 1) h14],.box [.i h2,.s h22,.i h23,.l (.n 1) h24]]⟩)
 |_=>none
noncomputable def Ez (G:Gs) (n:Nat) (R:Type) (st:St) (K:Kt R):Option R:=match st with
 |⟨[(1,.one (.l .i rank)),(4,.one (.p 0 0)),(6,.one (.p 1 0)),(7,.one (.p 2 0))],[.box [.l .s h0,.l (.n 5) h02,.l (.n 8) h03],.box [.i h1,.s h12,.i h13,.l (.n 1) h14],.box [.i h2,.s h22,.i h23,.l (.n 1) h24]]⟩=>c12 G n rank h0 h02 h03 h1 h12 h13 h14 h2 h22 h23 h24 (λt8=>K .ret ⟨[(8,.one (.b t8))],[]⟩)
 |_=>none
noncomputable def pc (G:Gs) (n:Nat):Pcs:=⟨λR id st K=>bif Nat.beq id 6 then dl6 G n n R st K else bif Nat.beq id 13 then dW G n n R st K else none,λR id st K=>bif Nat.beq id 12 then Ez G n R st K else none,nK⟩
noncomputable def an:Ann:=⟨124,0,[(6,[1,4,6,7,9]),(13,[1,4,6,7,10])],[(12,[1,4,6,7])],[8],[(8,⟨[([0,1,2,3,4,5,6,7,8,9,10,11,12,13,14,15,16,17],[],[])],[],[],[0,1,2],[]⟩),(10,⟨[([0,1,2,3,4,5,6,7,8,9,10,11,12,13,14,15,16,17,18,19,20,21,22,23,24,25,26,27,28,29,30],[],[])],[],[],[0,1,2],[]⟩),(15,⟨[([0,1,2,3,4,5,6,7,8,9],[],[])],[],[],[0,1,2],[]⟩)],[]⟩
noncomputable abbrev bd:=ai Tryz.f15
noncomputable abbrev q6:=am [1,1,1,0,1,0,0] bd
noncomputable abbrev q13:=am [1,1,1,1,1,0,1,0,0] bd
noncomputable abbrev q12:=am [1,1,1,1,1] bd
theorem pl6 {G:Gs} (hG:AE (ae G)) (n:Nat):∀m,PO an (.loop q6) (dl6 G n m):=lpc hG (pc G n) [1,4,6,7,9] ⟨[1,4,6,7],[8],[(0,[1,4,6,7])]⟩ (apl [] trivial) (λR st K=>by unfold dl6;split<;>rfl) λm R st K r h=>by unfold dl6 at h;split at h;exact .trans (by kernel_rfl) h;cases h
theorem pZ {G:Gs} (hG:AE (ae G)) (n:Nat):∀m,PO an (.loop q13) (dW G n m):=lpc hG (pc G n) [1,4,6,7,10] ⟨[1,4,6,7],[8],[(2,[1,4,6,7])]⟩ (apl [] trivial) (λR st K=>by unfold dW;split<;>rfl) λm R st K r h=>by unfold dW at h;split at h;exact .trans (by kernel_rfl) h;cases h
theorem pc12 {G:Gs} (hG:AE (ae G)) {n:Nat}:PO an q12 (Ez G n):=cpc hG (pc G n) ⟨[],[8],[]⟩ (apl [(1,13,.loop q13)] ⟨pZ hG n n,trivial⟩) λR st K r h=>by unfold Ez at h;split at h;exact .trans (by kernel_rfl) h;cases h
theorem ok {G:Gs} (hG:AE (ae G)) {g:Q} (hg:∀s rank a b r,g s rank a b=some r->∃n,main (R:=AT×List Ob) G n s rank a b (λr0=>some (.one (.b r0),[]))=some (.one (.b r),[])):EO (ent g):=λR xs H K r hc=>by
 simp only[ent]at hc;split at hc
 ·exact okL hc λr j=>let⟨n,j⟩:=hg _ _ _ _ _ j;fF hG an (pc G n) Tryz.func15 j (apl [(1,6,.loop q6),(0,12,q12)] ⟨pl6 hG n n,⟨pc12 hG,trivial⟩⟩)
 ·cases hc
end z47
namespace z3s
structure Gs where
 z3i:z3i.Q
 z3h:z3h.Q
 z47:z47.Q
noncomputable def ae (G:Gs):List Ent:=[z3i.ent G.z3i,z3h.ent G.z3h,z47.ent G.z47]
noncomputable def b4 {R:Type} (G:Gs) (n:Nat) (rank:LI) (h0:LB) (h02:LS) (h03:LO) (h04 h05:LQ) (i:Int) (nx:Int->Option R) (k0:Bool->Option R) (k1:Option R):Option R:=
 bif decide (i<(List.length h04:Int))then
  (
  (ix h04 i).bind λe2=>
  (ix h04 i).bind λe4=>
  (G.z47 (Sg.mk (So.mk h0 h02) h03) rank (Tm.mk e2.left.op e2.left.name e2.left.sort e2.left.args) (Tm.mk e4.right.op e4.right.name e4.right.sort e4.right.args)).bind λr2=>
  bif !r2 then
   (k0 false)
  else
   nx (wr (i+1))
  )
 else
  k1
noncomputable def l4 {R:Type} (G:Gs) (n m:Nat) (rank:LI) (h0:LB) (h02:LS) (h03:LO) (h04 h05:LQ) (i:Int) (k0:Bool->Option R) (k1:Option R):Option R:=au (λ(v:Int) nx=>b4 G n rank h0 h02 h03 h04 h05 v (λy0=>nx y0) k0 k1) m i
noncomputable def main {R:Type} (G:Gs) (n:Nat) (m2:Md) (rank:LI) (K:Bool->Option R):Option R:=
 (G.z3i m2).bind λr=>
 bif !r then
  (K false)
 else
  (G.z3h m2.sig).bind λr2=>
  bif !r2 then
   (K false)
  else
   bif !decide ((List.length rank:Int)=(List.length m2.sig.ops:Int))then
    (K false)
   else
    l4 G n n rank m2.sig.sorts.names m2.sig.sorts.subs m2.sig.ops m2.eqs m2.rules 0
     (λt4=>K t4)
     (K true)
noncomputable def dl4 (G:Gs) (n m:Nat) (R:Type) (st:St) (K:Kt R):Option R:=match st with
 |⟨[(1,.one (.l .i rank)),(2,.one (.p 0 0)),(5,.one (.i i))],[.box [.l .s h0,.l (.n 5) h02,.l (.n 8) h03,.l (.n 14) h04,.l (.n 14) h05]]⟩=>l4 G n m rank h0 h02 h03 h04 h05 i (λt4=>K .ret ⟨[(4,.one (.b t4))],[]⟩) (K (.exit 0) ⟨[],[]⟩)
 |_=>none
noncomputable def pc (G:Gs) (n:Nat):Pcs:=⟨λR id st K=>bif Nat.beq id 4 then dl4 G n n R st K else none,nK,nK⟩
noncomputable def an:Ann:=⟨48,0,[(4,[1,2,5])],[],[4],[(6,⟨[([0,1,2,3,4,5,6,7,8,9,10,11,12,13,14,15,16],[],[])],[],[],[0],[]⟩)],[]⟩
noncomputable abbrev bd:=ai Tryz.f5
noncomputable abbrev q4:=am [1,1,0,1,0,0] bd
theorem pl4 {G:Gs} (hG:AE (ae G)) (n:Nat):∀m,PO an (.loop q4) (dl4 G n m):=lpc hG (pc G n) [1,2,5] ⟨[],[4],[(0,[])]⟩ (apl [] trivial) (λR st K=>by unfold dl4;split<;>rfl) λm R st K r h=>by unfold dl4 at h;split at h;exact .trans (by kernel_rfl) h;cases h
theorem ok {G:Gs} (hG:AE (ae G)) {g:Q} (hg:∀m2 rank r,g m2 rank=some r->∃n,main (R:=AT×List Ob) G n m2 rank (λr0=>some (.one (.b r0),[]))=some (.one (.b r),[])):EO (ent g):=λR xs H K r hc=>by
 simp only[ent]at hc;split at hc
 ·exact okL hc λr j=>let⟨n,j⟩:=hg _ _ _ j;fF hG an (pc G n) Tryz.func5 j (apl [(1,4,.loop q4)] ⟨pl4 hG n n,trivial⟩)
 ·cases hc
end z3s
open Classical
theorem wu :∀(k j:Nat) (v t:Tm),t.total<k->t.total<j->pT k v t=pT j v t
 |0,_,_,_,h,_=>absurd h (Nat.not_lt_zero _)
 |_,0,_,_,_,h=>absurd h (Nat.not_lt_zero _)
 | k + 1, j + 1, v, t, h1, h2 => by
  unfold pT;rw[fN λx hx=>wu k j v x (by have:=ac hx;omega) (by have:=ac hx;omega)]
theorem vv (v t:Tm):gF v t=(decide (v=t)||t.args.any (gF v)):=by
 show pT (t.total+1) v t=_;unfold pT;rw[fN (F':=gF v) λx hx=>wu _ _ v x (ac hx) (Nat.lt_succ_self _)]
theorem cQ (a b:Tm):decide (aQ a b=0)=decide (a=b):=decide_eq_decide.2 z04
noncomputable def gOc (k:Nat):Tm->Tm->Option Bool:=λv t=>if t.total<k/\v.total<4294967296 then some (gF v t)else none
theorem z3r :∀k,k<=4294967296->EO (z3q.ent (gOc k))
 | 0, _ => fun R xs H K r h => by
  simp only[z3q.ent]at h;split at h
  ·simp[gOc]at h
  ·cases h
 | k + 1, hk => z3q.ok        (G := ⟨bf    4294967296, gOc k⟩) ⟨dm        _ (Nat.le_refl _), z3r           k (by omega), trivial⟩ fun v t r h => by
  unfold gOc at h;split at h
  ·rename_i hs;obtain⟨ht,hv⟩:=hs;cases h;have hl:=bm      t.args;have ha:=az         t;refine⟨t.args.length+1,?_⟩;unfold z3q.main;rw[Tm.eta,Tm.eta,vv     ];show Option.bind (bf    4294967296 v t) _=_;rw[show bf    4294967296 v t=some (decide (aQ   v t=0))from if_pos hv,bS,cQ      ];cases decide (v=t)with
   |true=>rfl
   | false =>
    rw[cF,Bool.false_or];refine(ES t.args (gF v) (λi nx=>z3q.b4 ⟨bf 4294967296,gOc k⟩ _ v.op v.name v.sort v.args t.op t.name t.sort t.args i nx _ _) (some (AT.one (.b true),[])) (some (AT.one (.b false),[])) (λnx=> ?_) (λi x nx hi=> ?_) _ 0 (by omega) (by omega)).trans ?_
    ·unfold z3q.b4;rw[aq (Nat.lt_irrefl _),cF]
    ·have hil:i<t.args.length:=(gI.1 hi).1;have hx:=ac (mG hi);unfold z3q.b4;rw[aH hil,cT,aD hi,bS,Tm.eta,Tm.eta,aO (by omega)];show Option.bind (gOc k v x) _=_;rw[show gOc k v x=some (gF v x)from if_pos ⟨by omega,hv⟩,bS]
    ·rw[List.drop_zero];cases t.args.any (gF v)<;>rfl
  ·cases h
theorem z0o :∀k,k<=4294967296->EO (z0n.ent (gOc k))
 | 0, _ => fun R xs H K r h => by
  simp only[z0n.ent]at h;split at h
  ·simp[gOc]at h
  ·cases h
 | k + 1, hk => z0n.ok        (G := ⟨bf    4294967296, gOc k⟩) ⟨z1o           _ (Nat.le_refl _), z0o           k (by omega), trivial⟩ fun v t r h => by
  unfold gOc at h;split at h
  ·rename_i hs;obtain⟨ht,hv⟩:=hs;cases h;have hl:=bm      t.args;have ha:=az         t;refine⟨t.args.length+1,?_⟩;unfold z0n.main;rw[Tm.eta,Tm.eta,vv     ];show Option.bind (bf    4294967296 v t) _=_;rw[show bf    4294967296 v t=some (decide (aQ   v t=0))from if_pos hv,bS,cQ      ];cases decide (v=t)with
   |true=>rfl
   | false =>
    rw[cF,Bool.false_or];refine(ES t.args (gF v) (λi nx=>z0n.b4 ⟨bf 4294967296,gOc k⟩ _ t.args (t.args.length:Int) v.op v.name v.sort v.args i nx _ _) (some (AT.one (.b true),[])) (some (AT.one (.b false),[])) (λnx=> ?_) (λi x nx hi=> ?_) _ 0 (by omega) (by omega)).trans ?_
    ·unfold z0n.b4;rw[aq (Nat.lt_irrefl _),cF]
    ·have hil:i<t.args.length:=(gI.1 hi).1;have hx:=ac (mG hi);unfold z0n.b4;rw[aH hil,cT,aD hi,bS,Tm.eta,Tm.eta,aO (by omega)];show Option.bind (gOc k v x) _=_;rw[show gOc k v x=some (gF v x)from if_pos ⟨by omega,hv⟩,bS]
    ·rw[List.drop_zero];cases t.args.any (gF v)<;>rfl
  ·cases h
noncomputable def lO (s:Sg):Bool:=s.ops.all (λo=> !o.assoc&& !decide (0<o.unit))&&bw s
noncomputable def gS (s:Sg):Bool:=s.ops.all (λo=> !o.assoc&&decide (o.unit=0))&&bw s
theorem z3e :EO (z3h.ent λs=>if s.ops.length<4294967296 then some (lO s)else none):=z3h.ok (G:=⟨λs=>some (bw s)⟩) ⟨z3n,trivial⟩ λs r h=>by
 split at h
 ·cases h;refine⟨s.ops.length+1,?_⟩;unfold z3h.main;refine(mg   s.ops (λo=> !o.assoc&& !decide (0<o.unit)) (λi nx=>z3h.b2 ⟨λs=>some (bw   s)⟩ _ s.sorts.names s.sorts.subs s.ops i nx _ _) (some (AT.one (.b false),[])) (some (AT.one (.b (bw   s)),[])) (λnx=> ?_) (λi o nx hi=> ?_) _ 0 (by omega) (by omega)).trans ?_
  ·unfold z3h.b2;rw[aq (Nat.lt_irrefl _),cF,bS]
  ·have hil:i<s.ops.length:=(gI.1 hi).1;unfold z3h.b2;rw[aH hil,cT,aD hi,bS,bS,aO (by omega)];cases o.assoc<;>cases decide (0<o.unit)<;>rfl
  ·rw[List.drop_zero];unfold lO;cases s.ops.all (λo=> !o.assoc&& !decide (0<o.unit))<;>rfl
 ·cases h
theorem z0e :EO (z0f.ent λs=>if s.ops.length<4294967296 then some (gS s)else none):=z0f.ok (G:=⟨λs=>some (bw s)⟩) ⟨z0j,trivial⟩ λs r h=>by
 split at h
 ·cases h;refine⟨s.ops.length+1,?_⟩;unfold z0f.main;refine(mg   s.ops (λo=> !o.assoc&&decide (o.unit=0)) (λi nx=>z0f.b2 ⟨λs=>some (bw   s)⟩ _ s.ops (s.ops.length:Int) s.sorts.names s.sorts.subs s.ops i nx _ _) (some (AT.one (.b false),[])) (some (AT.one (.b (bw   s)),[])) (λnx=> ?_) (λi o nx hi=> ?_) _ 0 (by omega) (by omega)).trans ?_
  ·unfold z0f.b2;rw[aq (Nat.lt_irrefl _),cF,bS]
  ·have hil:i<s.ops.length:=(gI.1 hi).1;unfold z0f.b2;rw[aH hil,cT,aD hi,bS,aO (by omega)];cases o.assoc<;>cases decide (o.unit=0)<;>rfl
  ·rw[List.drop_zero];unfold gS;cases s.ops.all (λo=> !o.assoc&&decide (o.unit=0))<;>rfl
 ·cases h
open Classical
noncomputable def gWo:List Tm->Int->Option (List Tm):=λl i=>if 0<=i/\i<l.length/\l.length<1073741824 then some (l.take i.toNat++l.drop (i.toNat+1))else none
theorem tO :EO (z3x.ent gWo):=z3x.ok (G:=⟨()⟩) trivial λl i r h=>by
 unfold gWo at h;split at h
 ·rename_i hs;obtain⟨h0,h1,h2⟩:=hs;obtain⟨n,rfl⟩:=Int.eq_ofNat_of_zero_le h0;have h1:n<List.length (α:=Tm) l:=by
   have h1:((n:Nat):Int)<(List.length (α:=Tm) l:Int):=h1;omega
  have h2:List.length (α:=Tm) l<1073741824:=h2;cases h;refine⟨1,?_⟩;unfold z3x.main;rw[nn (by omega) (by omega) (by omega),bS,cj (by simp;omega),bS,aO (by omega),nn (by omega) (by omega) (by omega),bS,cj (by simp;omega),bS];simp
 ·cases h
theorem vQ (l:List Tm) (t:Tm):(erT l t).length<=l.length:=by
 induction l with
 |nil=>exact Nat.le_refl _
 | cons x xs ih =>
  unfold erT;split<;>simp only[List.length_cons]<;>omega
noncomputable def iG:List Tm->List Tm->Option (List Tm):=λa b=>if (∀x∈a,x.total<4294967296)/\a.length<1073741824/\b.length<1073741824 then some (aP a b)else none
noncomputable abbrev GRe:z49.Gs:=⟨bf 4294967296,gWo⟩
theorem yW (x:Tm) (xs:List Tm) (t:Tm):erT (x::xs) t=if x=t then xs else x::erT xs t:=rfl
theorem FK {R:Type} (n:Nat) (b:List Tm) (i:Nat) (t:Tm) (hi:b[i]? =some t) (h:List Tm) (hh:∀x∈h,x.total<4294967296) (hl:h.length<1073741824) (k0:List Tm->Option R):∀m (k:Nat),k<=h.length->h.length-k<m->
  z49.l6 GRe n m b (i:Int) h (k:Int) k0=k0 (h.take k++erT (h.drop k) t):=λm k h1 h2=>
 jf h.length (λk nx=>z49.b6 GRe n b (i:Int) h k nx k0) (λk=>k0 (h.take k++erT (h.drop k) t)) (λnx=>by
  unfold z49.b6;rw[aq (Nat.lt_irrefl _),cF,zp,aK];show _=k0 (h++[]);rw[List.append_nil]) (λk nx hk e=>by
  obtain⟨x,x1,x2⟩:=aV hk;unfold z49.b6;rw[aH hk,cT,aD x1,bS,aD hi,bS,Tm.eta,Tm.eta,aO (by omega),e,aE x1];show Option.bind (bf 4294967296 x t) _=_;rw[show bf 4294967296 x t=some (decide (aQ x t=0))from if_pos (hh x x2),bS,cQ,yW];by_cases c:x=t
  ·rw[dT c,cT,if_pos c];show Option.bind (gWo h (k:Int)) _=_;rw[show gWo h (k:Int)=some (h.take (k:Int).toNat++h.drop ((k:Int).toNat+1))from if_pos ⟨by omega,by omega,hl⟩,bS,Int.toNat_natCast]
  ·rw[dF c,cF,if_neg c,List.take_succ_eq_append_getElem hk,List.append_assoc];have:=(gI.1 x1).2;rw[this];rfl) m k h1 h2
theorem ut :EO (z49.ent iG):=z49.ok (G:=GRe) ⟨dm _ (Nat.le_refl _),tO,trivial⟩ λa b r h=>by
 unfold iG at h;split at h
 ·rename_i hs;obtain⟨ha,hal,hbl⟩:=hs;have hal:List.length (α:=Tm) a<1073741824:=hal;have hbl:List.length (α:=Tm) b<1073741824:=hbl;cases h;refine⟨List.length (α:=Tm) a+List.length (α:=Tm) b+1,?_⟩;unfold z49.main;rw[show lim ([]++a)=some a from cj     (by simp;omega),bS];refine(vX    (List.length (α:=Tm) b) (λi h nx=>z49.b3 GRe _ b i h nx _) (λ_ h=>(∀x∈h,x.total<4294967296)/\List.length (α:=Tm) h<=List.length (α:=Tm) a) (λi h=>some (AT.one (.l (.n 1) ((List.drop (α:=Tm) i b).foldl erT h)),[])) (λh nx _=> ?_) (λi h nx hi hq e=> ?_) _ 0 a ⟨ha,Nat.le_refl _⟩ (by omega) (by omega)).trans ?_
  ·unfold z49.b3;rw[aq (Nat.lt_irrefl _),cF,aK];rfl
  ·obtain⟨t,t1,_⟩:=aV hi;unfold z49.b3;rw[aH hi,cT,aO (by omega)];refine(FK _ b i t t1 h hq.1 (by omega) _ _ 0 (by omega) (by omega)).trans ?_;rw[List.take_zero,List.nil_append,List.drop_zero,aE t1];exact e _ ⟨λx hx=>hq.1 x (wE hx),Nat.le_trans (vQ _ _) hq.2⟩
  ·rw[List.drop_zero];rfl
 ·cases h
structure Ctx (s:Sg) (rank:List Int):Prop where
 sig:bw s=true
 free:∀o∈s.ops,o.assoc=false
 rank:rank.length=s.ops.length
noncomputable def gGr (k:Nat):Sg->List Int->Tm->Tm->Option Bool:=λs rank a b=>if Ctx s rank/\Good s a/\Good s b/\a.total+b.total<k then some (grF s.ops rank a b)else none
noncomputable def ze (k:Nat):Sg->List Int->List Tm->List Tm->Option Bool:=λs rank a b=>if Ctx s rank/\(∀x∈a,Good s x/\x.total<4294967296)/\(∀y∈b,Good s y)/\a.length=b.length/\a.length<4294967296/\(∀x∈a,∀y∈b,x.total+y.total<k)then some (gQ (grF s.ops rank) a b)else none
noncomputable def gBg (k:Nat):Sg->List Int->List Tm->List Tm->Option Bool:=λs rank a b=>if Ctx s rank/\(∀x∈a,Good s x/\x.total<4294967296)/\(∀y∈b,Good s y/\y.total<4294967296)/\a.length<1073741824/\b.length<1073741824/\(∀x∈a,∀y∈b,x.total+y.total<k)then some (dc (grF s.ops rank) a b)else none
theorem sr (k:Nat) (e:EO (z47.ent (gGr k))):EO (z48.ent (ze k)):=z48.ok (G:=⟨bf 4294967296,gGr k⟩) ⟨dm _ (Nat.le_refl _),e,trivial⟩ λs rank a b r h=>by
 unfold ze at h;split at h
 ·rename_i hs;obtain⟨hc,ha,hb,hl,hl2,ht⟩:=hs;have hl:List.length (α:=Tm) a=List.length (α:=Tm) b:=hl;have hl2:List.length (α:=Tm) a<4294967296:=hl2;cases h;refine⟨List.length (α:=Tm) a+1,?_⟩;unfold z48.main;refine(jf     (List.length (α:=Tm) a) (λi nx=>z48.b2 ⟨bf    4294967296,gGr k⟩ _ rank a b s.sorts.names s.sorts.subs s.ops i nx _ _) (λi=>some (AT.one (.b (gQ   (grF s.ops rank) (List.drop (α:=Tm) i a) (List.drop (α:=Tm) i b))),[])) (λnx=> ?_) (λi nx hi q=> ?_) _ 0 (by omega) (by omega)).trans ?_
  ·unfold z48.b2;rw[aq (Nat.lt_irrefl _),cF,aK];rfl
  ·obtain⟨x,x1,x2⟩:=aV     hi;obtain⟨y,y1,y2⟩:=aV     (xs:=b) (show i<List.length (α:=Tm) b by omega);unfold z48.b2;rw[aH     hi,cT,aD     x1,bS,aD     y1,bS,Tm.eta,Tm.eta,aO     (by omega),q,aE       x1,aE       y1];show Option.bind (bf    4294967296 x y) _=_;rw[show bf    4294967296 x y=some (decide (aQ   x y=0))from if_pos (ha x x2).2,bS,cQ      ]
   conv=>rhs;unfold gQ
   by_cases c:x=y
   ·rw[dT c,Bool.not_true,cF,if_pos c]
   ·rw[dF c,Bool.not_false,cT,if_neg c,bS,bS,Tm.eta,Tm.eta];show Option.bind (gGr k s rank x y) _=_;rw[show gGr k s rank x y=some (grF s.ops rank x y)from if_pos ⟨hc,(ha x x2).1,hb y y2,ht x x2 y y2⟩];rfl
  ·rw[List.drop_zero,List.drop_zero]
 ·cases h
theorem tD (k:Nat) (e:EO (z47.ent (gGr k))):EO (z44.ent (gBg k)):=z44.ok (G:=⟨iG,gGr k⟩) ⟨ut,e,trivial⟩ λs rank a b r h=>by
 unfold gBg at h;split at h
 ·rename_i hs;obtain⟨hc,ha,hb,hl,hl2,ht⟩:=hs;have hl:List.length (α:=Tm) a<1073741824:=hl;have hl2:List.length (α:=Tm) b<1073741824:=hl2;cases h;have lenr:∀(b a:List Tm),(aP    a b).length<=a.length:=λb=>by
   induction b with
   |nil=>exact λa=>Nat.le_refl _
   |cons t b ih=>exact λa=>Nat.le_trans (ih (erT a t)) (vQ a t)
  have l1:=lenr b a;have l2:=lenr a b;refine⟨List.length (α:=Tm) a+List.length (α:=Tm) b+1,?_⟩;unfold z44.main dc;show Option.bind (iG a b) _=_;rw[show iG a b=some (aP a b)from if_pos ⟨λx hx=>(ha x hx).2,hl,hl2⟩,bS];show Option.bind (iG b a) _=_;rw[show iG b a=some (aP b a)from if_pos ⟨λx hx=>(hb x hx).2,hl2,hl⟩,bS];refine(mg (aP b a) (λu=>(aP a b).any λt=>grF s.ops rank t u) (λi nx=>z44.b4 ⟨iG,gGr k⟩ _ rank (aP a b) (aP b a) s.sorts.names s.sorts.subs s.ops i nx _ _) (some (AT.one (.b false),[])) (some (AT.one (.b (decide (0<((aP a b).length:Int)))),[])) (λnx=> ?_) (λi u nx hi=> ?_) _ 0 (by omega) (by have:(aP b a).length<=List.length (α:=Tm) b:=l2;omega)).trans ?_
  ·unfold z44.b4;rw[aq (Nat.lt_irrefl _),cF]
  ·have hil:i<(aP    b a).length:=(gI.1 hi).1;have hu:=cK        (mG hi);have hilb:i<List.length (α:=Tm) b:=Nat.lt_of_lt_of_le hil l2;unfold z44.b4;rw[aH     hil,cT,aO     (by omega)];have key:∀m (j:Nat) (less:Bool) (k0:Bool->Option (AT×List Ob)),j<=(aP    a b).length->(aP    a b).length-j<m->z44.l8 ⟨iG   ,gGr k⟩ (List.length (α:=Tm) a+List.length (α:=Tm) b+1) m rank (aP    a b) (aP    b a) (i:Int) s.sorts.names s.sorts.subs s.ops less (j:Int) k0=k0 (less||((aP    a b).drop j).any λt=>grF s.ops rank t u):=by
    intro m j less k0 h1 h2;refine uI (aP a b).length (λless j nx=>z44.b8 ⟨iG,gGr k⟩ _ rank (aP a b) (aP b a) (i:Int) s.sorts.names s.sorts.subs s.ops less j nx k0) (λ_ _=>True) (λj less=>k0 (less||((aP a b).drop j).any λt=>grF s.ops rank t u)) (λless nx _=> ?_) (λj less nx hj _ q=> ?_) m j less trivial h1 h2
    ·unfold z44.b8;rw[aq (Nat.lt_irrefl _),cF,aK,List.any_nil,Bool.or_false]
    ·obtain⟨t,t1,t2⟩:=aV     hj;have hta:=cK        t2;have hja:j<List.length (α:=Tm) a:=Nat.lt_of_lt_of_le hj l1;unfold z44.b8;rw[aH     hj,cT,aO     (by omega),aE       t1,List.any_cons];cases less with
     |true=>rw[cT,q _ trivial];simp
     | false =>
      rw[cF,aD t1,bS,aD hi,bS,Tm.eta,Tm.eta];show Option.bind (gGr k s rank t u) _=_;rw[show gGr k s rank t u=some (grF s.ops rank t u)from if_pos ⟨hc,(ha t hta).1,(hb u hu).1,ht t hta u hu⟩,bS,q _ trivial,Bool.false_or]
   refine(key _ 0 false _ (by omega) (by have:(aP a b).length<=List.length (α:=Tm) a:=l1;omega)).trans ?_;rw[List.drop_zero,Bool.false_or];cases (aP a b).any λt=>grF s.ops rank t u<;>rfl
  ·rw[List.drop_zero];have e2:decide (0<((aP a b).length:Int))=decide (0<(aP a b).length):=decide_eq_decide.2 (by omega);rw[e2];cases (aP b a).all λu=>(aP a b).any λt=>grF s.ops rank t u<;>rfl
 ·cases h
open Classical
theorem eS {s:Sg} {t:Tm} (hg:Good s t) (h:t.op≠ -1):∃o,ix s.ops t.op=some o/\(if o.assoc=true then 2<=t.args.length else t.args.length=(first o).args.length):=by
 cases hg with
 |var=>exact absurd rfl h
 |app ho hn _=>exact⟨_,ho,hn⟩
theorem jp {s:Sg} {t:Tm} (hg:Good s t):t.op<0↔t.op= -1:=by
 cases hg with
 |var=>exact⟨λ_=>rfl,λ_=>by show (-1:Int)<0;omega⟩
 | @app op o args ho hn _=>
  obtain⟨_,i0,_⟩:=bG ho;exact⟨λh=>absurd h (by show ¬op<0;omega),λh=>by have h:op= -1:=h;omega⟩
noncomputable abbrev GGr (k:Nat):z47.Gs:={z4j:=bf 4294967296,z3q:=gOc 4294967296,z47:=gGr k,z44:=gBg k,z48:=ze k}
section
variable {R : Type} {s : Sg} {rank : List Int} (hc : Ctx s rank) {a b : Tm} (ga : Good s a) (gb : Good s b) (k : Nat) (hk : k ≤ 1000000000) (ht : a.total + b.total < k + 1)
include hc ga gb hk ht
theorem EU (na:a.op≠ -1) (nb:b.op≠ -1) (n:Nat) (hn:b.args.length<n) (k0:Bool->Option R):
  z47.c12 (GGr k) n rank s.sorts.names s.sorts.subs s.ops a.op a.name a.sort a.args b.op b.name b.sort b.args k0=k0 (b.args.all (grF s.ops rank a)&&(if a.op≠b.op then true else if jK s.ops a.op=true then dc (grF s.ops rank) a.args b.args else gQ (grF s.ops rank) a.args b.args)):=by
 have hla:=bm a.args;have hta:=az a;have hlb:=bm b.args;have htb:=az b;unfold z47.c12;refine(mg b.args (grF s.ops rank a) (λi nx=>z47.b13 (GGr k) n rank s.sorts.names s.sorts.subs s.ops a.op a.name a.sort a.args b.op b.name b.sort b.args i nx (λt8=>k0 t8) _) (k0 false) (k0 (if a.op≠b.op then true else if jK s.ops a.op=true then dc (grF s.ops rank) a.args b.args else gQ (grF s.ops rank) a.args b.args)) (λnx=> ?_) (λi y nx hi=> ?_) n 0 (by omega) (by omega)).trans ?_
 ·unfold z47.b13;rw[aq      (Nat.lt_irrefl _),cF];by_cases e:a.op=b.op
  ·rw[dT e,Bool.not_true,cF,if_neg (by simp[e])];obtain⟨o,ho,har⟩:=eS      ga na;obtain⟨o',ho',har'⟩:=eS      gb nb;rw[<-e,ho]at ho';cases ho';have hf:=hc.free o (bG     ho).1;rw[hf,if_neg (by decide)]at har har';rw[ho,bS];have ec:jK    s.ops a.op=o.comm:=by unfold jK;rw[ho   ]
   rw[ec];have hx:∀x∈a.args,Good s x/\x.total<4294967296:=λx hx=>⟨ga.args x hx,by have:=ac hx;omega⟩;have hy:∀y∈b.args,Good s y/\y.total<4294967296:=λy hy=>⟨gb.args y hy,by have:=ac hy;omega⟩;have hxy:∀x∈a.args,∀y∈b.args,x.total+y.total<k:=λx hx y hy=>by have:=ac hx;have:=ac hy;omega
   cases o.comm with
   | true =>
    rw[cT,if_pos rfl];show Option.bind (gBg k s rank a.args b.args) _=_;rw[show gBg k s rank a.args b.args=some (dc (grF s.ops rank) a.args b.args)from if_pos ⟨hc,hx,hy,by omega,by omega,hxy⟩,bS]
   | false =>
    rw[cF,if_neg (by decide)];show Option.bind (ze k s rank a.args b.args) _=_;rw[show ze k s rank a.args b.args=some (gQ (grF s.ops rank) a.args b.args)from if_pos ⟨hc,hx,λy h=>(hy y h).1,by omega,by omega,hxy⟩,bS]
  ·rw[dF e,Bool.not_false,cT,if_pos e]
 ·have hil:i<b.args.length:=(gI.1 hi).1;have hm:=mG hi;have hyt:=ac hm;unfold z47.b13;rw[aH hil,cT,aD hi,bS,Tm.eta,Tm.eta,aO (by omega)];show Option.bind (gGr k s rank a y) _=_;rw[show gGr k s rank a y=some (grF s.ops rank a y)from if_pos ⟨hc,ga,gb.args y hm,by omega⟩,bS];cases grF s.ops rank a y<;>rfl
 ·rw[List.drop_zero];cases b.args.all (grF s.ops rank a)<;>rfl
theorem BY (K:Bool->Option R):z47.main (GGr k) (a.args.length+b.args.length+1) s rank a b K=K (grF s.ops rank a b):=by
 have hla:=bm a.args;have hta:=az a;unfold z47.main;rw[uk];by_cases ha:a.op= -1
 ·rw[dT ha,cT,if_pos (.inl ((jp ga).2 ha))]
 rw[dF ha,cF,Tm.eta,Tm.eta];show Option.bind (bf 4294967296 a b) _=_;rw[show bf 4294967296 a b=some (decide (aQ a b=0))from if_pos (by omega),bS,cQ];by_cases e:a=b
 ·rw[dT e,cT,if_pos (.inr e)]
 rw[dF e,cF,if_neg (by rw[jp ga];simp[ha,e])];by_cases hb:b.op= -1
 ·rw[dT hb,cT,if_pos ((jp gb).2 hb)];show Option.bind (gOc 4294967296 b a) _=_;rw[show gOc 4294967296 b a=some (gF b a)from if_pos ⟨by omega,by omega⟩,bS]
 rw[dF hb,cF,if_neg (by rw[jp gb];exact hb)];obtain⟨o,ho,_⟩:=eS ga ha;obtain⟨o',ho',_⟩:=eS gb hb;obtain⟨_,a0,a1⟩:=bG ho;obtain⟨_,b0,b1⟩:=bG ho';have hr:=hc.rank;have c12:=λk0=>EU (R:=R) hc ga gb k hk ht ha hb (a.args.length+b.args.length+1) (by omega) k0;unfold eY;refine(ES a.args (λt=>decide (t=b)||grF s.ops rank t b) (λi nx=>z47.b6 (GGr k) _ rank s.sorts.names s.sorts.subs s.ops a.op a.name a.sort a.args b.op b.name b.sort b.args i nx (λt8=>K t8) _) (K true) (K (if a.op≠b.op/\ap rank a.op<=ap rank b.op then false else b.args.all (grF s.ops rank a)&&(if a.op≠b.op then true else if jK s.ops a.op=true then dc (grF s.ops rank) a.args b.args else gQ (grF s.ops rank) a.args b.args))) (λnx=> ?_) (λi x nx hi=> ?_) _ 0 (by omega) (by omega)).trans ?_
 ·unfold z47.b6;rw[aq      (Nat.lt_irrefl _),cF,aA      (l:=rank) a0 (by omega),bS,aA      (l:=rank) b0 (by omega),bS];by_cases r1:ap   rank a.op<ap   rank b.op
  ·have ne:a.op≠b.op:=λq=>by rw[q]at r1;omega
   rw[dT r1,cT,if_pos ⟨ne,by omega⟩]
  ·rw[dF r1,cF,bS,bS];by_cases r2:ap   rank a.op=ap   rank b.op
   ·rw[dT r2,cT];by_cases q:a.op=b.op
    ·rw[dT q,Bool.not_true,cF,c12,if_neg (c:=a.op≠b.op/\ap rank a.op<=ap rank b.op) (λz=>z.1 q)]
    ·rw[dF q,Bool.not_false,cT,if_pos ⟨q,by omega⟩]
   ·rw[dF r2,cF,c12,if_neg (c:=a.op≠b.op/\ap rank a.op<=ap rank b.op) (λz=>by have:=z.2;omega)]
 ·have hil:i<a.args.length:=(gI.1 hi).1;have hm:=mG hi;have hxt:=ac        hm;unfold z47.b6;rw[aH     hil,cT,aD     hi,bS,Tm.eta,Tm.eta,aO     (by omega)];show Option.bind (bf    4294967296 x b) _=_;rw[show bf    4294967296 x b=some (decide (aQ   x b=0))from if_pos (by omega),bS,cQ      ];cases decide (x=b)with
  |true=>rfl
  | false =>
   rw[cF,bS,Bool.false_or,Tm.eta];show Option.bind (gGr k s rank x b) _=_;rw[show gGr k s rank x b=some (grF s.ops rank x b)from if_pos ⟨hc,ga.args x hm,gb,by omega⟩,bS]
 ·rw[List.drop_zero];cases a.args.any (λt=>decide (t=b)||grF s.ops rank t b)<;>rfl
end
theorem dz :∀k,k<=1000000000->EO (z47.ent (gGr k))
 | 0, _ => fun R xs H K r h => by
  simp only[z47.ent]at h;split at h
  ·simp[gGr]at h
  ·cases h
 | k + 1, hk => z47.ok          (G := GGr k) ⟨dm _ (Nat.le_refl _), z3r           _ (Nat.le_refl _), dz k (by omega), tD k (dz k (by omega)), sr k (dz k (by omega)), trivial⟩ fun s rank a b r h => by
  unfold gGr at h;split at h
  ·rename_i hs;obtain⟨hc,ga,gb,ht⟩:=hs;cases h;exact⟨a.args.length+b.args.length+1,(BY hc ga gb k (by omega) ht _).trans rfl⟩
  ·cases h
end Go.Proofs.YtkinkfieackmdaaGreatDoor.Den

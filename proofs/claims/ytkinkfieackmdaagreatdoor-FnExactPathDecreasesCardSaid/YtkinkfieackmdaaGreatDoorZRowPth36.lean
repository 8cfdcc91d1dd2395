import Derived.Test.YtkinkfieackmdaaGreatDoorZRowPth11
namespace Go.Proofs.YtkinkfieackmdaaGreatDoor.Den
open Go.RowKit
set_option maxRecDepth 100000
set_option linter.unusedVariables false
namespace z37
structure Gs where
 z38:z38.Q
noncomputable def main {R:Type} (G:Gs) (n:Nat) (a:Tm) (K:Tm->Option R):Option R:=
 (G.z38 a.args).bind λr=>
 K (Tm.mk a.op a.name a.sort r)
noncomputable def ax (G:Gs) (a r:Tm):Prop:=∃n,main (R:=AT×List Ob) G n a (λr0=>some (.agg [.i r0.op,.s r0.name,.i r0.sort,.l (.n 1) r0.args],[]))=some (.agg [.i r.op,.s r.name,.i r.sort,.l (.n 1) r.args],[])
theorem ok {G:Gs} (hG:AE [z38.ent G.z38]) {g:Q} (hg:∀a r,g a=some r->ax G a r):EO (ent g):=λR xs H K r hc=>by
 simp only[ent]at hc;split at hc
 ·exact okL hc λr j=>let⟨_,j⟩:=hg _ _ j;fF hG ⟨18,0,[],[],[2],[],[]⟩ nP Tryz.func64 j
 ·cases hc
end z37
namespace z38
structure Gs where
 z37:z37.Q
noncomputable def ae (G:Gs):List Ent:=[z37.ent G.z37]
noncomputable def b3 {R:Type} (G:Gs) (n:Nat) (a:LT) (i:Int) (h0:LT) (nx:LT->Int->LT->Option R) (k0:LT->Option R):Option R:=
 bif decide (i<(List.length a:Int))then
  (
  (ix a i).bind λe=>
  (G.z37 (Tm.mk e.op e.name e.sort e.args)).bind λr=>
  (ix h0 i).bind λe2=>
  nx a (wr (i+1)) (List.set h0 (Int.toNat i) (Tm.mk r.op r.name r.sort r.args))
  )
 else
  k0 h0
noncomputable def l3 {R:Type} (G:Gs) (n m:Nat) (a:LT) (i:Int) (h0:LT) (k0:LT->Option R):Option R:=au (λ(v:LT×Int×LT) nx=>b3 G n v.1 v.2.1 v.2.2 (λy0 y1 y2=>nx (y0,y1,y2)) k0) m (a,i,h0)
noncomputable def main {R:Type} (G:Gs) (n:Nat) (a:LT) (K:LT->Option R):Option R:=
 (mk (α:=Tm) (Tm.mk 0 ByteArray.empty 0 []) (List.length a:Int)).bind λxs=>
 l3 G n n a 0 xs
  (λh0=>K h0)
noncomputable def dl3 (G:Gs) (n m:Nat) (R:Type) (st:St) (K:Kt R):Option R:=match st with
 |⟨[(0,.one (.l (.n 1) a)),(3,.one (.o 0)),(4,.one (.i i))],[.row (.n 1) 0 h0]⟩=>l3 G n m a i h0 (λh0=>K (.exit 0) ⟨[(3,.one (.o 0))],[.row (.n 1) 0 h0]⟩)
 |_=>none
noncomputable def pc (G:Gs) (n:Nat):Pcs:=⟨λR id st K=>bif Nat.beq id 3 then dl3 G n n R st K else none,nK,nK⟩
noncomputable def an:Ann:=⟨23,0,[(3,[0,3,4])],[],[2],[],[]⟩
noncomputable abbrev bd:=ai Tryz.f102
noncomputable abbrev q3:=am [1,1,0,1,0,0] bd
theorem pl3 {G:Gs} (hG:AE (ae G)) (n:Nat):∀m,PO an (.loop q3) (dl3 G n m):=lpc hG (pc G n) [0,3,4] ⟨[3],[2],[(0,[3])]⟩ (apl [] trivial) (λR st K=>by unfold dl3;split<;>rfl) λm R st K r h=>by unfold dl3 at h;split at h;exact .trans (by kernel_rfl) h;cases h
noncomputable def ax (G:Gs) (a r:LT):Prop:=∃n,main (R:=AT×List Ob) G n a (λr0=>some (.one (.l (.n 1) r0),[]))=some (.one (.l (.n 1) r),[])
theorem ok {G:Gs} (hG:AE (ae G)) {g:Q} (hg:∀a r,g a=some r->ax G a r):EO (ent g):=λR xs H K r hc=>by
 simp only[ent]at hc;split at hc
 ·exact okL hc λr j=>let⟨n,j⟩:=hg _ _ j;fF hG an (pc G n) Tryz.func102 j (apl [(1,3,.loop q3)] ⟨pl3 hG n n,trivial⟩)
 ·cases hc
end z38
namespace z2q
structure Gs where
 z2r:z2r.Q
noncomputable def main {R:Type} (G:Gs) (n:Nat) (a:Tm) (left:Int) (K:Int->Option R):Option R:=
 bif decide ((wr (left-(ByteArray.size a.name:Int)))<0)then
  (K (-1))
 else
  (G.z2r a.args (wr (left-(ByteArray.size a.name:Int)))).bind λr=>
  bif decide (r<0)then
   (K (-1))
  else
   K r
noncomputable def ax (G:Gs) (a:Tm) (left r:Int):Prop:=∃n,main (R:=AT×List Ob) G n a left (λr0=>some (.one (.i r0),[]))=some (.one (.i r),[])
theorem ok {G:Gs} (hG:AE [z2r.ent G.z2r]) {g:Q} (hg:∀a left r,g a left=some r->ax G a left r):EO (ent g):=λR xs H K r hc=>by
 simp only[ent]at hc;split at hc
 ·exact okL hc λr j=>let⟨_,j⟩:=hg _ _ _ j;fF hG ⟨19,0,[],[],[4],[],[]⟩ nP Tryz.func50 j
 ·cases hc
end z2q
namespace z2r
structure Gs where
 z2q:z2q.Q
noncomputable def ae (G:Gs):List Ent:=[z2q.ent G.z2q]
noncomputable def b5 {R:Type} (G:Gs) (n:Nat) (a:LT) (left i:Int) (nx:LT->Int->Int->Option R) (k0 k1:Int->Option R):Option R:=
 bif decide (i<(List.length a:Int))then
  (
  (ix a i).bind λe=>
  (G.z2q (Tm.mk e.op e.name e.sort e.args) left).bind λr=>
  bif decide (r<0)then
   (k0 (-1))
  else
   nx a r (wr (i+1))
  )
 else
  k1 left
noncomputable def l5 {R:Type} (G:Gs) (n m:Nat) (a:LT) (left i:Int) (k0 k1:Int->Option R):Option R:=au (λ(v:LT×Int×Int) nx=>b5 G n v.1 v.2.1 v.2.2 (λy0 y1 y2=>nx (y0,y1,y2)) k0 k1) m (a,left,i)
noncomputable def main {R:Type} (G:Gs) (n:Nat) (a:LT) (left:Int) (K:Int->Option R):Option R:=
 bif decide ((wr (left-(List.length a:Int)))<0)then
  (K (-1))
 else
  l5 G n n a (wr (left-(List.length a:Int))) 0
   (λt4=>K t4)
   (λleft2=>K left2)
noncomputable def dl5 (G:Gs) (n m:Nat) (R:Type) (st:St) (K:Kt R):Option R:=match st with
 |⟨[(0,.one (.l (.n 1) a)),(1,.one (.i left)),(5,.one (.i i))],[]⟩=>l5 G n m a left i (λt4=>K .ret ⟨[(4,.one (.i t4))],[]⟩) (λleft=>K (.exit 0) ⟨[(1,.one (.i left))],[]⟩)
 |_=>none
noncomputable def pc (G:Gs) (n:Nat):Pcs:=⟨λR id st K=>bif Nat.beq id 5 then dl5 G n n R st K else none,nK,nK⟩
noncomputable def an:Ann:=⟨27,0,[(5,[0,1,5])],[],[4],[],[]⟩
noncomputable abbrev bd:=ai Tryz.f87
noncomputable abbrev q5:=am [1,1,1,0,1,0,0] bd
theorem pl5 {G:Gs} (hG:AE (ae G)) (n:Nat):∀m,PO an (.loop q5) (dl5 G n m):=lpc hG (pc G n) [0,1,5] ⟨[1],[4],[(0,[1])]⟩ (apl [] trivial) (λR st K=>by unfold dl5;split<;>rfl) λm R st K r h=>by unfold dl5 at h;split at h;exact .trans (by kernel_rfl) h;cases h
noncomputable def ax (G:Gs) (a:LT) (left r:Int):Prop:=∃n,main (R:=AT×List Ob) G n a left (λr0=>some (.one (.i r0),[]))=some (.one (.i r),[])
theorem ok {G:Gs} (hG:AE (ae G)) {g:Q} (hg:∀a left r,g a left=some r->ax G a left r):EO (ent g):=λR xs H K r hc=>by
 simp only[ent]at hc;split at hc
 ·exact okL hc λr j=>let⟨n,j⟩:=hg _ _ _ j;fF hG an (pc G n) Tryz.func87 j (apl [(1,5,.loop q5)] ⟨pl5 hG n n,trivial⟩)
 ·cases hc
end z2r
namespace z2c
structure Gs where
 z2q:z2q.Q
noncomputable def main {R:Type} (G:Gs) (n:Nat) (a:Cnd) (left:Int) (K:Int->Option R):Option R:=
 (G.z2q (Tm.mk a.left.op a.left.name a.left.sort a.left.args) left).bind λr=>
 bif decide (r<0)then
  (K (-1))
 else
  (G.z2q (Tm.mk a.right.op a.right.name a.right.sort a.right.args) r).bind λr2=>
  bif decide (r2<0)then
   (K (-1))
  else
   K r2
noncomputable def ax (G:Gs) (a:Cnd) (left r:Int):Prop:=∃n,main (R:=AT×List Ob) G n a left (λr0=>some (.one (.i r0),[]))=some (.one (.i r),[])
theorem ok {G:Gs} (hG:AE [z2q.ent G.z2q]) {g:Q} (hg:∀a left r,g a left=some r->ax G a left r):EO (ent g):=λR xs H K r hc=>by
 simp only[ent]at hc;split at hc
 ·exact okL hc λr j=>let⟨_,j⟩:=hg _ _ _ j;fF hG ⟨18,0,[],[],[4],[],[]⟩ nP Tryz.func88 j
 ·cases hc
end z2c
namespace z2d
structure Gs where
 z2c:z2c.Q
noncomputable def ae (G:Gs):List Ent:=[z2c.ent G.z2c]
noncomputable def b5 {R:Type} (G:Gs) (n:Nat) (a:LK) (left i:Int) (nx:LK->Int->Int->Option R) (k0 k1:Int->Option R):Option R:=
 bif decide (i<(List.length a:Int))then
  (
  (ix a i).bind λe=>
  (G.z2c (Cnd.mk (Tm.mk e.left.op e.left.name e.left.sort e.left.args) (Tm.mk e.right.op e.right.name e.right.sort e.right.args)) left).bind λr=>
  bif decide (r<0)then
   (k0 (-1))
  else
   nx a r (wr (i+1))
  )
 else
  k1 left
noncomputable def l5 {R:Type} (G:Gs) (n m:Nat) (a:LK) (left i:Int) (k0 k1:Int->Option R):Option R:=au (λ(v:LK×Int×Int) nx=>b5 G n v.1 v.2.1 v.2.2 (λy0 y1 y2=>nx (y0,y1,y2)) k0 k1) m (a,left,i)
noncomputable def main {R:Type} (G:Gs) (n:Nat) (a:LK) (left:Int) (K:Int->Option R):Option R:=
 bif decide ((wr (left-(List.length a:Int)))<0)then
  (K (-1))
 else
  l5 G n n a (wr (left-(List.length a:Int))) 0
   (λt4=>K t4)
   (λleft2=>K left2)
noncomputable def dl5 (G:Gs) (n m:Nat) (R:Type) (st:St) (K:Kt R):Option R:=match st with
 |⟨[(0,.one (.l (.n 13) a)),(1,.one (.i left)),(5,.one (.i i))],[]⟩=>l5 G n m a left i (λt4=>K .ret ⟨[(4,.one (.i t4))],[]⟩) (λleft=>K (.exit 0) ⟨[(1,.one (.i left))],[]⟩)
 |_=>none
noncomputable def pc (G:Gs) (n:Nat):Pcs:=⟨λR id st K=>bif Nat.beq id 5 then dl5 G n n R st K else none,nK,nK⟩
noncomputable def an:Ann:=⟨27,0,[(5,[0,1,5])],[],[4],[],[]⟩
noncomputable abbrev bd:=ai Tryz.f51
noncomputable abbrev q5:=am [1,1,1,0,1,0,0] bd
theorem pl5 {G:Gs} (hG:AE (ae G)) (n:Nat):∀m,PO an (.loop q5) (dl5 G n m):=lpc hG (pc G n) [0,1,5] ⟨[1],[4],[(0,[1])]⟩ (apl [] trivial) (λR st K=>by unfold dl5;split<;>rfl) λm R st K r h=>by unfold dl5 at h;split at h;exact .trans (by kernel_rfl) h;cases h
noncomputable def ax (G:Gs) (a:LK) (left r:Int):Prop:=∃n,main (R:=AT×List Ob) G n a left (λr0=>some (.one (.i r0),[]))=some (.one (.i r),[])
theorem ok {G:Gs} (hG:AE (ae G)) {g:Q} (hg:∀a left r,g a left=some r->ax G a left r):EO (ent g):=λR xs H K r hc=>by
 simp only[ent]at hc;split at hc
 ·exact okL hc λr j=>let⟨n,j⟩:=hg _ _ _ j;fF hG an (pc G n) Tryz.func51 j (apl [(1,5,.loop q5)] ⟨pl5 hG n n,trivial⟩)
 ·cases hc
end z2d
namespace z2g
structure Gs where
 z2q:z2q.Q
 z2d:z2d.Q
noncomputable def main {R:Type} (G:Gs) (n:Nat) (a:Eqn) (left:Int) (K:Int->Option R):Option R:=
 (G.z2q (Tm.mk a.left.op a.left.name a.left.sort a.left.args) left).bind λr=>
 bif decide (r<0)then
  (K (-1))
 else
  (G.z2q (Tm.mk a.right.op a.right.name a.right.sort a.right.args) r).bind λr2=>
  bif decide (r2<0)then
   (K (-1))
  else
   (G.z2d a.conds r2).bind λr3=>
   bif decide (r3<0)then
    (K (-1))
   else
    K r3
noncomputable def ax (G:Gs) (a:Eqn) (left r:Int):Prop:=∃n,main (R:=AT×List Ob) G n a left (λr0=>some (.one (.i r0),[]))=some (.one (.i r),[])
theorem ok {G:Gs} (hG:AE [z2q.ent G.z2q,z2d.ent G.z2d]) {g:Q} (hg:∀a left r,g a left=some r->ax G a left r):EO (ent g):=λR xs H K r hc=>by
 simp only[ent]at hc;split at hc
 ·exact okL hc λr j=>let⟨_,j⟩:=hg _ _ _ j;fF hG ⟨24,0,[],[],[4],[],[]⟩ nP Tryz.func27 j
 ·cases hc
end z2g
namespace z2h
structure Gs where
 z2g:z2g.Q
noncomputable def ae (G:Gs):List Ent:=[z2g.ent G.z2g]
noncomputable def b5 {R:Type} (G:Gs) (n:Nat) (a:LQ) (left i:Int) (nx:LQ->Int->Int->Option R) (k0 k1:Int->Option R):Option R:=
 bif decide (i<(List.length a:Int))then
  (
  (ix a i).bind λe=>
  (G.z2g (Eqn.mk (Tm.mk e.left.op e.left.name e.left.sort e.left.args) (Tm.mk e.right.op e.right.name e.right.sort e.right.args) e.conds) left).bind λr=>
  bif decide (r<0)then
   (k0 (-1))
  else
   nx a r (wr (i+1))
  )
 else
  k1 left
noncomputable def l5 {R:Type} (G:Gs) (n m:Nat) (a:LQ) (left i:Int) (k0 k1:Int->Option R):Option R:=au (λ(v:LQ×Int×Int) nx=>b5 G n v.1 v.2.1 v.2.2 (λy0 y1 y2=>nx (y0,y1,y2)) k0 k1) m (a,left,i)
noncomputable def main {R:Type} (G:Gs) (n:Nat) (a:LQ) (left:Int) (K:Int->Option R):Option R:=
 bif decide ((wr (left-(List.length a:Int)))<0)then
  (K (-1))
 else
  l5 G n n a (wr (left-(List.length a:Int))) 0
   (λt4=>K t4)
   (λleft2=>K left2)
noncomputable def dl5 (G:Gs) (n m:Nat) (R:Type) (st:St) (K:Kt R):Option R:=match st with
 |⟨[(0,.one (.l (.n 14) a)),(1,.one (.i left)),(5,.one (.i i))],[]⟩=>l5 G n m a left i (λt4=>K .ret ⟨[(4,.one (.i t4))],[]⟩) (λleft=>K (.exit 0) ⟨[(1,.one (.i left))],[]⟩)
 |_=>none
noncomputable def pc (G:Gs) (n:Nat):Pcs:=⟨λR id st K=>bif Nat.beq id 5 then dl5 G n n R st K else none,nK,nK⟩
noncomputable def an:Ann:=⟨27,0,[(5,[0,1,5])],[],[4],[],[]⟩
noncomputable abbrev bd:=ai Tryz.f12
noncomputable abbrev q5:=am [1,1,1,0,1,0,0] bd
theorem pl5 {G:Gs} (hG:AE (ae G)) (n:Nat):∀m,PO an (.loop q5) (dl5 G n m):=lpc hG (pc G n) [0,1,5] ⟨[1],[4],[(0,[1])]⟩ (apl [] trivial) (λR st K=>by unfold dl5;split<;>rfl) λm R st K r h=>by unfold dl5 at h;split at h;exact .trans (by kernel_rfl) h;cases h
noncomputable def ax (G:Gs) (a:LQ) (left r:Int):Prop:=∃n,main (R:=AT×List Ob) G n a left (λr0=>some (.one (.i r0),[]))=some (.one (.i r),[])
theorem ok {G:Gs} (hG:AE (ae G)) {g:Q} (hg:∀a left r,g a left=some r->ax G a left r):EO (ent g):=λR xs H K r hc=>by
 simp only[ent]at hc;split at hc
 ·exact okL hc λr j=>let⟨n,j⟩:=hg _ _ _ j;fF hG an (pc G n) Tryz.func12 j (apl [(1,5,.loop q5)] ⟨pl5 hG n n,trivial⟩)
 ·cases hc
end z2h
namespace z2j
structure Gs where
 z2m:z2m.Q
 z2h:z2h.Q
noncomputable def main {R:Type} (G:Gs) (n:Nat) (a:Md) (left:Int) (K:Int->Option R):Option R:=
 (G.z2m a.sig left).bind λr=>
 bif decide (r<0)then
  (K (-1))
 else
  (G.z2h a.eqs r).bind λr2=>
  bif decide (r2<0)then
   (K (-1))
  else
   (G.z2h a.rules r2).bind λr3=>
   bif decide (r3<0)then
    (K (-1))
   else
    K r3
noncomputable def ax (G:Gs) (a:Md) (left r:Int):Prop:=∃n,main (R:=AT×List Ob) G n a left (λr0=>some (.one (.i r0),[]))=some (.one (.i r),[])
theorem ok {G:Gs} (hG:AE [z2m.ent G.z2m,z2h.ent G.z2h]) {g:Q} (hg:∀a left r,g a left=some r->ax G a left r):EO (ent g):=λR xs H K r hc=>by
 simp only[ent]at hc;split at hc
 ·exact okL hc λr j=>let⟨_,j⟩:=hg _ _ _ j;fF hG ⟨24,0,[],[],[4],[],[]⟩ nP Tryz.func4 j
 ·cases hc
end z2j
namespace z2s
structure Gs where
 z37:z37.Q
noncomputable def main {R:Type} (G:Gs) (n:Nat) (a:Cnd) (K:Cnd->Option R):Option R:=
 (G.z37 (Tm.mk a.left.op a.left.name a.left.sort a.left.args)).bind λr=>
 (G.z37 (Tm.mk a.right.op a.right.name a.right.sort a.right.args)).bind λr2=>
 K (Cnd.mk (Tm.mk r.op r.name r.sort r.args) (Tm.mk r2.op r2.name r2.sort r2.args))
noncomputable def ax (G:Gs) (a r:Cnd):Prop:=∃n,main (R:=AT×List Ob) G n a (λr0=>some (.agg [.i r0.left.op,.s r0.left.name,.i r0.left.sort,.l (.n 1) r0.left.args,.i r0.right.op,.s r0.right.name,.i r0.right.sort,.l (.n 1) r0.right.args],[]))=some (.agg [.i r.left.op,.s r.left.name,.i r.left.sort,.l (.n 1) r.left.args,.i r.right.op,.s r.right.name,.i r.right.sort,.l (.n 1) r.right.args],[])
theorem ok {G:Gs} (hG:AE [z37.ent G.z37]) {g:Q} (hg:∀a r,g a=some r->ax G a r):EO (ent g):=λR xs H K r hc=>by
 simp only[ent]at hc;split at hc
 ·exact okL hc λr j=>let⟨_,j⟩:=hg _ _ j;fF hG ⟨13,0,[],[],[2],[],[]⟩ nP Tryz.func103 j
 ·cases hc
end z2s
namespace z2t
structure Gs where
 z2s:z2s.Q
noncomputable def ae (G:Gs):List Ent:=[z2s.ent G.z2s]
noncomputable def b3 {R:Type} (G:Gs) (n:Nat) (a:LK) (i:Int) (h0:LK) (nx:LK->Int->LK->Option R) (k0:LK->Option R):Option R:=
 bif decide (i<(List.length a:Int))then
  (
  (ix a i).bind λe=>
  (G.z2s (Cnd.mk (Tm.mk e.left.op e.left.name e.left.sort e.left.args) (Tm.mk e.right.op e.right.name e.right.sort e.right.args))).bind λr=>
  (ix h0 i).bind λe2=>
  nx a (wr (i+1)) (List.set h0 (Int.toNat i) (Cnd.mk (Tm.mk r.left.op r.left.name r.left.sort r.left.args) (Tm.mk r.right.op r.right.name r.right.sort r.right.args)))
  )
 else
  k0 h0
noncomputable def l3 {R:Type} (G:Gs) (n m:Nat) (a:LK) (i:Int) (h0:LK) (k0:LK->Option R):Option R:=au (λ(v:LK×Int×LK) nx=>b3 G n v.1 v.2.1 v.2.2 (λy0 y1 y2=>nx (y0,y1,y2)) k0) m (a,i,h0)
noncomputable def main {R:Type} (G:Gs) (n:Nat) (a:LK) (K:LK->Option R):Option R:=
 (mk (α:=Cnd) (Cnd.mk (Tm.mk 0 ByteArray.empty 0 []) (Tm.mk 0 ByteArray.empty 0 [])) (List.length a:Int)).bind λxs=>
 l3 G n n a 0 xs
  (λh0=>K h0)
noncomputable def dl3 (G:Gs) (n m:Nat) (R:Type) (st:St) (K:Kt R):Option R:=match st with
 |⟨[(0,.one (.l (.n 13) a)),(3,.one (.o 0)),(4,.one (.i i))],[.row (.n 13) 0 h0]⟩=>l3 G n m a i h0 (λh0=>K (.exit 0) ⟨[(3,.one (.o 0))],[.row (.n 13) 0 h0]⟩)
 |_=>none
noncomputable def pc (G:Gs) (n:Nat):Pcs:=⟨λR id st K=>bif Nat.beq id 3 then dl3 G n n R st K else none,nK,nK⟩
noncomputable def an:Ann:=⟨23,0,[(3,[0,3,4])],[],[2],[],[]⟩
noncomputable abbrev bd:=ai Tryz.f65
noncomputable abbrev q3:=am [1,1,0,1,0,0] bd
theorem pl3 {G:Gs} (hG:AE (ae G)) (n:Nat):∀m,PO an (.loop q3) (dl3 G n m):=lpc hG (pc G n) [0,3,4] ⟨[3],[2],[(0,[3])]⟩ (apl [] trivial) (λR st K=>by unfold dl3;split<;>rfl) λm R st K r h=>by unfold dl3 at h;split at h;exact .trans (by kernel_rfl) h;cases h
noncomputable def ax (G:Gs) (a r:LK):Prop:=∃n,main (R:=AT×List Ob) G n a (λr0=>some (.one (.l (.n 13) r0),[]))=some (.one (.l (.n 13) r),[])
theorem ok {G:Gs} (hG:AE (ae G)) {g:Q} (hg:∀a r,g a=some r->ax G a r):EO (ent g):=λR xs H K r hc=>by
 simp only[ent]at hc;split at hc
 ·exact okL hc λr j=>let⟨n,j⟩:=hg _ _ j;fF hG an (pc G n) Tryz.func65 j (apl [(1,3,.loop q3)] ⟨pl3 hG n n,trivial⟩)
 ·cases hc
end z2t
namespace z2w
structure Gs where
 z37:z37.Q
 z2t:z2t.Q
noncomputable def main {R:Type} (G:Gs) (n:Nat) (a:Eqn) (K:Eqn->Option R):Option R:=
 (G.z37 (Tm.mk a.left.op a.left.name a.left.sort a.left.args)).bind λr=>
 (G.z37 (Tm.mk a.right.op a.right.name a.right.sort a.right.args)).bind λr2=>
 (G.z2t a.conds).bind λr3=>
 K (Eqn.mk (Tm.mk r.op r.name r.sort r.args) (Tm.mk r2.op r2.name r2.sort r2.args) r3)
noncomputable def ax (G:Gs) (a r:Eqn):Prop:=∃n,main (R:=AT×List Ob) G n a (λr0=>some (.agg [.i r0.left.op,.s r0.left.name,.i r0.left.sort,.l (.n 1) r0.left.args,.i r0.right.op,.s r0.right.name,.i r0.right.sort,.l (.n 1) r0.right.args,.l (.n 13) r0.conds],[]))=some (.agg [.i r.left.op,.s r.left.name,.i r.left.sort,.l (.n 1) r.left.args,.i r.right.op,.s r.right.name,.i r.right.sort,.l (.n 1) r.right.args,.l (.n 13) r.conds],[])
theorem ok {G:Gs} (hG:AE [z37.ent G.z37,z2t.ent G.z2t]) {g:Q} (hg:∀a r,g a=some r->ax G a r):EO (ent g):=λR xs H K r hc=>by
 simp only[ent]at hc;split at hc
 ·exact okL hc λr j=>let⟨_,j⟩:=hg _ _ j;fF hG ⟨17,0,[],[],[2],[],[]⟩ nP Tryz.func36 j
 ·cases hc
end z2w
namespace z2x
structure Gs where
 z2w:z2w.Q
noncomputable def ae (G:Gs):List Ent:=[z2w.ent G.z2w]
noncomputable def b3 {R:Type} (G:Gs) (n:Nat) (a:LQ) (i:Int) (h0:LQ) (nx:LQ->Int->LQ->Option R) (k0:LQ->Option R):Option R:=
 bif decide (i<(List.length a:Int))then
  (
  (ix a i).bind λe=>
  (G.z2w (Eqn.mk (Tm.mk e.left.op e.left.name e.left.sort e.left.args) (Tm.mk e.right.op e.right.name e.right.sort e.right.args) e.conds)).bind λr=>
  (ix h0 i).bind λe2=>
  nx a (wr (i+1)) (List.set h0 (Int.toNat i) (Eqn.mk (Tm.mk r.left.op r.left.name r.left.sort r.left.args) (Tm.mk r.right.op r.right.name r.right.sort r.right.args) r.conds))
  )
 else
  k0 h0
noncomputable def l3 {R:Type} (G:Gs) (n m:Nat) (a:LQ) (i:Int) (h0:LQ) (k0:LQ->Option R):Option R:=au (λ(v:LQ×Int×LQ) nx=>b3 G n v.1 v.2.1 v.2.2 (λy0 y1 y2=>nx (y0,y1,y2)) k0) m (a,i,h0)
noncomputable def main {R:Type} (G:Gs) (n:Nat) (a:LQ) (K:LQ->Option R):Option R:=
 (mk (α:=Eqn) (Eqn.mk (Tm.mk 0 ByteArray.empty 0 []) (Tm.mk 0 ByteArray.empty 0 []) []) (List.length a:Int)).bind λxs=>
 l3 G n n a 0 xs
  (λh0=>K h0)
noncomputable def dl3 (G:Gs) (n m:Nat) (R:Type) (st:St) (K:Kt R):Option R:=match st with
 |⟨[(0,.one (.l (.n 14) a)),(3,.one (.o 0)),(4,.one (.i i))],[.row (.n 14) 0 h0]⟩=>l3 G n m a i h0 (λh0=>K (.exit 0) ⟨[(3,.one (.o 0))],[.row (.n 14) 0 h0]⟩)
 |_=>none
noncomputable def pc (G:Gs) (n:Nat):Pcs:=⟨λR id st K=>bif Nat.beq id 3 then dl3 G n n R st K else none,nK,nK⟩
noncomputable def an:Ann:=⟨23,0,[(3,[0,3,4])],[],[2],[],[]⟩
noncomputable abbrev bd:=ai Tryz.f17
noncomputable abbrev q3:=am [1,1,0,1,0,0] bd
theorem pl3 {G:Gs} (hG:AE (ae G)) (n:Nat):∀m,PO an (.loop q3) (dl3 G n m):=lpc hG (pc G n) [0,3,4] ⟨[3],[2],[(0,[3])]⟩ (apl [] trivial) (λR st K=>by unfold dl3;split<;>rfl) λm R st K r h=>by unfold dl3 at h;split at h;exact .trans (by kernel_rfl) h;cases h
noncomputable def ax (G:Gs) (a r:LQ):Prop:=∃n,main (R:=AT×List Ob) G n a (λr0=>some (.one (.l (.n 14) r0),[]))=some (.one (.l (.n 14) r),[])
theorem ok {G:Gs} (hG:AE (ae G)) {g:Q} (hg:∀a r,g a=some r->ax G a r):EO (ent g):=λR xs H K r hc=>by
 simp only[ent]at hc;split at hc
 ·exact okL hc λr j=>let⟨n,j⟩:=hg _ _ j;fF hG an (pc G n) Tryz.func17 j (apl [(1,3,.loop q3)] ⟨pl3 hG n n,trivial⟩)
 ·cases hc
end z2x
namespace z2z
structure Gs where
 z32:z32.Q
 z2x:z2x.Q
noncomputable def main {R:Type} (G:Gs) (n:Nat) (a:Md) (K:Md->Option R):Option R:=
 (G.z32 a.sig).bind λr=>
 (G.z2x a.eqs).bind λr2=>
 (G.z2x a.rules).bind λr3=>
 K (Md.mk r r2 r3)
noncomputable def ax (G:Gs) (a r:Md):Prop:=∃n,main (R:=AT×List Ob) G n a (λr0=>some (.agg [.l .s r0.sig.sorts.names,.l (.n 5) r0.sig.sorts.subs,.l (.n 8) r0.sig.ops,.l (.n 14) r0.eqs,.l (.n 14) r0.rules],[]))=some (.agg [.l .s r.sig.sorts.names,.l (.n 5) r.sig.sorts.subs,.l (.n 8) r.sig.ops,.l (.n 14) r.eqs,.l (.n 14) r.rules],[])
theorem ok {G:Gs} (hG:AE [z32.ent G.z32,z2x.ent G.z2x]) {g:Q} (hg:∀a r,g a=some r->ax G a r):EO (ent g):=λR xs H K r hc=>by
 simp only[ent]at hc;split at hc
 ·exact okL hc λr j=>let⟨_,j⟩:=hg _ _ j;fF hG ⟨17,0,[],[],[2],[],[]⟩ nP Tryz.func6 j
 ·cases hc
end z2z
namespace z1r
structure Gs where
 z2a:z2a.Q
noncomputable def main {R:Type} (G:Gs) (n:Nat) (a b:Cnd) (K:Bool->Option R):Option R:=
 (G.z2a (Tm.mk a.left.op a.left.name a.left.sort a.left.args) (Tm.mk b.left.op b.left.name b.left.sort b.left.args)).bind λr=>
 bif !r then
  (K false)
 else
  (G.z2a (Tm.mk a.right.op a.right.name a.right.sort a.right.args) (Tm.mk b.right.op b.right.name b.right.sort b.right.args)).bind λr2=>
  bif !r2 then
   (K false)
  else
   K true
noncomputable def ax (G:Gs) (a b:Cnd) (r:Bool):Prop:=∃n,main (R:=AT×List Ob) G n a b (λr0=>some (.one (.b r0),[]))=some (.one (.b r),[])
theorem ok {G:Gs} (hG:AE [z2a.ent G.z2a]) {g:Q} (hg:∀a b r,g a b=some r->ax G a b r):EO (ent g):=λR xs H K r hc=>by
 simp only[ent]at hc;split at hc
 ·exact okL hc λr j=>let⟨_,j⟩:=hg _ _ _ j;fF hG ⟨17,0,[],[],[4],[],[]⟩ nP Tryz.func124 j
 ·cases hc
end z1r
namespace z1s
structure Gs where
 z1r:z1r.Q
noncomputable def ae (G:Gs):List Ent:=[z1r.ent G.z1r]
noncomputable def b4 {R:Type} (G:Gs) (n:Nat) (a b:LK) (i:Int) (nx:LK->LK->Int->Option R) (k0:Bool->Option R) (k1:Option R):Option R:=
 bif decide (i<(List.length a:Int))then
  (
  (ix a i).bind λe2=>
  (ix b i).bind λe4=>
  (G.z1r (Cnd.mk (Tm.mk e2.left.op e2.left.name e2.left.sort e2.left.args) (Tm.mk e2.right.op e2.right.name e2.right.sort e2.right.args)) (Cnd.mk (Tm.mk e4.left.op e4.left.name e4.left.sort e4.left.args) (Tm.mk e4.right.op e4.right.name e4.right.sort e4.right.args))).bind λr2=>
  bif !r2 then
   (k0 false)
  else
   nx a b (wr (i+1))
  )
 else
  k1
noncomputable def l4 {R:Type} (G:Gs) (n m:Nat) (a b:LK) (i:Int) (k0:Bool->Option R) (k1:Option R):Option R:=au (λ(v:LK×LK×Int) nx=>b4 G n v.1 v.2.1 v.2.2 (λy0 y1 y2=>nx (y0,y1,y2)) k0 k1) m (a,b,i)
noncomputable def main {R:Type} (G:Gs) (n:Nat) (a b:LK) (K:Bool->Option R):Option R:=
 bif !decide ((List.length a:Int)=(List.length b:Int))then
  (K false)
 else
  l4 G n n a b 0
   (λt4=>K t4)
   (K true)
noncomputable def dl4 (G:Gs) (n m:Nat) (R:Type) (st:St) (K:Kt R):Option R:=match st with
 |⟨[(0,.one (.l (.n 13) a)),(1,.one (.l (.n 13) b)),(5,.one (.i i))],[]⟩=>l4 G n m a b i (λt4=>K .ret ⟨[(4,.one (.b t4))],[]⟩) (K (.exit 0) ⟨[],[]⟩)
 |_=>none
noncomputable def pc (G:Gs) (n:Nat):Pcs:=⟨λR id st K=>bif Nat.beq id 4 then dl4 G n n R st K else none,nK,nK⟩
noncomputable def an:Ann:=⟨27,0,[(4,[0,1,5])],[],[4],[(6,⟨[([0,1,2,3,4,5,6,7,8,9],[],[])],[],[],[],[]⟩)],[]⟩
noncomputable abbrev bd:=ai Tryz.f85
noncomputable abbrev q4:=am [1,1,0,1,0,0] bd
theorem pl4 {G:Gs} (hG:AE (ae G)) (n:Nat):∀m,PO an (.loop q4) (dl4 G n m):=lpc hG (pc G n) [0,1,5] ⟨[],[4],[(0,[])]⟩ (apl [] trivial) (λR st K=>by unfold dl4;split<;>rfl) λm R st K r h=>by unfold dl4 at h;split at h;exact .trans (by kernel_rfl) h;cases h
noncomputable def ax (G:Gs) (a b:LK) (r:Bool):Prop:=∃n,main (R:=AT×List Ob) G n a b (λr0=>some (.one (.b r0),[]))=some (.one (.b r),[])
theorem ok {G:Gs} (hG:AE (ae G)) {g:Q} (hg:∀a b r,g a b=some r->ax G a b r):EO (ent g):=λR xs H K r hc=>by
 simp only[ent]at hc;split at hc
 ·exact okL hc λr j=>let⟨n,j⟩:=hg _ _ _ j;fF hG an (pc G n) Tryz.func85 j (apl [(1,4,.loop q4)] ⟨pl4 hG n n,trivial⟩)
 ·cases hc
end z1s
namespace z1v
structure Gs where
 z2a:z2a.Q
 z1s:z1s.Q
noncomputable def main {R:Type} (G:Gs) (n:Nat) (a b:Eqn) (K:Bool->Option R):Option R:=
 (G.z2a (Tm.mk a.left.op a.left.name a.left.sort a.left.args) (Tm.mk b.left.op b.left.name b.left.sort b.left.args)).bind λr=>
 bif !r then
  (K false)
 else
  (G.z2a (Tm.mk a.right.op a.right.name a.right.sort a.right.args) (Tm.mk b.right.op b.right.name b.right.sort b.right.args)).bind λr2=>
  bif !r2 then
   (K false)
  else
   (G.z1s a.conds b.conds).bind λr3=>
   bif !r3 then
    (K false)
   else
    K true
noncomputable def ax (G:Gs) (a b:Eqn) (r:Bool):Prop:=∃n,main (R:=AT×List Ob) G n a b (λr0=>some (.one (.b r0),[]))=some (.one (.b r),[])
theorem ok {G:Gs} (hG:AE [z2a.ent G.z2a,z1s.ent G.z1s]) {g:Q} (hg:∀a b r,g a b=some r->ax G a b r):EO (ent g):=λR xs H K r hc=>by
 simp only[ent]at hc;split at hc
 ·exact okL hc λr j=>let⟨_,j⟩:=hg _ _ _ j;fF hG ⟨23,0,[],[],[4],[],[]⟩ nP Tryz.func46 j
 ·cases hc
end z1v
namespace z1w
structure Gs where
 z1v:z1v.Q
noncomputable def ae (G:Gs):List Ent:=[z1v.ent G.z1v]
noncomputable def b4 {R:Type} (G:Gs) (n:Nat) (a b:LQ) (i:Int) (nx:LQ->LQ->Int->Option R) (k0:Bool->Option R) (k1:Option R):Option R:=
 bif decide (i<(List.length a:Int))then
  (
  (ix a i).bind λe2=>
  (ix b i).bind λe4=>
  (G.z1v (Eqn.mk (Tm.mk e2.left.op e2.left.name e2.left.sort e2.left.args) (Tm.mk e2.right.op e2.right.name e2.right.sort e2.right.args) e2.conds) (Eqn.mk (Tm.mk e4.left.op e4.left.name e4.left.sort e4.left.args) (Tm.mk e4.right.op e4.right.name e4.right.sort e4.right.args) e4.conds)).bind λr2=>
  bif !r2 then
   (k0 false)
  else
   nx a b (wr (i+1))
  )
 else
  k1
noncomputable def l4 {R:Type} (G:Gs) (n m:Nat) (a b:LQ) (i:Int) (k0:Bool->Option R) (k1:Option R):Option R:=au (λ(v:LQ×LQ×Int) nx=>b4 G n v.1 v.2.1 v.2.2 (λy0 y1 y2=>nx (y0,y1,y2)) k0 k1) m (a,b,i)
noncomputable def main {R:Type} (G:Gs) (n:Nat) (a b:LQ) (K:Bool->Option R):Option R:=
 bif !decide ((List.length a:Int)=(List.length b:Int))then
  (K false)
 else
  l4 G n n a b 0
   (λt4=>K t4)
   (K true)
noncomputable def dl4 (G:Gs) (n m:Nat) (R:Type) (st:St) (K:Kt R):Option R:=match st with
 |⟨[(0,.one (.l (.n 14) a)),(1,.one (.l (.n 14) b)),(5,.one (.i i))],[]⟩=>l4 G n m a b i (λt4=>K .ret ⟨[(4,.one (.b t4))],[]⟩) (K (.exit 0) ⟨[],[]⟩)
 |_=>none
noncomputable def pc (G:Gs) (n:Nat):Pcs:=⟨λR id st K=>bif Nat.beq id 4 then dl4 G n n R st K else none,nK,nK⟩
noncomputable def an:Ann:=⟨27,0,[(4,[0,1,5])],[],[4],[(6,⟨[([0,1,2,3,4,5,6,7,8,9],[],[])],[],[],[],[]⟩)],[]⟩
noncomputable abbrev bd:=ai Tryz.f24
noncomputable abbrev q4:=am [1,1,0,1,0,0] bd
theorem pl4 {G:Gs} (hG:AE (ae G)) (n:Nat):∀m,PO an (.loop q4) (dl4 G n m):=lpc hG (pc G n) [0,1,5] ⟨[],[4],[(0,[])]⟩ (apl [] trivial) (λR st K=>by unfold dl4;split<;>rfl) λm R st K r h=>by unfold dl4 at h;split at h;exact .trans (by kernel_rfl) h;cases h
noncomputable def ax (G:Gs) (a b:LQ) (r:Bool):Prop:=∃n,main (R:=AT×List Ob) G n a b (λr0=>some (.one (.b r0),[]))=some (.one (.b r),[])
theorem ok {G:Gs} (hG:AE (ae G)) {g:Q} (hg:∀a b r,g a b=some r->ax G a b r):EO (ent g):=λR xs H K r hc=>by
 simp only[ent]at hc;split at hc
 ·exact okL hc λr j=>let⟨n,j⟩:=hg _ _ _ j;fF hG an (pc G n) Tryz.func24 j (apl [(1,4,.loop q4)] ⟨pl4 hG n n,trivial⟩)
 ·cases hc
end z1w
namespace z1y
structure Gs where
 z24:z24.Q
 z1w:z1w.Q
noncomputable def main {R:Type} (G:Gs) (n:Nat) (a b:Md) (K:Bool->Option R):Option R:=
 (G.z24 a.sig b.sig).bind λr=>
 bif !r then
  (K false)
 else
  (G.z1w a.eqs b.eqs).bind λr2=>
  bif !r2 then
   (K false)
  else
   (G.z1w a.rules b.rules).bind λr3=>
   bif !r3 then
    (K false)
   else
    K true
noncomputable def ax (G:Gs) (a b:Md) (r:Bool):Prop:=∃n,main (R:=AT×List Ob) G n a b (λr0=>some (.one (.b r0),[]))=some (.one (.b r),[])
theorem ok {G:Gs} (hG:AE [z24.ent G.z24,z1w.ent G.z1w]) {g:Q} (hg:∀a b r,g a b=some r->ax G a b r):EO (ent g):=λR xs H K r hc=>by
 simp only[ent]at hc;split at hc
 ·exact okL hc λr j=>let⟨_,j⟩:=hg _ _ _ j;fF hG ⟨23,0,[],[],[4],[],[]⟩ nP Tryz.func9 j
 ·cases hc
end z1y
end Go.Proofs.YtkinkfieackmdaaGreatDoor.Den

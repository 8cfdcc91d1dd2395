import Derived.Test.YtkinkfieackmdaaGreatZRowStr13
namespace Go.Proofs.YtkinkfieackmdaaGreat.Den
open Go.RowKit
set_option maxRecDepth 100000
set_option linter.unusedVariables false
namespace z41
structure Gs where
 z42:z42.Q
noncomputable def ents (G:Gs):List Ent:=[z42.ent G.z42]
noncomputable def main {R:Type} (G:Gs) (n:Nat) (a:Tm) (K:Tm->Option R):Option R:=
 Option.bind (G.z42 a.args) λr=>
 K (Tm.mk a.op a.name a.sort r)
noncomputable def pc (_:Gs) (_:Nat):Pcs:=⟨nK,nK,nK⟩
noncomputable def an:Ann:=⟨18,0,[],[],[2],[],[]⟩
noncomputable abbrev bd:=bodyOf Tryz.f29
noncomputable def Does (G:Gs) (a r:Tm):Prop:=∃n,main (R:=AT×List Ob) G n a (λr0=>some (.agg [.i r0.op,.s r0.name,.i r0.sort,.l (.n 1) r0.args],[]))=some (.agg [.i r.op,.s r.name,.i r.sort,.l (.n 1) r.args],[])
theorem ok {G:Gs} (hG:AE (ents G)) {g:Q} (hg:∀a r,g a=some r->Does G a r):EO (ent g):=λR xs H K r hc=>by
 simp only[ent]at hc
 split at hc
 ·obtain⟨r,j1,j2⟩:=bind_some hc
  obtain⟨n,j3⟩:=hg _ _ j1
  exact⟨_,_,j2,fnP hG an (pc G n) bd [.cell 2 53] Tryz.func29 (.inl rfl) (apl [] trivial) (.trans (by kernel_rfl) j3)⟩
 ·cases hc
end z41
namespace z42
structure Gs where
 z41:z41.Q
noncomputable def ents (G:Gs):List Ent:=[z41.ent G.z41]
noncomputable def b3 {R:Type} (G:Gs) (n:Nat) (a:LT) (i:Int) (h0:LT) (nx:LT->Int->LT->Option R) (k0:LT->Option R):Option R:=
 bif decide (i<(List.length a:Int))then
  (
  Option.bind (ix a i) λe=>
  Option.bind (G.z41 (Tm.mk e.op e.name e.sort e.args)) λr=>
  Option.bind (ix h0 i) λe2=>
  nx a (wr (i+1)) (List.set h0 (Int.toNat i) (Tm.mk r.op r.name r.sort r.args))
  )
 else
  k0 h0
noncomputable def l3 {R:Type} (G:Gs) (n m:Nat) (a:LT) (i:Int) (h0:LT) (k0:LT->Option R):Option R:=iter (λ(v:LT×Int×LT) nx=>b3 G n v.1 v.2.1 v.2.2 (λy0 y1 y2=>nx (y0,y1,y2)) k0) m (a,i,h0)
noncomputable def main {R:Type} (G:Gs) (n:Nat) (a:LT) (K:LT->Option R):Option R:=
 Option.bind (mk (α:=Tm) (Tm.mk 0 ByteArray.empty 0 []) (List.length a:Int)) λxs=>
 l3 G n n a 0 xs
  (λh0=>K h0)
noncomputable def dl3 (G:Gs) (n m:Nat) (R:Type) (st:St) (K:Kt R):Option R:=match st with
 |⟨[(0,.one (.l (.n 1) a)),(3,.one (.o 0)),(4,.one (.i i))],[.row (.n 1) 0 h0]⟩=>l3 G n m a i h0 (λh0=>K (.exit 0) ⟨[(3,.one (.o 0))],[.row (.n 1) 0 h0]⟩)
 |_=>none
noncomputable def pc (G:Gs) (n:Nat):Pcs:=⟨λR id st K=>bif Nat.beq id 3 then dl3 G n n R st K else none,nK,nK⟩
noncomputable def an:Ann:=⟨23,0,[(3,[0,3,4])],[],[2],[],[]⟩
noncomputable abbrev bd:=bodyOf Tryz.f64
noncomputable abbrev q3:=nthC [1,1,0,1,0,0] bd
theorem pl3 {G:Gs} (hG:AE (ents G)) (n:Nat):∀m,PO an (.loop q3) (dl3 G n m):=lpc hG (pc G n) [0,3,4] ⟨[3],[2],[(0,[3])]⟩ (apl [] trivial) (λR st K=>by unfold dl3;split<;>rfl) λm R st K r h=>by unfold dl3 at h;split at h;exact .trans (by kernel_rfl) h;cases h
noncomputable def Does (G:Gs) (a r:LT):Prop:=∃n,main (R:=AT×List Ob) G n a (λr0=>some (.one (.l (.n 1) r0),[]))=some (.one (.l (.n 1) r),[])
theorem ok {G:Gs} (hG:AE (ents G)) {g:Q} (hg:∀a r,g a=some r->Does G a r):EO (ent g):=λR xs H K r hc=>by
 simp only[ent]at hc
 split at hc
 ·obtain⟨r,j1,j2⟩:=bind_some hc
  obtain⟨n,j3⟩:=hg _ _ j1
  exact⟨_,_,j2,fnP hG an (pc G n) bd [.tmp 2] Tryz.func64 (.inl rfl) (apl [(1,3,.loop q3)] ⟨pl3 hG n n,trivial⟩) (.trans (by kernel_rfl) j3)⟩
 ·cases hc
end z42
namespace z3i
structure Gs where
 z3j:z3j.Q
noncomputable def ents (G:Gs):List Ent:=[z3j.ent G.z3j]
noncomputable def main {R:Type} (G:Gs) (n:Nat) (a:Tm) (left:Int) (K:Int->Option R):Option R:=
 bif decide ((wr (left-(ByteArray.size a.name:Int)))<0)then
  (K (-1))
 else
  Option.bind (G.z3j a.args (wr (left-(ByteArray.size a.name:Int)))) λr=>
  bif decide (r<0)then
   (K (-1))
  else
   K r
noncomputable def pc (_:Gs) (_:Nat):Pcs:=⟨nK,nK,nK⟩
noncomputable def an:Ann:=⟨19,0,[],[],[4],[],[]⟩
noncomputable abbrev bd:=bodyOf Tryz.f23
noncomputable def Does (G:Gs) (a:Tm) (left r:Int):Prop:=∃n,main (R:=AT×List Ob) G n a left (λr0=>some (.one (.i r0),[]))=some (.one (.i r),[])
theorem ok {G:Gs} (hG:AE (ents G)) {g:Q} (hg:∀a left r,g a left=some r->Does G a left r):EO (ent g):=λR xs H K r hc=>by
 simp only[ent]at hc
 split at hc
 ·obtain⟨r,j1,j2⟩:=bind_some hc
  obtain⟨n,j3⟩:=hg _ _ _ j1
  exact⟨_,_,j2,fnP hG an (pc G n) bd [.tmp 4] Tryz.func23 (.inl rfl) (apl [] trivial) (.trans (by kernel_rfl) j3)⟩
 ·cases hc
end z3i
namespace z3j
structure Gs where
 z3i:z3i.Q
noncomputable def ents (G:Gs):List Ent:=[z3i.ent G.z3i]
noncomputable def b5 {R:Type} (G:Gs) (n:Nat) (a:LT) (left i:Int) (nx:LT->Int->Int->Option R) (k0 k1:Int->Option R):Option R:=
 bif decide (i<(List.length a:Int))then
  (
  Option.bind (ix a i) λe=>
  Option.bind (G.z3i (Tm.mk e.op e.name e.sort e.args) left) λr=>
  bif decide (r<0)then
   (k0 (-1))
  else
   nx a r (wr (i+1))
  )
 else
  k1 left
noncomputable def l5 {R:Type} (G:Gs) (n m:Nat) (a:LT) (left i:Int) (k0 k1:Int->Option R):Option R:=iter (λ(v:LT×Int×Int) nx=>b5 G n v.1 v.2.1 v.2.2 (λy0 y1 y2=>nx (y0,y1,y2)) k0 k1) m (a,left,i)
noncomputable def main {R:Type} (G:Gs) (n:Nat) (a:LT) (left:Int) (K:Int->Option R):Option R:=
 bif decide ((wr (left-(List.length a:Int)))<0)then
  (K (-1))
 else
  l5 G n n a (wr (left-(List.length a:Int))) 0
   (λt4=>K t4)
   (λleft2=>K left2)
noncomputable def dl5 (G:Gs) (n m:Nat) (R:Type) (st:St) (K:Kt R):Option R:=match st with
 |⟨[(0,.one (.l (.n 1) a)),(1,.one (.i left)),(5,.one (.i i))],[]⟩=>l5 G n m a left i (λt4=>K .ret ⟨[(4,.one (.i t4))],[]⟩) (λleft=>K (.exit 0) ⟨[(1,.one (.i left))],[]⟩)
 |_=>none
noncomputable def pc (G:Gs) (n:Nat):Pcs:=⟨λR id st K=>bif Nat.beq id 5 then dl5 G n n R st K else none,nK,nK⟩
noncomputable def an:Ann:=⟨27,0,[(5,[0,1,5])],[],[4],[],[]⟩
noncomputable abbrev bd:=bodyOf Tryz.f56
noncomputable abbrev q5:=nthC [1,1,1,0,1,0,0] bd
theorem pl5 {G:Gs} (hG:AE (ents G)) (n:Nat):∀m,PO an (.loop q5) (dl5 G n m):=lpc hG (pc G n) [0,1,5] ⟨[1],[4],[(0,[1])]⟩ (apl [] trivial) (λR st K=>by unfold dl5;split<;>rfl) λm R st K r h=>by unfold dl5 at h;split at h;exact .trans (by kernel_rfl) h;cases h
noncomputable def Does (G:Gs) (a:LT) (left r:Int):Prop:=∃n,main (R:=AT×List Ob) G n a left (λr0=>some (.one (.i r0),[]))=some (.one (.i r),[])
theorem ok {G:Gs} (hG:AE (ents G)) {g:Q} (hg:∀a left r,g a left=some r->Does G a left r):EO (ent g):=λR xs H K r hc=>by
 simp only[ent]at hc
 split at hc
 ·obtain⟨r,j1,j2⟩:=bind_some hc
  obtain⟨n,j3⟩:=hg _ _ _ j1
  exact⟨_,_,j2,fnP hG an (pc G n) bd [.tmp 4] Tryz.func56 (.inl rfl) (apl [(1,5,.loop q5)] ⟨pl5 hG n n,trivial⟩) (.trans (by kernel_rfl) j3)⟩
 ·cases hc
end z3j
namespace z2z
structure Gs where
 z3i:z3i.Q
noncomputable def ents (G:Gs):List Ent:=[z3i.ent G.z3i]
noncomputable def main {R:Type} (G:Gs) (n:Nat) (a:Cnd) (left:Int) (K:Int->Option R):Option R:=
 Option.bind (G.z3i (Tm.mk a.left.op a.left.name a.left.sort a.left.args) left) λr=>
 bif decide (r<0)then
  (K (-1))
 else
  Option.bind (G.z3i (Tm.mk a.right.op a.right.name a.right.sort a.right.args) r) λr2=>
  bif decide (r2<0)then
   (K (-1))
  else
   K r2
noncomputable def pc (_:Gs) (_:Nat):Pcs:=⟨nK,nK,nK⟩
noncomputable def an:Ann:=⟨18,0,[],[],[4],[],[]⟩
noncomputable abbrev bd:=bodyOf Tryz.f133
noncomputable def Does (G:Gs) (a:Cnd) (left r:Int):Prop:=∃n,main (R:=AT×List Ob) G n a left (λr0=>some (.one (.i r0),[]))=some (.one (.i r),[])
theorem ok {G:Gs} (hG:AE (ents G)) {g:Q} (hg:∀a left r,g a left=some r->Does G a left r):EO (ent g):=λR xs H K r hc=>by
 simp only[ent]at hc
 split at hc
 ·obtain⟨r,j1,j2⟩:=bind_some hc
  obtain⟨n,j3⟩:=hg _ _ _ j1
  exact⟨_,_,j2,fnP hG an (pc G n) bd [.tmp 4] Tryz.func133 (.inl rfl) (apl [] trivial) (.trans (by kernel_rfl) j3)⟩
 ·cases hc
end z2z
namespace z30
structure Gs where
 z2z:z2z.Q
noncomputable def ents (G:Gs):List Ent:=[z2z.ent G.z2z]
noncomputable def b5 {R:Type} (G:Gs) (n:Nat) (a:LK) (left i:Int) (nx:LK->Int->Int->Option R) (k0 k1:Int->Option R):Option R:=
 bif decide (i<(List.length a:Int))then
  (
  Option.bind (ix a i) λe=>
  Option.bind (G.z2z (Cnd.mk (Tm.mk e.left.op e.left.name e.left.sort e.left.args) (Tm.mk e.right.op e.right.name e.right.sort e.right.args)) left) λr=>
  bif decide (r<0)then
   (k0 (-1))
  else
   nx a r (wr (i+1))
  )
 else
  k1 left
noncomputable def l5 {R:Type} (G:Gs) (n m:Nat) (a:LK) (left i:Int) (k0 k1:Int->Option R):Option R:=iter (λ(v:LK×Int×Int) nx=>b5 G n v.1 v.2.1 v.2.2 (λy0 y1 y2=>nx (y0,y1,y2)) k0 k1) m (a,left,i)
noncomputable def main {R:Type} (G:Gs) (n:Nat) (a:LK) (left:Int) (K:Int->Option R):Option R:=
 bif decide ((wr (left-(List.length a:Int)))<0)then
  (K (-1))
 else
  l5 G n n a (wr (left-(List.length a:Int))) 0
   (λt4=>K t4)
   (λleft2=>K left2)
noncomputable def dl5 (G:Gs) (n m:Nat) (R:Type) (st:St) (K:Kt R):Option R:=match st with
 |⟨[(0,.one (.l (.n 13) a)),(1,.one (.i left)),(5,.one (.i i))],[]⟩=>l5 G n m a left i (λt4=>K .ret ⟨[(4,.one (.i t4))],[]⟩) (λleft=>K (.exit 0) ⟨[(1,.one (.i left))],[]⟩)
 |_=>none
noncomputable def pc (G:Gs) (n:Nat):Pcs:=⟨λR id st K=>bif Nat.beq id 5 then dl5 G n n R st K else none,nK,nK⟩
noncomputable def an:Ann:=⟨27,0,[(5,[0,1,5])],[],[4],[],[]⟩
noncomputable abbrev bd:=bodyOf Tryz.f94
noncomputable abbrev q5:=nthC [1,1,1,0,1,0,0] bd
theorem pl5 {G:Gs} (hG:AE (ents G)) (n:Nat):∀m,PO an (.loop q5) (dl5 G n m):=lpc hG (pc G n) [0,1,5] ⟨[1],[4],[(0,[1])]⟩ (apl [] trivial) (λR st K=>by unfold dl5;split<;>rfl) λm R st K r h=>by unfold dl5 at h;split at h;exact .trans (by kernel_rfl) h;cases h
noncomputable def Does (G:Gs) (a:LK) (left r:Int):Prop:=∃n,main (R:=AT×List Ob) G n a left (λr0=>some (.one (.i r0),[]))=some (.one (.i r),[])
theorem ok {G:Gs} (hG:AE (ents G)) {g:Q} (hg:∀a left r,g a left=some r->Does G a left r):EO (ent g):=λR xs H K r hc=>by
 simp only[ent]at hc
 split at hc
 ·obtain⟨r,j1,j2⟩:=bind_some hc
  obtain⟨n,j3⟩:=hg _ _ _ j1
  exact⟨_,_,j2,fnP hG an (pc G n) bd [.tmp 4] Tryz.func94 (.inl rfl) (apl [(1,5,.loop q5)] ⟨pl5 hG n n,trivial⟩) (.trans (by kernel_rfl) j3)⟩
 ·cases hc
end z30
namespace z34
structure Gs where
 z3i:z3i.Q
 z30:z30.Q
noncomputable def ents (G:Gs):List Ent:=[z3i.ent G.z3i,z30.ent G.z30]
noncomputable def main {R:Type} (G:Gs) (n:Nat) (a:Eqn) (left:Int) (K:Int->Option R):Option R:=
 Option.bind (G.z3i (Tm.mk a.left.op a.left.name a.left.sort a.left.args) left) λr=>
 bif decide (r<0)then
  (K (-1))
 else
  Option.bind (G.z3i (Tm.mk a.right.op a.right.name a.right.sort a.right.args) r) λr2=>
  bif decide (r2<0)then
   (K (-1))
  else
   Option.bind (G.z30 a.conds r2) λr3=>
   bif decide (r3<0)then
    (K (-1))
   else
    K r3
noncomputable def pc (_:Gs) (_:Nat):Pcs:=⟨nK,nK,nK⟩
noncomputable def an:Ann:=⟨24,0,[],[],[4],[],[]⟩
noncomputable abbrev bd:=bodyOf Tryz.f55
noncomputable def Does (G:Gs) (a:Eqn) (left r:Int):Prop:=∃n,main (R:=AT×List Ob) G n a left (λr0=>some (.one (.i r0),[]))=some (.one (.i r),[])
theorem ok {G:Gs} (hG:AE (ents G)) {g:Q} (hg:∀a left r,g a left=some r->Does G a left r):EO (ent g):=λR xs H K r hc=>by
 simp only[ent]at hc
 split at hc
 ·obtain⟨r,j1,j2⟩:=bind_some hc
  obtain⟨n,j3⟩:=hg _ _ _ j1
  exact⟨_,_,j2,fnP hG an (pc G n) bd [.tmp 4] Tryz.func55 (.inl rfl) (apl [] trivial) (.trans (by kernel_rfl) j3)⟩
 ·cases hc
end z34
namespace z35
structure Gs where
 z34:z34.Q
noncomputable def ents (G:Gs):List Ent:=[z34.ent G.z34]
noncomputable def b5 {R:Type} (G:Gs) (n:Nat) (a:LQ) (left i:Int) (nx:LQ->Int->Int->Option R) (k0 k1:Int->Option R):Option R:=
 bif decide (i<(List.length a:Int))then
  (
  Option.bind (ix a i) λe=>
  Option.bind (G.z34 (Eqn.mk (Tm.mk e.left.op e.left.name e.left.sort e.left.args) (Tm.mk e.right.op e.right.name e.right.sort e.right.args) e.conds) left) λr=>
  bif decide (r<0)then
   (k0 (-1))
  else
   nx a r (wr (i+1))
  )
 else
  k1 left
noncomputable def l5 {R:Type} (G:Gs) (n m:Nat) (a:LQ) (left i:Int) (k0 k1:Int->Option R):Option R:=iter (λ(v:LQ×Int×Int) nx=>b5 G n v.1 v.2.1 v.2.2 (λy0 y1 y2=>nx (y0,y1,y2)) k0 k1) m (a,left,i)
noncomputable def main {R:Type} (G:Gs) (n:Nat) (a:LQ) (left:Int) (K:Int->Option R):Option R:=
 bif decide ((wr (left-(List.length a:Int)))<0)then
  (K (-1))
 else
  l5 G n n a (wr (left-(List.length a:Int))) 0
   (λt4=>K t4)
   (λleft2=>K left2)
noncomputable def dl5 (G:Gs) (n m:Nat) (R:Type) (st:St) (K:Kt R):Option R:=match st with
 |⟨[(0,.one (.l (.n 14) a)),(1,.one (.i left)),(5,.one (.i i))],[]⟩=>l5 G n m a left i (λt4=>K .ret ⟨[(4,.one (.i t4))],[]⟩) (λleft=>K (.exit 0) ⟨[(1,.one (.i left))],[]⟩)
 |_=>none
noncomputable def pc (G:Gs) (n:Nat):Pcs:=⟨λR id st K=>bif Nat.beq id 5 then dl5 G n n R st K else none,nK,nK⟩
noncomputable def an:Ann:=⟨27,0,[(5,[0,1,5])],[],[4],[],[]⟩
noncomputable abbrev bd:=bodyOf Tryz.f22
noncomputable abbrev q5:=nthC [1,1,1,0,1,0,0] bd
theorem pl5 {G:Gs} (hG:AE (ents G)) (n:Nat):∀m,PO an (.loop q5) (dl5 G n m):=lpc hG (pc G n) [0,1,5] ⟨[1],[4],[(0,[1])]⟩ (apl [] trivial) (λR st K=>by unfold dl5;split<;>rfl) λm R st K r h=>by unfold dl5 at h;split at h;exact .trans (by kernel_rfl) h;cases h
noncomputable def Does (G:Gs) (a:LQ) (left r:Int):Prop:=∃n,main (R:=AT×List Ob) G n a left (λr0=>some (.one (.i r0),[]))=some (.one (.i r),[])
theorem ok {G:Gs} (hG:AE (ents G)) {g:Q} (hg:∀a left r,g a left=some r->Does G a left r):EO (ent g):=λR xs H K r hc=>by
 simp only[ent]at hc
 split at hc
 ·obtain⟨r,j1,j2⟩:=bind_some hc
  obtain⟨n,j3⟩:=hg _ _ _ j1
  exact⟨_,_,j2,fnP hG an (pc G n) bd [.tmp 4] Tryz.func22 (.inl rfl) (apl [(1,5,.loop q5)] ⟨pl5 hG n n,trivial⟩) (.trans (by kernel_rfl) j3)⟩
 ·cases hc
end z35
namespace z38
structure Gs where
 z3c:z3c.Q
 z35:z35.Q
noncomputable def ents (G:Gs):List Ent:=[z3c.ent G.z3c,z35.ent G.z35]
noncomputable def main {R:Type} (G:Gs) (n:Nat) (a:Md) (left:Int) (K:Int->Option R):Option R:=
 Option.bind (G.z3c a.sig left) λr=>
 bif decide (r<0)then
  (K (-1))
 else
  Option.bind (G.z35 a.eqs r) λr2=>
  bif decide (r2<0)then
   (K (-1))
  else
   Option.bind (G.z35 a.rules r2) λr3=>
   bif decide (r3<0)then
    (K (-1))
   else
    K r3
noncomputable def pc (_:Gs) (_:Nat):Pcs:=⟨nK,nK,nK⟩
noncomputable def an:Ann:=⟨24,0,[],[],[4],[],[]⟩
noncomputable abbrev bd:=bodyOf Tryz.f5
noncomputable def Does (G:Gs) (a:Md) (left r:Int):Prop:=∃n,main (R:=AT×List Ob) G n a left (λr0=>some (.one (.i r0),[]))=some (.one (.i r),[])
theorem ok {G:Gs} (hG:AE (ents G)) {g:Q} (hg:∀a left r,g a left=some r->Does G a left r):EO (ent g):=λR xs H K r hc=>by
 simp only[ent]at hc
 split at hc
 ·obtain⟨r,j1,j2⟩:=bind_some hc
  obtain⟨n,j3⟩:=hg _ _ _ j1
  exact⟨_,_,j2,fnP hG an (pc G n) bd [.tmp 4] Tryz.func5 (.inl rfl) (apl [] trivial) (.trans (by kernel_rfl) j3)⟩
 ·cases hc
end z38
namespace z3e
structure Gs where
 z3i:z3i.Q
 z3f:z3f.Q
noncomputable def ents (G:Gs):List Ent:=[z3i.ent G.z3i,z3f.ent G.z3f]
noncomputable def main {R:Type} (G:Gs) (n:Nat) (a:Sgy) (left:Int) (K:Int->Option R):Option R:=
 Option.bind (G.z3i (Tm.mk a.test.op a.test.name a.test.sort a.test.args) left) λr=>
 bif decide (r<0)then
  (K (-1))
 else
  Option.bind (G.z3f a.kids r) λr2=>
  bif decide (r2<0)then
   (K (-1))
  else
   K r2
noncomputable def pc (_:Gs) (_:Nat):Pcs:=⟨nK,nK,nK⟩
noncomputable def an:Ann:=⟨18,0,[],[],[4],[],[]⟩
noncomputable abbrev bd:=bodyOf Tryz.f6
noncomputable def Does (G:Gs) (a:Sgy) (left r:Int):Prop:=∃n,main (R:=AT×List Ob) G n a left (λr0=>some (.one (.i r0),[]))=some (.one (.i r),[])
theorem ok {G:Gs} (hG:AE (ents G)) {g:Q} (hg:∀a left r,g a left=some r->Does G a left r):EO (ent g):=λR xs H K r hc=>by
 simp only[ent]at hc
 split at hc
 ·obtain⟨r,j1,j2⟩:=bind_some hc
  obtain⟨n,j3⟩:=hg _ _ _ j1
  exact⟨_,_,j2,fnP hG an (pc G n) bd [.tmp 4] Tryz.func6 (.inl rfl) (apl [] trivial) (.trans (by kernel_rfl) j3)⟩
 ·cases hc
end z3e
namespace z3f
structure Gs where
 z3e:z3e.Q
noncomputable def ents (G:Gs):List Ent:=[z3e.ent G.z3e]
noncomputable def b5 {R:Type} (G:Gs) (n:Nat) (a:LY) (left i:Int) (nx:LY->Int->Int->Option R) (k0 k1:Int->Option R):Option R:=
 bif decide (i<(List.length a:Int))then
  (
  Option.bind (ix a i) λe=>
  Option.bind (G.z3e (Sgy.mk e.kind e.index (Tm.mk e.test.op e.test.name e.test.sort e.test.args) e.kids) left) λr=>
  bif decide (r<0)then
   (k0 (-1))
  else
   nx a r (wr (i+1))
  )
 else
  k1 left
noncomputable def l5 {R:Type} (G:Gs) (n m:Nat) (a:LY) (left i:Int) (k0 k1:Int->Option R):Option R:=iter (λ(v:LY×Int×Int) nx=>b5 G n v.1 v.2.1 v.2.2 (λy0 y1 y2=>nx (y0,y1,y2)) k0 k1) m (a,left,i)
noncomputable def main {R:Type} (G:Gs) (n:Nat) (a:LY) (left:Int) (K:Int->Option R):Option R:=
 bif decide ((wr (left-(List.length a:Int)))<0)then
  (K (-1))
 else
  l5 G n n a (wr (left-(List.length a:Int))) 0
   (λt4=>K t4)
   (λleft2=>K left2)
noncomputable def dl5 (G:Gs) (n m:Nat) (R:Type) (st:St) (K:Kt R):Option R:=match st with
 |⟨[(0,.one (.l (.n 16) a)),(1,.one (.i left)),(5,.one (.i i))],[]⟩=>l5 G n m a left i (λt4=>K .ret ⟨[(4,.one (.i t4))],[]⟩) (λleft=>K (.exit 0) ⟨[(1,.one (.i left))],[]⟩)
 |_=>none
noncomputable def pc (G:Gs) (n:Nat):Pcs:=⟨λR id st K=>bif Nat.beq id 5 then dl5 G n n R st K else none,nK,nK⟩
noncomputable def an:Ann:=⟨27,0,[(5,[0,1,5])],[],[4],[],[]⟩
noncomputable abbrev bd:=bodyOf Tryz.f24
noncomputable abbrev q5:=nthC [1,1,1,0,1,0,0] bd
theorem pl5 {G:Gs} (hG:AE (ents G)) (n:Nat):∀m,PO an (.loop q5) (dl5 G n m):=lpc hG (pc G n) [0,1,5] ⟨[1],[4],[(0,[1])]⟩ (apl [] trivial) (λR st K=>by unfold dl5;split<;>rfl) λm R st K r h=>by unfold dl5 at h;split at h;exact .trans (by kernel_rfl) h;cases h
noncomputable def Does (G:Gs) (a:LY) (left r:Int):Prop:=∃n,main (R:=AT×List Ob) G n a left (λr0=>some (.one (.i r0),[]))=some (.one (.i r),[])
theorem ok {G:Gs} (hG:AE (ents G)) {g:Q} (hg:∀a left r,g a left=some r->Does G a left r):EO (ent g):=λR xs H K r hc=>by
 simp only[ent]at hc
 split at hc
 ·obtain⟨r,j1,j2⟩:=bind_some hc
  obtain⟨n,j3⟩:=hg _ _ _ j1
  exact⟨_,_,j2,fnP hG an (pc G n) bd [.tmp 4] Tryz.func24 (.inl rfl) (apl [(1,5,.loop q5)] ⟨pl5 hG n n,trivial⟩) (.trans (by kernel_rfl) j3)⟩
 ·cases hc
end z3f
namespace z3k
structure Gs where
 z41:z41.Q
noncomputable def ents (G:Gs):List Ent:=[z41.ent G.z41]
noncomputable def main {R:Type} (G:Gs) (n:Nat) (a:Cnd) (K:Cnd->Option R):Option R:=
 Option.bind (G.z41 (Tm.mk a.left.op a.left.name a.left.sort a.left.args)) λr=>
 Option.bind (G.z41 (Tm.mk a.right.op a.right.name a.right.sort a.right.args)) λr2=>
 K (Cnd.mk (Tm.mk r.op r.name r.sort r.args) (Tm.mk r2.op r2.name r2.sort r2.args))
noncomputable def pc (_:Gs) (_:Nat):Pcs:=⟨nK,nK,nK⟩
noncomputable def an:Ann:=⟨13,0,[],[],[2],[],[]⟩
noncomputable abbrev bd:=bodyOf Tryz.f146
noncomputable def Does (G:Gs) (a r:Cnd):Prop:=∃n,main (R:=AT×List Ob) G n a (λr0=>some (.agg [.i r0.left.op,.s r0.left.name,.i r0.left.sort,.l (.n 1) r0.left.args,.i r0.right.op,.s r0.right.name,.i r0.right.sort,.l (.n 1) r0.right.args],[]))=some (.agg [.i r.left.op,.s r.left.name,.i r.left.sort,.l (.n 1) r.left.args,.i r.right.op,.s r.right.name,.i r.right.sort,.l (.n 1) r.right.args],[])
theorem ok {G:Gs} (hG:AE (ents G)) {g:Q} (hg:∀a r,g a=some r->Does G a r):EO (ent g):=λR xs H K r hc=>by
 simp only[ent]at hc
 split at hc
 ·obtain⟨r,j1,j2⟩:=bind_some hc
  obtain⟨n,j3⟩:=hg _ _ j1
  exact⟨_,_,j2,fnP hG an (pc G n) bd [.cell 2 97] Tryz.func146 (.inl rfl) (apl [] trivial) (.trans (by kernel_rfl) j3)⟩
 ·cases hc
end z3k
namespace z3l
structure Gs where
 z3k:z3k.Q
noncomputable def ents (G:Gs):List Ent:=[z3k.ent G.z3k]
noncomputable def b3 {R:Type} (G:Gs) (n:Nat) (a:LK) (i:Int) (h0:LK) (nx:LK->Int->LK->Option R) (k0:LK->Option R):Option R:=
 bif decide (i<(List.length a:Int))then
  (
  Option.bind (ix a i) λe=>
  Option.bind (G.z3k (Cnd.mk (Tm.mk e.left.op e.left.name e.left.sort e.left.args) (Tm.mk e.right.op e.right.name e.right.sort e.right.args))) λr=>
  Option.bind (ix h0 i) λe2=>
  nx a (wr (i+1)) (List.set h0 (Int.toNat i) (Cnd.mk (Tm.mk r.left.op r.left.name r.left.sort r.left.args) (Tm.mk r.right.op r.right.name r.right.sort r.right.args)))
  )
 else
  k0 h0
noncomputable def l3 {R:Type} (G:Gs) (n m:Nat) (a:LK) (i:Int) (h0:LK) (k0:LK->Option R):Option R:=iter (λ(v:LK×Int×LK) nx=>b3 G n v.1 v.2.1 v.2.2 (λy0 y1 y2=>nx (y0,y1,y2)) k0) m (a,i,h0)
noncomputable def main {R:Type} (G:Gs) (n:Nat) (a:LK) (K:LK->Option R):Option R:=
 Option.bind (mk (α:=Cnd) (Cnd.mk (Tm.mk 0 ByteArray.empty 0 []) (Tm.mk 0 ByteArray.empty 0 [])) (List.length a:Int)) λxs=>
 l3 G n n a 0 xs
  (λh0=>K h0)
noncomputable def dl3 (G:Gs) (n m:Nat) (R:Type) (st:St) (K:Kt R):Option R:=match st with
 |⟨[(0,.one (.l (.n 13) a)),(3,.one (.o 0)),(4,.one (.i i))],[.row (.n 13) 0 h0]⟩=>l3 G n m a i h0 (λh0=>K (.exit 0) ⟨[(3,.one (.o 0))],[.row (.n 13) 0 h0]⟩)
 |_=>none
noncomputable def pc (G:Gs) (n:Nat):Pcs:=⟨λR id st K=>bif Nat.beq id 3 then dl3 G n n R st K else none,nK,nK⟩
noncomputable def an:Ann:=⟨23,0,[(3,[0,3,4])],[],[2],[],[]⟩
noncomputable abbrev bd:=bodyOf Tryz.f105
noncomputable abbrev q3:=nthC [1,1,0,1,0,0] bd
theorem pl3 {G:Gs} (hG:AE (ents G)) (n:Nat):∀m,PO an (.loop q3) (dl3 G n m):=lpc hG (pc G n) [0,3,4] ⟨[3],[2],[(0,[3])]⟩ (apl [] trivial) (λR st K=>by unfold dl3;split<;>rfl) λm R st K r h=>by unfold dl3 at h;split at h;exact .trans (by kernel_rfl) h;cases h
noncomputable def Does (G:Gs) (a r:LK):Prop:=∃n,main (R:=AT×List Ob) G n a (λr0=>some (.one (.l (.n 13) r0),[]))=some (.one (.l (.n 13) r),[])
theorem ok {G:Gs} (hG:AE (ents G)) {g:Q} (hg:∀a r,g a=some r->Does G a r):EO (ent g):=λR xs H K r hc=>by
 simp only[ent]at hc
 split at hc
 ·obtain⟨r,j1,j2⟩:=bind_some hc
  obtain⟨n,j3⟩:=hg _ _ j1
  exact⟨_,_,j2,fnP hG an (pc G n) bd [.tmp 2] Tryz.func105 (.inl rfl) (apl [(1,3,.loop q3)] ⟨pl3 hG n n,trivial⟩) (.trans (by kernel_rfl) j3)⟩
 ·cases hc
end z3l
namespace z3o
structure Gs where
 z41:z41.Q
 z3l:z3l.Q
noncomputable def ents (G:Gs):List Ent:=[z41.ent G.z41,z3l.ent G.z3l]
noncomputable def main {R:Type} (G:Gs) (n:Nat) (a:Eqn) (K:Eqn->Option R):Option R:=
 Option.bind (G.z41 (Tm.mk a.left.op a.left.name a.left.sort a.left.args)) λr=>
 Option.bind (G.z41 (Tm.mk a.right.op a.right.name a.right.sort a.right.args)) λr2=>
 Option.bind (G.z3l a.conds) λr3=>
 K (Eqn.mk (Tm.mk r.op r.name r.sort r.args) (Tm.mk r2.op r2.name r2.sort r2.args) r3)
noncomputable def pc (_:Gs) (_:Nat):Pcs:=⟨nK,nK,nK⟩
noncomputable def an:Ann:=⟨17,0,[],[],[2],[],[]⟩
noncomputable abbrev bd:=bodyOf Tryz.f63
noncomputable def Does (G:Gs) (a r:Eqn):Prop:=∃n,main (R:=AT×List Ob) G n a (λr0=>some (.agg [.i r0.left.op,.s r0.left.name,.i r0.left.sort,.l (.n 1) r0.left.args,.i r0.right.op,.s r0.right.name,.i r0.right.sort,.l (.n 1) r0.right.args,.l (.n 13) r0.conds],[]))=some (.agg [.i r.left.op,.s r.left.name,.i r.left.sort,.l (.n 1) r.left.args,.i r.right.op,.s r.right.name,.i r.right.sort,.l (.n 1) r.right.args,.l (.n 13) r.conds],[])
theorem ok {G:Gs} (hG:AE (ents G)) {g:Q} (hg:∀a r,g a=some r->Does G a r):EO (ent g):=λR xs H K r hc=>by
 simp only[ent]at hc
 split at hc
 ·obtain⟨r,j1,j2⟩:=bind_some hc
  obtain⟨n,j3⟩:=hg _ _ j1
  exact⟨_,_,j2,fnP hG an (pc G n) bd [.cell 2 64] Tryz.func63 (.inl rfl) (apl [] trivial) (.trans (by kernel_rfl) j3)⟩
 ·cases hc
end z3o
namespace z3p
structure Gs where
 z3o:z3o.Q
noncomputable def ents (G:Gs):List Ent:=[z3o.ent G.z3o]
noncomputable def b3 {R:Type} (G:Gs) (n:Nat) (a:LQ) (i:Int) (h0:LQ) (nx:LQ->Int->LQ->Option R) (k0:LQ->Option R):Option R:=
 bif decide (i<(List.length a:Int))then
  (
  Option.bind (ix a i) λe=>
  Option.bind (G.z3o (Eqn.mk (Tm.mk e.left.op e.left.name e.left.sort e.left.args) (Tm.mk e.right.op e.right.name e.right.sort e.right.args) e.conds)) λr=>
  Option.bind (ix h0 i) λe2=>
  nx a (wr (i+1)) (List.set h0 (Int.toNat i) (Eqn.mk (Tm.mk r.left.op r.left.name r.left.sort r.left.args) (Tm.mk r.right.op r.right.name r.right.sort r.right.args) r.conds))
  )
 else
  k0 h0
noncomputable def l3 {R:Type} (G:Gs) (n m:Nat) (a:LQ) (i:Int) (h0:LQ) (k0:LQ->Option R):Option R:=iter (λ(v:LQ×Int×LQ) nx=>b3 G n v.1 v.2.1 v.2.2 (λy0 y1 y2=>nx (y0,y1,y2)) k0) m (a,i,h0)
noncomputable def main {R:Type} (G:Gs) (n:Nat) (a:LQ) (K:LQ->Option R):Option R:=
 Option.bind (mk (α:=Eqn) (Eqn.mk (Tm.mk 0 ByteArray.empty 0 []) (Tm.mk 0 ByteArray.empty 0 []) []) (List.length a:Int)) λxs=>
 l3 G n n a 0 xs
  (λh0=>K h0)
noncomputable def dl3 (G:Gs) (n m:Nat) (R:Type) (st:St) (K:Kt R):Option R:=match st with
 |⟨[(0,.one (.l (.n 14) a)),(3,.one (.o 0)),(4,.one (.i i))],[.row (.n 14) 0 h0]⟩=>l3 G n m a i h0 (λh0=>K (.exit 0) ⟨[(3,.one (.o 0))],[.row (.n 14) 0 h0]⟩)
 |_=>none
noncomputable def pc (G:Gs) (n:Nat):Pcs:=⟨λR id st K=>bif Nat.beq id 3 then dl3 G n n R st K else none,nK,nK⟩
noncomputable def an:Ann:=⟨23,0,[(3,[0,3,4])],[],[2],[],[]⟩
noncomputable abbrev bd:=bodyOf Tryz.f28
noncomputable abbrev q3:=nthC [1,1,0,1,0,0] bd
theorem pl3 {G:Gs} (hG:AE (ents G)) (n:Nat):∀m,PO an (.loop q3) (dl3 G n m):=lpc hG (pc G n) [0,3,4] ⟨[3],[2],[(0,[3])]⟩ (apl [] trivial) (λR st K=>by unfold dl3;split<;>rfl) λm R st K r h=>by unfold dl3 at h;split at h;exact .trans (by kernel_rfl) h;cases h
noncomputable def Does (G:Gs) (a r:LQ):Prop:=∃n,main (R:=AT×List Ob) G n a (λr0=>some (.one (.l (.n 14) r0),[]))=some (.one (.l (.n 14) r),[])
theorem ok {G:Gs} (hG:AE (ents G)) {g:Q} (hg:∀a r,g a=some r->Does G a r):EO (ent g):=λR xs H K r hc=>by
 simp only[ent]at hc
 split at hc
 ·obtain⟨r,j1,j2⟩:=bind_some hc
  obtain⟨n,j3⟩:=hg _ _ j1
  exact⟨_,_,j2,fnP hG an (pc G n) bd [.tmp 2] Tryz.func28 (.inl rfl) (apl [(1,3,.loop q3)] ⟨pl3 hG n n,trivial⟩) (.trans (by kernel_rfl) j3)⟩
 ·cases hc
end z3p
namespace z3r
structure Gs where
 z3u:z3u.Q
 z3p:z3p.Q
noncomputable def ents (G:Gs):List Ent:=[z3u.ent G.z3u,z3p.ent G.z3p]
noncomputable def main {R:Type} (G:Gs) (n:Nat) (a:Md) (K:Md->Option R):Option R:=
 Option.bind (G.z3u a.sig) λr=>
 Option.bind (G.z3p a.eqs) λr2=>
 Option.bind (G.z3p a.rules) λr3=>
 K (Md.mk r r2 r3)
noncomputable def pc (_:Gs) (_:Nat):Pcs:=⟨nK,nK,nK⟩
noncomputable def an:Ann:=⟨17,0,[],[],[2],[],[]⟩
noncomputable abbrev bd:=bodyOf Tryz.f8
noncomputable def Does (G:Gs) (a r:Md):Prop:=∃n,main (R:=AT×List Ob) G n a (λr0=>some (.agg [.l .s r0.sig.sorts.names,.l (.n 5) r0.sig.sorts.subs,.l (.n 8) r0.sig.ops,.l (.n 14) r0.eqs,.l (.n 14) r0.rules],[]))=some (.agg [.l .s r.sig.sorts.names,.l (.n 5) r.sig.sorts.subs,.l (.n 8) r.sig.ops,.l (.n 14) r.eqs,.l (.n 14) r.rules],[])
theorem ok {G:Gs} (hG:AE (ents G)) {g:Q} (hg:∀a r,g a=some r->Does G a r):EO (ent g):=λR xs H K r hc=>by
 simp only[ent]at hc
 split at hc
 ·obtain⟨r,j1,j2⟩:=bind_some hc
  obtain⟨n,j3⟩:=hg _ _ j1
  exact⟨_,_,j2,fnP hG an (pc G n) bd [.cell 2 49] Tryz.func8 (.inl rfl) (apl [] trivial) (.trans (by kernel_rfl) j3)⟩
 ·cases hc
end z3r
namespace z3w
structure Gs where
 z41:z41.Q
 z3x:z3x.Q
noncomputable def ents (G:Gs):List Ent:=[z41.ent G.z41,z3x.ent G.z3x]
noncomputable def main {R:Type} (G:Gs) (n:Nat) (a:Sgy) (K:Sgy->Option R):Option R:=
 Option.bind (G.z41 (Tm.mk a.test.op a.test.name a.test.sort a.test.args)) λr=>
 Option.bind (G.z3x a.kids) λr2=>
 K (Sgy.mk a.kind a.index (Tm.mk r.op r.name r.sort r.args) r2)
noncomputable def pc (_:Gs) (_:Nat):Pcs:=⟨nK,nK,nK⟩
noncomputable def an:Ann:=⟨19,0,[],[],[2],[],[]⟩
noncomputable abbrev bd:=bodyOf Tryz.f9
noncomputable def Does (G:Gs) (a r:Sgy):Prop:=∃n,main (R:=AT×List Ob) G n a (λr0=>some (.agg [.i r0.kind,.i r0.index,.i r0.test.op,.s r0.test.name,.i r0.test.sort,.l (.n 1) r0.test.args,.l (.n 16) r0.kids],[]))=some (.agg [.i r.kind,.i r.index,.i r.test.op,.s r.test.name,.i r.test.sort,.l (.n 1) r.test.args,.l (.n 16) r.kids],[])
theorem ok {G:Gs} (hG:AE (ents G)) {g:Q} (hg:∀a r,g a=some r->Does G a r):EO (ent g):=λR xs H K r hc=>by
 simp only[ent]at hc
 split at hc
 ·obtain⟨r,j1,j2⟩:=bind_some hc
  obtain⟨n,j3⟩:=hg _ _ j1
  exact⟨_,_,j2,fnP hG an (pc G n) bd [.cell 2 56] Tryz.func9 (.inl rfl) (apl [] trivial) (.trans (by kernel_rfl) j3)⟩
 ·cases hc
end z3w
namespace z3x
structure Gs where
 z3w:z3w.Q
noncomputable def ents (G:Gs):List Ent:=[z3w.ent G.z3w]
noncomputable def b3 {R:Type} (G:Gs) (n:Nat) (a:LY) (i:Int) (h0:LY) (nx:LY->Int->LY->Option R) (k0:LY->Option R):Option R:=
 bif decide (i<(List.length a:Int))then
  (
  Option.bind (ix a i) λe=>
  Option.bind (G.z3w (Sgy.mk e.kind e.index (Tm.mk e.test.op e.test.name e.test.sort e.test.args) e.kids)) λr=>
  Option.bind (ix h0 i) λe2=>
  nx a (wr (i+1)) (List.set h0 (Int.toNat i) (Sgy.mk r.kind r.index (Tm.mk r.test.op r.test.name r.test.sort r.test.args) r.kids))
  )
 else
  k0 h0
noncomputable def l3 {R:Type} (G:Gs) (n m:Nat) (a:LY) (i:Int) (h0:LY) (k0:LY->Option R):Option R:=iter (λ(v:LY×Int×LY) nx=>b3 G n v.1 v.2.1 v.2.2 (λy0 y1 y2=>nx (y0,y1,y2)) k0) m (a,i,h0)
noncomputable def main {R:Type} (G:Gs) (n:Nat) (a:LY) (K:LY->Option R):Option R:=
 Option.bind (mk (α:=Sgy) (Sgy.mk 0 0 (Tm.mk 0 ByteArray.empty 0 []) []) (List.length a:Int)) λxs=>
 l3 G n n a 0 xs
  (λh0=>K h0)
noncomputable def dl3 (G:Gs) (n m:Nat) (R:Type) (st:St) (K:Kt R):Option R:=match st with
 |⟨[(0,.one (.l (.n 16) a)),(3,.one (.o 0)),(4,.one (.i i))],[.row (.n 16) 0 h0]⟩=>l3 G n m a i h0 (λh0=>K (.exit 0) ⟨[(3,.one (.o 0))],[.row (.n 16) 0 h0]⟩)
 |_=>none
noncomputable def pc (G:Gs) (n:Nat):Pcs:=⟨λR id st K=>bif Nat.beq id 3 then dl3 G n n R st K else none,nK,nK⟩
noncomputable def an:Ann:=⟨23,0,[(3,[0,3,4])],[],[2],[],[]⟩
noncomputable abbrev bd:=bodyOf Tryz.f30
noncomputable abbrev q3:=nthC [1,1,0,1,0,0] bd
theorem pl3 {G:Gs} (hG:AE (ents G)) (n:Nat):∀m,PO an (.loop q3) (dl3 G n m):=lpc hG (pc G n) [0,3,4] ⟨[3],[2],[(0,[3])]⟩ (apl [] trivial) (λR st K=>by unfold dl3;split<;>rfl) λm R st K r h=>by unfold dl3 at h;split at h;exact .trans (by kernel_rfl) h;cases h
noncomputable def Does (G:Gs) (a r:LY):Prop:=∃n,main (R:=AT×List Ob) G n a (λr0=>some (.one (.l (.n 16) r0),[]))=some (.one (.l (.n 16) r),[])
theorem ok {G:Gs} (hG:AE (ents G)) {g:Q} (hg:∀a r,g a=some r->Does G a r):EO (ent g):=λR xs H K r hc=>by
 simp only[ent]at hc
 split at hc
 ·obtain⟨r,j1,j2⟩:=bind_some hc
  obtain⟨n,j3⟩:=hg _ _ j1
  exact⟨_,_,j2,fnP hG an (pc G n) bd [.tmp 2] Tryz.func30 (.inl rfl) (apl [(1,3,.loop q3)] ⟨pl3 hG n n,trivial⟩) (.trans (by kernel_rfl) j3)⟩
 ·cases hc
end z3x
namespace z1x
structure Gs where
 z2h:z2h.Q
noncomputable def ents (G:Gs):List Ent:=[z2h.ent G.z2h]
noncomputable def main {R:Type} (G:Gs) (n:Nat) (a b:Cnd) (K:Bool->Option R):Option R:=
 Option.bind (G.z2h (Tm.mk a.left.op a.left.name a.left.sort a.left.args) (Tm.mk b.left.op b.left.name b.left.sort b.left.args)) λr=>
 bif !r then
  (K false)
 else
  Option.bind (G.z2h (Tm.mk a.right.op a.right.name a.right.sort a.right.args) (Tm.mk b.right.op b.right.name b.right.sort b.right.args)) λr2=>
  bif !r2 then
   (K false)
  else
   K true
noncomputable def pc (_:Gs) (_:Nat):Pcs:=⟨nK,nK,nK⟩
noncomputable def an:Ann:=⟨17,0,[],[],[4],[],[]⟩
noncomputable abbrev bd:=bodyOf Tryz.f84
noncomputable def Does (G:Gs) (a b:Cnd) (r:Bool):Prop:=∃n,main (R:=AT×List Ob) G n a b (λr0=>some (.one (.b r0),[]))=some (.one (.b r),[])
theorem ok {G:Gs} (hG:AE (ents G)) {g:Q} (hg:∀a b r,g a b=some r->Does G a b r):EO (ent g):=λR xs H K r hc=>by
 simp only[ent]at hc
 split at hc
 ·obtain⟨r,j1,j2⟩:=bind_some hc
  obtain⟨n,j3⟩:=hg _ _ _ j1
  exact⟨_,_,j2,fnP hG an (pc G n) bd [.tmp 4] Tryz.func84 (.inl rfl) (apl [] trivial) (.trans (by kernel_rfl) j3)⟩
 ·cases hc
end z1x
namespace z1y
structure Gs where
 z1x:z1x.Q
noncomputable def ents (G:Gs):List Ent:=[z1x.ent G.z1x]
noncomputable def b4 {R:Type} (G:Gs) (n:Nat) (a b:LK) (i:Int) (nx:LK->LK->Int->Option R) (k0:Bool->Option R) (k1:Option R):Option R:=
 bif decide (i<(List.length a:Int))then
  (
  Option.bind (ix a i) λe2=>
  Option.bind (ix b i) λe4=>
  Option.bind (G.z1x (Cnd.mk (Tm.mk e2.left.op e2.left.name e2.left.sort e2.left.args) (Tm.mk e2.right.op e2.right.name e2.right.sort e2.right.args)) (Cnd.mk (Tm.mk e4.left.op e4.left.name e4.left.sort e4.left.args) (Tm.mk e4.right.op e4.right.name e4.right.sort e4.right.args))) λr2=>
  bif !r2 then
   (k0 false)
  else
   nx a b (wr (i+1))
  )
 else
  k1
noncomputable def l4 {R:Type} (G:Gs) (n m:Nat) (a b:LK) (i:Int) (k0:Bool->Option R) (k1:Option R):Option R:=iter (λ(v:LK×LK×Int) nx=>b4 G n v.1 v.2.1 v.2.2 (λy0 y1 y2=>nx (y0,y1,y2)) k0 k1) m (a,b,i)
noncomputable def main {R:Type} (G:Gs) (n:Nat) (a b:LK) (K:Bool->Option R):Option R:=
 bif !decide ((List.length a:Int)=(List.length b:Int))then
  (K false)
 else
  l4 G n n a b 0
   (λt4=>K t4)
   (K true)
noncomputable def dl4 (G:Gs) (n m:Nat) (R:Type) (st:St) (K:Kt R):Option R:=match st with
 |⟨[(0,.one (.l (.n 13) a)),(1,.one (.l (.n 13) b)),(5,.one (.i i))],[]⟩=>l4 G n m a b i (λt4=>K .ret ⟨[(4,.one (.b t4))],[]⟩) (K (.exit 0) ⟨[],[]⟩)
 |_=>none
noncomputable def pc (G:Gs) (n:Nat):Pcs:=⟨λR id st K=>bif Nat.beq id 4 then dl4 G n n R st K else none,nK,nK⟩
noncomputable def an:Ann:=⟨27,0,[(4,[0,1,5])],[],[4],[(6,⟨[([0,1,2,3,4,5,6,7,8,9],[],[])],[],[],[],[]⟩)],[]⟩
noncomputable abbrev bd:=bodyOf Tryz.f46
noncomputable abbrev q4:=nthC [1,1,0,1,0,0] bd
theorem pl4 {G:Gs} (hG:AE (ents G)) (n:Nat):∀m,PO an (.loop q4) (dl4 G n m):=lpc hG (pc G n) [0,1,5] ⟨[],[4],[(0,[])]⟩ (apl [] trivial) (λR st K=>by unfold dl4;split<;>rfl) λm R st K r h=>by unfold dl4 at h;split at h;exact .trans (by kernel_rfl) h;cases h
noncomputable def Does (G:Gs) (a b:LK) (r:Bool):Prop:=∃n,main (R:=AT×List Ob) G n a b (λr0=>some (.one (.b r0),[]))=some (.one (.b r),[])
theorem ok {G:Gs} (hG:AE (ents G)) {g:Q} (hg:∀a b r,g a b=some r->Does G a b r):EO (ent g):=λR xs H K r hc=>by
 simp only[ent]at hc
 split at hc
 ·obtain⟨r,j1,j2⟩:=bind_some hc
  obtain⟨n,j3⟩:=hg _ _ _ j1
  exact⟨_,_,j2,fnP hG an (pc G n) bd [.tmp 4] Tryz.func46 (.inl rfl) (apl [(1,4,.loop q4)] ⟨pl4 hG n n,trivial⟩) (.trans (by kernel_rfl) j3)⟩
 ·cases hc
end z1y
namespace z23
structure Gs where
 z2h:z2h.Q
 z1y:z1y.Q
noncomputable def ents (G:Gs):List Ent:=[z2h.ent G.z2h,z1y.ent G.z1y]
noncomputable def main {R:Type} (G:Gs) (n:Nat) (a b:Eqn) (K:Bool->Option R):Option R:=
 Option.bind (G.z2h (Tm.mk a.left.op a.left.name a.left.sort a.left.args) (Tm.mk b.left.op b.left.name b.left.sort b.left.args)) λr=>
 bif !r then
  (K false)
 else
  Option.bind (G.z2h (Tm.mk a.right.op a.right.name a.right.sort a.right.args) (Tm.mk b.right.op b.right.name b.right.sort b.right.args)) λr2=>
  bif !r2 then
   (K false)
  else
   Option.bind (G.z1y a.conds b.conds) λr3=>
   bif !r3 then
    (K false)
   else
    K true
noncomputable def pc (_:Gs) (_:Nat):Pcs:=⟨nK,nK,nK⟩
noncomputable def an:Ann:=⟨23,0,[],[],[4],[],[]⟩
noncomputable abbrev bd:=bodyOf Tryz.f17
noncomputable def Does (G:Gs) (a b:Eqn) (r:Bool):Prop:=∃n,main (R:=AT×List Ob) G n a b (λr0=>some (.one (.b r0),[]))=some (.one (.b r),[])
theorem ok {G:Gs} (hG:AE (ents G)) {g:Q} (hg:∀a b r,g a b=some r->Does G a b r):EO (ent g):=λR xs H K r hc=>by
 simp only[ent]at hc
 split at hc
 ·obtain⟨r,j1,j2⟩:=bind_some hc
  obtain⟨n,j3⟩:=hg _ _ _ j1
  exact⟨_,_,j2,fnP hG an (pc G n) bd [.tmp 4] Tryz.func17 (.inl rfl) (apl [] trivial) (.trans (by kernel_rfl) j3)⟩
 ·cases hc
end z23
namespace z24
structure Gs where
 z23:z23.Q
noncomputable def ents (G:Gs):List Ent:=[z23.ent G.z23]
noncomputable def b4 {R:Type} (G:Gs) (n:Nat) (a b:LQ) (i:Int) (nx:LQ->LQ->Int->Option R) (k0:Bool->Option R) (k1:Option R):Option R:=
 bif decide (i<(List.length a:Int))then
  (
  Option.bind (ix a i) λe2=>
  Option.bind (ix b i) λe4=>
  Option.bind (G.z23 (Eqn.mk (Tm.mk e2.left.op e2.left.name e2.left.sort e2.left.args) (Tm.mk e2.right.op e2.right.name e2.right.sort e2.right.args) e2.conds) (Eqn.mk (Tm.mk e4.left.op e4.left.name e4.left.sort e4.left.args) (Tm.mk e4.right.op e4.right.name e4.right.sort e4.right.args) e4.conds)) λr2=>
  bif !r2 then
   (k0 false)
  else
   nx a b (wr (i+1))
  )
 else
  k1
noncomputable def l4 {R:Type} (G:Gs) (n m:Nat) (a b:LQ) (i:Int) (k0:Bool->Option R) (k1:Option R):Option R:=iter (λ(v:LQ×LQ×Int) nx=>b4 G n v.1 v.2.1 v.2.2 (λy0 y1 y2=>nx (y0,y1,y2)) k0 k1) m (a,b,i)
noncomputable def main {R:Type} (G:Gs) (n:Nat) (a b:LQ) (K:Bool->Option R):Option R:=
 bif !decide ((List.length a:Int)=(List.length b:Int))then
  (K false)
 else
  l4 G n n a b 0
   (λt4=>K t4)
   (K true)
noncomputable def dl4 (G:Gs) (n m:Nat) (R:Type) (st:St) (K:Kt R):Option R:=match st with
 |⟨[(0,.one (.l (.n 14) a)),(1,.one (.l (.n 14) b)),(5,.one (.i i))],[]⟩=>l4 G n m a b i (λt4=>K .ret ⟨[(4,.one (.b t4))],[]⟩) (K (.exit 0) ⟨[],[]⟩)
 |_=>none
noncomputable def pc (G:Gs) (n:Nat):Pcs:=⟨λR id st K=>bif Nat.beq id 4 then dl4 G n n R st K else none,nK,nK⟩
noncomputable def an:Ann:=⟨27,0,[(4,[0,1,5])],[],[4],[(6,⟨[([0,1,2,3,4,5,6,7,8,9],[],[])],[],[],[],[]⟩)],[]⟩
noncomputable abbrev bd:=bodyOf Tryz.f35
noncomputable abbrev q4:=nthC [1,1,0,1,0,0] bd
theorem pl4 {G:Gs} (hG:AE (ents G)) (n:Nat):∀m,PO an (.loop q4) (dl4 G n m):=lpc hG (pc G n) [0,1,5] ⟨[],[4],[(0,[])]⟩ (apl [] trivial) (λR st K=>by unfold dl4;split<;>rfl) λm R st K r h=>by unfold dl4 at h;split at h;exact .trans (by kernel_rfl) h;cases h
noncomputable def Does (G:Gs) (a b:LQ) (r:Bool):Prop:=∃n,main (R:=AT×List Ob) G n a b (λr0=>some (.one (.b r0),[]))=some (.one (.b r),[])
theorem ok {G:Gs} (hG:AE (ents G)) {g:Q} (hg:∀a b r,g a b=some r->Does G a b r):EO (ent g):=λR xs H K r hc=>by
 simp only[ent]at hc
 split at hc
 ·obtain⟨r,j1,j2⟩:=bind_some hc
  obtain⟨n,j3⟩:=hg _ _ _ j1
  exact⟨_,_,j2,fnP hG an (pc G n) bd [.tmp 4] Tryz.func35 (.inl rfl) (apl [(1,4,.loop q4)] ⟨pl4 hG n n,trivial⟩) (.trans (by kernel_rfl) j3)⟩
 ·cases hc
end z24
namespace z27
structure Gs where
 z2a:z2a.Q
 z24:z24.Q
noncomputable def ents (G:Gs):List Ent:=[z2a.ent G.z2a,z24.ent G.z24]
noncomputable def main {R:Type} (G:Gs) (n:Nat) (a b:Md) (K:Bool->Option R):Option R:=
 Option.bind (G.z2a a.sig b.sig) λr=>
 bif !r then
  (K false)
 else
  Option.bind (G.z24 a.eqs b.eqs) λr2=>
  bif !r2 then
   (K false)
  else
   Option.bind (G.z24 a.rules b.rules) λr3=>
   bif !r3 then
    (K false)
   else
    K true
noncomputable def pc (_:Gs) (_:Nat):Pcs:=⟨nK,nK,nK⟩
noncomputable def an:Ann:=⟨23,0,[],[],[4],[],[]⟩
noncomputable abbrev bd:=bodyOf Tryz.f11
noncomputable def Does (G:Gs) (a b:Md) (r:Bool):Prop:=∃n,main (R:=AT×List Ob) G n a b (λr0=>some (.one (.b r0),[]))=some (.one (.b r),[])
theorem ok {G:Gs} (hG:AE (ents G)) {g:Q} (hg:∀a b r,g a b=some r->Does G a b r):EO (ent g):=λR xs H K r hc=>by
 simp only[ent]at hc
 split at hc
 ·obtain⟨r,j1,j2⟩:=bind_some hc
  obtain⟨n,j3⟩:=hg _ _ _ j1
  exact⟨_,_,j2,fnP hG an (pc G n) bd [.tmp 4] Tryz.func11 (.inl rfl) (apl [] trivial) (.trans (by kernel_rfl) j3)⟩
 ·cases hc
end z27
namespace z2c
structure Gs where
 z2h:z2h.Q
 z2d:z2d.Q
noncomputable def ents (G:Gs):List Ent:=[z2h.ent G.z2h,z2d.ent G.z2d]
noncomputable def main {R:Type} (G:Gs) (n:Nat) (a b:Sgy) (K:Bool->Option R):Option R:=
 bif !decide (a.kind=b.kind)then
  (K false)
 else
  bif !decide (a.index=b.index)then
   (K false)
  else
   Option.bind (G.z2h (Tm.mk a.test.op a.test.name a.test.sort a.test.args) (Tm.mk b.test.op b.test.name b.test.sort b.test.args)) λr=>
   bif !r then
    (K false)
   else
    Option.bind (G.z2d a.kids b.kids) λr2=>
    bif !r2 then
     (K false)
    else
     K true
noncomputable def pc (_:Gs) (_:Nat):Pcs:=⟨nK,nK,nK⟩
noncomputable def an:Ann:=⟨27,0,[],[],[4],[],[]⟩
noncomputable abbrev bd:=bodyOf Tryz.f12
noncomputable def Does (G:Gs) (a b:Sgy) (r:Bool):Prop:=∃n,main (R:=AT×List Ob) G n a b (λr0=>some (.one (.b r0),[]))=some (.one (.b r),[])
theorem ok {G:Gs} (hG:AE (ents G)) {g:Q} (hg:∀a b r,g a b=some r->Does G a b r):EO (ent g):=λR xs H K r hc=>by
 simp only[ent]at hc
 split at hc
 ·obtain⟨r,j1,j2⟩:=bind_some hc
  obtain⟨n,j3⟩:=hg _ _ _ j1
  exact⟨_,_,j2,fnP hG an (pc G n) bd [.tmp 4] Tryz.func12 (.inl rfl) (apl [] trivial) (.trans (by kernel_rfl) j3)⟩
 ·cases hc
end z2c
namespace z2d
structure Gs where
 z2c:z2c.Q
noncomputable def ents (G:Gs):List Ent:=[z2c.ent G.z2c]
noncomputable def b4 {R:Type} (G:Gs) (n:Nat) (a b:LY) (i:Int) (nx:LY->LY->Int->Option R) (k0:Bool->Option R) (k1:Option R):Option R:=
 bif decide (i<(List.length a:Int))then
  (
  Option.bind (ix a i) λe2=>
  Option.bind (ix b i) λe4=>
  Option.bind (G.z2c (Sgy.mk e2.kind e2.index (Tm.mk e2.test.op e2.test.name e2.test.sort e2.test.args) e2.kids) (Sgy.mk e4.kind e4.index (Tm.mk e4.test.op e4.test.name e4.test.sort e4.test.args) e4.kids)) λr2=>
  bif !r2 then
   (k0 false)
  else
   nx a b (wr (i+1))
  )
 else
  k1
noncomputable def l4 {R:Type} (G:Gs) (n m:Nat) (a b:LY) (i:Int) (k0:Bool->Option R) (k1:Option R):Option R:=iter (λ(v:LY×LY×Int) nx=>b4 G n v.1 v.2.1 v.2.2 (λy0 y1 y2=>nx (y0,y1,y2)) k0 k1) m (a,b,i)
noncomputable def main {R:Type} (G:Gs) (n:Nat) (a b:LY) (K:Bool->Option R):Option R:=
 bif !decide ((List.length a:Int)=(List.length b:Int))then
  (K false)
 else
  l4 G n n a b 0
   (λt4=>K t4)
   (K true)
noncomputable def dl4 (G:Gs) (n m:Nat) (R:Type) (st:St) (K:Kt R):Option R:=match st with
 |⟨[(0,.one (.l (.n 16) a)),(1,.one (.l (.n 16) b)),(5,.one (.i i))],[]⟩=>l4 G n m a b i (λt4=>K .ret ⟨[(4,.one (.b t4))],[]⟩) (K (.exit 0) ⟨[],[]⟩)
 |_=>none
noncomputable def pc (G:Gs) (n:Nat):Pcs:=⟨λR id st K=>bif Nat.beq id 4 then dl4 G n n R st K else none,nK,nK⟩
noncomputable def an:Ann:=⟨27,0,[(4,[0,1,5])],[],[4],[(6,⟨[([0,1,2,3,4,5,6,7,8,9],[],[])],[],[],[],[]⟩)],[]⟩
noncomputable abbrev bd:=bodyOf Tryz.f37
noncomputable abbrev q4:=nthC [1,1,0,1,0,0] bd
theorem pl4 {G:Gs} (hG:AE (ents G)) (n:Nat):∀m,PO an (.loop q4) (dl4 G n m):=lpc hG (pc G n) [0,1,5] ⟨[],[4],[(0,[])]⟩ (apl [] trivial) (λR st K=>by unfold dl4;split<;>rfl) λm R st K r h=>by unfold dl4 at h;split at h;exact .trans (by kernel_rfl) h;cases h
noncomputable def Does (G:Gs) (a b:LY) (r:Bool):Prop:=∃n,main (R:=AT×List Ob) G n a b (λr0=>some (.one (.b r0),[]))=some (.one (.b r),[])
theorem ok {G:Gs} (hG:AE (ents G)) {g:Q} (hg:∀a b r,g a b=some r->Does G a b r):EO (ent g):=λR xs H K r hc=>by
 simp only[ent]at hc
 split at hc
 ·obtain⟨r,j1,j2⟩:=bind_some hc
  obtain⟨n,j3⟩:=hg _ _ _ j1
  exact⟨_,_,j2,fnP hG an (pc G n) bd [.tmp 4] Tryz.func37 (.inl rfl) (apl [(1,4,.loop q4)] ⟨pl4 hG n n,trivial⟩) (.trans (by kernel_rfl) j3)⟩
 ·cases hc
end z2d
end Go.Proofs.YtkinkfieackmdaaGreat.Den

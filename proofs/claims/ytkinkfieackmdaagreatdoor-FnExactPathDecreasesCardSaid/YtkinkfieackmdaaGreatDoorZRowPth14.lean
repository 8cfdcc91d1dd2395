import Derived.Test.YtkinkfieackmdaaGreatDoorZRowPth11
namespace Go.Proofs.YtkinkfieackmdaaGreatDoor.Den
open Go.RowKit
set_option maxRecDepth 100000
set_option linter.unusedVariables false
namespace z42
structure Gs where
 none_:Unit
noncomputable def main {R:Type} (G:Gs) (n:Nat) (a b:Int) (K:Int->Option R):Option R:=
 bif decide (b<a)then
  (K a)
 else
  K b
theorem ok {G:Gs} (hG:AE []) {g:Q} (hg:∀a b r,g a b=some r->∃n,main (R:=AT×List Ob) G n a b (λr0=>some (.one (.i r0),[]))=some (.one (.i r),[])):EO (ent g):=λR xs H K r hc=>by
 simp only[ent]at hc;split at hc
 ·exact okL hc λr j=>let⟨_,j⟩:=hg _ _ _ j;fF hG ⟨10,0,[],[],[4],[],[]⟩ nP Tryz.func147 j
 ·cases hc
end z42
namespace z4k
structure Gs where
 none_:Unit
noncomputable def main {R:Type} (G:Gs) (n:Nat) (name:ByteArray) (sort:Int) (K:Tm->Option R):Option R:=
 K (Tm.mk (-1) name sort [])
theorem ok {G:Gs} (hG:AE []) {g:Q} (hg:∀name sort r,g name sort=some r->∃n,main (R:=AT×List Ob) G n name sort (λr0=>some (.agg [.i r0.op,.s r0.name,.i r0.sort,.l (.n 1) r0.args],[]))=some (.agg [.i r.op,.s r.name,.i r.sort,.l (.n 1) r.args],[])):EO (ent g):=λR xs H K r hc=>by
 simp only[ent]at hc;split at hc
 ·exact okL hc λr j=>let⟨_,j⟩:=hg _ _ _ j;fF hG ⟨8,0,[],[],[4],[],[]⟩ nP Tryz.func133 j
 ·cases hc
end z4k
namespace z3a
structure Gs where
 z3a:z3a.Q
noncomputable def ae (G:Gs):List Ent:=[ent G.z3a]
noncomputable def b14 {R:Type} (G:Gs) (n:Nat) (h0:Int) (h02:ByteArray) (h03:Int) (h04:LT) (h1:Int) (h12:ByteArray) (h13:Int) (h14:LT) (i:Int) (nx k0:Int->Option R) (k1:Option R):Option R:=
 bif decide (i<(List.length h04:Int))then
  (
  bif decide (i<(List.length h14:Int))then
   (
   (ix h04 i).bind λe2=>
   (ix h14 i).bind λe4=>
   (G.z3a (Tm.mk e2.op e2.name e2.sort e2.args) (Tm.mk e4.op e4.name e4.sort e4.args)).bind λr2=>
   bif !decide (r2=0)then
    (k0 r2)
   else
    nx (wr (i+1))
   )
  else
   k1
  )
 else
  k1
noncomputable def l14 {R:Type} (G:Gs) (n m:Nat) (h0:Int) (h02:ByteArray) (h03:Int) (h04:LT) (h1:Int) (h12:ByteArray) (h13:Int) (h14:LT) (i:Int) (k0:Int->Option R) (k1:Option R):Option R:=au (λ(v:Int) nx=>b14 G n h0 h02 h03 h04 h1 h12 h13 h14 v (λy0=>nx y0) k0 k1) m i
noncomputable def main {R:Type} (G:Gs) (n:Nat) (a b:Tm) (K:Int->Option R):Option R:=
 bif !decide (a.op=b.op)then
  (
  bif decide (a.op<b.op)then
   (K (-1))
  else
   K 1
  )
 else
  bif !sEq a.name b.name then
   (
   bif Abs.strLt a.name b.name then
    (K (-1))
   else
    K 1
   )
  else
   bif !decide (a.sort=b.sort)then
    (
    bif decide (a.sort<b.sort)then
     (K (-1))
    else
     K 1
    )
   else
    l14 G n n a.op a.name a.sort a.args b.op b.name b.sort b.args 0
     (λt4=>K t4)
     (
      bif decide ((List.length a.args:Int)<(List.length b.args:Int))then
       (K (-1))
      else
       bif decide ((List.length b.args:Int)<(List.length a.args:Int))then
        (K 1)
       else
        K 0
     )
noncomputable def p6 (G:Gs) (n m:Nat) (R:Type) (st:St) (K:Kt R):Option R:=match st with
 |⟨[(2,.one (.p 0 0)),(3,.one (.p 1 0)),(5,.one (.i i))],[.box [.i h0,.s h02,.i h03,.l (.n 1) h04],.box [.i h1,.s h12,.i h13,.l (.n 1) h14]]⟩=>l14 G n m h0 h02 h03 h04 h1 h12 h13 h14 i (λt4=>K .ret ⟨[(4,.one (.i t4))],[]⟩) (K (.exit 0) ⟨[(2,.one (.p 0 0)),(3,.one (.p 1 0))],[.box [.i h0,.s h02,.i h03,.l (.n 1) h04],.box [.i h1,.s h12,.i h13,.l (.n 1) h14]]⟩)
 |_=>none
noncomputable def pc (G:Gs) (n:Nat):Pcs:=⟨λR id st K=>bif Nat.beq id 14 then p6 G n n R st K else none,nK,nK⟩
noncomputable def an:Ann:=⟨79,0,[(14,[2,3,5])],[],[4],[(16,⟨[([0,1,2,3,4,5,6,7,8,9,10,11],[],[])],[],[],[0,1],[]⟩)],[]⟩
noncomputable abbrev bd:=ai Tryz.f59
noncomputable abbrev q14:=am [1,1,1,1,0,1,0,0] bd
theorem Fo {G:Gs} (hG:AE (ae G)) (n:Nat):∀m,PO an (.loop q14) (p6 G n m):=lpc hG (pc G n) [2,3,5] ⟨[2,3],[4],[(0,[2,3])]⟩ (apl [] trivial) (λR st K=>by unfold p6;split<;>rfl) λm R st K r h=>by unfold p6 at h;split at h;exact .trans (by kernel_rfl) h;cases h
theorem ok {G:Gs} (hG:AE (ae G)) {g:Q} (hg:∀a b r,g a b=some r->∃n,main (R:=AT×List Ob) G n a b (λr0=>some (.one (.i r0),[]))=some (.one (.i r),[])):EO (ent g):=λR xs H K r hc=>by
 simp only[ent]at hc;split at hc
 ·exact okL hc λr j=>let⟨n,j⟩:=hg _ _ _ j;fF hG an (pc G n) Tryz.func59 j (apl [(1,14,.loop q14)] ⟨Fo hG n n,trivial⟩)
 ·cases hc
end z3a
namespace z4j
structure Gs where
 z3a:z3a.Q
noncomputable def main {R:Type} (G:Gs) (n:Nat) (a b:Tm) (K:Bool->Option R):Option R:=
 (G.z3a (Tm.mk a.op a.name a.sort a.args) (Tm.mk b.op b.name b.sort b.args)).bind λr=>
 K (decide (r=0))
theorem ok {G:Gs} (hG:AE [z3a.ent G.z3a]) {g:Q} (hg:∀a b r,g a b=some r->∃n,main (R:=AT×List Ob) G n a b (λr0=>some (.one (.b r0),[]))=some (.one (.b r),[])):EO (ent g):=λR xs H K r hc=>by
 simp only[ent]at hc;split at hc
 ·exact okL hc λr j=>let⟨_,j⟩:=hg _ _ _ j;fF hG ⟨9,0,[],[],[4],[],[]⟩ nP Tryz.func30 j
 ·cases hc
end z4j
namespace z4s
structure Gs where
 none_:Unit
noncomputable def main {R:Type} (G:Gs) (n:Nat) (s:Sg) (op:Int) (K:Tm->Bool->Option R):Option R:=
 (ix s.ops op).bind λe=>
 bif decide (e.unit=0)then
  (K (Tm.mk 0 ByteArray.empty 0 []) false)
 else
  (ix s.ops op).bind λe2=>
  K (Tm.mk (wr (e2.unit-1)) ByteArray.empty 0 []) true
theorem ok {G:Gs} (hG:AE []) {g:Q} (hg:∀s op r,g s op=some r->∃n,main (R:=AT×List Ob) G n s op (λr0 r1=>some (.tup [.agg [.i r0.op,.s r0.name,.i r0.sort,.l (.n 1) r0.args],.one (.b r1)],[]))=some (.tup [.agg [.i r.1.op,.s r.1.name,.i r.1.sort,.l (.n 1) r.1.args],.one (.b r.2)],[])):EO (ent g):=λR xs H K r hc=>by
 simp only[ent]at hc;split at hc
 ·exact okL hc λr j=>let⟨_,j⟩:=hg _ _ _ j;fF hG ⟨22,0,[],[],[4,5],[],[]⟩ nP Tryz.func148 j
 ·cases hc
end z4s
namespace z4n
structure Gs where
 z4c:z4c.Q
noncomputable def main {R:Type} (G:Gs) (n:Nat) (s:Sg) (t:Tm) (K:Int->Option R):Option R:=
 (G.z4c s.sorts).bind λr=>
 bif decide (t.op=(-1))then
  (
  (ix r t.sort).bind λe=>
  K e
  )
 else
  (ix s.ops t.op).bind λe2=>
  (ix e2.decls 0).bind λe3=>
  (ix r e3.result).bind λe4=>
  K e4
theorem ok {G:Gs} (hG:AE [z4c.ent G.z4c]) {g:Q} (hg:∀s t r,g s t=some r->∃n,main (R:=AT×List Ob) G n s t (λr0=>some (.one (.i r0),[]))=some (.one (.i r),[])):EO (ent g):=λR xs H K r hc=>by
 simp only[ent]at hc;split at hc
 ·exact okL hc λr j=>let⟨_,j⟩:=hg _ _ _ j;fF hG ⟨30,0,[],[],[4],[],[]⟩ nP Tryz.func97 j
 ·cases hc
end z4n
namespace z4o
structure Gs where
 z4o:z4o.Q
noncomputable def ae (G:Gs):List Ent:=[ent G.z4o]
noncomputable def b3 {R:Type} (G:Gs) (n:Nat) (h0:Int) (h02:ByteArray) (h03:Int) (h04:LT) (left k:Int) (nx:Int->Int->Option R) (k0:Int->Option R):Option R:=
 bif decide (k<(List.length h04:Int))then
  (
  bif decide (0<=left)then
   (
   (ix h04 k).bind λe=>
   (G.z4o (Tm.mk e.op e.name e.sort e.args) left).bind λr=>
   nx r (wr (k+1))
   )
  else
   k0 left
  )
 else
  k0 left
noncomputable def l3 {R:Type} (G:Gs) (n m:Nat) (h0:Int) (h02:ByteArray) (h03:Int) (h04:LT) (left k:Int) (k0:Int->Option R):Option R:=au (λ(v:Int×Int) nx=>b3 G n h0 h02 h03 h04 v.1 v.2 (λy0 y1=>nx (y0,y1)) k0) m (left,k)
noncomputable def main {R:Type} (G:Gs) (n:Nat) (t:Tm) (left:Int) (K:Int->Option R):Option R:=
 l3 G n n t.op t.name t.sort t.args (wr (left-1)) 0
  (λleft2=>K left2)
noncomputable def dl3 (G:Gs) (n m:Nat) (R:Type) (st:St) (K:Kt R):Option R:=match st with
 |⟨[(1,.one (.i left)),(2,.one (.p 0 0)),(5,.one (.i k))],[.box [.i h0,.s h02,.i h03,.l (.n 1) h04]]⟩=>l3 G n m h0 h02 h03 h04 left k (λleft2=>K (.exit 0) ⟨[(1,.one (.i left2))],[]⟩)
 |_=>none
noncomputable def pc (G:Gs) (n:Nat):Pcs:=⟨λR id st K=>bif Nat.beq id 3 then dl3 G n n R st K else none,nK,nK⟩
noncomputable def an:Ann:=⟨27,0,[(3,[1,2,5])],[],[4],[],[]⟩
noncomputable abbrev bd:=ai Tryz.f128
noncomputable abbrev q3:=am [1,1,0,1,0,0] bd
theorem pl3 {G:Gs} (hG:AE (ae G)) (n:Nat):∀m,PO an (.loop q3) (dl3 G n m):=lpc hG (pc G n) [1,2,5] ⟨[1],[4],[(0,[1])]⟩ (apl [] trivial) (λR st K=>by unfold dl3;split<;>rfl) λm R st K r h=>by unfold dl3 at h;split at h;exact .trans (by kernel_rfl) h;cases h
theorem ok {G:Gs} (hG:AE (ae G)) {g:Q} (hg:∀t left r,g t left=some r->∃n,main (R:=AT×List Ob) G n t left (λr0=>some (.one (.i r0),[]))=some (.one (.i r),[])):EO (ent g):=λR xs H K r hc=>by
 simp only[ent]at hc;split at hc
 ·exact okL hc λr j=>let⟨n,j⟩:=hg _ _ _ j;fF hG an (pc G n) Tryz.func128 j (apl [(1,3,.loop q3)] ⟨pl3 hG n n,trivial⟩)
 ·cases hc
end z4o
namespace z3c
structure Gs where
 z3c:z3c.Q
 z42:z42.Q
noncomputable def ae (G:Gs):List Ent:=[ent G.z3c,z42.ent G.z42]
noncomputable def b3 {R:Type} (G:Gs) (n:Nat) (h0:Int) (h02:ByteArray) (h03:Int) (h04:LT) (n1 i:Int) (nx:Int->Int->Option R) (k0:Int->Option R):Option R:=
 bif decide (i<(List.length h04:Int))then
  (
  (ix h04 i).bind λe=>
  (G.z3c (Tm.mk e.op e.name e.sort e.args)).bind λr=>
  (G.z42 n1 r).bind λr2=>
  nx r2 (wr (i+1))
  )
 else
  k0 n1
noncomputable def l3 {R:Type} (G:Gs) (n m:Nat) (h0:Int) (h02:ByteArray) (h03:Int) (h04:LT) (n1 i:Int) (k0:Int->Option R):Option R:=au (λ(v:Int×Int) nx=>b3 G n h0 h02 h03 h04 v.1 v.2 (λy0 y1=>nx (y0,y1)) k0) m (n1,i)
noncomputable def main {R:Type} (G:Gs) (n:Nat) (t:Tm) (K:Int->Option R):Option R:=
 l3 G n n t.op t.name t.sort t.args 0 0
  (λn12=>K (wr (n12+1)))
noncomputable def dl3 (G:Gs) (n m:Nat) (R:Type) (st:St) (K:Kt R):Option R:=match st with
 |⟨[(1,.one (.p 0 0)),(3,.one (.i n1)),(4,.one (.i i))],[.box [.i h0,.s h02,.i h03,.l (.n 1) h04]]⟩=>l3 G n m h0 h02 h03 h04 n1 i (λn12=>K (.exit 0) ⟨[(3,.one (.i n12))],[]⟩)
 |_=>none
noncomputable def pc (G:Gs) (n:Nat):Pcs:=⟨λR id st K=>bif Nat.beq id 3 then dl3 G n n R st K else none,nK,nK⟩
noncomputable def an:Ann:=⟨22,0,[(3,[1,3,4])],[],[2],[],[]⟩
noncomputable abbrev bd:=ai Tryz.f129
noncomputable abbrev q3:=am [1,1,0,1,0,0] bd
theorem pl3 {G:Gs} (hG:AE (ae G)) (n:Nat):∀m,PO an (.loop q3) (dl3 G n m):=lpc hG (pc G n) [1,3,4] ⟨[3],[2],[(0,[3])]⟩ (apl [] trivial) (λR st K=>by unfold dl3;split<;>rfl) λm R st K r h=>by unfold dl3 at h;split at h;exact .trans (by kernel_rfl) h;cases h
theorem ok {G:Gs} (hG:AE (ae G)) {g:Q} (hg:∀t r,g t=some r->∃n,main (R:=AT×List Ob) G n t (λr0=>some (.one (.i r0),[]))=some (.one (.i r),[])):EO (ent g):=λR xs H K r hc=>by
 simp only[ent]at hc;split at hc
 ·exact okL hc λr j=>let⟨n,j⟩:=hg _ _ j;fF hG an (pc G n) Tryz.func129 j (apl [(1,3,.loop q3)] ⟨pl3 hG n n,trivial⟩)
 ·cases hc
end z3c
namespace z4r
structure Gs where
 z4o:z4o.Q
 z3c:z3c.Q
noncomputable def main {R:Type} (G:Gs) (n:Nat) (t:Tm) (K:Bool->Option R):Option R:=
 (G.z4o (Tm.mk t.op t.name t.sort t.args) 60).bind λr=>
 bif decide (0<=r)then
  (
  (G.z3c (Tm.mk t.op t.name t.sort t.args)).bind λr2=>
  K (decide (r2<=20))
  )
 else
  K false
theorem ok {G:Gs} (hG:AE [z4o.ent G.z4o,z3c.ent G.z3c]) {g:Q} (hg:∀t r,g t=some r->∃n,main (R:=AT×List Ob) G n t (λr0=>some (.one (.b r0),[]))=some (.one (.b r),[])):EO (ent g):=λR xs H K r hc=>by
 simp only[ent]at hc;split at hc
 ·exact okL hc λr j=>let⟨_,j⟩:=hg _ _ j;fF hG ⟨11,0,[],[],[2],[],[]⟩ nP Tryz.func95 j
 ·cases hc
end z4r
end Go.Proofs.YtkinkfieackmdaaGreatDoor.Den

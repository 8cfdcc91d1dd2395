/-
  Texts that the claim rests on, merged: PL, TmV, Wrap1, LawPth.
-/
import Derived.Test.YtkinkfieackmdaaGreatDoorZRowPth11
import Derived.Test.YtkinkfieackmdaaGreatDoorZRowPth16
import Derived.Test.YtkinkfieackmdaaGreatDoorZRowPth35
import Derived.Test.YtkinkfieackmdaaGreatDoorZRowPth36

namespace Go.Proofs.YtkinkfieackmdaaGreatDoor.Den
open Go.RowKit
set_option maxRecDepth 100000
set_option linter.unusedVariables false
namespace z1x
structure Gs where
 none_:Unit
noncomputable def ae (_:Gs):List Ent:=[]
noncomputable def b4 {R:Type} (G:Gs) (n:Nat) (a b:LI) (i:Int) (nx:LI->LI->Int->Option R) (k0:Bool->Option R) (k1:Option R):Option R:=
 bif decide (i<(List.length a:Int))then
  (
  (ix a i).bind λe2=>
  (ix b i).bind λe4=>
  bif !decide (e2=e4)then
   (k0 false)
  else
   nx a b (wr (i+1))
  )
 else
  k1
noncomputable def l4 {R:Type} (G:Gs) (n m:Nat) (a b:LI) (i:Int) (k0:Bool->Option R) (k1:Option R):Option R:=au (λ(v:LI×LI×Int) nx=>b4 G n v.1 v.2.1 v.2.2 (λy0 y1 y2=>nx (y0,y1,y2)) k0 k1) m (a,b,i)
noncomputable def main {R:Type} (G:Gs) (n:Nat) (a b:LI) (K:Bool->Option R):Option R:=
 bif !decide ((List.length a:Int)=(List.length b:Int))then
  (K false)
 else
  l4 G n n a b 0
   (λt4=>K t4)
   (K true)
noncomputable def dl4 (G:Gs) (n m:Nat) (R:Type) (st:St) (K:Kt R):Option R:=match st with
 |⟨[(0,.one (.l .i a)),(1,.one (.l .i b)),(5,.one (.i i))],[]⟩=>l4 G n m a b i (λt4=>K .ret ⟨[(4,.one (.b t4))],[]⟩) (K (.exit 0) ⟨[],[]⟩)
 |_=>none
noncomputable def pc (G:Gs) (n:Nat):Pcs:=⟨λR id st K=>bif Nat.beq id 4 then dl4 G n n R st K else none,nK,nK⟩
noncomputable def an:Ann:=⟨26,0,[(4,[0,1,5])],[],[4],[(6,⟨[([0,1,2,3,4,5,6,7,8],[],[])],[],[],[],[]⟩)],[]⟩
noncomputable abbrev bd:=ai Tryz.f10
noncomputable abbrev q4:=am [1,1,0,1,0,0] bd
theorem pl4 {G:Gs} (hG:AE (ae G)) (n:Nat):∀m,PO an (.loop q4) (dl4 G n m):=lpc hG (pc G n) [0,1,5] ⟨[],[4],[(0,[])]⟩ (apl [] trivial) (λR st K=>by unfold dl4;split<;>rfl) λm R st K r h=>by unfold dl4 at h;split at h;exact .trans (by kernel_rfl) h;cases h
noncomputable def ax (G:Gs) (a b:LI) (r:Bool):Prop:=∃n,main (R:=AT×List Ob) G n a b (λr0=>some (.one (.b r0),[]))=some (.one (.b r),[])
theorem ok {G:Gs} (hG:AE (ae G)) {g:Q} (hg:∀a b r,g a b=some r->ax G a b r):EO (ent g):=λR xs H K r hc=>by
 simp only[ent]at hc;split at hc
 ·exact okL hc λr j=>let⟨n,j⟩:=hg _ _ _ j;fF hG an (pc G n) Tryz.func10 j (apl [(1,4,.loop q4)] ⟨pl4 hG n n,trivial⟩)
 ·cases hc
end z1x
namespace z27
structure Gs where
 none_:Unit
noncomputable def ae (_:Gs):List Ent:=[]
noncomputable def b4 {R:Type} (G:Gs) (n:Nat) (a b:LB) (i:Int) (nx:LB->LB->Int->Option R) (k0:Bool->Option R) (k1:Option R):Option R:=
 bif decide (i<(List.length a:Int))then
  (
  (ix a i).bind λe2=>
  (ix b i).bind λe4=>
  bif !sEq e2 e4 then
   (k0 false)
  else
   nx a b (wr (i+1))
  )
 else
  k1
noncomputable def l4 {R:Type} (G:Gs) (n m:Nat) (a b:LB) (i:Int) (k0:Bool->Option R) (k1:Option R):Option R:=au (λ(v:LB×LB×Int) nx=>b4 G n v.1 v.2.1 v.2.2 (λy0 y1 y2=>nx (y0,y1,y2)) k0 k1) m (a,b,i)
noncomputable def main {R:Type} (G:Gs) (n:Nat) (a b:LB) (K:Bool->Option R):Option R:=
 bif !decide ((List.length a:Int)=(List.length b:Int))then
  (K false)
 else
  l4 G n n a b 0
   (λt4=>K t4)
   (K true)
noncomputable def dl4 (G:Gs) (n m:Nat) (R:Type) (st:St) (K:Kt R):Option R:=match st with
 |⟨[(0,.one (.l .s a)),(1,.one (.l .s b)),(5,.one (.i i))],[]⟩=>l4 G n m a b i (λt4=>K .ret ⟨[(4,.one (.b t4))],[]⟩) (K (.exit 0) ⟨[],[]⟩)
 |_=>none
noncomputable def pc (G:Gs) (n:Nat):Pcs:=⟨λR id st K=>bif Nat.beq id 4 then dl4 G n n R st K else none,nK,nK⟩
noncomputable def an:Ann:=⟨26,0,[(4,[0,1,5])],[],[4],[(6,⟨[([0,1,2,3,4,5,6,7,8],[],[])],[],[],[],[]⟩)],[]⟩
noncomputable abbrev bd:=ai Tryz.f81
noncomputable abbrev q4:=am [1,1,0,1,0,0] bd
theorem pl4 {G:Gs} (hG:AE (ae G)) (n:Nat):∀m,PO an (.loop q4) (dl4 G n m):=lpc hG (pc G n) [0,1,5] ⟨[],[4],[(0,[])]⟩ (apl [] trivial) (λR st K=>by unfold dl4;split<;>rfl) λm R st K r h=>by unfold dl4 at h;split at h;exact .trans (by kernel_rfl) h;cases h
noncomputable def ax (G:Gs) (a b:LB) (r:Bool):Prop:=∃n,main (R:=AT×List Ob) G n a b (λr0=>some (.one (.b r0),[]))=some (.one (.b r),[])
theorem ok {G:Gs} (hG:AE (ae G)) {g:Q} (hg:∀a b r,g a b=some r->ax G a b r):EO (ent g):=λR xs H K r hc=>by
 simp only[ent]at hc;split at hc
 ·exact okL hc λr j=>let⟨n,j⟩:=hg _ _ _ j;fF hG an (pc G n) Tryz.func81 j (apl [(1,4,.loop q4)] ⟨pl4 hG n n,trivial⟩)
 ·cases hc
end z27
namespace z28
structure Gs where
 none_:Unit
noncomputable def main {R:Type} (G:Gs) (n:Nat) (a b:Sb) (K:Bool->Option R):Option R:=
 bif !decide (a.low=b.low)then
  (K false)
 else
  bif !decide (a.high=b.high)then
   (K false)
  else
   K true
noncomputable def ax (G:Gs) (a b:Sb) (r:Bool):Prop:=∃n,main (R:=AT×List Ob) G n a b (λr0=>some (.one (.b r0),[]))=some (.one (.b r),[])
theorem ok {G:Gs} (hG:AE []) {g:Q} (hg:∀a b r,g a b=some r->ax G a b r):EO (ent g):=λR xs H K r hc=>by
 simp only[ent]at hc;split at hc
 ·exact okL hc λr j=>let⟨_,j⟩:=hg _ _ _ j;fF hG ⟨15,0,[],[],[4],[],[]⟩ nP Tryz.func121 j
 ·cases hc
end z28
namespace z29
structure Gs where
 z28:z28.Q
noncomputable def ae (G:Gs):List Ent:=[z28.ent G.z28]
noncomputable def b4 {R:Type} (G:Gs) (n:Nat) (a b:LS) (i:Int) (nx:LS->LS->Int->Option R) (k0:Bool->Option R) (k1:Option R):Option R:=
 bif decide (i<(List.length a:Int))then
  (
  (ix a i).bind λe2=>
  (ix b i).bind λe4=>
  (G.z28 e2 e4).bind λr2=>
  bif !r2 then
   (k0 false)
  else
   nx a b (wr (i+1))
  )
 else
  k1
noncomputable def l4 {R:Type} (G:Gs) (n m:Nat) (a b:LS) (i:Int) (k0:Bool->Option R) (k1:Option R):Option R:=au (λ(v:LS×LS×Int) nx=>b4 G n v.1 v.2.1 v.2.2 (λy0 y1 y2=>nx (y0,y1,y2)) k0 k1) m (a,b,i)
noncomputable def main {R:Type} (G:Gs) (n:Nat) (a b:LS) (K:Bool->Option R):Option R:=
 bif !decide ((List.length a:Int)=(List.length b:Int))then
  (K false)
 else
  l4 G n n a b 0
   (λt4=>K t4)
   (K true)
noncomputable def dl4 (G:Gs) (n m:Nat) (R:Type) (st:St) (K:Kt R):Option R:=match st with
 |⟨[(0,.one (.l (.n 5) a)),(1,.one (.l (.n 5) b)),(5,.one (.i i))],[]⟩=>l4 G n m a b i (λt4=>K .ret ⟨[(4,.one (.b t4))],[]⟩) (K (.exit 0) ⟨[],[]⟩)
 |_=>none
noncomputable def pc (G:Gs) (n:Nat):Pcs:=⟨λR id st K=>bif Nat.beq id 4 then dl4 G n n R st K else none,nK,nK⟩
noncomputable def an:Ann:=⟨27,0,[(4,[0,1,5])],[],[4],[(6,⟨[([0,1,2,3,4,5,6,7,8,9],[],[])],[],[],[],[]⟩)],[]⟩
noncomputable abbrev bd:=ai Tryz.f82
noncomputable abbrev q4:=am [1,1,0,1,0,0] bd
theorem pl4 {G:Gs} (hG:AE (ae G)) (n:Nat):∀m,PO an (.loop q4) (dl4 G n m):=lpc hG (pc G n) [0,1,5] ⟨[],[4],[(0,[])]⟩ (apl [] trivial) (λR st K=>by unfold dl4;split<;>rfl) λm R st K r h=>by unfold dl4 at h;split at h;exact .trans (by kernel_rfl) h;cases h
noncomputable def ax (G:Gs) (a b:LS) (r:Bool):Prop:=∃n,main (R:=AT×List Ob) G n a b (λr0=>some (.one (.b r0),[]))=some (.one (.b r),[])
theorem ok {G:Gs} (hG:AE (ae G)) {g:Q} (hg:∀a b r,g a b=some r->ax G a b r):EO (ent g):=λR xs H K r hc=>by
 simp only[ent]at hc;split at hc
 ·exact okL hc λr j=>let⟨n,j⟩:=hg _ _ _ j;fF hG an (pc G n) Tryz.func82 j (apl [(1,4,.loop q4)] ⟨pl4 hG n n,trivial⟩)
 ·cases hc
end z29
namespace z1t
structure Gs where
 z1x:z1x.Q
noncomputable def main {R:Type} (G:Gs) (n:Nat) (a b:Dc) (K:Bool->Option R):Option R:=
 (G.z1x a.args b.args).bind λr=>
 bif !r then
  (K false)
 else
  bif !decide (a.result=b.result)then
   (K false)
  else
   K true
noncomputable def ax (G:Gs) (a b:Dc) (r:Bool):Prop:=∃n,main (R:=AT×List Ob) G n a b (λr0=>some (.one (.b r0),[]))=some (.one (.b r),[])
theorem ok {G:Gs} (hG:AE [z1x.ent G.z1x]) {g:Q} (hg:∀a b r,g a b=some r->ax G a b r):EO (ent g):=λR xs H K r hc=>by
 simp only[ent]at hc;split at hc
 ·exact okL hc λr j=>let⟨_,j⟩:=hg _ _ _ j;fF hG ⟨16,0,[],[],[4],[],[]⟩ nP Tryz.func145 j
 ·cases hc
end z1t
namespace z1u
structure Gs where
 z1t:z1t.Q
noncomputable def ae (G:Gs):List Ent:=[z1t.ent G.z1t]
noncomputable def b4 {R:Type} (G:Gs) (n:Nat) (a b:LD) (i:Int) (nx:LD->LD->Int->Option R) (k0:Bool->Option R) (k1:Option R):Option R:=
 bif decide (i<(List.length a:Int))then
  (
  (ix a i).bind λe2=>
  (ix b i).bind λe4=>
  (G.z1t e2 e4).bind λr2=>
  bif !r2 then
   (k0 false)
  else
   nx a b (wr (i+1))
  )
 else
  k1
noncomputable def l4 {R:Type} (G:Gs) (n m:Nat) (a b:LD) (i:Int) (k0:Bool->Option R) (k1:Option R):Option R:=au (λ(v:LD×LD×Int) nx=>b4 G n v.1 v.2.1 v.2.2 (λy0 y1 y2=>nx (y0,y1,y2)) k0 k1) m (a,b,i)
noncomputable def main {R:Type} (G:Gs) (n:Nat) (a b:LD) (K:Bool->Option R):Option R:=
 bif !decide ((List.length a:Int)=(List.length b:Int))then
  (K false)
 else
  l4 G n n a b 0
   (λt4=>K t4)
   (K true)
noncomputable def dl4 (G:Gs) (n m:Nat) (R:Type) (st:St) (K:Kt R):Option R:=match st with
 |⟨[(0,.one (.l (.n 7) a)),(1,.one (.l (.n 7) b)),(5,.one (.i i))],[]⟩=>l4 G n m a b i (λt4=>K .ret ⟨[(4,.one (.b t4))],[]⟩) (K (.exit 0) ⟨[],[]⟩)
 |_=>none
noncomputable def pc (G:Gs) (n:Nat):Pcs:=⟨λR id st K=>bif Nat.beq id 4 then dl4 G n n R st K else none,nK,nK⟩
noncomputable def an:Ann:=⟨27,0,[(4,[0,1,5])],[],[4],[(6,⟨[([0,1,2,3,4,5,6,7,8,9],[],[])],[],[],[],[]⟩)],[]⟩
noncomputable abbrev bd:=ai Tryz.f122
noncomputable abbrev q4:=am [1,1,0,1,0,0] bd
theorem pl4 {G:Gs} (hG:AE (ae G)) (n:Nat):∀m,PO an (.loop q4) (dl4 G n m):=lpc hG (pc G n) [0,1,5] ⟨[],[4],[(0,[])]⟩ (apl [] trivial) (λR st K=>by unfold dl4;split<;>rfl) λm R st K r h=>by unfold dl4 at h;split at h;exact .trans (by kernel_rfl) h;cases h
noncomputable def ax (G:Gs) (a b:LD) (r:Bool):Prop:=∃n,main (R:=AT×List Ob) G n a b (λr0=>some (.one (.b r0),[]))=some (.one (.b r),[])
theorem ok {G:Gs} (hG:AE (ae G)) {g:Q} (hg:∀a b r,g a b=some r->ax G a b r):EO (ent g):=λR xs H K r hc=>by
 simp only[ent]at hc;split at hc
 ·exact okL hc λr j=>let⟨n,j⟩:=hg _ _ _ j;fF hG an (pc G n) Tryz.func122 j (apl [(1,4,.loop q4)] ⟨pl4 hG n n,trivial⟩)
 ·cases hc
end z1u
namespace z1z
structure Gs where
 z1u:z1u.Q
noncomputable def main {R:Type} (G:Gs) (n:Nat) (a b:Opr) (K:Bool->Option R):Option R:=
 bif !sEq a.name b.name then
  (K false)
 else
  (G.z1u a.decls b.decls).bind λr=>
  bif !r then
   (K false)
  else
   bif !(a.assoc==b.assoc)then
    (K false)
   else
    bif !(a.comm==b.comm)then
     (K false)
    else
     bif !decide (a.unit=b.unit)then
      (K false)
     else
      K true
noncomputable def ax (G:Gs) (a b:Opr) (r:Bool):Prop:=∃n,main (R:=AT×List Ob) G n a b (λr0=>some (.one (.b r0),[]))=some (.one (.b r),[])
theorem ok {G:Gs} (hG:AE [z1u.ent G.z1u]) {g:Q} (hg:∀a b r,g a b=some r->ax G a b r):EO (ent g):=λR xs H K r hc=>by
 simp only[ent]at hc;split at hc
 ·exact okL hc λr j=>let⟨_,j⟩:=hg _ _ _ j;fF hG ⟨31,0,[],[],[4],[],[]⟩ nP Tryz.func83 j
 ·cases hc
end z1z
namespace z21
structure Gs where
 z1z:z1z.Q
noncomputable def ae (G:Gs):List Ent:=[z1z.ent G.z1z]
noncomputable def b4 {R:Type} (G:Gs) (n:Nat) (a b:LO) (i:Int) (nx:LO->LO->Int->Option R) (k0:Bool->Option R) (k1:Option R):Option R:=
 bif decide (i<(List.length a:Int))then
  (
  (ix a i).bind λe2=>
  (ix b i).bind λe4=>
  (G.z1z e2 e4).bind λr2=>
  bif !r2 then
   (k0 false)
  else
   nx a b (wr (i+1))
  )
 else
  k1
noncomputable def l4 {R:Type} (G:Gs) (n m:Nat) (a b:LO) (i:Int) (k0:Bool->Option R) (k1:Option R):Option R:=au (λ(v:LO×LO×Int) nx=>b4 G n v.1 v.2.1 v.2.2 (λy0 y1 y2=>nx (y0,y1,y2)) k0 k1) m (a,b,i)
noncomputable def main {R:Type} (G:Gs) (n:Nat) (a b:LO) (K:Bool->Option R):Option R:=
 bif !decide ((List.length a:Int)=(List.length b:Int))then
  (K false)
 else
  l4 G n n a b 0
   (λt4=>K t4)
   (K true)
noncomputable def dl4 (G:Gs) (n m:Nat) (R:Type) (st:St) (K:Kt R):Option R:=match st with
 |⟨[(0,.one (.l (.n 8) a)),(1,.one (.l (.n 8) b)),(5,.one (.i i))],[]⟩=>l4 G n m a b i (λt4=>K .ret ⟨[(4,.one (.b t4))],[]⟩) (K (.exit 0) ⟨[],[]⟩)
 |_=>none
noncomputable def pc (G:Gs) (n:Nat):Pcs:=⟨λR id st K=>bif Nat.beq id 4 then dl4 G n n R st K else none,nK,nK⟩
noncomputable def an:Ann:=⟨27,0,[(4,[0,1,5])],[],[4],[(6,⟨[([0,1,2,3,4,5,6,7,8,9],[],[])],[],[],[],[]⟩)],[]⟩
noncomputable abbrev bd:=ai Tryz.f45
noncomputable abbrev q4:=am [1,1,0,1,0,0] bd
theorem pl4 {G:Gs} (hG:AE (ae G)) (n:Nat):∀m,PO an (.loop q4) (dl4 G n m):=lpc hG (pc G n) [0,1,5] ⟨[],[4],[(0,[])]⟩ (apl [] trivial) (λR st K=>by unfold dl4;split<;>rfl) λm R st K r h=>by unfold dl4 at h;split at h;exact .trans (by kernel_rfl) h;cases h
noncomputable def ax (G:Gs) (a b:LO) (r:Bool):Prop:=∃n,main (R:=AT×List Ob) G n a b (λr0=>some (.one (.b r0),[]))=some (.one (.b r),[])
theorem ok {G:Gs} (hG:AE (ae G)) {g:Q} (hg:∀a b r,g a b=some r->ax G a b r):EO (ent g):=λR xs H K r hc=>by
 simp only[ent]at hc;split at hc
 ·exact okL hc λr j=>let⟨n,j⟩:=hg _ _ _ j;fF hG an (pc G n) Tryz.func45 j (apl [(1,4,.loop q4)] ⟨pl4 hG n n,trivial⟩)
 ·cases hc
end z21
namespace z26
structure Gs where
 z27:z27.Q
 z29:z29.Q
noncomputable def main {R:Type} (G:Gs) (n:Nat) (a b:So) (K:Bool->Option R):Option R:=
 (G.z27 a.names b.names).bind λr=>
 bif !r then
  (K false)
 else
  (G.z29 a.subs b.subs).bind λr2=>
  bif !r2 then
   (K false)
  else
   K true
noncomputable def ax (G:Gs) (a b:So) (r:Bool):Prop:=∃n,main (R:=AT×List Ob) G n a b (λr0=>some (.one (.b r0),[]))=some (.one (.b r),[])
theorem ok {G:Gs} (hG:AE [z27.ent G.z27,z29.ent G.z29]) {g:Q} (hg:∀a b r,g a b=some r->ax G a b r):EO (ent g):=λR xs H K r hc=>by
 simp only[ent]at hc;split at hc
 ·exact okL hc λr j=>let⟨_,j⟩:=hg _ _ _ j;fF hG ⟨17,0,[],[],[4],[],[]⟩ nP Tryz.func44 j
 ·cases hc
end z26
namespace z24
structure Gs where
 z26:z26.Q
 z21:z21.Q
noncomputable def main {R:Type} (G:Gs) (n:Nat) (a b:Sg) (K:Bool->Option R):Option R:=
 (G.z26 a.sorts b.sorts).bind λr=>
 bif !r then
  (K false)
 else
  (G.z21 a.ops b.ops).bind λr2=>
  bif !r2 then
   (K false)
  else
   K true
noncomputable def ax (G:Gs) (a b:Sg) (r:Bool):Prop:=∃n,main (R:=AT×List Ob) G n a b (λr0=>some (.one (.b r0),[]))=some (.one (.b r),[])
theorem ok {G:Gs} (hG:AE [z26.ent G.z26,z21.ent G.z21]) {g:Q} (hg:∀a b r,g a b=some r->ax G a b r):EO (ent g):=λR xs H K r hc=>by
 simp only[ent]at hc;split at hc
 ·exact okL hc λr j=>let⟨_,j⟩:=hg _ _ _ j;fF hG ⟨17,0,[],[],[4],[],[]⟩ nP Tryz.func23 j
 ·cases hc
end z24
namespace z2y
structure Gs where
 none_:Unit
noncomputable def ae (_:Gs):List Ent:=[]
noncomputable def b3 {R:Type} (G:Gs) (n:Nat) (a:LI) (i:Int) (h0:LI) (nx:LI->Int->LI->Option R) (k0:LI->Option R):Option R:=
 bif decide (i<(List.length a:Int))then
  (
  (ix a i).bind λe=>
  (ix h0 i).bind λe2=>
  nx a (wr (i+1)) (List.set h0 (Int.toNat i) e)
  )
 else
  k0 h0
noncomputable def l3 {R:Type} (G:Gs) (n m:Nat) (a:LI) (i:Int) (h0:LI) (k0:LI->Option R):Option R:=au (λ(v:LI×Int×LI) nx=>b3 G n v.1 v.2.1 v.2.2 (λy0 y1 y2=>nx (y0,y1,y2)) k0) m (a,i,h0)
noncomputable def main {R:Type} (G:Gs) (n:Nat) (a:LI) (K:LI->Option R):Option R:=
 (mk (α:=Int) 0 (List.length a:Int)).bind λxs=>
 l3 G n n a 0 xs
  (λh0=>K h0)
noncomputable def dl3 (G:Gs) (n m:Nat) (R:Type) (st:St) (K:Kt R):Option R:=match st with
 |⟨[(0,.one (.l .i a)),(3,.one (.o 0)),(4,.one (.i i))],[.row .i 0 h0]⟩=>l3 G n m a i h0 (λh0=>K (.exit 0) ⟨[(3,.one (.o 0))],[.row .i 0 h0]⟩)
 |_=>none
noncomputable def pc (G:Gs) (n:Nat):Pcs:=⟨λR id st K=>bif Nat.beq id 3 then dl3 G n n R st K else none,nK,nK⟩
noncomputable def an:Ann:=⟨22,0,[(3,[0,3,4])],[],[2],[],[]⟩
noncomputable abbrev bd:=ai Tryz.f7
noncomputable abbrev q3:=am [1,1,0,1,0,0] bd
theorem pl3 {G:Gs} (hG:AE (ae G)) (n:Nat):∀m,PO an (.loop q3) (dl3 G n m):=lpc hG (pc G n) [0,3,4] ⟨[3],[2],[(0,[3])]⟩ (apl [] trivial) (λR st K=>by unfold dl3;split<;>rfl) λm R st K r h=>by unfold dl3 at h;split at h;exact .trans (by kernel_rfl) h;cases h
noncomputable def ax (G:Gs) (a r:LI):Prop:=∃n,main (R:=AT×List Ob) G n a (λr0=>some (.one (.l .i r0),[]))=some (.one (.l .i r),[])
theorem ok {G:Gs} (hG:AE (ae G)) {g:Q} (hg:∀a r,g a=some r->ax G a r):EO (ent g):=λR xs H K r hc=>by
 simp only[ent]at hc;split at hc
 ·exact okL hc λr j=>let⟨n,j⟩:=hg _ _ j;fF hG an (pc G n) Tryz.func7 j (apl [(1,3,.loop q3)] ⟨pl3 hG n n,trivial⟩)
 ·cases hc
end z2y
namespace z34
structure Gs where
 none_:Unit
noncomputable def ae (_:Gs):List Ent:=[]
noncomputable def b3 {R:Type} (G:Gs) (n:Nat) (a:LB) (i:Int) (h0:LB) (nx:LB->Int->LB->Option R) (k0:LB->Option R):Option R:=
 bif decide (i<(List.length a:Int))then
  (
  (ix a i).bind λe=>
  (ix h0 i).bind λe2=>
  nx a (wr (i+1)) (List.set h0 (Int.toNat i) e)
  )
 else
  k0 h0
noncomputable def l3 {R:Type} (G:Gs) (n m:Nat) (a:LB) (i:Int) (h0:LB) (k0:LB->Option R):Option R:=au (λ(v:LB×Int×LB) nx=>b3 G n v.1 v.2.1 v.2.2 (λy0 y1 y2=>nx (y0,y1,y2)) k0) m (a,i,h0)
noncomputable def main {R:Type} (G:Gs) (n:Nat) (a:LB) (K:LB->Option R):Option R:=
 (mk (α:=ByteArray) ByteArray.empty (List.length a:Int)).bind λxs=>
 l3 G n n a 0 xs
  (λh0=>K h0)
noncomputable def dl3 (G:Gs) (n m:Nat) (R:Type) (st:St) (K:Kt R):Option R:=match st with
 |⟨[(0,.one (.l .s a)),(3,.one (.o 0)),(4,.one (.i i))],[.row .s 0 h0]⟩=>l3 G n m a i h0 (λh0=>K (.exit 0) ⟨[(3,.one (.o 0))],[.row .s 0 h0]⟩)
 |_=>none
noncomputable def pc (G:Gs) (n:Nat):Pcs:=⟨λR id st K=>bif Nat.beq id 3 then dl3 G n n R st K else none,nK,nK⟩
noncomputable def an:Ann:=⟨22,0,[(3,[0,3,4])],[],[2],[],[]⟩
noncomputable abbrev bd:=ai Tryz.f61
noncomputable abbrev q3:=am [1,1,0,1,0,0] bd
theorem pl3 {G:Gs} (hG:AE (ae G)) (n:Nat):∀m,PO an (.loop q3) (dl3 G n m):=lpc hG (pc G n) [0,3,4] ⟨[3],[2],[(0,[3])]⟩ (apl [] trivial) (λR st K=>by unfold dl3;split<;>rfl) λm R st K r h=>by unfold dl3 at h;split at h;exact .trans (by kernel_rfl) h;cases h
noncomputable def ax (G:Gs) (a r:LB):Prop:=∃n,main (R:=AT×List Ob) G n a (λr0=>some (.one (.l .s r0),[]))=some (.one (.l .s r),[])
theorem ok {G:Gs} (hG:AE (ae G)) {g:Q} (hg:∀a r,g a=some r->ax G a r):EO (ent g):=λR xs H K r hc=>by
 simp only[ent]at hc;split at hc
 ·exact okL hc λr j=>let⟨n,j⟩:=hg _ _ j;fF hG an (pc G n) Tryz.func61 j (apl [(1,3,.loop q3)] ⟨pl3 hG n n,trivial⟩)
 ·cases hc
end z34
namespace z35
structure Gs where
 none_:Unit
noncomputable def main {R:Type} (G:Gs) (n:Nat) (a:Sb) (K:Sb->Option R):Option R:=
 K a
noncomputable def ax (G:Gs) (a r:Sb):Prop:=∃n,main (R:=AT×List Ob) G n a (λr0=>some (.agg [.i r0.low,.i r0.high],[]))=some (.agg [.i r.low,.i r.high],[])
theorem ok {G:Gs} (hG:AE []) {g:Q} (hg:∀a r,g a=some r->ax G a r):EO (ent g):=λR xs H K r hc=>by
 simp only[ent]at hc;split at hc
 ·exact okL hc λr j=>let⟨_,j⟩:=hg _ _ j;fF hG ⟨11,0,[],[],[2],[],[]⟩ nP Tryz.func100 j
 ·cases hc
end z35
namespace z36
structure Gs where
 z35:z35.Q
noncomputable def ae (G:Gs):List Ent:=[z35.ent G.z35]
noncomputable def b3 {R:Type} (G:Gs) (n:Nat) (a:LS) (i:Int) (h0:LS) (nx:LS->Int->LS->Option R) (k0:LS->Option R):Option R:=
 bif decide (i<(List.length a:Int))then
  (
  (ix a i).bind λe=>
  (G.z35 e).bind λr=>
  (ix h0 i).bind λe2=>
  nx a (wr (i+1)) (List.set h0 (Int.toNat i) r)
  )
 else
  k0 h0
noncomputable def l3 {R:Type} (G:Gs) (n m:Nat) (a:LS) (i:Int) (h0:LS) (k0:LS->Option R):Option R:=au (λ(v:LS×Int×LS) nx=>b3 G n v.1 v.2.1 v.2.2 (λy0 y1 y2=>nx (y0,y1,y2)) k0) m (a,i,h0)
noncomputable def main {R:Type} (G:Gs) (n:Nat) (a:LS) (K:LS->Option R):Option R:=
 (mk (α:=Sb) (Sb.mk 0 0) (List.length a:Int)).bind λxs=>
 l3 G n n a 0 xs
  (λh0=>K h0)
noncomputable def dl3 (G:Gs) (n m:Nat) (R:Type) (st:St) (K:Kt R):Option R:=match st with
 |⟨[(0,.one (.l (.n 5) a)),(3,.one (.o 0)),(4,.one (.i i))],[.row (.n 5) 0 h0]⟩=>l3 G n m a i h0 (λh0=>K (.exit 0) ⟨[(3,.one (.o 0))],[.row (.n 5) 0 h0]⟩)
 |_=>none
noncomputable def pc (G:Gs) (n:Nat):Pcs:=⟨λR id st K=>bif Nat.beq id 3 then dl3 G n n R st K else none,nK,nK⟩
noncomputable def an:Ann:=⟨23,0,[(3,[0,3,4])],[],[2],[],[]⟩
noncomputable abbrev bd:=ai Tryz.f62
noncomputable abbrev q3:=am [1,1,0,1,0,0] bd
theorem pl3 {G:Gs} (hG:AE (ae G)) (n:Nat):∀m,PO an (.loop q3) (dl3 G n m):=lpc hG (pc G n) [0,3,4] ⟨[3],[2],[(0,[3])]⟩ (apl [] trivial) (λR st K=>by unfold dl3;split<;>rfl) λm R st K r h=>by unfold dl3 at h;split at h;exact .trans (by kernel_rfl) h;cases h
noncomputable def ax (G:Gs) (a r:LS):Prop:=∃n,main (R:=AT×List Ob) G n a (λr0=>some (.one (.l (.n 5) r0),[]))=some (.one (.l (.n 5) r),[])
theorem ok {G:Gs} (hG:AE (ae G)) {g:Q} (hg:∀a r,g a=some r->ax G a r):EO (ent g):=λR xs H K r hc=>by
 simp only[ent]at hc;split at hc
 ·exact okL hc λr j=>let⟨n,j⟩:=hg _ _ j;fF hG an (pc G n) Tryz.func62 j (apl [(1,3,.loop q3)] ⟨pl3 hG n n,trivial⟩)
 ·cases hc
end z36
namespace z2u
structure Gs where
 z2y:z2y.Q
noncomputable def main {R:Type} (G:Gs) (n:Nat) (a:Dc) (K:Dc->Option R):Option R:=
 (G.z2y a.args).bind λr=>
 K (Dc.mk r a.result)
noncomputable def ax (G:Gs) (a r:Dc):Prop:=∃n,main (R:=AT×List Ob) G n a (λr0=>some (.agg [.l .i r0.args,.i r0.result],[]))=some (.agg [.l .i r.args,.i r.result],[])
theorem ok {G:Gs} (hG:AE [z2y.ent G.z2y]) {g:Q} (hg:∀a r,g a=some r->ax G a r):EO (ent g):=λR xs H K r hc=>by
 simp only[ent]at hc;split at hc
 ·exact okL hc λr j=>let⟨_,j⟩:=hg _ _ j;fF hG ⟨12,0,[],[],[2],[],[]⟩ nP Tryz.func134 j
 ·cases hc
end z2u
namespace z2v
structure Gs where
 z2u:z2u.Q
noncomputable def ae (G:Gs):List Ent:=[z2u.ent G.z2u]
noncomputable def b3 {R:Type} (G:Gs) (n:Nat) (a:LD) (i:Int) (h0:LD) (nx:LD->Int->LD->Option R) (k0:LD->Option R):Option R:=
 bif decide (i<(List.length a:Int))then
  (
  (ix a i).bind λe=>
  (G.z2u e).bind λr=>
  (ix h0 i).bind λe2=>
  nx a (wr (i+1)) (List.set h0 (Int.toNat i) r)
  )
 else
  k0 h0
noncomputable def l3 {R:Type} (G:Gs) (n m:Nat) (a:LD) (i:Int) (h0:LD) (k0:LD->Option R):Option R:=au (λ(v:LD×Int×LD) nx=>b3 G n v.1 v.2.1 v.2.2 (λy0 y1 y2=>nx (y0,y1,y2)) k0) m (a,i,h0)
noncomputable def main {R:Type} (G:Gs) (n:Nat) (a:LD) (K:LD->Option R):Option R:=
 (mk (α:=Dc) (Dc.mk [] 0) (List.length a:Int)).bind λxs=>
 l3 G n n a 0 xs
  (λh0=>K h0)
noncomputable def dl3 (G:Gs) (n m:Nat) (R:Type) (st:St) (K:Kt R):Option R:=match st with
 |⟨[(0,.one (.l (.n 7) a)),(3,.one (.o 0)),(4,.one (.i i))],[.row (.n 7) 0 h0]⟩=>l3 G n m a i h0 (λh0=>K (.exit 0) ⟨[(3,.one (.o 0))],[.row (.n 7) 0 h0]⟩)
 |_=>none
noncomputable def pc (G:Gs) (n:Nat):Pcs:=⟨λR id st K=>bif Nat.beq id 3 then dl3 G n n R st K else none,nK,nK⟩
noncomputable def an:Ann:=⟨23,0,[(3,[0,3,4])],[],[2],[],[]⟩
noncomputable abbrev bd:=ai Tryz.f101
noncomputable abbrev q3:=am [1,1,0,1,0,0] bd
theorem pl3 {G:Gs} (hG:AE (ae G)) (n:Nat):∀m,PO an (.loop q3) (dl3 G n m):=lpc hG (pc G n) [0,3,4] ⟨[3],[2],[(0,[3])]⟩ (apl [] trivial) (λR st K=>by unfold dl3;split<;>rfl) λm R st K r h=>by unfold dl3 at h;split at h;exact .trans (by kernel_rfl) h;cases h
noncomputable def ax (G:Gs) (a r:LD):Prop:=∃n,main (R:=AT×List Ob) G n a (λr0=>some (.one (.l (.n 7) r0),[]))=some (.one (.l (.n 7) r),[])
theorem ok {G:Gs} (hG:AE (ae G)) {g:Q} (hg:∀a r,g a=some r->ax G a r):EO (ent g):=λR xs H K r hc=>by
 simp only[ent]at hc;split at hc
 ·exact okL hc λr j=>let⟨n,j⟩:=hg _ _ j;fF hG an (pc G n) Tryz.func101 j (apl [(1,3,.loop q3)] ⟨pl3 hG n n,trivial⟩)
 ·cases hc
end z2v
namespace z30
structure Gs where
 z2v:z2v.Q
noncomputable def main {R:Type} (G:Gs) (n:Nat) (a:Opr) (K:Opr->Option R):Option R:=
 (G.z2v a.decls).bind λr=>
 K (Opr.mk a.name r a.assoc a.comm a.unit)
noncomputable def ax (G:Gs) (a r:Opr):Prop:=∃n,main (R:=AT×List Ob) G n a (λr0=>some (.agg [.s r0.name,.l (.n 7) r0.decls,.b r0.assoc,.b r0.comm,.i r0.unit],[]))=some (.agg [.s r.name,.l (.n 7) r.decls,.b r.assoc,.b r.comm,.i r.unit],[])
theorem ok {G:Gs} (hG:AE [z2v.ent G.z2v]) {g:Q} (hg:∀a r,g a=some r->ax G a r):EO (ent g):=λR xs H K r hc=>by
 simp only[ent]at hc;split at hc
 ·exact okL hc λr j=>let⟨_,j⟩:=hg _ _ j;fF hG ⟨21,0,[],[],[2],[],[]⟩ nP Tryz.func63 j
 ·cases hc
end z30
namespace z31
structure Gs where
 z30:z30.Q
noncomputable def ae (G:Gs):List Ent:=[z30.ent G.z30]
noncomputable def b3 {R:Type} (G:Gs) (n:Nat) (a:LO) (i:Int) (h0:LO) (nx:LO->Int->LO->Option R) (k0:LO->Option R):Option R:=
 bif decide (i<(List.length a:Int))then
  (
  (ix a i).bind λe=>
  (G.z30 e).bind λr=>
  (ix h0 i).bind λe2=>
  nx a (wr (i+1)) (List.set h0 (Int.toNat i) r)
  )
 else
  k0 h0
noncomputable def l3 {R:Type} (G:Gs) (n m:Nat) (a:LO) (i:Int) (h0:LO) (k0:LO->Option R):Option R:=au (λ(v:LO×Int×LO) nx=>b3 G n v.1 v.2.1 v.2.2 (λy0 y1 y2=>nx (y0,y1,y2)) k0) m (a,i,h0)
noncomputable def main {R:Type} (G:Gs) (n:Nat) (a:LO) (K:LO->Option R):Option R:=
 (mk (α:=Opr) (Opr.mk ByteArray.empty [] false false 0) (List.length a:Int)).bind λxs=>
 l3 G n n a 0 xs
  (λh0=>K h0)
noncomputable def dl3 (G:Gs) (n m:Nat) (R:Type) (st:St) (K:Kt R):Option R:=match st with
 |⟨[(0,.one (.l (.n 8) a)),(3,.one (.o 0)),(4,.one (.i i))],[.row (.n 8) 0 h0]⟩=>l3 G n m a i h0 (λh0=>K (.exit 0) ⟨[(3,.one (.o 0))],[.row (.n 8) 0 h0]⟩)
 |_=>none
noncomputable def pc (G:Gs) (n:Nat):Pcs:=⟨λR id st K=>bif Nat.beq id 3 then dl3 G n n R st K else none,nK,nK⟩
noncomputable def an:Ann:=⟨23,0,[(3,[0,3,4])],[],[2],[],[]⟩
noncomputable abbrev bd:=ai Tryz.f35
noncomputable abbrev q3:=am [1,1,0,1,0,0] bd
theorem pl3 {G:Gs} (hG:AE (ae G)) (n:Nat):∀m,PO an (.loop q3) (dl3 G n m):=lpc hG (pc G n) [0,3,4] ⟨[3],[2],[(0,[3])]⟩ (apl [] trivial) (λR st K=>by unfold dl3;split<;>rfl) λm R st K r h=>by unfold dl3 at h;split at h;exact .trans (by kernel_rfl) h;cases h
noncomputable def ax (G:Gs) (a r:LO):Prop:=∃n,main (R:=AT×List Ob) G n a (λr0=>some (.one (.l (.n 8) r0),[]))=some (.one (.l (.n 8) r),[])
theorem ok {G:Gs} (hG:AE (ae G)) {g:Q} (hg:∀a r,g a=some r->ax G a r):EO (ent g):=λR xs H K r hc=>by
 simp only[ent]at hc;split at hc
 ·exact okL hc λr j=>let⟨n,j⟩:=hg _ _ j;fF hG an (pc G n) Tryz.func35 j (apl [(1,3,.loop q3)] ⟨pl3 hG n n,trivial⟩)
 ·cases hc
end z31
namespace z33
structure Gs where
 z34:z34.Q
 z36:z36.Q
noncomputable def main {R:Type} (G:Gs) (n:Nat) (a:So) (K:So->Option R):Option R:=
 (G.z34 a.names).bind λr=>
 (G.z36 a.subs).bind λr2=>
 K (So.mk r r2)
noncomputable def ax (G:Gs) (a r:So):Prop:=∃n,main (R:=AT×List Ob) G n a (λr0=>some (.agg [.l .s r0.names,.l (.n 5) r0.subs],[]))=some (.agg [.l .s r.names,.l (.n 5) r.subs],[])
theorem ok {G:Gs} (hG:AE [z34.ent G.z34,z36.ent G.z36]) {g:Q} (hg:∀a r,g a=some r->ax G a r):EO (ent g):=λR xs H K r hc=>by
 simp only[ent]at hc;split at hc
 ·exact okL hc λr j=>let⟨_,j⟩:=hg _ _ j;fF hG ⟨13,0,[],[],[2],[],[]⟩ nP Tryz.func34 j
 ·cases hc
end z33
namespace z32
structure Gs where
 z33:z33.Q
 z31:z31.Q
noncomputable def main {R:Type} (G:Gs) (n:Nat) (a:Sg) (K:Sg->Option R):Option R:=
 (G.z33 a.sorts).bind λr=>
 (G.z31 a.ops).bind λr2=>
 K (Sg.mk r r2)
noncomputable def ax (G:Gs) (a r:Sg):Prop:=∃n,main (R:=AT×List Ob) G n a (λr0=>some (.agg [.l .s r0.sorts.names,.l (.n 5) r0.sorts.subs,.l (.n 8) r0.ops],[]))=some (.agg [.l .s r.sorts.names,.l (.n 5) r.sorts.subs,.l (.n 8) r.ops],[])
theorem ok {G:Gs} (hG:AE [z33.ent G.z33,z31.ent G.z31]) {g:Q} (hg:∀a r,g a=some r->ax G a r):EO (ent g):=λR xs H K r hc=>by
 simp only[ent]at hc;split at hc
 ·exact okL hc λr j=>let⟨_,j⟩:=hg _ _ j;fF hG ⟨13,0,[],[],[2],[],[]⟩ nP Tryz.func16 j
 ·cases hc
end z32
namespace z2i
structure Gs where
 none_:Unit
noncomputable def main {R:Type} (G:Gs) (n:Nat) (a:LI) (left:Int) (K:Int->Option R):Option R:=
 bif decide ((wr (left-(List.length a:Int)))<0)then
  (K (-1))
 else
  K (wr (left-(List.length a:Int)))
noncomputable def ax (G:Gs) (a:LI) (left r:Int):Prop:=∃n,main (R:=AT×List Ob) G n a left (λr0=>some (.one (.i r0),[]))=some (.one (.i r),[])
theorem ok {G:Gs} (hG:AE []) {g:Q} (hg:∀a left r,g a left=some r->ax G a left r):EO (ent g):=λR xs H K r hc=>by
 simp only[ent]at hc;split at hc
 ·exact okL hc λr j=>let⟨_,j⟩:=hg _ _ _ j;fF hG ⟨12,0,[],[],[4],[],[]⟩ nP Tryz.func146 j
 ·cases hc
end z2i
namespace z2o
structure Gs where
 none_:Unit
noncomputable def ae (_:Gs):List Ent:=[]
noncomputable def b5 {R:Type} (G:Gs) (n:Nat) (a:LB) (left i:Int) (nx:LB->Int->Int->Option R) (k0 k1:Int->Option R):Option R:=
 bif decide (i<(List.length a:Int))then
  (
  (ix a i).bind λe=>
  bif decide ((wr (left-(ByteArray.size e:Int)))<0)then
   (k0 (-1))
  else
   nx a (wr (left-(ByteArray.size e:Int))) (wr (i+1))
  )
 else
  k1 left
noncomputable def l5 {R:Type} (G:Gs) (n m:Nat) (a:LB) (left i:Int) (k0 k1:Int->Option R):Option R:=au (λ(v:LB×Int×Int) nx=>b5 G n v.1 v.2.1 v.2.2 (λy0 y1 y2=>nx (y0,y1,y2)) k0 k1) m (a,left,i)
noncomputable def main {R:Type} (G:Gs) (n:Nat) (a:LB) (left:Int) (K:Int->Option R):Option R:=
 bif decide ((wr (left-(List.length a:Int)))<0)then
  (K (-1))
 else
  l5 G n n a (wr (left-(List.length a:Int))) 0
   (λt4=>K t4)
   (λleft2=>K left2)
noncomputable def dl5 (G:Gs) (n m:Nat) (R:Type) (st:St) (K:Kt R):Option R:=match st with
 |⟨[(0,.one (.l .s a)),(1,.one (.i left)),(5,.one (.i i))],[]⟩=>l5 G n m a left i (λt4=>K .ret ⟨[(4,.one (.i t4))],[]⟩) (λleft=>K (.exit 0) ⟨[(1,.one (.i left))],[]⟩)
 |_=>none
noncomputable def pc (G:Gs) (n:Nat):Pcs:=⟨λR id st K=>bif Nat.beq id 5 then dl5 G n n R st K else none,nK,nK⟩
noncomputable def an:Ann:=⟨28,0,[(5,[0,1,5])],[],[4],[],[]⟩
noncomputable abbrev bd:=ai Tryz.f47
noncomputable abbrev q5:=am [1,1,1,0,1,0,0] bd
theorem pl5 {G:Gs} (hG:AE (ae G)) (n:Nat):∀m,PO an (.loop q5) (dl5 G n m):=lpc hG (pc G n) [0,1,5] ⟨[1],[4],[(0,[1])]⟩ (apl [] trivial) (λR st K=>by unfold dl5;split<;>rfl) λm R st K r h=>by unfold dl5 at h;split at h;exact .trans (by kernel_rfl) h;cases h
noncomputable def ax (G:Gs) (a:LB) (left r:Int):Prop:=∃n,main (R:=AT×List Ob) G n a left (λr0=>some (.one (.i r0),[]))=some (.one (.i r),[])
theorem ok {G:Gs} (hG:AE (ae G)) {g:Q} (hg:∀a left r,g a left=some r->ax G a left r):EO (ent g):=λR xs H K r hc=>by
 simp only[ent]at hc;split at hc
 ·exact okL hc λr j=>let⟨n,j⟩:=hg _ _ _ j;fF hG an (pc G n) Tryz.func47 j (apl [(1,5,.loop q5)] ⟨pl5 hG n n,trivial⟩)
 ·cases hc
end z2o
namespace z2p
structure Gs where
 none_:Unit
noncomputable def main {R:Type} (G:Gs) (n:Nat) (a:LS) (left:Int) (K:Int->Option R):Option R:=
 bif decide ((wr (left-(List.length a:Int)))<0)then
  (K (-1))
 else
  K (wr (left-(List.length a:Int)))
noncomputable def ax (G:Gs) (a:LS) (left r:Int):Prop:=∃n,main (R:=AT×List Ob) G n a left (λr0=>some (.one (.i r0),[]))=some (.one (.i r),[])
theorem ok {G:Gs} (hG:AE []) {g:Q} (hg:∀a left r,g a left=some r->ax G a left r):EO (ent g):=λR xs H K r hc=>by
 simp only[ent]at hc;split at hc
 ·exact okL hc λr j=>let⟨_,j⟩:=hg _ _ _ j;fF hG ⟨12,0,[],[],[4],[],[]⟩ nP Tryz.func48 j
 ·cases hc
end z2p
namespace z2e
structure Gs where
 z2i:z2i.Q
noncomputable def main {R:Type} (G:Gs) (n:Nat) (a:Dc) (left:Int) (K:Int->Option R):Option R:=
 (G.z2i a.args left).bind λr=>
 bif decide (r<0)then
  (K (-1))
 else
  K r
noncomputable def ax (G:Gs) (a:Dc) (left r:Int):Prop:=∃n,main (R:=AT×List Ob) G n a left (λr0=>some (.one (.i r0),[]))=some (.one (.i r),[])
theorem ok {G:Gs} (hG:AE [z2i.ent G.z2i]) {g:Q} (hg:∀a left r,g a left=some r->ax G a left r):EO (ent g):=λR xs H K r hc=>by
 simp only[ent]at hc;split at hc
 ·exact okL hc λr j=>let⟨_,j⟩:=hg _ _ _ j;fF hG ⟨12,0,[],[],[4],[],[]⟩ nP Tryz.func125 j
 ·cases hc
end z2e
namespace z2f
structure Gs where
 z2e:z2e.Q
noncomputable def ae (G:Gs):List Ent:=[z2e.ent G.z2e]
noncomputable def b5 {R:Type} (G:Gs) (n:Nat) (a:LD) (left i:Int) (nx:LD->Int->Int->Option R) (k0 k1:Int->Option R):Option R:=
 bif decide (i<(List.length a:Int))then
  (
  (ix a i).bind λe=>
  (G.z2e e left).bind λr=>
  bif decide (r<0)then
   (k0 (-1))
  else
   nx a r (wr (i+1))
  )
 else
  k1 left
noncomputable def l5 {R:Type} (G:Gs) (n m:Nat) (a:LD) (left i:Int) (k0 k1:Int->Option R):Option R:=au (λ(v:LD×Int×Int) nx=>b5 G n v.1 v.2.1 v.2.2 (λy0 y1 y2=>nx (y0,y1,y2)) k0 k1) m (a,left,i)
noncomputable def main {R:Type} (G:Gs) (n:Nat) (a:LD) (left:Int) (K:Int->Option R):Option R:=
 bif decide ((wr (left-(List.length a:Int)))<0)then
  (K (-1))
 else
  l5 G n n a (wr (left-(List.length a:Int))) 0
   (λt4=>K t4)
   (λleft2=>K left2)
noncomputable def dl5 (G:Gs) (n m:Nat) (R:Type) (st:St) (K:Kt R):Option R:=match st with
 |⟨[(0,.one (.l (.n 7) a)),(1,.one (.i left)),(5,.one (.i i))],[]⟩=>l5 G n m a left i (λt4=>K .ret ⟨[(4,.one (.i t4))],[]⟩) (λleft=>K (.exit 0) ⟨[(1,.one (.i left))],[]⟩)
 |_=>none
noncomputable def pc (G:Gs) (n:Nat):Pcs:=⟨λR id st K=>bif Nat.beq id 5 then dl5 G n n R st K else none,nK,nK⟩
noncomputable def an:Ann:=⟨27,0,[(5,[0,1,5])],[],[4],[],[]⟩
noncomputable abbrev bd:=ai Tryz.f86
noncomputable abbrev q5:=am [1,1,1,0,1,0,0] bd
theorem pl5 {G:Gs} (hG:AE (ae G)) (n:Nat):∀m,PO an (.loop q5) (dl5 G n m):=lpc hG (pc G n) [0,1,5] ⟨[1],[4],[(0,[1])]⟩ (apl [] trivial) (λR st K=>by unfold dl5;split<;>rfl) λm R st K r h=>by unfold dl5 at h;split at h;exact .trans (by kernel_rfl) h;cases h
noncomputable def ax (G:Gs) (a:LD) (left r:Int):Prop:=∃n,main (R:=AT×List Ob) G n a left (λr0=>some (.one (.i r0),[]))=some (.one (.i r),[])
theorem ok {G:Gs} (hG:AE (ae G)) {g:Q} (hg:∀a left r,g a left=some r->ax G a left r):EO (ent g):=λR xs H K r hc=>by
 simp only[ent]at hc;split at hc
 ·exact okL hc λr j=>let⟨n,j⟩:=hg _ _ _ j;fF hG an (pc G n) Tryz.func86 j (apl [(1,5,.loop q5)] ⟨pl5 hG n n,trivial⟩)
 ·cases hc
end z2f
namespace z2k
structure Gs where
 z2f:z2f.Q
noncomputable def main {R:Type} (G:Gs) (n:Nat) (a:Opr) (left:Int) (K:Int->Option R):Option R:=
 bif decide ((wr (left-(ByteArray.size a.name:Int)))<0)then
  (K (-1))
 else
  (G.z2f a.decls (wr (left-(ByteArray.size a.name:Int)))).bind λr=>
  bif decide (r<0)then
   (K (-1))
  else
   K r
noncomputable def ax (G:Gs) (a:Opr) (left r:Int):Prop:=∃n,main (R:=AT×List Ob) G n a left (λr0=>some (.one (.i r0),[]))=some (.one (.i r),[])
theorem ok {G:Gs} (hG:AE [z2f.ent G.z2f]) {g:Q} (hg:∀a left r,g a left=some r->ax G a left r):EO (ent g):=λR xs H K r hc=>by
 simp only[ent]at hc;split at hc
 ·exact okL hc λr j=>let⟨_,j⟩:=hg _ _ _ j;fF hG ⟨19,0,[],[],[4],[],[]⟩ nP Tryz.func49 j
 ·cases hc
end z2k
namespace z2l
structure Gs where
 z2k:z2k.Q
noncomputable def ae (G:Gs):List Ent:=[z2k.ent G.z2k]
noncomputable def b5 {R:Type} (G:Gs) (n:Nat) (a:LO) (left i:Int) (nx:LO->Int->Int->Option R) (k0 k1:Int->Option R):Option R:=
 bif decide (i<(List.length a:Int))then
  (
  (ix a i).bind λe=>
  (G.z2k e left).bind λr=>
  bif decide (r<0)then
   (k0 (-1))
  else
   nx a r (wr (i+1))
  )
 else
  k1 left
noncomputable def l5 {R:Type} (G:Gs) (n m:Nat) (a:LO) (left i:Int) (k0 k1:Int->Option R):Option R:=au (λ(v:LO×Int×Int) nx=>b5 G n v.1 v.2.1 v.2.2 (λy0 y1 y2=>nx (y0,y1,y2)) k0 k1) m (a,left,i)
noncomputable def main {R:Type} (G:Gs) (n:Nat) (a:LO) (left:Int) (K:Int->Option R):Option R:=
 bif decide ((wr (left-(List.length a:Int)))<0)then
  (K (-1))
 else
  l5 G n n a (wr (left-(List.length a:Int))) 0
   (λt4=>K t4)
   (λleft2=>K left2)
noncomputable def dl5 (G:Gs) (n m:Nat) (R:Type) (st:St) (K:Kt R):Option R:=match st with
 |⟨[(0,.one (.l (.n 8) a)),(1,.one (.i left)),(5,.one (.i i))],[]⟩=>l5 G n m a left i (λt4=>K .ret ⟨[(4,.one (.i t4))],[]⟩) (λleft=>K (.exit 0) ⟨[(1,.one (.i left))],[]⟩)
 |_=>none
noncomputable def pc (G:Gs) (n:Nat):Pcs:=⟨λR id st K=>bif Nat.beq id 5 then dl5 G n n R st K else none,nK,nK⟩
noncomputable def an:Ann:=⟨27,0,[(5,[0,1,5])],[],[4],[],[]⟩
noncomputable abbrev bd:=ai Tryz.f26
noncomputable abbrev q5:=am [1,1,1,0,1,0,0] bd
theorem pl5 {G:Gs} (hG:AE (ae G)) (n:Nat):∀m,PO an (.loop q5) (dl5 G n m):=lpc hG (pc G n) [0,1,5] ⟨[1],[4],[(0,[1])]⟩ (apl [] trivial) (λR st K=>by unfold dl5;split<;>rfl) λm R st K r h=>by unfold dl5 at h;split at h;exact .trans (by kernel_rfl) h;cases h
noncomputable def ax (G:Gs) (a:LO) (left r:Int):Prop:=∃n,main (R:=AT×List Ob) G n a left (λr0=>some (.one (.i r0),[]))=some (.one (.i r),[])
theorem ok {G:Gs} (hG:AE (ae G)) {g:Q} (hg:∀a left r,g a left=some r->ax G a left r):EO (ent g):=λR xs H K r hc=>by
 simp only[ent]at hc;split at hc
 ·exact okL hc λr j=>let⟨n,j⟩:=hg _ _ _ j;fF hG an (pc G n) Tryz.func26 j (apl [(1,5,.loop q5)] ⟨pl5 hG n n,trivial⟩)
 ·cases hc
end z2l
namespace z2n
structure Gs where
 z2o:z2o.Q
 z2p:z2p.Q
noncomputable def main {R:Type} (G:Gs) (n:Nat) (a:So) (left:Int) (K:Int->Option R):Option R:=
 (G.z2o a.names left).bind λr=>
 bif decide (r<0)then
  (K (-1))
 else
  (G.z2p a.subs r).bind λr2=>
  bif decide (r2<0)then
   (K (-1))
  else
   K r2
noncomputable def ax (G:Gs) (a:So) (left r:Int):Prop:=∃n,main (R:=AT×List Ob) G n a left (λr0=>some (.one (.i r0),[]))=some (.one (.i r),[])
theorem ok {G:Gs} (hG:AE [z2o.ent G.z2o,z2p.ent G.z2p]) {g:Q} (hg:∀a left r,g a left=some r->ax G a left r):EO (ent g):=λR xs H K r hc=>by
 simp only[ent]at hc;split at hc
 ·exact okL hc λr j=>let⟨_,j⟩:=hg _ _ _ j;fF hG ⟨18,0,[],[],[4],[],[]⟩ nP Tryz.func25 j
 ·cases hc
end z2n
namespace z2m
structure Gs where
 z2n:z2n.Q
 z2l:z2l.Q
noncomputable def main {R:Type} (G:Gs) (n:Nat) (a:Sg) (left:Int) (K:Int->Option R):Option R:=
 (G.z2n a.sorts left).bind λr=>
 bif decide (r<0)then
  (K (-1))
 else
  (G.z2l a.ops r).bind λr2=>
  bif decide (r2<0)then
   (K (-1))
  else
   K r2
noncomputable def ax (G:Gs) (a:Sg) (left r:Int):Prop:=∃n,main (R:=AT×List Ob) G n a left (λr0=>some (.one (.i r0),[]))=some (.one (.i r),[])
theorem ok {G:Gs} (hG:AE [z2n.ent G.z2n,z2l.ent G.z2l]) {g:Q} (hg:∀a left r,g a left=some r->ax G a left r):EO (ent g):=λR xs H K r hc=>by
 simp only[ent]at hc;split at hc
 ·exact okL hc λr j=>let⟨_,j⟩:=hg _ _ _ j;fF hG ⟨18,0,[],[],[4],[],[]⟩ nP Tryz.func11 j
 ·cases hc
end z2m
namespace z2a
structure Gs where
 z2b:z2b.Q
noncomputable def main {R:Type} (G:Gs) (n:Nat) (a b:Tm) (K:Bool->Option R):Option R:=
 bif !decide (a.op=b.op)then
  (K false)
 else
  bif !sEq a.name b.name then
   (K false)
  else
   bif !decide (a.sort=b.sort)then
    (K false)
   else
    (G.z2b a.args b.args).bind λr=>
    bif !r then
     (K false)
    else
     K true
noncomputable def ax (G:Gs) (a b:Tm) (r:Bool):Prop:=∃n,main (R:=AT×List Ob) G n a b (λr0=>some (.one (.b r0),[]))=some (.one (.b r),[])
theorem ok {G:Gs} (hG:AE [z2b.ent G.z2b]) {g:Q} (hg:∀a b r,g a b=some r->ax G a b r):EO (ent g):=λR xs H K r hc=>by
 simp only[ent]at hc;split at hc
 ·exact okL hc λr j=>let⟨_,j⟩:=hg _ _ _ j;fF hG ⟨26,0,[],[],[4],[],[]⟩ nP Tryz.func84 j
 ·cases hc
end z2a
namespace z2b
structure Gs where
 z2a:z2a.Q
noncomputable def ae (G:Gs):List Ent:=[z2a.ent G.z2a]
noncomputable def b4 {R:Type} (G:Gs) (n:Nat) (a b:LT) (i:Int) (nx:LT->LT->Int->Option R) (k0:Bool->Option R) (k1:Option R):Option R:=
 bif decide (i<(List.length a:Int))then
  (
  (ix a i).bind λe2=>
  (ix b i).bind λe4=>
  (G.z2a (Tm.mk e2.op e2.name e2.sort e2.args) (Tm.mk e4.op e4.name e4.sort e4.args)).bind λr2=>
  bif !r2 then
   (k0 false)
  else
   nx a b (wr (i+1))
  )
 else
  k1
noncomputable def l4 {R:Type} (G:Gs) (n m:Nat) (a b:LT) (i:Int) (k0:Bool->Option R) (k1:Option R):Option R:=au (λ(v:LT×LT×Int) nx=>b4 G n v.1 v.2.1 v.2.2 (λy0 y1 y2=>nx (y0,y1,y2)) k0 k1) m (a,b,i)
noncomputable def main {R:Type} (G:Gs) (n:Nat) (a b:LT) (K:Bool->Option R):Option R:=
 bif !decide ((List.length a:Int)=(List.length b:Int))then
  (K false)
 else
  l4 G n n a b 0
   (λt4=>K t4)
   (K true)
noncomputable def dl4 (G:Gs) (n m:Nat) (R:Type) (st:St) (K:Kt R):Option R:=match st with
 |⟨[(0,.one (.l (.n 1) a)),(1,.one (.l (.n 1) b)),(5,.one (.i i))],[]⟩=>l4 G n m a b i (λt4=>K .ret ⟨[(4,.one (.b t4))],[]⟩) (K (.exit 0) ⟨[],[]⟩)
 |_=>none
noncomputable def pc (G:Gs) (n:Nat):Pcs:=⟨λR id st K=>bif Nat.beq id 4 then dl4 G n n R st K else none,nK,nK⟩
noncomputable def an:Ann:=⟨27,0,[(4,[0,1,5])],[],[4],[(6,⟨[([0,1,2,3,4,5,6,7,8,9],[],[])],[],[],[],[]⟩)],[]⟩
noncomputable abbrev bd:=ai Tryz.f123
noncomputable abbrev q4:=am [1,1,0,1,0,0] bd
theorem pl4 {G:Gs} (hG:AE (ae G)) (n:Nat):∀m,PO an (.loop q4) (dl4 G n m):=lpc hG (pc G n) [0,1,5] ⟨[],[4],[(0,[])]⟩ (apl [] trivial) (λR st K=>by unfold dl4;split<;>rfl) λm R st K r h=>by unfold dl4 at h;split at h;exact .trans (by kernel_rfl) h;cases h
noncomputable def ax (G:Gs) (a b:LT) (r:Bool):Prop:=∃n,main (R:=AT×List Ob) G n a b (λr0=>some (.one (.b r0),[]))=some (.one (.b r),[])
theorem ok {G:Gs} (hG:AE (ae G)) {g:Q} (hg:∀a b r,g a b=some r->ax G a b r):EO (ent g):=λR xs H K r hc=>by
 simp only[ent]at hc;split at hc
 ·exact okL hc λr j=>let⟨n,j⟩:=hg _ _ _ j;fF hG an (pc G n) Tryz.func123 j (apl [(1,4,.loop q4)] ⟨pl4 hG n n,trivial⟩)
 ·cases hc
end z2b
open Classical
abbrev uy (k:Nat):Tm->Option Tm:=λf=>if f.total<k then some f else none
abbrev rY (k:Nat):List Tm->Option (List Tm):=λl=>if bb l<k then some l else none
theorem CS (k:Nat) (hk:k<=2097152) (e:EO (z37.ent (uy k))):EO (z38.ent (rY (k+1))):=z38.ok (G:=⟨uy k⟩) ⟨e,trivial⟩ λ(xs:List Tm) r h=>by
 unfold rY at h;split at h
 ·rename_i hs;cases h;have hlen:=bm xs;exact⟨xs.length+1,eX xs _ (uy k) (λx hx=>if_pos (by have:=lF hx;omega)) (by omega) (λa i h nx=>z38.b3 ⟨uy k⟩ (xs.length+1) a i h nx (kL (.n 1))) (kL (.n 1)) λ_ _ _=>by simp only[z38.b3,Tm.eta]⟩
 ·cases h
theorem yP :∀k,k<=2097152->EO (z37.ent (uy k))
 | 0, _ => by
  intro R xs H K r h;simp only[z37.ent]at h;split at h
  ·cases h
  ·cases h
 | k + 1, hk => z37.ok      (G := ⟨rY (k + 1)⟩) ⟨CS k (by omega) (yP k (by omega)), trivial⟩ fun f r h => by
  unfold uy at h;split at h
  ·rename_i hs;cases h;refine⟨1,?_⟩;unfold z37.main;have e:rY (k+1) f.args=some f.args:=if_pos (by have:=az f;omega);show Option.bind (rY (k+1) f.args) _=_;rw[e];rfl
  ·cases h
noncomputable def s0 (k:Nat):Tm->Tm->Option Bool:=λf g=>if f=g/\f.total<k then some true else none
noncomputable def rX (k:Nat):List Tm->List Tm->Option Bool:=λf g=>if f=g/\bb f<k then some true else none
theorem Dr (k:Nat) (hk:k<=2097152) (e:EO (z2a.ent (s0 k))):EO (z2b.ent (rX (k+1))):=z2b.ok (G:=⟨s0 k⟩) ⟨e,trivial⟩ λ(xs ys:List Tm) r h=>by
 unfold rX at h;split at h
 ·rename_i hs;obtain⟨hxy,hs⟩:=hs;subst hxy;cases h;have hlen:=bm xs;exact⟨xs.length+1,eW xs (s0 k) (λx hx=>if_pos ⟨rfl,by have:=lF hx;omega⟩) (by omega) (λa b i nx=>z2b.b4 ⟨s0 k⟩ (xs.length+1) a b i nx kB (kB true)) (kB false) (kB true) λ_ _=>by simp only[z2b.b4,Tm.eta]⟩
 ·cases h
theorem AY :∀k,k<=2097152->EO (z2a.ent (s0 k))
 | 0, _ => by
  intro R xs H K r h;simp only[z2a.ent]at h;split at h
  ·simp[s0]at h
  ·cases h
 | k + 1, hk => z2a.ok      (G := ⟨rX (k + 1)⟩) ⟨Dr k (by omega) (AY k (by omega)), trivial⟩ fun f g r h => by
  unfold s0 at h;split at h
  ·rename_i hs;obtain⟨hxy,hs⟩:=hs;subst hxy;cases h;refine⟨1,?_⟩;unfold z2a.main;have e:rX (k+1) f.args f.args=some true:=if_pos ⟨rfl,by have:=az f;omega⟩;rw[dT rfl,dT rfl,show sEq f.name f.name=true from dT rfl,Bool.not_true,cF,cF,cF];show Option.bind (rX (k+1) f.args f.args) _=_;rw[e];rfl
  ·cases h
noncomputable def rp (k:Int):Tm->Int->Option Int:=λf left=>if Fit (.n 1) f/\0<=left/\left<=k then some (if ((Tm.total f:Nat):Int)<=left then left-(Tm.total f:Nat)else (-1:Int))else none
noncomputable def pj (k:Int):List Tm->Int->Option Int:=λl left=>if FitC (.l (.n 1) l)/\0<=left/\left<=k then some (if ((bb l:Nat):Int)<=left then left-(bb l:Nat)else (-1:Int))else none
theorem wi (k:Int) (hk:k<=2097151) (e:EO (z2q.ent (rp k))):EO (z2r.ent (pj (k+1))):=z2r.ok (G:=⟨rp k⟩) ⟨e,trivial⟩ λ(xs:List Tm) left r h=>by
 unfold pj at h;split at h
 ·rename_i hs;obtain⟨hf,h0,h1⟩:=hs;cases h;exact⟨xs.length+1,io xs Tm.total (rp k) (λx hx l l0 l1=>⟨_,if_pos ⟨hf.mem x hx,l0,by have:=List.length_pos_of_mem hx;omega⟩,by split<;>omega⟩) hf.len h0 (by omega) (λa l i nx=>z2r.b5 ⟨rp k⟩ (xs.length+1) a l i nx kI kI) kI λ_ _ _=>by simp only[z2r.b5,Tm.eta]⟩
 ·cases h
theorem s9 :∀k:Nat,k<=2097152->EO (z2q.ent (rp ((k:Int)-1)))
 | 0, _ => by
  intro R xs H K r h;simp only[z2q.ent]at h;split at h
  ·have:∀t l,rp (((0:Nat):Int)-1) t l=none:=λt l=>if_neg (by omega);rw[this]at h;cases h
  ·cases h
 | k + 1, hk => z2q.ok      (G := ⟨pj    (k : Int)⟩) ⟨by have := wi      ((k : Int) - 1) (by omega) (s9     k (by omega)); rwa [show (k : Int) - 1 + 1 = k by omega] at this, trivial⟩ fun f left r h => by
  unfold rp at h;split at h
  ·rename_i hs;obtain⟨hf,h0,h1⟩:=hs;cases h;refine⟨1,?_⟩;unfold z2q.main;have hn:f.name.size<=9223372036854775807:=FitC.str (hf _ (by simp[aj     ]));have ht:=az         f;rw[aI    (x:=left-(f.name.size:Int)) (by omega)];by_cases c0:(f.name.size:Int)<=left
   ·have e:pj    (k:Int) f.args (left-f.name.size)=some (if ((bb       f.args:Nat):Int)<=left-f.name.size then left-f.name.size-(bb       f.args:Nat)else (-1:Int)):=if_pos ⟨AJ       hf,by omega,by omega⟩;rw[dF (by omega),cF];show Option.bind (pj    (k:Int) f.args (left-f.name.size)) _=_;rw[e,bS];by_cases c:((bb       f.args:Nat):Int)<=left-f.name.size
    ·rw[if_pos c,dF (by omega),cF,if_pos (by omega),show left-(f.name.size:Int)-(bb f.args:Nat)=left-(f.total:Nat) by omega]
    ·rw[if_neg c,if_neg (by omega)];rfl
   ·rw[dT (by omega),cT,if_neg (by omega)]
  ·cases h
def Cn (xs:List Tm):Nat:=bb xs
theorem DN :∃g,EO (z2r.ent g)/\SZ (.sl (.n 1)) Cn g:=by
 refine⟨pj 1048577,?_,λxs left ⟨hf,h0,h1⟩=>⟨_,if_pos ⟨dM.1 hf,h0,by omega⟩,rfl⟩⟩;have:=wi 1048576 (by omega) (s9 1048577 (by omega));exact this
def al (x:Tm):Nat:=x.total
theorem my :∃g,EO (z2q.ent g)/\SZ (.n 1) al g:=by
 refine⟨rp 1048576,?_,λx left ⟨hf,h0,h1⟩=>⟨_,if_pos ⟨hf,h0,h1⟩,rfl⟩⟩;have:=s9 1048577 (by omega);exact this
theorem nE :∃g,EO (z37.ent g)/\TO (.n 1) al g:=
 ⟨uy 1048577,yP _ (by omega),λx ⟨_,h⟩=>⟨x,if_pos (by unfold al at h;omega),rfl⟩⟩
theorem ml :∃g,EO (z2a.ent g)/\EQ (.n 1) al g:=
 ⟨s0 1048577,AY _ (by omega),λx y ⟨e,_,h⟩=>⟨true,if_pos ⟨e,by unfold al at h;omega⟩,rfl⟩⟩
def bY (xs:List Int):Nat:=xs.length
theorem tH :∃g,EO (z2i.ent g)/\SZ (.sl .i) bY g:=by
 refine aJ (λg hg=>z2i.ok (G:=⟨()⟩) trivial hg) λ(xs:List Int) (left:Int) ⟨hf,h0,h1⟩=>⟨_,⟨1,?_⟩,rfl⟩
 have hlen:xs.length<=9223372036854775807:=(dM.1 hf).len;unfold z2i.main;rw[show wr (left-(List.length xs:Int))=left-(List.length xs:Int)from aI (by omega)];by_cases c1:(List.length xs:Int)<=left
 ·rw[dF (by omega),cF,if_pos (show ((bY xs:Nat):Int)<=left from c1)];rfl
 ·rw[dT (by omega),cT,if_neg (show ¬((bY xs:Nat):Int)<=left from c1)]
theorem wc {xs:List Int} (h:bY xs<=1048576):xs.length<=1048576:=h
theorem mR :∃g,EO (z2y.ent g)/\TO (.sl .i) bY g:=by
 exact bT (λg hg=>z2y.ok (G:=⟨()⟩) trivial hg) λ(xs:List Int) ⟨hf,h1⟩=>⟨_,⟨xs.length+1,eX xs _ some (λ_ _=>rfl) (by have:=(wc h1);omega) (λa i h nx=>z2y.b3 ⟨()⟩ (xs.length+1) a i h nx (kL .i)) (kL .i) (λ_ _ _=>rfl)⟩,rfl⟩
theorem nz :∃g,EO (z1x.ent g)/\EQ (.sl .i) bY g:=by
 exact aJ (λg hg=>z1x.ok (G:=⟨()⟩) trivial hg) λ(xs ys:List Int) ⟨hxy,hf,h1⟩=>by
  subst hxy;exact⟨_,⟨xs.length+1,eW xs (λa b=>some (decide (a=b))) (λ_ _=>congrArg some (dT rfl)) (by have:=(wc h1);omega) (λa b i nx=>z1x.b4 ⟨()⟩ (xs.length+1) a b i nx kB (kB true)) (kB false) (kB true) (λ_ _=>rfl)⟩,rfl⟩
def aU (xs:List ByteArray):Nat:=wL ByteArray.size xs
theorem nI :∃g,EO (z2o.ent g)/\SZ (.sl .s) aU g:=by
 exact aJ (λg hg=>z2o.ok (G:=⟨()⟩) trivial hg) λ(xs:List ByteArray) (left:Int) ⟨hf,h0,h1⟩=>⟨_,⟨xs.length+1,io xs ByteArray.size _ (Fv hf h1) (dM.1 hf).len h0 (by omega) (λa l i nx=>z2o.b5 ⟨()⟩ (xs.length+1) a l i nx kI kI) kI (λ_ _ _=>rfl)⟩,rfl⟩
theorem nq {xs:List ByteArray} (h:aU xs<=1048576):xs.length<=1048576/\∀x∈xs,x.size<=1048576:=by
 have h:xs.length+wS ByteArray.size xs<=1048576:=h;exact⟨by omega,λx hx=>by have:x.size<=wS ByteArray.size xs:=nC (f:=ByteArray.size) hx;omega⟩
theorem nV :∃g,EO (z34.ent g)/\TO (.sl .s) aU g:=by
 exact bT (λg hg=>z34.ok (G:=⟨()⟩) trivial hg) λ(xs:List ByteArray) ⟨hf,h1⟩=>⟨_,⟨xs.length+1,eX xs _ some (λ_ _=>rfl) (by have:=(nq h1).1;omega) (λa i h nx=>z34.b3 ⟨()⟩ (xs.length+1) a i h nx (kL .s)) (kL .s) (λ_ _ _=>rfl)⟩,rfl⟩
theorem nM :∃g,EO (z27.ent g)/\EQ (.sl .s) aU g:=by
 exact aJ (λg hg=>z27.ok (G:=⟨()⟩) trivial hg) λ(xs ys:List ByteArray) ⟨hxy,hf,h1⟩=>by
  subst hxy;exact⟨_,⟨xs.length+1,eW xs (λa b=>some (sEq a b)) (λ_ _=>congrArg some (dT rfl)) (by have:=(nq h1).1;omega) (λa b i nx=>z27.b4 ⟨()⟩ (xs.length+1) a b i nx kB (kB true)) (kB false) (kB true) (λ_ _=>rfl)⟩,rfl⟩
theorem v6 {x:Sb} (h:Fit (.n 5) x):Fit .i x.low/\Fit .i x.high:=by
 refine⟨λc hc=>h c ?_,λc hc=>h c ?_⟩<;>(simp only[aj,List.mem_cons,List.not_mem_nil,or_false]at hc ⊢;first|(subst hc;simp;done)|(rcases hc with rfl|rfl<;>simp;done)|(rcases hc with rfl|rfl|rfl<;>simp;done)|(rcases hc with rfl|rfl|rfl|rfl<;>simp;done))
theorem zV :∃g,EO (z35.ent g)/\TO (.n 5) (λ_=>0) g:=
 bT (λg hg=>z35.ok (G:=⟨()⟩) trivial hg) λx ⟨hf,h1⟩=>by
  obtain⟨hf0,hf1⟩:=v6 hf;refine⟨_,⟨1,?_⟩,rfl⟩;unfold z35.main;rfl
theorem xB :∃g,EO (z35.ent g)/\TO (.n 5) (λ_=>0) g:=by
 exact zV
theorem Au :∃g,EO (z28.ent g)/\EQ (.n 5) (λ_=>0) g:=
 aJ (λg hg=>z28.ok (G:=⟨()⟩) trivial hg) λx y ⟨hxy,hf,h1⟩=>by
  subst hxy;obtain⟨hf0,hf1⟩:=v6 hf;refine⟨_,⟨1,?_⟩,rfl⟩;unfold z28.main;simp[]
theorem yw :∃g,EO (z28.ent g)/\EQ (.n 5) (λ_=>0) g:=by
 exact Au
def bP (xs:List Sb):Nat:=xs.length
theorem tW :∃g,EO (z2p.ent g)/\SZ (.sl (.n 5)) bP g:=by
 refine aJ (λg hg=>z2p.ok (G:=⟨()⟩) trivial hg) λ(xs:List Sb) (left:Int) ⟨hf,h0,h1⟩=>⟨_,⟨1,?_⟩,rfl⟩
 have hlen:xs.length<=9223372036854775807:=(dM.1 hf).len;unfold z2p.main;rw[show wr (left-(List.length xs:Int))=left-(List.length xs:Int)from aI (by omega)];by_cases c1:(List.length xs:Int)<=left
 ·rw[dF (by omega),cF,if_pos (show ((bP xs:Nat):Int)<=left from c1)];rfl
 ·rw[dT (by omega),cT,if_neg (show ¬((bP xs:Nat):Int)<=left from c1)]
theorem vj {xs:List Sb} (h:bP xs<=1048576):xs.length<=1048576:=h
theorem uw :∃g,EO (z36.ent g)/\TO (.sl (.n 5)) bP g:=by
 obtain⟨gE,eE,hE⟩:=xB;exact bT (λg hg=>z36.ok (G:=⟨gE⟩) ⟨eE,trivial⟩ hg) λ(xs:List Sb) ⟨hf,h1⟩=>⟨_,⟨xs.length+1,eX xs _ gE (rS hE hf (λ_ _=>Nat.zero_le _)) (by have:=(vj h1);omega) (λa i h nx=>z36.b3 ⟨gE⟩ (xs.length+1) a i h nx (kL (.n 5))) (kL (.n 5)) (λ_ _ _=>rfl)⟩,rfl⟩
theorem tZ :∃g,EO (z29.ent g)/\EQ (.sl (.n 5)) bP g:=by
 obtain⟨gE,eE,hE⟩:=yw;exact aJ (λg hg=>z29.ok (G:=⟨gE⟩) ⟨eE,trivial⟩ hg) λ(xs ys:List Sb) ⟨hxy,hf,h1⟩=>by
  subst hxy;exact⟨_,⟨xs.length+1,eW xs gE (sV hE hf (λ_ _=>Nat.zero_le _)) (by have:=(vj h1);omega) (λa b i nx=>z29.b4 ⟨gE⟩ (xs.length+1) a b i nx kB (kB true)) (kB false) (kB true) (λ_ _=>rfl)⟩,rfl⟩
def cU (x:Dc):Nat:=bY x.args
theorem nk {x:Dc} (h:Fit (.n 7) x):Fit (.sl .i) x.args/\Fit .i x.result:=by
 refine⟨λc hc=>h c ?_,λc hc=>h c ?_⟩<;>(simp only[aj,List.mem_cons,List.not_mem_nil,or_false]at hc ⊢;first|(subst hc;simp;done)|(rcases hc with rfl|rfl<;>simp;done)|(rcases hc with rfl|rfl|rfl<;>simp;done)|(rcases hc with rfl|rfl|rfl|rfl<;>simp;done))
theorem xk {gIntS:List Int->Int->Option Int} (eIntS:EO (z2i.ent gIntS)) (hIntS:SZ (.sl .i) bY gIntS):∃g,EO (z2e.ent g)/\SZ (.n 7) cU g:=
 aJ (λg hg=>z2e.ok (G:=⟨gIntS⟩) ⟨eIntS,trivial⟩ hg) λx left ⟨hf,h0,h1⟩=>by
  obtain⟨hf0,hf1⟩:=nk hf;refine⟨_,⟨1,?_⟩,rfl⟩;unfold z2e.main;have ew:(cU x:Int)=(bY x.args:Int):=by show ((bY x.args:Nat):Int)=_;omega
  have r0:gIntS x.args (left)=some (if (bY x.args:Int)<=left then left-(bY x.args:Int)else -1):=by
   obtain⟨_,r,q⟩:=hIntS x.args (left) ⟨hf0,by omega,by omega⟩;rw[q]at r;exact r
  try dsimp only
  rw[r0,bS];by_cases c0:(bY x.args:Int)<=left
  case neg=>rw[if_neg c0,show decide ((-1:Int)<0)=true from rfl,cT,if_neg (by omega)]
  rw[if_pos c0,dF (by omega),cF];rw[if_pos (by omega)]
  first|(congr 4;done)|(congr 4;omega)
theorem tS :∃g,EO (z2e.ent g)/\SZ (.n 7) cU g:=by
 obtain⟨_,e0,h0⟩:=tH;exact xk e0 h0
theorem x8 {gIntS:List Int->Option (List Int)} (eIntS:EO (z2y.ent gIntS)) (hIntS:TO (.sl .i) bY gIntS):∃g,EO (z2u.ent g)/\TO (.n 7) cU g:=
 bT (λg hg=>z2u.ok (G:=⟨gIntS⟩) ⟨eIntS,trivial⟩ hg) λx ⟨hf,h1⟩=>by
  obtain⟨hf0,hf1⟩:=nk hf;refine⟨_,⟨1,?_⟩,rfl⟩;unfold z2u.main;have r0:gIntS x.args=some x.args:=by
   obtain⟨_,r,q⟩:=hIntS x.args ⟨hf0,(by have h1:bY x.args<=1048576:=h1;omega)⟩;rw[q]at r;exact r
  try dsimp only
  rw[r0,bS]
  try rfl
theorem tw :∃g,EO (z2u.ent g)/\TO (.n 7) cU g:=by
 obtain⟨_,e0,h0⟩:=mR;exact x8 e0 h0
theorem xT {gIntS:List Int->List Int->Option Bool} (eIntS:EO (z1x.ent gIntS)) (hIntS:EQ (.sl .i) bY gIntS):∃g,EO (z1t.ent g)/\EQ (.n 7) cU g:=
 aJ (λg hg=>z1t.ok (G:=⟨gIntS⟩) ⟨eIntS,trivial⟩ hg) λx y ⟨hxy,hf,h1⟩=>by
  subst hxy;obtain⟨hf0,hf1⟩:=nk hf;refine⟨_,⟨1,?_⟩,rfl⟩;unfold z1t.main;have r0:gIntS x.args x.args=some true:=by
   obtain⟨_,r,q⟩:=hIntS x.args x.args ⟨rfl,hf0,(by have h1:bY x.args<=1048576:=h1;omega)⟩;rw[q]at r;exact r
  simp[r0]
theorem uF :∃g,EO (z1t.ent g)/\EQ (.n 7) cU g:=by
 obtain⟨_,e0,h0⟩:=nz;exact xT e0 h0
def bQ (xs:List Dc):Nat:=wL cU xs
theorem rn :∃g,EO (z2f.ent g)/\SZ (.sl (.n 7)) bQ g:=by
 obtain⟨gE,eE,hE⟩:=tS;exact aJ (λg hg=>z2f.ok (G:=⟨gE⟩) ⟨eE,trivial⟩ hg) λ(xs:List Dc) (left:Int) ⟨hf,h0,h1⟩=>⟨_,⟨xs.length+1,io xs cU gE (vm hE hf h1) (dM.1 hf).len h0 (by omega) (λa l i nx=>z2f.b5 ⟨gE⟩ (xs.length+1) a l i nx kI kI) kI (λ_ _ _=>rfl)⟩,rfl⟩
theorem jx {xs:List Dc} (h:bQ xs<=1048576):xs.length<=1048576/\∀x∈xs,cU x<=1048576:=by
 have h:xs.length+wS cU xs<=1048576:=h;exact⟨by omega,λx hx=>by have:cU x<=wS cU xs:=nC (f:=cU) hx;omega⟩
theorem sD :∃g,EO (z2v.ent g)/\TO (.sl (.n 7)) bQ g:=by
 obtain⟨gE,eE,hE⟩:=tw;exact bT (λg hg=>z2v.ok (G:=⟨gE⟩) ⟨eE,trivial⟩ hg) λ(xs:List Dc) ⟨hf,h1⟩=>⟨_,⟨xs.length+1,eX xs _ gE (rS hE hf (jx h1).2) (by have:=(jx h1).1;omega) (λa i h nx=>z2v.b3 ⟨gE⟩ (xs.length+1) a i h nx (kL (.n 7))) (kL (.n 7)) (λ_ _ _=>rfl)⟩,rfl⟩
theorem sk :∃g,EO (z1u.ent g)/\EQ (.sl (.n 7)) bQ g:=by
 obtain⟨gE,eE,hE⟩:=uF;exact aJ (λg hg=>z1u.ok (G:=⟨gE⟩) ⟨eE,trivial⟩ hg) λ(xs ys:List Dc) ⟨hxy,hf,h1⟩=>by
  subst hxy;exact⟨_,⟨xs.length+1,eW xs gE (sV hE hf (jx h1).2) (by have:=(jx h1).1;omega) (λa b i nx=>z1u.b4 ⟨gE⟩ (xs.length+1) a b i nx kB (kB true)) (kB false) (kB true) (λ_ _=>rfl)⟩,rfl⟩
def jG (x:Opr):Nat:=x.name.size+bQ x.decls
theorem tL {x:Opr} (h:Fit (.n 8) x):Fit .s x.name/\Fit (.sl (.n 7)) x.decls/\Fit .b x.assoc/\Fit .b x.comm/\Fit .i x.unit:=by
 refine⟨λc hc=>h c ?_,λc hc=>h c ?_,λc hc=>h c ?_,λc hc=>h c ?_,λc hc=>h c ?_⟩<;>(simp only[aj,List.mem_cons,List.not_mem_nil,or_false]at hc ⊢;first|(subst hc;simp;done)|(rcases hc with rfl|rfl<;>simp;done)|(rcases hc with rfl|rfl|rfl<;>simp;done)|(rcases hc with rfl|rfl|rfl|rfl<;>simp;done))
theorem Cf {gDeclS:List Dc->Int->Option Int} (eDeclS:EO (z2f.ent gDeclS)) (hDeclS:SZ (.sl (.n 7)) bQ gDeclS):∃g,EO (z2k.ent g)/\SZ (.n 8) jG g:=
 aJ (λg hg=>z2k.ok (G:=⟨gDeclS⟩) ⟨eDeclS,trivial⟩ hg) λx left ⟨hf,h0,h1⟩=>by
  obtain⟨hf0,hf1,hf2,hf3,hf4⟩:=tL hf;refine⟨_,⟨1,?_⟩,rfl⟩;unfold z2k.main;have ew:(jG x:Int)=(x.name.size:Int)+(bQ x.decls:Int):=by show ((x.name.size+bQ x.decls:Nat):Int)=_;omega
  have hs0:=(DF.1 hf0).str;rw[aI (x:=left-(x.name.size:Int)) (by omega)];by_cases c0:(x.name.size:Int)<=left
  case neg=>rw[dT (by omega),cT,if_neg (by omega)]
  rw[dF (by omega),cF];have r1:gDeclS x.decls (left-(x.name.size:Int))=some (if (bQ x.decls:Int)<=left-(x.name.size:Int)then left-(x.name.size:Int)-(bQ x.decls:Int)else -1):=by
   obtain⟨_,r,q⟩:=hDeclS x.decls (left-(x.name.size:Int)) ⟨hf1,by omega,by omega⟩;rw[q]at r;exact r
  try dsimp only
  rw[r1,bS];by_cases c1:(bQ x.decls:Int)<=left-(x.name.size:Int)
  case neg=>rw[if_neg c1,show decide ((-1:Int)<0)=true from rfl,cT,if_neg (by omega)]
  rw[if_pos c1,dF (by omega),cF];rw[if_pos (by omega)]
  first|(congr 4;done)|(congr 4;omega)
theorem zS :∃g,EO (z2k.ent g)/\SZ (.n 8) jG g:=by
 obtain⟨_,e0,h0⟩:=rn;exact Cf e0 h0
theorem C0 {gDeclS:List Dc->Option (List Dc)} (eDeclS:EO (z2v.ent gDeclS)) (hDeclS:TO (.sl (.n 7)) bQ gDeclS):∃g,EO (z30.ent g)/\TO (.n 8) jG g:=
 bT (λg hg=>z30.ok (G:=⟨gDeclS⟩) ⟨eDeclS,trivial⟩ hg) λx ⟨hf,h1⟩=>by
  obtain⟨hf0,hf1,hf2,hf3,hf4⟩:=tL hf;refine⟨_,⟨1,?_⟩,rfl⟩;unfold z30.main;have r0:gDeclS x.decls=some x.decls:=by
   obtain⟨_,r,q⟩:=hDeclS x.decls ⟨hf1,(by have h1:x.name.size+bQ x.decls<=1048576:=h1;omega)⟩;rw[q]at r;exact r
  try dsimp only
  rw[r0,bS]
  try rfl
theorem AM :∃g,EO (z30.ent g)/\TO (.n 8) jG g:=by
 obtain⟨_,e0,h0⟩:=sD;exact C0 e0 h0
theorem Do {gDeclS:List Dc->List Dc->Option Bool} (eDeclS:EO (z1u.ent gDeclS)) (hDeclS:EQ (.sl (.n 7)) bQ gDeclS):∃g,EO (z1z.ent g)/\EQ (.n 8) jG g:=
 aJ (λg hg=>z1z.ok (G:=⟨gDeclS⟩) ⟨eDeclS,trivial⟩ hg) λx y ⟨hxy,hf,h1⟩=>by
  subst hxy;obtain⟨hf0,hf1,hf2,hf3,hf4⟩:=tL hf;refine⟨_,⟨1,?_⟩,rfl⟩;unfold z1z.main;have r0:gDeclS x.decls x.decls=some true:=by
   obtain⟨_,r,q⟩:=hDeclS x.decls x.decls ⟨rfl,hf1,(by have h1:x.name.size+bQ x.decls<=1048576:=h1;omega)⟩;rw[q]at r;exact r
  simp[sEq,r0]
theorem Ad :∃g,EO (z1z.ent g)/\EQ (.n 8) jG g:=by
 obtain⟨_,e0,h0⟩:=sk;exact Do e0 h0
def de (xs:List Opr):Nat:=wL jG xs
theorem xq :∃g,EO (z2l.ent g)/\SZ (.sl (.n 8)) de g:=by
 obtain⟨gE,eE,hE⟩:=zS;exact aJ (λg hg=>z2l.ok (G:=⟨gE⟩) ⟨eE,trivial⟩ hg) λ(xs:List Opr) (left:Int) ⟨hf,h0,h1⟩=>⟨_,⟨xs.length+1,io xs jG gE (vm hE hf h1) (dM.1 hf).len h0 (by omega) (λa l i nx=>z2l.b5 ⟨gE⟩ (xs.length+1) a l i nx kI kI) kI (λ_ _ _=>rfl)⟩,rfl⟩
theorem mD {xs:List Opr} (h:de xs<=1048576):xs.length<=1048576/\∀x∈xs,jG x<=1048576:=by
 have h:xs.length+wS jG xs<=1048576:=h;exact⟨by omega,λx hx=>by have:jG x<=wS jG xs:=nC (f:=jG) hx;omega⟩
theorem xV :∃g,EO (z31.ent g)/\TO (.sl (.n 8)) de g:=by
 obtain⟨gE,eE,hE⟩:=AM;exact bT (λg hg=>z31.ok (G:=⟨gE⟩) ⟨eE,trivial⟩ hg) λ(xs:List Opr) ⟨hf,h1⟩=>⟨_,⟨xs.length+1,eX xs _ gE (rS hE hf (mD h1).2) (by have:=(mD h1).1;omega) (λa i h nx=>z31.b3 ⟨gE⟩ (xs.length+1) a i h nx (kL (.n 8))) (kL (.n 8)) (λ_ _ _=>rfl)⟩,rfl⟩
theorem yx :∃g,EO (z21.ent g)/\EQ (.sl (.n 8)) de g:=by
 obtain⟨gE,eE,hE⟩:=Ad;exact aJ (λg hg=>z21.ok (G:=⟨gE⟩) ⟨eE,trivial⟩ hg) λ(xs ys:List Opr) ⟨hxy,hf,h1⟩=>by
  subst hxy;exact⟨_,⟨xs.length+1,eW xs gE (sV hE hf (mD h1).2) (by have:=(mD h1).1;omega) (λa b i nx=>z21.b4 ⟨gE⟩ (xs.length+1) a b i nx kB (kB true)) (kB false) (kB true) (λ_ _=>rfl)⟩,rfl⟩
def bc (x:So):Nat:=aU x.names+bP x.subs
theorem j5 {x:So} (h:Fit (.n 6) x):Fit (.sl .s) x.names/\Fit (.sl (.n 5)) x.subs:=by
 refine⟨λc hc=>h c ?_,λc hc=>h c ?_⟩<;>(simp only[aj,List.mem_cons,List.not_mem_nil,or_false]at hc ⊢;first|(subst hc;simp;done)|(rcases hc with rfl|rfl<;>simp;done)|(rcases hc with rfl|rfl|rfl<;>simp;done)|(rcases hc with rfl|rfl|rfl|rfl<;>simp;done))
theorem uB {gStringS:List ByteArray->Int->Option Int} (eStringS:EO (z2o.ent gStringS)) (hStringS:SZ (.sl .s) aU gStringS) {gSubS:List Sb->Int->Option Int} (eSubS:EO (z2p.ent gSubS)) (hSubS:SZ (.sl (.n 5)) bP gSubS):∃g,EO (z2n.ent g)/\SZ (.n 6) bc g:=
 aJ (λg hg=>z2n.ok (G:=⟨gStringS,gSubS⟩) ⟨eStringS,eSubS,trivial⟩ hg) λx left ⟨hf,h0,h1⟩=>by
  obtain⟨hf0,hf1⟩:=j5 hf;refine⟨_,⟨1,?_⟩,rfl⟩;unfold z2n.main;have ew:(bc x:Int)=(aU x.names:Int)+(bP x.subs:Int):=by show ((aU x.names+bP x.subs:Nat):Int)=_;omega
  have r0:gStringS x.names (left)=some (if (aU x.names:Int)<=left then left-(aU x.names:Int)else -1):=by
   obtain⟨_,r,q⟩:=hStringS x.names (left) ⟨hf0,by omega,by omega⟩;rw[q]at r;exact r
  try dsimp only
  rw[r0,bS];by_cases c0:(aU x.names:Int)<=left
  case neg=>rw[if_neg c0,show decide ((-1:Int)<0)=true from rfl,cT,if_neg (by omega)]
  rw[if_pos c0,dF (by omega),cF];have r1:gSubS x.subs (left-(aU x.names:Int))=some (if (bP x.subs:Int)<=left-(aU x.names:Int)then left-(aU x.names:Int)-(bP x.subs:Int)else -1):=by
   obtain⟨_,r,q⟩:=hSubS x.subs (left-(aU x.names:Int)) ⟨hf1,by omega,by omega⟩;rw[q]at r;exact r
  try dsimp only
  rw[r1,bS];by_cases c1:(bP x.subs:Int)<=left-(aU x.names:Int)
  case neg=>rw[if_neg c1,show decide ((-1:Int)<0)=true from rfl,cT,if_neg (by omega)]
  rw[if_pos c1,dF (by omega),cF];rw[if_pos (by omega)]
  first|(congr 4;done)|(congr 4;omega)
theorem ro :∃g,EO (z2n.ent g)/\SZ (.n 6) bc g:=by
 obtain⟨_,e0,h0⟩:=nI;obtain⟨_,e1,h1⟩:=tW;exact uB e0 h0 e1 h1
theorem uD {gStringS:List ByteArray->Option (List ByteArray)} (eStringS:EO (z34.ent gStringS)) (hStringS:TO (.sl .s) aU gStringS) {gSubS:List Sb->Option (List Sb)} (eSubS:EO (z36.ent gSubS)) (hSubS:TO (.sl (.n 5)) bP gSubS):∃g,EO (z33.ent g)/\TO (.n 6) bc g:=
 bT (λg hg=>z33.ok (G:=⟨gStringS,gSubS⟩) ⟨eStringS,eSubS,trivial⟩ hg) λx ⟨hf,h1⟩=>by
  obtain⟨hf0,hf1⟩:=j5 hf;refine⟨_,⟨1,?_⟩,rfl⟩;unfold z33.main;have r0:gStringS x.names=some x.names:=by
   obtain⟨_,r,q⟩:=hStringS x.names ⟨hf0,(by have h1:aU x.names+bP x.subs<=1048576:=h1;omega)⟩;rw[q]at r;exact r
  try dsimp only
  rw[r0,bS];have r1:gSubS x.subs=some x.subs:=by
   obtain⟨_,r,q⟩:=hSubS x.subs ⟨hf1,(by have h1:aU x.names+bP x.subs<=1048576:=h1;omega)⟩;rw[q]at r;exact r
  try dsimp only
  rw[r1,bS]
  try rfl
theorem sc :∃g,EO (z33.ent g)/\TO (.n 6) bc g:=by
 obtain⟨_,e0,h0⟩:=nV;obtain⟨_,e1,h1⟩:=uw;exact uD e0 h0 e1 h1
theorem tv {gStringS:List ByteArray->List ByteArray->Option Bool} (eStringS:EO (z27.ent gStringS)) (hStringS:EQ (.sl .s) aU gStringS) {gSubS:List Sb->List Sb->Option Bool} (eSubS:EO (z29.ent gSubS)) (hSubS:EQ (.sl (.n 5)) bP gSubS):∃g,EO (z26.ent g)/\EQ (.n 6) bc g:=
 aJ (λg hg=>z26.ok (G:=⟨gStringS,gSubS⟩) ⟨eStringS,eSubS,trivial⟩ hg) λx y ⟨hxy,hf,h1⟩=>by
  subst hxy;obtain⟨hf0,hf1⟩:=j5 hf;refine⟨_,⟨1,?_⟩,rfl⟩;unfold z26.main;have r0:gStringS x.names x.names=some true:=by
   obtain⟨_,r,q⟩:=hStringS x.names x.names ⟨rfl,hf0,(by have h1:aU x.names+bP x.subs<=1048576:=h1;omega)⟩;rw[q]at r;exact r
  have r1:gSubS x.subs x.subs=some true:=by
   obtain⟨_,r,q⟩:=hSubS x.subs x.subs ⟨rfl,hf1,(by have h1:aU x.names+bP x.subs<=1048576:=h1;omega)⟩;rw[q]at r;exact r
  simp[r0,r1]
theorem qZ :∃g,EO (z26.ent g)/\EQ (.n 6) bc g:=by
 obtain⟨_,e0,h0⟩:=nM;obtain⟨_,e1,h1⟩:=tZ;exact tv e0 h0 e1 h1
def ak (x:Sg):Nat:=bc x.sorts+de x.ops
theorem fq {x:Sg} (h:Fit (.n 9) x):Fit (.n 6) x.sorts/\Fit (.sl (.n 8)) x.ops:=by
 refine⟨λc hc=>h c ?_,λc hc=>h c ?_⟩<;>(simp only[aj,List.mem_cons,List.not_mem_nil,or_false]at hc ⊢;first|(subst hc;simp;done)|(rcases hc with rfl|rfl<;>simp;done)|(rcases hc with rfl|rfl|rfl<;>simp;done)|(rcases hc with rfl|rfl|rfl|rfl<;>simp;done))
theorem mq {gSorts:So->Int->Option Int} (eSorts:EO (z2n.ent gSorts)) (hSorts:SZ (.n 6) bc gSorts) {gOpS:List Opr->Int->Option Int} (eOpS:EO (z2l.ent gOpS)) (hOpS:SZ (.sl (.n 8)) de gOpS):∃g,EO (z2m.ent g)/\SZ (.n 9) ak g:=
 aJ (λg hg=>z2m.ok (G:=⟨gSorts,gOpS⟩) ⟨eSorts,eOpS,trivial⟩ hg) λx left ⟨hf,h0,h1⟩=>by
  obtain⟨hf0,hf1⟩:=fq hf;refine⟨_,⟨1,?_⟩,rfl⟩;unfold z2m.main;have ew:(ak x:Int)=(bc x.sorts:Int)+(de x.ops:Int):=by show ((bc x.sorts+de x.ops:Nat):Int)=_;omega
  have r0:gSorts x.sorts (left)=some (if (bc x.sorts:Int)<=left then left-(bc x.sorts:Int)else -1):=by
   obtain⟨_,r,q⟩:=hSorts x.sorts (left) ⟨hf0,by omega,by omega⟩;rw[q]at r;exact r
  try dsimp only
  rw[r0,bS];by_cases c0:(bc x.sorts:Int)<=left
  case neg=>rw[if_neg c0,show decide ((-1:Int)<0)=true from rfl,cT,if_neg (by omega)]
  rw[if_pos c0,dF (by omega),cF];have r1:gOpS x.ops (left-(bc x.sorts:Int))=some (if (de x.ops:Int)<=left-(bc x.sorts:Int)then left-(bc x.sorts:Int)-(de x.ops:Int)else -1):=by
   obtain⟨_,r,q⟩:=hOpS x.ops (left-(bc x.sorts:Int)) ⟨hf1,by omega,by omega⟩;rw[q]at r;exact r
  try dsimp only
  rw[r1,bS];by_cases c1:(de x.ops:Int)<=left-(bc x.sorts:Int)
  case neg=>rw[if_neg c1,show decide ((-1:Int)<0)=true from rfl,cT,if_neg (by omega)]
  rw[if_pos c1,dF (by omega),cF];rw[if_pos (by omega)]
  first|(congr 4;done)|(congr 4;omega)
theorem ln :∃g,EO (z2m.ent g)/\SZ (.n 9) ak g:=by
 obtain⟨_,e0,h0⟩:=ro;obtain⟨_,e1,h1⟩:=xq;exact mq e0 h0 e1 h1
theorem nG {gSorts:So->Option (So)} (eSorts:EO (z33.ent gSorts)) (hSorts:TO (.n 6) bc gSorts) {gOpS:List Opr->Option (List Opr)} (eOpS:EO (z31.ent gOpS)) (hOpS:TO (.sl (.n 8)) de gOpS):∃g,EO (z32.ent g)/\TO (.n 9) ak g:=
 bT (λg hg=>z32.ok (G:=⟨gSorts,gOpS⟩) ⟨eSorts,eOpS,trivial⟩ hg) λx ⟨hf,h1⟩=>by
  obtain⟨hf0,hf1⟩:=fq hf;refine⟨_,⟨1,?_⟩,rfl⟩;unfold z32.main;have r0:gSorts x.sorts=some x.sorts:=by
   obtain⟨_,r,q⟩:=hSorts x.sorts ⟨hf0,(by have h1:bc x.sorts+de x.ops<=1048576:=h1;omega)⟩;rw[q]at r;exact r
  try dsimp only
  rw[r0,bS];have r1:gOpS x.ops=some x.ops:=by
   obtain⟨_,r,q⟩:=hOpS x.ops ⟨hf1,(by have h1:bc x.sorts+de x.ops<=1048576:=h1;omega)⟩;rw[q]at r;exact r
  try dsimp only
  rw[r1,bS]
  try rfl
theorem ly :∃g,EO (z32.ent g)/\TO (.n 9) ak g:=by
 obtain⟨_,e0,h0⟩:=sc;obtain⟨_,e1,h1⟩:=xV;exact nG e0 h0 e1 h1
theorem md {gSorts:So->So->Option Bool} (eSorts:EO (z26.ent gSorts)) (hSorts:EQ (.n 6) bc gSorts) {gOpS:List Opr->List Opr->Option Bool} (eOpS:EO (z21.ent gOpS)) (hOpS:EQ (.sl (.n 8)) de gOpS):∃g,EO (z24.ent g)/\EQ (.n 9) ak g:=
 aJ (λg hg=>z24.ok (G:=⟨gSorts,gOpS⟩) ⟨eSorts,eOpS,trivial⟩ hg) λx y ⟨hxy,hf,h1⟩=>by
  subst hxy;obtain⟨hf0,hf1⟩:=fq hf;refine⟨_,⟨1,?_⟩,rfl⟩;unfold z24.main;have r0:gSorts x.sorts x.sorts=some true:=by
   obtain⟨_,r,q⟩:=hSorts x.sorts x.sorts ⟨rfl,hf0,(by have h1:bc x.sorts+de x.ops<=1048576:=h1;omega)⟩;rw[q]at r;exact r
  have r1:gOpS x.ops x.ops=some true:=by
   obtain⟨_,r,q⟩:=hOpS x.ops x.ops ⟨rfl,hf1,(by have h1:bc x.sorts+de x.ops<=1048576:=h1;omega)⟩;rw[q]at r;exact r
  simp[r0,r1]
theorem lw :∃g,EO (z24.ent g)/\EQ (.n 9) ak g:=by
 obtain⟨_,e0,h0⟩:=qZ;obtain⟨_,e1,h1⟩:=yx;exact md e0 h0 e1 h1
def bg (x:Cnd):Nat:=al x.left+al x.right
theorem fu {x:Cnd} (h:Fit (.n 13) x):Fit (.n 1) x.left/\Fit (.n 1) x.right:=by
 refine⟨λc hc=>h c ?_,λc hc=>h c ?_⟩<;>(simp only[aj,List.mem_cons,List.not_mem_nil,or_false]at hc ⊢;first|(subst hc;simp;done)|(rcases hc with rfl|rfl<;>simp;done)|(rcases hc with rfl|rfl|rfl<;>simp;done)|(rcases hc with rfl|rfl|rfl|rfl<;>simp;done))
theorem mj {gTerm:Tm->Int->Option Int} (eTerm:EO (z2q.ent gTerm)) (hTerm:SZ (.n 1) al gTerm):∃g,EO (z2c.ent g)/\SZ (.n 13) bg g:=
 aJ (λg hg=>z2c.ok (G:=⟨gTerm⟩) ⟨eTerm,trivial⟩ hg) λx left ⟨hf,h0,h1⟩=>by
  obtain⟨hf0,hf1⟩:=fu hf;refine⟨_,⟨1,?_⟩,rfl⟩;unfold z2c.main;have ew:(bg x:Int)=(al x.left:Int)+(al x.right:Int):=by show ((al x.left+al x.right:Nat):Int)=_;omega
  have r0:gTerm x.left (left)=some (if (al x.left:Int)<=left then left-(al x.left:Int)else -1):=by
   obtain⟨_,r,q⟩:=hTerm x.left (left) ⟨hf0,by omega,by omega⟩;rw[q]at r;exact r
  try simp only[Tm.eta]
  try dsimp only
  rw[r0,bS];by_cases c0:(al x.left:Int)<=left
  case neg=>rw[if_neg c0,show decide ((-1:Int)<0)=true from rfl,cT,if_neg (by omega)]
  rw[if_pos c0,dF (by omega),cF];have r1:gTerm x.right (left-(al x.left:Int))=some (if (al x.right:Int)<=left-(al x.left:Int)then left-(al x.left:Int)-(al x.right:Int)else -1):=by
   obtain⟨_,r,q⟩:=hTerm x.right (left-(al x.left:Int)) ⟨hf1,by omega,by omega⟩;rw[q]at r;exact r
  try simp only[Tm.eta]
  try dsimp only
  rw[r1,bS];by_cases c1:(al x.right:Int)<=left-(al x.left:Int)
  case neg=>rw[if_neg c1,show decide ((-1:Int)<0)=true from rfl,cT,if_neg (by omega)]
  rw[if_pos c1,dF (by omega),cF];rw[if_pos (by omega)]
  first|(congr 4;done)|(congr 4;omega)
theorem lj :∃g,EO (z2c.ent g)/\SZ (.n 13) bg g:=by
 obtain⟨_,e0,h0⟩:=my;exact mj e0 h0
theorem lU {gTerm:Tm->Option (Tm)} (eTerm:EO (z37.ent gTerm)) (hTerm:TO (.n 1) al gTerm):∃g,EO (z2s.ent g)/\TO (.n 13) bg g:=
 bT (λg hg=>z2s.ok (G:=⟨gTerm⟩) ⟨eTerm,trivial⟩ hg) λx ⟨hf,h1⟩=>by
  obtain⟨hf0,hf1⟩:=fu hf;refine⟨_,⟨1,?_⟩,rfl⟩;unfold z2s.main;have r0:gTerm x.left=some x.left:=by
   obtain⟨_,r,q⟩:=hTerm x.left ⟨hf0,(by have h1:al x.left+al x.right<=1048576:=h1;omega)⟩;rw[q]at r;exact r
  try simp only[Tm.eta]
  try dsimp only
  rw[r0,bS];have r1:gTerm x.right=some x.right:=by
   obtain⟨_,r,q⟩:=hTerm x.right ⟨hf1,(by have h1:al x.left+al x.right<=1048576:=h1;omega)⟩;rw[q]at r;exact r
  try simp only[Tm.eta]
  try dsimp only
  rw[r1,bS]
  try rfl
theorem li :∃g,EO (z2s.ent g)/\TO (.n 13) bg g:=by
 obtain⟨_,e0,h0⟩:=nE;exact lU e0 h0
theorem nD {gTerm:Tm->Tm->Option Bool} (eTerm:EO (z2a.ent gTerm)) (hTerm:EQ (.n 1) al gTerm):∃g,EO (z1r.ent g)/\EQ (.n 13) bg g:=
 aJ (λg hg=>z1r.ok (G:=⟨gTerm⟩) ⟨eTerm,trivial⟩ hg) λx y ⟨hxy,hf,h1⟩=>by
  subst hxy;obtain⟨hf0,hf1⟩:=fu hf;refine⟨_,⟨1,?_⟩,rfl⟩;unfold z1r.main;have r0:gTerm x.left x.left=some true:=by
   obtain⟨_,r,q⟩:=hTerm x.left x.left ⟨rfl,hf0,(by have h1:al x.left+al x.right<=1048576:=h1;omega)⟩;rw[q]at r;exact r
  have r1:gTerm x.right x.right=some true:=by
   obtain⟨_,r,q⟩:=hTerm x.right x.right ⟨rfl,hf1,(by have h1:al x.left+al x.right<=1048576:=h1;omega)⟩;rw[q]at r;exact r
  simp[Tm.eta,r0,r1]
theorem lu :∃g,EO (z1r.ent g)/\EQ (.n 13) bg g:=by
 obtain⟨_,e0,h0⟩:=ml;exact nD e0 h0
def aC (xs:List Cnd):Nat:=wL bg xs
theorem kg :∃g,EO (z2d.ent g)/\SZ (.sl (.n 13)) aC g:=by
 obtain⟨gE,eE,hE⟩:=lj;exact aJ (λg hg=>z2d.ok (G:=⟨gE⟩) ⟨eE,trivial⟩ hg) λ(xs:List Cnd) (left:Int) ⟨hf,h0,h1⟩=>⟨_,⟨xs.length+1,io xs bg gE (vm hE hf h1) (dM.1 hf).len h0 (by omega) (λa l i nx=>z2d.b5 ⟨gE⟩ (xs.length+1) a l i nx kI kI) kI (λ_ _ _=>by simp only[z2d.b5,Tm.eta])⟩,rfl⟩
theorem cA {xs:List Cnd} (h:aC xs<=1048576):xs.length<=1048576/\∀x∈xs,bg x<=1048576:=by
 have h:xs.length+wS bg xs<=1048576:=h;exact⟨by omega,λx hx=>by have:bg x<=wS bg xs:=nC (f:=bg) hx;omega⟩
theorem kD :∃g,EO (z2t.ent g)/\TO (.sl (.n 13)) aC g:=by
 obtain⟨gE,eE,hE⟩:=li;exact bT (λg hg=>z2t.ok (G:=⟨gE⟩) ⟨eE,trivial⟩ hg) λ(xs:List Cnd) ⟨hf,h1⟩=>⟨_,⟨xs.length+1,eX xs _ gE (rS hE hf (cA h1).2) (by have:=(cA h1).1;omega) (λa i h nx=>z2t.b3 ⟨gE⟩ (xs.length+1) a i h nx (kL (.n 13))) (kL (.n 13)) (λ_ _ _=>by simp only[z2t.b3,Tm.eta])⟩,rfl⟩
theorem jU :∃g,EO (z1s.ent g)/\EQ (.sl (.n 13)) aC g:=by
 obtain⟨gE,eE,hE⟩:=lu;exact aJ (λg hg=>z1s.ok (G:=⟨gE⟩) ⟨eE,trivial⟩ hg) λ(xs ys:List Cnd) ⟨hxy,hf,h1⟩=>by
  subst hxy;exact⟨_,⟨xs.length+1,eW xs gE (sV hE hf (cA h1).2) (by have:=(cA h1).1;omega) (λa b i nx=>z1s.b4 ⟨gE⟩ (xs.length+1) a b i nx kB (kB true)) (kB false) (kB true) (λ_ _=>by simp only[z1s.b4,Tm.eta])⟩,rfl⟩
def bp (x:Eqn):Nat:=al x.left+al x.right+aC x.conds
theorem gk {x:Eqn} (h:Fit (.n 14) x):Fit (.n 1) x.left/\Fit (.n 1) x.right/\Fit (.sl (.n 13)) x.conds:=by
 refine⟨λc hc=>h c ?_,λc hc=>h c ?_,λc hc=>h c ?_⟩<;>(simp only[aj,List.mem_cons,List.not_mem_nil,or_false]at hc ⊢;first|(subst hc;simp;done)|(rcases hc with rfl|rfl<;>simp;done)|(rcases hc with rfl|rfl|rfl<;>simp;done)|(rcases hc with rfl|rfl|rfl|rfl<;>simp;done))
theorem og {gTerm:Tm->Int->Option Int} (eTerm:EO (z2q.ent gTerm)) (hTerm:SZ (.n 1) al gTerm) {gConditionS:List Cnd->Int->Option Int} (eConditionS:EO (z2d.ent gConditionS)) (hConditionS:SZ (.sl (.n 13)) aC gConditionS):∃g,EO (z2g.ent g)/\SZ (.n 14) bp g:=
 aJ (λg hg=>z2g.ok (G:=⟨gTerm,gConditionS⟩) ⟨eTerm,eConditionS,trivial⟩ hg) λx left ⟨hf,h0,h1⟩=>by
  obtain⟨hf0,hf1,hf2⟩:=gk hf;refine⟨_,⟨1,?_⟩,rfl⟩;unfold z2g.main;have ew:(bp x:Int)=(al x.left:Int)+(al x.right:Int)+(aC x.conds:Int):=by show ((al x.left+al x.right+aC x.conds:Nat):Int)=_;omega
  have r0:gTerm x.left (left)=some (if (al x.left:Int)<=left then left-(al x.left:Int)else -1):=by
   obtain⟨_,r,q⟩:=hTerm x.left (left) ⟨hf0,by omega,by omega⟩;rw[q]at r;exact r
  try simp only[Tm.eta]
  try dsimp only
  rw[r0,bS];by_cases c0:(al x.left:Int)<=left
  case neg=>rw[if_neg c0,show decide ((-1:Int)<0)=true from rfl,cT,if_neg (by omega)]
  rw[if_pos c0,dF (by omega),cF];have r1:gTerm x.right (left-(al x.left:Int))=some (if (al x.right:Int)<=left-(al x.left:Int)then left-(al x.left:Int)-(al x.right:Int)else -1):=by
   obtain⟨_,r,q⟩:=hTerm x.right (left-(al x.left:Int)) ⟨hf1,by omega,by omega⟩;rw[q]at r;exact r
  try simp only[Tm.eta]
  try dsimp only
  rw[r1,bS];by_cases c1:(al x.right:Int)<=left-(al x.left:Int)
  case neg=>rw[if_neg c1,show decide ((-1:Int)<0)=true from rfl,cT,if_neg (by omega)]
  rw[if_pos c1,dF (by omega),cF];have r2:gConditionS x.conds (left-(al x.left:Int)-(al x.right:Int))=some (if (aC x.conds:Int)<=left-(al x.left:Int)-(al x.right:Int)then left-(al x.left:Int)-(al x.right:Int)-(aC x.conds:Int)else -1):=by
   obtain⟨_,r,q⟩:=hConditionS x.conds (left-(al x.left:Int)-(al x.right:Int)) ⟨hf2,by omega,by omega⟩;rw[q]at r;exact r
  try simp only[Tm.eta]
  try dsimp only
  rw[r2,bS];by_cases c2:(aC x.conds:Int)<=left-(al x.left:Int)-(al x.right:Int)
  case neg=>rw[if_neg c2,show decide ((-1:Int)<0)=true from rfl,cT,if_neg (by omega)]
  rw[if_pos c2,dF (by omega),cF];rw[if_pos (by omega)]
  first|(congr 4;done)|(congr 4;omega)
theorem mn :∃g,EO (z2g.ent g)/\SZ (.n 14) bp g:=by
 obtain⟨_,e0,h0⟩:=my;obtain⟨_,e1,h1⟩:=kg;exact og e0 h0 e1 h1
theorem nR {gTerm:Tm->Option (Tm)} (eTerm:EO (z37.ent gTerm)) (hTerm:TO (.n 1) al gTerm) {gConditionS:List Cnd->Option (List Cnd)} (eConditionS:EO (z2t.ent gConditionS)) (hConditionS:TO (.sl (.n 13)) aC gConditionS):∃g,EO (z2w.ent g)/\TO (.n 14) bp g:=
 bT (λg hg=>z2w.ok (G:=⟨gTerm,gConditionS⟩) ⟨eTerm,eConditionS,trivial⟩ hg) λx ⟨hf,h1⟩=>by
  obtain⟨hf0,hf1,hf2⟩:=gk hf;refine⟨_,⟨1,?_⟩,rfl⟩;unfold z2w.main;have r0:gTerm x.left=some x.left:=by
   obtain⟨_,r,q⟩:=hTerm x.left ⟨hf0,(by have h1:al x.left+al x.right+aC x.conds<=1048576:=h1;omega)⟩;rw[q]at r;exact r
  try simp only[Tm.eta]
  try dsimp only
  rw[r0,bS];have r1:gTerm x.right=some x.right:=by
   obtain⟨_,r,q⟩:=hTerm x.right ⟨hf1,(by have h1:al x.left+al x.right+aC x.conds<=1048576:=h1;omega)⟩;rw[q]at r;exact r
  try simp only[Tm.eta]
  try dsimp only
  rw[r1,bS];have r2:gConditionS x.conds=some x.conds:=by
   obtain⟨_,r,q⟩:=hConditionS x.conds ⟨hf2,(by have h1:al x.left+al x.right+aC x.conds<=1048576:=h1;omega)⟩;rw[q]at r;exact r
  try simp only[Tm.eta]
  try dsimp only
  rw[r2,bS]
  try rfl
theorem m9 :∃g,EO (z2w.ent g)/\TO (.n 14) bp g:=by
 obtain⟨_,e0,h0⟩:=nE;obtain⟨_,e1,h1⟩:=kD;exact nR e0 h0 e1 h1
theorem nJ {gTerm:Tm->Tm->Option Bool} (eTerm:EO (z2a.ent gTerm)) (hTerm:EQ (.n 1) al gTerm) {gConditionS:List Cnd->List Cnd->Option Bool} (eConditionS:EO (z1s.ent gConditionS)) (hConditionS:EQ (.sl (.n 13)) aC gConditionS):∃g,EO (z1v.ent g)/\EQ (.n 14) bp g:=
 aJ (λg hg=>z1v.ok (G:=⟨gTerm,gConditionS⟩) ⟨eTerm,eConditionS,trivial⟩ hg) λx y ⟨hxy,hf,h1⟩=>by
  subst hxy;obtain⟨hf0,hf1,hf2⟩:=gk hf;refine⟨_,⟨1,?_⟩,rfl⟩;unfold z1v.main;have r0:gTerm x.left x.left=some true:=by
   obtain⟨_,r,q⟩:=hTerm x.left x.left ⟨rfl,hf0,(by have h1:al x.left+al x.right+aC x.conds<=1048576:=h1;omega)⟩;rw[q]at r;exact r
  have r1:gTerm x.right x.right=some true:=by
   obtain⟨_,r,q⟩:=hTerm x.right x.right ⟨rfl,hf1,(by have h1:al x.left+al x.right+aC x.conds<=1048576:=h1;omega)⟩;rw[q]at r;exact r
  have r2:gConditionS x.conds x.conds=some true:=by
   obtain⟨_,r,q⟩:=hConditionS x.conds x.conds ⟨rfl,hf2,(by have h1:al x.left+al x.right+aC x.conds<=1048576:=h1;omega)⟩;rw[q]at r;exact r
  simp[Tm.eta,r0,r1,r2]
theorem mw :∃g,EO (z1v.ent g)/\EQ (.n 14) bp g:=by
 obtain⟨_,e0,h0⟩:=ml;obtain⟨_,e1,h1⟩:=jU;exact nJ e0 h0 e1 h1
def ah (xs:List Eqn):Nat:=wL bp xs
theorem ll :∃g,EO (z2h.ent g)/\SZ (.sl (.n 14)) ah g:=by
 obtain⟨gE,eE,hE⟩:=mn;exact aJ (λg hg=>z2h.ok (G:=⟨gE⟩) ⟨eE,trivial⟩ hg) λ(xs:List Eqn) (left:Int) ⟨hf,h0,h1⟩=>⟨_,⟨xs.length+1,io xs bp gE (vm hE hf h1) (dM.1 hf).len h0 (by omega) (λa l i nx=>z2h.b5 ⟨gE⟩ (xs.length+1) a l i nx kI kI) kI (λ_ _ _=>by simp only[z2h.b5,Tm.eta])⟩,rfl⟩
theorem ct {xs:List Eqn} (h:ah xs<=1048576):xs.length<=1048576/\∀x∈xs,bp x<=1048576:=by
 have h:xs.length+wS bp xs<=1048576:=h;exact⟨by omega,λx hx=>by have:bp x<=wS bp xs:=nC (f:=bp) hx;omega⟩
theorem lx :∃g,EO (z2x.ent g)/\TO (.sl (.n 14)) ah g:=by
 obtain⟨gE,eE,hE⟩:=m9;exact bT (λg hg=>z2x.ok (G:=⟨gE⟩) ⟨eE,trivial⟩ hg) λ(xs:List Eqn) ⟨hf,h1⟩=>⟨_,⟨xs.length+1,eX xs _ gE (rS hE hf (ct h1).2) (by have:=(ct h1).1;omega) (λa i h nx=>z2x.b3 ⟨gE⟩ (xs.length+1) a i h nx (kL (.n 14))) (kL (.n 14)) (λ_ _ _=>by simp only[z2x.b3,Tm.eta])⟩,rfl⟩
theorem lh :∃g,EO (z1w.ent g)/\EQ (.sl (.n 14)) ah g:=by
 obtain⟨gE,eE,hE⟩:=mw;exact aJ (λg hg=>z1w.ok (G:=⟨gE⟩) ⟨eE,trivial⟩ hg) λ(xs ys:List Eqn) ⟨hxy,hf,h1⟩=>by
  subst hxy;exact⟨_,⟨xs.length+1,eW xs gE (sV hE hf (ct h1).2) (by have:=(ct h1).1;omega) (λa b i nx=>z1w.b4 ⟨gE⟩ (xs.length+1) a b i nx kB (kB true)) (kB false) (kB true) (λ_ _=>by simp only[z1w.b4,Tm.eta])⟩,rfl⟩
def bV (x:Md):Nat:=ak x.sig+ah x.eqs+ah x.rules
theorem iQ {x:Md} (h:Fit (.n 15) x):Fit (.n 9) x.sig/\Fit (.sl (.n 14)) x.eqs/\Fit (.sl (.n 14)) x.rules:=by
 refine⟨λc hc=>h c ?_,λc hc=>h c ?_,λc hc=>h c ?_⟩<;>(simp only[aj,List.mem_cons,List.not_mem_nil,or_false]at hc ⊢;first|(subst hc;simp;done)|(rcases hc with rfl|rfl<;>simp;done)|(rcases hc with rfl|rfl|rfl<;>simp;done)|(rcases hc with rfl|rfl|rfl|rfl<;>simp;done))
theorem si {gSignature:Sg->Int->Option Int} (eSignature:EO (z2m.ent gSignature)) (hSignature:SZ (.n 9) ak gSignature) {gEquationS:List Eqn->Int->Option Int} (eEquationS:EO (z2h.ent gEquationS)) (hEquationS:SZ (.sl (.n 14)) ah gEquationS):∃g,EO (z2j.ent g)/\SZ (.n 15) bV g:=
 aJ (λg hg=>z2j.ok (G:=⟨gSignature,gEquationS⟩) ⟨eSignature,eEquationS,trivial⟩ hg) λx left ⟨hf,h0,h1⟩=>by
  obtain⟨hf0,hf1,hf2⟩:=iQ hf;refine⟨_,⟨1,?_⟩,rfl⟩;unfold z2j.main;have ew:(bV x:Int)=(ak x.sig:Int)+(ah x.eqs:Int)+(ah x.rules:Int):=by show ((ak x.sig+ah x.eqs+ah x.rules:Nat):Int)=_;omega
  have r0:gSignature x.sig (left)=some (if (ak x.sig:Int)<=left then left-(ak x.sig:Int)else -1):=by
   obtain⟨_,r,q⟩:=hSignature x.sig (left) ⟨hf0,by omega,by omega⟩;rw[q]at r;exact r
  try dsimp only
  rw[r0,bS];by_cases c0:(ak x.sig:Int)<=left
  case neg=>rw[if_neg c0,show decide ((-1:Int)<0)=true from rfl,cT,if_neg (by omega)]
  rw[if_pos c0,dF (by omega),cF];have r1:gEquationS x.eqs (left-(ak x.sig:Int))=some (if (ah x.eqs:Int)<=left-(ak x.sig:Int)then left-(ak x.sig:Int)-(ah x.eqs:Int)else -1):=by
   obtain⟨_,r,q⟩:=hEquationS x.eqs (left-(ak x.sig:Int)) ⟨hf1,by omega,by omega⟩;rw[q]at r;exact r
  try dsimp only
  rw[r1,bS];by_cases c1:(ah x.eqs:Int)<=left-(ak x.sig:Int)
  case neg=>rw[if_neg c1,show decide ((-1:Int)<0)=true from rfl,cT,if_neg (by omega)]
  rw[if_pos c1,dF (by omega),cF];have r2:gEquationS x.rules (left-(ak x.sig:Int)-(ah x.eqs:Int))=some (if (ah x.rules:Int)<=left-(ak x.sig:Int)-(ah x.eqs:Int)then left-(ak x.sig:Int)-(ah x.eqs:Int)-(ah x.rules:Int)else -1):=by
   obtain⟨_,r,q⟩:=hEquationS x.rules (left-(ak x.sig:Int)-(ah x.eqs:Int)) ⟨hf2,by omega,by omega⟩;rw[q]at r;exact r
  try dsimp only
  rw[r2,bS];by_cases c2:(ah x.rules:Int)<=left-(ak x.sig:Int)-(ah x.eqs:Int)
  case neg=>rw[if_neg c2,show decide ((-1:Int)<0)=true from rfl,cT,if_neg (by omega)]
  rw[if_pos c2,dF (by omega),cF];rw[if_pos (by omega)]
  first|(congr 4;done)|(congr 4;omega)
theorem pz :∃g,EO (z2j.ent g)/\SZ (.n 15) bV g:=by
 obtain⟨_,e0,h0⟩:=ln;obtain⟨_,e1,h1⟩:=ll;exact si e0 h0 e1 h1
theorem qM {gSignature:Sg->Option (Sg)} (eSignature:EO (z32.ent gSignature)) (hSignature:TO (.n 9) ak gSignature) {gEquationS:List Eqn->Option (List Eqn)} (eEquationS:EO (z2x.ent gEquationS)) (hEquationS:TO (.sl (.n 14)) ah gEquationS):∃g,EO (z2z.ent g)/\TO (.n 15) bV g:=
 bT (λg hg=>z2z.ok (G:=⟨gSignature,gEquationS⟩) ⟨eSignature,eEquationS,trivial⟩ hg) λx ⟨hf,h1⟩=>by
  obtain⟨hf0,hf1,hf2⟩:=iQ hf;refine⟨_,⟨1,?_⟩,rfl⟩;unfold z2z.main;have r0:gSignature x.sig=some x.sig:=by
   obtain⟨_,r,q⟩:=hSignature x.sig ⟨hf0,(by have h1:ak x.sig+ah x.eqs+ah x.rules<=1048576:=h1;omega)⟩;rw[q]at r;exact r
  try dsimp only
  rw[r0,bS];have r1:gEquationS x.eqs=some x.eqs:=by
   obtain⟨_,r,q⟩:=hEquationS x.eqs ⟨hf1,(by have h1:ak x.sig+ah x.eqs+ah x.rules<=1048576:=h1;omega)⟩;rw[q]at r;exact r
  try dsimp only
  rw[r1,bS];have r2:gEquationS x.rules=some x.rules:=by
   obtain⟨_,r,q⟩:=hEquationS x.rules ⟨hf2,(by have h1:ak x.sig+ah x.eqs+ah x.rules<=1048576:=h1;omega)⟩;rw[q]at r;exact r
  try dsimp only
  rw[r2,bS]
  try rfl
theorem qh :∃g,EO (z2z.ent g)/\TO (.n 15) bV g:=by
 obtain⟨_,e0,h0⟩:=ly;obtain⟨_,e1,h1⟩:=lx;exact qM e0 h0 e1 h1
theorem qW {gSignature:Sg->Sg->Option Bool} (eSignature:EO (z24.ent gSignature)) (hSignature:EQ (.n 9) ak gSignature) {gEquationS:List Eqn->List Eqn->Option Bool} (eEquationS:EO (z1w.ent gEquationS)) (hEquationS:EQ (.sl (.n 14)) ah gEquationS):∃g,EO (z1y.ent g)/\EQ (.n 15) bV g:=
 aJ (λg hg=>z1y.ok (G:=⟨gSignature,gEquationS⟩) ⟨eSignature,eEquationS,trivial⟩ hg) λx y ⟨hxy,hf,h1⟩=>by
  subst hxy;obtain⟨hf0,hf1,hf2⟩:=iQ hf;refine⟨_,⟨1,?_⟩,rfl⟩;unfold z1y.main;have r0:gSignature x.sig x.sig=some true:=by
   obtain⟨_,r,q⟩:=hSignature x.sig x.sig ⟨rfl,hf0,(by have h1:ak x.sig+ah x.eqs+ah x.rules<=1048576:=h1;omega)⟩;rw[q]at r;exact r
  have r1:gEquationS x.eqs x.eqs=some true:=by
   obtain⟨_,r,q⟩:=hEquationS x.eqs x.eqs ⟨rfl,hf1,(by have h1:ak x.sig+ah x.eqs+ah x.rules<=1048576:=h1;omega)⟩;rw[q]at r;exact r
  have r2:gEquationS x.rules x.rules=some true:=by
   obtain⟨_,r,q⟩:=hEquationS x.rules x.rules ⟨rfl,hf2,(by have h1:ak x.sig+ah x.eqs+ah x.rules<=1048576:=h1;omega)⟩;rw[q]at r;exact r
  simp[r0,r1,r2]
theorem pN :∃g,EO (z1y.ent g)/\EQ (.n 15) bV g:=by
 obtain⟨_,e0,h0⟩:=lw;obtain⟨_,e1,h1⟩:=lh;exact qW e0 h0 e1 h1
open Classical
theorem yF {cs:List Cnd} (h:aC cs<=1048576):∀c∈cs,c.left.total<1073741823/\c.right.total<1073741823:=λc hc=>by
 have:=(cA h).2 c hc;have:c.left.total+c.right.total<=1048576:=this;omega
theorem vw {es:List Eqn} (h:ah es<=1048576):∀e∈es,SmE e:=λe he=>by
 have:=(ct h).2 e he;have h1:e.left.total+e.right.total+aC e.conds<=1048576:=this;exact⟨by omega,by omega,yF (by omega)⟩
theorem EK {m:Md} (h:bV m<=1048576):SmM m:=by
 have h1:ak m.sig+ah m.eqs+ah m.rules<=1048576:=h;exact⟨vw (by omega),vw (by omega)⟩
theorem Cj {m:Md} (h:bV m<=1048576):SmP m:=by
 have h1:ak m.sig+ah m.eqs+ah m.rules<=1048576:=h;have h2:ak m.sig=bc m.sig.sorts+de m.sig.ops:=rfl;have h3:=(mD (xs:=m.sig.ops) (by omega)).1;refine⟨EK h,by omega,λe he=> ?_⟩;have:=(ct (xs:=m.eqs) (by omega)).2 e he;have h4:e.left.total+e.right.total+aC e.conds<=1048576:=this;omega
theorem Be :∃g,EO (z1q.ent g)/\∀(m:Md) (x:List Int),(Fit (.n 15) m/\Fit (.sl .i) x)->∃r,g m x=some r/\r=true:=by
 obtain⟨gz,ez,hz⟩:=pz;obtain⟨gt,et,ht⟩:=qh;obtain⟨gq,eq,hq⟩:=pN;obtain⟨gtx,etx,htx⟩:=mR;obtain⟨gqx,eqx,hqx⟩:=nz;refine aJ (λg hg=>z1q.ok (G:={z2j:=gz,z2z:=gt,z2y:=gtx,z3s:=gPd,z0p:=gPd,z1y:=gq,z1x:=gqx}) ⟨ez,et,etx,z3t,z0q,eq,eqx,trivial⟩ hg) λ(m:Md) (x:List Int) ⟨hf,hc⟩=>⟨true,⟨1,?_⟩,rfl⟩
 unfold z1q.main;have r1:gz m 1048576=some (if (bV m:Int)<=1048576 then (1048576:Int)-bV m else (-1:Int)):=by
  obtain⟨_,r,q⟩:=hz m 1048576 ⟨hf,by omega,by omega⟩;rw[q]at r;exact r
 dsimp only;by_cases hx:(1048576:Int)<(x.length:Int)
 ·rw[dT hx,cT]
 rw[dF hx,cF,r1,bS];have hwx:bY x<=1048576:=by show x.length<=1048576;omega
 by_cases hw:(bV m:Int)<=1048576
 ·rw[if_pos hw,dF (by omega),cF];have r2:gt m=some m:=by
   obtain⟨_,r,q⟩:=ht m ⟨hf,by omega⟩;rw[q]at r;exact r
  have r2x:gtx x=some x:=by
   obtain⟨_,r,q⟩:=htx x ⟨hc,hwx⟩;rw[q]at r;exact r
  have r4:gq m m=some true:=by
   obtain⟨_,r,q⟩:=hq m m ⟨rfl,hf,by omega⟩;rw[q]at r;exact r
  have r4x:gqx x x=some true:=by
   obtain⟨_,r,q⟩:=hqx x x ⟨rfl,hc,hwx⟩;rw[q]at r;exact r
  have r5:gPd m x=some (pdF m x):=if_pos (Cj (by omega));simp only[r2,r2x,r4,r4x,r5,bS,beq_self_eq_true,Bool.not_true,cF]
 ·rw[if_neg hw];rfl
end Go.Proofs.YtkinkfieackmdaaGreatDoor.Den

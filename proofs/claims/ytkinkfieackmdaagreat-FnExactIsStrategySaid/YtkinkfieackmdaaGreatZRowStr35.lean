/-
  Texts that the claim rests on, merged: PL, TmV, Wrap1, Sgy0.
-/
import Derived.Test.YtkinkfieackmdaaGreatZRowStr13
import Derived.Test.YtkinkfieackmdaaGreatZRowStr18
import Derived.Test.YtkinkfieackmdaaGreatZRowStr34

namespace Go.Proofs.YtkinkfieackmdaaGreat.Den
open Go.RowKit
set_option maxRecDepth 100000
set_option linter.unusedVariables false
namespace z26
structure Gs where
 none_:Unit
noncomputable def ents (_:Gs):List Ent:=[]
noncomputable def b4 {R:Type} (G:Gs) (n:Nat) (a b:LI) (i:Int) (nx:LI->LI->Int->Option R) (k0:Bool->Option R) (k1:Option R):Option R:=
 bif decide (i<(List.length a:Int))then
  (
  Option.bind (ix a i) λe2=>
  Option.bind (ix b i) λe4=>
  bif !decide (e2=e4)then
   (k0 false)
  else
   nx a b (wr (i+1))
  )
 else
  k1
noncomputable def l4 {R:Type} (G:Gs) (n m:Nat) (a b:LI) (i:Int) (k0:Bool->Option R) (k1:Option R):Option R:=iter (λ(v:LI×LI×Int) nx=>b4 G n v.1 v.2.1 v.2.2 (λy0 y1 y2=>nx (y0,y1,y2)) k0 k1) m (a,b,i)
noncomputable def main {R:Type} (G:Gs) (n:Nat) (a b:LI) (K:Bool->Option R):Option R:=
 bif !decide ((List.length a:Int)=(List.length b:Int))then
  (K false)
 else
  l4 G n n a b 0
   (λt4=>K t4)
   (K true)
noncomputable def dl4 (G:Gs) (n m:Nat) (R:Type) (st:St) (K:Kt R):Option R:=match st with
 |⟨[(0,.one (.l .i a)),(1,.one (.l .i b)),(5,.one (.i i))],[]⟩=>l4 G n m a b i (λt4=>K .ret ⟨[(4,.one (.b t4))],[]⟩) (K (.exit 0) ⟨[],[]⟩)
 |_=>none
noncomputable def pc (G:Gs) (n:Nat):Pcs:=⟨λR id st K=>bif Nat.beq id 4 then dl4 G n n R st K else none,nK,nK⟩
noncomputable def an:Ann:=⟨26,0,[(4,[0,1,5])],[],[4],[(6,⟨[([0,1,2,3,4,5,6,7,8],[],[])],[],[],[],[]⟩)],[]⟩
noncomputable abbrev bd:=bodyOf Tryz.f201
noncomputable abbrev q4:=nthC [1,1,0,1,0,0] bd
theorem pl4 {G:Gs} (hG:AE (ents G)) (n:Nat):∀m,PO an (.loop q4) (dl4 G n m):=lpc hG (pc G n) [0,1,5] ⟨[],[4],[(0,[])]⟩ (apl [] trivial) (λR st K=>by unfold dl4;split<;>rfl) λm R st K r h=>by unfold dl4 at h;split at h;exact .trans (by kernel_rfl) h;cases h
noncomputable def Does (G:Gs) (a b:LI) (r:Bool):Prop:=∃n,main (R:=AT×List Ob) G n a b (λr0=>some (.one (.b r0),[]))=some (.one (.b r),[])
theorem ok {G:Gs} (hG:AE (ents G)) {g:Q} (hg:∀a b r,g a b=some r->Does G a b r):EO (ent g):=λR xs H K r hc=>by
 simp only[ent]at hc
 split at hc
 ·obtain⟨r,j1,j2⟩:=bind_some hc
  obtain⟨n,j3⟩:=hg _ _ _ j1
  exact⟨_,_,j2,fnP hG an (pc G n) bd [.tmp 4] Tryz.func201 (.inl rfl) (apl [(1,4,.loop q4)] ⟨pl4 hG n n,trivial⟩) (.trans (by kernel_rfl) j3)⟩
 ·cases hc
end z26
namespace z2e
structure Gs where
 none_:Unit
noncomputable def ents (_:Gs):List Ent:=[]
noncomputable def b4 {R:Type} (G:Gs) (n:Nat) (a b:LB) (i:Int) (nx:LB->LB->Int->Option R) (k0:Bool->Option R) (k1:Option R):Option R:=
 bif decide (i<(List.length a:Int))then
  (
  Option.bind (ix a i) λe2=>
  Option.bind (ix b i) λe4=>
  bif !sEq e2 e4 then
   (k0 false)
  else
   nx a b (wr (i+1))
  )
 else
  k1
noncomputable def l4 {R:Type} (G:Gs) (n m:Nat) (a b:LB) (i:Int) (k0:Bool->Option R) (k1:Option R):Option R:=iter (λ(v:LB×LB×Int) nx=>b4 G n v.1 v.2.1 v.2.2 (λy0 y1 y2=>nx (y0,y1,y2)) k0 k1) m (a,b,i)
noncomputable def main {R:Type} (G:Gs) (n:Nat) (a b:LB) (K:Bool->Option R):Option R:=
 bif !decide ((List.length a:Int)=(List.length b:Int))then
  (K false)
 else
  l4 G n n a b 0
   (λt4=>K t4)
   (K true)
noncomputable def dl4 (G:Gs) (n m:Nat) (R:Type) (st:St) (K:Kt R):Option R:=match st with
 |⟨[(0,.one (.l .s a)),(1,.one (.l .s b)),(5,.one (.i i))],[]⟩=>l4 G n m a b i (λt4=>K .ret ⟨[(4,.one (.b t4))],[]⟩) (K (.exit 0) ⟨[],[]⟩)
 |_=>none
noncomputable def pc (G:Gs) (n:Nat):Pcs:=⟨λR id st K=>bif Nat.beq id 4 then dl4 G n n R st K else none,nK,nK⟩
noncomputable def an:Ann:=⟨26,0,[(4,[0,1,5])],[],[4],[(6,⟨[([0,1,2,3,4,5,6,7,8],[],[])],[],[],[],[]⟩)],[]⟩
noncomputable abbrev bd:=bodyOf Tryz.f85
noncomputable abbrev q4:=nthC [1,1,0,1,0,0] bd
theorem pl4 {G:Gs} (hG:AE (ents G)) (n:Nat):∀m,PO an (.loop q4) (dl4 G n m):=lpc hG (pc G n) [0,1,5] ⟨[],[4],[(0,[])]⟩ (apl [] trivial) (λR st K=>by unfold dl4;split<;>rfl) λm R st K r h=>by unfold dl4 at h;split at h;exact .trans (by kernel_rfl) h;cases h
noncomputable def Does (G:Gs) (a b:LB) (r:Bool):Prop:=∃n,main (R:=AT×List Ob) G n a b (λr0=>some (.one (.b r0),[]))=some (.one (.b r),[])
theorem ok {G:Gs} (hG:AE (ents G)) {g:Q} (hg:∀a b r,g a b=some r->Does G a b r):EO (ent g):=λR xs H K r hc=>by
 simp only[ent]at hc
 split at hc
 ·obtain⟨r,j1,j2⟩:=bind_some hc
  obtain⟨n,j3⟩:=hg _ _ _ j1
  exact⟨_,_,j2,fnP hG an (pc G n) bd [.tmp 4] Tryz.func85 (.inl rfl) (apl [(1,4,.loop q4)] ⟨pl4 hG n n,trivial⟩) (.trans (by kernel_rfl) j3)⟩
 ·cases hc
end z2e
namespace z2f
structure Gs where
 none_:Unit
noncomputable def ents (_:Gs):List Ent:=[]
noncomputable def main {R:Type} (G:Gs) (n:Nat) (a b:Sb) (K:Bool->Option R):Option R:=
 bif !decide (a.low=b.low)then
  (K false)
 else
  bif !decide (a.high=b.high)then
   (K false)
  else
   K true
noncomputable def pc (_:Gs) (_:Nat):Pcs:=⟨nK,nK,nK⟩
noncomputable def an:Ann:=⟨15,0,[],[],[4],[],[]⟩
noncomputable abbrev bd:=bodyOf Tryz.f130
noncomputable def Does (G:Gs) (a b:Sb) (r:Bool):Prop:=∃n,main (R:=AT×List Ob) G n a b (λr0=>some (.one (.b r0),[]))=some (.one (.b r),[])
theorem ok {G:Gs} (hG:AE (ents G)) {g:Q} (hg:∀a b r,g a b=some r->Does G a b r):EO (ent g):=λR xs H K r hc=>by
 simp only[ent]at hc
 split at hc
 ·obtain⟨r,j1,j2⟩:=bind_some hc
  obtain⟨n,j3⟩:=hg _ _ _ j1
  exact⟨_,_,j2,fnP hG an (pc G n) bd [.tmp 4] Tryz.func130 (.inl rfl) (apl [] trivial) (.trans (by kernel_rfl) j3)⟩
 ·cases hc
end z2f
namespace z2g
structure Gs where
 z2f:z2f.Q
noncomputable def ents (G:Gs):List Ent:=[z2f.ent G.z2f]
noncomputable def b4 {R:Type} (G:Gs) (n:Nat) (a b:LS) (i:Int) (nx:LS->LS->Int->Option R) (k0:Bool->Option R) (k1:Option R):Option R:=
 bif decide (i<(List.length a:Int))then
  (
  Option.bind (ix a i) λe2=>
  Option.bind (ix b i) λe4=>
  Option.bind (G.z2f e2 e4) λr2=>
  bif !r2 then
   (k0 false)
  else
   nx a b (wr (i+1))
  )
 else
  k1
noncomputable def l4 {R:Type} (G:Gs) (n m:Nat) (a b:LS) (i:Int) (k0:Bool->Option R) (k1:Option R):Option R:=iter (λ(v:LS×LS×Int) nx=>b4 G n v.1 v.2.1 v.2.2 (λy0 y1 y2=>nx (y0,y1,y2)) k0 k1) m (a,b,i)
noncomputable def main {R:Type} (G:Gs) (n:Nat) (a b:LS) (K:Bool->Option R):Option R:=
 bif !decide ((List.length a:Int)=(List.length b:Int))then
  (K false)
 else
  l4 G n n a b 0
   (λt4=>K t4)
   (K true)
noncomputable def dl4 (G:Gs) (n m:Nat) (R:Type) (st:St) (K:Kt R):Option R:=match st with
 |⟨[(0,.one (.l (.n 5) a)),(1,.one (.l (.n 5) b)),(5,.one (.i i))],[]⟩=>l4 G n m a b i (λt4=>K .ret ⟨[(4,.one (.b t4))],[]⟩) (K (.exit 0) ⟨[],[]⟩)
 |_=>none
noncomputable def pc (G:Gs) (n:Nat):Pcs:=⟨λR id st K=>bif Nat.beq id 4 then dl4 G n n R st K else none,nK,nK⟩
noncomputable def an:Ann:=⟨27,0,[(4,[0,1,5])],[],[4],[(6,⟨[([0,1,2,3,4,5,6,7,8,9],[],[])],[],[],[],[]⟩)],[]⟩
noncomputable abbrev bd:=bodyOf Tryz.f86
noncomputable abbrev q4:=nthC [1,1,0,1,0,0] bd
theorem pl4 {G:Gs} (hG:AE (ents G)) (n:Nat):∀m,PO an (.loop q4) (dl4 G n m):=lpc hG (pc G n) [0,1,5] ⟨[],[4],[(0,[])]⟩ (apl [] trivial) (λR st K=>by unfold dl4;split<;>rfl) λm R st K r h=>by unfold dl4 at h;split at h;exact .trans (by kernel_rfl) h;cases h
noncomputable def Does (G:Gs) (a b:LS) (r:Bool):Prop:=∃n,main (R:=AT×List Ob) G n a b (λr0=>some (.one (.b r0),[]))=some (.one (.b r),[])
theorem ok {G:Gs} (hG:AE (ents G)) {g:Q} (hg:∀a b r,g a b=some r->Does G a b r):EO (ent g):=λR xs H K r hc=>by
 simp only[ent]at hc
 split at hc
 ·obtain⟨r,j1,j2⟩:=bind_some hc
  obtain⟨n,j3⟩:=hg _ _ _ j1
  exact⟨_,_,j2,fnP hG an (pc G n) bd [.tmp 4] Tryz.func86 (.inl rfl) (apl [(1,4,.loop q4)] ⟨pl4 hG n n,trivial⟩) (.trans (by kernel_rfl) j3)⟩
 ·cases hc
end z2g
namespace z1z
structure Gs where
 z26:z26.Q
noncomputable def ents (G:Gs):List Ent:=[z26.ent G.z26]
noncomputable def main {R:Type} (G:Gs) (n:Nat) (a b:Dc) (K:Bool->Option R):Option R:=
 Option.bind (G.z26 a.args b.args) λr=>
 bif !r then
  (K false)
 else
  bif !decide (a.result=b.result)then
   (K false)
  else
   K true
noncomputable def pc (_:Gs) (_:Nat):Pcs:=⟨nK,nK,nK⟩
noncomputable def an:Ann:=⟨16,0,[],[],[4],[],[]⟩
noncomputable abbrev bd:=bodyOf Tryz.f173
noncomputable def Does (G:Gs) (a b:Dc) (r:Bool):Prop:=∃n,main (R:=AT×List Ob) G n a b (λr0=>some (.one (.b r0),[]))=some (.one (.b r),[])
theorem ok {G:Gs} (hG:AE (ents G)) {g:Q} (hg:∀a b r,g a b=some r->Does G a b r):EO (ent g):=λR xs H K r hc=>by
 simp only[ent]at hc
 split at hc
 ·obtain⟨r,j1,j2⟩:=bind_some hc
  obtain⟨n,j3⟩:=hg _ _ _ j1
  exact⟨_,_,j2,fnP hG an (pc G n) bd [.tmp 4] Tryz.func173 (.inl rfl) (apl [] trivial) (.trans (by kernel_rfl) j3)⟩
 ·cases hc
end z1z
namespace z21
structure Gs where
 z1z:z1z.Q
noncomputable def ents (G:Gs):List Ent:=[z1z.ent G.z1z]
noncomputable def b4 {R:Type} (G:Gs) (n:Nat) (a b:LD) (i:Int) (nx:LD->LD->Int->Option R) (k0:Bool->Option R) (k1:Option R):Option R:=
 bif decide (i<(List.length a:Int))then
  (
  Option.bind (ix a i) λe2=>
  Option.bind (ix b i) λe4=>
  Option.bind (G.z1z e2 e4) λr2=>
  bif !r2 then
   (k0 false)
  else
   nx a b (wr (i+1))
  )
 else
  k1
noncomputable def l4 {R:Type} (G:Gs) (n m:Nat) (a b:LD) (i:Int) (k0:Bool->Option R) (k1:Option R):Option R:=iter (λ(v:LD×LD×Int) nx=>b4 G n v.1 v.2.1 v.2.2 (λy0 y1 y2=>nx (y0,y1,y2)) k0 k1) m (a,b,i)
noncomputable def main {R:Type} (G:Gs) (n:Nat) (a b:LD) (K:Bool->Option R):Option R:=
 bif !decide ((List.length a:Int)=(List.length b:Int))then
  (K false)
 else
  l4 G n n a b 0
   (λt4=>K t4)
   (K true)
noncomputable def dl4 (G:Gs) (n m:Nat) (R:Type) (st:St) (K:Kt R):Option R:=match st with
 |⟨[(0,.one (.l (.n 7) a)),(1,.one (.l (.n 7) b)),(5,.one (.i i))],[]⟩=>l4 G n m a b i (λt4=>K .ret ⟨[(4,.one (.b t4))],[]⟩) (K (.exit 0) ⟨[],[]⟩)
 |_=>none
noncomputable def pc (G:Gs) (n:Nat):Pcs:=⟨λR id st K=>bif Nat.beq id 4 then dl4 G n n R st K else none,nK,nK⟩
noncomputable def an:Ann:=⟨27,0,[(4,[0,1,5])],[],[4],[(6,⟨[([0,1,2,3,4,5,6,7,8,9],[],[])],[],[],[],[]⟩)],[]⟩
noncomputable abbrev bd:=bodyOf Tryz.f131
noncomputable abbrev q4:=nthC [1,1,0,1,0,0] bd
theorem pl4 {G:Gs} (hG:AE (ents G)) (n:Nat):∀m,PO an (.loop q4) (dl4 G n m):=lpc hG (pc G n) [0,1,5] ⟨[],[4],[(0,[])]⟩ (apl [] trivial) (λR st K=>by unfold dl4;split<;>rfl) λm R st K r h=>by unfold dl4 at h;split at h;exact .trans (by kernel_rfl) h;cases h
noncomputable def Does (G:Gs) (a b:LD) (r:Bool):Prop:=∃n,main (R:=AT×List Ob) G n a b (λr0=>some (.one (.b r0),[]))=some (.one (.b r),[])
theorem ok {G:Gs} (hG:AE (ents G)) {g:Q} (hg:∀a b r,g a b=some r->Does G a b r):EO (ent g):=λR xs H K r hc=>by
 simp only[ent]at hc
 split at hc
 ·obtain⟨r,j1,j2⟩:=bind_some hc
  obtain⟨n,j3⟩:=hg _ _ _ j1
  exact⟨_,_,j2,fnP hG an (pc G n) bd [.tmp 4] Tryz.func131 (.inl rfl) (apl [(1,4,.loop q4)] ⟨pl4 hG n n,trivial⟩) (.trans (by kernel_rfl) j3)⟩
 ·cases hc
end z21
namespace z28
structure Gs where
 z21:z21.Q
noncomputable def ents (G:Gs):List Ent:=[z21.ent G.z21]
noncomputable def main {R:Type} (G:Gs) (n:Nat) (a b:Opr) (K:Bool->Option R):Option R:=
 bif !sEq a.name b.name then
  (K false)
 else
  Option.bind (G.z21 a.decls b.decls) λr=>
  bif !r then
   (K false)
  else
   bif !(a.assoc==b.assoc)then
    (K false)
   else
    bif !(a.comm==b.comm)then
     (K false)
    else
     bif !decide (a.unit=b.unit)then
      (K false)
     else
      K true
noncomputable def pc (_:Gs) (_:Nat):Pcs:=⟨nK,nK,nK⟩
noncomputable def an:Ann:=⟨31,0,[],[],[4],[],[]⟩
noncomputable abbrev bd:=bodyOf Tryz.f87
noncomputable def Does (G:Gs) (a b:Opr) (r:Bool):Prop:=∃n,main (R:=AT×List Ob) G n a b (λr0=>some (.one (.b r0),[]))=some (.one (.b r),[])
theorem ok {G:Gs} (hG:AE (ents G)) {g:Q} (hg:∀a b r,g a b=some r->Does G a b r):EO (ent g):=λR xs H K r hc=>by
 simp only[ent]at hc
 split at hc
 ·obtain⟨r,j1,j2⟩:=bind_some hc
  obtain⟨n,j3⟩:=hg _ _ _ j1
  exact⟨_,_,j2,fnP hG an (pc G n) bd [.tmp 4] Tryz.func87 (.inl rfl) (apl [] trivial) (.trans (by kernel_rfl) j3)⟩
 ·cases hc
end z28
namespace z29
structure Gs where
 z28:z28.Q
noncomputable def ents (G:Gs):List Ent:=[z28.ent G.z28]
noncomputable def b4 {R:Type} (G:Gs) (n:Nat) (a b:LO) (i:Int) (nx:LO->LO->Int->Option R) (k0:Bool->Option R) (k1:Option R):Option R:=
 bif decide (i<(List.length a:Int))then
  (
  Option.bind (ix a i) λe2=>
  Option.bind (ix b i) λe4=>
  Option.bind (G.z28 e2 e4) λr2=>
  bif !r2 then
   (k0 false)
  else
   nx a b (wr (i+1))
  )
 else
  k1
noncomputable def l4 {R:Type} (G:Gs) (n m:Nat) (a b:LO) (i:Int) (k0:Bool->Option R) (k1:Option R):Option R:=iter (λ(v:LO×LO×Int) nx=>b4 G n v.1 v.2.1 v.2.2 (λy0 y1 y2=>nx (y0,y1,y2)) k0 k1) m (a,b,i)
noncomputable def main {R:Type} (G:Gs) (n:Nat) (a b:LO) (K:Bool->Option R):Option R:=
 bif !decide ((List.length a:Int)=(List.length b:Int))then
  (K false)
 else
  l4 G n n a b 0
   (λt4=>K t4)
   (K true)
noncomputable def dl4 (G:Gs) (n m:Nat) (R:Type) (st:St) (K:Kt R):Option R:=match st with
 |⟨[(0,.one (.l (.n 8) a)),(1,.one (.l (.n 8) b)),(5,.one (.i i))],[]⟩=>l4 G n m a b i (λt4=>K .ret ⟨[(4,.one (.b t4))],[]⟩) (K (.exit 0) ⟨[],[]⟩)
 |_=>none
noncomputable def pc (G:Gs) (n:Nat):Pcs:=⟨λR id st K=>bif Nat.beq id 4 then dl4 G n n R st K else none,nK,nK⟩
noncomputable def an:Ann:=⟨27,0,[(4,[0,1,5])],[],[4],[(6,⟨[([0,1,2,3,4,5,6,7,8,9],[],[])],[],[],[],[]⟩)],[]⟩
noncomputable abbrev bd:=bodyOf Tryz.f48
noncomputable abbrev q4:=nthC [1,1,0,1,0,0] bd
theorem pl4 {G:Gs} (hG:AE (ents G)) (n:Nat):∀m,PO an (.loop q4) (dl4 G n m):=lpc hG (pc G n) [0,1,5] ⟨[],[4],[(0,[])]⟩ (apl [] trivial) (λR st K=>by unfold dl4;split<;>rfl) λm R st K r h=>by unfold dl4 at h;split at h;exact .trans (by kernel_rfl) h;cases h
noncomputable def Does (G:Gs) (a b:LO) (r:Bool):Prop:=∃n,main (R:=AT×List Ob) G n a b (λr0=>some (.one (.b r0),[]))=some (.one (.b r),[])
theorem ok {G:Gs} (hG:AE (ents G)) {g:Q} (hg:∀a b r,g a b=some r->Does G a b r):EO (ent g):=λR xs H K r hc=>by
 simp only[ent]at hc
 split at hc
 ·obtain⟨r,j1,j2⟩:=bind_some hc
  obtain⟨n,j3⟩:=hg _ _ _ j1
  exact⟨_,_,j2,fnP hG an (pc G n) bd [.tmp 4] Tryz.func48 (.inl rfl) (apl [(1,4,.loop q4)] ⟨pl4 hG n n,trivial⟩) (.trans (by kernel_rfl) j3)⟩
 ·cases hc
end z29
namespace z2b
structure Gs where
 z2e:z2e.Q
 z2g:z2g.Q
noncomputable def ents (G:Gs):List Ent:=[z2e.ent G.z2e,z2g.ent G.z2g]
noncomputable def main {R:Type} (G:Gs) (n:Nat) (a b:So) (K:Bool->Option R):Option R:=
 Option.bind (G.z2e a.names b.names) λr=>
 bif !r then
  (K false)
 else
  Option.bind (G.z2g a.subs b.subs) λr2=>
  bif !r2 then
   (K false)
  else
   K true
noncomputable def pc (_:Gs) (_:Nat):Pcs:=⟨nK,nK,nK⟩
noncomputable def an:Ann:=⟨17,0,[],[],[4],[],[]⟩
noncomputable abbrev bd:=bodyOf Tryz.f47
noncomputable def Does (G:Gs) (a b:So) (r:Bool):Prop:=∃n,main (R:=AT×List Ob) G n a b (λr0=>some (.one (.b r0),[]))=some (.one (.b r),[])
theorem ok {G:Gs} (hG:AE (ents G)) {g:Q} (hg:∀a b r,g a b=some r->Does G a b r):EO (ent g):=λR xs H K r hc=>by
 simp only[ent]at hc
 split at hc
 ·obtain⟨r,j1,j2⟩:=bind_some hc
  obtain⟨n,j3⟩:=hg _ _ _ j1
  exact⟨_,_,j2,fnP hG an (pc G n) bd [.tmp 4] Tryz.func47 (.inl rfl) (apl [] trivial) (.trans (by kernel_rfl) j3)⟩
 ·cases hc
end z2b
namespace z2a
structure Gs where
 z2b:z2b.Q
 z29:z29.Q
noncomputable def ents (G:Gs):List Ent:=[z2b.ent G.z2b,z29.ent G.z29]
noncomputable def main {R:Type} (G:Gs) (n:Nat) (a b:Sg) (K:Bool->Option R):Option R:=
 Option.bind (G.z2b a.sorts b.sorts) λr=>
 bif !r then
  (K false)
 else
  Option.bind (G.z29 a.ops b.ops) λr2=>
  bif !r2 then
   (K false)
  else
   K true
noncomputable def pc (_:Gs) (_:Nat):Pcs:=⟨nK,nK,nK⟩
noncomputable def an:Ann:=⟨17,0,[],[],[4],[],[]⟩
noncomputable abbrev bd:=bodyOf Tryz.f18
noncomputable def Does (G:Gs) (a b:Sg) (r:Bool):Prop:=∃n,main (R:=AT×List Ob) G n a b (λr0=>some (.one (.b r0),[]))=some (.one (.b r),[])
theorem ok {G:Gs} (hG:AE (ents G)) {g:Q} (hg:∀a b r,g a b=some r->Does G a b r):EO (ent g):=λR xs H K r hc=>by
 simp only[ent]at hc
 split at hc
 ·obtain⟨r,j1,j2⟩:=bind_some hc
  obtain⟨n,j3⟩:=hg _ _ _ j1
  exact⟨_,_,j2,fnP hG an (pc G n) bd [.tmp 4] Tryz.func18 (.inl rfl) (apl [] trivial) (.trans (by kernel_rfl) j3)⟩
 ·cases hc
end z2a
namespace z3q
structure Gs where
 none_:Unit
noncomputable def ents (_:Gs):List Ent:=[]
noncomputable def b3 {R:Type} (G:Gs) (n:Nat) (a:LI) (i:Int) (h0:LI) (nx:LI->Int->LI->Option R) (k0:LI->Option R):Option R:=
 bif decide (i<(List.length a:Int))then
  (
  Option.bind (ix a i) λe=>
  Option.bind (ix h0 i) λe2=>
  nx a (wr (i+1)) (List.set h0 (Int.toNat i) e)
  )
 else
  k0 h0
noncomputable def l3 {R:Type} (G:Gs) (n m:Nat) (a:LI) (i:Int) (h0:LI) (k0:LI->Option R):Option R:=iter (λ(v:LI×Int×LI) nx=>b3 G n v.1 v.2.1 v.2.2 (λy0 y1 y2=>nx (y0,y1,y2)) k0) m (a,i,h0)
noncomputable def main {R:Type} (G:Gs) (n:Nat) (a:LI) (K:LI->Option R):Option R:=
 Option.bind (mk (α:=Int) 0 (List.length a:Int)) λxs=>
 l3 G n n a 0 xs
  (λh0=>K h0)
noncomputable def dl3 (G:Gs) (n m:Nat) (R:Type) (st:St) (K:Kt R):Option R:=match st with
 |⟨[(0,.one (.l .i a)),(3,.one (.o 0)),(4,.one (.i i))],[.row .i 0 h0]⟩=>l3 G n m a i h0 (λh0=>K (.exit 0) ⟨[(3,.one (.o 0))],[.row .i 0 h0]⟩)
 |_=>none
noncomputable def pc (G:Gs) (n:Nat):Pcs:=⟨λR id st K=>bif Nat.beq id 3 then dl3 G n n R st K else none,nK,nK⟩
noncomputable def an:Ann:=⟨22,0,[(3,[0,3,4])],[],[2],[],[]⟩
noncomputable abbrev bd:=bodyOf Tryz.f186
noncomputable abbrev q3:=nthC [1,1,0,1,0,0] bd
theorem pl3 {G:Gs} (hG:AE (ents G)) (n:Nat):∀m,PO an (.loop q3) (dl3 G n m):=lpc hG (pc G n) [0,3,4] ⟨[3],[2],[(0,[3])]⟩ (apl [] trivial) (λR st K=>by unfold dl3;split<;>rfl) λm R st K r h=>by unfold dl3 at h;split at h;exact .trans (by kernel_rfl) h;cases h
noncomputable def Does (G:Gs) (a r:LI):Prop:=∃n,main (R:=AT×List Ob) G n a (λr0=>some (.one (.l .i r0),[]))=some (.one (.l .i r),[])
theorem ok {G:Gs} (hG:AE (ents G)) {g:Q} (hg:∀a r,g a=some r->Does G a r):EO (ent g):=λR xs H K r hc=>by
 simp only[ent]at hc
 split at hc
 ·obtain⟨r,j1,j2⟩:=bind_some hc
  obtain⟨n,j3⟩:=hg _ _ j1
  exact⟨_,_,j2,fnP hG an (pc G n) bd [.tmp 2] Tryz.func186 (.inl rfl) (apl [(1,3,.loop q3)] ⟨pl3 hG n n,trivial⟩) (.trans (by kernel_rfl) j3)⟩
 ·cases hc
end z3q
namespace z3y
structure Gs where
 none_:Unit
noncomputable def ents (_:Gs):List Ent:=[]
noncomputable def b3 {R:Type} (G:Gs) (n:Nat) (a:LB) (i:Int) (h0:LB) (nx:LB->Int->LB->Option R) (k0:LB->Option R):Option R:=
 bif decide (i<(List.length a:Int))then
  (
  Option.bind (ix a i) λe=>
  Option.bind (ix h0 i) λe2=>
  nx a (wr (i+1)) (List.set h0 (Int.toNat i) e)
  )
 else
  k0 h0
noncomputable def l3 {R:Type} (G:Gs) (n m:Nat) (a:LB) (i:Int) (h0:LB) (k0:LB->Option R):Option R:=iter (λ(v:LB×Int×LB) nx=>b3 G n v.1 v.2.1 v.2.2 (λy0 y1 y2=>nx (y0,y1,y2)) k0) m (a,i,h0)
noncomputable def main {R:Type} (G:Gs) (n:Nat) (a:LB) (K:LB->Option R):Option R:=
 Option.bind (mk (α:=ByteArray) ByteArray.empty (List.length a:Int)) λxs=>
 l3 G n n a 0 xs
  (λh0=>K h0)
noncomputable def dl3 (G:Gs) (n m:Nat) (R:Type) (st:St) (K:Kt R):Option R:=match st with
 |⟨[(0,.one (.l .s a)),(3,.one (.o 0)),(4,.one (.i i))],[.row .s 0 h0]⟩=>l3 G n m a i h0 (λh0=>K (.exit 0) ⟨[(3,.one (.o 0))],[.row .s 0 h0]⟩)
 |_=>none
noncomputable def pc (G:Gs) (n:Nat):Pcs:=⟨λR id st K=>bif Nat.beq id 3 then dl3 G n n R st K else none,nK,nK⟩
noncomputable def an:Ann:=⟨22,0,[(3,[0,3,4])],[],[2],[],[]⟩
noncomputable abbrev bd:=bodyOf Tryz.f78
noncomputable abbrev q3:=nthC [1,1,0,1,0,0] bd
theorem pl3 {G:Gs} (hG:AE (ents G)) (n:Nat):∀m,PO an (.loop q3) (dl3 G n m):=lpc hG (pc G n) [0,3,4] ⟨[3],[2],[(0,[3])]⟩ (apl [] trivial) (λR st K=>by unfold dl3;split<;>rfl) λm R st K r h=>by unfold dl3 at h;split at h;exact .trans (by kernel_rfl) h;cases h
noncomputable def Does (G:Gs) (a r:LB):Prop:=∃n,main (R:=AT×List Ob) G n a (λr0=>some (.one (.l .s r0),[]))=some (.one (.l .s r),[])
theorem ok {G:Gs} (hG:AE (ents G)) {g:Q} (hg:∀a r,g a=some r->Does G a r):EO (ent g):=λR xs H K r hc=>by
 simp only[ent]at hc
 split at hc
 ·obtain⟨r,j1,j2⟩:=bind_some hc
  obtain⟨n,j3⟩:=hg _ _ j1
  exact⟨_,_,j2,fnP hG an (pc G n) bd [.tmp 2] Tryz.func78 (.inl rfl) (apl [(1,3,.loop q3)] ⟨pl3 hG n n,trivial⟩) (.trans (by kernel_rfl) j3)⟩
 ·cases hc
end z3y
namespace z3z
structure Gs where
 none_:Unit
noncomputable def ents (_:Gs):List Ent:=[]
noncomputable def main {R:Type} (G:Gs) (n:Nat) (a:Sb) (K:Sb->Option R):Option R:=
 K a
noncomputable def pc (_:Gs) (_:Nat):Pcs:=⟨nK,nK,nK⟩
noncomputable def an:Ann:=⟨11,0,[],[],[2],[],[]⟩
noncomputable abbrev bd:=bodyOf Tryz.f125
noncomputable def Does (G:Gs) (a r:Sb):Prop:=∃n,main (R:=AT×List Ob) G n a (λr0=>some (.agg [.i r0.low,.i r0.high],[]))=some (.agg [.i r.low,.i r.high],[])
theorem ok {G:Gs} (hG:AE (ents G)) {g:Q} (hg:∀a r,g a=some r->Does G a r):EO (ent g):=λR xs H K r hc=>by
 simp only[ent]at hc
 split at hc
 ·obtain⟨r,j1,j2⟩:=bind_some hc
  obtain⟨n,j3⟩:=hg _ _ j1
  exact⟨_,_,j2,fnP hG an (pc G n) bd [.cell 2 174] Tryz.func125 (.inl rfl) (apl [] trivial) (.trans (by kernel_rfl) j3)⟩
 ·cases hc
end z3z
namespace z40
structure Gs where
 z3z:z3z.Q
noncomputable def ents (G:Gs):List Ent:=[z3z.ent G.z3z]
noncomputable def b3 {R:Type} (G:Gs) (n:Nat) (a:LS) (i:Int) (h0:LS) (nx:LS->Int->LS->Option R) (k0:LS->Option R):Option R:=
 bif decide (i<(List.length a:Int))then
  (
  Option.bind (ix a i) λe=>
  Option.bind (G.z3z e) λr=>
  Option.bind (ix h0 i) λe2=>
  nx a (wr (i+1)) (List.set h0 (Int.toNat i) r)
  )
 else
  k0 h0
noncomputable def l3 {R:Type} (G:Gs) (n m:Nat) (a:LS) (i:Int) (h0:LS) (k0:LS->Option R):Option R:=iter (λ(v:LS×Int×LS) nx=>b3 G n v.1 v.2.1 v.2.2 (λy0 y1 y2=>nx (y0,y1,y2)) k0) m (a,i,h0)
noncomputable def main {R:Type} (G:Gs) (n:Nat) (a:LS) (K:LS->Option R):Option R:=
 Option.bind (mk (α:=Sb) (Sb.mk 0 0) (List.length a:Int)) λxs=>
 l3 G n n a 0 xs
  (λh0=>K h0)
noncomputable def dl3 (G:Gs) (n m:Nat) (R:Type) (st:St) (K:Kt R):Option R:=match st with
 |⟨[(0,.one (.l (.n 5) a)),(3,.one (.o 0)),(4,.one (.i i))],[.row (.n 5) 0 h0]⟩=>l3 G n m a i h0 (λh0=>K (.exit 0) ⟨[(3,.one (.o 0))],[.row (.n 5) 0 h0]⟩)
 |_=>none
noncomputable def pc (G:Gs) (n:Nat):Pcs:=⟨λR id st K=>bif Nat.beq id 3 then dl3 G n n R st K else none,nK,nK⟩
noncomputable def an:Ann:=⟨23,0,[(3,[0,3,4])],[],[2],[],[]⟩
noncomputable abbrev bd:=bodyOf Tryz.f79
noncomputable abbrev q3:=nthC [1,1,0,1,0,0] bd
theorem pl3 {G:Gs} (hG:AE (ents G)) (n:Nat):∀m,PO an (.loop q3) (dl3 G n m):=lpc hG (pc G n) [0,3,4] ⟨[3],[2],[(0,[3])]⟩ (apl [] trivial) (λR st K=>by unfold dl3;split<;>rfl) λm R st K r h=>by unfold dl3 at h;split at h;exact .trans (by kernel_rfl) h;cases h
noncomputable def Does (G:Gs) (a r:LS):Prop:=∃n,main (R:=AT×List Ob) G n a (λr0=>some (.one (.l (.n 5) r0),[]))=some (.one (.l (.n 5) r),[])
theorem ok {G:Gs} (hG:AE (ents G)) {g:Q} (hg:∀a r,g a=some r->Does G a r):EO (ent g):=λR xs H K r hc=>by
 simp only[ent]at hc
 split at hc
 ·obtain⟨r,j1,j2⟩:=bind_some hc
  obtain⟨n,j3⟩:=hg _ _ j1
  exact⟨_,_,j2,fnP hG an (pc G n) bd [.tmp 2] Tryz.func79 (.inl rfl) (apl [(1,3,.loop q3)] ⟨pl3 hG n n,trivial⟩) (.trans (by kernel_rfl) j3)⟩
 ·cases hc
end z40
namespace z3m
structure Gs where
 z3q:z3q.Q
noncomputable def ents (G:Gs):List Ent:=[z3q.ent G.z3q]
noncomputable def main {R:Type} (G:Gs) (n:Nat) (a:Dc) (K:Dc->Option R):Option R:=
 Option.bind (G.z3q a.args) λr=>
 K (Dc.mk r a.result)
noncomputable def pc (_:Gs) (_:Nat):Pcs:=⟨nK,nK,nK⟩
noncomputable def an:Ann:=⟨12,0,[],[],[2],[],[]⟩
noncomputable abbrev bd:=bodyOf Tryz.f167
noncomputable def Does (G:Gs) (a r:Dc):Prop:=∃n,main (R:=AT×List Ob) G n a (λr0=>some (.agg [.l .i r0.args,.i r0.result],[]))=some (.agg [.l .i r.args,.i r.result],[])
theorem ok {G:Gs} (hG:AE (ents G)) {g:Q} (hg:∀a r,g a=some r->Does G a r):EO (ent g):=λR xs H K r hc=>by
 simp only[ent]at hc
 split at hc
 ·obtain⟨r,j1,j2⟩:=bind_some hc
  obtain⟨n,j3⟩:=hg _ _ j1
  exact⟨_,_,j2,fnP hG an (pc G n) bd [.cell 2 197] Tryz.func167 (.inl rfl) (apl [] trivial) (.trans (by kernel_rfl) j3)⟩
 ·cases hc
end z3m
namespace z3n
structure Gs where
 z3m:z3m.Q
noncomputable def ents (G:Gs):List Ent:=[z3m.ent G.z3m]
noncomputable def b3 {R:Type} (G:Gs) (n:Nat) (a:LD) (i:Int) (h0:LD) (nx:LD->Int->LD->Option R) (k0:LD->Option R):Option R:=
 bif decide (i<(List.length a:Int))then
  (
  Option.bind (ix a i) λe=>
  Option.bind (G.z3m e) λr=>
  Option.bind (ix h0 i) λe2=>
  nx a (wr (i+1)) (List.set h0 (Int.toNat i) r)
  )
 else
  k0 h0
noncomputable def l3 {R:Type} (G:Gs) (n m:Nat) (a:LD) (i:Int) (h0:LD) (k0:LD->Option R):Option R:=iter (λ(v:LD×Int×LD) nx=>b3 G n v.1 v.2.1 v.2.2 (λy0 y1 y2=>nx (y0,y1,y2)) k0) m (a,i,h0)
noncomputable def main {R:Type} (G:Gs) (n:Nat) (a:LD) (K:LD->Option R):Option R:=
 Option.bind (mk (α:=Dc) (Dc.mk [] 0) (List.length a:Int)) λxs=>
 l3 G n n a 0 xs
  (λh0=>K h0)
noncomputable def dl3 (G:Gs) (n m:Nat) (R:Type) (st:St) (K:Kt R):Option R:=match st with
 |⟨[(0,.one (.l (.n 7) a)),(3,.one (.o 0)),(4,.one (.i i))],[.row (.n 7) 0 h0]⟩=>l3 G n m a i h0 (λh0=>K (.exit 0) ⟨[(3,.one (.o 0))],[.row (.n 7) 0 h0]⟩)
 |_=>none
noncomputable def pc (G:Gs) (n:Nat):Pcs:=⟨λR id st K=>bif Nat.beq id 3 then dl3 G n n R st K else none,nK,nK⟩
noncomputable def an:Ann:=⟨23,0,[(3,[0,3,4])],[],[2],[],[]⟩
noncomputable abbrev bd:=bodyOf Tryz.f126
noncomputable abbrev q3:=nthC [1,1,0,1,0,0] bd
theorem pl3 {G:Gs} (hG:AE (ents G)) (n:Nat):∀m,PO an (.loop q3) (dl3 G n m):=lpc hG (pc G n) [0,3,4] ⟨[3],[2],[(0,[3])]⟩ (apl [] trivial) (λR st K=>by unfold dl3;split<;>rfl) λm R st K r h=>by unfold dl3 at h;split at h;exact .trans (by kernel_rfl) h;cases h
noncomputable def Does (G:Gs) (a r:LD):Prop:=∃n,main (R:=AT×List Ob) G n a (λr0=>some (.one (.l (.n 7) r0),[]))=some (.one (.l (.n 7) r),[])
theorem ok {G:Gs} (hG:AE (ents G)) {g:Q} (hg:∀a r,g a=some r->Does G a r):EO (ent g):=λR xs H K r hc=>by
 simp only[ent]at hc
 split at hc
 ·obtain⟨r,j1,j2⟩:=bind_some hc
  obtain⟨n,j3⟩:=hg _ _ j1
  exact⟨_,_,j2,fnP hG an (pc G n) bd [.tmp 2] Tryz.func126 (.inl rfl) (apl [(1,3,.loop q3)] ⟨pl3 hG n n,trivial⟩) (.trans (by kernel_rfl) j3)⟩
 ·cases hc
end z3n
namespace z3s
structure Gs where
 z3n:z3n.Q
noncomputable def ents (G:Gs):List Ent:=[z3n.ent G.z3n]
noncomputable def main {R:Type} (G:Gs) (n:Nat) (a:Opr) (K:Opr->Option R):Option R:=
 Option.bind (G.z3n a.decls) λr=>
 K (Opr.mk a.name r a.assoc a.comm a.unit)
noncomputable def pc (_:Gs) (_:Nat):Pcs:=⟨nK,nK,nK⟩
noncomputable def an:Ann:=⟨21,0,[],[],[2],[],[]⟩
noncomputable abbrev bd:=bodyOf Tryz.f80
noncomputable def Does (G:Gs) (a r:Opr):Prop:=∃n,main (R:=AT×List Ob) G n a (λr0=>some (.agg [.s r0.name,.l (.n 7) r0.decls,.b r0.assoc,.b r0.comm,.i r0.unit],[]))=some (.agg [.s r.name,.l (.n 7) r.decls,.b r.assoc,.b r.comm,.i r.unit],[])
theorem ok {G:Gs} (hG:AE (ents G)) {g:Q} (hg:∀a r,g a=some r->Does G a r):EO (ent g):=λR xs H K r hc=>by
 simp only[ent]at hc
 split at hc
 ·obtain⟨r,j1,j2⟩:=bind_some hc
  obtain⟨n,j3⟩:=hg _ _ j1
  exact⟨_,_,j2,fnP hG an (pc G n) bd [.cell 2 146] Tryz.func80 (.inl rfl) (apl [] trivial) (.trans (by kernel_rfl) j3)⟩
 ·cases hc
end z3s
namespace z3t
structure Gs where
 z3s:z3s.Q
noncomputable def ents (G:Gs):List Ent:=[z3s.ent G.z3s]
noncomputable def b3 {R:Type} (G:Gs) (n:Nat) (a:LO) (i:Int) (h0:LO) (nx:LO->Int->LO->Option R) (k0:LO->Option R):Option R:=
 bif decide (i<(List.length a:Int))then
  (
  Option.bind (ix a i) λe=>
  Option.bind (G.z3s e) λr=>
  Option.bind (ix h0 i) λe2=>
  nx a (wr (i+1)) (List.set h0 (Int.toNat i) r)
  )
 else
  k0 h0
noncomputable def l3 {R:Type} (G:Gs) (n m:Nat) (a:LO) (i:Int) (h0:LO) (k0:LO->Option R):Option R:=iter (λ(v:LO×Int×LO) nx=>b3 G n v.1 v.2.1 v.2.2 (λy0 y1 y2=>nx (y0,y1,y2)) k0) m (a,i,h0)
noncomputable def main {R:Type} (G:Gs) (n:Nat) (a:LO) (K:LO->Option R):Option R:=
 Option.bind (mk (α:=Opr) (Opr.mk ByteArray.empty [] false false 0) (List.length a:Int)) λxs=>
 l3 G n n a 0 xs
  (λh0=>K h0)
noncomputable def dl3 (G:Gs) (n m:Nat) (R:Type) (st:St) (K:Kt R):Option R:=match st with
 |⟨[(0,.one (.l (.n 8) a)),(3,.one (.o 0)),(4,.one (.i i))],[.row (.n 8) 0 h0]⟩=>l3 G n m a i h0 (λh0=>K (.exit 0) ⟨[(3,.one (.o 0))],[.row (.n 8) 0 h0]⟩)
 |_=>none
noncomputable def pc (G:Gs) (n:Nat):Pcs:=⟨λR id st K=>bif Nat.beq id 3 then dl3 G n n R st K else none,nK,nK⟩
noncomputable def an:Ann:=⟨23,0,[(3,[0,3,4])],[],[2],[],[]⟩
noncomputable abbrev bd:=bodyOf Tryz.f44
noncomputable abbrev q3:=nthC [1,1,0,1,0,0] bd
theorem pl3 {G:Gs} (hG:AE (ents G)) (n:Nat):∀m,PO an (.loop q3) (dl3 G n m):=lpc hG (pc G n) [0,3,4] ⟨[3],[2],[(0,[3])]⟩ (apl [] trivial) (λR st K=>by unfold dl3;split<;>rfl) λm R st K r h=>by unfold dl3 at h;split at h;exact .trans (by kernel_rfl) h;cases h
noncomputable def Does (G:Gs) (a r:LO):Prop:=∃n,main (R:=AT×List Ob) G n a (λr0=>some (.one (.l (.n 8) r0),[]))=some (.one (.l (.n 8) r),[])
theorem ok {G:Gs} (hG:AE (ents G)) {g:Q} (hg:∀a r,g a=some r->Does G a r):EO (ent g):=λR xs H K r hc=>by
 simp only[ent]at hc
 split at hc
 ·obtain⟨r,j1,j2⟩:=bind_some hc
  obtain⟨n,j3⟩:=hg _ _ j1
  exact⟨_,_,j2,fnP hG an (pc G n) bd [.tmp 2] Tryz.func44 (.inl rfl) (apl [(1,3,.loop q3)] ⟨pl3 hG n n,trivial⟩) (.trans (by kernel_rfl) j3)⟩
 ·cases hc
end z3t
namespace z3v
structure Gs where
 z3y:z3y.Q
 z40:z40.Q
noncomputable def ents (G:Gs):List Ent:=[z3y.ent G.z3y,z40.ent G.z40]
noncomputable def main {R:Type} (G:Gs) (n:Nat) (a:So) (K:So->Option R):Option R:=
 Option.bind (G.z3y a.names) λr=>
 Option.bind (G.z40 a.subs) λr2=>
 K (So.mk r r2)
noncomputable def pc (_:Gs) (_:Nat):Pcs:=⟨nK,nK,nK⟩
noncomputable def an:Ann:=⟨13,0,[],[],[2],[],[]⟩
noncomputable abbrev bd:=bodyOf Tryz.f43
noncomputable def Does (G:Gs) (a r:So):Prop:=∃n,main (R:=AT×List Ob) G n a (λr0=>some (.agg [.l .s r0.names,.l (.n 5) r0.subs],[]))=some (.agg [.l .s r.names,.l (.n 5) r.subs],[])
theorem ok {G:Gs} (hG:AE (ents G)) {g:Q} (hg:∀a r,g a=some r->Does G a r):EO (ent g):=λR xs H K r hc=>by
 simp only[ent]at hc
 split at hc
 ·obtain⟨r,j1,j2⟩:=bind_some hc
  obtain⟨n,j3⟩:=hg _ _ j1
  exact⟨_,_,j2,fnP hG an (pc G n) bd [.cell 2 43] Tryz.func43 (.inl rfl) (apl [] trivial) (.trans (by kernel_rfl) j3)⟩
 ·cases hc
end z3v
namespace z3u
structure Gs where
 z3v:z3v.Q
 z3t:z3t.Q
noncomputable def ents (G:Gs):List Ent:=[z3v.ent G.z3v,z3t.ent G.z3t]
noncomputable def main {R:Type} (G:Gs) (n:Nat) (a:Sg) (K:Sg->Option R):Option R:=
 Option.bind (G.z3v a.sorts) λr=>
 Option.bind (G.z3t a.ops) λr2=>
 K (Sg.mk r r2)
noncomputable def pc (_:Gs) (_:Nat):Pcs:=⟨nK,nK,nK⟩
noncomputable def an:Ann:=⟨13,0,[],[],[2],[],[]⟩
noncomputable abbrev bd:=bodyOf Tryz.f15
noncomputable def Does (G:Gs) (a r:Sg):Prop:=∃n,main (R:=AT×List Ob) G n a (λr0=>some (.agg [.l .s r0.sorts.names,.l (.n 5) r0.sorts.subs,.l (.n 8) r0.ops],[]))=some (.agg [.l .s r.sorts.names,.l (.n 5) r.sorts.subs,.l (.n 8) r.ops],[])
theorem ok {G:Gs} (hG:AE (ents G)) {g:Q} (hg:∀a r,g a=some r->Does G a r):EO (ent g):=λR xs H K r hc=>by
 simp only[ent]at hc
 split at hc
 ·obtain⟨r,j1,j2⟩:=bind_some hc
  obtain⟨n,j3⟩:=hg _ _ j1
  exact⟨_,_,j2,fnP hG an (pc G n) bd [.cell 2 46] Tryz.func15 (.inl rfl) (apl [] trivial) (.trans (by kernel_rfl) j3)⟩
 ·cases hc
end z3u
namespace z36
structure Gs where
 none_:Unit
noncomputable def ents (_:Gs):List Ent:=[]
noncomputable def main {R:Type} (G:Gs) (n:Nat) (a:LI) (left:Int) (K:Int->Option R):Option R:=
 bif decide ((wr (left-(List.length a:Int)))<0)then
  (K (-1))
 else
  K (wr (left-(List.length a:Int)))
noncomputable def pc (_:Gs) (_:Nat):Pcs:=⟨nK,nK,nK⟩
noncomputable def an:Ann:=⟨12,0,[],[],[4],[],[]⟩
noncomputable abbrev bd:=bodyOf Tryz.f182
noncomputable def Does (G:Gs) (a:LI) (left r:Int):Prop:=∃n,main (R:=AT×List Ob) G n a left (λr0=>some (.one (.i r0),[]))=some (.one (.i r),[])
theorem ok {G:Gs} (hG:AE (ents G)) {g:Q} (hg:∀a left r,g a left=some r->Does G a left r):EO (ent g):=λR xs H K r hc=>by
 simp only[ent]at hc
 split at hc
 ·obtain⟨r,j1,j2⟩:=bind_some hc
  obtain⟨n,j3⟩:=hg _ _ _ j1
  exact⟨_,_,j2,fnP hG an (pc G n) bd [.tmp 4] Tryz.func182 (.inl rfl) (apl [] trivial) (.trans (by kernel_rfl) j3)⟩
 ·cases hc
end z36
namespace z3g
structure Gs where
 none_:Unit
noncomputable def ents (_:Gs):List Ent:=[]
noncomputable def b5 {R:Type} (G:Gs) (n:Nat) (a:LB) (left i:Int) (nx:LB->Int->Int->Option R) (k0 k1:Int->Option R):Option R:=
 bif decide (i<(List.length a:Int))then
  (
  Option.bind (ix a i) λe=>
  bif decide ((wr (left-(ByteArray.size e:Int)))<0)then
   (k0 (-1))
  else
   nx a (wr (left-(ByteArray.size e:Int))) (wr (i+1))
  )
 else
  k1 left
noncomputable def l5 {R:Type} (G:Gs) (n m:Nat) (a:LB) (left i:Int) (k0 k1:Int->Option R):Option R:=iter (λ(v:LB×Int×Int) nx=>b5 G n v.1 v.2.1 v.2.2 (λy0 y1 y2=>nx (y0,y1,y2)) k0 k1) m (a,left,i)
noncomputable def main {R:Type} (G:Gs) (n:Nat) (a:LB) (left:Int) (K:Int->Option R):Option R:=
 bif decide ((wr (left-(List.length a:Int)))<0)then
  (K (-1))
 else
  l5 G n n a (wr (left-(List.length a:Int))) 0
   (λt4=>K t4)
   (λleft2=>K left2)
noncomputable def dl5 (G:Gs) (n m:Nat) (R:Type) (st:St) (K:Kt R):Option R:=match st with
 |⟨[(0,.one (.l .s a)),(1,.one (.i left)),(5,.one (.i i))],[]⟩=>l5 G n m a left i (λt4=>K .ret ⟨[(4,.one (.i t4))],[]⟩) (λleft=>K (.exit 0) ⟨[(1,.one (.i left))],[]⟩)
 |_=>none
noncomputable def pc (G:Gs) (n:Nat):Pcs:=⟨λR id st K=>bif Nat.beq id 5 then dl5 G n n R st K else none,nK,nK⟩
noncomputable def an:Ann:=⟨28,0,[(5,[0,1,5])],[],[4],[],[]⟩
noncomputable abbrev bd:=bodyOf Tryz.f73
noncomputable abbrev q5:=nthC [1,1,1,0,1,0,0] bd
theorem pl5 {G:Gs} (hG:AE (ents G)) (n:Nat):∀m,PO an (.loop q5) (dl5 G n m):=lpc hG (pc G n) [0,1,5] ⟨[1],[4],[(0,[1])]⟩ (apl [] trivial) (λR st K=>by unfold dl5;split<;>rfl) λm R st K r h=>by unfold dl5 at h;split at h;exact .trans (by kernel_rfl) h;cases h
noncomputable def Does (G:Gs) (a:LB) (left r:Int):Prop:=∃n,main (R:=AT×List Ob) G n a left (λr0=>some (.one (.i r0),[]))=some (.one (.i r),[])
theorem ok {G:Gs} (hG:AE (ents G)) {g:Q} (hg:∀a left r,g a left=some r->Does G a left r):EO (ent g):=λR xs H K r hc=>by
 simp only[ent]at hc
 split at hc
 ·obtain⟨r,j1,j2⟩:=bind_some hc
  obtain⟨n,j3⟩:=hg _ _ _ j1
  exact⟨_,_,j2,fnP hG an (pc G n) bd [.tmp 4] Tryz.func73 (.inl rfl) (apl [(1,5,.loop q5)] ⟨pl5 hG n n,trivial⟩) (.trans (by kernel_rfl) j3)⟩
 ·cases hc
end z3g
namespace z3h
structure Gs where
 none_:Unit
noncomputable def ents (_:Gs):List Ent:=[]
noncomputable def main {R:Type} (G:Gs) (n:Nat) (a:LS) (left:Int) (K:Int->Option R):Option R:=
 bif decide ((wr (left-(List.length a:Int)))<0)then
  (K (-1))
 else
  K (wr (left-(List.length a:Int)))
noncomputable def pc (_:Gs) (_:Nat):Pcs:=⟨nK,nK,nK⟩
noncomputable def an:Ann:=⟨12,0,[],[],[4],[],[]⟩
noncomputable abbrev bd:=bodyOf Tryz.f74
noncomputable def Does (G:Gs) (a:LS) (left r:Int):Prop:=∃n,main (R:=AT×List Ob) G n a left (λr0=>some (.one (.i r0),[]))=some (.one (.i r),[])
theorem ok {G:Gs} (hG:AE (ents G)) {g:Q} (hg:∀a left r,g a left=some r->Does G a left r):EO (ent g):=λR xs H K r hc=>by
 simp only[ent]at hc
 split at hc
 ·obtain⟨r,j1,j2⟩:=bind_some hc
  obtain⟨n,j3⟩:=hg _ _ _ j1
  exact⟨_,_,j2,fnP hG an (pc G n) bd [.tmp 4] Tryz.func74 (.inl rfl) (apl [] trivial) (.trans (by kernel_rfl) j3)⟩
 ·cases hc
end z3h
namespace z32
structure Gs where
 z36:z36.Q
noncomputable def ents (G:Gs):List Ent:=[z36.ent G.z36]
noncomputable def main {R:Type} (G:Gs) (n:Nat) (a:Dc) (left:Int) (K:Int->Option R):Option R:=
 Option.bind (G.z36 a.args left) λr=>
 bif decide (r<0)then
  (K (-1))
 else
  K r
noncomputable def pc (_:Gs) (_:Nat):Pcs:=⟨nK,nK,nK⟩
noncomputable def an:Ann:=⟨12,0,[],[],[4],[],[]⟩
noncomputable abbrev bd:=bodyOf Tryz.f161
noncomputable def Does (G:Gs) (a:Dc) (left r:Int):Prop:=∃n,main (R:=AT×List Ob) G n a left (λr0=>some (.one (.i r0),[]))=some (.one (.i r),[])
theorem ok {G:Gs} (hG:AE (ents G)) {g:Q} (hg:∀a left r,g a left=some r->Does G a left r):EO (ent g):=λR xs H K r hc=>by
 simp only[ent]at hc
 split at hc
 ·obtain⟨r,j1,j2⟩:=bind_some hc
  obtain⟨n,j3⟩:=hg _ _ _ j1
  exact⟨_,_,j2,fnP hG an (pc G n) bd [.tmp 4] Tryz.func161 (.inl rfl) (apl [] trivial) (.trans (by kernel_rfl) j3)⟩
 ·cases hc
end z32
namespace z33
structure Gs where
 z32:z32.Q
noncomputable def ents (G:Gs):List Ent:=[z32.ent G.z32]
noncomputable def b5 {R:Type} (G:Gs) (n:Nat) (a:LD) (left i:Int) (nx:LD->Int->Int->Option R) (k0 k1:Int->Option R):Option R:=
 bif decide (i<(List.length a:Int))then
  (
  Option.bind (ix a i) λe=>
  Option.bind (G.z32 e left) λr=>
  bif decide (r<0)then
   (k0 (-1))
  else
   nx a r (wr (i+1))
  )
 else
  k1 left
noncomputable def l5 {R:Type} (G:Gs) (n m:Nat) (a:LD) (left i:Int) (k0 k1:Int->Option R):Option R:=iter (λ(v:LD×Int×Int) nx=>b5 G n v.1 v.2.1 v.2.2 (λy0 y1 y2=>nx (y0,y1,y2)) k0 k1) m (a,left,i)
noncomputable def main {R:Type} (G:Gs) (n:Nat) (a:LD) (left:Int) (K:Int->Option R):Option R:=
 bif decide ((wr (left-(List.length a:Int)))<0)then
  (K (-1))
 else
  l5 G n n a (wr (left-(List.length a:Int))) 0
   (λt4=>K t4)
   (λleft2=>K left2)
noncomputable def dl5 (G:Gs) (n m:Nat) (R:Type) (st:St) (K:Kt R):Option R:=match st with
 |⟨[(0,.one (.l (.n 7) a)),(1,.one (.i left)),(5,.one (.i i))],[]⟩=>l5 G n m a left i (λt4=>K .ret ⟨[(4,.one (.i t4))],[]⟩) (λleft=>K (.exit 0) ⟨[(1,.one (.i left))],[]⟩)
 |_=>none
noncomputable def pc (G:Gs) (n:Nat):Pcs:=⟨λR id st K=>bif Nat.beq id 5 then dl5 G n n R st K else none,nK,nK⟩
noncomputable def an:Ann:=⟨27,0,[(5,[0,1,5])],[],[4],[],[]⟩
noncomputable abbrev bd:=bodyOf Tryz.f121
noncomputable abbrev q5:=nthC [1,1,1,0,1,0,0] bd
theorem pl5 {G:Gs} (hG:AE (ents G)) (n:Nat):∀m,PO an (.loop q5) (dl5 G n m):=lpc hG (pc G n) [0,1,5] ⟨[1],[4],[(0,[1])]⟩ (apl [] trivial) (λR st K=>by unfold dl5;split<;>rfl) λm R st K r h=>by unfold dl5 at h;split at h;exact .trans (by kernel_rfl) h;cases h
noncomputable def Does (G:Gs) (a:LD) (left r:Int):Prop:=∃n,main (R:=AT×List Ob) G n a left (λr0=>some (.one (.i r0),[]))=some (.one (.i r),[])
theorem ok {G:Gs} (hG:AE (ents G)) {g:Q} (hg:∀a left r,g a left=some r->Does G a left r):EO (ent g):=λR xs H K r hc=>by
 simp only[ent]at hc
 split at hc
 ·obtain⟨r,j1,j2⟩:=bind_some hc
  obtain⟨n,j3⟩:=hg _ _ _ j1
  exact⟨_,_,j2,fnP hG an (pc G n) bd [.tmp 4] Tryz.func121 (.inl rfl) (apl [(1,5,.loop q5)] ⟨pl5 hG n n,trivial⟩) (.trans (by kernel_rfl) j3)⟩
 ·cases hc
end z33
namespace z3a
structure Gs where
 z33:z33.Q
noncomputable def ents (G:Gs):List Ent:=[z33.ent G.z33]
noncomputable def main {R:Type} (G:Gs) (n:Nat) (a:Opr) (left:Int) (K:Int->Option R):Option R:=
 bif decide ((wr (left-(ByteArray.size a.name:Int)))<0)then
  (K (-1))
 else
  Option.bind (G.z33 a.decls (wr (left-(ByteArray.size a.name:Int)))) λr=>
  bif decide (r<0)then
   (K (-1))
  else
   K r
noncomputable def pc (_:Gs) (_:Nat):Pcs:=⟨nK,nK,nK⟩
noncomputable def an:Ann:=⟨19,0,[],[],[4],[],[]⟩
noncomputable abbrev bd:=bodyOf Tryz.f75
noncomputable def Does (G:Gs) (a:Opr) (left r:Int):Prop:=∃n,main (R:=AT×List Ob) G n a left (λr0=>some (.one (.i r0),[]))=some (.one (.i r),[])
theorem ok {G:Gs} (hG:AE (ents G)) {g:Q} (hg:∀a left r,g a left=some r->Does G a left r):EO (ent g):=λR xs H K r hc=>by
 simp only[ent]at hc
 split at hc
 ·obtain⟨r,j1,j2⟩:=bind_some hc
  obtain⟨n,j3⟩:=hg _ _ _ j1
  exact⟨_,_,j2,fnP hG an (pc G n) bd [.tmp 4] Tryz.func75 (.inl rfl) (apl [] trivial) (.trans (by kernel_rfl) j3)⟩
 ·cases hc
end z3a
namespace z3b
structure Gs where
 z3a:z3a.Q
noncomputable def ents (G:Gs):List Ent:=[z3a.ent G.z3a]
noncomputable def b5 {R:Type} (G:Gs) (n:Nat) (a:LO) (left i:Int) (nx:LO->Int->Int->Option R) (k0 k1:Int->Option R):Option R:=
 bif decide (i<(List.length a:Int))then
  (
  Option.bind (ix a i) λe=>
  Option.bind (G.z3a e left) λr=>
  bif decide (r<0)then
   (k0 (-1))
  else
   nx a r (wr (i+1))
  )
 else
  k1 left
noncomputable def l5 {R:Type} (G:Gs) (n m:Nat) (a:LO) (left i:Int) (k0 k1:Int->Option R):Option R:=iter (λ(v:LO×Int×Int) nx=>b5 G n v.1 v.2.1 v.2.2 (λy0 y1 y2=>nx (y0,y1,y2)) k0 k1) m (a,left,i)
noncomputable def main {R:Type} (G:Gs) (n:Nat) (a:LO) (left:Int) (K:Int->Option R):Option R:=
 bif decide ((wr (left-(List.length a:Int)))<0)then
  (K (-1))
 else
  l5 G n n a (wr (left-(List.length a:Int))) 0
   (λt4=>K t4)
   (λleft2=>K left2)
noncomputable def dl5 (G:Gs) (n m:Nat) (R:Type) (st:St) (K:Kt R):Option R:=match st with
 |⟨[(0,.one (.l (.n 8) a)),(1,.one (.i left)),(5,.one (.i i))],[]⟩=>l5 G n m a left i (λt4=>K .ret ⟨[(4,.one (.i t4))],[]⟩) (λleft=>K (.exit 0) ⟨[(1,.one (.i left))],[]⟩)
 |_=>none
noncomputable def pc (G:Gs) (n:Nat):Pcs:=⟨λR id st K=>bif Nat.beq id 5 then dl5 G n n R st K else none,nK,nK⟩
noncomputable def an:Ann:=⟨27,0,[(5,[0,1,5])],[],[4],[],[]⟩
noncomputable abbrev bd:=bodyOf Tryz.f39
noncomputable abbrev q5:=nthC [1,1,1,0,1,0,0] bd
theorem pl5 {G:Gs} (hG:AE (ents G)) (n:Nat):∀m,PO an (.loop q5) (dl5 G n m):=lpc hG (pc G n) [0,1,5] ⟨[1],[4],[(0,[1])]⟩ (apl [] trivial) (λR st K=>by unfold dl5;split<;>rfl) λm R st K r h=>by unfold dl5 at h;split at h;exact .trans (by kernel_rfl) h;cases h
noncomputable def Does (G:Gs) (a:LO) (left r:Int):Prop:=∃n,main (R:=AT×List Ob) G n a left (λr0=>some (.one (.i r0),[]))=some (.one (.i r),[])
theorem ok {G:Gs} (hG:AE (ents G)) {g:Q} (hg:∀a left r,g a left=some r->Does G a left r):EO (ent g):=λR xs H K r hc=>by
 simp only[ent]at hc
 split at hc
 ·obtain⟨r,j1,j2⟩:=bind_some hc
  obtain⟨n,j3⟩:=hg _ _ _ j1
  exact⟨_,_,j2,fnP hG an (pc G n) bd [.tmp 4] Tryz.func39 (.inl rfl) (apl [(1,5,.loop q5)] ⟨pl5 hG n n,trivial⟩) (.trans (by kernel_rfl) j3)⟩
 ·cases hc
end z3b
namespace z3d
structure Gs where
 z3g:z3g.Q
 z3h:z3h.Q
noncomputable def ents (G:Gs):List Ent:=[z3g.ent G.z3g,z3h.ent G.z3h]
noncomputable def main {R:Type} (G:Gs) (n:Nat) (a:So) (left:Int) (K:Int->Option R):Option R:=
 Option.bind (G.z3g a.names left) λr=>
 bif decide (r<0)then
  (K (-1))
 else
  Option.bind (G.z3h a.subs r) λr2=>
  bif decide (r2<0)then
   (K (-1))
  else
   K r2
noncomputable def pc (_:Gs) (_:Nat):Pcs:=⟨nK,nK,nK⟩
noncomputable def an:Ann:=⟨18,0,[],[],[4],[],[]⟩
noncomputable abbrev bd:=bodyOf Tryz.f38
noncomputable def Does (G:Gs) (a:So) (left r:Int):Prop:=∃n,main (R:=AT×List Ob) G n a left (λr0=>some (.one (.i r0),[]))=some (.one (.i r),[])
theorem ok {G:Gs} (hG:AE (ents G)) {g:Q} (hg:∀a left r,g a left=some r->Does G a left r):EO (ent g):=λR xs H K r hc=>by
 simp only[ent]at hc
 split at hc
 ·obtain⟨r,j1,j2⟩:=bind_some hc
  obtain⟨n,j3⟩:=hg _ _ _ j1
  exact⟨_,_,j2,fnP hG an (pc G n) bd [.tmp 4] Tryz.func38 (.inl rfl) (apl [] trivial) (.trans (by kernel_rfl) j3)⟩
 ·cases hc
end z3d
namespace z3c
structure Gs where
 z3d:z3d.Q
 z3b:z3b.Q
noncomputable def ents (G:Gs):List Ent:=[z3d.ent G.z3d,z3b.ent G.z3b]
noncomputable def main {R:Type} (G:Gs) (n:Nat) (a:Sg) (left:Int) (K:Int->Option R):Option R:=
 Option.bind (G.z3d a.sorts left) λr=>
 bif decide (r<0)then
  (K (-1))
 else
  Option.bind (G.z3b a.ops r) λr2=>
  bif decide (r2<0)then
   (K (-1))
  else
   K r2
noncomputable def pc (_:Gs) (_:Nat):Pcs:=⟨nK,nK,nK⟩
noncomputable def an:Ann:=⟨18,0,[],[],[4],[],[]⟩
noncomputable abbrev bd:=bodyOf Tryz.f13
noncomputable def Does (G:Gs) (a:Sg) (left r:Int):Prop:=∃n,main (R:=AT×List Ob) G n a left (λr0=>some (.one (.i r0),[]))=some (.one (.i r),[])
theorem ok {G:Gs} (hG:AE (ents G)) {g:Q} (hg:∀a left r,g a left=some r->Does G a left r):EO (ent g):=λR xs H K r hc=>by
 simp only[ent]at hc
 split at hc
 ·obtain⟨r,j1,j2⟩:=bind_some hc
  obtain⟨n,j3⟩:=hg _ _ _ j1
  exact⟨_,_,j2,fnP hG an (pc G n) bd [.tmp 4] Tryz.func13 (.inl rfl) (apl [] trivial) (.trans (by kernel_rfl) j3)⟩
 ·cases hc
end z3c
namespace z2h
structure Gs where
 z2i:z2i.Q
noncomputable def ents (G:Gs):List Ent:=[z2i.ent G.z2i]
noncomputable def main {R:Type} (G:Gs) (n:Nat) (a b:Tm) (K:Bool->Option R):Option R:=
 bif !decide (a.op=b.op)then
  (K false)
 else
  bif !sEq a.name b.name then
   (K false)
  else
   bif !decide (a.sort=b.sort)then
    (K false)
   else
    Option.bind (G.z2i a.args b.args) λr=>
    bif !r then
     (K false)
    else
     K true
noncomputable def pc (_:Gs) (_:Nat):Pcs:=⟨nK,nK,nK⟩
noncomputable def an:Ann:=⟨26,0,[],[],[4],[],[]⟩
noncomputable abbrev bd:=bodyOf Tryz.f36
noncomputable def Does (G:Gs) (a b:Tm) (r:Bool):Prop:=∃n,main (R:=AT×List Ob) G n a b (λr0=>some (.one (.b r0),[]))=some (.one (.b r),[])
theorem ok {G:Gs} (hG:AE (ents G)) {g:Q} (hg:∀a b r,g a b=some r->Does G a b r):EO (ent g):=λR xs H K r hc=>by
 simp only[ent]at hc
 split at hc
 ·obtain⟨r,j1,j2⟩:=bind_some hc
  obtain⟨n,j3⟩:=hg _ _ _ j1
  exact⟨_,_,j2,fnP hG an (pc G n) bd [.tmp 4] Tryz.func36 (.inl rfl) (apl [] trivial) (.trans (by kernel_rfl) j3)⟩
 ·cases hc
end z2h
namespace z2i
structure Gs where
 z2h:z2h.Q
noncomputable def ents (G:Gs):List Ent:=[z2h.ent G.z2h]
noncomputable def b4 {R:Type} (G:Gs) (n:Nat) (a b:LT) (i:Int) (nx:LT->LT->Int->Option R) (k0:Bool->Option R) (k1:Option R):Option R:=
 bif decide (i<(List.length a:Int))then
  (
  Option.bind (ix a i) λe2=>
  Option.bind (ix b i) λe4=>
  Option.bind (G.z2h (Tm.mk e2.op e2.name e2.sort e2.args) (Tm.mk e4.op e4.name e4.sort e4.args)) λr2=>
  bif !r2 then
   (k0 false)
  else
   nx a b (wr (i+1))
  )
 else
  k1
noncomputable def l4 {R:Type} (G:Gs) (n m:Nat) (a b:LT) (i:Int) (k0:Bool->Option R) (k1:Option R):Option R:=iter (λ(v:LT×LT×Int) nx=>b4 G n v.1 v.2.1 v.2.2 (λy0 y1 y2=>nx (y0,y1,y2)) k0 k1) m (a,b,i)
noncomputable def main {R:Type} (G:Gs) (n:Nat) (a b:LT) (K:Bool->Option R):Option R:=
 bif !decide ((List.length a:Int)=(List.length b:Int))then
  (K false)
 else
  l4 G n n a b 0
   (λt4=>K t4)
   (K true)
noncomputable def dl4 (G:Gs) (n m:Nat) (R:Type) (st:St) (K:Kt R):Option R:=match st with
 |⟨[(0,.one (.l (.n 1) a)),(1,.one (.l (.n 1) b)),(5,.one (.i i))],[]⟩=>l4 G n m a b i (λt4=>K .ret ⟨[(4,.one (.b t4))],[]⟩) (K (.exit 0) ⟨[],[]⟩)
 |_=>none
noncomputable def pc (G:Gs) (n:Nat):Pcs:=⟨λR id st K=>bif Nat.beq id 4 then dl4 G n n R st K else none,nK,nK⟩
noncomputable def an:Ann:=⟨27,0,[(4,[0,1,5])],[],[4],[(6,⟨[([0,1,2,3,4,5,6,7,8,9],[],[])],[],[],[],[]⟩)],[]⟩
noncomputable abbrev bd:=bodyOf Tryz.f72
noncomputable abbrev q4:=nthC [1,1,0,1,0,0] bd
theorem pl4 {G:Gs} (hG:AE (ents G)) (n:Nat):∀m,PO an (.loop q4) (dl4 G n m):=lpc hG (pc G n) [0,1,5] ⟨[],[4],[(0,[])]⟩ (apl [] trivial) (λR st K=>by unfold dl4;split<;>rfl) λm R st K r h=>by unfold dl4 at h;split at h;exact .trans (by kernel_rfl) h;cases h
noncomputable def Does (G:Gs) (a b:LT) (r:Bool):Prop:=∃n,main (R:=AT×List Ob) G n a b (λr0=>some (.one (.b r0),[]))=some (.one (.b r),[])
theorem ok {G:Gs} (hG:AE (ents G)) {g:Q} (hg:∀a b r,g a b=some r->Does G a b r):EO (ent g):=λR xs H K r hc=>by
 simp only[ent]at hc
 split at hc
 ·obtain⟨r,j1,j2⟩:=bind_some hc
  obtain⟨n,j3⟩:=hg _ _ _ j1
  exact⟨_,_,j2,fnP hG an (pc G n) bd [.tmp 4] Tryz.func72 (.inl rfl) (apl [(1,4,.loop q4)] ⟨pl4 hG n n,trivial⟩) (.trans (by kernel_rfl) j3)⟩
 ·cases hc
end z2i
open Classical
abbrev gToT (k:Nat):Tm->Option Tm:=λf=>if f.total<k then some f else none
abbrev gToTS (k:Nat):List Tm->Option (List Tm):=λl=>if tmTotals l<k then some l else none
theorem toTS_ok (k:Nat) (hk:k<=2097152) (e:EO (z41.ent (gToT k))):EO (z42.ent (gToTS (k+1))):=z42.ok (G:=⟨gToT k⟩) ⟨e,trivial⟩ λ(xs:List Tm) r h=>by
 unfold gToTS at h
 split at h
 ·rename_i hs
  cases h
  have hlen:=tmT_len xs
  exact⟨xs.length+1,toL_run xs _ (gToT k) (λx hx=>if_pos (by have:=tmT_mem hx;omega)) (by omega) (λa i h nx=>z42.b3 ⟨gToT k⟩ (xs.length+1) a i h nx (kL (.n 1))) (kL (.n 1)) λ_ _ _=>by simp only[z42.b3,Tm.eta]⟩
 ·cases h
theorem toT_ok :∀k,k<=2097152->EO (z41.ent (gToT k))
 | 0, _ => by
  intro R xs H K r h
  simp only[z41.ent]at h
  split at h
  ·cases h
  ·cases h
 | k + 1, hk => z41.ok      (G := ⟨gToTS (k + 1)⟩) ⟨toTS_ok k (by omega) (toT_ok k (by omega)), trivial⟩ fun f r h => by
  unfold gToT at h
  split at h
  ·rename_i hs
   cases h
   refine⟨1,?_⟩
   unfold z41.main
   have e:gToTS (k+1) f.args=some f.args:=if_pos (by have:=total_args f;omega)
   show Option.bind (gToTS (k+1) f.args) _=_
   rw[e]
   rfl
  ·cases h
noncomputable def gEqT (k:Nat):Tm->Tm->Option Bool:=λf g=>if f=g/\f.total<k then some true else none
noncomputable def gEqTS (k:Nat):List Tm->List Tm->Option Bool:=λf g=>if f=g/\tmTotals f<k then some true else none
theorem eqTS_ok (k:Nat) (hk:k<=2097152) (e:EO (z2h.ent (gEqT k))):EO (z2i.ent (gEqTS (k+1))):=z2i.ok (G:=⟨gEqT k⟩) ⟨e,trivial⟩ λ(xs ys:List Tm) r h=>by
 unfold gEqTS at h
 split at h
 ·rename_i hs
  obtain⟨hxy,hs⟩:=hs
  subst hxy
  cases h
  have hlen:=tmT_len xs
  exact⟨xs.length+1,eqL_run xs (gEqT k) (λx hx=>if_pos ⟨rfl,by have:=tmT_mem hx;omega⟩) (by omega) (λa b i nx=>z2i.b4 ⟨gEqT k⟩ (xs.length+1) a b i nx kB (kB true)) (kB false) (kB true) λ_ _=>by simp only[z2i.b4,Tm.eta]⟩
 ·cases h
theorem eqT_ok :∀k,k<=2097152->EO (z2h.ent (gEqT k))
 | 0, _ => by
  intro R xs H K r h
  simp only[z2h.ent]at h
  split at h
  ·simp[gEqT]at h
  ·cases h
 | k + 1, hk => z2h.ok      (G := ⟨gEqTS (k + 1)⟩) ⟨eqTS_ok k (by omega) (eqT_ok k (by omega)), trivial⟩ fun f g r h => by
  unfold gEqT at h
  split at h
  ·rename_i hs
   obtain⟨hxy,hs⟩:=hs
   subst hxy
   cases h
   refine⟨1,?_⟩
   unfold z2h.main
   have e:gEqTS (k+1) f.args f.args=some true:=if_pos ⟨rfl,by have:=total_args f;omega⟩
   rw[dT rfl,dT rfl,show sEq f.name f.name=true from dT rfl,Bool.not_true,cF,cF,cF]
   show Option.bind (gEqTS (k+1) f.args f.args) _=_
   rw[e]
   rfl
  ·cases h
noncomputable def gSzT (k:Int):Tm->Int->Option Int:=λf left=>if Fit (.n 1) f/\0<=left/\left<=k then some (if ((Tm.total f:Nat):Int)<=left then left-(Tm.total f:Nat)else (-1:Int))else none
noncomputable def gSzTS (k:Int):List Tm->Int->Option Int:=λl left=>if FitC (.l (.n 1) l)/\0<=left/\left<=k then some (if ((tmTotals l:Nat):Int)<=left then left-(tmTotals l:Nat)else (-1:Int))else none
theorem szTS_ok (k:Int) (hk:k<=2097151) (e:EO (z3i.ent (gSzT k))):EO (z3j.ent (gSzTS (k+1))):=z3j.ok (G:=⟨gSzT k⟩) ⟨e,trivial⟩ λ(xs:List Tm) left r h=>by
 unfold gSzTS at h
 split at h
 ·rename_i hs
  obtain⟨hf,h0,h1⟩:=hs
  cases h
  exact⟨xs.length+1,szL_run xs Tm.total (gSzT k) (λx hx l l0 l1=>⟨_,if_pos ⟨hf.mem x hx,l0,by have:=List.length_pos_of_mem hx;omega⟩,by split<;>omega⟩) hf.len h0 (by omega) (λa l i nx=>z3j.b5 ⟨gSzT k⟩ (xs.length+1) a l i nx kI kI) kI λ_ _ _=>by simp only[z3j.b5,Tm.eta]⟩
 ·cases h
theorem szT_ok :∀k:Nat,k<=2097152->EO (z3i.ent (gSzT ((k:Int)-1)))
 | 0, _ => by
  intro R xs H K r h
  simp only[z3i.ent]at h
  split at h
  ·have:∀t l,gSzT (((0:Nat):Int)-1) t l=none:=λt l=>if_neg (by omega)
   rw[this]at h
   cases h
  ·cases h
 | k + 1, hk => z3i.ok      (G := ⟨gSzTS (k : Int)⟩) ⟨by have := szTS_ok ((k : Int) - 1) (by omega) (szT_ok k (by omega)); rwa [show (k : Int) - 1 + 1 = k by omega] at this, trivial⟩ fun f left r h => by
  unfold gSzT at h
  split at h
  ·rename_i hs
   obtain⟨hf,h0,h1⟩:=hs
   cases h
   refine⟨1,?_⟩
   unfold z3i.main
   have hn:f.name.size<=9223372036854775807:=FitC.str (hf _ (by simp[explode]))
   have ht:=total_args f
   rw[wr_in (x:=left-(f.name.size:Int)) (by omega)]
   by_cases c0:(f.name.size:Int)<=left
   ·have e:gSzTS (k:Int) f.args (left-f.name.size)=some (if ((tmTotals f.args:Nat):Int)<=left-f.name.size then left-f.name.size-(tmTotals f.args:Nat)else (-1:Int)):=if_pos ⟨fit_args hf,by omega,by omega⟩
    rw[dF (by omega),cF]
    show Option.bind (gSzTS (k:Int) f.args (left-f.name.size)) _=_
    rw[e,bS]
    by_cases c:((tmTotals f.args:Nat):Int)<=left-f.name.size
    ·rw[if_pos c,dF (by omega),cF,if_pos (by omega),show left-(f.name.size:Int)-(tmTotals f.args:Nat)=left-(f.total:Nat) by omega]
    ·rw[if_neg c,if_neg (by omega)];rfl
   ·rw[dT (by omega),cT,if_neg (by omega)]
  ·cases h
def w_TermS (xs:List Tm):Nat:=tmTotals xs
theorem szTermS_all :∃g,EO (z3j.ent g)/\SZ (.sl (.n 1)) w_TermS g:=by
 refine⟨gSzTS 1048577,?_,λxs left ⟨hf,h0,h1⟩=>⟨_,if_pos ⟨fit_sl.1 hf,h0,by omega⟩,rfl⟩⟩
 have:=szTS_ok 1048576 (by omega) (szT_ok 1048577 (by omega))
 exact this
def w_Term (x:Tm):Nat:=x.total
theorem szTerm_all :∃g,EO (z3i.ent g)/\SZ (.n 1) w_Term g:=by
 refine⟨gSzT 1048576,?_,λx left ⟨hf,h0,h1⟩=>⟨_,if_pos ⟨hf,h0,h1⟩,rfl⟩⟩
 have:=szT_ok 1048577 (by omega)
 exact this
theorem toTerm_all :∃g,EO (z41.ent g)/\TO (.n 1) w_Term g:=
 ⟨gToT 1048577,toT_ok _ (by omega),λx ⟨_,h⟩=>⟨x,if_pos (by unfold w_Term at h;omega),rfl⟩⟩
theorem eqTerm_all :∃g,EO (z2h.ent g)/\EQ (.n 1) w_Term g:=
 ⟨gEqT 1048577,eqT_ok _ (by omega),λx y ⟨e,_,h⟩=>⟨true,if_pos ⟨e,by unfold w_Term at h;omega⟩,rfl⟩⟩
def w_IntS (xs:List Int):Nat:=xs.length
theorem szIntS_all :∃g,EO (z36.ent g)/\SZ (.sl .i) w_IntS g:=by
 refine by_pick2 (λg hg=>z36.ok (G:=⟨()⟩) trivial hg) λ(xs:List Int) (left:Int) ⟨hf,h0,h1⟩=>⟨_,⟨1,?_⟩,rfl⟩
 have hlen:xs.length<=9223372036854775807:=(fit_sl.1 hf).len
 unfold z36.main
 rw[show wr (left-(List.length xs:Int))=left-(List.length xs:Int)from wr_in (by omega)]
 by_cases c1:(List.length xs:Int)<=left
 ·rw[dF (by omega),cF,if_pos (show ((w_IntS xs:Nat):Int)<=left from c1)];rfl
 ·rw[dT (by omega),cT,if_neg (show ¬((w_IntS xs:Nat):Int)<=left from c1)]
theorem le_IntS {xs:List Int} (h:w_IntS xs<=1048576):xs.length<=1048576:=h
theorem toIntS_all :∃g,EO (z3q.ent g)/\TO (.sl .i) w_IntS g:=by
 exact by_pick (λg hg=>z3q.ok (G:=⟨()⟩) trivial hg) λ(xs:List Int) ⟨hf,h1⟩=>⟨_,⟨xs.length+1,toL_run xs _ some (λ_ _=>rfl) (by have:=(le_IntS h1);omega) (λa i h nx=>z3q.b3 ⟨()⟩ (xs.length+1) a i h nx (kL .i)) (kL .i) (λ_ _ _=>rfl)⟩,rfl⟩
theorem eqIntS_all :∃g,EO (z26.ent g)/\EQ (.sl .i) w_IntS g:=by
 exact by_pick2 (λg hg=>z26.ok (G:=⟨()⟩) trivial hg) λ(xs ys:List Int) ⟨hxy,hf,h1⟩=>by
  subst hxy
  exact⟨_,⟨xs.length+1,eqL_run xs (λa b=>some (decide (a=b))) (λ_ _=>congrArg some (dT rfl)) (by have:=(le_IntS h1);omega) (λa b i nx=>z26.b4 ⟨()⟩ (xs.length+1) a b i nx kB (kB true)) (kB false) (kB true) (λ_ _=>rfl)⟩,rfl⟩
def w_StringS (xs:List ByteArray):Nat:=wL ByteArray.size xs
theorem szStringS_all :∃g,EO (z3g.ent g)/\SZ (.sl .s) w_StringS g:=by
 exact by_pick2 (λg hg=>z3g.ok (G:=⟨()⟩) trivial hg) λ(xs:List ByteArray) (left:Int) ⟨hf,h0,h1⟩=>⟨_,⟨xs.length+1,szL_run xs ByteArray.size _ (szL_s hf h1) (fit_sl.1 hf).len h0 (by omega) (λa l i nx=>z3g.b5 ⟨()⟩ (xs.length+1) a l i nx kI kI) kI (λ_ _ _=>rfl)⟩,rfl⟩
theorem le_StringS {xs:List ByteArray} (h:w_StringS xs<=1048576):xs.length<=1048576/\∀x∈xs,x.size<=1048576:=by
 have h:xs.length+wS ByteArray.size xs<=1048576:=h
 exact⟨by omega,λx hx=>by have:x.size<=wS ByteArray.size xs:=wS_mem (f:=ByteArray.size) hx;omega⟩
theorem toStringS_all :∃g,EO (z3y.ent g)/\TO (.sl .s) w_StringS g:=by
 exact by_pick (λg hg=>z3y.ok (G:=⟨()⟩) trivial hg) λ(xs:List ByteArray) ⟨hf,h1⟩=>⟨_,⟨xs.length+1,toL_run xs _ some (λ_ _=>rfl) (by have:=(le_StringS h1).1;omega) (λa i h nx=>z3y.b3 ⟨()⟩ (xs.length+1) a i h nx (kL .s)) (kL .s) (λ_ _ _=>rfl)⟩,rfl⟩
theorem eqStringS_all :∃g,EO (z2e.ent g)/\EQ (.sl .s) w_StringS g:=by
 exact by_pick2 (λg hg=>z2e.ok (G:=⟨()⟩) trivial hg) λ(xs ys:List ByteArray) ⟨hxy,hf,h1⟩=>by
  subst hxy
  exact⟨_,⟨xs.length+1,eqL_run xs (λa b=>some (sEq a b)) (λ_ _=>congrArg some (dT rfl)) (by have:=(le_StringS h1).1;omega) (λa b i nx=>z2e.b4 ⟨()⟩ (xs.length+1) a b i nx kB (kB true)) (kB false) (kB true) (λ_ _=>rfl)⟩,rfl⟩
theorem fit_Sub {x:Sb} (h:Fit (.n 5) x):Fit .i x.low/\Fit .i x.high:=by
 refine⟨λc hc=>h c ?_,λc hc=>h c ?_⟩<;>(simp only[explode,List.mem_cons,List.not_mem_nil,or_false]at hc ⊢;first|(subst hc;simp;done)|(rcases hc with rfl|rfl<;>simp;done)|(rcases hc with rfl|rfl|rfl<;>simp;done)|(rcases hc with rfl|rfl|rfl|rfl<;>simp;done))
theorem toSub_ex :∃g,EO (z3z.ent g)/\TO (.n 5) (λ_=>0) g:=
 by_pick (λg hg=>z3z.ok (G:=⟨()⟩) trivial hg) λx ⟨hf,h1⟩=>by
  obtain⟨hf0,hf1⟩:=fit_Sub hf
  refine⟨_,⟨1,?_⟩,rfl⟩
  unfold z3z.main
  rfl
theorem toSub_all :∃g,EO (z3z.ent g)/\TO (.n 5) (λ_=>0) g:=by
 exact toSub_ex
theorem eqSub_ex :∃g,EO (z2f.ent g)/\EQ (.n 5) (λ_=>0) g:=
 by_pick2 (λg hg=>z2f.ok (G:=⟨()⟩) trivial hg) λx y ⟨hxy,hf,h1⟩=>by
  subst hxy
  obtain⟨hf0,hf1⟩:=fit_Sub hf
  refine⟨_,⟨1,?_⟩,rfl⟩
  unfold z2f.main
  simp[]
theorem eqSub_all :∃g,EO (z2f.ent g)/\EQ (.n 5) (λ_=>0) g:=by
 exact eqSub_ex
def w_SubS (xs:List Sb):Nat:=xs.length
theorem szSubS_all :∃g,EO (z3h.ent g)/\SZ (.sl (.n 5)) w_SubS g:=by
 refine by_pick2 (λg hg=>z3h.ok (G:=⟨()⟩) trivial hg) λ(xs:List Sb) (left:Int) ⟨hf,h0,h1⟩=>⟨_,⟨1,?_⟩,rfl⟩
 have hlen:xs.length<=9223372036854775807:=(fit_sl.1 hf).len
 unfold z3h.main
 rw[show wr (left-(List.length xs:Int))=left-(List.length xs:Int)from wr_in (by omega)]
 by_cases c1:(List.length xs:Int)<=left
 ·rw[dF (by omega),cF,if_pos (show ((w_SubS xs:Nat):Int)<=left from c1)];rfl
 ·rw[dT (by omega),cT,if_neg (show ¬((w_SubS xs:Nat):Int)<=left from c1)]
theorem le_SubS {xs:List Sb} (h:w_SubS xs<=1048576):xs.length<=1048576:=h
theorem toSubS_all :∃g,EO (z40.ent g)/\TO (.sl (.n 5)) w_SubS g:=by
 obtain⟨gE,eE,hE⟩:=toSub_all
 exact by_pick (λg hg=>z40.ok (G:=⟨gE⟩) ⟨eE,trivial⟩ hg) λ(xs:List Sb) ⟨hf,h1⟩=>⟨_,⟨xs.length+1,toL_run xs _ gE (toL_e hE hf (λ_ _=>Nat.zero_le _)) (by have:=(le_SubS h1);omega) (λa i h nx=>z40.b3 ⟨gE⟩ (xs.length+1) a i h nx (kL (.n 5))) (kL (.n 5)) (λ_ _ _=>rfl)⟩,rfl⟩
theorem eqSubS_all :∃g,EO (z2g.ent g)/\EQ (.sl (.n 5)) w_SubS g:=by
 obtain⟨gE,eE,hE⟩:=eqSub_all
 exact by_pick2 (λg hg=>z2g.ok (G:=⟨gE⟩) ⟨eE,trivial⟩ hg) λ(xs ys:List Sb) ⟨hxy,hf,h1⟩=>by
  subst hxy
  exact⟨_,⟨xs.length+1,eqL_run xs gE (eqL_e hE hf (λ_ _=>Nat.zero_le _)) (by have:=(le_SubS h1);omega) (λa b i nx=>z2g.b4 ⟨gE⟩ (xs.length+1) a b i nx kB (kB true)) (kB false) (kB true) (λ_ _=>rfl)⟩,rfl⟩
def w_Decl (x:Dc):Nat:=w_IntS x.args
theorem fit_Decl {x:Dc} (h:Fit (.n 7) x):Fit (.sl .i) x.args/\Fit .i x.result:=by
 refine⟨λc hc=>h c ?_,λc hc=>h c ?_⟩<;>(simp only[explode,List.mem_cons,List.not_mem_nil,or_false]at hc ⊢;first|(subst hc;simp;done)|(rcases hc with rfl|rfl<;>simp;done)|(rcases hc with rfl|rfl|rfl<;>simp;done)|(rcases hc with rfl|rfl|rfl|rfl<;>simp;done))
theorem szDecl_ex {gIntS:List Int->Int->Option Int} (eIntS:EO (z36.ent gIntS)) (hIntS:SZ (.sl .i) w_IntS gIntS):∃g,EO (z32.ent g)/\SZ (.n 7) w_Decl g:=
 by_pick2 (λg hg=>z32.ok (G:=⟨gIntS⟩) ⟨eIntS,trivial⟩ hg) λx left ⟨hf,h0,h1⟩=>by
  obtain⟨hf0,hf1⟩:=fit_Decl hf
  refine⟨_,⟨1,?_⟩,rfl⟩
  unfold z32.main
  have ew:(w_Decl x:Int)=(w_IntS x.args:Int):=by show ((w_IntS x.args:Nat):Int)=_;omega
  have r0:gIntS x.args (left)=some (if (w_IntS x.args:Int)<=left then left-(w_IntS x.args:Int)else -1):=by
   obtain⟨_,r,q⟩:=hIntS x.args (left) ⟨hf0,by omega,by omega⟩
   rw[q]at r
   exact r
  try dsimp only
  rw[r0,bS]
  by_cases c0:(w_IntS x.args:Int)<=left
  case neg=>rw[if_neg c0,show decide ((-1:Int)<0)=true from rfl,cT,if_neg (by omega)]
  rw[if_pos c0,dF (by omega),cF]
  rw[if_pos (by omega)]
  first|(congr 4;done)|(congr 4;omega)
theorem szDecl_all :∃g,EO (z32.ent g)/\SZ (.n 7) w_Decl g:=by
 obtain⟨_,e0,h0⟩:=szIntS_all
 exact szDecl_ex e0 h0
theorem toDecl_ex {gIntS:List Int->Option (List Int)} (eIntS:EO (z3q.ent gIntS)) (hIntS:TO (.sl .i) w_IntS gIntS):∃g,EO (z3m.ent g)/\TO (.n 7) w_Decl g:=
 by_pick (λg hg=>z3m.ok (G:=⟨gIntS⟩) ⟨eIntS,trivial⟩ hg) λx ⟨hf,h1⟩=>by
  obtain⟨hf0,hf1⟩:=fit_Decl hf
  refine⟨_,⟨1,?_⟩,rfl⟩
  unfold z3m.main
  have r0:gIntS x.args=some x.args:=by
   obtain⟨_,r,q⟩:=hIntS x.args ⟨hf0,(by have h1:w_IntS x.args<=1048576:=h1;omega)⟩
   rw[q]at r
   exact r
  try dsimp only
  rw[r0,bS]
  try rfl
theorem toDecl_all :∃g,EO (z3m.ent g)/\TO (.n 7) w_Decl g:=by
 obtain⟨_,e0,h0⟩:=toIntS_all
 exact toDecl_ex e0 h0
theorem eqDecl_ex {gIntS:List Int->List Int->Option Bool} (eIntS:EO (z26.ent gIntS)) (hIntS:EQ (.sl .i) w_IntS gIntS):∃g,EO (z1z.ent g)/\EQ (.n 7) w_Decl g:=
 by_pick2 (λg hg=>z1z.ok (G:=⟨gIntS⟩) ⟨eIntS,trivial⟩ hg) λx y ⟨hxy,hf,h1⟩=>by
  subst hxy
  obtain⟨hf0,hf1⟩:=fit_Decl hf
  refine⟨_,⟨1,?_⟩,rfl⟩
  unfold z1z.main
  have r0:gIntS x.args x.args=some true:=by
   obtain⟨_,r,q⟩:=hIntS x.args x.args ⟨rfl,hf0,(by have h1:w_IntS x.args<=1048576:=h1;omega)⟩
   rw[q]at r
   exact r
  simp[r0]
theorem eqDecl_all :∃g,EO (z1z.ent g)/\EQ (.n 7) w_Decl g:=by
 obtain⟨_,e0,h0⟩:=eqIntS_all
 exact eqDecl_ex e0 h0
def w_DeclS (xs:List Dc):Nat:=wL w_Decl xs
theorem szDeclS_all :∃g,EO (z33.ent g)/\SZ (.sl (.n 7)) w_DeclS g:=by
 obtain⟨gE,eE,hE⟩:=szDecl_all
 exact by_pick2 (λg hg=>z33.ok (G:=⟨gE⟩) ⟨eE,trivial⟩ hg) λ(xs:List Dc) (left:Int) ⟨hf,h0,h1⟩=>⟨_,⟨xs.length+1,szL_run xs w_Decl gE (szL_e hE hf h1) (fit_sl.1 hf).len h0 (by omega) (λa l i nx=>z33.b5 ⟨gE⟩ (xs.length+1) a l i nx kI kI) kI (λ_ _ _=>rfl)⟩,rfl⟩
theorem le_DeclS {xs:List Dc} (h:w_DeclS xs<=1048576):xs.length<=1048576/\∀x∈xs,w_Decl x<=1048576:=by
 have h:xs.length+wS w_Decl xs<=1048576:=h
 exact⟨by omega,λx hx=>by have:w_Decl x<=wS w_Decl xs:=wS_mem (f:=w_Decl) hx;omega⟩
theorem toDeclS_all :∃g,EO (z3n.ent g)/\TO (.sl (.n 7)) w_DeclS g:=by
 obtain⟨gE,eE,hE⟩:=toDecl_all
 exact by_pick (λg hg=>z3n.ok (G:=⟨gE⟩) ⟨eE,trivial⟩ hg) λ(xs:List Dc) ⟨hf,h1⟩=>⟨_,⟨xs.length+1,toL_run xs _ gE (toL_e hE hf (le_DeclS h1).2) (by have:=(le_DeclS h1).1;omega) (λa i h nx=>z3n.b3 ⟨gE⟩ (xs.length+1) a i h nx (kL (.n 7))) (kL (.n 7)) (λ_ _ _=>rfl)⟩,rfl⟩
theorem eqDeclS_all :∃g,EO (z21.ent g)/\EQ (.sl (.n 7)) w_DeclS g:=by
 obtain⟨gE,eE,hE⟩:=eqDecl_all
 exact by_pick2 (λg hg=>z21.ok (G:=⟨gE⟩) ⟨eE,trivial⟩ hg) λ(xs ys:List Dc) ⟨hxy,hf,h1⟩=>by
  subst hxy
  exact⟨_,⟨xs.length+1,eqL_run xs gE (eqL_e hE hf (le_DeclS h1).2) (by have:=(le_DeclS h1).1;omega) (λa b i nx=>z21.b4 ⟨gE⟩ (xs.length+1) a b i nx kB (kB true)) (kB false) (kB true) (λ_ _=>rfl)⟩,rfl⟩
def w_Op (x:Opr):Nat:=x.name.size+w_DeclS x.decls
theorem fit_Op {x:Opr} (h:Fit (.n 8) x):Fit .s x.name/\Fit (.sl (.n 7)) x.decls/\Fit .b x.assoc/\Fit .b x.comm/\Fit .i x.unit:=by
 refine⟨λc hc=>h c ?_,λc hc=>h c ?_,λc hc=>h c ?_,λc hc=>h c ?_,λc hc=>h c ?_⟩<;>(simp only[explode,List.mem_cons,List.not_mem_nil,or_false]at hc ⊢;first|(subst hc;simp;done)|(rcases hc with rfl|rfl<;>simp;done)|(rcases hc with rfl|rfl|rfl<;>simp;done)|(rcases hc with rfl|rfl|rfl|rfl<;>simp;done))
theorem szOp_ex {gDeclS:List Dc->Int->Option Int} (eDeclS:EO (z33.ent gDeclS)) (hDeclS:SZ (.sl (.n 7)) w_DeclS gDeclS):∃g,EO (z3a.ent g)/\SZ (.n 8) w_Op g:=
 by_pick2 (λg hg=>z3a.ok (G:=⟨gDeclS⟩) ⟨eDeclS,trivial⟩ hg) λx left ⟨hf,h0,h1⟩=>by
  obtain⟨hf0,hf1,hf2,hf3,hf4⟩:=fit_Op hf
  refine⟨_,⟨1,?_⟩,rfl⟩
  unfold z3a.main
  have ew:(w_Op x:Int)=(x.name.size:Int)+(w_DeclS x.decls:Int):=by show ((x.name.size+w_DeclS x.decls:Nat):Int)=_;omega
  have hs0:=(fit_s.1 hf0).str
  rw[wr_in (x:=left-(x.name.size:Int)) (by omega)]
  by_cases c0:(x.name.size:Int)<=left
  case neg=>rw[dT (by omega),cT,if_neg (by omega)]
  rw[dF (by omega),cF]
  have r1:gDeclS x.decls (left-(x.name.size:Int))=some (if (w_DeclS x.decls:Int)<=left-(x.name.size:Int)then left-(x.name.size:Int)-(w_DeclS x.decls:Int)else -1):=by
   obtain⟨_,r,q⟩:=hDeclS x.decls (left-(x.name.size:Int)) ⟨hf1,by omega,by omega⟩
   rw[q]at r
   exact r
  try dsimp only
  rw[r1,bS]
  by_cases c1:(w_DeclS x.decls:Int)<=left-(x.name.size:Int)
  case neg=>rw[if_neg c1,show decide ((-1:Int)<0)=true from rfl,cT,if_neg (by omega)]
  rw[if_pos c1,dF (by omega),cF]
  rw[if_pos (by omega)]
  first|(congr 4;done)|(congr 4;omega)
theorem szOp_all :∃g,EO (z3a.ent g)/\SZ (.n 8) w_Op g:=by
 obtain⟨_,e0,h0⟩:=szDeclS_all
 exact szOp_ex e0 h0
theorem toOp_ex {gDeclS:List Dc->Option (List Dc)} (eDeclS:EO (z3n.ent gDeclS)) (hDeclS:TO (.sl (.n 7)) w_DeclS gDeclS):∃g,EO (z3s.ent g)/\TO (.n 8) w_Op g:=
 by_pick (λg hg=>z3s.ok (G:=⟨gDeclS⟩) ⟨eDeclS,trivial⟩ hg) λx ⟨hf,h1⟩=>by
  obtain⟨hf0,hf1,hf2,hf3,hf4⟩:=fit_Op hf
  refine⟨_,⟨1,?_⟩,rfl⟩
  unfold z3s.main
  have r0:gDeclS x.decls=some x.decls:=by
   obtain⟨_,r,q⟩:=hDeclS x.decls ⟨hf1,(by have h1:x.name.size+w_DeclS x.decls<=1048576:=h1;omega)⟩
   rw[q]at r
   exact r
  try dsimp only
  rw[r0,bS]
  try rfl
theorem toOp_all :∃g,EO (z3s.ent g)/\TO (.n 8) w_Op g:=by
 obtain⟨_,e0,h0⟩:=toDeclS_all
 exact toOp_ex e0 h0
theorem eqOp_ex {gDeclS:List Dc->List Dc->Option Bool} (eDeclS:EO (z21.ent gDeclS)) (hDeclS:EQ (.sl (.n 7)) w_DeclS gDeclS):∃g,EO (z28.ent g)/\EQ (.n 8) w_Op g:=
 by_pick2 (λg hg=>z28.ok (G:=⟨gDeclS⟩) ⟨eDeclS,trivial⟩ hg) λx y ⟨hxy,hf,h1⟩=>by
  subst hxy
  obtain⟨hf0,hf1,hf2,hf3,hf4⟩:=fit_Op hf
  refine⟨_,⟨1,?_⟩,rfl⟩
  unfold z28.main
  have r0:gDeclS x.decls x.decls=some true:=by
   obtain⟨_,r,q⟩:=hDeclS x.decls x.decls ⟨rfl,hf1,(by have h1:x.name.size+w_DeclS x.decls<=1048576:=h1;omega)⟩
   rw[q]at r
   exact r
  simp[sEq,r0]
theorem eqOp_all :∃g,EO (z28.ent g)/\EQ (.n 8) w_Op g:=by
 obtain⟨_,e0,h0⟩:=eqDeclS_all
 exact eqOp_ex e0 h0
def w_OpS (xs:List Opr):Nat:=wL w_Op xs
theorem szOpS_all :∃g,EO (z3b.ent g)/\SZ (.sl (.n 8)) w_OpS g:=by
 obtain⟨gE,eE,hE⟩:=szOp_all
 exact by_pick2 (λg hg=>z3b.ok (G:=⟨gE⟩) ⟨eE,trivial⟩ hg) λ(xs:List Opr) (left:Int) ⟨hf,h0,h1⟩=>⟨_,⟨xs.length+1,szL_run xs w_Op gE (szL_e hE hf h1) (fit_sl.1 hf).len h0 (by omega) (λa l i nx=>z3b.b5 ⟨gE⟩ (xs.length+1) a l i nx kI kI) kI (λ_ _ _=>rfl)⟩,rfl⟩
theorem le_OpS {xs:List Opr} (h:w_OpS xs<=1048576):xs.length<=1048576/\∀x∈xs,w_Op x<=1048576:=by
 have h:xs.length+wS w_Op xs<=1048576:=h
 exact⟨by omega,λx hx=>by have:w_Op x<=wS w_Op xs:=wS_mem (f:=w_Op) hx;omega⟩
theorem toOpS_all :∃g,EO (z3t.ent g)/\TO (.sl (.n 8)) w_OpS g:=by
 obtain⟨gE,eE,hE⟩:=toOp_all
 exact by_pick (λg hg=>z3t.ok (G:=⟨gE⟩) ⟨eE,trivial⟩ hg) λ(xs:List Opr) ⟨hf,h1⟩=>⟨_,⟨xs.length+1,toL_run xs _ gE (toL_e hE hf (le_OpS h1).2) (by have:=(le_OpS h1).1;omega) (λa i h nx=>z3t.b3 ⟨gE⟩ (xs.length+1) a i h nx (kL (.n 8))) (kL (.n 8)) (λ_ _ _=>rfl)⟩,rfl⟩
theorem eqOpS_all :∃g,EO (z29.ent g)/\EQ (.sl (.n 8)) w_OpS g:=by
 obtain⟨gE,eE,hE⟩:=eqOp_all
 exact by_pick2 (λg hg=>z29.ok (G:=⟨gE⟩) ⟨eE,trivial⟩ hg) λ(xs ys:List Opr) ⟨hxy,hf,h1⟩=>by
  subst hxy
  exact⟨_,⟨xs.length+1,eqL_run xs gE (eqL_e hE hf (le_OpS h1).2) (by have:=(le_OpS h1).1;omega) (λa b i nx=>z29.b4 ⟨gE⟩ (xs.length+1) a b i nx kB (kB true)) (kB false) (kB true) (λ_ _=>rfl)⟩,rfl⟩
def w_Sorts (x:So):Nat:=w_StringS x.names+w_SubS x.subs
theorem fit_Sorts {x:So} (h:Fit (.n 6) x):Fit (.sl .s) x.names/\Fit (.sl (.n 5)) x.subs:=by
 refine⟨λc hc=>h c ?_,λc hc=>h c ?_⟩<;>(simp only[explode,List.mem_cons,List.not_mem_nil,or_false]at hc ⊢;first|(subst hc;simp;done)|(rcases hc with rfl|rfl<;>simp;done)|(rcases hc with rfl|rfl|rfl<;>simp;done)|(rcases hc with rfl|rfl|rfl|rfl<;>simp;done))
theorem szSorts_ex {gStringS:List ByteArray->Int->Option Int} (eStringS:EO (z3g.ent gStringS)) (hStringS:SZ (.sl .s) w_StringS gStringS) {gSubS:List Sb->Int->Option Int} (eSubS:EO (z3h.ent gSubS)) (hSubS:SZ (.sl (.n 5)) w_SubS gSubS):∃g,EO (z3d.ent g)/\SZ (.n 6) w_Sorts g:=
 by_pick2 (λg hg=>z3d.ok (G:=⟨gStringS,gSubS⟩) ⟨eStringS,eSubS,trivial⟩ hg) λx left ⟨hf,h0,h1⟩=>by
  obtain⟨hf0,hf1⟩:=fit_Sorts hf
  refine⟨_,⟨1,?_⟩,rfl⟩
  unfold z3d.main
  have ew:(w_Sorts x:Int)=(w_StringS x.names:Int)+(w_SubS x.subs:Int):=by show ((w_StringS x.names+w_SubS x.subs:Nat):Int)=_;omega
  have r0:gStringS x.names (left)=some (if (w_StringS x.names:Int)<=left then left-(w_StringS x.names:Int)else -1):=by
   obtain⟨_,r,q⟩:=hStringS x.names (left) ⟨hf0,by omega,by omega⟩
   rw[q]at r
   exact r
  try dsimp only
  rw[r0,bS]
  by_cases c0:(w_StringS x.names:Int)<=left
  case neg=>rw[if_neg c0,show decide ((-1:Int)<0)=true from rfl,cT,if_neg (by omega)]
  rw[if_pos c0,dF (by omega),cF]
  have r1:gSubS x.subs (left-(w_StringS x.names:Int))=some (if (w_SubS x.subs:Int)<=left-(w_StringS x.names:Int)then left-(w_StringS x.names:Int)-(w_SubS x.subs:Int)else -1):=by
   obtain⟨_,r,q⟩:=hSubS x.subs (left-(w_StringS x.names:Int)) ⟨hf1,by omega,by omega⟩
   rw[q]at r
   exact r
  try dsimp only
  rw[r1,bS]
  by_cases c1:(w_SubS x.subs:Int)<=left-(w_StringS x.names:Int)
  case neg=>rw[if_neg c1,show decide ((-1:Int)<0)=true from rfl,cT,if_neg (by omega)]
  rw[if_pos c1,dF (by omega),cF]
  rw[if_pos (by omega)]
  first|(congr 4;done)|(congr 4;omega)
theorem szSorts_all :∃g,EO (z3d.ent g)/\SZ (.n 6) w_Sorts g:=by
 obtain⟨_,e0,h0⟩:=szStringS_all
 obtain⟨_,e1,h1⟩:=szSubS_all
 exact szSorts_ex e0 h0 e1 h1
theorem toSorts_ex {gStringS:List ByteArray->Option (List ByteArray)} (eStringS:EO (z3y.ent gStringS)) (hStringS:TO (.sl .s) w_StringS gStringS) {gSubS:List Sb->Option (List Sb)} (eSubS:EO (z40.ent gSubS)) (hSubS:TO (.sl (.n 5)) w_SubS gSubS):∃g,EO (z3v.ent g)/\TO (.n 6) w_Sorts g:=
 by_pick (λg hg=>z3v.ok (G:=⟨gStringS,gSubS⟩) ⟨eStringS,eSubS,trivial⟩ hg) λx ⟨hf,h1⟩=>by
  obtain⟨hf0,hf1⟩:=fit_Sorts hf
  refine⟨_,⟨1,?_⟩,rfl⟩
  unfold z3v.main
  have r0:gStringS x.names=some x.names:=by
   obtain⟨_,r,q⟩:=hStringS x.names ⟨hf0,(by have h1:w_StringS x.names+w_SubS x.subs<=1048576:=h1;omega)⟩
   rw[q]at r
   exact r
  try dsimp only
  rw[r0,bS]
  have r1:gSubS x.subs=some x.subs:=by
   obtain⟨_,r,q⟩:=hSubS x.subs ⟨hf1,(by have h1:w_StringS x.names+w_SubS x.subs<=1048576:=h1;omega)⟩
   rw[q]at r
   exact r
  try dsimp only
  rw[r1,bS]
  try rfl
theorem toSorts_all :∃g,EO (z3v.ent g)/\TO (.n 6) w_Sorts g:=by
 obtain⟨_,e0,h0⟩:=toStringS_all
 obtain⟨_,e1,h1⟩:=toSubS_all
 exact toSorts_ex e0 h0 e1 h1
theorem eqSorts_ex {gStringS:List ByteArray->List ByteArray->Option Bool} (eStringS:EO (z2e.ent gStringS)) (hStringS:EQ (.sl .s) w_StringS gStringS) {gSubS:List Sb->List Sb->Option Bool} (eSubS:EO (z2g.ent gSubS)) (hSubS:EQ (.sl (.n 5)) w_SubS gSubS):∃g,EO (z2b.ent g)/\EQ (.n 6) w_Sorts g:=
 by_pick2 (λg hg=>z2b.ok (G:=⟨gStringS,gSubS⟩) ⟨eStringS,eSubS,trivial⟩ hg) λx y ⟨hxy,hf,h1⟩=>by
  subst hxy
  obtain⟨hf0,hf1⟩:=fit_Sorts hf
  refine⟨_,⟨1,?_⟩,rfl⟩
  unfold z2b.main
  have r0:gStringS x.names x.names=some true:=by
   obtain⟨_,r,q⟩:=hStringS x.names x.names ⟨rfl,hf0,(by have h1:w_StringS x.names+w_SubS x.subs<=1048576:=h1;omega)⟩
   rw[q]at r
   exact r
  have r1:gSubS x.subs x.subs=some true:=by
   obtain⟨_,r,q⟩:=hSubS x.subs x.subs ⟨rfl,hf1,(by have h1:w_StringS x.names+w_SubS x.subs<=1048576:=h1;omega)⟩
   rw[q]at r
   exact r
  simp[r0,r1]
theorem eqSorts_all :∃g,EO (z2b.ent g)/\EQ (.n 6) w_Sorts g:=by
 obtain⟨_,e0,h0⟩:=eqStringS_all
 obtain⟨_,e1,h1⟩:=eqSubS_all
 exact eqSorts_ex e0 h0 e1 h1
def w_Signature (x:Sg):Nat:=w_Sorts x.sorts+w_OpS x.ops
theorem fit_Signature {x:Sg} (h:Fit (.n 9) x):Fit (.n 6) x.sorts/\Fit (.sl (.n 8)) x.ops:=by
 refine⟨λc hc=>h c ?_,λc hc=>h c ?_⟩<;>(simp only[explode,List.mem_cons,List.not_mem_nil,or_false]at hc ⊢;first|(subst hc;simp;done)|(rcases hc with rfl|rfl<;>simp;done)|(rcases hc with rfl|rfl|rfl<;>simp;done)|(rcases hc with rfl|rfl|rfl|rfl<;>simp;done))
theorem szSignature_ex {gSorts:So->Int->Option Int} (eSorts:EO (z3d.ent gSorts)) (hSorts:SZ (.n 6) w_Sorts gSorts) {gOpS:List Opr->Int->Option Int} (eOpS:EO (z3b.ent gOpS)) (hOpS:SZ (.sl (.n 8)) w_OpS gOpS):∃g,EO (z3c.ent g)/\SZ (.n 9) w_Signature g:=
 by_pick2 (λg hg=>z3c.ok (G:=⟨gSorts,gOpS⟩) ⟨eSorts,eOpS,trivial⟩ hg) λx left ⟨hf,h0,h1⟩=>by
  obtain⟨hf0,hf1⟩:=fit_Signature hf
  refine⟨_,⟨1,?_⟩,rfl⟩
  unfold z3c.main
  have ew:(w_Signature x:Int)=(w_Sorts x.sorts:Int)+(w_OpS x.ops:Int):=by show ((w_Sorts x.sorts+w_OpS x.ops:Nat):Int)=_;omega
  have r0:gSorts x.sorts (left)=some (if (w_Sorts x.sorts:Int)<=left then left-(w_Sorts x.sorts:Int)else -1):=by
   obtain⟨_,r,q⟩:=hSorts x.sorts (left) ⟨hf0,by omega,by omega⟩
   rw[q]at r
   exact r
  try dsimp only
  rw[r0,bS]
  by_cases c0:(w_Sorts x.sorts:Int)<=left
  case neg=>rw[if_neg c0,show decide ((-1:Int)<0)=true from rfl,cT,if_neg (by omega)]
  rw[if_pos c0,dF (by omega),cF]
  have r1:gOpS x.ops (left-(w_Sorts x.sorts:Int))=some (if (w_OpS x.ops:Int)<=left-(w_Sorts x.sorts:Int)then left-(w_Sorts x.sorts:Int)-(w_OpS x.ops:Int)else -1):=by
   obtain⟨_,r,q⟩:=hOpS x.ops (left-(w_Sorts x.sorts:Int)) ⟨hf1,by omega,by omega⟩
   rw[q]at r
   exact r
  try dsimp only
  rw[r1,bS]
  by_cases c1:(w_OpS x.ops:Int)<=left-(w_Sorts x.sorts:Int)
  case neg=>rw[if_neg c1,show decide ((-1:Int)<0)=true from rfl,cT,if_neg (by omega)]
  rw[if_pos c1,dF (by omega),cF]
  rw[if_pos (by omega)]
  first|(congr 4;done)|(congr 4;omega)
theorem szSignature_all :∃g,EO (z3c.ent g)/\SZ (.n 9) w_Signature g:=by
 obtain⟨_,e0,h0⟩:=szSorts_all
 obtain⟨_,e1,h1⟩:=szOpS_all
 exact szSignature_ex e0 h0 e1 h1
theorem toSignature_ex {gSorts:So->Option (So)} (eSorts:EO (z3v.ent gSorts)) (hSorts:TO (.n 6) w_Sorts gSorts) {gOpS:List Opr->Option (List Opr)} (eOpS:EO (z3t.ent gOpS)) (hOpS:TO (.sl (.n 8)) w_OpS gOpS):∃g,EO (z3u.ent g)/\TO (.n 9) w_Signature g:=
 by_pick (λg hg=>z3u.ok (G:=⟨gSorts,gOpS⟩) ⟨eSorts,eOpS,trivial⟩ hg) λx ⟨hf,h1⟩=>by
  obtain⟨hf0,hf1⟩:=fit_Signature hf
  refine⟨_,⟨1,?_⟩,rfl⟩
  unfold z3u.main
  have r0:gSorts x.sorts=some x.sorts:=by
   obtain⟨_,r,q⟩:=hSorts x.sorts ⟨hf0,(by have h1:w_Sorts x.sorts+w_OpS x.ops<=1048576:=h1;omega)⟩
   rw[q]at r
   exact r
  try dsimp only
  rw[r0,bS]
  have r1:gOpS x.ops=some x.ops:=by
   obtain⟨_,r,q⟩:=hOpS x.ops ⟨hf1,(by have h1:w_Sorts x.sorts+w_OpS x.ops<=1048576:=h1;omega)⟩
   rw[q]at r
   exact r
  try dsimp only
  rw[r1,bS]
  try rfl
theorem toSignature_all :∃g,EO (z3u.ent g)/\TO (.n 9) w_Signature g:=by
 obtain⟨_,e0,h0⟩:=toSorts_all
 obtain⟨_,e1,h1⟩:=toOpS_all
 exact toSignature_ex e0 h0 e1 h1
theorem eqSignature_ex {gSorts:So->So->Option Bool} (eSorts:EO (z2b.ent gSorts)) (hSorts:EQ (.n 6) w_Sorts gSorts) {gOpS:List Opr->List Opr->Option Bool} (eOpS:EO (z29.ent gOpS)) (hOpS:EQ (.sl (.n 8)) w_OpS gOpS):∃g,EO (z2a.ent g)/\EQ (.n 9) w_Signature g:=
 by_pick2 (λg hg=>z2a.ok (G:=⟨gSorts,gOpS⟩) ⟨eSorts,eOpS,trivial⟩ hg) λx y ⟨hxy,hf,h1⟩=>by
  subst hxy
  obtain⟨hf0,hf1⟩:=fit_Signature hf
  refine⟨_,⟨1,?_⟩,rfl⟩
  unfold z2a.main
  have r0:gSorts x.sorts x.sorts=some true:=by
   obtain⟨_,r,q⟩:=hSorts x.sorts x.sorts ⟨rfl,hf0,(by have h1:w_Sorts x.sorts+w_OpS x.ops<=1048576:=h1;omega)⟩
   rw[q]at r
   exact r
  have r1:gOpS x.ops x.ops=some true:=by
   obtain⟨_,r,q⟩:=hOpS x.ops x.ops ⟨rfl,hf1,(by have h1:w_Sorts x.sorts+w_OpS x.ops<=1048576:=h1;omega)⟩
   rw[q]at r
   exact r
  simp[r0,r1]
theorem eqSignature_all :∃g,EO (z2a.ent g)/\EQ (.n 9) w_Signature g:=by
 obtain⟨_,e0,h0⟩:=eqSorts_all
 obtain⟨_,e1,h1⟩:=eqOpS_all
 exact eqSignature_ex e0 h0 e1 h1
def w_Condition (x:Cnd):Nat:=w_Term x.left+w_Term x.right
theorem fit_Condition {x:Cnd} (h:Fit (.n 13) x):Fit (.n 1) x.left/\Fit (.n 1) x.right:=by
 refine⟨λc hc=>h c ?_,λc hc=>h c ?_⟩<;>(simp only[explode,List.mem_cons,List.not_mem_nil,or_false]at hc ⊢;first|(subst hc;simp;done)|(rcases hc with rfl|rfl<;>simp;done)|(rcases hc with rfl|rfl|rfl<;>simp;done)|(rcases hc with rfl|rfl|rfl|rfl<;>simp;done))
theorem szCondition_ex {gTerm:Tm->Int->Option Int} (eTerm:EO (z3i.ent gTerm)) (hTerm:SZ (.n 1) w_Term gTerm):∃g,EO (z2z.ent g)/\SZ (.n 13) w_Condition g:=
 by_pick2 (λg hg=>z2z.ok (G:=⟨gTerm⟩) ⟨eTerm,trivial⟩ hg) λx left ⟨hf,h0,h1⟩=>by
  obtain⟨hf0,hf1⟩:=fit_Condition hf
  refine⟨_,⟨1,?_⟩,rfl⟩
  unfold z2z.main
  have ew:(w_Condition x:Int)=(w_Term x.left:Int)+(w_Term x.right:Int):=by show ((w_Term x.left+w_Term x.right:Nat):Int)=_;omega
  have r0:gTerm x.left (left)=some (if (w_Term x.left:Int)<=left then left-(w_Term x.left:Int)else -1):=by
   obtain⟨_,r,q⟩:=hTerm x.left (left) ⟨hf0,by omega,by omega⟩
   rw[q]at r
   exact r
  try simp only[Tm.eta]
  try dsimp only
  rw[r0,bS]
  by_cases c0:(w_Term x.left:Int)<=left
  case neg=>rw[if_neg c0,show decide ((-1:Int)<0)=true from rfl,cT,if_neg (by omega)]
  rw[if_pos c0,dF (by omega),cF]
  have r1:gTerm x.right (left-(w_Term x.left:Int))=some (if (w_Term x.right:Int)<=left-(w_Term x.left:Int)then left-(w_Term x.left:Int)-(w_Term x.right:Int)else -1):=by
   obtain⟨_,r,q⟩:=hTerm x.right (left-(w_Term x.left:Int)) ⟨hf1,by omega,by omega⟩
   rw[q]at r
   exact r
  try simp only[Tm.eta]
  try dsimp only
  rw[r1,bS]
  by_cases c1:(w_Term x.right:Int)<=left-(w_Term x.left:Int)
  case neg=>rw[if_neg c1,show decide ((-1:Int)<0)=true from rfl,cT,if_neg (by omega)]
  rw[if_pos c1,dF (by omega),cF]
  rw[if_pos (by omega)]
  first|(congr 4;done)|(congr 4;omega)
theorem szCondition_all :∃g,EO (z2z.ent g)/\SZ (.n 13) w_Condition g:=by
 obtain⟨_,e0,h0⟩:=szTerm_all
 exact szCondition_ex e0 h0
theorem toCondition_ex {gTerm:Tm->Option (Tm)} (eTerm:EO (z41.ent gTerm)) (hTerm:TO (.n 1) w_Term gTerm):∃g,EO (z3k.ent g)/\TO (.n 13) w_Condition g:=
 by_pick (λg hg=>z3k.ok (G:=⟨gTerm⟩) ⟨eTerm,trivial⟩ hg) λx ⟨hf,h1⟩=>by
  obtain⟨hf0,hf1⟩:=fit_Condition hf
  refine⟨_,⟨1,?_⟩,rfl⟩
  unfold z3k.main
  have r0:gTerm x.left=some x.left:=by
   obtain⟨_,r,q⟩:=hTerm x.left ⟨hf0,(by have h1:w_Term x.left+w_Term x.right<=1048576:=h1;omega)⟩
   rw[q]at r
   exact r
  try simp only[Tm.eta]
  try dsimp only
  rw[r0,bS]
  have r1:gTerm x.right=some x.right:=by
   obtain⟨_,r,q⟩:=hTerm x.right ⟨hf1,(by have h1:w_Term x.left+w_Term x.right<=1048576:=h1;omega)⟩
   rw[q]at r
   exact r
  try simp only[Tm.eta]
  try dsimp only
  rw[r1,bS]
  try rfl
theorem toCondition_all :∃g,EO (z3k.ent g)/\TO (.n 13) w_Condition g:=by
 obtain⟨_,e0,h0⟩:=toTerm_all
 exact toCondition_ex e0 h0
theorem eqCondition_ex {gTerm:Tm->Tm->Option Bool} (eTerm:EO (z2h.ent gTerm)) (hTerm:EQ (.n 1) w_Term gTerm):∃g,EO (z1x.ent g)/\EQ (.n 13) w_Condition g:=
 by_pick2 (λg hg=>z1x.ok (G:=⟨gTerm⟩) ⟨eTerm,trivial⟩ hg) λx y ⟨hxy,hf,h1⟩=>by
  subst hxy
  obtain⟨hf0,hf1⟩:=fit_Condition hf
  refine⟨_,⟨1,?_⟩,rfl⟩
  unfold z1x.main
  have r0:gTerm x.left x.left=some true:=by
   obtain⟨_,r,q⟩:=hTerm x.left x.left ⟨rfl,hf0,(by have h1:w_Term x.left+w_Term x.right<=1048576:=h1;omega)⟩
   rw[q]at r
   exact r
  have r1:gTerm x.right x.right=some true:=by
   obtain⟨_,r,q⟩:=hTerm x.right x.right ⟨rfl,hf1,(by have h1:w_Term x.left+w_Term x.right<=1048576:=h1;omega)⟩
   rw[q]at r
   exact r
  simp[Tm.eta,r0,r1]
theorem eqCondition_all :∃g,EO (z1x.ent g)/\EQ (.n 13) w_Condition g:=by
 obtain⟨_,e0,h0⟩:=eqTerm_all
 exact eqCondition_ex e0 h0
def w_ConditionS (xs:List Cnd):Nat:=wL w_Condition xs
theorem szConditionS_all :∃g,EO (z30.ent g)/\SZ (.sl (.n 13)) w_ConditionS g:=by
 obtain⟨gE,eE,hE⟩:=szCondition_all
 exact by_pick2 (λg hg=>z30.ok (G:=⟨gE⟩) ⟨eE,trivial⟩ hg) λ(xs:List Cnd) (left:Int) ⟨hf,h0,h1⟩=>⟨_,⟨xs.length+1,szL_run xs w_Condition gE (szL_e hE hf h1) (fit_sl.1 hf).len h0 (by omega) (λa l i nx=>z30.b5 ⟨gE⟩ (xs.length+1) a l i nx kI kI) kI (λ_ _ _=>by simp only[z30.b5,Tm.eta])⟩,rfl⟩
theorem le_ConditionS {xs:List Cnd} (h:w_ConditionS xs<=1048576):xs.length<=1048576/\∀x∈xs,w_Condition x<=1048576:=by
 have h:xs.length+wS w_Condition xs<=1048576:=h
 exact⟨by omega,λx hx=>by have:w_Condition x<=wS w_Condition xs:=wS_mem (f:=w_Condition) hx;omega⟩
theorem toConditionS_all :∃g,EO (z3l.ent g)/\TO (.sl (.n 13)) w_ConditionS g:=by
 obtain⟨gE,eE,hE⟩:=toCondition_all
 exact by_pick (λg hg=>z3l.ok (G:=⟨gE⟩) ⟨eE,trivial⟩ hg) λ(xs:List Cnd) ⟨hf,h1⟩=>⟨_,⟨xs.length+1,toL_run xs _ gE (toL_e hE hf (le_ConditionS h1).2) (by have:=(le_ConditionS h1).1;omega) (λa i h nx=>z3l.b3 ⟨gE⟩ (xs.length+1) a i h nx (kL (.n 13))) (kL (.n 13)) (λ_ _ _=>by simp only[z3l.b3,Tm.eta])⟩,rfl⟩
theorem eqConditionS_all :∃g,EO (z1y.ent g)/\EQ (.sl (.n 13)) w_ConditionS g:=by
 obtain⟨gE,eE,hE⟩:=eqCondition_all
 exact by_pick2 (λg hg=>z1y.ok (G:=⟨gE⟩) ⟨eE,trivial⟩ hg) λ(xs ys:List Cnd) ⟨hxy,hf,h1⟩=>by
  subst hxy
  exact⟨_,⟨xs.length+1,eqL_run xs gE (eqL_e hE hf (le_ConditionS h1).2) (by have:=(le_ConditionS h1).1;omega) (λa b i nx=>z1y.b4 ⟨gE⟩ (xs.length+1) a b i nx kB (kB true)) (kB false) (kB true) (λ_ _=>by simp only[z1y.b4,Tm.eta])⟩,rfl⟩
def w_Equation (x:Eqn):Nat:=w_Term x.left+w_Term x.right+w_ConditionS x.conds
theorem fit_Equation {x:Eqn} (h:Fit (.n 14) x):Fit (.n 1) x.left/\Fit (.n 1) x.right/\Fit (.sl (.n 13)) x.conds:=by
 refine⟨λc hc=>h c ?_,λc hc=>h c ?_,λc hc=>h c ?_⟩<;>(simp only[explode,List.mem_cons,List.not_mem_nil,or_false]at hc ⊢;first|(subst hc;simp;done)|(rcases hc with rfl|rfl<;>simp;done)|(rcases hc with rfl|rfl|rfl<;>simp;done)|(rcases hc with rfl|rfl|rfl|rfl<;>simp;done))
theorem szEquation_ex {gTerm:Tm->Int->Option Int} (eTerm:EO (z3i.ent gTerm)) (hTerm:SZ (.n 1) w_Term gTerm) {gConditionS:List Cnd->Int->Option Int} (eConditionS:EO (z30.ent gConditionS)) (hConditionS:SZ (.sl (.n 13)) w_ConditionS gConditionS):∃g,EO (z34.ent g)/\SZ (.n 14) w_Equation g:=
 by_pick2 (λg hg=>z34.ok (G:=⟨gTerm,gConditionS⟩) ⟨eTerm,eConditionS,trivial⟩ hg) λx left ⟨hf,h0,h1⟩=>by
  obtain⟨hf0,hf1,hf2⟩:=fit_Equation hf
  refine⟨_,⟨1,?_⟩,rfl⟩
  unfold z34.main
  have ew:(w_Equation x:Int)=(w_Term x.left:Int)+(w_Term x.right:Int)+(w_ConditionS x.conds:Int):=by show ((w_Term x.left+w_Term x.right+w_ConditionS x.conds:Nat):Int)=_;omega
  have r0:gTerm x.left (left)=some (if (w_Term x.left:Int)<=left then left-(w_Term x.left:Int)else -1):=by
   obtain⟨_,r,q⟩:=hTerm x.left (left) ⟨hf0,by omega,by omega⟩
   rw[q]at r
   exact r
  try simp only[Tm.eta]
  try dsimp only
  rw[r0,bS]
  by_cases c0:(w_Term x.left:Int)<=left
  case neg=>rw[if_neg c0,show decide ((-1:Int)<0)=true from rfl,cT,if_neg (by omega)]
  rw[if_pos c0,dF (by omega),cF]
  have r1:gTerm x.right (left-(w_Term x.left:Int))=some (if (w_Term x.right:Int)<=left-(w_Term x.left:Int)then left-(w_Term x.left:Int)-(w_Term x.right:Int)else -1):=by
   obtain⟨_,r,q⟩:=hTerm x.right (left-(w_Term x.left:Int)) ⟨hf1,by omega,by omega⟩
   rw[q]at r
   exact r
  try simp only[Tm.eta]
  try dsimp only
  rw[r1,bS]
  by_cases c1:(w_Term x.right:Int)<=left-(w_Term x.left:Int)
  case neg=>rw[if_neg c1,show decide ((-1:Int)<0)=true from rfl,cT,if_neg (by omega)]
  rw[if_pos c1,dF (by omega),cF]
  have r2:gConditionS x.conds (left-(w_Term x.left:Int)-(w_Term x.right:Int))=some (if (w_ConditionS x.conds:Int)<=left-(w_Term x.left:Int)-(w_Term x.right:Int)then left-(w_Term x.left:Int)-(w_Term x.right:Int)-(w_ConditionS x.conds:Int)else -1):=by
   obtain⟨_,r,q⟩:=hConditionS x.conds (left-(w_Term x.left:Int)-(w_Term x.right:Int)) ⟨hf2,by omega,by omega⟩
   rw[q]at r
   exact r
  try simp only[Tm.eta]
  try dsimp only
  rw[r2,bS]
  by_cases c2:(w_ConditionS x.conds:Int)<=left-(w_Term x.left:Int)-(w_Term x.right:Int)
  case neg=>rw[if_neg c2,show decide ((-1:Int)<0)=true from rfl,cT,if_neg (by omega)]
  rw[if_pos c2,dF (by omega),cF]
  rw[if_pos (by omega)]
  first|(congr 4;done)|(congr 4;omega)
theorem szEquation_all :∃g,EO (z34.ent g)/\SZ (.n 14) w_Equation g:=by
 obtain⟨_,e0,h0⟩:=szTerm_all
 obtain⟨_,e1,h1⟩:=szConditionS_all
 exact szEquation_ex e0 h0 e1 h1
theorem toEquation_ex {gTerm:Tm->Option (Tm)} (eTerm:EO (z41.ent gTerm)) (hTerm:TO (.n 1) w_Term gTerm) {gConditionS:List Cnd->Option (List Cnd)} (eConditionS:EO (z3l.ent gConditionS)) (hConditionS:TO (.sl (.n 13)) w_ConditionS gConditionS):∃g,EO (z3o.ent g)/\TO (.n 14) w_Equation g:=
 by_pick (λg hg=>z3o.ok (G:=⟨gTerm,gConditionS⟩) ⟨eTerm,eConditionS,trivial⟩ hg) λx ⟨hf,h1⟩=>by
  obtain⟨hf0,hf1,hf2⟩:=fit_Equation hf
  refine⟨_,⟨1,?_⟩,rfl⟩
  unfold z3o.main
  have r0:gTerm x.left=some x.left:=by
   obtain⟨_,r,q⟩:=hTerm x.left ⟨hf0,(by have h1:w_Term x.left+w_Term x.right+w_ConditionS x.conds<=1048576:=h1;omega)⟩
   rw[q]at r
   exact r
  try simp only[Tm.eta]
  try dsimp only
  rw[r0,bS]
  have r1:gTerm x.right=some x.right:=by
   obtain⟨_,r,q⟩:=hTerm x.right ⟨hf1,(by have h1:w_Term x.left+w_Term x.right+w_ConditionS x.conds<=1048576:=h1;omega)⟩
   rw[q]at r
   exact r
  try simp only[Tm.eta]
  try dsimp only
  rw[r1,bS]
  have r2:gConditionS x.conds=some x.conds:=by
   obtain⟨_,r,q⟩:=hConditionS x.conds ⟨hf2,(by have h1:w_Term x.left+w_Term x.right+w_ConditionS x.conds<=1048576:=h1;omega)⟩
   rw[q]at r
   exact r
  try simp only[Tm.eta]
  try dsimp only
  rw[r2,bS]
  try rfl
theorem toEquation_all :∃g,EO (z3o.ent g)/\TO (.n 14) w_Equation g:=by
 obtain⟨_,e0,h0⟩:=toTerm_all
 obtain⟨_,e1,h1⟩:=toConditionS_all
 exact toEquation_ex e0 h0 e1 h1
theorem eqEquation_ex {gTerm:Tm->Tm->Option Bool} (eTerm:EO (z2h.ent gTerm)) (hTerm:EQ (.n 1) w_Term gTerm) {gConditionS:List Cnd->List Cnd->Option Bool} (eConditionS:EO (z1y.ent gConditionS)) (hConditionS:EQ (.sl (.n 13)) w_ConditionS gConditionS):∃g,EO (z23.ent g)/\EQ (.n 14) w_Equation g:=
 by_pick2 (λg hg=>z23.ok (G:=⟨gTerm,gConditionS⟩) ⟨eTerm,eConditionS,trivial⟩ hg) λx y ⟨hxy,hf,h1⟩=>by
  subst hxy
  obtain⟨hf0,hf1,hf2⟩:=fit_Equation hf
  refine⟨_,⟨1,?_⟩,rfl⟩
  unfold z23.main
  have r0:gTerm x.left x.left=some true:=by
   obtain⟨_,r,q⟩:=hTerm x.left x.left ⟨rfl,hf0,(by have h1:w_Term x.left+w_Term x.right+w_ConditionS x.conds<=1048576:=h1;omega)⟩
   rw[q]at r
   exact r
  have r1:gTerm x.right x.right=some true:=by
   obtain⟨_,r,q⟩:=hTerm x.right x.right ⟨rfl,hf1,(by have h1:w_Term x.left+w_Term x.right+w_ConditionS x.conds<=1048576:=h1;omega)⟩
   rw[q]at r
   exact r
  have r2:gConditionS x.conds x.conds=some true:=by
   obtain⟨_,r,q⟩:=hConditionS x.conds x.conds ⟨rfl,hf2,(by have h1:w_Term x.left+w_Term x.right+w_ConditionS x.conds<=1048576:=h1;omega)⟩
   rw[q]at r
   exact r
  simp[Tm.eta,r0,r1,r2]
theorem eqEquation_all :∃g,EO (z23.ent g)/\EQ (.n 14) w_Equation g:=by
 obtain⟨_,e0,h0⟩:=eqTerm_all
 obtain⟨_,e1,h1⟩:=eqConditionS_all
 exact eqEquation_ex e0 h0 e1 h1
def w_EquationS (xs:List Eqn):Nat:=wL w_Equation xs
theorem szEquationS_all :∃g,EO (z35.ent g)/\SZ (.sl (.n 14)) w_EquationS g:=by
 obtain⟨gE,eE,hE⟩:=szEquation_all
 exact by_pick2 (λg hg=>z35.ok (G:=⟨gE⟩) ⟨eE,trivial⟩ hg) λ(xs:List Eqn) (left:Int) ⟨hf,h0,h1⟩=>⟨_,⟨xs.length+1,szL_run xs w_Equation gE (szL_e hE hf h1) (fit_sl.1 hf).len h0 (by omega) (λa l i nx=>z35.b5 ⟨gE⟩ (xs.length+1) a l i nx kI kI) kI (λ_ _ _=>by simp only[z35.b5,Tm.eta])⟩,rfl⟩
theorem le_EquationS {xs:List Eqn} (h:w_EquationS xs<=1048576):xs.length<=1048576/\∀x∈xs,w_Equation x<=1048576:=by
 have h:xs.length+wS w_Equation xs<=1048576:=h
 exact⟨by omega,λx hx=>by have:w_Equation x<=wS w_Equation xs:=wS_mem (f:=w_Equation) hx;omega⟩
theorem toEquationS_all :∃g,EO (z3p.ent g)/\TO (.sl (.n 14)) w_EquationS g:=by
 obtain⟨gE,eE,hE⟩:=toEquation_all
 exact by_pick (λg hg=>z3p.ok (G:=⟨gE⟩) ⟨eE,trivial⟩ hg) λ(xs:List Eqn) ⟨hf,h1⟩=>⟨_,⟨xs.length+1,toL_run xs _ gE (toL_e hE hf (le_EquationS h1).2) (by have:=(le_EquationS h1).1;omega) (λa i h nx=>z3p.b3 ⟨gE⟩ (xs.length+1) a i h nx (kL (.n 14))) (kL (.n 14)) (λ_ _ _=>by simp only[z3p.b3,Tm.eta])⟩,rfl⟩
theorem eqEquationS_all :∃g,EO (z24.ent g)/\EQ (.sl (.n 14)) w_EquationS g:=by
 obtain⟨gE,eE,hE⟩:=eqEquation_all
 exact by_pick2 (λg hg=>z24.ok (G:=⟨gE⟩) ⟨eE,trivial⟩ hg) λ(xs ys:List Eqn) ⟨hxy,hf,h1⟩=>by
  subst hxy
  exact⟨_,⟨xs.length+1,eqL_run xs gE (eqL_e hE hf (le_EquationS h1).2) (by have:=(le_EquationS h1).1;omega) (λa b i nx=>z24.b4 ⟨gE⟩ (xs.length+1) a b i nx kB (kB true)) (kB false) (kB true) (λ_ _=>by simp only[z24.b4,Tm.eta])⟩,rfl⟩
def w_Module (x:Md):Nat:=w_Signature x.sig+w_EquationS x.eqs+w_EquationS x.rules
theorem fit_Module {x:Md} (h:Fit (.n 15) x):Fit (.n 9) x.sig/\Fit (.sl (.n 14)) x.eqs/\Fit (.sl (.n 14)) x.rules:=by
 refine⟨λc hc=>h c ?_,λc hc=>h c ?_,λc hc=>h c ?_⟩<;>(simp only[explode,List.mem_cons,List.not_mem_nil,or_false]at hc ⊢;first|(subst hc;simp;done)|(rcases hc with rfl|rfl<;>simp;done)|(rcases hc with rfl|rfl|rfl<;>simp;done)|(rcases hc with rfl|rfl|rfl|rfl<;>simp;done))
theorem szModule_ex {gSignature:Sg->Int->Option Int} (eSignature:EO (z3c.ent gSignature)) (hSignature:SZ (.n 9) w_Signature gSignature) {gEquationS:List Eqn->Int->Option Int} (eEquationS:EO (z35.ent gEquationS)) (hEquationS:SZ (.sl (.n 14)) w_EquationS gEquationS):∃g,EO (z38.ent g)/\SZ (.n 15) w_Module g:=
 by_pick2 (λg hg=>z38.ok (G:=⟨gSignature,gEquationS⟩) ⟨eSignature,eEquationS,trivial⟩ hg) λx left ⟨hf,h0,h1⟩=>by
  obtain⟨hf0,hf1,hf2⟩:=fit_Module hf
  refine⟨_,⟨1,?_⟩,rfl⟩
  unfold z38.main
  have ew:(w_Module x:Int)=(w_Signature x.sig:Int)+(w_EquationS x.eqs:Int)+(w_EquationS x.rules:Int):=by show ((w_Signature x.sig+w_EquationS x.eqs+w_EquationS x.rules:Nat):Int)=_;omega
  have r0:gSignature x.sig (left)=some (if (w_Signature x.sig:Int)<=left then left-(w_Signature x.sig:Int)else -1):=by
   obtain⟨_,r,q⟩:=hSignature x.sig (left) ⟨hf0,by omega,by omega⟩
   rw[q]at r
   exact r
  try dsimp only
  rw[r0,bS]
  by_cases c0:(w_Signature x.sig:Int)<=left
  case neg=>rw[if_neg c0,show decide ((-1:Int)<0)=true from rfl,cT,if_neg (by omega)]
  rw[if_pos c0,dF (by omega),cF]
  have r1:gEquationS x.eqs (left-(w_Signature x.sig:Int))=some (if (w_EquationS x.eqs:Int)<=left-(w_Signature x.sig:Int)then left-(w_Signature x.sig:Int)-(w_EquationS x.eqs:Int)else -1):=by
   obtain⟨_,r,q⟩:=hEquationS x.eqs (left-(w_Signature x.sig:Int)) ⟨hf1,by omega,by omega⟩
   rw[q]at r
   exact r
  try dsimp only
  rw[r1,bS]
  by_cases c1:(w_EquationS x.eqs:Int)<=left-(w_Signature x.sig:Int)
  case neg=>rw[if_neg c1,show decide ((-1:Int)<0)=true from rfl,cT,if_neg (by omega)]
  rw[if_pos c1,dF (by omega),cF]
  have r2:gEquationS x.rules (left-(w_Signature x.sig:Int)-(w_EquationS x.eqs:Int))=some (if (w_EquationS x.rules:Int)<=left-(w_Signature x.sig:Int)-(w_EquationS x.eqs:Int)then left-(w_Signature x.sig:Int)-(w_EquationS x.eqs:Int)-(w_EquationS x.rules:Int)else -1):=by
   obtain⟨_,r,q⟩:=hEquationS x.rules (left-(w_Signature x.sig:Int)-(w_EquationS x.eqs:Int)) ⟨hf2,by omega,by omega⟩
   rw[q]at r
   exact r
  try dsimp only
  rw[r2,bS]
  by_cases c2:(w_EquationS x.rules:Int)<=left-(w_Signature x.sig:Int)-(w_EquationS x.eqs:Int)
  case neg=>rw[if_neg c2,show decide ((-1:Int)<0)=true from rfl,cT,if_neg (by omega)]
  rw[if_pos c2,dF (by omega),cF]
  rw[if_pos (by omega)]
  first|(congr 4;done)|(congr 4;omega)
theorem szModule_all :∃g,EO (z38.ent g)/\SZ (.n 15) w_Module g:=by
 obtain⟨_,e0,h0⟩:=szSignature_all
 obtain⟨_,e1,h1⟩:=szEquationS_all
 exact szModule_ex e0 h0 e1 h1
theorem toModule_ex {gSignature:Sg->Option (Sg)} (eSignature:EO (z3u.ent gSignature)) (hSignature:TO (.n 9) w_Signature gSignature) {gEquationS:List Eqn->Option (List Eqn)} (eEquationS:EO (z3p.ent gEquationS)) (hEquationS:TO (.sl (.n 14)) w_EquationS gEquationS):∃g,EO (z3r.ent g)/\TO (.n 15) w_Module g:=
 by_pick (λg hg=>z3r.ok (G:=⟨gSignature,gEquationS⟩) ⟨eSignature,eEquationS,trivial⟩ hg) λx ⟨hf,h1⟩=>by
  obtain⟨hf0,hf1,hf2⟩:=fit_Module hf
  refine⟨_,⟨1,?_⟩,rfl⟩
  unfold z3r.main
  have r0:gSignature x.sig=some x.sig:=by
   obtain⟨_,r,q⟩:=hSignature x.sig ⟨hf0,(by have h1:w_Signature x.sig+w_EquationS x.eqs+w_EquationS x.rules<=1048576:=h1;omega)⟩
   rw[q]at r
   exact r
  try dsimp only
  rw[r0,bS]
  have r1:gEquationS x.eqs=some x.eqs:=by
   obtain⟨_,r,q⟩:=hEquationS x.eqs ⟨hf1,(by have h1:w_Signature x.sig+w_EquationS x.eqs+w_EquationS x.rules<=1048576:=h1;omega)⟩
   rw[q]at r
   exact r
  try dsimp only
  rw[r1,bS]
  have r2:gEquationS x.rules=some x.rules:=by
   obtain⟨_,r,q⟩:=hEquationS x.rules ⟨hf2,(by have h1:w_Signature x.sig+w_EquationS x.eqs+w_EquationS x.rules<=1048576:=h1;omega)⟩
   rw[q]at r
   exact r
  try dsimp only
  rw[r2,bS]
  try rfl
theorem toModule_all :∃g,EO (z3r.ent g)/\TO (.n 15) w_Module g:=by
 obtain⟨_,e0,h0⟩:=toSignature_all
 obtain⟨_,e1,h1⟩:=toEquationS_all
 exact toModule_ex e0 h0 e1 h1
theorem eqModule_ex {gSignature:Sg->Sg->Option Bool} (eSignature:EO (z2a.ent gSignature)) (hSignature:EQ (.n 9) w_Signature gSignature) {gEquationS:List Eqn->List Eqn->Option Bool} (eEquationS:EO (z24.ent gEquationS)) (hEquationS:EQ (.sl (.n 14)) w_EquationS gEquationS):∃g,EO (z27.ent g)/\EQ (.n 15) w_Module g:=
 by_pick2 (λg hg=>z27.ok (G:=⟨gSignature,gEquationS⟩) ⟨eSignature,eEquationS,trivial⟩ hg) λx y ⟨hxy,hf,h1⟩=>by
  subst hxy
  obtain⟨hf0,hf1,hf2⟩:=fit_Module hf
  refine⟨_,⟨1,?_⟩,rfl⟩
  unfold z27.main
  have r0:gSignature x.sig x.sig=some true:=by
   obtain⟨_,r,q⟩:=hSignature x.sig x.sig ⟨rfl,hf0,(by have h1:w_Signature x.sig+w_EquationS x.eqs+w_EquationS x.rules<=1048576:=h1;omega)⟩
   rw[q]at r
   exact r
  have r1:gEquationS x.eqs x.eqs=some true:=by
   obtain⟨_,r,q⟩:=hEquationS x.eqs x.eqs ⟨rfl,hf1,(by have h1:w_Signature x.sig+w_EquationS x.eqs+w_EquationS x.rules<=1048576:=h1;omega)⟩
   rw[q]at r
   exact r
  have r2:gEquationS x.rules x.rules=some true:=by
   obtain⟨_,r,q⟩:=hEquationS x.rules x.rules ⟨rfl,hf2,(by have h1:w_Signature x.sig+w_EquationS x.eqs+w_EquationS x.rules<=1048576:=h1;omega)⟩
   rw[q]at r
   exact r
  simp[r0,r1,r2]
theorem eqModule_all :∃g,EO (z27.ent g)/\EQ (.n 15) w_Module g:=by
 obtain⟨_,e0,h0⟩:=eqSignature_all
 obtain⟨_,e1,h1⟩:=eqEquationS_all
 exact eqModule_ex e0 h0 e1 h1
open Classical
theorem Sgy.eta :∀x:Sgy,Sgy.mk (Sgy.kind x) (Sgy.index x) (Sgy.test x) (Sgy.kids x)=x
 |⟨_,_,_,_⟩=>rfl
def Sgy.total (t:Sgy):Nat:=
 match t with
 |⟨_,_,u,ks⟩=>u.total+(ks.length+(ks.attach.map λ⟨x,_⟩=>Sgy.total x).sum)
termination_by t
decreasing_by
 rename_i h
 have:=List.sizeOf_lt_of_mem h
 simp only[Sgy.mk.sizeOf_spec]
 omega
def sgTot (ts:List Sgy):Nat:=ts.length+(ts.map Sgy.total).sum
theorem Sgy.total_eq (t:Sgy):t.total=t.test.total+sgTot t.kids:=by
 obtain⟨k,i,u,ks⟩:=t
 rw[Sgy.total]
 show _=u.total+(ks.length+(ks.map Sgy.total).sum)
 congr 3
 have:(λ(x:{x // x∈ks})=>match x with|⟨x,_⟩=>Sgy.total x)=λx:{x // x∈ks}=>Sgy.total x.1:=by
  funext ⟨x,_⟩;rfl
 rw[this]
 simp
theorem sgT_cons (x:Sgy) (l:List Sgy):sgTot (x::l)=1+x.total+sgTot l:=by unfold sgTot;simp only[List.length_cons,List.map_cons,List.sum_cons];omega
theorem sgT_mem {x:Sgy} {l:List Sgy} (h:x∈l):x.total<sgTot l:=by
 induction l with
 |nil=>simp at h
 | cons y l ih =>
  rw[sgT_cons]
  rcases List.mem_cons.1 h with rfl|h
  ·omega
  ·have:=ih h;omega
theorem sgT_len (l:List Sgy):l.length<=sgTot l:=by unfold sgTot;omega
theorem kid_total {t x:Sgy} (h:x∈t.kids):x.total<t.total:=by
 have:=sgT_mem h
 have:=Sgy.total_eq t
 omega
theorem fit_kids {f:Sgy} (h:Fit (.n 16) f):FitC (.l (.n 16) f.kids):=h _ (by simp[explode])
theorem fit_test {f:Sgy} (h:Fit (.n 16) f):Fit (.n 1) f.test:=λc hc=>h c (by
 simp only[explode,List.mem_cons,List.not_mem_nil,or_false]at hc ⊢
 rcases hc with rfl|rfl|rfl|rfl<;>simp)
noncomputable def gToG (k:Nat):Sgy->Option Sgy:=λf=>if f.total<k then some f else none
noncomputable def gToGS (k:Nat):List Sgy->Option (List Sgy):=λl=>if sgTot l<k then some l else none
theorem toGS_ok (k:Nat) (hk:k<=2097152) (e:EO (z3w.ent (gToG k))):EO (z3x.ent (gToGS (k+1))):=z3x.ok (G:=⟨gToG k⟩) ⟨e,trivial⟩ λ(xs:List Sgy) r h=>by
 unfold gToGS at h
 split at h
 ·rename_i hs
  cases h
  have hlen:=sgT_len xs
  exact⟨xs.length+1,toL_run xs _ (gToG k) (λx hx=>if_pos (by have:=sgT_mem hx;omega)) (by omega) (λa i h nx=>z3x.b3 ⟨gToG k⟩ (xs.length+1) a i h nx (kL (.n 16))) (kL (.n 16)) λ_ _ _=>by simp only[z3x.b3,Tm.eta,Sgy.eta]⟩
 ·cases h
theorem toG_ok :∀k,k<=1048577->EO (z3w.ent (gToG k))
 | 0, _ => by
  intro R xs H K r h
  simp only[z3w.ent]at h
  split at h
  ·simp[gToG]at h
  ·cases h
 | k + 1, hk => z3w.ok          (G := ⟨gToT 1048577, gToGS (k + 1)⟩) ⟨toT_ok _ (by omega), toGS_ok k (by omega) (toG_ok k (by omega)), trivial⟩ fun f r h => by
  unfold gToG at h
  split at h
  ·rename_i hs
   cases h
   refine⟨1,?_⟩
   have ht:=Sgy.total_eq f
   unfold z3w.main
   rw[Tm.eta]
   have e0:gToT 1048577 f.test=some f.test:=if_pos (by omega)
   have e:gToGS (k+1) f.kids=some f.kids:=if_pos (by omega)
   show Option.bind (gToT 1048577 f.test) _=_
   rw[e0,bS]
   show Option.bind (gToGS (k+1) f.kids) _=_
   rw[e,bS]
  ·cases h
noncomputable def gEqG (k:Nat):Sgy->Sgy->Option Bool:=λf g=>if f=g/\f.total<k then some true else none
noncomputable def gEqGS (k:Nat):List Sgy->List Sgy->Option Bool:=λf g=>if f=g/\sgTot f<k then some true else none
theorem eqGS_ok (k:Nat) (hk:k<=2097152) (e:EO (z2c.ent (gEqG k))):EO (z2d.ent (gEqGS (k+1))):=z2d.ok (G:=⟨gEqG k⟩) ⟨e,trivial⟩ λ(xs ys:List Sgy) r h=>by
 unfold gEqGS at h
 split at h
 ·rename_i hs
  obtain⟨hxy,hs⟩:=hs
  subst hxy
  cases h
  have hlen:=sgT_len xs
  exact⟨xs.length+1,eqL_run xs (gEqG k) (λx hx=>if_pos ⟨rfl,by have:=sgT_mem hx;omega⟩) (by omega) (λa b i nx=>z2d.b4 ⟨gEqG k⟩ (xs.length+1) a b i nx kB (kB true)) (kB false) (kB true) λ_ _=>by simp only[z2d.b4,Tm.eta,Sgy.eta]⟩
 ·cases h
theorem eqG_ok :∀k,k<=1048577->EO (z2c.ent (gEqG k))
 | 0, _ => by
  intro R xs H K r h
  simp only[z2c.ent]at h
  split at h
  ·simp[gEqG]at h
  ·cases h
 | k + 1, hk => z2c.ok          (G := ⟨gEqT 1048577, gEqGS (k + 1)⟩) ⟨eqT_ok _ (by omega), eqGS_ok k (by omega) (eqG_ok k (by omega)), trivial⟩ fun f g r h => by
  unfold gEqG at h
  split at h
  ·rename_i hs
   obtain⟨hxy,hs⟩:=hs
   subst hxy
   cases h
   refine⟨1,?_⟩
   have ht:=Sgy.total_eq f
   unfold z2c.main
   have e0:gEqT 1048577 f.test f.test=some true:=if_pos ⟨rfl,by omega⟩
   have e:gEqGS (k+1) f.kids f.kids=some true:=if_pos ⟨rfl,by omega⟩
   rw[dT rfl,dT rfl,Bool.not_true,cF,cF,Tm.eta]
   show Option.bind (gEqT 1048577 f.test f.test) _=_
   rw[e0,bS,Bool.not_true,cF]
   show Option.bind (gEqGS (k+1) f.kids f.kids) _=_
   rw[e]
   rfl
  ·cases h
noncomputable def gSzG (k:Int):Sgy->Int->Option Int:=λf left=>if Fit (.n 16) f/\0<=left/\left<=k then some (if ((Sgy.total f:Nat):Int)<=left then left-(Sgy.total f:Nat)else (-1:Int))else none
noncomputable def gSzGS (k:Int):List Sgy->Int->Option Int:=λl left=>if FitC (.l (.n 16) l)/\0<=left/\left<=k then some (if ((sgTot l:Nat):Int)<=left then left-(sgTot l:Nat)else (-1:Int))else none
theorem szGS_ok (k:Int) (hk:k<=2097151) (e:EO (z3e.ent (gSzG k))):EO (z3f.ent (gSzGS (k+1))):=z3f.ok (G:=⟨gSzG k⟩) ⟨e,trivial⟩ λ(xs:List Sgy) left r h=>by
 unfold gSzGS at h
 split at h
 ·rename_i hs
  obtain⟨hf,h0,h1⟩:=hs
  cases h
  exact⟨xs.length+1,szL_run xs Sgy.total (gSzG k) (λx hx l l0 l1=>⟨_,if_pos ⟨hf.mem x hx,l0,by have:=List.length_pos_of_mem hx;omega⟩,by split<;>omega⟩) hf.len h0 (by omega) (λa l i nx=>z3f.b5 ⟨gSzG k⟩ (xs.length+1) a l i nx kI kI) kI λ_ _ _=>by simp only[z3f.b5,Tm.eta,Sgy.eta]⟩
 ·cases h
theorem szG_ok :∀k:Nat,k<=1048577->EO (z3e.ent (gSzG ((k:Int)-1)))
 | 0, _ => by
  intro R xs H K r h
  simp only[z3e.ent]at h
  split at h
  ·have:∀t l,gSzG (((0:Nat):Int)-1) t l=none:=λt l=>if_neg (by omega)
   rw[this]at h
   cases h
  ·cases h
 | k + 1, hk => z3e.ok          (G := ⟨gSzT 1048576, gSzGS (k : Int)⟩) ⟨szT_ok 1048577 (by omega), by have := szGS_ok ((k : Int) - 1) (by omega) (szG_ok k (by omega)); rwa [show (k : Int) - 1 + 1 = k by omega] at this, trivial⟩ fun f left r h => by
  unfold gSzG at h
  split at h
  ·rename_i hs
   obtain⟨hf,h0,h1⟩:=hs
   cases h
   refine⟨1,?_⟩
   unfold z3e.main
   rw[Tm.eta]
   have ht:=Sgy.total_eq f
   have e0:gSzT 1048576 f.test left=some (if ((f.test.total:Nat):Int)<=left then left-(f.test.total:Nat)else (-1:Int)):=if_pos ⟨fit_test hf,by omega,by omega⟩
   show Option.bind (gSzT 1048576 f.test left) _=_
   rw[e0,bS]
   by_cases c0:(f.test.total:Int)<=left
   ·have e:gSzGS (k:Int) f.kids (left-f.test.total)=some (if ((sgTot f.kids:Nat):Int)<=left-f.test.total then left-f.test.total-(sgTot f.kids:Nat)else (-1:Int)):=if_pos ⟨fit_kids hf,by omega,by omega⟩
    rw[if_pos c0,dF (by omega),cF]
    show Option.bind (gSzGS (k:Int) f.kids (left-f.test.total)) _=_
    rw[e,bS]
    by_cases c:((sgTot f.kids:Nat):Int)<=left-f.test.total
    ·rw[if_pos c,dF (by omega),cF,if_pos (by omega),show left-(f.test.total:Int)-(sgTot f.kids:Nat)=left-(f.total:Nat) by omega]
    ·rw[if_neg c,if_neg (by omega)];rfl
   ·rw[if_neg c0,if_neg (by omega)];rfl
  ·cases h
def w_Strategy (x:Sgy):Nat:=x.total
theorem szStrategy_all :∃g,EO (z3e.ent g)/\SZ (.n 16) w_Strategy g:=by
 refine⟨gSzG 1048576,?_,λx left ⟨hf,h0,h1⟩=>⟨_,if_pos ⟨hf,h0,h1⟩,rfl⟩⟩
 have:=szG_ok 1048577 (by omega)
 exact this
theorem toStrategy_all :∃g,EO (z3w.ent g)/\TO (.n 16) w_Strategy g:=
 ⟨gToG 1048577,toG_ok _ (by omega),λx ⟨_,h⟩=>⟨x,if_pos (by unfold w_Strategy at h;omega),rfl⟩⟩
theorem eqStrategy_all :∃g,EO (z2c.ent g)/\EQ (.n 16) w_Strategy g:=
 ⟨gEqG 1048577,eqG_ok _ (by omega),λx y ⟨e,_,h⟩=>⟨true,if_pos ⟨e,by unfold w_Strategy at h;omega⟩,rfl⟩⟩
end Go.Proofs.YtkinkfieackmdaaGreat.Den

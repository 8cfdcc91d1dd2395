import Derived.Test.YtagnfckihdlhpaaZRowSP15
namespace Go.Proofs.Ytagnfckihdlhpaa.Den
open Go.RowKit
set_option maxRecDepth 100000
set_option linter.unusedVariables false
namespace s_l1In
structure Gs where
 none_:Unit
noncomputable def ents (_:Gs):List Ent:=[]
noncomputable def main {R:Type} (G:Gs) (n:Nat) (x:Int) (lo:Int) (hi:Int) (K:Bool->Option R):Option R:=
 bif decide (lo<=x)then
  (K (decide (x<=hi)))
 else
  K false
noncomputable def pc (_:Gs) (_:Nat):Pcs:=⟨fun _ _ _ _=>none,fun _ _ _ _=>none,fun _ _ _ _=>none⟩
noncomputable def an:Ann:=⟨15,0,[],[],[6],[],[]⟩
noncomputable abbrev bd:=bodyOf Try.f39
noncomputable def Does (G:Gs) (x:Int) (lo:Int) (hi:Int) (r:Bool):Prop:=∃n,main (R:=AT×List Ob) G n x lo hi (fun r0=>some (.one (.b r0),[]))=some (.one (.b r),[])
theorem ok {G:Gs} (hG:AllE Try.prog (ents G)) {g:Int->Int->Int->Option (Bool)} (hg:∀x lo hi r,g x lo hi=some r->Does G x lo hi r):EntOK Try.prog (ent g):=fun R xs H K r hc=>by
 simp only[ent]at hc
 split at hc
 ·obtain⟨r,j1,j2⟩:=bind_some hc
  obtain⟨n,j3⟩:=hg _ _ _ _ j1
  exact⟨_,_,j2,fnP hG an (pc G n) bd [.tmp 6] Try.func39 (.inl rfl) (apl [] trivial) (.trans (by kernel_rfl) j3)⟩
 ·cases hc
end s_l1In
end Go.Proofs.Ytagnfckihdlhpaa.Den

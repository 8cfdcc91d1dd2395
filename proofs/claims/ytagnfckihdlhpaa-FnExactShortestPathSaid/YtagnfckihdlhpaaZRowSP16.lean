import Derived.Test.YtagnfckihdlhpaaZRowSP15
namespace Go.Proofs.Ytagnfckihdlhpaa.Den
open Go.RowKit
set_option maxRecDepth 100000
set_option linter.unusedVariables false
namespace l_markText
structure Gs where
 none_:Unit
noncomputable def ents (_:Gs):List Ent:=[]
noncomputable def b4 {R:Type} (G:Gs) (n:Nat) (k:Int) (out:ByteArray) (nx:Int->ByteArray->Option R) (k0:ByteArray->Option R):Option R:=
 bif decide (0<k)then
  (
  Option.bind (bif decide (0<=k)&&decide (0<10)then some (k%10)else none) fun q=>
  Option.bind (sCat (sOf [IntKind.wrap .u8 (wr (48+q))]) out) fun q2=>
  Option.bind (bif decide (0<=k)&&decide (0<10)then some (k / 10)else none) fun q3=>
  nx q3 q2
  )
 else
  k0 out
noncomputable def l4 {R:Type} (G:Gs) (n m:Nat) (k:Int) (out:ByteArray) (k0:ByteArray->Option R):Option R:=iter (fun(v:Int×ByteArray) nx=>b4 G n v.1 v.2 (fun y0 y1=>nx (y0,y1)) k0) m (k,out)
noncomputable def main {R:Type} (G:Gs) (n:Nat) (k:Int) (K:ByteArray->Option R):Option R:=
 bif decide (k<=0)then
  (K (ByteArray.mk #[109,48]))
 else
  l4 G n n k ByteArray.empty
   (fun out2 =>
    Option.bind (sCat (ByteArray.mk #[109]) out2) fun q=>
    K q
   )
noncomputable def dl4 (G:Gs) (n m:Nat) (R:Type) (st:St) (K:Kt R):Option R:=match st with
 |⟨[(0,.one (.i k)),(3,.one (.s out))],[]⟩=>l4 G n m k out (fun out2=>K (.exit 0) ⟨[(3,.one (.s out2))],[]⟩)
 |_=>none
noncomputable def pc (G:Gs) (n:Nat):Pcs:=⟨fun R id st K=>bif Nat.beq id 4 then dl4 G n n R st K else none,fun _ _ _ _=>none,fun _ _ _ _=>none⟩
noncomputable def an:Ann:=⟨20,0,[(4,[0,3])],[],[2],[],[]⟩
noncomputable abbrev bd:=bodyOf Try.f81
noncomputable abbrev q4:=nthC [1,1,1,0,0,0] bd
theorem pl4 {G:Gs} (hG:AllE Try.prog (ents G)) (n:Nat):∀m,PieceOK Try.prog an (.loop q4) (dl4 G n m):=lpc hG (pc G n) [0,3] ⟨[3],[2],[(0,[3])]⟩ (apl [] trivial) (fun R st K=>by unfold dl4;split<;>rfl) fun m R st K r h=>by unfold dl4 at h;split at h;exact .trans (by kernel_rfl) h;cases h
noncomputable def Does (G:Gs) (k:Int) (r:ByteArray):Prop:=∃n,main (R:=AT×List Ob) G n k (fun r0=>some (.one (.s r0),[]))=some (.one (.s r),[])
theorem ok {G:Gs} (hG:AllE Try.prog (ents G)) {g:Int->Option (ByteArray)} (hg:∀k r,g k=some r->Does G k r):EntOK Try.prog (ent g):=fun R xs H K r hc=>by
 simp only[ent]at hc
 split at hc
 ·obtain⟨r,j1,j2⟩:=bind_some hc
  obtain⟨n,j3⟩:=hg _ _ j1
  exact⟨_,_,j2,fnP hG an (pc G n) bd [.tmp 2] Try.func81 (.inl rfl) (apl [(1,4,.loop q4)] ⟨pl4 hG n n,trivial⟩) (.trans (by kernel_rfl) j3)⟩
 ·cases hc
end l_markText
end Go.Proofs.Ytagnfckihdlhpaa.Den

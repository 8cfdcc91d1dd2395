import Derived.Test.YtfdkldmkbibknaaGreatZRowTx12
namespace Go.Proofs.YtfdkldmkbibknaaGreat.Den
open Go.RowKit
set_option maxRecDepth 100000
set_option linter.unusedVariables false
namespace z0l
structure Gs where
 z0l:z0l.Q
 strings_Join:strings_Join.Q
noncomputable def ac (G:Gs):List Ent:=[ent G.z0l,strings_Join.ent G.strings_Join]
noncomputable def b8 {R:Type} (G:Gs) (n:Nat) (xc xd xe:LI) (xa:LB) (xb:LS) (xg:LO) (name:ByteArray) (t43:LT) (t44 t45:Int) (h1:LM) (h2:LB) (nx:Int->LM->LB->Option R) (k0:LM->LB->Option R):Option R:=
 bif decide (t45<t44)then
  (
  (ix t43 t45).bind λe=>
  (G.z0l xc xd xe xa xb xg h1 (Tm.mk e.op e.name e.sort e.args)).bind λr=>
  (lim (h2++[r.1])).bind λzs=>
  nx (wr (t45+1)) r.2 zs
  )
 else
  k0 h1 h2
noncomputable def l8 {R:Type} (G:Gs) (n m:Nat) (xc xd xe:LI) (xa:LB) (xb:LS) (xg:LO) (name:ByteArray) (t43:LT) (t44 t45:Int) (h1:LM) (h2:LB) (k0:LM->LB->Option R):Option R:=aB (λ(v:Int×LM×LB) nx=>b8 G n xc xd xe xa xb xg name t43 t44 v.1 v.2.1 v.2.2 (λy0 y1 y2=>nx (y0,y1,y2)) k0) m (t45,h1,h2)
noncomputable def main {R:Type} (G:Gs) (n:Nat) (xc xd xe:LI) (xa:LB) (xb:LS) (xg:LO) (xf:LM) (t:Tm) (K:ByteArray->LM->Option R):Option R:=
 bif decide (t.op<0)then
  (
  (cQ t.name (ByteArray.mk #[58])).bind λq2=>
  (ix xa t.sort).bind λe2=>
  (cQ q2 e2).bind λq4=>
  K q4 xf
  )
 else
  (ix xg t.op).bind λe4=>
  bif decide ((List.length t.args:Int)=0)then
   (K e4.name xf)
  else
   l8 G n n xc xd xe xa xb xg e4.name t.args (List.length t.args:Int) 0 xf []
    (fun h12 h22 =>
     (cQ e4.name (ByteArray.mk #[40])).bind λq5=>
     (G.strings_Join h22 (ByteArray.mk #[44,32])).bind λr=>
     (cQ q5 r).bind λq6=>
     (cQ q6 (ByteArray.mk #[41])).bind λq7=>
     K q7 h12
    )
noncomputable def dl8 (G:Gs) (n m:Nat) (R:Type) (st:St) (K:Kt R):Option R:=match st with
 |⟨[(0,.one (.p 0 0)),(5,.one (.s name)),(6,.one (.o 2)),(43,.one (.l (.n 1) t43)),(44,.one (.i t44)),(45,.one (.i t45))],[.box [.l .i xc,.l .i xd,.l .i xe,.l .s xa,.l (.n 5) xb,.l (.n 8) xg,.m 1],.map .i h1,.row .s 0 h2]⟩=>l8 G n m xc xd xe xa xb xg name t43 t44 t45 h1 h2 (λh12 h22=>K (.exit 0) ⟨[(5,.one (.s name)),(6,.one (.o 2))],[.box [.l .i xc,.l .i xd,.l .i xe,.l .s xa,.l (.n 5) xb,.l (.n 8) xg,.m 1],.map .i h12,.row .s 0 h22]⟩)
 |_=>none
noncomputable def pc (G:Gs) (n:Nat):Pcs:=⟨λR id st K=>bif Nat.beq id 8 then dl8 G n n R st K else none,nK,nK⟩
noncomputable def an:Ann:=⟨62,2,[(8,[0,5,6,43,44,45])],[],[4],[(2,⟨[([0,1,2,3,4,5,6,7,8,9,10,11,12,13,14],[],[])],[],[],[0,1,2],[]⟩),(3,⟨[([0,1,2,3,4,5,6,7,8,9,10],[],[])],[],[],[0,1,2],[]⟩)],[]⟩
noncomputable abbrev bd:=aj Tryz.f39
noncomputable abbrev q8:=ak [1,1,1,1,1,0,1,0,0] bd
theorem pl8 {G:Gs} (hG:AE (ac G)) (n:Nat):∀m,PO an (.loop q8) (dl8 G n m):=lpc hG (pc G n) [0,5,6,43,44,45] ⟨[5,6],[4],[(0,[5,6])]⟩ (apl [] trivial) (λR st K=>by unfold dl8;split<;>rfl) λm R st K r h=>by unfold dl8 at h;split at h;exact .trans (by kernel_rfl) h;cases h
theorem ok {G:Gs} (hG:AE (ac G)) {g:Q} (hg:∀xc xd xe xa xb xg xf t r,g xc xd xe xa xb xg xf t=some r->∃n,main (R:=AT×List Ob) G n xc xd xe xa xb xg xf t (λr0 r1=>some (.one (.s r0),[.box [.l .i xc,.l .i xd,.l .i xe,.l .s xa,.l (.n 5) xb,.l (.n 8) xg,.m 1],.map .i r1]))=some (.one (.s r.1),[.box [.l .i xc,.l .i xd,.l .i xe,.l .s xa,.l (.n 5) xb,.l (.n 8) xg,.m 1],.map .i r.2])):EO (ent g):=λR xs H K r hc=>by
 simp only[ent]at hc;split at hc
 ·exact okL hc λr j=>let⟨n,j⟩:=hg _ _ _ _ _ _ _ _ _ j;fF hG an (pc G n) Tryz.func39 j (apl [(1,8,.loop q8)] ⟨pl8 hG n n,trivial⟩)
 ·cases hc
end z0l
namespace z08
structure Gs where
 z11:z11.Q
 z0m:z0m.Q
 z0l:z0l.Q
noncomputable def main {R:Type} (G:Gs) (n:Nat) (s:Sg) (t:Tm) (K:ByteArray->Option R):Option R:=
 (G.z11 s).bind λr=>
 sj    r
  (
   K ByteArray.empty
  )
  (fun q =>
   (G.z0m q.1 q.2.1 q.2.2.1 q.2.2.2.1 q.2.2.2.2.1 q.2.2.2.2.2.1 q.2.2.2.2.2.2 (Tm.mk t.op t.name t.sort t.args)).bind λr2=>
   bif !r2.1 then
    (K ByteArray.empty)
   else
    (G.z0l q.1 q.2.1 q.2.2.1 q.2.2.2.1 q.2.2.2.2.1 q.2.2.2.2.2.1 r2.2 (Tm.mk t.op t.name t.sort t.args)).bind λr3=>
    K r3.1
  )
theorem ok {G:Gs} (hG:AE [z11.ent G.z11,z0m.ent G.z0m,z0l.ent G.z0l]) {g:Q} (hg:∀s t r,g s t=some r->∃n,main (R:=AT×List Ob) G n s t (λr0=>some (.one (.s r0),[]))=some (.one (.s r),[])):EO (ent g):=λR xs H K r hc=>by
 simp only[ent]at hc;split at hc
 ·exact okL hc λr j=>let⟨_,j⟩:=hg _ _ _ j;fF hG ⟨23,0,[],[],[4],[],[]⟩ nP Tryz.func16 j
 ·cases hc
end z08
end Go.Proofs.YtfdkldmkbibknaaGreat.Den

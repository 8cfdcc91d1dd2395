import Derived.Test.YtfdkldmkbibknaaGreatZRowTx12
namespace Go.Proofs.YtfdkldmkbibknaaGreat.Den
open Go.RowKit
set_option maxRecDepth 100000
set_option linter.unusedVariables false
namespace z4m
structure Gs where
 none_:Unit
noncomputable def ac (_:Gs):List Ent:=[]
noncomputable def b0 {R:Type} (G:Gs) (n:Nat) (xa:LB) (xb:LS) (xc:LO) (xf:ByteArray) (xd:Bool) (h0:Int) (nx k0:Int->Option R):Option R:=
 bif decide (h0<(ByteArray.size xf:Int))then
  (
  (sIx xf h0).bind λb2=>
  bif decide (b2=32)then
   (nx (wr (h0+1)))
  else
   k0 h0
  )
 else
  k0 h0
noncomputable def l0 {R:Type} (G:Gs) (n m:Nat) (xa:LB) (xb:LS) (xc:LO) (xf:ByteArray) (xd:Bool) (h0:Int) (k0:Int->Option R):Option R:=aB (λ(v:Int) nx=>b0 G n xa xb xc xf xd v (λy0=>nx y0) k0) m h0
noncomputable def main {R:Type} (G:Gs) (n:Nat) (xa:LB) (xb:LS) (xc:LO) (xf:ByteArray) (xe:Int) (xd:Bool) (K:Int->Option R):Option R:=
 l0 G n n xa xb xc xf xd xe
  (λh02=>K h02)
noncomputable def dl0 (G:Gs) (n m:Nat) (R:Type) (st:St) (K:Kt R):Option R:=match st with
 |⟨[(0,.one (.p 0 0))],[.box [.l .s xa,.l (.n 5) xb,.l (.n 8) xc,.s xf,.i h0,.b xd]]⟩=>l0 G n m xa xb xc xf xd h0 (λh02=>K (.exit 0) ⟨[],[.box [.l .s xa,.l (.n 5) xb,.l (.n 8) xc,.s xf,.i h02,.b xd]]⟩)
 |_=>none
noncomputable def pc (G:Gs) (n:Nat):Pcs:=⟨λR id st K=>bif Nat.beq id 0 then dl0 G n n R st K else none,nK,nK⟩
noncomputable def an:Ann:=⟨31,1,[(0,[0])],[],[],[(0,⟨[([0,1,2,3,4,5,6,7,8,9,10,11,12,13,14,15,16,17,18,19,20,21],[],[])],[],[],[0],[]⟩)],[]⟩
noncomputable abbrev bd:=aj Tryz.f23
noncomputable abbrev q0:=ak [0,0] bd
theorem pl0 {G:Gs} (hG:AE (ac G)) (n:Nat):∀m,PO an (.loop q0) (dl0 G n m):=lpc hG (pc G n) [0] ⟨[],[],[(0,[])]⟩ (apl [] trivial) (λR st K=>by unfold dl0;split<;>rfl) λm R st K r h=>by unfold dl0 at h;split at h;exact .trans (by kernel_rfl) h;cases h
theorem ok {G:Gs} (hG:AE (ac G)) {g:Q} (hg:∀xa xb xc xf xe xd r,g xa xb xc xf xe xd=some r->∃n,main (R:=AT×List Ob) G n xa xb xc xf xe xd (λr0=>some (.tup [],[.box [.l .s xa,.l (.n 5) xb,.l (.n 8) xc,.s xf,.i r0,.b xd]]))=some (.tup [],[.box [.l .s xa,.l (.n 5) xb,.l (.n 8) xc,.s xf,.i r,.b xd]])):EO (ent g):=λR xs H K r hc=>by
 simp only[ent]at hc;split at hc
 ·exact okL hc λr j=>let⟨n,j⟩:=hg _ _ _ _ _ _ _ j;fF hG an (pc G n) Tryz.func23 j (apl [(1,0,.loop q0)] ⟨pl0 hG n n,trivial⟩)
 ·cases hc
end z4m
namespace z4k
structure Gs where
 z4m:z4m.Q
 z2s:z2s.Q
noncomputable def ac (G:Gs):List Ent:=[z4m.ent G.z4m,z2s.ent G.z2s]
noncomputable def b3 {R:Type} (G:Gs) (n:Nat) (xa:LB) (xb:LS) (xc:LO) (xf:ByteArray) (xd:Bool) (from1 h0:Int) (nx k0:Int->Option R):Option R:=
 bif decide (h0<(ByteArray.size xf:Int))then
  (
  (nn xf h0 (wr (h0+1))).bind λq2=>
  (cQ (ByteArray.mk #[120]) q2).bind λq4=>
  (G.z2s q4).bind λr2=>
  bif r2 then
   (nx (wr (h0+1)))
  else
   k0 h0
  )
 else
  k0 h0
noncomputable def l3 {R:Type} (G:Gs) (n m:Nat) (xa:LB) (xb:LS) (xc:LO) (xf:ByteArray) (xd:Bool) (from1 h0:Int) (k0:Int->Option R):Option R:=aB (λ(v:Int) nx=>b3 G n xa xb xc xf xd from1 v (λy0=>nx y0) k0) m h0
noncomputable def main {R:Type} (G:Gs) (n:Nat) (xa:LB) (xb:LS) (xc:LO) (xf:ByteArray) (xe:Int) (xd:Bool) (K:ByteArray->Int->Option R):Option R:=
 (G.z4m xa xb xc xf xe xd).bind λr=>
 l3 G n n xa xb xc xf xd r r
  (fun h02 =>
   (nn xf r h02).bind λq2=>
   K q2 h02
  )
noncomputable def dl3 (G:Gs) (n m:Nat) (R:Type) (st:St) (K:Kt R):Option R:=match st with
 |⟨[(0,.one (.p 0 0)),(3,.one (.i from1))],[.box [.l .s xa,.l (.n 5) xb,.l (.n 8) xc,.s xf,.i h0,.b xd]]⟩=>l3 G n m xa xb xc xf xd from1 h0 (λh02=>K (.exit 0) ⟨[(0,.one (.p 0 0)),(3,.one (.i from1))],[.box [.l .s xa,.l (.n 5) xb,.l (.n 8) xc,.s xf,.i h02,.b xd]]⟩)
 |_=>none
noncomputable def pc (G:Gs) (n:Nat):Pcs:=⟨λR id st K=>bif Nat.beq id 3 then dl3 G n n R st K else none,nK,nK⟩
noncomputable def an:Ann:=⟨55,1,[(3,[0,3])],[],[2],[(3,⟨[([0,1,2,3,4,5,6,7,8,9,10,11,12,13,14,15,16,17,18,19,20,21,22,23,24,25,26,27],[],[])],[],[],[0],[]⟩),(5,⟨[([0,1,2,3,4,5,6,7,8,9,10],[],[])],[],[],[0],[]⟩)],[]⟩
noncomputable abbrev bd:=aj Tryz.f50
noncomputable abbrev q3:=ak [1,1,1,0,0,0] bd
theorem pl3 {G:Gs} (hG:AE (ac G)) (n:Nat):∀m,PO an (.loop q3) (dl3 G n m):=lpc hG (pc G n) [0,3] ⟨[0,3],[2],[(0,[0,3])]⟩ (apl [] trivial) (λR st K=>by unfold dl3;split<;>rfl) λm R st K r h=>by unfold dl3 at h;split at h;exact .trans (by kernel_rfl) h;cases h
theorem ok {G:Gs} (hG:AE (ac G)) {g:Q} (hg:∀xa xb xc xf xe xd r,g xa xb xc xf xe xd=some r->∃n,main (R:=AT×List Ob) G n xa xb xc xf xe xd (λr0 r1=>some (.one (.s r0),[.box [.l .s xa,.l (.n 5) xb,.l (.n 8) xc,.s xf,.i r1,.b xd]]))=some (.one (.s r.1),[.box [.l .s xa,.l (.n 5) xb,.l (.n 8) xc,.s xf,.i r.2,.b xd]])):EO (ent g):=λR xs H K r hc=>by
 simp only[ent]at hc;split at hc
 ·exact okL hc λr j=>let⟨n,j⟩:=hg _ _ _ _ _ _ _ j;fF hG an (pc G n) Tryz.func50 j (apl [(1,3,.loop q3)] ⟨pl3 hG n n,trivial⟩)
 ·cases hc
end z4k
namespace z4j
structure Gs where
 none_:Unit
noncomputable def ac (_:Gs):List Ent:=[]
noncomputable def b2 {R:Type} (G:Gs) (n:Nat) (list:LB) (name:ByteArray) (i:Int) (nx k0:Int->Option R) (k1:Option R):Option R:=
 bif decide (i<(List.length list:Int))then
  (
  (ix list i).bind λe=>
  bif sEq e name then
   (k0 i)
  else
   nx (wr (i+1))
  )
 else
  k1
noncomputable def l2 {R:Type} (G:Gs) (n m:Nat) (list:LB) (name:ByteArray) (i:Int) (k0:Int->Option R) (k1:Option R):Option R:=aB (λ(v:Int) nx=>b2 G n list name v (λy0=>nx y0) k0 k1) m i
noncomputable def main {R:Type} (G:Gs) (n:Nat) (list:LB) (name:ByteArray) (K:Int->Option R):Option R:=
 l2 G n n list name 0
  (λt4=>K t4)
  (K (-1))
noncomputable def dl2 (G:Gs) (n m:Nat) (R:Type) (st:St) (K:Kt R):Option R:=match st with
 |⟨[(0,.one (.l .s list)),(1,.one (.s name)),(5,.one (.i i))],[]⟩=>l2 G n m list name i (λt4=>K .ret ⟨[(4,.one (.i t4))],[]⟩) (K (.exit 0) ⟨[],[]⟩)
 |_=>none
noncomputable def pc (G:Gs) (n:Nat):Pcs:=⟨λR id st K=>bif Nat.beq id 2 then dl2 G n n R st K else none,nK,nK⟩
noncomputable def an:Ann:=⟨19,0,[(2,[0,1,5])],[],[4],[],[]⟩
noncomputable abbrev bd:=aj Tryz.f52
noncomputable abbrev q2:=ak [1,0,1,0,0] bd
theorem pl2 {G:Gs} (hG:AE (ac G)) (n:Nat):∀m,PO an (.loop q2) (dl2 G n m):=lpc hG (pc G n) [0,1,5] ⟨[],[4],[(0,[])]⟩ (apl [] trivial) (λR st K=>by unfold dl2;split<;>rfl) λm R st K r h=>by unfold dl2 at h;split at h;exact .trans (by kernel_rfl) h;cases h
theorem ok {G:Gs} (hG:AE (ac G)) {g:Q} (hg:∀list name r,g list name=some r->∃n,main (R:=AT×List Ob) G n list name (λr0=>some (.one (.i r0),[]))=some (.one (.i r),[])):EO (ent g):=λR xs H K r hc=>by
 simp only[ent]at hc;split at hc
 ·exact okL hc λr j=>let⟨n,j⟩:=hg _ _ _ j;fF hG an (pc G n) Tryz.func52 j (apl [(1,2,.loop q2)] ⟨pl2 hG n n,trivial⟩)
 ·cases hc
end z4j
namespace z4l
noncomputable abbrev bd:=aj Tryz.f22
noncomputable abbrev q3:=ak [1,1,0,1,0] bd
noncomputable abbrev q6:=ak [1,1,1,0,1,0,0] bd
noncomputable abbrev q8:=ak [1,1,1,0,1,0,1,1] bd
noncomputable abbrev q11:=ak [1,1,1,1,1,0,1,0,0] bd
noncomputable abbrev q17:=ak [1,1,1,1,1,1,1,0,1,0,0,0] bd
noncomputable abbrev q21:=ak [1,1,1,1,1,1,1,1] bd
end z4l
end Go.Proofs.YtfdkldmkbibknaaGreat.Den

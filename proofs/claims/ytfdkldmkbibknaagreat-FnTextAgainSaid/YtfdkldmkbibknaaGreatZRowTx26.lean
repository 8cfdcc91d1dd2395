/-
  Texts that the claim rests on, merged: PI4, Txt1, Txt2, Rd1, Rd2, Rd3, Rd4, PTf, TxA.
-/
import Derived.Test.YtfdkldmkbibknaaGreatZRowTx12
import Derived.Test.YtfdkldmkbibknaaGreatZRowTx22
import Derived.Test.YtfdkldmkbibknaaGreatZRowTx23
import Derived.Test.YtfdkldmkbibknaaGreatZRowTx24
import Derived.Test.YtfdkldmkbibknaaGreatZRowTx25

namespace Go.Proofs.YtfdkldmkbibknaaGreat.Den
open Go.RowKit
set_option maxRecDepth 100000
set_option linter.unusedVariables false
namespace z17
structure Gs where
 none_:Unit
noncomputable def ac (_:Gs):List Ent:=[]
noncomputable def b0 {R:Type} (G:Gs) (n:Nat) (xh:ByteArray) (xc xd xe:LI) (xa:LB) (xb:LS) (xf:LO) (h2:LM) (h0:Int) (nx k0:Int->Option R):Option R:=
 bif decide (h0<(ByteArray.size xh:Int))then
  (
  (sIx xh h0).bind λb2=>
  bif decide (b2=32)then
   (nx (wr (h0+1)))
  else
   k0 h0
  )
 else
  k0 h0
noncomputable def l0 {R:Type} (G:Gs) (n m:Nat) (xh:ByteArray) (xc xd xe:LI) (xa:LB) (xb:LS) (xf:LO) (h2:LM) (h0:Int) (k0:Int->Option R):Option R:=aB (λ(v:Int) nx=>b0 G n xh xc xd xe xa xb xf h2 v (λy0=>nx y0) k0) m h0
noncomputable def main {R:Type} (G:Gs) (n:Nat) (xc xd xe:LI) (xa:LB) (xb:LS) (xf:LO) (xg:LM) (xh:ByteArray) (xi:Int) (K:Int->LM->Option R):Option R:=
 l0 G n n xh xc xd xe xa xb xf xg xi
  (λh02=>K h02 xg)
noncomputable def dl0 (G:Gs) (n m:Nat) (R:Type) (st:St) (K:Kt R):Option R:=match st with
 |⟨[(0,.one (.p 0 0))],[.box [.p 1 0,.s xh,.i h0],.box [.l .i xc,.l .i xd,.l .i xe,.l .s xa,.l (.n 5) xb,.l (.n 8) xf,.m 2],.map .i h2]⟩=>l0 G n m xh xc xd xe xa xb xf h2 h0 (λh02=>K (.exit 0) ⟨[],[.box [.p 1 0,.s xh,.i h02],.box [.l .i xc,.l .i xd,.l .i xe,.l .s xa,.l (.n 5) xb,.l (.n 8) xf,.m 2],.map .i h2]⟩)
 |_=>none
noncomputable def pc (G:Gs) (n:Nat):Pcs:=⟨λR id st K=>bif Nat.beq id 0 then dl0 G n n R st K else none,nK,nK⟩
noncomputable def an:Ann:=⟨31,3,[(0,[0])],[],[],[(0,⟨[([0,1,2,3,4,5,6,7,8,9,10,11,12,13,14,15,16,17,18,19,20,21],[],[])],[],[],[0,1,2],[]⟩)],[]⟩
noncomputable abbrev bd:=aj Tryz.f28
noncomputable abbrev q0:=ak [0,0] bd
theorem pl0 {G:Gs} (hG:AE (ac G)) (n:Nat):∀m,PO an (.loop q0) (dl0 G n m):=lpc hG (pc G n) [0] ⟨[],[],[(0,[])]⟩ (apl [] trivial) (λR st K=>by unfold dl0;split<;>rfl) λm R st K r h=>by unfold dl0 at h;split at h;exact .trans (by kernel_rfl) h;cases h
theorem ok {G:Gs} (hG:AE (ac G)) {g:Q} (hg:∀xc xd xe xa xb xf xg xh xi r,g xc xd xe xa xb xf xg xh xi=some r->∃n,main (R:=AT×List Ob) G n xc xd xe xa xb xf xg xh xi (λr0 r1=>some (.tup [],[.box [.p 1 0,.s xh,.i r0],.box [.l .i xc,.l .i xd,.l .i xe,.l .s xa,.l (.n 5) xb,.l (.n 8) xf,.m 2],.map .i r1]))=some (.tup [],[.box [.p 1 0,.s xh,.i r.1],.box [.l .i xc,.l .i xd,.l .i xe,.l .s xa,.l (.n 5) xb,.l (.n 8) xf,.m 2],.map .i r.2])):EO (ent g):=λR xs H K r hc=>by
 simp only[ent]at hc;split at hc
 ·exact okL hc λr j=>let⟨n,j⟩:=hg _ _ _ _ _ _ _ _ _ _ j;fF hG an (pc G n) Tryz.func28 j (apl [(1,0,.loop q0)] ⟨pl0 hG n n,trivial⟩)
 ·cases hc
end z17
namespace z15
structure Gs where
 z17:z17.Q
noncomputable def main {R:Type} (G:Gs) (n:Nat) (xc xd xe:LI) (xa:LB) (xb:LS) (xf:LO) (xg:LM) (xh:ByteArray) (xi c:Int) (K:Bool->Int->LM->Option R):Option R:=
 (G.z17 xc xd xe xa xb xf xg xh xi).bind λr=>
 bif decide (r.1<(ByteArray.size xh:Int))then
  (
  (sIx xh r.1).bind λb2=>
  bif decide (b2=c)then
   (K true (wr (r.1+1)) r.2)
  else
   K false r.1 r.2
  )
 else
  K false r.1 r.2
theorem ok {G:Gs} (hG:AE [z17.ent G.z17]) {g:Q} (hg:∀xc xd xe xa xb xf xg xh xi c r,g xc xd xe xa xb xf xg xh xi c=some r->∃n,main (R:=AT×List Ob) G n xc xd xe xa xb xf xg xh xi c (λr0 r1 r2=>some (.one (.b r0),[.box [.p 1 0,.s xh,.i r1],.box [.l .i xc,.l .i xd,.l .i xe,.l .s xa,.l (.n 5) xb,.l (.n 8) xf,.m 2],.map .i r2]))=some (.one (.b r.1),[.box [.p 1 0,.s xh,.i r.2.1],.box [.l .i xc,.l .i xd,.l .i xe,.l .s xa,.l (.n 5) xb,.l (.n 8) xf,.m 2],.map .i r.2.2])):EO (ent g):=λR xs H K r hc=>by
 simp only[ent]at hc;split at hc
 ·exact okL hc λr j=>let⟨_,j⟩:=hg _ _ _ _ _ _ _ _ _ _ _ j;fF hG ⟨37,3,[],[],[4],[(2,⟨[([0,1,2,3,4,5,6,7,8,9,10,11,12,13,14,15,16,17,18,19,20,21,22],[],[])],[],[],[0,1,2],[]⟩)],[]⟩ nP Tryz.func62 j
 ·cases hc
end z15
namespace z16
structure Gs where
 z17:z17.Q
 z0z:z0z.Q
noncomputable def ac (G:Gs):List Ent:=[z17.ent G.z17,z0z.ent G.z0z]
noncomputable def b3 {R:Type} (G:Gs) (n:Nat) (xh:ByteArray) (xc xd xe:LI) (xa:LB) (xb:LS) (xf:LO) (from1:Int) (h2:LM) (h0:Int) (nx k0:Int->Option R):Option R:=
 bif decide (h0<(ByteArray.size xh:Int))then
  (
  (sIx xh h0).bind λb2=>
  (G.z0z b2).bind λr2=>
  bif r2 then
   (nx (wr (h0+1)))
  else
   k0 h0
  )
 else
  k0 h0
noncomputable def l3 {R:Type} (G:Gs) (n m:Nat) (xh:ByteArray) (xc xd xe:LI) (xa:LB) (xb:LS) (xf:LO) (from1:Int) (h2:LM) (h0:Int) (k0:Int->Option R):Option R:=aB (λ(v:Int) nx=>b3 G n xh xc xd xe xa xb xf from1 h2 v (λy0=>nx y0) k0) m h0
noncomputable def main {R:Type} (G:Gs) (n:Nat) (xc xd xe:LI) (xa:LB) (xb:LS) (xf:LO) (xg:LM) (xh:ByteArray) (xi:Int) (K:ByteArray->Int->LM->Option R):Option R:=
 (G.z17 xc xd xe xa xb xf xg xh xi).bind λr=>
 l3 G n n xh xc xd xe xa xb xf r.1 r.2 r.1
  (fun h02 =>
   (nn xh r.1 h02).bind λq2=>
   K q2 h02 r.2
  )
noncomputable def dl3 (G:Gs) (n m:Nat) (R:Type) (st:St) (K:Kt R):Option R:=match st with
 |⟨[(0,.one (.p 0 0)),(3,.one (.i from1))],[.box [.p 1 0,.s xh,.i h0],.box [.l .i xc,.l .i xd,.l .i xe,.l .s xa,.l (.n 5) xb,.l (.n 8) xf,.m 2],.map .i h2]⟩=>l3 G n m xh xc xd xe xa xb xf from1 h2 h0 (λh02=>K (.exit 0) ⟨[(0,.one (.p 0 0)),(3,.one (.i from1))],[.box [.p 1 0,.s xh,.i h02],.box [.l .i xc,.l .i xd,.l .i xe,.l .s xa,.l (.n 5) xb,.l (.n 8) xf,.m 2],.map .i h2]⟩)
 |_=>none
noncomputable def pc (G:Gs) (n:Nat):Pcs:=⟨λR id st K=>bif Nat.beq id 3 then dl3 G n n R st K else none,nK,nK⟩
noncomputable def an:Ann:=⟨49,3,[(3,[0,3])],[],[2],[(3,⟨[([0,1,2,3,4,5,6,7,8,9,10,11,12,13,14,15,16,17,18,19,20,21],[],[])],[],[],[0,1,2],[]⟩),(5,⟨[([0,1,2,3,4,5,6,7,8,9,10],[],[])],[],[],[0,1,2],[]⟩)],[]⟩
noncomputable abbrev bd:=aj Tryz.f61
noncomputable abbrev q3:=ak [1,1,1,0,0,0] bd
theorem pl3 {G:Gs} (hG:AE (ac G)) (n:Nat):∀m,PO an (.loop q3) (dl3 G n m):=lpc hG (pc G n) [0,3] ⟨[0,3],[2],[(0,[0,3])]⟩ (apl [] trivial) (λR st K=>by unfold dl3;split<;>rfl) λm R st K r h=>by unfold dl3 at h;split at h;exact .trans (by kernel_rfl) h;cases h
theorem ok {G:Gs} (hG:AE (ac G)) {g:Q} (hg:∀xc xd xe xa xb xf xg xh xi r,g xc xd xe xa xb xf xg xh xi=some r->∃n,main (R:=AT×List Ob) G n xc xd xe xa xb xf xg xh xi (λr0 r1 r2=>some (.one (.s r0),[.box [.p 1 0,.s xh,.i r1],.box [.l .i xc,.l .i xd,.l .i xe,.l .s xa,.l (.n 5) xb,.l (.n 8) xf,.m 2],.map .i r2]))=some (.one (.s r.1),[.box [.p 1 0,.s xh,.i r.2.1],.box [.l .i xc,.l .i xd,.l .i xe,.l .s xa,.l (.n 5) xb,.l (.n 8) xf,.m 2],.map .i r.2.2])):EO (ent g):=λR xs H K r hc=>by
 simp only[ent]at hc;split at hc
 ·exact okL hc λr j=>let⟨n,j⟩:=hg _ _ _ _ _ _ _ _ _ _ j;fF hG an (pc G n) Tryz.func61 j (apl [(1,3,.loop q3)] ⟨pl3 hG n n,trivial⟩)
 ·cases hc
end z16
namespace z4r
structure Gs where
 none_:Unit
noncomputable def ac (_:Gs):List Ent:=[]
noncomputable def b2 {R:Type} (G:Gs) (n:Nat) (s:LB) (v2:ByteArray) (t7 t8:Int) (nx k0:Int->Option R) (k1:Option R):Option R:=
 bif decide (t8<t7)then
  (
  (ix s t8).bind λe=>
  bif sEq v2 e then
   (k0 t8)
  else
   nx (wr (t8+1))
  )
 else
  k1
noncomputable def l2 {R:Type} (G:Gs) (n m:Nat) (s:LB) (v2:ByteArray) (t7 t8:Int) (k0:Int->Option R) (k1:Option R):Option R:=aB (λ(v:Int) nx=>b2 G n s v2 t7 v (λy0=>nx y0) k0 k1) m t8
noncomputable def main {R:Type} (G:Gs) (n:Nat) (s:LB) (v2:ByteArray) (K:Int->Option R):Option R:=
 l2 G n n s v2 (List.length s:Int) 0
  (λt4=>K t4)
  (K (-1))
noncomputable def dl2 (G:Gs) (n m:Nat) (R:Type) (st:St) (K:Kt R):Option R:=match st with
 |⟨[(0,.one (.l .s s)),(1,.one (.s v2)),(7,.one (.i t7)),(8,.one (.i t8))],[]⟩=>l2 G n m s v2 t7 t8 (λt4=>K .ret ⟨[(4,.one (.i t4))],[]⟩) (K (.exit 0) ⟨[],[]⟩)
 |_=>none
noncomputable def pc (G:Gs) (n:Nat):Pcs:=⟨λR id st K=>bif Nat.beq id 2 then dl2 G n n R st K else none,nK,nK⟩
noncomputable def an:Ann:=⟨19,0,[(2,[0,1,7,8])],[],[4],[],[]⟩
noncomputable abbrev bd:=aj Tryz.f63
noncomputable abbrev q2:=ak [1,0,1,0,0] bd
theorem pl2 {G:Gs} (hG:AE (ac G)) (n:Nat):∀m,PO an (.loop q2) (dl2 G n m):=lpc hG (pc G n) [0,1,7,8] ⟨[],[4],[(0,[])]⟩ (apl [] trivial) (λR st K=>by unfold dl2;split<;>rfl) λm R st K r h=>by unfold dl2 at h;split at h;exact .trans (by kernel_rfl) h;cases h
noncomputable def Does (G:Gs) (s:LB) (v2:ByteArray) (r:Int):Prop:=∃n,main (R:=AT×List Ob) G n s v2 (λr0=>some (.one (.i r0),[]))=some (.one (.i r),[])
theorem ok {G:Gs} (hG:AE (ac G)) {g:Q} (hg:∀s v2 r,g s v2=some r->Does G s v2 r):EO (ent g):=λR xs H K r hc=>by
 simp only[ent]at hc;split at hc
 ·exact okL hc λr j=>let⟨n,j⟩:=hg _ _ _ j;fF hG an (pc G n) Tryz.func63 j (apl [(1,2,.loop q2)] ⟨pl2 hG n n,trivial⟩)
 ·cases hc
end z4r
namespace z19
structure Gs where
 none_:Unit
noncomputable def main {R:Type} (G:Gs) (n:Nat) (o:Opr) (c0:ByteArray) (K:Bool->Option R):Option R:=
 K (sEq o.name c0)
theorem ok {G:Gs} (hG:AE []) {g:Q} (hg:∀o c0 r,g o c0=some r->∃n,main (R:=AT×List Ob) G n o c0 (λr0=>some (.one (.b r0),[.box [.s c0]]))=some (.one (.b r),[.box [.s c0]])):EO (ent g):=λR xs H K r hc=>by
 simp only[ent]at hc;split at hc
 ·exact okL hc λr j=>let⟨_,j⟩:=hg _ _ _ j;fF hG ⟨8,1,[],[],[3],[],[]⟩ nP Tryz.func66 j
 ·cases hc
end z19
namespace z4q
structure Gs where
 z19:z19.Q
noncomputable def ac (G:Gs):List Ent:=[z19.ent G.z19]
noncomputable def b2 {R:Type} (G:Gs) (n:Nat) (fc:ByteArray) (s:LO) (t7 t8:Int) (nx k0:Int->Option R) (k1:Option R):Option R:=
 bif decide (t8<t7)then
  (
  (ix s t8).bind λe=>
  (G.z19 e fc).bind λr=>
  bif r then
   (k0 t8)
  else
   nx (wr (t8+1))
  )
 else
  k1
noncomputable def l2 {R:Type} (G:Gs) (n m:Nat) (fc:ByteArray) (s:LO) (t7 t8:Int) (k0:Int->Option R) (k1:Option R):Option R:=aB (λ(v:Int) nx=>b2 G n fc s t7 v (λy0=>nx y0) k0 k1) m t8
noncomputable def main {R:Type} (G:Gs) (n:Nat) (s:LO) (fc:ByteArray) (K:Int->Option R):Option R:=
 l2 G n n fc s (List.length s:Int) 0
  (λt4=>K t4)
  (K (-1))
noncomputable def dl2 (G:Gs) (n m:Nat) (R:Type) (st:St) (K:Kt R):Option R:=match st with
 |⟨[(0,.one (.l (.n 8) s)),(1,.one (.f 66 [.p 0 0])),(7,.one (.i t7)),(8,.one (.i t8))],[.box [.s fc]]⟩=>l2 G n m fc s t7 t8 (λt4=>K .ret ⟨[(4,.one (.i t4))],[.box [.s fc]]⟩) (K (.exit 0) ⟨[],[.box [.s fc]]⟩)
 |_=>none
noncomputable def pc (G:Gs) (n:Nat):Pcs:=⟨λR id st K=>bif Nat.beq id 2 then dl2 G n n R st K else none,nK,nK⟩
noncomputable def an:Ann:=⟨19,1,[(2,[0,1,7,8])],[],[4],[],[]⟩
noncomputable abbrev bd:=aj Tryz.f65
noncomputable abbrev q2:=ak [1,0,1,0,0] bd
theorem pl2 {G:Gs} (hG:AE (ac G)) (n:Nat):∀m,PO an (.loop q2) (dl2 G n m):=lpc hG (pc G n) [0,1,7,8] ⟨[],[4],[(0,[])]⟩ (apl [] trivial) (λR st K=>by unfold dl2;split<;>rfl) λm R st K r h=>by unfold dl2 at h;split at h;exact .trans (by kernel_rfl) h;cases h
noncomputable def Does (G:Gs) (s:LO) (fc:ByteArray) (r:Int):Prop:=∃n,main (R:=AT×List Ob) G n s fc (λr0=>some (.one (.i r0),[.box [.s fc]]))=some (.one (.i r),[.box [.s fc]])
theorem ok {G:Gs} (hG:AE (ac G)) {g:Q} (hg:∀s fc r,g s fc=some r->Does G s fc r):EO (ent g):=λR xs H K r hc=>by
 simp only[ent]at hc;split at hc
 ·exact okL hc λr j=>let⟨n,j⟩:=hg _ _ _ j;fF hG an (pc G n) Tryz.func65 j (apl [(1,2,.loop q2)] ⟨pl2 hG n n,trivial⟩)
 ·cases hc
end z4q
namespace z18
structure Gs where
 z16:z16.Q
 z15:z15.Q
 z4r:z4r.Q
 z0o:z0o.Q
 z4q:z4q.Q
 z18:z18.Q
 z0k:z0k.Q
noncomputable def ac (G:Gs):List Ent:=[z16.ent G.z16,z15.ent G.z15,z4r.ent G.z4r,z0o.ent G.z0o,z4q.ent G.z4q,ent G.z18,z0k.ent G.z0k]
noncomputable def d5 {R:Type} (G:Gs) (n:Nat) (xh:ByteArray) (xc xd xe:LI) (xa:LB) (xb:LS) (xf:LO) (h0:Int) (h2:LM) (h3:Int) (h32:ByteArray) (h33:Int) (h4:LT) (h5:ByteArray) (k0:Int->Int->LM->Option R):Option R:=
 (G.z16 xc xd xe xa xb xf h2 xh h0).bind λr4=>
 (G.z4r xa r4.1).bind λr6=>
 k0 r6 r4.2.1 r4.2.2
noncomputable def El {R:Type} (G:Gs) (n:Nat) (xh:ByteArray) (xc xd xe:LI) (xa:LB) (xb:LS) (xf:LO) (h0:Int) (h2:LM) (h3:Int) (h32:ByteArray) (h33:Int) (h4:LT) (h5:ByteArray) (k0:Int->Int->LM->Option R):Option R:=
 (G.z16 xc xd xe xa xb xf h2 xh h0).bind λr=>
 (G.z4r xa r.1).bind λr3=>
 k0 r3 r.2.1 r.2.2
theorem e5_1 {R:Type} (G:Gs) (n:Nat) (xh:ByteArray) (xc xd xe:LI) (xa:LB) (xb:LS) (xf:LO) (h0:Int) (h2:LM) (h3:Int) (h32:ByteArray) (h33:Int) (h4:LT) (h5:ByteArray) (k0:Int->Int->LM->Option R):El G n xh xc xd xe xa xb xf h0 h2 h3 h32 h33 h4 h5 k0=d5 G n xh xc xd xe xa xb xf h0 h2 h3 h32 h33 h4 h5 k0:=by
 unfold El d5;generalize G.z16 xc xd xe xa xb xf h2 xh h0=o0;cases o0<;>first|rfl|simp
noncomputable def EG {R:Type} (G:Gs) (n:Nat) (xh:ByteArray) (xc xd xe:LI) (xa:LB) (xb:LS) (xf:LO) (h0:Int) (h2:LM) (h3:Int) (h32:ByteArray) (h33:Int) (h4:LT) (h5:ByteArray) (k0:Int->Int->LM->Option R):Option R:=
 (G.z16 xc xd xe xa xb xf h2 xh h0).bind λr=>
 (G.z4r xa r.1).bind λr3=>
 k0 r3 r.2.1 r.2.2
theorem e5_2 {R:Type} (G:Gs) (n:Nat) (xh:ByteArray) (xc xd xe:LI) (xa:LB) (xb:LS) (xf:LO) (h0:Int) (h2:LM) (h3:Int) (h32:ByteArray) (h33:Int) (h4:LT) (h5:ByteArray) (k0:Int->Int->LM->Option R):EG G n xh xc xd xe xa xb xf h0 h2 h3 h32 h33 h4 h5 k0=d5 G n xh xc xd xe xa xb xf h0 h2 h3 h32 h33 h4 h5 k0:=by
 unfold EG d5;generalize G.z16 xc xd xe xa xb xf h2 xh h0=o0;cases o0<;>first|rfl|simp
noncomputable def b11 {R:Type} (G:Gs) (n:Nat) (xh:ByteArray) (xc xd xe:LI) (xa:LB) (xb:LS) (xf:LO) (depth op h3:Int) (h32:ByteArray) (h33:Int) (h4:LT) (open1:Bool) (h0:Int) (h2:LM) (h5:LT) (nx:Bool->Int->LM->LT->Option R) (k0:Bool->Int->LM->Int->ByteArray->Int->LT->Option R) (k1:Int->LM->LT->Option R):Option R:=
 bif open1 then
  (
  (G.z18 xc xd xe xa xb xf h2 xh h0 (wr (depth+1))).bind λr=>
  bif !r.2.1 then
   (k0 false r.2.2.1 r.2.2.2 0 ByteArray.empty 0 [])
  else
   (lim (h5++[(Tm.mk r.1.op r.1.name r.1.sort r.1.args)])).bind λzs=>
   (G.z15 xc xd xe xa xb xf r.2.2.2 xh r.2.2.1 44).bind λr2=>
   nx r2.1 r2.2.1 r2.2.2 zs
  )
 else
  k1 h0 h2 h5
noncomputable def l11 {R:Type} (G:Gs) (n m:Nat) (xh:ByteArray) (xc xd xe:LI) (xa:LB) (xb:LS) (xf:LO) (depth op h3:Int) (h32:ByteArray) (h33:Int) (h4:LT) (open1:Bool) (h0:Int) (h2:LM) (h5:LT) (k0:Bool->Int->LM->Int->ByteArray->Int->LT->Option R) (k1:Int->LM->LT->Option R):Option R:=aB (λ(v:Bool×Int×LM×LT) nx=>b11 G n xh xc xd xe xa xb xf depth op h3 h32 h33 h4 v.1 v.2.1 v.2.2.1 v.2.2.2 (λy0 y1 y2 y3=>nx (y0,y1,y2,y3)) k0 k1) m (open1,h0,h2,h5)
noncomputable def c19 {R:Type} (G:Gs) (n:Nat) (xh:ByteArray) (xc xd xe:LI) (xa:LB) (xb:LS) (xf:LO) (op h0:Int) (h2:LM) (h3:Int) (h32:ByteArray) (h33:Int) (h4 h5:LT) (k0:Bool->LM->Int->ByteArray->Int->LT->Option R):Option R:=
 (G.z0k xc xd xe xa xb xf h2 op h5).bind λr=>
 k0 r.2.1 r.2.2 r.1.op r.1.name r.1.sort r.1.args
noncomputable def main {R:Type} (G:Gs) (n:Nat) (xc xd xe:LI) (xa:LB) (xb:LS) (xf:LO) (xg:LM) (xh:ByteArray) (xi depth:Int) (K:Tm->Bool->Int->LM->Option R):Option R:=
 bif decide (20<depth)then
  (K (Tm.mk 0 ByteArray.empty 0 []) false xi xg)
 else
  (G.z16 xc xd xe xa xb xf xg xh xi).bind λr=>
  (G.z15 xc xd xe xa xb xf r.2.2 xh r.2.1 58).bind λr2=>
  bif r2.1 then
   (
   d5 G n xh xc xd xe xa xb xf r2.2.1 r2.2.2 0 ByteArray.empty 0 [] r.1
    (fun k h02 h22 =>
     (G.z0o xc xd xe xa xb xf h22 (Tm.mk (-1) r.1 k [])).bind λr4=>
     K (Tm.mk (-1) r.1 k []) r4.1 h02 r4.2
    )
   )
  else
   (G.z4q xf r.1).bind λr5=>
   (G.z15 xc xd xe xa xb xf r2.2.2 xh r2.2.1 40).bind λr6=>
   l11 G n n xh xc xd xe xa xb xf depth r5 0 ByteArray.empty 0 [] r6.1 r6.2.1 r6.2.2 []
    (λt5 h022 h222 h34 h35 h36 h42=>K (Tm.mk h34 h35 h36 h42) t5 h022 h222)
    (fun h023 h223 h52 =>
     bif decide (r5<0)then
      (K (Tm.mk 0 ByteArray.empty 0 []) false h023 h223)
     else
      bif decide (0<(List.length h52:Int))then
       (
       (G.z15 xc xd xe xa xb xf h223 xh h023 41).bind λr7=>
       bif !r7.1 then
        (K (Tm.mk 0 ByteArray.empty 0 []) false r7.2.1 r7.2.2)
       else
        c19 G n xh xc xd xe xa xb xf r5 r7.2.1 r7.2.2 0 ByteArray.empty 0 [] h52
         (λt52 h224 h342 h352 h362 h37=>K (Tm.mk h342 h352 h362 h37) t52 r7.2.1 h224)
       )
      else
       c19 G n xh xc xd xe xa xb xf r5 h023 h223 0 ByteArray.empty 0 [] h52
        (λt53 h225 h343 h353 h363 h372=>K (Tm.mk h343 h353 h363 h372) t53 h023 h225)
    )
noncomputable def dd5 (G:Gs) (n:Nat) (R:Type) (st:St) (K:Kt R):Option R:=match st with
 |⟨[(0,.one (.p 0 0)),(4,.one (.p 3 0)),(6,.one (.p 5 0))],[.box [.p 1 0,.s xh,.i h0],.box [.l .i xc,.l .i xd,.l .i xe,.l .s xa,.l (.n 5) xb,.l (.n 8) xf,.m 2],.map .i h2,.box [.i h3,.s h32,.i h33,.o 4],.row (.n 1) 0 h4,.box [.s h5]]⟩=>d5 G n xh xc xd xe xa xb xf h0 h2 h3 h32 h33 h4 h5 (λk h02 h22=>K .normal ⟨[(0,.one (.p 0 0)),(4,.one (.p 3 0)),(6,.one (.p 5 0)),(7,.one (.i k))],[.box [.p 1 0,.s xh,.i h02],.box [.l .i xc,.l .i xd,.l .i xe,.l .s xa,.l (.n 5) xb,.l (.n 8) xf,.m 2],.map .i h22,.box [.i h3,.s h32,.i h33,.o 4],.row (.n 1) 0 h4,.box [.s h5]]⟩)
 |_=>none
noncomputable def BI (G:Gs) (n m:Nat) (R:Type) (st:St) (K:Kt R):Option R:=match st with
 |⟨[(0,.one (.p 0 0)),(1,.one (.i depth)),(4,.one (.p 3 0)),(9,.one (.i op)),(10,.one (.o 5)),(11,.one (.b open1))],[.box [.p 1 0,.s xh,.i h0],.box [.l .i xc,.l .i xd,.l .i xe,.l .s xa,.l (.n 5) xb,.l (.n 8) xf,.m 2],.map .i h2,.box [.i h3,.s h32,.i h33,.o 4],.row (.n 1) 0 h4,.row (.n 1) 0 h5]⟩=>l11 G n m xh xc xd xe xa xb xf depth op h3 h32 h33 h4 open1 h0 h2 h5 (λt5 h02 h22 h34 h35 h36 h42=>K .ret ⟨[(4,.one (.p 3 0)),(5,.one (.b t5))],[.box [.p 1 0,.s xh,.i h02],.box [.l .i xc,.l .i xd,.l .i xe,.l .s xa,.l (.n 5) xb,.l (.n 8) xf,.m 2],.map .i h22,.box [.i h34,.s h35,.i h36,.o 4],.row (.n 1) 0 h42]⟩) (λh02 h22 h52=>K (.exit 0) ⟨[(0,.one (.p 0 0)),(4,.one (.p 3 0)),(9,.one (.i op)),(10,.one (.o 5))],[.box [.p 1 0,.s xh,.i h02],.box [.l .i xc,.l .i xd,.l .i xe,.l .s xa,.l (.n 5) xb,.l (.n 8) xf,.m 2],.map .i h22,.box [.i h3,.s h32,.i h33,.o 4],.row (.n 1) 0 h4,.row (.n 1) 0 h52]⟩)
 |_=>none
noncomputable def tP (G:Gs) (n:Nat) (R:Type) (st:St) (K:Kt R):Option R:=match st with
 |⟨[(0,.one (.p 0 0)),(4,.one (.p 3 0)),(9,.one (.i op)),(10,.one (.o 5))],[.box [.p 1 0,.s xh,.i h0],.box [.l .i xc,.l .i xd,.l .i xe,.l .s xa,.l (.n 5) xb,.l (.n 8) xf,.m 2],.map .i h2,.box [.i h3,.s h32,.i h33,.o 4],.row (.n 1) 0 h4,.row (.n 1) 0 h5]⟩=>c19 G n xh xc xd xe xa xb xf op h0 h2 h3 h32 h33 h4 h5 (λt5 h22 h34 h35 h36 h37=>K .ret ⟨[(4,.one (.p 3 0)),(5,.one (.b t5))],[.box [.p 1 0,.s xh,.i h0],.box [.l .i xc,.l .i xd,.l .i xe,.l .s xa,.l (.n 5) xb,.l (.n 8) xf,.m 2],.map .i h22,.box [.i h34,.s h35,.i h36,.l (.n 1) h37]]⟩)
 |_=>none
noncomputable def pc (G:Gs) (n:Nat):Pcs:=⟨λR id st K=>bif Nat.beq id 11 then BI G n n R st K else none,λR id st K=>bif Nat.beq id 19 then tP G n R st K else none,λR id st K=>bif Nat.beq id 5 then dd5 G n R st K else none⟩
noncomputable def an:Ann:=⟨95,3,[(11,[0,1,4,9,10,11])],[(19,[0,4,9,10])],[4,5],[(5,⟨[([0,1,2,3,4,5,6,7,8,9,10,11,12],[3,8,10],[]),([0,1,2,3,9,10,4,5,6,7,8,11,12],[3,10,8],[]),([9,10,0,1,2,3,4,5,6,7,8,11,12],[10,3,8],[])],[3,8,10],[],[3,4,5],[0,4,6]⟩),(7,⟨[([1,2,3,4,5,6,0,7,8],[6,7],[])],[6,7],[],[0,4,5,6],[]⟩)],[]⟩
noncomputable abbrev bd:=aj Tryz.f27
noncomputable abbrev q5:=ak [1,1,1,0,1,0,0] bd
noncomputable abbrev q11:=ak [1,1,1,1,1,1,0,1,0,0] bd
noncomputable abbrev q19:=ak [1,1,1,1,1,1,1,1] bd
theorem s5_0 (G:Gs) (n:Nat) (R:Type) (xh:ByteArray) (h0:Int) (xc xd xe:LI) (xa:LB) (xb:LS) (xf:LO) (h2:LM) (h3:Int) (h32:ByteArray) (h33:Int) (h4:LT) (h5:ByteArray) (K:Kt R):(λS:St=>(λst1:St=>cG tb (ca (ac G)) an.nt an.im (fq (q5)) (db [3,4,5] st1.H) [0,1,2,3,4,5,6,7,8,9,10,11,12] [3,8,10] [] [] [0,1,2,3,4,5,6,7,8,9,10,11,12] st1.L st1.H st1.H λL H=>hU an.refs ⟨[0,4,6,7],[4,5],[]⟩ K .normal ⟨L,H⟩) (bF (aG (St.L S) (St.H S) []) S)=dd5 G n R S K) ⟨[(0,.one (.p 0 0)),(4,.one (.p 3 0)),(6,.one (.p 5 0))],[.box [.p 1 0,.s xh,.i h0],.box [.l .i xc,.l .i xd,.l .i xe,.l .s xa,.l (.n 5) xb,.l (.n 8) xf,.m 2],.map .i h2,.box [.i h3,.s h32,.i h33,.o 4],.row (.n 1) 0 h4,.box [.s h5]]⟩:=by show _=_;kernel_rfl
theorem s5_1 (G:Gs) (n:Nat) (R:Type) (xh:ByteArray) (h0:Int) (xc xd xe:LI) (xa:LB) (xb:LS) (xf:LO) (h2:LM) (h3:Int) (h32:ByteArray) (h33:Int) (h4:LT) (h5:ByteArray) (K:Kt R):(λst1:St=>cG tb (ca (ac G)) an.nt an.im (fq (q5)) (db [3,4,5] st1.H) [0,1,2,3,9,10,4,5,6,7,8,11,12] [3,10,8] [] [] [0,1,2,3,9,10,4,5,6,7,8,11,12] st1.L st1.H st1.H λL H=>hU an.refs ⟨[0,4,6,7],[4,5],[]⟩ K .normal ⟨L,H⟩) (bF (aG (St.L ⟨[(0,.one (.p 0 0)),(4,.one (.p 3 0)),(6,.one (.p 5 0))],[.box [.p 1 0,.s xh,.i h0],.box [.l .i xc,.l .i xd,.l .i xe,.l .s xa,.l (.n 5) xb,.l (.n 8) xf,.m 2],.map .i h2,.box [.i h3,.s h32,.i h33,.o 4],.row (.n 1) 0 h4,.box [.s h5]]⟩) (St.H ⟨[(0,.one (.p 0 0)),(4,.one (.p 3 0)),(6,.one (.p 5 0))],[.box [.p 1 0,.s xh,.i h0],.box [.l .i xc,.l .i xd,.l .i xe,.l .s xa,.l (.n 5) xb,.l (.n 8) xf,.m 2],.map .i h2,.box [.i h3,.s h32,.i h33,.o 4],.row (.n 1) 0 h4,.box [.s h5]]⟩) []) ⟨[(0,.one (.p 0 0)),(4,.one (.p 3 0)),(6,.one (.p 5 0))],[.box [.p 1 0,.s xh,.i h0],.box [.l .i xc,.l .i xd,.l .i xe,.l .s xa,.l (.n 5) xb,.l (.n 8) xf,.m 2],.map .i h2,.box [.i h3,.s h32,.i h33,.o 4],.row (.n 1) 0 h4,.box [.s h5]]⟩)=El G n xh xc xd xe xa xb xf h0 h2 h3 h32 h33 h4 h5 (λk h02 h22=>K .normal ⟨[(0,.one (.p 0 0)),(4,.one (.p 3 0)),(6,.one (.p 5 0)),(7,.one (.i k))],[.box [.p 1 0,.s xh,.i h02],.box [.l .i xc,.l .i xd,.l .i xe,.l .s xa,.l (.n 5) xb,.l (.n 8) xf,.m 2],.map .i h22,.box [.i h3,.s h32,.i h33,.o 4],.row (.n 1) 0 h4,.box [.s h5]]⟩):=by kernel_rfl
theorem s5_2 (G:Gs) (n:Nat) (R:Type) (xh:ByteArray) (h0:Int) (xc xd xe:LI) (xa:LB) (xb:LS) (xf:LO) (h2:LM) (h3:Int) (h32:ByteArray) (h33:Int) (h4:LT) (h5:ByteArray) (K:Kt R):(λst1:St=>cG tb (ca (ac G)) an.nt an.im (fq (q5)) (db [3,4,5] st1.H) [9,10,0,1,2,3,4,5,6,7,8,11,12] [10,3,8] [] [] [9,10,0,1,2,3,4,5,6,7,8,11,12] st1.L st1.H st1.H λL H=>hU an.refs ⟨[0,4,6,7],[4,5],[]⟩ K .normal ⟨L,H⟩) (bF (aG (St.L ⟨[(0,.one (.p 0 0)),(4,.one (.p 3 0)),(6,.one (.p 5 0))],[.box [.p 1 0,.s xh,.i h0],.box [.l .i xc,.l .i xd,.l .i xe,.l .s xa,.l (.n 5) xb,.l (.n 8) xf,.m 2],.map .i h2,.box [.i h3,.s h32,.i h33,.o 4],.row (.n 1) 0 h4,.box [.s h5]]⟩) (St.H ⟨[(0,.one (.p 0 0)),(4,.one (.p 3 0)),(6,.one (.p 5 0))],[.box [.p 1 0,.s xh,.i h0],.box [.l .i xc,.l .i xd,.l .i xe,.l .s xa,.l (.n 5) xb,.l (.n 8) xf,.m 2],.map .i h2,.box [.i h3,.s h32,.i h33,.o 4],.row (.n 1) 0 h4,.box [.s h5]]⟩) []) ⟨[(0,.one (.p 0 0)),(4,.one (.p 3 0)),(6,.one (.p 5 0))],[.box [.p 1 0,.s xh,.i h0],.box [.l .i xc,.l .i xd,.l .i xe,.l .s xa,.l (.n 5) xb,.l (.n 8) xf,.m 2],.map .i h2,.box [.i h3,.s h32,.i h33,.o 4],.row (.n 1) 0 h4,.box [.s h5]]⟩)=EG G n xh xc xd xe xa xb xf h0 h2 h3 h32 h33 h4 h5 (λk h02 h22=>K .normal ⟨[(0,.one (.p 0 0)),(4,.one (.p 3 0)),(6,.one (.p 5 0)),(7,.one (.i k))],[.box [.p 1 0,.s xh,.i h02],.box [.l .i xc,.l .i xd,.l .i xe,.l .s xa,.l (.n 5) xb,.l (.n 8) xf,.m 2],.map .i h22,.box [.i h3,.s h32,.i h33,.o 4],.row (.n 1) 0 h4,.box [.s h5]]⟩):=by kernel_rfl
theorem pd5 {G:Gs} (hG:AE (ac G)) {n:Nat}:PO an (q5) (dd5 G n):=by
 have hc:q5= .region 5 (fq (q5)) true:=by kernel_rfl
 rw[hc];refine λ[Zb]=>jO mixed de (cB hG) (o:=⟨[0,4,6,7],[4,5],[]⟩) (d:=⟨[([0,1,2,3,4,5,6,7,8,9,10,11,12],[3,8,10],[]),([0,1,2,3,9,10,4,5,6,7,8,11,12],[3,10,8],[]),([9,10,0,1,2,3,4,5,6,7,8,11,12],[10,3,8],[])],[3,8,10],[],[3,4,5],[0,4,6]⟩) (by kernel_rfl) (λp hp R st K r h=> ?_)
 have e:=h;unfold dd5 at e;split at e
 ·rename_i x0 x1 x2 x3 x4 x5 x6 x7 x8 x9 x10 x11 x12 x13;simp only[List.mem_cons,List.not_mem_nil,or_false]at hp;rcases hp with rfl|rfl|rfl
  ·exact(s5_0 G n R x0 x1 x2 x3 x4 x5 x6 x7 x8 x9 x10 x11 x12 x13 K).trans h
  ·exact((s5_1 G n R x0 x1 x2 x3 x4 x5 x6 x7 x8 x9 x10 x11 x12 x13 K).trans (e5_1 G n x0 x2 x3 x4 x5 x6 x7 x1 x8 x9 x10 x11 x12 x13 _)).trans h
  ·exact((s5_2 G n R x0 x1 x2 x3 x4 x5 x6 x7 x8 x9 x10 x11 x12 x13 K).trans (e5_2 G n x0 x2 x3 x4 x5 x6 x7 x1 x8 x9 x10 x11 x12 x13 _)).trans h
 ·cases e
theorem pl11 {G:Gs} (hG:AE (ac G)) (n:Nat):∀m,PO an (.loop q11) (BI G n m):=lpc hG (pc G n) [0,1,4,9,10,11] ⟨[0,4,9,10],[4,5],[(0,[0,4,9,10])]⟩ (apl [] trivial) (λR st K=>by unfold BI;split<;>rfl) λm R st K r h=>by unfold BI at h;split at h;exact .trans (by kernel_rfl) h;cases h
theorem FZ {G:Gs} (hG:AE (ac G)) {n:Nat}:PO an q19 (tP G n):=cpc hG (pc G n) ⟨[],[4,5],[]⟩ (apl [] trivial) λR st K r h=>by unfold tP at h;split at h;exact .trans (by kernel_rfl) h;cases h
theorem ok {G:Gs} (hG:AE (ac G)) {g:Q} (hg:∀xc xd xe xa xb xf xg xh xi depth r,g xc xd xe xa xb xf xg xh xi depth=some r->∃n,main (R:=AT×List Ob) G n xc xd xe xa xb xf xg xh xi depth (λr0 r1 r2 r3=>some (.tup [.agg [.i r0.op,.s r0.name,.i r0.sort,.l (.n 1) r0.args],.one (.b r1)],[.box [.p 1 0,.s xh,.i r2],.box [.l .i xc,.l .i xd,.l .i xe,.l .s xa,.l (.n 5) xb,.l (.n 8) xf,.m 2],.map .i r3]))=some (.tup [.agg [.i r.1.op,.s r.1.name,.i r.1.sort,.l (.n 1) r.1.args],.one (.b r.2.1)],[.box [.p 1 0,.s xh,.i r.2.2.1],.box [.l .i xc,.l .i xd,.l .i xe,.l .s xa,.l (.n 5) xb,.l (.n 8) xf,.m 2],.map .i r.2.2.2])):EO (ent g):=λR xs H K r hc=>by
 simp only[ent]at hc;split at hc
 ·exact okL hc λr j=>let⟨n,j⟩:=hg _ _ _ _ _ _ _ _ _ _ _ j;fF hG an (pc G n) Tryz.func27 j (apl [(2,5,q5),(1,11,.loop q11),(0,19,q19)] ⟨pd5 hG,⟨pl11 hG n n,⟨FZ hG,trivial⟩⟩⟩)
 ·cases hc
end z18
namespace z0g
structure Gs where
 z11:z11.Q
 z18:z18.Q
 z17:z17.Q
 z0t:z0t.Q
noncomputable def main {R:Type} (G:Gs) (n:Nat) (s:Sg) (text:ByteArray) (K:Tm->Bool->Option R):Option R:=
 (G.z11 s).bind λr=>
 sj    r
  (
   K (Tm.mk 0 ByteArray.empty 0 []) false
  )
  (fun q =>
   bif decide (2000<(ByteArray.size text:Int))then
    (K (Tm.mk 0 ByteArray.empty 0 []) false)
   else
    (G.z18 q.1 q.2.1 q.2.2.1 q.2.2.2.1 q.2.2.2.2.1 q.2.2.2.2.2.1 q.2.2.2.2.2.2 text 0 1).bind λr2=>
    (G.z17 q.1 q.2.1 q.2.2.1 q.2.2.2.1 q.2.2.2.2.1 q.2.2.2.2.2.1 r2.2.2.2 text r2.2.2.1).bind λr3=>
    bif !r2.2.1 then
     (K (Tm.mk 0 ByteArray.empty 0 []) false)
    else
     bif !decide (r3.1=(ByteArray.size text:Int))then
      (K (Tm.mk 0 ByteArray.empty 0 []) false)
     else
      (G.z0t (Tm.mk r2.1.op r2.1.name r2.1.sort r2.1.args)).bind λr4=>
      K (Tm.mk r4.op r4.name r4.sort r4.args) true
  )
theorem ok {G:Gs} (hG:AE [z11.ent G.z11,z18.ent G.z18,z17.ent G.z17,z0t.ent G.z0t]) {g:Q} (hg:∀s text r,g s text=some r->∃n,main (R:=AT×List Ob) G n s text (λr0 r1=>some (.tup [.agg [.i r0.op,.s r0.name,.i r0.sort,.l (.n 1) r0.args],.one (.b r1)],[]))=some (.tup [.agg [.i r.1.op,.s r.1.name,.i r.1.sort,.l (.n 1) r.1.args],.one (.b r.2)],[])):EO (ent g):=λR xs H K r hc=>by
 simp only[ent]at hc;split at hc
 ·exact okL hc λr j=>let⟨_,j⟩:=hg _ _ _ j;fF hG ⟨43,0,[],[],[4,5],[],[]⟩ nP Tryz.func8 j
 ·cases hc
end z0g
open Classical
def skF (c:Int->Bool) (l:List Int):Nat->Nat->Nat
 |0,p=>p
 | f + 1, p => match l[p]? with
  |some x=>if c x=true then skF c l f (p+1)else p
  |none=>p
def skip (c:Int->Bool) (l:List Int) (p:Nat):Nat:=skF c l (l.length-p) p
theorem A5 (c:Int->Bool) (l:List Int):∀f p,p<=skF c l f p
 |0,_=>Nat.le_refl _
 | f + 1, p => by
  unfold skF;split
  ·split
   ·have:=A5 c l f (p+1);omega
   ·exact Nat.le_refl _
  ·exact Nat.le_refl _
theorem AN (c:Int->Bool) (l:List Int):∀f p,p<=l.length->skF c l f p<=l.length
 |0,_,h=>h
 | f + 1, p, h => by
  unfold skF;split
  ·rename_i x hx;have:=(gI.1 hx).1;split
   ·exact AN c l f (p+1) this
   ·exact h
  ·exact h
theorem vQ {c:Int->Bool} {l:List Int} {p:Nat}:p<=skip c l p:=A5 _ _ _ _
theorem vx {c:Int->Bool} {l:List Int} {p:Nat} (h:p<=l.length):skip c l p<=l.length:=AN _ _ _ _ h
theorem kW {c:Int->Bool} {l:List Int} {p:Nat} {x:Int} (h:l[p]? =some x):skip c l p=if c x=true then skip c l (p+1)else p:=by
 have hlt:=(gI.1 h).1;unfold skip;obtain⟨f,hf⟩:∃f,l.length-p=f+1:=⟨l.length-p-1,by omega⟩;rw[hf]
 conv=>lhs;unfold skF
 rw[h];simp only;rw[show l.length-(p+1)=f by omega]
theorem ni {c:Int->Bool} {l:List Int} {p:Nat} (h:l.length<=p):skip c l p=p:=by
 unfold skip;rw[show l.length-p=0 by omega];rfl
theorem rA (c:Int->Bool) (l:List Int):∀f p x,l.length-p<=f->l[skF c l f p]? =some x->c x=false
 | 0, p, x, h, hx => by
  have:=(gI.1 hx).1;have:p<l.length:=this;omega
 | f + 1, p, x, h, hx => by
  unfold skF at hx;split at hx
  ·rename_i y hy;split at hx
   ·exact rA c l f (p+1) x (by omega) hx
   ·rename_i hc;rw[hy]at hx;cases hx;simpa using hc
  ·rename_i hn;rw[hn]at hx;cases hx
theorem xp {c:Int->Bool} {l:List Int} {p:Nat} {x:Int} (h:l[skip c l p]? =some x):c x=false:=rA c l _ p x (Nat.le_refl _) h
theorem wC {c:Int->Bool} {l:List Int} {p:Nat}:skip c l (skip c l p)=skip c l p:=by
 by_cases h:skip c l p<l.length
 ·obtain⟨x,hx,_⟩:=aS h;rw[kW hx,xp hx];rfl
 ·exact ni (by omega)
theorem gj {R:Type} (c:Int->Bool) (l:List Int) (hl:l.length<=4294967295) (B:Int->(Int->Option R)->Option R) (k0:Int->Option R) (h1:∀(p:Nat) x nx,l[p]? =some x->B p nx=bif c x then nx ((p+1:Nat):Int)else k0 p) (h2:∀(p:Nat) nx,p=l.length->B p nx=k0 p):∀m (p:Nat),p<=l.length->l.length-p<m->aB (λ(v:Int) nx=>B v (λy0=>nx y0)) m (p:Int)=k0 (skip c l p)
 |0,p,_,hm=>absurd hm (Nat.not_lt_zero _)
 | m + 1, p, hp, hm => by
  show B p (λy0=>aB (λ(v:Int) nx=>B v (λy0=>nx y0)) m y0)=_;by_cases h:p<l.length
  ·obtain⟨x,hx,_⟩:=aS     h;rw[h1 p x _ hx,kW        hx];cases hc:c x with
   | true =>
    rw[cT,if_pos rfl];exact gj c l hl B k0 h1 h2 m (p+1) h (by omega)
   |false=>rw[cF,if_neg (by decide)]
  ·rw[h2 p _ (by omega),ni (by omega)]
abbrev wI (c:Int):Bool:=decide (c=32)
theorem mr {t:ByteArray} {p:Nat} {x:Int} (h:(ofS t)[p]? =some x):sIx t (p:Int)=some x:=by rw[mE,aJ h]
theorem qB {t:ByteArray} {p:Nat} {x:Int} (h:(ofS t)[p]? =some x):decide ((p:Int)<(t.size:Int))=true:=by
 have:=(gI.1 h).1;rw[aE]at this;exact dT (by omega)
theorem pX {p:Nat} (h:p<4294967296):wr ((p:Int)+1)=((p+1:Nat):Int):=bu h
def atP (t:ByteArray) (a:Int):Prop:=t.size<=2000/\0<=a/\a<=t.size
def spA (t:ByteArray) (a:Int):Int:=(skip wI (ofS t) a.toNat:Nat)
noncomputable def xD:List ByteArray->List Sb->List Opr->ByteArray->Int->Bool->Option Int:=λ_ _ _ t a _=>if atP t a then some (spA t a)else none
noncomputable def la:List Int->List Int->List Int->List ByteArray->List Sb->List Opr->Mp->ByteArray->Int->Option (Int×Mp):=λ_ _ _ _ _ _ m t a=>if atP t a then some (spA t a,m)else none
theorem wq :EO (z4m.ent xD):=z4m.ok (G:=⟨()⟩) trivial λnm sb ops t a bad r h=>by
 unfold xD at h;split at h
 ·rename_i hs;cases h;obtain⟨h1,h2,h3⟩:=hs;have hl:=aE      t;obtain⟨p,rfl⟩:=Int.eq_ofNat_of_zero_le h2;refine⟨(ofS t).length+1,?_⟩;unfold z4m.main
  have key:=λk0=>gj (R:=AT×List Ob) wI (ofS t) (by omega) (λv nx=>z4m.b0 ⟨()⟩ ((ofS t).length+1) nm sb ops t bad v nx k0) k0 (by
   intro q x nx hx;unfold z4m.b0;rw[qB hx,cT,mr hx,bS,pX (by have:=(gI.1 hx).1;omega)]) (by
   intro q nx hq;unfold z4m.b0;rw[dF (by omega),cF]) ((ofS t).length+1) p (by omega) (by omega)
  exact(key _).trans rfl
 ·cases h
theorem lF :EO (z17.ent la):=z17.ok (G:=⟨()⟩) trivial λab be kd nm sb ops m t a r h=>by
 unfold la at h;split at h
 ·rename_i hs;cases h;obtain⟨h1,h2,h3⟩:=hs;have hl:=aE      t;obtain⟨p,rfl⟩:=Int.eq_ofNat_of_zero_le h2;refine⟨(ofS t).length+1,?_⟩;unfold z17.main
  have key:=λk0=>gj (R:=AT×List Ob) wI (ofS t) (by omega) (λv nx=>z17.b0 ⟨()⟩ ((ofS t).length+1) t ab be kd nm sb ops m v nx k0) k0 (by
   intro q x nx hx;unfold z17.b0;rw[qB hx,cT,mr hx,bS,pX (by have:=(gI.1 hx).1;omega)]) (by
   intro q nx hq;unfold z17.b0;rw[dF (by omega),cF]) ((ofS t).length+1) p (by omega) (by omega)
  exact(key _).trans rfl
 ·cases h
def tkF (t:ByteArray) (a:Int) (c:Int):Bool×Int:=if (ofS t)[(spA t a).toNat]? =some c then (true,spA t a+1)else (false,spA t a)
theorem gz {t:ByteArray} {a:Int} (h:atP t a):a<=spA t a/\spA t a<=t.size:=by
 obtain⟨h1,h2,h3⟩:=h;have hl:=aE t;unfold spA;have:=vQ (c:=wI) (l:=ofS t) (p:=a.toNat);have:=vx (c:=wI) (l:=ofS t) (p:=a.toNat) (by omega);omega
theorem jP {t:ByteArray} {a:Int} (h:atP t a) (c:Int):a<=(tkF t a c).2/\(tkF t a c).2<=t.size/\((tkF t a c).1=true->a<(tkF t a c).2):=by
 have hs:=gz h;have h2:=h.2.1;unfold tkF;split
 ·rename_i hx;have:=(gI.1 hx).1;rw[aE]at this;refine⟨by simp only;omega,by simp only;omega,λ_=>by simp only;omega⟩
 ·exact⟨hs.1,hs.2,λh=>by cases h⟩
theorem fI {t:ByteArray} {a:Int} (h:atP t a) (c:Int):atP t (tkF t a c).2:=⟨h.1,by have:=jP h c;have:=h.2.1;omega,(jP h c).2.1⟩
noncomputable def mZ:List Int->List Int->List Int->List ByteArray->List Sb->List Opr->Mp->ByteArray->Int->Int->Option (Bool×Int×Mp):=λ_ _ _ _ _ _ m t a c=>if atP t a then some ((tkF t a c).1,(tkF t a c).2,m)else none
theorem zi {R:Type} {t:ByteArray} {a c:Int} (h:atP t a) (K:Bool->Int->Option R):(bif decide (spA t a<(t.size:Int))then (Option.bind (sIx t (spA t a)) λb2=>bif decide (b2=c)then (K true (wr (spA t a+1)))else K false (spA t a))else K false (spA t a))=K (tkF t a c).1 (tkF t a c).2:=by
 have hs:=gz h;have h1:=h.1;have h2:=h.2.1;have hl:=aE t;obtain⟨p,hp⟩:=Int.eq_ofNat_of_zero_le (show 0<=spA t a by omega);unfold tkF;rw[hp]at hs ⊢;by_cases hlt:p<t.size
 ·obtain⟨x,hx,_⟩:=aS     (xs:=ofS t) (i:=p) (by omega);rw[dT (by omega),cT,mr      hx,bS,Int.toNat_natCast,hx];by_cases hc:x=c
  ·rw[dT hc,cT,hc,if_pos rfl,ai (by omega)]
  ·rw[dF hc,cF,if_neg (by simp[hc])]
 ·rw[dF (by omega),cF,Int.toNat_natCast,List.getElem?_eq_none (by omega),if_neg (by simp)]
theorem zt {R:Type} {ab be kd:List Int} {nm:List ByteArray} {sb:List Sb} {ops:List Opr} {m:Mp} {t:ByteArray} {a c:Int} (hs:atP t a) (K:Bool->Int->Mp->Option R):z15.main ⟨la⟩ 1 ab be kd nm sb ops m t a c K=K (tkF t a c).1 (tkF t a c).2 m:=by
 unfold z15.main;have e:la ab be kd nm sb ops m t a=some (spA t a,m):=if_pos hs;show Option.bind (la ab be kd nm sb ops m t a) _=_;rw[e,bS];exact zi hs (λb q=>K b q m)
theorem Eg :EO (z15.ent mZ):=z15.ok (G:=⟨la⟩) ⟨lF,trivial⟩ λab be kd nm sb ops m t a c r h=>by
 unfold mZ at h;split at h
 ·rename_i hs;cases h;exact⟨1,(zt hs _).trans rfl⟩
 ·cases h
def nmE (t:ByteArray) (a:Int):Int:=(skip aX (ofS t) (spA t a).toNat:Nat)
def nmF (t:ByteArray) (a:Int):ByteArray×Int:=(t.extract (spA t a).toNat (nmE t a).toNat,nmE t a)
theorem n9 {t:ByteArray} {a:Int} (h:atP t a):spA t a<=nmE t a/\nmE t a<=t.size:=by
 have hs:=gz h;have hl:=aE t;have h2:=h.2.1;unfold nmE;have:=vQ (c:=aX) (l:=ofS t) (p:=(spA t a).toNat);have:=vx (c:=aX) (l:=ofS t) (p:=(spA t a).toNat) (by omega);omega
theorem qx {t:ByteArray} {a:Int} (h:atP t a):atP t (nmF t a).2:=⟨h.1,by have:=gz h;have:=n9 h;have:=h.2.1;show 0<=nmE t a;omega,(n9 h).2⟩
theorem yM {t:ByteArray} {a:Int} (h:atP t a):a<=(nmF t a).2:=by have:=gz h;have:=n9 h;show a<=nmE t a;omega
noncomputable def gNmS:List ByteArray->List Sb->List Opr->ByteArray->Int->Bool->Option (ByteArray×Int):=λ_ _ _ t a _=>if atP t a then some (nmF t a)else none
noncomputable def tC:List Int->List Int->List Int->List ByteArray->List Sb->List Opr->Mp->ByteArray->Int->Option (ByteArray×Int×Mp):=λ_ _ _ _ _ _ m t a=>if atP t a then some ((nmF t a).1,(nmF t a).2,m)else none
theorem mq {t:ByteArray} {lo hi:Int} (h0:0<=lo) (h1:lo<=hi) (h2:hi<=t.size):nn t lo hi=some (t.extract lo.toNat hi.toNat):=by
 unfold nn;rw[dT h0,dT h1,dT h2];rfl
theorem mI {t:ByteArray} {p:Nat} {x:Int} (h:(ofS t)[p]? =some x):ofS (t.extract p (p+1))=[x]:=by
 have hlt:=(gI.1 h).1;have hl:=aE t;unfold ofS at h ⊢;have e:(t.extract p (p+1)).data.toList=(t.data.toList.drop p).take 1:=by
  rw[ByteArray.data_extract];simp[Array.toList_extract]
 rw[e,List.map_take,List.map_drop,aN h];rfl
theorem cW (a b:ByteArray):ofS (a++b)=ofS a++ofS b:=by
 unfold ofS;rw[ByteArray.data_append];simp
theorem ye {t:ByteArray} {p:Nat} {x:Int} (h:(ofS t)[p]? =some x):bn (ByteArray.mk #[120]++t.extract p (p+1))=aX x:=by
 have e:=mI h;have e2:ofS (ByteArray.mk #[120]++t.extract p (p+1))=[120,x]:=by rw[cW,e];rfl
 have hsz:(ByteArray.mk #[120]++t.extract p (p+1)).size=2:=by rw[<-aE,e2];rfl
 have hif:AA (ByteArray.mk #[120]++t.extract p (p+1))=false:=by
  unfold AA sEq;rw[Bool.or_eq_false_iff];constructor
  ·refine dF λq=> ?_;rw[q]at e2;have:(105:Int)=120:=(List.cons.inj e2).1;exact absurd this (by decide)
  ·refine dF λq=> ?_;rw[q]at e2;have:(97:Int)=120:=(List.cons.inj e2).1;exact absurd this (by decide)
 unfold bn;rw[hsz,hif,e2];show (decide (1<=2)&&(decide (2<=12)&&(!false&&(nQ 120&&(aX 120&&(aX x&&true))))))=_;rw[show nQ 120=true from by decide,show aX 120=true from by decide];simp
theorem F4 :EO (z4k.ent gNmS):=z4k.ok (G:=⟨xD,fS⟩) ⟨wq,z2t,trivial⟩ λnm sb ops t a bad r h=>by
 unfold gNmS at h;split at h
 ·rename_i hs;cases h;have hsp:=gz     hs;have h1:=hs.1;have h2:=hs.2.1;have hl:=aE      t;have hne:=n9     hs;obtain⟨p,hp⟩:=Int.eq_ofNat_of_zero_le (show 0<=spA t a by omega);refine⟨(ofS t).length+1,?_⟩;unfold z4k.main;have e:xD   nm sb ops t a bad=some (spA t a):=if_pos hs;show Option.bind (xD   nm sb ops t a bad) _=_;rw[e,bS]
  have key:=λk0=>gj (R:=AT×List Ob) aX (ofS t) (by omega) (λv nx=>z4k.b3 ⟨xD,fS⟩ ((ofS t).length+1) nm sb ops t bad (spA t a) v nx k0) k0 (by
   intro q x nx hx;have hq:=(gI.1 hx).1;unfold z4k.b3;have e1:nn t (q:Int) ((q+1:Nat):Int)=some (t.extract q (q+1)):=mq (by omega) (by omega) (by omega);have e2:cQ (ByteArray.mk #[120]) (t.extract q (q+1))=some (ByteArray.mk #[120]++t.extract q (q+1)):=by
    unfold cQ;have:(t.extract q (q+1)).size=1:=by rw[<-aE,mI hx];rfl
    rw[this];rfl
   rw[qB hx,cT,pX (by omega),e1,bS,e2,bS];show Option.bind (fS (ByteArray.mk #[120]++t.extract q (q+1))) _=_;rw[bS,ye hx]) (by
   intro q nx hq;unfold z4k.b3;rw[dF (by omega),cF]) ((ofS t).length+1) p (by omega) (by omega)
  rw[hp]at key hne ⊢;refine(key _).trans ?_;have e3:((skip aX (ofS t) p:Nat):Int)=nmE t a:=by unfold nmE;rw[hp];rfl
  rw[e3,mq (by omega) hne.1 hne.2,bS];unfold nmF;rw[hp]
 ·cases h
theorem CT :EO (z16.ent tC):=z16.ok (G:=⟨la,λc=>some (aX c)⟩) ⟨lF,lZ,trivial⟩ λab be kd nm sb ops m t a r h=>by
 unfold tC at h;split at h
 ·rename_i hs;cases h;have hsp:=gz     hs;have h1:=hs.1;have h2:=hs.2.1;have hl:=aE      t;have hne:=n9     hs;obtain⟨p,hp⟩:=Int.eq_ofNat_of_zero_le (show 0<=spA t a by omega);refine⟨(ofS t).length+1,?_⟩;unfold z16.main;have e:la   ab be kd nm sb ops m t a=some (spA t a,m):=if_pos hs;show Option.bind (la   ab be kd nm sb ops m t a) _=_;rw[e,bS]
  have key:=λk0=>gj (R:=AT×List Ob) aX (ofS t) (by omega) (λv nx=>z16.b3 ⟨la,λc=>some (aX c)⟩ ((ofS t).length+1) t ab be kd nm sb ops (spA t a) m v nx k0) k0 (by
   intro q x nx hx;have hq:=(gI.1 hx).1;unfold z16.b3;rw[qB hx,cT,mr hx,bS,bS,pX (by omega)]) (by
   intro q nx hq;unfold z16.b3;rw[dF (by omega),cF]) ((ofS t).length+1) p (by omega) (by omega)
  simp only;rw[hp]at key hne ⊢;refine(key _).trans ?_;have e3:((skip aX (ofS t) p:Nat):Int)=nmE t a:=by unfold nmE;rw[hp];rfl
  rw[e3,mq (by omega) hne.1 hne.2,bS];unfold nmF;rw[hp]
 ·cases h
open Classical
def nN {α:Type} (p:α->Bool):List α->Nat->Int
 |[],_=> -1
 |x::xs,i=>if p x=true then (i:Int)else nN p xs (i+1)
theorem vH {α:Type} (p:α->Bool):∀(l:List α) (i:Nat),nN p l i= -1\/∃k x,nN p l i=((i+k:Nat):Int)/\l[k]? =some x/\p x=true
 |[],_=>.inl rfl
 | x :: xs, i => by
  unfold nN;by_cases h:p x=true
  ·rw[if_pos h];exact .inr ⟨0,x,rfl,rfl,h⟩
  ·rw[if_neg h];rcases vH      p xs (i+1)with h2|⟨k,y,h2,h3,h4⟩
   ·exact .inl h2
   ·exact .inr ⟨k+1,y,by rw[h2];congr 1;omega,h3,h4⟩
theorem iR {α R:Type} (l:List α) (p:α->Bool) (B:Int->(Int->Option R)->Option R) (k0:Int->Option R) (h1:∀(i:Nat) x nx,l[i]? =some x->B i nx=bif p x then k0 i else nx ((i+1:Nat):Int)) (h2:∀nx,B l.length nx=k0 (-1)):∀m (i:Nat),i<=l.length->l.length-i<m->aB (λ(v:Int) nx=>B v (λy0=>nx y0)) m (i:Int)=k0 (nN p (l.drop i) i)
 |0,i,_,hm=>absurd hm (Nat.not_lt_zero _)
 | m + 1, i, hi, hm => by
  show B i (λy0=>aB (λ(v:Int) nx=>B v (λy0=>nx y0)) m y0)=_;by_cases h:i<l.length
  ·obtain⟨x,hx,_⟩:=aS     h;rw[h1 i x _ hx,aN       hx];unfold nN;cases   hp:p x with
   |true=>rfl
   | false =>
    rw[cF,if_neg (by decide)];exact iR l p B k0 h1 h2 m (i+1) h (by omega)
  ·obtain rfl:i=l.length:=by omega
   rw[h2,bj];rfl
def fdN (l:List ByteArray) (x:ByteArray):Int:=nN (λy=>sEq y x) l 0
def fdO (l:List Opr) (x:ByteArray):Int:=nN (λo=>sEq o.name x) l 0
theorem AQ (a b:ByteArray):sEq a b=sEq b a:=decide_eq_decide.2 ⟨λh=>h.symm,λh=>h.symm⟩
abbrev th :List ByteArray->ByteArray->Option Int:=λl x=>if l.length<=8 then some (fdN l x)else none
abbrev zU :List Opr->ByteArray->Option Int:=λl x=>if l.length<=14 then some (fdO l x)else none
theorem F3 :EO (z4j.ent th):=z4j.ok (G:=⟨()⟩) trivial λ(l:List ByteArray) x r h=>by
 unfold th at h;split at h
 ·rename_i hs;cases h;refine⟨l.length+1,?_⟩;unfold z4j.main;have key:=λk0=>iR        (R:=AT×List Ob) l (λy=>sEq y x) (λv nx=>z4j.b2 ⟨()⟩ (l.length+1) l x v nx k0 (k0 (-1))) k0 (by
   intro i y nx hy;have hi:=(gI.1 hy).1;unfold z4j.b2;rw[br hi,cT,aJ hy,bS,bu (by omega)]) (by
   intro nx;unfold z4j.b2;rw[aU (by omega),cF]) (l.length+1) 0 (by omega) (by omega)
  exact(key _).trans rfl
 ·cases h
theorem Aq :EO (z4r.ent th):=z4r.ok (G:=⟨()⟩) trivial λ(l:List ByteArray) x r h=>by
 unfold th at h;split at h
 ·rename_i hs;cases h;refine⟨l.length+1,?_⟩;unfold z4r.main;have key:=λk0=>iR        (R:=AT×List Ob) l (λy=>sEq y x) (λv nx=>z4r.b2 ⟨()⟩ (l.length+1) l x (l.length:Int) v nx k0 (k0 (-1))) k0 (by
   intro i y nx hy;have hi:=(gI.1 hy).1;unfold z4r.b2;rw[br hi,cT,aJ hy,bS,bu (by omega),AQ]) (by
   intro nx;unfold z4r.b2;rw[aU (by omega),cF]) (l.length+1) 0 (by omega) (by omega)
  exact(key _).trans rfl
 ·cases h
theorem s9 :EO (z19.ent λo x=>some (sEq o.name x)):=z19.ok (G:=⟨()⟩) trivial λo x r h=>⟨1,by cases h;rfl⟩
theorem qm :EO (z4q.ent zU):=z4q.ok (G:=⟨λo x=>some (sEq o.name x)⟩) ⟨s9,trivial⟩ λ(l:List Opr) x r h=>by
 unfold zU at h;split at h
 ·rename_i hs;cases h;refine⟨l.length+1,?_⟩;unfold z4q.main;have key:=λk0=>iR        (R:=AT×List Ob) l (λo=>sEq o.name x) (λv nx=>z4q.b2 ⟨λo x=>some (sEq o.name x)⟩ (l.length+1) x l (l.length:Int) v nx k0 (k0 (-1))) k0 (by
   intro i y nx hy;have hi:=(gI.1 hy).1;unfold z4q.b2;rw[br hi,cT,aJ hy,bS,bu (by omega)];rfl) (by
   intro nx;unfold z4q.b2;rw[aU (by omega),cF]) (l.length+1) 0 (by omega) (by omega)
  exact(key _).trans rfl
 ·cases h
theorem o6 {N:Nat} {kinds:List Int}:∀{ops:List Opr} {seen:List ByteArray},md N kinds seen ops=true->(∀o∈ops,bn o.name=true/\∀y∈seen,y≠o.name)/\ops.Pairwise (λa b=>a.name≠b.name)
 |[],_,_=>⟨λo h=>by simp at h,.nil⟩
 | o :: rest, seen, h => by
  unfold md at h;simp only[bA,Bool.not_eq_true']at h;obtain⟨h1,_,h3,h4⟩:=h;obtain⟨i1,i2⟩:=o6 h4;have h3':∀y∈seen,y≠o.name:=λy hy e=>by
   have:=List.any_eq_false.1 h3 y hy;exact this (dT e)
  refine⟨λq hq=> ?_,List.pairwise_cons.2 ⟨λq hq=> ?_,i2⟩⟩
  ·rcases List.mem_cons.1 hq with rfl|hq
   ·exact⟨h1,h3'⟩
   ·exact⟨(i1 q hq).1,λy hy=>(i1 q hq).2 y (List.mem_append_left _ hy)⟩
  ·exact(i1 q hq).2 o.name (List.mem_append_right _ (by simp))
theorem gk {s:Sg} (h:aM s=true):(∀o∈s.ops,bn o.name=true)/\s.ops.Pairwise (λa b=>a.name≠b.name):=by
 unfold aM at h;simp only[bA]at h;obtain⟨h1,h2⟩:=o6 h.2.2.1;exact⟨λo ho=>(h1 o ho).1,h2⟩
theorem AI {ops:List Opr} {x:ByteArray} (h:¬fdO ops x<0):∃o,ix ops (fdO ops x)=some o/\o.name=x:=by
 rcases vH (λo:Opr=>sEq o.name x) ops 0 with h1|⟨k,o,h1,h2,h3⟩
 ·exact absurd (by unfold fdO;rw[h1];decide) h
 ·refine⟨o,?_,of_decide_eq_true h3⟩;unfold fdO;rw[h1,Nat.zero_add];exact aJ h2
open Classical
def nr (s:Sg) (op:Int) (args:List Tm):Option Tm:=(ix s.ops op).bind λo=>bO s o op args
def bG (t:ByteArray) (rd:Int->Tm×Bool×Int):Nat->Bool->Int->List Tm->Bool×Int×List Tm
 |0,_,a,acc=>(false,a,acc)
 |f+1,op,a,acc=>if op=true then (if (rd a).2.1=true then bG t rd f (tkF t (rd a).2.2 44).1 (tkF t (rd a).2.2 44).2 (acc++[(rd a).1])else (false,(rd a).2.2,[]))else (true,a,acc)
def mS (s:Sg) (op a:Int) (args:List Tm):Tm×Bool×Int:=((nr s op args).getD Zt,(nr s op args).isSome,a)
def mf (s:Sg) (t:ByteArray) (op:Int) (r:Bool×Int×List Tm):Tm×Bool×Int:=if r.1=true then (if op<0 then (Zt,false,r.2.1)else if r.2.2.length=0 then mS s op r.2.1 r.2.2 else if (tkF t r.2.1 41).1=true then mS s op (tkF t r.2.1 41).2 r.2.2 else (Zt,false,(tkF t r.2.1 41).2))else (Zt,false,r.2.1)
def FS (s:Sg) (t:ByteArray) (name:ByteArray) (a:Int):Tm×Bool×Int:=(Tm.mk (-1) name (fdN s.sorts.names (nmF t a).1) [],bn name&&inN (nS s) (fdN s.sorts.names (nmF t a).1),(nmF t a).2)
def aI (s:Sg) (t:ByteArray):Nat->Int->Tm×Bool×Int
 |0,a=>(Zt,false,a)
 | e + 1, a => if (tkF t (nmF t a).2 58).1 = true then FS s t (nmF t a).1 (tkF t (nmF t a).2 58).2
  else mf s t (fdO s.ops (nmF t a).1) (bG t (aI s t e) (t.size+3) (tkF t (tkF t (nmF t a).2 58).2 40).1 (tkF t (tkF t (nmF t a).2 58).2 40).2 [])
def Sm (s:Sg) (t:Tm):Prop:=Good s t/\tsz t<=60
theorem qn {x t:Tm} (h:x∈t.args):tsz x<tsz t:=by
 rw[fk t];have:=Fv (f:=tsz) h;unfold wS at*;omega
theorem Sm.args {s:Sg} {t:Tm} (h:Sm s t):∀x∈t.args,Sm s x:=λx hx=>⟨h.1.args x hx,by have:=qn hx;have:=h.2;omega⟩
theorem n6 {x:ByteArray} (h:bn x=true):x.size<=12:=by
 unfold bn at h;simp only[bA,decide_eq_true_eq]at h;exact h.2.1
theorem Good.total {s:Sg}:∀(k:Nat) (t:Tm),t.total<k->Good s t->t.total+1<=13*tsz t
 |0,_,h,_=>absurd h (Nat.not_lt_zero _)
 | k + 1, t, hk, hg => by
  rw[fk];have ht:=aC t;have hs:t.name.size<=12:=by
   cases hg with
   |var _ _ h3=>exact n6 h3
   |app _ _ _=>exact Nat.zero_le _
  have:∀l:List Tm,(∀x∈l,x.total+1<=13*tsz x)->ae l<=13*wS tsz l:=λl=>by
   induction l with
   |nil=>intro _;exact Nat.zero_le _
   | cons x l ih =>
    intro hl;rw[fG,bP];have:=hl x (by simp);have:=ih λy hy=>hl y (by simp[hy]);omega
  have:=this t.args λx hx=>Good.total k x (by have:=al hx;omega) (hg.args x hx);omega
theorem Sm.total {s:Sg} {t:Tm} (h:Sm s t):t.total<=780:=by
 have:=h.1.total _ t (Nat.lt_succ_self _);have:=h.2;omega
theorem lb {s:Sg}:∀{l:List Tm},(∀x∈l,Sm s x)->ae l<=781*l.length
 |[],_=>by rw[dI];omega
 | x :: l, h => by
  rw[bP,List.length_cons];have:=(h x (by simp)).total;have:=lb (l:=l) λy hy=>h y (by simp[hy]);omega
theorem sQ {P:Tm->Prop} (hP:∀x,P x->∀a∈x.args,P a) {s:Sg} {o:Opr} {op:Int}:∀{xs:List Tm} {i:Int} {acc l:List Tm},cf s o op i xs acc=some l->(∀x∈acc,P x)->(∀x∈xs,P x)->∀x∈l,P x
 |[],_,_,_,h,ha,_=>by cases h;exact ha
 | x :: xs, i, acc, l, h, ha, hx => by
  unfold cf at h;split at h
  ·refine sQ       hP h (λy hy=> ?_) (λy hy=>hx y (by simp[hy]));unfold dw   at hy;have gx:=hx x (by simp);split at hy
   ·rcases List.mem_append.1 hy with hy|hy
    ·exact ha y hy
    ·exact hP x gx y hy
   ·split at hy
    ·exact ha y hy
    ·rcases List.mem_append.1 hy with hy|hy
     ·exact ha y hy
     ·rw[List.mem_singleton.1 hy];exact gx
  ·cases h
theorem pJ {s:Sg} {o:Opr} {op:Int} (ho:ix s.ops op=some o) (hu:o.unit=0):∀{xs:List Tm} {i:Int} {acc l:List Tm},cf s o op i xs acc=some l->(∀x∈xs,Good s x)->acc.length+xs.length<=l.length
 |[],_,_,_,h,_=>by cases h;simp
 | x :: xs, i, acc, l, h, hx => by
  unfold cf at h;split at h
  ·have h2:=pJ      ho hu h λy hy=>hx y (by simp[hy]);have:acc.length+1<=(dw   o op acc x).length:=by
    unfold dw;split
    ·rename_i hc;obtain⟨hc1,hc2⟩:=hc;have gx:=hx x (by simp);have hna:x.op≠ -1:=by
      rw[hc2];have:=(aZ ho).2.1;omega
     cases gx with
     |var _ _ _=>exact absurd rfl hna
     | @app op' o' args ho' hn _=>
      have hc2:op'=op:=hc2;subst hc2;rw[ho]at ho';cases ho';rw[if_pos hc1]at hn;show _<=(acc++args).length;simp only[List.length_append];omega
    ·unfold fL;rw[dT hu];simp
   simp only[List.length_cons];omega
  ·cases h
theorem tD {o:Opr} {op:Int} {l:List Tm}:(dY o op l).args.length=l.length/\∀x,x∈(dY o op l).args↔x∈l:=by
 unfold dY;show (if o.comm=true then aA l else l).length=l.length/\∀x,x∈(if o.comm=true then aA l else l)↔x∈l;split
 ·exact⟨eF l,λx=>lm⟩
 ·exact⟨rfl,λx=>Iff.rfl⟩
theorem sk {s:Sg} (hS:aM s=true) {op:Int} {o:Opr} (ho:ix s.ops op=some o) {args:List Tm} (ha:∀x∈args,Sm s x) {t:Tm} (h:bO s o op args=some t):Sm s t:=by
 have hk:=fu hS (aZ ho).1;unfold bO at h;split at h
 ·rename_i har;obtain⟨l,hf,h⟩:=Option.bind_eq_some_iff.1 h;have hl:∀x∈l,Sm s x:=sQ       (P:=Sm s) (λx hx=>hx.args) hf (λx hx=>by simp at hx) ha;split at h
  ·rename_i hu;cases h;unfold Ec;split
   ·exact hl _ (by simp)
   ·obtain⟨u,u1,u2⟩:=hk.un hu.1;obtain⟨u3,u4⟩:=oM hS hk hu.1 u1;refine⟨?_,by rw[fk];show 1+wS tsz []<=60;exact by decide⟩;exact .app u1 (by rw[u4,if_neg (by decide),u3];rfl) (λa ha=>by simp at ha)
  ·rename_i hu;unfold gt     at h;split at h
   ·cases h
   ·rename_i hs;cases h;obtain⟨e1,e2⟩:=tD         (o:=o) (op:=op) (l:=l);refine⟨?_,by omega⟩;have hlen:if o.assoc=true then 2<=l.length else l.length=(first o).args.length:=by
     unfold cY at har;cases hc:o.assoc with
     | true =>
      rw[hc,if_pos rfl]at har;rw[if_pos rfl];by_cases h0:o.unit=0
      ·have:=pJ ho h0 hf λx hx=>(ha x hx).1;simp only[List.length_nil]at this;omega
      ·omega
     | false =>
      rw[hc,if_neg (by decide)]at har;rw[if_neg (by decide)];have h1:=lA hc hf;simp only[List.length_nil]at h1;by_cases h0:o.unit=0
      ·have:=pJ ho h0 hf λx hx=>(ha x hx).1;simp only[List.length_nil]at this;omega
      ·have:=hk.two (.inr (.inr h0));omega
    exact .app ho (by rw[show (if o.comm=true then aA l else l).length=l.length from e1];exact hlen) λx hx=>(hl x ((e2 x).1 hx)).1
 ·cases h
theorem B5 {s:Sg} (hS:aM s=true) {op:Int} {args:List Tm} (ha:∀x∈args,Sm s x) {t:Tm} (h:nr s op args=some t):Sm s t:=by
 obtain⟨o,ho,h⟩:=Option.bind_eq_some_iff.1 h;exact sk hS ho ha h
def RdI (s:Sg) (t:ByteArray) (rd:Int->Tm×Bool×Int):Prop:=∀a,atP t a->atP t (rd a).2.2/\a<=(rd a).2.2/\((rd a).2.1=true->Sm s (rd a).1)
theorem mV {s:Sg} {t:ByteArray} {rd:Int->Tm×Bool×Int} (hr:RdI s t rd):∀f op a acc,atP t a->(∀x∈acc,Sm s x)->atP t (bG t rd f op a acc).2.1/\a<=(bG t rd f op a acc).2.1/\((bG t rd f op a acc).1=true->(∀x∈(bG t rd f op a acc).2.2,Sm s x)/\(bG t rd f op a acc).2.2.length<=acc.length+f)
 |0,_,a,acc,h,_=>⟨h,Int.le_refl _,λh=>by cases h⟩
 | f + 1, op, a, acc, h, ha => by
  obtain⟨r1,r2,r3⟩:=hr a h;have hk:=jP r1 44;unfold bG;by_cases ho:op=true
  ·rw [if_pos ho];by_cases hc:(rd a).2.1=true
   ·rw[if_pos hc];obtain⟨q1,q2,q3⟩:=mV       hr f (tkF t (rd a).2.2 44).1 (tkF t (rd a).2.2 44).2 (acc++[(rd a).1]) (fI     r1 44) λx hx=>by
     rcases List.mem_append.1 hx with hx|hx
     ·exact ha x hx
     ·rw[List.mem_singleton.1 hx];exact r3 hc
    refine⟨q1,by omega,λq=>⟨(q3 q).1,?_⟩⟩;have:=(q3 q).2;simp only[List.length_append,List.length_singleton]at this;omega
   ·rw[if_neg hc];exact⟨r1,r2,λh=>by cases h⟩
  ·rw[if_neg ho];exact⟨h,Int.le_refl _,λ_=>⟨ha,Nat.le_add_right _ _⟩⟩
theorem vq {s:Sg} (hS:aM s=true) {op a:Int} {args:List Tm} (ha:∀x∈args,Sm s x):(mS s op a args).2.1=true->Sm s (mS s op a args).1:=by
 unfold mS;intro h;simp only at h ⊢;cases hb:nr s op args with
 |none=>rw[hb]at h;cases h
 |some t=>exact B5 hS ha hb
theorem Cf {s:Sg} (hS:aM s=true) {t:ByteArray} {op a:Int} {r:Bool×Int×List Tm} (h1:atP t r.2.1) (h2:a<=r.2.1) (h3:r.1=true->∀x∈r.2.2,Sm s x):atP t (mf s t op r).2.2/\a<=(mf s t op r).2.2/\((mf s t op r).2.1=true->Sm s (mf s t op r).1):=by
 have hk:=jP h1 41;unfold mf;split
 ·rename_i hr;split
  ·exact⟨h1,h2,λh=>by cases h⟩
  ·split
   ·exact⟨h1,h2,vq hS (h3 hr)⟩
   ·split
    ·exact⟨fI h1 41,by show a<=(tkF t r.2.1 41).2;omega,vq hS (h3 hr)⟩
    ·exact⟨fI h1 41,by show a<=(tkF t r.2.1 41).2;omega,λh=>by cases h⟩
 ·exact⟨h1,h2,λh=>by cases h⟩
theorem kI {s:Sg} (hS:aM s=true) (t:ByteArray):∀e,RdI s t (aI s t e)
 |0=>λa h=>⟨h,Int.le_refl _,λh=>by cases h⟩
 | e + 1 => fun a h => by
  have n1:=qx h;have n2:=yM h;have c1:=fI n1 58;have c2:=(jP n1 58).1;unfold aI;split
  ·have z1:=qx c1;have z2:=yM c1;refine⟨z1,by show a<=(nmF t (tkF t (nmF t a).2 58).2).2;omega,λh=> ?_⟩;unfold FS at h ⊢;simp only[bA]at h;obtain⟨h3,h4⟩:=h;obtain⟨h5,h6⟩:=bc.1 h4;exact⟨.var h5 h6 h3,by rw[fk];show 1+wS tsz []<=60;exact by decide⟩
  ·have o1:=fI     c1 40;have o2:=(jP     c1 40).1;obtain⟨q1,q2,q3⟩:=mV       (kI       hS t e) (t.size+3) (tkF t (tkF t (nmF t a).2 58).2 40).1 (tkF t (tkF t (nmF t a).2 58).2 40).2 [] o1 λx hx=>by simp at hx
   exact Cf hS q1 (by omega) λhr=>(q3 hr).1
open Classical
theorem Ga {t:ByteArray} {a:Int}:spA t (spA t a)=spA t a:=by
 unfold spA;rw[Int.toNat_natCast,wC]
open Classical
theorem BG {t:ByteArray} {rd:Int->Tm×Bool×Int} {f:Nat} {a:Int} {acc:List Tm}:bG t rd (f+1) false a acc=(true,a,acc):=by unfold bG;rw[if_neg (by decide)]
theorem Cn {t:ByteArray} {rd:Int->Tm×Bool×Int} {f:Nat} {a:Int} {acc:List Tm} (h:(rd a).2.1=true):bG t rd (f+1) true a acc=bG t rd f (tkF t (rd a).2.2 44).1 (tkF t (rd a).2.2 44).2 (acc++[(rd a).1]):=by
 conv=>lhs;unfold bG
 rw[if_pos rfl,if_pos h]
theorem Cy {t:ByteArray} {rd:Int->Tm×Bool×Int} {f:Nat} {a:Int} {acc:List Tm} (h:(rd a).2.1=false):bG t rd (f+1) true a acc=(false,(rd a).2.2,[]):=by
 conv=>lhs;unfold bG
 rw[if_pos rfl,if_neg (by simp[h])]
noncomputable abbrev GT (g:List Int->List Int->List Int->List ByteArray->List Sb->List Opr->Mp->ByteArray->Int->Int->Option (Tm×Bool×Int×Mp)):z18.Gs:={z16:=tC,z15:=mZ,z4r:=th,z0o:=qH,z4q:=zU,z18:=g,z0k:=kX}
noncomputable def gTm:Nat->List Int->List Int->List Int->List ByteArray->List Sb->List Opr->Mp->ByteArray->Int->Int->Option (Tm×Bool×Int×Mp):=λk ab _ kd nm sb ops m t a d=>if Alg kd nm sb ops/\ab.length=nm.length/\atP t a/\0<=d/\d<=21/\(21-d).toNat<k then some ((aI ⟨⟨nm,sb⟩,ops⟩ t (21-d).toNat a).1,(aI ⟨⟨nm,sb⟩,ops⟩ t (21-d).toNat a).2.1,(aI ⟨⟨nm,sb⟩,ops⟩ t (21-d).toNat a).2.2,m)else none
section
variable {R : Type} {kd ab be : List Int} {nm : List ByteArray} {sb : List Sb} {ops : List Opr} (hA : Alg kd nm sb ops) (hab : ab.length = nm.length) {k : Nat} {d : Int} (hd : 0 ≤ d ∧ d ≤ 20) (hk : (20 - d).toNat < k)
include hA hab hd hk
theorem BS (n:Nat) (t:ByteArray) (m:Mp) (op h3 h33:Int) (h32:ByteArray) (h4:List Tm) (k0:Bool->Int->Mp->Int->ByteArray->Int->List Tm->Option R) (k1:Int->Mp->List Tm->Option R):∀f o a acc,atP t a->(t.size-a).toNat+(if o=true then 2 else 1)<=f->acc.length+f<=5000->
  z18.l11 (GT (gTm k)) n f t ab be kd nm sb ops d op h3 h32 h33 h4 o a m acc k0 k1=if (bG t (aI ⟨⟨nm,sb⟩,ops⟩ t (20-d).toNat) f o a acc).1=true then k1 (bG t (aI ⟨⟨nm,sb⟩,ops⟩ t (20-d).toNat) f o a acc).2.1 m (bG t (aI ⟨⟨nm,sb⟩,ops⟩ t (20-d).toNat) f o a acc).2.2 else k0 false (bG t (aI ⟨⟨nm,sb⟩,ops⟩ t (20-d).toNat) f o a acc).2.1 m 0 ByteArray.empty 0 []:=by
 intro f
 induction f with
 |zero=>intro o a acc _ hf _;split at hf<;>omega
 | succ f ih =>
  intro o a acc h hf hl;show z18.b11 (GT (gTm k)) n t ab be kd nm sb ops d op h3 h32 h33 h4 o a m acc (λy0 y1 y2 y3=>z18.l11 (GT (gTm k)) n f t ab be kd nm sb ops d op h3 h32 h33 h4 y0 y1 y2 y3 k0 k1) k0 k1=_;unfold z18.b11;obtain⟨r1,r2,r3⟩:=kI hA.1 t (20-d).toNat a h;cases o with
  |false=>rw[cF,BG,if_pos rfl]
  | true =>
   rw[if_pos rfl]at hf;have e1:gTm k ab be kd nm sb ops m t a (d+1)=some ((aI ⟨⟨nm,sb⟩,ops⟩ t (20-d).toNat a).1,(aI ⟨⟨nm,sb⟩,ops⟩ t (20-d).toNat a).2.1,(aI ⟨⟨nm,sb⟩,ops⟩ t (20-d).toNat a).2.2,m):=by
    unfold gTm;rw[show 21-(d+1)=20-d by omega];exact if_pos ⟨hA,hab,h,by omega,by omega,hk⟩
   rw[cT,ai (x:=d+1) (by omega)];show Option.bind (gTm k ab be kd nm sb ops m t a (d+1)) _=_;rw[e1,bS];simp only;cases hc:(aI ⟨⟨nm,sb⟩,ops⟩ t (20-d).toNat a).2.1 with
   | false =>
    rw[Bool.not_false,cT,Cy hc,if_neg (by simp)]
   | true =>
    rw[Bool.not_true,cF,Tm.eta,dU (by simp;omega),bS,Cn hc];have e2:mZ ab be kd nm sb ops m t (aI ⟨⟨nm,sb⟩,ops⟩ t (20-d).toNat a).2.2 44=some ((tkF t (aI ⟨⟨nm,sb⟩,ops⟩ t (20-d).toNat a).2.2 44).1,(tkF t (aI ⟨⟨nm,sb⟩,ops⟩ t (20-d).toNat a).2.2 44).2,m):=if_pos r1;show Option.bind (mZ ab be kd nm sb ops m t (aI ⟨⟨nm,sb⟩,ops⟩ t (20-d).toNat a).2.2 44) _=_;rw[e2,bS];obtain⟨t1,t2,t3⟩:=jP r1 44;refine ih (tkF t (aI ⟨⟨nm,sb⟩,ops⟩ t (20-d).toNat a).2.2 44).1 (tkF t (aI ⟨⟨nm,sb⟩,ops⟩ t (20-d).toNat a).2.2 44).2 _ (fI r1 44) ?_ (by simp;omega);split
    ·rename_i hq;have:=t3 hq;omega
    ·omega
theorem CI (t:ByteArray) (m:Mp) (a:Int) (h:atP t a) (K:Tm->Bool->Int->Mp->Option R):
  z18.main (GT (gTm k)) (t.size+3) ab be kd nm sb ops m t a d K=K (aI ⟨⟨nm,sb⟩,ops⟩ t ((20-d).toNat+1) a).1 (aI ⟨⟨nm,sb⟩,ops⟩ t ((20-d).toNat+1) a).2.1 (aI ⟨⟨nm,sb⟩,ops⟩ t ((20-d).toNat+1) a).2.2 m:=by
 have h1:=h.1;have n1:=qx h;have c1:=fI n1 58;have o1:=fI c1 40;have hpre:=gb (j9 hA.1);have hol:=(dm hA.1).1;have en:tC ab be kd nm sb ops m t a=some ((nmF t a).1,(nmF t a).2,m):=if_pos h;have ec:mZ ab be kd nm sb ops m t (nmF t a).2 58=some ((tkF t (nmF t a).2 58).1,(tkF t (nmF t a).2 58).2,m):=if_pos n1;unfold z18.main aI;rw[dF (by omega),cF];show Option.bind (tC ab be kd nm sb ops m t a) _=_;rw[en,bS];show Option.bind (mZ ab be kd nm sb ops m t (nmF t a).2 58) _=_;rw[ec,bS];simp only;cases h58:(tkF t (nmF t a).2 58).1 with
 | true =>
  rw[cT,if_pos rfl];unfold z18.d5;have en2:tC ab be kd nm sb ops m t (tkF t (nmF t a).2 58).2=some ((nmF t (tkF t (nmF t a).2 58).2).1,(nmF t (tkF t (nmF t a).2 58).2).2,m):=if_pos c1;show Option.bind (tC ab be kd nm sb ops m t (tkF t (nmF t a).2 58).2) _=_;rw[en2,bS];have ef:th nm (nmF t (tkF t (nmF t a).2 58).2).1=some (fdN nm (nmF t (tkF t (nmF t a).2 58).2).1):=if_pos hpre.1;show Option.bind (th nm (nmF t (tkF t (nmF t a).2 58).2).1) _=_;rw[ef,bS];have ev:qH ab be kd nm sb ops m (Tm.mk (-1) (nmF t a).1 (fdN nm (nmF t (tkF t (nmF t a).2 58).2).1) [])=some (bn (nmF t a).1&&inN nm.length (fdN nm (nmF t (tkF t (nmF t a).2 58).2).1),m):=by
   unfold qH;rw[if_pos rfl,hab];simp
  show Option.bind (qH ab be kd nm sb ops m (Tm.mk (-1) (nmF t a).1 (fdN nm (nmF t (tkF t (nmF t a).2 58).2).1) [])) _=_;rw[ev,bS];rfl
 | false =>
  rw[cF,if_neg (by decide)];have ef:zU ops (nmF t a).1=some (fdO ops (nmF t a).1):=if_pos hol;show Option.bind (zU ops (nmF t a).1) _=_;rw[ef,bS];have eo:mZ ab be kd nm sb ops m t (tkF t (nmF t a).2 58).2 40=some ((tkF t (tkF t (nmF t a).2 58).2 40).1,(tkF t (tkF t (nmF t a).2 58).2 40).2,m):=if_pos c1;show Option.bind (mZ ab be kd nm sb ops m t (tkF t (nmF t a).2 58).2 40) _=_;rw[eo,bS];obtain⟨x,hx⟩:∃x,x=fdO ops (nmF t a).1:=⟨_,rfl⟩;have hfd:¬x<0->∃o,ix ops x=some o:=λh=>by
   rw[hx]at h ⊢;obtain⟨o,ho,_⟩:=AI h;exact⟨o,ho⟩
  obtain⟨y,hy⟩:∃y,y=bG t (aI ⟨⟨nm,sb⟩,ops⟩ t (20-d).toNat) (t.size+3) (tkF t (tkF t (nmF t a).2 58).2 40).1 (tkF t (tkF t (nmF t a).2 58).2 40).2 []:=⟨_,rfl⟩;have ho2:=o1.2;obtain⟨y1,y2,y3⟩:=mV (kI hA.1 t (20-d).toNat) (t.size+3) (tkF t (tkF t (nmF t a).2 58).2 40).1 (tkF t (tkF t (nmF t a).2 58).2 40).2 [] o1 λx hx=>by simp at hx
  simp only;refine(BS (R:=R) hA hab hd hk (t.size+3) t m (fdO ops (nmF t a).1) 0 0 ByteArray.empty [] _ _ (t.size+3) _ _ [] o1 (by split<;>omega) (by simp;omega)).trans ?_;show _=K (mf _ t (fdO ops (nmF t a).1) (bG t (aI ⟨⟨nm,sb⟩,ops⟩ t (20-d).toNat) (t.size+3) (tkF t (tkF t (nmF t a).2 58).2 40).1 (tkF t (tkF t (nmF t a).2 58).2 40).2 [])).1 (mf _ t (fdO ops (nmF t a).1) (bG t (aI ⟨⟨nm,sb⟩,ops⟩ t (20-d).toNat) (t.size+3) (tkF t (tkF t (nmF t a).2 58).2 40).1 (tkF t (tkF t (nmF t a).2 58).2 40).2 [])).2.1 (mf _ t (fdO ops (nmF t a).1) (bG t (aI ⟨⟨nm,sb⟩,ops⟩ t (20-d).toNat) (t.size+3) (tkF t (tkF t (nmF t a).2 58).2 40).1 (tkF t (tkF t (nmF t a).2 58).2 40).2 [])).2.2 m;rw[<-hy,<-hx]at*;obtain⟨y0,ya,yl⟩:=y;simp only at y1 y2 y3 ⊢;unfold mf;cases y0 with
  |false=>rfl
  | true =>
   obtain⟨y4,y5⟩:=y3 rfl;simp only[List.length_nil]at y5;have hb:ae yl<1073741824:=by have:=lb y4;omega
   rw[if_pos rfl,if_pos rfl];by_cases hop:x<0
   ·rw[dT hop,cT,if_pos hop]
   ·rw [decide_eq_false hop, cond_false, if_neg hop];obtain⟨o,ho⟩:=hfd hop;have hbl:nr   ⟨⟨nm,sb⟩,ops⟩ x yl=bO     ⟨⟨nm,sb⟩,ops⟩ o x yl:=by
     unfold nr;show (ix ops x).bind _=_;rw[ho,bS]
    have eb:kX ab be kd nm sb ops m x yl=some ((nr ⟨⟨nm,sb⟩,ops⟩ x yl).getD Zt,(nr ⟨⟨nm,sb⟩,ops⟩ x yl).isSome,m):=by
     unfold kX;rw[if_pos ⟨hA,λz hz=>(y4 z hz).1,hb⟩,ho,hbl];rfl
    have c19:∀a2:Int,z18.c19 (GT (gTm k)) (t.size+3) t ab be kd nm sb ops x a2 m 0 ByteArray.empty 0 [] yl (λt52 h224 h342 h352 h362 h37=>K (Tm.mk h342 h352 h362 h37) t52 a2 h224)=K (mS ⟨⟨nm,sb⟩,ops⟩ x a2 yl).1 (mS ⟨⟨nm,sb⟩,ops⟩ x a2 yl).2.1 (mS ⟨⟨nm,sb⟩,ops⟩ x a2 yl).2.2 m:=λa2=>by
     unfold z18.c19;show Option.bind (kX ab be kd nm sb ops m x yl) _=_;rw[eb,bS];unfold mS;exact congrArg (λz=>K z _ a2 m) (Tm.eta _)
    by_cases hl0:yl.length=0
    ·rw[dF (by omega),cF,if_pos hl0];exact c19 ya
    ·rw[dT (by omega),cT,if_neg hl0];have ek:mZ   ab be kd nm sb ops m t ya 41=some ((tkF t ya 41).1,(tkF t ya 41).2,m):=if_pos y1;show Option.bind (mZ   ab be kd nm sb ops m t ya 41) _=_;rw[ek,bS];simp only;cases h41:(tkF t ya 41).1 with
     |false=>rw[Bool.not_false,cT,if_neg (by decide)]
     | true =>
      rw[Bool.not_true,cF,if_pos rfl];exact c19 (tkF t ya 41).2
end
theorem vU :∀k,EO (z18.ent (gTm k))
 | 0 => fun R xs H K r h => by
  simp only[z18.ent]at h;split at h
  ·simp[gTm]at h
  ·cases h
 | k + 1 => z18.ok               (G := GT (gTm k)) ⟨CT     , Eg    , Aq      , jj           , qm          , vU      k, zu      , trivial⟩ fun ab be kd nm sb ops m t a d r h => by
  unfold gTm at h;split at h
  ·rename_i hs;obtain⟨hA,hab,hp,d0,d1,hk⟩:=hs;cases h;by_cases hd:d=21
   ·subst hd;refine⟨1,?_⟩;unfold z18.main;rw[dT (by decide),cT];rfl
   ·rw[show (21-d).toNat=(20-d).toNat+1 by omega]at hk ⊢;exact⟨t.size+3,(CI (ab:=ab) (be:=be) hA hab (k:=k) ⟨d0,by omega⟩ (by omega) t m a hp _).trans rfl⟩
  ·cases h
open Classical
theorem zw :EO (z3z.ent λx k=>some (Tm.mk (-1) x k [])):=z3z.ok (G:=⟨()⟩) trivial λx k r h=>⟨1,by cases h;rfl⟩
section
variable {R : Type} {nm : List ByteArray} {sb : List Sb} {ops : List Opr}
variable (hS : aM ⟨⟨nm, sb⟩, ops⟩ = true) {k : Nat} {d : Int} (hd : 1 ≤ d ∧ d ≤ 20) (hk : (20 - d).toNat < k)
include hS hd hk
end
open Classical
noncomputable def fm (s:Sg) (t:ByteArray):Tm×Bool:=if aM s=true/\t.size<=2000/\(aI s t 20 0).2.1=true/\spA t (aI s t 20 0).2.2=t.size then ((aI s t 20 0).1,true)else (Zt,false)
theorem Fa {t:ByteArray} (h:t.size<=2000):atP t 0:=⟨h,Int.le_refl _,by omega⟩
open Classical
def pnc (w:List Int) (c:Int):List Int:=w++c::w
def cd (w:List Int):List (List Int)->List Int
 |[]=>[]
 |[x]=>x
 |x::y::r=>x++(pnc w 44++32::cd w (y::r))
def srt (s:Sg) (i:Int):ByteArray:=(ix s.sorts.names i).getD ByteArray.empty
def txN (w:List Int) (s:Sg) (f:Tm->List Int) (t:Tm):List Int:=if t.op= -1 then ofS t.name++(pnc w 58++ofS (srt s t.sort))else match ix s.ops t.op with
 |none=>[]
 |some o=>if t.args.length=0 then ofS o.name else ofS o.name++(pnc w 40++(cd w (t.args.map f)++pnc w 41))
def txK (w:List Int) (s:Sg):Nat->Tm->List Int
 |0,_=>[]
 |k+1,t=>txN w s (txK w s k) t
def tx (w:List Int) (s:Sg) (t:Tm):List Int:=txK w s (t.total+1) t
theorem oU {w:List Int} {s:Sg} {f g:Tm->List Int} {t:Tm} (h:∀x∈t.args,f x=g x):txN w s f t=txN w s g t:=by
 unfold txN;rw[List.map_congr_left h]
theorem A8 {w:List Int} {s:Sg}:∀(k j:Nat) (t:Tm),t.total<k->t.total<j->txK w s k t=txK w s j t
 |0,_,_,h,_=>absurd h (Nat.not_lt_zero _)
 |_,0,_,_,h=>absurd h (Nat.not_lt_zero _)
 |k+1,j+1,t,h1,h2=>oU λx hx=>A8 k j x (by have:=al hx;omega) (by have:=al hx;omega)
theorem oV (w:List Int) (s:Sg) (t:Tm):tx w s t=txN w s (tx w s) t:=oU λx hx=>A8 _ _ x (al hx) (Nat.lt_succ_self _)
def tr (l:List Int):List Int:=l.dropWhile wI
theorem ph {w:List Int} (hw:∀c∈w,c=32) (l:List Int):tr (w++l)=tr l:=by
 induction w with
 |nil=>rfl
 | cons c w ih =>
  have:c=32:=hw c (by simp);subst this;exact ih λd hd=>hw d (by simp[hd])
theorem DS {c:Int} (h:c≠32) (l:List Int):tr (c::l)=c::l:=by
 unfold tr;rw[List.dropWhile_cons,if_neg (by simp[h])]
theorem F6 (l:List Int):tr (32::l)=tr l:=rfl
theorem qy (c:Int->Bool) (l:List Int):∀(k p:Nat),l.length-p<=k->p<=l.length->skip c l p=p+((l.drop p).takeWhile c).length
 | k, p, hk, hp => by
  by_cases h:p<l.length
  ·obtain⟨x,hx,_⟩:=aS     h;rw[kW        hx,aN       hx,List.takeWhile_cons];by_cases hc:c x=true
   ·obtain⟨j,rfl⟩:∃j,k=j+1:=⟨k-1,by omega⟩;rw[if_pos hc,if_pos hc,qy c l j (p+1) (by omega) h,List.length_cons];omega
   ·rw[if_neg hc,if_neg hc];rfl
  ·rw[ni (by omega),List.drop_eq_nil_of_le (by omega)];rfl
theorem BY (c:Int->Bool) (l:List Int):l.drop (l.takeWhile c).length=l.dropWhile c:=by
 have h:=List.takeWhile_append_dropWhile (p:=c) (l:=l)
 conv=>lhs;arg 2;rw[<-h]
 exact List.drop_left
theorem we {c:Int->Bool} {l:List Int} {p:Nat} (hp:p<=l.length):l.drop (skip c l p)=(l.drop p).dropWhile c:=by
 rw[qy c l _ p (Nat.le_refl _) hp,<-List.drop_drop,BY]
def AtS (T:ByteArray) (a:Int) (l:List Int):Prop:=atP T a/\(ofS T).drop (spA T a).toNat=tr l
theorem tY {T:ByteArray} {a:Int} {l:List Int} (h:atP T a) (e:(ofS T).drop a.toNat=l):AtS T a l:=by
 refine⟨h,?_⟩;subst e;unfold spA;rw[Int.toNat_natCast];exact we (by rw[aE];have:=h.2.2;omega)
theorem AtS.tr {T:ByteArray} {a:Int} {l r:List Int} (h:AtS T a l) (e:tr l=tr r):AtS T a r:=⟨h.1,h.2.trans e⟩
theorem pY {T:ByteArray} {a:Int}:((spA T a).toNat:Int)=spA T a:=by unfold spA;rw[Int.toNat_natCast]
theorem AtS.hd {T:ByteArray} {a c:Int} {l r:List Int} (h:AtS T a l) (hl:Den.tr l=c::r):(ofS T)[(spA T a).toNat]? =some c/\(ofS T).drop ((spA T a).toNat+1)=r:=by
 have e:=h.2.trans hl;constructor
 ·have:=congrArg List.head? e;rw[List.head?_drop]at this;exact this
 ·rw[<-List.drop_drop,e];rfl
theorem pN {T:ByteArray} {a c:Int} {l r:List Int} (h:AtS T a l) (hl:tr l=c::r):(tkF T a c).1=true/\AtS T (tkF T a c).2 r:=by
 obtain⟨h1,h2⟩:=h.hd hl;have e:tkF T a c=(true,spA T a+1):=if_pos h1;have hp:=fI h.1 c;rw[e]at hp ⊢;refine⟨rfl,tY hp ?_⟩;have:=pY (T:=T) (a:=a);rw[show (spA T a+1).toNat=(spA T a).toNat+1 by omega];exact h2
theorem mh {T:ByteArray} {a c:Int} {l:List Int} (h:AtS T a l) (hl:∀r,tr l≠c::r):(tkF T a c).1=false/\AtS T (tkF T a c).2 l:=by
 have hn:(ofS T)[(spA T a).toNat]?≠some c:=λe=>by
  obtain⟨r,hr⟩:∃r,(ofS T).drop (spA T a).toNat=c::r:=⟨_,aN e⟩;exact hl r (h.2.symm.trans hr)
 have e:tkF T a c=(false,spA T a):=if_neg hn;have hp:=fI h.1 c;rw[e]at hp ⊢;exact⟨rfl,hp,by rw[Ga];exact h.2⟩
theorem vg {x y:ByteArray} (h:ofS x=ofS y):x=y:=by
 unfold ofS at h;have:=List.map_inj_right (f:=λb:UInt8=>(b.toNat:Int)) (λa b e=>UInt8.toNat_inj.1 (Int.ofNat.inj e)) |>.1 h;cases x;cases y;simp only at this;rw[Array.toList_inj.1 this]
theorem Bv (t:ByteArray) (p q:Nat):ofS (t.extract p q)=((ofS t).drop p).take (q-p):=by
 unfold ofS;have e:(t.extract p q).data.toList=(t.data.toList.drop p).take (q-p):=by
  rw[ByteArray.data_extract];simp[Array.toList_extract]
 rw[e,List.map_take,List.map_drop]
theorem AL {c:Int->Bool}:∀{n r:List Int},(∀x∈n,c x=true)->(∀x y,r=x::y->c x=false)->(n++r).takeWhile c=n/\(n++r).dropWhile c=r
 |[],[],_,_=>⟨rfl,rfl⟩
 | [], x :: y, _, h => by
  rw[List.nil_append,List.takeWhile_cons,List.dropWhile_cons,if_neg (by rw[h x y rfl];decide),if_neg (by rw[h x y rfl];decide)];exact⟨rfl,rfl⟩
 | z :: n, r, h1, h2 => by
  obtain⟨i1,i2⟩:=AL (n:=n) (r:=r) (λx hx=>h1 x (by simp[hx])) h2;rw[List.cons_append,List.takeWhile_cons,List.dropWhile_cons,if_pos (h1 z (by simp)),if_pos (h1 z (by simp)),i1,i2];exact⟨rfl,rfl⟩
theorem vW {T:ByteArray} {a:Int} {l r:List Int} {n:ByteArray} (h:AtS T a l) (hl:tr l=ofS n++r) (hn:∀x∈ofS n,aX x=true) (hr:∀x y,r=x::y->aX x=false):(nmF T a).1=n/\AtS T (nmF T a).2 r:=by
 have e:=h.2.trans hl;obtain⟨t1,t2⟩:=AL hn hr;have hs:=gz h.1;have hle:(spA T a).toNat<=(ofS T).length:=by rw[aE];have:=pY (T:=T) (a:=a);omega
 have k:=qy aX (ofS T) _ (spA T a).toNat (Nat.le_refl _) hle;rw[e,t1]at k;have hm:(nmE T a).toNat=(spA T a).toNat+(ofS n).length:=by unfold nmE;rw[Int.toNat_natCast];exact k
 refine⟨?_,tY (qx h.1) ?_⟩
 ·refine vg ?_;show ofS (T.extract (spA T a).toNat (nmE T a).toNat)=_;rw[Bv,e,hm,Nat.add_sub_cancel_left];exact List.take_left
 ·show (ofS T).drop (nmE T a).toNat=r;rw[hm,<-List.drop_drop,e];exact List.drop_left
theorem dz {n:ByteArray} (h:bn n=true):(∀x∈ofS n,aX x=true)/\∃x y,ofS n=x::y/\aX x=true:=by
 unfold bn at h;simp only[bA,decide_eq_true_eq]at h;obtain⟨h1,_,_,_,h5⟩:=h;have ha:∀x∈ofS n,aX x=true:=aT.1 h5;refine⟨ha,?_⟩;cases hn:ofS n with
 |nil=>have:=aE n;rw[hn]at this;simp at this;omega
 |cons x y=>exact⟨x,y,rfl,ha x (by rw[hn];simp)⟩
theorem sR {x:Int} (h:aX x=true):x≠32/\x≠40/\x≠41/\x≠44/\x≠58:=by
 refine⟨?_,?_,?_,?_,?_⟩<;>rintro rfl<;>exact absurd h (by decide)
theorem kK {n:ByteArray} (h:bn n=true) (r:List Int):tr (ofS n++r)=ofS n++r:=by
 obtain⟨_,x,y,e,hx⟩:=dz h;rw[e,List.cons_append,DS (sR hx).1]
def Ca (l:List Int):Prop:=(∀x r,l=x::r->aX x=false)/\∀x r,tr l=x::r->x≠40/\x≠58
theorem Au :Ca []:=⟨λx r h=>by (cases h),λx r h=>by (cases h)⟩
theorem uF {w:List Int} (hw:∀c∈w,c=32) {c:Int} (hc:aX c=false) (l:List Int):∀x r,pnc w c++l=x::r->aX x=false:=λx r h=>by
 cases w with
 |nil=>cases h;exact hc
 | cons d w =>
  have:d=32:=hw d (by simp);subst this;cases h
  decide
theorem jB {w:List Int} (hw:∀c∈w,c=32) {c:Int} (hc:c≠32) (l:List Int):tr (pnc w c++l)=c::(w++l):=by
 unfold pnc;rw[List.append_assoc,ph hw,List.cons_append,DS hc]
theorem ru {w:List Int} (hw:∀c∈w,c=32) {c:Int} (h1:aX c=false) (h2:c≠32/\c≠40/\c≠58) (l:List Int):Ca (pnc w c++l):=⟨uF hw h1 l,λx r h=>by
 rw[jB hw h2.1]at h;cases h;exact h2.2⟩
theorem pG {α:Type} {p:α->Bool}:∀{l:List α} {k:Nat} {x:α} (i:Nat),l[k]? =some x->p x=true->l.Pairwise (λa b=>¬(p a=true/\p b=true))->nN p l i=((i+k:Nat):Int)
 |[],_,_,_,h,_,_=>by simp at h
 | y :: ys, 0, x, i, h, hp, _ => by
  simp only[List.getElem?_cons_zero,Option.some.injEq]at h;subst h;unfold nN;rw[if_pos hp];rfl
 | y :: ys, k + 1, x, i, h, hp, hd => by
  rw[List.getElem?_cons_succ]at h;obtain⟨h1,h2⟩:=List.pairwise_cons.1 hd;unfold nN;rw[if_neg λhy=>h1 x (mG h) ⟨hy,hp⟩,pG (i+1) h hp h2];omega
theorem lT :∀{l seen:List ByteArray},fM seen l=true->(∀x∈l,bn x=true/\∀y∈seen,y≠x)/\l.Pairwise (λa b=>a≠b)
 |[],_,_=>⟨λo h=>by simp at h,.nil⟩
 | o :: rest, seen, h => by
  unfold fM at h;simp only[bA,Bool.not_eq_true']at h;obtain⟨h1,h3,h4⟩:=h;obtain⟨i1,i2⟩:=lT h4;have h3':∀y∈seen,y≠o:=λy hy e=>by
   have:=List.any_eq_false.1 h3 y hy;exact this (dT e)
  refine⟨λq hq=> ?_,List.pairwise_cons.2 ⟨λq hq=> ?_,i2⟩⟩
  ·rcases List.mem_cons.1 hq with rfl|hq
   ·exact⟨h1,h3'⟩
   ·exact⟨(i1 q hq).1,λy hy=>(i1 q hq).2 y (List.mem_append_left _ hy)⟩
  ·exact(i1 q hq).2 o (List.mem_append_right _ (by simp))
theorem td {s:Sg} (h:aM s=true):(∀x∈s.sorts.names,bn x=true)/\s.sorts.names.Pairwise (λa b=>a≠b):=by
 unfold aM cC at h;simp only[bA]at h;obtain⟨h1,h2⟩:=lT h.1.2.2.2.1;exact⟨λo ho=>(h1 o ho).1,h2⟩
theorem p6 {s:Sg} (h:aM s=true) {i:Int} (h0:0<=i) (h1:i<nS s):fdN s.sorts.names (srt s i)=i/\bn (srt s i)=true:=by
 obtain⟨x,hx,hx2⟩:=np (xs:=s.sorts.names) h0 h1;have e:srt s i=x:=by unfold srt;rw[hx];rfl
 obtain⟨n1,n2⟩:=td h;rw[e];refine⟨?_,n1 x (mG hx2)⟩;unfold fdN;rw[pG 0 hx2 (dT rfl) (n2.imp λ{_ _} hne ⟨q1,q2⟩=>hne ((of_decide_eq_true q1).trans (of_decide_eq_true q2).symm))];omega
theorem rf {s:Sg} (h:aM s=true) {op:Int} {o:Opr} (ho:ix s.ops op=some o):fdO s.ops o.name=op:=by
 obtain⟨_,h0,_,hx⟩:=aZ ho;unfold fdO;rw[pG 0 hx (dT rfl) ((gk h).2.imp λ{_ _} hne ⟨q1,q2⟩=>hne ((of_decide_eq_true q1).trans (of_decide_eq_true q2).symm))];omega
def asc (p:Option Tm):List Tm->Prop
 |[]=>True
 | x :: xs => (match p with
  |some y=>¬0<bW y x
  |none=>True)/\asc (some x) xs
theorem sx :∀(xs l:List Tm),asc l.getLast? xs->xs.foldl iy l=l++xs
 |[],l,_=>by simp
 | x :: xs, l, h => by
  have e:iy l x=l++[x]:=by
   have:ff x l l.length=l.length:=by
    cases hl:l.length with
    |zero=>rfl
    | succ n =>
     have hy:l.getLast? =l[n]? :=by rw[List.getLast?_eq_getElem?,hl];rfl
     obtain⟨y,hy2,_⟩:=aS (xs:=l) (i:=n) (by omega);have h1:=h.1;rw[hy,hy2]at h1;unfold ff;rw[hy2];simp only;rw[if_neg h1]
   unfold iy;rw[this,List.take_length,List.drop_length]
  rw[List.foldl_cons,e,sx xs (l++[x]) (by rw[List.getLast?_concat];exact h.2),List.append_assoc];rfl
theorem xz {xs:List Tm} (h:asc none xs):aA xs=xs:=sx xs [] h
theorem rr {s:Sg} {o:Opr} {op:Int} {w:Tm->Bool} (hc:o.comm=true):∀{xs:List Tm} {p:Option Tm} {i:Int},cA s o op w p i xs=true->asc p xs
 |[],_,_,_=>trivial
 | x :: xs, p, i, h => by
  unfold cA qa at h;simp only[bA,Bool.not_eq_true',hc,Bool.true_and]at h;refine⟨?_,rr hc h.2⟩;cases p with
  |none=>trivial
  |some y=>exact of_decide_eq_false h.1.2.2.2.2
theorem oI {s:Sg} {o:Opr} {op:Int} {w:Tm->Bool}:∀{xs:List Tm} {p:Option Tm} {i:Int} {acc:List Tm},cA s o op w p i xs=true->cf s o op i xs acc=some (acc++xs)
 |[],_,_,acc,_=>by rw[List.append_nil];rfl
 | x :: xs, p, i, acc, h => by
  unfold cA qa at h;simp only[bA,Bool.not_eq_true',decide_eq_true_eq]at h;obtain⟨⟨_,h1,h2,h3,_⟩,h5⟩:=h;unfold cf;have e:dw o op acc x=acc++[x]:=by
   unfold dw;rw[if_neg (λq=>by rw[q.1,dT q.2]at h2;cases h2),if_neg (by rw[h3];decide)]
  rw[if_pos h1,e,oI h5,List.append_assoc];rfl
theorem Bj {s:Sg} (hS:aM s=true) {t:Tm} {o:Opr} (ho:ix s.ops t.op=some o) (hop:t.op≠ -1) (hw:bh s t=true) (h1:tsz t<=60) (h2:tdp t<=20):nr s t.op t.args=some t:=by
 have hk:=fu hS (aZ ho).1;rw[gf]at hw;unfold ii dZ at hw;rw[if_neg hop,if_neg hop,ho]at hw;simp only[bA,decide_eq_true_eq]at hw;obtain⟨⟨n1,n2,n3⟩,n4⟩:=hw;have n1:t.name=ByteArray.empty:=of_decide_eq_true n1;unfold nr;rw[ho,bS];unfold bO;have ha:cY o t.args:=by
  unfold cY;cases hc:o.assoc with
  |true=>rw[hc,if_pos rfl]at n3;rw[if_pos rfl];simp only[bA,decide_eq_true_eq]at n3;exact n3.1
  |false=>rw[hc,if_neg (by decide)]at n3;rw[if_neg (by decide)];exact of_decide_eq_true n3
 have hu:¬(o.unit≠0/\t.args.length<2):=λ⟨u1,u2⟩=>by
  have h2:=hk.two (.inr (.inr u1));unfold cY at ha;split at ha<;>omega
 rw[if_pos ha,oI n4,bS,List.nil_append,if_neg hu];have e:dY o t.op t.args=t:=by
  unfold dY;have:(if o.comm=true then aA t.args else t.args)=t.args:=by
   split
   ·rename_i hc;exact xz (rr hc n4)
   ·rfl
  rw[this];obtain⟨op,nm,so,ar⟩:=t;have n1:nm=ByteArray.empty:=n1;have n2:so=0:=n2;subst n1 n2;rfl
 rw[e];refine if_neg λq=> ?_;rcases q with⟨q1,q2⟩|q|q
 ·rw[q1,if_pos rfl]at n3;simp only[bA,decide_eq_true_eq]at n3;omega
 ·omega
 ·omega
theorem vD {x t:Tm} (h:x∈t.args):tdp x<tdp t:=by
 rw[nT t];have:∀l:List Tm,x∈l->tdp x<=mxS tdp l:=λl=>by
  induction l with
  |nil=>intro h;simp at h
  | cons y l ih =>
   intro h;rw[gl];rcases List.mem_cons.1 h with rfl|h
   ·omega
   ·have:=ih h;omega
 have:=this _ h;omega
section
variable {s : Sg} {w : List Int} {T : ByteArray}
theorem DD (hS:aM s=true) {t:Tm} (hw:bh s t=true):∃n r,bn n=true/\tx w s t=ofS n++r:=by
 have hg:=fd hw;rw[oV];unfold txN;cases hg with
 |var h1 h2 h3=>rw[if_pos rfl];exact⟨_,_,h3,rfl⟩
 | @app op o args ho _ _ =>
  have:=(aZ ho).2.1;have hn:=(gk hS).1 o (aZ ho).1;rw[if_neg (show op≠ -1 by omega)]
  show ∃n r,bn n=true/\(match ix s.ops op with
   |none=>[]
   |some o=>if args.length=0 then ofS o.name else ofS o.name++(pnc w 40++(cd w (args.map (tx w s))++pnc w 41)))=ofS n++r
  rw[ho];simp only;split
  ·exact⟨_,[],hn,(List.append_nil _).symm⟩
  ·exact⟨_,_,hn,rfl⟩
theorem oH :∀{ls:List (List Int)},(∀l∈ls,1<=l.length)->ls.length<=(cd w ls).length
 |[],_=>Nat.le_refl _
 |[x],h=>h x (by simp)
 | x :: y :: r, h => by
  have:=oH (ls:=y::r) λl hl=>h l (by simp[List.mem_cons.1 hl]);have:=h x (by simp);unfold cd;simp only[List.length_append,List.length_cons]at*;omega
theorem vC (hw:∀c∈w,c=32) (rd:Int->Tm×Bool×Int) (f0:Tm->List Int):∀(xs:List Tm) (acc:List Tm) (f:Nat) (a:Int) (post:List Int),(∀x∈xs,∀a post,AtS T a (f0 x++post)->Ca post->(rd a).1=x/\(rd a).2.1=true/\AtS T (rd a).2.2 post)->xs≠[]->xs.length<f->AtS T a (cd w (xs.map f0)++(pnc w 41++post))->
  (bG T rd f true a acc).1=true/\(bG T rd f true a acc).2.2=acc++xs/\AtS T (bG T rd f true a acc).2.1 (pnc w 41++post)
 |[],_,_,_,_,_,h,_,_=>absurd rfl h
 | [x], acc, f + 1, a, post, hr, _, hf, h => by
  obtain⟨r1,r2,r3⟩:=hr x (by simp) a (pnc w 41++post) h (ru hw (by decide) (by decide) _);obtain⟨k1,k2⟩:=mh (c:=44) r3 (by rw[jB hw (by decide)];intro r e;cases e);unfold bG;rw[if_pos rfl,if_pos r2,k1,r1];obtain⟨g,rfl⟩:∃g,f=g+1:=⟨f-1,by simp at hf;omega⟩;unfold bG;rw[if_neg (by decide)];exact⟨rfl,rfl,k2⟩
 | x :: y :: r, acc, f + 1, a, post, hr, _, hf, h => by
  have h:AtS T a (f0 x++(pnc w 44++32::(cd w ((y::r).map f0)++(pnc w 41++post)))):=by
   have e:cd w ((x::y::r).map f0)++(pnc w 41++post)=f0 x++(pnc w 44++32::(cd w ((y::r).map f0)++(pnc w 41++post))):=by
    show (f0 x++(pnc w 44++32::cd w ((y::r).map f0)))++_=_;simp only[List.append_assoc,List.cons_append]
   rw[e]at h;exact h
  obtain⟨r1,r2,r3⟩:=hr x (by simp) a _ h (ru hw (by decide) (by decide) _);obtain⟨k1,k2⟩:=pN (c:=44) r3 (jB hw (by decide) _);have k3:AtS T (tkF T (rd a).2.2 44).2 (cd w ((y::r).map f0)++(pnc w 41++post)):=k2.tr (by rw[ph hw,F6]);obtain⟨i1,i2,i3⟩:=vC hw rd f0 (y::r) (acc++[x]) f _ post (λz hz=>hr z (by simp[List.mem_cons.1 hz])) (by simp) (by simp at hf ⊢;omega) k3;unfold bG;rw[if_pos rfl,if_pos r2,k1,r1];exact⟨i1,by rw[i2,List.append_assoc];rfl,i3⟩
theorem Dm {a:Int} {l:List Int} (h:AtS T a l):(tr l).length<=T.size:=by
 rw[<-h.2,List.length_drop,aE];omega
theorem vt (hS:aM s=true) (hw:∀c∈w,c=32):∀(e:Nat) (t:Tm) (a:Int) (post:List Int),tdp t<=e->tsz t<=60->tdp t<=20->bh s t=true->AtS T a (tx w s t++post)->Ca post->(aI s T e a).1=t/\(aI s T e a).2.1=true/\AtS T (aI s T e a).2.2 post
 |0,t,_,_,h,_,_,_,_,_=>by rw[nT]at h;omega
 | e + 1, t, a, post, he, hz, hd, hwf, h, hp => by
  have hg:=fd hwf;rw[oV]at h;unfold txN at h;unfold aI;cases hgc:hg with
  | @var name sort h1 h2 h3=>
   obtain⟨f1,f2⟩:=p6 hS h1 h2;rw[if_pos rfl]at h;simp only at h;rw[List.append_assoc,List.append_assoc]at h;obtain⟨a1,a2⟩:=vW h (kK h3 _) (dz h3).1 (uF hw (by decide) _);obtain⟨b1,b2⟩:=pN (c:=58) a2 (jB hw (by decide) _);have b3:=b2.tr (r:=ofS (srt s sort)++post) (ph hw _);obtain⟨c1,c2⟩:=vW b3 (kK f2 _) (dz f2).1 hp.1;rw[if_pos b1,a1];unfold FS;rw[c1,f1,h3];refine⟨rfl,?_,c2⟩;show (true&&inN (nS s) sort)=true;rw[Bool.true_and];exact bc.2 ⟨h1,h2⟩
  | @app op o args ho hn ha =>
   have h0:=(aZ ho).2.1;have hne:op≠ -1:=by omega
   have hnm:=(gk hS).1 o (aZ ho).1;have hb:=Bj hS (t:=Tm.mk op ByteArray.empty 0 args) ho hne hwf hz hd;rw[if_neg hne]at h;have h:AtS T a ((if args.length=0 then ofS o.name else ofS o.name++(pnc w 40++(cd w (args.map (tx w s))++pnc w 41)))++post):=by
    have e0:ix s.ops (Tm.mk op ByteArray.empty 0 args).op=some o:=ho;rw[e0]at h;exact h
   have hb:nr s op args=some (Tm.mk op ByteArray.empty 0 args):=hb;cases args with
   | nil =>
    rw[if_pos (show ([]:List Tm).length=0 from rfl)]at h;obtain⟨a1,a2⟩:=vW h (kK hnm _) (dz hnm).1 hp.1;obtain⟨b1,b2⟩:=mh (c:=58) a2 λr q=>(hp.2 _ _ q).2 rfl;obtain⟨c1,c2⟩:=mh (c:=40) b2 λr q=>(hp.2 _ _ q).1 rfl;rw[b1,if_neg (by decide),a1,rf hS ho,c1];unfold bG;rw[if_neg (by decide)];unfold mf;rw[if_pos rfl,if_neg (by omega),if_pos (show ([]:List Tm).length=0 from rfl)];simp only;unfold mS;rw[hb];exact⟨rfl,rfl,c2⟩
   | cons x xs =>
    rw[if_neg (by simp)]at h;rw[List.append_assoc,List.append_assoc,List.append_assoc]at h;obtain⟨a1,a2⟩:=vW h (kK hnm _) (dz hnm).1 (uF hw (by decide) _);obtain⟨b1,b2⟩:=mh (c:=58) a2 (by rw[jB hw (by decide)];intro r q;cases q);obtain⟨c1,c2⟩:=pN (c:=40) b2 (jB hw (by decide) _);have c3:=c2.tr (ph hw _);rw[b1,if_neg (by decide),a1,rf hS ho,c1];have hwx:∀y∈x::xs,bh s y=true:=by
     rw[gf]at hwf;unfold ii at hwf;rw[if_neg (show (Tm.mk op ByteArray.empty 0 (x::xs)).op≠ -1 from hne),show ix s.ops (Tm.mk op ByteArray.empty 0 (x::xs)).op=some o from ho]at hwf;simp only[bA]at hwf;exact i9 hwf.2
    have hlen:(x::xs).length<T.size+3:=by
     have h5:=Dm c2;rw[ph hw]at h5;have h6:=oH (w:=w) (ls:=(x::xs).map (tx w s)) λl hl=>by
      obtain⟨y,hy,rfl⟩:=List.mem_map.1 hl;obtain⟨n,r,q1,q2⟩:=DD (w:=w) hS (hwx y hy);obtain⟨_,z,z2,q3,_⟩:=dz q1;rw[q2,q3];simp
     have h7:(tr (cd w ((x::xs).map (tx w s))++(pnc w 41++post))).length=(cd w ((x::xs).map (tx w s))++(pnc w 41++post)).length:=by
      obtain⟨n,r,q1,q2⟩:=DD (w:=w) hS (hwx x (by simp));obtain⟨r2,q3⟩:∃r2,cd w ((x::xs).map (tx w s))++(pnc w 41++post)=ofS n++r2:=by
       cases xs with
       |nil=>exact⟨_,by show tx w s x++_=_;rw[q2,List.append_assoc]⟩
       |cons y ys=>exact⟨_,by show (tx w s x++_)++_=_;rw[q2,List.append_assoc,List.append_assoc]⟩
      rw[q3,kK q1]
     rw[h7,List.length_append]at h5;rw[List.length_map]at h6;omega
    obtain⟨d1,d2,d3⟩:=vC hw (aI s T e) (tx w s) (x::xs) [] (T.size+3) _ post (λy hy a post h hp=>vt hS hw e y a post (by have:=vD (t:=Tm.mk op ByteArray.empty 0 (x::xs)) hy;omega) (by have:=qn (t:=Tm.mk op ByteArray.empty 0 (x::xs)) hy;omega) (by have:=vD (t:=Tm.mk op ByteArray.empty 0 (x::xs)) hy;omega) (hwx y hy) h hp) (by simp) hlen c3;obtain⟨e1,e2⟩:=pN (c:=41) d3 (jB hw (by decide) _);have e3:=e2.tr (ph hw _);unfold mf;rw[if_pos d1,if_neg (by omega),d2,if_neg (by simp),if_pos e1,List.nil_append];unfold mS;rw[hb];exact⟨rfl,rfl,e3⟩
theorem rJ (hS:aM s=true) (hw:∀c∈w,c=32) {t:Tm} (ht:isT s t=true) (hT:ofS T=tx w s t) (hl:T.size<=2000):fm s T=(t,true):=by
 unfold isT at ht;simp only[bA,decide_eq_true_eq]at ht;obtain⟨h1,h2,h3⟩:=ht;have h0:AtS T 0 (tx w s t++[]):=tY (Fa hl) (by rw[List.append_nil];exact hT);obtain⟨r1,r2,r3⟩:=vt hS hw 20 t 0 [] h2 h1 h2 h3 h0 Au;have e:=r3.2;have k1:=List.drop_eq_nil_iff.1 (show (ofS T).drop (spA T (aI s T 20 0).2.2).toNat=[]from e);rw[aE]at k1;have k2:=(gz r3.1).2;have k3:=pY (T:=T) (a:=(aI s T 20 0).2.2);unfold fm;rw[if_pos ⟨hS,hl,r2,by omega⟩,r1]
end
end Go.Proofs.YtfdkldmkbibknaaGreat.Den

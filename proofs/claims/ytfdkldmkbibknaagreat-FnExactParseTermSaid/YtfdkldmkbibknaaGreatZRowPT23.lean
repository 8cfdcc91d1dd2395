/-
  Texts that the claim rests on, merged: PI4, Txt1, Txt2, Rd1, Rd2, Rd3, Rd4.
-/
import Derived.Test.YtfdkldmkbibknaaGreatZRowPT11
import Derived.Test.YtfdkldmkbibknaaGreatZRowPT21
import Derived.Test.YtfdkldmkbibknaaGreatZRowPT22

namespace Go.Proofs.YtfdkldmkbibknaaGreat.Den
open Go.RowKit
set_option maxRecDepth 100000
set_option linter.unusedVariables false
namespace z15
structure Gs where
 none_:Unit
noncomputable def ents (_:Gs):List Ent:=[]
noncomputable def b0 {R:Type} (G:Gs) (n:Nat) (xh:ByteArray) (xc xd xe:LI) (xa:LB) (xb:LS) (xf:LO) (h2:LM) (h0:Int) (nx k0:Int->Option R):Option R:=
 bif decide (h0<(ByteArray.size xh:Int))then
  (
  Option.bind (sIx xh h0) λb2=>
  bif decide (b2=32)then
   (nx (wr (h0+1)))
  else
   k0 h0
  )
 else
  k0 h0
noncomputable def l0 {R:Type} (G:Gs) (n m:Nat) (xh:ByteArray) (xc xd xe:LI) (xa:LB) (xb:LS) (xf:LO) (h2:LM) (h0:Int) (k0:Int->Option R):Option R:=iter (λ(v:Int) nx=>b0 G n xh xc xd xe xa xb xf h2 v (λy0=>nx y0) k0) m h0
noncomputable def main {R:Type} (G:Gs) (n:Nat) (xc xd xe:LI) (xa:LB) (xb:LS) (xf:LO) (xg:LM) (xh:ByteArray) (xi:Int) (K:Int->LM->Option R):Option R:=
 l0 G n n xh xc xd xe xa xb xf xg xi
  (λh02=>K h02 xg)
noncomputable def dl0 (G:Gs) (n m:Nat) (R:Type) (st:St) (K:Kt R):Option R:=match st with
 |⟨[(0,.one (.p 0 0))],[.box [.p 1 0,.s xh,.i h0],.box [.l .i xc,.l .i xd,.l .i xe,.l .s xa,.l (.n 5) xb,.l (.n 8) xf,.m 2],.map .i h2]⟩=>l0 G n m xh xc xd xe xa xb xf h2 h0 (λh02=>K (.exit 0) ⟨[],[.box [.p 1 0,.s xh,.i h02],.box [.l .i xc,.l .i xd,.l .i xe,.l .s xa,.l (.n 5) xb,.l (.n 8) xf,.m 2],.map .i h2]⟩)
 |_=>none
noncomputable def pc (G:Gs) (n:Nat):Pcs:=⟨λR id st K=>bif Nat.beq id 0 then dl0 G n n R st K else none,nK,nK⟩
noncomputable def an:Ann:=⟨31,3,[(0,[0])],[],[],[(0,⟨[([0,1,2,3,4,5,6,7,8,9,10,11,12,13,14,15,16,17,18,19,20,21],[],[])],[],[],[0,1,2],[]⟩)],[]⟩
noncomputable abbrev bd:=bodyOf Tryz.f28
noncomputable abbrev q0:=nthC [0,0] bd
theorem pl0 {G:Gs} (hG:AE (ents G)) (n:Nat):∀m,PO an (.loop q0) (dl0 G n m):=lpc hG (pc G n) [0] ⟨[],[],[(0,[])]⟩ (apl [] trivial) (λR st K=>by unfold dl0;split<;>rfl) λm R st K r h=>by unfold dl0 at h;split at h;exact .trans (by kernel_rfl) h;cases h
theorem ok {G:Gs} (hG:AE (ents G)) {g:Q} (hg:∀xc xd xe xa xb xf xg xh xi r,g xc xd xe xa xb xf xg xh xi=some r->∃n,main (R:=AT×List Ob) G n xc xd xe xa xb xf xg xh xi (λr0 r1=>some (.tup [],[.box [.p 1 0,.s xh,.i r0],.box [.l .i xc,.l .i xd,.l .i xe,.l .s xa,.l (.n 5) xb,.l (.n 8) xf,.m 2],.map .i r1]))=some (.tup [],[.box [.p 1 0,.s xh,.i r.1],.box [.l .i xc,.l .i xd,.l .i xe,.l .s xa,.l (.n 5) xb,.l (.n 8) xf,.m 2],.map .i r.2])):EO (ent g):=λR xs H K r hc=>by
 simp only[ent]at hc
 split at hc
 ·obtain⟨r,j1,j2⟩:=bind_some hc
  obtain⟨n,j3⟩:=hg _ _ _ _ _ _ _ _ _ _ j1
  exact⟨_,_,j2,fnP hG an (pc G n) bd [] Tryz.func28 (.inl rfl) (apl [(1,0,.loop q0)] ⟨pl0 hG n n,trivial⟩) (.trans (by kernel_rfl) j3)⟩
 ·cases hc
end z15
namespace z13
structure Gs where
 z15:z15.Q
noncomputable def ents (G:Gs):List Ent:=[z15.ent G.z15]
noncomputable def main {R:Type} (G:Gs) (n:Nat) (xc xd xe:LI) (xa:LB) (xb:LS) (xf:LO) (xg:LM) (xh:ByteArray) (xi c:Int) (K:Bool->Int->LM->Option R):Option R:=
 Option.bind (G.z15 xc xd xe xa xb xf xg xh xi) λr=>
 bif decide (r.1<(ByteArray.size xh:Int))then
  (
  Option.bind (sIx xh r.1) λb2=>
  bif decide (b2=c)then
   (K true (wr (r.1+1)) r.2)
  else
   K false r.1 r.2
  )
 else
  K false r.1 r.2
noncomputable def pc (_:Gs) (_:Nat):Pcs:=⟨nK,nK,nK⟩
noncomputable def an:Ann:=⟨37,3,[],[],[4],[(2,⟨[([0,1,2,3,4,5,6,7,8,9,10,11,12,13,14,15,16,17,18,19,20,21,22],[],[])],[],[],[0,1,2],[]⟩)],[]⟩
noncomputable abbrev bd:=bodyOf Tryz.f62
theorem ok {G:Gs} (hG:AE (ents G)) {g:Q} (hg:∀xc xd xe xa xb xf xg xh xi c r,g xc xd xe xa xb xf xg xh xi c=some r->∃n,main (R:=AT×List Ob) G n xc xd xe xa xb xf xg xh xi c (λr0 r1 r2=>some (.one (.b r0),[.box [.p 1 0,.s xh,.i r1],.box [.l .i xc,.l .i xd,.l .i xe,.l .s xa,.l (.n 5) xb,.l (.n 8) xf,.m 2],.map .i r2]))=some (.one (.b r.1),[.box [.p 1 0,.s xh,.i r.2.1],.box [.l .i xc,.l .i xd,.l .i xe,.l .s xa,.l (.n 5) xb,.l (.n 8) xf,.m 2],.map .i r.2.2])):EO (ent g):=λR xs H K r hc=>by
 simp only[ent]at hc
 split at hc
 ·obtain⟨r,j1,j2⟩:=bind_some hc
  obtain⟨n,j3⟩:=hg _ _ _ _ _ _ _ _ _ _ _ j1
  exact⟨_,_,j2,fnP hG an (pc G n) bd [.tmp 4] Tryz.func62 (.inl rfl) (apl [] trivial) (.trans (by kernel_rfl) j3)⟩
 ·cases hc
end z13
namespace z14
structure Gs where
 z15:z15.Q
 z0x:z0x.Q
noncomputable def ents (G:Gs):List Ent:=[z15.ent G.z15,z0x.ent G.z0x]
noncomputable def b3 {R:Type} (G:Gs) (n:Nat) (xh:ByteArray) (xc xd xe:LI) (xa:LB) (xb:LS) (xf:LO) (from1:Int) (h2:LM) (h0:Int) (nx k0:Int->Option R):Option R:=
 bif decide (h0<(ByteArray.size xh:Int))then
  (
  Option.bind (sIx xh h0) λb2=>
  Option.bind (G.z0x b2) λr2=>
  bif r2 then
   (nx (wr (h0+1)))
  else
   k0 h0
  )
 else
  k0 h0
noncomputable def l3 {R:Type} (G:Gs) (n m:Nat) (xh:ByteArray) (xc xd xe:LI) (xa:LB) (xb:LS) (xf:LO) (from1:Int) (h2:LM) (h0:Int) (k0:Int->Option R):Option R:=iter (λ(v:Int) nx=>b3 G n xh xc xd xe xa xb xf from1 h2 v (λy0=>nx y0) k0) m h0
noncomputable def main {R:Type} (G:Gs) (n:Nat) (xc xd xe:LI) (xa:LB) (xb:LS) (xf:LO) (xg:LM) (xh:ByteArray) (xi:Int) (K:ByteArray->Int->LM->Option R):Option R:=
 Option.bind (G.z15 xc xd xe xa xb xf xg xh xi) λr=>
 l3 G n n xh xc xd xe xa xb xf r.1 r.2 r.1
  (fun h02 =>
   Option.bind (sSub xh r.1 h02) λq2=>
   K q2 h02 r.2
  )
noncomputable def dl3 (G:Gs) (n m:Nat) (R:Type) (st:St) (K:Kt R):Option R:=match st with
 |⟨[(0,.one (.p 0 0)),(3,.one (.i from1))],[.box [.p 1 0,.s xh,.i h0],.box [.l .i xc,.l .i xd,.l .i xe,.l .s xa,.l (.n 5) xb,.l (.n 8) xf,.m 2],.map .i h2]⟩=>l3 G n m xh xc xd xe xa xb xf from1 h2 h0 (λh02=>K (.exit 0) ⟨[(0,.one (.p 0 0)),(3,.one (.i from1))],[.box [.p 1 0,.s xh,.i h02],.box [.l .i xc,.l .i xd,.l .i xe,.l .s xa,.l (.n 5) xb,.l (.n 8) xf,.m 2],.map .i h2]⟩)
 |_=>none
noncomputable def pc (G:Gs) (n:Nat):Pcs:=⟨λR id st K=>bif Nat.beq id 3 then dl3 G n n R st K else none,nK,nK⟩
noncomputable def an:Ann:=⟨49,3,[(3,[0,3])],[],[2],[(3,⟨[([0,1,2,3,4,5,6,7,8,9,10,11,12,13,14,15,16,17,18,19,20,21],[],[])],[],[],[0,1,2],[]⟩),(5,⟨[([0,1,2,3,4,5,6,7,8,9,10],[],[])],[],[],[0,1,2],[]⟩)],[]⟩
noncomputable abbrev bd:=bodyOf Tryz.f61
noncomputable abbrev q3:=nthC [1,1,1,0,0,0] bd
theorem pl3 {G:Gs} (hG:AE (ents G)) (n:Nat):∀m,PO an (.loop q3) (dl3 G n m):=lpc hG (pc G n) [0,3] ⟨[0,3],[2],[(0,[0,3])]⟩ (apl [] trivial) (λR st K=>by unfold dl3;split<;>rfl) λm R st K r h=>by unfold dl3 at h;split at h;exact .trans (by kernel_rfl) h;cases h
theorem ok {G:Gs} (hG:AE (ents G)) {g:Q} (hg:∀xc xd xe xa xb xf xg xh xi r,g xc xd xe xa xb xf xg xh xi=some r->∃n,main (R:=AT×List Ob) G n xc xd xe xa xb xf xg xh xi (λr0 r1 r2=>some (.one (.s r0),[.box [.p 1 0,.s xh,.i r1],.box [.l .i xc,.l .i xd,.l .i xe,.l .s xa,.l (.n 5) xb,.l (.n 8) xf,.m 2],.map .i r2]))=some (.one (.s r.1),[.box [.p 1 0,.s xh,.i r.2.1],.box [.l .i xc,.l .i xd,.l .i xe,.l .s xa,.l (.n 5) xb,.l (.n 8) xf,.m 2],.map .i r.2.2])):EO (ent g):=λR xs H K r hc=>by
 simp only[ent]at hc
 split at hc
 ·obtain⟨r,j1,j2⟩:=bind_some hc
  obtain⟨n,j3⟩:=hg _ _ _ _ _ _ _ _ _ _ j1
  exact⟨_,_,j2,fnP hG an (pc G n) bd [.tmp 2] Tryz.func61 (.inl rfl) (apl [(1,3,.loop q3)] ⟨pl3 hG n n,trivial⟩) (.trans (by kernel_rfl) j3)⟩
 ·cases hc
end z14
namespace z4c
structure Gs where
 none_:Unit
noncomputable def ents (_:Gs):List Ent:=[]
noncomputable def b2 {R:Type} (G:Gs) (n:Nat) (s:LB) (v2:ByteArray) (t7 t8:Int) (nx k0:Int->Option R) (k1:Option R):Option R:=
 bif decide (t8<t7)then
  (
  Option.bind (ix s t8) λe=>
  bif sEq v2 e then
   (k0 t8)
  else
   nx (wr (t8+1))
  )
 else
  k1
noncomputable def l2 {R:Type} (G:Gs) (n m:Nat) (s:LB) (v2:ByteArray) (t7 t8:Int) (k0:Int->Option R) (k1:Option R):Option R:=iter (λ(v:Int) nx=>b2 G n s v2 t7 v (λy0=>nx y0) k0 k1) m t8
noncomputable def main {R:Type} (G:Gs) (n:Nat) (s:LB) (v2:ByteArray) (K:Int->Option R):Option R:=
 l2 G n n s v2 (List.length s:Int) 0
  (λt4=>K t4)
  (K (-1))
noncomputable def dl2 (G:Gs) (n m:Nat) (R:Type) (st:St) (K:Kt R):Option R:=match st with
 |⟨[(0,.one (.l .s s)),(1,.one (.s v2)),(7,.one (.i t7)),(8,.one (.i t8))],[]⟩=>l2 G n m s v2 t7 t8 (λt4=>K .ret ⟨[(4,.one (.i t4))],[]⟩) (K (.exit 0) ⟨[],[]⟩)
 |_=>none
noncomputable def pc (G:Gs) (n:Nat):Pcs:=⟨λR id st K=>bif Nat.beq id 2 then dl2 G n n R st K else none,nK,nK⟩
noncomputable def an:Ann:=⟨19,0,[(2,[0,1,7,8])],[],[4],[],[]⟩
noncomputable abbrev bd:=bodyOf Tryz.f63
noncomputable abbrev q2:=nthC [1,0,1,0,0] bd
theorem pl2 {G:Gs} (hG:AE (ents G)) (n:Nat):∀m,PO an (.loop q2) (dl2 G n m):=lpc hG (pc G n) [0,1,7,8] ⟨[],[4],[(0,[])]⟩ (apl [] trivial) (λR st K=>by unfold dl2;split<;>rfl) λm R st K r h=>by unfold dl2 at h;split at h;exact .trans (by kernel_rfl) h;cases h
noncomputable def Does (G:Gs) (s:LB) (v2:ByteArray) (r:Int):Prop:=∃n,main (R:=AT×List Ob) G n s v2 (λr0=>some (.one (.i r0),[]))=some (.one (.i r),[])
theorem ok {G:Gs} (hG:AE (ents G)) {g:Q} (hg:∀s v2 r,g s v2=some r->Does G s v2 r):EO (ent g):=λR xs H K r hc=>by
 simp only[ent]at hc
 split at hc
 ·obtain⟨r,j1,j2⟩:=bind_some hc
  obtain⟨n,j3⟩:=hg _ _ _ j1
  exact⟨_,_,j2,fnP hG an (pc G n) bd [.tmp 4] Tryz.func63 (.inl rfl) (apl [(1,2,.loop q2)] ⟨pl2 hG n n,trivial⟩) (.trans (by kernel_rfl) j3)⟩
 ·cases hc
end z4c
namespace z17
structure Gs where
 none_:Unit
noncomputable def ents (_:Gs):List Ent:=[]
noncomputable def main {R:Type} (G:Gs) (n:Nat) (o:Opr) (c0:ByteArray) (K:Bool->Option R):Option R:=
 K (sEq (Opr.name o) c0)
noncomputable def pc (_:Gs) (_:Nat):Pcs:=⟨nK,nK,nK⟩
noncomputable def an:Ann:=⟨8,1,[],[],[3],[],[]⟩
noncomputable abbrev bd:=bodyOf Tryz.f66
theorem ok {G:Gs} (hG:AE (ents G)) {g:Q} (hg:∀o c0 r,g o c0=some r->∃n,main (R:=AT×List Ob) G n o c0 (λr0=>some (.one (.b r0),[.box [.s c0]]))=some (.one (.b r),[.box [.s c0]])):EO (ent g):=λR xs H K r hc=>by
 simp only[ent]at hc
 split at hc
 ·obtain⟨r,j1,j2⟩:=bind_some hc
  obtain⟨n,j3⟩:=hg _ _ _ j1
  exact⟨_,_,j2,fnP hG an (pc G n) bd [.tmp 3] Tryz.func66 (.inl rfl) (apl [] trivial) (.trans (by kernel_rfl) j3)⟩
 ·cases hc
end z17
namespace z4b
structure Gs where
 z17:z17.Q
noncomputable def ents (G:Gs):List Ent:=[z17.ent G.z17]
noncomputable def b2 {R:Type} (G:Gs) (n:Nat) (fc:ByteArray) (s:LO) (t7 t8:Int) (nx k0:Int->Option R) (k1:Option R):Option R:=
 bif decide (t8<t7)then
  (
  Option.bind (ix s t8) λe=>
  Option.bind (G.z17 e fc) λr=>
  bif r then
   (k0 t8)
  else
   nx (wr (t8+1))
  )
 else
  k1
noncomputable def l2 {R:Type} (G:Gs) (n m:Nat) (fc:ByteArray) (s:LO) (t7 t8:Int) (k0:Int->Option R) (k1:Option R):Option R:=iter (λ(v:Int) nx=>b2 G n fc s t7 v (λy0=>nx y0) k0 k1) m t8
noncomputable def main {R:Type} (G:Gs) (n:Nat) (s:LO) (fc:ByteArray) (K:Int->Option R):Option R:=
 l2 G n n fc s (List.length s:Int) 0
  (λt4=>K t4)
  (K (-1))
noncomputable def dl2 (G:Gs) (n m:Nat) (R:Type) (st:St) (K:Kt R):Option R:=match st with
 |⟨[(0,.one (.l (.n 8) s)),(1,.one (.f 66 [.p 0 0])),(7,.one (.i t7)),(8,.one (.i t8))],[.box [.s fc]]⟩=>l2 G n m fc s t7 t8 (λt4=>K .ret ⟨[(4,.one (.i t4))],[.box [.s fc]]⟩) (K (.exit 0) ⟨[],[.box [.s fc]]⟩)
 |_=>none
noncomputable def pc (G:Gs) (n:Nat):Pcs:=⟨λR id st K=>bif Nat.beq id 2 then dl2 G n n R st K else none,nK,nK⟩
noncomputable def an:Ann:=⟨19,1,[(2,[0,1,7,8])],[],[4],[],[]⟩
noncomputable abbrev bd:=bodyOf Tryz.f65
noncomputable abbrev q2:=nthC [1,0,1,0,0] bd
theorem pl2 {G:Gs} (hG:AE (ents G)) (n:Nat):∀m,PO an (.loop q2) (dl2 G n m):=lpc hG (pc G n) [0,1,7,8] ⟨[],[4],[(0,[])]⟩ (apl [] trivial) (λR st K=>by unfold dl2;split<;>rfl) λm R st K r h=>by unfold dl2 at h;split at h;exact .trans (by kernel_rfl) h;cases h
noncomputable def Does (G:Gs) (s:LO) (fc:ByteArray) (r:Int):Prop:=∃n,main (R:=AT×List Ob) G n s fc (λr0=>some (.one (.i r0),[.box [.s fc]]))=some (.one (.i r),[.box [.s fc]])
theorem ok {G:Gs} (hG:AE (ents G)) {g:Q} (hg:∀s fc r,g s fc=some r->Does G s fc r):EO (ent g):=λR xs H K r hc=>by
 simp only[ent]at hc
 split at hc
 ·obtain⟨r,j1,j2⟩:=bind_some hc
  obtain⟨n,j3⟩:=hg _ _ _ j1
  exact⟨_,_,j2,fnP hG an (pc G n) bd [.tmp 4] Tryz.func65 (.inl rfl) (apl [(1,2,.loop q2)] ⟨pl2 hG n n,trivial⟩) (.trans (by kernel_rfl) j3)⟩
 ·cases hc
end z4b
namespace z16
structure Gs where
 z14:z14.Q
 z13:z13.Q
 z4c:z4c.Q
 z0o:z0o.Q
 z4b:z4b.Q
 z16:z16.Q
 z0k:z0k.Q
noncomputable def ents (G:Gs):List Ent:=[z14.ent G.z14,z13.ent G.z13,z4c.ent G.z4c,z0o.ent G.z0o,z4b.ent G.z4b,ent G.z16,z0k.ent G.z0k]
noncomputable def d5 {R:Type} (G:Gs) (n:Nat) (xh:ByteArray) (xc xd xe:LI) (xa:LB) (xb:LS) (xf:LO) (h0:Int) (h2:LM) (h3:Int) (h32:ByteArray) (h33:Int) (h4:LT) (h5:ByteArray) (k0:Int->Int->LM->Option R):Option R:=
 Option.bind (G.z14 xc xd xe xa xb xf h2 xh h0) λr4=>
 Option.bind (G.z4c xa r4.1) λr6=>
 k0 r6 r4.2.1 r4.2.2
noncomputable def d5_1 {R:Type} (G:Gs) (n:Nat) (xh:ByteArray) (xc xd xe:LI) (xa:LB) (xb:LS) (xf:LO) (h0:Int) (h2:LM) (h3:Int) (h32:ByteArray) (h33:Int) (h4:LT) (h5:ByteArray) (k0:Int->Int->LM->Option R):Option R:=
 Option.bind (G.z14 xc xd xe xa xb xf h2 xh h0) λr=>
 Option.bind (G.z4c xa r.1) λr3=>
 k0 r3 r.2.1 r.2.2
theorem e5_1 {R:Type} (G:Gs) (n:Nat) (xh:ByteArray) (xc xd xe:LI) (xa:LB) (xb:LS) (xf:LO) (h0:Int) (h2:LM) (h3:Int) (h32:ByteArray) (h33:Int) (h4:LT) (h5:ByteArray) (k0:Int->Int->LM->Option R):d5_1 G n xh xc xd xe xa xb xf h0 h2 h3 h32 h33 h4 h5 k0=d5 G n xh xc xd xe xa xb xf h0 h2 h3 h32 h33 h4 h5 k0:=by
 unfold d5_1 d5
 generalize G.z14 xc xd xe xa xb xf h2 xh h0=o0
 cases o0<;>first|rfl|simp
noncomputable def d5_2 {R:Type} (G:Gs) (n:Nat) (xh:ByteArray) (xc xd xe:LI) (xa:LB) (xb:LS) (xf:LO) (h0:Int) (h2:LM) (h3:Int) (h32:ByteArray) (h33:Int) (h4:LT) (h5:ByteArray) (k0:Int->Int->LM->Option R):Option R:=
 Option.bind (G.z14 xc xd xe xa xb xf h2 xh h0) λr=>
 Option.bind (G.z4c xa r.1) λr3=>
 k0 r3 r.2.1 r.2.2
theorem e5_2 {R:Type} (G:Gs) (n:Nat) (xh:ByteArray) (xc xd xe:LI) (xa:LB) (xb:LS) (xf:LO) (h0:Int) (h2:LM) (h3:Int) (h32:ByteArray) (h33:Int) (h4:LT) (h5:ByteArray) (k0:Int->Int->LM->Option R):d5_2 G n xh xc xd xe xa xb xf h0 h2 h3 h32 h33 h4 h5 k0=d5 G n xh xc xd xe xa xb xf h0 h2 h3 h32 h33 h4 h5 k0:=by
 unfold d5_2 d5
 generalize G.z14 xc xd xe xa xb xf h2 xh h0=o0
 cases o0<;>first|rfl|simp
noncomputable def b11 {R:Type} (G:Gs) (n:Nat) (xh:ByteArray) (xc xd xe:LI) (xa:LB) (xb:LS) (xf:LO) (depth op h3:Int) (h32:ByteArray) (h33:Int) (h4:LT) (open1:Bool) (h0:Int) (h2:LM) (h5:LT) (nx:Bool->Int->LM->LT->Option R) (k0:Bool->Int->LM->Int->ByteArray->Int->LT->Option R) (k1:Int->LM->LT->Option R):Option R:=
 bif open1 then
  (
  Option.bind (G.z16 xc xd xe xa xb xf h2 xh h0 (wr (depth+1))) λr=>
  bif !r.2.1 then
   (k0 false r.2.2.1 r.2.2.2 0 ByteArray.empty 0 [])
  else
   Option.bind (lim (h5++[(Tm.mk (Tm.op r.1) (Tm.name r.1) (Tm.sort r.1) (Tm.args r.1))])) λzs=>
   Option.bind (G.z13 xc xd xe xa xb xf r.2.2.2 xh r.2.2.1 44) λr2=>
   nx r2.1 r2.2.1 r2.2.2 zs
  )
 else
  k1 h0 h2 h5
noncomputable def l11 {R:Type} (G:Gs) (n m:Nat) (xh:ByteArray) (xc xd xe:LI) (xa:LB) (xb:LS) (xf:LO) (depth op h3:Int) (h32:ByteArray) (h33:Int) (h4:LT) (open1:Bool) (h0:Int) (h2:LM) (h5:LT) (k0:Bool->Int->LM->Int->ByteArray->Int->LT->Option R) (k1:Int->LM->LT->Option R):Option R:=iter (λ(v:Bool×Int×LM×LT) nx=>b11 G n xh xc xd xe xa xb xf depth op h3 h32 h33 h4 v.1 v.2.1 v.2.2.1 v.2.2.2 (λy0 y1 y2 y3=>nx (y0,y1,y2,y3)) k0 k1) m (open1,h0,h2,h5)
noncomputable def c19 {R:Type} (G:Gs) (n:Nat) (xh:ByteArray) (xc xd xe:LI) (xa:LB) (xb:LS) (xf:LO) (op h0:Int) (h2:LM) (h3:Int) (h32:ByteArray) (h33:Int) (h4 h5:LT) (k0:Bool->LM->Int->ByteArray->Int->LT->Option R):Option R:=
 Option.bind (G.z0k xc xd xe xa xb xf h2 op h5) λr=>
 k0 r.2.1 r.2.2 (Tm.op r.1) (Tm.name r.1) (Tm.sort r.1) (Tm.args r.1)
noncomputable def main {R:Type} (G:Gs) (n:Nat) (xc xd xe:LI) (xa:LB) (xb:LS) (xf:LO) (xg:LM) (xh:ByteArray) (xi depth:Int) (K:Tm->Bool->Int->LM->Option R):Option R:=
 bif decide (20<depth)then
  (K (Tm.mk 0 ByteArray.empty 0 []) false xi xg)
 else
  Option.bind (G.z14 xc xd xe xa xb xf xg xh xi) λr=>
  Option.bind (G.z13 xc xd xe xa xb xf r.2.2 xh r.2.1 58) λr2=>
  bif r2.1 then
   (
   d5 G n xh xc xd xe xa xb xf r2.2.1 r2.2.2 0 ByteArray.empty 0 [] r.1
    (fun k h02 h22 =>
     Option.bind (G.z0o xc xd xe xa xb xf h22 (Tm.mk (-1) r.1 k [])) λr4=>
     K (Tm.mk (-1) r.1 k []) r4.1 h02 r4.2
    )
   )
  else
   Option.bind (G.z4b xf r.1) λr5=>
   Option.bind (G.z13 xc xd xe xa xb xf r2.2.2 xh r2.2.1 40) λr6=>
   l11 G n n xh xc xd xe xa xb xf depth r5 0 ByteArray.empty 0 [] r6.1 r6.2.1 r6.2.2 []
    (λt5 h022 h222 h34 h35 h36 h42=>K (Tm.mk h34 h35 h36 h42) t5 h022 h222)
    (fun h023 h223 h52 =>
     bif decide (r5<0)then
      (K (Tm.mk 0 ByteArray.empty 0 []) false h023 h223)
     else
      bif decide (0<(List.length h52:Int))then
       (
       Option.bind (G.z13 xc xd xe xa xb xf h223 xh h023 41) λr7=>
       bif !r7.1 then
        (K (Tm.mk 0 ByteArray.empty 0 []) false r7.2.1 r7.2.2)
       else
        c19 G n xh xc xd xe xa xb xf r5 r7.2.1 r7.2.2 0 ByteArray.empty 0 [] h52
         (λt52 h224 h342 h352 h362 h37=>K (Tm.mk h342 h352 h362 h37) t52 r7.2.1 h224)
       )
      else
       c19 G n xh xc xd xe xa xb xf r5 h023 h223 0 ByteArray.empty 0 [] h52
        (λt53 h225 h343 h353 h363 h372=>K (Tm.mk h343 h353 h363 h372) t53 h023 h225)
    )
noncomputable def dd5 (G:Gs) (n:Nat) (R:Type) (st:St) (K:Kt R):Option R:=match st with
 |⟨[(0,.one (.p 0 0)),(4,.one (.p 3 0)),(6,.one (.p 5 0))],[.box [.p 1 0,.s xh,.i h0],.box [.l .i xc,.l .i xd,.l .i xe,.l .s xa,.l (.n 5) xb,.l (.n 8) xf,.m 2],.map .i h2,.box [.i h3,.s h32,.i h33,.o 4],.row (.n 1) 0 h4,.box [.s h5]]⟩=>d5 G n xh xc xd xe xa xb xf h0 h2 h3 h32 h33 h4 h5 (λk h02 h22=>K .normal ⟨[(0,.one (.p 0 0)),(4,.one (.p 3 0)),(6,.one (.p 5 0)),(7,.one (.i k))],[.box [.p 1 0,.s xh,.i h02],.box [.l .i xc,.l .i xd,.l .i xe,.l .s xa,.l (.n 5) xb,.l (.n 8) xf,.m 2],.map .i h22,.box [.i h3,.s h32,.i h33,.o 4],.row (.n 1) 0 h4,.box [.s h5]]⟩)
 |_=>none
noncomputable def dl11 (G:Gs) (n m:Nat) (R:Type) (st:St) (K:Kt R):Option R:=match st with
 |⟨[(0,.one (.p 0 0)),(1,.one (.i depth)),(4,.one (.p 3 0)),(9,.one (.i op)),(10,.one (.o 5)),(11,.one (.b open1))],[.box [.p 1 0,.s xh,.i h0],.box [.l .i xc,.l .i xd,.l .i xe,.l .s xa,.l (.n 5) xb,.l (.n 8) xf,.m 2],.map .i h2,.box [.i h3,.s h32,.i h33,.o 4],.row (.n 1) 0 h4,.row (.n 1) 0 h5]⟩=>l11 G n m xh xc xd xe xa xb xf depth op h3 h32 h33 h4 open1 h0 h2 h5 (λt5 h02 h22 h34 h35 h36 h42=>K .ret ⟨[(4,.one (.p 3 0)),(5,.one (.b t5))],[.box [.p 1 0,.s xh,.i h02],.box [.l .i xc,.l .i xd,.l .i xe,.l .s xa,.l (.n 5) xb,.l (.n 8) xf,.m 2],.map .i h22,.box [.i h34,.s h35,.i h36,.o 4],.row (.n 1) 0 h42]⟩) (λh02 h22 h52=>K (.exit 0) ⟨[(0,.one (.p 0 0)),(4,.one (.p 3 0)),(9,.one (.i op)),(10,.one (.o 5))],[.box [.p 1 0,.s xh,.i h02],.box [.l .i xc,.l .i xd,.l .i xe,.l .s xa,.l (.n 5) xb,.l (.n 8) xf,.m 2],.map .i h22,.box [.i h3,.s h32,.i h33,.o 4],.row (.n 1) 0 h4,.row (.n 1) 0 h52]⟩)
 |_=>none
noncomputable def dc19 (G:Gs) (n:Nat) (R:Type) (st:St) (K:Kt R):Option R:=match st with
 |⟨[(0,.one (.p 0 0)),(4,.one (.p 3 0)),(9,.one (.i op)),(10,.one (.o 5))],[.box [.p 1 0,.s xh,.i h0],.box [.l .i xc,.l .i xd,.l .i xe,.l .s xa,.l (.n 5) xb,.l (.n 8) xf,.m 2],.map .i h2,.box [.i h3,.s h32,.i h33,.o 4],.row (.n 1) 0 h4,.row (.n 1) 0 h5]⟩=>c19 G n xh xc xd xe xa xb xf op h0 h2 h3 h32 h33 h4 h5 (λt5 h22 h34 h35 h36 h37=>K .ret ⟨[(4,.one (.p 3 0)),(5,.one (.b t5))],[.box [.p 1 0,.s xh,.i h0],.box [.l .i xc,.l .i xd,.l .i xe,.l .s xa,.l (.n 5) xb,.l (.n 8) xf,.m 2],.map .i h22,.box [.i h34,.s h35,.i h36,.l (.n 1) h37]]⟩)
 |_=>none
noncomputable def pc (G:Gs) (n:Nat):Pcs:=⟨λR id st K=>bif Nat.beq id 11 then dl11 G n n R st K else none,λR id st K=>bif Nat.beq id 19 then dc19 G n R st K else none,λR id st K=>bif Nat.beq id 5 then dd5 G n R st K else none⟩
noncomputable def an:Ann:=⟨95,3,[(11,[0,1,4,9,10,11])],[(19,[0,4,9,10])],[4,5],[(5,⟨[([0,1,2,3,4,5,6,7,8,9,10,11,12],[3,8,10],[]),([0,1,2,3,9,10,4,5,6,7,8,11,12],[3,10,8],[]),([9,10,0,1,2,3,4,5,6,7,8,11,12],[10,3,8],[])],[3,8,10],[],[3,4,5],[0,4,6]⟩),(7,⟨[([1,2,3,4,5,6,0,7,8],[6,7],[])],[6,7],[],[0,4,5,6],[]⟩)],[]⟩
noncomputable abbrev bd:=bodyOf Tryz.f27
noncomputable abbrev q5:=nthC [1,1,1,0,1,0,0] bd
noncomputable abbrev q11:=nthC [1,1,1,1,1,1,0,1,0,0] bd
noncomputable abbrev q19:=nthC [1,1,1,1,1,1,1,1] bd
theorem s5_0 (G:Gs) (n:Nat) (R:Type) (xh:ByteArray) (h0:Int) (xc xd xe:LI) (xa:LB) (xb:LS) (xf:LO) (h2:LM) (h3:Int) (h32:ByteArray) (h33:Int) (h4:LT) (h5:ByteArray) (K:Kt R):(λS:St=>(λst1:St=>drawD tb (orcOf (ents G)) an.nt an.im (opsOf (q5)) (maskH [3,4,5] st1.H) [0,1,2,3,4,5,6,7,8,9,10,11,12] [3,8,10] [] [] [0,1,2,3,4,5,6,7,8,9,10,11,12] st1.L st1.H st1.H λL H=>outK an.refs ⟨[0,4,6,7],[4,5],[]⟩ K .normal ⟨L,H⟩) (fzIds (slotRows (St.L S) (St.H S) []) S)=dd5 G n R S K) ⟨[(0,.one (.p 0 0)),(4,.one (.p 3 0)),(6,.one (.p 5 0))],[.box [.p 1 0,.s xh,.i h0],.box [.l .i xc,.l .i xd,.l .i xe,.l .s xa,.l (.n 5) xb,.l (.n 8) xf,.m 2],.map .i h2,.box [.i h3,.s h32,.i h33,.o 4],.row (.n 1) 0 h4,.box [.s h5]]⟩:=by show _=_;kernel_rfl
theorem s5_1 (G:Gs) (n:Nat) (R:Type) (xh:ByteArray) (h0:Int) (xc xd xe:LI) (xa:LB) (xb:LS) (xf:LO) (h2:LM) (h3:Int) (h32:ByteArray) (h33:Int) (h4:LT) (h5:ByteArray) (K:Kt R):(λst1:St=>drawD tb (orcOf (ents G)) an.nt an.im (opsOf (q5)) (maskH [3,4,5] st1.H) [0,1,2,3,9,10,4,5,6,7,8,11,12] [3,10,8] [] [] [0,1,2,3,9,10,4,5,6,7,8,11,12] st1.L st1.H st1.H λL H=>outK an.refs ⟨[0,4,6,7],[4,5],[]⟩ K .normal ⟨L,H⟩) (fzIds (slotRows (St.L ⟨[(0,.one (.p 0 0)),(4,.one (.p 3 0)),(6,.one (.p 5 0))],[.box [.p 1 0,.s xh,.i h0],.box [.l .i xc,.l .i xd,.l .i xe,.l .s xa,.l (.n 5) xb,.l (.n 8) xf,.m 2],.map .i h2,.box [.i h3,.s h32,.i h33,.o 4],.row (.n 1) 0 h4,.box [.s h5]]⟩) (St.H ⟨[(0,.one (.p 0 0)),(4,.one (.p 3 0)),(6,.one (.p 5 0))],[.box [.p 1 0,.s xh,.i h0],.box [.l .i xc,.l .i xd,.l .i xe,.l .s xa,.l (.n 5) xb,.l (.n 8) xf,.m 2],.map .i h2,.box [.i h3,.s h32,.i h33,.o 4],.row (.n 1) 0 h4,.box [.s h5]]⟩) []) ⟨[(0,.one (.p 0 0)),(4,.one (.p 3 0)),(6,.one (.p 5 0))],[.box [.p 1 0,.s xh,.i h0],.box [.l .i xc,.l .i xd,.l .i xe,.l .s xa,.l (.n 5) xb,.l (.n 8) xf,.m 2],.map .i h2,.box [.i h3,.s h32,.i h33,.o 4],.row (.n 1) 0 h4,.box [.s h5]]⟩)=d5_1 G n xh xc xd xe xa xb xf h0 h2 h3 h32 h33 h4 h5 (λk h02 h22=>K .normal ⟨[(0,.one (.p 0 0)),(4,.one (.p 3 0)),(6,.one (.p 5 0)),(7,.one (.i k))],[.box [.p 1 0,.s xh,.i h02],.box [.l .i xc,.l .i xd,.l .i xe,.l .s xa,.l (.n 5) xb,.l (.n 8) xf,.m 2],.map .i h22,.box [.i h3,.s h32,.i h33,.o 4],.row (.n 1) 0 h4,.box [.s h5]]⟩):=by kernel_rfl
theorem s5_2 (G:Gs) (n:Nat) (R:Type) (xh:ByteArray) (h0:Int) (xc xd xe:LI) (xa:LB) (xb:LS) (xf:LO) (h2:LM) (h3:Int) (h32:ByteArray) (h33:Int) (h4:LT) (h5:ByteArray) (K:Kt R):(λst1:St=>drawD tb (orcOf (ents G)) an.nt an.im (opsOf (q5)) (maskH [3,4,5] st1.H) [9,10,0,1,2,3,4,5,6,7,8,11,12] [10,3,8] [] [] [9,10,0,1,2,3,4,5,6,7,8,11,12] st1.L st1.H st1.H λL H=>outK an.refs ⟨[0,4,6,7],[4,5],[]⟩ K .normal ⟨L,H⟩) (fzIds (slotRows (St.L ⟨[(0,.one (.p 0 0)),(4,.one (.p 3 0)),(6,.one (.p 5 0))],[.box [.p 1 0,.s xh,.i h0],.box [.l .i xc,.l .i xd,.l .i xe,.l .s xa,.l (.n 5) xb,.l (.n 8) xf,.m 2],.map .i h2,.box [.i h3,.s h32,.i h33,.o 4],.row (.n 1) 0 h4,.box [.s h5]]⟩) (St.H ⟨[(0,.one (.p 0 0)),(4,.one (.p 3 0)),(6,.one (.p 5 0))],[.box [.p 1 0,.s xh,.i h0],.box [.l .i xc,.l .i xd,.l .i xe,.l .s xa,.l (.n 5) xb,.l (.n 8) xf,.m 2],.map .i h2,.box [.i h3,.s h32,.i h33,.o 4],.row (.n 1) 0 h4,.box [.s h5]]⟩) []) ⟨[(0,.one (.p 0 0)),(4,.one (.p 3 0)),(6,.one (.p 5 0))],[.box [.p 1 0,.s xh,.i h0],.box [.l .i xc,.l .i xd,.l .i xe,.l .s xa,.l (.n 5) xb,.l (.n 8) xf,.m 2],.map .i h2,.box [.i h3,.s h32,.i h33,.o 4],.row (.n 1) 0 h4,.box [.s h5]]⟩)=d5_2 G n xh xc xd xe xa xb xf h0 h2 h3 h32 h33 h4 h5 (λk h02 h22=>K .normal ⟨[(0,.one (.p 0 0)),(4,.one (.p 3 0)),(6,.one (.p 5 0)),(7,.one (.i k))],[.box [.p 1 0,.s xh,.i h02],.box [.l .i xc,.l .i xd,.l .i xe,.l .s xa,.l (.n 5) xb,.l (.n 8) xf,.m 2],.map .i h22,.box [.i h3,.s h32,.i h33,.o 4],.row (.n 1) 0 h4,.box [.s h5]]⟩):=by kernel_rfl
theorem pd5 {G:Gs} (hG:AE (ents G)) {n:Nat}:PO an (q5) (dd5 G n):=by
 have hc:q5= .region 5 (opsOf (q5)) true:=by kernel_rfl
 rw[hc]
 refine draw_piece mixed tb_ok (orc_ok hG) (o:=⟨[0,4,6,7],[4,5],[]⟩) (d:=⟨[([0,1,2,3,4,5,6,7,8,9,10,11,12],[3,8,10],[]),([0,1,2,3,9,10,4,5,6,7,8,11,12],[3,10,8],[]),([9,10,0,1,2,3,4,5,6,7,8,11,12],[10,3,8],[])],[3,8,10],[],[3,4,5],[0,4,6]⟩) (by kernel_rfl) (λp hp R st K r h=> ?_)
 have e:=h
 unfold dd5 at e
 split at e
 ·rename_i x0 x1 x2 x3 x4 x5 x6 x7 x8 x9 x10 x11 x12 x13;simp only[List.mem_cons,List.not_mem_nil,or_false]at hp
  rcases hp with rfl|rfl|rfl
  ·exact(s5_0 G n R x0 x1 x2 x3 x4 x5 x6 x7 x8 x9 x10 x11 x12 x13 K).trans h
  ·exact((s5_1 G n R x0 x1 x2 x3 x4 x5 x6 x7 x8 x9 x10 x11 x12 x13 K).trans (e5_1 G n x0 x2 x3 x4 x5 x6 x7 x1 x8 x9 x10 x11 x12 x13 _)).trans h
  ·exact((s5_2 G n R x0 x1 x2 x3 x4 x5 x6 x7 x8 x9 x10 x11 x12 x13 K).trans (e5_2 G n x0 x2 x3 x4 x5 x6 x7 x1 x8 x9 x10 x11 x12 x13 _)).trans h
 ·cases e
theorem pl11 {G:Gs} (hG:AE (ents G)) (n:Nat):∀m,PO an (.loop q11) (dl11 G n m):=lpc hG (pc G n) [0,1,4,9,10,11] ⟨[0,4,9,10],[4,5],[(0,[0,4,9,10])]⟩ (apl [] trivial) (λR st K=>by unfold dl11;split<;>rfl) λm R st K r h=>by unfold dl11 at h;split at h;exact .trans (by kernel_rfl) h;cases h
theorem pc19 {G:Gs} (hG:AE (ents G)) {n:Nat}:PO an q19 (dc19 G n):=cpc hG (pc G n) ⟨[],[4,5],[]⟩ (apl [] trivial) λR st K r h=>by unfold dc19 at h;split at h;exact .trans (by kernel_rfl) h;cases h
theorem ok {G:Gs} (hG:AE (ents G)) {g:Q} (hg:∀xc xd xe xa xb xf xg xh xi depth r,g xc xd xe xa xb xf xg xh xi depth=some r->∃n,main (R:=AT×List Ob) G n xc xd xe xa xb xf xg xh xi depth (λr0 r1 r2 r3=>some (.tup [.agg [.i (Tm.op r0),.s (Tm.name r0),.i (Tm.sort r0),.l (.n 1) (Tm.args r0)],.one (.b r1)],[.box [.p 1 0,.s xh,.i r2],.box [.l .i xc,.l .i xd,.l .i xe,.l .s xa,.l (.n 5) xb,.l (.n 8) xf,.m 2],.map .i r3]))=some (.tup [.agg [.i (Tm.op r.1),.s (Tm.name r.1),.i (Tm.sort r.1),.l (.n 1) (Tm.args r.1)],.one (.b r.2.1)],[.box [.p 1 0,.s xh,.i r.2.2.1],.box [.l .i xc,.l .i xd,.l .i xe,.l .s xa,.l (.n 5) xb,.l (.n 8) xf,.m 2],.map .i r.2.2.2])):EO (ent g):=λR xs H K r hc=>by
 simp only[ent]at hc
 split at hc
 ·obtain⟨r,j1,j2⟩:=bind_some hc
  obtain⟨n,j3⟩:=hg _ _ _ _ _ _ _ _ _ _ _ j1
  exact⟨_,_,j2,fnP hG an (pc G n) bd [.cell 4 32,.tmp 5] Tryz.func27 (.inl rfl) (apl [(2,5,q5),(1,11,.loop q11),(0,19,q19)] ⟨pd5 hG,⟨pl11 hG n n,⟨pc19 hG,trivial⟩⟩⟩) (.trans (by kernel_rfl) j3)⟩
 ·cases hc
end z16
namespace z0g
structure Gs where
 z0z:z0z.Q
 z16:z16.Q
 z15:z15.Q
 z0t:z0t.Q
noncomputable def pc (_:Gs) (_:Nat):Pcs:=⟨nK,nK,nK⟩
noncomputable def an:Ann:=⟨43,0,[],[],[4,5],[],[]⟩
noncomputable abbrev bd:=bodyOf Tryz.f8
end z0g
open Classical
def skF (c:Int->Bool) (l:List Int):Nat->Nat->Nat
 |0,p=>p
 | f + 1, p => match l[p]? with
  |some x=>if c x=true then skF c l f (p+1)else p
  |none=>p
def skip (c:Int->Bool) (l:List Int) (p:Nat):Nat:=skF c l (l.length-p) p
theorem skF_ge (c:Int->Bool) (l:List Int):∀f p,p<=skF c l f p
 |0,_=>Nat.le_refl _
 | f + 1, p => by
  unfold skF
  split
  ·split
   ·have:=skF_ge c l f (p+1);omega
   ·exact Nat.le_refl _
  ·exact Nat.le_refl _
theorem skF_le (c:Int->Bool) (l:List Int):∀f p,p<=l.length->skF c l f p<=l.length
 |0,_,h=>h
 | f + 1, p, h => by
  unfold skF
  split
  ·rename_i x hx
   have:=(gI.1 hx).1
   split
   ·exact skF_le c l f (p+1) this
   ·exact h
  ·exact h
theorem skip_ge {c:Int->Bool} {l:List Int} {p:Nat}:p<=skip c l p:=skF_ge _ _ _ _
theorem skip_le {c:Int->Bool} {l:List Int} {p:Nat} (h:p<=l.length):skip c l p<=l.length:=skF_le _ _ _ _ h
theorem skip_step {c:Int->Bool} {l:List Int} {p:Nat} {x:Int} (h:l[p]? =some x):skip c l p=if c x=true then skip c l (p+1)else p:=by
 have hlt:=(gI.1 h).1
 unfold skip
 obtain⟨f,hf⟩:∃f,l.length-p=f+1:=⟨l.length-p-1,by omega⟩
 rw[hf]
 conv=>lhs;unfold skF
 rw[h]
 simp only
 rw[show l.length-(p+1)=f by omega]
theorem skip_end {c:Int->Bool} {l:List Int} {p:Nat} (h:l.length<=p):skip c l p=p:=by
 unfold skip
 rw[show l.length-p=0 by omega];rfl
theorem skF_stop (c:Int->Bool) (l:List Int):∀f p x,l.length-p<=f->l[skF c l f p]? =some x->c x=false
 | 0, p, x, h, hx => by
  have:=(gI.1 hx).1
  have:p<l.length:=this
  omega
 | f + 1, p, x, h, hx => by
  unfold skF at hx
  split at hx
  ·rename_i y hy
   split at hx
   ·exact skF_stop c l f (p+1) x (by omega) hx
   ·rename_i hc
    rw[hy]at hx
    cases hx
    simpa using hc
  ·rename_i hn
   rw[hn]at hx
   cases hx
theorem skip_stop {c:Int->Bool} {l:List Int} {p:Nat} {x:Int} (h:l[skip c l p]? =some x):c x=false:=skF_stop c l _ p x (Nat.le_refl _) h
theorem skip_skip {c:Int->Bool} {l:List Int} {p:Nat}:skip c l (skip c l p)=skip c l p:=by
 by_cases h:skip c l p<l.length
 ·obtain⟨x,hx,_⟩:=get_lt h
  rw[skip_step hx,skip_stop hx];rfl
 ·exact skip_end (by omega)
theorem skip_loop {R:Type} (c:Int->Bool) (l:List Int) (hl:l.length<=4294967295) (B:Int->(Int->Option R)->Option R) (k0:Int->Option R) (h1:∀(p:Nat) x nx,l[p]? =some x->B p nx=bif c x then nx ((p+1:Nat):Int)else k0 p) (h2:∀(p:Nat) nx,p=l.length->B p nx=k0 p):∀m (p:Nat),p<=l.length->l.length-p<m->iter (λ(v:Int) nx=>B v (λy0=>nx y0)) m (p:Int)=k0 (skip c l p)
 |0,p,_,hm=>absurd hm (Nat.not_lt_zero _)
 | m + 1, p, hp, hm => by
  show B p (λy0=>iter (λ(v:Int) nx=>B v (λy0=>nx y0)) m y0)=_
  by_cases h:p<l.length
  ·obtain⟨x,hx,_⟩:=get_lt h
   rw[h1 p x _ hx,skip_step hx]
   cases hc:c x with
   | true =>
    rw[cT,if_pos rfl]
    exact skip_loop c l hl B k0 h1 h2 m (p+1) h (by omega)
   |false=>rw[cF,if_neg (by decide)]
  ·rw[h2 p _ (by omega),skip_end (by omega)]
abbrev isSp (c:Int):Bool:=decide (c=32)
theorem sIx_get {t:ByteArray} {p:Nat} {x:Int} (h:(ofS t)[p]? =some x):sIx t (p:Int)=some x:=by rw[sIx_eq,ix_get h]
theorem lt_ofS {t:ByteArray} {p:Nat} {x:Int} (h:(ofS t)[p]? =some x):decide ((p:Int)<(t.size:Int))=true:=by
 have:=(gI.1 h).1
 rw[ofS_len]at this
 exact dT (by omega)
theorem wr_nxt {p:Nat} (h:p<4294967296):wr ((p:Int)+1)=((p+1:Nat):Int):=wr_one h
def atP (t:ByteArray) (a:Int):Prop:=t.size<=2000/\0<=a/\a<=t.size
def spA (t:ByteArray) (a:Int):Int:=(skip isSp (ofS t) a.toNat:Nat)
noncomputable def gSkS:List ByteArray->List Sb->List Opr->ByteArray->Int->Bool->Option Int:=λ_ _ _ t a _=>if atP t a then some (spA t a)else none
noncomputable def gSkI:List Int->List Int->List Int->List ByteArray->List Sb->List Opr->Mp->ByteArray->Int->Option (Int×Mp):=λ_ _ _ _ _ _ m t a=>if atP t a then some (spA t a,m)else none
theorem l8Skip_ok :EO (z47.ent gSkS):=z47.ok (G:=⟨()⟩) trivial λnm sb ops t a bad r h=>by
 unfold gSkS at h
 split at h
 ·rename_i hs
  cases h
  obtain⟨h1,h2,h3⟩:=hs
  have hl:=ofS_len t
  obtain⟨p,rfl⟩:=Int.eq_ofNat_of_zero_le h2
  refine⟨(ofS t).length+1,?_⟩
  unfold z47.main
  have key:=λk0=>skip_loop (R:=AT×List Ob) isSp (ofS t) (by omega) (λv nx=>z47.b0 ⟨()⟩ ((ofS t).length+1) nm sb ops t bad v nx k0) k0 (by
   intro q x nx hx
   unfold z47.b0
   rw[lt_ofS hx,cT,sIx_get hx,bS,wr_nxt (by have:=(gI.1 hx).1;omega)]) (by
   intro q nx hq
   unfold z47.b0
   rw[dF (by omega),cF]) ((ofS t).length+1) p (by omega) (by omega)
  exact(key _).trans rfl
 ·cases h
theorem spaces_ok :EO (z15.ent gSkI):=z15.ok (G:=⟨()⟩) trivial λab be kd nm sb ops m t a r h=>by
 unfold gSkI at h
 split at h
 ·rename_i hs
  cases h
  obtain⟨h1,h2,h3⟩:=hs
  have hl:=ofS_len t
  obtain⟨p,rfl⟩:=Int.eq_ofNat_of_zero_le h2
  refine⟨(ofS t).length+1,?_⟩
  unfold z15.main
  have key:=λk0=>skip_loop (R:=AT×List Ob) isSp (ofS t) (by omega) (λv nx=>z15.b0 ⟨()⟩ ((ofS t).length+1) t ab be kd nm sb ops m v nx k0) k0 (by
   intro q x nx hx
   unfold z15.b0
   rw[lt_ofS hx,cT,sIx_get hx,bS,wr_nxt (by have:=(gI.1 hx).1;omega)]) (by
   intro q nx hq
   unfold z15.b0
   rw[dF (by omega),cF]) ((ofS t).length+1) p (by omega) (by omega)
  exact(key _).trans rfl
 ·cases h
def tkF (t:ByteArray) (a:Int) (c:Int):Bool×Int:=if (ofS t)[(spA t a).toNat]? =some c then (true,spA t a+1)else (false,spA t a)
theorem spA_in {t:ByteArray} {a:Int} (h:atP t a):a<=spA t a/\spA t a<=t.size:=by
 obtain⟨h1,h2,h3⟩:=h
 have hl:=ofS_len t
 unfold spA
 have:=skip_ge (c:=isSp) (l:=ofS t) (p:=a.toNat)
 have:=skip_le (c:=isSp) (l:=ofS t) (p:=a.toNat) (by omega)
 omega
theorem tkF_in {t:ByteArray} {a:Int} (h:atP t a) (c:Int):a<=(tkF t a c).2/\(tkF t a c).2<=t.size/\((tkF t a c).1=true->a<(tkF t a c).2):=by
 have hs:=spA_in h
 have h2:=h.2.1
 unfold tkF
 split
 ·rename_i hx
  have:=(gI.1 hx).1
  rw[ofS_len]at this
  refine⟨by simp only;omega,by simp only;omega,λ_=>by simp only;omega⟩
 ·exact⟨hs.1,hs.2,λh=>by cases h⟩
theorem atP_tk {t:ByteArray} {a:Int} (h:atP t a) (c:Int):atP t (tkF t a c).2:=⟨h.1,by have:=tkF_in h c;have:=h.2.1;omega,(tkF_in h c).2.1⟩
noncomputable def gTkS:List ByteArray->List Sb->List Opr->ByteArray->Int->Bool->Int->Option (Bool×Int):=λ_ _ _ t a _ c=>if atP t a then some (tkF t a c)else none
noncomputable def gTkI:List Int->List Int->List Int->List ByteArray->List Sb->List Opr->Mp->ByteArray->Int->Int->Option (Bool×Int×Mp):=λ_ _ _ _ _ _ m t a c=>if atP t a then some ((tkF t a c).1,(tkF t a c).2,m)else none
theorem tk_cases {R:Type} {t:ByteArray} {a c:Int} (h:atP t a) (K:Bool->Int->Option R):(bif decide (spA t a<(t.size:Int))then (Option.bind (sIx t (spA t a)) λb2=>bif decide (b2=c)then (K true (wr (spA t a+1)))else K false (spA t a))else K false (spA t a))=K (tkF t a c).1 (tkF t a c).2:=by
 have hs:=spA_in h
 have h1:=h.1
 have h2:=h.2.1
 have hl:=ofS_len t
 obtain⟨p,hp⟩:=Int.eq_ofNat_of_zero_le (show 0<=spA t a by omega)
 unfold tkF
 rw[hp]at hs ⊢
 by_cases hlt:p<t.size
 ·obtain⟨x,hx,_⟩:=get_lt (xs:=ofS t) (i:=p) (by omega)
  rw[dT (by omega),cT,sIx_get hx,bS,Int.toNat_natCast,hx]
  by_cases hc:x=c
  ·rw[dT hc,cT,hc,if_pos rfl,wr_in (by omega)]
  ·rw[dF hc,cF,if_neg (by simp[hc])]
 ·rw[dF (by omega),cF,Int.toNat_natCast,List.getElem?_eq_none (by omega),if_neg (by simp)]
theorem tkS_main {R:Type} {nm:List ByteArray} {sb:List Sb} {ops:List Opr} {t:ByteArray} {a c:Int} {bad:Bool} (hs:atP t a) (K:Bool->Int->Option R):z48.main ⟨gSkS⟩ 1 nm sb ops t a bad c K=K (tkF t a c).1 (tkF t a c).2:=by
 unfold z48.main
 have e:gSkS nm sb ops t a bad=some (spA t a):=if_pos hs
 show Option.bind (gSkS nm sb ops t a bad) _=_
 rw[e,bS]
 exact tk_cases hs K
theorem l8Take_ok :EO (z48.ent gTkS):=z48.ok (G:=⟨gSkS⟩) ⟨l8Skip_ok,trivial⟩ λnm sb ops t a bad c r h=>by
 unfold gTkS at h
 split at h
 ·rename_i hs
  cases h
  exact⟨1,(tkS_main hs _).trans rfl⟩
 ·cases h
theorem tkI_main {R:Type} {ab be kd:List Int} {nm:List ByteArray} {sb:List Sb} {ops:List Opr} {m:Mp} {t:ByteArray} {a c:Int} (hs:atP t a) (K:Bool->Int->Mp->Option R):z13.main ⟨gSkI⟩ 1 ab be kd nm sb ops m t a c K=K (tkF t a c).1 (tkF t a c).2 m:=by
 unfold z13.main
 have e:gSkI ab be kd nm sb ops m t a=some (spA t a,m):=if_pos hs
 show Option.bind (gSkI ab be kd nm sb ops m t a) _=_
 rw[e,bS]
 exact tk_cases hs (λb q=>K b q m)
theorem eat_ok :EO (z13.ent gTkI):=z13.ok (G:=⟨gSkI⟩) ⟨spaces_ok,trivial⟩ λab be kd nm sb ops m t a c r h=>by
 unfold gTkI at h
 split at h
 ·rename_i hs
  cases h
  exact⟨1,(tkI_main hs _).trans rfl⟩
 ·cases h
def nmE (t:ByteArray) (a:Int):Int:=(skip alnum (ofS t) (spA t a).toNat:Nat)
def nmF (t:ByteArray) (a:Int):ByteArray×Int:=(t.extract (spA t a).toNat (nmE t a).toNat,nmE t a)
theorem nmE_in {t:ByteArray} {a:Int} (h:atP t a):spA t a<=nmE t a/\nmE t a<=t.size:=by
 have hs:=spA_in h
 have hl:=ofS_len t
 have h2:=h.2.1
 unfold nmE
 have:=skip_ge (c:=alnum) (l:=ofS t) (p:=(spA t a).toNat)
 have:=skip_le (c:=alnum) (l:=ofS t) (p:=(spA t a).toNat) (by omega)
 omega
theorem atP_nm {t:ByteArray} {a:Int} (h:atP t a):atP t (nmF t a).2:=⟨h.1,by have:=spA_in h;have:=nmE_in h;have:=h.2.1;show 0<=nmE t a;omega,(nmE_in h).2⟩
theorem nmF_ge {t:ByteArray} {a:Int} (h:atP t a):a<=(nmF t a).2:=by have:=spA_in h;have:=nmE_in h;show a<=nmE t a;omega
noncomputable def gNmS:List ByteArray->List Sb->List Opr->ByteArray->Int->Bool->Option (ByteArray×Int):=λ_ _ _ t a _=>if atP t a then some (nmF t a)else none
noncomputable def gNmI:List Int->List Int->List Int->List ByteArray->List Sb->List Opr->Mp->ByteArray->Int->Option (ByteArray×Int×Mp):=λ_ _ _ _ _ _ m t a=>if atP t a then some ((nmF t a).1,(nmF t a).2,m)else none
theorem sSub_eq {t:ByteArray} {lo hi:Int} (h0:0<=lo) (h1:lo<=hi) (h2:hi<=t.size):sSub t lo hi=some (t.extract lo.toNat hi.toNat):=by
 unfold sSub
 rw[dT h0,dT h1,dT h2];rfl
theorem one_byte {t:ByteArray} {p:Nat} {x:Int} (h:(ofS t)[p]? =some x):ofS (t.extract p (p+1))=[x]:=by
 have hlt:=(gI.1 h).1
 have hl:=ofS_len t
 unfold ofS at h ⊢
 have e:(t.extract p (p+1)).data.toList=(t.data.toList.drop p).take 1:=by
  rw[ByteArray.data_extract]
  simp[Array.toList_extract]
 rw[e,List.map_take,List.map_drop,drop_get h]
 rfl
theorem ofS_app (a b:ByteArray):ofS (a++b)=ofS a++ofS b:=by
 unfold ofS
 rw[ByteArray.data_append]
 simp
theorem nameF_one {t:ByteArray} {p:Nat} {x:Int} (h:(ofS t)[p]? =some x):nameF (ByteArray.mk #[120]++t.extract p (p+1))=alnum x:=by
 have e:=one_byte h
 have e2:ofS (ByteArray.mk #[120]++t.extract p (p+1))=[120,x]:=by rw[ofS_app,e];rfl
 have hsz:(ByteArray.mk #[120]++t.extract p (p+1)).size=2:=by rw[<-ofS_len,e2];rfl
 have hif:isIf (ByteArray.mk #[120]++t.extract p (p+1))=false:=by
  unfold isIf sEq
  rw[Bool.or_eq_false_iff]
  constructor
  ·refine dF λq=> ?_
   rw[q]at e2
   have:(105:Int)=120:=(List.cons.inj e2).1
   exact absurd this (by decide)
  ·refine dF λq=> ?_
   rw[q]at e2
   have:(97:Int)=120:=(List.cons.inj e2).1
   exact absurd this (by decide)
 unfold nameF
 rw[hsz,hif,e2]
 show (decide (1<=2)&&(decide (2<=12)&&(!false&&(letter 120&&(alnum 120&&(alnum x&&true))))))=_
 rw[show letter 120=true from by decide,show alnum 120=true from by decide]
 simp
theorem l8Name_ok :EO (z45.ent gNmS):=z45.ok (G:=⟨gSkS,gName⟩) ⟨l8Skip_ok,z2r,trivial⟩ λnm sb ops t a bad r h=>by
 unfold gNmS at h
 split at h
 ·rename_i hs
  cases h
  have hsp:=spA_in hs
  have h1:=hs.1
  have h2:=hs.2.1
  have hl:=ofS_len t
  have hne:=nmE_in hs
  obtain⟨p,hp⟩:=Int.eq_ofNat_of_zero_le (show 0<=spA t a by omega)
  refine⟨(ofS t).length+1,?_⟩
  unfold z45.main
  have e:gSkS nm sb ops t a bad=some (spA t a):=if_pos hs
  show Option.bind (gSkS nm sb ops t a bad) _=_
  rw[e,bS]
  have key:=λk0=>skip_loop (R:=AT×List Ob) alnum (ofS t) (by omega) (λv nx=>z45.b3 ⟨gSkS,gName⟩ ((ofS t).length+1) nm sb ops t bad (spA t a) v nx k0) k0 (by
   intro q x nx hx
   have hq:=(gI.1 hx).1
   unfold z45.b3
   have e1:sSub t (q:Int) ((q+1:Nat):Int)=some (t.extract q (q+1)):=sSub_eq (by omega) (by omega) (by omega)
   have e2:sCat (ByteArray.mk #[120]) (t.extract q (q+1))=some (ByteArray.mk #[120]++t.extract q (q+1)):=by
    unfold sCat
    have:(t.extract q (q+1)).size=1:=by rw[<-ofS_len,one_byte hx];rfl
    rw[this];rfl
   rw[lt_ofS hx,cT,wr_nxt (by omega),e1,bS,e2,bS]
   show Option.bind (gName (ByteArray.mk #[120]++t.extract q (q+1))) _=_
   rw[bS,nameF_one hx]) (by
   intro q nx hq
   unfold z45.b3
   rw[dF (by omega),cF]) ((ofS t).length+1) p (by omega) (by omega)
  rw[hp]at key hne ⊢
  refine(key _).trans ?_
  have e3:((skip alnum (ofS t) p:Nat):Int)=nmE t a:=by unfold nmE;rw[hp];rfl
  rw[e3,sSub_eq (by omega) hne.1 hne.2,bS]
  unfold nmF
  rw[hp]
 ·cases h
theorem name_ok :EO (z14.ent gNmI):=z14.ok (G:=⟨gSkI,λc=>some (alnum c)⟩) ⟨spaces_ok,nameByte_ok,trivial⟩ λab be kd nm sb ops m t a r h=>by
 unfold gNmI at h
 split at h
 ·rename_i hs
  cases h
  have hsp:=spA_in hs
  have h1:=hs.1
  have h2:=hs.2.1
  have hl:=ofS_len t
  have hne:=nmE_in hs
  obtain⟨p,hp⟩:=Int.eq_ofNat_of_zero_le (show 0<=spA t a by omega)
  refine⟨(ofS t).length+1,?_⟩
  unfold z14.main
  have e:gSkI ab be kd nm sb ops m t a=some (spA t a,m):=if_pos hs
  show Option.bind (gSkI ab be kd nm sb ops m t a) _=_
  rw[e,bS]
  have key:=λk0=>skip_loop (R:=AT×List Ob) alnum (ofS t) (by omega) (λv nx=>z14.b3 ⟨gSkI,λc=>some (alnum c)⟩ ((ofS t).length+1) t ab be kd nm sb ops (spA t a) m v nx k0) k0 (by
   intro q x nx hx
   have hq:=(gI.1 hx).1
   unfold z14.b3
   rw[lt_ofS hx,cT,sIx_get hx,bS,bS,wr_nxt (by omega)]) (by
   intro q nx hq
   unfold z14.b3
   rw[dF (by omega),cF]) ((ofS t).length+1) p (by omega) (by omega)
  simp only
  rw[hp]at key hne ⊢
  refine(key _).trans ?_
  have e3:((skip alnum (ofS t) p:Nat):Int)=nmE t a:=by unfold nmE;rw[hp];rfl
  rw[e3,sSub_eq (by omega) hne.1 hne.2,bS]
  unfold nmF
  rw[hp]
 ·cases h
open Classical
def idxF {α:Type} (p:α->Bool):List α->Nat->Int
 |[],_=> -1
 |x::xs,i=>if p x=true then (i:Int)else idxF p xs (i+1)
theorem idxF_in {α:Type} (p:α->Bool):∀(l:List α) (i:Nat),idxF p l i= -1\/∃k x,idxF p l i=((i+k:Nat):Int)/\l[k]? =some x/\p x=true
 |[],_=>.inl rfl
 | x :: xs, i => by
  unfold idxF
  by_cases h:p x=true
  ·rw[if_pos h];exact .inr ⟨0,x,rfl,rfl,h⟩
  ·rw[if_neg h]
   rcases idxF_in p xs (i+1)with h2|⟨k,y,h2,h3,h4⟩
   ·exact .inl h2
   ·exact .inr ⟨k+1,y,by rw[h2];congr 1;omega,h3,h4⟩
theorem find_loop {α R:Type} (l:List α) (p:α->Bool) (B:Int->(Int->Option R)->Option R) (k0:Int->Option R) (h1:∀(i:Nat) x nx,l[i]? =some x->B i nx=bif p x then k0 i else nx ((i+1:Nat):Int)) (h2:∀nx,B l.length nx=k0 (-1)):∀m (i:Nat),i<=l.length->l.length-i<m->iter (λ(v:Int) nx=>B v (λy0=>nx y0)) m (i:Int)=k0 (idxF p (l.drop i) i)
 |0,i,_,hm=>absurd hm (Nat.not_lt_zero _)
 | m + 1, i, hi, hm => by
  show B i (λy0=>iter (λ(v:Int) nx=>B v (λy0=>nx y0)) m y0)=_
  by_cases h:i<l.length
  ·obtain⟨x,hx,_⟩:=get_lt h
   rw[h1 i x _ hx,drop_get hx]
   unfold idxF
   cases hp:p x with
   |true=>rfl
   | false =>
    rw[cF,if_neg (by decide)]
    exact find_loop l p B k0 h1 h2 m (i+1) h (by omega)
  ·obtain rfl:i=l.length:=by omega
   rw[h2,drop_nat];rfl
def fdN (l:List ByteArray) (x:ByteArray):Int:=idxF (λy=>sEq y x) l 0
def fdO (l:List Opr) (x:ByteArray):Int:=idxF (λo=>sEq o.name x) l 0
theorem sEq_comm (a b:ByteArray):sEq a b=sEq b a:=decide_eq_decide.2 ⟨λh=>h.symm,λh=>h.symm⟩
abbrev gFdN :List ByteArray->ByteArray->Option Int:=λl x=>if l.length<=8 then some (fdN l x)else none
abbrev gFdO :List Opr->ByteArray->Option Int:=λl x=>if l.length<=14 then some (fdO l x)else none
theorem l8Find_ok :EO (z44.ent gFdN):=z44.ok (G:=⟨()⟩) trivial λ(l:List ByteArray) x r h=>by
 unfold gFdN at h
 split at h
 ·rename_i hs
  cases h
  refine⟨l.length+1,?_⟩
  unfold z44.main
  have key:=λk0=>find_loop (R:=AT×List Ob) l (λy=>sEq y x) (λv nx=>z44.b2 ⟨()⟩ (l.length+1) l x v nx k0 (k0 (-1))) k0 (by
   intro i y nx hy
   have hi:=(gI.1 hy).1
   unfold z44.b2
   rw[lt_nat hi,cT,ix_get hy,bS,wr_one (by omega)]) (by
   intro nx
   unfold z44.b2
   rw[nlt_nat (by omega),cF]) (l.length+1) 0 (by omega) (by omega)
  exact(key _).trans rfl
 ·cases h
theorem index_ok :EO (z4c.ent gFdN):=z4c.ok (G:=⟨()⟩) trivial λ(l:List ByteArray) x r h=>by
 unfold gFdN at h
 split at h
 ·rename_i hs
  cases h
  refine⟨l.length+1,?_⟩
  unfold z4c.main
  have key:=λk0=>find_loop (R:=AT×List Ob) l (λy=>sEq y x) (λv nx=>z4c.b2 ⟨()⟩ (l.length+1) l x (l.length:Int) v nx k0 (k0 (-1))) k0 (by
   intro i y nx hy
   have hi:=(gI.1 hy).1
   unfold z4c.b2
   rw[lt_nat hi,cT,ix_get hy,bS,wr_one (by omega),sEq_comm]) (by
   intro nx
   unfold z4c.b2
   rw[nlt_nat (by omega),cF]) (l.length+1) 0 (by omega) (by omega)
  exact(key _).trans rfl
 ·cases h
theorem term_f1_ok :EO (z17.ent λo x=>some (sEq o.name x)):=z17.ok (G:=⟨()⟩) trivial λo x r h=>⟨1,by cases h;rfl⟩
theorem indexFunc_ok :EO (z4b.ent gFdO):=z4b.ok (G:=⟨λo x=>some (sEq o.name x)⟩) ⟨term_f1_ok,trivial⟩ λ(l:List Opr) x r h=>by
 unfold gFdO at h
 split at h
 ·rename_i hs
  cases h
  refine⟨l.length+1,?_⟩
  unfold z4b.main
  have key:=λk0=>find_loop (R:=AT×List Ob) l (λo=>sEq o.name x) (λv nx=>z4b.b2 ⟨λo x=>some (sEq o.name x)⟩ (l.length+1) x l (l.length:Int) v nx k0 (k0 (-1))) k0 (by
   intro i y nx hy
   have hi:=(gI.1 hy).1
   unfold z4b.b2
   rw[lt_nat hi,cT,ix_get hy,bS,wr_one (by omega)]
   rfl) (by
   intro nx
   unfold z4b.b2
   rw[nlt_nat (by omega),cF]) (l.length+1) 0 (by omega) (by omega)
  exact(key _).trans rfl
 ·cases h
def lastF {α:Type} (p:α->Bool):List α->Nat->Int->Int
 |[],_,c=>c
 |x::xs,i,c=>lastF p xs (i+1) (if p x=true then (i:Int)else c)
theorem lastF_none {α:Type} {p:α->Bool}:∀{l:List α} {i:Nat} {c:Int},(∀x∈l,p x=false)->lastF p l i c=c
 |[],_,_,_=>rfl
 | x :: xs, i, c, h => by
  unfold lastF
  rw[h x (by simp),if_neg (by decide)]
  exact lastF_none λy hy=>h y (by simp[hy])
theorem lastF_idx {α:Type} {p:α->Bool}:∀{l:List α} {i:Nat},l.Pairwise (λx y=>¬(p x=true/\p y=true))->lastF p l i (-1)=idxF p l i
 |[],_,_=>rfl
 | x :: xs, i, h => by
  obtain⟨h1,h2⟩:=List.pairwise_cons.1 h
  unfold lastF idxF
  by_cases hp:p x=true
  ·rw[if_pos hp,if_pos hp]
   exact lastF_none λy hy=>by
    cases hq:p y with
    |false=>rfl
    |true=>exact absurd ⟨hp,hq⟩ (h1 y hy)
  ·rw[if_neg hp,if_neg hp]
   exact lastF_idx h2
theorem opsF_pair {N:Nat} {kinds:List Int}:∀{ops:List Opr} {seen:List ByteArray},opsF N kinds seen ops=true->(∀o∈ops,nameF o.name=true/\∀y∈seen,y≠o.name)/\ops.Pairwise (λa b=>a.name≠b.name)
 |[],_,_=>⟨λo h=>by simp at h,.nil⟩
 | o :: rest, seen, h => by
  unfold opsF at h
  simp only[bA,Bool.not_eq_true']at h
  obtain⟨h1,_,h3,h4⟩:=h
  obtain⟨i1,i2⟩:=opsF_pair h4
  have h3':∀y∈seen,y≠o.name:=λy hy e=>by
   have:=List.any_eq_false.1 h3 y hy
   exact this (dT e)
  refine⟨λq hq=> ?_,List.pairwise_cons.2 ⟨λq hq=> ?_,i2⟩⟩
  ·rcases List.mem_cons.1 hq with rfl|hq
   ·exact⟨h1,h3'⟩
   ·exact⟨(i1 q hq).1,λy hy=>(i1 q hq).2 y (List.mem_append_left _ hy)⟩
  ·exact(i1 q hq).2 o.name (List.mem_append_right _ (by simp))
theorem sig_names {s:Sg} (h:sigF s=true):(∀o∈s.ops,nameF o.name=true)/\s.ops.Pairwise (λa b=>a.name≠b.name):=by
 unfold sigF at h
 simp only[bA]at h
 obtain⟨h1,h2⟩:=opsF_pair h.2.2.1
 exact⟨λo ho=>(h1 o ho).1,h2⟩
theorem last_first {s:Sg} (h:sigF s=true) (x:ByteArray):lastF (λo:Opr=>sEq o.name x) s.ops 0 (-1)=fdO s.ops x:=lastF_idx ((sig_names h).2.imp λ{_ _} hne ⟨h1,h2⟩=>hne ((of_decide_eq_true h1).trans (of_decide_eq_true h2).symm))
theorem fdO_some {ops:List Opr} {x:ByteArray} (h:¬fdO ops x<0):∃o,ix ops (fdO ops x)=some o/\o.name=x:=by
 rcases idxF_in (λo:Opr=>sEq o.name x) ops 0 with h1|⟨k,o,h1,h2,h3⟩
 ·exact absurd (by unfold fdO;rw[h1];decide) h
 ·refine⟨o,?_,of_decide_eq_true h3⟩
  unfold fdO
  rw[h1,Nat.zero_add]
  exact ix_get h2
theorem nameF_empty :nameF ByteArray.empty=false:=rfl
theorem fdO_empty {s:Sg} (h:sigF s=true):fdO s.ops ByteArray.empty<0:=by
 by_cases h0:fdO s.ops ByteArray.empty<0
 ·exact h0
 ·obtain⟨o,o1,o2⟩:=fdO_some h0
  have:=(sig_names h).1 o (ix_mem o1).1
  rw[o2,nameF_empty]at this
  cases this
theorem fdN_in {l:List ByteArray} {x:ByteArray}:fdN l x= -1\/(0<=fdN l x/\fdN l x<l.length):=by
 rcases idxF_in (λy=>sEq y x) l 0 with h1|⟨k,o,h1,h2,_⟩
 ·exact .inl h1
 ·refine .inr ?_
  unfold fdN
  rw[h1]
  have:=(gI.1 h2).1
  omega
open Classical
def bldF (s:Sg) (op:Int) (args:List Tm):Option Tm:=(ix s.ops op).bind λo=>buildF s o op args
def mkS (s:Sg) (op:Int) (args:List Tm):Tm×Bool:=match ix s.ops op with
 |some o=>makeF s o op args
 |none=>(Zt,false)
def argsI (t:ByteArray) (rd:Int->Tm×Bool×Int):Nat->Bool->Int->List Tm->Bool×Int×List Tm
 |0,_,a,acc=>(false,a,acc)
 |f+1,op,a,acc=>if op=true then (if (rd a).2.1=true then argsI t rd f (tkF t (rd a).2.2 44).1 (tkF t (rd a).2.2 44).2 (acc++[(rd a).1])else (false,(rd a).2.2,[]))else (true,a,acc)
def finI (s:Sg) (op a:Int) (args:List Tm):Tm×Bool×Int:=((bldF s op args).getD Zt,(bldF s op args).isSome,a)
def endI (s:Sg) (t:ByteArray) (op:Int) (r:Bool×Int×List Tm):Tm×Bool×Int:=if r.1=true then (if op<0 then (Zt,false,r.2.1)else if r.2.2.length=0 then finI s op r.2.1 r.2.2 else if (tkF t r.2.1 41).1=true then finI s op (tkF t r.2.1 41).2 r.2.2 else (Zt,false,(tkF t r.2.1 41).2))else (Zt,false,r.2.1)
def varI (s:Sg) (t:ByteArray) (name:ByteArray) (a:Int):Tm×Bool×Int:=(Tm.mk (-1) name (fdN s.sorts.names (nmF t a).1) [],nameF name&&inN (nS s) (fdN s.sorts.names (nmF t a).1),(nmF t a).2)
def readI (s:Sg) (t:ByteArray):Nat->Int->Tm×Bool×Int
 |0,a=>(Zt,false,a)
 | e + 1, a => if (tkF t (nmF t a).2 58).1 = true then varI s t (nmF t a).1 (tkF t (nmF t a).2 58).2
  else endI s t (fdO s.ops (nmF t a).1) (argsI t (readI s t e) (t.size+3) (tkF t (tkF t (nmF t a).2 58).2 40).1 (tkF t (tkF t (nmF t a).2 58).2 40).2 [])
def argsS (t:ByteArray) (rd:Int->Tm×Int×Bool):Nat->Int->Bool->List Tm->Int×Bool×List Tm
 |0,a,_,acc=>(a,true,acc)
 |f+1,a,bad,acc=>if bad=true then (a,true,acc)else if (tkF t (rd a).2.1 41).1=true then ((tkF t (rd a).2.1 41).2,(rd a).2.2,acc++[(rd a).1])else if (rd a).2.2=true then argsS t rd f (tkF t (rd a).2.1 41).2 true (acc++[(rd a).1])else argsS t rd f (tkF t (tkF t (rd a).2.1 41).2 44).2 (!(tkF t (tkF t (rd a).2.1 41).2 44).1) (acc++[(rd a).1])
def endS (s:Sg) (op:Int) (r:Int×Bool×List Tm):Tm×Int×Bool:=if r.2.1=true\/op<0 then (Zt,r.1,true)else ((mkS s op r.2.2).1,r.1, !(mkS s op r.2.2).2)
def varS (s:Sg) (t:ByteArray) (name:ByteArray) (a:Int):Tm×Int×Bool:=(Tm.mk (-1) name (imax (fdN s.sorts.names (nmF t a).1) 0) [],(nmF t a).2,decide (fdN s.sorts.names (nmF t a).1<0)|| !nameF name)
def readS (s:Sg) (t:ByteArray):Nat->Int->Tm×Int×Bool
 |0,a=>(Zt,(nmF t a).2,true)
 | e + 1, a => if (nmF t a).1 = ByteArray.empty then (Zt, (nmF t a).2, true) else if (tkF t (nmF t a).2 58).1 = true then varS s t (nmF t a).1 (tkF t (nmF t a).2 58).2
  else endS s (fdO s.ops (nmF t a).1) (if (tkF t (tkF t (nmF t a).2 58).2 40).1=true then argsS t (readS s t e) (t.size+3) (tkF t (tkF t (nmF t a).2 58).2 40).2 false []else ((tkF t (tkF t (nmF t a).2 58).2 40).2,false,[]))
def Sm (s:Sg) (t:Tm):Prop:=Good s t/\tsz t<=60
theorem arg_tsz {x t:Tm} (h:x∈t.args):tsz x<tsz t:=by
 rw[tsz_eq t]
 have:=wS_mem (f:=tsz) h
 unfold wS at*
 omega
theorem Sm.args {s:Sg} {t:Tm} (h:Sm s t):∀x∈t.args,Sm s x:=λx hx=>⟨h.1.args x hx,by have:=arg_tsz hx;have:=h.2;omega⟩
theorem nameF_size {x:ByteArray} (h:nameF x=true):x.size<=12:=by
 unfold nameF at h
 simp only[bA,decide_eq_true_eq]at h
 exact h.2.1
theorem Good.total {s:Sg}:∀(k:Nat) (t:Tm),t.total<k->Good s t->t.total+1<=13*tsz t
 |0,_,h,_=>absurd h (Nat.not_lt_zero _)
 | k + 1, t, hk, hg => by
  rw[tsz_eq]
  have ht:=total_args t
  have hs:t.name.size<=12:=by
   cases hg with
   |var _ _ h3=>exact nameF_size h3
   |app _ _ _=>exact Nat.zero_le _
  have:∀l:List Tm,(∀x∈l,x.total+1<=13*tsz x)->tmTotals l<=13*wS tsz l:=λl=>by
   induction l with
   |nil=>intro _;exact Nat.zero_le _
   | cons x l ih =>
    intro hl
    rw[wS_cons,tmT_cons]
    have:=hl x (by simp)
    have:=ih λy hy=>hl y (by simp[hy])
    omega
  have:=this t.args λx hx=>Good.total k x (by have:=arg_total hx;omega) (hg.args x hx)
  omega
theorem Sm.total {s:Sg} {t:Tm} (h:Sm s t):t.total<=780:=by
 have:=h.1.total _ t (Nat.lt_succ_self _)
 have:=h.2
 omega
theorem sm_totals {s:Sg}:∀{l:List Tm},(∀x∈l,Sm s x)->tmTotals l<=781*l.length
 |[],_=>by rw[tmT_nil];omega
 | x :: l, h => by
  rw[tmT_cons,List.length_cons]
  have:=(h x (by simp)).total
  have:=sm_totals (l:=l) λy hy=>h y (by simp[hy])
  omega
theorem flat_all {P:Tm->Prop} (hP:∀x,P x->∀a∈x.args,P a) {s:Sg} {o:Opr} {op:Int}:∀{xs:List Tm} {i:Int} {acc l:List Tm},flatT s o op i xs acc=some l->(∀x∈acc,P x)->(∀x∈xs,P x)->∀x∈l,P x
 |[],_,_,_,h,ha,_=>by cases h;exact ha
 | x :: xs, i, acc, l, h, ha, hx => by
  unfold flatT at h
  split at h
  ·refine flat_all hP h (λy hy=> ?_) (λy hy=>hx y (by simp[hy]))
   unfold addT at hy
   have gx:=hx x (by simp)
   split at hy
   ·rcases List.mem_append.1 hy with hy|hy
    ·exact ha y hy
    ·exact hP x gx y hy
   ·split at hy
    ·exact ha y hy
    ·rcases List.mem_append.1 hy with hy|hy
     ·exact ha y hy
     ·rw[List.mem_singleton.1 hy];exact gx
  ·cases h
theorem flat_ge {s:Sg} {o:Opr} {op:Int} (ho:ix s.ops op=some o) (hu:o.unit=0):∀{xs:List Tm} {i:Int} {acc l:List Tm},flatT s o op i xs acc=some l->(∀x∈xs,Good s x)->acc.length+xs.length<=l.length
 |[],_,_,_,h,_=>by cases h;simp
 | x :: xs, i, acc, l, h, hx => by
  unfold flatT at h
  split at h
  ·have h2:=flat_ge ho hu h λy hy=>hx y (by simp[hy])
   have:acc.length+1<=(addT o op acc x).length:=by
    unfold addT
    split
    ·rename_i hc
     obtain⟨hc1,hc2⟩:=hc
     have gx:=hx x (by simp)
     have hna:x.op≠ -1:=by
      rw[hc2]
      have:=(ix_mem ho).2.1
      omega
     cases gx with
     |var _ _ _=>exact absurd rfl hna
     | @app op' o' args ho' hn _=>
      have hc2:op'=op:=hc2
      subst hc2
      rw[ho]at ho'
      cases ho'
      rw[if_pos hc1]at hn
      show _<=(acc++args).length
      simp only[List.length_append]
      omega
    ·unfold isUn
     rw[dT hu]
     simp
   simp only[List.length_cons]
   omega
  ·cases h
theorem lateT_args {o:Opr} {op:Int} {l:List Tm}:(lateT o op l).args.length=l.length/\∀x,x∈(lateT o op l).args↔x∈l:=by
 unfold lateT
 show (if o.comm=true then sortT l else l).length=l.length/\∀x,x∈(if o.comm=true then sortT l else l)↔x∈l
 split
 ·exact⟨sortT_len l,λx=>mem_sortT⟩
 ·exact⟨rfl,λx=>Iff.rfl⟩
theorem build_sm {s:Sg} (hS:sigF s=true) {op:Int} {o:Opr} (ho:ix s.ops op=some o) {args:List Tm} (ha:∀x∈args,Sm s x) {t:Tm} (h:buildF s o op args=some t):Sm s t:=by
 have hk:=opOk hS (ix_mem ho).1
 unfold buildF at h
 split at h
 ·rename_i har
  obtain⟨l,hf,h⟩:=Option.bind_eq_some_iff.1 h
  have hl:∀x∈l,Sm s x:=flat_all (P:=Sm s) (λx hx=>hx.args) hf (λx hx=>by simp at hx) ha
  split at h
  ·rename_i hu
   cases h
   unfold oneT
   split
   ·exact hl _ (by simp)
   ·obtain⟨u,u1,u2⟩:=hk.un hu.1
    obtain⟨u3,u4⟩:=unit_flat hS hk hu.1 u1
    refine⟨?_,by rw[tsz_eq];show 1+wS tsz []<=60;exact by decide⟩
    exact .app u1 (by rw[u4,if_neg (by decide),u3];rfl) (λa ha=>by simp at ha)
  ·rename_i hu
   unfold smallT at h
   split at h
   ·cases h
   ·rename_i hs
    cases h
    obtain⟨e1,e2⟩:=lateT_args (o:=o) (op:=op) (l:=l)
    refine⟨?_,by omega⟩
    have hlen:if o.assoc=true then 2<=l.length else l.length=(first o).args.length:=by
     unfold arOk at har
     cases hc:o.assoc with
     | true =>
      rw[hc,if_pos rfl]at har
      rw[if_pos rfl]
      by_cases h0:o.unit=0
      ·have:=flat_ge ho h0 hf λx hx=>(ha x hx).1
       simp only[List.length_nil]at this
       omega
      ·omega
     | false =>
      rw[hc,if_neg (by decide)]at har
      rw[if_neg (by decide)]
      have h1:=flatT_len hc hf
      simp only[List.length_nil]at h1
      by_cases h0:o.unit=0
      ·have:=flat_ge ho h0 hf λx hx=>(ha x hx).1
       simp only[List.length_nil]at this
       omega
      ·have:=hk.two (.inr (.inr h0))
       omega
    exact .app ho (by rw[show (if o.comm=true then sortT l else l).length=l.length from e1];exact hlen) λx hx=>(hl x ((e2 x).1 hx)).1
 ·cases h
theorem bldF_sm {s:Sg} (hS:sigF s=true) {op:Int} {args:List Tm} (ha:∀x∈args,Sm s x) {t:Tm} (h:bldF s op args=some t):Sm s t:=by
 obtain⟨o,ho,h⟩:=Option.bind_eq_some_iff.1 h
 exact build_sm hS ho ha h
def RdI (s:Sg) (t:ByteArray) (rd:Int->Tm×Bool×Int):Prop:=∀a,atP t a->atP t (rd a).2.2/\a<=(rd a).2.2/\((rd a).2.1=true->Sm s (rd a).1)
theorem argsI_in {s:Sg} {t:ByteArray} {rd:Int->Tm×Bool×Int} (hr:RdI s t rd):∀f op a acc,atP t a->(∀x∈acc,Sm s x)->atP t (argsI t rd f op a acc).2.1/\a<=(argsI t rd f op a acc).2.1/\((argsI t rd f op a acc).1=true->(∀x∈(argsI t rd f op a acc).2.2,Sm s x)/\(argsI t rd f op a acc).2.2.length<=acc.length+f)
 |0,_,a,acc,h,_=>⟨h,Int.le_refl _,λh=>by cases h⟩
 | f + 1, op, a, acc, h, ha => by
  obtain⟨r1,r2,r3⟩:=hr a h
  have hk:=tkF_in r1 44
  unfold argsI
  by_cases ho:op=true
  ·rw [if_pos ho]
   by_cases hc:(rd a).2.1=true
   ·rw[if_pos hc]
    obtain⟨q1,q2,q3⟩:=argsI_in hr f (tkF t (rd a).2.2 44).1 (tkF t (rd a).2.2 44).2 (acc++[(rd a).1]) (atP_tk r1 44) λx hx=>by
     rcases List.mem_append.1 hx with hx|hx
     ·exact ha x hx
     ·rw[List.mem_singleton.1 hx];exact r3 hc
    refine⟨q1,by omega,λq=>⟨(q3 q).1,?_⟩⟩
    have:=(q3 q).2
    simp only[List.length_append,List.length_singleton]at this
    omega
   ·rw[if_neg hc]
    exact⟨r1,r2,λh=>by cases h⟩
  ·rw[if_neg ho]
   exact⟨h,Int.le_refl _,λ_=>⟨ha,Nat.le_add_right _ _⟩⟩
theorem finI_in {s:Sg} (hS:sigF s=true) {op a:Int} {args:List Tm} (ha:∀x∈args,Sm s x):(finI s op a args).2.1=true->Sm s (finI s op a args).1:=by
 unfold finI
 intro h
 simp only at h ⊢
 cases hb:bldF s op args with
 |none=>rw[hb]at h;cases h
 |some t=>exact bldF_sm hS ha hb
theorem endI_in {s:Sg} (hS:sigF s=true) {t:ByteArray} {op a:Int} {r:Bool×Int×List Tm} (h1:atP t r.2.1) (h2:a<=r.2.1) (h3:r.1=true->∀x∈r.2.2,Sm s x):atP t (endI s t op r).2.2/\a<=(endI s t op r).2.2/\((endI s t op r).2.1=true->Sm s (endI s t op r).1):=by
 have hk:=tkF_in h1 41
 unfold endI
 split
 ·rename_i hr
  split
  ·exact⟨h1,h2,λh=>by cases h⟩
  ·split
   ·exact⟨h1,h2,finI_in hS (h3 hr)⟩
   ·split
    ·exact⟨atP_tk h1 41,by show a<=(tkF t r.2.1 41).2;omega,finI_in hS (h3 hr)⟩
    ·exact⟨atP_tk h1 41,by show a<=(tkF t r.2.1 41).2;omega,λh=>by cases h⟩
 ·exact⟨h1,h2,λh=>by cases h⟩
theorem readI_in {s:Sg} (hS:sigF s=true) (t:ByteArray):∀e,RdI s t (readI s t e)
 |0=>λa h=>⟨h,Int.le_refl _,λh=>by cases h⟩
 | e + 1 => fun a h => by
  have n1:=atP_nm h
  have n2:=nmF_ge h
  have c1:=atP_tk n1 58
  have c2:=(tkF_in n1 58).1
  unfold readI
  split
  ·have z1:=atP_nm c1
   have z2:=nmF_ge c1
   refine⟨z1,by show a<=(nmF t (tkF t (nmF t a).2 58).2).2;omega,λh=> ?_⟩
   unfold varI at h ⊢
   simp only[bA]at h
   obtain⟨h3,h4⟩:=h
   obtain⟨h5,h6⟩:=inN_iff.1 h4
   exact⟨.var h5 h6 h3,by rw[tsz_eq];show 1+wS tsz []<=60;exact by decide⟩
  ·have o1:=atP_tk c1 40
   have o2:=(tkF_in c1 40).1
   obtain⟨q1,q2,q3⟩:=argsI_in (readI_in hS t e) (t.size+3) (tkF t (tkF t (nmF t a).2 58).2 40).1 (tkF t (tkF t (nmF t a).2 58).2 40).2 [] o1 λx hx=>by simp at hx
   exact endI_in hS q1 (by omega) λhr=>(q3 hr).1
open Classical
theorem sp_sp {t:ByteArray} {a:Int}:spA t (spA t a)=spA t a:=by
 unfold spA
 rw[Int.toNat_natCast,skip_skip]
theorem tk_sp {t:ByteArray} {a c:Int}:tkF t (spA t a) c=tkF t a c:=by
 unfold tkF
 rw[sp_sp]
theorem tk_false {t:ByteArray} {a c:Int} (h:(tkF t a c).1=false):(tkF t a c).2=spA t a:=by
 unfold tkF at*
 split
 ·rename_i hx
  rw[if_pos hx]at h
  cases h
 ·rfl
theorem tk_again {t:ByteArray} {a c d:Int} (h:(tkF t a c).1=false):tkF t (tkF t a c).2 d=tkF t a d:=by rw[tk_false h,tk_sp]
theorem tk_other {t:ByteArray} {a c d:Int} (hcd:c≠d) (h:(tkF t a c).1=true):(tkF t a d).1=false:=by
 unfold tkF at*
 split at h
 ·rename_i hx
  rw[if_neg (by rw[hx];simp[hcd])]
 ·cases h
def SameR (t:ByteArray) (ri:Int->Tm×Bool×Int) (rs:Int->Tm×Int×Bool):Prop:=∀a,atP t a->(rs a).2.2= !(ri a).2.1/\((ri a).2.1=true->(rs a).1=(ri a).1/\(rs a).2.1=(ri a).2.2)
theorem argsS_bad {t:ByteArray} {rs:Int->Tm×Int×Bool}:∀f a acc,(argsS t rs f a true acc).2.1=true
 |0,_,_=>rfl
 |f+1,a,acc=>by unfold argsS;rw[if_pos rfl]
theorem args_same {s:Sg} {t:ByteArray} {ri:Int->Tm×Bool×Int} {rs:Int->Tm×Int×Bool} (hr:RdI s t ri) (hs:SameR t ri rs):∀f a acc,atP t a->(t.size-a).toNat+2<=f->
  ((argsI t ri f true a acc).1=true/\(tkF t (argsI t ri f true a acc).2.1 41).1=true->argsS t rs f a false acc=((tkF t (argsI t ri f true a acc).2.1 41).2,false,(argsI t ri f true a acc).2.2))/\
  (¬((argsI t ri f true a acc).1=true/\(tkF t (argsI t ri f true a acc).2.1 41).1=true)->(argsS t rs f a false acc).2.1=true)/\((argsI t ri f true a acc).1=true->acc.length<(argsI t ri f true a acc).2.2.length)
 |0,_,_,_,hf=>absurd hf (by omega)
 | f + 1, a, acc, h, hf => by
  obtain⟨r1,r2,r3⟩:=hr a h
  obtain⟨s1,s2⟩:=hs a h
  unfold argsI argsS
  rw[if_pos rfl,if_neg (by decide:¬(false=true))]
  by_cases hc:(ri a).2.1=true
  ·obtain⟨s3,s4⟩:=s2 hc
   rw[hc]at s1
   have s1:(rs a).2.2=false:=s1
   rw[if_pos hc,s1,s3,s4,if_neg (by decide:¬(false=true))]
   obtain⟨f,rfl⟩:∃f',f=f'+1:=⟨f-1,by omega⟩
   cases h41:(tkF t (ri a).2.2 41).1 with
   | true =>
    have h44:=tk_other (d:=44) (by decide) h41
    rw[h44,tk_false h44,if_pos rfl]
    unfold argsI
    rw[if_neg (by decide)]
    simp only
    rw[tk_sp]
    exact⟨λ_=>rfl,λq=>absurd ⟨trivial,h41⟩ q,λ_=>by simp⟩
   | false =>
    rw[if_neg (by decide),tk_again h41]
    cases h44:(tkF t (ri a).2.2 44).1 with
    | true =>
     have hk:=(tkF_in r1 44).2.2 h44
     have hk2:=(tkF_in r1 44).2.1
     obtain⟨i1,i2,i3⟩:=args_same hr hs (f+1) (tkF t (ri a).2.2 44).2 (acc++[(ri a).1]) (atP_tk r1 44) (by omega)
     refine⟨i1,i2,λq=> ?_⟩
     have:=i3 q
     simp only[List.length_append,List.length_singleton]at this
     omega
    | false =>
     rw[tk_false h44]
     refine⟨λq=> ?_,λ_=>argsS_bad _ _ _,λq=> ?_⟩
     ·unfold argsI at q
      rw[if_neg (by decide)]at q
      simp only at q
      rw[tk_sp,h41]at q
      exact absurd q.2 (by decide)
     ·unfold argsI
      rw[if_neg (by decide)]
      simp
  ·have hc':(ri a).2.1=false:=by simpa using hc
   rw[hc']at s1
   have s1:(rs a).2.2=true:=s1
   rw[if_neg hc,s1,if_pos rfl]
   refine⟨λq=> ?_,λ_=> ?_,λq=>by cases q⟩
   ·cases q.1
   ·split
    ·rfl
    ·exact argsS_bad _ _ _
theorem mkS_bld (s:Sg) (op:Int) (args:List Tm):(mkS s op args).2=(bldF s op args).isSome/\∀t,bldF s op args=some t->(mkS s op args).1=t:=by
 unfold mkS bldF
 cases ix s.ops op with
 |none=>exact⟨rfl,λt h=>by cases h⟩
 |some o=>exact makeF_build s o op args
theorem fin_same (s:Sg) (op a:Int) (args:List Tm) (hop:¬op<0):(endS s op (a,false,args)).2.2= !(finI s op a args).2.1/\((finI s op a args).2.1=true->(endS s op (a,false,args)).1=(finI s op a args).1/\(endS s op (a,false,args)).2.1=(finI s op a args).2.2):=by
 obtain⟨m1,m2⟩:=mkS_bld s op args
 unfold endS finI
 rw[if_neg (by simp[hop])]
 refine⟨by simp only[m1],λh=> ?_⟩
 simp only at h ⊢
 cases hb:bldF s op args with
 |none=>rw[hb]at h;cases h
 |some t=>exact⟨m2 t hb,trivial⟩
theorem same_read {s : Sg} (hS : sigF s = true) (t : ByteArray) : ∀ e, SameR t (readI s t e) (readS s t e)
 |0=>λa _=>⟨rfl,λh=>by cases h⟩
 | e + 1 => fun a h => by
  have n1:=atP_nm h
  have c1:=atP_tk n1 58
  have o1:=atP_tk c1 40
  unfold readI readS
  by_cases hn:(nmF t a).1=ByteArray.empty
  ·rw [if_pos hn]
   split
   ·unfold varI
    rw[hn,nameF_empty]
    exact⟨rfl,λh=>by cases h⟩
   ·rw[hn]
    have h0:=fdO_empty hS
    have e2:∀r,(endI s t (fdO s.ops ByteArray.empty) r).2.1=false:=λr=>by
     unfold endI
     rw[if_pos h0]
     split<;>rfl
    exact⟨by rw[e2];rfl,λh=>by rw[e2]at h;cases h⟩
  ·rw [if_neg hn]
   split
   ·unfold varI varS
    rcases fdN_in (l:=s.sorts.names) (x:=(nmF t (tkF t (nmF t a).2 58).2).1)with hk|⟨hk,hk2⟩
    ·have e1:inN (nS s) (fdN s.sorts.names (nmF t (tkF t (nmF t a).2 58).2).1)=false:=by rw[hk];rfl
     have e2:decide (fdN s.sorts.names (nmF t (tkF t (nmF t a).2 58).2).1<0)=true:=by rw[hk];rfl
     rw[e1,e2]
     refine⟨by simp,λh=>by simp at h⟩
    ·have e1:inN (nS s) (fdN s.sorts.names (nmF t (tkF t (nmF t a).2 58).2).1)=true:=inN_iff.2 ⟨hk,hk2⟩
     have e2:decide (fdN s.sorts.names (nmF t (tkF t (nmF t a).2 58).2).1<0)=false:=dF (by omega)
     have e3:imax (fdN s.sorts.names (nmF t (tkF t (nmF t a).2 58).2).1) 0=fdN s.sorts.names (nmF t (tkF t (nmF t a).2 58).2).1:=by
      unfold imax
      rw[if_neg (by omega)]
     rw[e1,e2,e3]
     exact⟨by simp,λ_=>⟨rfl,rfl⟩⟩
   ·cases h40:(tkF t (tkF t (nmF t a).2 58).2 40).1 with
    | false =>
     rw[if_neg (by decide)]
     have ea:argsI t (readI s t e) (t.size+3) false (tkF t (tkF t (nmF t a).2 58).2 40).2 []=(true,(tkF t (tkF t (nmF t a).2 58).2 40).2,[]):=by unfold argsI;rw[if_neg (by decide)]
     rw[ea]
     unfold endI
     rw[if_pos rfl]
     by_cases hop:fdO s.ops (nmF t a).1<0
     ·rw[if_pos hop]
      unfold endS
      rw[if_pos (.inr hop)]
      exact⟨rfl,λh=>by cases h⟩
     ·rw[if_neg hop,if_pos (by rfl)]
      exact fin_same s _ _ _ hop
    | true =>
     rw[if_pos rfl]
     have ho:=o1.2
     obtain⟨i1,i2,i3⟩:=args_same (readI_in hS t e) (same_read hS t e) (t.size+3) (tkF t (tkF t (nmF t a).2 58).2 40).2 [] o1 (by omega)
     unfold endI
     by_cases hA:(argsI t (readI s t e) (t.size+3) true (tkF t (tkF t (nmF t a).2 58).2 40).2 []).1=true
     ·have hlen:=i3 hA
      rw[if_pos hA]
      by_cases hop:fdO s.ops (nmF t a).1<0
      ·rw[if_pos hop]
       unfold endS
       rw[if_pos (.inr hop)]
       exact⟨rfl,λh=>by cases h⟩
      ·rw[if_neg hop,if_neg (by simp only[List.length_nil]at hlen;omega)]
       by_cases h41:(tkF t (argsI t (readI s t e) (t.size+3) true (tkF t (tkF t (nmF t a).2 58).2 40).2 []).2.1 41).1=true
       ·rw[if_pos h41,i1 ⟨hA,h41⟩]
        exact fin_same s _ _ _ hop
       ·rw[if_neg h41]
        unfold endS
        rw[if_pos (.inl (i2 λq=>h41 q.2))]
        exact⟨rfl,λh=>by cases h⟩
     ·rw[if_neg hA]
      unfold endS
      rw[if_pos (.inl (i2 λq=>hA q.1))]
      exact⟨rfl,λh=>by cases h⟩
def RdS (t:ByteArray) (rd:Int->Tm×Int×Bool):Prop:=∀a,atP t a->atP t (rd a).2.1/\a<=(rd a).2.1
theorem argsS_in {t:ByteArray} {rd:Int->Tm×Int×Bool} (hr:RdS t rd):∀f a bad acc,atP t a->atP t (argsS t rd f a bad acc).1/\a<=(argsS t rd f a bad acc).1
 |0,a,_,acc,h=>⟨h,Int.le_refl _⟩
 | f + 1, a, bad, acc, h => by
  obtain⟨r1,r2⟩:=hr a h
  have k1:=atP_tk r1 41
  have k2:=(tkF_in r1 41).1
  unfold argsS
  split
  ·exact⟨h,Int.le_refl _⟩
  ·split
   ·exact⟨k1,by show a<=(tkF t (rd a).2.1 41).2;omega⟩
   ·split
    ·obtain⟨q1,q2⟩:=argsS_in hr f (tkF t (rd a).2.1 41).2 true (acc++[(rd a).1]) k1
     exact⟨q1,by omega⟩
    ·have k3:=(tkF_in k1 44).1
     obtain⟨q1,q2⟩:=argsS_in hr f (tkF t (tkF t (rd a).2.1 41).2 44).2 (!(tkF t (tkF t (rd a).2.1 41).2 44).1) (acc++[(rd a).1]) (atP_tk k1 44)
     exact⟨q1,by omega⟩
theorem readS_in (s:Sg) (t:ByteArray):∀e,RdS t (readS s t e)
 |0=>λa h=>⟨atP_nm h,nmF_ge h⟩
 | e + 1 => fun a h => by
  have n1:=atP_nm h
  have n2:=nmF_ge h
  have c1:=atP_tk n1 58
  have c2:=(tkF_in n1 58).1
  have o1:=atP_tk c1 40
  have o2:=(tkF_in c1 40).1
  unfold readS
  split
  ·exact⟨n1,n2⟩
  ·split
   ·exact⟨atP_nm c1,by have:=nmF_ge c1;show a<=(nmF t (tkF t (nmF t a).2 58).2).2;omega⟩
   ·have hend:∀r:Int×Bool×List Tm,(endS s (fdO s.ops (nmF t a).1) r).2.1=r.1:=λr=>by unfold endS;split<;>rfl
    rw[hend]
    split
    ·obtain⟨q1,q2⟩:=argsS_in (readS_in s t e) (t.size+3) (tkF t (tkF t (nmF t a).2 58).2 40).2 false [] o1
     exact⟨q1,by omega⟩
    ·exact⟨o1,by show a<=(tkF t (tkF t (nmF t a).2 58).2 40).2;omega⟩
open Classical
theorem argsI_f {t:ByteArray} {rd:Int->Tm×Bool×Int} {f:Nat} {a:Int} {acc:List Tm}:argsI t rd (f+1) false a acc=(true,a,acc):=by unfold argsI;rw[if_neg (by decide)]
theorem argsI_t {t:ByteArray} {rd:Int->Tm×Bool×Int} {f:Nat} {a:Int} {acc:List Tm} (h:(rd a).2.1=true):argsI t rd (f+1) true a acc=argsI t rd f (tkF t (rd a).2.2 44).1 (tkF t (rd a).2.2 44).2 (acc++[(rd a).1]):=by
 conv=>lhs;unfold argsI
 rw[if_pos rfl,if_pos h]
theorem argsI_u {t:ByteArray} {rd:Int->Tm×Bool×Int} {f:Nat} {a:Int} {acc:List Tm} (h:(rd a).2.1=false):argsI t rd (f+1) true a acc=(false,(rd a).2.2,[]):=by
 conv=>lhs;unfold argsI
 rw[if_pos rfl,if_neg (by simp[h])]
noncomputable abbrev GT (g:List Int->List Int->List Int->List ByteArray->List Sb->List Opr->Mp->ByteArray->Int->Int->Option (Tm×Bool×Int×Mp)):z16.Gs:={z14:=gNmI,z13:=gTkI,z4c:=gFdN,z0o:=gVar,z4b:=gFdO,z16:=g,z0k:=gBuild}
noncomputable def gTm:Nat->List Int->List Int->List Int->List ByteArray->List Sb->List Opr->Mp->ByteArray->Int->Int->Option (Tm×Bool×Int×Mp):=λk ab _ kd nm sb ops m t a d=>if Alg kd nm sb ops/\ab.length=nm.length/\atP t a/\0<=d/\d<=21/\(21-d).toNat<k then some ((readI ⟨⟨nm,sb⟩,ops⟩ t (21-d).toNat a).1,(readI ⟨⟨nm,sb⟩,ops⟩ t (21-d).toNat a).2.1,(readI ⟨⟨nm,sb⟩,ops⟩ t (21-d).toNat a).2.2,m)else none
section
variable {R : Type} {kd ab be : List Int} {nm : List ByteArray} {sb : List Sb} {ops : List Opr} (hA : Alg kd nm sb ops) (hab : ab.length = nm.length) {k : Nat} {d : Int} (hd : 0 ≤ d ∧ d ≤ 20) (hk : (20 - d).toNat < k)
include hA hab hd hk
theorem ti_loop (n:Nat) (t:ByteArray) (m:Mp) (op h3 h33:Int) (h32:ByteArray) (h4:List Tm) (k0:Bool->Int->Mp->Int->ByteArray->Int->List Tm->Option R) (k1:Int->Mp->List Tm->Option R):∀f o a acc,atP t a->(t.size-a).toNat+(if o=true then 2 else 1)<=f->acc.length+f<=5000->
  z16.l11 (GT (gTm k)) n f t ab be kd nm sb ops d op h3 h32 h33 h4 o a m acc k0 k1=if (argsI t (readI ⟨⟨nm,sb⟩,ops⟩ t (20-d).toNat) f o a acc).1=true then k1 (argsI t (readI ⟨⟨nm,sb⟩,ops⟩ t (20-d).toNat) f o a acc).2.1 m (argsI t (readI ⟨⟨nm,sb⟩,ops⟩ t (20-d).toNat) f o a acc).2.2 else k0 false (argsI t (readI ⟨⟨nm,sb⟩,ops⟩ t (20-d).toNat) f o a acc).2.1 m 0 ByteArray.empty 0 []:=by
 intro f
 induction f with
 |zero=>intro o a acc _ hf _;split at hf<;>omega
 | succ f ih =>
  intro o a acc h hf hl
  show z16.b11 (GT (gTm k)) n t ab be kd nm sb ops d op h3 h32 h33 h4 o a m acc (λy0 y1 y2 y3=>z16.l11 (GT (gTm k)) n f t ab be kd nm sb ops d op h3 h32 h33 h4 y0 y1 y2 y3 k0 k1) k0 k1=_
  unfold z16.b11
  obtain⟨r1,r2,r3⟩:=readI_in hA.1 t (20-d).toNat a h
  cases o with
  |false=>rw[cF,argsI_f,if_pos rfl]
  | true =>
   rw[if_pos rfl]at hf
   have e1:gTm k ab be kd nm sb ops m t a (d+1)=some ((readI ⟨⟨nm,sb⟩,ops⟩ t (20-d).toNat a).1,(readI ⟨⟨nm,sb⟩,ops⟩ t (20-d).toNat a).2.1,(readI ⟨⟨nm,sb⟩,ops⟩ t (20-d).toNat a).2.2,m):=by
    unfold gTm
    rw[show 21-(d+1)=20-d by omega]
    exact if_pos ⟨hA,hab,h,by omega,by omega,hk⟩
   rw[cT,wr_in (x:=d+1) (by omega)]
   show Option.bind (gTm k ab be kd nm sb ops m t a (d+1)) _=_
   rw[e1,bS]
   simp only
   cases hc:(readI ⟨⟨nm,sb⟩,ops⟩ t (20-d).toNat a).2.1 with
   | false =>
    rw[Bool.not_false,cT,argsI_u hc,if_neg (by simp)]
   | true =>
    rw[Bool.not_true,cF,Tm.eta,lim_le (by simp;omega),bS,argsI_t hc]
    have e2:gTkI ab be kd nm sb ops m t (readI ⟨⟨nm,sb⟩,ops⟩ t (20-d).toNat a).2.2 44=some ((tkF t (readI ⟨⟨nm,sb⟩,ops⟩ t (20-d).toNat a).2.2 44).1,(tkF t (readI ⟨⟨nm,sb⟩,ops⟩ t (20-d).toNat a).2.2 44).2,m):=if_pos r1
    show Option.bind (gTkI ab be kd nm sb ops m t (readI ⟨⟨nm,sb⟩,ops⟩ t (20-d).toNat a).2.2 44) _=_
    rw[e2,bS]
    obtain⟨t1,t2,t3⟩:=tkF_in r1 44
    refine ih (tkF t (readI ⟨⟨nm,sb⟩,ops⟩ t (20-d).toNat a).2.2 44).1 (tkF t (readI ⟨⟨nm,sb⟩,ops⟩ t (20-d).toNat a).2.2 44).2 _ (atP_tk r1 44) ?_ (by simp;omega)
    split
    ·rename_i hq
     have:=t3 hq
     omega
    ·omega
theorem ti_main (t:ByteArray) (m:Mp) (a:Int) (h:atP t a) (K:Tm->Bool->Int->Mp->Option R):
  z16.main (GT (gTm k)) (t.size+3) ab be kd nm sb ops m t a d K=K (readI ⟨⟨nm,sb⟩,ops⟩ t ((20-d).toNat+1) a).1 (readI ⟨⟨nm,sb⟩,ops⟩ t ((20-d).toNat+1) a).2.1 (readI ⟨⟨nm,sb⟩,ops⟩ t ((20-d).toNat+1) a).2.2 m:=by
 have h1:=h.1
 have n1:=atP_nm h
 have c1:=atP_tk n1 58
 have o1:=atP_tk c1 40
 have hpre:=preS_iff (sigF_pre hA.1)
 have hol:=(sigF_parts hA.1).1
 have en:gNmI ab be kd nm sb ops m t a=some ((nmF t a).1,(nmF t a).2,m):=if_pos h
 have ec:gTkI ab be kd nm sb ops m t (nmF t a).2 58=some ((tkF t (nmF t a).2 58).1,(tkF t (nmF t a).2 58).2,m):=if_pos n1
 unfold z16.main readI
 rw[dF (by omega),cF]
 show Option.bind (gNmI ab be kd nm sb ops m t a) _=_
 rw[en,bS]
 show Option.bind (gTkI ab be kd nm sb ops m t (nmF t a).2 58) _=_
 rw[ec,bS]
 simp only
 cases h58:(tkF t (nmF t a).2 58).1 with
 | true =>
  rw[cT,if_pos rfl]
  unfold z16.d5
  have en2:gNmI ab be kd nm sb ops m t (tkF t (nmF t a).2 58).2=some ((nmF t (tkF t (nmF t a).2 58).2).1,(nmF t (tkF t (nmF t a).2 58).2).2,m):=if_pos c1
  show Option.bind (gNmI ab be kd nm sb ops m t (tkF t (nmF t a).2 58).2) _=_
  rw[en2,bS]
  have ef:gFdN nm (nmF t (tkF t (nmF t a).2 58).2).1=some (fdN nm (nmF t (tkF t (nmF t a).2 58).2).1):=if_pos hpre.1
  show Option.bind (gFdN nm (nmF t (tkF t (nmF t a).2 58).2).1) _=_
  rw[ef,bS]
  have ev:gVar ab be kd nm sb ops m (Tm.mk (-1) (nmF t a).1 (fdN nm (nmF t (tkF t (nmF t a).2 58).2).1) [])=some (nameF (nmF t a).1&&inN nm.length (fdN nm (nmF t (tkF t (nmF t a).2 58).2).1),m):=by
   unfold gVar
   rw[if_pos rfl,hab]
   simp
  show Option.bind (gVar ab be kd nm sb ops m (Tm.mk (-1) (nmF t a).1 (fdN nm (nmF t (tkF t (nmF t a).2 58).2).1) [])) _=_
  rw[ev,bS]
  rfl
 | false =>
  rw[cF,if_neg (by decide)]
  have ef:gFdO ops (nmF t a).1=some (fdO ops (nmF t a).1):=if_pos hol
  show Option.bind (gFdO ops (nmF t a).1) _=_
  rw[ef,bS]
  have eo:gTkI ab be kd nm sb ops m t (tkF t (nmF t a).2 58).2 40=some ((tkF t (tkF t (nmF t a).2 58).2 40).1,(tkF t (tkF t (nmF t a).2 58).2 40).2,m):=if_pos c1
  show Option.bind (gTkI ab be kd nm sb ops m t (tkF t (nmF t a).2 58).2 40) _=_
  rw[eo,bS]
  obtain⟨x,hx⟩:∃x,x=fdO ops (nmF t a).1:=⟨_,rfl⟩
  have hfd:¬x<0->∃o,ix ops x=some o:=λh=>by
   rw[hx]at h ⊢
   obtain⟨o,ho,_⟩:=fdO_some h
   exact⟨o,ho⟩
  obtain⟨y,hy⟩:∃y,y=argsI t (readI ⟨⟨nm,sb⟩,ops⟩ t (20-d).toNat) (t.size+3) (tkF t (tkF t (nmF t a).2 58).2 40).1 (tkF t (tkF t (nmF t a).2 58).2 40).2 []:=⟨_,rfl⟩
  have ho2:=o1.2
  obtain⟨y1,y2,y3⟩:=argsI_in (readI_in hA.1 t (20-d).toNat) (t.size+3) (tkF t (tkF t (nmF t a).2 58).2 40).1 (tkF t (tkF t (nmF t a).2 58).2 40).2 [] o1 λx hx=>by simp at hx
  simp only
  refine(ti_loop (R:=R) hA hab hd hk (t.size+3) t m (fdO ops (nmF t a).1) 0 0 ByteArray.empty [] _ _ (t.size+3) _ _ [] o1 (by split<;>omega) (by simp;omega)).trans ?_
  show _=K (endI _ t (fdO ops (nmF t a).1) (argsI t (readI ⟨⟨nm,sb⟩,ops⟩ t (20-d).toNat) (t.size+3) (tkF t (tkF t (nmF t a).2 58).2 40).1 (tkF t (tkF t (nmF t a).2 58).2 40).2 [])).1 (endI _ t (fdO ops (nmF t a).1) (argsI t (readI ⟨⟨nm,sb⟩,ops⟩ t (20-d).toNat) (t.size+3) (tkF t (tkF t (nmF t a).2 58).2 40).1 (tkF t (tkF t (nmF t a).2 58).2 40).2 [])).2.1 (endI _ t (fdO ops (nmF t a).1) (argsI t (readI ⟨⟨nm,sb⟩,ops⟩ t (20-d).toNat) (t.size+3) (tkF t (tkF t (nmF t a).2 58).2 40).1 (tkF t (tkF t (nmF t a).2 58).2 40).2 [])).2.2 m
  rw[<-hy,<-hx]at*
  obtain⟨y0,ya,yl⟩:=y
  simp only at y1 y2 y3 ⊢
  unfold endI
  cases y0 with
  |false=>rfl
  | true =>
   obtain⟨y4,y5⟩:=y3 rfl
   simp only[List.length_nil]at y5
   have hb:tmTotals yl<1073741824:=by have:=sm_totals y4;omega
   rw[if_pos rfl,if_pos rfl]
   by_cases hop:x<0
   ·rw[dT hop,cT,if_pos hop]
   ·rw [decide_eq_false hop, cond_false, if_neg hop]
    obtain⟨o,ho⟩:=hfd hop
    have hbl:bldF ⟨⟨nm,sb⟩,ops⟩ x yl=buildF ⟨⟨nm,sb⟩,ops⟩ o x yl:=by
     unfold bldF
     show (ix ops x).bind _=_
     rw[ho,bS]
    have eb:gBuild ab be kd nm sb ops m x yl=some ((bldF ⟨⟨nm,sb⟩,ops⟩ x yl).getD Zt,(bldF ⟨⟨nm,sb⟩,ops⟩ x yl).isSome,m):=by
     unfold gBuild
     rw[if_pos ⟨hA,λz hz=>(y4 z hz).1,hb⟩,ho,hbl]
     rfl
    have c19:∀a2:Int,z16.c19 (GT (gTm k)) (t.size+3) t ab be kd nm sb ops x a2 m 0 ByteArray.empty 0 [] yl (λt52 h224 h342 h352 h362 h37=>K (Tm.mk h342 h352 h362 h37) t52 a2 h224)=K (finI ⟨⟨nm,sb⟩,ops⟩ x a2 yl).1 (finI ⟨⟨nm,sb⟩,ops⟩ x a2 yl).2.1 (finI ⟨⟨nm,sb⟩,ops⟩ x a2 yl).2.2 m:=λa2=>by
     unfold z16.c19
     show Option.bind (gBuild ab be kd nm sb ops m x yl) _=_
     rw[eb,bS]
     unfold finI
     exact congrArg (λz=>K z _ a2 m) (Tm.eta _)
    by_cases hl0:yl.length=0
    ·rw[dF (by omega),cF,if_pos hl0]
     exact c19 ya
    ·rw[dT (by omega),cT,if_neg hl0]
     have ek:gTkI ab be kd nm sb ops m t ya 41=some ((tkF t ya 41).1,(tkF t ya 41).2,m):=if_pos y1
     show Option.bind (gTkI ab be kd nm sb ops m t ya 41) _=_
     rw[ek,bS]
     simp only
     cases h41:(tkF t ya 41).1 with
     |false=>rw[Bool.not_false,cT,if_neg (by decide)]
     | true =>
      rw[Bool.not_true,cF,if_pos rfl]
      exact c19 (tkF t ya 41).2
end
theorem term_ok :∀k,EO (z16.ent (gTm k))
 | 0 => fun R xs H K r h => by
  simp only[z16.ent]at h
  split at h
  ·simp[gTm]at h
  ·cases h
 | k + 1 => z16.ok               (G := GT (gTm k)) ⟨name_ok, eat_ok, index_ok, isVariable_ok, indexFunc_ok, term_ok k, build_ok, trivial⟩ fun ab be kd nm sb ops m t a d r h => by
  unfold gTm at h
  split at h
  ·rename_i hs
   obtain⟨hA,hab,hp,d0,d1,hk⟩:=hs
   cases h
   by_cases hd:d=21
   ·subst hd
    refine⟨1,?_⟩
    unfold z16.main
    rw[dT (by decide),cT]
    rfl
   ·rw[show (21-d).toNat=(20-d).toNat+1 by omega]at hk ⊢
    exact⟨t.size+3,(ti_main (ab:=ab) (be:=be) hA hab (k:=k) ⟨d0,by omega⟩ (by omega) t m a hp _).trans rfl⟩
  ·cases h
open Classical
theorem l5Var_ok :EO (z3q.ent λx k=>some (Tm.mk (-1) x k [])):=z3q.ok (G:=⟨()⟩) trivial λx k r h=>⟨1,by cases h;rfl⟩
noncomputable abbrev GTS (g:List ByteArray->List Sb->List Opr->ByteArray->Int->Bool->Int->Option (Tm×Int×Bool)):z46.Gs:={z45:=gNmS,z48:=gTkS,z44:=gFdN,z2q:=λx=>some (nameF x),z36:=λa b=>some (imax a b),z3q:=λx k=>some (Tm.mk (-1) x k []),z46:=g,z3x:=gMake}
noncomputable def gRd:Nat->List ByteArray->List Sb->List Opr->ByteArray->Int->Bool->Int->Option (Tm×Int×Bool):=λk nm sb ops t a bad d=>if sigF ⟨⟨nm,sb⟩,ops⟩=true/\atP t a/\bad=false/\1<=d/\d<=21/\(21-d).toNat<k then some (readS ⟨⟨nm,sb⟩,ops⟩ t (21-d).toNat a)else none
theorem readS_sm {s:Sg} (hS:sigF s=true) {t:ByteArray} {e:Nat} {a:Int} (h:atP t a) (hb:(readS s t e a).2.2=false):Sm s (readS s t e a).1:=by
 obtain⟨s1,s2⟩:=same_read hS t e a h
 have hc:(readI s t e a).2.1=true:=by rw[hb]at s1;simpa using s1
 rw[(s2 hc).1]
 exact(readI_in hS t e a h).2.2 hc
theorem argsS_sm {s:Sg} (hS:sigF s=true) {t:ByteArray} {e:Nat}:∀f a bad acc,atP t a->(∀x∈acc,Sm s x)->(argsS t (readS s t e) f a bad acc).2.1=false->(∀x∈(argsS t (readS s t e) f a bad acc).2.2,Sm s x)/\(argsS t (readS s t e) f a bad acc).2.2.length<=acc.length+f
 |0,a,bad,acc,_,_,hb=>by cases hb
 | f + 1, a, bad, acc, h, ha, hb => by
  obtain⟨r1,r2⟩:=readS_in s t e a h
  unfold argsS at hb ⊢
  split
  ·rename_i q
   rw[if_pos q]at hb
   cases hb
  ·rename_i q
   rw[if_neg q]at hb
   split
   ·rename_i q2
    rw[if_pos q2]at hb
    refine⟨λx hx=> ?_,by simp only[List.length_append,List.length_singleton];omega⟩
    rcases List.mem_append.1 hx with hx|hx
    ·exact ha x hx
    ·rw[List.mem_singleton.1 hx];exact readS_sm hS h hb
   ·rename_i q2
    rw[if_neg q2]at hb
    split
    ·rename_i q3
     rw[if_pos q3,argsS_bad]at hb
     cases hb
    ·rename_i q3
     rw[if_neg q3]at hb
     obtain⟨i1,i2⟩:=argsS_sm hS f _ _ _ (atP_tk (atP_tk r1 41) 44) (λx hx=>by
      rcases List.mem_append.1 hx with hx|hx
      ·exact ha x hx
      ·rw[List.mem_singleton.1 hx];exact readS_sm hS h (by simpa using q3)) hb
     exact⟨i1,by simp only[List.length_append,List.length_singleton]at i2;omega⟩
theorem argsS_more {t:ByteArray} {rs:Int->Tm×Int×Bool} (hr:RdS t rs) (j:Nat):∀f a bad acc,atP t a->(if bad=true then 1 else (t.size-a).toNat+2)<=f->argsS t rs (f+j) a bad acc=argsS t rs f a bad acc
 |0,a,bad,acc,_,hf=>by split at hf<;>omega
 | f + 1, a, bad, acc, h, hf => by
  obtain⟨r1,r2⟩:=hr a h
  have a1:=atP_tk r1 41
  have t1:=tkF_in r1 41
  have t2:=tkF_in a1 44
  rw[show f+1+j=(f+j)+1 by omega]
  unfold argsS
  split
  ·rfl
  ·rename_i q
   rw[if_neg q]at hf
   split
   ·rfl
   ·split
    ·exact argsS_more hr j f _ true _ a1 (by rw[if_pos rfl];omega)
    ·refine argsS_more hr j f _ _ _ (atP_tk a1 44) ?_
     cases h44:(tkF t (tkF t (rs a).2.1 41).2 44).1 with
     | true =>
      have:=t2.2.2 h44
      rw[Bool.not_true,if_neg (by decide)]
      omega
     | false =>
      rw[Bool.not_false,if_pos rfl]
      omega
section
variable {R : Type} {nm : List ByteArray} {sb : List Sb} {ops : List Opr}
theorem ts_find (g:List ByteArray->List Sb->List Opr->ByteArray->Int->Bool->Int->Option (Tm×Int×Bool)) (n:Nat) (t x:ByteArray) (d h0 h1 h13:Int) (h02:Bool) (h12:ByteArray) (h2:List Tm) (hl:ops.length<=4294967295) (k0:Int->Option R):∀m (i:Nat) (c:Int),i<=ops.length->ops.length-i<m->
  z46.l11 (GTS g) n m nm sb ops t d x h0 h02 h1 h12 h13 h2 c i k0=k0 (lastF (λo=>sEq (Opr.name o) x) (ops.drop i) i c)
 |0,i,c,_,hm=>absurd hm (Nat.not_lt_zero _)
 | m + 1, i, c, hi, hm => by
  show z46.b11 (GTS g) n nm sb ops t d x h0 h02 h1 h12 h13 h2 c i (λy0 y1=>z46.l11 (GTS g) n m nm sb ops t d x h0 h02 h1 h12 h13 h2 y0 y1 k0) k0=_
  unfold z46.b11
  by_cases h:i<ops.length
  ·obtain⟨o,ho,_⟩:=get_lt h
   rw[lt_nat h,cT,ix_get ho,bS,drop_get ho,wr_one (by omega)]
   unfold lastF
   cases hq:sEq (Opr.name o) x with
   | true =>
    rw[cT,if_pos rfl]
    exact ts_find g n t x d h0 h1 h13 h02 h12 h2 hl k0 m (i+1) i h (by omega)
   | false =>
    rw[cF,if_neg (by decide)]
    exact ts_find g n t x d h0 h1 h13 h02 h12 h2 hl k0 m (i+1) c h (by omega)
  ·obtain rfl:i=ops.length:=by omega
   rw[nlt_nat (by omega),cF,drop_nat]
   rfl
variable (hS : sigF ⟨⟨nm, sb⟩, ops⟩ = true) {k : Nat} {d : Int} (hd : 1 ≤ d ∧ d ≤ 20) (hk : (20 - d).toNat < k)
include hS hd hk
theorem ts_loop (n:Nat) (t:ByteArray) (op h1 h13:Int) (h12:ByteArray) (h2:List Tm) (k0:Int->Bool->List Tm->Option R):∀f a bad acc,atP t a->(if bad=true then 1 else (t.size-a).toNat+2)<=f->acc.length+f<=5000->
  z46.l17 (GTS (gRd k)) n f nm sb ops t d op h1 h12 h13 h2 a bad acc k0=k0 (argsS t (readS ⟨⟨nm,sb⟩,ops⟩ t (20-d).toNat) f a bad acc).1 (argsS t (readS ⟨⟨nm,sb⟩,ops⟩ t (20-d).toNat) f a bad acc).2.1 (argsS t (readS ⟨⟨nm,sb⟩,ops⟩ t (20-d).toNat) f a bad acc).2.2:=by
 intro f
 induction f with
 |zero=>intro a bad acc _ hf _;split at hf<;>omega
 | succ f ih =>
  intro a bad acc h hf hl
  show z46.b17 (GTS (gRd k)) n nm sb ops t d op h1 h12 h13 h2 a bad acc (λy0 y1 y2=>z46.l17 (GTS (gRd k)) n f nm sb ops t d op h1 h12 h13 h2 y0 y1 y2 k0) k0=_
  unfold z46.b17
  obtain⟨r1,r2⟩:=readS_in ⟨⟨nm,sb⟩,ops⟩ t (20-d).toNat a h
  cases bad with
  | true =>
   rw[Bool.not_true,cF]
   unfold argsS
   rw[if_pos rfl]
  | false =>
   rw[if_neg (by decide)]at hf
   have e1:gRd k nm sb ops t a false (d+1)=some (readS ⟨⟨nm,sb⟩,ops⟩ t (20-d).toNat a):=by
    unfold gRd
    rw[show 21-(d+1)=20-d by omega]
    exact if_pos ⟨hS,h,rfl,by omega,by omega,hk⟩
   rw[Bool.not_false,cT,wr_in (x:=d+1) (by omega)]
   show Option.bind (gRd k nm sb ops t a false (d+1)) _=_
   rw[e1,bS]
   unfold argsS
   rw[if_neg (by decide)]
   obtain⟨y,hy⟩:∃y,y=readS ⟨⟨nm,sb⟩,ops⟩ t (20-d).toNat a:=⟨_,rfl⟩
   rw[<-hy]at r1 r2 ⊢
   obtain⟨y1,y2,y3⟩:=y
   simp only at r1 r2 ⊢
   have e2:∀b,gTkS nm sb ops t y2 b 41=some (tkF t y2 41):=λb=>if_pos r1
   have t1:=tkF_in r1 41
   have a1:=atP_tk r1 41
   rw[Tm.eta,lim_le (by simp;omega),bS]
   show Option.bind (gTkS nm sb ops t y2 y3 41) _=_
   rw[e2,bS]
   cases h41:(tkF t y2 41).1 with
   |true=>rw[cT,if_pos rfl]
   | false =>
    rw[cF,if_neg (by decide)]
    cases y3 with
    | true =>
     rw[cT,if_pos rfl]
     exact ih _ true _ a1 (by rw[if_pos rfl];omega) (by simp;omega)
    | false =>
     rw[cF,if_neg (by decide)]
     have e3:gTkS nm sb ops t (tkF t y2 41).2 false 44=some (tkF t (tkF t y2 41).2 44):=if_pos a1
     show Option.bind (gTkS nm sb ops t (tkF t y2 41).2 false 44) _=_
     rw[e3,bS]
     have t2:=tkF_in a1 44
     refine ih _ _ _ (atP_tk a1 44) ?_ (by simp;omega)
     cases h44:(tkF t (tkF t y2 41).2 44).1 with
     | true =>
      have:=t2.2.2 h44
      rw[Bool.not_true,if_neg (by decide)]
      omega
     | false =>
      rw[Bool.not_false,if_pos rfl]
      omega
omit hd hk in
theorem ts_end (n:Nat) (t:ByteArray) (op a:Int) (bad:Bool) (args:List Tm) (hop:¬op<0->∃o,ix ops op=some o) (ha:bad=false->(∀x∈args,Sm ⟨⟨nm,sb⟩,ops⟩ x)/\args.length<=4000) (K:Tm->Int->Bool->Option R):
  z46.c21 (GTS (gRd k)) n nm sb ops t op a bad 0 ByteArray.empty 0 [] args (λh1 h2 h3 h4 h5=>K (Tm.mk h2 h3 h4 h5) a h1)=K (endS ⟨⟨nm,sb⟩,ops⟩ op (a,bad,args)).1 a (endS ⟨⟨nm,sb⟩,ops⟩ op (a,bad,args)).2.2:=by
 unfold z46.c21 endS
 cases bad with
 | true =>
  rw[cT,if_pos (.inl rfl)]
  rfl
 | false =>
  rw[cF]
  by_cases h:op<0
  ·rw[dT h,cT,if_pos (.inr h)]
   rfl
  ·obtain⟨o,ho⟩:=hop h
   obtain⟨a1,a2⟩:=ha rfl
   have hb:tmTotals args<1073741824:=by have:=sm_totals a1;omega
   have eb:gMake ⟨⟨nm,sb⟩,ops⟩ op args=some (mkS ⟨⟨nm,sb⟩,ops⟩ op args):=by
    unfold gMake mkS
    rw[if_pos ⟨hS,λz hz=>(a1 z hz).1,hb⟩]
    show (ix ops op).map _=some (match ix ops op with|some o=>makeF ⟨⟨nm,sb⟩,ops⟩ o op args|none=>(Zt,false))
    rw[ho]
    rfl
   rw[dF h,cF,if_neg (by simp[h])]
   show Option.bind (gMake ⟨⟨nm,sb⟩,ops⟩ op args) _=_
   rw[eb,bS,cF]
   exact congrArg (λz=>K z a _) (Tm.eta _)
theorem ts_main (t:ByteArray) (a:Int) (h:atP t a) (hol:ops.length<=14) (hnl:nm.length<=8) (K:Tm->Int->Bool->Option R):
  z46.main (GTS (gRd k)) (t.size+20) nm sb ops t a false d K=K (readS ⟨⟨nm,sb⟩,ops⟩ t ((20-d).toNat+1) a).1 (readS ⟨⟨nm,sb⟩,ops⟩ t ((20-d).toNat+1) a).2.1 (readS ⟨⟨nm,sb⟩,ops⟩ t ((20-d).toNat+1) a).2.2:=by
 have n1:=atP_nm h
 have c1:=atP_tk n1 58
 have o1:=atP_tk c1 40
 have en:gNmS nm sb ops t a false=some (nmF t a):=if_pos h
 have ec:gTkS nm sb ops t (nmF t a).2 false 58=some (tkF t (nmF t a).2 58):=if_pos n1
 unfold z46.main readS
 show Option.bind (gNmS nm sb ops t a false) _=_
 rw[en,bS]
 by_cases hn:(nmF t a).1=ByteArray.empty
 ·rw[if_pos hn,show sEq (nmF t a).1 ByteArray.empty=true from dT hn,cT]
  rfl
 ·rw [if_neg hn, show sEq (nmF t a).1 ByteArray.empty = false from decide_eq_false hn, cond_false, decide_eq_false (by omega), cond_false]
  show Option.bind (gTkS nm sb ops t (nmF t a).2 false 58) _=_
  rw[ec,bS]
  cases h58:(tkF t (nmF t a).2 58).1 with
  | true =>
   rw[cT,if_pos rfl]
   unfold z46.d6
   have en2:gNmS nm sb ops t (tkF t (nmF t a).2 58).2 false=some (nmF t (tkF t (nmF t a).2 58).2):=if_pos c1
   show Option.bind (gNmS nm sb ops t (tkF t (nmF t a).2 58).2 false) _=_
   rw[en2,bS]
   have ef:gFdN nm (nmF t (tkF t (nmF t a).2 58).2).1=some (fdN nm (nmF t (tkF t (nmF t a).2 58).2).1):=if_pos hnl
   show Option.bind (gFdN nm (nmF t (tkF t (nmF t a).2 58).2).1) _=_
   rw[ef,bS]
   simp only[cF]
   unfold varS
   by_cases hs:fdN nm (nmF t (tkF t (nmF t a).2 58).2).1<0
   ·rw[dT hs,cT]
    rfl
   ·rw[dF hs,cF]
    simp only[Bool.false_or]
    rfl
  | false =>
   rw[cF,if_neg (by decide)]
   refine(ts_find (R:=R) (gRd k) (t.size+20) t (nmF t a).1 d (tkF t (nmF t a).2 58).2 0 0 false ByteArray.empty [] (by omega) _ (t.size+20) 0 (-1) (Nat.zero_le _) (by omega)).trans ?_
   have hlf:lastF (λo=>sEq (Opr.name o) (nmF t a).1) (ops.drop 0) 0 (-1)=fdO ops (nmF t a).1:=last_first (s:=⟨⟨nm,sb⟩,ops⟩) hS (nmF t a).1
   rw[hlf]
   have hfd:¬fdO ops (nmF t a).1<0->∃o,ix ops (fdO ops (nmF t a).1)=some o:=λh=>by
    obtain⟨o,ho,_⟩:=fdO_some h
    exact⟨o,ho⟩
   have eo:gTkS nm sb ops t (tkF t (nmF t a).2 58).2 false 40=some (tkF t (tkF t (nmF t a).2 58).2 40):=if_pos c1
   show Option.bind (gTkS nm sb ops t (tkF t (nmF t a).2 58).2 false 40) _=_
   rw[eo,bS]
   have ho2:=o1.2
   cases h40:(tkF t (tkF t (nmF t a).2 58).2 40).1 with
   | true =>
    rw[cT,if_pos rfl]
    have hmore:=argsS_more (readS_in ⟨⟨nm,sb⟩,ops⟩ t (20-d).toNat) 17 (t.size+3) (tkF t (tkF t (nmF t a).2 58).2 40).2 false [] o1 (by rw[if_neg (by decide)];omega)
    refine(ts_loop (R:=R) hS hd hk (t.size+20) t (fdO ops (nmF t a).1) 0 0 ByteArray.empty [] _ (t.size+20) (tkF t (tkF t (nmF t a).2 58).2 40).2 false [] o1 (by rw[if_neg (by decide)];omega) (by have:=h.1;simp;omega)).trans ?_
    rw[show t.size+3+17=t.size+20 by omega]at hmore
    rw[hmore]
    have hsm:=argsS_sm hS (e:=(20-d).toNat) (t.size+3) (tkF t (tkF t (nmF t a).2 58).2 40).2 false [] o1 (λx hx=>by simp at hx)
    obtain⟨y,hy⟩:∃y,y=argsS t (readS ⟨⟨nm,sb⟩,ops⟩ t (20-d).toNat) (t.size+3) (tkF t (tkF t (nmF t a).2 58).2 40).2 false []:=⟨_,rfl⟩
    have hend:∀r:Int×Bool×List Tm,(endS ⟨⟨nm,sb⟩,ops⟩ (fdO ops (nmF t a).1) r).2.1=r.1:=λr=>by unfold endS;split<;>rfl
    rw[<-hy]at hsm ⊢
    obtain⟨ya,yb,yl⟩:=y
    rw[hend]
    exact ts_end hS _ t _ ya yb yl hfd (λq=>by have:=hsm q;have h5:=h.1;simp only[List.length_nil]at this;exact⟨this.1,by omega⟩) K
   | false =>
    rw[cF,if_neg (by decide)]
    have hend:∀r:Int×Bool×List Tm,(endS ⟨⟨nm,sb⟩,ops⟩ (fdO ops (nmF t a).1) r).2.1=r.1:=λr=>by unfold endS;split<;>rfl
    rw[hend]
    exact ts_end hS _ t _ _ false [] hfd (λ_=>⟨λx hx=>by simp at hx,by simp⟩) K
end
theorem l8Read_ok :∀k,EO (z46.ent (gRd k))
 | 0 => fun R xs H K r h => by
  simp only[z46.ent]at h
  split at h
  ·simp[gRd]at h
  ·cases h
 | k + 1 => z46.ok      (G := GTS (gRd k)) ⟨l8Name_ok, l8Take_ok, l8Find_ok, z2r        , l1Max_ok, l5Var_ok, l8Read_ok k, l6Make_ok, trivial⟩ fun nm sb ops t a bad d r h => by
  unfold gRd at h
  split at h
  ·rename_i hs
   obtain⟨hS,hp,rfl,d0,d1,hk⟩:=hs
   cases h
   by_cases hd:d=21
   ·subst hd
    refine⟨1,?_⟩
    have en:gNmS nm sb ops t a false=some (nmF t a):=if_pos hp
    unfold z46.main
    show Option.bind (gNmS nm sb ops t a false) _=_
    rw[en,bS]
    cases hn:sEq (nmF t a).1 ByteArray.empty with
    |true=>rw[cT];rfl
    |false=>rw[cF,dT (by decide),cT];rfl
   ·rw[show (21-d).toNat=(20-d).toNat+1 by omega]at hk ⊢
    have hl:=sigF_parts hS
    have hp3:=preS_iff (sigF_pre hS)
    exact⟨t.size+20,(ts_main hS (k:=k) ⟨d0,by omega⟩ (by omega) t a hp hl.1 hp3.1 _).trans rfl⟩
  ·cases h
end Go.Proofs.YtfdkldmkbibknaaGreat.Den

/-
  Texts that the claim rests on, merged: PQ1, Pth1.
-/
import Derived.Test.YtkinkfieackmdaaGreatDoorZRowPth11
import Derived.Test.YtkinkfieackmdaaGreatDoorZRowPth13
import Derived.Test.YtkinkfieackmdaaGreatDoorZRowPth22
import Derived.Test.YtkinkfieackmdaaGreatDoorZRowPth25

namespace Go.Proofs.YtkinkfieackmdaaGreatDoor.Den
open Go.RowKit
set_option maxRecDepth 100000
set_option linter.unusedVariables false
namespace z1g
structure Gs where
 none_:Unit
noncomputable def main {R:Type} (G:Gs) (n:Nat) (xd xc xe:LI) (xa:LB) (xb:LS) (xg:LO) (xf:LM) (rank:LI) (K:LI->(List (ByteArray×Bool))->LM->Option R):Option R:=
 K rank [] xf
theorem ok {G:Gs} (hG:AE []) {g:Q} (hg:∀xd xc xe xa xb xg xf rank r,g xd xc xe xa xb xg xf rank=some r->∃n,main (R:=AT×List Ob) G n xd xc xe xa xb xg xf rank (λr0 r1 r2=>some (.agg [.p 0 0,.l .i r0,.m 2],[.box [.l .i xd,.l .i xc,.l .i xe,.l .s xa,.l (.n 5) xb,.l (.n 8) xg,.m 1],.map .i r2,.map .b r1]))=some (.agg [.p 0 0,.l .i r.1,.m 2],[.box [.l .i xd,.l .i xc,.l .i xe,.l .s xa,.l (.n 5) xb,.l (.n 8) xg,.m 1],.map .i r.2.2,.map .b r.2.1])):EO (ent g):=λR xs H K r hc=>by
 simp only[ent]at hc;split at hc
 ·exact okL hc λr j=>let⟨_,j⟩:=hg _ _ _ _ _ _ _ _ _ j;fR hG ⟨9,2,[],[],[4],[],[]⟩ nP Tryz.func21 j
 ·cases hc
end z1g
namespace z1j
structure Gs where
 z0n:z0n.Q
 z1a:z1a.Q
 z1i:z1i.Q
noncomputable def main {R:Type} (G:Gs) (n:Nat) (xc xd xe:LI) (xa:LB) (xb:LS) (xg:LO) (xf:LM) (xi:LI) (xh:List (ByteArray×Bool)) (a b:Tm) (K:Bool->LM->(List (ByteArray×Bool))->Option R):Option R:=
 bif decide (a.op<0)then
  (K false xf xh)
 else
  bif decide (b.op<0)then
   (
   (G.z0n (Tm.mk b.op b.name b.sort b.args) (Tm.mk a.op a.name a.sort a.args)).bind λr=>
   K r xf xh
   )
  else
   (G.z1a (Tm.mk a.op a.name a.sort a.args)).bind λr3=>
   (rj r3 (ByteArray.mk #[62])).bind λq2=>
   (G.z1a (Tm.mk b.op b.name b.sort b.args)).bind λr5=>
   (rj q2 r5).bind λq4=>
   bif !(ur xh q4)then
    (
    (G.z1i xc xd xe xa xb xg xf xi xh (Tm.mk a.op a.name a.sort a.args) (Tm.mk b.op b.name b.sort b.args)).bind λr6=>
    K r6.1 r6.2.1 ((q4,r6.1)::r6.2.2)
    )
   else
    K (ke xh q4 false) xf xh
theorem ok {G:Gs} (hG:AE [z0n.ent G.z0n,z1a.ent G.z1a,z1i.ent G.z1i]) {g:Q} (hg:∀xc xd xe xa xb xg xf xi xh a b r,g xc xd xe xa xb xg xf xi xh a b=some r->∃n,main (R:=AT×List Ob) G n xc xd xe xa xb xg xf xi xh a b (λr0 r1 r2=>some (.one (.b r0),[.box [.l .i xc,.l .i xd,.l .i xe,.l .s xa,.l (.n 5) xb,.l (.n 8) xg,.m 1],.map .i r1,.map .b r2]))=some (.one (.b r.1),[.box [.l .i xc,.l .i xd,.l .i xe,.l .s xa,.l (.n 5) xb,.l (.n 8) xg,.m 1],.map .i r.2.1,.map .b r.2.2])):EO (ent g):=λR xs H K r hc=>by
 simp only[ent]at hc;split at hc
 ·exact okL hc λr j=>let⟨_,j⟩:=hg _ _ _ _ _ _ _ _ _ _ _ _ j;fF hG ⟨43,3,[],[],[6],[(5,⟨[([0,1,2,3,4,5,6],[],[])],[],[],[0,1,2,3,4,5],[]⟩)],[]⟩ nP Tryz.func22 j
 ·cases hc
end z1j
namespace z1i
structure Gs where
 z1n:z1n.Q
 z1j:z1j.Q
 z1k:z1k.Q
noncomputable def ae (G:Gs):List Ent:=[z1n.ent G.z1n,z1j.ent G.z1j,z1k.ent G.z1k]
noncomputable def b2 {R:Type} (G:Gs) (n:Nat) (xc xd xe:LI) (xa:LB) (xb:LS) (xg:LO) (t14:LT) (t15:Int) (h3:LI) (h4:Int) (h42:ByteArray) (h43:Int) (h44:LT) (h5:Int) (h52:ByteArray) (h53:Int) (h54:LT) (t16:Int) (h1:LM) (h2:List (ByteArray×Bool)) (nx:Int->LM->(List (ByteArray×Bool))->Option R) (k0:Bool->LM->(List (ByteArray×Bool))->Option R) (k1:LM->(List (ByteArray×Bool))->Option R):Option R:=
 bif decide (t16<t15)then
  (
  (ix t14 t16).bind λe=>
  (G.z1n (Tm.mk e.op e.name e.sort e.args) (Tm.mk h5 h52 h53 h54)).bind λr=>
  bif r then
   (k0 true h1 h2)
  else
   (G.z1j xc xd xe xa xb xg h1 h3 h2 (Tm.mk e.op e.name e.sort e.args) (Tm.mk h5 h52 h53 h54)).bind λr2=>
   bif r2.1 then
    (k0 true r2.2.1 r2.2.2)
   else
    nx (wr (t16+1)) r2.2.1 r2.2.2
  )
 else
  k1 h1 h2
noncomputable def l2 {R:Type} (G:Gs) (n m:Nat) (xc xd xe:LI) (xa:LB) (xb:LS) (xg:LO) (t14:LT) (t15:Int) (h3:LI) (h4:Int) (h42:ByteArray) (h43:Int) (h44:LT) (h5:Int) (h52:ByteArray) (h53:Int) (h54:LT) (t16:Int) (h1:LM) (h2:List (ByteArray×Bool)) (k0:Bool->LM->(List (ByteArray×Bool))->Option R) (k1:LM->(List (ByteArray×Bool))->Option R):Option R:=au (λ(v:Int×LM×(List (ByteArray×Bool))) nx=>b2 G n xc xd xe xa xb xg t14 t15 h3 h4 h42 h43 h44 h5 h52 h53 h54 v.1 v.2.1 v.2.2 (λy0 y1 y2=>nx (y0,y1,y2)) k0 k1) m (t16,h1,h2)
noncomputable def b10 {R:Type} (G:Gs) (n:Nat) (xc xd xe:LI) (xa:LB) (xb:LS) (xg:LO) (t51:LT) (t52:Int) (h3:LI) (h4:Int) (h42:ByteArray) (h43:Int) (h44:LT) (h5:Int) (h52:ByteArray) (h53:Int) (h54:LT) (t53:Int) (h1:LM) (h2:List (ByteArray×Bool)) (nx:Int->LM->(List (ByteArray×Bool))->Option R) (k0:Bool->LM->(List (ByteArray×Bool))->Option R) (k1:LM->(List (ByteArray×Bool))->Option R):Option R:=
 bif decide (t53<t52)then
  (
  (ix t51 t53).bind λe=>
  (G.z1j xc xd xe xa xb xg h1 h3 h2 (Tm.mk h4 h42 h43 h44) (Tm.mk e.op e.name e.sort e.args)).bind λr=>
  bif !r.1 then
   (k0 false r.2.1 r.2.2)
  else
   nx (wr (t53+1)) r.2.1 r.2.2
  )
 else
  k1 h1 h2
noncomputable def l10 {R:Type} (G:Gs) (n m:Nat) (xc xd xe:LI) (xa:LB) (xb:LS) (xg:LO) (t51:LT) (t52:Int) (h3:LI) (h4:Int) (h42:ByteArray) (h43:Int) (h44:LT) (h5:Int) (h52:ByteArray) (h53:Int) (h54:LT) (t53:Int) (h1:LM) (h2:List (ByteArray×Bool)) (k0:Bool->LM->(List (ByteArray×Bool))->Option R) (k1:LM->(List (ByteArray×Bool))->Option R):Option R:=au (λ(v:Int×LM×(List (ByteArray×Bool))) nx=>b10 G n xc xd xe xa xb xg t51 t52 h3 h4 h42 h43 h44 h5 h52 h53 h54 v.1 v.2.1 v.2.2 (λy0 y1 y2=>nx (y0,y1,y2)) k0 k1) m (t53,h1,h2)
noncomputable def c23 {R:Type} (G:Gs) (n:Nat) (xc xd xe:LI) (xa:LB) (xb:LS) (xg:LO) (i:Int) (h1:LM) (h2:List (ByteArray×Bool)) (h3:LI) (h4:Int) (h42:ByteArray) (h43:Int) (h44:LT) (h5:Int) (h52:ByteArray) (h53:Int) (h54:LT) (k0:Bool->LM->(List (ByteArray×Bool))->Option R):Option R:=
 (ix h44 i).bind λe4=>
 (G.z1j xc xd xe xa xb xg h1 h3 h2 (Tm.mk h5 h52 h53 h54) (Tm.mk e4.op e4.name e4.sort e4.args)).bind λr2=>
 k0 r2.1 r2.2.1 r2.2.2
noncomputable def b20 {R:Type} (G:Gs) (n:Nat) (xc xd xe:LI) (xa:LB) (xb:LS) (xg:LO) (t86:LT) (t87:Int) (h1:LM) (h2:List (ByteArray×Bool)) (h3:LI) (h4:Int) (h42:ByteArray) (h43:Int) (h44:LT) (t88:Int) (nx:Int->Option R) (k0:Bool->LM->(List (ByteArray×Bool))->Option R) (k1:Option R):Option R:=
 bif decide (t88<t87)then
  (
  (ix t86 t88).bind λe=>
  (ix h44 t88).bind λe5=>
  (G.z1n (Tm.mk e.op e.name e.sort e.args) (Tm.mk e5.op e5.name e5.sort e5.args)).bind λr4=>
  bif !r4 then
   (
   c23 G n xc xd xe xa xb xg t88 h1 h2 h3 h4 h42 h43 h44 e.op e.name e.sort e.args
    (λt62 h122 h222=>k0 t62 h122 h222)
   )
  else
   nx (wr (t88+1))
  )
 else
  k1
noncomputable def l20 {R:Type} (G:Gs) (n m:Nat) (xc xd xe:LI) (xa:LB) (xb:LS) (xg:LO) (t86:LT) (t87:Int) (h1:LM) (h2:List (ByteArray×Bool)) (h3:LI) (h4:Int) (h42:ByteArray) (h43:Int) (h44:LT) (t88:Int) (k0:Bool->LM->(List (ByteArray×Bool))->Option R) (k1:Option R):Option R:=au (λ(v:Int) nx=>b20 G n xc xd xe xa xb xg t86 t87 h1 h2 h3 h4 h42 h43 h44 v (λy0=>nx y0) k0 k1) m t88
noncomputable def c9 {R:Type} (G:Gs) (n:Nat) (xc xd xe:LI) (xa:LB) (xb:LS) (xg:LO) (h1:LM) (h2:List (ByteArray×Bool)) (h3:LI) (h4:Int) (h42:ByteArray) (h43:Int) (h44:LT) (h5:Int) (h52:ByteArray) (h53:Int) (h54:LT) (k0:Bool->LM->(List (ByteArray×Bool))->Option R):Option R:=
 l10 G n n xc xd xe xa xb xg h54 (List.length h54 : Int) h3 h4 h42 h43 h44 h5 h52 h53 h54 0 h1 h2
  (λt6 h12 h22=>k0 t6 h12 h22)
  (fun h122 h222 =>
   bif !decide (h4=h5)then
    (k0 true h122 h222)
   else
    (ix xg h4).bind λe2=>
    bif e2.comm then
     (
     (G.z1k xc xd xe xa xb xg h122 h3 h222 h44 h54).bind λr=>
     k0 r.1 r.2.1 r.2.2
     )
    else
     l20 G n n xc xd xe xa xb xg h44 (List.length h44:Int) h122 h222 h3 h5 h52 h53 h54 0
      (λt62 h123 h223=>k0 t62 h123 h223)
      (k0 false h122 h222)
  )
noncomputable def main {R:Type} (G:Gs) (n:Nat) (xc xd xe:LI) (xa:LB) (xb:LS) (xg:LO) (xf:LM) (xi:LI) (xh:List (ByteArray×Bool)) (a b:Tm) (K:Bool->LM->(List (ByteArray×Bool))->Option R):Option R:=
 l2 G n n xc xd xe xa xb xg a.args (List.length a.args : Int) xi a.op a.name a.sort a.args b.op b.name b.sort b.args 0 xf xh
  (λt6 h12 h22=>K t6 h12 h22)
  (fun h122 h222 =>
   bif !decide (a.op=b.op)then
    (
    (ix xi a.op).bind λe2=>
    (ix xi b.op).bind λe4=>
    bif decide (e2<=e4)then
     (K false h122 h222)
    else
     c9 G n xc xd xe xa xb xg h122 h222 xi a.op a.name a.sort a.args b.op b.name b.sort b.args
      (λt62 h123 h223=>K t62 h123 h223)
    )
   else
    c9 G n xc xd xe xa xb xg h122 h222 xi a.op a.name a.sort a.args b.op b.name b.sort b.args
     (λt63 h124 h224=>K t63 h124 h224)
  )
noncomputable def dl2 (G:Gs) (n m:Nat) (R:Type) (st:St) (K:Kt R):Option R:=match st with
 |⟨[(3,.one (.p 3 0)),(4,.one (.p 4 0)),(5,.one (.p 5 0)),(14,.one (.l (.n 1) t14)),(15,.one (.i t15)),(16,.one (.i t16))],[.box [.l .i xc,.l .i xd,.l .i xe,.l .s xa,.l (.n 5) xb,.l (.n 8) xg,.m 1],.map .i h1,.map .b h2,.box [.p 0 0,.l .i h3,.m 2],.box [.i h4,.s h42,.i h43,.l (.n 1) h44],.box [.i h5,.s h52,.i h53,.l (.n 1) h54]]⟩=>l2 G n m xc xd xe xa xb xg t14 t15 h3 h4 h42 h43 h44 h5 h52 h53 h54 t16 h1 h2 (λt6 h12 h22=>K .ret ⟨[(6,.one (.b t6))],[.box [.l .i xc,.l .i xd,.l .i xe,.l .s xa,.l (.n 5) xb,.l (.n 8) xg,.m 1],.map .i h12,.map .b h22]⟩) (λh12 h22=>K (.exit 0) ⟨[(3,.one (.p 3 0)),(4,.one (.p 4 0)),(5,.one (.p 5 0))],[.box [.l .i xc,.l .i xd,.l .i xe,.l .s xa,.l (.n 5) xb,.l (.n 8) xg,.m 1],.map .i h12,.map .b h22,.box [.p 0 0,.l .i h3,.m 2],.box [.i h4,.s h42,.i h43,.l (.n 1) h44],.box [.i h5,.s h52,.i h53,.l (.n 1) h54]]⟩)
 |_=>none
noncomputable def dV (G:Gs) (n m:Nat) (R:Type) (st:St) (K:Kt R):Option R:=match st with
 |⟨[(3,.one (.p 3 0)),(4,.one (.p 4 0)),(5,.one (.p 5 0)),(51,.one (.l (.n 1) t51)),(52,.one (.i t52)),(53,.one (.i t53))],[.box [.l .i xc,.l .i xd,.l .i xe,.l .s xa,.l (.n 5) xb,.l (.n 8) xg,.m 1],.map .i h1,.map .b h2,.box [.p 0 0,.l .i h3,.m 2],.box [.i h4,.s h42,.i h43,.l (.n 1) h44],.box [.i h5,.s h52,.i h53,.l (.n 1) h54]]⟩=>l10 G n m xc xd xe xa xb xg t51 t52 h3 h4 h42 h43 h44 h5 h52 h53 h54 t53 h1 h2 (λt6 h12 h22=>K .ret ⟨[(6,.one (.b t6))],[.box [.l .i xc,.l .i xd,.l .i xe,.l .s xa,.l (.n 5) xb,.l (.n 8) xg,.m 1],.map .i h12,.map .b h22]⟩) (λh12 h22=>K (.exit 2) ⟨[(3,.one (.p 3 0)),(4,.one (.p 4 0)),(5,.one (.p 5 0))],[.box [.l .i xc,.l .i xd,.l .i xe,.l .s xa,.l (.n 5) xb,.l (.n 8) xg,.m 1],.map .i h12,.map .b h22,.box [.p 0 0,.l .i h3,.m 2],.box [.i h4,.s h42,.i h43,.l (.n 1) h44],.box [.i h5,.s h52,.i h53,.l (.n 1) h54]]⟩)
 |_=>none
noncomputable def Fg (G:Gs) (n:Nat) (R:Type) (st:St) (K:Kt R):Option R:=match st with
 |⟨[(3,.one (.p 3 0)),(5,.one (.p 4 0)),(11,.one (.i i)),(12,.one (.p 5 0))],[.box [.l .i xc,.l .i xd,.l .i xe,.l .s xa,.l (.n 5) xb,.l (.n 8) xg,.m 1],.map .i h1,.map .b h2,.box [.p 0 0,.l .i h3,.m 2],.box [.i h4,.s h42,.i h43,.l (.n 1) h44],.box [.i h5,.s h52,.i h53,.l (.n 1) h54]]⟩=>c23 G n xc xd xe xa xb xg i h1 h2 h3 h4 h42 h43 h44 h5 h52 h53 h54 (λt6 h12 h22=>K .ret ⟨[(6,.one (.b t6))],[.box [.l .i xc,.l .i xd,.l .i xe,.l .s xa,.l (.n 5) xb,.l (.n 8) xg,.m 1],.map .i h12,.map .b h22]⟩)
 |_=>none
noncomputable def pE (G:Gs) (n m:Nat) (R:Type) (st:St) (K:Kt R):Option R:=match st with
 |⟨[(3,.one (.p 3 0)),(5,.one (.p 4 0)),(86,.one (.l (.n 1) t86)),(87,.one (.i t87)),(88,.one (.i t88))],[.box [.l .i xc,.l .i xd,.l .i xe,.l .s xa,.l (.n 5) xb,.l (.n 8) xg,.m 1],.map .i h1,.map .b h2,.box [.p 0 0,.l .i h3,.m 2],.box [.i h4,.s h42,.i h43,.l (.n 1) h44]]⟩=>l20 G n m xc xd xe xa xb xg t86 t87 h1 h2 h3 h4 h42 h43 h44 t88 (λt6 h12 h22=>K .ret ⟨[(6,.one (.b t6))],[.box [.l .i xc,.l .i xd,.l .i xe,.l .s xa,.l (.n 5) xb,.l (.n 8) xg,.m 1],.map .i h12,.map .b h22]⟩) (K (.exit 4) ⟨[],[.box [.l .i xc,.l .i xd,.l .i xe,.l .s xa,.l (.n 5) xb,.l (.n 8) xg,.m 1],.map .i h1,.map .b h2]⟩)
 |_=>none
noncomputable def dc9 (G:Gs) (n:Nat) (R:Type) (st:St) (K:Kt R):Option R:=match st with
 |⟨[(3,.one (.p 3 0)),(4,.one (.p 4 0)),(5,.one (.p 5 0))],[.box [.l .i xc,.l .i xd,.l .i xe,.l .s xa,.l (.n 5) xb,.l (.n 8) xg,.m 1],.map .i h1,.map .b h2,.box [.p 0 0,.l .i h3,.m 2],.box [.i h4,.s h42,.i h43,.l (.n 1) h44],.box [.i h5,.s h52,.i h53,.l (.n 1) h54]]⟩=>c9 G n xc xd xe xa xb xg h1 h2 h3 h4 h42 h43 h44 h5 h52 h53 h54 (λt6 h12 h22=>K .ret ⟨[(6,.one (.b t6))],[.box [.l .i xc,.l .i xd,.l .i xe,.l .s xa,.l (.n 5) xb,.l (.n 8) xg,.m 1],.map .i h12,.map .b h22]⟩)
 |_=>none
noncomputable def pc (G:Gs) (n:Nat):Pcs:=⟨λR id st K=>bif Nat.beq id 2 then dl2 G n n R st K else bif Nat.beq id 10 then dV G n n R st K else bif Nat.beq id 20 then pE G n n R st K else none,λR id st K=>bif Nat.beq id 23 then Fg G n R st K else bif Nat.beq id 9 then dc9 G n R st K else none,nK⟩
noncomputable def an:Ann:=⟨110,3,[(2,[3,4,5,14,15,16]),(10,[3,4,5,51,52,53]),(20,[3,5,86,87,88])],[(23,[3,5,11,12]),(9,[3,4,5])],[6],[(7,⟨[([0,1,2,3,4,5,6,7,8,9,10,11,12,13,14,15,16,17,18,19],[],[])],[],[],[0,1,2,3,4,5],[]⟩),(17,⟨[([0,1,2,3,4,5,6,7,8,9,10],[],[])],[],[],[0,1,2,3,4,5],[]⟩),(22,⟨[([0,1,2,3,4,5,6,7],[],[])],[],[],[3,4,5],[]⟩),(23,⟨[([0,1,2,3,4,5,6,7,8],[7],[])],[7],[],[3,4,5],[]⟩)],[]⟩
noncomputable abbrev bd:=ai Tryz.f43
noncomputable abbrev q2:=am [1,0,1,0,0] bd
noncomputable abbrev q10:=am [1,1,1,0,1,0,0] bd
noncomputable abbrev q23:=am [1,1,1,1,1,1,0,1,0,0,1,1,0,0,1,1,0] bd
noncomputable abbrev q20:=am [1,1,1,1,1,1,0,1,0,0] bd
noncomputable abbrev q9:=am [1,1,1] bd
theorem pl2 {G:Gs} (hG:AE (ae G)) (n:Nat):∀m,PO an (.loop q2) (dl2 G n m):=lpc hG (pc G n) [3,4,5,14,15,16] ⟨[3,4,5],[6],[(0,[3,4,5])]⟩ (apl [] trivial) (λR st K=>by unfold dl2;split<;>rfl) λm R st K r h=>by unfold dl2 at h;split at h;exact .trans (by kernel_rfl) h;cases h
theorem pH {G:Gs} (hG:AE (ae G)) (n:Nat):∀m,PO an (.loop q10) (dV G n m):=lpc hG (pc G n) [3,4,5,51,52,53] ⟨[3,4,5],[6],[(2,[3,4,5])]⟩ (apl [] trivial) (λR st K=>by unfold dV;split<;>rfl) λm R st K r h=>by unfold dV at h;split at h;exact .trans (by kernel_rfl) h;cases h
theorem pc23 {G:Gs} (hG:AE (ae G)) {n:Nat}:PO an q23 (Fg G n):=cpc hG (pc G n) ⟨[3,5,86,87,88],[6],[(4,[]),(5,[3,5,86,87,88])]⟩ (apl [] trivial) λR st K r h=>by unfold Fg at h;split at h;exact .trans (by kernel_rfl) h;cases h
theorem ER {G:Gs} (hG:AE (ae G)) (n:Nat):∀m,PO an (.loop q20) (pE G n m):=lpc hG (pc G n) [3,5,86,87,88] ⟨[],[6],[(4,[])]⟩ (apl [(0,23,q23)] ⟨pc23 hG,trivial⟩) (λR st K=>by unfold pE;split<;>rfl) λm R st K r h=>by unfold pE at h;split at h;exact .trans (by kernel_rfl) h;cases h
theorem pc9 {G:Gs} (hG:AE (ae G)) {n:Nat}:PO an q9 (dc9 G n):=cpc hG (pc G n) ⟨[],[6],[]⟩ (apl [(1,10,.loop q10),(1,20,.loop q20)] ⟨pH hG n n,⟨ER hG n n,trivial⟩⟩) λR st K r h=>by unfold dc9 at h;split at h;exact .trans (by kernel_rfl) h;cases h
theorem ok {G:Gs} (hG:AE (ae G)) {g:Q} (hg:∀xc xd xe xa xb xg xf xi xh a b r,g xc xd xe xa xb xg xf xi xh a b=some r->∃n,main (R:=AT×List Ob) G n xc xd xe xa xb xg xf xi xh a b (λr0 r1 r2=>some (.one (.b r0),[.box [.l .i xc,.l .i xd,.l .i xe,.l .s xa,.l (.n 5) xb,.l (.n 8) xg,.m 1],.map .i r1,.map .b r2]))=some (.one (.b r.1),[.box [.l .i xc,.l .i xd,.l .i xe,.l .s xa,.l (.n 5) xb,.l (.n 8) xg,.m 1],.map .i r.2.1,.map .b r.2.2])):EO (ent g):=λR xs H K r hc=>by
 simp only[ent]at hc;split at hc
 ·exact okL hc λr j=>let⟨n,j⟩:=hg _ _ _ _ _ _ _ _ _ _ _ _ j;fF hG an (pc G n) Tryz.func43 j (apl [(1,2,.loop q2),(0,9,q9)] ⟨pl2 hG n n,⟨pc9 hG,trivial⟩⟩)
 ·cases hc
end z1i
namespace z1l
structure Gs where
 z1n:z1n.Q
noncomputable def main {R:Type} (G:Gs) (n:Nat) (u c0:Tm) (K:Bool->Option R):Option R:=
 (G.z1n (Tm.mk c0.op c0.name c0.sort c0.args) (Tm.mk u.op u.name u.sort u.args)).bind λr=>
 K r
theorem ok {G:Gs} (hG:AE [z1n.ent G.z1n]) {g:Q} (hg:∀u c0 r,g u c0=some r->∃n,main (R:=AT×List Ob) G n u c0 (λr0=>some (.one (.b r0),[.box [.i c0.op,.s c0.name,.i c0.sort,.l (.n 1) c0.args]]))=some (.one (.b r),[.box [.i c0.op,.s c0.name,.i c0.sort,.l (.n 1) c0.args]])):EO (ent g):=λR xs H K r hc=>by
 simp only[ent]at hc;split at hc
 ·exact okL hc λr j=>let⟨_,j⟩:=hg _ _ _ j;fF hG ⟨7,1,[],[],[3],[],[]⟩ nP Tryz.func118 j
 ·cases hc
end z1l
namespace z1m
structure Gs where
 z1j:z1j.Q
noncomputable def main {R:Type} (G:Gs) (n:Nat) (t:Tm) (xd xc xe:LI) (xa:LB) (xb:LS) (xg:LO) (xf:LM) (c0:LI) (c02:List (ByteArray×Bool)) (c1:Tm) (K:Bool->LM->(List (ByteArray×Bool))->Option R):Option R:=
 (G.z1j xd xc xe xa xb xg xf c0 c02 (Tm.mk t.op t.name t.sort t.args) (Tm.mk c1.op c1.name c1.sort c1.args)).bind λr=>
 K r.1 r.2.1 r.2.2
theorem ok {G:Gs} (hG:AE [z1j.ent G.z1j]) {g:Q} (hg:∀t xd xc xe xa xb xg xf c0 c02 c1 r,g t xd xc xe xa xb xg xf c0 c02 c1=some r->∃n,main (R:=AT×List Ob) G n t xd xc xe xa xb xg xf c0 c02 c1 (λr0 r1 r2=>some (.one (.b r0),[.box [.p 1 0,.l .i c0,.m 3],.box [.l .i xd,.l .i xc,.l .i xe,.l .s xa,.l (.n 5) xb,.l (.n 8) xg,.m 2],.map .i r1,.map .b r2,.box [.i c1.op,.s c1.name,.i c1.sort,.l (.n 1) c1.args]]))=some (.one (.b r.1),[.box [.p 1 0,.l .i c0,.m 3],.box [.l .i xd,.l .i xc,.l .i xe,.l .s xa,.l (.n 5) xb,.l (.n 8) xg,.m 2],.map .i r.2.1,.map .b r.2.2,.box [.i c1.op,.s c1.name,.i c1.sort,.l (.n 1) c1.args]])):EO (ent g):=λR xs H K r hc=>by
 simp only[ent]at hc;split at hc
 ·exact okL hc λr j=>let⟨_,j⟩:=hg _ _ _ _ _ _ _ _ _ _ _ _ j;fF hG ⟨9,5,[],[],[4],[],[]⟩ nP Tryz.func120 j
 ·cases hc
end z1m
namespace z5b
structure Gs where
 z1l:z1l.Q
noncomputable def ae (G:Gs):List Ent:=[z1l.ent G.z1l]
noncomputable def b2 {R:Type} (G:Gs) (n:Nat) (s:LT) (fc:Tm) (t7 t8:Int) (nx k0:Int->Option R) (k1:Option R):Option R:=
 bif decide (t8<t7)then
  (
  (ix s t8).bind λe=>
  (G.z1l (Tm.mk e.op e.name e.sort e.args) (Tm.mk fc.op fc.name fc.sort fc.args)).bind λr=>
  bif r then
   (k0 t8)
  else
   nx (wr (t8+1))
  )
 else
  k1
noncomputable def l2 {R:Type} (G:Gs) (n m:Nat) (s:LT) (fc:Tm) (t7 t8:Int) (k0:Int->Option R) (k1:Option R):Option R:=au (λ(v:Int) nx=>b2 G n s fc t7 v (λy0=>nx y0) k0 k1) m t8
noncomputable def main {R:Type} (G:Gs) (n:Nat) (s:LT) (fc:Tm) (K:Int->Option R):Option R:=
 l2 G n n s fc (List.length s:Int) 0
  (λt4=>K t4)
  (K (-1))
noncomputable def dl2 (G:Gs) (n m:Nat) (R:Type) (st:St) (K:Kt R):Option R:=match st with
 |⟨[(0,.one (.o 0)),(1,.one (.f 118 [.p 1 0])),(7,.one (.i t7)),(8,.one (.i t8))],[.row (.n 1) 0 s,.box [.i fc_0,.s fc_1,.i fc_2,.l (.n 1) fc_3]]⟩=>l2 G n m s (Tm.mk fc_0 fc_1 fc_2 fc_3) t7 t8 (λt4=>K .ret ⟨[(4,.one (.i t4))],[.row (.n 1) 0 s,.box [.i fc_0,.s fc_1,.i fc_2,.l (.n 1) fc_3]]⟩) (K (.exit 0) ⟨[],[.row (.n 1) 0 s,.box [.i fc_0,.s fc_1,.i fc_2,.l (.n 1) fc_3]]⟩)
 |_=>none
noncomputable def pc (G:Gs) (n:Nat):Pcs:=⟨λR id st K=>bif Nat.beq id 2 then dl2 G n n R st K else none,nK,nK⟩
noncomputable def an:Ann:=⟨19,2,[(2,[0,1,7,8])],[],[4],[],[]⟩
noncomputable abbrev bd:=ai Tryz.f117
noncomputable abbrev q2:=am [1,0,1,0,0] bd
theorem pl2 {G:Gs} (hG:AE (ae G)) (n:Nat):∀m,PO an (.loop q2) (dl2 G n m):=lpc hG (pc G n) [0,1,7,8] ⟨[],[4],[(0,[])]⟩ (apl [] trivial) (λR st K=>by unfold dl2;split<;>rfl) λm R st K r h=>by unfold dl2 at h;split at h;exact .trans (by kernel_rfl) h;cases h
noncomputable def ax (G:Gs) (s:LT) (fc:Tm) (r:Int):Prop:=∃n,main (R:=AT×List Ob) G n s fc (λr0=>some (.one (.i r0),[.row (.n 1) 0 s,.box [.i fc.op,.s fc.name,.i fc.sort,.l (.n 1) fc.args]]))=some (.one (.i r),[.row (.n 1) 0 s,.box [.i fc.op,.s fc.name,.i fc.sort,.l (.n 1) fc.args]])
theorem ok {G:Gs} (hG:AE (ae G)) {g:Q} (hg:∀s fc r,g s fc=some r->ax G s fc r):EO (ent g):=λR xs H K r hc=>by
 simp only[ent]at hc;split at hc
 ·exact okL hc λr j=>let⟨n,j⟩:=hg _ _ _ j;fF hG an (pc G n) Tryz.func117 j (apl [(1,2,.loop q2)] ⟨pl2 hG n n,trivial⟩)
 ·cases hc
end z5b
namespace z5c
structure Gs where
 z1m:z1m.Q
noncomputable def ae (G:Gs):List Ent:=[z1m.ent G.z1m]
noncomputable def b2 {R:Type} (G:Gs) (n:Nat) (s:LT) (fc xd xc xe:LI) (xa:LB) (xb:LS) (xg:LO) (fc3:Tm) (t7 t8:Int) (h3:LM) (h4:List (ByteArray×Bool)) (nx k0:Int->LM->(List (ByteArray×Bool))->Option R) (k1:LM->(List (ByteArray×Bool))->Option R):Option R:=
 bif decide (t8<t7)then
  (
  (ix s t8).bind λe=>
  (G.z1m (Tm.mk e.op e.name e.sort e.args) xd xc xe xa xb xg h3 fc h4 (Tm.mk fc3.op fc3.name fc3.sort fc3.args)).bind λr=>
  bif r.1 then
   (k0 t8 r.2.1 r.2.2)
  else
   nx (wr (t8+1)) r.2.1 r.2.2
  )
 else
  k1 h3 h4
noncomputable def l2 {R:Type} (G:Gs) (n m:Nat) (s:LT) (fc xd xc xe:LI) (xa:LB) (xb:LS) (xg:LO) (fc3:Tm) (t7 t8:Int) (h3:LM) (h4:List (ByteArray×Bool)) (k0:Int->LM->(List (ByteArray×Bool))->Option R) (k1:LM->(List (ByteArray×Bool))->Option R):Option R:=au (λ(v:Int×LM×(List (ByteArray×Bool))) nx=>b2 G n s fc xd xc xe xa xb xg fc3 t7 v.1 v.2.1 v.2.2 (λy0 y1 y2=>nx (y0,y1,y2)) k0 k1) m (t8,h3,h4)
noncomputable def main {R:Type} (G:Gs) (n:Nat) (s:LT) (xd xc xe:LI) (xa:LB) (xb:LS) (xg:LO) (xf:LM) (fc:LI) (fc2:List (ByteArray×Bool)) (fc3:Tm) (K:Int->LM->(List (ByteArray×Bool))->Option R):Option R:=
 l2 G n n s fc xd xc xe xa xb xg fc3 (List.length s:Int) 0 xf fc2
  (λt4 h32 h42=>K t4 h32 h42)
  (λh322 h422=>K (-1) h322 h422)
noncomputable def dl2 (G:Gs) (n m:Nat) (R:Type) (st:St) (K:Kt R):Option R:=match st with
 |⟨[(0,.one (.o 0)),(1,.one (.f 120 [.p 1 0,.p 5 0])),(7,.one (.i t7)),(8,.one (.i t8))],[.row (.n 1) 0 s,.box [.p 2 0,.l .i fc,.m 4],.box [.l .i xd,.l .i xc,.l .i xe,.l .s xa,.l (.n 5) xb,.l (.n 8) xg,.m 3],.map .i h3,.map .b h4,.box [.i fc3_0,.s fc3_1,.i fc3_2,.l (.n 1) fc3_3]]⟩=>l2 G n m s fc xd xc xe xa xb xg (Tm.mk fc3_0 fc3_1 fc3_2 fc3_3) t7 t8 h3 h4 (λt4 h32 h42=>K .ret ⟨[(4,.one (.i t4))],[.row (.n 1) 0 s,.box [.p 2 0,.l .i fc,.m 4],.box [.l .i xd,.l .i xc,.l .i xe,.l .s xa,.l (.n 5) xb,.l (.n 8) xg,.m 3],.map .i h32,.map .b h42,.box [.i fc3_0,.s fc3_1,.i fc3_2,.l (.n 1) fc3_3]]⟩) (λh32 h42=>K (.exit 0) ⟨[],[.row (.n 1) 0 s,.box [.p 2 0,.l .i fc,.m 4],.box [.l .i xd,.l .i xc,.l .i xe,.l .s xa,.l (.n 5) xb,.l (.n 8) xg,.m 3],.map .i h32,.map .b h42,.box [.i fc3_0,.s fc3_1,.i fc3_2,.l (.n 1) fc3_3]]⟩)
 |_=>none
noncomputable def pc (G:Gs) (n:Nat):Pcs:=⟨λR id st K=>bif Nat.beq id 2 then dl2 G n n R st K else none,nK,nK⟩
noncomputable def an:Ann:=⟨19,6,[(2,[0,1,7,8])],[],[4],[],[]⟩
noncomputable abbrev bd:=ai Tryz.f117
noncomputable abbrev q2:=am [1,0,1,0,0] bd
theorem pl2 {G:Gs} (hG:AE (ae G)) (n:Nat):∀m,PO an (.loop q2) (dl2 G n m):=lpc hG (pc G n) [0,1,7,8] ⟨[],[4],[(0,[])]⟩ (apl [] trivial) (λR st K=>by unfold dl2;split<;>rfl) λm R st K r h=>by unfold dl2 at h;split at h;exact .trans (by kernel_rfl) h;cases h
noncomputable def ax (G:Gs) (s:LT) (xd xc xe:LI) (xa:LB) (xb:LS) (xg:LO) (xf:LM) (fc:LI) (fc2:List (ByteArray×Bool)) (fc3:Tm) (r:Int×LM×List (ByteArray×Bool)):Prop:=∃n,main (R:=AT×List Ob) G n s xd xc xe xa xb xg xf fc fc2 fc3 (λr0 r1 r2=>some (.one (.i r0),[.row (.n 1) 0 s,.box [.p 2 0,.l .i fc,.m 4],.box [.l .i xd,.l .i xc,.l .i xe,.l .s xa,.l (.n 5) xb,.l (.n 8) xg,.m 3],.map .i r1,.map .b r2,.box [.i fc3.op,.s fc3.name,.i fc3.sort,.l (.n 1) fc3.args]]))=some (.one (.i r.1),[.row (.n 1) 0 s,.box [.p 2 0,.l .i fc,.m 4],.box [.l .i xd,.l .i xc,.l .i xe,.l .s xa,.l (.n 5) xb,.l (.n 8) xg,.m 3],.map .i r.2.1,.map .b r.2.2,.box [.i fc3.op,.s fc3.name,.i fc3.sort,.l (.n 1) fc3.args]])
theorem ok {G:Gs} (hG:AE (ae G)) {g:Q} (hg:∀s xd xc xe xa xb xg xf fc fc2 fc3 r,g s xd xc xe xa xb xg xf fc fc2 fc3=some r->ax G s xd xc xe xa xb xg xf fc fc2 fc3 r):EO (ent g):=λR xs H K r hc=>by
 simp only[ent]at hc;split at hc
 ·exact okL hc λr j=>let⟨n,j⟩:=hg _ _ _ _ _ _ _ _ _ _ _ _ j;fF hG an (pc G n) Tryz.func117 j (apl [(1,2,.loop q2)] ⟨pl2 hG n n,trivial⟩)
 ·cases hc
end z5c
namespace z51
structure Gs where
 z5c:z5c.Q
noncomputable def main {R:Type} (G:Gs) (n:Nat) (s:LT) (xd xc xe:LI) (xa:LB) (xb:LS) (xg:LO) (xf:LM) (fc:LI) (fc2:List (ByteArray×Bool)) (fc3:Tm) (K:Bool->LM->(List (ByteArray×Bool))->Option R):Option R:=
 (G.z5c s xd xc xe xa xb xg xf fc fc2 (Tm.mk fc3.op fc3.name fc3.sort fc3.args)).bind λr=>
 K (decide (0<=r.1)) r.2.1 r.2.2
noncomputable def ax (G:Gs) (s:LT) (xd xc xe:LI) (xa:LB) (xb:LS) (xg:LO) (xf:LM) (fc:LI) (fc2:List (ByteArray×Bool)) (fc3:Tm) (r:Bool×LM×List (ByteArray×Bool)):Prop:=∃n,main (R:=AT×List Ob) G n s xd xc xe xa xb xg xf fc fc2 fc3 (λr0 r1 r2=>some (.one (.b r0),[.row (.n 1) 0 s,.box [.p 2 0,.l .i fc,.m 4],.box [.l .i xd,.l .i xc,.l .i xe,.l .s xa,.l (.n 5) xb,.l (.n 8) xg,.m 3],.map .i r1,.map .b r2,.box [.i fc3.op,.s fc3.name,.i fc3.sort,.l (.n 1) fc3.args]]))=some (.one (.b r.1),[.row (.n 1) 0 s,.box [.p 2 0,.l .i fc,.m 4],.box [.l .i xd,.l .i xc,.l .i xe,.l .s xa,.l (.n 5) xb,.l (.n 8) xg,.m 3],.map .i r.2.1,.map .b r.2.2,.box [.i fc3.op,.s fc3.name,.i fc3.sort,.l (.n 1) fc3.args]])
theorem ok {G:Gs} (hG:AE [z5c.ent G.z5c]) {g:Q} (hg:∀s xd xc xe xa xb xg xf fc fc2 fc3 r,g s xd xc xe xa xb xg xf fc fc2 fc3=some r->ax G s xd xc xe xa xb xg xf fc fc2 fc3 r):EO (ent g):=λR xs H K r hc=>by
 simp only[ent]at hc;split at hc
 ·exact okL hc λr j=>let⟨_,j⟩:=hg _ _ _ _ _ _ _ _ _ _ _ _ j;fF hG ⟨9,6,[],[],[4],[],[]⟩ nP Tryz.func112 j
 ·cases hc
end z51
namespace z1k
structure Gs where
 z4x:z4x.Q
 z5b:z5b.Q
 z56:z56.Q
 z51:z51.Q
noncomputable def ae (G:Gs):List Ent:=[z4x.ent G.z4x,z5b.ent G.z5b,z56.ent G.z56,z51.ent G.z51]
noncomputable def b4 {R:Type} (G:Gs) (n:Nat) (xc xd xe:LI) (xa:LB) (xb:LS) (xg:LO) (t16:LT) (t17:Int) (h1:LM) (h2:List (ByteArray×Bool)) (h4:LI) (t18:Int) (h3 h5:LT) (nx:Int->LT->LT->Option R) (k0:LT->LT->Option R):Option R:=
 bif decide (t18<t17)then
  (
  (ix t16 t18).bind λe=>
  (G.z5b h3 (Tm.mk e.op e.name e.sort e.args)).bind λr=>
  bif decide (0<=r)then
   (
   (G.z56 h3 r (wr (r+1))).bind λr2=>
   nx (wr (t18+1)) r2 h5
   )
  else
   (lim (h5++[(Tm.mk e.op e.name e.sort e.args)])).bind λzs=>
   nx (wr (t18+1)) h3 zs
  )
 else
  k0 h3 h5
noncomputable def l4 {R:Type} (G:Gs) (n m:Nat) (xc xd xe:LI) (xa:LB) (xb:LS) (xg:LO) (t16:LT) (t17:Int) (h1:LM) (h2:List (ByteArray×Bool)) (h4:LI) (t18:Int) (h3 h5:LT) (k0:LT->LT->Option R):Option R:=au (λ(v:Int×LT×LT) nx=>b4 G n xc xd xe xa xb xg t16 t17 h1 h2 h4 v.1 v.2.1 v.2.2 (λy0 y1 y2=>nx (y0,y1,y2)) k0) m (t18,h3,h5)
noncomputable def b12 {R:Type} (G:Gs) (n:Nat) (xc xd xe:LI) (xa:LB) (xb:LS) (xg:LO) (t38:Int) (h3:LI) (h4 h5:LT) (t39:Int) (h1:LM) (h2:List (ByteArray×Bool)) (nx:Int->LM->(List (ByteArray×Bool))->Option R) (k0:Bool->LM->(List (ByteArray×Bool))->Option R) (k1:LM->(List (ByteArray×Bool))->Option R):Option R:=
 bif decide (t39<t38)then
  (
  (ix h5 t39).bind λe=>
  (G.z51 h4 xc xd xe xa xb xg h1 h3 h2 (Tm.mk e.op e.name e.sort e.args)).bind λr=>
  bif !r.1 then
   (k0 false r.2.1 r.2.2)
  else
   nx (wr (t39+1)) r.2.1 r.2.2
  )
 else
  k1 h1 h2
noncomputable def l12 {R:Type} (G:Gs) (n m:Nat) (xc xd xe:LI) (xa:LB) (xb:LS) (xg:LO) (t38:Int) (h3:LI) (h4 h5:LT) (t39:Int) (h1:LM) (h2:List (ByteArray×Bool)) (k0:Bool->LM->(List (ByteArray×Bool))->Option R) (k1:LM->(List (ByteArray×Bool))->Option R):Option R:=au (λ(v:Int×LM×(List (ByteArray×Bool))) nx=>b12 G n xc xd xe xa xb xg t38 h3 h4 h5 v.1 v.2.1 v.2.2 (λy0 y1 y2=>nx (y0,y1,y2)) k0 k1) m (t39,h1,h2)
noncomputable def main {R:Type} (G:Gs) (n:Nat) (xc xd xe:LI) (xa:LB) (xb:LS) (xg:LO) (xf:LM) (xi:LI) (xh:List (ByteArray×Bool)) (a b:LT) (K:Bool->LM->(List (ByteArray×Bool))->Option R):Option R:=
 (G.z4x b).bind λr=>
 l4 G n n xc xd xe xa xb xg a (List.length a : Int) xf xh xi 0 r []
  (fun h32 h52 =>
   l12 G n n xc xd xe xa xb xg (List.length h32:Int) xi h52 h32 0 xf xh
    (λt6 h12 h22=>K t6 h12 h22)
    (λh122 h222=>K (decide (0<(List.length h52:Int))) h122 h222)
  )
noncomputable def dl4 (G:Gs) (n m:Nat) (R:Type) (st:St) (K:Kt R):Option R:=match st with
 |⟨[(2,.one (.o 3)),(3,.one (.p 4 0)),(7,.one (.o 5)),(16,.one (.l (.n 1) t16)),(17,.one (.i t17)),(18,.one (.i t18))],[.box [.l .i xc,.l .i xd,.l .i xe,.l .s xa,.l (.n 5) xb,.l (.n 8) xg,.m 1],.map .i h1,.map .b h2,.row (.n 1) 0 h3,.box [.p 0 0,.l .i h4,.m 2],.row (.n 1) 0 h5]⟩=>l4 G n m xc xd xe xa xb xg t16 t17 h1 h2 h4 t18 h3 h5 (λh32 h52=>K (.exit 0) ⟨[(2,.one (.o 3)),(3,.one (.p 4 0)),(7,.one (.o 5))],[.box [.l .i xc,.l .i xd,.l .i xe,.l .s xa,.l (.n 5) xb,.l (.n 8) xg,.m 1],.map .i h1,.map .b h2,.row (.n 1) 0 h32,.box [.p 0 0,.l .i h4,.m 2],.row (.n 1) 0 h52]⟩)
 |_=>none
noncomputable def qj (G:Gs) (n m:Nat) (R:Type) (st:St) (K:Kt R):Option R:=match st with
 |⟨[(3,.one (.p 3 0)),(7,.one (.o 4)),(37,.one (.o 5)),(38,.one (.i t38)),(39,.one (.i t39))],[.box [.l .i xc,.l .i xd,.l .i xe,.l .s xa,.l (.n 5) xb,.l (.n 8) xg,.m 1],.map .i h1,.map .b h2,.box [.p 0 0,.l .i h3,.m 2],.row (.n 1) 0 h4,.row (.n 1) 0 h5]⟩=>l12 G n m xc xd xe xa xb xg t38 h3 h4 h5 t39 h1 h2 (λt6 h12 h22=>K .ret ⟨[(6,.one (.b t6))],[.box [.l .i xc,.l .i xd,.l .i xe,.l .s xa,.l (.n 5) xb,.l (.n 8) xg,.m 1],.map .i h12,.map .b h22]⟩) (λh12 h22=>K (.exit 2) ⟨[(7,.one (.o 3))],[.box [.l .i xc,.l .i xd,.l .i xe,.l .s xa,.l (.n 5) xb,.l (.n 8) xg,.m 1],.map .i h12,.map .b h22,.row (.n 1) 0 h4]⟩)
 |_=>none
noncomputable def pc (G:Gs) (n:Nat):Pcs:=⟨λR id st K=>bif Nat.beq id 4 then dl4 G n n R st K else bif Nat.beq id 12 then qj G n n R st K else none,nK,nK⟩
noncomputable def an:Ann:=⟨51,3,[(4,[2,3,7,16,17,18]),(12,[3,7,37,38,39])],[],[6],[],[]⟩
noncomputable abbrev bd:=ai Tryz.f80
noncomputable abbrev q4:=am [1,1,1,0,1,0,0] bd
noncomputable abbrev q12:=am [1,1,1,1,0,1,0,0] bd
theorem pl4 {G:Gs} (hG:AE (ae G)) (n:Nat):∀m,PO an (.loop q4) (dl4 G n m):=lpc hG (pc G n) [2,3,7,16,17,18] ⟨[2,3,7],[6],[(0,[2,3,7])]⟩ (apl [] trivial) (λR st K=>by unfold dl4;split<;>rfl) λm R st K r h=>by unfold dl4 at h;split at h;exact .trans (by kernel_rfl) h;cases h
theorem Fk {G:Gs} (hG:AE (ae G)) (n:Nat):∀m,PO an (.loop q12) (qj G n m):=lpc hG (pc G n) [3,7,37,38,39] ⟨[7],[6],[(2,[7])]⟩ (apl [] trivial) (λR st K=>by unfold qj;split<;>rfl) λm R st K r h=>by unfold qj at h;split at h;exact .trans (by kernel_rfl) h;cases h
theorem ok {G:Gs} (hG:AE (ae G)) {g:Q} (hg:∀xc xd xe xa xb xg xf xi xh a b r,g xc xd xe xa xb xg xf xi xh a b=some r->∃n,main (R:=AT×List Ob) G n xc xd xe xa xb xg xf xi xh a b (λr0 r1 r2=>some (.one (.b r0),[.box [.l .i xc,.l .i xd,.l .i xe,.l .s xa,.l (.n 5) xb,.l (.n 8) xg,.m 1],.map .i r1,.map .b r2]))=some (.one (.b r.1),[.box [.l .i xc,.l .i xd,.l .i xe,.l .s xa,.l (.n 5) xb,.l (.n 8) xg,.m 1],.map .i r.2.1,.map .b r.2.2])):EO (ent g):=λR xs H K r hc=>by
 simp only[ent]at hc;split at hc
 ·exact okL hc λr j=>let⟨n,j⟩:=hg _ _ _ _ _ _ _ _ _ _ _ _ j;fF hG an (pc G n) Tryz.func80 j (apl [(1,4,.loop q4),(1,12,.loop q12)] ⟨pl4 hG n n,⟨Fk hG n n,trivial⟩⟩)
 ·cases hc
end z1k
open Classical
abbrev Km :=List (ByteArray×Bool)
def cW (ops:List Opr) (rank:List Int) (kn:Km):Prop:=∀a b,KeysOk a->KeysOk b->∀v,oe kn (jj a b)=some v->v=gtF ops rank a b
theorem AL (ops:List Opr) (rank:List Int):cW ops rank []:=λ_ _ _ _ v h=>by cases h
theorem AN {ops:List Opr} {rank:List Int} {kn:Km} (h:cW ops rank kn) {a b:Tm} (ha:KeysOk a) (hb:KeysOk b):cW ops rank ((jj a b,gtF ops rank a b)::kn):=λc d hc hd v e=>by
 unfold oe at e;split at e
 ·rename_i q;obtain⟨rfl,rfl⟩:=yy ha hb hc hd q;exact(Option.some.inj e).symm
 ·exact h c d hc hd v e
def Ans (ops:List Opr) (rank:List Int) (mp:Mp) (v:Bool) (r:Bool×Mp×Km):Prop:=∃kn',cW ops rank kn'/\r=(v,mp,kn')
abbrev GQ :=List Int->List Int->List Int->List ByteArray->List Sb->List Opr->Mp->List Int->Km->Tm->Tm->Option (Bool×Mp×Km)
def wJ (k:Nat) (g:GQ):Prop:=∀c d e nm sb ops mp rank kn a b,Ctx ⟨⟨nm,sb⟩,ops⟩ rank->Good ⟨⟨nm,sb⟩,ops⟩ a->Good ⟨⟨nm,sb⟩,ops⟩ b->a.total+b.total<k->cW ops rank kn->∃kn',cW ops rank kn'/\g c d e nm sb ops mp rank kn a b=some (gtF ops rank a b,mp,kn')
def CmOK (k:Nat) (g:GQ):Prop:=∀c d e nm sb ops mp rank kn a b,Ctx ⟨⟨nm,sb⟩,ops⟩ rank->Good ⟨⟨nm,sb⟩,ops⟩ a->Good ⟨⟨nm,sb⟩,ops⟩ b->¬a.op<0->¬b.op<0->a.total+b.total<k->cW ops rank kn->∃kn',cW ops rank kn'/\g c d e nm sb ops mp rank kn a b=some (eY ops rank (gtF ops rank) a b,mp,kn')
abbrev LQ' :=List Int->List Int->List Int->List ByteArray->List Sb->List Opr->Mp->List Int->Km->List Tm->List Tm->Option (Bool×Mp×Km)
def Fp (k:Nat) (g:LQ'):Prop:=∀c d e nm sb ops mp rank kn a b,Ctx ⟨⟨nm,sb⟩,ops⟩ rank->(∀x∈a,Good ⟨⟨nm,sb⟩,ops⟩ x/\x.total<100000000)->(∀y∈b,Good ⟨⟨nm,sb⟩,ops⟩ y/\y.total<100000000)->a.length<=1024->b.length<=1024->b≠[]->(∀x∈a,∀y∈b,x.total+y.total<k)->cW ops rank kn->∃kn',cW ops rank kn'/\g c d e nm sb ops mp rank kn a b=some (dc (gtF ops rank) a b,mp,kn')
theorem fJ {A0 A1 A2 A3 A4 A5 A6 A7 A8 A9 A10 B:Type} {P:A0->A1->A2->A3->A4->A5->A6->A7->A8->A9->A10->Prop} {D Post:A0->A1->A2->A3->A4->A5->A6->A7->A8->A9->A10->B->Prop} {E:(A0->A1->A2->A3->A4->A5->A6->A7->A8->A9->A10->Option B)->Prop}
  (hE:∀g,(∀a0 a1 a2 a3 a4 a5 a6 a7 a8 a9 a10 b,g a0 a1 a2 a3 a4 a5 a6 a7 a8 a9 a10=some b->D a0 a1 a2 a3 a4 a5 a6 a7 a8 a9 a10 b)->E g)
  (h:∀a0 a1 a2 a3 a4 a5 a6 a7 a8 a9 a10,P a0 a1 a2 a3 a4 a5 a6 a7 a8 a9 a10->∃b,D a0 a1 a2 a3 a4 a5 a6 a7 a8 a9 a10 b/\Post a0 a1 a2 a3 a4 a5 a6 a7 a8 a9 a10 b):
  ∃g,E g/\∀a0 a1 a2 a3 a4 a5 a6 a7 a8 a9 a10,P a0 a1 a2 a3 a4 a5 a6 a7 a8 a9 a10->∃b,g a0 a1 a2 a3 a4 a5 a6 a7 a8 a9 a10=some b/\Post a0 a1 a2 a3 a4 a5 a6 a7 a8 a9 a10 b:=
 ⟨fun a0 a1 a2 a3 a4 a5 a6 a7 a8 a9 a10 => pick (fun (_ : Unit) b => D a0 a1 a2 a3 a4 a5 a6 a7 a8 a9 a10 b ∧ Post a0 a1 a2 a3 a4 a5 a6 a7 a8 a9 a10 b) (), hE _ fun _ _ _ _ _ _ _ _ _ _ _ _ q => (kz        q).1, fun a0 a1 a2 a3 a4 a5 a6 a7 a8 a9 a10 hp => by
  obtain⟨b,hb⟩:=h a0 a1 a2 a3 a4 a5 a6 a7 a8 a9 a10 hp;obtain⟨b,h1,h2⟩:=qn (Q:=λ(_:Unit) b=>D a0 a1 a2 a3 a4 a5 a6 a7 a8 a9 a10 b/\Post a0 a1 a2 a3 a4 a5 a6 a7 a8 a9 a10 b) (a:=()) hb;exact⟨b,h1,h2.2⟩⟩
theorem tn {k:Nat} (hk:k<=100000000) {gc:GQ} (ec:EO (z1i.ent gc)) (hc:CmOK k gc):∃g,EO (z1j.ent g)/\wJ k g:=by
 obtain⟨g,hg,hp⟩:=fJ (E:=λg=>EO (z1j.ent g)) (P:=λc d e nm sb ops mp rank kn a b=>Ctx ⟨⟨nm,sb⟩,ops⟩ rank/\Good ⟨⟨nm,sb⟩,ops⟩ a/\Good ⟨⟨nm,sb⟩,ops⟩ b/\a.total+b.total<k/\cW ops rank kn) (Post:=λc d e nm sb ops mp rank kn a b r=>Ans ops rank mp (gtF ops rank a b) r)
  (λg h=>z1j.ok (G:={z0n:=gOc 4294967296,z1a:=tT,z1i:=gc}) ⟨z0o _ (Nat.le_refl _),Fq,ec,trivial⟩ h)
  fun c d e nm sb ops mp rank kn a b ⟨hC, ga, gb, ht, hkn⟩ => by
   have ka:=kt hC.sig _ a (Nat.lt_succ_self _) ga;have kb:=kt hC.sig _ b (Nat.lt_succ_self _) gb
   have key:∃kn',cW ops rank kn'/\∀(K:Bool->Mp->Km->Option (AT×List Ob)),z1j.main {z0n:=gOc 4294967296,z1a:=tT,z1i:=gc} 1 c d e nm sb ops mp rank kn a b K=K (gtF ops rank a b) mp kn':=by
    unfold z1j.main;rw[lT];by_cases h0:a.op<0
    ·exact⟨kn,hkn,λK=>by rw[dT h0,cT,if_pos h0]⟩
    by_cases h1:b.op<0
    ·refine⟨kn,hkn,λK=> ?_⟩;rw[dF h0,cF,if_neg h0,dT h1,cT,if_pos h1,Tm.eta,Tm.eta];show Option.bind (gOc 4294967296 b a) _=_;rw[show gOc 4294967296 b a=some (gF b a)from if_pos ⟨by omega,by omega⟩,bS]
    rw[if_neg h0,if_neg h1];have k1:tT a=some (sOf (bZ a)):=if_pos ⟨by omega,ka⟩;have k2:tT b=some (sOf (bZ b)):=if_pos ⟨by omega,kb⟩;cases hm:oe kn (jj a b)with
    | some v =>
     have hv:=hkn a b ka kb v hm;rw[lT,if_neg h0,if_neg h1]at hv;refine⟨kn,hkn,λK=> ?_⟩;simp only[dF h0,cF,dF h1,Tm.eta,k1,k2,bS,oP (show a.total<100000000 by omega),oq (show a.total<100000000 by omega) (show b.total<100000000 by omega)];unfold ur ke;rw[hm,hv];rfl
    | none =>
     obtain⟨kn',hkn',e1⟩:=hc c d e nm sb ops mp rank kn a b hC ga gb h0 h1 ht hkn;refine⟨(jj a b,gtF ops rank a b)::kn',AN hkn' ka kb,λK=> ?_⟩;simp only[dF h0,cF,dF h1,Tm.eta,k1,k2,bS,oP (show a.total<100000000 by omega),oq (show a.total<100000000 by omega) (show b.total<100000000 by omega)];unfold ur;rw[hm,e1,lT,if_neg h0,if_neg h1];rfl
   obtain⟨kn',h1,h2⟩:=key;exact⟨(gtF ops rank a b,mp,kn'),⟨1,h2 _⟩,kn',h1,rfl⟩
 refine⟨g,hg,λc d e nm sb ops mp rank kn a b hC ga gb ht hkn=> ?_⟩;obtain⟨r,h1,kn',h2,rfl⟩:=hp c d e nm sb ops mp rank kn a b ⟨hC,ga,gb,ht,hkn⟩;exact⟨kn',h2,h1⟩
end Go.Proofs.YtkinkfieackmdaaGreatDoor.Den

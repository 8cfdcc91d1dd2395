/-
  Texts that the claim rests on, merged: PD2, Drw2, Drw3.
-/
import Derived.Test.YtfdkldmkbibknaaGreatZRowTx12
import Derived.Test.YtfdkldmkbibknaaGreatZRowTx18
import Derived.Test.YtfdkldmkbibknaaGreatZRowTx32

namespace Go.Proofs.YtfdkldmkbibknaaGreat.Den
open Go.RowKit
set_option maxRecDepth 100000
set_option linter.unusedVariables false
namespace z40
structure Gs where
 none_:Unit
noncomputable def main {R:Type} (G:Gs) (n:Nat) (name:ByteArray) (sort:Int) (K:Tm->Option R):Option R:=
 K (Tm.mk (-1) name sort [])
theorem ok {G:Gs} (hG:AE []) {g:Q} (hg:∀name sort r,g name sort=some r->∃n,main (R:=AT×List Ob) G n name sort (λr0=>some (.agg [.i r0.op,.s r0.name,.i r0.sort,.o 0],[.row (.n 1) 0 r0.args]))=some (.agg [.i r.op,.s r.name,.i r.sort,.o 0],[.row (.n 1) 0 r.args])):EO (ent g):=λR xs H K r hc=>by
 simp only[ent]at hc;split at hc
 ·exact okL hc λr j=>let⟨_,j⟩:=hg _ _ _ j;fR hG ⟨8,0,[],[],[4],[],[]⟩ nP Tryz.func53 j
 ·cases hc
end z40
namespace z3w
structure Gs where
 z3c:z3c.Q
 z3d:z3d.Q
 z34:z34.Q
 z40:z40.Q
 z3w:z3w.Q
noncomputable def ac (G:Gs):List Ent:=[z3c.ent G.z3c,z3d.ent G.z3d,z34.ent G.z34,z40.ent G.z40,ent G.z3w]
noncomputable def c2 {R:Type} (G:Gs) (n:Nat) (h0:LI) (h02 h03 h1:Int) (h12:ByteArray) (h13:Int) (h2:LT) (k0:LI->Int->Int->Int->ByteArray->Int->LT->Option R):Option R:=
 (G.z3c (Cur.mk h0 h02 h03) 3).bind λr=>
 bif r.1 then
  (
  (G.z3d r.2 [(ByteArray.mk #[120]),(ByteArray.mk #[121]),(ByteArray.mk #[122])]).bind λr2=>
  (G.z34 r2.2 3).bind λr3=>
  (G.z40 r2.1 r3.1).bind λr4=>
  k0 (Cur.b r3.2) (Cur.i r3.2) (Cur.h r3.2) r4.op r4.name r4.sort r4.args
  )
 else
  (G.z34 r.2 3).bind λr5=>
  k0 (Cur.b r5.2) (Cur.i r5.2) (Cur.h r5.2) r5.1 ByteArray.empty 0 []
noncomputable def c9 {R:Type} (G:Gs) (n:Nat) (ops d op:Int) (h0:LI) (h02 h03 h1:Int) (h12:ByteArray) (h13:Int) (h2:LT) (h3:Int) (h32:ByteArray) (h33:Int) (h4:LT) (k0:LI->Int->Int->LT->Option R):Option R:=
 bif decide (4<op)then
  (
  (G.z3c (Cur.mk h0 h02 h03) 4).bind λr=>
  bif r.1 then
   (
   (G.z3w r.2 ops (wr (d-1))).bind λr3=>
   (lim (h4++[(Tm.mk r3.1.op r3.1.name r3.1.sort r3.1.args)])).bind λzs2=>
   k0 (Cur.b r3.2) (Cur.i r3.2) (Cur.h r3.2) zs2
   )
  else
   k0 (Cur.b r.2) (Cur.i r.2) (Cur.h r.2) h4
  )
 else
  k0 h0 h02 h03 h4
noncomputable def main {R:Type} (G:Gs) (n:Nat) (c:Cur) (ops d:Int) (K:Tm->Cur->Option R):Option R:=
 bif decide (d<=0)then
  (
  c2 G n (Cur.b c) (Cur.i c) (Cur.h c) 0 ByteArray.empty 0 []
   (λh04 h05 h06 h14 h15 h16 h22=>K (Tm.mk h14 h15 h16 h22) (Cur.mk h04 h05 h06))
  )
 else
  (G.z3c c 4).bind λr=>
  bif r.1 then
   (
   c2 G n (Cur.b r.2) (Cur.i r.2) (Cur.h r.2) 0 ByteArray.empty 0 []
    (λh042 h052 h062 h142 h152 h162 h222=>K (Tm.mk h142 h152 h162 h222) (Cur.mk h042 h052 h062))
   )
  else
   (G.z34 r.2 (wr (ops-3))).bind λr2=>
   (G.z3w r2.2 ops (wr (d-1))).bind λr3=>
   bif decide (3<(wr (3+r2.1)))then
    (
    (G.z3w r3.2 ops (wr (d-1))).bind λr6=>
    (lim ([(Tm.mk r3.1.op r3.1.name r3.1.sort r3.1.args)]++[(Tm.mk r6.1.op r6.1.name r6.1.sort r6.1.args)])).bind λzs3=>
    c9 G n ops d (wr (3+r2.1)) (Cur.b r6.2) (Cur.i r6.2) (Cur.h r6.2) 0 ByteArray.empty 0 [] (wr (3+r2.1)) ByteArray.empty 0 zs3
     (λh045 h055 h065 h225=>K (Tm.mk (wr (3+r2.1)) ByteArray.empty 0 h225) (Cur.mk h045 h055 h065))
    )
   else
    c9 G n ops d (wr (3+r2.1)) (Cur.b r3.2) (Cur.i r3.2) (Cur.h r3.2) 0 ByteArray.empty 0 [] (wr (3+r2.1)) ByteArray.empty 0 [(Tm.mk r3.1.op r3.1.name r3.1.sort r3.1.args)]
     (λh046 h056 h066 h226=>K (Tm.mk (wr (3+r2.1)) ByteArray.empty 0 h226) (Cur.mk h046 h056 h066))
noncomputable def dc2 (G:Gs) (n:Nat) (R:Type) (st:St) (K:Kt R):Option R:=match st with
 |⟨[(0,.one (.p 0 0)),(6,.one (.p 1 0))],[.box [.l .u h0,.i h02,.i h03],.box [.i h1,.s h12,.i h13,.o 2],.row (.n 1) 0 h2]⟩=>c2 G n h0 h02 h03 h1 h12 h13 h2 (λh04 h05 h06 h14 h15 h16 h22=>K .ret ⟨[(6,.one (.p 1 0))],[.box [.l .u h04,.i h05,.i h06],.box [.i h14,.s h15,.i h16,.o 2],.row (.n 1) 0 h22]⟩)
 |_=>none
noncomputable def dc9 (G:Gs) (n:Nat) (R:Type) (st:St) (K:Kt R):Option R:=match st with
 |⟨[(0,.one (.p 0 0)),(1,.one (.i ops)),(2,.one (.i d)),(6,.one (.p 1 0)),(7,.one (.i op)),(8,.one (.p 3 0))],[.box [.l .u h0,.i h02,.i h03],.box [.i h1,.s h12,.i h13,.o 2],.row (.n 1) 0 h2,.box [.i h3,.s h32,.i h33,.o 4],.row (.n 1) 0 h4]⟩=>c9 G n ops d op h0 h02 h03 h1 h12 h13 h2 h3 h32 h33 h4 (λh04 h05 h06 h22=>K .ret ⟨[(6,.one (.p 1 0))],[.box [.l .u h04,.i h05,.i h06],.box [.i h3,.s h32,.i h33,.o 2],.row (.n 1) 0 h22]⟩)
 |_=>none
noncomputable def pc (G:Gs) (n:Nat):Pcs:=⟨nK,λR id st K=>bif Nat.beq id 2 then dc2 G n R st K else bif Nat.beq id 9 then dc9 G n R st K else none,nK⟩
noncomputable def an:Ann:=⟨68,1,[],[(2,[0,6]),(9,[0,1,2,6,7,8])],[6],[(8,⟨[([2,3,4,5,6,0,1,7,8,9,10],[6,8,10],[1])],[6,8,10],[],[1],[]⟩),(10,⟨[([2,3,4,5,6,0,1,7,8,9,10],[6,8,10],[1])],[6,8,10],[],[1,2],[]⟩)],[]⟩
noncomputable abbrev bd:=aj Tryz.f78
noncomputable abbrev q2:=ak [1,0,1,0] bd
noncomputable abbrev q9:=ak [1,1,1,1,1] bd
theorem pc2 {G:Gs} (hG:AE (ac G)) {n:Nat}:PO an q2 (dc2 G n):=cpc hG (pc G n) ⟨[0,1,2,6],[6],[]⟩ (apl [] trivial) λR st K r h=>by unfold dc2 at h;split at h;exact .trans (by kernel_rfl) h;cases h
theorem pc9 {G:Gs} (hG:AE (ac G)) {n:Nat}:PO an q9 (dc9 G n):=cpc hG (pc G n) ⟨[],[6],[]⟩ (apl [] trivial) λR st K r h=>by unfold dc9 at h;split at h;exact .trans (by kernel_rfl) h;cases h
theorem ok {G:Gs} (hG:AE (ac G)) {g:Q} (hg:∀c ops d r,g c ops d=some r->∃n,main (R:=AT×List Ob) G n c ops d (λr0 r1=>some (.agg [.i r0.op,.s r0.name,.i r0.sort,.l (.n 1) r0.args],[.box [.l .u (Cur.b r1),.i (Cur.i r1),.i (Cur.h r1)]]))=some (.agg [.i r.1.op,.s r.1.name,.i r.1.sort,.l (.n 1) r.1.args],[.box [.l .u (Cur.b r.2),.i (Cur.i r.2),.i (Cur.h r.2)]])):EO (ent g):=λR xs H K r hc=>by
 simp only[ent]at hc;split at hc
 ·exact okL hc λr j=>let⟨n,j⟩:=hg _ _ _ _ j;fF hG an (pc G n) Tryz.func78 j (apl [(0,2,q2),(0,9,q9)] ⟨pc2 hG,⟨pc9 hG,trivial⟩⟩)
 ·cases hc
end z3w
namespace z3x
structure Gs where
 z3c:z3c.Q
 z3d:z3d.Q
 z34:z34.Q
 z40:z40.Q
 z3w:z3w.Q
noncomputable def ac (G:Gs):List Ent:=[z3c.ent G.z3c,z3d.ent G.z3d,z34.ent G.z34,z40.ent G.z40,z3w.ent G.z3w]
noncomputable def c2 {R:Type} (G:Gs) (n:Nat) (h0:LI) (h02 h03 h1:Int) (h12:ByteArray) (h13:Int) (h2:LT) (k0:LI->Int->Int->Int->ByteArray->Int->LT->Option R):Option R:=
 (G.z3c (Cur.mk h0 h02 h03) 3).bind λr=>
 bif r.1 then
  (
  (G.z3d r.2 [(ByteArray.mk #[120]),(ByteArray.mk #[121]),(ByteArray.mk #[122])]).bind λr2=>
  (G.z34 r2.2 3).bind λr3=>
  (G.z40 r2.1 r3.1).bind λr4=>
  k0 (Cur.b r3.2) (Cur.i r3.2) (Cur.h r3.2) r4.op r4.name r4.sort r4.args
  )
 else
  (G.z34 r.2 3).bind λr5=>
  k0 (Cur.b r5.2) (Cur.i r5.2) (Cur.h r5.2) r5.1 ByteArray.empty 0 []
noncomputable def c9 {R:Type} (G:Gs) (n:Nat) (ops d op:Int) (h0:LI) (h02 h03 h1:Int) (h12:ByteArray) (h13:Int) (h2:LT) (h3:Int) (h32:ByteArray) (h33:Int) (h4:LT) (k0:LI->Int->Int->LT->Option R):Option R:=
 bif decide (4<op)then
  (
  (G.z3c (Cur.mk h0 h02 h03) 4).bind λr=>
  bif r.1 then
   (
   (G.z3w r.2 ops (wr (d-1))).bind λr3=>
   (lim (h4++[(Tm.mk r3.1.op r3.1.name r3.1.sort r3.1.args)])).bind λzs2=>
   k0 (Cur.b r3.2) (Cur.i r3.2) (Cur.h r3.2) zs2
   )
  else
   k0 (Cur.b r.2) (Cur.i r.2) (Cur.h r.2) h4
  )
 else
  k0 h0 h02 h03 h4
noncomputable def main {R:Type} (G:Gs) (n:Nat) (c:Cur) (ops d:Int) (K:Tm->Cur->Option R):Option R:=
 bif decide (d<=0)then
  (
  c2 G n (Cur.b c) (Cur.i c) (Cur.h c) 0 ByteArray.empty 0 []
   (λh04 h05 h06 h14 h15 h16 h22=>K (Tm.mk h14 h15 h16 h22) (Cur.mk h04 h05 h06))
  )
 else
  (G.z3c c 4).bind λr=>
  bif r.1 then
   (
   c2 G n (Cur.b r.2) (Cur.i r.2) (Cur.h r.2) 0 ByteArray.empty 0 []
    (λh042 h052 h062 h142 h152 h162 h222=>K (Tm.mk h142 h152 h162 h222) (Cur.mk h042 h052 h062))
   )
  else
   (G.z34 r.2 (wr (ops-3))).bind λr2=>
   (G.z3w r2.2 ops (wr (d-1))).bind λr3=>
   bif decide (3<(wr (3+r2.1)))then
    (
    (G.z3w r3.2 ops (wr (d-1))).bind λr6=>
    (lim ([(Tm.mk r3.1.op r3.1.name r3.1.sort r3.1.args)]++[(Tm.mk r6.1.op r6.1.name r6.1.sort r6.1.args)])).bind λzs3=>
    c9 G n ops d (wr (3+r2.1)) (Cur.b r6.2) (Cur.i r6.2) (Cur.h r6.2) 0 ByteArray.empty 0 [] (wr (3+r2.1)) ByteArray.empty 0 zs3
     (λh045 h055 h065 h225=>K (Tm.mk (wr (3+r2.1)) ByteArray.empty 0 h225) (Cur.mk h045 h055 h065))
    )
   else
    c9 G n ops d (wr (3+r2.1)) (Cur.b r3.2) (Cur.i r3.2) (Cur.h r3.2) 0 ByteArray.empty 0 [] (wr (3+r2.1)) ByteArray.empty 0 [(Tm.mk r3.1.op r3.1.name r3.1.sort r3.1.args)]
     (λh046 h056 h066 h226=>K (Tm.mk (wr (3+r2.1)) ByteArray.empty 0 h226) (Cur.mk h046 h056 h066))
noncomputable def dc2 (G:Gs) (n:Nat) (R:Type) (st:St) (K:Kt R):Option R:=match st with
 |⟨[(0,.one (.p 0 0)),(6,.one (.p 1 0))],[.box [.l .u h0,.i h02,.i h03],.box [.i h1,.s h12,.i h13,.o 2],.row (.n 1) 0 h2]⟩=>c2 G n h0 h02 h03 h1 h12 h13 h2 (λh04 h05 h06 h14 h15 h16 h22=>K .ret ⟨[(6,.one (.p 1 0))],[.box [.l .u h04,.i h05,.i h06],.box [.i h14,.s h15,.i h16,.o 2],.row (.n 1) 0 h22]⟩)
 |_=>none
noncomputable def dc9 (G:Gs) (n:Nat) (R:Type) (st:St) (K:Kt R):Option R:=match st with
 |⟨[(0,.one (.p 0 0)),(1,.one (.i ops)),(2,.one (.i d)),(6,.one (.p 1 0)),(7,.one (.i op)),(8,.one (.p 3 0))],[.box [.l .u h0,.i h02,.i h03],.box [.i h1,.s h12,.i h13,.o 2],.row (.n 1) 0 h2,.box [.i h3,.s h32,.i h33,.o 4],.row (.n 1) 0 h4]⟩=>c9 G n ops d op h0 h02 h03 h1 h12 h13 h2 h3 h32 h33 h4 (λh04 h05 h06 h22=>K .ret ⟨[(6,.one (.p 1 0))],[.box [.l .u h04,.i h05,.i h06],.box [.i h3,.s h32,.i h33,.o 2],.row (.n 1) 0 h22]⟩)
 |_=>none
noncomputable def pc (G:Gs) (n:Nat):Pcs:=⟨nK,λR id st K=>bif Nat.beq id 2 then dc2 G n R st K else bif Nat.beq id 9 then dc9 G n R st K else none,nK⟩
noncomputable def an:Ann:=⟨68,1,[],[(2,[0,6]),(9,[0,1,2,6,7,8])],[6],[(8,⟨[([2,3,4,5,6,0,1,7,8,9,10],[6,8,10],[1])],[6,8,10],[],[1],[]⟩),(10,⟨[([2,3,4,5,6,0,1,7,8,9,10],[6,8,10],[1])],[6,8,10],[],[1,2],[]⟩)],[]⟩
noncomputable abbrev bd:=aj Tryz.f78
noncomputable abbrev q2:=ak [1,0,1,0] bd
noncomputable abbrev q9:=ak [1,1,1,1,1] bd
theorem pc2 {G:Gs} (hG:AE (ac G)) {n:Nat}:PO an q2 (dc2 G n):=cpc hG (pc G n) ⟨[0,1,2,6],[6],[]⟩ (apl [] trivial) λR st K r h=>by unfold dc2 at h;split at h;exact .trans (by kernel_rfl) h;cases h
theorem pc9 {G:Gs} (hG:AE (ac G)) {n:Nat}:PO an q9 (dc9 G n):=cpc hG (pc G n) ⟨[],[6],[]⟩ (apl [] trivial) λR st K r h=>by unfold dc9 at h;split at h;exact .trans (by kernel_rfl) h;cases h
theorem ok {G:Gs} (hG:AE (ac G)) {g:Q} (hg:∀c ops d r,g c ops d=some r->∃n,main (R:=AT×List Ob) G n c ops d (λr0 r1=>some (.agg [.i r0.op,.s r0.name,.i r0.sort,.o 1],[.box [.l .u (Cur.b r1),.i (Cur.i r1),.i (Cur.h r1)],.row (.n 1) 0 r0.args]))=some (.agg [.i r.1.op,.s r.1.name,.i r.1.sort,.o 1],[.box [.l .u (Cur.b r.2),.i (Cur.i r.2),.i (Cur.h r.2)],.row (.n 1) 0 r.1.args])):EO (ent g):=λR xs H K r hc=>by
 simp only[ent]at hc;split at hc
 ·exact okL hc λr j=>let⟨n,j⟩:=hg _ _ _ _ j;fR hG an (pc G n) Tryz.func78 j (apl [(0,2,q2),(0,9,q9)] ⟨pc2 hG,⟨pc9 hG,trivial⟩⟩)
 ·cases hc
end z3x
namespace z4i
structure Gs where
 z3c:z3c.Q
 z3d:z3d.Q
 z40:z40.Q
 z34:z34.Q
 z4i:z4i.Q
noncomputable def ac (G:Gs):List Ent:=[z3c.ent G.z3c,z3d.ent G.z3d,z40.ent G.z40,z34.ent G.z34,ent G.z4i]
noncomputable def c8 {R:Type} (G:Gs) (n:Nat) (list deep:Bool) (h0:LI) (h02 h03 h1:Int) (h12:ByteArray) (h13:Int) (h2:LT) (k0:LI->Int->Int->Int->ByteArray->Int->LT->Option R):Option R:=
 bif list then
  (
  bif !deep then
   (k0 h0 h02 h03 2 ByteArray.empty 0 [])
  else
   (G.z3c (Cur.mk h0 h02 h03) 2).bind λr=>
   bif r.1 then
    (k0 (Cur.b r.2) (Cur.i r.2) (Cur.h r.2) 2 ByteArray.empty 0 [])
   else
    (G.z34 r.2 2).bind λr2=>
    k0 (Cur.b r2.2) (Cur.i r2.2) (Cur.h r2.2) r2.1 ByteArray.empty 0 []
  )
 else
  (G.z34 (Cur.mk h0 h02 h03) 2).bind λr3=>
  k0 (Cur.b r3.2) (Cur.i r3.2) (Cur.h r3.2) r3.1 ByteArray.empty 0 []
noncomputable def c18 {R:Type} (G:Gs) (n:Nat) (d:Int) (vars list:Bool) (op:Int) (h0:LI) (h02 h03:Int) (h1:LB) (h12:LS) (h13:LO) (h2:Int) (h22:ByteArray) (h23:Int) (h3:LT) (k0:LI->Int->Int->ByteArray->Int->LT->Option R):Option R:=
 (G.z4i (Cur.mk h0 h02 h03) (Sg.mk (So.mk h1 h12) h13) (wr (d-1)) vars list).bind λr=>
 bif decide (3<op)then
  (
  (G.z4i r.2 (Sg.mk (So.mk h1 h12) h13) (wr (d-1)) vars list).bind λr3=>
  (lim ([(Tm.mk r.1.op r.1.name r.1.sort r.1.args)]++[(Tm.mk r3.1.op r3.1.name r3.1.sort r3.1.args)])).bind λzs2=>
  k0 (Cur.b r3.2) (Cur.i r3.2) (Cur.h r3.2) ByteArray.empty 0 zs2
  )
 else
  k0 (Cur.b r.2) (Cur.i r.2) (Cur.h r.2) ByteArray.empty 0 [(Tm.mk r.1.op r.1.name r.1.sort r.1.args)]
noncomputable def c16 {R:Type} (G:Gs) (n:Nat) (d:Int) (vars list deep:Bool) (op:Int) (h0:LI) (h02 h03:Int) (h1:LB) (h12:LS) (h13:LO) (h2:Int) (h22:ByteArray) (h23:Int) (h3:LT) (k0:LI->Int->Int->Int->ByteArray->Int->LT->Option R):Option R:=
 bif decide (op=5)then
  (
  bif !deep then
   (
   c18 G n d vars list 4 h0 h02 h03 h1 h12 h13 h2 h22 h23 h3
    (λh04 h05 h06 h15 h16 h24=>k0 h04 h05 h06 4 h15 h16 h24)
   )
  else
   c18 G n d vars list op h0 h02 h03 h1 h12 h13 h2 h22 h23 h3
    (λh042 h052 h062 h152 h162 h242=>k0 h042 h052 h062 op h152 h162 h242)
  )
 else
  c18 G n d vars list op h0 h02 h03 h1 h12 h13 h2 h22 h23 h3
   (λh043 h053 h063 h153 h163 h243=>k0 h043 h053 h063 op h153 h163 h243)
noncomputable def c13 {R:Type} (G:Gs) (n:Nat) (d:Int) (vars list deep:Bool) (h0:LI) (h02 h03:Int) (h1:LB) (h12:LS) (h13:LO) (h2:Int) (h22:ByteArray) (h23:Int) (h3:LT) (k0:LI->Int->Int->Int->ByteArray->Int->LT->Option R):Option R:=
 (G.z34 (Cur.mk h0 h02 h03) (wr ((List.length h13:Int)-3))).bind λr=>
 bif list then
  (
  c16 G n d vars list deep 5 (Cur.b r.2) (Cur.i r.2) (Cur.h r.2) h1 h12 h13 h2 h22 h23 h3
   (λh04 h05 h06 h14 h15 h16 h24=>k0 h04 h05 h06 h14 h15 h16 h24)
  )
 else
  c16 G n d vars list deep (wr (3+r.1)) (Cur.b r.2) (Cur.i r.2) (Cur.h r.2) h1 h12 h13 h2 h22 h23 h3
   (λh042 h052 h062 h142 h152 h162 h242=>k0 h042 h052 h062 h142 h152 h162 h242)
noncomputable def c7 {R:Type} (G:Gs) (n:Nat) (d:Int) (vars list deep:Bool) (h0:LI) (h02 h03:Int) (h1:LB) (h12:LS) (h13:LO) (h2:Int) (h22:ByteArray) (h23:Int) (h3:LT) (k0:LI->Int->Int->Int->ByteArray->Int->LT->Option R):Option R:=
 bif decide (d<=0)then
  (
  c8 G n list deep h0 h02 h03 h2 h22 h23 h3
   (λh04 h05 h06 h14 h15 h16 h222=>k0 h04 h05 h06 h14 h15 h16 h222)
  )
 else
  (G.z3c (Cur.mk h0 h02 h03) 5).bind λr=>
  bif r.1 then
   (
   c8 G n list deep (Cur.b r.2) (Cur.i r.2) (Cur.h r.2) h2 h22 h23 h3
    (λh042 h052 h062 h142 h152 h162 h223=>k0 h042 h052 h062 h142 h152 h162 h223)
   )
  else
   bif list then
    (
    bif !deep then
     (
     (G.z4i r.2 (Sg.mk (So.mk h1 h12) h13) (wr (d-1)) vars false).bind λr4=>
     (G.z4i r4.2 (Sg.mk (So.mk h1 h12) h13) (wr (d-1)) vars true).bind λr5=>
     k0 (Cur.b r5.2) (Cur.i r5.2) (Cur.h r5.2) 5 ByteArray.empty 0 [(Tm.mk r4.1.op r4.1.name r4.1.sort r4.1.args),(Tm.mk r5.1.op r5.1.name r5.1.sort r5.1.args)]
     )
    else
     c13 G n d vars list deep (Cur.b r.2) (Cur.i r.2) (Cur.h r.2) h1 h12 h13 h2 h22 h23 h3
      (λh043 h053 h063 h143 h153 h163 h24=>k0 h043 h053 h063 h143 h153 h163 h24)
    )
   else
    c13 G n d vars list deep (Cur.b r.2) (Cur.i r.2) (Cur.h r.2) h1 h12 h13 h2 h22 h23 h3
     (λh044 h054 h064 h144 h154 h164 h242=>k0 h044 h054 h064 h144 h154 h164 h242)
noncomputable def main {R:Type} (G:Gs) (n:Nat) (c:Cur) (s:Sg) (d:Int) (vars list:Bool) (K:Tm->Cur->Option R):Option R:=
 bif vars then
  (
  (G.z3c c 3).bind λr=>
  bif r.1 then
   (
   (G.z3d r.2 [(ByteArray.mk #[120]),(ByteArray.mk #[121]),(ByteArray.mk #[122])]).bind λr2=>
   bif list then
    (
    (G.z40 r2.1 2).bind λr3=>
    K (Tm.mk r3.op r3.name r3.sort r3.args) r2.2
    )
   else
    (G.z34 r2.2 2).bind λr4=>
    (G.z40 r2.1 r4.1).bind λr5=>
    K (Tm.mk r5.op r5.name r5.sort r5.args) r4.2
   )
  else
   c7 G n d vars list (decide (1<(List.length s.sorts.subs:Int))) (Cur.b r.2) (Cur.i r.2) (Cur.h r.2) s.sorts.names s.sorts.subs s.ops 0 ByteArray.empty 0 []
    (λh04 h05 h06 h14 h15 h16 h24=>K (Tm.mk h14 h15 h16 h24) (Cur.mk h04 h05 h06))
  )
 else
  c7 G n d vars list (decide (1<(List.length s.sorts.subs:Int))) (Cur.b c) (Cur.i c) (Cur.h c) s.sorts.names s.sorts.subs s.ops 0 ByteArray.empty 0 []
   (λh042 h052 h062 h142 h152 h162 h242=>K (Tm.mk h142 h152 h162 h242) (Cur.mk h042 h052 h062))
noncomputable def dc8 (G:Gs) (n:Nat) (R:Type) (st:St) (K:Kt R):Option R:=match st with
 |⟨[(0,.one (.p 0 0)),(4,.one (.b list)),(10,.one (.p 1 0)),(11,.one (.b deep))],[.box [.l .u h0,.i h02,.i h03],.box [.i h1,.s h12,.i h13,.o 2],.row (.n 1) 0 h2]⟩=>c8 G n list deep h0 h02 h03 h1 h12 h13 h2 (λh04 h05 h06 h14 h15 h16 h22=>K .ret ⟨[(10,.one (.p 1 0))],[.box [.l .u h04,.i h05,.i h06],.box [.i h14,.s h15,.i h16,.o 2],.row (.n 1) 0 h22]⟩)
 |_=>none
noncomputable def E8 (G:Gs) (n:Nat) (R:Type) (st:St) (K:Kt R):Option R:=match st with
 |⟨[(0,.one (.p 0 0)),(2,.one (.i d)),(3,.one (.b vars)),(4,.one (.b list)),(6,.one (.p 1 0)),(10,.one (.p 2 0)),(13,.one (.i op))],[.box [.l .u h0,.i h02,.i h03],.box [.l .s h1,.l (.n 5) h12,.l (.n 8) h13],.box [.i h2,.s h22,.i h23,.o 3],.row (.n 1) 0 h3]⟩=>c18 G n d vars list op h0 h02 h03 h1 h12 h13 h2 h22 h23 h3 (λh04 h05 h06 h15 h16 h24=>K .ret ⟨[(10,.one (.p 1 0))],[.box [.l .u h04,.i h05,.i h06],.box [.i op,.s h15,.i h16,.o 2],.row (.n 1) 0 h24]⟩)
 |_=>none
noncomputable def En (G:Gs) (n:Nat) (R:Type) (st:St) (K:Kt R):Option R:=match st with
 |⟨[(0,.one (.p 0 0)),(2,.one (.i d)),(3,.one (.b vars)),(4,.one (.b list)),(6,.one (.p 1 0)),(10,.one (.p 2 0)),(11,.one (.b deep)),(13,.one (.i op))],[.box [.l .u h0,.i h02,.i h03],.box [.l .s h1,.l (.n 5) h12,.l (.n 8) h13],.box [.i h2,.s h22,.i h23,.o 3],.row (.n 1) 0 h3]⟩=>c16 G n d vars list deep op h0 h02 h03 h1 h12 h13 h2 h22 h23 h3 (λh04 h05 h06 h14 h15 h16 h24=>K .ret ⟨[(10,.one (.p 1 0))],[.box [.l .u h04,.i h05,.i h06],.box [.i h14,.s h15,.i h16,.o 2],.row (.n 1) 0 h24]⟩)
 |_=>none
noncomputable def jz (G:Gs) (n:Nat) (R:Type) (st:St) (K:Kt R):Option R:=match st with
 |⟨[(0,.one (.p 0 0)),(2,.one (.i d)),(3,.one (.b vars)),(4,.one (.b list)),(6,.one (.p 1 0)),(10,.one (.p 2 0)),(11,.one (.b deep))],[.box [.l .u h0,.i h02,.i h03],.box [.l .s h1,.l (.n 5) h12,.l (.n 8) h13],.box [.i h2,.s h22,.i h23,.o 3],.row (.n 1) 0 h3]⟩=>c13 G n d vars list deep h0 h02 h03 h1 h12 h13 h2 h22 h23 h3 (λh04 h05 h06 h14 h15 h16 h24=>K .ret ⟨[(10,.one (.p 1 0))],[.box [.l .u h04,.i h05,.i h06],.box [.i h14,.s h15,.i h16,.o 2],.row (.n 1) 0 h24]⟩)
 |_=>none
noncomputable def dc7 (G:Gs) (n:Nat) (R:Type) (st:St) (K:Kt R):Option R:=match st with
 |⟨[(0,.one (.p 0 0)),(2,.one (.i d)),(3,.one (.b vars)),(4,.one (.b list)),(6,.one (.p 1 0)),(10,.one (.p 2 0)),(11,.one (.b deep))],[.box [.l .u h0,.i h02,.i h03],.box [.l .s h1,.l (.n 5) h12,.l (.n 8) h13],.box [.i h2,.s h22,.i h23,.o 3],.row (.n 1) 0 h3]⟩=>c7 G n d vars list deep h0 h02 h03 h1 h12 h13 h2 h22 h23 h3 (λh04 h05 h06 h14 h15 h16 h24=>K .ret ⟨[(10,.one (.p 1 0))],[.box [.l .u h04,.i h05,.i h06],.box [.i h14,.s h15,.i h16,.o 2],.row (.n 1) 0 h24]⟩)
 |_=>none
noncomputable def pc (G:Gs) (n:Nat):Pcs:=⟨nK,λR id st K=>bif Nat.beq id 8 then dc8 G n R st K else bif Nat.beq id 18 then E8 G n R st K else bif Nat.beq id 16 then En G n R st K else bif Nat.beq id 13 then jz G n R st K else bif Nat.beq id 7 then dc7 G n R st K else none,nK⟩
noncomputable def an:Ann:=⟨112,1,[],[(8,[0,4,10,11]),(18,[0,2,3,4,6,10,13]),(16,[0,2,3,4,6,10,11,13]),(13,[0,2,3,4,6,10,11]),(7,[0,2,3,4,6,10,11])],[10],[(12,⟨[([0,1,2,3,4,5,6,7,8,9,10,11,12,13,14],[5,11,12,14],[])],[5,11,12,14],[],[1,3],[]⟩),(20,⟨[([2,3,4,5,6,7,8,0,1,9,10,11,12],[8,10,12],[1])],[8,10,12],[],[1,2,3],[]⟩)],[]⟩
noncomputable abbrev bd:=aj Tryz.f143
noncomputable abbrev q8:=ak [1,1,1,0,1,0] bd
noncomputable abbrev q18:=ak [1,1,1,1,1,1,1,1] bd
noncomputable abbrev q16:=ak [1,1,1,1,1,1,1] bd
noncomputable abbrev q13:=ak [1,1,1,1,1] bd
noncomputable abbrev q7:=ak [1,1,1] bd
theorem pc8 {G:Gs} (hG:AE (ac G)) {n:Nat}:PO an q8 (dc8 G n):=cpc hG (pc G n) ⟨[0,2,3,4,6,10,11],[10],[]⟩ (apl [] trivial) λR st K r h=>by unfold dc8 at h;split at h;exact .trans (by kernel_rfl) h;cases h
theorem pc18 {G:Gs} (hG:AE (ac G)) {n:Nat}:PO an q18 (E8 G n):=cpc hG (pc G n) ⟨[],[10],[]⟩ (apl [] trivial) λR st K r h=>by unfold E8 at h;split at h;exact .trans (by kernel_rfl) h;cases h
theorem pc16 {G:Gs} (hG:AE (ac G)) {n:Nat}:PO an q16 (En G n):=cpc hG (pc G n) ⟨[],[10],[]⟩ (apl [(0,18,q18)] ⟨pc18 hG,trivial⟩) λR st K r h=>by unfold En at h;split at h;exact .trans (by kernel_rfl) h;cases h
theorem tw {G:Gs} (hG:AE (ac G)) {n:Nat}:PO an q13 (jz G n):=cpc hG (pc G n) ⟨[],[10],[]⟩ (apl [(0,16,q16)] ⟨pc16 hG,trivial⟩) λR st K r h=>by unfold jz at h;split at h;exact .trans (by kernel_rfl) h;cases h
theorem pc7 {G:Gs} (hG:AE (ac G)) {n:Nat}:PO an q7 (dc7 G n):=cpc hG (pc G n) ⟨[],[10],[]⟩ (apl [(0,8,q8),(0,13,q13)] ⟨pc8 hG,⟨tw hG,trivial⟩⟩) λR st K r h=>by unfold dc7 at h;split at h;exact .trans (by kernel_rfl) h;cases h
theorem ok {G:Gs} (hG:AE (ac G)) {g:Q} (hg:∀c s d vars list r,g c s d vars list=some r->∃n,main (R:=AT×List Ob) G n c s d vars list (λr0 r1=>some (.agg [.i r0.op,.s r0.name,.i r0.sort,.l (.n 1) r0.args],[.box [.l .u (Cur.b r1),.i (Cur.i r1),.i (Cur.h r1)]]))=some (.agg [.i r.1.op,.s r.1.name,.i r.1.sort,.l (.n 1) r.1.args],[.box [.l .u (Cur.b r.2),.i (Cur.i r.2),.i (Cur.h r.2)]])):EO (ent g):=λR xs H K r hc=>by
 simp only[ent]at hc;split at hc
 ·exact okL hc λr j=>let⟨n,j⟩:=hg _ _ _ _ _ _ j;fF hG an (pc G n) Tryz.func143 j (apl [(0,7,q7)] ⟨pc7 hG,trivial⟩)
 ·cases hc
end z4i
namespace z4d
structure Gs where
 z3c:z3c.Q
 z4i:z4i.Q
noncomputable def main {R:Type} (G:Gs) (n:Nat) (c:Cur) (s:Sg) (d:Int) (vars:Bool) (K:Tm->Cur->Option R):Option R:=
 bif decide (1<(List.length s.sorts.subs:Int))then
  (
  (G.z3c c 2).bind λr9=>
  bif r9.1 then
   (
   (G.z4i r9.2 s d vars true).bind λr10=>
   K (Tm.mk r10.1.op r10.1.name r10.1.sort r10.1.args) r10.2
   )
  else
   bif !(decide (1<(List.length s.sorts.subs:Int)))then
    (
    (G.z3c r9.2 3).bind λr11=>
    (G.z4i r11.2 s d vars r11.1).bind λr12=>
    K (Tm.mk r12.1.op r12.1.name r12.1.sort r12.1.args) r12.2
    )
   else
    (G.z4i r9.2 s d vars false).bind λr13=>
    K (Tm.mk r13.1.op r13.1.name r13.1.sort r13.1.args) r13.2
  )
 else
  bif !(decide (1<(List.length s.sorts.subs:Int)))then
   (
   (G.z3c c 3).bind λr14=>
   (G.z4i r14.2 s d vars r14.1).bind λr15=>
   K (Tm.mk r15.1.op r15.1.name r15.1.sort r15.1.args) r15.2
   )
  else
   (G.z4i c s d vars false).bind λr16=>
   K (Tm.mk r16.1.op r16.1.name r16.1.sort r16.1.args) r16.2
theorem ok {G:Gs} (hG:AE [z3c.ent G.z3c,z4i.ent G.z4i]) {g:Q} (hg:∀c s d vars r,g c s d vars=some r->∃n,main (R:=AT×List Ob) G n c s d vars (λr0 r1=>some (.agg [.i r0.op,.s r0.name,.i r0.sort,.l (.n 1) r0.args],[.box [.l .u (Cur.b r1),.i (Cur.i r1),.i (Cur.h r1)]]))=some (.agg [.i r.1.op,.s r.1.name,.i r.1.sort,.l (.n 1) r.1.args],[.box [.l .u (Cur.b r.2),.i (Cur.i r.2),.i (Cur.h r.2)]])):EO (ent g):=λR xs H K r hc=>by
 simp only[ent]at hc;split at hc
 ·exact okL hc λr j=>let⟨_,j⟩:=hg _ _ _ _ _ j;fF hG ⟨33,1,[],[],[8],[(2,⟨[([4,5,6,7,8,9,10,11,12,13,14,0,1,2,3,15,16,17,18],[7,14,17,18],[])],[7,14,17,18],[],[1],[]⟩)],[]⟩ nP Tryz.func126 j
 ·cases hc
end z4d
def ij :ByteArray->Int->Option Tm:=λnm s=>some (Tm.mk (-1) nm s [])
theorem dH :EO (z40.ent ij):=z40.ok (G:=⟨()⟩) trivial λnm s r h=>⟨1,by cases h;rfl⟩
abbrev xyz :List ByteArray:=[ByteArray.mk #[120],ByteArray.mk #[121],ByteArray.mk #[122]]
theorem rm {x:ByteArray} (h:x∈xyz):x.size=1:=by
 simp only[List.mem_cons,List.not_mem_nil,or_false]at h;rcases h with rfl|rfl|rfl<;>rfl
def dj :Nat->Nat
 |0=>1
 |k+1=>3+3*dj k
theorem d8 (a b:List Tm):ae (a++b)=ae a+ae b:=by unfold ae;simp;omega
theorem bw (a:Tm):ae [a]=1+a.total:=by unfold ae;simp
theorem bC (o:Int) (nm:ByteArray) (s:Int) (l:List Tm):(Tm.mk o nm s l).total=nm.size+ae l:=Tm.total_eq _
section
variable {gL : Cur → Int → Option (Int × Cur)} {gO : Cur → Int → Option (Bool × Cur)} {gP : Cur → List ByteArray → Option (ByteArray × Cur)} {gR : Cur → Int → Int → Option (Tm × Cur)}
theorem r5_2 (hL:cI gL) (hO:dP gO) (hP:kL gP) (n:Nat) (c:Cur) (hc:Inv c) (a:Int) (a2:ByteArray) (a3:Int) (l:List Tm):
  ∃c' o nm s,(∀(R:Type) (k0:List Int->Int->Int->Int->ByteArray->Int->List Tm->Option R),z3w.c2 ⟨gO,gP,gL,ij,gR⟩ n c.b c.i c.h a a2 a3 l k0=k0 c'.b c'.i c'.h o nm s [])/\nm.size<=1/\Inv c':=by
 obtain⟨⟨b,c1⟩,e1,i1⟩:=hO c 3 ⟨hc,by omega⟩;have ec:Cur.mk c.b c.i c.h=c:=rfl;cases b with
 | true =>
  obtain⟨⟨nm,c2⟩,e2,m2,i2⟩:=hP c1 xyz ⟨i1,by simp,by simp⟩;obtain⟨⟨x,c3⟩,e3,_,_,_,i3⟩:=hL c2 3 ⟨i2,by omega⟩;refine⟨c3, -1,nm,x,λR k0=> ?_,Nat.le_of_eq (rm m2),i3⟩;unfold z3w.c2;dsimp only;rw[ec,e1,bS,cT,e2,bS,e3,bS];rfl
 | false =>
  obtain⟨⟨x,c3⟩,e3,_,_,_,i3⟩:=hL c1 3 ⟨i1,by omega⟩;refine⟨c3,x,ByteArray.empty,0,λR k0=> ?_,by decide,i3⟩;unfold z3w.c2;dsimp only;rw[ec,e1,bS,cF,e3,bS]
theorem r5_9 (hO:dP gO) {k:Nat} (ops d:Int) (hR:∀c,Inv c->∃r,gR c ops (wr (d-1))=some r/\(r.1.total<=dj k/\Inv r.2)) (n:Nat) (op:Int) (c:Cur) (hc:Inv c) (a:Int) (a2:ByteArray) (a3:Int) (l:List Tm) (b:Int) (b2:ByteArray) (b3:Int) (l4:List Tm) (hl:l4.length<=2) (ht:ae l4<=2+2*dj k):
  ∃c' l',(∀(R:Type) (k0:List Int->Int->Int->List Tm->Option R),z3w.c9 ⟨gO,gP,gL,ij,gR⟩ n ops d op c.b c.i c.h a a2 a3 l b b2 b3 l4 k0=k0 c'.b c'.i c'.h l')/\ae l'<=3+3*dj k/\Inv c':=by
 have ec:Cur.mk c.b c.i c.h=c:=rfl;by_cases h4:4<op
 ·obtain⟨⟨q,c1⟩,e1,i1⟩:=hO c 4 ⟨hc,by omega⟩;cases q with
  | true =>
   obtain⟨⟨t,c2⟩,e2,t2,i2⟩:=hR c1 i1;refine⟨c2,l4++[t],λR k0=> ?_,by rw[d8,bw];dsimp only at t2;omega,i2⟩;unfold z3w.c9;dsimp only;rw[dT h4,cT,ec,e1,bS,cT,e2,bS];simp only[Tm.eta];rw[bQ (by simp;omega),bS]
  | false =>
   refine⟨c1,l4,λR k0=> ?_,by omega,i1⟩;unfold z3w.c9;dsimp only;rw[dT h4,cT,ec,e1,bS,cF]
 ·refine⟨c,l4,λR k0=> ?_,by omega,hc⟩;unfold z3w.c9;rw[dF h4,cF]
theorem pP (hL:cI gL) (hO:dP gO) (hP:kL gP) {k:Nat} (ops d:Int) (ho:3<=ops/\ops<=200) (hR:0<d->∀c,Inv c->∃r,gR c ops (wr (d-1))=some r/\(r.1.total<=dj k/\Inv r.2)) (n:Nat) (c:Cur) (hc:Inv c):
  ∃t c',(∀(R:Type) (K:Tm->Cur->Option R),z3w.main ⟨gO,gP,gL,ij,gR⟩ n c ops d K=K t c')/\t.total<=dj (k+1)/\Inv c':=by
 have e0:ae []=0:=rfl;by_cases hd:d<=0
 ·obtain⟨c',o,nm,s,q1,q2,q3⟩:=r5_2 hL hO hP n c hc (gR:=gR) 0 ByteArray.empty 0 [];refine⟨Tm.mk o nm s [],c',λR K=> ?_,by rw[bC,e0];unfold dj;omega,q3⟩;unfold z3w.main;rw[dT hd,cT,q1]
 ·obtain⟨⟨b,c1⟩,e1,i1⟩:=hO c 4 ⟨hc,by omega⟩;cases b with
  | true =>
   obtain⟨c',o,nm,s,q1,q2,q3⟩:=r5_2 hL hO hP n c1 i1 (gR:=gR) 0 ByteArray.empty 0 [];refine⟨Tm.mk o nm s [],c',λR K=> ?_,by rw[bC,e0];unfold dj;omega,q3⟩;unfold z3w.main;dsimp only;rw[dF hd,cF,e1,bS,cT,q1]
  | false =>
   have hR:=hR (by omega);have ew:wr (ops-3)=ops-3:=ai ⟨by omega,by omega⟩;obtain⟨⟨x,c2⟩,e2,x0,x1,x2,i2⟩:=hL c1 (ops-3) ⟨i1,by omega⟩;obtain⟨⟨t,c3⟩,e3,t3,i3⟩:=hR c2 i2;dsimp only at x0 x1 x2 t3 e2 e3;by_cases h3:3<wr (3+x)
   ·obtain⟨⟨t2,c4⟩,e4,t4,i4⟩:=hR c3 i3;dsimp only at t4 e4;obtain⟨c',l',q1,q2,q3⟩:=r5_9 (gL:=gL) (gP:=gP) hO ops d hR n (wr (3+x)) c4 i4 0 ByteArray.empty 0 [] (wr (3+x)) ByteArray.empty 0 ([t]++[t2]) (by simp) (by rw[d8,bw,bw];omega);refine⟨Tm.mk (wr (3+x)) ByteArray.empty 0 l',c',λR K=> ?_,by rw[bC];unfold dj;have:ByteArray.empty.size=0:=rfl;omega,q3⟩;unfold z3w.main;dsimp only;rw[dF hd,cF,e1,bS,cF,ew,e2,bS,e3,bS];simp only[Tm.eta];rw[dT h3,cT,e4,bS,bQ (by simp),bS,q1]
   ·obtain⟨c',l',q1,q2,q3⟩:=r5_9 (gL:=gL) (gP:=gP) hO ops d hR n (wr (3+x)) c3 i3 0 ByteArray.empty 0 [] (wr (3+x)) ByteArray.empty 0 [t] (by simp) (by rw[bw];omega);refine⟨Tm.mk (wr (3+x)) ByteArray.empty 0 l',c',λR K=> ?_,by rw[bC];unfold dj;have:ByteArray.empty.size=0:=rfl;omega,q3⟩;unfold z3w.main;dsimp only;rw[dF hd,cF,e1,bS,cF,ew,e2,bS,e3,bS];simp only[Tm.eta];rw[dF h3,cF,q1]
theorem zB :EO (z3w.ent λ_ _ _=>none):=λR xs H K r h=>by
 simp only[z3w.ent]at h;split at h<;>simp at h
theorem pD (hL:cI gL) (hO:dP gO) (hP:kL gP) (eL:EO (z34.ent gL)) (eO:EO (z3c.ent gO)) (eP:EO (z3d.ent gP)):∀k:Nat,k<=100->∃g,EO (z3w.ent g)/\∀c ops d,(Inv c/\3<=ops/\ops<=200/\ -1000<=d/\d<=(k:Int))->∃r,g c ops d=some r/\(r.1.total<=dj (k+1)/\Inv r.2)
 | 0, _ => jY (fun g hg => z3w.ok     (G := ⟨gO, gP, gL, ij, fun _ _ _ => none⟩) ⟨eO, eP, eL, dH, zB, trivial⟩ hg) fun c ops d ⟨hc, h1, h2, h3, h4⟩ => by
  obtain⟨t,c',q1,q2,q3⟩:=pP hL hO hP (gR:=λ_ _ _=>none) (k:=0) ops d ⟨h1,h2⟩ (λh=>by omega) 1 c hc;exact⟨(t,c'),⟨1,q1 _ _⟩,q2,q3⟩
 | k + 1, hk => by
  obtain⟨gR,eR,hR⟩:=pD hL hO hP eL eO eP k (by omega);exact jY (λg hg=>z3w.ok (G:=⟨gO,gP,gL,ij,gR⟩) ⟨eO,eP,eL,dH,eR,trivial⟩ hg) λc ops d ⟨hc,h1,h2,h3,h4⟩=>by
   obtain⟨t,c',q1,q2,q3⟩:=pP hL hO hP (gR:=gR) (k:=k+1) ops d ⟨h1,h2⟩ (λh c hc=>hR c ops (wr (d-1)) ⟨hc,h1,h2,by rw[ai ⟨by omega,by omega⟩];omega⟩) 1 c hc;exact⟨(t,c'),⟨1,q1 _ _⟩,q2,q3⟩
theorem Gn {R:Type} (n:Nat) (c:Cur) (ops d:Int) (K:Tm->Cur->Option R):z3x.main ⟨gO,gP,gL,ij,gR⟩ n c ops d K=z3w.main ⟨gO,gP,gL,ij,gR⟩ n c ops d K:=rfl
def Em (g:Cur->Int->Int->Option (Tm×Cur)):Prop:=∀c ops d,(Inv c/\3<=ops/\ops<=200/\ -1000<=d/\d<=3)->∃r,g c ops d=some r/\(r.1.total<=1000/\Inv r.2)
theorem wi (hL:cI gL) (hO:dP gO) (hP:kL gP) (eL:EO (z34.ent gL)) (eO:EO (z3c.ent gO)) (eP:EO (z3d.ent gP)):∃g,EO (z3x.ent g)/\Em g:=by
 obtain⟨gR,eR,hR⟩:=pD hL hO hP eL eO eP 2 (by omega);exact jY (λg hg=>z3x.ok (G:=⟨gO,gP,gL,ij,gR⟩) ⟨eO,eP,eL,dH,eR,trivial⟩ hg) λc ops d ⟨hc,h1,h2,h3,h4⟩=>by
  obtain⟨t,c',q1,q2,q3⟩:=pP hL hO hP (gR:=gR) (k:=3) ops d ⟨h1,h2⟩ (λh c hc=>hR c ops (wr (d-1)) ⟨hc,h1,h2,by rw[ai ⟨by omega,by omega⟩];omega⟩) 1 c hc;exact⟨(t,c'),⟨1,(Gn _ _ _ _ _).trans (q1 _ _)⟩,Nat.le_trans q2 (by decide),q3⟩
end
section
variable {gL : Cur → Int → Option (Int × Cur)} {gO : Cur → Int → Option (Bool × Cur)} {gP : Cur → List ByteArray → Option (ByteArray × Cur)} {gR : Cur → Sg → Int → Bool → Bool → Option (Tm × Cur)}
noncomputable abbrev g6 (gL:Cur->Int->Option (Int×Cur)) (gO:Cur->Int->Option (Bool×Cur)) (gP:Cur->List ByteArray->Option (ByteArray×Cur)) (gR:Cur->Sg->Int->Bool->Bool->Option (Tm×Cur)):z4i.Gs:=⟨gO,gP,ij,gL,gR⟩
theorem w6_8 (hL:cI gL) (hO:dP gO) (n:Nat) (list deep:Bool) (c:Cur) (hc:Inv c) (a:Int) (a2:ByteArray) (a3:Int) (l:List Tm):
  ∃c' o,(∀(R:Type) (k0:List Int->Int->Int->Int->ByteArray->Int->List Tm->Option R),z4i.c8 (g6 gL gO gP gR) n list deep c.b c.i c.h a a2 a3 l k0=k0 c'.b c'.i c'.h o ByteArray.empty 0 [])/\Inv c':=by
 have ec:Cur.mk c.b c.i c.h=c:=rfl;cases list with
 | false =>
  obtain⟨⟨x,c1⟩,e1,_,_,_,i1⟩:=hL c 2 ⟨hc,by omega⟩;refine⟨c1,x,λR k0=> ?_,i1⟩;unfold z4i.c8;dsimp only;rw[cF,ec,e1,bS]
 | true => cases deep with
  |false=>exact⟨c,2,λR k0=>rfl,hc⟩
  | true =>
   obtain⟨⟨q,c1⟩,e1,i1⟩:=hO c 2 ⟨hc,by omega⟩;cases q with
   | true =>
    refine⟨c1,2,λR k0=> ?_,i1⟩;unfold z4i.c8;dsimp only;rw[cT,Bool.not_true,cF,ec,e1,bS,cT]
   | false =>
    obtain⟨⟨x,c2⟩,e2,_,_,_,i2⟩:=hL c1 2 ⟨i1,by omega⟩;refine⟨c2,x,λR k0=> ?_,i2⟩;unfold z4i.c8;dsimp only;rw[cT,Bool.not_true,cF,ec,e1,bS,cF,e2,bS]
variable {s : Sg} {d : Int} {k : Nat}
theorem yX (hR:∀c v l,Inv c->∃r,gR c s (wr (d-1)) v l=some r/\(r.1.total<=dj k/\Inv r.2)) (n:Nat) (vars list:Bool) (op:Int) (c:Cur) (hc:Inv c) (a:Int) (a2:ByteArray) (a3:Int) (l:List Tm):
  ∃c' l',(∀(R:Type) (k0:List Int->Int->Int->ByteArray->Int->List Tm->Option R),z4i.c18 (g6 gL gO gP gR) n d vars list op c.b c.i c.h s.sorts.names s.sorts.subs s.ops a a2 a3 l k0=k0 c'.b c'.i c'.h ByteArray.empty 0 l')/\ae l'<=2+2*dj k/\Inv c':=by
 have ec:Cur.mk c.b c.i c.h=c:=rfl;have es:Sg.mk (So.mk s.sorts.names s.sorts.subs) s.ops=s:=rfl;obtain⟨⟨t,c1⟩,e1,t1,i1⟩:=hR c vars list hc;obtain⟨⟨t2,c2⟩,e2,t3,i2⟩:=hR c1 vars list i1;dsimp only at t1 t3;by_cases h3:3<op
 ·refine⟨c2,[t]++[t2],λR k0=> ?_,by rw[d8,bw,bw];omega,i2⟩;unfold z4i.c18;dsimp only;rw[ec,es,e1,bS,dT h3,cT,e2,bS];simp only[Tm.eta];rw[bQ (by simp),bS]
 ·refine⟨c1,[t],λR k0=> ?_,by rw[bw];omega,i1⟩;unfold z4i.c18;dsimp only;rw[ec,es,e1,bS,dF h3,cF];simp only[Tm.eta]
theorem DM (hR:∀c v l,Inv c->∃r,gR c s (wr (d-1)) v l=some r/\(r.1.total<=dj k/\Inv r.2)) (n:Nat) (vars list deep:Bool) (op:Int) (c:Cur) (hc:Inv c) (a:Int) (a2:ByteArray) (a3:Int) (l:List Tm):
  ∃c' o l',(∀(R:Type) (k0:List Int->Int->Int->Int->ByteArray->Int->List Tm->Option R),z4i.c16 (g6 gL gO gP gR) n d vars list deep op c.b c.i c.h s.sorts.names s.sorts.subs s.ops a a2 a3 l k0=k0 c'.b c'.i c'.h o ByteArray.empty 0 l')/\ae l'<=2+2*dj k/\Inv c':=by
 by_cases h5:op=5
 ·cases deep with
  | false =>
   obtain⟨c',l',q1,q2,q3⟩:=yX (gL:=gL) (gO:=gO) (gP:=gP) hR n vars list 4 c hc a a2 a3 l;refine⟨c',4,l',λR k0=> ?_,q2,q3⟩;unfold z4i.c16;rw[dT h5,cT,Bool.not_false,cT,q1]
  | true =>
   obtain⟨c',l',q1,q2,q3⟩:=yX (gL:=gL) (gO:=gO) (gP:=gP) hR n vars list op c hc a a2 a3 l;refine⟨c',op,l',λR k0=> ?_,q2,q3⟩;unfold z4i.c16;rw[dT h5,cT,Bool.not_true,cF,q1]
 ·obtain⟨c',l',q1,q2,q3⟩:=yX (gL:=gL) (gO:=gO) (gP:=gP) hR n vars list op c hc a a2 a3 l;refine⟨c',op,l',λR k0=> ?_,q2,q3⟩;unfold z4i.c16;rw[dF h5,cF,q1]
theorem Gp (hL:cI gL) (ho:s.ops.length<=200) (hR:∀c v l,Inv c->∃r,gR c s (wr (d-1)) v l=some r/\(r.1.total<=dj k/\Inv r.2)) (n:Nat) (vars list deep:Bool) (c:Cur) (hc:Inv c) (a:Int) (a2:ByteArray) (a3:Int) (l:List Tm):
  ∃c' o l',(∀(R:Type) (k0:List Int->Int->Int->Int->ByteArray->Int->List Tm->Option R),z4i.c13 (g6 gL gO gP gR) n d vars list deep c.b c.i c.h s.sorts.names s.sorts.subs s.ops a a2 a3 l k0=k0 c'.b c'.i c'.h o ByteArray.empty 0 l')/\ae l'<=2+2*dj k/\Inv c':=by
 have ec:Cur.mk c.b c.i c.h=c:=rfl;have ew:wr ((List.length s.ops:Int)-3)=(List.length s.ops:Int)-3:=ai ⟨by omega,by omega⟩;obtain⟨⟨x,c1⟩,e1,_,_,_,i1⟩:=hL c ((List.length s.ops:Int)-3) ⟨hc,by omega⟩;cases list with
 | true =>
  obtain⟨c',o,l',q1,q2,q3⟩:=DM (gL:=gL) (gO:=gO) (gP:=gP) hR n vars true deep 5 c1 i1 a a2 a3 l;refine⟨c',o,l',λR k0=> ?_,q2,q3⟩;unfold z4i.c13;dsimp only;rw[ec,ew,e1,bS,cT,q1]
 | false =>
  obtain⟨c',o,l',q1,q2,q3⟩:=DM (gL:=gL) (gO:=gO) (gP:=gP) hR n vars false deep (wr (3+x)) c1 i1 a a2 a3 l;refine⟨c',o,l',λR k0=> ?_,q2,q3⟩;unfold z4i.c13;dsimp only;rw[ec,ew,e1,bS,cF,q1]
theorem w6_7 (hL:cI gL) (hO:dP gO) (ho:s.ops.length<=200) (hR:0<d->∀c v l,Inv c->∃r,gR c s (wr (d-1)) v l=some r/\(r.1.total<=dj k/\Inv r.2)) (n:Nat) (vars list deep:Bool) (c:Cur) (hc:Inv c) (a:Int) (a2:ByteArray) (a3:Int) (l:List Tm):
  ∃c' o l',(∀(R:Type) (k0:List Int->Int->Int->Int->ByteArray->Int->List Tm->Option R),z4i.c7 (g6 gL gO gP gR) n d vars list deep c.b c.i c.h s.sorts.names s.sorts.subs s.ops a a2 a3 l k0=k0 c'.b c'.i c'.h o ByteArray.empty 0 l')/\ae l'<=2+2*dj k/\Inv c':=by
 have ec:Cur.mk c.b c.i c.h=c:=rfl;have es:Sg.mk (So.mk s.sorts.names s.sorts.subs) s.ops=s:=rfl;have e0:ae []=0:=rfl;by_cases hd:d<=0
 ·obtain⟨c',o,q1,q2⟩:=w6_8 (gP:=gP) (gR:=gR) hL hO n list deep c hc a a2 a3 l;refine⟨c',o,[],λR k0=> ?_,by omega,q2⟩;unfold z4i.c7;rw[dT hd,cT,q1]
 ·have hR:=hR (by omega);obtain⟨⟨q,c1⟩,e1,i1⟩:=hO c 5 ⟨hc,by omega⟩;cases q with
  | true =>
   obtain⟨c',o,q1,q2⟩:=w6_8 (gP:=gP) (gR:=gR) hL hO n list deep c1 i1 a a2 a3 l;refine⟨c',o,[],λR k0=> ?_,by omega,q2⟩;unfold z4i.c7;dsimp only;rw[dF hd,cF,ec,e1,bS,cT,q1]
  | false =>
   obtain⟨c',o,l',q1,q2,q3⟩:=Gp (gO:=gO) (gP:=gP) hL ho hR n vars list deep c1 i1 a a2 a3 l;have gen:(bif list then bif !deep then true else false else false)=false->∃c' o l',(∀(R:Type) (k0:List Int->Int->Int->Int->ByteArray->Int->List Tm->Option R),z4i.c7 (g6 gL gO gP gR) n d vars list deep c.b c.i c.h s.sorts.names s.sorts.subs s.ops a a2 a3 l k0=k0 c'.b c'.i c'.h o ByteArray.empty 0 l')/\ae l'<=2+2*dj k/\Inv c':=λhb=>by
    refine⟨c',o,l',λR k0=> ?_,q2,q3⟩;unfold z4i.c7;dsimp only;rw[dF hd,cF,ec,e1,bS,cF];cases list with
    |false=>rw[cF,q1]
    | true => cases deep with
     |true=>rw[cT,Bool.not_true,cF,q1]
     |false=>cases hb
   cases list with
   |false=>exact gen rfl
   | true => cases deep with
    |true=>exact gen rfl
    | false =>
     obtain⟨⟨t,c2⟩,e2,t2,i2⟩:=hR c1 vars false i1;obtain⟨⟨t',c3⟩,e3,t3,i3⟩:=hR c2 vars true i2;dsimp only at t2 t3;refine⟨c3,5,[t,t'],λR k0=> ?_,by rw[show [t,t']=[t]++[t']from rfl,d8,bw,bw];omega,i3⟩;unfold z4i.c7;dsimp only;rw[dF hd,cF,ec,e1,bS,cF,cT,Bool.not_false,cT,es,e2,bS,e3,bS];simp only[Tm.eta]
theorem v7 (hL:cI gL) (hO:dP gO) (hP:kL gP) (ho:s.ops.length<=200) (hR:0<d->∀c v l,Inv c->∃r,gR c s (wr (d-1)) v l=some r/\(r.1.total<=dj k/\Inv r.2)) (n:Nat) (vars list:Bool) (c:Cur) (hc:Inv c):
  ∃t c',(∀(R:Type) (K:Tm->Cur->Option R),z4i.main (g6 gL gO gP gR) n c s d vars list K=K t c')/\t.total<=dj (k+1)/\Inv c':=by
 have ez:ByteArray.empty.size=0:=rfl;cases vars with
 | false =>
  obtain⟨c',o,l',q1,q2,q3⟩:=w6_7 (gP:=gP) hL hO ho hR n false list (decide (1<(List.length s.sorts.subs:Int))) c hc 0 ByteArray.empty 0 [];refine⟨Tm.mk o ByteArray.empty 0 l',c',λR K=> ?_,by rw[bC];unfold dj;omega,q3⟩;unfold z4i.main;rw[cF,q1]
 | true =>
  obtain⟨⟨q,c1⟩,e1,i1⟩:=hO c 3 ⟨hc,by omega⟩;cases q with
  | false =>
   obtain⟨c',o,l',q1,q2,q3⟩:=w6_7 (gP:=gP) hL hO ho hR n true list (decide (1<(List.length s.sorts.subs:Int))) c1 i1 0 ByteArray.empty 0 [];refine⟨Tm.mk o ByteArray.empty 0 l',c',λR K=> ?_,by rw[bC];unfold dj;omega,q3⟩;unfold z4i.main;dsimp only;rw[cT,e1,bS,cF,q1]
  | true =>
   obtain⟨⟨nm,c2⟩,e2,m2,i2⟩:=hP c1 xyz ⟨i1,by simp,by simp⟩;have hz:nm.size=1:=rm m2;have e0:ae []=0:=rfl;cases list with
   | true =>
    refine⟨Tm.mk (-1) nm 2 [],c2,λR K=> ?_,by rw[bC,e0];unfold dj;omega,i2⟩;unfold z4i.main;dsimp only;rw[cT,e1,bS,cT,e2,bS,cT];rfl
   | false =>
    obtain⟨⟨x,c3⟩,e3,_,_,_,i3⟩:=hL c2 2 ⟨i2,by omega⟩;refine⟨Tm.mk (-1) nm x [],c3,λR K=> ?_,by rw[bC,e0];unfold dj;omega,i3⟩;unfold z4i.main;dsimp only;rw[cT,e1,bS,cT,e2,bS,cF,e3,bS];rfl
end
def Dv (k:Nat) (g:Cur->Sg->Int->Bool->Bool->Option (Tm×Cur)):Prop:=∀c s d v l,(Inv c/\s.ops.length<=200/\ -1000<=d/\d<=(k:Int))->∃r,g c s d v l=some r/\(r.1.total<=dj (k+1)/\Inv r.2)
theorem xv :EO (z4i.ent λ_ _ _ _ _=>none):=λR xs H K r h=>by
 simp only[z4i.ent]at h;split at h<;>simp at h
theorem mK {gL:Cur->Int->Option (Int×Cur)} {gO:Cur->Int->Option (Bool×Cur)} {gP:Cur->List ByteArray->Option (ByteArray×Cur)} (hL:cI gL) (hO:dP gO) (hP:kL gP) (eL:EO (z34.ent gL)) (eO:EO (z3c.ent gO)) (eP:EO (z3d.ent gP)):∀k:Nat,k<=100->∃g,EO (z4i.ent g)/\Dv k g
 | 0, _ => rk (fun g hg => z4i.ok      (G := g6 gL gO gP fun _ _ _ _ _ => none) ⟨eO, eP, dH, eL, xv, trivial⟩ hg) fun c s d v l ⟨hc, h1, h2, h3⟩ => by
  obtain⟨t,c',q1,q2,q3⟩:=v7 (gR:=λ_ _ _ _ _=>none) (k:=0) (d:=d) hL hO hP h1 (λh=>by omega) 1 v l c hc;exact⟨(t,c'),⟨1,q1 _ _⟩,q2,q3⟩
 | k + 1, hk => by
  obtain⟨gR,eR,hR⟩:=mK hL hO hP eL eO eP k (by omega);exact rk (λg hg=>z4i.ok (G:=g6 gL gO gP gR) ⟨eO,eP,dH,eL,eR,trivial⟩ hg) λc s d v l ⟨hc,h1,h2,h3⟩=>by
   obtain⟨t,c',q1,q2,q3⟩:=v7 (gR:=gR) (k:=k+1) (d:=d) hL hO hP h1 (λh c v l hc=>hR c s (wr (d-1)) v l ⟨hc,h1,by rw[ai ⟨by omega,by omega⟩];omega⟩) 1 v l c hc;exact⟨(t,c'),⟨1,q1 _ _⟩,q2,q3⟩
def R6P (g:Cur->Sg->Int->Bool->Option (Tm×Cur)):Prop:=∀c s d v,(Inv c/\s.ops.length<=200/\ -1000<=d/\d<=3)->∃r,g c s d v=some r/\(r.1.total<=900/\Inv r.2)
theorem AF {gO:Cur->Int->Option (Bool×Cur)} {gW:Cur->Sg->Int->Bool->Bool->Option (Tm×Cur)} (hO:dP gO) (hW:Dv 3 gW) (eO:EO (z3c.ent gO)) (eW:EO (z4i.ent gW)):∃g,EO (z4d.ent g)/\R6P g:=
 sM (λg hg=>z4d.ok (G:=⟨gO,gW⟩) ⟨eO,eW,trivial⟩ hg) λc s d v ⟨hc,h1,h2,h3⟩=>by
  have hw:∀c l,Inv c->∃r,gW c s d v l=some r/\(r.1.total<=900/\Inv r.2):=λc l hc=>by
   obtain⟨r,e,t,i⟩:=hW c s d v l ⟨hc,h1,h2,h3⟩;exact⟨r,e,Nat.le_trans t (by decide),i⟩
  by_cases hs:1<(List.length s.sorts.subs:Int)
  ·obtain⟨⟨q,c1⟩,e1,i1⟩:=hO c 2 ⟨hc,by omega⟩;obtain⟨r,e2,t2,i2⟩:=hw c1 q i1;refine⟨r,⟨1,?_⟩,t2,i2⟩;unfold z4d.main;dsimp only;rw[dT hs,cT,e1,bS];cases q with
   |true=>rw[cT,e2,bS]
   |false=>rw[cF,Bool.not_true,cF,e2,bS]
  ·obtain⟨⟨q,c1⟩,e1,i1⟩:=hO c 3 ⟨hc,by omega⟩;obtain⟨r,e2,t2,i2⟩:=hw c1 q i1;refine⟨r,⟨1,?_⟩,t2,i2⟩;unfold z4d.main;dsimp only;rw[dF hs,cF,Bool.not_false,cT,e1,bS,e2,bS]
end Go.Proofs.YtfdkldmkbibknaaGreat.Den

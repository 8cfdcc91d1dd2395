import Derived.Test.YtfdkldmkbibknaaGreatZRowTx12
namespace Go.Proofs.YtfdkldmkbibknaaGreat.Den
open Go.RowKit
set_option maxRecDepth 100000
set_option linter.unusedVariables false
namespace z3r
structure Gs where
 none_:Unit
noncomputable def main {R:Type} (G:Gs) (n:Nat) (name:ByteArray) (result:Int) (args:LI) (K:Opr->Option R):Option R:=
 K (Opr.mk name [(Dc.mk args result)] false false 0)
theorem ok {G:Gs} (hG:AE []) {g:Q} (hg:∀name result args r,g name result args=some r->∃n,main (R:=AT×List Ob) G n name result args (λr0=>some (.agg [.s r0.name,.l (.n 7) r0.decls,.b r0.assoc,.b r0.comm,.i r0.unit],[]))=some (.agg [.s r.name,.l (.n 7) r.decls,.b r.assoc,.b r.comm,.i r.unit],[])):EO (ent g):=λR xs H K r hc=>by
 simp only[ent]at hc;split at hc
 ·exact okL hc λr j=>let⟨_,j⟩:=hg _ _ _ _ j;fF hG ⟨13,0,[],[],[6],[],[]⟩ nP Tryz.func141 j
 ·cases hc
end z3r
namespace z3q
structure Gs where
 none_:Unit
noncomputable def main {R:Type} (G:Gs) (n:Nat) (name:ByteArray) (result:Int) (args:LI) (K:Opr->Option R):Option R:=
 K (Opr.mk name [(Dc.mk args result)] false false 0)
theorem ok {G:Gs} (hG:AE []) {g:Q} (hg:∀name result args r,g name result args=some r->∃n,main (R:=AT×List Ob) G n name result args (λr0=>some (.agg [.s r0.name,.o 0,.b r0.assoc,.b r0.comm,.i r0.unit],[.row (.n 7) 0 r0.decls]))=some (.agg [.s r.name,.o 0,.b r.assoc,.b r.comm,.i r.unit],[.row (.n 7) 0 r.decls])):EO (ent g):=λR xs H K r hc=>by
 simp only[ent]at hc;split at hc
 ·exact okL hc λr j=>let⟨_,j⟩:=hg _ _ _ _ j;fR hG ⟨13,0,[],[],[6],[],[]⟩ nP Tryz.func141 j
 ·cases hc
end z3q
namespace z3o
structure Gs where
 z3c:z3c.Q
 z3r:z3r.Q
 z3q:z3q.Q
noncomputable def ac (G:Gs):List Ent:=[z3c.ent G.z3c,CG 102 (z3r.ent G.z3r) (z3q.ent G.z3q)]
noncomputable def c28 {R:Type} (G:Gs) (n:Nat) (h0:LI) (h02 h03:Int) (h2:LB) (h3:LS) (h4:LO) (h6:LB) (h7:LS) (h8:LO) (h9:ByteArray) (h92 h93:Bool) (h94:Int) (h10:LD) (k0:LO->Option R):Option R:=
 (lim (h8++[(Opr.mk h9 h10 h92 h93 h94)])).bind λzs=>
 k0 zs
noncomputable def c21 {R:Type} (G:Gs) (n:Nat) (h0:LI) (h02 h03:Int) (h2:LB) (h3:LS) (h4:LO) (h6:LB) (h7:LS) (h8:LO) (h9:ByteArray) (h92 h93:Bool) (h94:Int) (h10:LD) (k0:LI->Int->Int->LO->Option R):Option R:=
 (lim (h8++[(Opr.mk h9 h10 h92 h93 h94)])).bind λzs=>
 (G.z3c (Cur.mk h0 h02 h03) 3).bind λr=>
 bif r.1 then
  (
  (G.z3q (ByteArray.mk #[109]) 0 [0,0]).bind λr2=>
  (G.z3c r.2 2).bind λr3=>
  bif r3.1 then
   (
   c28 G n (Cur.b r3.2) (Cur.i r3.2) (Cur.h r3.2) h2 h3 h4 h6 h7 zs r2.name true true 1 r2.decls
    (λh82=>k0 (Cur.b r3.2) (Cur.i r3.2) (Cur.h r3.2) h82)
   )
  else
   c28 G n (Cur.b r3.2) (Cur.i r3.2) (Cur.h r3.2) h2 h3 h4 h6 h7 zs r2.name true true r2.unit r2.decls
    (λh822=>k0 (Cur.b r3.2) (Cur.i r3.2) (Cur.h r3.2) h822)
  )
 else
  k0 (Cur.b r.2) (Cur.i r.2) (Cur.h r.2) zs
noncomputable def c9 {R:Type} (G:Gs) (n:Nat) (deep:Bool) (h0:LI) (h02 h03:Int) (h2:LB) (h3:LS) (h4:LO) (h6:LB) (h7:LS) (h8:LO) (h9:ByteArray) (h92 h93:Bool) (h94:Int) (h10:LD) (k0:LI->Int->Int->LO->Option R):Option R:=
 (lim (h8++[(Opr.mk h9 h10 h92 h93 h94)])).bind λzs=>
 (G.z3q (ByteArray.mk #[104]) 0 [0,0]).bind λr=>
 (G.z3c (Cur.mk h0 h02 h03) 2).bind λr2=>
 (lim (zs++[(Opr.mk r.name r.decls r.assoc r2.1 r.unit)])).bind λzs2=>
 (G.z3q (ByteArray.mk #[102]) 2 [2,2]).bind λr3=>
 bif deep then
  (
  (lim (r3.decls++[(Dc.mk [1,1] 1)])).bind λzs3=>
  (G.z3c r2.2 2).bind λr4=>
  (G.z3c r4.2 2).bind λr5=>
  (G.z3c r5.2 2).bind λr6=>
  bif r6.1 then
   (
   c21 G n (Cur.b r6.2) (Cur.i r6.2) (Cur.h r6.2) h2 h3 h4 h6 h7 zs2 r3.name r4.1 r5.1 3 zs3
    (λh04 h05 h06 h42=>k0 h04 h05 h06 h42)
   )
  else
   c21 G n (Cur.b r6.2) (Cur.i r6.2) (Cur.h r6.2) h2 h3 h4 h6 h7 zs2 r3.name r4.1 r5.1 r3.unit zs3
    (λh042 h052 h062 h422=>k0 h042 h052 h062 h422)
  )
 else
  (ix r3.decls 0).bind λe=>
  c21 G n (Cur.b r2.2) (Cur.i r2.2) (Cur.h r2.2) h2 h3 h4 h6 h7 zs2 r3.name r3.assoc r3.comm r3.unit (List.set r3.decls (Int.toNat 0) (Dc.mk [0,2] e.result))
   (λh043 h053 h063 h423=>k0 h043 h053 h063 h423)
noncomputable def c6 {R:Type} (G:Gs) (n:Nat) (deep:Bool) (h0:LI) (h02 h03:Int) (h2:LB) (h3:LS) (h4:LO) (h6:LB) (h7:LS) (h8:LO) (k0:LI->Int->Int->LO->Option R):Option R:=
 (G.z3q (ByteArray.mk #[103]) 1 [0]).bind λr=>
 (G.z3c (Cur.mk h0 h02 h03) 2).bind λr2=>
 bif r2.1 then
  (
  (lim (r.decls++[(Dc.mk [1] 1)])).bind λzs=>
  c9 G n deep (Cur.b r2.2) (Cur.i r2.2) (Cur.h r2.2) h2 h3 h4 h6 h7 h8 r.name r.assoc r.comm r.unit zs
   (λh04 h05 h06 h42=>k0 h04 h05 h06 h42)
  )
 else
  c9 G n deep (Cur.b r2.2) (Cur.i r2.2) (Cur.h r2.2) h2 h3 h4 h6 h7 h8 r.name r.assoc r.comm r.unit r.decls
   (λh042 h052 h062 h422=>k0 h042 h052 h062 h422)
noncomputable def c4 {R:Type} (G:Gs) (n:Nat) (h0:LI) (h02 h03:Int) (h2:LB) (h3:LS) (h4:LO) (h6:LB) (h7:LS) (h8:LO) (k0:LI->Int->Int->LO->Option R):Option R:=
 (G.z3r (ByteArray.mk #[97]) 0 []).bind λr4=>
 (G.z3r (ByteArray.mk #[98]) 1 []).bind λr5=>
 (G.z3r (ByteArray.mk #[101]) 2 []).bind λr6=>
 (lim (h8++[r4,r5,r6])).bind λzs2=>
 c6 G n (decide (1<(List.length h7:Int))) h0 h02 h03 h2 h3 h4 h6 h7 zs2
  (λh042 h052 h062 h422=>k0 h042 h052 h062 h422)
noncomputable def main {R:Type} (G:Gs) (n:Nat) (c:Cur) (K:Sg->Cur->Option R):Option R:=
 (G.z3c c 2).bind λr=>
 bif r.1 then
  (
  (lim ([(Sb.mk 1 0)]++[(Sb.mk 0 2)])).bind λzs=>
  c4 G n (Cur.b r.2) (Cur.i r.2) (Cur.h r.2) [] [] [] [(ByteArray.mk #[78]),(ByteArray.mk #[80]),(ByteArray.mk #[76])] zs []
   (λh04 h05 h06 h42=>K (Sg.mk (So.mk [(ByteArray.mk #[78]),(ByteArray.mk #[80]),(ByteArray.mk #[76])] zs) h42) (Cur.mk h04 h05 h06))
  )
 else
  c4 G n (Cur.b r.2) (Cur.i r.2) (Cur.h r.2) [] [] [] [(ByteArray.mk #[78]),(ByteArray.mk #[80]),(ByteArray.mk #[76])] [(Sb.mk 1 0)] []
   (λh042 h052 h062 h422=>K (Sg.mk (So.mk [(ByteArray.mk #[78]),(ByteArray.mk #[80]),(ByteArray.mk #[76])] [(Sb.mk 1 0)]) h422) (Cur.mk h042 h052 h062))
noncomputable def tq (G:Gs) (n:Nat) (R:Type) (st:St) (K:Kt R):Option R:=match st with
 |⟨[(2,.one (.p 1 0)),(3,.one (.p 5 0)),(8,.one (.p 9 0))],[.box [.l .u h0,.i h02,.i h03],.box [.o 2,.o 3,.o 4],.row .s 0 h2,.row (.n 5) 0 h3,.row (.n 8) 0 h4,.box [.o 6,.o 7,.o 8],.row .s 0 h6,.row (.n 5) 0 h7,.row (.n 8) 0 h8,.box [.s h9,.o 10,.b h92,.b h93,.i h94],.row (.n 7) 0 h10]⟩=>c28 G n h0 h02 h03 h2 h3 h4 h6 h7 h8 h9 h92 h93 h94 h10 (λh82=>K .normal ⟨[(2,.one (.p 1 0)),(3,.one (.p 5 0))],[.box [.l .u h0,.i h02,.i h03],.box [.o 2,.o 3,.o 4],.row .s 0 h2,.row (.n 5) 0 h3,.row (.n 8) 0 h4,.box [.o 6,.o 7,.o 8],.row .s 0 h6,.row (.n 5) 0 h7,.row (.n 8) 0 h82]⟩)
 |_=>none
noncomputable def gQ (G:Gs) (n:Nat) (R:Type) (st:St) (K:Kt R):Option R:=match st with
 |⟨[(0,.one (.p 0 0)),(2,.one (.p 1 0)),(3,.one (.p 5 0)),(7,.one (.p 9 0))],[.box [.l .u h0,.i h02,.i h03],.box [.o 2,.o 3,.o 4],.row .s 0 h2,.row (.n 5) 0 h3,.row (.n 8) 0 h4,.box [.o 6,.o 7,.o 8],.row .s 0 h6,.row (.n 5) 0 h7,.row (.n 8) 0 h8,.box [.s h9,.o 10,.b h92,.b h93,.i h94],.row (.n 7) 0 h10]⟩=>c21 G n h0 h02 h03 h2 h3 h4 h6 h7 h8 h9 h92 h93 h94 h10 (λh04 h05 h06 h42=>K .ret ⟨[(2,.one (.p 1 0))],[.box [.l .u h04,.i h05,.i h06],.box [.o 2,.o 3,.o 4],.row .s 0 h6,.row (.n 5) 0 h7,.row (.n 8) 0 h42]⟩)
 |_=>none
noncomputable def dc9 (G:Gs) (n:Nat) (R:Type) (st:St) (K:Kt R):Option R:=match st with
 |⟨[(0,.one (.p 0 0)),(2,.one (.p 1 0)),(3,.one (.p 5 0)),(4,.one (.b deep)),(5,.one (.p 9 0))],[.box [.l .u h0,.i h02,.i h03],.box [.o 2,.o 3,.o 4],.row .s 0 h2,.row (.n 5) 0 h3,.row (.n 8) 0 h4,.box [.o 6,.o 7,.o 8],.row .s 0 h6,.row (.n 5) 0 h7,.row (.n 8) 0 h8,.box [.s h9,.o 10,.b h92,.b h93,.i h94],.row (.n 7) 0 h10]⟩=>c9 G n deep h0 h02 h03 h2 h3 h4 h6 h7 h8 h9 h92 h93 h94 h10 (λh04 h05 h06 h42=>K .ret ⟨[(2,.one (.p 1 0))],[.box [.l .u h04,.i h05,.i h06],.box [.o 2,.o 3,.o 4],.row .s 0 h6,.row (.n 5) 0 h7,.row (.n 8) 0 h42]⟩)
 |_=>none
noncomputable def dc6 (G:Gs) (n:Nat) (R:Type) (st:St) (K:Kt R):Option R:=match st with
 |⟨[(0,.one (.p 0 0)),(2,.one (.p 1 0)),(3,.one (.p 5 0)),(4,.one (.b deep))],[.box [.l .u h0,.i h02,.i h03],.box [.o 2,.o 3,.o 4],.row .s 0 h2,.row (.n 5) 0 h3,.row (.n 8) 0 h4,.box [.o 6,.o 7,.o 8],.row .s 0 h6,.row (.n 5) 0 h7,.row (.n 8) 0 h8]⟩=>c6 G n deep h0 h02 h03 h2 h3 h4 h6 h7 h8 (λh04 h05 h06 h42=>K .ret ⟨[(2,.one (.p 1 0))],[.box [.l .u h04,.i h05,.i h06],.box [.o 2,.o 3,.o 4],.row .s 0 h6,.row (.n 5) 0 h7,.row (.n 8) 0 h42]⟩)
 |_=>none
noncomputable def dc4 (G:Gs) (n:Nat) (R:Type) (st:St) (K:Kt R):Option R:=match st with
 |⟨[(0,.one (.p 0 0)),(2,.one (.p 1 0)),(3,.one (.p 5 0))],[.box [.l .u h0,.i h02,.i h03],.box [.o 2,.o 3,.o 4],.row .s 0 h2,.row (.n 5) 0 h3,.row (.n 8) 0 h4,.box [.o 6,.o 7,.o 8],.row .s 0 h6,.row (.n 5) 0 h7,.row (.n 8) 0 h8]⟩=>c4 G n h0 h02 h03 h2 h3 h4 h6 h7 h8 (λh04 h05 h06 h42=>K .ret ⟨[(2,.one (.p 1 0))],[.box [.l .u h04,.i h05,.i h06],.box [.o 2,.o 3,.o 4],.row .s 0 h6,.row (.n 5) 0 h7,.row (.n 8) 0 h42]⟩)
 |_=>none
noncomputable def pc (G:Gs) (n:Nat):Pcs:=⟨nK,λR id st K=>bif Nat.beq id 28 then tq G n R st K else bif Nat.beq id 21 then gQ G n R st K else bif Nat.beq id 9 then dc9 G n R st K else bif Nat.beq id 6 then dc6 G n R st K else bif Nat.beq id 4 then dc4 G n R st K else none,nK⟩
noncomputable def an:Ann:=⟨111,1,[],[(28,[2,3,8]),(21,[0,2,3,7]),(9,[0,2,3,4,5]),(6,[0,2,3,4]),(4,[0,2,3])],[2],[(5,⟨[([2,3,4,0,1,5,6,7,8],[2,3,4,6,8],[1])],[2,3,4,6,8],[],[0,1,2,3,4,6,7],[]⟩)],[]⟩
noncomputable abbrev bd:=aj Tryz.f121
noncomputable abbrev q28:=ak [1,1,1,1,1,1,1,1,1,1,1,1,1,1,0,1,0,1,1,1,1] bd
noncomputable abbrev q21:=ak [1,1,1,1,1,1,1,1,1,1,1,1,1] bd
noncomputable abbrev q9:=ak [1,1,1,1,1,1,1] bd
noncomputable abbrev q6:=ak [1,1,1,1,1] bd
noncomputable abbrev q4:=ak [1,1,1] bd
theorem F0 {G:Gs} (hG:AE (ac G)) {n:Nat}:PO an q28 (tq G n):=cpc hG (pc G n) ⟨[2,3],[2],[]⟩ (apl [] trivial) λR st K r h=>by unfold tq at h;split at h;exact .trans (by kernel_rfl) h;cases h
theorem qw {G:Gs} (hG:AE (ac G)) {n:Nat}:PO an q21 (gQ G n):=cpc hG (pc G n) ⟨[],[2],[]⟩ (apl [(0,28,q28)] ⟨F0 hG,trivial⟩) λR st K r h=>by unfold gQ at h;split at h;exact .trans (by kernel_rfl) h;cases h
theorem pc9 {G:Gs} (hG:AE (ac G)) {n:Nat}:PO an q9 (dc9 G n):=cpc hG (pc G n) ⟨[],[2],[]⟩ (apl [(0,21,q21)] ⟨qw hG,trivial⟩) λR st K r h=>by unfold dc9 at h;split at h;exact .trans (by kernel_rfl) h;cases h
theorem pc6 {G:Gs} (hG:AE (ac G)) {n:Nat}:PO an q6 (dc6 G n):=cpc hG (pc G n) ⟨[],[2],[]⟩ (apl [(0,9,q9)] ⟨pc9 hG,trivial⟩) λR st K r h=>by unfold dc6 at h;split at h;exact .trans (by kernel_rfl) h;cases h
theorem pc4 {G:Gs} (hG:AE (ac G)) {n:Nat}:PO an q4 (dc4 G n):=cpc hG (pc G n) ⟨[],[2],[]⟩ (apl [(0,6,q6)] ⟨pc6 hG,trivial⟩) λR st K r h=>by unfold dc4 at h;split at h;exact .trans (by kernel_rfl) h;cases h
theorem ok {G:Gs} (hG:AE (ac G)) {g:Q} (hg:∀c r,g c=some r->∃n,main (R:=AT×List Ob) G n c (λr0 r1=>some (.agg [.o 1,.o 2,.o 3],[.box [.l .u (Cur.b r1),.i (Cur.i r1),.i (Cur.h r1)],.row .s 0 r0.sorts.names,.row (.n 5) 0 r0.sorts.subs,.row (.n 8) 0 r0.ops]))=some (.agg [.o 1,.o 2,.o 3],[.box [.l .u (Cur.b r.2),.i (Cur.i r.2),.i (Cur.h r.2)],.row .s 0 r.1.sorts.names,.row (.n 5) 0 r.1.sorts.subs,.row (.n 8) 0 r.1.ops])):EO (ent g):=λR xs H K r hc=>by
 simp only[ent]at hc;split at hc
 ·exact okL hc λr j=>let⟨n,j⟩:=hg _ _ j;fR hG an (pc G n) Tryz.func121 j (apl [(0,4,q4)] ⟨pc4 hG,trivial⟩)
 ·cases hc
end z3o
namespace z3n
structure Gs where
 z3c:z3c.Q
 z3r:z3r.Q
 z3q:z3q.Q
noncomputable def ac (G:Gs):List Ent:=[z3c.ent G.z3c,CG 102 (z3r.ent G.z3r) (z3q.ent G.z3q)]
noncomputable def c28 {R:Type} (G:Gs) (n:Nat) (h0:LI) (h02 h03:Int) (h2:LB) (h3:LS) (h4:LO) (h6:LB) (h7:LS) (h8:LO) (h9:ByteArray) (h92 h93:Bool) (h94:Int) (h10:LD) (k0:LO->Option R):Option R:=
 (lim (h8++[(Opr.mk h9 h10 h92 h93 h94)])).bind λzs=>
 k0 zs
noncomputable def c21 {R:Type} (G:Gs) (n:Nat) (h0:LI) (h02 h03:Int) (h2:LB) (h3:LS) (h4:LO) (h6:LB) (h7:LS) (h8:LO) (h9:ByteArray) (h92 h93:Bool) (h94:Int) (h10:LD) (k0:LI->Int->Int->LO->Option R):Option R:=
 (lim (h8++[(Opr.mk h9 h10 h92 h93 h94)])).bind λzs=>
 (G.z3c (Cur.mk h0 h02 h03) 3).bind λr=>
 bif r.1 then
  (
  (G.z3q (ByteArray.mk #[109]) 0 [0,0]).bind λr2=>
  (G.z3c r.2 2).bind λr3=>
  bif r3.1 then
   (
   c28 G n (Cur.b r3.2) (Cur.i r3.2) (Cur.h r3.2) h2 h3 h4 h6 h7 zs r2.name true true 1 r2.decls
    (λh82=>k0 (Cur.b r3.2) (Cur.i r3.2) (Cur.h r3.2) h82)
   )
  else
   c28 G n (Cur.b r3.2) (Cur.i r3.2) (Cur.h r3.2) h2 h3 h4 h6 h7 zs r2.name true true r2.unit r2.decls
    (λh822=>k0 (Cur.b r3.2) (Cur.i r3.2) (Cur.h r3.2) h822)
  )
 else
  k0 (Cur.b r.2) (Cur.i r.2) (Cur.h r.2) zs
noncomputable def c9 {R:Type} (G:Gs) (n:Nat) (deep:Bool) (h0:LI) (h02 h03:Int) (h2:LB) (h3:LS) (h4:LO) (h6:LB) (h7:LS) (h8:LO) (h9:ByteArray) (h92 h93:Bool) (h94:Int) (h10:LD) (k0:LI->Int->Int->LO->Option R):Option R:=
 (lim (h8++[(Opr.mk h9 h10 h92 h93 h94)])).bind λzs=>
 (G.z3q (ByteArray.mk #[104]) 0 [0,0]).bind λr=>
 (G.z3c (Cur.mk h0 h02 h03) 2).bind λr2=>
 (lim (zs++[(Opr.mk r.name r.decls r.assoc r2.1 r.unit)])).bind λzs2=>
 (G.z3q (ByteArray.mk #[102]) 2 [2,2]).bind λr3=>
 bif deep then
  (
  (lim (r3.decls++[(Dc.mk [1,1] 1)])).bind λzs3=>
  (G.z3c r2.2 2).bind λr4=>
  (G.z3c r4.2 2).bind λr5=>
  (G.z3c r5.2 2).bind λr6=>
  bif r6.1 then
   (
   c21 G n (Cur.b r6.2) (Cur.i r6.2) (Cur.h r6.2) h2 h3 h4 h6 h7 zs2 r3.name r4.1 r5.1 3 zs3
    (λh04 h05 h06 h42=>k0 h04 h05 h06 h42)
   )
  else
   c21 G n (Cur.b r6.2) (Cur.i r6.2) (Cur.h r6.2) h2 h3 h4 h6 h7 zs2 r3.name r4.1 r5.1 r3.unit zs3
    (λh042 h052 h062 h422=>k0 h042 h052 h062 h422)
  )
 else
  (ix r3.decls 0).bind λe=>
  c21 G n (Cur.b r2.2) (Cur.i r2.2) (Cur.h r2.2) h2 h3 h4 h6 h7 zs2 r3.name r3.assoc r3.comm r3.unit (List.set r3.decls (Int.toNat 0) (Dc.mk [0,2] e.result))
   (λh043 h053 h063 h423=>k0 h043 h053 h063 h423)
noncomputable def c6 {R:Type} (G:Gs) (n:Nat) (deep:Bool) (h0:LI) (h02 h03:Int) (h2:LB) (h3:LS) (h4:LO) (h6:LB) (h7:LS) (h8:LO) (k0:LI->Int->Int->LO->Option R):Option R:=
 (G.z3q (ByteArray.mk #[103]) 1 [0]).bind λr=>
 (G.z3c (Cur.mk h0 h02 h03) 2).bind λr2=>
 bif r2.1 then
  (
  (lim (r.decls++[(Dc.mk [1] 1)])).bind λzs=>
  c9 G n deep (Cur.b r2.2) (Cur.i r2.2) (Cur.h r2.2) h2 h3 h4 h6 h7 h8 r.name r.assoc r.comm r.unit zs
   (λh04 h05 h06 h42=>k0 h04 h05 h06 h42)
  )
 else
  c9 G n deep (Cur.b r2.2) (Cur.i r2.2) (Cur.h r2.2) h2 h3 h4 h6 h7 h8 r.name r.assoc r.comm r.unit r.decls
   (λh042 h052 h062 h422=>k0 h042 h052 h062 h422)
noncomputable def c4 {R:Type} (G:Gs) (n:Nat) (h0:LI) (h02 h03:Int) (h2:LB) (h3:LS) (h4:LO) (h6:LB) (h7:LS) (h8:LO) (k0:LI->Int->Int->LO->Option R):Option R:=
 (G.z3r (ByteArray.mk #[97]) 0 []).bind λr4=>
 (G.z3r (ByteArray.mk #[98]) 1 []).bind λr5=>
 (G.z3r (ByteArray.mk #[101]) 2 []).bind λr6=>
 (lim (h8++[r4,r5,r6])).bind λzs2=>
 c6 G n (decide (1<(List.length h7:Int))) h0 h02 h03 h2 h3 h4 h6 h7 zs2
  (λh042 h052 h062 h422=>k0 h042 h052 h062 h422)
noncomputable def main {R:Type} (G:Gs) (n:Nat) (c:Cur) (K:Sg->Cur->Option R):Option R:=
 (G.z3c c 2).bind λr=>
 bif r.1 then
  (
  (lim ([(Sb.mk 1 0)]++[(Sb.mk 0 2)])).bind λzs=>
  c4 G n (Cur.b r.2) (Cur.i r.2) (Cur.h r.2) [] [] [] [(ByteArray.mk #[78]),(ByteArray.mk #[80]),(ByteArray.mk #[76])] zs []
   (λh04 h05 h06 h42=>K (Sg.mk (So.mk [(ByteArray.mk #[78]),(ByteArray.mk #[80]),(ByteArray.mk #[76])] zs) h42) (Cur.mk h04 h05 h06))
  )
 else
  c4 G n (Cur.b r.2) (Cur.i r.2) (Cur.h r.2) [] [] [] [(ByteArray.mk #[78]),(ByteArray.mk #[80]),(ByteArray.mk #[76])] [(Sb.mk 1 0)] []
   (λh042 h052 h062 h422=>K (Sg.mk (So.mk [(ByteArray.mk #[78]),(ByteArray.mk #[80]),(ByteArray.mk #[76])] [(Sb.mk 1 0)]) h422) (Cur.mk h042 h052 h062))
noncomputable def tq (G:Gs) (n:Nat) (R:Type) (st:St) (K:Kt R):Option R:=match st with
 |⟨[(2,.one (.p 1 0)),(3,.one (.p 5 0)),(8,.one (.p 9 0))],[.box [.l .u h0,.i h02,.i h03],.box [.o 2,.o 3,.o 4],.row .s 0 h2,.row (.n 5) 0 h3,.row (.n 8) 0 h4,.box [.o 6,.o 7,.o 8],.row .s 0 h6,.row (.n 5) 0 h7,.row (.n 8) 0 h8,.box [.s h9,.o 10,.b h92,.b h93,.i h94],.row (.n 7) 0 h10]⟩=>c28 G n h0 h02 h03 h2 h3 h4 h6 h7 h8 h9 h92 h93 h94 h10 (λh82=>K .normal ⟨[(2,.one (.p 1 0)),(3,.one (.p 5 0))],[.box [.l .u h0,.i h02,.i h03],.box [.o 2,.o 3,.o 4],.row .s 0 h2,.row (.n 5) 0 h3,.row (.n 8) 0 h4,.box [.o 6,.o 7,.o 8],.row .s 0 h6,.row (.n 5) 0 h7,.row (.n 8) 0 h82]⟩)
 |_=>none
noncomputable def gQ (G:Gs) (n:Nat) (R:Type) (st:St) (K:Kt R):Option R:=match st with
 |⟨[(0,.one (.p 0 0)),(2,.one (.p 1 0)),(3,.one (.p 5 0)),(7,.one (.p 9 0))],[.box [.l .u h0,.i h02,.i h03],.box [.o 2,.o 3,.o 4],.row .s 0 h2,.row (.n 5) 0 h3,.row (.n 8) 0 h4,.box [.o 6,.o 7,.o 8],.row .s 0 h6,.row (.n 5) 0 h7,.row (.n 8) 0 h8,.box [.s h9,.o 10,.b h92,.b h93,.i h94],.row (.n 7) 0 h10]⟩=>c21 G n h0 h02 h03 h2 h3 h4 h6 h7 h8 h9 h92 h93 h94 h10 (λh04 h05 h06 h42=>K .ret ⟨[(2,.one (.p 1 0))],[.box [.l .u h04,.i h05,.i h06],.box [.o 2,.o 3,.o 4],.row .s 0 h6,.row (.n 5) 0 h7,.row (.n 8) 0 h42]⟩)
 |_=>none
noncomputable def dc9 (G:Gs) (n:Nat) (R:Type) (st:St) (K:Kt R):Option R:=match st with
 |⟨[(0,.one (.p 0 0)),(2,.one (.p 1 0)),(3,.one (.p 5 0)),(4,.one (.b deep)),(5,.one (.p 9 0))],[.box [.l .u h0,.i h02,.i h03],.box [.o 2,.o 3,.o 4],.row .s 0 h2,.row (.n 5) 0 h3,.row (.n 8) 0 h4,.box [.o 6,.o 7,.o 8],.row .s 0 h6,.row (.n 5) 0 h7,.row (.n 8) 0 h8,.box [.s h9,.o 10,.b h92,.b h93,.i h94],.row (.n 7) 0 h10]⟩=>c9 G n deep h0 h02 h03 h2 h3 h4 h6 h7 h8 h9 h92 h93 h94 h10 (λh04 h05 h06 h42=>K .ret ⟨[(2,.one (.p 1 0))],[.box [.l .u h04,.i h05,.i h06],.box [.o 2,.o 3,.o 4],.row .s 0 h6,.row (.n 5) 0 h7,.row (.n 8) 0 h42]⟩)
 |_=>none
noncomputable def dc6 (G:Gs) (n:Nat) (R:Type) (st:St) (K:Kt R):Option R:=match st with
 |⟨[(0,.one (.p 0 0)),(2,.one (.p 1 0)),(3,.one (.p 5 0)),(4,.one (.b deep))],[.box [.l .u h0,.i h02,.i h03],.box [.o 2,.o 3,.o 4],.row .s 0 h2,.row (.n 5) 0 h3,.row (.n 8) 0 h4,.box [.o 6,.o 7,.o 8],.row .s 0 h6,.row (.n 5) 0 h7,.row (.n 8) 0 h8]⟩=>c6 G n deep h0 h02 h03 h2 h3 h4 h6 h7 h8 (λh04 h05 h06 h42=>K .ret ⟨[(2,.one (.p 1 0))],[.box [.l .u h04,.i h05,.i h06],.box [.o 2,.o 3,.o 4],.row .s 0 h6,.row (.n 5) 0 h7,.row (.n 8) 0 h42]⟩)
 |_=>none
noncomputable def dc4 (G:Gs) (n:Nat) (R:Type) (st:St) (K:Kt R):Option R:=match st with
 |⟨[(0,.one (.p 0 0)),(2,.one (.p 1 0)),(3,.one (.p 5 0))],[.box [.l .u h0,.i h02,.i h03],.box [.o 2,.o 3,.o 4],.row .s 0 h2,.row (.n 5) 0 h3,.row (.n 8) 0 h4,.box [.o 6,.o 7,.o 8],.row .s 0 h6,.row (.n 5) 0 h7,.row (.n 8) 0 h8]⟩=>c4 G n h0 h02 h03 h2 h3 h4 h6 h7 h8 (λh04 h05 h06 h42=>K .ret ⟨[(2,.one (.p 1 0))],[.box [.l .u h04,.i h05,.i h06],.box [.o 2,.o 3,.o 4],.row .s 0 h6,.row (.n 5) 0 h7,.row (.n 8) 0 h42]⟩)
 |_=>none
noncomputable def pc (G:Gs) (n:Nat):Pcs:=⟨nK,λR id st K=>bif Nat.beq id 28 then tq G n R st K else bif Nat.beq id 21 then gQ G n R st K else bif Nat.beq id 9 then dc9 G n R st K else bif Nat.beq id 6 then dc6 G n R st K else bif Nat.beq id 4 then dc4 G n R st K else none,nK⟩
noncomputable def an:Ann:=⟨111,1,[],[(28,[2,3,8]),(21,[0,2,3,7]),(9,[0,2,3,4,5]),(6,[0,2,3,4]),(4,[0,2,3])],[2],[(5,⟨[([2,3,4,0,1,5,6,7,8],[2,3,4,6,8],[1])],[2,3,4,6,8],[],[0,1,2,3,4,6,7],[]⟩)],[]⟩
noncomputable abbrev bd:=aj Tryz.f121
noncomputable abbrev q28:=ak [1,1,1,1,1,1,1,1,1,1,1,1,1,1,0,1,0,1,1,1,1] bd
noncomputable abbrev q21:=ak [1,1,1,1,1,1,1,1,1,1,1,1,1] bd
noncomputable abbrev q9:=ak [1,1,1,1,1,1,1] bd
noncomputable abbrev q6:=ak [1,1,1,1,1] bd
noncomputable abbrev q4:=ak [1,1,1] bd
theorem F0 {G:Gs} (hG:AE (ac G)) {n:Nat}:PO an q28 (tq G n):=cpc hG (pc G n) ⟨[2,3],[2],[]⟩ (apl [] trivial) λR st K r h=>by unfold tq at h;split at h;exact .trans (by kernel_rfl) h;cases h
theorem qw {G:Gs} (hG:AE (ac G)) {n:Nat}:PO an q21 (gQ G n):=cpc hG (pc G n) ⟨[],[2],[]⟩ (apl [(0,28,q28)] ⟨F0 hG,trivial⟩) λR st K r h=>by unfold gQ at h;split at h;exact .trans (by kernel_rfl) h;cases h
theorem pc9 {G:Gs} (hG:AE (ac G)) {n:Nat}:PO an q9 (dc9 G n):=cpc hG (pc G n) ⟨[],[2],[]⟩ (apl [(0,21,q21)] ⟨qw hG,trivial⟩) λR st K r h=>by unfold dc9 at h;split at h;exact .trans (by kernel_rfl) h;cases h
theorem pc6 {G:Gs} (hG:AE (ac G)) {n:Nat}:PO an q6 (dc6 G n):=cpc hG (pc G n) ⟨[],[2],[]⟩ (apl [(0,9,q9)] ⟨pc9 hG,trivial⟩) λR st K r h=>by unfold dc6 at h;split at h;exact .trans (by kernel_rfl) h;cases h
theorem pc4 {G:Gs} (hG:AE (ac G)) {n:Nat}:PO an q4 (dc4 G n):=cpc hG (pc G n) ⟨[],[2],[]⟩ (apl [(0,6,q6)] ⟨pc6 hG,trivial⟩) λR st K r h=>by unfold dc4 at h;split at h;exact .trans (by kernel_rfl) h;cases h
theorem ok {G:Gs} (hG:AE (ac G)) {g:Q} (hg:∀c r,g c=some r->∃n,main (R:=AT×List Ob) G n c (λr0 r1=>some (.agg [.l .s r0.sorts.names,.l (.n 5) r0.sorts.subs,.l (.n 8) r0.ops],[.box [.l .u (Cur.b r1),.i (Cur.i r1),.i (Cur.h r1)]]))=some (.agg [.l .s r.1.sorts.names,.l (.n 5) r.1.sorts.subs,.l (.n 8) r.1.ops],[.box [.l .u (Cur.b r.2),.i (Cur.i r.2),.i (Cur.h r.2)]])):EO (ent g):=λR xs H K r hc=>by
 simp only[ent]at hc;split at hc
 ·exact okL hc λr j=>let⟨n,j⟩:=hg _ _ j;fF hG an (pc G n) Tryz.func121 j (apl [(0,4,q4)] ⟨pc4 hG,trivial⟩)
 ·cases hc
end z3n
end Go.Proofs.YtfdkldmkbibknaaGreat.Den

/-
  Texts that the claim rests on, merged: PD3, Drw4, Drw5.
-/
import Derived.Test.YtfdkldmkbibknaaGreatZRowTx12
import Derived.Test.YtfdkldmkbibknaaGreatZRowTx23
import Derived.Test.YtfdkldmkbibknaaGreatZRowTx24
import Derived.Test.YtfdkldmkbibknaaGreatZRowTx26
import Derived.Test.YtfdkldmkbibknaaGreatZRowTx33

namespace Go.Proofs.YtfdkldmkbibknaaGreat.Den
open Go.RowKit
set_option maxRecDepth 100000
set_option linter.unusedVariables false
namespace z3v
structure Gs where
 z3u:z3u.Q
noncomputable def ac (G:Gs):List Ent:=[z3u.ent G.z3u]
noncomputable def b3 {R:Type} (G:Gs) (n:Nat) (h0:Int) (h02:ByteArray) (h03:Int) (h04:LT) (h1:Int) (h12:ByteArray) (h13:Int) (h2:LT) (h3:Int) (h32:ByteArray) (h33 i:Int) (h4:LT) (nx:Int->LT->Option R) (k0:LT->Option R):Option R:=
 bif decide (i<(List.length h04:Int))then
  (
  (ix h04 i).bind λe4=>
  (G.z3u (Tm.mk e4.op e4.name e4.sort e4.args)).bind λr4=>
  (lim (h4++[(Tm.mk r4.op r4.name r4.sort r4.args)])).bind λzs2=>
  nx (wr (i+1)) zs2
  )
 else
  k0 h4
noncomputable def l3 {R:Type} (G:Gs) (n m:Nat) (h0:Int) (h02:ByteArray) (h03:Int) (h04:LT) (h1:Int) (h12:ByteArray) (h13:Int) (h2:LT) (h3:Int) (h32:ByteArray) (h33 i:Int) (h4:LT) (k0:LT->Option R):Option R:=aB (λ(v:Int×LT) nx=>b3 G n h0 h02 h03 h04 h1 h12 h13 h2 h3 h32 h33 v.1 v.2 (λy0 y1=>nx (y0,y1)) k0) m (i,h4)
noncomputable def main {R:Type} (G:Gs) (n:Nat) (t:Tm) (K:Tm->Option R):Option R:=
 l3 G n n t.op t.name t.sort t.args 0 ByteArray.empty 0 [] t.op t.name t.sort 0 []
  (λh34=>K (Tm.mk t.op t.name t.sort h34))
noncomputable def dl3 (G:Gs) (n m:Nat) (R:Type) (st:St) (K:Kt R):Option R:=match st with
 |⟨[(1,.one (.p 0 0)),(2,.one (.p 1 0)),(3,.one (.p 3 0)),(4,.one (.i i))],[.box [.i h0,.s h02,.i h03,.l (.n 1) h04],.box [.i h1,.s h12,.i h13,.o 2],.row (.n 1) 0 h2,.box [.i h3,.s h32,.i h33,.o 4],.row (.n 1) 0 h4]⟩=>l3 G n m h0 h02 h03 h04 h1 h12 h13 h2 h3 h32 h33 i h4 (λh34=>K (.exit 0) ⟨[(2,.one (.p 0 0)),(3,.one (.p 2 0))],[.box [.i h1,.s h12,.i h13,.o 1],.row (.n 1) 0 h2,.box [.i h3,.s h32,.i h33,.o 3],.row (.n 1) 0 h34]⟩)
 |_=>none
noncomputable def pc (G:Gs) (n:Nat):Pcs:=⟨λR id st K=>bif Nat.beq id 3 then dl3 G n n R st K else none,nK,nK⟩
noncomputable def an:Ann:=⟨31,0,[(3,[1,2,3,4])],[],[2],[(5,⟨[([0,1,2,3,4,5,6,7,8,9,10,11],[9,11],[1])],[9,11],[],[0,1,2],[]⟩)],[]⟩
noncomputable abbrev bd:=aj Tryz.f99
noncomputable abbrev q3:=ak [1,1,0,1,0,0] bd
theorem pl3 {G:Gs} (hG:AE (ac G)) (n:Nat):∀m,PO an (.loop q3) (dl3 G n m):=lpc hG (pc G n) [1,2,3,4] ⟨[2,3],[2],[(0,[2,3])]⟩ (apl [] trivial) (λR st K=>by unfold dl3;split<;>rfl) λm R st K r h=>by unfold dl3 at h;split at h;exact .trans (by kernel_rfl) h;cases h
theorem ok {G:Gs} (hG:AE (ac G)) {g:Q} (hg:∀t r,g t=some r->∃n,main (R:=AT×List Ob) G n t (λr0=>some (.agg [.i r0.op,.s r0.name,.i r0.sort,.o 0],[.row (.n 1) 0 r0.args]))=some (.agg [.i r.op,.s r.name,.i r.sort,.o 0],[.row (.n 1) 0 r.args])):EO (ent g):=λR xs H K r hc=>by
 simp only[ent]at hc;split at hc
 ·exact okL hc λr j=>let⟨n,j⟩:=hg _ _ j;fR hG an (pc G n) Tryz.func99 j (apl [(1,3,.loop q3)] ⟨pl3 hG n n,trivial⟩)
 ·cases hc
end z3v
namespace z3t
structure Gs where
 z3u:z3u.Q
noncomputable def ac (G:Gs):List Ent:=[z3u.ent G.z3u]
noncomputable def b3 {R:Type} (G:Gs) (n:Nat) (list:LT) (i:Int) (h0:LT) (nx:Int->LT->Option R) (k0:LT->Option R):Option R:=
 bif decide (i<(List.length list:Int))then
  (
  (ix list i).bind λe=>
  (G.z3u (Tm.mk e.op e.name e.sort e.args)).bind λr=>
  (lim (h0++[(Tm.mk r.op r.name r.sort r.args)])).bind λzs=>
  nx (wr (i+1)) zs
  )
 else
  k0 h0
noncomputable def l3 {R:Type} (G:Gs) (n m:Nat) (list:LT) (i:Int) (h0:LT) (k0:LT->Option R):Option R:=aB (λ(v:Int×LT) nx=>b3 G n list v.1 v.2 (λy0 y1=>nx (y0,y1)) k0) m (i,h0)
noncomputable def main {R:Type} (G:Gs) (n:Nat) (list:LT) (K:LT->Option R):Option R:=
 l3 G n n list 0 []
  (λh02=>K h02)
noncomputable def dl3 (G:Gs) (n m:Nat) (R:Type) (st:St) (K:Kt R):Option R:=match st with
 |⟨[(0,.one (.l (.n 1) list)),(3,.one (.o 0)),(4,.one (.i i))],[.row (.n 1) 0 h0]⟩=>l3 G n m list i h0 (λh02=>K (.exit 0) ⟨[(3,.one (.o 0))],[.row (.n 1) 0 h02]⟩)
 |_=>none
noncomputable def pc (G:Gs) (n:Nat):Pcs:=⟨λR id st K=>bif Nat.beq id 3 then dl3 G n n R st K else none,nK,nK⟩
noncomputable def an:Ann:=⟨21,0,[(3,[0,3,4])],[],[2],[],[]⟩
noncomputable abbrev bd:=aj Tryz.f101
noncomputable abbrev q3:=ak [1,1,0,1,0,0] bd
theorem pl3 {G:Gs} (hG:AE (ac G)) (n:Nat):∀m,PO an (.loop q3) (dl3 G n m):=lpc hG (pc G n) [0,3,4] ⟨[3],[2],[(0,[3])]⟩ (apl [] trivial) (λR st K=>by unfold dl3;split<;>rfl) λm R st K r h=>by unfold dl3 at h;split at h;exact .trans (by kernel_rfl) h;cases h
theorem ok {G:Gs} (hG:AE (ac G)) {g:Q} (hg:∀list r,g list=some r->∃n,main (R:=AT×List Ob) G n list (λr0=>some (.one (.o 0),[.row (.n 1) 0 r0]))=some (.one (.o 0),[.row (.n 1) 0 r])):EO (ent g):=λR xs H K r hc=>by
 simp only[ent]at hc;split at hc
 ·exact okL hc λr j=>let⟨n,j⟩:=hg _ _ j;fR hG an (pc G n) Tryz.func101 j (apl [(1,3,.loop q3)] ⟨pl3 hG n n,trivial⟩)
 ·cases hc
end z3t
namespace z4h
structure Gs where
 none_:Unit
noncomputable def main {R:Type} (G:Gs) (n:Nat) (s:Sg) (op:Int) (K:Tm->Bool->Option R):Option R:=
 (ix s.ops op).bind λe=>
 bif decide (e.unit=0)then
  (K (Tm.mk 0 ByteArray.empty 0 []) false)
 else
  (ix s.ops op).bind λe2=>
  K (Tm.mk (wr (e2.unit-1)) ByteArray.empty 0 []) true
theorem ok {G:Gs} (hG:AE []) {g:Q} (hg:∀s op r,g s op=some r->∃n,main (R:=AT×List Ob) G n s op (λr0 r1=>some (.tup [.agg [.i r0.op,.s r0.name,.i r0.sort,.o 0],.one (.b r1)],[.row (.n 1) 0 r0.args]))=some (.tup [.agg [.i r.1.op,.s r.1.name,.i r.1.sort,.o 0],.one (.b r.2)],[.row (.n 1) 0 r.1.args])):EO (ent g):=λR xs H K r hc=>by
 simp only[ent]at hc;split at hc
 ·exact okL hc λr j=>let⟨_,j⟩:=hg _ _ _ j;fR hG ⟨22,0,[],[],[4,5],[],[]⟩ nP Tryz.func96 j
 ·cases hc
end z4h
namespace z4b
structure Gs where
 z3g:z3g.Q
 z3i:z3i.Q
 z4h:z4h.Q
 z48:z48.Q
 z3y:z3y.Q
 z3v:z3v.Q
 z32:z32.Q
 z3t:z3t.Q
 z4f:z4f.Q
noncomputable def ac (G:Gs):List Ent:=[z3g.ent G.z3g,z3i.ent G.z3i,z4h.ent G.z4h,z48.ent G.z48,z3y.ent G.z3y,z3v.ent G.z3v,z32.ent G.z32,z3t.ent G.z3t,z4f.ent G.z4f]
noncomputable def c15 {R:Type} (G:Gs) (n:Nat) (op:Int) (args:LT) (kinds:LI) (has:Bool) (i:Int) (h0:LB) (h02:LS) (h03:LO) (h1:Int) (h12:ByteArray) (h13:Int) (h2:LT) (h3:ByteArray) (h32:LD) (h33 h34:Bool) (h35 h4:Int) (h42:ByteArray) (h43:Int) (h5 h6:LT) (k0:LT->Option R):Option R:=
 (ix args i).bind λe=>
 (lim (h6++[(Tm.mk e.op e.name e.sort e.args)])).bind λzs=>
 k0 zs
noncomputable def c17 {R:Type} (G:Gs) (n:Nat) (op:Int) (args:LT) (kinds:LI) (has:Bool) (i:Int) (h0:LB) (h02:LS) (h03:LO) (h1:Int) (h12:ByteArray) (h13:Int) (h2:LT) (h3:ByteArray) (h32:LD) (h33 h34:Bool) (h35 h4:Int) (h42:ByteArray) (h43:Int) (h5 h6:LT) (k0:LT->Option R):Option R:=
 bif h33 then
  (
  (ix args i).bind λe=>
  bif decide (e.op=op)then
   (
   (ix args i).bind λe2=>
   (lim (h6++e2.args)).bind λzs=>
   k0 zs
   )
  else
   c15 G n op args kinds has i h0 h02 h03 h1 h12 h13 h2 h3 h32 h33 h34 h35 h4 h42 h43 h5 h6
    (λh62=>k0 h62)
  )
 else
  c15 G n op args kinds has i h0 h02 h03 h1 h12 h13 h2 h3 h32 h33 h34 h35 h4 h42 h43 h5 h6
   (λh622=>k0 h622)
noncomputable def c13 {R:Type} (G:Gs) (n:Nat) (op:Int) (args:LT) (kinds:LI) (has:Bool) (i at1:Int) (h0:LB) (h02:LS) (h03:LO) (h1:Int) (h12:ByteArray) (h13:Int) (h2:LT) (h3:ByteArray) (h32:LD) (h33 h34:Bool) (h35 h4:Int) (h42:ByteArray) (h43:Int) (h5 h6:LT) (k0:Bool->Int->ByteArray->Int->LT->Option R) (k1:LT->Option R):Option R:=
 (ix args i).bind λe2=>
 (G.z48 (Sg.mk (So.mk h0 h02) h03) (Tm.mk e2.op e2.name e2.sort e2.args)).bind λr2=>
 (ix h32 0).bind λe4=>
 (ix e4.args at1).bind λe6=>
 (ix kinds e6).bind λe8=>
 bif !decide (r2=e8)then
  (k0 false 0 ByteArray.empty 0 [])
 else
  bif has then
   (
   (ix args i).bind λe10=>
   (G.z3y (Tm.mk e10.op e10.name e10.sort e10.args) (Tm.mk h4 h42 h43 h5)).bind λr4=>
   bif r4 then
    (k1 h6)
   else
    c17 G n op args kinds has i h0 h02 h03 h1 h12 h13 h2 h3 h32 h33 h34 h35 h4 h42 h43 h5 h6
     (λh62=>k1 h62)
   )
  else
   c17 G n op args kinds has i h0 h02 h03 h1 h12 h13 h2 h3 h32 h33 h34 h35 h4 h42 h43 h5 h6
    (λh622=>k1 h622)
noncomputable def b8 {R:Type} (G:Gs) (n:Nat) (op:Int) (args:LT) (kinds:LI) (has:Bool) (h0:LB) (h02:LS) (h03:LO) (h1:Int) (h12:ByteArray) (h13:Int) (h2:LT) (h3:ByteArray) (h32:LD) (h33 h34:Bool) (h35 h4:Int) (h42:ByteArray) (h43:Int) (h5:LT) (i:Int) (h6:LT) (nx:Int->LT->Option R) (k0:Bool->Int->ByteArray->Int->LT->Option R) (k1:LT->Option R):Option R:=
 bif decide (i<(List.length args:Int))then
  (
  bif h33 then
   (
   c13 G n op args kinds has i 0 h0 h02 h03 h1 h12 h13 h2 h3 h32 h33 h34 h35 h4 h42 h43 h5 h6
    (λt7 h04 h05 h06 h14=>k0 t7 h04 h05 h06 h14)
    (λh62=>nx (wr (i+1)) h62)
   )
  else
   c13 G n op args kinds has i i h0 h02 h03 h1 h12 h13 h2 h3 h32 h33 h34 h35 h4 h42 h43 h5 h6
    (λt72 h042 h052 h062 h142=>k0 t72 h042 h052 h062 h142)
    (λh622=>nx (wr (i+1)) h622)
  )
 else
  k1 h6
noncomputable def l8 {R:Type} (G:Gs) (n m:Nat) (op:Int) (args:LT) (kinds:LI) (has:Bool) (h0:LB) (h02:LS) (h03:LO) (h1:Int) (h12:ByteArray) (h13:Int) (h2:LT) (h3:ByteArray) (h32:LD) (h33 h34:Bool) (h35 h4:Int) (h42:ByteArray) (h43:Int) (h5:LT) (i:Int) (h6:LT) (k0:Bool->Int->ByteArray->Int->LT->Option R) (k1:LT->Option R):Option R:=aB (λ(v:Int×LT) nx=>b8 G n op args kinds has h0 h02 h03 h1 h12 h13 h2 h3 h32 h33 h34 h35 h4 h42 h43 h5 v.1 v.2 (λy0 y1=>nx (y0,y1)) k0 k1) m (i,h6)
noncomputable def c25 {R:Type} (G:Gs) (n:Nat) (op:Int) (list:LT) (h0:Int) (h02:ByteArray) (h03:Int) (h1:LT) (h2:ByteArray) (h22:LD) (h23 h24:Bool) (h25:Int) (k0:Bool->ByteArray->Int->LT->Option R):Option R:=
 (G.z3t list).bind λr=>
 bif !h23 then
  (
  (G.z4f (Tm.mk op ByteArray.empty 0 r)).bind λr7=>
  k0 r7 ByteArray.empty 0 r
  )
 else
  bif decide ((List.length list:Int)<=7)then
   (
   (G.z4f (Tm.mk op ByteArray.empty 0 r)).bind λr9=>
   k0 r9 ByteArray.empty 0 r
   )
  else
   k0 false ByteArray.empty 0 r
noncomputable def c23 {R:Type} (G:Gs) (n:Nat) (op:Int) (list:LT) (h0:Int) (h02:ByteArray) (h03:Int) (h1:LT) (h2:ByteArray) (h22:LD) (h23 h24:Bool) (h25:Int) (k0:Bool->ByteArray->Int->LT->Option R):Option R:=
 bif h24 then
  (
  (G.z32 list).bind λr=>
  c25 G n op r h0 h02 h03 h1 h2 h22 h23 h24 h25
   (λt7 h05 h06 h12=>k0 t7 h05 h06 h12)
  )
 else
  c25 G n op list h0 h02 h03 h1 h2 h22 h23 h24 h25
   (λt72 h052 h062 h122=>k0 t72 h052 h062 h122)
noncomputable def c21 {R:Type} (G:Gs) (n:Nat) (op:Int) (has:Bool) (h0:Int) (h02:ByteArray) (h03:Int) (h1:LT) (h2:ByteArray) (h22:LD) (h23 h24:Bool) (h25:Int) (h3:LT) (k0:Bool->Int->ByteArray->Int->LT->Option R):Option R:=
 bif has then
  (
  bif decide ((List.length h3:Int)=1)then
   (
   (ix h3 0).bind λe=>
   (G.z3v (Tm.mk e.op e.name e.sort e.args)).bind λr=>
   k0 true r.op r.name r.sort r.args
   )
  else
   c23 G n op h3 h0 h02 h03 h1 h2 h22 h23 h24 h25
    (λt7 h05 h06 h12=>k0 t7 op h05 h06 h12)
  )
 else
  c23 G n op h3 h0 h02 h03 h1 h2 h22 h23 h24 h25
   (λt72 h052 h062 h122=>k0 t72 op h052 h062 h122)
noncomputable def c5 {R:Type} (G:Gs) (n:Nat) (op:Int) (args:LT) (kinds:LI) (h0:LB) (h02:LS) (h03:LO) (h1:Int) (h12:ByteArray) (h13:Int) (h2:LT) (h3:ByteArray) (h32:LD) (h33 h34:Bool) (h35:Int) (k0:Bool->Int->ByteArray->Int->LT->Option R):Option R:=
 (G.z4h (Sg.mk (So.mk h0 h02) h03) op).bind λr=>
 l8 G n n op args kinds r.2 h0 h02 h03 h1 h12 h13 h2 h3 h32 h33 h34 h35 r.1.op r.1.name r.1.sort r.1.args 0 []
  (λt7 h04 h05 h06 h14=>k0 t7 h04 h05 h06 h14)
  (fun h52 =>
   bif r.2 then
    (
    bif decide ((List.length h52:Int)=0)then
     (k0 true r.1.op r.1.name r.1.sort r.1.args)
    else
     c21 G n op r.2 h1 h12 h13 h2 h3 h32 h33 h34 h35 h52
      (λt72 h042 h052 h062 h122=>k0 t72 h042 h052 h062 h122)
    )
   else
    c21 G n op r.2 h1 h12 h13 h2 h3 h32 h33 h34 h35 h52
     (λt73 h043 h053 h063 h123=>k0 t73 h043 h053 h063 h123)
  )
noncomputable def main {R:Type} (G:Gs) (n:Nat) (s:Sg) (op:Int) (args:LT) (K:Tm->Bool->Option R):Option R:=
 (ix s.ops op).bind λe=>
 (G.z3g s.sorts).bind λr=>
 (G.z3i e).bind λr2=>
 bif !decide ((List.length args : Int) = r2) then
  (
  bif e.assoc then
   (
   bif !(decide (2<=(List.length args:Int)))then
    (K (Tm.mk 0 ByteArray.empty 0 []) false)
   else
    c5 G n op args r s.sorts.names s.sorts.subs s.ops 0 ByteArray.empty 0 [] e.name e.decls e.assoc e.comm e.unit
     (λt7 h04 h05 h06 h14=>K (Tm.mk h04 h05 h06 h14) t7)
   )
  else
   K (Tm.mk 0 ByteArray.empty 0 []) false
  )
 else
  c5 G n op args r s.sorts.names s.sorts.subs s.ops 0 ByteArray.empty 0 [] e.name e.decls e.assoc e.comm e.unit
   (λt72 h042 h052 h062 h142=>K (Tm.mk h042 h052 h062 h142) t72)
noncomputable def s8 (G:Gs) (n:Nat) (R:Type) (st:St) (K:Kt R):Option R:=match st with
 |⟨[(1,.one (.i op)),(2,.one (.l (.n 1) args)),(3,.one (.p 0 0)),(6,.one (.p 1 0)),(8,.one (.p 3 0)),(9,.one (.l .i kinds)),(10,.one (.p 4 0)),(11,.one (.b has)),(12,.one (.o 6)),(13,.one (.i i))],[.box [.l .s h0,.l (.n 5) h02,.l (.n 8) h03],.box [.i h1,.s h12,.i h13,.o 2],.row (.n 1) 0 h2,.box [.s h3,.l (.n 7) h32,.b h33,.b h34,.i h35],.box [.i h4,.s h42,.i h43,.o 5],.row (.n 1) 0 h5,.row (.n 1) 0 h6]⟩=>c15 G n op args kinds has i h0 h02 h03 h1 h12 h13 h2 h3 h32 h33 h34 h35 h4 h42 h43 h5 h6 (λh62=>K .normal ⟨[(1,.one (.i op)),(2,.one (.l (.n 1) args)),(3,.one (.p 0 0)),(6,.one (.p 1 0)),(8,.one (.p 3 0)),(9,.one (.l .i kinds)),(10,.one (.p 4 0)),(11,.one (.b has)),(12,.one (.o 6)),(13,.one (.i i))],[.box [.l .s h0,.l (.n 5) h02,.l (.n 8) h03],.box [.i h1,.s h12,.i h13,.o 2],.row (.n 1) 0 h2,.box [.s h3,.l (.n 7) h32,.b h33,.b h34,.i h35],.box [.i h4,.s h42,.i h43,.o 5],.row (.n 1) 0 h5,.row (.n 1) 0 h62]⟩)
 |_=>none
noncomputable def ub (G:Gs) (n:Nat) (R:Type) (st:St) (K:Kt R):Option R:=match st with
 |⟨[(1,.one (.i op)),(2,.one (.l (.n 1) args)),(3,.one (.p 0 0)),(6,.one (.p 1 0)),(8,.one (.p 3 0)),(9,.one (.l .i kinds)),(10,.one (.p 4 0)),(11,.one (.b has)),(12,.one (.o 6)),(13,.one (.i i))],[.box [.l .s h0,.l (.n 5) h02,.l (.n 8) h03],.box [.i h1,.s h12,.i h13,.o 2],.row (.n 1) 0 h2,.box [.s h3,.l (.n 7) h32,.b h33,.b h34,.i h35],.box [.i h4,.s h42,.i h43,.o 5],.row (.n 1) 0 h5,.row (.n 1) 0 h6]⟩=>c17 G n op args kinds has i h0 h02 h03 h1 h12 h13 h2 h3 h32 h33 h34 h35 h4 h42 h43 h5 h6 (λh62=>K .normal ⟨[(1,.one (.i op)),(2,.one (.l (.n 1) args)),(3,.one (.p 0 0)),(6,.one (.p 1 0)),(8,.one (.p 3 0)),(9,.one (.l .i kinds)),(10,.one (.p 4 0)),(11,.one (.b has)),(12,.one (.o 6)),(13,.one (.i i))],[.box [.l .s h0,.l (.n 5) h02,.l (.n 8) h03],.box [.i h1,.s h12,.i h13,.o 2],.row (.n 1) 0 h2,.box [.s h3,.l (.n 7) h32,.b h33,.b h34,.i h35],.box [.i h4,.s h42,.i h43,.o 5],.row (.n 1) 0 h5,.row (.n 1) 0 h62]⟩)
 |_=>none
noncomputable def jz (G:Gs) (n:Nat) (R:Type) (st:St) (K:Kt R):Option R:=match st with
 |⟨[(1,.one (.i op)),(2,.one (.l (.n 1) args)),(3,.one (.p 0 0)),(6,.one (.p 1 0)),(8,.one (.p 3 0)),(9,.one (.l .i kinds)),(10,.one (.p 4 0)),(11,.one (.b has)),(12,.one (.o 6)),(13,.one (.i i)),(14,.one (.i at1))],[.box [.l .s h0,.l (.n 5) h02,.l (.n 8) h03],.box [.i h1,.s h12,.i h13,.o 2],.row (.n 1) 0 h2,.box [.s h3,.l (.n 7) h32,.b h33,.b h34,.i h35],.box [.i h4,.s h42,.i h43,.o 5],.row (.n 1) 0 h5,.row (.n 1) 0 h6]⟩=>c13 G n op args kinds has i at1 h0 h02 h03 h1 h12 h13 h2 h3 h32 h33 h34 h35 h4 h42 h43 h5 h6 (λt7 h04 h05 h06 h14=>K .ret ⟨[(6,.one (.p 0 0)),(7,.one (.b t7))],[.box [.i h04,.s h05,.i h06,.o 1],.row (.n 1) 0 h14]⟩) (λh62=>K .normal ⟨[(1,.one (.i op)),(2,.one (.l (.n 1) args)),(3,.one (.p 0 0)),(6,.one (.p 1 0)),(8,.one (.p 3 0)),(9,.one (.l .i kinds)),(10,.one (.p 4 0)),(11,.one (.b has)),(12,.one (.o 6)),(13,.one (.i i))],[.box [.l .s h0,.l (.n 5) h02,.l (.n 8) h03],.box [.i h1,.s h12,.i h13,.o 2],.row (.n 1) 0 h2,.box [.s h3,.l (.n 7) h32,.b h33,.b h34,.i h35],.box [.i h4,.s h42,.i h43,.o 5],.row (.n 1) 0 h5,.row (.n 1) 0 h62]⟩)
 |_=>none
noncomputable def dl8 (G:Gs) (n m:Nat) (R:Type) (st:St) (K:Kt R):Option R:=match st with
 |⟨[(1,.one (.i op)),(2,.one (.l (.n 1) args)),(3,.one (.p 0 0)),(6,.one (.p 1 0)),(8,.one (.p 3 0)),(9,.one (.l .i kinds)),(10,.one (.p 4 0)),(11,.one (.b has)),(12,.one (.o 6)),(13,.one (.i i))],[.box [.l .s h0,.l (.n 5) h02,.l (.n 8) h03],.box [.i h1,.s h12,.i h13,.o 2],.row (.n 1) 0 h2,.box [.s h3,.l (.n 7) h32,.b h33,.b h34,.i h35],.box [.i h4,.s h42,.i h43,.o 5],.row (.n 1) 0 h5,.row (.n 1) 0 h6]⟩=>l8 G n m op args kinds has h0 h02 h03 h1 h12 h13 h2 h3 h32 h33 h34 h35 h4 h42 h43 h5 i h6 (λt7 h04 h05 h06 h14=>K .ret ⟨[(6,.one (.p 0 0)),(7,.one (.b t7))],[.box [.i h04,.s h05,.i h06,.o 1],.row (.n 1) 0 h14]⟩) (λh52=>K (.exit 0) ⟨[(1,.one (.i op)),(6,.one (.p 0 0)),(8,.one (.p 2 0)),(10,.one (.p 3 0)),(11,.one (.b has)),(12,.one (.o 5))],[.box [.i h1,.s h12,.i h13,.o 1],.row (.n 1) 0 h2,.box [.s h3,.l (.n 7) h32,.b h33,.b h34,.i h35],.box [.i h4,.s h42,.i h43,.o 4],.row (.n 1) 0 h5,.row (.n 1) 0 h52]⟩)
 |_=>none
noncomputable def tJ (G:Gs) (n:Nat) (R:Type) (st:St) (K:Kt R):Option R:=match st with
 |⟨[(1,.one (.i op)),(6,.one (.p 0 0)),(8,.one (.p 2 0)),(12,.one (.l (.n 1) list))],[.box [.i h0,.s h02,.i h03,.o 1],.row (.n 1) 0 h1,.box [.s h2,.l (.n 7) h22,.b h23,.b h24,.i h25]]⟩=>c25 G n op list h0 h02 h03 h1 h2 h22 h23 h24 h25 (λt7 h05 h06 h12=>K .ret ⟨[(6,.one (.p 0 0)),(7,.one (.b t7))],[.box [.i op,.s h05,.i h06,.o 1],.row (.n 1) 0 h12]⟩)
 |_=>none
noncomputable def uQ (G:Gs) (n:Nat) (R:Type) (st:St) (K:Kt R):Option R:=match st with
 |⟨[(1,.one (.i op)),(6,.one (.p 0 0)),(8,.one (.p 2 0)),(12,.one (.l (.n 1) list))],[.box [.i h0,.s h02,.i h03,.o 1],.row (.n 1) 0 h1,.box [.s h2,.l (.n 7) h22,.b h23,.b h24,.i h25]]⟩=>c23 G n op list h0 h02 h03 h1 h2 h22 h23 h24 h25 (λt7 h05 h06 h12=>K .ret ⟨[(6,.one (.p 0 0)),(7,.one (.b t7))],[.box [.i op,.s h05,.i h06,.o 1],.row (.n 1) 0 h12]⟩)
 |_=>none
noncomputable def gQ (G:Gs) (n:Nat) (R:Type) (st:St) (K:Kt R):Option R:=match st with
 |⟨[(1,.one (.i op)),(6,.one (.p 0 0)),(8,.one (.p 2 0)),(11,.one (.b has)),(12,.one (.o 3))],[.box [.i h0,.s h02,.i h03,.o 1],.row (.n 1) 0 h1,.box [.s h2,.l (.n 7) h22,.b h23,.b h24,.i h25],.row (.n 1) 0 h3]⟩=>c21 G n op has h0 h02 h03 h1 h2 h22 h23 h24 h25 h3 (λt7 h04 h05 h06 h12=>K .ret ⟨[(6,.one (.p 0 0)),(7,.one (.b t7))],[.box [.i h04,.s h05,.i h06,.o 1],.row (.n 1) 0 h12]⟩)
 |_=>none
noncomputable def dc5 (G:Gs) (n:Nat) (R:Type) (st:St) (K:Kt R):Option R:=match st with
 |⟨[(1,.one (.i op)),(2,.one (.l (.n 1) args)),(3,.one (.p 0 0)),(6,.one (.p 1 0)),(8,.one (.p 3 0)),(9,.one (.l .i kinds))],[.box [.l .s h0,.l (.n 5) h02,.l (.n 8) h03],.box [.i h1,.s h12,.i h13,.o 2],.row (.n 1) 0 h2,.box [.s h3,.l (.n 7) h32,.b h33,.b h34,.i h35]]⟩=>c5 G n op args kinds h0 h02 h03 h1 h12 h13 h2 h3 h32 h33 h34 h35 (λt7 h04 h05 h06 h14=>K .ret ⟨[(6,.one (.p 0 0)),(7,.one (.b t7))],[.box [.i h04,.s h05,.i h06,.o 1],.row (.n 1) 0 h14]⟩)
 |_=>none
noncomputable def pc (G:Gs) (n:Nat):Pcs:=⟨λR id st K=>bif Nat.beq id 8 then dl8 G n n R st K else none,λR id st K=>bif Nat.beq id 15 then s8 G n R st K else bif Nat.beq id 17 then ub G n R st K else bif Nat.beq id 13 then jz G n R st K else bif Nat.beq id 25 then tJ G n R st K else bif Nat.beq id 23 then uQ G n R st K else bif Nat.beq id 21 then gQ G n R st K else bif Nat.beq id 5 then dc5 G n R st K else none,nK⟩
noncomputable def an:Ann:=⟨149,0,[(8,[1,2,3,6,8,9,10,11,12,13])],[(15,[1,2,3,6,8,9,10,11,12,13]),(17,[1,2,3,6,8,9,10,11,12,13]),(13,[1,2,3,6,8,9,10,11,12,13,14]),(25,[1,6,8,12]),(23,[1,6,8,12]),(21,[1,6,8,11,12]),(5,[1,2,3,6,8,9])],[6,7],[(13,⟨[([0,1,2,3,4,5,6,7,8,9,10,11,12,13,14,15,16,17],[],[])],[],[],[0,1,2,3,4,5,6],[]⟩),(16,⟨[([0,1,2,3,4,5,6,7,8,9],[],[])],[],[],[0,1,2,3,4,5,6],[]⟩),(26,⟨[([0,1,2,3,4,5,6,7,8,9,10,11,13,12,14],[13],[])],[13],[],[1,2,3,4],[]⟩)],[120]⟩
noncomputable abbrev bd:=aj Tryz.f55
noncomputable abbrev q15:=ak [1,1,1,1,1,1,0,1,0,0,1,0,0,1,1,1,0,1,1,1,1] bd
noncomputable abbrev q17:=ak [1,1,1,1,1,1,0,1,0,0,1,0,0,1,1,1,0,1,1] bd
noncomputable abbrev q13:=ak [1,1,1,1,1,1,0,1,0,0,1,0,0,1,1] bd
noncomputable abbrev q8:=ak [1,1,1,1,1,1,0,1,0,0] bd
noncomputable abbrev q25:=ak [1,1,1,1,1,1,1,1,1,1] bd
noncomputable abbrev q23:=ak [1,1,1,1,1,1,1,1,1] bd
noncomputable abbrev q21:=ak [1,1,1,1,1,1,1,1] bd
noncomputable abbrev q5:=ak [1,1,1,1] bd
theorem Eb {G:Gs} (hG:AE (ac G)) {n:Nat}:PO an q15 (s8 G n):=cpc hG (pc G n) ⟨[1,2,3,6,8,9,10,11,12,13],[6,7],[(0,[1,6,8,10,11,12]),(1,[1,2,3,6,8,9,10,11,12,13]),(2,[1,2,3,6,8,9,10,11,12,13])]⟩ (apl [] trivial) λR st K r h=>by unfold s8 at h;split at h;exact .trans (by kernel_rfl) h;cases h
theorem Ex {G:Gs} (hG:AE (ac G)) {n:Nat}:PO an q17 (ub G n):=cpc hG (pc G n) ⟨[1,2,3,6,8,9,10,11,12,13],[6,7],[(0,[1,6,8,10,11,12]),(1,[1,2,3,6,8,9,10,11,12,13]),(2,[1,2,3,6,8,9,10,11,12,13])]⟩ (apl [(0,15,q15)] ⟨Eb hG,trivial⟩) λR st K r h=>by unfold ub at h;split at h;exact .trans (by kernel_rfl) h;cases h
theorem tw {G:Gs} (hG:AE (ac G)) {n:Nat}:PO an q13 (jz G n):=cpc hG (pc G n) ⟨[1,2,3,6,8,9,10,11,12,13],[6,7],[(0,[1,6,8,10,11,12]),(1,[1,2,3,6,8,9,10,11,12,13])]⟩ (apl [(0,17,q17)] ⟨Ex hG,trivial⟩) λR st K r h=>by unfold jz at h;split at h;exact .trans (by kernel_rfl) h;cases h
theorem pl8 {G:Gs} (hG:AE (ac G)) (n:Nat):∀m,PO an (.loop q8) (dl8 G n m):=lpc hG (pc G n) [1,2,3,6,8,9,10,11,12,13] ⟨[1,6,8,10,11,12],[6,7],[(0,[1,6,8,10,11,12])]⟩ (apl [(0,13,q13)] ⟨tw hG,trivial⟩) (λR st K=>by unfold dl8;split<;>rfl) λm R st K r h=>by unfold dl8 at h;split at h;exact .trans (by kernel_rfl) h;cases h
theorem Eo {G:Gs} (hG:AE (ac G)) {n:Nat}:PO an q25 (tJ G n):=cpc hG (pc G n) ⟨[],[6,7],[]⟩ (apl [] trivial) λR st K r h=>by unfold tJ at h;split at h;exact .trans (by kernel_rfl) h;cases h
theorem Ew {G:Gs} (hG:AE (ac G)) {n:Nat}:PO an q23 (uQ G n):=cpc hG (pc G n) ⟨[],[6,7],[]⟩ (apl [(0,25,q25)] ⟨Eo hG,trivial⟩) λR st K r h=>by unfold uQ at h;split at h;exact .trans (by kernel_rfl) h;cases h
theorem qw {G:Gs} (hG:AE (ac G)) {n:Nat}:PO an q21 (gQ G n):=cpc hG (pc G n) ⟨[],[6,7],[]⟩ (apl [(0,23,q23)] ⟨Ew hG,trivial⟩) λR st K r h=>by unfold gQ at h;split at h;exact .trans (by kernel_rfl) h;cases h
theorem pc5 {G:Gs} (hG:AE (ac G)) {n:Nat}:PO an q5 (dc5 G n):=cpc hG (pc G n) ⟨[],[6,7],[]⟩ (apl [(1,8,.loop q8),(0,21,q21)] ⟨pl8 hG n n,⟨qw hG,trivial⟩⟩) λR st K r h=>by unfold dc5 at h;split at h;exact .trans (by kernel_rfl) h;cases h
theorem ok {G:Gs} (hG:AE (ac G)) {g:Q} (hg:∀s op args r,g s op args=some r->∃n,main (R:=AT×List Ob) G n s op args (λr0 r1=>some (.tup [.agg [.i r0.op,.s r0.name,.i r0.sort,.o 0],.one (.b r1)],[.row (.n 1) 0 r0.args]))=some (.tup [.agg [.i r.1.op,.s r.1.name,.i r.1.sort,.o 0],.one (.b r.2)],[.row (.n 1) 0 r.1.args])):EO (ent g):=λR xs H K r hc=>by
 simp only[ent]at hc;split at hc
 ·exact okL hc λr j=>let⟨n,j⟩:=hg _ _ _ _ j;fR hG an (pc G n) Tryz.func55 j (apl [(0,5,q5)] ⟨pc5 hG,trivial⟩)
 ·cases hc
end z4b
namespace z43
structure Gs where
 z3z:z3z.Q
 z4c:z4c.Q
 z38:z38.Q
 z43:z43.Q
 z4a:z4a.Q
noncomputable def ac (G:Gs):List Ent:=[z3z.ent G.z3z,z4c.ent G.z4c,z38.ent G.z38,ent G.z43,z4a.ent G.z4a]
noncomputable def b7 {R:Type} (G:Gs) (n:Nat) (h0:LB) (h02:LS) (h03:LO) (h1:Int) (h12:ByteArray) (h13:Int) (h14:LT) (h2:Int) (h22:ByteArray) (h23:Int) (h3:LT) (i:Int) (h4:LT) (nx:Int->LT->Option R) (k0:Bool->Int->ByteArray->Int->LT->Option R) (k1:LT->Option R):Option R:=
 bif decide (i<(List.length h14:Int))then
  (
  (ix h14 i).bind λe2=>
  (G.z43 (Sg.mk (So.mk h0 h02) h03) (Tm.mk e2.op e2.name e2.sort e2.args)).bind λr2=>
  bif !r2.2 then
   (k0 false 0 ByteArray.empty 0 [])
  else
   (lim (h4++[(Tm.mk r2.1.op r2.1.name r2.1.sort r2.1.args)])).bind λzs=>
   nx (wr (i+1)) zs
  )
 else
  k1 h4
noncomputable def l7 {R:Type} (G:Gs) (n m:Nat) (h0:LB) (h02:LS) (h03:LO) (h1:Int) (h12:ByteArray) (h13:Int) (h14:LT) (h2:Int) (h22:ByteArray) (h23:Int) (h3:LT) (i:Int) (h4:LT) (k0:Bool->Int->ByteArray->Int->LT->Option R) (k1:LT->Option R):Option R:=aB (λ(v:Int×LT) nx=>b7 G n h0 h02 h03 h1 h12 h13 h14 h2 h22 h23 h3 v.1 v.2 (λy0 y1=>nx (y0,y1)) k0 k1) m (i,h4)
noncomputable def main {R:Type} (G:Gs) (n:Nat) (s:Sg) (t:Tm) (K:Tm->Bool->Option R):Option R:=
 bif decide (t.op=(-1))then
  (
  (G.z3z t.name t.sort).bind λr6=>
  (G.z4c s (Tm.mk t.op t.name t.sort t.args)).bind λr8=>
  K (Tm.mk r6.op r6.name r6.sort r6.args) r8
  )
 else
  (G.z38 t.op 0 (wr ((List.length s.ops:Int)-1))).bind λr9=>
  bif !r9 then
   (K (Tm.mk 0 ByteArray.empty 0 []) false)
  else
   bif !sEq t.name ByteArray.empty then
    (K (Tm.mk 0 ByteArray.empty 0 []) false)
   else
    bif !decide (t.sort=0)then
     (K (Tm.mk 0 ByteArray.empty 0 []) false)
    else
     l7 G n n s.sorts.names s.sorts.subs s.ops t.op t.name t.sort t.args 0 ByteArray.empty 0 [] 0 []
      (λt5 h04 h05 h06 h15=>K (Tm.mk h04 h05 h06 h15) t5)
      (fun h42 =>
       (G.z4a s t.op h42).bind λr10=>
       K (Tm.mk r10.1.op r10.1.name r10.1.sort r10.1.args) r10.2
      )
noncomputable def dl7 (G:Gs) (n m:Nat) (R:Type) (st:St) (K:Kt R):Option R:=match st with
 |⟨[(2,.one (.p 0 0)),(3,.one (.p 1 0)),(4,.one (.p 2 0)),(6,.one (.o 4)),(7,.one (.i i))],[.box [.l .s h0,.l (.n 5) h02,.l (.n 8) h03],.box [.i h1,.s h12,.i h13,.l (.n 1) h14],.box [.i h2,.s h22,.i h23,.o 3],.row (.n 1) 0 h3,.row (.n 1) 0 h4]⟩=>l7 G n m h0 h02 h03 h1 h12 h13 h14 h2 h22 h23 h3 i h4 (λt5 h04 h05 h06 h15=>K .ret ⟨[(4,.one (.p 0 0)),(5,.one (.b t5))],[.box [.i h04,.s h05,.i h06,.o 1],.row (.n 1) 0 h15]⟩) (λh42=>K (.exit 0) ⟨[(2,.one (.p 0 0)),(3,.one (.p 1 0)),(4,.one (.p 2 0)),(6,.one (.o 4))],[.box [.l .s h0,.l (.n 5) h02,.l (.n 8) h03],.box [.i h1,.s h12,.i h13,.l (.n 1) h14],.box [.i h2,.s h22,.i h23,.o 3],.row (.n 1) 0 h3,.row (.n 1) 0 h42]⟩)
 |_=>none
noncomputable def pc (G:Gs) (n:Nat):Pcs:=⟨λR id st K=>bif Nat.beq id 7 then dl7 G n n R st K else none,nK,nK⟩
noncomputable def an:Ann:=⟨72,0,[(7,[2,3,4,6,7])],[],[4,5],[(2,⟨[([0,1,2,3,4,5,6,7,8,9],[8],[])],[8],[],[0,1],[]⟩),(9,⟨[([10,0,1,2,3,4,5,6,7,8,11,9,12],[10,11],[])],[10,11],[],[0,1,2,3,4],[]⟩)],[]⟩
noncomputable abbrev bd:=aj Tryz.f125
noncomputable abbrev q7:=ak [1,1,1,1,0,1,0,0] bd
theorem pl7 {G:Gs} (hG:AE (ac G)) (n:Nat):∀m,PO an (.loop q7) (dl7 G n m):=lpc hG (pc G n) [2,3,4,6,7] ⟨[2,3,4,6],[4,5],[(0,[2,3,4,6])]⟩ (apl [] trivial) (λR st K=>by unfold dl7;split<;>rfl) λm R st K r h=>by unfold dl7 at h;split at h;exact .trans (by kernel_rfl) h;cases h
theorem ok {G:Gs} (hG:AE (ac G)) {g:Q} (hg:∀s t r,g s t=some r->∃n,main (R:=AT×List Ob) G n s t (λr0 r1=>some (.tup [.agg [.i r0.op,.s r0.name,.i r0.sort,.l (.n 1) r0.args],.one (.b r1)],[]))=some (.tup [.agg [.i r.1.op,.s r.1.name,.i r.1.sort,.l (.n 1) r.1.args],.one (.b r.2)],[])):EO (ent g):=λR xs H K r hc=>by
 simp only[ent]at hc;split at hc
 ·exact okL hc λr j=>let⟨n,j⟩:=hg _ _ _ j;fF hG an (pc G n) Tryz.func125 j (apl [(1,7,.loop q7)] ⟨pl7 hG n n,trivial⟩)
 ·cases hc
end z43
namespace z44
structure Gs where
 z40:z40.Q
 z4c:z4c.Q
 z38:z38.Q
 z43:z43.Q
 z4b:z4b.Q
noncomputable def ac (G:Gs):List Ent:=[z40.ent G.z40,z4c.ent G.z4c,z38.ent G.z38,z43.ent G.z43,z4b.ent G.z4b]
noncomputable def b7 {R:Type} (G:Gs) (n:Nat) (h0:LB) (h02:LS) (h03:LO) (h1:Int) (h12:ByteArray) (h13:Int) (h14:LT) (h2:Int) (h22:ByteArray) (h23:Int) (h3:LT) (i:Int) (h4:LT) (nx:Int->LT->Option R) (k0:Bool->Int->ByteArray->Int->LT->Option R) (k1:LT->Option R):Option R:=
 bif decide (i<(List.length h14:Int))then
  (
  (ix h14 i).bind λe2=>
  (G.z43 (Sg.mk (So.mk h0 h02) h03) (Tm.mk e2.op e2.name e2.sort e2.args)).bind λr2=>
  bif !r2.2 then
   (k0 false 0 ByteArray.empty 0 [])
  else
   (lim (h4++[(Tm.mk r2.1.op r2.1.name r2.1.sort r2.1.args)])).bind λzs=>
   nx (wr (i+1)) zs
  )
 else
  k1 h4
noncomputable def l7 {R:Type} (G:Gs) (n m:Nat) (h0:LB) (h02:LS) (h03:LO) (h1:Int) (h12:ByteArray) (h13:Int) (h14:LT) (h2:Int) (h22:ByteArray) (h23:Int) (h3:LT) (i:Int) (h4:LT) (k0:Bool->Int->ByteArray->Int->LT->Option R) (k1:LT->Option R):Option R:=aB (λ(v:Int×LT) nx=>b7 G n h0 h02 h03 h1 h12 h13 h14 h2 h22 h23 h3 v.1 v.2 (λy0 y1=>nx (y0,y1)) k0 k1) m (i,h4)
noncomputable def main {R:Type} (G:Gs) (n:Nat) (s:Sg) (t:Tm) (K:Tm->Bool->Option R):Option R:=
 bif decide (t.op=(-1))then
  (
  (G.z40 t.name t.sort).bind λr4=>
  (G.z4c s (Tm.mk t.op t.name t.sort t.args)).bind λr6=>
  K (Tm.mk r4.op r4.name r4.sort r4.args) r6
  )
 else
  (G.z38 t.op 0 (wr ((List.length s.ops:Int)-1))).bind λr7=>
  bif !r7 then
   (K (Tm.mk 0 ByteArray.empty 0 []) false)
  else
   bif !sEq t.name ByteArray.empty then
    (K (Tm.mk 0 ByteArray.empty 0 []) false)
   else
    bif !decide (t.sort=0)then
     (K (Tm.mk 0 ByteArray.empty 0 []) false)
    else
     l7 G n n s.sorts.names s.sorts.subs s.ops t.op t.name t.sort t.args 0 ByteArray.empty 0 [] 0 []
      (λt5 h04 h05 h06 h15=>K (Tm.mk h04 h05 h06 h15) t5)
      (fun h42 =>
       (G.z4b s t.op h42).bind λr8=>
       K (Tm.mk r8.1.op r8.1.name r8.1.sort r8.1.args) r8.2
      )
noncomputable def dl7 (G:Gs) (n m:Nat) (R:Type) (st:St) (K:Kt R):Option R:=match st with
 |⟨[(2,.one (.p 0 0)),(3,.one (.p 1 0)),(4,.one (.p 2 0)),(6,.one (.o 4)),(7,.one (.i i))],[.box [.l .s h0,.l (.n 5) h02,.l (.n 8) h03],.box [.i h1,.s h12,.i h13,.l (.n 1) h14],.box [.i h2,.s h22,.i h23,.o 3],.row (.n 1) 0 h3,.row (.n 1) 0 h4]⟩=>l7 G n m h0 h02 h03 h1 h12 h13 h14 h2 h22 h23 h3 i h4 (λt5 h04 h05 h06 h15=>K .ret ⟨[(4,.one (.p 0 0)),(5,.one (.b t5))],[.box [.i h04,.s h05,.i h06,.o 1],.row (.n 1) 0 h15]⟩) (λh42=>K (.exit 0) ⟨[(2,.one (.p 0 0)),(3,.one (.p 1 0)),(4,.one (.p 2 0)),(6,.one (.o 4))],[.box [.l .s h0,.l (.n 5) h02,.l (.n 8) h03],.box [.i h1,.s h12,.i h13,.l (.n 1) h14],.box [.i h2,.s h22,.i h23,.o 3],.row (.n 1) 0 h3,.row (.n 1) 0 h42]⟩)
 |_=>none
noncomputable def pc (G:Gs) (n:Nat):Pcs:=⟨λR id st K=>bif Nat.beq id 7 then dl7 G n n R st K else none,nK,nK⟩
noncomputable def an:Ann:=⟨72,0,[(7,[2,3,4,6,7])],[],[4,5],[(2,⟨[([0,1,2,3,4,5,6,7,8,9],[4,8],[])],[4,8],[],[0,1],[]⟩),(9,⟨[([10,0,1,2,3,4,5,6,7,8,11,9,12],[10,11],[])],[10,11],[],[0,1,2,3,4],[]⟩)],[]⟩
noncomputable abbrev bd:=aj Tryz.f125
noncomputable abbrev q7:=ak [1,1,1,1,0,1,0,0] bd
theorem pl7 {G:Gs} (hG:AE (ac G)) (n:Nat):∀m,PO an (.loop q7) (dl7 G n m):=lpc hG (pc G n) [2,3,4,6,7] ⟨[2,3,4,6],[4,5],[(0,[2,3,4,6])]⟩ (apl [] trivial) (λR st K=>by unfold dl7;split<;>rfl) λm R st K r h=>by unfold dl7 at h;split at h;exact .trans (by kernel_rfl) h;cases h
theorem ok {G:Gs} (hG:AE (ac G)) {g:Q} (hg:∀s t r,g s t=some r->∃n,main (R:=AT×List Ob) G n s t (λr0 r1=>some (.tup [.agg [.i r0.op,.s r0.name,.i r0.sort,.o 0],.one (.b r1)],[.row (.n 1) 0 r0.args]))=some (.tup [.agg [.i r.1.op,.s r.1.name,.i r.1.sort,.o 0],.one (.b r.2)],[.row (.n 1) 0 r.1.args])):EO (ent g):=λR xs H K r hc=>by
 simp only[ent]at hc;split at hc
 ·exact okL hc λr j=>let⟨n,j⟩:=hg _ _ _ j;fR hG an (pc G n) Tryz.func125 j (apl [(1,7,.loop q7)] ⟨pl7 hG n n,trivial⟩)
 ·cases hc
end z44
namespace z46
structure Gs where
 z4d:z4d.Q
 z44:z44.Q
noncomputable def ac (G:Gs):List Ent:=[z4d.ent G.z4d,z44.ent G.z44]
noncomputable def d4 {R:Type} (G:Gs) (n:Nat) (d:Int) (vars:Bool) (k:Int) (h0:LI) (h02 h03:Int) (h1:LB) (h12:LS) (h13:LO) (h2:Int) (h22:ByteArray) (h23:Int) (h3:LT) (k0:Bool->LI->Int->Int->Int->ByteArray->Int->LT->Option R):Option R:=
 (G.z4d (Cur.mk h0 h02 h03) (Sg.mk (So.mk h1 h12) h13) d vars).bind λr3=>
 (G.z44 (Sg.mk (So.mk h1 h12) h13) (Tm.mk r3.1.op r3.1.name r3.1.sort r3.1.args)).bind λr4=>
 k0 r4.2 (Cur.b r3.2) (Cur.i r3.2) (Cur.h r3.2) r4.1.op r4.1.name r4.1.sort r4.1.args
noncomputable def uN {R:Type} (G:Gs) (n:Nat) (d:Int) (vars:Bool) (k:Int) (h0:LI) (h02 h03:Int) (h1:LB) (h12:LS) (h13:LO) (h2:Int) (h22:ByteArray) (h23:Int) (h3:LT) (k0:Bool->LI->Int->Int->Int->ByteArray->Int->LT->Option R):Option R:=
 (G.z4d (Cur.mk h0 h02 h03) (Sg.mk (So.mk h1 h12) h13) d vars).bind λr=>
 (G.z44 (Sg.mk (So.mk h1 h12) h13) (Tm.mk r.1.op r.1.name r.1.sort r.1.args)).bind λr2=>
 k0 r2.2 (Cur.b r.2) (Cur.i r.2) (Cur.h r.2) r2.1.op r2.1.name r2.1.sort r2.1.args
theorem Ea {R:Type} (G:Gs) (n:Nat) (d:Int) (vars:Bool) (k:Int) (h0:LI) (h02 h03:Int) (h1:LB) (h12:LS) (h13:LO) (h2:Int) (h22:ByteArray) (h23:Int) (h3:LT) (k0:Bool->LI->Int->Int->Int->ByteArray->Int->LT->Option R):uN G n d vars k h0 h02 h03 h1 h12 h13 h2 h22 h23 h3 k0=d4 G n d vars k h0 h02 h03 h1 h12 h13 h2 h22 h23 h3 k0:=by
 unfold uN d4;generalize G.z4d (Cur.mk h0 h02 h03) (Sg.mk (So.mk h1 h12) h13) d vars=o0;cases o0<;>first|rfl|simp
noncomputable def uj {R:Type} (G:Gs) (n:Nat) (d:Int) (vars:Bool) (k:Int) (h0:LI) (h02 h03:Int) (h1:LB) (h12:LS) (h13:LO) (h2:Int) (h22:ByteArray) (h23:Int) (h3:LT) (k0:Bool->LI->Int->Int->Int->ByteArray->Int->LT->Option R):Option R:=
 (G.z4d (Cur.mk h0 h02 h03) (Sg.mk (So.mk h1 h12) h13) d vars).bind λr=>
 (G.z44 (Sg.mk (So.mk h1 h12) h13) (Tm.mk r.1.op r.1.name r.1.sort r.1.args)).bind λr2=>
 k0 r2.2 (Cur.b r.2) (Cur.i r.2) (Cur.h r.2) r2.1.op r2.1.name r2.1.sort r2.1.args
theorem D7 {R:Type} (G:Gs) (n:Nat) (d:Int) (vars:Bool) (k:Int) (h0:LI) (h02 h03:Int) (h1:LB) (h12:LS) (h13:LO) (h2:Int) (h22:ByteArray) (h23:Int) (h3:LT) (k0:Bool->LI->Int->Int->Int->ByteArray->Int->LT->Option R):uj G n d vars k h0 h02 h03 h1 h12 h13 h2 h22 h23 h3 k0=d4 G n d vars k h0 h02 h03 h1 h12 h13 h2 h22 h23 h3 k0:=by
 unfold uj d4;generalize G.z4d (Cur.mk h0 h02 h03) (Sg.mk (So.mk h1 h12) h13) d vars=o0;cases o0<;>first|rfl|simp
noncomputable def b2 {R:Type} (G:Gs) (n:Nat) (d:Int) (vars:Bool) (h1:LB) (h12:LS) (h13:LO) (h2:Int) (h22:ByteArray) (h23:Int) (h3:LT) (k:Int) (h0:LI) (h02 h03:Int) (nx:Int->LI->Int->Int->Option R) (k0:LI->Int->Int->Int->ByteArray->Int->LT->Option R) (k1:LI->Int->Int->Option R):Option R:=
 bif decide (k < 8) then
  (
  d4 G n d vars k h0 h02 h03 h1 h12 h13 h2 h22 h23 h3
   (fun ok h04 h05 h06 h4 h42 h43 h5 =>
    bif ok then
     (k0 h04 h05 h06 h4 h42 h43 h5)
    else
     nx (wr (k+1)) h04 h05 h06
   )
  )
 else
  k1 h0 h02 h03
noncomputable def l2 {R:Type} (G:Gs) (n m:Nat) (d:Int) (vars:Bool) (h1:LB) (h12:LS) (h13:LO) (h2:Int) (h22:ByteArray) (h23:Int) (h3:LT) (k:Int) (h0:LI) (h02 h03:Int) (k0:LI->Int->Int->Int->ByteArray->Int->LT->Option R) (k1:LI->Int->Int->Option R):Option R:=aB (λ(v:Int×LI×Int×Int) nx=>b2 G n d vars h1 h12 h13 h2 h22 h23 h3 v.1 v.2.1 v.2.2.1 v.2.2.2 (λy0 y1 y2 y3=>nx (y0,y1,y2,y3)) k0 k1) m (k,h0,h02,h03)
noncomputable def main {R:Type} (G:Gs) (n:Nat) (c:Cur) (s:Sg) (d:Int) (vars:Bool) (K:Tm->Cur->Option R):Option R:=
 l2 G n n d vars s.sorts.names s.sorts.subs s.ops 0 ByteArray.empty 0 [] 0 (Cur.b c) (Cur.i c) (Cur.h c)
  (λh04 h05 h06 h14 h15 h16 h24=>K (Tm.mk h14 h15 h16 h24) (Cur.mk h04 h05 h06))
  (λh042 h052 h062=>K (Tm.mk 0 ByteArray.empty 0 []) (Cur.mk h042 h052 h062))
noncomputable def dd4 (G:Gs) (n:Nat) (R:Type) (st:St) (K:Kt R):Option R:=match st with
 |⟨[(0,.one (.p 0 0)),(2,.one (.i d)),(3,.one (.b vars)),(5,.one (.p 1 0)),(8,.one (.p 2 0)),(9,.one (.i k))],[.box [.l .u h0,.i h02,.i h03],.box [.l .s h1,.l (.n 5) h12,.l (.n 8) h13],.box [.i h2,.s h22,.i h23,.o 3],.row (.n 1) 0 h3]⟩=>d4 G n d vars k h0 h02 h03 h1 h12 h13 h2 h22 h23 h3 (λok h04 h05 h06 h4 h42 h43 h5=>K .normal ⟨[(0,.one (.p 0 0)),(2,.one (.i d)),(3,.one (.b vars)),(5,.one (.p 1 0)),(8,.one (.p 2 0)),(9,.one (.i k)),(10,.one (.p 4 0)),(11,.one (.b ok))],[.box [.l .u h04,.i h05,.i h06],.box [.l .s h1,.l (.n 5) h12,.l (.n 8) h13],.box [.i h2,.s h22,.i h23,.o 3],.row (.n 1) 0 h3,.box [.i h4,.s h42,.i h43,.o 5],.row (.n 1) 0 h5]⟩)
 |_=>none
noncomputable def dl2 (G:Gs) (n m:Nat) (R:Type) (st:St) (K:Kt R):Option R:=match st with
 |⟨[(0,.one (.p 0 0)),(2,.one (.i d)),(3,.one (.b vars)),(5,.one (.p 1 0)),(8,.one (.p 2 0)),(9,.one (.i k))],[.box [.l .u h0,.i h02,.i h03],.box [.l .s h1,.l (.n 5) h12,.l (.n 8) h13],.box [.i h2,.s h22,.i h23,.o 3],.row (.n 1) 0 h3]⟩=>l2 G n m d vars h1 h12 h13 h2 h22 h23 h3 k h0 h02 h03 (λh04 h05 h06 h14 h15 h16 h24=>K .ret ⟨[(8,.one (.p 1 0))],[.box [.l .u h04,.i h05,.i h06],.box [.i h14,.s h15,.i h16,.o 2],.row (.n 1) 0 h24]⟩) (λh04 h05 h06=>K (.exit 0) ⟨[(8,.one (.p 1 0))],[.box [.l .u h04,.i h05,.i h06],.box [.i h2,.s h22,.i h23,.o 2],.row (.n 1) 0 h3]⟩)
 |_=>none
noncomputable def pc (G:Gs) (n:Nat):Pcs:=⟨λR id st K=>bif Nat.beq id 2 then dl2 G n n R st K else none,nK,λR id st K=>bif Nat.beq id 4 then dd4 G n R st K else none⟩
noncomputable def an:Ann:=⟨29,1,[(2,[0,2,3,5,8,9])],[],[8],[(4,⟨[([1,2,3,4,5,0,6,10,7,8,11,9,12],[5,6,10,11],[]),([1,2,3,4,5,10,0,6,7,8,11,9,12],[5,10,6,11],[]),([10,1,2,3,4,5,0,6,7,8,11,9,12],[10,5,6,11],[])],[5,6,10,11],[],[1,2,3],[0,2,3,5,8,9]⟩)],[]⟩
noncomputable abbrev bd:=aj Tryz.f80
noncomputable abbrev q4:=ak [1,0,1,0,0,1,0,0,0] bd
noncomputable abbrev q2:=ak [1,0,1,0,0] bd
theorem FG (G:Gs) (n:Nat) (R:Type) (d:Int) (vars:Bool) (k:Int) (h0:LI) (h02 h03:Int) (h1:LB) (h12:LS) (h13:LO) (h2:Int) (h22:ByteArray) (h23:Int) (h3:LT) (K:Kt R):(λS:St=>(λst1:St=>cG tb (ca (ac G)) an.nt an.im (fq (q4)) (db [1,2,3] st1.H) [1,2,3,4,5,0,6,10,7,8,11,9,12] [5,6,10,11] [] [] [1,2,3,4,5,0,6,10,7,8,11,9,12] st1.L st1.H st1.H λL H=>hU an.refs ⟨[0,2,3,5,8,9,10,11],[8],[(0,[8]),(1,[0,2,3,5,8,9])]⟩ K .normal ⟨L,H⟩) (bF (aG (St.L S) (St.H S) []) S)=dd4 G n R S K) ⟨[(0,.one (.p 0 0)),(2,.one (.i d)),(3,.one (.b vars)),(5,.one (.p 1 0)),(8,.one (.p 2 0)),(9,.one (.i k))],[.box [.l .u h0,.i h02,.i h03],.box [.l .s h1,.l (.n 5) h12,.l (.n 8) h13],.box [.i h2,.s h22,.i h23,.o 3],.row (.n 1) 0 h3]⟩:=by show _=_;kernel_rfl
theorem EB (G:Gs) (n:Nat) (R:Type) (d:Int) (vars:Bool) (k:Int) (h0:LI) (h02 h03:Int) (h1:LB) (h12:LS) (h13:LO) (h2:Int) (h22:ByteArray) (h23:Int) (h3:LT) (K:Kt R):(λst1:St=>cG tb (ca (ac G)) an.nt an.im (fq (q4)) (db [1,2,3] st1.H) [1,2,3,4,5,10,0,6,7,8,11,9,12] [5,10,6,11] [] [] [1,2,3,4,5,10,0,6,7,8,11,9,12] st1.L st1.H st1.H λL H=>hU an.refs ⟨[0,2,3,5,8,9,10,11],[8],[(0,[8]),(1,[0,2,3,5,8,9])]⟩ K .normal ⟨L,H⟩) (bF (aG (St.L ⟨[(0,.one (.p 0 0)),(2,.one (.i d)),(3,.one (.b vars)),(5,.one (.p 1 0)),(8,.one (.p 2 0)),(9,.one (.i k))],[.box [.l .u h0,.i h02,.i h03],.box [.l .s h1,.l (.n 5) h12,.l (.n 8) h13],.box [.i h2,.s h22,.i h23,.o 3],.row (.n 1) 0 h3]⟩) (St.H ⟨[(0,.one (.p 0 0)),(2,.one (.i d)),(3,.one (.b vars)),(5,.one (.p 1 0)),(8,.one (.p 2 0)),(9,.one (.i k))],[.box [.l .u h0,.i h02,.i h03],.box [.l .s h1,.l (.n 5) h12,.l (.n 8) h13],.box [.i h2,.s h22,.i h23,.o 3],.row (.n 1) 0 h3]⟩) []) ⟨[(0,.one (.p 0 0)),(2,.one (.i d)),(3,.one (.b vars)),(5,.one (.p 1 0)),(8,.one (.p 2 0)),(9,.one (.i k))],[.box [.l .u h0,.i h02,.i h03],.box [.l .s h1,.l (.n 5) h12,.l (.n 8) h13],.box [.i h2,.s h22,.i h23,.o 3],.row (.n 1) 0 h3]⟩)=uN G n d vars k h0 h02 h03 h1 h12 h13 h2 h22 h23 h3 (λok h04 h05 h06 h4 h42 h43 h5=>K .normal ⟨[(0,.one (.p 0 0)),(2,.one (.i d)),(3,.one (.b vars)),(5,.one (.p 1 0)),(8,.one (.p 2 0)),(9,.one (.i k)),(10,.one (.p 4 0)),(11,.one (.b ok))],[.box [.l .u h04,.i h05,.i h06],.box [.l .s h1,.l (.n 5) h12,.l (.n 8) h13],.box [.i h2,.s h22,.i h23,.o 3],.row (.n 1) 0 h3,.box [.i h4,.s h42,.i h43,.o 5],.row (.n 1) 0 h5]⟩):=by kernel_rfl
theorem Et (G:Gs) (n:Nat) (R:Type) (d:Int) (vars:Bool) (k:Int) (h0:LI) (h02 h03:Int) (h1:LB) (h12:LS) (h13:LO) (h2:Int) (h22:ByteArray) (h23:Int) (h3:LT) (K:Kt R):(λst1:St=>cG tb (ca (ac G)) an.nt an.im (fq (q4)) (db [1,2,3] st1.H) [10,1,2,3,4,5,0,6,7,8,11,9,12] [10,5,6,11] [] [] [10,1,2,3,4,5,0,6,7,8,11,9,12] st1.L st1.H st1.H λL H=>hU an.refs ⟨[0,2,3,5,8,9,10,11],[8],[(0,[8]),(1,[0,2,3,5,8,9])]⟩ K .normal ⟨L,H⟩) (bF (aG (St.L ⟨[(0,.one (.p 0 0)),(2,.one (.i d)),(3,.one (.b vars)),(5,.one (.p 1 0)),(8,.one (.p 2 0)),(9,.one (.i k))],[.box [.l .u h0,.i h02,.i h03],.box [.l .s h1,.l (.n 5) h12,.l (.n 8) h13],.box [.i h2,.s h22,.i h23,.o 3],.row (.n 1) 0 h3]⟩) (St.H ⟨[(0,.one (.p 0 0)),(2,.one (.i d)),(3,.one (.b vars)),(5,.one (.p 1 0)),(8,.one (.p 2 0)),(9,.one (.i k))],[.box [.l .u h0,.i h02,.i h03],.box [.l .s h1,.l (.n 5) h12,.l (.n 8) h13],.box [.i h2,.s h22,.i h23,.o 3],.row (.n 1) 0 h3]⟩) []) ⟨[(0,.one (.p 0 0)),(2,.one (.i d)),(3,.one (.b vars)),(5,.one (.p 1 0)),(8,.one (.p 2 0)),(9,.one (.i k))],[.box [.l .u h0,.i h02,.i h03],.box [.l .s h1,.l (.n 5) h12,.l (.n 8) h13],.box [.i h2,.s h22,.i h23,.o 3],.row (.n 1) 0 h3]⟩)=uj G n d vars k h0 h02 h03 h1 h12 h13 h2 h22 h23 h3 (λok h04 h05 h06 h4 h42 h43 h5=>K .normal ⟨[(0,.one (.p 0 0)),(2,.one (.i d)),(3,.one (.b vars)),(5,.one (.p 1 0)),(8,.one (.p 2 0)),(9,.one (.i k)),(10,.one (.p 4 0)),(11,.one (.b ok))],[.box [.l .u h04,.i h05,.i h06],.box [.l .s h1,.l (.n 5) h12,.l (.n 8) h13],.box [.i h2,.s h22,.i h23,.o 3],.row (.n 1) 0 h3,.box [.i h4,.s h42,.i h43,.o 5],.row (.n 1) 0 h5]⟩):=by kernel_rfl
theorem pd4 {G:Gs} (hG:AE (ac G)) {n:Nat}:PO an (q4) (dd4 G n):=by
 have hc:q4= .region 4 (fq (q4)) true:=by kernel_rfl
 rw[hc];refine λ[Zb]=>jO mixed de (cB hG) (o:=⟨[0,2,3,5,8,9,10,11],[8],[(0,[8]),(1,[0,2,3,5,8,9])]⟩) (d:=⟨[([1,2,3,4,5,0,6,10,7,8,11,9,12],[5,6,10,11],[]),([1,2,3,4,5,10,0,6,7,8,11,9,12],[5,10,6,11],[]),([10,1,2,3,4,5,0,6,7,8,11,9,12],[10,5,6,11],[])],[5,6,10,11],[],[1,2,3],[0,2,3,5,8,9]⟩) (by kernel_rfl) (λp hp R st K r h=> ?_)
 have e:=h;unfold dd4 at e;split at e
 ·rename_i x0 x1 x2 x3 x4 x5 x6 x7 x8 x9 x10 x11 x12;simp only[List.mem_cons,List.not_mem_nil,or_false]at hp;rcases hp with rfl|rfl|rfl
  ·exact(FG G n R x0 x1 x2 x3 x4 x5 x6 x7 x8 x9 x10 x11 x12 K).trans h
  ·exact((EB G n R x0 x1 x2 x3 x4 x5 x6 x7 x8 x9 x10 x11 x12 K).trans (Ea G n  x0 x1 x2 x3 x4 x5 x6 x7 x8 x9 x10 x11 x12 _)).trans h
  ·exact((Et G n R x0 x1 x2 x3 x4 x5 x6 x7 x8 x9 x10 x11 x12 K).trans (D7 G n  x0 x1 x2 x3 x4 x5 x6 x7 x8 x9 x10 x11 x12 _)).trans h
 ·cases e
theorem pl2 {G:Gs} (hG:AE (ac G)) (n:Nat):∀m,PO an (.loop q2) (dl2 G n m):=lpc hG (pc G n) [0,2,3,5,8,9] ⟨[8],[8],[(0,[8])]⟩ (apl [(2,4,q4)] ⟨pd4 hG,trivial⟩) (λR st K=>by unfold dl2;split<;>rfl) λm R st K r h=>by unfold dl2 at h;split at h;exact .trans (by kernel_rfl) h;cases h
theorem ok {G:Gs} (hG:AE (ac G)) {g:Q} (hg:∀c s d vars r,g c s d vars=some r->∃n,main (R:=AT×List Ob) G n c s d vars (λr0 r1=>some (.agg [.i r0.op,.s r0.name,.i r0.sort,.o 1],[.box [.l .u (Cur.b r1),.i (Cur.i r1),.i (Cur.h r1)],.row (.n 1) 0 r0.args]))=some (.agg [.i r.1.op,.s r.1.name,.i r.1.sort,.o 1],[.box [.l .u (Cur.b r.2),.i (Cur.i r.2),.i (Cur.h r.2)],.row (.n 1) 0 r.1.args])):EO (ent g):=λR xs H K r hc=>by
 simp only[ent]at hc;split at hc
 ·exact okL hc λr j=>let⟨n,j⟩:=hg _ _ _ _ _ j;fR hG an (pc G n) Tryz.func80 j (apl [(1,2,.loop q2)] ⟨pl2 hG n n,trivial⟩)
 ·cases hc
end z46
theorem FV {R:Type} (G:z4a.Gs) (n:Nat) (s:Sg) (op:Int) (args:List Tm) (K:Tm->Bool->Option R):z4b.main ⟨G.z3g,G.z3i,G.z4g,G.z48,G.z3y,G.z3u,G.z32,G.z3s,G.z4f⟩ n s op args K=z4a.main G n s op args K:=rfl
theorem Fe {R:Type} (G:z3u.Gs) (n:Nat) (t:Tm) (K:Tm->Option R):z3v.main ⟨G.z3u⟩ n t K=z3u.main G n t K:=rfl
theorem yS {R:Type} (G:z3s.Gs) (n:Nat) (t:List Tm) (K:List Tm->Option R):z3t.main ⟨G.z3u⟩ n t K=z3s.main G n t K:=rfl
theorem B7 {R:Type} (G:z43.Gs) (n:Nat) (s:Sg) (t:Tm) (K:Tm->Bool->Option R):z44.main ⟨G.z3z,G.z4c,G.z38,G.z43,G.z4a⟩ n s t K=z43.main G n s t K:=rfl
theorem rZ :EO (z4h.ent kR):=z4h.ok (G:=⟨()⟩) trivial λs op r h=>by
 unfold kR at h;split at h
 ·rename_i hs;obtain⟨o,ho,rfl⟩:=Option.map_eq_some_iff.1 h;have hk:=fu   hs (aZ     ho).1;have hu1:=hk.u1;have hol:s.ops.length<=14:=(dm         hs).1;refine⟨1,?_⟩;unfold z4h.main;rw[ho,bS];by_cases hu:o.unit=0
  ·rw[dT hu,cT,if_pos hu]
  ·rw[dF hu,cF,bS,if_neg hu,ai (x:=o.unit-1) (by have:=hk.u0;omega)];rfl
 ·cases h
theorem rH (k:Nat) (hk:k<4294967296):EO (z3v.ent (gCp (k+1))):=z3v.ok (G:=⟨gCp k⟩) ⟨fZ k (by omega),trivial⟩ λt r h=>by
 unfold gCp at h;split at h
 ·rename_i hs;cases h;have ht:=aC t;have hl:=aV t.args;refine⟨t.args.length+1,(Fe ⟨gCp k⟩ _ _ _).trans ?_⟩;unfold z3u.main;exact qR (t.args.length+1) k _ _ _ _ _ _ _ _ _ _ t.args (λx hx=>by have:=al hx;omega) _ (t.args.length+1) 0 (by omega) (by omega) (by omega)
 ·cases h
theorem ot (k:Nat) (hk:k<=4294967296):EO (z3t.ent (iv k)):=z3t.ok (G:=⟨gCp k⟩) ⟨fZ k hk,trivial⟩ λ(l:List Tm) r h=>by
 unfold iv at h;split at h
 ·rename_i hs;cases h;have hl:=aV l;refine⟨l.length+1,(yS ⟨gCp k⟩ _ _ _).trans ?_⟩;unfold z3s.main;exact oK (l.length+1) k l (λx hx=>by have:=gG hx;omega) _ (l.length+1) 0 (by omega) (by omega) (by omega)
 ·cases h
noncomputable abbrev GMo:z4b.Gs:=⟨cV,gAr,kR,gp,io 4294967296,gCp 4294967296,lx 4294967296,iv 4294967296,gSm 4294967296⟩
theorem sK :EO (z4b.ent j4):=z4b.ok (G:=GMo) ⟨dy,gw,rZ,lE,lB 4294967296 (Nat.le_refl _),rH 4294967295 (by omega),z33 4294967296 (Nat.le_refl _),ot 4294967296 (Nat.le_refl _),jU 4294967296 (Nat.le_refl _),trivial⟩ λs op args r h=>by
 unfold j4 at h;split at h
 ·rename_i hs;obtain⟨hS,hg,hb⟩:=hs;obtain⟨o,ho,rfl⟩:=Option.map_eq_some_iff.1 h;exact⟨args.length+1,(FV GM _ _ _ _ _).trans ((yU hS ho args hg hb _).trans rfl)⟩
 ·cases h
def FJ (k:Nat) (g:Sg->Tm->Option (Tm×Bool)):Prop:=∀s t,(aM s=true/\t.total<k/\t.total<=900)->∃r,g s t=some r/\(r.2=true->Sm s r.1)
noncomputable abbrev gCa (gC:Sg->Tm->Option (Tm×Bool)):z43.Gs:=⟨λx k=>some (Tm.mk (-1) x k []),iF,ov,gC,j4⟩
theorem yR {gC:Sg->Tm->Option (Tm×Bool)} {k:Nat} (hC:FJ k gC) {s:Sg} (hS:aM s=true) (n:Nat) (h1:Int) (h12:ByteArray) (h13:Int) (h2:Int) (h22:ByteArray) (h23:Int) (h3:List Tm) (xs:List Tm) (hx:∀x∈xs,x.total<k/\x.total<=900) (hl:xs.length<=900):∀m (i:Nat) (acc:List Tm),i<=xs.length->acc.length=i->(∀x∈acc,Sm s x)->xs.length-i<m->
  (∃l,(∀x∈l,Sm s x)/\l.length=xs.length/\∀(R:Type) (k0:Bool->Int->ByteArray->Int->List Tm->Option R) (k1:List Tm->Option R),z43.l7 (gCa gC) n m s.sorts.names s.sorts.subs s.ops h1 h12 h13 xs h2 h22 h23 h3 (i:Int) acc k0 k1=k1 l)\/
  (∀(R:Type) (k0:Bool->Int->ByteArray->Int->List Tm->Option R) (k1:List Tm->Option R),z43.l7 (gCa gC) n m s.sorts.names s.sorts.subs s.ops h1 h12 h13 xs h2 h22 h23 h3 (i:Int) acc k0 k1=k0 false 0 ByteArray.empty 0 []):=by
 intro m
 induction m with
 |zero=>intro i acc _ _ _ hm;omega
 | succ m ih =>
  intro i acc hi ha hs hm;have step:∀(R:Type) (k0:Bool->Int->ByteArray->Int->List Tm->Option R) (k1:List Tm->Option R),z43.l7 (gCa gC) n (m+1) s.sorts.names s.sorts.subs s.ops h1 h12 h13 xs h2 h22 h23 h3 (i:Int) acc k0 k1=z43.b7 (gCa gC) n s.sorts.names s.sorts.subs s.ops h1 h12 h13 xs h2 h22 h23 h3 (i:Int) acc (λy0 y1=>z43.l7 (gCa gC) n m s.sorts.names s.sorts.subs s.ops h1 h12 h13 xs h2 h22 h23 h3 y0 y1 k0 k1) k0 k1:=λR k0 k1=>rfl;by_cases hlt:i<xs.length
  ·have x1:xs[i]? =some xs[i]:=gE hlt;obtain⟨b1,b2⟩:=hx xs[i] (gM hlt);obtain⟨⟨t,q⟩,e1,g1⟩:=hC s xs[i] ⟨hS,b1,b2⟩;have es:Sg.mk (So.mk s.sorts.names s.sorts.subs) s.ops=s:=rfl;cases q with
   | false =>
    refine .inr λR k0 k1=> ?_;rw[step];unfold z43.b7;dsimp only;rw[dT (by omega),cT,aJ x1,bS,Tm.eta,es,e1,bS];rfl
   | true =>
    have hz:(acc++[t]).length=i+1:=by simp[ha]
    have adv:∀(R:Type) (k0:Bool->Int->ByteArray->Int->List Tm->Option R) (k1:List Tm->Option R),z43.l7 (gCa gC) n (m+1) s.sorts.names s.sorts.subs s.ops h1 h12 h13 xs h2 h22 h23 h3 (i:Int) acc k0 k1=z43.l7 (gCa gC) n m s.sorts.names s.sorts.subs s.ops h1 h12 h13 xs h2 h22 h23 h3 ((i+1:Nat):Int) (acc++[t]) k0 k1:=λR k0 k1=>by
     rw[step];unfold z43.b7;dsimp only;rw[dT (by omega),cT,aJ x1,bS,Tm.eta,es,e1,bS,Bool.not_true,cF];simp only[Tm.eta];rw[bQ (by omega),bS,bu (by omega)]
    rcases ih (i+1) (acc++[t]) hlt hz (λx hx=>by
     rcases List.mem_append.1 hx with hx|hx
     ·exact hs x hx
     ·rw[List.mem_singleton.1 hx];exact g1 rfl) (by omega)with⟨l,q1,q2,q3⟩|q1
    ·exact .inl ⟨l,q1,q2,λR k0 k1=>(adv R k0 k1).trans (q3 R k0 k1)⟩
    ·exact .inr λR k0 k1=>(adv R k0 k1).trans (q1 R k0 k1)
  ·refine .inl ⟨acc,hs,by omega,λR k0 k1=> ?_⟩;rw[step];unfold z43.b7;rw[dF (by omega),cF]
theorem BT {s:Sg} (hS:aM s=true) {op:Int} {o:Opr} (ho:ix s.ops op=some o) {l:List Tm} (hl:∀x∈l,Sm s x) (h:(cz s o op l).2=true):Sm s (cz s o op l).1:=by
 obtain⟨m1,m2⟩:=sO s o op l;rw[m1]at h;obtain⟨t,ht⟩:=Option.isSome_iff_exists.1 h;rw[m2 t ht];exact sk hS ho hl ht
theorem rq {gC:Sg->Tm->Option (Tm×Bool)} {k:Nat} (hC:FJ k gC) {s:Sg} (hS:aM s=true) (t:Tm) (ht:t.total<k+1) (h9:t.total<=900):∃r q,(q=true->Sm s r)/\∀(R:Type) (K:Tm->Bool->Option R),z43.main (gCa gC) (t.args.length+1) s t K=K r q:=by
 have hlen:=aV t.args;have htot:=aC t;obtain⟨hol,_⟩:=qo hS;by_cases h1:t.op= -1
 ·refine⟨Tm.mk (-1) t.name t.sort [],dZ    s t,λhn=> ?_,λR K=> ?_⟩
  ·unfold dZ at hn;rw[if_pos h1]at hn;unfold inN at hn;simp only[bA,decide_eq_true_eq]at hn;exact⟨.var hn.2.1.1 hn.2.1.2 hn.1,by rw[fk];simp[wS]⟩
  ·unfold z43.main;dsimp only;rw[dT h1,cT,bS,Tm.eta,show iF s t=some (dZ s t)from if_pos ⟨hS,by omega⟩,bS]
 ·have no:∀(R:Type) (K:Tm->Bool->Option R),(inN s.ops.length t.op&&(sEq t.name ByteArray.empty&&decide (t.sort=0)))=false->z43.main (gCa gC) (t.args.length+1) s t K=K (Tm.mk 0 ByteArray.empty 0 []) false:=λR K hb=>by
   unfold z43.main;dsimp only;rw[dF h1,cF,qN (by omega),bS];cases e1:inN s.ops.length t.op with
   |false=>rfl
   | true => cases e2 : sEq t.name ByteArray.empty with
    |false=>rfl
    | true =>
     rw[e1,e2,Bool.true_and,Bool.true_and]at hb;rw[hb];rfl
  cases hb:(inN s.ops.length t.op&&(sEq t.name ByteArray.empty&&decide (t.sort=0)))with
  |false=>exact⟨_,false,(λh=>by cases h),λR K=>no R K hb⟩
  | true =>
   simp only[bA]at hb;obtain⟨b1,b2,b3⟩:=hb;have hin:=b1;unfold inN at hin;simp only[bA,decide_eq_true_eq]at hin;have ho:ix s.ops t.op=some s.ops[t.op.toNat]:=by
    unfold ix;rw[dT hin.1,cT];exact gE (by omega)
   have go:∀(R:Type) (K:Tm->Bool->Option R),z43.main (gCa gC) (t.args.length+1) s t K=z43.l7 (gCa gC) (t.args.length+1) (t.args.length+1) s.sorts.names s.sorts.subs s.ops t.op t.name t.sort t.args 0 ByteArray.empty 0 [] (0:Int) [] (λt5 h04 h05 h06 h15=>K (Tm.mk h04 h05 h06 h15) t5) (λh42=>Option.bind (j4 s t.op h42) λr10=>K (Tm.mk (Tm.op r10.1) (Tm.name r10.1) (Tm.sort r10.1) (Tm.args r10.1)) r10.2):=λR K=>by
    unfold z43.main;dsimp only;rw[dF h1,cF,qN (by omega),bS,b1,b2,b3];rfl
   rcases yR hC hS (t.args.length+1) t.op t.name t.sort 0 ByteArray.empty 0 [] t.args (λx hx=>by have:=al hx;omega) (by omega) (t.args.length+1) 0 [] (Nat.zero_le _) rfl (λx hx=>by simp at hx) (by omega)with⟨l,q1,q2,q3⟩|q1
   ·have hm:j4    s t.op l=some (cz    s s.ops[t.op.toNat] t.op l):=by
     unfold j4;rw[if_pos ⟨hS,λa ha=>(q1 a ha).1,by have:=lb q1;omega⟩,ho];rfl
    refine⟨(cz s s.ops[t.op.toNat] t.op l).1,(cz s s.ops[t.op.toNat] t.op l).2,BT hS ho q1,λR K=>(go R K).trans ((q3 R _ _).trans ?_)⟩;rw[hm,bS,Tm.eta]
   ·exact⟨_,false,(λh=>by cases h),λR K=>(go R K).trans (q1 R _ _)⟩
theorem AM :EO (z43.ent λ_ _=>none):=λR xs H K r h=>by
 simp only[z43.ent]at h;split at h<;>simp at h
theorem lI :∀k:Nat,∃g,EO (z43.ent g)/\FJ k g
 |0=>⟨_,AM,λs t ⟨_,h,_⟩=>absurd h (Nat.not_lt_zero _)⟩
 | k + 1 => by
  obtain⟨gC,eC,hC⟩:=lI k;exact iJ (λg hg=>z43.ok (G:=gCa gC) ⟨zw,lp,iW,eC,wk,trivial⟩ hg) λs t ⟨hS,h1,h2⟩=>by
   obtain⟨r,q,q1,q2⟩:=rq hC hS t h1 h2;exact⟨(r,q),⟨t.args.length+1,q2 _ _⟩,q1⟩
def zY (g:Sg->Tm->Option (Tm×Bool)):Prop:=∀s t,(aM s=true/\t.total<=900)->∃r,g s t=some r/\(r.2=true->Sm s r.1)
theorem rj :∃g,EO (z44.ent g)/\zY g:=by
 obtain⟨gC,eC,hC⟩:=lI 900;exact iJ (λg hg=>z44.ok (G:=⟨ij,iF,ov,gC,j4⟩) ⟨dH,lp,iW,eC,sK,trivial⟩ hg) λs t ⟨hS,h2⟩=>by
  obtain⟨r,q,q1,q2⟩:=rq hC hS t (by omega) h2;exact⟨(r,q),⟨t.args.length+1,(B7 (gCa gC) _ _ _ _).trans (q2 _ _)⟩,q1⟩
end Go.Proofs.YtfdkldmkbibknaaGreat.Den

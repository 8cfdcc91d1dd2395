/-
  Texts that the claim rests on, merged: PT1, IsT, IsS, IsSt.
-/
import Derived.Test.YtfdkldmkbibknaaGreatZRowTx12
import Derived.Test.YtfdkldmkbibknaaGreatZRowTx22

namespace Go.Proofs.YtfdkldmkbibknaaGreat.Den
open Go.RowKit
set_option maxRecDepth 100000
set_option linter.unusedVariables false
namespace z4c
structure Gs where
 z2s:z2s.Q
 z38:z38.Q
 z3i:z3i.Q
noncomputable def main {R:Type} (G:Gs) (n:Nat) (s:Sg) (t:Tm) (K:Bool->Option R):Option R:=
 bif decide (t.op=(-1))then
  (
  (G.z2s t.name).bind λr=>
  bif r then
   (
   (G.z38 t.sort 0 (wr ((List.length s.sorts.names:Int)-1))).bind λr2=>
   bif r2 then
    (K (decide ((List.length t.args:Int)=0)))
   else
    K false
   )
  else
   K false
  )
 else
  (G.z38 t.op 0 (wr ((List.length s.ops:Int)-1))).bind λr3=>
  bif !r3 then
   (K false)
  else
   bif !sEq t.name ByteArray.empty then
    (K false)
   else
    bif !decide (t.sort=0)then
     (K false)
    else
     (ix s.ops t.op).bind λe=>
     bif !e.assoc then
      (
      (G.z3i e).bind λr4=>
      bif !decide ((List.length t.args:Int)=r4)then
       (K false)
      else
       bif e.assoc then
        (
        (G.z38 (List.length t.args:Int) 2 7).bind λr5=>
        bif !r5 then
         (K false)
        else
         K true
        )
       else
        K true
      )
     else
      bif e.assoc then
       (
       (G.z38 (List.length t.args:Int) 2 7).bind λr6=>
       bif !r6 then
        (K false)
       else
        K true
       )
      else
       K true
theorem ok {G:Gs} (hG:AE [z2s.ent G.z2s,z38.ent G.z38,z3i.ent G.z3i]) {g:Q} (hg:∀s t r,g s t=some r->∃n,main (R:=AT×List Ob) G n s t (λr0=>some (.one (.b r0),[]))=some (.one (.b r),[])):EO (ent g):=λR xs H K r hc=>by
 simp only[ent]at hc;split at hc
 ·exact okL hc λr j=>let⟨_,j⟩:=hg _ _ _ j;fF hG ⟨74,0,[],[],[4],[],[]⟩ nP Tryz.func87 j
 ·cases hc
end z4c
namespace z4e
structure Gs where
 z3g:z3g.Q
 z4g:z4g.Q
 z48:z48.Q
 z3y:z3y.Q
 z2m:z2m.Q
noncomputable def ac (G:Gs):List Ent:=[z3g.ent G.z3g,z4g.ent G.z4g,z48.ent G.z48,z3y.ent G.z3y,z2m.ent G.z2m]
noncomputable def c13 {R:Type} (G:Gs) (n:Nat) (kinds:LI) (has:Bool) (i:Int) (h0:LB) (h02:LS) (h03:LO) (h1:Int) (h12:ByteArray) (h13:Int) (h14:LT) (h2:ByteArray) (h22:LD) (h23 h24:Bool) (h25 h3:Int) (h32:ByteArray) (h33:Int) (h34:LT) (h4:Int) (h42:ByteArray) (h43:Int) (h44:LT) (k0:Bool->Option R) (k1:Option R):Option R:=
 bif h24 then
  (
  bif decide (0<i)then
   (
   (ix h14 (wr (i-1))).bind λe2=>
   (G.z2m (Tm.mk e2.op e2.name e2.sort e2.args) (Tm.mk h4 h42 h43 h44)).bind λr2=>
   bif decide (0<r2)then
    (k0 false)
   else
    k1
   )
  else
   k1
  )
 else
  k1
noncomputable def c11 {R:Type} (G:Gs) (n:Nat) (kinds:LI) (has:Bool) (i at1:Int) (h0:LB) (h02:LS) (h03:LO) (h1:Int) (h12:ByteArray) (h13:Int) (h14:LT) (h2:ByteArray) (h22:LD) (h23 h24:Bool) (h25 h3:Int) (h32:ByteArray) (h33:Int) (h34:LT) (h4:Int) (h42:ByteArray) (h43:Int) (h44:LT) (k0:Bool->Option R) (k1:Option R):Option R:=
 (G.z48 (Sg.mk (So.mk h0 h02) h03) (Tm.mk h4 h42 h43 h44)).bind λr2=>
 (ix h22 0).bind λe2=>
 (ix e2.args at1).bind λe4=>
 (ix kinds e4).bind λe6=>
 bif !decide (r2=e6)then
  (k0 false)
 else
  bif h23 then
   (
   bif decide (h4=h1)then
    (k0 false)
   else
    bif has then
     (
     (G.z3y (Tm.mk h4 h42 h43 h44) (Tm.mk h3 h32 h33 h34)).bind λr4=>
     bif r4 then
      (k0 false)
     else
      c13 G n kinds has i h0 h02 h03 h1 h12 h13 h14 h2 h22 h23 h24 h25 h3 h32 h33 h34 h4 h42 h43 h44
       (λt4=>k0 t4)
       (k1)
     )
    else
     c13 G n kinds has i h0 h02 h03 h1 h12 h13 h14 h2 h22 h23 h24 h25 h3 h32 h33 h34 h4 h42 h43 h44
      (λt42=>k0 t42)
      (k1)
   )
  else
   bif has then
    (
    (G.z3y (Tm.mk h4 h42 h43 h44) (Tm.mk h3 h32 h33 h34)).bind λr6=>
    bif r6 then
     (k0 false)
    else
     c13 G n kinds has i h0 h02 h03 h1 h12 h13 h14 h2 h22 h23 h24 h25 h3 h32 h33 h34 h4 h42 h43 h44
      (λt43=>k0 t43)
      (k1)
    )
   else
    c13 G n kinds has i h0 h02 h03 h1 h12 h13 h14 h2 h22 h23 h24 h25 h3 h32 h33 h34 h4 h42 h43 h44
     (λt44=>k0 t44)
     (k1)
noncomputable def b5 {R:Type} (G:Gs) (n:Nat) (kinds:LI) (has:Bool) (h0:LB) (h02:LS) (h03:LO) (h1:Int) (h12:ByteArray) (h13:Int) (h14:LT) (h2:ByteArray) (h22:LD) (h23 h24:Bool) (h25 h3:Int) (h32:ByteArray) (h33:Int) (h34:LT) (i:Int) (nx:Int->Option R) (k0:Bool->Option R) (k1:Option R):Option R:=
 bif decide (i<(List.length h14:Int))then
  (
  (ix h14 i).bind λe=>
  bif h23 then
   (
   c11 G n kinds has i 0 h0 h02 h03 h1 h12 h13 h14 h2 h22 h23 h24 h25 h3 h32 h33 h34 e.op e.name e.sort e.args
    (λt4=>k0 t4)
    (nx (wr (i+1)))
   )
  else
   c11 G n kinds has i i h0 h02 h03 h1 h12 h13 h14 h2 h22 h23 h24 h25 h3 h32 h33 h34 e.op e.name e.sort e.args
    (λt42=>k0 t42)
    (nx (wr (i+1)))
  )
 else
  k1
noncomputable def l5 {R:Type} (G:Gs) (n m:Nat) (kinds:LI) (has:Bool) (h0:LB) (h02:LS) (h03:LO) (h1:Int) (h12:ByteArray) (h13:Int) (h14:LT) (h2:ByteArray) (h22:LD) (h23 h24:Bool) (h25 h3:Int) (h32:ByteArray) (h33:Int) (h34:LT) (i:Int) (k0:Bool->Option R) (k1:Option R):Option R:=aB (λ(v:Int) nx=>b5 G n kinds has h0 h02 h03 h1 h12 h13 h14 h2 h22 h23 h24 h25 h3 h32 h33 h34 v (λy0=>nx y0) k0 k1) m i
noncomputable def main {R:Type} (G:Gs) (n:Nat) (s:Sg) (t:Tm) (K:Bool->Option R):Option R:=
 (ix s.ops t.op).bind λe=>
 (G.z3g s.sorts).bind λr=>
 (G.z4g s t.op).bind λr2=>
 l5 G n n r r2.2 s.sorts.names s.sorts.subs s.ops t.op t.name t.sort t.args e.name e.decls e.assoc e.comm e.unit r2.1.op r2.1.name r2.1.sort r2.1.args 0
  (λt4=>K t4)
  (K true)
noncomputable def jz (G:Gs) (n:Nat) (R:Type) (st:St) (K:Kt R):Option R:=match st with
 |⟨[(2,.one (.p 0 0)),(3,.one (.p 1 0)),(5,.one (.p 2 0)),(6,.one (.l .i kinds)),(7,.one (.p 3 0)),(8,.one (.b has)),(9,.one (.i i)),(10,.one (.p 4 0))],[.box [.l .s h0,.l (.n 5) h02,.l (.n 8) h03],.box [.i h1,.s h12,.i h13,.l (.n 1) h14],.box [.s h2,.l (.n 7) h22,.b h23,.b h24,.i h25],.box [.i h3,.s h32,.i h33,.l (.n 1) h34],.box [.i h4,.s h42,.i h43,.l (.n 1) h44]]⟩=>c13 G n kinds has i h0 h02 h03 h1 h12 h13 h14 h2 h22 h23 h24 h25 h3 h32 h33 h34 h4 h42 h43 h44 (λt4=>K .ret ⟨[(4,.one (.b t4))],[]⟩) (K .normal ⟨[(2,.one (.p 0 0)),(3,.one (.p 1 0)),(5,.one (.p 2 0)),(6,.one (.l .i kinds)),(7,.one (.p 3 0)),(8,.one (.b has)),(9,.one (.i i))],[.box [.l .s h0,.l (.n 5) h02,.l (.n 8) h03],.box [.i h1,.s h12,.i h13,.l (.n 1) h14],.box [.s h2,.l (.n 7) h22,.b h23,.b h24,.i h25],.box [.i h3,.s h32,.i h33,.l (.n 1) h34]]⟩)
 |_=>none
noncomputable def tm (G:Gs) (n:Nat) (R:Type) (st:St) (K:Kt R):Option R:=match st with
 |⟨[(2,.one (.p 0 0)),(3,.one (.p 1 0)),(5,.one (.p 2 0)),(6,.one (.l .i kinds)),(7,.one (.p 3 0)),(8,.one (.b has)),(9,.one (.i i)),(10,.one (.p 4 0)),(11,.one (.i at1))],[.box [.l .s h0,.l (.n 5) h02,.l (.n 8) h03],.box [.i h1,.s h12,.i h13,.l (.n 1) h14],.box [.s h2,.l (.n 7) h22,.b h23,.b h24,.i h25],.box [.i h3,.s h32,.i h33,.l (.n 1) h34],.box [.i h4,.s h42,.i h43,.l (.n 1) h44]]⟩=>c11 G n kinds has i at1 h0 h02 h03 h1 h12 h13 h14 h2 h22 h23 h24 h25 h3 h32 h33 h34 h4 h42 h43 h44 (λt4=>K .ret ⟨[(4,.one (.b t4))],[]⟩) (K .normal ⟨[(2,.one (.p 0 0)),(3,.one (.p 1 0)),(5,.one (.p 2 0)),(6,.one (.l .i kinds)),(7,.one (.p 3 0)),(8,.one (.b has)),(9,.one (.i i))],[.box [.l .s h0,.l (.n 5) h02,.l (.n 8) h03],.box [.i h1,.s h12,.i h13,.l (.n 1) h14],.box [.s h2,.l (.n 7) h22,.b h23,.b h24,.i h25],.box [.i h3,.s h32,.i h33,.l (.n 1) h34]]⟩)
 |_=>none
noncomputable def dl5 (G:Gs) (n m:Nat) (R:Type) (st:St) (K:Kt R):Option R:=match st with
 |⟨[(2,.one (.p 0 0)),(3,.one (.p 1 0)),(5,.one (.p 2 0)),(6,.one (.l .i kinds)),(7,.one (.p 3 0)),(8,.one (.b has)),(9,.one (.i i))],[.box [.l .s h0,.l (.n 5) h02,.l (.n 8) h03],.box [.i h1,.s h12,.i h13,.l (.n 1) h14],.box [.s h2,.l (.n 7) h22,.b h23,.b h24,.i h25],.box [.i h3,.s h32,.i h33,.l (.n 1) h34]]⟩=>l5 G n m kinds has h0 h02 h03 h1 h12 h13 h14 h2 h22 h23 h24 h25 h3 h32 h33 h34 i (λt4=>K .ret ⟨[(4,.one (.b t4))],[]⟩) (K (.exit 0) ⟨[],[]⟩)
 |_=>none
noncomputable def pc (G:Gs) (n:Nat):Pcs:=⟨λR id st K=>bif Nat.beq id 5 then dl5 G n n R st K else none,λR id st K=>bif Nat.beq id 13 then jz G n R st K else bif Nat.beq id 11 then tm G n R st K else none,nK⟩
noncomputable def an:Ann:=⟨94,0,[(5,[2,3,5,6,7,8,9])],[(13,[2,3,5,6,7,8,9,10]),(11,[2,3,5,6,7,8,9,10,11])],[4],[(11,⟨[([0,1,2,3,4,5,6,7,8,9,10,11,12,13,14,15,16,17,18,19,20,21,22,23,24,25,26,27,28,29,30,31,32,33],[],[])],[],[],[0,1,2,3,4],[]⟩),(13,⟨[([0,1,2,3,4,5,6,7,8,9,10,11,12,13,14,15,16],[],[])],[],[],[0,1,2,3,4],[]⟩)],[]⟩
noncomputable abbrev bd:=aj Tryz.f88
noncomputable abbrev q13:=ak [1,1,1,1,0,1,0,0,1,0,0,1,1,1,1] bd
noncomputable abbrev q11:=ak [1,1,1,1,0,1,0,0,1,0,0,1,1,1] bd
noncomputable abbrev q5:=ak [1,1,1,1,0,1,0,0] bd
theorem tw {G:Gs} (hG:AE (ac G)) {n:Nat}:PO an q13 (jz G n):=cpc hG (pc G n) ⟨[2,3,5,6,7,8,9],[4],[(0,[]),(1,[2,3,5,6,7,8,9])]⟩ (apl [] trivial) λR st K r h=>by unfold jz at h;split at h;exact .trans (by kernel_rfl) h;cases h
theorem Fb {G:Gs} (hG:AE (ac G)) {n:Nat}:PO an q11 (tm G n):=cpc hG (pc G n) ⟨[2,3,5,6,7,8,9],[4],[(0,[]),(1,[2,3,5,6,7,8,9])]⟩ (apl [(0,13,q13)] ⟨tw hG,trivial⟩) λR st K r h=>by unfold tm at h;split at h;exact .trans (by kernel_rfl) h;cases h
theorem pl5 {G:Gs} (hG:AE (ac G)) (n:Nat):∀m,PO an (.loop q5) (dl5 G n m):=lpc hG (pc G n) [2,3,5,6,7,8,9] ⟨[],[4],[(0,[])]⟩ (apl [(0,11,q11)] ⟨Fb hG,trivial⟩) (λR st K=>by unfold dl5;split<;>rfl) λm R st K r h=>by unfold dl5 at h;split at h;exact .trans (by kernel_rfl) h;cases h
theorem ok {G:Gs} (hG:AE (ac G)) {g:Q} (hg:∀s t r,g s t=some r->∃n,main (R:=AT×List Ob) G n s t (λr0=>some (.one (.b r0),[]))=some (.one (.b r),[])):EO (ent g):=λR xs H K r hc=>by
 simp only[ent]at hc;split at hc
 ·exact okL hc λr j=>let⟨n,j⟩:=hg _ _ _ j;fF hG an (pc G n) Tryz.func88 j (apl [(1,5,.loop q5)] ⟨pl5 hG n n,trivial⟩)
 ·cases hc
end z4e
namespace z47
structure Gs where
 z4c:z4c.Q
 z47:z47.Q
 z4e:z4e.Q
noncomputable def ac (G:Gs):List Ent:=[z4c.ent G.z4c,ent G.z47,z4e.ent G.z4e]
noncomputable def b4 {R:Type} (G:Gs) (n:Nat) (h0:LB) (h02:LS) (h03:LO) (h1:Int) (h12:ByteArray) (h13:Int) (h14:LT) (i:Int) (nx:Int->Option R) (k0:Bool->Option R) (k1:Option R):Option R:=
 bif decide (i<(List.length h14:Int))then
  (
  (ix h14 i).bind λe2=>
  (G.z47 (Sg.mk (So.mk h0 h02) h03) (Tm.mk e2.op e2.name e2.sort e2.args)).bind λr2=>
  bif !r2 then
   (k0 false)
  else
   nx (wr (i+1))
  )
 else
  k1
noncomputable def l4 {R:Type} (G:Gs) (n m:Nat) (h0:LB) (h02:LS) (h03:LO) (h1:Int) (h12:ByteArray) (h13:Int) (h14:LT) (i:Int) (k0:Bool->Option R) (k1:Option R):Option R:=aB (λ(v:Int) nx=>b4 G n h0 h02 h03 h1 h12 h13 h14 v (λy0=>nx y0) k0 k1) m i
noncomputable def main {R:Type} (G:Gs) (n:Nat) (s:Sg) (t:Tm) (K:Bool->Option R):Option R:=
 (G.z4c s (Tm.mk t.op t.name t.sort t.args)).bind λr=>
 bif !r then
  (K false)
 else
  l4 G n n s.sorts.names s.sorts.subs s.ops t.op t.name t.sort t.args 0
   (λt4=>K t4)
   (
    bif decide (t.op=(-1))then
     (K true)
    else
     (G.z4e s (Tm.mk t.op t.name t.sort t.args)).bind λr2=>
     K r2
   )
noncomputable def dl4 (G:Gs) (n m:Nat) (R:Type) (st:St) (K:Kt R):Option R:=match st with
 |⟨[(2,.one (.p 0 0)),(3,.one (.p 1 0)),(5,.one (.i i))],[.box [.l .s h0,.l (.n 5) h02,.l (.n 8) h03],.box [.i h1,.s h12,.i h13,.l (.n 1) h14]]⟩=>l4 G n m h0 h02 h03 h1 h12 h13 h14 i (λt4=>K .ret ⟨[(4,.one (.b t4))],[]⟩) (K (.exit 0) ⟨[(2,.one (.p 0 0)),(3,.one (.p 1 0))],[.box [.l .s h0,.l (.n 5) h02,.l (.n 8) h03],.box [.i h1,.s h12,.i h13,.l (.n 1) h14]]⟩)
 |_=>none
noncomputable def pc (G:Gs) (n:Nat):Pcs:=⟨λR id st K=>bif Nat.beq id 4 then dl4 G n n R st K else none,nK,nK⟩
noncomputable def an:Ann:=⟨33,0,[(4,[2,3,5])],[],[4],[(6,⟨[([0,1,2,3,4,5,6,7],[],[])],[],[],[0,1],[]⟩)],[]⟩
noncomputable abbrev bd:=aj Tryz.f41
noncomputable abbrev q4:=ak [1,1,0,1,0,0] bd
theorem pl4 {G:Gs} (hG:AE (ac G)) (n:Nat):∀m,PO an (.loop q4) (dl4 G n m):=lpc hG (pc G n) [2,3,5] ⟨[2,3],[4],[(0,[2,3])]⟩ (apl [] trivial) (λR st K=>by unfold dl4;split<;>rfl) λm R st K r h=>by unfold dl4 at h;split at h;exact .trans (by kernel_rfl) h;cases h
theorem ok {G:Gs} (hG:AE (ac G)) {g:Q} (hg:∀s t r,g s t=some r->∃n,main (R:=AT×List Ob) G n s t (λr0=>some (.one (.b r0),[]))=some (.one (.b r),[])):EO (ent g):=λR xs H K r hc=>by
 simp only[ent]at hc;split at hc
 ·exact okL hc λr j=>let⟨n,j⟩:=hg _ _ _ j;fF hG an (pc G n) Tryz.func41 j (apl [(1,4,.loop q4)] ⟨pl4 hG n n,trivial⟩)
 ·cases hc
end z47
namespace z2y
structure Gs where
 z2u:z2u.Q
 z4f:z4f.Q
 z47:z47.Q
noncomputable def main {R:Type} (G:Gs) (n:Nat) (s:Sg) (t:Tm) (K:Bool->Option R):Option R:=
 (G.z2u s).bind λr=>
 bif r then
  (
  (G.z4f (Tm.mk t.op t.name t.sort t.args)).bind λr2=>
  bif r2 then
   (
   (G.z47 s (Tm.mk t.op t.name t.sort t.args)).bind λr3=>
   K r3
   )
  else
   K false
  )
 else
  K false
theorem ok {G:Gs} (hG:AE [z2u.ent G.z2u,z4f.ent G.z4f,z47.ent G.z47]) {g:Q} (hg:∀s t r,g s t=some r->∃n,main (R:=AT×List Ob) G n s t (λr0=>some (.one (.b r0),[]))=some (.one (.b r),[])):EO (ent g):=λR xs H K r hc=>by
 simp only[ent]at hc;split at hc
 ·exact okL hc λr j=>let⟨_,j⟩:=hg _ _ _ j;fF hG ⟨16,0,[],[],[4],[],[]⟩ nP Tryz.func17 j
 ·cases hc
end z2y
namespace z0r
structure Gs where
 z0o:z0o.Q
 z0r:z0r.Q
 z0p:z0p.Q
 z0j:z0j.Q
 z0n:z0n.Q
 z04:z04.Q
noncomputable def ac (G:Gs):List Ent:=[z0o.ent G.z0o,ent G.z0r,z0p.ent G.z0p,z0j.ent G.z0j,z0n.ent G.z0n,z04.ent G.z04]
noncomputable def b10 {R:Type} (G:Gs) (n:Nat) (xc xd xe:LI) (xa:LB) (xb:LS) (xg:LO) (t77:LT) (t78 h2:Int) (h22:ByteArray) (h23:Int) (h24:LT) (h3:ByteArray) (h32:LD) (h33 h34:Bool) (h35 t79:Int) (h1:LM) (nx:Int->LM->Option R) (k0:Bool->LM->Option R) (k1:LM->Option R):Option R:=
 bif decide (t79 < t78) then
  (
  (ix t77 t79).bind λe=>
  (G.z0r xc xd xe xa xb xg h1 (Tm.mk e.op e.name e.sort e.args)).bind λr10=>
  bif !r10.1 then
   (k0 false r10.2)
  else
   (G.z0p xc xd xe xa xb xg r10.2 (Tm.mk e.op e.name e.sort e.args)).bind λr11=>
   (G.z0j xc xd xe xa xb xg r11.2 h2 t79).bind λr12=>
   bif !decide (r11.1=r12.1)then
    (k0 false r12.2)
   else
    bif h33 then
     (
     bif decide (e.op=h2)then
      (k0 false r12.2)
     else
      (G.z0n xc xd xe xa xb xg r12.2 h2 (Tm.mk e.op e.name e.sort e.args)).bind λr13=>
      bif r13.1 then
       (k0 false r13.2)
      else
       bif h34 then
        (
        bif decide (0<t79)then
         (
         (ix h24 (wr (t79-1))).bind λe7=>
         (G.z04 (Tm.mk e7.op e7.name e7.sort e7.args) (Tm.mk e.op e.name e.sort e.args)).bind λr15=>
         bif decide (0<r15)then
          (k0 false r13.2)
         else
          nx (wr (t79+1)) r13.2
         )
        else
         nx (wr (t79+1)) r13.2
        )
       else
        nx (wr (t79+1)) r13.2
     )
    else
     (G.z0n xc xd xe xa xb xg r12.2 h2 (Tm.mk e.op e.name e.sort e.args)).bind λr16=>
     bif r16.1 then
      (k0 false r16.2)
     else
      bif h34 then
       (
       bif decide (0<t79)then
        (
        (ix h24 (wr (t79-1))).bind λe9=>
        (G.z04 (Tm.mk e9.op e9.name e9.sort e9.args) (Tm.mk e.op e.name e.sort e.args)).bind λr18=>
        bif decide (0<r18)then
         (k0 false r16.2)
        else
         nx (wr (t79+1)) r16.2
        )
       else
        nx (wr (t79+1)) r16.2
       )
      else
       nx (wr (t79+1)) r16.2
  )
 else
  k1 h1
noncomputable def l10 {R:Type} (G:Gs) (n m:Nat) (xc xd xe:LI) (xa:LB) (xb:LS) (xg:LO) (t77:LT) (t78 h2:Int) (h22:ByteArray) (h23:Int) (h24:LT) (h3:ByteArray) (h32:LD) (h33 h34:Bool) (h35 t79:Int) (h1:LM) (k0:Bool->LM->Option R) (k1:LM->Option R):Option R:=aB (λ(v:Int×LM) nx=>b10 G n xc xd xe xa xb xg t77 t78 h2 h22 h23 h24 h3 h32 h33 h34 h35 v.1 v.2 (λy0 y1=>nx (y0,y1)) k0 k1) m (t79,h1)
noncomputable def c9 {R:Type} (G:Gs) (n:Nat) (xc xd xe:LI) (xa:LB) (xb:LS) (xg:LO) (h1:LM) (h2:Int) (h22:ByteArray) (h23:Int) (h24:LT) (h3:ByteArray) (h32:LD) (h33 h34:Bool) (h35:Int) (k0:Bool->LM->Option R):Option R:=
 l10 G n n xc xd xe xa xb xg h24 (List.length h24:Int) h2 h22 h23 h24 h3 h32 h33 h34 h35 0 h1
  (λt4 h12=>k0 t4 h12)
  (λh122=>k0 true h122)
noncomputable def c6 {R:Type} (G:Gs) (n:Nat) (xc xd xe:LI) (xa:LB) (xb:LS) (xg:LO) (h1:LM) (h2:Int) (h22:ByteArray) (h23:Int) (h24:LT) (h3:ByteArray) (h32:LD) (h33 h34:Bool) (h35:Int) (k0:Bool->LM->Option R):Option R:=
 bif h33 then
  (
  bif decide ((List.length h24:Int)<2)then
   (k0 false h1)
  else
   bif decide (7<(List.length h24:Int))then
    (k0 false h1)
   else
    bif !h33 then
     (
     (ix h32 0).bind λe=>
     bif !decide ((List.length h24:Int)=(List.length e.args:Int))then
      (k0 false h1)
     else
      c9 G n xc xd xe xa xb xg h1 h2 h22 h23 h24 h3 h32 h33 h34 h35
       (λt4 h12=>k0 t4 h12)
     )
    else
     c9 G n xc xd xe xa xb xg h1 h2 h22 h23 h24 h3 h32 h33 h34 h35
      (λt42 h122=>k0 t42 h122)
  )
 else
  bif !h33 then
   (
   (ix h32 0).bind λe2=>
   bif !decide ((List.length h24:Int)=(List.length e2.args:Int))then
    (k0 false h1)
   else
    c9 G n xc xd xe xa xb xg h1 h2 h22 h23 h24 h3 h32 h33 h34 h35
     (λt43 h123=>k0 t43 h123)
   )
  else
   c9 G n xc xd xe xa xb xg h1 h2 h22 h23 h24 h3 h32 h33 h34 h35
    (λt44 h124=>k0 t44 h124)
noncomputable def main {R:Type} (G:Gs) (n:Nat) (xc xd xe:LI) (xa:LB) (xb:LS) (xg:LO) (xf:LM) (t:Tm) (K:Bool->LM->Option R):Option R:=
 bif decide (t.op=(-1))then
  (
  (G.z0o xc xd xe xa xb xg xf (Tm.mk t.op t.name t.sort t.args)).bind λr=>
  K r.1 r.2
  )
 else
  bif decide (t.op<0)then
   (K false xf)
  else
   bif decide ((List.length xg:Int)<=t.op)then
    (K false xf)
   else
    bif !sEq t.name ByteArray.empty then
     (K false xf)
    else
     bif !decide (t.sort=0)then
      (K false xf)
     else
      (ix xg t.op).bind λe4=>
      c6 G n xc xd xe xa xb xg xf t.op t.name t.sort t.args e4.name e4.decls e4.assoc e4.comm e4.unit
       (λt42 h122=>K t42 h122)
noncomputable def ei (G:Gs) (n m:Nat) (R:Type) (st:St) (K:Kt R):Option R:=match st with
 |⟨[(0,.one (.p 0 0)),(3,.one (.p 2 0)),(5,.one (.p 3 0)),(77,.one (.l (.n 1) t77)),(78,.one (.i t78)),(79,.one (.i t79))],[.box [.l .i xc,.l .i xd,.l .i xe,.l .s xa,.l (.n 5) xb,.l (.n 8) xg,.m 1],.map .i h1,.box [.i h2,.s h22,.i h23,.l (.n 1) h24],.box [.s h3,.l (.n 7) h32,.b h33,.b h34,.i h35]]⟩=>l10 G n m xc xd xe xa xb xg t77 t78 h2 h22 h23 h24 h3 h32 h33 h34 h35 t79 h1 (λt4 h12=>K .ret ⟨[(4,.one (.b t4))],[.box [.l .i xc,.l .i xd,.l .i xe,.l .s xa,.l (.n 5) xb,.l (.n 8) xg,.m 1],.map .i h12]⟩) (λh12=>K (.exit 0) ⟨[],[.box [.l .i xc,.l .i xd,.l .i xe,.l .s xa,.l (.n 5) xb,.l (.n 8) xg,.m 1],.map .i h12]⟩)
 |_=>none
noncomputable def dc9 (G:Gs) (n:Nat) (R:Type) (st:St) (K:Kt R):Option R:=match st with
 |⟨[(0,.one (.p 0 0)),(3,.one (.p 2 0)),(5,.one (.p 3 0))],[.box [.l .i xc,.l .i xd,.l .i xe,.l .s xa,.l (.n 5) xb,.l (.n 8) xg,.m 1],.map .i h1,.box [.i h2,.s h22,.i h23,.l (.n 1) h24],.box [.s h3,.l (.n 7) h32,.b h33,.b h34,.i h35]]⟩=>c9 G n xc xd xe xa xb xg h1 h2 h22 h23 h24 h3 h32 h33 h34 h35 (λt4 h12=>K .ret ⟨[(4,.one (.b t4))],[.box [.l .i xc,.l .i xd,.l .i xe,.l .s xa,.l (.n 5) xb,.l (.n 8) xg,.m 1],.map .i h12]⟩)
 |_=>none
noncomputable def dc6 (G:Gs) (n:Nat) (R:Type) (st:St) (K:Kt R):Option R:=match st with
 |⟨[(0,.one (.p 0 0)),(3,.one (.p 2 0)),(5,.one (.p 3 0))],[.box [.l .i xc,.l .i xd,.l .i xe,.l .s xa,.l (.n 5) xb,.l (.n 8) xg,.m 1],.map .i h1,.box [.i h2,.s h22,.i h23,.l (.n 1) h24],.box [.s h3,.l (.n 7) h32,.b h33,.b h34,.i h35]]⟩=>c6 G n xc xd xe xa xb xg h1 h2 h22 h23 h24 h3 h32 h33 h34 h35 (λt4 h12=>K .ret ⟨[(4,.one (.b t4))],[.box [.l .i xc,.l .i xd,.l .i xe,.l .s xa,.l (.n 5) xb,.l (.n 8) xg,.m 1],.map .i h12]⟩)
 |_=>none
noncomputable def pc (G:Gs) (n:Nat):Pcs:=⟨λR id st K=>bif Nat.beq id 10 then ei G n n R st K else none,λR id st K=>bif Nat.beq id 9 then dc9 G n R st K else bif Nat.beq id 6 then dc6 G n R st K else none,nK⟩
noncomputable def an:Ann:=⟨137,2,[(10,[0,3,5,77,78,79])],[(9,[0,3,5]),(6,[0,3,5])],[4],[(3,⟨[([0,1,2,3,4,5,6,7,8,9,10,11,12,13,14,15,16,17,18,19,20,21,22,23],[],[])],[],[],[0,1,2],[]⟩),(5,⟨[([9,0,1,2,3,4,5,6,7,8,10],[9,10],[4])],[9,10],[],[2],[]⟩),(12,⟨[([0,1,2,3,4,5,6,7,8,9,10,11,12,13,14,15,16,17,18,19,20,21,22,23,24,25,26,27,28,29,30,31,32,33,34,35,36,37,38,39,40,41,42,43,44,45,46,47,48,49,50,51],[2,7,12,31],[])],[2,7,12,31],[],[2,3,4],[]⟩)],[]⟩
noncomputable abbrev bd:=aj Tryz.f83
noncomputable abbrev q10:=ak [1,1,1,1,1,1,0,1,0,0] bd
noncomputable abbrev q9:=ak [1,1,1,1,1,1] bd
noncomputable abbrev q6:=ak [1,1,1,1] bd
theorem pT {G:Gs} (hG:AE (ac G)) (n:Nat):∀m,PO an (.loop q10) (ei G n m):=lpc hG (pc G n) [0,3,5,77,78,79] ⟨[],[4],[(0,[])]⟩ (apl [] trivial) (λR st K=>by unfold ei;split<;>rfl) λm R st K r h=>by unfold ei at h;split at h;exact .trans (by kernel_rfl) h;cases h
theorem pc9 {G:Gs} (hG:AE (ac G)) {n:Nat}:PO an q9 (dc9 G n):=cpc hG (pc G n) ⟨[],[4],[]⟩ (apl [(1,10,.loop q10)] ⟨pT hG n n,trivial⟩) λR st K r h=>by unfold dc9 at h;split at h;exact .trans (by kernel_rfl) h;cases h
theorem pc6 {G:Gs} (hG:AE (ac G)) {n:Nat}:PO an q6 (dc6 G n):=cpc hG (pc G n) ⟨[],[4],[]⟩ (apl [(0,9,q9)] ⟨pc9 hG,trivial⟩) λR st K r h=>by unfold dc6 at h;split at h;exact .trans (by kernel_rfl) h;cases h
theorem ok {G:Gs} (hG:AE (ac G)) {g:Q} (hg:∀xc xd xe xa xb xg xf t r,g xc xd xe xa xb xg xf t=some r->∃n,main (R:=AT×List Ob) G n xc xd xe xa xb xg xf t (λr0 r1=>some (.one (.b r0),[.box [.l .i xc,.l .i xd,.l .i xe,.l .s xa,.l (.n 5) xb,.l (.n 8) xg,.m 1],.map .i r1]))=some (.one (.b r.1),[.box [.l .i xc,.l .i xd,.l .i xe,.l .s xa,.l (.n 5) xb,.l (.n 8) xg,.m 1],.map .i r.2])):EO (ent g):=λR xs H K r hc=>by
 simp only[ent]at hc;split at hc
 ·exact okL hc λr j=>let⟨n,j⟩:=hg _ _ _ _ _ _ _ _ _ j;fF hG an (pc G n) Tryz.func83 j (apl [(0,6,q6)] ⟨pc6 hG,trivial⟩)
 ·cases hc
end z0r
namespace z0m
structure Gs where
 z0h:z0h.Q
 z06:z06.Q
 z0r:z0r.Q
noncomputable def main {R:Type} (G:Gs) (n:Nat) (xc xd xe:LI) (xa:LB) (xb:LS) (xg:LO) (xf:LM) (t:Tm) (K:Bool->LM->Option R):Option R:=
 (G.z0h (Tm.mk t.op t.name t.sort t.args)).bind λr=>
 bif decide (r<=60)then
  (
  (G.z06 (Tm.mk t.op t.name t.sort t.args)).bind λr2=>
  bif decide (r2<=20)then
   (
   (G.z0r xc xd xe xa xb xg xf (Tm.mk t.op t.name t.sort t.args)).bind λr3=>
   K r3.1 r3.2
   )
  else
   K false xf
  )
 else
  K false xf
theorem ok {G:Gs} (hG:AE [z0h.ent G.z0h,z06.ent G.z06,z0r.ent G.z0r]) {g:Q} (hg:∀xc xd xe xa xb xg xf t r,g xc xd xe xa xb xg xf t=some r->∃n,main (R:=AT×List Ob) G n xc xd xe xa xb xg xf t (λr0 r1=>some (.one (.b r0),[.box [.l .i xc,.l .i xd,.l .i xe,.l .s xa,.l (.n 5) xb,.l (.n 8) xg,.m 1],.map .i r1]))=some (.one (.b r.1),[.box [.l .i xc,.l .i xd,.l .i xe,.l .s xa,.l (.n 5) xb,.l (.n 8) xg,.m 1],.map .i r.2])):EO (ent g):=λR xs H K r hc=>by
 simp only[ent]at hc;split at hc
 ·exact okL hc λr j=>let⟨_,j⟩:=hg _ _ _ _ _ _ _ _ _ j;fF hG ⟨18,2,[],[],[4],[],[]⟩ nP Tryz.func38 j
 ·cases hc
end z0m
open Classical
def dZ (s:Sg) (t:Tm):Bool:=if t.op= -1 then bn t.name&&(inN (nS s) t.sort&&decide (t.args.length=0))else match ix s.ops t.op with
 |none=>false
 |some o=>sEq t.name ByteArray.empty&&(decide (t.sort=0)&&(if o.assoc=true then decide (2<=t.args.length)&&decide (t.args.length<=7)else decide (t.args.length=(first o).args.length)))
def qa (s:Sg) (o:Opr) (op:Int) (p:Option Tm) (i:Int) (x:Tm):Bool:=decide (cP s x=jW s o i)&&(!(o.assoc&&decide (x.op=op))&&(!fL o x&& !(o.comm&&(match p with
 |some y=>decide (0<bW y x)
 |none=>false))))
def cA (s:Sg) (o:Opr) (op:Int) (w:Tm->Bool):Option Tm->Int->List Tm->Bool
 |_,_,[]=>true
 |p,i,x::xs=>(w x&&qa s o op p i x)&&cA s o op w (some x) (i+1) xs
def ii (s:Sg) (w:Tm->Bool) (t:Tm):Bool:=dZ s t&&(if t.op= -1 then true else match ix s.ops t.op with
 |some o=>cA s o t.op w none 0 t.args
 |none=>false)
def vv (s:Sg):Nat->Tm->Bool
 |0,_=>false
 |k+1,t=>ii s (vv s k) t
def bh (s:Sg) (t:Tm):Bool:=vv s (t.total+1) t
theorem lO {s:Sg} {o:Opr} {op:Int} {w w':Tm->Bool}:∀{xs:List Tm} {p:Option Tm} {i:Int},(∀x∈xs,w x=w' x)->cA s o op w p i xs=cA s o op w' p i xs
 |[],_,_,_=>rfl
 | x :: xs, p, i, h => by
  unfold cA;rw[h x (by simp),lO λy hy=>h y (by simp[hy])]
theorem mb {s:Sg} {w w':Tm->Bool} {t:Tm} (h:∀x∈t.args,w x=w' x):ii s w t=ii s w' t:=by
 unfold ii;split
 ·rfl
 ·split
  ·rw[lO h]
  ·rfl
theorem sy {s:Sg}:∀(k j:Nat) (t:Tm),t.total<k->t.total<j->vv s k t=vv s j t
 |0,_,_,h,_=>absurd h (Nat.not_lt_zero _)
 |_,0,_,_,h=>absurd h (Nat.not_lt_zero _)
 |k+1,j+1,t,h1,h2=>mb λx hx=>sy k j x (by have:=al hx;omega) (by have:=al hx;omega)
theorem gf (s:Sg) (t:Tm):bh s t=ii s (bh s) t:=mb λx hx=>sy _ _ x (al hx) (Nat.lt_succ_self _)
theorem i9 {s:Sg} {o:Opr} {op:Int} {w:Tm->Bool}:∀{xs:List Tm} {p:Option Tm} {i:Int},cA s o op w p i xs=true->∀x∈xs,w x=true
 |[],_,_,_,x,hx=>by simp at hx
 | y :: ys, p, i, h, x, hx => by
  unfold cA at h;simp only[bA]at h;rcases List.mem_cons.1 hx with rfl|hx
  ·exact h.1.1
  ·exact i9 h.2 x hx
theorem pw {s:Sg}:∀(k:Nat) (t:Tm),t.total<k->bh s t=true->Good s t
 |0,_,h,_=>absurd h (Nat.not_lt_zero _)
 | k + 1, t, h, hw => by
  rw[gf]at hw;unfold ii dZ at hw;by_cases ho:t.op= -1
  ·rw[if_pos ho,if_pos ho]at hw;simp only[bA,decide_eq_true_eq]at hw;obtain⟨⟨h1,h2,h3⟩,_⟩:=hw;have h2:=bc.1 h2;obtain⟨op,nm,so,ar⟩:=t;have:ar=[]:=nZ h3;subst this;have:op= -1:=ho;subst this;exact .var h2.1 h2.2 h1
  ·rw[if_neg ho,if_neg ho]at hw;cases hx:ix s.ops t.op with
   |none=>rw[hx]at hw;simp at hw
   | some o =>
    rw[hx]at hw;simp only[bA,decide_eq_true_eq]at hw;obtain⟨⟨h1,h2,h3⟩,h4⟩:=hw;have h1:t.name=ByteArray.empty:=of_decide_eq_true h1;have ha:=i9 h4;have hg:∀a∈t.args,Good s a:=λa hm=>pw k a (by have:=al hm;omega) (ha a hm);obtain⟨op,nm,so,ar⟩:=t;have:nm=ByteArray.empty:=h1;subst this;have:so=0:=h2;subst this;refine .app hx ?_ hg;cases hc:o.assoc with
    |true=>rw[hc,if_pos rfl]at h3;rw[if_pos rfl];simp only[bA,decide_eq_true_eq]at h3;exact h3.1
    |false=>rw[hc,if_neg (by decide)]at h3;rw[if_neg (by decide)];exact of_decide_eq_true h3
theorem fd {s:Sg} {t:Tm} (h:bh s t=true):Good s t:=pw _ t (Nat.lt_succ_self _) h
def d7 (args:List Tm):Nat->Option Tm
 |0=>none
 |i+1=>args[i]?
theorem sX {R:Type} (k:Nat) {args:List Tm} {i:Nat} {x:Tm} (hi:i<args.length) (hk:∀y∈args,y.total<k) (hl:args.length<4294967296) (c:Bool) (a b:Option R):
  (bif c then (bif decide ((0 : Int) < (i : Int)) then Option.bind (ix args (wr ((i : Int) - 1))) fun e => Option.bind (aK   k (Tm.mk (Tm.op e) (Tm.name e) (Tm.sort e) (Tm.args e)) x) fun r => bif decide (0 < r) then a else b else b) else b) =
   bif c&&(match d7 args i with
    |some y=>decide (0<bW y x)
    |none=>false)then a else b:=by
 cases c with
 |false=>rfl
 | true =>
  rw[cT,Bool.true_and];cases i with
  |zero=>rfl
  | succ j =>
   obtain⟨y,y1,y2⟩:=aS (show j<args.length by omega);rw[dT (by omega),cT,ai (by omega),show ((j+1:Nat):Int)-1=(j:Int) by omega,aJ y1,bS,Tm.eta];unfold aK;rw[if_pos (hk y y2),bS];rw[show d7 args (j+1)=some y from y1]
theorem vL {args:List Tm} {i:Nat} {x:Tm} (h:args[i]? =some x):d7 args (i+1)=some x:=h
theorem DO {s:Sg} {o:Opr} (hk:BR s o) {args:List Tm} (har:if o.assoc=true then 2<=args.length else args.length=(first o).args.length) {i:Nat} (hi:i<args.length):0<=atI o (i:Int)/\atI o (i:Int)<(first o).args.length:=by
 unfold atI;cases ha:o.assoc with
 |true=>have:=hk.two (.inl ha);rw[if_pos rfl];omega
 |false=>rw[ha,if_neg (by decide)]at har;rw[if_neg (by decide)];omega
noncomputable def gWm:Nat->List Int->List Int->List Int->List ByteArray->List Sb->List Opr->Mp->Tm->Option (Bool×Mp):=λk ab _ kd nm sb ops m t=>if Alg kd nm sb ops/\ab.length=nm.length/\t.total<k then some (bh ⟨⟨nm,sb⟩,ops⟩ t,m)else none
noncomputable abbrev GW (k:Nat):z0r.Gs:={z0o:=qH,z0r:=gWm k,z0p:=il,z0j:=jn,z0n:=ol,z04:=aK 4294967296}
section
variable {R : Type} {kd ab be : List Int} {nm : List ByteArray} {sb : List Sb} {ops : List Opr} {op : Int} {o : Opr} (hA : Alg kd nm sb ops) (hab : ab.length = nm.length) (ho : ix ops op = some o)
include hA hab ho
theorem Fw     (n k : Nat) (hk : k ≤ 4294967296) (args : List Tm) (hx : ∀ x ∈ args, x.total < k) (hl : args.length < 4294967296) (har : if o.assoc = true then 2 ≤ args.length else args.length = (first o).args.length) (m : Mp) (h23 : Int) (h22 : ByteArray) (k0 : Bool → Mp → Option R) (k1 : Mp → Option R) : ∀ f i, i ≤ args.length → args.length - i < f →
  z0r.l10 (GW k) n f ab be kd nm sb ops args (args.length:Int) op h22 h23 args o.name o.decls o.assoc o.comm o.unit (i:Int) m k0 k1=bif cA ⟨⟨nm,sb⟩,ops⟩ o op (bh ⟨⟨nm,sb⟩,ops⟩) (d7 args i) (i:Int) (args.drop i)then k1 m else k0 false m:=by
 have hko:=fu hA.1 (aZ (xs:=ops) ho).1;intro f
 induction f with
 |zero=>intro i _ hm;omega
 | succ f ih =>
  intro i h1 hm;show z0r.b10 (GW k) n ab be kd nm sb ops args (args.length:Int) op h22 h23 args o.name o.decls o.assoc o.comm o.unit (i:Int) m (λy0 y1=>z0r.l10 (GW k) n f ab be kd nm sb ops args (args.length:Int) op h22 h23 args o.name o.decls o.assoc o.comm o.unit y0 y1 k0 k1) k0 k1=_;unfold z0r.b10;by_cases hi:i<args.length
  ·obtain⟨x,x1,x2⟩:=aS     hi;have e0:gWm k ab be kd nm sb ops m x=some (bh    ⟨⟨nm,sb⟩,ops⟩ x,m):=if_pos ⟨hA,hab,hx x x2⟩;rw[br     hi,cT,aJ     x1,bS,Tm.eta,aN       x1];show Option.bind (gWm k ab be kd nm sb ops m x) _=_;rw[e0,bS];unfold cA;cases    hw:bh    ⟨⟨nm,sb⟩,ops⟩ x with
   |false=>rfl
   | true =>
    have gx:=fd hw;have e1:il ab be kd nm sb ops m x=some (cP ⟨⟨nm,sb⟩,ops⟩ x,m):=if_pos ⟨hA,gx.kn⟩;have e2:jn ab be kd nm sb ops m op (i:Int)=some (jW ⟨⟨nm,sb⟩,ops⟩ o (i:Int),m):=by
     unfold jn;rw[if_pos ⟨hA,o,ho,DO hko har hi⟩,ho];rfl
    have e3:ol ab be kd nm sb ops m op x=some (fL o x,m):=by
     unfold ol;rw[if_pos hA,ho];rfl
    have nxt:z0r.l10 (GW k) n f ab be kd nm sb ops args (args.length:Int) op h22 h23 args o.name o.decls o.assoc o.comm o.unit (wr ((i:Int)+1)) m k0 k1=bif cA ⟨⟨nm,sb⟩,ops⟩ o op (bh ⟨⟨nm,sb⟩,ops⟩) (some x) ((i:Int)+1) (args.drop (i+1))then k1 m else k0 false m:=by
     rw[bu (by omega),ih (i+1) hi (by omega),vL x1];rfl
    simp only[Bool.not_true,cF];show Option.bind (il ab be kd nm sb ops m x) _=_;rw[e1,bS];show Option.bind (jn ab be kd nm sb ops m op (i:Int)) _=_;rw[e2,bS];unfold qa;by_cases hkd:cP ⟨⟨nm,sb⟩,ops⟩ x=jW ⟨⟨nm,sb⟩,ops⟩ o (i:Int)
    ·simp only;rw[dT hkd,Bool.not_true,cF,Bool.true_and,Bool.true_and]
     have tail:(Option.bind (ol ab be kd nm sb ops m op x) λr13=>bif r13.1 then (k0 false r13.2)else bif o.comm then (bif decide (0<(i:Int))then (Option.bind (ix args (wr ((i:Int)-1))) λe7=>Option.bind (aK 4294967296 (Tm.mk (Tm.op e7) (Tm.name e7) (Tm.sort e7) (Tm.args e7)) x) λr15=>bif decide (0<r15)then (k0 false r13.2)else z0r.l10 (GW k) n f ab be kd nm sb ops args (args.length:Int) op h22 h23 args o.name o.decls o.assoc o.comm o.unit (wr ((i:Int)+1)) r13.2 k0 k1)else z0r.l10 (GW k) n f ab be kd nm sb ops args (args.length:Int) op h22 h23 args o.name o.decls o.assoc o.comm o.unit (wr ((i:Int)+1)) r13.2 k0 k1)else z0r.l10 (GW k) n f ab be kd nm sb ops args (args.length:Int) op h22 h23 args o.name o.decls o.assoc o.comm o.unit (wr ((i:Int)+1)) r13.2 k0 k1)=
       bif (!fL o x&& !(o.comm&&(match d7 args i with
        |some y=>decide (0<bW y x)
        |none=>false)))&&cA ⟨⟨nm,sb⟩,ops⟩ o op (bh ⟨⟨nm,sb⟩,ops⟩) (some x) ((i:Int)+1) (args.drop (i+1))then k1 m else k0 false m:=by
      rw[e3,bS];cases hu:fL o x with
      |true=>rfl
      | false =>
       simp only[cF];rw[nxt,sX 4294967296 hi (λy hy=>by have:=hx y hy;omega) hl]
       cases (o.comm&&(match d7 args i with
        |some y=>decide (0<bW y x)
        |none=>false))<;>rfl
     cases ha:o.assoc with
     | false =>
      rw[cF,Bool.false_and,Bool.not_false,Bool.true_and];rw[ha]at tail;exact tail
     | true =>
      rw[cT,Bool.true_and];rw[ha]at tail;by_cases hop:x.op=op
      ·rw[dT hop];rfl
      ·rw[dF hop,cF,Bool.not_false,Bool.true_and];exact tail
    ·simp only;rw[dF hkd];rfl
  ·obtain rfl:i=args.length:=by omega
   rw[aU hi,cF,bj];rfl
end
theorem qj {α:Type} {xs:List α} {i:Int} (h:i<0\/(xs.length:Int)<=i):ix xs i=none:=by
 unfold ix;by_cases h0:0<=i
 ·rw[dT h0,cT];exact List.getElem?_eq_none (by omega)
 ·rw[dF h0,cF]
theorem DL {α:Type} {xs:List α} {i:Int} (h0:0<=i) (h1:i<xs.length):∃x,ix xs i=some x/\x∈xs:=by
 obtain⟨x,x1,x2⟩:=aS (xs:=xs) (show i.toNat<xs.length by omega);refine⟨x,?_,x2⟩;have:=aJ x1
 rwa [Int.toNat_of_nonneg h0]at this
theorem w_c9 {R:Type} {kd ab be:List Int} {nm:List ByteArray} {sb:List Sb} {ops:List Opr} {op:Int} {o:Opr} (hA:Alg kd nm sb ops) (hab:ab.length=nm.length) (ho:ix ops op=some o) (k:Nat) (hk:k<=4294967296) (args:List Tm) (hx:∀x∈args,x.total<k) (hl:args.length<4294967296) (har:if o.assoc=true then 2<=args.length else args.length=(first o).args.length) (m:Mp) (h23:Int) (h22:ByteArray) (k0:Bool->Mp->Option R):
  z0r.c9 (GW k) (args.length+1) ab be kd nm sb ops m op h22 h23 args o.name o.decls o.assoc o.comm o.unit k0=k0 (cA ⟨⟨nm,sb⟩,ops⟩ o op (bh ⟨⟨nm,sb⟩,ops⟩) none 0 args) m:=by
 unfold z0r.c9;have e:=Fw (R:=R) (be:=be) hA hab ho (args.length+1) k hk args hx hl har m h23 h22 (λt4 h12=>k0 t4 h12) (λh122=>k0 true h122) (args.length+1) 0 (by omega) (by omega);rw[List.drop_zero]at e;refine e.trans ?_;show (bif cA ⟨⟨nm,sb⟩,ops⟩ o op (bh ⟨⟨nm,sb⟩,ops⟩) none 0 args then k0 true m else k0 false m)=_;cases cA ⟨⟨nm,sb⟩,ops⟩ o op (bh ⟨⟨nm,sb⟩,ops⟩) none 0 args<;>rfl
theorem EF     {R : Type} {kd ab be : List Int} {nm : List ByteArray} {sb : List Sb} {ops : List Opr} (hA : Alg kd nm sb ops) (hab : ab.length = nm.length) (k : Nat) (hk : k < 4294967296) (t : Tm) (ht : t.total < k + 1) (m : Mp) (K : Bool → Mp → Option R) :
  z0r.main (GW k) (t.args.length+1) ab be kd nm sb ops m t K=K (bh ⟨⟨nm,sb⟩,ops⟩ t) m:=by
 have hx:∀x∈t.args,x.total<k:=λx hx=>by have:=al hx;omega
 have hl:t.args.length<4294967296:=by have:=aV t.args;have:=aC t;omega
 unfold z0r.main;rw[gf,Tm.eta];unfold ii dZ;by_cases h1:t.op= -1
 ·rw[dT h1,cT,if_pos h1,if_pos h1];show Option.bind (qH ab be kd nm sb ops m t) _=_;unfold qH;rw[if_pos h1,bS,hab,Bool.and_true]
 ·rw [decide_eq_false h1, cond_false, if_neg h1, if_neg h1];by_cases h2:t.op<0
  ·rw[dT h2,cT,qj (xs:=ops) (.inl h2)];rfl
  ·rw [decide_eq_false h2, cond_false];by_cases h3:(ops.length:Int)<=t.op
   ·rw[dT h3,cT,qj (xs:=ops) (.inr h3)];rfl
   ·rw [decide_eq_false h3, cond_false];obtain⟨o,ho,_⟩:=DL    (xs:=ops) (show 0<=t.op by omega) (show t.op<ops.length by omega);have hko:=fu   hA.1 (aZ     (xs:=ops) ho).1;rw[ho,bS];simp only;cases hn:sEq t.name ByteArray.empty with
    |false=>rfl
    | true =>
     rw[Bool.not_true,cF,Bool.true_and];by_cases hs:t.sort=0
     ·rw [decide_eq_true hs, Bool.not_true, cond_false, Bool.true_and];have c9:=λhar=>w_c9 (R:=R) (be:=be) hA hab ho k (by omega) t.args hx hl har m t.sort t.name (λt42 h122=>K t42 h122);unfold z0r.c6;cases ha:o.assoc with
      | true =>
       rw[cT,if_pos rfl];by_cases g1:t.args.length<2
       ·rw[dT (show (t.args.length:Int)<2 by omega),cT,dF (show ¬2<=t.args.length by omega)];rfl
       ·rw[dF (show ¬(t.args.length:Int)<2 by omega),cF,dT (show 2<=t.args.length by omega),Bool.true_and];by_cases g2:7<t.args.length
        ·rw[dT (show 7<(t.args.length:Int) by omega),cT,dF (show ¬t.args.length<=7 by omega)];rfl
        ·rw[dF (show ¬7<(t.args.length:Int) by omega),cF,dT (show t.args.length<=7 by omega),Bool.true_and,Bool.not_true,cF];have e:=c9 (by rw[ha,if_pos rfl];omega);rw[ha]at e;exact e
      | false =>
       rw[cF,if_neg (by decide),Bool.not_false,cT,bq hko.dl,bS];by_cases g1:t.args.length=(first o).args.length
       ·rw[dT (show (t.args.length:Int)=((first o).args.length:Int) by omega),Bool.not_true,cF,dT g1,Bool.true_and];have e:=c9 (by rw[ha,if_neg (by decide)];exact g1);rw[ha]at e;exact e
       ·rw[dF (show ¬(t.args.length:Int)=((first o).args.length:Int) by omega),Bool.not_false,cT,dF g1];rfl
     ·rw[dF hs];rfl
theorem lJ :∀k,k<=4294967296->EO (z0r.ent (gWm k))
 | 0, _ => fun R xs H K r h => by
  simp only[z0r.ent]at h;split at h
  ·simp[gWm]at h
  ·cases h
 | k + 1, hk => z0r.ok                (G := GW k) ⟨jj, lJ k (by omega), pq, na, oZ, z05               4294967296 (Nat.le_refl _), trivial⟩ fun ab be kd nm sb ops m t r h => by
  unfold gWm at h;split at h
  ·rename_i hs;cases h;exact⟨t.args.length+1,(EF hs.1 hs.2.1 k (by omega) t hs.2.2 m _).trans rfl⟩
  ·cases h
def isT (s:Sg) (t:Tm):Bool:=decide (tsz t<=60)&&(decide (tdp t<=20)&&bh s t)
noncomputable def yj:List Int->List Int->List Int->List ByteArray->List Sb->List Opr->Mp->Tm->Option (Bool×Mp):=λab _ kd nm sb ops m t=>if Alg kd nm sb ops/\ab.length=nm.length/\t.total<4294967296 then some (isT ⟨⟨nm,sb⟩,ops⟩ t,m)else none
theorem ug :EO (z0m.ent yj):=z0m.ok (G:=⟨gSz 4294967296,gDp 4294967296,gWm 4294967296⟩) ⟨z0i _ (Nat.le_refl _),z07 _ (Nat.le_refl _),lJ _ (Nat.le_refl _),trivial⟩ λab be kd nm sb ops m t r h=>by
 unfold yj at h;split at h
 ·rename_i hs;cases h;refine⟨1,?_⟩;unfold z0m.main isT;rw[Tm.eta];have e1:gSz 4294967296 t=some (tsz t:Int):=if_pos hs.2.2;have e2:gDp 4294967296 t=some (tdp t:Int):=if_pos hs.2.2;have e3:gWm 4294967296 ab be kd nm sb ops m t=some (bh    ⟨⟨nm,sb⟩,ops⟩ t,m):=if_pos hs;show Option.bind (gSz 4294967296 t) _=_;rw[e1,bS];by_cases h1:tsz t<=60
  ·rw[dT (show (tsz t:Int)<=60 by omega),cT,dT h1,Bool.true_and];show Option.bind (gDp 4294967296 t) _=_;rw[e2,bS];by_cases h2:tdp t<=20
   ·rw[dT (show (tdp t:Int)<=20 by omega),cT,dT h2,Bool.true_and];show Option.bind (gWm 4294967296 ab be kd nm sb ops m t) _=_;rw[e3,bS]
   ·rw[dF (show ¬(tdp t:Int)<=20 by omega),cF,dF h2];rfl
  ·rw[dF (show ¬(tsz t:Int)<=60 by omega),cF,dF h1];rfl
 ·cases h
open Classical
abbrev ov :Int->Int->Int->Option Bool:=λx lo hi=>some (decide (lo<=x)&&decide (x<=hi))
theorem qN {α:Type} {xs:List α} (hl:xs.length<4294967296) (x:Int):ov x 0 (wr ((xs.length:Int)-1))=some (inN xs.length x):=by
 rw[ai (by omega)];unfold ov inN;by_cases h0:0<=x
 ·rw[dT h0,Bool.true_and,Bool.true_and];by_cases h1:x<(xs.length:Int)
  ·rw[dT h1,dT (by omega)]
  ·rw[dF h1,dF (by omega)]
 ·rw[dF h0,Bool.false_and,Bool.false_and]
noncomputable def iF:Sg->Tm->Option Bool:=λs t=>if aM s=true/\t.total<4294967296 then some (dZ s t)else none
theorem qo {s:Sg} (h:aM s=true):s.ops.length<=14/\s.sorts.names.length<=8:=by
 unfold aM cC at h;simp only[bA,decide_eq_true_eq]at h;exact⟨h.2.1,h.1.2.1⟩
theorem D9 {R:Type} {s:Sg} (hS:aM s=true) {t:Tm} (hl:t.args.length<4294967296) (K:Bool->Option R):z4c.main ⟨fS,ov,gAr⟩ 1 s t K=K (dZ s t):=by
 obtain⟨l1,l2⟩:=qo hS;unfold z4c.main dZ;by_cases h1:t.op= -1
 ·rw [decide_eq_true h1, cond_true, if_pos h1];show Option.bind (fS    t.name) _=_;unfold fS;rw[bS   ];cases hn:bn    t.name with
  |false=>rfl
  | true =>
   rw[cT,Bool.true_and];show Option.bind (ov t.sort 0 _) _=_;rw[qN (by omega),bS];show (bif inN (nS s) t.sort then _ else _)=_;cases inN (nS s) t.sort with
   |false=>rfl
   | true =>
    rw[cT,Bool.true_and]
    congr 1
    exact decide_eq_decide.2 (by omega)
 ·rw [decide_eq_false h1, cond_false, if_neg h1];show Option.bind (ov   t.op 0 _) _=_;rw[qN     (by omega),bS];cases hi:inN s.ops.length t.op with
  | false =>
   have:ix s.ops t.op=none:=qj (by
    have:=Bool.eq_false_iff.1 hi;rw[Ne,bc]at this;omega)
   rw[this];rfl
  | true =>
   obtain⟨i0,i1⟩:=bc.1 hi;obtain⟨o,ho,_⟩:=DL i0 i1;have hko:=fu hS (aZ (xs:=s.ops) ho).1;rw[ho,Bool.not_true,cF];simp only;cases hn:sEq t.name ByteArray.empty with
   |false=>rfl
   | true =>
    rw[Bool.not_true,cF,Bool.true_and];by_cases hs:t.sort=0
    ·rw [decide_eq_true hs, Bool.not_true, cond_false, Bool.true_and, Option.bind_some];cases ha:o.assoc with
     | true =>
      rw[Bool.not_true,cF,if_pos rfl,cT];show Option.bind (ov (t.args.length:Int) 2 7) _=_;unfold ov;rw[bS];by_cases g1:2<=t.args.length
      ·by_cases g2:t.args.length<=7
       ·rw[dT (show (2:Int)<=(t.args.length:Int) by omega),dT (show (t.args.length:Int)<=7 by omega),dT g1,dT g2];rfl
       ·rw[dF (show ¬(t.args.length:Int)<=7 by omega),dF g2,Bool.and_false,Bool.and_false];rfl
      ·rw[dF (show ¬(2:Int)<=(t.args.length:Int) by omega),dF g1];rfl
     | false =>
      rw[Bool.not_false,cT,if_neg (by decide)];show Option.bind (gAr o) _=_;rw[AD hko.dl,bS];by_cases g1:t.args.length=(first o).args.length
      ·rw[dT (show (t.args.length:Int)=((first o).args.length:Int) by omega),dT g1];rfl
      ·rw[dF (show ¬(t.args.length:Int)=((first o).args.length:Int) by omega),dF g1];rfl
    ·rw[dF hs];rfl
theorem lp :EO (z4c.ent iF):=z4c.ok (G:=⟨fS,ov,gAr⟩) ⟨z2t,iW,gw,trivial⟩ λs t r h=>by
 unfold iF at h;split at h
 ·rename_i hs;cases h;exact⟨1,(D9 hs.1 (by have:=aV t.args;have:=aC t;omega) _).trans rfl⟩
 ·cases h
noncomputable abbrev GR (K:Nat):z4e.Gs:={z3g:=cV,z4g:=kR,z48:=gp,z3y:=io K,z2m:=aK K}
def dk (s:Sg) (o:Opr) (op:Int):Option Tm->Int->List Tm->Bool:=cA s o op λ_=>true
theorem jT {s:Sg} {o:Opr} {op:Int} {w:Tm->Bool}:∀{xs:List Tm} {p:Option Tm} {i:Int},cA s o op w p i xs=(xs.all w&&dk s o op p i xs)
 |[],_,_=>rfl
 | x :: xs, p, i => by
  unfold dk cA;rw[jT (xs:=xs),List.all_cons];unfold dk;cases w x<;>cases qa s o op p i x<;>cases xs.all w<;>rfl
section
variable {R : Type} {s : Sg} {op : Int} {o : Opr} (hS : aM s = true) (ho : ix s.ops op = some o)
include hS ho
theorem Cm {x:Tm} (hx:Good s x) {K:Nat} (hk:x.total<K) (A B:Option R):(bif !decide (o.unit=0)then Option.bind (io K x (uOf o)) λr=>bif r then A else B else B)=bif fL o x then A else B:=by
 unfold fL uOf;by_cases hu:o.unit=0
 ·rw[dT hu];rfl
 ·rw[dF hu,if_neg hu,Bool.not_false,cT,Bool.true_and];unfold io;rw[if_pos hk,bS];have:=(vh hS ho hu hx).1;rw[decide_eq_decide.2 this]
theorem Gm (K n:Nat) (args:List Tm) (hx:∀x∈args,Good s x/\x.total<K) (hl:args.length<4294967296) (i:Nat) (x:Tm) (h:args[i]? =some x) (hat:0<=atI o (i:Int)/\atI o (i:Int)<(first o).args.length) (h12:ByteArray) (h13:Int) (k0:Bool->Option R) (k1:Option R):
  z4e.c11 (GR K) n (kS s) (!decide (o.unit=0)) (i:Int) (atI o (i:Int)) s.sorts.names s.sorts.subs s.ops op h12 h13 args o.name o.decls o.assoc o.comm o.unit (uOf o).op (uOf o).name (uOf o).sort (uOf o).args x.op x.name x.sort x.args k0 k1=bif qa s o op (d7 args i) (i:Int) x then k1 else k0 false:=by
 have hko:=fu hS (aZ (xs:=s.ops) ho).1;obtain⟨gx,tx⟩:=hx x (mG h);have hi:i<args.length:=(gI.1 h).1
 have c13:∀(k0:Bool->Option R) (k1:Option R),z4e.c13 (GR K) n (kS s) (!decide (o.unit=0)) (i:Int) s.sorts.names s.sorts.subs s.ops op h12 h13 args o.name o.decls o.assoc o.comm o.unit (uOf o).op (uOf o).name (uOf o).sort (uOf o).args x.op x.name x.sort x.args k0 k1=bif o.comm&&(match d7 args i with
    |some y=>decide (0<bW y x)
    |none=>false)then k0 false else k1:=λk0 k1=>by
  have e:=sX (x:=x) K hi (λy hy=>(hx y hy).2) hl o.comm (k0 false) k1;unfold z4e.c13;rw[Tm.eta];exact e
 unfold z4e.c11;rw[Tm.eta,Tm.eta];show Option.bind (gp s x) _=_;have e1:gp s x=some (cP s x):=if_pos ⟨hS,gx.kn⟩;obtain⟨a1,a2,a3⟩:=uI hko hat.1 hat.2;rw[e1,bS,bq hko.dl,bS,a1,bS,n5 a2 a3,bS];unfold qa;by_cases hkd:cP s x=jW s o (i:Int)
 ·have hkd' : cP    s x = aq   (kS s) (aq   (first o).args (atI o (i : Int))) := hkd;rw[dT hkd',dT hkd,Bool.not_true,cF,Bool.true_and];have un:=Cm      (R:=R) hS ho gx tx (k0 false);cases ha:o.assoc with
  | false =>
   rw[cF,Bool.false_and,Bool.not_false,Bool.true_and];rw[ha]at c13
   refine Eq.trans ?_ (Eq.trans (un (bif o.comm&&(match d7 args i with
    |some y=>decide (0<bW y x)
    |none=>false)then k0 false else k1)) ?_)
   ·cases hu:(!decide (o.unit=0))with
    |false=>rw[cF,cF];rw[hu]at c13;exact c13 _ _
    | true =>
     rw[cT,cT];rw[hu]at c13;refine congrArg (Option.bind (io K x (uOf o))) (funext λr=> ?_);cases r with
     |true=>rfl
     |false=>exact c13 _ _
   ·cases fL   o x with
    |true=>rfl
    | false =>
     rw[cF,Bool.not_false,Bool.true_and]
     cases (o.comm&&(match d7 args i with
      |some y=>decide (0<bW y x)
      |none=>false))<;>rfl
  | true =>
   rw[cT,Bool.true_and];by_cases hop:x.op=op
   ·rw[dT hop];rfl
   ·rw [decide_eq_false hop, cond_false, Bool.not_false, Bool.true_and];rw[ha]at c13
    refine Eq.trans ?_ (Eq.trans (un (bif o.comm&&(match d7 args i with
     |some y=>decide (0<bW y x)
     |none=>false)then k0 false else k1)) ?_)
    ·cases hu:(!decide (o.unit=0))with
     |false=>rw[cF,cF];rw[hu]at c13;exact c13 _ _
     | true =>
      rw[cT,cT];rw[hu]at c13;refine congrArg (Option.bind (io K x (uOf o))) (funext λr=> ?_);cases r with
      |true=>rfl
      |false=>exact c13 _ _
    ·cases fL   o x with
     |true=>rfl
     | false =>
      rw[cF,Bool.not_false,Bool.true_and]
      cases (o.comm&&(match d7 args i with
       |some y=>decide (0<bW y x)
       |none=>false))<;>rfl
 ·have hkd':¬cP s x=aq (kS s) (aq (first o).args (atI o (i:Int))):=hkd;rw[dF hkd',dF hkd];rfl
theorem DW (K n:Nat) (args:List Tm) (hx:∀x∈args,Good s x/\x.total<K) (hl:args.length<4294967296) (har:if o.assoc=true then 2<=args.length else args.length=(first o).args.length) (h12:ByteArray) (h13:Int) (k0:Bool->Option R) (k1:Option R):∀f (i:Nat),i<=args.length->args.length-i<f->
  z4e.l5 (GR K) n f (kS s) (!decide (o.unit=0)) s.sorts.names s.sorts.subs s.ops op h12 h13 args o.name o.decls o.assoc o.comm o.unit (uOf o).op (uOf o).name (uOf o).sort (uOf o).args (i:Int) k0 k1=bif dk s o op (d7 args i) (i:Int) (args.drop i)then k1 else k0 false:=by
 have hko:=fu hS (aZ (xs:=s.ops) ho).1;intro f
 induction f with
 |zero=>intro i _ hm;omega
 | succ f ih =>
  intro i h1 hm;show z4e.b5 (GR K) n (kS s) (!decide (o.unit=0)) s.sorts.names s.sorts.subs s.ops op h12 h13 args o.name o.decls o.assoc o.comm o.unit (uOf o).op (uOf o).name (uOf o).sort (uOf o).args (i:Int) (λy0=>z4e.l5 (GR K) n f (kS s) (!decide (o.unit=0)) s.sorts.names s.sorts.subs s.ops op h12 h13 args o.name o.decls o.assoc o.comm o.unit (uOf o).op (uOf o).name (uOf o).sort (uOf o).args y0 k0 k1) k0 k1=_;unfold z4e.b5;by_cases hi:i<args.length
  ·obtain⟨x,x1,x2⟩:=aS     hi;rw[br     hi,cT,aJ     x1,bS,bu     (by omega)];simp only[];rw[ih (i+1) hi (by omega),aN       x1,vL      x1];have hat:=DO    hko har hi;have c11:=Gm    (R:=R) hS ho K n args hx hl i x x1 hat h12 h13 k0 (bif dk     s o op (some x) ((i+1:Nat):Int) (args.drop (i+1))then k1 else k0 false);have e:(bif dk     s o op (d7    args i) (i:Int) (x::args.drop (i+1))then k1 else k0 false)=bif qa   s o op (d7    args i) (i:Int) x then (bif dk     s o op (some x) ((i+1:Nat):Int) (args.drop (i+1))then k1 else k0 false)else k0 false:=by
    conv=>lhs;unfold dk cA
    rw[Bool.true_and];cases qa s o op (d7 args i) (i:Int) x<;>rfl
   rw[e];refine Eq.trans ?_ c11;unfold atI;cases ha:o.assoc with
   |true=>rw[cT,if_pos rfl]
   |false=>rw[cF,if_neg (by decide)]
  ·obtain rfl:i=args.length:=by omega
   rw[aU hi,cF,bj];rfl
end
noncomputable def gJ (K:Nat):Sg->Tm->Option Bool:=λs t=>if aM s=true/\t.total<=K/\Good s t/\t.op≠ -1 then (ix s.ops t.op).map λo=>dk s o t.op none 0 t.args else none
theorem ux (K:Nat) (hK:K<=4294967295):EO (z4e.ent (gJ K)):=z4e.ok (G:=GR K) ⟨dy,oQ,lE,lB K (by omega),z2n K (by omega),trivial⟩ λs t r h=>by
 unfold gJ at h;split at h
 ·rename_i hs;obtain⟨hS,ht,hg,hne⟩:=hs;cases ho:ix s.ops t.op with
  |none=>rw[ho]at h;cases h
  | some o =>
   rw[ho]at h;cases h;refine⟨t.args.length+1,?_⟩;have hl:=aV t.args;have ht2:=aC t;have har:if o.assoc=true then 2<=t.args.length else t.args.length=(first o).args.length:=by
    cases hg with
    |var=>exact absurd rfl hne
    |app ho2 hn _=>rw[show ix s.ops _=some _ from ho2]at ho;cases ho;exact hn
   have e1:cV s.sorts=some (kS s):=if_pos (j9 hS);have e2:kR s t.op=some (uOf o, !decide (o.unit=0)):=by
    unfold kR uOf;rw[if_pos hS,ho];by_cases hu:o.unit=0
    ·rw[if_pos hu,dT hu];show some (if o.unit=0 then _ else _)=_;rw[if_pos hu];rfl
    ·rw[if_neg hu,dF hu];show some (if o.unit=0 then _ else _)=_;rw[if_neg hu];rfl
   unfold z4e.main;rw[ho,bS];show Option.bind (cV s.sorts) _=_;rw[e1,bS];show Option.bind (kR s t.op) _=_;rw[e2,bS];have e:=DW (R:=AT×List Ob) hS ho K (t.args.length+1) t.args (λx hx=>⟨hg.args x hx,by have:=al hx;omega⟩) (by omega) har t.name t.sort (λt4=>some (AT.one (.b t4),[])) (some (AT.one (.b true),[])) (t.args.length+1) 0 (by omega) (by omega);rw[List.drop_zero]at e;refine e.trans ?_;show (bif dk s o t.op none 0 t.args then _ else _)=some (AT.one (.b (dk s o t.op none 0 t.args)),[]);cases dk s o t.op none 0 t.args<;>rfl
 ·cases h
noncomputable def hM (k:Nat):Sg->Tm->Option Bool:=λs t=>if aM s=true/\t.total<k then some (bh s t)else none
theorem FA {R:Type} (K k n:Nat) {s:Sg} (hS:aM s=true) (h1:Int) (h12:ByteArray) (h13:Int) (args:List Tm) (hx:∀x∈args,x.total<k) (hl:args.length<4294967296) (k0:Bool->Option R) (k1:Option R):∀f (i:Nat),i<=args.length->args.length-i<f->
  z47.l4 ⟨iF,hM k,gJ K⟩ n f s.sorts.names s.sorts.subs s.ops h1 h12 h13 args (i:Int) k0 k1=bif (args.drop i).all (bh s)then k1 else k0 false:=by
 intro f
 induction f with
 |zero=>intro i _ hm;omega
 | succ f ih =>
  intro i hi1 hm;show z47.b4 ⟨iF,hM k,gJ K⟩ n s.sorts.names s.sorts.subs s.ops h1 h12 h13 args (i:Int) (λy0=>z47.l4 ⟨iF,hM k,gJ K⟩ n f s.sorts.names s.sorts.subs s.ops h1 h12 h13 args y0 k0 k1) k0 k1=_;unfold z47.b4;by_cases hi:i<args.length
  ·obtain⟨x,x1,x2⟩:=aS hi;rw[br hi,cT,aJ x1,bS,bu (by omega),Tm.eta];simp only[];rw[ih (i+1) hi (by omega),aN x1,List.all_cons];show Option.bind (hM k s x) _=_;have e:hM k s x=some (bh s x):=if_pos ⟨hS,hx x x2⟩;rw[e,bS];cases bh s x<;>rfl
  ·obtain rfl:i=args.length:=by omega
   rw[aU hi,cF,bj];rfl
theorem xQ {s:Sg} {t:Tm} (h:dZ s t=true) (ha:t.args.all (bh s)=true):(t.op= -1->t.args=[])/\(t.op≠ -1->∃o,ix s.ops t.op=some o/\Good s t):=by
 unfold dZ at h;refine⟨λho=> ?_,λho=> ?_⟩
 ·rw[if_pos ho]at h;simp only[bA,decide_eq_true_eq]at h;exact nZ h.2.2
 ·rw[if_neg ho]at h;cases hx:ix s.ops t.op with
  |none=>rw[hx]at h;simp at h
  | some o =>
   rw[hx]at h;simp only[bA,decide_eq_true_eq]at h;obtain⟨h1,h2,h3⟩:=h;have h1:t.name=ByteArray.empty:=of_decide_eq_true h1;refine⟨o,rfl,?_⟩;have hg:∀a∈t.args,Good s a:=λa hm=>fd (aT.1 ha a hm);obtain⟨op,nm,so,ar⟩:=t;have h1:nm=ByteArray.empty:=h1;have h2:so=0:=h2;subst h1 h2;refine .app hx ?_ hg;cases hc:o.assoc with
   |true=>rw[hc,if_pos rfl]at h3;rw[if_pos rfl];simp only[bA,decide_eq_true_eq]at h3;exact h3.1
   |false=>rw[hc,if_neg (by decide)]at h3;rw[if_neg (by decide)];exact of_decide_eq_true h3
theorem mz {s:Sg} {t:Tm} (h:dZ s t=true):(t.op= -1->t.args=[])/\(t.op≠ -1->∃o,ix s.ops t.op=some o):=by
 unfold dZ at h;refine⟨λho=> ?_,λho=> ?_⟩
 ·rw[if_pos ho]at h;simp only[bA,decide_eq_true_eq]at h;exact nZ h.2.2
 ·rw[if_neg ho]at h;cases hx:ix s.ops t.op with
  |none=>rw[hx]at h;simp at h
  |some o=>exact⟨o,rfl⟩
theorem oD :∀k,k<=4294967295->EO (z47.ent (hM k))
 | 0, _ => fun R xs H K r h => by
  simp only[z47.ent]at h;split at h
  ·simp[hM]at h
  ·cases h
 | k + 1, hk => z47.ok      (G := ⟨iF   , hM    k, gJ     k⟩) ⟨lp       , oD        k (by omega), ux         k (by omega), trivial⟩ fun s t r h => by
  unfold hM at h;split at h
  ·rename_i hs;obtain⟨hS,ht⟩:=hs;cases h;have hl:=aV      t.args;have ht2:=aC         t;refine⟨t.args.length+1,?_⟩;unfold z47.main;rw[gf      ];unfold ii;rw[Tm.eta   ];show Option.bind (iF    s t) _=_;have e1:iF    s t=some (dZ    s t):=if_pos ⟨hS,by omega⟩;rw[e1,bS];cases hn:dZ    s t with
   |false=>rfl
   | true =>
    rw[Bool.not_true,cF,Bool.true_and];refine(FA k k (t.args.length+1) hS t.op t.name t.sort t.args (λx hx=>by have:=al hx;omega) (by omega) _ _ (t.args.length+1) 0 (by omega) (by omega)).trans ?_;rw[List.drop_zero];cases ha:t.args.all (bh s)with
    | false =>
     by_cases ho:t.op= -1
     ·rw[(mz hn).1 ho]at ha;cases ha
     ·obtain⟨o,ho2⟩:=(mz hn).2 ho;rw[if_neg ho,ho2];simp only;rw[jT,ha];rfl
    | true =>
     rw[cT];obtain⟨g1,g2⟩:=xQ hn ha;by_cases ho:t.op= -1
     ·rw[dT ho,if_pos ho];rfl
     ·obtain⟨o,ho2,hg⟩:=g2 ho;rw[dF ho,cF,if_neg ho,ho2];simp only;rw[jT        ,ha,Bool.true_and];show Option.bind (gJ     k s t) _=_;have e2:gJ     k s t=some (dk     s o t.op none 0 t.args):=by
       unfold gJ;rw[if_pos ⟨hS,by omega,hg,ho⟩,ho2];rfl
      rw[e2,bS]
  ·cases h
open Classical
noncomputable def uU:Sg->Tm->Option Bool:=λs t=>if t.total<4294967295 then some (aM s&&isT s t)else none
theorem z2z :EO (z2y.ent uU):=z2y.ok (G:=⟨λs=>some (aM s),gSm 4294967296,hM 4294967295⟩) ⟨z2v,jU _ (Nat.le_refl _),oD _ (Nat.le_refl _),trivial⟩ λs t r h=>by
 unfold uU at h;split at h
 ·rename_i ht;cases h;refine⟨1,?_⟩;unfold z2y.main;rw[bS,Tm.eta];cases hS:aM   s with
  |false=>rfl
  | true =>
   rw[cT,Bool.true_and];show Option.bind (gSm 4294967296 t) _=_;have e1:gSm 4294967296 t=some (decide (tsz t<=60)&&decide (tdp t<=20)):=if_pos (by omega);rw[e1,bS];unfold isT;cases decide (tsz t<=60)with
   |false=>rfl
   | true =>
    cases decide (tdp t<=20)with
    |false=>rfl
    | true =>
     show Option.bind (hM 4294967295 s t) _=_;have e2:hM 4294967295 s t=some (bh s t):=if_pos ⟨hS,ht⟩;rw[e2];rfl
 ·cases h
end Go.Proofs.YtfdkldmkbibknaaGreat.Den

/-
  Texts that the claim rests on, merged: PT1, IsT, IsS.
-/
import Derived.Test.YtkinkfieackmdaaGreatDoorZRowPth11
import Derived.Test.YtkinkfieackmdaaGreatDoorZRowPth20

namespace Go.Proofs.YtkinkfieackmdaaGreatDoor.Den
open Go.RowKit
set_option maxRecDepth 100000
set_option linter.unusedVariables false
namespace z4p
structure Gs where
 z3k:z3k.Q
 z41:z41.Q
 z4e:z4e.Q
noncomputable def main {R:Type} (G:Gs) (n:Nat) (s:Sg) (t:Tm) (K:Bool->Option R):Option R:=
 bif decide (t.op=(-1))then
  (
  (G.z3k t.name).bind λr=>
  bif r then
   (
   (G.z41 t.sort 0 (wr ((List.length s.sorts.names:Int)-1))).bind λr2=>
   bif r2 then
    (K (decide ((List.length t.args:Int)=0)))
   else
    K false
   )
  else
   K false
  )
 else
  (G.z41 t.op 0 (wr ((List.length s.ops:Int)-1))).bind λr3=>
  bif !r3 then
   (K false)
  else
   bif !sEq t.name ByteArray.empty then
    (K false)
   else
    bif !decide (t.sort=0)then
     (K false)
    else
     (ix s.ops t.op).bind λe=>
     bif !e.assoc then
      (
      (G.z4e e).bind λr4=>
      bif !decide ((List.length t.args:Int)=r4)then
       (K false)
      else
       bif e.assoc then
        (
        (G.z41 (List.length t.args:Int) 2 7).bind λr5=>
        bif !r5 then
         (K false)
        else
         K true
        )
       else
        K true
      )
     else
      bif e.assoc then
       (
       (G.z41 (List.length t.args:Int) 2 7).bind λr6=>
       bif !r6 then
        (K false)
       else
        K true
       )
      else
       K true
theorem ok {G:Gs} (hG:AE [z3k.ent G.z3k,z41.ent G.z41,z4e.ent G.z4e]) {g:Q} (hg:∀s t r,g s t=some r->∃n,main (R:=AT×List Ob) G n s t (λr0=>some (.one (.b r0),[]))=some (.one (.b r),[])):EO (ent g):=λR xs H K r hc=>by
 simp only[ent]at hc;split at hc
 ·exact okL hc λr j=>let⟨_,j⟩:=hg _ _ _ j;fF hG ⟨74,0,[],[],[4],[],[]⟩ nP Tryz.func130 j
 ·cases hc
end z4p
namespace z4q
structure Gs where
 z4c:z4c.Q
 z4s:z4s.Q
 z4n:z4n.Q
 z4j:z4j.Q
 z3a:z3a.Q
noncomputable def ae (G:Gs):List Ent:=[z4c.ent G.z4c,z4s.ent G.z4s,z4n.ent G.z4n,z4j.ent G.z4j,z3a.ent G.z3a]
noncomputable def c13 {R:Type} (G:Gs) (n:Nat) (kinds:LI) (has:Bool) (i:Int) (h0:LB) (h02:LS) (h03:LO) (h1:Int) (h12:ByteArray) (h13:Int) (h14:LT) (h2:ByteArray) (h22:LD) (h23 h24:Bool) (h25 h3:Int) (h32:ByteArray) (h33:Int) (h34:LT) (h4:Int) (h42:ByteArray) (h43:Int) (h44:LT) (k0:Bool->Option R) (k1:Option R):Option R:=
 bif h24 then
  (
  bif decide (0<i)then
   (
   (ix h14 (wr (i-1))).bind λe2=>
   (G.z3a (Tm.mk e2.op e2.name e2.sort e2.args) (Tm.mk h4 h42 h43 h44)).bind λr2=>
   bif decide (0<r2)then
    (k0 false)
   else
    k1
   )
  else
   k1
  )
 else
  k1
noncomputable def c11 {R:Type} (G:Gs) (n:Nat) (kinds:LI) (has:Bool) (i at1:Int) (h0:LB) (h02:LS) (h03:LO) (h1:Int) (h12:ByteArray) (h13:Int) (h14:LT) (h2:ByteArray) (h22:LD) (h23 h24:Bool) (h25 h3:Int) (h32:ByteArray) (h33:Int) (h34:LT) (h4:Int) (h42:ByteArray) (h43:Int) (h44:LT) (k0:Bool->Option R) (k1:Option R):Option R:=
 (G.z4n (Sg.mk (So.mk h0 h02) h03) (Tm.mk h4 h42 h43 h44)).bind λr2=>
 (ix h22 0).bind λe2=>
 (ix e2.args at1).bind λe4=>
 (ix kinds e4).bind λe6=>
 bif !decide (r2=e6)then
  (k0 false)
 else
  bif h23 then
   (
   bif decide (h4=h1)then
    (k0 false)
   else
    bif has then
     (
     (G.z4j (Tm.mk h4 h42 h43 h44) (Tm.mk h3 h32 h33 h34)).bind λr4=>
     bif r4 then
      (k0 false)
     else
      c13 G n kinds has i h0 h02 h03 h1 h12 h13 h14 h2 h22 h23 h24 h25 h3 h32 h33 h34 h4 h42 h43 h44
       (λt4=>k0 t4)
       (k1)
     )
    else
     c13 G n kinds has i h0 h02 h03 h1 h12 h13 h14 h2 h22 h23 h24 h25 h3 h32 h33 h34 h4 h42 h43 h44
      (λt42=>k0 t42)
      (k1)
   )
  else
   bif has then
    (
    (G.z4j (Tm.mk h4 h42 h43 h44) (Tm.mk h3 h32 h33 h34)).bind λr6=>
    bif r6 then
     (k0 false)
    else
     c13 G n kinds has i h0 h02 h03 h1 h12 h13 h14 h2 h22 h23 h24 h25 h3 h32 h33 h34 h4 h42 h43 h44
      (λt43=>k0 t43)
      (k1)
    )
   else
    c13 G n kinds has i h0 h02 h03 h1 h12 h13 h14 h2 h22 h23 h24 h25 h3 h32 h33 h34 h4 h42 h43 h44
     (λt44=>k0 t44)
     (k1)
noncomputable def b5 {R:Type} (G:Gs) (n:Nat) (kinds:LI) (has:Bool) (h0:LB) (h02:LS) (h03:LO) (h1:Int) (h12:ByteArray) (h13:Int) (h14:LT) (h2:ByteArray) (h22:LD) (h23 h24:Bool) (h25 h3:Int) (h32:ByteArray) (h33:Int) (h34:LT) (i:Int) (nx:Int->Option R) (k0:Bool->Option R) (k1:Option R):Option R:=
 bif decide (i<(List.length h14:Int))then
  (
  (ix h14 i).bind λe=>
  bif h23 then
   (
   c11 G n kinds has i 0 h0 h02 h03 h1 h12 h13 h14 h2 h22 h23 h24 h25 h3 h32 h33 h34 e.op e.name e.sort e.args
    (λt4=>k0 t4)
    (nx (wr (i+1)))
   )
  else
   c11 G n kinds has i i h0 h02 h03 h1 h12 h13 h14 h2 h22 h23 h24 h25 h3 h32 h33 h34 e.op e.name e.sort e.args
    (λt42=>k0 t42)
    (nx (wr (i+1)))
  )
 else
  k1
noncomputable def l5 {R:Type} (G:Gs) (n m:Nat) (kinds:LI) (has:Bool) (h0:LB) (h02:LS) (h03:LO) (h1:Int) (h12:ByteArray) (h13:Int) (h14:LT) (h2:ByteArray) (h22:LD) (h23 h24:Bool) (h25 h3:Int) (h32:ByteArray) (h33:Int) (h34:LT) (i:Int) (k0:Bool->Option R) (k1:Option R):Option R:=au (λ(v:Int) nx=>b5 G n kinds has h0 h02 h03 h1 h12 h13 h14 h2 h22 h23 h24 h25 h3 h32 h33 h34 v (λy0=>nx y0) k0 k1) m i
noncomputable def main {R:Type} (G:Gs) (n:Nat) (s:Sg) (t:Tm) (K:Bool->Option R):Option R:=
 (ix s.ops t.op).bind λe=>
 (G.z4c s.sorts).bind λr=>
 (G.z4s s t.op).bind λr2=>
 l5 G n n r r2.2 s.sorts.names s.sorts.subs s.ops t.op t.name t.sort t.args e.name e.decls e.assoc e.comm e.unit r2.1.op r2.1.name r2.1.sort r2.1.args 0
  (λt4=>K t4)
  (K true)
noncomputable def EC (G:Gs) (n:Nat) (R:Type) (st:St) (K:Kt R):Option R:=match st with
 |⟨[(2,.one (.p 0 0)),(3,.one (.p 1 0)),(5,.one (.p 2 0)),(6,.one (.l .i kinds)),(7,.one (.p 3 0)),(8,.one (.b has)),(9,.one (.i i)),(10,.one (.p 4 0))],[.box [.l .s h0,.l (.n 5) h02,.l (.n 8) h03],.box [.i h1,.s h12,.i h13,.l (.n 1) h14],.box [.s h2,.l (.n 7) h22,.b h23,.b h24,.i h25],.box [.i h3,.s h32,.i h33,.l (.n 1) h34],.box [.i h4,.s h42,.i h43,.l (.n 1) h44]]⟩=>c13 G n kinds has i h0 h02 h03 h1 h12 h13 h14 h2 h22 h23 h24 h25 h3 h32 h33 h34 h4 h42 h43 h44 (λt4=>K .ret ⟨[(4,.one (.b t4))],[]⟩) (K .normal ⟨[(2,.one (.p 0 0)),(3,.one (.p 1 0)),(5,.one (.p 2 0)),(6,.one (.l .i kinds)),(7,.one (.p 3 0)),(8,.one (.b has)),(9,.one (.i i))],[.box [.l .s h0,.l (.n 5) h02,.l (.n 8) h03],.box [.i h1,.s h12,.i h13,.l (.n 1) h14],.box [.s h2,.l (.n 7) h22,.b h23,.b h24,.i h25],.box [.i h3,.s h32,.i h33,.l (.n 1) h34]]⟩)
 |_=>none
noncomputable def uz (G:Gs) (n:Nat) (R:Type) (st:St) (K:Kt R):Option R:=match st with
 |⟨[(2,.one (.p 0 0)),(3,.one (.p 1 0)),(5,.one (.p 2 0)),(6,.one (.l .i kinds)),(7,.one (.p 3 0)),(8,.one (.b has)),(9,.one (.i i)),(10,.one (.p 4 0)),(11,.one (.i at1))],[.box [.l .s h0,.l (.n 5) h02,.l (.n 8) h03],.box [.i h1,.s h12,.i h13,.l (.n 1) h14],.box [.s h2,.l (.n 7) h22,.b h23,.b h24,.i h25],.box [.i h3,.s h32,.i h33,.l (.n 1) h34],.box [.i h4,.s h42,.i h43,.l (.n 1) h44]]⟩=>c11 G n kinds has i at1 h0 h02 h03 h1 h12 h13 h14 h2 h22 h23 h24 h25 h3 h32 h33 h34 h4 h42 h43 h44 (λt4=>K .ret ⟨[(4,.one (.b t4))],[]⟩) (K .normal ⟨[(2,.one (.p 0 0)),(3,.one (.p 1 0)),(5,.one (.p 2 0)),(6,.one (.l .i kinds)),(7,.one (.p 3 0)),(8,.one (.b has)),(9,.one (.i i))],[.box [.l .s h0,.l (.n 5) h02,.l (.n 8) h03],.box [.i h1,.s h12,.i h13,.l (.n 1) h14],.box [.s h2,.l (.n 7) h22,.b h23,.b h24,.i h25],.box [.i h3,.s h32,.i h33,.l (.n 1) h34]]⟩)
 |_=>none
noncomputable def dl5 (G:Gs) (n m:Nat) (R:Type) (st:St) (K:Kt R):Option R:=match st with
 |⟨[(2,.one (.p 0 0)),(3,.one (.p 1 0)),(5,.one (.p 2 0)),(6,.one (.l .i kinds)),(7,.one (.p 3 0)),(8,.one (.b has)),(9,.one (.i i))],[.box [.l .s h0,.l (.n 5) h02,.l (.n 8) h03],.box [.i h1,.s h12,.i h13,.l (.n 1) h14],.box [.s h2,.l (.n 7) h22,.b h23,.b h24,.i h25],.box [.i h3,.s h32,.i h33,.l (.n 1) h34]]⟩=>l5 G n m kinds has h0 h02 h03 h1 h12 h13 h14 h2 h22 h23 h24 h25 h3 h32 h33 h34 i (λt4=>K .ret ⟨[(4,.one (.b t4))],[]⟩) (K (.exit 0) ⟨[],[]⟩)
 |_=>none
noncomputable def pc (G:Gs) (n:Nat):Pcs:=⟨λR id st K=>bif Nat.beq id 5 then dl5 G n n R st K else none,λR id st K=>bif Nat.beq id 13 then EC G n R st K else bif Nat.beq id 11 then uz G n R st K else none,nK⟩
noncomputable def an:Ann:=⟨94,0,[(5,[2,3,5,6,7,8,9])],[(13,[2,3,5,6,7,8,9,10]),(11,[2,3,5,6,7,8,9,10,11])],[4],[(11,⟨[([0,1,2,3,4,5,6,7,8,9,10,11,12,13,14,15,16,17,18,19,20,21,22,23,24,25,26,27,28,29,30,31,32,33],[],[])],[],[],[0,1,2,3,4],[]⟩),(13,⟨[([0,1,2,3,4,5,6,7,8,9,10,11,12,13,14,15,16],[],[])],[],[],[0,1,2,3,4],[]⟩)],[]⟩
noncomputable abbrev bd:=ai Tryz.f131
noncomputable abbrev q13:=am [1,1,1,1,0,1,0,0,1,0,0,1,1,1,1] bd
noncomputable abbrev q11:=am [1,1,1,1,0,1,0,0,1,0,0,1,1,1] bd
noncomputable abbrev q5:=am [1,1,1,1,0,1,0,0] bd
theorem pc13 {G:Gs} (hG:AE (ae G)) {n:Nat}:PO an q13 (EC G n):=cpc hG (pc G n) ⟨[2,3,5,6,7,8,9],[4],[(0,[]),(1,[2,3,5,6,7,8,9])]⟩ (apl [] trivial) λR st K r h=>by unfold EC at h;split at h;exact .trans (by kernel_rfl) h;cases h
theorem ET {G:Gs} (hG:AE (ae G)) {n:Nat}:PO an q11 (uz G n):=cpc hG (pc G n) ⟨[2,3,5,6,7,8,9],[4],[(0,[]),(1,[2,3,5,6,7,8,9])]⟩ (apl [(0,13,q13)] ⟨pc13 hG,trivial⟩) λR st K r h=>by unfold uz at h;split at h;exact .trans (by kernel_rfl) h;cases h
theorem pl5 {G:Gs} (hG:AE (ae G)) (n:Nat):∀m,PO an (.loop q5) (dl5 G n m):=lpc hG (pc G n) [2,3,5,6,7,8,9] ⟨[],[4],[(0,[])]⟩ (apl [(0,11,q11)] ⟨ET hG,trivial⟩) (λR st K=>by unfold dl5;split<;>rfl) λm R st K r h=>by unfold dl5 at h;split at h;exact .trans (by kernel_rfl) h;cases h
theorem ok {G:Gs} (hG:AE (ae G)) {g:Q} (hg:∀s t r,g s t=some r->∃n,main (R:=AT×List Ob) G n s t (λr0=>some (.one (.b r0),[]))=some (.one (.b r),[])):EO (ent g):=λR xs H K r hc=>by
 simp only[ent]at hc;split at hc
 ·exact okL hc λr j=>let⟨n,j⟩:=hg _ _ _ j;fF hG an (pc G n) Tryz.func131 j (apl [(1,5,.loop q5)] ⟨pl5 hG n n,trivial⟩)
 ·cases hc
end z4q
namespace z4m
structure Gs where
 z4p:z4p.Q
 z4m:z4m.Q
 z4q:z4q.Q
noncomputable def ae (G:Gs):List Ent:=[z4p.ent G.z4p,ent G.z4m,z4q.ent G.z4q]
noncomputable def b4 {R:Type} (G:Gs) (n:Nat) (h0:LB) (h02:LS) (h03:LO) (h1:Int) (h12:ByteArray) (h13:Int) (h14:LT) (i:Int) (nx:Int->Option R) (k0:Bool->Option R) (k1:Option R):Option R:=
 bif decide (i<(List.length h14:Int))then
  (
  (ix h14 i).bind λe2=>
  (G.z4m (Sg.mk (So.mk h0 h02) h03) (Tm.mk e2.op e2.name e2.sort e2.args)).bind λr2=>
  bif !r2 then
   (k0 false)
  else
   nx (wr (i+1))
  )
 else
  k1
noncomputable def l4 {R:Type} (G:Gs) (n m:Nat) (h0:LB) (h02:LS) (h03:LO) (h1:Int) (h12:ByteArray) (h13:Int) (h14:LT) (i:Int) (k0:Bool->Option R) (k1:Option R):Option R:=au (λ(v:Int) nx=>b4 G n h0 h02 h03 h1 h12 h13 h14 v (λy0=>nx y0) k0 k1) m i
noncomputable def main {R:Type} (G:Gs) (n:Nat) (s:Sg) (t:Tm) (K:Bool->Option R):Option R:=
 (G.z4p s (Tm.mk t.op t.name t.sort t.args)).bind λr=>
 bif !r then
  (K false)
 else
  l4 G n n s.sorts.names s.sorts.subs s.ops t.op t.name t.sort t.args 0
   (λt4=>K t4)
   (
    bif decide (t.op=(-1))then
     (K true)
    else
     (G.z4q s (Tm.mk t.op t.name t.sort t.args)).bind λr2=>
     K r2
   )
noncomputable def dl4 (G:Gs) (n m:Nat) (R:Type) (st:St) (K:Kt R):Option R:=match st with
 |⟨[(2,.one (.p 0 0)),(3,.one (.p 1 0)),(5,.one (.i i))],[.box [.l .s h0,.l (.n 5) h02,.l (.n 8) h03],.box [.i h1,.s h12,.i h13,.l (.n 1) h14]]⟩=>l4 G n m h0 h02 h03 h1 h12 h13 h14 i (λt4=>K .ret ⟨[(4,.one (.b t4))],[]⟩) (K (.exit 0) ⟨[(2,.one (.p 0 0)),(3,.one (.p 1 0))],[.box [.l .s h0,.l (.n 5) h02,.l (.n 8) h03],.box [.i h1,.s h12,.i h13,.l (.n 1) h14]]⟩)
 |_=>none
noncomputable def pc (G:Gs) (n:Nat):Pcs:=⟨λR id st K=>bif Nat.beq id 4 then dl4 G n n R st K else none,nK,nK⟩
noncomputable def an:Ann:=⟨33,0,[(4,[2,3,5])],[],[4],[(6,⟨[([0,1,2,3,4,5,6,7],[],[])],[],[],[0,1],[]⟩)],[]⟩
noncomputable abbrev bd:=ai Tryz.f96
noncomputable abbrev q4:=am [1,1,0,1,0,0] bd
theorem pl4 {G:Gs} (hG:AE (ae G)) (n:Nat):∀m,PO an (.loop q4) (dl4 G n m):=lpc hG (pc G n) [2,3,5] ⟨[2,3],[4],[(0,[2,3])]⟩ (apl [] trivial) (λR st K=>by unfold dl4;split<;>rfl) λm R st K r h=>by unfold dl4 at h;split at h;exact .trans (by kernel_rfl) h;cases h
theorem ok {G:Gs} (hG:AE (ae G)) {g:Q} (hg:∀s t r,g s t=some r->∃n,main (R:=AT×List Ob) G n s t (λr0=>some (.one (.b r0),[]))=some (.one (.b r),[])):EO (ent g):=λR xs H K r hc=>by
 simp only[ent]at hc;split at hc
 ·exact okL hc λr j=>let⟨n,j⟩:=hg _ _ _ j;fF hG an (pc G n) Tryz.func96 j (apl [(1,4,.loop q4)] ⟨pl4 hG n n,trivial⟩)
 ·cases hc
end z4m
namespace z13
structure Gs where
 z11:z11.Q
 z13:z13.Q
 z12:z12.Q
 z0w:z0w.Q
 z10:z10.Q
 z0a:z0a.Q
noncomputable def ae (G:Gs):List Ent:=[z11.ent G.z11,ent G.z13,z12.ent G.z12,z0w.ent G.z0w,z10.ent G.z10,z0a.ent G.z0a]
noncomputable def b10 {R:Type} (G:Gs) (n:Nat) (xd xc xe:LI) (xa:LB) (xb:LS) (xg:LO) (t77:LT) (t78 h2:Int) (h22:ByteArray) (h23:Int) (h24:LT) (h3:ByteArray) (h32:LD) (h33 h34:Bool) (h35 t79:Int) (h1:LM) (nx:Int->LM->Option R) (k0:Bool->LM->Option R) (k1:LM->Option R):Option R:=
 bif decide (t79 < t78) then
  (
  (ix t77 t79).bind λe=>
  (G.z13 xd xc xe xa xb xg h1 (Tm.mk e.op e.name e.sort e.args)).bind λr10=>
  bif !r10.1 then
   (k0 false r10.2)
  else
   (G.z12 xd xc xe xa xb xg r10.2 (Tm.mk e.op e.name e.sort e.args)).bind λr11=>
   (G.z0w xd xc xe xa xb xg r11.2 h2 t79).bind λr12=>
   bif !decide (r11.1=r12.1)then
    (k0 false r12.2)
   else
    bif h33 then
     (
     bif decide (e.op=h2)then
      (k0 false r12.2)
     else
      (G.z10 xd xc xe xa xb xg r12.2 h2 (Tm.mk e.op e.name e.sort e.args)).bind λr13=>
      bif r13.1 then
       (k0 false r13.2)
      else
       bif h34 then
        (
        bif decide (0<t79)then
         (
         (ix h24 (wr (t79-1))).bind λe7=>
         (G.z0a (Tm.mk e7.op e7.name e7.sort e7.args) (Tm.mk e.op e.name e.sort e.args)).bind λr15=>
         bif decide (0<r15)then
          (k0 false r13.2)
         else
          nx (wr (t79+1)) r13.2
         )
        else
         nx (wr (t79+1)) r13.2
        )
       else
        nx (wr (t79+1)) r13.2
     )
    else
     (G.z10 xd xc xe xa xb xg r12.2 h2 (Tm.mk e.op e.name e.sort e.args)).bind λr16=>
     bif r16.1 then
      (k0 false r16.2)
     else
      bif h34 then
       (
       bif decide (0<t79)then
        (
        (ix h24 (wr (t79-1))).bind λe9=>
        (G.z0a (Tm.mk e9.op e9.name e9.sort e9.args) (Tm.mk e.op e.name e.sort e.args)).bind λr18=>
        bif decide (0<r18)then
         (k0 false r16.2)
        else
         nx (wr (t79+1)) r16.2
        )
       else
        nx (wr (t79+1)) r16.2
       )
      else
       nx (wr (t79+1)) r16.2
  )
 else
  k1 h1
noncomputable def l10 {R:Type} (G:Gs) (n m:Nat) (xd xc xe:LI) (xa:LB) (xb:LS) (xg:LO) (t77:LT) (t78 h2:Int) (h22:ByteArray) (h23:Int) (h24:LT) (h3:ByteArray) (h32:LD) (h33 h34:Bool) (h35 t79:Int) (h1:LM) (k0:Bool->LM->Option R) (k1:LM->Option R):Option R:=au (λ(v:Int×LM) nx=>b10 G n xd xc xe xa xb xg t77 t78 h2 h22 h23 h24 h3 h32 h33 h34 h35 v.1 v.2 (λy0 y1=>nx (y0,y1)) k0 k1) m (t79,h1)
noncomputable def c9 {R:Type} (G:Gs) (n:Nat) (xd xc xe:LI) (xa:LB) (xb:LS) (xg:LO) (h1:LM) (h2:Int) (h22:ByteArray) (h23:Int) (h24:LT) (h3:ByteArray) (h32:LD) (h33 h34:Bool) (h35:Int) (k0:Bool->LM->Option R):Option R:=
 l10 G n n xd xc xe xa xb xg h24 (List.length h24:Int) h2 h22 h23 h24 h3 h32 h33 h34 h35 0 h1
  (λt4 h12=>k0 t4 h12)
  (λh122=>k0 true h122)
noncomputable def c6 {R:Type} (G:Gs) (n:Nat) (xd xc xe:LI) (xa:LB) (xb:LS) (xg:LO) (h1:LM) (h2:Int) (h22:ByteArray) (h23:Int) (h24:LT) (h3:ByteArray) (h32:LD) (h33 h34:Bool) (h35:Int) (k0:Bool->LM->Option R):Option R:=
 bif h33 then
  (
  bif decide ((List.length h24:Int)<2)then
   (k0 false h1)
  else
   bif decide (7<(List.length h24:Int))then
    (k0 false h1)
   else
    bif !h33 then
     (
     (ix h32 0).bind λe=>
     bif !decide ((List.length h24:Int)=(List.length e.args:Int))then
      (k0 false h1)
     else
      c9 G n xd xc xe xa xb xg h1 h2 h22 h23 h24 h3 h32 h33 h34 h35
       (λt4 h12=>k0 t4 h12)
     )
    else
     c9 G n xd xc xe xa xb xg h1 h2 h22 h23 h24 h3 h32 h33 h34 h35
      (λt42 h122=>k0 t42 h122)
  )
 else
  bif !h33 then
   (
   (ix h32 0).bind λe2=>
   bif !decide ((List.length h24:Int)=(List.length e2.args:Int))then
    (k0 false h1)
   else
    c9 G n xd xc xe xa xb xg h1 h2 h22 h23 h24 h3 h32 h33 h34 h35
     (λt43 h123=>k0 t43 h123)
   )
  else
   c9 G n xd xc xe xa xb xg h1 h2 h22 h23 h24 h3 h32 h33 h34 h35
    (λt44 h124=>k0 t44 h124)
noncomputable def main {R:Type} (G:Gs) (n:Nat) (xd xc xe:LI) (xa:LB) (xb:LS) (xg:LO) (xf:LM) (t:Tm) (K:Bool->LM->Option R):Option R:=
 bif decide (t.op=(-1))then
  (
  (G.z11 xd xc xe xa xb xg xf (Tm.mk t.op t.name t.sort t.args)).bind λr=>
  K r.1 r.2
  )
 else
  bif decide (t.op<0)then
   (K false xf)
  else
   bif decide ((List.length xg:Int)<=t.op)then
    (K false xf)
   else
    bif !sEq t.name ByteArray.empty then
     (K false xf)
    else
     bif !decide (t.sort=0)then
      (K false xf)
     else
      (ix xg t.op).bind λe4=>
      c6 G n xd xc xe xa xb xg xf t.op t.name t.sort t.args e4.name e4.decls e4.assoc e4.comm e4.unit
       (λt42 h122=>K t42 h122)
noncomputable def dV (G:Gs) (n m:Nat) (R:Type) (st:St) (K:Kt R):Option R:=match st with
 |⟨[(0,.one (.p 0 0)),(3,.one (.p 2 0)),(5,.one (.p 3 0)),(77,.one (.l (.n 1) t77)),(78,.one (.i t78)),(79,.one (.i t79))],[.box [.l .i xd,.l .i xc,.l .i xe,.l .s xa,.l (.n 5) xb,.l (.n 8) xg,.m 1],.map .i h1,.box [.i h2,.s h22,.i h23,.l (.n 1) h24],.box [.s h3,.l (.n 7) h32,.b h33,.b h34,.i h35]]⟩=>l10 G n m xd xc xe xa xb xg t77 t78 h2 h22 h23 h24 h3 h32 h33 h34 h35 t79 h1 (λt4 h12=>K .ret ⟨[(4,.one (.b t4))],[.box [.l .i xd,.l .i xc,.l .i xe,.l .s xa,.l (.n 5) xb,.l (.n 8) xg,.m 1],.map .i h12]⟩) (λh12=>K (.exit 0) ⟨[],[.box [.l .i xd,.l .i xc,.l .i xe,.l .s xa,.l (.n 5) xb,.l (.n 8) xg,.m 1],.map .i h12]⟩)
 |_=>none
noncomputable def dc9 (G:Gs) (n:Nat) (R:Type) (st:St) (K:Kt R):Option R:=match st with
 |⟨[(0,.one (.p 0 0)),(3,.one (.p 2 0)),(5,.one (.p 3 0))],[.box [.l .i xd,.l .i xc,.l .i xe,.l .s xa,.l (.n 5) xb,.l (.n 8) xg,.m 1],.map .i h1,.box [.i h2,.s h22,.i h23,.l (.n 1) h24],.box [.s h3,.l (.n 7) h32,.b h33,.b h34,.i h35]]⟩=>c9 G n xd xc xe xa xb xg h1 h2 h22 h23 h24 h3 h32 h33 h34 h35 (λt4 h12=>K .ret ⟨[(4,.one (.b t4))],[.box [.l .i xd,.l .i xc,.l .i xe,.l .s xa,.l (.n 5) xb,.l (.n 8) xg,.m 1],.map .i h12]⟩)
 |_=>none
noncomputable def dc6 (G:Gs) (n:Nat) (R:Type) (st:St) (K:Kt R):Option R:=match st with
 |⟨[(0,.one (.p 0 0)),(3,.one (.p 2 0)),(5,.one (.p 3 0))],[.box [.l .i xd,.l .i xc,.l .i xe,.l .s xa,.l (.n 5) xb,.l (.n 8) xg,.m 1],.map .i h1,.box [.i h2,.s h22,.i h23,.l (.n 1) h24],.box [.s h3,.l (.n 7) h32,.b h33,.b h34,.i h35]]⟩=>c6 G n xd xc xe xa xb xg h1 h2 h22 h23 h24 h3 h32 h33 h34 h35 (λt4 h12=>K .ret ⟨[(4,.one (.b t4))],[.box [.l .i xd,.l .i xc,.l .i xe,.l .s xa,.l (.n 5) xb,.l (.n 8) xg,.m 1],.map .i h12]⟩)
 |_=>none
noncomputable def pc (G:Gs) (n:Nat):Pcs:=⟨λR id st K=>bif Nat.beq id 10 then dV G n n R st K else none,λR id st K=>bif Nat.beq id 9 then dc9 G n R st K else bif Nat.beq id 6 then dc6 G n R st K else none,nK⟩
noncomputable def an:Ann:=⟨137,2,[(10,[0,3,5,77,78,79])],[(9,[0,3,5]),(6,[0,3,5])],[4],[(3,⟨[([0,1,2,3,4,5,6,7,8,9,10,11,12,13,14,15,16,17,18,19,20,21,22,23],[],[])],[],[],[0,1,2],[]⟩),(5,⟨[([9,0,1,2,3,4,5,6,7,8,10],[9,10],[4])],[9,10],[],[2],[]⟩),(12,⟨[([0,1,2,3,4,5,6,7,8,9,10,11,12,13,14,15,16,17,18,19,20,21,22,23,24,25,26,27,28,29,30,31,32,33,34,35,36,37,38,39,40,41,42,43,44,45,46,47,48,49,50,51],[2,7,12,31],[])],[2,7,12,31],[],[2,3,4],[]⟩)],[]⟩
noncomputable abbrev bd:=ai Tryz.f109
noncomputable abbrev q10:=am [1,1,1,1,1,1,0,1,0,0] bd
noncomputable abbrev q9:=am [1,1,1,1,1,1] bd
noncomputable abbrev q6:=am [1,1,1,1] bd
theorem pH {G:Gs} (hG:AE (ae G)) (n:Nat):∀m,PO an (.loop q10) (dV G n m):=lpc hG (pc G n) [0,3,5,77,78,79] ⟨[],[4],[(0,[])]⟩ (apl [] trivial) (λR st K=>by unfold dV;split<;>rfl) λm R st K r h=>by unfold dV at h;split at h;exact .trans (by kernel_rfl) h;cases h
theorem pc9 {G:Gs} (hG:AE (ae G)) {n:Nat}:PO an q9 (dc9 G n):=cpc hG (pc G n) ⟨[],[4],[]⟩ (apl [(1,10,.loop q10)] ⟨pH hG n n,trivial⟩) λR st K r h=>by unfold dc9 at h;split at h;exact .trans (by kernel_rfl) h;cases h
theorem pc6 {G:Gs} (hG:AE (ae G)) {n:Nat}:PO an q6 (dc6 G n):=cpc hG (pc G n) ⟨[],[4],[]⟩ (apl [(0,9,q9)] ⟨pc9 hG,trivial⟩) λR st K r h=>by unfold dc6 at h;split at h;exact .trans (by kernel_rfl) h;cases h
theorem ok {G:Gs} (hG:AE (ae G)) {g:Q} (hg:∀xd xc xe xa xb xg xf t r,g xd xc xe xa xb xg xf t=some r->∃n,main (R:=AT×List Ob) G n xd xc xe xa xb xg xf t (λr0 r1=>some (.one (.b r0),[.box [.l .i xd,.l .i xc,.l .i xe,.l .s xa,.l (.n 5) xb,.l (.n 8) xg,.m 1],.map .i r1]))=some (.one (.b r.1),[.box [.l .i xd,.l .i xc,.l .i xe,.l .s xa,.l (.n 5) xb,.l (.n 8) xg,.m 1],.map .i r.2])):EO (ent g):=λR xs H K r hc=>by
 simp only[ent]at hc;split at hc
 ·exact okL hc λr j=>let⟨n,j⟩:=hg _ _ _ _ _ _ _ _ _ j;fF hG an (pc G n) Tryz.func109 j (apl [(0,6,q6)] ⟨pc6 hG,trivial⟩)
 ·cases hc
end z13
namespace z0z
structure Gs where
 z0r:z0r.Q
 z0c:z0c.Q
 z13:z13.Q
noncomputable def main {R:Type} (G:Gs) (n:Nat) (xd xc xe:LI) (xa:LB) (xb:LS) (xg:LO) (xf:LM) (t:Tm) (K:Bool->LM->Option R):Option R:=
 (G.z0r (Tm.mk t.op t.name t.sort t.args)).bind λr=>
 bif decide (r<=60)then
  (
  (G.z0c (Tm.mk t.op t.name t.sort t.args)).bind λr2=>
  bif decide (r2<=20)then
   (
   (G.z13 xd xc xe xa xb xg xf (Tm.mk t.op t.name t.sort t.args)).bind λr3=>
   K r3.1 r3.2
   )
  else
   K false xf
  )
 else
  K false xf
theorem ok {G:Gs} (hG:AE [z0r.ent G.z0r,z0c.ent G.z0c,z13.ent G.z13]) {g:Q} (hg:∀xd xc xe xa xb xg xf t r,g xd xc xe xa xb xg xf t=some r->∃n,main (R:=AT×List Ob) G n xd xc xe xa xb xg xf t (λr0 r1=>some (.one (.b r0),[.box [.l .i xd,.l .i xc,.l .i xe,.l .s xa,.l (.n 5) xb,.l (.n 8) xg,.m 1],.map .i r1]))=some (.one (.b r.1),[.box [.l .i xd,.l .i xc,.l .i xe,.l .s xa,.l (.n 5) xb,.l (.n 8) xg,.m 1],.map .i r.2])):EO (ent g):=λR xs H K r hc=>by
 simp only[ent]at hc;split at hc
 ·exact okL hc λr j=>let⟨_,j⟩:=hg _ _ _ _ _ _ _ _ _ j;fF hG ⟨18,2,[],[],[4],[],[]⟩ nP Tryz.func73 j
 ·cases hc
end z0z
open Classical
def fH (s:Sg) (t:Tm):Bool:=if t.op= -1 then cM t.name&&(inN (nS s) t.sort&&decide (t.args.length=0))else match ix s.ops t.op with
 |none=>false
 |some o=>sEq t.name ByteArray.empty&&(decide (t.sort=0)&&(if o.assoc=true then decide (2<=t.args.length)&&decide (t.args.length<=7)else decide (t.args.length=(first o).args.length)))
def u5 (s:Sg) (o:Opr) (op:Int) (p:Option Tm) (i:Int) (x:Tm):Bool:=decide (cH s x=ya s o i)&&(!(o.assoc&&decide (x.op=op))&&(!n7 o x&& !(o.comm&&(match p with
 |some y=>decide (0<aQ y x)
 |none=>false))))
def cY (s:Sg) (o:Opr) (op:Int) (w:Tm->Bool):Option Tm->Int->List Tm->Bool
 |_,_,[]=>true
 |p,i,x::xs=>(w x&&u5 s o op p i x)&&cY s o op w (some x) (i+1) xs
def jo (s:Sg) (w:Tm->Bool) (t:Tm):Bool:=fH s t&&(if t.op= -1 then true else match ix s.ops t.op with
 |some o=>cY s o t.op w none 0 t.args
 |none=>false)
def vU (s:Sg):Nat->Tm->Bool
 |0,_=>false
 |k+1,t=>jo s (vU s k) t
def bW (s:Sg) (t:Tm):Bool:=vU s (t.total+1) t
theorem kY {s:Sg} {o:Opr} {op:Int} {w w':Tm->Bool}:∀{xs:List Tm} {p:Option Tm} {i:Int},(∀x∈xs,w x=w' x)->cY s o op w p i xs=cY s o op w' p i xs
 |[],_,_,_=>rfl
 | x :: xs, p, i, h => by
  unfold cY;rw[h x (by simp),kY λy hy=>h y (by simp[hy])]
theorem kP {s:Sg} {w w':Tm->Bool} {t:Tm} (h:∀x∈t.args,w x=w' x):jo s w t=jo s w' t:=by
 unfold jo;split
 ·rfl
 ·split
  ·rw[kY h]
  ·rfl
theorem sA {s:Sg}:∀(k j:Nat) (t:Tm),t.total<k->t.total<j->vU s k t=vU s j t
 |0,_,_,h,_=>absurd h (Nat.not_lt_zero _)
 |_,0,_,_,h=>absurd h (Nat.not_lt_zero _)
 |k+1,j+1,t,h1,h2=>kP λx hx=>sA k j x (by have:=ac hx;omega) (by have:=ac hx;omega)
theorem jH (s:Sg) (t:Tm):bW s t=jo s (bW s) t:=kP λx hx=>sA _ _ x (ac hx) (Nat.lt_succ_self _)
theorem pg {s:Sg} {o:Opr} {op:Int} {w:Tm->Bool}:∀{xs:List Tm} {p:Option Tm} {i:Int},cY s o op w p i xs=true->∀x∈xs,w x=true
 |[],_,_,_,x,hx=>by simp at hx
 | y :: ys, p, i, h, x, hx => by
  unfold cY at h;simp only[bA]at h;rcases List.mem_cons.1 hx with rfl|hx
  ·exact h.1.1
  ·exact pg h.2 x hx
theorem ou {s:Sg}:∀(k:Nat) (t:Tm),t.total<k->bW s t=true->Good s t
 |0,_,h,_=>absurd h (Nat.not_lt_zero _)
 | k + 1, t, h, hw => by
  rw[jH]at hw;unfold jo fH at hw;by_cases ho:t.op= -1
  ·rw[if_pos ho,if_pos ho]at hw;simp only[bA,decide_eq_true_eq]at hw;obtain⟨⟨h1,h2,h3⟩,_⟩:=hw;have h2:=bt.1 h2;obtain⟨op,nm,so,ar⟩:=t;have:ar=[]:=nZ h3;subst this;have:op= -1:=ho;subst this;exact .var h2.1 h2.2 h1
  ·rw[if_neg ho,if_neg ho]at hw;cases hx:ix s.ops t.op with
   |none=>rw[hx]at hw;simp at hw
   | some o =>
    rw[hx]at hw;simp only[bA,decide_eq_true_eq]at hw;obtain⟨⟨h1,h2,h3⟩,h4⟩:=hw;have h1:t.name=ByteArray.empty:=of_decide_eq_true h1;have ha:=pg h4;have hg:∀a∈t.args,Good s a:=λa hm=>ou k a (by have:=ac hm;omega) (ha a hm);obtain⟨op,nm,so,ar⟩:=t;have:nm=ByteArray.empty:=h1;subst this;have:so=0:=h2;subst this;refine .app hx ?_ hg;cases hc:o.assoc with
    |true=>rw[hc,if_pos rfl]at h3;rw[if_pos rfl];simp only[bA,decide_eq_true_eq]at h3;exact h3.1
    |false=>rw[hc,if_neg (by decide)]at h3;rw[if_neg (by decide)];exact of_decide_eq_true h3
theorem eP {s:Sg} {t:Tm} (h:bW s t=true):Good s t:=ou _ t (Nat.lt_succ_self _) h
def dP (args:List Tm):Nat->Option Tm
 |0=>none
 |i+1=>args[i]?
theorem qy {R:Type} (k:Nat) {args:List Tm} {i:Nat} {x:Tm} (hi:i<args.length) (hk:∀y∈args,y.total<k) (hl:args.length<4294967296) (c:Bool) (a b:Option R):
  (bif c then (bif decide ((0 : Int) < (i : Int)) then Option.bind (ix args (wr ((i : Int) - 1))) fun e => Option.bind (cv   k (Tm.mk (Tm.op e) (Tm.name e) (Tm.sort e) (Tm.args e)) x) fun r => bif decide (0 < r) then a else b else b) else b) =
   bif c&&(match dP args i with
    |some y=>decide (0<aQ y x)
    |none=>false)then a else b:=by
 cases c with
 |false=>rfl
 | true =>
  rw[cT,Bool.true_and];cases i with
  |zero=>rfl
  | succ j =>
   obtain⟨y,y1,y2⟩:=aV (show j<args.length by omega);rw[dT (by omega),cT,aI (by omega),show ((j+1:Nat):Int)-1=(j:Int) by omega,aD y1,bS,Tm.eta];unfold cv;rw[if_pos (hk y y2),bS];rw[show dP args (j+1)=some y from y1]
theorem wo {args:List Tm} {i:Nat} {x:Tm} (h:args[i]? =some x):dP args (i+1)=some x:=h
theorem DG {s:Sg} {o:Opr} (hk:Dj s o) {args:List Tm} (har:if o.assoc=true then 2<=args.length else args.length=(first o).args.length) {i:Nat} (hi:i<args.length):0<=atI o (i:Int)/\atI o (i:Int)<(first o).args.length:=by
 unfold atI;cases ha:o.assoc with
 |true=>have:=hk.two (.inl ha);rw[if_pos rfl];omega
 |false=>rw[ha,if_neg (by decide)]at har;rw[if_neg (by decide)];omega
noncomputable def gWm:Nat->List Int->List Int->List Int->List ByteArray->List Sb->List Opr->Mp->Tm->Option (Bool×Mp):=λk ab _ kd nm sb ops m t=>if Alg kd nm sb ops/\ab.length=nm.length/\t.total<k then some (bW ⟨⟨nm,sb⟩,ops⟩ t,m)else none
noncomputable abbrev GW (k:Nat):z13.Gs:={z11:=zn,z13:=gWm k,z12:=gj,z0w:=oJ,z10:=yD,z0a:=cv 4294967296}
section
variable {R : Type} {kd ab be : List Int} {nm : List ByteArray} {sb : List Sb} {ops : List Opr} {op : Int} {o : Opr} (hA : Alg kd nm sb ops) (hab : ab.length = nm.length) (ho : ix ops op = some o)
include hA hab ho
theorem Ea     (n k : Nat) (hk : k ≤ 4294967296) (args : List Tm) (hx : ∀ x ∈ args, x.total < k) (hl : args.length < 4294967296) (har : if o.assoc = true then 2 ≤ args.length else args.length = (first o).args.length) (m : Mp) (h23 : Int) (h22 : ByteArray) (k0 : Bool → Mp → Option R) (k1 : Mp → Option R) : ∀ f i, i ≤ args.length → args.length - i < f →
  z13.l10 (GW k) n f ab be kd nm sb ops args (args.length:Int) op h22 h23 args o.name o.decls o.assoc o.comm o.unit (i:Int) m k0 k1=bif cY ⟨⟨nm,sb⟩,ops⟩ o op (bW ⟨⟨nm,sb⟩,ops⟩) (dP args i) (i:Int) (args.drop i)then k1 m else k0 false m:=by
 have hko:=iX hA.1 (bG (xs:=ops) ho).1;intro f
 induction f with
 |zero=>intro i _ hm;omega
 | succ f ih =>
  intro i h1 hm;show z13.b10 (GW k) n ab be kd nm sb ops args (args.length:Int) op h22 h23 args o.name o.decls o.assoc o.comm o.unit (i:Int) m (λy0 y1=>z13.l10 (GW k) n f ab be kd nm sb ops args (args.length:Int) op h22 h23 args o.name o.decls o.assoc o.comm o.unit y0 y1 k0 k1) k0 k1=_;unfold z13.b10;by_cases hi:i<args.length
  ·obtain⟨x,x1,x2⟩:=aV     hi;have e0:gWm k ab be kd nm sb ops m x=some (bW    ⟨⟨nm,sb⟩,ops⟩ x,m):=if_pos ⟨hA,hab,hx x x2⟩;rw[aH     hi,cT,aD     x1,bS,Tm.eta,aE       x1];show Option.bind (gWm k ab be kd nm sb ops m x) _=_;rw[e0,bS];unfold cY;cases    hw:bW    ⟨⟨nm,sb⟩,ops⟩ x with
   |false=>rfl
   | true =>
    have gx:=eP hw;have e1:gj ab be kd nm sb ops m x=some (cH ⟨⟨nm,sb⟩,ops⟩ x,m):=if_pos ⟨hA,gx.kn⟩;have e2:oJ ab be kd nm sb ops m op (i:Int)=some (ya ⟨⟨nm,sb⟩,ops⟩ o (i:Int),m):=by
     unfold oJ;rw[if_pos ⟨hA,o,ho,DG hko har hi⟩,ho];rfl
    have e3:yD ab be kd nm sb ops m op x=some (n7 o x,m):=by
     unfold yD;rw[if_pos hA,ho];rfl
    have nxt:z13.l10 (GW k) n f ab be kd nm sb ops args (args.length:Int) op h22 h23 args o.name o.decls o.assoc o.comm o.unit (wr ((i:Int)+1)) m k0 k1=bif cY ⟨⟨nm,sb⟩,ops⟩ o op (bW ⟨⟨nm,sb⟩,ops⟩) (some x) ((i:Int)+1) (args.drop (i+1))then k1 m else k0 false m:=by
     rw[aO (by omega),ih (i+1) hi (by omega),wo x1];rfl
    simp only[Bool.not_true,cF];show Option.bind (gj ab be kd nm sb ops m x) _=_;rw[e1,bS];show Option.bind (oJ ab be kd nm sb ops m op (i:Int)) _=_;rw[e2,bS];unfold u5;by_cases hkd:cH ⟨⟨nm,sb⟩,ops⟩ x=ya ⟨⟨nm,sb⟩,ops⟩ o (i:Int)
    ·simp only;rw[dT hkd,Bool.not_true,cF,Bool.true_and,Bool.true_and]
     have tail:(Option.bind (yD ab be kd nm sb ops m op x) λr13=>bif r13.1 then (k0 false r13.2)else bif o.comm then (bif decide (0<(i:Int))then (Option.bind (ix args (wr ((i:Int)-1))) λe7=>Option.bind (cv 4294967296 (Tm.mk (Tm.op e7) (Tm.name e7) (Tm.sort e7) (Tm.args e7)) x) λr15=>bif decide (0<r15)then (k0 false r13.2)else z13.l10 (GW k) n f ab be kd nm sb ops args (args.length:Int) op h22 h23 args o.name o.decls o.assoc o.comm o.unit (wr ((i:Int)+1)) r13.2 k0 k1)else z13.l10 (GW k) n f ab be kd nm sb ops args (args.length:Int) op h22 h23 args o.name o.decls o.assoc o.comm o.unit (wr ((i:Int)+1)) r13.2 k0 k1)else z13.l10 (GW k) n f ab be kd nm sb ops args (args.length:Int) op h22 h23 args o.name o.decls o.assoc o.comm o.unit (wr ((i:Int)+1)) r13.2 k0 k1)=
       bif (!n7 o x&& !(o.comm&&(match dP args i with
        |some y=>decide (0<aQ y x)
        |none=>false)))&&cY ⟨⟨nm,sb⟩,ops⟩ o op (bW ⟨⟨nm,sb⟩,ops⟩) (some x) ((i:Int)+1) (args.drop (i+1))then k1 m else k0 false m:=by
      rw[e3,bS];cases hu:n7 o x with
      |true=>rfl
      | false =>
       simp only[cF];rw[nxt,qy 4294967296 hi (λy hy=>by have:=hx y hy;omega) hl]
       cases (o.comm&&(match dP args i with
        |some y=>decide (0<aQ y x)
        |none=>false))<;>rfl
     cases ha:o.assoc with
     | false =>
      rw[cF,Bool.false_and,Bool.not_false,Bool.true_and];rw[ha]at tail;exact tail
     | true =>
      rw[cT,Bool.true_and];rw[ha]at tail;by_cases hop:x.op=op
      ·rw[dT hop];rfl
      ·rw[dF hop,cF,Bool.not_false,Bool.true_and];exact tail
    ·simp only;rw[dF hkd];rfl
  ·obtain rfl:i=args.length:=by omega
   rw[aq hi,cF,aK];rfl
end
theorem lI {α:Type} {xs:List α} {i:Int} (h:i<0\/(xs.length:Int)<=i):ix xs i=none:=by
 unfold ix;by_cases h0:0<=i
 ·rw[dT h0,cT];exact List.getElem?_eq_none (by omega)
 ·rw[dF h0,cF]
theorem DP {α:Type} {xs:List α} {i:Int} (h0:0<=i) (h1:i<xs.length):∃x,ix xs i=some x/\x∈xs:=by
 obtain⟨x,x1,x2⟩:=aV (xs:=xs) (show i.toNat<xs.length by omega);refine⟨x,?_,x2⟩;have:=aD x1
 rwa [Int.toNat_of_nonneg h0]at this
theorem w_c9 {R:Type} {kd ab be:List Int} {nm:List ByteArray} {sb:List Sb} {ops:List Opr} {op:Int} {o:Opr} (hA:Alg kd nm sb ops) (hab:ab.length=nm.length) (ho:ix ops op=some o) (k:Nat) (hk:k<=4294967296) (args:List Tm) (hx:∀x∈args,x.total<k) (hl:args.length<4294967296) (har:if o.assoc=true then 2<=args.length else args.length=(first o).args.length) (m:Mp) (h23:Int) (h22:ByteArray) (k0:Bool->Mp->Option R):
  z13.c9 (GW k) (args.length+1) ab be kd nm sb ops m op h22 h23 args o.name o.decls o.assoc o.comm o.unit k0=k0 (cY ⟨⟨nm,sb⟩,ops⟩ o op (bW ⟨⟨nm,sb⟩,ops⟩) none 0 args) m:=by
 unfold z13.c9;have e:=Ea (R:=R) (be:=be) hA hab ho (args.length+1) k hk args hx hl har m h23 h22 (λt4 h12=>k0 t4 h12) (λh122=>k0 true h122) (args.length+1) 0 (by omega) (by omega);rw[List.drop_zero]at e;refine e.trans ?_;show (bif cY ⟨⟨nm,sb⟩,ops⟩ o op (bW ⟨⟨nm,sb⟩,ops⟩) none 0 args then k0 true m else k0 false m)=_;cases cY ⟨⟨nm,sb⟩,ops⟩ o op (bW ⟨⟨nm,sb⟩,ops⟩) none 0 args<;>rfl
theorem EJ     {R : Type} {kd ab be : List Int} {nm : List ByteArray} {sb : List Sb} {ops : List Opr} (hA : Alg kd nm sb ops) (hab : ab.length = nm.length) (k : Nat) (hk : k < 4294967296) (t : Tm) (ht : t.total < k + 1) (m : Mp) (K : Bool → Mp → Option R) :
  z13.main (GW k) (t.args.length+1) ab be kd nm sb ops m t K=K (bW ⟨⟨nm,sb⟩,ops⟩ t) m:=by
 have hx:∀x∈t.args,x.total<k:=λx hx=>by have:=ac hx;omega
 have hl:t.args.length<4294967296:=by have:=bm t.args;have:=az t;omega
 unfold z13.main;rw[jH,Tm.eta];unfold jo fH;by_cases h1:t.op= -1
 ·rw[dT h1,cT,if_pos h1,if_pos h1];show Option.bind (zn ab be kd nm sb ops m t) _=_;unfold zn;rw[if_pos h1,bS,hab,Bool.and_true]
 ·rw [decide_eq_false h1, cond_false, if_neg h1, if_neg h1];by_cases h2:t.op<0
  ·rw[dT h2,cT,lI (xs:=ops) (.inl h2)];rfl
  ·rw [decide_eq_false h2, cond_false];by_cases h3:(ops.length:Int)<=t.op
   ·rw[dT h3,cT,lI (xs:=ops) (.inr h3)];rfl
   ·rw [decide_eq_false h3, cond_false];obtain⟨o,ho,_⟩:=DP    (xs:=ops) (show 0<=t.op by omega) (show t.op<ops.length by omega);have hko:=iX   hA.1 (bG     (xs:=ops) ho).1;rw[ho,bS];simp only;cases hn:sEq t.name ByteArray.empty with
    |false=>rfl
    | true =>
     rw[Bool.not_true,cF,Bool.true_and];by_cases hs:t.sort=0
     ·rw [decide_eq_true hs, Bool.not_true, cond_false, Bool.true_and];have c9:=λhar=>w_c9 (R:=R) (be:=be) hA hab ho k (by omega) t.args hx hl har m t.sort t.name (λt42 h122=>K t42 h122);unfold z13.c6;cases ha:o.assoc with
      | true =>
       rw[cT,if_pos rfl];by_cases g1:t.args.length<2
       ·rw[dT (show (t.args.length:Int)<2 by omega),cT,dF (show ¬2<=t.args.length by omega)];rfl
       ·rw[dF (show ¬(t.args.length:Int)<2 by omega),cF,dT (show 2<=t.args.length by omega),Bool.true_and];by_cases g2:7<t.args.length
        ·rw[dT (show 7<(t.args.length:Int) by omega),cT,dF (show ¬t.args.length<=7 by omega)];rfl
        ·rw[dF (show ¬7<(t.args.length:Int) by omega),cF,dT (show t.args.length<=7 by omega),Bool.true_and,Bool.not_true,cF];have e:=c9 (by rw[ha,if_pos rfl];omega);rw[ha]at e;exact e
      | false =>
       rw[cF,if_neg (by decide),Bool.not_false,cT,bD hko.dl,bS];by_cases g1:t.args.length=(first o).args.length
       ·rw[dT (show (t.args.length:Int)=((first o).args.length:Int) by omega),Bool.not_true,cF,dT g1,Bool.true_and];have e:=c9 (by rw[ha,if_neg (by decide)];exact g1);rw[ha]at e;exact e
       ·rw[dF (show ¬(t.args.length:Int)=((first o).args.length:Int) by omega),Bool.not_false,cT,dF g1];rfl
     ·rw[dF hs];rfl
theorem kR :∀k,k<=4294967296->EO (z13.ent (gWm k))
 | 0, _ => fun R xs H K r h => by
  simp only[z13.ent]at h;split at h
  ·simp[gWm]at h
  ·cases h
 | k + 1, hk => z13.ok                (G := GW k) ⟨nL, kR k (by omega), o9, tq, wU, z0b               4294967296 (Nat.le_refl _), trivial⟩ fun ab be kd nm sb ops m t r h => by
  unfold gWm at h;split at h
  ·rename_i hs;cases h;exact⟨t.args.length+1,(EJ hs.1 hs.2.1 k (by omega) t hs.2.2 m _).trans rfl⟩
  ·cases h
def isT (s:Sg) (t:Tm):Bool:=decide (tsz t<=60)&&(decide (tdp t<=20)&&bW s t)
noncomputable def xW:List Int->List Int->List Int->List ByteArray->List Sb->List Opr->Mp->Tm->Option (Bool×Mp):=λab _ kd nm sb ops m t=>if Alg kd nm sb ops/\ab.length=nm.length/\t.total<4294967296 then some (isT ⟨⟨nm,sb⟩,ops⟩ t,m)else none
theorem uW :EO (z0z.ent xW):=z0z.ok (G:=⟨gSz 4294967296,gDp 4294967296,gWm 4294967296⟩) ⟨z0s _ (Nat.le_refl _),z0d _ (Nat.le_refl _),kR _ (Nat.le_refl _),trivial⟩ λab be kd nm sb ops m t r h=>by
 unfold xW at h;split at h
 ·rename_i hs;cases h;refine⟨1,?_⟩;unfold z0z.main isT;rw[Tm.eta];have e1:gSz 4294967296 t=some (tsz t:Int):=if_pos hs.2.2;have e2:gDp 4294967296 t=some (tdp t:Int):=if_pos hs.2.2;have e3:gWm 4294967296 ab be kd nm sb ops m t=some (bW    ⟨⟨nm,sb⟩,ops⟩ t,m):=if_pos hs;show Option.bind (gSz 4294967296 t) _=_;rw[e1,bS];by_cases h1:tsz t<=60
  ·rw[dT (show (tsz t:Int)<=60 by omega),cT,dT h1,Bool.true_and];show Option.bind (gDp 4294967296 t) _=_;rw[e2,bS];by_cases h2:tdp t<=20
   ·rw[dT (show (tdp t:Int)<=20 by omega),cT,dT h2,Bool.true_and];show Option.bind (gWm 4294967296 ab be kd nm sb ops m t) _=_;rw[e3,bS]
   ·rw[dF (show ¬(tdp t:Int)<=20 by omega),cF,dF h2];rfl
  ·rw[dF (show ¬(tsz t:Int)<=60 by omega),cF,dF h1];rfl
 ·cases h
open Classical
abbrev rH :Int->Int->Int->Option Bool:=λx lo hi=>some (decide (lo<=x)&&decide (x<=hi))
theorem zv {α:Type} {xs:List α} (hl:xs.length<4294967296) (x:Int):rH x 0 (wr ((xs.length:Int)-1))=some (inN xs.length x):=by
 rw[aI (by omega)];unfold rH inN;by_cases h0:0<=x
 ·rw[dT h0,Bool.true_and,Bool.true_and];by_cases h1:x<(xs.length:Int)
  ·rw[dT h1,dT (by omega)]
  ·rw[dF h1,dF (by omega)]
 ·rw[dF h0,Bool.false_and,Bool.false_and]
noncomputable def kO:Sg->Tm->Option Bool:=λs t=>if bw s=true/\t.total<4294967296 then some (fH s t)else none
theorem CO {s:Sg} (h:bw s=true):s.ops.length<=14/\s.sorts.names.length<=8:=by
 unfold bw cu at h;simp only[bA,decide_eq_true_eq]at h;exact⟨h.2.1,h.1.2.1⟩
theorem EV {R:Type} {s:Sg} (hS:bw s=true) {t:Tm} (hl:t.args.length<4294967296) (K:Bool->Option R):z4p.main ⟨iD,rH,gAr⟩ 1 s t K=K (fH s t):=by
 obtain⟨l1,l2⟩:=CO hS;unfold z4p.main fH;by_cases h1:t.op= -1
 ·rw [decide_eq_true h1, cond_true, if_pos h1];show Option.bind (iD    t.name) _=_;unfold iD;rw[bS   ];cases hn:cM    t.name with
  |false=>rfl
  | true =>
   rw[cT,Bool.true_and];show Option.bind (rH t.sort 0 _) _=_;rw[zv (by omega),bS];show (bif inN (nS s) t.sort then _ else _)=_;cases inN (nS s) t.sort with
   |false=>rfl
   | true =>
    rw[cT,Bool.true_and]
    congr 1
    exact decide_eq_decide.2 (by omega)
 ·rw [decide_eq_false h1, cond_false, if_neg h1];show Option.bind (rH   t.op 0 _) _=_;rw[zv     (by omega),bS];cases hi:inN s.ops.length t.op with
  | false =>
   have:ix s.ops t.op=none:=lI (by
    have:=Bool.eq_false_iff.1 hi;rw[Ne,bt]at this;omega)
   rw[this];rfl
  | true =>
   obtain⟨i0,i1⟩:=bt.1 hi;obtain⟨o,ho,_⟩:=DP i0 i1;have hko:=iX hS (bG (xs:=s.ops) ho).1;rw[ho,Bool.not_true,cF];simp only;cases hn:sEq t.name ByteArray.empty with
   |false=>rfl
   | true =>
    rw[Bool.not_true,cF,Bool.true_and];by_cases hs:t.sort=0
    ·rw [decide_eq_true hs, Bool.not_true, cond_false, Bool.true_and, Option.bind_some];cases ha:o.assoc with
     | true =>
      rw[Bool.not_true,cF,if_pos rfl,cT];show Option.bind (rH (t.args.length:Int) 2 7) _=_;unfold rH;rw[bS];by_cases g1:2<=t.args.length
      ·by_cases g2:t.args.length<=7
       ·rw[dT (show (2:Int)<=(t.args.length:Int) by omega),dT (show (t.args.length:Int)<=7 by omega),dT g1,dT g2];rfl
       ·rw[dF (show ¬(t.args.length:Int)<=7 by omega),dF g2,Bool.and_false,Bool.and_false];rfl
      ·rw[dF (show ¬(2:Int)<=(t.args.length:Int) by omega),dF g1];rfl
     | false =>
      rw[Bool.not_false,cT,if_neg (by decide)];show Option.bind (gAr o) _=_;rw[Br hko.dl,bS];by_cases g1:t.args.length=(first o).args.length
      ·rw[dT (show (t.args.length:Int)=((first o).args.length:Int) by omega),dT g1];rfl
      ·rw[dF (show ¬(t.args.length:Int)=((first o).args.length:Int) by omega),dF g1];rfl
    ·rw[dF hs];rfl
theorem xp :EO (z4p.ent kO):=z4p.ok (G:=⟨iD,rH,gAr⟩) ⟨z3l,lD,mu,trivial⟩ λs t r h=>by
 unfold kO at h;split at h
 ·rename_i hs;cases h;exact⟨1,(EV hs.1 (by have:=bm t.args;have:=az t;omega) _).trans rfl⟩
 ·cases h
noncomputable abbrev GR (K:Nat):z4q.Gs:={z4c:=fx,z4s:=wV,z4n:=fA,z4j:=bf K,z3a:=cv K}
def dy (s:Sg) (o:Opr) (op:Int):Option Tm->Int->List Tm->Bool:=cY s o op λ_=>true
theorem jd {s:Sg} {o:Opr} {op:Int} {w:Tm->Bool}:∀{xs:List Tm} {p:Option Tm} {i:Int},cY s o op w p i xs=(xs.all w&&dy s o op p i xs)
 |[],_,_=>rfl
 | x :: xs, p, i => by
  unfold dy cY;rw[jd (xs:=xs),List.all_cons];unfold dy;cases w x<;>cases u5 s o op p i x<;>cases xs.all w<;>rfl
section
variable {R : Type} {s : Sg} {op : Int} {o : Opr} (hS : bw s = true) (ho : ix s.ops op = some o)
include hS ho
theorem CI {x:Tm} (hx:Good s x) {K:Nat} (hk:x.total<K) (A B:Option R):(bif !decide (o.unit=0)then Option.bind (bf K x (uOf o)) λr=>bif r then A else B else B)=bif n7 o x then A else B:=by
 unfold n7 uOf;by_cases hu:o.unit=0
 ·rw[dT hu];rfl
 ·rw[dF hu,if_neg hu,Bool.not_false,cT,Bool.true_and];unfold bf;rw[if_pos hk,bS];have:=(Dd hS ho hu hx).1;rw[decide_eq_decide.2 this]
theorem Fw (K n:Nat) (args:List Tm) (hx:∀x∈args,Good s x/\x.total<K) (hl:args.length<4294967296) (i:Nat) (x:Tm) (h:args[i]? =some x) (hat:0<=atI o (i:Int)/\atI o (i:Int)<(first o).args.length) (h12:ByteArray) (h13:Int) (k0:Bool->Option R) (k1:Option R):
  z4q.c11 (GR K) n (kS s) (!decide (o.unit=0)) (i:Int) (atI o (i:Int)) s.sorts.names s.sorts.subs s.ops op h12 h13 args o.name o.decls o.assoc o.comm o.unit (uOf o).op (uOf o).name (uOf o).sort (uOf o).args x.op x.name x.sort x.args k0 k1=bif u5 s o op (dP args i) (i:Int) x then k1 else k0 false:=by
 have hko:=iX hS (bG (xs:=s.ops) ho).1;obtain⟨gx,tx⟩:=hx x (mG h);have hi:i<args.length:=(gI.1 h).1
 have c13:∀(k0:Bool->Option R) (k1:Option R),z4q.c13 (GR K) n (kS s) (!decide (o.unit=0)) (i:Int) s.sorts.names s.sorts.subs s.ops op h12 h13 args o.name o.decls o.assoc o.comm o.unit (uOf o).op (uOf o).name (uOf o).sort (uOf o).args x.op x.name x.sort x.args k0 k1=bif o.comm&&(match dP args i with
    |some y=>decide (0<aQ y x)
    |none=>false)then k0 false else k1:=λk0 k1=>by
  have e:=qy (x:=x) K hi (λy hy=>(hx y hy).2) hl o.comm (k0 false) k1;unfold z4q.c13;rw[Tm.eta];exact e
 unfold z4q.c11;rw[Tm.eta,Tm.eta];show Option.bind (fA s x) _=_;have e1:fA s x=some (cH s x):=if_pos ⟨hS,gx.kn⟩;obtain⟨a1,a2,a3⟩:=zU hko hat.1 hat.2;rw[e1,bS,bD hko.dl,bS,a1,bS,oy a2 a3,bS];unfold u5;by_cases hkd:cH s x=ya s o (i:Int)
 ·have hkd' : cH    s x = ap   (kS s) (ap   (first o).args (atI o (i : Int))) := hkd;rw[dT hkd',dT hkd,Bool.not_true,cF,Bool.true_and];have un:=CI      (R:=R) hS ho gx tx (k0 false);cases ha:o.assoc with
  | false =>
   rw[cF,Bool.false_and,Bool.not_false,Bool.true_and];rw[ha]at c13
   refine Eq.trans ?_ (Eq.trans (un (bif o.comm&&(match dP args i with
    |some y=>decide (0<aQ y x)
    |none=>false)then k0 false else k1)) ?_)
   ·cases hu:(!decide (o.unit=0))with
    |false=>rw[cF,cF];rw[hu]at c13;exact c13 _ _
    | true =>
     rw[cT,cT];rw[hu]at c13;refine congrArg (Option.bind (bf K x (uOf o))) (funext λr=> ?_);cases r with
     |true=>rfl
     |false=>exact c13 _ _
   ·cases n7   o x with
    |true=>rfl
    | false =>
     rw[cF,Bool.not_false,Bool.true_and]
     cases (o.comm&&(match dP args i with
      |some y=>decide (0<aQ y x)
      |none=>false))<;>rfl
  | true =>
   rw[cT,Bool.true_and];by_cases hop:x.op=op
   ·rw[dT hop];rfl
   ·rw [decide_eq_false hop, cond_false, Bool.not_false, Bool.true_and];rw[ha]at c13
    refine Eq.trans ?_ (Eq.trans (un (bif o.comm&&(match dP args i with
     |some y=>decide (0<aQ y x)
     |none=>false)then k0 false else k1)) ?_)
    ·cases hu:(!decide (o.unit=0))with
     |false=>rw[cF,cF];rw[hu]at c13;exact c13 _ _
     | true =>
      rw[cT,cT];rw[hu]at c13;refine congrArg (Option.bind (bf K x (uOf o))) (funext λr=> ?_);cases r with
      |true=>rfl
      |false=>exact c13 _ _
    ·cases n7   o x with
     |true=>rfl
     | false =>
      rw[cF,Bool.not_false,Bool.true_and]
      cases (o.comm&&(match dP args i with
       |some y=>decide (0<aQ y x)
       |none=>false))<;>rfl
 ·have hkd':¬cH s x=ap (kS s) (ap (first o).args (atI o (i:Int))):=hkd;rw[dF hkd',dF hkd];rfl
theorem Es (K n:Nat) (args:List Tm) (hx:∀x∈args,Good s x/\x.total<K) (hl:args.length<4294967296) (har:if o.assoc=true then 2<=args.length else args.length=(first o).args.length) (h12:ByteArray) (h13:Int) (k0:Bool->Option R) (k1:Option R):∀f (i:Nat),i<=args.length->args.length-i<f->
  z4q.l5 (GR K) n f (kS s) (!decide (o.unit=0)) s.sorts.names s.sorts.subs s.ops op h12 h13 args o.name o.decls o.assoc o.comm o.unit (uOf o).op (uOf o).name (uOf o).sort (uOf o).args (i:Int) k0 k1=bif dy s o op (dP args i) (i:Int) (args.drop i)then k1 else k0 false:=by
 have hko:=iX hS (bG (xs:=s.ops) ho).1;intro f
 induction f with
 |zero=>intro i _ hm;omega
 | succ f ih =>
  intro i h1 hm;show z4q.b5 (GR K) n (kS s) (!decide (o.unit=0)) s.sorts.names s.sorts.subs s.ops op h12 h13 args o.name o.decls o.assoc o.comm o.unit (uOf o).op (uOf o).name (uOf o).sort (uOf o).args (i:Int) (λy0=>z4q.l5 (GR K) n f (kS s) (!decide (o.unit=0)) s.sorts.names s.sorts.subs s.ops op h12 h13 args o.name o.decls o.assoc o.comm o.unit (uOf o).op (uOf o).name (uOf o).sort (uOf o).args y0 k0 k1) k0 k1=_;unfold z4q.b5;by_cases hi:i<args.length
  ·obtain⟨x,x1,x2⟩:=aV     hi;rw[aH     hi,cT,aD     x1,bS,aO     (by omega)];simp only[];rw[ih (i+1) hi (by omega),aE       x1,wo      x1];have hat:=DG    hko har hi;have c11:=Fw    (R:=R) hS ho K n args hx hl i x x1 hat h12 h13 k0 (bif dy     s o op (some x) ((i+1:Nat):Int) (args.drop (i+1))then k1 else k0 false);have e:(bif dy     s o op (dP    args i) (i:Int) (x::args.drop (i+1))then k1 else k0 false)=bif u5   s o op (dP    args i) (i:Int) x then (bif dy     s o op (some x) ((i+1:Nat):Int) (args.drop (i+1))then k1 else k0 false)else k0 false:=by
    conv=>lhs;unfold dy cY
    rw[Bool.true_and];cases u5 s o op (dP args i) (i:Int) x<;>rfl
   rw[e];refine Eq.trans ?_ c11;unfold atI;cases ha:o.assoc with
   |true=>rw[cT,if_pos rfl]
   |false=>rw[cF,if_neg (by decide)]
  ·obtain rfl:i=args.length:=by omega
   rw[aq hi,cF,aK];rfl
end
noncomputable def fP (K:Nat):Sg->Tm->Option Bool:=λs t=>if bw s=true/\t.total<=K/\Good s t/\t.op≠ -1 then (ix s.ops t.op).map λo=>dy s o t.op none 0 t.args else none
theorem uO (K:Nat) (hK:K<=4294967295):EO (z4q.ent (fP K)):=z4q.ok (G:=GR K) ⟨fS,xX,po,dm K (by omega),z3b K (by omega),trivial⟩ λs t r h=>by
 unfold fP at h;split at h
 ·rename_i hs;obtain⟨hS,ht,hg,hne⟩:=hs;cases ho:ix s.ops t.op with
  |none=>rw[ho]at h;cases h
  | some o =>
   rw[ho]at h;cases h;refine⟨t.args.length+1,?_⟩;have hl:=bm t.args;have ht2:=az t;have har:if o.assoc=true then 2<=t.args.length else t.args.length=(first o).args.length:=by
    cases hg with
    |var=>exact absurd rfl hne
    |app ho2 hn _=>rw[show ix s.ops _=some _ from ho2]at ho;cases ho;exact hn
   have e1:fx s.sorts=some (kS s):=if_pos (qC hS);have e2:wV s t.op=some (uOf o, !decide (o.unit=0)):=by
    unfold wV uOf;rw[if_pos hS,ho];by_cases hu:o.unit=0
    ·rw[if_pos hu,dT hu];show some (if o.unit=0 then _ else _)=_;rw[if_pos hu];rfl
    ·rw[if_neg hu,dF hu];show some (if o.unit=0 then _ else _)=_;rw[if_neg hu];rfl
   unfold z4q.main;rw[ho,bS];show Option.bind (fx s.sorts) _=_;rw[e1,bS];show Option.bind (wV s t.op) _=_;rw[e2,bS];have e:=Es (R:=AT×List Ob) hS ho K (t.args.length+1) t.args (λx hx=>⟨hg.args x hx,by have:=ac hx;omega⟩) (by omega) har t.name t.sort (λt4=>some (AT.one (.b t4),[])) (some (AT.one (.b true),[])) (t.args.length+1) 0 (by omega) (by omega);rw[List.drop_zero]at e;refine e.trans ?_;show (bif dy s o t.op none 0 t.args then _ else _)=some (AT.one (.b (dy s o t.op none 0 t.args)),[]);cases dy s o t.op none 0 t.args<;>rfl
 ·cases h
noncomputable def gy (k:Nat):Sg->Tm->Option Bool:=λs t=>if bw s=true/\t.total<k then some (bW s t)else none
theorem Ep {R:Type} (K k n:Nat) {s:Sg} (hS:bw s=true) (h1:Int) (h12:ByteArray) (h13:Int) (args:List Tm) (hx:∀x∈args,x.total<k) (hl:args.length<4294967296) (k0:Bool->Option R) (k1:Option R):∀f (i:Nat),i<=args.length->args.length-i<f->
  z4m.l4 ⟨kO,gy k,fP K⟩ n f s.sorts.names s.sorts.subs s.ops h1 h12 h13 args (i:Int) k0 k1=bif (args.drop i).all (bW s)then k1 else k0 false:=by
 intro f
 induction f with
 |zero=>intro i _ hm;omega
 | succ f ih =>
  intro i hi1 hm;show z4m.b4 ⟨kO,gy k,fP K⟩ n s.sorts.names s.sorts.subs s.ops h1 h12 h13 args (i:Int) (λy0=>z4m.l4 ⟨kO,gy k,fP K⟩ n f s.sorts.names s.sorts.subs s.ops h1 h12 h13 args y0 k0 k1) k0 k1=_;unfold z4m.b4;by_cases hi:i<args.length
  ·obtain⟨x,x1,x2⟩:=aV hi;rw[aH hi,cT,aD x1,bS,aO (by omega),Tm.eta];simp only[];rw[ih (i+1) hi (by omega),aE x1,List.all_cons];show Option.bind (gy k s x) _=_;have e:gy k s x=some (bW s x):=if_pos ⟨hS,hx x x2⟩;rw[e,bS];cases bW s x<;>rfl
  ·obtain rfl:i=args.length:=by omega
   rw[aq hi,cF,aK];rfl
theorem ym {s:Sg} {t:Tm} (h:fH s t=true) (ha:t.args.all (bW s)=true):(t.op= -1->t.args=[])/\(t.op≠ -1->∃o,ix s.ops t.op=some o/\Good s t):=by
 unfold fH at h;refine⟨λho=> ?_,λho=> ?_⟩
 ·rw[if_pos ho]at h;simp only[bA,decide_eq_true_eq]at h;exact nZ h.2.2
 ·rw[if_neg ho]at h;cases hx:ix s.ops t.op with
  |none=>rw[hx]at h;simp at h
  | some o =>
   rw[hx]at h;simp only[bA,decide_eq_true_eq]at h;obtain⟨h1,h2,h3⟩:=h;have h1:t.name=ByteArray.empty:=of_decide_eq_true h1;refine⟨o,rfl,?_⟩;have hg:∀a∈t.args,Good s a:=λa hm=>eP (aT.1 ha a hm);obtain⟨op,nm,so,ar⟩:=t;have h1:nm=ByteArray.empty:=h1;have h2:so=0:=h2;subst h1 h2;refine .app hx ?_ hg;cases hc:o.assoc with
   |true=>rw[hc,if_pos rfl]at h3;rw[if_pos rfl];simp only[bA,decide_eq_true_eq]at h3;exact h3.1
   |false=>rw[hc,if_neg (by decide)]at h3;rw[if_neg (by decide)];exact of_decide_eq_true h3
theorem lZ {s:Sg} {t:Tm} (h:fH s t=true):(t.op= -1->t.args=[])/\(t.op≠ -1->∃o,ix s.ops t.op=some o):=by
 unfold fH at h;refine⟨λho=> ?_,λho=> ?_⟩
 ·rw[if_pos ho]at h;simp only[bA,decide_eq_true_eq]at h;exact nZ h.2.2
 ·rw[if_neg ho]at h;cases hx:ix s.ops t.op with
  |none=>rw[hx]at h;simp at h
  |some o=>exact⟨o,rfl⟩
theorem ox :∀k,k<=4294967295->EO (z4m.ent (gy k))
 | 0, _ => fun R xs H K r h => by
  simp only[z4m.ent]at h;split at h
  ·simp[gy]at h
  ·cases h
 | k + 1, hk => z4m.ok      (G := ⟨kO   , gy    k, fP     k⟩) ⟨xp       , ox        k (by omega), uO         k (by omega), trivial⟩ fun s t r h => by
  unfold gy at h;split at h
  ·rename_i hs;obtain⟨hS,ht⟩:=hs;cases h;have hl:=bm      t.args;have ht2:=az         t;refine⟨t.args.length+1,?_⟩;unfold z4m.main;rw[jH      ];unfold jo;rw[Tm.eta   ];show Option.bind (kO    s t) _=_;have e1:kO    s t=some (fH    s t):=if_pos ⟨hS,by omega⟩;rw[e1,bS];cases hn:fH    s t with
   |false=>rfl
   | true =>
    rw[Bool.not_true,cF,Bool.true_and];refine(Ep k k (t.args.length+1) hS t.op t.name t.sort t.args (λx hx=>by have:=ac hx;omega) (by omega) _ _ (t.args.length+1) 0 (by omega) (by omega)).trans ?_;rw[List.drop_zero];cases ha:t.args.all (bW s)with
    | false =>
     by_cases ho:t.op= -1
     ·rw[(lZ hn).1 ho]at ha;cases ha
     ·obtain⟨o,ho2⟩:=(lZ hn).2 ho;rw[if_neg ho,ho2];simp only;rw[jd,ha];rfl
    | true =>
     rw[cT];obtain⟨g1,g2⟩:=ym hn ha;by_cases ho:t.op= -1
     ·rw[dT ho,if_pos ho];rfl
     ·obtain⟨o,ho2,hg⟩:=g2 ho;rw[dF ho,cF,if_neg ho,ho2];simp only;rw[jd        ,ha,Bool.true_and];show Option.bind (fP     k s t) _=_;have e2:fP     k s t=some (dy     s o t.op none 0 t.args):=by
       unfold fP;rw[if_pos ⟨hS,by omega,hg,ho⟩,ho2];rfl
      rw[e2,bS]
  ·cases h
end Go.Proofs.YtkinkfieackmdaaGreatDoor.Den

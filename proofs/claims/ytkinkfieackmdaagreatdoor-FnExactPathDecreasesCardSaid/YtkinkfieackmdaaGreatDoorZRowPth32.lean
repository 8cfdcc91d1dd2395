/-
  Texts that the claim rests on, merged: PV2, Eqn, Eqn2, Eqn3.
-/
import Derived.Test.YtkinkfieackmdaaGreatDoorZRowPth11
import Derived.Test.YtkinkfieackmdaaGreatDoorZRowPth30
import Derived.Test.YtkinkfieackmdaaGreatDoorZRowPth31

namespace Go.Proofs.YtkinkfieackmdaaGreatDoor.Den
open Go.RowKit
set_option maxRecDepth 100000
set_option linter.unusedVariables false
namespace z3y
structure Gs where
 z4r:z4r.Q
 z4m:z4m.Q
 z4n:z4n.Q
noncomputable def main {R:Type} (G:Gs) (n:Nat) (s:Sg) (a b:Tm) (K:Bool->Option R):Option R:=
 (G.z4r (Tm.mk a.op a.name a.sort a.args)).bind λr2=>
 bif r2 then
  (
  (G.z4m s (Tm.mk a.op a.name a.sort a.args)).bind λr4=>
  bif r4 then
   (
   (G.z4r (Tm.mk b.op b.name b.sort b.args)).bind λr6=>
   bif r6 then
    (
    (G.z4m s (Tm.mk b.op b.name b.sort b.args)).bind λr8=>
    bif r8 then
     (
     (G.z4n s (Tm.mk a.op a.name a.sort a.args)).bind λr10=>
     (G.z4n s (Tm.mk b.op b.name b.sort b.args)).bind λr12=>
     K (decide (r10=r12))
     )
    else
     K false
    )
   else
    K false
   )
  else
   K false
  )
 else
  K false
theorem ok {G:Gs} (hG:AE [z4r.ent G.z4r,z4m.ent G.z4m,z4n.ent G.z4n]) {g:Q} (hg:∀s a b r,g s a b=some r->∃n,main (R:=AT×List Ob) G n s a b (λr0=>some (.one (.b r0),[]))=some (.one (.b r),[])):EO (ent g):=λR xs H K r hc=>by
 simp only[ent]at hc;split at hc
 ·exact okL hc λr j=>let⟨_,j⟩:=hg _ _ _ _ j;fF hG ⟨32,0,[],[],[6],[(1,⟨[([0,1,2,3,4,5,6,7,8,9,10,11,12,13,14,15,16,17,18,19,20,21,22,23,24,25],[],[])],[],[],[0,1,2],[]⟩)],[]⟩ nP Tryz.func56 j
 ·cases hc
end z3y
namespace z3z
structure Gs where
 z3u:z3u.Q
 z4j:z4j.Q
noncomputable def ae (G:Gs):List Ent:=[z3u.ent G.z3u,z4j.ent G.z4j]
noncomputable def b7 {R:Type} (G:Gs) (n:Nat) (vars list:LT) (i:Int) (met:Bool) (k:Int) (nx:Bool->Int->Option R) (k0:Bool->Option R):Option R:=
 bif decide (k<(List.length vars:Int))then
  (
  bif met then
   (nx true (wr (k+1)))
  else
   (ix list i).bind λe2=>
   (ix vars k).bind λe4=>
   (G.z4j (Tm.mk e2.op e2.name e2.sort e2.args) (Tm.mk e4.op e4.name e4.sort e4.args)).bind λr2=>
   nx r2 (wr (k+1))
  )
 else
  k0 met
noncomputable def l7 {R:Type} (G:Gs) (n m:Nat) (vars list:LT) (i:Int) (met:Bool) (k:Int) (k0:Bool->Option R):Option R:=au (λ(v:Bool×Int) nx=>b7 G n vars list i v.1 v.2 (λy0 y1=>nx (y0,y1)) k0) m (met,k)
noncomputable def b3 {R:Type} (G:Gs) (n:Nat) (vars list:LT) (i:Int) (nx:Int->Option R) (k0:Bool->Option R) (k1:Option R):Option R:=
 bif decide (i < (List.length list : Int)) then
  (
  l7 G n n vars list i false 0
   (fun met2 =>
    bif !met2 then
     (k0 false)
    else
     nx (wr (i+1))
   )
  )
 else
  k1
noncomputable def l3 {R:Type} (G:Gs) (n m:Nat) (vars list:LT) (i:Int) (k0:Bool->Option R) (k1:Option R):Option R:=au (λ(v:Int) nx=>b3 G n vars list v (λy0=>nx y0) k0 k1) m i
noncomputable def main {R:Type} (G:Gs) (n:Nat) (t:Tm) (vars:LT) (K:Bool->Option R):Option R:=
 (G.z3u (Tm.mk t.op t.name t.sort t.args)).bind λr=>
 l3 G n n vars r 0
  (λt4=>K t4)
  (K true)
noncomputable def dl7 (G:Gs) (n m:Nat) (R:Type) (st:St) (K:Kt R):Option R:=match st with
 |⟨[(1,.one (.l (.n 1) vars)),(5,.one (.l (.n 1) list)),(6,.one (.i i)),(7,.one (.b met)),(8,.one (.i k))],[]⟩=>l7 G n m vars list i met k (λmet2=>K (.exit 2) ⟨[(1,.one (.l (.n 1) vars)),(5,.one (.l (.n 1) list)),(6,.one (.i i)),(7,.one (.b met2))],[]⟩)
 |_=>none
noncomputable def dl3 (G:Gs) (n m:Nat) (R:Type) (st:St) (K:Kt R):Option R:=match st with
 |⟨[(1,.one (.l (.n 1) vars)),(5,.one (.l (.n 1) list)),(6,.one (.i i))],[]⟩=>l3 G n m vars list i (λt4=>K .ret ⟨[(4,.one (.b t4))],[]⟩) (K (.exit 0) ⟨[],[]⟩)
 |_=>none
noncomputable def pc (G:Gs) (n:Nat):Pcs:=⟨λR id st K=>bif Nat.beq id 7 then dl7 G n n R st K else bif Nat.beq id 3 then dl3 G n n R st K else none,nK,nK⟩
noncomputable def an:Ann:=⟨37,0,[(7,[1,5,6,7,8]),(3,[1,5,6])],[],[4],[(9,⟨[([0,1,2,3,4,5,6,7,8,9,10,11,12],[],[])],[],[],[],[]⟩)],[]⟩
noncomputable abbrev bd:=ai Tryz.f58
noncomputable abbrev q7:=am [1,1,0,1,0,0,1,0,0,1,0,1,0,0] bd
noncomputable abbrev q3:=am [1,1,0,1,0,0] bd
theorem pl7 {G:Gs} (hG:AE (ae G)) (n:Nat):∀m,PO an (.loop q7) (dl7 G n m):=lpc hG (pc G n) [1,5,6,7,8] ⟨[1,5,6,7],[4],[(0,[]),(1,[1,5,6]),(2,[1,5,6,7])]⟩ (apl [] trivial) (λR st K=>by unfold dl7;split<;>rfl) λm R st K r h=>by unfold dl7 at h;split at h;exact .trans (by kernel_rfl) h;cases h
theorem pl3 {G:Gs} (hG:AE (ae G)) (n:Nat):∀m,PO an (.loop q3) (dl3 G n m):=lpc hG (pc G n) [1,5,6] ⟨[],[4],[(0,[])]⟩ (apl [(1,7,.loop q7)] ⟨pl7 hG n n,trivial⟩) (λR st K=>by unfold dl3;split<;>rfl) λm R st K r h=>by unfold dl3 at h;split at h;exact .trans (by kernel_rfl) h;cases h
theorem ok {G:Gs} (hG:AE (ae G)) {g:Q} (hg:∀t vars r,g t vars=some r->∃n,main (R:=AT×List Ob) G n t vars (λr0=>some (.one (.b r0),[]))=some (.one (.b r),[])):EO (ent g):=λR xs H K r hc=>by
 simp only[ent]at hc;split at hc
 ·exact okL hc λr j=>let⟨n,j⟩:=hg _ _ _ j;fF hG an (pc G n) Tryz.func58 j (apl [(1,3,.loop q3)] ⟨pl3 hG n n,trivial⟩)
 ·cases hc
end z3z
namespace z3f
structure Gs where
 z3m:z3m.Q
 z3y:z3y.Q
 z3u:z3u.Q
 z3z:z3z.Q
noncomputable def ae (G:Gs):List Ent:=[z3m.ent G.z3m,z3y.ent G.z3y,z3u.ent G.z3u,z3z.ent G.z3z]
noncomputable def b7 {R:Type} (G:Gs) (n:Nat) (vars:LT) (h0:LB) (h02:LS) (h03:LO) (h1:Int) (h12:ByteArray) (h13:Int) (h14:LT) (h15:Int) (h16:ByteArray) (h17:Int) (h18:LT) (h19:LK) (i:Int) (nx:Int->Option R) (k0:Bool->Option R) (k1:Option R):Option R:=
 bif decide (i < (List.length h19 : Int)) then
  (
  (ix h19 i).bind λe=>
  (G.z3y (Sg.mk (So.mk h0 h02) h03) (Tm.mk e.left.op e.left.name e.left.sort e.left.args) (Tm.mk e.right.op e.right.name e.right.sort e.right.args)).bind λr=>
  bif !r then
   (k0 false)
  else
   (G.z3z (Tm.mk e.left.op e.left.name e.left.sort e.left.args) vars).bind λr2=>
   bif !r2 then
    (k0 false)
   else
    (G.z3z (Tm.mk e.right.op e.right.name e.right.sort e.right.args) vars).bind λr3=>
    bif !r3 then
     (k0 false)
    else
     nx (wr (i+1))
  )
 else
  k1
noncomputable def l7 {R:Type} (G:Gs) (n m:Nat) (vars:LT) (h0:LB) (h02:LS) (h03:LO) (h1:Int) (h12:ByteArray) (h13:Int) (h14:LT) (h15:Int) (h16:ByteArray) (h17:Int) (h18:LT) (h19:LK) (i:Int) (k0:Bool->Option R) (k1:Option R):Option R:=au (λ(v:Int) nx=>b7 G n vars h0 h02 h03 h1 h12 h13 h14 h15 h16 h17 h18 h19 v (λy0=>nx y0) k0 k1) m i
noncomputable def main {R:Type} (G:Gs) (n:Nat) (s:Sg) (e:Eqn) (K:Bool->Option R):Option R:=
 (G.z3m s).bind λr=>
 bif !r then
  (K false)
 else
  (G.z3y s (Tm.mk e.left.op e.left.name e.left.sort e.left.args) (Tm.mk e.right.op e.right.name e.right.sort e.right.args)).bind λr2=>
  bif !r2 then
   (K false)
  else
   bif decide (e.left.op=(-1))then
    (K false)
   else
    bif decide (2<(List.length e.conds:Int))then
     (K false)
    else
     (G.z3u (Tm.mk e.left.op e.left.name e.left.sort e.left.args)).bind λr3=>
     bif decide (5<(List.length r3:Int))then
      (K false)
     else
      (G.z3z (Tm.mk e.right.op e.right.name e.right.sort e.right.args) r3).bind λr4=>
      bif !r4 then
       (K false)
      else
       l7 G n n r3 s.sorts.names s.sorts.subs s.ops e.left.op e.left.name e.left.sort e.left.args e.right.op e.right.name e.right.sort e.right.args e.conds 0
        (λt4=>K t4)
        (K true)
noncomputable def dl7 (G:Gs) (n m:Nat) (R:Type) (st:St) (K:Kt R):Option R:=match st with
 |⟨[(2,.one (.p 0 0)),(3,.one (.p 1 0)),(5,.one (.l (.n 1) vars)),(6,.one (.i i))],[.box [.l .s h0,.l (.n 5) h02,.l (.n 8) h03],.box [.i h1,.s h12,.i h13,.l (.n 1) h14,.i h15,.s h16,.i h17,.l (.n 1) h18,.l (.n 13) h19]]⟩=>l7 G n m vars h0 h02 h03 h1 h12 h13 h14 h15 h16 h17 h18 h19 i (λt4=>K .ret ⟨[(4,.one (.b t4))],[]⟩) (K (.exit 0) ⟨[],[]⟩)
 |_=>none
noncomputable def pc (G:Gs) (n:Nat):Pcs:=⟨λR id st K=>bif Nat.beq id 7 then dl7 G n n R st K else none,nK,nK⟩
noncomputable def an:Ann:=⟨78,0,[(7,[2,3,5,6])],[],[4],[],[]⟩
noncomputable abbrev bd:=ai Tryz.f29
noncomputable abbrev q7:=am [1,1,1,1,0,1,0,0] bd
theorem pl7 {G:Gs} (hG:AE (ae G)) (n:Nat):∀m,PO an (.loop q7) (dl7 G n m):=lpc hG (pc G n) [2,3,5,6] ⟨[],[4],[(0,[])]⟩ (apl [] trivial) (λR st K=>by unfold dl7;split<;>rfl) λm R st K r h=>by unfold dl7 at h;split at h;exact .trans (by kernel_rfl) h;cases h
theorem ok {G:Gs} (hG:AE (ae G)) {g:Q} (hg:∀s e r,g s e=some r->∃n,main (R:=AT×List Ob) G n s e (λr0=>some (.one (.b r0),[]))=some (.one (.b r),[])):EO (ent g):=λR xs H K r hc=>by
 simp only[ent]at hc;split at hc
 ·exact okL hc λr j=>let⟨n,j⟩:=hg _ _ _ j;fF hG an (pc G n) Tryz.func29 j (apl [(1,7,.loop q7)] ⟨pl7 hG n n,trivial⟩)
 ·cases hc
end z3f
namespace z3i
structure Gs where
 z3m:z3m.Q
 z3f:z3f.Q
noncomputable def ae (G:Gs):List Ent:=[z3m.ent G.z3m,z3f.ent G.z3f]
noncomputable def b4 {R:Type} (G:Gs) (n:Nat) (h0:LB) (h02:LS) (h03:LO) (h04 h05:LQ) (i:Int) (nx:Int->Option R) (k0:Bool->Option R) (k1:Option R):Option R:=
 bif decide (i<(List.length h04:Int))then
  (
  (ix h04 i).bind λe2=>
  (G.z3f (Sg.mk (So.mk h0 h02) h03) (Eqn.mk (Tm.mk e2.left.op e2.left.name e2.left.sort e2.left.args) (Tm.mk e2.right.op e2.right.name e2.right.sort e2.right.args) e2.conds)).bind λr2=>
  bif !r2 then
   (k0 false)
  else
   nx (wr (i+1))
  )
 else
  k1
noncomputable def l4 {R:Type} (G:Gs) (n m:Nat) (h0:LB) (h02:LS) (h03:LO) (h04 h05:LQ) (i:Int) (k0:Bool->Option R) (k1:Option R):Option R:=au (λ(v:Int) nx=>b4 G n h0 h02 h03 h04 h05 v (λy0=>nx y0) k0 k1) m i
noncomputable def b9 {R:Type} (G:Gs) (n:Nat) (h0:LB) (h02:LS) (h03:LO) (h04 h05:LQ) (i:Int) (nx:Int->Option R) (k0:Bool->Option R) (k1:Option R):Option R:=
 bif decide (i<(List.length h05:Int))then
  (
  (ix h05 i).bind λe2=>
  (G.z3f (Sg.mk (So.mk h0 h02) h03) (Eqn.mk (Tm.mk e2.left.op e2.left.name e2.left.sort e2.left.args) (Tm.mk e2.right.op e2.right.name e2.right.sort e2.right.args) e2.conds)).bind λr2=>
  bif !r2 then
   (k0 false)
  else
   nx (wr (i+1))
  )
 else
  k1
noncomputable def l9 {R:Type} (G:Gs) (n m:Nat) (h0:LB) (h02:LS) (h03:LO) (h04 h05:LQ) (i:Int) (k0:Bool->Option R) (k1:Option R):Option R:=au (λ(v:Int) nx=>b9 G n h0 h02 h03 h04 h05 v (λy0=>nx y0) k0 k1) m i
noncomputable def main {R:Type} (G:Gs) (n:Nat) (m2:Md) (K:Bool->Option R):Option R:=
 (G.z3m m2.sig).bind λr=>
 bif !r then
  (K false)
 else
  bif decide (16<(List.length m2.eqs:Int))then
   (K false)
  else
   bif decide (16<(List.length m2.rules:Int))then
    (K false)
   else
    l4 G n n m2.sig.sorts.names m2.sig.sorts.subs m2.sig.ops m2.eqs m2.rules 0
     (λt2=>K t2)
     (
      l9 G n n m2.sig.sorts.names m2.sig.sorts.subs m2.sig.ops m2.eqs m2.rules 0
       (λt22=>K t22)
       (K true)
     )
noncomputable def dl4 (G:Gs) (n m:Nat) (R:Type) (st:St) (K:Kt R):Option R:=match st with
 |⟨[(1,.one (.p 0 0)),(3,.one (.i i))],[.box [.l .s h0,.l (.n 5) h02,.l (.n 8) h03,.l (.n 14) h04,.l (.n 14) h05]]⟩=>l4 G n m h0 h02 h03 h04 h05 i (λt2=>K .ret ⟨[(2,.one (.b t2))],[]⟩) (K (.exit 0) ⟨[(1,.one (.p 0 0))],[.box [.l .s h0,.l (.n 5) h02,.l (.n 8) h03,.l (.n 14) h04,.l (.n 14) h05]]⟩)
 |_=>none
noncomputable def dl9 (G:Gs) (n m:Nat) (R:Type) (st:St) (K:Kt R):Option R:=match st with
 |⟨[(1,.one (.p 0 0)),(4,.one (.i i))],[.box [.l .s h0,.l (.n 5) h02,.l (.n 8) h03,.l (.n 14) h04,.l (.n 14) h05]]⟩=>l9 G n m h0 h02 h03 h04 h05 i (λt2=>K .ret ⟨[(2,.one (.b t2))],[]⟩) (K (.exit 2) ⟨[],[]⟩)
 |_=>none
noncomputable def pc (G:Gs) (n:Nat):Pcs:=⟨λR id st K=>bif Nat.beq id 4 then dl4 G n n R st K else bif Nat.beq id 9 then dl9 G n n R st K else none,nK,nK⟩
noncomputable def an:Ann:=⟨53,0,[(4,[1,3]),(9,[1,4])],[],[2],[(6,⟨[([0,1,2,3,4,5,6,7,8],[],[])],[],[],[0],[]⟩),(11,⟨[([0,1,2,3,4,5,6,7,8],[],[])],[],[],[0],[]⟩)],[]⟩
noncomputable abbrev bd:=ai Tryz.f13
noncomputable abbrev q4:=am [1,1,0,1,0,0] bd
noncomputable abbrev q9:=am [1,1,1,0,1,0,0] bd
theorem pl4 {G:Gs} (hG:AE (ae G)) (n:Nat):∀m,PO an (.loop q4) (dl4 G n m):=lpc hG (pc G n) [1,3] ⟨[1],[2],[(0,[1])]⟩ (apl [] trivial) (λR st K=>by unfold dl4;split<;>rfl) λm R st K r h=>by unfold dl4 at h;split at h;exact .trans (by kernel_rfl) h;cases h
theorem pl9 {G:Gs} (hG:AE (ae G)) (n:Nat):∀m,PO an (.loop q9) (dl9 G n m):=lpc hG (pc G n) [1,4] ⟨[],[2],[(2,[])]⟩ (apl [] trivial) (λR st K=>by unfold dl9;split<;>rfl) λm R st K r h=>by unfold dl9 at h;split at h;exact .trans (by kernel_rfl) h;cases h
theorem ok {G:Gs} (hG:AE (ae G)) {g:Q} (hg:∀m2 r,g m2=some r->∃n,main (R:=AT×List Ob) G n m2 (λr0=>some (.one (.b r0),[]))=some (.one (.b r),[])):EO (ent g):=λR xs H K r hc=>by
 simp only[ent]at hc;split at hc
 ·exact okL hc λr j=>let⟨n,j⟩:=hg _ _ j;fF hG an (pc G n) Tryz.func13 j (apl [(1,4,.loop q4),(1,9,.loop q9)] ⟨pl4 hG n n,⟨pl9 hG n n,trivial⟩⟩)
 ·cases hc
end z3i
namespace z18
structure Gs where
 z1n:z1n.Q
noncomputable def main {R:Type} (G:Gs) (n:Nat) (u c0:Tm) (K:Bool->Option R):Option R:=
 (G.z1n (Tm.mk c0.op c0.name c0.sort c0.args) (Tm.mk u.op u.name u.sort u.args)).bind λr=>
 K r
theorem ok {G:Gs} (hG:AE [z1n.ent G.z1n]) {g:Q} (hg:∀u c0 r,g u c0=some r->∃n,main (R:=AT×List Ob) G n u c0 (λr0=>some (.one (.b r0),[.box [.i c0.op,.s c0.name,.i c0.sort,.l (.n 1) c0.args]]))=some (.one (.b r),[.box [.i c0.op,.s c0.name,.i c0.sort,.l (.n 1) c0.args]])):EO (ent g):=λR xs H K r hc=>by
 simp only[ent]at hc;split at hc
 ·exact okL hc λr j=>let⟨_,j⟩:=hg _ _ _ j;fF hG ⟨7,1,[],[],[3],[],[]⟩ nP Tryz.func113 j
 ·cases hc
end z18
namespace z5d
structure Gs where
 z18:z18.Q
noncomputable def ae (G:Gs):List Ent:=[z18.ent G.z18]
noncomputable def b2 {R:Type} (G:Gs) (n:Nat) (fc:Tm) (s:LT) (t7 t8:Int) (nx k0:Int->Option R) (k1:Option R):Option R:=
 bif decide (t8<t7)then
  (
  (ix s t8).bind λe=>
  (G.z18 (Tm.mk e.op e.name e.sort e.args) (Tm.mk fc.op fc.name fc.sort fc.args)).bind λr=>
  bif r then
   (k0 t8)
  else
   nx (wr (t8+1))
  )
 else
  k1
noncomputable def l2 {R:Type} (G:Gs) (n m:Nat) (fc:Tm) (s:LT) (t7 t8:Int) (k0:Int->Option R) (k1:Option R):Option R:=au (λ(v:Int) nx=>b2 G n fc s t7 v (λy0=>nx y0) k0 k1) m t8
noncomputable def main {R:Type} (G:Gs) (n:Nat) (s:LT) (fc:Tm) (K:Int->Option R):Option R:=
 l2 G n n fc s (List.length s:Int) 0
  (λt4=>K t4)
  (K (-1))
noncomputable def dl2 (G:Gs) (n m:Nat) (R:Type) (st:St) (K:Kt R):Option R:=match st with
 |⟨[(0,.one (.l (.n 1) s)),(1,.one (.f 113 [.p 0 0])),(7,.one (.i t7)),(8,.one (.i t8))],[.box [.i fc_0,.s fc_1,.i fc_2,.l (.n 1) fc_3]]⟩=>l2 G n m (Tm.mk fc_0 fc_1 fc_2 fc_3) s t7 t8 (λt4=>K .ret ⟨[(4,.one (.i t4))],[.box [.i fc_0,.s fc_1,.i fc_2,.l (.n 1) fc_3]]⟩) (K (.exit 0) ⟨[],[.box [.i fc_0,.s fc_1,.i fc_2,.l (.n 1) fc_3]]⟩)
 |_=>none
noncomputable def pc (G:Gs) (n:Nat):Pcs:=⟨λR id st K=>bif Nat.beq id 2 then dl2 G n n R st K else none,nK,nK⟩
noncomputable def an:Ann:=⟨19,1,[(2,[0,1,7,8])],[],[4],[],[]⟩
noncomputable abbrev bd:=ai Tryz.f117
noncomputable abbrev q2:=am [1,0,1,0,0] bd
theorem pl2 {G:Gs} (hG:AE (ae G)) (n:Nat):∀m,PO an (.loop q2) (dl2 G n m):=lpc hG (pc G n) [0,1,7,8] ⟨[],[4],[(0,[])]⟩ (apl [] trivial) (λR st K=>by unfold dl2;split<;>rfl) λm R st K r h=>by unfold dl2 at h;split at h;exact .trans (by kernel_rfl) h;cases h
noncomputable def ax (G:Gs) (s:LT) (fc:Tm) (r:Int):Prop:=∃n,main (R:=AT×List Ob) G n s fc (λr0=>some (.one (.i r0),[.box [.i fc.op,.s fc.name,.i fc.sort,.l (.n 1) fc.args]]))=some (.one (.i r),[.box [.i fc.op,.s fc.name,.i fc.sort,.l (.n 1) fc.args]])
theorem ok {G:Gs} (hG:AE (ae G)) {g:Q} (hg:∀s fc r,g s fc=some r->ax G s fc r):EO (ent g):=λR xs H K r hc=>by
 simp only[ent]at hc;split at hc
 ·exact okL hc λr j=>let⟨n,j⟩:=hg _ _ _ j;fF hG an (pc G n) Tryz.func117 j (apl [(1,2,.loop q2)] ⟨pl2 hG n n,trivial⟩)
 ·cases hc
end z5d
namespace z52
structure Gs where
 z5d:z5d.Q
noncomputable def main {R:Type} (G:Gs) (n:Nat) (s:LT) (fc:Tm) (K:Bool->Option R):Option R:=
 (G.z5d s (Tm.mk fc.op fc.name fc.sort fc.args)).bind λr=>
 K (decide (0<=r))
noncomputable def ax (G:Gs) (s:LT) (fc:Tm) (r:Bool):Prop:=∃n,main (R:=AT×List Ob) G n s fc (λr0=>some (.one (.b r0),[.box [.i fc.op,.s fc.name,.i fc.sort,.l (.n 1) fc.args]]))=some (.one (.b r),[.box [.i fc.op,.s fc.name,.i fc.sort,.l (.n 1) fc.args]])
theorem ok {G:Gs} (hG:AE [z5d.ent G.z5d]) {g:Q} (hg:∀s fc r,g s fc=some r->ax G s fc r):EO (ent g):=λR xs H K r hc=>by
 simp only[ent]at hc;split at hc
 ·exact okL hc λr j=>let⟨_,j⟩:=hg _ _ _ j;fF hG ⟨9,1,[],[],[4],[],[]⟩ nP Tryz.func112 j
 ·cases hc
end z52
namespace z17
structure Gs where
 z52:z52.Q
noncomputable def main {R:Type} (G:Gs) (n:Nat) (list:LT) (t:Tm) (K:Bool->Option R):Option R:=
 (G.z52 list (Tm.mk t.op t.name t.sort t.args)).bind λr=>
 K r
theorem ok {G:Gs} (hG:AE [z52.ent G.z52]) {g:Q} (hg:∀list t r,g list t=some r->∃n,main (R:=AT×List Ob) G n list t (λr0=>some (.one (.b r0),[]))=some (.one (.b r),[])):EO (ent g):=λR xs H K r hc=>by
 simp only[ent]at hc;split at hc
 ·exact okL hc λr j=>let⟨_,j⟩:=hg _ _ _ j;fF hG ⟨8,0,[],[],[4],[],[]⟩ nP Tryz.func76 j
 ·cases hc
end z17
namespace z0y
structure Gs where
 z0z:z0z.Q
 z12:z12.Q
 z0t:z0t.Q
 z17:z17.Q
noncomputable def ae (G:Gs):List Ent:=[z0z.ent G.z0z,z12.ent G.z12,z0t.ent G.z0t,z17.ent G.z17]
noncomputable def c10 {R:Type} (G:Gs) (n:Nat) (xd xc xe:LI) (xa:LB) (xb:LS) (xg:LO) (vars:LT) (t55:LK) (t56 t57:Int) (h1:LM) (h2:LT) (h3:Int) (h32:ByteArray) (h33:Int) (h34:LT) (h35:Int) (h36:ByteArray) (h37:Int) (h38:LT) (k0:LT->Option R):Option R:=
 (lim (h2++[(Tm.mk h3 h32 h33 h34),(Tm.mk h35 h36 h37 h38)])).bind λzs=>
 k0 zs
noncomputable def b6 {R:Type} (G:Gs) (n:Nat) (xd xc xe:LI) (xa:LB) (xb:LS) (xg:LO) (vars:LT) (t55:LK) (t56 t57:Int) (h1:LM) (h2:LT) (nx:Int->LM->LT->Option R) (k0:Bool->LM->Option R) (k1:LM->LT->Option R):Option R:=
 bif decide (t57 < t56) then
  (
  (ix t55 t57).bind λe=>
  (G.z0z xd xc xe xa xb xg h1 (Tm.mk e.left.op e.left.name e.left.sort e.left.args)).bind λr5=>
  bif !r5.1 then
   (k0 false r5.2)
  else
   (G.z0z xd xc xe xa xb xg r5.2 (Tm.mk e.right.op e.right.name e.right.sort e.right.args)).bind λr6=>
   bif !r6.1 then
    (k0 false r6.2)
   else
    (G.z12 xd xc xe xa xb xg r6.2 (Tm.mk e.left.op e.left.name e.left.sort e.left.args)).bind λr7=>
    (G.z12 xd xc xe xa xb xg r7.2 (Tm.mk e.right.op e.right.name e.right.sort e.right.args)).bind λr8=>
    bif !decide (r7.1=r8.1)then
     (k0 false r8.2)
    else
     c10 G n xd xc xe xa xb xg vars t55 t56 t57 r8.2 h2 e.left.op e.left.name e.left.sort e.left.args e.right.op e.right.name e.right.sort e.right.args
      (λh222=>nx (wr (t57+1)) r8.2 h222)
  )
 else
  k1 h1 h2
noncomputable def l6 {R:Type} (G:Gs) (n m:Nat) (xd xc xe:LI) (xa:LB) (xb:LS) (xg:LO) (vars:LT) (t55:LK) (t56 t57:Int) (h1:LM) (h2:LT) (k0:Bool->LM->Option R) (k1:LM->LT->Option R):Option R:=au (λ(v:Int×LM×LT) nx=>b6 G n xd xc xe xa xb xg vars t55 t56 v.1 v.2.1 v.2.2 (λy0 y1 y2=>nx (y0,y1,y2)) k0 k1) m (t57,h1,h2)
noncomputable def b16 {R:Type} (G:Gs) (n:Nat) (xd xc xe:LI) (xa:LB) (xb:LS) (xg:LO) (vars:LT) (t93 t94:Int) (t99:LT) (t100:Int) (h1:LM) (h2:LT) (t101:Int) (nx:Int->Option R) (k0:Bool->Option R) (k1:Option R):Option R:=
 bif decide (t101<t100)then
  (
  (ix t99 t101).bind λe=>
  (G.z17 vars (Tm.mk e.op e.name e.sort e.args)).bind λr=>
  bif !r then
   (k0 false)
  else
   nx (wr (t101+1))
  )
 else
  k1
noncomputable def l16 {R:Type} (G:Gs) (n m:Nat) (xd xc xe:LI) (xa:LB) (xb:LS) (xg:LO) (vars:LT) (t93 t94:Int) (t99:LT) (t100:Int) (h1:LM) (h2:LT) (t101:Int) (k0:Bool->Option R) (k1:Option R):Option R:=au (λ(v:Int) nx=>b16 G n xd xc xe xa xb xg vars t93 t94 t99 t100 h1 h2 v (λy0=>nx y0) k0 k1) m t101
noncomputable def b13 {R:Type} (G:Gs) (n:Nat) (xd xc xe:LI) (xa:LB) (xb:LS) (xg:LO) (vars:LT) (t93:Int) (h1:LM) (h2:LT) (t94:Int) (nx:Int->Option R) (k0:Bool->Option R) (k1:Option R):Option R:=
 bif decide (t94<t93)then
  (
  (ix h2 t94).bind λe=>
  (G.z0t (Tm.mk e.op e.name e.sort e.args)).bind λr=>
  l16 G n n xd xc xe xa xb xg vars t93 t94 r (List.length r:Int) h1 h2 0
   (λt4=>k0 t4)
   (nx (wr (t94+1)))
  )
 else
  k1
noncomputable def l13 {R:Type} (G:Gs) (n m:Nat) (xd xc xe:LI) (xa:LB) (xb:LS) (xg:LO) (vars:LT) (t93:Int) (h1:LM) (h2:LT) (t94:Int) (k0:Bool->Option R) (k1:Option R):Option R:=au (λ(v:Int) nx=>b13 G n xd xc xe xa xb xg vars t93 h1 h2 v (λy0=>nx y0) k0 k1) m t94
noncomputable def c3 {R:Type} (G:Gs) (n:Nat) (xd xc xe:LI) (xa:LB) (xb:LS) (xg:LO) (h1:LM) (h2:Int) (h22:ByteArray) (h23:Int) (h24:LT) (h25:Int) (h26:ByteArray) (h27:Int) (h28:LT) (h29:LK) (k0:Bool->LM->Option R):Option R:=
 (G.z0t (Tm.mk h2 h22 h23 h24)).bind λr=>
 l6 G n n xd xc xe xa xb xg r h29 (List.length h29 : Int) 0 h1 [(Tm.mk h25 h26 h27 h28)]
  (λt4 h12=>k0 t4 h12)
  (fun h122 h222 =>
   l13 G n n xd xc xe xa xb xg r (List.length h222:Int) h122 h222 0
    (λt42=>k0 t42 h122)
    (k0 (decide ((List.length r:Int)<=5)) h122)
  )
noncomputable def main {R:Type} (G:Gs) (n:Nat) (xd xc xe:LI) (xa:LB) (xb:LS) (xg:LO) (xf:LM) (e:Eqn) (K:Bool->LM->Option R):Option R:=
 (G.z0z xd xc xe xa xb xg xf (Tm.mk e.left.op e.left.name e.left.sort e.left.args)).bind λr5=>
 bif !r5.1 then
  (K false r5.2)
 else
  (G.z0z xd xc xe xa xb xg r5.2 (Tm.mk e.right.op e.right.name e.right.sort e.right.args)).bind λr6=>
  bif !r6.1 then
   (K false r6.2)
  else
   (G.z12 xd xc xe xa xb xg r6.2 (Tm.mk e.left.op e.left.name e.left.sort e.left.args)).bind λr7=>
   (G.z12 xd xc xe xa xb xg r7.2 (Tm.mk e.right.op e.right.name e.right.sort e.right.args)).bind λr8=>
   bif !decide (r7.1=r8.1)then
    (K false r8.2)
   else
    bif decide (e.left.op<0)then
     (K false r8.2)
    else
     bif decide (2<(List.length e.conds:Int))then
      (K false r8.2)
     else
      c3 G n xd xc xe xa xb xg r8.2 e.left.op e.left.name e.left.sort e.left.args e.right.op e.right.name e.right.sort e.right.args e.conds
       (λt42 h122=>K t42 h122)
noncomputable def uh (G:Gs) (n:Nat) (R:Type) (st:St) (K:Kt R):Option R:=match st with
 |⟨[(0,.one (.p 0 0)),(5,.one (.l (.n 1) vars)),(6,.one (.o 2)),(8,.one (.p 3 0)),(55,.one (.l (.n 13) t55)),(56,.one (.i t56)),(57,.one (.i t57))],[.box [.l .i xd,.l .i xc,.l .i xe,.l .s xa,.l (.n 5) xb,.l (.n 8) xg,.m 1],.map .i h1,.row (.n 1) 0 h2,.box [.i h3,.s h32,.i h33,.l (.n 1) h34,.i h35,.s h36,.i h37,.l (.n 1) h38]]⟩=>c10 G n xd xc xe xa xb xg vars t55 t56 t57 h1 h2 h3 h32 h33 h34 h35 h36 h37 h38 (λh22=>K .normal ⟨[(0,.one (.p 0 0)),(5,.one (.l (.n 1) vars)),(6,.one (.o 2)),(55,.one (.l (.n 13) t55)),(56,.one (.i t56)),(57,.one (.i t57))],[.box [.l .i xd,.l .i xc,.l .i xe,.l .s xa,.l (.n 5) xb,.l (.n 8) xg,.m 1],.map .i h1,.row (.n 1) 0 h22]⟩)
 |_=>none
noncomputable def dl6 (G:Gs) (n m:Nat) (R:Type) (st:St) (K:Kt R):Option R:=match st with
 |⟨[(0,.one (.p 0 0)),(5,.one (.l (.n 1) vars)),(6,.one (.o 2)),(55,.one (.l (.n 13) t55)),(56,.one (.i t56)),(57,.one (.i t57))],[.box [.l .i xd,.l .i xc,.l .i xe,.l .s xa,.l (.n 5) xb,.l (.n 8) xg,.m 1],.map .i h1,.row (.n 1) 0 h2]⟩=>l6 G n m xd xc xe xa xb xg vars t55 t56 t57 h1 h2 (λt4 h12=>K .ret ⟨[(4,.one (.b t4))],[.box [.l .i xd,.l .i xc,.l .i xe,.l .s xa,.l (.n 5) xb,.l (.n 8) xg,.m 1],.map .i h12]⟩) (λh12 h22=>K (.exit 0) ⟨[(5,.one (.l (.n 1) vars)),(6,.one (.o 2))],[.box [.l .i xd,.l .i xc,.l .i xe,.l .s xa,.l (.n 5) xb,.l (.n 8) xg,.m 1],.map .i h12,.row (.n 1) 0 h22]⟩)
 |_=>none
noncomputable def pK (G:Gs) (n m:Nat) (R:Type) (st:St) (K:Kt R):Option R:=match st with
 |⟨[(5,.one (.l (.n 1) vars)),(92,.one (.o 2)),(93,.one (.i t93)),(94,.one (.i t94)),(99,.one (.l (.n 1) t99)),(100,.one (.i t100)),(101,.one (.i t101))],[.box [.l .i xd,.l .i xc,.l .i xe,.l .s xa,.l (.n 5) xb,.l (.n 8) xg,.m 1],.map .i h1,.row (.n 1) 0 h2]⟩=>l16 G n m xd xc xe xa xb xg vars t93 t94 t99 t100 h1 h2 t101 (λt4=>K .ret ⟨[(4,.one (.b t4))],[.box [.l .i xd,.l .i xc,.l .i xe,.l .s xa,.l (.n 5) xb,.l (.n 8) xg,.m 1],.map .i h1]⟩) (K (.exit 4) ⟨[(5,.one (.l (.n 1) vars)),(92,.one (.o 2)),(93,.one (.i t93)),(94,.one (.i t94))],[.box [.l .i xd,.l .i xc,.l .i xe,.l .s xa,.l (.n 5) xb,.l (.n 8) xg,.m 1],.map .i h1,.row (.n 1) 0 h2]⟩)
 |_=>none
noncomputable def dW (G:Gs) (n m:Nat) (R:Type) (st:St) (K:Kt R):Option R:=match st with
 |⟨[(5,.one (.l (.n 1) vars)),(92,.one (.o 2)),(93,.one (.i t93)),(94,.one (.i t94))],[.box [.l .i xd,.l .i xc,.l .i xe,.l .s xa,.l (.n 5) xb,.l (.n 8) xg,.m 1],.map .i h1,.row (.n 1) 0 h2]⟩=>l13 G n m xd xc xe xa xb xg vars t93 h1 h2 t94 (λt4=>K .ret ⟨[(4,.one (.b t4))],[.box [.l .i xd,.l .i xc,.l .i xe,.l .s xa,.l (.n 5) xb,.l (.n 8) xg,.m 1],.map .i h1]⟩) (K (.exit 2) ⟨[(5,.one (.l (.n 1) vars))],[.box [.l .i xd,.l .i xc,.l .i xe,.l .s xa,.l (.n 5) xb,.l (.n 8) xg,.m 1],.map .i h1]⟩)
 |_=>none
noncomputable def dc3 (G:Gs) (n:Nat) (R:Type) (st:St) (K:Kt R):Option R:=match st with
 |⟨[(0,.one (.p 0 0)),(3,.one (.p 2 0))],[.box [.l .i xd,.l .i xc,.l .i xe,.l .s xa,.l (.n 5) xb,.l (.n 8) xg,.m 1],.map .i h1,.box [.i h2,.s h22,.i h23,.l (.n 1) h24,.i h25,.s h26,.i h27,.l (.n 1) h28,.l (.n 13) h29]]⟩=>c3 G n xd xc xe xa xb xg h1 h2 h22 h23 h24 h25 h26 h27 h28 h29 (λt4 h12=>K .ret ⟨[(4,.one (.b t4))],[.box [.l .i xd,.l .i xc,.l .i xe,.l .s xa,.l (.n 5) xb,.l (.n 8) xg,.m 1],.map .i h12]⟩)
 |_=>none
noncomputable def pc (G:Gs) (n:Nat):Pcs:=⟨λR id st K=>bif Nat.beq id 6 then dl6 G n n R st K else bif Nat.beq id 16 then pK G n n R st K else bif Nat.beq id 13 then dW G n n R st K else none,λR id st K=>bif Nat.beq id 10 then uh G n R st K else bif Nat.beq id 3 then dc3 G n R st K else none,nK⟩
noncomputable def an:Ann:=⟨114,2,[(6,[0,5,6,55,56,57]),(16,[5,92,93,94,99,100,101]),(13,[5,92,93,94])],[(10,[0,5,6,8,55,56,57]),(3,[0,3])],[4],[(1,⟨[([0,1,2,3,4,5,6,7,8,9,10,11,12,13,14,15,16,17,18,19,20,21,22,23,24,25,26,27,28,29,30,31,32,33,34],[3,9,16,20],[])],[3,9,16,20],[],[2],[]⟩),(8,⟨[([0,1,2,3,4,5,6,7,8,9,10,11,12,13,14,15,16,17,18,19,20,21,22],[3,9,16,20],[])],[3,9,16,20],[],[2,3],[]⟩)],[]⟩
noncomputable abbrev bd:=ai Tryz.f40
noncomputable abbrev q10:=am [1,1,1,1,0,1,0,0,1,1,0,0,1,1] bd
noncomputable abbrev q6:=am [1,1,1,1,0,1,0,0] bd
noncomputable abbrev q16:=am [1,1,1,1,1,0,1,0,0,1,1,0,0,1,1,0,0] bd
noncomputable abbrev q13:=am [1,1,1,1,1,0,1,0,0] bd
noncomputable abbrev q3:=am [1,1] bd
theorem Eh {G:Gs} (hG:AE (ae G)) {n:Nat}:PO an q10 (uh G n):=cpc hG (pc G n) ⟨[0,5,6,55,56,57],[4],[(0,[5,6]),(1,[0,5,6,55,56,57])]⟩ (apl [] trivial) λR st K r h=>by unfold uh at h;split at h;exact .trans (by kernel_rfl) h;cases h
theorem pl6 {G:Gs} (hG:AE (ae G)) (n:Nat):∀m,PO an (.loop q6) (dl6 G n m):=lpc hG (pc G n) [0,5,6,55,56,57] ⟨[5,6],[4],[(0,[5,6])]⟩ (apl [(0,10,q10)] ⟨Eh hG,trivial⟩) (λR st K=>by unfold dl6;split<;>rfl) λm R st K r h=>by unfold dl6 at h;split at h;exact .trans (by kernel_rfl) h;cases h
theorem D3 {G:Gs} (hG:AE (ae G)) (n:Nat):∀m,PO an (.loop q16) (pK G n m):=lpc hG (pc G n) [5,92,93,94,99,100,101] ⟨[5,92,93,94],[4],[(2,[5]),(3,[5,92,93,94]),(4,[5,92,93,94])]⟩ (apl [] trivial) (λR st K=>by unfold pK;split<;>rfl) λm R st K r h=>by unfold pK at h;split at h;exact .trans (by kernel_rfl) h;cases h
theorem pZ {G:Gs} (hG:AE (ae G)) (n:Nat):∀m,PO an (.loop q13) (dW G n m):=lpc hG (pc G n) [5,92,93,94] ⟨[5],[4],[(2,[5])]⟩ (apl [(1,16,.loop q16)] ⟨D3 hG n n,trivial⟩) (λR st K=>by unfold dW;split<;>rfl) λm R st K r h=>by unfold dW at h;split at h;exact .trans (by kernel_rfl) h;cases h
theorem pc3 {G:Gs} (hG:AE (ae G)) {n:Nat}:PO an q3 (dc3 G n):=cpc hG (pc G n) ⟨[],[4],[]⟩ (apl [(1,6,.loop q6),(1,13,.loop q13)] ⟨pl6 hG n n,⟨pZ hG n n,trivial⟩⟩) λR st K r h=>by unfold dc3 at h;split at h;exact .trans (by kernel_rfl) h;cases h
theorem ok {G:Gs} (hG:AE (ae G)) {g:Q} (hg:∀xd xc xe xa xb xg xf e r,g xd xc xe xa xb xg xf e=some r->∃n,main (R:=AT×List Ob) G n xd xc xe xa xb xg xf e (λr0 r1=>some (.one (.b r0),[.box [.l .i xd,.l .i xc,.l .i xe,.l .s xa,.l (.n 5) xb,.l (.n 8) xg,.m 1],.map .i r1]))=some (.one (.b r.1),[.box [.l .i xd,.l .i xc,.l .i xe,.l .s xa,.l (.n 5) xb,.l (.n 8) xg,.m 1],.map .i r.2])):EO (ent g):=λR xs H K r hc=>by
 simp only[ent]at hc;split at hc
 ·exact okL hc λr j=>let⟨n,j⟩:=hg _ _ _ _ _ _ _ _ _ j;fF hG an (pc G n) Tryz.func40 j (apl [(0,3,q3)] ⟨pc3 hG,trivial⟩)
 ·cases hc
end z0y
namespace z4z
structure Gs where
 z59:z59.Q
noncomputable def ae (G:Gs):List Ent:=[z59.ent G.z59]
noncomputable def b3 {R:Type} (G:Gs) (n:Nat) (slices t9:List LQ) (t10 size t11:Int) (nx:Int->Int->Option R) (k0:Int->Option R):Option R:=
 bif decide (t11<t10)then
  (
  (ix t9 t11).bind λe=>
  bif decide ((wr (size+(List.length e:Int)))<0)then
   (none)
  else
   nx (wr (size+(List.length e:Int))) (wr (t11+1))
  )
 else
  k0 size
noncomputable def l3 {R:Type} (G:Gs) (n m:Nat) (slices t9:List LQ) (t10 size t11:Int) (k0:Int->Option R):Option R:=au (λ(v:Int×Int) nx=>b3 G n slices t9 t10 v.1 v.2 (λy0 y1=>nx (y0,y1)) k0) m (size,t11)
noncomputable def b11 {R:Type} (G:Gs) (n:Nat) (t25:List LQ) (t26 t27:Int) (h0:LQ) (nx:Int->LQ->Option R) (k0:LQ->Option R):Option R:=
 bif decide (t27<t26)then
  (
  (ix t25 t27).bind λe=>
  (lim (h0++e)).bind λzs=>
  nx (wr (t27+1)) zs
  )
 else
  k0 h0
noncomputable def l11 {R:Type} (G:Gs) (n m:Nat) (t25:List LQ) (t26 t27:Int) (h0:LQ) (k0:LQ->Option R):Option R:=au (λ(v:Int×LQ) nx=>b11 G n t25 t26 v.1 v.2 (λy0 y1=>nx (y0,y1)) k0) m (t27,h0)
noncomputable def main {R:Type} (G:Gs) (n:Nat) (slices:List LQ) (K:LQ->Option R):Option R:=
 l3 G n n slices slices (List.length slices : Int) 0 0
  (fun size2 =>
   (G.z59 [] size2).bind λr=>
   l11 G n n slices (List.length slices:Int) 0 r
    (λh02=>K h02)
  )
noncomputable def dl3 (G:Gs) (n m:Nat) (R:Type) (st:St) (K:Kt R):Option R:=match st with
 |⟨[(0,.one (.l (.sl (.n 14)) slices)),(3,.one (.i size)),(9,.one (.l (.sl (.n 14)) t9)),(10,.one (.i t10)),(11,.one (.i t11))],[]⟩=>l3 G n m slices t9 t10 size t11 (λsize2=>K (.exit 0) ⟨[(0,.one (.l (.sl (.n 14)) slices)),(3,.one (.i size2))],[]⟩)
 |_=>none
noncomputable def Cu (G:Gs) (n m:Nat) (R:Type) (st:St) (K:Kt R):Option R:=match st with
 |⟨[(6,.one (.o 0)),(25,.one (.l (.sl (.n 14)) t25)),(26,.one (.i t26)),(27,.one (.i t27))],[.row (.n 14) 0 h0]⟩=>l11 G n m t25 t26 t27 h0 (λh02=>K (.exit 2) ⟨[(6,.one (.o 0))],[.row (.n 14) 0 h02]⟩)
 |_=>none
noncomputable def pc (G:Gs) (n:Nat):Pcs:=⟨λR id st K=>bif Nat.beq id 3 then dl3 G n n R st K else bif Nat.beq id 11 then Cu G n n R st K else none,nK,nK⟩
noncomputable def an:Ann:=⟨36,0,[(3,[0,3,9,10,11]),(11,[6,25,26,27])],[],[2],[],[]⟩
noncomputable abbrev bd:=ai Tryz.f39
noncomputable abbrev q3:=am [1,1,0,1,0,0] bd
noncomputable abbrev q11:=am [1,1,1,1,0,1,0,0] bd
theorem pl3 {G:Gs} (hG:AE (ae G)) (n:Nat):∀m,PO an (.loop q3) (dl3 G n m):=lpc hG (pc G n) [0,3,9,10,11] ⟨[0,3],[2],[(0,[0,3])]⟩ (apl [] trivial) (λR st K=>by unfold dl3;split<;>rfl) λm R st K r h=>by unfold dl3 at h;split at h;exact .trans (by kernel_rfl) h;cases h
theorem pl11 {G:Gs} (hG:AE (ae G)) (n:Nat):∀m,PO an (.loop q11) (Cu G n m):=lpc hG (pc G n) [6,25,26,27] ⟨[6],[2],[(2,[6])]⟩ (apl [] trivial) (λR st K=>by unfold Cu;split<;>rfl) λm R st K r h=>by unfold Cu at h;split at h;exact .trans (by kernel_rfl) h;cases h
noncomputable def ax (G:Gs) (slices:List LQ) (r:LQ):Prop:=∃n,main (R:=AT×List Ob) G n slices (λr0=>some (.one (.l (.n 14) r0),[]))=some (.one (.l (.n 14) r),[])
theorem ok {G:Gs} (hG:AE (ae G)) {g:Q} (hg:∀slices r,g slices=some r->ax G slices r):EO (ent g):=λR xs H K r hc=>by
 simp only[ent]at hc;split at hc
 ·exact okL hc λr j=>let⟨n,j⟩:=hg _ _ j;fF hG an (pc G n) Tryz.func39 j (apl [(1,3,.loop q3),(1,11,.loop q11)] ⟨pl3 hG n n,⟨pl11 hG n n,trivial⟩⟩)
 ·cases hc
end z4z
namespace z0x
structure Gs where
 z4z:z4z.Q
 z0y:z0y.Q
noncomputable def ae (G:Gs):List Ent:=[z4z.ent G.z4z,z0y.ent G.z0y]
noncomputable def b4 {R:Type} (G:Gs) (n:Nat) (xd xc xe:LI) (xa:LB) (xb:LS) (xg:LO) (t22:LQ) (t23 t24:Int) (h1:LM) (nx:Int->LM->Option R) (k0:Bool->LM->Option R) (k1:LM->Option R):Option R:=
 bif decide (t24<t23)then
  (
  (ix t22 t24).bind λe=>
  (G.z0y xd xc xe xa xb xg h1 (Eqn.mk (Tm.mk e.left.op e.left.name e.left.sort e.left.args) (Tm.mk e.right.op e.right.name e.right.sort e.right.args) e.conds)).bind λr=>
  bif !r.1 then
   (k0 false r.2)
  else
   nx (wr (t24+1)) r.2
  )
 else
  k1 h1
noncomputable def l4 {R:Type} (G:Gs) (n m:Nat) (xd xc xe:LI) (xa:LB) (xb:LS) (xg:LO) (t22:LQ) (t23 t24:Int) (h1:LM) (k0:Bool->LM->Option R) (k1:LM->Option R):Option R:=au (λ(v:Int×LM) nx=>b4 G n xd xc xe xa xb xg t22 t23 v.1 v.2 (λy0 y1=>nx (y0,y1)) k0 k1) m (t24,h1)
noncomputable def main {R:Type} (G:Gs) (n:Nat) (xd xc xe:LI) (xa:LB) (xb:LS) (xg:LO) (xf:LM) (m2:Md) (K:Bool->LM->Option R):Option R:=
 bif decide (16<(List.length m2.eqs:Int))then
  (K false xf)
 else
  bif decide (16<(List.length m2.rules:Int))then
   (K false xf)
  else
   (G.z4z [m2.eqs,m2.rules]).bind λr=>
   l4 G n n xd xc xe xa xb xg r (List.length r:Int) 0 xf
    (λt4 h12=>K t4 h12)
    (λh122=>K true h122)
noncomputable def dl4 (G:Gs) (n m:Nat) (R:Type) (st:St) (K:Kt R):Option R:=match st with
 |⟨[(0,.one (.p 0 0)),(22,.one (.l (.n 14) t22)),(23,.one (.i t23)),(24,.one (.i t24))],[.box [.l .i xd,.l .i xc,.l .i xe,.l .s xa,.l (.n 5) xb,.l (.n 8) xg,.m 1],.map .i h1]⟩=>l4 G n m xd xc xe xa xb xg t22 t23 t24 h1 (λt4 h12=>K .ret ⟨[(4,.one (.b t4))],[.box [.l .i xd,.l .i xc,.l .i xe,.l .s xa,.l (.n 5) xb,.l (.n 8) xg,.m 1],.map .i h12]⟩) (λh12=>K (.exit 0) ⟨[],[.box [.l .i xd,.l .i xc,.l .i xe,.l .s xa,.l (.n 5) xb,.l (.n 8) xg,.m 1],.map .i h12]⟩)
 |_=>none
noncomputable def pc (G:Gs) (n:Nat):Pcs:=⟨λR id st K=>bif Nat.beq id 4 then dl4 G n n R st K else none,nK,nK⟩
noncomputable def an:Ann:=⟨33,2,[(4,[0,22,23,24])],[],[4],[],[]⟩
noncomputable abbrev bd:=ai Tryz.f19
noncomputable abbrev q4:=am [1,1,0,1,0,0] bd
theorem pl4 {G:Gs} (hG:AE (ae G)) (n:Nat):∀m,PO an (.loop q4) (dl4 G n m):=lpc hG (pc G n) [0,22,23,24] ⟨[],[4],[(0,[])]⟩ (apl [] trivial) (λR st K=>by unfold dl4;split<;>rfl) λm R st K r h=>by unfold dl4 at h;split at h;exact .trans (by kernel_rfl) h;cases h
theorem ok {G:Gs} (hG:AE (ae G)) {g:Q} (hg:∀xd xc xe xa xb xg xf m2 r,g xd xc xe xa xb xg xf m2=some r->∃n,main (R:=AT×List Ob) G n xd xc xe xa xb xg xf m2 (λr0 r1=>some (.one (.b r0),[.box [.l .i xd,.l .i xc,.l .i xe,.l .s xa,.l (.n 5) xb,.l (.n 8) xg,.m 1],.map .i r1]))=some (.one (.b r.1),[.box [.l .i xd,.l .i xc,.l .i xe,.l .s xa,.l (.n 5) xb,.l (.n 8) xg,.m 1],.map .i r.2])):EO (ent g):=λR xs H K r hc=>by
 simp only[ent]at hc;split at hc
 ·exact okL hc λr j=>let⟨n,j⟩:=hg _ _ _ _ _ _ _ _ _ j;fF hG an (pc G n) Tryz.func19 j (apl [(1,4,.loop q4)] ⟨pl4 hG n n,trivial⟩)
 ·cases hc
end z0x
open Classical
def cZ (s:Sg) (a b:Tm):Bool:=isT s a&&(isT s b&&decide (cH s a=cH s b))
theorem uH {s:Sg} {t:Tm} (h:isT s t=true):Kn s t:=by
 unfold isT at h;simp only[bA]at h;exact(eP h.2.2).kn
noncomputable def oT:Sg->Tm->Tm->Option Bool:=λs a b=>if bw s=true/\a.total<4294967295/\b.total<4294967295 then some (cZ s a b)else none
theorem tR :EO (z3y.ent oT):=z3y.ok (G:=⟨gSm 4294967296,gy 4294967295,fA⟩) ⟨uT _ (Nat.le_refl _),ox _ (Nat.le_refl _),po,trivial⟩ λs a b r h=>by
 unfold oT at h;split at h
 ·rename_i hs;obtain⟨hS,ha,hb⟩:=hs;cases h;refine⟨1,?_⟩;have key:∀(t:Tm) (X F B:Option (AT×List Ob)) (ht:t.total<4294967295),(isT s t=true->X=B)->(Option.bind (gSm 4294967296 t) λr2=>bif r2 then (Option.bind (gy    4294967295 s t) λr4=>bif r4 then X else F)else F)=bif isT s t then B else F:=λt X F B ht hB=>by
   have e1:gSm 4294967296 t=some (decide (tsz t<=60)&&decide (tdp t<=20)):=if_pos (by omega);have e2:gy 4294967295 s t=some (bW s t):=if_pos ⟨hS,ht⟩;rw[e1,bS];have e3:isT s t=((decide (tsz t<=60)&&decide (tdp t<=20))&&bW s t):=by unfold isT;rw[Bool.and_assoc]
   rw[e3]at hB ⊢;cases hx:(decide (tsz t<=60)&&decide (tdp t<=20))with
   |false=>rfl
   | true =>
    rw[cT,e2,bS];cases hw:bW s t with
    |false=>rfl
    |true=>exact hB (by rw[hx,hw];rfl)
  unfold z3y.main;rw[Tm.eta,Tm.eta];unfold cZ;refine(key a _ _ (bif isT s b then some (AT.one (.b (decide (cH s a=cH s b))),[])else some (AT.one (.b false),[])) ha λta=> ?_).trans ?_
  ·refine key b _ _ _ hb λtb=> ?_;show Option.bind (fA s a) _=_;have e1:fA s a=some (cH s a):=if_pos ⟨hS,uH ta⟩;have e2:fA s b=some (cH s b):=if_pos ⟨hS,uH tb⟩;rw[e1,bS];show Option.bind (fA s b) _=_;rw[e2,bS]
  ·cases isT s a<;>cases isT s b<;>rfl
 ·cases h
def inV (vars:List Tm) (v:Tm):Bool:=vars.any λu=>decide (aQ v u=0)
def bE (vars:List Tm) (t:Tm):Bool:=(bk t).all (inV vars)
theorem jv (t:Tm):(bk t).length<=t.total+1:=by
 have:=lN t;have:=qm t;have h:(bk t).length<=(oc t).length:=by
  have:=j9 (oc t) [];unfold bk jm;simpa using this
 omega
theorem rt {t v:Tm} (h:v∈bk t):v.op= -1/\v.args=[]/\v.total<=t.total:=by
 unfold bk jm at h;rcases oB h with h|h
 ·simp at h
 ·exact pV h
noncomputable def gg:Tm->List Tm->Option Bool:=λt vs=>if t.total<1073741823/\vs.length<4294967296 then some (bE vs t)else none
noncomputable abbrev GWi:z3z.Gs:=⟨gVs,bf 4294967296⟩
theorem Ae {R:Type} (n:Nat) (vs list:List Tm) (hl:vs.length<4294967296) (i:Nat) (x:Tm) (hi:list[i]? =some x) (hx:x.total<4294967296) (k0:Bool->Option R):∀m (k:Nat) (met:Bool),k<=vs.length->vs.length-k<m->
  z3z.l7 GWi n m vs list (i:Int) met (k:Int) k0=k0 (met||inV (vs.drop k) x):=by
 intro m k met h1 h2;refine uI vs.length (λmet k nx=>z3z.b7 GWi n vs list (i:Int) met k nx k0) (λ_ _=>True) (λk met=>k0 (met||inV (vs.drop k) x)) (λmet nx _=> ?_) (λk met nx hk _ e=> ?_) m k met trivial h1 h2
 ·unfold z3z.b7;rw[aq (Nat.lt_irrefl _),cF,aK];unfold inV;rw[List.any_nil,Bool.or_false]
 ·obtain⟨u,u1,_⟩:=aV     hk;unfold z3z.b7;rw[aH     hk,cT,aO     (by omega)];have e0:inV (vs.drop k) x=(decide (aQ   x u=0)||inV (vs.drop (k+1)) x):=by
   rw[aE u1];rfl
  cases met with
  |true=>rw[cT,e _ trivial];simp
  | false =>
   rw[cF,aD hi,bS,aD u1,bS,Tm.eta,Tm.eta];show Option.bind (bf 4294967296 x u) _=_;unfold bf;rw[if_pos hx,bS,e _ trivial,e0,Bool.false_or]
theorem pU :EO (z3z.ent gg):=z3z.ok (G:=GWi) ⟨z3v,dm _ (Nat.le_refl _),trivial⟩ λt vs r h=>by
 unfold gg at h;split at h
 ·rename_i hs;obtain⟨ht,hl⟩:=hs;have hl:List.length (α:=Tm) vs<4294967296:=hl;cases h;have hvl:=jv       t;refine⟨List.length (α:=Tm) vs+(bk    t).length+1,?_⟩;unfold z3z.main;rw[Tm.eta];show Option.bind (gVs t) _=_;rw[show gVs t=some (bk    t)from if_pos ht,bS];refine(mg   (bk    t) (inV vs) (λi nx=>z3z.b3 GWi _ vs (bk    t) i nx _ _) (some (AT.one (.b false),[])) (some (AT.one (.b true),[])) (λnx=> ?_) (λi x nx hi=> ?_) _ 0 (by omega) (by omega)).trans ?_
  ·unfold z3z.b3;rw[aq (Nat.lt_irrefl _),cF]
  ·have hil:i<(bk t).length:=(gI.1 hi).1;have hxt:=(rt (mG hi)).2.2;unfold z3z.b3;rw[aH hil,cT];refine(Ae _ vs (bk t) hl i x hi (by omega) _ _ 0 false (by omega) (by omega)).trans ?_;rw[List.drop_zero,Bool.false_or,aO (by omega)];cases inV vs x<;>rfl
  ·rw[List.drop_zero];show (bif bE vs t then _ else _)=_;cases bE vs t<;>rfl
 ·cases h
open Classical
theorem Eqn.eta :∀e:Eqn,Eqn.mk (Eqn.left e) (Eqn.right e) (Eqn.conds e)=e
 |⟨_,_,_⟩=>rfl
def pd (s:Sg) (vs:List Tm) (c:Cnd):Bool:=cZ s c.left c.right&&(bE vs c.left&&bE vs c.right)
def fV (s:Sg) (e:Eqn):Bool:=cZ s e.left e.right&&(!decide (e.left.op= -1)&&(decide ((e.conds.length:Int)<=2)&&((decide (((bk e.left).length:Int)<=5)&&bE (bk e.left) e.right)&&e.conds.all (pd s (bk e.left)))))
def SmE (e:Eqn):Prop:=e.left.total<1073741823/\e.right.total<1073741823/\∀c∈e.conds,c.left.total<1073741823/\c.right.total<1073741823
noncomputable def yI:Sg->Eqn->Option Bool:=λs e=>if SmE e then some (bw s&&fV s e)else none
noncomputable abbrev GE:z3f.Gs:=⟨λs=>some (bw s),oT,gVs,gg⟩
theorem iT {α:Type} {xs:List α} {k:Int}:decide (k<(xs.length:Int))= !decide ((xs.length:Int)<=k):=by
 by_cases h:(xs.length:Int)<=k
 ·rw[dT h,dF (by omega)];rfl
 ·rw[dF h,dT (by omega)];rfl
theorem z3g             : EO (z3f.ent          yI  ) := z3f.ok          (G := GE) ⟨z3n             , tR        , z3v             , pU          , trivial⟩ fun s e r h => by
 unfold yI at h;split at h
 ·rename_i hs;obtain⟨hl,hr,hc⟩:=hs;cases h;refine⟨3,?_⟩;unfold z3f.main;rw[bS];cases hS:bw   s with
  |false=>rfl
  | true =>
   rw[Bool.not_true,cF,Bool.true_and,Tm.eta,Tm.eta];unfold fV;show Option.bind (oT s e.left e.right) _=_;have ep:∀a b:Tm,a.total<1073741823->b.total<1073741823->oT s a b=some (cZ s a b):=λa b ha hb=>if_pos ⟨hS,by omega,by omega⟩;rw[ep _ _ hl hr,bS];cases cZ s e.left e.right with
   |false=>rfl
   | true =>
    rw[Bool.not_true,cF,Bool.true_and];cases hop:decide (e.left.op= -1)with
    |true=>rfl
    | false =>
     rw[cF,Bool.not_false,Bool.true_and,iT];cases h2:decide ((e.conds.length:Int)<=2)with
     |false=>rfl
     | true =>
      have h2:=of_decide_eq_true h2;rw[Bool.not_true,cF,Bool.true_and];have hvl:=jv e.left;have ev:gVs e.left=some (bk e.left):=if_pos hl;have ew:∀t:Tm,t.total<1073741823->gg t (bk e.left)=some (bE (bk e.left) t):=λt ht=>if_pos ⟨ht,by omega⟩;show Option.bind (gVs e.left) _=_;rw[ev,bS,iT];cases decide (((bk e.left).length:Int)<=5)with
      |false=>rfl
      | true =>
       rw[Bool.not_true,cF,Bool.true_and];show Option.bind (gg e.right (bk e.left)) _=_;rw[ew _ hr,bS];cases bE (bk e.left) e.right with
       |false=>rfl
       | true =>
        rw[Bool.not_true,cF,Bool.true_and];refine(mg e.conds (pd s (bk e.left)) (λi nx=>z3f.b7 GE 3 (bk e.left) s.sorts.names s.sorts.subs s.ops e.left.op e.left.name e.left.sort e.left.args e.right.op e.right.name e.right.sort e.right.args e.conds i nx _ _) (some (AT.one (.b false),[])) (some (AT.one (.b true),[])) (λnx=> ?_) (λi c nx hi=> ?_) _ 0 (by omega) (by omega)).trans ?_
        ·unfold z3f.b7;rw[aq (Nat.lt_irrefl _),cF]
        ·have hil:i<e.conds.length:=(gI.1 hi).1;obtain⟨c1,c2⟩:=hc c (mG hi);unfold z3f.b7 pd;rw[aH        hil,cT,aD     hi,bS,Tm.eta,Tm.eta,aO     (by omega)];show Option.bind (oT    s c.left c.right) _=_;rw[ep _ _ c1 c2,bS];cases cZ    s c.left c.right with
         |false=>rfl
         | true =>
          rw[Bool.not_true,cF,Bool.true_and];show Option.bind (gg c.left (bk e.left)) _=_;rw[ew _ c1,bS];cases bE (bk e.left) c.left with
          |false=>rfl
          | true =>
           rw[Bool.not_true,cF,Bool.true_and];show Option.bind (gg c.right (bk e.left)) _=_;rw[ew _ c2,bS];cases bE (bk e.left) c.right<;>rfl
        ·rw[List.drop_zero];cases e.conds.all (pd s (bk e.left))<;>rfl
 ·cases h
def lp (m:Md):Bool:=(decide ((m.eqs.length:Int)<=16)&&decide ((m.rules.length:Int)<=16))&&((m.eqs++m.rules).all (fV m.sig))
def SmM (m:Md):Prop:=(∀e∈m.eqs,SmE e)/\(∀e∈m.rules,SmE e)
noncomputable def wM:Md->Option Bool:=λm=>if SmM m then some (bw m.sig&&lp m)else none
noncomputable abbrev GMd:z3i.Gs:=⟨λs=>some (bw s),yI⟩
theorem z3j :EO (z3i.ent wM):=z3i.ok (G:=GMd) ⟨z3n,z3g,trivial⟩ λm r h=>by
 unfold wM at h;split at h
 ·rename_i hs;obtain⟨h1,h2⟩:=hs;cases h;refine⟨17,?_⟩;unfold z3i.main;rw[bS];cases hS:bw   m.sig with
  |false=>rfl
  | true =>
   rw[Bool.not_true,cF,Bool.true_and];unfold lp;rw[iT,iT];cases l1:decide ((m.eqs.length:Int)<=16)with
   |false=>rfl
   | true =>
    rw[Bool.not_true,cF,Bool.true_and];cases l2:decide ((m.rules.length:Int)<=16)with
    |false=>rfl
    | true =>
     have l1:=of_decide_eq_true l1;have l2:=of_decide_eq_true l2;rw[Bool.not_true,cF,Bool.true_and];have step:∀(e:Eqn) (A B:Option (AT×List Ob)),SmE e->(Option.bind (yI m.sig e) λr=>bif !r then A else B)=bif fV m.sig e then B else A:=λe A B he=>by
      rw[show yI m.sig e=some (bw m.sig&&fV m.sig e)from if_pos he,bS,hS,Bool.true_and];cases fV m.sig e<;>rfl
     refine(mg m.eqs (fV m.sig) (λi nx=>z3i.b4 GMd 17 m.sig.sorts.names m.sig.sorts.subs m.sig.ops m.eqs m.rules i nx _ _) (some (AT.one (.b false),[])) (bif m.rules.all (fV m.sig)then some (AT.one (.b true),[])else some (AT.one (.b false),[])) (λnx=> ?_) (λi e nx hi=> ?_) _ 0 (by omega) (by omega)).trans ?_
     ·unfold z3i.b4;rw[aq      (Nat.lt_irrefl _),cF];refine(mg   m.rules (fV   m.sig) (λi nx=>z3i.b9 GMd 17 m.sig.sorts.names m.sig.sorts.subs m.sig.ops m.eqs m.rules i nx _ _) (some (AT.one (.b false),[])) (some (AT.one (.b true),[])) (λnx=> ?_) (λi e nx hi=> ?_) _ 0 (by omega) (by omega)).trans ?_
      ·unfold z3i.b9;rw[aq (Nat.lt_irrefl _),cF]
      ·have hil:i<m.rules.length:=(gI.1 hi).1;unfold z3i.b9;rw[aH hil,cT,aD hi,bS,Tm.eta,Tm.eta,Eqn.eta,aO (by omega)];exact step e _ _ (h2 e (mG hi))
      ·rw[List.drop_zero]
     ·have hil:i<m.eqs.length:=(gI.1 hi).1;unfold z3i.b4;rw[aH hil,cT,aD hi,bS,Tm.eta,Tm.eta,Eqn.eta,aO (by omega)];exact step e _ _ (h1 e (mG hi))
     ·rw[List.drop_zero,List.all_append];cases m.eqs.all (fV m.sig)<;>cases m.rules.all (fV m.sig)<;>rfl
 ·cases h
open Classical
noncomputable def gHf:Tm->Tm->Option Bool:=λu t=>if t.total<4294967296 then some (decide (aQ t u=0))else none
theorem nO :EO (z18.ent gHf):=z18.ok (G:=⟨bf 4294967296⟩) ⟨z1o _ (Nat.le_refl _),trivial⟩ λu t r h=>by
 unfold gHf at h;split at h
 ·rename_i hs;cases h;refine⟨1,?_⟩;unfold z18.main;rw[Tm.eta,Tm.eta];show Option.bind (bf 4294967296 t u) _=_;unfold bf;rw[if_pos hs];rfl
 ·cases h
def uV :List Tm->Tm->Nat->Int
 |[],_,_=> -1
 |u::us,t,i=>if aQ t u=0 then (i:Int)else uV us t (i+1)
theorem wj :∀(vs:List Tm) (t:Tm) (i:Nat),decide (0<=uV vs t i)=inV vs t
 |[],_,_=>rfl
 | u :: us, t, i => by
  unfold uV inV;rw[List.any_cons];by_cases h:aQ t u=0
  ·rw[if_pos h,dT h,dT (by omega)];rfl
  ·rw[if_neg h,dF h,wj us t (i+1)];rfl
noncomputable def gIx:List Tm->Tm->Option Int:=λvs t=>if t.total<4294967296/\vs.length<4294967296 then some (uV vs t 0)else none
noncomputable abbrev GIx:z5d.Gs:=⟨gHf⟩
theorem pC :EO (z5d.ent gIx):=z5d.ok (G:=GIx) ⟨nO,trivial⟩ λvs t r h=>by
 unfold gIx at h;split at h
 ·rename_i hs;obtain⟨ht,hl⟩:=hs;have hl:List.length (α:=Tm) vs<4294967296:=hl;cases h;refine⟨List.length (α:=Tm) vs+1,?_⟩;unfold z5d.main;refine(jf     (List.length (α:=Tm) vs) (λi nx=>z5d.b2 GIx _ t vs (List.length (α:=Tm) vs:Int) i nx _ _) (λi=>some (AT.one (.i (uV   (List.drop (α:=Tm) i vs) t i)),[.box [.i t.op,.s t.name,.i t.sort,.l (.n 1) t.args]])) (λnx=> ?_) (λi nx hi e=> ?_) _ 0 (by omega) (by omega)).trans ?_
  ·unfold z5d.b2;rw[aq (Nat.lt_irrefl _),cF,aK];rfl
  ·obtain⟨u,u1,_⟩:=aV     hi;unfold z5d.b2;rw[aH     hi,cT,aD     u1,bS,Tm.eta,Tm.eta,aO     (by omega),e,aE       u1];show Option.bind (gHf u t) _=_;rw[show gHf u t=some (decide (aQ   t u=0))from if_pos ht,bS]
   conv=>rhs;unfold uV
   by_cases hc:aQ t u=0
   ·rw[dT hc,cT,if_pos hc]
   ·rw[dF hc,cF,if_neg hc]
  ·rw[List.drop_zero]
 ·cases h
noncomputable def kM:List Tm->Tm->Option Bool:=λvs t=>if t.total<4294967296/\vs.length<4294967296 then some (inV vs t)else none
theorem lk :EO (z52.ent kM):=z52.ok (G:=⟨gIx⟩) ⟨pC,trivial⟩ λvs t r h=>by
 unfold kM at h;split at h
 ·rename_i hs;cases h;refine⟨1,?_⟩;unfold z52.main;rw[Tm.eta];show Option.bind (gIx vs t) _=_;rw[show gIx vs t=some (uV vs t 0)from if_pos hs,bS,wj]
 ·cases h
theorem uQ :EO (z17.ent kM):=z17.ok (G:=⟨kM⟩) ⟨lk,trivial⟩ λvs t r h=>by
 refine⟨1,?_⟩;unfold z17.main;rw[Tm.eta];show Option.bind (kM vs t) _=_;rw[h];rfl
noncomputable def zY:List Int->List Int->List Int->List ByteArray->List Sb->List Opr->Mp->Eqn->Option (Bool×Mp):=λab _ kd nm sb ops m e=>if Alg kd nm sb ops/\ab.length=nm.length/\SmE e then some (fV ⟨⟨nm,sb⟩,ops⟩ e,m)else none
noncomputable abbrev GEA:z0y.Gs:={z0z:=xW,z12:=gj,z0t:=gVs,z17:=kM}
section
variable {R : Type} {kd ab be : List Int} {nm : List ByteArray} {sb : List Sb} {ops : List Opr} (hA : Alg kd nm sb ops) (hab : ab.length = nm.length)
include hA hab
theorem sU (m:Mp) (a b:Tm) (ha:a.total<4294967296) (hb:b.total<4294967296) (A:Mp->Option R) (B:Mp->Option R):
  (Option.bind (xW ab be kd nm sb ops m a) λr5=>bif !r5.1 then A r5.2 else Option.bind (xW ab be kd nm sb ops r5.2 b) λr6=>bif !r6.1 then A r6.2 else Option.bind (gj ab be kd nm sb ops r6.2 a) λr7=>Option.bind (gj ab be kd nm sb ops r7.2 b) λr8=>bif !decide (r7.1=r8.1)then A r8.2 else B r8.2)=bif cZ ⟨⟨nm,sb⟩,ops⟩ a b then B m else A m:=by
 have e1:∀t:Tm,t.total<4294967296->xW ab be kd nm sb ops m t=some (isT ⟨⟨nm,sb⟩,ops⟩ t,m):=λt ht=>if_pos ⟨hA,hab,ht⟩;have e2:∀t:Tm,isT ⟨⟨nm,sb⟩,ops⟩ t=true->gj ab be kd nm sb ops m t=some (cH ⟨⟨nm,sb⟩,ops⟩ t,m):=λt ht=>if_pos ⟨hA,uH ht⟩;rw[e1 _ ha,bS];unfold cZ;cases ta:isT ⟨⟨nm,sb⟩,ops⟩ a with
 |false=>rfl
 | true =>
  simp only[Bool.not_true,cF,Bool.true_and];rw[e1 _ hb,bS];cases tb:isT ⟨⟨nm,sb⟩,ops⟩ b with
  |false=>rfl
  | true =>
   simp only[Bool.not_true,cF,Bool.true_and];rw[e2 _ ta,bS];simp only[];rw[e2 _ tb,bS];simp only[];cases decide (cH ⟨⟨nm,sb⟩,ops⟩ a=cH ⟨⟨nm,sb⟩,ops⟩ b)<;>rfl
def iJ (cs:List Cnd):List Tm:=cs.flatMap λc=>[c.left,c.right]
theorem w5 (n:Nat) (vars:List Tm) (cs:List Cnd) (hc:∀c∈cs,c.left.total<1073741823/\c.right.total<1073741823) (h2:cs.length<=2) (m:Mp) (k0:Bool->Mp->Option R) (k1:Mp->List Tm->Option R):∀f (i:Nat) (l:List Tm),l.length+2*(cs.length-i)<16->i<=cs.length->cs.length-i<f->
  z0y.l6 GEA n f ab be kd nm sb ops vars cs (cs.length:Int) (i:Int) m l k0 k1=bif (cs.drop i).all (λc=>cZ ⟨⟨nm,sb⟩,ops⟩ c.left c.right)then k1 m (l++iJ (cs.drop i))else k0 false m:=by
 intro f
 induction f with
 |zero=>intro i l _ _ hm;omega
 | succ f ih =>
  intro i l hl hi hm;show z0y.b6 GEA n ab be kd nm sb ops vars cs (cs.length:Int) (i:Int) m l (λy0 y1 y2=>z0y.l6 GEA n f ab be kd nm sb ops vars cs (cs.length:Int) y0 y1 y2 k0 k1) k0 k1=_;unfold z0y.b6;by_cases hi:i<cs.length
  ·obtain⟨c,c1,c2⟩:=aV hi;obtain⟨t1,t2⟩:=hc c c2;rw[aH hi,cT,aD c1,bS,Tm.eta,Tm.eta];refine(sU (be:=be) hA hab m c.left c.right (by omega) (by omega) (λm=>k0 false m) (λm=>z0y.c10 GEA n ab be kd nm sb ops vars cs (cs.length:Int) (i:Int) m l c.left.op c.left.name c.left.sort c.left.args c.right.op c.right.name c.right.sort c.right.args (λh222=>z0y.l6 GEA n f ab be kd nm sb ops vars cs (cs.length:Int) (wr ((i:Int)+1)) m h222 k0 k1))).trans ?_;unfold z0y.c10;rw[cj (by simp;omega),bS,Tm.eta,Tm.eta,aO (by omega)];dsimp only;rw[ih (i+1) _ (by simp;omega) hi (by omega),aE c1,List.all_cons];unfold iJ;rw[List.flatMap_cons,List.append_assoc];cases cZ ⟨⟨nm,sb⟩,ops⟩ c.left c.right<;>rfl
  ·obtain rfl:i=cs.length:=by omega
   rw[aq (Nat.lt_irrefl _),cF,aK];unfold iJ;rw[List.flatMap_nil,List.append_nil];rfl
omit hA hab in
theorem C5 (n:Nat) (vars l:List Tm) (hv:vars.length<4294967296) (hl:∀t∈l,t.total<1073741823) (hll:l.length<4294967296) (hn:∀t∈l,t.total+1<n) (m:Mp) (k0:Bool->Option R) (k1:Option R) (f:Nat) (hf:l.length<f):
  z0y.l13 GEA n f ab be kd nm sb ops vars (l.length:Int) m l 0 k0 k1=bif l.all (bE vars)then k1 else k0 false:=by
 refine(mg l (bE vars) (λi nx=>z0y.b13 GEA n ab be kd nm sb ops vars (l.length:Int) m l i nx k0 k1) (k0 false) k1 (λnx=> ?_) (λi t nx hi=> ?_) f 0 (by omega) (by omega)).trans (by rw[List.drop_zero])
 ·unfold z0y.b13;rw[aq (Nat.lt_irrefl _),cF]
 ·have hil:i<l.length:=(gI.1 hi).1;have hm:=mG hi;have ht:=hl t hm;have hvl:=jv       t;have hnt:=hn t hm;unfold z0y.b13;rw[aH     hil,cT,aD     hi,bS,Tm.eta];show Option.bind (gVs t) _=_;rw[show gVs t=some (bk    t)from if_pos ht,bS,aO     (by omega)];refine(mg   (bk    t) (inV vars) (λi nx=>z0y.b16 GEA n ab be kd nm sb ops vars (l.length:Int) _ (bk    t) ((bk    t).length:Int) m l i nx _ _) (k0 false) (nx ((i+1:Nat):Int)) (λnx=> ?_) (λj v nx hj=> ?_) n 0 (by omega) (by omega)).trans (by rw[List.drop_zero];rfl)
  ·unfold z0y.b16;rw[aq (Nat.lt_irrefl _),cF]
  ·have hjl:j<(bk t).length:=(gI.1 hj).1;have:=(rt (mG hj)).2.2;unfold z0y.b16;rw[aH hjl,cT,aD hj,bS,Tm.eta,aO (by omega)];show Option.bind (kM vars v) _=_;rw[show kM vars v=some (inV vars v)from if_pos ⟨by omega,hv⟩,bS];cases inV vars v<;>rfl
end
theorem sn {s:Sg} {vs:List Tm}:∀cs:List Cnd,cs.all (pd s vs)=(cs.all (λc=>cZ s c.left c.right)&&(iJ cs).all (bE vs))
 |[]=>rfl
 | c :: cs => by
  have:=sn (s:=s) (vs:=vs) cs;unfold iJ at this ⊢;rw[List.all_cons,this,List.all_cons,List.flatMap_cons,List.all_append];unfold pd;simp only[List.all_cons,List.all_nil,Bool.and_true];cases cZ s c.left c.right<;>cases bE vs c.left<;>cases bE vs c.right<;>cases (cs.all λc=>cZ s c.left c.right)<;>rfl
theorem Eu {s:Sg} {t:Tm} (h:isT s t=true):decide (t.op<0)=decide (t.op= -1):=by
 unfold isT at h;simp only[bA]at h;have h:=h.2.2;rw[jH]at h;unfold jo fH at h;by_cases ho:t.op= -1
 ·rw[dT ho,dT (by omega)]
 ·rw[if_neg ho]at h;by_cases h0:t.op<0
  ·rw[lI (.inl h0)]at h;simp at h
  ·rw[dF ho,dF h0]
theorem BR {R:Type} {kd ab be:List Int} {nm:List ByteArray} {sb:List Sb} {ops:List Opr} (hA:Alg kd nm sb ops) (hab:ab.length=nm.length) (m:Mp) (e:Eqn) (he:SmE e) (K:Bool->Mp->Option R):
  z0y.main GEA 1073741827 ab be kd nm sb ops m e K=K (fV ⟨⟨nm,sb⟩,ops⟩ e) m:=by
 obtain⟨hl,hr,hc⟩:=he;unfold z0y.main;rw[Tm.eta,Tm.eta];refine(sU (be:=be) hA hab m e.left e.right (by omega) (by omega) (λm=>K false m) (λm=>bif decide (e.left.op<0)then K false m else bif decide (2<(e.conds.length:Int))then K false m else z0y.c3 GEA 1073741827 ab be kd nm sb ops m e.left.op e.left.name e.left.sort e.left.args e.right.op e.right.name e.right.sort e.right.args e.conds (λt42 h122=>K t42 h122))).trans ?_;unfold fV;cases hp:cZ ⟨⟨nm,sb⟩,ops⟩ e.left e.right with
 |false=>rfl
 | true =>
  rw[cT,Bool.true_and];have tl:isT ⟨⟨nm,sb⟩,ops⟩ e.left=true:=by
   unfold cZ at hp;simp only[bA]at hp;exact hp.1
  rw[Eu tl];cases decide (e.left.op= -1)with
  |true=>rfl
  | false =>
   rw[cF,Bool.not_false,Bool.true_and,iT];cases h2:decide ((e.conds.length:Int)<=2)with
   |false=>rfl
   | true =>
    have h2:=of_decide_eq_true h2;rw[Bool.not_true,cF,Bool.true_and];unfold z0y.c3;have hvl:=jv e.left;rw[Tm.eta,Tm.eta];show Option.bind (gVs e.left) _=_;rw[show gVs e.left=some (bk e.left)from if_pos hl,bS];refine(w5 (be:=be) hA hab 1073741827 (bk e.left) e.conds hc (by omega) m _ _ _ 0 _ (by simp;omega) (by omega) (by omega)).trans ?_;rw[List.drop_zero,sn];cases (e.conds.all λc=>cZ ⟨⟨nm,sb⟩,ops⟩ c.left c.right)with
    |false=>simp
    | true =>
     rw[cT,Bool.true_and];have hct:(iJ e.conds).length<=4:=by
      unfold iJ
      match e.conds,h2 with
      |[],_=>simp
      |[_],_=>simp
      |[_,_],_=>simp
      |_::_::_::_,h2=>simp at h2;omega
     have hin:∀t∈[e.right]++iJ e.conds,t.total<1073741823:=λt ht=>by
      rcases List.mem_append.1 ht with ht|ht
      ·simp at ht;subst ht;exact hr
      ·unfold iJ    at ht;obtain⟨c,c1,c2⟩:=List.mem_flatMap.1 ht;obtain⟨a1,a2⟩:=hc c c1;simp at c2;rcases c2 with rfl|rfl
       ·exact a1
       ·exact a2
     refine(C5 1073741827 (bk e.left) _ (by omega) hin (by simp;omega) (λt ht=>by have:=hin t ht;omega) m _ _ _ (by simp;omega)).trans ?_;rw[List.all_append,List.all_cons,List.all_nil,Bool.and_true];cases bE (bk e.left) e.right<;>cases (iJ e.conds).all (bE (bk e.left))<;>cases decide (((bk e.left).length:Int)<=5)<;>rfl
theorem od :EO (z0y.ent zY):=z0y.ok (G:=GEA) ⟨uW,o9,z0v,uQ,trivial⟩ λab be kd nm sb ops m e r h=>by
 unfold zY at h;split at h
 ·rename_i hs;obtain⟨hA,hab,he⟩:=hs;cases h;exact⟨1073741827,(BR hA hab m e he _).trans rfl⟩
 ·cases h
end Go.Proofs.YtkinkfieackmdaaGreatDoor.Den

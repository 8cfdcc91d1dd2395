/-
  Texts that the claim rests on, merged: PV1, Same.
-/
import Derived.Test.YtkinkfieackmdaaGreatDoorZRowPth11
import Derived.Test.YtkinkfieackmdaaGreatDoorZRowPth20

namespace Go.Proofs.YtkinkfieackmdaaGreatDoor.Den
open Go.RowKit
set_option maxRecDepth 100000
set_option linter.unusedVariables false
namespace z4i
structure Gs where
 z3a:z3a.Q
 z4j:z4j.Q
noncomputable def ae (G:Gs):List Ent:=[z3a.ent G.z3a,z4j.ent G.z4j]
noncomputable def b2 {R:Type} (G:Gs) (n:Nat) (list:LT) (h0:Int) (h02:ByteArray) (h03:Int) (h04:LT) (at1:Int) (nx k0:Int->Option R):Option R:=
 bif decide (at1<(List.length list:Int))then
  (
  (ix list at1).bind λe2=>
  (G.z3a (Tm.mk e2.op e2.name e2.sort e2.args) (Tm.mk h0 h02 h03 h04)).bind λr2=>
  bif decide (r2<0)then
   (nx (wr (at1+1)))
  else
   k0 at1
  )
 else
  k0 at1
noncomputable def l2 {R:Type} (G:Gs) (n m:Nat) (list:LT) (h0:Int) (h02:ByteArray) (h03:Int) (h04:LT) (at1:Int) (k0:Int->Option R):Option R:=au (λ(v:Int) nx=>b2 G n list h0 h02 h03 h04 v (λy0=>nx y0) k0) m at1
noncomputable def c6 {R:Type} (G:Gs) (n:Nat) (list:LT) (at1 h0:Int) (h02:ByteArray) (h03:Int) (h04:LT) (k0:LT->Option R):Option R:=
 (sub list 0 at1).bind λys2=>
 (lim ([]++ys2)).bind λzs=>
 (lim (zs++[(Tm.mk h0 h02 h03 h04)])).bind λzs2=>
 (sub list at1 (List.length list:Int)).bind λys3=>
 (lim (zs2++ys3)).bind λzs3=>
 k0 zs3
noncomputable def main {R:Type} (G:Gs) (n:Nat) (list:LT) (t:Tm) (K:LT->Option R):Option R:=
 l2 G n n list t.op t.name t.sort t.args 0
  (fun at12 =>
   bif decide (at12<(List.length list:Int))then
    (
    (ix list at12).bind λe2=>
    (G.z4j (Tm.mk e2.op e2.name e2.sort e2.args) (Tm.mk t.op t.name t.sort t.args)).bind λr2=>
    bif r2 then
     (K list)
    else
     c6 G n list at12 t.op t.name t.sort t.args
      (λh05=>K h05)
    )
   else
    c6 G n list at12 t.op t.name t.sort t.args
     (λh052=>K h052)
  )
noncomputable def dl2 (G:Gs) (n m:Nat) (R:Type) (st:St) (K:Kt R):Option R:=match st with
 |⟨[(0,.one (.l (.n 1) list)),(3,.one (.p 0 0)),(5,.one (.i at1))],[.box [.i h0,.s h02,.i h03,.l (.n 1) h04]]⟩=>l2 G n m list h0 h02 h03 h04 at1 (λat12=>K (.exit 0) ⟨[(0,.one (.l (.n 1) list)),(3,.one (.p 0 0)),(5,.one (.i at12))],[.box [.i h0,.s h02,.i h03,.l (.n 1) h04]]⟩)
 |_=>none
noncomputable def dc6 (G:Gs) (n:Nat) (R:Type) (st:St) (K:Kt R):Option R:=match st with
 |⟨[(0,.one (.l (.n 1) list)),(3,.one (.p 0 0)),(5,.one (.i at1))],[.box [.i h0,.s h02,.i h03,.l (.n 1) h04]]⟩=>c6 G n list at1 h0 h02 h03 h04 (λh05=>K .ret ⟨[(4,.one (.o 0))],[.row (.n 1) 0 h05]⟩)
 |_=>none
noncomputable def pc (G:Gs) (n:Nat):Pcs:=⟨λR id st K=>bif Nat.beq id 2 then dl2 G n n R st K else none,λR id st K=>bif Nat.beq id 6 then dc6 G n R st K else none,nK⟩
noncomputable def an:Ann:=⟨48,0,[(2,[0,3,5])],[(6,[0,3,5])],[4],[(2,⟨[([0,1,2,3,4,5,6,7,8,9,10,11,12],[],[])],[],[],[0],[]⟩),(4,⟨[([0,1,2,3,4,5,6,7,8,9,10,11],[],[])],[],[],[0],[]⟩),(6,⟨[([0,1,2,3,4,5,6,7,8],[0,4,7],[])],[0,4,7],[],[0],[]⟩)],[]⟩
noncomputable abbrev bd:=ai Tryz.f132
noncomputable abbrev q2:=am [1,1,0,0,0] bd
noncomputable abbrev q6:=am [1,1,1,1] bd
theorem pl2 {G:Gs} (hG:AE (ae G)) (n:Nat):∀m,PO an (.loop q2) (dl2 G n m):=lpc hG (pc G n) [0,3,5] ⟨[0,3,5],[4],[(0,[0,3,5])]⟩ (apl [] trivial) (λR st K=>by unfold dl2;split<;>rfl) λm R st K r h=>by unfold dl2 at h;split at h;exact .trans (by kernel_rfl) h;cases h
theorem pc6 {G:Gs} (hG:AE (ae G)) {n:Nat}:PO an q6 (dc6 G n):=cpc hG (pc G n) ⟨[],[4],[]⟩ (apl [] trivial) λR st K r h=>by unfold dc6 at h;split at h;exact .trans (by kernel_rfl) h;cases h
theorem ok {G:Gs} (hG:AE (ae G)) {g:Q} (hg:∀list t r,g list t=some r->∃n,main (R:=AT×List Ob) G n list t (λr0=>some (.one (.l (.n 1) r0),[]))=some (.one (.l (.n 1) r),[])):EO (ent g):=λR xs H K r hc=>by
 simp only[ent]at hc;split at hc
 ·exact okL hc λr j=>let⟨n,j⟩:=hg _ _ _ j;fF hG an (pc G n) Tryz.func132 j (apl [(1,2,.loop q2),(0,6,q6)] ⟨pl2 hG n n,⟨pc6 hG,trivial⟩⟩)
 ·cases hc
end z4i
namespace z4h
structure Gs where
 z4k:z4k.Q
 z4i:z4i.Q
 z4h:z4h.Q
noncomputable def ae (G:Gs):List Ent:=[z4k.ent G.z4k,z4i.ent G.z4i,ent G.z4h]
noncomputable def b4 {R:Type} (G:Gs) (n:Nat) (h0:Int) (h02:ByteArray) (h03:Int) (h04 list:LT) (i:Int) (nx:LT->Int->Option R) (k0:LT->Option R):Option R:=
 bif decide (i<(List.length h04:Int))then
  (
  (ix h04 i).bind λe=>
  (G.z4h (Tm.mk e.op e.name e.sort e.args) list).bind λr=>
  nx r (wr (i+1))
  )
 else
  k0 list
noncomputable def l4 {R:Type} (G:Gs) (n m:Nat) (h0:Int) (h02:ByteArray) (h03:Int) (h04 list:LT) (i:Int) (k0:LT->Option R):Option R:=au (λ(v:LT×Int) nx=>b4 G n h0 h02 h03 h04 v.1 v.2 (λy0 y1=>nx (y0,y1)) k0) m (list,i)
noncomputable def main {R:Type} (G:Gs) (n:Nat) (t:Tm) (list:LT) (K:LT->Option R):Option R:=
 bif decide (t.op=(-1))then
  (
  (G.z4k t.name t.sort).bind λr=>
  (G.z4i list (Tm.mk r.op r.name r.sort r.args)).bind λr2=>
  K r2
  )
 else
  l4 G n n t.op t.name t.sort t.args list 0
   (λlist2=>K list2)
noncomputable def dl4 (G:Gs) (n m:Nat) (R:Type) (st:St) (K:Kt R):Option R:=match st with
 |⟨[(1,.one (.l (.n 1) list)),(2,.one (.p 0 0)),(5,.one (.i i))],[.box [.i h0,.s h02,.i h03,.l (.n 1) h04]]⟩=>l4 G n m h0 h02 h03 h04 list i (λlist2=>K (.exit 0) ⟨[(1,.one (.l (.n 1) list2))],[]⟩)
 |_=>none
noncomputable def pc (G:Gs) (n:Nat):Pcs:=⟨λR id st K=>bif Nat.beq id 4 then dl4 G n n R st K else none,nK,nK⟩
noncomputable def an:Ann:=⟨31,0,[(4,[1,2,5])],[],[4],[],[]⟩
noncomputable abbrev bd:=ai Tryz.f98
noncomputable abbrev q4:=am [1,1,0,1,0,0] bd
theorem pl4 {G:Gs} (hG:AE (ae G)) (n:Nat):∀m,PO an (.loop q4) (dl4 G n m):=lpc hG (pc G n) [1,2,5] ⟨[1],[4],[(0,[1])]⟩ (apl [] trivial) (λR st K=>by unfold dl4;split<;>rfl) λm R st K r h=>by unfold dl4 at h;split at h;exact .trans (by kernel_rfl) h;cases h
theorem ok {G:Gs} (hG:AE (ae G)) {g:Q} (hg:∀t list r,g t list=some r->∃n,main (R:=AT×List Ob) G n t list (λr0=>some (.one (.l (.n 1) r0),[]))=some (.one (.l (.n 1) r),[])):EO (ent g):=λR xs H K r hc=>by
 simp only[ent]at hc;split at hc
 ·exact okL hc λr j=>let⟨n,j⟩:=hg _ _ _ j;fF hG an (pc G n) Tryz.func98 j (apl [(1,4,.loop q4)] ⟨pl4 hG n n,trivial⟩)
 ·cases hc
end z4h
namespace z3u
structure Gs where
 z4h:z4h.Q
noncomputable def main {R:Type} (G:Gs) (n:Nat) (t:Tm) (K:LT->Option R):Option R:=
 (G.z4h (Tm.mk t.op t.name t.sort t.args) []).bind λr=>
 K r
theorem ok {G:Gs} (hG:AE [z4h.ent G.z4h]) {g:Q} (hg:∀t r,g t=some r->∃n,main (R:=AT×List Ob) G n t (λr0=>some (.one (.l (.n 1) r0),[]))=some (.one (.l (.n 1) r),[])):EO (ent g):=λR xs H K r hc=>by
 simp only[ent]at hc;split at hc
 ·exact okL hc λr j=>let⟨_,j⟩:=hg _ _ j;fF hG ⟨6,0,[],[],[2],[],[]⟩ nP Tryz.func57 j
 ·cases hc
end z3u
namespace z1n
structure Gs where
 z0a:z0a.Q
noncomputable def main {R:Type} (G:Gs) (n:Nat) (a b:Tm) (K:Bool->Option R):Option R:=
 (G.z0a (Tm.mk a.op a.name a.sort a.args) (Tm.mk b.op b.name b.sort b.args)).bind λr=>
 K (decide (r=0))
theorem ok {G:Gs} (hG:AE [z0a.ent G.z0a]) {g:Q} (hg:∀a b r,g a b=some r->∃n,main (R:=AT×List Ob) G n a b (λr0=>some (.one (.b r0),[]))=some (.one (.b r),[])):EO (ent g):=λR xs H K r hc=>by
 simp only[ent]at hc;split at hc
 ·exact okL hc λr j=>let⟨_,j⟩:=hg _ _ _ j;fF hG ⟨9,0,[],[],[4],[],[]⟩ nP Tryz.func77 j
 ·cases hc
end z1n
namespace z0u
structure Gs where
 z0u:z0u.Q
noncomputable def ae (G:Gs):List Ent:=[ent G.z0u]
noncomputable def d2 {R:Type} (G:Gs) (n:Nat) (h3:LT) (h4:Int) (h42:ByteArray) (h43:Int) (h44:LT) (k0:LT->Option R):Option R:=
 (lim (h3++[(Tm.mk 0 ByteArray.empty 0 [])])).bind λzs2=>
 (ix zs2 (List.length h3:Int)).bind λe2=>
 k0 (List.set zs2 (Int.toNat (List.length h3:Int)) (Tm.mk (-1) h42 h43 []))
noncomputable def EN {R:Type} (G:Gs) (n:Nat) (h3:LT) (h4:Int) (h42:ByteArray) (h43:Int) (h44:LT) (k0:LT->Option R):Option R:=
 (lim (h3++[(Tm.mk 0 ByteArray.empty 0 [])])).bind λzs=>
 (ix zs (List.length h3:Int)).bind λe=>
 k0 (List.set zs (Int.toNat (List.length h3:Int)) (Tm.mk (-1) h42 h43 []))
theorem e2_1 {R:Type} (G:Gs) (n:Nat) (h3:LT) (h4:Int) (h42:ByteArray) (h43:Int) (h44:LT) (k0:LT->Option R):EN G n h3 h4 h42 h43 h44 k0=d2 G n h3 h4 h42 h43 h44 k0:=by
 unfold EN d2;generalize lim (h3++[(Tm.mk 0 ByteArray.empty 0 [])])=o0;cases o0<;>first|rfl|simp
noncomputable def Fi {R:Type} (G:Gs) (n:Nat) (h3:LT) (h4:Int) (h42:ByteArray) (h43:Int) (h44:LT) (k0:LT->Option R):Option R:=
 (lim (h3++[(Tm.mk 0 ByteArray.empty 0 [])])).bind λzs=>
 (ix zs (List.length h3:Int)).bind λe=>
 k0 (List.set zs (Int.toNat (List.length h3:Int)) (Tm.mk (-1) h42 h43 []))
theorem e2_2 {R:Type} (G:Gs) (n:Nat) (h3:LT) (h4:Int) (h42:ByteArray) (h43:Int) (h44:LT) (k0:LT->Option R):Fi G n h3 h4 h42 h43 h44 k0=d2 G n h3 h4 h42 h43 h44 k0:=by
 unfold Fi d2;generalize lim (h3++[(Tm.mk 0 ByteArray.empty 0 [])])=o0;cases o0<;>first|rfl|simp
noncomputable def b4 {R:Type} (G:Gs) (n:Nat) (t20:LT) (t21 t22:Int) (h3:LT) (nx:Int->LT->Option R) (k0:LT->Option R):Option R:=
 bif decide (t22<t21)then
  (
  (ix t20 t22).bind λe=>
  (G.z0u (Tm.mk e.op e.name e.sort e.args) h3).bind λr=>
  nx (wr (t22+1)) r
  )
 else
  k0 h3
noncomputable def l4 {R:Type} (G:Gs) (n m:Nat) (t20:LT) (t21 t22:Int) (h3:LT) (k0:LT->Option R):Option R:=au (λ(v:Int×LT) nx=>b4 G n t20 t21 v.1 v.2 (λy0 y1=>nx (y0,y1)) k0) m (t22,h3)
noncomputable def main {R:Type} (G:Gs) (n:Nat) (t:Tm) (c0:LT) (K:LT->Option R):Option R:=
 bif decide (t.op=(-1))then
  (
  d2 G n c0 t.op t.name t.sort t.args
   (λh32=>K h32)
  )
 else
  l4 G n n t.args (List.length t.args:Int) 0 c0
   (λh322=>K h322)
noncomputable def dd2 (G:Gs) (n:Nat) (R:Type) (st:St) (K:Kt R):Option R:=match st with
 |⟨[(1,.one (.p 0 0)),(3,.one (.p 4 0))],[.box [.o 3],.gone,.box [.f 110 [.p 0 0,.p 2 0]],.row (.n 1) 0 h3,.box [.i h4,.s h42,.i h43,.l (.n 1) h44]]⟩=>d2 G n h3 h4 h42 h43 h44 (λh32=>K .normal ⟨[],[.box [.o 3],.gone,.box [.f 110 [.p 0 0,.p 2 0]],.row (.n 1) 0 h32]⟩)
 |_=>none
noncomputable def dl4 (G:Gs) (n m:Nat) (R:Type) (st:St) (K:Kt R):Option R:=match st with
 |⟨[(2,.one (.p 2 0)),(20,.one (.l (.n 1) t20)),(21,.one (.i t21)),(22,.one (.i t22))],[.box [.o 3],.gone,.box [.f 110 [.p 0 0,.p 2 0]],.row (.n 1) 0 h3]⟩=>l4 G n m t20 t21 t22 h3 (λh32=>K (.exit 0) ⟨[],[.box [.o 3],.gone,.box [.f 110 [.p 0 0,.p 2 0]],.row (.n 1) 0 h32]⟩)
 |_=>none
noncomputable def pc (G:Gs) (n:Nat):Pcs:=⟨λR id st K=>bif Nat.beq id 4 then dl4 G n n R st K else none,nK,λR id st K=>bif Nat.beq id 2 then dd2 G n R st K else none⟩
noncomputable def an:Ann:=⟨30,3,[(4,[2,20,21,22])],[],[],[(2,⟨[([0,1,2,3,4,5,6,7,8,9,10,11],[8,9,10,11],[0,6]),([0,1,2,3,4,5,6,7,8,9,11,10],[8,9,11,10],[0,6]),([0,1,2,3,4,5,6,7,8,11,9,10],[8,11,9,10],[0,6])],[8,9,10,11],[],[2,4],[1,3]⟩)],[]⟩
noncomputable abbrev bd:=ai Tryz.f110
noncomputable abbrev q2:=am [1,0,1,0,0] bd
noncomputable abbrev q4:=am [1,1,1,0,0] bd
theorem s2_0 (G:Gs) (n:Nat) (R:Type) (h3:LT) (h4:Int) (h42:ByteArray) (h43:Int) (h44:LT) (K:Kt R):(λS:St=>(λst1:St=>dJ tb (dI (ae G)) an.nt an.im (gC (q2)) (eM [2,4] st1.H) [0,1,2,3,4,5,6,7,8,9,10,11] [8,9,10,11] [0,6] [] [0,1,2,3,4,5,6,7,8,9,10,11] st1.L st1.H st1.H λL H=>jO an.refs ⟨[],[],[]⟩ K .normal ⟨L,H⟩) (bM (aZ (St.L S) (St.H S) []) S)=dd2 G n R S K) ⟨[(1,.one (.p 0 0)),(3,.one (.p 4 0))],[.box [.o 3],.gone,.box [.f 110 [.p 0 0,.p 2 0]],.row (.n 1) 0 h3,.box [.i h4,.s h42,.i h43,.l (.n 1) h44]]⟩:=by show _=_;kernel_rfl
theorem s2_1 (G:Gs) (n:Nat) (R:Type) (h3:LT) (h4:Int) (h42:ByteArray) (h43:Int) (h44:LT) (K:Kt R):(λst1:St=>dJ tb (dI (ae G)) an.nt an.im (gC (q2)) (eM [2,4] st1.H) [0,1,2,3,4,5,6,7,8,9,11,10] [8,9,11,10] [0,6] [] [0,1,2,3,4,5,6,7,8,9,11,10] st1.L st1.H st1.H λL H=>jO an.refs ⟨[],[],[]⟩ K .normal ⟨L,H⟩) (bM (aZ (St.L ⟨[(1,.one (.p 0 0)),(3,.one (.p 4 0))],[.box [.o 3],.gone,.box [.f 110 [.p 0 0,.p 2 0]],.row (.n 1) 0 h3,.box [.i h4,.s h42,.i h43,.l (.n 1) h44]]⟩) (St.H ⟨[(1,.one (.p 0 0)),(3,.one (.p 4 0))],[.box [.o 3],.gone,.box [.f 110 [.p 0 0,.p 2 0]],.row (.n 1) 0 h3,.box [.i h4,.s h42,.i h43,.l (.n 1) h44]]⟩) []) ⟨[(1,.one (.p 0 0)),(3,.one (.p 4 0))],[.box [.o 3],.gone,.box [.f 110 [.p 0 0,.p 2 0]],.row (.n 1) 0 h3,.box [.i h4,.s h42,.i h43,.l (.n 1) h44]]⟩)=EN G n h3 h4 h42 h43 h44 (λh32=>K .normal ⟨[],[.box [.o 3],.gone,.box [.f 110 [.p 0 0,.p 2 0]],.row (.n 1) 0 h32]⟩):=by kernel_rfl
theorem s2_2 (G:Gs) (n:Nat) (R:Type) (h3:LT) (h4:Int) (h42:ByteArray) (h43:Int) (h44:LT) (K:Kt R):(λst1:St=>dJ tb (dI (ae G)) an.nt an.im (gC (q2)) (eM [2,4] st1.H) [0,1,2,3,4,5,6,7,8,11,9,10] [8,11,9,10] [0,6] [] [0,1,2,3,4,5,6,7,8,11,9,10] st1.L st1.H st1.H λL H=>jO an.refs ⟨[],[],[]⟩ K .normal ⟨L,H⟩) (bM (aZ (St.L ⟨[(1,.one (.p 0 0)),(3,.one (.p 4 0))],[.box [.o 3],.gone,.box [.f 110 [.p 0 0,.p 2 0]],.row (.n 1) 0 h3,.box [.i h4,.s h42,.i h43,.l (.n 1) h44]]⟩) (St.H ⟨[(1,.one (.p 0 0)),(3,.one (.p 4 0))],[.box [.o 3],.gone,.box [.f 110 [.p 0 0,.p 2 0]],.row (.n 1) 0 h3,.box [.i h4,.s h42,.i h43,.l (.n 1) h44]]⟩) []) ⟨[(1,.one (.p 0 0)),(3,.one (.p 4 0))],[.box [.o 3],.gone,.box [.f 110 [.p 0 0,.p 2 0]],.row (.n 1) 0 h3,.box [.i h4,.s h42,.i h43,.l (.n 1) h44]]⟩)=Fi G n h3 h4 h42 h43 h44 (λh32=>K .normal ⟨[],[.box [.o 3],.gone,.box [.f 110 [.p 0 0,.p 2 0]],.row (.n 1) 0 h32]⟩):=by kernel_rfl
theorem pd2 {G:Gs} (hG:AE (ae G)) {n:Nat}:PO an (q2) (dd2 G n):=by
 have hc:q2= .region 2 (gC (q2)) true:=by kernel_rfl
 rw[hc];refine mJ mixed ot (j8 hG) (o:=⟨[],[],[]⟩) (d:=⟨[([0,1,2,3,4,5,6,7,8,9,10,11],[8,9,10,11],[0,6]),([0,1,2,3,4,5,6,7,8,9,11,10],[8,9,11,10],[0,6]),([0,1,2,3,4,5,6,7,8,11,9,10],[8,11,9,10],[0,6])],[8,9,10,11],[],[2,4],[1,3]⟩) (by kernel_rfl) (λp hp R st K r h=> ?_);have e:=h;unfold dd2 at e;split at e
 ·rename_i x0 x1 x2 x3 x4;simp only[List.mem_cons,List.not_mem_nil,or_false]at hp;rcases hp with rfl|rfl|rfl
  ·exact(s2_0 G n R x0 x1 x2 x3 x4 K).trans h
  ·exact((s2_1 G n R x0 x1 x2 x3 x4 K).trans (e2_1 G n  x0 x1 x2 x3 x4 _)).trans h
  ·exact((s2_2 G n R x0 x1 x2 x3 x4 K).trans (e2_2 G n  x0 x1 x2 x3 x4 _)).trans h
 ·cases e
theorem pl4 {G:Gs} (hG:AE (ae G)) (n:Nat):∀m,PO an (.loop q4) (dl4 G n m):=lpc hG (pc G n) [2,20,21,22] ⟨[],[],[(0,[])]⟩ (apl [] trivial) (λR st K=>by unfold dl4;split<;>rfl) λm R st K r h=>by unfold dl4 at h;split at h;exact .trans (by kernel_rfl) h;cases h
theorem ok {G:Gs} (hG:AE (ae G)) {g:Q} (hg:∀t c0 r,g t c0=some r->∃n,main (R:=AT×List Ob) G n t c0 (λr0=>some (.tup [],[.box [.o 3],.gone,.box [.f 110 [.p 0 0,.p 2 0]],.row (.n 1) 0 r0]))=some (.tup [],[.box [.o 3],.gone,.box [.f 110 [.p 0 0,.p 2 0]],.row (.n 1) 0 r])):EO (ent g):=λR xs H K r hc=>by
 simp only[ent]at hc;split at hc
 ·rename_i a a2 a3 a4 h;exact okL hc λr j=>let⟨n,j⟩:=hg _ _ _ j;rF hG an (pc G n) [1] (xs2:=[.agg [.i a,.s a2,.i a3,.l (.n 1) a4],.one (.p 0 0),.one (.p 2 0)]) (H2:=[.box [.o 3],.gone,.box [.f 110 [.p 0 0,.p 2 0]],.row (.n 1) 0 h]) Tryz.func110 j (apl [(2,2,q2),(1,4,.loop q4)] ⟨pd2 hG,⟨pl4 hG n n,trivial⟩⟩)
 ·cases hc
end z0u
namespace z0t
structure Gs where
 z0u:z0u.Q
 z16:z16.Q
noncomputable def main {R:Type} (G:Gs) (n:Nat) (t:Tm) (K:LT->Option R):Option R:=
 (G.z0u (Tm.mk t.op t.name t.sort t.args) []).bind λr=>
 (G.z16 r).bind λr2=>
 K r2
theorem ok {G:Gs} (hG:AE [z0u.ent G.z0u,z16.ent G.z16]) {g:Q} (hg:∀t r,g t=some r->∃n,main (R:=AT×List Ob) G n t (λr0=>some (.one (.l (.n 1) r0),[]))=some (.one (.l (.n 1) r),[])):EO (ent g):=λR xs H K r hc=>by
 simp only[ent]at hc;split at hc
 ·exact okL hc λr j=>let⟨_,j⟩:=hg _ _ j;fF hG ⟨12,0,[],[],[2],[],[]⟩ nP Tryz.func75 j
 ·cases hc
end z0t
open Classical
theorem z1o (k:Nat) (hk:k<=4294967296):EO (z1n.ent (bf k)):=z1n.ok (G:=⟨cv k⟩) ⟨z0b k hk,trivial⟩ λa b r h=>by
 unfold bf at h;split at h
 ·rename_i hs;cases h;refine⟨1,?_⟩;unfold z1n.main;rw[Tm.eta,Tm.eta];show Option.bind (cv k a b) _=_;unfold cv;rw[if_pos hs];rfl
 ·cases h
theorem mg {α R:Type} (xs:List α) (p:α->Bool) (B:Int->(Int->Option R)->Option R) (a b:Option R) (hend:∀nx,B (xs.length:Int) nx=b) (hstep:∀(i:Nat) x nx,xs[i]? =some x->B (i:Int) nx=bif p x then nx ((i+1:Nat):Int)else a):∀m (i:Nat),i<=xs.length->xs.length-i<m->au (λ(v:Int) nx=>B v (λy0=>nx y0)) m (i:Int)=bif (xs.drop i).all p then b else a:=
 jf xs.length B (λi=>bif (xs.drop i).all p then b else a) (λnx=>by rw[hend,aK];rfl) λi nx hi e=>by
  obtain⟨x,x1,_⟩:=aV hi;rw[hstep i x nx x1,e,aE x1,List.all_cons];cases p x<;>rfl
theorem all1 {α A R:Type} (xs:List α) (p:α->Bool) (c:A) (B:Int->A->(Int->A->Option R)->Option R) (a b:Option R) (hend:∀nx,B (xs.length:Int) c nx=b) (hstep:∀(i:Nat) x nx,xs[i]? =some x->B (i:Int) c nx=bif p x then nx ((i+1:Nat):Int) c else a):∀m (i:Nat),i<=xs.length->xs.length-i<m->au (λ(v:Int×A) nx=>B v.1 v.2 (λy0 y1=>nx (y0,y1))) m ((i:Int),c)=bif (xs.drop i).all p then b else a:=λm i h1 h2=>
 vX xs.length B (λ_ d=>d=c) (λi _=>bif (xs.drop i).all p then b else a) (λd nx hd=>by subst hd;rw[hend,aK];rfl) (λi d nx hi hd e=>by
  subst hd;obtain⟨x,x1,_⟩:=aV hi;rw[hstep i x nx x1,e d rfl,aE x1,List.all_cons];cases p x<;>rfl) m i c rfl h1 h2
theorem ES {α R:Type} (xs:List α) (p:α->Bool) (B:Int->(Int->Option R)->Option R) (a b:Option R) (hend:∀nx,B (xs.length:Int) nx=b) (hstep:∀(i:Nat) x nx,xs[i]? =some x->B (i:Int) nx=bif p x then a else nx ((i+1:Nat):Int)):∀m (i:Nat),i<=xs.length->xs.length-i<m->au (λ(v:Int) nx=>B v (λy0=>nx y0)) m (i:Int)=bif (xs.drop i).any p then a else b:=
 jf xs.length B (λi=>bif (xs.drop i).any p then a else b) (λnx=>by rw[hend,aK];rfl) λi nx hi e=>by
  obtain⟨x,x1,_⟩:=aV hi;rw[hstep i x nx x1,e,aE x1,List.any_cons];cases p x<;>rfl
end Go.Proofs.YtkinkfieackmdaaGreatDoor.Den

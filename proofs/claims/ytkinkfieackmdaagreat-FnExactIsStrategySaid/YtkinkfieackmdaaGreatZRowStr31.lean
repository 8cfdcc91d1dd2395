/-
  Texts that the claim rests on, merged: PV1, Dist, Vs2.
-/
import Derived.Test.YtkinkfieackmdaaGreatZRowStr13
import Derived.Test.YtkinkfieackmdaaGreatZRowStr24
import Derived.Test.YtkinkfieackmdaaGreatZRowStr30

namespace Go.Proofs.YtkinkfieackmdaaGreat.Den
open Go.RowKit
set_option maxRecDepth 100000
set_option linter.unusedVariables false
namespace z5k
structure Gs where
 z43:z43.Q
 z5l:z5l.Q
noncomputable def ents (G:Gs):List Ent:=[z43.ent G.z43,z5l.ent G.z5l]
noncomputable def b2 {R:Type} (G:Gs) (n:Nat) (list:LT) (h0:Int) (h02:ByteArray) (h03:Int) (h04:LT) (at1:Int) (nx k0:Int->Option R):Option R:=
 bif decide (at1<(List.length list:Int))then
  (
  Option.bind (ix list at1) λe2=>
  Option.bind (G.z43 (Tm.mk e2.op e2.name e2.sort e2.args) (Tm.mk h0 h02 h03 h04)) λr2=>
  bif decide (r2<0)then
   (nx (wr (at1+1)))
  else
   k0 at1
  )
 else
  k0 at1
noncomputable def l2 {R:Type} (G:Gs) (n m:Nat) (list:LT) (h0:Int) (h02:ByteArray) (h03:Int) (h04:LT) (at1:Int) (k0:Int->Option R):Option R:=iter (λ(v:Int) nx=>b2 G n list h0 h02 h03 h04 v (λy0=>nx y0) k0) m at1
noncomputable def c6 {R:Type} (G:Gs) (n:Nat) (list:LT) (at1 h0:Int) (h02:ByteArray) (h03:Int) (h04:LT) (k0:LT->Option R):Option R:=
 Option.bind (sub list 0 at1) λys2=>
 Option.bind (lim ([]++ys2)) λzs=>
 Option.bind (lim (zs++[(Tm.mk h0 h02 h03 h04)])) λzs2=>
 Option.bind (sub list at1 (List.length list:Int)) λys3=>
 Option.bind (lim (zs2++ys3)) λzs3=>
 k0 zs3
noncomputable def main {R:Type} (G:Gs) (n:Nat) (list:LT) (t:Tm) (K:LT->Option R):Option R:=
 l2 G n n list t.op t.name t.sort t.args 0
  (fun at12 =>
   bif decide (at12<(List.length list:Int))then
    (
    Option.bind (ix list at12) λe2=>
    Option.bind (G.z5l (Tm.mk e2.op e2.name e2.sort e2.args) (Tm.mk t.op t.name t.sort t.args)) λr2=>
    bif r2 then
     (K list)
    else
     c6 G n list at12 t.op t.name t.sort t.args
      (λh05=>K h05)
    )
   else
    c6 G n list at12 t.op t.name t.sort t.args
     (λh052=>K h052)
  )
noncomputable def dl2 (G:Gs) (n m:Nat) (R:Type) (st:St) (K:Kt R):Option R:=match st with
 |⟨[(0,.one (.l (.n 1) list)),(3,.one (.p 0 0)),(5,.one (.i at1))],[.box [.i h0,.s h02,.i h03,.l (.n 1) h04]]⟩=>l2 G n m list h0 h02 h03 h04 at1 (λat12=>K (.exit 0) ⟨[(0,.one (.l (.n 1) list)),(3,.one (.p 0 0)),(5,.one (.i at12))],[.box [.i h0,.s h02,.i h03,.l (.n 1) h04]]⟩)
 |_=>none
noncomputable def dc6 (G:Gs) (n:Nat) (R:Type) (st:St) (K:Kt R):Option R:=match st with
 |⟨[(0,.one (.l (.n 1) list)),(3,.one (.p 0 0)),(5,.one (.i at1))],[.box [.i h0,.s h02,.i h03,.l (.n 1) h04]]⟩=>c6 G n list at1 h0 h02 h03 h04 (λh05=>K .ret ⟨[(4,.one (.o 0))],[.row (.n 1) 0 h05]⟩)
 |_=>none
noncomputable def pc (G:Gs) (n:Nat):Pcs:=⟨λR id st K=>bif Nat.beq id 2 then dl2 G n n R st K else none,λR id st K=>bif Nat.beq id 6 then dc6 G n R st K else none,nK⟩
noncomputable def an:Ann:=⟨48,0,[(2,[0,3,5])],[(6,[0,3,5])],[4],[(2,⟨[([0,1,2,3,4,5,6,7,8,9,10,11,12],[],[])],[],[],[0],[]⟩),(4,⟨[([0,1,2,3,4,5,6,7,8,9,10,11],[],[])],[],[],[0],[]⟩),(6,⟨[([0,1,2,3,4,5,6,7,8],[0,4,7],[])],[0,4,7],[],[0],[]⟩)],[]⟩
noncomputable abbrev bd:=bodyOf Tryz.f144
noncomputable abbrev q2:=nthC [1,1,0,0,0] bd
noncomputable abbrev q6:=nthC [1,1,1,1] bd
theorem pl2 {G:Gs} (hG:AE (ents G)) (n:Nat):∀m,PO an (.loop q2) (dl2 G n m):=lpc hG (pc G n) [0,3,5] ⟨[0,3,5],[4],[(0,[0,3,5])]⟩ (apl [] trivial) (λR st K=>by unfold dl2;split<;>rfl) λm R st K r h=>by unfold dl2 at h;split at h;exact .trans (by kernel_rfl) h;cases h
theorem pc6 {G:Gs} (hG:AE (ents G)) {n:Nat}:PO an q6 (dc6 G n):=cpc hG (pc G n) ⟨[],[4],[]⟩ (apl [] trivial) λR st K r h=>by unfold dc6 at h;split at h;exact .trans (by kernel_rfl) h;cases h
theorem ok {G:Gs} (hG:AE (ents G)) {g:Q} (hg:∀list t r,g list t=some r->∃n,main (R:=AT×List Ob) G n list t (λr0=>some (.one (.l (.n 1) r0),[]))=some (.one (.l (.n 1) r),[])):EO (ent g):=λR xs H K r hc=>by
 simp only[ent]at hc
 split at hc
 ·obtain⟨r,j1,j2⟩:=bind_some hc
  obtain⟨n,j3⟩:=hg _ _ _ j1
  exact⟨_,_,j2,fnP hG an (pc G n) bd [.tmp 4] Tryz.func144 (.inl rfl) (apl [(1,2,.loop q2),(0,6,q6)] ⟨pl2 hG n n,⟨pc6 hG,trivial⟩⟩) (.trans (by kernel_rfl) j3)⟩
 ·cases hc
end z5k
namespace z5f
structure Gs where
 z5m:z5m.Q
 z5k:z5k.Q
 z5f:z5f.Q
noncomputable def ents (G:Gs):List Ent:=[z5m.ent G.z5m,z5k.ent G.z5k,ent G.z5f]
noncomputable def b4 {R:Type} (G:Gs) (n:Nat) (h0:Int) (h02:ByteArray) (h03:Int) (h04 list:LT) (i:Int) (nx:LT->Int->Option R) (k0:LT->Option R):Option R:=
 bif decide (i<(List.length h04:Int))then
  (
  Option.bind (ix h04 i) λe=>
  Option.bind (G.z5f (Tm.mk e.op e.name e.sort e.args) list) λr=>
  nx r (wr (i+1))
  )
 else
  k0 list
noncomputable def l4 {R:Type} (G:Gs) (n m:Nat) (h0:Int) (h02:ByteArray) (h03:Int) (h04 list:LT) (i:Int) (k0:LT->Option R):Option R:=iter (λ(v:LT×Int) nx=>b4 G n h0 h02 h03 h04 v.1 v.2 (λy0 y1=>nx (y0,y1)) k0) m (list,i)
noncomputable def main {R:Type} (G:Gs) (n:Nat) (t:Tm) (list:LT) (K:LT->Option R):Option R:=
 bif decide (t.op=(-1))then
  (
  Option.bind (G.z5m t.name t.sort) λr=>
  Option.bind (G.z5k list (Tm.mk r.op r.name r.sort r.args)) λr2=>
  K r2
  )
 else
  l4 G n n t.op t.name t.sort t.args list 0
   (λlist2=>K list2)
noncomputable def dl4 (G:Gs) (n m:Nat) (R:Type) (st:St) (K:Kt R):Option R:=match st with
 |⟨[(1,.one (.l (.n 1) list)),(2,.one (.p 0 0)),(5,.one (.i i))],[.box [.i h0,.s h02,.i h03,.l (.n 1) h04]]⟩=>l4 G n m h0 h02 h03 h04 list i (λlist2=>K (.exit 0) ⟨[(1,.one (.l (.n 1) list2))],[]⟩)
 |_=>none
noncomputable def pc (G:Gs) (n:Nat):Pcs:=⟨λR id st K=>bif Nat.beq id 4 then dl4 G n n R st K else none,nK,nK⟩
noncomputable def an:Ann:=⟨31,0,[(4,[1,2,5])],[],[4],[],[]⟩
noncomputable abbrev bd:=bodyOf Tryz.f103
noncomputable abbrev q4:=nthC [1,1,0,1,0,0] bd
theorem pl4 {G:Gs} (hG:AE (ents G)) (n:Nat):∀m,PO an (.loop q4) (dl4 G n m):=lpc hG (pc G n) [1,2,5] ⟨[1],[4],[(0,[1])]⟩ (apl [] trivial) (λR st K=>by unfold dl4;split<;>rfl) λm R st K r h=>by unfold dl4 at h;split at h;exact .trans (by kernel_rfl) h;cases h
theorem ok {G:Gs} (hG:AE (ents G)) {g:Q} (hg:∀t list r,g t list=some r->∃n,main (R:=AT×List Ob) G n t list (λr0=>some (.one (.l (.n 1) r0),[]))=some (.one (.l (.n 1) r),[])):EO (ent g):=λR xs H K r hc=>by
 simp only[ent]at hc
 split at hc
 ·obtain⟨r,j1,j2⟩:=bind_some hc
  obtain⟨n,j3⟩:=hg _ _ _ j1
  exact⟨_,_,j2,fnP hG an (pc G n) bd [.tmp 4] Tryz.func103 (.inl rfl) (apl [(1,4,.loop q4)] ⟨pl4 hG n n,trivial⟩) (.trans (by kernel_rfl) j3)⟩
 ·cases hc
end z5f
namespace z4t
structure Gs where
 z5f:z5f.Q
noncomputable def ents (G:Gs):List Ent:=[z5f.ent G.z5f]
noncomputable def main {R:Type} (G:Gs) (n:Nat) (t:Tm) (K:LT->Option R):Option R:=
 Option.bind (G.z5f (Tm.mk t.op t.name t.sort t.args) []) λr=>
 K r
noncomputable def pc (_:Gs) (_:Nat):Pcs:=⟨nK,nK,nK⟩
noncomputable def an:Ann:=⟨6,0,[],[],[2],[],[]⟩
noncomputable abbrev bd:=bodyOf Tryz.f61
theorem ok {G:Gs} (hG:AE (ents G)) {g:Q} (hg:∀t r,g t=some r->∃n,main (R:=AT×List Ob) G n t (λr0=>some (.one (.l (.n 1) r0),[]))=some (.one (.l (.n 1) r),[])):EO (ent g):=λR xs H K r hc=>by
 simp only[ent]at hc
 split at hc
 ·obtain⟨r,j1,j2⟩:=bind_some hc
  obtain⟨n,j3⟩:=hg _ _ j1
  exact⟨_,_,j2,fnP hG an (pc G n) bd [.tmp 2] Tryz.func61 (.inl rfl) (apl [] trivial) (.trans (by kernel_rfl) j3)⟩
 ·cases hc
end z4t
namespace z1m
structure Gs where
 z0a:z0a.Q
noncomputable def ents (G:Gs):List Ent:=[z0a.ent G.z0a]
noncomputable def main {R:Type} (G:Gs) (n:Nat) (a b:Tm) (K:Bool->Option R):Option R:=
 Option.bind (G.z0a (Tm.mk a.op a.name a.sort a.args) (Tm.mk b.op b.name b.sort b.args)) λr=>
 K (decide (r=0))
noncomputable def pc (_:Gs) (_:Nat):Pcs:=⟨nK,nK,nK⟩
noncomputable def an:Ann:=⟨9,0,[],[],[4],[],[]⟩
noncomputable abbrev bd:=bodyOf Tryz.f71
theorem ok {G:Gs} (hG:AE (ents G)) {g:Q} (hg:∀a b r,g a b=some r->∃n,main (R:=AT×List Ob) G n a b (λr0=>some (.one (.b r0),[]))=some (.one (.b r),[])):EO (ent g):=λR xs H K r hc=>by
 simp only[ent]at hc
 split at hc
 ·obtain⟨r,j1,j2⟩:=bind_some hc
  obtain⟨n,j3⟩:=hg _ _ _ j1
  exact⟨_,_,j2,fnP hG an (pc G n) bd [.tmp 4] Tryz.func71 (.inl rfl) (apl [] trivial) (.trans (by kernel_rfl) j3)⟩
 ·cases hc
end z1m
namespace z0s
structure Gs where
 z0s:z0s.Q
noncomputable def ents (G:Gs):List Ent:=[ent G.z0s]
noncomputable def d2 {R:Type} (G:Gs) (n:Nat) (h3:LT) (h4:Int) (h42:ByteArray) (h43:Int) (h44:LT) (k0:LT->Option R):Option R:=
 Option.bind (lim (h3++[(Tm.mk 0 ByteArray.empty 0 [])])) λzs2=>
 Option.bind (ix zs2 (List.length h3:Int)) λe2=>
 k0 (List.set zs2 (Int.toNat (List.length h3:Int)) (Tm.mk (-1) h42 h43 []))
noncomputable def d2_1 {R:Type} (G:Gs) (n:Nat) (h3:LT) (h4:Int) (h42:ByteArray) (h43:Int) (h44:LT) (k0:LT->Option R):Option R:=
 Option.bind (lim (h3++[(Tm.mk 0 ByteArray.empty 0 [])])) λzs=>
 Option.bind (ix zs (List.length h3:Int)) λe=>
 k0 (List.set zs (Int.toNat (List.length h3:Int)) (Tm.mk (-1) h42 h43 []))
theorem e2_1 {R:Type} (G:Gs) (n:Nat) (h3:LT) (h4:Int) (h42:ByteArray) (h43:Int) (h44:LT) (k0:LT->Option R):d2_1 G n h3 h4 h42 h43 h44 k0=d2 G n h3 h4 h42 h43 h44 k0:=by
 unfold d2_1 d2
 generalize lim (h3++[(Tm.mk 0 ByteArray.empty 0 [])])=o0
 cases o0<;>first|rfl|simp
noncomputable def d2_2 {R:Type} (G:Gs) (n:Nat) (h3:LT) (h4:Int) (h42:ByteArray) (h43:Int) (h44:LT) (k0:LT->Option R):Option R:=
 Option.bind (lim (h3++[(Tm.mk 0 ByteArray.empty 0 [])])) λzs=>
 Option.bind (ix zs (List.length h3:Int)) λe=>
 k0 (List.set zs (Int.toNat (List.length h3:Int)) (Tm.mk (-1) h42 h43 []))
theorem e2_2 {R:Type} (G:Gs) (n:Nat) (h3:LT) (h4:Int) (h42:ByteArray) (h43:Int) (h44:LT) (k0:LT->Option R):d2_2 G n h3 h4 h42 h43 h44 k0=d2 G n h3 h4 h42 h43 h44 k0:=by
 unfold d2_2 d2
 generalize lim (h3++[(Tm.mk 0 ByteArray.empty 0 [])])=o0
 cases o0<;>first|rfl|simp
noncomputable def b4 {R:Type} (G:Gs) (n:Nat) (t20:LT) (t21 t22:Int) (h3:LT) (nx:Int->LT->Option R) (k0:LT->Option R):Option R:=
 bif decide (t22<t21)then
  (
  Option.bind (ix t20 t22) λe=>
  Option.bind (G.z0s (Tm.mk e.op e.name e.sort e.args) h3) λr=>
  nx (wr (t22+1)) r
  )
 else
  k0 h3
noncomputable def l4 {R:Type} (G:Gs) (n m:Nat) (t20:LT) (t21 t22:Int) (h3:LT) (k0:LT->Option R):Option R:=iter (λ(v:Int×LT) nx=>b4 G n t20 t21 v.1 v.2 (λy0 y1=>nx (y0,y1)) k0) m (t22,h3)
noncomputable def main {R:Type} (G:Gs) (n:Nat) (t:Tm) (c0:LT) (K:LT->Option R):Option R:=
 bif decide (t.op=(-1))then
  (
  d2 G n c0 t.op t.name t.sort t.args
   (λh32=>K h32)
  )
 else
  l4 G n n t.args (List.length t.args:Int) 0 c0
   (λh322=>K h322)
noncomputable def dd2 (G:Gs) (n:Nat) (R:Type) (st:St) (K:Kt R):Option R:=match st with
 |⟨[(1,.one (.p 0 0)),(3,.one (.p 4 0))],[.box [.o 3],.gone,.box [.f 118 [.p 0 0,.p 2 0]],.row (.n 1) 0 h3,.box [.i h4,.s h42,.i h43,.l (.n 1) h44]]⟩=>d2 G n h3 h4 h42 h43 h44 (λh32=>K .normal ⟨[],[.box [.o 3],.gone,.box [.f 118 [.p 0 0,.p 2 0]],.row (.n 1) 0 h32]⟩)
 |_=>none
noncomputable def dl4 (G:Gs) (n m:Nat) (R:Type) (st:St) (K:Kt R):Option R:=match st with
 |⟨[(2,.one (.p 2 0)),(20,.one (.l (.n 1) t20)),(21,.one (.i t21)),(22,.one (.i t22))],[.box [.o 3],.gone,.box [.f 118 [.p 0 0,.p 2 0]],.row (.n 1) 0 h3]⟩=>l4 G n m t20 t21 t22 h3 (λh32=>K (.exit 0) ⟨[],[.box [.o 3],.gone,.box [.f 118 [.p 0 0,.p 2 0]],.row (.n 1) 0 h32]⟩)
 |_=>none
noncomputable def pc (G:Gs) (n:Nat):Pcs:=⟨λR id st K=>bif Nat.beq id 4 then dl4 G n n R st K else none,nK,λR id st K=>bif Nat.beq id 2 then dd2 G n R st K else none⟩
noncomputable def an:Ann:=⟨30,3,[(4,[2,20,21,22])],[],[],[(2,⟨[([0,1,2,3,4,5,6,7,8,9,10,11],[8,9,10,11],[0,6]),([0,1,2,3,4,5,6,7,8,9,11,10],[8,9,11,10],[0,6]),([0,1,2,3,4,5,6,7,8,11,9,10],[8,11,9,10],[0,6])],[8,9,10,11],[],[2,4],[1,3]⟩)],[]⟩
noncomputable abbrev bd:=bodyOf Tryz.f118
noncomputable abbrev q2:=nthC [1,0,1,0,0] bd
noncomputable abbrev q4:=nthC [1,1,1,0,0] bd
theorem s2_0 (G:Gs) (n:Nat) (R:Type) (h3:LT) (h4:Int) (h42:ByteArray) (h43:Int) (h44:LT) (K:Kt R):(λS:St=>(λst1:St=>drawD tb (orcOf (ents G)) an.nt an.im (opsOf (q2)) (maskH [2,4] st1.H) [0,1,2,3,4,5,6,7,8,9,10,11] [8,9,10,11] [0,6] [] [0,1,2,3,4,5,6,7,8,9,10,11] st1.L st1.H st1.H λL H=>outK an.refs ⟨[],[],[]⟩ K .normal ⟨L,H⟩) (fzIds (slotRows (St.L S) (St.H S) []) S)=dd2 G n R S K) ⟨[(1,.one (.p 0 0)),(3,.one (.p 4 0))],[.box [.o 3],.gone,.box [.f 118 [.p 0 0,.p 2 0]],.row (.n 1) 0 h3,.box [.i h4,.s h42,.i h43,.l (.n 1) h44]]⟩:=by show _=_;kernel_rfl
theorem s2_1 (G:Gs) (n:Nat) (R:Type) (h3:LT) (h4:Int) (h42:ByteArray) (h43:Int) (h44:LT) (K:Kt R):(λst1:St=>drawD tb (orcOf (ents G)) an.nt an.im (opsOf (q2)) (maskH [2,4] st1.H) [0,1,2,3,4,5,6,7,8,9,11,10] [8,9,11,10] [0,6] [] [0,1,2,3,4,5,6,7,8,9,11,10] st1.L st1.H st1.H λL H=>outK an.refs ⟨[],[],[]⟩ K .normal ⟨L,H⟩) (fzIds (slotRows (St.L ⟨[(1,.one (.p 0 0)),(3,.one (.p 4 0))],[.box [.o 3],.gone,.box [.f 118 [.p 0 0,.p 2 0]],.row (.n 1) 0 h3,.box [.i h4,.s h42,.i h43,.l (.n 1) h44]]⟩) (St.H ⟨[(1,.one (.p 0 0)),(3,.one (.p 4 0))],[.box [.o 3],.gone,.box [.f 118 [.p 0 0,.p 2 0]],.row (.n 1) 0 h3,.box [.i h4,.s h42,.i h43,.l (.n 1) h44]]⟩) []) ⟨[(1,.one (.p 0 0)),(3,.one (.p 4 0))],[.box [.o 3],.gone,.box [.f 118 [.p 0 0,.p 2 0]],.row (.n 1) 0 h3,.box [.i h4,.s h42,.i h43,.l (.n 1) h44]]⟩)=d2_1 G n h3 h4 h42 h43 h44 (λh32=>K .normal ⟨[],[.box [.o 3],.gone,.box [.f 118 [.p 0 0,.p 2 0]],.row (.n 1) 0 h32]⟩):=by kernel_rfl
theorem s2_2 (G:Gs) (n:Nat) (R:Type) (h3:LT) (h4:Int) (h42:ByteArray) (h43:Int) (h44:LT) (K:Kt R):(λst1:St=>drawD tb (orcOf (ents G)) an.nt an.im (opsOf (q2)) (maskH [2,4] st1.H) [0,1,2,3,4,5,6,7,8,11,9,10] [8,11,9,10] [0,6] [] [0,1,2,3,4,5,6,7,8,11,9,10] st1.L st1.H st1.H λL H=>outK an.refs ⟨[],[],[]⟩ K .normal ⟨L,H⟩) (fzIds (slotRows (St.L ⟨[(1,.one (.p 0 0)),(3,.one (.p 4 0))],[.box [.o 3],.gone,.box [.f 118 [.p 0 0,.p 2 0]],.row (.n 1) 0 h3,.box [.i h4,.s h42,.i h43,.l (.n 1) h44]]⟩) (St.H ⟨[(1,.one (.p 0 0)),(3,.one (.p 4 0))],[.box [.o 3],.gone,.box [.f 118 [.p 0 0,.p 2 0]],.row (.n 1) 0 h3,.box [.i h4,.s h42,.i h43,.l (.n 1) h44]]⟩) []) ⟨[(1,.one (.p 0 0)),(3,.one (.p 4 0))],[.box [.o 3],.gone,.box [.f 118 [.p 0 0,.p 2 0]],.row (.n 1) 0 h3,.box [.i h4,.s h42,.i h43,.l (.n 1) h44]]⟩)=d2_2 G n h3 h4 h42 h43 h44 (λh32=>K .normal ⟨[],[.box [.o 3],.gone,.box [.f 118 [.p 0 0,.p 2 0]],.row (.n 1) 0 h32]⟩):=by kernel_rfl
theorem pd2 {G:Gs} (hG:AE (ents G)) {n:Nat}:PO an (q2) (dd2 G n):=by
 have hc:q2= .region 2 (opsOf (q2)) true:=by kernel_rfl
 rw[hc]
 refine draw_piece mixed tb_ok (orc_ok hG) (o:=⟨[],[],[]⟩) (d:=⟨[([0,1,2,3,4,5,6,7,8,9,10,11],[8,9,10,11],[0,6]),([0,1,2,3,4,5,6,7,8,9,11,10],[8,9,11,10],[0,6]),([0,1,2,3,4,5,6,7,8,11,9,10],[8,11,9,10],[0,6])],[8,9,10,11],[],[2,4],[1,3]⟩) (by kernel_rfl) (λp hp R st K r h=> ?_)
 have e:=h
 unfold dd2 at e
 split at e
 ·rename_i x0 x1 x2 x3 x4;simp only[List.mem_cons,List.not_mem_nil,or_false]at hp
  rcases hp with rfl|rfl|rfl
  ·exact(s2_0 G n R x0 x1 x2 x3 x4 K).trans h
  ·exact((s2_1 G n R x0 x1 x2 x3 x4 K).trans (e2_1 G n  x0 x1 x2 x3 x4 _)).trans h
  ·exact((s2_2 G n R x0 x1 x2 x3 x4 K).trans (e2_2 G n  x0 x1 x2 x3 x4 _)).trans h
 ·cases e
theorem pl4 {G:Gs} (hG:AE (ents G)) (n:Nat):∀m,PO an (.loop q4) (dl4 G n m):=lpc hG (pc G n) [2,20,21,22] ⟨[],[],[(0,[])]⟩ (apl [] trivial) (λR st K=>by unfold dl4;split<;>rfl) λm R st K r h=>by unfold dl4 at h;split at h;exact .trans (by kernel_rfl) h;cases h
theorem ok {G:Gs} (hG:AE (ents G)) {g:Q} (hg:∀t c0 r,g t c0=some r->∃n,main (R:=AT×List Ob) G n t c0 (λr0=>some (.tup [],[.box [.o 3],.gone,.box [.f 118 [.p 0 0,.p 2 0]],.row (.n 1) 0 r0]))=some (.tup [],[.box [.o 3],.gone,.box [.f 118 [.p 0 0,.p 2 0]],.row (.n 1) 0 r])):EO (ent g):=λR xs H K r hc=>by
 simp only[ent]at hc
 split at hc
 ·rename_i a a2 a3 a4 h;obtain⟨r,j1,j2⟩:=bind_some hc
  obtain⟨n,j3⟩:=hg _ _ _ j1
  exact⟨_,_,j2,fnR hG an (pc G n) bd [] [1] (xs2:=[.agg [.i a,.s a2,.i a3,.l (.n 1) a4],.one (.p 0 0),.one (.p 2 0)]) (H2:=[.box [.o 3],.gone,.box [.f 118 [.p 0 0,.p 2 0]],.row (.n 1) 0 h]) Tryz.func118 (.inl rfl) (apl [(2,2,q2),(1,4,.loop q4)] ⟨pd2 hG,⟨pl4 hG n n,trivial⟩⟩) (.trans (by kernel_rfl) j3)⟩
 ·cases hc
end z0s
namespace z0r
structure Gs where
 z0s:z0s.Q
 z1d:z1d.Q
noncomputable def ents (G:Gs):List Ent:=[z0s.ent G.z0s,z1d.ent G.z1d]
noncomputable def main {R:Type} (G:Gs) (n:Nat) (t:Tm) (K:LT->Option R):Option R:=
 Option.bind (G.z0s (Tm.mk t.op t.name t.sort t.args) []) λr=>
 Option.bind (G.z1d r) λr2=>
 K r2
noncomputable def pc (_:Gs) (_:Nat):Pcs:=⟨nK,nK,nK⟩
noncomputable def an:Ann:=⟨12,0,[],[],[2],[],[]⟩
noncomputable abbrev bd:=bodyOf Tryz.f70
theorem ok {G:Gs} (hG:AE (ents G)) {g:Q} (hg:∀t r,g t=some r->∃n,main (R:=AT×List Ob) G n t (λr0=>some (.one (.l (.n 1) r0),[]))=some (.one (.l (.n 1) r),[])):EO (ent g):=λR xs H K r hc=>by
 simp only[ent]at hc
 split at hc
 ·obtain⟨r,j1,j2⟩:=bind_some hc
  obtain⟨n,j3⟩:=hg _ _ j1
  exact⟨_,_,j2,fnP hG an (pc G n) bd [.tmp 2] Tryz.func70 (.inl rfl) (apl [] trivial) (.trans (by kernel_rfl) j3)⟩
 ·cases hc
end z0r
end Go.Proofs.YtkinkfieackmdaaGreat.Den
namespace Go.Proofs.YtkinkfieackmdaaGreat.Abs
open Go.RowKit
theorem fn_of_take {P : Program} {f : FuncId} {h : Heap} {a len s : Nat} {es : List (List V)} {v : V} (hc : callable P f) (ha : h[a]? = some (some (.row s es)))
  (hh:∀(w:World) (I:Nat->Prop) (ι:List Inf) (cs:Array Value) (inf:Inf),HR ι I w h->(∀b,I b->b<w.heap.size)->ι[a]? =some inf->ARs ι I w [.one (.own a 0 len)] cs->Calls P f cs w λe w'=>∃u,e= .returned u/\Chg inf.block w w'/\VR (λb=>I b\/b=inf.block) w' [] v u):
  Fn P f [.one (.own a 0 len)] h (λr h'=>r= .one v/\h'=h.set a none):=
 ⟨hc, fun w I ι cs hH hI hA => by
  have hal:a<h.length:=(gI.1 ha).1
  obtain⟨inf,hi⟩:∃inf,ι[a]? =some inf:=⟨_,List.getElem?_eq_getElem (by rw[<-hH.len];exact hal)⟩
  have hblk:inf.block<w.heap.size:=by
   obtain⟨cur,t,e,_⟩:=hH.obj a _ inf ha hi
   exact lt_of_heap e
  have hoff:=hH.off a _ inf ha hi
  have old:∀{id:Nat} {o:Ob} {inf':Inf},(h.set a none)[id]? =some (some o)->ι[id]? =some inf'->id≠a/\h[id]? =some (some o)/\inf'.block≠inf.block:=λ{id o inf'} q1 q2=>by
   by_cases e:id=a
   ·subst e
    rw[sS hal]at q1
    cases q1
   ·rw[sN (λq=>e q.symm)]at q1
    exact⟨e,q1,λq=>e (hH.inj id a o _ inf' inf q1 ha q2 hi q)⟩
  have blk:∀{id:Nat} {o:Ob} {inf':Inf},h[id]? =some (some o)->ι[id]? =some inf'->inf'.block<w.heap.size:=λ{id o inf'} q1 q2=>by
   have ho:=hH.obj id o inf' q1 q2
   cases o with
   |row s es=>obtain⟨cur,t,e,_⟩:=ho;exact lt_of_heap e
   |map kvs=>obtain⟨cur,t,e,_⟩:=ho;exact lt_of_heap e
  refine(hh w I ι cs inf hH hI hi hA).mono λ_ w' ⟨u,e1,hb,hv⟩=> ?_
  have kI:Keeps I (λb=>I b\/b=inf.block) w w':=⟨λ_ q=>.inl q,λb o q=>by
   simp only[World.cell?]
   rw[hb.block b (hI b q) λe=>hoff (e▸q)]⟩
  exact⟨_,_,ι,λb=>I b\/b=inf.block,u,⟨rfl,rfl⟩,e1,
  { res := .one hv.up
    heap :=
      { len := by rw [List.length_set]; exact hH.len
        obj:=λid o inf' q1 q2=>by
          obtain⟨_,q3,q4⟩:=old q1 q2
          exact(hH.obj id o inf' q3 q2).keep (Grows.refl _) kI (hb.block _ (blk q3 q2) q4)
        off:=λid o inf' q1 q2 q=>by
          obtain⟨_,q3,q4⟩:=old q1 q2
          exact q.elim (hH.off id o inf' q3 q2) q4
        inj:=λid id' o o' inf1 inf2 q1 q2 q3 q4 e=>hH.inj id id' o o' inf1 inf2 (old q1 q3).2.1 (old q2 q4).2.1 q3 q4 e}
    imm:=λb q=>Nat.lt_of_lt_of_le (q.elim (hI b) λq=>q▸hblk) hb.size
    immlo:=λb q=>q.elim .inl λq=>.inr (.inl ⟨a,_,inf,ha,hi,q.symm⟩)
    pre:=Grows.refl _
    os:=hb.os
    tape:=hb.tape
    output:=hb.output
    grown:=hb.size
    frame:=λb hlt hn=>hb.block b hlt λe=>hn ⟨a,_,inf,ha,hi,e.symm⟩
    mine:=λid o inf' q1 q2=>.inl ⟨id,o,inf',(old q1 q2).2.1,q2,rfl⟩}⟩⟩
end Go.Proofs.YtkinkfieackmdaaGreat.Abs
namespace Go.Proofs.YtkinkfieackmdaaGreat.Den
open Go.RowKit
open Abs (V AV VR AR Inf OR HR)
def leafV (x:Tm):List V:=[.lit (.int .i64 x.op),.lit (.string x.name),.lit (.int .i64 x.sort),.imm 4 []]
theorem leaf_fr {l:List Tm} (h:∀x∈l,x.args=[]):FR (.l (.n 1) l) (.imm 4 (l.map leafV)):=by
 refine .l (T:=.n 1) (by decide) (List.length_map leafV) (λe he=>by obtain⟨x,_,rfl⟩:=List.mem_map.1 he;rfl) λm h1 h2 j h3 h4=> ?_
 have hm:l[m]∈l:=gM h1
 have e:(l.map leafV)[m]=leafV l[m]:=List.getElem_map leafV
 simp only[e]
 have hj:j<4:=h3
 have ha:=h _ hm
 match j,hj with
 |0,_=>exact .i
 |1,_=>exact .s
 |2,_=>exact .i
 | 3, _ =>
  show FR (.l (.n 1) (Tm.args l[m])) (.imm 4 [])
  rw[ha]
  exact FR.nil_ (T:=.n 1) (by decide)
def Lf.ok (x:Lf):Prop:=Abs.okLit (.int .i64 x.op)/\Abs.okLit (.string x.name)/\Abs.okLit (.int .i64 x.sort)/\x.c<=9223372036854775807
theorem list_of {α:Type} {P:Nat->α->Prop}:∀(n:Nat),(∀k,k<n->∃x,P k x)->∃l:List α,l.length=n/\∀k x,l[k]? =some x->P k x
 |0,_=>⟨[],rfl,λk x h=>by simp at h⟩
 | n + 1, h => by
  obtain⟨l,l1,l2⟩:=list_of n λk hk=>h k (by omega)
  obtain⟨x,hx⟩:=h n (by omega)
  refine⟨l++[x],by simp[l1],λk y hy=> ?_⟩
  rcases Nat.lt_or_ge k n with hk|hk
  ·rw[aL (by omega)]at hy
   exact l2 k y hy
  ·have:k=n:=by
    have:=(gI.1 hy).1
    simp at this
    omega
   subst this
   rw[aR (by omega),l1]at hy
   simp at hy
   exact hy▸hx
theorem leaf_row {I:Nat->Prop} {w:World} {ι:List Inf} {inf:Inf} {h:List Tm} {es:List (List V)} (hv:∀x∈h,x.args=[]) (hf:FR (.l (.n 1) h) (.imm 4 es)) (ho:OR ι I w inf (.row 4 es)):
  ∃(d:List Lf) (t:TypeId) (n:Nat),d.map Lf.tm=h/\Rw w inf.block t n inf.base d/\∀x∈d,Lf.ok x:=by
 obtain⟨cur,t,h1,_,h3,_,h5,_,h7⟩:=ho
 cases hf with
 | l _ hl hs hr =>
  have hl:es.length=List.length (α:=Tm) h:=hl
  obtain⟨d,d1,d2⟩:=list_of (P:=λk (x:Lf)=>At4 w inf.block (inf.base+k*4) x/\h[k]? =some x.tm/\Lf.ok x) h.length λk hk=>by
   have hke:k<es.length:=by omega
   have hlen:es[k].length=4:=hs _ (gM hke)
   have cell:=λ(j:Nat) (hj:j<4)=>h7 k hke j (by omega)
   have fr:=λ(j:Nat) (hj:j<4)=>hr k hk hke j hj (by omega)
   obtain⟨u0,c0,v0⟩:=cell 0 (by omega)
   obtain⟨u1,c1,v1⟩:=cell 1 (by omega)
   obtain⟨u2,c2,v2⟩:=cell 2 (by omega)
   obtain⟨u3,c3,v3⟩:=cell 3 (by omega)
   have f0:FR (.i (Tm.op h[k])) es[k][0]:=fr 0 (by omega)
   have f1:FR (.s (Tm.name h[k])) es[k][1]:=fr 1 (by omega)
   have f2:FR (.i (Tm.sort h[k])) es[k][2]:=fr 2 (by omega)
   have f3:FR (.l (.n 1) (Tm.args h[k])) es[k][3]:=fr 3 (by omega)
   rw[hv _ (gM hk)]at f3
   generalize es[k][0]=e0 at v0 f0
   generalize es[k][1]=e1 at v1 f1
   generalize es[k][2]=e2 at v2 f2
   generalize es[k][3]=e3 at v3 f3
   cases f0
   cases f1
   cases f2
   cases v0 with
   |lit o0=>
   cases v1 with
   |lit o1=>
   cases v2 with
   |lit o2=>
   obtain⟨A,c,rfl,hc⟩:∃A c,u3= .slice A 0 c/\c<=9223372036854775807:=by
    cases f3 with
    | @l _ _ es3 _ hl3 _ _=>
     have:es3=[]:=nZ hl3
     subst this
     cases v3 with
     |imm0 hc=>exact⟨_,_,rfl,hc⟩
     |imm hs hc hm hI hcell hr=>exact⟨_,_,rfl,hm⟩
   refine⟨⟨Tm.op h[k],Tm.name h[k],Tm.sort h[k],A,c⟩,⟨?_,?_,?_,?_⟩,?_,o0,o1,o2,hc⟩
   ·rw[cell_of h1];exact c0
   ·rw[cell_of h1,Nat.add_assoc];exact c1
   ·rw[cell_of h1,Nat.add_assoc];exact c2
   ·rw[cell_of h1,Nat.add_assoc];exact c3
   ·rw[List.getElem?_eq_getElem hk]
    have ha:=hv _ (gM hk)
    generalize h[k]=z at ha ⊢
    obtain⟨o,n,s,ar⟩:=z
    have ha:ar=[]:=ha
    subst ha
    rfl
  refine⟨d,t,cur.size,?_,⟨⟨cur,h1,rfl⟩,by rw[h3,d1,<-hl];omega,λk x hx=>(d2 k x hx).1⟩,λx hx=> ?_⟩
  ·refine List.ext_getElem? λk=> ?_
   rw[List.getElem?_map]
   cases hk:d[k]? with
   | none =>
    have:=List.getElem?_eq_none_iff.1 hk
    rw[List.getElem?_eq_none (by omega)];rfl
   |some x=>exact(d2 k x hk).2.1.symm
  ·obtain⟨k,hk,rfl⟩:=List.getElem_of_mem hx
   exact(d2 k _ (List.getElem?_eq_getElem hk)).2.2
theorem leaf_vr {I:Nat->Prop} {w:World} {b off n cap:Nat} {t:TypeId} {d:List Lf} (hr:Rw w b t n off d) (hok:∀x∈d,Lf.ok x) (hI:I b) (hc:d.length<=cap) (hm:cap<=9223372036854775807):VR I w [] (.imm 4 ((d.map Lf.tm).map leafV)) (.slice (some ⟨b,off,none⟩) d.length cap):=by
 have el:((d.map Lf.tm).map leafV).length=d.length:=by simp
 have key:=VR.imm (I:=I) (w:=w) (ι:=[]) (s:=4) (b:=b) (off:=off) (c:=cap) (es:=(d.map Lf.tm).map leafV) (f:=λk j=>((d[k]?).getD default).enc.getD j undef) (λe he=>by obtain⟨x,_,rfl⟩:=List.mem_map.1 he;rfl) (by rw[el];exact hc) hm hI (λk j hk hj=>by
  have hk':k<d.length:=by omega
  have hx:d[k]? =some d[k]:=List.getElem?_eq_getElem hk'
  obtain⟨c0,c1,c2,c3⟩:=hr.at_ k _ hx
  rw[hx,<-Nat.add_assoc]
  match j,hj with
  |0,_=>exact c0
  |1,_=>exact c1
  |2,_=>exact c2
  |3,_=>exact c3) (λk hk j hj=>by
  have hk':k<d.length:=by omega
  have hx:d[k]? =some d[k]:=List.getElem?_eq_getElem hk'
  obtain⟨o0,o1,o2,o3⟩:=hok _ (gM hk')
  have e:((d.map Lf.tm).map leafV)[k]=leafV (d[k]).tm:=by simp
  simp only[e,hx]
  have hj':j<(leafV (d[k]).tm).length:=by rw[<-e];exact hj
  have hj':j<4:=hj'
  match j,hj' with
  |0,_=>exact .lit o0
  |1,_=>exact .lit o1
  |2,_=>exact .lit o2
  |3,_=>exact .imm0 o3)
 rw[el]at key
 exact key
theorem hpR_gone {a:Option Nat} {hp:Abs.Heap} (ha:∀i,a=some i->i<hp.length):HpR [a] [Ob.gone] hp where
 len:=rfl
 row:=λid n T xs q=>by
  match id,q with
  |0,q=>simp at q
  |id+1,q=>simp at q
 box:=λid cs q=>by
  match id,q with
  |0,q=>simp at q
  |id+1,q=>simp at q
 map:=λid T kvs q=>by
  match id,q with
  |0,q=>simp at q
  |id+1,q=>simp at q
 inj:=λi j b _ _ l1 _=>by
  obtain⟨x,z1,z2⟩:=l1
  match i,z1 with
  |0,z1=>simp at z1;subst z1;simp at z2
  |i+1,z1=>simp at z1
 lt:=λi b q=>by
  match i,q with
  |0,q=>simp at q;exact ha b q
  |i+1,q=>simp at q
theorem fr_gone {a:Option Nat} {x:Ob} {hp hp':Abs.Heap} (hl:hp'.length=hp.length) (hs:∀i,i<hp.length->a≠some i->hp'[i]? =hp[i]?) (hx:x.dead=false):Fr ⟨hp,[a],[x]⟩ [a] [Ob.gone] hp' where
 len:=by show hp.length<=hp'.length;omega
 old:=λid b _ z2 _=>by
  obtain⟨x,x1,x2⟩:=z2
  match id,x1 with
  |0,x1=>simp at x1;subst x1;simp at x2
  |id+1,x1=>simp at x1
 same:=λb hb z=>hs b hb λe=>z 0 (by subst e;rfl) ⟨x,rfl,hx⟩
 rho:=λ_ _ q=>q
 ob:=λid y q=>by
  match id,q with
  |0,q=>exact⟨.gone,rfl,.inl rfl⟩
  |id+1,q=>simp at q
theorem distinct_cfn (h:List Tm) (hv:∀x∈h,x.args=[]) (hl:h.length<4611686018427387904):CFn Tryz.prog 119 [.one (.o 0)] [.row (.n 1) 0 h] (.one (.l (.n 1) (setT h))) [.gone]:=λρ hp avs hH hA=>by
 have hcal:Abs.callable Tryz.prog 119:=⟨Tryz.f119,Tryz.func119,by kernel_rfl,by kernel_rfl⟩
 have hvs:∀x∈setT h,x.args=[]:=λx hx=>hv x (mem_setT.1 hx)
 obtain⟨hA1,hA2⟩:=hA
 match avs,hA1 with
 | [x0], _ =>
  have k0:=hA2 0 (by simp) (by simp)
  simp only[List.getElem_cons_zero]at k0
  obtain⟨v0,rfl,w0⟩:=k0.one'
  have H0:([Ob.row (.n 1) 0 h]:List Ob)[0]? =some (.row (.n 1) 0 h):=rfl
  obtain⟨y0,rfl⟩:∃y0,ρ=[y0]:=by
   have:=hH.len
   match ρ,this with
   |[y0],_=>exact⟨y0,rfl⟩
  rcases w0.own H0 with⟨a,rfl,p0⟩|⟨rfl,p0⟩
  ·obtain⟨es,r0,f0⟩:=hH.at_ p0 H0
   have hla:a<hp.length:=hH.lt _ _ p0
   simp at p0
   subst p0
   refine(Abs.fn_of_take (v:=.imm 4 ((setT h).map leafV)) hcal r0 λw I ι cs inf hR hI hi hAr=> ?_).mono λr h' ⟨q1,q2⟩=>by
    subst q1 q2
    exact⟨[some a],.one (.fl (leaf_fr hvs)),hpR_gone λi e=>by cases e;simpa using hla,fr_gone (by simp) (λi _ hne=>sN λe=>hne (by rw[e])) rfl⟩
   obtain⟨hc1,hc2⟩:=hAr
   obtain⟨c0,d0,e0⟩:=hc2 0 (by simp)
   obtain rfl:cs= #[c0]:=by
    rcases cs with⟨l⟩
    match l,hc1 with
    | [x], _ =>
     simp at d0
     subst d0
     rfl
   simp only[List.getElem_cons_zero]at e0
   cases e0 with
   |one e0=>
   by_cases h0:h=[]
   ·subst h0
    have hs:∃A c,c0= .slice A 0 c/\c<=9223372036854775807:=by
     cases e0 with
     |own _ _ _ hm=>exact⟨_,_,rfl,hm⟩
     |own0 _ _=>exact⟨_,_,rfl,by omega⟩
    obtain⟨A,c,rfl,hm⟩:=hs
    exact(distinct_none A c w).mono λe w' ⟨e1,e2⟩=>⟨_,e1,by subst e2;exact Chg.refl _ _,.imm0 hm⟩
   ·have hn:0<h.length:=List.length_pos_iff.2 h0
    obtain⟨d,t,n,hd,hrw,hok⟩:=leaf_row hv f0 (hR.obj a _ inf r0 hi)
    have hdl:d.length=h.length:=by rw[<-hd];simp
    have hs:∃c,c0= .slice (some ⟨inf.block,inf.base,none⟩) h.length c/\h.length<=c/\c<=9223372036854775807:=by
     obtain⟨m,hm⟩:∃m,m=List.length (α:=Den.I (Ty.n 1)) h:=⟨_,rfl⟩
     have hm':m=h.length:=hm
     rw[<-hm]at e0
     rw[<-hm']
     cases e0 with
     | @own _ _ _ _ c inf' hi' hl' _ hm2=>
      rw[hi]at hi'
      cases hi'
      exact⟨c,by rw[Nat.zero_mul,Nat.add_zero],hl',hm2⟩
     |own0 _ _=>omega
    obtain⟨c,rfl,hc,hm⟩:=hs
    rw[<-hdl]at hc ⊢
    refine(distinct_run d w hrw hc (by omega)).mono λe w' ⟨d',e1,e2,e3,e4,e5⟩=>⟨_,e1,e5,?_⟩
    rw[<-hd,<-e2]
    have hle:d'.length<=d.length:=by
     have:=congrArg List.length e2
     rw[List.length_map]at this
     have:=setT_len (d.map Lf.tm)
     rw[List.length_map]at this
     omega
    exact leaf_vr e4 (λx hx=>hok x (e3 x hx)) (.inr rfl) (by omega) hm
  ·have h0:h=[]:=by
    rcases hH.row 0 _ _ _ H0 with⟨a',es,h7,_⟩|⟨_,h7,_⟩
    ·rw[p0]at h7;cases h7
    ·exact h7
   subst h0
   simp at p0
   subst p0
   refine(show Abs.Fn Tryz.prog 119 [.one (.lit (.slice none 0 0))] hp (λr h'=>r= .one (.imm 4 [])/\h'=hp)from⟨hcal,λw I ι cs hR hI hAr=> ?_⟩).mono λr h' ⟨q1,q2⟩=>by
    subst q1 q2
    exact⟨[none],.one (.fl (leaf_fr hvs)),hpR_gone (λi e=>by cases e),fr_gone rfl (λ_ _ _=>rfl) rfl⟩
   obtain⟨hc1,hc2⟩:=hAr
   obtain⟨c0,d0,e0⟩:=hc2 0 (by simp)
   obtain rfl:cs= #[c0]:=by
    rcases cs with⟨l⟩
    match l,hc1 with
    | [x], _ =>
     simp at d0
     subst d0
     rfl
   simp only[List.getElem_cons_zero]at e0
   cases e0 with
   |one e0=>
   cases e0 with
   |lit _=>
   exact(distinct_none none 0 w).mono λe w' ⟨e1,e2⟩=>⟨_,_,ι,I,_,⟨rfl,rfl⟩,e1,by
    subst e2
    exact
    { res := .one (.imm0 (by omega))
      heap:=hR
      imm:=hI
      immlo:=λ_ q=>.inl q
      pre:=Abs.Grows.refl _
      os:=rfl
      tape:=rfl
      output:=rfl
      grown:=Nat.le_refl _
      frame:=λ_ _ _=>rfl
      mine:=λid o inf q1 q2=>.inl ⟨id,o,inf,q1,q2,rfl⟩}⟩
noncomputable def gDis:List Tm->Option (List Tm):=λl=>open Classical in if (∀x∈l,x.args=[])/\l.length<4294967296 then some (setT l)else none
theorem distinct_ok :EO (z1d.ent gDis):=λR xs H K r hc=>by
 simp only[z1d.ent]at hc
 split at hc
 ·obtain⟨r,q1,q2⟩:=bind_some hc
  unfold gDis at q1
  split at q1
  ·rename_i hl
   cases q1
   exact⟨_,_,q2,distinct_cfn _ hl.1 (by omega)⟩
  ·cases q1
 ·cases hc
end Go.Proofs.YtkinkfieackmdaaGreat.Den
namespace Go.Proofs.YtkinkfieackmdaaGreat.Den
open Go.RowKit
open Classical
def upU (t:Tm):List Tm->Nat
 |[]=>0
 |y::ys=>if cmpT y t<0 then upU t ys+1 else 0
theorem upU_le (t:Tm):∀l:List Tm,upU t l<=l.length
 |[]=>Nat.le_refl _
 | y :: ys => by
  have:=upU_le t ys
  unfold upU
  split<;>simp only[List.length_cons]<;>omega
theorem insU_up (t:Tm):∀l:List Tm,insU l t=match l[upU t l]? with
  |some y=>if cmpT y t=0 then l else l.take (upU t l)++[t]++l.drop (upU t l)
  |none=>l.take (upU t l)++[t]++l.drop (upU t l)
 |[]=>rfl
 | y :: ys => by
  unfold insU upU
  by_cases h:cmpT y t<0
  ·rw[if_pos h,if_pos h,insU_up t ys,List.getElem?_cons_succ]
   cases ys[upU t ys]? with
   |none=>rfl
   | some z =>
    simp only
    split<;>rfl
  ·rw[if_neg h,if_neg h]
   rfl
abbrev GU :z5k.Gs:={z43:=gCmp 4294967296,z5l:=gSame 4294967296}
theorem up_loop {R:Type} (n:Nat) (l:List Tm) (t:Tm) (hl:∀y∈l,y.total<4294967296) (hn:l.length<4294967296) (k0:Int->Option R):∀m (i:Nat),i<=l.length->l.length-i<m->
  z5k.l2 GU n m l t.op t.name t.sort t.args (i:Int) k0=k0 ((i+upU t (l.drop i):Nat):Int):=by
 intro m
 induction m with
 |zero=>intro i _ hm;omega
 | succ m ih =>
  intro i h1 hm
  show z5k.b2 GU n l t.op t.name t.sort t.args (i:Int) (λy0=>z5k.l2 GU n m l t.op t.name t.sort t.args y0 k0) k0=_
  unfold z5k.b2
  by_cases hi:i<l.length
  ·obtain⟨x,x1,x2⟩:=get_lt hi
   rw[lt_nat hi,cT,ix_get x1,bS,Tm.eta,Tm.eta]
   show Option.bind (gCmp 4294967296 x t) _=_
   unfold gCmp
   rw[if_pos (hl x x2),bS,drop_get x1]
   unfold upU
   by_cases hc:cmpT x t<0
   ·rw[dT hc,cT,if_pos hc,wr_one (by omega)]
    simp only[]
    rw[ih (i+1) hi (by omega)]
    congr 1
    omega
   ·rw[dF hc,cF,if_neg hc];rfl
  ·obtain rfl:i=l.length:=by omega
   rw[nlt_nat hi,cF,drop_nat];rfl
theorem up_c6 {R:Type} (n:Nat) (l:List Tm) (t:Tm) (hn:l.length<1073741824) {p:Nat} (hp:p<=l.length) (k0:List Tm->Option R):z5k.c6 GU n l (p:Int) t.op t.name t.sort t.args k0=k0 (l.take p++[t]++l.drop p):=by
 unfold z5k.c6
 rw[sub_eq (by omega) (by omega) (by omega),bS,lim_le (by simp;omega),bS,lim_le (by simp;omega),bS,sub_eq (by omega) (by omega) (by omega),bS,lim_le (by simp;omega),bS,Tm.eta]
 simp
noncomputable def gIU:List Tm->Tm->Option (List Tm):=λl t=>if (∀y∈l,y.total<4294967296)/\l.length<1073741824 then some (insU l t)else none
theorem l5Insert_ok :EO (z5k.ent gIU):=z5k.ok (G:=GU) ⟨z44 _ (Nat.le_refl _),l5Same_ok _ (Nat.le_refl _),trivial⟩ λl t r h=>by
 unfold gIU at h
 split at h
 ·rename_i hs
  cases h
  obtain⟨hl,hn⟩:=hs
  refine⟨List.length (α:=Tm) l+1,?_⟩
  unfold z5k.main
  have e:=up_loop (R:=AT×List Ob) (List.length (α:=Tm) l+1) l t hl (by omega)
  refine(e _ (List.length (α:=Tm) l+1) 0 (by omega) (by omega)).trans ?_
  rw[List.drop_zero,Nat.zero_add,insU_up]
  have hle:=upU_le t l
  have c6:=λk0=>up_c6 (R:=AT×List Ob) (List.length (α:=Tm) l+1) l t hn hle k0
  by_cases hi:upU t l<List.length (α:=Tm) l
  ·obtain⟨x,x1,x2⟩:=get_lt (xs:=l) hi
   rw[lt_nat hi,cT,ix_get x1,bS,Tm.eta,Tm.eta,x1]
   show Option.bind (gSame 4294967296 x t) _=_
   unfold gSame
   rw[if_pos (hl x x2),bS]
   simp only
   by_cases hc:cmpT x t=0
   ·rw[dT hc,cT,if_pos hc]
   ·rw[dF hc,cF,if_neg hc]
    exact c6 _
  ·rw[nlt_nat hi,cF,List.getElem?_eq_none (by omega)]
   exact c6 _
 ·cases h
theorem foldU_mem {xs l:List Tm} {x:Tm} (h:x∈xs.foldl insU l):x∈l\/x∈xs:=by
 induction xs generalizing l with
 |nil=>exact .inl h
 | cons y ys ih =>
  rcases ih h with h|h
  ·rcases mem_insU.1 h with rfl|h
   ·exact .inr (by simp)
   ·exact .inl h
  ·exact .inr (by simp[h])
theorem foldU_len :∀(ys l:List Tm),(ys.foldl insU l).length<=l.length+ys.length
 |[],_=>Nat.le_refl _
 | y :: ys, l => by
  have:=foldU_len ys (insU l y)
  have:=insU_len (t:=y) l
  rw[List.foldl_cons,List.length_cons]
  omega
noncomputable def gCol (k:Nat):Tm->List Tm->Option (List Tm):=λt l=>if t.total<k/\(∀y∈l,y.total<4294967296)/\l.length+tsz t<1073741824 then some ((oc t).foldl insU l)else none
abbrev gVar5 :ByteArray->Int->Option Tm:=λn s=>some (Tm.mk (-1) n s [])
theorem l5VarV_ok :EO (z5m.ent gVar5):=z5m.ok (G:=⟨()⟩) trivial λn s r h=>⟨1,by cases h;rfl⟩
theorem wS_drop {f:Tm->Nat} {xs:List Tm} {i:Nat} {x:Tm} (h:xs[i]? =some x):wS f (xs.drop i)=f x+wS f (xs.drop (i+1)):=by rw[drop_get h,wS_cons]
theorem oc_len' (t:Tm):(oc t).length<=tsz t:=oc_len _ t (Nat.lt_succ_self _)
theorem oc_var' {t x:Tm} (h:x∈oc t):x.op= -1/\x.args=[]/\x.total<=t.total:=oc_var _ t (Nat.lt_succ_self _) x h
theorem col_loop {R:Type} (n k:Nat) (hk:k<=4294967295) (h0 h03:Int) (h02:ByteArray) (xs:List Tm) (hx:∀x∈xs,x.total<k) (hl:xs.length<4294967296) (k0:List Tm->Option R):∀m (i:Nat) (l:List Tm),(∀y∈l,y.total<4294967296)->l.length+wS tsz (xs.drop i)<1073741824->i<=xs.length->xs.length-i<m->
  z5f.l4 ⟨gVar5,gIU,gCol k⟩ n m h0 h02 h03 xs l (i:Int) k0=k0 (((xs.drop i).flatMap oc).foldl insU l):=by
 intro m
 induction m with
 |zero=>intro i l _ _ _ hm;omega
 | succ m ih =>
  intro i l hy hw h1 hm
  show z5f.b4 ⟨gVar5,gIU,gCol k⟩ n h0 h02 h03 xs l (i:Int) (λy0 y1=>z5f.l4 ⟨gVar5,gIU,gCol k⟩ n m h0 h02 h03 xs y0 y1 k0) k0=_
  unfold z5f.b4
  by_cases hi:i<xs.length
  ·obtain⟨x,x1,x2⟩:=get_lt hi
   rw[wS_drop x1]at hw
   rw[lt_nat hi,cT,ix_get x1,bS,Tm.eta]
   show Option.bind (gCol k x l) _=_
   have e:gCol k x l=some ((oc x).foldl insU l):=if_pos ⟨hx x x2,hy,by omega⟩
   rw[e,bS,wr_one (by omega)]
   simp only[]
   have:=foldU_len (oc x) l
   have:=oc_len' x
   rw[ih (i+1) _ (λy hm=> ?_) (by omega) hi (by omega),drop_get x1,List.flatMap_cons,List.foldl_append]
   rcases foldU_mem hm with hm|hm
   ·exact hy y hm
   ·have:=(oc_var' hm).2.2
    have:=hx x x2
    omega
  ·obtain rfl:i=xs.length:=by omega
   rw[nlt_nat hi,cF,drop_nat];rfl
theorem l5Collect_ok :∀k,k<=4294967296->EO (z5f.ent (gCol k))
 | 0, _ => fun R xs H K r h => by
  simp only[z5f.ent]at h
  split at h
  ·simp[gCol]at h
  ·cases h
 | k + 1, hk => z5f.ok         (G := ⟨gVar5, gIU, gCol k⟩) ⟨l5VarV_ok, l5Insert_ok, l5Collect_ok k (by omega), trivial⟩ fun t l r h => by
  unfold gCol at h
  split at h
  ·rename_i hs
   obtain⟨ht,hy,hl⟩:=hs
   cases h
   have htot:=total_args t
   have hlen:=tmT_len t.args
   refine⟨t.args.length+1,?_⟩
   unfold z5f.main
   rw[oc_eq]
   by_cases ho:t.op= -1
   ·rw[dT ho,cT,if_pos ho]
    show Option.bind (gVar5 t.name t.sort) _=_
    rw[show gVar5 t.name t.sort=some (vT t)from rfl,bS,Tm.eta]
    show Option.bind (gIU l (vT t)) _=_
    have e:gIU l (vT t)=some (insU l (vT t)):=if_pos ⟨hy,by have hl:List.length (α:=Tm) l+tsz t<1073741824:=hl;omega⟩
    rw[e]
    rfl
   ·rw[dF ho,cF,if_neg ho]
    rw[tsz_eq]at hl
    have hl:List.length (α:=Tm) l+(1+wS tsz t.args)<1073741824:=hl
    refine(col_loop (t.args.length+1) k (by omega) t.op t.sort t.name t.args (λx hx=>by have:=arg_total hx;omega) (by omega) _ (t.args.length+1) 0 l hy (by rw[List.drop_zero];omega) (by omega) (by omega)).trans ?_
    rw[List.drop_zero]
  ·cases h
noncomputable def gVs:Tm->Option (List Tm):=λt=>if t.total<1073741823 then some (varsF t)else none
theorem tsz_tot (t:Tm):tsz t<=t.total+1:=tsz_le _ t (Nat.lt_succ_self _)
theorem z4u :EO (z4t.ent gVs):=z4t.ok (G:=⟨gCol 4294967296⟩) ⟨l5Collect_ok _ (Nat.le_refl _),trivial⟩ λt r h=>by
 unfold gVs at h
 split at h
 ·rename_i hs
  cases h
  refine⟨1,?_⟩
  unfold z4t.main
  rw[Tm.eta]
  show Option.bind (gCol 4294967296 t []) _=_
  have:=tsz_tot t
  have e:gCol 4294967296 t []=some ((oc t).foldl insU []):=if_pos ⟨by omega,λy hy=>by simp at hy,by simp;omega⟩
  rw[e]
  rfl
 ·cases h
theorem z1n (k:Nat) (hk:k<=4294967296):EO (z1m.ent (gSame k)):=z1m.ok (G:=⟨gCmp k⟩) ⟨z0b k hk,trivial⟩ λa b r h=>by
 unfold gSame at h
 split at h
 ·rename_i hs
  cases h
  refine⟨1,?_⟩
  unfold z1m.main
  rw[Tm.eta,Tm.eta]
  show Option.bind (gCmp k a b) _=_
  unfold gCmp
  rw[if_pos hs]
  rfl
 ·cases h
noncomputable def gV1 (k:Nat):Tm->List Tm->Option (List Tm):=λt l=>if t.total<k/\l.length+tsz t<1073741824 then some (l++oc t)else none
theorem v1_loop {R:Type} (n k:Nat) (xs:List Tm) (hx:∀x∈xs,x.total<k) (hl:xs.length<4294967296) (k0:List Tm->Option R):∀m (i:Nat) (l:List Tm),l.length+wS tsz (xs.drop i)<1073741824->i<=xs.length->xs.length-i<m->
  z0s.l4 ⟨gV1 k⟩ n m xs (xs.length:Int) (i:Int) l k0=k0 (l++(xs.drop i).flatMap oc):=by
 intro m
 induction m with
 |zero=>intro i l _ _ hm;omega
 | succ m ih =>
  intro i l hw h1 hm
  show z0s.b4 ⟨gV1 k⟩ n xs (xs.length:Int) (i:Int) l (λy0 y1=>z0s.l4 ⟨gV1 k⟩ n m xs (xs.length:Int) y0 y1 k0) k0=_
  unfold z0s.b4
  by_cases hi:i<xs.length
  ·obtain⟨x,x1,x2⟩:=get_lt hi
   rw[wS_drop x1]at hw
   rw[lt_nat hi,cT,ix_get x1,bS,Tm.eta]
   show Option.bind (gV1 k x l) _=_
   have e:gV1 k x l=some (l++oc x):=if_pos ⟨hx x x2,by omega⟩
   have:=oc_len' x
   rw[e,bS,wr_one (by omega)]
   simp only[]
   rw[ih (i+1) _ (by rw[List.length_append];omega) hi (by omega),drop_get x1,List.flatMap_cons,List.append_assoc]
  ·obtain rfl:i=xs.length:=by omega
   rw[nlt_nat hi,cF,drop_nat,List.flatMap_nil,List.append_nil]
theorem VariablesOf_f1_ok :∀k,k<=4294967296->EO (z0s.ent (gV1 k))
 | 0, _ => fun R xs H K r h => by
  simp only[z0s.ent]at h
  split at h
  ·simp[gV1]at h
  ·cases h
 | k + 1, hk => z0s.ok              (G := ⟨gV1 k⟩) ⟨VariablesOf_f1_ok k (by omega), trivial⟩ fun t l r h => by
  unfold gV1 at h
  split at h
  ·rename_i hs
   obtain⟨ht,hl⟩:=hs
   have hl:List.length (α:=Tm) l+tsz t<1073741824:=hl
   cases h
   have htot:=total_args t
   have hlen:=tmT_len t.args
   refine⟨t.args.length+1,?_⟩
   unfold z0s.main
   rw[oc_eq]
   by_cases ho:t.op= -1
   ·rw[dT ho,cT,if_pos ho]
    unfold z0s.d2
    have e1:ix (l++[Tm.mk 0 ByteArray.empty 0 []]) (List.length (α:=Tm) l:Int)=some (Tm.mk 0 ByteArray.empty 0 []):=ix_get (by rw[aR (Nat.le_refl _)];simp)
    rw[lim_le (by simp;omega),bS,e1,bS,Int.toNat_natCast,List.set_append_right _ _ (Nat.le_refl _),Nat.sub_self]
    rfl
   ·rw[dF ho,cF,if_neg ho]
    rw[tsz_eq]at hl
    refine(v1_loop (t.args.length+1) k t.args (λx hx=>by have:=arg_total hx;omega) (by omega) _ (t.args.length+1) 0 l (by rw[List.drop_zero];omega) (by omega) (by omega)).trans ?_
    rw[List.drop_zero]
  ·cases h
theorem z0t :EO (z0r.ent gVs):=z0r.ok (G:=⟨gV1 4294967296,gDis⟩) ⟨VariablesOf_f1_ok _ (Nat.le_refl _),distinct_ok,trivial⟩ λt r h=>by
 unfold gVs at h
 split at h
 ·rename_i hs
  cases h
  refine⟨1,?_⟩
  unfold z0r.main
  rw[Tm.eta]
  show Option.bind (gV1 4294967296 t []) _=_
  have:=tsz_tot t
  have:=oc_len' t
  have e:gV1 4294967296 t []=some ([]++oc t):=if_pos ⟨by omega,by simp;omega⟩
  rw[e,bS,List.nil_append]
  show Option.bind (gDis (oc t)) _=_
  have e2:gDis (oc t)=some (varsF t):=if_pos ⟨λx hx=>(oc_var' hx).2.1,by omega⟩
  rw[e2]
  rfl
 ·cases h
end Go.Proofs.YtkinkfieackmdaaGreat.Den

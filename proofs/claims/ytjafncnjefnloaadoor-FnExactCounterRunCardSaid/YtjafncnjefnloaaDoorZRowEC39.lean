/-
  Texts that the claim rests on, merged: PIO, Fresh, CntM, LawEC.
-/
import Derived.Deep.RegionHeld3
import Derived.Deep.CutRange
import Derived.Test.YtjafncnjefnloaaDoorZRowEC3
import Derived.Test.YtjafncnjefnloaaDoorZRowEC4
import Derived.Test.YtjafncnjefnloaaDoorZRowEC14
import Derived.Test.YtjafncnjefnloaaDoorZRowEC16
import Derived.Test.YtjafncnjefnloaaDoorZRowEC21
import Derived.Test.YtjafncnjefnloaaDoorZRowEC22
import Derived.Test.YtjafncnjefnloaaDoorZRowEC38

namespace Go.Proofs.YtjafncnjefnloaaDoor.Den
open Go.RowKit
set_option maxRecDepth 100000
set_option linter.unusedVariables false
namespace i_counterRun_od
structure Gs where
 i_followers:Gr->Int->Option (List Int)
 slices_Contains_intint:List Int->Int->Option (Bool)
 i_places:Fm->Lasso->List Int->Option (List Bool)
 slices_Clone_intint_o:List Int->Option (List Int)
 slices_Clip_intint_c:List Int->Option (List Int)
 i_counterRun_o:Gr->List Int->Fm->List Int->Int->Option (Lasso×Bool)
noncomputable def ents (G:Gs):List Ent:=[i_followers.ent G.i_followers,slices_Contains_intint.ent G.slices_Contains_intint,i_places.ent G.i_places,slices_Clone_intint_o.ent G.slices_Clone_intint_o,slices_Clip_intint_c.ent G.slices_Clip_intint_c,i_counterRun_o.ent G.i_counterRun_o]
noncomputable def b4 {R:Type} (G:Gs) (n:Nat) (labels:List Int) (states:List Int) (last:Int) (t30:Int) (h0:List Tm) (h02:List (List Int)) (h03:Bool) (h1:Int) (h12:Int) (h13:List Fm) (h2:Int) (h3:List Int) (t31:Int) (nx:Int->Option R) (k0:Bool->Int->List Int->Option R) (k1:Option R):Option R:=
 bif decide (t31<t30)then
  (
  Option.bind (G.i_followers (Gr.mk h0 h02 h03) last) fun r2=>
  Option.bind (ix states t31) fun e2=>
  Option.bind (G.slices_Contains_intint r2 e2) fun r4=>
  bif r4 then
   (
   Option.bind (G.i_places (Fm.mk h1 h12 h13) (Lasso.mk states t31) labels) fun r6=>
   Option.bind (ix r6 0) fun e4=>
   bif !e4 then
    (
    Option.bind (G.slices_Clone_intint_o states) fun r7=>
    k0 true t31 r7
    )
   else
    nx (wr (t31+1))
   )
  else
   nx (wr (t31+1))
  )
 else
  k1
noncomputable def l4 {R:Type} (G:Gs) (n m:Nat) (labels:List Int) (states:List Int) (last:Int) (t30:Int) (h0:List Tm) (h02:List (List Int)) (h03:Bool) (h1:Int) (h12:Int) (h13:List Fm) (h2:Int) (h3:List Int) (t31:Int) (k0:Bool->Int->List Int->Option R) (k1:Option R):Option R:=iter (fun(v:Int) nx=>b4 G n labels states last t30 h0 h02 h03 h1 h12 h13 h2 h3 v (fun y0=>nx y0) k0 k1) m t31
noncomputable def d14 {R:Type} (G:Gs) (n:Nat) (labels:List Int) (states:List Int) (n1:Int) (k:Int) (t62:List Int) (t63:Int) (t64:Int) (h0:List Tm) (h02:List (List Int)) (h03:Bool) (h1:Int) (h12:Int) (h13:List Fm) (h2:Int) (h3:List Int) (k0:Bool->Int->List Int->Option R):Option R:=
 Option.bind (G.slices_Clip_intint_c states) fun r=>
 Option.bind (lim1 r [k]) fun zs=>
 Option.bind (G.i_counterRun_o (Gr.mk h0 h02 h03) labels (Fm.mk h1 h12 h13) zs n1) fun r2=>
 k0 r2.2 (Lasso.back r2.1) (Lasso.states r2.1)
noncomputable def d14_1 {R:Type} (G:Gs) (n:Nat) (labels:List Int) (states:List Int) (n1:Int) (k:Int) (t62:List Int) (t63:Int) (t64:Int) (h0:List Tm) (h02:List (List Int)) (h03:Bool) (h1:Int) (h12:Int) (h13:List Fm) (h2:Int) (h3:List Int) (k0:Bool->Int->List Int->Option R):Option R:=
 Option.bind (G.slices_Clip_intint_c states) fun r=>
 Option.bind (lim1 r [k]) fun zs=>
 Option.bind (G.i_counterRun_o (Gr.mk h0 h02 h03) labels (Fm.mk h1 h12 h13) zs n1) fun r2=>
 k0 r2.2 (Lasso.back r2.1) (Lasso.states r2.1)
theorem e14_1 {R:Type} (G:Gs) (n:Nat) (labels:List Int) (states:List Int) (n1:Int) (k:Int) (t62:List Int) (t63:Int) (t64:Int) (h0:List Tm) (h02:List (List Int)) (h03:Bool) (h1:Int) (h12:Int) (h13:List Fm) (h2:Int) (h3:List Int) (k0:Bool->Int->List Int->Option R):d14_1 G n labels states n1 k t62 t63 t64 h0 h02 h03 h1 h12 h13 h2 h3 k0=d14 G n labels states n1 k t62 t63 t64 h0 h02 h03 h1 h12 h13 h2 h3 k0:=by
 unfold d14_1 d14
 generalize G.slices_Clip_intint_c states=o0
 cases o0<;>first|rfl|simp
noncomputable def d14_2 {R:Type} (G:Gs) (n:Nat) (labels:List Int) (states:List Int) (n1:Int) (k:Int) (t62:List Int) (t63:Int) (t64:Int) (h0:List Tm) (h02:List (List Int)) (h03:Bool) (h1:Int) (h12:Int) (h13:List Fm) (h2:Int) (h3:List Int) (k0:Bool->Int->List Int->Option R):Option R:=
 Option.bind (G.slices_Clip_intint_c states) fun r=>
 Option.bind (lim1 r [k]) fun zs=>
 Option.bind (G.i_counterRun_o (Gr.mk h0 h02 h03) labels (Fm.mk h1 h12 h13) zs n1) fun r2=>
 k0 r2.2 (Lasso.back r2.1) (Lasso.states r2.1)
theorem e14_2 {R:Type} (G:Gs) (n:Nat) (labels:List Int) (states:List Int) (n1:Int) (k:Int) (t62:List Int) (t63:Int) (t64:Int) (h0:List Tm) (h02:List (List Int)) (h03:Bool) (h1:Int) (h12:Int) (h13:List Fm) (h2:Int) (h3:List Int) (k0:Bool->Int->List Int->Option R):d14_2 G n labels states n1 k t62 t63 t64 h0 h02 h03 h1 h12 h13 h2 h3 k0=d14 G n labels states n1 k t62 t63 t64 h0 h02 h03 h1 h12 h13 h2 h3 k0:=by
 unfold d14_2 d14
 generalize G.slices_Clip_intint_c states=o0
 cases o0<;>first|rfl|simp
noncomputable def d14_3 {R:Type} (G:Gs) (n:Nat) (labels:List Int) (states:List Int) (n1:Int) (k:Int) (t62:List Int) (t63:Int) (t64:Int) (h0:List Tm) (h02:List (List Int)) (h03:Bool) (h1:Int) (h12:Int) (h13:List Fm) (h2:Int) (h3:List Int) (k0:Bool->Int->List Int->Option R):Option R:=
 Option.bind (G.slices_Clip_intint_c states) fun r=>
 Option.bind (lim1 r [k]) fun zs=>
 Option.bind (G.i_counterRun_o (Gr.mk h0 h02 h03) labels (Fm.mk h1 h12 h13) zs n1) fun r2=>
 k0 r2.2 (Lasso.back r2.1) (Lasso.states r2.1)
theorem e14_3 {R:Type} (G:Gs) (n:Nat) (labels:List Int) (states:List Int) (n1:Int) (k:Int) (t62:List Int) (t63:Int) (t64:Int) (h0:List Tm) (h02:List (List Int)) (h03:Bool) (h1:Int) (h12:Int) (h13:List Fm) (h2:Int) (h3:List Int) (k0:Bool->Int->List Int->Option R):d14_3 G n labels states n1 k t62 t63 t64 h0 h02 h03 h1 h12 h13 h2 h3 k0=d14 G n labels states n1 k t62 t63 t64 h0 h02 h03 h1 h12 h13 h2 h3 k0:=by
 unfold d14_3 d14
 generalize G.slices_Clip_intint_c states=o0
 cases o0<;>first|rfl|simp
noncomputable def b12 {R:Type} (G:Gs) (n:Nat) (labels:List Int) (states:List Int) (n1:Int) (t62:List Int) (t63:Int) (h0:List Tm) (h02:List (List Int)) (h03:Bool) (h1:Int) (h12:Int) (h13:List Fm) (h2:Int) (h3:List Int) (t64:Int) (nx:Int->Option R) (k0:Bool->Int->List Int->Option R) (k1:Option R):Option R:=
 bif decide (t64 < t63) then
  (
  Option.bind (ix t62 t64) fun e=>
  d14 G n labels states n1 e t62 t63 t64 h0 h02 h03 h1 h12 h13 h2 h3
   (fun ok h4 h5 =>
    bif ok then
     (k0 true h4 h5)
    else
     nx (wr (t64+1))
   )
  )
 else
  k1
noncomputable def l12 {R:Type} (G:Gs) (n m:Nat) (labels:List Int) (states:List Int) (n1:Int) (t62:List Int) (t63:Int) (h0:List Tm) (h02:List (List Int)) (h03:Bool) (h1:Int) (h12:Int) (h13:List Fm) (h2:Int) (h3:List Int) (t64:Int) (k0:Bool->Int->List Int->Option R) (k1:Option R):Option R:=iter (fun(v:Int) nx=>b12 G n labels states n1 t62 t63 h0 h02 h03 h1 h12 h13 h2 h3 v (fun y0=>nx y0) k0 k1) m t64
noncomputable def main {R:Type} (G:Gs) (n:Nat) (g:Gr) (labels:List Int) (f:Fm) (states:List Int) (n1:Int) (K:Lasso->Bool->Option R):Option R:=
 Option.bind (ix states (wr ((List.length states:Int)-1))) fun e=>
 bif decide ((List.length states:Int)=n1)then
  (
  l4 G n n labels states e (List.length states:Int) (Gr.states g) (Gr.edges g) (Gr.whole g) (Fm.kind f) (Fm.prop f) (Fm.kids f) 0 [] 0
   (fun t11 h04 h14=>K (Lasso.mk h14 h04) t11)
   (K (Lasso.mk [] 0) false)
  )
 else
  Option.bind (G.i_followers g e) fun r=>
  l12 G n n labels states n1 r (List.length r:Int) (Gr.states g) (Gr.edges g) (Gr.whole g) (Fm.kind f) (Fm.prop f) (Fm.kids f) 0 [] 0
   (fun t112 h042 h142=>K (Lasso.mk h142 h042) t112)
   (K (Lasso.mk [] 0) false)
noncomputable def dl4 (G:Gs) (n m:Nat) (R:Type) (st:St) (K:Kt R):Option R:=match st with
 |⟨[(1,.one (.l .i labels)),(3,.one (.l .i states)),(5,.one (.p 0 0)),(7,.one (.p 1 0)),(10,.one (.p 2 0)),(12,.one (.i last)),(30,.one (.i t30)),(31,.one (.i t31))],[.box [.l (.n 1) h0,.l (.sl .i) h02,.b h03],.box [.i h1,.i h12,.l (.n 2) h13],.box [.o 3,.i h2],.row .i 0 h3]⟩=>l4 G n m labels states last t30 h0 h02 h03 h1 h12 h13 h2 h3 t31 (fun t11 h04 h14=>K .ret ⟨[(10,.one (.p 0 0)),(11,.one (.b t11))],[.box [.o 1,.i h04],.row .i 0 h14]⟩) (K (.exit 0) ⟨[(10,.one (.p 0 0))],[.box [.o 1,.i h2],.row .i 0 h3]⟩)
 |_=>none
noncomputable def dd14 (G:Gs) (n:Nat) (R:Type) (st:St) (K:Kt R):Option R:=match st with
 |⟨[(1,.one (.l .i labels)),(3,.one (.l .i states)),(4,.one (.i n1)),(5,.one (.p 0 0)),(7,.one (.p 1 0)),(10,.one (.p 2 0)),(16,.one (.i k)),(62,.one (.l .i t62)),(63,.one (.i t63)),(64,.one (.i t64))],[.box [.l (.n 1) h0,.l (.sl .i) h02,.b h03],.box [.i h1,.i h12,.l (.n 2) h13],.box [.o 3,.i h2],.row .i 0 h3]⟩=>d14 G n labels states n1 k t62 t63 t64 h0 h02 h03 h1 h12 h13 h2 h3 (fun ok h4 h5=>K .normal ⟨[(1,.one (.l .i labels)),(3,.one (.l .i states)),(4,.one (.i n1)),(5,.one (.p 0 0)),(7,.one (.p 1 0)),(10,.one (.p 2 0)),(17,.one (.p 4 0)),(18,.one (.b ok)),(62,.one (.l .i t62)),(63,.one (.i t63)),(64,.one (.i t64))],[.box [.l (.n 1) h0,.l (.sl .i) h02,.b h03],.box [.i h1,.i h12,.l (.n 2) h13],.box [.o 3,.i h2],.row .i 0 h3,.box [.o 5,.i h4],.row .i 0 h5]⟩)
 |_=>none
noncomputable def dl12 (G:Gs) (n m:Nat) (R:Type) (st:St) (K:Kt R):Option R:=match st with
 |⟨[(1,.one (.l .i labels)),(3,.one (.l .i states)),(4,.one (.i n1)),(5,.one (.p 0 0)),(7,.one (.p 1 0)),(10,.one (.p 2 0)),(62,.one (.l .i t62)),(63,.one (.i t63)),(64,.one (.i t64))],[.box [.l (.n 1) h0,.l (.sl .i) h02,.b h03],.box [.i h1,.i h12,.l (.n 2) h13],.box [.o 3,.i h2],.row .i 0 h3]⟩=>l12 G n m labels states n1 t62 t63 h0 h02 h03 h1 h12 h13 h2 h3 t64 (fun t11 h04 h14=>K .ret ⟨[(10,.one (.p 0 0)),(11,.one (.b t11))],[.box [.o 1,.i h04],.row .i 0 h14]⟩) (K (.exit 2) ⟨[(10,.one (.p 0 0))],[.box [.o 1,.i h2],.row .i 0 h3]⟩)
 |_=>none
noncomputable def pc (G:Gs) (n:Nat):Pcs:=⟨fun R id st K=>bif Nat.beq id 4 then dl4 G n n R st K else bif Nat.beq id 12 then dl12 G n n R st K else none,fun _ _ _ _=>none,fun R id st K=>bif Nat.beq id 14 then dd14 G n R st K else none⟩
noncomputable def an:Ann:=⟨85,0,[(4,[1,3,5,7,10,12,30,31]),(12,[1,3,4,5,7,10,62,63,64])],[],[10,11],[(7,⟨[([0,1,2,3,4,5,6,7,8,9,10,11,12,13,14,15,16],[],[])],[],[],[0,1,2,3,4],[]⟩),(14,⟨[([3,4,5,6,7,0,1,2,8,9,13,10,11,14,12,15],[4,7,9,13,14],[]),([3,4,5,6,7,13,0,1,2,8,9,10,11,14,12,15],[4,7,13,9,14],[]),([3,4,13,5,6,7,0,1,2,8,9,10,11,14,12,15],[4,13,7,9,14],[]),([13,3,4,5,6,7,0,1,2,8,9,10,11,14,12,15],[13,4,7,9,14],[])],[4,7,9,13,14],[],[0,1,2,3],[1,3,4,5,7,10,16,62,63,64]⟩)],[]⟩
noncomputable abbrev bd:=bodyOf Tryd.f47
noncomputable abbrev q4:=nthC [1,1,0,1,0,0,1,0,0] bd
noncomputable abbrev q14:=nthC [1,1,1,0,1,0,0,1,1,0,0,1,0] bd
noncomputable abbrev q12:=nthC [1,1,1,0,1,0,0] bd
theorem pl4 {G:Gs} (hG:AllE Tryd.prog (ents G)) (n:Nat):∀m,PieceOK Tryd.prog an (.loop q4) (dl4 G n m):=lpc hG (pc G n) [1,3,5,7,10,12,30,31] ⟨[10],[10,11],[(0,[10])]⟩ (apl [] trivial) (fun R st K=>by unfold dl4;split<;>rfl) fun m R st K r h=>by unfold dl4 at h;split at h;exact .trans (by kernel_rfl) h;cases h
theorem s14_0 (G:Gs) (n:Nat) (R:Type) (labels:List Int) (states:List Int) (n1:Int) (k:Int) (t62:List Int) (t63:Int) (t64:Int) (h0:List Tm) (h02:List (List Int)) (h03:Bool) (h1:Int) (h12:Int) (h13:List Fm) (h2:Int) (h3:List Int) (K:Kt R):(fun st1:St=>drawD tb (orcOf (ents G)) an.nt (opsOf (q14)) (maskH [0,1,2,3] st1.H) [3,4,5,6,7,0,1,2,8,9,13,10,11,14,12,15] [4,7,9,13,14] [] [] [3,4,5,6,7,0,1,2,8,9,13,10,11,14,12,15] st1.L st1.H st1.H fun L H=>outK an.refs ⟨[1,3,4,5,7,10,17,18,62,63,64],[10,11],[(2,[10]),(3,[1,3,4,5,7,10,62,63,64])]⟩ K .normal ⟨L,H⟩) (fzIds (slotRows (St.L ⟨[(1,.one (.l .i labels)),(3,.one (.l .i states)),(4,.one (.i n1)),(5,.one (.p 0 0)),(7,.one (.p 1 0)),(10,.one (.p 2 0)),(16,.one (.i k)),(62,.one (.l .i t62)),(63,.one (.i t63)),(64,.one (.i t64))],[.box [.l (.n 1) h0,.l (.sl .i) h02,.b h03],.box [.i h1,.i h12,.l (.n 2) h13],.box [.o 3,.i h2],.row .i 0 h3]⟩) (St.H ⟨[(1,.one (.l .i labels)),(3,.one (.l .i states)),(4,.one (.i n1)),(5,.one (.p 0 0)),(7,.one (.p 1 0)),(10,.one (.p 2 0)),(16,.one (.i k)),(62,.one (.l .i t62)),(63,.one (.i t63)),(64,.one (.i t64))],[.box [.l (.n 1) h0,.l (.sl .i) h02,.b h03],.box [.i h1,.i h12,.l (.n 2) h13],.box [.o 3,.i h2],.row .i 0 h3]⟩) []) ⟨[(1,.one (.l .i labels)),(3,.one (.l .i states)),(4,.one (.i n1)),(5,.one (.p 0 0)),(7,.one (.p 1 0)),(10,.one (.p 2 0)),(16,.one (.i k)),(62,.one (.l .i t62)),(63,.one (.i t63)),(64,.one (.i t64))],[.box [.l (.n 1) h0,.l (.sl .i) h02,.b h03],.box [.i h1,.i h12,.l (.n 2) h13],.box [.o 3,.i h2],.row .i 0 h3]⟩)=dd14 G n R ⟨[(1,.one (.l .i labels)),(3,.one (.l .i states)),(4,.one (.i n1)),(5,.one (.p 0 0)),(7,.one (.p 1 0)),(10,.one (.p 2 0)),(16,.one (.i k)),(62,.one (.l .i t62)),(63,.one (.i t63)),(64,.one (.i t64))],[.box [.l (.n 1) h0,.l (.sl .i) h02,.b h03],.box [.i h1,.i h12,.l (.n 2) h13],.box [.o 3,.i h2],.row .i 0 h3]⟩ K:=by kernel_rfl
theorem s14_1 (G:Gs) (n:Nat) (R:Type) (labels:List Int) (states:List Int) (n1:Int) (k:Int) (t62:List Int) (t63:Int) (t64:Int) (h0:List Tm) (h02:List (List Int)) (h03:Bool) (h1:Int) (h12:Int) (h13:List Fm) (h2:Int) (h3:List Int) (K:Kt R):(fun st1:St=>drawD tb (orcOf (ents G)) an.nt (opsOf (q14)) (maskH [0,1,2,3] st1.H) [3,4,5,6,7,13,0,1,2,8,9,10,11,14,12,15] [4,7,13,9,14] [] [] [3,4,5,6,7,13,0,1,2,8,9,10,11,14,12,15] st1.L st1.H st1.H fun L H=>outK an.refs ⟨[1,3,4,5,7,10,17,18,62,63,64],[10,11],[(2,[10]),(3,[1,3,4,5,7,10,62,63,64])]⟩ K .normal ⟨L,H⟩) (fzIds (slotRows (St.L ⟨[(1,.one (.l .i labels)),(3,.one (.l .i states)),(4,.one (.i n1)),(5,.one (.p 0 0)),(7,.one (.p 1 0)),(10,.one (.p 2 0)),(16,.one (.i k)),(62,.one (.l .i t62)),(63,.one (.i t63)),(64,.one (.i t64))],[.box [.l (.n 1) h0,.l (.sl .i) h02,.b h03],.box [.i h1,.i h12,.l (.n 2) h13],.box [.o 3,.i h2],.row .i 0 h3]⟩) (St.H ⟨[(1,.one (.l .i labels)),(3,.one (.l .i states)),(4,.one (.i n1)),(5,.one (.p 0 0)),(7,.one (.p 1 0)),(10,.one (.p 2 0)),(16,.one (.i k)),(62,.one (.l .i t62)),(63,.one (.i t63)),(64,.one (.i t64))],[.box [.l (.n 1) h0,.l (.sl .i) h02,.b h03],.box [.i h1,.i h12,.l (.n 2) h13],.box [.o 3,.i h2],.row .i 0 h3]⟩) []) ⟨[(1,.one (.l .i labels)),(3,.one (.l .i states)),(4,.one (.i n1)),(5,.one (.p 0 0)),(7,.one (.p 1 0)),(10,.one (.p 2 0)),(16,.one (.i k)),(62,.one (.l .i t62)),(63,.one (.i t63)),(64,.one (.i t64))],[.box [.l (.n 1) h0,.l (.sl .i) h02,.b h03],.box [.i h1,.i h12,.l (.n 2) h13],.box [.o 3,.i h2],.row .i 0 h3]⟩)=d14_1 G n labels states n1 k t62 t63 t64 h0 h02 h03 h1 h12 h13 h2 h3 (fun ok h4 h5=>K .normal ⟨[(1,.one (.l .i labels)),(3,.one (.l .i states)),(4,.one (.i n1)),(5,.one (.p 0 0)),(7,.one (.p 1 0)),(10,.one (.p 2 0)),(17,.one (.p 4 0)),(18,.one (.b ok)),(62,.one (.l .i t62)),(63,.one (.i t63)),(64,.one (.i t64))],[.box [.l (.n 1) h0,.l (.sl .i) h02,.b h03],.box [.i h1,.i h12,.l (.n 2) h13],.box [.o 3,.i h2],.row .i 0 h3,.box [.o 5,.i h4],.row .i 0 h5]⟩):=by kernel_rfl
theorem s14_2 (G:Gs) (n:Nat) (R:Type) (labels:List Int) (states:List Int) (n1:Int) (k:Int) (t62:List Int) (t63:Int) (t64:Int) (h0:List Tm) (h02:List (List Int)) (h03:Bool) (h1:Int) (h12:Int) (h13:List Fm) (h2:Int) (h3:List Int) (K:Kt R):(fun st1:St=>drawD tb (orcOf (ents G)) an.nt (opsOf (q14)) (maskH [0,1,2,3] st1.H) [3,4,13,5,6,7,0,1,2,8,9,10,11,14,12,15] [4,13,7,9,14] [] [] [3,4,13,5,6,7,0,1,2,8,9,10,11,14,12,15] st1.L st1.H st1.H fun L H=>outK an.refs ⟨[1,3,4,5,7,10,17,18,62,63,64],[10,11],[(2,[10]),(3,[1,3,4,5,7,10,62,63,64])]⟩ K .normal ⟨L,H⟩) (fzIds (slotRows (St.L ⟨[(1,.one (.l .i labels)),(3,.one (.l .i states)),(4,.one (.i n1)),(5,.one (.p 0 0)),(7,.one (.p 1 0)),(10,.one (.p 2 0)),(16,.one (.i k)),(62,.one (.l .i t62)),(63,.one (.i t63)),(64,.one (.i t64))],[.box [.l (.n 1) h0,.l (.sl .i) h02,.b h03],.box [.i h1,.i h12,.l (.n 2) h13],.box [.o 3,.i h2],.row .i 0 h3]⟩) (St.H ⟨[(1,.one (.l .i labels)),(3,.one (.l .i states)),(4,.one (.i n1)),(5,.one (.p 0 0)),(7,.one (.p 1 0)),(10,.one (.p 2 0)),(16,.one (.i k)),(62,.one (.l .i t62)),(63,.one (.i t63)),(64,.one (.i t64))],[.box [.l (.n 1) h0,.l (.sl .i) h02,.b h03],.box [.i h1,.i h12,.l (.n 2) h13],.box [.o 3,.i h2],.row .i 0 h3]⟩) []) ⟨[(1,.one (.l .i labels)),(3,.one (.l .i states)),(4,.one (.i n1)),(5,.one (.p 0 0)),(7,.one (.p 1 0)),(10,.one (.p 2 0)),(16,.one (.i k)),(62,.one (.l .i t62)),(63,.one (.i t63)),(64,.one (.i t64))],[.box [.l (.n 1) h0,.l (.sl .i) h02,.b h03],.box [.i h1,.i h12,.l (.n 2) h13],.box [.o 3,.i h2],.row .i 0 h3]⟩)=d14_2 G n labels states n1 k t62 t63 t64 h0 h02 h03 h1 h12 h13 h2 h3 (fun ok h4 h5=>K .normal ⟨[(1,.one (.l .i labels)),(3,.one (.l .i states)),(4,.one (.i n1)),(5,.one (.p 0 0)),(7,.one (.p 1 0)),(10,.one (.p 2 0)),(17,.one (.p 4 0)),(18,.one (.b ok)),(62,.one (.l .i t62)),(63,.one (.i t63)),(64,.one (.i t64))],[.box [.l (.n 1) h0,.l (.sl .i) h02,.b h03],.box [.i h1,.i h12,.l (.n 2) h13],.box [.o 3,.i h2],.row .i 0 h3,.box [.o 5,.i h4],.row .i 0 h5]⟩):=by kernel_rfl
theorem s14_3 (G:Gs) (n:Nat) (R:Type) (labels:List Int) (states:List Int) (n1:Int) (k:Int) (t62:List Int) (t63:Int) (t64:Int) (h0:List Tm) (h02:List (List Int)) (h03:Bool) (h1:Int) (h12:Int) (h13:List Fm) (h2:Int) (h3:List Int) (K:Kt R):(fun st1:St=>drawD tb (orcOf (ents G)) an.nt (opsOf (q14)) (maskH [0,1,2,3] st1.H) [13,3,4,5,6,7,0,1,2,8,9,10,11,14,12,15] [13,4,7,9,14] [] [] [13,3,4,5,6,7,0,1,2,8,9,10,11,14,12,15] st1.L st1.H st1.H fun L H=>outK an.refs ⟨[1,3,4,5,7,10,17,18,62,63,64],[10,11],[(2,[10]),(3,[1,3,4,5,7,10,62,63,64])]⟩ K .normal ⟨L,H⟩) (fzIds (slotRows (St.L ⟨[(1,.one (.l .i labels)),(3,.one (.l .i states)),(4,.one (.i n1)),(5,.one (.p 0 0)),(7,.one (.p 1 0)),(10,.one (.p 2 0)),(16,.one (.i k)),(62,.one (.l .i t62)),(63,.one (.i t63)),(64,.one (.i t64))],[.box [.l (.n 1) h0,.l (.sl .i) h02,.b h03],.box [.i h1,.i h12,.l (.n 2) h13],.box [.o 3,.i h2],.row .i 0 h3]⟩) (St.H ⟨[(1,.one (.l .i labels)),(3,.one (.l .i states)),(4,.one (.i n1)),(5,.one (.p 0 0)),(7,.one (.p 1 0)),(10,.one (.p 2 0)),(16,.one (.i k)),(62,.one (.l .i t62)),(63,.one (.i t63)),(64,.one (.i t64))],[.box [.l (.n 1) h0,.l (.sl .i) h02,.b h03],.box [.i h1,.i h12,.l (.n 2) h13],.box [.o 3,.i h2],.row .i 0 h3]⟩) []) ⟨[(1,.one (.l .i labels)),(3,.one (.l .i states)),(4,.one (.i n1)),(5,.one (.p 0 0)),(7,.one (.p 1 0)),(10,.one (.p 2 0)),(16,.one (.i k)),(62,.one (.l .i t62)),(63,.one (.i t63)),(64,.one (.i t64))],[.box [.l (.n 1) h0,.l (.sl .i) h02,.b h03],.box [.i h1,.i h12,.l (.n 2) h13],.box [.o 3,.i h2],.row .i 0 h3]⟩)=d14_3 G n labels states n1 k t62 t63 t64 h0 h02 h03 h1 h12 h13 h2 h3 (fun ok h4 h5=>K .normal ⟨[(1,.one (.l .i labels)),(3,.one (.l .i states)),(4,.one (.i n1)),(5,.one (.p 0 0)),(7,.one (.p 1 0)),(10,.one (.p 2 0)),(17,.one (.p 4 0)),(18,.one (.b ok)),(62,.one (.l .i t62)),(63,.one (.i t63)),(64,.one (.i t64))],[.box [.l (.n 1) h0,.l (.sl .i) h02,.b h03],.box [.i h1,.i h12,.l (.n 2) h13],.box [.o 3,.i h2],.row .i 0 h3,.box [.o 5,.i h4],.row .i 0 h5]⟩):=by kernel_rfl
theorem pd14 {G:Gs} (hG:AllE Tryd.prog (ents G)) {n:Nat}:PieceOK Tryd.prog an (q14) (dd14 G n):=by
 have hc:q14= .region 14 (opsOf (q14)) true:=by kernel_rfl
 rw[hc]
 refine draw_piece mixed tb_ok (orc_ok hG) (o:=⟨[1,3,4,5,7,10,17,18,62,63,64],[10,11],[(2,[10]),(3,[1,3,4,5,7,10,62,63,64])]⟩) (d:=⟨[([3,4,5,6,7,0,1,2,8,9,13,10,11,14,12,15],[4,7,9,13,14],[]),([3,4,5,6,7,13,0,1,2,8,9,10,11,14,12,15],[4,7,13,9,14],[]),([3,4,13,5,6,7,0,1,2,8,9,10,11,14,12,15],[4,13,7,9,14],[]),([13,3,4,5,6,7,0,1,2,8,9,10,11,14,12,15],[13,4,7,9,14],[])],[4,7,9,13,14],[],[0,1,2,3],[1,3,4,5,7,10,16,62,63,64]⟩) (by kernel_rfl) (fun p hp R st K r h=> ?_)
 have e:=h
 unfold dd14 at e
 split at e
 ·rename_i x0 x1 x2 x3 x4 x5 x6 x7 x8 x9 x10 x11 x12 x13 x14;simp only[List.mem_cons,List.not_mem_nil,or_false]at hp
  rcases hp with rfl|rfl|rfl|rfl
  ·exact(s14_0 G n R x0 x1 x2 x3 x4 x5 x6 x7 x8 x9 x10 x11 x12 x13 x14 K).trans h
  ·exact((s14_1 G n R x0 x1 x2 x3 x4 x5 x6 x7 x8 x9 x10 x11 x12 x13 x14 K).trans (e14_1 G n  x0 x1 x2 x3 x4 x5 x6 x7 x8 x9 x10 x11 x12 x13 x14 _)).trans h
  ·exact((s14_2 G n R x0 x1 x2 x3 x4 x5 x6 x7 x8 x9 x10 x11 x12 x13 x14 K).trans (e14_2 G n  x0 x1 x2 x3 x4 x5 x6 x7 x8 x9 x10 x11 x12 x13 x14 _)).trans h
  ·exact((s14_3 G n R x0 x1 x2 x3 x4 x5 x6 x7 x8 x9 x10 x11 x12 x13 x14 K).trans (e14_3 G n  x0 x1 x2 x3 x4 x5 x6 x7 x8 x9 x10 x11 x12 x13 x14 _)).trans h
 ·cases e
theorem pl12 {G:Gs} (hG:AllE Tryd.prog (ents G)) (n:Nat):∀m,PieceOK Tryd.prog an (.loop q12) (dl12 G n m):=lpc hG (pc G n) [1,3,4,5,7,10,62,63,64] ⟨[10],[10,11],[(2,[10])]⟩ (apl [(2,14,q14)] ⟨pd14 hG,trivial⟩) (fun R st K=>by unfold dl12;split<;>rfl) fun m R st K r h=>by unfold dl12 at h;split at h;exact .trans (by kernel_rfl) h;cases h
noncomputable def Does (G:Gs) (g:Gr) (labels:List Int) (f:Fm) (states:List Int) (n1:Int) (r:Lasso×Bool):Prop:=∃n,main (R:=AT×List Ob) G n g labels f states n1 (fun r0 r1=>some (.tup [.agg [.o 0,.i (Lasso.back r0)],.one (.b r1)],[.row .i 0 (Lasso.states r0)]))=some (.tup [.agg [.o 0,.i (Lasso.back r.1)],.one (.b r.2)],[.row .i 0 (Lasso.states r.1)])
theorem ok {G:Gs} (hG:AllE Tryd.prog (ents G)) {g:Gr->List Int->Fm->List Int->Int->Option (Lasso×Bool)} (hg:∀g_ labels f states n1 r,g g_ labels f states n1=some r->Does G g_ labels f states n1 r):EntOK Tryd.prog (ent g):=fun R xs H K r hc=>by
 simp only[ent]at hc
 split at hc
 ·obtain⟨r,j1,j2⟩:=bind_some hc
  obtain⟨n,j3⟩:=hg _ _ _ _ _ _ j1
  exact⟨_,_,j2,fnP hG an (pc G n) bd [.cell 10 33,.tmp 11] Tryd.func47 (.inr rfl) (apl [(1,4,.loop q4),(1,12,.loop q12)] ⟨pl4 hG n n,⟨pl12 hG n n,trivial⟩⟩) (.trans (by kernel_rfl) j3)⟩
 ·cases hc
end i_counterRun_od
namespace i_CounterRun_o
structure Gs where
 i_checkable:Gr->List Int->Fm->Option (Bool)
 i_counterRun_o:Gr->List Int->Fm->List Int->Int->Option (Lasso×Bool)
noncomputable def ents (G:Gs):List Ent:=[i_checkable.ent G.i_checkable,i_counterRun_o.ent G.i_counterRun_o]
noncomputable def b4 {R:Type} (G:Gs) (n:Nat) (labels:List Int) (most:Int) (t30:List (List Int)) (t31:Int) (h0:List Tm) (h02:List (List Int)) (h03:Bool) (h1:Int) (h12:Int) (h13:List Fm) (h2:Int) (h3:List Int) (t32:Int) (nx:Int->Option R) (k0:Bool->Int->List Int->Option R) (k1:Option R):Option R:=
 bif decide (t32<t31)then
  (
  Option.bind (ix t30 t32) fun e=>
  bif decide (5<(List.length e:Int))then
   (k0 false 0 [])
  else
   nx (wr (t32+1))
  )
 else
  k1
noncomputable def l4 {R:Type} (G:Gs) (n m:Nat) (labels:List Int) (most:Int) (t30:List (List Int)) (t31:Int) (h0:List Tm) (h02:List (List Int)) (h03:Bool) (h1:Int) (h12:Int) (h13:List Fm) (h2:Int) (h3:List Int) (t32:Int) (k0:Bool->Int->List Int->Option R) (k1:Option R):Option R:=iter (fun(v:Int) nx=>b4 G n labels most t30 t31 h0 h02 h03 h1 h12 h13 h2 h3 v (fun y0=>nx y0) k0 k1) m t32
noncomputable def b10 {R:Type} (G:Gs) (n:Nat) (labels:List Int) (most:Int) (h0:List Tm) (h02:List (List Int)) (h03:Bool) (h1:Int) (h12:Int) (h13:List Fm) (h2:Int) (h3:List Int) (n1:Int) (nx:Int->Option R) (k0:Bool->Int->List Int->Option R) (k1:Option R):Option R:=
 bif decide (n1<=most)then
  (
  Option.bind (G.i_counterRun_o (Gr.mk h0 h02 h03) labels (Fm.mk h1 h12 h13) [0] n1) fun r=>
  bif r.2 then
   (k0 true (Lasso.back r.1) (Lasso.states r.1))
  else
   nx (wr (n1+1))
  )
 else
  k1
noncomputable def l10 {R:Type} (G:Gs) (n m:Nat) (labels:List Int) (most:Int) (h0:List Tm) (h02:List (List Int)) (h03:Bool) (h1:Int) (h12:Int) (h13:List Fm) (h2:Int) (h3:List Int) (n1:Int) (k0:Bool->Int->List Int->Option R) (k1:Option R):Option R:=iter (fun(v:Int) nx=>b10 G n labels most h0 h02 h03 h1 h12 h13 h2 h3 v (fun y0=>nx y0) k0 k1) m n1
noncomputable def main {R:Type} (G:Gs) (n:Nat) (g:Gr) (labels:List Int) (f:Fm) (most:Int) (K:Lasso->Bool->Option R):Option R:=
 Option.bind (G.i_checkable g labels (Fm.mk (Fm.kind f) (Fm.prop f) (Fm.kids f))) fun r=>
 bif !r then
  (K (Lasso.mk [] 0) false)
 else
  bif decide (most<1)then
   (K (Lasso.mk [] 0) false)
  else
   bif decide (7<most)then
    (K (Lasso.mk [] 0) false)
   else
    l4 G n n labels most (Gr.edges g) (List.length (Gr.edges g) : Int) (Gr.states g) (Gr.edges g) (Gr.whole g) (Fm.kind f) (Fm.prop f) (Fm.kids f) 0 [] 0
     (fun t9 h04 h14=>K (Lasso.mk h14 h04) t9)
     (
      l10 G n n labels most (Gr.states g) (Gr.edges g) (Gr.whole g) (Fm.kind f) (Fm.prop f) (Fm.kids f) 0 [] 1
       (fun t92 h042 h142=>K (Lasso.mk h142 h042) t92)
       (K (Lasso.mk [] 0) false)
     )
noncomputable def dl4 (G:Gs) (n m:Nat) (R:Type) (st:St) (K:Kt R):Option R:=match st with
 |⟨[(1,.one (.l .i labels)),(3,.one (.i most)),(4,.one (.p 0 0)),(6,.one (.p 1 0)),(8,.one (.p 2 0)),(30,.one (.l (.sl .i) t30)),(31,.one (.i t31)),(32,.one (.i t32))],[.box [.l (.n 1) h0,.l (.sl .i) h02,.b h03],.box [.i h1,.i h12,.l (.n 2) h13],.box [.o 3,.i h2],.row .i 0 h3]⟩=>l4 G n m labels most t30 t31 h0 h02 h03 h1 h12 h13 h2 h3 t32 (fun t9 h04 h14=>K .ret ⟨[(8,.one (.p 0 0)),(9,.one (.b t9))],[.box [.o 1,.i h04],.row .i 0 h14]⟩) (K (.exit 0) ⟨[(1,.one (.l .i labels)),(3,.one (.i most)),(4,.one (.p 0 0)),(6,.one (.p 1 0)),(8,.one (.p 2 0))],[.box [.l (.n 1) h0,.l (.sl .i) h02,.b h03],.box [.i h1,.i h12,.l (.n 2) h13],.box [.o 3,.i h2],.row .i 0 h3]⟩)
 |_=>none
noncomputable def dl10 (G:Gs) (n m:Nat) (R:Type) (st:St) (K:Kt R):Option R:=match st with
 |⟨[(1,.one (.l .i labels)),(3,.one (.i most)),(4,.one (.p 0 0)),(6,.one (.p 1 0)),(8,.one (.p 2 0)),(12,.one (.i n1))],[.box [.l (.n 1) h0,.l (.sl .i) h02,.b h03],.box [.i h1,.i h12,.l (.n 2) h13],.box [.o 3,.i h2],.row .i 0 h3]⟩=>l10 G n m labels most h0 h02 h03 h1 h12 h13 h2 h3 n1 (fun t9 h04 h14=>K .ret ⟨[(8,.one (.p 0 0)),(9,.one (.b t9))],[.box [.o 1,.i h04],.row .i 0 h14]⟩) (K (.exit 2) ⟨[(8,.one (.p 0 0))],[.box [.o 1,.i h2],.row .i 0 h3]⟩)
 |_=>none
noncomputable def pc (G:Gs) (n:Nat):Pcs:=⟨fun R id st K=>bif Nat.beq id 4 then dl4 G n n R st K else bif Nat.beq id 10 then dl10 G n n R st K else none,fun _ _ _ _=>none,fun _ _ _ _=>none⟩
noncomputable def an:Ann:=⟨58,0,[(4,[1,3,4,6,8,30,31,32]),(10,[1,3,4,6,8,12])],[],[8,9],[],[]⟩
noncomputable abbrev bd:=bodyOf Tryd.f14
noncomputable abbrev q4:=nthC [1,1,0,1,0,0] bd
noncomputable abbrev q10:=nthC [1,1,1,0,1,0,0] bd
theorem pl4 {G:Gs} (hG:AllE Tryd.prog (ents G)) (n:Nat):∀m,PieceOK Tryd.prog an (.loop q4) (dl4 G n m):=lpc hG (pc G n) [1,3,4,6,8,30,31,32] ⟨[1,3,4,6,8],[8,9],[(0,[1,3,4,6,8])]⟩ (apl [] trivial) (fun R st K=>by unfold dl4;split<;>rfl) fun m R st K r h=>by unfold dl4 at h;split at h;exact .trans (by kernel_rfl) h;cases h
theorem pl10 {G:Gs} (hG:AllE Tryd.prog (ents G)) (n:Nat):∀m,PieceOK Tryd.prog an (.loop q10) (dl10 G n m):=lpc hG (pc G n) [1,3,4,6,8,12] ⟨[8],[8,9],[(2,[8])]⟩ (apl [] trivial) (fun R st K=>by unfold dl10;split<;>rfl) fun m R st K r h=>by unfold dl10 at h;split at h;exact .trans (by kernel_rfl) h;cases h
noncomputable def Does (G:Gs) (g:Gr) (labels:List Int) (f:Fm) (most:Int) (r:Lasso×Bool):Prop:=∃n,main (R:=AT×List Ob) G n g labels f most (fun r0 r1=>some (.tup [.agg [.o 0,.i (Lasso.back r0)],.one (.b r1)],[.row .i 0 (Lasso.states r0)]))=some (.tup [.agg [.o 0,.i (Lasso.back r.1)],.one (.b r.2)],[.row .i 0 (Lasso.states r.1)])
theorem ok {G:Gs} (hG:AllE Tryd.prog (ents G)) {g:Gr->List Int->Fm->Int->Option (Lasso×Bool)} (hg:∀g_ labels f most r,g g_ labels f most=some r->Does G g_ labels f most r):EntOK Tryd.prog (ent g):=fun R xs H K r hc=>by
 simp only[ent]at hc
 split at hc
 ·obtain⟨r,j1,j2⟩:=bind_some hc
  obtain⟨n,j3⟩:=hg _ _ _ _ _ j1
  exact⟨_,_,j2,fnP hG an (pc G n) bd [.cell 8 33,.tmp 9] Tryd.func14 (.inr rfl) (apl [(1,4,.loop q4),(1,10,.loop q10)] ⟨pl4 hG n n,⟨pl10 hG n n,trivial⟩⟩) (.trans (by kernel_rfl) j3)⟩
 ·cases hc
end i_CounterRun_o
end Go.Proofs.YtjafncnjefnloaaDoor.Den

namespace Go.Proofs.YtjafncnjefnloaaDoor.Abs
open Go.RowKit
theorem fn_of_own {P : Program} {f : FuncId} {xs : List AV} {h : Heap} {s : Nat} {es : List (List V)} (hc : callable P f)
  (hh : ∀ (w : World) (I : Nat → Prop) (ι : List Inf) (cs : Array Value), (∀ b, I b → b < w.heap.size) → ARs ι I w xs cs → Calls P f cs w fun e w' => ∃ g cp cur t, e = .returned (.slice (some ⟨g, 0, none⟩) es.length cp) ∧ Below w.heap.size w w' ∧ w.heap.size ≤ g ∧
   w'.heap[g]? =some (.cells cur t (0,0))/\cur.size=cp*s/\es.length<=cp/\cp<=9223372036854775807/\(∀e∈es,e.length=s)/\∀(k:Nat) (hk:k<es.length) (j:Nat) (hj:j<es[k].length),∃u,cur[k*s+j]? =some u/\VR I w' [] es[k][j] u):
  Fn P f xs h (fun r h'=>r= .one (.own h.length 0 es.length)/\h'=h++[some (.row s es)]):=
 ⟨hc, fun w I ι cs hH hI hA => (hh w I ι cs hI hA).mono fun _ w' ⟨g, cp, cur, t, e1, hb, hg, hheap, hsz, hn, hcap, hs, hcell⟩ => ⟨_, _, ι ++ [⟨g, 0, cp, s⟩], I, _, ⟨rfl, rfl⟩, e1, by
  have h1:=hH.below hI hb
  have hlen:=hH.len
  have blk:∀{id:Nat} {o:Ob} {inf:Inf},h[id]? =some (some o)->ι[id]? =some inf->inf.block<w.heap.size:=fun {id o inf} q1 q2=>by
   have ho:=hH.obj id o inf q1 q2
   cases o with
   | row s es =>
    obtain⟨cur,t,e,_⟩:=ho
    rcases Nat.lt_or_ge inf.block w.heap.size with h|h
    ·exact h
    ·rw[Array.getElem?_eq_none h]at e;cases e
   | map kvs =>
    obtain⟨cur,t,e,_⟩:=ho
    rcases Nat.lt_or_ge inf.block w.heap.size with h|h
    ·exact h
    ·rw[Array.getElem?_eq_none h]at e;cases e
  have hnew:(ι++[⟨g,0,cp,s⟩])[h.length]? =some ⟨g,0,cp,s⟩:=by rw[hlen];simp
  have split:∀{id:Nat} {o:Ob} {inf:Inf},(h++[some (.row s es)])[id]? =some (some o)->(ι++[⟨g,0,cp,s⟩])[id]? =some inf->(h[id]? =some (some o)/\ι[id]? =some inf)\/(id=h.length/\o= .row s es/\inf=⟨g,0,cp,s⟩):=fun {id o inf} q1 q2=>by
   rcases Nat.lt_or_ge id h.length with hlt|hge
   ·rw[List.getElem?_append_left hlt]at q1
    rw[List.getElem?_append_left (by omega)]at q2
    exact .inl ⟨q1,q2⟩
   ·have hid:id=h.length:=by
     have:=(List.getElem?_eq_some_iff.1 q1).1
     simp at this
     omega
    subst hid
    rw[hnew]at q2
    simp at q1
    cases q2
    exact .inr ⟨rfl,q1.symm,rfl⟩
  exact
  { res := .one (by
      have:=VR.own (I:=I) (w:=w') (ι:=ι++[⟨g,0,cp,s⟩]) (id:=h.length) (off:=0) (len:=es.length) (c:=cp) hnew hn (by simp) hcap
      simpa using this)
    heap :=
      { len := by simp [hlen]
        obj := fun id o inf q1 q2 => by
          rcases split q1 q2 with⟨q1,q2⟩|⟨_,rfl,rfl⟩
          · exact(h1.obj id o inf q1 q2).keep (Grows.app _ _) (Keeps.refl _ _) rfl
          · refine⟨cur,t,hheap,rfl,by simpa using hsz,hcap,hn,hs,fun k hk j hj=> ?_⟩
            obtain⟨u,u1,u2⟩:=hcell k hk j hj
            exact⟨u,by simpa using u1,u2.up⟩
        off := fun id o inf q1 q2 q3 => by
          rcases split q1 q2 with⟨q1,q2⟩|⟨_,rfl,rfl⟩
          · exact h1.off id o inf q1 q2 q3
          · have:=hI _ q3
            simp only at this
            omega
        inj := fun id id' o o' inf inf' q1 q2 q3 q4 e => by
          rcases split q1 q3 with⟨a1,a2⟩|⟨rfl,rfl,rfl⟩<;>rcases split q2 q4 with⟨b1,b2⟩|⟨rfl,rfl,rfl⟩
          · exact h1.inj id id' o o' inf inf' a1 b1 a2 b2 e
          · have:=blk a1 a2
            simp only at e
            omega
          · have:=blk b1 b2
            simp only at e
            omega
          · rfl}
    imm:=fun b hb'=>Nat.lt_of_lt_of_le (hI b hb') hb.size
    immlo:=fun _ hb'=>.inl hb'
    pre:=Grows.app _ _
    os:=hb.os
    tape:=hb.tape
    output:=hb.output
    grown:=hb.size
    frame:=fun b hlt _=>hb.block b hlt
    mine:=fun id o inf q1 q2=>by
      rcases split q1 q2 with⟨q1,q2⟩|⟨_,rfl,rfl⟩
      · exact .inl ⟨id,o,inf,q1,q2,rfl⟩
      · exact .inr hg}⟩⟩
end Go.Proofs.YtjafncnjefnloaaDoor.Abs
namespace Go.Proofs.YtjafncnjefnloaaDoor.Den
open Go.RowKit
open Classical
open Abs (V AV VR)
theorem clone_own (xs : List Int) (h0 : xs ≠ []) (hl : xs.length ≤ 1000) : CFn Tryd.prog 83 [.one (.l .i xs)] [] (.one (.o 0)) [.row .i 0 xs] := fun ρ h avs hH hA => by
 obtain⟨hA1,hA2⟩:=hA
 match avs,hA1 with
 | [x], _ =>
  have ex:=hA2 0 (by simp) (by simp)
  simp only[List.getElem_cons_zero]at ex
  cases ex with
  |one ex=>
  obtain⟨es,rfl,e1,e2⟩:=ex.ints
  have hfr:FR (.l .i xs) (.imm (szT .i) es):=by
   cases ex with
   |fl h=>exact h
  have hρ:ρ=[]:=by have:=hH.len;simpa using this
  subst hρ
  refine (Abs.fn_of_own (s := 1) (es := es) ⟨Tryd.f83, Tryd.func83, by kernel_rfl, by kernel_rfl⟩ fun w I ι cs hI hAr => ?_).mono fun r h' ⟨q1, q2⟩ => by
   subst q1;subst q2
   have hnew:(h++[some (Abs.Ob.row 1 es)])[h.length]? =some (some (.row 1 es)):=by simp
   refine⟨[some h.length],.one ?_,?_,?_⟩
   ·rw[e1];exact .o (T:=.i) (n:=0) (xs:=xs) rfl rfl
   ·exact
    { len := rfl
      row := fun id n T ys q => by
        match id,q with
        | 0, q =>
          have q:=Option.some.inj (show some (Ob.row .i 0 xs)=some (.row T n ys)from q)
          cases q
          exact .inl ⟨h.length,es,rfl,hnew,hfr⟩
        |id+1,q=>simp at q
      box:=fun id cs q=>by
        match id,q with
        |0,q=>simp at q
        |id+1,q=>simp at q
      map:=fun id T kvs q=>by
        match id,q with
        |0,q=>simp at q
        |id+1,q=>simp at q
      inj:=fun i j a q1 q2 _ _=>by
        have a1:=(List.getElem?_eq_some_iff.1 q1).1
        have a2:=(List.getElem?_eq_some_iff.1 q2).1
        simp at a1 a2
        omega
      lt := fun i a q => by
        match i,q with
        | 0, q =>
          simp at q
          subst q
          simp
        |i+1,q=>simp at q}
   ·exact
    { len := by simp
      old := fun id a q1 _ q2 => by
        match id,q1 with
        | 0, q1 =>
          simp at q1
          subst q1
          simp at q2
        |id+1,q1=>simp at q1
      same:=fun a ha _=>List.getElem?_append_left ha
      rho:=fun id x q=>by simp at q
      ob:=fun id x q=>by simp at q}
  obtain⟨c,rfl,p1⟩:∃c,cs= #[c]/\VR I w ι (.imm 1 es) c:=by
   obtain⟨h1,h2⟩:=hAr
   obtain⟨u,u1,u2⟩:=h2 0 (by simp)
   rcases cs with⟨l⟩
   match l,h1 with
   | [p], _ =>
    simp at u1
    subst u1
    cases u2 with
    |one u2=>exact⟨p,rfl,u2⟩
  cases p1 with
  |imm0 hc=>exact absurd (List.eq_nil_of_length_eq_zero (by rw[<-e1];rfl)) h0
  | @imm _ _ b off cap _ f hs hc hm hI' hcell hr =>
   have hlit:∀(k:Nat) (hk:k<es.length),∃h3:0<es[k].length,es[k][0]= .lit (.int .i64 (xs.getD k 0))/\Abs.okLit (.int .i64 (xs.getD k 0))/\f k 0= .int .i64 (xs.getD k 0):=fun k hk=>by
    have hl1:=hs es[k] (List.getElem_mem hk)
    have h3:0<es[k].length:=by omega
    have q:=e2 k (by omega) hk h3
    have hg:xs.getD k 0=xs[k]'(by omega):=by simp[List.getD,List.getElem?_eq_getElem (show k<xs.length by omega)]
    have hv:=hr k hk 0 h3
    rw[q]at hv
    refine⟨h3,by rw[q,hg],?_⟩
    rw[hg]
    generalize xs[k]'(by omega)=y at hv
    generalize f k 0=z at hv
    cases hv with
    |lit hv=>exact⟨hv,rfl⟩
   have:=Tryd.slices_Clone_int b off es.length cap xs w (by omega) (by omega) fun j hj=>by
    obtain⟨_,_,_,q3⟩:=hlit j (by omega)
    have:=hcell j 0 (by omega) (by omega)
    rw[q3]at this
    simpa using this
   refine this.mono fun e w' ⟨v',k1,k2,k3,k4⟩=> ?_
   have k2':=k2
   obtain⟨_,⟨rfl,_⟩|⟨g,cp,cur,rfl,hg,hheap,hn,hcap,hsz,_⟩⟩:=k2
   ·exact absurd rfl k3
   ·have hcells:=k2'.cells (g:=g) rfl
    refine⟨g,cp,cur,_,k1,k4,hg,hheap,hsz,hn,by unfold maxLen at hcap;omega,hs,fun k hk j hj=> ?_⟩
    have hl1:=hs es[k] (List.getElem_mem hk)
    obtain rfl:j=0:=by omega
    obtain⟨_,q1,q2,_⟩:=hlit k hk
    refine⟨.int .i64 (xs.getD k 0),?_,by rw[q1];exact .lit q2⟩
    have:=hcells k (.int .i64 (xs.getD k 0)) (by
     have hk':k<xs.length:=by omega
     rw[List.getElem?_map,List.getElem?_take_of_lt hk,List.getElem?_eq_getElem hk']
     simp[List.getD,List.getElem?_eq_getElem hk'])
    rw[Addr.add_lit]at this
    simpa [World.cell?,hheap]using this
theorem cloneO_ok :EntOK Tryd.prog (slices_Clone_intint_o.ent gClone):=fun R xs H K r hc=>by
 simp only[slices_Clone_intint_o.ent]at hc
 split at hc
 ·rename_i a
  obtain⟨r,q1,q2⟩:=bind_some hc
  unfold gClone at q1
  split at q1
  ·rename_i hl
   cases q1
   exact⟨_,_,q2,clone_own a hl.1 hl.2⟩
  ·cases q1
 ·cases hc
theorem take_run {P : Program} {f : FuncId} {x0 x1 x2 x4 : AT} {s r : List Int} {b : Int} {ok : Bool} (hfl : peekAs [] [x0, x1, x2, .one (.l .i s), x4] = some [x0, x1, x2, .one (.l .i s), x4]) (hfz : [x0, x1, x2, AT.one (.o 0), x4].map (AT.fz 0 .i s) = [x0, x1, x2, .one (.l .i s), x4])
  (hc:CFn P f [x0,x1,x2,.one (.l .i s),x4] [] (.tup [.agg [.o 0,.i b],.one (.b ok)]) [.row .i 0 r]):CFn P f [x0,x1,x2,.one (.o 0),x4] [.row .i 0 s] (.tup [.agg [.o 1,.i b],.one (.b ok)]) [.gone,.row .i 0 r]:=fun ρ h avs hp ha=>by
 obtain⟨h1,bvs,a1,a2,a3,a4⟩:=fz1_ok (F:=⟨h,ρ,[.row .i 0 s]⟩) (id:=0) rfl hp (Fr.refl _ _ _) ha
 rw[hfz]at a3
 obtain⟨cvs,k1,_,k3⟩:=peekAs0_ok hfl a3
 have hF:=hc [] h1 cvs HpR.nil_ k1
 refine⟨hF.1,fun w I ι cs hH hI hA=> ?_⟩
 obtain⟨I1,r1,q⟩:=a4 ⟨w,Abs.passOf ι h,ι,0,I⟩ [] ι I ⟨#[],[]⟩ w
  { slots := fun t v hv => by simp at hv
    heap:=hH
    imm:=hI
    immlo:=fun _ hb=>.inl hb
    pre:=Abs.Grows.refl _
    os:=rfl
    tape:=rfl
    output:=rfl
    grown:=Nat.le_refl _
    frame:=fun _ _ _=>rfl
    mine:=fun id o inf q1 q2=>.inl ⟨id,o,inf,q1,q2,rfl⟩
    defers:=rfl
    size:=rfl}
 have pass:∀b,Abs.passOf ι h1 b->Abs.passOf ι h b\/w.heap.size<=b:=fun b ⟨id,o,inf,q1,q2,e⟩=>by
  subst e
  exact r1.mine id o inf q1 q2
 refine(hF.2 w I1 ι cs r1.heap r1.imm (k3.ars (q cs hA))).mono ?_
 rintro e w' ⟨av,h',ι',I',c,⟨ρ',n1,n2,n3⟩,rfl,D⟩
 obtain⟨y,hy⟩:∃y,ρ=[y]:=by
  have:=hp.len
  match ρ,this with
  |[y],_=>exact⟨y,rfl⟩
 subst hy
 have hl':ρ'.length=1:=n2.len
 obtain⟨z,hz⟩:∃z,ρ'=[z]:=by
  match ρ',hl' with
  |[z],_=>exact⟨z,rfl⟩
 subst hz
 have hle:h.length<=h'.length:=Nat.le_trans a2.len n3.len
 refine⟨av,h',ι',I',c,⟨[y,z],?_,?_,?_⟩,rfl,{D with immlo:=fun b hb=> ?_,frame:=fun b hlt hn=>D.frame b hlt fun hq=>(pass b hq).elim hn (by omega),mine:=fun id o inf q1 q2=>(D.mine id o inf q1 q2).elim (pass _) .inr}⟩
 ·cases n1 with
  | @tup _ ys hl hr =>
   match ys,hl with
   | [y1, y2], _ =>
    have e1:=hr 0 (by simp) (by simp)
    have e2:=hr 1 (by simp) (by simp)
    simp only[List.getElem_cons_zero,List.getElem_cons_succ]at e1 e2
    refine .tup rfl fun j j1 j2=> ?_
    match j,j1,j2 with
    | 0, _, _ =>
     cases e1 with
     | @agg _ vs hcr =>
      obtain⟨hl2,hr2⟩:=hcr
      match vs,hl2 with
      | [v1, v2], _ =>
       have f1:=hr2 0 (by simp) (by simp)
       have f2:=hr2 1 (by simp) (by simp)
       simp only[List.getElem_cons_zero,List.getElem_cons_succ]at f1 f2
       refine .agg ⟨rfl,fun j j1 j2=> ?_⟩
       match j,j1,j2 with
       | 0, _, _ =>
        cases f1 with
        |fl h=>cases h
        |o q1 q2=>exact .o (id:=1) q1 q2
        |oN q1 q2=>exact .oN (id:=1) q1 q2
        |oG q=>simp at q
        |oR q1 q2=>simp at q2
       | 1, _, _ =>
        cases f2 with
        |fl h=>exact .fl h
    | 1, _, _ =>
     cases e2 with
     | one e2 =>
      cases e2 with
      |fl h=>exact .one (.fl h)
 ·exact
  { len := rfl
    row:=fun id n T xs e=>by
      match id,e with
      |0,e=>simp at e
      |1,e=>exact n2.row 0 n T xs e
      |id+2,e=>simp at e
    box:=fun id cs e=>by
      match id,e with
      |0,e=>simp at e
      |1,e=>simp at e
      |id+2,e=>simp at e
    map:=fun id T kvs e=>by
      match id,e with
      |0,e=>simp at e
      |1,e=>simp at e
      |id+2,e=>simp at e
    inj := fun i j a _ _ l1 l2 => by
      have one:∀i,live [Ob.gone,.row .i 0 r] i->i=1:=fun i ⟨x,q1,q2⟩=>by
        match i,q1 with
        |0,q1=>simp at q1;subst q1;simp at q2
        |1,_=>rfl
        |i+2,q1=>simp at q1
      rw[one i l1,one j l2]
    lt := fun i a q => by
      match i,q with
      |0,q=>exact Nat.lt_of_lt_of_le (hp.lt 0 a q) hle
      |1,q=>exact n2.lt 0 a q
      |i+2,q=>simp at q}
 ·refine a2.trans ?_
  exact
  { len := n3.len
    old := fun id a q1 q2 q3 => by
      match id,q1 with
      | 0, q1 =>
        obtain⟨x,x1,x2⟩:=q2
        simp at x1
        subst x1
        simp at x2
      | 1, q1 =>
        obtain⟨id0,k0,_⟩:=n3.old 0 a q1 ⟨_,rfl,rfl⟩ q3
        simp at k0
      |id+2,q1=>simp at q1
    same:=fun a ha _=>n3.same a ha fun id q=>by simp at q
    rho:=fun id x q=>by
      match id,q with
      |0,q=>exact q
      |id+1,q=>simp at q
    ob := fun id x q => by
      match id,q with
      |0,q=>exact⟨.gone,rfl,by simp at q;subst q;exact evo0.refl _⟩
      |id+1,q=>simp at q}
 ·rcases D.immlo b hb with q|q|q
  ·exact r1.immlo b q
  ·exact(pass b q).elim (fun k=>.inr (.inl k)) fun k=>.inr (.inr k)
  ·exact .inr (.inr q)
theorem takeE {g:Gr->List Int->Fm->List Int->Int->Option (Lasso×Bool)} (h:EntOK Tryd.prog (i_counterRun_od.ent g)):EntOK Tryd.prog (i_counterRun_o.ent g):=fun R xs H K r hc=>by
 simp only[i_counterRun_o.ent]at hc
 split at hc
 ·rename_i a a2 a3 a4 a5 a6 a7 a8 s
  obtain⟨r,q1,q2⟩:=bind_some hc
  obtain⟨v,H',e,k⟩:=h (AT×List Ob) [.agg [.l (.n 1) a,.l (.sl .i) a2,.b a3],.one (.l .i a4),.agg [.i a5,.i a6,.l (.n 2) a7],.one (.l .i s),.one (.i a8)] [] (fun v H'=>some (v,H')) _ (congrArg (fun o:Option (Lasso×Bool)=>o.bind fun r=>some (AT.tup [.agg [.o 0,.i (Lasso.back r.1)],.one (.b r.2)],[Ob.row .i 0 (Lasso.states r.1)])) q1)
  cases e
  exact⟨_,_,q2,take_run rfl rfl k⟩
 ·cases hc
theorem crO_main {R:Type} (a:Gr->Int->Option (List Int)) (b:List Int->Int->Option Bool) (c:Fm->Lasso->List Int->Option (List Bool)) (d e:List Int->Option (List Int)) (h:Gr->List Int->Fm->List Int->Int->Option (Lasso×Bool)):
  @i_counterRun_od.main R ⟨a,b,c,d,e,h⟩= @i_counterRun.main R ⟨a,b,c,d,e,h⟩:=by kernel_rfl
theorem cntO_main {R:Type} (a:Gr->List Int->Fm->Option Bool) (b:Gr->List Int->Fm->List Int->Int->Option (Lasso×Bool)): @i_CounterRun_o.main R ⟨a,b⟩= @i_CounterRun.main R ⟨a,b⟩:=by kernel_rfl
theorem crO_ok :∀k,EntOK Tryd.prog (i_counterRun_o.ent (gCr k))
 | 0 => by
  rw[gCr_zero]
  intro R xs H K r h
  simp only[i_counterRun_o.ent]at h
  split at h<;>cases h
 | k + 1 => takeE (i_counterRun_od.ok (G := ⟨gFollow, gHasInt, gPl 13, gClone, gClip, gCr k⟩) ⟨followers_ok, cont_ok, places_ok 13, cloneO_ok, clip_ok, crO_ok k, trivial⟩ fun g labels f s n1 r h => by
  unfold gCr at h
  split at h
  ·rename_i hp
   cases h
   obtain⟨h1,h2,h3,h4,h5⟩:=hp
   obtain⟨n1,rfl⟩:=Int.eq_ofNat_of_zero_le (show 0<=n1 by omega)
   refine⟨100,?_⟩
   rw[crO_main]
   exact crI_main h1 h2 k (by omega) (by omega) (by omega) _
  ·cases h)
theorem cntO_ok :EntOK Tryd.prog (i_CounterRun_o.ent gCnt):=i_CounterRun_o.ok (G:=⟨gChk,gCr 8⟩) ⟨chk_ok,crO_ok 8,trivial⟩ fun g labels f most r h=>by
 unfold gCnt at h
 split at h
 ·rename_i hp
  cases h
  refine⟨100,?_⟩
  rw[cntO_main]
  exact cntI_main most hp _
 ·cases h
end Go.Proofs.YtjafncnjefnloaaDoor.Den

namespace Go.Proofs.YtjafncnjefnloaaDoor.Den
open Go.RowKit
open Classical
theorem cntF_len (g:Gr) (labels:List Int) (f:Fm) (most:Int):(cntF g labels f most).1.states.length<=7:=by
 unfold cntF
 split
 ·rename_i h
  cases hf:firstC g labels f most.toNat 1 with
  |none=>simp[outC]
  | some l =>
   obtain⟨m,h1,h2,h3,_⟩:=firstC_spec _ _ _ hf
   have:=crF_len g labels f _ _ _ h3
   simp only[outC]
   simp at this
   omega
 ·simp
theorem small_at {g:Gr} {labels:List Int} {f:Fm} (h1:tmTotals g.states+rowTotals g.edges<=1048576) (h2:labels.length<=1048576) (h3:f.total<=1048576):smallA g labels f:=by
 unfold tmTotals rowTotals at h1
 refine⟨⟨by omega,by omega,fun row hr=> ?_⟩,by omega,by unfold Fm.size;omega⟩
 have:=le_sum_of_mem (f:=List.length) hr
 omega
theorem ars_nilJ {J:Nat->Prop} {w:World}:Abs.ARs [] J w [] #[]:=⟨rfl,fun j h=>by simp at h⟩
theorem ars_consJ {J:Nat->Prop} {w:World} {av:Abs.AV} {avs:List Abs.AV} {v:Value} {vs:List Value} (h:Abs.AR [] J w av v) (k:Abs.ARs [] J w avs vs.toArray):Abs.ARs [] J w (av::avs) (v::vs).toArray:=by
 refine⟨by have:=k.1;simpa using this,fun j hj=> ?_⟩
 cases j with
 |zero=>exact⟨v,by simp,h⟩
 | succ j =>
  obtain⟨c,c1,c2⟩:=k.2 j (by simpa using hj)
  exact⟨c,by simpa using c1,c2⟩
theorem gCnt_small {g:Gr} {labels:List Int} {f:Fm} {most:Int} (h:smallA g labels f):gCnt g labels f most=some (cntF g labels f most):=if_pos h
section
variable {g : Gr} {labels : List Int} {f : Fm} {most : Int} (hsm : smallA g labels f) {w : World} {J : Nat → Prop} (hJ : ∀ b, J b → b < w.heap.size) {v u lv fv : Value} (h : At w J (terms g.states) v) (k : At w J (rows g.edges) u) (l : At w J (ints labels) lv) (m : At w J (forms f.kids) fv)
 (hk:(Lit.int .i64 f.kind).wf=true) (hp:(Lit.int .i64 f.prop).wf=true) (hm:(Lit.int .i64 most).wf=true)
include hsm hJ h k l m hk hp hm
theorem spec_cnt :Calls Tryd.prog 10 #[.agg #[v,u,.bool g.whole],lv,.agg #[.int .i64 f.kind,.int .i64 f.prop,fv],.int .i64 most] w fun e w'=>∃sv,e= .returned (.tuple #[.agg #[sv,.int .i64 (cntF g labels f most).1.back],.bool (cntF g labels f most).2])/\
  At w' (fun b=>J b\/w.heap.size<=b) (ints (cntF g labels f most).1.states) sv/\Below w.heap.size w w':=by
 have hcfn:CFn Tryd.prog 10 [.agg [.l (.n 1) g.states,.l (.sl .i) g.edges,.b g.whole],.one (.l .i labels),.agg [.i f.kind,.i f.prop,.l (.n 2) f.kids],.one (.i most)] [] (.tup [.agg [.l .i (cntF g labels f most).1.states,.i (cntF g labels f most).1.back],.one (.b (cntF g labels f most).2)]) []:=by
  obtain⟨v,H',e,q⟩:=cntS_ok (AT×List Ob) [.agg [.l (.n 1) g.states,.l (.sl .i) g.edges,.b g.whole],.one (.l .i labels),.agg [.i f.kind,.i f.prop,.l (.n 2) f.kids],.one (.i most)] [] (fun v H'=>some (v,H')) _ (congrArg (fun o:Option (Lasso×Bool)=>o.bind fun r=>some (AT.tup [.agg [.l .i (Lasso.states r.1),.i (Lasso.back r.1)],.one (.b r.2)],([]:List Ob))) (show gCnt ⟨g.states,g.edges,g.whole⟩ labels ⟨f.kind,f.prop,f.kids⟩ most=some (cntF g labels f most) by rw[Fm.eta];exact gCnt_small hsm))
  cases e
  exact q
 obtain⟨v1,t1,a1⟩:=arg_graph (fun b hb _=>hb) h k
 obtain⟨v2,t2,a2⟩:=arg_ints (fun b hb _=>hb) l
 obtain⟨v3,t3,a3⟩:=arg_form (fun b hb _=>hb) hk hp m
 obtain⟨v4,t4,a4⟩:=arg_int (w:=w) (J:=J) hm
 refine(calls_cfn hcfn hJ (atrs_cons t1 (atrs_cons t2 (atrs_cons t3 (atrs_cons t4 atrs_nil)))) (ars_consJ a1 (ars_consJ a2 (ars_consJ a3 (ars_consJ a4 ars_nilJ))))).mono fun e w' ⟨r,h',ι',I',c,ρ',e1,q1,_,D,hb⟩=> ?_
 obtain⟨r1,r2,c1,c2,rfl,y1,y2,y3,y4⟩:=res_tup2 q1 D.res
 obtain⟨x1,x2,c3,c4,rfl,p1,p2,p3,p4⟩:=res_agg2 y1 y2
 obtain⟨x3,p5,p6⟩:=res_one y3 y4
 obtain⟨rfl,_⟩:=res_int p3 p4
 obtain rfl:=res_bool p5 p6
 exact⟨_,e1,(res_ints p1 p2).mono fun b hI _=>(D.immlo b hI).elim .inl fun q=>q.elim (fun q=>(Abs.noPass b q).elim) .inr,hb⟩
theorem impl_cnt :Calls Tryd.prog 14 #[.agg #[v,u,.bool g.whole],lv,.agg #[.int .i64 f.kind,.int .i64 f.prop,fv],.int .i64 most] w fun e w'=>∃sv S,e= .returned (.tuple #[.agg #[sv,.int .i64 (cntF g labels f most).1.back],.bool (cntF g labels f most).2])/\
  (∀b,S b->w.heap.size<=b)/\Soft S w'/\At w' S (ints (cntF g labels f most).1.states) sv/\Below w.heap.size w w':=by
 have hcfn:CFn Tryd.prog 14 [.agg [.l (.n 1) g.states,.l (.sl .i) g.edges,.b g.whole],.one (.l .i labels),.agg [.i f.kind,.i f.prop,.l (.n 2) f.kids],.one (.i most)] [] (.tup [.agg [.o 0,.i (cntF g labels f most).1.back],.one (.b (cntF g labels f most).2)]) [.row .i 0 (cntF g labels f most).1.states]:=by
  obtain⟨v,H',e,q⟩:=cntO_ok (AT×List Ob) [.agg [.l (.n 1) g.states,.l (.sl .i) g.edges,.b g.whole],.one (.l .i labels),.agg [.i f.kind,.i f.prop,.l (.n 2) f.kids],.one (.i most)] [] (fun v H'=>some (v,H')) _ (congrArg (fun o:Option (Lasso×Bool)=>o.bind fun r=>some (AT.tup [.agg [.o 0,.i (Lasso.back r.1)],.one (.b r.2)],[Ob.row .i 0 (Lasso.states r.1)])) (show gCnt ⟨g.states,g.edges,g.whole⟩ labels ⟨f.kind,f.prop,f.kids⟩ most=some (cntF g labels f most) by rw[Fm.eta];exact gCnt_small hsm))
  cases e
  exact q
 obtain⟨v1,t1,a1⟩:=arg_graph (fun b hb _=>hb) h k
 obtain⟨v2,t2,a2⟩:=arg_ints (fun b hb _=>hb) l
 obtain⟨v3,t3,a3⟩:=arg_form (fun b hb _=>hb) hk hp m
 obtain⟨v4,t4,a4⟩:=arg_int (w:=w) (J:=J) hm
 refine(calls_cfn hcfn hJ (atrs_cons t1 (atrs_cons t2 (atrs_cons t3 (atrs_cons t4 atrs_nil)))) (ars_consJ a1 (ars_consJ a2 (ars_consJ a3 (ars_consJ a4 ars_nilJ))))).mono fun e w' ⟨r,h',ι',I',c,ρ',e1,q1,q2,D,hb⟩=> ?_
 obtain⟨r1,r2,c1,c2,rfl,y1,y2,y3,y4⟩:=res_tup2 q1 D.res
 obtain⟨x1,x2,c3,c4,rfl,p1,p2,p3,p4⟩:=res_agg2 y1 y2
 obtain⟨x3,p5,p6⟩:=res_one y3 y4
 obtain⟨rfl,_⟩:=res_int p3 p4
 obtain rfl:=res_bool p5 p6
 obtain⟨S,s1,s2,s3⟩:=res_own (B:=w.heap.size) rfl q2 D.heap (fun id o inf k1 k2=>(D.mine id o inf k1 k2).elim (fun q=>(Abs.noPass _ q).elim) fun q=>q) p1 p2
 exact⟨_,S,e1,s1,s2,s3,hb⟩
end
end Go.Proofs.YtjafncnjefnloaaDoor.Den

namespace Go.Proofs.YtjafncnjefnloaaDoor
open Go.RowKit
structure MA (g:Gr) (f:Fm) (ls:List Int) (gv ge lv fv:Value) (w W:World):Prop where
 bel:Below w.heap.size w W
 lo:w.heap.size+2<=W.heap.size
 gB:Blk W w.heap.size 25 #[gv,ge,.bool g.whole]
 fB:Blk W (w.heap.size+1) 29 #[.int .i64 f.kind,.int .i64 f.prop,fv]
 g1:At W (Old w) (terms g.states) gv
 g2:At W (Old w) (rows g.edges) ge
 l:At W (Old w) (ints ls) lv
 f1:At W (Old w) (forms f.kids) fv
section
variable {g : Gr} {f : Fm} {ls : List Int} {gv ge lv fv : Value} {w W W' : World} {S : Nat → Prop}
theorem MA.next (h:MA g f ls gv ge lv fv w W) (hb:Below W.heap.size W W'):MA g f ls gv ge lv fv w W':=
 ⟨h.bel.trans (hb.mono h.bel.size),Nat.le_trans h.lo hb.size,h.gB.next hb,h.fB.next hb,h.g1.below hb,h.g2.below hb,h.l.below hb,h.f1.below hb⟩
theorem MA.alloc (h:MA g f ls gv ge lv fv w W) (o:Obj):MA g f ls gv ge lv fv w (W.alloc o):=h.next ((Below.refl _ _).alloc (Nat.le_refl _) _)
theorem MA.drew (h:MA g f ls gv ge lv fv w W):MA g f ls gv ge lv fv w W.drew:=h.next (Below.refl _ _).drew
theorem MA.far (h:MA g f ls gv ge lv fv w W) {p:Addr} (hp:w.heap.size+2<=p.block) (u:Value):MA g f ls gv ge lv fv w (W.setCell p u):=
 ⟨h.bel.setCell (by omega) _,by simpa using h.lo,h.gB.far (by omega) _,h.fB.far (by omega) _,h.g1.setCell (by simp only[Old];omega) _,h.g2.setCell (by simp only[Old];omega) _,h.l.setCell (by simp only[Old];omega) _,h.f1.setCell (by simp only[Old];omega) _⟩
theorem MA.like (h:MA g f ls gv ge lv fv w W) (hL:Like S W W') (hS:∀b,S b->w.heap.size+2<=b):MA g f ls gv ge lv fv w W':=
 have d:∀b,Old w b->¬S b:=fun b hb hs=>by have:=hS b hs;simp only[Old]at hb;omega
 ⟨h.bel.trans (hL.below (Nat.le_trans (by omega) h.lo) fun b hb=>by have:=hS b hb;omega),Nat.le_trans h.lo hL.size,hL.blk h.gB fun q=>by have:=hS _ q;omega,hL.blk h.fB fun q=>by have:=hS _ q;omega,h.g1.like hL d,h.g2.like hL d,h.l.like hL d,h.f1.like hL d⟩
end
structure MS (xs:List Int) (back:Int) (p:Nat) (sv:Value) (B:Nat) (W:World):Prop where
 blk:Blk W p 33 #[sv,.int .i64 back]
 lt:p<B
 le:B<=W.heap.size
 at_:At W (fun b=>b<B) (ints xs) sv
section
variable {xs : List Int} {back : Int} {p B : Nat} {sv : Value} {W W' : World} {S : Nat → Prop}
theorem MS.next (h:MS xs back p sv B W) (hb:Below W.heap.size W W'):MS xs back p sv B W':=⟨h.blk.next hb,h.lt,Nat.le_trans h.le hb.size,h.at_.below hb⟩
theorem MS.alloc (h:MS xs back p sv B W) (o:Obj):MS xs back p sv B (W.alloc o):=h.next ((Below.refl _ _).alloc (Nat.le_refl _) _)
theorem MS.drew (h:MS xs back p sv B W):MS xs back p sv B W.drew:=h.next (Below.refl _ _).drew
theorem MS.like (h:MS xs back p sv B W) (hL:Like S W W') (hS:∀b,S b->B<=b):MS xs back p sv B W':=
 ⟨hL.blk h.blk fun q=>by have:=hS _ q;have:=h.lt;omega,h.lt,Nat.le_trans h.le hL.size,h.at_.like hL fun b hb hs=>by have:=hS b hs;omega⟩
end
structure MG (xs:List Int) (back:Int) (p:Nat) (sv:Value) (B:Nat) (T:Nat->Prop) (W:World):Prop where
 blk:Blk W p 33 #[sv,.int .i64 back]
 lo:B<=p
 off:¬T p
 from_:∀b,T b->B<=b
 soft:Soft T W
 at_:At W T (ints xs) sv
section
variable {xs : List Int} {back : Int} {p B : Nat} {sv : Value} {W W' : World} {S T : Nat → Prop}
theorem MG.next (h:MG xs back p sv B T W) (hb:Below W.heap.size W W'):MG xs back p sv B T W':=⟨h.blk.next hb,h.lo,h.off,h.from_,h.soft.like (Like.of_below (S:=T) hb),h.at_.below hb⟩
theorem MG.drew (h:MG xs back p sv B T W):MG xs back p sv B T W.drew:=h.next (Below.refl _ _).drew
theorem MG.like (h:MG xs back p sv B T W) (hL:Like S W W') (hS:∀b,S b->b<B):MG xs back p sv B T W':=
 ⟨hL.blk h.blk fun q=>by have:=hS _ q;have:=h.lo;omega,h.lo,h.off,h.from_,h.soft.like hL,h.at_.like hL fun b hb hs=>by have:=hS b hs;have:=h.from_ b hb;omega⟩
end
structure MX (g:Gr) (f:Fm) (ls:List Int) (p q:Nat) (x1 x2 x3 x4:Value) (S:Nat->Prop) (W:World):Prop where
 gB:Blk W p 38 #[x1,x2,.bool g.whole]
 fB:Blk W q 43 #[.int .i64 f.kind,.int .i64 f.prop,x4]
 hp:¬S p
 hq:¬S q
 soft:Soft S W
 a1:At W S (terms g.states) x1
 a2:At W S (rows g.edges) x2
 a3:At W S (ints ls) x3
 a4:At W S (forms f.kids) x4
section
variable {g : Gr} {f : Fm} {ls : List Int} {p q : Nat} {x1 x2 x3 x4 : Value} {W W' : World} {S : Nat → Prop}
theorem MX.next (h:MX g f ls p q x1 x2 x3 x4 S W) (hb:Below W.heap.size W W'):MX g f ls p q x1 x2 x3 x4 S W':=
 ⟨h.gB.next hb,h.fB.next hb,h.hp,h.hq,h.soft.like (Like.of_below (S:=S) hb),h.a1.below hb,h.a2.below hb,h.a3.below hb,h.a4.below hb⟩
theorem MX.alloc (h:MX g f ls p q x1 x2 x3 x4 S W) (o:Obj):MX g f ls p q x1 x2 x3 x4 S (W.alloc o):=h.next ((Below.refl _ _).alloc (Nat.le_refl _) _)
theorem MX.drew (h:MX g f ls p q x1 x2 x3 x4 S W):MX g f ls p q x1 x2 x3 x4 S W.drew:=h.next (Below.refl _ _).drew
end
structure MB (w0 W:World):Prop where
 bel:Below w0.heap.size w0 W
theorem MB.refl (w0:World):MB w0 w0:=⟨Below.refl _ _⟩
theorem MB.next {w0 W W':World} (h:MB w0 W) (hb:Below W.heap.size W W'):MB w0 W':=⟨h.bel.trans (hb.mono h.bel.size)⟩
theorem MB.alloc {w0 W:World} (h:MB w0 W) (o:Obj):MB w0 (W.alloc o):=h.next ((Below.refl _ _).alloc (Nat.le_refl _) _)
theorem MB.drew {w0 W:World} (h:MB w0 W):MB w0 W.drew:=h.next (Below.refl _ _).drew
theorem off_z {W w':World} {G:Nat} {t:TypeId} {cs:Array Value} {T:Nat->Prop} {d:D} {v:Value} (z:Blk W G t cs) (hT:∀b,T b->W.heap.size<=b) (h:At w' T d v):At w' (fun b=>b≠G) d v:=h.mono fun b hb _=>by have:=hT b hb;have:=z.lt;omega
theorem off_n {w':World} {T:Nat->Prop} {d:D} {v:Value} (hs:Soft T w') (h:At w' T d v):At w' (fun b=>b≠w'.heap.size) d v:=h.mono fun b hb _=>by have:=(hs b hb).1;omega
theorem box_out {xs:List Int} {back:Int} {w0 W:World} {G:Nat} {sv:Value} (a:MB w0 W) (z:Blk W G 33 #[.slice none 0 0,.int .i64 0]) (hG:w0.heap.size<=G) (h:At W (fun b=>b≠G) (ints xs) sv):
  Below w0.heap.size w0 ((W.setCell ⟨G,0,none⟩ sv).setCell ⟨G,1,none⟩ (.int .i64 back))/\Blk ((W.setCell ⟨G,0,none⟩ sv).setCell ⟨G,1,none⟩ (.int .i64 back)) G 33 #[sv,.int .i64 back]/\At ((W.setCell ⟨G,0,none⟩ sv).setCell ⟨G,1,none⟩ (.int .i64 back)) Any (ints xs) sv:=by
 refine⟨(a.bel.setCell (by simpa using hG) _).setCell (by simpa using hG) _,?_,((h.setCell (by simp) _).setCell (by simp) _).any⟩
 have z1:Blk (W.setCell ⟨G,0,none⟩ sv) G 33 #[sv,.int .i64 0]:=z.set_ 0 sv
 exact z1.set_ 1 _
def SpecC (g:Gr) (f:Fm) (ls:List Int) (most:Int) (xs:List Int) (back:Int) (ok:Bool):Prop:=∀(w:World) (J:Nat->Prop) (v u lv fv:Value),(∀b,J b->b<w.heap.size)->At w J (terms g.states) v->At w J (rows g.edges) u->At w J (ints ls) lv->At w J (forms f.kids) fv->
  Calls Tryd.prog 10 #[.agg #[v,u,.bool g.whole],lv,.agg #[.int .i64 f.kind,.int .i64 f.prop,fv],.int .i64 most] w fun e w'=>∃sv,e= .returned (.tuple #[.agg #[sv,.int .i64 back],.bool ok])/\At w' (fun b=>J b\/w.heap.size<=b) (ints xs) sv/\Below w.heap.size w w'
def ImplC (g:Gr) (f:Fm) (ls:List Int) (most:Int) (xs:List Int) (back:Int) (ok:Bool):Prop:=∀(w:World) (v u lv fv:Value),At w Any (terms g.states) v->At w Any (rows g.edges) u->At w Any (ints ls) lv->At w Any (forms f.kids) fv->
  Calls Tryd.prog 14 #[.agg #[v,u,.bool g.whole],lv,.agg #[.int .i64 f.kind,.int .i64 f.prop,fv],.int .i64 most] w fun e w'=>∃sv S,e= .returned (.tuple #[.agg #[sv,.int .i64 back],.bool ok])/\(∀b,S b->w.heap.size<=b)/\Soft S w'/\At w' S (ints xs) sv/\Below w.heap.size w w'
section
variable {g : Gr} {f : Fm} {ls : List Int} {most : Int} {xs : List Int} {back : Int} {ok : Bool}
theorem SpecC.z (hs:SpecC g f ls most xs back ok) {w:World} {G:Nat} {t:TypeId} {cs:Array Value} (z:Blk w G t cs) {T1 T2 T3:Nat->Prop} {v u lv fv:Value} (h:At w T1 (terms g.states) v) (k:At w T1 (rows g.edges) u) (l:At w T2 (ints ls) lv) (m:At w T3 (forms f.kids) fv)
  (e1:∀b,T1 b->b≠G) (e2:∀b,T2 b->b≠G) (e3:∀b,T3 b->b≠G):
  Calls Tryd.prog 10 #[.agg #[v,u,.bool g.whole],lv,.agg #[.int .i64 f.kind,.int .i64 f.prop,fv],.int .i64 most] w fun e w'=>∃sv,e= .returned (.tuple #[.agg #[sv,.int .i64 back],.bool ok])/\At w' (fun b=>b≠G) (ints xs) sv/\Below w.heap.size w w':=
 (hs w (fun b => b ≠ G ∧ b < w.heap.size) v u lv fv (fun _ hb => hb.2) (h.mono fun b hb hlt => ⟨e1 b hb, hlt⟩) (k.mono fun b hb hlt => ⟨e1 b hb, hlt⟩) (l.mono fun b hb hlt => ⟨e2 b hb, hlt⟩) (m.mono fun b hb hlt => ⟨e3 b hb, hlt⟩)).mono fun e w' ⟨sv, h1, h2, h3⟩ =>
  ⟨sv,h1,h2.mono fun b hb _=>hb.elim (fun q=>q.1) fun q=>by have:=z.lt;omega,h3⟩
theorem SpecC.n (hs:SpecC g f ls most xs back ok) {w:World} {T1 T2 T3:Nat->Prop} {v u lv fv:Value} (h:At w T1 (terms g.states) v) (k:At w T1 (rows g.edges) u) (l:At w T2 (ints ls) lv) (m:At w T3 (forms f.kids) fv):
  Calls Tryd.prog 10 #[.agg #[v,u,.bool g.whole],lv,.agg #[.int .i64 f.kind,.int .i64 f.prop,fv],.int .i64 most] w fun e w'=>∃sv,e= .returned (.tuple #[.agg #[sv,.int .i64 back],.bool ok])/\At w' (fun b=>b≠w'.heap.size) (ints xs) sv/\Below w.heap.size w w':=
 (hs w (Old w) v u lv fv (fun _ hb=>hb) h.old k.old l.old m.old).mono fun e w' ⟨sv,h1,h2,h3⟩=>⟨sv,h1,h2.mono fun b _ hlt=>by omega,h3⟩
theorem box_full {gv ge lv fv:Value} {w W:World} {G:Nat} {sv:Value} (a:MA g f ls gv ge lv fv w W) (z:Blk W G 33 #[.slice none 0 0,.int .i64 0]) (hG:w.heap.size+2<=G) (h:At W (fun b=>b≠G) (ints xs) sv):
  MA g f ls gv ge lv fv w ((W.setCell ⟨G,0,none⟩ sv).setCell ⟨G,1,none⟩ (.int .i64 back))/\∃B,MS xs back G sv B ((W.setCell ⟨G,0,none⟩ sv).setCell ⟨G,1,none⟩ (.int .i64 back)):=by
 have hlt:=z.lt
 refine⟨(a.far (by simpa using hG) _).far (by simpa using hG) _,W.heap.size,?_,hlt,by simp,?_⟩
 ·have z1:Blk (W.setCell ⟨G,0,none⟩ sv) G 33 #[sv,.int .i64 0]:=z.set_ 0 sv
  exact z1.set_ 1 _
 ·exact((h.setCell (by simp) _).setCell (by simp) _).mono fun b _ hb=>by simpa using hb
end
set_option maxRecDepth 100000 in
set_option maxHeartbeats 8000000 in
theorem fnExactCounterRun_any (g : Gr) (ls : List Int) (f : Fm) (most : Int) (xs : List Int) (back : Int) (ok : Bool) (hS : g.total + f.total ≤ 1048576 → ls.length ≤ 1048576 → SpecC g f ls most xs back ok ∧ ImplC g f ls most xs back ok) (hxs : xs.length ≤ 1000)
  (w:World) (v u lv fv:Value) (h:At w Any (terms g.states) v) (k:At w Any (rows g.edges) u) (l:At w Any (ints ls) lv) (m:At w Any (forms f.kids) fv):
  Calls Tryd.prog 3 #[.agg #[v,u,.bool g.whole],lv,.agg #[.int .i64 f.kind,.int .i64 f.prop,fv],.int .i64 most] w fun e w'=>e= .returned (.bool true)/\Below w.heap.size w w':=by
 obtain⟨A,c,rfl,hn,hc⟩:=terms_slice h
 obtain⟨E,d,rfl,hm,hd⟩:=rows_slice k
 obtain⟨L,cl,rfl,hnl,hcl⟩:=ints_slice l
 obtain⟨K,cf,rfl,hnf,hcf⟩:=forms_slice m
 have hA0:Hid (MA g f ls (.slice A g.states.length c) (.slice E g.edges.length d) (.slice L ls.length cl) (.slice K f.kids.length cf) w ((w.alloc (.cells #[.slice A g.states.length c,.slice E g.edges.length d,.bool g.whole] 25)).alloc (.cells #[.int .i64 f.kind,.int .i64 f.prop,.slice K f.kids.length cf] 29))):=by
  have hC:=Blk.new (w.alloc (.cells #[.slice A g.states.length c,.slice E g.edges.length d,.bool g.whole] 25)) 29 #[.int .i64 f.kind,.int .i64 f.prop,.slice K f.kids.length cf]
  rw[World.size_alloc]at hC
  exact⟨((Below.refl _ _).alloc (Nat.le_refl _) _).alloc (by simp) _,by simp,(Blk.new _ _ _).alloc _,hC,(h.old.alloc _).alloc _,(k.old.alloc _).alloc _,(l.old.alloc _).alloc _,(m.old.alloc _).alloc _⟩
 clear h k l m
 by_cases hll:ls.length<=1048576
 ·by_cases hle:g.total<=1048576
  ·have ht : 0 ≤ took 1048576 g.total := by unfold took; split <;> omega
   have ht1:=(took_range (left:=1048576) (n:=g.total) (by omega) (by omega)).2
   have HE:Hid (took 1048576 g.total=1048576-g.total):=by show took 1048576 g.total=_;unfold took;rw[if_neg (by omega)]
   by_cases hle2:g.total+f.total<=1048576
   ·have ht2:0<=took (took 1048576 g.total) f.total:=by rw[HE.out];unfold took;split<;>omega
    obtain⟨hs,hi⟩:=hS hle2 hll
    have HSp:=Lib.hid hs
    have HIm:=Lib.hid hi
    clear hs hi hS
    go_enter Tryd.func3,Tryd.ntmps3
    go_wp2_with fail
    refine(szGraph_any g _ _ _ _ hA0.out.g1.any hA0.out.g2.any (by omega) (by omega)).mono ?_
    rintro e w1 ⟨rfl,hb1⟩
    have a:=Lib.hid (hA0.out.next hb1)
    clear hA0 hb1
    obtain⟨_,_,_⟩:=a.out.fB.c3
    go_wp2_with fail
    refine(szFormula_any f _ _ Any _ a.out.f1.any (by omega) (by omega)).mono ?_
    rintro e w2 ⟨rfl,hb2⟩
    have a:=Lib.hid (a.out.next hb2)
    go_upto_region 10 with fail
    go_cut [10,11]from 22 (fun s10 s11 wx=>∃(G:Nat) (sv:Value),s10= .pointer (some ⟨G,0,none⟩)/\s11= .bool ok/\MA g f ls (.slice A g.states.length c) (.slice E g.edges.length d) (.slice L ls.length cl) (.slice K f.kids.length cf) w wx/\∃B,MS xs back G sv B wx)
    case first=>
     obtain⟨r1,r2,r3⟩:=a.out.gB.c3
     obtain⟨r4,r5,r6⟩:=a.out.fB.c3
     have lo2:=a.out.lo
     have a:=Lib.hid a.out.drew
     obtain⟨q1,q2,q3⟩:=a.out.gB.c3
     obtain⟨q4,q5,q6⟩:=a.out.fB.c3
     have lo:=a.out.lo
     have n2:¬w2.heap.size=w.heap.size:=by omega
     have m2:¬w2.heap.size=w.heap.size+1:=by omega
     go_region_held3 (fun w'=>w'.cell? ⟨w.heap.size,0,none⟩=some (.slice A g.states.length c)/\w'.cell? ⟨w.heap.size,1,none⟩=some (.slice E g.edges.length d)/\w'.cell? ⟨w.heap.size,2,none⟩=some (.bool g.whole)/\w'.cell? ⟨w.heap.size+1,0,none⟩=some (.int .i64 f.kind)/\w'.cell? ⟨w.heap.size+1,1,none⟩=some (.int .i64 f.prop)/\w'.cell? ⟨w.heap.size+1,2,none⟩=some (.slice K f.kids.length cf)) (go_keep)
      (first|(go_at_call 11;refine(toGraph_so g _ _ _ ?_ ?_ hle).mono ?_;(first|exact a.out.g1.any|exact(a.out.alloc _).g1.any);(first|exact a.out.g2.any|exact(a.out.alloc _).g2.any);rintro e w3 ⟨v3,u3,rfl,ha3,hk3,hb3,_⟩;obtain⟨A3,c3,rfl,hn3,hcc3⟩:=terms_slice ha3;obtain⟨E3,d3,rfl,hm3,hd3⟩:=rows_slice hk3;(first|(have yy:(w2.heap.push _).size<=w3.heap.size:=hb3.size;rw[Array.size_push]at yy;have ha3:=ha3.mono (S':=fun b=>w2.heap.size+1<=b/\b<w3.heap.size) fun b hb hlt=>⟨by (have hb:(w2.heap.push _).size<=b:=hb);(rwa [Array.size_push]at hb),hlt⟩;have hk3:=hk3.mono (S':=fun b=>w2.heap.size+1<=b/\b<w3.heap.size) fun b hb hlt=>⟨by (have hb:(w2.heap.push _).size<=b:=hb);(rwa [Array.size_push]at hb),hlt⟩)|(have ha3:=ha3.mono (S':=fun b=>_<=b/\b<w3.heap.size) fun b hb hlt=>⟨hb,hlt⟩;have hk3:=hk3.mono (S':=fun b=>_<=b/\b<w3.heap.size) fun b hb hlt=>⟨hb,hlt⟩));(first|have z:=Lib.hid (z.out.next hb3)|have z:=Lib.hid ((Blk.new w2 _ _).drew.next hb3)|skip);(first|have a:=Lib.hid (a.out.next hb3)|have a:=Lib.hid ((a.out.alloc _).next hb3));obtain⟨q1,q2,q3⟩:=a.out.gB.c3;obtain⟨q4,q5,q6⟩:=a.out.fB.c3;have lo:=a.out.lo;have y3:=hb3.size;(try simp only[World.size_alloc]at y3);have n3:¬w3.heap.size=w.heap.size:=(by omega);have m3:¬w3.heap.size=w.heap.size+1:=(by omega))|(go_at_call 12;refine(toIntS_so ls _ Any _ ?_ hll).mono ?_;(first|exact a.out.l.any|exact(a.out.alloc _).l.any);rintro e w4 ⟨t4,rfl,la4,hb4,_⟩;obtain⟨L4,d4,rfl,hnl4,hcl4⟩:=ints_slice la4;have la4:=la4.mono (S':=fun b=>_<=b/\b<w4.heap.size) fun b hb hlt=>⟨hb,hlt⟩;(first|have ha3:=ha3.below hb4|have ha3:=(ha3.alloc _).below hb4);(first|have hk3:=hk3.below hb4|have hk3:=(hk3.alloc _).below hb4);(first|have z:=Lib.hid (z.out.next hb4)|have z:=Lib.hid ((Blk.new _ _ _).next hb4)|skip);(first|have a:=Lib.hid (a.out.next hb4)|have a:=Lib.hid ((a.out.alloc _).next hb4));obtain⟨q1,q2,q3⟩:=a.out.gB.c3;obtain⟨q4,q5,q6⟩:=a.out.fB.c3;have lo:=a.out.lo;have y4:=hb4.size;(try simp only[World.size_alloc]at y4);have n4:¬w4.heap.size=w.heap.size:=(by omega);have m4:¬w4.heap.size=w.heap.size+1:=(by omega))|(go_at_call 13;refine(toFormula_so f _ Any _ ?_ (by omega)).mono ?_;(first|exact a.out.f1.any|exact(a.out.alloc _).f1.any);rintro e w5 ⟨v5,rfl,fa5,hb5,_⟩;obtain⟨A5,c5,rfl,hn5,hcc5⟩:=forms_slice fa5;have fa5:=fa5.mono (S':=fun b=>_<=b/\b<w5.heap.size) fun b hb hlt=>⟨hb,hlt⟩;(first|have ha3:=ha3.below hb5|have ha3:=(ha3.alloc _).below hb5);(first|have hk3:=hk3.below hb5|have hk3:=(hk3.alloc _).below hb5);(first|have la4:=la4.below hb5|have la4:=(la4.alloc _).below hb5);(first|have z:=Lib.hid (z.out.next hb5)|have z:=Lib.hid ((Blk.new _ _ _).next hb5)|skip);(first|have a:=Lib.hid (a.out.next hb5)|have a:=Lib.hid ((a.out.alloc _).next hb5));obtain⟨q1,q2,q3⟩:=a.out.gB.c3;obtain⟨q4,q5,q6⟩:=a.out.fB.c3;have lo:=a.out.lo;have y5:=hb5.size;(try simp only[World.size_alloc]at y5);have n5:¬w5.heap.size=w.heap.size:=(by omega);have m5:¬w5.heap.size=w.heap.size+1:=(by omega))|(go_at_call 10;(first|(refine(HSp.out.z z.out ha3 hk3 la4 fa5 (fun b hb=>by have:=z.out.lt;(try simp at hb);omega) (fun b hb=>by have:=z.out.lt;(try simp at hb);omega) (fun b hb=>by have:=z.out.lt;(try simp at hb);omega)).mono ?_)|(refine(HSp.out.n ha3 hk3 la4 fa5).mono ?_)|(refine(HSp.out.z (Blk.new _ _ _) (ha3.alloc _) (hk3.alloc _) (la4.alloc _) (fa5.alloc _) (fun b hb=>by (try simp at hb);omega) (fun b hb=>by (try simp at hb);omega) (fun b hb=>by (try simp at hb);omega)).mono ?_));rintro e w6 ⟨s6,rfl,sa6,hb6⟩;obtain⟨L6,d6,rfl,hnl6,hcl6⟩:=ints_slice sa6;(first|have z:=Lib.hid (z.out.next hb6)|have z:=Lib.hid ((Blk.new _ _ _).next hb6)|skip);(first|have a:=Lib.hid (a.out.next hb6)|have a:=Lib.hid ((a.out.alloc _).next hb6));obtain⟨q1,q2,q3⟩:=a.out.gB.c3;obtain⟨q4,q5,q6⟩:=a.out.fB.c3;have lo:=a.out.lo;have y6:=hb6.size;(try simp only[World.size_alloc]at y6);have n6:¬w6.heap.size=w.heap.size:=(by omega);have m6:¬w6.heap.size=w.heap.size+1:=(by omega);(try obtain⟨z1,z2⟩:=z.out.c2);(try have z3:=z.out.frozen 0);(try have z4:=z.out.frozen 1)))
     all_goals
      go_wp2_with fail
      go_meet
      first
       |(obtain⟨b1,b2⟩:=box_full (back:=back) a.out z.out (by omega) sa6;exact⟨_,_,rfl,rfl,b1,b2⟩)
       |exact⟨_,_,rfl,rfl,a.out.alloc _,_,(Blk.new _ _ _),Nat.lt_succ_self _,by simp,(sa6.mono fun b _ hlt=>by omega).alloc _⟩
    case rest=>
     obtain⟨G,sv,rfl,rfl,a,B,s⟩:=hcut
     obtain⟨L6,d6,rfl,hnl6,hcl6⟩:=ints_slice s.at_
     have lo:=a.lo
     have sle:=s.le
     have a:=Lib.hid a
     have s:=Lib.hid s
     obtain⟨_,_,_⟩:=a.out.gB.c3
     go_wp2_with fail
     refine(toGraph_so g _ _ _ a.out.g1.any a.out.g2.any hle).mono ?_
     rintro e w3 ⟨v3,u3,rfl,xa3,xk3,hb3,un3⟩
     obtain⟨A3,c3,rfl,hn3,hcc3⟩:=terms_slice xa3
     obtain⟨E3,d3,rfl,hm3,hd3⟩:=rows_slice xk3
     have a:=Lib.hid ((a.out.next hb3).alloc (.cells #[.slice A3 g.states.length c3,.slice E3 g.edges.length d3,.bool g.whole] 38))
     have s:=Lib.hid ((s.out.next hb3).alloc (.cells #[.slice A3 g.states.length c3,.slice E3 g.edges.length d3,.bool g.whole] 38))
     go_wp2_with fail
     refine(toIntS_so ls _ Any _ a.out.l.any hll).mono ?_
     rintro e w4 ⟨t4,rfl,xl4,hb4,un4⟩
     obtain⟨L4,d4,rfl,hnl4,hcl4⟩:=ints_slice xl4
     have a:=Lib.hid (a.out.next hb4)
     have s:=Lib.hid (s.out.next hb4)
     obtain⟨_,_,_⟩:=a.out.fB.c3
     go_wp2_with fail
     refine(toFormula_so f _ Any _ a.out.f1.any (by omega)).mono ?_
     rintro e w5 ⟨v5,rfl,xf5,hb5,un5⟩
     obtain⟨A5,c5,rfl,hn5,hcc5⟩:=forms_slice xf5
     have z3:=hb3.size
     have z4:=hb4.size
     have z5:=hb5.size
     simp only[World.size_alloc]at z4
     have x:Hid (MX g f ls w3.heap.size w5.heap.size (.slice A3 g.states.length c3) (.slice E3 g.edges.length d3) (.slice L4 ls.length d4) (.slice A5 f.kids.length c5) (fun b=>wc.heap.size<=b/\b<w5.heap.size/\b≠w3.heap.size) (w5.alloc (.cells #[.int .i64 f.kind,.int .i64 f.prop,.slice A5 f.kids.length c5] 43))):=by
      have un:Unf wc w5:=((un3.alloc _ _).trans un4).trans un5
      refine⟨(((Blk.new w3 _ _).next hb4).next hb5).alloc _,Blk.new _ _ _,by simp,by simp,((un.alloc _ _).soft fun b hb=>⟨hb.1,by simp;omega⟩),?_,?_,?_,?_⟩
      ·exact((((xa3.mono fun b hb hlt=>by simp only[From]at hb;exact⟨hb,by omega,by omega⟩).alloc _).below hb4).below hb5).alloc _
      ·exact((((xk3.mono fun b hb hlt=>by simp only[From]at hb;exact⟨hb,by omega,by omega⟩).alloc _).below hb4).below hb5).alloc _
      ·exact((xl4.mono fun b hb hlt=>by simp only[From,World.size_alloc]at hb;exact⟨by omega,by omega,by omega⟩).below hb5).alloc _
      ·exact(xf5.mono fun b hb hlt=>by simp only[From]at hb;exact⟨by omega,by omega,by omega⟩).alloc _
     have a:=Lib.hid ((a.out.next hb5).alloc (.cells #[.int .i64 f.kind,.int .i64 f.prop,.slice A5 f.kids.length c5] 43))
     have s:=Lib.hid ((s.out.next hb5).alloc (.cells #[.int .i64 f.kind,.int .i64 f.prop,.slice A5 f.kids.length c5] 43))
     clear xa3 xk3 xl4 xf5 un3 un4 un5
     obtain⟨_,_,_⟩:=x.out.gB.c3
     obtain⟨_,_,_⟩:=x.out.fB.c3
     go_wp2_with fail
     refine(HIm.out _ _ _ _ _ x.out.a1.any x.out.a2.any x.out.a3.any x.out.a4.any).mono ?_
     rintro e w6 ⟨gv,T,rfl,hT,hTs,hg,hb6⟩
     obtain⟨L7,d7,rfl,hnl7,hcl7⟩:=ints_slice hg
     have z6:=hb6.size
     simp only[World.size_alloc]at z6 hT
     have gg:Hid (MG xs back w6.heap.size (.slice L7 xs.length d7) (w5.heap.size+1) T (w6.alloc (.cells #[.slice L7 xs.length d7,.int .i64 back] 33))):=
      Lib.hid ⟨Blk.new _ _ _,by omega,fun q=>by have:=(hTs _ q).1;omega,hT,hTs.alloc _,hg.alloc _⟩
     have a:=Lib.hid ((a.out.next hb6).alloc (.cells #[.slice L7 xs.length d7,.int .i64 back] 33))
     have s:=Lib.hid ((s.out.next hb6).alloc (.cells #[.slice L7 xs.length d7,.int .i64 back] 33))
     have x:=Lib.hid ((x.out.next hb6).alloc (.cells #[.slice L7 xs.length d7,.int .i64 back] 33))
     clear hg hT hTs
     obtain⟨_,_⟩:=gg.out.blk.c2
     obtain⟨_,_⟩:=s.out.blk.c2
     go_wp2_with fail
     refine(eqLasso_any xs xs back back _ _ _ _ _ gg.out.at_ s.out.at_).mono ?_
     rintro e w7 ⟨rfl,hb7⟩
     have hdt:decide (xs=xs/\back=back)=true:=by simp
     have hbq:(ok !=ok)=false:=by cases ok<;>rfl
     have a:=Lib.hid (a.out.next hb7)
     have s:=Lib.hid (s.out.next hb7)
     have x:=Lib.hid (x.out.next hb7)
     have gg:=Lib.hid (gg.out.next hb7)
     go_upto_region 17 with fail
     have a:=Lib.hid a.out.drew
     have s:=Lib.hid s.out.drew
     have x:=Lib.hid x.out.drew
     have gg:=Lib.hid gg.out.drew
     obtain⟨q1,q2,q3⟩:=x.out.gB.c3
     obtain⟨q4,q5,q6⟩:=a.out.gB.c3
     go_region_held3 (fun w'=>w'.cell? ⟨w3.heap.size,0,none⟩=some (.slice A3 g.states.length c3)/\w'.cell? ⟨w3.heap.size,1,none⟩=some (.slice E3 g.edges.length d3)/\w'.cell? ⟨w3.heap.size,2,none⟩=some (.bool g.whole)/\
       w'.cell? ⟨w.heap.size,0,none⟩=some (.slice A g.states.length c)/\w'.cell? ⟨w.heap.size,1,none⟩=some (.slice E g.edges.length d)/\w'.cell? ⟨w.heap.size,2,none⟩=some (.bool g.whole)) (go_keep)
      (first|(go_at_call 11;refine(toGraph_so g _ _ _ ?_ ?_ hle).mono ?_;(exact a.out.g1.any);(exact a.out.g2.any);rintro e w8 ⟨v8,u8,rfl,ha8,hk8,hb8,_⟩;obtain⟨A8,c8,rfl,_,_⟩:=terms_slice ha8;obtain⟨E8,d8,rfl,_,_⟩:=rows_slice hk8;have a:=Lib.hid (a.out.next hb8);have s:=Lib.hid (s.out.next hb8);have x:=Lib.hid (x.out.next hb8);have gg:=Lib.hid (gg.out.next hb8);obtain⟨q1,q2,q3⟩:=x.out.gB.c3;obtain⟨q4,q5,q6⟩:=a.out.gB.c3)|(go_at_call 16;refine(eqGraph_any g _ _ _ _ _ ?_ ?_ ?_ ?_).mono ?_;(exact x.out.a1.any);(exact x.out.a2.any);(exact ha8.any);(exact hk8.any);rintro e w9 ⟨rfl,hb9⟩;have a:=Lib.hid (a.out.next hb9);have s:=Lib.hid (s.out.next hb9);have x:=Lib.hid (x.out.next hb9);have gg:=Lib.hid (gg.out.next hb9);obtain⟨q1,q2,q3⟩:=x.out.gB.c3;obtain⟨q4,q5,q6⟩:=a.out.gB.c3))
     clear ha8 hk8 hb8 hb9
     go_wp2_with fail
     refine(toIntS_so ls _ Any _ a.out.l.any hll).mono ?_
     rintro e w10 ⟨t10,rfl,xl10,hb10,_⟩
     obtain⟨L10,d10,rfl,_,_⟩:=ints_slice xl10
     go_wp2_with fail
     refine(eqIntS_any ls ls _ _ _ _ _ (x.out.a3.below hb10) xl10).mono ?_
     rintro e w11 ⟨rfl,hb11⟩
     have hdl:decide (ls=ls)=true:=by simp
     have a:=Lib.hid ((a.out.next hb10).next hb11)
     have s:=Lib.hid ((s.out.next hb10).next hb11)
     have x:=Lib.hid ((x.out.next hb10).next hb11)
     have gg:=Lib.hid ((gg.out.next hb10).next hb11)
     clear xl10
     go_upto_region 21 with fail
     have a:=Lib.hid a.out.drew
     have s:=Lib.hid s.out.drew
     have x:=Lib.hid x.out.drew
     have gg:=Lib.hid gg.out.drew
     obtain⟨q1,q2,q3⟩:=x.out.fB.c3
     obtain⟨q4,q5,q6⟩:=a.out.fB.c3
     go_region_held3 (fun w'=>w'.cell? ⟨w5.heap.size,0,none⟩=some (.int .i64 f.kind)/\w'.cell? ⟨w5.heap.size,1,none⟩=some (.int .i64 f.prop)/\w'.cell? ⟨w5.heap.size,2,none⟩=some (.slice A5 f.kids.length c5)/\
       w'.cell? ⟨w.heap.size+1,0,none⟩=some (.int .i64 f.kind)/\w'.cell? ⟨w.heap.size+1,1,none⟩=some (.int .i64 f.prop)/\w'.cell? ⟨w.heap.size+1,2,none⟩=some (.slice K f.kids.length cf)) (go_keep)
      (first|(go_at_call 13;refine(toFormula_so f _ Any _ ?_ (by omega)).mono ?_;(exact a.out.f1.any);rintro e w12 ⟨v12,rfl,ha12,hb12,_⟩;obtain⟨A12,c12,rfl,_,_⟩:=forms_slice ha12;have a:=Lib.hid (a.out.next hb12);have s:=Lib.hid (s.out.next hb12);have x:=Lib.hid (x.out.next hb12);have gg:=Lib.hid (gg.out.next hb12);obtain⟨q1,q2,q3⟩:=x.out.fB.c3;obtain⟨q4,q5,q6⟩:=a.out.fB.c3)|(go_at_call 18;refine(eqFormula_any f _ _ _ ?_ ?_).mono ?_;(exact x.out.a4.any);(exact ha12.any);rintro e w13 ⟨rfl,hb13⟩;have a:=Lib.hid (a.out.next hb13);have s:=Lib.hid (s.out.next hb13);have x:=Lib.hid (x.out.next hb13);have gg:=Lib.hid (gg.out.next hb13);obtain⟨q1,q2,q3⟩:=x.out.fB.c3;obtain⟨q4,q5,q6⟩:=a.out.fB.c3))
     clear ha12 hb12 hb13
     obtain⟨_,_,_⟩:=x.out.gB.c3
     go_wp2_with fail
     refine(markGraph_any g _ _ _ _ 1 x.out.a1.shape x.out.a2.shape x.out.soft (by omega) (by omega)).mono ?_
     rintro e w14 ⟨k1,rfl,hk1,hk2,hL1⟩
     have hsa:∀b,(wc.heap.size<=b/\b<w5.heap.size/\b≠w3.heap.size)->w.heap.size+2<=b:=fun b hb=>by omega
     have hss:∀b,(wc.heap.size<=b/\b<w5.heap.size/\b≠w3.heap.size)->B<=b:=fun b hb=>by omega
     have hsg:∀b,(wc.heap.size<=b/\b<w5.heap.size/\b≠w3.heap.size)->b<w5.heap.size+1:=fun b hb=>by omega
     have HSA:=Lib.hid hsa
     have HSS:=Lib.hid hss
     have HSG:=Lib.hid hsg
     clear hsa hss hsg
     have a:=Lib.hid (a.out.like hL1 HSA.out)
     have s:=Lib.hid (s.out.like hL1 HSS.out)
     have gg:=Lib.hid (gg.out.like hL1 HSG.out)
     have x3:=x.out.a3.shape.next hL1
     have x4:=x.out.a4.shape.next hL1
     have sf:=x.out.soft.like hL1
     have xb:=hL1.blk x.out.fB x.out.hq
     have HX:=Lib.hid x.out.hq
     clear x hL1
     go_wp2_with fail
     refine(markIntS_any ls k1 _ _ _ x3 sf (by omega) (by omega)).mono ?_
     rintro e w15 ⟨rfl,hL2⟩
     have a:=Lib.hid (a.out.like hL2 HSA.out)
     have s:=Lib.hid (s.out.like hL2 HSS.out)
     have gg:=Lib.hid (gg.out.like hL2 HSG.out)
     have x4:=x4.next hL2
     have sf:=sf.like hL2
     have xb:=hL2.blk xb HX.out
     clear x3 hL2
     obtain⟨_,_,_⟩:=xb.c3
     go_wp2_with fail
     refine(markFormula_any f _ _ _ _ _ _ x4 sf (by omega) (by omega)).mono ?_
     rintro e w16 ⟨k2,rfl,hk3,hk4,hL3⟩
     have a:=Lib.hid (a.out.like hL3 HSA.out)
     have s:=Lib.hid (s.out.like hL3 HSS.out)
     have gg:=Lib.hid (gg.out.like hL3 HSG.out)
     clear x4 sf xb hL3
     obtain⟨_,_⟩:=gg.out.blk.c2
     obtain⟨_,_⟩:=s.out.blk.c2
     have hk5:0<=k2:=by omega
     have hk6:decide (k2<0)=false:=by simp;omega
     go_wp2_with fail
     refine(eqLasso_any xs xs back back _ _ _ _ _ gg.out.at_ s.out.at_).mono ?_
     rintro e w17 ⟨rfl,hb17⟩
     have a:=Lib.hid (a.out.next hb17)
     have s:=Lib.hid (s.out.next hb17)
     have gg:=Lib.hid (gg.out.next hb17)
     obtain⟨_,_⟩:=gg.out.blk.c2
     go_wp2_with fail
     refine(markLasso_any xs back 1 _ _ _ gg.out.at_ gg.out.soft (by omega) (by omega)).mono ?_
     rintro e w18 ⟨rfl,hL4,hm4⟩
     have a:=Lib.hid (a.out.like hL4 fun b hb=>by have:=gg.out.from_ b hb;omega)
     have s:=Lib.hid (s.out.like hL4 fun b hb=>by have:=gg.out.from_ b hb;omega)
     have gb:=hL4.blk gg.out.blk gg.out.off
     have HM:=Lib.hid hm4
     clear gg hL4 hm4
     obtain⟨_,_⟩:=gb.c2
     go_wp2_with fail
     refine(heldLasso_any xs.length 1 back _ _ _ HM.out (by omega) (by omega)).mono ?_
     rintro e w19 ⟨rfl,hb19⟩
     have a:=Lib.hid (a.out.next hb19)
     have s:=Lib.hid (s.out.next hb19)
     have GB:=Lib.hid (gb.next hb19)
     have HM:=Lib.hid (HM.out.below hb19)
     clear gb
     have hne:((1:Int)+(xs.length:Int) !=1+(xs.length:Int))=false:=by simp
     have hge:decide ((1:Int)+(xs.length:Int)<0)=false:=by simp;omega
     go_upto_region 37 with fail
     go_cut [20,21]from 22 (fun s20 s21 wx=>Below w19.heap.size w19 wx/\∃(G:Nat) (sv:Value),s20= .pointer (some ⟨G,0,none⟩)/\s21= .bool ok/\Blk wx G 33 #[sv,.int .i64 back]/\At wx Any (ints xs) sv)
     case first=>
      obtain⟨r1,r2,r3⟩:=a.out.gB.c3
      obtain⟨r4,r5,r6⟩:=a.out.fB.c3
      have lo2:=a.out.lo
      have mb:=Lib.hid (MB.drew (MB.refl w19))
      have a:=Lib.hid a.out.drew
      obtain⟨q1,q2,q3⟩:=a.out.gB.c3
      obtain⟨q4,q5,q6⟩:=a.out.fB.c3
      have n2:¬w19.heap.size=w.heap.size:=by omega
      have m2:¬w19.heap.size=w.heap.size+1:=by omega
      clear s GB HM z3 z4 z5 z6
      go_region_held3 (fun w'=>w'.cell? ⟨w.heap.size,0,none⟩=some (.slice A g.states.length c)/\w'.cell? ⟨w.heap.size,1,none⟩=some (.slice E g.edges.length d)/\w'.cell? ⟨w.heap.size,2,none⟩=some (.bool g.whole)/\w'.cell? ⟨w.heap.size+1,0,none⟩=some (.int .i64 f.kind)/\w'.cell? ⟨w.heap.size+1,1,none⟩=some (.int .i64 f.prop)/\w'.cell? ⟨w.heap.size+1,2,none⟩=some (.slice K f.kids.length cf)) (go_keep)
       (first|(go_at_call 11;refine(toGraph_so g _ _ _ ?_ ?_ hle).mono ?_;(first|exact a.out.g1.any|exact(a.out.alloc _).g1.any);(first|exact a.out.g2.any|exact(a.out.alloc _).g2.any);rintro e w22 ⟨v22,u22,rfl,ha3,hk3,hb22,_⟩;obtain⟨A22,c22,rfl,_,_⟩:=terms_slice ha3;obtain⟨E22,d22,rfl,_,_⟩:=rows_slice hk3;have ha3:=ha3.any;have hk3:=hk3.any;(first|have z:=Lib.hid (z.out.next hb22)|have z:=Lib.hid ((Blk.new w19 _ _).drew.next hb22)|skip);(first|have a:=Lib.hid (a.out.next hb22)|have a:=Lib.hid ((a.out.alloc _).next hb22));(first|have mb:=Lib.hid (mb.out.next hb22)|have mb:=Lib.hid ((mb.out.alloc _).next hb22));obtain⟨q1,q2,q3⟩:=a.out.gB.c3;obtain⟨q4,q5,q6⟩:=a.out.fB.c3;have lo:=a.out.lo;have x22:w19.heap.size<=w22.heap.size:=mb.out.bel.size;have y22:=hb22.size;(try simp only[World.size_alloc]at y22);have n22:¬w22.heap.size=w.heap.size:=(by omega);have m22:¬w22.heap.size=w.heap.size+1:=(by omega))|(go_at_call 12;refine(toIntS_so ls _ Any _ ?_ hll).mono ?_;(first|exact a.out.l.any|exact(a.out.alloc _).l.any);rintro e w23 ⟨t23,rfl,la4,hb23,_⟩;obtain⟨L23,d23,rfl,_,_⟩:=ints_slice la4;have la4:=la4.any;(first|have ha3:=ha3.below hb23|have ha3:=(ha3.alloc _).below hb23);(first|have hk3:=hk3.below hb23|have hk3:=(hk3.alloc _).below hb23);(first|have z:=Lib.hid (z.out.next hb23)|have z:=Lib.hid ((Blk.new _ _ _).next hb23)|skip);(first|have a:=Lib.hid (a.out.next hb23)|have a:=Lib.hid ((a.out.alloc _).next hb23));(first|have mb:=Lib.hid (mb.out.next hb23)|have mb:=Lib.hid ((mb.out.alloc _).next hb23));obtain⟨q1,q2,q3⟩:=a.out.gB.c3;obtain⟨q4,q5,q6⟩:=a.out.fB.c3;have lo:=a.out.lo;have x23:w19.heap.size<=w23.heap.size:=mb.out.bel.size;have y23:=hb23.size;(try simp only[World.size_alloc]at y23);have n23:¬w23.heap.size=w.heap.size:=(by omega);have m23:¬w23.heap.size=w.heap.size+1:=(by omega))|(go_at_call 13;refine(toFormula_so f _ Any _ ?_ (by omega)).mono ?_;(first|exact a.out.f1.any|exact(a.out.alloc _).f1.any);rintro e w24 ⟨v24,rfl,fa5,hb24,_⟩;obtain⟨A24,c24,rfl,_,_⟩:=forms_slice fa5;have fa5:=fa5.any;(first|have ha3:=ha3.below hb24|have ha3:=(ha3.alloc _).below hb24);(first|have hk3:=hk3.below hb24|have hk3:=(hk3.alloc _).below hb24);(first|have la4:=la4.below hb24|have la4:=(la4.alloc _).below hb24);(first|have z:=Lib.hid (z.out.next hb24)|have z:=Lib.hid ((Blk.new _ _ _).next hb24)|skip);(first|have a:=Lib.hid (a.out.next hb24)|have a:=Lib.hid ((a.out.alloc _).next hb24));(first|have mb:=Lib.hid (mb.out.next hb24)|have mb:=Lib.hid ((mb.out.alloc _).next hb24));obtain⟨q1,q2,q3⟩:=a.out.gB.c3;obtain⟨q4,q5,q6⟩:=a.out.fB.c3;have lo:=a.out.lo;have x24:w19.heap.size<=w24.heap.size:=mb.out.bel.size;have y24:=hb24.size;(try simp only[World.size_alloc]at y24);have n24:¬w24.heap.size=w.heap.size:=(by omega);have m24:¬w24.heap.size=w.heap.size+1:=(by omega))|(go_at_call 14;(first|(refine(HIm.out _ _ _ _ _ ha3 hk3 la4 fa5).mono ?_)|(refine(HIm.out _ _ _ _ _ (ha3.alloc _) (hk3.alloc _) (la4.alloc _) (fa5.alloc _)).mono ?_));rintro e w26 ⟨s6,T2,rfl,hT2,hTs2,sa6,hb26⟩;obtain⟨L26,d26,rfl,_,_⟩:=ints_slice sa6;(first|have sa6:=off_z z.out hT2 sa6|have sa6:=off_z (Blk.new _ _ _) hT2 sa6|have sa6:=off_n hTs2 sa6);(first|have z:=Lib.hid (z.out.next hb26)|have z:=Lib.hid ((Blk.new _ _ _).next hb26)|skip);(first|have a:=Lib.hid (a.out.next hb26)|have a:=Lib.hid ((a.out.alloc _).next hb26));(first|have mb:=Lib.hid (mb.out.next hb26)|have mb:=Lib.hid ((mb.out.alloc _).next hb26));obtain⟨q1,q2,q3⟩:=a.out.gB.c3;obtain⟨q4,q5,q6⟩:=a.out.fB.c3;have lo:=a.out.lo;have x26:w19.heap.size<=w26.heap.size:=mb.out.bel.size;have y26:=hb26.size;(try simp only[World.size_alloc]at y26);have n26:¬w26.heap.size=w.heap.size:=(by omega);have m26:¬w26.heap.size=w.heap.size+1:=(by omega);(try obtain⟨z1,z2⟩:=z.out.c2);(try have z3:=z.out.frozen 0);(try have z4:=z.out.frozen 1)))
      all_goals
       go_wp2_with fail
       go_meet
       first
        |(obtain⟨b1,b2,b3⟩:=box_out (back:=back) mb.out z.out (by have:=mb.out.bel.size;omega) sa6;exact⟨b1,_,_,rfl,rfl,b2,b3⟩)
        |exact⟨(mb.out.alloc _).bel,_,_,rfl,rfl,(Blk.new _ _ _),sa6.any.alloc _⟩
     case rest=>
      obtain⟨hbc,G2,sv2,rfl,rfl,gb2,ha2⟩:=hcut
      obtain⟨L9,d9,rfl,_,_⟩:=ints_slice ha2
      have a:=Lib.hid (a.out.next hbc)
      have s:=Lib.hid (s.out.next hbc)
      have GB:=Lib.hid (GB.out.next hbc)
      have HM:=Lib.hid (HM.out.below hbc)
      obtain⟨_,_⟩:=gb2.c2
      obtain⟨_,_⟩:=s.out.blk.c2
      have hdt:decide (xs=xs/\back=back)=true:=by simp
      have hbq:(ok !=ok)=false:=by cases ok<;>rfl
      go_wp2_with fail
      refine(eqLasso_any xs xs back back _ _ _ _ _ ha2 s.out.at_).mono ?_
      rintro e w20 ⟨rfl,hb20⟩
      have a:=Lib.hid (a.out.next hb20)
      have gb:=GB.out.next hb20
      have HM:=Lib.hid (HM.out.below hb20)
      obtain⟨_,_⟩:=gb.c2
      go_wp2_with fail
      refine(heldLasso_any xs.length 1 back _ _ _ HM.out (by omega) (by omega)).mono ?_
      rintro e w21 ⟨rfl,hb21⟩
      have a:=Lib.hid (a.out.next hb21)
      go_wp2_with fail
      go_ret
      exact⟨rfl,a.out.bel⟩
   ·have ht2:took (took 1048576 g.total) f.total<0:=by rw[HE.out];unfold took;split<;>omega
    go_enter Tryd.func3,Tryd.ntmps3
    go_wp2_with fail
    refine(szGraph_any g _ _ _ _ hA0.out.g1.any hA0.out.g2.any (by omega) (by omega)).mono ?_
    rintro e w1 ⟨rfl,hb1⟩
    have a:=Lib.hid (hA0.out.next hb1)
    clear hA0 hb1
    obtain⟨_,_,_⟩:=a.out.fB.c3
    go_wp2_with fail
    refine(szFormula_any f _ _ Any _ a.out.f1.any (by omega) (by omega)).mono ?_
    rintro e w2 ⟨rfl,hb2⟩
    have a:=Lib.hid (a.out.next hb2)
    go_wp2_with fail
    go_ret
    exact⟨rfl,a.out.bel⟩
  ·have ht:took 1048576 g.total<0:=by unfold took;split<;>omega
   go_enter Tryd.func3,Tryd.ntmps3
   go_wp2_with fail
   refine(szGraph_any g _ _ _ _ hA0.out.g1.any hA0.out.g2.any (by omega) (by omega)).mono ?_
   rintro e w1 ⟨rfl,hb1⟩
   have a:=Lib.hid (hA0.out.next hb1)
   go_wp2_with fail
   go_ret
   exact⟨rfl,a.out.bel⟩
 ·go_enter Tryd.func3,Tryd.ntmps3
  go_wp2_with fail
  go_ret
  exact⟨rfl,hA0.out.bel⟩
end Go.Proofs.YtjafncnjefnloaaDoor

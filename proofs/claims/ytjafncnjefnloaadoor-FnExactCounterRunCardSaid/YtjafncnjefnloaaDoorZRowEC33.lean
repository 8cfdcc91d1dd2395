/-
  Texts that the claim rests on, merged: PI2, Some, Spc1, Spc2, Spc3, Spc4, Spc5, Spc6, Spc7.
-/
import Derived.Test.YtjafncnjefnloaaDoorZRowEC14
import Derived.Test.YtjafncnjefnloaaDoorZRowEC29
import Derived.Test.YtjafncnjefnloaaDoorZRowEC30
import Derived.Test.YtjafncnjefnloaaDoorZRowEC32

namespace Go.Proofs.YtjafncnjefnloaaDoor.Den
open Go.RowKit
set_option maxRecDepth 100000
set_option linter.unusedVariables false
namespace i_IsGraph
structure Gs where
 none_:Unit
noncomputable def ents (_:Gs):List Ent:=[]
noncomputable def b8 {R:Type} (G:Gs) (n:Nat) (n1:Int) (l:List Int) (t25:List (List Int)) (t26:Int) (t27:Int) (t31:List Int) (t32:Int) (t33:Int) (nx:Int->Option R) (k0:Bool->Option R) (k1:Option R):Option R:=
 bif decide (t33 < t32) then
  (
  Option.bind (ix t31 t33) fun e=>
  bif decide (e<0)then
   (k0 false)
  else
   bif decide (n1<=e)then
    (k0 false)
   else
    bif decide (0<t33)then
     (
     Option.bind (ix l (wr (t33-1))) fun e2=>
     bif decide (e<=e2)then
      (k0 false)
     else
      nx (wr (t33+1))
     )
    else
     nx (wr (t33+1))
  )
 else
  k1
noncomputable def l8 {R:Type} (G:Gs) (n m:Nat) (n1:Int) (l:List Int) (t25:List (List Int)) (t26:Int) (t27:Int) (t31:List Int) (t32:Int) (t33:Int) (k0:Bool->Option R) (k1:Option R):Option R:=iter (fun(v:Int) nx=>b8 G n n1 l t25 t26 t27 t31 t32 v (fun y0=>nx y0) k0 k1) m t33
noncomputable def b5 {R:Type} (G:Gs) (n:Nat) (n1:Int) (t25:List (List Int)) (t26:Int) (t27:Int) (nx:Int->Option R) (k0:Bool->Option R) (k1:Option R):Option R:=
 bif decide (t27<t26)then
  (
  Option.bind (ix t25 t27) fun e=>
  l8 G n n n1 e t25 t26 t27 e (List.length e:Int) 0
   (fun t2=>k0 t2)
   (nx (wr (t27+1)))
  )
 else
  k1
noncomputable def l5 {R:Type} (G:Gs) (n m:Nat) (n1:Int) (t25:List (List Int)) (t26:Int) (t27:Int) (k0:Bool->Option R) (k1:Option R):Option R:=iter (fun(v:Int) nx=>b5 G n n1 t25 t26 v (fun y0=>nx y0) k0 k1) m t27
noncomputable def main {R:Type} (G:Gs) (n:Nat) (g:Gr) (K:Bool->Option R):Option R:=
 bif decide ((List.length (Gr.states g):Int)<1)then
  (K false)
 else
  bif decide (40<(List.length (Gr.states g):Int))then
   (K false)
  else
   bif !decide ((List.length (Gr.edges g):Int)=(List.length (Gr.states g):Int))then
    (K false)
   else
    l5 G n n (List.length (Gr.states g):Int) (Gr.edges g) (List.length (Gr.edges g):Int) 0
     (fun t2=>K t2)
     (K true)
noncomputable def dl8 (G:Gs) (n m:Nat) (R:Type) (st:St) (K:Kt R):Option R:=match st with
 |⟨[(3,.one (.i n1)),(5,.one (.l .i l)),(25,.one (.l (.sl .i) t25)),(26,.one (.i t26)),(27,.one (.i t27)),(31,.one (.l .i t31)),(32,.one (.i t32)),(33,.one (.i t33))],[]⟩=>l8 G n m n1 l t25 t26 t27 t31 t32 t33 (fun t2=>K .ret ⟨[(2,.one (.b t2))],[]⟩) (K (.exit 2) ⟨[(3,.one (.i n1)),(25,.one (.l (.sl .i) t25)),(26,.one (.i t26)),(27,.one (.i t27))],[]⟩)
 |_=>none
noncomputable def dl5 (G:Gs) (n m:Nat) (R:Type) (st:St) (K:Kt R):Option R:=match st with
 |⟨[(3,.one (.i n1)),(25,.one (.l (.sl .i) t25)),(26,.one (.i t26)),(27,.one (.i t27))],[]⟩=>l5 G n m n1 t25 t26 t27 (fun t2=>K .ret ⟨[(2,.one (.b t2))],[]⟩) (K (.exit 0) ⟨[],[]⟩)
 |_=>none
noncomputable def pc (G:Gs) (n:Nat):Pcs:=⟨fun R id st K=>bif Nat.beq id 8 then dl8 G n n R st K else bif Nat.beq id 5 then dl5 G n n R st K else none,fun _ _ _ _=>none,fun _ _ _ _=>none⟩
noncomputable def an:Ann:=⟨60,0,[(8,[3,5,25,26,27,31,32,33]),(5,[3,25,26,27])],[],[2],[],[]⟩
noncomputable abbrev bd:=bodyOf Tryd.f72
noncomputable abbrev q8:=nthC [1,1,1,0,1,0,0,1,1,0,0,1,1,0,0] bd
noncomputable abbrev q5:=nthC [1,1,1,0,1,0,0] bd
theorem pl8 {G:Gs} (hG:AllE Tryd.prog (ents G)) (n:Nat):∀m,PieceOK Tryd.prog an (.loop q8) (dl8 G n m):=lpc hG (pc G n) [3,5,25,26,27,31,32,33] ⟨[3,25,26,27],[2],[(0,[]),(1,[3,25,26,27]),(2,[3,25,26,27])]⟩ (apl [] trivial) (fun R st K=>by unfold dl8;split<;>rfl) fun m R st K r h=>by unfold dl8 at h;split at h;exact .trans (by kernel_rfl) h;cases h
theorem pl5 {G:Gs} (hG:AllE Tryd.prog (ents G)) (n:Nat):∀m,PieceOK Tryd.prog an (.loop q5) (dl5 G n m):=lpc hG (pc G n) [3,25,26,27] ⟨[],[2],[(0,[])]⟩ (apl [(1,8,.loop q8)] ⟨pl8 hG n n,trivial⟩) (fun R st K=>by unfold dl5;split<;>rfl) fun m R st K r h=>by unfold dl5 at h;split at h;exact .trans (by kernel_rfl) h;cases h
noncomputable def Does (G:Gs) (g:Gr) (r:Bool):Prop:=∃n,main (R:=AT×List Ob) G n g (fun r0=>some (.one (.b r0),[]))=some (.one (.b r),[])
theorem ok {G:Gs} (hG:AllE Tryd.prog (ents G)) {g:Gr->Option (Bool)} (hg:∀g_ r,g g_=some r->Does G g_ r):EntOK Tryd.prog (ent g):=fun R xs H K r hc=>by
 simp only[ent]at hc
 split at hc
 ·obtain⟨r,j1,j2⟩:=bind_some hc
  obtain⟨n,j3⟩:=hg _ _ j1
  exact⟨_,_,j2,fnP hG an (pc G n) bd [.tmp 2] Tryd.func72 (.inl rfl) (apl [(1,5,.loop q5)] ⟨pl5 hG n n,trivial⟩) (.trans (by kernel_rfl) j3)⟩
 ·cases hc
end i_IsGraph
namespace i_labelsOK
structure Gs where
 none_:Unit
noncomputable def ents (_:Gs):List Ent:=[]
noncomputable def b2 {R:Type} (G:Gs) (n:Nat) (t5:List Int) (t6:Int) (t7:Int) (nx:Int->Option R) (k0:Bool->Option R) (k1:Option R):Option R:=
 bif decide (t7<t6)then
  (
  Option.bind (ix t5 t7) fun e=>
  bif decide (e<0)then
   (k0 false)
  else
   bif decide (255<e)then
    (k0 false)
   else
    nx (wr (t7+1))
  )
 else
  k1
noncomputable def l2 {R:Type} (G:Gs) (n m:Nat) (t5:List Int) (t6:Int) (t7:Int) (k0:Bool->Option R) (k1:Option R):Option R:=iter (fun(v:Int) nx=>b2 G n t5 t6 v (fun y0=>nx y0) k0 k1) m t7
noncomputable def main {R:Type} (G:Gs) (n:Nat) (labels:List Int) (K:Bool->Option R):Option R:=
 l2 G n n labels (List.length labels:Int) 0
  (fun t2=>K t2)
  (K true)
noncomputable def dl2 (G:Gs) (n m:Nat) (R:Type) (st:St) (K:Kt R):Option R:=match st with
 |⟨[(5,.one (.l .i t5)),(6,.one (.i t6)),(7,.one (.i t7))],[]⟩=>l2 G n m t5 t6 t7 (fun t2=>K .ret ⟨[(2,.one (.b t2))],[]⟩) (K (.exit 0) ⟨[],[]⟩)
 |_=>none
noncomputable def pc (G:Gs) (n:Nat):Pcs:=⟨fun R id st K=>bif Nat.beq id 2 then dl2 G n n R st K else none,fun _ _ _ _=>none,fun _ _ _ _=>none⟩
noncomputable def an:Ann:=⟨18,0,[(2,[5,6,7])],[],[2],[],[]⟩
noncomputable abbrev bd:=bodyOf Tryd.f70
noncomputable abbrev q2:=nthC [1,0,1,0,0] bd
theorem pl2 {G:Gs} (hG:AllE Tryd.prog (ents G)) (n:Nat):∀m,PieceOK Tryd.prog an (.loop q2) (dl2 G n m):=lpc hG (pc G n) [5,6,7] ⟨[],[2],[(0,[])]⟩ (apl [] trivial) (fun R st K=>by unfold dl2;split<;>rfl) fun m R st K r h=>by unfold dl2 at h;split at h;exact .trans (by kernel_rfl) h;cases h
noncomputable def Does (G:Gs) (labels:List Int) (r:Bool):Prop:=∃n,main (R:=AT×List Ob) G n labels (fun r0=>some (.one (.b r0),[]))=some (.one (.b r),[])
theorem ok {G:Gs} (hG:AllE Tryd.prog (ents G)) {g:List Int->Option (Bool)} (hg:∀labels r,g labels=some r->Does G labels r):EntOK Tryd.prog (ent g):=fun R xs H K r hc=>by
 simp only[ent]at hc
 split at hc
 ·obtain⟨r,j1,j2⟩:=bind_some hc
  obtain⟨n,j3⟩:=hg _ _ j1
  exact⟨_,_,j2,fnP hG an (pc G n) bd [.tmp 2] Tryd.func70 (.inl rfl) (apl [(1,2,.loop q2)] ⟨pl2 hG n n,trivial⟩) (.trans (by kernel_rfl) j3)⟩
 ·cases hc
end i_labelsOK
namespace i_IsLasso
structure Gs where
 none_:Unit
noncomputable def b2 {R:Type} (G:Gs) (n:Nat) (t7:List Int) (t8:Int) (h0:List Int) (h02:Int) (t9:Int) (nx:Int->Option R) (k0:Bool->Option R) (k1:Option R):Option R:=
 bif decide (t9<t8)then
  (
  Option.bind (ix t7 t9) fun e=>
  bif decide (e<0)then
   (k0 false)
  else
   nx (wr (t9+1))
  )
 else
  k1
noncomputable def l2 {R:Type} (G:Gs) (n m:Nat) (t7:List Int) (t8:Int) (h0:List Int) (h02:Int) (t9:Int) (k0:Bool->Option R) (k1:Option R):Option R:=iter (fun(v:Int) nx=>b2 G n t7 t8 h0 h02 v (fun y0=>nx y0) k0 k1) m t9
noncomputable def dl2 (G:Gs) (n m:Nat) (R:Type) (st:St) (K:Kt R):Option R:=match st with
 |⟨[(1,.one (.p 0 0)),(7,.one (.l .i t7)),(8,.one (.i t8)),(9,.one (.i t9))],[.box [.l .i h0,.i h02]]⟩=>l2 G n m t7 t8 h0 h02 t9 (fun t2=>K .ret ⟨[(2,.one (.b t2))],[]⟩) (K (.exit 0) ⟨[(1,.one (.p 0 0))],[.box [.l .i h0,.i h02]]⟩)
 |_=>none
noncomputable abbrev bd:=bodyOf Tryd.f69
noncomputable abbrev q2:=nthC [1,0,1,0,0] bd
end i_IsLasso
namespace i_followers
structure Gs where
 none_:Unit
noncomputable def ents (_:Gs):List Ent:=[]
noncomputable def main {R:Type} (G:Gs) (n:Nat) (g:Gr) (k:Int) (K:List Int->Option R):Option R:=
 Option.bind (ix (Gr.edges g) k) fun e=>
 bif decide ((List.length e:Int)=0)then
  (K [k])
 else
  Option.bind (ix (Gr.edges g) k) fun e2=>
  K e2
noncomputable def pc (_:Gs) (_:Nat):Pcs:=⟨fun _ _ _ _=>none,fun _ _ _ _=>none,fun _ _ _ _=>none⟩
noncomputable def an:Ann:=⟨19,0,[],[],[4],[],[]⟩
noncomputable abbrev bd:=bodyOf Tryd.f74
noncomputable def Does (G:Gs) (g:Gr) (k:Int) (r:List Int):Prop:=∃n,main (R:=AT×List Ob) G n g k (fun r0=>some (.one (.l .i r0),[]))=some (.one (.l .i r),[])
theorem ok {G:Gs} (hG:AllE Tryd.prog (ents G)) {g:Gr->Int->Option (List Int)} (hg:∀g_ k r,g g_ k=some r->Does G g_ k r):EntOK Tryd.prog (ent g):=fun R xs H K r hc=>by
 simp only[ent]at hc
 split at hc
 ·obtain⟨r,j1,j2⟩:=bind_some hc
  obtain⟨n,j3⟩:=hg _ _ _ j1
  exact⟨_,_,j2,fnP hG an (pc G n) bd [.tmp 4] Tryd.func74 (.inl rfl) (apl [] trivial) (.trans (by kernel_rfl) j3)⟩
 ·cases hc
end i_followers
namespace i_places_f1
structure Gs where
 none_:Unit
noncomputable def ents (_:Gs):List Ent:=[]
noncomputable def main {R:Type} (G:Gs) (n:Nat) (i:Int) (c0:Int) (c1:Lasso) (K:Int->Option R):Option R:=
 bif decide ((wr (i+1))<c0)then
  (K (wr (i+1)))
 else
  K (Lasso.back c1)
noncomputable def pc (_:Gs) (_:Nat):Pcs:=⟨fun _ _ _ _=>none,fun _ _ _ _=>none,fun _ _ _ _=>none⟩
noncomputable def an:Ann:=⟨13,2,[],[],[4],[],[]⟩
noncomputable abbrev bd:=bodyOf Tryd.f106
noncomputable def Does (G:Gs) (i:Int) (c0:Int) (c1:Lasso) (r:Int):Prop:=∃n,main (R:=AT×List Ob) G n i c0 c1 (fun r0=>some (.one (.i r0),[.box [.i c0],.box [.l .i (Lasso.states c1),.i (Lasso.back c1)]]))=some (.one (.i r),[.box [.i c0],.box [.l .i (Lasso.states c1),.i (Lasso.back c1)]])
theorem ok {G:Gs} (hG:AllE Tryd.prog (ents G)) {g:Int->Int->Lasso->Option (Int)} (hg:∀i c0 c1 r,g i c0 c1=some r->Does G i c0 c1 r):EntOK Tryd.prog (ent g):=fun R xs H K r hc=>by
 simp only[ent]at hc
 split at hc
 ·obtain⟨r,j1,j2⟩:=bind_some hc
  obtain⟨n,j3⟩:=hg _ _ _ _ j1
  exact⟨_,_,j2,fnP hG an (pc G n) bd [.tmp 4] Tryd.func106 (.inl rfl) (apl [] trivial) (.trans (by kernel_rfl) j3)⟩
 ·cases hc
end i_places_f1
namespace i_places
structure Gs where
 i_places:Fm->Lasso->List Int->Option (List Bool)
 i_places_f1:Int->Int->Lasso->Option (Int)
noncomputable def ents (G:Gs):List Ent:=[ent G.i_places,i_places_f1.ent G.i_places_f1]
noncomputable def b3 {R:Type} (G:Gs) (n:Nat) (labels:List Int) (t18:List Fm) (t19:Int) (h0:Int) (h02:Int) (h03:List Fm) (h1:List Int) (h12:Int) (t20:Int) (h2:List (List Bool)) (nx:Int->List (List Bool)->Option R) (k0:List (List Bool)->Option R):Option R:=
 bif decide (t20<t19)then
  (
  Option.bind (ix t18 t20) fun e=>
  Option.bind (G.i_places (Fm.mk (Fm.kind e) (Fm.prop e) (Fm.kids e)) (Lasso.mk h1 h12) labels) fun r=>
  Option.bind (lim (h2++[r])) fun zs=>
  nx (wr (t20+1)) zs
  )
 else
  k0 h2
noncomputable def l3 {R:Type} (G:Gs) (n m:Nat) (labels:List Int) (t18:List Fm) (t19:Int) (h0:Int) (h02:Int) (h03:List Fm) (h1:List Int) (h12:Int) (t20:Int) (h2:List (List Bool)) (k0:List (List Bool)->Option R):Option R:=iter (fun(v:Int×List (List Bool)) nx=>b3 G n labels t18 t19 h0 h02 h03 h1 h12 v.1 v.2 (fun y0 y1=>nx (y0,y1)) k0) m (t20,h2)
noncomputable def b11 {R:Type} (G:Gs) (n:Nat) (labels:List Int) (t39:List Int) (t40:Int) (h0:Int) (h02:Int) (h03:List Fm) (h1:List (List Bool)) (h2:Int) (h3:List Int) (h32:Int) (t41:Int) (h4:List Bool) (nx:Int->List Bool->Option R) (k0:List Bool->Option R):Option R:=
 bif decide (t41 < t40) then
  (
  Option.bind (ix t39 t41) fun e=>
  bif decide (h0=1)then
   (
   Option.bind (ix h4 t41) fun e2=>
   nx (wr (t41+1)) (List.set h4 (Int.toNat t41) true)
   )
  else
   bif decide (h0=2)then
    (
    Option.bind (ix labels e) fun e8=>
    Option.bind (bif decide (0<=h02)then some (Abs.bitsI .shl .i64 1 h02)else none) fun q4=>
    Option.bind (ix h4 t41) fun e10=>
    nx (wr (t41+1)) (List.set h4 (Int.toNat t41) (!decide ((Abs.bitsI .and .i64 e8 q4)=0)))
    )
   else
    bif decide (h0=3)then
     (
     Option.bind (ix h1 0) fun e11=>
     Option.bind (ix e11 t41) fun e12=>
     Option.bind (ix h4 t41) fun e13=>
     nx (wr (t41+1)) (List.set h4 (Int.toNat t41) (!e12))
     )
    else
     bif decide (h0=4)then
      (
      Option.bind (ix h1 0) fun e14=>
      Option.bind (ix e14 t41) fun e15=>
      bif e15 then
       (
       Option.bind (ix h1 1) fun e16=>
       Option.bind (ix e16 t41) fun e17=>
       Option.bind (ix h4 t41) fun e18=>
       nx (wr (t41+1)) (List.set h4 (Int.toNat t41) e17)
       )
      else
       Option.bind (ix h4 t41) fun e19=>
       nx (wr (t41+1)) (List.set h4 (Int.toNat t41) false)
      )
     else
      bif decide (h0=5)then
       (
       Option.bind (ix h1 0) fun e20=>
       Option.bind (ix e20 t41) fun e21=>
       bif e21 then
        (
        Option.bind (ix h4 t41) fun e22=>
        nx (wr (t41+1)) (List.set h4 (Int.toNat t41) true)
        )
       else
        Option.bind (ix h1 1) fun e23=>
        Option.bind (ix e23 t41) fun e24=>
        Option.bind (ix h4 t41) fun e25=>
        nx (wr (t41+1)) (List.set h4 (Int.toNat t41) e24)
       )
      else
       bif decide (h0=6)then
        (
        Option.bind (G.i_places_f1 t41 h2 (Lasso.mk h3 h32)) fun r2=>
        Option.bind (ix h1 0) fun e33=>
        Option.bind (ix e33 r2) fun e35=>
        Option.bind (ix h4 t41) fun e37=>
        nx (wr (t41+1)) (List.set h4 (Int.toNat t41) e35)
        )
       else
        nx (wr (t41+1)) h4
  )
 else
  k0 h4
noncomputable def l11 {R:Type} (G:Gs) (n m:Nat) (labels:List Int) (t39:List Int) (t40:Int) (h0:Int) (h02:Int) (h03:List Fm) (h1:List (List Bool)) (h2:Int) (h3:List Int) (h32:Int) (t41:Int) (h4:List Bool) (k0:List Bool->Option R):Option R:=iter (fun(v:Int×List Bool) nx=>b11 G n labels t39 t40 h0 h02 h03 h1 h2 h3 h32 v.1 v.2 (fun y0 y1=>nx (y0,y1)) k0) m (t41,h4)
noncomputable def b31 {R:Type} (G:Gs) (n:Nat) (t134:Int) (h0:List (List Bool)) (h1:Int) (h2:List Int) (h22:Int) (i:Int) (h3:List Bool) (nx:Int->List Bool->Option R) (k0:List Bool->Option R):Option R:=
 bif decide (0<=i)then
  (
  Option.bind (ix h0 1) fun e=>
  Option.bind (ix e i) fun e2=>
  bif e2 then
   (
   Option.bind (ix h3 i) fun e3=>
   nx (wr (i-1)) (List.set h3 (Int.toNat i) true)
   )
  else
   Option.bind (ix h0 0) fun e4=>
   Option.bind (ix e4 i) fun e5=>
   bif e5 then
    (
    Option.bind (G.i_places_f1 i h1 (Lasso.mk h2 h22)) fun r=>
    Option.bind (ix h3 r) fun e6=>
    Option.bind (ix h3 i) fun e7=>
    nx (wr (i-1)) (List.set h3 (Int.toNat i) e6)
    )
   else
    Option.bind (ix h3 i) fun e8=>
    nx (wr (i-1)) (List.set h3 (Int.toNat i) false)
  )
 else
  k0 h3
noncomputable def l31 {R:Type} (G:Gs) (n m:Nat) (t134:Int) (h0:List (List Bool)) (h1:Int) (h2:List Int) (h22:Int) (i:Int) (h3:List Bool) (k0:List Bool->Option R):Option R:=iter (fun(v:Int×List Bool) nx=>b31 G n t134 h0 h1 h2 h22 v.1 v.2 (fun y0 y1=>nx (y0,y1)) k0) m (i,h3)
noncomputable def b29 {R:Type} (G:Gs) (n:Nat) (h0:List (List Bool)) (h1:Int) (h2:List Int) (h22:Int) (t134:Int) (h3:List Bool) (nx:Int->List Bool->Option R) (k0:List Bool->Option R):Option R:=
 bif decide (t134<2)then
  (
  l31 G n n t134 h0 h1 h2 h22 (wr (h1-1)) h3
   (fun h32=>nx (wr (t134+1)) h32)
  )
 else
  k0 h3
noncomputable def l29 {R:Type} (G:Gs) (n m:Nat) (h0:List (List Bool)) (h1:Int) (h2:List Int) (h22:Int) (t134:Int) (h3:List Bool) (k0:List Bool->Option R):Option R:=iter (fun(v:Int×List Bool) nx=>b29 G n h0 h1 h2 h22 v.1 v.2 (fun y0 y1=>nx (y0,y1)) k0) m (t134,h3)
noncomputable def main {R:Type} (G:Gs) (n:Nat) (f:Fm) (l:Lasso) (labels:List Int) (K:List Bool->Option R):Option R:=
 l3 G n n labels (Fm.kids f) (List.length (Fm.kids f) : Int) (Fm.kind f) (Fm.prop f) (Fm.kids f) (Lasso.states l) (Lasso.back l) 0 []
  (fun h22 =>
   Option.bind (mk (α:=Bool) false (List.length (Lasso.states l):Int)) fun xs=>
   l11 G n n labels (Lasso.states l) (List.length (Lasso.states l) : Int) (Fm.kind f) (Fm.prop f) (Fm.kids f) h22 (List.length (Lasso.states l) : Int) (Lasso.states l) (Lasso.back l) 0 xs
    (fun h42 =>
     bif decide ((Fm.kind f)=7)then
      (
      l29 G n n h22 (List.length (Lasso.states l):Int) (Lasso.states l) (Lasso.back l) 0 h42
       (fun h02=>K h02)
      )
     else
      K h42
    )
  )
noncomputable def dl3 (G:Gs) (n m:Nat) (R:Type) (st:St) (K:Kt R):Option R:=match st with
 |⟨[(2,.one (.l .i labels)),(3,.one (.p 0 0)),(4,.one (.p 1 0)),(7,.one (.o 2)),(18,.one (.l (.n 2) t18)),(19,.one (.i t19)),(20,.one (.i t20))],[.box [.i h0,.i h02,.l (.n 2) h03],.box [.l .i h1,.i h12],.row (.sl .b) 0 h2]⟩=>l3 G n m labels t18 t19 h0 h02 h03 h1 h12 t20 h2 (fun h22=>K (.exit 0) ⟨[(2,.one (.l .i labels)),(3,.one (.p 0 0)),(4,.one (.p 1 0)),(7,.one (.o 2))],[.box [.i h0,.i h02,.l (.n 2) h03],.box [.l .i h1,.i h12],.row (.sl .b) 0 h22]⟩)
 |_=>none
noncomputable def dl11 (G:Gs) (n m:Nat) (R:Type) (st:St) (K:Kt R):Option R:=match st with
 |⟨[(2,.one (.l .i labels)),(3,.one (.p 0 0)),(7,.one (.o 1)),(10,.one (.p 2 0)),(11,.one (.f 106 [.p 2 0,.p 3 0])),(12,.one (.o 4)),(39,.one (.l .i t39)),(40,.one (.i t40)),(41,.one (.i t41))],[.box [.i h0,.i h02,.l (.n 2) h03],.row (.sl .b) 0 h1,.box [.i h2],.box [.l .i h3,.i h32],.row .b 0 h4]⟩=>l11 G n m labels t39 t40 h0 h02 h03 h1 h2 h3 h32 t41 h4 (fun h42=>K (.exit 2) ⟨[(3,.one (.p 0 0)),(7,.one (.o 1)),(10,.one (.p 2 0)),(11,.one (.f 106 [.p 2 0,.p 3 0])),(12,.one (.o 4))],[.box [.i h0,.i h02,.l (.n 2) h03],.row (.sl .b) 0 h1,.box [.i h2],.box [.l .i h3,.i h32],.row .b 0 h42]⟩)
 |_=>none
noncomputable def dl31 (G:Gs) (n m:Nat) (R:Type) (st:St) (K:Kt R):Option R:=match st with
 |⟨[(7,.one (.o 0)),(10,.one (.p 1 0)),(11,.one (.f 106 [.p 1 0,.p 2 0])),(12,.one (.o 3)),(15,.one (.i i)),(134,.one (.i t134))],[.row (.sl .b) 0 h0,.box [.i h1],.box [.l .i h2,.i h22],.row .b 0 h3]⟩=>l31 G n m t134 h0 h1 h2 h22 i h3 (fun h32=>K (.exit 7) ⟨[(7,.one (.o 0)),(10,.one (.p 1 0)),(11,.one (.f 106 [.p 1 0,.p 2 0])),(12,.one (.o 3)),(134,.one (.i t134))],[.row (.sl .b) 0 h0,.box [.i h1],.box [.l .i h2,.i h22],.row .b 0 h32]⟩)
 |_=>none
noncomputable def dl29 (G:Gs) (n m:Nat) (R:Type) (st:St) (K:Kt R):Option R:=match st with
 |⟨[(7,.one (.o 0)),(10,.one (.p 1 0)),(11,.one (.f 106 [.p 1 0,.p 2 0])),(12,.one (.o 3)),(134,.one (.i t134))],[.row (.sl .b) 0 h0,.box [.i h1],.box [.l .i h2,.i h22],.row .b 0 h3]⟩=>l29 G n m h0 h1 h2 h22 t134 h3 (fun h02=>K (.exit 5) ⟨[(12,.one (.o 0))],[.row .b 0 h02]⟩)
 |_=>none
noncomputable def pc (G:Gs) (n:Nat):Pcs:=⟨fun R id st K=>bif Nat.beq id 3 then dl3 G n n R st K else bif Nat.beq id 11 then dl11 G n n R st K else bif Nat.beq id 31 then dl31 G n n R st K else bif Nat.beq id 29 then dl29 G n n R st K else none,fun _ _ _ _=>none,fun _ _ _ _=>none⟩
noncomputable def an:Ann:=⟨169,0,[(3,[2,3,4,7,18,19,20]),(11,[2,3,7,10,11,12,39,40,41]),(31,[7,10,11,12,15,134]),(29,[7,10,11,12,134])],[],[6],[(17,⟨[([0,1,2,3,4,5,6,7,8,9,10,11,12],[12],[11])],[12],[],[0,1,2,3],[]⟩),(25,⟨[([5,6,7,0,1,2,3,4,8,9,10,11],[7,11],[10])],[7,11],[],[0,1],[]⟩)],[]⟩
noncomputable abbrev bd:=bodyOf Tryd.f71
noncomputable abbrev q3:=nthC [1,1,0,1,0,0] bd
noncomputable abbrev q11:=nthC [1,1,1,1,1,1,0,1,0,0] bd
noncomputable abbrev q31:=nthC [1,1,1,1,1,1,1,0,1,0,1,0,0,1,1,0,0,1,0,0] bd
noncomputable abbrev q29:=nthC [1,1,1,1,1,1,1,0,1,0,1,0,0] bd
theorem pl3 {G:Gs} (hG:AllE Tryd.prog (ents G)) (n:Nat):∀m,PieceOK Tryd.prog an (.loop q3) (dl3 G n m):=lpc hG (pc G n) [2,3,4,7,18,19,20] ⟨[2,3,4,7],[6],[(0,[2,3,4,7])]⟩ (apl [] trivial) (fun R st K=>by unfold dl3;split<;>rfl) fun m R st K r h=>by unfold dl3 at h;split at h;exact .trans (by kernel_rfl) h;cases h
theorem pl11 {G:Gs} (hG:AllE Tryd.prog (ents G)) (n:Nat):∀m,PieceOK Tryd.prog an (.loop q11) (dl11 G n m):=lpc hG (pc G n) [2,3,7,10,11,12,39,40,41] ⟨[3,7,10,11,12],[6],[(2,[3,7,10,11,12])]⟩ (apl [] trivial) (fun R st K=>by unfold dl11;split<;>rfl) fun m R st K r h=>by unfold dl11 at h;split at h;exact .trans (by kernel_rfl) h;cases h
theorem pl31 {G:Gs} (hG:AllE Tryd.prog (ents G)) (n:Nat):∀m,PieceOK Tryd.prog an (.loop q31) (dl31 G n m):=lpc hG (pc G n) [7,10,11,12,15,134] ⟨[7,10,11,12,134],[6],[(5,[12]),(6,[7,10,11,12,134]),(7,[7,10,11,12,134])]⟩ (apl [] trivial) (fun R st K=>by unfold dl31;split<;>rfl) fun m R st K r h=>by unfold dl31 at h;split at h;exact .trans (by kernel_rfl) h;cases h
theorem pl29 {G:Gs} (hG:AllE Tryd.prog (ents G)) (n:Nat):∀m,PieceOK Tryd.prog an (.loop q29) (dl29 G n m):=lpc hG (pc G n) [7,10,11,12,134] ⟨[12],[6],[(5,[12])]⟩ (apl [(1,31,.loop q31)] ⟨pl31 hG n n,trivial⟩) (fun R st K=>by unfold dl29;split<;>rfl) fun m R st K r h=>by unfold dl29 at h;split at h;exact .trans (by kernel_rfl) h;cases h
noncomputable def Does (G:Gs) (f:Fm) (l:Lasso) (labels:List Int) (r:List Bool):Prop:=∃n,main (R:=AT×List Ob) G n f l labels (fun r0=>some (.one (.l .b r0),[]))=some (.one (.l .b r),[])
theorem ok {G:Gs} (hG:AllE Tryd.prog (ents G)) {g:Fm->Lasso->List Int->Option (List Bool)} (hg:∀f l labels r,g f l labels=some r->Does G f l labels r):EntOK Tryd.prog (ent g):=fun R xs H K r hc=>by
 simp only[ent]at hc
 split at hc
 ·obtain⟨r,j1,j2⟩:=bind_some hc
  obtain⟨n,j3⟩:=hg _ _ _ _ j1
  exact⟨_,_,j2,fnP hG an (pc G n) bd [.tmp 6] Tryd.func71 (.inl rfl) (apl [(1,3,.loop q3),(1,11,.loop q11),(1,29,.loop q29)] ⟨pl3 hG n n,⟨pl11 hG n n,⟨pl29 hG n n,trivial⟩⟩⟩) (.trans (by kernel_rfl) j3)⟩
 ·cases hc
end i_places
namespace i_HoldsOn
noncomputable abbrev bd:=bodyOf Tryd.f33
noncomputable abbrev q4:=nthC [1,1,0,1,0,0] bd
end i_HoldsOn
namespace i_IsRun
noncomputable abbrev bd:=bodyOf Tryd.f34
noncomputable abbrev q9:=nthC [1,1,0,1,0,0,1,1,0,0,1,1,1] bd
noncomputable abbrev q4:=nthC [1,1,0,1,0,0] bd
end i_IsRun
namespace slices_Index_intint
structure Gs where
 none_:Unit
noncomputable def ents (_:Gs):List Ent:=[]
noncomputable def b2 {R:Type} (G:Gs) (n:Nat) (s:List Int) (v2:Int) (t7:Int) (t8:Int) (nx:Int->Option R) (k0:Int->Option R) (k1:Option R):Option R:=
 bif decide (t8<t7)then
  (
  Option.bind (ix s t8) fun e=>
  bif decide (v2=e)then
   (k0 t8)
  else
   nx (wr (t8+1))
  )
 else
  k1
noncomputable def l2 {R:Type} (G:Gs) (n m:Nat) (s:List Int) (v2:Int) (t7:Int) (t8:Int) (k0:Int->Option R) (k1:Option R):Option R:=iter (fun(v:Int) nx=>b2 G n s v2 t7 v (fun y0=>nx y0) k0 k1) m t8
noncomputable def main {R:Type} (G:Gs) (n:Nat) (s:List Int) (v2:Int) (K:Int->Option R):Option R:=
 l2 G n n s v2 (List.length s:Int) 0
  (fun t4=>K t4)
  (K (-1))
noncomputable def dl2 (G:Gs) (n m:Nat) (R:Type) (st:St) (K:Kt R):Option R:=match st with
 |⟨[(0,.one (.l .i s)),(1,.one (.i v2)),(7,.one (.i t7)),(8,.one (.i t8))],[]⟩=>l2 G n m s v2 t7 t8 (fun t4=>K .ret ⟨[(4,.one (.i t4))],[]⟩) (K (.exit 0) ⟨[],[]⟩)
 |_=>none
noncomputable def pc (G:Gs) (n:Nat):Pcs:=⟨fun R id st K=>bif Nat.beq id 2 then dl2 G n n R st K else none,fun _ _ _ _=>none,fun _ _ _ _=>none⟩
noncomputable def an:Ann:=⟨19,0,[(2,[0,1,7,8])],[],[4],[],[]⟩
noncomputable abbrev bd:=bodyOf Tryd.f107
noncomputable abbrev q2:=nthC [1,0,1,0,0] bd
theorem pl2 {G:Gs} (hG:AllE Tryd.prog (ents G)) (n:Nat):∀m,PieceOK Tryd.prog an (.loop q2) (dl2 G n m):=lpc hG (pc G n) [0,1,7,8] ⟨[],[4],[(0,[])]⟩ (apl [] trivial) (fun R st K=>by unfold dl2;split<;>rfl) fun m R st K r h=>by unfold dl2 at h;split at h;exact .trans (by kernel_rfl) h;cases h
noncomputable def Does (G:Gs) (s:List Int) (v2:Int) (r:Int):Prop:=∃n,main (R:=AT×List Ob) G n s v2 (fun r0=>some (.one (.i r0),[]))=some (.one (.i r),[])
theorem ok {G:Gs} (hG:AllE Tryd.prog (ents G)) {g:List Int->Int->Option (Int)} (hg:∀s v2 r,g s v2=some r->Does G s v2 r):EntOK Tryd.prog (ent g):=fun R xs H K r hc=>by
 simp only[ent]at hc
 split at hc
 ·obtain⟨r,j1,j2⟩:=bind_some hc
  obtain⟨n,j3⟩:=hg _ _ _ j1
  exact⟨_,_,j2,fnP hG an (pc G n) bd [.tmp 4] Tryd.func107 (.inl rfl) (apl [(1,2,.loop q2)] ⟨pl2 hG n n,trivial⟩) (.trans (by kernel_rfl) j3)⟩
 ·cases hc
end slices_Index_intint
namespace slices_Contains_intint
structure Gs where
 slices_Index_intint:List Int->Int->Option (Int)
noncomputable def ents (G:Gs):List Ent:=[slices_Index_intint.ent G.slices_Index_intint]
noncomputable def main {R:Type} (G:Gs) (n:Nat) (s:List Int) (v2:Int) (K:Bool->Option R):Option R:=
 Option.bind (G.slices_Index_intint s v2) fun r=>
 K (decide (0<=r))
noncomputable def pc (_:Gs) (_:Nat):Pcs:=⟨fun _ _ _ _=>none,fun _ _ _ _=>none,fun _ _ _ _=>none⟩
noncomputable def an:Ann:=⟨9,0,[],[],[4],[],[]⟩
noncomputable abbrev bd:=bodyOf Tryd.f73
noncomputable def Does (G:Gs) (s:List Int) (v2:Int) (r:Bool):Prop:=∃n,main (R:=AT×List Ob) G n s v2 (fun r0=>some (.one (.b r0),[]))=some (.one (.b r),[])
theorem ok {G:Gs} (hG:AllE Tryd.prog (ents G)) {g:List Int->Int->Option (Bool)} (hg:∀s v2 r,g s v2=some r->Does G s v2 r):EntOK Tryd.prog (ent g):=fun R xs H K r hc=>by
 simp only[ent]at hc
 split at hc
 ·obtain⟨r,j1,j2⟩:=bind_some hc
  obtain⟨n,j3⟩:=hg _ _ _ j1
  exact⟨_,_,j2,fnP hG an (pc G n) bd [.tmp 4] Tryd.func73 (.inl rfl) (apl [] trivial) (.trans (by kernel_rfl) j3)⟩
 ·cases hc
end slices_Contains_intint
end Go.Proofs.YtjafncnjefnloaaDoor.Den

namespace Go.Proofs.YtjafncnjefnloaaDoor.Den
open Go.RowKit
open Classical
def rowOk (n:Nat) (l:List Int):Prop:=∀(k:Nat) (x:Int),l[k]? =some x->0<=x/\x<n/\∀(j:Nat) (y:Int),k=j+1->l[j]? =some y->y<x
def graphOk (g:Gr):Prop:=1<=g.states.length/\g.states.length<=40/\g.edges.length=g.states.length/\∀row∈g.edges,rowOk g.states.length row
theorem rowOk_ge {n:Nat} {l:List Int} (h:rowOk n l):∀(k:Nat) (x:Int),l[k]? =some x->(k:Int)<=x
 |0,x,hx=>(h 0 x hx).1
 | k + 1, x, hx => by
  have hk:k<l.length:=by have:=(List.getElem?_eq_some_iff.1 hx).1;omega
  have hy:=List.getElem?_eq_getElem hk
  have:=rowOk_ge h k _ hy
  have:=(h (k+1) x hx).2.2 k _ rfl hy
  omega
theorem rowOk_len {n:Nat} {l:List Int} (h:rowOk n l):l.length<=n:=by
 by_cases h0:l.length=0
 ·omega
 ·have hk:l.length-1<l.length:=by omega
  have hy:=List.getElem?_eq_getElem hk
  have h1:=rowOk_ge h _ _ hy
  have h2:=(h _ _ hy).2.1
  omega
def folS (g:Gr) (s:Nat):List Int:=match g.edges[s]? with|some []=>[(s:Int)]|some row=>row|none=>[]
theorem folS_of {g:Gr} (hg:graphOk g) {s:Nat} (hs:s<g.states.length):folS g s≠[]/\(folS g s).length<=40/\∀x∈folS g s,0<=x/\x<g.states.length:=by
 obtain⟨g1,g2,g3,g4⟩:=hg
 obtain⟨row,hr,hrm⟩:=get_lt (xs:=g.edges) (i:=s) (by omega)
 have ho:=g4 row hrm
 have hl:=rowOk_len ho
 unfold folS
 rw[hr]
 cases row with
 |nil=>exact⟨by simp,by simp,fun x hx=>by simp at hx;subst hx;exact⟨by omega,by omega⟩⟩
 | cons a row =>
  refine⟨by simp,by show (a::row).length<=40;omega,fun x hx=> ?_⟩
  obtain⟨k,hk,e⟩:=List.getElem_of_mem (show x∈a::row from hx)
  have:=ho k x (by rw[List.getElem?_eq_getElem hk,e])
  exact⟨this.1,this.2.1⟩
noncomputable def gFollow:Gr->Int->Option (List Int):=fun g s=>if graphOk g/\0<=s/\s<g.states.length then some (folS g s.toNat)else none
theorem followers_ok :EntOK Tryd.prog (i_followers.ent gFollow):=i_followers.ok (G:=⟨()⟩) trivial fun g s r h=>by
 unfold gFollow at h
 split at h
 ·rename_i hp
  cases h
  obtain⟨hg,h0,h1⟩:=hp
  obtain⟨a,rfl⟩:=Int.eq_ofNat_of_zero_le h0
  refine⟨1,?_⟩
  obtain⟨row,hr,hrm⟩:=get_lt (xs:=g.edges) (i:=a) (by have:=hg.2.2.1;omega)
  unfold i_followers.main folS
  rw[ix_get hr,Option.bind_some,Int.toNat_natCast,hr]
  cases row with
  |nil=>rfl
  | cons a row =>
   rw[decide_eq_false (by simp;omega)]
   rfl
 ·cases h
noncomputable def gTempsI:Fm->List Fm->Option (List Fm):=fun f acc=>if PreT 13 f acc then some (temps 13 f acc)else none
theorem tempsI_ok :EntOK Tryd.prog (i_temporalParts.ent gTempsI):=i_temporalParts.ok (G:=⟨gTemps 12,gHasF⟩) ⟨temps_ok 12,has_ok,trivial⟩ fun f acc r h=>by
 unfold gTempsI at h
 split at h
 ·rename_i hp
  cases h
  exact⟨f.kids.length+1,temps_main 12 f acc hp _⟩
 ·cases h
end Go.Proofs.YtjafncnjefnloaaDoor.Den

namespace Go.Proofs.YtjafncnjefnloaaDoor.Den
open Go.RowKit
open Classical
section
variable {R : Type}
theorem list_kids (k n:Nat) (f:Fm) (acc:List Fm) (h:PreT (k+1) f acc) (hn:f.kids.length<n) (k0:List Fm->Option R):
  s_l32List.l2 ⟨gParts k,gText 13⟩ n n f.kind f.prop f.kids acc 0 k0=k0 (f.kids.foldl (fun a x=>parts k x a) acc):=by
 have hst:∀x∈f.kids,∀a,((fun a x=>parts k x a) a x).length<=a.length+x.size/\((∀y∈a,goodF y)->∀y∈(fun a x=>parts k x a) a x,goodF y):=fun x hx a=>parts_grow k x a (h.2.1.kid hx)
 unfold s_l32List.l2
 refine countR f.kids.length (fun a t nx=>s_l32List.b2 ⟨gParts k,gText 13⟩ n f.kind f.prop f.kids a t nx k0) (fun i a=>a=(f.kids.take i).foldl (fun a x=>parts k x a) acc) (fun _ _=>k0 (f.kids.foldl (fun a x=>parts k x a) acc)) (fun a nx ha=> ?_) (fun i a nx hi ha hnx=> ?_) n 0 acc (by simp) (by omega) (by omega)
 ·unfold s_l32List.b2
  rw[nlt_nat (by omega),cond_false,ha,take_all]
 ·subst ha
  obtain⟨x,hx,hm⟩:=get_lt hi
  have hp:=mid_pre h hst hx
  have hl:f.kids.length<=1000:=by have:=len_size f;have:=h.1;have:=h.2.1.1;omega
  unfold s_l32List.b2
  simp only[Fm.eta]
  rw[lt_nat hi,cond_true,ix_get hx,Option.bind_some,show gParts k x _=some _ from if_pos hp,Option.bind_some,wr_one (by omega)]
  exact hnx _ (fold_take (f:=fun a x=>parts k x a) hx).symm
theorem list_seek (k n:Nat) (f:Fm) (L:List Fm) (hL:goods L) (hf:goodF f) (hn:L.length<n) (k0 k1:Option R):
  s_l32List.l6 ⟨gParts k,gText 13⟩ n n L f.kind f.prop f.kids 0 k0 k1=bif decide (f∈L)then k0 else k1:=by
 unfold s_l32List.l6
 refine(count0 L.length (fun t nx=>s_l32List.b6 ⟨gParts k,gText 13⟩ n L f.kind f.prop f.kids t nx k0 k1) (fun i=>bif decide (f∈L.drop i)then k0 else k1) (fun nx=> ?_) (fun i nx hi hnx=> ?_) n 0 (by omega) (by omega)).trans ?_
 ·unfold s_l32List.b6
  rw[nlt_nat (by omega),cond_false,drop_nat];simp
 ·obtain⟨x,hx,hm⟩:=get_lt hi
  obtain⟨hlt,e⟩:=List.getElem?_eq_some_iff.1 hx
  unfold s_l32List.b6
  simp only[Fm.eta]
  rw[lt_nat hi,cond_true,ix_get hx,Option.bind_some,gText_good (hL.1 x hm),Option.bind_some,gText_good hf,Option.bind_some,text_same (hL.1 x hm) hf,wr_one (by have:=hL.2;omega),hnx,List.drop_eq_getElem_cons hlt,e]
  by_cases q:x=f
  ·subst q;simp
  ·rw[decide_eq_false q,cond_false]
   congr 1
   exact decide_eq_decide.2 ⟨fun h=>List.mem_cons_of_mem _ h,fun h=>(List.mem_cons.1 h).resolve_left fun h=>q h.symm⟩
 ·rw[List.drop_zero]
end
theorem gParts_zero :gParts 0=fun _ _=>none:=by
 funext f acc
 exact if_neg fun q=>by have:=q.1;rw[Fm.size_eq]at this;omega
theorem parts_ok :∀k,EntOK Tryd.prog (s_l32List.ent (gParts k))
 | 0 => by
  rw[gParts_zero]
  intro R xs H K r h
  simp only[s_l32List.ent]at h
  split at h<;>cases h
 | k + 1 => s_l32List.ok (G := ⟨gParts k, gText 13⟩) ⟨parts_ok k, l31Text_ok 13, trivial⟩ fun f acc r h => by
  unfold gParts at h
  split at h
  ·rename_i hp
   cases h
   have hst:∀x∈f.kids,∀a,((fun a x=>parts k x a) a x).length<=a.length+x.size/\((∀y∈a,goodF y)->∀y∈(fun a x=>parts k x a) a x,goodF y):=fun x hx a=>parts_grow k x a (hp.2.1.kid hx)
   obtain⟨h1,h2⟩:=end_pre hp hst
   have hl:f.kids.length<=1000:=by have:=len_size f;have:=hp.1;have:=hp.2.1.1;omega
   refine⟨2000,?_⟩
   unfold s_l32List.main
   rw[list_kids k 2000 f acc hp (by omega)]
   dsimp only
   have e2:parts (k+1) f acc=addF f (f.kids.foldl (fun a x=>parts k x a) acc):=rfl
   rw[e2]
   generalize f.kids.foldl (fun a x=>parts k x a) acc=L at*
   rw[list_seek k 2000 f L h1 hp.2.1 (by omega)]
   unfold addF
   by_cases hm:f∈L
   ·rw[decide_eq_true hm,cond_true,if_pos hm]
   ·have l1:lim ([]++L)=some L:=lim_eq (xs:=L) (by omega)
    have l2:lim (L++[f])=some (L++[f]):=lim_eq (by simp;omega)
    simp only[Fm.eta]
    rw[decide_eq_false hm,cond_false,if_neg hm,l1,Option.bind_some,l2,Option.bind_some]
  ·cases h
section
variable {R : Type}
end
def hasB (set:Nat) (k:Int):Bool:=decide (0<=k/\k<16)&&set.testBit k.toNat
theorem hasB_nat {set k:Nat} (h:k<16):hasB set (k:Int)=set.testBit k:=by
 unfold hasB
 rw[decide_eq_true (by omega),Int.toNat_natCast,Bool.true_and]
noncomputable def gHasB:Int->Int->Option Bool:=fun set k=>if 0<=set/\set<100000 then some (hasB set.toNat k)else none
theorem hasB_ok :EntOK Tryd.prog (s_l2Has.ent gHasB):=s_l2Has.ok (G:=⟨()⟩) trivial fun set k r h=>by
 unfold gHasB at h
 split at h
 ·rename_i hs
  cases h
  obtain⟨a,rfl⟩:=Int.eq_ofNat_of_zero_le hs.1
  refine⟨1,?_⟩
  unfold s_l2Has.main hasB
  rw[Int.toNat_natCast]
  by_cases h0:0<=k
  ·obtain⟨b,rfl⟩:=Int.eq_ofNat_of_zero_le h0
   rw[decide_eq_true h0,cond_true]
   by_cases h1:(b:Int)<16
   ·rw[decide_eq_true h1,cond_true,wrap_u64 (by omega) (by omega),decide_eq_true h0,cond_true,Option.bind_some,bit_shr (by omega) (by omega),decide_eq_true (by omega),Bool.true_and,Int.toNat_natCast]
   ·rw[decide_eq_false h1,cond_false,decide_eq_false (by omega)];rfl
  ·rw[decide_eq_false h0,cond_false,decide_eq_false (by omega)];rfl
 ·cases h
end Go.Proofs.YtjafncnjefnloaaDoor.Den

namespace Go.Proofs.YtjafncnjefnloaaDoor.Den
open Go.RowKit
open Classical
def tF (P:List Fm):List Fm:=P.filter fun t=>decide (6<=t.kind)
section
variable {R : Type}
variable (n : Nat) (hn : 1000 < n)
include hn
end
end Go.Proofs.YtjafncnjefnloaaDoor.Den

namespace Go.Proofs.YtjafncnjefnloaaDoor.Den
open Go.RowKit
open Classical
section
variable {R : Type}
variable (n : Nat) (hn : 1000 < n)
include hn
end
end Go.Proofs.YtjafncnjefnloaaDoor.Den

namespace Go.Proofs.YtjafncnjefnloaaDoor.Den
open Go.RowKit
open Classical
theorem edges_ok :EntOK Tryd.prog (s_l32Edges.ent gFollow):=s_l32Edges.ok (G:=⟨()⟩) trivial fun g s r h=>by
 unfold gFollow at h
 split at h
 ·rename_i hp
  cases h
  obtain⟨hg,h0,h1⟩:=hp
  obtain⟨a,rfl⟩:=Int.eq_ofNat_of_zero_le h0
  refine⟨1,?_⟩
  obtain⟨row,hr,hrm⟩:=get_lt (xs:=g.edges) (i:=a) (by have:=hg.2.2.1;omega)
  unfold s_l32Edges.main folS
  rw[ix_get hr,Option.bind_some,Int.toNat_natCast,hr]
  cases row with
  |nil=>rfl
  | cons a row =>
   rw[decide_eq_false (by simp;omega)]
   rfl
 ·cases h
noncomputable def gHasInt:List Int->Int->Option Bool:=fun xs x=>if xs.length<=100000 then some (decide (x∈xs))else none
theorem hasInt_main {R:Type} (n:Nat) (xs:List Int) (x:Int) (hn:xs.length<n) (hl:xs.length<=100000) (K:Bool->Option R):s_l1HasInt.main ⟨()⟩ n xs x K=K (decide (x∈xs)):=by
 unfold s_l1HasInt.main s_l1HasInt.l2
 refine(count0 xs.length (fun t nx=>s_l1HasInt.b2 ⟨()⟩ n xs x t nx (fun t4=>K t4) (K false)) (fun i=>K (decide (x∈xs.drop i))) (fun nx=> ?_) (fun i nx hi hnx=> ?_) n 0 (by omega) (by omega)).trans ?_
 ·unfold s_l1HasInt.b2
  rw[nlt_nat (by omega),cond_false,drop_nat];simp
 ·obtain⟨y,hy,hm⟩:=get_lt hi
  obtain⟨hlt,e⟩:=List.getElem?_eq_some_iff.1 hy
  unfold s_l1HasInt.b2
  rw[lt_nat hi,cond_true,ix_get hy,Option.bind_some,wr_one (by omega),hnx,List.drop_eq_getElem_cons hlt,e]
  by_cases q:y=x
  ·subst q;simp
  ·rw[decide_eq_false q,cond_false]
   congr 1
   exact decide_eq_decide.2 ⟨fun h=>List.mem_cons_of_mem _ h,fun h=>(List.mem_cons.1 h).resolve_left fun h=>q h.symm⟩
 ·rw[List.drop_zero]
theorem hasInt_ok :EntOK Tryd.prog (s_l1HasInt.ent gHasInt):=s_l1HasInt.ok (G:=⟨()⟩) trivial fun xs x r h=>by
 unfold gHasInt at h
 split at h
 ·rename_i hl
  cases h
  exact⟨xs.length+1,hasInt_main _ xs x (by omega) hl _⟩
 ·cases h
end Go.Proofs.YtjafncnjefnloaaDoor.Den

namespace Go.Proofs.YtjafncnjefnloaaDoor.Den
open Go.RowKit
open Classical
section
variable {R : Type}
variable (n : Nat) (hn : 1000000 < n)
include hn
end
section
variable {R : Type}
variable (n : Nat) (hn : 1000 < n)
include hn
end
end Go.Proofs.YtjafncnjefnloaaDoor.Den

namespace Go.Proofs.YtjafncnjefnloaaDoor.Den
open Go.RowKit
open Classical
end Go.Proofs.YtjafncnjefnloaaDoor.Den

namespace Go.Proofs.YtjafncnjefnloaaDoor.Den
open Go.RowKit
open Classical
section
variable {R : Type}
variable (n : Nat) (hn : 1000 < n)
include hn
end
end Go.Proofs.YtjafncnjefnloaaDoor.Den

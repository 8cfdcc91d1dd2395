/-
  Texts that the claim rests on, merged: PH, Sh.
-/
import Derived.Test.YtagnfckihdlhpaaZRowSP15
import Derived.Test.YtagnfckihdlhpaaZRowSP21

namespace Go.Proofs.Ytagnfckihdlhpaa.Den
open Go.RowKit
set_option maxRecDepth 100000
set_option linter.unusedVariables false
namespace s_ShortestPath
structure Gs where
 s_IsGraph:Gr->Option (Bool)
 s_l1In:Int->Int->Int->Option (Bool)
 s_l1HasInt:List Int->Int->Option (Bool)
noncomputable def ents (G:Gs):List Ent:=[s_IsGraph.ent G.s_IsGraph,s_l1In.ent G.s_l1In,s_l1HasInt.ent G.s_l1HasInt]
noncomputable def b10 {R:Type} (G:Gs) (n:Nat) (goal:Int) (i:Int) (list:List Int) (h0:List Tm) (h02:List (List Int)) (h03:Bool) (k:Int) (h1:List Int) (h2:List Int) (nx:Int->List Int->List Int->Option R) (k0:List Int->List Int->Option R):Option R:=
 bif decide (k<(List.length list:Int))then
  (
  Option.bind (ix list k) fun e=>
  Option.bind (G.s_l1HasInt h2 e) fun r=>
  bif !r then
   (
   Option.bind (ix list k) fun e2=>
   Option.bind (lim (h2++[e2])) fun zs=>
   Option.bind (ix list k) fun e10=>
   Option.bind (ix zs i) fun e12=>
   Option.bind (ix h1 e10) fun e14=>
   nx (wr (k+1)) (List.set h1 (Int.toNat e10) e12) zs
   )
  else
   nx (wr (k+1)) h1 h2
  )
 else
  k0 h1 h2
noncomputable def l10 {R:Type} (G:Gs) (n m:Nat) (goal:Int) (i:Int) (list:List Int) (h0:List Tm) (h02:List (List Int)) (h03:Bool) (k:Int) (h1:List Int) (h2:List Int) (k0:List Int->List Int->Option R):Option R:=iter (fun(v:Int×List Int×List Int) nx=>b10 G n goal i list h0 h02 h03 v.1 v.2.1 v.2.2 (fun y0 y1 y2=>nx (y0,y1,y2)) k0) m (k,h1,h2)
noncomputable def c9 {R:Type} (G:Gs) (n:Nat) (goal:Int) (i:Int) (list:List Int) (h0:List Tm) (h02:List (List Int)) (h03:Bool) (h1:List Int) (h2:List Int) (k0:List Int->List Int->Option R):Option R:=
 l10 G n n goal i list h0 h02 h03 0 h1 h2
  (fun h12 h22=>k0 h12 h22)
noncomputable def b6 {R:Type} (G:Gs) (n:Nat) (goal:Int) (h0:List Tm) (h02:List (List Int)) (h03:Bool) (i:Int) (h1:List Int) (h2:List Int) (nx:Int->List Int->List Int->Option R) (k0:List Int->List Int->Option R):Option R:=
 bif decide (i<(List.length h2:Int))then
  (
  Option.bind (ix h2 i) fun e6=>
  Option.bind (ix h02 e6) fun e8=>
  c9 G n goal i e8 h0 h02 h03 h1 h2
   (fun h122 h222=>nx (wr (i+1)) h122 h222)
  )
 else
  k0 h1 h2
noncomputable def l6 {R:Type} (G:Gs) (n m:Nat) (goal:Int) (h0:List Tm) (h02:List (List Int)) (h03:Bool) (i:Int) (h1:List Int) (h2:List Int) (k0:List Int->List Int->Option R):Option R:=iter (fun(v:Int×List Int×List Int) nx=>b6 G n goal h0 h02 h03 v.1 v.2.1 v.2.2 (fun y0 y1 y2=>nx (y0,y1,y2)) k0) m (i,h1,h2)
noncomputable def b18 {R:Type} (G:Gs) (n:Nat) (h0:List Int) (h1:List Int) (nx:List Int->Option R) (k0:List Int->Option R):Option R:=
 Option.bind (ix h1 0) fun e=>
 bif !decide (e=0)then
  (
  Option.bind (ix h1 0) fun e2=>
  Option.bind (ix h0 e2) fun e3=>
  Option.bind (lim ([e3]++h1)) fun zs=>
  nx zs
  )
 else
  k0 h1
noncomputable def l18 {R:Type} (G:Gs) (n m:Nat) (h0:List Int) (h1:List Int) (k0:List Int->Option R):Option R:=iter (fun(v:List Int) nx=>b18 G n h0 v (fun y0=>nx y0) k0) m h1
noncomputable def main {R:Type} (G:Gs) (n:Nat) (g:Gr) (goal:Int) (K:List Int->Bool->Option R):Option R:=
 Option.bind (G.s_IsGraph g) fun r=>
 bif !r then
  (K [] false)
 else
  Option.bind (G.s_l1In goal 0 (wr ((List.length (Gr.states g):Int)-1))) fun r2=>
  bif !r2 then
   (K [] false)
  else
   Option.bind (mk (α:=Int) 0 (List.length (Gr.states g):Int)) fun xs=>
   l6 G n n goal (Gr.states g) (Gr.edges g) (Gr.whole g) 0 xs [0]
    (fun h04 h12 =>
     Option.bind (G.s_l1HasInt h12 goal) fun r3=>
     bif !r3 then
      (K [] false)
     else
      l18 G n n h04 [goal]
       (fun h02=>K h02 true)
    )
noncomputable def dl10 (G:Gs) (n m:Nat) (R:Type) (st:St) (K:Kt R):Option R:=match st with
 |⟨[(1,.one (.i goal)),(2,.one (.p 0 0)),(6,.one (.o 1)),(7,.one (.o 2)),(8,.one (.i i)),(9,.one (.l .i list)),(10,.one (.i k))],[.box [.l (.n 1) h0,.l (.sl .i) h02,.b h03],.row .i 0 h1,.row .i 0 h2]⟩=>l10 G n m goal i list h0 h02 h03 k h1 h2 (fun h12 h22=>K (.exit 2) ⟨[(1,.one (.i goal)),(2,.one (.p 0 0)),(6,.one (.o 1)),(7,.one (.o 2)),(8,.one (.i i))],[.box [.l (.n 1) h0,.l (.sl .i) h02,.b h03],.row .i 0 h12,.row .i 0 h22]⟩)
 |_=>none
noncomputable def dc9 (G:Gs) (n:Nat) (R:Type) (st:St) (K:Kt R):Option R:=match st with
 |⟨[(1,.one (.i goal)),(2,.one (.p 0 0)),(6,.one (.o 1)),(7,.one (.o 2)),(8,.one (.i i)),(9,.one (.l .i list))],[.box [.l (.n 1) h0,.l (.sl .i) h02,.b h03],.row .i 0 h1,.row .i 0 h2]⟩=>c9 G n goal i list h0 h02 h03 h1 h2 (fun h12 h22=>K .normal ⟨[(1,.one (.i goal)),(2,.one (.p 0 0)),(6,.one (.o 1)),(7,.one (.o 2)),(8,.one (.i i))],[.box [.l (.n 1) h0,.l (.sl .i) h02,.b h03],.row .i 0 h12,.row .i 0 h22]⟩)
 |_=>none
noncomputable def dl6 (G:Gs) (n m:Nat) (R:Type) (st:St) (K:Kt R):Option R:=match st with
 |⟨[(1,.one (.i goal)),(2,.one (.p 0 0)),(6,.one (.o 1)),(7,.one (.o 2)),(8,.one (.i i))],[.box [.l (.n 1) h0,.l (.sl .i) h02,.b h03],.row .i 0 h1,.row .i 0 h2]⟩=>l6 G n m goal h0 h02 h03 i h1 h2 (fun h04 h12=>K (.exit 0) ⟨[(1,.one (.i goal)),(6,.one (.o 0)),(7,.one (.o 1))],[.row .i 0 h04,.row .i 0 h12]⟩)
 |_=>none
noncomputable def dl18 (G:Gs) (n m:Nat) (R:Type) (st:St) (K:Kt R):Option R:=match st with
 |⟨[(6,.one (.o 0)),(11,.one (.o 1))],[.row .i 0 h0,.row .i 0 h1]⟩=>l18 G n m h0 h1 (fun h02=>K (.exit 4) ⟨[(11,.one (.o 0))],[.row .i 0 h02]⟩)
 |_=>none
noncomputable def pc (G:Gs) (n:Nat):Pcs:=⟨fun R id st K=>bif Nat.beq id 10 then dl10 G n n R st K else bif Nat.beq id 6 then dl6 G n n R st K else bif Nat.beq id 18 then dl18 G n n R st K else none,fun R id st K=>bif Nat.beq id 9 then dc9 G n R st K else none,fun _ _ _ _=>none⟩
noncomputable def an:Ann:=⟨93,0,[(10,[1,2,6,7,8,9,10]),(6,[1,2,6,7,8]),(18,[6,11])],[(9,[1,2,6,7,8,9])],[4,5],[(8,⟨[([0,1,2,3,4,5,6,7,8],[],[])],[],[],[0,2],[]⟩),(14,⟨[([0,1,2,3,4,5,6,7,8,9,10],[10],[9])],[10],[],[0,3,4],[]⟩)],[]⟩
noncomputable abbrev bd:=bodyOf Try.f33
noncomputable abbrev q10:=nthC [1,1,1,1,0,1,0,0,1,0,0,1,1,0,0] bd
noncomputable abbrev q9:=nthC [1,1,1,1,0,1,0,0,1,0,0,1] bd
noncomputable abbrev q6:=nthC [1,1,1,1,0,1,0,0] bd
noncomputable abbrev q18:=nthC [1,1,1,1,1,1,1,0,0,0] bd
theorem pl10 {G:Gs} (hG:AllE Try.prog (ents G)) (n:Nat):∀m,PieceOK Try.prog an (.loop q10) (dl10 G n m):=lpc hG (pc G n) [1,2,6,7,8,9,10] ⟨[1,2,6,7,8],[4,5],[(0,[1,6,7]),(1,[1,2,6,7,8]),(2,[1,2,6,7,8])]⟩ (apl [] trivial) (fun R st K=>by unfold dl10;split<;>rfl) fun m R st K r h=>by unfold dl10 at h;split at h;exact .trans (by kernel_rfl) h;cases h
theorem pc9 {G:Gs} (hG:AllE Try.prog (ents G)) {n:Nat}:PieceOK Try.prog an q9 (dc9 G n):=cpc hG (pc G n) ⟨[1,2,6,7,8],[4,5],[(0,[1,6,7]),(1,[1,2,6,7,8])]⟩ (apl [(1,10,.loop q10)] ⟨pl10 hG n n,trivial⟩) fun R st K r h=>by unfold dc9 at h;split at h;exact .trans (by kernel_rfl) h;cases h
theorem pl6 {G:Gs} (hG:AllE Try.prog (ents G)) (n:Nat):∀m,PieceOK Try.prog an (.loop q6) (dl6 G n m):=lpc hG (pc G n) [1,2,6,7,8] ⟨[1,6,7],[4,5],[(0,[1,6,7])]⟩ (apl [(0,9,q9)] ⟨pc9 hG,trivial⟩) (fun R st K=>by unfold dl6;split<;>rfl) fun m R st K r h=>by unfold dl6 at h;split at h;exact .trans (by kernel_rfl) h;cases h
theorem pl18 {G:Gs} (hG:AllE Try.prog (ents G)) (n:Nat):∀m,PieceOK Try.prog an (.loop q18) (dl18 G n m):=lpc hG (pc G n) [6,11] ⟨[11],[4,5],[(4,[11])]⟩ (apl [] trivial) (fun R st K=>by unfold dl18;split<;>rfl) fun m R st K r h=>by unfold dl18 at h;split at h;exact .trans (by kernel_rfl) h;cases h
noncomputable def Does (G:Gs) (g:Gr) (goal:Int) (r:List Int×Bool):Prop:=∃n,main (R:=AT×List Ob) G n g goal (fun r0 r1=>some (.tup [.one (.l .i r0),.one (.b r1)],[]))=some (.tup [.one (.l .i r.1),.one (.b r.2)],[])
theorem ok {G:Gs} (hG:AllE Try.prog (ents G)) {g:Gr->Int->Option (List Int×Bool)} (hg:∀g_ goal r,g g_ goal=some r->Does G g_ goal r):EntOK Try.prog (ent g):=fun R xs H K r hc=>by
 simp only[ent]at hc
 split at hc
 ·obtain⟨r,j1,j2⟩:=bind_some hc
  obtain⟨n,j3⟩:=hg _ _ _ j1
  exact⟨_,_,j2,fnP hG an (pc G n) bd [.tmp 4,.tmp 5] Try.func33 (.inl rfl) (apl [(1,6,.loop q6),(1,18,.loop q18)] ⟨pl6 hG n n,⟨pl18 hG n n,trivial⟩⟩) (.trans (by kernel_rfl) j3)⟩
 ·cases hc
end s_ShortestPath
namespace i_ShortestPath_o
structure Gs where
 i_IsGraph:Gr->Option (Bool)
 slices_Insert_intint_o:List Int->Int->List Int->Option (List Int)
noncomputable def ents (G:Gs):List Ent:=[i_IsGraph.ent G.i_IsGraph,slices_Insert_intint_o.ent G.slices_Insert_intint_o]
noncomputable def b5 {R:Type} (G:Gs) (n:Nat) (goal:Int) (t32:Int) (h0:List Tm) (h02:List (List Int)) (h03:Bool) (t33:Int) (h1:List Int) (nx:Int->List Int->Option R) (k0:List Int->Option R):Option R:=
 bif decide (t33<t32)then
  (
  Option.bind (ix h1 t33) fun e=>
  nx (wr (t33+1)) (List.set h1 (Int.toNat t33) (-1))
  )
 else
  k0 h1
noncomputable def l5 {R:Type} (G:Gs) (n m:Nat) (goal:Int) (t32:Int) (h0:List Tm) (h02:List (List Int)) (h03:Bool) (t33:Int) (h1:List Int) (k0:List Int->Option R):Option R:=iter (fun(v:Int×List Int) nx=>b5 G n goal t32 h0 h02 h03 v.1 v.2 (fun y0 y1=>nx (y0,y1)) k0) m (t33,h1)
noncomputable def b15 {R:Type} (G:Gs) (n:Nat) (goal:Int) (i:Int) (t55:List Int) (t56:Int) (h0:List Tm) (h02:List (List Int)) (h03:Bool) (t57:Int) (h1:List Int) (h2:List Int) (nx:Int->List Int->List Int->Option R) (k0:List Int->List Int->Option R):Option R:=
 bif decide (t57<t56)then
  (
  Option.bind (ix t55 t57) fun e=>
  Option.bind (ix h1 e) fun e2=>
  bif decide (e2<0)then
   (
   Option.bind (ix h1 e) fun e3=>
   Option.bind (lim (h2++[e])) fun zs=>
   nx (wr (t57+1)) (List.set h1 (Int.toNat e) i) zs
   )
  else
   nx (wr (t57+1)) h1 h2
  )
 else
  k0 h1 h2
noncomputable def l15 {R:Type} (G:Gs) (n m:Nat) (goal:Int) (i:Int) (t55:List Int) (t56:Int) (h0:List Tm) (h02:List (List Int)) (h03:Bool) (t57:Int) (h1:List Int) (h2:List Int) (k0:List Int->List Int->Option R):Option R:=iter (fun(v:Int×List Int×List Int) nx=>b15 G n goal i t55 t56 h0 h02 h03 v.1 v.2.1 v.2.2 (fun y0 y1 y2=>nx (y0,y1,y2)) k0) m (t57,h1,h2)
noncomputable def b11 {R:Type} (G:Gs) (n:Nat) (goal:Int) (h0:List Tm) (h02:List (List Int)) (h03:Bool) (h1:List Int) (h2:List Int) (nx:List Int->List Int->Option R) (k0:List Int->Option R):Option R:=
 bif decide (0<(List.length h2:Int))then
  (
  Option.bind (ix h2 0) fun e=>
  Option.bind (restL h2 1) fun ys=>
  Option.bind (ix h02 e) fun e2=>
  l15 G n n goal e e2 (List.length e2:Int) h0 h02 h03 0 h1 ys
   (fun h12 h22=>nx h12 h22)
  )
 else
  k0 h1
noncomputable def l11 {R:Type} (G:Gs) (n m:Nat) (goal:Int) (h0:List Tm) (h02:List (List Int)) (h03:Bool) (h1:List Int) (h2:List Int) (k0:List Int->Option R):Option R:=iter (fun(v:List Int×List Int) nx=>b11 G n goal h0 h02 h03 v.1 v.2 (fun y0 y1=>nx (y0,y1)) k0) m (h1,h2)
noncomputable def b24 {R:Type} (G:Gs) (n:Nat) (h0:List Int) (h1:List Int) (nx:List Int->Option R) (k0:List Int->Option R):Option R:=
 Option.bind (ix h1 0) fun e=>
 bif !decide (e=0)then
  (
  Option.bind (ix h1 0) fun e2=>
  Option.bind (ix h0 e2) fun e3=>
  Option.bind (G.slices_Insert_intint_o h1 0 [e3]) fun r=>
  nx r
  )
 else
  k0 h1
noncomputable def l24 {R:Type} (G:Gs) (n m:Nat) (h0:List Int) (h1:List Int) (k0:List Int->Option R):Option R:=iter (fun(v:List Int) nx=>b24 G n h0 v (fun y0=>nx y0) k0) m h1
noncomputable def main {R:Type} (G:Gs) (n:Nat) (g:Gr) (goal:Int) (K:List Int->Bool->Option R):Option R:=
 Option.bind (G.i_IsGraph g) fun r=>
 bif !r then
  (K [] false)
 else
  bif decide (goal<0)then
   (K [] false)
  else
   bif decide ((List.length (Gr.states g):Int)<=goal)then
    (K [] false)
   else
    Option.bind (mk (α:=Int) 0 (List.length (Gr.states g):Int)) fun xs=>
    l5 G n n goal (List.length xs : Int) (Gr.states g) (Gr.edges g) (Gr.whole g) 0 xs
     (fun h12 =>
      Option.bind (ix h12 0) fun e=>
      l11 G n n goal (Gr.states g) (Gr.edges g) (Gr.whole g) (List.set h12 (Int.toNat 0) 0) [0]
       (fun h04 =>
        Option.bind (ix h04 goal) fun e2=>
        bif decide (e2<0)then
         (K [] false)
        else
         l24 G n n h04 [goal]
          (fun h02=>K h02 true)
       )
     )
noncomputable def dl5 (G:Gs) (n m:Nat) (R:Type) (st:St) (K:Kt R):Option R:=match st with
 |⟨[(1,.one (.i goal)),(2,.one (.p 0 0)),(6,.one (.o 1)),(32,.one (.i t32)),(33,.one (.i t33))],[.box [.l (.n 1) h0,.l (.sl .i) h02,.b h03],.row .i 0 h1]⟩=>l5 G n m goal t32 h0 h02 h03 t33 h1 (fun h12=>K (.exit 0) ⟨[(1,.one (.i goal)),(2,.one (.p 0 0)),(6,.one (.o 1))],[.box [.l (.n 1) h0,.l (.sl .i) h02,.b h03],.row .i 0 h12]⟩)
 |_=>none
noncomputable def dl15 (G:Gs) (n m:Nat) (R:Type) (st:St) (K:Kt R):Option R:=match st with
 |⟨[(1,.one (.i goal)),(2,.one (.p 0 0)),(6,.one (.o 1)),(8,.one (.o 2)),(9,.one (.i i)),(55,.one (.l .i t55)),(56,.one (.i t56)),(57,.one (.i t57))],[.box [.l (.n 1) h0,.l (.sl .i) h02,.b h03],.row .i 0 h1,.row .i 0 h2]⟩=>l15 G n m goal i t55 t56 h0 h02 h03 t57 h1 h2 (fun h12 h22=>K (.exit 4) ⟨[(1,.one (.i goal)),(2,.one (.p 0 0)),(6,.one (.o 1)),(8,.one (.o 2))],[.box [.l (.n 1) h0,.l (.sl .i) h02,.b h03],.row .i 0 h12,.row .i 0 h22]⟩)
 |_=>none
noncomputable def dl11 (G:Gs) (n m:Nat) (R:Type) (st:St) (K:Kt R):Option R:=match st with
 |⟨[(1,.one (.i goal)),(2,.one (.p 0 0)),(6,.one (.o 1)),(8,.one (.o 2))],[.box [.l (.n 1) h0,.l (.sl .i) h02,.b h03],.row .i 0 h1,.row .i 0 h2]⟩=>l11 G n m goal h0 h02 h03 h1 h2 (fun h04=>K (.exit 2) ⟨[(1,.one (.i goal)),(6,.one (.o 0))],[.row .i 0 h04]⟩)
 |_=>none
noncomputable def dl24 (G:Gs) (n m:Nat) (R:Type) (st:St) (K:Kt R):Option R:=match st with
 |⟨[(6,.one (.o 0)),(12,.one (.o 1))],[.row .i 0 h0,.row .i 0 h1]⟩=>l24 G n m h0 h1 (fun h02=>K (.exit 6) ⟨[(12,.one (.o 0))],[.row .i 0 h02]⟩)
 |_=>none
noncomputable def pc (G:Gs) (n:Nat):Pcs:=⟨fun R id st K=>bif Nat.beq id 5 then dl5 G n n R st K else bif Nat.beq id 15 then dl15 G n n R st K else bif Nat.beq id 11 then dl11 G n n R st K else bif Nat.beq id 24 then dl24 G n n R st K else none,fun _ _ _ _=>none,fun _ _ _ _=>none⟩
noncomputable def an:Ann:=⟨96,0,[(5,[1,2,6,32,33]),(15,[1,2,6,8,9,55,56,57]),(11,[1,2,6,8]),(24,[6,12])],[],[4,5],[],[50]⟩
noncomputable abbrev bd:=bodyOf Try.f34
noncomputable abbrev q5:=nthC [1,1,1,0,1,0,0] bd
noncomputable abbrev q15:=nthC [1,1,1,1,1,1,0,0,0,1,0,1,1,1,0,0] bd
noncomputable abbrev q11:=nthC [1,1,1,1,1,1,0,0,0] bd
noncomputable abbrev q24:=nthC [1,1,1,1,1,1,1,1,1,0,0,0] bd
theorem pl5 {G:Gs} (hG:AllE Try.prog (ents G)) (n:Nat):∀m,PieceOK Try.prog an (.loop q5) (dl5 G n m):=lpc hG (pc G n) [1,2,6,32,33] ⟨[1,2,6],[4,5],[(0,[1,2,6])]⟩ (apl [] trivial) (fun R st K=>by unfold dl5;split<;>rfl) fun m R st K r h=>by unfold dl5 at h;split at h;exact .trans (by kernel_rfl) h;cases h
theorem pl15 {G:Gs} (hG:AllE Try.prog (ents G)) (n:Nat):∀m,PieceOK Try.prog an (.loop q15) (dl15 G n m):=lpc hG (pc G n) [1,2,6,8,9,55,56,57] ⟨[1,2,6,8],[4,5],[(2,[1,6]),(3,[1,2,6,8]),(4,[1,2,6,8])]⟩ (apl [] trivial) (fun R st K=>by unfold dl15;split<;>rfl) fun m R st K r h=>by unfold dl15 at h;split at h;exact .trans (by kernel_rfl) h;cases h
theorem pl11 {G:Gs} (hG:AllE Try.prog (ents G)) (n:Nat):∀m,PieceOK Try.prog an (.loop q11) (dl11 G n m):=lpc hG (pc G n) [1,2,6,8] ⟨[1,6],[4,5],[(2,[1,6])]⟩ (apl [(1,15,.loop q15)] ⟨pl15 hG n n,trivial⟩) (fun R st K=>by unfold dl11;split<;>rfl) fun m R st K r h=>by unfold dl11 at h;split at h;exact .trans (by kernel_rfl) h;cases h
theorem pl24 {G:Gs} (hG:AllE Try.prog (ents G)) (n:Nat):∀m,PieceOK Try.prog an (.loop q24) (dl24 G n m):=lpc hG (pc G n) [6,12] ⟨[12],[4,5],[(6,[12])]⟩ (apl [] trivial) (fun R st K=>by unfold dl24;split<;>rfl) fun m R st K r h=>by unfold dl24 at h;split at h;exact .trans (by kernel_rfl) h;cases h
noncomputable def Does (G:Gs) (g:Gr) (goal:Int) (r:List Int×Bool):Prop:=∃n,main (R:=AT×List Ob) G n g goal (fun r0 r1=>some (.tup [.one (.o 0),.one (.b r1)],[.row .i 0 r0]))=some (.tup [.one (.o 0),.one (.b r.2)],[.row .i 0 r.1])
theorem ok {G:Gs} (hG:AllE Try.prog (ents G)) {g:Gr->Int->Option (List Int×Bool)} (hg:∀g_ goal r,g g_ goal=some r->Does G g_ goal r):EntOK Try.prog (ent g):=fun R xs H K r hc=>by
 simp only[ent]at hc
 split at hc
 ·obtain⟨r,j1,j2⟩:=bind_some hc
  obtain⟨n,j3⟩:=hg _ _ _ j1
  exact⟨_,_,j2,fnP hG an (pc G n) bd [.tmp 4,.tmp 5] Try.func34 (.inr rfl) (apl [(1,5,.loop q5),(1,11,.loop q11),(1,24,.loop q24)] ⟨pl5 hG n n,⟨pl11 hG n n,⟨pl24 hG n n,trivial⟩⟩⟩) (.trans (by kernel_rfl) j3)⟩
 ·cases hc
end i_ShortestPath_o
end Go.Proofs.Ytagnfckihdlhpaa.Den

namespace Go.Proofs.Ytagnfckihdlhpaa.Den
open Go.RowKit
open Classical
noncomputable def pr (v:Int):List Int->List Int×List Int->List Int×List Int
 |[],s=>s
 |k::l,s=>pr v l (if k∈s.2 then s else (s.1.set k.toNat v,s.2++[k]))
structure InvP (n:Nat) (s:List Int×List Int):Prop where
 len:s.1.length=n
 nd:s.2.Nodup
 rng:∀x∈s.2,0<=x/\x<n
 head:s.2[0]? =some 0
 back:∀(j:Nat) (x:Int),s.2[j]? =some x->∃y,s.1[x.toNat]? =some y/\(0<=y/\y<n)/\(0<j->∃j',j'<j/\s.2[j']? =some y)
theorem nodup_len :∀(n:Nat) (l:List Int),l.Nodup->(∀x∈l,0<=x/\x<n)->l.length<=n
 | 0, l, _, h => by
  cases l with
  |nil=>simp
  |cons a l=>have:=h a (by simp);omega
 | n + 1, l, nd, h => by
  have h1:=nodup_len n (l.filter fun x=>decide (x≠(n:Int))) (nd.filter _) fun x hx=>by
   rw[List.mem_filter]at hx
   have:=h x hx.1
   have h2:=of_decide_eq_true hx.2
   omega
  have h2:l.length<=(l.filter fun x=>decide (x≠(n:Int))).length+1:=by
   clear h h1
   induction l with
   |nil=>simp
   | cons a l ih =>
    rw[List.nodup_cons]at nd
    by_cases e:a=(n:Int)
    ·subst e
     have:(l.filter fun x=>decide (x≠(n:Int)))=l:=List.filter_eq_self.2 fun x hx=>by
      refine decide_eq_true fun e=> ?_
      subst e
      exact nd.1 hx
     rw[List.filter_cons_of_neg (by simp),this,List.length_cons]
     omega
    ·rw[List.filter_cons_of_pos (by simpa using e),List.length_cons,List.length_cons]
     have:=ih nd.2
     omega
  omega
theorem InvP.small {n:Nat} {s:List Int×List Int} (h:InvP n s):s.2.length<=n:=nodup_len n s.2 h.nd h.rng
theorem InvP.step {n:Nat} {s:List Int×List Int} (h:InvP n s) {v k:Int} {jv:Nat} (hv:s.2[jv]? =some v) (hk:0<=k/\k<n) (hn:k∉s.2):InvP n (s.1.set k.toNat v,s.2++[k]) where
 len:=by simpa using h.len
 nd:=by
  rw[List.nodup_append]
  exact⟨h.nd,by simp,fun a ha b hb e=>by simp at hb;subst hb;subst e;exact hn ha⟩
 rng:=fun x hx=>by
  rcases List.mem_append.1 hx with hx|hx
  ·exact h.rng x hx
  ·simp at hx;subst hx;exact hk
 head:=by
  have:=(List.getElem?_eq_some_iff.1 h.head).1
  rw[List.getElem?_append_left this];exact h.head
 back:=fun j x hj=>by
  have hjv:=(List.getElem?_eq_some_iff.1 hv).1
  by_cases hlt:j<s.2.length
  ·rw[List.getElem?_append_left hlt]at hj
   obtain⟨y,y1,y2,y3⟩:=h.back j x hj
   have hx:=h.rng x (List.mem_of_getElem? hj)
   have hne:k.toNat≠x.toNat:=fun e=>hn (by
    have:k=x:=by omega
    subst this
    exact List.mem_of_getElem? hj)
   refine⟨y,by show (s.1.set k.toNat v)[x.toNat]? =some y;rw[List.getElem?_set_ne hne];exact y1,y2,fun hp=> ?_⟩
   obtain⟨j',h1,h2⟩:=y3 hp
   exact⟨j',h1,by show (s.2++[k])[j']? =some y;rw[List.getElem?_append_left (by omega)];exact h2⟩
  ·have hj2:j=s.2.length:=by
    have:=(List.getElem?_eq_some_iff.1 hj).1
    simp at this
    omega
   subst hj2
   simp at hj
   subst hj
   have hvr:=h.rng v (List.mem_of_getElem? hv)
   refine⟨v,?_,hvr,fun _=>⟨jv,hjv,by show (s.2++[k])[jv]? =some v;rw[List.getElem?_append_left hjv];exact hv⟩⟩
   show (s.1.set k.toNat v)[k.toNat]? =some v
   rw[List.getElem?_set_self (by rw[h.len];omega)]
theorem pr_inv {n:Nat} {v:Int} {jv:Nat}:∀{l:List Int} {s:List Int×List Int},InvP n s->s.2[jv]? =some v->(∀k∈l,0<=k/\k<n)->InvP n (pr v l s)/\(∃t,(pr v l s).2=s.2++t)
 |[],s,h,_,_=>⟨h,[],by simp[pr]⟩
 | k :: l, s, h, hv, hk => by
  unfold pr
  by_cases c:k∈s.2
  ·rw[if_pos c]
   exact pr_inv h hv fun k hk'=>hk k (by simp[hk'])
  ·rw[if_neg c]
   have hlt:=(List.getElem?_eq_some_iff.1 hv).1
   obtain⟨q1,t,q2⟩:=pr_inv (l:=l) (h.step hv (hk k (by simp)) c) (by show (s.2++[k])[jv]? =some v;rw[List.getElem?_append_left hlt];exact hv) fun k hk'=>hk k (by simp[hk'])
   exact⟨q1,k::t,by rw[q2];simp⟩
noncomputable def imF (n:Nat) (s:List Int×List Int):List Int:=(List.range n).map fun(k:Nat)=>if (k:Int)∈s.2 then s.1.getD k 0 else -1
theorem imF_get {n:Nat} {s:List Int×List Int} {x:Int} (hx:0<=x/\x<n):(imF n s)[x.toNat]? =some (if x∈s.2 then s.1.getD x.toNat 0 else -1):=by
 unfold imF
 rw[List.getElem?_map,List.getElem?_range (by omega)]
 simp only[Option.map_some,Int.toNat_of_nonneg hx.1]
theorem imF_set {n:Nat} {s:List Int×List Int} (hl:s.1.length=n) {k v:Int} (hk:0<=k/\k<n):(imF n s).set k.toNat v=imF n (s.1.set k.toNat v,s.2++[k]):=by
 unfold imF
 refine List.ext_getElem? fun j=> ?_
 by_cases hj:j<n
 ·rw [List.getElem?_map, List.getElem?_range hj]
  by_cases e:j=k.toNat
  ·subst e
   rw[List.getElem?_set_self (by simpa using hj)]
   simp only[Option.map_some,Int.toNat_of_nonneg hk.1]
   rw[if_pos (by simp)]
   simp[List.getD,hl,hj]
  ·rw[List.getElem?_set_ne (fun h=>e h.symm),List.getElem?_map,List.getElem?_range hj]
   simp only[Option.map_some]
   have e1:((j:Int)∈s.2++[k])↔((j:Int)∈s.2):=by
    simp
    intro h;omega
   have e2:(s.1.set k.toNat v).getD j 0=s.1.getD j 0:=by
    simp[List.getD,List.getElem?_set_ne (fun h=>e h.symm)]
   simp only[e1,e2]
 ·rw[List.getElem?_eq_none (by simp;omega),List.getElem?_eq_none (by simp;omega)]
theorem ix_toNat {xs:List Int} {x y:Int} (hx:0<=x) (h:xs[x.toNat]? =some y):ix xs x=some y:=by
 unfold ix
 rw[decide_eq_true hx,cond_true];exact h
section
variable {R : Type} {n : Nat}
theorem inS_loop (hn:n<=40) (goal:Int) {i:Nat} {v:Int} (h0:List Tm) (h02:List (List Int)) (h03:Bool) (list:List Int) (hl:list.length<=40) (hr:∀k∈list,0<=k/\k<n) (k0:List Int->List Int->Option R):∀(m j:Nat) (s:List Int×List Int),list.length-j<m->j<=list.length->InvP n s->s.2[i]? =some v->
  s_ShortestPath.l10 ⟨gIsG,gIn,gHasInt⟩ 100 m goal i list h0 h02 h03 j s.1 s.2 k0=k0 (pr v (list.drop j) s).1 (pr v (list.drop j) s).2
 |0,j,s,hm,_,_,_=>absurd hm (Nat.not_lt_zero _)
 | m + 1, j, s, hm, hj, hI, hv => by
  show s_ShortestPath.b10 ⟨gIsG,gIn,gHasInt⟩ 100 goal i list h0 h02 h03 j s.1 s.2 (fun y0 y1 y2=>s_ShortestPath.l10 ⟨gIsG,gIn,gHasInt⟩ 100 m goal i list h0 h02 h03 y0 y1 y2 k0) k0=_
  unfold s_ShortestPath.b10
  rcases Nat.eq_or_lt_of_le hj with rfl|hlt
  ·rw[nlt_nat (by omega),cond_false,List.drop_length];rfl
  ·obtain⟨x,hx,hmem⟩:=get_lt hlt
   have hxr:=hr x hmem
   have hs:=hI.small
   have e:list.drop j=x::list.drop (j+1):=by
    obtain⟨q,rfl⟩:=List.getElem?_eq_some_iff.1 hx
    exact List.drop_eq_getElem_cons q
   dsimp only
   rw[lt_nat hlt,cond_true,ix_get hx,Option.bind_some,show gHasInt s.2 x=some (decide (x∈s.2))from if_pos (by omega),Option.bind_some,wr_one (by omega),e]
   unfold pr
   by_cases c:x∈s.2
   ·rw[decide_eq_true c,Bool.not_true,cond_false,if_pos c]
    exact inS_loop hn goal h0 h02 h03 list hl hr k0 m (j+1) s (by omega) hlt hI hv
   ·have hiv:=(List.getElem?_eq_some_iff.1 hv).1
    rw[decide_eq_false c,Bool.not_false,cond_true,if_neg c,Option.bind_some,lim_eq (by simp;omega),Option.bind_some,Option.bind_some,ix_get (k:=i) (by rw[List.getElem?_append_left hiv];exact hv),Option.bind_some]
    obtain⟨y,hy⟩:∃y,s.1[x.toNat]? =some y:=⟨_,List.getElem?_eq_getElem (by rw[hI.len];omega)⟩
    rw[ix_toNat hxr.1 hy,Option.bind_some]
    exact inS_loop hn goal h0 h02 h03 list hl hr k0 m (j+1) (s.1.set x.toNat v,s.2++[x]) (by omega) hlt (hI.step hv hxr c) (by show (s.2++[x])[i]? =some v;rw[List.getElem?_append_left hiv];exact hv)
theorem inI_loop (hn:n<=40) (goal:Int) {i:Nat} {v:Int} (h0:List Tm) (h02:List (List Int)) (h03:Bool) (list:List Int) (hl:list.length<=40) (hr:∀k∈list,0<=k/\k<n) (G:i_ShortestPath_o.Gs) (k0:List Int->List Int->Option R):∀(m j:Nat) (s:List Int×List Int),list.length-j<m->j<=list.length->InvP n s->s.2[i]? =some v->
  i_ShortestPath_o.l15 G 100 m goal v list (list.length:Int) h0 h02 h03 j (imF n s) (s.2.drop (i+1)) k0=k0 (imF n (pr v (list.drop j) s)) ((pr v (list.drop j) s).2.drop (i+1))
 |0,j,s,hm,_,_,_=>absurd hm (Nat.not_lt_zero _)
 | m + 1, j, s, hm, hj, hI, hv => by
  show i_ShortestPath_o.b15 G 100 goal v list (list.length:Int) h0 h02 h03 j (imF n s) (s.2.drop (i+1)) (fun y0 y1 y2=>i_ShortestPath_o.l15 G 100 m goal v list (list.length:Int) h0 h02 h03 y0 y1 y2 k0) k0=_
  unfold i_ShortestPath_o.b15
  rcases Nat.eq_or_lt_of_le hj with rfl|hlt
  ·rw[nlt_nat (by omega),cond_false,List.drop_length];rfl
  ·obtain⟨x,hx,hmem⟩:=get_lt hlt
   have hxr:=hr x hmem
   have hs:=hI.small
   have e:list.drop j=x::list.drop (j+1):=by
    obtain⟨q,rfl⟩:=List.getElem?_eq_some_iff.1 hx
    exact List.drop_eq_getElem_cons q
   rw[lt_nat hlt,cond_true,ix_get hx,Option.bind_some,ix_toNat hxr.1 (imF_get hxr),Option.bind_some,wr_one (by omega),e]
   unfold pr
   by_cases c:x∈s.2
   ·obtain⟨jx,hjx,ejx⟩:=List.getElem_of_mem c
    obtain⟨y,y1,y2,_⟩:=hI.back jx x (by rw[List.getElem?_eq_getElem hjx,ejx])
    have ey:s.1.getD x.toNat 0=y:=by simp[List.getD,y1]
    rw[if_pos c,ey,decide_eq_false (by omega),cond_false,if_pos c]
    exact inI_loop hn goal h0 h02 h03 list hl hr G k0 m (j+1) s (by omega) hlt hI hv
   ·have hiv:=(List.getElem?_eq_some_iff.1 hv).1
    rw[if_neg c,decide_eq_true (by omega),cond_true,Option.bind_some,lim_eq (by simp;omega),Option.bind_some,if_neg c,imF_set hI.len hxr]
    have:=inI_loop hn goal h0 h02 h03 list hl hr G k0 m (j+1) (s.1.set x.toNat v,s.2++[x]) (by omega) hlt (hI.step hv hxr c) (by show (s.2++[x])[i]? =some v;rw[List.getElem?_append_left hiv];exact hv)
    rw[show List.drop (i+1) ((s.1.set x.toNat v,s.2++[x]):List Int×List Int).2=List.drop (i+1) s.2++[x]from List.drop_append_of_le_length (by omega)]at this
    exact this
noncomputable def bfs (g:Gr):Nat->Nat->List Int×List Int->List Int×List Int
 |0,_,s=>s
 | m + 1, i, s => match s.2[i]? with
  |none=>s
  |some x=>bfs g m (i+1) (pr x ((g.edges[x.toNat]?).getD []) s)
theorem row_at {g:Gr} (hg:graphOk g) {x:Int} (hx:0<=x/\x<g.states.length):∃row,g.edges[x.toNat]? =some row/\row.length<=40/\∀k∈row,0<=k/\k<g.states.length:=by
 obtain⟨g1,g2,g3,g4⟩:=hg
 obtain⟨row,hr,hm⟩:=get_lt (xs:=g.edges) (i:=x.toNat) (by omega)
 have ho:=g4 row hm
 refine⟨row,hr,by have:=rowOk_len ho;omega,fun k hk=> ?_⟩
 obtain⟨j,hj,e⟩:=List.getElem_of_mem hk
 have:=ho j k (by rw[List.getElem?_eq_getElem hj,e])
 exact⟨this.1,this.2.1⟩
theorem bfs_inv {g:Gr} (hg:graphOk g):∀(m i:Nat) (s:List Int×List Int),InvP g.states.length s->InvP g.states.length (bfs g m i s)
 |0,_,_,h=>h
 | m + 1, i, s, h => by
  unfold bfs
  cases hx:s.2[i]? with
  |none=>exact h
  | some x =>
   obtain⟨row,h1,_,h3⟩:=row_at hg (h.rng x (List.mem_of_getElem? hx))
   simp only[h1,Option.getD_some]
   exact bfs_inv hg m (i+1) _ (pr_inv h hx h3).1
theorem outS_loop {g:Gr} (hg:graphOk g) (goal:Int) (k0:List Int->List Int->Option R):∀(m i:Nat) (s:List Int×List Int),g.states.length-i<m->InvP g.states.length s->i<=s.2.length->
  s_ShortestPath.l6 ⟨gIsG,gIn,gHasInt⟩ 100 m goal g.states g.edges g.whole (i:Int) s.1 s.2 k0=k0 (bfs g m i s).1 (bfs g m i s).2
 |0,i,s,hm,_,_=>absurd hm (Nat.not_lt_zero _)
 | m + 1, i, s, hm, hI, hi => by
  show s_ShortestPath.b6 ⟨gIsG,gIn,gHasInt⟩ 100 goal g.states g.edges g.whole i s.1 s.2 (fun y0 y1 y2=>s_ShortestPath.l6 ⟨gIsG,gIn,gHasInt⟩ 100 m goal g.states g.edges g.whole y0 y1 y2 k0) k0=_
  have hs:=hI.small
  have hg40:=hg.2.1
  unfold s_ShortestPath.b6 bfs
  rcases Nat.eq_or_lt_of_le hi with he|hlt
  ·rw[nlt_nat (by omega),cond_false,he,List.getElem?_eq_none (Nat.le_refl _)]
  ·obtain⟨x,hx,hmem⟩:=get_lt hlt
   have hxr:=hI.rng x hmem
   obtain⟨row,h1,h2,h3⟩:=row_at hg hxr
   rw[lt_nat hlt,cond_true,ix_get hx,Option.bind_some,show ix g.edges x=some row by unfold ix;rw[decide_eq_true hxr.1,cond_true];exact h1,Option.bind_some,hx]
   simp only[h1,Option.getD_some]
   unfold s_ShortestPath.c9
   obtain⟨q1,t,q2⟩:=pr_inv hI hx h3
   refine(inS_loop (n:=g.states.length) hg40 goal (i:=i) (v:=x) g.states g.edges g.whole row h2 h3 _ 100 0 s (by omega) (Nat.zero_le _) hI hx).trans ?_
   rw[List.drop_zero,wr_one (by omega)]
   exact outS_loop hg goal k0 m (i+1) _ (by omega) q1 (by rw[q2];simp;omega)
theorem outI_loop {g:Gr} (hg:graphOk g) (goal:Int) (G:i_ShortestPath_o.Gs) (k0:List Int->Option R):∀(m i:Nat) (s:List Int×List Int),g.states.length-i<m->InvP g.states.length s->i<=s.2.length->
  i_ShortestPath_o.l11 G 100 m goal g.states g.edges g.whole (imF g.states.length s) (s.2.drop i) k0=k0 (imF g.states.length (bfs g m i s))
 |0,i,s,hm,_,_=>absurd hm (Nat.not_lt_zero _)
 | m + 1, i, s, hm, hI, hi => by
  show i_ShortestPath_o.b11 G 100 goal g.states g.edges g.whole (imF g.states.length s) (s.2.drop i) (fun y0 y1=>i_ShortestPath_o.l11 G 100 m goal g.states g.edges g.whole y0 y1 k0) k0=_
  have hs:=hI.small
  have hg40:=hg.2.1
  unfold i_ShortestPath_o.b11 bfs
  rcases Nat.eq_or_lt_of_le hi with he|hlt
  ·rw[decide_eq_false (by rw[List.length_drop];omega),cond_false,he,List.getElem?_eq_none (Nat.le_refl _)]
  ·obtain⟨x,hx,hmem⟩:=get_lt hlt
   have hxr:=hI.rng x hmem
   obtain⟨row,h1,h2,h3⟩:=row_at hg hxr
   have e:s.2.drop i=x::s.2.drop (i+1):=by
    obtain⟨q,rfl⟩:=List.getElem?_eq_some_iff.1 hx
    exact List.drop_eq_getElem_cons q
   rw[decide_eq_true (by rw[List.length_drop];omega),cond_true,e,show ix (x::s.2.drop (i+1)) 0=some x from rfl,Option.bind_some]
   rw[show restL (x::s.2.drop (i+1)) 1=some (s.2.drop (i+1)) by unfold restL;rw[decide_eq_true (by omega),Bool.true_and,decide_eq_true (by simp;omega),cond_true];rfl,Option.bind_some]
   rw[show ix g.edges x=some row by unfold ix;rw[decide_eq_true hxr.1,cond_true];exact h1,Option.bind_some,hx]
   simp only[h1,Option.getD_some]
   obtain⟨q1,t,q2⟩:=pr_inv hI hx h3
   refine(inI_loop (n:=g.states.length) hg40 goal (i:=i) (v:=x) g.states g.edges g.whole row h2 h3 G _ 100 0 s (by omega) (Nat.zero_le _) hI hx).trans ?_
   rw[List.drop_zero]
   exact outI_loop hg goal G k0 m (i+1) _ (by omega) q1 (by rw[q2];simp;omega)
noncomputable def wayB (f:List Int):Nat->List Int->List Int
 |0,p=>p
 | m + 1, p => match p with
  |[]=>p
  |x::r=>if x=0 then x::r else wayB f m (f.getD x.toNat 0::x::r)
theorem backS_loop {n:Nat} (hn:n<=40) {s:List Int×List Int} (hI:InvP n s) (k0:List Int->Option R):∀(m j:Nat) (x:Int) (r:List Int),s.2[j]? =some x->j<m->r.length+j<=100->
  s_ShortestPath.l18 ⟨gIsG,gIn,gHasInt⟩ 100 m s.1 (x::r) k0=k0 (wayB s.1 m (x::r))
 |0,j,x,r,_,hm,_=>absurd hm (Nat.not_lt_zero _)
 | m + 1, j, x, r, hj, hm, hr => by
  show s_ShortestPath.b18 ⟨gIsG,gIn,gHasInt⟩ 100 s.1 (x::r) (fun y0=>s_ShortestPath.l18 ⟨gIsG,gIn,gHasInt⟩ 100 m s.1 y0 k0) k0=_
  have hxr:=hI.rng x (List.mem_of_getElem? hj)
  unfold s_ShortestPath.b18 wayB
  rw[show ix (x::r) 0=some x from rfl,Option.bind_some]
  by_cases c:x=0
  ·rw[decide_eq_true c,Bool.not_true,cond_false]
   simp only[if_pos c]
  ·obtain⟨y,y1,y2,y3⟩:=hI.back j x hj
   have hj0:0<j:=by
    rcases Nat.eq_zero_or_pos j with e|e
    ·subst e;rw[hI.head]at hj;cases hj;exact absurd rfl c
    ·exact e
   obtain⟨j',h1,h2⟩:=y3 hj0
   rw[decide_eq_false c,Bool.not_false,cond_true,Option.bind_some,ix_toNat hxr.1 y1,Option.bind_some,lim_eq (by simp;omega),Option.bind_some]
   simp only[if_neg c]
   rw[show s.1.getD x.toNat 0=y by simp[List.getD,y1]]
   exact backS_loop hn hI k0 m j' y (x::r) h2 (by omega) (by simp;omega)
noncomputable def gIns:List Int->Int->List Int->Option (List Int):=fun h a v=>if a=0/\h≠[]/\h.length<=1000/\v.length=1 then some (v++h)else none
theorem backI_loop {n:Nat} (hn:n<=40) {s:List Int×List Int} (hI:InvP n s) (k0:List Int->Option R):∀(m j:Nat) (x:Int) (r:List Int),s.2[j]? =some x->j<m->r.length+j<=100->
  i_ShortestPath_o.l24 ⟨gIsG,gIns⟩ 100 m (imF n s) (x::r) k0=k0 (wayB s.1 m (x::r))
 |0,j,x,r,_,hm,_=>absurd hm (Nat.not_lt_zero _)
 | m + 1, j, x, r, hj, hm, hr => by
  show i_ShortestPath_o.b24 ⟨gIsG,gIns⟩ 100 (imF n s) (x::r) (fun y0=>i_ShortestPath_o.l24 ⟨gIsG,gIns⟩ 100 m (imF n s) y0 k0) k0=_
  have hxm:=List.mem_of_getElem? hj
  have hxr:=hI.rng x hxm
  unfold i_ShortestPath_o.b24 wayB
  rw[show ix (x::r) 0=some x from rfl,Option.bind_some]
  by_cases c:x=0
  ·rw[decide_eq_true c,Bool.not_true,cond_false]
   simp only[if_pos c]
  ·obtain⟨y,y1,y2,y3⟩:=hI.back j x hj
   have hj0:0<j:=by
    rcases Nat.eq_zero_or_pos j with e|e
    ·subst e;rw[hI.head]at hj;cases hj;exact absurd rfl c
    ·exact e
   obtain⟨j',h1,h2⟩:=y3 hj0
   have ey:s.1.getD x.toNat 0=y:=by simp[List.getD,y1]
   rw[decide_eq_false c,Bool.not_false,cond_true,Option.bind_some,ix_toNat hxr.1 (imF_get hxr),Option.bind_some,if_pos hxm,ey]
   dsimp only
   rw[show gIns (x::r) 0 [y]=some ([y]++(x::r))from if_pos ⟨rfl,by simp,by simp;omega,rfl⟩,Option.bind_some]
   simp only[if_neg c,ey,List.cons_append,List.nil_append]
   exact backI_loop hn hI k0 m j' y (x::r) h2 (by omega) (by simp;omega)
noncomputable def shF (g:Gr) (goal:Int):List Int×Bool:=
 if graphOk g/\0<=goal/\goal<g.states.length/\goal∈(bfs g 100 0 (List.replicate g.states.length 0,[0])).2 then (wayB (bfs g 100 0 (List.replicate g.states.length 0,[0])).1 100 [goal],true)else ([],false)
noncomputable def gSh:Gr->Int->Option (List Int×Bool):=fun g goal=>if smallG g then some (shF g goal)else none
theorem first_inv {g:Gr} (hg:graphOk g):InvP g.states.length (List.replicate g.states.length 0,[0]) where
 len:=by simp
 nd:=by simp
 rng:=fun x hx=>by simp at hx;subst hx;have:=hg.1;omega
 head:=rfl
 back:=fun j x hj=>by
  have h0:j=0:=by
   have:=(List.getElem?_eq_some_iff.1 hj).1
   simp at this;exact this
  subst h0
  simp at hj
  subst hj
  have:=hg.1
  exact⟨0,by show (List.replicate g.states.length (0:Int))[0]? =some 0;rw[List.getElem?_replicate,if_pos (by omega)],by omega,fun h=>by omega⟩
theorem shS_main {g:Gr} (h:smallG g) (goal:Int) (K:List Int->Bool->Option R):s_ShortestPath.main ⟨gIsG,gIn,gHasInt⟩ 100 g goal K=K (shF g goal).1 (shF g goal).2:=by
 unfold s_ShortestPath.main shF
 dsimp only
 rw[show gIsG g=some _ from if_pos h,Option.bind_some]
 by_cases hg:graphOk g
 ·have h40:=hg.2.1
  have h1:=hg.1
  rw[decide_eq_true hg,Bool.not_true,cond_false,wr_in (by omega),Option.bind_some]
  by_cases c1:0<=goal/\goal<g.states.length
  ·have hf:=first_inv hg
   have hI:=bfs_inv hg 100 0 _ hf
   rw[decide_eq_true c1.1,decide_eq_true (show goal<=(g.states.length:Int)-1 by omega),Bool.and_self,Bool.not_true,cond_false]
   rw[show mk (α:=Int) 0 (g.states.length:Int)=some (List.replicate g.states.length 0) by unfold mk;rw[decide_eq_true (by omega),decide_eq_true (by omega),Bool.and_self,cond_true,Int.toNat_natCast],Option.bind_some]
   refine(outS_loop hg goal _ 100 0 (List.replicate g.states.length 0,[0]) (by omega) hf (by simp)).trans ?_
   have hs:=hI.small
   rw[show gHasInt (bfs g 100 0 (List.replicate g.states.length 0,[0])).2 goal=some _ from if_pos (by omega),Option.bind_some]
   by_cases c2:goal∈(bfs g 100 0 (List.replicate g.states.length 0,[0])).2
   ·rw[decide_eq_true c2,Bool.not_true,cond_false,if_pos ⟨hg,c1.1,c1.2,c2⟩]
    obtain⟨j,hj,e⟩:=List.getElem_of_mem c2
    exact backS_loop h40 hI _ 100 j goal [] (by rw[List.getElem?_eq_getElem hj,e]) (by omega) (by simp;omega)
   ·rw[decide_eq_false c2,Bool.not_false,cond_true,if_neg fun q=>c2 q.2.2.2]
  ·have e:(decide (0<=goal)&&decide (goal<=(g.states.length:Int)-1))=false:=by
    rw[Bool.and_eq_false_iff,decide_eq_false_iff_not,decide_eq_false_iff_not]
    omega
   rw[e,Bool.not_false,cond_true,if_neg fun q=>c1 ⟨q.2.1,q.2.2.1⟩]
 ·rw[decide_eq_false hg,Bool.not_false,cond_true,if_neg fun q=>hg q.1]
theorem fill_set (i k:Nat):(List.replicate i (-1:Int)++0::List.replicate k 0).set i (-1)=List.replicate (i+1) (-1)++List.replicate k 0:=by
 rw[List.set_append_right _ _ (by simp)]
 simp[List.replicate_succ']
theorem fill_loop {g:Gr} (hg:graphOk g) (goal:Int) (G:i_ShortestPath_o.Gs) (k0:List Int->Option R):∀(m i:Nat),g.states.length-i<m->i<=g.states.length->
  i_ShortestPath_o.l5 G 100 m goal (g.states.length:Int) g.states g.edges g.whole (i:Int) (List.replicate i (-1)++List.replicate (g.states.length-i) 0) k0=k0 (List.replicate g.states.length (-1))
 |0,i,hm,_=>absurd hm (Nat.not_lt_zero _)
 | m + 1, i, hm, hi => by
  have h40:=hg.2.1
  show i_ShortestPath_o.b5 G 100 goal (g.states.length:Int) g.states g.edges g.whole i (List.replicate i (-1)++List.replicate (g.states.length-i) 0) (fun y0 y1=>i_ShortestPath_o.l5 G 100 m goal (g.states.length:Int) g.states g.edges g.whole y0 y1 k0) k0=_
  unfold i_ShortestPath_o.b5
  rcases Nat.eq_or_lt_of_le hi with he|hlt
  ·rw[nlt_nat (by omega),cond_false,he,Nat.sub_self];simp
  ·have e:List.replicate (g.states.length-i) (0:Int)=0::List.replicate (g.states.length-(i+1)) 0:=by
    rw[show g.states.length-i=(g.states.length-(i+1))+1 by omega,List.replicate_succ]
   rw[lt_nat hlt,cond_true,e,ix_get (k:=i) (x:=0) (by rw[List.getElem?_append_right (by simp)];simp),Option.bind_some,wr_one (by omega),Int.toNat_natCast]
   rw[fill_set]
   exact fill_loop hg goal G k0 m (i+1) (by omega) hlt
theorem shI_main {g:Gr} (h:smallG g) (goal:Int) (K:List Int->Bool->Option R):i_ShortestPath_o.main ⟨gIsG,gIns⟩ 100 g goal K=K (shF g goal).1 (shF g goal).2:=by
 unfold i_ShortestPath_o.main shF
 dsimp only
 rw[show gIsG g=some _ from if_pos h,Option.bind_some]
 by_cases hg:graphOk g
 ·have h40:=hg.2.1
  have h1:=hg.1
  rw[decide_eq_true hg,Bool.not_true,cond_false]
  by_cases c1:0<=goal
  ·rw [decide_eq_false (by omega), cond_false]
   by_cases c2:goal<g.states.length
   ·have hf:=first_inv hg
    have hI:=bfs_inv hg 100 0 _ hf
    rw[decide_eq_false (by omega),cond_false]
    rw[show mk (α:=Int) 0 (g.states.length:Int)=some (List.replicate g.states.length 0) by unfold mk;rw[decide_eq_true (by omega),decide_eq_true (by omega),Bool.and_self,cond_true,Int.toNat_natCast],Option.bind_some]
    have hfill:=fill_loop (R:=R) hg goal ⟨gIsG,gIns⟩
    rw[List.length_replicate]
    refine(hfill _ 100 0 (by omega) (Nat.zero_le _)).trans ?_
    obtain⟨z,hz⟩:∃z,(List.replicate g.states.length (-1:Int))[(0:Int).toNat]? =some z:=⟨_,List.getElem?_eq_getElem (by simp;omega)⟩
    rw[ix_toNat (by omega) hz,Option.bind_some]
    have e0:(List.replicate g.states.length (-1:Int)).set (Int.toNat 0) 0=imF g.states.length (List.replicate g.states.length 0,[0]):=by
     refine List.ext_getElem? fun j=> ?_
     unfold imF
     by_cases hj:j<g.states.length
     ·rw[List.getElem?_map,List.getElem?_range hj]
      cases j with
      |zero=>simp[hj]
      |succ j=>simp[hj]<;>omega
     ·rw[List.getElem?_eq_none (by simp;omega),List.getElem?_eq_none (by simp;omega)]
    rw[e0]
    refine(outI_loop hg goal ⟨gIsG,gIns⟩ _ 100 0 (List.replicate g.states.length 0,[0]) (by omega) hf (by simp)).trans ?_
    have hs:=hI.small
    rw[ix_toNat c1 (imF_get ⟨c1,c2⟩),Option.bind_some]
    by_cases c3:goal∈(bfs g 100 0 (List.replicate g.states.length 0,[0])).2
    ·obtain⟨j,hj,e⟩:=List.getElem_of_mem c3
     have hj':(bfs g 100 0 (List.replicate g.states.length 0,[0])).2[j]? =some goal:=by rw[List.getElem?_eq_getElem hj,e]
     obtain⟨y,y1,y2,_⟩:=hI.back j goal hj'
     rw[if_pos c3,show (bfs g 100 0 (List.replicate g.states.length 0,[0])).1.getD goal.toNat 0=y by simp[List.getD,y1],decide_eq_false (by omega),cond_false,if_pos ⟨hg,c1,c2,c3⟩]
     exact backI_loop h40 hI _ 100 j goal [] hj' (by omega) (by simp;omega)
    ·rw[if_neg c3,decide_eq_true (by omega),cond_true,if_neg fun q=>c3 q.2.2.2]
   ·rw[decide_eq_true (by omega),cond_true,if_neg fun q=>c2 q.2.2.1]
  ·rw[decide_eq_true (by omega),cond_true,if_neg fun q=>c1 q.2.1]
 ·rw[decide_eq_false hg,Bool.not_false,cond_true,if_neg fun q=>hg q.1]
end
theorem shS_ok :EntOK Try.prog (s_ShortestPath.ent gSh):=s_ShortestPath.ok (G:=⟨gIsG,gIn,gHasInt⟩) ⟨sIsGraph_ok,l1In_ok,hasInt_ok,trivial⟩ fun g goal r h=>by
 unfold gSh at h
 split at h
 ·rename_i hp
  cases h
  exact⟨100,shS_main hp goal _⟩
 ·cases h
theorem shI_ok (hins:EntOK Try.prog (slices_Insert_intint_o.ent gIns)):EntOK Try.prog (i_ShortestPath_o.ent gSh):=i_ShortestPath_o.ok (G:=⟨gIsG,gIns⟩) ⟨iIsGraph_ok,hins,trivial⟩ fun g goal r h=>by
 unfold gSh at h
 split at h
 ·rename_i hp
  cases h
  exact⟨100,shI_main hp goal _⟩
 ·cases h
end Go.Proofs.Ytagnfckihdlhpaa.Den

import Derived.Test.YtagnfckihdlhpaaZRowSP15
namespace Go.Proofs.Ytagnfckihdlhpaa.Den
open Go.RowKit
set_option maxRecDepth 100000
set_option linter.unusedVariables false
namespace i_IsGraph
structure Gs where
 none_:Unit
noncomputable def ents (_:Gs):List Ent:=[]
noncomputable def b8 {R:Type} (G:Gs) (n:Nat) (n1:Int) (l:List Int) (t25:List (List Int)) (t26:Int) (t27:Int) (t31:List Int) (t32:Int) (t33:Int) (nx:Int->Option R) (k0:Bool->Option R) (k1:Option R):Option R:=
 bif decide (t33 < t32) then
  (
  Option.bind (ix t31 t33) fun e=>
  bif decide (e<0)then
   (k0 false)
  else
   bif decide (n1<=e)then
    (k0 false)
   else
    bif decide (0<t33)then
     (
     Option.bind (ix l (wr (t33-1))) fun e2=>
     bif decide (e<=e2)then
      (k0 false)
     else
      nx (wr (t33+1))
     )
    else
     nx (wr (t33+1))
  )
 else
  k1
noncomputable def l8 {R:Type} (G:Gs) (n m:Nat) (n1:Int) (l:List Int) (t25:List (List Int)) (t26:Int) (t27:Int) (t31:List Int) (t32:Int) (t33:Int) (k0:Bool->Option R) (k1:Option R):Option R:=iter (fun(v:Int) nx=>b8 G n n1 l t25 t26 t27 t31 t32 v (fun y0=>nx y0) k0 k1) m t33
noncomputable def b5 {R:Type} (G:Gs) (n:Nat) (n1:Int) (t25:List (List Int)) (t26:Int) (t27:Int) (nx:Int->Option R) (k0:Bool->Option R) (k1:Option R):Option R:=
 bif decide (t27<t26)then
  (
  Option.bind (ix t25 t27) fun e=>
  l8 G n n n1 e t25 t26 t27 e (List.length e:Int) 0
   (fun t2=>k0 t2)
   (nx (wr (t27+1)))
  )
 else
  k1
noncomputable def l5 {R:Type} (G:Gs) (n m:Nat) (n1:Int) (t25:List (List Int)) (t26:Int) (t27:Int) (k0:Bool->Option R) (k1:Option R):Option R:=iter (fun(v:Int) nx=>b5 G n n1 t25 t26 v (fun y0=>nx y0) k0 k1) m t27
noncomputable def main {R:Type} (G:Gs) (n:Nat) (g:Gr) (K:Bool->Option R):Option R:=
 bif decide ((List.length (Gr.states g):Int)<1)then
  (K false)
 else
  bif decide (40<(List.length (Gr.states g):Int))then
   (K false)
  else
   bif !decide ((List.length (Gr.edges g):Int)=(List.length (Gr.states g):Int))then
    (K false)
   else
    l5 G n n (List.length (Gr.states g):Int) (Gr.edges g) (List.length (Gr.edges g):Int) 0
     (fun t2=>K t2)
     (K true)
noncomputable def dl8 (G:Gs) (n m:Nat) (R:Type) (st:St) (K:Kt R):Option R:=match st with
 |⟨[(3,.one (.i n1)),(5,.one (.l .i l)),(25,.one (.l (.sl .i) t25)),(26,.one (.i t26)),(27,.one (.i t27)),(31,.one (.l .i t31)),(32,.one (.i t32)),(33,.one (.i t33))],[]⟩=>l8 G n m n1 l t25 t26 t27 t31 t32 t33 (fun t2=>K .ret ⟨[(2,.one (.b t2))],[]⟩) (K (.exit 2) ⟨[(3,.one (.i n1)),(25,.one (.l (.sl .i) t25)),(26,.one (.i t26)),(27,.one (.i t27))],[]⟩)
 |_=>none
noncomputable def dl5 (G:Gs) (n m:Nat) (R:Type) (st:St) (K:Kt R):Option R:=match st with
 |⟨[(3,.one (.i n1)),(25,.one (.l (.sl .i) t25)),(26,.one (.i t26)),(27,.one (.i t27))],[]⟩=>l5 G n m n1 t25 t26 t27 (fun t2=>K .ret ⟨[(2,.one (.b t2))],[]⟩) (K (.exit 0) ⟨[],[]⟩)
 |_=>none
noncomputable def pc (G:Gs) (n:Nat):Pcs:=⟨fun R id st K=>bif Nat.beq id 8 then dl8 G n n R st K else bif Nat.beq id 5 then dl5 G n n R st K else none,fun _ _ _ _=>none,fun _ _ _ _=>none⟩
noncomputable def an:Ann:=⟨60,0,[(8,[3,5,25,26,27,31,32,33]),(5,[3,25,26,27])],[],[2],[],[]⟩
noncomputable abbrev bd:=bodyOf Try.f23
noncomputable abbrev q8:=nthC [1,1,1,0,1,0,0,1,1,0,0,1,1,0,0] bd
noncomputable abbrev q5:=nthC [1,1,1,0,1,0,0] bd
theorem pl8 {G:Gs} (hG:AllE Try.prog (ents G)) (n:Nat):∀m,PieceOK Try.prog an (.loop q8) (dl8 G n m):=lpc hG (pc G n) [3,5,25,26,27,31,32,33] ⟨[3,25,26,27],[2],[(0,[]),(1,[3,25,26,27]),(2,[3,25,26,27])]⟩ (apl [] trivial) (fun R st K=>by unfold dl8;split<;>rfl) fun m R st K r h=>by unfold dl8 at h;split at h;exact .trans (by kernel_rfl) h;cases h
theorem pl5 {G:Gs} (hG:AllE Try.prog (ents G)) (n:Nat):∀m,PieceOK Try.prog an (.loop q5) (dl5 G n m):=lpc hG (pc G n) [3,25,26,27] ⟨[],[2],[(0,[])]⟩ (apl [(1,8,.loop q8)] ⟨pl8 hG n n,trivial⟩) (fun R st K=>by unfold dl5;split<;>rfl) fun m R st K r h=>by unfold dl5 at h;split at h;exact .trans (by kernel_rfl) h;cases h
noncomputable def Does (G:Gs) (g:Gr) (r:Bool):Prop:=∃n,main (R:=AT×List Ob) G n g (fun r0=>some (.one (.b r0),[]))=some (.one (.b r),[])
theorem ok {G:Gs} (hG:AllE Try.prog (ents G)) {g:Gr->Option (Bool)} (hg:∀g_ r,g g_=some r->Does G g_ r):EntOK Try.prog (ent g):=fun R xs H K r hc=>by
 simp only[ent]at hc
 split at hc
 ·obtain⟨r,j1,j2⟩:=bind_some hc
  obtain⟨n,j3⟩:=hg _ _ j1
  exact⟨_,_,j2,fnP hG an (pc G n) bd [.tmp 2] Try.func23 (.inl rfl) (apl [(1,5,.loop q5)] ⟨pl5 hG n n,trivial⟩) (.trans (by kernel_rfl) j3)⟩
 ·cases hc
end i_IsGraph
end Go.Proofs.Ytagnfckihdlhpaa.Den

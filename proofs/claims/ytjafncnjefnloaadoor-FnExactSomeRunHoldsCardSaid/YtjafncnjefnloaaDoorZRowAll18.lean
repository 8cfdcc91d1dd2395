/-
  Texts that the claim rests on, merged: PL, Fm4.
-/
import Derived.Test.YtjafncnjefnloaaDoorZRowAll11
import Derived.Test.YtjafncnjefnloaaDoorZRowAll17

namespace Go.Proofs.YtjafncnjefnloaaDoor.Den
open Go.RowKit
set_option maxRecDepth 100000
set_option linter.unusedVariables false
namespace l_eqIntS
structure Gs where
 none_:Unit
noncomputable def ents (_:Gs):List Ent:=[]
noncomputable def b4 {R:Type} (G:Gs) (n:Nat) (a:List Int) (b:List Int) (i:Int) (nx:List Int->List Int->Int->Option R) (k0:Bool->Option R) (k1:Option R):Option R:=
 bif decide (i<(List.length a:Int))then
  (
  Option.bind (ix a i) fun e2=>
  Option.bind (ix b i) fun e4=>
  bif !decide (e2=e4)then
   (k0 false)
  else
   nx a b (wr (i+1))
  )
 else
  k1
noncomputable def l4 {R:Type} (G:Gs) (n m:Nat) (a:List Int) (b:List Int) (i:Int) (k0:Bool->Option R) (k1:Option R):Option R:=iter (fun(v:List Int×List Int×Int) nx=>b4 G n v.1 v.2.1 v.2.2 (fun y0 y1 y2=>nx (y0,y1,y2)) k0 k1) m (a,b,i)
noncomputable def main {R:Type} (G:Gs) (n:Nat) (a:List Int) (b:List Int) (K:Bool->Option R):Option R:=
 bif !decide ((List.length a:Int)=(List.length b:Int))then
  (K false)
 else
  l4 G n n a b 0
   (fun t4=>K t4)
   (K true)
noncomputable def dl4 (G:Gs) (n m:Nat) (R:Type) (st:St) (K:Kt R):Option R:=match st with
 |⟨[(0,.one (.l .i a)),(1,.one (.l .i b)),(5,.one (.i i))],[]⟩=>l4 G n m a b i (fun t4=>K .ret ⟨[(4,.one (.b t4))],[]⟩) (K (.exit 0) ⟨[],[]⟩)
 |_=>none
noncomputable def pc (G:Gs) (n:Nat):Pcs:=⟨fun R id st K=>bif Nat.beq id 4 then dl4 G n n R st K else none,fun _ _ _ _=>none,fun _ _ _ _=>none⟩
noncomputable def an:Ann:=⟨26,0,[(4,[0,1,5])],[],[4],[(6,⟨[([0,1,2,3,4,5,6,7,8],[],[])],[],[],[],[]⟩)],[]⟩
noncomputable abbrev bd:=bodyOf Tryd.f17
noncomputable abbrev q4:=nthC [1,1,0,1,0,0] bd
theorem pl4 {G:Gs} (hG:AllE Tryd.prog (ents G)) (n:Nat):∀m,PieceOK Tryd.prog an (.loop q4) (dl4 G n m):=lpc hG (pc G n) [0,1,5] ⟨[],[4],[(0,[])]⟩ (apl [] trivial) (fun R st K=>by unfold dl4;split<;>rfl) fun m R st K r h=>by unfold dl4 at h;split at h;exact .trans (by kernel_rfl) h;cases h
noncomputable def Does (G:Gs) (a:List Int) (b:List Int) (r:Bool):Prop:=∃n,main (R:=AT×List Ob) G n a b (fun r0=>some (.one (.b r0),[]))=some (.one (.b r),[])
theorem ok {G:Gs} (hG:AllE Tryd.prog (ents G)) {g:List Int->List Int->Option (Bool)} (hg:∀a b r,g a b=some r->Does G a b r):EntOK Tryd.prog (ent g):=fun R xs H K r hc=>by
 simp only[ent]at hc
 split at hc
 ·obtain⟨r,j1,j2⟩:=bind_some hc
  obtain⟨n,j3⟩:=hg _ _ _ j1
  exact⟨_,_,j2,fnP hG an (pc G n) bd [.tmp 4] Tryd.func17 (.inl rfl) (apl [(1,4,.loop q4)] ⟨pl4 hG n n,trivial⟩) (.trans (by kernel_rfl) j3)⟩
 ·cases hc
end l_eqIntS
namespace l_eqIntSS
structure Gs where
 l_eqIntS:List Int->List Int->Option (Bool)
noncomputable def ents (G:Gs):List Ent:=[l_eqIntS.ent G.l_eqIntS]
noncomputable def b4 {R:Type} (G:Gs) (n:Nat) (a:List (List Int)) (b:List (List Int)) (i:Int) (nx:List (List Int)->List (List Int)->Int->Option R) (k0:Bool->Option R) (k1:Option R):Option R:=
 bif decide (i<(List.length a:Int))then
  (
  Option.bind (ix a i) fun e2=>
  Option.bind (ix b i) fun e4=>
  Option.bind (G.l_eqIntS e2 e4) fun r2=>
  bif !r2 then
   (k0 false)
  else
   nx a b (wr (i+1))
  )
 else
  k1
noncomputable def l4 {R:Type} (G:Gs) (n m:Nat) (a:List (List Int)) (b:List (List Int)) (i:Int) (k0:Bool->Option R) (k1:Option R):Option R:=iter (fun(v:List (List Int)×List (List Int)×Int) nx=>b4 G n v.1 v.2.1 v.2.2 (fun y0 y1 y2=>nx (y0,y1,y2)) k0 k1) m (a,b,i)
noncomputable def main {R:Type} (G:Gs) (n:Nat) (a:List (List Int)) (b:List (List Int)) (K:Bool->Option R):Option R:=
 bif !decide ((List.length a:Int)=(List.length b:Int))then
  (K false)
 else
  l4 G n n a b 0
   (fun t4=>K t4)
   (K true)
noncomputable def dl4 (G:Gs) (n m:Nat) (R:Type) (st:St) (K:Kt R):Option R:=match st with
 |⟨[(0,.one (.l (.sl .i) a)),(1,.one (.l (.sl .i) b)),(5,.one (.i i))],[]⟩=>l4 G n m a b i (fun t4=>K .ret ⟨[(4,.one (.b t4))],[]⟩) (K (.exit 0) ⟨[],[]⟩)
 |_=>none
noncomputable def pc (G:Gs) (n:Nat):Pcs:=⟨fun R id st K=>bif Nat.beq id 4 then dl4 G n n R st K else none,fun _ _ _ _=>none,fun _ _ _ _=>none⟩
noncomputable def an:Ann:=⟨27,0,[(4,[0,1,5])],[],[4],[(6,⟨[([0,1,2,3,4,5,6,7,8,9],[],[])],[],[],[],[]⟩)],[]⟩
noncomputable abbrev bd:=bodyOf Tryd.f49
noncomputable abbrev q4:=nthC [1,1,0,1,0,0] bd
theorem pl4 {G:Gs} (hG:AllE Tryd.prog (ents G)) (n:Nat):∀m,PieceOK Tryd.prog an (.loop q4) (dl4 G n m):=lpc hG (pc G n) [0,1,5] ⟨[],[4],[(0,[])]⟩ (apl [] trivial) (fun R st K=>by unfold dl4;split<;>rfl) fun m R st K r h=>by unfold dl4 at h;split at h;exact .trans (by kernel_rfl) h;cases h
noncomputable def Does (G:Gs) (a:List (List Int)) (b:List (List Int)) (r:Bool):Prop:=∃n,main (R:=AT×List Ob) G n a b (fun r0=>some (.one (.b r0),[]))=some (.one (.b r),[])
theorem ok {G:Gs} (hG:AllE Tryd.prog (ents G)) {g:List (List Int)->List (List Int)->Option (Bool)} (hg:∀a b r,g a b=some r->Does G a b r):EntOK Tryd.prog (ent g):=fun R xs H K r hc=>by
 simp only[ent]at hc
 split at hc
 ·obtain⟨r,j1,j2⟩:=bind_some hc
  obtain⟨n,j3⟩:=hg _ _ _ j1
  exact⟨_,_,j2,fnP hG an (pc G n) bd [.tmp 4] Tryd.func49 (.inl rfl) (apl [(1,4,.loop q4)] ⟨pl4 hG n n,trivial⟩) (.trans (by kernel_rfl) j3)⟩
 ·cases hc
end l_eqIntSS
namespace l_eqTermS
structure Gs where
 l_eqTerm:Tm->Tm->Option (Bool)
noncomputable def ents (G:Gs):List Ent:=[l_eqTerm.ent G.l_eqTerm]
noncomputable def b4 {R:Type} (G:Gs) (n:Nat) (a:List Tm) (b:List Tm) (i:Int) (nx:List Tm->List Tm->Int->Option R) (k0:Bool->Option R) (k1:Option R):Option R:=
 bif decide (i<(List.length a:Int))then
  (
  Option.bind (ix a i) fun e2=>
  Option.bind (ix b i) fun e4=>
  Option.bind (G.l_eqTerm (Tm.mk (Tm.op e2) (Tm.name e2) (Tm.sort e2) (Tm.args e2)) (Tm.mk (Tm.op e4) (Tm.name e4) (Tm.sort e4) (Tm.args e4))) fun r2=>
  bif !r2 then
   (k0 false)
  else
   nx a b (wr (i+1))
  )
 else
  k1
noncomputable def l4 {R:Type} (G:Gs) (n m:Nat) (a:List Tm) (b:List Tm) (i:Int) (k0:Bool->Option R) (k1:Option R):Option R:=iter (fun(v:List Tm×List Tm×Int) nx=>b4 G n v.1 v.2.1 v.2.2 (fun y0 y1 y2=>nx (y0,y1,y2)) k0 k1) m (a,b,i)
noncomputable def main {R:Type} (G:Gs) (n:Nat) (a:List Tm) (b:List Tm) (K:Bool->Option R):Option R:=
 bif !decide ((List.length a:Int)=(List.length b:Int))then
  (K false)
 else
  l4 G n n a b 0
   (fun t4=>K t4)
   (K true)
noncomputable def dl4 (G:Gs) (n m:Nat) (R:Type) (st:St) (K:Kt R):Option R:=match st with
 |⟨[(0,.one (.l (.n 1) a)),(1,.one (.l (.n 1) b)),(5,.one (.i i))],[]⟩=>l4 G n m a b i (fun t4=>K .ret ⟨[(4,.one (.b t4))],[]⟩) (K (.exit 0) ⟨[],[]⟩)
 |_=>none
noncomputable def pc (G:Gs) (n:Nat):Pcs:=⟨fun R id st K=>bif Nat.beq id 4 then dl4 G n n R st K else none,fun _ _ _ _=>none,fun _ _ _ _=>none⟩
noncomputable def an:Ann:=⟨27,0,[(4,[0,1,5])],[],[4],[(6,⟨[([0,1,2,3,4,5,6,7,8,9],[],[])],[],[],[],[]⟩)],[]⟩
noncomputable abbrev bd:=bodyOf Tryd.f48
noncomputable abbrev q4:=nthC [1,1,0,1,0,0] bd
theorem pl4 {G:Gs} (hG:AllE Tryd.prog (ents G)) (n:Nat):∀m,PieceOK Tryd.prog an (.loop q4) (dl4 G n m):=lpc hG (pc G n) [0,1,5] ⟨[],[4],[(0,[])]⟩ (apl [] trivial) (fun R st K=>by unfold dl4;split<;>rfl) fun m R st K r h=>by unfold dl4 at h;split at h;exact .trans (by kernel_rfl) h;cases h
noncomputable def Does (G:Gs) (a:List Tm) (b:List Tm) (r:Bool):Prop:=∃n,main (R:=AT×List Ob) G n a b (fun r0=>some (.one (.b r0),[]))=some (.one (.b r),[])
theorem ok {G:Gs} (hG:AllE Tryd.prog (ents G)) {g:List Tm->List Tm->Option (Bool)} (hg:∀a b r,g a b=some r->Does G a b r):EntOK Tryd.prog (ent g):=fun R xs H K r hc=>by
 simp only[ent]at hc
 split at hc
 ·obtain⟨r,j1,j2⟩:=bind_some hc
  obtain⟨n,j3⟩:=hg _ _ _ j1
  exact⟨_,_,j2,fnP hG an (pc G n) bd [.tmp 4] Tryd.func48 (.inl rfl) (apl [(1,4,.loop q4)] ⟨pl4 hG n n,trivial⟩) (.trans (by kernel_rfl) j3)⟩
 ·cases hc
end l_eqTermS
namespace l_eqTerm
structure Gs where
 l_eqTermS:List Tm->List Tm->Option (Bool)
noncomputable def ents (G:Gs):List Ent:=[l_eqTermS.ent G.l_eqTermS]
noncomputable def main {R:Type} (G:Gs) (n:Nat) (a:Tm) (b:Tm) (K:Bool->Option R):Option R:=
 bif !decide ((Tm.op a)=(Tm.op b))then
  (K false)
 else
  bif !sEq (Tm.name a) (Tm.name b)then
   (K false)
  else
   bif !decide ((Tm.sort a)=(Tm.sort b))then
    (K false)
   else
    Option.bind (G.l_eqTermS (Tm.args a) (Tm.args b)) fun r=>
    bif !r then
     (K false)
    else
     K true
noncomputable def pc (_:Gs) (_:Nat):Pcs:=⟨fun _ _ _ _=>none,fun _ _ _ _=>none,fun _ _ _ _=>none⟩
noncomputable def an:Ann:=⟨26,0,[],[],[4],[],[]⟩
noncomputable abbrev bd:=bodyOf Tryd.f85
noncomputable def Does (G:Gs) (a:Tm) (b:Tm) (r:Bool):Prop:=∃n,main (R:=AT×List Ob) G n a b (fun r0=>some (.one (.b r0),[]))=some (.one (.b r),[])
theorem ok {G:Gs} (hG:AllE Tryd.prog (ents G)) {g:Tm->Tm->Option (Bool)} (hg:∀a b r,g a b=some r->Does G a b r):EntOK Tryd.prog (ent g):=fun R xs H K r hc=>by
 simp only[ent]at hc
 split at hc
 ·obtain⟨r,j1,j2⟩:=bind_some hc
  obtain⟨n,j3⟩:=hg _ _ _ j1
  exact⟨_,_,j2,fnP hG an (pc G n) bd [.tmp 4] Tryd.func85 (.inl rfl) (apl [] trivial) (.trans (by kernel_rfl) j3)⟩
 ·cases hc
end l_eqTerm
namespace l_eqGraph
structure Gs where
 l_eqTermS:List Tm->List Tm->Option (Bool)
 l_eqIntSS:List (List Int)->List (List Int)->Option (Bool)
noncomputable def ents (G:Gs):List Ent:=[l_eqTermS.ent G.l_eqTermS,l_eqIntSS.ent G.l_eqIntSS]
noncomputable def main {R:Type} (G:Gs) (n:Nat) (a:Gr) (b:Gr) (K:Bool->Option R):Option R:=
 Option.bind (G.l_eqTermS (Gr.states a) (Gr.states b)) fun r=>
 bif !r then
  (K false)
 else
  Option.bind (G.l_eqIntSS (Gr.edges a) (Gr.edges b)) fun r2=>
  bif !r2 then
   (K false)
  else
   bif !((Gr.whole a)==(Gr.whole b))then
    (K false)
   else
    K true
noncomputable def pc (_:Gs) (_:Nat):Pcs:=⟨fun _ _ _ _=>none,fun _ _ _ _=>none,fun _ _ _ _=>none⟩
noncomputable def an:Ann:=⟨22,0,[],[],[4],[],[]⟩
noncomputable abbrev bd:=bodyOf Tryd.f16
noncomputable def Does (G:Gs) (a:Gr) (b:Gr) (r:Bool):Prop:=∃n,main (R:=AT×List Ob) G n a b (fun r0=>some (.one (.b r0),[]))=some (.one (.b r),[])
theorem ok {G:Gs} (hG:AllE Tryd.prog (ents G)) {g:Gr->Gr->Option (Bool)} (hg:∀a b r,g a b=some r->Does G a b r):EntOK Tryd.prog (ent g):=fun R xs H K r hc=>by
 simp only[ent]at hc
 split at hc
 ·obtain⟨r,j1,j2⟩:=bind_some hc
  obtain⟨n,j3⟩:=hg _ _ _ j1
  exact⟨_,_,j2,fnP hG an (pc G n) bd [.tmp 4] Tryd.func16 (.inl rfl) (apl [] trivial) (.trans (by kernel_rfl) j3)⟩
 ·cases hc
end l_eqGraph
namespace l_eqFormulaS
structure Gs where
 l_eqFormula:Fm->Fm->Option (Bool)
noncomputable def ents (G:Gs):List Ent:=[l_eqFormula.ent G.l_eqFormula]
noncomputable def b4 {R:Type} (G:Gs) (n:Nat) (a:List Fm) (b:List Fm) (i:Int) (nx:List Fm->List Fm->Int->Option R) (k0:Bool->Option R) (k1:Option R):Option R:=
 bif decide (i<(List.length a:Int))then
  (
  Option.bind (ix a i) fun e2=>
  Option.bind (ix b i) fun e4=>
  Option.bind (G.l_eqFormula (Fm.mk (Fm.kind e2) (Fm.prop e2) (Fm.kids e2)) (Fm.mk (Fm.kind e4) (Fm.prop e4) (Fm.kids e4))) fun r2=>
  bif !r2 then
   (k0 false)
  else
   nx a b (wr (i+1))
  )
 else
  k1
noncomputable def l4 {R:Type} (G:Gs) (n m:Nat) (a:List Fm) (b:List Fm) (i:Int) (k0:Bool->Option R) (k1:Option R):Option R:=iter (fun(v:List Fm×List Fm×Int) nx=>b4 G n v.1 v.2.1 v.2.2 (fun y0 y1 y2=>nx (y0,y1,y2)) k0 k1) m (a,b,i)
noncomputable def main {R:Type} (G:Gs) (n:Nat) (a:List Fm) (b:List Fm) (K:Bool->Option R):Option R:=
 bif !decide ((List.length a:Int)=(List.length b:Int))then
  (K false)
 else
  l4 G n n a b 0
   (fun t4=>K t4)
   (K true)
noncomputable def dl4 (G:Gs) (n m:Nat) (R:Type) (st:St) (K:Kt R):Option R:=match st with
 |⟨[(0,.one (.l (.n 2) a)),(1,.one (.l (.n 2) b)),(5,.one (.i i))],[]⟩=>l4 G n m a b i (fun t4=>K .ret ⟨[(4,.one (.b t4))],[]⟩) (K (.exit 0) ⟨[],[]⟩)
 |_=>none
noncomputable def pc (G:Gs) (n:Nat):Pcs:=⟨fun R id st K=>bif Nat.beq id 4 then dl4 G n n R st K else none,fun _ _ _ _=>none,fun _ _ _ _=>none⟩
noncomputable def an:Ann:=⟨27,0,[(4,[0,1,5])],[],[4],[(6,⟨[([0,1,2,3,4,5,6,7,8,9],[],[])],[],[],[],[]⟩)],[]⟩
noncomputable abbrev bd:=bodyOf Tryd.f50
noncomputable abbrev q4:=nthC [1,1,0,1,0,0] bd
theorem pl4 {G:Gs} (hG:AllE Tryd.prog (ents G)) (n:Nat):∀m,PieceOK Tryd.prog an (.loop q4) (dl4 G n m):=lpc hG (pc G n) [0,1,5] ⟨[],[4],[(0,[])]⟩ (apl [] trivial) (fun R st K=>by unfold dl4;split<;>rfl) fun m R st K r h=>by unfold dl4 at h;split at h;exact .trans (by kernel_rfl) h;cases h
noncomputable def Does (G:Gs) (a:List Fm) (b:List Fm) (r:Bool):Prop:=∃n,main (R:=AT×List Ob) G n a b (fun r0=>some (.one (.b r0),[]))=some (.one (.b r),[])
theorem ok {G:Gs} (hG:AllE Tryd.prog (ents G)) {g:List Fm->List Fm->Option (Bool)} (hg:∀a b r,g a b=some r->Does G a b r):EntOK Tryd.prog (ent g):=fun R xs H K r hc=>by
 simp only[ent]at hc
 split at hc
 ·obtain⟨r,j1,j2⟩:=bind_some hc
  obtain⟨n,j3⟩:=hg _ _ _ j1
  exact⟨_,_,j2,fnP hG an (pc G n) bd [.tmp 4] Tryd.func50 (.inl rfl) (apl [(1,4,.loop q4)] ⟨pl4 hG n n,trivial⟩) (.trans (by kernel_rfl) j3)⟩
 ·cases hc
end l_eqFormulaS
namespace l_eqFormula
structure Gs where
 l_eqFormulaS:List Fm->List Fm->Option (Bool)
noncomputable def ents (G:Gs):List Ent:=[l_eqFormulaS.ent G.l_eqFormulaS]
noncomputable def main {R:Type} (G:Gs) (n:Nat) (a:Fm) (b:Fm) (K:Bool->Option R):Option R:=
 bif !decide ((Fm.kind a)=(Fm.kind b))then
  (K false)
 else
  bif !decide ((Fm.prop a)=(Fm.prop b))then
   (K false)
  else
   Option.bind (G.l_eqFormulaS (Fm.kids a) (Fm.kids b)) fun r=>
   bif !r then
    (K false)
   else
    K true
noncomputable def pc (_:Gs) (_:Nat):Pcs:=⟨fun _ _ _ _=>none,fun _ _ _ _=>none,fun _ _ _ _=>none⟩
noncomputable def an:Ann:=⟨21,0,[],[],[4],[],[]⟩
noncomputable abbrev bd:=bodyOf Tryd.f18
noncomputable def Does (G:Gs) (a:Fm) (b:Fm) (r:Bool):Prop:=∃n,main (R:=AT×List Ob) G n a b (fun r0=>some (.one (.b r0),[]))=some (.one (.b r),[])
theorem ok {G:Gs} (hG:AllE Tryd.prog (ents G)) {g:Fm->Fm->Option (Bool)} (hg:∀a b r,g a b=some r->Does G a b r):EntOK Tryd.prog (ent g):=fun R xs H K r hc=>by
 simp only[ent]at hc
 split at hc
 ·obtain⟨r,j1,j2⟩:=bind_some hc
  obtain⟨n,j3⟩:=hg _ _ _ j1
  exact⟨_,_,j2,fnP hG an (pc G n) bd [.tmp 4] Tryd.func18 (.inl rfl) (apl [] trivial) (.trans (by kernel_rfl) j3)⟩
 ·cases hc
end l_eqFormula
namespace l_eqLasso
noncomputable abbrev bd:=bodyOf Tryd.f15
end l_eqLasso
namespace l_toIntS
structure Gs where
 none_:Unit
noncomputable def ents (_:Gs):List Ent:=[]
noncomputable def b3 {R:Type} (G:Gs) (n:Nat) (a:List Int) (i:Int) (h0:List Int) (nx:List Int->Int->List Int->Option R) (k0:List Int->Option R):Option R:=
 bif decide (i<(List.length a:Int))then
  (
  Option.bind (ix a i) fun e=>
  Option.bind (ix h0 i) fun e2=>
  nx a (wr (i+1)) (List.set h0 (Int.toNat i) e)
  )
 else
  k0 h0
noncomputable def l3 {R:Type} (G:Gs) (n m:Nat) (a:List Int) (i:Int) (h0:List Int) (k0:List Int->Option R):Option R:=iter (fun(v:List Int×Int×List Int) nx=>b3 G n v.1 v.2.1 v.2.2 (fun y0 y1 y2=>nx (y0,y1,y2)) k0) m (a,i,h0)
noncomputable def main {R:Type} (G:Gs) (n:Nat) (a:List Int) (K:List Int->Option R):Option R:=
 Option.bind (mk (α:=Int) 0 (List.length a:Int)) fun xs=>
 l3 G n n a 0 xs
  (fun h0=>K h0)
noncomputable def dl3 (G:Gs) (n m:Nat) (R:Type) (st:St) (K:Kt R):Option R:=match st with
 |⟨[(0,.one (.l .i a)),(3,.one (.o 0)),(4,.one (.i i))],[.row .i 0 h0]⟩=>l3 G n m a i h0 (fun h0=>K (.exit 0) ⟨[(3,.one (.o 0))],[.row .i 0 h0]⟩)
 |_=>none
noncomputable def pc (G:Gs) (n:Nat):Pcs:=⟨fun R id st K=>bif Nat.beq id 3 then dl3 G n n R st K else none,fun _ _ _ _=>none,fun _ _ _ _=>none⟩
noncomputable def an:Ann:=⟨22,0,[(3,[0,3,4])],[],[2],[],[]⟩
noncomputable abbrev bd:=bodyOf Tryd.f12
noncomputable abbrev q3:=nthC [1,1,0,1,0,0] bd
theorem pl3 {G:Gs} (hG:AllE Tryd.prog (ents G)) (n:Nat):∀m,PieceOK Tryd.prog an (.loop q3) (dl3 G n m):=lpc hG (pc G n) [0,3,4] ⟨[3],[2],[(0,[3])]⟩ (apl [] trivial) (fun R st K=>by unfold dl3;split<;>rfl) fun m R st K r h=>by unfold dl3 at h;split at h;exact .trans (by kernel_rfl) h;cases h
noncomputable def Does (G:Gs) (a:List Int) (r:List Int):Prop:=∃n,main (R:=AT×List Ob) G n a (fun r0=>some (.one (.l .i r0),[]))=some (.one (.l .i r),[])
theorem ok {G:Gs} (hG:AllE Tryd.prog (ents G)) {g:List Int->Option (List Int)} (hg:∀a r,g a=some r->Does G a r):EntOK Tryd.prog (ent g):=fun R xs H K r hc=>by
 simp only[ent]at hc
 split at hc
 ·obtain⟨r,j1,j2⟩:=bind_some hc
  obtain⟨n,j3⟩:=hg _ _ j1
  exact⟨_,_,j2,fnP hG an (pc G n) bd [.tmp 2] Tryd.func12 (.inl rfl) (apl [(1,3,.loop q3)] ⟨pl3 hG n n,trivial⟩) (.trans (by kernel_rfl) j3)⟩
 ·cases hc
end l_toIntS
namespace l_toIntSS
structure Gs where
 l_toIntS:List Int->Option (List Int)
noncomputable def ents (G:Gs):List Ent:=[l_toIntS.ent G.l_toIntS]
noncomputable def b3 {R:Type} (G:Gs) (n:Nat) (a:List (List Int)) (i:Int) (h0:List (List Int)) (nx:List (List Int)->Int->List (List Int)->Option R) (k0:List (List Int)->Option R):Option R:=
 bif decide (i<(List.length a:Int))then
  (
  Option.bind (ix a i) fun e=>
  Option.bind (G.l_toIntS e) fun r=>
  Option.bind (ix h0 i) fun e2=>
  nx a (wr (i+1)) (List.set h0 (Int.toNat i) r)
  )
 else
  k0 h0
noncomputable def l3 {R:Type} (G:Gs) (n m:Nat) (a:List (List Int)) (i:Int) (h0:List (List Int)) (k0:List (List Int)->Option R):Option R:=iter (fun(v:List (List Int)×Int×List (List Int)) nx=>b3 G n v.1 v.2.1 v.2.2 (fun y0 y1 y2=>nx (y0,y1,y2)) k0) m (a,i,h0)
noncomputable def main {R:Type} (G:Gs) (n:Nat) (a:List (List Int)) (K:List (List Int)->Option R):Option R:=
 Option.bind (mk (α:=List Int) [] (List.length a:Int)) fun xs=>
 l3 G n n a 0 xs
  (fun h0=>K h0)
noncomputable def dl3 (G:Gs) (n m:Nat) (R:Type) (st:St) (K:Kt R):Option R:=match st with
 |⟨[(0,.one (.l (.sl .i) a)),(3,.one (.o 0)),(4,.one (.i i))],[.row (.sl .i) 0 h0]⟩=>l3 G n m a i h0 (fun h0=>K (.exit 0) ⟨[(3,.one (.o 0))],[.row (.sl .i) 0 h0]⟩)
 |_=>none
noncomputable def pc (G:Gs) (n:Nat):Pcs:=⟨fun R id st K=>bif Nat.beq id 3 then dl3 G n n R st K else none,fun _ _ _ _=>none,fun _ _ _ _=>none⟩
noncomputable def an:Ann:=⟨23,0,[(3,[0,3,4])],[],[2],[],[]⟩
noncomputable abbrev bd:=bodyOf Tryd.f44
noncomputable abbrev q3:=nthC [1,1,0,1,0,0] bd
theorem pl3 {G:Gs} (hG:AllE Tryd.prog (ents G)) (n:Nat):∀m,PieceOK Tryd.prog an (.loop q3) (dl3 G n m):=lpc hG (pc G n) [0,3,4] ⟨[3],[2],[(0,[3])]⟩ (apl [] trivial) (fun R st K=>by unfold dl3;split<;>rfl) fun m R st K r h=>by unfold dl3 at h;split at h;exact .trans (by kernel_rfl) h;cases h
noncomputable def Does (G:Gs) (a:List (List Int)) (r:List (List Int)):Prop:=∃n,main (R:=AT×List Ob) G n a (fun r0=>some (.one (.l (.sl .i) r0),[]))=some (.one (.l (.sl .i) r),[])
theorem ok {G:Gs} (hG:AllE Tryd.prog (ents G)) {g:List (List Int)->Option (List (List Int))} (hg:∀a r,g a=some r->Does G a r):EntOK Tryd.prog (ent g):=fun R xs H K r hc=>by
 simp only[ent]at hc
 split at hc
 ·obtain⟨r,j1,j2⟩:=bind_some hc
  obtain⟨n,j3⟩:=hg _ _ j1
  exact⟨_,_,j2,fnP hG an (pc G n) bd [.tmp 2] Tryd.func44 (.inl rfl) (apl [(1,3,.loop q3)] ⟨pl3 hG n n,trivial⟩) (.trans (by kernel_rfl) j3)⟩
 ·cases hc
end l_toIntSS
namespace l_toTermS
structure Gs where
 l_toTerm:Tm->Option (Tm)
noncomputable def ents (G:Gs):List Ent:=[l_toTerm.ent G.l_toTerm]
noncomputable def b3 {R:Type} (G:Gs) (n:Nat) (a:List Tm) (i:Int) (h0:List Tm) (nx:List Tm->Int->List Tm->Option R) (k0:List Tm->Option R):Option R:=
 bif decide (i<(List.length a:Int))then
  (
  Option.bind (ix a i) fun e=>
  Option.bind (G.l_toTerm (Tm.mk (Tm.op e) (Tm.name e) (Tm.sort e) (Tm.args e))) fun r=>
  Option.bind (ix h0 i) fun e2=>
  nx a (wr (i+1)) (List.set h0 (Int.toNat i) (Tm.mk (Tm.op r) (Tm.name r) (Tm.sort r) (Tm.args r)))
  )
 else
  k0 h0
noncomputable def l3 {R:Type} (G:Gs) (n m:Nat) (a:List Tm) (i:Int) (h0:List Tm) (k0:List Tm->Option R):Option R:=iter (fun(v:List Tm×Int×List Tm) nx=>b3 G n v.1 v.2.1 v.2.2 (fun y0 y1 y2=>nx (y0,y1,y2)) k0) m (a,i,h0)
noncomputable def main {R:Type} (G:Gs) (n:Nat) (a:List Tm) (K:List Tm->Option R):Option R:=
 Option.bind (mk (α:=Tm) (Tm.mk 0 ByteArray.empty 0 []) (List.length a:Int)) fun xs=>
 l3 G n n a 0 xs
  (fun h0=>K h0)
noncomputable def dl3 (G:Gs) (n m:Nat) (R:Type) (st:St) (K:Kt R):Option R:=match st with
 |⟨[(0,.one (.l (.n 1) a)),(3,.one (.o 0)),(4,.one (.i i))],[.row (.n 1) 0 h0]⟩=>l3 G n m a i h0 (fun h0=>K (.exit 0) ⟨[(3,.one (.o 0))],[.row (.n 1) 0 h0]⟩)
 |_=>none
noncomputable def pc (G:Gs) (n:Nat):Pcs:=⟨fun R id st K=>bif Nat.beq id 3 then dl3 G n n R st K else none,fun _ _ _ _=>none,fun _ _ _ _=>none⟩
noncomputable def an:Ann:=⟨23,0,[(3,[0,3,4])],[],[2],[],[]⟩
noncomputable abbrev bd:=bodyOf Tryd.f43
noncomputable abbrev q3:=nthC [1,1,0,1,0,0] bd
theorem pl3 {G:Gs} (hG:AllE Tryd.prog (ents G)) (n:Nat):∀m,PieceOK Tryd.prog an (.loop q3) (dl3 G n m):=lpc hG (pc G n) [0,3,4] ⟨[3],[2],[(0,[3])]⟩ (apl [] trivial) (fun R st K=>by unfold dl3;split<;>rfl) fun m R st K r h=>by unfold dl3 at h;split at h;exact .trans (by kernel_rfl) h;cases h
noncomputable def Does (G:Gs) (a:List Tm) (r:List Tm):Prop:=∃n,main (R:=AT×List Ob) G n a (fun r0=>some (.one (.l (.n 1) r0),[]))=some (.one (.l (.n 1) r),[])
theorem ok {G:Gs} (hG:AllE Tryd.prog (ents G)) {g:List Tm->Option (List Tm)} (hg:∀a r,g a=some r->Does G a r):EntOK Tryd.prog (ent g):=fun R xs H K r hc=>by
 simp only[ent]at hc
 split at hc
 ·obtain⟨r,j1,j2⟩:=bind_some hc
  obtain⟨n,j3⟩:=hg _ _ j1
  exact⟨_,_,j2,fnP hG an (pc G n) bd [.tmp 2] Tryd.func43 (.inl rfl) (apl [(1,3,.loop q3)] ⟨pl3 hG n n,trivial⟩) (.trans (by kernel_rfl) j3)⟩
 ·cases hc
end l_toTermS
namespace l_toTerm
structure Gs where
 l_toTermS:List Tm->Option (List Tm)
noncomputable def ents (G:Gs):List Ent:=[l_toTermS.ent G.l_toTermS]
noncomputable def main {R:Type} (G:Gs) (n:Nat) (a:Tm) (K:Tm->Option R):Option R:=
 Option.bind (G.l_toTermS (Tm.args a)) fun r=>
 K (Tm.mk (Tm.op a) (Tm.name a) (Tm.sort a) r)
noncomputable def pc (_:Gs) (_:Nat):Pcs:=⟨fun _ _ _ _=>none,fun _ _ _ _=>none,fun _ _ _ _=>none⟩
noncomputable def an:Ann:=⟨18,0,[],[],[2],[],[]⟩
noncomputable abbrev bd:=bodyOf Tryd.f81
noncomputable def Does (G:Gs) (a:Tm) (r:Tm):Prop:=∃n,main (R:=AT×List Ob) G n a (fun r0=>some (.agg [.i (Tm.op r0),.s (Tm.name r0),.i (Tm.sort r0),.l (.n 1) (Tm.args r0)],[]))=some (.agg [.i (Tm.op r),.s (Tm.name r),.i (Tm.sort r),.l (.n 1) (Tm.args r)],[])
theorem ok {G:Gs} (hG:AllE Tryd.prog (ents G)) {g:Tm->Option (Tm)} (hg:∀a r,g a=some r->Does G a r):EntOK Tryd.prog (ent g):=fun R xs H K r hc=>by
 simp only[ent]at hc
 split at hc
 ·obtain⟨r,j1,j2⟩:=bind_some hc
  obtain⟨n,j3⟩:=hg _ _ j1
  exact⟨_,_,j2,fnP hG an (pc G n) bd [.cell 2 100] Tryd.func81 (.inl rfl) (apl [] trivial) (.trans (by kernel_rfl) j3)⟩
 ·cases hc
end l_toTerm
namespace l_toGraph
structure Gs where
 l_toTermS:List Tm->Option (List Tm)
 l_toIntSS:List (List Int)->Option (List (List Int))
noncomputable def ents (G:Gs):List Ent:=[l_toTermS.ent G.l_toTermS,l_toIntSS.ent G.l_toIntSS]
noncomputable def main {R:Type} (G:Gs) (n:Nat) (a:Gr) (K:Gr->Option R):Option R:=
 Option.bind (G.l_toTermS (Gr.states a)) fun r=>
 Option.bind (G.l_toIntSS (Gr.edges a)) fun r2=>
 K (Gr.mk r r2 (Gr.whole a))
noncomputable def pc (_:Gs) (_:Nat):Pcs:=⟨fun _ _ _ _=>none,fun _ _ _ _=>none,fun _ _ _ _=>none⟩
noncomputable def an:Ann:=⟨16,0,[],[],[2],[],[]⟩
noncomputable abbrev bd:=bodyOf Tryd.f11
noncomputable def Does (G:Gs) (a:Gr) (r:Gr):Prop:=∃n,main (R:=AT×List Ob) G n a (fun r0=>some (.agg [.l (.n 1) (Gr.states r0),.l (.sl .i) (Gr.edges r0),.b (Gr.whole r0)],[]))=some (.agg [.l (.n 1) (Gr.states r),.l (.sl .i) (Gr.edges r),.b (Gr.whole r)],[])
theorem ok {G:Gs} (hG:AllE Tryd.prog (ents G)) {g:Gr->Option (Gr)} (hg:∀a r,g a=some r->Does G a r):EntOK Tryd.prog (ent g):=fun R xs H K r hc=>by
 simp only[ent]at hc
 split at hc
 ·obtain⟨r,j1,j2⟩:=bind_some hc
  obtain⟨n,j3⟩:=hg _ _ j1
  exact⟨_,_,j2,fnP hG an (pc G n) bd [.cell 2 38] Tryd.func11 (.inl rfl) (apl [] trivial) (.trans (by kernel_rfl) j3)⟩
 ·cases hc
end l_toGraph
namespace l_toFormulaS
structure Gs where
 l_toFormula:Fm->Option (Fm)
noncomputable def ents (G:Gs):List Ent:=[l_toFormula.ent G.l_toFormula]
noncomputable def b3 {R:Type} (G:Gs) (n:Nat) (a:List Fm) (i:Int) (h0:List Fm) (nx:List Fm->Int->List Fm->Option R) (k0:List Fm->Option R):Option R:=
 bif decide (i<(List.length a:Int))then
  (
  Option.bind (ix a i) fun e=>
  Option.bind (G.l_toFormula (Fm.mk (Fm.kind e) (Fm.prop e) (Fm.kids e))) fun r=>
  Option.bind (ix h0 i) fun e2=>
  nx a (wr (i+1)) (List.set h0 (Int.toNat i) (Fm.mk (Fm.kind r) (Fm.prop r) (Fm.kids r)))
  )
 else
  k0 h0
noncomputable def l3 {R:Type} (G:Gs) (n m:Nat) (a:List Fm) (i:Int) (h0:List Fm) (k0:List Fm->Option R):Option R:=iter (fun(v:List Fm×Int×List Fm) nx=>b3 G n v.1 v.2.1 v.2.2 (fun y0 y1 y2=>nx (y0,y1,y2)) k0) m (a,i,h0)
noncomputable def main {R:Type} (G:Gs) (n:Nat) (a:List Fm) (K:List Fm->Option R):Option R:=
 Option.bind (mk (α:=Fm) (Fm.mk 0 0 []) (List.length a:Int)) fun xs=>
 l3 G n n a 0 xs
  (fun h0=>K h0)
noncomputable def dl3 (G:Gs) (n m:Nat) (R:Type) (st:St) (K:Kt R):Option R:=match st with
 |⟨[(0,.one (.l (.n 2) a)),(3,.one (.o 0)),(4,.one (.i i))],[.row (.n 2) 0 h0]⟩=>l3 G n m a i h0 (fun h0=>K (.exit 0) ⟨[(3,.one (.o 0))],[.row (.n 2) 0 h0]⟩)
 |_=>none
noncomputable def pc (G:Gs) (n:Nat):Pcs:=⟨fun R id st K=>bif Nat.beq id 3 then dl3 G n n R st K else none,fun _ _ _ _=>none,fun _ _ _ _=>none⟩
noncomputable def an:Ann:=⟨23,0,[(3,[0,3,4])],[],[2],[],[]⟩
noncomputable abbrev bd:=bodyOf Tryd.f45
noncomputable abbrev q3:=nthC [1,1,0,1,0,0] bd
theorem pl3 {G:Gs} (hG:AllE Tryd.prog (ents G)) (n:Nat):∀m,PieceOK Tryd.prog an (.loop q3) (dl3 G n m):=lpc hG (pc G n) [0,3,4] ⟨[3],[2],[(0,[3])]⟩ (apl [] trivial) (fun R st K=>by unfold dl3;split<;>rfl) fun m R st K r h=>by unfold dl3 at h;split at h;exact .trans (by kernel_rfl) h;cases h
noncomputable def Does (G:Gs) (a:List Fm) (r:List Fm):Prop:=∃n,main (R:=AT×List Ob) G n a (fun r0=>some (.one (.l (.n 2) r0),[]))=some (.one (.l (.n 2) r),[])
theorem ok {G:Gs} (hG:AllE Tryd.prog (ents G)) {g:List Fm->Option (List Fm)} (hg:∀a r,g a=some r->Does G a r):EntOK Tryd.prog (ent g):=fun R xs H K r hc=>by
 simp only[ent]at hc
 split at hc
 ·obtain⟨r,j1,j2⟩:=bind_some hc
  obtain⟨n,j3⟩:=hg _ _ j1
  exact⟨_,_,j2,fnP hG an (pc G n) bd [.tmp 2] Tryd.func45 (.inl rfl) (apl [(1,3,.loop q3)] ⟨pl3 hG n n,trivial⟩) (.trans (by kernel_rfl) j3)⟩
 ·cases hc
end l_toFormulaS
namespace l_toFormula
structure Gs where
 l_toFormulaS:List Fm->Option (List Fm)
noncomputable def ents (G:Gs):List Ent:=[l_toFormulaS.ent G.l_toFormulaS]
noncomputable def main {R:Type} (G:Gs) (n:Nat) (a:Fm) (K:Fm->Option R):Option R:=
 Option.bind (G.l_toFormulaS (Fm.kids a)) fun r=>
 K (Fm.mk (Fm.kind a) (Fm.prop a) r)
noncomputable def pc (_:Gs) (_:Nat):Pcs:=⟨fun _ _ _ _=>none,fun _ _ _ _=>none,fun _ _ _ _=>none⟩
noncomputable def an:Ann:=⟨15,0,[],[],[2],[],[]⟩
noncomputable abbrev bd:=bodyOf Tryd.f13
noncomputable def Does (G:Gs) (a:Fm) (r:Fm):Prop:=∃n,main (R:=AT×List Ob) G n a (fun r0=>some (.agg [.i (Fm.kind r0),.i (Fm.prop r0),.l (.n 2) (Fm.kids r0)],[]))=some (.agg [.i (Fm.kind r),.i (Fm.prop r),.l (.n 2) (Fm.kids r)],[])
theorem ok {G:Gs} (hG:AllE Tryd.prog (ents G)) {g:Fm->Option (Fm)} (hg:∀a r,g a=some r->Does G a r):EntOK Tryd.prog (ent g):=fun R xs H K r hc=>by
 simp only[ent]at hc
 split at hc
 ·obtain⟨r,j1,j2⟩:=bind_some hc
  obtain⟨n,j3⟩:=hg _ _ j1
  exact⟨_,_,j2,fnP hG an (pc G n) bd [.cell 2 43] Tryd.func13 (.inl rfl) (apl [] trivial) (.trans (by kernel_rfl) j3)⟩
 ·cases hc
end l_toFormula
namespace l_szIntS
structure Gs where
 none_:Unit
noncomputable def ents (_:Gs):List Ent:=[]
noncomputable def main {R:Type} (G:Gs) (n:Nat) (a:List Int) (left:Int) (K:Int->Option R):Option R:=
 bif decide ((wr (left-(List.length a:Int)))<0)then
  (K (-1))
 else
  K (wr (left-(List.length a:Int)))
noncomputable def pc (_:Gs) (_:Nat):Pcs:=⟨fun _ _ _ _=>none,fun _ _ _ _=>none,fun _ _ _ _=>none⟩
noncomputable def an:Ann:=⟨12,0,[],[],[4],[],[]⟩
noncomputable abbrev bd:=bodyOf Tryd.f77
noncomputable def Does (G:Gs) (a:List Int) (left:Int) (r:Int):Prop:=∃n,main (R:=AT×List Ob) G n a left (fun r0=>some (.one (.i r0),[]))=some (.one (.i r),[])
theorem ok {G:Gs} (hG:AllE Tryd.prog (ents G)) {g:List Int->Int->Option (Int)} (hg:∀a left r,g a left=some r->Does G a left r):EntOK Tryd.prog (ent g):=fun R xs H K r hc=>by
 simp only[ent]at hc
 split at hc
 ·obtain⟨r,j1,j2⟩:=bind_some hc
  obtain⟨n,j3⟩:=hg _ _ _ j1
  exact⟨_,_,j2,fnP hG an (pc G n) bd [.tmp 4] Tryd.func77 (.inl rfl) (apl [] trivial) (.trans (by kernel_rfl) j3)⟩
 ·cases hc
end l_szIntS
namespace l_szIntSS
structure Gs where
 l_szIntS:List Int->Int->Option (Int)
noncomputable def ents (G:Gs):List Ent:=[l_szIntS.ent G.l_szIntS]
noncomputable def b5 {R:Type} (G:Gs) (n:Nat) (a:List (List Int)) (left:Int) (i:Int) (nx:List (List Int)->Int->Int->Option R) (k0:Int->Option R) (k1:Int->Option R):Option R:=
 bif decide (i<(List.length a:Int))then
  (
  Option.bind (ix a i) fun e=>
  Option.bind (G.l_szIntS e left) fun r=>
  bif decide (r<0)then
   (k0 (-1))
  else
   nx a r (wr (i+1))
  )
 else
  k1 left
noncomputable def l5 {R:Type} (G:Gs) (n m:Nat) (a:List (List Int)) (left:Int) (i:Int) (k0:Int->Option R) (k1:Int->Option R):Option R:=iter (fun(v:List (List Int)×Int×Int) nx=>b5 G n v.1 v.2.1 v.2.2 (fun y0 y1 y2=>nx (y0,y1,y2)) k0 k1) m (a,left,i)
noncomputable def main {R:Type} (G:Gs) (n:Nat) (a:List (List Int)) (left:Int) (K:Int->Option R):Option R:=
 bif decide ((wr (left-(List.length a:Int)))<0)then
  (K (-1))
 else
  l5 G n n a (wr (left-(List.length a:Int))) 0
   (fun t4=>K t4)
   (fun left2=>K left2)
noncomputable def dl5 (G:Gs) (n m:Nat) (R:Type) (st:St) (K:Kt R):Option R:=match st with
 |⟨[(0,.one (.l (.sl .i) a)),(1,.one (.i left)),(5,.one (.i i))],[]⟩=>l5 G n m a left i (fun t4=>K .ret ⟨[(4,.one (.i t4))],[]⟩) (fun left=>K (.exit 0) ⟨[(1,.one (.i left))],[]⟩)
 |_=>none
noncomputable def pc (G:Gs) (n:Nat):Pcs:=⟨fun R id st K=>bif Nat.beq id 5 then dl5 G n n R st K else none,fun _ _ _ _=>none,fun _ _ _ _=>none⟩
noncomputable def an:Ann:=⟨27,0,[(5,[0,1,5])],[],[4],[],[]⟩
noncomputable abbrev bd:=bodyOf Tryd.f38
noncomputable abbrev q5:=nthC [1,1,1,0,1,0,0] bd
theorem pl5 {G:Gs} (hG:AllE Tryd.prog (ents G)) (n:Nat):∀m,PieceOK Tryd.prog an (.loop q5) (dl5 G n m):=lpc hG (pc G n) [0,1,5] ⟨[1],[4],[(0,[1])]⟩ (apl [] trivial) (fun R st K=>by unfold dl5;split<;>rfl) fun m R st K r h=>by unfold dl5 at h;split at h;exact .trans (by kernel_rfl) h;cases h
noncomputable def Does (G:Gs) (a:List (List Int)) (left:Int) (r:Int):Prop:=∃n,main (R:=AT×List Ob) G n a left (fun r0=>some (.one (.i r0),[]))=some (.one (.i r),[])
theorem ok {G:Gs} (hG:AllE Tryd.prog (ents G)) {g:List (List Int)->Int->Option (Int)} (hg:∀a left r,g a left=some r->Does G a left r):EntOK Tryd.prog (ent g):=fun R xs H K r hc=>by
 simp only[ent]at hc
 split at hc
 ·obtain⟨r,j1,j2⟩:=bind_some hc
  obtain⟨n,j3⟩:=hg _ _ _ j1
  exact⟨_,_,j2,fnP hG an (pc G n) bd [.tmp 4] Tryd.func38 (.inl rfl) (apl [(1,5,.loop q5)] ⟨pl5 hG n n,trivial⟩) (.trans (by kernel_rfl) j3)⟩
 ·cases hc
end l_szIntSS
namespace l_szTermS
structure Gs where
 l_szTerm:Tm->Int->Option (Int)
noncomputable def ents (G:Gs):List Ent:=[l_szTerm.ent G.l_szTerm]
noncomputable def b5 {R:Type} (G:Gs) (n:Nat) (a:List Tm) (left:Int) (i:Int) (nx:List Tm->Int->Int->Option R) (k0:Int->Option R) (k1:Int->Option R):Option R:=
 bif decide (i<(List.length a:Int))then
  (
  Option.bind (ix a i) fun e=>
  Option.bind (G.l_szTerm (Tm.mk (Tm.op e) (Tm.name e) (Tm.sort e) (Tm.args e)) left) fun r=>
  bif decide (r<0)then
   (k0 (-1))
  else
   nx a r (wr (i+1))
  )
 else
  k1 left
noncomputable def l5 {R:Type} (G:Gs) (n m:Nat) (a:List Tm) (left:Int) (i:Int) (k0:Int->Option R) (k1:Int->Option R):Option R:=iter (fun(v:List Tm×Int×Int) nx=>b5 G n v.1 v.2.1 v.2.2 (fun y0 y1 y2=>nx (y0,y1,y2)) k0 k1) m (a,left,i)
noncomputable def main {R:Type} (G:Gs) (n:Nat) (a:List Tm) (left:Int) (K:Int->Option R):Option R:=
 bif decide ((wr (left-(List.length a:Int)))<0)then
  (K (-1))
 else
  l5 G n n a (wr (left-(List.length a:Int))) 0
   (fun t4=>K t4)
   (fun left2=>K left2)
noncomputable def dl5 (G:Gs) (n m:Nat) (R:Type) (st:St) (K:Kt R):Option R:=match st with
 |⟨[(0,.one (.l (.n 1) a)),(1,.one (.i left)),(5,.one (.i i))],[]⟩=>l5 G n m a left i (fun t4=>K .ret ⟨[(4,.one (.i t4))],[]⟩) (fun left=>K (.exit 0) ⟨[(1,.one (.i left))],[]⟩)
 |_=>none
noncomputable def pc (G:Gs) (n:Nat):Pcs:=⟨fun R id st K=>bif Nat.beq id 5 then dl5 G n n R st K else none,fun _ _ _ _=>none,fun _ _ _ _=>none⟩
noncomputable def an:Ann:=⟨27,0,[(5,[0,1,5])],[],[4],[],[]⟩
noncomputable abbrev bd:=bodyOf Tryd.f37
noncomputable abbrev q5:=nthC [1,1,1,0,1,0,0] bd
theorem pl5 {G:Gs} (hG:AllE Tryd.prog (ents G)) (n:Nat):∀m,PieceOK Tryd.prog an (.loop q5) (dl5 G n m):=lpc hG (pc G n) [0,1,5] ⟨[1],[4],[(0,[1])]⟩ (apl [] trivial) (fun R st K=>by unfold dl5;split<;>rfl) fun m R st K r h=>by unfold dl5 at h;split at h;exact .trans (by kernel_rfl) h;cases h
noncomputable def Does (G:Gs) (a:List Tm) (left:Int) (r:Int):Prop:=∃n,main (R:=AT×List Ob) G n a left (fun r0=>some (.one (.i r0),[]))=some (.one (.i r),[])
theorem ok {G:Gs} (hG:AllE Tryd.prog (ents G)) {g:List Tm->Int->Option (Int)} (hg:∀a left r,g a left=some r->Does G a left r):EntOK Tryd.prog (ent g):=fun R xs H K r hc=>by
 simp only[ent]at hc
 split at hc
 ·obtain⟨r,j1,j2⟩:=bind_some hc
  obtain⟨n,j3⟩:=hg _ _ _ j1
  exact⟨_,_,j2,fnP hG an (pc G n) bd [.tmp 4] Tryd.func37 (.inl rfl) (apl [(1,5,.loop q5)] ⟨pl5 hG n n,trivial⟩) (.trans (by kernel_rfl) j3)⟩
 ·cases hc
end l_szTermS
namespace l_szTerm
structure Gs where
 l_szTermS:List Tm->Int->Option (Int)
noncomputable def ents (G:Gs):List Ent:=[l_szTermS.ent G.l_szTermS]
noncomputable def main {R:Type} (G:Gs) (n:Nat) (a:Tm) (left:Int) (K:Int->Option R):Option R:=
 bif decide ((wr (left-(ByteArray.size (Tm.name a):Int)))<0)then
  (K (-1))
 else
  Option.bind (G.l_szTermS (Tm.args a) (wr (left-(ByteArray.size (Tm.name a):Int)))) fun r=>
  bif decide (r<0)then
   (K (-1))
  else
   K r
noncomputable def pc (_:Gs) (_:Nat):Pcs:=⟨fun _ _ _ _=>none,fun _ _ _ _=>none,fun _ _ _ _=>none⟩
noncomputable def an:Ann:=⟨19,0,[],[],[4],[],[]⟩
noncomputable abbrev bd:=bodyOf Tryd.f76
noncomputable def Does (G:Gs) (a:Tm) (left:Int) (r:Int):Prop:=∃n,main (R:=AT×List Ob) G n a left (fun r0=>some (.one (.i r0),[]))=some (.one (.i r),[])
theorem ok {G:Gs} (hG:AllE Tryd.prog (ents G)) {g:Tm->Int->Option (Int)} (hg:∀a left r,g a left=some r->Does G a left r):EntOK Tryd.prog (ent g):=fun R xs H K r hc=>by
 simp only[ent]at hc
 split at hc
 ·obtain⟨r,j1,j2⟩:=bind_some hc
  obtain⟨n,j3⟩:=hg _ _ _ j1
  exact⟨_,_,j2,fnP hG an (pc G n) bd [.tmp 4] Tryd.func76 (.inl rfl) (apl [] trivial) (.trans (by kernel_rfl) j3)⟩
 ·cases hc
end l_szTerm
namespace l_szGraph
structure Gs where
 l_szTermS:List Tm->Int->Option (Int)
 l_szIntSS:List (List Int)->Int->Option (Int)
noncomputable def ents (G:Gs):List Ent:=[l_szTermS.ent G.l_szTermS,l_szIntSS.ent G.l_szIntSS]
noncomputable def main {R:Type} (G:Gs) (n:Nat) (a:Gr) (left:Int) (K:Int->Option R):Option R:=
 Option.bind (G.l_szTermS (Gr.states a) left) fun r=>
 bif decide (r<0)then
  (K (-1))
 else
  Option.bind (G.l_szIntSS (Gr.edges a) r) fun r2=>
  bif decide (r2<0)then
   (K (-1))
  else
   K r2
noncomputable def pc (_:Gs) (_:Nat):Pcs:=⟨fun _ _ _ _=>none,fun _ _ _ _=>none,fun _ _ _ _=>none⟩
noncomputable def an:Ann:=⟨18,0,[],[],[4],[],[]⟩
noncomputable abbrev bd:=bodyOf Tryd.f8
noncomputable def Does (G:Gs) (a:Gr) (left:Int) (r:Int):Prop:=∃n,main (R:=AT×List Ob) G n a left (fun r0=>some (.one (.i r0),[]))=some (.one (.i r),[])
theorem ok {G:Gs} (hG:AllE Tryd.prog (ents G)) {g:Gr->Int->Option (Int)} (hg:∀a left r,g a left=some r->Does G a left r):EntOK Tryd.prog (ent g):=fun R xs H K r hc=>by
 simp only[ent]at hc
 split at hc
 ·obtain⟨r,j1,j2⟩:=bind_some hc
  obtain⟨n,j3⟩:=hg _ _ _ j1
  exact⟨_,_,j2,fnP hG an (pc G n) bd [.tmp 4] Tryd.func8 (.inl rfl) (apl [] trivial) (.trans (by kernel_rfl) j3)⟩
 ·cases hc
end l_szGraph
namespace l_szFormulaS
structure Gs where
 l_szFormula:Fm->Int->Option (Int)
noncomputable def ents (G:Gs):List Ent:=[l_szFormula.ent G.l_szFormula]
noncomputable def b5 {R:Type} (G:Gs) (n:Nat) (a:List Fm) (left:Int) (i:Int) (nx:List Fm->Int->Int->Option R) (k0:Int->Option R) (k1:Int->Option R):Option R:=
 bif decide (i<(List.length a:Int))then
  (
  Option.bind (ix a i) fun e=>
  Option.bind (G.l_szFormula (Fm.mk (Fm.kind e) (Fm.prop e) (Fm.kids e)) left) fun r=>
  bif decide (r<0)then
   (k0 (-1))
  else
   nx a r (wr (i+1))
  )
 else
  k1 left
noncomputable def l5 {R:Type} (G:Gs) (n m:Nat) (a:List Fm) (left:Int) (i:Int) (k0:Int->Option R) (k1:Int->Option R):Option R:=iter (fun(v:List Fm×Int×Int) nx=>b5 G n v.1 v.2.1 v.2.2 (fun y0 y1 y2=>nx (y0,y1,y2)) k0 k1) m (a,left,i)
noncomputable def main {R:Type} (G:Gs) (n:Nat) (a:List Fm) (left:Int) (K:Int->Option R):Option R:=
 bif decide ((wr (left-(List.length a:Int)))<0)then
  (K (-1))
 else
  l5 G n n a (wr (left-(List.length a:Int))) 0
   (fun t4=>K t4)
   (fun left2=>K left2)
noncomputable def dl5 (G:Gs) (n m:Nat) (R:Type) (st:St) (K:Kt R):Option R:=match st with
 |⟨[(0,.one (.l (.n 2) a)),(1,.one (.i left)),(5,.one (.i i))],[]⟩=>l5 G n m a left i (fun t4=>K .ret ⟨[(4,.one (.i t4))],[]⟩) (fun left=>K (.exit 0) ⟨[(1,.one (.i left))],[]⟩)
 |_=>none
noncomputable def pc (G:Gs) (n:Nat):Pcs:=⟨fun R id st K=>bif Nat.beq id 5 then dl5 G n n R st K else none,fun _ _ _ _=>none,fun _ _ _ _=>none⟩
noncomputable def an:Ann:=⟨27,0,[(5,[0,1,5])],[],[4],[],[]⟩
noncomputable abbrev bd:=bodyOf Tryd.f39
noncomputable abbrev q5:=nthC [1,1,1,0,1,0,0] bd
theorem pl5 {G:Gs} (hG:AllE Tryd.prog (ents G)) (n:Nat):∀m,PieceOK Tryd.prog an (.loop q5) (dl5 G n m):=lpc hG (pc G n) [0,1,5] ⟨[1],[4],[(0,[1])]⟩ (apl [] trivial) (fun R st K=>by unfold dl5;split<;>rfl) fun m R st K r h=>by unfold dl5 at h;split at h;exact .trans (by kernel_rfl) h;cases h
noncomputable def Does (G:Gs) (a:List Fm) (left:Int) (r:Int):Prop:=∃n,main (R:=AT×List Ob) G n a left (fun r0=>some (.one (.i r0),[]))=some (.one (.i r),[])
theorem ok {G:Gs} (hG:AllE Tryd.prog (ents G)) {g:List Fm->Int->Option (Int)} (hg:∀a left r,g a left=some r->Does G a left r):EntOK Tryd.prog (ent g):=fun R xs H K r hc=>by
 simp only[ent]at hc
 split at hc
 ·obtain⟨r,j1,j2⟩:=bind_some hc
  obtain⟨n,j3⟩:=hg _ _ _ j1
  exact⟨_,_,j2,fnP hG an (pc G n) bd [.tmp 4] Tryd.func39 (.inl rfl) (apl [(1,5,.loop q5)] ⟨pl5 hG n n,trivial⟩) (.trans (by kernel_rfl) j3)⟩
 ·cases hc
end l_szFormulaS
namespace l_szFormula
structure Gs where
 l_szFormulaS:List Fm->Int->Option (Int)
noncomputable def ents (G:Gs):List Ent:=[l_szFormulaS.ent G.l_szFormulaS]
noncomputable def main {R:Type} (G:Gs) (n:Nat) (a:Fm) (left:Int) (K:Int->Option R):Option R:=
 Option.bind (G.l_szFormulaS (Fm.kids a) left) fun r=>
 bif decide (r<0)then
  (K (-1))
 else
  K r
noncomputable def pc (_:Gs) (_:Nat):Pcs:=⟨fun _ _ _ _=>none,fun _ _ _ _=>none,fun _ _ _ _=>none⟩
noncomputable def an:Ann:=⟨12,0,[],[],[4],[],[]⟩
noncomputable abbrev bd:=bodyOf Tryd.f9
noncomputable def Does (G:Gs) (a:Fm) (left:Int) (r:Int):Prop:=∃n,main (R:=AT×List Ob) G n a left (fun r0=>some (.one (.i r0),[]))=some (.one (.i r),[])
theorem ok {G:Gs} (hG:AllE Tryd.prog (ents G)) {g:Fm->Int->Option (Int)} (hg:∀a left r,g a left=some r->Does G a left r):EntOK Tryd.prog (ent g):=fun R xs H K r hc=>by
 simp only[ent]at hc
 split at hc
 ·obtain⟨r,j1,j2⟩:=bind_some hc
  obtain⟨n,j3⟩:=hg _ _ _ j1
  exact⟨_,_,j2,fnP hG an (pc G n) bd [.tmp 4] Tryd.func9 (.inl rfl) (apl [] trivial) (.trans (by kernel_rfl) j3)⟩
 ·cases hc
end l_szFormula
end Go.Proofs.YtjafncnjefnloaaDoor.Den

namespace Go.Proofs.YtjafncnjefnloaaDoor.Den
open Go.RowKit
open Classical
abbrev gIs (k:Nat):Fm->Option Bool:=fun f=>if f.size<=k then some (isFormula f)else none
theorem i_IsFormula_ok (k:Nat) (hk:k<=4294967296):EntOK Tryd.prog (i_IsFormula.ent (gIs k)):=i_IsFormula.ok (G:=⟨gSize k,gOk k⟩) ⟨formulaSize_ok k hk,formulaOK_ok k hk,trivial⟩ fun f r h=>by
 unfold gIs at h
 split at h
 ·rename_i hs
  cases h
  refine⟨1,?_⟩
  unfold i_IsFormula.main
  have e1:gSize k f=some (f.size:Int):=if_pos hs
  have e2:gOk k f=some f.ok:=if_pos hs
  simp only[Fm.eta]
  rw[e1,Option.bind_some,e2]
  unfold isFormula
  by_cases h12:f.size<=12
  ·rw[decide_eq_true (by omega),decide_eq_true h12];rfl
  ·rw[decide_eq_false (by omega),decide_eq_false h12];rfl
 ·cases h
section
variable {R : Type}
theorem left_loop (n k:Nat) (a b:Int) (kids:List Fm) (hk:∀x∈kids,x.size<=k) (hn:kids.length<=4294967296) (k0:Int->Option R):∀m (L i:Int), -1<=L->L<=12->0<=i->i<=kids.length->(kids.length-i).toNat<m->
  s_l31Left.l3 ⟨gLeft k⟩ n m L i a b kids k0=k0 (if L<0 then -1 else if ((wS Fm.size (kids.drop i.toNat):Nat):Int)<=L then L-(wS Fm.size (kids.drop i.toNat):Nat)else -1):=by
 intro m
 induction m with
 |zero=>intro L i _ _ _ _ hm;omega
 | succ m ih =>
  intro L i l0 l1 q0 q1 hm
  show s_l31Left.b3 ⟨gLeft k⟩ n L i a b kids (fun y0 y1 y2 y3 y4=>s_l31Left.l3 ⟨gLeft k⟩ n m y0 y1 y2 y3 y4 k0) k0=_
  unfold s_l31Left.b3
  by_cases hi:i<(kids.length:Int)
  ·rw[decide_eq_true hi,cond_true]
   by_cases hL:0<=L
   ·obtain⟨x,x1,x2,x3,_⟩:=drop_step q0 hi
    rw[decide_eq_true hL,cond_true,x1,Option.bind_some,Fm.eta]
    show Option.bind (gLeft k x L) _=_
    have e:gLeft k x L=some (if (x.size:Int)<=L then L-x.size else -1):=if_pos ⟨hk x x2,hL,l1⟩
    rw[e,Option.bind_some,wr_in (x:=i+1) (by omega)]
    refine(ih _ (i+1) (by split<;>omega) (by split<;>omega) (by omega) (by omega) (by omega)).trans ?_
    congr 1
    rw[x3,wS_cons]
    split<;>split<;>split<;>(try split)<;>omega
   ·rw[decide_eq_false hL,cond_false,if_pos (by omega)]
    congr 1
    omega
  ·rw[decide_eq_false hi,cond_false,drop_all hi,wS_nil]
   congr 1
   split
   ·omega
   ·rw[if_pos (by omega)];omega
end
theorem gLeft_zero :gLeft 0=fun _ _=>none:=by
 funext f l
 unfold gLeft
 rw[if_neg (by rw[Fm.size_eq];omega)]
theorem l31Left_ok :∀k,k<=4294967296->EntOK Tryd.prog (s_l31Left.ent (gLeft k))
 | 0, _ => by
  rw[gLeft_zero]
  intro R xs H K r h
  simp only[s_l31Left.ent]at h
  split at h<;>cases h
 | k + 1, hk => s_l31Left.ok (G := ⟨gLeft k⟩) ⟨l31Left_ok k (by omega), trivial⟩ fun f left r h => by
  unfold gLeft at h
  split at h
  ·rename_i hs
   cases h
   have h2:=len_size f
   refine⟨f.kids.length+1,?_⟩
   unfold s_l31Left.main
   rw[wr_in (by omega),left_loop _ k _ _ f.kids (fun x hx=>by have:=size_mem hx;omega) (by omega) _ _ (left-1) 0 (by omega) (by omega) (by omega) (by omega) (by omega)]
   simp only[Int.toNat_zero,List.drop_zero]
   have:=sizes_eq f
   congr 4
   split<;>split<;>(try split)<;>omega
  ·cases h
theorem s_IsFormula_ok (k:Nat) (hk:k<=4294967296):EntOK Tryd.prog (s_IsFormula.ent (gIs k)):=s_IsFormula.ok (G:=⟨gLeft k,gOk k⟩) ⟨l31Left_ok k hk,l31Right_ok k hk,trivial⟩ fun f r h=>by
 unfold gIs at h
 split at h
 ·rename_i hs
  cases h
  refine⟨1,?_⟩
  unfold s_IsFormula.main
  have e1:gLeft k f 12=some (if (f.size:Int)<=12 then (12:Int)-f.size else (-1:Int)):=if_pos ⟨hs,by omega,by omega⟩
  have e2:gOk k f=some f.ok:=if_pos hs
  simp only[Fm.eta]
  rw[e1,Option.bind_some,e2]
  unfold isFormula
  by_cases h12:f.size<=12
  ·rw[if_pos (by omega),decide_eq_true (by omega),decide_eq_true h12];rfl
  ·rw[if_neg (by omega),decide_eq_false (by omega),decide_eq_false h12];rfl
 ·cases h
theorem isF_parts {f:Fm} (h:isFormula f=true):f.size<=12/\f.ok=true:=by
 unfold isFormula at h
 rw[Bool.and_eq_true,decide_eq_true_eq]at h
 exact h
-- the laws' own functions
theorem fit_kids {f:Fm} (h:Fit (.n 2) f):FitC (.l (.n 2) f.kids):=h _ (by simp[explode])
theorem total_kids (f:Fm):f.total=totals f.kids:=Fm.total_eq f
theorem totals_cons (x:Fm) (l:List Fm):totals (x::l)=1+x.total+totals l:=by unfold totals;simp only[List.length_cons,List.map_cons,List.sum_cons];omega
theorem totals_nil :totals []=0:=rfl
theorem totals_mem {x:Fm} {l:List Fm} (h:x∈l):x.total<totals l:=by
 induction l with
 |nil=>simp at h
 | cons y l ih =>
  rw[totals_cons]
  rcases List.mem_cons.1 h with rfl|h
  ·omega
  ·have:=ih h;omega
theorem totals_len (l:List Fm):l.length<=totals l:=by unfold totals;omega
abbrev gTo (k:Nat):Fm->Option Fm:=fun f=>if f.total<k then some f else none
abbrev gToS (k:Nat):List Fm->Option (List Fm):=fun l=>if totals l<k then some l else none
theorem toS_ok (k:Nat) (hk:k<=2097152) (e:EntOK Tryd.prog (l_toFormula.ent (gTo k))):EntOK Tryd.prog (l_toFormulaS.ent (gToS (k+1))):=l_toFormulaS.ok (G:=⟨gTo k⟩) ⟨e,trivial⟩ fun xs r h=>by
 unfold gToS at h
 split at h
 ·rename_i hs
  cases h
  have hlen:=totals_len xs
  refine⟨xs.length+1,?_⟩
  unfold l_toFormulaS.main
  rw[mk_nat (by omega),Option.bind_some]
  refine Eq.trans (iter_rule (body:=fun v nx=>l_toFormulaS.b3 ⟨gTo k⟩ (xs.length+1) v.1 v.2.1 v.2.2 (fun y0 y1 y2=>nx (y0,y1,y2)) (fun h=>some (AT.one (.l (.n 2) h),([]:List Ob)))) (Q:=fun v=>v.1=xs/\0<=v.2.1/\v.2.1<=xs.length/\v.2.2.length=xs.length/\v.2.2.take v.2.1.toNat=xs.take v.2.1.toNat) (μ:=fun v=>(xs.length-v.2.1).toNat) (f:=fun _=>some (AT.one (.l (.n 2) xs),[])) ?_ (xs.length+1) (xs,0,_) ⟨rfl,by simp,by simp,by simp,by simp⟩ (by simp)) rfl
  rintro⟨a,i,h⟩ nx ⟨e0,q0,q1,q2,q3⟩ ih
  simp only at e0 q0 q1 q2 q3 ih ⊢
  subst e0
  unfold l_toFormulaS.b3
  by_cases hi:i<(List.length a:Int)
  ·obtain⟨x,x1,x2,_,x4⟩:=drop_step q0 hi
   obtain⟨y,y1⟩:=ix_len (a:=h) q0 (by omega)
   rw[decide_eq_true hi,cond_true,x1,Option.bind_some,Fm.eta]
   show Option.bind (gTo k x) _=_
   have e:gTo k x=some x:=if_pos (by have:=totals_mem x2;omega)
   rw[e,Option.bind_some,y1,Option.bind_some,wr_in (x:=i+1) (by omega),Fm.eta]
   obtain⟨s1,s2⟩:=set_take q0 hi q2 q3 x4
   exact ih (a,i+1,_) ⟨rfl,by simp only;omega,by simp only;omega,s1,s2⟩ (by simp only;omega)
  ·rw[decide_eq_false hi,cond_false,full_take hi q2 q3]
 ·cases h
theorem toF_ok :∀k,k<=2097152->EntOK Tryd.prog (l_toFormula.ent (gTo k))
 | 0, _ => by
  intro R xs H K r h
  simp only[l_toFormula.ent]at h
  split at h
  ·cases h
  ·cases h
 | k + 1, hk => l_toFormula.ok (G := ⟨gToS (k + 1)⟩) ⟨toS_ok k (by omega) (toF_ok k (by omega)), trivial⟩ fun f r h => by
  unfold gTo at h
  split at h
  ·rename_i hs
   cases h
   refine⟨1,?_⟩
   unfold l_toFormula.main
   have e:gToS (k+1) f.kids=some f.kids:=if_pos (by rw[<-total_kids];exact hs)
   show Option.bind (gToS (k+1) f.kids) _=_
   rw[e]
   rfl
  ·cases h
noncomputable def gEqF (k:Nat):Fm->Fm->Option Bool:=fun f g=>if f=g/\f.total<k then some true else none
noncomputable def gEqS (k:Nat):List Fm->List Fm->Option Bool:=fun f g=>if f=g/\totals f<k then some true else none
theorem eqS_ok (k:Nat) (hk:k<=2097152) (e:EntOK Tryd.prog (l_eqFormula.ent (gEqF k))):EntOK Tryd.prog (l_eqFormulaS.ent (gEqS (k+1))):=l_eqFormulaS.ok (G:=⟨gEqF k⟩) ⟨e,trivial⟩ fun xs ys r h=>by
 unfold gEqS at h
 split at h
 ·rename_i hs
  obtain⟨hxy,hs⟩:=hs
  subst hxy
  cases h
  have hlen:=totals_len xs
  refine⟨xs.length+1,?_⟩
  unfold l_eqFormulaS.main
  rw[decide_eq_true rfl,Bool.not_true,cond_false]
  refine Eq.trans (iter_rule (body:=fun v nx=>l_eqFormulaS.b4 ⟨gEqF k⟩ (xs.length+1) v.1 v.2.1 v.2.2 (fun y0 y1 y2=>nx (y0,y1,y2)) (fun t=>some (AT.one (.b t),([]:List Ob))) (some (AT.one (.b true),[]))) (Q:=fun v=>v.1=xs/\v.2.1=xs/\0<=v.2.2/\v.2.2<=xs.length) (μ:=fun v=>(xs.length-v.2.2).toNat) (f:=fun _=>some (AT.one (.b true),[])) ?_ (xs.length+1) (xs,xs,0) ⟨rfl,rfl,by simp,by simp⟩ (by simp)) rfl
  rintro⟨a,b,i⟩ nx ⟨e1,e0,q0,q1⟩ ih
  simp only at e1 e0 q0 q1 ih ⊢
  subst e1
  subst e0
  unfold l_eqFormulaS.b4
  by_cases hi:i<(List.length b:Int)
  ·obtain⟨x,x1,x2,_,x4⟩:=drop_step q0 hi
   rw[decide_eq_true hi,cond_true,x1,Option.bind_some,Option.bind_some,Fm.eta]
   show Option.bind (gEqF k x x) _=_
   have e:gEqF k x x=some true:=if_pos ⟨rfl,by have:=totals_mem x2;omega⟩
   rw[e,Option.bind_some,Bool.not_true,cond_false,wr_in (x:=i+1) (by omega)]
   exact ih (b,b,i+1) ⟨rfl,rfl,by simp only;omega,by simp only;omega⟩ (by simp only;omega)
  ·rw[decide_eq_false hi,cond_false]
 ·cases h
theorem eqF_ok :∀k,k<=2097152->EntOK Tryd.prog (l_eqFormula.ent (gEqF k))
 | 0, _ => by
  intro R xs H K r h
  simp only[l_eqFormula.ent]at h
  split at h
  ·simp[gEqF]at h
  ·cases h
 | k + 1, hk => l_eqFormula.ok (G := ⟨gEqS (k + 1)⟩) ⟨eqS_ok k (by omega) (eqF_ok k (by omega)), trivial⟩ fun f g r h => by
  unfold gEqF at h
  split at h
  ·rename_i hs
   obtain⟨hxy,hs⟩:=hs
   subst hxy
   cases h
   refine⟨1,?_⟩
   unfold l_eqFormula.main
   have e:gEqS (k+1) f.kids f.kids=some true:=if_pos ⟨rfl,by rw[<-total_kids];exact hs⟩
   rw[decide_eq_true rfl,decide_eq_true rfl,Bool.not_true,cond_false,cond_false]
   show Option.bind (gEqS (k+1) f.kids f.kids) _=_
   rw[e]
   rfl
  ·cases h
noncomputable def gSz (k:Int):Fm->Int->Option Int:=fun f left=>if Fit (.n 2) f/\0<=left/\left<=k then some (if ((Fm.total f:Nat):Int)<=left then left-(Fm.total f:Nat)else (-1:Int))else none
noncomputable def gSzS (k:Int):List Fm->Int->Option Int:=fun l left=>if FitC (.l (.n 2) l)/\0<=left/\left<=k then some (if ((totals l:Nat):Int)<=left then left-(totals l:Nat)else (-1:Int))else none
section
variable {R : Type}
theorem sz_loop (n:Nat) (k:Int) (xs:List Fm) (hf:FitC (.l (.n 2) xs)) (hl:xs.length<=2097152) (k0 k1:Int->Option R):∀m (L i:Int),0<=L->L<=k->0<=i->i<=xs.length->(xs.length-i).toNat<m->
  l_szFormulaS.l5 ⟨gSz k⟩ n m xs L i k0 k1=if ((((xs.drop i.toNat).map Fm.total).sum:Nat):Int)<=L then k1 (L-(((xs.drop i.toNat).map Fm.total).sum:Nat))else k0 (-1):=by
 intro m
 induction m with
 |zero=>intro L i _ _ _ _ hm;omega
 | succ m ih =>
  intro L i l0 l1 q0 q1 hm
  show l_szFormulaS.b5 ⟨gSz k⟩ n xs L i (fun y0 y1 y2=>l_szFormulaS.l5 ⟨gSz k⟩ n m y0 y1 y2 k0 k1) k0 k1=_
  unfold l_szFormulaS.b5
  by_cases hi:i<(xs.length:Int)
  ·obtain⟨x,x1,x2,x3,_⟩:=drop_step q0 hi
   rw[decide_eq_true hi,cond_true,x1,Option.bind_some,Fm.eta,x3,List.map_cons,List.sum_cons]
   show Option.bind (gSz k x L) _=_
   have e:gSz k x L=some (if ((Fm.total x:Nat):Int)<=L then L-(Fm.total x:Nat)else (-1:Int)):=if_pos ⟨hf.mem x x2,l0,l1⟩
   rw[e,Option.bind_some]
   by_cases c:((Fm.total x:Nat):Int)<=L
   ·rw[if_pos c,decide_eq_false (by omega),cond_false,wr_in (x:=i+1) (by omega)]
    refine(ih _ (i+1) (by omega) (by omega) (by omega) (by omega) (by omega)).trans ?_
    by_cases c2:((((xs.drop (i+1).toNat).map Fm.total).sum:Nat):Int)<=L-(Fm.total x:Nat)
    ·rw[if_pos c2,if_pos (by omega)]
     congr 1
     omega
    ·rw[if_neg c2,if_neg (by omega)]
   ·rw[if_neg c,decide_eq_true (by omega),cond_true,if_neg (by omega)]
  ·rw[decide_eq_false hi,cond_false,drop_all hi,List.map_nil,List.sum_nil,if_pos (by omega)]
   congr 1
   omega
end
theorem sz_nil {R:Type} (G:l_szFormulaS.Gs) (n m:Nat) (L:Int) (k0 k1:Int->Option R):l_szFormulaS.l5 G n (m+1) [] L 0 k0 k1=k1 L:=by
 show l_szFormulaS.b5 G n [] L 0 (fun y0 y1 y2=>l_szFormulaS.l5 G n m y0 y1 y2 k0 k1) k0 k1=_
 unfold l_szFormulaS.b5
 rw[decide_eq_false (by simp),cond_false]
theorem szS_ok (k:Int) (hk:k<=2097151) (e:EntOK Tryd.prog (l_szFormula.ent (gSz k))):EntOK Tryd.prog (l_szFormulaS.ent (gSzS (k+1))):=l_szFormulaS.ok (G:=⟨gSz k⟩) ⟨e,trivial⟩ fun xs left r h=>by
 unfold gSzS at h
 split at h
 ·rename_i hs
  obtain⟨hf,h0,h1⟩:=hs
  cases h
  have hlen:xs.length<=9223372036854775807:=hf.len
  have ht:=totals_len xs
  refine⟨xs.length+1,?_⟩
  unfold l_szFormulaS.main
  rw[wr_in (x:=left-(xs.length:Int)) (by omega)]
  by_cases c:(xs.length:Int)<=left
  ·rw [decide_eq_false (by omega), cond_false]
   rcases Nat.eq_zero_or_pos xs.length with hz|hp
   ·have:xs=[]:=List.eq_nil_of_length_eq_zero hz
    subst this
    rw[totals_nil,if_pos (by omega)]
    simp only[List.length_nil]
    rw[sz_nil]
   ·rw[sz_loop _ k xs hf (by omega) _ _ _ _ 0 (by omega) (by omega) (by omega) (by omega) (by omega)]
    simp only[Int.toNat_zero,List.drop_zero]
    have hT:totals xs=xs.length+(xs.map Fm.total).sum:=rfl
    by_cases c2:(((xs.map Fm.total).sum:Nat):Int)<=left-xs.length
    ·rw[if_pos c2,if_pos (by omega)]
     congr 4
     omega
    ·rw[if_neg c2,if_neg (by omega)]
  ·rw[decide_eq_true (by omega),cond_true,if_neg (by omega)]
 ·cases h
theorem szF_ok :∀k:Nat,k<=2097152->EntOK Tryd.prog (l_szFormula.ent (gSz ((k:Int)-1)))
 | 0, _ => by
  intro R xs H K r h
  simp only[l_szFormula.ent]at h
  split at h
  ·rename_i a b c d
   have:gSz (((0:Nat):Int)-1) ⟨a,b,c⟩ d=none:=if_neg (by omega)
   rw[this]at h
   cases h
  ·cases h
 | k + 1, hk => l_szFormula.ok (G := ⟨gSzS (k : Int)⟩) ⟨by have := szS_ok ((k : Int) - 1) (by omega) (szF_ok k (by omega)); rwa [show (k : Int) - 1 + 1 = k by omega] at this, trivial⟩ fun f left r h => by
  unfold gSz at h
  split at h
  ·rename_i hs
   obtain⟨hf,h0,h1⟩:=hs
   cases h
   refine⟨1,?_⟩
   unfold l_szFormula.main
   have e:gSzS (k:Int) f.kids left=some (if ((totals f.kids:Nat):Int)<=left then left-(totals f.kids:Nat)else (-1:Int)):=if_pos ⟨fit_kids hf,h0,by omega⟩
   show Option.bind (gSzS (k:Int) f.kids left) _=_
   rw[e,Option.bind_some,total_kids]
   by_cases c:((totals f.kids:Nat):Int)<=left
   ·rw[if_pos c,decide_eq_false (by omega)];rfl
   ·rw[if_neg c];rfl
  ·cases h
end Go.Proofs.YtjafncnjefnloaaDoor.Den

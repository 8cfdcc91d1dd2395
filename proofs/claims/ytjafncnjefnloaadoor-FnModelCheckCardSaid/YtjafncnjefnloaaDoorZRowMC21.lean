import Derived.Test.YtjafncnjefnloaaDoorZRowMC11
namespace Go.Proofs.YtjafncnjefnloaaDoor.Den
open Go.RowKit
set_option maxRecDepth 100000
set_option linter.unusedVariables false
namespace i_temporalParts_f1
structure Gs where
 i_formulaText:Fm->Option (ByteArray)
noncomputable def ents (G:Gs):List Ent:=[i_formulaText.ent G.i_formulaText]
noncomputable def main {R:Type} (G:Gs) (n:Nat) (h:Fm) (c0:Fm) (K:Bool->Option R):Option R:=
 Option.bind (G.i_formulaText (Fm.mk (Fm.kind h) (Fm.prop h) (Fm.kids h))) fun r2=>
 Option.bind (G.i_formulaText (Fm.mk (Fm.kind c0) (Fm.prop c0) (Fm.kids c0))) fun r4=>
 K (sEq r2 r4)
noncomputable def pc (_:Gs) (_:Nat):Pcs:=⟨fun _ _ _ _=>none,fun _ _ _ _=>none,fun _ _ _ _=>none⟩
noncomputable def an:Ann:=⟨9,1,[],[],[3],[(1,⟨[([0,1,2,3,4,5],[],[])],[],[],[0,1],[]⟩)],[]⟩
noncomputable abbrev bd:=bodyOf Tryd.f108
noncomputable def Does (G:Gs) (h:Fm) (c0:Fm) (r:Bool):Prop:=∃n,main (R:=AT×List Ob) G n h c0 (fun r0=>some (.one (.b r0),[.box [.i (Fm.kind c0),.i (Fm.prop c0),.l (.n 2) (Fm.kids c0)]]))=some (.one (.b r),[.box [.i (Fm.kind c0),.i (Fm.prop c0),.l (.n 2) (Fm.kids c0)]])
theorem ok {G:Gs} (hG:AllE Tryd.prog (ents G)) {g:Fm->Fm->Option (Bool)} (hg:∀h c0 r,g h c0=some r->Does G h c0 r):EntOK Tryd.prog (ent g):=fun R xs H K r hc=>by
 simp only[ent]at hc
 split at hc
 ·obtain⟨r,j1,j2⟩:=bind_some hc
  obtain⟨n,j3⟩:=hg _ _ _ j1
  exact⟨_,_,j2,fnP hG an (pc G n) bd [.tmp 3] Tryd.func108 (.inl rfl) (apl [] trivial) (.trans (by kernel_rfl) j3)⟩
 ·cases hc
end i_temporalParts_f1
namespace slices_IndexFunc_tp
structure Gs where
 i_temporalParts_f1:Fm->Fm->Option (Bool)
noncomputable def ents (G:Gs):List Ent:=[i_temporalParts_f1.ent G.i_temporalParts_f1]
noncomputable def b2 {R:Type} (G:Gs) (n:Nat) (s:List Fm) (fc:Fm) (t7:Int) (t8:Int) (nx:Int->Option R) (k0:Int->Option R) (k1:Option R):Option R:=
 bif decide (t8<t7)then
  (
  Option.bind (ix s t8) fun e=>
  Option.bind (G.i_temporalParts_f1 (Fm.mk (Fm.kind e) (Fm.prop e) (Fm.kids e)) (Fm.mk (Fm.kind fc) (Fm.prop fc) (Fm.kids fc))) fun r=>
  bif r then
   (k0 t8)
  else
   nx (wr (t8+1))
  )
 else
  k1
noncomputable def l2 {R:Type} (G:Gs) (n m:Nat) (s:List Fm) (fc:Fm) (t7:Int) (t8:Int) (k0:Int->Option R) (k1:Option R):Option R:=iter (fun(v:Int) nx=>b2 G n s fc t7 v (fun y0=>nx y0) k0 k1) m t8
noncomputable def main {R:Type} (G:Gs) (n:Nat) (s:List Fm) (fc:Fm) (K:Int->Option R):Option R:=
 l2 G n n s fc (List.length s:Int) 0
  (fun t4=>K t4)
  (K (-1))
noncomputable def dl2 (G:Gs) (n m:Nat) (R:Type) (st:St) (K:Kt R):Option R:=match st with
 |⟨[(0,.one (.o 0)),(1,.one (.f 108 [.p 1 0])),(7,.one (.i t7)),(8,.one (.i t8))],[.row (.n 2) 0 s,.box [.i fc_0,.i fc_1,.l (.n 2) fc_2]]⟩=>l2 G n m s (Fm.mk fc_0 fc_1 fc_2) t7 t8 (fun t4=>K .ret ⟨[(4,.one (.i t4))],[.row (.n 2) 0 s,.box [.i fc_0,.i fc_1,.l (.n 2) fc_2]]⟩) (K (.exit 0) ⟨[],[.row (.n 2) 0 s,.box [.i fc_0,.i fc_1,.l (.n 2) fc_2]]⟩)
 |_=>none
noncomputable def pc (G:Gs) (n:Nat):Pcs:=⟨fun R id st K=>bif Nat.beq id 2 then dl2 G n n R st K else none,fun _ _ _ _=>none,fun _ _ _ _=>none⟩
noncomputable def an:Ann:=⟨19,2,[(2,[0,1,7,8])],[],[4],[],[]⟩
noncomputable abbrev bd:=bodyOf Tryd.f115
noncomputable abbrev q2:=nthC [1,0,1,0,0] bd
theorem pl2 {G:Gs} (hG:AllE Tryd.prog (ents G)) (n:Nat):∀m,PieceOK Tryd.prog an (.loop q2) (dl2 G n m):=lpc hG (pc G n) [0,1,7,8] ⟨[],[4],[(0,[])]⟩ (apl [] trivial) (fun R st K=>by unfold dl2;split<;>rfl) fun m R st K r h=>by unfold dl2 at h;split at h;exact .trans (by kernel_rfl) h;cases h
noncomputable def Does (G:Gs) (s:List Fm) (fc:Fm) (r:Int):Prop:=∃n,main (R:=AT×List Ob) G n s fc (fun r0=>some (.one (.i r0),[.row (.n 2) 0 s,.box [.i (Fm.kind fc),.i (Fm.prop fc),.l (.n 2) (Fm.kids fc)]]))=some (.one (.i r),[.row (.n 2) 0 s,.box [.i (Fm.kind fc),.i (Fm.prop fc),.l (.n 2) (Fm.kids fc)]])
theorem ok {G:Gs} (hG:AllE Tryd.prog (ents G)) {g:List Fm->Fm->Option (Int)} (hg:∀s fc r,g s fc=some r->Does G s fc r):EntOK Tryd.prog (ent g):=fun R xs H K r hc=>by
 simp only[ent]at hc
 split at hc
 ·obtain⟨r,j1,j2⟩:=bind_some hc
  obtain⟨n,j3⟩:=hg _ _ _ j1
  exact⟨_,_,j2,fnP hG an (pc G n) bd [.tmp 4] Tryd.func115 (.inl rfl) (apl [(1,2,.loop q2)] ⟨pl2 hG n n,trivial⟩) (.trans (by kernel_rfl) j3)⟩
 ·cases hc
end slices_IndexFunc_tp
namespace slices_ContainsFunc_tp
structure Gs where
 slices_IndexFunc_tp:List Fm->Fm->Option (Int)
noncomputable def ents (G:Gs):List Ent:=[slices_IndexFunc_tp.ent G.slices_IndexFunc_tp]
noncomputable def main {R:Type} (G:Gs) (n:Nat) (s:List Fm) (fc:Fm) (K:Bool->Option R):Option R:=
 Option.bind (G.slices_IndexFunc_tp s (Fm.mk (Fm.kind fc) (Fm.prop fc) (Fm.kids fc))) fun r=>
 K (decide (0<=r))
noncomputable def pc (_:Gs) (_:Nat):Pcs:=⟨fun _ _ _ _=>none,fun _ _ _ _=>none,fun _ _ _ _=>none⟩
noncomputable def an:Ann:=⟨9,2,[],[],[4],[],[]⟩
noncomputable abbrev bd:=bodyOf Tryd.f109
noncomputable def Does (G:Gs) (s:List Fm) (fc:Fm) (r:Bool):Prop:=∃n,main (R:=AT×List Ob) G n s fc (fun r0=>some (.one (.b r0),[.row (.n 2) 0 s,.box [.i (Fm.kind fc),.i (Fm.prop fc),.l (.n 2) (Fm.kids fc)]]))=some (.one (.b r),[.row (.n 2) 0 s,.box [.i (Fm.kind fc),.i (Fm.prop fc),.l (.n 2) (Fm.kids fc)]])
theorem ok {G:Gs} (hG:AllE Tryd.prog (ents G)) {g:List Fm->Fm->Option (Bool)} (hg:∀s fc r,g s fc=some r->Does G s fc r):EntOK Tryd.prog (ent g):=fun R xs H K r hc=>by
 simp only[ent]at hc
 split at hc
 ·obtain⟨r,j1,j2⟩:=bind_some hc
  obtain⟨n,j3⟩:=hg _ _ _ j1
  exact⟨_,_,j2,fnP hG an (pc G n) bd [.tmp 4] Tryd.func109 (.inl rfl) (apl [] trivial) (.trans (by kernel_rfl) j3)⟩
 ·cases hc
end slices_ContainsFunc_tp
namespace i_temporalParts_o
structure Gs where
 i_temporalParts_o:Fm->List Fm->Option (List Fm)
 slices_ContainsFunc_tp:List Fm->Fm->Option (Bool)
noncomputable def ents (G:Gs):List Ent:=[ent G.i_temporalParts_o,slices_ContainsFunc_tp.ent G.slices_ContainsFunc_tp]
noncomputable def b2 {R:Type} (G:Gs) (n:Nat) (t9:List Fm) (t10:Int) (h2:Int) (h22:Int) (h23:List Fm) (t11:Int) (h1:List Fm) (nx:Int->List Fm->Option R) (k0:List Fm->Option R):Option R:=
 bif decide (t11<t10)then
  (
  Option.bind (ix t9 t11) fun e=>
  Option.bind (G.i_temporalParts_o (Fm.mk (Fm.kind e) (Fm.prop e) (Fm.kids e)) h1) fun r=>
  nx (wr (t11+1)) r
  )
 else
  k0 h1
noncomputable def l2 {R:Type} (G:Gs) (n m:Nat) (t9:List Fm) (t10:Int) (h2:Int) (h22:Int) (h23:List Fm) (t11:Int) (h1:List Fm) (k0:List Fm->Option R):Option R:=iter (fun(v:Int×List Fm) nx=>b2 G n t9 t10 h2 h22 h23 v.1 v.2 (fun y0 y1=>nx (y0,y1)) k0) m (t11,h1)
noncomputable def c8 {R:Type} (G:Gs) (n:Nat) (h1:List Fm) (h2:Int) (h22:Int) (h23:List Fm) (k0:List Fm->Option R):Option R:=
 Option.bind (lim (h1++[(Fm.mk h2 h22 h23)])) fun zs=>
 k0 zs
noncomputable def main {R:Type} (G:Gs) (n:Nat) (f:Fm) (out:List Fm) (K:List Fm->Option R):Option R:=
 l2 G n n (Fm.kids f) (List.length (Fm.kids f) : Int) (Fm.kind f) (Fm.prop f) (Fm.kids f) 0 out
  (fun h12 =>
   bif decide ((Fm.kind f)=6)then
    (
    Option.bind (G.slices_ContainsFunc_tp h12 (Fm.mk (Fm.kind f) (Fm.prop f) (Fm.kids f))) fun r=>
    bif !r then
     (
     c8 G n h12 (Fm.kind f) (Fm.prop f) (Fm.kids f)
      (fun h122=>K h122)
     )
    else
     K h12
    )
   else
    bif decide ((Fm.kind f)=7)then
     (
     Option.bind (G.slices_ContainsFunc_tp h12 (Fm.mk (Fm.kind f) (Fm.prop f) (Fm.kids f))) fun r2=>
     bif !r2 then
      (
      c8 G n h12 (Fm.kind f) (Fm.prop f) (Fm.kids f)
       (fun h123=>K h123)
      )
     else
      K h12
     )
    else
     K h12
  )
noncomputable def dl2 (G:Gs) (n m:Nat) (R:Type) (st:St) (K:Kt R):Option R:=match st with
 |⟨[(1,.one (.o 1)),(2,.one (.p 2 0)),(9,.one (.l (.n 2) t9)),(10,.one (.i t10)),(11,.one (.i t11))],[.gone,.row (.n 2) 0 h1,.box [.i h2,.i h22,.l (.n 2) h23]]⟩=>l2 G n m t9 t10 h2 h22 h23 t11 h1 (fun h12=>K (.exit 0) ⟨[(1,.one (.o 1)),(2,.one (.p 2 0))],[.gone,.row (.n 2) 0 h12,.box [.i h2,.i h22,.l (.n 2) h23]]⟩)
 |_=>none
noncomputable def dc8 (G:Gs) (n:Nat) (R:Type) (st:St) (K:Kt R):Option R:=match st with
 |⟨[(1,.one (.o 1)),(2,.one (.p 2 0))],[.gone,.row (.n 2) 0 h1,.box [.i h2,.i h22,.l (.n 2) h23]]⟩=>c8 G n h1 h2 h22 h23 (fun h12=>K .normal ⟨[(1,.one (.o 1))],[.gone,.row (.n 2) 0 h12]⟩)
 |_=>none
noncomputable def pc (G:Gs) (n:Nat):Pcs:=⟨fun R id st K=>bif Nat.beq id 2 then dl2 G n n R st K else none,fun R id st K=>bif Nat.beq id 8 then dc8 G n R st K else none,fun _ _ _ _=>none⟩
noncomputable def an:Ann:=⟨39,1,[(2,[1,2,9,10,11])],[(8,[1,2])],[4],[],[]⟩
noncomputable abbrev bd:=bodyOf Tryd.f82
noncomputable abbrev q2:=nthC [1,0,1,0,0] bd
noncomputable abbrev q8:=nthC [1,1,1,0,1,0] bd
theorem pl2 {G:Gs} (hG:AllE Tryd.prog (ents G)) (n:Nat):∀m,PieceOK Tryd.prog an (.loop q2) (dl2 G n m):=lpc hG (pc G n) [1,2,9,10,11] ⟨[1,2],[4],[(0,[1,2])]⟩ (apl [] trivial) (fun R st K=>by unfold dl2;split<;>rfl) fun m R st K r h=>by unfold dl2 at h;split at h;exact .trans (by kernel_rfl) h;cases h
theorem pc8 {G:Gs} (hG:AllE Tryd.prog (ents G)) {n:Nat}:PieceOK Tryd.prog an q8 (dc8 G n):=cpc hG (pc G n) ⟨[1],[4],[]⟩ (apl [] trivial) fun R st K r h=>by unfold dc8 at h;split at h;exact .trans (by kernel_rfl) h;cases h
noncomputable def Does (G:Gs) (f:Fm) (out:List Fm) (r:List Fm):Prop:=∃n,main (R:=AT×List Ob) G n f out (fun r0=>some (.one (.o 1),[.gone,.row (.n 2) 0 r0]))=some (.one (.o 1),[.gone,.row (.n 2) 0 r])
theorem ok {G:Gs} (hG:AllE Tryd.prog (ents G)) {g:Fm->List Fm->Option (List Fm)} (hg:∀f out r,g f out=some r->Does G f out r):EntOK Tryd.prog (ent g):=fun R xs H K r hc=>by
 simp only[ent]at hc
 split at hc
 ·rename_i a a2 a3 h;obtain⟨r,j1,j2⟩:=bind_some hc
  obtain⟨n,j3⟩:=hg _ _ _ j1
  exact⟨_,_,j2,fnR hG an (pc G n) bd [.tmp 4] [0] (xs2:=[.agg [.i a,.i a2,.l (.n 2) a3],.one (.o 1)]) (H2:=[.gone,.row (.n 2) 0 h]) Tryd.func82 (.inr rfl) (apl [(1,2,.loop q2),(0,8,q8)] ⟨pl2 hG n n,⟨pc8 hG,trivial⟩⟩) (.trans (by kernel_rfl) j3)⟩
 ·cases hc
end i_temporalParts_o
namespace i_temporalParts
structure Gs where
 i_temporalParts_o:Fm->List Fm->Option (List Fm)
 slices_ContainsFunc_tp:List Fm->Fm->Option (Bool)
noncomputable def ents (G:Gs):List Ent:=[i_temporalParts_o.ent G.i_temporalParts_o,slices_ContainsFunc_tp.ent G.slices_ContainsFunc_tp]
noncomputable def b2 {R:Type} (G:Gs) (n:Nat) (t9:List Fm) (t10:Int) (h2:Int) (h22:Int) (h23:List Fm) (t11:Int) (h1:List Fm) (nx:Int->List Fm->Option R) (k0:List Fm->Option R):Option R:=
 bif decide (t11<t10)then
  (
  Option.bind (ix t9 t11) fun e=>
  Option.bind (G.i_temporalParts_o (Fm.mk (Fm.kind e) (Fm.prop e) (Fm.kids e)) h1) fun r=>
  nx (wr (t11+1)) r
  )
 else
  k0 h1
noncomputable def l2 {R:Type} (G:Gs) (n m:Nat) (t9:List Fm) (t10:Int) (h2:Int) (h22:Int) (h23:List Fm) (t11:Int) (h1:List Fm) (k0:List Fm->Option R):Option R:=iter (fun(v:Int×List Fm) nx=>b2 G n t9 t10 h2 h22 h23 v.1 v.2 (fun y0 y1=>nx (y0,y1)) k0) m (t11,h1)
noncomputable def c8 {R:Type} (G:Gs) (n:Nat) (h1:List Fm) (h2:Int) (h22:Int) (h23:List Fm) (k0:List Fm->Option R):Option R:=
 Option.bind (lim (h1++[(Fm.mk h2 h22 h23)])) fun zs=>
 k0 zs
noncomputable def main {R:Type} (G:Gs) (n:Nat) (f:Fm) (out:List Fm) (K:List Fm->Option R):Option R:=
 l2 G n n (Fm.kids f) (List.length (Fm.kids f) : Int) (Fm.kind f) (Fm.prop f) (Fm.kids f) 0 out
  (fun h12 =>
   bif decide ((Fm.kind f)=6)then
    (
    Option.bind (G.slices_ContainsFunc_tp h12 (Fm.mk (Fm.kind f) (Fm.prop f) (Fm.kids f))) fun r=>
    bif !r then
     (
     c8 G n h12 (Fm.kind f) (Fm.prop f) (Fm.kids f)
      (fun h122=>K h122)
     )
    else
     K h12
    )
   else
    bif decide ((Fm.kind f)=7)then
     (
     Option.bind (G.slices_ContainsFunc_tp h12 (Fm.mk (Fm.kind f) (Fm.prop f) (Fm.kids f))) fun r2=>
     bif !r2 then
      (
      c8 G n h12 (Fm.kind f) (Fm.prop f) (Fm.kids f)
       (fun h123=>K h123)
      )
     else
      K h12
     )
    else
     K h12
  )
noncomputable def dl2 (G:Gs) (n m:Nat) (R:Type) (st:St) (K:Kt R):Option R:=match st with
 |⟨[(1,.one (.o 1)),(2,.one (.p 2 0)),(9,.one (.l (.n 2) t9)),(10,.one (.i t10)),(11,.one (.i t11))],[.gone,.row (.n 2) 0 h1,.box [.i h2,.i h22,.l (.n 2) h23]]⟩=>l2 G n m t9 t10 h2 h22 h23 t11 h1 (fun h12=>K (.exit 0) ⟨[(1,.one (.o 1)),(2,.one (.p 2 0))],[.gone,.row (.n 2) 0 h12,.box [.i h2,.i h22,.l (.n 2) h23]]⟩)
 |_=>none
noncomputable def dc8 (G:Gs) (n:Nat) (R:Type) (st:St) (K:Kt R):Option R:=match st with
 |⟨[(1,.one (.o 1)),(2,.one (.p 2 0))],[.gone,.row (.n 2) 0 h1,.box [.i h2,.i h22,.l (.n 2) h23]]⟩=>c8 G n h1 h2 h22 h23 (fun h12=>K .normal ⟨[(1,.one (.o 1))],[.gone,.row (.n 2) 0 h12]⟩)
 |_=>none
noncomputable def pc (G:Gs) (n:Nat):Pcs:=⟨fun R id st K=>bif Nat.beq id 2 then dl2 G n n R st K else none,fun R id st K=>bif Nat.beq id 8 then dc8 G n R st K else none,fun _ _ _ _=>none⟩
noncomputable def an:Ann:=⟨39,1,[(2,[1,2,9,10,11])],[(8,[1,2])],[4],[],[]⟩
noncomputable abbrev bd:=bodyOf Tryd.f82
noncomputable abbrev q2:=nthC [1,0,1,0,0] bd
noncomputable abbrev q8:=nthC [1,1,1,0,1,0] bd
theorem pl2 {G:Gs} (hG:AllE Tryd.prog (ents G)) (n:Nat):∀m,PieceOK Tryd.prog an (.loop q2) (dl2 G n m):=lpc hG (pc G n) [1,2,9,10,11] ⟨[1,2],[4],[(0,[1,2])]⟩ (apl [] trivial) (fun R st K=>by unfold dl2;split<;>rfl) fun m R st K r h=>by unfold dl2 at h;split at h;exact .trans (by kernel_rfl) h;cases h
theorem pc8 {G:Gs} (hG:AllE Tryd.prog (ents G)) {n:Nat}:PieceOK Tryd.prog an q8 (dc8 G n):=cpc hG (pc G n) ⟨[1],[4],[]⟩ (apl [] trivial) fun R st K r h=>by unfold dc8 at h;split at h;exact .trans (by kernel_rfl) h;cases h
noncomputable def Does (G:Gs) (f:Fm) (out:List Fm) (r:List Fm):Prop:=∃n,main (R:=AT×List Ob) G n f out (fun r0=>some (.one (.l (.n 2) r0),[.gone]))=some (.one (.l (.n 2) r),[.gone])
theorem ok {G:Gs} (hG:AllE Tryd.prog (ents G)) {g:Fm->List Fm->Option (List Fm)} (hg:∀f out r,g f out=some r->Does G f out r):EntOK Tryd.prog (ent g):=fun R xs H K r hc=>by
 simp only[ent]at hc
 split at hc
 ·rename_i a a2 a3 h;obtain⟨r,j1,j2⟩:=bind_some hc
  obtain⟨n,j3⟩:=hg _ _ _ j1
  exact⟨_,_,j2,fnR hG an (pc G n) bd [.tmp 4] [0] (xs2:=[.agg [.i a,.i a2,.l (.n 2) a3],.one (.o 1)]) (H2:=[.gone,.row (.n 2) 0 h]) Tryd.func82 (.inl rfl) (apl [(1,2,.loop q2),(0,8,q8)] ⟨pl2 hG n n,⟨pc8 hG,trivial⟩⟩) (.trans (by kernel_rfl) j3)⟩
 ·cases hc
end i_temporalParts
namespace i_checkable
structure Gs where
 i_IsGraph:Gr->Option (Bool)
 i_labelsOK:List Int->Option (Bool)
 i_IsFormula:Fm->Option (Bool)
 i_temporalParts:Fm->List Fm->Option (List Fm)
noncomputable def ents (G:Gs):List Ent:=[i_IsGraph.ent G.i_IsGraph,i_labelsOK.ent G.i_labelsOK,i_IsFormula.ent G.i_IsFormula,i_temporalParts.ent G.i_temporalParts]
noncomputable def main {R:Type} (G:Gs) (n:Nat) (g:Gr) (labels:List Int) (f:Fm) (K:Bool->Option R):Option R:=
 Option.bind (G.i_IsGraph g) fun r=>
 bif r then
  (
  bif decide ((List.length labels:Int)=(List.length (Gr.states g):Int))then
   (
   Option.bind (G.i_labelsOK labels) fun r2=>
   bif r2 then
    (
    Option.bind (G.i_IsFormula (Fm.mk (Fm.kind f) (Fm.prop f) (Fm.kids f))) fun r3=>
    bif r3 then
     (
     Option.bind (G.i_temporalParts (Fm.mk (Fm.kind f) (Fm.prop f) (Fm.kids f)) []) fun r4=>
     K (decide ((List.length r4:Int)<=4))
     )
    else
     K false
    )
   else
    K false
   )
  else
   K false
  )
 else
  K false
noncomputable def pc (_:Gs) (_:Nat):Pcs:=⟨fun _ _ _ _=>none,fun _ _ _ _=>none,fun _ _ _ _=>none⟩
noncomputable def an:Ann:=⟨31,0,[],[],[6],[],[]⟩
noncomputable abbrev bd:=bodyOf Tryd.f46
noncomputable def Does (G:Gs) (g:Gr) (labels:List Int) (f:Fm) (r:Bool):Prop:=∃n,main (R:=AT×List Ob) G n g labels f (fun r0=>some (.one (.b r0),[]))=some (.one (.b r),[])
theorem ok {G:Gs} (hG:AllE Tryd.prog (ents G)) {g:Gr->List Int->Fm->Option (Bool)} (hg:∀g_ labels f r,g g_ labels f=some r->Does G g_ labels f r):EntOK Tryd.prog (ent g):=fun R xs H K r hc=>by
 simp only[ent]at hc
 split at hc
 ·obtain⟨r,j1,j2⟩:=bind_some hc
  obtain⟨n,j3⟩:=hg _ _ _ _ j1
  exact⟨_,_,j2,fnP hG an (pc G n) bd [.tmp 6] Tryd.func46 (.inl rfl) (apl [] trivial) (.trans (by kernel_rfl) j3)⟩
 ·cases hc
end i_checkable
namespace slices_Clip_intint_c
noncomputable abbrev bd:=bodyOf Tryd.f84
end slices_Clip_intint_c
namespace i_counterRun
noncomputable abbrev bd:=bodyOf Tryd.f47
noncomputable abbrev q4:=nthC [1,1,0,1,0,0,1,0,0] bd
noncomputable abbrev q14:=nthC [1,1,1,0,1,0,0,1,1,0,0,1,0] bd
noncomputable abbrev q12:=nthC [1,1,1,0,1,0,0] bd
end i_counterRun
namespace i_CounterRun
noncomputable abbrev bd:=bodyOf Tryd.f14
noncomputable abbrev q4:=nthC [1,1,0,1,0,0] bd
noncomputable abbrev q10:=nthC [1,1,1,0,1,0,0] bd
end i_CounterRun
end Go.Proofs.YtjafncnjefnloaaDoor.Den

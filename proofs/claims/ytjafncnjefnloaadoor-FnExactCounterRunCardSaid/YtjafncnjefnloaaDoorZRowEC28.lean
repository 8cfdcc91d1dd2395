import Derived.Test.YtjafncnjefnloaaDoorZRowEC14
namespace Go.Proofs.YtjafncnjefnloaaDoor.Den
open Go.RowKit
set_option maxRecDepth 100000
set_option linter.unusedVariables false
namespace i_temporalParts_f1
structure Gs where
 i_formulaText:Fm->Option (ByteArray)
noncomputable def ents (G:Gs):List Ent:=[i_formulaText.ent G.i_formulaText]
noncomputable def main {R:Type} (G:Gs) (n:Nat) (h:Fm) (c0:Fm) (K:Bool->Option R):Option R:=
 Option.bind (G.i_formulaText (Fm.mk (Fm.kind h) (Fm.prop h) (Fm.kids h))) fun r2=>
 Option.bind (G.i_formulaText (Fm.mk (Fm.kind c0) (Fm.prop c0) (Fm.kids c0))) fun r4=>
 K (sEq r2 r4)
noncomputable def pc (_:Gs) (_:Nat):Pcs:=⟨fun _ _ _ _=>none,fun _ _ _ _=>none,fun _ _ _ _=>none⟩
noncomputable def an:Ann:=⟨9,1,[],[],[3],[(1,⟨[([0,1,2,3,4,5],[],[])],[],[],[0,1],[]⟩)],[]⟩
noncomputable abbrev bd:=bodyOf Tryd.f108
noncomputable def Does (G:Gs) (h:Fm) (c0:Fm) (r:Bool):Prop:=∃n,main (R:=AT×List Ob) G n h c0 (fun r0=>some (.one (.b r0),[.box [.i (Fm.kind c0),.i (Fm.prop c0),.l (.n 2) (Fm.kids c0)]]))=some (.one (.b r),[.box [.i (Fm.kind c0),.i (Fm.prop c0),.l (.n 2) (Fm.kids c0)]])
theorem ok {G:Gs} (hG:AllE Tryd.prog (ents G)) {g:Fm->Fm->Option (Bool)} (hg:∀h c0 r,g h c0=some r->Does G h c0 r):EntOK Tryd.prog (ent g):=fun R xs H K r hc=>by
 simp only[ent]at hc
 split at hc
 ·obtain⟨r,j1,j2⟩:=bind_some hc
  obtain⟨n,j3⟩:=hg _ _ _ j1
  exact⟨_,_,j2,fnP hG an (pc G n) bd [.tmp 3] Tryd.func108 (.inl rfl) (apl [] trivial) (.trans (by kernel_rfl) j3)⟩
 ·cases hc
end i_temporalParts_f1
namespace slices_IndexFunc_tp
structure Gs where
 i_temporalParts_f1:Fm->Fm->Option (Bool)
noncomputable def ents (G:Gs):List Ent:=[i_temporalParts_f1.ent G.i_temporalParts_f1]
noncomputable def b2 {R:Type} (G:Gs) (n:Nat) (s:List Fm) (fc:Fm) (t7:Int) (t8:Int) (nx:Int->Option R) (k0:Int->Option R) (k1:Option R):Option R:=
 bif decide (t8<t7)then
  (
  Option.bind (ix s t8) fun e=>
  Option.bind (G.i_temporalParts_f1 (Fm.mk (Fm.kind e) (Fm.prop e) (Fm.kids e)) (Fm.mk (Fm.kind fc) (Fm.prop fc) (Fm.kids fc))) fun r=>
  bif r then
   (k0 t8)
  else
   nx (wr (t8+1))
  )
 else
  k1
noncomputable def l2 {R:Type} (G:Gs) (n m:Nat) (s:List Fm) (fc:Fm) (t7:Int) (t8:Int) (k0:Int->Option R) (k1:Option R):Option R:=iter (fun(v:Int) nx=>b2 G n s fc t7 v (fun y0=>nx y0) k0 k1) m t8
noncomputable def main {R:Type} (G:Gs) (n:Nat) (s:List Fm) (fc:Fm) (K:Int->Option R):Option R:=
 l2 G n n s fc (List.length s:Int) 0
  (fun t4=>K t4)
  (K (-1))
noncomputable def dl2 (G:Gs) (n m:Nat) (R:Type) (st:St) (K:Kt R):Option R:=match st with
 |⟨[(0,.one (.o 0)),(1,.one (.f 108 [.p 1 0])),(7,.one (.i t7)),(8,.one (.i t8))],[.row (.n 2) 0 s,.box [.i fc_0,.i fc_1,.l (.n 2) fc_2]]⟩=>l2 G n m s (Fm.mk fc_0 fc_1 fc_2) t7 t8 (fun t4=>K .ret ⟨[(4,.one (.i t4))],[.row (.n 2) 0 s,.box [.i fc_0,.i fc_1,.l (.n 2) fc_2]]⟩) (K (.exit 0) ⟨[],[.row (.n 2) 0 s,.box [.i fc_0,.i fc_1,.l (.n 2) fc_2]]⟩)
 |_=>none
noncomputable def pc (G:Gs) (n:Nat):Pcs:=⟨fun R id st K=>bif Nat.beq id 2 then dl2 G n n R st K else none,fun _ _ _ _=>none,fun _ _ _ _=>none⟩
noncomputable def an:Ann:=⟨19,2,[(2,[0,1,7,8])],[],[4],[],[]⟩
noncomputable abbrev bd:=bodyOf Tryd.f115
noncomputable abbrev q2:=nthC [1,0,1,0,0] bd
theorem pl2 {G:Gs} (hG:AllE Tryd.prog (ents G)) (n:Nat):∀m,PieceOK Tryd.prog an (.loop q2) (dl2 G n m):=lpc hG (pc G n) [0,1,7,8] ⟨[],[4],[(0,[])]⟩ (apl [] trivial) (fun R st K=>by unfold dl2;split<;>rfl) fun m R st K r h=>by unfold dl2 at h;split at h;exact .trans (by kernel_rfl) h;cases h
noncomputable def Does (G:Gs) (s:List Fm) (fc:Fm) (r:Int):Prop:=∃n,main (R:=AT×List Ob) G n s fc (fun r0=>some (.one (.i r0),[.row (.n 2) 0 s,.box [.i (Fm.kind fc),.i (Fm.prop fc),.l (.n 2) (Fm.kids fc)]]))=some (.one (.i r),[.row (.n 2) 0 s,.box [.i (Fm.kind fc),.i (Fm.prop fc),.l (.n 2) (Fm.kids fc)]])
theorem ok {G:Gs} (hG:AllE Tryd.prog (ents G)) {g:List Fm->Fm->Option (Int)} (hg:∀s fc r,g s fc=some r->Does G s fc r):EntOK Tryd.prog (ent g):=fun R xs H K r hc=>by
 simp only[ent]at hc
 split at hc
 ·obtain⟨r,j1,j2⟩:=bind_some hc
  obtain⟨n,j3⟩:=hg _ _ _ j1
  exact⟨_,_,j2,fnP hG an (pc G n) bd [.tmp 4] Tryd.func115 (.inl rfl) (apl [(1,2,.loop q2)] ⟨pl2 hG n n,trivial⟩) (.trans (by kernel_rfl) j3)⟩
 ·cases hc
end slices_IndexFunc_tp
namespace slices_ContainsFunc_tp
structure Gs where
 slices_IndexFunc_tp:List Fm->Fm->Option (Int)
noncomputable def ents (G:Gs):List Ent:=[slices_IndexFunc_tp.ent G.slices_IndexFunc_tp]
noncomputable def main {R:Type} (G:Gs) (n:Nat) (s:List Fm) (fc:Fm) (K:Bool->Option R):Option R:=
 Option.bind (G.slices_IndexFunc_tp s (Fm.mk (Fm.kind fc) (Fm.prop fc) (Fm.kids fc))) fun r=>
 K (decide (0<=r))
noncomputable def pc (_:Gs) (_:Nat):Pcs:=⟨fun _ _ _ _=>none,fun _ _ _ _=>none,fun _ _ _ _=>none⟩
noncomputable def an:Ann:=⟨9,2,[],[],[4],[],[]⟩
noncomputable abbrev bd:=bodyOf Tryd.f109
noncomputable def Does (G:Gs) (s:List Fm) (fc:Fm) (r:Bool):Prop:=∃n,main (R:=AT×List Ob) G n s fc (fun r0=>some (.one (.b r0),[.row (.n 2) 0 s,.box [.i (Fm.kind fc),.i (Fm.prop fc),.l (.n 2) (Fm.kids fc)]]))=some (.one (.b r),[.row (.n 2) 0 s,.box [.i (Fm.kind fc),.i (Fm.prop fc),.l (.n 2) (Fm.kids fc)]])
theorem ok {G:Gs} (hG:AllE Tryd.prog (ents G)) {g:List Fm->Fm->Option (Bool)} (hg:∀s fc r,g s fc=some r->Does G s fc r):EntOK Tryd.prog (ent g):=fun R xs H K r hc=>by
 simp only[ent]at hc
 split at hc
 ·obtain⟨r,j1,j2⟩:=bind_some hc
  obtain⟨n,j3⟩:=hg _ _ _ j1
  exact⟨_,_,j2,fnP hG an (pc G n) bd [.tmp 4] Tryd.func109 (.inl rfl) (apl [] trivial) (.trans (by kernel_rfl) j3)⟩
 ·cases hc
end slices_ContainsFunc_tp
namespace i_temporalParts_o
structure Gs where
 i_temporalParts_o:Fm->List Fm->Option (List Fm)
 slices_ContainsFunc_tp:List Fm->Fm->Option (Bool)
noncomputable def ents (G:Gs):List Ent:=[ent G.i_temporalParts_o,slices_ContainsFunc_tp.ent G.slices_ContainsFunc_tp]
noncomputable def b2 {R:Type} (G:Gs) (n:Nat) (t9:List Fm) (t10:Int) (h2:Int) (h22:Int) (h23:List Fm) (t11:Int) (h1:List Fm) (nx:Int->List Fm->Option R) (k0:List Fm->Option R):Option R:=
 bif decide (t11<t10)then
  (
  Option.bind (ix t9 t11) fun e=>
  Option.bind (G.i_temporalParts_o (Fm.mk (Fm.kind e) (Fm.prop e) (Fm.kids e)) h1) fun r=>
  nx (wr (t11+1)) r
  )
 else
  k0 h1
noncomputable def l2 {R:Type} (G:Gs) (n m:Nat) (t9:List Fm) (t10:Int) (h2:Int) (h22:Int) (h23:List Fm) (t11:Int) (h1:List Fm) (k0:List Fm->Option R):Option R:=iter (fun(v:Int×List Fm) nx=>b2 G n t9 t10 h2 h22 h23 v.1 v.2 (fun y0 y1=>nx (y0,y1)) k0) m (t11,h1)
noncomputable def c8 {R:Type} (G:Gs) (n:Nat) (h1:List Fm) (h2:Int) (h22:Int) (h23:List Fm) (k0:List Fm->Option R):Option R:=
 Option.bind (lim (h1++[(Fm.mk h2 h22 h23)])) fun zs=>
 k0 zs
noncomputable def main {R:Type} (G:Gs) (n:Nat) (f:Fm) (out:List Fm) (K:List Fm->Option R):Option R:=
 l2 G n n (Fm.kids f) (List.length (Fm.kids f) : Int) (Fm.kind f) (Fm.prop f) (Fm.kids f) 0 out
  (fun h12 =>
   bif decide ((Fm.kind f)=6)then
    (
    Option.bind (G.slices_ContainsFunc_tp h12 (Fm.mk (Fm.kind f) (Fm.prop f) (Fm.kids f))) fun r=>
    bif !r then
     (
     c8 G n h12 (Fm.kind f) (Fm.prop f) (Fm.kids f)
      (fun h122=>K h122)
     )
    else
     K h12
    )
   else
    bif decide ((Fm.kind f)=7)then
     (
     Option.bind (G.slices_ContainsFunc_tp h12 (Fm.mk (Fm.kind f) (Fm.prop f) (Fm.kids f))) fun r2=>
     bif !r2 then
      (
      c8 G n h12 (Fm.kind f) (Fm.prop f) (Fm.kids f)
       (fun h123=>K h123)
      )
     else
      K h12
     )
    else
     K h12
  )
noncomputable def dl2 (G:Gs) (n m:Nat) (R:Type) (st:St) (K:Kt R):Option R:=match st with
 |⟨[(1,.one (.o 1)),(2,.one (.p 2 0)),(9,.one (.l (.n 2) t9)),(10,.one (.i t10)),(11,.one (.i t11))],[.gone,.row (.n 2) 0 h1,.box [.i h2,.i h22,.l (.n 2) h23]]⟩=>l2 G n m t9 t10 h2 h22 h23 t11 h1 (fun h12=>K (.exit 0) ⟨[(1,.one (.o 1)),(2,.one (.p 2 0))],[.gone,.row (.n 2) 0 h12,.box [.i h2,.i h22,.l (.n 2) h23]]⟩)
 |_=>none
noncomputable def dc8 (G:Gs) (n:Nat) (R:Type) (st:St) (K:Kt R):Option R:=match st with
 |⟨[(1,.one (.o 1)),(2,.one (.p 2 0))],[.gone,.row (.n 2) 0 h1,.box [.i h2,.i h22,.l (.n 2) h23]]⟩=>c8 G n h1 h2 h22 h23 (fun h12=>K .normal ⟨[(1,.one (.o 1))],[.gone,.row (.n 2) 0 h12]⟩)
 |_=>none
noncomputable def pc (G:Gs) (n:Nat):Pcs:=⟨fun R id st K=>bif Nat.beq id 2 then dl2 G n n R st K else none,fun R id st K=>bif Nat.beq id 8 then dc8 G n R st K else none,fun _ _ _ _=>none⟩
noncomputable def an:Ann:=⟨39,1,[(2,[1,2,9,10,11])],[(8,[1,2])],[4],[],[]⟩
noncomputable abbrev bd:=bodyOf Tryd.f82
noncomputable abbrev q2:=nthC [1,0,1,0,0] bd
noncomputable abbrev q8:=nthC [1,1,1,0,1,0] bd
theorem pl2 {G:Gs} (hG:AllE Tryd.prog (ents G)) (n:Nat):∀m,PieceOK Tryd.prog an (.loop q2) (dl2 G n m):=lpc hG (pc G n) [1,2,9,10,11] ⟨[1,2],[4],[(0,[1,2])]⟩ (apl [] trivial) (fun R st K=>by unfold dl2;split<;>rfl) fun m R st K r h=>by unfold dl2 at h;split at h;exact .trans (by kernel_rfl) h;cases h
theorem pc8 {G:Gs} (hG:AllE Tryd.prog (ents G)) {n:Nat}:PieceOK Tryd.prog an q8 (dc8 G n):=cpc hG (pc G n) ⟨[1],[4],[]⟩ (apl [] trivial) fun R st K r h=>by unfold dc8 at h;split at h;exact .trans (by kernel_rfl) h;cases h
noncomputable def Does (G:Gs) (f:Fm) (out:List Fm) (r:List Fm):Prop:=∃n,main (R:=AT×List Ob) G n f out (fun r0=>some (.one (.o 1),[.gone,.row (.n 2) 0 r0]))=some (.one (.o 1),[.gone,.row (.n 2) 0 r])
theorem ok {G:Gs} (hG:AllE Tryd.prog (ents G)) {g:Fm->List Fm->Option (List Fm)} (hg:∀f out r,g f out=some r->Does G f out r):EntOK Tryd.prog (ent g):=fun R xs H K r hc=>by
 simp only[ent]at hc
 split at hc
 ·rename_i a a2 a3 h;obtain⟨r,j1,j2⟩:=bind_some hc
  obtain⟨n,j3⟩:=hg _ _ _ j1
  exact⟨_,_,j2,fnR hG an (pc G n) bd [.tmp 4] [0] (xs2:=[.agg [.i a,.i a2,.l (.n 2) a3],.one (.o 1)]) (H2:=[.gone,.row (.n 2) 0 h]) Tryd.func82 (.inr rfl) (apl [(1,2,.loop q2),(0,8,q8)] ⟨pl2 hG n n,⟨pc8 hG,trivial⟩⟩) (.trans (by kernel_rfl) j3)⟩
 ·cases hc
end i_temporalParts_o
namespace i_temporalParts
structure Gs where
 i_temporalParts_o:Fm->List Fm->Option (List Fm)
 slices_ContainsFunc_tp:List Fm->Fm->Option (Bool)
noncomputable def ents (G:Gs):List Ent:=[i_temporalParts_o.ent G.i_temporalParts_o,slices_ContainsFunc_tp.ent G.slices_ContainsFunc_tp]
noncomputable def b2 {R:Type} (G:Gs) (n:Nat) (t9:List Fm) (t10:Int) (h2:Int) (h22:Int) (h23:List Fm) (t11:Int) (h1:List Fm) (nx:Int->List Fm->Option R) (k0:List Fm->Option R):Option R:=
 bif decide (t11<t10)then
  (
  Option.bind (ix t9 t11) fun e=>
  Option.bind (G.i_temporalParts_o (Fm.mk (Fm.kind e) (Fm.prop e) (Fm.kids e)) h1) fun r=>
  nx (wr (t11+1)) r
  )
 else
  k0 h1
noncomputable def l2 {R:Type} (G:Gs) (n m:Nat) (t9:List Fm) (t10:Int) (h2:Int) (h22:Int) (h23:List Fm) (t11:Int) (h1:List Fm) (k0:List Fm->Option R):Option R:=iter (fun(v:Int×List Fm) nx=>b2 G n t9 t10 h2 h22 h23 v.1 v.2 (fun y0 y1=>nx (y0,y1)) k0) m (t11,h1)
noncomputable def c8 {R:Type} (G:Gs) (n:Nat) (h1:List Fm) (h2:Int) (h22:Int) (h23:List Fm) (k0:List Fm->Option R):Option R:=
 Option.bind (lim (h1++[(Fm.mk h2 h22 h23)])) fun zs=>
 k0 zs
noncomputable def main {R:Type} (G:Gs) (n:Nat) (f:Fm) (out:List Fm) (K:List Fm->Option R):Option R:=
 l2 G n n (Fm.kids f) (List.length (Fm.kids f) : Int) (Fm.kind f) (Fm.prop f) (Fm.kids f) 0 out
  (fun h12 =>
   bif decide ((Fm.kind f)=6)then
    (
    Option.bind (G.slices_ContainsFunc_tp h12 (Fm.mk (Fm.kind f) (Fm.prop f) (Fm.kids f))) fun r=>
    bif !r then
     (
     c8 G n h12 (Fm.kind f) (Fm.prop f) (Fm.kids f)
      (fun h122=>K h122)
     )
    else
     K h12
    )
   else
    bif decide ((Fm.kind f)=7)then
     (
     Option.bind (G.slices_ContainsFunc_tp h12 (Fm.mk (Fm.kind f) (Fm.prop f) (Fm.kids f))) fun r2=>
     bif !r2 then
      (
      c8 G n h12 (Fm.kind f) (Fm.prop f) (Fm.kids f)
       (fun h123=>K h123)
      )
     else
      K h12
     )
    else
     K h12
  )
noncomputable def dl2 (G:Gs) (n m:Nat) (R:Type) (st:St) (K:Kt R):Option R:=match st with
 |⟨[(1,.one (.o 1)),(2,.one (.p 2 0)),(9,.one (.l (.n 2) t9)),(10,.one (.i t10)),(11,.one (.i t11))],[.gone,.row (.n 2) 0 h1,.box [.i h2,.i h22,.l (.n 2) h23]]⟩=>l2 G n m t9 t10 h2 h22 h23 t11 h1 (fun h12=>K (.exit 0) ⟨[(1,.one (.o 1)),(2,.one (.p 2 0))],[.gone,.row (.n 2) 0 h12,.box [.i h2,.i h22,.l (.n 2) h23]]⟩)
 |_=>none
noncomputable def dc8 (G:Gs) (n:Nat) (R:Type) (st:St) (K:Kt R):Option R:=match st with
 |⟨[(1,.one (.o 1)),(2,.one (.p 2 0))],[.gone,.row (.n 2) 0 h1,.box [.i h2,.i h22,.l (.n 2) h23]]⟩=>c8 G n h1 h2 h22 h23 (fun h12=>K .normal ⟨[(1,.one (.o 1))],[.gone,.row (.n 2) 0 h12]⟩)
 |_=>none
noncomputable def pc (G:Gs) (n:Nat):Pcs:=⟨fun R id st K=>bif Nat.beq id 2 then dl2 G n n R st K else none,fun R id st K=>bif Nat.beq id 8 then dc8 G n R st K else none,fun _ _ _ _=>none⟩
noncomputable def an:Ann:=⟨39,1,[(2,[1,2,9,10,11])],[(8,[1,2])],[4],[],[]⟩
noncomputable abbrev bd:=bodyOf Tryd.f82
noncomputable abbrev q2:=nthC [1,0,1,0,0] bd
noncomputable abbrev q8:=nthC [1,1,1,0,1,0] bd
theorem pl2 {G:Gs} (hG:AllE Tryd.prog (ents G)) (n:Nat):∀m,PieceOK Tryd.prog an (.loop q2) (dl2 G n m):=lpc hG (pc G n) [1,2,9,10,11] ⟨[1,2],[4],[(0,[1,2])]⟩ (apl [] trivial) (fun R st K=>by unfold dl2;split<;>rfl) fun m R st K r h=>by unfold dl2 at h;split at h;exact .trans (by kernel_rfl) h;cases h
theorem pc8 {G:Gs} (hG:AllE Tryd.prog (ents G)) {n:Nat}:PieceOK Tryd.prog an q8 (dc8 G n):=cpc hG (pc G n) ⟨[1],[4],[]⟩ (apl [] trivial) fun R st K r h=>by unfold dc8 at h;split at h;exact .trans (by kernel_rfl) h;cases h
noncomputable def Does (G:Gs) (f:Fm) (out:List Fm) (r:List Fm):Prop:=∃n,main (R:=AT×List Ob) G n f out (fun r0=>some (.one (.l (.n 2) r0),[.gone]))=some (.one (.l (.n 2) r),[.gone])
theorem ok {G:Gs} (hG:AllE Tryd.prog (ents G)) {g:Fm->List Fm->Option (List Fm)} (hg:∀f out r,g f out=some r->Does G f out r):EntOK Tryd.prog (ent g):=fun R xs H K r hc=>by
 simp only[ent]at hc
 split at hc
 ·rename_i a a2 a3 h;obtain⟨r,j1,j2⟩:=bind_some hc
  obtain⟨n,j3⟩:=hg _ _ _ j1
  exact⟨_,_,j2,fnR hG an (pc G n) bd [.tmp 4] [0] (xs2:=[.agg [.i a,.i a2,.l (.n 2) a3],.one (.o 1)]) (H2:=[.gone,.row (.n 2) 0 h]) Tryd.func82 (.inl rfl) (apl [(1,2,.loop q2),(0,8,q8)] ⟨pl2 hG n n,⟨pc8 hG,trivial⟩⟩) (.trans (by kernel_rfl) j3)⟩
 ·cases hc
end i_temporalParts
namespace i_checkable
structure Gs where
 i_IsGraph:Gr->Option (Bool)
 i_labelsOK:List Int->Option (Bool)
 i_IsFormula:Fm->Option (Bool)
 i_temporalParts:Fm->List Fm->Option (List Fm)
noncomputable def ents (G:Gs):List Ent:=[i_IsGraph.ent G.i_IsGraph,i_labelsOK.ent G.i_labelsOK,i_IsFormula.ent G.i_IsFormula,i_temporalParts.ent G.i_temporalParts]
noncomputable def main {R:Type} (G:Gs) (n:Nat) (g:Gr) (labels:List Int) (f:Fm) (K:Bool->Option R):Option R:=
 Option.bind (G.i_IsGraph g) fun r=>
 bif r then
  (
  bif decide ((List.length labels:Int)=(List.length (Gr.states g):Int))then
   (
   Option.bind (G.i_labelsOK labels) fun r2=>
   bif r2 then
    (
    Option.bind (G.i_IsFormula (Fm.mk (Fm.kind f) (Fm.prop f) (Fm.kids f))) fun r3=>
    bif r3 then
     (
     Option.bind (G.i_temporalParts (Fm.mk (Fm.kind f) (Fm.prop f) (Fm.kids f)) []) fun r4=>
     K (decide ((List.length r4:Int)<=4))
     )
    else
     K false
    )
   else
    K false
   )
  else
   K false
  )
 else
  K false
noncomputable def pc (_:Gs) (_:Nat):Pcs:=⟨fun _ _ _ _=>none,fun _ _ _ _=>none,fun _ _ _ _=>none⟩
noncomputable def an:Ann:=⟨31,0,[],[],[6],[],[]⟩
noncomputable abbrev bd:=bodyOf Tryd.f46
noncomputable def Does (G:Gs) (g:Gr) (labels:List Int) (f:Fm) (r:Bool):Prop:=∃n,main (R:=AT×List Ob) G n g labels f (fun r0=>some (.one (.b r0),[]))=some (.one (.b r),[])
theorem ok {G:Gs} (hG:AllE Tryd.prog (ents G)) {g:Gr->List Int->Fm->Option (Bool)} (hg:∀g_ labels f r,g g_ labels f=some r->Does G g_ labels f r):EntOK Tryd.prog (ent g):=fun R xs H K r hc=>by
 simp only[ent]at hc
 split at hc
 ·obtain⟨r,j1,j2⟩:=bind_some hc
  obtain⟨n,j3⟩:=hg _ _ _ _ j1
  exact⟨_,_,j2,fnP hG an (pc G n) bd [.tmp 6] Tryd.func46 (.inl rfl) (apl [] trivial) (.trans (by kernel_rfl) j3)⟩
 ·cases hc
end i_checkable
namespace slices_Clip_intint_c
structure Gs where
 none_:Unit
noncomputable def ents (_:Gs):List Ent:=[]
noncomputable def main {R:Type} (G:Gs) (n:Nat) (s:List Int) (K:List Int->Option R):Option R:=
 Option.bind (clipOK (List.length s) (List.length s:Int) (List.length s:Int)) fun _u=>
 K s
noncomputable def pc (_:Gs) (_:Nat):Pcs:=⟨fun _ _ _ _=>none,fun _ _ _ _=>none,fun _ _ _ _=>none⟩
noncomputable def an:Ann:=⟨9,0,[],[],[2],[],[]⟩
noncomputable abbrev bd:=bodyOf Tryd.f84
noncomputable def Does (G:Gs) (s:List Int) (r:List Int):Prop:=∃n,main (R:=AT×List Ob) G n s (fun r0=>some (.one (.lc .i r0),[]))=some (.one (.lc .i r),[])
theorem ok {G:Gs} (hG:AllE Tryd.prog (ents G)) {g:List Int->Option (List Int)} (hg:∀s r,g s=some r->Does G s r):EntOK Tryd.prog (ent g):=fun R xs H K r hc=>by
 simp only[ent]at hc
 split at hc
 ·obtain⟨r,j1,j2⟩:=bind_some hc
  obtain⟨n,j3⟩:=hg _ _ j1
  exact⟨_,_,j2,fnP hG an (pc G n) bd [.tmp 2] Tryd.func84 (.inr rfl) (apl [] trivial) (.trans (by kernel_rfl) j3)⟩
 ·cases hc
end slices_Clip_intint_c
namespace i_counterRun
structure Gs where
 i_followers:Gr->Int->Option (List Int)
 slices_Contains_intint:List Int->Int->Option (Bool)
 i_places:Fm->Lasso->List Int->Option (List Bool)
 slices_Clone_intint:List Int->Option (List Int)
 slices_Clip_intint_c:List Int->Option (List Int)
 i_counterRun:Gr->List Int->Fm->List Int->Int->Option (Lasso×Bool)
noncomputable def ents (G:Gs):List Ent:=[i_followers.ent G.i_followers,slices_Contains_intint.ent G.slices_Contains_intint,i_places.ent G.i_places,slices_Clone_intint.ent G.slices_Clone_intint,slices_Clip_intint_c.ent G.slices_Clip_intint_c,ent G.i_counterRun]
noncomputable def b4 {R:Type} (G:Gs) (n:Nat) (labels:List Int) (states:List Int) (last:Int) (t30:Int) (h0:List Tm) (h02:List (List Int)) (h03:Bool) (h1:Int) (h12:Int) (h13:List Fm) (h2:Int) (h3:List Int) (t31:Int) (nx:Int->Option R) (k0:Bool->List Int->Int->Option R) (k1:Option R):Option R:=
 bif decide (t31<t30)then
  (
  Option.bind (G.i_followers (Gr.mk h0 h02 h03) last) fun r2=>
  Option.bind (ix states t31) fun e2=>
  Option.bind (G.slices_Contains_intint r2 e2) fun r4=>
  bif r4 then
   (
   Option.bind (G.i_places (Fm.mk h1 h12 h13) (Lasso.mk states t31) labels) fun r6=>
   Option.bind (ix r6 0) fun e4=>
   bif !e4 then
    (
    Option.bind (G.slices_Clone_intint states) fun r7=>
    k0 true r7 t31
    )
   else
    nx (wr (t31+1))
   )
  else
   nx (wr (t31+1))
  )
 else
  k1
noncomputable def l4 {R:Type} (G:Gs) (n m:Nat) (labels:List Int) (states:List Int) (last:Int) (t30:Int) (h0:List Tm) (h02:List (List Int)) (h03:Bool) (h1:Int) (h12:Int) (h13:List Fm) (h2:Int) (h3:List Int) (t31:Int) (k0:Bool->List Int->Int->Option R) (k1:Option R):Option R:=iter (fun(v:Int) nx=>b4 G n labels states last t30 h0 h02 h03 h1 h12 h13 h2 h3 v (fun y0=>nx y0) k0 k1) m t31
noncomputable def d14 {R:Type} (G:Gs) (n:Nat) (labels:List Int) (states:List Int) (n1:Int) (k:Int) (t62:List Int) (t63:Int) (t64:Int) (h0:List Tm) (h02:List (List Int)) (h03:Bool) (h1:Int) (h12:Int) (h13:List Fm) (h2:Int) (h3:List Int) (k0:Bool->List Int->Int->Option R):Option R:=
 Option.bind (G.slices_Clip_intint_c states) fun r=>
 Option.bind (lim1 r [k]) fun zs=>
 Option.bind (G.i_counterRun (Gr.mk h0 h02 h03) labels (Fm.mk h1 h12 h13) zs n1) fun r2=>
 k0 r2.2 (Lasso.states r2.1) (Lasso.back r2.1)
noncomputable def d14_1 {R:Type} (G:Gs) (n:Nat) (labels:List Int) (states:List Int) (n1:Int) (k:Int) (t62:List Int) (t63:Int) (t64:Int) (h0:List Tm) (h02:List (List Int)) (h03:Bool) (h1:Int) (h12:Int) (h13:List Fm) (h2:Int) (h3:List Int) (k0:Bool->List Int->Int->Option R):Option R:=
 Option.bind (G.slices_Clip_intint_c states) fun r=>
 Option.bind (lim1 r [k]) fun zs=>
 Option.bind (G.i_counterRun (Gr.mk h0 h02 h03) labels (Fm.mk h1 h12 h13) zs n1) fun r2=>
 k0 r2.2 (Lasso.states r2.1) (Lasso.back r2.1)
theorem e14_1 {R:Type} (G:Gs) (n:Nat) (labels:List Int) (states:List Int) (n1:Int) (k:Int) (t62:List Int) (t63:Int) (t64:Int) (h0:List Tm) (h02:List (List Int)) (h03:Bool) (h1:Int) (h12:Int) (h13:List Fm) (h2:Int) (h3:List Int) (k0:Bool->List Int->Int->Option R):d14_1 G n labels states n1 k t62 t63 t64 h0 h02 h03 h1 h12 h13 h2 h3 k0=d14 G n labels states n1 k t62 t63 t64 h0 h02 h03 h1 h12 h13 h2 h3 k0:=by
 unfold d14_1 d14
 generalize G.slices_Clip_intint_c states=o0
 cases o0<;>first|rfl|simp
noncomputable def d14_2 {R:Type} (G:Gs) (n:Nat) (labels:List Int) (states:List Int) (n1:Int) (k:Int) (t62:List Int) (t63:Int) (t64:Int) (h0:List Tm) (h02:List (List Int)) (h03:Bool) (h1:Int) (h12:Int) (h13:List Fm) (h2:Int) (h3:List Int) (k0:Bool->List Int->Int->Option R):Option R:=
 Option.bind (G.slices_Clip_intint_c states) fun r=>
 Option.bind (lim1 r [k]) fun zs=>
 Option.bind (G.i_counterRun (Gr.mk h0 h02 h03) labels (Fm.mk h1 h12 h13) zs n1) fun r2=>
 k0 r2.2 (Lasso.states r2.1) (Lasso.back r2.1)
theorem e14_2 {R:Type} (G:Gs) (n:Nat) (labels:List Int) (states:List Int) (n1:Int) (k:Int) (t62:List Int) (t63:Int) (t64:Int) (h0:List Tm) (h02:List (List Int)) (h03:Bool) (h1:Int) (h12:Int) (h13:List Fm) (h2:Int) (h3:List Int) (k0:Bool->List Int->Int->Option R):d14_2 G n labels states n1 k t62 t63 t64 h0 h02 h03 h1 h12 h13 h2 h3 k0=d14 G n labels states n1 k t62 t63 t64 h0 h02 h03 h1 h12 h13 h2 h3 k0:=by
 unfold d14_2 d14
 generalize G.slices_Clip_intint_c states=o0
 cases o0<;>first|rfl|simp
noncomputable def d14_3 {R:Type} (G:Gs) (n:Nat) (labels:List Int) (states:List Int) (n1:Int) (k:Int) (t62:List Int) (t63:Int) (t64:Int) (h0:List Tm) (h02:List (List Int)) (h03:Bool) (h1:Int) (h12:Int) (h13:List Fm) (h2:Int) (h3:List Int) (k0:Bool->List Int->Int->Option R):Option R:=
 Option.bind (G.slices_Clip_intint_c states) fun r=>
 Option.bind (lim1 r [k]) fun zs=>
 Option.bind (G.i_counterRun (Gr.mk h0 h02 h03) labels (Fm.mk h1 h12 h13) zs n1) fun r2=>
 k0 r2.2 (Lasso.states r2.1) (Lasso.back r2.1)
theorem e14_3 {R:Type} (G:Gs) (n:Nat) (labels:List Int) (states:List Int) (n1:Int) (k:Int) (t62:List Int) (t63:Int) (t64:Int) (h0:List Tm) (h02:List (List Int)) (h03:Bool) (h1:Int) (h12:Int) (h13:List Fm) (h2:Int) (h3:List Int) (k0:Bool->List Int->Int->Option R):d14_3 G n labels states n1 k t62 t63 t64 h0 h02 h03 h1 h12 h13 h2 h3 k0=d14 G n labels states n1 k t62 t63 t64 h0 h02 h03 h1 h12 h13 h2 h3 k0:=by
 unfold d14_3 d14
 generalize G.slices_Clip_intint_c states=o0
 cases o0<;>first|rfl|simp
noncomputable def b12 {R:Type} (G:Gs) (n:Nat) (labels:List Int) (states:List Int) (n1:Int) (t62:List Int) (t63:Int) (h0:List Tm) (h02:List (List Int)) (h03:Bool) (h1:Int) (h12:Int) (h13:List Fm) (h2:Int) (h3:List Int) (t64:Int) (nx:Int->Option R) (k0:Bool->List Int->Int->Option R) (k1:Option R):Option R:=
 bif decide (t64 < t63) then
  (
  Option.bind (ix t62 t64) fun e=>
  d14 G n labels states n1 e t62 t63 t64 h0 h02 h03 h1 h12 h13 h2 h3
   (fun ok h4 h42 =>
    bif ok then
     (k0 true h4 h42)
    else
     nx (wr (t64+1))
   )
  )
 else
  k1
noncomputable def l12 {R:Type} (G:Gs) (n m:Nat) (labels:List Int) (states:List Int) (n1:Int) (t62:List Int) (t63:Int) (h0:List Tm) (h02:List (List Int)) (h03:Bool) (h1:Int) (h12:Int) (h13:List Fm) (h2:Int) (h3:List Int) (t64:Int) (k0:Bool->List Int->Int->Option R) (k1:Option R):Option R:=iter (fun(v:Int) nx=>b12 G n labels states n1 t62 t63 h0 h02 h03 h1 h12 h13 h2 h3 v (fun y0=>nx y0) k0 k1) m t64
noncomputable def main {R:Type} (G:Gs) (n:Nat) (g:Gr) (labels:List Int) (f:Fm) (states:List Int) (n1:Int) (K:Lasso->Bool->Option R):Option R:=
 Option.bind (ix states (wr ((List.length states:Int)-1))) fun e=>
 bif decide ((List.length states:Int)=n1)then
  (
  l4 G n n labels states e (List.length states:Int) (Gr.states g) (Gr.edges g) (Gr.whole g) (Fm.kind f) (Fm.prop f) (Fm.kids f) 0 [] 0
   (fun t11 h04 h05=>K (Lasso.mk h04 h05) t11)
   (K (Lasso.mk [] 0) false)
  )
 else
  Option.bind (G.i_followers g e) fun r=>
  l12 G n n labels states n1 r (List.length r:Int) (Gr.states g) (Gr.edges g) (Gr.whole g) (Fm.kind f) (Fm.prop f) (Fm.kids f) 0 [] 0
   (fun t112 h042 h052=>K (Lasso.mk h042 h052) t112)
   (K (Lasso.mk [] 0) false)
noncomputable def dl4 (G:Gs) (n m:Nat) (R:Type) (st:St) (K:Kt R):Option R:=match st with
 |⟨[(1,.one (.l .i labels)),(3,.one (.l .i states)),(5,.one (.p 0 0)),(7,.one (.p 1 0)),(10,.one (.p 2 0)),(12,.one (.i last)),(30,.one (.i t30)),(31,.one (.i t31))],[.box [.l (.n 1) h0,.l (.sl .i) h02,.b h03],.box [.i h1,.i h12,.l (.n 2) h13],.box [.o 3,.i h2],.row .i 0 h3]⟩=>l4 G n m labels states last t30 h0 h02 h03 h1 h12 h13 h2 h3 t31 (fun t11 h04 h05=>K .ret ⟨[(10,.one (.p 0 0)),(11,.one (.b t11))],[.box [.l .i h04,.i h05]]⟩) (K (.exit 0) ⟨[(10,.one (.p 0 0))],[.box [.o 1,.i h2],.row .i 0 h3]⟩)
 |_=>none
noncomputable def dd14 (G:Gs) (n:Nat) (R:Type) (st:St) (K:Kt R):Option R:=match st with
 |⟨[(1,.one (.l .i labels)),(3,.one (.l .i states)),(4,.one (.i n1)),(5,.one (.p 0 0)),(7,.one (.p 1 0)),(10,.one (.p 2 0)),(16,.one (.i k)),(62,.one (.l .i t62)),(63,.one (.i t63)),(64,.one (.i t64))],[.box [.l (.n 1) h0,.l (.sl .i) h02,.b h03],.box [.i h1,.i h12,.l (.n 2) h13],.box [.o 3,.i h2],.row .i 0 h3]⟩=>d14 G n labels states n1 k t62 t63 t64 h0 h02 h03 h1 h12 h13 h2 h3 (fun ok h4 h42=>K .normal ⟨[(1,.one (.l .i labels)),(3,.one (.l .i states)),(4,.one (.i n1)),(5,.one (.p 0 0)),(7,.one (.p 1 0)),(10,.one (.p 2 0)),(17,.one (.p 4 0)),(18,.one (.b ok)),(62,.one (.l .i t62)),(63,.one (.i t63)),(64,.one (.i t64))],[.box [.l (.n 1) h0,.l (.sl .i) h02,.b h03],.box [.i h1,.i h12,.l (.n 2) h13],.box [.o 3,.i h2],.row .i 0 h3,.box [.l .i h4,.i h42]]⟩)
 |_=>none
noncomputable def dl12 (G:Gs) (n m:Nat) (R:Type) (st:St) (K:Kt R):Option R:=match st with
 |⟨[(1,.one (.l .i labels)),(3,.one (.l .i states)),(4,.one (.i n1)),(5,.one (.p 0 0)),(7,.one (.p 1 0)),(10,.one (.p 2 0)),(62,.one (.l .i t62)),(63,.one (.i t63)),(64,.one (.i t64))],[.box [.l (.n 1) h0,.l (.sl .i) h02,.b h03],.box [.i h1,.i h12,.l (.n 2) h13],.box [.o 3,.i h2],.row .i 0 h3]⟩=>l12 G n m labels states n1 t62 t63 h0 h02 h03 h1 h12 h13 h2 h3 t64 (fun t11 h04 h05=>K .ret ⟨[(10,.one (.p 0 0)),(11,.one (.b t11))],[.box [.l .i h04,.i h05]]⟩) (K (.exit 2) ⟨[(10,.one (.p 0 0))],[.box [.o 1,.i h2],.row .i 0 h3]⟩)
 |_=>none
noncomputable def pc (G:Gs) (n:Nat):Pcs:=⟨fun R id st K=>bif Nat.beq id 4 then dl4 G n n R st K else bif Nat.beq id 12 then dl12 G n n R st K else none,fun _ _ _ _=>none,fun R id st K=>bif Nat.beq id 14 then dd14 G n R st K else none⟩
noncomputable def an:Ann:=⟨85,0,[(4,[1,3,5,7,10,12,30,31]),(12,[1,3,4,5,7,10,62,63,64])],[],[10,11],[(7,⟨[([0,1,2,3,4,5,6,7,8,9,10,11,12,13,14,15,16],[],[])],[],[],[0,1,2,3,4],[]⟩),(14,⟨[([3,4,5,6,7,0,1,2,8,9,13,10,11,14,12,15],[4,7,9,13,14],[]),([3,4,5,6,7,13,0,1,2,8,9,10,11,14,12,15],[4,7,13,9,14],[]),([3,4,13,5,6,7,0,1,2,8,9,10,11,14,12,15],[4,13,7,9,14],[]),([13,3,4,5,6,7,0,1,2,8,9,10,11,14,12,15],[13,4,7,9,14],[])],[4,7,9,13,14],[],[0,1,2,3],[1,3,4,5,7,10,16,62,63,64]⟩)],[]⟩
noncomputable abbrev bd:=bodyOf Tryd.f47
noncomputable abbrev q4:=nthC [1,1,0,1,0,0,1,0,0] bd
noncomputable abbrev q14:=nthC [1,1,1,0,1,0,0,1,1,0,0,1,0] bd
noncomputable abbrev q12:=nthC [1,1,1,0,1,0,0] bd
theorem pl4 {G:Gs} (hG:AllE Tryd.prog (ents G)) (n:Nat):∀m,PieceOK Tryd.prog an (.loop q4) (dl4 G n m):=lpc hG (pc G n) [1,3,5,7,10,12,30,31] ⟨[10],[10,11],[(0,[10])]⟩ (apl [] trivial) (fun R st K=>by unfold dl4;split<;>rfl) fun m R st K r h=>by unfold dl4 at h;split at h;exact .trans (by kernel_rfl) h;cases h
theorem s14_0 (G:Gs) (n:Nat) (R:Type) (labels:List Int) (states:List Int) (n1:Int) (k:Int) (t62:List Int) (t63:Int) (t64:Int) (h0:List Tm) (h02:List (List Int)) (h03:Bool) (h1:Int) (h12:Int) (h13:List Fm) (h2:Int) (h3:List Int) (K:Kt R):(fun st1:St=>drawD tb (orcOf (ents G)) an.nt (opsOf (q14)) (maskH [0,1,2,3] st1.H) [3,4,5,6,7,0,1,2,8,9,13,10,11,14,12,15] [4,7,9,13,14] [] [] [3,4,5,6,7,0,1,2,8,9,13,10,11,14,12,15] st1.L st1.H st1.H fun L H=>outK an.refs ⟨[1,3,4,5,7,10,17,18,62,63,64],[10,11],[(2,[10]),(3,[1,3,4,5,7,10,62,63,64])]⟩ K .normal ⟨L,H⟩) (fzIds (slotRows (St.L ⟨[(1,.one (.l .i labels)),(3,.one (.l .i states)),(4,.one (.i n1)),(5,.one (.p 0 0)),(7,.one (.p 1 0)),(10,.one (.p 2 0)),(16,.one (.i k)),(62,.one (.l .i t62)),(63,.one (.i t63)),(64,.one (.i t64))],[.box [.l (.n 1) h0,.l (.sl .i) h02,.b h03],.box [.i h1,.i h12,.l (.n 2) h13],.box [.o 3,.i h2],.row .i 0 h3]⟩) (St.H ⟨[(1,.one (.l .i labels)),(3,.one (.l .i states)),(4,.one (.i n1)),(5,.one (.p 0 0)),(7,.one (.p 1 0)),(10,.one (.p 2 0)),(16,.one (.i k)),(62,.one (.l .i t62)),(63,.one (.i t63)),(64,.one (.i t64))],[.box [.l (.n 1) h0,.l (.sl .i) h02,.b h03],.box [.i h1,.i h12,.l (.n 2) h13],.box [.o 3,.i h2],.row .i 0 h3]⟩) []) ⟨[(1,.one (.l .i labels)),(3,.one (.l .i states)),(4,.one (.i n1)),(5,.one (.p 0 0)),(7,.one (.p 1 0)),(10,.one (.p 2 0)),(16,.one (.i k)),(62,.one (.l .i t62)),(63,.one (.i t63)),(64,.one (.i t64))],[.box [.l (.n 1) h0,.l (.sl .i) h02,.b h03],.box [.i h1,.i h12,.l (.n 2) h13],.box [.o 3,.i h2],.row .i 0 h3]⟩)=dd14 G n R ⟨[(1,.one (.l .i labels)),(3,.one (.l .i states)),(4,.one (.i n1)),(5,.one (.p 0 0)),(7,.one (.p 1 0)),(10,.one (.p 2 0)),(16,.one (.i k)),(62,.one (.l .i t62)),(63,.one (.i t63)),(64,.one (.i t64))],[.box [.l (.n 1) h0,.l (.sl .i) h02,.b h03],.box [.i h1,.i h12,.l (.n 2) h13],.box [.o 3,.i h2],.row .i 0 h3]⟩ K:=by kernel_rfl
theorem s14_1 (G:Gs) (n:Nat) (R:Type) (labels:List Int) (states:List Int) (n1:Int) (k:Int) (t62:List Int) (t63:Int) (t64:Int) (h0:List Tm) (h02:List (List Int)) (h03:Bool) (h1:Int) (h12:Int) (h13:List Fm) (h2:Int) (h3:List Int) (K:Kt R):(fun st1:St=>drawD tb (orcOf (ents G)) an.nt (opsOf (q14)) (maskH [0,1,2,3] st1.H) [3,4,5,6,7,13,0,1,2,8,9,10,11,14,12,15] [4,7,13,9,14] [] [] [3,4,5,6,7,13,0,1,2,8,9,10,11,14,12,15] st1.L st1.H st1.H fun L H=>outK an.refs ⟨[1,3,4,5,7,10,17,18,62,63,64],[10,11],[(2,[10]),(3,[1,3,4,5,7,10,62,63,64])]⟩ K .normal ⟨L,H⟩) (fzIds (slotRows (St.L ⟨[(1,.one (.l .i labels)),(3,.one (.l .i states)),(4,.one (.i n1)),(5,.one (.p 0 0)),(7,.one (.p 1 0)),(10,.one (.p 2 0)),(16,.one (.i k)),(62,.one (.l .i t62)),(63,.one (.i t63)),(64,.one (.i t64))],[.box [.l (.n 1) h0,.l (.sl .i) h02,.b h03],.box [.i h1,.i h12,.l (.n 2) h13],.box [.o 3,.i h2],.row .i 0 h3]⟩) (St.H ⟨[(1,.one (.l .i labels)),(3,.one (.l .i states)),(4,.one (.i n1)),(5,.one (.p 0 0)),(7,.one (.p 1 0)),(10,.one (.p 2 0)),(16,.one (.i k)),(62,.one (.l .i t62)),(63,.one (.i t63)),(64,.one (.i t64))],[.box [.l (.n 1) h0,.l (.sl .i) h02,.b h03],.box [.i h1,.i h12,.l (.n 2) h13],.box [.o 3,.i h2],.row .i 0 h3]⟩) []) ⟨[(1,.one (.l .i labels)),(3,.one (.l .i states)),(4,.one (.i n1)),(5,.one (.p 0 0)),(7,.one (.p 1 0)),(10,.one (.p 2 0)),(16,.one (.i k)),(62,.one (.l .i t62)),(63,.one (.i t63)),(64,.one (.i t64))],[.box [.l (.n 1) h0,.l (.sl .i) h02,.b h03],.box [.i h1,.i h12,.l (.n 2) h13],.box [.o 3,.i h2],.row .i 0 h3]⟩)=d14_1 G n labels states n1 k t62 t63 t64 h0 h02 h03 h1 h12 h13 h2 h3 (fun ok h4 h42=>K .normal ⟨[(1,.one (.l .i labels)),(3,.one (.l .i states)),(4,.one (.i n1)),(5,.one (.p 0 0)),(7,.one (.p 1 0)),(10,.one (.p 2 0)),(17,.one (.p 4 0)),(18,.one (.b ok)),(62,.one (.l .i t62)),(63,.one (.i t63)),(64,.one (.i t64))],[.box [.l (.n 1) h0,.l (.sl .i) h02,.b h03],.box [.i h1,.i h12,.l (.n 2) h13],.box [.o 3,.i h2],.row .i 0 h3,.box [.l .i h4,.i h42]]⟩):=by kernel_rfl
theorem s14_2 (G:Gs) (n:Nat) (R:Type) (labels:List Int) (states:List Int) (n1:Int) (k:Int) (t62:List Int) (t63:Int) (t64:Int) (h0:List Tm) (h02:List (List Int)) (h03:Bool) (h1:Int) (h12:Int) (h13:List Fm) (h2:Int) (h3:List Int) (K:Kt R):(fun st1:St=>drawD tb (orcOf (ents G)) an.nt (opsOf (q14)) (maskH [0,1,2,3] st1.H) [3,4,13,5,6,7,0,1,2,8,9,10,11,14,12,15] [4,13,7,9,14] [] [] [3,4,13,5,6,7,0,1,2,8,9,10,11,14,12,15] st1.L st1.H st1.H fun L H=>outK an.refs ⟨[1,3,4,5,7,10,17,18,62,63,64],[10,11],[(2,[10]),(3,[1,3,4,5,7,10,62,63,64])]⟩ K .normal ⟨L,H⟩) (fzIds (slotRows (St.L ⟨[(1,.one (.l .i labels)),(3,.one (.l .i states)),(4,.one (.i n1)),(5,.one (.p 0 0)),(7,.one (.p 1 0)),(10,.one (.p 2 0)),(16,.one (.i k)),(62,.one (.l .i t62)),(63,.one (.i t63)),(64,.one (.i t64))],[.box [.l (.n 1) h0,.l (.sl .i) h02,.b h03],.box [.i h1,.i h12,.l (.n 2) h13],.box [.o 3,.i h2],.row .i 0 h3]⟩) (St.H ⟨[(1,.one (.l .i labels)),(3,.one (.l .i states)),(4,.one (.i n1)),(5,.one (.p 0 0)),(7,.one (.p 1 0)),(10,.one (.p 2 0)),(16,.one (.i k)),(62,.one (.l .i t62)),(63,.one (.i t63)),(64,.one (.i t64))],[.box [.l (.n 1) h0,.l (.sl .i) h02,.b h03],.box [.i h1,.i h12,.l (.n 2) h13],.box [.o 3,.i h2],.row .i 0 h3]⟩) []) ⟨[(1,.one (.l .i labels)),(3,.one (.l .i states)),(4,.one (.i n1)),(5,.one (.p 0 0)),(7,.one (.p 1 0)),(10,.one (.p 2 0)),(16,.one (.i k)),(62,.one (.l .i t62)),(63,.one (.i t63)),(64,.one (.i t64))],[.box [.l (.n 1) h0,.l (.sl .i) h02,.b h03],.box [.i h1,.i h12,.l (.n 2) h13],.box [.o 3,.i h2],.row .i 0 h3]⟩)=d14_2 G n labels states n1 k t62 t63 t64 h0 h02 h03 h1 h12 h13 h2 h3 (fun ok h4 h42=>K .normal ⟨[(1,.one (.l .i labels)),(3,.one (.l .i states)),(4,.one (.i n1)),(5,.one (.p 0 0)),(7,.one (.p 1 0)),(10,.one (.p 2 0)),(17,.one (.p 4 0)),(18,.one (.b ok)),(62,.one (.l .i t62)),(63,.one (.i t63)),(64,.one (.i t64))],[.box [.l (.n 1) h0,.l (.sl .i) h02,.b h03],.box [.i h1,.i h12,.l (.n 2) h13],.box [.o 3,.i h2],.row .i 0 h3,.box [.l .i h4,.i h42]]⟩):=by kernel_rfl
theorem s14_3 (G:Gs) (n:Nat) (R:Type) (labels:List Int) (states:List Int) (n1:Int) (k:Int) (t62:List Int) (t63:Int) (t64:Int) (h0:List Tm) (h02:List (List Int)) (h03:Bool) (h1:Int) (h12:Int) (h13:List Fm) (h2:Int) (h3:List Int) (K:Kt R):(fun st1:St=>drawD tb (orcOf (ents G)) an.nt (opsOf (q14)) (maskH [0,1,2,3] st1.H) [13,3,4,5,6,7,0,1,2,8,9,10,11,14,12,15] [13,4,7,9,14] [] [] [13,3,4,5,6,7,0,1,2,8,9,10,11,14,12,15] st1.L st1.H st1.H fun L H=>outK an.refs ⟨[1,3,4,5,7,10,17,18,62,63,64],[10,11],[(2,[10]),(3,[1,3,4,5,7,10,62,63,64])]⟩ K .normal ⟨L,H⟩) (fzIds (slotRows (St.L ⟨[(1,.one (.l .i labels)),(3,.one (.l .i states)),(4,.one (.i n1)),(5,.one (.p 0 0)),(7,.one (.p 1 0)),(10,.one (.p 2 0)),(16,.one (.i k)),(62,.one (.l .i t62)),(63,.one (.i t63)),(64,.one (.i t64))],[.box [.l (.n 1) h0,.l (.sl .i) h02,.b h03],.box [.i h1,.i h12,.l (.n 2) h13],.box [.o 3,.i h2],.row .i 0 h3]⟩) (St.H ⟨[(1,.one (.l .i labels)),(3,.one (.l .i states)),(4,.one (.i n1)),(5,.one (.p 0 0)),(7,.one (.p 1 0)),(10,.one (.p 2 0)),(16,.one (.i k)),(62,.one (.l .i t62)),(63,.one (.i t63)),(64,.one (.i t64))],[.box [.l (.n 1) h0,.l (.sl .i) h02,.b h03],.box [.i h1,.i h12,.l (.n 2) h13],.box [.o 3,.i h2],.row .i 0 h3]⟩) []) ⟨[(1,.one (.l .i labels)),(3,.one (.l .i states)),(4,.one (.i n1)),(5,.one (.p 0 0)),(7,.one (.p 1 0)),(10,.one (.p 2 0)),(16,.one (.i k)),(62,.one (.l .i t62)),(63,.one (.i t63)),(64,.one (.i t64))],[.box [.l (.n 1) h0,.l (.sl .i) h02,.b h03],.box [.i h1,.i h12,.l (.n 2) h13],.box [.o 3,.i h2],.row .i 0 h3]⟩)=d14_3 G n labels states n1 k t62 t63 t64 h0 h02 h03 h1 h12 h13 h2 h3 (fun ok h4 h42=>K .normal ⟨[(1,.one (.l .i labels)),(3,.one (.l .i states)),(4,.one (.i n1)),(5,.one (.p 0 0)),(7,.one (.p 1 0)),(10,.one (.p 2 0)),(17,.one (.p 4 0)),(18,.one (.b ok)),(62,.one (.l .i t62)),(63,.one (.i t63)),(64,.one (.i t64))],[.box [.l (.n 1) h0,.l (.sl .i) h02,.b h03],.box [.i h1,.i h12,.l (.n 2) h13],.box [.o 3,.i h2],.row .i 0 h3,.box [.l .i h4,.i h42]]⟩):=by kernel_rfl
theorem pd14 {G:Gs} (hG:AllE Tryd.prog (ents G)) {n:Nat}:PieceOK Tryd.prog an (q14) (dd14 G n):=by
 have hc:q14= .region 14 (opsOf (q14)) true:=by kernel_rfl
 rw[hc]
 refine draw_piece mixed tb_ok (orc_ok hG) (o:=⟨[1,3,4,5,7,10,17,18,62,63,64],[10,11],[(2,[10]),(3,[1,3,4,5,7,10,62,63,64])]⟩) (d:=⟨[([3,4,5,6,7,0,1,2,8,9,13,10,11,14,12,15],[4,7,9,13,14],[]),([3,4,5,6,7,13,0,1,2,8,9,10,11,14,12,15],[4,7,13,9,14],[]),([3,4,13,5,6,7,0,1,2,8,9,10,11,14,12,15],[4,13,7,9,14],[]),([13,3,4,5,6,7,0,1,2,8,9,10,11,14,12,15],[13,4,7,9,14],[])],[4,7,9,13,14],[],[0,1,2,3],[1,3,4,5,7,10,16,62,63,64]⟩) (by kernel_rfl) (fun p hp R st K r h=> ?_)
 have e:=h
 unfold dd14 at e
 split at e
 ·rename_i x0 x1 x2 x3 x4 x5 x6 x7 x8 x9 x10 x11 x12 x13 x14;simp only[List.mem_cons,List.not_mem_nil,or_false]at hp
  rcases hp with rfl|rfl|rfl|rfl
  ·exact(s14_0 G n R x0 x1 x2 x3 x4 x5 x6 x7 x8 x9 x10 x11 x12 x13 x14 K).trans h
  ·exact((s14_1 G n R x0 x1 x2 x3 x4 x5 x6 x7 x8 x9 x10 x11 x12 x13 x14 K).trans (e14_1 G n  x0 x1 x2 x3 x4 x5 x6 x7 x8 x9 x10 x11 x12 x13 x14 _)).trans h
  ·exact((s14_2 G n R x0 x1 x2 x3 x4 x5 x6 x7 x8 x9 x10 x11 x12 x13 x14 K).trans (e14_2 G n  x0 x1 x2 x3 x4 x5 x6 x7 x8 x9 x10 x11 x12 x13 x14 _)).trans h
  ·exact((s14_3 G n R x0 x1 x2 x3 x4 x5 x6 x7 x8 x9 x10 x11 x12 x13 x14 K).trans (e14_3 G n  x0 x1 x2 x3 x4 x5 x6 x7 x8 x9 x10 x11 x12 x13 x14 _)).trans h
 ·cases e
theorem pl12 {G:Gs} (hG:AllE Tryd.prog (ents G)) (n:Nat):∀m,PieceOK Tryd.prog an (.loop q12) (dl12 G n m):=lpc hG (pc G n) [1,3,4,5,7,10,62,63,64] ⟨[10],[10,11],[(2,[10])]⟩ (apl [(2,14,q14)] ⟨pd14 hG,trivial⟩) (fun R st K=>by unfold dl12;split<;>rfl) fun m R st K r h=>by unfold dl12 at h;split at h;exact .trans (by kernel_rfl) h;cases h
noncomputable def Does (G:Gs) (g:Gr) (labels:List Int) (f:Fm) (states:List Int) (n1:Int) (r:Lasso×Bool):Prop:=∃n,main (R:=AT×List Ob) G n g labels f states n1 (fun r0 r1=>some (.tup [.agg [.l .i (Lasso.states r0),.i (Lasso.back r0)],.one (.b r1)],[]))=some (.tup [.agg [.l .i (Lasso.states r.1),.i (Lasso.back r.1)],.one (.b r.2)],[])
theorem ok {G:Gs} (hG:AllE Tryd.prog (ents G)) {g:Gr->List Int->Fm->List Int->Int->Option (Lasso×Bool)} (hg:∀g_ labels f states n1 r,g g_ labels f states n1=some r->Does G g_ labels f states n1 r):EntOK Tryd.prog (ent g):=fun R xs H K r hc=>by
 simp only[ent]at hc
 split at hc
 ·obtain⟨r,j1,j2⟩:=bind_some hc
  obtain⟨n,j3⟩:=hg _ _ _ _ _ _ j1
  exact⟨_,_,j2,fnP hG an (pc G n) bd [.cell 10 33,.tmp 11] Tryd.func47 (.inl rfl) (apl [(1,4,.loop q4),(1,12,.loop q12)] ⟨pl4 hG n n,⟨pl12 hG n n,trivial⟩⟩) (.trans (by kernel_rfl) j3)⟩
 ·cases hc
end i_counterRun
namespace i_CounterRun
structure Gs where
 i_checkable:Gr->List Int->Fm->Option (Bool)
 i_counterRun:Gr->List Int->Fm->List Int->Int->Option (Lasso×Bool)
noncomputable def b4 {R:Type} (G:Gs) (n:Nat) (labels:List Int) (most:Int) (t30:List (List Int)) (t31:Int) (h0:List Tm) (h02:List (List Int)) (h03:Bool) (h1:Int) (h12:Int) (h13:List Fm) (h2:Int) (h3:List Int) (t32:Int) (nx:Int->Option R) (k0:Bool->Int->List Int->Option R) (k1:Option R):Option R:=
 bif decide (t32<t31)then
  (
  Option.bind (ix t30 t32) fun e=>
  bif decide (5<(List.length e:Int))then
   (k0 false 0 [])
  else
   nx (wr (t32+1))
  )
 else
  k1
noncomputable def l4 {R:Type} (G:Gs) (n m:Nat) (labels:List Int) (most:Int) (t30:List (List Int)) (t31:Int) (h0:List Tm) (h02:List (List Int)) (h03:Bool) (h1:Int) (h12:Int) (h13:List Fm) (h2:Int) (h3:List Int) (t32:Int) (k0:Bool->Int->List Int->Option R) (k1:Option R):Option R:=iter (fun(v:Int) nx=>b4 G n labels most t30 t31 h0 h02 h03 h1 h12 h13 h2 h3 v (fun y0=>nx y0) k0 k1) m t32
noncomputable def b10 {R:Type} (G:Gs) (n:Nat) (labels:List Int) (most:Int) (h0:List Tm) (h02:List (List Int)) (h03:Bool) (h1:Int) (h12:Int) (h13:List Fm) (h2:Int) (h3:List Int) (n1:Int) (nx:Int->Option R) (k0:Bool->List Int->Int->Option R) (k1:Option R):Option R:=
 bif decide (n1<=most)then
  (
  Option.bind (G.i_counterRun (Gr.mk h0 h02 h03) labels (Fm.mk h1 h12 h13) [0] n1) fun r=>
  bif r.2 then
   (k0 true (Lasso.states r.1) (Lasso.back r.1))
  else
   nx (wr (n1+1))
  )
 else
  k1
noncomputable def l10 {R:Type} (G:Gs) (n m:Nat) (labels:List Int) (most:Int) (h0:List Tm) (h02:List (List Int)) (h03:Bool) (h1:Int) (h12:Int) (h13:List Fm) (h2:Int) (h3:List Int) (n1:Int) (k0:Bool->List Int->Int->Option R) (k1:Option R):Option R:=iter (fun(v:Int) nx=>b10 G n labels most h0 h02 h03 h1 h12 h13 h2 h3 v (fun y0=>nx y0) k0 k1) m n1
noncomputable def main {R:Type} (G:Gs) (n:Nat) (g:Gr) (labels:List Int) (f:Fm) (most:Int) (K:Lasso->Bool->Option R):Option R:=
 Option.bind (G.i_checkable g labels (Fm.mk (Fm.kind f) (Fm.prop f) (Fm.kids f))) fun r=>
 bif !r then
  (K (Lasso.mk [] 0) false)
 else
  bif decide (most<1)then
   (K (Lasso.mk [] 0) false)
  else
   bif decide (7<most)then
    (K (Lasso.mk [] 0) false)
   else
    l4 G n n labels most (Gr.edges g) (List.length (Gr.edges g) : Int) (Gr.states g) (Gr.edges g) (Gr.whole g) (Fm.kind f) (Fm.prop f) (Fm.kids f) 0 [] 0
     (fun t9 h04 h14=>K (Lasso.mk h14 h04) t9)
     (
      l10 G n n labels most (Gr.states g) (Gr.edges g) (Gr.whole g) (Fm.kind f) (Fm.prop f) (Fm.kids f) 0 [] 1
       (fun t92 h042 h05=>K (Lasso.mk h042 h05) t92)
       (K (Lasso.mk [] 0) false)
     )
noncomputable abbrev bd:=bodyOf Tryd.f14
noncomputable abbrev q4:=nthC [1,1,0,1,0,0] bd
noncomputable abbrev q10:=nthC [1,1,1,0,1,0,0] bd
end i_CounterRun
end Go.Proofs.YtjafncnjefnloaaDoor.Den

/-
  Texts that the claim rests on, merged: PC, RunsL.
-/
import Derived.Test.YtjafncnjefnloaaDoorZRowAll11
import Derived.Test.YtjafncnjefnloaaDoorZRowAll26
import Derived.Test.YtjafncnjefnloaaDoorZRowAll27

namespace Go.Proofs.YtjafncnjefnloaaDoor.Den
open Go.RowKit
set_option maxRecDepth 100000
set_option linter.unusedVariables false
namespace l_FnExactAllRunsHold
structure Gs where
 l_szGraph:Gr->Int->Option (Int)
 l_szFormula:Fm->Int->Option (Int)
 l_toGraph:Gr->Option (Gr)
 l_toIntS:List Int->Option (List Int)
 l_toFormula:Fm->Option (Fm)
 s_AllRunsHold:Gr->List Int->Fm->Option (Bool×Bool)
 i_AllRunsHold:Gr->List Int->Fm->Option (Bool×Bool)
 l_eqGraph:Gr->Gr->Option (Bool)
 l_eqIntS:List Int->List Int->Option (Bool)
 l_eqFormula:Fm->Fm->Option (Bool)
noncomputable def ents (G:Gs):List Ent:=[l_szGraph.ent G.l_szGraph,l_szFormula.ent G.l_szFormula,l_toGraph.ent G.l_toGraph,l_toIntS.ent G.l_toIntS,l_toFormula.ent G.l_toFormula,s_AllRunsHold.ent G.s_AllRunsHold,i_AllRunsHold.ent G.i_AllRunsHold,l_eqGraph.ent G.l_eqGraph,l_eqIntS.ent G.l_eqIntS,l_eqFormula.ent G.l_eqFormula]
noncomputable def main {R:Type} (G:Gs) (n:Nat) (aG:Gr) (aLabels:List Int) (aF:Fm) (K:Bool->Option R):Option R:=
 bif decide (1048576<(List.length aLabels:Int))then
  (K true)
 else
  Option.bind (G.l_szGraph aG 1048576) fun r=>
  bif decide (r<0)then
   (K true)
  else
   Option.bind (G.l_szFormula (Fm.mk (Fm.kind aF) (Fm.prop aF) (Fm.kids aF)) r) fun r2=>
   bif decide (r2<0)then
    (K true)
   else
    Option.bind (G.l_toGraph aG) fun r4=>
    Option.bind (G.l_toIntS aLabels) fun r6=>
    Option.bind (G.l_toFormula (Fm.mk (Fm.kind aF) (Fm.prop aF) (Fm.kids aF))) fun r8=>
    Option.bind (G.s_AllRunsHold r4 r6 (Fm.mk (Fm.kind r8) (Fm.prop r8) (Fm.kids r8))) fun r10=>
    Option.bind (G.l_toGraph aG) fun r11=>
    Option.bind (G.l_toIntS aLabels) fun r12=>
    Option.bind (G.l_toFormula (Fm.mk (Fm.kind aF) (Fm.prop aF) (Fm.kids aF))) fun r13=>
    Option.bind (G.i_AllRunsHold r11 r12 (Fm.mk (Fm.kind r13) (Fm.prop r13) (Fm.kids r13))) fun r14=>
    bif !(r14.1==r10.1)then
     (K false)
    else
     bif !(r14.2==r10.2)then
      (K false)
     else
      Option.bind (G.l_toGraph aG) fun r16=>
      Option.bind (G.l_eqGraph r11 r16) fun r18=>
      bif !r18 then
       (K false)
      else
       Option.bind (G.l_toIntS aLabels) fun r19=>
       Option.bind (G.l_eqIntS r12 r19) fun r20=>
       bif !r20 then
        (K false)
       else
        Option.bind (G.l_toFormula (Fm.mk (Fm.kind aF) (Fm.prop aF) (Fm.kids aF))) fun r22=>
        Option.bind (G.l_eqFormula (Fm.mk (Fm.kind r13) (Fm.prop r13) (Fm.kids r13)) (Fm.mk (Fm.kind r22) (Fm.prop r22) (Fm.kids r22))) fun r24=>
        bif !r24 then
         (K false)
        else
         K true
noncomputable def pc (_:Gs) (_:Nat):Pcs:=⟨fun _ _ _ _=>none,fun _ _ _ _=>none,fun _ _ _ _=>none⟩
noncomputable def an:Ann:=⟨74,0,[],[],[6],[(10,⟨[([0,1,2,3,4,5,6,7,8,9,10,11],[],[])],[],[],[0,1],[]⟩),(17,⟨[([0,1,2,3,4],[],[])],[],[],[0,1,2,3],[]⟩),(21,⟨[([0,1,2,3,4],[],[])],[],[],[0,1,2,3],[]⟩)],[]⟩
noncomputable abbrev bd:=bodyOf Tryd.f4
noncomputable def Does (G:Gs) (aG:Gr) (aLabels:List Int) (aF:Fm) (r:Bool):Prop:=∃n,main (R:=AT×List Ob) G n aG aLabels aF (fun r0=>some (.one (.b r0),[]))=some (.one (.b r),[])
theorem ok {G:Gs} (hG:AllE Tryd.prog (ents G)) {g:Gr->List Int->Fm->Option (Bool)} (hg:∀aG aLabels aF r,g aG aLabels aF=some r->Does G aG aLabels aF r):EntOK Tryd.prog (ent g):=fun R xs H K r hc=>by
 simp only[ent]at hc
 split at hc
 ·obtain⟨r,j1,j2⟩:=bind_some hc
  obtain⟨n,j3⟩:=hg _ _ _ _ j1
  exact⟨_,_,j2,fnP hG an (pc G n) bd [.tmp 6] Tryd.func4 (.inl rfl) (apl [] trivial) (.trans (by kernel_rfl) j3)⟩
 ·cases hc
end l_FnExactAllRunsHold
namespace l_FnExactSomeRunHolds
structure Gs where
 l_szGraph:Gr->Int->Option (Int)
 l_szFormula:Fm->Int->Option (Int)
 l_toGraph:Gr->Option (Gr)
 l_toIntS:List Int->Option (List Int)
 l_toFormula:Fm->Option (Fm)
 s_SomeRunHolds:Gr->List Int->Fm->Option (Bool×Bool)
 i_SomeRunHolds:Gr->List Int->Fm->Option (Bool×Bool)
 l_eqGraph:Gr->Gr->Option (Bool)
 l_eqIntS:List Int->List Int->Option (Bool)
 l_eqFormula:Fm->Fm->Option (Bool)
noncomputable def ents (G:Gs):List Ent:=[l_szGraph.ent G.l_szGraph,l_szFormula.ent G.l_szFormula,l_toGraph.ent G.l_toGraph,l_toIntS.ent G.l_toIntS,l_toFormula.ent G.l_toFormula,s_SomeRunHolds.ent G.s_SomeRunHolds,i_SomeRunHolds.ent G.i_SomeRunHolds,l_eqGraph.ent G.l_eqGraph,l_eqIntS.ent G.l_eqIntS,l_eqFormula.ent G.l_eqFormula]
noncomputable def main {R:Type} (G:Gs) (n:Nat) (aG:Gr) (aLabels:List Int) (aF:Fm) (K:Bool->Option R):Option R:=
 bif decide (1048576<(List.length aLabels:Int))then
  (K true)
 else
  Option.bind (G.l_szGraph aG 1048576) fun r=>
  bif decide (r<0)then
   (K true)
  else
   Option.bind (G.l_szFormula (Fm.mk (Fm.kind aF) (Fm.prop aF) (Fm.kids aF)) r) fun r2=>
   bif decide (r2<0)then
    (K true)
   else
    Option.bind (G.l_toGraph aG) fun r4=>
    Option.bind (G.l_toIntS aLabels) fun r6=>
    Option.bind (G.l_toFormula (Fm.mk (Fm.kind aF) (Fm.prop aF) (Fm.kids aF))) fun r8=>
    Option.bind (G.s_SomeRunHolds r4 r6 (Fm.mk (Fm.kind r8) (Fm.prop r8) (Fm.kids r8))) fun r10=>
    Option.bind (G.l_toGraph aG) fun r11=>
    Option.bind (G.l_toIntS aLabels) fun r12=>
    Option.bind (G.l_toFormula (Fm.mk (Fm.kind aF) (Fm.prop aF) (Fm.kids aF))) fun r13=>
    Option.bind (G.i_SomeRunHolds r11 r12 (Fm.mk (Fm.kind r13) (Fm.prop r13) (Fm.kids r13))) fun r14=>
    bif !(r14.1==r10.1)then
     (K false)
    else
     bif !(r14.2==r10.2)then
      (K false)
     else
      Option.bind (G.l_toGraph aG) fun r16=>
      Option.bind (G.l_eqGraph r11 r16) fun r18=>
      bif !r18 then
       (K false)
      else
       Option.bind (G.l_toIntS aLabels) fun r19=>
       Option.bind (G.l_eqIntS r12 r19) fun r20=>
       bif !r20 then
        (K false)
       else
        Option.bind (G.l_toFormula (Fm.mk (Fm.kind aF) (Fm.prop aF) (Fm.kids aF))) fun r22=>
        Option.bind (G.l_eqFormula (Fm.mk (Fm.kind r13) (Fm.prop r13) (Fm.kids r13)) (Fm.mk (Fm.kind r22) (Fm.prop r22) (Fm.kids r22))) fun r24=>
        bif !r24 then
         (K false)
        else
         K true
noncomputable def pc (_:Gs) (_:Nat):Pcs:=⟨fun _ _ _ _=>none,fun _ _ _ _=>none,fun _ _ _ _=>none⟩
noncomputable def an:Ann:=⟨74,0,[],[],[6],[(10,⟨[([0,1,2,3,4,5,6,7,8,9,10,11],[],[])],[],[],[0,1],[]⟩),(17,⟨[([0,1,2,3,4],[],[])],[],[],[0,1,2,3],[]⟩),(21,⟨[([0,1,2,3,4],[],[])],[],[],[0,1,2,3],[]⟩)],[]⟩
noncomputable abbrev bd:=bodyOf Tryd.f5
noncomputable def Does (G:Gs) (aG:Gr) (aLabels:List Int) (aF:Fm) (r:Bool):Prop:=∃n,main (R:=AT×List Ob) G n aG aLabels aF (fun r0=>some (.one (.b r0),[]))=some (.one (.b r),[])
theorem ok {G:Gs} (hG:AllE Tryd.prog (ents G)) {g:Gr->List Int->Fm->Option (Bool)} (hg:∀aG aLabels aF r,g aG aLabels aF=some r->Does G aG aLabels aF r):EntOK Tryd.prog (ent g):=fun R xs H K r hc=>by
 simp only[ent]at hc
 split at hc
 ·obtain⟨r,j1,j2⟩:=bind_some hc
  obtain⟨n,j3⟩:=hg _ _ _ _ j1
  exact⟨_,_,j2,fnP hG an (pc G n) bd [.tmp 6] Tryd.func5 (.inl rfl) (apl [] trivial) (.trans (by kernel_rfl) j3)⟩
 ·cases hc
end l_FnExactSomeRunHolds
namespace l_FnModelCheck
noncomputable abbrev bd:=bodyOf Tryd.f6
noncomputable abbrev q17:=nthC [1,1,1,1,1,1,1,1,1,1,1] bd
end l_FnModelCheck
namespace l_FnCounterRun
noncomputable abbrev bd:=bodyOf Tryd.f7
end l_FnCounterRun
end Go.Proofs.YtjafncnjefnloaaDoor.Den

namespace Go.Proofs.YtjafncnjefnloaaDoor.Den
open Go.RowKit
open Classical
theorem small_of {g:Gr} {labels:List Int} {f:Fm} (h1:w_Graph g<=1048576) (h2:labels.length<=1048576) (h3:f.total<=1048576):smallA g labels f:=by
 have hg:w_TermS g.states+w_IntSS g.edges<=1048576:=h1
 have hs:g.states.length<=w_TermS g.states:=by unfold w_TermS tmTotals;omega
 have he:=le_IntSS (xs:=g.edges) (by omega)
 refine⟨⟨by omega,by omega,fun row hr=> ?_⟩,by omega,by unfold Fm.size;omega⟩
 have:=he.2 row hr
 unfold w_IntS at this
 omega
theorem runs_laws :(∃g,EntOK Tryd.prog (l_FnExactAllRunsHold.ent g)/\∀x:Gr×List Int×Fm,(Fit (.n 3) x.1/\Fit (.sl .i) x.2.1/\Fit (.n 2) x.2.2)->∃r,g x.1 x.2.1 x.2.2=some r/\r=true)/\(∃g,EntOK Tryd.prog (l_FnExactSomeRunHolds.ent g)/\∀x:Gr×List Int×Fm,(Fit (.n 3) x.1/\Fit (.sl .i) x.2.1/\Fit (.n 2) x.2.2)->∃r,g x.1 x.2.1 x.2.2=some r/\r=true):=by
 obtain⟨gSG,eSG,hSG⟩:=szGraph_all
 obtain⟨gTG,eTG,hTG⟩:=toGraph_all
 obtain⟨gEG,eEG,hEG⟩:=eqGraph_all
 obtain⟨gTI,eTI,hTI⟩:=toIntS_all
 obtain⟨gEI,eEI,hEI⟩:=eqIntS_all
 have main:∀(ga:Gr->List Int->Fm->Option (Bool×Bool)),(∀g labels f,smallA g labels f->∃b,ga g labels f=some b)->∀(g:Gr) (labels:List Int) (f:Fm),(Fit (.n 3) g/\Fit (.sl .i) labels/\Fit (.n 2) f)->∀(K:Bool->Option (AT×List Ob)),
   l_FnExactAllRunsHold.main {l_szGraph:=gSG,l_szFormula:=gSz 1048576,l_toGraph:=gTG,l_toIntS:=gTI,l_toFormula:=gTo 1048577,s_AllRunsHold:=ga,i_AllRunsHold:=ga,l_eqGraph:=gEG,l_eqIntS:=gEI,l_eqFormula:=gEqF 1048577} 1 g labels f K=K true:=by
  intro ga hga g labels f ⟨hg,hl,hf⟩ K
  unfold l_FnExactAllRunsHold.main
  simp only[Fm.eta]
  by_cases c0:(1048576:Int)<(labels.length:Int)
  ·rw[decide_eq_true c0,cond_true]
  ·obtain⟨a,a1,a2⟩:=hSG g 1048576 ⟨hg,by omega,by omega⟩
   subst a2
   rw[decide_eq_false c0,cond_false,a1,Option.bind_some]
   by_cases c1:(w_Graph g:Int)<=1048576
   ·rw[if_pos c1,decide_eq_false (by omega),cond_false,show gSz 1048576 f (1048576-(w_Graph g:Int))=some _ from if_pos ⟨hf,by omega,by omega⟩,Option.bind_some]
    by_cases c2:((Fm.total f:Nat):Int)<=1048576-(w_Graph g:Int)
    ·obtain⟨b,b1,b2⟩:=hTG g ⟨hg,by omega⟩
     obtain⟨d,d1,d2⟩:=hTI labels ⟨hl,by unfold w_IntS;omega⟩
     obtain⟨e,e1,e2⟩:=hEG g g ⟨rfl,hg,by omega⟩
     obtain⟨i,i1,i2⟩:=hEI labels labels ⟨rfl,hl,by unfold w_IntS;omega⟩
     obtain⟨p,hp⟩:=hga g labels f (small_of (by omega) (by omega) (by omega))
     have t1:gTo 1048577 f=some f:=if_pos (by omega)
     have t2:gEqF 1048577 f f=some true:=if_pos ⟨rfl,by omega⟩
     have u1:gTG g=some g:=b1.trans (congrArg some b2)
     have u2:gTI labels=some labels:=d1.trans (congrArg some d2)
     have u3:gEG g g=some true:=e1.trans (congrArg some e2)
     have u4:gEI labels labels=some true:=i1.trans (congrArg some i2)
     rw[if_pos c2,decide_eq_false (by omega),cond_false]
     simp only[u1,u2,u3,u4,t1,t2,hp,Option.bind_some,beq_self_eq_true,Bool.not_true,cond_false]
    ·rw[if_neg c2];rfl
   ·rw[if_neg c1];rfl
 refine⟨?_,?_⟩
 ·obtain⟨g,e,h⟩:=by_pick (A:=Gr×List Int×Fm) (B:=Bool) (P:=fun x=>Fit (.n 3) x.1/\Fit (.sl .i) x.2.1/\Fit (.n 2) x.2.2) (D:=fun x r=>l_FnExactAllRunsHold.Does {l_szGraph:=gSG,l_szFormula:=gSz 1048576,l_toGraph:=gTG,l_toIntS:=gTI,l_toFormula:=gTo 1048577,s_AllRunsHold:=gAll,i_AllRunsHold:=gAll,l_eqGraph:=gEG,l_eqIntS:=gEI,l_eqFormula:=gEqF 1048577} x.1 x.2.1 x.2.2 r) (E:=fun g=>EntOK Tryd.prog (l_FnExactAllRunsHold.ent fun a b c=>g (a,b,c))) (Post:=fun _ r=>r=true) (fun g hg=>l_FnExactAllRunsHold.ok (G:={l_szGraph:=gSG,l_szFormula:=gSz 1048576,l_toGraph:=gTG,l_toIntS:=gTI,l_toFormula:=gTo 1048577,s_AllRunsHold:=gAll,i_AllRunsHold:=gAll,l_eqGraph:=gEG,l_eqIntS:=gEI,l_eqFormula:=gEqF 1048577}) ⟨eSG,szF_ok 1048577 (by omega),eTG,eTI,toF_ok _ (by omega),sAll_ok,iAll_ok,eEG,eEI,eqF_ok _ (by omega),trivial⟩ fun a b c r hr=>hg (a,b,c) r hr) fun x hx=>⟨true,⟨1,main gAll (fun g labels f h=>⟨_,if_pos h⟩) x.1 x.2.1 x.2.2 hx _⟩,rfl⟩
  exact⟨fun a b c=>g (a,b,c),e,h⟩
 ·obtain⟨g,e,h⟩:=by_pick (A:=Gr×List Int×Fm) (B:=Bool) (P:=fun x=>Fit (.n 3) x.1/\Fit (.sl .i) x.2.1/\Fit (.n 2) x.2.2) (D:=fun x r=>l_FnExactSomeRunHolds.Does {l_szGraph:=gSG,l_szFormula:=gSz 1048576,l_toGraph:=gTG,l_toIntS:=gTI,l_toFormula:=gTo 1048577,s_SomeRunHolds:=gSomeF,i_SomeRunHolds:=gSomeF,l_eqGraph:=gEG,l_eqIntS:=gEI,l_eqFormula:=gEqF 1048577} x.1 x.2.1 x.2.2 r) (E:=fun g=>EntOK Tryd.prog (l_FnExactSomeRunHolds.ent fun a b c=>g (a,b,c))) (Post:=fun _ r=>r=true) (fun g hg=>l_FnExactSomeRunHolds.ok (G:={l_szGraph:=gSG,l_szFormula:=gSz 1048576,l_toGraph:=gTG,l_toIntS:=gTI,l_toFormula:=gTo 1048577,s_SomeRunHolds:=gSomeF,i_SomeRunHolds:=gSomeF,l_eqGraph:=gEG,l_eqIntS:=gEI,l_eqFormula:=gEqF 1048577}) ⟨eSG,szF_ok 1048577 (by omega),eTG,eTI,toF_ok _ (by omega),sSome_ok,iSome_ok,eEG,eEI,eqF_ok _ (by omega),trivial⟩ fun a b c r hr=>hg (a,b,c) r hr) fun x hx=>⟨true,⟨1,by have:=main gSomeF (fun g labels f h=>⟨_,if_pos h⟩) x.1 x.2.1 x.2.2 hx (fun r0=>some (AT.one (C.b r0),[]));exact this⟩,rfl⟩
  exact⟨fun a b c=>g (a,b,c),e,h⟩
theorem allRunsHold_law :∃g,EntOK Tryd.prog (l_FnExactAllRunsHold.ent g)/\∀a b c,Fit (.n 3) a->Fit (.sl .i) b->Fit (.n 2) c->∃r,g a b c=some r/\r=true:=by
 obtain⟨g,e,h⟩:=runs_laws.1
 exact⟨g,e,fun a b c h1 h2 h3=>h (a,b,c) ⟨h1,h2,h3⟩⟩
theorem someRunHolds_law :∃g,EntOK Tryd.prog (l_FnExactSomeRunHolds.ent g)/\∀a b c,Fit (.n 3) a->Fit (.sl .i) b->Fit (.n 2) c->∃r,g a b c=some r/\r=true:=by
 obtain⟨g,e,h⟩:=runs_laws.2
 exact⟨g,e,fun a b c h1 h2 h3=>h (a,b,c) ⟨h1,h2,h3⟩⟩
end Go.Proofs.YtjafncnjefnloaaDoor.Den

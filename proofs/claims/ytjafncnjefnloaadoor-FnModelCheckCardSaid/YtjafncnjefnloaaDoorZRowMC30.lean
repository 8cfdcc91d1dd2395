/-
  Texts that the claim rests on, merged: PC, MC.
-/
import Derived.Test.YtjafncnjefnloaaDoorZRowMC11
import Derived.Test.YtjafncnjefnloaaDoorZRowMC27
import Derived.Test.YtjafncnjefnloaaDoorZRowMC29

namespace Go.Proofs.YtjafncnjefnloaaDoor.Den
open Go.RowKit
set_option maxRecDepth 100000
set_option linter.unusedVariables false
namespace l_FnExactAllRunsHold
noncomputable abbrev bd:=bodyOf Tryd.f4
end l_FnExactAllRunsHold
namespace l_FnExactSomeRunHolds
noncomputable abbrev bd:=bodyOf Tryd.f5
end l_FnExactSomeRunHolds
namespace l_FnModelCheck
structure Gs where
 l_big:List Int->Option (Bool)
 s_DrawAllRunsHold:List Int->Option (Gr×List Int×Fm)
 i_AllRunsHold:Gr->List Int->Fm->Option (Bool×Bool)
 i_SomeRunHolds:Gr->List Int->Fm->Option (Bool×Bool)
 s_AllRunsHold:Gr->List Int->Fm->Option (Bool×Bool)
 s_SomeRunHolds:Gr->List Int->Fm->Option (Bool×Bool)
 s_IsFormula:Fm->Option (Bool)
 l_walk:Gr->List Int->Option (Lasso)
 s_IsRun:Gr->Lasso->Option (Bool)
 i_HoldsOn:Fm->Lasso->List Int->Option (Bool)
 i_IsRun:Gr->Lasso->Option (Bool)
noncomputable def ents (G:Gs):List Ent:=[l_big.ent G.l_big,s_DrawAllRunsHold.ent G.s_DrawAllRunsHold,i_AllRunsHold.ent G.i_AllRunsHold,i_SomeRunHolds.ent G.i_SomeRunHolds,s_AllRunsHold.ent G.s_AllRunsHold,s_SomeRunHolds.ent G.s_SomeRunHolds,s_IsFormula.ent G.s_IsFormula,l_walk.ent G.l_walk,s_IsRun.ent G.s_IsRun,i_HoldsOn.ent G.i_HoldsOn,i_IsRun.ent G.i_IsRun]
noncomputable def c17 {R:Type} (G:Gs) (n:Nat) (code:List Int) (labels:List Int) (all:Bool) (some1:Bool) (h0:List Tm) (h02:List (List Int)) (h03:Bool) (h1:Int) (h12:Int) (h13:List Fm) (k0:Bool->Option R):Option R:=
 Option.bind (G.l_walk (Gr.mk h0 h02 h03) code) fun r=>
 Option.bind (G.s_IsRun (Gr.mk h0 h02 h03) r) fun r2=>
 bif !r2 then
  (
  bif !all then
   (k0 true)
  else
   k0 some1
  )
 else
  Option.bind (G.i_HoldsOn (Fm.mk h1 h12 h13) r labels) fun r3=>
  Option.bind (G.i_IsRun (Gr.mk h0 h02 h03) r) fun r4=>
  bif r4 then
   (
   bif !all then
    (
    bif !r3 then
     (k0 true)
    else
     k0 some1
    )
   else
    bif r3 then
     (
     bif !r3 then
      (k0 true)
     else
      k0 some1
     )
    else
     k0 false
   )
  else
   k0 false
noncomputable def main {R:Type} (G:Gs) (n:Nat) (code:List Int) (K:Bool->Option R):Option R:=
 Option.bind (G.l_big code) fun r=>
 bif r then
  (K true)
 else
  Option.bind (G.s_DrawAllRunsHold code) fun r2=>
  Option.bind (G.i_AllRunsHold r2.1 r2.2.1 (Fm.mk (Fm.kind r2.2.2) (Fm.prop r2.2.2) (Fm.kids r2.2.2))) fun r3=>
  Option.bind (G.i_SomeRunHolds r2.1 r2.2.1 (Fm.mk (Fm.kind r2.2.2) (Fm.prop r2.2.2) (Fm.kids r2.2.2))) fun r4=>
  Option.bind (G.s_AllRunsHold r2.1 r2.2.1 (Fm.mk (Fm.kind r2.2.2) (Fm.prop r2.2.2) (Fm.kids r2.2.2))) fun r5=>
  Option.bind (G.s_SomeRunHolds r2.1 r2.2.1 (Fm.mk (Fm.kind r2.2.2) (Fm.prop r2.2.2) (Fm.kids r2.2.2))) fun r6=>
  bif !(r3.2==r5.2)then
   (K false)
  else
   bif !(r4.2==r6.2)then
    (K false)
   else
    bif !(r3.1==r5.1)then
     (K false)
    else
     bif !(r4.1==r6.1)then
      (K false)
     else
      bif !r3.2 then
       (K true)
      else
       Option.bind (G.s_IsFormula (Fm.mk 3 0 [(Fm.mk (Fm.kind r2.2.2) (Fm.prop r2.2.2) (Fm.kids r2.2.2))])) fun r7=>
       bif r7 then
        (
        Option.bind (G.i_AllRunsHold r2.1 r2.2.1 (Fm.mk 3 0 [(Fm.mk (Fm.kind r2.2.2) (Fm.prop r2.2.2) (Fm.kids r2.2.2))])) fun r8=>
        bif !r8.2 then
         (K false)
        else
         bif r8.1==r4.1 then
          (K false)
         else
          c17 G n code r2.2.1 r3.1 r4.1 (Gr.states r2.1) (Gr.edges r2.1) (Gr.whole r2.1) (Fm.kind r2.2.2) (Fm.prop r2.2.2) (Fm.kids r2.2.2)
           (fun t2=>K t2)
        )
       else
        c17 G n code r2.2.1 r3.1 r4.1 (Gr.states r2.1) (Gr.edges r2.1) (Gr.whole r2.1) (Fm.kind r2.2.2) (Fm.prop r2.2.2) (Fm.kids r2.2.2)
         (fun t22=>K t22)
noncomputable def dc17 (G:Gs) (n:Nat) (R:Type) (st:St) (K:Kt R):Option R:=match st with
 |⟨[(0,.one (.l .u code)),(3,.one (.p 0 0)),(4,.one (.l .i labels)),(5,.one (.p 1 0)),(6,.one (.b all)),(8,.one (.b some1))],[.box [.l (.n 1) h0,.l (.sl .i) h02,.b h03],.box [.i h1,.i h12,.l (.n 2) h13]]⟩=>c17 G n code labels all some1 h0 h02 h03 h1 h12 h13 (fun t2=>K .ret ⟨[(2,.one (.b t2))],[]⟩)
 |_=>none
noncomputable def pc (G:Gs) (n:Nat):Pcs:=⟨fun _ _ _ _=>none,fun R id st K=>bif Nat.beq id 17 then dc17 G n R st K else none,fun _ _ _ _=>none⟩
noncomputable def an:Ann:=⟨127,0,[],[(17,[0,3,4,5,6,8])],[2],[],[]⟩
noncomputable abbrev bd:=bodyOf Tryd.f6
noncomputable abbrev q17:=nthC [1,1,1,1,1,1,1,1,1,1,1] bd
theorem pc17 {G:Gs} (hG:AllE Tryd.prog (ents G)) {n:Nat}:PieceOK Tryd.prog an q17 (dc17 G n):=cpc hG (pc G n) ⟨[],[2],[]⟩ (apl [] trivial) fun R st K r h=>by unfold dc17 at h;split at h;exact .trans (by kernel_rfl) h;cases h
noncomputable def Does (G:Gs) (code:List Int) (r:Bool):Prop:=∃n,main (R:=AT×List Ob) G n code (fun r0=>some (.one (.b r0),[]))=some (.one (.b r),[])
theorem ok {G:Gs} (hG:AllE Tryd.prog (ents G)) {g:List Int->Option (Bool)} (hg:∀code r,g code=some r->Does G code r):EntOK Tryd.prog (ent g):=fun R xs H K r hc=>by
 simp only[ent]at hc
 split at hc
 ·obtain⟨r,j1,j2⟩:=bind_some hc
  obtain⟨n,j3⟩:=hg _ _ j1
  exact⟨_,_,j2,fnP hG an (pc G n) bd [.tmp 2] Tryd.func6 (.inl rfl) (apl [(0,17,q17)] ⟨pc17 hG,trivial⟩) (.trans (by kernel_rfl) j3)⟩
 ·cases hc
end l_FnModelCheck
namespace l_FnCounterRun
noncomputable abbrev bd:=bodyOf Tryd.f7
end l_FnCounterRun
end Go.Proofs.YtjafncnjefnloaaDoor.Den

namespace Go.Proofs.YtjafncnjefnloaaDoor.Den
open Go.RowKit
open Classical
theorem big_ok :EntOK Tryd.prog (l_big.ent fun code=>some (decide (1048576<(List.length code:Int)))):=l_big.ok (G:=⟨()⟩) trivial fun code r h=>⟨1,by cases h;rfl⟩
theorem byte_fit {x:Int} (h:Fit .u x):0<=x/\x<=255:=by
 obtain⟨I,w,v,u,h1,h2⟩:=h _ (by simp[explode];rfl)
 cases h1
 cases h2 with
 | lit h =>
  have h:(Lit.int .u8 x).wf=true:=h
  simp[Lit.wf,IntKind.min,IntKind.max,IntKind.signed,IntKind.bits]at h
  omega
theorem bytes_fit {code:List Int} (h:Fit (.sl .u) code):∀x∈code,0<=x/\x<=255:=fun x hx=>byte_fit ((fit_sl.1 h).mem x hx)
section
variable {g : Gr} {labels : List Int} {f : Fm}
theorem las_of {l:Lasso} (hl:lasOk l) (hr:runOk g l):IsLas g l.states.length l.back.toNat (stOf l):=⟨hl.lt,hr.1,fun i hi=>(hr.2 i hi).1,fun i hi=>(hr.2 i hi).2⟩
theorem covers_self (hf:goodF f):covers (temps 13 f []) f:=fun x hx h6=>(mem_temps 13 f [] x hf.1 hf.2).2 (.inr ⟨hx,h6⟩)
theorem covers_not (hf:isFormula f=true):covers (temps 13 f []) (notF f):=fun x hx h6=>by
 rcases within_iff.1 hx with rfl|⟨y,h1,h2⟩
 ·simp[notF]at h6
 ·simp[notF]at h1
  subst h1
  exact covers_self (isF_good hf) x h2 h6
theorem hv_not (labels:List Int) (n back:Nat) (st:Nat->Nat) (f:Fm) (i:Nat):hv labels n back st (notF f) i= !hv labels n back st f i:=by
 rw[hv_eq,if_neg (by simp[notF]),if_neg (by simp[notF]),if_pos (show (notF f).kind=3 from rfl)];rfl
theorem val_not (lab:Nat) (tv:Fm->Bool) (f:Fm):val lab tv (notF f)= !val lab tv f:=by
 rw[val_eq,if_neg (by simp[notF]),if_neg (by simp[notF]),if_pos (show (notF f).kind=3 from rfl)];rfl
theorem some_of_las (hc:chkOk g labels f) {n back:Nat} {st:Nat->Nat} (hl:IsLas g n back st) (h:hv labels n back st f 0=true):someI g labels (temps 13 f []) f:=
 have hf:=isF_good hc.2.2.2.1
 lasso_some hf hl hf.2 (covers_self hf) h
theorem someN_of_las (hc:chkOk g labels f) {n back:Nat} {st:Nat->Nat} (hl:IsLas g n back st) (h:hv labels n back st f 0=false):someI g labels (temps 13 (notF f) []) (notF f):=by
 have hf:=isF_good hc.2.2.2.1
 rw[notF_temps hc.2.2.2.1]
 exact lasso_some hf hl (notF_ok hf.2) (covers_not hc.2.2.2.1) (by rw[hv_not,h];rfl)
theorem all_some (hc:chkOk g labels f):someI g labels (temps 13 (notF f) []) (notF f)\/someI g labels (temps 13 f []) f:=by
 obtain⟨n,back,hl⟩:=has_lasso hc.1
 cases h:hv labels n back (runTo g) f 0
 ·exact .inl (someN_of_las hc hl h)
 ·exact .inr (some_of_las hc hl h)
theorem chk_not (hc:chkOk g labels f) (hn:isFormula (notF f)=true):chkOk g labels (notF f):=⟨hc.1,hc.2.1,hc.2.2.1,hn,by rw[notF_temps hc.2.2.2.1];exact hc.2.2.2.2⟩
theorem some_notnot (hc:chkOk g labels f) (hn:isFormula (notF f)=true):someI g labels (temps 13 (notF (notF f)) []) (notF (notF f))↔someI g labels (temps 13 f []) f:=by
 rw[notF_temps hn,notF_temps hc.2.2.2.1]
 unfold someI
 simp only[val_not,Bool.not_not]
end
section
variable {gD : List Int → Option (Gr × List Int × Fm)} {gW : Gr → List Int → Option Lasso}
noncomputable abbrev gMC (gD:List Int->Option (Gr×List Int×Fm)) (gW:Gr->List Int->Option Lasso):l_FnModelCheck.Gs:={l_big:=fun code=>some (decide (1048576<(List.length code:Int))),s_DrawAllRunsHold:=gD,i_AllRunsHold:=gAll,i_SomeRunHolds:=gSomeF,s_AllRunsHold:=gAll,s_SomeRunHolds:=gSomeF,s_IsFormula:=gIs 2097152,l_walk:=gW,s_IsRun:=gRunI,i_HoldsOn:=gHO,i_IsRun:=gRunI}
theorem mc_end {R:Type} (hW:WalkP gW) {g:Gr} {labels:List Int} {f:Fm} (hc:chkOk g labels f) {code:List Int} (hb:bytesOk code) (k0:Bool->Option R):l_FnModelCheck.c17 (gMC gD gW) 1 code labels (!decide (someI g labels (temps 13 (notF f) []) (notF f))) (decide (someI g labels (temps 13 f []) f)) g.states g.edges g.whole f.kind f.prop f.kids k0=k0 true:=by
 obtain⟨l,e1,hl,hlt⟩:=hW g code ⟨hc.1,hb⟩
 have hp:PreL labels l:=⟨hl,hc.2.2.1,fun x hx=>by have:=hlt x hx;have:=hc.2.1;omega⟩
 have hlen:labels.length<=2097152:=by have:=hc.2.1;have:=hc.1.2.1;omega
 unfold l_FnModelCheck.c17
 dsimp only
 rw[show gW ⟨g.states,g.edges,g.whole⟩ code=some l from e1,Option.bind_some,show gRunI ⟨g.states,g.edges,g.whole⟩ l=some (decide (runOk g l))from if_pos ⟨hc.1,hl⟩,Option.bind_some]
 by_cases hr:runOk g l
 ·have hlas:=las_of hl hr
  rw[decide_eq_true hr,Bool.not_true,cond_false,Fm.eta,show gHO f l labels=some _ from if_pos ⟨hc.2.2.2.1,hp,hlen⟩,Option.bind_some,Option.bind_some,cond_true]
  cases hh:hvL labels l f 0
  ·rw[decide_eq_true (someN_of_las hc hlas hh)];rfl
  ·rw[decide_eq_true (some_of_las hc hlas hh),Bool.not_not,Bool.not_true,cond_true,cond_false]
   cases decide (someI g labels (temps 13 (notF f) []) (notF f))<;>rfl
 ·rw[decide_eq_false hr,Bool.not_false,cond_true]
  rcases all_some hc with h|h
  ·rw[decide_eq_true h];rfl
  ·rw[decide_eq_true h]
   cases decide (someI g labels (temps 13 (notF f) []) (notF f))<;>rfl
theorem mc_main {R:Type} (hD:DrawAP gD) (hW:WalkP gW) {code:List Int} (hb:∀x∈code,0<=x/\x<=255) (K:Bool->Option R):l_FnModelCheck.main (gMC gD gW) 1 code K=K true:=by
 unfold l_FnModelCheck.main
 dsimp only
 rw[Option.bind_some]
 by_cases c0:(1048576:Int)<(List.length code:Int)
 ·rw[decide_eq_true c0,cond_true]
 ·obtain⟨⟨g,labels,f⟩,e,hs⟩:=hD code (by omega)
  have hb':bytesOk code:=⟨by omega,hb⟩
  dsimp only at hs
  rw[decide_eq_false c0,cond_false,e,Option.bind_some]
  simp only[Fm.eta]
  rw[show gAll g labels f=some _ from if_pos hs,show gSomeF g labels f=some _ from if_pos hs]
  simp only[Option.bind_some,beq_self_eq_true,Bool.not_true,cond_false]
  by_cases hc:chkOk g labels f
  ·have ea:allF g labels f=(!decide (someI g labels (temps 13 (notF f) []) (notF f)),true):=if_pos hc
   have es:someF g labels f=(decide (someI g labels (temps 13 f []) f),true):=if_pos hc
   have hlen:=(isF_good hc.2.2.2.1).1
   rw[ea,es]
   dsimp only
   rw[Bool.not_true,cond_false,show gIs 2097152 ⟨3,0,[f]⟩=some (isFormula (notF f))from if_pos (show (notF f).size<=2097152 by rw[notF_size];omega),Option.bind_some]
   cases hn:isFormula (notF f)
   ·rw[cond_false]
    exact mc_end hW hc hb' K
   ·have hcn:=chk_not hc hn
    have e8:gAll g labels ⟨3,0,[f]⟩=some (!decide (someI g labels (temps 13 f []) f),true):=by
     refine(if_pos (show smallA g labels (notF f)from⟨hs.1,hs.2.1,by rw[notF_size];omega⟩)).trans ?_
     show some (allF g labels (notF f))=_
     unfold allF
     rw[if_pos hcn,decide_eq_decide.2 (some_notnot hc hn)]
    rw[cond_true,e8,Option.bind_some]
    dsimp only
    rw[Bool.not_true,cond_false]
    have e9:((!decide (someI g labels (temps 13 f []) f))==decide (someI g labels (temps 13 f []) f))=false:=by
     cases decide (someI g labels (temps 13 f []) f)<;>rfl
    rw[e9,cond_false]
    exact mc_end hW hc hb' K
  ·have ea:allF g labels f=(false,false):=if_neg hc
   rw[ea];rfl
end
theorem modelCheck_law :∃g,EntOK Tryd.prog (l_FnModelCheck.ent g)/\∀code,Fit (.sl .u) code->∃r,g code=some r/\r=true:=by
 obtain⟨gD,eD,hD⟩:=drawA_ex
 obtain⟨gW,eW,hW⟩:=walk_ex
 exact by_pick (fun g hg=>l_FnModelCheck.ok (G:=gMC gD gW) ⟨big_ok,eD,iAll_ok,iSome_ok,sAll_ok,sSome_ok,s_IsFormula_ok _ (by omega),eW,sRun_ok,holdsOn_ok,iRun_ok,trivial⟩ hg) fun code hf=>⟨true,⟨1,mc_main hD hW (bytes_fit hf) _⟩,rfl⟩
end Go.Proofs.YtjafncnjefnloaaDoor.Den

/-
  Texts that the claim rests on, merged: PC, MC, Cnt, CrL.
-/
import Derived.Test.YtjafncnjefnloaaDoorZRowCr11
import Derived.Test.YtjafncnjefnloaaDoorZRowCr26
import Derived.Test.YtjafncnjefnloaaDoorZRowCr27
import Derived.Test.YtjafncnjefnloaaDoorZRowCr29

namespace Go.Proofs.YtjafncnjefnloaaDoor.Den
open Go.RowKit
set_option maxRecDepth 100000
set_option linter.unusedVariables false
namespace l_FnExactAllRunsHold
noncomputable abbrev bd:=bodyOf Tryd.f4
end l_FnExactAllRunsHold
namespace l_FnExactSomeRunHolds
noncomputable abbrev bd:=bodyOf Tryd.f5
end l_FnExactSomeRunHolds
namespace l_FnModelCheck
noncomputable abbrev bd:=bodyOf Tryd.f6
noncomputable abbrev q17:=nthC [1,1,1,1,1,1,1,1,1,1,1] bd
end l_FnModelCheck
namespace l_FnCounterRun
structure Gs where
 l_big:List Int->Option (Bool)
 s_DrawCounterRun:List Int->Option (Gr×List Int×Fm×Int)
 i_CounterRun:Gr->List Int->Fm->Int->Option (Lasso×Bool)
 s_CounterRun:Gr->List Int->Fm->Int->Option (Lasso×Bool)
 i_AllRunsHold:Gr->List Int->Fm->Option (Bool×Bool)
 s_AllRunsHold:Gr->List Int->Fm->Option (Bool×Bool)
 i_IsRun:Gr->Lasso->Option (Bool)
 i_HoldsOn:Fm->Lasso->List Int->Option (Bool)
 l_ints:List Int->List Int->Option (Bool)
noncomputable def ents (G:Gs):List Ent:=[l_big.ent G.l_big,s_DrawCounterRun.ent G.s_DrawCounterRun,i_CounterRun.ent G.i_CounterRun,s_CounterRun.ent G.s_CounterRun,i_AllRunsHold.ent G.i_AllRunsHold,s_AllRunsHold.ent G.s_AllRunsHold,i_IsRun.ent G.i_IsRun,i_HoldsOn.ent G.i_HoldsOn,l_ints.ent G.l_ints]
noncomputable def main {R:Type} (G:Gs) (n:Nat) (code:List Int) (K:Bool->Option R):Option R:=
 Option.bind (G.l_big code) fun r=>
 bif r then
  (K true)
 else
  Option.bind (G.s_DrawCounterRun code) fun r2=>
  Option.bind (G.i_CounterRun r2.1 r2.2.1 (Fm.mk (Fm.kind r2.2.2.1) (Fm.prop r2.2.2.1) (Fm.kids r2.2.2.1)) r2.2.2.2) fun r3=>
  Option.bind (G.s_CounterRun r2.1 r2.2.1 (Fm.mk (Fm.kind r2.2.2.1) (Fm.prop r2.2.2.1) (Fm.kids r2.2.2.1)) r2.2.2.2) fun r4=>
  Option.bind (G.i_AllRunsHold r2.1 r2.2.1 (Fm.mk (Fm.kind r2.2.2.1) (Fm.prop r2.2.2.1) (Fm.kids r2.2.2.1))) fun r5=>
  Option.bind (G.s_AllRunsHold r2.1 r2.2.1 (Fm.mk (Fm.kind r2.2.2.1) (Fm.prop r2.2.2.1) (Fm.kids r2.2.2.1))) fun r6=>
  bif !(r3.2==r4.2)then
   (K false)
  else
   bif !(r5.2==r6.2)then
    (K false)
   else
    bif !(r5.1==r6.1)then
     (K false)
    else
     bif !r3.2 then
      (K (decide ((List.length (Lasso.states r3.1):Int)=0)))
     else
      Option.bind (G.i_CounterRun r2.1 r2.2.1 (Fm.mk (Fm.kind r2.2.2.1) (Fm.prop r2.2.2.1) (Fm.kids r2.2.2.1)) (wr ((List.length (Lasso.states r3.1):Int)-1))) fun r7=>
      Option.bind (G.i_CounterRun r2.1 r2.2.1 (Fm.mk (Fm.kind r2.2.2.1) (Fm.prop r2.2.2.1) (Fm.kids r2.2.2.1)) (List.length (Lasso.states r3.1):Int)) fun r8=>
      bif !r5.1 then
       (
       Option.bind (G.i_IsRun r2.1 r3.1) fun r9=>
       bif r9 then
        (
        Option.bind (G.i_HoldsOn (Fm.mk (Fm.kind r2.2.2.1) (Fm.prop r2.2.2.1) (Fm.kids r2.2.2.1)) r3.1 r2.2.1) fun r10=>
        bif !r10 then
         (
         bif decide ((List.length (Lasso.states r3.1) : Int) ≤ r2.2.2.2) then
          (
          bif !r7.2 then
           (
           bif r8.2 then
            (
            Option.bind (G.l_ints (Lasso.states r8.1) (Lasso.states r3.1)) fun r11=>
            bif r11 then
             (K (decide ((Lasso.back r8.1)=(Lasso.back r3.1))))
            else
             K false
            )
           else
            K false
           )
          else
           K false
          )
         else
          K false
         )
        else
         K false
        )
       else
        K false
       )
      else
       K false
noncomputable def pc (_:Gs) (_:Nat):Pcs:=⟨fun _ _ _ _=>none,fun _ _ _ _=>none,fun _ _ _ _=>none⟩
noncomputable def an:Ann:=⟨140,0,[],[],[2],[],[]⟩
noncomputable abbrev bd:=bodyOf Tryd.f7
noncomputable def Does (G:Gs) (code:List Int) (r:Bool):Prop:=∃n,main (R:=AT×List Ob) G n code (fun r0=>some (.one (.b r0),[]))=some (.one (.b r),[])
theorem ok {G:Gs} (hG:AllE Tryd.prog (ents G)) {g:List Int->Option (Bool)} (hg:∀code r,g code=some r->Does G code r):EntOK Tryd.prog (ent g):=fun R xs H K r hc=>by
 simp only[ent]at hc
 split at hc
 ·obtain⟨r,j1,j2⟩:=bind_some hc
  obtain⟨n,j3⟩:=hg _ _ j1
  exact⟨_,_,j2,fnP hG an (pc G n) bd [.tmp 2] Tryd.func7 (.inl rfl) (apl [] trivial) (.trans (by kernel_rfl) j3)⟩
 ·cases hc
end l_FnCounterRun
end Go.Proofs.YtjafncnjefnloaaDoor.Den

namespace Go.Proofs.YtjafncnjefnloaaDoor.Den
open Go.RowKit
open Classical
theorem big_ok :EntOK Tryd.prog (l_big.ent fun code=>some (decide (1048576<(List.length code:Int)))):=l_big.ok (G:=⟨()⟩) trivial fun code r h=>⟨1,by cases h;rfl⟩
section
variable {g : Gr} {labels : List Int} {f : Fm}
theorem las_of {l:Lasso} (hl:lasOk l) (hr:runOk g l):IsLas g l.states.length l.back.toNat (stOf l):=⟨hl.lt,hr.1,fun i hi=>(hr.2 i hi).1,fun i hi=>(hr.2 i hi).2⟩
theorem covers_self (hf:goodF f):covers (temps 13 f []) f:=fun x hx h6=>(mem_temps 13 f [] x hf.1 hf.2).2 (.inr ⟨hx,h6⟩)
theorem covers_not (hf:isFormula f=true):covers (temps 13 f []) (notF f):=fun x hx h6=>by
 rcases within_iff.1 hx with rfl|⟨y,h1,h2⟩
 ·simp[notF]at h6
 ·simp[notF]at h1
  subst h1
  exact covers_self (isF_good hf) x h2 h6
theorem hv_not (labels:List Int) (n back:Nat) (st:Nat->Nat) (f:Fm) (i:Nat):hv labels n back st (notF f) i= !hv labels n back st f i:=by
 rw[hv_eq,if_neg (by simp[notF]),if_neg (by simp[notF]),if_pos (show (notF f).kind=3 from rfl)];rfl
theorem someN_of_las (hc:chkOk g labels f) {n back:Nat} {st:Nat->Nat} (hl:IsLas g n back st) (h:hv labels n back st f 0=false):someI g labels (temps 13 (notF f) []) (notF f):=by
 have hf:=isF_good hc.2.2.2.1
 rw[notF_temps hc.2.2.2.1]
 exact lasso_some hf hl (notF_ok hf.2) (covers_not hc.2.2.2.1) (by rw[hv_not,h];rfl)
end
section
variable {gD : List Int → Option (Gr × List Int × Fm)} {gW : Gr → List Int → Option Lasso}
end
end Go.Proofs.YtjafncnjefnloaaDoor.Den

namespace Go.Proofs.YtjafncnjefnloaaDoor.Den
open Go.RowKit
open Classical
noncomputable def firstC (g:Gr) (labels:List Int) (f:Fm):Nat->Nat->Option Lasso
 |0,_=>none
 |k+1,n=>(crF g labels f (n-1) [0]).or (firstC g labels f k (n+1))
def fiveOk (g:Gr):Prop:=∀j,j<g.edges.length->∀row,g.edges[j]? =some row->row.length<=5
noncomputable def cntF (g:Gr) (labels:List Int) (f:Fm) (most:Int):Lasso×Bool:=if chkOk g labels f/\1<=most/\most<=7/\fiveOk g then outC (firstC g labels f most.toNat 1)else (⟨[],0⟩,false)
noncomputable def gCnt:Gr->List Int->Fm->Int->Option (Lasso×Bool):=fun g labels f most=>if smallA g labels f then some (cntF g labels f most)else none
theorem zero_path {g:Gr} (hg:graphOk g):pathOk g [0]:=⟨by simp,by simp,fun x hx=>by have:=hg.1;simp at hx;subst hx;omega⟩
theorem gCr_zero_path {g:Gr} {labels:List Int} {f:Fm} (hc:chkOk g labels f) {n:Nat} (h1:1<=n) (h7:n<=7):gCr 8 g labels f [0] (n:Int)=some (outC (crF g labels f (n-1) [0])):=by
 unfold gCr
 rw[if_pos ⟨hc,zero_path hc.1,by simp;omega,by omega,by simp;omega⟩,Int.toNat_natCast];rfl
theorem count1 {R:Type} (N lo:Nat) (B:Int->(Int->Option R)->Option R) (val:Nat->Option R)
  (hend:∀nx,B N nx=val N)
  (hstep:∀i nx,lo<=i->i<N->nx ((i+1:Nat):Int)=val (i+1)->B i nx=val i):
  ∀m i,lo<=i->i<=N->N-i<m->iter (fun(v:Int) nx=>B v (fun y0=>nx y0)) m (i:Int)=val i
 |0,i,_,_,hm=>absurd hm (Nat.not_lt_zero _)
 | m + 1, i, hlo, hi, hm => by
  show B (i:Int) (fun y0=>iter (fun(v:Int) nx=>B v (fun y0=>nx y0)) m y0)=_
  rcases Nat.eq_or_lt_of_le hi with rfl|hlt
  ·exact hend _
  ·exact hstep i _ hlo hlt (count1 N lo B val hend hstep m (i+1) (by omega) hlt (by omega))
section
variable {R : Type} {g : Gr} {labels : List Int} {f : Fm}
theorem fiveI_loop (hg:graphOk g) (most a:Int) (b:List Int) (K:Bool->Int->List Int->Option R) (k1:Option R):
  i_CounterRun.l4 ⟨gChk,gCr 8⟩ 100 100 labels most g.edges (g.edges.length:Int) g.states g.edges g.whole f.kind f.prop f.kids a b 0 K k1=if fiveOk g then k1 else K false 0 []:=by
 have h40:=hg.2.1
 have hl:=hg.2.2.1
 unfold i_CounterRun.l4
 refine(all_loopN g.edges.length (fun j=>∀row,g.edges[j]? =some row->row.length<=5) (fun t nx=>i_CounterRun.b4 ⟨gChk,gCr 8⟩ 100 labels most g.edges (g.edges.length:Int) g.states g.edges g.whole f.kind f.prop f.kids a b t nx K k1) (K false 0 []) k1 (fun nx=> ?_) (fun i nx hi=> ?_) 100 (by omega)).trans ?_
 ·unfold i_CounterRun.b4
  rw[nlt_nat (by omega),cond_false]
 ·obtain⟨x,hx,hm⟩:=get_lt hi
  unfold i_CounterRun.b4
  rw[lt_nat hi,cond_true,ix_get hx,Option.bind_some,wr_one (by omega)]
  by_cases c:x.length<=5
  ·rw[decide_eq_false (by omega),cond_false,if_pos fun y hy=>by rw[hx]at hy;cases hy;exact c]
  ·rw[decide_eq_true (by omega),cond_true,if_neg fun q=>c (q x hx)]
 ·by_cases c:fiveOk g
  ·rw[if_pos (c:=fiveOk g) c];exact if_pos c
  ·rw[if_neg (c:=fiveOk g) c];exact if_neg c
theorem fiveS_loop (hg:graphOk g) (most a:Int) (b:List Int) (K:Bool->Int->List Int->Option R) (k1:Option R):
  s_CounterRun.l4 ⟨gChk,gIn,gCr 8⟩ 100 100 labels most g.states g.edges g.whole f.kind f.prop f.kids a b 0 K k1=if fiveOk g then k1 else K false 0 []:=by
 have h40:=hg.2.1
 have hl:=hg.2.2.1
 unfold s_CounterRun.l4
 refine(all_loopN g.edges.length (fun j=>∀row,g.edges[j]? =some row->row.length<=5) (fun t nx=>s_CounterRun.b4 ⟨gChk,gIn,gCr 8⟩ 100 labels most g.states g.edges g.whole f.kind f.prop f.kids a b t nx K k1) (K false 0 []) k1 (fun nx=> ?_) (fun i nx hi=> ?_) 100 (by omega)).trans ?_
 ·unfold s_CounterRun.b4
  rw[nlt_nat (by omega),cond_false]
 ·obtain⟨x,hx,hm⟩:=get_lt hi
  unfold s_CounterRun.b4
  rw[lt_nat hi,cond_true,ix_get hx,Option.bind_some,wr_one (by omega)]
  by_cases c:x.length<=5
  ·rw[decide_eq_false (by omega),cond_false,if_pos fun y hy=>by rw[hx]at hy;cases hy;exact c]
  ·rw[decide_eq_true (by omega),cond_true,if_neg fun q=>c (q x hx)]
 ·by_cases c:fiveOk g
  ·rw[if_pos (c:=fiveOk g) c];exact if_pos c
  ·rw[if_neg (c:=fiveOk g) c];exact if_neg c
theorem firstC_at (g:Gr) (labels:List Int) (f:Fm) {most i:Nat} (h:i<=most):firstC g labels f (most+1-i) i=(crF g labels f (i-1) [0]).or (firstC g labels f (most+1-(i+1)) (i+1)):=by
 rw[show most+1-i=(most+1-(i+1))+1 by omega];rfl
theorem lenI_loop (hc:chkOk g labels f) {most:Nat} (h7:most<=7) (a:Int) (b:List Int) (k0:Bool->List Int->Int->Option R) (k1:Option R):
  i_CounterRun.l10 ⟨gChk,gCr 8⟩ 100 100 labels (most:Int) g.states g.edges g.whole f.kind f.prop f.kids a b 1 k0 k1=(firstC g labels f most 1).elim k1 fun l=>k0 true l.states l.back:=by
 unfold i_CounterRun.l10
 refine(count1 (most+1) 1 (fun t nx=>i_CounterRun.b10 ⟨gChk,gCr 8⟩ 100 labels (most:Int) g.states g.edges g.whole f.kind f.prop f.kids a b t nx k0 k1) (fun i=>(firstC g labels f (most+1-i) i).elim k1 fun l=>k0 true l.states l.back) (fun nx=> ?_) (fun i nx hlo hi hnx=> ?_) 100 1 (by omega) (by omega) (by omega)).trans rfl
 ·unfold i_CounterRun.b10
  rw[decide_eq_false (by omega),cond_false,Nat.sub_self];rfl
 ·unfold i_CounterRun.b10
  dsimp only
  rw[decide_eq_true (by omega),cond_true,Fm.eta,show gCr 8 ⟨g.states,g.edges,g.whole⟩ labels f [0] (i:Int)=_ from gCr_zero_path hc hlo (by omega),Option.bind_some,wr_one (by omega),firstC_at g labels f (by omega)]
  cases crF g labels f (i-1) [0]with
  |none=>exact hnx
  |some l=>rfl
theorem crF_len (g:Gr) (labels:List Int) (f:Fm):∀(d:Nat) (s:List Int) (l:Lasso),crF g labels f d s=some l->l.states.length=s.length+d
 | 0, s, l, h => by
  rw[crF_zero]at h
  obtain⟨b,_,rfl⟩:=Option.map_eq_some_iff.1 h
  rfl
 | d + 1, s, l, h => by
  obtain⟨x,_,hx⟩:=List.exists_of_findSome?_eq_some (show (folS g (lastS s)).findSome? (fun x=>crF g labels f d (s++[x]))=some l from h)
  rw[crF_len g labels f d _ l hx]
  simp;omega
theorem lenS_loop (hc:chkOk g labels f) {most:Nat} (h7:most<=7) (a:Int) (b:List Int) (k0:Bool->Int->List Int->Option R) (k1:Option R):
  s_CounterRun.l9 ⟨gChk,gIn,gCr 8⟩ 100 100 labels (most:Int) g.states g.edges g.whole f.kind f.prop f.kids a b 1 k0 k1=(firstC g labels f most 1).elim k1 fun l=>k0 true l.back l.states:=by
 unfold s_CounterRun.l9
 refine(count1 (most+1) 1 (fun t nx=>s_CounterRun.b9 ⟨gChk,gIn,gCr 8⟩ 100 labels (most:Int) g.states g.edges g.whole f.kind f.prop f.kids a b t nx k0 k1) (fun i=>(firstC g labels f (most+1-i) i).elim k1 fun l=>k0 true l.back l.states) (fun nx=> ?_) (fun i nx hlo hi hnx=> ?_) 100 1 (by omega) (by omega) (by omega)).trans rfl
 ·unfold s_CounterRun.b9
  rw[decide_eq_false (by omega),cond_false,Nat.sub_self];rfl
 ·unfold s_CounterRun.b9
  dsimp only
  rw[decide_eq_true (by omega),cond_true,Fm.eta,show gCr 8 ⟨g.states,g.edges,g.whole⟩ labels f [0] (i:Int)=_ from gCr_zero_path hc hlo (by omega),Option.bind_some,wr_one (by omega),firstC_at g labels f (by omega)]
  cases h:crF g labels f (i-1) [0]with
  |none=>exact hnx
  | some l =>
   have hl:=crF_len g labels f _ _ _ h
   show (Option.bind (lim ([]++l.states)) fun zs2=>k0 true l.back zs2)=_
   rw[List.nil_append,lim_eq (by simp at hl;omega)];rfl
theorem cntI_main (most:Int) (h:smallA g labels f) (K:Lasso->Bool->Option R):i_CounterRun.main ⟨gChk,gCr 8⟩ 100 g labels f most K=K (cntF g labels f most).1 (cntF g labels f most).2:=by
 unfold i_CounterRun.main cntF
 dsimp only
 rw[Fm.eta,show gChk g labels f=some _ from if_pos h,Option.bind_some]
 by_cases hc:chkOk g labels f
 ·rw [decide_eq_true hc, Bool.not_true, cond_false]
  by_cases c1:1<=most
  ·rw [decide_eq_false (by omega), cond_false]
   by_cases c2:most<=7
   ·rw[decide_eq_false (by omega),cond_false,fiveI_loop hc.1]
    by_cases c3:fiveOk g
    ·obtain⟨m,rfl⟩:=Int.eq_ofNat_of_zero_le (show 0<=most by omega)
     rw[if_pos c3,if_pos ⟨hc,c1,c2,c3⟩,lenI_loop hc (by omega),Int.toNat_natCast]
     cases firstC g labels f m 1<;>rfl
    ·rw[if_neg c3,if_neg fun q=>c3 q.2.2.2]
   ·rw[decide_eq_true (by omega),cond_true,if_neg fun q=>c2 q.2.2.1]
  ·rw[decide_eq_true (by omega),cond_true,if_neg fun q=>c1 q.2.1]
 ·rw[decide_eq_false hc,Bool.not_false,cond_true,if_neg fun q=>hc q.1]
theorem cntS_main (most:Int) (h:smallA g labels f) (K:Lasso->Bool->Option R):s_CounterRun.main ⟨gChk,gIn,gCr 8⟩ 100 g labels f most K=K (cntF g labels f most).1 (cntF g labels f most).2:=by
 unfold s_CounterRun.main cntF
 dsimp only
 rw[Fm.eta,show gChk g labels f=some _ from if_pos h,Option.bind_some]
 by_cases hc:chkOk g labels f
 ·rw [decide_eq_true hc, Bool.not_true, cond_false, Option.bind_some]
  by_cases c1:1<=most
  ·by_cases c2:most<=7
   ·rw[decide_eq_true c1,decide_eq_true c2,Bool.and_self,Bool.not_true,cond_false,fiveS_loop hc.1]
    by_cases c3:fiveOk g
    ·obtain⟨m,rfl⟩:=Int.eq_ofNat_of_zero_le (show 0<=most by omega)
     rw[if_pos c3,if_pos ⟨hc,c1,c2,c3⟩,lenS_loop hc (by omega),Int.toNat_natCast]
     cases firstC g labels f m 1<;>rfl
    ·rw[if_neg c3,if_neg fun q=>c3 q.2.2.2]
   ·rw[decide_eq_false c2,Bool.and_false,Bool.not_false,cond_true,if_neg fun q=>c2 q.2.2.1]
  ·rw[decide_eq_false c1,Bool.false_and,Bool.not_false,cond_true,if_neg fun q=>c1 q.2.1]
 ·rw[decide_eq_false hc,Bool.not_false,cond_true,if_neg fun q=>hc q.1]
end
theorem cntI_ok :EntOK Tryd.prog (i_CounterRun.ent gCnt):=i_CounterRun.ok (G:=⟨gChk,gCr 8⟩) ⟨chk_ok,crI_ok 8,trivial⟩ fun g labels f most r h=>by
 unfold gCnt at h
 split at h
 ·rename_i hp
  cases h
  exact⟨100,cntI_main most hp _⟩
 ·cases h
theorem cntS_ok :EntOK Tryd.prog (s_CounterRun.ent gCnt):=s_CounterRun.ok (G:=⟨gChk,gIn,gCr 8⟩) ⟨right_ok,l1In_ok,crS_ok 8,trivial⟩ fun g labels f most r h=>by
 unfold gCnt at h
 split at h
 ·rename_i hp
  cases h
  exact⟨100,cntS_main most hp _⟩
 ·cases h
def chain (g:Gr) (s:List Int):Prop:=s[0]? =some 0/\pathOk g s/\∀i,i+1<s.length->s[i+1]?.getD 0∈folS g (s[i]?.getD 0).toNat
theorem chain.app {g:Gr} (hg:graphOk g) {s:List Int} (h:chain g s) {x:Int} (hx:x∈folS g (lastS s)) (hl:s.length<7):chain g (s++[x]):=by
 obtain⟨h1,h2,h3⟩:=h
 have hlen:=h2.1
 refine⟨by rw[List.getElem?_append_left (by omega)];exact h1,h2.app ((folS_of hg h2.last.2).2.2 x hx) hl,fun i hi=> ?_⟩
 simp only[List.length_append,List.length_cons,List.length_nil]at hi
 by_cases c:i+1<s.length
 ·rw[List.getElem?_append_left c,List.getElem?_append_left (by omega)]
  exact h3 i c
 ·have e:i=s.length-1:=by omega
  subst e
  have e1:(s++[x])[s.length-1+1]? =some x:=by
   rw[show s.length-1+1=s.length by omega,List.getElem?_append_right (Nat.le_refl _),Nat.sub_self];rfl
  have e2:(s++[x])[s.length-1]? =s[s.length-1]? :=List.getElem?_append_left (by omega)
  rw[e1,e2]
  exact hx
theorem fnd_spec {P:Nat->Bool}:∀(k i b:Nat),fnd P k i=some b->P b=true/\i<=b/\b<i+k
 |0,_,_,h=>by cases h
 | k + 1, i, b, h => by
  unfold fnd at h
  split at h
  ·rename_i hp
   cases h
   exact⟨hp,by omega,by omega⟩
  ·obtain⟨q1,q2,q3⟩:=fnd_spec k (i+1) b h
   exact⟨q1,by omega,by omega⟩
theorem crF_spec {g:Gr} (hg:graphOk g) {labels:List Int} {f:Fm}:∀(d:Nat) (s:List Int) (l:Lasso),chain g s->s.length+d<=7->crF g labels f d s=some l->chain g l.states/\∃b:Nat,b<l.states.length/\l.back=(b:Int)/\badAt g labels f l.states b=true
 | 0, s, l, hs, _, h => by
  rw[crF_zero]at h
  obtain⟨b,hb,rfl⟩:=Option.map_eq_some_iff.1 h
  obtain⟨q1,_,q3⟩:=fnd_spec _ _ _ hb
  exact⟨hs,b,by simpa using q3,rfl,q1⟩
 | d + 1, s, l, hs, hd, h => by
  obtain⟨x,hx,hl⟩:=List.exists_of_findSome?_eq_some (show (folS g (lastS s)).findSome? (fun x=>crF g labels f d (s++[x]))=some l from h)
  exact crF_spec hg d _ l (hs.app hg hx (by omega)) (by simp;omega) hl
theorem found_run {g:Gr} (hg:graphOk g) {labels:List Int} {f:Fm} {n:Nat} (h1:1<=n) (h7:n<=7) {l:Lasso} (h:crF g labels f (n-1) [0]=some l):lasOk l/\runOk g l/\(∀x∈l.states,x<g.states.length)/\hvL labels l f 0=false/\l.states.length=n:=by
 have hlen:=crF_len g labels f _ _ _ h
 simp only[List.length_cons,List.length_nil]at hlen
 obtain⟨⟨c1,c2,c3⟩,b,b1,b2,b3⟩:=crF_spec hg (n-1) [0] l ⟨rfl,zero_path hg,fun i hi=>by simp at hi⟩ (by simp;omega) h
 unfold badAt at b3
 rw[Bool.and_eq_true,decide_eq_true_eq]at b3
 have e:(⟨l.states,(b:Int)⟩:Lasso)=l:=by rw[<-b2]
 rw[e]at b3
 obtain⟨p1,p2,p3⟩:=c2
 have hl:lasOk l:=⟨p1,by omega,by omega,by omega,fun x hx=>(p3 x hx).1⟩
 have hst:∀i,i<l.states.length->((stOf l i:Nat):Int)=l.states[i]?.getD 0:=fun i hi=>by
  unfold stOf
  rw[List.getElem?_eq_getElem hi,Option.getD_some]
  exact Int.toNat_of_nonneg (p3 _ (List.getElem_mem hi)).1
 refine⟨hl,⟨by unfold stOf;rw[c1];rfl,fun i hi=>⟨?_,?_⟩⟩,fun x hx=>(p3 x hx).2,by simpa using b3.2,by omega⟩
 ·have:=hst i hi
  have:=(p3 _ (List.getElem_mem hi)).2
  rw[List.getElem?_eq_getElem hi,Option.getD_some]at*
  omega
 ·have hn:=nxt_lt' (i:=i) hl.lt
  rw[hst _ hn]
  unfold nxt
  split
  ·rename_i c
   exact c3 i c
  ·have:i=l.states.length-1:=by omega
   subst this
   rw[b2,Int.toNat_natCast]
   exact b3.1
theorem firstC_spec {g:Gr} {labels:List Int} {f:Fm}:∀(k n:Nat) (l:Lasso),firstC g labels f k n=some l->∃m,n<=m/\m<n+k/\crF g labels f (m-1) [0]=some l/\∀m',n<=m'->m'<m->crF g labels f (m'-1) [0]=none
 |0,_,_,h=>by cases h
 | k + 1, n, l, h => by
  have h:(crF g labels f (n-1) [0]).or (firstC g labels f k (n+1))=some l:=h
  cases hc:crF g labels f (n-1) [0]with
  | some l' =>
   rw[hc]at h
   cases h
   exact⟨n,by omega,by omega,hc,fun m' h1 h2=>by omega⟩
  | none =>
   rw[hc]at h
   obtain⟨m,q1,q2,q3,q4⟩:=firstC_spec k (n+1) l h
   exact⟨m,by omega,by omega,q3,fun m' h1 h2=>(Nat.eq_or_lt_of_le h1).elim (fun e=>e▸hc) fun h1=>q4 m' h1 h2⟩
theorem firstC_none {g:Gr} {labels:List Int} {f:Fm}:∀(k n:Nat),(∀m,n<=m->m<n+k->crF g labels f (m-1) [0]=none)->firstC g labels f k n=none
 |0,_,_=>rfl
 | k + 1, n, h => by
  show (crF g labels f (n-1) [0]).or (firstC g labels f k (n+1))=none
  rw[h n (by omega) (by omega),firstC_none k (n+1) fun m h1 h2=>h m (by omega) (by omega)];rfl
theorem firstC_some {g:Gr} {labels:List Int} {f:Fm} {l:Lasso}:∀(k n m:Nat),n<=m->m<n+k->crF g labels f (m-1) [0]=some l->(∀m',n<=m'->m'<m->crF g labels f (m'-1) [0]=none)->firstC g labels f k n=some l
 |0,n,m,h1,h2,_,_=>by omega
 | k + 1, n, m, h1, h2, h3, h4 => by
  show (crF g labels f (n-1) [0]).or (firstC g labels f k (n+1))=some l
  rcases Nat.eq_or_lt_of_le h1 with rfl|h1
  ·rw[h3];rfl
  ·rw[h4 n (Nat.le_refl _) h1,firstC_some k (n+1) m h1 (by omega) h3 fun m' q1 q2=>h4 m' (by omega) q2];rfl
end Go.Proofs.YtjafncnjefnloaaDoor.Den

namespace Go.Proofs.YtjafncnjefnloaaDoor.Den
open Go.RowKit
open Classical
def DrawCP (g:List Int->Option (Gr×List Int×Fm×Int)):Prop:=∀code,code.length<=1048576->∃r,g code=some r/\smallA r.1 r.2.1 r.2.2.1
theorem drawC_ex :∃g,EntOK Tryd.prog (s_DrawCounterRun.ent g)/\DrawCP g:=by
 obtain⟨gB,eB,hB⟩:=byte_ex
 obtain⟨gL,eL,hL⟩:=below_ex eB hB
 obtain⟨gO,eO,hO⟩:=once_ex eL hL
 obtain⟨gN,eN,hN⟩:=new_ex
 obtain⟨gM,eM,hM⟩:=marks_ex eL hL
 obtain⟨gE,eE,hE⟩:=drawO_ex hL hO eL eO
 obtain⟨gT,eT,hT⟩:=bent_ex hL eL eE hE
 obtain⟨gG,eG,hG⟩:=graph_ex hL hO hM eL eO eM
 obtain⟨gP,eP,hP⟩:∃g,EntOK Tryd.prog (s_l1PickInt.ent g)/\∀c list,(Inv c/\list=[0,1,3,5,6,8])->∃r,g c list=some r/\True:=
  by_pick2 (fun g hg=>s_l1PickInt.ok (G:=⟨gL⟩) ⟨eL,trivial⟩ hg) fun c list ⟨hc,hl⟩=>by
   subst hl
   obtain⟨r,e,q0,q1,_⟩:=hL c 6 ⟨hc,by omega⟩
   have q1:=q1 (by omega)
   obtain⟨x,hx,_⟩:=ix_in (xs:=[(0:Int),1,3,5,6,8]) (i:=r.1) q0 (by simpa using q1)
   refine⟨(x,r.2),⟨1,?_⟩,trivial⟩
   unfold s_l1PickInt.main
   dsimp only
   rw[show gL c (List.length [(0:Int),1,3,5,6,8]:Int)=some r from e,Option.bind_some,hx];rfl
 refine by_pick (fun g hg=>s_DrawCounterRun.ok (G:=⟨gN,gG,gT,gP⟩) ⟨eN,eG,eT,eP,trivial⟩ hg) fun code hl=> ?_
 obtain⟨c0,e0,i0⟩:=hN code hl
 obtain⟨r2,e2,g1,g2,g3,g4,i2⟩:=hG c0 i0
 obtain⟨r4,e4,t4,i4⟩:=hT r2.2.2 i2
 obtain⟨r5,e5,_⟩:=hP r4.2 _ ⟨i4,rfl⟩
 refine⟨(r2.1,r2.2.1,r4.1,r5.1),⟨1,?_⟩,⟨by simp only;omega,by simp only;omega,fun row h=>by have:=g3 row h;omega⟩,by simp only;omega,by unfold Fm.size;simp only;omega⟩
 unfold s_DrawCounterRun.main
 simp only[e0,e2,e4,e5,Option.bind_some]
noncomputable def gInts:List Int->List Int->Option Bool:=fun a b=>if a=b/\a.length<=1000 then some true else none
theorem ints_ok :EntOK Tryd.prog (l_ints.ent gInts):=l_ints.ok (G:=⟨()⟩) trivial fun a b r h=>by
 unfold gInts at h
 split at h
 ·rename_i hp
  cases h
  obtain⟨rfl,hl⟩:=hp
  refine⟨1001,?_⟩
  unfold l_ints.main
  rw[decide_eq_true rfl,Bool.not_true,cond_false]
  unfold l_ints.l4
  refine(all_loopN a.length (fun _=>True) (fun t nx=>l_ints.b4 ⟨()⟩ 1001 a a t nx (fun t4=>some (AT.one (C.b t4),[])) (some (AT.one (C.b true),[]))) none (some (AT.one (C.b true),[])) (fun nx=> ?_) (fun i nx hi=> ?_) 1001 (by omega)).trans (if_pos fun _ _=>trivial)
  ·unfold l_ints.b4
   rw[nlt_nat (by omega),cond_false]
  ·obtain⟨x,hx,_⟩:=get_lt hi
   unfold l_ints.b4
   rw[lt_nat hi,cond_true,ix_get hx,Option.bind_some,Option.bind_some,decide_eq_true rfl,Bool.not_true,cond_false,wr_one (by omega),if_pos trivial]
 ·cases h
section
variable {gD : List Int → Option (Gr × List Int × Fm × Int)}
noncomputable abbrev gCL (gD:List Int->Option (Gr×List Int×Fm×Int)):l_FnCounterRun.Gs:={l_big:=fun code=>some (decide (1048576<(List.length code:Int))),s_DrawCounterRun:=gD,i_CounterRun:=gCnt,s_CounterRun:=gCnt,i_AllRunsHold:=gAll,s_AllRunsHold:=gAll,i_IsRun:=gRunI,i_HoldsOn:=gHO,l_ints:=gInts}
theorem cl_main {R:Type} (hD:DrawCP gD) (code:List Int) (K:Bool->Option R):l_FnCounterRun.main (gCL gD) 1 code K=K true:=by
 unfold l_FnCounterRun.main
 dsimp only
 rw[Option.bind_some]
 by_cases c0:(1048576:Int)<(List.length code:Int)
 ·rw[decide_eq_true c0,cond_true]
 ·obtain⟨⟨g,labels,f,most⟩,e,hs⟩:=hD code (by omega)
  dsimp only at hs
  rw[decide_eq_false c0,cond_false,e,Option.bind_some]
  simp only[Fm.eta]
  have hcnt:∀q:Int,gCnt g labels f q=some (cntF g labels f q):=fun q=>if_pos hs
  rw[show gAll g labels f=some _ from if_pos hs]
  simp only[hcnt,Option.bind_some,beq_self_eq_true,Bool.not_true,cond_false]
  by_cases hc:chkOk g labels f/\1<=most/\most<=7/\fiveOk g
  ·have ec:cntF g labels f most=outC (firstC g labels f most.toNat 1):=if_pos hc
   obtain⟨hc,m1,m7,m5⟩:=hc
   obtain⟨most,rfl⟩:=Int.eq_ofNat_of_zero_le (show 0<=most by omega)
   rw[Int.toNat_natCast]at ec
   cases hf:firstC g labels f most 1 with
   |none=>rw[ec,hf];rfl
   | some l =>
    obtain⟨n,n1,n2,n3,n4⟩:=firstC_spec _ _ _ hf
    obtain⟨hl,hr,hx,hv,hlen⟩:=found_run hc.1 n1 (by omega) n3
    have hp:PreL labels l:=⟨hl,hc.2.2.1,fun x h=>by have:=hx x h;have:=hc.2.1;omega⟩
    have h40:=hc.1.2.1
    have ea:allF g labels f=(!decide (someI g labels (temps 13 (notF f) []) (notF f)),true):=if_pos hc
    have e7:cntF g labels f (wr ((l.states.length:Int)-1))=(⟨[],0⟩,false):=by
     rw[wr_in (by omega)]
     unfold cntF
     by_cases c:chkOk g labels f/\1<=(l.states.length:Int)-1/\(l.states.length:Int)-1<=7/\fiveOk g
     ·rw[if_pos c,show ((l.states.length:Int)-1).toNat=n-1 by omega,firstC_none (n-1) 1 fun m q1 q2=>n4 m q1 (by omega)];rfl
     ·rw[if_neg c]
    have e8:cntF g labels f (l.states.length:Int)=(l,true):=by
     unfold cntF
     rw[if_pos ⟨hc,by omega,by omega,m5⟩,Int.toNat_natCast,hlen,firstC_some n 1 n n1 (by omega) n3 n4];rfl
    simp only[ec,hf,outC,e7,e8,ea]
    rw[decide_eq_true (someN_of_las hc (las_of hl hr) hv)]
    simp only[Bool.not_true,Bool.not_false,cond_true,cond_false]
    rw[show gRunI g l=some _ from if_pos ⟨hc.1,hl⟩,Option.bind_some,decide_eq_true hr,cond_true,show gHO f l labels=some _ from if_pos ⟨hc.2.2.2.1,hp,by have:=hc.2.1;omega⟩,Option.bind_some,hv,Bool.not_false,cond_true,decide_eq_true (by omega),cond_true,show gInts l.states l.states=some true from if_pos ⟨rfl,by omega⟩,Option.bind_some,cond_true,decide_eq_true trivial]
  ·have ec:cntF g labels f most=(⟨[],0⟩,false):=if_neg hc
   rw[ec];rfl
end
theorem counterRun_law :∃g,EntOK Tryd.prog (l_FnCounterRun.ent g)/\∀code,Fit (.sl .u) code->∃r,g code=some r/\r=true:=by
 obtain⟨gD,eD,hD⟩:=drawC_ex
 exact by_pick (fun g hg=>l_FnCounterRun.ok (G:=gCL gD) ⟨big_ok,eD,cntI_ok,cntS_ok,iAll_ok,sAll_ok,iRun_ok,holdsOn_ok,ints_ok,trivial⟩ hg) fun code _=>⟨true,⟨1,cl_main hD code _⟩,rfl⟩
end Go.Proofs.YtjafncnjefnloaaDoor.Den

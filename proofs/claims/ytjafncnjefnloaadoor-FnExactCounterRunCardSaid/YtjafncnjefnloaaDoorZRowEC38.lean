/-
  Texts that the claim rests on, merged: PC, MC, Cnt.
-/
import Derived.Test.YtjafncnjefnloaaDoorZRowEC14
import Derived.Test.YtjafncnjefnloaaDoorZRowEC34
import Derived.Test.YtjafncnjefnloaaDoorZRowEC35
import Derived.Test.YtjafncnjefnloaaDoorZRowEC37

namespace Go.Proofs.YtjafncnjefnloaaDoor.Den
open Go.RowKit
set_option maxRecDepth 100000
set_option linter.unusedVariables false
namespace l_FnExactAllRunsHold
noncomputable abbrev bd:=bodyOf Tryd.f4
end l_FnExactAllRunsHold
namespace l_FnExactSomeRunHolds
noncomputable abbrev bd:=bodyOf Tryd.f5
end l_FnExactSomeRunHolds
namespace l_FnModelCheck
noncomputable abbrev bd:=bodyOf Tryd.f6
noncomputable abbrev q17:=nthC [1,1,1,1,1,1,1,1,1,1,1] bd
end l_FnModelCheck
namespace l_FnCounterRun
noncomputable abbrev bd:=bodyOf Tryd.f7
end l_FnCounterRun
end Go.Proofs.YtjafncnjefnloaaDoor.Den

namespace Go.Proofs.YtjafncnjefnloaaDoor.Den
open Go.RowKit
open Classical
section
variable {g : Gr} {labels : List Int} {f : Fm}
end
section
variable {gD : List Int → Option (Gr × List Int × Fm)} {gW : Gr → List Int → Option Lasso}
end
end Go.Proofs.YtjafncnjefnloaaDoor.Den

namespace Go.Proofs.YtjafncnjefnloaaDoor.Den
open Go.RowKit
open Classical
noncomputable def firstC (g:Gr) (labels:List Int) (f:Fm):Nat->Nat->Option Lasso
 |0,_=>none
 |k+1,n=>(crF g labels f (n-1) [0]).or (firstC g labels f k (n+1))
def fiveOk (g:Gr):Prop:=∀j,j<g.edges.length->∀row,g.edges[j]? =some row->row.length<=5
noncomputable def cntF (g:Gr) (labels:List Int) (f:Fm) (most:Int):Lasso×Bool:=if chkOk g labels f/\1<=most/\most<=7/\fiveOk g then outC (firstC g labels f most.toNat 1)else (⟨[],0⟩,false)
noncomputable def gCnt:Gr->List Int->Fm->Int->Option (Lasso×Bool):=fun g labels f most=>if smallA g labels f then some (cntF g labels f most)else none
theorem zero_path {g:Gr} (hg:graphOk g):pathOk g [0]:=⟨by simp,by simp,fun x hx=>by have:=hg.1;simp at hx;subst hx;omega⟩
theorem gCr_zero_path {g:Gr} {labels:List Int} {f:Fm} (hc:chkOk g labels f) {n:Nat} (h1:1<=n) (h7:n<=7):gCr 8 g labels f [0] (n:Int)=some (outC (crF g labels f (n-1) [0])):=by
 unfold gCr
 rw[if_pos ⟨hc,zero_path hc.1,by simp;omega,by omega,by simp;omega⟩,Int.toNat_natCast];rfl
theorem count1 {R:Type} (N lo:Nat) (B:Int->(Int->Option R)->Option R) (val:Nat->Option R)
  (hend:∀nx,B N nx=val N)
  (hstep:∀i nx,lo<=i->i<N->nx ((i+1:Nat):Int)=val (i+1)->B i nx=val i):
  ∀m i,lo<=i->i<=N->N-i<m->iter (fun(v:Int) nx=>B v (fun y0=>nx y0)) m (i:Int)=val i
 |0,i,_,_,hm=>absurd hm (Nat.not_lt_zero _)
 | m + 1, i, hlo, hi, hm => by
  show B (i:Int) (fun y0=>iter (fun(v:Int) nx=>B v (fun y0=>nx y0)) m y0)=_
  rcases Nat.eq_or_lt_of_le hi with rfl|hlt
  ·exact hend _
  ·exact hstep i _ hlo hlt (count1 N lo B val hend hstep m (i+1) (by omega) hlt (by omega))
section
variable {R : Type} {g : Gr} {labels : List Int} {f : Fm}
theorem fiveI_loop (hg:graphOk g) (most a:Int) (b:List Int) (K:Bool->Int->List Int->Option R) (k1:Option R):
  i_CounterRun.l4 ⟨gChk,gCr 8⟩ 100 100 labels most g.edges (g.edges.length:Int) g.states g.edges g.whole f.kind f.prop f.kids a b 0 K k1=if fiveOk g then k1 else K false 0 []:=by
 have h40:=hg.2.1
 have hl:=hg.2.2.1
 unfold i_CounterRun.l4
 refine(all_loopN g.edges.length (fun j=>∀row,g.edges[j]? =some row->row.length<=5) (fun t nx=>i_CounterRun.b4 ⟨gChk,gCr 8⟩ 100 labels most g.edges (g.edges.length:Int) g.states g.edges g.whole f.kind f.prop f.kids a b t nx K k1) (K false 0 []) k1 (fun nx=> ?_) (fun i nx hi=> ?_) 100 (by omega)).trans ?_
 ·unfold i_CounterRun.b4
  rw[nlt_nat (by omega),cond_false]
 ·obtain⟨x,hx,hm⟩:=get_lt hi
  unfold i_CounterRun.b4
  rw[lt_nat hi,cond_true,ix_get hx,Option.bind_some,wr_one (by omega)]
  by_cases c:x.length<=5
  ·rw[decide_eq_false (by omega),cond_false,if_pos fun y hy=>by rw[hx]at hy;cases hy;exact c]
  ·rw[decide_eq_true (by omega),cond_true,if_neg fun q=>c (q x hx)]
 ·by_cases c:fiveOk g
  ·rw[if_pos (c:=fiveOk g) c];exact if_pos c
  ·rw[if_neg (c:=fiveOk g) c];exact if_neg c
theorem fiveS_loop (hg:graphOk g) (most a:Int) (b:List Int) (K:Bool->Int->List Int->Option R) (k1:Option R):
  s_CounterRun.l4 ⟨gChk,gIn,gCr 8⟩ 100 100 labels most g.states g.edges g.whole f.kind f.prop f.kids a b 0 K k1=if fiveOk g then k1 else K false 0 []:=by
 have h40:=hg.2.1
 have hl:=hg.2.2.1
 unfold s_CounterRun.l4
 refine(all_loopN g.edges.length (fun j=>∀row,g.edges[j]? =some row->row.length<=5) (fun t nx=>s_CounterRun.b4 ⟨gChk,gIn,gCr 8⟩ 100 labels most g.states g.edges g.whole f.kind f.prop f.kids a b t nx K k1) (K false 0 []) k1 (fun nx=> ?_) (fun i nx hi=> ?_) 100 (by omega)).trans ?_
 ·unfold s_CounterRun.b4
  rw[nlt_nat (by omega),cond_false]
 ·obtain⟨x,hx,hm⟩:=get_lt hi
  unfold s_CounterRun.b4
  rw[lt_nat hi,cond_true,ix_get hx,Option.bind_some,wr_one (by omega)]
  by_cases c:x.length<=5
  ·rw[decide_eq_false (by omega),cond_false,if_pos fun y hy=>by rw[hx]at hy;cases hy;exact c]
  ·rw[decide_eq_true (by omega),cond_true,if_neg fun q=>c (q x hx)]
 ·by_cases c:fiveOk g
  ·rw[if_pos (c:=fiveOk g) c];exact if_pos c
  ·rw[if_neg (c:=fiveOk g) c];exact if_neg c
theorem firstC_at (g:Gr) (labels:List Int) (f:Fm) {most i:Nat} (h:i<=most):firstC g labels f (most+1-i) i=(crF g labels f (i-1) [0]).or (firstC g labels f (most+1-(i+1)) (i+1)):=by
 rw[show most+1-i=(most+1-(i+1))+1 by omega];rfl
theorem lenI_loop (hc:chkOk g labels f) {most:Nat} (h7:most<=7) (a:Int) (b:List Int) (k0:Bool->List Int->Int->Option R) (k1:Option R):
  i_CounterRun.l10 ⟨gChk,gCr 8⟩ 100 100 labels (most:Int) g.states g.edges g.whole f.kind f.prop f.kids a b 1 k0 k1=(firstC g labels f most 1).elim k1 fun l=>k0 true l.states l.back:=by
 unfold i_CounterRun.l10
 refine(count1 (most+1) 1 (fun t nx=>i_CounterRun.b10 ⟨gChk,gCr 8⟩ 100 labels (most:Int) g.states g.edges g.whole f.kind f.prop f.kids a b t nx k0 k1) (fun i=>(firstC g labels f (most+1-i) i).elim k1 fun l=>k0 true l.states l.back) (fun nx=> ?_) (fun i nx hlo hi hnx=> ?_) 100 1 (by omega) (by omega) (by omega)).trans rfl
 ·unfold i_CounterRun.b10
  rw[decide_eq_false (by omega),cond_false,Nat.sub_self];rfl
 ·unfold i_CounterRun.b10
  dsimp only
  rw[decide_eq_true (by omega),cond_true,Fm.eta,show gCr 8 ⟨g.states,g.edges,g.whole⟩ labels f [0] (i:Int)=_ from gCr_zero_path hc hlo (by omega),Option.bind_some,wr_one (by omega),firstC_at g labels f (by omega)]
  cases crF g labels f (i-1) [0]with
  |none=>exact hnx
  |some l=>rfl
theorem crF_len (g:Gr) (labels:List Int) (f:Fm):∀(d:Nat) (s:List Int) (l:Lasso),crF g labels f d s=some l->l.states.length=s.length+d
 | 0, s, l, h => by
  rw[crF_zero]at h
  obtain⟨b,_,rfl⟩:=Option.map_eq_some_iff.1 h
  rfl
 | d + 1, s, l, h => by
  obtain⟨x,_,hx⟩:=List.exists_of_findSome?_eq_some (show (folS g (lastS s)).findSome? (fun x=>crF g labels f d (s++[x]))=some l from h)
  rw[crF_len g labels f d _ l hx]
  simp;omega
theorem lenS_loop (hc:chkOk g labels f) {most:Nat} (h7:most<=7) (a:Int) (b:List Int) (k0:Bool->Int->List Int->Option R) (k1:Option R):
  s_CounterRun.l9 ⟨gChk,gIn,gCr 8⟩ 100 100 labels (most:Int) g.states g.edges g.whole f.kind f.prop f.kids a b 1 k0 k1=(firstC g labels f most 1).elim k1 fun l=>k0 true l.back l.states:=by
 unfold s_CounterRun.l9
 refine(count1 (most+1) 1 (fun t nx=>s_CounterRun.b9 ⟨gChk,gIn,gCr 8⟩ 100 labels (most:Int) g.states g.edges g.whole f.kind f.prop f.kids a b t nx k0 k1) (fun i=>(firstC g labels f (most+1-i) i).elim k1 fun l=>k0 true l.back l.states) (fun nx=> ?_) (fun i nx hlo hi hnx=> ?_) 100 1 (by omega) (by omega) (by omega)).trans rfl
 ·unfold s_CounterRun.b9
  rw[decide_eq_false (by omega),cond_false,Nat.sub_self];rfl
 ·unfold s_CounterRun.b9
  dsimp only
  rw[decide_eq_true (by omega),cond_true,Fm.eta,show gCr 8 ⟨g.states,g.edges,g.whole⟩ labels f [0] (i:Int)=_ from gCr_zero_path hc hlo (by omega),Option.bind_some,wr_one (by omega),firstC_at g labels f (by omega)]
  cases h:crF g labels f (i-1) [0]with
  |none=>exact hnx
  | some l =>
   have hl:=crF_len g labels f _ _ _ h
   show (Option.bind (lim ([]++l.states)) fun zs2=>k0 true l.back zs2)=_
   rw[List.nil_append,lim_eq (by simp at hl;omega)];rfl
theorem cntI_main (most:Int) (h:smallA g labels f) (K:Lasso->Bool->Option R):i_CounterRun.main ⟨gChk,gCr 8⟩ 100 g labels f most K=K (cntF g labels f most).1 (cntF g labels f most).2:=by
 unfold i_CounterRun.main cntF
 dsimp only
 rw[Fm.eta,show gChk g labels f=some _ from if_pos h,Option.bind_some]
 by_cases hc:chkOk g labels f
 ·rw [decide_eq_true hc, Bool.not_true, cond_false]
  by_cases c1:1<=most
  ·rw [decide_eq_false (by omega), cond_false]
   by_cases c2:most<=7
   ·rw[decide_eq_false (by omega),cond_false,fiveI_loop hc.1]
    by_cases c3:fiveOk g
    ·obtain⟨m,rfl⟩:=Int.eq_ofNat_of_zero_le (show 0<=most by omega)
     rw[if_pos c3,if_pos ⟨hc,c1,c2,c3⟩,lenI_loop hc (by omega),Int.toNat_natCast]
     cases firstC g labels f m 1<;>rfl
    ·rw[if_neg c3,if_neg fun q=>c3 q.2.2.2]
   ·rw[decide_eq_true (by omega),cond_true,if_neg fun q=>c2 q.2.2.1]
  ·rw[decide_eq_true (by omega),cond_true,if_neg fun q=>c1 q.2.1]
 ·rw[decide_eq_false hc,Bool.not_false,cond_true,if_neg fun q=>hc q.1]
theorem cntS_main (most:Int) (h:smallA g labels f) (K:Lasso->Bool->Option R):s_CounterRun.main ⟨gChk,gIn,gCr 8⟩ 100 g labels f most K=K (cntF g labels f most).1 (cntF g labels f most).2:=by
 unfold s_CounterRun.main cntF
 dsimp only
 rw[Fm.eta,show gChk g labels f=some _ from if_pos h,Option.bind_some]
 by_cases hc:chkOk g labels f
 ·rw [decide_eq_true hc, Bool.not_true, cond_false, Option.bind_some]
  by_cases c1:1<=most
  ·by_cases c2:most<=7
   ·rw[decide_eq_true c1,decide_eq_true c2,Bool.and_self,Bool.not_true,cond_false,fiveS_loop hc.1]
    by_cases c3:fiveOk g
    ·obtain⟨m,rfl⟩:=Int.eq_ofNat_of_zero_le (show 0<=most by omega)
     rw[if_pos c3,if_pos ⟨hc,c1,c2,c3⟩,lenS_loop hc (by omega),Int.toNat_natCast]
     cases firstC g labels f m 1<;>rfl
    ·rw[if_neg c3,if_neg fun q=>c3 q.2.2.2]
   ·rw[decide_eq_false c2,Bool.and_false,Bool.not_false,cond_true,if_neg fun q=>c2 q.2.2.1]
  ·rw[decide_eq_false c1,Bool.false_and,Bool.not_false,cond_true,if_neg fun q=>c1 q.2.1]
 ·rw[decide_eq_false hc,Bool.not_false,cond_true,if_neg fun q=>hc q.1]
end
theorem cntS_ok :EntOK Tryd.prog (s_CounterRun.ent gCnt):=s_CounterRun.ok (G:=⟨gChk,gIn,gCr 8⟩) ⟨right_ok,l1In_ok,crS_ok 8,trivial⟩ fun g labels f most r h=>by
 unfold gCnt at h
 split at h
 ·rename_i hp
  cases h
  exact⟨100,cntS_main most hp _⟩
 ·cases h
theorem fnd_spec {P:Nat->Bool}:∀(k i b:Nat),fnd P k i=some b->P b=true/\i<=b/\b<i+k
 |0,_,_,h=>by cases h
 | k + 1, i, b, h => by
  unfold fnd at h
  split at h
  ·rename_i hp
   cases h
   exact⟨hp,by omega,by omega⟩
  ·obtain⟨q1,q2,q3⟩:=fnd_spec k (i+1) b h
   exact⟨q1,by omega,by omega⟩
theorem firstC_spec {g:Gr} {labels:List Int} {f:Fm}:∀(k n:Nat) (l:Lasso),firstC g labels f k n=some l->∃m,n<=m/\m<n+k/\crF g labels f (m-1) [0]=some l/\∀m',n<=m'->m'<m->crF g labels f (m'-1) [0]=none
 |0,_,_,h=>by cases h
 | k + 1, n, l, h => by
  have h:(crF g labels f (n-1) [0]).or (firstC g labels f k (n+1))=some l:=h
  cases hc:crF g labels f (n-1) [0]with
  | some l' =>
   rw[hc]at h
   cases h
   exact⟨n,by omega,by omega,hc,fun m' h1 h2=>by omega⟩
  | none =>
   rw[hc]at h
   obtain⟨m,q1,q2,q3,q4⟩:=firstC_spec k (n+1) l h
   exact⟨m,by omega,by omega,q3,fun m' h1 h2=>(Nat.eq_or_lt_of_le h1).elim (fun e=>e▸hc) fun h1=>q4 m' h1 h2⟩
end Go.Proofs.YtjafncnjefnloaaDoor.Den

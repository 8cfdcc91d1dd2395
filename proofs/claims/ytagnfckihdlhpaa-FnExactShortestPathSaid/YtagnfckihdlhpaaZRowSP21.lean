/-
  Texts that the claim rests on, merged: PS2, GrAll.
-/
import Derived.Test.YtagnfckihdlhpaaZRowSP15
import Derived.Test.YtagnfckihdlhpaaZRowSP18
import Derived.Test.YtagnfckihdlhpaaZRowSP19
import Derived.Test.YtagnfckihdlhpaaZRowSP20

namespace Go.Proofs.Ytagnfckihdlhpaa.Den
open Go.RowKit
set_option maxRecDepth 100000
set_option linter.unusedVariables false
namespace s_l1HasInt
structure Gs where
 none_:Unit
noncomputable def ents (_:Gs):List Ent:=[]
noncomputable def b2 {R:Type} (G:Gs) (n:Nat) (list:List Int) (x:Int) (i:Int) (nx:Int->Option R) (k0:Bool->Option R) (k1:Option R):Option R:=
 bif decide (i<(List.length list:Int))then
  (
  Option.bind (ix list i) fun e=>
  bif decide (e=x)then
   (k0 true)
  else
   nx (wr (i+1))
  )
 else
  k1
noncomputable def l2 {R:Type} (G:Gs) (n m:Nat) (list:List Int) (x:Int) (i:Int) (k0:Bool->Option R) (k1:Option R):Option R:=iter (fun(v:Int) nx=>b2 G n list x v (fun y0=>nx y0) k0 k1) m i
noncomputable def main {R:Type} (G:Gs) (n:Nat) (list:List Int) (x:Int) (K:Bool->Option R):Option R:=
 l2 G n n list x 0
  (fun t4=>K t4)
  (K false)
noncomputable def dl2 (G:Gs) (n m:Nat) (R:Type) (st:St) (K:Kt R):Option R:=match st with
 |⟨[(0,.one (.l .i list)),(1,.one (.i x)),(5,.one (.i i))],[]⟩=>l2 G n m list x i (fun t4=>K .ret ⟨[(4,.one (.b t4))],[]⟩) (K (.exit 0) ⟨[],[]⟩)
 |_=>none
noncomputable def pc (G:Gs) (n:Nat):Pcs:=⟨fun R id st K=>bif Nat.beq id 2 then dl2 G n n R st K else none,fun _ _ _ _=>none,fun _ _ _ _=>none⟩
noncomputable def an:Ann:=⟨18,0,[(2,[0,1,5])],[],[4],[],[]⟩
noncomputable abbrev bd:=bodyOf Try.f63
noncomputable abbrev q2:=nthC [1,0,1,0,0] bd
theorem pl2 {G:Gs} (hG:AllE Try.prog (ents G)) (n:Nat):∀m,PieceOK Try.prog an (.loop q2) (dl2 G n m):=lpc hG (pc G n) [0,1,5] ⟨[],[4],[(0,[])]⟩ (apl [] trivial) (fun R st K=>by unfold dl2;split<;>rfl) fun m R st K r h=>by unfold dl2 at h;split at h;exact .trans (by kernel_rfl) h;cases h
noncomputable def Does (G:Gs) (list:List Int) (x:Int) (r:Bool):Prop:=∃n,main (R:=AT×List Ob) G n list x (fun r0=>some (.one (.b r0),[]))=some (.one (.b r),[])
theorem ok {G:Gs} (hG:AllE Try.prog (ents G)) {g:List Int->Int->Option (Bool)} (hg:∀list x r,g list x=some r->Does G list x r):EntOK Try.prog (ent g):=fun R xs H K r hc=>by
 simp only[ent]at hc
 split at hc
 ·obtain⟨r,j1,j2⟩:=bind_some hc
  obtain⟨n,j3⟩:=hg _ _ _ j1
  exact⟨_,_,j2,fnP hG an (pc G n) bd [.tmp 4] Try.func63 (.inl rfl) (apl [(1,2,.loop q2)] ⟨pl2 hG n n,trivial⟩) (.trans (by kernel_rfl) j3)⟩
 ·cases hc
end s_l1HasInt
namespace s_IsGraph
structure Gs where
 s_l1In:Int->Int->Int->Option (Bool)
noncomputable def ents (G:Gs):List Ent:=[s_l1In.ent G.s_l1In]
noncomputable def b7 {R:Type} (G:Gs) (n:Nat) (i:Int) (h0:List Tm) (h02:List (List Int)) (h03:Bool) (k:Int) (nx:Int->Option R) (k0:Bool->Option R) (k1:Option R):Option R:=
 Option.bind (ix h02 i) fun e=>
 bif decide (k < (List.length e : Int)) then
  (
  Option.bind (ix h02 i) fun e3=>
  Option.bind (ix e3 k) fun e5=>
  Option.bind (G.s_l1In e5 0 (wr ((List.length h0:Int)-1))) fun r2=>
  bif !r2 then
   (k0 false)
  else
   bif decide (0<k)then
    (
    Option.bind (ix h02 i) fun e7=>
    Option.bind (ix e7 (wr (k-1))) fun e9=>
    Option.bind (ix h02 i) fun e11=>
    Option.bind (ix e11 k) fun e13=>
    bif decide (e13<=e9)then
     (k0 false)
    else
     nx (wr (k+1))
    )
   else
    nx (wr (k+1))
  )
 else
  k1
noncomputable def l7 {R:Type} (G:Gs) (n m:Nat) (i:Int) (h0:List Tm) (h02:List (List Int)) (h03:Bool) (k:Int) (k0:Bool->Option R) (k1:Option R):Option R:=iter (fun(v:Int) nx=>b7 G n i h0 h02 h03 v (fun y0=>nx y0) k0 k1) m k
noncomputable def b4 {R:Type} (G:Gs) (n:Nat) (h0:List Tm) (h02:List (List Int)) (h03:Bool) (i:Int) (nx:Int->Option R) (k0:Bool->Option R) (k1:Option R):Option R:=
 bif decide (i<(List.length h02:Int))then
  (
  l7 G n n i h0 h02 h03 0
   (fun t2=>k0 t2)
   (nx (wr (i+1)))
  )
 else
  k1
noncomputable def l4 {R:Type} (G:Gs) (n m:Nat) (h0:List Tm) (h02:List (List Int)) (h03:Bool) (i:Int) (k0:Bool->Option R) (k1:Option R):Option R:=iter (fun(v:Int) nx=>b4 G n h0 h02 h03 v (fun y0=>nx y0) k0 k1) m i
noncomputable def main {R:Type} (G:Gs) (n:Nat) (g:Gr) (K:Bool->Option R):Option R:=
 bif decide ((List.length (Gr.states g):Int)<1)then
  (K false)
 else
  bif decide (40<(List.length (Gr.states g):Int))then
   (K false)
  else
   bif !decide ((List.length (Gr.edges g):Int)=(List.length (Gr.states g):Int))then
    (K false)
   else
    l4 G n n (Gr.states g) (Gr.edges g) (Gr.whole g) 0
     (fun t2=>K t2)
     (K true)
noncomputable def dl7 (G:Gs) (n m:Nat) (R:Type) (st:St) (K:Kt R):Option R:=match st with
 |⟨[(1,.one (.p 0 0)),(3,.one (.i i)),(4,.one (.i k))],[.box [.l (.n 1) h0,.l (.sl .i) h02,.b h03]]⟩=>l7 G n m i h0 h02 h03 k (fun t2=>K .ret ⟨[(2,.one (.b t2))],[]⟩) (K (.exit 2) ⟨[(1,.one (.p 0 0)),(3,.one (.i i))],[.box [.l (.n 1) h0,.l (.sl .i) h02,.b h03]]⟩)
 |_=>none
noncomputable def dl4 (G:Gs) (n m:Nat) (R:Type) (st:St) (K:Kt R):Option R:=match st with
 |⟨[(1,.one (.p 0 0)),(3,.one (.i i))],[.box [.l (.n 1) h0,.l (.sl .i) h02,.b h03]]⟩=>l4 G n m h0 h02 h03 i (fun t2=>K .ret ⟨[(2,.one (.b t2))],[]⟩) (K (.exit 0) ⟨[],[]⟩)
 |_=>none
noncomputable def pc (G:Gs) (n:Nat):Pcs:=⟨fun R id st K=>bif Nat.beq id 7 then dl7 G n n R st K else bif Nat.beq id 4 then dl4 G n n R st K else none,fun _ _ _ _=>none,fun _ _ _ _=>none⟩
noncomputable def an:Ann:=⟨79,0,[(7,[1,3,4]),(4,[1,3])],[],[2],[(9,⟨[([0,1,2,3,4,5,6,7,8,9,10,11,12,13,14,15,16,17,18,19,20,21,22,23,24,25,26,27,28,29,30,31,32,33,34,35,36,37],[],[])],[],[],[0],[]⟩)],[]⟩
noncomputable abbrev bd:=bodyOf Try.f21
noncomputable abbrev q7:=nthC [1,1,0,1,0,0,1,0,0,1,0,0] bd
noncomputable abbrev q4:=nthC [1,1,0,1,0,0] bd
theorem pl7 {G:Gs} (hG:AllE Try.prog (ents G)) (n:Nat):∀m,PieceOK Try.prog an (.loop q7) (dl7 G n m):=lpc hG (pc G n) [1,3,4] ⟨[1,3],[2],[(0,[]),(1,[1,3]),(2,[1,3])]⟩ (apl [] trivial) (fun R st K=>by unfold dl7;split<;>rfl) fun m R st K r h=>by unfold dl7 at h;split at h;exact .trans (by kernel_rfl) h;cases h
theorem pl4 {G:Gs} (hG:AllE Try.prog (ents G)) (n:Nat):∀m,PieceOK Try.prog an (.loop q4) (dl4 G n m):=lpc hG (pc G n) [1,3] ⟨[],[2],[(0,[])]⟩ (apl [(1,7,.loop q7)] ⟨pl7 hG n n,trivial⟩) (fun R st K=>by unfold dl4;split<;>rfl) fun m R st K r h=>by unfold dl4 at h;split at h;exact .trans (by kernel_rfl) h;cases h
noncomputable def Does (G:Gs) (g:Gr) (r:Bool):Prop:=∃n,main (R:=AT×List Ob) G n g (fun r0=>some (.one (.b r0),[]))=some (.one (.b r),[])
theorem ok {G:Gs} (hG:AllE Try.prog (ents G)) {g:Gr->Option (Bool)} (hg:∀g_ r,g g_=some r->Does G g_ r):EntOK Try.prog (ent g):=fun R xs H K r hc=>by
 simp only[ent]at hc
 split at hc
 ·obtain⟨r,j1,j2⟩:=bind_some hc
  obtain⟨n,j3⟩:=hg _ _ j1
  exact⟨_,_,j2,fnP hG an (pc G n) bd [.tmp 2] Try.func21 (.inl rfl) (apl [(1,4,.loop q4)] ⟨pl4 hG n n,trivial⟩) (.trans (by kernel_rfl) j3)⟩
 ·cases hc
end s_IsGraph
end Go.Proofs.Ytagnfckihdlhpaa.Den

namespace Go.Proofs.Ytagnfckihdlhpaa.Den
open Go.RowKit
open Classical
def rowOk (n:Nat) (l:List Int):Prop:=∀(k:Nat) (x:Int),l[k]? =some x->0<=x/\x<n/\∀(j:Nat) (y:Int),k=j+1->l[j]? =some y->y<x
def graphOk (g:Gr):Prop:=1<=g.states.length/\g.states.length<=40/\g.edges.length=g.states.length/\∀row∈g.edges,rowOk g.states.length row
theorem rowOk_ge {n:Nat} {l:List Int} (h:rowOk n l):∀(k:Nat) (x:Int),l[k]? =some x->(k:Int)<=x
 |0,x,hx=>(h 0 x hx).1
 | k + 1, x, hx => by
  have hk:k<l.length:=by have:=(List.getElem?_eq_some_iff.1 hx).1;omega
  have hy:=List.getElem?_eq_getElem hk
  have:=rowOk_ge h k _ hy
  have:=(h (k+1) x hx).2.2 k _ rfl hy
  omega
theorem rowOk_len {n:Nat} {l:List Int} (h:rowOk n l):l.length<=n:=by
 by_cases h0:l.length=0
 ·omega
 ·have hk:l.length-1<l.length:=by omega
  have hy:=List.getElem?_eq_getElem hk
  have h1:=rowOk_ge h _ _ hy
  have h2:=(h _ _ hy).2.1
  omega
def entOk (n:Nat) (l:List Int) (k:Nat):Prop:=∀x:Int,l[k]? =some x->0<=x/\x<n/\∀(j:Nat) (y:Int),k=j+1->l[j]? =some y->y<x
theorem row_split {n:Nat} {l:List Int} {i:Nat}:(∀k,i<=k->entOk n l k)↔entOk n l i/\∀k,i+1<=k->entOk n l k:=by
 constructor
 ·intro h;exact⟨h i (Nat.le_refl _),fun k hk=>h k (by omega)⟩
 ·rintro⟨h1,h2⟩ k hk
  rcases Nat.eq_or_lt_of_le hk with rfl|hk
  ·exact h1
  ·exact h2 k hk
section
variable {R : Type}
theorem iRow_loop (n N:Nat) (l:List Int) (hl:l.length<=2097152) (hn:l.length<n) (t25:List (List Int)) (t26 t27:Int) (k0:Bool->Option R) (k1:Option R):
  i_IsGraph.l8 ⟨()⟩ n n (N:Int) l t25 t26 t27 l (l.length:Int) 0 k0 k1=bif decide (rowOk N l)then k1 else k0 false:=by
 unfold i_IsGraph.l8
 refine(count0 l.length (fun t nx=>i_IsGraph.b8 ⟨()⟩ n (N:Int) l t25 t26 t27 l (l.length:Int) t nx k0 k1) (fun i=>bif decide (∀k,i<=k->entOk N l k)then k1 else k0 false) (fun nx=> ?_) (fun i nx hi hnx=> ?_) n 0 (by omega) (by omega)).trans ?_
 ·unfold i_IsGraph.b8
  rw[nlt_nat (by omega),cond_false,decide_eq_true,cond_true]
  intro k hk x hx
  have:=(List.getElem?_eq_some_iff.1 hx).1
  omega
 ·obtain⟨x,hx,hm⟩:=get_lt hi
  have no:¬entOk N l i->(bif decide (∀k,i<=k->entOk N l k)then k1 else k0 false)=k0 false:=fun h=>by
   rw[decide_eq_false (fun q=>h (row_split.1 q).1),cond_false]
  have yes:entOk N l i->(bif decide (∀k,i<=k->entOk N l k)then k1 else k0 false)=nx ((i+1:Nat):Int):=fun h=>by
   rw[hnx]
   congr 1
   exact decide_eq_decide.2 ⟨fun q=>(row_split.1 q).2,fun q=>row_split.2 ⟨h,q⟩⟩
  unfold i_IsGraph.b8
  rw[lt_nat hi,cond_true,ix_get hx,Option.bind_some,wr_one (by omega)]
  by_cases a1:x<0
  ·rw[decide_eq_true a1,cond_true]
   exact(no fun q=>by have:=q x hx;omega).symm
  ·rw [decide_eq_false a1, cond_false]
   by_cases a2:(N:Int)<=x
   ·rw[decide_eq_true a2,cond_true]
    exact(no fun q=>by have:=q x hx;omega).symm
   ·rw [decide_eq_false a2, cond_false]
    cases i with
    | zero =>
     rw[decide_eq_false (by simp),cond_false]
     exact(yes fun x' hx'=>by rw[hx]at hx';cases hx';exact⟨by omega,by omega,fun j y e=>by omega⟩).symm
    | succ j =>
     have hj:j<l.length:=by omega
     obtain⟨y,hy,_⟩:=get_lt hj
     rw[decide_eq_true (by omega),cond_true,wr_in (by omega),show ((j+1:Nat):Int)-1=(j:Int) by omega,ix_get hy,Option.bind_some]
     by_cases a3:x<=y
     ·rw[decide_eq_true a3,cond_true]
      exact(no fun q=>by have:=(q x hx).2.2 j y rfl hy;omega).symm
     ·rw[decide_eq_false a3,cond_false]
      refine(yes fun x' hx'=> ?_).symm
      rw[hx]at hx';cases hx'
      refine⟨by omega,by omega,fun j' y' e hy'=> ?_⟩
      have:j'=j:=by omega
      subst this
      rw[hy]at hy';cases hy';omega
 ·congr 1
  exact decide_eq_decide.2 ⟨fun q k=>q k (Nat.zero_le _),fun q k _=>q k⟩
abbrev gIn :Int->Int->Int->Option Bool:=fun x lo hi=>some (decide (lo<=x)&&decide (x<=hi))
theorem sRow_loop (n N:Nat) (hN:1<=N/\N<=40) (es:List (List Int)) {i:Nat} {l:List Int} (he:es[i]? =some l) (hl:l.length<=2097152) (hn:l.length<n) (sts:List Tm) (hs:sts.length=N) (wh:Bool) (k0:Bool->Option R) (k1:Option R):
  s_IsGraph.l7 ⟨gIn⟩ n n (i:Int) sts es wh 0 k0 k1=bif decide (rowOk N l)then k1 else k0 false:=by
 unfold s_IsGraph.l7
 refine(count0 l.length (fun t nx=>s_IsGraph.b7 ⟨gIn⟩ n (i:Int) sts es wh t nx k0 k1) (fun i=>bif decide (∀k,i<=k->entOk N l k)then k1 else k0 false) (fun nx=> ?_) (fun k nx hk hnx=> ?_) n 0 (by omega) (by omega)).trans ?_
 ·unfold s_IsGraph.b7
  rw[ix_get he,Option.bind_some,nlt_nat (by omega),cond_false,decide_eq_true,cond_true]
  intro k hk x hx
  have:=(List.getElem?_eq_some_iff.1 hx).1
  omega
 ·obtain⟨x,hx,hm⟩:=get_lt hk
  have no:¬entOk N l k->(bif decide (∀j,k<=j->entOk N l j)then k1 else k0 false)=k0 false:=fun h=>by
   rw[decide_eq_false (fun q=>h (row_split.1 q).1),cond_false]
  have yes:entOk N l k->(bif decide (∀j,k<=j->entOk N l j)then k1 else k0 false)=nx ((k+1:Nat):Int):=fun h=>by
   rw[hnx]
   congr 1
   exact decide_eq_decide.2 ⟨fun q=>(row_split.1 q).2,fun q=>row_split.2 ⟨h,q⟩⟩
  have e1:wr ((sts.length:Int)-1)=(N:Int)-1:=by rw[hs];exact wr_in (by omega)
  unfold s_IsGraph.b7
  simp only[ix_get he,Option.bind_some,lt_nat hk,cond_true,ix_get hx,wr_one (show k<4294967296 by omega),e1]
  by_cases a1:0<=x/\x<=(N:Int)-1
  ·rw [decide_eq_true a1.1, decide_eq_true a1.2, Bool.and_self, Bool.not_true, cond_false]
   cases k with
   | zero =>
    rw[decide_eq_false (by simp),cond_false]
    exact(yes fun x' hx'=>by rw[hx]at hx';cases hx';exact⟨by omega,by omega,fun j y e=>by omega⟩).symm
   | succ j =>
    have hj:j<l.length:=by omega
    obtain⟨y,hy,_⟩:=get_lt hj
    rw[decide_eq_true (by omega),cond_true,wr_in (x:=((j+1:Nat):Int)-1) (by omega),show ((j+1:Nat):Int)-1=(j:Int) by omega,ix_get hy,Option.bind_some]
    by_cases a3:x<=y
    ·rw[decide_eq_true a3,cond_true]
     exact(no fun q=>by have:=(q x hx).2.2 j y rfl hy;omega).symm
    ·rw[decide_eq_false a3,cond_false]
     refine(yes fun x' hx'=> ?_).symm
     rw[hx]at hx';cases hx'
     refine⟨by omega,by omega,fun j' y' e hy'=> ?_⟩
     have:j'=j:=by omega
     subst this
     rw[hy]at hy';cases hy';omega
  ·have e2:(decide (0<=x)&&decide (x<=(N:Int)-1))=false:=by
    rw[<-Bool.decide_and];exact decide_eq_false a1
   rw[e2,Bool.not_false,cond_true]
   exact(no fun q=>by have:=q x hx;omega).symm
 ·congr 1
  exact decide_eq_decide.2 ⟨fun q k=>q k (Nat.zero_le _),fun q k _=>q k⟩
end
def smallG (g:Gr):Prop:=g.states.length<=2097152/\g.edges.length<=2097152/\∀row∈g.edges,row.length<=2097152
noncomputable def gIsG:Gr->Option Bool:=fun g=>if smallG g then some (decide (graphOk g))else none
theorem iIsGraph_main {R:Type} (g:Gr) (h:smallG g) (K:Bool->Option R):i_IsGraph.main ⟨()⟩ 2097153 g K=K (decide (graphOk g)):=by
 obtain⟨h1,h2,h3⟩:=h
 unfold i_IsGraph.main
 by_cases c1:g.states.length<1
 ·rw[decide_eq_true (by omega),cond_true,decide_eq_false (p:=graphOk g) (fun q=>by have:=q.1;omega)]
 ·rw [decide_eq_false (by omega), cond_false]
  by_cases c2:40<g.states.length
  ·rw[decide_eq_true (by omega),cond_true,decide_eq_false (p:=graphOk g) (fun q=>by have:=q.2.1;omega)]
  ·rw [decide_eq_false (by omega), cond_false]
   by_cases c3:g.edges.length=g.states.length
   ·rw [decide_eq_true (by omega), Bool.not_true, cond_false]
    unfold i_IsGraph.l5
    refine(count0 g.edges.length (fun t nx=>i_IsGraph.b5 ⟨()⟩ 2097153 (g.states.length:Int) g.edges (g.edges.length:Int) t nx (fun t2=>K t2) (K true)) (fun i=>K (decide (∀row∈g.edges.drop i,rowOk g.states.length row))) (fun nx=> ?_) (fun i nx hi hnx=> ?_) 2097153 0 (by omega) (by omega)).trans ?_
    ·unfold i_IsGraph.b5
     rw[nlt_nat (by omega),cond_false,drop_nat];simp
    ·obtain⟨row,hr,hrm⟩:=get_lt hi
     obtain⟨hlt,e⟩:=List.getElem?_eq_some_iff.1 hr
     unfold i_IsGraph.b5
     rw[lt_nat hi,cond_true,ix_get hr,Option.bind_some,iRow_loop 2097153 g.states.length row (h3 row hrm) (by have:=h3 row hrm;omega),wr_one (by omega),hnx,List.drop_eq_getElem_cons hlt,e]
     by_cases ho:rowOk g.states.length row
     ·rw[decide_eq_true ho,cond_true]
      congr 1
      exact decide_eq_decide.2 ⟨fun q r hr=>(List.mem_cons.1 hr).elim (fun e=>e▸ho) (q r),fun q r hr=>q r (List.mem_cons_of_mem _ hr)⟩
     ·rw[decide_eq_false ho,cond_false,decide_eq_false (fun q=>ho (q row (by simp)))]
    ·rw[List.drop_zero]
     congr 1
     exact decide_eq_decide.2 ⟨fun q=>⟨by omega,by omega,c3,q⟩,fun q=>q.2.2.2⟩
   ·rw[decide_eq_false (by omega),Bool.not_false,cond_true,decide_eq_false (p:=graphOk g) (fun q=>c3 q.2.2.1)]
theorem sIsGraph_main {R:Type} (g:Gr) (h:smallG g) (K:Bool->Option R):s_IsGraph.main ⟨gIn⟩ 2097153 g K=K (decide (graphOk g)):=by
 obtain⟨h1,h2,h3⟩:=h
 unfold s_IsGraph.main
 by_cases c1:g.states.length<1
 ·rw[decide_eq_true (by omega),cond_true,decide_eq_false (p:=graphOk g) (fun q=>by have:=q.1;omega)]
 ·rw [decide_eq_false (by omega), cond_false]
  by_cases c2:40<g.states.length
  ·rw[decide_eq_true (by omega),cond_true,decide_eq_false (p:=graphOk g) (fun q=>by have:=q.2.1;omega)]
  ·rw [decide_eq_false (by omega), cond_false]
   by_cases c3:g.edges.length=g.states.length
   ·rw [decide_eq_true (by omega), Bool.not_true, cond_false]
    unfold s_IsGraph.l4
    refine(count0 g.edges.length (fun t nx=>s_IsGraph.b4 ⟨gIn⟩ 2097153 g.states g.edges g.whole t nx (fun t2=>K t2) (K true)) (fun i=>K (decide (∀row∈g.edges.drop i,rowOk g.states.length row))) (fun nx=> ?_) (fun i nx hi hnx=> ?_) 2097153 0 (by omega) (by omega)).trans ?_
    ·unfold s_IsGraph.b4
     rw[nlt_nat (by omega),cond_false,drop_nat];simp
    ·obtain⟨row,hr,hrm⟩:=get_lt hi
     obtain⟨hlt,e⟩:=List.getElem?_eq_some_iff.1 hr
     unfold s_IsGraph.b4
     rw[lt_nat hi,cond_true,sRow_loop 2097153 g.states.length ⟨by omega,by omega⟩ g.edges hr (h3 row hrm) (by have:=h3 row hrm;omega) g.states rfl,wr_one (by omega),hnx,List.drop_eq_getElem_cons hlt,e]
     by_cases ho:rowOk g.states.length row
     ·rw[decide_eq_true ho,cond_true]
      congr 1
      exact decide_eq_decide.2 ⟨fun q r hr=>(List.mem_cons.1 hr).elim (fun e=>e▸ho) (q r),fun q r hr=>q r (List.mem_cons_of_mem _ hr)⟩
     ·rw[decide_eq_false ho,cond_false,decide_eq_false (fun q=>ho (q row (by simp)))]
    ·rw[List.drop_zero]
     congr 1
     exact decide_eq_decide.2 ⟨fun q=>⟨by omega,by omega,c3,q⟩,fun q=>q.2.2.2⟩
   ·rw[decide_eq_false (by omega),Bool.not_false,cond_true,decide_eq_false (p:=graphOk g) (fun q=>c3 q.2.2.1)]
theorem l1In_ok :EntOK Try.prog (s_l1In.ent fun x lo hi=>some (decide (lo<=x)&&decide (x<=hi))):=s_l1In.ok (G:=⟨()⟩) trivial fun x lo hi r h=>by
 cases h
 refine⟨1,?_⟩
 unfold s_l1In.main
 cases decide (lo<=x)<;>rfl
theorem iIsGraph_ok :EntOK Try.prog (i_IsGraph.ent gIsG):=i_IsGraph.ok (G:=⟨()⟩) trivial fun g r h=>by
 unfold gIsG at h
 split at h
 ·rename_i hp
  cases h
  exact⟨2097153,iIsGraph_main g hp _⟩
 ·cases h
theorem sIsGraph_ok :EntOK Try.prog (s_IsGraph.ent gIsG):=s_IsGraph.ok (G:=⟨gIn⟩) ⟨l1In_ok,trivial⟩ fun g r h=>by
 unfold gIsG at h
 split at h
 ·rename_i hp
  cases h
  exact⟨2097153,sIsGraph_main g hp _⟩
 ·cases h
noncomputable def gHasInt:List Int->Int->Option Bool:=fun xs x=>if xs.length<=100000 then some (decide (x∈xs))else none
theorem hasInt_main {R:Type} (n:Nat) (xs:List Int) (x:Int) (hn:xs.length<n) (hl:xs.length<=100000) (K:Bool->Option R):s_l1HasInt.main ⟨()⟩ n xs x K=K (decide (x∈xs)):=by
 unfold s_l1HasInt.main s_l1HasInt.l2
 refine(count0 xs.length (fun t nx=>s_l1HasInt.b2 ⟨()⟩ n xs x t nx (fun t4=>K t4) (K false)) (fun i=>K (decide (x∈xs.drop i))) (fun nx=> ?_) (fun i nx hi hnx=> ?_) n 0 (by omega) (by omega)).trans ?_
 ·unfold s_l1HasInt.b2
  rw[nlt_nat (by omega),cond_false,drop_nat];simp
 ·obtain⟨y,hy,hm⟩:=get_lt hi
  obtain⟨hlt,e⟩:=List.getElem?_eq_some_iff.1 hy
  unfold s_l1HasInt.b2
  rw[lt_nat hi,cond_true,ix_get hy,Option.bind_some,wr_one (by omega),hnx,List.drop_eq_getElem_cons hlt,e]
  by_cases q:y=x
  ·subst q;simp
  ·rw[decide_eq_false q,cond_false]
   congr 1
   exact decide_eq_decide.2 ⟨fun h=>List.mem_cons_of_mem _ h,fun h=>(List.mem_cons.1 h).resolve_left fun h=>q h.symm⟩
 ·rw[List.drop_zero]
theorem hasInt_ok :EntOK Try.prog (s_l1HasInt.ent gHasInt):=s_l1HasInt.ok (G:=⟨()⟩) trivial fun xs x r h=>by
 unfold gHasInt at h
 split at h
 ·rename_i hl
  cases h
  exact⟨xs.length+1,hasInt_main _ xs x (by omega) hl _⟩
 ·cases h
end Go.Proofs.Ytagnfckihdlhpaa.Den

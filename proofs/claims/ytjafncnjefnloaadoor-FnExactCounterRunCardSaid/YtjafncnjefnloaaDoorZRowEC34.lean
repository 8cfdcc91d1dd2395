/-
  Texts that the claim rests on, merged: Some2, Some3, Equiv, Chk, RunsF.
-/
import Derived.Test.YtjafncnjefnloaaDoorZRowEC26
import Derived.Test.YtjafncnjefnloaaDoorZRowEC33

namespace Go.Proofs.YtjafncnjefnloaaDoor.Den
open Go.RowKit
open Classical
section
variable {R : Type}
variable (G0 : Fm → List Fm → Option (List Fm)) (G1 : Fm → Option ByteArray) (GH : List Tm → List (List Int) → Bool → List Int → List Fm → (List (ByteArray × Int)) → Fm → Int → Int → Option (Bool × List (ByteArray × Int))) (GS : List (List Int) → Int → List Bool → Option (List Bool)) (GF : List Tm → List (List Int) → Bool → List Int → List Fm → (List (ByteArray × Int)) → List (List Int) → Int → Int → Option (Bool × List (ByteArray × Int)))
variable (n : Nat) (hn : 1000 < n) (t60 t61 t64 t65 t71 t72 : Int) (t70 : List Int) (h0 : List Tm) (h02 : List (List Int)) (h03 : Bool) (h1 h12 : Int) (h13 : List Fm) (h2 : List Tm) (h22 : List (List Int)) (h23 : Bool)
include hn
end
end Go.Proofs.YtjafncnjefnloaaDoor.Den

namespace Go.Proofs.YtjafncnjefnloaaDoor.Den
open Go.RowKit
open Classical
section
variable {R : Type}
variable (G0 : Fm → List Fm → Option (List Fm)) (GFl : Gr → Int → Option (List Int)) (GFo : List Tm → List (List Int) → Bool → List Int → List Fm → (List (ByteArray × Int)) → Int → Int → Int → Int → Option (Bool × List (ByteArray × Int)))
variable (n : Nat) (hn : 1000 < n)
include hn
end
end Go.Proofs.YtjafncnjefnloaaDoor.Den

namespace Go.Proofs.YtjafncnjefnloaaDoor.Den
open Go.RowKit
open Classical
theorem tF_app (a b:List Fm):tF (a++b)=tF a++tF b:=by unfold tF;rw[List.filter_append]
theorem mem_tF {P:List Fm} {t:Fm}:t∈tF P↔t∈P/\6<=t.kind:=by unfold tF;rw[List.mem_filter,decide_eq_true_eq]
theorem kind_le {f:Fm} (h:f.ok=true):f.kind<=7:=(text_hd h).2.1
theorem tF_add {f:Fm} (hf:f.ok=true) (L:List Fm):tF (addF f L)=add6 f (tF L):=by
 have hk:=kind_le hf
 unfold addF add6
 by_cases h6:6<=f.kind
 ·by_cases hm:f∈L
  ·rw[if_pos hm,if_neg (fun q=>q.2 (mem_tF.2 ⟨hm,h6⟩))]
  ·rw[if_neg hm,if_pos ⟨by omega,fun q=>hm (mem_tF.1 q).1⟩,tF_app]
   congr 1
   simp[tF,h6]
 ·have e:tF [f]=[]:=by simp[tF,h6]
  rw[if_neg (c:=(f.kind=6\/f.kind=7)/\f∉tF L) (fun q=>by have:=q.1;omega)]
  split
  ·rfl
  ·rw[tF_app,e,List.append_nil]
theorem tF_parts :∀(k:Nat) (f:Fm) (acc:List Fm),goodF f->tF (parts k f acc)=temps k f (tF acc)
 |0,_,_,_=>rfl
 | k + 1, f, acc, hf => by
  have key:∀(xs:List Fm) (acc:List Fm),(∀x∈xs,goodF x)->tF (xs.foldl (fun a x=>parts k x a) acc)=xs.foldl (fun a x=>temps k x a) (tF acc):=by
   intro xs
   induction xs with
   |nil=>intro acc _;rfl
   |cons x xs ih=>intro acc h;rw[List.foldl_cons,List.foldl_cons,ih _ (fun y hy=>h y (by simp[hy])),tF_parts k x acc (h x (by simp))]
  show tF (addF f _)=add6 f _
  rw[tF_add hf.2,key f.kids acc (fun x hx=>hf.kid hx)]
section
variable {g : Gr} {labels : List Int} {P : List Fm}
end
end Go.Proofs.YtjafncnjefnloaaDoor.Den

namespace Go.Proofs.YtjafncnjefnloaaDoor.Den
open Go.RowKit
open Classical
def entOk (n:Nat) (l:List Int) (k:Nat):Prop:=∀x:Int,l[k]? =some x->0<=x/\x<n/\∀(j:Nat) (y:Int),k=j+1->l[j]? =some y->y<x
theorem row_split {n:Nat} {l:List Int} {i:Nat}:(∀k,i<=k->entOk n l k)↔entOk n l i/\∀k,i+1<=k->entOk n l k:=by
 constructor
 ·intro h;exact⟨h i (Nat.le_refl _),fun k hk=>h k (by omega)⟩
 ·rintro⟨h1,h2⟩ k hk
  rcases Nat.eq_or_lt_of_le hk with rfl|hk
  ·exact h1
  ·exact h2 k hk
section
variable {R : Type}
theorem iRow_loop (n N:Nat) (l:List Int) (hl:l.length<=2097152) (hn:l.length<n) (t25:List (List Int)) (t26 t27:Int) (k0:Bool->Option R) (k1:Option R):
  i_IsGraph.l8 ⟨()⟩ n n (N:Int) l t25 t26 t27 l (l.length:Int) 0 k0 k1=bif decide (rowOk N l)then k1 else k0 false:=by
 unfold i_IsGraph.l8
 refine(count0 l.length (fun t nx=>i_IsGraph.b8 ⟨()⟩ n (N:Int) l t25 t26 t27 l (l.length:Int) t nx k0 k1) (fun i=>bif decide (∀k,i<=k->entOk N l k)then k1 else k0 false) (fun nx=> ?_) (fun i nx hi hnx=> ?_) n 0 (by omega) (by omega)).trans ?_
 ·unfold i_IsGraph.b8
  rw[nlt_nat (by omega),cond_false,decide_eq_true,cond_true]
  intro k hk x hx
  have:=(List.getElem?_eq_some_iff.1 hx).1
  omega
 ·obtain⟨x,hx,hm⟩:=get_lt hi
  have no:¬entOk N l i->(bif decide (∀k,i<=k->entOk N l k)then k1 else k0 false)=k0 false:=fun h=>by
   rw[decide_eq_false (fun q=>h (row_split.1 q).1),cond_false]
  have yes:entOk N l i->(bif decide (∀k,i<=k->entOk N l k)then k1 else k0 false)=nx ((i+1:Nat):Int):=fun h=>by
   rw[hnx]
   congr 1
   exact decide_eq_decide.2 ⟨fun q=>(row_split.1 q).2,fun q=>row_split.2 ⟨h,q⟩⟩
  unfold i_IsGraph.b8
  rw[lt_nat hi,cond_true,ix_get hx,Option.bind_some,wr_one (by omega)]
  by_cases a1:x<0
  ·rw[decide_eq_true a1,cond_true]
   exact(no fun q=>by have:=q x hx;omega).symm
  ·rw [decide_eq_false a1, cond_false]
   by_cases a2:(N:Int)<=x
   ·rw[decide_eq_true a2,cond_true]
    exact(no fun q=>by have:=q x hx;omega).symm
   ·rw [decide_eq_false a2, cond_false]
    cases i with
    | zero =>
     rw[decide_eq_false (by simp),cond_false]
     exact(yes fun x' hx'=>by rw[hx]at hx';cases hx';exact⟨by omega,by omega,fun j y e=>by omega⟩).symm
    | succ j =>
     have hj:j<l.length:=by omega
     obtain⟨y,hy,_⟩:=get_lt hj
     rw[decide_eq_true (by omega),cond_true,wr_in (by omega),show ((j+1:Nat):Int)-1=(j:Int) by omega,ix_get hy,Option.bind_some]
     by_cases a3:x<=y
     ·rw[decide_eq_true a3,cond_true]
      exact(no fun q=>by have:=(q x hx).2.2 j y rfl hy;omega).symm
     ·rw[decide_eq_false a3,cond_false]
      refine(yes fun x' hx'=> ?_).symm
      rw[hx]at hx';cases hx'
      refine⟨by omega,by omega,fun j' y' e hy'=> ?_⟩
      have:j'=j:=by omega
      subst this
      rw[hy]at hy';cases hy';omega
 ·congr 1
  exact decide_eq_decide.2 ⟨fun q k=>q k (Nat.zero_le _),fun q k _=>q k⟩
abbrev gIn :Int->Int->Int->Option Bool:=fun x lo hi=>some (decide (lo<=x)&&decide (x<=hi))
theorem sRow_loop (n N:Nat) (hN:1<=N/\N<=40) (es:List (List Int)) {i:Nat} {l:List Int} (he:es[i]? =some l) (hl:l.length<=2097152) (hn:l.length<n) (sts:List Tm) (hs:sts.length=N) (wh:Bool) (k0:Bool->Option R) (k1:Option R):
  s_IsGraph.l7 ⟨gIn⟩ n n (i:Int) sts es wh 0 k0 k1=bif decide (rowOk N l)then k1 else k0 false:=by
 unfold s_IsGraph.l7
 refine(count0 l.length (fun t nx=>s_IsGraph.b7 ⟨gIn⟩ n (i:Int) sts es wh t nx k0 k1) (fun i=>bif decide (∀k,i<=k->entOk N l k)then k1 else k0 false) (fun nx=> ?_) (fun k nx hk hnx=> ?_) n 0 (by omega) (by omega)).trans ?_
 ·unfold s_IsGraph.b7
  rw[ix_get he,Option.bind_some,nlt_nat (by omega),cond_false,decide_eq_true,cond_true]
  intro k hk x hx
  have:=(List.getElem?_eq_some_iff.1 hx).1
  omega
 ·obtain⟨x,hx,hm⟩:=get_lt hk
  have no:¬entOk N l k->(bif decide (∀j,k<=j->entOk N l j)then k1 else k0 false)=k0 false:=fun h=>by
   rw[decide_eq_false (fun q=>h (row_split.1 q).1),cond_false]
  have yes:entOk N l k->(bif decide (∀j,k<=j->entOk N l j)then k1 else k0 false)=nx ((k+1:Nat):Int):=fun h=>by
   rw[hnx]
   congr 1
   exact decide_eq_decide.2 ⟨fun q=>(row_split.1 q).2,fun q=>row_split.2 ⟨h,q⟩⟩
  have e1:wr ((sts.length:Int)-1)=(N:Int)-1:=by rw[hs];exact wr_in (by omega)
  unfold s_IsGraph.b7
  simp only[ix_get he,Option.bind_some,lt_nat hk,cond_true,ix_get hx,wr_one (show k<4294967296 by omega),e1]
  by_cases a1:0<=x/\x<=(N:Int)-1
  ·rw [decide_eq_true a1.1, decide_eq_true a1.2, Bool.and_self, Bool.not_true, cond_false]
   cases k with
   | zero =>
    rw[decide_eq_false (by simp),cond_false]
    exact(yes fun x' hx'=>by rw[hx]at hx';cases hx';exact⟨by omega,by omega,fun j y e=>by omega⟩).symm
   | succ j =>
    have hj:j<l.length:=by omega
    obtain⟨y,hy,_⟩:=get_lt hj
    rw[decide_eq_true (by omega),cond_true,wr_in (x:=((j+1:Nat):Int)-1) (by omega),show ((j+1:Nat):Int)-1=(j:Int) by omega,ix_get hy,Option.bind_some]
    by_cases a3:x<=y
    ·rw[decide_eq_true a3,cond_true]
     exact(no fun q=>by have:=(q x hx).2.2 j y rfl hy;omega).symm
    ·rw[decide_eq_false a3,cond_false]
     refine(yes fun x' hx'=> ?_).symm
     rw[hx]at hx';cases hx'
     refine⟨by omega,by omega,fun j' y' e hy'=> ?_⟩
     have:j'=j:=by omega
     subst this
     rw[hy]at hy';cases hy';omega
  ·have e2:(decide (0<=x)&&decide (x<=(N:Int)-1))=false:=by
    rw[<-Bool.decide_and];exact decide_eq_false a1
   rw[e2,Bool.not_false,cond_true]
   exact(no fun q=>by have:=q x hx;omega).symm
 ·congr 1
  exact decide_eq_decide.2 ⟨fun q k=>q k (Nat.zero_le _),fun q k _=>q k⟩
end
def smallG (g:Gr):Prop:=g.states.length<=2097152/\g.edges.length<=2097152/\∀row∈g.edges,row.length<=2097152
noncomputable def gIsG:Gr->Option Bool:=fun g=>if smallG g then some (decide (graphOk g))else none
theorem iIsGraph_main {R:Type} (g:Gr) (h:smallG g) (K:Bool->Option R):i_IsGraph.main ⟨()⟩ 2097153 g K=K (decide (graphOk g)):=by
 obtain⟨h1,h2,h3⟩:=h
 unfold i_IsGraph.main
 by_cases c1:g.states.length<1
 ·rw[decide_eq_true (by omega),cond_true,decide_eq_false (p:=graphOk g) (fun q=>by have:=q.1;omega)]
 ·rw [decide_eq_false (by omega), cond_false]
  by_cases c2:40<g.states.length
  ·rw[decide_eq_true (by omega),cond_true,decide_eq_false (p:=graphOk g) (fun q=>by have:=q.2.1;omega)]
  ·rw [decide_eq_false (by omega), cond_false]
   by_cases c3:g.edges.length=g.states.length
   ·rw [decide_eq_true (by omega), Bool.not_true, cond_false]
    unfold i_IsGraph.l5
    refine(count0 g.edges.length (fun t nx=>i_IsGraph.b5 ⟨()⟩ 2097153 (g.states.length:Int) g.edges (g.edges.length:Int) t nx (fun t2=>K t2) (K true)) (fun i=>K (decide (∀row∈g.edges.drop i,rowOk g.states.length row))) (fun nx=> ?_) (fun i nx hi hnx=> ?_) 2097153 0 (by omega) (by omega)).trans ?_
    ·unfold i_IsGraph.b5
     rw[nlt_nat (by omega),cond_false,drop_nat];simp
    ·obtain⟨row,hr,hrm⟩:=get_lt hi
     obtain⟨hlt,e⟩:=List.getElem?_eq_some_iff.1 hr
     unfold i_IsGraph.b5
     rw[lt_nat hi,cond_true,ix_get hr,Option.bind_some,iRow_loop 2097153 g.states.length row (h3 row hrm) (by have:=h3 row hrm;omega),wr_one (by omega),hnx,List.drop_eq_getElem_cons hlt,e]
     by_cases ho:rowOk g.states.length row
     ·rw[decide_eq_true ho,cond_true]
      congr 1
      exact decide_eq_decide.2 ⟨fun q r hr=>(List.mem_cons.1 hr).elim (fun e=>e▸ho) (q r),fun q r hr=>q r (List.mem_cons_of_mem _ hr)⟩
     ·rw[decide_eq_false ho,cond_false,decide_eq_false (fun q=>ho (q row (by simp)))]
    ·rw[List.drop_zero]
     congr 1
     exact decide_eq_decide.2 ⟨fun q=>⟨by omega,by omega,c3,q⟩,fun q=>q.2.2.2⟩
   ·rw[decide_eq_false (by omega),Bool.not_false,cond_true,decide_eq_false (p:=graphOk g) (fun q=>c3 q.2.2.1)]
theorem sIsGraph_main {R:Type} (g:Gr) (h:smallG g) (K:Bool->Option R):s_IsGraph.main ⟨gIn⟩ 2097153 g K=K (decide (graphOk g)):=by
 obtain⟨h1,h2,h3⟩:=h
 unfold s_IsGraph.main
 by_cases c1:g.states.length<1
 ·rw[decide_eq_true (by omega),cond_true,decide_eq_false (p:=graphOk g) (fun q=>by have:=q.1;omega)]
 ·rw [decide_eq_false (by omega), cond_false]
  by_cases c2:40<g.states.length
  ·rw[decide_eq_true (by omega),cond_true,decide_eq_false (p:=graphOk g) (fun q=>by have:=q.2.1;omega)]
  ·rw [decide_eq_false (by omega), cond_false]
   by_cases c3:g.edges.length=g.states.length
   ·rw [decide_eq_true (by omega), Bool.not_true, cond_false]
    unfold s_IsGraph.l4
    refine(count0 g.edges.length (fun t nx=>s_IsGraph.b4 ⟨gIn⟩ 2097153 g.states g.edges g.whole t nx (fun t2=>K t2) (K true)) (fun i=>K (decide (∀row∈g.edges.drop i,rowOk g.states.length row))) (fun nx=> ?_) (fun i nx hi hnx=> ?_) 2097153 0 (by omega) (by omega)).trans ?_
    ·unfold s_IsGraph.b4
     rw[nlt_nat (by omega),cond_false,drop_nat];simp
    ·obtain⟨row,hr,hrm⟩:=get_lt hi
     obtain⟨hlt,e⟩:=List.getElem?_eq_some_iff.1 hr
     unfold s_IsGraph.b4
     rw[lt_nat hi,cond_true,sRow_loop 2097153 g.states.length ⟨by omega,by omega⟩ g.edges hr (h3 row hrm) (by have:=h3 row hrm;omega) g.states rfl,wr_one (by omega),hnx,List.drop_eq_getElem_cons hlt,e]
     by_cases ho:rowOk g.states.length row
     ·rw[decide_eq_true ho,cond_true]
      congr 1
      exact decide_eq_decide.2 ⟨fun q r hr=>(List.mem_cons.1 hr).elim (fun e=>e▸ho) (q r),fun q r hr=>q r (List.mem_cons_of_mem _ hr)⟩
     ·rw[decide_eq_false ho,cond_false,decide_eq_false (fun q=>ho (q row (by simp)))]
    ·rw[List.drop_zero]
     congr 1
     exact decide_eq_decide.2 ⟨fun q=>⟨by omega,by omega,c3,q⟩,fun q=>q.2.2.2⟩
   ·rw[decide_eq_false (by omega),Bool.not_false,cond_true,decide_eq_false (p:=graphOk g) (fun q=>c3 q.2.2.1)]
theorem iIsGraph_ok :EntOK Tryd.prog (i_IsGraph.ent gIsG):=i_IsGraph.ok (G:=⟨()⟩) trivial fun g r h=>by
 unfold gIsG at h
 split at h
 ·rename_i hp
  cases h
  exact⟨2097153,iIsGraph_main g hp _⟩
 ·cases h
theorem sIsGraph_ok :EntOK Tryd.prog (s_IsGraph.ent gIsG):=s_IsGraph.ok (G:=⟨gIn⟩) ⟨l1In_ok,trivial⟩ fun g r h=>by
 unfold gIsG at h
 split at h
 ·rename_i hp
  cases h
  exact⟨2097153,sIsGraph_main g hp _⟩
 ·cases h
def byteL (labels:List Int):Prop:=∀l∈labels,0<=l/\l<=255
noncomputable def gLab:List Int->Option Bool:=fun labels=>if labels.length<=2097152 then some (decide (byteL labels))else none
theorem byteL_cons {x:Int} {l:List Int}:byteL (x::l)↔(0<=x/\x<=255)/\byteL l:=by unfold byteL;simp
theorem iLab_main {R:Type} (labels:List Int) (hp:labels.length<=2097152) (K:Bool->Option R):i_labelsOK.main ⟨()⟩ 2097153 labels K=K (decide (byteL labels)):=by
 unfold i_labelsOK.main i_labelsOK.l2
 refine(count0 labels.length (fun t nx=>i_labelsOK.b2 ⟨()⟩ 2097153 labels (labels.length:Int) t nx (fun t2=>K t2) (K true)) (fun i=>K (decide (byteL (labels.drop i)))) (fun nx=> ?_) (fun i nx hi hnx=> ?_) 2097153 0 (by omega) (by omega)).trans ?_
 ·unfold i_labelsOK.b2
  rw[nlt_nat (by omega),cond_false,drop_nat];simp[byteL]
 ·obtain⟨x,hx,hm⟩:=get_lt hi
  obtain⟨hlt,e⟩:=List.getElem?_eq_some_iff.1 hx
  unfold i_labelsOK.b2
  rw[lt_nat hi,cond_true,ix_get hx,Option.bind_some,wr_one (by omega),hnx,List.drop_eq_getElem_cons hlt,e]
  by_cases a1:x<0
  ·rw[decide_eq_true a1,cond_true,decide_eq_false (fun q=>by have:=(byteL_cons.1 q).1;omega)]
  ·rw[decide_eq_false a1,cond_false]
   by_cases a2:255<x
   ·rw[decide_eq_true a2,cond_true,decide_eq_false (fun q=>by have:=(byteL_cons.1 q).1;omega)]
   ·rw[decide_eq_false a2,cond_false]
    congr 1
    exact decide_eq_decide.2 ⟨fun q=>byteL_cons.2 ⟨⟨by omega,by omega⟩,q⟩,fun q=>(byteL_cons.1 q).2⟩
 ·rw[List.drop_zero]
theorem iLab_ok :EntOK Tryd.prog (i_labelsOK.ent gLab):=i_labelsOK.ok (G:=⟨()⟩) trivial fun labels r h=>by
 unfold gLab at h
 split at h
 ·rename_i hp
  cases h
  exact⟨2097153,iLab_main labels hp _⟩
 ·cases h
theorem sLab_main {R:Type} (labels:List Int) (hp:labels.length<=2097152) (K:Bool->Option R):s_l31Labels.main ⟨gIn⟩ 2097153 labels K=K (decide (byteL labels)):=by
 unfold s_l31Labels.main s_l31Labels.l2
 refine(count0 labels.length (fun t nx=>s_l31Labels.b2 ⟨gIn⟩ 2097153 labels t nx (fun t2=>K t2) (K true)) (fun i=>K (decide (byteL (labels.drop i)))) (fun nx=> ?_) (fun i nx hi hnx=> ?_) 2097153 0 (by omega) (by omega)).trans ?_
 ·unfold s_l31Labels.b2
  rw[nlt_nat (by omega),cond_false,drop_nat];simp[byteL]
 ·obtain⟨x,hx,hm⟩:=get_lt hi
  obtain⟨hlt,e⟩:=List.getElem?_eq_some_iff.1 hx
  unfold s_l31Labels.b2
  dsimp only
  rw[lt_nat hi,cond_true,ix_get hx,Option.bind_some,Option.bind_some,wr_one (by omega),hnx,List.drop_eq_getElem_cons hlt,e]
  by_cases a1:0<=x/\x<=255
  ·rw[decide_eq_true a1.1,decide_eq_true a1.2,Bool.and_self,Bool.not_true,cond_false]
   congr 1
   exact decide_eq_decide.2 ⟨fun q=>byteL_cons.2 ⟨a1,q⟩,fun q=>(byteL_cons.1 q).2⟩
  ·have e2:(decide (0<=x)&&decide (x<=255))=false:=by
    rw[<-Bool.decide_and];exact decide_eq_false a1
   rw[e2,Bool.not_false,cond_true,decide_eq_false (fun q=>a1 (byteL_cons.1 q).1)]
 ·rw[List.drop_zero]
theorem sLab_ok :EntOK Tryd.prog (s_l31Labels.ent gLab):=s_l31Labels.ok (G:=⟨gIn⟩) ⟨l1In_ok,trivial⟩ fun labels r h=>by
 unfold gLab at h
 split at h
 ·rename_i hp
  cases h
  exact⟨2097153,sLab_main labels hp _⟩
 ·cases h
end Go.Proofs.YtjafncnjefnloaaDoor.Den

namespace Go.Proofs.YtjafncnjefnloaaDoor.Den
open Go.RowKit
open Classical
theorem isF_good {f:Fm} (h:isFormula f=true):goodF f:=⟨by have:=(isF_parts h).1;omega,(isF_parts h).2⟩
def chkOk (g:Gr) (labels:List Int) (f:Fm):Prop:=graphOk g/\labels.length=g.states.length/\byteL labels/\isFormula f=true/\(temps 13 f []).length<=4
def smallA (g:Gr) (labels:List Int) (f:Fm):Prop:=smallG g/\labels.length<=2097152/\f.size<=2097152
noncomputable def gChk:Gr->List Int->Fm->Option Bool:=fun g labels f=>if smallA g labels f then some (decide (chkOk g labels f))else none
theorem chk_main {R:Type} (g:Gr) (labels:List Int) (f:Fm) (h:smallA g labels f) (K:Bool->Option R):i_checkable.main ⟨gIsG,gLab,gIs 2097152,gTempsI⟩ 1 g labels f K=K (decide (chkOk g labels f)):=by
 obtain⟨h1,h2,h3⟩:=h
 unfold i_checkable.main
 simp only[Fm.eta]
 rw[show gIsG g=some _ from if_pos h1,Option.bind_some]
 by_cases c1:graphOk g
 ·rw [decide_eq_true c1, cond_true]
  by_cases c2:labels.length=g.states.length
  ·rw [decide_eq_true (by omega), cond_true, show gLab labels = some _ from if_pos h2, Option.bind_some]
   by_cases c3:byteL labels
   ·rw[decide_eq_true c3,cond_true,show gIs 2097152 f=some _ from if_pos h3,Option.bind_some]
    cases c4:isFormula f
    ·rw[cond_false,decide_eq_false (fun q=>by have:=q.2.2.2.1;rw[c4]at this;cases this)]
    ·have e1:gTempsI f []=some (temps 13 f []):=if_pos ⟨(isF_good c4).1,isF_good c4,by simp,by have:=(isF_good c4).1;simp;omega⟩
     rw[cond_true,e1,Option.bind_some]
     congr 1
     exact decide_eq_decide.2 ⟨fun q=>⟨c1,c2,c3,c4,by omega⟩,fun q=>by have:=q.2.2.2.2;omega⟩
   ·rw[decide_eq_false c3,cond_false,decide_eq_false (fun q=>c3 q.2.2.1)]
  ·rw[decide_eq_false (by omega),cond_false,decide_eq_false (fun q=>c2 q.2.1)]
 ·rw[decide_eq_false c1,cond_false,decide_eq_false (fun q=>c1 q.1)]
theorem chk_ok :EntOK Tryd.prog (i_checkable.ent gChk):=i_checkable.ok (G:=⟨gIsG,gLab,gIs 2097152,gTempsI⟩) ⟨iIsGraph_ok,iLab_ok,i_IsFormula_ok _ (by omega),tempsI_ok,trivial⟩ fun g labels f r h=>by
 unfold gChk at h
 split at h
 ·rename_i hp
  cases h
  exact⟨1,chk_main g labels f hp _⟩
 ·cases h
noncomputable def gCount:Fm->Option Int:=fun f=>if goodF f then some ((temps 13 f []).length:Int)else none
theorem count_main {R:Type} (f:Fm) (hf:goodF f) (K:Int->Option R):s_l32Temporal.main ⟨gParts 13⟩ 1001 f K=K ((temps 13 f []).length:Int):=by
 have e1:gParts 13 f []=some (parts 13 f []):=if_pos ⟨hf.1,hf,by simp,by have:=hf.1;simp;omega⟩
 have e2:=tF_parts 13 f [] hf
 have hl:=(parts_grow 13 f [] hf).1
 have h13:=hf.1
 simp only[List.length_nil]at hl
 have e3:temps 13 f []=tF (parts 13 f []):=e2.symm
 rw[e3]
 unfold s_l32Temporal.main
 simp only[Fm.eta]
 rw[e1,Option.bind_some]
 generalize parts 13 f []=P at*
 unfold s_l32Temporal.l4
 refine countR P.length (fun a t nx=>s_l32Temporal.b4 ⟨gParts 13⟩ 1001 P a t nx (fun n12=>K n12)) (fun i a=>a=((tF (P.take i)).length:Int)) (fun _ _=>K ((tF P).length:Int)) (fun a nx ha=> ?_) (fun i a nx hi ha hnx=> ?_) 1001 0 0 (by simp[tF]) (by omega) (by omega)
 ·unfold s_l32Temporal.b4
  rw[nlt_nat (by omega),cond_false,ha,take_all]
 ·subst ha
  obtain⟨p,hp,hm⟩:=get_lt hi
  obtain⟨hlt,e⟩:=List.getElem?_eq_some_iff.1 hp
  have hle:(tF (P.take i)).length<=i:=by
   unfold tF
   exact Nat.le_trans (List.length_filter_le _ _) (by rw[List.length_take];omega)
  have hs:tF (P.take (i+1))=tF (P.take i)++tF [p]:=by rw[List.take_succ_eq_append_getElem hlt,e,tF_app]
  unfold s_l32Temporal.b4
  rw[lt_nat hi,cond_true,ix_get hp,Option.bind_some,wr_one (by omega),wr_one (by omega)]
  by_cases h6:6<=p.kind
  ·rw[decide_eq_true h6,cond_true]
   exact hnx _ (by rw[hs,List.length_append];simp[tF,h6])
  ·rw[decide_eq_false h6,cond_false]
   exact hnx _ (by rw[hs,List.length_append];simp[tF,h6])
theorem count_ok :EntOK Tryd.prog (s_l32Temporal.ent gCount):=s_l32Temporal.ok (G:=⟨gParts 13⟩) ⟨parts_ok 13,trivial⟩ fun f r h=>by
 unfold gCount at h
 split at h
 ·rename_i hp
  cases h
  exact⟨1001,count_main f hp _⟩
 ·cases h
theorem rightG_main {R:Type} (g:Gr) (labels:List Int) (f:Fm) (h:smallA g labels f) (K:Bool->Option R):s_l32Right.main ⟨gIsG,gLab,gIs 2097152,gCount⟩ 1 g labels f K=K (decide (chkOk g labels f)):=by
 obtain⟨h1,h2,h3⟩:=h
 unfold s_l32Right.main
 simp only[Fm.eta]
 rw[show gIsG g=some _ from if_pos h1,Option.bind_some]
 by_cases c1:graphOk g
 ·rw [decide_eq_true c1, cond_true]
  by_cases c2:labels.length=g.states.length
  ·rw [decide_eq_true (by omega), cond_true, show gLab labels = some _ from if_pos h2, Option.bind_some]
   by_cases c3:byteL labels
   ·rw[decide_eq_true c3,cond_true,show gIs 2097152 f=some _ from if_pos h3,Option.bind_some]
    cases c4:isFormula f
    ·rw[cond_false,decide_eq_false (fun q=>by have:=q.2.2.2.1;rw[c4]at this;cases this)]
    ·have e1:gCount f=some ((temps 13 f []).length:Int):=if_pos (isF_good c4)
     rw[cond_true,e1,Option.bind_some]
     congr 1
     exact decide_eq_decide.2 ⟨fun q=>⟨c1,c2,c3,c4,by omega⟩,fun q=>by have:=q.2.2.2.2;omega⟩
   ·rw[decide_eq_false c3,cond_false,decide_eq_false (fun q=>c3 q.2.2.1)]
  ·rw[decide_eq_false (by omega),cond_false,decide_eq_false (fun q=>c2 q.2.1)]
 ·rw[decide_eq_false c1,cond_false,decide_eq_false (fun q=>c1 q.1)]
theorem right_ok :EntOK Tryd.prog (s_l32Right.ent gChk):=s_l32Right.ok (G:=⟨gIsG,gLab,gIs 2097152,gCount⟩) ⟨sIsGraph_ok,sLab_ok,s_IsFormula_ok _ (by omega),count_ok,trivial⟩ fun g labels f r h=>by
 unfold gChk at h
 split at h
 ·rename_i hp
  cases h
  exact⟨1,rightG_main g labels f hp _⟩
 ·cases h
end Go.Proofs.YtjafncnjefnloaaDoor.Den

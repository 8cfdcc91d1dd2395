/-
  Texts that the claim rests on, merged: Bits, Loop.
-/
import Derived.Test.YtagnfckihdlhpaaZRowSP17

namespace Go.Proofs.Ytagnfckihdlhpaa.Den
open Go.RowKit
end Go.Proofs.Ytagnfckihdlhpaa.Den

namespace Go.Proofs.Ytagnfckihdlhpaa.Den
open Go.RowKit
theorem lt_nat {a b:Nat} (h:a<b):decide ((a:Int)<(b:Int))=true:=decide_eq_true (by omega)
theorem nlt_nat {a b:Nat} (h:¬a<b):decide ((a:Int)<(b:Int))=false:=decide_eq_false (by omega)
theorem wr_one {i:Nat} (h:i<4294967296):wr ((i:Int)+1)=((i+1:Nat):Int):=by
 have:=wr_in (x:=(i:Int)+1) (by omega)
 rw[this];omega
theorem ix_get {α:Type} {xs:List α} {k:Nat} {x:α} (h:xs[k]? =some x):ix xs (k:Int)=some x:=ix_nat.trans h
theorem count {A R:Type} (N:Nat) (B:Int->A->(Int->A->Option R)->Option R) (Q:Nat->A->Prop) (val:Nat->A->Option R)
  (hend:∀a nx,Q N a->B N a nx=val N a)
  (hstep:∀i a nx,i<N->Q i a->(∀a',Q (i+1) a'->nx ((i+1:Nat):Int) a'=val (i+1) a')->B i a nx=val i a):
  ∀m i a,Q i a->i<=N->N-i<m->iter (fun(v:Int×A) nx=>B v.1 v.2 (fun y0 y1=>nx (y0,y1))) m ((i:Int),a)=val i a
 |0,i,a,_,_,hm=>absurd hm (Nat.not_lt_zero _)
 | m + 1, i, a, hq, hi, hm => by
  show B (i:Int) a (fun y0 y1=>iter (fun(v:Int×A) nx=>B v.1 v.2 (fun y0 y1=>nx (y0,y1))) m (y0,y1))=_
  rcases Nat.eq_or_lt_of_le hi with rfl|hlt
  ·exact hend a _ hq
  ·exact hstep i a _ hlt hq fun a' ha'=>count N B Q val hend hstep m (i+1) a' ha' hlt (by omega)
theorem count0 {R:Type} (N:Nat) (B:Int->(Int->Option R)->Option R) (val:Nat->Option R)
  (hend:∀nx,B N nx=val N)
  (hstep:∀i nx,i<N->nx ((i+1:Nat):Int)=val (i+1)->B i nx=val i):
  ∀m i,i<=N->N-i<m->iter (fun(v:Int) nx=>B v (fun y0=>nx y0)) m (i:Int)=val i
 |0,i,_,hm=>absurd hm (Nat.not_lt_zero _)
 | m + 1, i, hi, hm => by
  show B (i:Int) (fun y0=>iter (fun(v:Int) nx=>B v (fun y0=>nx y0)) m y0)=_
  rcases Nat.eq_or_lt_of_le hi with rfl|hlt
  ·exact hend _
  ·exact hstep i _ hlt (count0 N B val hend hstep m (i+1) hlt (by omega))
theorem drop_nat {α:Type} {xs:List α}:xs.drop xs.length=[]:=List.drop_eq_nil_of_le (Nat.le_refl _)
theorem get_lt {α:Type} {xs:List α} {i:Nat} (h:i<xs.length):∃x,xs[i]? =some x/\x∈xs:=⟨xs[i],List.getElem?_eq_getElem h,List.getElem_mem h⟩
end Go.Proofs.Ytagnfckihdlhpaa.Den

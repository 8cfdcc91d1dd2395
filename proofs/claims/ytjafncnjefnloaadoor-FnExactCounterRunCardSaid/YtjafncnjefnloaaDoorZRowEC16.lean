/-
  Texts that the claim rests on, merged: Pick, Wrap0, Args.
-/
import Derived.Test.YtjafncnjefnloaaDoorZRowEC14

namespace Go.Proofs.YtjafncnjefnloaaDoor.Den
open Go.RowKit
theorem wr_in {x:Int} (h: -9223372036854775808<=x/\x<=9223372036854775807):wr x=x:=Abs.wrap_in h.1 h.2
theorem ix_nat {α:Type} {xs:List α} {k:Nat}:ix xs (k:Int)=xs[k]? :=by simp[ix]
theorem lim_eq {α:Type} {xs:List α} (h:xs.length<=4294967296):lim xs=some xs:=by unfold lim;rw[Nat.ble_eq_true_of_le h];rfl
@[simp] theorem Fm.eta (f : Fm) : Fm.mk f.kind f.prop f.kids = f := by cases f; rfl
@[simp] theorem Cur.eta (c : Cur) : Cur.mk c.b c.i c.h = c := rfl
end Go.Proofs.YtjafncnjefnloaaDoor.Den

namespace Go.Proofs.YtjafncnjefnloaaDoor.Den
open Go.RowKit
open Abs (V AV)
def wS {A:Type} (f:A->Nat) (xs:List A):Nat:=(xs.map f).sum
theorem wS_mem {A:Type} {f:A->Nat} {xs:List A} {x:A} (h:x∈xs):f x<=wS f xs:=by
 unfold wS
 induction xs with
 |nil=>simp at h
 | cons y xs ih =>
  rw[List.map_cons,List.sum_cons]
  rcases List.mem_cons.1 h with rfl|h
  ·omega
  ·have:=ih h;omega
theorem wS_cons {A:Type} {f:A->Nat} {x:A} {xs:List A}:wS f (x::xs)=f x+wS f xs:=by simp[wS]
theorem drop_step {A:Type} {a:List A} {i:Int} (h0:0<=i) (h1:i<a.length):∃x,ix a i=some x/\x∈a/\a.drop i.toNat=x::a.drop (i+1).toNat/\a[i.toNat]? =some x:=by
 have hlt:i.toNat<a.length:=by omega
 refine⟨a[i.toNat],by simp[ix,h0,hlt],List.getElem_mem hlt,?_,List.getElem?_eq_getElem hlt⟩
 rw[List.drop_eq_getElem_cons hlt]
 congr 2
 omega
theorem drop_all {A:Type} {a:List A} {i:Int} (h:¬i<a.length):a.drop i.toNat=[]:=List.drop_eq_nil_of_le (by omega)
theorem mk_nat {A:Type} {x:A} {n:Nat} (h:n<=4294967296):mk x (n:Int)=some (List.replicate n x):=by
 unfold mk
 have:(decide ((0:Int)<=n)&&decide ((n:Int)<=4294967296))=true:=by simp;omega
 rw[this]
 simp
end Go.Proofs.YtjafncnjefnloaaDoor.Den

namespace Go.Proofs.YtjafncnjefnloaaDoor.Den
open Go.RowKit
open Abs (V AV VRs VR)
theorem atrs_nil {ρ:Rho} {H:List Ob}:ATRs ρ H [] []:=⟨rfl,fun j h=>by simp at h⟩
theorem atrs_cons {ρ:Rho} {H:List Ob} {x:AT} {xs:List AT} {a:AV} {bs:List AV} (h:ATR ρ H x a) (k:ATRs ρ H xs bs):ATRs ρ H (x::xs) (a::bs):=by
 refine⟨by have:=k.1;simpa using this,fun j h1 h2=> ?_⟩
 cases j with
 |zero=>exact h
 |succ j=>exact k.2 j (by simpa using h1) (by simpa using h2)
end Go.Proofs.YtjafncnjefnloaaDoor.Den

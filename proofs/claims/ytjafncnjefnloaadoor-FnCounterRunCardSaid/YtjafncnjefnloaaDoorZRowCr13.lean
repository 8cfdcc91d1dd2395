/-
  Texts that the claim rests on, merged: Pick, Wrap0, Args.
-/
import Derived.Test.YtjafncnjefnloaaDoorZRowCr11
import Derived.Test.YtjafncnjefnloaaDoorZRowCr12

namespace Go.Proofs.YtjafncnjefnloaaDoor.Den
open Go.RowKit
noncomputable def pick {A B:Type} (Q:A->B->Prop) (a:A):Option B:=open Classical in if h:∃b,Q a b then some (Classical.choose h)else none
theorem pick_some {A B:Type} {Q:A->B->Prop} {a:A} {b:B} (h:pick Q a=some b):Q a b:=by
 unfold pick at h
 split at h
 ·rename_i hx;cases h;exact Classical.choose_spec hx
 ·cases h
theorem pick_ex {A B:Type} {Q:A->B->Prop} {a:A} {b:B} (h:Q a b):∃b,pick Q a=some b/\Q a b:=by
 have hx:∃b,Q a b:=⟨b,h⟩
 refine⟨Classical.choose hx,?_,Classical.choose_spec hx⟩
 unfold pick
 rw[dif_pos hx]
theorem by_pick {A B:Type} {P:A->Prop} {D:A->B->Prop} {E:(A->Option B)->Prop} {Post:A->B->Prop} (hE:∀g,(∀a b,g a=some b->D a b)->E g) (h:∀a,P a->∃b,D a b/\Post a b):∃g,E g/\∀a,P a->∃b,g a=some b/\Post a b:=
 ⟨pick fun a b=>D a b/\Post a b,hE _ fun _ _ h=>(pick_some h).1,fun a ha=>let⟨_,hb⟩:=h a ha;let⟨b,h1,h2⟩:=pick_ex (Q:=fun a b=>D a b/\Post a b) hb;⟨b,h1,h2.2⟩⟩
theorem by_pick2 {A A' B:Type} {P:A->A'->Prop} {D:A->A'->B->Prop} {E:(A->A'->Option B)->Prop} {Post:A->A'->B->Prop} (hE:∀g,(∀a a' b,g a a'=some b->D a a' b)->E g) (h:∀a a',P a a'->∃b,D a a' b/\Post a a' b):∃g,E g/\∀a a',P a a'->∃b,g a a'=some b/\Post a a' b:=
 ⟨fun a a'=>pick (fun(x:A×A') b=>D x.1 x.2 b/\Post x.1 x.2 b) (a,a'),hE _ fun _ _ _ h=>(pick_some h).1,fun a a' ha=>let⟨_,hb⟩:=h a a' ha;let⟨b,h1,h2⟩:=pick_ex (Q:=fun(x:A×A') b=>D x.1 x.2 b/\Post x.1 x.2 b) (a:=(a,a')) hb;⟨b,h1,h2.2⟩⟩
theorem wr_in {x:Int} (h: -9223372036854775808<=x/\x<=9223372036854775807):wr x=x:=Abs.wrap_in h.1 h.2
theorem ix_in {α:Type} {xs:List α} {i:Int} (h0:0<=i) (h1:i<xs.length):∃x,ix xs i=some x/\xs[i.toNat]? =some x:=by
 have hlt:i.toNat<xs.length:=by omega
 exact⟨xs[i.toNat],by simp[ix,h0,hlt],List.getElem?_eq_getElem hlt⟩
theorem ix_nat {α:Type} {xs:List α} {k:Nat}:ix xs (k:Int)=xs[k]? :=by simp[ix]
theorem lim_eq {α:Type} {xs:List α} (h:xs.length<=4294967296):lim xs=some xs:=by unfold lim;rw[Nat.ble_eq_true_of_le h];rfl
theorem and255 (x:Int):0<=Abs.bitsI .and .i64 x 255/\Abs.bitsI .and .i64 x 255<=255:=by
 have h1:(BitVec.ofInt IntKind.i64.bits x&&&BitVec.ofInt IntKind.i64.bits 255).toNat<=255:=by
  rw[BitVec.toNat_and]
  exact Nat.le_trans Nat.and_le_right (by decide)
 simp only[Abs.bitsI]
 rw[Abs.wrap_in (by omega) (by omega)]
 omega
@[simp] theorem Fm.eta (f : Fm) : Fm.mk f.kind f.prop f.kids = f := by cases f; rfl
@[simp] theorem Cur.eta (c : Cur) : Cur.mk c.b c.i c.h = c := rfl
end Go.Proofs.YtjafncnjefnloaaDoor.Den

namespace Go.Proofs.YtjafncnjefnloaaDoor.Den
open Go.RowKit
open Abs (V AV)
def FitC (c:C):Prop:=∃(I:Nat->Prop) (w:World) (v:V) (u:Value),FR c v/\Abs.VR I w [] v u
def Fit (T:Ty) (d:I T):Prop:=∀c∈explode T d,FitC c
theorem fit_of {T:Ty} {d:I T} {Ib:Nat->Prop} {w:World} {vs:List V} {cs:List Value} (h1:FRs (explode T d) vs) (h2:Abs.VRs [] Ib w vs cs):Fit T d:=fun c hc=>by
 obtain⟨j,hj,rfl⟩:=List.getElem_of_mem hc
 have hj':j<vs.length:=by rw[<-h1.1];exact hj
 obtain⟨u,_,hu⟩:=h2.2 j hj'
 exact⟨Ib,w,_,u,h1.2 j hj hj',hu⟩
def wS {A:Type} (f:A->Nat) (xs:List A):Nat:=(xs.map f).sum
theorem wS_mem {A:Type} {f:A->Nat} {xs:List A} {x:A} (h:x∈xs):f x<=wS f xs:=by
 unfold wS
 induction xs with
 |nil=>simp at h
 | cons y xs ih =>
  rw[List.map_cons,List.sum_cons]
  rcases List.mem_cons.1 h with rfl|h
  ·omega
  ·have:=ih h;omega
theorem wS_cons {A:Type} {f:A->Nat} {x:A} {xs:List A}:wS f (x::xs)=f x+wS f xs:=by simp[wS]
theorem drop_step {A:Type} {a:List A} {i:Int} (h0:0<=i) (h1:i<a.length):∃x,ix a i=some x/\x∈a/\a.drop i.toNat=x::a.drop (i+1).toNat/\a[i.toNat]? =some x:=by
 have hlt:i.toNat<a.length:=by omega
 refine⟨a[i.toNat],by simp[ix,h0,hlt],List.getElem_mem hlt,?_,List.getElem?_eq_getElem hlt⟩
 rw[List.drop_eq_getElem_cons hlt]
 congr 2
 omega
theorem drop_all {A:Type} {a:List A} {i:Int} (h:¬i<a.length):a.drop i.toNat=[]:=List.drop_eq_nil_of_le (by omega)
theorem mk_nat {A:Type} {x:A} {n:Nat} (h:n<=4294967296):mk x (n:Int)=some (List.replicate n x):=by
 unfold mk
 have:(decide ((0:Int)<=n)&&decide ((n:Int)<=4294967296))=true:=by simp;omega
 rw[this]
 simp
end Go.Proofs.YtjafncnjefnloaaDoor.Den

namespace Go.Proofs.YtjafncnjefnloaaDoor.Den
open Go.RowKit
open Abs (V AV VRs VR)
theorem arg_one_fit {w:World} {T:Ty} {v:Value} (hl:Lies w T v.cells.toList) (hv:v.cells= #[v]) {c:I T->C} (hT:∀d:I T,explode T d=[c d]):∃(d:I T) (x:V),Fit T d/\ATR [] [] (.one (c d)) (.one x)/\Abs.AR [] (fun b=>b<w.heap.size) w (.one x) v:=by
 obtain⟨d,vs,h1,h2⟩:=hl
 have hf:=fit_of h1 h2
 rw[hT d]at h1
 rw[hv]at h2
 have hlen:=h2.1
 match vs,h1,h2,hlen with
 | [x], h1, h2, _ =>
  obtain⟨u,u1,u2⟩:=h2.2 0 (by simp)
  simp at u1
  subst u1
  exact⟨d,x,hf,.one (.fl (h1.2 0 (by simp) (by simp))),.one u2⟩
theorem atrs_nil {ρ:Rho} {H:List Ob}:ATRs ρ H [] []:=⟨rfl,fun j h=>by simp at h⟩
theorem atrs_cons {ρ:Rho} {H:List Ob} {x:AT} {xs:List AT} {a:AV} {bs:List AV} (h:ATR ρ H x a) (k:ATRs ρ H xs bs):ATRs ρ H (x::xs) (a::bs):=by
 refine⟨by have:=k.1;simpa using this,fun j h1 h2=> ?_⟩
 cases j with
 |zero=>exact h
 |succ j=>exact k.2 j (by simpa using h1) (by simpa using h2)
end Go.Proofs.YtjafncnjefnloaaDoor.Den

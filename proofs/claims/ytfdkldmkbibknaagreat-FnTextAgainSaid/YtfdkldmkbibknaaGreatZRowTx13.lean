/-
  Texts that the claim rests on, merged: Pick, Wrap0, Args.
-/
import Derived.Test.YtfdkldmkbibknaaGreatZRowTx12

namespace Go.Proofs.YtfdkldmkbibknaaGreat.Den
open Go.RowKit
noncomputable def pick {A B:Type} (Q:A->B->Prop) (a:A):Option B:=open Classical in if h:∃b,Q a b then some (Classical.choose h)else none
theorem fY {A B:Type} {Q:A->B->Prop} {a:A} {b:B} (h:pick Q a=some b):Q a b:=by
 unfold pick at h;split at h
 ·rename_i hx;cases h;exact Classical.choose_spec hx
 ·cases h
theorem j8 {A B:Type} {Q:A->B->Prop} {a:A} {b:B} (h:Q a b):∃b,pick Q a=some b/\Q a b:=by
 have hx:∃b,Q a b:=⟨b,h⟩;refine⟨Classical.choose hx,?_,Classical.choose_spec hx⟩;unfold pick;rw[dif_pos hx]
theorem ki {A B:Type} {P:A->Prop} {D:A->B->Prop} {E:(A->Option B)->Prop} {cR:A->B->Prop} (hE:∀g,(∀a b,g a=some b->D a b)->E g) (h:∀a,P a->∃b,D a b/\cR a b):∃g,E g/\∀a,P a->∃b,g a=some b/\cR a b:=
 ⟨pick λa b=>D a b/\cR a b,hE _ λ_ _ h=>(fY h).1,λa ha=>let⟨_,hb⟩:=h a ha;let⟨b,h1,h2⟩:=j8 (Q:=λa b=>D a b/\cR a b) hb;⟨b,h1,h2.2⟩⟩
theorem iJ {A A' B:Type} {P:A->A'->Prop} {D:A->A'->B->Prop} {E:(A->A'->Option B)->Prop} {cR:A->A'->B->Prop} (hE:∀g,(∀a a' b,g a a'=some b->D a a' b)->E g) (h:∀a a',P a a'->∃b,D a a' b/\cR a a' b):∃g,E g/\∀a a',P a a'->∃b,g a a'=some b/\cR a a' b:=
 ⟨λa a'=>pick (λ(x:A×A') b=>D x.1 x.2 b/\cR x.1 x.2 b) (a,a'),hE _ λ_ _ _ h=>(fY h).1,λa a' ha=>let⟨_,hb⟩:=h a a' ha;let⟨b,h1,h2⟩:=j8 (Q:=λ(x:A×A') b=>D x.1 x.2 b/\cR x.1 x.2 b) (a:=(a,a')) hb;⟨b,h1,h2.2⟩⟩
theorem ai {x:Int} (h: -9223372036854775808<=x/\x<=9223372036854775807):wr x=x:=Abs.kz h.1 h.2
theorem np {α:Type} {xs:List α} {i:Int} (h0:0<=i) (h1:i<xs.length):∃x,ix xs i=some x/\xs[i.toNat]? =some x:=by
 have hlt:i.toNat<xs.length:=by omega
 exact⟨xs[i.toNat],by simp[ix,h0,hlt],gE hlt⟩
theorem ix_nat {α:Type} {xs:List α} {k:Nat}:ix xs (k:Int)=xs[k]? :=by simp[ix]
theorem tE {α:Type} {xs:List α} (h:xs.length<=4294967296):lim xs=some xs:=by unfold lim;rw[Nat.ble_eq_true_of_le h];rfl
theorem Aw {α:Type} {xs:List α} {lo hi:Int} (h0:0<=lo) (h1:lo<=hi) (h2:hi<=xs.length):sub xs lo hi=some ((xs.take hi.toNat).drop lo.toNat):=by simp[sub,h0,h1,h2]
theorem pV (x:Int):0<=Abs.am .and .i64 x 255/\Abs.am .and .i64 x 255<=255:=by
 have h1:(BitVec.ofInt IntKind.i64.bits x&&&BitVec.ofInt IntKind.i64.bits 255).toNat<=255:=by
  rw[BitVec.toNat_and];exact Nat.le_trans Nat.and_le_right (by decide)
 simp only[Abs.am];rw[Abs.kz (by omega) (by omega)];omega
@[simp] theorem Fm.eta (f : Fm) : Fm.mk f.kind f.prop f.kids = f := by cases f; rfl
@[simp] theorem Cur.eta (c : Cur) : Cur.mk c.b c.i c.h = c := rfl
open Abs (V AV)
def FitC (c:C):Prop:=∃(I:Nat->Prop) (w:World) (v:V) (u:Value),FR c v/\Abs.VR I w [] v u
def Fit (T:Ty) (d:I T):Prop:=∀c∈ah T d,FitC c
theorem Fc {T:Ty} {d:I T} {Ib:Nat->Prop} {w:World} {vs:List V} {cs:List Value} (h1:FRs (ah T d) vs) (h2:Abs.VRs [] Ib w vs cs):Fit T d:=λc hc=>by
 obtain⟨j,hj,rfl⟩:=List.getElem_of_mem hc;have hj':j<vs.length:=by rw[<-h1.1];exact hj
 obtain⟨u,_,hu⟩:=h2.2 j hj';exact⟨Ib,w,_,u,h1.2 j hj hj',hu⟩
def wS {A:Type} (f:A->Nat) (xs:List A):Nat:=(xs.map f).sum
theorem Fv {A:Type} {f:A->Nat} {xs:List A} {x:A} (h:x∈xs):f x<=wS f xs:=by
 unfold wS
 induction xs with
 |nil=>simp at h
 | cons y xs ih =>
  rw[List.map_cons,List.sum_cons];rcases List.mem_cons.1 h with rfl|h
  ·omega
  ·have:=ih h;omega
theorem fG {A:Type} {f:A->Nat} {x:A} {xs:List A}:wS f (x::xs)=f x+wS f xs:=by simp[wS]
theorem au {A:Type} {a:List A} {i:Int} (h0:0<=i) (h1:i<a.length):∃x,ix a i=some x/\x∈a/\a.drop i.toNat=x::a.drop (i+1).toNat/\a[i.toNat]? =some x:=by
 have hlt:i.toNat<a.length:=by omega
 refine⟨a[i.toNat],by simp[ix,h0,hlt],gM hlt,?_,gE hlt⟩;rw[List.drop_eq_getElem_cons hlt]
 congr 2
 omega
theorem aQ {A:Type} {a:List A} {i:Int} (h:¬i<a.length):a.drop i.toNat=[]:=List.drop_eq_nil_of_le (by omega)
theorem tH {A:Type} {a:List A} {i:Int} (h0:0<=i) (h1:i<a.length):∃x,ix a i=some x:=⟨_,(au h0 h1).choose_spec.1⟩
theorem sG {A:Type} {a h:List A} {i:Int} {x:A} (h0:0<=i) (_h1:i<a.length) (hl:h.length=a.length) (ht:h.take i.toNat=a.take i.toNat) (hx:a[i.toNat]? =some x):(h.set i.toNat x).length=a.length/\(h.set i.toNat x).take (i+1).toNat=a.take (i+1).toNat:=by
 refine⟨by simp[hl],?_⟩;have e:(i+1).toNat=i.toNat+1:=by omega
 obtain⟨hlt,hx⟩:=gI.1 hx;rw[e,List.take_succ_eq_append_getElem (by simp;omega),List.take_succ_eq_append_getElem hlt,List.take_set_of_le (Nat.le_refl _),ht];simp[hx]
theorem py {A:Type} {a h:List A} {i:Int} (h1:¬i<a.length) (hl:h.length=a.length) (ht:h.take i.toNat=a.take i.toNat):h=a:=by
 rw[List.take_of_length_le (by omega),List.take_of_length_le (by omega)]at ht;exact ht
theorem Ax {A:Type} {x:A} {n:Nat} (h:n<=4294967296):mk x (n:Int)=some (List.replicate n x):=by
 unfold mk;have:(decide ((0:Int)<=n)&&decide ((n:Int)<=4294967296))=true:=by simp;omega
 rw[this];simp
open Abs (V AV VRs VR)
theorem sn {w:World} {T:Ty} {v:Value} (hl:Cc w T v.cells.toList) (hv:v.cells= #[v]) {c:I T->C} (hT:∀d:I T,ah T d=[c d]):∃(d:I T) (x:V),Fit T d/\ATR [] [] (.one (c d)) (.one x)/\Abs.AR [] (λb=>b<w.heap.size) w (.one x) v:=by
 obtain⟨d,vs,h1,h2⟩:=hl;have hf:=Fc h1 h2;rw[hT d]at h1;rw[hv]at h2;have hlen:=h2.1
 match vs,h1,h2,hlen with
 | [x], h1, h2, _ =>
  obtain⟨u,u1,u2⟩:=h2.2 0 (by simp);simp at u1;subst u1;exact⟨d,x,hf,.one (.fl (h1.2 0 (by simp) (by simp))),.one u2⟩
theorem Bg {ρ:Rho} {H:List Ob}:ATRs ρ H [] []:=⟨rfl,λj h=>by simp at h⟩
theorem xE {ρ:Rho} {H:List Ob} {x:AT} {xs:List AT} {a:AV} {bs:List AV} (h:ATR ρ H x a) (k:ATRs ρ H xs bs):ATRs ρ H (x::xs) (a::bs):=by
 refine⟨by have:=k.1;simpa using this,λj h1 h2=> ?_⟩;cases j with
 |zero=>exact h
 |succ j=>exact k.2 j (by simpa using h1) (by simpa using h2)
end Go.Proofs.YtfdkldmkbibknaaGreat.Den

/-
  Texts that the claim rests on, merged: Pick, Wrap0, Tm0.
-/
import Derived.Test.YtfdkldmkbibknaaGreatZRowPT11

namespace Go.Proofs.YtfdkldmkbibknaaGreat.Den
open Go.RowKit
theorem wr_in {x:Int} (h: -9223372036854775808<=x/\x<=9223372036854775807):wr x=x:=Abs.wrap_in h.1 h.2
theorem ix_nat {α:Type} {xs:List α} {k:Nat}:ix xs (k:Int)=xs[k]? :=by simp[ix]
theorem lim_eq {α:Type} {xs:List α} (h:xs.length<=4294967296):lim xs=some xs:=by unfold lim;rw[Nat.ble_eq_true_of_le h];rfl
theorem sub_eq {α:Type} {xs:List α} {lo hi:Int} (h0:0<=lo) (h1:lo<=hi) (h2:hi<=xs.length):sub xs lo hi=some ((xs.take hi.toNat).drop lo.toNat):=by simp[sub,h0,h1,h2]
@[simp] theorem Fm.eta (f : Fm) : Fm.mk f.kind f.prop f.kids = f := by cases f; rfl
@[simp] theorem Cur.eta (c : Cur) : Cur.mk c.b c.i c.h = c := rfl
open Abs (V AV)
def FitC (c:C):Prop:=∃(I:Nat->Prop) (w:World) (v:V) (u:Value),FR c v/\Abs.VR I w [] v u
def Fit (T:Ty) (d:I T):Prop:=∀c∈explode T d,FitC c
theorem fit_of {T:Ty} {d:I T} {Ib:Nat->Prop} {w:World} {vs:List V} {cs:List Value} (h1:FRs (explode T d) vs) (h2:Abs.VRs [] Ib w vs cs):Fit T d:=λc hc=>by
 obtain⟨j,hj,rfl⟩:=List.getElem_of_mem hc
 have hj':j<vs.length:=by rw[<-h1.1];exact hj
 obtain⟨u,_,hu⟩:=h2.2 j hj'
 exact⟨Ib,w,_,u,h1.2 j hj hj',hu⟩
def wS {A:Type} (f:A->Nat) (xs:List A):Nat:=(xs.map f).sum
theorem wS_mem {A:Type} {f:A->Nat} {xs:List A} {x:A} (h:x∈xs):f x<=wS f xs:=by
 unfold wS
 induction xs with
 |nil=>simp at h
 | cons y xs ih =>
  rw[List.map_cons,List.sum_cons]
  rcases List.mem_cons.1 h with rfl|h
  ·omega
  ·have:=ih h;omega
theorem wS_cons {A:Type} {f:A->Nat} {x:A} {xs:List A}:wS f (x::xs)=f x+wS f xs:=by simp[wS]
theorem drop_step {A:Type} {a:List A} {i:Int} (h0:0<=i) (h1:i<a.length):∃x,ix a i=some x/\x∈a/\a.drop i.toNat=x::a.drop (i+1).toNat/\a[i.toNat]? =some x:=by
 have hlt:i.toNat<a.length:=by omega
 refine⟨a[i.toNat],by simp[ix,h0,hlt],gM hlt,?_,gE hlt⟩
 rw[List.drop_eq_getElem_cons hlt]
 congr 2
 omega
theorem drop_all {A:Type} {a:List A} {i:Int} (h:¬i<a.length):a.drop i.toNat=[]:=List.drop_eq_nil_of_le (by omega)
theorem ix_len {A:Type} {a:List A} {i:Int} (h0:0<=i) (h1:i<a.length):∃x,ix a i=some x:=⟨_,(drop_step h0 h1).choose_spec.1⟩
theorem set_take {A:Type} {a h:List A} {i:Int} {x:A} (h0:0<=i) (_h1:i<a.length) (hl:h.length=a.length) (ht:h.take i.toNat=a.take i.toNat) (hx:a[i.toNat]? =some x):(h.set i.toNat x).length=a.length/\(h.set i.toNat x).take (i+1).toNat=a.take (i+1).toNat:=by
 refine⟨by simp[hl],?_⟩
 have e:(i+1).toNat=i.toNat+1:=by omega
 obtain⟨hlt,hx⟩:=gI.1 hx
 rw[e,List.take_succ_eq_append_getElem (by simp;omega),List.take_succ_eq_append_getElem hlt,List.take_set_of_le (Nat.le_refl _),ht]
 simp[hx]
theorem full_take {A:Type} {a h:List A} {i:Int} (h1:¬i<a.length) (hl:h.length=a.length) (ht:h.take i.toNat=a.take i.toNat):h=a:=by
 rw[List.take_of_length_le (by omega),List.take_of_length_le (by omega)]at ht
 exact ht
theorem mk_nat {A:Type} {x:A} {n:Nat} (h:n<=4294967296):mk x (n:Int)=some (List.replicate n x):=by
 unfold mk
 have:(decide ((0:Int)<=n)&&decide ((n:Int)<=4294967296))=true:=by simp;omega
 rw[this]
 simp
open Classical
theorem total_args (f:Tm):f.total=f.name.size+tmTotals f.args:=Tm.total_eq f
theorem Tm.eta (t:Tm):Tm.mk t.op t.name t.sort t.args=t:=by cases t;rfl
theorem tmT_cons (x:Tm) (l:List Tm):tmTotals (x::l)=1+x.total+tmTotals l:=by unfold tmTotals;simp only[List.length_cons,List.map_cons,List.sum_cons];omega
theorem tmT_nil :tmTotals []=0:=rfl
theorem tmT_mem {x:Tm} {l:List Tm} (h:x∈l):x.total<tmTotals l:=by
 induction l with
 |nil=>simp at h
 | cons y l ih =>
  rw[tmT_cons]
  rcases List.mem_cons.1 h with rfl|h
  ·omega
  ·have:=ih h;omega
theorem tmT_len (l:List Tm):l.length<=tmTotals l:=by unfold tmTotals;omega
end Go.Proofs.YtfdkldmkbibknaaGreat.Den

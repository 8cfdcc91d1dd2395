/-
  Texts that the claim rests on, merged: Hol, Fair.
-/
import Derived.Test.YtjafncnjefnloaaDoorZRowEC30
import Derived.Test.YtjafncnjefnloaaDoorZRowEC31

namespace Go.Proofs.YtjafncnjefnloaaDoor.Den
open Go.RowKit
open Classical
def labAt (labels:List Int) (s:Nat):Nat:=(labels[s]?.getD 0).toNat
theorem labAt_get {labels:List Int} (h:∀l∈labels,0<=l/\l<=255) {s:Nat} (hs:s<labels.length):ix labels (s:Int)=some ((labAt labels s:Nat):Int)/\labAt labels s<256:=by
 obtain⟨x,hx,hm⟩:=get_lt hs
 have:=h x hm
 unfold labAt
 rw[ix_get hx,hx]
 simp only[Option.getD_some]
 exact⟨by congr 1;omega,by omega⟩
end Go.Proofs.YtjafncnjefnloaaDoor.Den

namespace Go.Proofs.YtjafncnjefnloaaDoor.Den
open Go.RowKit
open Classical
theorem iterV {S R:Type} (N:Nat) (B:S->(S->Option R)->Option R) (Q:Nat->S->Prop) (val:Nat->S->Option R) (hend:∀s nx,Q N s->B s nx=val N s) (hstep:∀i s nx,i<N->Q i s->(∀s',Q (i+1) s'->nx s'=val (i+1) s')->B s nx=val i s):∀m i s,Q i s->i<=N->N-i<m->iter B m s=val i s
 |0,i,s,_,_,hm=>absurd hm (Nat.not_lt_zero _)
 | m + 1, i, s, hq, hi, hm => by
  show B s (fun v=>iter B m v)=_
  rcases Nat.eq_or_lt_of_le hi with rfl|hlt
  ·exact hend s _ hq
  ·exact hstep i s _ hlt hq fun s' hs'=>iterV N B Q val hend hstep m (i+1) s' hs' hlt (by omega)
section
variable {R : Type}
end
end Go.Proofs.YtjafncnjefnloaaDoor.Den

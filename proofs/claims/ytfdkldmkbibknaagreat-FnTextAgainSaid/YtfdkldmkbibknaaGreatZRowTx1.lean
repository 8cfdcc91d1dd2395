/-
  Texts that the claim rests on, merged: Data, Read0.
-/
import Derived.WalkKit
import Derived.Lib.Hide
import Derived.Test.YtfdkldmkbibknaaGreatRows
import Derived.ProofKit
import Derived.OpenShut
import Derived.ShutString
import Derived.ChangeOld
import Derived.Below
import Derived.Deep.Slices
import Derived.Deep.Strs
import Derived.Lib.SmallJoins
import Derived.Test.YtfdkldmkbibknaaGreatZRowTx0

namespace Go.Proofs.YtfdkldmkbibknaaGreat
open Go.RowKit
structure D where
 val:Option Value
 num:Nat
 cells:List D
def D.lit (u:Value):D:=⟨some u,0,[]⟩
def D.row (n:Nat) (cs:List D):D:=⟨none,n,cs⟩
theorem D.cases (d:D):(∃u n cs,d=⟨some u,n,cs⟩)\/(∃n cs,d= .row n cs):=by
 rcases d with⟨_|u,n,cs⟩
 ·exact .inr ⟨n,cs,rfl⟩
 ·exact .inl ⟨u,n,cs,rfl⟩
def ints (xs:List Int):D:=.row xs.length (xs.map λx=>.lit (.int .i64 x))
end Go.Proofs.YtfdkldmkbibknaaGreat
namespace Go.Proofs.YtfdkldmkbibknaaGreat
open Go.ChangeShapes Go.WideShapes Go.ChangeAt Go.RowKit Go.Deep Go.Joins
theorem Tryz.own :ownKnob Tryz.prog.godebug=none:=by kernel_rfl
theorem Tryz.laidOut :laidOutB Tryz.prog=true:=by kernel_rfl
theorem xB {w:World} {a:Addr} {v:Value} (h:w.cell? a=some v):a=⟨a.block,a.off,none⟩:=by
 obtain⟨b,o,s⟩:=a;have:s=none:=World.cell?_spot h;subst this;rfl
theorem z7 (b o k:Nat):(⟨b,o,none⟩:Addr).add k=⟨b,o+k,none⟩:=by
 unfold Addr.add;split
 ·subst_vars;rfl
 ·rfl
theorem tT {H:Type} {enc:TypeId×Value->H} {P:Program} {w:World} {base:Nat} {spare:Nat->Bool} {held:Bool} {fuel:Nat} {v:Value} {x:DataW H×List MemPlace} {t e:TypeId} {size:Nat}
  (ht:P.underlying t=some (.slice e)) (hsz:P.cellsOf e=size) (hpos:0<size) (h:DataW.trod enc P w base spare held fuel t [v]=some x):
  ∃ A len cap, v = .slice A len cap ∧ len ≤ cap ∧ cap ≤ 9223372036854775807 ∧
   (0<len->∃b off n,fuel=n+1/\A=some ⟨b,off,none⟩/\∀i,i<len->∃cs y,cs.length=size/\(∀j,j<size->w.cell? ⟨b,off+(i*size+j),none⟩=cs[j]?)/\DataW.trod enc P w base spare held n e cs=some y):=by
 rcases DataW.trod_slice ht h with⟨hcs,_⟩|⟨a,len,cap,fe,rest,n,rfl,hcs,_,hb,hl,hm,hlen,hel,_,_⟩
 ·simp at hcs;subst hcs;exact⟨none,0,0,rfl,Nat.le_refl _,by omega,λh=>absurd h (by omega)⟩
 ·simp at hcs;subst hcs;unfold maxLen at hm;refine⟨some a,len,cap,rfl,hl,by omega,λhp=> ?_⟩;have key:∀i,i<len->∃cs y,cs.length=size/\(∀j,j<size->w.cell? (a.add (i*size+j))=cs[j]?)/\DataW.trod enc P w base spare held n e cs=some y:=by
   intro i hi;have h1:=hel i hi;rw[gE (by omega),hsz]at h1;obtain⟨cs,h2,h3⟩:=Option.bind_eq_some_iff.1 h1;obtain⟨_,hcl,hc⟩:=World.cells?_some h2;exact⟨cs,_,hcl,λj hj=>by rw[<-hc j hj,Go.Deep.add_add],h3⟩
  have e0:a=⟨a.block,a.off,none⟩:=by
   obtain⟨cs,y,hcl,hc,_⟩:=key 0 hp;have h0:=hc 0 hpos;rw[gE (by omega)]at h0;have ea:a.add (0*size+0)=a:=by simp[Addr.add]
   rw[ea]at h0;exact xB h0
  refine⟨a.block,a.off,n,rfl,by rw[<-e0],λi hi=> ?_⟩;obtain⟨cs,y,hcl,hc,ht'⟩:=key i hi;exact⟨cs,y,hcl,λj hj=>by rw[<-hc j hj,e0,z7],ht'⟩
end Go.Proofs.YtfdkldmkbibknaaGreat

/-
  Texts that the claim rests on, merged: Data, Read0.
-/
import Derived.WalkKit
import Derived.Lib.Hide
import Derived.Test.YtkinkfieackmdaaGreatDoorRows
import Derived.ProofKit
import Derived.OpenShut
import Derived.ShutString
import Derived.ChangeOld
import Derived.Below
import Derived.Deep.Slices
import Derived.Deep.Strs
import Derived.Lib.SmallJoins
import Derived.Test.YtkinkfieackmdaaGreatDoorZRowPth0

namespace Go.Proofs.YtkinkfieackmdaaGreatDoor
open Go.RowKit
structure D where
 val:Option Value
 num:Nat
 cells:List D
def D.lit (u:Value):D:=⟨some u,0,[]⟩
def D.row (n:Nat) (cs:List D):D:=⟨none,n,cs⟩
theorem D.cases (d:D):(∃u n cs,d=⟨some u,n,cs⟩)\/(∃n cs,d= .row n cs):=by
 rcases d with⟨_|u,n,cs⟩
 ·exact .inr ⟨n,cs,rfl⟩
 ·exact .inl ⟨u,n,cs,rfl⟩
def Blk (w:World) (g:Nat) (t:TypeId) (cs:Array Value):Prop:=w.heap[g]? =some (.cells cs t (0,0))
theorem Blk.lt {w:World} {g:Nat} {t:TypeId} {cs:Array Value} (h:Blk w g t cs):g<w.heap.size:=by
 rcases Nat.lt_or_ge g w.heap.size with hlt|hge
 ·exact hlt
 ·unfold Blk at h;rw[Array.getElem?_eq_none hge]at h;cases h
theorem Blk.cell {w:World} {g:Nat} {t:TypeId} {cs:Array Value} (h:Blk w g t cs) (i:Nat):w.cell? ⟨g,i,none⟩=cs[i]? :=cell_of_row w g i cs t (0,0) h
theorem Blk.new (w:World) (t:TypeId) (cs:Array Value):Blk (w.alloc (.cells cs t)) w.heap.size t cs:=heap_alloc_new w _
theorem Blk.alloc {w:World} {g:Nat} {t:TypeId} {cs:Array Value} (h:Blk w g t cs) (o:Obj):Blk (w.alloc o) g t cs:=(Below.heap_alloc w o g h.lt).trans h
theorem Blk.c3 {w:World} {g:Nat} {t:TypeId} {a b c:Value} (h:Blk w g t #[a,b,c]):w.cell? ⟨g,0,none⟩=some a/\w.cell? ⟨g,1,none⟩=some b/\w.cell? ⟨g,2,none⟩=some c:=⟨h.cell 0,h.cell 1,h.cell 2⟩
theorem Blk.c4 {w:World} {g:Nat} {t:TypeId} {a b c d:Value} (h:Blk w g t #[a,b,c,d]):w.cell? ⟨g,0,none⟩=some a/\w.cell? ⟨g,1,none⟩=some b/\w.cell? ⟨g,2,none⟩=some c/\w.cell? ⟨g,3,none⟩=some d:=⟨h.cell 0,h.cell 1,h.cell 2,h.cell 3⟩
def ints (xs:List Int):D:=.row xs.length (xs.map λx=>.lit (.int .i64 x))
end Go.Proofs.YtkinkfieackmdaaGreatDoor
namespace Go.Proofs.YtkinkfieackmdaaGreatDoor
open Go.ChangeShapes Go.WideShapes Go.ChangeAt Go.RowKit Go.Deep Go.Joins
theorem Tryz.own :ownKnob Tryz.prog.godebug=none:=by kernel_rfl
theorem Tryz.laidOut :laidOutB Tryz.prog=true:=by kernel_rfl
theorem yA {w:World} {a:Addr} {v:Value} (h:w.cell? a=some v):a=⟨a.block,a.off,none⟩:=by
 obtain⟨b,o,s⟩:=a;have:s=none:=World.cell?_spot h;subst this;rfl
theorem AA (b o k:Nat):(⟨b,o,none⟩:Addr).add k=⟨b,o+k,none⟩:=by
 unfold Addr.add;split
 ·subst_vars;rfl
 ·rfl
theorem tC {H:Type} {enc:TypeId×Value->H} {P:Program} {w:World} {base:Nat} {spare:Nat->Bool} {held:Bool} {fuel:Nat} {v:Value} {x:DataW H×List MemPlace} {t e:TypeId} {size:Nat}
  (ht:P.underlying t=some (.slice e)) (hsz:P.cellsOf e=size) (hpos:0<size) (h:DataW.trod enc P w base spare held fuel t [v]=some x):
  ∃ A len cap, v = .slice A len cap ∧ len ≤ cap ∧ cap ≤ 9223372036854775807 ∧
   (0<len->∃b off n,fuel=n+1/\A=some ⟨b,off,none⟩/\∀i,i<len->∃cs y,cs.length=size/\(∀j,j<size->w.cell? ⟨b,off+(i*size+j),none⟩=cs[j]?)/\DataW.trod enc P w base spare held n e cs=some y):=by
 rcases DataW.trod_slice ht h with⟨hcs,_⟩|⟨a,len,cap,fh,rest,n,rfl,hcs,_,hb,hl,hm,hlen,hel,_,_⟩
 ·simp at hcs;subst hcs;exact⟨none,0,0,rfl,Nat.le_refl _,by omega,λh=>absurd h (by omega)⟩
 ·simp at hcs;subst hcs;unfold maxLen at hm;refine⟨some a,len,cap,rfl,hl,by omega,λhp=> ?_⟩;have key:∀i,i<len->∃cs y,cs.length=size/\(∀j,j<size->w.cell? (a.add (i*size+j))=cs[j]?)/\DataW.trod enc P w base spare held n e cs=some y:=by
   intro i hi;have h1:=hel i hi;rw[List.getElem?_eq_getElem (by omega),hsz]at h1;obtain⟨cs,h2,h3⟩:=Option.bind_eq_some_iff.1 h1;obtain⟨_,hcl,hc⟩:=World.cells?_some h2;exact⟨cs,_,hcl,λj hj=>by rw[<-hc j hj,Go.Deep.add_add],h3⟩
  have e0:a=⟨a.block,a.off,none⟩:=by
   obtain⟨cs,y,hcl,hc,_⟩:=key 0 hp;have h0:=hc 0 hpos;rw[List.getElem?_eq_getElem (by omega)]at h0;have ea:a.add (0*size+0)=a:=by simp[Addr.add]
   rw[ea]at h0;exact yA h0
  refine⟨a.block,a.off,n,rfl,by rw[<-e0],λi hi=> ?_⟩;obtain⟨cs,y,hcl,hc,ht'⟩:=key i hi;exact⟨cs,y,hcl,λj hj=>by rw[<-hc j hj,e0,AA],ht'⟩
end Go.Proofs.YtkinkfieackmdaaGreatDoor

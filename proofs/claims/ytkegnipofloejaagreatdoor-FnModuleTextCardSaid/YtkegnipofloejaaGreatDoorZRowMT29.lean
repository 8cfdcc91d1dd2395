/- merged -/
import Derived.Test.YtkegnipofloejaaGreatDoorZRowMT22

namespace Go.Proofs.YtkegnipofloejaaGreatDoor.Den
open Go.RowKit
section
set_option maxRecDepth 100000
set_option linter.unusedVariables false
noncomputable section
namespace z2i
structure Gs where
 z3d:z3d.Q
 z2y:z2y.Q
def aq{R:Type}(G:Gs)(n:Nat)(code:LI)(K:Md->Y R):Y R:=(G.z3d code).bind λr=>sY (G.z2y r) λd=>K d.1
theorem ok{G:Gs}(d:ap [z3d.ent G.z3d,z2y.ent G.z2y]){g:Q}(h:∀code,(∃a,g code a)->∃n,aq (R:=Unit) G n code (λr0=>pG (∃a,g code a/\((TA r0,[]):AT×Td Ob)=((TA a,[]):AT×Td Ob)))=some ()):kH Tryz.prog (ent g):=λR xs H K r hc=>by
 simp only[ent]at hc;split at hc
 .exact okR hc λj=>let⟨_,j⟩:=h _ j;gF d ⟨8,0,[],[],[2],[],[]⟩ nP Tryz.func12 j
 .cases hc
end z2i
namespace z2h
structure Gs where
 z2i:z2i.Q
def aq{R:Type}(G:Gs)(n:Nat)(code:LI)(K:Md->Y R):Y R:=sY (G.z2i code) λr=>K r
theorem ok{G:Gs}(d:ap [z2i.ent G.z2i]){g:Q}(h:∀code,(∃a,g code a)->∃n,aq (R:=Unit) G n code (λr0=>pG (∃a,g code a/\((TA r0,[]):AT×Td Ob)=((TA a,[]):AT×Td Ob)))=some ()):kH Tryz.prog (ent g):=λR xs H K r hc=>by
 simp only[ent]at hc;split at hc
 .exact okR hc λj=>let⟨_,j⟩:=h _ j;gF d ⟨5,0,[],[],[2],[],[]⟩ nP Tryz.func5 j
 .cases hc
end z2h
end
end
section
open Abs (V AV)
def DrM(m:Md):Prop:=SgD m.sig/\SmM m
def Be:Cur->Md×Cur->Prop:=λc r=>Inv c/\DrM r.1/\Inv r.2
def AJ:Td Int->Md->Prop:=λcode m=>code.length<=1048576/\DrM m
section
variable {gD : Cur → Sg → Int → Bool → Y (Tm × Cur)} {gO : Cur → Int → Y (Bool × Cur)} {gB : Cur → Int → Y (Int × Cur)} {gL : Cur → Y (Sg × Cur)}
theorem DZ(C:D6P gD)(D:fO gO)(E:dS gB)(F:L4P gL)(G:aj (z43.ent gD))(I:aj (z3e.ent gO))(J:aj (z35.ent gB))(L:aj (z3n.ent gL)):kH Tryz.prog (z2y.ent Be):=λR xs H K r hc=>by
 simp only[z2y.ent]at hc;split at hc
 .rename_i b i h0;refine okR hc λ⟨_,hc,_⟩=> ?_
  intro ρ h avs hp M;obtain⟨a,vs,t,N,B⟩:=hp.box 0 _ rfl;have A:avs=[.one (.ptr a 0 0)]:=by
   obtain⟨l,g⟩:=M
   match avs,l with
   | [x], _=>
    have:=g 0 A1 A1;simp only[OY]at this
    cases this with|one q=>cases q with
     |fl q=>cases q
     |p q=>rw[t]at q;cases q;rfl
  subst A;have q4:FRs (gm (Cur.mk b i h0)) vs:=⟨B.1,λj h1 h2=>by
   have:=B.2 j h1 h2;have v:fL (gm (Cur.mk b i h0))[j]=true:=by
    match j,h1 with
    |0,_=>rfl
    |1,_=>rfl
    |2,_=>rfl
   exact kO v (this.up v)⟩
  have q5:=q4.vC;subst q5;have d:CurAt h a (Cur.mk b i h0):=N;have S:=hp.lt 0 a t;refine(Abs.zS C D E F G I J L _ hc a h d).mono ?_;rintro T h' ⟨m,us,c',s1,s2,O,P,rfl,rfl⟩;have w:ρ=[some a]:=by
   have:=hp.len
   match ρ,this,t with
   |[x],_,t=>cases t;rfl
  subst w;refine⟨_,[some a],⟨(m,c'),⟨hc,⟨s1,s2⟩,O⟩,rfl⟩,.agg P.cr,Bj (d.set c'),⟨A1,λid x h1 _ _=> ?_,λx y Q=> ?_,λ_ _ h=>h,λid x y=> ?_⟩⟩
  .match id,h1 with
   |0,h1=>cases h1;exact⟨0,rfl,_,rfl,rfl⟩
  .exact sN λe=>Q 0 Rd ⟨_,rfl,rfl⟩
  .match id,y with
   |0,y=>cases y;exact⟨_,rfl,.inr (.inr (.inl ⟨_,_,rfl,rfl⟩))⟩
 .cases hc
theorem qR{d:Td Int->Y Cur}(hN:NewP d)(j:aj (z3d.ent d))(t:kH Tryz.prog (z2y.ent Be)):kH Tryz.prog (z2i.ent AJ):=
 z2i.ok (G:=⟨d,Be⟩) ⟨j,t,trivial⟩ λcode ⟨a,hl,v⟩=>⟨1,by
  obtain⟨c,w,h⟩:=hN code hl;unfold z2i.aq;dsimp only;rw[w,bS];refine wX ⟨(a,c),h,v,h⟩ λ⟨m,c1⟩ ⟨_,y,_⟩=> ?_
  exact uT ⟨m,⟨hl,y⟩,rfl⟩⟩
theorem mM(e:kH Tryz.prog (z2i.ent AJ)):kH Tryz.prog (z2h.ent AJ):=
 z2h.ok (G:=⟨AJ⟩) ⟨e,trivial⟩ λcode h=>⟨1,by
  unfold z2h.aq;refine wX h λr d=> ?_;exact uT ⟨r,d,rfl⟩⟩
end
end
end Go.Proofs.YtkegnipofloejaaGreatDoor.Den

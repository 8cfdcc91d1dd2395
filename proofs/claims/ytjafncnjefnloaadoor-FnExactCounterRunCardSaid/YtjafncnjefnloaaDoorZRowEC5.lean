/-
  Texts that the claim rests on, merged: Read0, Read, ReadForm.
-/
import Derived.Test.YtjafncnjefnloaaDoorRows
import Derived.WalkKit
import Derived.ProofKit
import Derived.OpenShut
import Derived.ShutString
import Derived.ChangeOld
import Derived.Below
import Derived.Deep.Slices
import Derived.Deep.Strs
import Derived.Lib.SmallJoins
import Derived.Test.YtjafncnjefnloaaDoorZRowEC1
import Derived.Test.YtjafncnjefnloaaDoorZRowEC2

namespace Go.Proofs.YtjafncnjefnloaaDoor
open Go.ChangeShapes Go.WideShapes Go.ChangeAt Go.RowKit Go.Deep Go.Joins
theorem Tryd.own :ownKnob Tryd.prog.godebug=none:=by kernel_rfl
theorem Tryd.laidOut :laidOutB Tryd.prog=true:=by kernel_rfl
theorem spot_none {w:World} {a:Addr} {v:Value} (h:w.cell? a=some v):a=⟨a.block,a.off,none⟩:=by
 obtain⟨b,o,s⟩:=a
 have:s=none:=World.cell?_spot h
 subst this
 rfl
theorem add_none (b o k:Nat):(⟨b,o,none⟩:Addr).add k=⟨b,o+k,none⟩:=by
 unfold Addr.add
 split
 ·subst_vars;rfl
 ·rfl
theorem read_slice {H:Type} {enc:TypeId×Value->H} {P:Program} {w:World} {base:Nat} {spare:Nat->Bool} {held:Bool} {fuel:Nat} {v:Value} {x:DataW H×List MemPlace} {t e:TypeId} {size:Nat}
  (ht:P.underlying t=some (.slice e)) (hsz:P.cellsOf e=size) (hpos:0<size) (h:DataW.trod enc P w base spare held fuel t [v]=some x):
  ∃ A len cap, v = .slice A len cap ∧ len ≤ cap ∧ cap ≤ 9223372036854775807 ∧
   (0<len->∃b off n,fuel=n+1/\A=some ⟨b,off,none⟩/\∀i,i<len->∃cs y,cs.length=size/\(∀j,j<size->w.cell? ⟨b,off+(i*size+j),none⟩=cs[j]?)/\DataW.trod enc P w base spare held n e cs=some y):=by
 rcases DataW.trod_slice ht h with⟨hcs,_⟩|⟨a,len,cap,elems,rest,n,rfl,hcs,_,hb,hl,hm,hlen,hel,_,_⟩
 ·simp at hcs
  subst hcs
  exact⟨none,0,0,rfl,Nat.le_refl _,by omega,fun h=>absurd h (by omega)⟩
 ·simp at hcs
  subst hcs
  unfold maxLen at hm
  refine⟨some a,len,cap,rfl,hl,by omega,fun hp=> ?_⟩
  have key:∀i,i<len->∃cs y,cs.length=size/\(∀j,j<size->w.cell? (a.add (i*size+j))=cs[j]?)/\DataW.trod enc P w base spare held n e cs=some y:=by
   intro i hi
   have h1:=hel i hi
   rw[List.getElem?_eq_getElem (by omega),hsz]at h1
   obtain⟨cs,h2,h3⟩:=Option.bind_eq_some_iff.1 h1
   obtain⟨_,hcl,hc⟩:=World.cells?_some h2
   exact⟨cs,_,hcl,fun j hj=>by rw[<-hc j hj,Go.Deep.add_add],h3⟩
  have e0:a=⟨a.block,a.off,none⟩:=by
   obtain⟨cs,y,hcl,hc,_⟩:=key 0 hp
   have h0:=hc 0 hpos
   rw[List.getElem?_eq_getElem (by omega)]at h0
   have ea:a.add (0*size+0)=a:=by simp[Addr.add]
   rw[ea]at h0
   exact spot_none h0
  refine⟨a.block,a.off,n,rfl,by rw[<-e0],fun i hi=> ?_⟩
  obtain⟨cs,y,hcl,hc,ht'⟩:=key i hi
  exact⟨cs,y,hcl,fun j hj=>by rw[<-hc j hj,e0,add_none],ht'⟩
end Go.Proofs.YtjafncnjefnloaaDoor

namespace Go.Proofs.YtjafncnjefnloaaDoor
open Go.ChangeShapes Go.WideShapes Go.ChangeAt Go.RowKit Go.Deep Go.Joins
theorem read_ints {H:Type} {enc:TypeId×Value->H} {w:World} {base:Nat} {spare:Nat->Bool} {held:Bool} {fuel:Nat} {v:Value} {x:DataW H×List MemPlace}
  (h:DataW.trod enc Tryd.prog w base spare held fuel 26 [v]=some x):∃xs,At w Any (ints xs) v:=by
 rcases open_ints Tryd.underlying26 Tryd.underlying3 (by kernel_rfl) h with⟨hcs,_⟩|⟨a,len,cap,zs,hcs,_,hl,hm,hz,_,hcell,hwf⟩
 ·simp at hcs
  subst hcs
  exact⟨[],ints_mk (Nat.le_refl 0) (by omega) (fun h=>absurd h (by simp))⟩
 ·simp at hcs
  subst hcs
  unfold maxLen at hm
  have hzl:len<=zs.length:=by rw[hz];split<;>omega
  have hlen:(zs.take len).length=len:=by rw[List.length_take];omega
  have h1:=ints_mk (w:=w) (S:=Any) (xs:=zs.take len) (A:=some a) (c:=cap) (by omega) (by omega) (fun hp=>by
   have hc0:=hcell 0 (by omega)
   have e0:a.add 0=a:=by simp[Addr.add]
   rw[e0]at hc0
   have e:=spot_none hc0
   refine⟨a.block,a.off,by rw[<-e],trivial,fun k hk=> ?_⟩
   have hk':k<zs.length:=by omega
   have hc:=hcell k hk'
   rw[e,add_none]at hc
   have eg:(zs.take len).getD k 0=zs.getD k 0:=by
    simp[List.getD,show k<len by omega]
   rw[eg]
   refine⟨hc,hwf _ ?_⟩
   simp[List.getD,hk'])
  rw[hlen]at h1
  exact⟨_,h1⟩
theorem read_int {H:Type} {enc:TypeId×Value->H} {w:World} {base:Nat} {spare:Nat->Bool} {held:Bool} {fuel:Nat} {v:Value} {x:DataW H×List MemPlace}
  (h:DataW.trod enc Tryd.prog w base spare held fuel 3 [v]=some x):∃n:Int,v= .int .i64 n/\ -9223372036854775808<=n/\n<=9223372036854775807:=by
 obtain⟨n,e,_,wf⟩:=DataW.trod_int Tryd.underlying3 h
 simp at e
 exact⟨n,e,wf_bounds wf⟩
end Go.Proofs.YtjafncnjefnloaaDoor

namespace Go.Proofs.YtjafncnjefnloaaDoor
open Go.ChangeShapes Go.WideShapes Go.ChangeAt Go.RowKit Go.Deep Go.Joins
instance : Inhabited Fm := ⟨⟨0, 0, []⟩⟩
theorem three {α:Type} {l:List α} (h:l.length=3):∃a b c,l=[a,b,c]:=by
 match l,h with
 |[a,b,c],_=>exact⟨a,b,c,rfl⟩
theorem read_forms_of {H:Type} {enc:TypeId×Value->H} {w:World} {base:Nat} {spare:Nat->Bool} {held:Bool} {fuel:Nat} {v:Value} {x:DataW H×List MemPlace}
  (ih:∀n,n<fuel->∀cs y,DataW.trod enc Tryd.prog w base spare held n 29 cs=some y->∃(f:Fm) (u:Value),cs=[.int .i64 f.kind,.int .i64 f.prop,u]/\At w Any (forms f.kids) u/\(Lit.int .i64 f.kind).wf=true/\(Lit.int .i64 f.prop).wf=true)
  (h:DataW.trod enc Tryd.prog w base spare held fuel 27 [v]=some x):∃fs,At w Any (forms fs) v:=by
 obtain⟨A,len,cap,rfl,h1,h2,h3⟩:=read_slice (size:=3) Tryd.underlying27 (by kernel_rfl) (by omega) h
 rcases Nat.eq_zero_or_pos len with rfl|hp
 ·exact⟨[],forms_mk (by simp) h2 (fun h=>absurd h (by simp))⟩
 ·obtain⟨b,off,n,hfu,rfl,h4⟩:=h3 hp
  obtain⟨F,hF⟩:=choose_lt (α:=Fm) (n:=len) (p:=fun i f=>∃u,w.cell? ⟨b,off+i*3,none⟩=some (.int .i64 f.kind)/\w.cell? ⟨b,off+i*3+1,none⟩=some (.int .i64 f.prop)/\
    w.cell? ⟨b,off+i*3+2,none⟩=some u/\At w Any (forms f.kids) u/\(Lit.int .i64 f.kind).wf=true/\(Lit.int .i64 f.prop).wf=true) (fun i hi=>by
   obtain⟨cs,y,_,hc,ht⟩:=h4 i hi
   obtain⟨f,u,rfl,ha,w0,w1⟩:=ih n (by omega) cs y ht
   exact⟨f,u,hc 0 (by omega),hc 1 (by omega),hc 2 (by omega),ha,w0,w1⟩)
  have hlen:((List.range len).map F).length=len:=by simp
  have hm:=forms_mk (w:=w) (S:=Any) (fs:=(List.range len).map F) (A:=some ⟨b,off,none⟩) (c:=cap) (by rw[hlen];exact h1) h2 (fun _=>⟨b,off,rfl,trivial,fun k f hk=>by
   have hk':k<len:=by have:=(List.getElem?_eq_some_iff.1 hk).1;simpa using this
   have:f=F k:=by simpa [hk']using hk.symm
   subst this
   exact hF k hk'⟩)
  rw[hlen]at hm
  exact⟨_,hm⟩
theorem read_form {H:Type} {enc:TypeId×Value->H} {w:World} {base:Nat} {spare:Nat->Bool} {held:Bool} (fuel:Nat):
  ∀cs y,DataW.trod enc Tryd.prog w base spare held fuel 29 cs=some y->∃(f:Fm) (u:Value),cs=[.int .i64 f.kind,.int .i64 f.prop,u]/\At w Any (forms f.kids) u/\(Lit.int .i64 f.kind).wf=true/\(Lit.int .i64 f.prop).wf=true:=by
 induction fuel using Nat.strongRecOn with
 | ind fuel ih =>
  intro cs y h
  obtain⟨xs,n,hn,_,hcl,hxl,hf⟩:=DataW.trod_struct Tryd.underlying29 h
  have hc3:Tryd.prog.cellsOf 29=3:=by kernel_rfl
  rw[hc3]at hcl
  obtain⟨c0,c1,c2,rfl⟩:=three hcl
  obtain⟨x0,x1,x2,rfl⟩:=three hxl
  have e1:Tryd.prog.cellsOf 3=1:=by kernel_rfl
  have e2:Tryd.prog.cellsOf 27=1:=by kernel_rfl
  have f0:=hf 0 _ rfl
  have f1:=hf 1 _ rfl
  have f2:=hf 2 _ rfl
  simp[e1]at f0 f1
  simp[e2]at f2
  obtain⟨k,r0,_,w0⟩:=DataW.trod_int Tryd.underlying3 f0
  obtain⟨q,r1,_,w1⟩:=DataW.trod_int Tryd.underlying3 f1
  simp at r0 r1
  subst r0 r1
  obtain⟨kids,ha⟩:=read_forms_of (fun m hm=>ih m (by omega)) f2
  exact⟨⟨k,q,kids⟩,c2,rfl,ha,w0,w1⟩
theorem read_forms {H:Type} {enc:TypeId×Value->H} {w:World} {base:Nat} {spare:Nat->Bool} {held:Bool} {fuel:Nat} {v:Value} {x:DataW H×List MemPlace}
  (h:DataW.trod enc Tryd.prog w base spare held fuel 27 [v]=some x):∃fs,At w Any (forms fs) v:=read_forms_of (fun n _=>read_form n) h
end Go.Proofs.YtjafncnjefnloaaDoor

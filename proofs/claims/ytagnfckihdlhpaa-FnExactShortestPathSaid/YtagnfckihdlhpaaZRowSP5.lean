/-
  Texts that the claim rests on, merged: Read0, Read, ReadTerm.
-/
import Derived.Test.YtagnfckihdlhpaaRows
import Derived.WalkKit
import Derived.ProofKit
import Derived.OpenShut
import Derived.ShutString
import Derived.ChangeOld
import Derived.Below
import Derived.Deep.Slices
import Derived.Deep.Strs
import Derived.Lib.SmallJoins
import Derived.Test.YtagnfckihdlhpaaZRowSP1

namespace Go.Proofs.Ytagnfckihdlhpaa
open Go.ChangeShapes Go.WideShapes Go.ChangeAt Go.RowKit Go.Deep Go.Joins
theorem Try.own :ownKnob Try.prog.godebug=none:=by kernel_rfl
theorem Try.laidOut :laidOutB Try.prog=true:=by kernel_rfl
theorem spot_none {w:World} {a:Addr} {v:Value} (h:w.cell? a=some v):a=⟨a.block,a.off,none⟩:=by
 obtain⟨b,o,s⟩:=a
 have:s=none:=World.cell?_spot h
 subst this
 rfl
theorem add_none (b o k:Nat):(⟨b,o,none⟩:Addr).add k=⟨b,o+k,none⟩:=by
 unfold Addr.add
 split
 ·subst_vars;rfl
 ·rfl
theorem read_slice {H:Type} {enc:TypeId×Value->H} {P:Program} {w:World} {base:Nat} {spare:Nat->Bool} {held:Bool} {fuel:Nat} {v:Value} {x:DataW H×List MemPlace} {t e:TypeId} {size:Nat}
  (ht:P.underlying t=some (.slice e)) (hsz:P.cellsOf e=size) (hpos:0<size) (h:DataW.trod enc P w base spare held fuel t [v]=some x):
  ∃ A len cap, v = .slice A len cap ∧ len ≤ cap ∧ cap ≤ 9223372036854775807 ∧
   (0<len->∃b off n,fuel=n+1/\A=some ⟨b,off,none⟩/\∀i,i<len->∃cs y,cs.length=size/\(∀j,j<size->w.cell? ⟨b,off+(i*size+j),none⟩=cs[j]?)/\DataW.trod enc P w base spare held n e cs=some y):=by
 rcases DataW.trod_slice ht h with⟨hcs,_⟩|⟨a,len,cap,elems,rest,n,rfl,hcs,_,hb,hl,hm,hlen,hel,_,_⟩
 ·simp at hcs
  subst hcs
  exact⟨none,0,0,rfl,Nat.le_refl _,by omega,fun h=>absurd h (by omega)⟩
 ·simp at hcs
  subst hcs
  unfold maxLen at hm
  refine⟨some a,len,cap,rfl,hl,by omega,fun hp=> ?_⟩
  have key:∀i,i<len->∃cs y,cs.length=size/\(∀j,j<size->w.cell? (a.add (i*size+j))=cs[j]?)/\DataW.trod enc P w base spare held n e cs=some y:=by
   intro i hi
   have h1:=hel i hi
   rw[List.getElem?_eq_getElem (by omega),hsz]at h1
   obtain⟨cs,h2,h3⟩:=Option.bind_eq_some_iff.1 h1
   obtain⟨_,hcl,hc⟩:=World.cells?_some h2
   exact⟨cs,_,hcl,fun j hj=>by rw[<-hc j hj,Go.Deep.add_add],h3⟩
  have e0:a=⟨a.block,a.off,none⟩:=by
   obtain⟨cs,y,hcl,hc,_⟩:=key 0 hp
   have h0:=hc 0 hpos
   rw[List.getElem?_eq_getElem (by omega)]at h0
   have ea:a.add (0*size+0)=a:=by simp[Addr.add]
   rw[ea]at h0
   exact spot_none h0
  refine⟨a.block,a.off,n,rfl,by rw[<-e0],fun i hi=> ?_⟩
  obtain⟨cs,y,hcl,hc,ht'⟩:=key i hi
  exact⟨cs,y,hcl,fun j hj=>by rw[<-hc j hj,e0,add_none],ht'⟩
end Go.Proofs.Ytagnfckihdlhpaa

namespace Go.Proofs.Ytagnfckihdlhpaa
open Go.ChangeShapes Go.WideShapes Go.ChangeAt Go.RowKit Go.Deep Go.Joins
theorem read_ints {H:Type} {enc:TypeId×Value->H} {w:World} {base:Nat} {spare:Nat->Bool} {held:Bool} {fuel:Nat} {v:Value} {x:DataW H×List MemPlace}
  (h:DataW.trod enc Try.prog w base spare held fuel 22 [v]=some x):∃xs,At w Any (ints xs) v:=by
 rcases open_ints Try.underlying22 Try.underlying3 (by kernel_rfl) h with⟨hcs,_⟩|⟨a,len,cap,zs,hcs,_,hl,hm,hz,_,hcell,hwf⟩
 ·simp at hcs
  subst hcs
  exact⟨[],ints_mk (Nat.le_refl 0) (by omega) (fun h=>absurd h (by simp))⟩
 ·simp at hcs
  subst hcs
  unfold maxLen at hm
  have hzl:len<=zs.length:=by rw[hz];split<;>omega
  have hlen:(zs.take len).length=len:=by rw[List.length_take];omega
  have h1:=ints_mk (w:=w) (S:=Any) (xs:=zs.take len) (A:=some a) (c:=cap) (by omega) (by omega) (fun hp=>by
   have hc0:=hcell 0 (by omega)
   have e0:a.add 0=a:=by simp[Addr.add]
   rw[e0]at hc0
   have e:=spot_none hc0
   refine⟨a.block,a.off,by rw[<-e],trivial,fun k hk=> ?_⟩
   have hk':k<zs.length:=by omega
   have hc:=hcell k hk'
   rw[e,add_none]at hc
   have eg:(zs.take len).getD k 0=zs.getD k 0:=by
    simp[List.getD,show k<len by omega]
   rw[eg]
   refine⟨hc,hwf _ ?_⟩
   simp[List.getD,hk'])
  rw[hlen]at h1
  exact⟨_,h1⟩
theorem read_int {H:Type} {enc:TypeId×Value->H} {w:World} {base:Nat} {spare:Nat->Bool} {held:Bool} {fuel:Nat} {v:Value} {x:DataW H×List MemPlace}
  (h:DataW.trod enc Try.prog w base spare held fuel 3 [v]=some x):∃n:Int,v= .int .i64 n/\ -9223372036854775808<=n/\n<=9223372036854775807:=by
 obtain⟨n,e,_,wf⟩:=DataW.trod_int Try.underlying3 h
 simp at e
 exact⟨n,e,wf_bounds wf⟩
end Go.Proofs.Ytagnfckihdlhpaa

namespace Go.Proofs.Ytagnfckihdlhpaa
open Go.ChangeShapes Go.WideShapes Go.ChangeAt Go.RowKit Go.Deep Go.Joins
instance : Inhabited Tm := ⟨⟨0, ⟨#[]⟩, 0, []⟩⟩
theorem four {α:Type} {l:List α} (h:l.length=4):∃a b c d,l=[a,b,c,d]:=by
 match l,h with
 |[a,b,c,d],_=>exact⟨a,b,c,d,rfl⟩
theorem read_terms_of {H:Type} {enc:TypeId×Value->H} {w:World} {base:Nat} {spare:Nat->Bool} {held:Bool} {fuel:Nat} {v:Value} {x:DataW H×List MemPlace}
  (ih:∀n,n<fuel->∀cs y,DataW.trod enc Try.prog w base spare held n 98 cs=some y->∃(t:Tm) (u:Value),cs=[.int .i64 t.op,.string t.name,.int .i64 t.sort,u]/\At w Any (terms t.args) u/\t.fits)
  (h:DataW.trod enc Try.prog w base spare held fuel 42 [v]=some x):∃ts,At w Any (terms ts) v:=by
 obtain⟨A,len,cap,rfl,h1,h2,h3⟩:=read_slice (size:=4) Try.underlying42 (by kernel_rfl) (by omega) h
 rcases Nat.eq_zero_or_pos len with rfl|hp
 ·exact⟨[],terms_mk (by simp) h2 (fun h=>absurd h (by simp))⟩
 ·obtain⟨b,off,n,hfu,rfl,h4⟩:=h3 hp
  obtain⟨F,hF⟩:=choose_lt (α:=Tm) (n:=len) (p:=fun i t=>∃u,w.cell? ⟨b,off+i*4,none⟩=some (.int .i64 t.op)/\w.cell? ⟨b,off+i*4+1,none⟩=some (.string t.name)/\
    w.cell? ⟨b,off+i*4+2,none⟩=some (.int .i64 t.sort)/\w.cell? ⟨b,off+i*4+3,none⟩=some u/\At w Any (terms t.args) u/\t.fits) (fun i hi=>by
   obtain⟨cs,y,_,hc,ht⟩:=h4 i hi
   obtain⟨t,u,rfl,ha,hf⟩:=ih n (by omega) cs y ht
   exact⟨t,u,hc 0 (by omega),hc 1 (by omega),hc 2 (by omega),hc 3 (by omega),ha,hf⟩)
  have hlen:((List.range len).map F).length=len:=by simp
  have hm:=terms_mk (w:=w) (S:=Any) (ts:=(List.range len).map F) (A:=some ⟨b,off,none⟩) (c:=cap) (by rw[hlen];exact h1) h2 (fun _=>⟨b,off,rfl,trivial,fun k t hk=>by
   have hk':k<len:=by have:=(List.getElem?_eq_some_iff.1 hk).1;simpa using this
   have:t=F k:=by simpa [hk']using hk.symm
   subst this
   exact hF k hk'⟩)
  rw[hlen]at hm
  exact⟨_,hm⟩
theorem read_term {H:Type} {enc:TypeId×Value->H} {w:World} {base:Nat} {spare:Nat->Bool} {held:Bool} (fuel:Nat):
  ∀cs y,DataW.trod enc Try.prog w base spare held fuel 98 cs=some y->∃(t:Tm) (u:Value),cs=[.int .i64 t.op,.string t.name,.int .i64 t.sort,u]/\At w Any (terms t.args) u/\t.fits:=by
 induction fuel using Nat.strongRecOn with
 | ind fuel ih =>
  intro cs y h
  obtain⟨xs,n,hn,_,hcl,hxl,hf⟩:=DataW.trod_struct Try.underlying98 h
  have hc4:Try.prog.cellsOf 98=4:=by kernel_rfl
  rw[hc4]at hcl
  obtain⟨c0,c1,c2,c3,rfl⟩:=four hcl
  obtain⟨x0,x1,x2,x3,rfl⟩:=four hxl
  have e1:Try.prog.cellsOf 3=1:=by kernel_rfl
  have e2:Try.prog.cellsOf 42=1:=by kernel_rfl
  have e3:Try.prog.cellsOf 9=1:=by kernel_rfl
  have f0:=hf 0 _ rfl
  have f1:=hf 1 _ rfl
  have f2:=hf 2 _ rfl
  have f3:=hf 3 _ rfl
  simp[e1]at f0 f2
  simp[e2]at f3
  simp[e3]at f1
  obtain⟨o,r0,_,w0⟩:=DataW.trod_int Try.underlying3 f0
  obtain⟨nm,r1,_,w1⟩:=DataW.trod_string Try.underlying9 f1
  obtain⟨s,r2,_,w2⟩:=DataW.trod_int Try.underlying3 f2
  simp at r0 r1 r2
  subst r0 r1 r2
  obtain⟨args,ha⟩:=read_terms_of (fun m hm=>ih m (by omega)) f3
  unfold maxLen at w1
  exact⟨⟨o,nm,s,args⟩,c3,rfl,ha,(wf_bounds w0).1,(wf_bounds w0).2,(by show nm.size<=_;omega),(wf_bounds w2).1,(wf_bounds w2).2⟩
theorem read_terms {H:Type} {enc:TypeId×Value->H} {w:World} {base:Nat} {spare:Nat->Bool} {held:Bool} {fuel:Nat} {v:Value} {x:DataW H×List MemPlace}
  (h:DataW.trod enc Try.prog w base spare held fuel 42 [v]=some x):∃ts,At w Any (terms ts) v:=read_terms_of (fun n _=>read_term n) h
theorem read_rows {H:Type} {enc:TypeId×Value->H} {w:World} {base:Nat} {spare:Nat->Bool} {held:Bool} {fuel:Nat} {v:Value} {x:DataW H×List MemPlace}
  (h:DataW.trod enc Try.prog w base spare held fuel 43 [v]=some x):∃xss,At w Any (rows xss) v:=by
 obtain⟨A,len,cap,rfl,h1,h2,h3⟩:=read_slice (size:=1) Try.underlying43 (by kernel_rfl) (by omega) h
 rcases Nat.eq_zero_or_pos len with rfl|hp
 ·exact⟨[],rows_mk (by simp) h2 (fun h=>absurd h (by simp))⟩
 ·obtain⟨b,off,n,hfu,rfl,h4⟩:=h3 hp
  obtain⟨F,hF⟩:=choose_lt (α:=List Int) (n:=len) (p:=fun i xs=>∃u,w.cell? ⟨b,off+i,none⟩=some u/\At w Any (ints xs) u) (fun i hi=>by
   obtain⟨cs,y,hcl,hc,ht⟩:=h4 i hi
   match cs,hcl with
   | [c0], _ =>
    obtain⟨xs,ha⟩:=read_ints ht
    have:=hc 0 (by omega)
    simp at this
    exact⟨xs,c0,this,ha⟩)
  have hlen:((List.range len).map F).length=len:=by simp
  have hm:=rows_mk (w:=w) (S:=Any) (xss:=(List.range len).map F) (A:=some ⟨b,off,none⟩) (c:=cap) (by rw[hlen];exact h1) h2 (fun _=>⟨b,off,rfl,trivial,fun k xs hk=>by
   have hk':k<len:=by have:=(List.getElem?_eq_some_iff.1 hk).1;simpa using this
   have:xs=F k:=by simpa [hk']using hk.symm
   subst this
   exact hF k hk'⟩)
  rw[hlen]at hm
  exact⟨_,hm⟩
end Go.Proofs.Ytagnfckihdlhpaa

import Derived.Test.YtjafncnjefnloaaDoorZRowEC1
import Derived.Test.YtjafncnjefnloaaDoorZRowEC5
namespace Go.Proofs.YtjafncnjefnloaaDoor
open Go.ChangeShapes Go.WideShapes Go.ChangeAt Go.RowKit Go.Deep Go.Joins
instance : Inhabited Tm := ⟨⟨0, ⟨#[]⟩, 0, []⟩⟩
theorem four {α:Type} {l:List α} (h:l.length=4):∃a b c d,l=[a,b,c,d]:=by
 match l,h with
 |[a,b,c,d],_=>exact⟨a,b,c,d,rfl⟩
theorem read_terms_of {H:Type} {enc:TypeId×Value->H} {w:World} {base:Nat} {spare:Nat->Bool} {held:Bool} {fuel:Nat} {v:Value} {x:DataW H×List MemPlace}
  (ih:∀n,n<fuel->∀cs y,DataW.trod enc Tryd.prog w base spare held n 97 cs=some y->∃(t:Tm) (u:Value),cs=[.int .i64 t.op,.string t.name,.int .i64 t.sort,u]/\At w Any (terms t.args) u/\t.fits)
  (h:DataW.trod enc Tryd.prog w base spare held fuel 22 [v]=some x):∃ts,At w Any (terms ts) v:=by
 obtain⟨A,len,cap,rfl,h1,h2,h3⟩:=read_slice (size:=4) Tryd.underlying22 (by kernel_rfl) (by omega) h
 rcases Nat.eq_zero_or_pos len with rfl|hp
 ·exact⟨[],terms_mk (by simp) h2 (fun h=>absurd h (by simp))⟩
 ·obtain⟨b,off,n,hfu,rfl,h4⟩:=h3 hp
  obtain⟨F,hF⟩:=choose_lt (α:=Tm) (n:=len) (p:=fun i t=>∃u,w.cell? ⟨b,off+i*4,none⟩=some (.int .i64 t.op)/\w.cell? ⟨b,off+i*4+1,none⟩=some (.string t.name)/\
    w.cell? ⟨b,off+i*4+2,none⟩=some (.int .i64 t.sort)/\w.cell? ⟨b,off+i*4+3,none⟩=some u/\At w Any (terms t.args) u/\t.fits) (fun i hi=>by
   obtain⟨cs,y,_,hc,ht⟩:=h4 i hi
   obtain⟨t,u,rfl,ha,hf⟩:=ih n (by omega) cs y ht
   exact⟨t,u,hc 0 (by omega),hc 1 (by omega),hc 2 (by omega),hc 3 (by omega),ha,hf⟩)
  have hlen:((List.range len).map F).length=len:=by simp
  have hm:=terms_mk (w:=w) (S:=Any) (ts:=(List.range len).map F) (A:=some ⟨b,off,none⟩) (c:=cap) (by rw[hlen];exact h1) h2 (fun _=>⟨b,off,rfl,trivial,fun k t hk=>by
   have hk':k<len:=by have:=(List.getElem?_eq_some_iff.1 hk).1;simpa using this
   have:t=F k:=by simpa [hk']using hk.symm
   subst this
   exact hF k hk'⟩)
  rw[hlen]at hm
  exact⟨_,hm⟩
theorem read_term {H:Type} {enc:TypeId×Value->H} {w:World} {base:Nat} {spare:Nat->Bool} {held:Bool} (fuel:Nat):
  ∀cs y,DataW.trod enc Tryd.prog w base spare held fuel 97 cs=some y->∃(t:Tm) (u:Value),cs=[.int .i64 t.op,.string t.name,.int .i64 t.sort,u]/\At w Any (terms t.args) u/\t.fits:=by
 induction fuel using Nat.strongRecOn with
 | ind fuel ih =>
  intro cs y h
  obtain⟨xs,n,hn,_,hcl,hxl,hf⟩:=DataW.trod_struct Tryd.underlying97 h
  have hc4:Tryd.prog.cellsOf 97=4:=by kernel_rfl
  rw[hc4]at hcl
  obtain⟨c0,c1,c2,c3,rfl⟩:=four hcl
  obtain⟨x0,x1,x2,x3,rfl⟩:=four hxl
  have e1:Tryd.prog.cellsOf 3=1:=by kernel_rfl
  have e2:Tryd.prog.cellsOf 22=1:=by kernel_rfl
  have e3:Tryd.prog.cellsOf 9=1:=by kernel_rfl
  have f0:=hf 0 _ rfl
  have f1:=hf 1 _ rfl
  have f2:=hf 2 _ rfl
  have f3:=hf 3 _ rfl
  simp[e1]at f0 f2
  simp[e2]at f3
  simp[e3]at f1
  obtain⟨o,r0,_,w0⟩:=DataW.trod_int Tryd.underlying3 f0
  obtain⟨nm,r1,_,w1⟩:=DataW.trod_string Tryd.underlying9 f1
  obtain⟨s,r2,_,w2⟩:=DataW.trod_int Tryd.underlying3 f2
  simp at r0 r1 r2
  subst r0 r1 r2
  obtain⟨args,ha⟩:=read_terms_of (fun m hm=>ih m (by omega)) f3
  unfold maxLen at w1
  exact⟨⟨o,nm,s,args⟩,c3,rfl,ha,(wf_bounds w0).1,(wf_bounds w0).2,(by show nm.size<=_;omega),(wf_bounds w2).1,(wf_bounds w2).2⟩
theorem read_terms {H:Type} {enc:TypeId×Value->H} {w:World} {base:Nat} {spare:Nat->Bool} {held:Bool} {fuel:Nat} {v:Value} {x:DataW H×List MemPlace}
  (h:DataW.trod enc Tryd.prog w base spare held fuel 22 [v]=some x):∃ts,At w Any (terms ts) v:=read_terms_of (fun n _=>read_term n) h
theorem read_rows {H:Type} {enc:TypeId×Value->H} {w:World} {base:Nat} {spare:Nat->Bool} {held:Bool} {fuel:Nat} {v:Value} {x:DataW H×List MemPlace}
  (h:DataW.trod enc Tryd.prog w base spare held fuel 23 [v]=some x):∃xss,At w Any (rows xss) v:=by
 obtain⟨A,len,cap,rfl,h1,h2,h3⟩:=read_slice (size:=1) Tryd.underlying23 (by kernel_rfl) (by omega) h
 rcases Nat.eq_zero_or_pos len with rfl|hp
 ·exact⟨[],rows_mk (by simp) h2 (fun h=>absurd h (by simp))⟩
 ·obtain⟨b,off,n,hfu,rfl,h4⟩:=h3 hp
  obtain⟨F,hF⟩:=choose_lt (α:=List Int) (n:=len) (p:=fun i xs=>∃u,w.cell? ⟨b,off+i,none⟩=some u/\At w Any (ints xs) u) (fun i hi=>by
   obtain⟨cs,y,hcl,hc,ht⟩:=h4 i hi
   match cs,hcl with
   | [c0], _ =>
    obtain⟨xs,ha⟩:=read_ints ht
    have:=hc 0 (by omega)
    simp at this
    exact⟨xs,c0,this,ha⟩)
  have hlen:((List.range len).map F).length=len:=by simp
  have hm:=rows_mk (w:=w) (S:=Any) (xss:=(List.range len).map F) (A:=some ⟨b,off,none⟩) (c:=cap) (by rw[hlen];exact h1) h2 (fun _=>⟨b,off,rfl,trivial,fun k xs hk=>by
   have hk':k<len:=by have:=(List.getElem?_eq_some_iff.1 hk).1;simpa using this
   have:xs=F k:=by simpa [hk']using hk.symm
   subst this
   exact hF k hk'⟩)
  rw[hlen]at hm
  exact⟨_,hm⟩
end Go.Proofs.YtjafncnjefnloaaDoor

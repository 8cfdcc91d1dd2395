import Derived.Test.YtjafncnjefnloaaDoorZRowEC4
namespace Go.Proofs.YtjafncnjefnloaaDoor
open Go.RowKit
def EqF (f:Fm):Prop:=∀(w:World) (v u:Value),At w Any (forms f.kids) v->At w Any (forms f.kids) u->
  Calls Tryd.prog 18 #[.agg #[.int .i64 f.kind,.int .i64 f.prop,v],.agg #[.int .i64 f.kind,.int .i64 f.prop,u]] w fun e w'=>e= .returned (.bool true)/\Below w.heap.size w w'
set_option maxHeartbeats 1000000 in
theorem eqFormulaS_of (fs:List Fm) (ih:∀x∈fs,EqF x) (w:World) (v u:Value) (h:At w Any (forms fs) v) (g:At w Any (forms fs) u):
  Calls Tryd.prog 50 #[v,u] w fun e w'=>e= .returned (.bool true)/\Below w.heap.size w w':=by
 obtain⟨A,c,rfl,hn,hc⟩:=forms_slice h
 obtain⟨A',c',rfl,hn',hc'⟩:=forms_slice g
 have IH:=Lib.hid ih
 clear ih
 have hl':((fs.length:Int) !=(fs.length:Int))=false:=by simp
 go_enter Tryd.func50,Tryd.ntmps50
 go_wp2_with fail
 go_loopw [5] (fun i wr=>∃k:Nat,k<=fs.length/\i= .int .i64 k/\Below w.heap.size w wr) (fun i _=>fs.length-(intOf i).toNat)
 case atStart=>exact⟨0,Nat.zero_le _,rfl,Below.refl _ _⟩
 case round=>
  obtain⟨k,hk,rfl,hb⟩:=hrel
  by_cases hlt:k<fs.length
  ·obtain⟨b,off,f,x,rfl,_,hlb,c1,c2,c3,hx,HX,_⟩:=forms_get (h.below hb) hlt
   obtain⟨b',off',f',x',rfl,_,hlb',c1',c2',c3',hx',HX',_⟩:=forms_get (g.below hb) hlt
   have hff:f'=f:=by have e1:=HX.out;have e2:=HX'.out;rw[e1]at e2;injection e2 with e2;exact e2.symm
   subst hff
   have hmem:=List.mem_of_getElem? HX.out
   have hi1:(k:Int)<(fs.length:Int):=by omega
   have hz:=hb.size
   clear HX HX'
   go_wp2_with fail
   go_region_held3 (fun w'=>w'.cell? ⟨b,off+k*3,none⟩=some (.int .i64 f'.kind)/\w'.cell? ⟨b,off+k*3+1,none⟩=some (.int .i64 f'.prop)/\w'.cell? ⟨b,off+k*3+2,none⟩=some x/\
     w'.cell? ⟨b',off'+k*3,none⟩=some (.int .i64 f'.kind)/\w'.cell? ⟨b',off'+k*3+1,none⟩=some (.int .i64 f'.prop)/\w'.cell? ⟨b',off'+k*3+2,none⟩=some x') (go_keep)
    (first|(go_at_call 18;refine(IH.out f' hmem _ _ _ ?_ ?_).mono ?_;(exact hx.drew);(exact hx'.drew);rintro e w1 ⟨rfl,hb1⟩;have q1:=(hb1.cell (p:=⟨b,off+k*3,none⟩) hlb).trans c1;have q2:=(hb1.cell (p:=⟨b,off+k*3+1,none⟩) hlb).trans c2;have q3:=(hb1.cell (p:=⟨b,off+k*3+2,none⟩) hlb).trans c3;have q4:=(hb1.cell (p:=⟨b',off'+k*3,none⟩) hlb').trans c1';have q5:=(hb1.cell (p:=⟨b',off'+k*3+1,none⟩) hlb').trans c2';have q6:=(hb1.cell (p:=⟨b',off'+k*3+2,none⟩) hlb').trans c3'))
   go_wp2_with fail
   go_roundw
   case rel=>exact⟨k+1,by omega,by go_num,by repeat (first|with_reducible exact Below.refl _ _|with_reducible refine Below.setCell ?_ (by first|omega|(simp<;>omega)) _|with_reducible refine Below.drew ?_|with_reducible refine below_drewN ?_ _|with_reducible refine Below.alloc ?_ (by first|omega|(simp<;>omega)) _|with_reducible refine Below.trans ?_ (Below.mono (by assumption) (by first|omega|(simp<;>omega))))⟩
   case measure=>simp[intOf];omega
  ·go_wp2_with fail
   go_ret
   exact⟨rfl,hb⟩
set_option maxHeartbeats 400000 in
theorem eqFormula_any (f:Fm):EqF f:=by
 induction f using Fm.induct with
 | h k q kids ih =>
  intro w v u h g
  have IH:=Lib.hid ih
  clear ih
  obtain⟨A,c,rfl,hn,hc⟩:=forms_slice h
  obtain⟨A',c',rfl,hn',hc'⟩:=forms_slice g
  have e1:(k !=k)=false:=by simp
  have e2:(q !=q)=false:=by simp
  go_enter Tryd.func18,Tryd.ntmps18
  go_wp2_with fail
  refine(eqFormulaS_of kids IH.out _ _ _ ((h.alloc _).alloc _) ((g.alloc _).alloc _)).mono ?_
  rintro e w1 ⟨rfl,hb1⟩
  go_wp2_with fail
  go_ret
  exact⟨rfl,by repeat (first|with_reducible exact Below.refl _ _|with_reducible refine Below.setCell ?_ (by first|omega|(simp<;>omega)) _|with_reducible refine Below.drew ?_|with_reducible refine below_drewN ?_ _|with_reducible refine Below.alloc ?_ (by first|omega|(simp<;>omega)) _|with_reducible refine Below.trans ?_ (Below.mono (by assumption) (by first|omega|(simp<;>omega))))⟩
end Go.Proofs.YtjafncnjefnloaaDoor

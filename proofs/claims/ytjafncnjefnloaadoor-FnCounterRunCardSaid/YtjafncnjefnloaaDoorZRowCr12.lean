import Derived.Test.YtjafncnjefnloaaDoorZRowCr1
import Derived.Test.YtjafncnjefnloaaDoorZRowCr11
namespace Go.Proofs.YtjafncnjefnloaaDoor.Den
open Go.ChangeShapes Go.WideShapes Go.ChangeAt Go.RowKit Go.Deep Go.Joins
open Abs (V AV VRs VR)
def memT (TM:List (Nat×Ty)) (t:Nat) (T:Ty):Bool:=TM.any fun p=>Nat.beq p.1 t&&decide (p.2=T)
theorem memT_iff {TM:List (Nat×Ty)} {t:Nat} {T:Ty} (h:memT TM t T=true):(t,T)∈TM:=by
 obtain⟨p,h1,h2⟩:=List.any_eq_true.1 h
 rw[Bool.and_eq_true]at h2
 have e1:=Nat.eq_of_beq_eq_true h2.1
 have e2:=of_decide_eq_true h2.2
 rw[<-e1,<-e2]
 exact h1
noncomputable def fieldsT (P:Program) (TM:List (Nat×Ty)):List Field->List Ty->Nat->Bool
 |[],[],_=>true
 |f::fs,T::Ts,off=>Nat.beq f.offset off&&Nat.beq (P.cellsOf f.type) (szT T)&&memT TM f.type T&&fieldsT P TM fs Ts (off+szT T)
 |_,_,_=>false
def szTs :List Ty->Nat
 |[]=>0
 |T::Ts=>szT T+szTs Ts
noncomputable def stepT (P:Program) (TM:List (Nat×Ty)) (t:Nat):Ty->Bool
 | .i=>match P.underlying t with|some (.int .i64)=>true|_=>false
 | .b=>match P.underlying t with|some .bool=>true|_=>false
 | .s=>match P.underlying t with|some .string=>true|_=>false
 | .u=>match P.underlying t with|some (.int .u8)=>true|_=>false
 | .sl T=>match P.underlying t with
  |some (.slice e)=>Nat.beq (P.cellsOf e) (szT T)&&Nat.blt 0 (szT T)&&memT TM e T
  |_=>false
 | .n k=>match P.underlying t with
  |some (.struct fs)=>Nat.beq (P.cellsOf t) (szTs (flds k))&&Nat.blt 0 (szT (.n k))&&fieldsT P TM fs.toList (flds k) 0
  |_=>false
def TMOK (P:Program) (TM:List (Nat×Ty)):Prop:=∀p∈TM,stepT P TM p.1 p.2=true
def Lies (w:World) (T:Ty) (cs:List Value):Prop:=∃(d:I T) (vs:List V),FRs (explode T d) vs/\VRs [] (fun b=>b<w.heap.size) w vs cs
theorem lies1 {w:World} {T:Ty} {d:I T} {c:C} {v:V} {u:Value} (he:explode T d=[c]) (hf:FR c v) (hv:VR (fun b=>b<w.heap.size) w [] v u):Lies w T [u]:=
 ⟨d, [v], by rw [he]; exact ⟨rfl, fun j h1 h2 => by
  have:j=0:=by simp at h2;omega
  subst this;exact hf⟩,⟨rfl,fun j hj=>by
  have:j=0:=by simp at hj;omega
  subst this;exact⟨u,rfl,hv⟩⟩⟩
section
variable {H : Type} {enc : TypeId × Value → H} {P : Program} {w : World} {base : Nat} {spare : Nat → Bool} {held : Bool} {TM : List (Nat × Ty)}
theorem read_fields {fuel:Nat} {cs:List Value} {xs:List (DataW H×List MemPlace)} (ih:∀t T cs x,memT TM t T=true->DataW.trod enc P w base spare held fuel t cs=some x->Lies w T cs):∀{fs:List Field} {Ts:List Ty} {off k:Nat},fieldsT P TM fs Ts off=true->cs.length=off+szTs Ts->xs.length=k+fs.length->
  (∀(i:Nat) (f:Field),fs[i]? =some f->DataW.trod enc P w base spare held fuel f.type ((cs.drop f.offset).take (P.cellsOf f.type))=xs[k+i]?)->
  ∃ds vs,Flds Ts ds/\FRs ds vs/\VRs [] (fun b=>b<w.heap.size) w vs (cs.drop off)
 | [], [], off, k, _, hl, _, _ => ⟨[], [], .nil, ⟨rfl, fun j h => by simp at h⟩, by
   rw[List.drop_eq_nil_of_le (by simp[szTs]at hl;omega)]
   exact⟨rfl,fun j h=>by simp at h⟩⟩
 | f :: fs, T :: Ts, off, k, h, hl, hx, hf => by
  simp only[fieldsT,Bool.and_eq_true]at h
  obtain⟨⟨⟨h1,h2⟩,h3⟩,h4⟩:=h
  have h1:=Nat.eq_of_beq_eq_true h1
  have h2:=Nat.eq_of_beq_eq_true h2
  have e0:=hf 0 f rfl
  simp only[List.length_cons]at hx
  simp only[szTs]at hl
  rw[Nat.add_zero,List.getElem?_eq_getElem (by omega)]at e0
  rw[h1,h2]at e0
  obtain⟨d,vs,a1,a2⟩:=ih f.type T _ _ h3 e0
  obtain⟨ds,us,b1,b2,b3⟩:=read_fields (cs:=cs) (xs:=xs) ih (k:=k+1) h4 (by omega) (by omega) (fun i g hg=>by rw[hf (i+1) g (by simpa using hg)];congr 1;omega)
  refine⟨explode T d++ds,vs++us,.cons d b1,a1.app b2,?_⟩
  have e1:cs.drop off=(cs.drop off).take (szT T)++cs.drop (off+szT T):=by rw[<-List.drop_drop,List.take_append_drop]
  rw[e1]
  exact a2.append b3
 |[],_::_,_,_,h,_,_,_=>by simp[fieldsT]at h
 |_::_,[],_,_,h,_,_,_=>by simp[fieldsT]at h
theorem read_ty (hTM:TMOK P TM):∀(fuel:Nat) (t:Nat) (T:Ty) (cs:List Value) (x:DataW H×List MemPlace),memT TM t T=true->DataW.trod enc P w base spare held fuel t cs=some x->Lies w T cs:=by
 intro fuel
 induction fuel using Nat.strongRecOn with
 | ind fuel ih =>
  intro t T cs x hm h
  have hs:=hTM _ (memT_iff hm)
  simp only at hs
  cases T with
  | i =>
   simp only[stepT]at hs
   split at hs
   ·rename_i ht
    obtain⟨n,rfl,_,wf⟩:=DataW.trod_int ht h
    exact lies1 (T:=.i) (d:=n) rfl .i (.lit wf)
   ·cases hs
  | b =>
   simp only[stepT]at hs
   split at hs
   ·rename_i ht
    obtain⟨b,rfl,_⟩:=DataW.trod_bool ht h
    exact lies1 (T:=.b) (d:=b) rfl .b (.lit trivial)
   ·cases hs
  | s =>
   simp only[stepT]at hs
   split at hs
   ·rename_i ht
    obtain⟨s,rfl,_,wf⟩:=DataW.trod_string ht h
    exact lies1 (T:=.s) (d:=s) rfl .s (.lit wf)
   ·cases hs
  | u =>
   simp only[stepT]at hs
   split at hs
   ·rename_i ht
    obtain⟨n,rfl,_,wf⟩:=DataW.trod_int ht h
    exact lies1 (T:=.u) (d:=n) rfl .k (.lit wf)
   ·cases hs
  | sl T =>
   simp only[stepT]at hs
   split at hs
   ·rename_i e ht
    simp only[Bool.and_eq_true]at hs
    obtain⟨⟨h1,h2⟩,h3⟩:=hs
    have h1:=Nat.eq_of_beq_eq_true h1
    have h2:0<szT T:=by simpa [Nat.blt_eq]using h2
    obtain⟨v,rfl⟩:∃v,cs=[v]:=by
     rcases DataW.trod_slice ht h with⟨hc,_⟩|⟨a,len,cap,elems,rest,n,_,hc,_⟩
     ·exact⟨_,hc⟩
     ·exact⟨_,hc⟩
    obtain⟨A,len,cap,rfl,g1,g2,g3⟩:=read_slice ht h1 h2 h
    rcases Nat.eq_zero_or_pos len with rfl|hp
    ·exact lies1 (T:=.sl T) (d:=[]) rfl (FR.nil_ h2) (.imm0 g2)
    ·obtain⟨b,off,n,rfl,rfl,g4⟩:=g3 hp
     have key:∀i,i<len->∃q:I T×List V×List Value,FRs (explode T q.1) q.2.1/\VRs [] (fun b=>b<w.heap.size) w q.2.1 q.2.2/\q.2.2.length=szT T/\∀j,j<szT T->w.cell? ⟨b,off+(i*szT T+j),none⟩=q.2.2[j]? :=fun i hi=>by
      obtain⟨cs,y,k1,k2,k3⟩:=g4 i hi
      obtain⟨d,vs,k4,k5⟩:=ih n (by omega) e T cs y h3 k3
      exact⟨(d,vs,cs),k4,k5,k1,k2⟩
     have:Inhabited (I T×List V×List Value):=⟨Classical.choose (key 0 hp)⟩
     obtain⟨F,hF⟩:=choose_lt (α:=I T×List V×List Value) (n:=len) (p:=fun i q=>FRs (explode T q.1) q.2.1/\VRs [] (fun b=>b<w.heap.size) w q.2.1 q.2.2/\q.2.2.length=szT T/\∀j,j<szT T->w.cell? ⟨b,off+(i*szT T+j),none⟩=q.2.2[j]?) key
     have hb:b<w.heap.size:=by
      obtain⟨_,_,f3,f4⟩:=hF 0 hp
      have:=f4 0 h2
      rw[List.getElem?_eq_getElem (by omega)]at this
      rcases Nat.lt_or_ge b w.heap.size with h|h
      ·exact h
      ·simp[World.cell?,Array.getElem?_eq_none h]at this
     have hvl:∀i,i<len->(F i).2.1.length=szT T:=fun i hi=>by
      obtain⟨_,f2,f3,_⟩:=hF i hi
      rw[<-f2.1,f3]
     have hfr:FR (.l T ((List.range len).map fun i=>(F i).1)) (.imm (szT T) ((List.range len).map fun i=>(F i).2.1)):=by
      refine .l h2 (by simp) (fun e he=> ?_) (fun m m1 m2 j j1 j2=> ?_)
      ·obtain⟨i,hi,rfl⟩:=List.mem_map.1 he
       exact hvl i (by simpa using hi)
      ·have hm:m<len:=by simpa using m1
       simp only[List.getElem_map,List.getElem_range]at j1 j2 ⊢
       exact(hF m hm).1.2 j j1 j2
     have hvr:VR (fun b=>b<w.heap.size) w [] (.imm (szT T) ((List.range len).map fun i=>(F i).2.1)) (.slice (some ⟨b,off,none⟩) len cap):=by
      have hl:((List.range len).map fun i=>(F i).2.1).length=len:=by simp
      have:=VR.imm (I:=fun b=>b<w.heap.size) (w:=w) (ι:=[]) (s:=szT T) (b:=b) (off:=off) (c:=cap) (es:=(List.range len).map fun i=>(F i).2.1) (f:=fun k j=>(F k).2.2.getD j undef) (fun e he=>by
       obtain⟨i,hi,rfl⟩:=List.mem_map.1 he
       exact hvl i (by simpa using hi)) (by rw[hl];exact g1) g2 hb (fun k j hk hj=>by
       rw[hl]at hk
       obtain⟨_,f2,f3,f4⟩:=hF k hk
       rw[f4 j hj,List.getElem?_eq_getElem (by omega)]
       simp[List.getD,f3,hj]) (fun k hk j hj=>by
       have hk':k<len:=by simpa using hk
       simp only[List.getElem_map,List.getElem_range]at hj ⊢
       obtain⟨_,f2,f3,_⟩:=hF k hk'
       obtain⟨u,u1,u2⟩:=f2.2 j hj
       have:(F k).2.2.getD j undef=u:=by simp[List.getD,u1]
       rw[this]
       exact u2)
      rw[hl]at this
      exact this
     exact lies1 (T:=.sl T) (d:=(List.range len).map fun i=>(F i).1) rfl hfr hvr
   ·cases hs
  | n k =>
   simp only[stepT]at hs
   split at hs
   ·rename_i fs ht
    simp only[Bool.and_eq_true]at hs
    obtain⟨⟨h1,h2⟩,h3⟩:=hs
    have h1:=Nat.eq_of_beq_eq_true h1
    have h2:0<szT (.n k):=by simpa [Nat.blt_eq]using h2
    obtain⟨xs,n,rfl,_,hcl,hxl,hf⟩:=DataW.trod_struct ht h
    obtain⟨ds,vs,a1,a2,a3⟩:=read_fields (cs:=cs) (xs:=xs) (k:=0) (fun t T cs x=>ih n (by omega) t T cs x) h3 (by rw[hcl,h1];omega) (by simpa using hxl) (fun i f hi=>by rw[Nat.zero_add];exact hf i f (by simpa using hi))
    obtain⟨d,rfl⟩:=flds_mk k ds h2 a1
    exact⟨d,vs,a2,by simpa using a3⟩
   ·cases hs
end
theorem calls_law {P:Program} {f:FuncId} {xs:List AT} (hc:CFn P f xs [] (.one (.b true)) []) {w:World} {avs:List AV} {vs:Array Value} (hx:ATRs [] [] xs avs) (hA:Abs.ARs [] (fun b=>b<w.heap.size) w avs vs):
  Calls P f vs w fun e w'=>e= .returned (.bool true)/\Below w.heap.size w w':=by
 have hF:=hc [] [] avs HpR.nil_ hx
 refine(hF.2 w (fun b=>b<w.heap.size) [] vs (Abs.HR.nil _ w) (fun _ h=>h) hA).mono ?_
 rintro e w' ⟨r,h',ι',I',c,⟨ρ',hr,_,_⟩,rfl,D⟩
 obtain⟨u,rfl,hu⟩:=hr.one'
 have e1:=hu.bool
 subst e1
 have:=D.res.bool
 subst this
 exact⟨rfl,⟨D.os,D.tape,D.output,D.grown,fun b hb=>D.frame b hb (Abs.noPass b)⟩⟩
theorem ars_nil {w:World}:Abs.ARs [] (fun b=>b<w.heap.size) w [] #[]:=⟨rfl,fun j h=>by simp at h⟩
theorem ars_cons {w:World} {av:AV} {avs:List AV} {v:Value} {vs:List Value} (h:Abs.AR [] (fun b=>b<w.heap.size) w av v) (k:Abs.ARs [] (fun b=>b<w.heap.size) w avs vs.toArray):Abs.ARs [] (fun b=>b<w.heap.size) w (av::avs) (v::vs).toArray:=by
 refine⟨by have:=k.1;simpa using this,fun j hj=> ?_⟩
 cases j with
 |zero=>exact⟨v,by simp,h⟩
 | succ j =>
  obtain⟨c,c1,c2⟩:=k.2 j (by simpa using hj)
  exact⟨c,by simpa using c1,c2⟩
end Go.Proofs.YtjafncnjefnloaaDoor.Den

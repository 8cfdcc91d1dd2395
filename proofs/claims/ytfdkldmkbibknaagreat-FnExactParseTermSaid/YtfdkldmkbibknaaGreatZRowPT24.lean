/-
  Texts that the claim rests on, merged: Read0, ReadD, Args.
-/
import Derived.Test.YtfdkldmkbibknaaGreatRows
import Derived.WalkKit
import Derived.ProofKit
import Derived.OpenShut
import Derived.ShutString
import Derived.ChangeOld
import Derived.Below
import Derived.Deep.Slices
import Derived.Deep.Strs
import Derived.Lib.SmallJoins
import Derived.Test.YtfdkldmkbibknaaGreatZRowPT1
import Derived.Test.YtfdkldmkbibknaaGreatZRowPT11
import Derived.Test.YtfdkldmkbibknaaGreatZRowPT15

namespace Go.Proofs.YtfdkldmkbibknaaGreat
open Go.ChangeShapes Go.WideShapes Go.ChangeAt Go.RowKit Go.Deep Go.Joins
theorem Tryz.own :ownKnob Tryz.prog.godebug=none:=by kernel_rfl
theorem Tryz.laidOut :laidOutB Tryz.prog=true:=by kernel_rfl
theorem spot_none {w:World} {a:Addr} {v:Value} (h:w.cell? a=some v):a=⟨a.block,a.off,none⟩:=by
 obtain⟨b,o,s⟩:=a
 have:s=none:=World.cell?_spot h
 subst this
 rfl
theorem add_none (b o k:Nat):(⟨b,o,none⟩:Addr).add k=⟨b,o+k,none⟩:=by
 unfold Addr.add
 split
 ·subst_vars;rfl
 ·rfl
theorem read_slice {H:Type} {enc:TypeId×Value->H} {P:Program} {w:World} {base:Nat} {spare:Nat->Bool} {held:Bool} {fuel:Nat} {v:Value} {x:DataW H×List MemPlace} {t e:TypeId} {size:Nat}
  (ht:P.underlying t=some (.slice e)) (hsz:P.cellsOf e=size) (hpos:0<size) (h:DataW.trod enc P w base spare held fuel t [v]=some x):
  ∃ A len cap, v = .slice A len cap ∧ len ≤ cap ∧ cap ≤ 9223372036854775807 ∧
   (0<len->∃b off n,fuel=n+1/\A=some ⟨b,off,none⟩/\∀i,i<len->∃cs y,cs.length=size/\(∀j,j<size->w.cell? ⟨b,off+(i*size+j),none⟩=cs[j]?)/\DataW.trod enc P w base spare held n e cs=some y):=by
 rcases DataW.trod_slice ht h with⟨hcs,_⟩|⟨a,len,cap,elems,rest,n,rfl,hcs,_,hb,hl,hm,hlen,hel,_,_⟩
 ·simp at hcs
  subst hcs
  exact⟨none,0,0,rfl,Nat.le_refl _,by omega,λh=>absurd h (by omega)⟩
 ·simp at hcs
  subst hcs
  unfold maxLen at hm
  refine⟨some a,len,cap,rfl,hl,by omega,λhp=> ?_⟩
  have key:∀i,i<len->∃cs y,cs.length=size/\(∀j,j<size->w.cell? (a.add (i*size+j))=cs[j]?)/\DataW.trod enc P w base spare held n e cs=some y:=by
   intro i hi
   have h1:=hel i hi
   rw[gE (by omega),hsz]at h1
   obtain⟨cs,h2,h3⟩:=Option.bind_eq_some_iff.1 h1
   obtain⟨_,hcl,hc⟩:=World.cells?_some h2
   exact⟨cs,_,hcl,λj hj=>by rw[<-hc j hj,Go.Deep.add_add],h3⟩
  have e0:a=⟨a.block,a.off,none⟩:=by
   obtain⟨cs,y,hcl,hc,_⟩:=key 0 hp
   have h0:=hc 0 hpos
   rw[gE (by omega)]at h0
   have ea:a.add (0*size+0)=a:=by simp[Addr.add]
   rw[ea]at h0
   exact spot_none h0
  refine⟨a.block,a.off,n,rfl,by rw[<-e0],λi hi=> ?_⟩
  obtain⟨cs,y,hcl,hc,ht'⟩:=key i hi
  exact⟨cs,y,hcl,λj hj=>by rw[<-hc j hj,e0,add_none],ht'⟩
end Go.Proofs.YtfdkldmkbibknaaGreat
namespace Go.Proofs.YtfdkldmkbibknaaGreat.Den
open Go.ChangeShapes Go.WideShapes Go.ChangeAt Go.RowKit Go.Deep Go.Joins
open Abs (V AV VRs VR)
def memT (TM:List (Nat×Ty)) (t:Nat) (T:Ty):Bool:=TM.any λp=>Nat.beq p.1 t&&decide (p.2=T)
theorem memT_iff {TM:List (Nat×Ty)} {t:Nat} {T:Ty} (h:memT TM t T=true):(t,T)∈TM:=by
 obtain⟨p,h1,h2⟩:=List.any_eq_true.1 h
 rw[bA]at h2
 have e1:=nB h2.1
 have e2:=of_decide_eq_true h2.2
 rw[<-e1,<-e2]
 exact h1
noncomputable def fieldsT (P:Program) (TM:List (Nat×Ty)):List Field->List Ty->Nat->Bool
 |[],[],_=>true
 |f::fs,T::Ts,off=>Nat.beq f.offset off&&Nat.beq (P.cellsOf f.type) (szT T)&&memT TM f.type T&&fieldsT P TM fs Ts (off+szT T)
 |_,_,_=>false
def szTs :List Ty->Nat
 |[]=>0
 |T::Ts=>szT T+szTs Ts
noncomputable def stepT (P:Program) (TM:List (Nat×Ty)) (t:Nat):Ty->Bool
 | .i=>match P.underlying t with|some (.int .i64)=>true|_=>false
 | .b=>match P.underlying t with|some .bool=>true|_=>false
 | .s=>match P.underlying t with|some .string=>true|_=>false
 | .u=>match P.underlying t with|some (.int .u8)=>true|_=>false
 | .sl T=>match P.underlying t with
  |some (.slice e)=>Nat.beq (P.cellsOf e) (szT T)&&Nat.blt 0 (szT T)&&memT TM e T
  |_=>false
 | .n k=>match P.underlying t with
  |some (.struct fs)=>Nat.beq (P.cellsOf t) (szTs (flds k))&&Nat.blt 0 (szT (.n k))&&fieldsT P TM fs.toList (flds k) 0
  |_=>false
def TMOK (P:Program) (TM:List (Nat×Ty)):Prop:=∀p∈TM,stepT P TM p.1 p.2=true
def Lies (w:World) (T:Ty) (cs:List Value):Prop:=∃(d:I T) (vs:List V),FRs (explode T d) vs/\VRs [] (λb=>b<w.heap.size) w vs cs
theorem lies1 {w:World} {T:Ty} {d:I T} {c:C} {v:V} {u:Value} (he:explode T d=[c]) (hf:FR c v) (hv:VR (λb=>b<w.heap.size) w [] v u):Lies w T [u]:=
 ⟨d, [v], by rw [he]; exact ⟨rfl, fun j h1 h2 => by
  have:j=0:=by simp at h2;omega
  subst this;exact hf⟩,⟨rfl,λj hj=>by
  have:j=0:=by simp at hj;omega
  subst this;exact⟨u,rfl,hv⟩⟩⟩
section
variable {H : Type} {enc : TypeId × Value → H} {P : Program} {w : World} {base : Nat} {spare : Nat → Bool} {held : Bool} {TM : List (Nat × Ty)}
theorem read_fields {fuel:Nat} {cs:List Value} {xs:List (DataW H×List MemPlace)} (ih:∀t T cs x,memT TM t T=true->DataW.trod enc P w base spare held fuel t cs=some x->Lies w T cs):∀{fs:List Field} {Ts:List Ty} {off k:Nat},fieldsT P TM fs Ts off=true->cs.length=off+szTs Ts->xs.length=k+fs.length->
  (∀(i:Nat) (f:Field),fs[i]? =some f->DataW.trod enc P w base spare held fuel f.type ((cs.drop f.offset).take (P.cellsOf f.type))=xs[k+i]?)->
  ∃ds vs,Flds Ts ds/\FRs ds vs/\VRs [] (λb=>b<w.heap.size) w vs (cs.drop off)
 | [], [], off, k, _, hl, _, _ => ⟨[], [], .nil, ⟨rfl, fun j h => by simp at h⟩, by
   rw[List.drop_eq_nil_of_le (by simp[szTs]at hl;omega)]
   exact⟨rfl,λj h=>by simp at h⟩⟩
 | f :: fs, T :: Ts, off, k, h, hl, hx, hf => by
  simp only[fieldsT,bA]at h
  obtain⟨⟨⟨h1,h2⟩,h3⟩,h4⟩:=h
  have h1:=nB h1
  have h2:=nB h2
  have e0:=hf 0 f rfl
  simp only[List.length_cons]at hx
  simp only[szTs]at hl
  rw[Nat.add_zero,gE (by omega)]at e0
  rw[h1,h2]at e0
  obtain⟨d,vs,a1,a2⟩:=ih f.type T _ _ h3 e0
  obtain⟨ds,us,b1,b2,b3⟩:=read_fields (cs:=cs) (xs:=xs) ih (k:=k+1) h4 (by omega) (by omega) (λi g hg=>by rw[hf (i+1) g (by simpa using hg)];congr 1;omega)
  refine⟨explode T d++ds,vs++us,.cons d b1,a1.app b2,?_⟩
  have e1:cs.drop off=(cs.drop off).take (szT T)++cs.drop (off+szT T):=by rw[<-List.drop_drop,List.take_append_drop]
  rw[e1]
  exact a2.append b3
 |[],_::_,_,_,h,_,_,_=>by simp[fieldsT]at h
 |_::_,[],_,_,h,_,_,_=>by simp[fieldsT]at h
theorem read_ty (hTM:TMOK P TM):∀(fuel:Nat) (t:Nat) (T:Ty) (cs:List Value) (x:DataW H×List MemPlace),memT TM t T=true->DataW.trod enc P w base spare held fuel t cs=some x->Lies w T cs:=by
 intro fuel
 induction fuel using Nat.strongRecOn with
 | ind fuel ih =>
  intro t T cs x hm h
  have hs:=hTM _ (memT_iff hm)
  simp only at hs
  cases T with
  | i =>
   simp only[stepT]at hs
   split at hs
   ·rename_i ht
    obtain⟨n,rfl,_,wf⟩:=DataW.trod_int ht h
    exact lies1 (T:=.i) (d:=n) rfl .i (.lit wf)
   ·cases hs
  | b =>
   simp only[stepT]at hs
   split at hs
   ·rename_i ht
    obtain⟨b,rfl,_⟩:=DataW.trod_bool ht h
    exact lies1 (T:=.b) (d:=b) rfl .b (.lit trivial)
   ·cases hs
  | s =>
   simp only[stepT]at hs
   split at hs
   ·rename_i ht
    obtain⟨s,rfl,_,wf⟩:=DataW.trod_string ht h
    exact lies1 (T:=.s) (d:=s) rfl .s (.lit wf)
   ·cases hs
  | u =>
   simp only[stepT]at hs
   split at hs
   ·rename_i ht
    obtain⟨n,rfl,_,wf⟩:=DataW.trod_int ht h
    exact lies1 (T:=.u) (d:=n) rfl .k (.lit wf)
   ·cases hs
  | sl T =>
   simp only[stepT]at hs
   split at hs
   ·rename_i e ht
    simp only[bA]at hs
    obtain⟨⟨h1,h2⟩,h3⟩:=hs
    have h1:=nB h1
    have h2:0<szT T:=by simpa [Nat.blt_eq]using h2
    obtain⟨v,rfl⟩:∃v,cs=[v]:=by
     rcases DataW.trod_slice ht h with⟨hc,_⟩|⟨a,len,cap,elems,rest,n,_,hc,_⟩
     ·exact⟨_,hc⟩
     ·exact⟨_,hc⟩
    obtain⟨A,len,cap,rfl,g1,g2,g3⟩:=read_slice ht h1 h2 h
    rcases Nat.eq_zero_or_pos len with rfl|hp
    ·exact lies1 (T:=.sl T) (d:=[]) rfl (FR.nil_ h2) (.imm0 g2)
    ·obtain⟨b,off,n,rfl,rfl,g4⟩:=g3 hp
     have key:∀i,i<len->∃q:I T×List V×List Value,FRs (explode T q.1) q.2.1/\VRs [] (λb=>b<w.heap.size) w q.2.1 q.2.2/\q.2.2.length=szT T/\∀j,j<szT T->w.cell? ⟨b,off+(i*szT T+j),none⟩=q.2.2[j]? :=λi hi=>by
      obtain⟨cs,y,k1,k2,k3⟩:=g4 i hi
      obtain⟨d,vs,k4,k5⟩:=ih n (by omega) e T cs y h3 k3
      exact⟨(d,vs,cs),k4,k5,k1,k2⟩
     have:Inhabited (I T×List V×List Value):=⟨Classical.choose (key 0 hp)⟩
     obtain⟨F,hF⟩:=choose_lt (α:=I T×List V×List Value) (n:=len) (p:=λi q=>FRs (explode T q.1) q.2.1/\VRs [] (λb=>b<w.heap.size) w q.2.1 q.2.2/\q.2.2.length=szT T/\∀j,j<szT T->w.cell? ⟨b,off+(i*szT T+j),none⟩=q.2.2[j]?) key
     have hb:b<w.heap.size:=by
      obtain⟨_,_,f3,f4⟩:=hF 0 hp
      have:=f4 0 h2
      rw[gE (by omega)]at this
      rcases Nat.lt_or_ge b w.heap.size with h|h
      ·exact h
      ·simp[World.cell?,Array.getElem?_eq_none h]at this
     have hvl:∀i,i<len->(F i).2.1.length=szT T:=λi hi=>by
      obtain⟨_,f2,f3,_⟩:=hF i hi
      rw[<-f2.1,f3]
     have hfr:FR (.l T ((List.range len).map λi=>(F i).1)) (.imm (szT T) ((List.range len).map λi=>(F i).2.1)):=by
      refine .l h2 (by simp) (λe he=> ?_) (λm m1 m2 j j1 j2=> ?_)
      ·obtain⟨i,hi,rfl⟩:=List.mem_map.1 he
       exact hvl i (by simpa using hi)
      ·have hm:m<len:=by simpa using m1
       simp only[List.getElem_map,List.getElem_range]at j1 j2 ⊢
       exact(hF m hm).1.2 j j1 j2
     have hvr:VR (λb=>b<w.heap.size) w [] (.imm (szT T) ((List.range len).map λi=>(F i).2.1)) (.slice (some ⟨b,off,none⟩) len cap):=by
      have hl:((List.range len).map λi=>(F i).2.1).length=len:=by simp
      have:=VR.imm (I:=λb=>b<w.heap.size) (w:=w) (ι:=[]) (s:=szT T) (b:=b) (off:=off) (c:=cap) (es:=(List.range len).map λi=>(F i).2.1) (f:=λk j=>(F k).2.2.getD j undef) (λe he=>by
       obtain⟨i,hi,rfl⟩:=List.mem_map.1 he
       exact hvl i (by simpa using hi)) (by rw[hl];exact g1) g2 hb (λk j hk hj=>by
       rw[hl]at hk
       obtain⟨_,f2,f3,f4⟩:=hF k hk
       rw[f4 j hj,gE (by omega)]
       simp[List.getD,f3,hj]) (λk hk j hj=>by
       have hk':k<len:=by simpa using hk
       simp only[List.getElem_map,List.getElem_range]at hj ⊢
       obtain⟨_,f2,f3,_⟩:=hF k hk'
       obtain⟨u,u1,u2⟩:=f2.2 j hj
       have:(F k).2.2.getD j undef=u:=by simp[List.getD,u1]
       rw[this]
       exact u2)
      rw[hl]at this
      exact this
     exact lies1 (T:=.sl T) (d:=(List.range len).map λi=>(F i).1) rfl hfr hvr
   ·cases hs
  | n k =>
   simp only[stepT]at hs
   split at hs
   ·rename_i fs ht
    simp only[bA]at hs
    obtain⟨⟨h1,h2⟩,h3⟩:=hs
    have h1:=nB h1
    have h2:0<szT (.n k):=by simpa [Nat.blt_eq]using h2
    obtain⟨xs,n,rfl,_,hcl,hxl,hf⟩:=DataW.trod_struct ht h
    obtain⟨ds,vs,a1,a2,a3⟩:=read_fields (cs:=cs) (xs:=xs) (k:=0) (λt T cs x=>ih n (by omega) t T cs x) h3 (by rw[hcl,h1];omega) (by simpa using hxl) (λi f hi=>by rw[Nat.zero_add];exact hf i f (by simpa using hi))
    obtain⟨d,rfl⟩:=flds_mk k ds h2 a1
    exact⟨d,vs,a2,by simpa using a3⟩
   ·cases hs
end
theorem ars_nil {w:World}:Abs.ARs [] (λb=>b<w.heap.size) w [] #[]:=⟨rfl,λj h=>by simp at h⟩
theorem ars_cons {w:World} {av:AV} {avs:List AV} {v:Value} {vs:List Value} (h:Abs.AR [] (λb=>b<w.heap.size) w av v) (k:Abs.ARs [] (λb=>b<w.heap.size) w avs vs.toArray):Abs.ARs [] (λb=>b<w.heap.size) w (av::avs) (v::vs).toArray:=by
 refine⟨by have:=k.1;simpa using this,λj hj=> ?_⟩
 cases j with
 |zero=>exact⟨v,by simp,h⟩
 | succ j =>
  obtain⟨c,c1,c2⟩:=k.2 j (by simpa using hj)
  exact⟨c,by simpa using c1,c2⟩
end Go.Proofs.YtfdkldmkbibknaaGreat.Den
namespace Go.Proofs.YtfdkldmkbibknaaGreat.Den
open Go.RowKit
open Abs (V AV VRs VR)
theorem arg_one_fit {w:World} {T:Ty} {v:Value} (hl:Lies w T v.cells.toList) (hv:v.cells= #[v]) {c:I T->C} (hT:∀d:I T,explode T d=[c d]):∃(d:I T) (x:V),Fit T d/\ATR [] [] (.one (c d)) (.one x)/\Abs.AR [] (λb=>b<w.heap.size) w (.one x) v:=by
 obtain⟨d,vs,h1,h2⟩:=hl
 have hf:=fit_of h1 h2
 rw[hT d]at h1
 rw[hv]at h2
 have hlen:=h2.1
 match vs,h1,h2,hlen with
 | [x], h1, h2, _ =>
  obtain⟨u,u1,u2⟩:=h2.2 0 (by simp)
  simp at u1
  subst u1
  exact⟨d,x,hf,.one (.fl (h1.2 0 (by simp) (by simp))),.one u2⟩
theorem atrs_nil {ρ:Rho} {H:List Ob}:ATRs ρ H [] []:=⟨rfl,λj h=>by simp at h⟩
theorem atrs_cons {ρ:Rho} {H:List Ob} {x:AT} {xs:List AT} {a:AV} {bs:List AV} (h:ATR ρ H x a) (k:ATRs ρ H xs bs):ATRs ρ H (x::xs) (a::bs):=by
 refine⟨by have:=k.1;simpa using this,λj h1 h2=> ?_⟩
 cases j with
 |zero=>exact h
 |succ j=>exact k.2 j (by simpa using h1) (by simpa using h2)
end Go.Proofs.YtfdkldmkbibknaaGreat.Den

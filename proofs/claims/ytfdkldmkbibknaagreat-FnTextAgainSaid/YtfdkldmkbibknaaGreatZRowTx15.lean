/-
  Texts that the claim rests on, merged: Below, Lib0, LibJ.
-/
import Derived.Test.YtfdkldmkbibknaaGreatZRowTx5
import Derived.Test.YtfdkldmkbibknaaGreatZRowTx12
import Derived.Test.YtfdkldmkbibknaaGreatZRowTx14

namespace Go.Proofs.YtfdkldmkbibknaaGreat.Abs
open Go.RowKit
section
variable [Zb]
theorem HR.below {ι:List Inf} {I:Nat->Prop} {w w':World} {h:ag} (hh:HR ι I w h) (hI:∀b,I b->b<w.heap.size) (hb:Below w.heap.size w w'):HR ι I w' h:=
 have hk:Keeps I I w w':=⟨λ_ h=>h,λb hb'=>hb.block b (hI b hb')⟩
 { len := hh.len
   obj := fun id o inf h1 h2 => by
     have ho:=hh.obj id o inf h1 h2;have hlt:inf.block<w.heap.size:=by
       cases o with
       | row s es =>
         obtain⟨cur,t,e,_⟩:=ho;rcases Nat.lt_or_ge inf.block w.heap.size with h|h
         · exact h
         · rw[Array.getElem?_eq_none h]at e;cases e
       | map kvs =>
         obtain⟨cur,t,e,_⟩:=ho;rcases Nat.lt_or_ge inf.block w.heap.size with h|h
         · exact h
         · rw[Array.getElem?_eq_none h]at e;cases e
     exact ho.keep (Grows.refl _) hk (hb.block _ hlt)
   off:=hh.off
   inj:=hh.inj
   sub:=hh.sub}
omit [Zb]in
theorem qY {P:Program} {f:FuncId} {xs:List AV} {h:ag} {u:Value} (hc:callable P f) (hu:dM u)
  (hh:∀[Zb] (w:World) (I:Nat->Prop) (ι:List Inf) (cs:Array Value),(∀b,I b->b<w.heap.size)->ARs ι I w xs cs->Calls P f cs w λe w'=>e= .returned u/\Below w.heap.size w w'):Fn P f xs h (λr h'=>r= .one (.lit u)/\h'=h):=
 ⟨hc, fun w I ι cs hH hI hA => (hh w I ι cs hI hA).mono fun _ _ ⟨e1, hb⟩ => ⟨_, _, ι, I, u, ⟨rfl, rfl⟩, e1,
  { res := .one (.lit hu)
    heap:=hH.below hI hb
    imm:=λb hb'=>Nat.lt_of_lt_of_le (hI b hb') hb.size
    immlo:=λ_ hb'=>.inl hb'
    pre:=Grows.refl _
    os:=hb.os
    tape:=hb.tape
    output:=hb.output
    grown:=hb.size
    frame:=λb hlt _=>hb.block b hlt
    mine:=λid o inf h1 h2=>.inl ⟨id,o,inf,h1,h2,rfl⟩}⟩⟩
end
end Go.Proofs.YtfdkldmkbibknaaGreat.Abs
namespace Go.Proofs.YtfdkldmkbibknaaGreat.Den
open Go.RowKit
open Abs (V AV VR)
theorem fr_s {c:C} {v:V} {x:ByteArray} (h:FR c v) (e:c= .s x):v= .lit (.string x):=by
 cases h with
 |s=>cases e;rfl
 |i=>cases e
 |k=>cases e
 |b=>cases e
 |l=>cases e
theorem FP [Zb] {ι:List Abs.Inf} {I:Nat->Prop} {w:World} {x c:Value} (h:VR I w ι (.lit x) c):c=x:=by
 cases h with
 |lit _=>rfl
theorem CR.strs {ρ:Rho} {H:List Ob} {xs:List ByteArray} {v:V} (h:CR ρ H (.l .s xs) v):∃es:List (List V),v= .imm 1 es/\es.length=xs.length/\∀(m:Nat) (h1:m<xs.length) (h2:m<es.length) (h3:0<es[m].length),es[m][0]= .lit (.string xs[m]):=by
 cases h with
 | fl h =>
  cases h with
  | l hp hl hs hr =>
   refine⟨_,rfl,hl,λm h1 h2 h3=> ?_⟩;have:=hr m h1 h2 0 (by show 0<[C.s _].length;simp) h3;exact fr_s this rfl
theorem CR.str_ {ρ:Rho} {H:List Ob} {x:ByteArray} {v:V} (h:CR ρ H (.s x) v):v= .lit (.string x):=by
 cases h with
 |fl h=>cases h;rfl
theorem kp {P:Program} {f:FuncId} {xs:List AT} {u:Value} {c:C} (hcl:Abs.callable P f) (hu:Abs.dM u) (hcu:FR c (.lit u))
  (hh:∀(ρ:Rho) (avs:List AV),ATRs ρ [] xs avs->∀[Zb] (w:World) (I:Nat->Prop) (ι:List Abs.Inf) (cs:Array Value),(∀b,I b->b<w.heap.size)->Abs.ARs ι I w avs cs->Calls P f cs w λe w'=>e= .returned u/\Below w.heap.size w w'):CFn P f xs [] (.one c) []:=λρ h avs hH hA=>
 (Abs.qY          hcl hu (hh ρ avs hA)).mono fun r h' ⟨e1, e2⟩ => by
  subst e1;subst e2;exact⟨ρ,.one (.fl hcu),hH,Fr.refl ρ [] _⟩
theorem Dd {a:List UInt8} (h:a.length<=140737488355328):(ByteArray.mk a.toArray).size<=maxLen:=by
 unfold maxLen;simp only[ByteArray.size,List.size_toArray];omega
def kJ (xs:List ByteArray) (sep:ByteArray):ByteArray:=⟨(Lib.join (xs.map (·.data.toList)) sep.data.toList).toArray⟩
noncomputable def jr (xs:List ByteArray) (sep:ByteArray):Option ByteArray:=if xs.length<=140737488355328/\(Lib.join (xs.map (·.data.toList)) sep.data.toList).length<=140737488355328 then some (kJ xs sep)else none
theorem z6 (a:List ByteArray) (a2:ByteArray) (hl:a.length<=140737488355328/\(Lib.join (a.map (·.data.toList)) a2.data.toList).length<=140737488355328):CFn Tryz.prog 84 [.one (.l .s a),.one (.s a2)] [] (.one (.s (kJ a a2))) []:=by
 refine kp (u:=.string (kJ a a2)) ⟨Tryz.f84,Tryz.func84,by kernel_rfl,by kernel_rfl⟩ ?_ .s λρ avs hA _ w I ι cs hI hAr=> ?_
 ·exact Dd hl.2
 ·obtain⟨hA1,hA2⟩:=hA
  match avs,hA1 with
  | [x, y], _ =>
   have ex:=hA2 0 (by simp) (by simp);have ey:=hA2 1 (by simp) (by simp);simp only[List.getElem_cons_zero,List.getElem_cons_succ]at ex ey;cases ex with
   |one ex=>
   cases ey with
   |one ey=>
   obtain⟨es,rfl,e1,e2⟩:=ex.strs;have ey:=ey.str_;subst ey;obtain⟨p,rfl,p1,p2⟩:∃p:Value×Value,cs= #[p.1,p.2]/\Abs.AR ι I w (.one (.imm 1 es)) p.1/\Abs.AR ι I w (.one (.lit (.string a2))) p.2:=by
    obtain⟨h1,h2⟩:=hAr;obtain⟨u,u1,u2⟩:=h2 0 (by simp);obtain⟨z,z1,z2⟩:=h2 1 (by simp);rcases cs with⟨l⟩
    match l,h1 with
    |[p,q],_=>simp at u1 z1;subst u1;subst z1;exact⟨(p,q),rfl,u2,z2⟩
   obtain⟨p,q⟩:=p;cases p1 with
   |one p1=>
   cases p2 with
   |one p2=>
   cases p2 with
   |lit _=>
   cases p1 with
   | imm0 hc =>
    have:a=[]:=nZ (by rw[<-e1];rfl);subst this;refine(Tryz.strings_Join_none _ _ a2 w).mono λe w' ⟨k1,k2⟩=>⟨k1,?_⟩;subst k2;exact Below.refl _ _
   | @imm _ _ b off c _ f hs hc hm hI' hcell hr hT =>
    have key:∀(j:Nat) x,a[j]? =some x->w.cell? ⟨b,off+j,none⟩=some (.string x):=λj x hx=>by
     have hj:j<a.length:=(gI.1 hx).1;have hj':j<es.length:=by omega
     have hl1:=hs es[j] (gM hj');have hc1:=hcell j 0 hj' (by omega);have hr1:=hr j hj' 0 (by omega);rw[e2 j hj hj' (by omega)]at hr1;have:f j 0= .string a[j]:=FP hr1;rw[this]at hc1;rw[gE hj]at hx;cases hx;simpa using hc1
    have:=Tryz.strings_Join b off c a a2 w key (hI b hI') hl.1 (by omega) hl.2;rw[e1];exact this
theorem z4z :EO (strings_Join.ent jr):=λR xs H K r hc=>by
 simp only[strings_Join.ent]at hc;split at hc
 ·rename_i a a2;obtain⟨r,q1,q2⟩:=bind_some hc;unfold jr    at q1;split at q1
  ·rename_i hl;cases q1;exact⟨_,_,q2,z6 a a2 hl⟩
  ·cases q1
 ·cases hc
end Go.Proofs.YtfdkldmkbibknaaGreat.Den

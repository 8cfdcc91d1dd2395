import Derived.Test.YtjafncnjefnloaaDoorZRowEC21
namespace Go.Proofs.YtjafncnjefnloaaDoor.Abs
open Go.RowKit
theorem fn_of_new {P : Program} {f : FuncId} {xs : List AV} {h : Heap} {v : V} (hc : callable P f)
  (hh:∀(w:World) (I:Nat->Prop) (ι:List Inf) (cs:Array Value),(∀b,I b->b<w.heap.size)->ARs ι I w xs cs->Calls P f cs w fun e w'=>∃u,e= .returned u/\Below w.heap.size w w'/\VR (fun b=>I b\/(w.heap.size<=b/\b<w'.heap.size)) w' [] v u):Fn P f xs h (fun r h'=>r= .one v/\h'=h):=
 ⟨hc, fun w I ι cs hH hI hA => (hh w I ι cs hI hA).mono fun _ w' ⟨u, e1, hb, hv⟩ => ⟨_, _, ι, fun b => I b ∨ (w.heap.size ≤ b ∧ b < w'.heap.size), u, ⟨rfl, rfl⟩, e1,
  { res := .one hv.up
    heap :=
      have h1:=hH.below hI hb
      have blk:∀{id:Nat} {o:Ob} {inf:Inf},h[id]? =some (some o)->ι[id]? =some inf->inf.block<w.heap.size:=fun {id o inf} q1 q2=>by
        have ho:=hH.obj id o inf q1 q2
        cases o with
        | row s es =>
          obtain⟨cur,t,e,_⟩:=ho
          rcases Nat.lt_or_ge inf.block w.heap.size with h|h
          · exact h
          · rw[Array.getElem?_eq_none h]at e;cases e
        | map kvs =>
          obtain⟨cur,t,e,_⟩:=ho
          rcases Nat.lt_or_ge inf.block w.heap.size with h|h
          · exact h
          · rw[Array.getElem?_eq_none h]at e;cases e
      { len := h1.len
        obj:=fun id o inf q1 q2=>(h1.obj id o inf q1 q2).keep (Grows.refl _) ⟨fun _ q=>.inl q,fun _ _ _=>rfl⟩ rfl
        off:=fun id o inf q1 q2 q3=>q3.elim (h1.off id o inf q1 q2) fun q=>by have:=blk q1 q2;omega
        inj:=h1.inj}
    imm:=fun b hb'=>hb'.elim (fun q=>Nat.lt_of_lt_of_le (hI b q) hb.size) fun q=>q.2
    immlo:=fun _ hb'=>hb'.elim .inl fun q=>.inr (.inr q.1)
    pre:=Grows.refl _
    os:=hb.os
    tape:=hb.tape
    output:=hb.output
    grown:=hb.size
    frame:=fun b hlt _=>hb.block b hlt
    mine:=fun id o inf h1 h2=>.inl ⟨id,o,inf,h1,h2,rfl⟩}⟩⟩
end Go.Proofs.YtjafncnjefnloaaDoor.Abs
namespace Go.Proofs.YtjafncnjefnloaaDoor.Den
open Go.RowKit
open Abs (V AV VR)
theorem fr_i {c:C} {v:V} {x:Int} (h:FR c v) (e:c= .i x):v= .lit (.int .i64 x):=by
 cases h with
 |i=>cases e;rfl
 |s=>cases e
 |k=>cases e
 |b=>cases e
 |l=>cases e
theorem CR.ints {ρ:Rho} {H:List Ob} {xs:List Int} {v:V} (h:CR ρ H (.l .i xs) v):∃es:List (List V),v= .imm 1 es/\es.length=xs.length/\∀(m:Nat) (h1:m<xs.length) (h2:m<es.length) (h3:0<es[m].length),es[m][0]= .lit (.int .i64 xs[m]):=by
 cases h with
 | fl h =>
  cases h with
  | l hp hl hs hr =>
   refine⟨_,rfl,hl,fun m h1 h2 h3=> ?_⟩
   have:=hr m h1 h2 0 (by show 0<[C.i _].length;simp) h3
   exact fr_i this rfl
noncomputable def gClone:List Int->Option (List Int):=fun xs=>if xs≠[]/\xs.length<=1000 then some xs else none
theorem clone_cfn (xs:List Int) (h0:xs≠[]) (hl:xs.length<=1000):CFn Tryd.prog 83 [.one (.l .i xs)] [] (.one (.l .i xs)) []:=fun ρ h avs hH hA=>by
 obtain⟨hA1,hA2⟩:=hA
 match avs,hA1 with
 | [x], _ =>
  have ex:=hA2 0 (by simp) (by simp)
  simp only[List.getElem_cons_zero]at ex
  cases ex with
  |one ex=>
  obtain⟨es,rfl,e1,e2⟩:=ex.ints
  refine(Abs.fn_of_new (v:=.imm 1 es) ⟨Tryd.f83,Tryd.func83,by kernel_rfl,by kernel_rfl⟩ fun w I ι cs hI hAr=> ?_).mono fun r h' ⟨q1,q2⟩=>by
   subst q1;subst q2
   exact⟨ρ,.one ex,hH,Fr.refl ρ [] _⟩
  obtain⟨c,rfl,p1⟩:∃c,cs= #[c]/\VR I w ι (.imm 1 es) c:=by
   obtain⟨h1,h2⟩:=hAr
   obtain⟨u,u1,u2⟩:=h2 0 (by simp)
   rcases cs with⟨l⟩
   match l,h1 with
   | [p], _ =>
    simp at u1
    subst u1
    cases u2 with
    |one u2=>exact⟨p,rfl,u2⟩
  cases p1 with
  |imm0 hc=>exact absurd (List.eq_nil_of_length_eq_zero (by rw[<-e1];rfl)) h0
  | @imm _ _ b off cap _ f hs hc hm hI' hcell hr =>
   have hlit:∀(k:Nat) (hk:k<es.length),∃h3:0<es[k].length,es[k][0]= .lit (.int .i64 (xs.getD k 0))/\Abs.okLit (.int .i64 (xs.getD k 0))/\f k 0= .int .i64 (xs.getD k 0):=fun k hk=>by
    have hl1:=hs es[k] (List.getElem_mem hk)
    have h3:0<es[k].length:=by omega
    have q:=e2 k (by omega) hk h3
    have hg:xs.getD k 0=xs[k]'(by omega):=by simp[List.getD,List.getElem?_eq_getElem (show k<xs.length by omega)]
    have hv:=hr k hk 0 h3
    rw[q]at hv
    refine⟨h3,by rw[q,hg],?_⟩
    rw[hg]
    generalize xs[k]'(by omega)=y at hv
    generalize f k 0=z at hv
    cases hv with
    |lit hv=>exact⟨hv,rfl⟩
   have:=Tryd.slices_Clone_int b off es.length cap xs w (by omega) (by omega) fun j hj=>by
    obtain⟨_,_,_,q3⟩:=hlit j (by omega)
    have:=hcell j 0 (by omega) (by omega)
    rw[q3]at this
    simpa using this
   refine this.mono fun e w' ⟨v',k1,k2,k3,k4⟩=>⟨v',k1,k4,?_⟩
   have k2':=k2
   obtain⟨_,⟨rfl,_⟩|⟨g,cp,cur,rfl,hg,hheap,hn,hcap,_,_⟩⟩:=k2
   ·exact absurd rfl k3
   ·have hglt:g<w'.heap.size:=by
     rcases Nat.lt_or_ge g w'.heap.size with q|q
     ·exact q
     ·rw[Array.getElem?_eq_none q]at hheap;cases hheap
    have hcells:=k2'.cells (g:=g) rfl
    refine .imm (f:=fun k _=>.int .i64 (xs.getD k 0)) hs hn (by unfold maxLen at hcap;omega) (.inr ⟨hg,hglt⟩) (fun k j hk hj=> ?_) fun k hk j hj=> ?_
    ·obtain rfl:j=0:=by omega
     have:=hcells k (.int .i64 (xs.getD k 0)) (by
      have hk':k<xs.length:=by omega
      rw[List.getElem?_map,List.getElem?_take_of_lt hk,List.getElem?_eq_getElem hk']
      simp[List.getD,List.getElem?_eq_getElem hk'])
     rw[Addr.add_lit]at this
     simpa using this
    ·have hl1:=hs es[k] (List.getElem_mem hk)
     obtain rfl:j=0:=by omega
     obtain⟨_,q1,q2,_⟩:=hlit k hk
     rw[q1]
     exact .lit q2
theorem clone_ok :EntOK Tryd.prog (slices_Clone_intint.ent gClone):=fun R xs H K r hc=>by
 simp only[slices_Clone_intint.ent]at hc
 split at hc
 ·rename_i a
  obtain⟨r,q1,q2⟩:=bind_some hc
  unfold gClone at q1
  split at q1
  ·rename_i hl
   cases q1
   exact⟨_,_,q2,clone_cfn a hl.1 hl.2⟩
  ·cases q1
 ·cases hc
end Go.Proofs.YtjafncnjefnloaaDoor.Den

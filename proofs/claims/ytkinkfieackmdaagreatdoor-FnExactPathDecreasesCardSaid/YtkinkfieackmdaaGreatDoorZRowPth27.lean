import Derived.Test.YtkinkfieackmdaaGreatDoorZRowPth20
namespace Go.Proofs.YtkinkfieackmdaaGreatDoor.Abs
open Go.RowKit
theorem xI        {P : Program} {f : FuncId} {xs : List AV} {h : ag}   {s : Nat} {es : List (List V)} (hc : callable P f)
  (hh : ∀ (w : World) (I : Nat → Prop) (ι : List Inf) (cs : Array Value), (∀ b, I b → b < w.heap.size) → ARs ι I w xs cs → Calls P f cs w fun e w' => ∃ g cp cur t, e = .returned (.slice (some ⟨g, 0, none⟩) es.length cp) ∧ Below w.heap.size w w' ∧ w.heap.size ≤ g ∧
   w'.heap[g]? =some (.cells cur t (0,0))/\cur.size=cp*s/\es.length<=cp/\cp<=9223372036854775807/\(∀e∈es,e.length=s)/\∀(k:Nat) (hk:k<es.length) (j:Nat) (hj:j<es[k].length),∃u,cur[k*s+j]? =some u/\VR I w' [] es[k][j] u):
  Fn P f xs h (λr h'=>r= .one (.own h.length 0 es.length)/\h'=h++[some (.row s es)]):=
 ⟨hc, fun w I ι cs hH hI hA => (hh w I ι cs hI hA).mono fun _ w' ⟨g, cp, cur, t, e1, hb, hg, hheap, hsz, hn, hcap, hs, hcell⟩ => ⟨_, _, ι ++ [⟨g, 0, cp, s⟩], I, _, ⟨rfl, rfl⟩, e1, by
  have h1:=hH.below hI hb;have hlen:=hH.len
  have blk:∀{id:Nat} {o:Ob} {inf:Inf},h[id]? =some (some o)->ι[id]? =some inf->inf.block<w.heap.size:=λ{id o inf} q1 q2=>by
   have ho:=hH.obj id o inf q1 q2;cases o with
   | row s es =>
    obtain⟨cur,t,e,_⟩:=ho;rcases Nat.lt_or_ge inf.block w.heap.size with h|h
    ·exact h
    ·rw[Array.getElem?_eq_none h]at e;cases e
   | map kvs =>
    obtain⟨cur,t,e,_⟩:=ho;rcases Nat.lt_or_ge inf.block w.heap.size with h|h
    ·exact h
    ·rw[Array.getElem?_eq_none h]at e;cases e
  have hnew:(ι++[⟨g,0,cp,s⟩])[h.length]? =some ⟨g,0,cp,s⟩:=by rw[hlen];simp
  have split:∀{id:Nat} {o:Ob} {inf:Inf},(h++[some (.row s es)])[id]? =some (some o)->(ι++[⟨g,0,cp,s⟩])[id]? =some inf->(h[id]? =some (some o)/\ι[id]? =some inf)\/(id=h.length/\o= .row s es/\inf=⟨g,0,cp,s⟩):=λ{id o inf} q1 q2=>by
   rcases Nat.lt_or_ge id h.length with hlt|hge
   ·rw[aL hlt]at q1;rw[aL (by omega)]at q2;exact .inl ⟨q1,q2⟩
   ·have hid:id=h.length:=by
     have:=(gI.1 q1).1;simp at this;omega
    subst hid;rw[hnew]at q2;simp at q1;cases q2;exact .inr ⟨rfl,q1.symm,rfl⟩
  exact
  { res := .one (by
      have:=VR.own (I:=I) (w:=w') (ι:=ι++[⟨g,0,cp,s⟩]) (id:=h.length) (off:=0) (len:=es.length) (c:=cp) hnew hn (by simp) hcap;simpa using this)
    heap :=
      { len := by simp [hlen]
        obj := fun id o inf q1 q2 => by
          rcases split q1 q2 with⟨q1,q2⟩|⟨_,rfl,rfl⟩
          · exact(h1.obj id o inf q1 q2).keep (Grows.app _ _) (Keeps.refl _ _) rfl
          · refine⟨cur,t,hheap,rfl,by simpa using hsz,hcap,hn,hs,λk hk j hj=> ?_⟩
            obtain⟨u,u1,u2⟩:=hcell k hk j hj;exact⟨u,by simpa using u1,u2.up⟩
        off := fun id o inf q1 q2 q3 => by
          rcases split q1 q2 with⟨q1,q2⟩|⟨_,rfl,rfl⟩
          · exact h1.off id o inf q1 q2 q3
          · have:=hI _ q3
            simp only at this;omega
        inj := fun id id' o o' inf inf' q1 q2 q3 q4 e => by
          rcases split q1 q3 with⟨a1,a2⟩|⟨rfl,rfl,rfl⟩<;>rcases split q2 q4 with⟨b1,b2⟩|⟨rfl,rfl,rfl⟩
          · exact h1.inj id id' o o' inf inf' a1 b1 a2 b2 e
          · have:=blk a1 a2
            simp only at e;omega
          · have:=blk b1 b2
            simp only at e;omega
          · rfl}
    imm:=λb hb'=>Nat.lt_of_lt_of_le (hI b hb') hb.size
    immlo:=λ_ hb'=>.inl hb'
    pre:=Grows.app _ _
    os:=hb.os
    tape:=hb.tape
    output:=hb.output
    grown:=hb.size
    frame:=λb hlt _=>hb.block b hlt
    mine:=λid o inf q1 q2=>by
      rcases split q1 q2 with⟨q1,q2⟩|⟨_,rfl,rfl⟩
      · exact .inl ⟨id,o,inf,q1,q2,rfl⟩
      · exact .inr hg}⟩⟩
end Go.Proofs.YtkinkfieackmdaaGreatDoor.Abs

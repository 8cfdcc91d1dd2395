/-
  Texts that the claim rests on, merged: Reb, DenC, DenC2, DenG, Nil, Tb, ReadD.
-/
import Derived.Test.YtfdkldmkbibknaaGreatProg
import Derived.Test.YtfdkldmkbibknaaGreatZRowTx1
import Derived.Test.YtfdkldmkbibknaaGreatZRowTx10
import Derived.Test.YtfdkldmkbibknaaGreatZRowTx11

namespace Go.Proofs.YtfdkldmkbibknaaGreat.Abs
open Go.RowKit
section
variable [Zb]
section
variable {P : Program} {E : Cx} {K : Env → ag → Prop} {L : Env} {h : ag} {d : Nat} {ty : TypeId} {pos : String} {af : Array Edge} {gd : Option (Nat × Bool)} {tb : Tbl}
theorem w8 (htb:bE P tb) {t:TypeId} {x y:Operand} {s id len lo:Nat} {es:List (List V)} {kl:IntKind} {el:ElI} (hx:ev L x=some (.one (.own id 0 len))) (he:dN tb t=some el) (ho:h[id]? =some (some (.row s es))) (hs:el.size=s) (hpos:0<s)
  (hfull:len=es.length) (hy:ev L y=some (.one (.lit (.int kl lo)))) (h1:lo<=len) (hn:d<E.n)
  (hk:K ((d,.one (.own h.length 0 (len-lo)))::L) (h.set id none++[some (.row s (es.drop lo))])):ar P ⟨some d,.slice t x (some y) none none,ty,pos,af,gd⟩ E K L h:=
 ⟨fun Lf ι I a w r0 => by
  have r:=r0.low;obtain⟨inf,hι,hor,hsz⟩:=r.row ho;obtain⟨u1,u2,_⟩:=aH htb he;have hl:some (a.eval y)=none/\lo=0\/some (a.eval y)=some (.int kl lo):=.inr (by simp[(r.ev hy).lit.1]);have hh:(none:Option Value)=none/\len=len\/(none:Option Value)=some (.int kl len):=.inl ⟨rfl,rfl⟩;have hv:=(r.ev hx).one';have hsh:=hor.shift (off:=lo) (by omega);have hren:=r0.rename (inf':=⟨inf.block,inf.base+lo*s,inf.cap-lo,s⟩) ho hι rfl hsh;have hi:(ι++[(⟨inf.block,inf.base+lo*s,inf.cap-lo,s⟩:Inf)])[h.length]? =some ⟨inf.block,inf.base+lo*s,inf.cap-lo,s⟩:=by rw[r.heap.len];simp
  have fin:∀c,(execOp a.eval ⟨some d,.slice t x (some y) none none,ty,pos,af,gd⟩).run P w= .ok (.value c) w->AR (ι++[(⟨inf.block,inf.base+lo*s,inf.cap-lo,s⟩:Inf)]) I w (.one (.own h.length 0 (len-lo))) c->
    Oper.wp P ⟨some d,.slice t x (some y) none none,ty,pos,af,gd⟩ a w (λa' w'=>∃L' h' ι' I',K L' h'/\Rel E (L'++Lf) h' ι' I' a' w') (λ_ _ _=>False):=λc e1 e2=>by
   unfold Oper.wp;rw[e1,Oper.upon_value];exact⟨_,_,_,I,hk,hren.put hn e2⟩
  generalize hc:a.eval x=c at hv;cases hv with
  | @own0 _ _ _ oo inf' hi' hcap=>
   have:inf'=inf:=by rw[hι]at hi';cases hi';rfl
   subst this;have e1:lo=0:=by omega
   subst e1;have hb:=bg (P:=P) w (isS:=true) (len:=0) (cap:=0) hl hh h1 (by omega);have q:=VR.own0 (I:=I) (w:=w) (off:=0) (o:=oo) hi (by show 0=inf'.cap-0;omega);refine fin (.slice (some ⟨inf'.block,oo,none⟩) 0 0) ?_ (.one q);simp[execOp,Instr.sliceAt,Instr.slice,hc,run_underlying u1,hb,ba u2 (by omega),hs]
  | @own _ _ _ _ cap inf' hi' hle hcap hm =>
   have:inf'=inf:=by rw[hι]at hi';cases hi';rfl
   subst this;have hb:=bg (P:=P) w (isS:=true) (len:=len) (cap:=cap) hl hh h1 (by omega);by_cases hcl:cap=lo
   ·have e1:len-lo=0:=by omega
    have e2:cap-lo=0:=by omega
    refine fin (.slice (some ⟨inf'.block,inf'.base+0*inf'.size,none⟩) (len-lo) (cap-lo)) ?_ ?_
    ·subst hcl;simp[execOp,Instr.sliceAt,Instr.slice,hc,run_underlying u1,hb,ba u2 (by omega),hs]
    ·have q:=VR.own0 (I:=I) (w:=w) (off:=0) (o:=inf'.base+0*inf'.size) hi (by show 0=inf'.cap-lo;omega);rw[e1,e2];exact .one q
   ·have hvr:=VR.own (I:=I) (w:=w) (off:=0) (len:=len-lo) (c:=cap-lo) hi (by omega) (by show 0+(cap-lo)=inf'.cap-lo;omega) (by omega);refine fin _ ?_ (.one hvr);simp[execOp,Instr.sliceAt,Instr.slice,hc,run_underlying u1,hb,ba u2 (by omega),hs,hcl,bI,hsz]⟩
theorem OR.take {ι:List Inf} {I:Nat->Prop} {w:World} {inf:Inf} {s:Nat} {es:List (List V)} (h:OR ι I w inf (.row s es)) (n:Nat):OR ι I w inf (.row s (es.take n)):=by
 obtain⟨cur,t,h1,h2,h3,h4,h5,h6,h7⟩:=h;refine⟨cur,t,h1,h2,h3,h4,by simp;omega,λe he=>h6 e (List.mem_of_mem_take he),λk hk j hj=> ?_⟩;simp only[List.getElem_take]at hj ⊢;simp at hk;exact h7 k (by omega) j hj
theorem xF (htb:bE P tb) {t:TypeId} {x y:Operand} {s id len hi:Nat} {es:List (List V)} {kh:IntKind} {el:ElI} (hx:ev L x=some (.one (.own id 0 len))) (he:dN tb t=some el) (ho:h[id]? =some (some (.row s es))) (hs:el.size=s) (hpos:0<s)
  (hy:ev L y=some (.one (.lit (.int kh hi)))) (h1:hi<=len) (hn:d<E.n)
  (hk:K ((d,.one (.own h.length 0 hi))::L) (h.set id none++[some (.row s (es.take hi))])):ar P ⟨some d,.slice t x none (some y) none,ty,pos,af,gd⟩ E K L h:=
 ⟨fun Lf ι I a w r0 => by
  have r:=r0.low;obtain⟨inf,hι,hor,hsz⟩:=r.row ho;obtain⟨u1,u2,_⟩:=aH htb he;have hl:(none:Option Value)=none/\0=0\/(none:Option Value)=some (.int kh 0):=.inl ⟨rfl,rfl⟩;have hh:some (a.eval y)=none/\hi=len\/some (a.eval y)=some (.int kh hi):=.inr (by simp[(r.ev hy).lit.1]);have hv:=(r.ev hx).one';have hren:=r0.rename (inf':=inf) ho hι rfl (hor.take hi);have hi2:(ι++[inf])[h.length]? =some inf:=by rw[r.heap.len];simp
  have fin:∀c,(execOp a.eval ⟨some d,.slice t x none (some y) none,ty,pos,af,gd⟩).run P w= .ok (.value c) w->AR (ι++[inf]) I w (.one (.own h.length 0 hi)) c->
    Oper.wp P ⟨some d,.slice t x none (some y) none,ty,pos,af,gd⟩ a w (λa' w'=>∃L' h' ι' I',K L' h'/\Rel E (L'++Lf) h' ι' I' a' w') (λ_ _ _=>False):=λc e1 e2=>by
   unfold Oper.wp;rw[e1,Oper.upon_value];exact⟨_,_,_,I,hk,hren.put hn e2⟩
  generalize hc:a.eval x=c at hv;cases hv with
  | @own0 _ _ _ oo inf' hi' hcap=>
   have:inf'=inf:=by rw[hι]at hi';cases hi';rfl
   subst this;have e1:hi=0:=by omega
   subst e1;have hb:=bg (P:=P) w (isS:=true) (len:=0) (cap:=0) hl hh (by omega) (by omega);have q:=VR.own0 (I:=I) (w:=w) (off:=0) (o:=oo) hi2 hcap;refine fin (.slice (some ⟨inf'.block,oo,none⟩) 0 0) ?_ (.one q);simp[execOp,Instr.sliceAt,Instr.slice,hc,run_underlying u1,hb,ba u2 (by omega),hs]
  | @own _ _ _ _ cap inf' hi' hle hcap hm =>
   have:inf'=inf:=by rw[hι]at hi';cases hi';rfl
   subst this;have hb:=bg (P:=P) w (isS:=true) (len:=len) (cap:=cap) hl hh (by omega) (by omega);have hvr:=VR.own (I:=I) (w:=w) (off:=0) (len:=hi) (c:=cap) hi2 (by omega) hcap hm;by_cases hcl:cap=0
   ·have e1:hi=0:=by omega
    subst e1;have q:=VR.own0 (I:=I) (w:=w) (off:=0) (o:=inf'.base+0*inf'.size) hi2 (by omega);refine fin (.slice (some ⟨inf'.block,inf'.base+0*inf'.size,none⟩) 0 0) ?_ (.one q);rw[hcl]at hb;simp[execOp,Instr.sliceAt,Instr.slice,hc,run_underlying u1,hb,ba u2 (by omega),hs,hcl]
   ·refine fin _ ?_ (.one hvr);simp[execOp,Instr.sliceAt,Instr.slice,hc,run_underlying u1,hb,ba u2 (by omega),hs,hcl,bI,hsz]⟩
theorem pI (htb:bE P tb) {t:TypeId} {x y:Operand} {el:ElI} {kh:IntKind} (hx:ev L x=some (.one (.lit (.slice none 0 0)))) (he:dN tb t=some el) (hpos:0<el.size) (hy:ev L y=some (.one (.lit (.int kh 0)))) (hn:d<E.n)
  (hk:K ((d,.one (.lit (.slice none 0 0)))::L) h):ar P ⟨some d,.slice t x none (some y) none,ty,pos,af,gd⟩ E K L h:=
 aF rfl hn (λι I a w r=>by
  obtain⟨e1,_⟩:=(r.ev hx).lit;obtain⟨u1,u2,_⟩:=aH htb he;obtain⟨eh,_⟩:=(r.ev hy).lit;have hb:(Instr.sliceBounds true 0 0 none (some (.int kh 0)) none).run P w= .ok (0,0,0) w:=by
   simp[Instr.sliceBounds,Instr.sliceBound,asIntOf]
  refine⟨.slice none 0 0,?_,.one (.lit trivial)⟩;simp[execOp,Instr.sliceAt,Instr.slice,e1,eh,run_underlying u1,hb,ba u2 hpos]) hk
theorem qp (htb:bE P tb) {t:TypeId} {x y:Operand} {el:ElI} {kl:IntKind} (hx:ev L x=some (.one (.lit (.slice none 0 0)))) (he:dN tb t=some el) (hpos:0<el.size) (hy:ev L y=some (.one (.lit (.int kl 0)))) (hn:d<E.n)
  (hk:K ((d,.one (.lit (.slice none 0 0)))::L) h):ar P ⟨some d,.slice t x (some y) none none,ty,pos,af,gd⟩ E K L h:=
 aF rfl hn (λι I a w r=>by
  obtain⟨e1,_⟩:=(r.ev hx).lit;obtain⟨u1,u2,_⟩:=aH htb he;obtain⟨eh,_⟩:=(r.ev hy).lit;have hb:(Instr.sliceBounds true 0 0 (some (.int kl 0)) none none).run P w= .ok (0,0,0) w:=by
   simp[Instr.sliceBounds,Instr.sliceBound,asIntOf]
  refine⟨.slice none 0 0,?_,.one (.lit trivial)⟩;simp[execOp,Instr.sliceAt,Instr.slice,e1,eh,run_underlying u1,hb,ba u2 hpos]) hk
end
end
end Go.Proofs.YtfdkldmkbibknaaGreat.Abs
namespace Go.Proofs.YtfdkldmkbibknaaGreat.Den
open Go.RowKit
open Abs (V AV Env ag ar)
section
variable [Zb]
section
variable {P : Program} {E : Abs.Cx} {F : In} {ρ : Rho} {H : List Ob} {D : List (Nat × AT)} {L : Env} {h : ag} {tb : Nat → Option TI} {d : Nat} {ty : TypeId} {pos : String} {af : Array Edge} {gd : Option (Nat × Bool)}
omit [Zb]in
theorem FRl.drop {T:Ty} {xs:List (I T)} {es:List (List V)} (h:FRl T xs es):∀k,FRl T (xs.drop k) (es.drop k):=by
 induction h with
 |nil=>intro k;simp;exact .nil
 | cons a b ih =>
  intro k;cases k with
  |zero=>exact .cons a b
  |succ k=>exact ih k
theorem wx (htb:TBOK P tb) (hn:d<E.n) {t:Nat} {id n:Nat} {ti:TI} {T:Ty} {x y:Operand} {i:Int} {xs:List (I T)} (ht:tb t=some ti) (he:ti.elem=some T) (hx:ev D x=some (.one (.o id))) (hr:H[id]? =some (.row T n xs)) (hy:ev D y=some (.one (.i i))) (hi:0<i) (hle:i<=xs.length):
  cq P ⟨some d,.slice t x (some y) none none,ty,pos,af,gd⟩ E F D H (.one (.o H.length)) ((H.set id .gone)++[.row T 0 (xs.drop i.toNat)]):=λρ L h hs hh hf=>by
 obtain⟨ix,G⟩:=htb.get ht;obtain⟨el,z',g0,g1,g2,g3,g4,g5,g6,g7,g8⟩:=G.elem T he;obtain⟨av,a1,a2⟩:=ap hs hx;obtain⟨u,rfl,a3⟩:=a2.one';obtain⟨bv,b1,b2⟩:=ap hs hy;obtain⟨u',rfl,b3⟩:=b2.one';cases b3.int;obtain⟨k,rfl⟩:=Int.eq_ofNat_of_zero_le (show 0<=i by omega);have hlen:(H.set id Ob.gone).length=H.length:=by simp
 have hev:Ev ρ H ρ (H.set id .gone):=Ev.set hr (evo.goes _);rcases a3.own hr with⟨a,rfl,a4⟩|⟨rfl,a4⟩
 ·obtain⟨es,e1,e2⟩:=hh.at_ a4 hr;have e3:=e2.frl;have hp1:HpR ρ (H.set id .gone) (h.set a none):=hh.set a4 hr (by simp) (evo.goes _) trivial;have hf1:Fr F ρ (H.set id .gone) (h.set a none):=hf.set a4 hr (by simp) (evo.goes _);obtain⟨m1,m2⟩:=iX g4 hp1 (e3.drop k);have hf2:=hf1.push hp1.len (.row T 0 (xs.drop k)) (some (.row (szT T) (es.drop k)));rw[hlen]at m1;rw[List.length_set]at m1 m2 hf2;refine Abs.w8 G.tb a1 g1 e1 g3 g4 (by rw[e3.len]) b1 (by omega) hn ⟨ρ++[some h.length],_,rfl,?_,m2,hev.trans (Ev.push _ _),hf2⟩;rw[List.length_drop,e3.len]at m1;exact m1
 ·obtain rfl:xs=[]:=by
   rcases hh.row _ n _ _ hr with⟨a',es,h7,_⟩|⟨_,h7,_⟩
   ·rw[a4]at h7;cases h7
   ·exact h7
  simp at hle;omega
omit [Zb]in
theorem FRl.take {T:Ty} {xs:List (I T)} {es:List (List V)} (h:FRl T xs es):∀k,FRl T (xs.take k) (es.take k):=by
 induction h with
 |nil=>intro k;simp;exact .nil
 | cons a b ih =>
  intro k;cases k with
  |zero=>simp;exact .nil
  |succ k=>exact .cons a (ih k)
theorem xT (htb:TBOK P tb) (hn:d<E.n) {t:Nat} {id n:Nat} {ti:TI} {T:Ty} {x y:Operand} {i:Int} {xs:List (I T)} (ht:tb t=some ti) (he:ti.elem=some T) (hx:ev D x=some (.one (.o id))) (hr:H[id]? =some (.row T n xs)) (hy:ev D y=some (.one (.i i))) (hi:0<=i) (hle:i<=xs.length):
  cq P ⟨some d,.slice t x none (some y) none,ty,pos,af,gd⟩ E F D H (.one (.o H.length)) ((H.set id .gone)++[.row T 0 (xs.take i.toNat)]):=λρ L h hs hh hf=>by
 obtain⟨ix,G⟩:=htb.get ht;obtain⟨el,z',g0,g1,g2,g3,g4,g5,g6,g7,g8⟩:=G.elem T he;obtain⟨av,a1,a2⟩:=ap hs hx;obtain⟨u,rfl,a3⟩:=a2.one';obtain⟨bv,b1,b2⟩:=ap hs hy;obtain⟨u',rfl,b3⟩:=b2.one';cases b3.int;obtain⟨k,rfl⟩:=Int.eq_ofNat_of_zero_le hi;have hlen:(H.set id Ob.gone).length=H.length:=by simp
 have hev:Ev ρ H ρ (H.set id .gone):=Ev.set hr (evo.goes _);rcases a3.own hr with⟨a,rfl,a4⟩|⟨rfl,a4⟩
 ·obtain⟨es,e1,e2⟩:=hh.at_ a4 hr;have e3:=e2.frl;have hp1:HpR ρ (H.set id .gone) (h.set a none):=hh.set a4 hr (by simp) (evo.goes _) trivial;have hf1:Fr F ρ (H.set id .gone) (h.set a none):=hf.set a4 hr (by simp) (evo.goes _);obtain⟨m1,m2⟩:=iX      g4 hp1 (e3.take k);have hf2:=hf1.push hp1.len (.row T 0 (xs.take k)) (some (.row (szT T) (es.take k)));rw[hlen]at m1;rw[List.length_set]at m1 m2 hf2;have hl2:(es.take k).length=k:=by rw[List.length_take,e3.len];omega
  rw[hl2]at m1;exact Abs.xF G.tb a1 g1 e1 g3 g4 b1 (by omega) hn ⟨ρ++[some h.length],_,rfl,m1,m2,hev.trans (Ev.push _ _),hf2⟩
 ·obtain rfl:xs=[]:=by
   rcases hh.row _ n _ _ hr with⟨a',es,h7,_⟩|⟨_,h7,_⟩
   ·rw[a4]at h7;cases h7
   ·exact h7
  simp at hle;obtain rfl:k=0:=by omega
  have hp1:HpR ρ (H.set id .gone) h:=hh.gone hr;have hf1:Fr F ρ (H.set id .gone) h:=hf.gone hr;obtain⟨m1,m2⟩:=mm g4 hp1;rw[hlen]at m1;exact Abs.pI G.tb a1 g1 (by rw[g3];exact g4) b1 hn ⟨ρ++[none],_,rfl,m1,m2,hev.trans (Ev.push _ _),hf1.nilRow hp1.len _⟩
theorem B1 (htb:TBOK P tb) (hn:d<E.n) {t id n:Nat} {ti:TI} {T:Ty} {x y:Operand} {i:Int} {xs:List (I T)} (ht:tb t=some ti) (he:ti.elem=some T) (hs:EncL ρ H D L) (hh:HpR ρ H h) (hx:ev D x=some (.one (.o id))) (hr:H[id]? =some (.row T n xs)) (hy:ev D y=some (.one (.i i))) (hi:0<=i) (hle:i<=xs.length) {K:Env->ag->Prop}
  (hk:∀v ns,FRl T (xs.drop i.toNat) ns->Abs.fe h (szT T) v=some ns->K ((d,.one v)::L) h):ar P ⟨some d,.slice t x (some y) none none,ty,pos,af,gd⟩ E K L h:=by
 obtain⟨ix,G⟩:=htb.get ht;obtain⟨el,z',g0,g1,g2,g3,g4,g5,g6,g7,g8⟩:=G.elem T he;obtain⟨av,a1,a2⟩:=ap hs hx;obtain⟨u,rfl,a3⟩:=a2.one';obtain⟨bv,b1,b2⟩:=ap hs hy;obtain⟨u',rfl,b3⟩:=b2.one';cases b3.int;obtain⟨k,rfl⟩:=Int.eq_ofNat_of_zero_le hi;rcases a3.own hr with⟨a,rfl,a4⟩|⟨rfl,a4⟩
 ·obtain⟨es,e1,e2⟩:=hh.at_ a4 hr;have e3:=e2.frl;have hl:=e3.len;have hk1:k<=xs.length:=by omega
  refine Abs.rL (kh:=.i64) G.tb a1 g1 e1 g3 g4 (.inr ⟨y,rfl,b1⟩) (.inl ⟨rfl,rfl⟩) hk1 (Nat.le_refl _) hn (hk _ (es.drop k) (e3.drop k) ?_)
  show (match h[a]? with
   |some (some (.row s' es))=>if s'=szT T&&0+k+(xs.length-k)<=es.length then some ((es.drop (0+k)).take (xs.length-k))else none
   |_=>none)=_
  rw[e1];simp only[Nat.zero_add];rw[if_pos (by simp;omega),List.take_of_length_le (by rw[List.length_drop];omega)]
 ·obtain rfl:xs=[]:=by
   rcases hh.row _ n _ _ hr with⟨a',es,h7,_⟩|⟨_,h7,_⟩
   ·rw[a4]at h7;cases h7
   ·exact h7
  simp at hle;obtain rfl:k=0:=by omega
  exact Abs.qp G.tb a1 g1 (by rw[g3];exact g4) b1 hn (hk _ [] (by simp;exact .nil) rfl)
end
end
end Go.Proofs.YtfdkldmkbibknaaGreat.Den
namespace Go.Proofs.YtfdkldmkbibknaaGreat.Den
open Go.RowKit
open Abs (V AV Env ag ar aw ao)
section
variable [Zb]
section
variable {P : Program} {E : Abs.Cx} {F : In} {ρ ρ' : Rho} {H : List Ob} {D : List (Nat × AT)} {L : Env} {h h' : ag} {R : Type} {tb : Nat → Option TI} {O : Orc}
omit [Zb]in
theorem wQ {Hm H:List Ob} (hl:Le Hm H) {c:C} {n:Int} (h:uo Hm c=some n):uo H c=some n:=by
 unfold uo at h ⊢;split at h
 case h_5=>
  split at h
  ·rename_i hx;rw[hl _ _ hx (by simp)];exact h
  ·rename_i hx;rw[hl _ _ hx (by simp)];exact h
  ·cases h
 all_goals exact h
omit [Zb]in
theorem wA {Hm H:List Ob} (hl:Le Hm H) {o:Oper} {v:AT} (hv:(wY tb o D Hm).has v):(wY tb o D H).has v:=by
 unfold wY at hv ⊢;split at hv
 all_goals first
  |exact hv
  |(cases hv;done)
  |skip
 ·split at hv
  ·exact hv
  ·exact hv
  ·split at hv
   ·rename_i hx hf;rw[hl _ _ hx (by simp),hf];exact hv
   ·cases hv
  ·exact hv.elim
 ·split at hv
  ·split at hv
   ·rename_i hx;rw[hl _ _ hx (by simp)];exact hv
   ·cases hv
  ·exact hv
  ·split at hv
   ·rename_i hx;rw[hl _ _ hx (by simp)];exact hv
   ·cases hv
  ·exact hv.elim
 ·split at hv
  ·exact hv
  ·split at hv
   ·rename_i hx;rw[hl _ _ hx (by simp)];exact hv
   ·cases hv
  ·exact hv.elim
 ·split at hv
  ·exact hv
  ·exact ja hl hv
 ·split at hv
  ·split at hv
   ·exact hv
   ·exact ja hl hv
  ·exact ja hl hv
 ·split at hv
  ·split at hv
   ·exact hv
   ·split at hv
    ·rename_i h1 h2;rw[wQ hl h2,h1];exact hv
    ·cases hv
   ·cases hv
  ·cases hv
 ·exact ja hl hv
omit [Zb]in
theorem oa {o:Oper} {v:AT} {H':List Ob} (hv:(uc tb o.op D H).has (v,H')):Unt (cj tb O o D H) H H':=by
 have push:∀x:Ob,Unt (cj tb O o D H) H (H++[x]):=λx id y hy _=>cw hy;unfold uc at hv;split at hv
 ·split at hv
  ·cases hv;exact push _
  ·cases hv
 ·rename_i args tys ho;split at hv
  ·rename_i x y t tx ha ht;split at hv
   ·split at hv
    ·obtain⟨_,_,e⟩:=hv;cases e;exact push _
    ·cases hv
   ·rename_i id s h1 h2 h3;split at hv
    ·obtain⟨_,_,e⟩:=hv;cases e;intro j z hz hn;simp only[cj,ho,ha,h2]at hn;exact cw (by rw[sN (λe=>hn (by simp[e]))];exact hz)
    ·cases hv
   ·split at hv
    ·obtain⟨_,_,e⟩:=hv;cases e;exact push _
    ·cases hv
   ·cases hv
  ·cases hv
 ·cases hv
omit [Zb]in
theorem By {o:Oper} {H':List Ob} (hv:(opX tb o.op D H).has H'):Unt (cj tb O o D H) H H':=by
 unfold opX at hv;split at hv
 ·rename_i t m k x ho;split at hv
  ·rename_i T id s vs h1 h2 h3 h4
   have set:∀{z:Ob},Unt (cj tb O o D H) H (H.set id z):=λ{z} j w hw hn=>by
    rw[sN (λe=>hn (by simp[cj,ho,h2,e]))];exact hw
   split at hv
   ·split at hv
    ·split at hv
     ·cases hv;exact set
     ·cases hv
    ·split at hv
     ·cases hv
     ·cases hv;exact set
    ·cases hv
   ·cases hv
  ·cases hv
 ·cases hv
omit [Zb]in
theorem Ac {o : Oper} {v : AT} {H' : List Ob} (hv : (As tb o D H).has (v, H')) : Unt (cj tb O o D H) H H' := by
 have push:∀x:Ob,Unt (cj tb O o D H) H (H++[x]):=λx id y hy _=>cw hy;unfold As at hv;split at hv
 ·split at hv
  ·cases hv;exact push _
  ·cases hv
 ·split at hv
  ·cases hv;exact push _
  ·cases hv
 ·split at hv
  ·split at hv
   ·split at hv
    ·cases hv;exact push _
    ·cases hv
   ·cases hv
  ·cases hv
 ·split at hv
  ·split at hv
   ·obtain⟨_,_,e⟩:=hv;cases e;exact push _
   ·cases hv
  ·cases hv
 ·rename_i args tys ho;split at hv
  ·rename_i x y t tx ha ht;split at hv
   ·rename_i T U cx cy h1 h2 h3 h4;split at hv
    ·split at hv
     ·rename_i id;split at hv
      ·split at hv
       ·obtain⟨_,_,e⟩:=hv;cases e;intro j z hz hn;simp only[cj,ho,ha,h3]at hn;exact cw (by rw[sN (λe=>hn (by simp[e]))];exact hz)
       ·cases hv
      ·cases hv
     ·obtain⟨_,_,e⟩:=hv;cases e;exact push _
     ·exact oa hv
    ·cases hv
   ·exact oa hv
  ·cases hv
 ·exact oa hv
omit [Zb]in
theorem CS      {o : Oper} {H' : List Ob} (hv : (opN tb o D H).has H') : Unt (cj    tb O o D H) H H' := by
 unfold opN at hv;split at hv
 ·rename_i t x y ho
  have set:∀{id:Nat} {z:Ob},(∀j,j∉cj tb O o D H->j≠id)->Unt (cj tb O o D H) H (H.set id z):=λhne j w hw hn=>by
   rw[sN (λe=>hne j hn e.symm)];exact hw
  split at hv
  ·rename_i h2 h3;split at hv
   ·split at hv
    ·cases hv;exact set λj hj e=>hj (by simp[cj,ho,h2,e])
    ·cases hv
   ·cases hv
  ·rename_i ti id k n T e0 off vs h1 h2 h3;have hs:∀{z:Ob},Unt (cj    tb O o D H) H (H.set id z):=λ{z}=>set (z:=z) λj hj e=>hj (by simp only[cj   ,ho,h2];simp[e])
   split at hv
   ·split at hv
    ·split at hv
     ·split at hv
      ·split at hv
       ·split at hv
        ·cases hv;exact hs
        ·cases hv
       ·obtain⟨e',e1,e2⟩:=hv;dsimp only at e2;split at e2
        ·cases e2;exact hs
        ·cases e2
      ·cases hv
     ·cases hv
    ·cases hv
   ·cases hv
  ·cases hv
 ·exact By hv
theorem FI (htb:TBOK P tb) (hO:dc P O) {nt:Nat} (hE:E.n=nt) {o:Oper} {K:AT->List Ob->Option R} {r:R} (hc:one tb O nt o D H K=some r):∃v H',K v H'=some r/\(∀F:In,cq P o E F D H v H')/\Unt (cj tb O o D H) H H':=by
 unfold one at hc;split at hc
 ·rename_i d hd;split at hc
  ·rename_i hlt;have hn:d<E.n:=by rw[hE];simpa [Nat.blt_eq]using hlt
   unfold opD at hc;split at hc
   ·obtain⟨v,h1,h2⟩:=Pl.run_has hc;exact⟨v,H,h2,λ_=>zW λρ L h hs hp=>vK htb hd hn h1 hs hp,.refl _ _⟩
   ·obtain⟨q,h1,h2⟩:=Pl.run_has hc;exact⟨q.1,q.2,h2,λ_=>C8 htb hd hn h1,Ac h1⟩
   ·exact Ad htb hO hd hn hc
  ·cases hc
 ·rename_i hd;obtain⟨H',h1,h2⟩:=Pl.run_has hc;exact⟨_,H',h2,λ_=>FQ htb hd h1,CS h1⟩
theorem uW (htb:TBOK P tb) (hO:dc P O) {nt:Nat} (hE:E.n=nt) {o:Oper} (hk:n8 tb O o D=true) {K:AT->List Ob->Option R} {r:R} (hc:one tb O nt o D H K=some r):∃v,K v H=some r/\∀H',Le H H'->cq P o E F D H' v H':=by
 unfold one at hc;split at hc
 ·rename_i d hd;split at hc
  ·rename_i hlt;have hn:d<E.n:=by rw[hE];simpa [Nat.blt_eq]using hlt
   unfold opD at hc;split at hc
   ·obtain⟨v,h1,h2⟩:=Pl.run_has hc;exact⟨v,h2,λH' hl=>zW λρ L h hs hp=>vK htb hd hn (wA hl h1) hs hp⟩
   ·rename_i h1;exfalso;unfold n8    at hk;rw[hd]at hk;simp only at hk;split at hk
    ·rename_i e;rw[e]at h1;simp[kind]at h1
    ·rw[h1]at hk;cases hk
   ·exact yY htb hO hd hn hk hc
  ·cases hc
 ·rename_i hd;unfold n8 at hk;rw[hd]at hk;cases hk
theorem qC (htb:TBOK P tb) {nt:Nat} (hE:E.n=nt) {o:Oper} {K:AT->Option R} {r:R} (hc:zG tb nt o D K=some r):∃v,K v=some r/\∀(F:In) (H:List Ob),cq P o E F D H v H:=by
 unfold zG at hc;split at hc
 ·rename_i d hd;split at hc
  ·rename_i hlt;have hn:d<E.n:=by rw[hE];simpa [Nat.blt_eq]using hlt
   obtain⟨v,h1,h2⟩:=Pl.run_has hc;exact⟨v,h2,λ_ H=>BE htb hd hn h1⟩
  ·cases hc
 ·cases hc
omit [Zb]in
theorem eK {dst:Option Nat} {v:AT} {av:AV} (hs:EncL ρ H D L) (hv:ATR ρ H v av):EncL ρ H (gX dst v D) (Abs.bindD dst av L):=by
 cases dst with
 |none=>exact hs
 | some d =>
  intro t x hx;simp only[gX,List.lookup_cons]at hx;simp only[Abs.bindD,List.lookup_cons];split at hx
  ·cases hx;exact⟨av,rfl,hv⟩
  ·exact hs t x hx
omit [Zb]in
theorem yv {l:List Oper} {j:Nat}:gsl l j=Abs.bf l.toArray j:=by
 unfold gsl Abs.bf;simp only[List.getElem?_toArray];cases l[j]? <;>rfl
omit [Zb]in
theorem vj {d:Nat} {p:Bool} (hs:EncL ρ H D L) (h:D.lookup d=some (.one (.b p))):L.lookup d=some (.one (.lit (.bool p))):=by
 obtain⟨av,h1,h2⟩:=hs d _ h;obtain⟨u,rfl,h3⟩:=h2.one';rw[h1,h3.bool]
omit [Zb]in
theorem DP {d:Nat} (hs:EncL ρ H D L) (h:D.lookup d=some (.tup [])):L.lookup d=some (.tup []):=by
 obtain⟨av,h1,h2⟩:=hs d _ h;cases h2 with
 | @tup xs ys hl hr=>
  cases ys with
  |nil=>exact h1
  |cons _ _=>simp at hl
inductive Gd (ops:Array Oper) (n:Nat) (o:Oper) (D:List (Nat×AT)):Bool->Prop
 |run (h:o.guard=none):Gd ops n o D true
 |runG {j d:Nat} {want:Bool} (h:o.guard=some (j,want)) (hj:Abs.bf ops j=some d) (hd:D.lookup d=some (.one (.b want))):Gd ops n o D true
 |skip {j d d':Nat} {p want:Bool} (h:o.guard=some (j,want)) (hj:Abs.bf ops j=some d) (hd:D.lookup d=some (.one (.b p))) (hp:p= !want) (hdst:o.dst=some d') (hn:d'<n):Gd ops n o D false
 |skipU {j d d':Nat} {want:Bool} (h:o.guard=some (j,want)) (hj:Abs.bf ops j=some d) (hd:D.lookup d=some (.tup [])) (hdst:o.dst=some d') (hn:d'<n):Gd ops n o D false
def Same (D D':List (Nat×AT)):Prop:=∀t,D.lookup t=D'.lookup t
omit [Zb]in
theorem Same.refl (D:List (Nat×AT)):Same D D:=λ_=>rfl
omit [Zb]in
theorem Same.trans {D D' D2:List (Nat×AT)} (h:Same D D') (k:Same D' D2):Same D D2:=λt=>(h t).trans (k t)
omit [Zb]in
theorem Same.enc {D D':List (Nat×AT)} (h:Same D' D) (k:EncL ρ H D L):EncL ρ H D' L:=λt v hv=>k t v (by rw[<-h t];exact hv)
omit [Zb]in
theorem fP {d:Nat} {v:AT} {D:List (Nat×AT)} (h:D.lookup d=some v):Same ((d,v)::D) D:=λt=>by
 rw[List.lookup_cons];split
 ·rename_i e;have:=eq_of_beq e;subst this;exact h.symm
 ·rfl
omit [Zb]in
theorem Same.bind {D D':List (Nat×AT)} (h:Same D D') (dst:Option Nat) (v:AT):Same (gX dst v D) (gX dst v D'):=by
 cases dst with
 |none=>exact h
 |some d=>intro t;simp only[gX,List.lookup_cons];split<;>first|rfl|exact h t
omit [Zb]in
theorem Same.sel {D D':List (Nat×AT)} (h:Same D D'):∀ts,Draw.sel D ts=Draw.sel D' ts
 |[]=>rfl
 |t::ts=>by simp only[Draw.sel];rw[h t,Same.sel h ts]
omit [Zb]in
theorem i6 {nt:Nat} {l:List Oper} {o:Oper} {D1 D:List (Nat×AT)} (hsub:Draw.Sub D1 D) {run skip:List (Nat×AT)->Option R} {r:R} (hc:kT nt l o D1 D run skip=some r):∃D',Same D' D/\((Gd l.toArray nt o D1 true/\run D'=some r)\/(Gd l.toArray nt o D1 false/\skip D'=some r)):=by
 unfold kT at hc;split at hc
 ·rename_i hg;exact⟨D,.refl D,.inl ⟨.run hg,hc⟩⟩
 ·rename_i j want hg;split at hc
  ·rename_i d d' hj hdst;rw[yv      ]at hj;split at hc
   ·rename_i hlt;have hn:d'<nt:=by simpa [Nat.blt_eq]using hlt
    split at hc
    ·rename_i p hd;cases want<;>cases p
     ·exact⟨_,fP (hsub _ _ hd),.inl ⟨.runG hg hj hd,hc⟩⟩
     ·exact⟨_,fP (hsub _ _ hd),.inr ⟨.skip hg hj hd rfl hdst hn,hc⟩⟩
     ·exact⟨_,fP (hsub _ _ hd),.inr ⟨.skip hg hj hd rfl hdst hn,hc⟩⟩
     ·exact⟨_,fP (hsub _ _ hd),.inl ⟨.runG hg hj hd,hc⟩⟩
    ·rename_i hd;exact⟨D,.refl D,.inr ⟨.skipU hg hj hd hdst hn,hc⟩⟩
    ·cases hc
   ·cases hc
  ·cases hc
omit [Zb]in
theorem tN {α:Type} {xs ys:List α} {i:Int} (h:zO xs i=some ys):0<i/\i<=xs.length/\ys=xs.drop i.toNat:=by
 unfold zO at h;cases hb:decide (0<i)&&decide (i<=(xs.length:Int))with
 | true =>
  rw[hb]at h;simp at hb h;exact⟨hb.1,hb.2,h.symm⟩
 |false=>rw[hb]at h;cases h
omit [Zb]in
theorem s7 {α:Type} {xs ys:List α} {i:Int} (h:oP xs i=some ys):0<=i/\i<=xs.length/\ys=xs.take i.toNat:=by
 unfold oP at h;cases hb:decide (0<=i)&&decide (i<=(xs.length:Int))with
 | true =>
  rw[hb]at h;simp at hb h;exact⟨hb.1,hb.2,h.symm⟩
 |false=>rw[hb]at h;cases h
omit [Zb]in
theorem qZ {im:List Nat} {o:Oper} (h:o.dst=none):iq tb im o D H=none:=by
 unfold iq;rw[h];split
 ·rename_i e;cases e
 ·rename_i e;cases e
 ·rfl
theorem w9 (htb:TBOK P tb) {im:List Nat} {o:Oper} {d:Nat} (hd:o.dst=some d) (hn:d<E.n) {q:Nat×Pl (AT×List Ob)} (hs:iq tb im o D H=some q) {v:AT} {H':List Ob} (hv:q.2.has (v,H')):(∀F,cq P o E F D H v H')/\Unt [q.1] H H':=by
 obtain⟨dst,op,ty,pos,af,gd⟩:=o;simp only at hd;subst hd;unfold iq at hs;simp only at hs;split at hs
 ·rename_i t x y d' e;cases e;split at hs
  ·split at hs
   ·rename_i id hx;cases hs;simp only at hv ⊢;split at hv
    ·rename_i T T' n xs i ht hr hy;obtain⟨ti,h1,h2⟩:=Option.bind_eq_some_iff.1 ht;split at hv
     ·rename_i zs hc;obtain⟨rfl,rfl⟩:=bL hc;obtain⟨ys,e1,e2⟩:=hv;cases e2;obtain⟨q1,q2,rfl⟩:=tN e1;refine⟨λF=>wx htb hn h1 h2 hx hr hy q1 q2,λj z hz hj=> ?_⟩;have hl:=(gI.1 hz).1;rw[aL (by simpa using hl),sN (λe=>hj (by simp[e]))];exact hz
     ·cases hv
    ·cases hv
   ·cases hs
  ·cases hs
 ·rename_i t x y d' e;cases e;split at hs
  ·split at hs
   ·rename_i id hx;cases hs;simp only at hv ⊢;split at hv
    ·rename_i T T' n xs i ht hr hy;obtain⟨ti,h1,h2⟩:=Option.bind_eq_some_iff.1 ht;split at hv
     ·rename_i zs hc;obtain⟨rfl,rfl⟩:=bL hc;obtain⟨ys,e1,e2⟩:=hv;cases e2;obtain⟨q1,q2,rfl⟩:=s7 e1;refine⟨λF=>xT htb hn h1 h2 hx hr hy q1 q2,λj z hz hj=> ?_⟩;have hl:=(gI.1 hz).1;rw[aL (by simpa using hl),sN (λe=>hj (by simp[e]))];exact hz
     ·cases hv
    ·cases hv
   ·cases hs
  ·cases hs
 ·cases hs
theorem uX {ρ:Rho} {H:List Ob} {c:C} {v:V} (h:CR ρ H c v):∃v',CR ρ H (yz c) v'/\∀(I:Nat->Prop) (w:World) (ι:List Abs.Inf) (u:Value),Abs.VR I w ι v u->Abs.VR I w ι v' u:=by
 unfold yz;split
 ·rename_i T;have hh:v= .lit (.slice none 0 0)/\0<szT T:=by
   cases h with
   |fl h=>cases h
   |nil hp=>exact⟨rfl,hp⟩
  obtain⟨rfl,hp⟩:=hh;refine⟨.imm (szT T) [],.fl (FR.nil_ hp),λI w ι u hu=> ?_⟩;cases hu with
  |lit _=>exact .imm0 (Nat.zero_le _)
 ·exact⟨v,h,λ_ _ _ _ h=>h⟩
theorem sf {ρ:Rho} {H:List Ob}:∀{cs:List C} {vs:List V},CRs ρ H cs vs->∃vs',CRs ρ H (cs.map yz) vs'/\vs'.length=vs.length/\∀(j:Nat) (h1:j<vs.length) (h2:j<vs'.length) (I:Nat->Prop) (w:World) (ι:List Abs.Inf) (u:Value),Abs.VR I w ι vs[j] u->Abs.VR I w ι vs'[j] u
 |[],vs,h=>⟨vs,h,rfl,λj h1 h2=>λ_ _ _ _ h=>h⟩
 |c::cs,[],h=>by have:=h.1;simp at this
 | c :: cs, v :: vs, h => by
  have h0:CR ρ H c v:=h.2 0 (by simp) (by simp)
  have hs:CRs ρ H cs vs:=⟨by have:=h.1;simpa using this,λj h1 h2=>by
   have:=h.2 (j+1) (by simpa using h1) (by simpa using h2);simpa using this⟩
  obtain⟨v',a1,a2⟩:=uX h0;obtain⟨vs',b1,b2,b3⟩:=sf hs;refine⟨v'::vs',CRs.cons a1 b1,by simp[b2],λj h1 h2=> ?_⟩;cases j with
  |zero=>exact a2
  |succ j=>exact b3 j (by simpa using h1) (by simpa using h2)
theorem BB {ρ:Rho} {H:List Ob} {x:AT} {a:AV} (h:ATR ρ H x a):∃a',ATR ρ H (CP x) a'/\∀(I:Nat->Prop) (w:World) (ι:List Abs.Inf) (u:Value),Abs.AR ι I w a u->Abs.AR ι I w a' u:=by
 cases h with
 | @one c v h =>
  obtain⟨v',a1,a2⟩:=uX h;exact⟨.one v',.one a1,λI w ι u hu=>by
   cases hu with
   |one hu=>exact .one (a2 I w ι u hu)⟩
 | @agg cs vs h =>
  obtain⟨vs',a1,a2,a3⟩:=sf h;refine⟨.agg vs',.agg a1,λI w ι u hu=> ?_⟩;cases hu with
  | @agg _ cs f hl hcs hr=>
   exact .agg (f:=f) (by omega) (λj hj=>hcs j (by omega)) (λj hj=>a3 j (by omega) hj _ _ _ _ (hr j (by omega)))
 | @tup xs ys hl h=>exact⟨.tup ys,.tup hl h,λ_ _ _ _ h=>h⟩
theorem BJ {o:Oper} {d:Nat} (hd:o.dst=some d) {v:AT} {H':List Ob} {L:Env} {h:ag} {ρ:Rho} (hh:ar P o E (cR F H ρ o.dst L v H') L h):ar P o E (cR F H ρ o.dst L (CP v) H') L h:=by
 refine kC hh ?_;rintro L2 h2 ⟨ρ',av,rfl,m1,m2,m3,m4⟩;obtain⟨av',a1,a2⟩:=BB m1;refine⟨Abs.bindD o.dst av' L,h2,⟨ρ',av',rfl,a1,m2,m3,m4⟩,λLf=>⟨λE ι I a w r=>⟨I,{r with slots:=λt u hu=> ?_}⟩⟩⟩;rw[hd]at hu r;simp only[Abs.bindD,List.cons_append,List.lookup_cons]at hu;have rs:=r.slots t;simp only[Abs.bindD,List.cons_append,List.lookup_cons]at rs;split at hu
 ·rename_i e;rw[e]at rs;obtain⟨c,c1,c2⟩:=rs av rfl;cases hu;exact⟨c,c1,a2 _ _ _ _ c2⟩
 ·rename_i e;rw[e]at rs;exact rs u hu
theorem vJ (htb:TBOK P tb) (hO:dc P O) {nt:Nat} (hE:E.n=nt) {im:List Nat} {o:Oper} {K:AT->List Ob->Option R} {r:R} (hc:B4 tb O nt im o D H K=some r):∃v H',K v H'=some r/\∀F,cq P o E F D H v H'/\Unt (iG tb O im o D H) H H':=by
 have plain:∀{K:AT->List Ob->Option R},iq tb im o D H=none->one tb O nt o D H K=some r->∃v H',K v H'=some r/\∀F,cq P o E F D H v H'/\Unt (iG tb O im o D H) H H':=λ{K} hq hc=>let⟨v,H',h1,h2,h3⟩:=FI htb hO hE hc;⟨v,H',h1,λF=>⟨h2 F,by unfold iG;rw[hq];exact h3⟩⟩
 unfold B4 at hc;split at hc
 ·rename_i d hd;split at hc
  ·obtain⟨v,h1,h2⟩:=qC (E:=E) htb hE hc;exact⟨v,H,h1,λF=>⟨h2 F H,.refl _ _⟩⟩
  ·split at hc
   ·rename_i hb;rw[bA]at hb;have hq:iq     tb im o D H=none:=by
     obtain⟨dst,op,ty,pos,af,gd⟩:=o;have hb:=hb.2;cases op<;>first|rfl|cases hb
    obtain⟨v,H',h1,h2⟩:=plain hq hc;exact⟨CP v,H',h1,λF=>⟨λρ L h hs hh hf=>BJ hd ((h2 F).1 ρ L h hs hh hf),(h2 F).2⟩⟩
   ·split at hc
    ·rename_i q hq;split at hc
     ·rename_i hlt;obtain⟨z,h1,h2⟩:=Pl.run_has hc;obtain⟨k1,k2⟩:=w9 (E:=E) htb hd (by rw[hE];simpa [Nat.blt_eq]using hlt) hq h1;exact⟨z.1,z.2,h2,λF=>⟨k1 F,by unfold iG;rw[hq];exact k2⟩⟩
     ·cases hc
    ·rename_i hq;exact plain hq hc
 ·rename_i hd;exact plain (qZ hd) hc
def Dz (P:Program) (o:Oper) (E:Abs.Cx) (F:In) (D:List (Nat×AT)) (H:List Ob) (v:AT) (H':List Ob):Prop:=
 ∀ρ L h,EncL ρ H D L->HpR ρ H h->Fr F ρ H h->XR F ρ H h->ar P o E (λL2 h2=>∃ρ' av,L2=Abs.bindD o.dst av L/\ATR ρ' H' v av/\HpR ρ' H' h2/\Ev ρ H ρ' H'/\Fr F ρ' H' h2/\XR F ρ' H' h2) L h
omit [Zb]in
theorem mA {ids:List Nat} {H':List Ob} (hu:Unt ids H H') (hk:okX H ids H'=true):RowsSame H H':=λid y hy hr=>by
 unfold okX at hk;rw[bA]at hk;by_cases hid:id<H.length
 ·by_cases hm:id∈ids
  ·have:=aT.1 hk.1 id hm;rw[hy]at this;have t2:(!y.isRows)=true:=this;rw[hr]at t2;cases t2
  ·have e:=gE hid;have:=hu id _ e hm;rw[hy]at this;cases this;exact e
 ·have:y∈H'.drop H.length:=by
   refine mG (i:=id-H.length) ?_;rw[List.getElem?_drop,show H.length+(id-H.length)=id by omega];exact hy
  have t2:(!y.isRows)=true:=aT.1 hk.2 y this;rw[hr]at t2;cases t2
section
variable {d : Nat} {ty : TypeId} {pos : String} {af : Array Edge} {gd : Option (Nat × Bool)} {id k : Nat} {T : Ty} {xss : List (List (I T))}
end
theorem uV (htb:TBOK P tb) {im:List Nat} {o:Oper} {p:Pl (AT×List Ob)} (he:Ez tb im o D H=some p) {v:AT} {H':List Ob} (hv:p.has (v,H')) (hd:∀d,o.dst=some d->d<E.n):Dz P o E F D H v H':=by unfold Ez at he;cases he
theorem Dr (htb:TBOK P tb) (hO:dc P O) {nt:Nat} (hE:E.n=nt) {im:List Nat} {o:Oper} {K:AT->List Ob->Option R} {r:R} (hc:w5 tb O nt im o D H K=some r):∃v H',K v H'=some r/\Dz P o E F D H v H':=by
 unfold w5 at hc;split at hc
 ·rename_i p he;split at hc
  ·rename_i d hd;split at hc
   ·rename_i hlt;obtain⟨q,h1,h2⟩:=Pl.run_has hc;exact⟨q.1,q.2,h2,uV htb he h1 λd' h'=>by rw[hd]at h';cases h';rw[hE];simpa [Nat.blt_eq]using hlt⟩
   ·cases hc
  ·rename_i hd;obtain⟨q,h1,h2⟩:=Pl.run_has hc;exact⟨q.1,q.2,h2,uV htb he h1 λd' h'=>by rw[hd]at h';cases h'⟩
 ·obtain⟨v,H',k1,k2⟩:=vJ      (E:=E) htb hO hE hc;split at k1
  ·rename_i hok;refine⟨v,H',k1,λρ L h hs hp hf hx=>ku ((k2 ⟨h,ρ,H⟩).1 ρ L h hs hp (Fr.refl _ _ _)) ?_⟩;rintro L3 h3 ⟨ρ',av,rfl,m1,m2,m3,m4⟩;exact⟨ρ',av,rfl,m1,m2,m3,hf.trans m4,hx.keep m4 (mA (k2 ⟨h,ρ,H⟩).2 hok)⟩
  ·cases k1
omit [Zb]in
theorem uP {α:Type} {xs ys zs:List α} {i:Int} (h:pB xs ys i=some zs):0<=i/\i<=xs.length/\lim (ys++xs.drop i.toNat)=some zs:=by
 unfold pB at h;cases hb:decide (0<=i)&&decide (i<=(xs.length:Int))with
 | true =>
  rw[hb]at h;simp only[bA,decide_eq_true_eq]at hb;exact⟨hb.1,hb.2,h⟩
 |false=>rw[hb]at h;cases h
theorem B6 (htb:TBOK P tb) {d1 d2:Nat} {ty:TypeId} {pos:String} {af:Array Edge} (hn1:d1<E.n) (hn2:d2<E.n) {t t1 t2 id id2 n m z:Nat} {ti ti1 ti2:TI} {T U:Ty} {x y:Operand} {i:Int} {xs ys zs:List (I T)} {ty2:TypeId} {pos2:String} {af2:Array Edge} {ops:Array Oper} {rest:List Oper} {K:Env->ag->Prop} (ht:tb t=some ti) (he:ti.elem=some T) (ht1:tb t1=some ti1) (he1:ti1.elem=some T) (ht2:tb t2=some ti2) (he2:ti2.elem=some U)
  (hs:EncL ρ H D L) (hh:HpR ρ H h) (hf:Fr F ρ H h) (hxr:XR F ρ H h) (hx:ev D x=some (.one (.o id))) (hr:H[id]? =some (.row T n xs)) (hy:ev D y=some (.one (.i i))) (hz:D.lookup z=some (.one (.o id2))) (hr2:H[id2]? =some (.row T m ys)) (hzd:z≠d1) (hi:0<=i) (hle:i<=xs.length) (hl:lim (ys++xs.drop i.toNat)=some zs)
  (hk:∀ρ' L' h',SR F ρ' ⟨(d2,.one (.o H.length))::(d1,.one (.o id2))::D,(H.set id2 .gone)++[.row T 0 zs]⟩ L' h'->Abs.ao P ops rest E K L' h'):
  Abs.ao P ops (⟨some d1,.slice t x (some y) none none,ty,pos,af,none⟩::⟨some d2,.call ⟨.builtin .append,#[.tmp z,.tmp d1],#[t1,t2]⟩,ty2,pos2,af2,none⟩::rest) E K L h:=by
 refine Abs.pZ rfl (B1 htb hn1 ht he hs hh hx hr hy hi hle λv ns h1 h2=>Abs.pZ rfl ?_);obtain⟨j,G2⟩:=htb.get ht2;obtain⟨el',z'',k0,k1,_⟩:=G2.elem U he2;obtain⟨vz,z1,z2⟩:=hs z _ hz;have hs2:EncL ρ H [(z,.one (.o id2))] ((d1,.one v)::L):=λs u hu=>by
  simp only[List.lookup_cons,List.lookup_nil]at hu;split at hu
  ·rename_i e;have:=eq_of_beq e;subst this;cases hu;refine⟨vz,?_,z2⟩;rw[List.lookup_cons,beq_false_of_ne hzd];exact z1
  ·cases hu
 refine ku (mQ (F:=⟨h,ρ,H⟩) htb hn2 ht1 he1 (x:=.tmp z) (y:=.tmp d1) (D:=[(z,.one (.o id2))]) (by simp[ev]) hr2 hl hs2 hh (Fr.refl _ _ _) ⟨ns,h1,Abs.lV G2.tb k1 (by simp[Abs.ev]) h2⟩) ?_;rintro L3 h3 ⟨ρ',av,rfl,m1,m2,m3,m4⟩;have hlt:=(gI.1 hr2).1;have hg:((H.set id2 Ob.gone)++[Ob.row T 0 zs])[id2]? =some .gone:=by
  rw[aL (by simpa using hlt),sS hlt]
 refine hk ρ' _ h3 ⟨?_,m2,hf.trans m4,hxr.keep m4 ?_⟩
 ·exact eK (dst:=some d2) (eK (dst:=some d1) (hs.mono m3) (.one (.oG hg))) m1
 ·intro j y hj hy;by_cases hjl:j<H.length
  ·rw[aL (by simpa using hjl)]at hj;by_cases e:id2=j
   ·subst e;rw[sS hlt]at hj;cases hj;cases hy
   ·rw[sN e]at hj;exact hj
  ·rw[aR (by simp;omega)]at hj;have:=mG hj;simp at this;subst this;cases hy
theorem AX       (htb : TBOK P tb) {nt : Nat} (hE : E.n = nt) {im : List Nat} {ops : Array Oper} {o : Oper} {rest rest2 : List Oper} {o2 : Oper} (hrest : rest = o2 :: rest2) {p : Pl (List (Nat × AT) × List Ob)} (hp : yZ    tb nt im o rest D H = some p) {q : List (Nat × AT) × List Ob} (hq : p.has q) {K : Env → ag   → Prop}
  (hs:EncL ρ H D L) (hh:HpR ρ H h) (hf:Fr F ρ H h) (hxr:XR F ρ H h) (hk:∀ρ' L' h',SR F ρ' ⟨q.1,q.2⟩ L' h'->Abs.ao P ops rest2 E K L' h'):Abs.ao P ops (o::rest) E K L h:=by
 subst hrest;obtain⟨dst,op,ty,pos,af,gd⟩:=o;obtain⟨dst2,op2,ty2,pos2,af2,gd2⟩:=o2;unfold yZ at hp;simp only at hp;split at hp
 ·rename_i t x y;split at hp
  ·rename_i d1 o2' _ e;cases e;split at hp
   ·split at hp
    ·rename_i args tys d2 e1 e2 e3;simp only at e1 e2 e3;subst e1 e2 e3;split at hp
     ·rename_i z d t1 t2 ha hb;have ha':args= #[Operand.tmp z,Operand.tmp d]:=by rw[<-Array.toArray_toList (xs:=args),ha]
      have hb':tys= #[t1,t2]:=by rw[<-Array.toArray_toList (xs:=tys),hb]
      subst ha' hb';split at hp
      ·rename_i hc;rw[bA,bA,bA]at hc;obtain⟨⟨⟨c1,c2⟩,c3⟩,c4⟩:=hc;have c1:=nB c1;subst c1;have c2:z≠d:=λe=>by subst e;simp at c2
       rw[Nat.blt_eq]at c3 c4;split at hp
       ·rename_i id i id2 hx hy hz;cases hp;split at hq
        ·rename_i ti ti1 ti2 _ n xs _ m ys ht ht1 ht2 hr hr2 _;split at hq
         ·rename_i T T1 U he he1 he2;split at hq
          ·rename_i xs2 ys2 e1 e2;obtain⟨rfl,rfl⟩:=bL         e1;obtain⟨rfl,rfl⟩:=bL         e2;split at hq
           ·rename_i xs3 e3;obtain⟨rfl,rfl⟩:=bL e3;obtain⟨zs,e4,e5⟩:=hq;cases e5;obtain⟨k1,k2,k3⟩:=uP e4;exact B6 htb (by rw[hE];exact c3) (by rw[hE];exact c4) ht he ht1 he1 ht2 he2 hs hh hf hxr hx hr hy hz hr2 c2 k1 k2 k3 hk
           ·cases hq
          ·cases hq
         ·cases hq
        ·cases hq
       ·cases hp
      ·cases hp
     ·cases hp
    ·cases hp
   ·cases hp
  ·cases hp
 ·cases hp
theorem De      (htb : TBOK P tb) (hO : dc    P O) {nt : Nat} (hE : E.n = nt) {im : List Nat} {o : Oper} {K : AT → List Ob → Option R} {r : R} (hc : Ee   tb O nt im o D H K = some r) (hs : EncL ρ H D L) (hp : HpR ρ H h) (hf : Fr F ρ H h) (hx : XR F ρ H h) :
  ar P o E (λL2 h2=>∃v H' ρ' av,K v H'=some r/\L2=Abs.bindD o.dst av L/\ATR ρ' H' v av/\HpR ρ' H' h2/\Ev ρ H ρ' H'/\Fr F ρ' H' h2/\XR F ρ' H' h2) L h:=by
 have det:w5 tb O nt im o D H K=some r->ar P o E (λL2 h2=>∃v H' ρ' av,K v H'=some r/\L2=Abs.bindD o.dst av L/\ATR ρ' H' v av/\HpR ρ' H' h2/\Ev ρ H ρ' H'/\Fr F ρ' H' h2/\XR F ρ' H' h2) L h:=λk=>by
  obtain⟨v,H',k1,k2⟩:=Dr (F:=F) htb hO hE k;exact ku (k2 ρ L h hs hp hf hx) λL2 h2 ⟨ρ',av,m⟩=>⟨v,H',ρ',av,k1,m⟩
 unfold Ee at hc;split at hc
 ·rename_i x args tys d hop hdst;split at hc
  ·rename_i f caps xs hev hxs;cases hq:Nat.beq (O.mode f) 3 with
   |false=>rw[hq]at hc;exact det hc
   | true =>
    rw[hq]at hc;simp only[cT]at hc;split at hc
    ·rename_i hlt;have hn:d<E.n:=by rw[hE];simpa [Nat.blt_eq]using hlt
     obtain⟨dst,op,ty,pos,af,gd⟩:=o;simp only at hop hdst;subst hop hdst;obtain⟨args,rfl⟩:∃l:List Operand,args=l.toArray:=⟨args.toList,by simp⟩;simp only at hxs;unfold DE at hc;split at hc
     ·rename_i ys H1 hcv;simp only at hc;split at hc
      ·rename_i Hc zs hnd hpk hmv;obtain⟨S,s1,s2⟩:=(hO _ _ _ _ _ _ hc).2 hq;obtain⟨vs,avs,e1,e2,e3⟩:=nH     (tys:=tys) htb hev hxs hs;obtain⟨ρ1,bvs,m1,m2,m3⟩:=iz       hcv hp (Fr.refl _ _ _) e3;obtain⟨c1,c2,c3⟩:=iV      m1.heap hnd hpk;obtain⟨d1,d2⟩:=ib       hmv;refine Abs.mH       e1 e2 hn (s2 _ h bvs c1 ⟨by rw[d1];exact m2.1,λj j1 j2=>lr     c2 (m2.2 j (by omega) j2) (d2 j (by omega) j1)⟩) (λι I w cs hcs=>m3.ars hcs) (λr' h' ⟨q,ρ',hq',n1,n2,n3⟩=> ?_);have h1:=s1 q hq';split at h1
       ·rename_i Hb u hb1 hb2 hb3;split at h1
        ·rename_i hok;obtain⟨p1,p2,p3,p4⟩:=vT m1.heap m1.fr hnd hpk n2 n3 (Nat.le_of_ble_eq_true hb1) hb2;refine⟨_,_,_,r',h1,rfl,lr p4 n1 hb3,p1,m1.ev.trans p2,hf.trans p3,hx.keep p3 (mA (λid x hx0 hni=> ?_) hok)⟩;simp only[cj,hev,hxs,nB hq,hcv]at hni;obtain⟨t,rfl⟩:=fU hcv;have hlt:=(gI.1 hx0).1;rw[aL (by rw[cJ];simp;omega),dD _ _ _ hni,aL hlt];exact hx0
        ·cases h1
       ·cases h1
      ·cases hc
     ·cases hc
    ·cases hc
  ·exact det hc
 ·exact det hc
theorem ml (htb:TBOK P tb) (hO:dc P O) {nt:Nat} (hE:E.n=nt) {im:List Nat} {ops:List Oper} {K:St->Option R} {r:R}:∀{rest:List Oper} {st:St} {ρ:Rho} {L:Env} {h:ag},wV tb O nt im ops rest st K=some r->SR F ρ st L h->ao P ops.toArray rest E (λL2 h2=>∃ρ' st',K st'=some r/\SR F ρ' st' L2 h2) L h
 |[],st,ρ,L,h,hc,hs=>Abs.Ef ⟨ρ,st,hc,hs⟩
 | o :: rest, st, ρ, L, h, hc, hs => by
  unfold wV at hc;obtain⟨L2,h2,sh,hs2⟩:=fp (ids:=qd O im o st.L) hs;refine Abs.zH sh ?_;clear hs sh L h;obtain⟨st1,e1⟩:∃st1,st1=bF (qd O im o st.L) st:=⟨_,rfl⟩;rw[<-e1]at hs2;simp only[prep,<-e1]at hc;split at hc
  ·rename_i p hp;split at hc
   ·rename_i o2 rest2;obtain⟨q,q1,q2⟩:=Pl.run_has hc;exact AX (F:=F) htb hE rfl hp q1 hs2.slots hs2.heap hs2.fr hs2.xr λρ' L' h' hs'=>ml htb hO hE q2 hs'
   ·cases hc
  obtain⟨D',hsame,hcase⟩:=i6 (λ_ _ h=>h) hc;have hse:=hsame.enc hs2.slots;rcases hcase with⟨g,k⟩|⟨g,k⟩
  ·have run:ar P o E (ao P ops.toArray rest E (λL2 h2=>∃ρ' st',K st'=some r/\SR F ρ' st' L2 h2)) L2 h2:=by
    refine ku (De htb hO hE k hse hs2.heap hs2.fr hs2.xr) ?_;rintro L3 h3 ⟨v,H',ρ',av,k1,rfl,m1,m2,m3,m4,m5⟩;exact ml htb hO hE k1 ⟨eK (hse.mono m3) m1,m2,m4,m5⟩
   cases g with
   |run hg=>exact Abs.pZ hg run
   |runG hg hj hd=>exact Abs.Fz hg hj (vj hs2.slots hd) rfl run
  ·have skip:∀{d'},o.dst=some d'->ao P ops.toArray rest E (λL2 h2=>∃ρ' st',K st'=some r/\SR F ρ' st' L2 h2) ((d',.tup [])::L2) h2:=λ{d'} hdst=>by
    have:=eK (dst:=o.dst) hse (jV (ρ:=ρ) (H:=st1.H));rw[hdst]at this k;exact ml htb hO hE k ⟨this,hs2.heap,hs2.fr,hs2.xr⟩
   cases g with
   |skip hg hj hd hp hdst hn=>exact Abs.B0 hg hj (vj hs2.slots hd) hp hdst (by rw[hE];exact hn) (skip hdst)
   |skipU hg hj hd hdst hn=>exact Abs.zQ hg hj (DP hs2.slots hd) hdst (by rw[hE];exact hn) (skip hdst)
end
end
section
variable [Zb]
section
variable {P : Program} {E : Abs.Cx} {F : In} {ρ ρ' : Rho} {H : List Ob} {D : List (Nat × AT)} {L : Env} {h h' : ag} {R : Type} {tb : Nat → Option TI} {O : Orc}
omit [Zb]in
theorem dO (dst:Option Nat) (v:AT) (L:List (Nat×AT)):gX dst v L=Draw.bindD dst v L:=by cases dst<;>rfl
omit [Zb]in
theorem EncL.sub {D':List (Nat×AT)} (h:EncL ρ H D L) (hs:Draw.Sub D' D):EncL ρ H D' L:=λt v hv=>h t v (hs t v hv)
def sys (P : Program) (E : Abs.Cx) (F : In) (ops : Array Oper) (Hm : List Ob) : Draw.Sys P ops AT (List Ob) where
 Rel:=λD H a w=>Le Hm H/\∃ρ L h ι I,SR0 F ρ ⟨D,H⟩ L h/\Abs.Rel E L h ι I a w
 OT:=λo D v H H'=>Le Hm H->Le Hm H'/\((Gd ops E.n o D true/\cq P o E F D H v H')\/(Gd ops E.n o D false/\v= .tup []/\H'=H))
 weaken:=λ⟨hle,ρ,L,h,ι,I,hs,r⟩ k=>⟨hle,ρ,L,h,ι,I,⟨hs.slots.sub k,hs.heap,hs.fr⟩,r⟩
 same:=λ⟨hle,ρ,L,h,ι,I,hs,r⟩ e1 e2 e3 e4=>⟨hle,ρ,L,h,ι,I,hs,r.same e1 e2 e3 e4⟩
 sound:=λ{o D Dg v H H' i a w Q K} ht hsub ho ⟨hle,ρ,L,h,ι,I,hs,r⟩ hk=>by
  unfold wpOp;rw[ho];simp only[];obtain⟨hle',ht⟩:=ht hle;rcases ht with⟨g,hop⟩|⟨g,rfl,rfl⟩
  ·have hw:Region.wanted o (yielded ops a.tmps)=true:=by
    cases g with
    |run hg=>simp[Region.wanted,hg]
    | runG hg hj hd =>
     have hy:=r.yields (ops:=ops) hj (vj hs.slots (hsub _ _ hd));simp[Region.wanted,hg,hy]
   rw[if_pos hw];refine .inl (Abs.iM ?_ (λ_ _ _ f=>f.elim) ((hop ρ L h (hs.slots.sub hsub) hs.heap hs.fr).get [] ι I a w (by rw[List.append_nil];exact r)));rintro a' w' ⟨L',h2,ι',I',⟨ρ',av,rfl,m1,m2,m3,m4⟩,r'⟩;refine hk a' w' ⟨hle',ρ',_,h2,ι',I',⟨?_,m2,m4⟩,r'.low⟩;show EncL ρ' _ (Draw.bindD o.dst v Dg) _;rw[<-dO];exact eK (hs.slots.mono m3) m1
  ·have fin:∀{d'},o.dst=some d'->d'<E.n->K (a.put (some d') undef) w:=λ{d'} hdst hn=>by
    refine hk _ _ ⟨hle,ρ,_,h,ι,I,⟨?_,hs.heap,hs.fr⟩,r.put hn Abs.AR.none_⟩;show EncL ρ _ (Draw.bindD o.dst _ Dg) _;rw[<-dO,hdst];exact eK (dst:=some d') hs.slots jV
   cases g with
   | skip hg hj hd hp hdst hn =>
    have hy:=r.yields (ops:=ops) hj (vj hs.slots (hsub _ _ hd));rw[if_neg (by simp[Region.wanted,hg,hy,hp]),hdst];exact fin hdst hn
   | skipU hg hj hd hdst hn =>
    have hy:=r.yieldsU (ops:=ops) hj (DP hs.slots (hsub _ _ hd));rw[if_neg (by simp[Region.wanted,hg,hy]),hdst];exact fin hdst hn
omit [Zb]in
theorem pU {ops:Array Oper} {S:Draw.Sys P ops AT (List Ob)} {ch rd π σ:List Nat} {D Df:List (Nat×AT)} {hs hf:List (List Ob)} (d:Draw.DR S ch rd π σ D hs Df hf):∀{D':List (Nat×AT)},Same D D'->∃Df',Draw.DR S ch rd π σ D' hs Df' hf/\Same Df Df':=by
 induction d with
 |nil L hs=>exact λh=>⟨_,.nil _ _,h⟩
 | pure ho hc ht _ ih =>
  intro D' h;have hb:=h.bind;simp only[dO]at hb;obtain⟨Df',k1,k2⟩:=ih (hb _ _);exact⟨Df',.pure ho hc (by rw[<-h.sel];exact ht) k1,k2⟩
 | read ho hc hr ht _ ih =>
  intro D' h;have hb:=h.bind;simp only[dO]at hb;obtain⟨Df',k1,k2⟩:=ih (hb _ _);exact⟨Df',.read ho hc hr (by rw[<-h.sel];exact ht) k1,k2⟩
 | chain ho hc ht _ ih =>
  intro D' h;have hb:=h.bind;simp only[dO]at hb;obtain⟨Df',k1,k2⟩:=ih (hb _ _);exact⟨Df',.chain ho hc (by rw[<-h.sel];exact ht) k1,k2⟩
theorem fQ       (htb : TBOK P tb) (hO : dc    P O) {nt : Nat} (hE : E.n = nt) {im : List Nat} {ops : Array Oper} {Hm : List Ob} {π ch rd : List Nat} {K : List (Nat × AT) → List Ob → Option R} {r : R} : ∀ {rest done : List Nat} {D : List (Nat × AT)} {Hd H : List Ob} {hs : List (List Ob)}, cG    tb O nt im ops Hm π ch rd done rest D Hd H K = some r → hs.length = Abs.cnt ch done → (∀ h ∈ H :: hs, Le Hd h) →
  ∃Df Hl hl Df',Draw.DR (sys P E F ops Hm) ch rd π rest D (H::hs) Df' (Hl::hl)/\Same Df Df'/\K Df Hl=some r/\RowsSame H Hl
 |[],done,D,Hd,H,hs,hc,_,_=>⟨D,H,hs,D,.nil _ _,.refl _,hc,.refl _⟩
 | i :: rest, done, D, Hd, H, hs, hc, hl, hle => by
  unfold cG at hc;split at hc
  ·cases hc
  rename_i o ho;have hcnt:Abs.cnt ch (i::done)=Abs.cnt ch done+(if ch.contains i then 1 else 0):=by
   unfold Abs.cnt;rw[List.countP_cons]
  have hsub:Draw.Sub (Draw.sel D (o.looksAt ops)) D:=Draw.sel_sub λ_ _=>rfl;simp only at hc;split at hc
  ·rename_i hch;have hcnt':(H::hs).length=Abs.cnt ch (i::done):=by rw[hcnt,if_pos hch,List.length_cons,hl]
   have go:∀{v:AT} {Hd' H':List Ob} {D':List (Nat×AT)},RowsSame H H'->Same D' D->(sys P E F ops Hm).OT o (Draw.sel D (o.looksAt ops)) v H H'->Le Hd' Hd->Le Hd' H'->cG tb O nt im ops Hm π ch rd (i::done) rest (gX o.dst v D') Hd' H' K=some r->
     ∃Df Hl hl Df',Draw.DR (sys P E F ops Hm) ch rd π (i::rest) D (H::hs) Df' (Hl::hl)/\Same Df Df'/\K Df Hl=some r/\RowsSame H Hl:=λ{v Hd' H' D'} hrs hsm ht hd1 hd2 hc=>by
    obtain⟨Df,Hl,hl',Df',k1,k3,k2⟩:=fQ htb hO hE (hs:=H::hs) hc hcnt' (λh hm=>by
     rcases List.mem_cons.1 hm with rfl|hm
     ·exact hd2
     ·exact hd1.trans (hle h hm))
    obtain⟨Df2,m1,m2⟩:=pU k1 (hsm.bind o.dst v);rw[dO]at m1;exact⟨Df,Hl,hl',Df2,.chain ho hch ht m1,k3.trans m2,k2.1,hrs.trans k2.2⟩
   obtain⟨D',hsm,⟨g,k⟩|⟨g,k⟩⟩:=i6 hsub hc
   ·split at k
    ·rename_i htc;obtain⟨v,H',k1,k24⟩:=vJ      (E:=E) htb hO hE k;have k2:=λF=>(k24 F).1;have k4:=(k24 F).2;split at k1
     ·rename_i hok;exact go (mA k4 hok) hsm (λhle=>⟨hle.unt k4 htc,.inl ⟨by rw[hE];simpa using g,k2 F⟩⟩) (rT _ _) ((hle H (by simp)).hide k4) k1
     ·cases k1
    ·cases k
   ·exact go (.refl _) hsm (λhle=>⟨hle,.inr ⟨by rw[hE];simpa using g,rfl,rfl⟩⟩) (.refl _) (hle H (by simp)) k
  ·rename_i hch;have hch':ch.contains i=false:=by simpa using hch
   have hcnt':hs.length=Abs.cnt ch (i::done):=by rw[hcnt,if_neg hch];exact hl
   split at hc
   ·rename_i hrd
    have go:∀{v:AT} {D':List (Nat×AT)},Same D' D->(∀H2∈(H::hs).take ((H::hs).length-Abs.cnt ch (π.filter λj=>Abs.bM ops j i)),(sys P E F ops Hm).OT o (Draw.sel D (o.looksAt ops)) v H2 H2)->cG tb O nt im ops Hm π ch rd (i::done) rest (gX o.dst v D') Hd H K=some r->
      ∃Df Hl hl Df',Draw.DR (sys P E F ops Hm) ch rd π (i::rest) D (H::hs) Df' (Hl::hl)/\Same Df Df'/\K Df Hl=some r/\RowsSame H Hl:=λ{v D'} hsm ht hc=>by
     obtain⟨Df,Hl,hl',Df',k1,k3,k2⟩:=fQ htb hO hE (hs:=hs) hc hcnt' hle;obtain⟨Df2,m1,m2⟩:=pU k1 (hsm.bind o.dst v);rw[dO]at m1;exact⟨Df,Hl,hl',Df2,.read ho hch' hrd ht m1,k3.trans m2,k2⟩
    obtain⟨D',hsm,⟨g,k⟩|⟨g,k⟩⟩:=i6 hsub hc
    ·split at k
     ·obtain⟨v,k1,k2⟩:=qC (E:=E) htb hE k;exact go hsm (λH2 _ hle=>⟨hle,.inl ⟨by rw[hE];simpa using g,k2 F H2⟩⟩) k1
     ·split at k
      ·rename_i hkp;obtain⟨v,k1,k2⟩:=uW      (F:=F) (E:=E) htb hO hE hkp k;refine go hsm (λH2 hm hle2=>⟨hle2,.inl ⟨by rw[hE];simpa using g,k2 H2 ?_⟩⟩) k1;split
       ·rename_i hb;have hb:=Nat.le_of_ble_eq_true hb;have hk:(H::hs).length-Abs.cnt ch (π.filter λj=>Abs.bM    ops j i)<=1:=by rw[List.length_cons];omega
        have:H2=H:=by
         have h2:H2∈(H::hs).take 1:=by
          have e:(H::hs).take ((H::hs).length-Abs.cnt ch (π.filter λj=>Abs.bM ops j i))=((H::hs).take 1).take ((H::hs).length-Abs.cnt ch (π.filter λj=>Abs.bM ops j i)):=by rw[List.take_take,Nat.min_eq_left hk]
          rw[e]at hm;exact List.mem_of_mem_take hm
         simpa using h2
        rw[this];exact .refl H
       ·exact hle H2 (List.mem_of_mem_take hm)
      ·cases k
    ·exact go hsm (λH2 _ hle=>⟨hle,.inr ⟨by rw[hE];simpa using g,rfl,rfl⟩⟩) k
   ·have go:∀{v:AT} {D':List (Nat×AT)},Same D' D->(∀H,(sys P E F ops Hm).OT o (Draw.sel D (o.looksAt ops)) v H H)->cG    tb O nt im ops Hm π ch rd (i::done) rest (gX    o.dst v D') Hd H K=some r->
      ∃Df Hl hl Df',Draw.DR (sys P E F ops Hm) ch rd π (i::rest) D (H::hs) Df' (Hl::hl)/\Same Df Df'/\K Df Hl=some r/\RowsSame H Hl:=λ{v D'} hsm ht hc=>by
     obtain⟨Df,Hl,hl',Df',k1,k3,k2⟩:=fQ htb hO hE (hs:=hs) hc hcnt' hle;obtain⟨Df2,m1,m2⟩:=pU k1 (hsm.bind o.dst v);rw[dO]at m1;exact⟨Df,Hl,hl',Df2,.pure ho hch' ht m1,k3.trans m2,k2⟩
    obtain⟨D',hsm,⟨g,k⟩|⟨g,k⟩⟩:=i6 hsub hc
    ·split at k
     ·obtain⟨v,k1,k2⟩:=qC (E:=E) htb hE k;exact go hsm (λH hle=>⟨hle,.inl ⟨by rw[hE];simpa using g,k2 F H⟩⟩) k1
     ·split at k
      ·rename_i hkp;obtain⟨v,k1,k2⟩:=uW (F:=F) (E:=E) (H:=Hm) htb hO hE hkp k;exact go hsm (λH hle=>⟨hle,.inl ⟨by rw[hE];simpa using g,k2 H hle⟩⟩) k1
      ·cases k
    ·exact go hsm (λH hle=>⟨hle,.inr ⟨by rw[hE];simpa using g,rfl,rfl⟩⟩) k
def B9 (F:In) (K:Kt R) (r:R):Exit->Env->ag->Prop:=λe L h=>∃ρ' st',K e st'=some r/\SR F ρ' st' L h
def gr (P:Program) (an:Ann) (c:Code) (f:(R:Type)->St->Kt R->Option R):Prop:=∀[Zb] (R:Type) (E:Abs.Cx) (F:In),E.n=an.nt->F.ok an.refs->∀(st:St) (K:Kt R) (r:R) (ρ:Rho) (L:Env) (h:ag),f R st K=some r->SR F ρ st L h->aw P c E (B9 F K r) L h
def AllP (P:Program) (an:Ann) (pc:Pcs):List (Nat×Nat×Code)->Prop
 |[]=>True
 |p::l=>gr P an p.2.2 (λR=>pc.at_ p.1 R p.2.1)/\AllP P an pc l
omit [Zb]in
theorem AllP.app {an:Ann} {pc:Pcs}:∀{a b:List (Nat×Nat×Code)},AllP P an pc (a++b)->AllP P an pc a/\AllP P an pc b
 |[],_,h=>⟨trivial,h⟩
 |_::_,_,h=>let⟨h1,h2⟩:=AllP.app h.2;⟨⟨h.1,h1⟩,h2⟩
omit [Zb]in
theorem sw {c:Operand} {b:Bool} {st:St} (hs:SR F ρ st L h) (hx:ev st.L c=some (.one (.b b))):SR F ρ (sP c b st) L h:=by
 cases c with
 |tmp t=>exact⟨Same.enc (fP hx) hs.slots,hs.heap,hs.fr,hs.xr⟩
 |_=>exact hs
theorem fg (hm:P.follows .mixedOrders=true) (htb:TBOK P tb) (hO:dc P O) {an:Ann} {pc:Pcs} (hE:E.n=an.nt) (hF:F.ok an.refs):∀{c:Code} {st:St} {K:Kt R} {r:R} {ρ:Rho} {L:Env} {h:ag},AllP P an pc (aY an c)->den tb O pc an c st K=some r->SR F ρ st L h->aw P c E (B9 F K r) L h
 | .skip,st,K,r,ρ,L,h,_,hc,hs=>Abs.BN ⟨ρ,st,hc,hs⟩
 | .ret,st,K,r,ρ,L,h,_,hc,hs=>Abs.E1 ⟨ρ,st,hc,hs⟩
 | .exit id,st,K,r,ρ,L,h,_,hc,hs=>Abs.Dk ⟨ρ,st,hc,hs⟩
 | .seq a b, st, K, r, ρ, L, h, hP, hc, hs => by
  unfold aY at hP;obtain⟨hP1,hP2⟩:=hP.app;refine Abs.qL (Abs.fw ?_ (fg hm htb hO hE hF (c:=a) hP1 hc hs));rintro e L h ⟨ρ',st',k1,k2⟩;cases e with
  | normal =>
   simp only[nk]at k1;simp only[Abs.v8];split at hP2
   ·rename_i lv hl;rw[hl]at k1;obtain⟨ρ2,st2,m1,m2⟩:=bl hF k2 k1;exact hP2.1 R E F hE hF _ _ _ _ _ _ m1 m2
   ·rename_i hl;rw[hl]at k1;exact fg hm htb hO hE hF (c:=b) hP2 k1 k2
  |_=>exact⟨ρ',st',k1,k2⟩
 | .block id a, st, K, r, ρ, L, h, hP, hc, hs => by
  refine Abs.re (Abs.fw ?_ (fg hm htb hO hE hF (c:=a) hP hc hs));rintro e L h ⟨ρ',st',k1,k2⟩;cases e with
  | exit id' =>
   simp only[Bf]at k1;simp only[Abs.uq];by_cases hid:id'=id
   ·subst hid;rw[if_pos (Nat.beq_refl id')]at k1;rw[if_pos rfl];exact⟨ρ',st',k1,k2⟩
   ·rw[if_neg (λhb=>hid (nB hb))]at k1;rw[if_neg hid];exact⟨ρ',st',k1,k2⟩
  |_=>exact⟨ρ',st',k1,k2⟩
 | .cond x a b, st, K, r, ρ, L, h, hP, hc, hs => by
  unfold aY at hP;obtain⟨hP1,hP2⟩:=hP.app;unfold den at hc;split at hc
  ·rename_i p hx;obtain⟨av,h1,h2⟩:=ap    hs.slots hx;obtain⟨u,rfl,h3⟩:=h2.one';rw[h3.bool]at h1;refine Abs.qI      h1 (λe=> ?_) (λe=> ?_)
   ·subst e;have hs:=sw       hs hx;simp only[cT]at hc;split at hP1
    ·rename_i lv hl;rw[hl]at hc;obtain⟨ρ2,st2,m1,m2⟩:=bl hF hs hc;exact hP1.1 R E F hE hF _ _ _ _ _ _ m1 m2
    ·rename_i hl;rw[hl]at hc;exact fg hm htb hO hE hF (c:=a) hP1 hc hs
   ·subst e;have hs:=sw       hs hx;simp only[cF]at hc;split at hP2
    ·rename_i lv hl;rw[hl]at hc;obtain⟨ρ2,st2,m1,m2⟩:=bl hF hs hc;exact hP2.1 R E F hE hF _ _ _ _ _ _ m1 m2
    ·rename_i hl;rw[hl]at hc;exact fg hm htb hO hE hF (c:=b) hP2 hc hs
  ·cases hc
 | .loop a, st, K, r, ρ, L, h, hP, hc, hs => by
  unfold den at hc;split at hc
  ·obtain⟨ρ1,st1,k1,k2⟩:=bl hF hs hc;exact hP.1 R E F hE hF _ _ _ _ _ _ k1 k2
  ·cases hc
 | .region id ⟨ops⟩ false,st,K,r,ρ,L,h,_,hc,hs=>Abs.wh (ml htb hO hE hc hs)
 | .region id ops true, st, K, r, ρ, L, h, hP, hc, hs => by
  unfold aY at hP;unfold den at hc;split at hc
  ·rename_i d hpl;rw[hpl]at hP;simp only at hP;split at hc
   ·cases hc
   ·rename_i π ch rd ho;split at hc
    ·rename_i hp;obtain⟨L2,h2,sh,hs2⟩:=fp (ids:=aG st.L st.H d.fz) hs;simp only at hc;refine Abs.rc sh ?_;obtain⟨Df,Hl,hl,Df',k1,k3,k2,k4⟩:=fQ (F:=⟨h2,ρ,(bF (aG st.L st.H d.fz) st).H⟩) (E:=E) htb hO hE (hs:=[]) hc rfl (λh hm=>by simp at hm;subst hm;exact .refl _);refine⟨λι I a w rel=> ?_⟩;refine Draw.draw (S:=sys P E ⟨h2,ρ,(bF (aG st.L st.H d.fz) st).H⟩ ops (db d.vis (bF (aG st.L st.H d.fz) st).H)) hm π ch rd hp k1 (λa w ⟨_,ρ',L',h',ι',I',q1,q2⟩=>⟨L',h',ι',I',⟨ρ',⟨Df,Hl⟩,k2,⟨k3.enc q1.slots,q1.heap,hs2.fr.trans q1.fr,hs2.xr.keep q1.fr k4⟩⟩,q2⟩) ⟨qU _ _,ρ,L2,h2,ι,I,⟨hs2.slots,hs2.heap,Fr.refl _ _ _⟩,rel⟩
    ·cases hc
   ·rename_i x y l ho;rw[ho]at hP;obtain⟨ρ1,st1,k1,k2⟩:=bl hF hs hc;exact hP.1 R E F hE hF _ _ _ _ _ _ k1 k2
  ·cases hc
omit [Zb]in
theorem jO (hm:P.follows .mixedOrders=true) (htb:TBOK P tb) (hO:dc P O) {an:Ann} {ops:Array Oper} {id:Nat} {o:Outs} {d:Dw} (hp:Abs.mw ops d.cs d.orders=true) {f:(R:Type)->St->Kt R->Option R}
  (hf:∀p∈d.orders,∀(R:Type) (st:St) (K:Kt R) (r:R),f R st K=some r->(λst1:St=>cG tb O an.nt an.im ops (db d.vis st1.H) p.1 p.2.1 p.2.2 [] p.1 st1.L st1.H st1.H λL H=>hU an.refs o K .normal ⟨L,H⟩) (bF (aG st.L st.H d.fz) st)=some r):gr P an (.region id ops true) f:=
 fun R E F hE hF st K r ρ L h hk hs => by
  obtain⟨L2,h2,sh,hs2⟩:=fp (ids:=aG st.L st.H d.fz) hs;refine Abs.rc sh ⟨λι I a w rel=> ?_⟩;refine Draw.drawL (S:=sys P E ⟨h2,ρ,(bF (aG st.L st.H d.fz) st).H⟩ ops (db d.vis (bF (aG st.L st.H d.fz) st).H)) (L:=(bF (aG st.L st.H d.fz) st).L) (h:=(bF (aG st.L st.H d.fz) st).H) hm d.cs d.orders hp (λp hpm=> ?_) ⟨qU _ _,ρ,L2,h2,ι,I,⟨hs2.slots,hs2.heap,Fr.refl _ _ _⟩,rel⟩;obtain⟨Df,Hl,hl,Df',k1,k3,k2,k4⟩:=fQ (F:=⟨h2,ρ,(bF (aG st.L st.H d.fz) st).H⟩) (E:=E) htb hO hE (hs:=[]) (hf p hpm R st K r hk) rfl (λh hm=>by simp at hm;subst hm;exact .refl _);refine⟨Df',Hl,hl,k1,λa w ⟨_,ρ',L',h',ι',I',q1,q2⟩=> ?_⟩;have q3:SR F ρ' ⟨Df,Hl⟩ L' h':=⟨k3.enc q1.slots,q1.heap,hs2.fr.trans q1.fr,hs2.xr.keep q1.fr k4⟩;obtain⟨ρ3,st3,m1,m2⟩:=bl hF q3 k2;exact⟨L',h',ι',I',⟨ρ3,st3,m1,m2⟩,q2⟩
omit [Zb]in
theorem wR (hm:P.follows .mixedOrders=true) (htb:TBOK P tb) (hO:dc P O) {an:Ann} {pc:Pcs} {c:Code} {o:Outs} (hP:AllP P an pc (aY an c)) {f:(R:Type)->St->Kt R->Option R} (hf:∀(R:Type) (st:St) (K:Kt R) (r:R),f R st K=some r->den tb O pc an c st (hU an.refs o K)=some r):gr P an c f:=
 λR _ _ hE hF st K r _ _ _ hk hs=>Abs.fw (λ_ _ _ ⟨_,_,k1,k2⟩=>let⟨ρ2,st2,m1,m2⟩:=bl hF k2 k1;⟨ρ2,st2,m1,m2⟩) (fg hm htb hO hE hF hP (hf R st K r hk) hs)
omit [Zb]in
theorem tM (hm:P.follows .mixedOrders=true) (htb:TBOK P tb) (hO:dc P O) {an:Ann} {pc:Pcs} {c:Code} {lv:List Nat} {o:Outs} (hP:AllP P an pc (aY an c)) {f:Nat->(R:Type)->St->Kt R->Option R} (h0:∀(R:Type) (st:St) (K:Kt R),f 0 R st K=none)
  (hf:∀(n:Nat) (R:Type) (st:St) (K:Kt R) (r:R),f (n+1) R st K=some r->den tb O pc an c st (qq an.refs lv o (λst'=>f n R st' K) K)=some r) (n:Nat):gr P an (.loop c) (f n):=
 fun R E F hE hF st K r ρ L h hk hs => by
  refine Abs.Dn (λm L h=>∃ρ st,f m R st K=some r/\SR F ρ st L h) (Abs.sa L) ⟨ρ,st,hk,hs⟩ ?_;rintro m L h ⟨ρ,st,m1,m2⟩;cases m with
  |zero=>rw[h0]at m1;cases m1
  | succ m =>
   refine Abs.fw ?_ (fg hm htb hO hE hF hP (hf m R st K r m1) m2);rintro e L h ⟨ρ',st',k1,k2⟩;cases e with
   | normal =>
    simp only[qq,nk]at k1;obtain⟨ρ2,st2,q1,q2⟩:=bl hF k2 k1;exact⟨m,L,Nat.lt_succ_self m,Abs.sa L,ρ2,st2,q1,q2⟩
   | _ =>
    simp only[qq,nk,hU]at k1;obtain⟨ρ2,st2,q1,q2⟩:=bl hF k2 k1;exact⟨ρ2,st2,q1,q2⟩
end
end
section
variable [Zb]
def eU :Nat->List AT->List (Nat×AT)
 |_,[]=>[]
 |k,x::xs=>(k,x)::eU (k+1) xs
def Fx (tb:Nat->Option TI) (L:List (Nat×AT)) (H:List Ob):ResultVar->Option AT
 | .tmp t=>L.lookup t
 | .cell a t => match L.lookup a, tb t with
  | some (.one (.p id off)), some ti => match H[id]? with
   |some (.box cs)=>ld ti.agg ti.size (cs.drop off)
   |_=>none
  |_,_=>none
def oY (tb:Nat->Option TI) (L:List (Nat×AT)) (H:List Ob):List ResultVar->Option (List AT)
 |[]=>some []
 | r :: rs => match Fx tb L H r, oY tb L H rs with
  |some v,some vs=>some (v::vs)
  |_,_=>none
def z8 :List AT->AT
 |[x]=>x
 |xs=>.tup xs
def se :List AV->AV
 |[x]=>x
 |xs=>.tup xs
def DK :List AT->List Nat
 |[]=>[]
 | x :: xs => (match cells x with
  |some cs=>cs.flatMap C.rows
  |none=>[])++DK xs
def idsR (tb:Nat->Option TI) (rs:List ResultVar) (st:St):List Nat:=match oY tb st.L st.H rs with
 |some vs=>DK vs
 |none=>[]
def qO (tb:Nat->Option TI) (an:Ann) (rs:List ResultVar) (st:St):Option (AT×List Ob):=
 let st1:=bF (idsR tb rs st) st
 match oY tb st1.L st1.H rs with
 | some vs => match cn [] vs with
  |some us=>ck an.refs [] st1 λst2=>some (z8 us,st2.H)
  |none=>none
 |none=>none
def nL (L:List (Nat×AT)):Nat->Nat->Option (List AT)
 |_,0=>some []
 | k, m + 1 => match L.lookup k, nL L (k + 1) m with
  |some v,some vs=>some (v::vs)
  |_,_=>none
def wv (tb:Nat->Option TI) (an:Ann) (rs:List ResultVar) (st:St):Option (AT×List Ob):=
 match oY tb st.L st.H rs with
 | some vs => ck an.refs (List.range vs.length) ⟨eU 0 vs, st.H⟩ fun st2 => match nL st2.L 0 vs.length with
  |some us=>some (z8 us,st2.H)
  |none=>none
 |none=>none
def j7 {R:Type} (fin:St->Option R):Kt R
 | .normal,st=>fin st
 | .ret,st=>fin st
 |_,_=>none
section
variable {P : Program} {E : Abs.Cx} {F : In} {ρ ρ' : Rho} {H : List Ob} {D : List (Nat × AT)} {L : Env} {h h' : ag} {R : Type} {tb : Nat → Option TI} {O : Orc}
omit [Zb]in
theorem jb :∀{k:Nat} {xs:List AT} {avs:List AV},ATRs ρ H xs avs->EncL ρ H (eU k xs) (Abs.dq k avs)
 |k,[],avs,_=>λt v hv=>by simp[eU]at hv
 | k, x :: xs, avs, hr => by
  obtain⟨av,avs,rfl,r1,r2⟩:=hr.head;intro t v hv;simp only[eU,List.lookup_cons]at hv;simp only[Abs.dq,List.lookup_cons];split at hv
  ·cases hv;exact⟨av,rfl,r1⟩
  ·exact jb r2 t v hv
theorem CN (htb:TBOK P tb) {st:St} (hs:SR F ρ st L h) {rv:ResultVar} {v:AT} (hv:Fx tb st.L st.H rv=some v):∃av,ATR ρ st.H v av/\Abs.C4 P L h rv av:=by
 cases rv with
 | tmp t =>
  obtain⟨av,h1,h2⟩:=hs.slots t v hv;exact⟨av,h2,Abs.yV h1⟩
 | cell a t =>
  unfold Fx at hv;simp only at hv;split at hv
  ·rename_i id off ti h1 h2;split at hv
   ·rename_i cs h3;obtain⟨i,G⟩:=htb.get h2;obtain⟨av,k1,k2⟩:=hs.slots a _ h1;obtain⟨u,rfl,k3⟩:=k2.one';obtain⟨b,rfl,k4⟩:=k3.ptr;obtain⟨b',vs,k5,k6,k7⟩:=hs.heap.box id cs h3;rw[k4]at k5;cases k5;obtain⟨av,k8,k9⟩:=sI hv (k7.drop off);exact⟨av,k9,Abs.xK G.tb k1 G.look k6 rfl (by rw[G.size,G.agg];exact k8)⟩
   ·cases hv
  ·cases hv
theorem nU (htb:TBOK P tb) {st:St} (hs:SR F ρ st L h):∀{rs:List ResultVar} {vs:List AT},oY tb st.L st.H rs=some vs->∃avs,ATRs ρ st.H vs avs/\Abs.ResL P L h rs avs
 |[],vs,hv=>by cases hv;exact⟨[],.nil_,.nil⟩
 | r :: rs, vs, hv => by
  simp only[oY]at hv;split at hv
  ·rename_i x xs h1 h2;cases hv;obtain⟨av,k1,k2⟩:=CN htb hs h1;obtain⟨avs,k3,k4⟩:=nU htb hs h2;exact⟨av::avs,.cons k1 k3,.cons k2 k4⟩
  ·cases hv
theorem Weak.refl (a:List AV):Weak a a:=⟨rfl,λ_ _ _ _ _ _ _ h=>h⟩
theorem sA {fn:Func} {rs:List ResultVar} {avs bvs:List AV} (hr:fn.results=rs.toArray) (k:Abs.ResL P L h rs avs) (hw:Weak avs bvs):Abs.Res P fn L h (se bvs):=
 ⟨fun E ι I a w r => by
  obtain⟨cs,e1,e2,e3⟩:=k.run r;have e0:results fn a.tmps=(do let vs ←rs.toArray.mapM (Abs.rB a.tmps);pure (if h:vs.size=1 then vs[0]else .tuple vs)):=by
   unfold results;rw[hr]
   congr 2
  have e4:∀j (hj:j<bvs.length),∃c,cs[j]? =some c/\Abs.AR ι I w bvs[j] c:=λj hj=>by
   obtain⟨c,g1,g2⟩:=e3 j (by rw[hw.1];exact hj);exact⟨c,g1,hw.2 j _ hj _ _ _ _ g2⟩
  have e2:cs.length=bvs.length:=e2.trans hw.1;rw[e0];simp only[List.mapM_toArray];by_cases h1:cs.length=1
  ·obtain⟨c,rfl⟩:=List.length_eq_one_iff.1 h1;obtain⟨b,rfl⟩:=List.length_eq_one_iff.1 (e2.symm.trans h1);obtain⟨c',g1,g2⟩:=e4 0 (by simp);simp at g1;subst g1;exact⟨c,by simp[e1],g2⟩
  ·refine⟨.tuple cs.toArray,by simp[e1,h1],?_⟩;have hp:se    bvs= .tup bvs:=by
    match bvs,e2 with
    |[],_=>rfl
    |[b],e=>exact absurd e h1
    |b::c::l,_=>rfl
   rw[hp];refine .tup (f:=λj=>(cs[j]?).getD undef) (by simpa using e2) (λj hj=> ?_) (λj hj=> ?_)
   ·obtain⟨c,g1,_⟩:=e4 j hj;simp[g1]
   ·obtain⟨c,g1,g2⟩:=e4 j hj;simpa [g1]using g2⟩
omit [Zb]in
theorem rn {xs:List AT} {avs:List AV} (h:ATRs ρ H xs avs):ATR ρ H (z8 xs) (se avs):=by
 match xs,avs,h with
 |[],[],h=>exact .tup rfl (λj h=>by simp at h)
 |[x],[a],h=>exact h.2 0 (by simp) (by simp)
 |x::y::l,a::b::m,h=>exact .tup h.1 h.2
 |[],a::m,h=>exact absurd h.1 (by simp)
 |x::l,[],h=>exact absurd h.1 (by simp)
 |[x],a::b::m,h=>exact absurd h.1 (by simp)
 |x::y::l,[a],h=>exact absurd h.1 (by simp)
omit [Zb]in
theorem px {H0 H1:List Ob} {ρ0:Rho}:∀{xs ys:List AT} {bvs:List AV},cn H0 xs=some ys->ATRs ρ0 H1 ys bvs->ATRs ρ H ys bvs
 | [], ys, bvs, hp, h => by
  cases hp;have:=h.1;cases bvs with
  |nil=>exact .nil_
  |cons _ _=>simp at this
 | x :: xs, ys, bvs, hp, h => by
  simp only[cn]at hp;split at hp
  ·rename_i y ys' h1 h2;cases hp;obtain⟨av,avs,rfl,r1,r2⟩:=h.head;exact .cons (sY h1 r1) (px h2 r2)
  ·cases hp
omit [Zb]in
theorem mD {L2:List (Nat×AT)}:∀{m k:Nat} {avs:List AV} {us:List AT} {E:Env},EncL ρ H L2 E->(∀j,j<m->∃av,avs[j]? =some av/\∀x,E.lookup (k+j)=some x->x=av)->avs.length=m->nL L2 k m=some us->ATRs ρ H us avs
 | 0, k, avs, us, E, _, _, hl, h => by
  cases h;rw[nZ hl];exact .nil_
 | m + 1, k, avs, us, E, he, hav, hl, h => by
  simp only[nL]at h;split at h
  ·rename_i v vs h1 h2;cases h;cases avs with
   |nil=>simp at hl
   | cons av avs =>
    obtain⟨av',g1,g2⟩:=hav 0 (by omega);simp at g1;subst g1;obtain⟨x,k1,k2⟩:=he k v h1;have:=g2 x (by simpa using k1);subst this;refine .cons k2 (mD he (λj hj=> ?_) (by simpa using hl) h2);obtain⟨y,m1,m2⟩:=hav (j+1) (by omega);exact⟨y,by simpa using m1,λz hz=>m2 z (by rw[<-hz];congr 1;omega)⟩
  ·cases h
omit [Zb]in
theorem xW {L2:List (Nat×AT)} {n:Nat} {avs:List AV} {us:List AT} (he:EncL ρ H L2 (Abs.dq 0 avs)) (hl:n=avs.length) (h:nL L2 0 n=some us):ATRs ρ H us avs:=by
 refine mD he (λj hj=> ?_) hl.symm h;have hlt:j<avs.length:=by omega
 refine⟨avs[j],gE hlt,λx hx=> ?_⟩;have:=(Abs.jq avs 0 (0+j) x hx).2;rw[Nat.zero_add,Nat.sub_zero,gE hlt]at this;cases this;rfl
omit [Zb]in
theorem ET {g:Nat->Option Nat} {x x':Ob} (hm:x.mv g=some x'):evo x x':=by
 cases x with
 | box cs =>
  simp only[Ob.mv]at hm;split at hm
  ·cases hm;exact .inr (.inr (.inl ⟨_,_,rfl,rfl⟩))
  ·cases hm
 |row T n xs=>cases hm;exact evo.refl _
 |map T kvs=>cases hm;exact evo.refl _
 |gone=>cases hm;exact evo.refl _
 |rows T xss ho=>cases hm;exact evo.refl _
omit [Zb]in
theorem Cj {id:Nat} {xs xs':List AT} {H1:List Ob} {avs:List AV} (hr:Ey id (xs,H)=some (xs',H1)) (hp:HpR ρ H h) (hf:Fr F ρ H h) (ha:ATRs ρ H xs avs):∃ρ',HpR ρ' H1 h/\Fr F ρ' H1 h/\ATRs ρ' H1 xs' avs:=by
 unfold Ey at hr;simp only at hr;split at hr
 ·rename_i x hx;split at hr
  ·rename_i H' ys ho hm;cases hr;obtain⟨o1,o2⟩:=kc       ho;have hid:=(gI.1 hx).1;have hidρ:id<ρ.length:=by rw[hp.len];exact hid
   have e1:∀{i:Nat},i≠id->i<H.length->(H.set id .gone++[x])[i]? =H[i]? :=λ{i} hi hl=>by
    rw[aL (by simpa using hl),sN (λe=>hi e.symm)]
   have e2:(H.set id .gone++[x])[id]? =some .gone:=by
    rw[aL (by simpa using hid),sS hid]
   have e3:(H.set id .gone++[x])[H.length]? =some x:=by
    rw[aR (by simp)];simp
   have r1:∀{i:Nat},i<H.length->(ρ++[ρ[id]])[i]? =ρ[i]? :=λ{i} hl=>aL (by rw[hp.len];exact hl)
   have r2:(ρ++[ρ[id]])[H.length]? =ρ[id]? :=by
    rw[aR (by rw[hp.len];omega),hp.len,gE hidρ];simp
   have hmv:oi (λj=>if Nat.beq j id then some H.length else some j) ρ H (ρ++[ρ[id]]) H1:=λi j hg=>by
    simp only at hg;split at hg
    ·rename_i hb;have:=nB hb;subst this;cases hg;refine⟨λz hz=>by rw[r2];exact hz,λz hz=> ?_⟩;rw[hx]at hz;cases hz;obtain⟨y,y1,y2⟩:=o2 _ _ e3;obtain⟨s1,s2,_⟩:=dR       y2;cases x with
     |row T m xs=>exact⟨y,m,y1,λe=>(by cases e),λT m xs e=>by cases e;exact s2 _ _ _ rfl,λT xss ho e=>by cases e⟩
     |rows T xss ho=>exact⟨y,0,y1,s1,λT m xs e=>(by cases e),kq y2⟩
     |gone=>exact⟨y,0,y1,s1,λT m xs e=>(by cases e),λT xss ho e=>by cases e⟩
     |box cs=>exact⟨y,0,y1,s1,λT m xs e=>(by cases e),λT xss ho e=>by cases e⟩
     |map T kvs=>exact⟨y,0,y1,s1,λT m xs e=>(by cases e),λT xss ho e=>by cases e⟩
    ·rename_i hb;cases hg;have hne:i≠id:=λe=>hb (by rw[e];exact Nat.beq_refl id);refine⟨λz hz=>by rw[r1 (by rw[<-hp.len];exact(gI.1 hz).1)];exact hz,λz hz=> ?_⟩;have hl:=(gI.1 hz).1;obtain⟨y,y1,y2⟩:=o2 _ _ ((e1 hne hl).trans hz);obtain⟨s1,s2,_⟩:=dR       y2;cases z with
     |row T m xs=>exact⟨y,m,y1,λe=>(by cases e),λT m xs e=>by cases e;exact s2 _ _ _ rfl,λT xss ho e=>by cases e⟩
     |rows T xss ho=>exact⟨y,0,y1,s1,λT m xs e=>(by cases e),kq y2⟩
     |gone=>exact⟨y,0,y1,s1,λT m xs e=>(by cases e),λT xss ho e=>by cases e⟩
     |box cs=>exact⟨y,0,y1,s1,λT m xs e=>(by cases e),λT xss ho e=>by cases e⟩
     |map T kvs=>exact⟨y,0,y1,s1,λT m xs e=>(by cases e),λT xss ho e=>by cases e⟩
   have hev:Ev ρ H (ρ++[ρ[id]]) H1:=by
    refine⟨λi z hz=>cw hz,λi z hz=> ?_⟩;have hl:=(gI.1 hz).1;by_cases hne:i=id
    ·subst hne;obtain⟨y,y1,y2⟩:=o2 _ _ e2;cases y2;exact⟨_,y1,.inl rfl⟩
    ·obtain⟨y,y1,y2⟩:=o2 _ _ ((e1 hne hl).trans hz);exact⟨y,y1,ET y2⟩
   have hcame:∀(i a:Nat),(ρ++[ρ[id]])[i]? =some (some a)->live H1 i->∃i0,ρ[i0]? =some (some a)/\live H i0/\((i<H.length/\i0=i/\i≠id)\/(i=H.length/\i0=id)):=λi a hi hl=>by
    obtain⟨z,z1,z2⟩:=hl;have hlt:=(gI.1 z1).1;rw[o1]at hlt;simp at hlt;by_cases hL:i<H.length
    ·have hne:i≠id:=λe=>by
      subst e;obtain⟨y,y1,y2⟩:=o2 _ _ e2;cases y2;rw[y1]at z1;cases z1;cases z2
     refine⟨i,by rw[r1 hL]at hi;exact hi,hev.lv hL ⟨z,z1,z2⟩,.inl ⟨hL,rfl,hne⟩⟩
    ·have:i=H.length:=by omega
     subst this;obtain⟨y,y1,y2⟩:=o2 _ _ e3;rw[y1]at z1;cases z1;exact⟨id,by rw[r2]at hi;exact hi,⟨x,hx,by rw[<-eE y2];exact z2⟩,.inr ⟨rfl,rfl⟩⟩
   refine⟨ρ++[ρ[id]],HpR.mk' (by rw[o1];simp[hp.len]) (λi z hz=> ?_) (λi j a h1 h2 l1 l2=> ?_) (λi a h1=> ?_),hf.step hev (Nat.le_refl _) (λi a h1 l1=> ?_) (λ_ _ _=>rfl),?_⟩
   ·have hlt:=(gI.1 hz).1;rw[o1]at hlt;simp at hlt;by_cases hL:i<H.length
    ·by_cases hne:i=id
     ·subst hne;obtain⟨y,y1,y2⟩:=o2 _ _ e2;cases y2;rw[y1]at hz;cases hz;exact .inr (.inr rfl)
     ·obtain⟨y,y1,y2⟩:=o2 _ _ ((e1 hne hL).trans (gE hL));rw[y1]at hz;cases hz;rw[r1 hL];rcases hp.ob (gE hL)with⟨a,w,m1,m2,m3⟩|⟨m1,T,n,m2,m3⟩|m1
      ·exact .inl ⟨a,w,m1,m2,rQ hmv m3 y2⟩
      ·rw[m2]at y2;cases y2;exact .inr (.inl ⟨m1,T,n,rfl,m3⟩)
      ·exact .inr (.inr (by rw[eE y2];exact m1))
    ·have:i=H.length:=by omega
     subst this;obtain⟨y,y1,y2⟩:=o2 _ _ e3;rw[y1]at hz;cases hz;rw[r2];rcases hp.ob hx with⟨a,w,m1,m2,m3⟩|⟨m1,T,n,m2,m3⟩|m1
     ·exact .inl ⟨a,w,m1,m2,rQ hmv m3 y2⟩
     ·rw[m2]at y2;cases y2;exact .inr (.inl ⟨m1,T,n,rfl,m3⟩)
     ·exact .inr (.inr (by rw[eE y2];exact m1))
   ·obtain⟨i0,k1,k2,k3⟩:=hcame i a h1 l1;obtain⟨j0,m1,m2,m3⟩:=hcame j a h2 l2;have:=hp.inj _ _ _ k1 m1 k2 m2;omega
   ·rcases Nat.lt_or_ge i H.length with hL|hL
    ·rw[r1 hL]at h1;exact hp.lt _ _ h1
    ·have hlt:=(gI.1 h1).1;simp at hlt;have:i=H.length:=by have:=hp.len;omega
     subst this;rw[r2]at h1;exact hp.lt _ _ h1
   ·obtain⟨i0,k1,k2,_⟩:=hcame i a h1 l1;exact .inl ⟨i0,k1,k2⟩
   ·obtain⟨h1,h2⟩:=ib hm;exact⟨by rw[h1];exact ha.1,λj k1 k2=>lr hmv (ha.2 j (by omega) k2) (h2 j (by omega) k1)⟩
  ·cases hr
 ·cases hr
omit [Zb]in
theorem v6 :∀{rb:List Nat} {ρ:Rho} {H:List Ob} {xs xs':List AT} {H1:List Ob} {avs:List AV},uC rb (xs,H)=some (xs',H1)->HpR ρ H h->Fr F ρ H h->ATRs ρ H xs avs->∃ρ',HpR ρ' H1 h/\Fr F ρ' H1 h/\ATRs ρ' H1 xs' avs
 |[],ρ,H,xs,xs',H1,avs,hr,hp,hf,ha=>by cases hr;exact⟨ρ,hp,hf,ha⟩
 | id :: rb, ρ, H, xs, xs', H1, avs, hr, hp, hf, ha => by
  simp only[uC]at hr;split at hr
  ·rename_i q hq;obtain⟨ys,H2⟩:=q;obtain⟨ρ1,a1,a2,a3⟩:=Cj hq hp hf ha;exact v6 hr a1 a2 a3
  ·cases hr
theorem sJ {fn:Func} {rs:List ResultVar} {an:Ann} {R:Type} {K:Kt R} {x:R} {S:AT×List Ob->Prop} {fin:St->Option (AT×List Ob)} {h:ag} (htb:TBOK P tb) (hF:(In.mk h ρ H).ok an.refs) (hrs:fn.results=rs.toArray) (hfin:fin=qO tb an rs\/fin=wv tb an rs)
  (hK:∀e st,K e st=some x->∃q,j7 fin e st=some q/\S q) {e:Exit} {L:Env} {h1:ag} (hg:B9 ⟨h,ρ,H⟩ K x e L h1):Abs.zd P fn h (λr h'=>∃q ρ',S q/\ATR ρ' q.2 q.1 r/\HpR ρ' q.2 h'/\Fr ⟨h,ρ,H⟩ ρ' q.2 h') e L h1:=by
 have key:∀{st:St} {ρ':Rho} {L:Env} {h1:ag} {q:AT×List Ob},fin st=some q->S q->SR ⟨h,ρ,H⟩ ρ' st L h1->
   ∃L2 h2 r,Abs.Shift L h1 L2 h2/\Abs.Res P fn L2 h2 r/\Abs.Out h (λr h'=>∃q ρ',S q/\ATR ρ' q.2 q.1 r/\HpR ρ' q.2 h'/\Fr ⟨h,ρ,H⟩ ρ' q.2 h') r h2:=by
  intro st ρ' L h1 q hk hS hs;rcases hfin with rfl|rfl
  ·unfold qO   at hk;obtain⟨L2,h2,sh,hs2⟩:=fp       (ids:=idsR tb rs st) hs;simp only at hk;split at hk
   ·rename_i vs hvs;split at hk
    ·rename_i us hus;obtain⟨avs',a1,a2⟩:=nU htb hs2 hvs;obtain⟨bvs,b1,b2,b3⟩:=gU hus a1;obtain⟨ρ2,st2,c1,c2⟩:=bl hF hs2 hk;cases c1;exact⟨L2,h2,se bvs,sh,sA hrs a2 b3,.inl ⟨_,ρ2,hS,rn (px hus b1),c2.heap,c2.fr⟩⟩
    ·cases hk
   ·cases hk
  ·unfold wv   at hk;split at hk
   ·rename_i vs hvs;obtain⟨avs',a1,a2⟩:=nU       htb hs hvs;have hs':SR ⟨h,ρ,H⟩ ρ' ⟨eU    0 vs,st.H⟩ (Abs.dq     0 avs') h1:=⟨jb        a1,hs.heap,hs.fr,hs.xr⟩;obtain⟨ρ2,st2,c1,c2⟩:=bl          hF hs' hk;split at c1
    ·rename_i us hus;cases c1;exact⟨L,h1,se avs',.refl _ _,sA hrs a2 (Weak.refl _),.inl ⟨_,ρ2,hS,rn (xW c2.slots a1.1 hus),c2.heap,c2.fr⟩⟩
    ·cases c1
   ·cases hk
 obtain⟨ρ',st',k0,k2⟩:=hg;obtain⟨q,k1,hS⟩:=hK _ _ k0;cases e with
 |normal=>exact key k1 hS k2
 |ret=>exact key k1 hS k2
 |_=>cases k1
omit [Zb]in
theorem nq {f:FuncId} {fn:Func} {c:Code} {rs:List ResultVar} {an:Ann} {pc:Pcs} {xs xs':List AT} {R:Type} {K:Kt R} {x:R} {S:AT×List Ob->Prop} {H1:List Ob} {rb:List Nat} {fin:St->Option (AT×List Ob)} (hm:P.follows .mixedOrders=true) (htb:TBOK P tb) (hO:dc P O) (hf:P.funcs[f]? =some fn) (hb:fn.body=some c) (hname:(fn.name== "runtime.NumGoroutine")=false)
  (hnt:Nat.beq fn.ntmps an.nt=true) (hx:Nat.ble xs.length an.nt=true) (hr:Nat.beq an.refs H.length=true) (hrs:fn.results=rs.toArray) (hfin:fin=qO tb an rs\/fin=wv tb an rs)
  (hP:AllP P an pc (aY an c)) (hrb:uC rb (xs,H)=some (xs',H1)) (hnr:(H1.all λo=> !o.isRows)=true) (hd:den tb O pc an c ⟨eU 0 xs',H1⟩ K=some x) (hK:∀e st,K e st=some x->∃q,j7 fin e st=some q/\S q):ue P f xs H S:=by
 have hnt:=nB hnt;have hx:=Nat.le_of_ble_eq_true hx;have hr:=nB hr;intro ρ h avs hp ha;refine Abs.Bb hf hb hname (by rw[hnt,<-ha.1];exact hx) λE hE=> ?_;have hF:(In.mk h ρ H).ok an.refs:=⟨by rw[hr];exact hp.len,hr.symm⟩;obtain⟨ρ1,g1,g2,g3⟩:=v6 hrb hp (Fr.refl ρ H h) ha;exact Abs.fw (λ_ _ _ k=>sJ htb hF hrs hfin hK k) (fg (F:=⟨h,ρ,H⟩) hm htb hO (hE.trans hnt) hF hP hd ⟨jb g3,g1,g2,XR.none_ λid y hy=>by have:=aT.1 hnr y (mG hy);simpa using this⟩)
omit [Zb]in
theorem pz {f:FuncId} {fn:Func} {c:Code} {rs:List ResultVar} {an:Ann} {pc:Pcs} {xs xs':List AT} {v:AT} {H1 H':List Ob} {rb:List Nat} {fin:St->Option (AT×List Ob)} (hm:P.follows .mixedOrders=true) (htb:TBOK P tb) (hO:dc P O) (hf:P.funcs[f]? =some fn) (hb:fn.body=some c) (hname:(fn.name== "runtime.NumGoroutine")=false)
  (hnt:Nat.beq fn.ntmps an.nt=true) (hx:Nat.ble xs.length an.nt=true) (hr:Nat.beq an.refs H.length=true) (hrs:fn.results=rs.toArray) (hfin:fin=qO tb an rs\/fin=wv tb an rs)
  (hP:AllP P an pc (aY an c)) (hrb:uC rb (xs,H)=some (xs',H1)) (hnr:(H1.all λo=> !o.isRows)=true) (hd:den tb O pc an c ⟨eU 0 xs',H1⟩ (j7 fin)=some (v,H')):CFn P f xs H v H':=λρ h avs hp ha=>
 (nq (S:=λq=>q=(v,H')) hm htb hO hf hb hname hnt hx hr hrs hfin hP hrb hnr hd (λ_ _ k=>⟨_,k,rfl⟩) ρ h avs hp ha).mono λ_ _ ⟨q,ρ',e,m⟩=>by subst e;exact⟨ρ',m⟩
end
end
end Go.Proofs.YtfdkldmkbibknaaGreat.Den
namespace Go.Proofs.YtfdkldmkbibknaaGreat.Den
open Go.RowKit
open Abs (V AV VR)
def fixC :Option Ty->C->C
 |some T,.zs=>.l T []
 |_,c=>c
def F5 :List (Option Ty)->List C->List C
 |t::ts,c::cs=>fixC t c::F5 ts cs
 |_,cs=>cs
open Classical in
noncomputable def od {α R:Type} (S:α->Prop) (k:α->Option R):Option R:=if h:∃r,(∃a,S a)/\∀a,S a->k a=some r then some h.choose else none
theorem sd {α R:Type} {S:α->Prop} {k:α->Option R} {r:R} (h:od S k=some r):(∃a,S a)/\∀a,S a->k a=some r:=by
 unfold od at h;split at h
 ·rename_i hh;cases h;exact hh.choose_spec
 ·cases h
theorem qD {α R:Type} {S:α->Prop} {k:α->Option R} {r:R} (h0:∃a,S a) (h:∀a,S a->k a=some r):od S k=some r:=by
 unfold od;have hh:∃r,(∃a,S a)/\∀a,S a->k a=some r:=⟨r,h0,h⟩;rw[dif_pos hh];obtain⟨a,ha⟩:=h0;have:=hh.choose_spec.2 a ha;rw[h a ha]at this;exact this.symm
open Classical in
noncomputable def ie (p:Prop):Option Unit:=if p then some ()else none
theorem iP {p:Prop} (h:p):ie p=some ():=if_pos h
theorem ma {p:Prop} {x:Unit} (h:ie p=some x):p:=by
 unfold ie at h;split at h
 ·assumption
 ·cases h
theorem okR {P:Program} {f:FuncId} {β R:Type} {xs:List AT} {H:List Ob} {S:β->Prop} {K:AT->List Ob->Option R} {x:R} {v:β->AT} {H':β->List Ob} (hc:od S (λr=>K (v r) (H' r))=some x) (hk:(∃a,S a)->ue P f xs H (λq=>∃a,S a/\q=(v a,H' a))):
  ∃S',(∀q,S' q->K q.1 q.2=some x)/\ue P f xs H S':=⟨_,by rintro q ⟨a,h,rfl⟩;exact(sd hc).2 a h,hk (sd hc).1⟩
def Dt :List AT->Nat
 | .one (.s b)::_=>match b.data.toList with
  |c::_=>c.toNat
  |[]=>0
 |_=>0
def CG (n:Nat) (a b:Ent):Ent:=⟨a.f,a.mode,a.arg,λR xs H K=>bif Nat.blt (Dt xs) n then a.call R xs H K else b.call R xs H K⟩
theorem vY {P:Program} {n:Nat} {a b:Ent} (hf:b.f=a.f) (ha:oO P a) (hb:oO P b):oO P (CG n a b):=λR xs H K r hc=>by
 unfold CG at hc;cases hq:Nat.blt (Dt xs) n with
 |true=>simp only[hq,cT]at hc;exact ha R xs H K r hc
 | false =>
  simp only[hq,cF]at hc;obtain⟨v,H',k1,k2⟩:=hb R xs H K r hc;exact⟨v,H',k1,hf▸k2⟩
end Go.Proofs.YtfdkldmkbibknaaGreat.Den
namespace Go.Proofs.YtfdkldmkbibknaaGreat.Den
open Go.RowKit
def tz (t:Nat):Nat×TI:=(t,⟨1,false,[.z],[],none,false,false,false,none,none⟩)
def tl (t:Nat) (e:Ty):Nat×TI:=(t,⟨1,false,[.nil e],[],some e,false,false,false,none,none⟩)
def ta (t n:Nat) (z:List C) (f:List (Nat×Nat×Nat)):Nat×TI:=(t,⟨n,true,z,f,none,false,false,false,none,none⟩)
def tbl :List (Nat×TI):=[
 tz 1,(2,⟨1,false,[.i 0],[],none,false,true,false,some .i64,none⟩),(3,⟨1,false,[.i 0],[],none,false,true,false,some .i64,none⟩),(4,⟨1,false,[.b false],[],none,false,false,true,none,none⟩),(5,⟨1,false,[.k .u8 0],[],none,false,false,false,some .u8,none⟩),(6,⟨1,false,[.k .u8 0],[],none,false,false,false,some .u8,none⟩),ta 7 4 [.i 0,.i 0,.b false,.k .u8 0] [(0,2,1),(1,3,1),(2,4,1),(3,6,1)],ta 8 4 [.i 0,.i 0,.b false,.k .u8 0] [(0,2,1),(1,3,1),(2,4,1),(3,6,1)],(9,⟨1,false,[.s ByteArray.empty],[],none,true,false,false,none,none⟩),(10,⟨1,false,[.s ByteArray.empty],[],none,true,false,false,none,none⟩),(11,⟨1,false,[.s ByteArray.empty],[],none,true,false,false,none,none⟩),(12,⟨1,false,[.k .u64 0],[],none,false,false,false,some .u64,none⟩),ta 13 2 [.s ByteArray.empty,.k .u64 0] [(0,9,1),(1,12,1)],ta 14 2 [.s ByteArray.empty,.k .u64 0] [(0,9,1),(1,12,1)],tz 15,tz 16,tz 17,ta 18 1 [.z] [(0,17,1)],ta 19 1 [.z] [(0,17,1)],(21,⟨1,false,[.k .i32 0],[],none,false,false,false,some .i32,none⟩),tl 22 .s,tl 23 (.n 5),ta 24 2 [.nil .s,.nil (.n 5)] [(0,22,1),(1,23,1)],ta 25 2 [.nil .s,.nil (.n 5)] [(0,22,1),(1,23,1)],tl 26 (.n 8),ta 27 3 [.nil .s,.nil (.n 5),.nil (.n 8)] [(0,25,2),(2,26,1)],ta 28 3 [.nil .s,.nil (.n 5),.nil (.n 8)] [(0,25,2),(2,26,1)],tz 29,tl 30 (.n 1),ta 31 4 [.i 0,.s ByteArray.empty,.i 0,.nil (.n 1)] [(0,3,1),(1,9,1),(2,3,1),(3,30,1)],ta 32 4 [.i 0,.s ByteArray.empty,.i 0,.nil (.n 1)] [(0,3,1),(1,9,1),(2,3,1),(3,30,1)],tz 34,tl 35 (.n 5),ta 36 2 [.nil .s,.nil (.n 5)] [(0,22,1),(1,35,1)],ta 37 2 [.nil .s,.nil (.n 5)] [(0,22,1),(1,35,1)],tl 38 (.n 8),ta 39 3 [.nil .s,.nil (.n 5),.nil (.n 8)] [(0,37,2),(2,38,1)],ta 40 3 [.nil .s,.nil (.n 5),.nil (.n 8)] [(0,37,2),(2,38,1)],tz 41,tz 42,tz 43,tz 44,tz 45,tz 46,tl 47 .u,tz 48,tz 50,tz 51,tz 52,tz 53,tz 54,ta 55 6 [.nil .s,.nil (.n 5),.nil (.n 8),.s ByteArray.empty,.i 0,.b false] [(0,40,3),(3,9,1),(4,3,1),(5,4,1)],ta 56 6 [.nil .s,.nil (.n 5),.nil (.n 8),.s ByteArray.empty,.i 0,.b false] [(0,40,3),(3,9,1),(4,3,1),(5,4,1)],tz 57,tz 58,tz 59,tz 60,tz 61,tz 62,tz 63,tz 65,ta 66 3 [.z,.s ByteArray.empty,.i 0] [(0,63,1),(1,9,1),(2,3,1)],ta 67 3 [.z,.s ByteArray.empty,.i 0] [(0,63,1),(1,9,1),(2,3,1)],tz 68,tz 69,tz 70,tz 71,tz 72,tz 73,tz 74,tz 75,tz 76,tz 77,tz 78,tz 79,tz 80,tz 81,tl 82 (.n 7),ta 83 5 [.s ByteArray.empty,.nil (.n 7),.b false,.b false,.i 0] [(0,9,1),(1,82,1),(2,4,1),(3,4,1),(4,3,1)],ta 84 5 [.s ByteArray.empty,.nil (.n 7),.b false,.b false,.i 0] [(0,9,1),(1,82,1),(2,4,1),(3,4,1),(4,3,1)],tz 85,tz 86,tl 87 (.n 7),ta 88 5 [.s ByteArray.empty,.nil (.n 7),.b false,.b false,.i 0] [(0,9,1),(1,87,1),(2,4,1),(3,4,1),(4,3,1)],ta 89 5 [.s ByteArray.empty,.nil (.n 7),.b false,.b false,.i 0] [(0,9,1),(1,87,1),(2,4,1),(3,4,1),(4,3,1)],tz 90,tz 91,tz 92,tz 93,tz 94,tz 95,tz 96,tz 97,tz 98,tz 99,tz 100,tl 101 .i,ta 102 3 [.nil .i,.nil .i,.nil .i] [(0,101,1),(1,101,1),(2,101,1)],ta 103 3 [.nil .i,.nil .i,.nil .i] [(0,101,1),(1,101,1),(2,101,1)],tz 105,(106,⟨1,false,[.z],[],none,false,false,false,none,some .i⟩),ta 107 7 [.nil .i,.nil .i,.nil .i,.nil .s,.nil (.n 5),.nil (.n 8),.z] [(0,103,3),(3,40,3),(6,106,1)],ta 108 7 [.nil .i,.nil .i,.nil .i,.nil .s,.nil (.n 5),.nil (.n 8),.z] [(0,103,3),(3,40,3),(6,106,1)],tz 109,tz 110,tz 111,tz 112,tz 113,tz 114,tz 115,tz 116,tz 117,tz 118,tz 119,tz 120,tz 121,tz 122,tz 123,tz 124,tz 125,tz 126,tz 127,tz 128,tz 129,tz 130,tz 131,tz 132,ta 133 2 [.i 0,.i 0] [(0,3,1),(1,3,1)],ta 134 2 [.i 0,.i 0] [(0,3,1),(1,3,1)],tz 135,tz 136,ta 137 2 [.nil .i,.i 0] [(0,101,1),(1,3,1)],ta 138 2 [.nil .i,.i 0] [(0,101,1),(1,3,1)],tz 139,tz 140,tz 141,tz 142,ta 143 2 [.i 0,.i 0] [(0,3,1),(1,3,1)],tz 144,(145,⟨1,false,[.z],[],none,false,false,false,none,some .b⟩),tz 146,tz 147,tz 148,tz 149,tz 150,tz 151,tz 152,tz 153,tz 154,tz 155,ta 156 3 [.nil .u,.i 0,.i 0] [(0,47,1),(1,3,1),(2,3,1)],ta 157 3 [.nil .u,.i 0,.i 0] [(0,47,1),(1,3,1),(2,3,1)],tz 158,tz 159,tz 160,tz 161,tz 162,ta 163 2 [.z,.nil .u] [(0,162,1),(1,47,1)],ta 164 2 [.z,.nil .u] [(0,162,1),(1,47,1)],tz 165,tz 169,tz 170,ta 171 2 [.nil .i,.i 0] [(0,101,1),(1,3,1)],tz 172,(173,⟨1,false,[.k .u64 0],[],none,false,false,false,some .u64,none⟩),tz 174,tz 175,tz 176,tz 177,tz 178,tz 179,tz 180,tz 181,tz 182,tz 183,tz 184,tz 185,tz 186,tz 187,tz 189,tz 190,ta 191 4 [.z,.z,.z,.s ByteArray.empty] [(0,17,1),(1,17,1),(2,17,1),(3,9,1)],ta 192 4 [.z,.z,.z,.s ByteArray.empty] [(0,17,1),(1,17,1),(2,17,1),(3,9,1)],tz 196,(197,⟨1,false,[.k .u32 0],[],none,false,false,false,some .u32,none⟩),(198,⟨1,false,[.k .u8 0],[],none,false,false,false,some .u8,none⟩),(199,⟨1,false,[.k .u8 0],[],none,false,false,false,some .u8,none⟩),tz 200,(201,⟨1,false,[.k .i32 0],[],none,false,false,false,some .i32,none⟩),(202,⟨1,false,[.k .i32 0],[],none,false,false,false,some .i32,none⟩),ta 203 11 [.k .u64 0,.k .u64 0,.k .u32 0,.k .u8 0,.k .u8 0,.k .u8 0,.k .u8 0,.z,.z,.k .i32 0,.k .i32 0] [(0,12,1),(1,12,1),(2,197,1),(3,198,1),(4,5,1),(5,5,1),(6,199,1),(7,200,1),(8,183,1),(9,201,1),(10,202,1)],ta 204 11 [.k .u64 0,.k .u64 0,.k .u32 0,.k .u8 0,.k .u8 0,.k .u8 0,.k .u8 0,.z,.z,.k .i32 0,.k .i32 0] [(0,12,1),(1,12,1),(2,197,1),(3,198,1),(4,5,1),(5,5,1),(6,199,1),(7,200,1),(8,183,1),(9,201,1),(10,202,1)]]
def tb (t:Nat):Option TI:=tbl.lookup t
noncomputable def Gk:Bool:=tbl.all λp=>match Abs.qi Tryz.prog p.1 with
 |some i=>EP i p.2&&vw Tryz.prog p.1 p.2
 |none=>false
noncomputable def sj {α β:Type} (o:Option α) (a:β) (f:α->β):β:=match o with
 |none=>a
 |some x=>f x
theorem tQ :Gk=true:=by kernel_rfl
theorem mixed :Tryz.prog.follows .mixedOrders=true:=by kernel_rfl
theorem de :TBOK Tryz.prog tb:=λt ti h=>by
 have hm:(t,ti)∈tbl:=nE h;have:=aT.1 tQ _ hm;simp only at this;split at this
 ·rename_i i hi;rw[bA]at this;exact⟨i,hi,this.1,this.2⟩
 ·cases this
theorem apl {an:Ann} {pc:Pcs} {c:Code} (l:List (Nat×Nat×Code)) (h:AllP Tryz.prog an pc l) (e:aY an c=l:=by kernel_rfl):AllP Tryz.prog an pc (aY an c):=by rw[e];exact h
theorem lpc {L:List Ent} (hG:AllE Tryz.prog L) {an:Ann} (pc:Pcs) {c:Code} (lv:List Nat) (o:Outs) (hP:AllP Tryz.prog an pc (aY an c)) {f:Nat->(R:Type)->St->Kt R->Option R} (h0:∀(R:Type) (st:St) (K:Kt R),f 0 R st K=none)
  (hf:∀(n:Nat) (R:Type) (st:St) (K:Kt R) (r:R),f (n+1) R st K=some r->den tb (ca L) pc an c st (qq an.refs lv o (λst'=>f n R st' K) K)=some r):∀n,gr Tryz.prog an (.loop c) (f n):=tM mixed de (cB hG) hP h0 hf
theorem cpc {L:List Ent} (hG:AllE Tryz.prog L) {an:Ann} (pc:Pcs) {c:Code} (o:Outs) (hP:AllP Tryz.prog an pc (aY an c)) {f:(R:Type)->St->Kt R->Option R}
  (hf:∀(R:Type) (st:St) (K:Kt R) (r:R),f R st K=some r->den tb (ca L) pc an c st (hU an.refs o K)=some r):gr Tryz.prog an c f:=wR mixed de (cB hG) hP hf
theorem okL {P:Program} {f:FuncId} {β R:Type} {xs:List AT} {H:List Ob} {o:Option β} {K:AT->List Ob->Option R} {x:R} {v:β->AT} {H':β->List Ob} (hc:Option.bind o (λr=>K (v r) (H' r))=some x) (hk:∀r,o=some r->CFn P f xs H (v r) (H' r)):∃v' H'',K v' H''=some x/\CFn P f xs H v' H'':=
 let⟨r,a,b⟩:=bind_some hc
 ⟨_,_,b,hk r a⟩
theorem rF {L:List Ent} (hG:AllE Tryz.prog L) {f:FuncId} {fn:Func} (an:Ann) (pc:Pcs) (rb:List Nat) {xs xs2:List AT} {v:AT} {H H2 H':List Ob} {M:Option (AT×List Ob)} (hf:Tryz.prog.funcs[f]? =some fn) (hd:M=some (v,H')) (hP:AllP Tryz.prog an pc (aY an (aj fn)):=by exact apl [] trivial)
  (he:den tb (ca L) pc an (aj fn) ⟨eU 0 xs2,H2⟩ (j7 (qO tb an fn.results.toList))=M:=by kernel_rfl) (hb:fn.body=some (aj fn):=by kernel_rfl) (hname:(fn.name== "runtime.NumGoroutine")=false:=by kernel_rfl) (hnt:Nat.beq fn.ntmps an.nt=true:=by kernel_rfl)
  (hx:Nat.ble xs.length an.nt=true:=by kernel_rfl) (hr:Nat.beq an.refs H.length=true:=by kernel_rfl) (hrb:uC rb (xs,H)=some (xs2,H2):=by kernel_rfl) (hnr:(H2.all λo=> !o.isRows)=true:=by kernel_rfl):CFn Tryz.prog f xs H v H':=
 pz mixed de (cB hG) hf hb hname hnt hx hr (Array.toArray_toList).symm (.inl rfl) hP hrb hnr (he.trans hd)
theorem rR {L:List Ent} (hG:AllE Tryz.prog L) {f:FuncId} {fn:Func} (an:Ann) (pc:Pcs) (rb:List Nat) {xs xs2:List AT} {v:AT} {H H2 H':List Ob} {M:Option (AT×List Ob)} (hf:Tryz.prog.funcs[f]? =some fn) (hd:M=some (v,H')) (hP:AllP Tryz.prog an pc (aY an (aj fn)):=by exact apl [] trivial)
  (he:den tb (ca L) pc an (aj fn) ⟨eU 0 xs2,H2⟩ (j7 (wv tb an fn.results.toList))=M:=by kernel_rfl) (hb:fn.body=some (aj fn):=by kernel_rfl) (hname:(fn.name== "runtime.NumGoroutine")=false:=by kernel_rfl) (hnt:Nat.beq fn.ntmps an.nt=true:=by kernel_rfl)
  (hx:Nat.ble xs.length an.nt=true:=by kernel_rfl) (hr:Nat.beq an.refs H.length=true:=by kernel_rfl) (hrb:uC rb (xs,H)=some (xs2,H2):=by kernel_rfl) (hnr:(H2.all λo=> !o.isRows)=true:=by kernel_rfl):CFn Tryz.prog f xs H v H':=
 pz mixed de (cB hG) hf hb hname hnt hx hr (Array.toArray_toList).symm (.inr rfl) hP hrb hnr (he.trans hd)
theorem fF {L:List Ent} (hG:AllE Tryz.prog L) {f:FuncId} {fn:Func} (an:Ann) (pc:Pcs) {xs:List AT} {v:AT} {H H':List Ob} {M:Option (AT×List Ob)} (hf:Tryz.prog.funcs[f]? =some fn) (hd:M=some (v,H')) (hP:AllP Tryz.prog an pc (aY an (aj fn)):=by exact apl [] trivial)
  (he:den tb (ca L) pc an (aj fn) ⟨eU 0 xs,H⟩ (j7 (qO tb an fn.results.toList))=M:=by kernel_rfl) (hb:fn.body=some (aj fn):=by kernel_rfl) (hname:(fn.name== "runtime.NumGoroutine")=false:=by kernel_rfl) (hnt:Nat.beq fn.ntmps an.nt=true:=by kernel_rfl)
  (hx:Nat.ble xs.length an.nt=true:=by kernel_rfl) (hr:Nat.beq an.refs H.length=true:=by kernel_rfl) (hnr:(H.all λo=> !o.isRows)=true:=by kernel_rfl):CFn Tryz.prog f xs H v H':=rF hG an pc [] hf hd hP he hb hname hnt hx hr rfl hnr
theorem fR {L:List Ent} (hG:AllE Tryz.prog L) {f:FuncId} {fn:Func} (an:Ann) (pc:Pcs) {xs:List AT} {v:AT} {H H':List Ob} {M:Option (AT×List Ob)} (hf:Tryz.prog.funcs[f]? =some fn) (hd:M=some (v,H')) (hP:AllP Tryz.prog an pc (aY an (aj fn)):=by exact apl [] trivial)
  (he:den tb (ca L) pc an (aj fn) ⟨eU 0 xs,H⟩ (j7 (wv tb an fn.results.toList))=M:=by kernel_rfl) (hb:fn.body=some (aj fn):=by kernel_rfl) (hname:(fn.name== "runtime.NumGoroutine")=false:=by kernel_rfl) (hnt:Nat.beq fn.ntmps an.nt=true:=by kernel_rfl)
  (hx:Nat.ble xs.length an.nt=true:=by kernel_rfl) (hr:Nat.beq an.refs H.length=true:=by kernel_rfl) (hnr:(H.all λo=> !o.isRows)=true:=by kernel_rfl):CFn Tryz.prog f xs H v H':=rR hG an pc [] hf hd hP he hb hname hnt hx hr rfl hnr
theorem gF {L:List Ent} (hG:AllE Tryz.prog L) {f:FuncId} {fn:Func} (an:Ann) (pc:Pcs) {xs:List AT} {H:List Ob} {S:AT×List Ob->Prop} {M:Option Unit} (hf:Tryz.prog.funcs[f]? =some fn) (hd:M=some ()) (hP:AllP Tryz.prog an pc (aY an (aj fn)):=by exact apl [] trivial)
  (he:den tb (ca L) pc an (aj fn) ⟨eU 0 xs,H⟩ (λe st=>Option.bind (j7 (qO tb an fn.results.toList) e st) λq=>ie (S q))=M:=by kernel_rfl) (hb:fn.body=some (aj fn):=by kernel_rfl) (hname:(fn.name== "runtime.NumGoroutine")=false:=by kernel_rfl) (hnt:Nat.beq fn.ntmps an.nt=true:=by kernel_rfl)
  (hx:Nat.ble xs.length an.nt=true:=by kernel_rfl) (hr:Nat.beq an.refs H.length=true:=by kernel_rfl) (hnr:(H.all λo=> !o.isRows)=true:=by kernel_rfl):ue Tryz.prog f xs H S:=
 nq (rb:=[]) mixed de (cB hG) hf hb hname hnt hx hr (Array.toArray_toList).symm (.inl rfl) hP rfl hnr (he.trans hd) λe st k=>let⟨q,k1,k2⟩:=bind_some k;⟨q,k1,ma k2⟩
abbrev LM :=List (ByteArray×Int)
abbrev LB :=List ByteArray
abbrev LI :=List Int
abbrev LO :=List Opr
abbrev LS :=List Sb
abbrev LD :=List Dc
abbrev LT :=List Tm
def nK (R:Type) (_:Nat) (_:St) (_:Kt R):Option R:=none
def nP :Pcs:=⟨nK,nK,nK⟩
namespace z1a
abbrev Q :=Sg->ByteArray->Option (Bool)
noncomputable def ent (g:Q):Ent:=⟨3,0,[0,0],λ_ xs H K=>match xs,H with
 |[.agg [.l .s a,.l (.n 5) a2,.l (.n 8) a3],.one (.s a4)],[]=>Option.bind (g (Sg.mk (So.mk a a2) a3) a4) λr=>K (.one (.b r)) []
 |_,_=>none⟩
end z1a
namespace z1b
abbrev Q :=LI->Option (Bool)
noncomputable def ent (g:Q):Ent:=⟨4,0,[0],λ_ xs H K=>match xs,H with
 |[.one (.l .u a)],[]=>Option.bind (g a) λr=>K (.one (.b r)) []
 |_,_=>none⟩
end z1b
namespace z28
abbrev Q :=Sg->Int->Option (Int)
noncomputable def ent (g:Q):Ent:=⟨5,0,[0,0],λ_ xs H K=>match xs,H with
 |[.agg [.l .s a,.l (.n 5) a2,.l (.n 8) a3],.one (.i a4)],[]=>Option.bind (g (Sg.mk (So.mk a a2) a3) a4) λr=>K (.one (.i r)) []
 |_,_=>none⟩
end z28
namespace z30
abbrev Q :=Sg->ByteArray->Option (Tm×Bool)
end z30
namespace z2h
abbrev Q :=Sg->Option (Sg)
noncomputable def ent (g:Q):Ent:=⟨7,1,[0],λ_ xs H K=>match xs,H with
 |[.agg [.l .s a,.l (.n 5) a2,.l (.n 8) a3]],[]=>Option.bind (g (Sg.mk (So.mk a a2) a3)) λr=>K (.agg [.l .s (So.names (Sg.sorts r)),.l (.n 5) (So.subs (Sg.sorts r)),.l (.n 8) (Sg.ops r)]) []
 |_,_=>none⟩
end z2h
namespace z0g
abbrev Q :=Sg->ByteArray->Option (Tm×Bool)
noncomputable def ent (g:Q):Ent:=⟨8,1,[0,0],λ_ xs H K=>match xs,H with
 |[.agg [.l .s a,.l (.n 5) a2,.l (.n 8) a3],.one (.s a4)],[]=>Option.bind (g (Sg.mk (So.mk a a2) a3) a4) λr=>K (.tup [.agg [.i (Tm.op r.1),.s (Tm.name r.1),.i (Tm.sort r.1),.l (.n 1) (Tm.args r.1)],.one (.b r.2)]) []
 |_,_=>none⟩
end z0g
namespace z1n
abbrev Q :=Tm->Tm->Option (Bool)
noncomputable def ent (g:Q):Ent:=⟨9,0,[0,0],λ_ xs H K=>match xs,H with
 |[.agg [.i a,.s a2,.i a3,.l (.n 1) a4],.agg [.i a5,.s a6,.i a7,.l (.n 1) a8]],[]=>Option.bind (g (Tm.mk a a2 a3 a4) (Tm.mk a5 a6 a7 a8)) λr=>K (.one (.b r)) []
 |_,_=>none⟩
end z1n
namespace z1i
abbrev Q :=Sg->Sg->Option (Bool)
end z1i
namespace z1u
abbrev Q :=Sg->Int->Option (Int)
end z1u
namespace z1y
abbrev Q :=Tm->Int->Option (Int)
noncomputable def ent (g:Q):Ent:=⟨12,0,[0,0],λ_ xs H K=>match xs,H with
 |[.agg [.i a,.s a2,.i a3,.l (.n 1) a4],.one (.i a5)],[]=>Option.bind (g (Tm.mk a a2 a3 a4) a5) λr=>K (.one (.i r)) []
 |_,_=>none⟩
end z1y
namespace z1p
abbrev Q :=Tm->Int->Option (Int)
end z1p
namespace z1c
abbrev Q :=LI->Option (Bool)
noncomputable def ent (g:Q):Ent:=⟨14,0,[0],λ_ xs H K=>match xs,H with
 |[.one (.l .u a)],[]=>Option.bind (g a) λr=>K (.one (.b r)) []
 |_,_=>none⟩
end z1c
namespace z2q
abbrev Q :=LI->(Sg×Tm)->Prop
noncomputable def ent (g:Q):Ent:=⟨15,3,[0],λ_ xs H K=>match xs,H with
 |[.one (.l .u a)],[]=>od (g a) λr=>K (.tup [.agg [.l .s (So.names (Sg.sorts r.1)),.l (.n 5) (So.subs (Sg.sorts r.1)),.l (.n 8) (Sg.ops r.1)],.agg [.i (Tm.op r.2),.s (Tm.name r.2),.i (Tm.sort r.2),.l (.n 1) (Tm.args r.2)]]) []
 |_,_=>none⟩
end z2q
namespace z08
abbrev Q :=Sg->Tm->Option (ByteArray)
noncomputable def ent (g:Q):Ent:=⟨16,0,[0,0],λ_ xs H K=>match xs,H with
 |[.agg [.l .s a,.l (.n 5) a2,.l (.n 8) a3],.agg [.i a4,.s a5,.i a6,.l (.n 1) a7]],[]=>Option.bind (g (Sg.mk (So.mk a a2) a3) (Tm.mk a4 a5 a6 a7)) λr=>K (.one (.s r)) []
 |_,_=>none⟩
end z08
namespace z2y
abbrev Q :=Sg->Tm->Option (Bool)
noncomputable def ent (g:Q):Ent:=⟨17,0,[0,0],λ_ xs H K=>match xs,H with
 |[.agg [.l .s a,.l (.n 5) a2,.l (.n 8) a3],.agg [.i a4,.s a5,.i a6,.l (.n 1) a7]],[]=>Option.bind (g (Sg.mk (So.mk a a2) a3) (Tm.mk a4 a5 a6 a7)) λr=>K (.one (.b r)) []
 |_,_=>none⟩
end z2y
namespace z22
abbrev Q :=Tm->Tm->Option (Bool)
noncomputable def ent (g:Q):Ent:=⟨18,0,[0,0],λ_ xs H K=>match xs,H with
 |[.agg [.i a,.s a2,.i a3,.l (.n 1) a4],.agg [.i a5,.s a6,.i a7,.l (.n 1) a8]],[]=>Option.bind (g (Tm.mk a a2 a3 a4) (Tm.mk a5 a6 a7 a8)) λr=>K (.one (.b r)) []
 |_,_=>none⟩
end z22
namespace z29
abbrev Q :=So->Int->Option (Int)
end z29
namespace z27
abbrev Q :=LO->Int->Option (Int)
end z27
namespace z2u
abbrev Q :=Sg->Option (Bool)
noncomputable def ent (g:Q):Ent:=⟨21,0,[0],λ_ xs H K=>match xs,H with
 |[.agg [.l .s a,.l (.n 5) a2,.l (.n 8) a3]],[]=>Option.bind (g (Sg.mk (So.mk a a2) a3)) λr=>K (.one (.b r)) []
 |_,_=>none⟩
end z2u
namespace z4l
abbrev Q :=LB->LS->LO->ByteArray->Int->Bool->Int->Option (Tm×Int×Bool)
noncomputable def ent (g:Q):Ent:=⟨22,2,[1,0],λ_ xs H K=>match xs,H with
 |[.one (.p 0 0),.one (.i a)],[.box [.l .s h,.l (.n 5) h2,.l (.n 8) h3,.s h4,.i h5,.b h6]]=>Option.bind (g h h2 h3 h4 h5 h6 a) λr=>K (.agg [.i (Tm.op r.1),.s (Tm.name r.1),.i (Tm.sort r.1),.l (.n 1) (Tm.args r.1)]) [.box [.l .s h,.l (.n 5) h2,.l (.n 8) h3,.s h4,.i r.2.1,.b r.2.2]]
 |_,_=>none⟩
end z4l
namespace z4m
abbrev Q :=LB->LS->LO->ByteArray->Int->Bool->Option (Int)
noncomputable def ent (g:Q):Ent:=⟨23,2,[1],λ_ xs H K=>match xs,H with
 |[.one (.p 0 0)],[.box [.l .s h,.l (.n 5) h2,.l (.n 8) h3,.s h4,.i h5,.b h6]]=>Option.bind (g h h2 h3 h4 h5 h6) λr=>K (.tup []) [.box [.l .s h,.l (.n 5) h2,.l (.n 8) h3,.s h4,.i r,.b h6]]
 |_,_=>none⟩
end z4m
namespace z2i
abbrev Q :=So->Option (So)
noncomputable def ent (g:Q):Ent:=⟨24,1,[0],λ_ xs H K=>match xs,H with
 |[.agg [.l .s a,.l (.n 5) a2]],[]=>Option.bind (g (So.mk a a2)) λr=>K (.agg [.l .s (So.names r),.l (.n 5) (So.subs r)]) []
 |_,_=>none⟩
end z2i
namespace z2g
abbrev Q :=LO->Option LO
end z2g
namespace z11
abbrev Q :=Sg->Option (Option (LI×LI×LI×LB×LS×LO×LM))
noncomputable def ent (g:Q):Ent:=⟨26,2,[0],λ_ xs H K=>match xs,H with
 |[.agg [.l .s a,.l (.n 5) a2,.l (.n 8) a3]],[]=>Option.bind (g (Sg.mk (So.mk a a2) a3)) λr=>sj r (K (.tup [.one (.z),.one (.b false)]) []) (λq=>(K (.tup [.one (.p 0 0),.one (.b true)]) [.box [.l .i q.1,.l .i q.2.1,.l .i q.2.2.1,.l .s q.2.2.2.1,.l (.n 5) q.2.2.2.2.1,.l (.n 8) q.2.2.2.2.2.1,.m 1],.map .i q.2.2.2.2.2.2]))
 |_,_=>none⟩
end z11
namespace z18
abbrev Q :=LI->LI->LI->LB->LS->LO->LM->ByteArray->Int->Int->Option (Tm×Bool×Int×LM)
noncomputable def ent (g:Q):Ent:=⟨27,2,[1,0],λ_ xs H K=>match xs,H with
 |[.one (.p 0 0),.one (.i a)],[.box [.p 1 0,.s h,.i h2],.box [.l .i h3,.l .i h4,.l .i h5,.l .s h6,.l (.n 5) h7,.l (.n 8) h8,.m 2],.map .i h9]=>Option.bind (g h3 h4 h5 h6 h7 h8 h9 h h2 a) λr=>K (.tup [.agg [.i (Tm.op r.1),.s (Tm.name r.1),.i (Tm.sort r.1),.l (.n 1) (Tm.args r.1)],.one (.b r.2.1)]) [.box [.p 1 0,.s h,.i r.2.2.1],.box [.l .i h3,.l .i h4,.l .i h5,.l .s h6,.l (.n 5) h7,.l (.n 8) h8,.m 2],.map .i r.2.2.2]
 |_,_=>none⟩
end z18
namespace z17
abbrev Q :=LI->LI->LI->LB->LS->LO->LM->ByteArray->Int->Option (Int×LM)
noncomputable def ent (g:Q):Ent:=⟨28,2,[1],λ_ xs H K=>match xs,H with
 |[.one (.p 0 0)],[.box [.p 1 0,.s h,.i h2],.box [.l .i h3,.l .i h4,.l .i h5,.l .s h6,.l (.n 5) h7,.l (.n 8) h8,.m 2],.map .i h9]=>Option.bind (g h3 h4 h5 h6 h7 h8 h9 h h2) λr=>K (.tup []) [.box [.p 1 0,.s h,.i r.1],.box [.l .i h3,.l .i h4,.l .i h5,.l .s h6,.l (.n 5) h7,.l (.n 8) h8,.m 2],.map .i r.2]
 |_,_=>none⟩
end z17
namespace z0t
abbrev Q :=Tm->Option (Tm)
noncomputable def ent (g:Q):Ent:=⟨29,1,[0],λ_ xs H K=>match xs,H with
 |[.agg [.i a,.s a2,.i a3,.l (.n 1) a4]],[]=>Option.bind (g (Tm.mk a a2 a3 a4)) λr=>K (.agg [.i (Tm.op r),.s (Tm.name r),.i (Tm.sort r),.l (.n 1) (Tm.args r)]) []
 |_,_=>none⟩
end z0t
namespace z1o
abbrev Q :=LT->LT->Option (Bool)
end z1o
namespace z1j
abbrev Q :=So->So->Option (Bool)
end z1j
namespace z1h
abbrev Q :=LO->LO->Option (Bool)
end z1h
namespace z1v
abbrev Q :=So->Int->Option (Int)
end z1v
namespace z1t
abbrev Q :=LO->Int->Option (Int)
end z1t
namespace z1z
abbrev Q :=LT->Int->Option (Int)
end z1z
namespace z1q
abbrev Q :=LT->Int->Option (Int)
end z1q
namespace z2r
abbrev Q :=LI->(Sg×Tm)->Prop
noncomputable def ent (g:Q):Ent:=⟨37,3,[0],λ_ xs H K=>match xs,H with
 |[.one (.l .u a)],[]=>od (g a) λr=>K (.tup [.agg [.l .s (So.names (Sg.sorts r.1)),.l (.n 5) (So.subs (Sg.sorts r.1)),.l (.n 8) (Sg.ops r.1)],.agg [.i (Tm.op r.2),.s (Tm.name r.2),.i (Tm.sort r.2),.l (.n 1) (Tm.args r.2)]]) []
 |_,_=>none⟩
end z2r
namespace z0m
abbrev Q :=LI->LI->LI->LB->LS->LO->LM->Tm->Option (Bool×LM)
noncomputable def ent (g:Q):Ent:=⟨38,2,[1,0],λ_ xs H K=>match xs,H with
 |[.one (.p 0 0),.agg [.i a,.s a2,.i a3,.l (.n 1) a4]],[.box [.l .i h,.l .i h2,.l .i h3,.l .s h4,.l (.n 5) h5,.l (.n 8) h6,.m 1],.map .i h7]=>Option.bind (g h h2 h3 h4 h5 h6 h7 (Tm.mk a a2 a3 a4)) λr=>K (.one (.b r.1)) [.box [.l .i h,.l .i h2,.l .i h3,.l .s h4,.l (.n 5) h5,.l (.n 8) h6,.m 1],.map .i r.2]
 |_,_=>none⟩
end z0m
namespace z0l
abbrev Q :=LI->LI->LI->LB->LS->LO->LM->Tm->Option (ByteArray×LM)
noncomputable def ent (g:Q):Ent:=⟨39,2,[1,0],λ_ xs H K=>match xs,H with
 |[.one (.p 0 0),.agg [.i a,.s a2,.i a3,.l (.n 1) a4]],[.box [.l .i h,.l .i h2,.l .i h3,.l .s h4,.l (.n 5) h5,.l (.n 8) h6,.m 1],.map .i h7]=>Option.bind (g h h2 h3 h4 h5 h6 h7 (Tm.mk a a2 a3 a4)) λr=>K (.one (.s r.1)) [.box [.l .i h,.l .i h2,.l .i h3,.l .s h4,.l (.n 5) h5,.l (.n 8) h6,.m 1],.map .i r.2]
 |_,_=>none⟩
end z0l
namespace z4f
abbrev Q :=Tm->Option (Bool)
noncomputable def ent (g:Q):Ent:=⟨40,0,[0],λ_ xs H K=>match xs,H with
 |[.agg [.i a,.s a2,.i a3,.l (.n 1) a4]],[]=>Option.bind (g (Tm.mk a a2 a3 a4)) λr=>K (.one (.b r)) []
 |_,_=>none⟩
end z4f
namespace z47
abbrev Q :=Sg->Tm->Option (Bool)
noncomputable def ent (g:Q):Ent:=⟨41,0,[0,0],λ_ xs H K=>match xs,H with
 |[.agg [.l .s a,.l (.n 5) a2,.l (.n 8) a3],.agg [.i a4,.s a5,.i a6,.l (.n 1) a7]],[]=>Option.bind (g (Sg.mk (So.mk a a2) a3) (Tm.mk a4 a5 a6 a7)) λr=>K (.one (.b r)) []
 |_,_=>none⟩
end z47
namespace z2m
abbrev Q :=Tm->Tm->Option (Int)
noncomputable def ent (g:Q):Ent:=⟨42,0,[0,0],λ_ xs H K=>match xs,H with
 |[.agg [.i a,.s a2,.i a3,.l (.n 1) a4],.agg [.i a5,.s a6,.i a7,.l (.n 1) a8]],[]=>Option.bind (g (Tm.mk a a2 a3 a4) (Tm.mk a5 a6 a7 a8)) λr=>K (.one (.i r)) []
 |_,_=>none⟩
end z2m
namespace z2a
abbrev Q :=LB->Int->Option (Int)
end z2a
namespace z2b
abbrev Q :=LS->Int->Option (Int)
end z2b
namespace z26
abbrev Q :=Opr->Int->Option (Int)
end z26
namespace z2w
abbrev Q :=So->Option (Bool)
noncomputable def ent (g:Q):Ent:=⟨46,0,[0],λ_ xs H K=>match xs,H with
 |[.agg [.l .s a,.l (.n 5) a2]],[]=>Option.bind (g (So.mk a a2)) λr=>K (.one (.b r)) []
 |_,_=>none⟩
end z2w
namespace z2s
abbrev Q :=ByteArray->Option (Bool)
noncomputable def ent (g:Q):Ent:=⟨47,0,[0],λ_ xs H K=>match xs,H with
 |[.one (.s a)],[]=>Option.bind (g a) λr=>K (.one (.b r)) []
 |_,_=>none⟩
end z2s
namespace z3m
abbrev Q :=Sg->Opr->Option (Bool)
noncomputable def ent (g:Q):Ent:=⟨48,0,[0,0],λ_ xs H K=>match xs,H with
 |[.agg [.l .s a,.l (.n 5) a2,.l (.n 8) a3],.agg [.s a4,.l (.n 7) a5,.b a6,.b a7,.i a8]],[]=>Option.bind (g (Sg.mk (So.mk a a2) a3) (Opr.mk a4 a5 a6 a7 a8)) λr=>K (.one (.b r)) []
 |_,_=>none⟩
end z3m
namespace z3j
abbrev Q :=Sg->Int->Option (Bool)
noncomputable def ent (g:Q):Ent:=⟨49,0,[0,0],λ_ xs H K=>match xs,H with
 |[.agg [.l .s a,.l (.n 5) a2,.l (.n 8) a3],.one (.i a4)],[]=>Option.bind (g (Sg.mk (So.mk a a2) a3) a4) λr=>K (.one (.b r)) []
 |_,_=>none⟩
end z3j
namespace z4k
abbrev Q :=LB->LS->LO->ByteArray->Int->Bool->Option (ByteArray×Int)
noncomputable def ent (g:Q):Ent:=⟨50,2,[1],λ_ xs H K=>match xs,H with
 |[.one (.p 0 0)],[.box [.l .s h,.l (.n 5) h2,.l (.n 8) h3,.s h4,.i h5,.b h6]]=>Option.bind (g h h2 h3 h4 h5 h6) λr=>K (.one (.s r.1)) [.box [.l .s h,.l (.n 5) h2,.l (.n 8) h3,.s h4,.i r.2,.b h6]]
 |_,_=>none⟩
end z4k
namespace z4n
abbrev Q :=LB->LS->LO->ByteArray->Int->Bool->Int->Option (Bool×Int)
noncomputable def ent (g:Q):Ent:=⟨51,2,[1,0],λ_ xs H K=>match xs,H with
 |[.one (.p 0 0),.one (.k .u8 a)],[.box [.l .s h,.l (.n 5) h2,.l (.n 8) h3,.s h4,.i h5,.b h6]]=>Option.bind (g h h2 h3 h4 h5 h6 a) λr=>K (.one (.b r.1)) [.box [.l .s h,.l (.n 5) h2,.l (.n 8) h3,.s h4,.i r.2,.b h6]]
 |_,_=>none⟩
end z4n
namespace z4j
abbrev Q :=LB->ByteArray->Option (Int)
noncomputable def ent (g:Q):Ent:=⟨52,0,[0,0],λ_ xs H K=>match xs,H with
 |[.one (.l .s a),.one (.s a2)],[]=>Option.bind (g a a2) λr=>K (.one (.i r)) []
 |_,_=>none⟩
end z4j
namespace z3z
abbrev Q :=ByteArray->Int->Option (Tm)
noncomputable def ent (g:Q):Ent:=⟨53,1,[0,0],λ_ xs H K=>match xs,H with
 |[.one (.s a),.one (.i a2)],[]=>Option.bind (g a a2) λr=>K (.agg [.i (Tm.op r),.s (Tm.name r),.i (Tm.sort r),.l (.n 1) (Tm.args r)]) []
 |_,_=>none⟩
end z3z
namespace z40
abbrev Q :=ByteArray->Int->Option (Tm)
noncomputable def ent (g:Q):Ent:=⟨53,2,[0,0],λ_ xs H K=>match xs,H with
 |[.one (.s a),.one (.i a2)],[]=>Option.bind (g a a2) λr=>K (.agg [.i (Tm.op r),.s (Tm.name r),.i (Tm.sort r),.o 0]) [.row (.n 1) 0 (Tm.args r)]
 |_,_=>none⟩
end z40
namespace z39
abbrev Q :=Int->Int->Option (Int)
noncomputable def ent (g:Q):Ent:=⟨54,0,[0,0],λ_ xs H K=>match xs,H with
 |[.one (.i a),.one (.i a2)],[]=>Option.bind (g a a2) λr=>K (.one (.i r)) []
 |_,_=>none⟩
end z39
namespace z4a
abbrev Q :=Sg->Int->LT->Option (Tm×Bool)
noncomputable def ent (g:Q):Ent:=⟨55,1,[0,0,0],λ_ xs H K=>match xs,H with
 |[.agg [.l .s a,.l (.n 5) a2,.l (.n 8) a3],.one (.i a4),.one (.l (.n 1) a5)],[]=>Option.bind (g (Sg.mk (So.mk a a2) a3) a4 a5) λr=>K (.tup [.agg [.i (Tm.op r.1),.s (Tm.name r.1),.i (Tm.sort r.1),.l (.n 1) (Tm.args r.1)],.one (.b r.2)]) []
 |_,_=>none⟩
end z4a
namespace z4b
abbrev Q :=Sg->Int->LT->Option (Tm×Bool)
noncomputable def ent (g:Q):Ent:=⟨55,2,[0,0,0],λ_ xs H K=>match xs,H with
 |[.agg [.l .s a,.l (.n 5) a2,.l (.n 8) a3],.one (.i a4),.one (.l (.n 1) a5)],[]=>Option.bind (g (Sg.mk (So.mk a a2) a3) a4 a5) λr=>K (.tup [.agg [.i (Tm.op r.1),.s (Tm.name r.1),.i (Tm.sort r.1),.o 0],.one (.b r.2)]) [.row (.n 1) 0 (Tm.args r.1)]
 |_,_=>none⟩
end z4b
namespace z2j
abbrev Q :=LB->Option LB
end z2j
namespace z2l
abbrev Q :=LS->Option LS
end z2l
namespace z2f
abbrev Q :=Opr->Option (Opr)
noncomputable def ent (g:Q):Ent:=⟨58,1,[0],λ_ xs H K=>match xs,H with
 |[.agg [.s a,.l (.n 7) a2,.b a3,.b a4,.i a5]],[]=>Option.bind (g (Opr.mk a a2 a3 a4 a5)) λr=>K (.agg [.s (Opr.name r),.l (.n 7) (Opr.decls r),.b (Opr.assoc r),.b (Opr.comm r),.i (Opr.unit r)]) []
 |_,_=>none⟩
end z2f
namespace z0b
abbrev Q :=Sg->Option (Bool)
noncomputable def ent (g:Q):Ent:=⟨59,0,[0],λ_ xs H K=>match xs,H with
 |[.agg [.l .s a,.l (.n 5) a2,.l (.n 8) a3]],[]=>Option.bind (g (Sg.mk (So.mk a a2) a3)) λr=>K (.one (.b r)) []
 |_,_=>none⟩
end z0b
namespace z12
abbrev Q :=So->Option (Od×Bool)
noncomputable def ent (g:Q):Ent:=⟨60,1,[0],λ_ xs H K=>match xs,H with
 |[.agg [.l .s a,.l (.n 5) a2]],[]=>Option.bind (g (So.mk a a2)) λr=>K (.tup [.agg [.l .i (Od.above r.1),.l .i (Od.below r.1),.l .i (Od.kind r.1)],.one (.b r.2)]) []
 |_,_=>none⟩
end z12
namespace z16
abbrev Q :=LI->LI->LI->LB->LS->LO->LM->ByteArray->Int->Option (ByteArray×Int×LM)
noncomputable def ent (g:Q):Ent:=⟨61,2,[1],λ_ xs H K=>match xs,H with
 |[.one (.p 0 0)],[.box [.p 1 0,.s h,.i h2],.box [.l .i h3,.l .i h4,.l .i h5,.l .s h6,.l (.n 5) h7,.l (.n 8) h8,.m 2],.map .i h9]=>Option.bind (g h3 h4 h5 h6 h7 h8 h9 h h2) λr=>K (.one (.s r.1)) [.box [.p 1 0,.s h,.i r.2.1],.box [.l .i h3,.l .i h4,.l .i h5,.l .s h6,.l (.n 5) h7,.l (.n 8) h8,.m 2],.map .i r.2.2]
 |_,_=>none⟩
end z16
namespace z15
abbrev Q :=LI->LI->LI->LB->LS->LO->LM->ByteArray->Int->Int->Option (Bool×Int×LM)
noncomputable def ent (g:Q):Ent:=⟨62,2,[1,0],λ_ xs H K=>match xs,H with
 |[.one (.p 0 0),.one (.k .u8 a)],[.box [.p 1 0,.s h,.i h2],.box [.l .i h3,.l .i h4,.l .i h5,.l .s h6,.l (.n 5) h7,.l (.n 8) h8,.m 2],.map .i h9]=>Option.bind (g h3 h4 h5 h6 h7 h8 h9 h h2 a) λr=>K (.one (.b r.1)) [.box [.p 1 0,.s h,.i r.2.1],.box [.l .i h3,.l .i h4,.l .i h5,.l .s h6,.l (.n 5) h7,.l (.n 8) h8,.m 2],.map .i r.2.2]
 |_,_=>none⟩
end z15
namespace z4r
abbrev Q :=LB->ByteArray->Option (Int)
noncomputable def ent (g:Q):Ent:=⟨63,0,[0,0],λ_ xs H K=>match xs,H with
 |[.one (.l .s a),.one (.s a2)],[]=>Option.bind (g a a2) λr=>K (.one (.i r)) []
 |_,_=>none⟩
end z4r
namespace z0o
abbrev Q :=LI->LI->LI->LB->LS->LO->LM->Tm->Option (Bool×LM)
noncomputable def ent (g:Q):Ent:=⟨64,2,[1,0],λ_ xs H K=>match xs,H with
 |[.one (.p 0 0),.agg [.i a,.s a2,.i a3,.l (.n 1) a4]],[.box [.l .i h,.l .i h2,.l .i h3,.l .s h4,.l (.n 5) h5,.l (.n 8) h6,.m 1],.map .i h7]=>Option.bind (g h h2 h3 h4 h5 h6 h7 (Tm.mk a a2 a3 a4)) λr=>K (.one (.b r.1)) [.box [.l .i h,.l .i h2,.l .i h3,.l .s h4,.l (.n 5) h5,.l (.n 8) h6,.m 1],.map .i r.2]
 |_,_=>none⟩
end z0o
namespace z4q
abbrev Q :=LO->ByteArray->Option (Int)
noncomputable def ent (g:Q):Ent:=⟨65,2,[0,1],λ_ xs H K=>match xs,H with
 |[.one (.l (.n 8) a),.one (.f 66 [.p 0 0])],[.box [.s h]]=>Option.bind (g a h) λr=>K (.one (.i r)) [.box [.s h]]
 |_,_=>none⟩
end z4q
namespace z19
abbrev Q :=Opr->ByteArray->Option (Bool)
noncomputable def ent (g:Q):Ent:=⟨66,2,[0,1],λ_ xs H K=>match xs,H with
 |[.agg [.s a,.l (.n 7) a2,.b a3,.b a4,.i a5],.one (.p 0 0)],[.box [.s h]]=>Option.bind (g (Opr.mk a a2 a3 a4 a5) h) λr=>K (.one (.b r)) [.box [.s h]]
 |_,_=>none⟩
end z19
namespace z0k
abbrev Q :=LI->LI->LI->LB->LS->LO->LM->Int->LT->Option (Tm×Bool×LM)
noncomputable def ent (g:Q):Ent:=⟨67,2,[1,0,0],λ_ xs H K=>match xs,H with
 |[.one (.p 0 0),.one (.i a),.one (.l (.n 1) a2)],[.box [.l .i h,.l .i h2,.l .i h3,.l .s h4,.l (.n 5) h5,.l (.n 8) h6,.m 1],.map .i h7]=>Option.bind (g h h2 h3 h4 h5 h6 h7 a a2) λr=>K (.tup [.agg [.i (Tm.op r.1),.s (Tm.name r.1),.i (Tm.sort r.1),.l (.n 1) (Tm.args r.1)],.one (.b r.2.1)]) [.box [.l .i h,.l .i h2,.l .i h3,.l .s h4,.l (.n 5) h5,.l (.n 8) h6,.m 1],.map .i r.2.2]
 |_,_=>none⟩
end z0k
namespace z0v
abbrev Q :=LT->Option LT
noncomputable def ent (g:Q):Ent:=⟨68,1,[0],λ_ xs H K=>match xs,H with
 |[.one (.l (.n 1) a)],[]=>Option.bind (g a) λr=>K (.one (.l (.n 1) r)) []
 |_,_=>none⟩
end z0v
namespace z1k
abbrev Q :=LB->LB->Option (Bool)
end z1k
namespace z1m
abbrev Q :=LS->LS->Option (Bool)
end z1m
namespace z1g
abbrev Q :=Opr->Opr->Option (Bool)
end z1g
namespace z1w
abbrev Q :=LB->Int->Option (Int)
end z1w
namespace z1x
abbrev Q :=LS->Int->Option (Int)
end z1x
namespace z21
abbrev Q :=Int->Option (ByteArray)
noncomputable def ent (g:Q):Ent:=⟨74,0,[0],λ_ xs H K=>match xs,H with
 |[.one (.i a)],[]=>Option.bind (g a) λr=>K (.one (.s r)) []
 |_,_=>none⟩
end z21
namespace z1r
abbrev Q :=LD->Int->Option (Int)
end z1r
namespace z3b
abbrev Q :=LI->Option (Cur)
noncomputable def ent (g:Q):Ent:=⟨76,2,[0],λ_ xs H K=>match xs,H with
 |[.one (.l .u a)],[]=>Option.bind (g a) λr=>K (.one (.p 0 0)) [.box [.l .u (Cur.b r),.i (Cur.i r),.i (Cur.h r)]]
 |_,_=>none⟩
end z3b
namespace z3k
abbrev Q :=Cur->Option (Sg×Cur)
noncomputable def ent (g:Q):Ent:=⟨77,2,[1],λ_ xs H K=>match xs,H with
 |[.one (.p 0 0)],[.box [.l .u h,.i h2,.i h3]]=>Option.bind (g (Cur.mk h h2 h3)) λr=>K (.agg [.l .s (So.names (Sg.sorts r.1)),.l (.n 5) (So.subs (Sg.sorts r.1)),.l (.n 8) (Sg.ops r.1)]) [.box [.l .u (Cur.b r.2),.i (Cur.i r.2),.i (Cur.h r.2)]]
 |_,_=>none⟩
end z3k
namespace z3l
abbrev Q :=Cur->(Sg×Cur)->Prop
noncomputable def ent (g:Q):Ent:=⟨77,3,[1],λ_ xs H K=>match xs,H with
 |[.one (.p 0 0)],[.box [.l .u h,.i h2,.i h3]]=>od (g (Cur.mk h h2 h3)) λr=>K (.agg [.l .s (So.names (Sg.sorts r.1)),.l (.n 5) (So.subs (Sg.sorts r.1)),.l (.n 8) (Sg.ops r.1)]) [.box [.l .u (Cur.b r.2),.i (Cur.i r.2),.i (Cur.h r.2)]]
 |_,_=>none⟩
end z3l
namespace z3w
abbrev Q :=Cur->Int->Int->Option (Tm×Cur)
noncomputable def ent (g:Q):Ent:=⟨78,2,[1,0,0],λ_ xs H K=>match xs,H with
 |[.one (.p 0 0),.one (.i a),.one (.i a2)],[.box [.l .u h,.i h2,.i h3]]=>Option.bind (g (Cur.mk h h2 h3) a a2) λr=>K (.agg [.i (Tm.op r.1),.s (Tm.name r.1),.i (Tm.sort r.1),.l (.n 1) (Tm.args r.1)]) [.box [.l .u (Cur.b r.2),.i (Cur.i r.2),.i (Cur.h r.2)]]
 |_,_=>none⟩
end z3w
namespace z3x
abbrev Q :=Cur->Int->Int->Option (Tm×Cur)
noncomputable def ent (g:Q):Ent:=⟨78,2,[1,0,0],λ_ xs H K=>match xs,H with
 |[.one (.p 0 0),.one (.i a),.one (.i a2)],[.box [.l .u h,.i h2,.i h3]]=>Option.bind (g (Cur.mk h h2 h3) a a2) λr=>K (.agg [.i (Tm.op r.1),.s (Tm.name r.1),.i (Tm.sort r.1),.o 1]) [.box [.l .u (Cur.b r.2),.i (Cur.i r.2),.i (Cur.h r.2)],.row (.n 1) 0 (Tm.args r.1)]
 |_,_=>none⟩
end z3x
namespace z41
abbrev Q :=Cur->Sg->Tm->Option (Tm×Cur)
end z41
namespace z42
abbrev Q :=Cur->Sg->Tm->Option (Tm×Cur)
noncomputable def ent (g:Q):Ent:=⟨79,2,[1,0,1],λ_ xs H K=>match xs,H with
 |[.one (.p 0 0),.agg [.l .s a,.l (.n 5) a2,.l (.n 8) a3],.agg [.i a4,.s a5,.i a6,.o 1]],[.box [.l .u h,.i h2,.i h3],.row (.n 1) 0 h4]=>Option.bind (g (Cur.mk h h2 h3) (Sg.mk (So.mk a a2) a3) (Tm.mk a4 a5 a6 h4)) λr=>K (.agg [.i (Tm.op r.1),.s (Tm.name r.1),.i (Tm.sort r.1),.o 2]) [.box [.l .u (Cur.b r.2),.i (Cur.i r.2),.i (Cur.h r.2)],.gone,.row (.n 1) 0 (Tm.args r.1)]
 |_,_=>none⟩
end z42
namespace z45
abbrev Q :=Cur->Sg->Int->Bool->Option (Tm×Cur)
noncomputable def ent (g:Q):Ent:=⟨80,2,[1,0,0,0],λ_ xs H K=>match xs,H with
 |[.one (.p 0 0),.agg [.l .s a,.l (.n 5) a2,.l (.n 8) a3],.one (.i a4),.one (.b a5)],[.box [.l .u h,.i h2,.i h3]]=>Option.bind (g (Cur.mk h h2 h3) (Sg.mk (So.mk a a2) a3) a4 a5) λr=>K (.agg [.i (Tm.op r.1),.s (Tm.name r.1),.i (Tm.sort r.1),.l (.n 1) (Tm.args r.1)]) [.box [.l .u (Cur.b r.2),.i (Cur.i r.2),.i (Cur.h r.2)]]
 |_,_=>none⟩
end z45
namespace z46
abbrev Q :=Cur->Sg->Int->Bool->Option (Tm×Cur)
noncomputable def ent (g:Q):Ent:=⟨80,2,[1,0,0,0],λ_ xs H K=>match xs,H with
 |[.one (.p 0 0),.agg [.l .s a,.l (.n 5) a2,.l (.n 8) a3],.one (.i a4),.one (.b a5)],[.box [.l .u h,.i h2,.i h3]]=>Option.bind (g (Cur.mk h h2 h3) (Sg.mk (So.mk a a2) a3) a4 a5) λr=>K (.agg [.i (Tm.op r.1),.s (Tm.name r.1),.i (Tm.sort r.1),.o 1]) [.box [.l .u (Cur.b r.2),.i (Cur.i r.2),.i (Cur.h r.2)],.row (.n 1) 0 (Tm.args r.1)]
 |_,_=>none⟩
end z46
namespace z0h
abbrev Q :=Tm->Option (Int)
noncomputable def ent (g:Q):Ent:=⟨81,0,[0],λ_ xs H K=>match xs,H with
 |[.agg [.i a,.s a2,.i a3,.l (.n 1) a4]],[]=>Option.bind (g (Tm.mk a a2 a3 a4)) λr=>K (.one (.i r)) []
 |_,_=>none⟩
end z0h
namespace z06
abbrev Q :=Tm->Option (Int)
noncomputable def ent (g:Q):Ent:=⟨82,0,[0],λ_ xs H K=>match xs,H with
 |[.agg [.i a,.s a2,.i a3,.l (.n 1) a4]],[]=>Option.bind (g (Tm.mk a a2 a3 a4)) λr=>K (.one (.i r)) []
 |_,_=>none⟩
end z06
namespace z0r
abbrev Q :=LI->LI->LI->LB->LS->LO->LM->Tm->Option (Bool×LM)
noncomputable def ent (g:Q):Ent:=⟨83,2,[1,0],λ_ xs H K=>match xs,H with
 |[.one (.p 0 0),.agg [.i a,.s a2,.i a3,.l (.n 1) a4]],[.box [.l .i h,.l .i h2,.l .i h3,.l .s h4,.l (.n 5) h5,.l (.n 8) h6,.m 1],.map .i h7]=>Option.bind (g h h2 h3 h4 h5 h6 h7 (Tm.mk a a2 a3 a4)) λr=>K (.one (.b r.1)) [.box [.l .i h,.l .i h2,.l .i h3,.l .s h4,.l (.n 5) h5,.l (.n 8) h6,.m 1],.map .i r.2]
 |_,_=>none⟩
end z0r
namespace strings_Join
abbrev Q :=LB->ByteArray->Option (ByteArray)
noncomputable def ent (g:Q):Ent:=⟨84,0,[0,0],λ_ xs H K=>match xs,H with
 |[.one (.l .s a),.one (.s a2)],[]=>Option.bind (g a a2) λr=>K (.one (.s r)) []
 |_,_=>none⟩
end strings_Join
namespace z49
abbrev Q :=Tm->Int->Option (Int)
noncomputable def ent (g:Q):Ent:=⟨85,0,[0,0],λ_ xs H K=>match xs,H with
 |[.agg [.i a,.s a2,.i a3,.l (.n 1) a4],.one (.i a5)],[]=>Option.bind (g (Tm.mk a a2 a3 a4) a5) λr=>K (.one (.i r)) []
 |_,_=>none⟩
end z49
namespace z2o
abbrev Q :=Tm->Option (Int)
noncomputable def ent (g:Q):Ent:=⟨86,0,[0],λ_ xs H K=>match xs,H with
 |[.agg [.i a,.s a2,.i a3,.l (.n 1) a4]],[]=>Option.bind (g (Tm.mk a a2 a3 a4)) λr=>K (.one (.i r)) []
 |_,_=>none⟩
end z2o
namespace z4c
abbrev Q :=Sg->Tm->Option (Bool)
noncomputable def ent (g:Q):Ent:=⟨87,0,[0,0],λ_ xs H K=>match xs,H with
 |[.agg [.l .s a,.l (.n 5) a2,.l (.n 8) a3],.agg [.i a4,.s a5,.i a6,.l (.n 1) a7]],[]=>Option.bind (g (Sg.mk (So.mk a a2) a3) (Tm.mk a4 a5 a6 a7)) λr=>K (.one (.b r)) []
 |_,_=>none⟩
end z4c
namespace z4e
abbrev Q :=Sg->Tm->Option (Bool)
noncomputable def ent (g:Q):Ent:=⟨88,0,[0,0],λ_ xs H K=>match xs,H with
 |[.agg [.l .s a,.l (.n 5) a2,.l (.n 8) a3],.agg [.i a4,.s a5,.i a6,.l (.n 1) a7]],[]=>Option.bind (g (Sg.mk (So.mk a a2) a3) (Tm.mk a4 a5 a6 a7)) λr=>K (.one (.b r)) []
 |_,_=>none⟩
end z4e
namespace z24
abbrev Q :=LD->Int->Option (Int)
end z24
namespace z36
abbrev Q :=LB->ByteArray->Option (Bool)
noncomputable def ent (g:Q):Ent:=⟨90,0,[0,0],λ_ xs H K=>match xs,H with
 |[.one (.l .s a),.one (.s a2)],[]=>Option.bind (g a a2) λr=>K (.one (.b r)) []
 |_,_=>none⟩
end z36
namespace z38
abbrev Q :=Int->Int->Int->Option (Bool)
noncomputable def ent (g:Q):Ent:=⟨91,0,[0,0,0],λ_ xs H K=>match xs,H with
 |[.one (.i a),.one (.i a2),.one (.i a3)],[]=>Option.bind (g a a2 a3) λr=>K (.one (.b r)) []
 |_,_=>none⟩
end z38
namespace z3h
abbrev Q :=So->Option LI
noncomputable def ent (g:Q):Ent:=⟨92,1,[0],λ_ xs H K=>match xs,H with
 |[.agg [.l .s a,.l (.n 5) a2]],[]=>Option.bind (g (So.mk a a2)) λr=>K (.one (.l .i r)) []
 |_,_=>none⟩
end z3h
namespace z3f
abbrev Q :=Int->Int->Option (Bool)
noncomputable def ent (g:Q):Ent:=⟨93,0,[0,0],λ_ xs H K=>match xs,H with
 |[.one (.i a),.one (.i a2)],[]=>Option.bind (g a a2) λr=>K (.one (.b r)) []
 |_,_=>none⟩
end z3f
namespace z3g
abbrev Q :=So->Option LI
noncomputable def ent (g:Q):Ent:=⟨94,1,[0],λ_ xs H K=>match xs,H with
 |[.agg [.l .s a,.l (.n 5) a2]],[]=>Option.bind (g (So.mk a a2)) λr=>K (.one (.l .i r)) []
 |_,_=>none⟩
end z3g
namespace z3i
abbrev Q :=Opr->Option (Int)
noncomputable def ent (g:Q):Ent:=⟨95,0,[0],λ_ xs H K=>match xs,H with
 |[.agg [.s a,.l (.n 7) a2,.b a3,.b a4,.i a5]],[]=>Option.bind (g (Opr.mk a a2 a3 a4 a5)) λr=>K (.one (.i r)) []
 |_,_=>none⟩
end z3i
namespace z4g
abbrev Q :=Sg->Int->Option (Tm×Bool)
noncomputable def ent (g:Q):Ent:=⟨96,1,[0,0],λ_ xs H K=>match xs,H with
 |[.agg [.l .s a,.l (.n 5) a2,.l (.n 8) a3],.one (.i a4)],[]=>Option.bind (g (Sg.mk (So.mk a a2) a3) a4) λr=>K (.tup [.agg [.i (Tm.op r.1),.s (Tm.name r.1),.i (Tm.sort r.1),.l (.n 1) (Tm.args r.1)],.one (.b r.2)]) []
 |_,_=>none⟩
end z4g
namespace z4h
abbrev Q :=Sg->Int->Option (Tm×Bool)
noncomputable def ent (g:Q):Ent:=⟨96,2,[0,0],λ_ xs H K=>match xs,H with
 |[.agg [.l .s a,.l (.n 5) a2,.l (.n 8) a3],.one (.i a4)],[]=>Option.bind (g (Sg.mk (So.mk a a2) a3) a4) λr=>K (.tup [.agg [.i (Tm.op r.1),.s (Tm.name r.1),.i (Tm.sort r.1),.o 0],.one (.b r.2)]) [.row (.n 1) 0 (Tm.args r.1)]
 |_,_=>none⟩
end z4h
namespace z48
abbrev Q :=Sg->Tm->Option (Int)
noncomputable def ent (g:Q):Ent:=⟨97,0,[0,0],λ_ xs H K=>match xs,H with
 |[.agg [.l .s a,.l (.n 5) a2,.l (.n 8) a3],.agg [.i a4,.s a5,.i a6,.l (.n 1) a7]],[]=>Option.bind (g (Sg.mk (So.mk a a2) a3) (Tm.mk a4 a5 a6 a7)) λr=>K (.one (.i r)) []
 |_,_=>none⟩
end z48
namespace z3y
abbrev Q :=Tm->Tm->Option (Bool)
noncomputable def ent (g:Q):Ent:=⟨98,0,[0,0],λ_ xs H K=>match xs,H with
 |[.agg [.i a,.s a2,.i a3,.l (.n 1) a4],.agg [.i a5,.s a6,.i a7,.l (.n 1) a8]],[]=>Option.bind (g (Tm.mk a a2 a3 a4) (Tm.mk a5 a6 a7 a8)) λr=>K (.one (.b r)) []
 |_,_=>none⟩
end z3y
namespace z3u
abbrev Q :=Tm->Option (Tm)
noncomputable def ent (g:Q):Ent:=⟨99,1,[0],λ_ xs H K=>match xs,H with
 |[.agg [.i a,.s a2,.i a3,.l (.n 1) a4]],[]=>Option.bind (g (Tm.mk a a2 a3 a4)) λr=>K (.agg [.i (Tm.op r),.s (Tm.name r),.i (Tm.sort r),.l (.n 1) (Tm.args r)]) []
 |_,_=>none⟩
end z3u
namespace z3v
abbrev Q :=Tm->Option (Tm)
noncomputable def ent (g:Q):Ent:=⟨99,2,[0],λ_ xs H K=>match xs,H with
 |[.agg [.i a,.s a2,.i a3,.l (.n 1) a4]],[]=>Option.bind (g (Tm.mk a a2 a3 a4)) λr=>K (.agg [.i (Tm.op r),.s (Tm.name r),.i (Tm.sort r),.o 0]) [.row (.n 1) 0 (Tm.args r)]
 |_,_=>none⟩
end z3v
namespace z32
abbrev Q :=LT->Option LT
noncomputable def ent (g:Q):Ent:=⟨100,1,[0],λ_ xs H K=>match xs,H with
 |[.one (.l (.n 1) a)],[]=>Option.bind (g a) λr=>K (.one (.l (.n 1) r)) []
 |_,_=>none⟩
end z32
namespace z3s
abbrev Q :=LT->Option LT
noncomputable def ent (g:Q):Ent:=⟨101,1,[0],λ_ xs H K=>match xs,H with
 |[.one (.l (.n 1) a)],[]=>Option.bind (g a) λr=>K (.one (.l (.n 1) r)) []
 |_,_=>none⟩
end z3s
namespace z3t
abbrev Q :=LT->Option LT
noncomputable def ent (g:Q):Ent:=⟨101,2,[0],λ_ xs H K=>match xs,H with
 |[.one (.l (.n 1) a)],[]=>Option.bind (g a) λr=>K (.one (.o 0)) [.row (.n 1) 0 r]
 |_,_=>none⟩
end z3t
namespace z2k
abbrev Q :=Sb->Option (Sb)
end z2k
namespace z2d
abbrev Q :=LD->Option LD
end z2d
namespace z09
abbrev Q :=ByteArray->Option (Bool)
noncomputable def ent (g:Q):Ent:=⟨104,0,[0],λ_ xs H K=>match xs,H with
 |[.one (.s a)],[]=>Option.bind (g a) λr=>K (.one (.b r)) []
 |_,_=>none⟩
end z09
namespace z0x
abbrev Q :=Od->Opr->Option (Bool)
noncomputable def ent (g:Q):Ent:=⟨105,0,[0,0],λ_ xs H K=>match xs,H with
 |[.agg [.l .i a,.l .i a2,.l .i a3],.agg [.s a4,.l (.n 7) a5,.b a6,.b a7,.i a8]],[]=>Option.bind (g (Od.mk a a2 a3) (Opr.mk a4 a5 a6 a7 a8)) λr=>K (.one (.b r)) []
 |_,_=>none⟩
end z0x
namespace z0s
abbrev Q :=Od->Sg->Opr->Option (Bool)
noncomputable def ent (g:Q):Ent:=⟨106,0,[0,0,0],λ_ xs H K=>match xs,H with
 |[.agg [.l .i a,.l .i a2,.l .i a3],.agg [.l .s a4,.l (.n 5) a5,.l (.n 8) a6],.agg [.s a7,.l (.n 7) a8,.b a9,.b a10,.i a11]],[]=>Option.bind (g (Od.mk a a2 a3) (Sg.mk (So.mk a4 a5) a6) (Opr.mk a7 a8 a9 a10 a11)) λr=>K (.one (.b r)) []
 |_,_=>none⟩
end z0s
namespace z0d
abbrev Q :=So->Option (Bool)
noncomputable def ent (g:Q):Ent:=⟨107,0,[0],λ_ xs H K=>match xs,H with
 |[.agg [.l .s a,.l (.n 5) a2]],[]=>Option.bind (g (So.mk a a2)) λr=>K (.one (.b r)) []
 |_,_=>none⟩
end z0d
namespace z14
abbrev Q :=So->Option LI
noncomputable def ent (g:Q):Ent:=⟨108,1,[0],λ_ xs H K=>match xs,H with
 |[.agg [.l .s a,.l (.n 5) a2]],[]=>Option.bind (g (So.mk a a2)) λr=>K (.one (.l .i r)) []
 |_,_=>none⟩
end z14
namespace z0f
abbrev Q :=Int->Option LI
noncomputable def ent (g:Q):Ent:=⟨109,1,[0],λ_ xs H K=>match xs,H with
 |[.one (.i a)],[]=>Option.bind (g a) λr=>K (.one (.l .i r)) []
 |_,_=>none⟩
end z0f
namespace z0z
abbrev Q :=Int->Option (Bool)
noncomputable def ent (g:Q):Ent:=⟨110,0,[0],λ_ xs H K=>match xs,H with
 |[.one (.k .u8 a)],[]=>Option.bind (g a) λr=>K (.one (.b r)) []
 |_,_=>none⟩
end z0z
namespace z13
abbrev Q :=Od->Int->Option (Bool)
noncomputable def ent (g:Q):Ent:=⟨111,0,[0,0],λ_ xs H K=>match xs,H with
 |[.agg [.l .i a,.l .i a2,.l .i a3],.one (.i a4)],[]=>Option.bind (g (Od.mk a a2 a3) a4) λr=>K (.one (.b r)) []
 |_,_=>none⟩
end z13
namespace z0p
abbrev Q :=LI->LI->LI->LB->LS->LO->LM->Tm->Option (Int×LM)
noncomputable def ent (g:Q):Ent:=⟨112,2,[1,0],λ_ xs H K=>match xs,H with
 |[.one (.p 0 0),.agg [.i a,.s a2,.i a3,.l (.n 1) a4]],[.box [.l .i h,.l .i h2,.l .i h3,.l .s h4,.l (.n 5) h5,.l (.n 8) h6,.m 1],.map .i h7]=>Option.bind (g h h2 h3 h4 h5 h6 h7 (Tm.mk a a2 a3 a4)) λr=>K (.one (.i r.1)) [.box [.l .i h,.l .i h2,.l .i h3,.l .s h4,.l (.n 5) h5,.l (.n 8) h6,.m 1],.map .i r.2]
 |_,_=>none⟩
end z0p
namespace z0j
abbrev Q :=LI->LI->LI->LB->LS->LO->LM->Int->Int->Option (Int×LM)
noncomputable def ent (g:Q):Ent:=⟨113,2,[1,0,0],λ_ xs H K=>match xs,H with
 |[.one (.p 0 0),.one (.i a),.one (.i a2)],[.box [.l .i h,.l .i h2,.l .i h3,.l .s h4,.l (.n 5) h5,.l (.n 8) h6,.m 1],.map .i h7]=>Option.bind (g h h2 h3 h4 h5 h6 h7 a a2) λr=>K (.one (.i r.1)) [.box [.l .i h,.l .i h2,.l .i h3,.l .s h4,.l (.n 5) h5,.l (.n 8) h6,.m 1],.map .i r.2]
 |_,_=>none⟩
end z0j
namespace z0n
abbrev Q :=LI->LI->LI->LB->LS->LO->LM->Int->Tm->Option (Bool×LM)
noncomputable def ent (g:Q):Ent:=⟨114,2,[1,0,0],λ_ xs H K=>match xs,H with
 |[.one (.p 0 0),.one (.i a),.agg [.i a2,.s a3,.i a4,.l (.n 1) a5]],[.box [.l .i h,.l .i h2,.l .i h3,.l .s h4,.l (.n 5) h5,.l (.n 8) h6,.m 1],.map .i h7]=>Option.bind (g h h2 h3 h4 h5 h6 h7 a (Tm.mk a2 a3 a4 a5)) λr=>K (.one (.b r.1)) [.box [.l .i h,.l .i h2,.l .i h3,.l .s h4,.l (.n 5) h5,.l (.n 8) h6,.m 1],.map .i r.2]
 |_,_=>none⟩
end z0n
namespace z0q
abbrev Q :=LI->LI->LI->LB->LS->LO->LM->Int->Option (Tm×LM)
noncomputable def ent (g:Q):Ent:=⟨115,2,[1,0],λ_ xs H K=>match xs,H with
 |[.one (.p 0 0),.one (.i a)],[.box [.l .i h,.l .i h2,.l .i h3,.l .s h4,.l (.n 5) h5,.l (.n 8) h6,.m 1],.map .i h7]=>Option.bind (g h h2 h3 h4 h5 h6 h7 a) λr=>K (.agg [.i (Tm.op r.1),.s (Tm.name r.1),.i (Tm.sort r.1),.l (.n 1) (Tm.args r.1)]) [.box [.l .i h,.l .i h2,.l .i h3,.l .s h4,.l (.n 5) h5,.l (.n 8) h6,.m 1],.map .i r.2]
 |_,_=>none⟩
end z0q
namespace z4s
abbrev Q :=LT->Option LT
noncomputable def ent (g:Q):Ent:=⟨116,2,[1,1],λ_ xs H K=>match xs,H with
 |[.one (.o 0),.one (.f 117 [])],[.row (.n 1) 0 h]=>Option.bind (g h) λr=>K (.tup []) [.row (.n 1) 0 r]
 |_,_=>none⟩
end z4s
namespace z04
abbrev Q :=Tm->Tm->Option (Int)
noncomputable def ent (g:Q):Ent:=⟨117,0,[0,0],λ_ xs H K=>match xs,H with
 |[.agg [.i a,.s a2,.i a3,.l (.n 1) a4],.agg [.i a5,.s a6,.i a7,.l (.n 1) a8]],[]=>Option.bind (g (Tm.mk a a2 a3 a4) (Tm.mk a5 a6 a7 a8)) λr=>K (.one (.i r)) []
 |_,_=>none⟩
end z04
namespace z1l
abbrev Q :=Sb->Sb->Option (Bool)
end z1l
namespace z1e
abbrev Q :=LD->LD->Option (Bool)
end z1e
namespace z1s
abbrev Q :=LI->Int->Option (Int)
end z1s
namespace z3n
abbrev Q :=Cur->Option (Sg×Cur)
noncomputable def ent (g:Q):Ent:=⟨121,2,[1],λ_ xs H K=>match xs,H with
 |[.one (.p 0 0)],[.box [.l .u h,.i h2,.i h3]]=>Option.bind (g (Cur.mk h h2 h3)) λr=>K (.agg [.l .s (So.names (Sg.sorts r.1)),.l (.n 5) (So.subs (Sg.sorts r.1)),.l (.n 8) (Sg.ops r.1)]) [.box [.l .u (Cur.b r.2),.i (Cur.i r.2),.i (Cur.h r.2)]]
 |_,_=>none⟩
end z3n
namespace z3o
abbrev Q :=Cur->Option (Sg×Cur)
noncomputable def ent (g:Q):Ent:=⟨121,2,[1],λ_ xs H K=>match xs,H with
 |[.one (.p 0 0)],[.box [.l .u h,.i h2,.i h3]]=>Option.bind (g (Cur.mk h h2 h3)) λr=>K (.agg [.o 1,.o 2,.o 3]) [.box [.l .u (Cur.b r.2),.i (Cur.i r.2),.i (Cur.h r.2)],.row .s 0 (So.names (Sg.sorts r.1)),.row (.n 5) 0 (So.subs (Sg.sorts r.1)),.row (.n 8) 0 (Sg.ops r.1)]
 |_,_=>none⟩
end z3o
namespace z34
abbrev Q :=Cur->Int->Option (Int×Cur)
noncomputable def ent (g:Q):Ent:=⟨122,2,[1,0],λ_ xs H K=>match xs,H with
 |[.one (.p 0 0),.one (.i a)],[.box [.l .u h,.i h2,.i h3]]=>Option.bind (g (Cur.mk h h2 h3) a) λr=>K (.one (.i r.1)) [.box [.l .u (Cur.b r.2),.i (Cur.i r.2),.i (Cur.h r.2)]]
 |_,_=>none⟩
end z34
namespace z3d
abbrev Q :=Cur->LB->Option (ByteArray×Cur)
noncomputable def ent (g:Q):Ent:=⟨123,2,[1,0],λ_ xs H K=>match xs,H with
 |[.one (.p 0 0),.one (.l .s a)],[.box [.l .u h,.i h2,.i h3]]=>Option.bind (g (Cur.mk h h2 h3) a) λr=>K (.one (.s r.1)) [.box [.l .u (Cur.b r.2),.i (Cur.i r.2),.i (Cur.h r.2)]]
 |_,_=>none⟩
end z3d
namespace z3c
abbrev Q :=Cur->Int->Option (Bool×Cur)
noncomputable def ent (g:Q):Ent:=⟨124,2,[1,0],λ_ xs H K=>match xs,H with
 |[.one (.p 0 0),.one (.i a)],[.box [.l .u h,.i h2,.i h3]]=>Option.bind (g (Cur.mk h h2 h3) a) λr=>K (.one (.b r.1)) [.box [.l .u (Cur.b r.2),.i (Cur.i r.2),.i (Cur.h r.2)]]
 |_,_=>none⟩
end z3c
namespace z43
abbrev Q :=Sg->Tm->Option (Tm×Bool)
noncomputable def ent (g:Q):Ent:=⟨125,1,[0,0],λ_ xs H K=>match xs,H with
 |[.agg [.l .s a,.l (.n 5) a2,.l (.n 8) a3],.agg [.i a4,.s a5,.i a6,.l (.n 1) a7]],[]=>Option.bind (g (Sg.mk (So.mk a a2) a3) (Tm.mk a4 a5 a6 a7)) λr=>K (.tup [.agg [.i (Tm.op r.1),.s (Tm.name r.1),.i (Tm.sort r.1),.l (.n 1) (Tm.args r.1)],.one (.b r.2)]) []
 |_,_=>none⟩
end z43
namespace z44
abbrev Q :=Sg->Tm->Option (Tm×Bool)
noncomputable def ent (g:Q):Ent:=⟨125,2,[0,0],λ_ xs H K=>match xs,H with
 |[.agg [.l .s a,.l (.n 5) a2,.l (.n 8) a3],.agg [.i a4,.s a5,.i a6,.l (.n 1) a7]],[]=>Option.bind (g (Sg.mk (So.mk a a2) a3) (Tm.mk a4 a5 a6 a7)) λr=>K (.tup [.agg [.i (Tm.op r.1),.s (Tm.name r.1),.i (Tm.sort r.1),.o 0],.one (.b r.2)]) [.row (.n 1) 0 (Tm.args r.1)]
 |_,_=>none⟩
end z44
namespace z4d
abbrev Q :=Cur->Sg->Int->Bool->Option (Tm×Cur)
noncomputable def ent (g:Q):Ent:=⟨126,2,[1,0,0,0],λ_ xs H K=>match xs,H with
 |[.one (.p 0 0),.agg [.l .s a,.l (.n 5) a2,.l (.n 8) a3],.one (.i a4),.one (.b a5)],[.box [.l .u h,.i h2,.i h3]]=>Option.bind (g (Cur.mk h h2 h3) (Sg.mk (So.mk a a2) a3) a4 a5) λr=>K (.agg [.i (Tm.op r.1),.s (Tm.name r.1),.i (Tm.sort r.1),.l (.n 1) (Tm.args r.1)]) [.box [.l .u (Cur.b r.2),.i (Cur.i r.2),.i (Cur.h r.2)]]
 |_,_=>none⟩
end z4d
namespace z23
abbrev Q :=Dc->Int->Option (Int)
end z23
namespace z3e
abbrev Q :=Int->Option (Int)
noncomputable def ent (g:Q):Ent:=⟨131,0,[0],λ_ xs H K=>match xs,H with
 |[.one (.i a)],[]=>Option.bind (g a) λr=>K (.one (.i r)) []
 |_,_=>none⟩
end z3e
namespace z3a
abbrev Q :=Int->Int->Option (Int)
noncomputable def ent (g:Q):Ent:=⟨132,0,[0,0],λ_ xs H K=>match xs,H with
 |[.one (.i a),.one (.i a2)],[]=>Option.bind (g a a2) λr=>K (.one (.i r)) []
 |_,_=>none⟩
end z3a
namespace z2c
abbrev Q :=Dc->Option (Dc)
end z2c
namespace z0y
abbrev Q :=Int->Option (Bool)
noncomputable def ent (g:Q):Ent:=⟨134,0,[0],λ_ xs H K=>match xs,H with
 |[.one (.i a)],[]=>Option.bind (g a) λr=>K (.one (.b r)) []
 |_,_=>none⟩
end z0y
namespace z4v
abbrev Q :=LT->Int->Option LT
noncomputable def ent (g:Q):Ent:=⟨135,2,[1,0,1],λ_ xs H K=>match xs,H with
 |[.one (.o 0),.one (.i a),.one (.f 117 [])],[.row (.n 1) 0 h]=>Option.bind (g h a) λr=>K (.tup []) [.row (.n 1) 0 r]
 |_,_=>none⟩
end z4v
namespace z02
abbrev Q :=LI->Option (Int)
noncomputable def ent (g:Q):Ent:=⟨136,0,[0],λ_ xs H K=>match xs,H with
 |[.one (.l .i a)],[]=>Option.bind (g a) λr=>K (.one (.i r)) []
 |_,_=>none⟩
end z02
namespace z01
abbrev Q :=Int->Int->Option (Int)
noncomputable def ent (g:Q):Ent:=⟨137,0,[0,0],λ_ xs H K=>match xs,H with
 |[.one (.i a),.one (.i a2)],[]=>Option.bind (g a a2) λr=>K (.one (.i r)) []
 |_,_=>none⟩
end z01
namespace strings_Compare
abbrev Q :=ByteArray->ByteArray->Option (Int)
noncomputable def ent (g:Q):Ent:=⟨138,0,[0,0],λ_ xs H K=>match xs,H with
 |[.one (.s a),.one (.s a2)],[]=>Option.bind (g a a2) λr=>K (.one (.i r)) []
 |_,_=>none⟩
end strings_Compare
namespace z4p
abbrev Q :=LT->LT->Option (Int)
noncomputable def ent (g:Q):Ent:=⟨139,2,[0,0,1],λ_ xs H K=>match xs,H with
 |[.one (.l (.n 1) a),.one (.l (.n 1) a2),.one (.f 117 [])],[]=>Option.bind (g a a2) λr=>K (.one (.i r)) []
 |_,_=>none⟩
end z4p
namespace z1d
abbrev Q :=Dc->Dc->Option (Bool)
end z1d
namespace z3p
abbrev Q :=ByteArray->Int->LI->Option (Opr)
noncomputable def ent (g:Q):Ent:=⟨141,1,[0,0,0],λ_ xs H K=>match xs,H with
 |[.one (.s a),.one (.i a2),.one (.l .i a3)],[]=>Option.bind (g a a2 a3) λr=>K (.agg [.s (Opr.name r),.l (.n 7) (Opr.decls r),.b (Opr.assoc r),.b (Opr.comm r),.i (Opr.unit r)]) []
 |_,_=>none⟩
end z3p
namespace z3q
abbrev Q :=ByteArray->Int->LI->Option (Opr)
noncomputable def ent (g:Q):Ent:=⟨141,2,[0,0,0],λ_ xs H K=>match xs,H with
 |[.one (.s a),.one (.i a2),.one (.l .i a3)],[]=>Option.bind (g a a2 a3) λr=>K (.agg [.s (Opr.name r),.o 0,.b (Opr.assoc r),.b (Opr.comm r),.i (Opr.unit r)]) [.row (.n 7) 0 (Opr.decls r)]
 |_,_=>none⟩
end z3q
namespace z3r
abbrev Q :=ByteArray->Int->LI->Option (Opr)
noncomputable def ent (g:Q):Ent:=⟨141,2,[0,0,0],λ_ xs H K=>match xs,H with
 |[.one (.s a),.one (.i a2),.one (.l .i a3)],[]=>Option.bind (g a a2 a3) λr=>K (.agg [.s (Opr.name r),.l (.n 7) (Opr.decls r),.b (Opr.assoc r),.b (Opr.comm r),.i (Opr.unit r)]) []
 |_,_=>none⟩
end z3r
namespace z35
abbrev Q :=Cur->Option (Int×Cur)
noncomputable def ent (g:Q):Ent:=⟨142,2,[1],λ_ xs H K=>match xs,H with
 |[.one (.p 0 0)],[.box [.l .u h,.i h2,.i h3]]=>Option.bind (g (Cur.mk h h2 h3)) λr=>K (.one (.i r.1)) [.box [.l .u (Cur.b r.2),.i (Cur.i r.2),.i (Cur.h r.2)]]
 |_,_=>none⟩
end z35
namespace z4i
abbrev Q :=Cur->Sg->Int->Bool->Bool->Option (Tm×Cur)
noncomputable def ent (g:Q):Ent:=⟨143,2,[1,0,0,0,0],λ_ xs H K=>match xs,H with
 |[.one (.p 0 0),.agg [.l .s a,.l (.n 5) a2,.l (.n 8) a3],.one (.i a4),.one (.b a5),.one (.b a6)],[.box [.l .u h,.i h2,.i h3]]=>Option.bind (g (Cur.mk h h2 h3) (Sg.mk (So.mk a a2) a3) a4 a5 a6) λr=>K (.agg [.i (Tm.op r.1),.s (Tm.name r.1),.i (Tm.sort r.1),.l (.n 1) (Tm.args r.1)]) [.box [.l .u (Cur.b r.2),.i (Cur.i r.2),.i (Cur.h r.2)]]
 |_,_=>none⟩
end z4i
namespace z25
abbrev Q :=LI->Int->Option (Int)
end z25
namespace z2e
abbrev Q :=LI->Option LI
end z2e
namespace z4t
abbrev Q :=LT->Int->Int->Option LT
noncomputable def ent (g:Q):Ent:=⟨148,2,[1,0,0,1],λ_ xs H K=>match xs,H with
 |[.one (.o 0),.one (.i a),.one (.i a2),.one (.f 117 [])],[.row (.n 1) 0 h]=>Option.bind (g h a a2) λr=>K (.tup []) [.row (.n 1) 0 r]
 |_,_=>none⟩
end z4t
namespace z4x
abbrev Q :=LT->Int->Int->Int->Option LT
noncomputable def ent (g:Q):Ent:=⟨149,2,[1,0,0,0,1],λ_ xs H K=>match xs,H with
 |[.one (.o 0),.one (.i a),.one (.i a2),.one (.i a3),.one (.f 117 [])],[.row (.n 1) 0 h]=>Option.bind (g h a a2 a3) λr=>K (.tup []) [.row (.n 1) 0 r]
 |_,_=>none⟩
end z4x
namespace z03
abbrev Q :=Int->Option (Bool)
noncomputable def ent (g:Q):Ent:=⟨150,0,[0],λ_ xs H K=>match xs,H with
 |[.one (.i a)],[]=>Option.bind (g a) λr=>K (.one (.b r)) []
 |_,_=>none⟩
end z03
namespace internalbytealg_CompareString
abbrev Q :=ByteArray->ByteArray->Option (Int)
end internalbytealg_CompareString
namespace z1f
abbrev Q :=LI->LI->Option (Bool)
end z1f
namespace z4u
abbrev Q :=LT->Int->Int->Int->Option LT
noncomputable def ent (g:Q):Ent:=⟨155,2,[1,0,0,0,1],λ_ xs H K=>match xs,H with
 |[.one (.o 0),.one (.i a),.one (.i a2),.one (.i a3),.one (.f 117 [])],[.row (.n 1) 0 h]=>Option.bind (g h a a2 a3) λr=>K (.tup []) [.row (.n 1) 0 r]
 |_,_=>none⟩
end z4u
namespace z4w
abbrev Q :=LT->Int->Int->Int->Option LT
noncomputable def ent (g:Q):Ent:=⟨157,2,[1,0,0,0,1],λ_ xs H K=>match xs,H with
 |[.one (.o 0),.one (.i a),.one (.i a2),.one (.i a3),.one (.f 117 [])],[.row (.n 1) 0 h]=>Option.bind (g h a a2 a3) λr=>K (.tup []) [.row (.n 1) 0 r]
 |_,_=>none⟩
end z4w
abbrev EO:=oO Tryz.prog
abbrev AE:=AllE Tryz.prog
abbrev PO:=gr Tryz.prog
end Go.Proofs.YtfdkldmkbibknaaGreat.Den
namespace Go.Proofs.YtfdkldmkbibknaaGreat.Den
open Go.ChangeShapes Go.WideShapes Go.ChangeAt Go.RowKit Go.Deep Go.Joins
open Abs (V AV VRs VR)
def zR (TM:List (Nat×Ty)) (t:Nat) (T:Ty):Bool:=TM.any λp=>Nat.beq p.1 t&&decide (p.2=T)
theorem Ae {TM:List (Nat×Ty)} {t:Nat} {T:Ty} (h:zR TM t T=true):(t,T)∈TM:=by
 obtain⟨p,h1,h2⟩:=List.any_eq_true.1 h;rw[bA]at h2;have e1:=nB h2.1;have e2:=of_decide_eq_true h2.2;rw[<-e1,<-e2];exact h1
noncomputable def iU (P:Program) (TM:List (Nat×Ty)):List Field->List Ty->Nat->Bool
 |[],[],_=>true
 |f::fs,T::Ts,off=>Nat.beq f.offset off&&Nat.beq (P.cellsOf f.type) (szT T)&&zR TM f.type T&&iU P TM fs Ts (off+szT T)
 |_,_,_=>false
def zS :List Ty->Nat
 |[]=>0
 |T::Ts=>szT T+zS Ts
noncomputable def lN (P:Program) (TM:List (Nat×Ty)) (t:Nat):Ty->Bool
 | .i=>match P.underlying t with|some (.int .i64)=>true|_=>false
 | .b=>match P.underlying t with|some .bool=>true|_=>false
 | .s=>match P.underlying t with|some .string=>true|_=>false
 | .u=>match P.underlying t with|some (.int .u8)=>true|_=>false
 | .sl T=>match P.underlying t with
  |some (.slice e)=>Nat.beq (P.cellsOf e) (szT T)&&Nat.blt 0 (szT T)&&zR TM e T
  |_=>false
 | .n k=>match P.underlying t with
  |some (.struct fs)=>Nat.beq (P.cellsOf t) (zS (Fq k))&&Nat.blt 0 (szT (.n k))&&iU P TM fs.toList (Fq k) 0
  |_=>false
def TMOK (P:Program) (TM:List (Nat×Ty)):Prop:=∀p∈TM,lN P TM p.1 p.2=true
def Cc (w:World) (T:Ty) (cs:List Value):Prop:=∃(d:I T) (vs:List V),FRs (ah T d) vs/\VRs [] (λb=>b<w.heap.size) w vs cs
theorem o8 {w:World} {T:Ty} {d:I T} {c:C} {v:V} {u:Value} (he:ah T d=[c]) (hf:FR c v) (hv:VR (λb=>b<w.heap.size) w [] v u):Cc w T [u]:=
 ⟨d, [v], by rw [he]; exact ⟨rfl, fun j h1 h2 => by
  have:j=0:=by simp at h2;omega
  subst this;exact hf⟩,⟨rfl,λj hj=>by
  have:j=0:=by simp at hj;omega
  subst this;exact⟨u,rfl,hv⟩⟩⟩
section
variable {H : Type} {enc : TypeId × Value → H} {P : Program} {w : World} {base : Nat} {spare : Nat → Bool} {held : Bool} {TM : List (Nat × Ty)}
theorem lX {fuel:Nat} {cs:List Value} {xs:List (DataW H×List MemPlace)} (ih:∀t T cs x,zR TM t T=true->DataW.trod enc P w base spare held fuel t cs=some x->Cc w T cs):∀{fs:List Field} {Ts:List Ty} {off k:Nat},iU P TM fs Ts off=true->cs.length=off+zS Ts->xs.length=k+fs.length->
  (∀(i:Nat) (f:Field),fs[i]? =some f->DataW.trod enc P w base spare held fuel f.type ((cs.drop f.offset).take (P.cellsOf f.type))=xs[k+i]?)->
  ∃ds vs,Flds Ts ds/\FRs ds vs/\VRs [] (λb=>b<w.heap.size) w vs (cs.drop off)
 | [], [], off, k, _, hl, _, _ => ⟨[], [], .nil, ⟨rfl, fun j h => by simp at h⟩, by
   rw[List.drop_eq_nil_of_le (by simp[zS]at hl;omega)];exact⟨rfl,λj h=>by simp at h⟩⟩
 | f :: fs, T :: Ts, off, k, h, hl, hx, hf => by
  simp only[iU,bA]at h;obtain⟨⟨⟨h1,h2⟩,h3⟩,h4⟩:=h;have h1:=nB h1;have h2:=nB h2;have e0:=hf 0 f rfl;simp only[List.length_cons]at hx;simp only[zS]at hl;rw[Nat.add_zero,gE (by omega)]at e0;rw[h1,h2]at e0;obtain⟨d,vs,a1,a2⟩:=ih f.type T _ _ h3 e0;obtain⟨ds,us,b1,b2,b3⟩:=lX (cs:=cs) (xs:=xs) ih (k:=k+1) h4 (by omega) (by omega) (λi g hg=>by rw[hf (i+1) g (by simpa using hg)];congr 1;omega);refine⟨ah T d++ds,vs++us,.cons d b1,a1.app b2,?_⟩;have e1:cs.drop off=(cs.drop off).take (szT T)++cs.drop (off+szT T):=by rw[<-List.drop_drop,List.take_append_drop]
  rw[e1];exact a2.append b3
 |[],_::_,_,_,h,_,_,_=>by simp[iU]at h
 |_::_,[],_,_,h,_,_,_=>by simp[iU]at h
theorem Bp (hTM:TMOK P TM):∀(fuel:Nat) (t:Nat) (T:Ty) (cs:List Value) (x:DataW H×List MemPlace),zR TM t T=true->DataW.trod enc P w base spare held fuel t cs=some x->Cc w T cs:=by
 intro fuel
 induction fuel using Nat.strongRecOn with
 | ind fuel ih =>
  intro t T cs x hm h;have hs:=hTM _ (Ae hm);simp only at hs;cases T with
  | i =>
   simp only[lN]at hs;split at hs
   ·rename_i ht;obtain⟨n,rfl,_,wf⟩:=DataW.trod_int ht h;exact o8 (T:=.i) (d:=n) rfl .i (.lit wf)
   ·cases hs
  | b =>
   simp only[lN]at hs;split at hs
   ·rename_i ht;obtain⟨b,rfl,_⟩:=DataW.trod_bool ht h;exact o8 (T:=.b) (d:=b) rfl .b (.lit trivial)
   ·cases hs
  | s =>
   simp only[lN]at hs;split at hs
   ·rename_i ht;obtain⟨s,rfl,_,wf⟩:=DataW.trod_string ht h;exact o8 (T:=.s) (d:=s) rfl .s (.lit wf)
   ·cases hs
  | u =>
   simp only[lN]at hs;split at hs
   ·rename_i ht;obtain⟨n,rfl,_,wf⟩:=DataW.trod_int ht h;exact o8 (T:=.u) (d:=n) rfl .k (.lit wf)
   ·cases hs
  | sl T =>
   simp only[lN]at hs;split at hs
   ·rename_i e ht;simp only[bA]at hs;obtain⟨⟨h1,h2⟩,h3⟩:=hs;have h1:=nB h1;have h2:0<szT T:=by simpa [Nat.blt_eq]using h2
    obtain⟨v,rfl⟩:∃v,cs=[v]:=by
     rcases DataW.trod_slice ht h with⟨hc,_⟩|⟨a,len,cap,fe,rest,n,_,hc,_⟩
     ·exact⟨_,hc⟩
     ·exact⟨_,hc⟩
    obtain⟨A,len,cap,rfl,g1,g2,g3⟩:=tT ht h1 h2 h;rcases Nat.eq_zero_or_pos len with rfl|hp
    ·exact o8 (T:=.sl T) (d:=[]) rfl (FR.nil_ h2) (.imm0 g2)
    ·obtain⟨b,off,n,rfl,rfl,g4⟩:=g3 hp;have key:∀i,i<len->∃q:I T×List V×List Value,FRs (ah      T q.1) q.2.1/\VRs [] (λb=>b<w.heap.size) w q.2.1 q.2.2/\q.2.2.length=szT T/\∀j,j<szT T->w.cell? ⟨b,off+(i*szT T+j),none⟩=q.2.2[j]? :=λi hi=>by
      obtain⟨cs,y,k1,k2,k3⟩:=g4 i hi;obtain⟨d,vs,k4,k5⟩:=ih n (by omega) e T cs y h3 k3;exact⟨(d,vs,cs),k4,k5,k1,k2⟩
     have:Inhabited (I T×List V×List Value):=⟨Classical.choose (key 0 hp)⟩;obtain⟨F,hF⟩:=choose_lt (α:=I T×List V×List Value) (n:=len) (p:=λi q=>FRs (ah T q.1) q.2.1/\VRs [] (λb=>b<w.heap.size) w q.2.1 q.2.2/\q.2.2.length=szT T/\∀j,j<szT T->w.cell? ⟨b,off+(i*szT T+j),none⟩=q.2.2[j]?) key;have hb:b<w.heap.size:=by
      obtain⟨_,_,f3,f4⟩:=hF 0 hp;have:=f4 0 h2;rw[gE (by omega)]at this;rcases Nat.lt_or_ge b w.heap.size with h|h
      ·exact h
      ·simp[World.cell?,Array.getElem?_eq_none h]at this
     have hvl:∀i,i<len->(F i).2.1.length=szT T:=λi hi=>by
      obtain⟨_,f2,f3,_⟩:=hF i hi;rw[<-f2.1,f3]
     have hfr:FR (.l T ((List.range len).map λi=>(F i).1)) (.imm (szT T) ((List.range len).map λi=>(F i).2.1)):=by
      refine .l h2 (by simp) (λe he=> ?_) (λm m1 m2 j j1 j2=> ?_)
      ·obtain⟨i,hi,rfl⟩:=List.mem_map.1 he;exact hvl i (by simpa using hi)
      ·have hm:m<len:=by simpa using m1
       simp only[List.getElem_map,List.getElem_range]at j1 j2 ⊢;exact(hF m hm).1.2 j j1 j2
     have hvr:VR (λb=>b<w.heap.size) w [] (.imm (szT T) ((List.range len).map λi=>(F i).2.1)) (.slice (some ⟨b,off,none⟩) len cap):=by
      have hl:((List.range len).map λi=>(F i).2.1).length=len:=by simp
      have:=VR.imm (I:=λb=>b<w.heap.size) (w:=w) (ι:=[]) (s:=szT T) (b:=b) (off:=off) (c:=cap) (es:=(List.range len).map λi=>(F i).2.1) (f:=λk j=>(F k).2.2.getD j undef) (λe he=>by
       obtain⟨i,hi,rfl⟩:=List.mem_map.1 he;exact hvl i (by simpa using hi)) (by rw[hl];exact g1) g2 hb (λk j hk hj=>by
       rw[hl]at hk;obtain⟨_,f2,f3,f4⟩:=hF k hk;rw[f4 j hj,gE (by omega)];simp[List.getD,f3,hj]) (λk hk j hj=>by
       have hk':k<len:=by simpa using hk
       simp only[List.getElem_map,List.getElem_range]at hj ⊢;obtain⟨_,f2,f3,_⟩:=hF k hk';obtain⟨u,u1,u2⟩:=f2.2 j hj;have:(F k).2.2.getD j undef=u:=by simp[List.getD,u1]
       rw[this];exact u2)
      rw[hl]at this;exact this (.inr λh=>h.elim)
     exact o8 (T:=.sl T) (d:=(List.range len).map λi=>(F i).1) rfl hfr hvr
   ·cases hs
  | n k =>
   simp only[lN]at hs;split at hs
   ·rename_i fs ht;simp only[bA]at hs;obtain⟨⟨h1,h2⟩,h3⟩:=hs;have h1:=nB h1;have h2:0<szT (.n k):=by simpa [Nat.blt_eq]using h2
    obtain⟨xs,n,rfl,_,hcl,hxl,hf⟩:=DataW.trod_struct ht h;obtain⟨ds,vs,a1,a2,a3⟩:=lX (cs:=cs) (xs:=xs) (k:=0) (λt T cs x=>ih n (by omega) t T cs x) h3 (by rw[hcl,h1];omega) (by simpa using hxl) (λi f hi=>by rw[Nat.zero_add];exact hf i f (by simpa using hi));obtain⟨d,rfl⟩:=Br k ds h2 a1;exact⟨d,vs,a2,by simpa using a3⟩
   ·cases hs
end
theorem xl {P:Program} {f:FuncId} {xs:List AT} (hc:CFn P f xs [] (.one (.b true)) []) {w:World} {avs:List AV} {vs:Array Value} (hx:ATRs [] [] xs avs) (hA:Abs.ARs [] (λb=>b<w.heap.size) w avs vs):
  Calls P f vs w λe w'=>e= .returned (.bool true)/\Below w.heap.size w w':=by
 have hF:=hc [] [] avs HpR.nil_ hx;refine(hF.2 w (λb=>b<w.heap.size) [] vs (Abs.HR.nil _ w λ_ _ _ h=>h.elim) (λ_ h=>h) hA).mono ?_;rintro e w' ⟨r,h',ι',I',c,⟨ρ',hr,_,_⟩,rfl,D⟩;obtain⟨u,rfl,hu⟩:=hr.one';have e1:=hu.bool;subst e1;have:=D.res.bool;subst this;exact⟨rfl,⟨D.os,D.tape,D.output,D.grown,λb hb=>D.frame b hb (Abs.Bl b)⟩⟩
theorem CD {w:World}:Abs.ARs [] (λb=>b<w.heap.size) w [] #[]:=⟨rfl,λj h=>by simp at h⟩
theorem zX {w:World} {av:AV} {avs:List AV} {v:Value} {vs:List Value} (h:Abs.AR [] (λb=>b<w.heap.size) w av v) (k:Abs.ARs [] (λb=>b<w.heap.size) w avs vs.toArray):Abs.ARs [] (λb=>b<w.heap.size) w (av::avs) (v::vs).toArray:=by
 refine⟨by have:=k.1;simpa using this,λj hj=> ?_⟩;cases j with
 |zero=>exact⟨v,by simp,h⟩
 | succ j =>
  obtain⟨c,c1,c2⟩:=k.2 j (by simpa using hj);exact⟨c,by simpa using c1,c2⟩
end Go.Proofs.YtfdkldmkbibknaaGreat.Den

/-
  Texts that the claim rests on, merged: Reb, DenC, DenC2, DenG, Nil.
-/
import Derived.Test.YtkinkfieackmdaaGreatZRowStr10
import Derived.Test.YtkinkfieackmdaaGreatZRowStr11

namespace Go.Proofs.YtkinkfieackmdaaGreat.Abs
open Go.RowKit
section
variable {P : Program} {E : Cx} {K : Env → Heap → Prop} {L : Env} {h : Heap} {d : Nat} {ty : TypeId} {pos : String} {af : Array Edge} {gd : Option (Nat × Bool)} {tb : Tbl}
theorem ar_sliceB (htb:TbOK P tb) {t:TypeId} {x y:Operand} {s id len lo:Nat} {es:List (List V)} {kl:IntKind} {el:ElI} (hx:ev L x=some (.one (.own id 0 len))) (he:elOf tb t=some el) (ho:h[id]? =some (some (.row s es))) (hs:el.size=s) (hpos:0<s)
  (hfull:len=es.length) (hy:ev L y=some (.one (.lit (.int kl lo)))) (h1:lo<=len) (hn:d<E.n)
  (hk:K ((d,.one (.own h.length 0 (len-lo)))::L) (h.set id none++[some (.row s (es.drop lo))])):ar P ⟨some d,.slice t x (some y) none none,ty,pos,af,gd⟩ E K L h:=
 ⟨fun Lf ι I a w r0 => by
  have r:=r0.low
  obtain⟨inf,hι,hor,hsz⟩:=r.row ho
  obtain⟨u1,u2,_⟩:=elOf_some htb he
  have hl:some (a.eval y)=none/\lo=0\/some (a.eval y)=some (.int kl lo):=.inr (by simp[(r.ev hy).lit.1])
  have hh:(none:Option Value)=none/\len=len\/(none:Option Value)=some (.int kl len):=.inl ⟨rfl,rfl⟩
  have hv:=(r.ev hx).one'
  have hsh:=hor.shift (off:=lo) (by omega)
  have hren:=r0.rename (inf':=⟨inf.block,inf.base+lo*s,inf.cap-lo,s⟩) ho hι rfl hsh
  have hi:(ι++[(⟨inf.block,inf.base+lo*s,inf.cap-lo,s⟩:Inf)])[h.length]? =some ⟨inf.block,inf.base+lo*s,inf.cap-lo,s⟩:=by rw[r.heap.len];simp
  have fin:∀c,(execOp a.eval ⟨some d,.slice t x (some y) none none,ty,pos,af,gd⟩).run P w= .ok (.value c) w->AR (ι++[(⟨inf.block,inf.base+lo*s,inf.cap-lo,s⟩:Inf)]) I w (.one (.own h.length 0 (len-lo))) c->
    Oper.wp P ⟨some d,.slice t x (some y) none none,ty,pos,af,gd⟩ a w (λa' w'=>∃L' h' ι' I',K L' h'/\Rel E (L'++Lf) h' ι' I' a' w') (λ_ _ _=>False):=λc e1 e2=>by
   unfold Oper.wp
   rw[e1,Oper.upon_value]
   exact⟨_,_,_,I,hk,hren.put hn e2⟩
  generalize hc:a.eval x=c at hv
  cases hv with
  | @own0 _ _ _ oo inf' hi' hcap=>
   have:inf'=inf:=by rw[hι]at hi';cases hi';rfl
   subst this
   have e1:lo=0:=by omega
   subst e1
   have hb:=sliceBounds_run (P:=P) w (isS:=true) (len:=0) (cap:=0) hl hh h1 (by omega)
   have q:=VR.own0 (I:=I) (w:=w) (off:=0) (o:=oo) hi (by show 0=inf'.cap-0;omega)
   refine fin (.slice (some ⟨inf'.block,oo,none⟩) 0 0) ?_ (.one q)
   simp[execOp,Instr.sliceAt,Instr.slice,hc,run_underlying u1,hb,info_run u2 (by omega),hs]
  | @own _ _ _ _ cap inf' hi' hle hcap hm =>
   have:inf'=inf:=by rw[hι]at hi';cases hi';rfl
   subst this
   have hb:=sliceBounds_run (P:=P) w (isS:=true) (len:=len) (cap:=cap) hl hh h1 (by omega)
   by_cases hcl:cap=lo
   ·have e1:len-lo=0:=by omega
    have e2:cap-lo=0:=by omega
    refine fin (.slice (some ⟨inf'.block,inf'.base+0*inf'.size,none⟩) (len-lo) (cap-lo)) ?_ ?_
    ·subst hcl
     simp[execOp,Instr.sliceAt,Instr.slice,hc,run_underlying u1,hb,info_run u2 (by omega),hs]
    ·have q:=VR.own0 (I:=I) (w:=w) (off:=0) (o:=inf'.base+0*inf'.size) hi (by show 0=inf'.cap-lo;omega)
     rw[e1,e2]
     exact .one q
   ·have hvr:=VR.own (I:=I) (w:=w) (off:=0) (len:=len-lo) (c:=cap-lo) hi (by omega) (by show 0+(cap-lo)=inf'.cap-lo;omega) (by omega)
    refine fin _ ?_ (.one hvr)
    simp[execOp,Instr.sliceAt,Instr.slice,hc,run_underlying u1,hb,info_run u2 (by omega),hs,hcl,addr_add,hsz]⟩
theorem OR.take {ι:List Inf} {I:Nat->Prop} {w:World} {inf:Inf} {s:Nat} {es:List (List V)} (h:OR ι I w inf (.row s es)) (n:Nat):OR ι I w inf (.row s (es.take n)):=by
 obtain⟨cur,t,h1,h2,h3,h4,h5,h6,h7⟩:=h
 refine⟨cur,t,h1,h2,h3,h4,by simp;omega,λe he=>h6 e (List.mem_of_mem_take he),λk hk j hj=> ?_⟩
 simp only[List.getElem_take]at hj ⊢
 simp at hk
 exact h7 k (by omega) j hj
theorem ar_sliceT (htb:TbOK P tb) {t:TypeId} {x y:Operand} {s id len hi:Nat} {es:List (List V)} {kh:IntKind} {el:ElI} (hx:ev L x=some (.one (.own id 0 len))) (he:elOf tb t=some el) (ho:h[id]? =some (some (.row s es))) (hs:el.size=s) (hpos:0<s)
  (hy:ev L y=some (.one (.lit (.int kh hi)))) (h1:hi<=len) (hn:d<E.n)
  (hk:K ((d,.one (.own h.length 0 hi))::L) (h.set id none++[some (.row s (es.take hi))])):ar P ⟨some d,.slice t x none (some y) none,ty,pos,af,gd⟩ E K L h:=
 ⟨fun Lf ι I a w r0 => by
  have r:=r0.low
  obtain⟨inf,hι,hor,hsz⟩:=r.row ho
  obtain⟨u1,u2,_⟩:=elOf_some htb he
  have hl:(none:Option Value)=none/\0=0\/(none:Option Value)=some (.int kh 0):=.inl ⟨rfl,rfl⟩
  have hh:some (a.eval y)=none/\hi=len\/some (a.eval y)=some (.int kh hi):=.inr (by simp[(r.ev hy).lit.1])
  have hv:=(r.ev hx).one'
  have hren:=r0.rename (inf':=inf) ho hι rfl (hor.take hi)
  have hi2:(ι++[inf])[h.length]? =some inf:=by rw[r.heap.len];simp
  have fin:∀c,(execOp a.eval ⟨some d,.slice t x none (some y) none,ty,pos,af,gd⟩).run P w= .ok (.value c) w->AR (ι++[inf]) I w (.one (.own h.length 0 hi)) c->
    Oper.wp P ⟨some d,.slice t x none (some y) none,ty,pos,af,gd⟩ a w (λa' w'=>∃L' h' ι' I',K L' h'/\Rel E (L'++Lf) h' ι' I' a' w') (λ_ _ _=>False):=λc e1 e2=>by
   unfold Oper.wp
   rw[e1,Oper.upon_value]
   exact⟨_,_,_,I,hk,hren.put hn e2⟩
  generalize hc:a.eval x=c at hv
  cases hv with
  | @own0 _ _ _ oo inf' hi' hcap=>
   have:inf'=inf:=by rw[hι]at hi';cases hi';rfl
   subst this
   have e1:hi=0:=by omega
   subst e1
   have hb:=sliceBounds_run (P:=P) w (isS:=true) (len:=0) (cap:=0) hl hh (by omega) (by omega)
   have q:=VR.own0 (I:=I) (w:=w) (off:=0) (o:=oo) hi2 hcap
   refine fin (.slice (some ⟨inf'.block,oo,none⟩) 0 0) ?_ (.one q)
   simp[execOp,Instr.sliceAt,Instr.slice,hc,run_underlying u1,hb,info_run u2 (by omega),hs]
  | @own _ _ _ _ cap inf' hi' hle hcap hm =>
   have:inf'=inf:=by rw[hι]at hi';cases hi';rfl
   subst this
   have hb:=sliceBounds_run (P:=P) w (isS:=true) (len:=len) (cap:=cap) hl hh (by omega) (by omega)
   have hvr:=VR.own (I:=I) (w:=w) (off:=0) (len:=hi) (c:=cap) hi2 (by omega) hcap hm
   by_cases hcl:cap=0
   ·have e1:hi=0:=by omega
    subst e1
    have q:=VR.own0 (I:=I) (w:=w) (off:=0) (o:=inf'.base+0*inf'.size) hi2 (by omega)
    refine fin (.slice (some ⟨inf'.block,inf'.base+0*inf'.size,none⟩) 0 0) ?_ (.one q)
    rw[hcl]at hb
    simp[execOp,Instr.sliceAt,Instr.slice,hc,run_underlying u1,hb,info_run u2 (by omega),hs,hcl]
   ·refine fin _ ?_ (.one hvr)
    simp[execOp,Instr.sliceAt,Instr.slice,hc,run_underlying u1,hb,info_run u2 (by omega),hs,hcl,addr_add,hsz]⟩
theorem ar_sliceNilT (htb:TbOK P tb) {t:TypeId} {x y:Operand} {el:ElI} {kh:IntKind} (hx:ev L x=some (.one (.lit (.slice none 0 0)))) (he:elOf tb t=some el) (hpos:0<el.size) (hy:ev L y=some (.one (.lit (.int kh 0)))) (hn:d<E.n)
  (hk:K ((d,.one (.lit (.slice none 0 0)))::L) h):ar P ⟨some d,.slice t x none (some y) none,ty,pos,af,gd⟩ E K L h:=
 ar_val rfl hn (λι I a w r=>by
  obtain⟨e1,_⟩:=(r.ev hx).lit
  obtain⟨u1,u2,_⟩:=elOf_some htb he
  obtain⟨eh,_⟩:=(r.ev hy).lit
  have hb:(Instr.sliceBounds true 0 0 none (some (.int kh 0)) none).run P w= .ok (0,0,0) w:=by
   simp[Instr.sliceBounds,Instr.sliceBound,asIntOf]
  refine⟨.slice none 0 0,?_,.one (.lit trivial)⟩
  simp[execOp,Instr.sliceAt,Instr.slice,e1,eh,run_underlying u1,hb,info_run u2 hpos]) hk
theorem ar_sliceNilL (htb:TbOK P tb) {t:TypeId} {x y:Operand} {el:ElI} {kl:IntKind} (hx:ev L x=some (.one (.lit (.slice none 0 0)))) (he:elOf tb t=some el) (hpos:0<el.size) (hy:ev L y=some (.one (.lit (.int kl 0)))) (hn:d<E.n)
  (hk:K ((d,.one (.lit (.slice none 0 0)))::L) h):ar P ⟨some d,.slice t x (some y) none none,ty,pos,af,gd⟩ E K L h:=
 ar_val rfl hn (λι I a w r=>by
  obtain⟨e1,_⟩:=(r.ev hx).lit
  obtain⟨u1,u2,_⟩:=elOf_some htb he
  obtain⟨eh,_⟩:=(r.ev hy).lit
  have hb:(Instr.sliceBounds true 0 0 (some (.int kl 0)) none none).run P w= .ok (0,0,0) w:=by
   simp[Instr.sliceBounds,Instr.sliceBound,asIntOf]
  refine⟨.slice none 0 0,?_,.one (.lit trivial)⟩
  simp[execOp,Instr.sliceAt,Instr.slice,e1,eh,run_underlying u1,hb,info_run u2 hpos]) hk
end
end Go.Proofs.YtkinkfieackmdaaGreat.Abs
namespace Go.Proofs.YtkinkfieackmdaaGreat.Den
open Go.RowKit
open Abs (V AV Env Heap ar)
section
variable {P : Program} {E : Abs.Cx} {F : In} {ρ : Rho} {H : List Ob} {D : List (Nat × AT)} {L : Env} {h : Heap} {tb : Nat → Option TI} {d : Nat} {ty : TypeId} {pos : String} {af : Array Edge} {gd : Option (Nat × Bool)}
theorem FRl.drop {T:Ty} {xs:List (I T)} {es:List (List V)} (h:FRl T xs es):∀k,FRl T (xs.drop k) (es.drop k):=by
 induction h with
 |nil=>intro k;simp;exact .nil
 | cons a b ih =>
  intro k
  cases k with
  |zero=>exact .cons a b
  |succ k=>exact ih k
theorem op_sliceB (htb:TBOK P tb) (hn:d<E.n) {t:Nat} {id n:Nat} {ti:TI} {T:Ty} {x y:Operand} {i:Int} {xs:List (I T)} (ht:tb t=some ti) (he:ti.elem=some T) (hx:ev D x=some (.one (.o id))) (hr:H[id]? =some (.row T n xs)) (hy:ev D y=some (.one (.i i))) (hi:0<i) (hle:i<=xs.length):
  OpOK P ⟨some d,.slice t x (some y) none none,ty,pos,af,gd⟩ E F D H (.one (.o H.length)) ((H.set id .gone)++[.row T 0 (xs.drop i.toNat)]):=λρ L h hs hh hf=>by
 obtain⟨ix,G⟩:=htb.get ht
 obtain⟨el,z',g0,g1,g2,g3,g4,g5,g6,g7,g8⟩:=G.elem T he
 obtain⟨av,a1,a2⟩:=ev_ok hs hx
 obtain⟨u,rfl,a3⟩:=a2.one'
 obtain⟨bv,b1,b2⟩:=ev_ok hs hy
 obtain⟨u',rfl,b3⟩:=b2.one'
 cases b3.int
 obtain⟨k,rfl⟩:=Int.eq_ofNat_of_zero_le (show 0<=i by omega)
 have hlen:(H.set id Ob.gone).length=H.length:=by simp
 have hev:Ev ρ H ρ (H.set id .gone):=Ev.set hr (evo.goes _)
 rcases a3.own hr with⟨a,rfl,a4⟩|⟨rfl,a4⟩
 ·obtain⟨es,e1,e2⟩:=hh.at_ a4 hr
  have e3:=e2.frl
  have hp1:HpR ρ (H.set id .gone) (h.set a none):=hh.set a4 hr (by simp) (evo.goes _) trivial
  have hf1:Fr F ρ (H.set id .gone) (h.set a none):=hf.set a4 hr (by simp) (evo.goes _)
  obtain⟨m1,m2⟩:=new_row g4 hp1 (e3.drop k)
  have hf2:=hf1.push hp1.len (.row T 0 (xs.drop k)) (some (.row (szT T) (es.drop k)))
  rw[hlen]at m1
  rw[List.length_set]at m1 m2 hf2
  refine Abs.ar_sliceB G.tb a1 g1 e1 g3 g4 (by rw[e3.len]) b1 (by omega) hn ⟨ρ++[some h.length],_,rfl,?_,m2,hev.trans (Ev.push _ _),hf2⟩
  rw[List.length_drop,e3.len]at m1
  exact m1
 ·obtain rfl:xs=[]:=by
   rcases hh.row _ n _ _ hr with⟨a',es,h7,_⟩|⟨_,h7,_⟩
   ·rw[a4]at h7;cases h7
   ·exact h7
  simp at hle
  omega
theorem FRl.take {T:Ty} {xs:List (I T)} {es:List (List V)} (h:FRl T xs es):∀k,FRl T (xs.take k) (es.take k):=by
 induction h with
 |nil=>intro k;simp;exact .nil
 | cons a b ih =>
  intro k
  cases k with
  |zero=>simp;exact .nil
  |succ k=>exact .cons a (ih k)
theorem op_sliceT (htb:TBOK P tb) (hn:d<E.n) {t:Nat} {id n:Nat} {ti:TI} {T:Ty} {x y:Operand} {i:Int} {xs:List (I T)} (ht:tb t=some ti) (he:ti.elem=some T) (hx:ev D x=some (.one (.o id))) (hr:H[id]? =some (.row T n xs)) (hy:ev D y=some (.one (.i i))) (hi:0<=i) (hle:i<=xs.length):
  OpOK P ⟨some d,.slice t x none (some y) none,ty,pos,af,gd⟩ E F D H (.one (.o H.length)) ((H.set id .gone)++[.row T 0 (xs.take i.toNat)]):=λρ L h hs hh hf=>by
 obtain⟨ix,G⟩:=htb.get ht
 obtain⟨el,z',g0,g1,g2,g3,g4,g5,g6,g7,g8⟩:=G.elem T he
 obtain⟨av,a1,a2⟩:=ev_ok hs hx
 obtain⟨u,rfl,a3⟩:=a2.one'
 obtain⟨bv,b1,b2⟩:=ev_ok hs hy
 obtain⟨u',rfl,b3⟩:=b2.one'
 cases b3.int
 obtain⟨k,rfl⟩:=Int.eq_ofNat_of_zero_le hi
 have hlen:(H.set id Ob.gone).length=H.length:=by simp
 have hev:Ev ρ H ρ (H.set id .gone):=Ev.set hr (evo.goes _)
 rcases a3.own hr with⟨a,rfl,a4⟩|⟨rfl,a4⟩
 ·obtain⟨es,e1,e2⟩:=hh.at_ a4 hr
  have e3:=e2.frl
  have hp1:HpR ρ (H.set id .gone) (h.set a none):=hh.set a4 hr (by simp) (evo.goes _) trivial
  have hf1:Fr F ρ (H.set id .gone) (h.set a none):=hf.set a4 hr (by simp) (evo.goes _)
  obtain⟨m1,m2⟩:=new_row g4 hp1 (e3.take k)
  have hf2:=hf1.push hp1.len (.row T 0 (xs.take k)) (some (.row (szT T) (es.take k)))
  rw[hlen]at m1
  rw[List.length_set]at m1 m2 hf2
  have hl2:(es.take k).length=k:=by rw[List.length_take,e3.len];omega
  rw[hl2]at m1
  exact Abs.ar_sliceT G.tb a1 g1 e1 g3 g4 b1 (by omega) hn ⟨ρ++[some h.length],_,rfl,m1,m2,hev.trans (Ev.push _ _),hf2⟩
 ·obtain rfl:xs=[]:=by
   rcases hh.row _ n _ _ hr with⟨a',es,h7,_⟩|⟨_,h7,_⟩
   ·rw[a4]at h7;cases h7
   ·exact h7
  simp at hle
  obtain rfl:k=0:=by omega
  have hp1:HpR ρ (H.set id .gone) h:=hh.gone hr
  have hf1:Fr F ρ (H.set id .gone) h:=hf.gone hr
  obtain⟨m1,m2⟩:=nil_row g4 hp1
  rw[hlen]at m1
  exact Abs.ar_sliceNilT G.tb a1 g1 (by rw[g3];exact g4) b1 hn ⟨ρ++[none],_,rfl,m1,m2,hev.trans (Ev.push _ _),hf1.nilRow hp1.len _⟩
theorem view_ok (htb:TBOK P tb) (hn:d<E.n) {t id n:Nat} {ti:TI} {T:Ty} {x y:Operand} {i:Int} {xs:List (I T)} (ht:tb t=some ti) (he:ti.elem=some T) (hs:EncL ρ H D L) (hh:HpR ρ H h) (hx:ev D x=some (.one (.o id))) (hr:H[id]? =some (.row T n xs)) (hy:ev D y=some (.one (.i i))) (hi:0<=i) (hle:i<=xs.length) {K:Env->Heap->Prop}
  (hk:∀v ns,FRl T (xs.drop i.toNat) ns->Abs.elems h (szT T) v=some ns->K ((d,.one v)::L) h):ar P ⟨some d,.slice t x (some y) none none,ty,pos,af,gd⟩ E K L h:=by
 obtain⟨ix,G⟩:=htb.get ht
 obtain⟨el,z',g0,g1,g2,g3,g4,g5,g6,g7,g8⟩:=G.elem T he
 obtain⟨av,a1,a2⟩:=ev_ok hs hx
 obtain⟨u,rfl,a3⟩:=a2.one'
 obtain⟨bv,b1,b2⟩:=ev_ok hs hy
 obtain⟨u',rfl,b3⟩:=b2.one'
 cases b3.int
 obtain⟨k,rfl⟩:=Int.eq_ofNat_of_zero_le hi
 rcases a3.own hr with⟨a,rfl,a4⟩|⟨rfl,a4⟩
 ·obtain⟨es,e1,e2⟩:=hh.at_ a4 hr
  have e3:=e2.frl
  have hl:=e3.len
  have hk1:k<=xs.length:=by omega
  refine Abs.ar_sliceOwn (kh:=.i64) G.tb a1 g1 e1 g3 g4 (.inr ⟨y,rfl,b1⟩) (.inl ⟨rfl,rfl⟩) hk1 (Nat.le_refl _) hn (hk _ (es.drop k) (e3.drop k) ?_)
  show (match h[a]? with
   |some (some (.row s' es))=>if s'=szT T&&0+k+(xs.length-k)<=es.length then some ((es.drop (0+k)).take (xs.length-k))else none
   |_=>none)=_
  rw[e1]
  simp only[Nat.zero_add]
  rw[if_pos (by simp;omega),List.take_of_length_le (by rw[List.length_drop];omega)]
 ·obtain rfl:xs=[]:=by
   rcases hh.row _ n _ _ hr with⟨a',es,h7,_⟩|⟨_,h7,_⟩
   ·rw[a4]at h7;cases h7
   ·exact h7
  simp at hle
  obtain rfl:k=0:=by omega
  exact Abs.ar_sliceNilL G.tb a1 g1 (by rw[g3];exact g4) b1 hn (hk _ [] (by simp;exact .nil) rfl)
end
end Go.Proofs.YtkinkfieackmdaaGreat.Den
namespace Go.Proofs.YtkinkfieackmdaaGreat.Den
open Go.RowKit
open Abs (V AV Env Heap ar aw ao)
section
variable {P : Program} {E : Abs.Cx} {F : In} {ρ ρ' : Rho} {H : List Ob} {D : List (Nat × AT)} {L : Env} {h h' : Heap} {R : Type} {tb : Nat → Option TI} {O : Orc}
theorem lenC_mono {Hm H:List Ob} (hl:Le Hm H) {c:C} {n:Int} (h:lenC Hm c=some n):lenC H c=some n:=by
 unfold lenC at h ⊢
 split at h
 case h_5=>
  split at h
  ·rename_i hx
   rw[hl _ _ hx (by simp)]
   exact h
  ·rename_i hx
   rw[hl _ _ hx (by simp)]
   exact h
  ·cases h
 all_goals exact h
theorem valD_mono {Hm H:List Ob} (hl:Le Hm H) {o:Oper} {v:AT} (hv:(valD tb o D Hm).has v):(valD tb o D H).has v:=by
 unfold valD at hv ⊢
 split at hv
 all_goals first
  |exact hv
  |(cases hv;done)
  |skip
 ·split at hv
  ·exact hv
  ·exact hv
  ·split at hv
   ·rename_i hx hf
    rw[hl _ _ hx (by simp),hf]
    exact hv
   ·cases hv
  ·exact hv.elim
 ·split at hv
  ·split at hv
   ·rename_i hx
    rw[hl _ _ hx (by simp)]
    exact hv
   ·cases hv
  ·exact hv
  ·split at hv
   ·rename_i hx
    rw[hl _ _ hx (by simp)]
    exact hv
   ·cases hv
  ·exact hv.elim
 ·split at hv
  ·exact hv
  ·split at hv
   ·rename_i hx
    rw[hl _ _ hx (by simp)]
    exact hv
   ·cases hv
  ·exact hv.elim
 ·split at hv
  ·exact hv
  ·exact valX_mono hl hv
 ·split at hv
  ·split at hv
   ·exact hv
   ·exact valX_mono hl hv
  ·exact valX_mono hl hv
 ·split at hv
  ·split at hv
   ·exact hv
   ·split at hv
    ·rename_i h1 h2
     rw[lenC_mono hl h2,h1]
     exact hv
    ·cases hv
   ·cases hv
  ·cases hv
 ·exact valX_mono hl hv
theorem effX_unt {o:Oper} {v:AT} {H':List Ob} (hv:(effX tb o.op D H).has (v,H')):Unt (touch tb O o D H) H H':=by
 have push:∀x:Ob,Unt (touch tb O o D H) H (H++[x]):=λx id y hy _=>app_get hy
 unfold effX at hv
 split at hv
 ·split at hv
  ·cases hv;exact push _
  ·cases hv
 ·rename_i args tys ho
  split at hv
  ·rename_i x y t tx ha ht
   split at hv
   ·split at hv
    ·obtain⟨_,_,e⟩:=hv;cases e;exact push _
    ·cases hv
   ·rename_i id s h1 h2 h3
    split at hv
    ·obtain⟨_,_,e⟩:=hv
     cases e
     intro j z hz hn
     simp only[touch,ho,ha,h2]at hn
     exact app_get (by rw[sN (λe=>hn (by simp[e]))];exact hz)
    ·cases hv
   ·split at hv
    ·obtain⟨_,_,e⟩:=hv;cases e;exact push _
    ·cases hv
   ·cases hv
  ·cases hv
 ·cases hv
theorem opX_unt {o:Oper} {H':List Ob} (hv:(opX tb o.op D H).has H'):Unt (touch tb O o D H) H H':=by
 unfold opX at hv
 split at hv
 ·rename_i t m k x ho
  split at hv
  ·rename_i T id s vs h1 h2 h3 h4
   have set:∀{z:Ob},Unt (touch tb O o D H) H (H.set id z):=λ{z} j w hw hn=>by
    rw[sN (λe=>hn (by simp[touch,ho,h2,e]))];exact hw
   split at hv
   ·split at hv
    ·split at hv
     ·cases hv;exact set
     ·cases hv
    ·split at hv
     ·cases hv
     ·cases hv;exact set
    ·cases hv
   ·cases hv
  ·cases hv
 ·cases hv
theorem effD_unt {o : Oper} {v : AT} {H' : List Ob} (hv : (effD tb o D H).has (v, H')) : Unt (touch tb O o D H) H H' := by
 have push:∀x:Ob,Unt (touch tb O o D H) H (H++[x]):=λx id y hy _=>app_get hy
 unfold effD at hv
 split at hv
 ·split at hv
  ·cases hv;exact push _
  ·cases hv
 ·split at hv
  ·cases hv;exact push _
  ·cases hv
 ·split at hv
  ·split at hv
   ·split at hv
    ·cases hv;exact push _
    ·cases hv
   ·cases hv
  ·cases hv
 ·split at hv
  ·split at hv
   ·obtain⟨_,_,e⟩:=hv;cases e;exact push _
   ·cases hv
  ·cases hv
 ·rename_i args tys ho
  split at hv
  ·rename_i x y t tx ha ht
   split at hv
   ·rename_i T U cx cy h1 h2 h3 h4
    split at hv
    ·split at hv
     ·rename_i id
      split at hv
      ·split at hv
       ·obtain⟨_,_,e⟩:=hv
        cases e
        intro j z hz hn
        simp only[touch,ho,ha,h3]at hn
        exact app_get (by rw[sN (λe=>hn (by simp[e]))];exact hz)
       ·cases hv
      ·cases hv
     ·obtain⟨_,_,e⟩:=hv;cases e;exact push _
     ·exact effX_unt hv
    ·cases hv
   ·exact effX_unt hv
  ·cases hv
 ·exact effX_unt hv
theorem opN_unt {o : Oper} {H' : List Ob} (hv : (opN tb o D H).has H') : Unt (touch tb O o D H) H H' := by
 unfold opN at hv
 split at hv
 ·rename_i t x y ho
  have set:∀{id:Nat} {z:Ob},(∀j,j∉touch tb O o D H->j≠id)->Unt (touch tb O o D H) H (H.set id z):=λhne j w hw hn=>by
   rw[sN (λe=>hne j hn e.symm)];exact hw
  split at hv
  ·rename_i h2 h3
   split at hv
   ·split at hv
    ·cases hv
     exact set λj hj e=>hj (by simp[touch,ho,h2,e])
    ·cases hv
   ·cases hv
  ·rename_i ti id k n T e0 off vs h1 h2 h3
   have hs:∀{z:Ob},Unt (touch tb O o D H) H (H.set id z):=λ{z}=>set (z:=z) λj hj e=>hj (by simp only[touch,ho,h2];simp[e])
   split at hv
   ·split at hv
    ·split at hv
     ·split at hv
      ·split at hv
       ·split at hv
        ·cases hv;exact hs
        ·cases hv
       ·obtain⟨e',e1,e2⟩:=hv
        dsimp only at e2
        split at e2
        ·cases e2;exact hs
        ·cases e2
      ·cases hv
     ·cases hv
    ·cases hv
   ·cases hv
  ·cases hv
 ·exact opX_unt hv
theorem one_ok (htb:TBOK P tb) (hO:OrcOK P O) {nt:Nat} (hE:E.n=nt) {o:Oper} {K:AT->List Ob->Option R} {r:R} (hc:one tb O nt o D H K=some r):∃v H',K v H'=some r/\(∀F:In,OpOK P o E F D H v H')/\Unt (touch tb O o D H) H H':=by
 unfold one at hc
 split at hc
 ·rename_i d hd
  split at hc
  ·rename_i hlt
   have hn:d<E.n:=by rw[hE];simpa [Nat.blt_eq]using hlt
   unfold opD at hc
   split at hc
   ·obtain⟨v,h1,h2⟩:=Pl.run_has hc
    exact⟨v,H,h2,λ_=>val_op λρ L h hs hp=>valD_ok htb hd hn h1 hs hp,.refl _ _⟩
   ·obtain⟨q,h1,h2⟩:=Pl.run_has hc
    exact⟨q.1,q.2,h2,λ_=>effD_ok htb hd hn h1,effD_unt h1⟩
   ·exact callD_ok htb hO hd hn hc
  ·cases hc
 ·rename_i hd
  obtain⟨H',h1,h2⟩:=Pl.run_has hc
  exact⟨_,H',h2,λ_=>opN_ok htb hd h1,opN_unt h1⟩
theorem oneK_ok (htb:TBOK P tb) (hO:OrcOK P O) {nt:Nat} (hE:E.n=nt) {o:Oper} (hk:keeps tb O o D=true) {K:AT->List Ob->Option R} {r:R} (hc:one tb O nt o D H K=some r):∃v,K v H=some r/\∀H',Le H H'->OpOK P o E F D H' v H':=by
 unfold one at hc
 split at hc
 ·rename_i d hd
  split at hc
  ·rename_i hlt
   have hn:d<E.n:=by rw[hE];simpa [Nat.blt_eq]using hlt
   unfold opD at hc
   split at hc
   ·obtain⟨v,h1,h2⟩:=Pl.run_has hc
    exact⟨v,h2,λH' hl=>val_op λρ L h hs hp=>valD_ok htb hd hn (valD_mono hl h1) hs hp⟩
   ·rename_i h1
    exfalso
    unfold keeps at hk
    rw[hd]at hk
    simp only at hk
    split at hk
    ·rename_i e;rw[e]at h1;simp[kind]at h1
    ·rw[h1]at hk;cases hk
   ·exact callK_ok htb hO hd hn hk hc
  ·cases hc
 ·rename_i hd
  unfold keeps at hk
  rw[hd]at hk
  cases hk
theorem oneI_ok (htb:TBOK P tb) {nt:Nat} (hE:E.n=nt) {o:Oper} {K:AT->Option R} {r:R} (hc:oneI tb nt o D K=some r):∃v,K v=some r/\∀(F:In) (H:List Ob),OpOK P o E F D H v H:=by
 unfold oneI at hc
 split at hc
 ·rename_i d hd
  split at hc
  ·rename_i hlt
   have hn:d<E.n:=by rw[hE];simpa [Nat.blt_eq]using hlt
   obtain⟨v,h1,h2⟩:=Pl.run_has hc
   exact⟨v,h2,λ_ H=>immD_ok htb hd hn h1⟩
  ·cases hc
 ·cases hc
theorem bindA_enc {dst:Option Nat} {v:AT} {av:AV} (hs:EncL ρ H D L) (hv:ATR ρ H v av):EncL ρ H (bindA dst v D) (Abs.bindD dst av L):=by
 cases dst with
 |none=>exact hs
 | some d =>
  intro t x hx
  simp only[bindA,List.lookup_cons]at hx
  simp only[Abs.bindD,List.lookup_cons]
  split at hx
  ·cases hx;exact⟨av,rfl,hv⟩
  ·exact hs t x hx
theorem gsl_slot {l:List Oper} {j:Nat}:gsl l j=Abs.gslot l.toArray j:=by
 unfold gsl Abs.gslot
 simp only[List.getElem?_toArray]
 cases l[j]? <;>rfl
theorem enc_b {d:Nat} {p:Bool} (hs:EncL ρ H D L) (h:D.lookup d=some (.one (.b p))):L.lookup d=some (.one (.lit (.bool p))):=by
 obtain⟨av,h1,h2⟩:=hs d _ h
 obtain⟨u,rfl,h3⟩:=h2.one'
 rw[h1,h3.bool]
theorem enc_u {d:Nat} (hs:EncL ρ H D L) (h:D.lookup d=some (.tup [])):L.lookup d=some (.tup []):=by
 obtain⟨av,h1,h2⟩:=hs d _ h
 cases h2 with
 | @tup xs ys hl hr=>
  cases ys with
  |nil=>exact h1
  |cons _ _=>simp at hl
inductive Gd (ops:Array Oper) (n:Nat) (o:Oper) (D:List (Nat×AT)):Bool->Prop
 |run (h:o.guard=none):Gd ops n o D true
 |runG {j d:Nat} {want:Bool} (h:o.guard=some (j,want)) (hj:Abs.gslot ops j=some d) (hd:D.lookup d=some (.one (.b want))):Gd ops n o D true
 |skip {j d d':Nat} {p want:Bool} (h:o.guard=some (j,want)) (hj:Abs.gslot ops j=some d) (hd:D.lookup d=some (.one (.b p))) (hp:p= !want) (hdst:o.dst=some d') (hn:d'<n):Gd ops n o D false
 |skipU {j d d':Nat} {want:Bool} (h:o.guard=some (j,want)) (hj:Abs.gslot ops j=some d) (hd:D.lookup d=some (.tup [])) (hdst:o.dst=some d') (hn:d'<n):Gd ops n o D false
def Same (D D':List (Nat×AT)):Prop:=∀t,D.lookup t=D'.lookup t
theorem Same.refl (D:List (Nat×AT)):Same D D:=λ_=>rfl
theorem Same.trans {D D' D2:List (Nat×AT)} (h:Same D D') (k:Same D' D2):Same D D2:=λt=>(h t).trans (k t)
theorem Same.enc {D D':List (Nat×AT)} (h:Same D' D) (k:EncL ρ H D L):EncL ρ H D' L:=λt v hv=>k t v (by rw[<-h t];exact hv)
theorem same_cons {d:Nat} {v:AT} {D:List (Nat×AT)} (h:D.lookup d=some v):Same ((d,v)::D) D:=λt=>by
 rw[List.lookup_cons]
 split
 ·rename_i e;have:=eq_of_beq e;subst this;exact h.symm
 ·rfl
theorem Same.bind {D D':List (Nat×AT)} (h:Same D D') (dst:Option Nat) (v:AT):Same (bindA dst v D) (bindA dst v D'):=by
 cases dst with
 |none=>exact h
 |some d=>intro t;simp only[bindA,List.lookup_cons];split<;>first|rfl|exact h t
theorem Same.sel {D D':List (Nat×AT)} (h:Same D D'):∀ts,Draw.sel D ts=Draw.sel D' ts
 |[]=>rfl
 |t::ts=>by simp only[Draw.sel];rw[h t,Same.sel h ts]
theorem guardK_ok {nt:Nat} {l:List Oper} {o:Oper} {D1 D:List (Nat×AT)} (hsub:Draw.Sub D1 D) {run skip:List (Nat×AT)->Option R} {r:R} (hc:guardK nt l o D1 D run skip=some r):∃D',Same D' D/\((Gd l.toArray nt o D1 true/\run D'=some r)\/(Gd l.toArray nt o D1 false/\skip D'=some r)):=by
 unfold guardK at hc
 split at hc
 ·rename_i hg;exact⟨D,.refl D,.inl ⟨.run hg,hc⟩⟩
 ·rename_i j want hg
  split at hc
  ·rename_i d d' hj hdst
   rw[gsl_slot]at hj
   split at hc
   ·rename_i hlt
    have hn:d'<nt:=by simpa [Nat.blt_eq]using hlt
    split at hc
    ·rename_i p hd
     cases want<;>cases p
     ·exact⟨_,same_cons (hsub _ _ hd),.inl ⟨.runG hg hj hd,hc⟩⟩
     ·exact⟨_,same_cons (hsub _ _ hd),.inr ⟨.skip hg hj hd rfl hdst hn,hc⟩⟩
     ·exact⟨_,same_cons (hsub _ _ hd),.inr ⟨.skip hg hj hd rfl hdst hn,hc⟩⟩
     ·exact⟨_,same_cons (hsub _ _ hd),.inl ⟨.runG hg hj hd,hc⟩⟩
    ·rename_i hd;exact⟨D,.refl D,.inr ⟨.skipU hg hj hd hdst hn,hc⟩⟩
    ·cases hc
   ·cases hc
  ·cases hc
theorem restL_some {α:Type} {xs ys:List α} {i:Int} (h:restL xs i=some ys):0<i/\i<=xs.length/\ys=xs.drop i.toNat:=by
 unfold restL at h
 cases hb:decide (0<i)&&decide (i<=(xs.length:Int))with
 | true =>
  rw[hb]at h
  simp at hb h
  exact⟨hb.1,hb.2,h.symm⟩
 |false=>rw[hb]at h;cases h
theorem takeL_some {α:Type} {xs ys:List α} {i:Int} (h:takeL xs i=some ys):0<=i/\i<=xs.length/\ys=xs.take i.toNat:=by
 unfold takeL at h
 cases hb:decide (0<=i)&&decide (i<=(xs.length:Int))with
 | true =>
  rw[hb]at h
  simp at hb h
  exact⟨hb.1,hb.2,h.symm⟩
 |false=>rw[hb]at h;cases h
theorem sliceB_none {im:List Nat} {o:Oper} (h:o.dst=none):sliceB tb im o D H=none:=by
 unfold sliceB
 rw[h]
 split
 ·rename_i e;cases e
 ·rename_i e;cases e
 ·rfl
theorem sliceB_ok (htb:TBOK P tb) {im:List Nat} {o:Oper} {d:Nat} (hd:o.dst=some d) (hn:d<E.n) {q:Nat×Pl (AT×List Ob)} (hs:sliceB tb im o D H=some q) {v:AT} {H':List Ob} (hv:q.2.has (v,H')):(∀F,OpOK P o E F D H v H')/\Unt [q.1] H H':=by
 obtain⟨dst,op,ty,pos,af,gd⟩:=o
 simp only at hd
 subst hd
 unfold sliceB at hs
 simp only at hs
 split at hs
 ·rename_i t x y d' e
  cases e
  split at hs
  ·split at hs
   ·rename_i id hx
    cases hs
    simp only at hv ⊢
    split at hv
    ·rename_i T T' n xs i ht hr hy
     obtain⟨ti,h1,h2⟩:=Option.bind_eq_some_iff.1 ht
     split at hv
     ·rename_i zs hc
      obtain⟨rfl,rfl⟩:=castL_some hc
      obtain⟨ys,e1,e2⟩:=hv
      cases e2
      obtain⟨q1,q2,rfl⟩:=restL_some e1
      refine⟨λF=>op_sliceB htb hn h1 h2 hx hr hy q1 q2,λj z hz hj=> ?_⟩
      have hl:=(gI.1 hz).1
      rw[aL (by simpa using hl),sN (λe=>hj (by simp[e]))]
      exact hz
     ·cases hv
    ·cases hv
   ·cases hs
  ·cases hs
 ·rename_i t x y d' e
  cases e
  split at hs
  ·split at hs
   ·rename_i id hx
    cases hs
    simp only at hv ⊢
    split at hv
    ·rename_i T T' n xs i ht hr hy
     obtain⟨ti,h1,h2⟩:=Option.bind_eq_some_iff.1 ht
     split at hv
     ·rename_i zs hc
      obtain⟨rfl,rfl⟩:=castL_some hc
      obtain⟨ys,e1,e2⟩:=hv
      cases e2
      obtain⟨q1,q2,rfl⟩:=takeL_some e1
      refine⟨λF=>op_sliceT htb hn h1 h2 hx hr hy q1 q2,λj z hz hj=> ?_⟩
      have hl:=(gI.1 hz).1
      rw[aL (by simpa using hl),sN (λe=>hj (by simp[e]))]
      exact hz
     ·cases hv
    ·cases hv
   ·cases hs
  ·cases hs
 ·cases hs
theorem nilC_le {ρ:Rho} {H:List Ob} {c:C} {v:V} (h:CR ρ H c v):∃v',CR ρ H (nilC c) v'/\∀(I:Nat->Prop) (w:World) (ι:List Abs.Inf) (u:Value),Abs.VR I w ι v u->Abs.VR I w ι v' u:=by
 unfold nilC
 split
 ·rename_i T
  have hh:v= .lit (.slice none 0 0)/\0<szT T:=by
   cases h with
   |fl h=>cases h
   |nil hp=>exact⟨rfl,hp⟩
  obtain⟨rfl,hp⟩:=hh
  refine⟨.imm (szT T) [],.fl (FR.nil_ hp),λI w ι u hu=> ?_⟩
  cases hu with
  |lit _=>exact .imm0 (Nat.zero_le _)
 ·exact⟨v,h,λ_ _ _ _ h=>h⟩
theorem nilCs_le {ρ:Rho} {H:List Ob}:∀{cs:List C} {vs:List V},CRs ρ H cs vs->∃vs',CRs ρ H (cs.map nilC) vs'/\vs'.length=vs.length/\∀(j:Nat) (h1:j<vs.length) (h2:j<vs'.length) (I:Nat->Prop) (w:World) (ι:List Abs.Inf) (u:Value),Abs.VR I w ι vs[j] u->Abs.VR I w ι vs'[j] u
 |[],vs,h=>⟨vs,h,rfl,λj h1 h2=>λ_ _ _ _ h=>h⟩
 |c::cs,[],h=>by have:=h.1;simp at this
 | c :: cs, v :: vs, h => by
  have h0:CR ρ H c v:=h.2 0 (by simp) (by simp)
  have hs:CRs ρ H cs vs:=⟨by have:=h.1;simpa using this,λj h1 h2=>by
   have:=h.2 (j+1) (by simpa using h1) (by simpa using h2)
   simpa using this⟩
  obtain⟨v',a1,a2⟩:=nilC_le h0
  obtain⟨vs',b1,b2,b3⟩:=nilCs_le hs
  refine⟨v'::vs',CRs.cons a1 b1,by simp[b2],λj h1 h2=> ?_⟩
  cases j with
  |zero=>exact a2
  |succ j=>exact b3 j (by simpa using h1) (by simpa using h2)
theorem nilA_le {ρ:Rho} {H:List Ob} {x:AT} {a:AV} (h:ATR ρ H x a):∃a',ATR ρ H (nilA x) a'/\∀(I:Nat->Prop) (w:World) (ι:List Abs.Inf) (u:Value),Abs.AR ι I w a u->Abs.AR ι I w a' u:=by
 cases h with
 | @one c v h =>
  obtain⟨v',a1,a2⟩:=nilC_le h
  exact⟨.one v',.one a1,λI w ι u hu=>by
   cases hu with
   |one hu=>exact .one (a2 I w ι u hu)⟩
 | @agg cs vs h =>
  obtain⟨vs',a1,a2,a3⟩:=nilCs_le h
  refine⟨.agg vs',.agg a1,λI w ι u hu=> ?_⟩
  cases hu with
  | @agg _ cs f hl hcs hr=>
   exact .agg (f:=f) (by omega) (λj hj=>hcs j (by omega)) (λj hj=>a3 j (by omega) hj _ _ _ _ (hr j (by omega)))
 | @tup xs ys hl h=>exact⟨.tup ys,.tup hl h,λ_ _ _ _ h=>h⟩
theorem nilA_op {o:Oper} {d:Nat} (hd:o.dst=some d) {v:AT} {H':List Ob} {L:Env} {h:Heap} {ρ:Rho} (hh:ar P o E (Post F H ρ o.dst L v H') L h):ar P o E (Post F H ρ o.dst L (nilA v) H') L h:=by
 refine ar_post hh ?_
 rintro L2 h2 ⟨ρ',av,rfl,m1,m2,m3,m4⟩
 obtain⟨av',a1,a2⟩:=nilA_le m1
 refine⟨Abs.bindD o.dst av' L,h2,⟨ρ',av',rfl,a1,m2,m3,m4⟩,λLf=>⟨λE ι I a w r=>⟨I,{r with slots:=λt u hu=> ?_}⟩⟩⟩
 rw[hd]at hu r
 simp only[Abs.bindD,List.cons_append,List.lookup_cons]at hu
 have rs:=r.slots t
 simp only[Abs.bindD,List.cons_append,List.lookup_cons]at rs
 split at hu
 ·rename_i e
  rw[e]at rs
  obtain⟨c,c1,c2⟩:=rs av rfl
  cases hu
  exact⟨c,c1,a2 _ _ _ _ c2⟩
 ·rename_i e
  rw[e]at rs
  exact rs u hu
theorem oneS_ok (htb:TBOK P tb) (hO:OrcOK P O) {nt:Nat} (hE:E.n=nt) {im:List Nat} {o:Oper} {K:AT->List Ob->Option R} {r:R} (hc:oneS tb O nt im o D H K=some r):∃v H',K v H'=some r/\∀F,OpOK P o E F D H v H'/\Unt (touchS tb O im o D H) H H':=by
 have plain:∀{K:AT->List Ob->Option R},sliceB tb im o D H=none->one tb O nt o D H K=some r->∃v H',K v H'=some r/\∀F,OpOK P o E F D H v H'/\Unt (touchS tb O im o D H) H H':=λ{K} hq hc=>let⟨v,H',h1,h2,h3⟩:=one_ok htb hO hE hc;⟨v,H',h1,λF=>⟨h2 F,by unfold touchS;rw[hq];exact h3⟩⟩
 unfold oneS at hc
 split at hc
 ·rename_i d hd
  split at hc
  ·obtain⟨v,h1,h2⟩:=oneI_ok (E:=E) htb hE hc
   exact⟨v,H,h1,λF=>⟨h2 F H,.refl _ _⟩⟩
  ·split at hc
   ·rename_i hb
    rw[bA]at hb
    have hq:sliceB tb im o D H=none:=by
     obtain⟨dst,op,ty,pos,af,gd⟩:=o
     have hb:=hb.2
     cases op<;>first|rfl|cases hb
    obtain⟨v,H',h1,h2⟩:=plain hq hc
    exact⟨nilA v,H',h1,λF=>⟨λρ L h hs hh hf=>nilA_op hd ((h2 F).1 ρ L h hs hh hf),(h2 F).2⟩⟩
   ·split at hc
    ·rename_i q hq
     split at hc
     ·rename_i hlt
      obtain⟨z,h1,h2⟩:=Pl.run_has hc
      obtain⟨k1,k2⟩:=sliceB_ok (E:=E) htb hd (by rw[hE];simpa [Nat.blt_eq]using hlt) hq h1
      exact⟨z.1,z.2,h2,λF=>⟨k1 F,by unfold touchS;rw[hq];exact k2⟩⟩
     ·cases hc
    ·rename_i hq
     exact plain hq hc
 ·rename_i hd
  exact plain (sliceB_none hd) hc
def ExtOK (P:Program) (o:Oper) (E:Abs.Cx) (F:In) (D:List (Nat×AT)) (H:List Ob) (v:AT) (H':List Ob):Prop:=
 ∀ρ L h,EncL ρ H D L->HpR ρ H h->Fr F ρ H h->XR F ρ H h->ar P o E (λL2 h2=>∃ρ' av,L2=Abs.bindD o.dst av L/\ATR ρ' H' v av/\HpR ρ' H' h2/\Ev ρ H ρ' H'/\Fr F ρ' H' h2/\XR F ρ' H' h2) L h
theorem eqN_some {a b n:Nat} {u:Unit} (h:eqN a b n=some u):a=b/\a<n:=by
 unfold eqN at h
 cases hb:Nat.beq a b with
 | true =>
  cases hc:Nat.blt a n with
  |true=>exact⟨nB hb,by simpa [Nat.blt_eq]using hc⟩
  |false=>rw[hb,hc]at h;cases h
 |false=>rw[hb]at h;cases h
theorem okX_same {ids:List Nat} {H':List Ob} (hu:Unt ids H H') (hk:okX H ids H'=true):RowsSame H H':=λid y hy hr=>by
 unfold okX at hk
 rw[bA]at hk
 by_cases hid:id<H.length
 ·by_cases hm:id∈ids
  ·have:=aT.1 hk.1 id hm
   rw[hy]at this
   have t2:(!y.isRows)=true:=this
   rw[hr]at t2
   cases t2
  ·have e:=List.getElem?_eq_getElem hid
   have:=hu id _ e hm
   rw[hy]at this
   cases this
   exact e
 ·have:y∈H'.drop H.length:=by
   refine mG (i:=id-H.length) ?_
   rw[List.getElem?_drop,show H.length+(id-H.length)=id by omega]
   exact hy
  have t2:(!y.isRows)=true:=aT.1 hk.2 y this
  rw[hr]at t2
  cases t2
section
variable {d : Nat} {ty : TypeId} {pos : String} {af : Array Edge} {gd : Option (Nat × Bool)} {id k : Nat} {T : Ty} {xss : List (List (I T))}
theorem ext_make (htb:TBOK P tb) (hn:d<E.n) {t:Nat} {ti:TI} {x y:Operand} {n:Int} (ht:tb t=some ti) (he:ti.elem=some (.sl T)) (hx:ev D x=some (.one (.i n))) (hy:sameOp x y=true) (hm:mk (α:=List (I T)) [] n=some xss) (hnr:(H.all λo=> !o.isRows)=true) (hT:0<szT T):
  ExtOK P ⟨some d,.makeSlice t x y,ty,pos,af,gd⟩ E F D H (.one (.o H.length)) (H++[.rows T xss none]):=λρ L h hs hh hf hxr=>by
 obtain⟨i,G⟩:=htb.get ht
 obtain⟨el,z',g0,g1,g2,g3,g4,g5,g6,g7,g8⟩:=G.elem (.sl T) he
 obtain⟨m1,m2,rfl⟩:=mk_some hm
 obtain⟨m,rfl⟩:=Int.eq_ofNat_of_zero_le m1
 obtain⟨av,a1,a2⟩:=ev_ok hs hx
 obtain⟨u,rfl,a3⟩:=a2.one'
 cases a3.int
 obtain⟨av,b1,b2⟩:=ev_ok hs (sameOp_ok hy hx)
 obtain⟨u,rfl,b3⟩:=b2.one'
 cases b3.int
 have hm2:m<=4294967296:=by omega
 have g7:=Nat.le_of_ble_eq_true g7
 obtain⟨z1,us,z2,z3⟩:=zeros_flat g6
 have hz:el.zero=[.slice none 0 0]:=by
  have e:z'=([]:List (I T)):=by
   have g2:some ([]:List (I T))=some z':=by first|exact g2|exact g2.symm
   exact(Option.some.inj g2).symm
  subst e
  have g6:zerosFlat el.zero [.l T []]=true:=g6
  generalize el.zero=q at g6
  match q,g6 with
  |[],g6=>cases g6
  | [v], g6 =>
   simp only[zerosFlat,Bool.and_true]at g6
   unfold zeroFlat at g6
   split at g6<;>first|rfl|contradiction|cases g6
  |v::v2::q,g6=>simp[zerosFlat]at g6
 have hr:=Abs.ar_make (P:=P) (E:=E) (L:=L) (d:=d) (ty:=ty) (pos:=pos) (af:=af) (gd:=gd) (h0:=h) (l:=[]) (n:=h.length) (m:=m) (K:=λL2 h2=>L2=(d,.one (.own h.length 0 m))::L/\h2=h++[some (.row 1 (List.replicate m [.lit (.slice none 0 0)]))]) G.tb rfl g1 (by intro e;rw[e]at g5;simp at g5;omega) g5 z1 a1 b1 (Nat.le_trans (Nat.mul_le_mul g7 hm2) (by decide)) (by omega) hn ⟨rfl,by rw[g3,hz];rfl⟩
 rw[List.append_nil]at hr
 refine ar_mono hr λL2 h2 ⟨k1,k2⟩=> ?_
 subst k1 k2
 have e1:(H++[Ob.rows T (List.replicate (m:Int).toNat []) none])[H.length]? =some (.rows T (List.replicate (m:Int).toNat []) none):=by simp
 have e2:(ρ++[some h.length])[H.length]? =some (some h.length):=by rw[<-hh.len];simp
 refine⟨ρ++[some h.length],.one (.own h.length 0 m),rfl,.one ?_,hh.push (y:=some (.row 1 (List.replicate m [.lit (.slice none 0 0)]))) trivial,Ev.push _ _,hf.push hh.len _ _,λid' T' xss' ho' hr'=> ?_⟩
 ·have:=CR.oR (ρ:=ρ++[some h.length]) e2 e1
  simpa using this
 ·have old:∀(j:Nat) (y:Ob),(H++[Ob.rows T (List.replicate (m:Int).toNat []) none])[j]? =some y->y.isRows=true->j=H.length:=λj y hj hy=>by
   rcases get_app2 hj with⟨_,hj⟩|⟨hj,_⟩
   ·have t2:(!y.isRows)=true:=aT.1 hnr y (mG hj)
    rw[hy]at t2
    cases t2
   ·exact hj
  have:=old id' _ hr' rfl
  subst this
  rw[e1]at hr'
  cases hr'
  refine⟨old,h.length,List.replicate m [.lit (.slice none 0 0)],e2,by simp,by simp,hT,λe he=> ?_,λj hj hl=> ?_,λhlt=> ?_,?_,λk xs e _ h1 h2=> ?_,λk b n _ h2=> ?_,λk k' b n n' _ _ h2 _=> ?_⟩
  ·rw[(List.mem_replicate.1 he).2];rfl
  ·rcases get_app2 hj with⟨_,hj⟩|⟨hj,_⟩
   ·have:=hh.lt _ _ hj;omega
   ·rw[hh.len]at hj
    subst hj
    obtain⟨y,y1,y2⟩:=hl
    rw[e1]at y1
    cases y1
    cases y2
  ·have:=hf.len;omega
  ·cases hq:F.H[H.length]? with
   |none=>rfl
   | some y =>
    obtain⟨y',y1,_⟩:=hf.ob _ _ hq
    simp at y1
  ·have h1:=mG h1
   have h2:=mG h2
   exact .inl ⟨(List.mem_replicate.1 h2).2,(List.mem_replicate.1 h1).2⟩
  ·have h2:=(List.mem_replicate.1 (mG h2)).2
   cases h2
  ·have h2:=(List.mem_replicate.1 (mG h2)).2
   cases h2
theorem ext_index (htb:TBOK P tb) (hn:d<E.n) {t:Nat} {ti:TI} {T':Ty} {x y:Operand} {i:Int} {e:List (I T)} {ho:Option Nat} (ht:tb t=some ti) (he:ti.elem=some T') (hsz:szT T'=1) (hx:ev D x=some (.one (.o id))) (hr:H[id]? =some (.rows T xss ho)) (hy:ev D y=some (.one (.i i))) (hi:ix xss i=some e):
  ExtOK P ⟨some d,.indexAddr t x y,ty,pos,af,gd⟩ E F D H (.one (.r id i.toNat)) H:=λρ L h hs hh hf hxr=>by
 obtain⟨i',G⟩:=htb.get ht
 obtain⟨el,z,_,g1,_,g2,g3,_⟩:=G.elem T' he
 obtain⟨av,h1,h2⟩:=ev_ok hs hx
 obtain⟨u,rfl,h3⟩:=h2.one'
 obtain⟨aw,k1,k2⟩:=ev_ok hs hy
 obtain⟨u,rfl,k3⟩:=k2.one'
 cases k3.int
 obtain⟨h5,h6⟩:=ix_some hi
 have hlt:=(gI.1 h6).1
 obtain⟨a,rfl,h4⟩:=h3.ownR hr
 obtain⟨_,a',es,X⟩:=hxr id T xss ho hr
 have e0:=X.rho
 rw[h4]at e0
 cases e0
 refine Abs.ar_indexOwn G.tb h1 k1 g1 X.main (g2.trans hsz) (by omega) h5 (by omega) hn ⟨ρ,_,rfl,by rw[Nat.zero_add];exact .one (.r h4),hh,Ev.refl _ _,hf,hxr⟩
theorem ext_load (htb:TBOK P tb) (hn:d<E.n) {t:Nat} {ti:TI} {x:Operand} {ys:List (I T)} (ht:tb t=some ti) (hag:ti.agg=false) (hx:ev D x=some (.one (.r id k))) (hr:H[id]? =some (.rows T xss none)) (hk:xss[k]? =some ys):
  ExtOK P ⟨some d,.load t x,ty,pos,af,gd⟩ E F D H (.one (.o H.length)) (H.set id (.rows T xss (some k))++[.row T 0 ys]):=λρ L h hs hh hf hxr=>by
 obtain⟨i,G⟩:=htb.get ht
 obtain⟨av,h1,h2⟩:=ev_ok hs hx
 obtain⟨u,rfl,h3⟩:=h2.one'
 obtain⟨a,rfl,h4⟩:∃a,u= .ptr a k 0/\ρ[id]? =some (some a):=by cases h3 with|fl h=>cases h|r h=>exact⟨_,rfl,h⟩
 obtain⟨uniq,a',es,X⟩:=hxr id T xss none hr
 have e0:=X.rho
 rw[h4]at e0
 cases e0
 have hid:=(gI.1 hr).1
 have hkl:k<es.length:=by rw[X.len];exact(gI.1 hk).1
 have hes:es[k]? =some es[k]:=List.getElem?_eq_getElem hkl
 have hel:∃v,es[k]=[v]:=List.length_eq_one_iff.1 (X.one _ (gM hkl))
 obtain⟨v,hv⟩:=hel
 have hlen:(H.set id (Ob.rows T xss (some k))).length=H.length:=by simp
 have eid:(H.set id (Ob.rows T xss (some k))++[Ob.row T 0 ys])[id]? =some (.rows T xss (some k)):=by
  rw[aL (by simpa using hid),sS hid]
 have enew:(H.set id (Ob.rows T xss (some k))++[Ob.row T 0 ys])[H.length]? =some (.row T 0 ys):=by
  rw[aR (by simp)];simp
 have eold:∀{j:Nat},j≠id->j<H.length->(H.set id (Ob.rows T xss (some k))++[Ob.row T 0 ys])[j]? =H[j]? :=λ{j} hj hl=>by
  rw[aL (by simpa using hl),sN (λe=>hj e.symm)]
 -- the objects ahead: as they were
 have evo1:∀z,Ev ρ H (ρ++[z]) (H.set id (.rows T xss (some k))++[.row T 0 ys]):=λz=>by
  have e1:Ev ρ H ρ (H.set id (.rows T xss (some k))):=Ev.set hr (.inr (.inr (.inr (.inr ⟨_,_,_,rfl,_,_,_,rfl,rfl⟩))))
  exact e1.trans (Ev.push _ _)
 have rows:∀(j:Nat) (y:Ob),(H.set id (Ob.rows T xss (some k))++[Ob.row T 0 ys])[j]? =some y->y.isRows=true->j=id:=λj y hj hy=>by
  rcases get_app2 hj with⟨hl,hj⟩|⟨_,rfl⟩
  ·rcases set_get hj with⟨h1,_,_⟩|⟨_,hj⟩
   ·exact h1
   ·exact uniq j y hj hy
  ·cases hy
 have lv:∀{j:Nat},live (H.set id (Ob.rows T xss (some k))++[Ob.row T 0 ys]) j->j≠H.length->j≠id/\live H j:=λ{j} ⟨y,y1,y2⟩ hne=>by
  rcases get_app2 y1 with⟨hl,y1⟩|⟨h1,_⟩
  ·rcases set_get y1 with⟨_,rfl,_⟩|⟨h2,y1⟩
   ·cases y2
   ·exact⟨h2,y,y1,y2⟩
  ·rw[hlen]at h1;exact absurd h1 hne
 have ob1:∀z,(∀(a:Nat),z=some a->∃es',h[a]? =some (some (.row (szT T) es'))/\FR (.l T ys) (.imm (szT T) es'))->(z=none->ys=[])->(∀(b:Nat),z=some b->b<h.length/\NotLive ρ H b)->HpR (ρ++[z]) (H.set id (.rows T xss (some k))++[.row T 0 ys]) h:=λz q1 q2 q3=>by
  refine HpR.mk' (by simp[hh.len]) (λj y hy=> ?_) (λi j b k1 k2 l1 l2=> ?_) (λi b k1=> ?_)
  ·rcases get_app2 hy with⟨hl,hy'⟩|⟨h1,rfl⟩
   ·rcases set_get hy' with⟨rfl,rfl,_⟩|⟨hne,hy'⟩
    ·exact .inr (.inr rfl)
    ·rcases hh.ob hy' with⟨b,w,m1,m2,m3⟩|⟨m1,m2⟩|m1
     ·exact .inl ⟨b,w,app_get m1,m2,m3.mono (evo1 z)⟩
     ·exact .inr (.inl ⟨app_get m1,m2⟩)
     ·exact .inr (.inr m1)
   ·rw[hlen]at h1
    subst h1
    have ez:(ρ++[z])[H.length]? =some z:=by rw[<-hh.len];simp
    cases z with
    |none=>exact .inr (.inl ⟨ez,T,0,by rw[q2 rfl],X.pos⟩)
    | some b =>
     obtain⟨es',p1,p2⟩:=q1 b rfl
     exact .inl ⟨b,_,ez,p1,es',rfl,p2⟩
  ·rcases get_app2 k1 with⟨i1,k1⟩|⟨i1,k1⟩<;>rcases get_app2 k2 with⟨j1,k2⟩|⟨j1,k2⟩
   ·rw[hh.len]at i1 j1
    exact hh.inj i j b k1 k2 (lv l1 (by omega)).2 (lv l2 (by omega)).2
   ·rw[hh.len]at i1
    exact absurd (lv l1 (by omega)).2 ((q3 b k2).2 i k1)
   ·rw[hh.len]at j1
    exact absurd (lv l2 (by omega)).2 ((q3 b k1).2 j k2)
   ·omega
  ·rcases get_app2 k1 with⟨_,k1⟩|⟨_,k1⟩
   ·exact hh.lt _ _ k1
   ·exact(q3 b k1).1
 have fr1:∀z,(∀(b:Nat),z=some b->OldOK F b)->Fr F (ρ++[z]) (H.set id (.rows T xss (some k))++[.row T 0 ys]) h:=λz q=>by
  refine⟨hf.len,λj b hj hl hb=> ?_,hf.same,λj w hw=>app_get (hf.rho j w hw),λj y hy=> ?_⟩
  ·rcases get_app2 hj with⟨hl1,hj⟩|⟨_,hj⟩
   ·rw[hh.len]at hl1
    exact hf.old j b hj (lv hl (by omega)).2 hb
   ·exact q b hj hb
  ·obtain⟨w,w1,w2⟩:=hf.ob j y hy
   have hne:j≠id:=λe=>by subst e;rw[X.new]at hy;cases hy
   exact⟨w,by rw[eold hne (gI.1 w1).1];exact w1,w2⟩
 have xr1:∀z,(∀(b:Nat),z=some b->v= .own b 0 ys.length/\b≠a)->XR F (ρ++[z]) (H.set id (.rows T xss (some k))++[.row T 0 ys]) h:=λz q id' T' xss' ho' hr'=>by
  have:=rows id' _ hr' rfl
  subst this
  rw[eid]at hr'
  cases hr'
  have nl:∀b,NotLive ρ H b->(∀c,z=some c->c≠b)->NotLive (ρ++[z]) (H.set id' (Ob.rows T xss (some k))++[Ob.row T 0 ys]) b:=λb hb hc j hj hl=>by
   rcases get_app2 hj with⟨hl1,hj⟩|⟨_,hj⟩
   ·rw[hh.len]at hl1
    exact hb j hj (lv hl (by omega)).2
   ·exact hc b hj rfl
  refine⟨rows,a,es,app_get h4,X.main,X.len,X.pos,X.one,nl a X.nl (λc hc=>(q c hc).2),X.old,X.new,λm xs e g1 g2 g3=>X.sub m xs e (by simp) g2 g3,λm b n g1 g2=> ?_,λm m' b n n' g1 g2=>X.inj m m' b n n' (by simp) (by simp)⟩
  obtain⟨p1,p2,p3,p4⟩:=X.subs m b n (by simp) g2
  refine⟨p1,p2,nl b p3 (λc hc e=> ?_),p4⟩
  subst e
  obtain⟨p5,_⟩:=q c hc
  have:m=k:=X.inj m k c n ys.length (by simp) (by simp) g2 (by rw[hes,hv,p5])
  exact g1 (by rw[this])
 refine Abs.ar_loadO G.tb h1 G.look X.main hes (v:=.one v) (by rw[hv,G.agg.trans hag];rfl) hn ?_
 rcases X.sub k ys _ (by simp) hk hes with⟨e1,e2⟩|⟨b,es',e1,e2,e3⟩
 ·rw[hv]at e1
  cases e1
  refine⟨ρ++[none],_,rfl,.one (.oN (n:=0) (T:=T) (xs:=ys) (by rw[<-hh.len];simp) enew),ob1 none (λ_ h=>by cases h) (λ_=>e2) (λ_ h=>by cases h),evo1 none,fr1 none (λ_ h=>by cases h),xr1 none (λ_ h=>by cases h)⟩
 ·have e1':=e1
  rw[hv]at e1
  cases e1
  obtain⟨p1,p2,p3,p4⟩:=X.subs k b _ (by simp) (by rw[hes,e1'])
  refine⟨ρ++[some b],_,rfl,.one (.o (n:=0) (T:=T) (xs:=ys) (by rw[<-hh.len];simp) enew),ob1 _ (λc h=>by cases h;exact⟨es',e2,e3⟩) (λh=>by cases h) (λc h=>by cases h;exact⟨p2,p3⟩),evo1 _,fr1 _ (λc h=>by cases h;exact p4),xr1 _ (λc h=>by cases h;exact⟨rfl,p1⟩)⟩
theorem ext_store (htb:TBOK P tb) {t j n:Nat} {ti:TI} {x y:Operand} {ys:List (I T)} (ht:tb t=some ti) (hsz:ti.size=1) (hx:ev D x=some (.one (.r id k))) (hy:ev D y=some (.one (.o j))) (hr:H[id]? =some (.rows T xss (some k))) (hj:H[j]? =some (.row T n ys)) (hne:id≠j) (hkb:k<xss.length):
  ExtOK P ⟨none,.store t x y,ty,pos,af,gd⟩ E F D H (.tup []) ((H.set id (.rows T (xss.set k ys) none)).set j .gone):=λρ L h hs hh hf hxr=>by
 obtain⟨i,G⟩:=htb.get ht
 obtain⟨av,h1,h2⟩:=ev_ok hs hx
 obtain⟨u,rfl,h3⟩:=h2.one'
 obtain⟨a,rfl,h4⟩:∃a,u= .ptr a k 0/\ρ[id]? =some (some a):=by cases h3 with|fl h=>cases h|r h=>exact⟨_,rfl,h⟩
 obtain⟨uniq,a',es,X⟩:=hxr id T xss (some k) hr
 have e0:=X.rho
 rw[h4]at e0
 cases e0
 obtain⟨aw,c1,c2⟩:=ev_ok hs hy
 obtain⟨v,rfl,c3⟩:=c2.one'
 have hid:=(gI.1 hr).1
 have halt:a<h.length:=(gI.1 X.main).1
 have hjl:=(gI.1 hj).1
 obtain⟨hj2,hgo⟩:((H.set id (Ob.rows T (xss.set k ys) none))[j]? =some (.row T n ys))/\True:=⟨by rw[sN hne];exact hj,trivial⟩
 have hlv:∀{m:Nat},live ((H.set id (Ob.rows T (xss.set k ys) none)).set j .gone) m->m≠id/\m≠j/\live H m:=λ{m} ⟨y,y1,y2⟩=>by
  rcases set_get y1 with⟨_,rfl,_⟩|⟨q1,y1⟩
  ·cases y2
  ·rcases set_get y1 with⟨_,rfl,_⟩|⟨q2,y1⟩
   ·cases y2
   ·exact⟨q2,q1,y,y1,y2⟩
 have eid:((H.set id (Ob.rows T (xss.set k ys) none)).set j .gone)[id]? =some (.rows T (xss.set k ys) none):=by
  rw[sN (λe=>hne e.symm),sS hid]
 have rest:∀{m:Nat},m≠id->m≠j->((H.set id (Ob.rows T (xss.set k ys) none)).set j .gone)[m]? =H[m]? :=λ{m} q1 q2=>by
  rw[sN (λe=>q2 e.symm),sN (λe=>q1 e.symm)]
 have ejg:((H.set id (Ob.rows T (xss.set k ys) none)).set j .gone)[j]? =some .gone:=sS (by simpa using hjl)
 have evo1:Ev ρ H ρ ((H.set id (.rows T (xss.set k ys) none)).set j .gone):=
  (Ev.set hr (.inr (.inr (.inr (.inr ⟨_,_,_,rfl,_,_,_,rfl,by simp⟩))))).trans (Ev.set hj2 (evo.goes _))
 -- the row that is put back
 have hv:(v= .lit (.slice none 0 0)/\ys=[])\/∃b es',v= .own b 0 ys.length/\ρ[j]? =some (some b)/\h[b]? =some (some (.row (szT T) es'))/\FR (.l T ys) (.imm (szT T) es'):=by
  rcases c3.own hj with⟨b,rfl,q⟩|⟨rfl,q⟩
  ·rcases hh.row j n T ys hj with⟨b',es',q1,q2,q3⟩|⟨q1,_⟩
   ·rw[q]at q1;cases q1
    exact .inr ⟨b,es',rfl,q,q2,q3⟩
   ·rw[q]at q1;cases q1
  ·rcases hh.row j n T ys hj with⟨b',es',q1,q2,q3⟩|⟨_,q1,_⟩
   ·rw[q]at q1;cases q1
   ·exact .inl ⟨rfl,q1⟩
 have hjlive:live H j:=⟨_,hj,rfl⟩
 have hb:∀{b m:Nat},v= .own b 0 m->ρ[j]? =some (some b)/\b≠a/\b<h.length/\OldOK F b:=λ{b m} e=>by
  rcases hv with⟨q,_⟩|⟨b',es',q,q1,_⟩
  ·rw[e]at q;cases q
  ·rw[e]at q;cases q
   exact⟨q1,λe=>X.nl j (by rw[<-e];exact q1) hjlive,hh.lt _ _ q1,hf.old j b q1 hjlive⟩
 have key:∀e0,es[k]? =some e0->ar P ⟨none,.store t x y,ty,pos,af,gd⟩ E (λL2 h2=>∃ρ' av,L2=Abs.bindD none av L/\ATR ρ' ((H.set id (.rows T (xss.set k ys) none)).set j .gone) (.tup []) av/\HpR ρ' ((H.set id (.rows T (xss.set k ys) none)).set j .gone) h2/\Ev ρ H ρ' ((H.set id (.rows T (xss.set k ys) none)).set j .gone)/\Fr F ρ' ((H.set id (.rows T (xss.set k ys) none)).set j .gone) h2/\XR F ρ' ((H.set id (.rows T (xss.set k ys) none)).set j .gone) h2) L h:=λe0 he0=>by
  have hkl:=(gI.1 he0).1
  have hkx:k<xss.length:=by rw[<-X.len];exact hkl
  have hsp:Abs.splice e0 0 [v]=[v]:=by
   obtain⟨v0,hv0⟩:=List.length_eq_one_iff.1 (X.one e0 (mG he0))
   rw[hv0];rfl
  have hsame:∀c,c≠a->(h.set a (some (.row 1 (es.set k [v]))))[c]? =h[c]? :=λc hc=>sN (λe=>hc e.symm)
  refine Abs.ar_store G.tb h1 c1 rfl G.look (by rw[G.size,hsz];rfl) X.main he0 (by simp) ⟨ρ,.tup [],rfl,unit_ok,?_,evo1,?_,?_⟩
  ·rw[hsp]
   refine HpR.mk' (by simp[hh.len]) (λm z hz=> ?_) (λp q b k1 k2 l1 l2=>hh.inj p q b k1 k2 (hlv l1).2.2 (hlv l2).2.2) (λp b k1=>by rw[List.length_set];exact hh.lt _ _ k1)
   by_cases hd:z.dead=true
   ·exact .inr (.inr hd)
   have hd:z.dead=false:=by simpa using hd
   obtain⟨q1,q2,z0,q3,q4⟩:=hlv ⟨z,hz,hd⟩
   rw[rest q1 q2,q3]at hz
   cases hz
   rcases hh.ob q3 with⟨b,w,m1,m2,m3⟩|m1|m1
   ·exact .inl ⟨b,w,m1,by rw[hsame b (λe=>X.nl m (by rw[<-e];exact m1) ⟨_,q3,q4⟩)];exact m2,m3.mono evo1⟩
   ·exact .inr (.inl m1)
   ·exact .inr (.inr m1)
  ·rw [hsp]
   refine⟨by rw[List.length_set];exact hf.len,λm b g1 g2 g3=>hf.old m b g1 (hlv g2).2.2 g3,λc g1 g2=> ?_,hf.rho,λm z hz=> ?_⟩
   ·rw[hsame c (λe=>by
     subst e
     obtain⟨id0,p1,p2⟩:=X.old g1
     exact g2 id0 p1 p2)]
    exact hf.same c g1 g2
   ·obtain⟨w,w1,w2⟩:=hf.ob m z hz
    have hm:m≠id:=λe=>by subst e;rw[X.new]at hz;cases hz
    by_cases hmj:m=j
    ·subst hmj;exact⟨_,ejg,.inl rfl⟩
    ·exact⟨w,by rw[rest hm hmj];exact w1,w2⟩
  ·rw [hsp]
   intro id' T' xss' ho' hr'
   have uq:∀(m:Nat) (z:Ob),((H.set id (Ob.rows T (xss.set k ys) none)).set j .gone)[m]? =some z->z.isRows=true->m=id:=λm z hz hzr=>by
    rcases set_get hz with⟨_,rfl,_⟩|⟨_,hz⟩
    ·cases hzr
    ·rcases set_get hz with⟨q,_,_⟩|⟨_,hz⟩
     ·exact q
     ·exact uniq m z hz hzr
   have:=uq id' _ hr' rfl
   subst this
   rw[eid]at hr'
   cases hr'
   have nl:∀b,NotLive ρ H b->NotLive ρ ((H.set id' (Ob.rows T (xss.set k ys) none)).set j .gone) b:=λb hb m hm hl=>hb m hm (hlv hl).2.2
   refine⟨uq,a,es.set k [v],h4,sS halt,by simp[X.len],X.pos,λe he=> ?_,nl a X.nl,X.old,X.new,λm xs e _ g2 g3=> ?_,λm b q _ g2=> ?_,λm m' b q q' _ _ g1 g2=> ?_⟩
   ·rcases List.mem_or_eq_of_mem_set he with he|rfl
    ·exact X.one e he
    ·rfl
   ·by_cases hm:m=k
    ·subst hm
     rw[sS hkx]at g2
     rw[sS hkl]at g3
     cases g2
     cases g3
     rcases hv with⟨q1,q2⟩|⟨b,es',q1,q2,q3,q4⟩
     ·exact .inl ⟨by rw[q1],q2⟩
     ·exact .inr ⟨b,es',by rw[q1],by rw[hsame b (hb q1).2.1];exact q3,q4⟩
    ·rw[sN (λe=>hm e.symm)]at g2 g3
     have hm':some k≠some m:=λe=>hm (by cases e;rfl)
     rcases X.sub m xs e hm' g2 g3 with l|⟨b,es',rfl,p1,p2⟩
     ·exact .inl l
     ·exact .inr ⟨b,es',rfl,by rw[hsame b (X.subs m b _ hm' g3).1];exact p1,p2⟩
   ·by_cases hm:m=k
    ·subst hm
     rw[sS hkl]at g2
     cases g2
     obtain⟨p1,p2,p3,p4⟩:=hb rfl
     refine⟨p2,by rw[List.length_set];exact p3,λm' hm' hl'=> ?_,p4⟩
     obtain⟨_,w2,w3⟩:=hlv hl'
     exact w2 (hh.inj _ _ _ hm' p1 w3 hjlive)
    ·rw[sN (λe=>hm e.symm)]at g2
     obtain⟨p1,p2,p3,p4⟩:=X.subs m b q (λe=>hm (by cases e;rfl)) g2
     exact⟨p1,by rw[List.length_set];exact p2,nl b p3,p4⟩
   ·by_cases hm:m=k<;>by_cases hm':m'=k
    ·omega
    ·subst hm
     rw[sS hkl]at g1
     cases g1
     rw[sN (λe=>hm' e.symm)]at g2
     exact((X.subs m' b q' (λe=>hm' (by cases e;rfl)) g2).2.2.1 j (hb rfl).1 hjlive).elim
    ·subst hm'
     rw[sS hkl]at g2
     cases g2
     rw[sN (λe=>hm e.symm)]at g1
     exact((X.subs m b q (λe=>hm (by cases e;rfl)) g1).2.2.1 j (hb rfl).1 hjlive).elim
    ·rw[sN (λe=>hm e.symm)]at g1
     rw[sN (λe=>hm' e.symm)]at g2
     exact X.inj m m' b q q' (λe=>hm (by cases e;rfl)) (λe=>hm' (by cases e;rfl)) g1 g2
 exact key _ (List.getElem?_eq_getElem (by rw[X.len];exact hkb))
end
theorem extD_ok (htb:TBOK P tb) {im:List Nat} {o:Oper} {p:Pl (AT×List Ob)} (he:extD tb im o D H=some p) {v:AT} {H':List Ob} (hv:p.has (v,H')) (hd:∀d,o.dst=some d->d<E.n):ExtOK P o E F D H v H':=by
 obtain⟨dst,op,ty,pos,af,gd⟩:=o
 unfold extD at he
 simp only at he hd
 split at he
 ·rename_i t x y d
  have hn:=hd d rfl
  split at he
  ·cases he
   split at hv
   ·rename_i T n ht hx hsm
    obtain⟨ti,h1,h2⟩:=Option.bind_eq_some_iff.1 ht
    split at hv
    ·rename_i hc
     rw[bA]at hc
     obtain⟨xss,e1,e2⟩:=hv
     cases e2
     exact ext_make htb hn h1 h2 hx hsm e1 hc.1 (by simpa [Nat.blt_eq]using hc.2)
    ·cases hv
   ·cases hv
  ·cases he
 ·rename_i t x y d
  split at he
  ·rename_i id hx
   split at he
   ·rename_i T xss ho hr
    cases he
    split at hv
    ·rename_i T' i ht hy
     obtain⟨ti,h1,h2⟩:=Option.bind_eq_some_iff.1 ht
     split at hv
     ·rename_i hsz
      obtain⟨e,e1,e2⟩:=hv
      cases e2
      exact ext_index htb (hd d rfl) h1 h2 (nB hsz) hx hr hy e1
     ·cases hv
    ·cases hv
   ·cases he
  ·cases he
 ·rename_i t x d
  split at he
  ·rename_i id k hx
   cases he
   split at hv
   ·rename_i ti T xss h1 hr
    split at hv
    ·rename_i U hel hag
     obtain⟨ys,e1,e2⟩:=hv
     cases e2
     exact ext_load htb (hd d rfl) h1 hag hx hr e1
    ·cases hv
   ·cases hv
  ·cases he
 ·rename_i t x y
  split at he
  ·rename_i id k j hx hy
   cases he
   split at hv
   ·rename_i ti T xss k' T2 n ys h1 hr hj
    split at hv
    ·rename_i zs hc hsz hne
     obtain⟨u,e1,e2⟩:=hv
     cases e2
     obtain⟨rfl,hlt⟩:=eqN_some e1
     obtain⟨rfl,rfl⟩:=castL_some hc
     exact ext_store htb h1 (nB hsz) hx hy hr hj (λe=>by subst e;rw[Nat.beq_refl]at hne;cases hne) hlt
    ·cases hv
   ·cases hv
  ·cases he
 ·cases he
theorem oneX_ok (htb:TBOK P tb) (hO:OrcOK P O) {nt:Nat} (hE:E.n=nt) {im:List Nat} {o:Oper} {K:AT->List Ob->Option R} {r:R} (hc:oneX tb O nt im o D H K=some r):∃v H',K v H'=some r/\ExtOK P o E F D H v H':=by
 unfold oneX at hc
 split at hc
 ·rename_i p he
  split at hc
  ·rename_i d hd
   split at hc
   ·rename_i hlt
    obtain⟨q,h1,h2⟩:=Pl.run_has hc
    exact⟨q.1,q.2,h2,extD_ok htb he h1 λd' h'=>by rw[hd]at h';cases h';rw[hE];simpa [Nat.blt_eq]using hlt⟩
   ·cases hc
  ·rename_i hd
   obtain⟨q,h1,h2⟩:=Pl.run_has hc
   exact⟨q.1,q.2,h2,extD_ok htb he h1 λd' h'=>by rw[hd]at h';cases h'⟩
 ·obtain⟨v,H',k1,k2⟩:=oneS_ok (E:=E) htb hO hE hc
  split at k1
  ·rename_i hok
   refine⟨v,H',k1,λρ L h hs hp hf hx=>ar_mono ((k2 ⟨h,ρ,H⟩).1 ρ L h hs hp (Fr.refl _ _ _)) ?_⟩
   rintro L3 h3 ⟨ρ',av,rfl,m1,m2,m3,m4⟩
   exact⟨ρ',av,rfl,m1,m2,m3,hf.trans m4,hx.keep m4 (okX_same (k2 ⟨h,ρ,H⟩).2 hok)⟩
  ·cases k1
theorem pairL_some {α:Type} {xs ys zs:List α} {i:Int} (h:pairL xs ys i=some zs):0<=i/\i<=xs.length/\lim (ys++xs.drop i.toNat)=some zs:=by
 unfold pairL at h
 cases hb:decide (0<=i)&&decide (i<=(xs.length:Int))with
 | true =>
  rw[hb]at h
  simp only[bA,decide_eq_true_eq]at hb
  exact⟨hb.1,hb.2,h⟩
 |false=>rw[hb]at h;cases h
theorem pair_ok (htb:TBOK P tb) {d1 d2:Nat} {ty:TypeId} {pos:String} {af:Array Edge} (hn1:d1<E.n) (hn2:d2<E.n) {t t1 t2 id id2 n m z:Nat} {ti ti1 ti2:TI} {T U:Ty} {x y:Operand} {i:Int} {xs ys zs:List (I T)} {ty2:TypeId} {pos2:String} {af2:Array Edge} {ops:Array Oper} {rest:List Oper} {K:Env->Heap->Prop} (ht:tb t=some ti) (he:ti.elem=some T) (ht1:tb t1=some ti1) (he1:ti1.elem=some T) (ht2:tb t2=some ti2) (he2:ti2.elem=some U)
  (hs:EncL ρ H D L) (hh:HpR ρ H h) (hf:Fr F ρ H h) (hxr:XR F ρ H h) (hx:ev D x=some (.one (.o id))) (hr:H[id]? =some (.row T n xs)) (hy:ev D y=some (.one (.i i))) (hz:D.lookup z=some (.one (.o id2))) (hr2:H[id2]? =some (.row T m ys)) (hzd:z≠d1) (hi:0<=i) (hle:i<=xs.length) (hl:lim (ys++xs.drop i.toNat)=some zs)
  (hk:∀ρ' L' h',SR F ρ' ⟨(d2,.one (.o H.length))::(d1,.one (.o id2))::D,(H.set id2 .gone)++[.row T 0 zs]⟩ L' h'->Abs.ao P ops rest E K L' h'):
  Abs.ao P ops (⟨some d1,.slice t x (some y) none none,ty,pos,af,none⟩::⟨some d2,.call ⟨.builtin .append,#[.tmp z,.tmp d1],#[t1,t2]⟩,ty2,pos2,af2,none⟩::rest) E K L h:=by
 refine Abs.ao_step rfl (view_ok htb hn1 ht he hs hh hx hr hy hi hle λv ns h1 h2=>Abs.ao_step rfl ?_)
 obtain⟨j,G2⟩:=htb.get ht2
 obtain⟨el',z'',k0,k1,_⟩:=G2.elem U he2
 obtain⟨vz,z1,z2⟩:=hs z _ hz
 have hs2:EncL ρ H [(z,.one (.o id2))] ((d1,.one v)::L):=λs u hu=>by
  simp only[List.lookup_cons,List.lookup_nil]at hu
  split at hu
  ·rename_i e
   have:=eq_of_beq e
   subst this
   cases hu
   refine⟨vz,?_,z2⟩
   rw[List.lookup_cons,beq_false_of_ne hzd]
   exact z1
  ·cases hu
 refine ar_mono (op_appendA (F:=⟨h,ρ,H⟩) htb hn2 ht1 he1 (x:=.tmp z) (y:=.tmp d1) (D:=[(z,.one (.o id2))]) (by simp[ev]) hr2 hl hs2 hh (Fr.refl _ _ _) ⟨ns,h1,Abs.srcOf_elems G2.tb k1 (by simp[Abs.ev]) h2⟩) ?_
 rintro L3 h3 ⟨ρ',av,rfl,m1,m2,m3,m4⟩
 have hlt:=(gI.1 hr2).1
 have hg:((H.set id2 Ob.gone)++[Ob.row T 0 zs])[id2]? =some .gone:=by
  rw[aL (by simpa using hlt),sS hlt]
 refine hk ρ' _ h3 ⟨?_,m2,hf.trans m4,hxr.keep m4 ?_⟩
 ·exact bindA_enc (dst:=some d2) (bindA_enc (dst:=some d1) (hs.mono m3) (.one (.oG hg))) m1
 ·intro j y hj hy
  by_cases hjl:j<H.length
  ·rw[aL (by simpa using hjl)]at hj
   by_cases e:id2=j
   ·subst e
    rw[sS hlt]at hj
    cases hj
    cases hy
   ·rw[sN e]at hj
    exact hj
  ·rw[aR (by simp;omega)]at hj
   have:=mG hj
   simp at this
   subst this
   cases hy
theorem pairD_ok (htb : TBOK P tb) {nt : Nat} (hE : E.n = nt) {im : List Nat} {ops : Array Oper} {o : Oper} {rest rest2 : List Oper} {o2 : Oper} (hrest : rest = o2 :: rest2) {p : Pl (List (Nat × AT) × List Ob)} (hp : pairD tb nt im o rest D H = some p) {q : List (Nat × AT) × List Ob} (hq : p.has q) {K : Env → Heap → Prop}
  (hs:EncL ρ H D L) (hh:HpR ρ H h) (hf:Fr F ρ H h) (hxr:XR F ρ H h) (hk:∀ρ' L' h',SR F ρ' ⟨q.1,q.2⟩ L' h'->Abs.ao P ops rest2 E K L' h'):Abs.ao P ops (o::rest) E K L h:=by
 subst hrest
 obtain⟨dst,op,ty,pos,af,gd⟩:=o
 obtain⟨dst2,op2,ty2,pos2,af2,gd2⟩:=o2
 unfold pairD at hp
 simp only at hp
 split at hp
 ·rename_i t x y
  split at hp
  ·rename_i d1 o2' _ e
   cases e
   split at hp
   ·split at hp
    ·rename_i args tys d2 e1 e2 e3
     simp only at e1 e2 e3
     subst e1 e2 e3
     split at hp
     ·rename_i z d t1 t2 ha hb
      have ha':args= #[Operand.tmp z,Operand.tmp d]:=by rw[<-Array.toArray_toList (xs:=args),ha]
      have hb':tys= #[t1,t2]:=by rw[<-Array.toArray_toList (xs:=tys),hb]
      subst ha' hb'
      split at hp
      ·rename_i hc
       rw[bA,bA,bA]at hc
       obtain⟨⟨⟨c1,c2⟩,c3⟩,c4⟩:=hc
       have c1:=nB c1
       subst c1
       have c2:z≠d:=λe=>by subst e;simp at c2
       rw[Nat.blt_eq]at c3 c4
       split at hp
       ·rename_i id i id2 hx hy hz
        cases hp
        split at hq
        ·rename_i ti ti1 ti2 _ n xs _ m ys ht ht1 ht2 hr hr2 _
         split at hq
         ·rename_i T T1 U he he1 he2
          split at hq
          ·rename_i xs2 ys2 e1 e2
           obtain⟨rfl,rfl⟩:=castL_some e1
           obtain⟨rfl,rfl⟩:=castL_some e2
           split at hq
           ·rename_i xs3 e3
            obtain⟨rfl,rfl⟩:=castL_some e3
            obtain⟨zs,e4,e5⟩:=hq
            cases e5
            obtain⟨k1,k2,k3⟩:=pairL_some e4
            exact pair_ok htb (by rw[hE];exact c3) (by rw[hE];exact c4) ht he ht1 he1 ht2 he2 hs hh hf hxr hx hr hy hz hr2 c2 k1 k2 k3 hk
           ·cases hq
          ·cases hq
         ·cases hq
        ·cases hq
       ·cases hp
      ·cases hp
     ·cases hp
    ·cases hp
   ·cases hp
  ·cases hp
 ·cases hp
theorem opsD_ok (htb:TBOK P tb) (hO:OrcOK P O) {nt:Nat} (hE:E.n=nt) {im:List Nat} {ops:List Oper} {K:St->Option R} {r:R}:∀{rest:List Oper} {st:St} {ρ:Rho} {L:Env} {h:Heap},opsD tb O nt im ops rest st K=some r->SR F ρ st L h->ao P ops.toArray rest E (λL2 h2=>∃ρ' st',K st'=some r/\SR F ρ' st' L2 h2) L h
 |[],st,ρ,L,h,hc,hs=>Abs.ao_nil ⟨ρ,st,hc,hs⟩
 | o :: rest, st, ρ, L, h, hc, hs => by
  unfold opsD at hc
  obtain⟨L2,h2,sh,hs2⟩:=fzIds_ok (ids:=prepIds O im o st.L) hs
  refine Abs.ao_shift sh ?_
  clear hs sh L h
  obtain⟨st1,e1⟩:∃st1,st1=fzIds (prepIds O im o st.L) st:=⟨_,rfl⟩
  rw[<-e1]at hs2
  simp only[prep,<-e1]at hc
  split at hc
  ·rename_i p hp
   split at hc
   ·rename_i o2 rest2
    obtain⟨q,q1,q2⟩:=Pl.run_has hc
    exact pairD_ok (F:=F) htb hE rfl hp q1 hs2.slots hs2.heap hs2.fr hs2.xr λρ' L' h' hs'=>opsD_ok htb hO hE q2 hs'
   ·cases hc
  obtain⟨D',hsame,hcase⟩:=guardK_ok (λ_ _ h=>h) hc
  have hse:=hsame.enc hs2.slots
  rcases hcase with⟨g,k⟩|⟨g,k⟩
  ·have run:ar P o E (ao P ops.toArray rest E (λL2 h2=>∃ρ' st',K st'=some r/\SR F ρ' st' L2 h2)) L2 h2:=by
    obtain⟨v,H',k1,k2⟩:=oneX_ok (F:=F) htb hO hE k
    refine ar_mono (k2 ρ L2 h2 hse hs2.heap hs2.fr hs2.xr) ?_
    rintro L3 h3 ⟨ρ',av,rfl,m1,m2,m3,m4,m5⟩
    exact opsD_ok htb hO hE k1 ⟨bindA_enc (hse.mono m3) m1,m2,m4,m5⟩
   cases g with
   |run hg=>exact Abs.ao_step hg run
   |runG hg hj hd=>exact Abs.ao_run hg hj (enc_b hs2.slots hd) rfl run
  ·have skip:∀{d'},o.dst=some d'->ao P ops.toArray rest E (λL2 h2=>∃ρ' st',K st'=some r/\SR F ρ' st' L2 h2) ((d',.tup [])::L2) h2:=λ{d'} hdst=>by
    have:=bindA_enc (dst:=o.dst) hse (unit_ok (ρ:=ρ) (H:=st1.H))
    rw[hdst]at this k
    exact opsD_ok htb hO hE k ⟨this,hs2.heap,hs2.fr,hs2.xr⟩
   cases g with
   |skip hg hj hd hp hdst hn=>exact Abs.ao_skip hg hj (enc_b hs2.slots hd) hp hdst (by rw[hE];exact hn) (skip hdst)
   |skipU hg hj hd hdst hn=>exact Abs.ao_skipU hg hj (enc_u hs2.slots hd) hdst (by rw[hE];exact hn) (skip hdst)
end
section
variable {P : Program} {E : Abs.Cx} {F : In} {ρ ρ' : Rho} {H : List Ob} {D : List (Nat × AT)} {L : Env} {h h' : Heap} {R : Type} {tb : Nat → Option TI} {O : Orc}
theorem bindA_eq (dst:Option Nat) (v:AT) (L:List (Nat×AT)):bindA dst v L=Draw.bindD dst v L:=by cases dst<;>rfl
theorem EncL.sub {D':List (Nat×AT)} (h:EncL ρ H D L) (hs:Draw.Sub D' D):EncL ρ H D' L:=λt v hv=>h t v (hs t v hv)
def sys (P : Program) (E : Abs.Cx) (F : In) (ops : Array Oper) (Hm : List Ob) : Draw.Sys P ops AT (List Ob) where
 Rel:=λD H a w=>Le Hm H/\∃ρ L h ι I,SR0 F ρ ⟨D,H⟩ L h/\Abs.Rel E L h ι I a w
 OT:=λo D v H H'=>Le Hm H->Le Hm H'/\((Gd ops E.n o D true/\OpOK P o E F D H v H')\/(Gd ops E.n o D false/\v= .tup []/\H'=H))
 weaken:=λ⟨hle,ρ,L,h,ι,I,hs,r⟩ k=>⟨hle,ρ,L,h,ι,I,⟨hs.slots.sub k,hs.heap,hs.fr⟩,r⟩
 same:=λ⟨hle,ρ,L,h,ι,I,hs,r⟩ e1 e2 e3 e4=>⟨hle,ρ,L,h,ι,I,hs,r.same e1 e2 e3 e4⟩
 sound:=λ{o D Dg v H H' i a w Q K} ht hsub ho ⟨hle,ρ,L,h,ι,I,hs,r⟩ hk=>by
  unfold wpOp
  rw[ho]
  simp only[]
  obtain⟨hle',ht⟩:=ht hle
  rcases ht with⟨g,hop⟩|⟨g,rfl,rfl⟩
  ·have hw:Region.wanted o (yielded ops a.tmps)=true:=by
    cases g with
    |run hg=>simp[Region.wanted,hg]
    | runG hg hj hd =>
     have hy:=r.yields (ops:=ops) hj (enc_b hs.slots (hsub _ _ hd))
     simp[Region.wanted,hg,hy]
   rw[if_pos hw]
   refine .inl (Abs.wp_mono2 ?_ (λ_ _ _ f=>f.elim) ((hop ρ L h (hs.slots.sub hsub) hs.heap hs.fr).get [] ι I a w (by rw[List.append_nil];exact r)))
   rintro a' w' ⟨L',h2,ι',I',⟨ρ',av,rfl,m1,m2,m3,m4⟩,r'⟩
   refine hk a' w' ⟨hle',ρ',_,h2,ι',I',⟨?_,m2,m4⟩,r'.low⟩
   show EncL ρ' _ (Draw.bindD o.dst v Dg) _
   rw[<-bindA_eq]
   exact bindA_enc (hs.slots.mono m3) m1
  ·have fin:∀{d'},o.dst=some d'->d'<E.n->K (a.put (some d') undef) w:=λ{d'} hdst hn=>by
    refine hk _ _ ⟨hle,ρ,_,h,ι,I,⟨?_,hs.heap,hs.fr⟩,r.put hn Abs.AR.none_⟩
    show EncL ρ _ (Draw.bindD o.dst _ Dg) _
    rw[<-bindA_eq,hdst]
    exact bindA_enc (dst:=some d') hs.slots unit_ok
   cases g with
   | skip hg hj hd hp hdst hn =>
    have hy:=r.yields (ops:=ops) hj (enc_b hs.slots (hsub _ _ hd))
    rw[if_neg (by simp[Region.wanted,hg,hy,hp]),hdst]
    exact fin hdst hn
   | skipU hg hj hd hdst hn =>
    have hy:=r.yieldsU (ops:=ops) hj (enc_u hs.slots (hsub _ _ hd))
    rw[if_neg (by simp[Region.wanted,hg,hy]),hdst]
    exact fin hdst hn
theorem dr_same {ops:Array Oper} {S:Draw.Sys P ops AT (List Ob)} {ch rd π σ:List Nat} {D Df:List (Nat×AT)} {hs hf:List (List Ob)} (d:Draw.DR S ch rd π σ D hs Df hf):∀{D':List (Nat×AT)},Same D D'->∃Df',Draw.DR S ch rd π σ D' hs Df' hf/\Same Df Df':=by
 induction d with
 |nil L hs=>exact λh=>⟨_,.nil _ _,h⟩
 | pure ho hc ht _ ih =>
  intro D' h
  have hb:=h.bind
  simp only[bindA_eq]at hb
  obtain⟨Df',k1,k2⟩:=ih (hb _ _)
  exact⟨Df',.pure ho hc (by rw[<-h.sel];exact ht) k1,k2⟩
 | read ho hc hr ht _ ih =>
  intro D' h
  have hb:=h.bind
  simp only[bindA_eq]at hb
  obtain⟨Df',k1,k2⟩:=ih (hb _ _)
  exact⟨Df',.read ho hc hr (by rw[<-h.sel];exact ht) k1,k2⟩
 | chain ho hc ht _ ih =>
  intro D' h
  have hb:=h.bind
  simp only[bindA_eq]at hb
  obtain⟨Df',k1,k2⟩:=ih (hb _ _)
  exact⟨Df',.chain ho hc (by rw[<-h.sel];exact ht) k1,k2⟩
theorem drawD_ok (htb : TBOK P tb) (hO : OrcOK P O) {nt : Nat} (hE : E.n = nt) {im : List Nat} {ops : Array Oper} {Hm : List Ob} {π ch rd : List Nat} {K : List (Nat × AT) → List Ob → Option R} {r : R} : ∀ {rest done : List Nat} {D : List (Nat × AT)} {Hd H : List Ob} {hs : List (List Ob)}, drawD tb O nt im ops Hm π ch rd done rest D Hd H K = some r → hs.length = Abs.cnt ch done → (∀ h ∈ H :: hs, Le Hd h) →
  ∃Df Hl hl Df',Draw.DR (sys P E F ops Hm) ch rd π rest D (H::hs) Df' (Hl::hl)/\Same Df Df'/\K Df Hl=some r/\RowsSame H Hl
 |[],done,D,Hd,H,hs,hc,_,_=>⟨D,H,hs,D,.nil _ _,.refl _,hc,.refl _⟩
 | i :: rest, done, D, Hd, H, hs, hc, hl, hle => by
  unfold drawD at hc
  split at hc
  ·cases hc
  rename_i o ho
  have hcnt:Abs.cnt ch (i::done)=Abs.cnt ch done+(if ch.contains i then 1 else 0):=by
   unfold Abs.cnt
   rw[List.countP_cons]
  have hsub:Draw.Sub (Draw.sel D (o.looksAt ops)) D:=Draw.sel_sub λ_ _=>rfl
  simp only at hc
  split at hc
  ·rename_i hch
   have hcnt':(H::hs).length=Abs.cnt ch (i::done):=by rw[hcnt,if_pos hch,List.length_cons,hl]
   have go:∀{v:AT} {Hd' H':List Ob} {D':List (Nat×AT)},RowsSame H H'->Same D' D->(sys P E F ops Hm).OT o (Draw.sel D (o.looksAt ops)) v H H'->Le Hd' Hd->Le Hd' H'->drawD tb O nt im ops Hm π ch rd (i::done) rest (bindA o.dst v D') Hd' H' K=some r->
     ∃Df Hl hl Df',Draw.DR (sys P E F ops Hm) ch rd π (i::rest) D (H::hs) Df' (Hl::hl)/\Same Df Df'/\K Df Hl=some r/\RowsSame H Hl:=λ{v Hd' H' D'} hrs hsm ht hd1 hd2 hc=>by
    obtain⟨Df,Hl,hl',Df',k1,k3,k2⟩:=drawD_ok htb hO hE (hs:=H::hs) hc hcnt' (λh hm=>by
     rcases List.mem_cons.1 hm with rfl|hm
     ·exact hd2
     ·exact hd1.trans (hle h hm))
    obtain⟨Df2,m1,m2⟩:=dr_same k1 (hsm.bind o.dst v)
    rw[bindA_eq]at m1
    exact⟨Df,Hl,hl',Df2,.chain ho hch ht m1,k3.trans m2,k2.1,hrs.trans k2.2⟩
   obtain⟨D',hsm,⟨g,k⟩|⟨g,k⟩⟩:=guardK_ok hsub hc
   ·split at k
    ·rename_i htc
     obtain⟨v,H',k1,k24⟩:=oneS_ok (E:=E) htb hO hE k
     have k2:=λF=>(k24 F).1
     have k4:=(k24 F).2
     split at k1
     ·rename_i hok
      exact go (okX_same k4 hok) hsm (λhle=>⟨hle.unt k4 htc,.inl ⟨by rw[hE];simpa using g,k2 F⟩⟩) (hideH_le _ _) ((hle H (by simp)).hide k4) k1
     ·cases k1
    ·cases k
   ·exact go (.refl _) hsm (λhle=>⟨hle,.inr ⟨by rw[hE];simpa using g,rfl,rfl⟩⟩) (.refl _) (hle H (by simp)) k
  ·rename_i hch
   have hch':ch.contains i=false:=by simpa using hch
   have hcnt':hs.length=Abs.cnt ch (i::done):=by rw[hcnt,if_neg hch];exact hl
   split at hc
   ·rename_i hrd
    have go:∀{v:AT} {D':List (Nat×AT)},Same D' D->(∀H2∈(H::hs).take ((H::hs).length-Abs.cnt ch (π.filter λj=>Abs.isBef ops j i)),(sys P E F ops Hm).OT o (Draw.sel D (o.looksAt ops)) v H2 H2)->drawD tb O nt im ops Hm π ch rd (i::done) rest (bindA o.dst v D') Hd H K=some r->
      ∃Df Hl hl Df',Draw.DR (sys P E F ops Hm) ch rd π (i::rest) D (H::hs) Df' (Hl::hl)/\Same Df Df'/\K Df Hl=some r/\RowsSame H Hl:=λ{v D'} hsm ht hc=>by
     obtain⟨Df,Hl,hl',Df',k1,k3,k2⟩:=drawD_ok htb hO hE (hs:=hs) hc hcnt' hle
     obtain⟨Df2,m1,m2⟩:=dr_same k1 (hsm.bind o.dst v)
     rw[bindA_eq]at m1
     exact⟨Df,Hl,hl',Df2,.read ho hch' hrd ht m1,k3.trans m2,k2⟩
    obtain⟨D',hsm,⟨g,k⟩|⟨g,k⟩⟩:=guardK_ok hsub hc
    ·split at k
     ·obtain⟨v,k1,k2⟩:=oneI_ok (E:=E) htb hE k
      exact go hsm (λH2 _ hle=>⟨hle,.inl ⟨by rw[hE];simpa using g,k2 F H2⟩⟩) k1
     ·split at k
      ·rename_i hkp
       obtain⟨v,k1,k2⟩:=oneK_ok (F:=F) (E:=E) htb hO hE hkp k
       refine go hsm (λH2 hm hle2=>⟨hle2,.inl ⟨by rw[hE];simpa using g,k2 H2 ?_⟩⟩) k1
       split
       ·rename_i hb
        have hb:=Nat.le_of_ble_eq_true hb
        have hk:(H::hs).length-Abs.cnt ch (π.filter λj=>Abs.isBef ops j i)<=1:=by rw[List.length_cons];omega
        have:H2=H:=by
         have h2:H2∈(H::hs).take 1:=by
          have e:(H::hs).take ((H::hs).length-Abs.cnt ch (π.filter λj=>Abs.isBef ops j i))=((H::hs).take 1).take ((H::hs).length-Abs.cnt ch (π.filter λj=>Abs.isBef ops j i)):=by rw[List.take_take,Nat.min_eq_left hk]
          rw[e]at hm
          exact List.mem_of_mem_take hm
         simpa using h2
        rw[this]
        exact .refl H
       ·exact hle H2 (List.mem_of_mem_take hm)
      ·cases k
    ·exact go hsm (λH2 _ hle=>⟨hle,.inr ⟨by rw[hE];simpa using g,rfl,rfl⟩⟩) k
   ·have go:∀{v:AT} {D':List (Nat×AT)},Same D' D->(∀H,(sys P E F ops Hm).OT o (Draw.sel D (o.looksAt ops)) v H H)->drawD tb O nt im ops Hm π ch rd (i::done) rest (bindA o.dst v D') Hd H K=some r->
      ∃Df Hl hl Df',Draw.DR (sys P E F ops Hm) ch rd π (i::rest) D (H::hs) Df' (Hl::hl)/\Same Df Df'/\K Df Hl=some r/\RowsSame H Hl:=λ{v D'} hsm ht hc=>by
     obtain⟨Df,Hl,hl',Df',k1,k3,k2⟩:=drawD_ok htb hO hE (hs:=hs) hc hcnt' hle
     obtain⟨Df2,m1,m2⟩:=dr_same k1 (hsm.bind o.dst v)
     rw[bindA_eq]at m1
     exact⟨Df,Hl,hl',Df2,.pure ho hch' ht m1,k3.trans m2,k2⟩
    obtain⟨D',hsm,⟨g,k⟩|⟨g,k⟩⟩:=guardK_ok hsub hc
    ·split at k
     ·obtain⟨v,k1,k2⟩:=oneI_ok (E:=E) htb hE k
      exact go hsm (λH hle=>⟨hle,.inl ⟨by rw[hE];simpa using g,k2 F H⟩⟩) k1
     ·split at k
      ·rename_i hkp
       obtain⟨v,k1,k2⟩:=oneK_ok (F:=F) (E:=E) (H:=Hm) htb hO hE hkp k
       exact go hsm (λH hle=>⟨hle,.inl ⟨by rw[hE];simpa using g,k2 H hle⟩⟩) k1
      ·cases k
    ·exact go hsm (λH hle=>⟨hle,.inr ⟨by rw[hE];simpa using g,rfl,rfl⟩⟩) k
def Goes (F:In) (K:Kt R) (r:R):Exit->Env->Heap->Prop:=λe L h=>∃ρ' st',K e st'=some r/\SR F ρ' st' L h
def PieceOK (P:Program) (an:Ann) (c:Code) (f:(R:Type)->St->Kt R->Option R):Prop:=∀(R:Type) (E:Abs.Cx) (F:In),E.n=an.nt->F.ok an.refs->∀(st:St) (K:Kt R) (r:R) (ρ:Rho) (L:Env) (h:Heap),f R st K=some r->SR F ρ st L h->aw P c E (Goes F K r) L h
def AllP (P:Program) (an:Ann) (pc:Pcs):List (Nat×Nat×Code)->Prop
 |[]=>True
 |p::l=>PieceOK P an p.2.2 (λR=>pc.at_ p.1 R p.2.1)/\AllP P an pc l
theorem AllP.app {an:Ann} {pc:Pcs}:∀{a b:List (Nat×Nat×Code)},AllP P an pc (a++b)->AllP P an pc a/\AllP P an pc b
 |[],_,h=>⟨trivial,h⟩
 |_::_,_,h=>let⟨h1,h2⟩:=AllP.app h.2;⟨⟨h.1,h1⟩,h2⟩
theorem known_ok {c:Operand} {b:Bool} {st:St} (hs:SR F ρ st L h) (hx:ev st.L c=some (.one (.b b))):SR F ρ (known c b st) L h:=by
 cases c with
 |tmp t=>exact⟨Same.enc (same_cons hx) hs.slots,hs.heap,hs.fr,hs.xr⟩
 |_=>exact hs
theorem den_ok (hm:P.follows .mixedOrders=true) (htb:TBOK P tb) (hO:OrcOK P O) {an:Ann} {pc:Pcs} (hE:E.n=an.nt) (hF:F.ok an.refs):∀{c:Code} {st:St} {K:Kt R} {r:R} {ρ:Rho} {L:Env} {h:Heap},AllP P an pc (pieces an c)->den tb O pc an c st K=some r->SR F ρ st L h->aw P c E (Goes F K r) L h
 | .skip,st,K,r,ρ,L,h,_,hc,hs=>Abs.aw_skip ⟨ρ,st,hc,hs⟩
 | .ret,st,K,r,ρ,L,h,_,hc,hs=>Abs.aw_ret ⟨ρ,st,hc,hs⟩
 | .exit id,st,K,r,ρ,L,h,_,hc,hs=>Abs.aw_exit ⟨ρ,st,hc,hs⟩
 | .seq a b, st, K, r, ρ, L, h, hP, hc, hs => by
  unfold pieces at hP
  obtain⟨hP1,hP2⟩:=hP.app
  refine Abs.aw_seq (Abs.aw_mono ?_ (den_ok hm htb hO hE hF (c:=a) hP1 hc hs))
  rintro e L h ⟨ρ',st',k1,k2⟩
  cases e with
  | normal =>
   simp only[thenK]at k1
   simp only[Abs.thenQ]
   split at hP2
   ·rename_i lv hl
    rw[hl]at k1
    obtain⟨ρ2,st2,m1,m2⟩:=restrict_ok hF k2 k1
    exact hP2.1 R E F hE hF _ _ _ _ _ _ m1 m2
   ·rename_i hl
    rw[hl]at k1
    exact den_ok hm htb hO hE hF (c:=b) hP2 k1 k2
  |_=>exact⟨ρ',st',k1,k2⟩
 | .block id a, st, K, r, ρ, L, h, hP, hc, hs => by
  refine Abs.aw_block (Abs.aw_mono ?_ (den_ok hm htb hO hE hF (c:=a) hP hc hs))
  rintro e L h ⟨ρ',st',k1,k2⟩
  cases e with
  | exit id' =>
   simp only[blockK]at k1
   simp only[Abs.blockQ]
   by_cases hid:id'=id
   ·subst hid
    rw[if_pos (Nat.beq_refl id')]at k1
    rw[if_pos rfl]
    exact⟨ρ',st',k1,k2⟩
   ·rw[if_neg (λhb=>hid (nB hb))]at k1
    rw[if_neg hid]
    exact⟨ρ',st',k1,k2⟩
  |_=>exact⟨ρ',st',k1,k2⟩
 | .cond x a b, st, K, r, ρ, L, h, hP, hc, hs => by
  unfold pieces at hP
  obtain⟨hP1,hP2⟩:=hP.app
  unfold den at hc
  split at hc
  ·rename_i p hx
   obtain⟨av,h1,h2⟩:=ev_ok hs.slots hx
   obtain⟨u,rfl,h3⟩:=h2.one'
   rw[h3.bool]at h1
   refine Abs.aw_cond h1 (λe=> ?_) (λe=> ?_)
   ·subst e
    have hs:=known_ok hs hx
    simp only[cT]at hc
    split at hP1
    ·rename_i lv hl
     rw[hl]at hc
     obtain⟨ρ2,st2,m1,m2⟩:=restrict_ok hF hs hc
     exact hP1.1 R E F hE hF _ _ _ _ _ _ m1 m2
    ·rename_i hl
     rw[hl]at hc
     exact den_ok hm htb hO hE hF (c:=a) hP1 hc hs
   ·subst e
    have hs:=known_ok hs hx
    simp only[cF]at hc
    split at hP2
    ·rename_i lv hl
     rw[hl]at hc
     obtain⟨ρ2,st2,m1,m2⟩:=restrict_ok hF hs hc
     exact hP2.1 R E F hE hF _ _ _ _ _ _ m1 m2
    ·rename_i hl
     rw[hl]at hc
     exact den_ok hm htb hO hE hF (c:=b) hP2 hc hs
  ·cases hc
 | .loop a, st, K, r, ρ, L, h, hP, hc, hs => by
  unfold den at hc
  split at hc
  ·obtain⟨ρ1,st1,k1,k2⟩:=restrict_ok hF hs hc
   exact hP.1 R E F hE hF _ _ _ _ _ _ k1 k2
  ·cases hc
 | .region id ⟨ops⟩ false,st,K,r,ρ,L,h,_,hc,hs=>Abs.aw_region (opsD_ok htb hO hE hc hs)
 | .region id ops true, st, K, r, ρ, L, h, hP, hc, hs => by
  unfold pieces at hP
  unfold den at hc
  split at hc
  ·rename_i d hpl
   rw[hpl]at hP
   simp only at hP
   split at hc
   ·cases hc
   ·rename_i π ch rd ho
    split at hc
    ·rename_i hp
     obtain⟨L2,h2,sh,hs2⟩:=fzIds_ok (ids:=slotRows st.L st.H d.fz) hs
     simp only at hc
     refine Abs.aw_shift sh ?_
     obtain⟨Df,Hl,hl,Df',k1,k3,k2,k4⟩:=drawD_ok (F:=⟨h2,ρ,(fzIds (slotRows st.L st.H d.fz) st).H⟩) (E:=E) htb hO hE (hs:=[]) hc rfl (λh hm=>by simp at hm;subst hm;exact .refl _)
     refine⟨λι I a w rel=> ?_⟩
     refine Draw.draw (S:=sys P E ⟨h2,ρ,(fzIds (slotRows st.L st.H d.fz) st).H⟩ ops (maskH d.vis (fzIds (slotRows st.L st.H d.fz) st).H)) hm π ch rd hp k1 (λa w ⟨_,ρ',L',h',ι',I',q1,q2⟩=>⟨L',h',ι',I',⟨ρ',⟨Df,Hl⟩,k2,⟨k3.enc q1.slots,q1.heap,hs2.fr.trans q1.fr,hs2.xr.keep q1.fr k4⟩⟩,q2⟩) ⟨maskH_le _ _,ρ,L2,h2,ι,I,⟨hs2.slots,hs2.heap,Fr.refl _ _ _⟩,rel⟩
    ·cases hc
   ·rename_i x y l ho
    rw[ho]at hP
    obtain⟨ρ1,st1,k1,k2⟩:=restrict_ok hF hs hc
    exact hP.1 R E F hE hF _ _ _ _ _ _ k1 k2
  ·cases hc
theorem draw_piece (hm:P.follows .mixedOrders=true) (htb:TBOK P tb) (hO:OrcOK P O) {an:Ann} {ops:Array Oper} {id:Nat} {o:Outs} {d:Dw} (hp:Abs.plansOK ops d.cs d.orders=true) {f:(R:Type)->St->Kt R->Option R}
  (hf:∀p∈d.orders,∀(R:Type) (st:St) (K:Kt R) (r:R),f R st K=some r->(λst1:St=>drawD tb O an.nt an.im ops (maskH d.vis st1.H) p.1 p.2.1 p.2.2 [] p.1 st1.L st1.H st1.H λL H=>outK an.refs o K .normal ⟨L,H⟩) (fzIds (slotRows st.L st.H d.fz) st)=some r):PieceOK P an (.region id ops true) f:=
 fun R E F hE hF st K r ρ L h hk hs => by
  obtain⟨L2,h2,sh,hs2⟩:=fzIds_ok (ids:=slotRows st.L st.H d.fz) hs
  refine Abs.aw_shift sh ⟨λι I a w rel=> ?_⟩
  refine Draw.drawL (S:=sys P E ⟨h2,ρ,(fzIds (slotRows st.L st.H d.fz) st).H⟩ ops (maskH d.vis (fzIds (slotRows st.L st.H d.fz) st).H)) (L:=(fzIds (slotRows st.L st.H d.fz) st).L) (h:=(fzIds (slotRows st.L st.H d.fz) st).H) hm d.cs d.orders hp (λp hpm=> ?_) ⟨maskH_le _ _,ρ,L2,h2,ι,I,⟨hs2.slots,hs2.heap,Fr.refl _ _ _⟩,rel⟩
  obtain⟨Df,Hl,hl,Df',k1,k3,k2,k4⟩:=drawD_ok (F:=⟨h2,ρ,(fzIds (slotRows st.L st.H d.fz) st).H⟩) (E:=E) htb hO hE (hs:=[]) (hf p hpm R st K r hk) rfl (λh hm=>by simp at hm;subst hm;exact .refl _)
  refine⟨Df',Hl,hl,k1,λa w ⟨_,ρ',L',h',ι',I',q1,q2⟩=> ?_⟩
  have q3:SR F ρ' ⟨Df,Hl⟩ L' h':=⟨k3.enc q1.slots,q1.heap,hs2.fr.trans q1.fr,hs2.xr.keep q1.fr k4⟩
  obtain⟨ρ3,st3,m1,m2⟩:=restrict_ok hF q3 k2
  exact⟨L',h',ι',I',⟨ρ3,st3,m1,m2⟩,q2⟩
theorem cut_piece (hm:P.follows .mixedOrders=true) (htb:TBOK P tb) (hO:OrcOK P O) {an:Ann} {pc:Pcs} {c:Code} {o:Outs} (hP:AllP P an pc (pieces an c)) {f:(R:Type)->St->Kt R->Option R} (hf:∀(R:Type) (st:St) (K:Kt R) (r:R),f R st K=some r->den tb O pc an c st (outK an.refs o K)=some r):PieceOK P an c f:=
 λR _ _ hE hF st K r _ _ _ hk hs=>Abs.aw_mono (λ_ _ _ ⟨_,_,k1,k2⟩=>let⟨ρ2,st2,m1,m2⟩:=restrict_ok hF k2 k1;⟨ρ2,st2,m1,m2⟩) (den_ok hm htb hO hE hF hP (hf R st K r hk) hs)
theorem loop_piece (hm:P.follows .mixedOrders=true) (htb:TBOK P tb) (hO:OrcOK P O) {an:Ann} {pc:Pcs} {c:Code} {lv:List Nat} {o:Outs} (hP:AllP P an pc (pieces an c)) {f:Nat->(R:Type)->St->Kt R->Option R} (h0:∀(R:Type) (st:St) (K:Kt R),f 0 R st K=none)
  (hf:∀(n:Nat) (R:Type) (st:St) (K:Kt R) (r:R),f (n+1) R st K=some r->den tb O pc an c st (roundK an.refs lv o (λst'=>f n R st' K) K)=some r) (n:Nat):PieceOK P an (.loop c) (f n):=
 fun R E F hE hF st K r ρ L h hk hs => by
  refine Abs.aw_loop (λm L h=>∃ρ st,f m R st K=some r/\SR F ρ st L h) (Abs.sub_refl L) ⟨ρ,st,hk,hs⟩ ?_
  rintro m L h ⟨ρ,st,m1,m2⟩
  cases m with
  |zero=>rw[h0]at m1;cases m1
  | succ m =>
   refine Abs.aw_mono ?_ (den_ok hm htb hO hE hF hP (hf m R st K r m1) m2)
   rintro e L h ⟨ρ',st',k1,k2⟩
   cases e with
   | normal =>
    simp only[roundK,thenK]at k1
    obtain⟨ρ2,st2,q1,q2⟩:=restrict_ok hF k2 k1
    exact⟨m,L,Nat.lt_succ_self m,Abs.sub_refl L,ρ2,st2,q1,q2⟩
   | _ =>
    simp only[roundK,thenK,outK]at k1
    obtain⟨ρ2,st2,q1,q2⟩:=restrict_ok hF k2 k1
    exact⟨ρ2,st2,q1,q2⟩
end
def argsD :Nat->List AT->List (Nat×AT)
 |_,[]=>[]
 |k,x::xs=>(k,x)::argsD (k+1) xs
def resD (tb:Nat->Option TI) (L:List (Nat×AT)) (H:List Ob):ResultVar->Option AT
 | .tmp t=>L.lookup t
 | .cell a t => match L.lookup a, tb t with
  | some (.one (.p id off)), some ti => match H[id]? with
   |some (.box cs)=>ld ti.agg ti.size (cs.drop off)
   |_=>none
  |_,_=>none
def resDs (tb:Nat->Option TI) (L:List (Nat×AT)) (H:List Ob):List ResultVar->Option (List AT)
 |[]=>some []
 | r :: rs => match resD tb L H r, resDs tb L H rs with
  |some v,some vs=>some (v::vs)
  |_,_=>none
def packR :List AT->AT
 |[x]=>x
 |xs=>.tup xs
def packA :List AV->AV
 |[x]=>x
 |xs=>.tup xs
def rowsR :List AT->List Nat
 |[]=>[]
 | x :: xs => (match cells x with
  |some cs=>cs.flatMap C.rows
  |none=>[])++rowsR xs
def idsR (tb:Nat->Option TI) (rs:List ResultVar) (st:St):List Nat:=match resDs tb st.L st.H rs with
 |some vs=>rowsR vs
 |none=>[]
def finF (tb:Nat->Option TI) (an:Ann) (rs:List ResultVar) (st:St):Option (AT×List Ob):=
 let st1:=fzIds (idsR tb rs st) st
 match resDs tb st1.L st1.H rs with
 | some vs => match peekAs [] vs with
  |some us=>restrict an.refs [] st1 λst2=>some (packR us,st2.H)
  |none=>none
 |none=>none
def looksD (L:List (Nat×AT)):Nat->Nat->Option (List AT)
 |_,0=>some []
 | k, m + 1 => match L.lookup k, looksD L (k + 1) m with
  |some v,some vs=>some (v::vs)
  |_,_=>none
def finR (tb:Nat->Option TI) (an:Ann) (rs:List ResultVar) (st:St):Option (AT×List Ob):=
 match resDs tb st.L st.H rs with
 | some vs => restrict an.refs (List.range vs.length) ⟨argsD 0 vs, st.H⟩ fun st2 => match looksD st2.L 0 vs.length with
  |some us=>some (packR us,st2.H)
  |none=>none
 |none=>none
def atEnd {R:Type} (fin:St->Option R):Kt R
 | .normal,st=>fin st
 | .ret,st=>fin st
 |_,_=>none
section
variable {P : Program} {E : Abs.Cx} {F : In} {ρ ρ' : Rho} {H : List Ob} {D : List (Nat × AT)} {L : Env} {h h' : Heap} {R : Type} {tb : Nat → Option TI} {O : Orc}
theorem argsD_enc :∀{k:Nat} {xs:List AT} {avs:List AV},ATRs ρ H xs avs->EncL ρ H (argsD k xs) (Abs.argEnv k avs)
 |k,[],avs,_=>λt v hv=>by simp[argsD]at hv
 | k, x :: xs, avs, hr => by
  obtain⟨av,avs,rfl,r1,r2⟩:=hr.head
  intro t v hv
  simp only[argsD,List.lookup_cons]at hv
  simp only[Abs.argEnv,List.lookup_cons]
  split at hv
  ·cases hv;exact⟨av,rfl,r1⟩
  ·exact argsD_enc r2 t v hv
theorem resD_ok (htb:TBOK P tb) {st:St} (hs:SR F ρ st L h) {rv:ResultVar} {v:AT} (hv:resD tb st.L st.H rv=some v):∃av,ATR ρ st.H v av/\Abs.Res1 P L h rv av:=by
 cases rv with
 | tmp t =>
  obtain⟨av,h1,h2⟩:=hs.slots t v hv
  exact⟨av,h2,Abs.res1_tmp h1⟩
 | cell a t =>
  unfold resD at hv
  simp only at hv
  split at hv
  ·rename_i id off ti h1 h2
   split at hv
   ·rename_i cs h3
    obtain⟨i,G⟩:=htb.get h2
    obtain⟨av,k1,k2⟩:=hs.slots a _ h1
    obtain⟨u,rfl,k3⟩:=k2.one'
    obtain⟨b,rfl,k4⟩:=k3.ptr
    obtain⟨b',vs,k5,k6,k7⟩:=hs.heap.box id cs h3
    rw[k4]at k5
    cases k5
    obtain⟨av,k8,k9⟩:=ld_ok hv (k7.drop off)
    exact⟨av,k9,Abs.res1_cell G.tb k1 G.look k6 rfl (by rw[G.size,G.agg];exact k8)⟩
   ·cases hv
  ·cases hv
theorem resDs_ok (htb:TBOK P tb) {st:St} (hs:SR F ρ st L h):∀{rs:List ResultVar} {vs:List AT},resDs tb st.L st.H rs=some vs->∃avs,ATRs ρ st.H vs avs/\Abs.ResL P L h rs avs
 |[],vs,hv=>by cases hv;exact⟨[],.nil_,.nil⟩
 | r :: rs, vs, hv => by
  simp only[resDs]at hv
  split at hv
  ·rename_i x xs h1 h2
   cases hv
   obtain⟨av,k1,k2⟩:=resD_ok htb hs h1
   obtain⟨avs,k3,k4⟩:=resDs_ok htb hs h2
   exact⟨av::avs,.cons k1 k3,.cons k2 k4⟩
  ·cases hv
theorem Weak.refl (a:List AV):Weak a a:=⟨rfl,λ_ _ _ _ _ _ _ h=>h⟩
theorem res_pack {fn:Func} {rs:List ResultVar} {avs bvs:List AV} (hr:fn.results=rs.toArray) (k:Abs.ResL P L h rs avs) (hw:Weak avs bvs):Abs.Res P fn L h (packA bvs):=
 ⟨fun E ι I a w r => by
  obtain⟨cs,e1,e2,e3⟩:=k.run r
  have e0:results fn a.tmps=(do let vs ←rs.toArray.mapM (Abs.rvRun a.tmps);pure (if h:vs.size=1 then vs[0]else .tuple vs)):=by
   unfold results
   rw[hr]
   congr 2
  have e4:∀j (hj:j<bvs.length),∃c,cs[j]? =some c/\Abs.AR ι I w bvs[j] c:=λj hj=>by
   obtain⟨c,g1,g2⟩:=e3 j (by rw[hw.1];exact hj)
   exact⟨c,g1,hw.2 j _ hj _ _ _ _ g2⟩
  have e2:cs.length=bvs.length:=e2.trans hw.1
  rw[e0]
  simp only[List.mapM_toArray]
  by_cases h1:cs.length=1
  ·obtain⟨c,rfl⟩:=List.length_eq_one_iff.1 h1
   obtain⟨b,rfl⟩:=List.length_eq_one_iff.1 (e2.symm.trans h1)
   obtain⟨c',g1,g2⟩:=e4 0 (by simp)
   simp at g1
   subst g1
   exact⟨c,by simp[e1],g2⟩
  ·refine⟨.tuple cs.toArray,by simp[e1,h1],?_⟩
   have hp:packA bvs= .tup bvs:=by
    match bvs,e2 with
    |[],_=>rfl
    |[b],e=>exact absurd e h1
    |b::c::l,_=>rfl
   rw[hp]
   refine .tup (f:=λj=>(cs[j]?).getD undef) (by simpa using e2) (λj hj=> ?_) (λj hj=> ?_)
   ·obtain⟨c,g1,_⟩:=e4 j hj
    simp[g1]
   ·obtain⟨c,g1,g2⟩:=e4 j hj
    simpa [g1]using g2⟩
theorem packR_ok {xs:List AT} {avs:List AV} (h:ATRs ρ H xs avs):ATR ρ H (packR xs) (packA avs):=by
 match xs,avs,h with
 |[],[],h=>exact .tup rfl (λj h=>by simp at h)
 |[x],[a],h=>exact h.2 0 (by simp) (by simp)
 |x::y::l,a::b::m,h=>exact .tup h.1 h.2
 |[],a::m,h=>exact absurd h.1 (by simp)
 |x::l,[],h=>exact absurd h.1 (by simp)
 |[x],a::b::m,h=>exact absurd h.1 (by simp)
 |x::y::l,[a],h=>exact absurd h.1 (by simp)
theorem peekAs_up {H0 H1:List Ob} {ρ0:Rho}:∀{xs ys:List AT} {bvs:List AV},peekAs H0 xs=some ys->ATRs ρ0 H1 ys bvs->ATRs ρ H ys bvs
 | [], ys, bvs, hp, h => by
  cases hp
  have:=h.1
  cases bvs with
  |nil=>exact .nil_
  |cons _ _=>simp at this
 | x :: xs, ys, bvs, hp, h => by
  simp only[peekAs]at hp
  split at hp
  ·rename_i y ys' h1 h2
   cases hp
   obtain⟨av,avs,rfl,r1,r2⟩:=h.head
   exact .cons (peekA_up h1 r1) (peekAs_up h2 r2)
  ·cases hp
theorem looksD_ok0 {L2:List (Nat×AT)}:∀{m k:Nat} {avs:List AV} {us:List AT} {E:Env},EncL ρ H L2 E->(∀j,j<m->∃av,avs[j]? =some av/\∀x,E.lookup (k+j)=some x->x=av)->avs.length=m->looksD L2 k m=some us->ATRs ρ H us avs
 | 0, k, avs, us, E, _, _, hl, h => by
  cases h
  rw[nZ hl]
  exact .nil_
 | m + 1, k, avs, us, E, he, hav, hl, h => by
  simp only[looksD]at h
  split at h
  ·rename_i v vs h1 h2
   cases h
   cases avs with
   |nil=>simp at hl
   | cons av avs =>
    obtain⟨av',g1,g2⟩:=hav 0 (by omega)
    simp at g1
    subst g1
    obtain⟨x,k1,k2⟩:=he k v h1
    have:=g2 x (by simpa using k1)
    subst this
    refine .cons k2 (looksD_ok0 he (λj hj=> ?_) (by simpa using hl) h2)
    obtain⟨y,m1,m2⟩:=hav (j+1) (by omega)
    exact⟨y,by simpa using m1,λz hz=>m2 z (by rw[<-hz];congr 1;omega)⟩
  ·cases h
theorem looksD_ok {L2:List (Nat×AT)} {n:Nat} {avs:List AV} {us:List AT} (he:EncL ρ H L2 (Abs.argEnv 0 avs)) (hl:n=avs.length) (h:looksD L2 0 n=some us):ATRs ρ H us avs:=by
 refine looksD_ok0 he (λj hj=> ?_) hl.symm h
 have hlt:j<avs.length:=by omega
 refine⟨avs[j],List.getElem?_eq_getElem hlt,λx hx=> ?_⟩
 have:=(Abs.argEnv_lookup avs 0 (0+j) x hx).2
 rw[Nat.zero_add,Nat.sub_zero,List.getElem?_eq_getElem hlt]at this
 cases this
 rfl
theorem mv_evo {g:Nat->Option Nat} {x x':Ob} (hm:x.mv g=some x'):evo x x':=by
 cases x with
 | box cs =>
  simp only[Ob.mv]at hm
  split at hm
  ·cases hm;exact .inr (.inr (.inl ⟨_,_,rfl,rfl⟩))
  ·cases hm
 |row T n xs=>cases hm;exact evo.refl _
 |map T kvs=>cases hm;exact evo.refl _
 |gone=>cases hm;exact evo.refl _
 |rows T xss ho=>cases hm;exact evo.refl _
theorem reb1_ok {id:Nat} {xs xs':List AT} {H1:List Ob} {avs:List AV} (hr:reb1 id (xs,H)=some (xs',H1)) (hp:HpR ρ H h) (hf:Fr F ρ H h) (ha:ATRs ρ H xs avs):∃ρ',HpR ρ' H1 h/\Fr F ρ' H1 h/\ATRs ρ' H1 xs' avs:=by
 unfold reb1 at hr
 simp only at hr
 split at hr
 ·rename_i x hx
  split at hr
  ·rename_i H' ys ho hm
   cases hr
   obtain⟨o1,o2⟩:=obs_some ho
   have hid:=(gI.1 hx).1
   have hidρ:id<ρ.length:=by rw[hp.len];exact hid
   have e1:∀{i:Nat},i≠id->i<H.length->(H.set id .gone++[x])[i]? =H[i]? :=λ{i} hi hl=>by
    rw[aL (by simpa using hl),sN (λe=>hi e.symm)]
   have e2:(H.set id .gone++[x])[id]? =some .gone:=by
    rw[aL (by simpa using hid),sS hid]
   have e3:(H.set id .gone++[x])[H.length]? =some x:=by
    rw[aR (by simp)];simp
   have r1:∀{i:Nat},i<H.length->(ρ++[ρ[id]])[i]? =ρ[i]? :=λ{i} hl=>aL (by rw[hp.len];exact hl)
   have r2:(ρ++[ρ[id]])[H.length]? =ρ[id]? :=by
    rw[aR (by rw[hp.len];omega),hp.len,List.getElem?_eq_getElem hidρ];simp
   have hmv:MvOK (λj=>if Nat.beq j id then some H.length else some j) ρ H (ρ++[ρ[id]]) H1:=λi j hg=>by
    simp only at hg
    split at hg
    ·rename_i hb
     have:=nB hb
     subst this
     cases hg
     refine⟨λz hz=>by rw[r2];exact hz,λz hz=> ?_⟩
     rw[hx]at hz
     cases hz
     obtain⟨y,y1,y2⟩:=o2 _ _ e3
     obtain⟨s1,s2,_⟩:=mv_shape y2
     cases x with
     |row T m xs=>exact⟨y,m,y1,λe=>(by cases e),λT m xs e=>by cases e;exact s2 _ _ _ rfl,λT xss ho e=>by cases e⟩
     |rows T xss ho=>exact⟨y,0,y1,s1,λT m xs e=>(by cases e),mv_rows y2⟩
     |gone=>exact⟨y,0,y1,s1,λT m xs e=>(by cases e),λT xss ho e=>by cases e⟩
     |box cs=>exact⟨y,0,y1,s1,λT m xs e=>(by cases e),λT xss ho e=>by cases e⟩
     |map T kvs=>exact⟨y,0,y1,s1,λT m xs e=>(by cases e),λT xss ho e=>by cases e⟩
    ·rename_i hb
     cases hg
     have hne:i≠id:=λe=>hb (by rw[e];exact Nat.beq_refl id)
     refine⟨λz hz=>by rw[r1 (by rw[<-hp.len];exact(gI.1 hz).1)];exact hz,λz hz=> ?_⟩
     have hl:=(gI.1 hz).1
     obtain⟨y,y1,y2⟩:=o2 _ _ ((e1 hne hl).trans hz)
     obtain⟨s1,s2,_⟩:=mv_shape y2
     cases z with
     |row T m xs=>exact⟨y,m,y1,λe=>(by cases e),λT m xs e=>by cases e;exact s2 _ _ _ rfl,λT xss ho e=>by cases e⟩
     |rows T xss ho=>exact⟨y,0,y1,s1,λT m xs e=>(by cases e),mv_rows y2⟩
     |gone=>exact⟨y,0,y1,s1,λT m xs e=>(by cases e),λT xss ho e=>by cases e⟩
     |box cs=>exact⟨y,0,y1,s1,λT m xs e=>(by cases e),λT xss ho e=>by cases e⟩
     |map T kvs=>exact⟨y,0,y1,s1,λT m xs e=>(by cases e),λT xss ho e=>by cases e⟩
   have hev:Ev ρ H (ρ++[ρ[id]]) H1:=by
    refine⟨λi z hz=>app_get hz,λi z hz=> ?_⟩
    have hl:=(gI.1 hz).1
    by_cases hne:i=id
    ·subst hne
     obtain⟨y,y1,y2⟩:=o2 _ _ e2
     cases y2
     exact⟨_,y1,.inl rfl⟩
    ·obtain⟨y,y1,y2⟩:=o2 _ _ ((e1 hne hl).trans hz)
     exact⟨y,y1,mv_evo y2⟩
   have hcame:∀(i a:Nat),(ρ++[ρ[id]])[i]? =some (some a)->live H1 i->∃i0,ρ[i0]? =some (some a)/\live H i0/\((i<H.length/\i0=i/\i≠id)\/(i=H.length/\i0=id)):=λi a hi hl=>by
    obtain⟨z,z1,z2⟩:=hl
    have hlt:=(gI.1 z1).1
    rw[o1]at hlt
    simp at hlt
    by_cases hL:i<H.length
    ·have hne:i≠id:=λe=>by
      subst e
      obtain⟨y,y1,y2⟩:=o2 _ _ e2
      cases y2
      rw[y1]at z1
      cases z1
      cases z2
     refine⟨i,by rw[r1 hL]at hi;exact hi,hev.lv hL ⟨z,z1,z2⟩,.inl ⟨hL,rfl,hne⟩⟩
    ·have:i=H.length:=by omega
     subst this
     obtain⟨y,y1,y2⟩:=o2 _ _ e3
     rw[y1]at z1
     cases z1
     exact⟨id,by rw[r2]at hi;exact hi,⟨x,hx,by rw[<-mv_dead y2];exact z2⟩,.inr ⟨rfl,rfl⟩⟩
   refine⟨ρ++[ρ[id]],HpR.mk' (by rw[o1];simp[hp.len]) (λi z hz=> ?_) (λi j a h1 h2 l1 l2=> ?_) (λi a h1=> ?_),hf.step hev (Nat.le_refl _) (λi a h1 l1=> ?_) (λ_ _ _=>rfl),?_⟩
   ·have hlt:=(gI.1 hz).1
    rw[o1]at hlt
    simp at hlt
    by_cases hL:i<H.length
    ·by_cases hne:i=id
     ·subst hne
      obtain⟨y,y1,y2⟩:=o2 _ _ e2
      cases y2
      rw[y1]at hz
      cases hz
      exact .inr (.inr rfl)
     ·obtain⟨y,y1,y2⟩:=o2 _ _ ((e1 hne hL).trans (List.getElem?_eq_getElem hL))
      rw[y1]at hz
      cases hz
      rw[r1 hL]
      rcases hp.ob (List.getElem?_eq_getElem hL)with⟨a,w,m1,m2,m3⟩|⟨m1,T,n,m2,m3⟩|m1
      ·exact .inl ⟨a,w,m1,m2,ob_mv hmv m3 y2⟩
      ·rw[m2]at y2;cases y2;exact .inr (.inl ⟨m1,T,n,rfl,m3⟩)
      ·exact .inr (.inr (by rw[mv_dead y2];exact m1))
    ·have:i=H.length:=by omega
     subst this
     obtain⟨y,y1,y2⟩:=o2 _ _ e3
     rw[y1]at hz
     cases hz
     rw[r2]
     rcases hp.ob hx with⟨a,w,m1,m2,m3⟩|⟨m1,T,n,m2,m3⟩|m1
     ·exact .inl ⟨a,w,m1,m2,ob_mv hmv m3 y2⟩
     ·rw[m2]at y2;cases y2;exact .inr (.inl ⟨m1,T,n,rfl,m3⟩)
     ·exact .inr (.inr (by rw[mv_dead y2];exact m1))
   ·obtain⟨i0,k1,k2,k3⟩:=hcame i a h1 l1
    obtain⟨j0,m1,m2,m3⟩:=hcame j a h2 l2
    have:=hp.inj _ _ _ k1 m1 k2 m2
    omega
   ·rcases Nat.lt_or_ge i H.length with hL|hL
    ·rw[r1 hL]at h1;exact hp.lt _ _ h1
    ·have hlt:=(gI.1 h1).1
     simp at hlt
     have:i=H.length:=by have:=hp.len;omega
     subst this
     rw[r2]at h1
     exact hp.lt _ _ h1
   ·obtain⟨i0,k1,k2,_⟩:=hcame i a h1 l1
    exact .inl ⟨i0,k1,k2⟩
   ·obtain⟨h1,h2⟩:=mvA_some hm
    exact⟨by rw[h1];exact ha.1,λj k1 k2=>atr_mv hmv (ha.2 j (by omega) k2) (h2 j (by omega) k1)⟩
  ·cases hr
 ·cases hr
theorem rebs_ok :∀{rb:List Nat} {ρ:Rho} {H:List Ob} {xs xs':List AT} {H1:List Ob} {avs:List AV},rebs rb (xs,H)=some (xs',H1)->HpR ρ H h->Fr F ρ H h->ATRs ρ H xs avs->∃ρ',HpR ρ' H1 h/\Fr F ρ' H1 h/\ATRs ρ' H1 xs' avs
 |[],ρ,H,xs,xs',H1,avs,hr,hp,hf,ha=>by cases hr;exact⟨ρ,hp,hf,ha⟩
 | id :: rb, ρ, H, xs, xs', H1, avs, hr, hp, hf, ha => by
  simp only[rebs]at hr
  split at hr
  ·rename_i q hq
   obtain⟨ys,H2⟩:=q
   obtain⟨ρ1,a1,a2,a3⟩:=reb1_ok hq hp hf ha
   exact rebs_ok hr a1 a2 a3
  ·cases hr
theorem fn_of_den {f:FuncId} {fn:Func} {c:Code} {rs:List ResultVar} {an:Ann} {pc:Pcs} {xs xs':List AT} {v:AT} {H1 H':List Ob} {rb:List Nat} {fin:St->Option (AT×List Ob)} (hm:P.follows .mixedOrders=true) (htb:TBOK P tb) (hO:OrcOK P O) (hf:P.funcs[f]? =some fn) (hb:fn.body=some c) (hname:(fn.name== "runtime.NumGoroutine")=false)
  (hnt:Nat.beq fn.ntmps an.nt=true) (hx:Nat.ble xs.length an.nt=true) (hr:Nat.beq an.refs H.length=true) (hrs:fn.results=rs.toArray) (hfin:fin=finF tb an rs\/fin=finR tb an rs)
  (hP:AllP P an pc (pieces an c)) (hrb:rebs rb (xs,H)=some (xs',H1)) (hnr:(H1.all λo=> !o.isRows)=true) (hd:den tb O pc an c ⟨argsD 0 xs',H1⟩ (atEnd fin)=some (v,H')):CFn P f xs H v H':=by
 have hnt:=nB hnt
 have hx:=Nat.le_of_ble_eq_true hx
 have hr:=nB hr
 intro ρ h avs hp ha
 refine Abs.fn_of_aw hf hb hname (by rw[hnt,<-ha.1];exact hx) λE hE=> ?_
 have hF:(In.mk h ρ H).ok an.refs:=⟨by rw[hr];exact hp.len,hr.symm⟩
 obtain⟨ρ1,g1,g2,g3⟩:=rebs_ok hrb hp (Fr.refl ρ H h) ha
 refine Abs.aw_mono ?_ (den_ok (F:=⟨h,ρ,H⟩) hm htb hO (hE.trans hnt) hF hP hd ⟨argsD_enc g3,g1,g2,XR.none_ λid y hy=>by have:=aT.1 hnr y (mG hy);simpa using this⟩)
 have key:∀{st:St} {ρ':Rho} {L:Env} {h1:Heap},fin st=some (v,H')->SR ⟨h,ρ,H⟩ ρ' st L h1->
   ∃L2 h2 r,Abs.Shift L h1 L2 h2/\Abs.Res P fn L2 h2 r/\Abs.Out h (λr h'=>∃ρ',ATR ρ' H' v r/\HpR ρ' H' h'/\Fr ⟨h,ρ,H⟩ ρ' H' h') r h2:=by
  intro st ρ' L h1 hk hs
  rcases hfin with rfl|rfl
  ·unfold finF at hk
   obtain⟨L2,h2,sh,hs2⟩:=fzIds_ok (ids:=idsR tb rs st) hs
   simp only at hk
   split at hk
   ·rename_i vs hvs
    split at hk
    ·rename_i us hus
     obtain⟨avs',a1,a2⟩:=resDs_ok htb hs2 hvs
     obtain⟨bvs,b1,b2,b3⟩:=peekAs0_ok hus a1
     obtain⟨ρ2,st2,c1,c2⟩:=restrict_ok hF hs2 hk
     cases c1
     exact⟨L2,h2,packA bvs,sh,res_pack hrs a2 b3,.inl ⟨ρ2,packR_ok (peekAs_up hus b1),c2.heap,c2.fr⟩⟩
    ·cases hk
   ·cases hk
  ·unfold finR at hk
   split at hk
   ·rename_i vs hvs
    obtain⟨avs',a1,a2⟩:=resDs_ok htb hs hvs
    have hs':SR ⟨h,ρ,H⟩ ρ' ⟨argsD 0 vs,st.H⟩ (Abs.argEnv 0 avs') h1:=⟨argsD_enc a1,hs.heap,hs.fr,hs.xr⟩
    obtain⟨ρ2,st2,c1,c2⟩:=restrict_ok hF hs' hk
    split at c1
    ·rename_i us hus
     cases c1
     exact⟨L,h1,packA avs',.refl _ _,res_pack hrs a2 (Weak.refl _),.inl ⟨ρ2,packR_ok (looksD_ok c2.slots a1.1 hus),c2.heap,c2.fr⟩⟩
    ·cases c1
   ·cases hk
 rintro e L h1 ⟨ρ',st',k1,k2⟩
 cases e with
 |normal=>exact key k1 k2
 |ret=>exact key k1 k2
 |_=>cases k1
end
end Go.Proofs.YtkinkfieackmdaaGreat.Den
namespace Go.Proofs.YtkinkfieackmdaaGreat.Den
open Go.RowKit
open Abs (V AV VR)
end Go.Proofs.YtkinkfieackmdaaGreat.Den

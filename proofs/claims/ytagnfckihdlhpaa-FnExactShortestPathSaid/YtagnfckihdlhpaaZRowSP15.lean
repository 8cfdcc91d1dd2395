/-
  Texts that the claim rests on, merged: Reb, DenC, DenC2, DenG, Nil, Tb, ReadD, AtV.
-/
import Derived.Test.YtagnfckihdlhpaaProg
import Derived.Test.YtagnfckihdlhpaaZRowSP2
import Derived.Test.YtagnfckihdlhpaaZRowSP5
import Derived.Test.YtagnfckihdlhpaaZRowSP13
import Derived.Test.YtagnfckihdlhpaaZRowSP14

namespace Go.Proofs.Ytagnfckihdlhpaa.Abs
open Go.RowKit
section
variable {P : Program} {E : Cx} {K : Env → Heap → Prop} {L : Env} {h : Heap} {d : Nat} {ty : TypeId} {pos : String} {af : Array Edge} {gd : Option (Nat × Bool)} {tb : Tbl}
theorem ar_sliceB (htb:TbOK P tb) {t:TypeId} {x y:Operand} {s id len lo:Nat} {es:List (List V)} {kl:IntKind} {el:ElI} (hx:ev L x=some (.one (.own id 0 len))) (he:elOf tb t=some el) (ho:h[id]? =some (some (.row s es))) (hs:el.size=s) (hpos:0<s)
  (hfull:len=es.length) (hy:ev L y=some (.one (.lit (.int kl lo)))) (h1:lo<=len) (hn:d<E.n)
  (hk:K ((d,.one (.own h.length 0 (len-lo)))::L) (h.set id none++[some (.row s (es.drop lo))])):ar P ⟨some d,.slice t x (some y) none none,ty,pos,af,gd⟩ E K L h:=
 ⟨fun Lf ι I a w r0 => by
  have r:=r0.low
  obtain⟨inf,hι,hor,hsz⟩:=r.row ho
  obtain⟨u1,u2,_⟩:=elOf_some htb he
  have hl:some (a.eval y)=none/\lo=0\/some (a.eval y)=some (.int kl lo):=.inr (by simp[(r.ev hy).lit.1])
  have hh:(none:Option Value)=none/\len=len\/(none:Option Value)=some (.int kl len):=.inl ⟨rfl,rfl⟩
  have hv:=(r.ev hx).one'
  have hsh:=hor.shift (off:=lo) (by omega)
  have hren:=r0.rename (inf':=⟨inf.block,inf.base+lo*s,inf.cap-lo,s⟩) ho hι rfl hsh
  have hi:(ι++[(⟨inf.block,inf.base+lo*s,inf.cap-lo,s⟩:Inf)])[h.length]? =some ⟨inf.block,inf.base+lo*s,inf.cap-lo,s⟩:=by rw[r.heap.len];simp
  have fin:∀c,(execOp a.eval ⟨some d,.slice t x (some y) none none,ty,pos,af,gd⟩).run P w= .ok (.value c) w->AR (ι++[(⟨inf.block,inf.base+lo*s,inf.cap-lo,s⟩:Inf)]) I w (.one (.own h.length 0 (len-lo))) c->
    Oper.wp P ⟨some d,.slice t x (some y) none none,ty,pos,af,gd⟩ a w (fun a' w'=>∃L' h' ι' I',K L' h'/\Rel E (L'++Lf) h' ι' I' a' w') (fun _ _ _=>False):=fun c e1 e2=>by
   unfold Oper.wp
   rw[e1,Oper.upon_value]
   exact⟨_,_,_,I,hk,hren.put hn e2⟩
  generalize hc:a.eval x=c at hv
  cases hv with
  | @own0 _ _ _ oo inf' hi' hcap=>
   have:inf'=inf:=by rw[hι]at hi';cases hi';rfl
   subst this
   have e1:lo=0:=by omega
   subst e1
   have hb:=sliceBounds_run (P:=P) w (isS:=true) (len:=0) (cap:=0) hl hh h1 (by omega)
   have q:=VR.own0 (I:=I) (w:=w) (off:=0) (o:=oo) hi (by show 0=inf'.cap-0;omega)
   refine fin (.slice (some ⟨inf'.block,oo,none⟩) 0 0) ?_ (.one q)
   simp[execOp,Instr.sliceAt,Instr.slice,hc,run_underlying u1,hb,info_run u2 (by omega),hs]
  | @own _ _ _ _ cap inf' hi' hle hcap hm =>
   have:inf'=inf:=by rw[hι]at hi';cases hi';rfl
   subst this
   have hb:=sliceBounds_run (P:=P) w (isS:=true) (len:=len) (cap:=cap) hl hh h1 (by omega)
   by_cases hcl:cap=lo
   ·have e1:len-lo=0:=by omega
    have e2:cap-lo=0:=by omega
    refine fin (.slice (some ⟨inf'.block,inf'.base+0*inf'.size,none⟩) (len-lo) (cap-lo)) ?_ ?_
    ·subst hcl
     simp[execOp,Instr.sliceAt,Instr.slice,hc,run_underlying u1,hb,info_run u2 (by omega),hs]
    ·have q:=VR.own0 (I:=I) (w:=w) (off:=0) (o:=inf'.base+0*inf'.size) hi (by show 0=inf'.cap-lo;omega)
     rw[e1,e2]
     exact .one q
   ·have hvr:=VR.own (I:=I) (w:=w) (off:=0) (len:=len-lo) (c:=cap-lo) hi (by omega) (by show 0+(cap-lo)=inf'.cap-lo;omega) (by omega)
    refine fin _ ?_ (.one hvr)
    simp[execOp,Instr.sliceAt,Instr.slice,hc,run_underlying u1,hb,info_run u2 (by omega),hs,hcl,addr_add,hsz]⟩
end
end Go.Proofs.Ytagnfckihdlhpaa.Abs
namespace Go.Proofs.Ytagnfckihdlhpaa.Den
open Go.RowKit
open Abs (V AV Env Heap ar)
section
variable {P : Program} {E : Abs.Cx} {F : In} {ρ : Rho} {H : List Ob} {D : List (Nat × AT)} {L : Env} {h : Heap} {tb : Nat → Option TI} {d : Nat} {ty : TypeId} {pos : String} {af : Array Edge} {gd : Option (Nat × Bool)}
theorem FRl.drop {T:Ty} {xs:List (I T)} {es:List (List V)} (h:FRl T xs es):∀k,FRl T (xs.drop k) (es.drop k):=by
 induction h with
 |nil=>intro k;simp;exact .nil
 | cons a b ih =>
  intro k
  cases k with
  |zero=>exact .cons a b
  |succ k=>exact ih k
theorem op_sliceB (htb:TBOK P tb) (hn:d<E.n) {t:Nat} {id n:Nat} {ti:TI} {T:Ty} {x y:Operand} {i:Int} {xs:List (I T)} (ht:tb t=some ti) (he:ti.elem=some T) (hx:ev D x=some (.one (.o id))) (hr:H[id]? =some (.row T n xs)) (hy:ev D y=some (.one (.i i))) (hi:0<i) (hle:i<=xs.length):
  OpOK P ⟨some d,.slice t x (some y) none none,ty,pos,af,gd⟩ E F D H (.one (.o H.length)) ((H.set id .gone)++[.row T 0 (xs.drop i.toNat)]):=fun ρ L h hs hh hf=>by
 obtain⟨ix,G⟩:=htb.get ht
 obtain⟨el,z',g0,g1,g2,g3,g4,g5,g6,g7,g8⟩:=G.elem T he
 obtain⟨av,a1,a2⟩:=ev_ok hs hx
 obtain⟨u,rfl,a3⟩:=a2.one'
 obtain⟨bv,b1,b2⟩:=ev_ok hs hy
 obtain⟨u',rfl,b3⟩:=b2.one'
 cases b3.int
 obtain⟨k,rfl⟩:=Int.eq_ofNat_of_zero_le (show 0<=i by omega)
 have hlen:(H.set id Ob.gone).length=H.length:=by simp
 have hev:Ev ρ H ρ (H.set id .gone):=Ev.set hr (evo.goes _)
 rcases a3.own hr with⟨a,rfl,a4⟩|⟨rfl,a4⟩
 ·obtain⟨es,e1,e2⟩:=hh.at_ a4 hr
  have e3:=e2.frl
  have hp1:HpR ρ (H.set id .gone) (h.set a none):=hh.set a4 hr (by simp) (evo.goes _) trivial
  have hf1:Fr F ρ (H.set id .gone) (h.set a none):=hf.set a4 hr (by simp) (evo.goes _)
  obtain⟨m1,m2⟩:=new_row g4 hp1 (e3.drop k)
  have hf2:=hf1.push hp1.len (.row T 0 (xs.drop k)) (some (.row (szT T) (es.drop k)))
  rw[hlen]at m1
  rw[List.length_set]at m1 m2 hf2
  refine Abs.ar_sliceB G.tb a1 g1 e1 g3 g4 (by rw[e3.len]) b1 (by omega) hn ⟨ρ++[some h.length],_,rfl,?_,m2,hev.trans (Ev.push _ _),hf2⟩
  rw[List.length_drop,e3.len]at m1
  exact m1
 ·obtain rfl:xs=[]:=by
   rcases hh.row _ n _ _ hr with⟨a',es,h7,_⟩|⟨_,h7,_⟩
   ·rw[a4]at h7;cases h7
   ·exact h7
  simp at hle
  omega
end
end Go.Proofs.Ytagnfckihdlhpaa.Den

namespace Go.Proofs.Ytagnfckihdlhpaa.Den
open Go.RowKit
open Abs (V AV Env Heap ar aw ao)
section
variable {P : Program} {E : Abs.Cx} {F : In} {ρ ρ' : Rho} {H : List Ob} {D : List (Nat × AT)} {L : Env} {h h' : Heap} {R : Type} {tb : Nat → Option TI} {O : Orc}
theorem lenC_mono {Hm H:List Ob} (hl:Le Hm H) {c:C} {n:Int} (h:lenC Hm c=some n):lenC H c=some n:=by
 unfold lenC at h ⊢
 split at h
 case h_5=>
  split at h
  ·rename_i hx
   rw[hl _ _ hx (by simp)]
   exact h
  ·rename_i hx
   rw[hl _ _ hx (by simp)]
   exact h
  ·cases h
 all_goals exact h
theorem valD_mono {Hm H:List Ob} (hl:Le Hm H) {o:Oper} {v:AT} (hv:(valD tb o D Hm).has v):(valD tb o D H).has v:=by
 unfold valD at hv ⊢
 split at hv
 all_goals first
  |exact hv
  |(cases hv;done)
  |skip
 ·split at hv
  ·exact hv
  ·exact hv
  ·split at hv
   ·rename_i hx hf
    rw[hl _ _ hx (by simp),hf]
    exact hv
   ·cases hv
  ·exact hv.elim
 ·split at hv
  ·split at hv
   ·rename_i hx
    rw[hl _ _ hx (by simp)]
    exact hv
   ·cases hv
  ·exact hv
  ·split at hv
   ·rename_i hx
    rw[hl _ _ hx (by simp)]
    exact hv
   ·cases hv
  ·exact hv.elim
 ·split at hv
  ·exact hv
  ·split at hv
   ·rename_i hx
    rw[hl _ _ hx (by simp)]
    exact hv
   ·cases hv
  ·exact hv.elim
 ·split at hv
  ·exact hv
  ·exact valX_mono hl hv
 ·split at hv
  ·split at hv
   ·exact hv
   ·exact valX_mono hl hv
  ·exact valX_mono hl hv
 ·split at hv
  ·split at hv
   ·exact hv
   ·split at hv
    ·rename_i h1 h2
     rw[lenC_mono hl h2,h1]
     exact hv
    ·cases hv
   ·cases hv
  ·cases hv
 ·exact valX_mono hl hv
theorem effX_unt {o:Oper} {v:AT} {H':List Ob} (hv:(effX tb o.op D H).has (v,H')):Unt (touch tb O o D H) H H':=by
 have push:∀x:Ob,Unt (touch tb O o D H) H (H++[x]):=fun x id y hy _=>app_get hy
 unfold effX at hv
 split at hv
 ·split at hv
  ·cases hv;exact push _
  ·cases hv
 ·rename_i args tys ho
  split at hv
  ·rename_i x y t tx ha ht
   split at hv
   ·split at hv
    ·obtain⟨_,_,e⟩:=hv;cases e;exact push _
    ·cases hv
   ·rename_i id s h1 h2 h3
    split at hv
    ·obtain⟨_,_,e⟩:=hv
     cases e
     intro j z hz hn
     simp only[touch,ho,ha,h2]at hn
     exact app_get (by rw[List.getElem?_set_ne (fun e=>hn (by simp[e]))];exact hz)
    ·cases hv
   ·split at hv
    ·obtain⟨_,_,e⟩:=hv;cases e;exact push _
    ·cases hv
   ·cases hv
  ·cases hv
 ·cases hv
theorem opX_unt {o:Oper} {H':List Ob} (hv:(opX tb o.op D H).has H'):Unt (touch tb O o D H) H H':=by
 unfold opX at hv
 split at hv
 ·rename_i t m k x ho
  split at hv
  ·rename_i T id s vs h1 h2 h3 h4
   have set:∀{z:Ob},Unt (touch tb O o D H) H (H.set id z):=fun {z} j w hw hn=>by
    rw[List.getElem?_set_ne (fun e=>hn (by simp[touch,ho,h2,e]))];exact hw
   split at hv
   ·split at hv
    ·split at hv
     ·cases hv;exact set
     ·cases hv
    ·split at hv
     ·cases hv
     ·cases hv;exact set
    ·cases hv
   ·cases hv
  ·cases hv
 ·cases hv
theorem effD_unt {o : Oper} {v : AT} {H' : List Ob} (hv : (effD tb o D H).has (v, H')) : Unt (touch tb O o D H) H H' := by
 have push:∀x:Ob,Unt (touch tb O o D H) H (H++[x]):=fun x id y hy _=>app_get hy
 unfold effD at hv
 split at hv
 ·split at hv
  ·cases hv;exact push _
  ·cases hv
 ·split at hv
  ·cases hv;exact push _
  ·cases hv
 ·split at hv
  ·split at hv
   ·split at hv
    ·cases hv;exact push _
    ·cases hv
   ·cases hv
  ·cases hv
 ·split at hv
  ·split at hv
   ·obtain⟨_,_,e⟩:=hv;cases e;exact push _
   ·cases hv
  ·cases hv
 ·rename_i args tys ho
  split at hv
  ·rename_i x y t tx ha ht
   split at hv
   ·rename_i T U cx cy h1 h2 h3 h4
    split at hv
    ·split at hv
     ·rename_i id
      split at hv
      ·split at hv
       ·obtain⟨_,_,e⟩:=hv
        cases e
        intro j z hz hn
        simp only[touch,ho,ha,h3]at hn
        exact app_get (by rw[List.getElem?_set_ne (fun e=>hn (by simp[e]))];exact hz)
       ·cases hv
      ·cases hv
     ·obtain⟨_,_,e⟩:=hv;cases e;exact push _
     ·exact effX_unt hv
    ·cases hv
   ·exact effX_unt hv
  ·cases hv
 ·exact effX_unt hv
theorem opN_unt {o : Oper} {H' : List Ob} (hv : (opN tb o D H).has H') : Unt (touch tb O o D H) H H' := by
 unfold opN at hv
 split at hv
 ·rename_i t x y ho
  have set:∀{id:Nat} {z:Ob},(∀j,j∉touch tb O o D H->j≠id)->Unt (touch tb O o D H) H (H.set id z):=fun hne j w hw hn=>by
   rw[List.getElem?_set_ne (fun e=>hne j hn e.symm)];exact hw
  split at hv
  ·rename_i h2 h3
   split at hv
   ·split at hv
    ·cases hv
     exact set fun j hj e=>hj (by simp[touch,ho,h2,e])
    ·cases hv
   ·cases hv
  ·rename_i ti id k n T e0 off vs h1 h2 h3
   have hs:∀{z:Ob},Unt (touch tb O o D H) H (H.set id z):=fun {z}=>set (z:=z) fun j hj e=>hj (by simp only[touch,ho,h2];simp[e])
   split at hv
   ·split at hv
    ·split at hv
     ·split at hv
      ·split at hv
       ·split at hv
        ·cases hv;exact hs
        ·cases hv
       ·obtain⟨e',e1,e2⟩:=hv
        dsimp only at e2
        split at e2
        ·cases e2;exact hs
        ·cases e2
      ·cases hv
     ·cases hv
    ·cases hv
   ·cases hv
  ·cases hv
 ·exact opX_unt hv
theorem one_ok (htb:TBOK P tb) (hO:OrcOK P O) {nt:Nat} (hE:E.n=nt) {o:Oper} {K:AT->List Ob->Option R} {r:R} (hc:one tb O nt o D H K=some r):∃v H',K v H'=some r/\(∀F:In,OpOK P o E F D H v H')/\Unt (touch tb O o D H) H H':=by
 unfold one at hc
 split at hc
 ·rename_i d hd
  split at hc
  ·rename_i hlt
   have hn:d<E.n:=by rw[hE];simpa [Nat.blt_eq]using hlt
   unfold opD at hc
   split at hc
   ·obtain⟨v,h1,h2⟩:=Pl.run_has hc
    exact⟨v,H,h2,fun _=>val_op fun ρ L h hs hp=>valD_ok htb hd hn h1 hs hp,.refl _ _⟩
   ·obtain⟨q,h1,h2⟩:=Pl.run_has hc
    exact⟨q.1,q.2,h2,fun _=>effD_ok htb hd hn h1,effD_unt h1⟩
   ·exact callD_ok htb hO hd hn hc
  ·cases hc
 ·rename_i hd
  obtain⟨H',h1,h2⟩:=Pl.run_has hc
  exact⟨_,H',h2,fun _=>opN_ok htb hd h1,opN_unt h1⟩
theorem oneK_ok (htb:TBOK P tb) (hO:OrcOK P O) {nt:Nat} (hE:E.n=nt) {o:Oper} (hk:keeps tb O o D=true) {K:AT->List Ob->Option R} {r:R} (hc:one tb O nt o D H K=some r):∃v,K v H=some r/\∀H',Le H H'->OpOK P o E F D H' v H':=by
 unfold one at hc
 split at hc
 ·rename_i d hd
  split at hc
  ·rename_i hlt
   have hn:d<E.n:=by rw[hE];simpa [Nat.blt_eq]using hlt
   unfold opD at hc
   split at hc
   ·obtain⟨v,h1,h2⟩:=Pl.run_has hc
    exact⟨v,h2,fun H' hl=>val_op fun ρ L h hs hp=>valD_ok htb hd hn (valD_mono hl h1) hs hp⟩
   ·rename_i h1
    exfalso
    unfold keeps at hk
    rw[hd]at hk
    simp only at hk
    split at hk
    ·rename_i e;rw[e]at h1;simp[kind]at h1
    ·rw[h1]at hk;cases hk
   ·exact callK_ok htb hO hd hn hk hc
  ·cases hc
 ·rename_i hd
  unfold keeps at hk
  rw[hd]at hk
  cases hk
theorem oneI_ok (htb:TBOK P tb) {nt:Nat} (hE:E.n=nt) {o:Oper} {K:AT->Option R} {r:R} (hc:oneI tb nt o D K=some r):∃v,K v=some r/\∀(F:In) (H:List Ob),OpOK P o E F D H v H:=by
 unfold oneI at hc
 split at hc
 ·rename_i d hd
  split at hc
  ·rename_i hlt
   have hn:d<E.n:=by rw[hE];simpa [Nat.blt_eq]using hlt
   obtain⟨v,h1,h2⟩:=Pl.run_has hc
   exact⟨v,h2,fun _ H=>immD_ok htb hd hn h1⟩
  ·cases hc
 ·cases hc
theorem bindA_enc {dst:Option Nat} {v:AT} {av:AV} (hs:EncL ρ H D L) (hv:ATR ρ H v av):EncL ρ H (bindA dst v D) (Abs.bindD dst av L):=by
 cases dst with
 |none=>exact hs
 | some d =>
  intro t x hx
  simp only[bindA,List.lookup_cons]at hx
  simp only[Abs.bindD,List.lookup_cons]
  split at hx
  ·cases hx;exact⟨av,rfl,hv⟩
  ·exact hs t x hx
theorem gsl_slot {l:List Oper} {j:Nat}:gsl l j=Abs.gslot l.toArray j:=by
 unfold gsl Abs.gslot
 simp only[List.getElem?_toArray]
 cases l[j]? <;>rfl
theorem enc_b {d:Nat} {p:Bool} (hs:EncL ρ H D L) (h:D.lookup d=some (.one (.b p))):L.lookup d=some (.one (.lit (.bool p))):=by
 obtain⟨av,h1,h2⟩:=hs d _ h
 obtain⟨u,rfl,h3⟩:=h2.one'
 rw[h1,h3.bool]
theorem enc_u {d:Nat} (hs:EncL ρ H D L) (h:D.lookup d=some (.tup [])):L.lookup d=some (.tup []):=by
 obtain⟨av,h1,h2⟩:=hs d _ h
 cases h2 with
 | @tup xs ys hl hr=>
  cases ys with
  |nil=>exact h1
  |cons _ _=>simp at hl
inductive Gd (ops:Array Oper) (n:Nat) (o:Oper) (D:List (Nat×AT)):Bool->Prop
 |run (h:o.guard=none):Gd ops n o D true
 |runG {j d:Nat} {want:Bool} (h:o.guard=some (j,want)) (hj:Abs.gslot ops j=some d) (hd:D.lookup d=some (.one (.b want))):Gd ops n o D true
 |skip {j d d':Nat} {p want:Bool} (h:o.guard=some (j,want)) (hj:Abs.gslot ops j=some d) (hd:D.lookup d=some (.one (.b p))) (hp:p= !want) (hdst:o.dst=some d') (hn:d'<n):Gd ops n o D false
 |skipU {j d d':Nat} {want:Bool} (h:o.guard=some (j,want)) (hj:Abs.gslot ops j=some d) (hd:D.lookup d=some (.tup [])) (hdst:o.dst=some d') (hn:d'<n):Gd ops n o D false
def Same (D D':List (Nat×AT)):Prop:=∀t,D.lookup t=D'.lookup t
theorem Same.refl (D:List (Nat×AT)):Same D D:=fun _=>rfl
theorem Same.trans {D D' D2:List (Nat×AT)} (h:Same D D') (k:Same D' D2):Same D D2:=fun t=>(h t).trans (k t)
theorem Same.enc {D D':List (Nat×AT)} (h:Same D' D) (k:EncL ρ H D L):EncL ρ H D' L:=fun t v hv=>k t v (by rw[<-h t];exact hv)
theorem same_cons {d:Nat} {v:AT} {D:List (Nat×AT)} (h:D.lookup d=some v):Same ((d,v)::D) D:=fun t=>by
 rw[List.lookup_cons]
 split
 ·rename_i e;have:=eq_of_beq e;subst this;exact h.symm
 ·rfl
theorem Same.bind {D D':List (Nat×AT)} (h:Same D D') (dst:Option Nat) (v:AT):Same (bindA dst v D) (bindA dst v D'):=by
 cases dst with
 |none=>exact h
 |some d=>intro t;simp only[bindA,List.lookup_cons];split<;>first|rfl|exact h t
theorem Same.sel {D D':List (Nat×AT)} (h:Same D D'):∀ts,Draw.sel D ts=Draw.sel D' ts
 |[]=>rfl
 |t::ts=>by simp only[Draw.sel];rw[h t,Same.sel h ts]
theorem guardK_ok {nt:Nat} {l:List Oper} {o:Oper} {D1 D:List (Nat×AT)} (hsub:Draw.Sub D1 D) {run skip:List (Nat×AT)->Option R} {r:R} (hc:guardK nt l o D1 D run skip=some r):∃D',Same D' D/\((Gd l.toArray nt o D1 true/\run D'=some r)\/(Gd l.toArray nt o D1 false/\skip D'=some r)):=by
 unfold guardK at hc
 split at hc
 ·rename_i hg;exact⟨D,.refl D,.inl ⟨.run hg,hc⟩⟩
 ·rename_i j want hg
  split at hc
  ·rename_i d d' hj hdst
   rw[gsl_slot]at hj
   split at hc
   ·rename_i hlt
    have hn:d'<nt:=by simpa [Nat.blt_eq]using hlt
    split at hc
    ·rename_i p hd
     cases want<;>cases p
     ·exact⟨_,same_cons (hsub _ _ hd),.inl ⟨.runG hg hj hd,hc⟩⟩
     ·exact⟨_,same_cons (hsub _ _ hd),.inr ⟨.skip hg hj hd rfl hdst hn,hc⟩⟩
     ·exact⟨_,same_cons (hsub _ _ hd),.inr ⟨.skip hg hj hd rfl hdst hn,hc⟩⟩
     ·exact⟨_,same_cons (hsub _ _ hd),.inl ⟨.runG hg hj hd,hc⟩⟩
    ·rename_i hd;exact⟨D,.refl D,.inr ⟨.skipU hg hj hd hdst hn,hc⟩⟩
    ·cases hc
   ·cases hc
  ·cases hc
theorem restL_some {α:Type} {xs ys:List α} {i:Int} (h:restL xs i=some ys):0<i/\i<=xs.length/\ys=xs.drop i.toNat:=by
 unfold restL at h
 cases hb:decide (0<i)&&decide (i<=(xs.length:Int))with
 | true =>
  rw[hb]at h
  simp at hb h
  exact⟨hb.1,hb.2,h.symm⟩
 |false=>rw[hb]at h;cases h
theorem sliceB_none {im:List Nat} {o:Oper} (h:o.dst=none):sliceB tb im o D H=none:=by
 unfold sliceB
 rw[h]
 split
 ·rename_i e;cases e
 ·rfl
theorem sliceB_ok (htb:TBOK P tb) {im:List Nat} {o:Oper} {d:Nat} (hd:o.dst=some d) (hn:d<E.n) {q:Nat×Pl (AT×List Ob)} (hs:sliceB tb im o D H=some q) {v:AT} {H':List Ob} (hv:q.2.has (v,H')):(∀F,OpOK P o E F D H v H')/\Unt [q.1] H H':=by
 obtain⟨dst,op,ty,pos,af,gd⟩:=o
 simp only at hd
 subst hd
 unfold sliceB at hs
 simp only at hs
 split at hs
 ·rename_i t x y d' e
  cases e
  split at hs
  ·split at hs
   ·rename_i id hx
    cases hs
    simp only at hv ⊢
    split at hv
    ·rename_i T T' n xs i ht hr hy
     obtain⟨ti,h1,h2⟩:=Option.bind_eq_some_iff.1 ht
     split at hv
     ·rename_i zs hc
      obtain⟨rfl,rfl⟩:=castL_some hc
      obtain⟨ys,e1,e2⟩:=hv
      cases e2
      obtain⟨q1,q2,rfl⟩:=restL_some e1
      refine⟨fun F=>op_sliceB htb hn h1 h2 hx hr hy q1 q2,fun j z hz hj=> ?_⟩
      have hl:=(List.getElem?_eq_some_iff.1 hz).1
      rw[List.getElem?_append_left (by simpa using hl),List.getElem?_set_ne (fun e=>hj (by simp[e]))]
      exact hz
     ·cases hv
    ·cases hv
   ·cases hs
  ·cases hs
 ·cases hs
theorem oneS_ok (htb:TBOK P tb) (hO:OrcOK P O) {nt:Nat} (hE:E.n=nt) {im:List Nat} {o:Oper} {K:AT->List Ob->Option R} {r:R} (hc:oneS tb O nt im o D H K=some r):∃v H',K v H'=some r/\∀F,OpOK P o E F D H v H'/\Unt (touchS tb O im o D H) H H':=by
 have plain:sliceB tb im o D H=none->one tb O nt o D H K=some r->∃v H',K v H'=some r/\∀F,OpOK P o E F D H v H'/\Unt (touchS tb O im o D H) H H':=fun hq hc=>let⟨v,H',h1,h2,h3⟩:=one_ok htb hO hE hc;⟨v,H',h1,fun F=>⟨h2 F,by unfold touchS;rw[hq];exact h3⟩⟩
 unfold oneS at hc
 split at hc
 ·rename_i d hd
  split at hc
  ·obtain⟨v,h1,h2⟩:=oneI_ok (E:=E) htb hE hc
   exact⟨v,H,h1,fun F=>⟨h2 F H,.refl _ _⟩⟩
  ·split at hc
   ·rename_i q hq
    split at hc
    ·rename_i hlt
     obtain⟨z,h1,h2⟩:=Pl.run_has hc
     obtain⟨k1,k2⟩:=sliceB_ok (E:=E) htb hd (by rw[hE];simpa [Nat.blt_eq]using hlt) hq h1
     exact⟨z.1,z.2,h2,fun F=>⟨k1 F,by unfold touchS;rw[hq];exact k2⟩⟩
    ·cases hc
   ·rename_i hq
    exact plain hq hc
 ·rename_i hd
  exact plain (sliceB_none hd) hc
def ExtOK (P:Program) (o:Oper) (E:Abs.Cx) (F:In) (D:List (Nat×AT)) (H:List Ob) (v:AT) (H':List Ob):Prop:=
 ∀ρ L h,EncL ρ H D L->HpR ρ H h->Fr F ρ H h->XR F ρ H h->ar P o E (fun L2 h2=>∃ρ' av,L2=Abs.bindD o.dst av L/\ATR ρ' H' v av/\HpR ρ' H' h2/\Ev ρ H ρ' H'/\Fr F ρ' H' h2/\XR F ρ' H' h2) L h
theorem eqN_some {a b n:Nat} {u:Unit} (h:eqN a b n=some u):a=b/\a<n:=by
 unfold eqN at h
 cases hb:Nat.beq a b with
 | true =>
  cases hc:Nat.blt a n with
  |true=>exact⟨Nat.eq_of_beq_eq_true hb,by simpa [Nat.blt_eq]using hc⟩
  |false=>rw[hb,hc]at h;cases h
 |false=>rw[hb]at h;cases h
theorem okX_same {ids:List Nat} {H':List Ob} (hu:Unt ids H H') (hk:okX H ids H'=true):RowsSame H H':=fun id y hy hr=>by
 unfold okX at hk
 rw[Bool.and_eq_true]at hk
 by_cases hid:id<H.length
 ·by_cases hm:id∈ids
  ·have:=List.all_eq_true.1 hk.1 id hm
   rw[hy]at this
   have t2:(!y.isRows)=true:=this
   rw[hr]at t2
   cases t2
  ·have e:=List.getElem?_eq_getElem hid
   have:=hu id _ e hm
   rw[hy]at this
   cases this
   exact e
 ·have:y∈H'.drop H.length:=by
   refine List.mem_of_getElem? (i:=id-H.length) ?_
   rw[List.getElem?_drop,show H.length+(id-H.length)=id by omega]
   exact hy
  have t2:(!y.isRows)=true:=List.all_eq_true.1 hk.2 y this
  rw[hr]at t2
  cases t2
section
variable {d : Nat} {ty : TypeId} {pos : String} {af : Array Edge} {gd : Option (Nat × Bool)} {id k : Nat} {T : Ty} {xss : List (List (I T))}
theorem ext_make (htb:TBOK P tb) (hn:d<E.n) {t:Nat} {ti:TI} {x y:Operand} {n:Int} (ht:tb t=some ti) (he:ti.elem=some (.sl T)) (hx:ev D x=some (.one (.i n))) (hy:sameOp x y=true) (hm:mk (α:=List (I T)) [] n=some xss) (hnr:(H.all fun o=> !o.isRows)=true) (hT:0<szT T):
  ExtOK P ⟨some d,.makeSlice t x y,ty,pos,af,gd⟩ E F D H (.one (.o H.length)) (H++[.rows T xss none]):=fun ρ L h hs hh hf hxr=>by
 obtain⟨i,G⟩:=htb.get ht
 obtain⟨el,z',g0,g1,g2,g3,g4,g5,g6,g7,g8⟩:=G.elem (.sl T) he
 obtain⟨m1,m2,rfl⟩:=mk_some hm
 obtain⟨m,rfl⟩:=Int.eq_ofNat_of_zero_le m1
 obtain⟨av,a1,a2⟩:=ev_ok hs hx
 obtain⟨u,rfl,a3⟩:=a2.one'
 cases a3.int
 obtain⟨av,b1,b2⟩:=ev_ok hs (sameOp_ok hy hx)
 obtain⟨u,rfl,b3⟩:=b2.one'
 cases b3.int
 have hm2:m<=4294967296:=by omega
 have g7:=Nat.le_of_ble_eq_true g7
 obtain⟨z1,us,z2,z3⟩:=zeros_flat g6
 have hz:el.zero=[.slice none 0 0]:=by
  have e:z'=([]:List (I T)):=by
   have g2:some ([]:List (I T))=some z':=by first|exact g2|exact g2.symm
   exact(Option.some.inj g2).symm
  subst e
  have g6:zerosFlat el.zero [.l T []]=true:=g6
  generalize el.zero=q at g6
  match q,g6 with
  |[],g6=>cases g6
  | [v], g6 =>
   simp only[zerosFlat,Bool.and_true]at g6
   unfold zeroFlat at g6
   split at g6<;>first|rfl|contradiction|cases g6
  |v::v2::q,g6=>simp[zerosFlat]at g6
 have hr:=Abs.ar_make (P:=P) (E:=E) (L:=L) (d:=d) (ty:=ty) (pos:=pos) (af:=af) (gd:=gd) (h0:=h) (l:=[]) (n:=h.length) (m:=m) (K:=fun L2 h2=>L2=(d,.one (.own h.length 0 m))::L/\h2=h++[some (.row 1 (List.replicate m [.lit (.slice none 0 0)]))]) G.tb rfl g1 (by intro e;rw[e]at g5;simp at g5;omega) g5 z1 a1 b1 (Nat.le_trans (Nat.mul_le_mul g7 hm2) (by decide)) (by omega) hn ⟨rfl,by rw[g3,hz];rfl⟩
 rw[List.append_nil]at hr
 refine ar_mono hr fun L2 h2 ⟨k1,k2⟩=> ?_
 subst k1 k2
 have e1:(H++[Ob.rows T (List.replicate (m:Int).toNat []) none])[H.length]? =some (.rows T (List.replicate (m:Int).toNat []) none):=by simp
 have e2:(ρ++[some h.length])[H.length]? =some (some h.length):=by rw[<-hh.len];simp
 refine⟨ρ++[some h.length],.one (.own h.length 0 m),rfl,.one ?_,hh.push (y:=some (.row 1 (List.replicate m [.lit (.slice none 0 0)]))) trivial,Ev.push _ _,hf.push hh.len _ _,fun id' T' xss' ho' hr'=> ?_⟩
 ·have:=CR.oR (ρ:=ρ++[some h.length]) e2 e1
  simpa using this
 ·have old:∀(j:Nat) (y:Ob),(H++[Ob.rows T (List.replicate (m:Int).toNat []) none])[j]? =some y->y.isRows=true->j=H.length:=fun j y hj hy=>by
   rcases get_app2 hj with⟨_,hj⟩|⟨hj,_⟩
   ·have t2:(!y.isRows)=true:=List.all_eq_true.1 hnr y (List.mem_of_getElem? hj)
    rw[hy]at t2
    cases t2
   ·exact hj
  have:=old id' _ hr' rfl
  subst this
  rw[e1]at hr'
  cases hr'
  refine⟨old,h.length,List.replicate m [.lit (.slice none 0 0)],e2,by simp,by simp,hT,fun e he=> ?_,fun j hj hl=> ?_,fun hlt=> ?_,?_,fun k xs e _ h1 h2=> ?_,fun k b n _ h2=> ?_,fun k k' b n n' _ _ h2 _=> ?_⟩
  ·rw[(List.mem_replicate.1 he).2];rfl
  ·rcases get_app2 hj with⟨_,hj⟩|⟨hj,_⟩
   ·have:=hh.lt _ _ hj;omega
   ·rw[hh.len]at hj
    subst hj
    obtain⟨y,y1,y2⟩:=hl
    rw[e1]at y1
    cases y1
    cases y2
  ·have:=hf.len;omega
  ·cases hq:F.H[H.length]? with
   |none=>rfl
   | some y =>
    obtain⟨y',y1,_⟩:=hf.ob _ _ hq
    simp at y1
  ·have h1:=List.mem_of_getElem? h1
   have h2:=List.mem_of_getElem? h2
   exact .inl ⟨(List.mem_replicate.1 h2).2,(List.mem_replicate.1 h1).2⟩
  ·have h2:=(List.mem_replicate.1 (List.mem_of_getElem? h2)).2
   cases h2
  ·have h2:=(List.mem_replicate.1 (List.mem_of_getElem? h2)).2
   cases h2
theorem ext_index (htb:TBOK P tb) (hn:d<E.n) {t:Nat} {ti:TI} {T':Ty} {x y:Operand} {i:Int} {e:List (I T)} {ho:Option Nat} (ht:tb t=some ti) (he:ti.elem=some T') (hsz:szT T'=1) (hx:ev D x=some (.one (.o id))) (hr:H[id]? =some (.rows T xss ho)) (hy:ev D y=some (.one (.i i))) (hi:ix xss i=some e):
  ExtOK P ⟨some d,.indexAddr t x y,ty,pos,af,gd⟩ E F D H (.one (.r id i.toNat)) H:=fun ρ L h hs hh hf hxr=>by
 obtain⟨i',G⟩:=htb.get ht
 obtain⟨el,z,_,g1,_,g2,g3,_⟩:=G.elem T' he
 obtain⟨av,h1,h2⟩:=ev_ok hs hx
 obtain⟨u,rfl,h3⟩:=h2.one'
 obtain⟨aw,k1,k2⟩:=ev_ok hs hy
 obtain⟨u,rfl,k3⟩:=k2.one'
 cases k3.int
 obtain⟨h5,h6⟩:=ix_some hi
 have hlt:=(List.getElem?_eq_some_iff.1 h6).1
 obtain⟨a,rfl,h4⟩:=h3.ownR hr
 obtain⟨_,a',es,X⟩:=hxr id T xss ho hr
 have e0:=X.rho
 rw[h4]at e0
 cases e0
 refine Abs.ar_indexOwn G.tb h1 k1 g1 X.main (g2.trans hsz) (by omega) h5 (by omega) hn ⟨ρ,_,rfl,by rw[Nat.zero_add];exact .one (.r h4),hh,Ev.refl _ _,hf,hxr⟩
theorem ext_load (htb:TBOK P tb) (hn:d<E.n) {t:Nat} {ti:TI} {x:Operand} {ys:List (I T)} (ht:tb t=some ti) (hag:ti.agg=false) (hx:ev D x=some (.one (.r id k))) (hr:H[id]? =some (.rows T xss none)) (hk:xss[k]? =some ys):
  ExtOK P ⟨some d,.load t x,ty,pos,af,gd⟩ E F D H (.one (.o H.length)) (H.set id (.rows T xss (some k))++[.row T 0 ys]):=fun ρ L h hs hh hf hxr=>by
 obtain⟨i,G⟩:=htb.get ht
 obtain⟨av,h1,h2⟩:=ev_ok hs hx
 obtain⟨u,rfl,h3⟩:=h2.one'
 obtain⟨a,rfl,h4⟩:∃a,u= .ptr a k 0/\ρ[id]? =some (some a):=by cases h3 with|fl h=>cases h|r h=>exact⟨_,rfl,h⟩
 obtain⟨uniq,a',es,X⟩:=hxr id T xss none hr
 have e0:=X.rho
 rw[h4]at e0
 cases e0
 have hid:=(List.getElem?_eq_some_iff.1 hr).1
 have hkl:k<es.length:=by rw[X.len];exact(List.getElem?_eq_some_iff.1 hk).1
 have hes:es[k]? =some es[k]:=List.getElem?_eq_getElem hkl
 have hel:∃v,es[k]=[v]:=List.length_eq_one_iff.1 (X.one _ (List.getElem_mem hkl))
 obtain⟨v,hv⟩:=hel
 have hlen:(H.set id (Ob.rows T xss (some k))).length=H.length:=by simp
 have eid:(H.set id (Ob.rows T xss (some k))++[Ob.row T 0 ys])[id]? =some (.rows T xss (some k)):=by
  rw[List.getElem?_append_left (by simpa using hid),List.getElem?_set_self hid]
 have enew:(H.set id (Ob.rows T xss (some k))++[Ob.row T 0 ys])[H.length]? =some (.row T 0 ys):=by
  rw[List.getElem?_append_right (by simp)];simp
 have eold:∀{j:Nat},j≠id->j<H.length->(H.set id (Ob.rows T xss (some k))++[Ob.row T 0 ys])[j]? =H[j]? :=fun {j} hj hl=>by
  rw[List.getElem?_append_left (by simpa using hl),List.getElem?_set_ne (fun e=>hj e.symm)]
 -- the objects ahead: as they were
 have evo1:∀z,Ev ρ H (ρ++[z]) (H.set id (.rows T xss (some k))++[.row T 0 ys]):=fun z=>by
  have e1:Ev ρ H ρ (H.set id (.rows T xss (some k))):=Ev.set hr (.inr (.inr (.inr (.inr ⟨_,_,_,rfl,_,_,_,rfl,rfl⟩))))
  exact e1.trans (Ev.push _ _)
 have rows:∀(j:Nat) (y:Ob),(H.set id (Ob.rows T xss (some k))++[Ob.row T 0 ys])[j]? =some y->y.isRows=true->j=id:=fun j y hj hy=>by
  rcases get_app2 hj with⟨hl,hj⟩|⟨_,rfl⟩
  ·rcases set_get hj with⟨h1,_,_⟩|⟨_,hj⟩
   ·exact h1
   ·exact uniq j y hj hy
  ·cases hy
 have lv:∀{j:Nat},live (H.set id (Ob.rows T xss (some k))++[Ob.row T 0 ys]) j->j≠H.length->j≠id/\live H j:=fun {j} ⟨y,y1,y2⟩ hne=>by
  rcases get_app2 y1 with⟨hl,y1⟩|⟨h1,_⟩
  ·rcases set_get y1 with⟨_,rfl,_⟩|⟨h2,y1⟩
   ·cases y2
   ·exact⟨h2,y,y1,y2⟩
  ·rw[hlen]at h1;exact absurd h1 hne
 have ob1:∀z,(∀(a:Nat),z=some a->∃es',h[a]? =some (some (.row (szT T) es'))/\FR (.l T ys) (.imm (szT T) es'))->(z=none->ys=[])->(∀(b:Nat),z=some b->b<h.length/\NotLive ρ H b)->HpR (ρ++[z]) (H.set id (.rows T xss (some k))++[.row T 0 ys]) h:=fun z q1 q2 q3=>by
  refine HpR.mk' (by simp[hh.len]) (fun j y hy=> ?_) (fun i j b k1 k2 l1 l2=> ?_) (fun i b k1=> ?_)
  ·rcases get_app2 hy with⟨hl,hy'⟩|⟨h1,rfl⟩
   ·rcases set_get hy' with⟨rfl,rfl,_⟩|⟨hne,hy'⟩
    ·exact .inr (.inr rfl)
    ·rcases hh.ob hy' with⟨b,w,m1,m2,m3⟩|⟨m1,m2⟩|m1
     ·exact .inl ⟨b,w,app_get m1,m2,m3.mono (evo1 z)⟩
     ·exact .inr (.inl ⟨app_get m1,m2⟩)
     ·exact .inr (.inr m1)
   ·rw[hlen]at h1
    subst h1
    have ez:(ρ++[z])[H.length]? =some z:=by rw[<-hh.len];simp
    cases z with
    |none=>exact .inr (.inl ⟨ez,T,0,by rw[q2 rfl],X.pos⟩)
    | some b =>
     obtain⟨es',p1,p2⟩:=q1 b rfl
     exact .inl ⟨b,_,ez,p1,es',rfl,p2⟩
  ·rcases get_app2 k1 with⟨i1,k1⟩|⟨i1,k1⟩<;>rcases get_app2 k2 with⟨j1,k2⟩|⟨j1,k2⟩
   ·rw[hh.len]at i1 j1
    exact hh.inj i j b k1 k2 (lv l1 (by omega)).2 (lv l2 (by omega)).2
   ·rw[hh.len]at i1
    exact absurd (lv l1 (by omega)).2 ((q3 b k2).2 i k1)
   ·rw[hh.len]at j1
    exact absurd (lv l2 (by omega)).2 ((q3 b k1).2 j k2)
   ·omega
  ·rcases get_app2 k1 with⟨_,k1⟩|⟨_,k1⟩
   ·exact hh.lt _ _ k1
   ·exact(q3 b k1).1
 have fr1:∀z,(∀(b:Nat),z=some b->OldOK F b)->Fr F (ρ++[z]) (H.set id (.rows T xss (some k))++[.row T 0 ys]) h:=fun z q=>by
  refine⟨hf.len,fun j b hj hl hb=> ?_,hf.same,fun j w hw=>app_get (hf.rho j w hw),fun j y hy=> ?_⟩
  ·rcases get_app2 hj with⟨hl1,hj⟩|⟨_,hj⟩
   ·rw[hh.len]at hl1
    exact hf.old j b hj (lv hl (by omega)).2 hb
   ·exact q b hj hb
  ·obtain⟨w,w1,w2⟩:=hf.ob j y hy
   have hne:j≠id:=fun e=>by subst e;rw[X.new]at hy;cases hy
   exact⟨w,by rw[eold hne (List.getElem?_eq_some_iff.1 w1).1];exact w1,w2⟩
 have xr1:∀z,(∀(b:Nat),z=some b->v= .own b 0 ys.length/\b≠a)->XR F (ρ++[z]) (H.set id (.rows T xss (some k))++[.row T 0 ys]) h:=fun z q id' T' xss' ho' hr'=>by
  have:=rows id' _ hr' rfl
  subst this
  rw[eid]at hr'
  cases hr'
  have nl:∀b,NotLive ρ H b->(∀c,z=some c->c≠b)->NotLive (ρ++[z]) (H.set id' (Ob.rows T xss (some k))++[Ob.row T 0 ys]) b:=fun b hb hc j hj hl=>by
   rcases get_app2 hj with⟨hl1,hj⟩|⟨_,hj⟩
   ·rw[hh.len]at hl1
    exact hb j hj (lv hl (by omega)).2
   ·exact hc b hj rfl
  refine⟨rows,a,es,app_get h4,X.main,X.len,X.pos,X.one,nl a X.nl (fun c hc=>(q c hc).2),X.old,X.new,fun m xs e g1 g2 g3=>X.sub m xs e (by simp) g2 g3,fun m b n g1 g2=> ?_,fun m m' b n n' g1 g2=>X.inj m m' b n n' (by simp) (by simp)⟩
  obtain⟨p1,p2,p3,p4⟩:=X.subs m b n (by simp) g2
  refine⟨p1,p2,nl b p3 (fun c hc e=> ?_),p4⟩
  subst e
  obtain⟨p5,_⟩:=q c hc
  have:m=k:=X.inj m k c n ys.length (by simp) (by simp) g2 (by rw[hes,hv,p5])
  exact g1 (by rw[this])
 refine Abs.ar_loadO G.tb h1 G.look X.main hes (v:=.one v) (by rw[hv,G.agg.trans hag];rfl) hn ?_
 rcases X.sub k ys _ (by simp) hk hes with⟨e1,e2⟩|⟨b,es',e1,e2,e3⟩
 ·rw[hv]at e1
  cases e1
  refine⟨ρ++[none],_,rfl,.one (.oN (n:=0) (T:=T) (xs:=ys) (by rw[<-hh.len];simp) enew),ob1 none (fun _ h=>by cases h) (fun _=>e2) (fun _ h=>by cases h),evo1 none,fr1 none (fun _ h=>by cases h),xr1 none (fun _ h=>by cases h)⟩
 ·have e1':=e1
  rw[hv]at e1
  cases e1
  obtain⟨p1,p2,p3,p4⟩:=X.subs k b _ (by simp) (by rw[hes,e1'])
  refine⟨ρ++[some b],_,rfl,.one (.o (n:=0) (T:=T) (xs:=ys) (by rw[<-hh.len];simp) enew),ob1 _ (fun c h=>by cases h;exact⟨es',e2,e3⟩) (fun h=>by cases h) (fun c h=>by cases h;exact⟨p2,p3⟩),evo1 _,fr1 _ (fun c h=>by cases h;exact p4),xr1 _ (fun c h=>by cases h;exact⟨rfl,p1⟩)⟩
theorem ext_store (htb:TBOK P tb) {t j n:Nat} {ti:TI} {x y:Operand} {ys:List (I T)} (ht:tb t=some ti) (hsz:ti.size=1) (hx:ev D x=some (.one (.r id k))) (hy:ev D y=some (.one (.o j))) (hr:H[id]? =some (.rows T xss (some k))) (hj:H[j]? =some (.row T n ys)) (hne:id≠j) (hkb:k<xss.length):
  ExtOK P ⟨none,.store t x y,ty,pos,af,gd⟩ E F D H (.tup []) ((H.set id (.rows T (xss.set k ys) none)).set j .gone):=fun ρ L h hs hh hf hxr=>by
 obtain⟨i,G⟩:=htb.get ht
 obtain⟨av,h1,h2⟩:=ev_ok hs hx
 obtain⟨u,rfl,h3⟩:=h2.one'
 obtain⟨a,rfl,h4⟩:∃a,u= .ptr a k 0/\ρ[id]? =some (some a):=by cases h3 with|fl h=>cases h|r h=>exact⟨_,rfl,h⟩
 obtain⟨uniq,a',es,X⟩:=hxr id T xss (some k) hr
 have e0:=X.rho
 rw[h4]at e0
 cases e0
 obtain⟨aw,c1,c2⟩:=ev_ok hs hy
 obtain⟨v,rfl,c3⟩:=c2.one'
 have hid:=(List.getElem?_eq_some_iff.1 hr).1
 have halt:a<h.length:=(List.getElem?_eq_some_iff.1 X.main).1
 have hjl:=(List.getElem?_eq_some_iff.1 hj).1
 obtain⟨hj2,hgo⟩:((H.set id (Ob.rows T (xss.set k ys) none))[j]? =some (.row T n ys))/\True:=⟨by rw[List.getElem?_set_ne hne];exact hj,trivial⟩
 have hlv:∀{m:Nat},live ((H.set id (Ob.rows T (xss.set k ys) none)).set j .gone) m->m≠id/\m≠j/\live H m:=fun {m} ⟨y,y1,y2⟩=>by
  rcases set_get y1 with⟨_,rfl,_⟩|⟨q1,y1⟩
  ·cases y2
  ·rcases set_get y1 with⟨_,rfl,_⟩|⟨q2,y1⟩
   ·cases y2
   ·exact⟨q2,q1,y,y1,y2⟩
 have eid:((H.set id (Ob.rows T (xss.set k ys) none)).set j .gone)[id]? =some (.rows T (xss.set k ys) none):=by
  rw[List.getElem?_set_ne (fun e=>hne e.symm),List.getElem?_set_self hid]
 have rest:∀{m:Nat},m≠id->m≠j->((H.set id (Ob.rows T (xss.set k ys) none)).set j .gone)[m]? =H[m]? :=fun {m} q1 q2=>by
  rw[List.getElem?_set_ne (fun e=>q2 e.symm),List.getElem?_set_ne (fun e=>q1 e.symm)]
 have ejg:((H.set id (Ob.rows T (xss.set k ys) none)).set j .gone)[j]? =some .gone:=List.getElem?_set_self (by simpa using hjl)
 have evo1:Ev ρ H ρ ((H.set id (.rows T (xss.set k ys) none)).set j .gone):=
  (Ev.set hr (.inr (.inr (.inr (.inr ⟨_,_,_,rfl,_,_,_,rfl,by simp⟩))))).trans (Ev.set hj2 (evo.goes _))
 -- the row that is put back
 have hv:(v= .lit (.slice none 0 0)/\ys=[])\/∃b es',v= .own b 0 ys.length/\ρ[j]? =some (some b)/\h[b]? =some (some (.row (szT T) es'))/\FR (.l T ys) (.imm (szT T) es'):=by
  rcases c3.own hj with⟨b,rfl,q⟩|⟨rfl,q⟩
  ·rcases hh.row j n T ys hj with⟨b',es',q1,q2,q3⟩|⟨q1,_⟩
   ·rw[q]at q1;cases q1
    exact .inr ⟨b,es',rfl,q,q2,q3⟩
   ·rw[q]at q1;cases q1
  ·rcases hh.row j n T ys hj with⟨b',es',q1,q2,q3⟩|⟨_,q1,_⟩
   ·rw[q]at q1;cases q1
   ·exact .inl ⟨rfl,q1⟩
 have hjlive:live H j:=⟨_,hj,rfl⟩
 have hb:∀{b m:Nat},v= .own b 0 m->ρ[j]? =some (some b)/\b≠a/\b<h.length/\OldOK F b:=fun {b m} e=>by
  rcases hv with⟨q,_⟩|⟨b',es',q,q1,_⟩
  ·rw[e]at q;cases q
  ·rw[e]at q;cases q
   exact⟨q1,fun e=>X.nl j (by rw[<-e];exact q1) hjlive,hh.lt _ _ q1,hf.old j b q1 hjlive⟩
 have key:∀e0,es[k]? =some e0->ar P ⟨none,.store t x y,ty,pos,af,gd⟩ E (fun L2 h2=>∃ρ' av,L2=Abs.bindD none av L/\ATR ρ' ((H.set id (.rows T (xss.set k ys) none)).set j .gone) (.tup []) av/\HpR ρ' ((H.set id (.rows T (xss.set k ys) none)).set j .gone) h2/\Ev ρ H ρ' ((H.set id (.rows T (xss.set k ys) none)).set j .gone)/\Fr F ρ' ((H.set id (.rows T (xss.set k ys) none)).set j .gone) h2/\XR F ρ' ((H.set id (.rows T (xss.set k ys) none)).set j .gone) h2) L h:=fun e0 he0=>by
  have hkl:=(List.getElem?_eq_some_iff.1 he0).1
  have hkx:k<xss.length:=by rw[<-X.len];exact hkl
  have hsp:Abs.splice e0 0 [v]=[v]:=by
   obtain⟨v0,hv0⟩:=List.length_eq_one_iff.1 (X.one e0 (List.mem_of_getElem? he0))
   rw[hv0];rfl
  have hsame:∀c,c≠a->(h.set a (some (.row 1 (es.set k [v]))))[c]? =h[c]? :=fun c hc=>List.getElem?_set_ne (fun e=>hc e.symm)
  refine Abs.ar_store G.tb h1 c1 rfl G.look (by rw[G.size,hsz];rfl) X.main he0 (by simp) ⟨ρ,.tup [],rfl,unit_ok,?_,evo1,?_,?_⟩
  ·rw[hsp]
   refine HpR.mk' (by simp[hh.len]) (fun m z hz=> ?_) (fun p q b k1 k2 l1 l2=>hh.inj p q b k1 k2 (hlv l1).2.2 (hlv l2).2.2) (fun p b k1=>by rw[List.length_set];exact hh.lt _ _ k1)
   by_cases hd:z.dead=true
   ·exact .inr (.inr hd)
   have hd:z.dead=false:=by simpa using hd
   obtain⟨q1,q2,z0,q3,q4⟩:=hlv ⟨z,hz,hd⟩
   rw[rest q1 q2,q3]at hz
   cases hz
   rcases hh.ob q3 with⟨b,w,m1,m2,m3⟩|m1|m1
   ·exact .inl ⟨b,w,m1,by rw[hsame b (fun e=>X.nl m (by rw[<-e];exact m1) ⟨_,q3,q4⟩)];exact m2,m3.mono evo1⟩
   ·exact .inr (.inl m1)
   ·exact .inr (.inr m1)
  ·rw [hsp]
   refine⟨by rw[List.length_set];exact hf.len,fun m b g1 g2 g3=>hf.old m b g1 (hlv g2).2.2 g3,fun c g1 g2=> ?_,hf.rho,fun m z hz=> ?_⟩
   ·rw[hsame c (fun e=>by
     subst e
     obtain⟨id0,p1,p2⟩:=X.old g1
     exact g2 id0 p1 p2)]
    exact hf.same c g1 g2
   ·obtain⟨w,w1,w2⟩:=hf.ob m z hz
    have hm:m≠id:=fun e=>by subst e;rw[X.new]at hz;cases hz
    by_cases hmj:m=j
    ·subst hmj;exact⟨_,ejg,.inl rfl⟩
    ·exact⟨w,by rw[rest hm hmj];exact w1,w2⟩
  ·rw [hsp]
   intro id' T' xss' ho' hr'
   have uq:∀(m:Nat) (z:Ob),((H.set id (Ob.rows T (xss.set k ys) none)).set j .gone)[m]? =some z->z.isRows=true->m=id:=fun m z hz hzr=>by
    rcases set_get hz with⟨_,rfl,_⟩|⟨_,hz⟩
    ·cases hzr
    ·rcases set_get hz with⟨q,_,_⟩|⟨_,hz⟩
     ·exact q
     ·exact uniq m z hz hzr
   have:=uq id' _ hr' rfl
   subst this
   rw[eid]at hr'
   cases hr'
   have nl:∀b,NotLive ρ H b->NotLive ρ ((H.set id' (Ob.rows T (xss.set k ys) none)).set j .gone) b:=fun b hb m hm hl=>hb m hm (hlv hl).2.2
   refine⟨uq,a,es.set k [v],h4,List.getElem?_set_self halt,by simp[X.len],X.pos,fun e he=> ?_,nl a X.nl,X.old,X.new,fun m xs e _ g2 g3=> ?_,fun m b q _ g2=> ?_,fun m m' b q q' _ _ g1 g2=> ?_⟩
   ·rcases List.mem_or_eq_of_mem_set he with he|rfl
    ·exact X.one e he
    ·rfl
   ·by_cases hm:m=k
    ·subst hm
     rw[List.getElem?_set_self hkx]at g2
     rw[List.getElem?_set_self hkl]at g3
     cases g2
     cases g3
     rcases hv with⟨q1,q2⟩|⟨b,es',q1,q2,q3,q4⟩
     ·exact .inl ⟨by rw[q1],q2⟩
     ·exact .inr ⟨b,es',by rw[q1],by rw[hsame b (hb q1).2.1];exact q3,q4⟩
    ·rw[List.getElem?_set_ne (fun e=>hm e.symm)]at g2 g3
     have hm':some k≠some m:=fun e=>hm (by cases e;rfl)
     rcases X.sub m xs e hm' g2 g3 with l|⟨b,es',rfl,p1,p2⟩
     ·exact .inl l
     ·exact .inr ⟨b,es',rfl,by rw[hsame b (X.subs m b _ hm' g3).1];exact p1,p2⟩
   ·by_cases hm:m=k
    ·subst hm
     rw[List.getElem?_set_self hkl]at g2
     cases g2
     obtain⟨p1,p2,p3,p4⟩:=hb rfl
     refine⟨p2,by rw[List.length_set];exact p3,fun m' hm' hl'=> ?_,p4⟩
     obtain⟨_,w2,w3⟩:=hlv hl'
     exact w2 (hh.inj _ _ _ hm' p1 w3 hjlive)
    ·rw[List.getElem?_set_ne (fun e=>hm e.symm)]at g2
     obtain⟨p1,p2,p3,p4⟩:=X.subs m b q (fun e=>hm (by cases e;rfl)) g2
     exact⟨p1,by rw[List.length_set];exact p2,nl b p3,p4⟩
   ·by_cases hm:m=k<;>by_cases hm':m'=k
    ·omega
    ·subst hm
     rw[List.getElem?_set_self hkl]at g1
     cases g1
     rw[List.getElem?_set_ne (fun e=>hm' e.symm)]at g2
     exact((X.subs m' b q' (fun e=>hm' (by cases e;rfl)) g2).2.2.1 j (hb rfl).1 hjlive).elim
    ·subst hm'
     rw[List.getElem?_set_self hkl]at g2
     cases g2
     rw[List.getElem?_set_ne (fun e=>hm e.symm)]at g1
     exact((X.subs m b q (fun e=>hm (by cases e;rfl)) g1).2.2.1 j (hb rfl).1 hjlive).elim
    ·rw[List.getElem?_set_ne (fun e=>hm e.symm)]at g1
     rw[List.getElem?_set_ne (fun e=>hm' e.symm)]at g2
     exact X.inj m m' b q q' (fun e=>hm (by cases e;rfl)) (fun e=>hm' (by cases e;rfl)) g1 g2
 exact key _ (List.getElem?_eq_getElem (by rw[X.len];exact hkb))
end
theorem extD_ok (htb:TBOK P tb) {im:List Nat} {o:Oper} {p:Pl (AT×List Ob)} (he:extD tb im o D H=some p) {v:AT} {H':List Ob} (hv:p.has (v,H')) (hd:∀d,o.dst=some d->d<E.n):ExtOK P o E F D H v H':=by
 obtain⟨dst,op,ty,pos,af,gd⟩:=o
 unfold extD at he
 simp only at he hd
 split at he
 ·rename_i t x y d
  have hn:=hd d rfl
  split at he
  ·cases he
   split at hv
   ·rename_i T n ht hx hsm
    obtain⟨ti,h1,h2⟩:=Option.bind_eq_some_iff.1 ht
    split at hv
    ·rename_i hc
     rw[Bool.and_eq_true]at hc
     obtain⟨xss,e1,e2⟩:=hv
     cases e2
     exact ext_make htb hn h1 h2 hx hsm e1 hc.1 (by simpa [Nat.blt_eq]using hc.2)
    ·cases hv
   ·cases hv
  ·cases he
 ·rename_i t x y d
  split at he
  ·rename_i id hx
   split at he
   ·rename_i T xss ho hr
    cases he
    split at hv
    ·rename_i T' i ht hy
     obtain⟨ti,h1,h2⟩:=Option.bind_eq_some_iff.1 ht
     split at hv
     ·rename_i hsz
      obtain⟨e,e1,e2⟩:=hv
      cases e2
      exact ext_index htb (hd d rfl) h1 h2 (Nat.eq_of_beq_eq_true hsz) hx hr hy e1
     ·cases hv
    ·cases hv
   ·cases he
  ·cases he
 ·rename_i t x d
  split at he
  ·rename_i id k hx
   cases he
   split at hv
   ·rename_i ti T xss h1 hr
    split at hv
    ·rename_i U hel hag
     obtain⟨ys,e1,e2⟩:=hv
     cases e2
     exact ext_load htb (hd d rfl) h1 hag hx hr e1
    ·cases hv
   ·cases hv
  ·cases he
 ·rename_i t x y
  split at he
  ·rename_i id k j hx hy
   cases he
   split at hv
   ·rename_i ti T xss k' T2 n ys h1 hr hj
    split at hv
    ·rename_i zs hc hsz hne
     obtain⟨u,e1,e2⟩:=hv
     cases e2
     obtain⟨rfl,hlt⟩:=eqN_some e1
     obtain⟨rfl,rfl⟩:=castL_some hc
     exact ext_store htb h1 (Nat.eq_of_beq_eq_true hsz) hx hy hr hj (fun e=>by subst e;rw[Nat.beq_refl]at hne;cases hne) hlt
    ·cases hv
   ·cases hv
  ·cases he
 ·cases he
theorem oneX_ok (htb:TBOK P tb) (hO:OrcOK P O) {nt:Nat} (hE:E.n=nt) {im:List Nat} {o:Oper} {K:AT->List Ob->Option R} {r:R} (hc:oneX tb O nt im o D H K=some r):∃v H',K v H'=some r/\ExtOK P o E F D H v H':=by
 unfold oneX at hc
 split at hc
 ·rename_i p he
  split at hc
  ·rename_i d hd
   split at hc
   ·rename_i hlt
    obtain⟨q,h1,h2⟩:=Pl.run_has hc
    exact⟨q.1,q.2,h2,extD_ok htb he h1 fun d' h'=>by rw[hd]at h';cases h';rw[hE];simpa [Nat.blt_eq]using hlt⟩
   ·cases hc
  ·rename_i hd
   obtain⟨q,h1,h2⟩:=Pl.run_has hc
   exact⟨q.1,q.2,h2,extD_ok htb he h1 fun d' h'=>by rw[hd]at h';cases h'⟩
 ·obtain⟨v,H',k1,k2⟩:=oneS_ok (E:=E) htb hO hE hc
  split at k1
  ·rename_i hok
   refine⟨v,H',k1,fun ρ L h hs hp hf hx=>ar_mono ((k2 ⟨h,ρ,H⟩).1 ρ L h hs hp (Fr.refl _ _ _)) ?_⟩
   rintro L3 h3 ⟨ρ',av,rfl,m1,m2,m3,m4⟩
   exact⟨ρ',av,rfl,m1,m2,m3,hf.trans m4,hx.keep m4 (okX_same (k2 ⟨h,ρ,H⟩).2 hok)⟩
  ·cases k1
theorem opsD_ok (htb:TBOK P tb) (hO:OrcOK P O) {nt:Nat} (hE:E.n=nt) {im:List Nat} {ops:List Oper} {K:St->Option R} {r:R}:∀{rest:List Oper} {st:St} {ρ:Rho} {L:Env} {h:Heap},opsD tb O nt im ops rest st K=some r->SR F ρ st L h->ao P ops.toArray rest E (fun L2 h2=>∃ρ' st',K st'=some r/\SR F ρ' st' L2 h2) L h
 |[],st,ρ,L,h,hc,hs=>Abs.ao_nil ⟨ρ,st,hc,hs⟩
 | o :: rest, st, ρ, L, h, hc, hs => by
  unfold opsD at hc
  obtain⟨L2,h2,sh,hs2⟩:=fzIds_ok (ids:=prepIds O im o st.L) hs
  refine Abs.ao_shift sh ?_
  clear hs sh L h
  obtain⟨st1,e1⟩:∃st1,st1=fzIds (prepIds O im o st.L) st:=⟨_,rfl⟩
  rw[<-e1]at hs2
  simp only[prep,<-e1]at hc
  obtain⟨D',hsame,hcase⟩:=guardK_ok (fun _ _ h=>h) hc
  have hse:=hsame.enc hs2.slots
  rcases hcase with⟨g,k⟩|⟨g,k⟩
  ·have run:ar P o E (ao P ops.toArray rest E (fun L2 h2=>∃ρ' st',K st'=some r/\SR F ρ' st' L2 h2)) L2 h2:=by
    obtain⟨v,H',k1,k2⟩:=oneX_ok (F:=F) htb hO hE k
    refine ar_mono (k2 ρ L2 h2 hse hs2.heap hs2.fr hs2.xr) ?_
    rintro L3 h3 ⟨ρ',av,rfl,m1,m2,m3,m4,m5⟩
    exact opsD_ok htb hO hE k1 ⟨bindA_enc (hse.mono m3) m1,m2,m4,m5⟩
   cases g with
   |run hg=>exact Abs.ao_step hg run
   |runG hg hj hd=>exact Abs.ao_run hg hj (enc_b hs2.slots hd) rfl run
  ·have skip:∀{d'},o.dst=some d'->ao P ops.toArray rest E (fun L2 h2=>∃ρ' st',K st'=some r/\SR F ρ' st' L2 h2) ((d',.tup [])::L2) h2:=fun {d'} hdst=>by
    have:=bindA_enc (dst:=o.dst) hse (unit_ok (ρ:=ρ) (H:=st1.H))
    rw[hdst]at this k
    exact opsD_ok htb hO hE k ⟨this,hs2.heap,hs2.fr,hs2.xr⟩
   cases g with
   |skip hg hj hd hp hdst hn=>exact Abs.ao_skip hg hj (enc_b hs2.slots hd) hp hdst (by rw[hE];exact hn) (skip hdst)
   |skipU hg hj hd hdst hn=>exact Abs.ao_skipU hg hj (enc_u hs2.slots hd) hdst (by rw[hE];exact hn) (skip hdst)
end
end Go.Proofs.Ytagnfckihdlhpaa.Den

namespace Go.Proofs.Ytagnfckihdlhpaa.Den
open Go.RowKit
open Abs (V AV Env Heap ar aw ao)
section
variable {P : Program} {E : Abs.Cx} {F : In} {ρ ρ' : Rho} {H : List Ob} {D : List (Nat × AT)} {L : Env} {h h' : Heap} {R : Type} {tb : Nat → Option TI} {O : Orc}
theorem bindA_eq (dst:Option Nat) (v:AT) (L:List (Nat×AT)):bindA dst v L=Draw.bindD dst v L:=by cases dst<;>rfl
theorem EncL.sub {D':List (Nat×AT)} (h:EncL ρ H D L) (hs:Draw.Sub D' D):EncL ρ H D' L:=fun t v hv=>h t v (hs t v hv)
def sys (P : Program) (E : Abs.Cx) (F : In) (ops : Array Oper) (Hm : List Ob) : Draw.Sys P ops AT (List Ob) where
 Rel:=fun D H a w=>Le Hm H/\∃ρ L h ι I,SR0 F ρ ⟨D,H⟩ L h/\Abs.Rel E L h ι I a w
 OT:=fun o D v H H'=>Le Hm H->Le Hm H'/\((Gd ops E.n o D true/\OpOK P o E F D H v H')\/(Gd ops E.n o D false/\v= .tup []/\H'=H))
 weaken:=fun⟨hle,ρ,L,h,ι,I,hs,r⟩ k=>⟨hle,ρ,L,h,ι,I,⟨hs.slots.sub k,hs.heap,hs.fr⟩,r⟩
 same:=fun⟨hle,ρ,L,h,ι,I,hs,r⟩ e1 e2 e3 e4=>⟨hle,ρ,L,h,ι,I,hs,r.same e1 e2 e3 e4⟩
 sound:=fun {o D Dg v H H' i a w Q K} ht hsub ho ⟨hle,ρ,L,h,ι,I,hs,r⟩ hk=>by
  unfold wpOp
  rw[ho]
  simp only[]
  obtain⟨hle',ht⟩:=ht hle
  rcases ht with⟨g,hop⟩|⟨g,rfl,rfl⟩
  ·have hw:Region.wanted o (yielded ops a.tmps)=true:=by
    cases g with
    |run hg=>simp[Region.wanted,hg]
    | runG hg hj hd =>
     have hy:=r.yields (ops:=ops) hj (enc_b hs.slots (hsub _ _ hd))
     simp[Region.wanted,hg,hy]
   rw[if_pos hw]
   refine .inl (Abs.wp_mono2 ?_ (fun _ _ _ f=>f.elim) ((hop ρ L h (hs.slots.sub hsub) hs.heap hs.fr).get [] ι I a w (by rw[List.append_nil];exact r)))
   rintro a' w' ⟨L',h2,ι',I',⟨ρ',av,rfl,m1,m2,m3,m4⟩,r'⟩
   refine hk a' w' ⟨hle',ρ',_,h2,ι',I',⟨?_,m2,m4⟩,r'.low⟩
   show EncL ρ' _ (Draw.bindD o.dst v Dg) _
   rw[<-bindA_eq]
   exact bindA_enc (hs.slots.mono m3) m1
  ·have fin:∀{d'},o.dst=some d'->d'<E.n->K (a.put (some d') undef) w:=fun {d'} hdst hn=>by
    refine hk _ _ ⟨hle,ρ,_,h,ι,I,⟨?_,hs.heap,hs.fr⟩,r.put hn Abs.AR.none_⟩
    show EncL ρ _ (Draw.bindD o.dst _ Dg) _
    rw[<-bindA_eq,hdst]
    exact bindA_enc (dst:=some d') hs.slots unit_ok
   cases g with
   | skip hg hj hd hp hdst hn =>
    have hy:=r.yields (ops:=ops) hj (enc_b hs.slots (hsub _ _ hd))
    rw[if_neg (by simp[Region.wanted,hg,hy,hp]),hdst]
    exact fin hdst hn
   | skipU hg hj hd hdst hn =>
    have hy:=r.yieldsU (ops:=ops) hj (enc_u hs.slots (hsub _ _ hd))
    rw[if_neg (by simp[Region.wanted,hg,hy]),hdst]
    exact fin hdst hn
theorem dr_same {ops:Array Oper} {S:Draw.Sys P ops AT (List Ob)} {ch rd π σ:List Nat} {D Df:List (Nat×AT)} {hs hf:List (List Ob)} (d:Draw.DR S ch rd π σ D hs Df hf):∀{D':List (Nat×AT)},Same D D'->∃Df',Draw.DR S ch rd π σ D' hs Df' hf/\Same Df Df':=by
 induction d with
 |nil L hs=>exact fun h=>⟨_,.nil _ _,h⟩
 | pure ho hc ht _ ih =>
  intro D' h
  have hb:=h.bind
  simp only[bindA_eq]at hb
  obtain⟨Df',k1,k2⟩:=ih (hb _ _)
  exact⟨Df',.pure ho hc (by rw[<-h.sel];exact ht) k1,k2⟩
 | read ho hc hr ht _ ih =>
  intro D' h
  have hb:=h.bind
  simp only[bindA_eq]at hb
  obtain⟨Df',k1,k2⟩:=ih (hb _ _)
  exact⟨Df',.read ho hc hr (by rw[<-h.sel];exact ht) k1,k2⟩
 | chain ho hc ht _ ih =>
  intro D' h
  have hb:=h.bind
  simp only[bindA_eq]at hb
  obtain⟨Df',k1,k2⟩:=ih (hb _ _)
  exact⟨Df',.chain ho hc (by rw[<-h.sel];exact ht) k1,k2⟩
theorem drawD_ok (htb : TBOK P tb) (hO : OrcOK P O) {nt : Nat} (hE : E.n = nt) {ops : Array Oper} {Hm : List Ob} {π ch rd : List Nat} {K : List (Nat × AT) → List Ob → Option R} {r : R} : ∀ {rest done : List Nat} {D : List (Nat × AT)} {Hd H : List Ob} {hs : List (List Ob)}, drawD tb O nt ops Hm π ch rd done rest D Hd H K = some r → hs.length = Abs.cnt ch done → (∀ h ∈ H :: hs, Le Hd h) →
  ∃Df Hl hl Df',Draw.DR (sys P E F ops Hm) ch rd π rest D (H::hs) Df' (Hl::hl)/\Same Df Df'/\K Df Hl=some r/\RowsSame H Hl
 |[],done,D,Hd,H,hs,hc,_,_=>⟨D,H,hs,D,.nil _ _,.refl _,hc,.refl _⟩
 | i :: rest, done, D, Hd, H, hs, hc, hl, hle => by
  unfold drawD at hc
  split at hc
  ·cases hc
  rename_i o ho
  have hcnt:Abs.cnt ch (i::done)=Abs.cnt ch done+(if ch.contains i then 1 else 0):=by
   unfold Abs.cnt
   rw[List.countP_cons]
  have hsub:Draw.Sub (Draw.sel D (o.looksAt ops)) D:=Draw.sel_sub fun _ _=>rfl
  simp only at hc
  split at hc
  ·rename_i hch
   have hcnt':(H::hs).length=Abs.cnt ch (i::done):=by rw[hcnt,if_pos hch,List.length_cons,hl]
   have go:∀{v:AT} {Hd' H':List Ob} {D':List (Nat×AT)},RowsSame H H'->Same D' D->(sys P E F ops Hm).OT o (Draw.sel D (o.looksAt ops)) v H H'->Le Hd' Hd->Le Hd' H'->drawD tb O nt ops Hm π ch rd (i::done) rest (bindA o.dst v D') Hd' H' K=some r->
     ∃Df Hl hl Df',Draw.DR (sys P E F ops Hm) ch rd π (i::rest) D (H::hs) Df' (Hl::hl)/\Same Df Df'/\K Df Hl=some r/\RowsSame H Hl:=fun {v Hd' H' D'} hrs hsm ht hd1 hd2 hc=>by
    obtain⟨Df,Hl,hl',Df',k1,k3,k2⟩:=drawD_ok htb hO hE (hs:=H::hs) hc hcnt' (fun h hm=>by
     rcases List.mem_cons.1 hm with rfl|hm
     ·exact hd2
     ·exact hd1.trans (hle h hm))
    obtain⟨Df2,m1,m2⟩:=dr_same k1 (hsm.bind o.dst v)
    rw[bindA_eq]at m1
    exact⟨Df,Hl,hl',Df2,.chain ho hch ht m1,k3.trans m2,k2.1,hrs.trans k2.2⟩
   obtain⟨D',hsm,⟨g,k⟩|⟨g,k⟩⟩:=guardK_ok hsub hc
   ·split at k
    ·rename_i htc
     obtain⟨v,H',k1,k2,k4⟩:=one_ok (E:=E) htb hO hE k
     split at k1
     ·rename_i hok
      exact go (okX_same k4 hok) hsm (fun hle=>⟨hle.unt k4 htc,.inl ⟨by rw[hE];simpa using g,k2 F⟩⟩) (hideH_le _ _) ((hle H (by simp)).hide k4) k1
     ·cases k1
    ·cases k
   ·exact go (.refl _) hsm (fun hle=>⟨hle,.inr ⟨by rw[hE];simpa using g,rfl,rfl⟩⟩) (.refl _) (hle H (by simp)) k
  ·rename_i hch
   have hch':ch.contains i=false:=by simpa using hch
   have hcnt':hs.length=Abs.cnt ch (i::done):=by rw[hcnt,if_neg hch];exact hl
   split at hc
   ·rename_i hrd
    have go:∀{v:AT} {D':List (Nat×AT)},Same D' D->(∀H2∈(H::hs).take ((H::hs).length-Abs.cnt ch (π.filter fun j=>Abs.isBef ops j i)),(sys P E F ops Hm).OT o (Draw.sel D (o.looksAt ops)) v H2 H2)->drawD tb O nt ops Hm π ch rd (i::done) rest (bindA o.dst v D') Hd H K=some r->
      ∃Df Hl hl Df',Draw.DR (sys P E F ops Hm) ch rd π (i::rest) D (H::hs) Df' (Hl::hl)/\Same Df Df'/\K Df Hl=some r/\RowsSame H Hl:=fun {v D'} hsm ht hc=>by
     obtain⟨Df,Hl,hl',Df',k1,k3,k2⟩:=drawD_ok htb hO hE (hs:=hs) hc hcnt' hle
     obtain⟨Df2,m1,m2⟩:=dr_same k1 (hsm.bind o.dst v)
     rw[bindA_eq]at m1
     exact⟨Df,Hl,hl',Df2,.read ho hch' hrd ht m1,k3.trans m2,k2⟩
    obtain⟨D',hsm,⟨g,k⟩|⟨g,k⟩⟩:=guardK_ok hsub hc
    ·split at k
     ·obtain⟨v,k1,k2⟩:=oneI_ok (E:=E) htb hE k
      exact go hsm (fun H2 _ hle=>⟨hle,.inl ⟨by rw[hE];simpa using g,k2 F H2⟩⟩) k1
     ·split at k
      ·rename_i hkp
       obtain⟨v,k1,k2⟩:=oneK_ok (F:=F) (E:=E) htb hO hE hkp k
       refine go hsm (fun H2 hm hle2=>⟨hle2,.inl ⟨by rw[hE];simpa using g,k2 H2 ?_⟩⟩) k1
       split
       ·rename_i hb
        have hb:=Nat.le_of_ble_eq_true hb
        have hk:(H::hs).length-Abs.cnt ch (π.filter fun j=>Abs.isBef ops j i)<=1:=by rw[List.length_cons];omega
        have:H2=H:=by
         have h2:H2∈(H::hs).take 1:=by
          have e:(H::hs).take ((H::hs).length-Abs.cnt ch (π.filter fun j=>Abs.isBef ops j i))=((H::hs).take 1).take ((H::hs).length-Abs.cnt ch (π.filter fun j=>Abs.isBef ops j i)):=by rw[List.take_take,Nat.min_eq_left hk]
          rw[e]at hm
          exact List.mem_of_mem_take hm
         simpa using h2
        rw[this]
        exact .refl H
       ·exact hle H2 (List.mem_of_mem_take hm)
      ·cases k
    ·exact go hsm (fun H2 _ hle=>⟨hle,.inr ⟨by rw[hE];simpa using g,rfl,rfl⟩⟩) k
   ·have go:∀{v:AT} {D':List (Nat×AT)},Same D' D->(∀H,(sys P E F ops Hm).OT o (Draw.sel D (o.looksAt ops)) v H H)->drawD tb O nt ops Hm π ch rd (i::done) rest (bindA o.dst v D') Hd H K=some r->
      ∃Df Hl hl Df',Draw.DR (sys P E F ops Hm) ch rd π (i::rest) D (H::hs) Df' (Hl::hl)/\Same Df Df'/\K Df Hl=some r/\RowsSame H Hl:=fun {v D'} hsm ht hc=>by
     obtain⟨Df,Hl,hl',Df',k1,k3,k2⟩:=drawD_ok htb hO hE (hs:=hs) hc hcnt' hle
     obtain⟨Df2,m1,m2⟩:=dr_same k1 (hsm.bind o.dst v)
     rw[bindA_eq]at m1
     exact⟨Df,Hl,hl',Df2,.pure ho hch' ht m1,k3.trans m2,k2⟩
    obtain⟨D',hsm,⟨g,k⟩|⟨g,k⟩⟩:=guardK_ok hsub hc
    ·split at k
     ·obtain⟨v,k1,k2⟩:=oneI_ok (E:=E) htb hE k
      exact go hsm (fun H hle=>⟨hle,.inl ⟨by rw[hE];simpa using g,k2 F H⟩⟩) k1
     ·split at k
      ·rename_i hkp
       obtain⟨v,k1,k2⟩:=oneK_ok (F:=F) (E:=E) (H:=Hm) htb hO hE hkp k
       exact go hsm (fun H hle=>⟨hle,.inl ⟨by rw[hE];simpa using g,k2 H hle⟩⟩) k1
      ·cases k
    ·exact go hsm (fun H hle=>⟨hle,.inr ⟨by rw[hE];simpa using g,rfl,rfl⟩⟩) k
def Goes (F:In) (K:Kt R) (r:R):Exit->Env->Heap->Prop:=fun e L h=>∃ρ' st',K e st'=some r/\SR F ρ' st' L h
def PieceOK (P:Program) (an:Ann) (c:Code) (f:(R:Type)->St->Kt R->Option R):Prop:=∀(R:Type) (E:Abs.Cx) (F:In),E.n=an.nt->F.ok an.refs->∀(st:St) (K:Kt R) (r:R) (ρ:Rho) (L:Env) (h:Heap),f R st K=some r->SR F ρ st L h->aw P c E (Goes F K r) L h
def AllP (P:Program) (an:Ann) (pc:Pcs):List (Nat×Nat×Code)->Prop
 |[]=>True
 |p::l=>PieceOK P an p.2.2 (fun R=>pc.at_ p.1 R p.2.1)/\AllP P an pc l
theorem AllP.app {an:Ann} {pc:Pcs}:∀{a b:List (Nat×Nat×Code)},AllP P an pc (a++b)->AllP P an pc a/\AllP P an pc b
 |[],_,h=>⟨trivial,h⟩
 |_::_,_,h=>let⟨h1,h2⟩:=AllP.app h.2;⟨⟨h.1,h1⟩,h2⟩
theorem known_ok {c:Operand} {b:Bool} {st:St} (hs:SR F ρ st L h) (hx:ev st.L c=some (.one (.b b))):SR F ρ (known c b st) L h:=by
 cases c with
 |tmp t=>exact⟨Same.enc (same_cons hx) hs.slots,hs.heap,hs.fr,hs.xr⟩
 |_=>exact hs
theorem den_ok (hm:P.follows .mixedOrders=true) (htb:TBOK P tb) (hO:OrcOK P O) {an:Ann} {pc:Pcs} (hE:E.n=an.nt) (hF:F.ok an.refs):∀{c:Code} {st:St} {K:Kt R} {r:R} {ρ:Rho} {L:Env} {h:Heap},AllP P an pc (pieces an c)->den tb O pc an c st K=some r->SR F ρ st L h->aw P c E (Goes F K r) L h
 | .skip,st,K,r,ρ,L,h,_,hc,hs=>Abs.aw_skip ⟨ρ,st,hc,hs⟩
 | .ret,st,K,r,ρ,L,h,_,hc,hs=>Abs.aw_ret ⟨ρ,st,hc,hs⟩
 | .exit id,st,K,r,ρ,L,h,_,hc,hs=>Abs.aw_exit ⟨ρ,st,hc,hs⟩
 | .seq a b, st, K, r, ρ, L, h, hP, hc, hs => by
  unfold pieces at hP
  obtain⟨hP1,hP2⟩:=hP.app
  refine Abs.aw_seq (Abs.aw_mono ?_ (den_ok hm htb hO hE hF (c:=a) hP1 hc hs))
  rintro e L h ⟨ρ',st',k1,k2⟩
  cases e with
  | normal =>
   simp only[thenK]at k1
   simp only[Abs.thenQ]
   split at hP2
   ·rename_i lv hl
    rw[hl]at k1
    obtain⟨ρ2,st2,m1,m2⟩:=restrict_ok hF k2 k1
    exact hP2.1 R E F hE hF _ _ _ _ _ _ m1 m2
   ·rename_i hl
    rw[hl]at k1
    exact den_ok hm htb hO hE hF (c:=b) hP2 k1 k2
  |_=>exact⟨ρ',st',k1,k2⟩
 | .block id a, st, K, r, ρ, L, h, hP, hc, hs => by
  refine Abs.aw_block (Abs.aw_mono ?_ (den_ok hm htb hO hE hF (c:=a) hP hc hs))
  rintro e L h ⟨ρ',st',k1,k2⟩
  cases e with
  | exit id' =>
   simp only[blockK]at k1
   simp only[Abs.blockQ]
   by_cases hid:id'=id
   ·subst hid
    rw[if_pos (Nat.beq_refl id')]at k1
    rw[if_pos rfl]
    exact⟨ρ',st',k1,k2⟩
   ·rw[if_neg (fun hb=>hid (Nat.eq_of_beq_eq_true hb))]at k1
    rw[if_neg hid]
    exact⟨ρ',st',k1,k2⟩
  |_=>exact⟨ρ',st',k1,k2⟩
 | .cond x a b, st, K, r, ρ, L, h, hP, hc, hs => by
  unfold pieces at hP
  obtain⟨hP1,hP2⟩:=hP.app
  unfold den at hc
  split at hc
  ·rename_i p hx
   obtain⟨av,h1,h2⟩:=ev_ok hs.slots hx
   obtain⟨u,rfl,h3⟩:=h2.one'
   rw[h3.bool]at h1
   refine Abs.aw_cond h1 (fun e=> ?_) (fun e=> ?_)
   ·subst e
    have hs:=known_ok hs hx
    simp only[cond_true]at hc
    split at hP1
    ·rename_i lv hl
     rw[hl]at hc
     obtain⟨ρ2,st2,m1,m2⟩:=restrict_ok hF hs hc
     exact hP1.1 R E F hE hF _ _ _ _ _ _ m1 m2
    ·rename_i hl
     rw[hl]at hc
     exact den_ok hm htb hO hE hF (c:=a) hP1 hc hs
   ·subst e
    have hs:=known_ok hs hx
    simp only[cond_false]at hc
    split at hP2
    ·rename_i lv hl
     rw[hl]at hc
     obtain⟨ρ2,st2,m1,m2⟩:=restrict_ok hF hs hc
     exact hP2.1 R E F hE hF _ _ _ _ _ _ m1 m2
    ·rename_i hl
     rw[hl]at hc
     exact den_ok hm htb hO hE hF (c:=b) hP2 hc hs
  ·cases hc
 | .loop a, st, K, r, ρ, L, h, hP, hc, hs => by
  unfold den at hc
  split at hc
  ·obtain⟨ρ1,st1,k1,k2⟩:=restrict_ok hF hs hc
   exact hP.1 R E F hE hF _ _ _ _ _ _ k1 k2
  ·cases hc
 | .region id ⟨ops⟩ false,st,K,r,ρ,L,h,_,hc,hs=>Abs.aw_region (opsD_ok htb hO hE hc hs)
 | .region id ops true, st, K, r, ρ, L, h, hP, hc, hs => by
  unfold pieces at hP
  unfold den at hc
  split at hc
  ·rename_i d hpl
   rw[hpl]at hP
   simp only at hP
   split at hc
   ·cases hc
   ·rename_i π ch rd ho
    split at hc
    ·rename_i hp
     obtain⟨L2,h2,sh,hs2⟩:=fzIds_ok (ids:=slotRows st.L st.H d.fz) hs
     simp only at hc
     refine Abs.aw_shift sh ?_
     obtain⟨Df,Hl,hl,Df',k1,k3,k2,k4⟩:=drawD_ok (F:=⟨h2,ρ,(fzIds (slotRows st.L st.H d.fz) st).H⟩) (E:=E) htb hO hE (hs:=[]) hc rfl (fun h hm=>by simp at hm;subst hm;exact .refl _)
     refine⟨fun ι I a w rel=> ?_⟩
     refine Draw.draw (S:=sys P E ⟨h2,ρ,(fzIds (slotRows st.L st.H d.fz) st).H⟩ ops (maskH d.vis (fzIds (slotRows st.L st.H d.fz) st).H)) hm π ch rd hp k1 (fun a w ⟨_,ρ',L',h',ι',I',q1,q2⟩=>⟨L',h',ι',I',⟨ρ',⟨Df,Hl⟩,k2,⟨k3.enc q1.slots,q1.heap,hs2.fr.trans q1.fr,hs2.xr.keep q1.fr k4⟩⟩,q2⟩) ⟨maskH_le _ _,ρ,L2,h2,ι,I,⟨hs2.slots,hs2.heap,Fr.refl _ _ _⟩,rel⟩
    ·cases hc
   ·rename_i x y l ho
    rw[ho]at hP
    obtain⟨ρ1,st1,k1,k2⟩:=restrict_ok hF hs hc
    exact hP.1 R E F hE hF _ _ _ _ _ _ k1 k2
  ·cases hc
theorem cut_piece (hm:P.follows .mixedOrders=true) (htb:TBOK P tb) (hO:OrcOK P O) {an:Ann} {pc:Pcs} {c:Code} {o:Outs} (hP:AllP P an pc (pieces an c)) {f:(R:Type)->St->Kt R->Option R} (hf:∀(R:Type) (st:St) (K:Kt R) (r:R),f R st K=some r->den tb O pc an c st (outK an.refs o K)=some r):PieceOK P an c f:=
 fun R _ _ hE hF st K r _ _ _ hk hs=>Abs.aw_mono (fun _ _ _ ⟨_,_,k1,k2⟩=>let⟨ρ2,st2,m1,m2⟩:=restrict_ok hF k2 k1;⟨ρ2,st2,m1,m2⟩) (den_ok hm htb hO hE hF hP (hf R st K r hk) hs)
theorem loop_piece (hm:P.follows .mixedOrders=true) (htb:TBOK P tb) (hO:OrcOK P O) {an:Ann} {pc:Pcs} {c:Code} {lv:List Nat} {o:Outs} (hP:AllP P an pc (pieces an c)) {f:Nat->(R:Type)->St->Kt R->Option R} (h0:∀(R:Type) (st:St) (K:Kt R),f 0 R st K=none)
  (hf:∀(n:Nat) (R:Type) (st:St) (K:Kt R) (r:R),f (n+1) R st K=some r->den tb O pc an c st (roundK an.refs lv o (fun st'=>f n R st' K) K)=some r) (n:Nat):PieceOK P an (.loop c) (f n):=
 fun R E F hE hF st K r ρ L h hk hs=>by
  refine Abs.aw_loop (fun m L h=>∃ρ st,f m R st K=some r/\SR F ρ st L h) (Abs.sub_refl L) ⟨ρ,st,hk,hs⟩ ?_
  rintro m L h ⟨ρ,st,m1,m2⟩
  cases m with
  |zero=>rw[h0]at m1;cases m1
  | succ m =>
   refine Abs.aw_mono ?_ (den_ok hm htb hO hE hF hP (hf m R st K r m1) m2)
   rintro e L h ⟨ρ',st',k1,k2⟩
   cases e with
   | normal =>
    simp only[roundK,thenK]at k1
    obtain⟨ρ2,st2,q1,q2⟩:=restrict_ok hF k2 k1
    exact⟨m,L,Nat.lt_succ_self m,Abs.sub_refl L,ρ2,st2,q1,q2⟩
   | _ =>
    simp only[roundK,thenK,outK]at k1
    obtain⟨ρ2,st2,q1,q2⟩:=restrict_ok hF k2 k1
    exact⟨ρ2,st2,q1,q2⟩
end
end Go.Proofs.Ytagnfckihdlhpaa.Den

namespace Go.Proofs.Ytagnfckihdlhpaa.Den
open Go.RowKit
open Abs (V AV Env Heap ar aw ao)
def argsD :Nat->List AT->List (Nat×AT)
 |_,[]=>[]
 |k,x::xs=>(k,x)::argsD (k+1) xs
def resD (tb:Nat->Option TI) (L:List (Nat×AT)) (H:List Ob):ResultVar->Option AT
 | .tmp t=>L.lookup t
 | .cell a t => match L.lookup a, tb t with
  | some (.one (.p id off)), some ti => match H[id]? with
   |some (.box cs)=>ld ti.agg ti.size (cs.drop off)
   |_=>none
  |_,_=>none
def resDs (tb:Nat->Option TI) (L:List (Nat×AT)) (H:List Ob):List ResultVar->Option (List AT)
 |[]=>some []
 | r :: rs => match resD tb L H r, resDs tb L H rs with
  |some v,some vs=>some (v::vs)
  |_,_=>none
def packR :List AT->AT
 |[x]=>x
 |xs=>.tup xs
def packA :List AV->AV
 |[x]=>x
 |xs=>.tup xs
def rowsR :List AT->List Nat
 |[]=>[]
 | x :: xs => (match cells x with
  |some cs=>cs.flatMap C.rows
  |none=>[])++rowsR xs
def idsR (tb:Nat->Option TI) (rs:List ResultVar) (st:St):List Nat:=match resDs tb st.L st.H rs with
 |some vs=>rowsR vs
 |none=>[]
def finF (tb:Nat->Option TI) (an:Ann) (rs:List ResultVar) (st:St):Option (AT×List Ob):=
 let st1:=fzIds (idsR tb rs st) st
 match resDs tb st1.L st1.H rs with
 | some vs => match peekAs [] vs with
  |some us=>restrict an.refs [] st1 fun st2=>some (packR us,st2.H)
  |none=>none
 |none=>none
def looksD (L:List (Nat×AT)):Nat->Nat->Option (List AT)
 |_,0=>some []
 | k, m + 1 => match L.lookup k, looksD L (k + 1) m with
  |some v,some vs=>some (v::vs)
  |_,_=>none
def finR (tb:Nat->Option TI) (an:Ann) (rs:List ResultVar) (st:St):Option (AT×List Ob):=
 match resDs tb st.L st.H rs with
 | some vs => restrict an.refs (List.range vs.length) ⟨argsD 0 vs, st.H⟩ fun st2 => match looksD st2.L 0 vs.length with
  |some us=>some (packR us,st2.H)
  |none=>none
 |none=>none
def atEnd {R:Type} (fin:St->Option R):Kt R
 | .normal,st=>fin st
 | .ret,st=>fin st
 |_,_=>none
section
variable {P : Program} {E : Abs.Cx} {F : In} {ρ ρ' : Rho} {H : List Ob} {D : List (Nat × AT)} {L : Env} {h h' : Heap} {R : Type} {tb : Nat → Option TI} {O : Orc}
theorem argsD_enc :∀{k:Nat} {xs:List AT} {avs:List AV},ATRs ρ H xs avs->EncL ρ H (argsD k xs) (Abs.argEnv k avs)
 |k,[],avs,_=>fun t v hv=>by simp[argsD]at hv
 | k, x :: xs, avs, hr => by
  obtain⟨av,avs,rfl,r1,r2⟩:=hr.head
  intro t v hv
  simp only[argsD,List.lookup_cons]at hv
  simp only[Abs.argEnv,List.lookup_cons]
  split at hv
  ·cases hv;exact⟨av,rfl,r1⟩
  ·exact argsD_enc r2 t v hv
theorem resD_ok (htb:TBOK P tb) {st:St} (hs:SR F ρ st L h) {rv:ResultVar} {v:AT} (hv:resD tb st.L st.H rv=some v):∃av,ATR ρ st.H v av/\Abs.Res1 P L h rv av:=by
 cases rv with
 | tmp t =>
  obtain⟨av,h1,h2⟩:=hs.slots t v hv
  exact⟨av,h2,Abs.res1_tmp h1⟩
 | cell a t =>
  unfold resD at hv
  simp only at hv
  split at hv
  ·rename_i id off ti h1 h2
   split at hv
   ·rename_i cs h3
    obtain⟨i,G⟩:=htb.get h2
    obtain⟨av,k1,k2⟩:=hs.slots a _ h1
    obtain⟨u,rfl,k3⟩:=k2.one'
    obtain⟨b,rfl,k4⟩:=k3.ptr
    obtain⟨b',vs,k5,k6,k7⟩:=hs.heap.box id cs h3
    rw[k4]at k5
    cases k5
    obtain⟨av,k8,k9⟩:=ld_ok hv (k7.drop off)
    exact⟨av,k9,Abs.res1_cell G.tb k1 G.look k6 rfl (by rw[G.size,G.agg];exact k8)⟩
   ·cases hv
  ·cases hv
theorem resDs_ok (htb:TBOK P tb) {st:St} (hs:SR F ρ st L h):∀{rs:List ResultVar} {vs:List AT},resDs tb st.L st.H rs=some vs->∃avs,ATRs ρ st.H vs avs/\Abs.ResL P L h rs avs
 |[],vs,hv=>by cases hv;exact⟨[],.nil_,.nil⟩
 | r :: rs, vs, hv => by
  simp only[resDs]at hv
  split at hv
  ·rename_i x xs h1 h2
   cases hv
   obtain⟨av,k1,k2⟩:=resD_ok htb hs h1
   obtain⟨avs,k3,k4⟩:=resDs_ok htb hs h2
   exact⟨av::avs,.cons k1 k3,.cons k2 k4⟩
  ·cases hv
theorem Weak.refl (a:List AV):Weak a a:=⟨rfl,fun _ _ _ _ _ _ _ h=>h⟩
theorem res_pack {fn:Func} {rs:List ResultVar} {avs bvs:List AV} (hr:fn.results=rs.toArray) (k:Abs.ResL P L h rs avs) (hw:Weak avs bvs):Abs.Res P fn L h (packA bvs):=
 ⟨fun E ι I a w r => by
  obtain⟨cs,e1,e2,e3⟩:=k.run r
  have e0:results fn a.tmps=(do let vs ←rs.toArray.mapM (Abs.rvRun a.tmps);pure (if h:vs.size=1 then vs[0]else .tuple vs)):=by
   unfold results
   rw[hr]
   congr 2
  have e4:∀j (hj:j<bvs.length),∃c,cs[j]? =some c/\Abs.AR ι I w bvs[j] c:=fun j hj=>by
   obtain⟨c,g1,g2⟩:=e3 j (by rw[hw.1];exact hj)
   exact⟨c,g1,hw.2 j _ hj _ _ _ _ g2⟩
  have e2:cs.length=bvs.length:=e2.trans hw.1
  rw[e0]
  simp only[List.mapM_toArray]
  by_cases h1:cs.length=1
  ·obtain⟨c,rfl⟩:=List.length_eq_one_iff.1 h1
   obtain⟨b,rfl⟩:=List.length_eq_one_iff.1 (e2.symm.trans h1)
   obtain⟨c',g1,g2⟩:=e4 0 (by simp)
   simp at g1
   subst g1
   exact⟨c,by simp[e1],g2⟩
  ·refine⟨.tuple cs.toArray,by simp[e1,h1],?_⟩
   have hp:packA bvs= .tup bvs:=by
    match bvs,e2 with
    |[],_=>rfl
    |[b],e=>exact absurd e h1
    |b::c::l,_=>rfl
   rw[hp]
   refine .tup (f:=fun j=>(cs[j]?).getD undef) (by simpa using e2) (fun j hj=> ?_) (fun j hj=> ?_)
   ·obtain⟨c,g1,_⟩:=e4 j hj
    simp[g1]
   ·obtain⟨c,g1,g2⟩:=e4 j hj
    simpa [g1]using g2⟩
theorem packR_ok {xs:List AT} {avs:List AV} (h:ATRs ρ H xs avs):ATR ρ H (packR xs) (packA avs):=by
 match xs,avs,h with
 |[],[],h=>exact .tup rfl (fun j h=>by simp at h)
 |[x],[a],h=>exact h.2 0 (by simp) (by simp)
 |x::y::l,a::b::m,h=>exact .tup h.1 h.2
 |[],a::m,h=>exact absurd h.1 (by simp)
 |x::l,[],h=>exact absurd h.1 (by simp)
 |[x],a::b::m,h=>exact absurd h.1 (by simp)
 |x::y::l,[a],h=>exact absurd h.1 (by simp)
theorem peekAs_up {H0 H1:List Ob} {ρ0:Rho}:∀{xs ys:List AT} {bvs:List AV},peekAs H0 xs=some ys->ATRs ρ0 H1 ys bvs->ATRs ρ H ys bvs
 | [], ys, bvs, hp, h => by
  cases hp
  have:=h.1
  cases bvs with
  |nil=>exact .nil_
  |cons _ _=>simp at this
 | x :: xs, ys, bvs, hp, h => by
  simp only[peekAs]at hp
  split at hp
  ·rename_i y ys' h1 h2
   cases hp
   obtain⟨av,avs,rfl,r1,r2⟩:=h.head
   exact .cons (peekA_up h1 r1) (peekAs_up h2 r2)
  ·cases hp
theorem looksD_ok0 {L2:List (Nat×AT)}:∀{m k:Nat} {avs:List AV} {us:List AT} {E:Env},EncL ρ H L2 E->(∀j,j<m->∃av,avs[j]? =some av/\∀x,E.lookup (k+j)=some x->x=av)->avs.length=m->looksD L2 k m=some us->ATRs ρ H us avs
 | 0, k, avs, us, E, _, _, hl, h => by
  cases h
  rw[List.eq_nil_of_length_eq_zero hl]
  exact .nil_
 | m + 1, k, avs, us, E, he, hav, hl, h => by
  simp only[looksD]at h
  split at h
  ·rename_i v vs h1 h2
   cases h
   cases avs with
   |nil=>simp at hl
   | cons av avs =>
    obtain⟨av',g1,g2⟩:=hav 0 (by omega)
    simp at g1
    subst g1
    obtain⟨x,k1,k2⟩:=he k v h1
    have:=g2 x (by simpa using k1)
    subst this
    refine .cons k2 (looksD_ok0 he (fun j hj=> ?_) (by simpa using hl) h2)
    obtain⟨y,m1,m2⟩:=hav (j+1) (by omega)
    exact⟨y,by simpa using m1,fun z hz=>m2 z (by rw[<-hz];congr 1;omega)⟩
  ·cases h
theorem looksD_ok {L2:List (Nat×AT)} {n:Nat} {avs:List AV} {us:List AT} (he:EncL ρ H L2 (Abs.argEnv 0 avs)) (hl:n=avs.length) (h:looksD L2 0 n=some us):ATRs ρ H us avs:=by
 refine looksD_ok0 he (fun j hj=> ?_) hl.symm h
 have hlt:j<avs.length:=by omega
 refine⟨avs[j],List.getElem?_eq_getElem hlt,fun x hx=> ?_⟩
 have:=(Abs.argEnv_lookup avs 0 (0+j) x hx).2
 rw[Nat.zero_add,Nat.sub_zero,List.getElem?_eq_getElem hlt]at this
 cases this
 rfl
theorem mv_evo {g:Nat->Option Nat} {x x':Ob} (hm:x.mv g=some x'):evo x x':=by
 cases x with
 | box cs =>
  simp only[Ob.mv]at hm
  split at hm
  ·cases hm;exact .inr (.inr (.inl ⟨_,_,rfl,rfl⟩))
  ·cases hm
 |row T n xs=>cases hm;exact evo.refl _
 |map T kvs=>cases hm;exact evo.refl _
 |gone=>cases hm;exact evo.refl _
 |rows T xss ho=>cases hm;exact evo.refl _
theorem reb1_ok {id:Nat} {xs xs':List AT} {H1:List Ob} {avs:List AV} (hr:reb1 id (xs,H)=some (xs',H1)) (hp:HpR ρ H h) (hf:Fr F ρ H h) (ha:ATRs ρ H xs avs):∃ρ',HpR ρ' H1 h/\Fr F ρ' H1 h/\ATRs ρ' H1 xs' avs:=by
 unfold reb1 at hr
 simp only at hr
 split at hr
 ·rename_i x hx
  split at hr
  ·rename_i H' ys ho hm
   cases hr
   obtain⟨o1,o2⟩:=obs_some ho
   have hid:=(List.getElem?_eq_some_iff.1 hx).1
   have hidρ:id<ρ.length:=by rw[hp.len];exact hid
   have e1:∀{i:Nat},i≠id->i<H.length->(H.set id .gone++[x])[i]? =H[i]? :=fun {i} hi hl=>by
    rw[List.getElem?_append_left (by simpa using hl),List.getElem?_set_ne (fun e=>hi e.symm)]
   have e2:(H.set id .gone++[x])[id]? =some .gone:=by
    rw[List.getElem?_append_left (by simpa using hid),List.getElem?_set_self hid]
   have e3:(H.set id .gone++[x])[H.length]? =some x:=by
    rw[List.getElem?_append_right (by simp)];simp
   have r1:∀{i:Nat},i<H.length->(ρ++[ρ[id]])[i]? =ρ[i]? :=fun {i} hl=>List.getElem?_append_left (by rw[hp.len];exact hl)
   have r2:(ρ++[ρ[id]])[H.length]? =ρ[id]? :=by
    rw[List.getElem?_append_right (by rw[hp.len];omega),hp.len,List.getElem?_eq_getElem hidρ];simp
   have hmv:MvOK (fun j=>if Nat.beq j id then some H.length else some j) ρ H (ρ++[ρ[id]]) H1:=fun i j hg=>by
    simp only at hg
    split at hg
    ·rename_i hb
     have:=Nat.eq_of_beq_eq_true hb
     subst this
     cases hg
     refine⟨fun z hz=>by rw[r2];exact hz,fun z hz=> ?_⟩
     rw[hx]at hz
     cases hz
     obtain⟨y,y1,y2⟩:=o2 _ _ e3
     obtain⟨s1,s2,_⟩:=mv_shape y2
     cases x with
     |row T m xs=>exact⟨y,m,y1,fun e=>(by cases e),fun T m xs e=>by cases e;exact s2 _ _ _ rfl,fun T xss ho e=>by cases e⟩
     |rows T xss ho=>exact⟨y,0,y1,s1,fun T m xs e=>(by cases e),mv_rows y2⟩
     |gone=>exact⟨y,0,y1,s1,fun T m xs e=>(by cases e),fun T xss ho e=>by cases e⟩
     |box cs=>exact⟨y,0,y1,s1,fun T m xs e=>(by cases e),fun T xss ho e=>by cases e⟩
     |map T kvs=>exact⟨y,0,y1,s1,fun T m xs e=>(by cases e),fun T xss ho e=>by cases e⟩
    ·rename_i hb
     cases hg
     have hne:i≠id:=fun e=>hb (by rw[e];exact Nat.beq_refl id)
     refine⟨fun z hz=>by rw[r1 (by rw[<-hp.len];exact(List.getElem?_eq_some_iff.1 hz).1)];exact hz,fun z hz=> ?_⟩
     have hl:=(List.getElem?_eq_some_iff.1 hz).1
     obtain⟨y,y1,y2⟩:=o2 _ _ ((e1 hne hl).trans hz)
     obtain⟨s1,s2,_⟩:=mv_shape y2
     cases z with
     |row T m xs=>exact⟨y,m,y1,fun e=>(by cases e),fun T m xs e=>by cases e;exact s2 _ _ _ rfl,fun T xss ho e=>by cases e⟩
     |rows T xss ho=>exact⟨y,0,y1,s1,fun T m xs e=>(by cases e),mv_rows y2⟩
     |gone=>exact⟨y,0,y1,s1,fun T m xs e=>(by cases e),fun T xss ho e=>by cases e⟩
     |box cs=>exact⟨y,0,y1,s1,fun T m xs e=>(by cases e),fun T xss ho e=>by cases e⟩
     |map T kvs=>exact⟨y,0,y1,s1,fun T m xs e=>(by cases e),fun T xss ho e=>by cases e⟩
   have hev:Ev ρ H (ρ++[ρ[id]]) H1:=by
    refine⟨fun i z hz=>app_get hz,fun i z hz=> ?_⟩
    have hl:=(List.getElem?_eq_some_iff.1 hz).1
    by_cases hne:i=id
    ·subst hne
     obtain⟨y,y1,y2⟩:=o2 _ _ e2
     cases y2
     exact⟨_,y1,.inl rfl⟩
    ·obtain⟨y,y1,y2⟩:=o2 _ _ ((e1 hne hl).trans hz)
     exact⟨y,y1,mv_evo y2⟩
   have hcame:∀(i a:Nat),(ρ++[ρ[id]])[i]? =some (some a)->live H1 i->∃i0,ρ[i0]? =some (some a)/\live H i0/\((i<H.length/\i0=i/\i≠id)\/(i=H.length/\i0=id)):=fun i a hi hl=>by
    obtain⟨z,z1,z2⟩:=hl
    have hlt:=(List.getElem?_eq_some_iff.1 z1).1
    rw[o1]at hlt
    simp at hlt
    by_cases hL:i<H.length
    ·have hne:i≠id:=fun e=>by
      subst e
      obtain⟨y,y1,y2⟩:=o2 _ _ e2
      cases y2
      rw[y1]at z1
      cases z1
      cases z2
     refine⟨i,by rw[r1 hL]at hi;exact hi,hev.lv hL ⟨z,z1,z2⟩,.inl ⟨hL,rfl,hne⟩⟩
    ·have:i=H.length:=by omega
     subst this
     obtain⟨y,y1,y2⟩:=o2 _ _ e3
     rw[y1]at z1
     cases z1
     exact⟨id,by rw[r2]at hi;exact hi,⟨x,hx,by rw[<-mv_dead y2];exact z2⟩,.inr ⟨rfl,rfl⟩⟩
   refine⟨ρ++[ρ[id]],HpR.mk' (by rw[o1];simp[hp.len]) (fun i z hz=> ?_) (fun i j a h1 h2 l1 l2=> ?_) (fun i a h1=> ?_),hf.step hev (Nat.le_refl _) (fun i a h1 l1=> ?_) (fun _ _ _=>rfl),?_⟩
   ·have hlt:=(List.getElem?_eq_some_iff.1 hz).1
    rw[o1]at hlt
    simp at hlt
    by_cases hL:i<H.length
    ·by_cases hne:i=id
     ·subst hne
      obtain⟨y,y1,y2⟩:=o2 _ _ e2
      cases y2
      rw[y1]at hz
      cases hz
      exact .inr (.inr rfl)
     ·obtain⟨y,y1,y2⟩:=o2 _ _ ((e1 hne hL).trans (List.getElem?_eq_getElem hL))
      rw[y1]at hz
      cases hz
      rw[r1 hL]
      rcases hp.ob (List.getElem?_eq_getElem hL)with⟨a,w,m1,m2,m3⟩|⟨m1,T,n,m2,m3⟩|m1
      ·exact .inl ⟨a,w,m1,m2,ob_mv hmv m3 y2⟩
      ·rw[m2]at y2;cases y2;exact .inr (.inl ⟨m1,T,n,rfl,m3⟩)
      ·exact .inr (.inr (by rw[mv_dead y2];exact m1))
    ·have:i=H.length:=by omega
     subst this
     obtain⟨y,y1,y2⟩:=o2 _ _ e3
     rw[y1]at hz
     cases hz
     rw[r2]
     rcases hp.ob hx with⟨a,w,m1,m2,m3⟩|⟨m1,T,n,m2,m3⟩|m1
     ·exact .inl ⟨a,w,m1,m2,ob_mv hmv m3 y2⟩
     ·rw[m2]at y2;cases y2;exact .inr (.inl ⟨m1,T,n,rfl,m3⟩)
     ·exact .inr (.inr (by rw[mv_dead y2];exact m1))
   ·obtain⟨i0,k1,k2,k3⟩:=hcame i a h1 l1
    obtain⟨j0,m1,m2,m3⟩:=hcame j a h2 l2
    have:=hp.inj _ _ _ k1 m1 k2 m2
    omega
   ·rcases Nat.lt_or_ge i H.length with hL|hL
    ·rw[r1 hL]at h1;exact hp.lt _ _ h1
    ·have hlt:=(List.getElem?_eq_some_iff.1 h1).1
     simp at hlt
     have:i=H.length:=by have:=hp.len;omega
     subst this
     rw[r2]at h1
     exact hp.lt _ _ h1
   ·obtain⟨i0,k1,k2,_⟩:=hcame i a h1 l1
    exact .inl ⟨i0,k1,k2⟩
   ·obtain⟨h1,h2⟩:=mvA_some hm
    exact⟨by rw[h1];exact ha.1,fun j k1 k2=>atr_mv hmv (ha.2 j (by omega) k2) (h2 j (by omega) k1)⟩
  ·cases hr
 ·cases hr
theorem rebs_ok :∀{rb:List Nat} {ρ:Rho} {H:List Ob} {xs xs':List AT} {H1:List Ob} {avs:List AV},rebs rb (xs,H)=some (xs',H1)->HpR ρ H h->Fr F ρ H h->ATRs ρ H xs avs->∃ρ',HpR ρ' H1 h/\Fr F ρ' H1 h/\ATRs ρ' H1 xs' avs
 |[],ρ,H,xs,xs',H1,avs,hr,hp,hf,ha=>by cases hr;exact⟨ρ,hp,hf,ha⟩
 | id :: rb, ρ, H, xs, xs', H1, avs, hr, hp, hf, ha => by
  simp only[rebs]at hr
  split at hr
  ·rename_i q hq
   obtain⟨ys,H2⟩:=q
   obtain⟨ρ1,a1,a2,a3⟩:=reb1_ok hq hp hf ha
   exact rebs_ok hr a1 a2 a3
  ·cases hr
theorem fn_of_den {f:FuncId} {fn:Func} {c:Code} {rs:List ResultVar} {an:Ann} {pc:Pcs} {xs xs':List AT} {v:AT} {H1 H':List Ob} {rb:List Nat} {fin:St->Option (AT×List Ob)} (hm:P.follows .mixedOrders=true) (htb:TBOK P tb) (hO:OrcOK P O) (hf:P.funcs[f]? =some fn) (hb:fn.body=some c) (hname:(fn.name== "runtime.NumGoroutine")=false)
  (hnt:Nat.beq fn.ntmps an.nt=true) (hx:Nat.ble xs.length an.nt=true) (hr:Nat.beq an.refs H.length=true) (hrs:fn.results=rs.toArray) (hfin:fin=finF tb an rs\/fin=finR tb an rs)
  (hP:AllP P an pc (pieces an c)) (hrb:rebs rb (xs,H)=some (xs',H1)) (hnr:(H1.all fun o=> !o.isRows)=true) (hd:den tb O pc an c ⟨argsD 0 xs',H1⟩ (atEnd fin)=some (v,H')):CFn P f xs H v H':=by
 have hnt:=Nat.eq_of_beq_eq_true hnt
 have hx:=Nat.le_of_ble_eq_true hx
 have hr:=Nat.eq_of_beq_eq_true hr
 intro ρ h avs hp ha
 refine Abs.fn_of_aw hf hb hname (by rw[hnt,<-ha.1];exact hx) fun E hE=> ?_
 have hF:(In.mk h ρ H).ok an.refs:=⟨by rw[hr];exact hp.len,hr.symm⟩
 obtain⟨ρ1,g1,g2,g3⟩:=rebs_ok hrb hp (Fr.refl ρ H h) ha
 refine Abs.aw_mono ?_ (den_ok (F:=⟨h,ρ,H⟩) hm htb hO (hE.trans hnt) hF hP hd ⟨argsD_enc g3,g1,g2,XR.none_ fun id y hy=>by have:=List.all_eq_true.1 hnr y (List.mem_of_getElem? hy);simpa using this⟩)
 have key:∀{st:St} {ρ':Rho} {L:Env} {h1:Heap},fin st=some (v,H')->SR ⟨h,ρ,H⟩ ρ' st L h1->
   ∃L2 h2 r,Abs.Shift L h1 L2 h2/\Abs.Res P fn L2 h2 r/\Abs.Out h (fun r h'=>∃ρ',ATR ρ' H' v r/\HpR ρ' H' h'/\Fr ⟨h,ρ,H⟩ ρ' H' h') r h2:=by
  intro st ρ' L h1 hk hs
  rcases hfin with rfl|rfl
  ·unfold finF at hk
   obtain⟨L2,h2,sh,hs2⟩:=fzIds_ok (ids:=idsR tb rs st) hs
   simp only at hk
   split at hk
   ·rename_i vs hvs
    split at hk
    ·rename_i us hus
     obtain⟨avs',a1,a2⟩:=resDs_ok htb hs2 hvs
     obtain⟨bvs,b1,b2,b3⟩:=peekAs0_ok hus a1
     obtain⟨ρ2,st2,c1,c2⟩:=restrict_ok hF hs2 hk
     cases c1
     exact⟨L2,h2,packA bvs,sh,res_pack hrs a2 b3,.inl ⟨ρ2,packR_ok (peekAs_up hus b1),c2.heap,c2.fr⟩⟩
    ·cases hk
   ·cases hk
  ·unfold finR at hk
   split at hk
   ·rename_i vs hvs
    obtain⟨avs',a1,a2⟩:=resDs_ok htb hs hvs
    have hs':SR ⟨h,ρ,H⟩ ρ' ⟨argsD 0 vs,st.H⟩ (Abs.argEnv 0 avs') h1:=⟨argsD_enc a1,hs.heap,hs.fr,hs.xr⟩
    obtain⟨ρ2,st2,c1,c2⟩:=restrict_ok hF hs' hk
    split at c1
    ·rename_i us hus
     cases c1
     exact⟨L,h1,packA avs',.refl _ _,res_pack hrs a2 (Weak.refl _),.inl ⟨ρ2,packR_ok (looksD_ok c2.slots a1.1 hus),c2.heap,c2.fr⟩⟩
    ·cases c1
   ·cases hk
 rintro e L h1 ⟨ρ',st',k1,k2⟩
 cases e with
 |normal=>exact key k1 k2
 |ret=>exact key k1 k2
 |_=>cases k1
end
end Go.Proofs.Ytagnfckihdlhpaa.Den

namespace Go.Proofs.Ytagnfckihdlhpaa.Den
open Go.RowKit
open Abs (V AV VR)
end Go.Proofs.Ytagnfckihdlhpaa.Den

namespace Go.Proofs.Ytagnfckihdlhpaa.Den
open Go.RowKit
def tbl :List (Nat×TI):=[
 (1,⟨1,false,[.z],[],none,false,false,false,none,none⟩),
 (2,⟨1,false,[.i 0],[],none,false,true,false,some .i64,none⟩),
 (3,⟨1,false,[.i 0],[],none,false,true,false,some .i64,none⟩),
 (4,⟨1,false,[.b false],[],none,false,false,true,none,none⟩),
 (5,⟨1,false,[.k .u8 0],[],none,false,false,false,some .u8,none⟩),
 (6,⟨1,false,[.k .u8 0],[],none,false,false,false,some .u8,none⟩),
 (7,⟨4,true,[.i 0,.i 0,.b false,.k .u8 0],[(0,2,1),(1,3,1),(2,4,1),(3,6,1)],none,false,false,false,none,none⟩),
 (8,⟨4,true,[.i 0,.i 0,.b false,.k .u8 0],[(0,2,1),(1,3,1),(2,4,1),(3,6,1)],none,false,false,false,none,none⟩),
 (9,⟨1,false,[.s ByteArray.empty],[],none,true,false,false,none,none⟩),
 (10,⟨1,false,[.s ByteArray.empty],[],none,true,false,false,none,none⟩),
 (11,⟨1,false,[.s ByteArray.empty],[],none,true,false,false,none,none⟩),
 (12,⟨1,false,[.k .u64 0],[],none,false,false,false,some .u64,none⟩),
 (13,⟨2,true,[.s ByteArray.empty,.k .u64 0],[(0,9,1),(1,12,1)],none,false,false,false,none,none⟩),
 (14,⟨2,true,[.s ByteArray.empty,.k .u64 0],[(0,9,1),(1,12,1)],none,false,false,false,none,none⟩),
 (15,⟨1,false,[.z],[],none,false,false,false,none,none⟩),
 (16,⟨1,false,[.z],[],none,false,false,false,none,none⟩),
 (17,⟨1,false,[.z],[],none,false,false,false,none,none⟩),
 (18,⟨1,true,[.z],[(0,17,1)],none,false,false,false,none,none⟩),
 (19,⟨1,true,[.z],[(0,17,1)],none,false,false,false,none,none⟩),
 (21,⟨1,false,[.k .i32 0],[],none,false,false,false,some .i32,none⟩),
 (22,⟨1,false,[.nil .i],[],some .i,false,false,false,none,none⟩),
 (23,⟨2,true,[.nil .i,.i 0],[(0,22,1),(1,3,1)],none,false,false,false,none,none⟩),
 (24,⟨2,true,[.nil .i,.i 0],[(0,22,1),(1,3,1)],none,false,false,false,none,none⟩),
 (25,⟨1,false,[.z],[],none,false,false,false,none,none⟩),
 (26,⟨1,false,[.z],[],none,false,false,false,none,none⟩),
 (27,⟨2,true,[.nil .i,.i 0],[(0,22,1),(1,3,1)],none,false,false,false,none,none⟩),
 (28,⟨1,false,[.z],[],none,false,false,false,none,none⟩),
 (29,⟨1,false,[.z],[],none,false,false,false,none,none⟩),
 (30,⟨1,false,[.z],[],none,false,false,false,none,none⟩),
 (31,⟨1,false,[.nil (.n 2)],[],some (.n 2),false,false,false,none,none⟩),
 (32,⟨3,true,[.i 0,.i 0,.nil (.n 2)],[(0,3,1),(1,3,1),(2,31,1)],none,false,false,false,none,none⟩),
 (33,⟨3,true,[.i 0,.i 0,.nil (.n 2)],[(0,3,1),(1,3,1),(2,31,1)],none,false,false,false,none,none⟩),
 (34,⟨1,false,[.z],[],none,false,false,false,none,none⟩),
 (35,⟨1,false,[.z],[],none,false,false,false,none,none⟩),
 (36,⟨1,false,[.nil (.n 2)],[],some (.n 2),false,false,false,none,none⟩),
 (37,⟨3,true,[.i 0,.i 0,.nil (.n 2)],[(0,3,1),(1,3,1),(2,36,1)],none,false,false,false,none,none⟩),
 (38,⟨3,true,[.i 0,.i 0,.nil (.n 2)],[(0,3,1),(1,3,1),(2,36,1)],none,false,false,false,none,none⟩),
 (39,⟨1,false,[.z],[],none,false,false,false,none,none⟩),
 (40,⟨1,false,[.z],[],none,false,false,false,none,none⟩),
 (41,⟨1,false,[.z],[],none,false,false,false,none,none⟩),
 (42,⟨1,false,[.nil (.n 1)],[],some (.n 1),false,false,false,none,none⟩),
 (43,⟨1,false,[.nil (.sl .i)],[],some (.sl .i),false,false,false,none,none⟩),
 (44,⟨3,true,[.nil (.n 1),.nil (.sl .i),.b false],[(0,42,1),(1,43,1),(2,4,1)],none,false,false,false,none,none⟩),
 (45,⟨3,true,[.nil (.n 1),.nil (.sl .i),.b false],[(0,42,1),(1,43,1),(2,4,1)],none,false,false,false,none,none⟩),
 (46,⟨1,false,[.z],[],none,false,false,false,none,none⟩),
 (47,⟨1,false,[.z],[],none,false,false,false,none,none⟩),
 (48,⟨1,false,[.nil (.n 1)],[],some (.n 1),false,false,false,none,none⟩),
 (49,⟨3,true,[.nil (.n 1),.nil (.sl .i),.b false],[(0,48,1),(1,43,1),(2,4,1)],none,false,false,false,none,none⟩),
 (50,⟨3,true,[.nil (.n 1),.nil (.sl .i),.b false],[(0,48,1),(1,43,1),(2,4,1)],none,false,false,false,none,none⟩),
 (51,⟨1,false,[.z],[],none,false,false,false,none,none⟩),
 (52,⟨1,false,[.z],[],none,false,false,false,none,none⟩),
 (53,⟨1,false,[.z],[],none,false,false,false,none,none⟩),
 (54,⟨1,false,[.nil .u],[],some .u,false,false,false,none,none⟩),
 (55,⟨1,false,[.z],[],none,false,false,false,none,none⟩),
 (57,⟨1,false,[.z],[],none,false,false,false,none,none⟩),
 (58,⟨1,false,[.z],[],none,false,false,false,none,none⟩),
 (59,⟨1,false,[.z],[],none,false,false,false,none,none⟩),
 (60,⟨1,false,[.z],[],none,false,false,false,none,none⟩),
 (61,⟨1,false,[.z],[],none,false,false,false,none,none⟩),
 (62,⟨1,false,[.z],[],none,false,false,false,none,none⟩),
 (63,⟨1,false,[.z],[],none,false,false,false,none,none⟩),
 (65,⟨1,false,[.z],[],none,false,false,false,none,none⟩),
 (66,⟨1,false,[.z],[],none,false,false,false,none,none⟩),
 (67,⟨1,false,[.z],[],none,false,false,false,none,none⟩),
 (68,⟨1,false,[.z],[],none,false,false,false,none,none⟩),
 (69,⟨1,false,[.z],[],none,false,false,false,none,none⟩),
 (70,⟨1,false,[.z],[],none,false,false,false,none,none⟩),
 (71,⟨1,false,[.z],[],none,false,false,false,none,none⟩),
 (72,⟨1,false,[.z],[],none,false,false,false,none,none⟩),
 (73,⟨1,false,[.z],[],none,false,false,false,none,none⟩),
 (74,⟨1,false,[.z],[],none,false,false,false,none,none⟩),
 (75,⟨1,false,[.z],[],none,false,false,false,none,none⟩),
 (76,⟨1,false,[.z],[],none,false,false,false,none,none⟩),
 (77,⟨1,false,[.z],[],none,false,false,false,none,none⟩),
 (78,⟨1,false,[.z],[],none,false,false,false,none,none⟩),
 (79,⟨1,false,[.z],[],none,false,false,false,none,none⟩),
 (80,⟨1,false,[.z],[],none,false,false,false,none,none⟩),
 (81,⟨1,false,[.z],[],none,false,false,false,none,none⟩),
 (82,⟨1,false,[.z],[],none,false,false,false,none,none⟩),
 (83,⟨1,false,[.z],[],none,false,false,false,none,none⟩),
 (84,⟨1,false,[.z],[],none,false,false,false,none,none⟩),
 (85,⟨1,false,[.z],[],none,false,false,false,none,none⟩),
 (86,⟨1,false,[.z],[],none,false,false,false,none,none⟩),
 (87,⟨1,false,[.z],[],none,false,false,false,none,none⟩),
 (88,⟨1,false,[.z],[],none,false,false,false,none,none⟩),
 (89,⟨1,false,[.nil .b],[],some .b,false,false,false,none,none⟩),
 (90,⟨1,false,[.z],[],none,false,false,false,none,none⟩),
 (91,⟨1,false,[.z],[],none,false,false,false,none,none⟩),
 (92,⟨1,false,[.z],[],none,false,false,false,none,none⟩),
 (93,⟨1,false,[.z],[],none,false,false,false,none,none⟩),
 (94,⟨1,false,[.z],[],none,false,false,false,none,none⟩),
 (95,⟨1,false,[.z],[],none,false,false,false,none,none⟩),
 (96,⟨1,false,[.z],[],none,false,false,false,none,none⟩),
 (97,⟨4,true,[.i 0,.s ByteArray.empty,.i 0,.nil (.n 1)],[(0,3,1),(1,9,1),(2,3,1),(3,42,1)],none,false,false,false,none,none⟩),
 (98,⟨4,true,[.i 0,.s ByteArray.empty,.i 0,.nil (.n 1)],[(0,3,1),(1,9,1),(2,3,1),(3,42,1)],none,false,false,false,none,none⟩),
 (99,⟨4,true,[.i 0,.s ByteArray.empty,.i 0,.nil (.n 1)],[(0,3,1),(1,9,1),(2,3,1),(3,48,1)],none,false,false,false,none,none⟩),
 (100,⟨4,true,[.i 0,.s ByteArray.empty,.i 0,.nil (.n 1)],[(0,3,1),(1,9,1),(2,3,1),(3,48,1)],none,false,false,false,none,none⟩),
 (101,⟨1,false,[.z],[],none,false,false,false,none,none⟩),
 (102,⟨1,false,[.z],[],none,false,false,false,none,none⟩),
 (103,⟨3,true,[.nil .u,.i 0,.i 0],[(0,54,1),(1,3,1),(2,3,1)],none,false,false,false,none,none⟩),
 (104,⟨3,true,[.nil .u,.i 0,.i 0],[(0,54,1),(1,3,1),(2,3,1)],none,false,false,false,none,none⟩),
 (105,⟨1,false,[.z],[],none,false,false,false,none,none⟩),
 (106,⟨1,false,[.z],[],none,false,false,false,none,none⟩),
 (107,⟨1,false,[.nil (.sl .b)],[],some (.sl .b),false,false,false,none,none⟩),
 (108,⟨1,false,[.z],[],none,false,false,false,none,none⟩),
 (109,⟨1,false,[.z],[],none,false,false,false,none,none⟩),
 (110,⟨1,false,[.z],[],none,false,false,false,none,none⟩),
 (111,⟨1,false,[.z],[],none,false,false,false,none,none⟩),
 (112,⟨1,false,[.k .u64 0],[],none,false,false,false,some .u64,none⟩),
 (113,⟨1,false,[.z],[],none,false,false,false,none,none⟩),
 (114,⟨1,false,[.z],[],none,false,false,false,none,none⟩),
 (115,⟨4,true,[.z,.z,.z,.s ByteArray.empty],[(0,17,1),(1,17,1),(2,17,1),(3,9,1)],none,false,false,false,none,none⟩),
 (116,⟨4,true,[.z,.z,.z,.s ByteArray.empty],[(0,17,1),(1,17,1),(2,17,1),(3,9,1)],none,false,false,false,none,none⟩),
 (120,⟨1,false,[.z],[],none,false,false,false,none,none⟩),
 (121,⟨1,false,[.k .u32 0],[],none,false,false,false,some .u32,none⟩),
 (122,⟨1,false,[.k .u8 0],[],none,false,false,false,some .u8,none⟩),
 (123,⟨1,false,[.k .u8 0],[],none,false,false,false,some .u8,none⟩),
 (124,⟨1,false,[.z],[],none,false,false,false,none,none⟩),
 (125,⟨1,false,[.z],[],none,false,false,false,none,none⟩),
 (126,⟨1,false,[.k .i32 0],[],none,false,false,false,some .i32,none⟩),
 (127,⟨1,false,[.k .i32 0],[],none,false,false,false,some .i32,none⟩),
 (128,⟨11,true,[.k .u64 0,.k .u64 0,.k .u32 0,.k .u8 0,.k .u8 0,.k .u8 0,.k .u8 0,.z,.z,.k .i32 0,.k .i32 0],[(0,12,1),(1,12,1),(2,121,1),(3,122,1),(4,5,1),(5,5,1),(6,123,1),(7,124,1),(8,125,1),(9,126,1),(10,127,1)],none,false,false,false,none,none⟩),
 (129,⟨11,true,[.k .u64 0,.k .u64 0,.k .u32 0,.k .u8 0,.k .u8 0,.k .u8 0,.k .u8 0,.z,.z,.k .i32 0,.k .i32 0],[(0,12,1),(1,12,1),(2,121,1),(3,122,1),(4,5,1),(5,5,1),(6,123,1),(7,124,1),(8,125,1),(9,126,1),(10,127,1)],none,false,false,false,none,none⟩)]
def tb (t:Nat):Option TI:=tbl.lookup t
noncomputable def tblOK:Bool:=tbl.all fun p=>match Abs.tyOf Try.prog p.1 with
 |some i=>tiOK i p.2&&mapOK Try.prog p.1 p.2
 |none=>false
theorem tblOK_true :tblOK=true:=by kernel_rfl
theorem mixed :Try.prog.follows .mixedOrders=true:=by kernel_rfl
theorem tb_ok :TBOK Try.prog tb:=fun t ti h=>by
 have hm:(t,ti)∈tbl:=lookup_mem h
 have:=List.all_eq_true.1 tblOK_true _ hm
 simp only at this
 split at this
 ·rename_i i hi;rw[Bool.and_eq_true]at this;exact⟨i,hi,this.1,this.2⟩
 ·cases this
theorem apl {an:Ann} {pc:Pcs} {c:Code} (l:List (Nat×Nat×Code)) (h:AllP Try.prog an pc l) (e:pieces an c=l:=by kernel_rfl):AllP Try.prog an pc (pieces an c):=by rw[e];exact h
theorem lpc {L:List Ent} (hG:AllE Try.prog L) {an:Ann} (pc:Pcs) {c:Code} (lv:List Nat) (o:Outs) (hP:AllP Try.prog an pc (pieces an c)) {f:Nat->(R:Type)->St->Kt R->Option R} (h0:∀(R:Type) (st:St) (K:Kt R),f 0 R st K=none)
  (hf:∀(n:Nat) (R:Type) (st:St) (K:Kt R) (r:R),f (n+1) R st K=some r->den tb (orcOf L) pc an c st (roundK an.refs lv o (fun st'=>f n R st' K) K)=some r):∀n,PieceOK Try.prog an (.loop c) (f n):=loop_piece mixed tb_ok (orc_ok hG) hP h0 hf
theorem cpc {L:List Ent} (hG:AllE Try.prog L) {an:Ann} (pc:Pcs) {c:Code} (o:Outs) (hP:AllP Try.prog an pc (pieces an c)) {f:(R:Type)->St->Kt R->Option R}
  (hf:∀(R:Type) (st:St) (K:Kt R) (r:R),f R st K=some r->den tb (orcOf L) pc an c st (outK an.refs o K)=some r):PieceOK Try.prog an c f:=cut_piece mixed tb_ok (orc_ok hG) hP hf
theorem fnR {L:List Ent} (hG:AllE Try.prog L) {f:FuncId} {fn:Func} (an:Ann) (pc:Pcs) (c:Code) (rs:List ResultVar) (rb:List Nat) {xs xs2:List AT} {v:AT} {H H2 H':List Ob} {fin:St->Option (AT×List Ob)} (hf:Try.prog.funcs[f]? =some fn) (hfin:fin=finF tb an rs\/fin=finR tb an rs)
  (hP:AllP Try.prog an pc (pieces an c)) (hd:den tb (orcOf L) pc an c ⟨argsD 0 xs2,H2⟩ (atEnd fin)=some (v,H')) (hb:fn.body=some c:=by kernel_rfl) (hname:(fn.name== "runtime.NumGoroutine")=false:=by kernel_rfl) (hnt:Nat.beq fn.ntmps an.nt=true:=by kernel_rfl)
  (hx:Nat.ble xs.length an.nt=true:=by kernel_rfl) (hr:Nat.beq an.refs H.length=true:=by kernel_rfl) (hrs:fn.results=rs.toArray:=by kernel_rfl) (hrb:rebs rb (xs,H)=some (xs2,H2):=by kernel_rfl) (hnr:(H2.all fun o=> !o.isRows)=true:=by kernel_rfl):CFn Try.prog f xs H v H':=
 fn_of_den mixed tb_ok (orc_ok hG) hf hb hname hnt hx hr hrs hfin hP hrb hnr hd
theorem fnP {L:List Ent} (hG:AllE Try.prog L) {f:FuncId} {fn:Func} (an:Ann) (pc:Pcs) (c:Code) (rs:List ResultVar) {xs:List AT} {v:AT} {H H':List Ob} {fin:St->Option (AT×List Ob)} (hf:Try.prog.funcs[f]? =some fn) (hfin:fin=finF tb an rs\/fin=finR tb an rs)
  (hP:AllP Try.prog an pc (pieces an c)) (hd:den tb (orcOf L) pc an c ⟨argsD 0 xs,H⟩ (atEnd fin)=some (v,H')) (hb:fn.body=some c:=by kernel_rfl) (hname:(fn.name== "runtime.NumGoroutine")=false:=by kernel_rfl) (hnt:Nat.beq fn.ntmps an.nt=true:=by kernel_rfl)
  (hx:Nat.ble xs.length an.nt=true:=by kernel_rfl) (hr:Nat.beq an.refs H.length=true:=by kernel_rfl) (hrs:fn.results=rs.toArray:=by kernel_rfl) (hnr:(H.all fun o=> !o.isRows)=true:=by kernel_rfl):CFn Try.prog f xs H v H':=fnR hG an pc c rs [] hf hfin hP hd hb hname hnt hx hr hrs rfl hnr
namespace l_FnExactIsLasso
noncomputable def ent (g:Lasso->Option (Bool)):Ent:=⟨3,0,[0],fun _ xs H K=>match xs,H with
 |[.agg [.l .i a,.i a2]],[]=>Option.bind (g (Lasso.mk a a2)) fun r=>K (.one (.b r)) []
 |_,_=>none⟩
end l_FnExactIsLasso
namespace l_FnExactIsFormula
noncomputable def ent (g:Fm->Option (Bool)):Ent:=⟨4,0,[0],fun _ xs H K=>match xs,H with
 |[.agg [.i a,.i a2,.l (.n 2) a3]],[]=>Option.bind (g (Fm.mk a a2 a3)) fun r=>K (.one (.b r)) []
 |_,_=>none⟩
end l_FnExactIsFormula
namespace l_FnExactIsGraph
noncomputable def ent (g:Gr->Option (Bool)):Ent:=⟨5,0,[0],fun _ xs H K=>match xs,H with
 |[.agg [.l (.n 1) a,.l (.sl .i) a2,.b a3]],[]=>Option.bind (g (Gr.mk a a2 a3)) fun r=>K (.one (.b r)) []
 |_,_=>none⟩
end l_FnExactIsGraph
namespace l_FnUnrolled
noncomputable def ent (g:List Int->Option (Bool)):Ent:=⟨6,0,[0],fun _ xs H K=>match xs,H with
 |[.one (.l .u a)],[]=>Option.bind (g a) fun r=>K (.one (.b r)) []
 |_,_=>none⟩
end l_FnUnrolled
namespace l_FnExactShortestPath
noncomputable def ent (g:Gr->Int->Option (Bool)):Ent:=⟨9,0,[0,0],fun _ xs H K=>match xs,H with
 |[.agg [.l (.n 1) a,.l (.sl .i) a2,.b a3],.one (.i a4)],[]=>Option.bind (g (Gr.mk a a2 a3) a4) fun r=>K (.one (.b r)) []
 |_,_=>none⟩
end l_FnExactShortestPath
namespace s_IsGraph
noncomputable def ent (g:Gr->Option (Bool)):Ent:=⟨21,0,[0],fun _ xs H K=>match xs,H with
 |[.agg [.l (.n 1) a,.l (.sl .i) a2,.b a3]],[]=>Option.bind (g (Gr.mk a a2 a3)) fun r=>K (.one (.b r)) []
 |_,_=>none⟩
end s_IsGraph
namespace i_IsGraph
noncomputable def ent (g:Gr->Option (Bool)):Ent:=⟨23,0,[0],fun _ xs H K=>match xs,H with
 |[.agg [.l (.n 1) a,.l (.sl .i) a2,.b a3]],[]=>Option.bind (g (Gr.mk a a2 a3)) fun r=>K (.one (.b r)) []
 |_,_=>none⟩
end i_IsGraph
namespace s_ShortestPath
noncomputable def ent (g:Gr->Int->Option (List Int×Bool)):Ent:=⟨33,1,[0,0],fun _ xs H K=>match xs,H with
 |[.agg [.l (.n 1) a,.l (.sl .i) a2,.b a3],.one (.i a4)],[]=>Option.bind (g (Gr.mk a a2 a3) a4) fun r=>K (.tup [.one (.l .i r.1),.one (.b r.2)]) []
 |_,_=>none⟩
end s_ShortestPath
namespace i_ShortestPath_o
noncomputable def ent (g:Gr->Int->Option (List Int×Bool)):Ent:=⟨34,2,[0,0],fun _ xs H K=>match xs,H with
 |[.agg [.l (.n 1) a,.l (.sl .i) a2,.b a3],.one (.i a4)],[]=>Option.bind (g (Gr.mk a a2 a3) a4) fun r=>K (.tup [.one (.o 0),.one (.b r.2)]) [.row .i 0 r.1]
 |_,_=>none⟩
end i_ShortestPath_o
namespace l_markIntS
noncomputable def ent (g:List Int->Int->Option (Int)):Ent:=⟨36,0,[0,0],fun _ xs H K=>match xs,H with
 |[.one (.l .i a),.one (.i a2)],[]=>Option.bind (g a a2) fun r=>K (.one (.i r)) []
 |_,_=>none⟩
end l_markIntS
namespace s_l1In
noncomputable def ent (g:Int->Int->Int->Option (Bool)):Ent:=⟨39,0,[0,0,0],fun _ xs H K=>match xs,H with
 |[.one (.i a),.one (.i a2),.one (.i a3)],[]=>Option.bind (g a a2 a3) fun r=>K (.one (.b r)) []
 |_,_=>none⟩
end s_l1In
namespace s_l1HasInt
noncomputable def ent (g:List Int->Int->Option (Bool)):Ent:=⟨63,0,[0,0],fun _ xs H K=>match xs,H with
 |[.one (.l .i a),.one (.i a2)],[]=>Option.bind (g a a2) fun r=>K (.one (.b r)) []
 |_,_=>none⟩
end s_l1HasInt
namespace slices_Insert_intint_o
noncomputable def ent (g:List Int->Int->List Int->Option (List Int)):Ent:=⟨68,2,[1,0,1],fun _ xs H K=>match xs,H with
 |[.one (.o 0),.one (.i a),.one (.o 1)],[.row .i 0 h,.row .i 0 h2]=>Option.bind (g h a h2) fun r=>K (.one (.o 2)) [.gone,.gone,.row .i 0 r]
 |_,_=>none⟩
end slices_Insert_intint_o
namespace l_markText
noncomputable def ent (g:Int->Option (ByteArray)):Ent:=⟨81,0,[0],fun _ xs H K=>match xs,H with
 |[.one (.i a)],[]=>Option.bind (g a) fun r=>K (.one (.s r)) []
 |_,_=>none⟩
end l_markText
end Go.Proofs.Ytagnfckihdlhpaa.Den

namespace Go.Proofs.Ytagnfckihdlhpaa.Den
open Go.ChangeShapes Go.WideShapes Go.ChangeAt Go.RowKit Go.Deep Go.Joins
open Abs (V AV VRs VR)
section
variable {H : Type} {enc : TypeId × Value → H} {P : Program} {w : World} {base : Nat} {spare : Nat → Bool} {held : Bool} {TM : List (Nat × Ty)}
end
theorem ars_nil {w:World}:Abs.ARs [] (fun b=>b<w.heap.size) w [] #[]:=⟨rfl,fun j h=>by simp at h⟩
theorem ars_cons {w:World} {av:AV} {avs:List AV} {v:Value} {vs:List Value} (h:Abs.AR [] (fun b=>b<w.heap.size) w av v) (k:Abs.ARs [] (fun b=>b<w.heap.size) w avs vs.toArray):Abs.ARs [] (fun b=>b<w.heap.size) w (av::avs) (v::vs).toArray:=by
 refine⟨by have:=k.1;simpa using this,fun j hj=> ?_⟩
 cases j with
 |zero=>exact⟨v,by simp,h⟩
 | succ j =>
  obtain⟨c,c1,c2⟩:=k.2 j (by simpa using hj)
  exact⟨c,by simpa using c1,c2⟩
end Go.Proofs.Ytagnfckihdlhpaa.Den

namespace Go.Proofs.Ytagnfckihdlhpaa.Den
open Go.ChangeShapes Go.WideShapes Go.ChangeAt Go.RowKit Go.Deep Go.Joins
open Abs (V AV VRs VR AR ARs Inf Fn)
theorem list_vr {T:Ty} (hp:0<szT T) {w:World} {S J:Nat->Prop} (hS:∀b,S b->b<w.heap.size->J b) (f:I T->List D) (hf:∀x,(f x).length=szT T) {xs:List (I T)} {v:Value} (h:At w S (.row xs.length (xs.flatMap f)) v)
  (he:∀x∈xs,∀us:List Value,us.length=szT T->(∀(j:Nat) (d:D) (u:Value),(f x)[j]? =some d->us[j]? =some u->At w S d u)->∃vs:List V,FRs (explode T x) vs/\VRs [] J w vs us):
  ∃es,FR (.l T xs) (.imm (szT T) es)/\VR J w [] (.imm (szT T) es) v:=by
 obtain⟨A,cap,rfl,g1,g2⟩:=h.slice
 rcases Nat.eq_zero_or_pos xs.length with h0|hpos
 ·obtain rfl:=List.eq_nil_of_length_eq_zero h0
  exact⟨[],FR.nil_ hp,.imm0 g2⟩
 ·obtain⟨b,off,rfl,hb,hlt,hc⟩:=At.cellAt h (by rw[flat_len _ _ hf];exact Nat.mul_pos hpos hp)
  have key:∀i,i<xs.length->∃q:List V×List Value,((∀x,xs[i]? =some x->FRs (explode T x) q.1)/\VRs [] J w q.1 q.2)/\q.2.length=szT T/\∀j,j<szT T->w.cell? ⟨b,off+(i*szT T+j),none⟩=q.2[j]? :=fun i hi=>by
   have hat:∀j,j<szT T->(xs.flatMap f)[i*szT T+j]? =(f xs[i])[j]? :=fun j hj=>by
    rw[flat_at _ _ hf _ _ _ hj,List.getElem?_eq_getElem hi];rfl
   have hcell:∀j,j<szT T->∃d u,(f xs[i])[j]? =some d/\w.cell? ⟨b,off+(i*szT T+j),none⟩=some u/\At w S d u:=fun j hj=>by
    have e1:(f xs[i])[j]? =some ((f xs[i])[j]'(by rw[hf];exact hj)):=List.getElem?_eq_getElem _
    obtain⟨u,u1,u2⟩:=hc _ _ ((hat j hj).trans e1)
    exact⟨_,u,e1,u1,u2⟩
   have hus:∀j,j<szT T->((List.range (szT T)).map fun j=>(w.cell? ⟨b,off+(i*szT T+j),none⟩).getD undef)[j]? =w.cell? ⟨b,off+(i*szT T+j),none⟩:=fun j hj=>by
    obtain⟨d,u,_,u1,_⟩:=hcell j hj
    simp[hj,u1]
   obtain⟨vs,k1,k2⟩:=he xs[i] (List.getElem_mem hi) ((List.range (szT T)).map fun j=>(w.cell? ⟨b,off+(i*szT T+j),none⟩).getD undef) (by simp) fun j d u hd hu=>by
    have hj:j<szT T:=by
     have:=(List.getElem?_eq_some_iff.1 hu).1
     simpa using this
    rw[hus j hj]at hu
    obtain⟨d',u',q1,q2,q3⟩:=hcell j hj
    rw[hd]at q1
    rw[hu]at q2
    cases q1
    cases q2
    exact q3
   exact⟨(vs,_),⟨fun x hx=>by rw[List.getElem?_eq_getElem hi]at hx;cases hx;exact k1,k2⟩,by simp,fun j hj=>(hus j hj).symm⟩
  have:Inhabited (List V×List Value):=⟨([],[])⟩
  obtain⟨F,hF⟩:=choose_lt (α:=List V×List Value) (n:=xs.length) (p:=fun i q=>((∀x,xs[i]? =some x->FRs (explode T x) q.1)/\VRs [] J w q.1 q.2)/\q.2.length=szT T/\∀j,j<szT T->w.cell? ⟨b,off+(i*szT T+j),none⟩=q.2[j]?) key
  have hvl:∀i,i<xs.length->(F i).1.length=szT T:=fun i hi=>by
   obtain⟨⟨_,f2⟩,f3,_⟩:=hF i hi
   rw[<-f2.1,f3]
  refine⟨(List.range xs.length).map fun i=>(F i).1,.l hp (by simp) (fun e he=> ?_) (fun m m1 m2 j j1 j2=> ?_),?_⟩
  ·obtain⟨i,hi,rfl⟩:=List.mem_map.1 he
   exact hvl i (by simpa using hi)
  ·simp only[List.getElem_map,List.getElem_range]at j1 j2 ⊢
   exact((hF m m1).1.1 _ (List.getElem?_eq_getElem m1)).2 j j1 j2
  ·have hl:((List.range xs.length).map fun i=>(F i).1).length=xs.length:=by simp
   have:=VR.imm (I:=J) (w:=w) (ι:=[]) (s:=szT T) (b:=b) (off:=off) (c:=cap) (es:=(List.range xs.length).map fun i=>(F i).1) (f:=fun k j=>(F k).2.getD j undef) (fun e he=>by
    obtain⟨i,hi,rfl⟩:=List.mem_map.1 he
    exact hvl i (by simpa using hi)) (by rw[hl];exact g1) g2 (hS b hb hlt) (fun k j hk hj=>by
    rw[hl]at hk
    obtain⟨_,f3,f4⟩:=hF k hk
    rw[f4 j hj,List.getElem?_eq_getElem (by omega)]
    simp[List.getD,f3,hj]) (fun k hk j hj=>by
    have hk':k<xs.length:=by simpa using hk
    simp only[List.getElem_map,List.getElem_range]at hj ⊢
    obtain⟨⟨_,f2⟩,f3,_⟩:=hF k hk'
    obtain⟨u,u1,u2⟩:=f2.2 j hj
    have:(F k).2.getD j undef=u:=by simp[List.getD,u1]
    rw[this]
    exact u2)
   rw[hl]at this
   exact this
theorem vrs1 {J:Nat->Prop} {w:World} {v:V} {u:Value} (h:VR J w [] v u):VRs [] J w [v] [u]:=⟨rfl,fun j hj=>by
 have:j=0:=by simp at hj;omega
 subst this;exact⟨u,rfl,h⟩⟩
theorem vrs_cons {J:Nat->Prop} {w:World} {v:V} {u:Value} {vs:List V} {us:List Value} (h:VR J w [] v u) (k:VRs [] J w vs us):VRs [] J w (v::vs) (u::us):=⟨by have:=k.1;simp[this],fun j hj=>by
 cases j with
 |zero=>exact⟨u,rfl,h⟩
 | succ j =>
  obtain⟨x,h1,h2⟩:=k.2 j (by simpa using hj)
  exact⟨x,by simpa using h1,h2⟩⟩
theorem frs_nil :FRs [] []:=⟨rfl,fun j h=>by simp at h⟩
theorem frs_cons {c:C} {v:V} {cs:List C} {vs:List V} (h:FR c v) (k:FRs cs vs):FRs (c::cs) (v::vs):=⟨by have:=k.1;simp[this],fun j h1 h2=>by
 cases j with
 |zero=>exact h
 |succ j=>exact k.2 j (by simpa using h1) (by simpa using h2)⟩
section
variable {w : World} {S J : Nat → Prop} (hS : ∀ b, S b → b < w.heap.size → J b)
include hS
theorem ints_vr {xs:List Int} {v:Value} (h:At w S (ints xs) v):∃es,FR (.l .i xs) (.imm 1 es)/\VR J w [] (.imm 1 es) v:=by
 have h':At w S (.row xs.length (xs.flatMap fun x=>[D.lit (.int .i64 x)])) v:=by rw[<-List.map_eq_flatMap];exact h
 refine list_vr (T:=.i) (by decide) hS (fun x=>[.lit (.int .i64 x)]) (fun _=>rfl) (xs:=xs) h' fun x _ us hl hu=> ?_
 match us,hl with
 | [u], _ =>
  obtain⟨rfl,hk⟩:=at_lit.1 (hu 0 _ u rfl rfl)
  exact⟨[.lit (.int .i64 x)],frs_cons .i frs_nil,vrs1 (.lit hk)⟩
theorem rows_vr {xss:List (List Int)} {v:Value} (h:At w S (rows xss) v):∃es,FR (.l (.sl .i) xss) (.imm 1 es)/\VR J w [] (.imm 1 es) v:=by
 have h':At w S (.row xss.length (xss.flatMap fun x=>[ints x])) v:=by rw[<-List.map_eq_flatMap];exact h
 refine list_vr (T:=.sl .i) (by decide) hS (fun x=>[ints x]) (fun _=>rfl) (xs:=xss) h' fun x _ us hl hu=> ?_
 match us,hl with
 | [u], _ =>
  obtain⟨es,k1,k2⟩:=ints_vr hS (hu 0 _ u rfl rfl)
  exact⟨[.imm 1 es],frs_cons k1 frs_nil,vrs1 k2⟩
theorem tm_vr (t:Tm):∀v,At w S (terms t.args) v->∃es,FR (.l (.n 1) t.args) (.imm 4 es)/\VR J w [] (.imm 4 es) v:=by
 induction t using Tm.induct with
 | h o n s args ih =>
  intro v h
  refine list_vr (T:=.n 1) (by decide) hS Tm.cells Tm.cells_len (xs:=args) h fun x hx us hl hu=> ?_
  match us,hl with
  | [a, b, c, d], _ =>
   obtain⟨rfl,ka⟩:=at_lit.1 (hu 0 _ a rfl rfl)
   obtain⟨rfl,kb⟩:=at_lit.1 (hu 1 _ b rfl rfl)
   obtain⟨rfl,kc⟩:=at_lit.1 (hu 2 _ c rfl rfl)
   have kd:At w S (terms (Tm.args x)) d:=by have e:=Tm.d_eq x;rw[<-e];exact hu 3 _ d rfl rfl
   obtain⟨es,k1,k2⟩:=ih x hx d kd
   exact⟨[.lit (.int .i64 (Tm.op x)),.lit (.string (Tm.name x)),.lit (.int .i64 (Tm.sort x)),.imm 4 es],frs_cons .i (frs_cons .s (frs_cons .i (frs_cons k1 frs_nil))),vrs_cons (.lit ka) (vrs_cons (.lit kb) (vrs_cons (.lit kc) (vrs1 k2)))⟩
theorem terms_vr {ts:List Tm} {v:Value} (h:At w S (terms ts) v):∃es,FR (.l (.n 1) ts) (.imm 4 es)/\VR J w [] (.imm 4 es) v:=tm_vr hS ⟨0,ByteArray.empty,0,ts⟩ v h
omit hS in
theorem ar_agg {vs:List V} {cs:List Value} (h:VRs [] J w vs cs):AR [] J w (.agg vs) (.agg cs.toArray):=by
 refine .agg (f:=fun j=>cs.getD j undef) (by have:=h.1;simpa using this) (fun j hj=> ?_) (fun j hj=> ?_)
 ·have:=h.1
  simp[List.getD,show j<cs.length by omega]
 ·obtain⟨u,u1,u2⟩:=h.2 j hj
  have:cs.getD j undef=u:=by simp[List.getD,u1]
  rw[this]
  exact u2
theorem arg_graph {g:Gr} {v u:Value} (h:At w S (terms g.states) v) (k:At w S (rows g.edges) u):∃vs,ATR [] [] (.agg (explode (.n 3) g)) (.agg vs)/\AR [] J w (.agg vs) (.agg #[v,u,.bool g.whole]):=by
 obtain⟨es,h1,h2⟩:=terms_vr hS h
 obtain⟨fs,k1,k2⟩:=rows_vr hS k
 exact⟨[.imm 4 es,.imm 1 fs,.lit (.bool g.whole)],.agg (FRs.cr (frs_cons h1 (frs_cons k1 (frs_cons .b frs_nil)))),ar_agg (vrs_cons h2 (vrs_cons k2 (vrs1 (.lit trivial))))⟩
end
theorem arg_int {w:World} {J:Nat->Prop} {x:Int} (h:(Lit.int .i64 x).wf=true):∃y,ATR [] [] (.one (.i x)) (.one y)/\AR [] J w (.one y) (.int .i64 x):=⟨_,.one (.fl .i),.one (.lit h)⟩
theorem calls_cfn {P:Program} {f:FuncId} {xs:List AT} {v:AT} {H':List Ob} (hc:CFn P f xs [] v H') {w:World} {J:Nat->Prop} {avs:List AV} {vs:Array Value} (hJ:∀b,J b->b<w.heap.size) (hx:ATRs [] [] xs avs) (hA:ARs [] J w avs vs):
  Calls P f vs w fun e w'=>∃r h' ι' I' c ρ',e= .returned c/\ATR ρ' H' v r/\HpR ρ' H' h'/\Abs.Done w J [] [] r h' ι' I' c w'/\Below w.heap.size w w':=by
 have hF:=hc [] [] avs HpR.nil_ hx
 refine(hF.2 w J [] vs (Abs.HR.nil _ w) hJ hA).mono ?_
 rintro e w' ⟨r,h',ι',I',c,⟨ρ',hr,hp,_⟩,rfl,D⟩
 exact⟨r,h',ι',I',c,ρ',rfl,hr,hp,D,⟨D.os,D.tape,D.output,D.grown,fun b hb=>D.frame b hb (Abs.noPass b)⟩⟩
section
variable {ρ : Rho} {H : List Ob} {ι : List Inf} {J : Nat → Prop} {w : World} {h : Abs.Heap}
theorem res_one {a:C} {r:AV} {c:Value} (h1:ATR ρ H (.one a) r) (h2:AR ι J w r c):∃v,CR ρ H a v/\VR J w ι v c:=by
 cases h1 with
 | one h1 => cases h2 with
  |one h2=>exact⟨_,h1,h2⟩
theorem arr2 {cs:Array Value} (h:cs.size=2):∃a b,cs= #[a,b]:=by
 rcases cs with⟨l⟩
 match l,h with
 |[a,b],_=>exact⟨a,b,rfl⟩
theorem res_tup2 {a b:AT} {r:AV} {c:Value} (h1:ATR ρ H (.tup [a,b]) r) (h2:AR ι J w r c):∃r1 r2 c1 c2,c= .tuple #[c1,c2]/\ATR ρ H a r1/\AR ι J w r1 c1/\ATR ρ H b r2/\AR ι J w r2 c2:=by
 cases h1 with
 | @tup _ ys hl hr =>
  match ys,hl with
  | [y1, y2], _ =>
   cases h2 with
   | @tup _ cs f hl' hcs hr'=>
    obtain⟨c1,c2,rfl⟩:=arr2 hl'
    have e1:=hcs 0 (by simp)
    have e2:=hcs 1 (by simp)
    simp at e1 e2
    subst e1 e2
    exact⟨y1,y2,_,_,rfl,hr 0 (by simp) (by simp),hr' 0 (by simp),hr 1 (by simp) (by simp),hr' 1 (by simp)⟩
theorem res_bool {x:Bool} {v:V} {c:Value} (h1:CR ρ H (.b x) v) (h2:VR J w ι v c):c= .bool x:=by
 cases h1 with
 | fl h1 => cases h1 with
  | b => cases h2 with
   |lit h=>rfl
theorem res_str {x:ByteArray} {v:V} {c:Value} (h1:CR ρ H (.s x) v) (h2:VR J w ι v c):c= .string x/\x.size<=maxLen:=by
 cases h1 with
 | fl h1 => cases h1 with
  | s => cases h2 with
   |lit h=>exact⟨rfl,h⟩
theorem ints_of {xs:List Int} {es:List (List V)} (h:FR (.l .i xs) (.imm 1 es)):es.length=xs.length/\∀(k:Nat),k<xs.length->∃e,es[k]? =some e/\e=[.lit (.int .i64 (xs.getD k 0))]:=by
 obtain⟨hl,hs,hr⟩:es.length=xs.length/\(∀e∈es,e.length=1)/\∀(m:Nat) (h1:m<xs.length) (h2:m<es.length) (j:Nat) (h3:j<(explode .i xs[m]).length) (h4:j<es[m].length),FR (explode .i xs[m])[j] es[m][j]:=by
  cases h with
  |l hp hl hs hr=>exact⟨hl,hs,hr⟩
 refine⟨hl,fun k hk=>⟨es[k],List.getElem?_eq_getElem (by omega),?_⟩⟩
 have h1:=hs es[k] (List.getElem_mem _)
 have h2:=hr k hk (by omega) 0 (by show 0<[C.i _].length;simp) (by omega)
 match hq:es[k],h1 with
 | [x], _ =>
  simp only[hq]at h2
  have:FR (.i xs[k]) x:=h2
  cases this
  simp[List.getD,hk]
theorem res_ints {xs:List Int} {v:V} {c:Value} (h1:CR ρ H (.l .i xs) v) (h2:VR J w ι v c):At w J (ints xs) c:=by
 obtain⟨es,rfl,hf⟩:∃es,v= .imm 1 es/\FR (.l .i xs) (.imm 1 es):=by
  cases h1 with
  | fl h1 => cases h1 with
   |l hp hl hs hr=>exact⟨_,rfl,.l hp hl hs hr⟩
 obtain⟨hl,he⟩:=ints_of hf
 cases h2 with
 | imm0 hc =>
  obtain rfl:=List.eq_nil_of_length_eq_zero hl.symm
  exact ints_mk (Nat.zero_le _) hc fun h=>by simp at h
 | @imm _ _ b off cap _ f hs hc hm hI hcell hr=>
  rw[hl]
  refine ints_mk (by omega) hm fun _=>⟨b,off,rfl,hI,fun k hk=> ?_⟩
  obtain⟨e,e1,e2⟩:=he k hk
  obtain⟨hk',e3⟩:=List.getElem?_eq_some_iff.1 e1
  have hlen:0<es[k].length:=by rw[e3,e2];simp
  have q1:=hcell k 0 hk' (by omega)
  have q2:=hr k hk' 0 hlen
  simp only[e3,e2,List.getElem_cons_zero]at q2
  generalize f k 0=z at q1 q2
  cases q2 with
  |lit hk2=>exact⟨by simpa using q1,hk2⟩
theorem res_own {B id n:Nat} {xs:List Int} {v:V} {c:Value} (hH:H[id]? =some (.row .i n xs)) (hp:HpR ρ H h) (hh:Abs.HR ι J w h) (hm:∀(id:Nat) (o:Abs.Ob) (inf:Inf),h[id]? =some (some o)->ι[id]? =some inf->B<=inf.block)
  (h1:CR ρ H (.o id) v) (h2:VR J w ι v c):∃S,(∀b,S b->B<=b)/\Soft S w/\At w S (ints xs) c:=by
 have nil:xs=[]->c= .slice none 0 0->∃S,(∀b,S b->B<=b)/\Soft S w/\At w S (ints xs) c:=fun e1 e2=>by
  subst e1 e2
  exact⟨fun _=>False,fun _ h=>h.elim,fun _ h=>h.elim,ints_mk (Nat.zero_le _) (by omega) fun h=>by simp at h⟩
 cases h1 with
 |fl h1=>cases h1
 |oG h=>rw[hH]at h;cases h
 |oR q1 q2=>rw[hH]at q2;cases q2
 | oN q1 q2 =>
  rcases hp.row id n .i xs hH with⟨a,es,k1,_⟩|⟨k1,k2,_⟩
  ·rw[q1]at k1;cases k1
  ·cases h2 with
   |lit _=>exact nil k2 rfl
 | @o _ a n' T' xs' q1 q2 =>
  rw[hH]at q2
  cases q2
  rcases hp.row id n .i xs hH with⟨a',es,k1,k2,k3⟩|⟨k1,_⟩
  ·rw [q1] at k1
   cases k1
   obtain⟨hl,he⟩:=ints_of k3
   have main:∀(inf:Inf) (len cap:Nat),ι[a]? =some inf->len=xs.length->len<=cap->cap<=9223372036854775807->∃S,(∀b,S b->B<=b)/\Soft S w/\At w S (ints xs) (.slice (some ⟨inf.block,inf.base+0*inf.size,none⟩) len cap):=fun inf len cap hi hlen g1 g2=>by
    have ho:=hh.obj a _ inf k2 hi
    obtain⟨cur,t,e1,e2,e3,e4,e5,e6,e7⟩:=ho
    have hlt:inf.block<w.heap.size:=by
     rcases Nat.lt_or_ge inf.block w.heap.size with h|h
     ·exact h
     ·rw[Array.getElem?_eq_none h]at e1;cases e1
    refine⟨fun b=>b=inf.block,fun b hb=>by subst hb;exact hm a _ inf k2 hi,fun b hb=>⟨by subst hb;exact hlt,fun o=>by subst hb;simp[World.frozen?,e1]⟩,?_⟩
    subst hlen
    refine ints_mk g1 g2 fun _=>⟨inf.block,inf.base+0*inf.size,rfl,rfl,fun k hk=> ?_⟩
    obtain⟨e,q3,q4⟩:=he k hk
    obtain⟨hk',q5⟩:=List.getElem?_eq_some_iff.1 q3
    have hlen:0<es[k].length:=by rw[q5,q4];simp
    obtain⟨u,u1,u2⟩:=e7 k hk' 0 hlen
    simp only[q5,q4,List.getElem_cons_zero]at u2
    cases u2 with
    | lit hk2 =>
     refine⟨?_,hk2⟩
     have:szT Ty.i=1:=rfl
     simp only[World.cell?,e1]
     rw[<-u1]
     simp[this]
   obtain⟨m,hlen⟩:∃m,m=xs.length:=⟨_,rfl⟩
   have h3:VR J w ι (.own a 0 (List.length (α:=Int) xs)) c:=h2
   rw[<-hlen]at h3
   cases h3 with
   | @own _ _ _ _ cap inf hi hl' hcap hmx=>exact main inf m cap hi hlen hl' hmx
   | own0 hi hcap =>
    obtain rfl:=List.eq_nil_of_length_eq_zero hlen.symm
    exact⟨fun _=>False,fun _ h=>h.elim,fun _ h=>h.elim,ints_mk (Nat.zero_le _) (by omega) fun h=>by simp at h⟩
  ·rw[q1]at k1;cases k1
end
end Go.Proofs.Ytagnfckihdlhpaa.Den

/-
  Texts that the claim rests on, merged: PD7, Bent3.
-/
import Derived.Test.YtfdkldmkbibknaaGreatZRowTx12
import Derived.Test.YtfdkldmkbibknaaGreatZRowTx29
import Derived.Test.YtfdkldmkbibknaaGreatZRowTx30

namespace Go.Proofs.YtfdkldmkbibknaaGreat.Den
open Go.RowKit
set_option maxRecDepth 100000
set_option linter.unusedVariables false
namespace z3k
structure Gs where
 z3o:z3o.Q
 z34:z34.Q
 z3d:z3d.Q
noncomputable def main {R:Type} (G:Gs) (n:Nat) (c:Cur) (K:Sg->Cur->Option R):Option R:=
 (G.z3o c).bind λr=>
 (G.z34 r.2 (List.length r.1.ops:Int)).bind λr2=>
 (G.z34 r2.2 24).bind λr3=>
 bif decide (r3.1=0)then
  (
  (G.z3d r3.2 [ByteArray.empty,(ByteArray.mk #[97]),(ByteArray.mk #[102]),(ByteArray.mk #[120,32,121])]).bind λr5=>
  (ix r.1.ops r2.1).bind λe4=>
  K (Sg.mk r.1.sorts (List.set r.1.ops (Int.toNat r2.1) (Opr.mk r5.1 e4.decls e4.assoc e4.comm e4.unit))) r5.2
  )
 else
  bif decide (r3.1=1)then
   (
   (ix r.1.ops r2.1).bind λe10=>
   (ix r.1.ops r2.1).bind λe12=>
   K (Sg.mk r.1.sorts (List.set r.1.ops (Int.toNat r2.1) (Opr.mk e12.name e12.decls (!e10.assoc) e12.comm e12.unit))) r3.2
   )
  else
   bif decide (r3.1=2)then
    (
    (G.z34 r3.2 10).bind λr7=>
    (ix r.1.ops r2.1).bind λe16=>
    K (Sg.mk r.1.sorts (List.set r.1.ops (Int.toNat r2.1) (Opr.mk e16.name e16.decls e16.assoc e16.comm (wr (r7.1-1))))) r7.2
    )
   else
    bif decide (r3.1=3)then
     (none)
    else
     bif decide (r3.1=4)then
      (
      (ix r.1.ops r2.1).bind λe25=>
      K (Sg.mk r.1.sorts (List.set r.1.ops (Int.toNat r2.1) (Opr.mk e25.name [] e25.assoc e25.comm e25.unit))) r3.2
      )
     else
      bif decide (r3.1=5)then
       (
       (ix r.1.ops r2.1).bind λe31=>
       (ix r.1.ops r2.1).bind λe33=>
       K (Sg.mk r.1.sorts (List.set r.1.ops (Int.toNat r2.1) (Opr.mk e33.name e33.decls e33.assoc (!e31.comm) e33.unit))) r3.2
       )
      else
       bif decide (r3.1=6)then
        (
        (lim (r.1.sorts.subs++[(Sb.mk 2 1)])).bind λzs=>
        K (Sg.mk (So.mk r.1.sorts.names zs) r.1.ops) r3.2
        )
       else
        K r.1 r3.2
theorem ok {G:Gs} (hG:AE [z3o.ent G.z3o,z34.ent G.z34,z3d.ent G.z3d]) {g:Q} (hg:∀c r,g c=some r->∃n,main (R:=AT×List Ob) G n c (λr0 r1=>some (.agg [.l .s r0.sorts.names,.l (.n 5) r0.sorts.subs,.l (.n 8) r0.ops],[.box [.l .u (Cur.b r1),.i (Cur.i r1),.i (Cur.h r1)]]))=some (.agg [.l .s r.1.sorts.names,.l (.n 5) r.1.sorts.subs,.l (.n 8) r.1.ops],[.box [.l .u (Cur.b r.2),.i (Cur.i r.2),.i (Cur.h r.2)]])):EO (ent g):=λR xs H K r hc=>by
 simp only[ent]at hc;split at hc
 ·exact okL hc λr j=>let⟨_,j⟩:=hg _ _ j;fF hG ⟨93,1,[],[],[2],[(5,⟨[([3,4,5,0,1,2,6,7,8],[5,8],[6,7])],[5,8],[],[1,2,3,5],[]⟩),(7,⟨[([0,1,2,3,4,5,6,7,8,9,10,11,12],[12],[6,7,8,10,11])],[12],[],[0,1,2,3,5],[]⟩),(9,⟨[([3,4,0,1,2,5,6,7,8],[4,8],[6,7])],[4,8],[],[1,2,3,5],[]⟩),(11,⟨[([6,7,0,1,2,3,4,5,8,9,10,11],[7,11],[])],[7,11],[],[0,1,2,3,4,5],[]⟩),(15,⟨[([0,1,2,3,4,5,6,7,8,9,10,11,12],[12],[6,7,8,10,11])],[12],[],[0,1,2,3,5],[]⟩)],[]⟩ nP Tryz.func77 j
 ·cases hc
end z3k
open Abs (V AV VR Env ag ar aw ao)
def sl :Code->Code
 | .seq a _=>a
 |c=>c
def sr :Code->Code
 | .seq _ b=>b
 |c=>c
def ct :Code->Code
 | .cond _ a _=>a
 |c=>c
def ce :Code->Code
 | .cond _ _ b=>b
 |c=>c
def cb :Code->Code
 | .block _ a=>a
 |c=>c
def co :Code->Array Oper
 | .region _ o _=>o
 |_=> #[]
noncomputable abbrev bB:Code:=aj Tryz.f77
noncomputable abbrev bT:Code:=sr (sr (sr bB))
noncomputable abbrev b4:Code:=cb (sr (sl bT))
noncomputable abbrev b6:Code:=ce (sr b4)
noncomputable abbrev b8:Code:=ce (sr b6)
noncomputable abbrev b10:Code:=ce (sr b8)
noncomputable abbrev ops11:Array Oper:=co (ct (sr b10))
noncomputable abbrev bPre:List Code:=[sl bB,sl (sr bB),sl (sr (sr bB))]
theorem F8 :bB=jh bPre (.seq (jh [sl (sl bT)] (.block 0 (.seq (sl b4) (.cond (.tmp 14) (ct (sr b4)) (.seq (sl b6) (.cond (.tmp 24) (ct (sr b6)) (.seq (sl b8) (.cond (.tmp 38) (ct (sr b8)) (.seq (sl b10) (.cond (.tmp 48) (.region 11 ops11 true) (ce (sr b10)))))))))))) (.seq (sl (sr bT)) .ret)):=by kernel_rfl
abbrev an3 :Ann:=⟨93,1,[],[],[2],[],[]⟩
section
variable {gD : z3n.Q} {gB : z34.Q}
noncomputable abbrev rM (gD:z3n.Q) (gB:z34.Q):Orc:=ca [z3n.ent gD,z34.ent gB]
abbrev bx (c:Cur):Ob:=.box [.l .u c.b,.i c.i,.i c.h]
abbrev sc (s:Sg):List C:=[.l .s s.sorts.names,.l (.n 5) s.sorts.subs,.l (.n 8) s.ops]
abbrev zc :List C:=[.nil .s,.nil (.n 5),.nil (.n 8)]
abbrev V3 :Type:=Option AT×Option AT×Option AT×Option AT×List Ob
def K3 :Kt V3:=λe st=>match e with
 | .normal=>some (st.L.lookup 0,st.L.lookup 2,st.L.lookup 3,st.L.lookup 4,st.H)
 |_=>none
def K4 :Kt (Option AT×V3):=λe st=>match e with
 | .normal=>some (st.L.lookup 13,st.L.lookup 0,st.L.lookup 2,st.L.lookup 3,st.L.lookup 4,st.H)
 |_=>none
abbrev D3 (k:Int):List (Nat×AT):=[(0,.one (.p 0 0)),(2,.one (.p 1 0)),(3,.one (.p 2 0)),(4,.one (.i k))]
theorem AC (c:Cur):den tb (rM gD gB) nP an3 (jh bPre .skip) ⟨eU 0 [.one (.p 0 0)],[bx c]⟩ K3=
  Option.bind (gD c) λr=>Option.bind (gB r.2 (List.length r.1.ops:Int)) λr2=>some (some (.one (.p 0 0)),some (.one (.p 1 0)),some (.one (.p 2 0)),some (.one (.i r2.1)),[bx r2.2,.box zc,.box (sc r.1)]):=by kernel_rfl
theorem FF (c:Cur) (s:Sg) (k:Int):den tb (rM gD gB) nP an3 (jh [sl (sl bT)] .skip) ⟨D3 k,[bx c,.box zc,.box (sc s)]⟩ K4=
  Option.bind (gB c 24) λr=>some (some (.one (.i r.1)),some (.one (.p 0 0)),some (.one (.p 1 0)),some (.one (.p 2 0)),some (.one (.i k)),[bx r.2,.box zc,.box (sc s)]):=by kernel_rfl
abbrev D4 (k:Int):List (Nat×AT):=(13,.one (.i 3))::D3 k
abbrev H3 (c:Cur) (s:Sg):List Ob:=[bx c,.box zc,.box (sc s)]
abbrev tst (i:Nat) (q:Bool) (D:List (Nat×AT)):List (Nat×AT):=(i,.one (.b q))::(i+1,.one (.b q))::D
theorem t4 (c:Cur) (s:Sg) (k:Int):den tb (rM gD gB) nP an3 (sl b4) ⟨D4 k,H3 c s⟩ (λe st=>some (e,st))=some (.normal,⟨tst 14 false (D4 k),H3 c s⟩):=by kernel_rfl
theorem t6 (c:Cur) (s:Sg) (k:Int):den tb (rM gD gB) nP an3 (sl b6) ⟨D4 k,H3 c s⟩ (λe st=>some (e,st))=some (.normal,⟨tst 24 false (D4 k),H3 c s⟩):=by kernel_rfl
theorem t8 (c:Cur) (s:Sg) (k:Int):den tb (rM gD gB) nP an3 (sl b8) ⟨D4 k,H3 c s⟩ (λe st=>some (e,st))=some (.normal,⟨tst 38 false (D4 k),H3 c s⟩):=by kernel_rfl
theorem t10 (c:Cur) (s:Sg) (k:Int):den tb (rM gD gB) nP an3 (sl b10) ⟨D4 k,H3 c s⟩ (λe st=>some (e,st))=some (.normal,⟨tst 48 true (D4 k),H3 c s⟩):=by kernel_rfl
abbrev V11 :Type:=Option AT×Option AT×Option AT×Option AT×List Ob
def K11 :List (Nat×AT)->List Ob->Option V11:=λL H=>some (L.lookup 60,L.lookup 58,L.lookup 2,L.lookup 3,H)
theorem Dh (c:Cur) (s:Sg) (k:Int):cG tb (rM gD gB) 93 [] ops11 [] [6,7,0,1,2,3,4,5,8,9,10,11] [7,11] [6,0,1,2,3,4,5,8,9,10] [] [6,7,0,1,2,3,4,5,8,9,10] (D3 k) [bx c,.box zc,.box (sc s)] [bx c,.box zc,.box (sc s)] K11=
  Option.bind (gB c 5) λr=>Option.bind (ix s.ops k) λo=>Option.bind (ix o.decls 0) λd=>some (some (.one (.q (.n 7) d 1)),some (.one (.i (wr (r.1-1)))),some (.one (.p 1 0)),some (.one (.p 2 0)),[bx r.2,.box zc,.box (sc s)]):=by kernel_rfl
theorem EU :Abs.lC ops11 [6,7,0,1,2,3,4,5,8,9,10,11] [7,11] [6,0,1,2,3,4,5,8,9,10]=true:=by kernel_rfl
theorem bent_end {c:Cur} {s:Sg} {SS:AT×List Ob->Prop}:den tb (rM gD gB) nP an3 (.seq (sl (sr bT)) .ret) ⟨[(2,.one (.p 1 0)),(3,.one (.p 2 0))],H3 c s⟩ (λe st=>Option.bind (j7 (qO tb an3 Tryz.f77.results.toList) e st) λq=>ie (SS q))=ie (SS (.agg (sc s),[bx c])):=by kernel_rfl
noncomputable abbrev fin3:St->Option (AT×List Ob):=qO tb an3 Tryz.f77.results.toList
theorem Ak [Zb] (hG:AE [z3n.ent gD,z34.ent gB]) {E:Abs.Cx} {ρ ρ2:Rho} {H:List Ob} {h0 h2:ag} {L:Env} {c:Cur} {s:Sg} {SS:AT×List Ob->Prop} (hF:(In.mk h0 ρ H).ok an3.refs) (hE:E.n=an3.nt) (hS:SS (.agg (sc s),[bx c])) (hs:SR ⟨h0,ρ,H⟩ ρ2 ⟨[(2,.one (.p 1 0)),(3,.one (.p 2 0))],H3 c s⟩ L h2):
  aw Tryz.prog (.seq (sl (sr bT)) .ret) E (Abs.zd Tryz.prog Tryz.f77 h0 (λr h'=>∃q ρ',SS q/\ATR ρ' q.2 q.1 r/\HpR ρ' q.2 h'/\Fr ⟨h0,ρ,H⟩ ρ' q.2 h')) L h2:=by
 have h1:=fg (F:=⟨h0,ρ,H⟩) mixed de (cB hG) hE hF (c:=.seq (sl (sr bT)) .ret) (pc:=nP) (apl [] trivial) (bent_end.trans (iP hS)) hs;refine Abs.fw (λe L h kk=> ?_) h1;exact sJ (fn:=Tryz.f77) (fin:=fin3) de hF (Array.toArray_toList).symm (.inl rfl) (λe st kk=>let⟨q,k1,k2⟩:=bind_some kk;⟨q,k1,ma k2⟩) kk
theorem jL {T:Ty} {xs:List (I T)} {cs ds:List C} (h:iD (.l T xs::cs) ds):∃ys ds',ds= .l T ys::ds'/\ys.length=xs.length/\iD cs ds':=by
 cases h with|cons h hs=>cases h with
  |r=>exact⟨_,_,rfl,rfl,hs⟩
  |l e=>exact⟨_,_,rfl,e.symm,hs⟩
theorem jI {x:Int} {cs ds:List C} (h:iD (.i x::cs) ds):∃ds',ds= .i x::ds'/\iD cs ds':=by
 cases h with|cons h hs=>cases h;exact⟨_,rfl,hs⟩
theorem jZ {T:Ty} {cs ds:List C} (h:iD (.nil T::cs) ds):∃ds',ds= .nil T::ds'/\iD cs ds':=by
 cases h with|cons h hs=>cases h;exact⟨_,rfl,hs⟩
theorem jE {ds:List C} (h:iD [] ds):ds=[]:=by cases h;rfl
theorem Fu {x:Int} {v:V} (h:FR (.k .u8 x) v):∃u,v= .lit u:=by cases h;exact⟨_,rfl⟩
theorem BV {ρ:Rho} {H:List Ob} {c:Cur} {vs:List V} (h:CRs ρ H [.l .u c.b,.i c.i,.i c.h] vs):∀v∈vs,Abs.thin v:=by
 match vs,h with
 | [v0, v1, v2], h =>
  have q0:CR ρ H (.l .u c.b) v0:=h.2 0 (by simp) (by simp);have q1:CR ρ H (.i c.i) v1:=h.2 1 (by simp) (by simp);have q2:CR ρ H (.i c.h) v2:=h.2 2 (by simp) (by simp);intro v hv;simp only[List.mem_cons,List.not_mem_nil,or_false]at hv;rcases hv with rfl|rfl|rfl
  ·cases q0 with|fl q=>cases q with
    | l hp hl hs hr =>
     refine .inr ⟨_,rfl,λe he x hx=> ?_⟩;obtain⟨m,hm,rfl⟩:=List.getElem_of_mem he;obtain⟨i,hi,rfl⟩:=List.getElem_of_mem hx;have hi1:i=0:=by have:=hs _ he;have e1:szT .u=1:=rfl;omega
     subst hi1;exact Fu (hr m (by omega) hm 0 Nat.zero_lt_one hi)
  ·cases q1 with|fl q=>cases q;exact .inl ⟨_,rfl⟩
  ·cases q2 with|fl q=>cases q;exact .inl ⟨_,rfl⟩
 |[],h=>simp
 |[_],h=>have:=h.1;simp at this
 |[_,_],h=>have:=h.1;simp at this
 |_::_::_::_::_,h=>have:=h.1;simp at this
abbrev D0' :List (Nat×AT):=[(2,.one (.p 1 0)),(3,.one (.p 2 0))]
theorem tL {D:List (Nat×AT)}:Draw.Sub [] D:=λ_ _ h=>by simp at h
theorem Gt (hG:AE [z3n.ent gD,z34.ent gB]) {c c1 c2 c3 c4:Cur} {s:Sg} {k y:Int} {o:Opr} {d:Dc} (e1:gD c=some (s,c1)) (e2:gB c1 (List.length s.ops:Int)=some (k,c2)) (e3:gB c2 24=some (3,c3)) (e4:gB c3 5=some (y,c4)) (eo:ix s.ops k=some o) (ed:ix o.decls 0=some d)
  {S:Sg×Cur->Prop} (hS:∀(s':Sg) (c':Cur),c'.b.length=c4.b.length->c'.i=c4.i->S (s',c')):ue Tryz.prog 77 [.one (.p 0 0)] [bx c] (λq=>∃a,S a/\q=(.agg (sc a.1),[bx a.2])):=by
 intro ρ h avs hp ha;obtain⟨a,vs,r1,r2,r3⟩:=hp.box 0 _ rfl;have hav:avs=[.one (.ptr a 0 0)]:=by
  obtain⟨l,g⟩:=ha
  match avs,l with
  | [x], _ =>
   have:=g 0 (by simp) (by simp);simp only[List.getElem_cons_zero]at this
   cases this with|one q=>cases q with
    |fl q=>cases q
    |p q=>rw[r1]at q;cases q;rfl
 subst hav;have hF1:∀(i:Nat),i<(Abs.only h a).length->(∀(id:Nat),ρ[id]? =some (some i)->¬live [bx c] id)->(Abs.only h a)[i]? =some none:=λi hi hn=>by
  have hne:i≠a:=λe=>hn 0 (e▸r1) ⟨_,rfl,rfl⟩;unfold Abs.only at hi ⊢;rw[List.length_mapIdx]at hi;rw[List.getElem?_mapIdx,gE hi];simp[hne]
 refine(Abs.E5 (R:=λr h1=>∃q ρ',(∃a,S a/\q=((.agg (sc a.1),[bx a.2]):AT×List Ob))/\ATR ρ' q.2 q.1 r/\HpR ρ' q.2 h1/\Fr ⟨Abs.only h a,ρ,[bx c]⟩ ρ' q.2 h1) Tryz.func77 (show Tryz.f77.body=some bB by kernel_rfl) (by kernel_rfl) (Nat.le_of_ble_eq_true (by kernel_rfl)) r2 (BV r3) ?_).mono ?_
 ·intro z E hE hZ hpass;rw[F8   ];have hF:(In.mk (Abs.only h a) ρ [bx c]).ok an3.refs:=⟨hp.len,rfl⟩;have hE':E.n=an3.nt:=hE.trans (by kernel_rfl);have hs0:SR ⟨Abs.only h a,ρ,[bx c]⟩ ρ ⟨eU    0 [.one (.p 0 0)],[bx c]⟩ (Abs.dq     0 [.one (.ptr a 0 0)]) (Abs.only h a):=⟨jb        ha,zy       hp r1,Fr.refl _ _ _,XR.none_ λid y hy=>by
   cases id with
   |zero=>cases hy;rfl
   |succ id=>simp at hy⟩
  refine tc mixed de (cB hG) hE' hF rfl ?_ (apl [] trivial) ((AC c).trans (by rw[e1,bS,e2,bS])) hs0;rintro e L h' ⟨ρ',⟨D,H⟩,k1,k2⟩;cases e with
  | normal =>
   simp only[K3,Option.some.injEq,Prod.mk.injEq]at k1;obtain⟨q0,q2,q3,q4,rfl⟩:=k1;have k3:=k2.sub (Draw.sub_cons q0 (Draw.sub_cons q2 (Draw.sub_cons q3 (Draw.sub_cons q4 tL))));refine Abs.qL (tc mixed de (cB hG) hE' hF rfl ?_ (apl [] trivial) ((FF c2 s k).trans (by rw[e3,bS])) k3);rintro e L h' ⟨ρ',⟨D,H⟩,k1,k2⟩;cases e with
   | normal =>
    simp only[K4,Option.some.injEq,Prod.mk.injEq]at k1;obtain⟨q13,q0,q2,q3,q4,rfl⟩:=k1;have k4:SR ⟨Abs.only h a,ρ,[bx c]⟩ ρ' ⟨D4 k,H3 c3 s⟩ L h':=k2.sub (Draw.sub_cons q13 (Draw.sub_cons q0 (Draw.sub_cons q2 (Draw.sub_cons q3 (Draw.sub_cons q4 tL)))));refine Abs.re (ms mixed de (cB hG) hE' hF (apl [] trivial) (t4 c3 s k) rfl k4 λρ' L h' k5=> ?_);refine ms mixed de (cB hG) hE' hF (apl [] trivial) (t6 c3 s k) rfl (k5.sub (Draw.sub_cons rfl (Draw.sub_cons rfl (Draw.sub_cons rfl (Draw.sub_cons rfl (Draw.sub_cons rfl tL)))))) λρ' L h' k6=> ?_;refine ms mixed de (cB hG) hE' hF (apl [] trivial) (t8 c3 s k) rfl (k6.sub (Draw.sub_cons rfl (Draw.sub_cons rfl (Draw.sub_cons rfl (Draw.sub_cons rfl (Draw.sub_cons rfl tL)))))) λρ' L h' k7=> ?_;refine ms mixed de (cB hG) hE' hF (apl [] trivial) (t10 c3 s k) rfl (k7.sub (Draw.sub_cons rfl (Draw.sub_cons rfl (Draw.sub_cons rfl (Draw.sub_cons rfl (Draw.sub_cons rfl tL)))))) λρ' L h' k8=> ?_;have k9:SR ⟨Abs.only h a,ρ,[bx c]⟩ ρ' ⟨D3 k,H3 c3 s⟩ L h':=k8.sub (Draw.sub_cons rfl (Draw.sub_cons rfl (Draw.sub_cons rfl (Draw.sub_cons rfl tL))));refine⟨λι J act w rel=> ?_⟩;obtain⟨Df,Hl,hl,Df',d1,d2,d3,_⟩:=fQ (F:=⟨Abs.only h a,ρ,[bx c]⟩) (E:=E) de (cB hG) hE' (hs:=[]) ((Dh c3 s k).trans (by rw[e4,bS,eo,bS,ed,bS])) rfl (λh hm=>by simp at hm;subst hm;exact .refl _);simp only[K11,Option.some.injEq,Prod.mk.injEq]at d3;obtain⟨q60,q58,q2',q3',rfl⟩:=d3;have hptr:∀t v,D0'.lookup t=some v->∃id k,v= .one (.p id k):=λt v hv=>by
     simp only[List.lookup_cons]at hv;split at hv
     ·cases hv;exact⟨_,_,rfl⟩
     ·split at hv
      ·cases hv;exact⟨_,_,rfl⟩
      ·simp at hv
    have s0:Draw.Sub D0' (D3 k):=Draw.sub_cons rfl (Draw.sub_cons rfl tL);have hok:okD (D3 k) D0':=λt v hv u hu=>by
     rw[s0 t v hv]at hu;cases hu;rfl
    let S':=psys (E:=E) (F:=⟨Abs.only h a,ρ,[bx c]⟩) (ops:=ops11) (D0:=D0') (cs0:=[.l .u c4.b,.i c4.i,.i c4.h]) (cs1:=zc) (cs2:=sc s) (tp:=60) (tv:=58) de hZ hpass r1 hF1 ⟨rfl,rfl,rfl⟩ hptr
    obtain⟨ty,pos,af,ho⟩:∃ty pos af,ops11[11]? =some ⟨none,.store 3 (.tmp 60) (.tmp 58),ty,pos,af,none⟩:=⟨_,_,_,rfl⟩;have hdst:(ops11.toList.all λo=>match o.dst with|some t=>(D0'.lookup t).isNone|none=>true)=true:=by kernel_rfl
    have run:=E2 (ED (S:=S') (λi o D v H H' _ hi hot=>⟨λt ht=>by
     have:=aT.1 hdst o (Array.mem_toList_iff.2 (Array.mem_of_getElem? hi));rw[ht]at this
     simpa using this,hot⟩) d1 (by decide)) (.chain (h':=none) (v:=.tup []) ho rfl (by
      have e60:Df'.lookup 60=some (.one (.q (.n 7) d 1)):=(d2 60).symm.trans q60;have e58:Df'.lookup 58=some (.one (.i (wr (y-1)))):=(d2 58).symm.trans q58;refine⟨⟨3,ty,pos,af,_,.n 7,d,1,wr (y-1),rfl,rfl,rfl,?_,Nat.lt_succ_self 1,⟨d.result,rfl⟩,?_⟩,rfl⟩
      ·show (Draw.sel Df' [60,58]).lookup 60=_;simp only[Draw.sel,e60,e58];rfl
      ·show (Draw.sel Df' [60,58]).lookup 58=_;simp only[Draw.sel,e60,e58];rfl) (.nil _ _))
    refine Draw.draw (S:=S') mixed _ _ _ EU run ?_ (a:=act) (w:=w) ⟨hok,Le.nil_ _,ρ',L,h',ι,J,⟨λt v hv=>k9.slots t v ?_,k9.heap,k9.fr⟩,rel⟩
    ·rintro act w ⟨ρ2,ds0,ds1,ds2,L2,h2,ι2,I2,l0,l1,l2,hsr,rel2⟩;obtain⟨b',_,rfl,hb,m0⟩:=jL l0;obtain⟨_,rfl,m1⟩:=jI m0;obtain⟨_,rfl,m2⟩:=jI m1;cases jE m2;obtain⟨_,rfl,m3⟩:=jZ l1;obtain⟨_,rfl,m4⟩:=jZ m3;obtain⟨_,rfl,m5⟩:=jZ m4;cases jE m5;obtain⟨n',_,rfl,_,m6⟩:=jL l2;obtain⟨u',_,rfl,_,m7⟩:=jL m6;obtain⟨o',_,rfl,_,m8⟩:=jL m7;cases jE m8;refine⟨L2,h2,ι2,I2,?_,rel2⟩;exact Ak hG hF hE' (c:=Cur.mk b' c4.i c4.h) (s:=Sg.mk (So.mk n' u') o') ⟨(Sg.mk (So.mk n' u') o',Cur.mk b' c4.i c4.h),hS _ _ hb rfl,rfl⟩ hsr
    ·rw[dv        ]at hv;cases hD:(D3 k).lookup t with
     |some u=>rw[hD]at hv;exact hv
     | none =>
      rw[hD]at hv;rw[s0 t v hv]at hD;cases hD
   |_=>cases k1
  |_=>cases k1
 ·rintro r h' ⟨h1,⟨q,ρ',⟨x,hx,rfl⟩,g1,g2,g3⟩,hl,rfl⟩;exact⟨_,ρ',⟨x,hx,rfl⟩,g1,yw g2 (g3.rho 0 _ r1),Cz g3 hl r1 ⟨_,rfl,rfl⟩⟩
end
end Go.Proofs.YtfdkldmkbibknaaGreat.Den

/-
  Texts that the claim rests on, merged: Poke, PokeR, BentA.
-/
import Derived.Test.YtfdkldmkbibknaaGreatZRowTx5
import Derived.Test.YtfdkldmkbibknaaGreatZRowTx9
import Derived.Test.YtfdkldmkbibknaaGreatZRowTx12

namespace Go.Proofs.YtfdkldmkbibknaaGreat.Den
open Go.RowKit
open Abs (V AV VR)
inductive Lk :C->C->Prop
 |r (c:C):Lk c c
 |i {x y:Int}:Lk (.i x) (.i y)
 |k {d:IntKind} {x y:Int}:Lk (.k d x) (.k d y)
 |l {T:Ty} {xs ys:List (I T)} (h:xs.length=ys.length):Lk (.l T xs) (.l T ys)
inductive Lk0 :C->C->Prop
 |r (c:C):Lk0 c c
 |l {T:Ty} {xs ys:List (I T)} (h:xs.length=ys.length):Lk0 (.l T xs) (.l T ys)
theorem Lk0.lk {c d:C} (h:Lk0 c d):Lk c d:=by
 cases h with
 |r=>exact .r _
 |l h=>exact .l h
inductive LkL :List C->List C->Prop
 |nil:LkL [] []
 |cons {c d:C} {cs ds:List C} (h:Lk c d) (hs:LkL cs ds):LkL (c::cs) (d::ds)
theorem iI {x:Int} {cs ds:List C} (h:LkL (.i x::cs) ds):∃y ds',ds= .i y::ds'/\LkL cs ds':=by
 cases h with|cons h hs=>cases h<;>exact⟨_,_,rfl,hs⟩
theorem iK {d:IntKind} {x:Int} {cs ds:List C} (h:LkL (.k d x::cs) ds):∃y ds',ds= .k d y::ds'/\LkL cs ds':=by
 cases h with|cons h hs=>cases h<;>exact⟨_,_,rfl,hs⟩
theorem iB {x:Bool} {cs ds:List C} (h:LkL (.b x::cs) ds):∃y ds',ds= .b y::ds'/\LkL cs ds':=by
 cases h with|cons h hs=>cases h<;>exact⟨_,_,rfl,hs⟩
theorem iS {x:ByteArray} {cs ds:List C} (h:LkL (.s x::cs) ds):∃y ds',ds= .s y::ds'/\LkL cs ds':=by
 cases h with|cons h hs=>cases h<;>exact⟨_,_,rfl,hs⟩
theorem iL {T:Ty} {xs:List (I T)} {cs ds:List C} (h:LkL (.l T xs::cs) ds):∃ys ds',ds= .l T ys::ds'/\LkL cs ds':=by
 cases h with|cons h hs=>cases h<;>exact⟨_,_,rfl,hs⟩
theorem iN {ds:List C} (h:LkL [] ds):ds=[]:=by cases h;rfl
theorem yN :∀{a b:List C},a.length=b.length->(∀(j:Nat) (h1:j<a.length) (h2:j<b.length),Lk a[j] b[j])->LkL a b
 |[],[],_,_=>.nil
 |[],_::_,h,_=>by simp at h
 |_::_,[],h,_=>by simp at h
 |_::_,_::_,h,k=>.cons (k 0 (by simp) (by simp)) (yN (by simpa using h) λj h1 h2=>k (j+1) (by simpa using h1) (by simpa using h2))
theorem Gi :∀(T:Ty) (x:I T) (ds:List C),LkL (ah T x) ds->∃y:I T,ah T y=ds
 | .i,x,ds,h=>by obtain⟨a,_,rfl,h1⟩:=iI h;cases iN h1;exact⟨a,rfl⟩
 | .b,x,ds,h=>by obtain⟨a,_,rfl,h1⟩:=iB h;cases iN h1;exact⟨a,rfl⟩
 | .s,x,ds,h=>by obtain⟨a,_,rfl,h1⟩:=iS h;cases iN h1;exact⟨a,rfl⟩
 | .u,x,ds,h=>by obtain⟨a,_,rfl,h1⟩:=iK h;cases iN h1;exact⟨a,rfl⟩
 | .sl t,x,ds,h=>by obtain⟨a,_,rfl,h1⟩:=iL h;cases iN h1;exact⟨a,rfl⟩
 | .n 0,x,ds,h=>by
  obtain⟨a0,_,rfl,h1⟩:=iL h;obtain⟨a1,_,rfl,h2⟩:=iI h1;cases iN h2;exact⟨Lasso.mk a0 a1,rfl⟩
 | .n 1,x,ds,h=>by
  obtain⟨a0,_,rfl,h1⟩:=iI h;obtain⟨a1,_,rfl,h2⟩:=iS h1;obtain⟨a2,_,rfl,h3⟩:=iI h2;obtain⟨a3,_,rfl,h4⟩:=iL h3;cases iN h4;exact⟨Tm.mk a0 a1 a2 a3,rfl⟩
 | .n 2,x,ds,h=>by
  obtain⟨a0,_,rfl,h1⟩:=iI h;obtain⟨a1,_,rfl,h2⟩:=iI h1;obtain⟨a2,_,rfl,h3⟩:=iL h2;cases iN h3;exact⟨Fm.mk a0 a1 a2,rfl⟩
 | .n 3,x,ds,h=>by
  obtain⟨a0,_,rfl,h1⟩:=iL h;obtain⟨a1,_,rfl,h2⟩:=iL h1;obtain⟨a2,_,rfl,h3⟩:=iB h2;cases iN h3;exact⟨Gr.mk a0 a1 a2,rfl⟩
 | .n 4,x,ds,h=>by
  obtain⟨a0,_,rfl,h1⟩:=iI h;obtain⟨a1,_,rfl,h2⟩:=iI h1;cases iN h2;exact⟨Nd.mk a0 a1,rfl⟩
 | .n 5,x,ds,h=>by
  obtain⟨a0,_,rfl,h1⟩:=iI h;obtain⟨a1,_,rfl,h2⟩:=iI h1;cases iN h2;exact⟨Sb.mk a0 a1,rfl⟩
 | .n 6,x,ds,h=>by
  obtain⟨a0,_,rfl,h1⟩:=iL h;obtain⟨a1,_,rfl,h2⟩:=iL h1;cases iN h2;exact⟨So.mk a0 a1,rfl⟩
 | .n 7,x,ds,h=>by
  obtain⟨a0,_,rfl,h1⟩:=iL h;obtain⟨a1,_,rfl,h2⟩:=iI h1;cases iN h2;exact⟨Dc.mk a0 a1,rfl⟩
 | .n 8,x,ds,h=>by
  obtain⟨a0,_,rfl,h1⟩:=iS h;obtain⟨a1,_,rfl,h2⟩:=iL h1;obtain⟨a2,_,rfl,h3⟩:=iB h2;obtain⟨a3,_,rfl,h4⟩:=iB h3;obtain⟨a4,_,rfl,h5⟩:=iI h4;cases iN h5;exact⟨Opr.mk a0 a1 a2 a3 a4,rfl⟩
 | .n 9,x,ds,h=>by
  obtain⟨a0,_,rfl,h1⟩:=iL h;obtain⟨a1,_,rfl,h2⟩:=iL h1;obtain⟨a2,_,rfl,h3⟩:=iL h2;cases iN h3;exact⟨Sg.mk (So.mk a0 a1) a2,rfl⟩
 | .n 10,x,ds,h=>by
  obtain⟨a0,_,rfl,h1⟩:=iI h;obtain⟨a1,_,rfl,h2⟩:=iS h1;obtain⟨a2,_,rfl,h3⟩:=iI h2;obtain⟨a3,_,rfl,h4⟩:=iL h3;obtain⟨a4,_,rfl,h5⟩:=iI h4;obtain⟨a5,_,rfl,h6⟩:=iS h5;obtain⟨a6,_,rfl,h7⟩:=iI h6;obtain⟨a7,_,rfl,h8⟩:=iL h7;cases iN h8;exact⟨Bd.mk (Tm.mk a0 a1 a2 a3) (Tm.mk a4 a5 a6 a7),rfl⟩
 | .n 11,x,ds,h=>by
  obtain⟨a0,_,rfl,h1⟩:=iL h;obtain⟨a1,_,rfl,h2⟩:=iL h1;obtain⟨a2,_,rfl,h3⟩:=iL h2;cases iN h3;exact⟨Od.mk a0 a1 a2,rfl⟩
 | .n 12,x,ds,h=>by
  obtain⟨a0,_,rfl,h1⟩:=iL h;obtain⟨a1,_,rfl,h2⟩:=iI h1;obtain⟨a2,_,rfl,h3⟩:=iI h2;cases iN h3;exact⟨Cur.mk a0 a1 a2,rfl⟩
 | .n 13,x,ds,h=>by
  obtain⟨a0,_,rfl,h1⟩:=iI h;obtain⟨a1,_,rfl,h2⟩:=iS h1;obtain⟨a2,_,rfl,h3⟩:=iI h2;obtain⟨a3,_,rfl,h4⟩:=iL h3;obtain⟨a4,_,rfl,h5⟩:=iI h4;obtain⟨a5,_,rfl,h6⟩:=iS h5;obtain⟨a6,_,rfl,h7⟩:=iI h6;obtain⟨a7,_,rfl,h8⟩:=iL h7;cases iN h8;exact⟨Cnd.mk (Tm.mk a0 a1 a2 a3) (Tm.mk a4 a5 a6 a7),rfl⟩
 | .n 14,x,ds,h=>by
  obtain⟨a0,_,rfl,h1⟩:=iI h;obtain⟨a1,_,rfl,h2⟩:=iS h1;obtain⟨a2,_,rfl,h3⟩:=iI h2;obtain⟨a3,_,rfl,h4⟩:=iL h3;obtain⟨a4,_,rfl,h5⟩:=iI h4;obtain⟨a5,_,rfl,h6⟩:=iS h5;obtain⟨a6,_,rfl,h7⟩:=iI h6;obtain⟨a7,_,rfl,h8⟩:=iL h7;obtain⟨a8,_,rfl,h9⟩:=iL h8;cases iN h9;exact⟨Eqn.mk (Tm.mk a0 a1 a2 a3) (Tm.mk a4 a5 a6 a7) a8,rfl⟩
 | .n 15,x,ds,h=>by
  obtain⟨a0,_,rfl,h1⟩:=iL h;obtain⟨a1,_,rfl,h2⟩:=iL h1;obtain⟨a2,_,rfl,h3⟩:=iL h2;obtain⟨a3,_,rfl,h4⟩:=iL h3;obtain⟨a4,_,rfl,h5⟩:=iL h4;cases iN h5;exact⟨Md.mk (Sg.mk (So.mk a0 a1) a2) a3 a4,rfl⟩
 | .n 16,x,ds,h=>by
  obtain⟨a0,_,rfl,h1⟩:=iI h;obtain⟨a1,_,rfl,h2⟩:=iI h1;obtain⟨a2,_,rfl,h3⟩:=iI h2;obtain⟨a3,_,rfl,h4⟩:=iS h3;obtain⟨a4,_,rfl,h5⟩:=iI h4;obtain⟨a5,_,rfl,h6⟩:=iL h5;obtain⟨a6,_,rfl,h7⟩:=iL h6;cases iN h7;exact⟨Sgy.mk a0 a1 (Tm.mk a2 a3 a4 a5) a6,rfl⟩
 | .n (_+17),x,ds,h=>by cases iN h;exact⟨x,rfl⟩
theorem cL {α:Type} {Q:Nat->α->Prop}:∀{n:Nat},(∀k,k<n->∃y,Q k y)->∃l:List α,l.length=n/\∀(k:Nat) (h:k<l.length),Q k l[k]
 |0,_=>⟨[],rfl,λk h=>by simp at h⟩
 | n + 1, h => by
  obtain⟨l,h1,h2⟩:=cL (n:=n) λk hk=>h k (by omega);obtain⟨y,hy⟩:=h n (by omega);refine⟨l++[y],by simp[h1],λk hk=> ?_⟩;by_cases hlt:k<l.length
  ·rw[List.getElem_append_left hlt];exact h2 k hlt
  ·have:k=l.length:=by simp at hk;omega
   subst this;rw[List.getElem_append_right (Nat.le_refl _)];simp only[Nat.sub_self,List.getElem_cons_zero];rw[h1];exact hy
structure zL [Zb] (w w':World) (b o:Nat) (y:Int):Prop where
 was:∃x,w.cell? ⟨b,o,none⟩=some (.int .i64 x)
 is:w'.cell? ⟨b,o,none⟩=some (.int .i64 y)
 wf:(Lit.int .i64 y).wf=true
 cell:∀(b' o':Nat),¬(b'=b/\o'=o)->w'.cell? ⟨b',o',none⟩=w.cell? ⟨b',o',none⟩
 bt:∀(c:Nat),¬Abs.Bt c w.heap[c]?->¬Abs.Bt c w'.heap[c]?
theorem poke [Zb] {J:Nat->Prop} {w w':World} {b o:Nat} {y:Int} (p:zL w w' b o y) {ι:List Abs.Inf} {v:V} {u:Value} (h:VR J w ι v u):∀c,FR c v->∃c' v',Lk0 c c'/\FR c' v'/\VR J w' ι v' u:=by
 induction h with
 |lit h=>exact λc hc=>⟨c,_,.r c,hc,.lit h⟩
 |imm0 hc=>exact λc h=>⟨c,_,.r c,h,.imm0 hc⟩
 | @imm ι s b' off cp es f hs hc hm hI hcell hr hT ih =>
  intro c hfr;cases hfr with
  | @l T xs _ hp hl hs' hr' =>
   have one:∀k,k<es.length->∃z:I T×List V,z.2.length=szT T/\∀(j:Nat) (h1:j<(ah T z.1).length) (h2:j<z.2.length),FR (ah T z.1)[j] z.2[j]/\VR J w' [] z.2[j] (if b'=b/\off+(k*szT T+j)=o then .int .i64 y else f k j):=λk hk=>by
    have hkx:k<xs.length:=by omega
    have hel:=bz T hp xs[k];have hek:=hs' es[k] (gM hk);obtain⟨l,l1,l2⟩:=cL (n:=szT T) (Q:=λj (cv:C×V)=>(∀c,(ah T xs[k])[j]? =some c->Lk c cv.1)/\FR cv.1 cv.2/\VR J w' [] cv.2 (if b'=b/\off+(k*szT T+j)=o then .int .i64 y else f k j)) λj hj=>by
     have q1:=hr' k hkx hk j (by omega) (by omega);have q2:=hr k hk j (by omega);have q3:=hcell k j hk hj;rw[gE (by omega:j<(ah T xs[k]).length)];by_cases hj':b'=b/\off+(k*szT T+j)=o
     ·simp only[if_pos hj'];obtain⟨x,hx⟩:=p.was;rw[hj'.1,hj'.2,hx]at q3;rw[<-Option.some.inj q3]at q2;generalize es[k][j]=ev at q1 q2;generalize (ah      T xs[k])[j]=ec at q1;cases q2 with
      | lit hlit =>
       cases q1 with
       |i=>exact⟨(.i y,.lit (.int .i64 y)),by rintro c ⟨⟩;exact .i,.i,.lit p.wf⟩
       |k=>exact⟨(.k .i64 y,.lit (.int .i64 y)),by rintro c ⟨⟩;exact .k,.k,.lit p.wf⟩
     ·simp only[if_neg hj'];obtain⟨c',v',g1,g2,g3⟩:=ih k hk j (by omega) _ q1;exact⟨(c',v'),by rintro c ⟨⟩;exact g1.lk,g2,g3⟩
    obtain⟨yk,hyk⟩:=Gi T xs[k] (l.map Prod.fst) (yN (by simp;omega) λj h1 h2=>by
     have h2':j<l.length:=by simpa using h2
     simp only[List.getElem_map];exact(l2 j h2').1 _ (gE h1))
    refine⟨(yk,l.map Prod.snd),by simp[l1],λj h1 h2=> ?_⟩;have h2':j<l.length:=by simpa using h2
    have:=(l2 j h2').2;simp only[List.getElem_map]
    revert h1
    rw[hyk];intro h1;simp only[List.getElem_map];exact this
   obtain⟨Z,z1,z2⟩:=cL one;have q:VR J w' ι (.imm (szT T) (Z.map Prod.snd)) (.slice (some ⟨b',off,none⟩) (Z.map Prod.snd).length cp):=.imm (f:=λk j=>if b'=b/\off+(k*szT T+j)=o then .int .i64 y else f k j) (λe he=>by
     obtain⟨z,hz,rfl⟩:=List.mem_map.1 he;obtain⟨k,hk,rfl⟩:=List.getElem_of_mem hz;exact(z2 k hk).1) (by simp[z1];omega) hm hI (λk j h1 h2=>by
     have h1':k<es.length:=by simpa [z1]using h1
     by_cases hj':b'=b/\off+(k*szT T+j)=o
     ·rw[if_pos hj',hj'.1,hj'.2];exact p.is
     ·rw[if_neg hj',p.cell _ _ hj'];exact hcell k j h1' h2) (λk hk j hj=>by
     have hk':k<Z.length:=by simpa using hk
     simp only[List.getElem_map]at hj ⊢;have:=(z2 k hk').1;exact((z2 k hk').2 j (by rw[bz T hp];omega) hj).2) (hT.imp id (p.bt _))
   rw[show (Z.map Prod.snd).length=es.length by simp[z1]]at q;refine⟨.l T (Z.map Prod.fst),_,.l (by simp[z1];omega),.l hp (by simp) (λe he=> ?_) (λk h1 h2 j h3 h4=> ?_),q⟩
   ·obtain⟨z,hz,rfl⟩:=List.mem_map.1 he;obtain⟨k,hk,rfl⟩:=List.getElem_of_mem hz;exact(z2 k hk).1
   ·have hk':k<Z.length:=by simpa using h1
    simp only[List.getElem_map]at h3 h4 ⊢;exact((z2 k hk').2 j h3 h4).1
 |immc0=>intro c hc;cases hc
 |immc=>intro c hc;cases hc
 |own=>intro c hc;cases hc
 |own0=>intro c hc;cases hc
 |ptr=>intro c hc;cases hc
 |iptr=>intro c hc;cases hc
 |clo=>intro c hc;cases hc
 |mp=>intro c hc;cases hc
def fc :C->Bool
 | .i _| .k _ _| .b _| .s _| .l _ _| .nil _| .zs| .z=>true
 |_=>false
theorem Dj [Zb] {J:Nat->Prop} {w w':World} {b o:Nat} {y:Int} (p:zL w w' b o y) {ρ:Rho} {H:List Ob} {ι:List Abs.Inf} {c:C} {v:V} {u:Value} (hf:fc c=true) (hc:CR ρ H c v) (h:VR J w ι v u):∃c' v',Lk0 c c'/\(∀ρ' H',CR ρ' H' c' v')/\VR J w' ι v' u:=by
 cases hc with
 | fl hc =>
  obtain⟨c',v',h1,h2,h3⟩:=poke p h c hc;exact⟨c',v',h1,λ_ _=>.fl h2,h3⟩
 |nil hp=>cases h with|lit h=>exact⟨_,_,.r _,λ_ _=>.nil hp,.lit h⟩
 |zs=>cases h with|lit h=>exact⟨_,_,.r _,λ_ _=>.zs,.lit h⟩
 |zP=>cases h with|lit h=>exact⟨_,_,.r _,λ_ _=>.zP,.lit h⟩
 |zM=>cases h with|lit h=>exact⟨_,_,.r _,λ_ _=>.zM,.lit h⟩
 |zF=>cases h with|lit h=>exact⟨_,_,.r _,λ_ _=>.zF,.lit h⟩
 |_=>cases hf
end Go.Proofs.YtfdkldmkbibknaaGreat.Den
namespace Go.Proofs.YtfdkldmkbibknaaGreat.Den
open Go.RowKit
open Abs (V AV VR Env ag)
inductive iD :List C->List C->Prop
 |nil:iD [] []
 |cons {c d:C} {cs ds:List C} (h:Lk0 c d) (hs:iD cs ds):iD (c::cs) (d::ds)
theorem uZ :∀{a b:List C},a.length=b.length->(∀(j:Nat) (h1:j<a.length) (h2:j<b.length),Lk0 a[j] b[j])->iD a b
 |[],[],_,_=>.nil
 |[],_::_,h,_=>by simp at h
 |_::_,[],h,_=>by simp at h
 |_::_,_::_,h,k=>.cons (k 0 (by simp) (by simp)) (uZ (by simpa using h) λj h1 h2=>k (j+1) (by simpa using h1) (by simpa using h2))
theorem fJ {α:Type} (q:Nat->Bool) (t:Nat):∀(L:List (Nat×α)),(L.filter λp=>q p.1).lookup t=if q t=true then L.lookup t else none
 |[]=>by simp
 | (d, v) :: L => by
  have ih:=fJ q t L;rw[List.filter_cons];by_cases hq:q d=true
  ·rw[if_pos hq,List.lookup_cons,List.lookup_cons,ih];by_cases e:t=d
   ·subst e;simp[hq]
   ·have e':(t==d)=false:=by simpa using e
    simp[e']
  ·rw[if_neg hq,ih,List.lookup_cons];by_cases e:t=d
   ·subst e;simp[hq]
   ·have e':(t==d)=false:=by simpa using e
    simp[e']
theorem zN [Zb] {J:Nat->Prop} {w w':World} {b o:Nat} {y:Int} (p:zL w w' b o y) {ρ:Rho} {H:List Ob} {ι:List Abs.Inf} {inf:Abs.Inf} {n:Nat} {cs:List C} {vs:List V} (hor:Abs.OR ι J w inf (.row n [vs])) (hc:CRs ρ H cs vs) (hf:cs.all fc=true) (hb:w'.heap[inf.block]? =w.heap[inf.block]?):
  ∃cs' vs',iD cs cs'/\(∀ρ' H',CRs ρ' H' cs' vs')/\vs'.length=vs.length/\Abs.OR ι J w' inf (.row n [vs']):=by
 obtain⟨cur,t,h1,h2,h3,h4,h5,h6,h7⟩:=hor;obtain⟨l,l1,l2⟩:=cL (n:=cs.length) (Q:=λj (cv:C×V)=>(∀c,cs[j]? =some c->Lk0 c cv.1)/\(∀ρ' H',CR ρ' H' cv.1 cv.2)/\∃u,cur[inf.base+(0*n+j)]? =some u/\VR J w' ι cv.2 u) λj hj=>by
  have hj':j<vs.length:=by rw[<-hc.1];exact hj
  obtain⟨u,hu,hv⟩:=h7 0 (by simp) j hj';obtain⟨c',v',g1,g2,g3⟩:=Dj p (aT.1 hf _ (gM hj)) (hc.2 j hj hj') hv;exact⟨(c',v'),by rw[gE hj];rintro c ⟨⟩;exact g1,g2,u,hu,g3⟩
 have hn:vs.length=n:=h6 vs (by simp);refine⟨l.map Prod.fst,l.map Prod.snd,uZ (by simp[l1]) λj g1 g2=> ?_,λρ' H'=>⟨by simp,λj g1 g2=> ?_⟩,by simp[l1,hc.1],cur,t,hb.trans h1,h2,h3,h4,by simpa using h5,λe he=> ?_,λk hk j hj=> ?_⟩
 ·have g2':j<l.length:=by simpa using g2
  simp only[List.getElem_map];exact(l2 j g2').1 _ (gE g1)
 ·have g2':j<l.length:=by simpa using g2
  simp only[List.getElem_map];exact(l2 j g2').2.1 ρ' H'
 ·simp only[List.mem_singleton]at he;subst he;simp[l1,hc.1,hn]
 ·have:k=0:=by simpa using hk
  subst this;have hj':j<l.length:=by simpa using hj
  obtain⟨u,q1,q2⟩:=(l2 j hj').2.2;exact⟨u,q1,by simpa using q2⟩
theorem yQ       [Zb] {E : Abs.Cx} {F : In} {ρ : Rho} {H : List Ob} {D : List (Nat × AT)} {L : Env} {h : ag}   {ι : List Abs.Inf} {J : Nat → Prop} {a : Act} {w w' : World} {b o : Nat} {y : Int}
  (hp:HpR ρ H h) (hf:Fr F ρ H h) (hs:EncL ρ H D L) (rel:Abs.Rel E L h ι J a w) (hbox:∀(id:Nat) (x:Ob),H[id]? =some x->∃cs,x= .box cs/\cs.all fc=true)
  (hF:∀(i:Nat),i<F.h.length->(∀(id:Nat),F.ρ[id]? =some (some i)->¬live F.H id)->F.h[i]? =some none) (p:zL w w' b o y) (hJ:J b) (hE:¬E.I0 b) (hpass:∀c,E.pass c->¬J c)
  (e1:w'.os=w.os) (e2:w'.tape=w.tape) (e3:w'.output=w.output) (hh:∀(c:Nat),c≠b->w'.heap[c]? =w.heap[c]?) (hsz:w'.heap.size=w.heap.size) (hptr:∀t v,D.lookup t=some v->∃id k,v= .one (.p id k)):
  ∃H' h' L',(∀(id:Nat) (cs:List C),H[id]? =some (.box cs)->∃cs',H'[id]? =some (.box cs')/\iD cs cs')/\H'.length=H.length/\SR F ρ ⟨D,H'⟩ L' h'/\Abs.Rel E L' h' ι J a w':=by
 have off:∀{id:Nat} {x:Abs.Ob} {inf:Abs.Inf},h[id]? =some (some x)->ι[id]? =some inf->w'.heap[inf.block]? =w.heap[inf.block]? :=λx y=>hh _ λe=>rel.heap.off _ _ _ x y (e▸hJ);obtain⟨Z,z1,z2⟩:=cL (n:=H.length) (Q:=λid (z:List C×List V)=>(∀cs,H[id]? =some (.box cs)->iD cs z.1)/\(∀ρ' H',CRs ρ' H' z.1 z.2)/\∃a vs inf,ρ[id]? =some (some a)/\h[a]? =some (some (.row vs.length [vs]))/\ι[a]? =some inf/\z.2.length=vs.length/\Abs.OR ι J w' inf (.row z.2.length [z.2])) λid hid=>by
  obtain⟨cs,hx,hfc⟩:=hbox id _ (gE hid);obtain⟨a,vs,r1,r2,r3⟩:=hp.box id cs (by rw[<-hx];exact gE hid);have ha:a<ι.length:=by rw[<-rel.heap.len];exact(gI.1 r2).1
  have hι:=gE ha;obtain⟨cs',vs',g1,g2,g3,g4⟩:=zN p (rel.heap.obj a _ _ r2 hι) r3 hfc (off r2 hι);refine⟨(cs',vs'),λcs2 h2=> ?_,g2,a,vs,_,r1,r2,hι,g3,by rw[g3];exact g4⟩;rw[gE hid,hx]at h2;cases h2;exact g1
 have hlive:∀{id:Nat},id<H.length->live H id:=λ{id} hid=>by
  obtain⟨cs,hx,_⟩:=hbox id _ (gE hid);exact⟨_,gE hid,by rw[hx];rfl⟩
 -- which object lies at a place
 have own:∀a:Nat,∃ob:Option Abs.Ob,(∀id (hid:id<Z.length),ρ[id]? =some (some a)->ob=some (.row Z[id].2.length [Z[id].2]))/\((∀id,id<Z.length->ρ[id]?≠some (some a))->ob=none):=λa=>by
  by_cases hx:∃id,id<Z.length/\ρ[id]? =some (some a)
  ·obtain⟨id,hid,hr⟩:=hx;refine⟨some (.row Z[id].2.length [Z[id].2]),λid' hid' hr'=> ?_,λhn=>(hn id hid hr).elim⟩;have:id=id':=hp.inj id id' a hr hr' (hlive (by omega)) (hlive (by omega));subst this;rfl
  ·exact⟨none,λid hid hr=>(hx ⟨id,hid,hr⟩).elim,λ_=>rfl⟩
 obtain⟨h',hl1,hl2⟩:=cL (n:=h.length) (Q:=λa (ob:Option Abs.Ob)=>(∀id (hid:id<Z.length),ρ[id]? =some (some a)->ob=some (.row Z[id].2.length [Z[id].2]))/\((∀id,id<Z.length->ρ[id]?≠some (some a))->ob=none)) λa _=>own a
 have at_:∀{id a:Nat} (hid:id<Z.length),ρ[id]? =some (some a)->h'[a]? =some (some (.row Z[id].2.length [Z[id].2])):=λ{id a} hid hr=>by
  have ha:a<h'.length:=by rw[hl1];exact hp.lt _ _ hr
  rw[gE ha,(hl2 a ha).1 id hid hr]
 have no_:∀{a:Nat},a<h'.length->(∀id,id<Z.length->ρ[id]?≠some (some a))->h'[a]? =some none:=λ{a} ha hn=>by
  rw[gE ha,(hl2 a ha).2 hn]
 have get':∀{a:Nat} {ob:Abs.Ob},h'[a]? =some (some ob)->∃id,∃hid:id<Z.length,ρ[id]? =some (some a)/\ob= .row Z[id].2.length [Z[id].2]:=λ{a ob} hx=>by
  by_cases hh:∃id,id<Z.length/\ρ[id]? =some (some a)
  ·obtain⟨id,hid,hr⟩:=hh;rw[at_ hid hr]at hx;cases hx;exact⟨id,hid,hr,rfl⟩
  ·have ha:=(gI.1 hx).1;rw[no_ ha λid hid hr=>hh ⟨id,hid,hr⟩]at hx;cases hx
 have old:∀{a:Nat} {ob:Abs.Ob} {inf:Abs.Inf},h'[a]? =some (some ob)->ι[a]? =some inf->∃ob',h[a]? =some (some ob')/\Abs.OR ι J w' inf ob:=λ{a ob inf} hx hι=>by
  obtain⟨id,hid,hr,rfl⟩:=get' hx;obtain⟨_,_,a',vs,inf',r1,r2,r3,r4,r5⟩:=z2 id hid;rw[hr]at r1;cases r1;rw[hι]at r3;cases r3;exact⟨_,r2,r5⟩
 have hH':∀{id:Nat} {x:Ob},(Z.map λz=>Ob.box z.1)[id]? =some x->∃hid:id<Z.length,x= .box Z[id].1:=λ{id x} hx=>by
  rw[List.getElem?_map]at hx;obtain⟨z,q1,q2⟩:=Option.map_eq_some_iff.1 hx;obtain⟨hid,rfl⟩:=gI.1 q1;exact⟨hid,q2.symm⟩
 have lv:∀{id:Nat},live (Z.map λz=>Ob.box z.1) id↔live H id:=λ{id}=>⟨λk=>hlive (by have:=k.lt;rw[List.length_map]at this;omega),λk=>by
  have hid:id<Z.length:=by have:=k.lt;omega
  exact⟨.box Z[id].1,by rw[List.getElem?_map,gE hid];rfl,rfl⟩⟩
 refine⟨Z.map λz=>.box z.1,h',L.filter λq=>(D.lookup q.1).isSome,λid cs hx=> ?_,by simp[z1],⟨λt v hv=> ?_,⟨?_,λid n T xs hx=> ?_,λid cs hx=> ?_,λid T kvs hx=> ?_,λi j a q1 q2 q3 q4=>hp.inj i j a q1 q2 (lv.1 q3) (lv.1 q4),λi a q=>by rw[hl1];exact hp.lt i a q⟩,⟨by rw[hl1];exact hf.len,λid a q1 q2 q3=>hf.old id a q1 (lv.1 q2) q3,λa q1 q2=> ?_,hf.rho,λid x hx=> ?_⟩,XR.none_ λid x hx=> ?_⟩,?_⟩
 ·have hid:id<Z.length:=by have:=(gI.1 hx).1;omega
  exact⟨Z[id].1,by rw[List.getElem?_map,gE hid];rfl,(z2 id hid).1 cs hx⟩
 ·obtain⟨av,g1,g2⟩:=hs t v hv;refine⟨av,by rw[fJ            (λt=>(D.lookup t).isSome)];simp only[hv,Option.isSome_some,if_true];exact g1,?_⟩;obtain⟨id,k,rfl⟩:=hptr t v hv;cases g2 with
  | one g2 => cases g2 with
   |fl q=>cases q
   |p q=>exact .one (.p q)
 ·rw[List.length_map,z1];exact hp.len
 ·obtain⟨_,q⟩:=hH' hx;cases q
 ·obtain⟨hid,q⟩:=hH' hx;cases q;obtain⟨_,g2,a,vs,inf,r1,_⟩:=z2 id hid;exact⟨a,Z[id].2,r1,at_ hid r1,g2 _ _⟩
 ·obtain⟨_,q⟩:=hH' hx;cases q
 ·rw[hF a q1 q2];refine no_ (by rw[hl1];have:=hf.len;omega) λid hid hr=> ?_;obtain⟨id0,k1,k2⟩:=hf.old id a hr (hlive (by omega)) q1;exact q2 id0 k1 k2
 ·obtain⟨y,k1,k2⟩:=hf.ob id x hx;have hid:id<Z.length:=by have:=(gI.1 k1).1;omega
  obtain⟨cs,k3,_⟩:=hbox id y k1;subst k3;refine⟨.box Z[id].1,by rw[List.getElem?_map,gE hid];rfl,k2.trans (.inr (.inr (.inl ⟨_,_,rfl,rfl⟩)))⟩
 ·obtain⟨_,q⟩:=hH' hx;subst q;rfl
 ·have hw0 : E.w0.heap.size ≤ b := by
   rcases rel.immlo b hJ with k|k|k
   ·exact(hE k).elim
   ·exact(hpass b k hJ).elim
   ·exact k
  exact
  { slots := fun t v hv => by
      rw[fJ (λt=>(D.lookup t).isSome)]at hv;split at hv
      · rename_i hsome
        obtain⟨x,hx⟩:=Option.isSome_iff_exists.1 hsome;obtain⟨av,g1,g2⟩:=hs t x hx;rw[hv]at g1;cases g1;obtain⟨c,k1,k2⟩:=rel.slots t v hv;refine⟨c,k1,?_⟩;obtain⟨id,k,rfl⟩:=hptr t x hx;cases g2 with
        | one g2 => cases g2 with
          |fl q=>cases q
          | p q => cases k2 with
            | one k2 => cases k2 with
              |ptr hi=>exact .one (.ptr hi)
      · cases hv
    heap:=⟨by rw[hl1];exact rel.heap.len,λid ob inf q1 q2=>let⟨_,_,k⟩:=old q1 q2;k,λid ob inf q1 q2=>let⟨_,k,_⟩:=old q1 q2;rel.heap.off id _ inf k q2,λid id' ob ob' inf inf' q1 q1' q2 q2' e=>let⟨_,k,_⟩:=old q1 q2;let⟨_,k',_⟩:=old q1' q2';rel.heap.inj id id' _ _ inf inf' k k' q2 q2' e,rel.heap.sub⟩
    imm:=λc hc=>by rw[hsz];exact rel.imm c hc
    immlo:=rel.immlo
    pre:=rel.pre
    os:=e1.trans rel.os
    tape:=e2.trans rel.tape
    output:=e3.trans rel.output
    grown:=by rw[hsz];exact rel.grown
    frame:=λc q1 q2=>by rw[hh c (by omega)];exact rel.frame c q1 q2
    mine:=λid ob inf q1 q2=>let⟨_,k,_⟩:=old q1 q2;rel.mine id _ inf k q2
    defers:=rel.defers
    size:=rel.size}
end Go.Proofs.YtfdkldmkbibknaaGreat.Den
namespace Go.Proofs.YtfdkldmkbibknaaGreat.Den
open Go.RowKit
open Abs (V AV VR Env ag ar aw ao)
section
variable [Zb]
def jh :List Code->Code->Code
 |[],t=>t
 |x::xs,t=>.seq x (jh xs t)
section
variable {P : Program} {E : Abs.Cx} {F : In} {R : Type} {tb : Nat → Option TI} {O : Orc} {ρ : Rho} {D D' : List (Nat × AT)} {H : List Ob} {L : Env} {h : ag} {Q : Exit → Env → ag → Prop} {an : Ann} {pc : Pcs}
theorem tc (hm:P.follows .mixedOrders=true) (htb:TBOK P tb) (hO:dc P O) (hE:E.n=an.nt) (hF:F.ok an.refs) (hc:an.cuts=[]) {tail:Code} {K:Kt R} {r:R} (hq:∀e L h,B9 F K r e L h->Abs.v8 (aw P tail E Q) Q e L h):
  ∀{xs:List Code} {st:St} {ρ:Rho} {L:Env} {h:ag},AllP P an pc (aY an (jh xs .skip))->den tb O pc an (jh xs .skip) st K=some r->SR F ρ st L h->aw P (jh xs tail) E Q L h
 |[],st,ρ,L,h,_,hd,hs=>hq .normal _ _ ⟨ρ,st,hd,hs⟩
 | x :: xs, st, ρ, L, h, hP, hd, hs => by
  have hP':AllP P an pc (aY an x++aY an (jh xs .skip)):=by
   have e:aY an (jh (x::xs) .skip)=aY an x++aY an (jh xs .skip):=by
    show aY an (.seq x (jh xs .skip))=_
    conv=>lhs;unfold aY
    rw[hc];rfl
   rw[<-e];exact hP
  obtain⟨hP1,hP2⟩:=hP'.app;have hd':den tb O pc an x st (nk (λst'=>den tb O pc an (jh xs .skip) st' K) K)=some r:=by
   have e:den tb O pc an (jh (x::xs) .skip) st K=den tb O pc an x st (nk (λst'=>den tb O pc an (jh xs .skip) st' K) K):=by
    show den tb O pc an (.seq x (jh xs .skip)) st K=_
    conv=>lhs;unfold den
    rw[hc];rfl
   rw[<-e];exact hd
  refine Abs.qL (Abs.fw ?_ (fg hm htb hO hE hF (c:=x) hP1 hd' hs));rintro e L h ⟨ρ',st',k1,k2⟩;cases e with
  |normal=>exact tc hm htb hO hE hF hc hq hP2 k1 k2
  |_=>exact hq _ _ _ ⟨ρ',st',k1,k2⟩
omit [Zb]in
theorem SR.sub {D':List (Nat×AT)} (hs:SR F ρ ⟨D,H⟩ L h) (k:Draw.Sub D' D):SR F ρ ⟨D',H⟩ L h:=⟨hs.slots.sub k,hs.heap,hs.fr,hs.xr⟩
theorem ms (hm:P.follows .mixedOrders=true) (htb:TBOK P tb) (hO:dc P O) (hE:E.n=an.nt) (hF:F.ok an.refs) {r x y:Code} {t:Nat} {q:Bool} (hP:AllP P an pc (aY an r)) (hd:den tb O pc an r ⟨D,H⟩ (λe st=>some (e,st))=some (.normal,⟨D',H⟩)) (ht:D'.lookup t=some (.one (.b q)))
  (hs:SR F ρ ⟨D,H⟩ L h) (hk:∀ρ L h,SR F ρ ⟨D',H⟩ L h->aw P (bif q then x else y) E Q L h):aw P (.seq r (.cond (.tmp t) x y)) E Q L h:=by
 refine Abs.qL (Abs.fw ?_ (fg hm htb hO hE hF (c:=r) hP hd hs));rintro e L h ⟨ρ,st,k1,k2⟩;cases k1;obtain⟨av,q1,q2⟩:=k2.slots t _ ht;obtain⟨u,rfl,h3⟩:=q2.one';have h4:Abs.ev L (.tmp t)=some (.one (.lit (.bool q))):=by rw[<-h3.bool];exact q1
 have:=hk _ _ _ k2;cases q with
 |true=>exact Abs.Fi h4 rfl this
 |false=>exact Abs.D5 h4 rfl this
def okD (D D0:List (Nat×AT)):Prop:=∀t v,D0.lookup t=some v->∀u,D.lookup t=some u->u=v
def DN (E:Abs.Cx) (F:In) (D0:List (Nat×AT)) (cs0 cs1 cs2:List C) (a:Act) (w:World):Prop:=
 ∃ρ ds0 ds1 ds2 L h ι I,iD cs0 ds0/\iD cs1 ds1/\iD cs2 ds2/\SR F ρ ⟨D0,[.box ds0,.box ds1,.box ds2]⟩ L h/\Abs.Rel E L h ι I a w
def pRel (P:Program) (E:Abs.Cx) (F:In) (ops:Array Oper) (D0:List (Nat×AT)) (cs0 cs1 cs2:List C) (D:List (Nat×AT)) (x:Option (List Ob)) (a:Act) (w:World):Prop:=match x with
 |some H=>okD D D0/\(sys P E F ops []).Rel (D++D0) H a w
 |none=>DN E F D0 cs0 cs1 cs2 a w
def pOT (P:Program) (E:Abs.Cx) (F:In) (ops:Array Oper) (tb:Nat->Option TI) (D0:List (Nat×AT)) (cs0 cs1 cs2:List C) (tp tv:Nat) (o:Oper) (D:List (Nat×AT)) (v:AT) (x y:Option (List Ob)):Prop:=match x,y with
 |some H,some H'=>(∀t,o.dst=some t->D0.lookup t=none)/\(sys P E F ops []).OT o D v H H'
 |some H,none=>(∃t ty pos af ti T z off n,o=⟨none,.store t (.tmp tp) (.tmp tv),ty,pos,af,none⟩/\tb t=some ti/\ti.size=1/\D.lookup tp=some (.one (.q T z off))/\1<szT T/\(∃m,(ah T z).drop off=[.i m])/\D.lookup tv=some (.one (.i n)))/\H=[.box cs0,.box cs1,.box cs2]
 |none,_=>False
omit [Zb]in
theorem dv {D D0:List (Nat×AT)} {t:Nat}:(D++D0).lookup t=match D.lookup t with|some v=>some v|none=>D0.lookup t:=by
 induction D with
 |nil=>rfl
 | cons p D ih =>
  obtain⟨d,v⟩:=p;rw[List.cons_append,List.lookup_cons,List.lookup_cons];by_cases e:t=d
  ·subst e;simp
  ·have e':(t==d)=false:=by simpa using e
   simp only[e'];exact ih
omit [Zb]in
theorem pF {D D' D0:List (Nat×AT)} (h:Draw.Sub D' D) (hk:okD D D0):Draw.Sub (D'++D0) (D++D0):=λt v hv=>by
 rw[dv]at hv ⊢;cases h1:D'.lookup t with
 | some u =>
  rw[h1]at hv;simp only at hv;rw[h t u h1];exact hv
 | none =>
  rw[h1]at hv;simp only at hv;cases h2:D.lookup t with
  |none=>exact hv
  |some u=>simp only;rw[hk t v hv u h2]
omit [Zb]in
theorem zx {D D' D0:List (Nat×AT)} (h:Draw.Sub D' D):Draw.Sub D' (D++D0):=λt v hv=>by
 rw[dv,h t v hv]
omit [Zb]in
theorem Gu {D D0:List (Nat×AT)} (hk:okD D D0):Draw.Sub D0 (D++D0):=λt v hv=>by
 rw[dv];cases h2:D.lookup t with
 |none=>exact hv
 |some u=>simp only;rw[hk t v hv u h2]
theorem Co      (htb : TBOK P tb) {D0 : List (Nat × AT)} {cs0 cs1 cs2 : List C} {a : Act} {w : World} {ι : List Abs.Inf} {I : Nat → Prop} {t tp tv : Nat} {ty : TypeId} {pos : String} {af : Array Edge} {ti : TI} {T : Ty} {z : Den.I T} {off : Nat} {n m : Int} {K : Act → World → Prop} {Q' : Exit → Act → World → Prop}
  (hZ:∀(b:Nat) (x:Option Obj),¬Abs.Bt b x↔¬E.I0 b/\∃(c:Array Value) (t:TypeId),x=some (.cells c t (0,0))) (hpass:∀c,E.pass c->¬I c)
  (hF:∀(i:Nat),i<F.h.length->(∀(id:Nat),F.ρ[id]? =some (some i)->¬live F.H id)->F.h[i]? =some none) (hf:cs0.all fc=true/\cs1.all fc=true/\cs2.all fc=true) (hptr:∀t v,D0.lookup t=some v->∃id k,v= .one (.p id k))
  (ht:tb t=some ti) (hsz:ti.size=1) (hp:D.lookup tp=some (.one (.q T z off))) (hT:1<szT T) (hm:(ah T z).drop off=[.i m]) (hv:D.lookup tv=some (.one (.i n))) (hs:SR0 F ρ ⟨D,[.box cs0,.box cs1,.box cs2]⟩ L h) (h0:Draw.Sub D0 D) (r:Abs.Rel E L h ι I a w) (hk:∀w',DN E F D0 cs0 cs1 cs2 a w'->K a w'):
  Oper.wp P ⟨none,.store t (.tmp tp) (.tmp tv),ty,pos,af,none⟩ a w K Q':=by
 obtain⟨av,p1,p2⟩:=hs.slots tp _ hp;obtain⟨u,rfl,p3⟩:=p2.one';obtain⟨vs,rfl,p4⟩:=p3.qptr;obtain⟨c,c1,c2⟩:=r.slots tp _ p1;obtain⟨av,v1,v2⟩:=hs.slots tv _ hv;obtain⟨u,rfl,v3⟩:=v2.one';have v4:u= .lit (.int .i64 n):=by cases v3 with|fl q=>cases q;rfl
 subst v4;obtain⟨c',c3,c4⟩:=r.slots tv _ v1;have c5:c'= .int .i64 n/\(Lit.int .i64 n).wf=true:=by cases c4 with|one q=>cases q with|lit q=>exact⟨rfl,q⟩
 obtain⟨rfl,hwf⟩:=c5;have hl:(vs.drop off).length=1:=by have:=congrArg List.length hm;rw[List.length_drop]at this ⊢;rw[<-p4.1];simpa using this
 have hx:off<vs.length:=by rw[List.length_drop]at hl;omega
 have hx':off<(ah T z).length:=by rw[p4.1];exact hx
 have hfr:=p4.2 off hx' hx;have hz0:(ah T z)[off]= .i m:=by
  have:=List.getElem_drop (xs:=ah T z) (i:=off) (j:=0) (h:=by rw[hm];simp);simp only[Nat.add_zero]at this;rw[<-this];simp[hm]
 rw[hz0]at hfr;cases c2 with
 | one c2 => cases c2 with
  | @iptr _ _ b o _ f hI hcell hr hbt =>
   have h1:=hcell 0 (by omega);have h2:=hr 0 (by omega);have hvs:(vs.drop off)[0]=vs[off]:=by simp
   rw[hvs]at h2;generalize vs[off]=v0 at hfr h2;cases hfr;generalize hf0:f 0=f0 at h1 h2;cases h2;rw[Nat.add_zero]at h1;obtain⟨nI0,cur,tt,hb⟩:=(hZ _ _).1 (hbt.resolve_left (by omega));obtain⟨i,Fy⟩:=htb.get ht;obtain⟨inf',g1,_,g3,_⟩:=Abs.aP (Fy.tb t i Fy.look);have ho:cur[o]? =some (.int .i64 m):=by simpa [World.cell?,hb]using h1
   have hlt:o<cur.size:=(Array.getElem?_eq_some_iff.1 ho).1;have hrun:=run_storeCells_at (P:=P) b o tt [.int .i64 n] 0 cur w hb (by show o+0+1<=cur.size;omega) (λv hv=>by rw[List.mem_singleton.1 hv];rfl);have hrow:(cur.toList.take (o+0)++[Value.int .i64 n]++cur.toList.drop (o+0+[Value.int .i64 n].length)).toArray=cur.setIfInBounds o (.int .i64 n):=by
    apply Array.toList_inj.1;rw[Array.toList_setIfInBounds,List.set_eq_take_append_cons_drop,if_pos (by simpa using hlt)];simp
   rw[hrow]at hrun;obtain⟨W,hW⟩:∃W,W=w.setRow b (cur.setIfInBounds o (.int .i64 n)):=⟨_,rfl⟩;rw[<-hW]at hrun;have hheap:W.heap[b]? =some (.cells (cur.setIfInBounds o (.int .i64 n)) tt (0,0)):=by rw[hW];exact setRow_heap w b cur _ tt _ hb
   have hother:∀c,c≠b->W.heap[c]? =w.heap[c]? :=λc hc=>by
    rw[hW];unfold World.setRow;simp[Array.getElem?_modify,Ne.symm hc]
   have pk : zL   w W b o n :=
    { was := ⟨m, h1⟩
      is:=by simp[World.cell?,hheap,hlt]
      wf:=hwf
      cell := fun b' o' hne => by
        by_cases hb':b'=b
        · subst hb'
          have ho':o'≠o:=λe=>hne ⟨rfl,e⟩;simp only[World.cell?,hheap,hb];simp[Ne.symm ho']
        · simp only[World.cell?]
          rw[hother b' hb']
      bt := fun c hc => by
        by_cases hb':c=b
        · subst hb'
          rw[hheap];exact(hZ _ _).2 ⟨nI0,_,_,rfl⟩
        · rw[hother c hb'];exact hc}
   unfold Oper.wp;have hex:(execOp a.eval ⟨none,.store t (.tmp tp) (.tmp tv),ty,pos,af,none⟩).run P w= .ok .skip W:=by
    have e1:a.eval (.tmp tp)= .pointer (some ⟨b,o,none⟩):=by simp[Act.eval,c1]
    have e2:a.eval (.tmp tv)= .int .i64 n:=by simp[Act.eval,c3]
    have hsize:inf'.size=1:=by rw[g3,Fy.size,hsz]
    have e3:(Value.int .i64 n).cells= #[.int .i64 n]:=rfl;simp[execOp,Instr.storeAt,Instr.sureAddr,e1,e2,storeVar,sizeOf,typeInfo,g1,hsize,e3,hrun]
   rw[hex,Oper.upon_skip];obtain⟨H',h',L',k1,k2,k3,k4⟩:=yQ (D:=D0) hs.heap hs.fr (hs.slots.sub h0) r (λid x hx=>by
     rcases id with _|_|_|id
     ·cases hx;exact⟨_,rfl,hf.1⟩
     ·cases hx;exact⟨_,rfl,hf.2.1⟩
     ·cases hx;exact⟨_,rfl,hf.2.2⟩
     ·simp at hx) hF pk hI nI0 hpass (by rw[hW];rfl) (by rw[hW];rfl) (by rw[hW];rfl) hother (by rw[hW];simp[World.setRow]) hptr
   obtain⟨ds0,q0,l0⟩:=k1 0 _ rfl;obtain⟨ds1,q1,l1⟩:=k1 1 _ rfl;obtain⟨ds2,q2,l2⟩:=k1 2 _ rfl;have eH:H'=[.box ds0,.box ds1,.box ds2]:=by
    match H',k2 with
    |[x,y,z],_=>cases q0;cases q1;cases q2;rfl
   subst eH;exact hk W ⟨ρ,ds0,ds1,ds2,L',h',ι,I,l0,l1,l2,k3,k4⟩
def psys (htb : TBOK P tb) {ops : Array Oper} {D0 : List (Nat × AT)} {cs0 cs1 cs2 : List C} {tp tv a0 : Nat}
  (hZ:∀(b:Nat) (x:Option Obj),¬Abs.Bt b x↔¬E.I0 b/\∃(c:Array Value) (t:TypeId),x=some (.cells c t (0,0))) (hpass:∀c,E.pass c->∃inf,E.ι0[a0]? =some inf/\inf.block=c) (hρ:F.ρ[0]? =some (some a0))
  (hF:∀(i:Nat),i<F.h.length->(∀(id:Nat),F.ρ[id]? =some (some i)->¬live F.H id)->F.h[i]? =some none) (hf:cs0.all fc=true/\cs1.all fc=true/\cs2.all fc=true) (hptr:∀t v,D0.lookup t=some v->∃id k,v= .one (.p id k)):Draw.Sys P ops AT (Option (List Ob)) where
 Rel:=pRel P E F ops D0 cs0 cs1 cs2
 OT:=pOT P E F ops tb D0 cs0 cs1 cs2 tp tv
 weaken:=λ{D D' x a w} h k=>by
  cases x with
  |some H=>exact⟨λt v hv u hu=>h.1 t v hv u (k t u hu),(sys P E F ops []).weaken h.2 (pF k h.1)⟩
  |none=>exact h
 same:=λ{D x a w w'} h e1 e2 e3 e4=>by
  cases x with
  |some H=>exact⟨h.1,(sys P E F ops []).same h.2 e1 e2 e3 e4⟩
  | none =>
   obtain⟨ρ,ds0,ds1,ds2,L,h',ι,I,l0,l1,l2,k1,k2⟩:=h;exact⟨ρ,ds0,ds1,ds2,L,h',ι,I,l0,l1,l2,k1,k2.same e1 e2 e3 e4⟩
 sound := fun {o D Dg v x y i a w Q K} ht hsub ho hr hk => by
  cases x with
  |none=>exact ht.elim
  | some H => cases y with
   | some H' =>
    obtain⟨hd,ht⟩:=ht;refine(sys P E F ops []).sound ht (zx hsub) ho hr.2 λa' w' hr'=>hk a' w' ⟨λt u hu x hx=> ?_,?_⟩
    ·cases hdst:o.dst with
     |none=>rw[hdst]at hx;exact hr.1 t u hu x hx
     | some d =>
      rw[hdst]at hx;simp only[Draw.bindD,List.lookup_cons]at hx;by_cases e:t=d
      ·subst e;rw[hd t hdst]at hu;cases hu
      ·have e':(t==d)=false:=by simpa using e
       rw[e']at hx;exact hr.1 t u hu x hx
    ·have e:Draw.bindD o.dst v (Dg++D0)=Draw.bindD o.dst v Dg++D0:=by cases o.dst<;>rfl
     rw[e]at hr';exact hr'
   | none =>
    obtain⟨⟨t,ty,pos,af,ti,T,z,off,n,rfl,h1,h2,h3,h4,⟨m,h5⟩,h6⟩,rfl⟩:=ht;obtain⟨hok,_,ρ,L,h,ι,I,hs,r⟩:=hr;unfold wpOp;rw[ho];simp only[];rw[if_pos (by simp[Region.wanted])];refine .inl (Co htb hZ (λc hc=> ?_) hF hf hptr h1 h2 (zx hsub tp _ h3) h4 h5 (zx hsub tv _ h6) hs (Gu hok) r λw' hw=>hk a w' hw);obtain⟨inf,e1,e2⟩:=hpass c hc;obtain⟨a',vs,r1,r2,_⟩:=hs.heap.box 0 _ rfl;rw[hs.fr.rho 0 _ hρ]at r1;cases r1;rw[<-e2];exact r.heap.off _ _ _ r2 (r.pre _ _ e1)
theorem ED {ops:Array Oper} {S:Draw.Sys P ops AT (Option (List Ob))} {ch rd π σ:List Nat} {D Df:List (Nat×AT)} {hs hf:List (List Ob)} (hS:∀(i:Nat) (o:Oper) (D:List (Nat×AT)) (v:AT) (H H':List Ob),i∈σ->ops[i]? =some o->(sys P E F ops []).OT o D v H H'->S.OT o D v (some H) (some H'))
  (d:Draw.DR (sys P E F ops []) ch rd π σ D hs Df hf) (hc:∀i∈σ,ch.contains i=true\/rd.contains i=true):Draw.DR S ch rd π σ D (hs.map some) Df (hf.map some):=by
 induction d with
 |nil L hs=>exact .nil _ _
 | @pure i _ _ _ _ _ _ _ ho hcc ht _ ih=>
  have hrd:rd.contains i=true:=(hc i (by simp)).resolve_left (by rw[hcc];simp);refine .read ho hcc hrd (λx hx=> ?_) (ih (λi o D v H H' hi=>hS i o D v H H' (by simp[hi])) λj hj=>hc j (by simp[hj]));obtain⟨H,_,rfl⟩:=List.mem_map.1 (List.mem_of_mem_take hx);exact hS _ _ _ _ _ _ (by simp) ho (ht H)
 | read ho hcc hrd ht _ ih =>
  refine .read ho hcc hrd (λx hx=> ?_) (ih (λi o D v H H' hi=>hS i o D v H H' (by simp[hi])) λj hj=>hc j (by simp[hj]));rw[List.length_map,<-List.map_take]at hx;obtain⟨H,h1,rfl⟩:=List.mem_map.1 hx;exact hS _ _ _ _ _ _ (by simp) ho (ht H h1)
 | chain ho hcc ht _ ih =>
  exact .chain ho hcc (hS _ _ _ _ _ _ (by simp) ho ht) (ih (λi o D v H H' hi=>hS i o D v H H' (by simp[hi])) λj hj=>hc j (by simp[hj]))
omit [Zb]in
theorem E2 {β γ:Type} {ops:Array Oper} {S:Draw.Sys P ops β γ} {ch rd π σ σ':List Nat} {D D1 D2:List (Nat×β)} {hs h1 h2:List γ} (d:Draw.DR S ch rd π σ D hs D1 h1) (d':Draw.DR S ch rd π σ' D1 h1 D2 h2):Draw.DR S ch rd π (σ++σ') D hs D2 h2:=by
 induction d with
 |nil=>exact d'
 |pure ho hc ht _ ih=>exact .pure ho hc ht (ih d')
 |read ho hc hr ht _ ih=>exact .read ho hc hr ht (ih d')
 |chain ho hc ht _ ih=>exact .chain ho hc ht (ih d')
omit [Zb]in
theorem yw {cs:List C} {a:Nat} {h h1:ag} (hp:HpR ρ [.box cs] h1) (hr:ρ[0]? =some (some a)):HpR ρ [.box cs] (Abs.back h a h1):=by
 have hlen:(Abs.back h a h1).length=h1.length:=by unfold Abs.back;exact List.length_mapIdx
 refine⟨hp.len,λid n T xs hx=> ?_,λid cs' hx=> ?_,λid T kvs hx=> ?_,hp.inj,λi b q=>by rw[hlen];exact hp.lt i b q⟩
 ·cases id with
  |zero=>cases hx
  |succ id=>simp at hx
 ·cases id with
  | zero =>
   cases hx;obtain⟨a',vs,r1,r2,r3⟩:=hp.box 0 _ rfl;rw[hr]at r1;cases r1;refine⟨a,vs,hr,?_,r3⟩;unfold Abs.back;rw[List.getElem?_mapIdx,r2];simp
  |succ id=>simp at hx
 ·cases id with
  |zero=>cases hx
  |succ id=>simp at hx
omit [Zb]in
theorem Cz {ρ0:Rho} {H0:List Ob} {a:Nat} {h h1:ag} (hf:Fr ⟨Abs.only h a,ρ0,H0⟩ ρ H h1) (hl:h.length<=h1.length) (hr:ρ0[0]? =some (some a)) (hv:live H0 0):Fr ⟨h,ρ0,H0⟩ ρ H (Abs.back h a h1):=by
 have ho:(Abs.only h a).length=h.length:=by unfold Abs.only;exact List.length_mapIdx
 refine⟨by unfold Abs.back;rw[List.length_mapIdx];exact hl,λid b q1 q2 q3=>hf.old id b q1 q2 (by show b<(Abs.only h a).length;rw[ho];exact q3),λb q1 q2=> ?_,hf.rho,hf.ob⟩;have hne:b≠a:=λe=>q2 0 (e▸hr) hv;have q1':b<h.length:=q1;unfold Abs.back;rw[List.getElem?_mapIdx,gE (show b<h1.length by omega)];simp[q1',hne]
omit [Zb]in
theorem zy {cs:List C} {a:Nat} (hp:HpR ρ [.box cs] h) (hr:ρ[0]? =some (some a)):HpR ρ [.box cs] (Abs.only h a):=by
 refine⟨hp.len,λid n T xs hx=> ?_,λid cs' hx=> ?_,λid T kvs hx=> ?_,hp.inj,λi b q=>by unfold Abs.only;rw[List.length_mapIdx];exact hp.lt i b q⟩
 ·cases id with
  |zero=>cases hx
  |succ id=>simp at hx
 ·cases id with
  | zero =>
   cases hx;obtain⟨a',vs,r1,r2,r3⟩:=hp.box 0 _ rfl;rw[hr]at r1;cases r1;exact⟨a,vs,hr,by rw[Abs.BC];exact r2,r3⟩
  |succ id=>simp at hx
 ·cases id with
  |zero=>cases hx
  |succ id=>simp at hx
end
end
end Go.Proofs.YtfdkldmkbibknaaGreat.Den

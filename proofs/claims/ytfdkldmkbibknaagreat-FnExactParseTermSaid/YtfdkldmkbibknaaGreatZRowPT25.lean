/-
  Texts that the claim rests on, merged: Mark, AtV, Tail, PT.
-/
import Derived.RowKit3
import Derived.Deep.Draws
import Derived.Test.YtfdkldmkbibknaaGreatZRowPT1
import Derived.Test.YtfdkldmkbibknaaGreatZRowPT2
import Derived.Test.YtfdkldmkbibknaaGreatZRowPT23
import Derived.Test.YtfdkldmkbibknaaGreatZRowPT24

namespace Go.Proofs.YtfdkldmkbibknaaGreat
open Go.RowKit
def kin (u v:Value):Prop:=v=u\/(∃x y,u= .int .i64 x/\v= .int .i64 y/\okLit v)\/(∃s t,u= .string s/\v= .string t/\okLit v)\/∃x y,u= .bool x/\v= .bool y
theorem kin.refl (u:Value):kin u u:=.inl rfl
theorem kin.int (x y:Int) (h:(Lit.int .i64 y).wf=true):kin (.int .i64 x) (.int .i64 y):=.inr (.inl ⟨x,y,rfl,rfl,h⟩)
theorem kin.str (s t:ByteArray) (h:t.size<=maxLen):kin (.string s) (.string t):=.inr (.inr (.inl ⟨s,t,rfl,rfl,h⟩))
theorem kin.bool (x y:Bool):kin (.bool x) (.bool y):=.inr (.inr (.inr ⟨x,y,rfl,rfl⟩))
theorem kin.trans {u v z:Value} (h:kin u v) (k:kin v z):kin u z:=by
 rcases h with rfl|⟨x,y,rfl,rfl,p⟩|⟨s,t,rfl,rfl,p⟩|⟨x,y,rfl,rfl⟩
 ·exact k
 ·rcases k with rfl|⟨a,b,e,rfl,q⟩|⟨a,b,e,rfl,q⟩|⟨_,_,e,_⟩
  ·exact .inr (.inl ⟨x,y,rfl,rfl,p⟩)
  ·exact .inr (.inl ⟨x,b,rfl,rfl,q⟩)
  ·cases e
  ·cases e
 ·rcases k with rfl|⟨a,b,e,rfl,q⟩|⟨a,b,e,rfl,q⟩|⟨_,_,e,_⟩
  ·exact .inr (.inr (.inl ⟨s,t,rfl,rfl,p⟩))
  ·cases e
  ·exact .inr (.inr (.inl ⟨s,b,rfl,rfl,q⟩))
  ·cases e
 ·rcases k with rfl|⟨a,b,e,rfl,q⟩|⟨a,b,e,rfl,q⟩|⟨a,b,e,rfl⟩
  ·exact .inr (.inr (.inr ⟨x,y,rfl,rfl⟩))
  ·cases e
  ·cases e
  ·exact .inr (.inr (.inr ⟨x,b,rfl,rfl⟩))
theorem kin.ok {u v:Value} (h:kin u v) (k:okLit u):okLit v:=by
 rcases h with rfl|⟨x,y,rfl,rfl,q⟩|⟨s,t,rfl,rfl,q⟩|⟨x,y,rfl,rfl⟩
 ·exact k
 ·exact q
 ·exact q
 ·exact trivial
theorem kin.eqInt {x:Int} {v:Value} (h:kin (.int .i64 x) v):∃y,v= .int .i64 y:=by
 rcases h with rfl|⟨_,y,_,rfl,_⟩|⟨_,_,e,_,_⟩|⟨_,_,e,_⟩
 ·exact⟨_,rfl⟩
 ·exact⟨_,rfl⟩
 ·cases e
 ·cases e
theorem kin.eqStr {s:ByteArray} {v:Value} (h:kin (.string s) v):∃t,v= .string t:=by
 rcases h with rfl|⟨_,_,e,_,_⟩|⟨_,t,_,rfl,_⟩|⟨_,_,e,_⟩
 ·exact⟨_,rfl⟩
 ·cases e
 ·exact⟨_,rfl⟩
 ·cases e
theorem kin.eqBool {x:Bool} {v:Value} (h:kin (.bool x) v):∃y,v= .bool y:=by
 rcases h with rfl|⟨_,_,e,_,_⟩|⟨_,_,e,_,_⟩|⟨_,y,_,rfl⟩
 ·exact⟨_,rfl⟩
 ·cases e
 ·cases e
 ·exact⟨_,rfl⟩
theorem kin.eqSlice {A:Option Addr} {n c:Nat} {v:Value} (h:kin (.slice A n c) v):v= .slice A n c:=by
 rcases h with rfl|⟨_,_,e,_,_⟩|⟨_,_,e,_,_⟩|⟨_,_,e,_⟩
 ·rfl
 ·cases e
 ·cases e
 ·cases e
structure Like (S:Nat->Prop) (w w':World):Prop where
 os:w'.os=w.os
 tape:w'.tape=w.tape
 output:w'.output=w.output
 size:w.heap.size<=w'.heap.size
 block:∀b,b<w.heap.size->¬S b->w'.heap[b]? =w.heap[b]?
 frozen:∀b o,b<w.heap.size->w'.frozen? ⟨b,o,none⟩=w.frozen? ⟨b,o,none⟩
 kin:∀b o u,w.cell? ⟨b,o,none⟩=some u->∃u',w'.cell? ⟨b,o,none⟩=some u'/\kin u u'
theorem Like.refl (S:Nat->Prop) (w:World):Like S w w:=⟨rfl,rfl,rfl,Nat.le_refl _,λ_ _ _=>rfl,λ_ _ _=>rfl,λ_ _ u h=>⟨u,h,.refl u⟩⟩
theorem Like.trans {S:Nat->Prop} {a b c:World} (h:Like S a b) (k:Like S b c):Like S a c:=
 ⟨k.os.trans h.os, k.tape.trans h.tape, k.output.trans h.output, Nat.le_trans h.size k.size, fun i hi hs => (k.block i (Nat.lt_of_lt_of_le hi h.size) hs).trans (h.block i hi hs),
  fun i o hi => (k.frozen i o (Nat.lt_of_lt_of_le hi h.size)).trans (h.frozen i o hi), fun i o u hu => by
   obtain⟨u1,q1,q2⟩:=h.kin i o u hu
   obtain⟨u2,q3,q4⟩:=k.kin i o u1 q1
   exact⟨u2,q3,q2.trans q4⟩⟩
theorem Like.of_below {S:Nat->Prop} {w w':World} (h:Below w.heap.size w w'):Like S w w':=
 ⟨h.os,h.tape,h.output,h.size,λb hb _=>h.block b hb,λb o hb=>h.frozen (p:=⟨b,o,none⟩) hb,λb o u hu=>⟨u,(h.cell (p:=⟨b,o,none⟩) (World.block_lt_of_cell? w _ hu)).trans hu,.refl u⟩⟩
theorem Like.setCell_ {S:Nat->Prop} {w:World} {b o:Nat} {u v:Value} (hu:w.cell? ⟨b,o,none⟩=some u) (hk:Go.Proofs.YtfdkldmkbibknaaGreat.kin u v) (hS:S b):Like S w (w.setCell ⟨b,o,none⟩ v) where
 os:=rfl
 tape:=rfl
 output:=rfl
 size:=by simp[World.setCell]
 block:=λi _ hi=>Below.heap_setCell w ⟨b,o,none⟩ v i (λe=>hi (by simp at e;subst e;exact hS))
 frozen:=λi o' _=>World.frozen?_setCell _ _ _ _
 kin:=λi o' x hx=>by
  by_cases e:i=b/\o'=o
  ·obtain⟨rfl,rfl⟩:=e
   rw[hu]at hx
   cases hx
   refine⟨v,?_,hk⟩
   exact World.cell?_setCell_same w _ v (by rw[hu])
  ·refine⟨x,?_,.refl x⟩
   rw[World.cell?_setCell_other w ⟨b,o,none⟩ ⟨i,o',none⟩ v (λq=>e (by injection q with q1 q2;exact⟨q1.symm,q2.symm⟩))]
   exact hx
theorem Like.set {S:Nat->Prop} {w0 w:World} (h:Like S w0 w) {b o:Nat} {u v:Value} (hu:w.cell? ⟨b,o,none⟩=some u) (hk:Go.Proofs.YtfdkldmkbibknaaGreat.kin u v) (hS:S b):Like S w0 (w.setCell ⟨b,o,none⟩ v):=h.trans (.setCell_ hu hk hS)
theorem Like.next {S:Nat->Prop} {w0 w w':World} (h:Like S w0 w) (hb:Below w.heap.size w w'):Like S w0 w':=h.trans (.of_below hb)
theorem Like.below {S:Nat->Prop} {w w':World} {B:Nat} (h:Like S w w') (hB:B<=w.heap.size) (hS:∀b,S b->B<=b):Below B w w':=
 ⟨h.os,h.tape,h.output,h.size,λb hb=>h.block b (by omega) (λq=>by have:=hS b q;omega)⟩
theorem Like.mono {S S':Nat->Prop} {w w':World} (h:Like S w w') (hS:∀b,S b->S' b):Like S' w w':={h with block:=λb hb hn=>h.block b hb λq=>hn (hS b q)}
def Soft (S:Nat->Prop) (w:World):Prop:=∀b,S b->b<w.heap.size/\∀o,w.frozen? ⟨b,o,none⟩=false
theorem Soft.like {S S':Nat->Prop} {w w':World} (h:Soft S w) (k:Like S' w w'):Soft S w':=λb hb=>⟨Nat.lt_of_lt_of_le (h b hb).1 k.size,λo=>(k.frozen b o (h b hb).1).trans ((h b hb).2 o)⟩
def Unf (w w':World):Prop:=∀a,w'.frozen? a=w.frozen? a
theorem Unf.refl (w:World):Unf w w:=λ_=>rfl
theorem Unf.trans {a b c:World} (h:Unf a b) (k:Unf b c):Unf a c:=λx=>(k x).trans (h x)
theorem Unf.alloc {a b:World} (h:Unf a b) (cs:Array Value) (t:TypeId):Unf a (b.alloc (.cells cs t)):=λx=>(frozen?_alloc_cells _ _ _ x).trans (h x)
theorem Unf.setCell {a b:World} (h:Unf a b) (p:Addr) (v:Value):Unf a (b.setCell p v):=λx=>(World.frozen?_setCell _ _ _ _).trans (h x)
theorem Unf.soft {w w':World} (h:Unf w w') {S:Nat->Prop} (hS:∀b,S b->w.heap.size<=b/\b<w'.heap.size):Soft S w':=λb hb=>⟨(hS b hb).2,λo=>(h _).trans (by
 show World.frozen? w _=false
 unfold World.frozen?
 rw[Array.getElem?_eq_none (hS b hb).1])⟩
theorem At.like {S T:Nat->Prop} {w w':World} {d:D} {v:Value} (h:At w T d v) (k:Like S w w') (hd:∀b,T b->¬S b):At w' T d v:=
 h.keep (λb o hT hlt=>by show World.cell? w' _=World.cell? w _;unfold World.cell?;rw[k.block b hlt (hd b hT)]) (λ_ h _=>h)
def AtS (w:World) (S:Nat->Prop) (d:D) (v:Value):Prop:=
 match d with
 |⟨some u,_,_⟩=>kin u v/\okLit v
 | ⟨none, n, cs⟩ => ∃ A c, v = .slice A n c ∧ n ≤ c ∧ c ≤ 9223372036854775807 ∧
   (0<cs.length->∃b off,A=some ⟨b,off,none⟩/\S b/\∀k,(h:k<cs.length)->∃u,w.cell? ⟨b,off+k,none⟩=some u/\AtS w S cs[k] u)
termination_by d
decreasing_by
 have hx:=List.sizeOf_lt_of_mem (gM h)
 simp only[D.mk.sizeOf_spec]
 omega
theorem atS_lit {w:World} {S:Nat->Prop} {u v:Value}:AtS w S (.lit u) v↔(kin u v/\okLit v):=by unfold D.lit;rw[AtS]
theorem atS_row {w:World} {S:Nat->Prop} {n:Nat} {cs:List D} {v:Value}:AtS w S (.row n cs) v↔(∃A c,v= .slice A n c/\n<=c/\c<=9223372036854775807/\
   (0<cs.length->∃b off,A=some ⟨b,off,none⟩/\S b/\∀k,(h:k<cs.length)->∃u,w.cell? ⟨b,off+k,none⟩=some u/\AtS w S cs[k] u)):=by
 unfold D.row;rw[AtS]
theorem At.shape {w:World} {S:Nat->Prop} {d:D}:∀{v:Value},At w S d v->AtS w S d v:=by
 induction d using D.induct with
 | hl u n cs =>
  intro v h
  rw[At]at h
  rw[AtS]
  exact⟨.inl h.1,by rw[h.1];exact h.2⟩
 | hr n cs ih =>
  intro v h
  rw[at_row]at h
  rw[atS_row]
  obtain⟨A,c,h1,h2,h3,h4⟩:=h
  refine⟨A,c,h1,h2,h3,λhp=> ?_⟩
  obtain⟨b,off,e,hs,hc⟩:=h4 hp
  refine⟨b,off,e,hs,λk hk'=> ?_⟩
  obtain⟨u,hu,hat⟩:=hc k hk'
  exact⟨u,hu,ih k hk' hat⟩
theorem AtS.like {w w':World} {S S':Nat->Prop} (hk:Like S' w w') {d:D}:∀{v v':Value},AtS w S d v->kin v v'->AtS w' S d v':=by
 induction d using D.induct with
 | hl u n cs =>
  intro v v' h k
  rw[AtS]at h ⊢
  exact⟨h.1.trans k,k.ok h.2⟩
 | hr n cs ih =>
  intro v v' h k
  rw[atS_row]at h ⊢
  obtain⟨A,c,rfl,h2,h3,h4⟩:=h
  refine⟨A,c,k.eqSlice,h2,h3,λhp=> ?_⟩
  obtain⟨b,off,e,hs,hc⟩:=h4 hp
  refine⟨b,off,e,hs,λj hj=> ?_⟩
  obtain⟨u,hu,hat⟩:=hc j hj
  obtain⟨u',q1,q2⟩:=hk.kin _ _ _ hu
  exact⟨u',q1,ih j hj hat q2⟩
theorem AtS.next {w w':World} {S S':Nat->Prop} {d:D} {v:Value} (h:AtS w S d v) (hk:Like S' w w'):AtS w' S d v:=h.like hk (.refl v)
theorem AtS.slice {w:World} {S:Nat->Prop} {n:Nat} {cs:List D} {v:Value} (h:AtS w S (.row n cs) v):∃A c,v= .slice A n c/\n<=c/\c<=9223372036854775807:=by
 obtain⟨A,c,h1,h2,h3,_⟩:=atS_row.1 h
 exact⟨A,c,h1,h2,h3⟩
theorem AtS.cellAt {w:World} {S:Nat->Prop} {n c:Nat} {cs:List D} {A:Option Addr} (h:AtS w S (.row n cs) (.slice A n c)) (hp:0<cs.length):
  ∃b off,A=some ⟨b,off,none⟩/\S b/\b<w.heap.size/\∀(k:Nat) (d:D),cs[k]? =some d->∃u,w.cell? ⟨b,off+k,none⟩=some u/\AtS w S d u:=by
 obtain⟨A',c',h1,_,_,h4⟩:=atS_row.1 h
 obtain⟨rfl,_,rfl⟩:A=A'/\n=n/\c=c':=by injection h1 with a b c;exact⟨a,b,c⟩
 obtain⟨b,off,e,hs,hc⟩:=h4 hp
 refine⟨b,off,e,hs,?_,λk d hd=> ?_⟩
 ·obtain⟨u,hu,_⟩:=hc 0 hp
  exact World.block_lt_of_cell? w _ hu
 ·obtain⟨hk,rfl⟩:=gI.1 hd
  exact hc k hk
theorem atS_int {w:World} {S:Nat->Prop} {x:Int} {v:Value} (h:AtS w S (.lit (.int .i64 x)) v):∃y,v= .int .i64 y:=(atS_lit.1 h).1.eqInt
theorem ints_getS {w:World} {S:Nat->Prop} {xs:List Int} {A:Option Addr} {n c k:Nat} (h:AtS w S (ints xs) (.slice A n c)) (hk:k<xs.length):
  ∃b off x,A=some ⟨b,off,none⟩/\S b/\b<w.heap.size/\w.cell? ⟨b,off+k,none⟩=some (.int .i64 x):=by
 have hn:n=xs.length:=by obtain⟨_,_,e,_⟩:=AtS.slice h;injection e
 subst hn
 obtain⟨b,off,e,hs,hlt,hc⟩:=AtS.cellAt h (by simp;omega)
 obtain⟨u,hu,ha⟩:=hc k (.lit (.int .i64 (xs.getD k 0))) (by simp[List.getD,hk])
 obtain⟨y,rfl⟩:=atS_int ha
 exact⟨b,off,y,e,hs,hlt,hu⟩
end Go.Proofs.YtfdkldmkbibknaaGreat
namespace Go.Proofs.YtfdkldmkbibknaaGreat.Den
open Go.ChangeShapes Go.WideShapes Go.ChangeAt Go.RowKit Go.Deep Go.Joins
open Abs (V AV VRs VR AR ARs Inf Fn)
theorem list_vr {T:Ty} (hp:0<szT T) {w:World} {S J:Nat->Prop} (hS:∀b,S b->b<w.heap.size->J b) (f:I T->List D) (hf:∀x,(f x).length=szT T) {xs:List (I T)} {v:Value} (h:At w S (.row xs.length (xs.flatMap f)) v)
  (he:∀x∈xs,∀us:List Value,us.length=szT T->(∀(j:Nat) (d:D) (u:Value),(f x)[j]? =some d->us[j]? =some u->At w S d u)->∃vs:List V,FRs (explode T x) vs/\VRs [] J w vs us):
  ∃es,FR (.l T xs) (.imm (szT T) es)/\VR J w [] (.imm (szT T) es) v:=by
 obtain⟨A,cap,rfl,g1,g2⟩:=h.slice
 rcases Nat.eq_zero_or_pos xs.length with h0|hpos
 ·obtain rfl:=nZ h0
  exact⟨[],FR.nil_ hp,.imm0 g2⟩
 ·obtain⟨b,off,rfl,hb,hlt,hc⟩:=At.cellAt h (by rw[flat_len _ _ hf];exact Nat.mul_pos hpos hp)
  have key:∀i,i<xs.length->∃q:List V×List Value,((∀x,xs[i]? =some x->FRs (explode T x) q.1)/\VRs [] J w q.1 q.2)/\q.2.length=szT T/\∀j,j<szT T->w.cell? ⟨b,off+(i*szT T+j),none⟩=q.2[j]? :=λi hi=>by
   have hat:∀j,j<szT T->(xs.flatMap f)[i*szT T+j]? =(f xs[i])[j]? :=λj hj=>by
    rw[flat_at _ _ hf _ _ _ hj,gE hi];rfl
   have hcell:∀j,j<szT T->∃d u,(f xs[i])[j]? =some d/\w.cell? ⟨b,off+(i*szT T+j),none⟩=some u/\At w S d u:=λj hj=>by
    have e1:(f xs[i])[j]? =some ((f xs[i])[j]'(by rw[hf];exact hj)):=gE _
    obtain⟨u,u1,u2⟩:=hc _ _ ((hat j hj).trans e1)
    exact⟨_,u,e1,u1,u2⟩
   have hus:∀j,j<szT T->((List.range (szT T)).map λj=>(w.cell? ⟨b,off+(i*szT T+j),none⟩).getD undef)[j]? =w.cell? ⟨b,off+(i*szT T+j),none⟩:=λj hj=>by
    obtain⟨d,u,_,u1,_⟩:=hcell j hj
    simp[hj,u1]
   obtain⟨vs,k1,k2⟩:=he xs[i] (gM hi) ((List.range (szT T)).map λj=>(w.cell? ⟨b,off+(i*szT T+j),none⟩).getD undef) (by simp) λj d u hd hu=>by
    have hj:j<szT T:=by
     have:=(gI.1 hu).1
     simpa using this
    rw[hus j hj]at hu
    obtain⟨d',u',q1,q2,q3⟩:=hcell j hj
    rw[hd]at q1
    rw[hu]at q2
    cases q1
    cases q2
    exact q3
   exact⟨(vs,_),⟨λx hx=>by rw[gE hi]at hx;cases hx;exact k1,k2⟩,by simp,λj hj=>(hus j hj).symm⟩
  have:Inhabited (List V×List Value):=⟨([],[])⟩
  obtain⟨F,hF⟩:=choose_lt (α:=List V×List Value) (n:=xs.length) (p:=λi q=>((∀x,xs[i]? =some x->FRs (explode T x) q.1)/\VRs [] J w q.1 q.2)/\q.2.length=szT T/\∀j,j<szT T->w.cell? ⟨b,off+(i*szT T+j),none⟩=q.2[j]?) key
  have hvl:∀i,i<xs.length->(F i).1.length=szT T:=λi hi=>by
   obtain⟨⟨_,f2⟩,f3,_⟩:=hF i hi
   rw[<-f2.1,f3]
  refine⟨(List.range xs.length).map λi=>(F i).1,.l hp (by simp) (λe he=> ?_) (λm m1 m2 j j1 j2=> ?_),?_⟩
  ·obtain⟨i,hi,rfl⟩:=List.mem_map.1 he
   exact hvl i (by simpa using hi)
  ·simp only[List.getElem_map,List.getElem_range]at j1 j2 ⊢
   exact((hF m m1).1.1 _ (gE m1)).2 j j1 j2
  ·have hl:((List.range xs.length).map λi=>(F i).1).length=xs.length:=by simp
   have:=VR.imm (I:=J) (w:=w) (ι:=[]) (s:=szT T) (b:=b) (off:=off) (c:=cap) (es:=(List.range xs.length).map λi=>(F i).1) (f:=λk j=>(F k).2.getD j undef) (λe he=>by
    obtain⟨i,hi,rfl⟩:=List.mem_map.1 he
    exact hvl i (by simpa using hi)) (by rw[hl];exact g1) g2 (hS b hb hlt) (λk j hk hj=>by
    rw[hl]at hk
    obtain⟨_,f3,f4⟩:=hF k hk
    rw[f4 j hj,gE (by omega)]
    simp[List.getD,f3,hj]) (λk hk j hj=>by
    have hk':k<xs.length:=by simpa using hk
    simp only[List.getElem_map,List.getElem_range]at hj ⊢
    obtain⟨⟨_,f2⟩,f3,_⟩:=hF k hk'
    obtain⟨u,u1,u2⟩:=f2.2 j hj
    have:(F k).2.getD j undef=u:=by simp[List.getD,u1]
    rw[this]
    exact u2)
   rw[hl]at this
   exact this
theorem vrs1 {J:Nat->Prop} {w:World} {v:V} {u:Value} (h:VR J w [] v u):VRs [] J w [v] [u]:=⟨rfl,λj hj=>by
 have:j=0:=by simp at hj;omega
 subst this;exact⟨u,rfl,h⟩⟩
theorem vrs_cons {J:Nat->Prop} {w:World} {v:V} {u:Value} {vs:List V} {us:List Value} (h:VR J w [] v u) (k:VRs [] J w vs us):VRs [] J w (v::vs) (u::us):=⟨by have:=k.1;simp[this],λj hj=>by
 cases j with
 |zero=>exact⟨u,rfl,h⟩
 | succ j =>
  obtain⟨x,h1,h2⟩:=k.2 j (by simpa using hj)
  exact⟨x,by simpa using h1,h2⟩⟩
theorem frs_nil :FRs [] []:=⟨rfl,λj h=>by simp at h⟩
theorem frs_cons {c:C} {v:V} {cs:List C} {vs:List V} (h:FR c v) (k:FRs cs vs):FRs (c::cs) (v::vs):=⟨by have:=k.1;simp[this],λj h1 h2=>by
 cases j with
 |zero=>exact h
 |succ j=>exact k.2 j (by simpa using h1) (by simpa using h2)⟩
section
variable {w : World} {S J : Nat → Prop} (hS : ∀ b, S b → b < w.heap.size → J b)
include hS
theorem ints_vr {xs:List Int} {v:Value} (h:At w S (ints xs) v):∃es,FR (.l .i xs) (.imm 1 es)/\VR J w [] (.imm 1 es) v:=by
 have h':At w S (.row xs.length (xs.flatMap λx=>[D.lit (.int .i64 x)])) v:=by rw[<-List.map_eq_flatMap];exact h
 refine list_vr (T:=.i) (by decide) hS (λx=>[.lit (.int .i64 x)]) (λ_=>rfl) (xs:=xs) h' λx _ us hl hu=> ?_
 match us,hl with
 | [u], _ =>
  obtain⟨rfl,hk⟩:=at_lit.1 (hu 0 _ u rfl rfl)
  exact⟨[.lit (.int .i64 x)],frs_cons .i frs_nil,vrs1 (.lit hk)⟩
theorem tm_vr (t:Tm):∀v,At w S (terms t.args) v->∃es,FR (.l (.n 1) t.args) (.imm 4 es)/\VR J w [] (.imm 4 es) v:=by
 induction t using Tm.induct with
 | h o n s args ih =>
  intro v h
  refine list_vr (T:=.n 1) (by decide) hS Tm.cells Tm.cells_len (xs:=args) h λx hx us hl hu=> ?_
  match us,hl with
  | [a, b, c, d], _ =>
   obtain⟨rfl,ka⟩:=at_lit.1 (hu 0 _ a rfl rfl)
   obtain⟨rfl,kb⟩:=at_lit.1 (hu 1 _ b rfl rfl)
   obtain⟨rfl,kc⟩:=at_lit.1 (hu 2 _ c rfl rfl)
   have kd:At w S (terms (Tm.args x)) d:=by have e:=Tm.d_eq x;rw[<-e];exact hu 3 _ d rfl rfl
   obtain⟨es,k1,k2⟩:=ih x hx d kd
   exact⟨[.lit (.int .i64 (Tm.op x)),.lit (.string (Tm.name x)),.lit (.int .i64 (Tm.sort x)),.imm 4 es],frs_cons .i (frs_cons .s (frs_cons .i (frs_cons k1 frs_nil))),vrs_cons (.lit ka) (vrs_cons (.lit kb) (vrs_cons (.lit kc) (vrs1 k2)))⟩
theorem terms_vr {ts:List Tm} {v:Value} (h:At w S (terms ts) v):∃es,FR (.l (.n 1) ts) (.imm 4 es)/\VR J w [] (.imm 4 es) v:=tm_vr hS ⟨0,ByteArray.empty,0,ts⟩ v h
omit hS in
theorem ar_agg {vs:List V} {cs:List Value} (h:VRs [] J w vs cs):AR [] J w (.agg vs) (.agg cs.toArray):=by
 refine .agg (f:=λj=>cs.getD j undef) (by have:=h.1;simpa using this) (λj hj=> ?_) (λj hj=> ?_)
 ·have:=h.1
  simp[List.getD,show j<cs.length by omega]
 ·obtain⟨u,u1,u2⟩:=h.2 j hj
  have:cs.getD j undef=u:=by simp[List.getD,u1]
  rw[this]
  exact u2
end
theorem arg_int {w:World} {J:Nat->Prop} {x:Int} (h:(Lit.int .i64 x).wf=true):∃y,ATR [] [] (.one (.i x)) (.one y)/\AR [] J w (.one y) (.int .i64 x):=⟨_,.one (.fl .i),.one (.lit h)⟩
theorem calls_cfn {P:Program} {f:FuncId} {xs:List AT} {v:AT} {H':List Ob} (hc:CFn P f xs [] v H') {w:World} {J:Nat->Prop} {avs:List AV} {vs:Array Value} (hJ:∀b,J b->b<w.heap.size) (hx:ATRs [] [] xs avs) (hA:ARs [] J w avs vs):
  Calls P f vs w λe w'=>∃r h' ι' I' c ρ',e= .returned c/\ATR ρ' H' v r/\HpR ρ' H' h'/\Abs.Done w J [] [] r h' ι' I' c w'/\Below w.heap.size w w':=by
 have hF:=hc [] [] avs HpR.nil_ hx
 refine(hF.2 w J [] vs (Abs.HR.nil _ w) hJ hA).mono ?_
 rintro e w' ⟨r,h',ι',I',c,⟨ρ',hr,hp,_⟩,rfl,D⟩
 exact⟨r,h',ι',I',c,ρ',rfl,hr,hp,D,⟨D.os,D.tape,D.output,D.grown,λb hb=>D.frame b hb (Abs.noPass b)⟩⟩
section
variable {ρ : Rho} {H : List Ob} {ι : List Inf} {J : Nat → Prop} {w : World} {h : Abs.Heap}
theorem res_one {a:C} {r:AV} {c:Value} (h1:ATR ρ H (.one a) r) (h2:AR ι J w r c):∃v,CR ρ H a v/\VR J w ι v c:=by
 cases h1 with
 | one h1 => cases h2 with
  |one h2=>exact⟨_,h1,h2⟩
theorem arr2 {cs:Array Value} (h:cs.size=2):∃a b,cs= #[a,b]:=by
 rcases cs with⟨l⟩
 match l,h with
 |[a,b],_=>exact⟨a,b,rfl⟩
theorem res_tup2 {a b:AT} {r:AV} {c:Value} (h1:ATR ρ H (.tup [a,b]) r) (h2:AR ι J w r c):∃r1 r2 c1 c2,c= .tuple #[c1,c2]/\ATR ρ H a r1/\AR ι J w r1 c1/\ATR ρ H b r2/\AR ι J w r2 c2:=by
 cases h1 with
 | @tup _ ys hl hr =>
  match ys,hl with
  | [y1, y2], _ =>
   cases h2 with
   | @tup _ cs f hl' hcs hr'=>
    obtain⟨c1,c2,rfl⟩:=arr2 hl'
    have e1:=hcs 0 (by simp)
    have e2:=hcs 1 (by simp)
    simp at e1 e2
    subst e1 e2
    exact⟨y1,y2,_,_,rfl,hr 0 (by simp) (by simp),hr' 0 (by simp),hr 1 (by simp) (by simp),hr' 1 (by simp)⟩
theorem res_int {x:Int} {v:V} {c:Value} (h1:CR ρ H (.i x) v) (h2:VR J w ι v c):c= .int .i64 x/\(Lit.int .i64 x).wf=true:=by
 cases h1 with
 | fl h1 => cases h1 with
  | i => cases h2 with
   |lit h=>exact⟨rfl,h⟩
theorem res_bool {x:Bool} {v:V} {c:Value} (h1:CR ρ H (.b x) v) (h2:VR J w ι v c):c= .bool x:=by
 cases h1 with
 | fl h1 => cases h1 with
  | b => cases h2 with
   |lit h=>rfl
theorem res_str {x:ByteArray} {v:V} {c:Value} (h1:CR ρ H (.s x) v) (h2:VR J w ι v c):c= .string x/\x.size<=maxLen:=by
 cases h1 with
 | fl h1 => cases h1 with
  | s => cases h2 with
   |lit h=>exact⟨rfl,h⟩
theorem ints_of {xs:List Int} {es:List (List V)} (h:FR (.l .i xs) (.imm 1 es)):es.length=xs.length/\∀(k:Nat),k<xs.length->∃e,es[k]? =some e/\e=[.lit (.int .i64 (xs.getD k 0))]:=by
 obtain⟨hl,hs,hr⟩:es.length=xs.length/\(∀e∈es,e.length=1)/\∀(m:Nat) (h1:m<xs.length) (h2:m<es.length) (j:Nat) (h3:j<(explode .i xs[m]).length) (h4:j<es[m].length),FR (explode .i xs[m])[j] es[m][j]:=by
  cases h with
  |l hp hl hs hr=>exact⟨hl,hs,hr⟩
 refine⟨hl,λk hk=>⟨es[k],gE (by omega),?_⟩⟩
 have h1:=hs es[k] (gM _)
 have h2:=hr k hk (by omega) 0 (by show 0<[C.i _].length;simp) (by omega)
 match hq:es[k],h1 with
 | [x], _ =>
  simp only[hq]at h2
  have:FR (.i xs[k]) x:=h2
  cases this
  simp[List.getD,hk]
theorem res_ints {xs:List Int} {v:V} {c:Value} (h1:CR ρ H (.l .i xs) v) (h2:VR J w ι v c):At w J (ints xs) c:=by
 obtain⟨es,rfl,hf⟩:∃es,v= .imm 1 es/\FR (.l .i xs) (.imm 1 es):=by
  cases h1 with
  | fl h1 => cases h1 with
   |l hp hl hs hr=>exact⟨_,rfl,.l hp hl hs hr⟩
 obtain⟨hl,he⟩:=ints_of hf
 cases h2 with
 | imm0 hc =>
  obtain rfl:=nZ hl.symm
  exact ints_mk (Nat.zero_le _) hc λh=>by simp at h
 | @imm _ _ b off cap _ f hs hc hm hI hcell hr=>
  rw[hl]
  refine ints_mk (by omega) hm λ_=>⟨b,off,rfl,hI,λk hk=> ?_⟩
  obtain⟨e,e1,e2⟩:=he k hk
  obtain⟨hk',e3⟩:=gI.1 e1
  have hlen:0<es[k].length:=by rw[e3,e2];simp
  have q1:=hcell k 0 hk' (by omega)
  have q2:=hr k hk' 0 hlen
  simp only[e3,e2,List.getElem_cons_zero]at q2
  generalize f k 0=z at q1 q2
  cases q2 with
  |lit hk2=>exact⟨by simpa using q1,hk2⟩
end
end Go.Proofs.YtfdkldmkbibknaaGreat.Den
namespace Go.Proofs.YtfdkldmkbibknaaGreat.Den
open Go.RowKit
open Abs (V AV Env Heap ar aw ao Cx Rel passOf)
def app :List Code->Code->Code
 |[],t=>t
 |x::xs,t=>.seq x (app xs t)
def spine :Nat->Code->List Code×Code
 |n+1,.seq x y=>(x::(spine n y).1,(spine n y).2)
 |_,c=>([],c)
theorem app_spine :∀(n:Nat) (c:Code),app (spine n c).1 (spine n c).2=c
 |0,c=>by cases c<;>rfl
 | n + 1, c => by
  cases c with
  |seq x y=>exact congrArg (Code.seq x) (app_spine n y)
  |_=>rfl
section
variable {P : Program} {E : Cx} {F : In} {R : Type} {tb : Nat → Option TI} {O : Orc}
theorem den_tail (hm:P.follows .mixedOrders=true) (htb:TBOK P tb) (hO:OrcOK P O) {an:Ann} {pc:Pcs} (hE:E.n=an.nt) (hF:F.ok an.refs) (hc:an.cuts=[]) {tail:Code} {Q:Exit->Act->World->Prop} {K:Kt R} {r:R}
  (hq:∀e ρ st L h ι I a w,K e st=some r->SR F ρ st L h->Rel E L h ι I a w->Exit.then (tail.wp P Q) Q e a w):
  ∀{xs:List Code} {st:St} {ρ:Rho} {L:Env} {h:Heap} {ι:List Abs.Inf} {I:Nat->Prop} {a:Act} {w:World},AllP P an pc (pieces an (app xs .skip))->den tb O pc an (app xs .skip) st K=some r->SR F ρ st L h->Rel E L h ι I a w->(app xs tail).wp P Q a w
 |[],st,ρ,L,h,ι,I,a,w,_,hd,hs,hr=>hq .normal _ _ _ _ _ _ _ _ hd hs hr
 | x :: xs, st, ρ, L, h, ι, I, a, w, hP, hd, hs, hr => by
  have hP':AllP P an pc (pieces an x++pieces an (app xs .skip)):=by
   have e:pieces an (app (x::xs) .skip)=pieces an x++pieces an (app xs .skip):=by
    show pieces an (.seq x (app xs .skip))=_
    conv=>lhs;unfold pieces
    rw[hc]
    rfl
   rw[<-e];exact hP
  obtain⟨hP1,hP2⟩:=hP'.app
  have hd':den tb O pc an x st (thenK (λst'=>den tb O pc an (app xs .skip) st' K) K)=some r:=by
   have e:den tb O pc an (app (x::xs) .skip) st K=den tb O pc an x st (thenK (λst'=>den tb O pc an (app xs .skip) st' K) K):=by
    show den tb O pc an (.seq x (app xs .skip)) st K=_
    conv=>lhs;unfold den
    rw[hc]
    rfl
   rw[<-e];exact hd
  refine wp_seq (wp_mono ((den_ok hm htb hO hE hF (c:=x) hP1 hd' hs).get _ _ _ _ hr) ?_)
  rintro e a' w' ⟨L',h',ι',I',⟨ρ',st',k1,k2⟩,r'⟩
  cases e with
  |normal=>exact den_tail hm htb hO hE hF hc hq hP2 k1 k2 r'
  |_=>exact hq _ ρ' st' _ _ _ _ _ _ k1 k2 r'
theorem calls_tail {f:FuncId} {fn:Func} {c:Code} {an:Ann} {pc:Pcs} {xs:List AT} (n:Nat) {K:Kt R} {r:R} {w:World} {J:Nat->Prop} {avs:List AV} {vs:Array Value} {Q:Ending->World->Prop}
  (hm:P.follows .mixedOrders=true) (htb:TBOK P tb) (hO:OrcOK P O) (hf:P.funcs[f]? =some fn) (hb:fn.body=some c) (hnt:Nat.beq fn.ntmps an.nt=true) (hr:Nat.beq an.refs 0=true) (hcut:an.cuts=[])
  (hx:Nat.ble xs.length an.nt=true) (hP:AllP P an pc (pieces an (app (spine n c).1 .skip))) (hd:den tb O pc an (app (spine n c).1 .skip) ⟨argsD 0 xs,[]⟩ K=some r)
  (hJ:∀b,J b->b<w.heap.size) (ha:ATRs [] [] xs avs) (hA:Abs.ARs [] J w avs vs)
  (hq:∀e ρ st L h ι I a w',K e st=some r->SR ⟨[],[],[]⟩ ρ st L h->Rel ⟨w,passOf [] [],[],fn.ntmps,J⟩ L h ι I a w'->Exit.then ((spine n c).2.wp P (bodyPost P fn Q)) (bodyPost P fn Q) e a w'):Calls P f vs w Q:=by
 have hnt:=nB hnt
 have hx:=Nat.le_of_ble_eq_true hx
 have hr:=nB hr
 refine calls_of_wp hf hb ?_
 have rel : Rel ⟨w, passOf [] [], [], fn.ntmps, J⟩ (Abs.argEnv 0 avs) [] [] J { tmps := vs ++ Array.replicate (fn.ntmps - vs.size) undef, defers := [] } w :=
  { slots := fun t v hv => by
      obtain⟨_,h2⟩:=Abs.argEnv_lookup avs 0 t v hv
      rw[Nat.sub_zero]at h2
      obtain⟨hlt,rfl⟩:=gI.1 h2
      obtain⟨c,h3,h4⟩:=hA.2 t hlt
      exact⟨c,by rw[Array.getElem?_append_left (by rw[hA.1];exact hlt)];exact h3,h4⟩
    heap:=Abs.HR.nil _ w
    imm:=hJ
    immlo:=λ_ hb=>.inl hb
    pre:=Abs.Grows.refl _
    os:=rfl
    tape:=rfl
    output:=rfl
    grown:=Nat.le_refl _
    frame:=λ_ _ _=>rfl
    mine:=λid o inf h1 h2=>by simp at h1
    defers:=rfl
    size:=by
      show (vs++Array.replicate (fn.ntmps-vs.size) undef).size=fn.ntmps
      have h1:=hA.1
      have h2:=ha.1
      simp
      omega}
 have hsr:SR ⟨[],[],[]⟩ [] ⟨argsD 0 xs,[]⟩ (Abs.argEnv 0 avs) []:=⟨argsD_enc ha,HpR.nil_,Fr.refl _ _ _,XR.none_ λid y hy=>by simp at hy⟩
 have hF:(In.mk [] [] []).ok an.refs:=⟨hr.symm,hr.symm⟩
 have:=den_tail (F:=⟨[],[],[]⟩) (tail:=(spine n c).2) hm htb hO (E:=⟨w,passOf [] [],[],fn.ntmps,J⟩) hnt hF hcut hq hP hd hsr rel
 rw[app_spine]at this
 exact this
end
end Go.Proofs.YtfdkldmkbibknaaGreat.Den
namespace Go.Proofs.YtfdkldmkbibknaaGreat.Den
open Go.RowKit
open Classical
abbrev Al :=List Int×List Int×List Int×List ByteArray×List Sb×List Opr×List (ByteArray×Int)
noncomputable def algF (s:Sg):Al:=(upI s.sorts.names.length s.sorts.subs,belowI (upI s.sorts.names.length s.sorts.subs),kindI s.sorts.names.length s.sorts.subs,s.sorts.names,s.sorts.subs,s.ops,[])
noncomputable def gNewA:Sg->Option (Option Al):=λs=>some (if sigF s=true then some (algF s)else none)
theorem sigF_sorts {s:Sg} (h:sigF s=true):sortsF s.sorts=true:=by
 unfold sigF at h
 rw[bA]at h
 exact h.1
theorem newAlgebra_ok :EO (z0z.ent gNewA):=z0z.ok (G:=⟨λs=>some (sigF s),λs=>some (orderF s)⟩) ⟨z0c,newOrder_ok,trivial⟩ λs r h=>⟨1,by
 cases h
 unfold z0z.main
 by_cases hs:sigF s=true
 ·rw[if_pos hs]
  dsimp only
  rw[bS,hs,Bool.not_true,cF,bS,show orderF s.sorts=(⟨upI s.sorts.names.length s.sorts.subs,belowI (upI s.sorts.names.length s.sorts.subs),kindI s.sorts.names.length s.sorts.subs⟩,true)from if_pos (sigF_sorts hs)]
  rfl
 ·rw[if_neg hs]
  dsimp only
  rw[bS,Bool.eq_false_iff.2 hs]
  rfl⟩
noncomputable def parseF (s:Sg) (t:ByteArray):Tm×Bool:=if sigF s=true/\t.size<=2000/\(readI s t 20 0).2.1=true/\spA t (readI s t 20 0).2.2=t.size then ((readI s t 20 0).1,true)else (Zt,false)
theorem atP0 {t:ByteArray} (h:t.size<=2000):atP t 0:=⟨h,Int.le_refl _,by omega⟩
theorem z2y :EO (z2x.ent λs t=>some (parseF s t)):=z2x.ok (G:=⟨λs=>some (sigF s),gRd 21,gSkS⟩) ⟨z2t,l8Read_ok 21,l8Skip_ok,trivial⟩ λs t r h=>⟨1,by
 cases h
 obtain⟨⟨nm,sb⟩,ops⟩:=s
 unfold z2x.main parseF
 by_cases hs:sigF ⟨⟨nm,sb⟩,ops⟩=true
 ·dsimp only
  rw[bS,hs,Bool.not_true,cF]
  by_cases hl:t.size<=2000
  ·rw [decide_eq_false (by omega), cond_false]
   have e1:gRd 21 nm sb ops t 0 false 1=some (readS ⟨⟨nm,sb⟩,ops⟩ t 20 0):=if_pos ⟨hs,atP0 hl,rfl,by omega,by omega,by decide⟩
   rw[e1,bS]
   obtain⟨r1,_⟩:=readS_in ⟨⟨nm,sb⟩,ops⟩ t 20 0 (atP0 hl)
   obtain⟨s1,s2⟩:=same_read hs t 20 0 (atP0 hl)
   have e2:∀b,gSkS nm sb ops t (readS ⟨⟨nm,sb⟩,ops⟩ t 20 0).2.1 b=some (spA t (readS ⟨⟨nm,sb⟩,ops⟩ t 20 0).2.1):=λ_=>if_pos r1
   rw[e2,bS,s1]
   cases hb:(readI ⟨⟨nm,sb⟩,ops⟩ t 20 0).2.1 with
   | false =>
    rw[Bool.not_false,cT,if_neg (by simp)]
   | true =>
    obtain⟨q1,q2⟩:=s2 hb
    rw[Bool.not_true,cF,q1,q2]
    by_cases he:spA t (readI ⟨⟨nm,sb⟩,ops⟩ t 20 0).2.2=t.size
    ·rw[dT he,if_pos ⟨rfl,hl,rfl,he⟩]
     rfl
    ·rw[dF he,if_neg (λh=>he h.2.2.2)]
     rfl
  ·rw[dT (by omega),cT,if_neg (λh=>hl h.2.1)]
 ·dsimp only
  rw[bS,if_neg (λh=>hs h.1),Bool.eq_false_iff.2 hs]
  rfl⟩
noncomputable def preL:List Ent:=[z0z.ent gNewA,z16.ent (gTm 21),z15.ent gSkI]
theorem preL_ok :AE preL:=⟨newAlgebra_ok,term_ok 21,spaces_ok,trivial⟩
noncomputable def preK:Kt (List C ⊕ AT)
 | .normal, st => match st.L.lookup 9, st.L.lookup 4 with
  | some (.one (.p i9 0)), some (.one (.p i4 0)) => match st.H[i9]?, st.H[i4]? with
   |some (.box cs),some (.box ds)=>bif Nat.beq ds.length 4 then some (.inl cs)else none
   |_,_=>none
  |_,_=>none
 | .ret, st => match resDs tb st.L st.H [.cell 4 32, .tmp 5] with
  | some vs => match peekAs [] vs with
   |some us=>some (.inr (packR us))
   |none=>none
  |none=>none
 |_,_=>none
noncomputable def noT:Option (List C ⊕ AT):=some (.inr (.tup [.agg [.i 0,.s ByteArray.empty,.i 0,.l (.n 1) []],.one (.b false)]))
noncomputable def preM (s:Sg) (text:ByteArray):Option (List C ⊕ AT):=
 Option.bind (gNewA s) λr=>ocase r noT (λq=>
  bif decide (2000<(ByteArray.size text:Int))then noT else
   Option.bind (gTm 21 q.1 q.2.1 q.2.2.1 q.2.2.2.1 q.2.2.2.2.1 q.2.2.2.2.2.1 q.2.2.2.2.2.2 text 0 1) λr2=>
   Option.bind (gSkI q.1 q.2.1 q.2.2.1 q.2.2.2.1 q.2.2.2.2.1 q.2.2.2.2.2.1 r2.2.2.2 text r2.2.2.1) λr3=>
   bif !r2.2.1 then noT else bif !decide (r3.1=(ByteArray.size text:Int))then noT else
    some (.inl [.i (Tm.op r2.1),.s (Tm.name r2.1),.i (Tm.sort r2.1),.l (.n 1) (Tm.args r2.1)]))
theorem pre_den (s:Sg) (text:ByteArray):den tb (orcOf preL) (z0g.pc ⟨gNewA,gTm 21,gSkI,λt=>some t⟩ 1) z0g.an (app (spine 7 z0g.bd).1 .skip) ⟨argsD 0 [.agg [.l .s s.sorts.names,.l (.n 5) s.sorts.subs,.l (.n 8) s.ops],.one (.s text)],[]⟩ preK=preM s text:=by kernel_rfl
theorem parseF_no {s:Sg} {t:ByteArray} (h:(parseF s t).2=false):parseF s t=(Zt,false)/\¬(sigF s=true/\t.size<=2000/\(readI s t 20 0).2.1=true/\spA t (readI s t 20 0).2.2=t.size):=by
 unfold parseF at h ⊢
 split at h
 ·cases h
 ·rename_i q
  exact⟨if_neg q,q⟩
theorem parseF_yes {s:Sg} {t:ByteArray} (h:(parseF s t).2=true):parseF s t=((readI s t 20 0).1,true)/\(sigF s=true/\t.size<=2000/\(readI s t 20 0).2.1=true/\spA t (readI s t 20 0).2.2=t.size):=by
 unfold parseF at h ⊢
 split at h
 ·rename_i q
  exact⟨if_pos q,q⟩
 ·cases h
theorem pre_steps (s:Sg) (t:ByteArray) (hs:sigF s=true) (hl:t.size<=2000):preM s t=if (readI s t 20 0).2.1=true/\spA t (readI s t 20 0).2.2=t.size then some (.inl [.i (readI s t 20 0).1.op,.s (readI s t 20 0).1.name,.i (readI s t 20 0).1.sort,.l (.n 1) (readI s t 20 0).1.args])else noT:=by
 have e1:gTm 21 (algF s).1 (algF s).2.1 (algF s).2.2.1 (algF s).2.2.2.1 (algF s).2.2.2.2.1 (algF s).2.2.2.2.2.1 (algF s).2.2.2.2.2.2 t 0 1=some ((readI s t 20 0).1,(readI s t 20 0).2.1,(readI s t 20 0).2.2,[]):=if_pos ⟨⟨hs,rfl⟩,upI_len _ _,atP0 hl,by omega,by omega,by decide⟩
 obtain⟨r1,_⟩:=readI_in hs t 20 0 (atP0 hl)
 have e2:gSkI (algF s).1 (algF s).2.1 (algF s).2.2.1 (algF s).2.2.2.1 (algF s).2.2.2.2.1 (algF s).2.2.2.2.2.1 [] t (readI s t 20 0).2.2=some (spA t (readI s t 20 0).2.2,[]):=if_pos r1
 have e0:gNewA s=some (some (algF s)):=by unfold gNewA;rw[if_pos hs]
 unfold preM
 rw[e0,bS]
 show (bif decide (2000<(ByteArray.size t:Int))then noT else _)=_
 rw[dF (by omega),cF,e1,bS]
 show Option.bind (gSkI (algF s).1 (algF s).2.1 (algF s).2.2.1 (algF s).2.2.2.1 (algF s).2.2.2.2.1 (algF s).2.2.2.2.2.1 [] t (readI s t 20 0).2.2) _=_
 rw[e2,bS]
 show (bif !(readI s t 20 0).2.1 then noT else bif !decide (spA t (readI s t 20 0).2.2=(ByteArray.size t:Int))then noT else _)=_
 cases hb:(readI s t 20 0).2.1 with
 |false=>rw[Bool.not_false,cT,if_neg (by simp)]
 | true =>
  rw[Bool.not_true,cF]
  by_cases he:spA t (readI s t 20 0).2.2=t.size
  ·rw[dT he,if_pos ⟨rfl,he⟩]
   rfl
  ·rw[dF he,if_neg (λh=>he h.2)]
   rfl
theorem pre_no {s:Sg} {t:ByteArray} (h:(parseF s t).2=false):preM s t=noT:=by
 obtain⟨_,hn⟩:=parseF_no h
 by_cases hs:sigF s=true
 ·by_cases hl:t.size<=2000
  ·rw[pre_steps s t hs hl,if_neg λq=>hn ⟨hs,hl,q⟩]
  ·have e0:gNewA s=some (some (algF s)):=by unfold gNewA;rw[if_pos hs]
   unfold preM
   rw[e0,bS]
   show (bif decide (2000<(ByteArray.size t:Int))then noT else _)=_
   rw[dT (by omega),cT]
 ·have e0:gNewA s=some none:=by unfold gNewA;rw[if_neg hs]
  unfold preM
  rw[e0,bS]
  rfl
theorem pre_yes {s:Sg} {t:ByteArray} (h:(parseF s t).2=true):preM s t=some (.inl [.i (parseF s t).1.op,.s (parseF s t).1.name,.i (parseF s t).1.sort,.l (.n 1) (parseF s t).1.args])/\Sm s (parseF s t).1:=by
 obtain⟨he,hs,hl,hb,hp⟩:=parseF_yes h
 rw[pre_steps s t hs hl,if_pos ⟨hb,hp⟩,he]
 exact⟨rfl,(readI_in hs t 20 0 (atP0 hl)).2.2 hb⟩
end Go.Proofs.YtfdkldmkbibknaaGreat.Den

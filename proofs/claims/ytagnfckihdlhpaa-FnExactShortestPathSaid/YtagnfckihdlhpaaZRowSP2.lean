/-
  Texts that the claim rests on, merged: FormData, Mark.
-/
import Derived.RowKit3
import Derived.Deep.Draws
import Derived.Test.YtagnfckihdlhpaaZRowSP1

namespace Go.Proofs.Ytagnfckihdlhpaa
open Go.RowKit
structure Fm where
 kind:Int
 prop:Int
 kids:List Fm
end Go.Proofs.Ytagnfckihdlhpaa

namespace Go.Proofs.Ytagnfckihdlhpaa
open Go.RowKit
def kin (u v:Value):Prop:=v=u\/(∃x y,u= .int .i64 x/\v= .int .i64 y/\okLit v)\/(∃s t,u= .string s/\v= .string t/\okLit v)
theorem kin.refl (u:Value):kin u u:=.inl rfl
theorem kin.int (x y:Int) (h:(Lit.int .i64 y).wf=true):kin (.int .i64 x) (.int .i64 y):=.inr (.inl ⟨x,y,rfl,rfl,h⟩)
theorem kin.str (s t:ByteArray) (h:t.size<=maxLen):kin (.string s) (.string t):=.inr (.inr ⟨s,t,rfl,rfl,h⟩)
theorem kin.trans {u v z:Value} (h:kin u v) (k:kin v z):kin u z:=by
 rcases h with rfl|⟨x,y,rfl,rfl,p⟩|⟨s,t,rfl,rfl,p⟩
 ·exact k
 ·rcases k with rfl|⟨a,b,e,rfl,q⟩|⟨a,b,e,rfl,q⟩
  ·exact .inr (.inl ⟨x,y,rfl,rfl,p⟩)
  ·exact .inr (.inl ⟨x,b,rfl,rfl,q⟩)
  ·cases e
 ·rcases k with rfl|⟨a,b,e,rfl,q⟩|⟨a,b,e,rfl,q⟩
  ·exact .inr (.inr ⟨s,t,rfl,rfl,p⟩)
  ·cases e
  ·exact .inr (.inr ⟨s,b,rfl,rfl,q⟩)
theorem kin.ok {u v:Value} (h:kin u v) (k:okLit u):okLit v:=by
 rcases h with rfl|⟨x,y,rfl,rfl,q⟩|⟨s,t,rfl,rfl,q⟩
 ·exact k
 ·exact q
 ·exact q
theorem kin.eqInt {x:Int} {v:Value} (h:kin (.int .i64 x) v):∃y,v= .int .i64 y:=by
 rcases h with rfl|⟨_,y,_,rfl,_⟩|⟨_,_,e,_,_⟩
 ·exact⟨_,rfl⟩
 ·exact⟨_,rfl⟩
 ·cases e
theorem kin.eqStr {s:ByteArray} {v:Value} (h:kin (.string s) v):∃t,v= .string t:=by
 rcases h with rfl|⟨_,_,e,_,_⟩|⟨_,t,_,rfl,_⟩
 ·exact⟨_,rfl⟩
 ·cases e
 ·exact⟨_,rfl⟩
theorem kin.eqSlice {A:Option Addr} {n c:Nat} {v:Value} (h:kin (.slice A n c) v):v= .slice A n c:=by
 rcases h with rfl|⟨_,_,e,_,_⟩|⟨_,_,e,_,_⟩
 ·rfl
 ·cases e
 ·cases e
structure Like (S:Nat->Prop) (w w':World):Prop where
 os:w'.os=w.os
 tape:w'.tape=w.tape
 output:w'.output=w.output
 size:w.heap.size<=w'.heap.size
 block:∀b,b<w.heap.size->¬S b->w'.heap[b]? =w.heap[b]?
 frozen:∀b o,b<w.heap.size->w'.frozen? ⟨b,o,none⟩=w.frozen? ⟨b,o,none⟩
 kin:∀b o u,w.cell? ⟨b,o,none⟩=some u->∃u',w'.cell? ⟨b,o,none⟩=some u'/\kin u u'
theorem Like.refl (S:Nat->Prop) (w:World):Like S w w:=⟨rfl,rfl,rfl,Nat.le_refl _,fun _ _ _=>rfl,fun _ _ _=>rfl,fun _ _ u h=>⟨u,h,.refl u⟩⟩
theorem Like.trans {S:Nat->Prop} {a b c:World} (h:Like S a b) (k:Like S b c):Like S a c:=
 ⟨k.os.trans h.os, k.tape.trans h.tape, k.output.trans h.output, Nat.le_trans h.size k.size, fun i hi hs => (k.block i (Nat.lt_of_lt_of_le hi h.size) hs).trans (h.block i hi hs),
  fun i o hi=>(k.frozen i o (Nat.lt_of_lt_of_le hi h.size)).trans (h.frozen i o hi),fun i o u hu=>by
   obtain⟨u1,q1,q2⟩:=h.kin i o u hu
   obtain⟨u2,q3,q4⟩:=k.kin i o u1 q1
   exact⟨u2,q3,q2.trans q4⟩⟩
theorem Like.of_below {S:Nat->Prop} {w w':World} (h:Below w.heap.size w w'):Like S w w':=
 ⟨h.os,h.tape,h.output,h.size,fun b hb _=>h.block b hb,fun b o hb=>h.frozen (p:=⟨b,o,none⟩) hb,fun b o u hu=>⟨u,(h.cell (p:=⟨b,o,none⟩) (World.block_lt_of_cell? w _ hu)).trans hu,.refl u⟩⟩
theorem Like.setCell_ {S:Nat->Prop} {w:World} {b o:Nat} {u v:Value} (hu:w.cell? ⟨b,o,none⟩=some u) (hk:Go.Proofs.Ytagnfckihdlhpaa.kin u v) (hS:S b):Like S w (w.setCell ⟨b,o,none⟩ v) where
 os:=rfl
 tape:=rfl
 output:=rfl
 size:=by simp[World.setCell]
 block:=fun i _ hi=>Below.heap_setCell w ⟨b,o,none⟩ v i (fun e=>hi (by simp at e;subst e;exact hS))
 frozen:=fun i o' _=>World.frozen?_setCell _ _ _ _
 kin:=fun i o' x hx=>by
  by_cases e:i=b/\o'=o
  ·obtain⟨rfl,rfl⟩:=e
   rw[hu]at hx
   cases hx
   refine⟨v,?_,hk⟩
   exact World.cell?_setCell_same w _ v (by rw[hu])
  ·refine⟨x,?_,.refl x⟩
   rw[World.cell?_setCell_other w ⟨b,o,none⟩ ⟨i,o',none⟩ v (fun q=>e (by injection q with q1 q2;exact⟨q1.symm,q2.symm⟩))]
   exact hx
theorem Like.set {S:Nat->Prop} {w0 w:World} (h:Like S w0 w) {b o:Nat} {u v:Value} (hu:w.cell? ⟨b,o,none⟩=some u) (hk:Go.Proofs.Ytagnfckihdlhpaa.kin u v) (hS:S b):Like S w0 (w.setCell ⟨b,o,none⟩ v):=h.trans (.setCell_ hu hk hS)
theorem Like.next {S:Nat->Prop} {w0 w w':World} (h:Like S w0 w) (hb:Below w.heap.size w w'):Like S w0 w':=h.trans (.of_below hb)
theorem Like.below {S:Nat->Prop} {w w':World} {B:Nat} (h:Like S w w') (hB:B<=w.heap.size) (hS:∀b,S b->B<=b):Below B w w':=
 ⟨h.os,h.tape,h.output,h.size,fun b hb=>h.block b (by omega) (fun q=>by have:=hS b q;omega)⟩
def Soft (S:Nat->Prop) (w:World):Prop:=∀b,S b->b<w.heap.size/\∀o,w.frozen? ⟨b,o,none⟩=false
theorem Soft.like {S S':Nat->Prop} {w w':World} (h:Soft S w) (k:Like S' w w'):Soft S w':=fun b hb=>⟨Nat.lt_of_lt_of_le (h b hb).1 k.size,fun o=>(k.frozen b o (h b hb).1).trans ((h b hb).2 o)⟩
def Unf (w w':World):Prop:=∀a,w'.frozen? a=w.frozen? a
theorem Unf.refl (w:World):Unf w w:=fun _=>rfl
theorem Unf.trans {a b c:World} (h:Unf a b) (k:Unf b c):Unf a c:=fun x=>(k x).trans (h x)
theorem Unf.alloc {a b:World} (h:Unf a b) (cs:Array Value) (t:TypeId):Unf a (b.alloc (.cells cs t)):=fun x=>(frozen?_alloc_cells _ _ _ x).trans (h x)
theorem Unf.setCell {a b:World} (h:Unf a b) (p:Addr) (v:Value):Unf a (b.setCell p v):=fun x=>(World.frozen?_setCell _ _ _ _).trans (h x)
theorem Unf.soft {w w':World} (h:Unf w w') {S:Nat->Prop} (hS:∀b,S b->w.heap.size<=b/\b<w'.heap.size):Soft S w':=fun b hb=>⟨(hS b hb).2,fun o=>(h _).trans (by
 show World.frozen? w _=false
 unfold World.frozen?
 rw[Array.getElem?_eq_none (hS b hb).1])⟩
theorem At.like {S T:Nat->Prop} {w w':World} {d:D} {v:Value} (h:At w T d v) (k:Like S w w') (hd:∀b,T b->¬S b):At w' T d v:=
 h.keep (fun b o hT hlt=>by show World.cell? w' _=World.cell? w _;unfold World.cell?;rw[k.block b hlt (hd b hT)]) (fun _ h _=>h)
def AtS (w:World) (S:Nat->Prop) (d:D) (v:Value):Prop:=
 match d with
 |⟨some u,_,_⟩=>kin u v/\okLit v
 | ⟨none, n, cs⟩ => ∃ A c, v = .slice A n c ∧ n ≤ c ∧ c ≤ 9223372036854775807 ∧
   (0<cs.length->∃b off,A=some ⟨b,off,none⟩/\S b/\∀k,(h:k<cs.length)->∃u,w.cell? ⟨b,off+k,none⟩=some u/\AtS w S cs[k] u)
termination_by d
decreasing_by
 have hx:=List.sizeOf_lt_of_mem (List.getElem_mem h)
 simp only[D.mk.sizeOf_spec]
 omega
theorem atS_lit {w:World} {S:Nat->Prop} {u v:Value}:AtS w S (.lit u) v↔(kin u v/\okLit v):=by unfold D.lit;rw[AtS]
theorem atS_row {w:World} {S:Nat->Prop} {n:Nat} {cs:List D} {v:Value}:AtS w S (.row n cs) v↔(∃A c,v= .slice A n c/\n<=c/\c<=9223372036854775807/\
   (0<cs.length->∃b off,A=some ⟨b,off,none⟩/\S b/\∀k,(h:k<cs.length)->∃u,w.cell? ⟨b,off+k,none⟩=some u/\AtS w S cs[k] u)):=by
 unfold D.row;rw[AtS]
theorem At.shape {w:World} {S:Nat->Prop} {d:D}:∀{v:Value},At w S d v->AtS w S d v:=by
 induction d using D.induct with
 | hl u n cs =>
  intro v h
  rw[At]at h
  rw[AtS]
  exact⟨.inl h.1,by rw[h.1];exact h.2⟩
 | hr n cs ih =>
  intro v h
  rw[at_row]at h
  rw[atS_row]
  obtain⟨A,c,h1,h2,h3,h4⟩:=h
  refine⟨A,c,h1,h2,h3,fun hp=> ?_⟩
  obtain⟨b,off,e,hs,hc⟩:=h4 hp
  refine⟨b,off,e,hs,fun k hk'=> ?_⟩
  obtain⟨u,hu,hat⟩:=hc k hk'
  exact⟨u,hu,ih k hk' hat⟩
theorem AtS.like {w w':World} {S S':Nat->Prop} (hk:Like S' w w') {d:D}:∀{v v':Value},AtS w S d v->kin v v'->AtS w' S d v':=by
 induction d using D.induct with
 | hl u n cs =>
  intro v v' h k
  rw[AtS]at h ⊢
  exact⟨h.1.trans k,k.ok h.2⟩
 | hr n cs ih =>
  intro v v' h k
  rw[atS_row]at h ⊢
  obtain⟨A,c,rfl,h2,h3,h4⟩:=h
  refine⟨A,c,k.eqSlice,h2,h3,fun hp=> ?_⟩
  obtain⟨b,off,e,hs,hc⟩:=h4 hp
  refine⟨b,off,e,hs,fun j hj=> ?_⟩
  obtain⟨u,hu,hat⟩:=hc j hj
  obtain⟨u',q1,q2⟩:=hk.kin _ _ _ hu
  exact⟨u',q1,ih j hj hat q2⟩
theorem AtS.next {w w':World} {S S':Nat->Prop} {d:D} {v:Value} (h:AtS w S d v) (hk:Like S' w w'):AtS w' S d v:=h.like hk (.refl v)
theorem AtS.slice {w:World} {S:Nat->Prop} {n:Nat} {cs:List D} {v:Value} (h:AtS w S (.row n cs) v):∃A c,v= .slice A n c/\n<=c/\c<=9223372036854775807:=by
 obtain⟨A,c,h1,h2,h3,_⟩:=atS_row.1 h
 exact⟨A,c,h1,h2,h3⟩
theorem AtS.cellAt {w:World} {S:Nat->Prop} {n c:Nat} {cs:List D} {A:Option Addr} (h:AtS w S (.row n cs) (.slice A n c)) (hp:0<cs.length):
  ∃b off,A=some ⟨b,off,none⟩/\S b/\b<w.heap.size/\∀(k:Nat) (d:D),cs[k]? =some d->∃u,w.cell? ⟨b,off+k,none⟩=some u/\AtS w S d u:=by
 obtain⟨A',c',h1,_,_,h4⟩:=atS_row.1 h
 obtain⟨rfl,_,rfl⟩:A=A'/\n=n/\c=c':=by injection h1 with a b c;exact⟨a,b,c⟩
 obtain⟨b,off,e,hs,hc⟩:=h4 hp
 refine⟨b,off,e,hs,?_,fun k d hd=> ?_⟩
 ·obtain⟨u,hu,_⟩:=hc 0 hp
  exact World.block_lt_of_cell? w _ hu
 ·obtain⟨hk,rfl⟩:=List.getElem?_eq_some_iff.1 hd
  exact hc k hk
theorem atS_int {w:World} {S:Nat->Prop} {x:Int} {v:Value} (h:AtS w S (.lit (.int .i64 x)) v):∃y,v= .int .i64 y:=(atS_lit.1 h).1.eqInt
theorem atS_str {w:World} {S:Nat->Prop} {s:ByteArray} {v:Value} (h:AtS w S (.lit (.string s)) v):∃t,v= .string t:=(atS_lit.1 h).1.eqStr
theorem ints_getS {w:World} {S:Nat->Prop} {xs:List Int} {A:Option Addr} {n c k:Nat} (h:AtS w S (ints xs) (.slice A n c)) (hk:k<xs.length):
  ∃b off x,A=some ⟨b,off,none⟩/\S b/\b<w.heap.size/\w.cell? ⟨b,off+k,none⟩=some (.int .i64 x):=by
 have hn:n=xs.length:=by obtain⟨_,_,e,_⟩:=AtS.slice h;injection e
 subst hn
 obtain⟨b,off,e,hs,hlt,hc⟩:=AtS.cellAt h (by simp;omega)
 obtain⟨u,hu,ha⟩:=hc k (.lit (.int .i64 (xs.getD k 0))) (by simp[List.getD,hk])
 obtain⟨y,rfl⟩:=atS_int ha
 exact⟨b,off,y,e,hs,hlt,hu⟩
theorem rows_getS {w:World} {S:Nat->Prop} {xss:List (List Int)} {A:Option Addr} {n c k:Nat} (h:AtS w S (rows xss) (.slice A n c)) (hk:k<xss.length):
  ∃b off xs v,A=some ⟨b,off,none⟩/\S b/\b<w.heap.size/\w.cell? ⟨b,off+k,none⟩=some v/\AtS w S (ints xs) v/\Hid (xss[k]? =some xs):=by
 have hn:n=xss.length:=by obtain⟨_,_,e,_⟩:=AtS.slice h;injection e
 subst hn
 obtain⟨b,off,e,hs,hlt,hc⟩:=AtS.cellAt h (by simp;omega)
 obtain⟨u,hu,ha⟩:=hc k (ints xss[k]) (by simp[hk])
 exact⟨b,off,xss[k],u,e,hs,hlt,hu,ha,List.getElem?_eq_getElem hk⟩
theorem terms_getS {w:World} {S:Nat->Prop} {ts:List Tm} {A:Option Addr} {n c k:Nat} (h:AtS w S (terms ts) (.slice A n c)) (hk:k<ts.length):
  ∃ b off t x s y v, A = some ⟨b, off, none⟩ ∧ S b ∧ b < w.heap.size ∧ w.cell? ⟨b, off + k * 4, none⟩ = some (.int .i64 x) ∧ w.cell? ⟨b, off + k * 4 + 1, none⟩ = some (.string s) ∧
   w.cell? ⟨b,off+k*4+2,none⟩=some (.int .i64 y)/\w.cell? ⟨b,off+k*4+3,none⟩=some v/\AtS w S (terms t.args) v/\Hid (ts[k]? =some t):=by
 have hn:n=ts.length:=by obtain⟨_,_,e,_⟩:=AtS.slice h;injection e
 subst hn
 obtain⟨b,off,e,hs,hlt,hc⟩:=AtS.cellAt h (by rw[flat_len _ 4 Tm.cells_len];omega)
 have hf:ts[k]? =some ts[k]:=List.getElem?_eq_getElem hk
 have hat:∀j,j<4->(ts.flatMap Tm.cells)[k*4+j]? =(Tm.cells ts[k])[j]? :=fun j hj=>by
  rw[flat_at _ 4 Tm.cells_len _ _ _ hj,hf];rfl
 obtain⟨u0,hu0,ha0⟩:=hc (k*4+0) _ (hat 0 (by omega))
 obtain⟨u1,hu1,ha1⟩:=hc (k*4+1) _ (hat 1 (by omega))
 obtain⟨u2,hu2,ha2⟩:=hc (k*4+2) _ (hat 2 (by omega))
 obtain⟨u3,hu3,ha3⟩:=hc (k*4+3) _ (hat 3 (by omega))
 obtain⟨x,rfl⟩:=atS_int ha0
 obtain⟨s,rfl⟩:=atS_str ha1
 obtain⟨y,rfl⟩:=atS_int ha2
 rw[Tm.d_eq]at ha3
 exact⟨b,off,ts[k],x,s,y,u3,e,hs,hlt,hu0,hu1,hu2,hu3,ha3,hf⟩
end Go.Proofs.Ytagnfckihdlhpaa

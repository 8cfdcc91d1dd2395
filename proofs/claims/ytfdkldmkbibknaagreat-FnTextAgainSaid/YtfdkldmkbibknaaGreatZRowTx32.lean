/-
  Texts that the claim rests on, merged: PD1, Drw0, Drw1.
-/
import Derived.Test.YtfdkldmkbibknaaGreatZRowTx12
import Derived.Test.YtfdkldmkbibknaaGreatZRowTx13
import Derived.Test.YtfdkldmkbibknaaGreatZRowTx30

namespace Go.Proofs.YtfdkldmkbibknaaGreat.Den
open Go.RowKit
set_option maxRecDepth 100000
set_option linter.unusedVariables false
namespace z3b
structure Gs where
 none_:Unit
noncomputable def ac (_:Gs):List Ent:=[]
noncomputable def b3 {R:Type} (G:Gs) (n:Nat) (code:LI) (h i:Int) (nx:LI->Int->Int->Option R) (k0:LI->Int->Option R):Option R:=
 bif decide (i<(List.length code:Int))then
  (
  bif decide (i<4000)then
   (
   (ix code i).bind λe=>
   nx code (Abs.am .and .i64 (wr ((wr ((wr (h*131))+e))+7)) 1073741823) (wr (i+1))
   )
  else
   k0 code h
  )
 else
  k0 code h
noncomputable def l3 {R:Type} (G:Gs) (n m:Nat) (code:LI) (h i:Int) (k0:LI->Int->Option R):Option R:=aB (λ(v:LI×Int×Int) nx=>b3 G n v.1 v.2.1 v.2.2 (λy0 y1 y2=>nx (y0,y1,y2)) k0) m (code,h,i)
noncomputable def main {R:Type} (G:Gs) (n:Nat) (code:LI) (K:Cur->Option R):Option R:=
 l3 G n n code (wr (124929+(List.length code:Int))) 0
  (λcode2 h=>K (Cur.mk code2 0 h))
noncomputable def dl3 (G:Gs) (n m:Nat) (R:Type) (st:St) (K:Kt R):Option R:=match st with
 |⟨[(0,.one (.l .u code)),(3,.one (.i h)),(4,.one (.i i))],[]⟩=>l3 G n m code h i (λcode h=>K (.exit 0) ⟨[(0,.one (.l .u code)),(3,.one (.i h))],[]⟩)
 |_=>none
noncomputable def pc (G:Gs) (n:Nat):Pcs:=⟨λR id st K=>bif Nat.beq id 3 then dl3 G n n R st K else none,nK,nK⟩
noncomputable def an:Ann:=⟨32,0,[(3,[0,3,4])],[],[2],[],[]⟩
noncomputable abbrev bd:=aj Tryz.f76
noncomputable abbrev q3:=ak [1,1,0,1,0,0] bd
theorem pl3 {G:Gs} (hG:AE (ac G)) (n:Nat):∀m,PO an (.loop q3) (dl3 G n m):=lpc hG (pc G n) [0,3,4] ⟨[0,3],[2],[(0,[0,3])]⟩ (apl [] trivial) (λR st K=>by unfold dl3;split<;>rfl) λm R st K r h=>by unfold dl3 at h;split at h;exact .trans (by kernel_rfl) h;cases h
theorem ok {G:Gs} (hG:AE (ac G)) {g:Q} (hg:∀code r,g code=some r->∃n,main (R:=AT×List Ob) G n code (λr0=>some (.one (.p 0 0),[.box [.l .u (Cur.b r0),.i (Cur.i r0),.i (Cur.h r0)]]))=some (.one (.p 0 0),[.box [.l .u (Cur.b r),.i (Cur.i r),.i (Cur.h r)]])):EO (ent g):=λR xs H K r hc=>by
 simp only[ent]at hc;split at hc
 ·exact okL hc λr j=>let⟨n,j⟩:=hg _ _ j;fR hG an (pc G n) Tryz.func76 j (apl [(1,3,.loop q3)] ⟨pl3 hG n n,trivial⟩)
 ·cases hc
end z3b
namespace z35
structure Gs where
 none_:Unit
noncomputable def main {R:Type} (G:Gs) (n:Nat) (c:Cur) (K:Int->Cur->Option R):Option R:=
 (bif decide (0<=33)then some (Abs.am .shr .i64 (wr ((wr ((Cur.h c)*6364136223846793005))+1442695040888963407)) 33)else none).bind λq2=>
 (bif decide (0<=45)then some (Abs.am .shr .i64 (wr ((wr ((Cur.h c)*6364136223846793005))+1442695040888963407)) 45)else none).bind λq4=>
 bif decide ((Cur.i c)<(List.length (Cur.b c):Int))then
  (
  (ix (Cur.b c) (Cur.i c)).bind λe2=>
  K (Abs.am .and .i64 (wr ((Abs.am .and .i64 (Abs.am .xor .i64 q2 q4) 255)+e2)) 255) (Cur.mk (Cur.b c) (wr ((Cur.i c)+1)) (wr ((wr ((Cur.h c)*6364136223846793005))+1442695040888963407)))
  )
 else
  K (Abs.am .and .i64 (Abs.am .xor .i64 q2 q4) 255) (Cur.mk (Cur.b c) (Cur.i c) (wr ((wr ((Cur.h c)*6364136223846793005))+1442695040888963407)))
theorem ok {G:Gs} (hG:AE []) {g:Q} (hg:∀c r,g c=some r->∃n,main (R:=AT×List Ob) G n c (λr0 r1=>some (.one (.i r0),[.box [.l .u (Cur.b r1),.i (Cur.i r1),.i (Cur.h r1)]]))=some (.one (.i r.1),[.box [.l .u (Cur.b r.2),.i (Cur.i r.2),.i (Cur.h r.2)]])):EO (ent g):=λR xs H K r hc=>by
 simp only[ent]at hc;split at hc
 ·exact okL hc λr j=>let⟨_,j⟩:=hg _ _ j;fF hG ⟨58,1,[],[],[2],[(2,⟨[([0,1,2,3,4,5,6,7,8,9,10,11,12],[],[])],[],[],[0],[]⟩),(3,⟨[([0,1,2,3,4,5,6,7,8,9],[],[])],[],[],[0],[]⟩),(4,⟨[([0,1,2,3,4,5,6,7,8,9,10,11,12,13,14],[],[])],[],[],[0],[]⟩)],[]⟩ nP Tryz.func142 j
 ·cases hc
end z35
namespace z34
structure Gs where
 z35:z35.Q
noncomputable def main {R:Type} (G:Gs) (n:Nat) (c:Cur) (n1:Int) (K:Int->Cur->Option R):Option R:=
 bif decide (n1<=0)then
  (K 0 c)
 else
  bif decide (n1<=256)then
   (
   (G.z35 c).bind λr=>
   (bif decide (0<=r.1)&&decide (0<n1)then some (r.1%n1)else none).bind λq=>
   K q r.2
   )
  else
   (G.z35 c).bind λr2=>
   (G.z35 r2.2).bind λr3=>
   (G.z35 r3.2).bind λr4=>
   (G.z35 r4.2).bind λr5=>
   (bif decide (0<=(wr ((wr ((wr ((wr (r2.1*16777216))+(wr (r3.1*65536))))+(wr (r4.1*256))))+r5.1)))&&decide (0<n1)then some ((wr ((wr ((wr ((wr (r2.1*16777216))+(wr (r3.1*65536))))+(wr (r4.1*256))))+r5.1))%n1)else none).bind λq2=>
   K q2 r5.2
theorem ok {G:Gs} (hG:AE [z35.ent G.z35]) {g:Q} (hg:∀c n1 r,g c n1=some r->∃n,main (R:=AT×List Ob) G n c n1 (λr0 r1=>some (.one (.i r0),[.box [.l .u (Cur.b r1),.i (Cur.i r1),.i (Cur.h r1)]]))=some (.one (.i r.1),[.box [.l .u (Cur.b r.2),.i (Cur.i r.2),.i (Cur.h r.2)]])):EO (ent g):=λR xs H K r hc=>by
 simp only[ent]at hc;split at hc
 ·exact okL hc λr j=>let⟨_,j⟩:=hg _ _ _ j;fF hG ⟨37,1,[],[],[4],[],[]⟩ nP Tryz.func122 j
 ·cases hc
end z34
namespace z3c
structure Gs where
 z34:z34.Q
noncomputable def main {R:Type} (G:Gs) (n:Nat) (c:Cur) (n1:Int) (K:Bool->Cur->Option R):Option R:=
 (G.z34 c n1).bind λr=>
 K (decide (r.1=0)) r.2
theorem ok {G:Gs} (hG:AE [z34.ent G.z34]) {g:Q} (hg:∀c n1 r,g c n1=some r->∃n,main (R:=AT×List Ob) G n c n1 (λr0 r1=>some (.one (.b r0),[.box [.l .u (Cur.b r1),.i (Cur.i r1),.i (Cur.h r1)]]))=some (.one (.b r.1),[.box [.l .u (Cur.b r.2),.i (Cur.i r.2),.i (Cur.h r.2)]])):EO (ent g):=λR xs H K r hc=>by
 simp only[ent]at hc;split at hc
 ·exact okL hc λr j=>let⟨_,j⟩:=hg _ _ _ j;fF hG ⟨9,1,[],[],[4],[],[]⟩ nP Tryz.func124 j
 ·cases hc
end z3c
namespace z3d
structure Gs where
 z34:z34.Q
noncomputable def main {R:Type} (G:Gs) (n:Nat) (c:Cur) (list:LB) (K:ByteArray->Cur->Option R):Option R:=
 (G.z34 c (List.length list:Int)).bind λr=>
 (ix list r.1).bind λe=>
 K e r.2
theorem ok {G:Gs} (hG:AE [z34.ent G.z34]) {g:Q} (hg:∀c list r,g c list=some r->∃n,main (R:=AT×List Ob) G n c list (λr0 r1=>some (.one (.s r0),[.box [.l .u (Cur.b r1),.i (Cur.i r1),.i (Cur.h r1)]]))=some (.one (.s r.1),[.box [.l .u (Cur.b r.2),.i (Cur.i r.2),.i (Cur.h r.2)]])):EO (ent g):=λR xs H K r hc=>by
 simp only[ent]at hc;split at hc
 ·exact okL hc λr j=>let⟨_,j⟩:=hg _ _ _ j;fF hG ⟨12,1,[],[],[4],[],[]⟩ nP Tryz.func123 j
 ·cases hc
end z3d
theorem jY {A0 A1 A2 B:Type} {P:A0->A1->A2->Prop} {D:A0->A1->A2->B->Prop} {E:(A0->A1->A2->Option B)->Prop} {cR:A0->A1->A2->B->Prop} (hE:∀g,(∀a0 a1 a2 b,g a0 a1 a2=some b->D a0 a1 a2 b)->E g) (h:∀a0 a1 a2,P a0 a1 a2->∃b,D a0 a1 a2 b/\cR a0 a1 a2 b):∃g,E g/\∀a0 a1 a2,P a0 a1 a2->∃b,g a0 a1 a2=some b/\cR a0 a1 a2 b:=
 ⟨λa0 a1 a2=>pick (λ(x:A0×A1×A2) b=>D x.1 x.2.1 x.2.2 b/\cR x.1 x.2.1 x.2.2 b) (a0,a1,a2),hE _ λ_ _ _ _ h=>(fY h).1,λa0 a1 a2 ha=>let⟨_,hb⟩:=h a0 a1 a2 ha;let⟨b,h1,h2⟩:=j8 (Q:=λ(x:A0×A1×A2) b=>D x.1 x.2.1 x.2.2 b/\cR x.1 x.2.1 x.2.2 b) (a:=(a0,a1,a2)) hb;⟨b,h1,h2.2⟩⟩
theorem sM {A0 A1 A2 A3 B:Type} {P:A0->A1->A2->A3->Prop} {D:A0->A1->A2->A3->B->Prop} {E:(A0->A1->A2->A3->Option B)->Prop} {cR:A0->A1->A2->A3->B->Prop} (hE:∀g,(∀a0 a1 a2 a3 b,g a0 a1 a2 a3=some b->D a0 a1 a2 a3 b)->E g) (h:∀a0 a1 a2 a3,P a0 a1 a2 a3->∃b,D a0 a1 a2 a3 b/\cR a0 a1 a2 a3 b):∃g,E g/\∀a0 a1 a2 a3,P a0 a1 a2 a3->∃b,g a0 a1 a2 a3=some b/\cR a0 a1 a2 a3 b:=
 ⟨λa0 a1 a2 a3=>pick (λ(x:A0×A1×A2×A3) b=>D x.1 x.2.1 x.2.2.1 x.2.2.2 b/\cR x.1 x.2.1 x.2.2.1 x.2.2.2 b) (a0,a1,a2,a3),hE _ λ_ _ _ _ _ h=>(fY h).1,λa0 a1 a2 a3 ha=>let⟨_,hb⟩:=h a0 a1 a2 a3 ha;let⟨b,h1,h2⟩:=j8 (Q:=λ(x:A0×A1×A2×A3) b=>D x.1 x.2.1 x.2.2.1 x.2.2.2 b/\cR x.1 x.2.1 x.2.2.1 x.2.2.2 b) (a:=(a0,a1,a2,a3)) hb;⟨b,h1,h2.2⟩⟩
theorem rk {A0 A1 A2 A3 A4 B:Type} {P:A0->A1->A2->A3->A4->Prop} {D:A0->A1->A2->A3->A4->B->Prop} {E:(A0->A1->A2->A3->A4->Option B)->Prop} {cR:A0->A1->A2->A3->A4->B->Prop} (hE:∀g,(∀a0 a1 a2 a3 a4 b,g a0 a1 a2 a3 a4=some b->D a0 a1 a2 a3 a4 b)->E g) (h:∀a0 a1 a2 a3 a4,P a0 a1 a2 a3 a4->∃b,D a0 a1 a2 a3 a4 b/\cR a0 a1 a2 a3 a4 b):∃g,E g/\∀a0 a1 a2 a3 a4,P a0 a1 a2 a3 a4->∃b,g a0 a1 a2 a3 a4=some b/\cR a0 a1 a2 a3 a4 b:=
 ⟨λa0 a1 a2 a3 a4=>pick (λ(x:A0×A1×A2×A3×A4) b=>D x.1 x.2.1 x.2.2.1 x.2.2.2.1 x.2.2.2.2 b/\cR x.1 x.2.1 x.2.2.1 x.2.2.2.1 x.2.2.2.2 b) (a0,a1,a2,a3,a4),hE _ λ_ _ _ _ _ _ h=>(fY h).1,λa0 a1 a2 a3 a4 ha=>let⟨_,hb⟩:=h a0 a1 a2 a3 a4 ha;let⟨b,h1,h2⟩:=j8 (Q:=λ(x:A0×A1×A2×A3×A4) b=>D x.1 x.2.1 x.2.2.1 x.2.2.2.1 x.2.2.2.2 b/\cR x.1 x.2.1 x.2.2.1 x.2.2.2.1 x.2.2.2.2 b) (a:=(a0,a1,a2,a3,a4)) hb;⟨b,h1,h2.2⟩⟩
def Inv (c:Cur):Prop:=0<=c.i/\c.i<=c.b.length/\c.b.length<=1099511627776
theorem xk (c:Cur) (hc:Inv c):∃x c',(∀(R:Type) (K:Int->Cur->Option R),z35.main ⟨()⟩ 1 c K=K x c')/\0<=x/\x<=255/\Inv c':=by
 obtain⟨h0,h1,h2⟩:=hc;by_cases hlt:c.i<c.b.length
 ·obtain⟨e,he,_⟩:=np h0 hlt;refine⟨_,_,λR K=>by simp only[z35.main,hlt,he,decide_true,cT,bS];rfl,(pV _).1,(pV _).2,?_⟩;refine⟨?_,?_,h2⟩<;>simp only<;>rw[ai (by omega)]<;>omega
 ·refine⟨_,_,λR K=>by simp only[z35.main,hlt,decide_false,cF];rfl,(pV _).1,(pV _).2,?_⟩;exact⟨h0,h1,h2⟩
def DC (g:Cur->Option (Int×Cur)):Prop:=∀c,Inv c->∃r,g c=some r/\(0<=r.1/\r.1<=255/\Inv r.2)
theorem BW :∃g,EO (z35.ent g)/\DC g:=ki (λg hg=>z35.ok (G:=⟨()⟩) trivial hg) λc hc=>
 let⟨x,c',h1,h2⟩:=xk c hc
 ⟨(x,c'),⟨1,h1 _ _⟩,h2⟩
def cI (g:Cur->Int->Option (Int×Cur)):Prop:=∀c n,(Inv c/\n<=256)->∃r,g c n=some r/\(0<=r.1/\(0<n->r.1<n)/\r.1<=255/\Inv r.2)
theorem Av {gB:Cur->Option (Int×Cur)} (eB:EO (z35.ent gB)) (hB:DC gB):∃g,EO (z34.ent g)/\cI g:=
 iJ       (λg hg=>z34.ok (G:=⟨gB⟩) ⟨eB,trivial⟩ hg) λc n ⟨hc,hn⟩=>by
  by_cases h0:n<=0
  ·exact⟨(0,c),⟨1,by simp[z34.main,h0]⟩,by simp,λh=>by omega,by simp,hc⟩
  ·obtain⟨r,e,h1,h2,h3⟩:=hB c hc;have hp:0<n:=by omega
   have hm:r.1%n<=r.1:=by
    rcases Int.lt_or_le r.1 n with h|h
    ·rw[Int.emod_eq_of_lt h1 h];exact Int.le_refl _
    ·exact Int.le_trans (Int.le_of_lt (Int.emod_lt_of_pos _ hp)) h
   exact⟨(r.1%n,r.2),⟨1,by simp[z34.main,h0,hn,e,h1,hp]⟩,Int.emod_nonneg _ (by omega),λ_=>Int.emod_lt_of_pos _ hp,Int.le_trans hm h2,h3⟩
def dP (g:Cur->Int->Option (Bool×Cur)):Prop:=∀c n,(Inv c/\n<=256)->∃r,g c n=some r/\Inv r.2
theorem Da {gL:Cur->Int->Option (Int×Cur)} (eL:EO (z34.ent gL)) (hL:cI gL):∃g,EO (z3c.ent g)/\dP g:=
 iJ (λg hg=>z3c.ok (G:=⟨gL⟩) ⟨eL,trivial⟩ hg) λc n hc=>by
  obtain⟨r,e,_,_,_,h3⟩:=hL c n hc;exact⟨(decide (r.1=0),r.2),⟨1,by simp[z3c.main,e]⟩,h3⟩
def NewP (g:List Int->Option Cur):Prop:=∀code,code.length<=1048576->∃c,g code=some c/\Inv c
theorem zh {R:Type} (G:z3b.Gs) (n:Nat) (code:List Int) (hl:code.length<=1048576) (k:List Int->Int->Option R):∀m (h i:Int),0<=i->i<=code.length->(code.length-i).toNat<m->∃h',z3b.l3 G n m code h i k=k code h':=by
 intro m
 induction m with
 |zero=>intro h i _ _ hm;omega
 | succ m ih =>
  intro h i h0 h1 hm;show ∃h',z3b.b3 G n code h i (λy0 y1 y2=>z3b.l3 G n m y0 y1 y2 k) k=k code h';unfold z3b.b3;by_cases hi:i<code.length
  ·by_cases h4:i<4000
   ·obtain⟨e,he,_⟩:=np h0 hi;simp only[hi,h4,decide_true,cT,he,bS];rw[ai (x:=i+1) (by omega)];exact ih _ (i+1) (by omega) (by omega) (by omega)
   ·exact⟨h,by simp[hi,h4]⟩
  ·exact⟨h,by simp[hi]⟩
theorem ER :∃g,EO (z3b.ent g)/\NewP g:=ki (λg hg=>z3b.ok (G:=⟨()⟩) trivial hg) λcode hl=>by
 obtain⟨h',hh⟩:=zh ⟨()⟩ (code.length+1) code hl (λcode2 h=>some (AT.one (.p 0 0),[Ob.box (ah (.n 12) (Cur.mk code2 0 h))])) (code.length+1) (wr (124929+(List.length code:Int))) 0 (by omega) (by omega) (by omega);exact⟨Cur.mk code 0 h',⟨code.length+1,hh⟩,by simp,by simp,by simp;omega⟩
def kL (g:Cur->List ByteArray->Option (ByteArray×Cur)):Prop:=∀c l,(Inv c/\0<l.length/\l.length<=256)->∃r,g c l=some r/\(r.1∈l/\Inv r.2)
theorem wt {gL:Cur->Int->Option (Int×Cur)} (eL:EO (z34.ent gL)) (hL:cI gL):∃g,EO (z3d.ent g)/\kL g:=
 iJ (λg hg=>z3d.ok (G:=⟨gL⟩) ⟨eL,trivial⟩ hg) λc l ⟨hc,h0,h1⟩=>by
  obtain⟨r,e1,e2,e3,e4,e5⟩:=hL c (l.length:Int) ⟨hc,by omega⟩;have hlt:r.1.toNat<l.length:=by have:=e3 (by omega);omega
  refine⟨(l[r.1.toNat],r.2),⟨1,?_⟩,gM _,e5⟩;unfold z3d.main;dsimp only;rw[e1,bS,show ix l r.1=some l[r.1.toNat]from by
   unfold ix;rw[dT (by omega),cT];exact gE hlt]
  rfl
def gOp :ByteArray->Int->List Int->Option Opr:=λnm r a=>some (Opr.mk nm [Dc.mk a r] false false 0)
theorem pb :EO (z3r.ent gOp):=z3r.ok (G:=⟨()⟩) trivial λnm x a r h=>⟨1,by cases h;rfl⟩
theorem oS :EO (z3q.ent gOp):=z3q.ok (G:=⟨()⟩) trivial λnm x a r h=>⟨1,by cases h;rfl⟩
def OpsP (l:List Opr) (n:Nat):Prop:=l.length<=n/\0<l.length/\∀o∈l,o.decls≠[]
theorem OpsP.snoc {l:List Opr} {n:Nat} (h:OpsP l n) {o:Opr} (ho:o.decls≠[]):OpsP (l++[o]) (n+1):=
 ⟨by have := h.1; simp; omega, by simp, fun x hx => by
  rcases List.mem_append.1 hx with hx|hx
  ·exact h.2.2 x hx
  ·rw[List.mem_singleton.1 hx];exact ho⟩
theorem bQ {α:Type} {l:List α} (h:l.length<=1000):lim l=some l:=by
 unfold lim;rw[Nat.ble_eq_true_of_le (by omega)];rfl
noncomputable abbrev gL4 (gO:Cur->Int->Option (Bool×Cur)):z3o.Gs:=⟨gO,gOp,gOp⟩
section
variable {gO : Cur → Int → Option (Bool × Cur)}
theorem DQ {R:Type} (n:Nat) (h0:List Int) (h02 h03:Int) (h2 h6:List ByteArray) (h3 h7:List Sb) (h4 h8:List Opr) (h9:ByteArray) (h92 h93:Bool) (h94:Int) (h10:List Dc) (hl:h8.length<=50) (k0:List Opr->Option R):
  z3o.c28 (gL4 gO) n h0 h02 h03 h2 h3 h4 h6 h7 h8 h9 h92 h93 h94 h10 k0=k0 (h8++[Opr.mk h9 h10 h92 h93 h94]):=by
 unfold z3o.c28;rw[bQ (by simp;omega),bS]
theorem DT (hO:dP gO) (n:Nat) (c:Cur) (hc:Inv c) (h2 h6:List ByteArray) (h3 h7:List Sb) (h4 h8:List Opr) (h9:ByteArray) (h92 h93:Bool) (h94:Int) (h10:List Dc) {m:Nat} (hl:OpsP h8 m) (hm:m<=20) (hd:h10≠[]):
  ∃c' l,(∀(R:Type) (k0:List Int->Int->Int->List Opr->Option R),z3o.c21 (gL4 gO) n c.b c.i c.h h2 h3 h4 h6 h7 h8 h9 h92 h93 h94 h10 k0=k0 c'.b c'.i c'.h l)/\Inv c'/\OpsP l (m+2):=by
 have hs:=hl.snoc (o:=Opr.mk h9 h10 h92 h93 h94) hd;have hlen:=hl.1;obtain⟨⟨b,c1⟩,e1,i1⟩:=hO c 3 ⟨hc,by omega⟩;obtain⟨⟨b2,c2⟩,e2,i2⟩:=hO c1 2 ⟨i1,by omega⟩;have ec:Cur.mk c.b c.i c.h=c:=rfl;cases b with
 | false => exact ⟨c1, _, fun R k0 => by
   unfold z3o.c21;dsimp only;rw[bQ (by simp;omega),bS,ec,e1,bS];rfl,i1,⟨Nat.le_succ_of_le hs.1,hs.2⟩⟩
 | true => cases b2 with
  | false => exact ⟨c2, _, fun R k0 => by
    unfold z3o.c21;dsimp only;rw[bQ (by simp;omega),bS,ec,e1,bS,cT,show gOp _ _ _=some _ from rfl,bS,e2,bS,cF,DQ _ _ _ _ _ _ _ _ _ _ _ _ _ _ _ (by simp;omega)],i2,hs.snoc (by simp)⟩
  | true => exact ⟨c2, _, fun R k0 => by
    unfold z3o.c21;dsimp only;rw[bQ (by simp;omega),bS,ec,e1,bS,cT,show gOp _ _ _=some _ from rfl,bS,e2,bS,cT,DQ _ _ _ _ _ _ _ _ _ _ _ _ _ _ _ (by simp;omega)],i2,hs.snoc (by simp)⟩
theorem d4_9 (hO:dP gO) (n:Nat) (deep:Bool) (c:Cur) (hc:Inv c) (h2 h6:List ByteArray) (h3 h7:List Sb) (h4 h8:List Opr) (h9:ByteArray) (h92 h93:Bool) (h94:Int) (h10:List Dc) {m:Nat} (hl:OpsP h8 m) (hm:m<=16) (hd:h10≠[]):
  ∃c' l,(∀(R:Type) (k0:List Int->Int->Int->List Opr->Option R),z3o.c9 (gL4 gO) n deep c.b c.i c.h h2 h3 h4 h6 h7 h8 h9 h92 h93 h94 h10 k0=k0 c'.b c'.i c'.h l)/\Inv c'/\OpsP l (m+4):=by
 have hlen:=hl.1;obtain⟨⟨b1,c1⟩,e1,i1⟩:=hO c 2 ⟨hc,by omega⟩;have hs:=(hl.snoc (o:=Opr.mk h9 h10 h92 h93 h94) hd).snoc (o:=Opr.mk (ByteArray.mk #[104]) [Dc.mk [0,0] 0] false b1 0) (by simp);have ec:Cur.mk c.b c.i c.h=c:=rfl;cases deep with
 | true =>
  obtain⟨⟨b2,c2⟩,e2,i2⟩:=hO c1 2 ⟨i1,by omega⟩;obtain⟨⟨b3,c3⟩,e3,i3⟩:=hO c2 2 ⟨i2,by omega⟩;obtain⟨⟨b4,c4⟩,e4,i4⟩:=hO c3 2 ⟨i3,by omega⟩;obtain⟨c5,l,q1,q2,q3⟩:=DT hO n c4 i4 h2 h6 h3 h7 h4 _ (ByteArray.mk #[102]) b2 b3 (bif b4 then 3 else 0) ([Dc.mk [2,2] 2]++[Dc.mk [1,1] 1]) hs (by omega) (by simp);refine⟨c5,l,λR k0=> ?_,q2,q3⟩;unfold z3o.c9;dsimp only;rw[bQ (by simp;omega),bS,show gOp (ByteArray.mk #[104]) _ _=some _ from rfl,bS,ec,e1,bS,bQ (by simp;omega),bS,show gOp (ByteArray.mk #[102]) _ _=some _ from rfl,bS,cT,bQ (by simp),bS,e2,bS,e3,bS,e4,bS];cases b4 with
  |true=>exact q1 R k0
  |false=>exact q1 R k0
 | false =>
  obtain⟨c5,l,q1,q2,q3⟩:=DT hO n c1 i1 h2 h6 h3 h7 h4 _ (ByteArray.mk #[102]) false false 0 [Dc.mk [0,2] 2] hs (by omega) (by simp);refine⟨c5,l,λR k0=> ?_,q2,q3⟩;unfold z3o.c9;dsimp only;rw[bQ (by simp;omega),bS,show gOp (ByteArray.mk #[104]) _ _=some _ from rfl,bS,ec,e1,bS,bQ (by simp;omega),bS,show gOp (ByteArray.mk #[102]) _ _=some _ from rfl,bS,cF];exact q1 R k0
theorem d4_6 (hO:dP gO) (n:Nat) (deep:Bool) (c:Cur) (hc:Inv c) (h2 h6:List ByteArray) (h3 h7:List Sb) (h4 h8:List Opr) {m:Nat} (hl:OpsP h8 m) (hm:m<=16):
  ∃c' l,(∀(R:Type) (k0:List Int->Int->Int->List Opr->Option R),z3o.c6 (gL4 gO) n deep c.b c.i c.h h2 h3 h4 h6 h7 h8 k0=k0 c'.b c'.i c'.h l)/\Inv c'/\OpsP l (m+4):=by
 obtain⟨⟨b1,c1⟩,e1,i1⟩:=hO c 2 ⟨hc,by omega⟩;have ec:Cur.mk c.b c.i c.h=c:=rfl;cases b1 with
 | true =>
  obtain⟨c5,l,q1,q2,q3⟩:=d4_9 hO n deep c1 i1 h2 h6 h3 h7 h4 h8 (ByteArray.mk #[103]) false false 0 ([Dc.mk [0] 1]++[Dc.mk [1] 1]) hl hm (by simp);refine⟨c5,l,λR k0=> ?_,q2,q3⟩;unfold z3o.c6;dsimp only;rw[show gOp (ByteArray.mk #[103]) _ _=some _ from rfl,bS,ec,e1,bS,cT,bQ (by simp),bS];exact q1 R k0
 | false =>
  obtain⟨c5,l,q1,q2,q3⟩:=d4_9 hO n deep c1 i1 h2 h6 h3 h7 h4 h8 (ByteArray.mk #[103]) false false 0 [Dc.mk [0] 1] hl hm (by simp);refine⟨c5,l,λR k0=> ?_,q2,q3⟩;unfold z3o.c6;dsimp only;rw[show gOp (ByteArray.mk #[103]) _ _=some _ from rfl,bS,ec,e1,bS,cF];exact q1 R k0
theorem xY (hO:dP gO) (n:Nat) (c:Cur) (hc:Inv c) (h2 h6:List ByteArray) (h3 h7:List Sb) (h4:List Opr):
  ∃c' l,(∀(R:Type) (k0:List Int->Int->Int->List Opr->Option R),z3o.c4 (gL4 gO) n c.b c.i c.h h2 h3 h4 h6 h7 [] k0=k0 c'.b c'.i c'.h l)/\Inv c'/\OpsP l 7:=by
 obtain⟨c5,l,q1,q2,q3⟩:=d4_6 hO n (decide (1<(List.length h7:Int))) c hc h2 h6 h3 h7 h4 ([]++[Opr.mk (ByteArray.mk #[97]) [Dc.mk [] 0] false false 0,Opr.mk (ByteArray.mk #[98]) [Dc.mk [] 1] false false 0,Opr.mk (ByteArray.mk #[101]) [Dc.mk [] 2] false false 0]) (m:=3) ⟨by simp,by simp,λo ho=>by
  simp only[List.nil_append,List.mem_cons,List.not_mem_nil,or_false]at ho;rcases ho with rfl|rfl|rfl<;>simp⟩ (by omega)
 refine⟨c5,l,λR k0=> ?_,q2,q3⟩;unfold z3o.c4;dsimp only;rw[show gOp (ByteArray.mk #[97]) _ _=some _ from rfl,bS,show gOp (ByteArray.mk #[98]) _ _=some _ from rfl,bS,show gOp (ByteArray.mk #[101]) _ _=some _ from rfl,bS,bQ (by simp),bS];exact q1 R k0
def SgP (s:Sg):Prop:=s.sorts.subs.length<=2/\OpsP s.ops 7
def L4P (g:Cur->Option (Sg×Cur)):Prop:=∀c,Inv c->∃r,g c=some r/\(SgP r.1/\Inv r.2)
theorem rN (hO:dP gO) (c:Cur) (hc:Inv c):∃r:Sg×Cur,(∀(R:Type) (K:Sg->Cur->Option R),z3o.main (gL4 gO) 1 c K=K r.1 r.2)/\SgP r.1/\Inv r.2:=by
 obtain⟨⟨b1,c1⟩,e1,i1⟩:=hO c 2 ⟨hc,by omega⟩;cases b1 with
 | true =>
  obtain⟨c5,l,q1,q2,q3⟩:=xY hO 1 c1 i1 [] [ByteArray.mk #[78],ByteArray.mk #[80],ByteArray.mk #[76]] [] ([Sb.mk 1 0]++[Sb.mk 0 2]) [];refine⟨(Sg.mk (So.mk [ByteArray.mk #[78],ByteArray.mk #[80],ByteArray.mk #[76]] ([Sb.mk 1 0]++[Sb.mk 0 2])) l,c5),λR K=> ?_,⟨by simp,q3⟩,q2⟩;unfold z3o.main;dsimp only;rw[e1,bS,cT,bQ (by simp),bS];exact q1 _ _
 | false =>
  obtain⟨c5,l,q1,q2,q3⟩:=xY hO 1 c1 i1 [] [ByteArray.mk #[78],ByteArray.mk #[80],ByteArray.mk #[76]] [] [Sb.mk 1 0] [];refine⟨(Sg.mk (So.mk [ByteArray.mk #[78],ByteArray.mk #[80],ByteArray.mk #[76]] [Sb.mk 1 0]) l,c5),λR K=> ?_,⟨by simp,q3⟩,q2⟩;unfold z3o.main;dsimp only;rw[e1,bS,cF];exact q1 _ _
theorem rh {R:Type} (n:Nat) (c:Cur) (K:Sg->Cur->Option R):z3n.main ⟨gO,gOp,gOp⟩ n c K=z3o.main (gL4 gO) n c K:=rfl
theorem wU (hO:dP gO) (eO:EO (z3c.ent gO)):∃g,(EO (z3o.ent g)/\EO (z3n.ent g))/\L4P g:=
 ki (D:=λc b=>∀(R:Type) (K:Sg->Cur->Option R),z3o.main (gL4 gO) 1 c K=K b.1 b.2) (λg hg=>⟨z3o.ok (G:=gL4 gO) ⟨eO,vY rfl pb oS,trivial⟩ λc b h=>⟨1,hg c b h _ _⟩,z3n.ok (G:=⟨gO,gOp,gOp⟩) ⟨eO,vY rfl pb oS,trivial⟩ λc b h=>⟨1,(rh _ _ _).trans (hg c b h _ _)⟩⟩) λc hc=>rN hO c hc
end
end Go.Proofs.YtfdkldmkbibknaaGreat.Den

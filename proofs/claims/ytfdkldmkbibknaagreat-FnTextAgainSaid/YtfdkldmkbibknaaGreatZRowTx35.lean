/-
  Texts that the claim rests on, merged: PD4, Drw6, Drw7, Bent4.
-/
import Derived.Test.YtfdkldmkbibknaaGreatZRowTx12
import Derived.Test.YtfdkldmkbibknaaGreatZRowTx23
import Derived.Test.YtfdkldmkbibknaaGreatZRowTx31
import Derived.Test.YtfdkldmkbibknaaGreatZRowTx34

namespace Go.Proofs.YtfdkldmkbibknaaGreat.Den
open Go.RowKit
set_option maxRecDepth 100000
set_option linter.unusedVariables false
namespace z42
structure Gs where
 z34:z34.Q
 z3x:z3x.Q
noncomputable def main {R:Type} (G:Gs) (n:Nat) (c:Cur) (s:Sg) (t:Tm) (K:Tm->Cur->Option R):Option R:=
 (G.z34 c 20).bind λr=>
 bif decide (r.1=0)then
  (
  (G.z3x r.2 7 2).bind λr2=>
  K (Tm.mk r2.1.op r2.1.name r2.1.sort r2.1.args) r2.2
  )
 else
  bif decide (r.1=1)then
   (K (Tm.mk t.op (ByteArray.mk #[120]) t.sort t.args) r.2)
  else
   bif decide (r.1=2)then
    (
    (lim (t.args++[(Tm.mk 0 ByteArray.empty 0 [])])).bind λzs=>
    K (Tm.mk t.op t.name t.sort zs) r.2
    )
   else
    bif decide (r.1=3)then
     (
     bif decide (1<(List.length t.args:Int))then
      (
      (ix t.args 1).bind λe10=>
      (ix t.args 0).bind λe12=>
      (sub t.args 2 (List.length t.args:Int)).bind λys4=>
      (lim ([(Tm.mk e10.op e10.name e10.sort e10.args),(Tm.mk e12.op e12.name e12.sort e12.args)]++ys4)).bind λzs3=>
      K (Tm.mk t.op t.name t.sort zs3) r.2
      )
     else
      K (Tm.mk t.op t.name t.sort t.args) r.2
     )
    else
     bif decide (r.1=4)then
      (K (Tm.mk t.op t.name 1 t.args) r.2)
     else
      K (Tm.mk t.op t.name t.sort t.args) r.2
theorem ok {G:Gs} (hG:AE [z34.ent G.z34,z3x.ent G.z3x]) {g:Q} (hg:∀c s t r,g c s t=some r->∃n,main (R:=AT×List Ob) G n c s t (λr0 r1=>some (.agg [.i r0.op,.s r0.name,.i r0.sort,.o 2],[.box [.l .u (Cur.b r1),.i (Cur.i r1),.i (Cur.h r1)],.gone,.row (.n 1) 0 r0.args]))=some (.agg [.i r.1.op,.s r.1.name,.i r.1.sort,.o 2],[.box [.l .u (Cur.b r.2),.i (Cur.i r.2),.i (Cur.h r.2)],.gone,.row (.n 1) 0 r.1.args])):EO (ent g):=λR xs H K r hc=>by
 simp only[ent]at hc;split at hc
 ·rename_i a a2 a3 a4 a5 a6 h h2 h3 h4;exact okL hc λr j=>let⟨_,j⟩:=hg _ _ _ _ j;rR hG ⟨48,2,[],[],[6],[(10,⟨[([0,1,2,3,4,5,6,7,8,9,10,11,12,13,14],[8,12,14],[1,5,10])],[8,12,14],[5],[0,2,3,5],[]⟩)],[]⟩ nP [1] (xs2:=[.one (.p 0 0),.agg [.l .s a,.l (.n 5) a2,.l (.n 8) a3],.agg [.i a4,.s a5,.i a6,.o 2]]) (H2:=[.box [.l .u h,.i h2,.i h3],.gone,.row (.n 1) 0 h4]) Tryz.func79 j
 ·cases hc
end z42
namespace z2r
structure Gs where
 z3b:z3b.Q
 z3l:z3l.Q
 z2u:z2u.Q
 z3x:z3x.Q
 z46:z46.Q
 z42:z42.Q
noncomputable def main {R:Type} (G:Gs) (n:Nat) (code:LI) (K:Sg->Tm->Option R):Option R:=
 (G.z3b code).bind λr=>
 od (G.z3l r) λr2=>
 (G.z2u r2.1).bind λr3=>
 bif !r3 then
  (
  (G.z3x r2.2 6 2).bind λr5=>
  K r2.1 (Tm.mk r5.1.op r5.1.name r5.1.sort r5.1.args)
  )
 else
  (G.z46 r2.2 r2.1 3 true).bind λr8=>
  (G.z42 r8.2 r2.1 (Tm.mk r8.1.op r8.1.name r8.1.sort r8.1.args)).bind λr9=>
  K r2.1 (Tm.mk r9.1.op r9.1.name r9.1.sort r9.1.args)
theorem ok {G:Gs} (hG:AE [z3b.ent G.z3b,z3l.ent G.z3l,z2u.ent G.z2u,z3x.ent G.z3x,z46.ent G.z46,z42.ent G.z42]) {g:Q} (hg:∀code,(∃a,g code a)->∃n,main (R:=Unit) G n code (λr0 r1=>ie (∃a,g code a/\((.tup [.agg [.l .s r0.sorts.names,.l (.n 5) r0.sorts.subs,.l (.n 8) r0.ops],.agg [.i r1.op,.s r1.name,.i r1.sort,.l (.n 1) r1.args]],[]):AT×List Ob)=((.tup [.agg [.l .s a.1.sorts.names,.l (.n 5) a.1.sorts.subs,.l (.n 8) a.1.ops],.agg [.i a.2.op,.s a.2.name,.i a.2.sort,.l (.n 1) a.2.args]],[]):AT×List Ob)))=some ()):fK Tryz.prog (ent g):=λR xs H K r hc=>by
 simp only[ent]at hc;split at hc
 ·exact okR hc λj=>let⟨_,j⟩:=hg _ j;gF hG ⟨23,0,[],[],[2,3],[(4,⟨[([1,2,0,3,4],[2,3,4],[])],[2,3,4],[],[3],[]⟩),(5,⟨[([3,4,5,1,2,6,0,7,8],[5,6,7,8],[])],[5,6,7,8],[],[3],[]⟩)],[]⟩ nP Tryz.func37 j
 ·cases hc
end z2r
namespace z2q
structure Gs where
 z2r:z2r.Q
noncomputable def main {R:Type} (G:Gs) (n:Nat) (code:LI) (K:Sg->Tm->Option R):Option R:=
 od (G.z2r code) λr=>
 K r.1 (Tm.mk r.2.op r.2.name r.2.sort r.2.args)
theorem ok {G:Gs} (hG:AE [z2r.ent G.z2r]) {g:Q} (hg:∀code,(∃a,g code a)->∃n,main (R:=Unit) G n code (λr0 r1=>ie (∃a,g code a/\((.tup [.agg [.l .s r0.sorts.names,.l (.n 5) r0.sorts.subs,.l (.n 8) r0.ops],.agg [.i r1.op,.s r1.name,.i r1.sort,.l (.n 1) r1.args]],[]):AT×List Ob)=((.tup [.agg [.l .s a.1.sorts.names,.l (.n 5) a.1.sorts.subs,.l (.n 8) a.1.ops],.agg [.i a.2.op,.s a.2.name,.i a.2.sort,.l (.n 1) a.2.args]],[]):AT×List Ob)))=some ()):fK Tryz.prog (ent g):=λR xs H K r hc=>by
 simp only[ent]at hc;split at hc
 ·exact okR hc λj=>let⟨_,j⟩:=hg _ j;gF hG ⟨8,0,[],[],[2,3],[],[]⟩ nP Tryz.func15 j
 ·cases hc
end z2q
section
variable {gW : Cur → Sg → Int → Bool → Option (Tm × Cur)} {gC : Sg → Tm → Option (Tm × Bool)}
theorem Bn (hW:R6P gW) (hC:zY gC) {s:Sg} (hS:aM s=true) (n:Nat) (d:Int) (hd: -1000<=d/\d<=3) (v:Bool) (h2:Int) (h22:ByteArray) (h23:Int) (h3:List Tm):∀m (i:Nat) (c:Cur),Inv c->i<=8->8-i<m->
  ∃ c', Inv c' ∧ ((∃ t : Tm, t.total ≤ 900 ∧ ∀ (R : Type) (k0 : List Int → Int → Int → Int → ByteArray → Int → List Tm → Option R) (k1 : List Int → Int → Int → Option R), z46.l2        ⟨gW, gC⟩ n m d v s.sorts.names s.sorts.subs s.ops h2 h22 h23 h3 (i : Int) c.b c.i c.h k0 k1 = k0 c'.b c'.i c'.h t.op t.name t.sort t.args) ∨
   (∀(R:Type) (k0:List Int->Int->Int->Int->ByteArray->Int->List Tm->Option R) (k1:List Int->Int->Int->Option R),z46.l2 ⟨gW,gC⟩ n m d v s.sorts.names s.sorts.subs s.ops h2 h22 h23 h3 (i:Int) c.b c.i c.h k0 k1=k1 c'.b c'.i c'.h)):=by
 intro m
 induction m with
 |zero=>intro i c _ _ hm;omega
 | succ m ih =>
  intro i c hc hi hm;have hl:s.ops.length<=200:=by have:=(qo hS).1;omega
  have step:∀(R:Type) (k0:List Int->Int->Int->Int->ByteArray->Int->List Tm->Option R) (k1:List Int->Int->Int->Option R),z46.l2 ⟨gW,gC⟩ n (m+1) d v s.sorts.names s.sorts.subs s.ops h2 h22 h23 h3 (i:Int) c.b c.i c.h k0 k1=z46.b2 ⟨gW,gC⟩ n d v s.sorts.names s.sorts.subs s.ops h2 h22 h23 h3 (i:Int) c.b c.i c.h (λy0 y1 y2 y3=>z46.l2 ⟨gW,gC⟩ n m d v s.sorts.names s.sorts.subs s.ops h2 h22 h23 h3 y0 y1 y2 y3 k0 k1) k0 k1:=λR k0 k1=>rfl;by_cases hlt:i<8
  ·obtain⟨⟨t,c1⟩,e1,t1,i1⟩:=hW c s d v ⟨hc,hl,hd.1,hd.2⟩;dsimp only at t1 i1;obtain⟨⟨t',q⟩,e2,g2⟩:=hC s t ⟨hS,t1⟩;have ec:Cur.mk c.b c.i c.h=c:=rfl;have es:Sg.mk (So.mk s.sorts.names s.sorts.subs) s.ops=s:=rfl;have one:∀(R:Type) (k0:List Int->Int->Int->Int->ByteArray->Int->List Tm->Option R) (k1:List Int->Int->Int->Option R),z46.l2 ⟨gW,gC⟩ n (m+1) d v s.sorts.names s.sorts.subs s.ops h2 h22 h23 h3 (i:Int) c.b c.i c.h k0 k1=bif q then k0 c1.b c1.i c1.h t'.op t'.name t'.sort t'.args else z46.l2 ⟨gW,gC⟩ n m d v s.sorts.names s.sorts.subs s.ops h2 h22 h23 h3 ((i+1:Nat):Int) c1.b c1.i c1.h k0 k1:=λR k0 k1=>by
    rw[step];unfold z46.b2 z46.d4;dsimp only;rw[dT (by omega),cT,ec,es,e1,bS];simp only[Tm.eta];rw[e2,bS,bu (by omega)]
   cases q with
   |true=>exact⟨c1,i1,.inl ⟨t',Nat.le_trans (g2 rfl).total (by omega),λR k0 k1=>one R k0 k1⟩⟩
   | false =>
    obtain⟨c',i',q1|q1⟩:=ih (i+1) c1 i1 hlt (by omega)
    ·obtain⟨u,u1,u2⟩:=q1;exact⟨c',i',.inl ⟨u,u1,λR k0 k1=>(one R k0 k1).trans (u2 R k0 k1)⟩⟩
    ·exact⟨c',i',.inr λR k0 k1=>(one R k0 k1).trans (q1 R k0 k1)⟩
  ·refine⟨c,hc,.inr λR k0 k1=> ?_⟩;rw[step];unfold z46.b2;rw[dF (by omega),cF]
def D6P (g:Cur->Sg->Int->Bool->Option (Tm×Cur)):Prop:=∀c s d v,(Inv c/\aM s=true/\ -1000<=d/\d<=3)->∃r,g c s d v=some r/\(r.1.total<=900/\Inv r.2)
theorem tB (hW:R6P gW) (hC:zY gC) (eW:EO (z4d.ent gW)) (eC:EO (z44.ent gC)):∃g,EO (z46.ent g)/\D6P g:=
 sM (λg hg=>z46.ok (G:=⟨gW,gC⟩) ⟨eW,eC,trivial⟩ hg) λc s d v ⟨hc,hS,h1,h2⟩=>by
  obtain⟨c',i',q1|q1⟩:=Bn hW hC hS 9 d ⟨h1,h2⟩ v 0 ByteArray.empty 0 [] 9 0 c hc (by omega) (by omega)
  ·obtain⟨t,t1,t2⟩:=q1;refine⟨(t,c'),⟨9,(t2 _ _ _).trans ?_⟩,t1,i'⟩;rw[Tm.eta]
  ·exact⟨(Tm.mk 0 ByteArray.empty 0 [],c'),⟨9,q1 _ _ _⟩,by rw[bC];decide,i'⟩
def B6P (g:Cur->Sg->Tm->Option (Tm×Cur)):Prop:=∀c s t,(Inv c/\t.total<=900)->∃r,g c s t=some r/\(r.1.total<=2000/\Inv r.2)
theorem tG {gL:Cur->Int->Option (Int×Cur)} {gR:Cur->Int->Int->Option (Tm×Cur)} (hL:cI gL) (hR:Em gR) (eL:EO (z34.ent gL)) (eR:EO (z3x.ent gR)):∃g,EO (z42.ent g)/\B6P g:=
 jY       (λg hg=>z42.ok (G:=⟨gL,gR⟩) ⟨eL,eR,trivial⟩ hg) λc s t ⟨hc,ht⟩=>by
  obtain⟨⟨x,c1⟩,e1,_,_,_,i1⟩:=hL c 20 ⟨hc,by omega⟩;dsimp only at i1;have hta:=aC t;have hlen:t.args.length<=ae t.args:=by unfold ae;omega
  by_cases h0:x=0
  ·obtain⟨⟨u,c2⟩,e2,u2,i2⟩:=hR c1 7 2 ⟨i1,by omega,by omega,by omega,by omega⟩;exact⟨(u,c2),⟨1,by simp[z42.main,e1,h0,e2]⟩,Nat.le_trans u2 (by decide),i2⟩
  by_cases h1:x=1
  ·exact⟨(Tm.mk t.op (ByteArray.mk #[120]) t.sort t.args,c1),⟨1,by simp[z42.main,e1,h1]⟩,by
    rw[bC];show 1+ae t.args<=2000;omega,i1⟩
  by_cases h2:x=2
  ·exact⟨(Tm.mk t.op t.name t.sort (t.args++[Tm.mk 0 ByteArray.empty 0 []]),c1),⟨1,by
    simp only[z42.main,e1,h2,bS];rw[bQ (by simp;omega)];rfl⟩,by
    have e0:ae (t.args++[Tm.mk 0 ByteArray.empty 0 []])=ae t.args+1:=by
     have:(Tm.mk 0 ByteArray.empty 0 []).total=0:=by rw[bC];rfl
     unfold ae;simp[this];omega
    rw[bC];show t.name.size+ae _<=2000;omega,i1⟩
  by_cases h3:x=3
  ·by_cases hl:1<t.args.length
   ·obtain⟨a,b,l,ha⟩:∃a b l,t.args=a::b::l:=by
     match h:t.args with
     |[]=>rw[h]at hl;simp at hl
     |[_]=>rw[h]at hl;simp at hl
     |a::b::l=>exact⟨a,b,l,rfl⟩
    rw[ha]at hlen hta;refine⟨(Tm.mk t.op t.name t.sort (b::a::l),c1),⟨1,?_⟩,?_,i1⟩
    ·have hs:sub (a::b::l) 2 ((a::b::l).length:Int)=some l:=by
      rw[Aw (by omega) (by simp;omega) (by simp),Int.toNat_natCast,List.take_length];rfl
     simp only[z42.main,e1,h3,bS,ha];rw[show ix (a::b::l) 1=some b from rfl,show ix (a::b::l) 0=some a from rfl,hs,dT (show (1:Int)<((a::b::l).length:Int) by simp;omega)];simp only[bS,Tm.eta];rw[show lim ([b,a]++l)=some (b::a::l)from bQ (by simp at hlen ⊢;omega)];rfl
    ·rw[bC];show t.name.size+ae (b::a::l)<=2000;rw[bP,bP]at hta ⊢;omega
   ·exact⟨(t,c1),⟨1,by
     simp only[z42.main,e1,h3,bS];rw[dF (show ¬(1:Int)<(t.args.length:Int) by omega)];rfl⟩,Nat.le_trans ht (by decide),i1⟩
  by_cases h4:x=4
  ·exact⟨(Tm.mk t.op t.name 1 t.args,c1),⟨1,by simp[z42.main,e1,h4]⟩,by
    rw[bC];show t.name.size+ae t.args<=2000;omega,i1⟩
  exact⟨(t,c1),⟨1,by simp[z42.main,e1,h0,h1,h2,h3,h4,Tm.eta]⟩,Nat.le_trans ht (by decide),i1⟩
end
def yF :Cur->Sg×Cur->Prop:=λc r=>Inv c/\Inv r.2
def yT :List Int->Sg×Tm->Prop:=λcode a=>code.length<=1048576/\a.2.total<4294967295
theorem oe {gN:List Int->Option Cur} {gR:Cur->Int->Int->Option (Tm×Cur)} {gD:Cur->Sg->Int->Bool->Option (Tm×Cur)} {g6:Cur->Sg->Tm->Option (Tm×Cur)} (hN:NewP gN) (hR:Em gR) (hD:D6P gD) (h6:B6P g6)
  (eN:EO (z3b.ent gN)) (eB:fK Tryz.prog (z3l.ent yF)) (eR:EO (z3x.ent gR)) (eD:EO (z46.ent gD)) (e6:EO (z42.ent g6)):fK Tryz.prog (z2r.ent yT):=
 z2r.ok (G:=⟨gN,yF,λs=>some (aM s),gR,gD,g6⟩) ⟨eN,eB,z2v,eR,eD,e6,trivial⟩ λcode ⟨a,hl,_⟩=>⟨1,by
  obtain⟨c,ec,ic⟩:=hN code hl;unfold z2r.main;dsimp only;rw[ec,bS];refine qD ⟨(a.1,c),ic,ic⟩ λ⟨s,c1⟩ ⟨_,i1⟩=> ?_
  dsimp only at i1 ⊢;rw[bS];cases hs:aM s with
  | false =>
   obtain⟨⟨t,c2⟩,e2,t2,_⟩:=hR c1 6 2 ⟨i1,by omega,by omega,by omega,by omega⟩;rw[Bool.not_false,cT,e2,bS];simp only[Tm.eta];exact iP ⟨(s,t),⟨hl,by dsimp only at t2 ⊢;omega⟩,rfl⟩
  | true =>
   obtain⟨⟨t,c2⟩,e2,t2,i2⟩:=hD c1 s 3 true ⟨i1,hs,by omega,by omega⟩;obtain⟨⟨u,c3⟩,e3,t3,_⟩:=h6 c2 s t ⟨i2,t2⟩;rw[Bool.not_true,cF,e2,bS];dsimp only;simp only[Tm.eta];rw[e3,bS];exact iP ⟨(s,u),⟨hl,by dsimp only at t3 ⊢;omega⟩,rfl⟩⟩
theorem kA (e:fK Tryz.prog (z2r.ent yT)):fK Tryz.prog (z2q.ent yT):=
 z2q.ok (G:=⟨yT⟩) ⟨e,trivial⟩ λcode h=>⟨1,by
  unfold z2q.main;refine qD h λr hr=> ?_;refine iP ⟨r,hr,?_⟩;simp only[Tm.eta]⟩
section
variable {gD : Cur → Option (Sg × Cur)} {gB : Cur → Int → Option (Int × Cur)} {gP : Cur → List ByteArray → Option (ByteArray × Cur)}
def No3 (gD:Cur->Option (Sg×Cur)) (gB:Cur->Int->Option (Int×Cur)) (c:Cur):Prop:=∀r r2 r3,gD c=some r->gB r.2 (List.length r.1.ops:Int)=some r2->gB r2.2 24=some r3->r3.1≠3
theorem Bi (hD:L4P gD) (hB:cI gB) (hP:kL gP) (eD:EO (z3o.ent gD)) (eB:EO (z34.ent gB)) (eP:EO (z3d.ent gP)):∃g,EO (z3k.ent g)/\∀c,(Inv c/\No3 gD gB c)->∃r,g c=some r/\Inv r.2:=
 ki      (λg hg=>z3k.ok (G:=⟨gD,gB,gP⟩) ⟨eD,eB,eP,trivial⟩ hg) λc ⟨hc,h3⟩=>by
  obtain⟨⟨s,c1⟩,e1,sp,i1⟩:=hD c hc;dsimp only at sp i1;have hl:=sp.2.1;have hp:=sp.2.2.1;obtain⟨⟨k,c2⟩,e2,k0,k1,_,i2⟩:=hB c1 (s.ops.length:Int) ⟨i1,by omega⟩;dsimp only at k0 k1 i2;obtain⟨⟨tg,c3⟩,e3,_,_,_,i3⟩:=hB c2 24 ⟨i2,by omega⟩;dsimp only at i3;obtain⟨o,eo,_⟩:=np (xs:=s.ops) k0 (k1 (by omega));have n3:tg≠3:=h3 _ _ _ e1 e2 e3;by_cases h0:tg=0
  ·obtain⟨⟨nm,c4⟩,e4,_,i4⟩:=hP c3 [ByteArray.empty,ByteArray.mk #[97],ByteArray.mk #[102],ByteArray.mk #[120,32,121]] ⟨i3,by simp,by simp⟩;exact⟨(Sg.mk s.sorts (s.ops.set k.toNat (Opr.mk nm o.decls o.assoc o.comm o.unit)),c4),⟨1,by
    simp only[z3k.main,e1,e2,e3,h0,bS,decide_true,cT,e4,eo]⟩,i4⟩
  by_cases h1:tg=1
  ·exact⟨(Sg.mk s.sorts (s.ops.set k.toNat (Opr.mk o.name o.decls (!o.assoc) o.comm o.unit)),c3),⟨1,by
    simp only[z3k.main,e1,e2,e3,h1,bS,decide_true,cT,eo];rfl⟩,i3⟩
  by_cases h2:tg=2
  ·obtain⟨⟨y,c4⟩,e4,_,_,_,i4⟩:=hB c3 10 ⟨i3,by omega⟩;exact⟨(Sg.mk s.sorts (s.ops.set k.toNat (Opr.mk o.name o.decls o.assoc o.comm (wr (y-1)))),c4),⟨1,by
    simp only[z3k.main,e1,e2,e3,h2,bS,decide_true,cT,e4,eo];rfl⟩,i4⟩
  by_cases h4:tg=4
  ·exact⟨(Sg.mk s.sorts (s.ops.set k.toNat (Opr.mk o.name [] o.assoc o.comm o.unit)),c3),⟨1,by
    simp only[z3k.main,e1,e2,e3,h4,bS,decide_true,cT,eo];rfl⟩,i3⟩
  by_cases h5:tg=5
  ·exact⟨(Sg.mk s.sorts (s.ops.set k.toNat (Opr.mk o.name o.decls o.assoc (!o.comm) o.unit)),c3),⟨1,by
    simp only[z3k.main,e1,e2,e3,h5,bS,decide_true,cT,eo];rfl⟩,i3⟩
  by_cases h6:tg=6
  ·exact⟨(Sg.mk (So.mk s.sorts.names (s.sorts.subs++[Sb.mk 2 1])) s.ops,c3),⟨1,by
    simp only[z3k.main,e1,e2,e3,h6,bS,decide_true,cT];rw[bQ (by have:=sp.1;simp;omega)];rfl⟩,i3⟩
  exact⟨(s,c3),⟨1,by simp[z3k.main,e1,e2,e3,h0,h1,h2,n3,h4,h5,h6]⟩,i3⟩
theorem A6 (hD:L4P gD) (hB:cI gB) (hP:kL gP) (eD:EO (z3o.ent gD)/\EO (z3n.ent gD)) (eB:EO (z34.ent gB)) (eP:EO (z3d.ent gP)):fK Tryz.prog (z3l.ent yF):=λR xs H K r hc=>by
 simp only[z3l.ent]at hc;split at hc
 ·rename_i b i h;refine okR hc λ⟨_,hc,_⟩=> ?_
  by_cases h3:No3 gD gB (Cur.mk b i h)
  ·obtain⟨g,eG,hG⟩:=Bi       hD hB hP eD.1 eB eP;obtain⟨r,e,i'⟩:=hG _ ⟨hc,h3⟩;obtain⟨v,H',k1,k2⟩:=eG (AT×List Ob) [.one (.p 0 0)] [.box [.l .u b,.i i,.i h]] (λv H=>some (v,H)) (.agg [.l .s r.1.sorts.names,.l (.n 5) r.1.sorts.subs,.l (.n 8) r.1.ops],[.box [.l .u r.2.b,.i r.2.i,.i r.2.h]]) (by
    simp only[z3k.ent,e,bS])
   cases k1;exact λρ h avs hp ha=>(k2 ρ h avs hp ha).mono λ_ _ ⟨ρ',m⟩=>⟨_,ρ',⟨r,⟨hc,i'⟩,rfl⟩,m⟩
  ·have h3':∃r r2 r3,gD (Cur.mk b i h)=some r/\gB r.2 (List.length r.1.ops:Int)=some r2/\gB r2.2 24=some r3/\r3.1=3:=Classical.byContradiction λhn=>h3 λr r2 r3 g1 g2 g3 g4=>hn ⟨r,r2,r3,g1,g2,g3,g4⟩;obtain⟨⟨s,c1⟩,⟨k,c2⟩,⟨_,c3⟩,e1,e2,e3,rfl⟩:=h3';dsimp only at e2 e3;obtain⟨r,e1',sp,i1⟩:=hD _ hc;rw[e1]at e1';cases e1';dsimp only at sp i1;have hl:=sp.2.1;have hp:=sp.2.2.1;obtain⟨r,e2',k0,k1,_,i2⟩:=hB c1 (s.ops.length:Int) ⟨i1,by omega⟩;rw[e2]at e2';cases e2';dsimp only at k0 k1 i2;obtain⟨r,e3',_,_,_,i3⟩:=hB c2 24 ⟨i2,by omega⟩;rw[e3]at e3';cases e3';dsimp only at i3;obtain⟨⟨y,c4⟩,e4,_,_,_,i4⟩:=hB c3 5 ⟨i3,by omega⟩;dsimp only at i4;obtain⟨o,eo,eo2⟩:=np (xs:=s.ops) k0 (k1 (by omega));have hd:=sp.2.2.2 o (mG eo2);obtain⟨d,ed,_⟩:=np (xs:=o.decls) (Int.le_refl 0) (by have:=List.length_pos_iff.2 hd;omega);exact Gt (c:=Cur.mk b i h) ⟨eD.2,eB,trivial⟩ e1 e2 e3 e4 eo ed λs' c' h1 h2=>⟨hc,by rw[h2];exact i4.1,by rw[h1,h2];exact i4.2.1,by rw[h1];exact i4.2.2⟩
 ·cases hc
theorem yC :fK Tryz.prog (z2q.ent yT):=by
 obtain⟨gN,eN,hN⟩:=ER;obtain⟨gY,eY,hY⟩:=BW;obtain⟨gB,eB,hB⟩:=Av eY hY;obtain⟨gO,eO,hO⟩:=Da eB hB;obtain⟨gP,eP,hP⟩:=wt eB hB;obtain⟨gD,eD,hD⟩:=wU hO eO;obtain⟨gR,eR,hR⟩:=wi hB hO hP eB eO eP;obtain⟨gW,eW,hW⟩:=mK hB hO hP eB eO eP 3 (by omega);obtain⟨g6,e6,h6⟩:=AF hO hW eO eW;obtain⟨gC,eC,hC⟩:=rj;obtain⟨gV,eV,hV⟩:=tB h6 hC e6 eC;obtain⟨gT,eT,hT⟩:=tG hB hR eB eR;exact kA (oe hN hR hV hT eN (A6 hD hB hP eD eB eP) eR eV eT)
end
end Go.Proofs.YtfdkldmkbibknaaGreat.Den

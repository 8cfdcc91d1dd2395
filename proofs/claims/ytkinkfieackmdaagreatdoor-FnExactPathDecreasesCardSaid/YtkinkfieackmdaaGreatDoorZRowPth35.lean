/-
  Texts that the claim rests on, merged: PQ2, PthD.
-/
import Derived.Test.YtkinkfieackmdaaGreatDoorZRowPth11
import Derived.Test.YtkinkfieackmdaaGreatDoorZRowPth29
import Derived.Test.YtkinkfieackmdaaGreatDoorZRowPth33
import Derived.Test.YtkinkfieackmdaaGreatDoorZRowPth34

namespace Go.Proofs.YtkinkfieackmdaaGreatDoor.Den
open Go.RowKit
set_option maxRecDepth 100000
set_option linter.unusedVariables false
namespace z0p
structure Gs where
 z1e:z1e.Q
 z0x:z0x.Q
 z0f:z0f.Q
 z1g:z1g.Q
 z1j:z1j.Q
noncomputable def ae (G:Gs):List Ent:=[z1e.ent G.z1e,z0x.ent G.z0x,z0f.ent G.z0f,z1g.ent G.z1g,z1j.ent G.z1j]
noncomputable def b6 {R:Type} (G:Gs) (n:Nat) (t43:LQ) (t44:Int) (h0 h1 h12 h13:LI) (h14:LB) (h15:LS) (h16:LO) (t45:Int) (h2:LM) (h3:List (ByteArray×Bool)) (nx:Int->LM->(List (ByteArray×Bool))->Option R) (k0:Bool->Option R) (k1:Option R):Option R:=
 bif decide (t45<t44)then
  (
  (ix t43 t45).bind λe=>
  (G.z1j h1 h12 h13 h14 h15 h16 h2 h0 h3 (Tm.mk e.left.op e.left.name e.left.sort e.left.args) (Tm.mk e.right.op e.right.name e.right.sort e.right.args)).bind λr=>
  bif !r.1 then
   (k0 false)
  else
   nx (wr (t45+1)) r.2.1 r.2.2
  )
 else
  k1
noncomputable def l6 {R:Type} (G:Gs) (n m:Nat) (t43:LQ) (t44:Int) (h0 h1 h12 h13:LI) (h14:LB) (h15:LS) (h16:LO) (t45:Int) (h2:LM) (h3:List (ByteArray×Bool)) (k0:Bool->Option R) (k1:Option R):Option R:=au (λ(v:Int×LM×(List (ByteArray×Bool))) nx=>b6 G n t43 t44 h0 h1 h12 h13 h14 h15 h16 v.1 v.2.1 v.2.2 (λy0 y1 y2=>nx (y0,y1,y2)) k0 k1) m (t45,h2,h3)
noncomputable def main {R:Type} (G:Gs) (n:Nat) (m2:Md) (rank:LI) (K:Bool->Option R):Option R:=
 (G.z1e m2.sig).bind λr=>
 vd    r
  (
   K false
  )
  (fun q =>
   (G.z0x q.1 q.2.1 q.2.2.1 q.2.2.2.1 q.2.2.2.2.1 q.2.2.2.2.2.1 q.2.2.2.2.2.2 m2).bind λr2=>
   bif !r2.1 then
    (K false)
   else
    (G.z0f m2.sig).bind λr3=>
    bif !r3 then
     (K false)
    else
     bif !decide ((List.length rank:Int)=(List.length m2.sig.ops:Int))then
      (K false)
     else
      (G.z1g q.1 q.2.1 q.2.2.1 q.2.2.2.1 q.2.2.2.2.1 q.2.2.2.2.2.1 r2.2 rank).bind λr4=>
      l6 G n n m2.eqs (List.length m2.eqs:Int) r4.1 q.1 q.2.1 q.2.2.1 q.2.2.2.1 q.2.2.2.2.1 q.2.2.2.2.2.1 0 r4.2.2 r4.2.1
       (λt4=>K t4)
       (K true)
  )
noncomputable def dl6 (G:Gs) (n m:Nat) (R:Type) (st:St) (K:Kt R):Option R:=match st with
 |⟨[(7,.one (.p 0 0)),(43,.one (.l (.n 14) t43)),(44,.one (.i t44)),(45,.one (.i t45))],[.box [.p 1 0,.l .i h0,.m 3],.box [.l .i h1,.l .i h12,.l .i h13,.l .s h14,.l (.n 5) h15,.l (.n 8) h16,.m 2],.map .i h2,.map .b h3]⟩=>l6 G n m t43 t44 h0 h1 h12 h13 h14 h15 h16 t45 h2 h3 (λt4=>K .ret ⟨[(4,.one (.b t4))],[]⟩) (K (.exit 0) ⟨[],[]⟩)
 |_=>none
noncomputable def pc (G:Gs) (n:Nat):Pcs:=⟨λR id st K=>bif Nat.beq id 6 then dl6 G n n R st K else none,nK,nK⟩
noncomputable def an:Ann:=⟨57,0,[(6,[7,43,44,45])],[],[4],[],[]⟩
noncomputable abbrev bd:=ai Tryz.f8
noncomputable abbrev q6:=am [1,1,1,1,0,1,0,0] bd
theorem pl6 {G:Gs} (hG:AE (ae G)) (n:Nat):∀m,PO an (.loop q6) (dl6 G n m):=lpc hG (pc G n) [7,43,44,45] ⟨[],[4],[(0,[])]⟩ (apl [] trivial) (λR st K=>by unfold dl6;split<;>rfl) λm R st K r h=>by unfold dl6 at h;split at h;exact .trans (by kernel_rfl) h;cases h
theorem ok {G:Gs} (hG:AE (ae G)) {g:Q} (hg:∀m2 rank r,g m2 rank=some r->∃n,main (R:=AT×List Ob) G n m2 rank (λr0=>some (.one (.b r0),[]))=some (.one (.b r),[])):EO (ent g):=λR xs H K r hc=>by
 simp only[ent]at hc;split at hc
 ·exact okL hc λr j=>let⟨n,j⟩:=hg _ _ _ j;fF hG an (pc G n) Tryz.func8 j (apl [(1,6,.loop q6)] ⟨pl6 hG n n,trivial⟩)
 ·cases hc
end z0p
namespace z1q
structure Gs where
 z2j:z2j.Q
 z2z:z2z.Q
 z2y:z2y.Q
 z3s:z3s.Q
 z0p:z0p.Q
 z1y:z1y.Q
 z1x:z1x.Q
noncomputable def main {R:Type} (G:Gs) (n:Nat) (aM:Md) (aRank:LI) (K:Bool->Option R):Option R:=
 bif decide (1048576<(List.length aRank:Int))then
  (K true)
 else
  (G.z2j aM 1048576).bind λr=>
  bif decide (r<0)then
   (K true)
  else
   (G.z2z aM).bind λr2=>
   (G.z2y aRank).bind λr3=>
   (G.z3s r2 r3).bind λr4=>
   (G.z2z aM).bind λr5=>
   (G.z2y aRank).bind λr6=>
   (G.z0p r5 r6).bind λr7=>
   bif !(r7==r4)then
    (K false)
   else
    (G.z2z aM).bind λr9=>
    (G.z1y r5 r9).bind λr11=>
    bif !r11 then
     (K false)
    else
     (G.z2y aRank).bind λr12=>
     (G.z1x r6 r12).bind λr13=>
     bif !r13 then
      (K false)
     else
      K true
noncomputable def ax (G:Gs) (aM:Md) (aRank:LI) (r:Bool):Prop:=∃n,main (R:=AT×List Ob) G n aM aRank (λr0=>some (.one (.b r0),[]))=some (.one (.b r),[])
theorem ok {G:Gs} (hG:AE [z2j.ent G.z2j,z2z.ent G.z2z,z2y.ent G.z2y,z3s.ent G.z3s,z0p.ent G.z0p,z1y.ent G.z1y,z1x.ent G.z1x]) {g:Q} (hg:∀aM aRank r,g aM aRank=some r->ax G aM aRank r):EO (ent g):=λR xs H K r hc=>by
 simp only[ent]at hc;split at hc
 ·exact okL hc λr j=>let⟨_,j⟩:=hg _ _ _ j;fF hG ⟨43,0,[],[],[4],[(13,⟨[([0,1,2,3,4],[],[])],[],[],[0,1],[]⟩)],[]⟩ nP Tryz.func3 j
 ·cases hc
end z1q
open Classical
theorem yz {s:Sg} (h:bw s=true):lO s=gS s:=by
 unfold lO gS;rw[fW (F':=λo:Opr=> !o.assoc&&decide (o.unit=0)) λo ho=>by
  have:=(iX h ho).u0;by_cases e:o.unit=0
  ·rw[dT e,dF (by omega)];rfl
  ·rw[dF e,dT (show 0<o.unit by omega)];rfl]
theorem rh {s:Sg} (h:gS s=true):bw s=true/\∀o∈s.ops,o.assoc=false:=by
 unfold gS at h;rw[bA,aT]at h;refine⟨h.2,λo ho=> ?_⟩;have:=h.1 o ho;rw[bA]at this;simpa using this.1
noncomputable def pdF (m:Md) (rank:List Int):Bool:=(bw m.sig&&lp m)&&(gS m.sig&&(decide ((rank.length:Int)=(m.sig.ops.length:Int))&&m.eqs.all λe=>gtF m.sig.ops rank e.left e.right))
def SmP (m:Md):Prop:=SmM m/\m.sig.ops.length<4294967296/\∀e∈m.eqs,e.left.total+e.right.total<100000000
noncomputable def gPd:Md->List Int->Option Bool:=λm rank=>if SmP m then some (pdF m rank)else none
theorem wy {m:Md} (h:lp m=true):m.eqs.length<=16/\∀e∈m.eqs,Good m.sig e.left/\Good m.sig e.right:=by
 unfold lp at h;simp only[bA,decide_eq_true_eq,aT]at h;refine⟨by omega,λe he=> ?_⟩;have:=h.2 e (List.mem_append_left _ he);unfold fV cZ isT at this;simp only[bA]at this;exact⟨eP this.1.1.2.2,eP this.1.2.1.2.2⟩
theorem z3t :EO (z3s.ent gPd):=z3s.ok (G:={z3i:=wM,z3h:=λs=>if s.ops.length<4294967296 then some (lO s)else none,z47:=gGr 100000000}) ⟨z3j,z3e,dz _ (by omega),trivial⟩ λm rank r h=>by
 unfold gPd at h;split at h
 ·rename_i hs;obtain⟨hm,hop,ht⟩:=hs;cases h;refine⟨17,?_⟩;unfold z3s.main pdF;show Option.bind (wM   m) _=_;rw[show wM   m=some (bw   m.sig&&lp   m)from if_pos hm,bS];cases hsm:bw   m.sig&&lp   m with
  |false=>rfl
  | true =>
   rw[bA]at hsm;rw[Bool.not_true,cF];show Option.bind (if m.sig.ops.length<4294967296 then some (lO m.sig)else none) _=_;rw[if_pos hop,bS,yz hsm.1,Bool.true_and];cases hf:gS m.sig with
   |false=>rfl
   | true =>
    rw[Bool.not_true,cF,Bool.true_and];by_cases hr:(rank.length:Int)=(m.sig.ops.length:Int)
    ·rw[dT hr,Bool.not_true,cF,Bool.true_and];obtain⟨h16,hg⟩:=wy      hsm.2;have hC:Ctx m.sig rank:=⟨hsm.1,(rh       hf).2,by omega⟩;refine(mg   m.eqs (λe=>gtF m.sig.ops rank e.left e.right) (λi nx=>z3s.b4 {z3i:=wM  ,z3h:=λs=>if s.ops.length<4294967296 then some (lO    s)else none,z47:=gGr 100000000} 17 rank m.sig.sorts.names m.sig.sorts.subs m.sig.ops m.eqs m.rules i nx _ _) (some (AT.one (.b false),[])) (some (AT.one (.b true),[])) (λnx=> ?_) (λi e nx hi=> ?_) 17 0 (by omega) (by omega)).trans ?_
     ·unfold z3s.b4;rw[aq (Nat.lt_irrefl _),cF]
     ·have hil:i<m.eqs.length:=(gI.1 hi).1;have he:=mG hi;unfold z3s.b4;rw[aH hil,cT,aD hi,bS,bS,Tm.eta,Tm.eta,aO (by omega)];show Option.bind (gGr 100000000 m.sig rank e.left e.right) _=_;rw[show gGr 100000000 m.sig rank e.left e.right=some (grF m.sig.ops rank e.left e.right)from if_pos ⟨hC,(hg e he).1,(hg e he).2,ht e he⟩,bS,vo _ _ _ (Nat.lt_succ_self _)];cases gtF m.sig.ops rank e.left e.right<;>rfl
     ·rw[List.drop_zero];cases m.eqs.all λe=>gtF m.sig.ops rank e.left e.right<;>rfl
    ·rw[dF hr];rfl
 ·cases h
theorem tM :EO (z1g.ent λ_ _ _ _ _ _ mp rank=>some (rank,[],mp)):=z1g.ok (G:=⟨()⟩) trivial λa b c d e f mp rank r h=>by
 cases h;exact⟨1,rfl⟩
theorem z0q :EO (z0p.ent gPd):=by
 obtain⟨g,eg,hg⟩:=ss 100000000 (Nat.le_refl _);obtain⟨G,hG⟩:∃G:z0p.Gs,G={z1e:=rZ,z0x:=pf,z0f:=λs=>if s.ops.length<4294967296 then some (gS s)else none,z1g:=λ_ _ _ _ _ _ mp rank=>some (rank,[],mp),z1j:=g}:=⟨_,rfl⟩;refine z0p.ok (G:=G) (by subst hG;exact⟨nT,lq,z0e,tM,eg,trivial⟩) λm rank r h=> ?_;unfold gPd at h;split at h
 ·rename_i hs;obtain⟨hm,hop,ht⟩:=hs;cases h;refine⟨17,?_⟩;obtain⟨⟨⟨nm,sb⟩,ops⟩,eqs,rules⟩:=m;subst hG;unfold z0p.main pdF;show Option.bind (rZ    ⟨⟨nm,sb⟩,ops⟩) _=_;unfold rZ;rw[bS   ];by_cases hS:bw   ⟨⟨nm,sb⟩,ops⟩=true
  ·rw [if_pos hS, hS, Bool.true_and];have hA:Alg (aX    nm.length sb) nm sb ops:=⟨hS,rfl⟩;have hab:(upI nm.length sb).length=nm.length:=dZ      _ _;show Option.bind (pf    (upI nm.length sb) (eN     (upI nm.length sb)) (aX    nm.length sb) nm sb ops [] ⟨⟨⟨nm,sb⟩,ops⟩,eqs,rules⟩) _=_;rw[show pf    (upI nm.length sb) (eN     (upI nm.length sb)) (aX    nm.length sb) nm sb ops [] ⟨⟨⟨nm,sb⟩,ops⟩,eqs,rules⟩=some (lp   ⟨⟨⟨nm,sb⟩,ops⟩,eqs,rules⟩,[])from if_pos ⟨hA,hab,hm,rfl⟩,bS];cases hb:lp   ⟨⟨⟨nm,sb⟩,ops⟩,eqs,rules⟩with
   |false=>rfl
   | true =>
    obtain⟨h16,hgd⟩:=wy hb;simp only[Bool.not_true,cF,Bool.true_and];have h16:eqs.length<=16:=h16;rw[if_pos hop,bS];cases hf:gS ⟨⟨nm,sb⟩,ops⟩with
    |false=>rfl
    | true =>
     simp only[Bool.not_true,cF,Bool.true_and,bS];by_cases hr:(rank.length:Int)=(ops.length:Int)
     ·rw[dT hr];simp only[Bool.not_true,cF,Bool.true_and];have hC:Ctx ⟨⟨nm,sb⟩,ops⟩ rank:=⟨hS,(rh       hf).2,by show rank.length=ops.length;omega⟩;have:=ia      (σ:=Mp×Km) (R:=AT×List Ob) eqs (λe=> !gtF ops rank e.left e.right) (SQ ops rank []) (λi s nx=>z0p.b6 {z1e:=rZ   ,z0x:=pf   ,z0f:=λs=>if s.ops.length<4294967296 then some (gS    s)else none,z1g:=λ_ _ _ _ _ _ mp rank=>some (rank,[],mp),z1j:=g} 17 eqs (eqs.length:Int) rank (upI nm.length sb) (eN     (upI nm.length sb)) (aX    nm.length sb) nm sb ops i s.1 s.2 (λy0 y1 y2=>nx y0 (y1,y2)) (λt4=>some (AT.one (.b t4),[])) (some (AT.one (.b true),[]))) (λ_ _=>some (AT.one (.b false),[])) (λ_=>some (AT.one (.b true),[])) (λs nx _=> ?_) (λi e s nx hx hq=> ?_) 17 0 ([],[]) ⟨rfl,AL       _ _⟩ (by omega) (by omega)
      ·rw[List.drop_zero]at this;obtain⟨s',_,h⟩:=this;show _=some (AT.one (.b (eqs.all λe=>gtF ops rank e.left e.right)),[]);rw[List.all_eq_not_any_not];rcases h with⟨h1,_,h2⟩|⟨h1,h2⟩
       ·rw[h1];exact h2
       ·rw[h1];exact h2
      ·unfold z0p.b6;rw[aq (Nat.lt_irrefl _),cF]
      ·obtain⟨s1,s2⟩:=s;obtain⟨rfl,hkn1⟩:s1=[]/\cW   ops rank s2:=hq;have he:=mG hx;have hil:i<eqs.length:=(gI.1 hx).1;have h16:eqs.length<=16:=h16;obtain⟨kn',hk',e1⟩:=hg (upI nm.length sb) (eN     (upI nm.length sb)) (aX    nm.length sb) nm sb ops [] rank s2 e.left e.right hC (hgd e he).1 (hgd e he).2 (ht e he) hkn1;refine⟨([],kn'),⟨rfl,hk'⟩,?_⟩;unfold z0p.b6;simp only[aH     hil,cT,aD     hx,bS,Tm.eta,aO     (show i<4294967296 by omega)];rw[e1,bS];cases gtF ops rank e.left e.right with
       |true=>exact .inr ⟨rfl,rfl⟩
       |false=>exact .inl ⟨rfl,rfl⟩
     ·rw[dF hr];rfl
  ·rw[if_neg hS,Bool.eq_false_iff.2 hS];rfl
 ·cases h
end Go.Proofs.YtkinkfieackmdaaGreatDoor.Den

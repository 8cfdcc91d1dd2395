/-
  Texts that the claim rests on, merged: Tm0, WrapL.
-/
import Derived.Test.YtkinkfieackmdaaGreatDoorZRowPth12

namespace Go.Proofs.YtkinkfieackmdaaGreatDoor.Den
open Go.RowKit
open Classical
theorem AJ {f:Tm} (h:Fit (.n 1) f):FitC (.l (.n 1) f.args):=h _ (by simp[aj])
theorem az (f:Tm):f.total=f.name.size+bb f.args:=Tm.total_eq f
theorem Tm.eta (t:Tm):Tm.mk t.op t.name t.sort t.args=t:=by cases t;rfl
theorem jE (x:Tm) (l:List Tm):bb (x::l)=1+x.total+bb l:=by unfold bb;simp only[List.length_cons,List.map_cons,List.sum_cons];omega
theorem lF {x:Tm} {l:List Tm} (h:x∈l):x.total<bb l:=by
 induction l with
 |nil=>simp at h
 | cons y l ih =>
  rw[jE];rcases List.mem_cons.1 h with rfl|h
  ·omega
  ·have:=ih h;omega
theorem bm (l:List Tm):l.length<=bb l:=by unfold bb;omega
end Go.Proofs.YtkinkfieackmdaaGreatDoor.Den
namespace Go.Proofs.YtkinkfieackmdaaGreatDoor.Den
open Go.RowKit
abbrev kI :Int->Option (AT×List Ob):=λr=>some (.one (.i r),[])
abbrev kB :Bool->Option (AT×List Ob):=λr=>some (.one (.b r),[])
abbrev kL (T:Ty):List (I T)->Option (AT×List Ob):=λr=>some (.one (.l T r),[])
theorem io {α R:Type} (xs:List α) (we:α->Nat) (gE:α->Int->Option Int) {left:Int} (hE:∀x∈xs,∀l,0<=l->l+xs.length<=left->∃r,gE x l=some r/\(if (we x:Int)<=l then r=l-we x else r<0)) (hlen:xs.length<=9223372036854775807) (h0:0<=left) (h1:left<=2097152)
  (B:List α->Int->Int->(List α->Int->Int->Option R)->Option R) (K:Int->Option R) (hB:∀l i nx,B xs l i nx=bif decide (i<(xs.length:Int))then (Option.bind (ix xs i) λe=>Option.bind (gE e l) λr=>bif decide (r<0)then K (-1)else nx xs r (wr (i+1)))else K l):
  (bif decide (wr (left-(xs.length:Int))<0)then K (-1)else au (λ(v:List α×Int×Int) nx=>B v.1 v.2.1 v.2.2 (λy0 y1 y2=>nx (y0,y1,y2))) (xs.length+1) (xs,wr (left-(xs.length:Int)),0))=K (if ((xs.length+wS we xs:Nat):Int)<=left then left-(xs.length+wS we xs:Nat)else -1):=by
 rw[aI (x:=left-(xs.length:Int)) (by omega)];by_cases c1:(xs.length:Int)<=left
 ·rw [decide_eq_false (by omega), cond_false];have key:∀m l (i:Nat),0<=l->l+xs.length<=left->i<=xs.length->xs.length-i<m->au   (λ(v:List α×Int×Int) nx=>B v.1 v.2.1 v.2.2 (λy0 y1 y2=>nx (y0,y1,y2))) m (xs,l,(i:Int))=K (if (wS we (xs.drop i):Int)<=l then l-wS we (xs.drop i)else -1):=by
   intro m
   induction m with
   |zero=>intro l i _ _ _ hm;omega
   | succ m ih =>
    intro l i l0 l1 hi hm;show B xs l (i:Int) (λy0 y1 y2=>au (λ(v:List α×Int×Int) nx=>B v.1 v.2.1 v.2.2 (λy0 y1 y2=>nx (y0,y1,y2))) m (y0,y1,y2))=_;rw[hB];by_cases hlt:i<xs.length
    ·obtain⟨x,x1,x2,x3,_⟩:=aB        (a:=xs) (i:=(i:Int)) (by omega) (by omega);simp only[Int.toNat_natCast]at x3;obtain⟨r,r1,r2⟩:=hE x x2 l l0 l1;rw[dT (by omega),cT,x1,bS,r1,bS,x3,fj     ,aI    (x:=(i:Int)+1) (by omega),show ((i:Int)+1).toNat=i+1 by omega,show (i:Int)+1=((i+1:Nat):Int) by omega];by_cases c2:(we x:Int)<=l
     ·rw[if_pos c2]at r2;rw[dF (by omega),cF,ih r (i+1) (by omega) (by omega) hlt (by omega)]
      congr 1
      by_cases c3:(wS we (xs.drop (i+1)):Int)<=r
      ·rw[if_pos c3,if_pos (by omega)];omega
      ·rw[if_neg c3,if_neg (by omega)]
     ·rw[if_neg c2]at r2;rw[dT r2,cT,if_neg (by omega)]
    ·obtain rfl:i=xs.length:=by omega
     rw[dF (by omega),cF,List.drop_length];simp only[wS,List.map_nil,List.sum_nil];rw[if_pos (by omega)];simp
  refine(key (xs.length+1) (left-(xs.length:Int)) 0 (by omega) (by omega) (by omega) (by omega)).trans ?_;rw[List.drop_zero]
  congr 1
  by_cases c2:(wS we xs:Int)<=left-xs.length
  ·rw[if_pos c2,if_pos (by omega)];omega
  ·rw[if_neg c2,if_neg (by omega)]
 ·rw[dT (by omega),cT,if_neg (by omega)]
theorem vm {T:Ty} {w:I T->Nat} {gE:I T->Int->Option Int} (hE:SZ T w gE) {xs:List (I T)} (hf:Fit (.sl T) xs) {left:Int} (h1:left<=1048576):∀x∈xs,∀l,0<=l->l+xs.length<=left->∃r,gE x l=some r/\(if (w x:Int)<=l then r=l-w x else r<0):=λx hx l h0 h2=>by
 obtain⟨r,r1,r2⟩:=hE x l ⟨(dM.1 hf).mem x hx,h0,by omega⟩;refine⟨r,r1,?_⟩;rw[r2];split
 ·rfl
 ·omega
theorem Fv {xs:List ByteArray} (hf:Fit (.sl .s) xs) {left:Int} (h1:left<=1048576):∀x∈xs,∀l,0<=l->l+xs.length<=left->∃r,(λ(x:ByteArray) (l:Int)=>some (wr (l-(ByteArray.size x:Int)))) x l=some r/\(if (x.size:Int)<=l then r=l-x.size else r<0):=λx hx l h0 h2=>by
 have hs:=(DF.1 ((dM.1 hf).mem x hx)).str;refine⟨_,rfl,?_⟩;rw[aI (x:=l-(ByteArray.size x:Int)) (by omega)];split
 ·rfl
 ·omega
theorem eX {α R:Type} (xs:List α) (z:α) (gE:α->Option α) (hE:∀x∈xs,gE x=some x) (hlen:xs.length<=4194304)
  (B:List α->Int->List α->(List α->Int->List α->Option R)->Option R) (K:List α->Option R) (hB:∀i h nx,B xs i h nx=bif decide (i<(xs.length:Int))then (Option.bind (ix xs i) λe=>Option.bind (gE e) λr=>Option.bind (ix h i) λ_=>nx xs (wr (i+1)) (List.set h (Int.toNat i) r))else K h):
  (Option.bind (mk z (xs.length:Int)) λys=>au (λ(v:List α×Int×List α) nx=>B v.1 v.2.1 v.2.2 (λy0 y1 y2=>nx (y0,y1,y2))) (xs.length+1) (xs,0,ys))=K xs:=by
 rw[tK (by omega),bS];refine Eq.trans (fG (body:=λv nx=>B v.1 v.2.1 v.2.2 (λy0 y1 y2=>nx (y0,y1,y2))) (Q:=λv=>v.1=xs/\0<=v.2.1/\v.2.1<=xs.length/\v.2.2.length=xs.length/\v.2.2.take v.2.1.toNat=xs.take v.2.1.toNat) (μ:=λv=>(xs.length-v.2.1).toNat) (f:=λ_=>K xs) ?_ (xs.length+1) (xs,0,_) ⟨rfl,by simp,by simp,by simp,by simp⟩ (by simp)) rfl;rintro⟨a,i,h⟩ nx ⟨e0,q0,q1,q2,q3⟩ ih;simp only at e0 q0 q1 q2 q3 ih ⊢;subst e0;rw[hB];by_cases hi:i<(List.length a:Int)
 ·obtain⟨x,x1,x2,_,x4⟩:=aB q0 hi;obtain⟨y,y1⟩:=pv (a:=h) q0 (by omega);rw[dT hi,cT,x1,bS,hE x x2,bS,y1,bS,aI (x:=i+1) (by omega)];obtain⟨s1,s2⟩:=nv q0 hi q2 q3 x4;exact ih (a,i+1,_) ⟨rfl,by simp only;omega,by simp only;omega,s1,s2⟩ (by simp only;omega)
 ·rw[dF hi,cF,jY hi q2 q3]
theorem rS {T:Ty} {w:I T->Nat} {gE:I T->Option (I T)} (hE:TO T w gE) {xs:List (I T)} (hf:Fit (.sl T) xs) (hw:∀x∈xs,w x<=1048576):∀x∈xs,gE x=some x:=λx hx=>by
 obtain⟨_,r,q⟩:=hE x ⟨(dM.1 hf).mem x hx,hw x hx⟩;rw[q]at r;exact r
theorem eW {α R:Type} (xs:List α) (gE:α->α->Option Bool) (hE:∀x∈xs,gE x x=some true) (hlen:xs.length<=4194304)
  (B:List α->List α->Int->(List α->List α->Int->Option R)->Option R) (a b:Option R) (hB:∀i nx,B xs xs i nx=bif decide (i<(xs.length:Int))then (Option.bind (ix xs i) λe=>Option.bind (ix xs i) λe'=>Option.bind (gE e e') λr=>bif !r then a else nx xs xs (wr (i+1)))else b):
  (bif !decide ((xs.length:Int)=(xs.length:Int))then a else au (λ(v:List α×List α×Int) nx=>B v.1 v.2.1 v.2.2 (λy0 y1 y2=>nx (y0,y1,y2))) (xs.length+1) (xs,xs,0))=b:=by
 rw[dT rfl,Bool.not_true,cF];refine Eq.trans (fG (body:=λv nx=>B v.1 v.2.1 v.2.2 (λy0 y1 y2=>nx (y0,y1,y2))) (Q:=λv=>v.1=xs/\v.2.1=xs/\0<=v.2.2/\v.2.2<=xs.length) (μ:=λv=>(xs.length-v.2.2).toNat) (f:=λ_=>b) ?_ (xs.length+1) (xs,xs,0) ⟨rfl,rfl,by simp,by simp⟩ (by simp)) rfl;rintro⟨c,d,i⟩ nx ⟨e1,e0,q0,q1⟩ ih;simp only at e1 e0 q0 q1 ih ⊢;subst e1;subst e0;rw[hB];by_cases hi:i<(List.length d:Int)
 ·obtain⟨x,x1,x2,_,x4⟩:=aB q0 hi;rw[dT hi,cT,x1,bS,bS,hE x x2,bS,Bool.not_true,cF,aI (x:=i+1) (by omega)];exact ih (d,d,i+1) ⟨rfl,rfl,by simp only;omega,by simp only;omega⟩ (by simp only;omega)
 ·rw[dF hi,cF]
theorem sV {T:Ty} {w:I T->Nat} {gE:I T->I T->Option Bool} (hE:EQ T w gE) {xs:List (I T)} (hf:Fit (.sl T) xs) (hw:∀x∈xs,w x<=1048576):∀x∈xs,gE x x=some true:=λx hx=>by
 obtain⟨_,r,q⟩:=hE x x ⟨rfl,(dM.1 hf).mem x hx,hw x hx⟩;rw[q]at r;exact r
end Go.Proofs.YtkinkfieackmdaaGreatDoor.Den

/-
  Texts that the claim rests on, merged: Below, Lib0, Tm1, Tm2, Tm3, Alg1, Key0.
-/
import Derived.Test.YtkinkfieackmdaaGreatDoorZRowPth5
import Derived.Test.YtkinkfieackmdaaGreatDoorZRowPth11
import Derived.Test.YtkinkfieackmdaaGreatDoorZRowPth13
import Derived.Test.YtkinkfieackmdaaGreatDoorZRowPth14
import Derived.Test.YtkinkfieackmdaaGreatDoorZRowPth15
import Derived.Test.YtkinkfieackmdaaGreatDoorZRowPth16
import Derived.Test.YtkinkfieackmdaaGreatDoorZRowPth17
import Derived.Test.YtkinkfieackmdaaGreatDoorZRowPth19

namespace Go.Proofs.YtkinkfieackmdaaGreatDoor.Abs
open Go.RowKit
theorem HR.below {ι:List Inf} {I:Nat->Prop} {w w':World} {h:ag} (hh:HR ι I w h) (hI:∀b,I b->b<w.heap.size) (hb:Below w.heap.size w w'):HR ι I w' h:=
 have hk:Keeps I I w w':=⟨λ_ h=>h,λb o hb'=>hb.cell (p:=⟨b,o,none⟩) (hI b hb')⟩
 { len := hh.len
   obj := fun id o inf h1 h2 => by
     have ho:=hh.obj id o inf h1 h2;have hlt:inf.block<w.heap.size:=by
       cases o with
       | row s es =>
         obtain⟨cur,t,e,_⟩:=ho;rcases Nat.lt_or_ge inf.block w.heap.size with h|h
         · exact h
         · rw[Array.getElem?_eq_none h]at e;cases e
       | map kvs =>
         obtain⟨cur,t,e,_⟩:=ho;rcases Nat.lt_or_ge inf.block w.heap.size with h|h
         · exact h
         · rw[Array.getElem?_eq_none h]at e;cases e
     exact ho.keep (Grows.refl _) hk (hb.block _ hlt)
   off:=hh.off
   inj:=hh.inj}
theorem sw {P:Program} {f:FuncId} {xs:List AV} {h:ag} {u:Value} (hc:callable P f) (hu:cL u)
  (hh:∀(w:World) (I:Nat->Prop) (ι:List Inf) (cs:Array Value),(∀b,I b->b<w.heap.size)->ARs ι I w xs cs->Calls P f cs w λe w'=>e= .returned u/\Below w.heap.size w w'):Fn P f xs h (λr h'=>r= .one (.lit u)/\h'=h):=
 ⟨hc, fun w I ι cs hH hI hA => (hh w I ι cs hI hA).mono fun _ _ ⟨e1, hb⟩ => ⟨_, _, ι, I, u, ⟨rfl, rfl⟩, e1,
  { res := .one (.lit hu)
    heap:=hH.below hI hb
    imm:=λb hb'=>Nat.lt_of_lt_of_le (hI b hb') hb.size
    immlo:=λ_ hb'=>.inl hb'
    pre:=Grows.refl _
    os:=hb.os
    tape:=hb.tape
    output:=hb.output
    grown:=hb.size
    frame:=λb hlt _=>hb.block b hlt
    mine:=λid o inf h1 h2=>.inl ⟨id,o,inf,h1,h2,rfl⟩}⟩⟩
end Go.Proofs.YtkinkfieackmdaaGreatDoor.Abs
namespace Go.Proofs.YtkinkfieackmdaaGreatDoor.Den
open Go.RowKit
open Abs (V AV VR)
theorem CR.str_ {ρ:Rho} {H:List Ob} {x:ByteArray} {v:V} (h:CR ρ H (.s x) v):v= .lit (.string x):=by
 cases h with
 |fl h=>cases h;rfl
theorem qe {P:Program} {f:FuncId} {xs:List AT} {u:Value} {c:C} (hcl:Abs.callable P f) (hu:Abs.cL u) (hcu:FR c (.lit u))
  (hh:∀(ρ:Rho) (avs:List AV),ATRs ρ [] xs avs->∀(w:World) (I:Nat->Prop) (ι:List Abs.Inf) (cs:Array Value),(∀b,I b->b<w.heap.size)->Abs.ARs ι I w avs cs->Calls P f cs w λe w'=>e= .returned u/\Below w.heap.size w w'):CFn P f xs [] (.one c) []:=λρ h avs hH hA=>
 (Abs.sw          hcl hu (hh ρ avs hA)).mono fun r h' ⟨e1, e2⟩ => by
  subst e1;subst e2;exact⟨ρ,.one (.fl hcu),hH,Fr.refl ρ [] _⟩
end Go.Proofs.YtkinkfieackmdaaGreatDoor.Den
namespace Go.Proofs.YtkinkfieackmdaaGreatDoor.Den
open Go.RowKit
theorem aE {α:Type} {xs:List α} {i:Nat} {x:α} (h:xs[i]? =some x):xs.drop i=x::xs.drop (i+1):=by
 obtain⟨hlt,rfl⟩:=gI.1 h;exact List.drop_eq_getElem_cons hlt
theorem ru {α:Type} {xs:List α} {i:Nat} {x:α} (h:xs[i]? =some x):xs.take (i+1)=xs.take i++[x]:=by
 obtain⟨hlt,rfl⟩:=gI.1 h;exact List.take_succ_eq_append_getElem hlt
theorem cj {α:Type} {xs:List α} (h:xs.length<=4294967296):lim xs=some xs:=by
 unfold lim;rw[Nat.ble_eq_true_of_le h];rfl
def cV (f:Tm->Tm->Int):List Tm->List Tm->Int
 |[],[]=>0
 |[],_::_=> -1
 |_::_,[]=>1
 |x::xs,y::ys=>if f x y=0 then cV f xs ys else f x y
def aS (a b:Int):Int:=if a=b then 0 else if a<b then -1 else 1
def bB (a b:ByteArray):Int:=if a=b then 0 else if Abs.strLt a b then -1 else 1
def iv (f:List Tm->List Tm->Int) (a b:Tm):Int:=if aS a.op b.op=0 then (if bB a.name b.name=0 then (if aS a.sort b.sort=0 then f a.args b.args else aS a.sort b.sort)else bB a.name b.name)else aS a.op b.op
def Ck :Nat->Tm->Tm->Int
 |0,_,_=>0
 |k+1,a,b=>iv (cV (Ck k)) a b
def aQ (a b:Tm):Int:=Ck (a.total+1) a b
theorem iV {f g:Tm->Tm->Int}:∀{xs ys:List Tm},(∀x∈xs,∀y,f x y=g x y)->cV f xs ys=cV g xs ys
 |[],[],_=>rfl
 |[],_::_,_=>rfl
 |_::_,[],_=>rfl
 | x :: xs, y :: ys, h => by
  unfold cV;rw[h x (by simp) y,iV λz hz=>h z (by simp[hz])]
theorem ny {f g:List Tm->List Tm->Int} {a b:Tm} (h:f a.args b.args=g a.args b.args):iv f a b=iv g a b:=by unfold iv;rw[h]
theorem ac {x t:Tm} (h:x∈t.args):x.total<t.total:=by
 have:=lF h;have:=az t;omega
theorem vM :∀(k j:Nat) (a b:Tm),a.total<k->a.total<j->Ck k a b=Ck j a b
 |0,_,_,_,h,_=>absurd h (Nat.not_lt_zero _)
 |_+1,0,_,_,_,h=>absurd h (Nat.not_lt_zero _)
 |k+1,j+1,a,b,h1,h2=>ny (iV λx hx y=>vM k j x y (by have:=ac hx;omega) (by have:=ac hx;omega))
theorem dU (a b:Tm):aQ a b=iv (cV aQ) a b:=ny (iV λx hx y=>vM _ _ x y (ac hx) (Nat.lt_succ_self _))
theorem oS (a:Int):aS a a=0:=if_pos rfl
theorem kc (a:ByteArray):bB a a=0:=if_pos rfl
theorem oD {f:Tm->Tm->Int}:∀{xs:List Tm},(∀x∈xs,f x x=0)->cV f xs xs=0
 |[],_=>rfl
 | x :: xs, h => by
  unfold cV;rw[if_pos (h x (by simp))];exact oD λy hy=>h y (by simp[hy])
theorem ko :∀(k:Nat) (a:Tm),a.total<k->aQ a a=0
 |0,_,h=>absurd h (Nat.not_lt_zero _)
 | k + 1, a, h => by
  rw[dU];unfold iv;rw[if_pos (oS _),if_pos (kc _),if_pos (oS _)];exact oD λx hx=>ko k x (by have:=ac hx;omega)
theorem qL (a b:Int):aS b a= -aS a b:=by
 unfold aS;by_cases h:a=b
 ·subst h;simp
 ·rw[if_neg h,if_neg (λe=>h e.symm)];by_cases h2:a<b
  ·rw[if_pos h2,if_neg (by omega)];rfl
  ·rw[if_neg h2,if_pos (by omega)]
theorem dh {a b:Int} (h:aS a b=0):a=b:=by
 unfold aS at h;by_cases e:a=b
 ·exact e
 ·rw[if_neg e]at h;split at h<;>cases h
theorem i7 :∀(a b:List UInt8),a≠b->Op.bytesLess b a= !Op.bytesLess a b
 |[],[],h=>absurd rfl h
 |[],_::_,_=>rfl
 |_::_,[],_=>rfl
 | x :: xs, y :: ys, h => by
  unfold Op.bytesLess;by_cases e:x=y
  ·subst e;have h2:xs≠ys:=λe=>h (by rw[e]);simp[i7 xs ys h2]
  ·have e':¬y=x:=λh=>e h.symm;have hne:x.toNat≠y.toNat:=λh=>e (UInt8.toNat_inj.1 h);simp only[beq_eq_false_iff_ne.2 e,beq_eq_false_iff_ne.2 e',Bool.false_and,Bool.or_false];by_cases hl:x<y
   ·have:¬y<x:=by rw[UInt8.lt_iff_toNat_lt]at hl ⊢;omega
    simp[hl,this]
   ·have:y<x:=by rw[UInt8.lt_iff_toNat_lt]at hl ⊢;omega
    simp[hl,this]
theorem gw :∀(a b:List UInt8),Lib.compareBytes a b=if a=b then 0 else if Op.bytesLess a b then -1 else 1
 |[],[]=>rfl
 |[],_::_=>rfl
 |_::_,[]=>rfl
 | x :: xs, y :: ys => by
  unfold Lib.compareBytes Op.bytesLess;rw[gw xs ys];by_cases e:x=y
  ·subst e;simp[UInt8.lt_irrefl]
  ·have hne:x.toNat≠y.toNat:=λh=>e (UInt8.toNat_inj.1 h);by_cases hl:x<y
   ·simp[hl,e]
   ·have:y<x:=by rw[UInt8.lt_iff_toNat_lt]at hl ⊢;omega
    simp[hl,this,e]
theorem fm (a b:ByteArray):Lib.compareBytes a.data.toList b.data.toList=bB a b:=by
 rw[gw,<-Abs.dX,<-Abs.dX];unfold bB Abs.strLt;by_cases h:a=b
 ·subst h;simp
 ·rw[if_neg h,if_neg (λe=>h (Abs.cn e))]
theorem zK (a b:ByteArray):bB b a= -bB a b:=by
 unfold bB;by_cases h:a=b
 ·subst h;simp
 ·rw[if_neg h,if_neg (λe=>h e.symm)];have:=i7 a.toList b.toList λe=>h (Abs.cn e);unfold Abs.strLt;rw[this];cases Op.bytesLess a.toList b.toList<;>rfl
theorem C6 (a b:ByteArray): -1<=bB a b/\bB a b<=1:=by
 unfold bB;split
 ·decide
 ·split<;>decide
theorem sp {f:Tm->Tm->Int}:∀{xs ys:List Tm},(∀x∈xs,∀y,f y x= -f x y)->cV f ys xs= -cV f xs ys
 |[],[],_=>rfl
 |[],_::_,_=>rfl
 |_::_,[],_=>rfl
 | x :: xs, y :: ys, h => by
  unfold cV;rw[h x (by simp) y,sp (xs:=xs) (ys:=ys) λz hz=>h z (by simp[hz])];by_cases e:f x y=0
  ·rw[if_pos e,if_pos (by omega)]
  ·rw[if_neg e,if_neg (by omega)]
theorem sO :∀(k:Nat) (a b:Tm),a.total<k->aQ b a= -aQ a b
 |0,_,_,h=>absurd h (Nat.not_lt_zero _)
 | k + 1, a, b, h => by
  rw[dU,dU a b];unfold iv;rw[qL a.op b.op,zK a.name b.name,qL a.sort b.sort,sp λx hx y=>sO k x y (by have:=ac hx;omega)];by_cases h1:aS a.op b.op=0
  ·rw[if_pos h1,if_pos (by omega)];by_cases h2:bB   a.name b.name=0
   ·rw[if_pos h2,if_pos (by omega)];by_cases h3:aS   a.sort b.sort=0
    ·rw[if_pos h3,if_pos (by omega)]
    ·rw[if_neg h3,if_neg (by omega)]
   ·rw[if_neg h2,if_neg (by omega)]
  ·rw[if_neg h1,if_neg (by omega)]
theorem z5j :EO (strings_Compare.ent λa b=>some (bB a b)):=λR xs H K r hc=>by
 simp only[strings_Compare.ent]at hc;split at hc
 ·rename_i a b;obtain⟨r,q1,q2⟩:=bind_some hc;cases q1;have hb:=C6      a b;refine⟨_,_,q2,qe           (u:=.int .i64 (bB   a b)) ⟨Tryz.f142,Tryz.func142,by kernel_rfl,by kernel_rfl⟩ (Abs.gD     (by omega) (by omega)) .i λρ avs hA w I ι cs hI hAr=> ?_⟩;obtain⟨hA1,hA2⟩:=hA
  match avs,hA1 with
  | [x, y], _ =>
   have ex:=hA2 0 (by simp) (by simp);have ey:=hA2 1 (by simp) (by simp);simp only[List.getElem_cons_zero,List.getElem_cons_succ]at ex ey;cases ex with
   |one ex=>
   cases ey with
   |one ey=>
   have ex:=ex.str_;subst ex;have ey:=ey.str_;subst ey;obtain⟨h1,h2⟩:=hAr;obtain⟨u,u1,u2⟩:=h2 0 (by simp);obtain⟨z,z1,z2⟩:=h2 1 (by simp);rcases cs with⟨l⟩
   match l,h1 with
   | [p, q], _ =>
    simp at u1 z1;subst u1;subst z1;cases u2 with
    |one u2=>
    cases u2 with
    |lit _=>
    cases z2 with
    |one z2=>
    cases z2 with
    |lit _=>
    refine(Tryz.strings_Compare a b w).mono λe w' ⟨k1,k2⟩=>⟨by rw[k1,fm],by subst k2;exact Below.refl _ _⟩
 ·cases hc
abbrev cv (k:Nat):Tm->Tm->Option Int:=λa b=>if a.total<k then some (aQ a b)else none
abbrev qz (k:Nat):List Tm->List Tm->Option Int:=λxs ys=>if bb xs<k then some (cV aQ xs ys)else none
theorem ww {f:Tm->Tm->Int}:cV f [] []=0:=rfl
theorem wD {f:Tm->Tm->Int} {y:Tm} {ys:List Tm}:cV f [] (y::ys)= -1:=rfl
theorem wm {f:Tm->Tm->Int} {x:Tm} {xs:List Tm}:cV f (x::xs) []=1:=rfl
theorem vk {f:Tm->Tm->Int} {x y:Tm} {xs ys:List Tm}:cV f (x::xs) (y::ys)=if f x y=0 then cV f xs ys else f x y:=rfl
section
variable {R : Type}
theorem xH (n k:Nat) (a1 a3 b1 b3:Int) (a2 b2:ByteArray) (xs ys:List Tm) (hx:∀x∈xs,x.total<k) (hxl:xs.length<4294967296) (K0:Int->Option R):∀m i,i<=xs.length->i<=ys.length->xs.length-i<m->
  z3a.l14 ⟨cv k⟩ n m a1 a2 a3 xs b1 b2 b3 ys (i:Int) K0 (bif decide ((xs.length:Int)<(ys.length:Int))then K0 (-1)else bif decide ((ys.length:Int)<(xs.length:Int))then K0 1 else K0 0)=K0 (cV aQ (xs.drop i) (ys.drop i)):=by
 intro m
 induction m with
 |zero=>intro i _ _ hm;omega
 | succ m ih =>
  intro i h1 h2 hm;show z3a.b14 ⟨cv k⟩ n a1 a2 a3 xs b1 b2 b3 ys (i:Int) (λy0=>z3a.l14 ⟨cv k⟩ n m a1 a2 a3 xs b1 b2 b3 ys y0 K0 _) K0 _=_;unfold z3a.b14;by_cases hxi:i<xs.length
  ·obtain⟨x,x1,x2⟩:=aV     hxi;rw[aH     hxi,cT,aE       x1];by_cases hyi:i<ys.length
   ·obtain⟨y,y1,_⟩:=aV     hyi;rw[aH     hyi,cT,aD     x1,bS,aD     y1,bS,Tm.eta,Tm.eta,aE       y1,vk     ];show Option.bind (cv   k x y) _=_;unfold cv;rw[if_pos   (hx x x2),bS];by_cases e:aQ   x y=0
    ·rw[dT e,Bool.not_true,cF,aO (by omega),if_pos e];exact ih (i+1) hxi hyi (by omega)
    ·rw[dF e,Bool.not_false,cT,if_neg e]
   ·obtain rfl:i=ys.length:=by omega
    rw[aq hyi,cF,aq (by omega),cF,aH hxi,cT,aK,wm]
  ·obtain rfl:i=xs.length:=by omega
   rw[aq hxi,cF,aK];by_cases hyi:xs.length<ys.length
   ·obtain⟨y,y1,_⟩:=aV hyi;rw[aH hyi,cT,aE y1,wD]
   ·have e:xs.length=ys.length:=by omega
    rw[aq hyi,cF,aq (by omega),cF,e,aK,ww]
theorem w9 (n k:Nat) (xs ys:List Tm) (hx:∀x∈xs,x.total<k) (hxl:xs.length<4294967296) (K0:Int->Option R):∀m i,i<=xs.length->i<=ys.length->xs.length-i<m->
  z4y.l2 ⟨cv k⟩ n m xs ys xs (xs.length:Int) (i:Int) K0 (bif decide ((xs.length:Int)<(ys.length:Int))then K0 (-1)else K0 0)=K0 (cV aQ (xs.drop i) (ys.drop i)):=by
 intro m
 induction m with
 |zero=>intro i _ _ hm;omega
 | succ m ih =>
  intro i h1 h2 hm;show z4y.b2 ⟨cv k⟩ n xs ys xs (xs.length:Int) (i:Int) (λy0=>z4y.l2 ⟨cv k⟩ n m xs ys xs (xs.length:Int) y0 K0 _) K0 _=_;unfold z4y.b2;by_cases hxi:i<xs.length
  ·obtain⟨x,x1,x2⟩:=aV     hxi;rw[aH     hxi,cT,aE       x1,aD     x1,bS];by_cases hyi:i<ys.length
   ·obtain⟨y,y1,_⟩:=aV     hyi;rw[dF (by omega),cF,aD     y1,bS,Tm.eta,Tm.eta,aE       y1,vk     ];show Option.bind (cv   k x y) _=_;unfold cv;rw[if_pos   (hx x x2),bS];by_cases e:aQ   x y=0
    ·rw[dT e,Bool.not_true,cF,aO (by omega),if_pos e];exact ih (i+1) hxi hyi (by omega)
    ·rw[dF e,Bool.not_false,cT,if_neg e]
   ·obtain rfl:i=ys.length:=by omega
    rw[dT (by omega),cT,aK,wm]
  ·obtain rfl:i=xs.length:=by omega
   rw[aq hxi,cF,aK];by_cases hyi:xs.length<ys.length
   ·obtain⟨y,y1,_⟩:=aV hyi;rw[aH hyi,cT,aE y1,wD]
   ·have e:xs.length=ys.length:=by omega
    rw[aq hyi,cF,e,aK,ww]
end
theorem x7 {R:Type} {a b:Tm} {v:Int} (K:Int->Option R) (z:Option R) (hz:z=K v):(bif !decide (a.op=b.op)then (bif decide (a.op<b.op)then K (-1)else K 1)else bif !sEq a.name b.name then (bif Abs.strLt a.name b.name then K (-1)else K 1)else bif !decide (a.sort=b.sort)then (bif decide (a.sort<b.sort)then K (-1)else K 1)else z)=K (iv (λ_ _=>v) a b):=by
 subst hz;unfold iv aS bB;by_cases h1:a.op=b.op
 ·rw [decide_eq_true h1, if_pos h1, if_pos rfl, Bool.not_true, cond_false];by_cases h2:a.name=b.name
  ·rw[show sEq a.name b.name=true from dT h2,if_pos h2,if_pos rfl,Bool.not_true,cF];by_cases h3:a.sort=b.sort
   ·rw[dT h3,if_pos h3,if_pos rfl,Bool.not_true,cF]
   ·rw[dF h3,if_neg h3,Bool.not_false,cT];by_cases h4:a.sort<b.sort
    ·rw[dT h4,if_pos h4,cT,if_neg (by decide)]
    ·rw[dF h4,if_neg h4,cF,if_neg (by decide)]
  ·rw[show sEq a.name b.name=false from dF h2,if_neg h2,Bool.not_false,cT];cases Abs.strLt a.name b.name<;>rfl
 ·rw[dF h1,if_neg h1,Bool.not_false,cT];by_cases h4:a.op<b.op
  ·rw[dT h4,if_pos h4,cT,if_neg (by decide)]
  ·rw[dF h4,if_neg h4,cF,if_neg (by decide)]
theorem z3b :∀k,k<=4294967296->EO (z3a.ent (cv k))
 | 0, _ => fun R xs H K r h => by
  simp only[z3a.ent]at h;split at h
  ·simp[cv]at h
  ·cases h
 | k + 1, hk => z3a.ok            (G := ⟨cv k⟩) ⟨z3b               k (by omega), trivial⟩ fun a b r h => by
  unfold cv at h;split at h
  ·rename_i hs;cases h;refine⟨a.args.length+1,?_⟩;unfold z3a.main;have ht:=az a;have hl:=bm a.args;have e:=xH (a.args.length+1) k a.op a.sort b.op b.sort a.name b.name a.args b.args (λx hx=>by have:=ac hx;omega) (by omega) (λr0=>some (AT.one (.i r0),([]:List Ob))) (a.args.length+1) 0 (by omega) (by omega) (by omega);simp only[List.drop_zero]at e;refine(x7 (a:=a) (b:=b) (v:=cV aQ a.args b.args) (λr0=>some (AT.one (.i r0),([]:List Ob))) _ e).trans ?_;rw[dU];rfl
  ·cases h
theorem xF {a b:Tm} {v:Int}:(if (if aS a.op b.op≠0 then aS a.op b.op else if bB a.name b.name≠0 then bB a.name b.name else aS a.sort b.sort)=0 then v else (if aS a.op b.op≠0 then aS a.op b.op else if bB a.name b.name≠0 then bB a.name b.name else aS a.sort b.sort))=iv (λ_ _=>v) a b:=by
 unfold iv;by_cases h1:aS a.op b.op=0
 ·by_cases h2:bB   a.name b.name=0
  ·simp[h1,h2]
  ·simp[h1,h2]
 ·simp[h1]
abbrev gOr :List Int->Option Int:=λl=>match l with
 |[a,b,c]=>some (if a≠0 then a else if b≠0 then b else c)
 |_=>none
theorem yR :EO (z02.ent gOr):=z02.ok (G:=⟨()⟩) trivial λ(l:List Int) r h=>by
 unfold gOr at h;split at h
 ·rename_i a b c;cases h;refine⟨4,?_⟩;have i0:ix [a,b,c] 0=some a:=rfl;have i1:ix [a,b,c] 1=some b:=rfl;have i2:ix [a,b,c] 2=some c:=rfl;have w1:wr (0+1)=1:=by decide
  have w2:wr (1+1)=2:=by decide
  have w3:wr (2+1)=3:=by decide
  have d0:decide ((0:Int)<3)=true:=rfl;have d1:decide ((1:Int)<3)=true:=rfl;have d2:decide ((2:Int)<3)=true:=rfl;have d3:decide ((3:Int)<3)=false:=rfl;have step:∀{R:Type} (m:Nat) (i:Int) (K:Int->Option R) (k1:Option R),z02.l3 ⟨()⟩ 4 (m+1) 0 [a,b,c] 3 i K k1=z02.b3 ⟨()⟩ 4 0 [a,b,c] 3 i (λy0=>z02.l3 ⟨()⟩ 4 m 0 [a,b,c] 3 y0 K k1) K k1:=λm i K k1=>rfl;unfold z02.main;show z02.l3 ⟨()⟩ 4 (3+1) 0 [a,b,c] 3 0 _ _=_;rw[step];unfold z02.b3;rw[d0,cT,i0,bS];by_cases ha:a=0
  ·rw [decide_eq_true ha, Bool.not_true, cond_false, w1, if_neg (fun h => h ha)];show z02.l3 ⟨()⟩ 4 (2+1) 0 [a,b,c] 3 1 _ _=_;rw[step];unfold z02.b3;rw[d1,cT,i1,bS];by_cases hb:b=0
   ·rw[dT hb,Bool.not_true,cF,w2,if_neg (λh=>h hb)];show z02.l3 ⟨()⟩ 4 (1+1) 0 [a,b,c] 3 2 _ _=_;rw[step];unfold z02.b3;rw[d2,cT,i2,bS];by_cases hc:c=0
    ·rw[dT hc,Bool.not_true,cF,w3];show z02.l3 ⟨()⟩ 4 (0+1) 0 [a,b,c] 3 3 _ _=_;rw[step];unfold z02.b3;rw[d3,cF,hc]
    ·rw[dF hc,Bool.not_false,cT]
   ·rw[dF hb,Bool.not_false,cT,if_pos hb]
  ·rw[dF ha,Bool.not_false,cT,if_pos ha]
 ·cases h
theorem Aj :EO (z05.ent λ_=>some false):=z05.ok (G:=⟨()⟩) trivial λx r h=>⟨1,by
 cases h;unfold z05.main;rw[dT rfl];rfl⟩
theorem n8 :EO (z01.ent λa b=>some (aS a b)):=z01.ok (G:=⟨λ_=>some false⟩) ⟨Aj,trivial⟩ λa b r h=>⟨1,by
 cases h;unfold z01.main;simp only[bS,cF];unfold aS;by_cases h:a=b
 ·subst h;rw[dF (by omega),cF,cF,if_pos rfl]
 ·rw[if_neg h];by_cases h2:a<b
  ·rw[dT h2,cT,if_pos h2]
  ·rw[dF h2,cF,dT (by omega),cT,if_neg h2]⟩
abbrev FG (k:Nat):z0a.Gs:={z01:=λa b=>some (aS a b),strings_Compare:=λa b=>some (bB a b),z02:=gOr,z4y:=qz k}
theorem mI (k:Nat) (hk:k<4294967296) (e:EO (z0a.ent (cv k))):EO (z4y.ent (qz (k+1))):=z4y.ok (G:=⟨cv k⟩) ⟨e,trivial⟩ λ(xs:List Tm) (ys:List Tm) r h=>by
 unfold qz at h;split at h
 ·rename_i hs;cases h;have hl:=bm xs;refine⟨xs.length+1,?_⟩;unfold z4y.main;have e:=w9 (xs.length+1) k xs ys (λx hx=>by have:=lF hx;omega) (by omega) (λr0=>some (AT.one (.i r0),([]:List Ob))) (xs.length+1) 0 (by omega) (by omega) (by omega);simp only[List.drop_zero]at e;exact e
 ·cases h
theorem z0b :∀k,k<=4294967296->EO (z0a.ent (cv k))
 | 0, _ => fun R xs H K r h => by
  simp only[z0a.ent]at h;split at h
  ·simp[cv]at h
  ·cases h
 | k + 1, hk => z0a.ok            (G := FG    (k + 1)) ⟨n8           , z5j               , yR      , mI             k (by omega) (z0b               k (by omega)), trivial⟩ fun a b r h => by
  unfold cv at h;split at h
  ·rename_i hs;cases h;have ht:=az         a;refine⟨1,?_⟩;unfold z0a.main;show (bif !decide ((if aS   a.op b.op≠0 then aS   a.op b.op else if bB   a.name b.name≠0 then bB   a.name b.name else aS   a.sort b.sort)=0)then some (AT.one (.i (if aS   a.op b.op≠0 then aS   a.op b.op else if bB   a.name b.name≠0 then bB   a.name b.name else aS   a.sort b.sort)),([]:List Ob))else Option.bind (qz    (k+1) a.args b.args) λr9=>some (AT.one (.i r9),[]))=_;have e:=xF        (a:=a) (b:=b) (v:=cV   aQ   a.args b.args);have e2:aQ   a b=iv   (λ_ _=>cV   aQ   a.args b.args) a b:=dU      a b;rw[e2,<-e];generalize (if aS   a.op b.op≠0 then aS   a.op b.op else if bB   a.name b.name≠0 then bB   a.name b.name else aS   a.sort b.sort)=z;unfold qz;rw[if_pos    (by omega),bS];by_cases hz:z=0
   ·rw[dT hz,Bool.not_true,cF,if_pos hz]
   ·rw[dF hz,Bool.not_false,cT,if_neg hz]
  ·cases h
def szK :Nat->Tm->Nat
 |0,_=>0
 |k+1,t=>1+wS (szK k) t.args
def tsz (t:Tm):Nat:=szK (t.total+1) t
theorem mB {A:Type} {f g:A->Nat}:∀{l:List A},(∀x∈l,f x=g x)->wS f l=wS g l
 |[],_=>rfl
 |x::l,h=>by rw[fj,fj,h x (by simp),mB λy hy=>h y (by simp[hy])]
theorem yQ :∀(k j:Nat) (t:Tm),t.total<k->t.total<j->szK k t=szK j t
 |0,_,_,h,_=>absurd h (Nat.not_lt_zero _)
 |_+1,0,_,_,h=>absurd h (Nat.not_lt_zero _)
 |k+1,j+1,t,h1,h2=>congrArg (1+·) (mB λx hx=>yQ k j x (by have:=ac hx;omega) (by have:=ac hx;omega))
theorem gG (t:Tm):tsz t=1+wS tsz t.args:=congrArg (1+·) (mB λx hx=>yQ _ _ x (ac hx) (Nat.lt_succ_self _))
def mxS (f:Tm->Nat) (l:List Tm):Nat:=l.foldr (λx n=>max (f x) n) 0
def dpK :Nat->Tm->Nat
 |0,_=>0
 |k+1,t=>mxS (dpK k) t.args+1
def tdp (t:Tm):Nat:=dpK (t.total+1) t
theorem gT {f:Tm->Nat} {x:Tm} {l:List Tm}:mxS f (x::l)=max (f x) (mxS f l):=rfl
theorem kp {f g:Tm->Nat}:∀{l:List Tm},(∀x∈l,f x=g x)->mxS f l=mxS g l
 |[],_=>rfl
 |x::l,h=>by rw[gT,gT,h x (by simp),kp λy hy=>h y (by simp[hy])]
theorem yG :∀(k j:Nat) (t:Tm),t.total<k->t.total<j->dpK k t=dpK j t
 |0,_,_,h,_=>absurd h (Nat.not_lt_zero _)
 |_+1,0,_,_,h=>absurd h (Nat.not_lt_zero _)
 |k+1,j+1,t,h1,h2=>congrArg (·+1) (kp λx hx=>yG k j x (by have:=ac hx;omega) (by have:=ac hx;omega))
theorem uK (t:Tm):tdp t=mxS tdp t.args+1:=congrArg (·+1) (kp λx hx=>yG _ _ x (ac hx) (Nat.lt_succ_self _))
theorem uX :∀(k:Nat) (t:Tm),t.total<k->tsz t<=t.total+1
 |0,_,h=>absurd h (Nat.not_lt_zero _)
 | k + 1, t, h => by
  rw[gG];have ht:=az t;have:∀l:List Tm,(∀x∈l,tsz x<=x.total+1)->wS tsz l<=bb l:=λl=>by
   induction l with
   |nil=>intro _;exact Nat.le_refl _
   | cons x l ih =>
    intro hl;rw[fj,jE];have:=hl x (by simp);have:=ih λy hy=>hl y (by simp[hy]);omega
  have:=this t.args λx hx=>uX k x (by have:=ac hx;omega);omega
theorem zh {f:Tm->Nat} {n:Nat}:∀{l:List Tm},(∀x∈l,f x<=n)->mxS f l<=n
 |[],_=>Nat.zero_le _
 |x::l,h=>by rw[gT];exact Nat.max_le.2 ⟨h x (by simp),zh λy hy=>h y (by simp[hy])⟩
theorem tJ :∀(k:Nat) (t:Tm),t.total<k->tdp t<=t.total+1
 |0,_,h=>absurd h (Nat.not_lt_zero _)
 | k + 1, t, h => by
  rw[uK];have:mxS tdp t.args<=t.total:=zh λx hx=>by have:=ac hx;have:=tJ k x (by omega);omega
  omega
abbrev gSz (k:Nat):Tm->Option Int:=λt=>if t.total<k then some (tsz t:Int)else none
abbrev gDp (k:Nat):Tm->Option Int:=λt=>if t.total<k then some (tdp t:Int)else none
abbrev gLf (k:Nat):Tm->Int->Option Int:=λt left=>if t.total<k/\0<=left/\left<=60 then some (if (tsz t:Int)<=left then left-tsz t else -1)else none
section
variable {R : Type}
theorem Ba (n k:Nat) (xs:List Tm) (hx:∀x∈xs,x.total<k) (k0:Int->Option R):∀m (i s:Nat),i<=xs.length->s+wS tsz (xs.drop i)<=8589934592->xs.length<4294967296->xs.length-i<m->
  z0r.l3 ⟨gSz k⟩ n m xs (xs.length:Int) (s:Int) (i:Int) k0=k0 ((s+wS tsz (xs.drop i):Nat):Int):=by
 intro m
 induction m with
 |zero=>intro i s _ _ _ hm;omega
 | succ m ih =>
  intro i s h1 h2 h3 hm;show z0r.b3 ⟨gSz k⟩ n xs (xs.length:Int) (s:Int) (i:Int) (λy0 y1=>z0r.l3 ⟨gSz k⟩ n m xs (xs.length:Int) y0 y1 k0) k0=_;unfold z0r.b3;by_cases hi:i<xs.length
  ·obtain⟨x,x1,x2⟩:=aV hi;rw[aE x1,fj]at h2 ⊢;rw[aH hi,cT,aD x1,bS,Tm.eta];show Option.bind (gSz k x) _=_;unfold gSz;rw[if_pos (hx x x2),bS,aO (by omega),aI (x:=(s:Int)+(tsz x:Int)) (by omega)];refine(ih (i+1) (s+tsz x) hi (by omega) h3 (by omega)).trans ?_;rw[Nat.add_assoc]
  ·obtain rfl:i=xs.length:=by omega
   rw[aq hi,cF,aK];rfl
theorem Ao (n k:Nat) (xs:List Tm) (hx:∀x∈xs,x.total<k) (k0:Int->Option R):∀m (i s:Nat),i<=xs.length->xs.length<4294967296->xs.length-i<m->
  z0c.l3 ⟨gDp k⟩ n m xs (xs.length:Int) (s:Int) (i:Int) k0=k0 ((max s (mxS tdp (xs.drop i)):Nat):Int):=by
 intro m
 induction m with
 |zero=>intro i s _ _ hm;omega
 | succ m ih =>
  intro i s h1 h3 hm;show z0c.b3 ⟨gDp k⟩ n xs (xs.length:Int) (s:Int) (i:Int) (λy0 y1=>z0c.l3 ⟨gDp k⟩ n m xs (xs.length:Int) y0 y1 k0) k0=_;unfold z0c.b3;by_cases hi:i<xs.length
  ·obtain⟨x,x1,x2⟩:=aV     hi;rw[aE       x1,gT      ,aH     hi,cT,aD     x1,bS,Tm.eta];show Option.bind (gDp k x) _=_;unfold gDp;have e:lr   (s:Int) (tdp x:Int)=((max s (tdp x):Nat):Int):=by unfold lr;split<;>omega
   rw[if_pos (hx x x2),bS,aO (by omega),e];refine(ih (i+1) (max s (tdp x)) hi h3 (by omega)).trans ?_;rw[Nat.max_assoc]
  ·obtain rfl:i=xs.length:=by omega
   rw[aq hi,cF,aK,show mxS tdp []=0 from rfl,Nat.max_zero]
theorem AB (n k:Nat) (a1 a3:Int) (a2:ByteArray) (xs:List Tm) (hx:∀x∈xs,x.total<k) (k0:Int->Option R):∀m (i s:Nat),i<=xs.length->xs.length<4294967296->xs.length-i<m->
  z3c.l3 ⟨gDp k,λa b=>some (lr a b)⟩ n m a1 a2 a3 xs (s:Int) (i:Int) k0=k0 ((max s (mxS tdp (xs.drop i)):Nat):Int):=by
 intro m
 induction m with
 |zero=>intro i s _ _ hm;omega
 | succ m ih =>
  intro i s h1 h3 hm;show z3c.b3 ⟨gDp k,λa b=>some (lr a b)⟩ n a1 a2 a3 xs (s:Int) (i:Int) (λy0 y1=>z3c.l3 ⟨gDp k,λa b=>some (lr a b)⟩ n m a1 a2 a3 xs y0 y1 k0) k0=_;unfold z3c.b3;by_cases hi:i<xs.length
  ·obtain⟨x,x1,x2⟩:=aV     hi;rw[aE       x1,gT      ,aH     hi,cT,aD     x1,bS,Tm.eta];show Option.bind (gDp k x) _=_;unfold gDp;have e:lr   (s:Int) (tdp x:Int)=((max s (tdp x):Nat):Int):=by unfold lr;split<;>omega
   rw[if_pos (hx x x2),bS,bS,aO (by omega),e];refine(ih (i+1) (max s (tdp x)) hi h3 (by omega)).trans ?_;rw[Nat.max_assoc]
  ·obtain rfl:i=xs.length:=by omega
   rw[aq hi,cF,aK,show mxS tdp []=0 from rfl,Nat.max_zero]
theorem zW (n k:Nat) (a1 a3:Int) (a2:ByteArray) (xs:List Tm) (hx:∀x∈xs,x.total<k) (k0:Int->Option R):∀m (i:Nat) (L:Int),i<=xs.length->xs.length<4294967296-> -1<=L->L<=60->xs.length-i<m->
  z4o.l3 ⟨gLf k⟩ n m a1 a2 a3 xs L (i:Int) k0=k0 (if (wS tsz (xs.drop i):Int)<=L then L-(wS tsz (xs.drop i):Int)else -1):=by
 intro m
 induction m with
 |zero=>intro i L _ _ _ _ hm;omega
 | succ m ih =>
  intro i L h1 h3 l0 l1 hm;show z4o.b3 ⟨gLf k⟩ n a1 a2 a3 xs L (i:Int) (λy0 y1=>z4o.l3 ⟨gLf k⟩ n m a1 a2 a3 xs y0 y1 k0) k0=_;unfold z4o.b3;by_cases hi:i<xs.length
  ·obtain⟨x,x1,x2⟩:=aV     hi;have hs:1<=tsz x:=by rw[gG    ];omega
   rw[aE x1,fj,aH hi,cT];by_cases hL:0<=L
   ·rw[dT hL,cT,aD     x1,bS,Tm.eta];show Option.bind (gLf k x L) _=_;unfold gLf;rw[if_pos ⟨hx x x2,hL,l1⟩,bS,aO     (by omega)];by_cases hc:(tsz x:Int)<=L
    ·rw[if_pos hc];refine(ih (i+1) _ hi h3 (by omega) (by omega) (by omega)).trans ?_
     congr 1
     by_cases hd:(wS tsz (xs.drop (i+1)):Int)<=L-(tsz x:Int)
     ·rw[if_pos hd,if_pos (by omega)];omega
     ·rw[if_neg hd,if_neg (by omega)]
    ·rw[if_neg hc];refine(ih (i+1) _ hi h3 (by omega) (by omega) (by omega)).trans ?_;rw[if_neg (by omega),if_neg (by omega)]
   ·rw[dF hL,cF,if_neg (by omega)]
    congr 1
    omega
  ·obtain rfl:i=xs.length:=by omega
   rw[aq hi,cF,aK,show wS tsz []=0 from rfl]
   congr 1
   split<;>omega
end
theorem z0s :∀k,k<=4294967296->EO (z0r.ent (gSz k))
 | 0, _ => fun R xs H K r h => by
  simp only[z0r.ent]at h;split at h
  ·simp[gSz]at h
  ·cases h
 | k + 1, hk => z0r.ok          (G := ⟨gSz k⟩) ⟨z0s             k (by omega), trivial⟩ fun t r h => by
  unfold gSz at h;split at h
  ·rename_i hs;cases h;have ht:=az t;have hl:=bm t.args;have hz:=uX _ t (Nat.lt_succ_self _);rw[gG]at hz;refine⟨t.args.length+1,?_⟩;unfold z0r.main;have e:=Ba (t.args.length+1) k t.args (λx hx=>by have:=ac hx;omega) (λr0=>some (AT.one (.i r0),([]:List Ob))) (t.args.length+1) 0 1 (by omega) (by simp;omega) (by omega) (by omega);simp only[List.drop_zero]at e;rw[gG];exact e
  ·cases h
theorem z0d :∀k,k<=4294967296->EO (z0c.ent (gDp k))
 | 0, _ => fun R xs H K r h => by
  simp only[z0c.ent]at h;split at h
  ·simp[gDp]at h
  ·cases h
 | k + 1, hk => z0c.ok           (G := ⟨gDp k⟩) ⟨z0d              k (by omega), trivial⟩ fun t r h => by
  unfold gDp at h;split at h
  ·rename_i hs;cases h;have ht:=az t;have hl:=bm t.args;have hz:=tJ _ t (Nat.lt_succ_self _);refine⟨t.args.length+1,?_⟩;unfold z0c.main;have e:=Ao (t.args.length+1) k t.args (λx hx=>by have:=ac hx;omega) (λr0=>some (AT.one (.i (wr (r0+1))),([]:List Ob))) (t.args.length+1) 0 0 (by omega) (by omega) (by omega);simp only[List.drop_zero,Nat.zero_max]at e;rw[uK]at hz ⊢;refine e.trans ?_;rw[aI (x:=((mxS tdp t.args:Nat):Int)+1) (by omega)];rfl
  ·cases h
theorem zA :EO (z42.ent λa b=>some (lr a b)):=z42.ok (G:=⟨()⟩) trivial λa b r h=>⟨1,by
 cases h;unfold z42.main lr;by_cases h:b<a
 ·rw[dT h,cT,if_neg (by omega)]
 ·rw[dF h,cF];by_cases h2:a<b
  ·rw[if_pos h2]
  ·obtain rfl:a=b:=by omega
   rw[if_neg h2]⟩
theorem z3d :∀k,k<=4294967296->EO (z3c.ent (gDp k))
 | 0, _ => fun R xs H K r h => by
  simp only[z3c.ent]at h;split at h
  ·simp[gDp]at h
  ·cases h
 | k + 1, hk => z3c.ok           (G := ⟨gDp k, fun a b => some (lr a b)⟩) ⟨z3d              k (by omega), zA, trivial⟩ fun t r h => by
  unfold gDp at h;split at h
  ·rename_i hs;cases h;have ht:=az t;have hl:=bm t.args;have hz:=tJ _ t (Nat.lt_succ_self _);refine⟨t.args.length+1,?_⟩;unfold z3c.main;have e:=AB (t.args.length+1) k t.op t.sort t.name t.args (λx hx=>by have:=ac hx;omega) (λr0=>some (AT.one (.i (wr (r0+1))),([]:List Ob))) (t.args.length+1) 0 0 (by omega) (by omega) (by omega);simp only[List.drop_zero,Nat.zero_max]at e;rw[uK]at hz ⊢;refine e.trans ?_;rw[aI (x:=((mxS tdp t.args:Nat):Int)+1) (by omega)];rfl
  ·cases h
theorem oL :∀k,k<=4294967296->EO (z4o.ent (gLf k))
 | 0, _ => fun R xs H K r h => by
  simp only[z4o.ent]at h;split at h
  ·simp[gLf]at h
  ·cases h
 | k + 1, hk => z4o.ok      (G := ⟨gLf k⟩) ⟨oL        k (by omega), trivial⟩ fun t left r h => by
  unfold gLf at h;split at h
  ·rename_i hs;cases h;obtain⟨hs,l0,l1⟩:=hs;have ht:=az         t;have hl:=bm      t.args;refine⟨t.args.length+1,?_⟩;unfold z4o.main;have e:=zW       (t.args.length+1) k t.op t.sort t.name t.args (λx hx=>by have:=ac        hx;omega) (λr0=>some (AT.one (.i r0),([]:List Ob))) (t.args.length+1) 0 (left-1) (by omega) (by omega) (by omega) (by omega) (by omega);simp only[List.drop_zero]at e;rw[aI    (x:=left-1) (by omega)];refine e.trans ?_;have e2:(if (wS tsz t.args:Int)<=left-1 then left-1-(wS tsz t.args:Int)else -1)=(if (tsz t:Int)<=left then left-(tsz t:Int)else -1):=by
    rw[gG];split<;>split<;>omega
   rw[e2]
  ·cases h
abbrev gSm (k:Nat):Tm->Option Bool:=λt=>if t.total<k then some (decide (tsz t<=60)&&decide (tdp t<=20))else none
theorem uT (k:Nat) (hk:k<=4294967296):EO (z4r.ent (gSm k)):=z4r.ok (G:=⟨gLf k,gDp k⟩) ⟨oL k hk,z3d k hk,trivial⟩ λt r h=>by
 unfold gSm at h;split at h
 ·rename_i hs;cases h;refine⟨1,?_⟩;unfold z4r.main;rw[Tm.eta];show Option.bind (gLf k t 60) _=_;unfold gLf;rw[if_pos ⟨hs,by decide,by decide⟩,bS];by_cases hc:tsz t<=60
  ·rw[if_pos (by omega),dT (by omega),cT];show Option.bind (gDp k t) _=_;unfold gDp;rw[if_pos hs,bS,dT hc,Bool.true_and];rw[show decide ((tdp t:Int)<=20)=decide (tdp t<=20)from decide_eq_decide.2 (by omega)]
  ·rw[if_neg (by omega),dF (by omega),cF,dF hc,Bool.false_and]
 ·cases h
abbrev bf (k:Nat):Tm->Tm->Option Bool:=λa b=>if a.total<k then some (decide (aQ a b=0))else none
theorem dm (k:Nat) (hk:k<=4294967296):EO (z4j.ent (bf k)):=z4j.ok (G:=⟨cv k⟩) ⟨z3b k hk,trivial⟩ λa b r h=>by
 unfold bf at h;split at h
 ·rename_i hs;cases h;refine⟨1,?_⟩;unfold z4j.main;rw[Tm.eta,Tm.eta];show Option.bind (cv k a b) _=_;unfold cv;rw[if_pos hs,bS]
 ·cases h
open Classical
abbrev nS (s:Sg):Nat:=s.sorts.names.length
abbrev kS (s:Sg):List Int:=aX s.sorts.names.length s.sorts.subs
structure Dj (s:Sg) (o:Opr):Prop where
 dl:1<=o.decls.length
 fa:(first o).args.length<=3
 args:∀x∈(first o).args,0<=x/\x<nS s
 res:0<=(first o).result/\(first o).result<nS s
 u0:0<=o.unit
 u1:o.unit<=s.ops.length
 two:o.assoc=true\/o.comm=true\/o.unit≠0->(first o).args.length=2
 un:o.unit≠0->∃u,ix s.ops (o.unit-1)=some u/\(first u).args.length=0
theorem iX {s:Sg} (h:bw s=true) {o:Opr} (ho:o∈s.ops):Dj s o:=by
 obtain⟨h1,h2⟩:=iR h;obtain⟨h3,h4⟩:=h2 o ho;obtain⟨d1,d2,d3,d4,d5,d6⟩:=cS h3;obtain⟨u0,u1⟩:=yL h4;have two:o.assoc=true\/o.comm=true\/o.unit≠0->(first o).args.length=2:=λhc=>by
  unfold axF at h4;cases hb:(!o.assoc&&(!o.comm&&decide (o.unit=0)))with
  | true =>
   simp only[bA,Bool.not_eq_true',decide_eq_true_eq]at hb;obtain⟨b1,b2,b3⟩:=hb;rw[b1,b2]at hc;simp[b3]at hc
  | false =>
   rw[hb,cF]at h4;simp only[bA,decide_eq_true_eq]at h4;exact h4.1
 refine⟨d1,d3,λx hx=>bt.1 (d6 x hx),bt.1 d5,u0,u1,two,λhu=> ?_⟩;unfold axF at h4;cases hb:(!o.assoc&&(!o.comm&&decide (o.unit=0)))with
 | true =>
  simp only[bA,decide_eq_true_eq]at hb;exact absurd hb.2.2 hu
 | false =>
  rw[hb,cF]at h4;simp only[bA,decide_eq_true_eq]at h4;have h5:=h4.2.2.2.2.2;rw[dF hu,cF]at h5;split at h5
  ·rename_i u hu2;simp only[bA,decide_eq_true_eq]at h5;exact⟨u,hu2,h5.1⟩
  ·cases h5
theorem EM (s:Sg):(kS s).length=nS s:=ik _ _
theorem qC {s:Sg} (h:bw s=true):fI s.sorts=true:=by
 unfold bw at h;simp only[bA]at h;exact(dY h.1).2.2.2.2
theorem bG {α:Type} {xs:List α} {i:Int} {x:α} (h:ix xs i=some x):x∈xs/\0<=i/\i<xs.length/\xs[i.toNat]? =some x:=by
 unfold ix at h;cases hb:decide (0<=i)with
 |false=>rw[hb]at h;cases h
 | true =>
  rw[hb]at h;have h0:0<=i:=of_decide_eq_true hb;have h:xs[i.toNat]? =some x:=h;obtain⟨hlt,_⟩:=gI.1 h;exact⟨mG h,h0,by omega,h⟩
theorem xP {s:Sg} (h:bw s=true) {o u:Opr} (ho:Dj s o) (hu:o.unit≠0) (hx:ix s.ops (o.unit-1)=some u):(first u).args.length=0/\u.assoc=false:=by
 obtain⟨u',h1,h2⟩:=ho.un hu;rw[hx]at h1;cases h1;refine⟨h2,?_⟩;have hk:=iX h (bG hx).1;cases ha:u.assoc with
 |false=>rfl
 |true=>have:=hk.two (.inl ha);omega
inductive Good (s:Sg):Tm->Prop
 |var {name:ByteArray} {sort:Int} (h1:0<=sort) (h2:sort<nS s) (h3:cM name=true):Good s (Tm.mk (-1) name sort [])
 |app {op:Int} {o:Opr} {args:List Tm} (ho:ix s.ops op=some o) (hn:if o.assoc=true then 2<=args.length else args.length=(first o).args.length) (ha:∀a∈args,Good s a):Good s (Tm.mk op ByteArray.empty 0 args)
theorem Good.args {s:Sg} {t:Tm} (h:Good s t):∀a∈t.args,Good s a:=by
 cases h with
 |var=>intro a ha;simp at ha
 |app _ _ ha=>exact ha
def Kn (s:Sg) (t:Tm):Prop:=(t.op= -1/\0<=t.sort/\t.sort<nS s)\/∃o,ix s.ops t.op=some o
theorem Good.kn {s:Sg} {t:Tm} (h:Good s t):Kn s t:=by
 cases h with
 |var h1 h2 h3=>exact .inl ⟨rfl,h1,h2⟩
 |app ho _ _=>exact .inr ⟨_,ho⟩
def cH (s:Sg) (t:Tm):Int:=if t.op= -1 then ap (kS s) t.sort else match ix s.ops t.op with
 |some o=>ap (kS s) (first o).result
 |none=>0
theorem oy {s:Sg} {i:Int} (h0:0<=i) (h1:i<nS s):ix (kS s) i=some (ap (kS s) i):=aA h0 (by rw[EM];exact h1)
abbrev Mp :=List (ByteArray×Int)
def Alg (kd:List Int) (nm:List ByteArray) (sb:List Sb) (ops:List Opr):Prop:=bw ⟨⟨nm,sb⟩,ops⟩=true/\kd=aX nm.length sb
noncomputable def gj:List Int->List Int->List Int->List ByteArray->List Sb->List Opr->Mp->Tm->Option (Int×Mp):=λ_ _ kd nm sb ops m t=>if Alg kd nm sb ops/\Kn ⟨⟨nm,sb⟩,ops⟩ t then some (cH ⟨⟨nm,sb⟩,ops⟩ t,m)else none
theorem o9 :EO (z12.ent gj):=z12.ok (G:=⟨()⟩) trivial λab be kd nm sb ops m t r h=>by
 unfold gj at h;split at h
 ·rename_i hs;cases h;obtain⟨⟨h1,rfl⟩,h2⟩:=hs;refine⟨1,?_⟩;unfold z12.main cH;rcases    h2 with⟨h2,h3,h4⟩|⟨o,ho⟩
  ·rw[h2,if_pos rfl,dT (by decide),cT];have:=oy (s:=⟨⟨nm,sb⟩,ops⟩) h3 h4;rw[this,bS]
  ·obtain⟨m1,m2,m3,_⟩:=bG ho;have hk:=iX h1 m1;have:=oy (s:=⟨⟨nm,sb⟩,ops⟩) hk.res.1 hk.res.2;have ho':ix ops t.op=some o:=ho;rw[if_neg (by omega),dF (by omega),cF,ho',bS,bD hk.dl,bS,this,bS]
 ·cases h
noncomputable def fA:Sg->Tm->Option Int:=λs t=>if bw s=true/\Kn s t then some (cH s t)else none
theorem po :EO (z4n.ent fA):=z4n.ok (G:=⟨fx⟩) ⟨fS,trivial⟩ λs t r h=>by
 unfold fA at h;split at h
 ·rename_i hs;cases h;obtain⟨h1,h2⟩:=hs;refine⟨1,?_⟩;unfold z4n.main cH;show    Option.bind (fx     s.sorts) _=_;unfold fx;rw[if_pos     (qC       h1),bS];rcases h2 with⟨h2,h3,h4⟩|⟨o,ho⟩
  ·rw[h2,if_pos rfl,dT rfl,cT];rw[oy h3 h4,bS]
  ·obtain⟨m1,m2,m3,_⟩:=bG ho;have hk:=iX h1 m1;rw[if_neg (by omega),dF (by omega),cF,ho,bS,bD hk.dl,bS,oy hk.res.1 hk.res.2,bS]
 ·cases h
def atI (o:Opr) (i:Int):Int:=if o.assoc=true then 0 else i
def ya (s:Sg) (o:Opr) (i:Int):Int:=ap (kS s) (ap (first o).args (atI o i))
noncomputable def oJ:List Int->List Int->List Int->List ByteArray->List Sb->List Opr->Mp->Int->Int->Option (Int×Mp):=λ_ _ kd nm sb ops m op i=>if Alg kd nm sb ops/\∃o,ix ops op=some o/\0<=atI o i/\atI o i<(first o).args.length then some (ya ⟨⟨nm,sb⟩,ops⟩ ((ix ops op).getD ⟨ByteArray.empty,[],false,false,0⟩) i,m)else none
theorem zU {s:Sg} {o:Opr} (hk:Dj s o) {i:Int} (h0:0<=i) (h1:i<(first o).args.length):ix (first o).args i=some (ap (first o).args i)/\0<=ap (first o).args i/\ap (first o).args i<nS s:=
 ⟨aA h0 h1,hk.args _ (cw h0 h1)⟩
theorem tq :EO (z0w.ent oJ):=z0w.ok (G:=⟨()⟩) trivial λab be kd nm sb ops m op i r h=>by
 unfold oJ at h;split at h
 ·rename_i hs;obtain⟨⟨h1,rfl⟩,o,ho,h2,h3⟩:=hs;rw[ho]at h;cases h;have hk:=iX   h1 (bG     ho).1;obtain⟨a1,a2,a3⟩:=zU     hk h2 h3;have a4:=oy    (s:=⟨⟨nm,sb⟩,ops⟩) a2 a3;refine⟨1,?_⟩;unfold z0w.main ya;rw[ho  ,bS,Option.getD_some];unfold atI at a1 a4 ⊢;cases ha:o.assoc with
  | true =>
   rw[ha,if_pos rfl]at a1 a4;rw[cT,if_pos rfl];unfold z0w.c4;rw[bD hk.dl,bS,a1,bS,a4,bS]
  | false =>
   rw[ha,if_neg (by decide)]at a1 a4;rw[cF,if_neg (by decide)];unfold z0w.c4;rw[bD hk.dl,bS,a1,bS,a4,bS]
 ·cases h
def n7 (o:Opr) (t:Tm):Bool:= !decide (o.unit=0)&&decide (t.op=o.unit-1)
def unT (o:Opr):Tm:=Tm.mk (o.unit-1) ByteArray.empty 0 []
noncomputable def yD:List Int->List Int->List Int->List ByteArray->List Sb->List Opr->Mp->Int->Tm->Option (Bool×Mp):=λ_ _ kd nm sb ops m op t=>if Alg kd nm sb ops then (ix ops op).map (λo=>(n7 o t,m))else none
theorem wU :EO (z10.ent yD):=z10.ok (G:=⟨()⟩) trivial λab be kd nm sb ops m op t r h=>by
 unfold yD at h;split at h
 ·rename_i hs;obtain⟨o,ho,rfl⟩:=Option.map_eq_some_iff.1 h;have hk:=iX   hs.1 (bG     ho).1;have hu1:=hk.u1;have hol:ops.length<=14:=(iR         hs.1).1;refine⟨1,?_⟩;unfold z10.main n7;rw[ho  ,bS];by_cases hu:o.unit=0
  ·rw[dT hu];rfl
  ·have:o.unit<=(ops.length:Int):=hu1;rw[dF hu,Bool.not_false,cT,bS,Bool.true_and,aI (x:=o.unit-1) (by have:=hk.u0;omega)]
 ·cases h
noncomputable def wV:Sg->Int->Option (Tm×Bool):=λs op=>if bw s=true then (ix s.ops op).map (λo=>if o.unit=0 then (Tm.mk 0 ByteArray.empty 0 [],false)else (unT o,true))else none
theorem xX :EO (z4s.ent wV):=z4s.ok (G:=⟨()⟩) trivial λs op r h=>by
 unfold wV at h;split at h
 ·rename_i hs;obtain⟨o,ho,rfl⟩:=Option.map_eq_some_iff.1 h;have hk:=iX   hs (bG     ho).1;have hu1:=hk.u1;have hol:s.ops.length<=14:=(iR         hs).1;refine⟨1,?_⟩;unfold z4s.main;rw[ho,bS];by_cases hu:o.unit=0
  ·rw[dT hu,cT,if_pos hu]
  ·rw[dF hu,cF,bS,if_neg hu,aI (x:=o.unit-1) (by have:=hk.u0;omega)];rfl
 ·cases h
noncomputable def zn:List Int->List Int->List Int->List ByteArray->List Sb->List Opr->Mp->Tm->Option (Bool×Mp):=λab _ _ _ _ _ m t=>if t.op= -1 then some (cM t.name&&(inN ab.length t.sort&&decide (t.args.length=0)),m)else none
theorem nL :EO (z11.ent zn):=z11.ok (G:=⟨iD,BW⟩) ⟨z0h,le,trivial⟩ λab be kd nm sb ops m t r h=>by
 unfold zn at h;split at h
 ·rename_i hs;cases h;refine⟨1,?_⟩;unfold z11.main;rw[dT hs,cT];show Option.bind (iD    t.name) _=_;rw[bS];cases hn:cM    t.name with
  |false=>rfl
  | true =>
   rw[cT];show Option.bind (BW ⟨ab,be,kd⟩ t.sort) _=_;rw[bS];cases hi:inN ab.length t.sort with
   |false=>rfl
   | true =>
    rw[cT,show decide ((t.args.length:Int)=0)=decide (t.args.length=0)from decide_eq_decide.2 (by omega)];rfl
 ·cases h
abbrev Zt :Tm:=Tm.mk 0 ByteArray.empty 0 []
def uOf (o:Opr):Tm:=if o.unit=0 then Zt else unT o
theorem Dd {s:Sg} (h:bw s=true) {o:Opr} {op:Int} (ho:ix s.ops op=some o) (hu:o.unit≠0) {x:Tm} (hx:Good s x):(aQ x (unT o)=0↔x.op=o.unit-1)/\(x.op=o.unit-1->¬(o.assoc=true/\x.op=op)):=by
 have hk:=iX h (bG ho).1;obtain⟨u,u1,u2⟩:=hk.un hu;obtain⟨u3,u4⟩:=xP h hk hu u1;refine⟨⟨λhc=> ?_,λhc=> ?_⟩,λhc ⟨h1,h2⟩=> ?_⟩
 ·rw[dU     ]at hc;unfold iv   at hc;by_cases h1:aS   x.op (unT o).op=0
  ·exact dh h1
  ·rw[if_neg h1]at hc;exact absurd hc h1
 ·have:x=unT o:=by
   cases hx with
   | var h1 h2 h3 =>
    have hc:(-1:Int)=o.unit-1:=hc;have:=hk.u0;omega
   | @app op' o' args ho' hn ha=>
    have hc:op'=o.unit-1:=hc;subst hc;rw[u1]at ho';cases ho';rw[u4,if_neg (by decide),u3]at hn;rw[nZ hn];rfl
  rw[this];exact ko _ _ (Nat.lt_succ_self _)
 ·rw[hc]at h2;rw[<-h2,u1]at ho;cases ho;rw[u4]at h1;cases h1
open Classical
def bO (i:Int):List Int:=if i<0 then [45,49]else if i<10 then [48+i]else [48+i / 10,48+i%10]
def pI (c:Int):Bool:=decide (c=45)||(decide (48<=c)&&decide (c<=57))
theorem dS {i:Int} (h0: -1<=i) (h1:i<100):∀c∈bO i,pI c=true:=λc hc=>by
 unfold bO at hc;unfold pI;split at hc
 ·simp at hc;rcases hc with rfl|rfl<;>rfl
 ·split at hc
  ·simp at hc;subst hc;simp;omega
  ·simp at hc;rcases hc with rfl|rfl<;>simp<;>omega
theorem qE {i j:Int} (h0: -1<=i) (h1:i<100) (g0: -1<=j) (g1:j<100) (h:bO i=bO j):i=j:=by
 unfold bO at h;by_cases a:i<0
 ·rw[if_pos a]at h;by_cases b:j<0
  ·omega
  ·rw[if_neg b]at h;by_cases c:j<10
   ·rw[if_pos c]at h;simp at h
   ·rw[if_neg c]at h;simp at h;omega
 ·rw [if_neg a] at h;by_cases b:j<0
  ·rw[if_pos b]at h;by_cases c:i<10
   ·rw[if_pos c]at h;simp at h
   ·rw[if_neg c]at h;simp at h;omega
  ·rw[if_neg b]at h;by_cases c:i<10
   ·rw[if_pos c]at h;by_cases d:j<10
    ·rw[if_pos d]at h;simp at h;omega
    ·rw[if_neg d]at h;simp at h
   ·rw[if_neg c]at h;by_cases d:j<10
    ·rw[if_pos d]at h;simp at h
    ·rw[if_neg d]at h;simp at h;omega
theorem Db (i:Int):bO i≠[]:=by
 unfold bO;split
 ·simp
 ·split<;>simp
theorem eL {p:Int->Bool}:∀{xs ys r r':List Int} {c c':Int},(∀x∈xs,p x=true)->(∀y∈ys,p y=true)->p c=false->p c'=false->xs++c::r=ys++c'::r'->xs=ys/\c=c'/\r=r'
 |[],[],_,_,_,_,_,_,_,_,h=>by simp at h;exact⟨rfl,h⟩
 | [], y :: ys, _, _, c, c', _, hy, hc, _, h => by
  simp at h;rw[h.1,hy y (by simp)]at hc;cases hc
 | x :: xs, [], _, _, c, c', hx, _, _, hc', h => by
  simp at h;rw[<-h.1,hx x (by simp)]at hc';cases hc'
 | x :: xs, y :: ys, _, _, _, _, hx, hy, hc, hc', h => by
  simp only[List.cons_append,List.cons.injEq]at h;obtain⟨a,b⟩:=eL (λz hz=>hx z (by simp[hz])) (λz hz=>hy z (by simp[hz])) hc hc' h.2;exact⟨by rw[h.1,a],b⟩
def um :Nat->Tm->List Int
 |0,_=>[]
 |k+1,t=>bO t.op++((if t.op<0 then 58::(ofS t.name++58::bO t.sort)else [])++40::(t.args.flatMap (um k)++[41]))
def bZ (t:Tm):List Int:=um (t.total+1) t
theorem i6 {F F':Tm->List Int}:∀{l:List Tm},(∀y∈l,F y=F' y)->l.flatMap F=l.flatMap F'
 |[],_=>rfl
 |y::l,h=>by rw[List.flatMap_cons,List.flatMap_cons,h y (by simp),i6 λz hz=>h z (by simp[hz])]
theorem vg :∀(k j:Nat) (t:Tm),t.total<k->t.total<j->um k t=um j t
 |0,_,_,h,_=>absurd h (Nat.not_lt_zero _)
 |_,0,_,_,h=>absurd h (Nat.not_lt_zero _)
 | k + 1, j + 1, t, h1, h2 => by
  unfold um;rw[i6 λy hy=>vg k j y (by have:=ac hy;omega) (by have:=ac hy;omega)]
theorem iq (t:Tm):bZ t=bO t.op++((if t.op<0 then 58::(ofS t.name++58::bO t.sort)else [])++40::(t.args.flatMap bZ++[41])):=by
 show um (t.total+1) t=_;unfold um;rw[i6 (F':=bZ) λy hy=>vg _ _ y (ac hy) (Nat.lt_succ_self _)]
def Aa (t:Tm):Prop:=(t.op= -1/\cM t.name=true/\0<=t.sort/\t.sort<100/\t.args=[])\/(0<=t.op/\t.op<100/\t.name=ByteArray.empty/\t.sort=0)
inductive KeysOk :Tm->Prop
 |mk {t:Tm} (h:Aa t) (ha:∀a∈t.args,KeysOk a):KeysOk t
theorem KeysOk.out {t:Tm} (h:KeysOk t):Aa t/\∀a∈t.args,KeysOk a:=by
 cases h with
 |mk h ha=>exact⟨h,ha⟩
theorem kt {s:Sg} (hS:bw s=true):∀(k:Nat) (t:Tm),t.total<k->Good s t->KeysOk t
 |0,_,h,_=>absurd h (Nat.not_lt_zero _)
 | k + 1, t, h, hg => by
  have hl:s.ops.length<=14/\s.sorts.names.length<=8:=by
   unfold bw cu at hS;simp only[bA,decide_eq_true_eq]at hS;exact⟨hS.2.1,hS.1.2.1⟩
  refine .mk ?_ λa ha=>kt hS k a (by have:=ac ha;omega) (hg.args a ha);cases hg with
  | @var name sort h1 h2 h3=>
   unfold nS at h2;have h4:sort<100:=by omega
   exact .inl ⟨rfl,h3,h1,h4,rfl⟩
  | @app op o args ho _ _=>
   obtain⟨_,i0,i1⟩:=bG ho;have h4:op<100:=by omega
   exact .inr ⟨i0,h4,rfl,rfl⟩
theorem Ct {a b:ByteArray} (h:ofS a=ofS b):a=b:=by
 unfold ofS at h;obtain⟨⟨a⟩⟩:=a;obtain⟨⟨b⟩⟩:=b;have:a=b:=by
  simp only at h
  induction a generalizing b with
  | nil => cases b with
   |nil=>rfl
   |cons=>simp at h
  | cons x xs ih =>
   cases b with
   |nil=>simp at h
   | cons y ys =>
    simp only[List.map_cons,List.cons.injEq]at h;have hx:x=y:=UInt8.toNat_inj.1 (by have:=h.1;omega);rw[ih ys h.2,hx]
 rw[this]
theorem wh {n:ByteArray} (h:cM n=true):∀x∈ofS n,(λc:Int=> !decide (c=58)) x=true:=λx hx=>by
 unfold cM at h;simp only[bA,aT]at h;have:=h.2.2.2.2 x hx;simp only[Bool.not_eq_true',decide_eq_false_iff_not];intro e;subst e
 revert this
 decide
theorem wC :pI 58=false:=rfl
theorem oZ :pI 40=false:=rfl
theorem sM {t:Tm} (h:Aa t):∃c r,bZ t=c::r/\pI c=true:=by
 rw[iq];have hd:∀c∈bO t.op,pI c=true:=by
  rcases h with⟨h,_⟩|⟨h0,h1,_⟩
  ·exact dS (by omega) (by omega)
  ·exact dS (by omega) h1
 cases e:bO t.op with
 |nil=>exact absurd e (Db _)
 |cons c r=>exact⟨c,_,rfl,hd c (by rw[e];simp)⟩
theorem lW :∀(k:Nat) (a b:Tm) (r r':List Int),a.total<k->KeysOk a->KeysOk b->bZ a++r=bZ b++r'->a=b/\r=r'
 |0,_,_,_,_,h,_,_,_=>absurd h (Nat.not_lt_zero _)
 | k + 1, a, b, r, r', h, ha, hb, e => by
  obtain⟨ka,ha2⟩:=ha.out;obtain⟨kb,hb2⟩:=hb.out
  -- the arguments
  have args:∀(xs ys:List Tm) (r r':List Int),(∀x∈xs,x.total<k/\KeysOk x)->(∀y∈ys,KeysOk y)->xs.flatMap bZ++41::r=ys.flatMap bZ++41::r'->xs=ys/\r=r':=by
   intro xs
   induction xs with
   | nil =>
    intro ys r r' _ hy e;cases ys with
    |nil=>simp at e;exact⟨rfl,e⟩
    | cons y ys =>
     obtain⟨c,z,e1,e2⟩:=sM (hy y (by simp)).out.1;rw[List.flatMap_cons,e1]at e;simp at e;rw[<-e.1]at e2;cases e2
   | cons x xs ih =>
    intro ys r r' hx hy e;cases ys with
    | nil =>
     obtain⟨c,z,e1,e2⟩:=sM (hx x (by simp)).2.out.1;rw[List.flatMap_cons,e1]at e;simp at e;rw[e.1]at e2;cases e2
    | cons y ys =>
     rw[List.flatMap_cons,List.flatMap_cons,List.append_assoc,List.append_assoc]at e;obtain⟨e1,e2⟩:=lW k x y _ _ (hx x (by simp)).1 (hx x (by simp)).2 (hy y (by simp)) e;obtain⟨e3,e4⟩:=ih ys r r' (λz hz=>hx z (by simp[hz])) (λz hz=>hy z (by simp[hz])) e2;exact⟨by rw[e1,e3],e4⟩
  rw[iq,iq]at e;have da:∀c∈bO a.op,pI c=true:=by
   rcases ka with⟨h,_⟩|⟨h0,h1,_⟩
   ·exact dS (by omega) (by omega)
   ·exact dS (by omega) h1
  have db:∀c∈bO b.op,pI c=true:=by
   rcases kb with⟨h,_⟩|⟨h0,h1,_⟩
   ·exact dS (by omega) (by omega)
   ·exact dS (by omega) h1
  obtain⟨ao,an,aso,aa⟩:=a;obtain⟨bo,bn,bso,ba⟩:=b;rcases ka with⟨a1,a2,a3,a4,a5⟩|⟨a1,a2,a3,a4⟩<;>rcases kb with⟨b1,b2,b3,b4,b5⟩|⟨b1,b2,b3,b4⟩
  ·simp only at a1 a2 a3 a4 a5 b1 b2 b3 b4 b5 e da db;subst a1 a5 b1 b5;rw[if_pos (by omega)]at e;simp only[List.flatMap_nil,List.nil_append,List.append_assoc,List.cons_append]at e;obtain⟨_,_,e⟩:=eL       da db wC    wC    e;have e:ofS an++58::(bO   aso++40::41::r)=ofS bn++58::(bO   bso++40::41::r'):=by
    have e:ofS an++58::(bO aso++40::41::r)=(ofS bn++58::bO bso)++(40::41::r'):=e;simpa using e
   obtain⟨e1,_,e⟩:=eL (p:=λc=> !decide (c=58)) (c:=58) (c':=58) (wh a2) (wh b2) rfl rfl e;obtain⟨e2,_,e⟩:=eL (dS (by omega) a4) (dS (by omega) b4) oZ oZ e;simp at e;have:=Ct e1;have:=qE (by omega) a4 (by omega) b4 e2
   subst_vars
   exact⟨rfl,rfl⟩
  ·exfalso;simp only at a1 b1 e da db;subst a1;rw[if_pos (by omega),if_neg (by omega)]at e;simp only[List.append_assoc,List.cons_append,List.nil_append]at e;obtain⟨_,e,_⟩:=eL da db wC oZ e;cases e
  ·exfalso;simp only at a1 b1 e da db;subst b1;rw[if_neg (by omega),if_pos (by omega)]at e;simp only[List.append_assoc,List.cons_append,List.nil_append]at e;obtain⟨_,e,_⟩:=eL da db oZ wC e;cases e
  ·simp only at a1 a2 a3 a4 b1 b2 b3 b4 e da db ha2 hb2;subst a3 a4 b3 b4;rw[if_neg (by omega),if_neg (by omega)]at e;simp only[List.append_assoc,List.cons_append,List.nil_append]at e;obtain⟨e1,_,e0⟩:=eL da db oZ oZ e;have:=qE (by omega) a2 (by omega) b2 e1;subst this;have e:=e0;obtain⟨e2,e3⟩:=args aa ba r r' (λx hx=>⟨by have:=ac (t:=Tm.mk ao ByteArray.empty 0 aa) hx;omega,ha2 x hx⟩) hb2 e;subst e2;exact⟨rfl,e3⟩
def sv (a b:Tm):List Int:=bZ a++62::bZ b
theorem Bg {a b c d:Tm} (ha:KeysOk a) (hb:KeysOk b) (hc:KeysOk c) (hd:KeysOk d) (h:sv a b=sv c d):a=c/\b=d:=by
 unfold sv at h;obtain⟨e1,e2⟩:=lW _ a c _ _ (Nat.lt_succ_self _) ha hc h;have e2:bZ b++[]=bZ d++[]:=by simpa using e2
 exact⟨e1,(lW _ b d _ _ (Nat.lt_succ_self _) hb hd e2).1⟩
end Go.Proofs.YtkinkfieackmdaaGreatDoor.Den

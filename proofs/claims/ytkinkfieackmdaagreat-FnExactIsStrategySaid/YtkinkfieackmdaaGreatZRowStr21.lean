/-
  Texts that the claim rests on, merged: Below, Lib0, Tm1, Tm2, Tm3, Srt1, Srt2, Srt3.
-/
import Derived.Test.YtkinkfieackmdaaGreatZRowStr5
import Derived.Test.YtkinkfieackmdaaGreatZRowStr13
import Derived.Test.YtkinkfieackmdaaGreatZRowStr15
import Derived.Test.YtkinkfieackmdaaGreatZRowStr16
import Derived.Test.YtkinkfieackmdaaGreatZRowStr17
import Derived.Test.YtkinkfieackmdaaGreatZRowStr18
import Derived.Test.YtkinkfieackmdaaGreatZRowStr19
import Derived.Test.YtkinkfieackmdaaGreatZRowStr20

namespace Go.Proofs.YtkinkfieackmdaaGreat.Abs
open Go.RowKit
theorem HR.below {ι:List Inf} {I:Nat->Prop} {w w':World} {h:Heap} (hh:HR ι I w h) (hI:∀b,I b->b<w.heap.size) (hb:Below w.heap.size w w'):HR ι I w' h:=
 have hk:Keeps I I w w':=⟨λ_ h=>h,λb o hb'=>hb.cell (p:=⟨b,o,none⟩) (hI b hb')⟩
 { len := hh.len
   obj := fun id o inf h1 h2 => by
     have ho:=hh.obj id o inf h1 h2
     have hlt:inf.block<w.heap.size:=by
       cases o with
       | row s es =>
         obtain⟨cur,t,e,_⟩:=ho
         rcases Nat.lt_or_ge inf.block w.heap.size with h|h
         · exact h
         · rw[Array.getElem?_eq_none h]at e;cases e
       | map kvs =>
         obtain⟨cur,t,e,_⟩:=ho
         rcases Nat.lt_or_ge inf.block w.heap.size with h|h
         · exact h
         · rw[Array.getElem?_eq_none h]at e;cases e
     exact ho.keep (Grows.refl _) hk (hb.block _ hlt)
   off:=hh.off
   inj:=hh.inj}
theorem fn_of_below {P:Program} {f:FuncId} {xs:List AV} {h:Heap} {u:Value} (hc:callable P f) (hu:okLit u)
  (hh:∀(w:World) (I:Nat->Prop) (ι:List Inf) (cs:Array Value),(∀b,I b->b<w.heap.size)->ARs ι I w xs cs->Calls P f cs w λe w'=>e= .returned u/\Below w.heap.size w w'):Fn P f xs h (λr h'=>r= .one (.lit u)/\h'=h):=
 ⟨hc, fun w I ι cs hH hI hA => (hh w I ι cs hI hA).mono fun _ _ ⟨e1, hb⟩ => ⟨_, _, ι, I, u, ⟨rfl, rfl⟩, e1,
  { res := .one (.lit hu)
    heap:=hH.below hI hb
    imm:=λb hb'=>Nat.lt_of_lt_of_le (hI b hb') hb.size
    immlo:=λ_ hb'=>.inl hb'
    pre:=Grows.refl _
    os:=hb.os
    tape:=hb.tape
    output:=hb.output
    grown:=hb.size
    frame:=λb hlt _=>hb.block b hlt
    mine:=λid o inf h1 h2=>.inl ⟨id,o,inf,h1,h2,rfl⟩}⟩⟩
end Go.Proofs.YtkinkfieackmdaaGreat.Abs
namespace Go.Proofs.YtkinkfieackmdaaGreat.Den
open Go.RowKit
open Abs (V AV VR)
theorem CR.str_ {ρ:Rho} {H:List Ob} {x:ByteArray} {v:V} (h:CR ρ H (.s x) v):v= .lit (.string x):=by
 cases h with
 |fl h=>cases h;rfl
theorem cfn_of_below {P:Program} {f:FuncId} {xs:List AT} {u:Value} {c:C} (hcl:Abs.callable P f) (hu:Abs.okLit u) (hcu:FR c (.lit u))
  (hh:∀(ρ:Rho) (avs:List AV),ATRs ρ [] xs avs->∀(w:World) (I:Nat->Prop) (ι:List Abs.Inf) (cs:Array Value),(∀b,I b->b<w.heap.size)->Abs.ARs ι I w avs cs->Calls P f cs w λe w'=>e= .returned u/\Below w.heap.size w w'):CFn P f xs [] (.one c) []:=λρ h avs hH hA=>
 (Abs.fn_of_below hcl hu (hh ρ avs hA)).mono fun r h' ⟨e1, e2⟩ => by
  subst e1;subst e2
  exact⟨ρ,.one (.fl hcu),hH,Fr.refl ρ [] _⟩
end Go.Proofs.YtkinkfieackmdaaGreat.Den
namespace Go.Proofs.YtkinkfieackmdaaGreat.Den
open Go.RowKit
theorem drop_get {α:Type} {xs:List α} {i:Nat} {x:α} (h:xs[i]? =some x):xs.drop i=x::xs.drop (i+1):=by
 obtain⟨hlt,rfl⟩:=gI.1 h
 exact List.drop_eq_getElem_cons hlt
theorem take_get {α:Type} {xs:List α} {i:Nat} {x:α} (h:xs[i]? =some x):xs.take (i+1)=xs.take i++[x]:=by
 obtain⟨hlt,rfl⟩:=gI.1 h
 exact List.take_succ_eq_append_getElem hlt
theorem lim_le {α:Type} {xs:List α} (h:xs.length<=4294967296):lim xs=some xs:=by
 unfold lim
 rw[Nat.ble_eq_true_of_le h];rfl
def cmpL (f:Tm->Tm->Int):List Tm->List Tm->Int
 |[],[]=>0
 |[],_::_=> -1
 |_::_,[]=>1
 |x::xs,y::ys=>if f x y=0 then cmpL f xs ys else f x y
def cmpI (a b:Int):Int:=if a=b then 0 else if a<b then -1 else 1
def cmpB (a b:ByteArray):Int:=if a=b then 0 else if Abs.strLt a b then -1 else 1
def cmpN (f:List Tm->List Tm->Int) (a b:Tm):Int:=if cmpI a.op b.op=0 then (if cmpB a.name b.name=0 then (if cmpI a.sort b.sort=0 then f a.args b.args else cmpI a.sort b.sort)else cmpB a.name b.name)else cmpI a.op b.op
def cmpK :Nat->Tm->Tm->Int
 |0,_,_=>0
 |k+1,a,b=>cmpN (cmpL (cmpK k)) a b
def cmpT (a b:Tm):Int:=cmpK (a.total+1) a b
theorem cmpL_congr {f g:Tm->Tm->Int}:∀{xs ys:List Tm},(∀x∈xs,∀y,f x y=g x y)->cmpL f xs ys=cmpL g xs ys
 |[],[],_=>rfl
 |[],_::_,_=>rfl
 |_::_,[],_=>rfl
 | x :: xs, y :: ys, h => by
  unfold cmpL
  rw[h x (by simp) y,cmpL_congr λz hz=>h z (by simp[hz])]
theorem cmpN_congr {f g:List Tm->List Tm->Int} {a b:Tm} (h:f a.args b.args=g a.args b.args):cmpN f a b=cmpN g a b:=by unfold cmpN;rw[h]
theorem arg_total {x t:Tm} (h:x∈t.args):x.total<t.total:=by
 have:=tmT_mem h
 have:=total_args t
 omega
theorem cmpK_eq :∀(k j:Nat) (a b:Tm),a.total<k->a.total<j->cmpK k a b=cmpK j a b
 |0,_,_,_,h,_=>absurd h (Nat.not_lt_zero _)
 |_+1,0,_,_,_,h=>absurd h (Nat.not_lt_zero _)
 |k+1,j+1,a,b,h1,h2=>cmpN_congr (cmpL_congr λx hx y=>cmpK_eq k j x y (by have:=arg_total hx;omega) (by have:=arg_total hx;omega))
theorem cmpT_eq (a b:Tm):cmpT a b=cmpN (cmpL cmpT) a b:=cmpN_congr (cmpL_congr λx hx y=>cmpK_eq _ _ x y (arg_total hx) (Nat.lt_succ_self _))
theorem cmpI_self (a:Int):cmpI a a=0:=if_pos rfl
theorem cmpB_self (a:ByteArray):cmpB a a=0:=if_pos rfl
theorem cmpL_self {f:Tm->Tm->Int}:∀{xs:List Tm},(∀x∈xs,f x x=0)->cmpL f xs xs=0
 |[],_=>rfl
 | x :: xs, h => by
  unfold cmpL
  rw[if_pos (h x (by simp))]
  exact cmpL_self λy hy=>h y (by simp[hy])
theorem cmpT_self :∀(k:Nat) (a:Tm),a.total<k->cmpT a a=0
 |0,_,h=>absurd h (Nat.not_lt_zero _)
 | k + 1, a, h => by
  rw[cmpT_eq]
  unfold cmpN
  rw[if_pos (cmpI_self _),if_pos (cmpB_self _),if_pos (cmpI_self _)]
  exact cmpL_self λx hx=>cmpT_self k x (by have:=arg_total hx;omega)
theorem cmpI_neg (a b:Int):cmpI b a= -cmpI a b:=by
 unfold cmpI
 by_cases h:a=b
 ·subst h;simp
 ·rw[if_neg h,if_neg (λe=>h e.symm)]
  by_cases h2:a<b
  ·rw[if_pos h2,if_neg (by omega)];rfl
  ·rw[if_neg h2,if_pos (by omega)]
theorem cmpI_zero {a b:Int} (h:cmpI a b=0):a=b:=by
 unfold cmpI at h
 by_cases e:a=b
 ·exact e
 ·rw[if_neg e]at h
  split at h<;>cases h
theorem less_total :∀(a b:List UInt8),a≠b->Op.bytesLess b a= !Op.bytesLess a b
 |[],[],h=>absurd rfl h
 |[],_::_,_=>rfl
 |_::_,[],_=>rfl
 | x :: xs, y :: ys, h => by
  unfold Op.bytesLess
  by_cases e:x=y
  ·subst e
   have h2:xs≠ys:=λe=>h (by rw[e])
   simp[less_total xs ys h2]
  ·have e':¬y=x:=λh=>e h.symm
   have hne:x.toNat≠y.toNat:=λh=>e (UInt8.toNat_inj.1 h)
   simp only[beq_eq_false_iff_ne.2 e,beq_eq_false_iff_ne.2 e',Bool.false_and,Bool.or_false]
   by_cases hl:x<y
   ·have:¬y<x:=by rw[UInt8.lt_iff_toNat_lt]at hl ⊢;omega
    simp[hl,this]
   ·have:y<x:=by rw[UInt8.lt_iff_toNat_lt]at hl ⊢;omega
    simp[hl,this]
theorem compareBytes_eq :∀(a b:List UInt8),Lib.compareBytes a b=if a=b then 0 else if Op.bytesLess a b then -1 else 1
 |[],[]=>rfl
 |[],_::_=>rfl
 |_::_,[]=>rfl
 | x :: xs, y :: ys => by
  unfold Lib.compareBytes Op.bytesLess
  rw[compareBytes_eq xs ys]
  by_cases e:x=y
  ·subst e
   simp[UInt8.lt_irrefl]
  ·have hne:x.toNat≠y.toNat:=λh=>e (UInt8.toNat_inj.1 h)
   by_cases hl:x<y
   ·simp[hl,e]
   ·have:y<x:=by rw[UInt8.lt_iff_toNat_lt]at hl ⊢;omega
    simp[hl,this,e]
theorem compareBytes_cmpB (a b:ByteArray):Lib.compareBytes a.data.toList b.data.toList=cmpB a b:=by
 rw[compareBytes_eq,<-Abs.bytes_toList,<-Abs.bytes_toList]
 unfold cmpB Abs.strLt
 by_cases h:a=b
 ·subst h;simp
 ·rw[if_neg h,if_neg (λe=>h (Abs.bytes_toList_inj e))]
theorem cmpB_neg (a b:ByteArray):cmpB b a= -cmpB a b:=by
 unfold cmpB
 by_cases h:a=b
 ·subst h;simp
 ·rw[if_neg h,if_neg (λe=>h e.symm)]
  have:=less_total a.toList b.toList λe=>h (Abs.bytes_toList_inj e)
  unfold Abs.strLt
  rw[this]
  cases Op.bytesLess a.toList b.toList<;>rfl
theorem cmpB_in (a b:ByteArray): -1<=cmpB a b/\cmpB a b<=1:=by
 unfold cmpB
 split
 ·decide
 ·split<;>decide
theorem cmpL_neg {f:Tm->Tm->Int}:∀{xs ys:List Tm},(∀x∈xs,∀y,f y x= -f x y)->cmpL f ys xs= -cmpL f xs ys
 |[],[],_=>rfl
 |[],_::_,_=>rfl
 |_::_,[],_=>rfl
 | x :: xs, y :: ys, h => by
  unfold cmpL
  rw[h x (by simp) y,cmpL_neg (xs:=xs) (ys:=ys) λz hz=>h z (by simp[hz])]
  by_cases e:f x y=0
  ·rw[if_pos e,if_pos (by omega)]
  ·rw[if_neg e,if_neg (by omega)]
theorem cmpT_neg :∀(k:Nat) (a b:Tm),a.total<k->cmpT b a= -cmpT a b
 |0,_,_,h=>absurd h (Nat.not_lt_zero _)
 | k + 1, a, b, h => by
  rw[cmpT_eq,cmpT_eq a b]
  unfold cmpN
  rw[cmpI_neg a.op b.op,cmpB_neg a.name b.name,cmpI_neg a.sort b.sort,cmpL_neg λx hx y=>cmpT_neg k x y (by have:=arg_total hx;omega)]
  by_cases h1:cmpI a.op b.op=0
  ·rw[if_pos h1,if_pos (by omega)]
   by_cases h2:cmpB a.name b.name=0
   ·rw[if_pos h2,if_pos (by omega)]
    by_cases h3:cmpI a.sort b.sort=0
    ·rw[if_pos h3,if_pos (by omega)]
    ·rw[if_neg h3,if_neg (by omega)]
   ·rw[if_neg h2,if_neg (by omega)]
  ·rw[if_neg h1,if_neg (by omega)]
theorem z6o :EO (strings_Compare.ent λa b=>some (cmpB a b)):=λR xs H K r hc=>by
 simp only[strings_Compare.ent]at hc
 split at hc
 ·rename_i a b
  obtain⟨r,q1,q2⟩:=bind_some hc
  cases q1
  have hb:=cmpB_in a b
  refine⟨_,_,q2,cfn_of_below (u:=.int .i64 (cmpB a b)) ⟨Tryz.f159,Tryz.func159,by kernel_rfl,by kernel_rfl⟩ (Abs.wf_i64 (by omega) (by omega)) .i λρ avs hA w I ι cs hI hAr=> ?_⟩
  obtain⟨hA1,hA2⟩:=hA
  match avs,hA1 with
  | [x, y], _ =>
   have ex:=hA2 0 (by simp) (by simp)
   have ey:=hA2 1 (by simp) (by simp)
   simp only[List.getElem_cons_zero,List.getElem_cons_succ]at ex ey
   cases ex with
   |one ex=>
   cases ey with
   |one ey=>
   have ex:=ex.str_
   subst ex
   have ey:=ey.str_
   subst ey
   obtain⟨h1,h2⟩:=hAr
   obtain⟨u,u1,u2⟩:=h2 0 (by simp)
   obtain⟨z,z1,z2⟩:=h2 1 (by simp)
   rcases cs with⟨l⟩
   match l,h1 with
   | [p, q], _ =>
    simp at u1 z1
    subst u1
    subst z1
    cases u2 with
    |one u2=>
    cases u2 with
    |lit _=>
    cases z2 with
    |one z2=>
    cases z2 with
    |lit _=>
    refine(Tryz.strings_Compare a b w).mono λe w' ⟨k1,k2⟩=>⟨by rw[k1,compareBytes_cmpB],by subst k2;exact Below.refl _ _⟩
 ·cases hc
abbrev gCmp (k:Nat):Tm->Tm->Option Int:=λa b=>if a.total<k then some (cmpT a b)else none
abbrev gCmpL (k:Nat):List Tm->List Tm->Option Int:=λxs ys=>if tmTotals xs<k then some (cmpL cmpT xs ys)else none
theorem cmpL_nn {f:Tm->Tm->Int}:cmpL f [] []=0:=rfl
theorem cmpL_nc {f:Tm->Tm->Int} {y:Tm} {ys:List Tm}:cmpL f [] (y::ys)= -1:=rfl
theorem cmpL_cn {f:Tm->Tm->Int} {x:Tm} {xs:List Tm}:cmpL f (x::xs) []=1:=rfl
theorem cmpL_cc {f:Tm->Tm->Int} {x y:Tm} {xs ys:List Tm}:cmpL f (x::xs) (y::ys)=if f x y=0 then cmpL f xs ys else f x y:=rfl
section
variable {R : Type}
theorem scmp_loop (n k:Nat) (a1 a3 b1 b3:Int) (a2 b2:ByteArray) (xs ys:List Tm) (hx:∀x∈xs,x.total<k) (hxl:xs.length<4294967296) (K0:Int->Option R):∀m i,i<=xs.length->i<=ys.length->xs.length-i<m->
  z43.l14 ⟨gCmp k⟩ n m a1 a2 a3 xs b1 b2 b3 ys (i:Int) K0 (bif decide ((xs.length:Int)<(ys.length:Int))then K0 (-1)else bif decide ((ys.length:Int)<(xs.length:Int))then K0 1 else K0 0)=K0 (cmpL cmpT (xs.drop i) (ys.drop i)):=by
 intro m
 induction m with
 |zero=>intro i _ _ hm;omega
 | succ m ih =>
  intro i h1 h2 hm
  show z43.b14 ⟨gCmp k⟩ n a1 a2 a3 xs b1 b2 b3 ys (i:Int) (λy0=>z43.l14 ⟨gCmp k⟩ n m a1 a2 a3 xs b1 b2 b3 ys y0 K0 _) K0 _=_
  unfold z43.b14
  by_cases hxi:i<xs.length
  ·obtain⟨x,x1,x2⟩:=get_lt hxi
   rw[lt_nat hxi,cT,drop_get x1]
   by_cases hyi:i<ys.length
   ·obtain⟨y,y1,_⟩:=get_lt hyi
    rw[lt_nat hyi,cT,ix_get x1,bS,ix_get y1,bS,Tm.eta,Tm.eta,drop_get y1,cmpL_cc]
    show Option.bind (gCmp k x y) _=_
    unfold gCmp
    rw[if_pos (hx x x2),bS]
    by_cases e:cmpT x y=0
    ·rw[dT e,Bool.not_true,cF,wr_one (by omega),if_pos e]
     exact ih (i+1) hxi hyi (by omega)
    ·rw[dF e,Bool.not_false,cT,if_neg e]
   ·obtain rfl:i=ys.length:=by omega
    rw[nlt_nat hyi,cF,nlt_nat (by omega),cF,lt_nat hxi,cT,drop_nat,cmpL_cn]
  ·obtain rfl:i=xs.length:=by omega
   rw[nlt_nat hxi,cF,drop_nat]
   by_cases hyi:xs.length<ys.length
   ·obtain⟨y,y1,_⟩:=get_lt hyi
    rw[lt_nat hyi,cT,drop_get y1,cmpL_nc]
   ·have e:xs.length=ys.length:=by omega
    rw[nlt_nat hyi,cF,nlt_nat (by omega),cF,e,drop_nat,cmpL_nn]
theorem icmp_loop (n k:Nat) (xs ys:List Tm) (hx:∀x∈xs,x.total<k) (hxl:xs.length<4294967296) (K0:Int->Option R):∀m i,i<=xs.length->i<=ys.length->xs.length-i<m->
  z65.l2 ⟨gCmp k⟩ n m xs ys xs (xs.length:Int) (i:Int) K0 (bif decide ((xs.length:Int)<(ys.length:Int))then K0 (-1)else K0 0)=K0 (cmpL cmpT (xs.drop i) (ys.drop i)):=by
 intro m
 induction m with
 |zero=>intro i _ _ hm;omega
 | succ m ih =>
  intro i h1 h2 hm
  show z65.b2 ⟨gCmp k⟩ n xs ys xs (xs.length:Int) (i:Int) (λy0=>z65.l2 ⟨gCmp k⟩ n m xs ys xs (xs.length:Int) y0 K0 _) K0 _=_
  unfold z65.b2
  by_cases hxi:i<xs.length
  ·obtain⟨x,x1,x2⟩:=get_lt hxi
   rw[lt_nat hxi,cT,drop_get x1,ix_get x1,bS]
   by_cases hyi:i<ys.length
   ·obtain⟨y,y1,_⟩:=get_lt hyi
    rw[dF (by omega),cF,ix_get y1,bS,Tm.eta,Tm.eta,drop_get y1,cmpL_cc]
    show Option.bind (gCmp k x y) _=_
    unfold gCmp
    rw[if_pos (hx x x2),bS]
    by_cases e:cmpT x y=0
    ·rw[dT e,Bool.not_true,cF,wr_one (by omega),if_pos e]
     exact ih (i+1) hxi hyi (by omega)
    ·rw[dF e,Bool.not_false,cT,if_neg e]
   ·obtain rfl:i=ys.length:=by omega
    rw[dT (by omega),cT,drop_nat,cmpL_cn]
  ·obtain rfl:i=xs.length:=by omega
   rw[nlt_nat hxi,cF,drop_nat]
   by_cases hyi:xs.length<ys.length
   ·obtain⟨y,y1,_⟩:=get_lt hyi
    rw[lt_nat hyi,cT,drop_get y1,cmpL_nc]
   ·have e:xs.length=ys.length:=by omega
    rw[nlt_nat hyi,cF,e,drop_nat,cmpL_nn]
end
theorem cmpN_spec {R:Type} {a b:Tm} {v:Int} (K:Int->Option R) (z:Option R) (hz:z=K v):(bif !decide (a.op=b.op)then (bif decide (a.op<b.op)then K (-1)else K 1)else bif !sEq a.name b.name then (bif Abs.strLt a.name b.name then K (-1)else K 1)else bif !decide (a.sort=b.sort)then (bif decide (a.sort<b.sort)then K (-1)else K 1)else z)=K (cmpN (λ_ _=>v) a b):=by
 subst hz
 unfold cmpN cmpI cmpB
 by_cases h1:a.op=b.op
 ·rw [decide_eq_true h1, if_pos h1, if_pos rfl, Bool.not_true, cond_false]
  by_cases h2:a.name=b.name
  ·rw[show sEq a.name b.name=true from dT h2,if_pos h2,if_pos rfl,Bool.not_true,cF]
   by_cases h3:a.sort=b.sort
   ·rw[dT h3,if_pos h3,if_pos rfl,Bool.not_true,cF]
   ·rw[dF h3,if_neg h3,Bool.not_false,cT]
    by_cases h4:a.sort<b.sort
    ·rw[dT h4,if_pos h4,cT,if_neg (by decide)]
    ·rw[dF h4,if_neg h4,cF,if_neg (by decide)]
  ·rw[show sEq a.name b.name=false from dF h2,if_neg h2,Bool.not_false,cT]
   cases Abs.strLt a.name b.name<;>rfl
 ·rw[dF h1,if_neg h1,Bool.not_false,cT]
  by_cases h4:a.op<b.op
  ·rw[dT h4,if_pos h4,cT,if_neg (by decide)]
  ·rw[dF h4,if_neg h4,cF,if_neg (by decide)]
theorem z44 :∀k,k<=4294967296->EO (z43.ent (gCmp k))
 | 0, _ => fun R xs H K r h => by
  simp only[z43.ent]at h
  split at h
  ·simp[gCmp]at h
  ·cases h
 | k + 1, hk => z43.ok            (G := ⟨gCmp k⟩) ⟨z44               k (by omega), trivial⟩ fun a b r h => by
  unfold gCmp at h
  split at h
  ·rename_i hs
   cases h
   refine⟨a.args.length+1,?_⟩
   unfold z43.main
   have ht:=total_args a
   have hl:=tmT_len a.args
   have e:=scmp_loop (a.args.length+1) k a.op a.sort b.op b.sort a.name b.name a.args b.args (λx hx=>by have:=arg_total hx;omega) (by omega) (λr0=>some (AT.one (.i r0),([]:List Ob))) (a.args.length+1) 0 (by omega) (by omega) (by omega)
   simp only[List.drop_zero]at e
   refine(cmpN_spec (a:=a) (b:=b) (v:=cmpL cmpT a.args b.args) (λr0=>some (AT.one (.i r0),([]:List Ob))) _ e).trans ?_
   rw[cmpT_eq]
   rfl
  ·cases h
theorem cmpN_impl {a b:Tm} {v:Int}:(if (if cmpI a.op b.op≠0 then cmpI a.op b.op else if cmpB a.name b.name≠0 then cmpB a.name b.name else cmpI a.sort b.sort)=0 then v else (if cmpI a.op b.op≠0 then cmpI a.op b.op else if cmpB a.name b.name≠0 then cmpB a.name b.name else cmpI a.sort b.sort))=cmpN (λ_ _=>v) a b:=by
 unfold cmpN
 by_cases h1:cmpI a.op b.op=0
 ·by_cases h2:cmpB a.name b.name=0
  ·simp[h1,h2]
  ·simp[h1,h2]
 ·simp[h1]
abbrev gOr :List Int->Option Int:=λl=>match l with
 |[a,b,c]=>some (if a≠0 then a else if b≠0 then b else c)
 |_=>none
theorem cmpOr_ok :EO (z02.ent gOr):=z02.ok (G:=⟨()⟩) trivial λ(l:List Int) r h=>by
 unfold gOr at h
 split at h
 ·rename_i a b c
  cases h
  refine⟨4,?_⟩
  have i0:ix [a,b,c] 0=some a:=rfl
  have i1:ix [a,b,c] 1=some b:=rfl
  have i2:ix [a,b,c] 2=some c:=rfl
  have w1:wr (0+1)=1:=by decide
  have w2:wr (1+1)=2:=by decide
  have w3:wr (2+1)=3:=by decide
  have d0:decide ((0:Int)<3)=true:=rfl
  have d1:decide ((1:Int)<3)=true:=rfl
  have d2:decide ((2:Int)<3)=true:=rfl
  have d3:decide ((3:Int)<3)=false:=rfl
  have step:∀{R:Type} (m:Nat) (i:Int) (K:Int->Option R) (k1:Option R),z02.l3 ⟨()⟩ 4 (m+1) 0 [a,b,c] 3 i K k1=z02.b3 ⟨()⟩ 4 0 [a,b,c] 3 i (λy0=>z02.l3 ⟨()⟩ 4 m 0 [a,b,c] 3 y0 K k1) K k1:=λm i K k1=>rfl
  unfold z02.main
  show z02.l3 ⟨()⟩ 4 (3+1) 0 [a,b,c] 3 0 _ _=_
  rw[step]
  unfold z02.b3
  rw[d0,cT,i0,bS]
  by_cases ha:a=0
  ·rw [decide_eq_true ha, Bool.not_true, cond_false, w1, if_neg (fun h => h ha)]
   show z02.l3 ⟨()⟩ 4 (2+1) 0 [a,b,c] 3 1 _ _=_
   rw[step]
   unfold z02.b3
   rw[d1,cT,i1,bS]
   by_cases hb:b=0
   ·rw[dT hb,Bool.not_true,cF,w2,if_neg (λh=>h hb)]
    show z02.l3 ⟨()⟩ 4 (1+1) 0 [a,b,c] 3 2 _ _=_
    rw[step]
    unfold z02.b3
    rw[d2,cT,i2,bS]
    by_cases hc:c=0
    ·rw[dT hc,Bool.not_true,cF,w3]
     show z02.l3 ⟨()⟩ 4 (0+1) 0 [a,b,c] 3 3 _ _=_
     rw[step]
     unfold z02.b3
     rw[d3,cF,hc]
    ·rw[dF hc,Bool.not_false,cT]
   ·rw[dF hb,Bool.not_false,cT,if_pos hb]
  ·rw[dF ha,Bool.not_false,cT,if_pos ha]
 ·cases h
theorem isNaN_ok :EO (z05.ent λ_=>some false):=z05.ok (G:=⟨()⟩) trivial λx r h=>⟨1,by
 cases h
 unfold z05.main
 rw[dT rfl]
 rfl⟩
theorem cmpCompare_ok :EO (z01.ent λa b=>some (cmpI a b)):=z01.ok (G:=⟨λ_=>some false⟩) ⟨isNaN_ok,trivial⟩ λa b r h=>⟨1,by
 cases h
 unfold z01.main
 simp only[bS,cF]
 unfold cmpI
 by_cases h:a=b
 ·subst h
  rw[dF (by omega),cF,cF,if_pos rfl]
 ·rw[if_neg h]
  by_cases h2:a<b
  ·rw[dT h2,cT,if_pos h2]
  ·rw[dF h2,cF,dT (by omega),cT,if_neg h2]⟩
abbrev gCmpI (k:Nat):z0a.Gs:={z01:=λa b=>some (cmpI a b),strings_Compare:=λa b=>some (cmpB a b),z02:=gOr,z65:=gCmpL k}
theorem compareFunc_ok (k:Nat) (hk:k<4294967296) (e:EO (z0a.ent (gCmp k))):EO (z65.ent (gCmpL (k+1))):=z65.ok (G:=⟨gCmp k⟩) ⟨e,trivial⟩ λ(xs:List Tm) (ys:List Tm) r h=>by
 unfold gCmpL at h
 split at h
 ·rename_i hs
  cases h
  have hl:=tmT_len xs
  refine⟨xs.length+1,?_⟩
  unfold z65.main
  have e:=icmp_loop (xs.length+1) k xs ys (λx hx=>by have:=tmT_mem hx;omega) (by omega) (λr0=>some (AT.one (.i r0),([]:List Ob))) (xs.length+1) 0 (by omega) (by omega) (by omega)
  simp only[List.drop_zero]at e
  exact e
 ·cases h
theorem z0b :∀k,k<=4294967296->EO (z0a.ent (gCmp k))
 | 0, _ => fun R xs H K r h => by
  simp only[z0a.ent]at h
  split at h
  ·simp[gCmp]at h
  ·cases h
 | k + 1, hk => z0a.ok            (G := gCmpI (k + 1)) ⟨cmpCompare_ok, z6o               , cmpOr_ok, compareFunc_ok k (by omega) (z0b               k (by omega)), trivial⟩ fun a b r h => by
  unfold gCmp at h
  split at h
  ·rename_i hs
   cases h
   have ht:=total_args a
   refine⟨1,?_⟩
   unfold z0a.main
   show (bif !decide ((if cmpI a.op b.op≠0 then cmpI a.op b.op else if cmpB a.name b.name≠0 then cmpB a.name b.name else cmpI a.sort b.sort)=0)then some (AT.one (.i (if cmpI a.op b.op≠0 then cmpI a.op b.op else if cmpB a.name b.name≠0 then cmpB a.name b.name else cmpI a.sort b.sort)),([]:List Ob))else Option.bind (gCmpL (k+1) a.args b.args) λr9=>some (AT.one (.i r9),[]))=_
   have e:=cmpN_impl (a:=a) (b:=b) (v:=cmpL cmpT a.args b.args)
   have e2:cmpT a b=cmpN (λ_ _=>cmpL cmpT a.args b.args) a b:=cmpT_eq a b
   rw[e2,<-e]
   generalize (if cmpI a.op b.op≠0 then cmpI a.op b.op else if cmpB a.name b.name≠0 then cmpB a.name b.name else cmpI a.sort b.sort)=z
   unfold gCmpL
   rw[if_pos (by omega),bS]
   by_cases hz:z=0
   ·rw[dT hz,Bool.not_true,cF,if_pos hz]
   ·rw[dF hz,Bool.not_false,cT,if_neg hz]
  ·cases h
def szK :Nat->Tm->Nat
 |0,_=>0
 |k+1,t=>1+wS (szK k) t.args
def tsz (t:Tm):Nat:=szK (t.total+1) t
theorem wS_congr {A:Type} {f g:A->Nat}:∀{l:List A},(∀x∈l,f x=g x)->wS f l=wS g l
 |[],_=>rfl
 |x::l,h=>by rw[wS_cons,wS_cons,h x (by simp),wS_congr λy hy=>h y (by simp[hy])]
theorem szK_eq :∀(k j:Nat) (t:Tm),t.total<k->t.total<j->szK k t=szK j t
 |0,_,_,h,_=>absurd h (Nat.not_lt_zero _)
 |_+1,0,_,_,h=>absurd h (Nat.not_lt_zero _)
 |k+1,j+1,t,h1,h2=>congrArg (1+·) (wS_congr λx hx=>szK_eq k j x (by have:=arg_total hx;omega) (by have:=arg_total hx;omega))
theorem tsz_eq (t:Tm):tsz t=1+wS tsz t.args:=congrArg (1+·) (wS_congr λx hx=>szK_eq _ _ x (arg_total hx) (Nat.lt_succ_self _))
def mxS (f:Tm->Nat) (l:List Tm):Nat:=l.foldr (λx n=>max (f x) n) 0
def dpK :Nat->Tm->Nat
 |0,_=>0
 |k+1,t=>mxS (dpK k) t.args+1
def tdp (t:Tm):Nat:=dpK (t.total+1) t
theorem mxS_cons {f:Tm->Nat} {x:Tm} {l:List Tm}:mxS f (x::l)=max (f x) (mxS f l):=rfl
theorem mxS_congr {f g:Tm->Nat}:∀{l:List Tm},(∀x∈l,f x=g x)->mxS f l=mxS g l
 |[],_=>rfl
 |x::l,h=>by rw[mxS_cons,mxS_cons,h x (by simp),mxS_congr λy hy=>h y (by simp[hy])]
theorem dpK_eq :∀(k j:Nat) (t:Tm),t.total<k->t.total<j->dpK k t=dpK j t
 |0,_,_,h,_=>absurd h (Nat.not_lt_zero _)
 |_+1,0,_,_,h=>absurd h (Nat.not_lt_zero _)
 |k+1,j+1,t,h1,h2=>congrArg (·+1) (mxS_congr λx hx=>dpK_eq k j x (by have:=arg_total hx;omega) (by have:=arg_total hx;omega))
theorem tdp_eq (t:Tm):tdp t=mxS tdp t.args+1:=congrArg (·+1) (mxS_congr λx hx=>dpK_eq _ _ x (arg_total hx) (Nat.lt_succ_self _))
theorem tsz_le :∀(k:Nat) (t:Tm),t.total<k->tsz t<=t.total+1
 |0,_,h=>absurd h (Nat.not_lt_zero _)
 | k + 1, t, h => by
  rw[tsz_eq]
  have ht:=total_args t
  have:∀l:List Tm,(∀x∈l,tsz x<=x.total+1)->wS tsz l<=tmTotals l:=λl=>by
   induction l with
   |nil=>intro _;exact Nat.le_refl _
   | cons x l ih =>
    intro hl
    rw[wS_cons,tmT_cons]
    have:=hl x (by simp)
    have:=ih λy hy=>hl y (by simp[hy])
    omega
  have:=this t.args λx hx=>tsz_le k x (by have:=arg_total hx;omega)
  omega
theorem mxS_le {f:Tm->Nat} {n:Nat}:∀{l:List Tm},(∀x∈l,f x<=n)->mxS f l<=n
 |[],_=>Nat.zero_le _
 |x::l,h=>by rw[mxS_cons];exact Nat.max_le.2 ⟨h x (by simp),mxS_le λy hy=>h y (by simp[hy])⟩
theorem tdp_le :∀(k:Nat) (t:Tm),t.total<k->tdp t<=t.total+1
 |0,_,h=>absurd h (Nat.not_lt_zero _)
 | k + 1, t, h => by
  rw[tdp_eq]
  have:mxS tdp t.args<=t.total:=mxS_le λx hx=>by have:=arg_total hx;have:=tdp_le k x (by omega);omega
  omega
abbrev gSz (k:Nat):Tm->Option Int:=λt=>if t.total<k then some (tsz t:Int)else none
abbrev gDp (k:Nat):Tm->Option Int:=λt=>if t.total<k then some (tdp t:Int)else none
abbrev gLf (k:Nat):Tm->Int->Option Int:=λt left=>if t.total<k/\0<=left/\left<=60 then some (if (tsz t:Int)<=left then left-tsz t else -1)else none
section
variable {R : Type}
theorem isz_loop (n k:Nat) (xs:List Tm) (hx:∀x∈xs,x.total<k) (k0:Int->Option R):∀m (i s:Nat),i<=xs.length->s+wS tsz (xs.drop i)<=8589934592->xs.length<4294967296->xs.length-i<m->
  z0p.l3 ⟨gSz k⟩ n m xs (xs.length:Int) (s:Int) (i:Int) k0=k0 ((s+wS tsz (xs.drop i):Nat):Int):=by
 intro m
 induction m with
 |zero=>intro i s _ _ _ hm;omega
 | succ m ih =>
  intro i s h1 h2 h3 hm
  show z0p.b3 ⟨gSz k⟩ n xs (xs.length:Int) (s:Int) (i:Int) (λy0 y1=>z0p.l3 ⟨gSz k⟩ n m xs (xs.length:Int) y0 y1 k0) k0=_
  unfold z0p.b3
  by_cases hi:i<xs.length
  ·obtain⟨x,x1,x2⟩:=get_lt hi
   rw[drop_get x1,wS_cons]at h2 ⊢
   rw[lt_nat hi,cT,ix_get x1,bS,Tm.eta]
   show Option.bind (gSz k x) _=_
   unfold gSz
   rw[if_pos (hx x x2),bS,wr_one (by omega),wr_in (x:=(s:Int)+(tsz x:Int)) (by omega)]
   refine(ih (i+1) (s+tsz x) hi (by omega) h3 (by omega)).trans ?_
   rw[Nat.add_assoc]
  ·obtain rfl:i=xs.length:=by omega
   rw[nlt_nat hi,cF,drop_nat]
   rfl
theorem idp_loop (n k:Nat) (xs:List Tm) (hx:∀x∈xs,x.total<k) (k0:Int->Option R):∀m (i s:Nat),i<=xs.length->xs.length<4294967296->xs.length-i<m->
  z0c.l3 ⟨gDp k⟩ n m xs (xs.length:Int) (s:Int) (i:Int) k0=k0 ((max s (mxS tdp (xs.drop i)):Nat):Int):=by
 intro m
 induction m with
 |zero=>intro i s _ _ hm;omega
 | succ m ih =>
  intro i s h1 h3 hm
  show z0c.b3 ⟨gDp k⟩ n xs (xs.length:Int) (s:Int) (i:Int) (λy0 y1=>z0c.l3 ⟨gDp k⟩ n m xs (xs.length:Int) y0 y1 k0) k0=_
  unfold z0c.b3
  by_cases hi:i<xs.length
  ·obtain⟨x,x1,x2⟩:=get_lt hi
   rw[drop_get x1,mxS_cons,lt_nat hi,cT,ix_get x1,bS,Tm.eta]
   show Option.bind (gDp k x) _=_
   unfold gDp
   have e:imax (s:Int) (tdp x:Int)=((max s (tdp x):Nat):Int):=by unfold imax;split<;>omega
   rw[if_pos (hx x x2),bS,wr_one (by omega),e]
   refine(ih (i+1) (max s (tdp x)) hi h3 (by omega)).trans ?_
   rw[Nat.max_assoc]
  ·obtain rfl:i=xs.length:=by omega
   rw[nlt_nat hi,cF,drop_nat,show mxS tdp []=0 from rfl,Nat.max_zero]
theorem sdp_loop (n k:Nat) (a1 a3:Int) (a2:ByteArray) (xs:List Tm) (hx:∀x∈xs,x.total<k) (k0:Int->Option R):∀m (i s:Nat),i<=xs.length->xs.length<4294967296->xs.length-i<m->
  z47.l3 ⟨gDp k,λa b=>some (imax a b)⟩ n m a1 a2 a3 xs (s:Int) (i:Int) k0=k0 ((max s (mxS tdp (xs.drop i)):Nat):Int):=by
 intro m
 induction m with
 |zero=>intro i s _ _ hm;omega
 | succ m ih =>
  intro i s h1 h3 hm
  show z47.b3 ⟨gDp k,λa b=>some (imax a b)⟩ n a1 a2 a3 xs (s:Int) (i:Int) (λy0 y1=>z47.l3 ⟨gDp k,λa b=>some (imax a b)⟩ n m a1 a2 a3 xs y0 y1 k0) k0=_
  unfold z47.b3
  by_cases hi:i<xs.length
  ·obtain⟨x,x1,x2⟩:=get_lt hi
   rw[drop_get x1,mxS_cons,lt_nat hi,cT,ix_get x1,bS,Tm.eta]
   show Option.bind (gDp k x) _=_
   unfold gDp
   have e:imax (s:Int) (tdp x:Int)=((max s (tdp x):Nat):Int):=by unfold imax;split<;>omega
   rw[if_pos (hx x x2),bS,bS,wr_one (by omega),e]
   refine(ih (i+1) (max s (tdp x)) hi h3 (by omega)).trans ?_
   rw[Nat.max_assoc]
  ·obtain rfl:i=xs.length:=by omega
   rw[nlt_nat hi,cF,drop_nat,show mxS tdp []=0 from rfl,Nat.max_zero]
theorem slf_loop (n k:Nat) (a1 a3:Int) (a2:ByteArray) (xs:List Tm) (hx:∀x∈xs,x.total<k) (k0:Int->Option R):∀m (i:Nat) (L:Int),i<=xs.length->xs.length<4294967296-> -1<=L->L<=60->xs.length-i<m->
  z5q.l3 ⟨gLf k⟩ n m a1 a2 a3 xs L (i:Int) k0=k0 (if (wS tsz (xs.drop i):Int)<=L then L-(wS tsz (xs.drop i):Int)else -1):=by
 intro m
 induction m with
 |zero=>intro i L _ _ _ _ hm;omega
 | succ m ih =>
  intro i L h1 h3 l0 l1 hm
  show z5q.b3 ⟨gLf k⟩ n a1 a2 a3 xs L (i:Int) (λy0 y1=>z5q.l3 ⟨gLf k⟩ n m a1 a2 a3 xs y0 y1 k0) k0=_
  unfold z5q.b3
  by_cases hi:i<xs.length
  ·obtain⟨x,x1,x2⟩:=get_lt hi
   have hs:1<=tsz x:=by rw[tsz_eq];omega
   rw[drop_get x1,wS_cons,lt_nat hi,cT]
   by_cases hL:0<=L
   ·rw[dT hL,cT,ix_get x1,bS,Tm.eta]
    show Option.bind (gLf k x L) _=_
    unfold gLf
    rw[if_pos ⟨hx x x2,hL,l1⟩,bS,wr_one (by omega)]
    by_cases hc:(tsz x:Int)<=L
    ·rw[if_pos hc]
     refine(ih (i+1) _ hi h3 (by omega) (by omega) (by omega)).trans ?_
     congr 1
     by_cases hd:(wS tsz (xs.drop (i+1)):Int)<=L-(tsz x:Int)
     ·rw[if_pos hd,if_pos (by omega)];omega
     ·rw[if_neg hd,if_neg (by omega)]
    ·rw[if_neg hc]
     refine(ih (i+1) _ hi h3 (by omega) (by omega) (by omega)).trans ?_
     rw[if_neg (by omega),if_neg (by omega)]
   ·rw[dF hL,cF,if_neg (by omega)]
    congr 1
    omega
  ·obtain rfl:i=xs.length:=by omega
   rw[nlt_nat hi,cF,drop_nat,show wS tsz []=0 from rfl]
   congr 1
   split<;>omega
end
theorem z0q :∀k,k<=4294967296->EO (z0p.ent (gSz k))
 | 0, _ => fun R xs H K r h => by
  simp only[z0p.ent]at h
  split at h
  ·simp[gSz]at h
  ·cases h
 | k + 1, hk => z0p.ok          (G := ⟨gSz k⟩) ⟨z0q             k (by omega), trivial⟩ fun t r h => by
  unfold gSz at h
  split at h
  ·rename_i hs
   cases h
   have ht:=total_args t
   have hl:=tmT_len t.args
   have hz:=tsz_le _ t (Nat.lt_succ_self _)
   rw[tsz_eq]at hz
   refine⟨t.args.length+1,?_⟩
   unfold z0p.main
   have e:=isz_loop (t.args.length+1) k t.args (λx hx=>by have:=arg_total hx;omega) (λr0=>some (AT.one (.i r0),([]:List Ob))) (t.args.length+1) 0 1 (by omega) (by simp;omega) (by omega) (by omega)
   simp only[List.drop_zero]at e
   rw[tsz_eq]
   exact e
  ·cases h
theorem z0d :∀k,k<=4294967296->EO (z0c.ent (gDp k))
 | 0, _ => fun R xs H K r h => by
  simp only[z0c.ent]at h
  split at h
  ·simp[gDp]at h
  ·cases h
 | k + 1, hk => z0c.ok           (G := ⟨gDp k⟩) ⟨z0d              k (by omega), trivial⟩ fun t r h => by
  unfold gDp at h
  split at h
  ·rename_i hs
   cases h
   have ht:=total_args t
   have hl:=tmT_len t.args
   have hz:=tdp_le _ t (Nat.lt_succ_self _)
   refine⟨t.args.length+1,?_⟩
   unfold z0c.main
   have e:=idp_loop (t.args.length+1) k t.args (λx hx=>by have:=arg_total hx;omega) (λr0=>some (AT.one (.i (wr (r0+1))),([]:List Ob))) (t.args.length+1) 0 0 (by omega) (by omega) (by omega)
   simp only[List.drop_zero,Nat.zero_max]at e
   rw[tdp_eq]at hz ⊢
   refine e.trans ?_
   rw[wr_in (x:=((mxS tdp t.args:Nat):Int)+1) (by omega)]
   rfl
  ·cases h
theorem l1Max_ok :EO (z52.ent λa b=>some (imax a b)):=z52.ok (G:=⟨()⟩) trivial λa b r h=>⟨1,by
 cases h
 unfold z52.main imax
 by_cases h:b<a
 ·rw[dT h,cT,if_neg (by omega)]
 ·rw[dF h,cF]
  by_cases h2:a<b
  ·rw[if_pos h2]
  ·obtain rfl:a=b:=by omega
   rw[if_neg h2]⟩
theorem z48 :∀k,k<=4294967296->EO (z47.ent (gDp k))
 | 0, _ => fun R xs H K r h => by
  simp only[z47.ent]at h
  split at h
  ·simp[gDp]at h
  ·cases h
 | k + 1, hk => z47.ok           (G := ⟨gDp k, fun a b => some (imax a b)⟩) ⟨z48              k (by omega), l1Max_ok, trivial⟩ fun t r h => by
  unfold gDp at h
  split at h
  ·rename_i hs
   cases h
   have ht:=total_args t
   have hl:=tmT_len t.args
   have hz:=tdp_le _ t (Nat.lt_succ_self _)
   refine⟨t.args.length+1,?_⟩
   unfold z47.main
   have e:=sdp_loop (t.args.length+1) k t.op t.sort t.name t.args (λx hx=>by have:=arg_total hx;omega) (λr0=>some (AT.one (.i (wr (r0+1))),([]:List Ob))) (t.args.length+1) 0 0 (by omega) (by omega) (by omega)
   simp only[List.drop_zero,Nat.zero_max]at e
   rw[tdp_eq]at hz ⊢
   refine e.trans ?_
   rw[wr_in (x:=((mxS tdp t.args:Nat):Int)+1) (by omega)]
   rfl
  ·cases h
theorem l6Left_ok :∀k,k<=4294967296->EO (z5q.ent (gLf k))
 | 0, _ => fun R xs H K r h => by
  simp only[z5q.ent]at h
  split at h
  ·simp[gLf]at h
  ·cases h
 | k + 1, hk => z5q.ok      (G := ⟨gLf k⟩) ⟨l6Left_ok k (by omega), trivial⟩ fun t left r h => by
  unfold gLf at h
  split at h
  ·rename_i hs
   cases h
   obtain⟨hs,l0,l1⟩:=hs
   have ht:=total_args t
   have hl:=tmT_len t.args
   refine⟨t.args.length+1,?_⟩
   unfold z5q.main
   have e:=slf_loop (t.args.length+1) k t.op t.sort t.name t.args (λx hx=>by have:=arg_total hx;omega) (λr0=>some (AT.one (.i r0),([]:List Ob))) (t.args.length+1) 0 (left-1) (by omega) (by omega) (by omega) (by omega) (by omega)
   simp only[List.drop_zero]at e
   rw[wr_in (x:=left-1) (by omega)]
   refine e.trans ?_
   have e2:(if (wS tsz t.args:Int)<=left-1 then left-1-(wS tsz t.args:Int)else -1)=(if (tsz t:Int)<=left then left-(tsz t:Int)else -1):=by
    rw[tsz_eq]
    split<;>split<;>omega
   rw[e2]
  ·cases h
abbrev gSm (k:Nat):Tm->Option Bool:=λt=>if t.total<k then some (decide (tsz t<=60)&&decide (tdp t<=20))else none
theorem l6Small_ok (k:Nat) (hk:k<=4294967296):EO (z5v.ent (gSm k)):=z5v.ok (G:=⟨gLf k,gDp k⟩) ⟨l6Left_ok k hk,z48 k hk,trivial⟩ λt r h=>by
 unfold gSm at h
 split at h
 ·rename_i hs
  cases h
  refine⟨1,?_⟩
  unfold z5v.main
  rw[Tm.eta]
  show Option.bind (gLf k t 60) _=_
  unfold gLf
  rw[if_pos ⟨hs,by decide,by decide⟩,bS]
  by_cases hc:tsz t<=60
  ·rw[if_pos (by omega),dT (by omega),cT]
   show Option.bind (gDp k t) _=_
   unfold gDp
   rw[if_pos hs,bS,dT hc,Bool.true_and]
   rw[show decide ((tdp t:Int)<=20)=decide (tdp t<=20)from decide_eq_decide.2 (by omega)]
  ·rw[if_neg (by omega),dF (by omega),cF,dF hc,Bool.false_and]
 ·cases h
abbrev gSame (k:Nat):Tm->Tm->Option Bool:=λa b=>if a.total<k then some (decide (cmpT a b=0))else none
theorem l5Same_ok (k:Nat) (hk:k<=4294967296):EO (z5l.ent (gSame k)):=z5l.ok (G:=⟨gCmp k⟩) ⟨z44 k hk,trivial⟩ λa b r h=>by
 unfold gSame at h
 split at h
 ·rename_i hs
  cases h
  refine⟨1,?_⟩
  unfold z5l.main
  rw[Tm.eta,Tm.eta]
  show Option.bind (gCmp k a b) _=_
  unfold gCmp
  rw[if_pos hs,bS]
 ·cases h
open Classical
open Classical
section
variable {R : Type} {K : Nat} {g : List Tm → Int → Int → Int → Option (List Tm)} {h : List Tm} (hK : ∀ x ∈ h, x.total < K) (hl : h.length ≤ 2147483648)
include hK hl
end
open Classical
section
variable {R : Type}
end
section
variable {R : Type}
end
end Go.Proofs.YtkinkfieackmdaaGreat.Den

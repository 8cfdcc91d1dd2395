/-
  Texts that the claim rests on, merged: Below, Lib0, Tm1, Tm2, Tm3, Srt1, Srt2, Srt3.
-/
import Derived.Test.YtfdkldmkbibknaaGreatZRowPT4
import Derived.Test.YtfdkldmkbibknaaGreatZRowPT11
import Derived.Test.YtfdkldmkbibknaaGreatZRowPT12
import Derived.Test.YtfdkldmkbibknaaGreatZRowPT13
import Derived.Test.YtfdkldmkbibknaaGreatZRowPT14
import Derived.Test.YtfdkldmkbibknaaGreatZRowPT15
import Derived.Test.YtfdkldmkbibknaaGreatZRowPT16
import Derived.Test.YtfdkldmkbibknaaGreatZRowPT17

namespace Go.Proofs.YtfdkldmkbibknaaGreat.Abs
open Go.RowKit
theorem HR.below {ι:List Inf} {I:Nat->Prop} {w w':World} {h:Heap} (hh:HR ι I w h) (hI:∀b,I b->b<w.heap.size) (hb:Below w.heap.size w w'):HR ι I w' h:=
 have hk:Keeps I I w w':=⟨λ_ h=>h,λb o hb'=>hb.cell (p:=⟨b,o,none⟩) (hI b hb')⟩
 { len := hh.len
   obj := fun id o inf h1 h2 => by
     have ho:=hh.obj id o inf h1 h2
     have hlt:inf.block<w.heap.size:=by
       cases o with
       | row s es =>
         obtain⟨cur,t,e,_⟩:=ho
         rcases Nat.lt_or_ge inf.block w.heap.size with h|h
         · exact h
         · rw[Array.getElem?_eq_none h]at e;cases e
       | map kvs =>
         obtain⟨cur,t,e,_⟩:=ho
         rcases Nat.lt_or_ge inf.block w.heap.size with h|h
         · exact h
         · rw[Array.getElem?_eq_none h]at e;cases e
     exact ho.keep (Grows.refl _) hk (hb.block _ hlt)
   off:=hh.off
   inj:=hh.inj}
theorem fn_of_below {P:Program} {f:FuncId} {xs:List AV} {h:Heap} {u:Value} (hc:callable P f) (hu:okLit u)
  (hh:∀(w:World) (I:Nat->Prop) (ι:List Inf) (cs:Array Value),(∀b,I b->b<w.heap.size)->ARs ι I w xs cs->Calls P f cs w λe w'=>e= .returned u/\Below w.heap.size w w'):Fn P f xs h (λr h'=>r= .one (.lit u)/\h'=h):=
 ⟨hc, fun w I ι cs hH hI hA => (hh w I ι cs hI hA).mono fun _ _ ⟨e1, hb⟩ => ⟨_, _, ι, I, u, ⟨rfl, rfl⟩, e1,
  { res := .one (.lit hu)
    heap:=hH.below hI hb
    imm:=λb hb'=>Nat.lt_of_lt_of_le (hI b hb') hb.size
    immlo:=λ_ hb'=>.inl hb'
    pre:=Grows.refl _
    os:=hb.os
    tape:=hb.tape
    output:=hb.output
    grown:=hb.size
    frame:=λb hlt _=>hb.block b hlt
    mine:=λid o inf h1 h2=>.inl ⟨id,o,inf,h1,h2,rfl⟩}⟩⟩
end Go.Proofs.YtfdkldmkbibknaaGreat.Abs
namespace Go.Proofs.YtfdkldmkbibknaaGreat.Den
open Go.RowKit
open Abs (V AV VR)
theorem fr_s {c:C} {v:V} {x:ByteArray} (h:FR c v) (e:c= .s x):v= .lit (.string x):=by
 cases h with
 |s=>cases e;rfl
 |i=>cases e
 |k=>cases e
 |b=>cases e
 |l=>cases e
theorem CR.strs {ρ:Rho} {H:List Ob} {xs:List ByteArray} {v:V} (h:CR ρ H (.l .s xs) v):∃es:List (List V),v= .imm 1 es/\es.length=xs.length/\∀(m:Nat) (h1:m<xs.length) (h2:m<es.length) (h3:0<es[m].length),es[m][0]= .lit (.string xs[m]):=by
 cases h with
 | fl h =>
  cases h with
  | l hp hl hs hr =>
   refine⟨_,rfl,hl,λm h1 h2 h3=> ?_⟩
   have:=hr m h1 h2 0 (by show 0<[C.s _].length;simp) h3
   exact fr_s this rfl
theorem CR.str_ {ρ:Rho} {H:List Ob} {x:ByteArray} {v:V} (h:CR ρ H (.s x) v):v= .lit (.string x):=by
 cases h with
 |fl h=>cases h;rfl
theorem cfn_of_below {P:Program} {f:FuncId} {xs:List AT} {u:Value} {c:C} (hcl:Abs.callable P f) (hu:Abs.okLit u) (hcu:FR c (.lit u))
  (hh:∀(ρ:Rho) (avs:List AV),ATRs ρ [] xs avs->∀(w:World) (I:Nat->Prop) (ι:List Abs.Inf) (cs:Array Value),(∀b,I b->b<w.heap.size)->Abs.ARs ι I w avs cs->Calls P f cs w λe w'=>e= .returned u/\Below w.heap.size w w'):CFn P f xs [] (.one c) []:=λρ h avs hH hA=>
 (Abs.fn_of_below hcl hu (hh ρ avs hA)).mono fun r h' ⟨e1, e2⟩ => by
  subst e1;subst e2
  exact⟨ρ,.one (.fl hcu),hH,Fr.refl ρ [] _⟩
end Go.Proofs.YtfdkldmkbibknaaGreat.Den
namespace Go.Proofs.YtfdkldmkbibknaaGreat.Den
open Go.RowKit
theorem drop_get {α:Type} {xs:List α} {i:Nat} {x:α} (h:xs[i]? =some x):xs.drop i=x::xs.drop (i+1):=by
 obtain⟨hlt,rfl⟩:=gI.1 h
 exact List.drop_eq_getElem_cons hlt
theorem take_get {α:Type} {xs:List α} {i:Nat} {x:α} (h:xs[i]? =some x):xs.take (i+1)=xs.take i++[x]:=by
 obtain⟨hlt,rfl⟩:=gI.1 h
 exact List.take_succ_eq_append_getElem hlt
theorem lim_le {α:Type} {xs:List α} (h:xs.length<=4294967296):lim xs=some xs:=by
 unfold lim
 rw[Nat.ble_eq_true_of_le h];rfl
def cmpL (f:Tm->Tm->Int):List Tm->List Tm->Int
 |[],[]=>0
 |[],_::_=> -1
 |_::_,[]=>1
 |x::xs,y::ys=>if f x y=0 then cmpL f xs ys else f x y
def cmpI (a b:Int):Int:=if a=b then 0 else if a<b then -1 else 1
def cmpB (a b:ByteArray):Int:=if a=b then 0 else if Abs.strLt a b then -1 else 1
def cmpN (f:List Tm->List Tm->Int) (a b:Tm):Int:=if cmpI a.op b.op=0 then (if cmpB a.name b.name=0 then (if cmpI a.sort b.sort=0 then f a.args b.args else cmpI a.sort b.sort)else cmpB a.name b.name)else cmpI a.op b.op
def cmpK :Nat->Tm->Tm->Int
 |0,_,_=>0
 |k+1,a,b=>cmpN (cmpL (cmpK k)) a b
def cmpT (a b:Tm):Int:=cmpK (a.total+1) a b
theorem cmpL_congr {f g:Tm->Tm->Int}:∀{xs ys:List Tm},(∀x∈xs,∀y,f x y=g x y)->cmpL f xs ys=cmpL g xs ys
 |[],[],_=>rfl
 |[],_::_,_=>rfl
 |_::_,[],_=>rfl
 | x :: xs, y :: ys, h => by
  unfold cmpL
  rw[h x (by simp) y,cmpL_congr λz hz=>h z (by simp[hz])]
theorem cmpN_congr {f g:List Tm->List Tm->Int} {a b:Tm} (h:f a.args b.args=g a.args b.args):cmpN f a b=cmpN g a b:=by unfold cmpN;rw[h]
theorem arg_total {x t:Tm} (h:x∈t.args):x.total<t.total:=by
 have:=tmT_mem h
 have:=total_args t
 omega
theorem cmpK_eq :∀(k j:Nat) (a b:Tm),a.total<k->a.total<j->cmpK k a b=cmpK j a b
 |0,_,_,_,h,_=>absurd h (Nat.not_lt_zero _)
 |_+1,0,_,_,_,h=>absurd h (Nat.not_lt_zero _)
 |k+1,j+1,a,b,h1,h2=>cmpN_congr (cmpL_congr λx hx y=>cmpK_eq k j x y (by have:=arg_total hx;omega) (by have:=arg_total hx;omega))
theorem cmpT_eq (a b:Tm):cmpT a b=cmpN (cmpL cmpT) a b:=cmpN_congr (cmpL_congr λx hx y=>cmpK_eq _ _ x y (arg_total hx) (Nat.lt_succ_self _))
theorem cmpI_self (a:Int):cmpI a a=0:=if_pos rfl
theorem cmpB_self (a:ByteArray):cmpB a a=0:=if_pos rfl
theorem cmpL_self {f:Tm->Tm->Int}:∀{xs:List Tm},(∀x∈xs,f x x=0)->cmpL f xs xs=0
 |[],_=>rfl
 | x :: xs, h => by
  unfold cmpL
  rw[if_pos (h x (by simp))]
  exact cmpL_self λy hy=>h y (by simp[hy])
theorem cmpT_self :∀(k:Nat) (a:Tm),a.total<k->cmpT a a=0
 |0,_,h=>absurd h (Nat.not_lt_zero _)
 | k + 1, a, h => by
  rw[cmpT_eq]
  unfold cmpN
  rw[if_pos (cmpI_self _),if_pos (cmpB_self _),if_pos (cmpI_self _)]
  exact cmpL_self λx hx=>cmpT_self k x (by have:=arg_total hx;omega)
theorem cmpI_neg (a b:Int):cmpI b a= -cmpI a b:=by
 unfold cmpI
 by_cases h:a=b
 ·subst h;simp
 ·rw[if_neg h,if_neg (λe=>h e.symm)]
  by_cases h2:a<b
  ·rw[if_pos h2,if_neg (by omega)];rfl
  ·rw[if_neg h2,if_pos (by omega)]
theorem cmpI_zero {a b:Int} (h:cmpI a b=0):a=b:=by
 unfold cmpI at h
 by_cases e:a=b
 ·exact e
 ·rw[if_neg e]at h
  split at h<;>cases h
theorem less_total :∀(a b:List UInt8),a≠b->Op.bytesLess b a= !Op.bytesLess a b
 |[],[],h=>absurd rfl h
 |[],_::_,_=>rfl
 |_::_,[],_=>rfl
 | x :: xs, y :: ys, h => by
  unfold Op.bytesLess
  by_cases e:x=y
  ·subst e
   have h2:xs≠ys:=λe=>h (by rw[e])
   simp[less_total xs ys h2]
  ·have e':¬y=x:=λh=>e h.symm
   have hne:x.toNat≠y.toNat:=λh=>e (UInt8.toNat_inj.1 h)
   simp only[beq_eq_false_iff_ne.2 e,beq_eq_false_iff_ne.2 e',Bool.false_and,Bool.or_false]
   by_cases hl:x<y
   ·have:¬y<x:=by rw[UInt8.lt_iff_toNat_lt]at hl ⊢;omega
    simp[hl,this]
   ·have:y<x:=by rw[UInt8.lt_iff_toNat_lt]at hl ⊢;omega
    simp[hl,this]
theorem compareBytes_eq :∀(a b:List UInt8),Lib.compareBytes a b=if a=b then 0 else if Op.bytesLess a b then -1 else 1
 |[],[]=>rfl
 |[],_::_=>rfl
 |_::_,[]=>rfl
 | x :: xs, y :: ys => by
  unfold Lib.compareBytes Op.bytesLess
  rw[compareBytes_eq xs ys]
  by_cases e:x=y
  ·subst e
   simp[UInt8.lt_irrefl]
  ·have hne:x.toNat≠y.toNat:=λh=>e (UInt8.toNat_inj.1 h)
   by_cases hl:x<y
   ·simp[hl,e]
   ·have:y<x:=by rw[UInt8.lt_iff_toNat_lt]at hl ⊢;omega
    simp[hl,this,e]
theorem compareBytes_cmpB (a b:ByteArray):Lib.compareBytes a.data.toList b.data.toList=cmpB a b:=by
 rw[compareBytes_eq,<-Abs.bytes_toList,<-Abs.bytes_toList]
 unfold cmpB Abs.strLt
 by_cases h:a=b
 ·subst h;simp
 ·rw[if_neg h,if_neg (λe=>h (Abs.bytes_toList_inj e))]
theorem cmpB_neg (a b:ByteArray):cmpB b a= -cmpB a b:=by
 unfold cmpB
 by_cases h:a=b
 ·subst h;simp
 ·rw[if_neg h,if_neg (λe=>h e.symm)]
  have:=less_total a.toList b.toList λe=>h (Abs.bytes_toList_inj e)
  unfold Abs.strLt
  rw[this]
  cases Op.bytesLess a.toList b.toList<;>rfl
theorem cmpB_in (a b:ByteArray): -1<=cmpB a b/\cmpB a b<=1:=by
 unfold cmpB
 split
 ·decide
 ·split<;>decide
theorem cmpL_neg {f:Tm->Tm->Int}:∀{xs ys:List Tm},(∀x∈xs,∀y,f y x= -f x y)->cmpL f ys xs= -cmpL f xs ys
 |[],[],_=>rfl
 |[],_::_,_=>rfl
 |_::_,[],_=>rfl
 | x :: xs, y :: ys, h => by
  unfold cmpL
  rw[h x (by simp) y,cmpL_neg (xs:=xs) (ys:=ys) λz hz=>h z (by simp[hz])]
  by_cases e:f x y=0
  ·rw[if_pos e,if_pos (by omega)]
  ·rw[if_neg e,if_neg (by omega)]
theorem cmpT_neg :∀(k:Nat) (a b:Tm),a.total<k->cmpT b a= -cmpT a b
 |0,_,_,h=>absurd h (Nat.not_lt_zero _)
 | k + 1, a, b, h => by
  rw[cmpT_eq,cmpT_eq a b]
  unfold cmpN
  rw[cmpI_neg a.op b.op,cmpB_neg a.name b.name,cmpI_neg a.sort b.sort,cmpL_neg λx hx y=>cmpT_neg k x y (by have:=arg_total hx;omega)]
  by_cases h1:cmpI a.op b.op=0
  ·rw[if_pos h1,if_pos (by omega)]
   by_cases h2:cmpB a.name b.name=0
   ·rw[if_pos h2,if_pos (by omega)]
    by_cases h3:cmpI a.sort b.sort=0
    ·rw[if_pos h3,if_pos (by omega)]
    ·rw[if_neg h3,if_neg (by omega)]
   ·rw[if_neg h2,if_neg (by omega)]
  ·rw[if_neg h1,if_neg (by omega)]
theorem z4j :EO (strings_Compare.ent λa b=>some (cmpB a b)):=λR xs H K r hc=>by
 simp only[strings_Compare.ent]at hc
 split at hc
 ·rename_i a b
  obtain⟨r,q1,q2⟩:=bind_some hc
  cases q1
  have hb:=cmpB_in a b
  refine⟨_,_,q2,cfn_of_below (u:=.int .i64 (cmpB a b)) ⟨Tryz.f138,Tryz.func138,by kernel_rfl,by kernel_rfl⟩ (Abs.wf_i64 (by omega) (by omega)) .i λρ avs hA w I ι cs hI hAr=> ?_⟩
  obtain⟨hA1,hA2⟩:=hA
  match avs,hA1 with
  | [x, y], _ =>
   have ex:=hA2 0 (by simp) (by simp)
   have ey:=hA2 1 (by simp) (by simp)
   simp only[List.getElem_cons_zero,List.getElem_cons_succ]at ex ey
   cases ex with
   |one ex=>
   cases ey with
   |one ey=>
   have ex:=ex.str_
   subst ex
   have ey:=ey.str_
   subst ey
   obtain⟨h1,h2⟩:=hAr
   obtain⟨u,u1,u2⟩:=h2 0 (by simp)
   obtain⟨z,z1,z2⟩:=h2 1 (by simp)
   rcases cs with⟨l⟩
   match l,h1 with
   | [p, q], _ =>
    simp at u1 z1
    subst u1
    subst z1
    cases u2 with
    |one u2=>
    cases u2 with
    |lit _=>
    cases z2 with
    |one z2=>
    cases z2 with
    |lit _=>
    refine(Tryz.strings_Compare a b w).mono λe w' ⟨k1,k2⟩=>⟨by rw[k1,compareBytes_cmpB],by subst k2;exact Below.refl _ _⟩
 ·cases hc
abbrev gCmp (k:Nat):Tm->Tm->Option Int:=λa b=>if a.total<k then some (cmpT a b)else none
abbrev gCmpL (k:Nat):List Tm->List Tm->Option Int:=λxs ys=>if tmTotals xs<k then some (cmpL cmpT xs ys)else none
theorem cmpL_nn {f:Tm->Tm->Int}:cmpL f [] []=0:=rfl
theorem cmpL_nc {f:Tm->Tm->Int} {y:Tm} {ys:List Tm}:cmpL f [] (y::ys)= -1:=rfl
theorem cmpL_cn {f:Tm->Tm->Int} {x:Tm} {xs:List Tm}:cmpL f (x::xs) []=1:=rfl
theorem cmpL_cc {f:Tm->Tm->Int} {x y:Tm} {xs ys:List Tm}:cmpL f (x::xs) (y::ys)=if f x y=0 then cmpL f xs ys else f x y:=rfl
section
variable {R : Type}
theorem scmp_loop (n k:Nat) (a1 a3 b1 b3:Int) (a2 b2:ByteArray) (xs ys:List Tm) (hx:∀x∈xs,x.total<k) (hxl:xs.length<4294967296) (K0:Int->Option R):∀m i,i<=xs.length->i<=ys.length->xs.length-i<m->
  z2k.l14 ⟨gCmp k⟩ n m a1 a2 a3 xs b1 b2 b3 ys (i:Int) K0 (bif decide ((xs.length:Int)<(ys.length:Int))then K0 (-1)else bif decide ((ys.length:Int)<(xs.length:Int))then K0 1 else K0 0)=K0 (cmpL cmpT (xs.drop i) (ys.drop i)):=by
 intro m
 induction m with
 |zero=>intro i _ _ hm;omega
 | succ m ih =>
  intro i h1 h2 hm
  show z2k.b14 ⟨gCmp k⟩ n a1 a2 a3 xs b1 b2 b3 ys (i:Int) (λy0=>z2k.l14 ⟨gCmp k⟩ n m a1 a2 a3 xs b1 b2 b3 ys y0 K0 _) K0 _=_
  unfold z2k.b14
  by_cases hxi:i<xs.length
  ·obtain⟨x,x1,x2⟩:=get_lt hxi
   rw[lt_nat hxi,cT,drop_get x1]
   by_cases hyi:i<ys.length
   ·obtain⟨y,y1,_⟩:=get_lt hyi
    rw[lt_nat hyi,cT,ix_get x1,bS,ix_get y1,bS,Tm.eta,Tm.eta,drop_get y1,cmpL_cc]
    show Option.bind (gCmp k x y) _=_
    unfold gCmp
    rw[if_pos (hx x x2),bS]
    by_cases e:cmpT x y=0
    ·rw[dT e,Bool.not_true,cF,wr_one (by omega),if_pos e]
     exact ih (i+1) hxi hyi (by omega)
    ·rw[dF e,Bool.not_false,cT,if_neg e]
   ·obtain rfl:i=ys.length:=by omega
    rw[nlt_nat hyi,cF,nlt_nat (by omega),cF,lt_nat hxi,cT,drop_nat,cmpL_cn]
  ·obtain rfl:i=xs.length:=by omega
   rw[nlt_nat hxi,cF,drop_nat]
   by_cases hyi:xs.length<ys.length
   ·obtain⟨y,y1,_⟩:=get_lt hyi
    rw[lt_nat hyi,cT,drop_get y1,cmpL_nc]
   ·have e:xs.length=ys.length:=by omega
    rw[nlt_nat hyi,cF,nlt_nat (by omega),cF,e,drop_nat,cmpL_nn]
theorem icmp_loop (n k:Nat) (xs ys:List Tm) (hx:∀x∈xs,x.total<k) (hxl:xs.length<4294967296) (K0:Int->Option R):∀m i,i<=xs.length->i<=ys.length->xs.length-i<m->
  z4a.l2 ⟨gCmp k⟩ n m xs ys xs (xs.length:Int) (i:Int) K0 (bif decide ((xs.length:Int)<(ys.length:Int))then K0 (-1)else K0 0)=K0 (cmpL cmpT (xs.drop i) (ys.drop i)):=by
 intro m
 induction m with
 |zero=>intro i _ _ hm;omega
 | succ m ih =>
  intro i h1 h2 hm
  show z4a.b2 ⟨gCmp k⟩ n xs ys xs (xs.length:Int) (i:Int) (λy0=>z4a.l2 ⟨gCmp k⟩ n m xs ys xs (xs.length:Int) y0 K0 _) K0 _=_
  unfold z4a.b2
  by_cases hxi:i<xs.length
  ·obtain⟨x,x1,x2⟩:=get_lt hxi
   rw[lt_nat hxi,cT,drop_get x1,ix_get x1,bS]
   by_cases hyi:i<ys.length
   ·obtain⟨y,y1,_⟩:=get_lt hyi
    rw[dF (by omega),cF,ix_get y1,bS,Tm.eta,Tm.eta,drop_get y1,cmpL_cc]
    show Option.bind (gCmp k x y) _=_
    unfold gCmp
    rw[if_pos (hx x x2),bS]
    by_cases e:cmpT x y=0
    ·rw[dT e,Bool.not_true,cF,wr_one (by omega),if_pos e]
     exact ih (i+1) hxi hyi (by omega)
    ·rw[dF e,Bool.not_false,cT,if_neg e]
   ·obtain rfl:i=ys.length:=by omega
    rw[dT (by omega),cT,drop_nat,cmpL_cn]
  ·obtain rfl:i=xs.length:=by omega
   rw[nlt_nat hxi,cF,drop_nat]
   by_cases hyi:xs.length<ys.length
   ·obtain⟨y,y1,_⟩:=get_lt hyi
    rw[lt_nat hyi,cT,drop_get y1,cmpL_nc]
   ·have e:xs.length=ys.length:=by omega
    rw[nlt_nat hyi,cF,e,drop_nat,cmpL_nn]
end
theorem cmpN_spec {R:Type} {a b:Tm} {v:Int} (K:Int->Option R) (z:Option R) (hz:z=K v):(bif !decide (a.op=b.op)then (bif decide (a.op<b.op)then K (-1)else K 1)else bif !sEq a.name b.name then (bif Abs.strLt a.name b.name then K (-1)else K 1)else bif !decide (a.sort=b.sort)then (bif decide (a.sort<b.sort)then K (-1)else K 1)else z)=K (cmpN (λ_ _=>v) a b):=by
 subst hz
 unfold cmpN cmpI cmpB
 by_cases h1:a.op=b.op
 ·rw [decide_eq_true h1, if_pos h1, if_pos rfl, Bool.not_true, cond_false]
  by_cases h2:a.name=b.name
  ·rw[show sEq a.name b.name=true from dT h2,if_pos h2,if_pos rfl,Bool.not_true,cF]
   by_cases h3:a.sort=b.sort
   ·rw[dT h3,if_pos h3,if_pos rfl,Bool.not_true,cF]
   ·rw[dF h3,if_neg h3,Bool.not_false,cT]
    by_cases h4:a.sort<b.sort
    ·rw[dT h4,if_pos h4,cT,if_neg (by decide)]
    ·rw[dF h4,if_neg h4,cF,if_neg (by decide)]
  ·rw[show sEq a.name b.name=false from dF h2,if_neg h2,Bool.not_false,cT]
   cases Abs.strLt a.name b.name<;>rfl
 ·rw[dF h1,if_neg h1,Bool.not_false,cT]
  by_cases h4:a.op<b.op
  ·rw[dT h4,if_pos h4,cT,if_neg (by decide)]
  ·rw[dF h4,if_neg h4,cF,if_neg (by decide)]
theorem z2l :∀k,k<=4294967296->EO (z2k.ent (gCmp k))
 | 0, _ => fun R xs H K r h => by
  simp only[z2k.ent]at h
  split at h
  ·simp[gCmp]at h
  ·cases h
 | k + 1, hk => z2k.ok            (G := ⟨gCmp k⟩) ⟨z2l               k (by omega), trivial⟩ fun a b r h => by
  unfold gCmp at h
  split at h
  ·rename_i hs
   cases h
   refine⟨a.args.length+1,?_⟩
   unfold z2k.main
   have ht:=total_args a
   have hl:=tmT_len a.args
   have e:=scmp_loop (a.args.length+1) k a.op a.sort b.op b.sort a.name b.name a.args b.args (λx hx=>by have:=arg_total hx;omega) (by omega) (λr0=>some (AT.one (.i r0),([]:List Ob))) (a.args.length+1) 0 (by omega) (by omega) (by omega)
   simp only[List.drop_zero]at e
   refine(cmpN_spec (a:=a) (b:=b) (v:=cmpL cmpT a.args b.args) (λr0=>some (AT.one (.i r0),([]:List Ob))) _ e).trans ?_
   rw[cmpT_eq]
   rfl
  ·cases h
theorem cmpN_impl {a b:Tm} {v:Int}:(if (if cmpI a.op b.op≠0 then cmpI a.op b.op else if cmpB a.name b.name≠0 then cmpB a.name b.name else cmpI a.sort b.sort)=0 then v else (if cmpI a.op b.op≠0 then cmpI a.op b.op else if cmpB a.name b.name≠0 then cmpB a.name b.name else cmpI a.sort b.sort))=cmpN (λ_ _=>v) a b:=by
 unfold cmpN
 by_cases h1:cmpI a.op b.op=0
 ·by_cases h2:cmpB a.name b.name=0
  ·simp[h1,h2]
  ·simp[h1,h2]
 ·simp[h1]
abbrev gOr :List Int->Option Int:=λl=>match l with
 |[a,b,c]=>some (if a≠0 then a else if b≠0 then b else c)
 |_=>none
theorem cmpOr_ok :EO (z02.ent gOr):=z02.ok (G:=⟨()⟩) trivial λ(l:List Int) r h=>by
 unfold gOr at h
 split at h
 ·rename_i a b c
  cases h
  refine⟨4,?_⟩
  have i0:ix [a,b,c] 0=some a:=rfl
  have i1:ix [a,b,c] 1=some b:=rfl
  have i2:ix [a,b,c] 2=some c:=rfl
  have w1:wr (0+1)=1:=by decide
  have w2:wr (1+1)=2:=by decide
  have w3:wr (2+1)=3:=by decide
  have d0:decide ((0:Int)<3)=true:=rfl
  have d1:decide ((1:Int)<3)=true:=rfl
  have d2:decide ((2:Int)<3)=true:=rfl
  have d3:decide ((3:Int)<3)=false:=rfl
  have step:∀{R:Type} (m:Nat) (i:Int) (K:Int->Option R) (k1:Option R),z02.l3 ⟨()⟩ 4 (m+1) 0 [a,b,c] 3 i K k1=z02.b3 ⟨()⟩ 4 0 [a,b,c] 3 i (λy0=>z02.l3 ⟨()⟩ 4 m 0 [a,b,c] 3 y0 K k1) K k1:=λm i K k1=>rfl
  unfold z02.main
  show z02.l3 ⟨()⟩ 4 (3+1) 0 [a,b,c] 3 0 _ _=_
  rw[step]
  unfold z02.b3
  rw[d0,cT,i0,bS]
  by_cases ha:a=0
  ·rw [decide_eq_true ha, Bool.not_true, cond_false, w1, if_neg (fun h => h ha)]
   show z02.l3 ⟨()⟩ 4 (2+1) 0 [a,b,c] 3 1 _ _=_
   rw[step]
   unfold z02.b3
   rw[d1,cT,i1,bS]
   by_cases hb:b=0
   ·rw[dT hb,Bool.not_true,cF,w2,if_neg (λh=>h hb)]
    show z02.l3 ⟨()⟩ 4 (1+1) 0 [a,b,c] 3 2 _ _=_
    rw[step]
    unfold z02.b3
    rw[d2,cT,i2,bS]
    by_cases hc:c=0
    ·rw[dT hc,Bool.not_true,cF,w3]
     show z02.l3 ⟨()⟩ 4 (0+1) 0 [a,b,c] 3 3 _ _=_
     rw[step]
     unfold z02.b3
     rw[d3,cF,hc]
    ·rw[dF hc,Bool.not_false,cT]
   ·rw[dF hb,Bool.not_false,cT,if_pos hb]
  ·rw[dF ha,Bool.not_false,cT,if_pos ha]
 ·cases h
theorem isNaN_ok :EO (z03.ent λ_=>some false):=z03.ok (G:=⟨()⟩) trivial λx r h=>⟨1,by
 cases h
 unfold z03.main
 rw[dT rfl]
 rfl⟩
theorem cmpCompare_ok :EO (z01.ent λa b=>some (cmpI a b)):=z01.ok (G:=⟨λ_=>some false⟩) ⟨isNaN_ok,trivial⟩ λa b r h=>⟨1,by
 cases h
 unfold z01.main
 simp only[bS,cF]
 unfold cmpI
 by_cases h:a=b
 ·subst h
  rw[dF (by omega),cF,cF,if_pos rfl]
 ·rw[if_neg h]
  by_cases h2:a<b
  ·rw[dT h2,cT,if_pos h2]
  ·rw[dF h2,cF,dT (by omega),cT,if_neg h2]⟩
abbrev gCmpI (k:Nat):z04.Gs:={z01:=λa b=>some (cmpI a b),strings_Compare:=λa b=>some (cmpB a b),z02:=gOr,z4a:=gCmpL k}
theorem compareFunc_ok (k:Nat) (hk:k<4294967296) (e:EO (z04.ent (gCmp k))):EO (z4a.ent (gCmpL (k+1))):=z4a.ok (G:=⟨gCmp k⟩) ⟨e,trivial⟩ λ(xs:List Tm) (ys:List Tm) r h=>by
 unfold gCmpL at h
 split at h
 ·rename_i hs
  cases h
  have hl:=tmT_len xs
  refine⟨xs.length+1,?_⟩
  unfold z4a.main
  have e:=icmp_loop (xs.length+1) k xs ys (λx hx=>by have:=tmT_mem hx;omega) (by omega) (λr0=>some (AT.one (.i r0),([]:List Ob))) (xs.length+1) 0 (by omega) (by omega) (by omega)
  simp only[List.drop_zero]at e
  exact e
 ·cases h
theorem z05 :∀k,k<=4294967296->EO (z04.ent (gCmp k))
 | 0, _ => fun R xs H K r h => by
  simp only[z04.ent]at h
  split at h
  ·simp[gCmp]at h
  ·cases h
 | k + 1, hk => z04.ok            (G := gCmpI (k + 1)) ⟨cmpCompare_ok, z4j               , cmpOr_ok, compareFunc_ok k (by omega) (z05               k (by omega)), trivial⟩ fun a b r h => by
  unfold gCmp at h
  split at h
  ·rename_i hs
   cases h
   have ht:=total_args a
   refine⟨1,?_⟩
   unfold z04.main
   show (bif !decide ((if cmpI a.op b.op≠0 then cmpI a.op b.op else if cmpB a.name b.name≠0 then cmpB a.name b.name else cmpI a.sort b.sort)=0)then some (AT.one (.i (if cmpI a.op b.op≠0 then cmpI a.op b.op else if cmpB a.name b.name≠0 then cmpB a.name b.name else cmpI a.sort b.sort)),([]:List Ob))else Option.bind (gCmpL (k+1) a.args b.args) λr9=>some (AT.one (.i r9),[]))=_
   have e:=cmpN_impl (a:=a) (b:=b) (v:=cmpL cmpT a.args b.args)
   have e2:cmpT a b=cmpN (λ_ _=>cmpL cmpT a.args b.args) a b:=cmpT_eq a b
   rw[e2,<-e]
   generalize (if cmpI a.op b.op≠0 then cmpI a.op b.op else if cmpB a.name b.name≠0 then cmpB a.name b.name else cmpI a.sort b.sort)=z
   unfold gCmpL
   rw[if_pos (by omega),bS]
   by_cases hz:z=0
   ·rw[dT hz,Bool.not_true,cF,if_pos hz]
   ·rw[dF hz,Bool.not_false,cT,if_neg hz]
  ·cases h
def szK :Nat->Tm->Nat
 |0,_=>0
 |k+1,t=>1+wS (szK k) t.args
def tsz (t:Tm):Nat:=szK (t.total+1) t
theorem wS_congr {A:Type} {f g:A->Nat}:∀{l:List A},(∀x∈l,f x=g x)->wS f l=wS g l
 |[],_=>rfl
 |x::l,h=>by rw[wS_cons,wS_cons,h x (by simp),wS_congr λy hy=>h y (by simp[hy])]
theorem szK_eq :∀(k j:Nat) (t:Tm),t.total<k->t.total<j->szK k t=szK j t
 |0,_,_,h,_=>absurd h (Nat.not_lt_zero _)
 |_+1,0,_,_,h=>absurd h (Nat.not_lt_zero _)
 |k+1,j+1,t,h1,h2=>congrArg (1+·) (wS_congr λx hx=>szK_eq k j x (by have:=arg_total hx;omega) (by have:=arg_total hx;omega))
theorem tsz_eq (t:Tm):tsz t=1+wS tsz t.args:=congrArg (1+·) (wS_congr λx hx=>szK_eq _ _ x (arg_total hx) (Nat.lt_succ_self _))
def mxS (f:Tm->Nat) (l:List Tm):Nat:=l.foldr (λx n=>max (f x) n) 0
def dpK :Nat->Tm->Nat
 |0,_=>0
 |k+1,t=>mxS (dpK k) t.args+1
def tdp (t:Tm):Nat:=dpK (t.total+1) t
theorem mxS_cons {f:Tm->Nat} {x:Tm} {l:List Tm}:mxS f (x::l)=max (f x) (mxS f l):=rfl
theorem mxS_congr {f g:Tm->Nat}:∀{l:List Tm},(∀x∈l,f x=g x)->mxS f l=mxS g l
 |[],_=>rfl
 |x::l,h=>by rw[mxS_cons,mxS_cons,h x (by simp),mxS_congr λy hy=>h y (by simp[hy])]
theorem dpK_eq :∀(k j:Nat) (t:Tm),t.total<k->t.total<j->dpK k t=dpK j t
 |0,_,_,h,_=>absurd h (Nat.not_lt_zero _)
 |_+1,0,_,_,h=>absurd h (Nat.not_lt_zero _)
 |k+1,j+1,t,h1,h2=>congrArg (·+1) (mxS_congr λx hx=>dpK_eq k j x (by have:=arg_total hx;omega) (by have:=arg_total hx;omega))
theorem tdp_eq (t:Tm):tdp t=mxS tdp t.args+1:=congrArg (·+1) (mxS_congr λx hx=>dpK_eq _ _ x (arg_total hx) (Nat.lt_succ_self _))
theorem tsz_le :∀(k:Nat) (t:Tm),t.total<k->tsz t<=t.total+1
 |0,_,h=>absurd h (Nat.not_lt_zero _)
 | k + 1, t, h => by
  rw[tsz_eq]
  have ht:=total_args t
  have:∀l:List Tm,(∀x∈l,tsz x<=x.total+1)->wS tsz l<=tmTotals l:=λl=>by
   induction l with
   |nil=>intro _;exact Nat.le_refl _
   | cons x l ih =>
    intro hl
    rw[wS_cons,tmT_cons]
    have:=hl x (by simp)
    have:=ih λy hy=>hl y (by simp[hy])
    omega
  have:=this t.args λx hx=>tsz_le k x (by have:=arg_total hx;omega)
  omega
theorem mxS_le {f:Tm->Nat} {n:Nat}:∀{l:List Tm},(∀x∈l,f x<=n)->mxS f l<=n
 |[],_=>Nat.zero_le _
 |x::l,h=>by rw[mxS_cons];exact Nat.max_le.2 ⟨h x (by simp),mxS_le λy hy=>h y (by simp[hy])⟩
theorem tdp_le :∀(k:Nat) (t:Tm),t.total<k->tdp t<=t.total+1
 |0,_,h=>absurd h (Nat.not_lt_zero _)
 | k + 1, t, h => by
  rw[tdp_eq]
  have:mxS tdp t.args<=t.total:=mxS_le λx hx=>by have:=arg_total hx;have:=tdp_le k x (by omega);omega
  omega
abbrev gSz (k:Nat):Tm->Option Int:=λt=>if t.total<k then some (tsz t:Int)else none
abbrev gDp (k:Nat):Tm->Option Int:=λt=>if t.total<k then some (tdp t:Int)else none
abbrev gCp (k:Nat):Tm->Option Tm:=λt=>if t.total<k then some t else none
abbrev gCpS (k:Nat):List Tm->Option (List Tm):=λl=>if tmTotals l<k then some l else none
abbrev gLf (k:Nat):Tm->Int->Option Int:=λt left=>if t.total<k/\0<=left/\left<=60 then some (if (tsz t:Int)<=left then left-tsz t else -1)else none
section
variable {R : Type}
theorem isz_loop (n k:Nat) (xs:List Tm) (hx:∀x∈xs,x.total<k) (k0:Int->Option R):∀m (i s:Nat),i<=xs.length->s+wS tsz (xs.drop i)<=8589934592->xs.length<4294967296->xs.length-i<m->
  z0h.l3 ⟨gSz k⟩ n m xs (xs.length:Int) (s:Int) (i:Int) k0=k0 ((s+wS tsz (xs.drop i):Nat):Int):=by
 intro m
 induction m with
 |zero=>intro i s _ _ _ hm;omega
 | succ m ih =>
  intro i s h1 h2 h3 hm
  show z0h.b3 ⟨gSz k⟩ n xs (xs.length:Int) (s:Int) (i:Int) (λy0 y1=>z0h.l3 ⟨gSz k⟩ n m xs (xs.length:Int) y0 y1 k0) k0=_
  unfold z0h.b3
  by_cases hi:i<xs.length
  ·obtain⟨x,x1,x2⟩:=get_lt hi
   rw[drop_get x1,wS_cons]at h2 ⊢
   rw[lt_nat hi,cT,ix_get x1,bS,Tm.eta]
   show Option.bind (gSz k x) _=_
   unfold gSz
   rw[if_pos (hx x x2),bS,wr_one (by omega),wr_in (x:=(s:Int)+(tsz x:Int)) (by omega)]
   refine(ih (i+1) (s+tsz x) hi (by omega) h3 (by omega)).trans ?_
   rw[Nat.add_assoc]
  ·obtain rfl:i=xs.length:=by omega
   rw[nlt_nat hi,cF,drop_nat]
   rfl
theorem idp_loop (n k:Nat) (xs:List Tm) (hx:∀x∈xs,x.total<k) (k0:Int->Option R):∀m (i s:Nat),i<=xs.length->xs.length<4294967296->xs.length-i<m->
  z06.l3 ⟨gDp k⟩ n m xs (xs.length:Int) (s:Int) (i:Int) k0=k0 ((max s (mxS tdp (xs.drop i)):Nat):Int):=by
 intro m
 induction m with
 |zero=>intro i s _ _ hm;omega
 | succ m ih =>
  intro i s h1 h3 hm
  show z06.b3 ⟨gDp k⟩ n xs (xs.length:Int) (s:Int) (i:Int) (λy0 y1=>z06.l3 ⟨gDp k⟩ n m xs (xs.length:Int) y0 y1 k0) k0=_
  unfold z06.b3
  by_cases hi:i<xs.length
  ·obtain⟨x,x1,x2⟩:=get_lt hi
   rw[drop_get x1,mxS_cons,lt_nat hi,cT,ix_get x1,bS,Tm.eta]
   show Option.bind (gDp k x) _=_
   unfold gDp
   have e:imax (s:Int) (tdp x:Int)=((max s (tdp x):Nat):Int):=by unfold imax;split<;>omega
   rw[if_pos (hx x x2),bS,wr_one (by omega),e]
   refine(ih (i+1) (max s (tdp x)) hi h3 (by omega)).trans ?_
   rw[Nat.max_assoc]
  ·obtain rfl:i=xs.length:=by omega
   rw[nlt_nat hi,cF,drop_nat,show mxS tdp []=0 from rfl,Nat.max_zero]
theorem sdp_loop (n k:Nat) (a1 a3:Int) (a2:ByteArray) (xs:List Tm) (hx:∀x∈xs,x.total<k) (k0:Int->Option R):∀m (i s:Nat),i<=xs.length->xs.length<4294967296->xs.length-i<m->
  z2m.l3 ⟨gDp k,λa b=>some (imax a b)⟩ n m a1 a2 a3 xs (s:Int) (i:Int) k0=k0 ((max s (mxS tdp (xs.drop i)):Nat):Int):=by
 intro m
 induction m with
 |zero=>intro i s _ _ hm;omega
 | succ m ih =>
  intro i s h1 h3 hm
  show z2m.b3 ⟨gDp k,λa b=>some (imax a b)⟩ n a1 a2 a3 xs (s:Int) (i:Int) (λy0 y1=>z2m.l3 ⟨gDp k,λa b=>some (imax a b)⟩ n m a1 a2 a3 xs y0 y1 k0) k0=_
  unfold z2m.b3
  by_cases hi:i<xs.length
  ·obtain⟨x,x1,x2⟩:=get_lt hi
   rw[drop_get x1,mxS_cons,lt_nat hi,cT,ix_get x1,bS,Tm.eta]
   show Option.bind (gDp k x) _=_
   unfold gDp
   have e:imax (s:Int) (tdp x:Int)=((max s (tdp x):Nat):Int):=by unfold imax;split<;>omega
   rw[if_pos (hx x x2),bS,bS,wr_one (by omega),e]
   refine(ih (i+1) (max s (tdp x)) hi h3 (by omega)).trans ?_
   rw[Nat.max_assoc]
  ·obtain rfl:i=xs.length:=by omega
   rw[nlt_nat hi,cF,drop_nat,show mxS tdp []=0 from rfl,Nat.max_zero]
theorem slf_loop (n k:Nat) (a1 a3:Int) (a2:ByteArray) (xs:List Tm) (hx:∀x∈xs,x.total<k) (k0:Int->Option R):∀m (i:Nat) (L:Int),i<=xs.length->xs.length<4294967296-> -1<=L->L<=60->xs.length-i<m->
  z3w.l3 ⟨gLf k⟩ n m a1 a2 a3 xs L (i:Int) k0=k0 (if (wS tsz (xs.drop i):Int)<=L then L-(wS tsz (xs.drop i):Int)else -1):=by
 intro m
 induction m with
 |zero=>intro i L _ _ _ _ hm;omega
 | succ m ih =>
  intro i L h1 h3 l0 l1 hm
  show z3w.b3 ⟨gLf k⟩ n a1 a2 a3 xs L (i:Int) (λy0 y1=>z3w.l3 ⟨gLf k⟩ n m a1 a2 a3 xs y0 y1 k0) k0=_
  unfold z3w.b3
  by_cases hi:i<xs.length
  ·obtain⟨x,x1,x2⟩:=get_lt hi
   have hs:1<=tsz x:=by rw[tsz_eq];omega
   rw[drop_get x1,wS_cons,lt_nat hi,cT]
   by_cases hL:0<=L
   ·rw[dT hL,cT,ix_get x1,bS,Tm.eta]
    show Option.bind (gLf k x L) _=_
    unfold gLf
    rw[if_pos ⟨hx x x2,hL,l1⟩,bS,wr_one (by omega)]
    by_cases hc:(tsz x:Int)<=L
    ·rw[if_pos hc]
     refine(ih (i+1) _ hi h3 (by omega) (by omega) (by omega)).trans ?_
     congr 1
     by_cases hd:(wS tsz (xs.drop (i+1)):Int)<=L-(tsz x:Int)
     ·rw[if_pos hd,if_pos (by omega)];omega
     ·rw[if_neg hd,if_neg (by omega)]
    ·rw[if_neg hc]
     refine(ih (i+1) _ hi h3 (by omega) (by omega) (by omega)).trans ?_
     rw[if_neg (by omega),if_neg (by omega)]
   ·rw[dF hL,cF,if_neg (by omega)]
    congr 1
    omega
  ·obtain rfl:i=xs.length:=by omega
   rw[nlt_nat hi,cF,drop_nat,show wS tsz []=0 from rfl]
   congr 1
   split<;>omega
theorem scp_loop (n k:Nat) (a1 a3 b1 b3 c1 c3:Int) (a2 b2 c2:ByteArray) (h2:List Tm) (xs:List Tm) (hx:∀x∈xs,x.total<k) (k0:List Tm->Option R):∀m (i:Nat),i<=xs.length->xs.length<4294967296->xs.length-i<m->
  z3n.l3 ⟨gCp k⟩ n m a1 a2 a3 xs b1 b2 b3 h2 c1 c2 c3 (i:Int) (xs.take i) k0=k0 xs:=by
 intro m
 induction m with
 |zero=>intro i _ _ hm;omega
 | succ m ih =>
  intro i h1 h3 hm
  show z3n.b3 ⟨gCp k⟩ n a1 a2 a3 xs b1 b2 b3 h2 c1 c2 c3 (i:Int) (xs.take i) (λy0 y1=>z3n.l3 ⟨gCp k⟩ n m a1 a2 a3 xs b1 b2 b3 h2 c1 c2 c3 y0 y1 k0) k0=_
  unfold z3n.b3
  by_cases hi:i<xs.length
  ·obtain⟨x,x1,x2⟩:=get_lt hi
   rw[lt_nat hi,cT,ix_get x1,bS,Tm.eta]
   show Option.bind (gCp k x) _=_
   unfold gCp
   rw[if_pos (hx x x2),bS,Tm.eta,lim_le (by simp;omega),bS,wr_one (by omega),<-take_get x1]
   exact ih (i+1) hi h3 (by omega)
  ·obtain rfl:i=xs.length:=by omega
   rw[nlt_nat hi,cF,take_all]
theorem scps_loop (n k:Nat) (xs:List Tm) (hx:∀x∈xs,x.total<k) (k0:List Tm->Option R):∀m (i:Nat),i<=xs.length->xs.length<4294967296->xs.length-i<m->
  z3m.l3 ⟨gCp k⟩ n m xs (i:Int) (xs.take i) k0=k0 xs:=by
 intro m
 induction m with
 |zero=>intro i _ _ hm;omega
 | succ m ih =>
  intro i h1 h3 hm
  show z3m.b3 ⟨gCp k⟩ n xs (i:Int) (xs.take i) (λy0 y1=>z3m.l3 ⟨gCp k⟩ n m xs y0 y1 k0) k0=_
  unfold z3m.b3
  by_cases hi:i<xs.length
  ·obtain⟨x,x1,x2⟩:=get_lt hi
   rw[lt_nat hi,cT,ix_get x1,bS,Tm.eta]
   show Option.bind (gCp k x) _=_
   unfold gCp
   rw[if_pos (hx x x2),bS,Tm.eta,lim_le (by simp;omega),bS,wr_one (by omega),<-take_get x1]
   exact ih (i+1) hi h3 (by omega)
  ·obtain rfl:i=xs.length:=by omega
   rw[nlt_nat hi,cF,take_all]
end
theorem z0i :∀k,k<=4294967296->EO (z0h.ent (gSz k))
 | 0, _ => fun R xs H K r h => by
  simp only[z0h.ent]at h
  split at h
  ·simp[gSz]at h
  ·cases h
 | k + 1, hk => z0h.ok          (G := ⟨gSz k⟩) ⟨z0i             k (by omega), trivial⟩ fun t r h => by
  unfold gSz at h
  split at h
  ·rename_i hs
   cases h
   have ht:=total_args t
   have hl:=tmT_len t.args
   have hz:=tsz_le _ t (Nat.lt_succ_self _)
   rw[tsz_eq]at hz
   refine⟨t.args.length+1,?_⟩
   unfold z0h.main
   have e:=isz_loop (t.args.length+1) k t.args (λx hx=>by have:=arg_total hx;omega) (λr0=>some (AT.one (.i r0),([]:List Ob))) (t.args.length+1) 0 1 (by omega) (by simp;omega) (by omega) (by omega)
   simp only[List.drop_zero]at e
   rw[tsz_eq]
   exact e
  ·cases h
theorem z07 :∀k,k<=4294967296->EO (z06.ent (gDp k))
 | 0, _ => fun R xs H K r h => by
  simp only[z06.ent]at h
  split at h
  ·simp[gDp]at h
  ·cases h
 | k + 1, hk => z06.ok           (G := ⟨gDp k⟩) ⟨z07              k (by omega), trivial⟩ fun t r h => by
  unfold gDp at h
  split at h
  ·rename_i hs
   cases h
   have ht:=total_args t
   have hl:=tmT_len t.args
   have hz:=tdp_le _ t (Nat.lt_succ_self _)
   refine⟨t.args.length+1,?_⟩
   unfold z06.main
   have e:=idp_loop (t.args.length+1) k t.args (λx hx=>by have:=arg_total hx;omega) (λr0=>some (AT.one (.i (wr (r0+1))),([]:List Ob))) (t.args.length+1) 0 0 (by omega) (by omega) (by omega)
   simp only[List.drop_zero,Nat.zero_max]at e
   rw[tdp_eq]at hz ⊢
   refine e.trans ?_
   rw[wr_in (x:=((mxS tdp t.args:Nat):Int)+1) (by omega)]
   rfl
  ·cases h
theorem l1Max_ok :EO (z36.ent λa b=>some (imax a b)):=z36.ok (G:=⟨()⟩) trivial λa b r h=>⟨1,by
 cases h
 unfold z36.main imax
 by_cases h:b<a
 ·rw[dT h,cT,if_neg (by omega)]
 ·rw[dF h,cF]
  by_cases h2:a<b
  ·rw[if_pos h2]
  ·obtain rfl:a=b:=by omega
   rw[if_neg h2]⟩
theorem z2n :∀k,k<=4294967296->EO (z2m.ent (gDp k))
 | 0, _ => fun R xs H K r h => by
  simp only[z2m.ent]at h
  split at h
  ·simp[gDp]at h
  ·cases h
 | k + 1, hk => z2m.ok           (G := ⟨gDp k, fun a b => some (imax a b)⟩) ⟨z2n              k (by omega), l1Max_ok, trivial⟩ fun t r h => by
  unfold gDp at h
  split at h
  ·rename_i hs
   cases h
   have ht:=total_args t
   have hl:=tmT_len t.args
   have hz:=tdp_le _ t (Nat.lt_succ_self _)
   refine⟨t.args.length+1,?_⟩
   unfold z2m.main
   have e:=sdp_loop (t.args.length+1) k t.op t.sort t.name t.args (λx hx=>by have:=arg_total hx;omega) (λr0=>some (AT.one (.i (wr (r0+1))),([]:List Ob))) (t.args.length+1) 0 0 (by omega) (by omega) (by omega)
   simp only[List.drop_zero,Nat.zero_max]at e
   rw[tdp_eq]at hz ⊢
   refine e.trans ?_
   rw[wr_in (x:=((mxS tdp t.args:Nat):Int)+1) (by omega)]
   rfl
  ·cases h
theorem l6Left_ok :∀k,k<=4294967296->EO (z3w.ent (gLf k))
 | 0, _ => fun R xs H K r h => by
  simp only[z3w.ent]at h
  split at h
  ·simp[gLf]at h
  ·cases h
 | k + 1, hk => z3w.ok      (G := ⟨gLf k⟩) ⟨l6Left_ok k (by omega), trivial⟩ fun t left r h => by
  unfold gLf at h
  split at h
  ·rename_i hs
   cases h
   obtain⟨hs,l0,l1⟩:=hs
   have ht:=total_args t
   have hl:=tmT_len t.args
   refine⟨t.args.length+1,?_⟩
   unfold z3w.main
   have e:=slf_loop (t.args.length+1) k t.op t.sort t.name t.args (λx hx=>by have:=arg_total hx;omega) (λr0=>some (AT.one (.i r0),([]:List Ob))) (t.args.length+1) 0 (left-1) (by omega) (by omega) (by omega) (by omega) (by omega)
   simp only[List.drop_zero]at e
   rw[wr_in (x:=left-1) (by omega)]
   refine e.trans ?_
   have e2:(if (wS tsz t.args:Int)<=left-1 then left-1-(wS tsz t.args:Int)else -1)=(if (tsz t:Int)<=left then left-(tsz t:Int)else -1):=by
    rw[tsz_eq]
    split<;>split<;>omega
   rw[e2]
  ·cases h
abbrev gSm (k:Nat):Tm->Option Bool:=λt=>if t.total<k then some (decide (tsz t<=60)&&decide (tdp t<=20))else none
theorem l6Small_ok (k:Nat) (hk:k<=4294967296):EO (z41.ent (gSm k)):=z41.ok (G:=⟨gLf k,gDp k⟩) ⟨l6Left_ok k hk,z2n k hk,trivial⟩ λt r h=>by
 unfold gSm at h
 split at h
 ·rename_i hs
  cases h
  refine⟨1,?_⟩
  unfold z41.main
  rw[Tm.eta]
  show Option.bind (gLf k t 60) _=_
  unfold gLf
  rw[if_pos ⟨hs,by decide,by decide⟩,bS]
  by_cases hc:tsz t<=60
  ·rw[if_pos (by omega),dT (by omega),cT]
   show Option.bind (gDp k t) _=_
   unfold gDp
   rw[if_pos hs,bS,dT hc,Bool.true_and]
   rw[show decide ((tdp t:Int)<=20)=decide (tdp t<=20)from decide_eq_decide.2 (by omega)]
  ·rw[if_neg (by omega),dF (by omega),cF,dF hc,Bool.false_and]
 ·cases h
theorem l5Copy_ok :∀k,k<=4294967296->EO (z3n.ent (gCp k))
 | 0, _ => fun R xs H K r h => by
  simp only[z3n.ent]at h
  split at h
  ·simp[gCp]at h
  ·cases h
 | k + 1, hk => z3n.ok      (G := ⟨gCp k⟩) ⟨l5Copy_ok k (by omega), trivial⟩ fun t r h => by
  unfold gCp at h
  split at h
  ·rename_i hs
   cases h
   have ht:=total_args t
   have hl:=tmT_len t.args
   refine⟨t.args.length+1,?_⟩
   unfold z3n.main
   exact scp_loop (t.args.length+1) k _ _ _ _ _ _ _ _ _ _ t.args (λx hx=>by have:=arg_total hx;omega) _ (t.args.length+1) 0 (by omega) (by omega) (by omega)
  ·cases h
theorem l5Copies_ok (k:Nat) (hk:k<=4294967296):EO (z3m.ent (gCpS k)):=z3m.ok (G:=⟨gCp k⟩) ⟨l5Copy_ok k hk,trivial⟩ λ(l:List Tm) r h=>by
 unfold gCpS at h
 split at h
 ·rename_i hs
  cases h
  have hl:=tmT_len l
  refine⟨l.length+1,?_⟩
  unfold z3m.main
  exact scps_loop (l.length+1) k l (λx hx=>by have:=tmT_mem hx;omega) _ (l.length+1) 0 (by omega) (by omega) (by omega)
 ·cases h
abbrev gSame (k:Nat):Tm->Tm->Option Bool:=λa b=>if a.total<k then some (decide (cmpT a b=0))else none
theorem l5Same_ok (k:Nat) (hk:k<=4294967296):EO (z3p.ent (gSame k)):=z3p.ok (G:=⟨gCmp k⟩) ⟨z2l k hk,trivial⟩ λa b r h=>by
 unfold gSame at h
 split at h
 ·rename_i hs
  cases h
  refine⟨1,?_⟩
  unfold z3p.main
  rw[Tm.eta,Tm.eta]
  show Option.bind (gCmp k a b) _=_
  unfold gCmp
  rw[if_pos hs,bS]
 ·cases h
open Classical
theorem iterM {S A R:Type} (μ:S->Nat) (B:(A->Option R)->S->(S->Option R)->Option R) (Q:S->Prop) (Fin:A->Prop) (hs:∀s,Q s->(∃a,Fin a/\∀k0 nx,B k0 s nx=k0 a)\/(∃s',Q s'/\μ s'<μ s/\∀k0 nx,B k0 s nx=nx s')):∀m s,Q s->μ s<m->∃a,Fin a/\∀k0,iter (B k0) m s=k0 a
 |0,s,_,hm=>absurd hm (Nat.not_lt_zero _)
 | m + 1, s, hq, hm => by
  obtain⟨a,h1,h2⟩|⟨s',h1,h0,h2⟩:=hs s hq
  ·exact⟨a,h1,λk0=>h2 k0 (λv=>iter (B k0) m v)⟩
  ·obtain⟨a,h3,h4⟩:=iterM μ B Q Fin hs m s' h1 (by omega)
   exact⟨a,h3,λk0=>(h2 k0 (λv=>iter (B k0) m v)).trans (h4 k0)⟩
noncomputable def pickO {α:Type} (P:α->Prop):Option α:=if h:∃r,P r then some h.choose else none
theorem pickO_some {α:Type} {P:α->Prop} {r:α} (h:pickO P=some r):P r:=by
 unfold pickO at h
 split at h
 ·rename_i hh;cases h;exact hh.choose_spec
 ·cases h
theorem pickO_ex {α:Type} {P:α->Prop} (h:∃r,P r):∃r,pickO P=some r/\P r:=⟨h.choose,dif_pos h,h.choose_spec⟩
theorem wrap_u64' {k:Int} (h0:0<=k) (h1:k<9223372036854775808):IntKind.wrap .u64 k=k:=by
 show k%18446744073709551616=k
 exact Int.emod_eq_of_lt h0 (by omega)
theorem mid_eq {i j:Int} (h0:0<=i+j) (h1:i+j<4611686018427387904):(bif decide ((0:Nat)<=1)then some (Abs.bitsI .shr .u64 (IntKind.wrap .u64 (wr (i+j))) 1)else none)=some ((i+j) / 2):=by
 rw[wr_in (by omega),wrap_u64' h0 (by omega)]
 show some ((i+j).fdiv (2^1))=_
 rw[Int.fdiv_eq_ediv_of_nonneg _ (by decide)]
 rfl
def Sub2 (h r:List Tm):Prop:=r.length=h.length/\∀x∈r,x∈h
theorem Sub2.refl (h:List Tm):Sub2 h h:=⟨rfl,λ_ h=>h⟩
theorem Sub2.trans {a b c:List Tm} (h:Sub2 a b) (k:Sub2 b c):Sub2 a c:=⟨k.1.trans h.1,λx hx=>h.2 x (k.2 x hx)⟩
theorem Sub2.set {h r:List Tm} (k:Sub2 h r) {i:Nat} {x:Tm} (hx:x∈h):Sub2 h (r.set i x):=⟨by simp[k.1],λy hy=>by
 rcases List.mem_or_eq_of_mem_set hy with h|rfl
 ·exact k.2 y h
 ·exact hx⟩
theorem ix_mem2 {h:List Tm} {i:Int} (h0:0<=i) (h1:i<h.length):∃x,ix h i=some x/\x∈h:=by
 obtain⟨x,x1,x2,_⟩:=drop_step h0 h1
 exact⟨x,x1,x2⟩
abbrev OUT :List Tm->Option (AT×List Ob):=λr0=>some (.tup [],[.row (.n 1) 0 r0])
noncomputable def gSwap:List Tm->Int->Int->Int->Option (List Tm):=λh a b n=>pickO λr=>Sub2 h r/\z4h.Does ⟨()⟩ h a b n r
theorem swapRange_ok :EO (z4h.ent gSwap):=z4h.ok (G:=⟨()⟩) trivial λ_ _ _ _ _ hr=>(pickO_some hr).2
theorem swap_ex {h:List Tm} {a b n:Int} (ha:0<=a) (hb:0<=b) (h0:0<=n) (h1:a+n<=h.length) (h2:b+n<=h.length) (hl:h.length<=4294967296):∃r,gSwap h a b n=some r/\Sub2 h r:=by
 suffices hh:∃r,Sub2 h r/\z4h.Does ⟨()⟩ h a b n r by
  obtain⟨r,r1,r2,r3⟩:=pickO_ex hh
  exact⟨r,r1,r2⟩
 obtain⟨r,r1,r2⟩:=iterM (R:=AT×List Ob) (A:=List Tm) (λv:Int×List Tm=>(n-v.1).toNat) (λk0 v nx=>z4h.b1 ⟨()⟩ (n.toNat+1) a b n v.1 v.2 (λy0 y1=>nx (y0,y1)) k0) (λv=>0<=v.1/\v.1<=n/\Sub2 h v.2) (Sub2 h) (by
  rintro⟨i,g⟩ ⟨i0,i1,hg⟩
  simp only at i0 i1 hg ⊢
  have hgl:=hg.1
  by_cases hi:i<n
  ·refine .inr ?_
   obtain⟨x,x1,x2⟩:=ix_mem2 (h:=g) (i:=b+i) (by omega) (by omega)
   obtain⟨y,y1,y2⟩:=ix_mem2 (h:=g) (i:=a+i) (by omega) (by omega)
   obtain⟨z,z1,z2⟩:=ix_mem2 (h:=g.set (a+i).toNat x) (i:=b+i) (by omega) (by simp;omega)
   refine⟨(i+1,(g.set (a+i).toNat x).set (b+i).toNat y),⟨by simp only;omega,by simp only;omega,(hg.set (hg.2 x x2)).set (hg.2 y y2)⟩,by simp only;omega,λk0 nx=> ?_⟩
   unfold z4h.b1
   rw[dT hi,cT,wr_in (x:=b+i) (by omega),wr_in (x:=a+i) (by omega),x1,bS,y1,bS,bS,Tm.eta,Tm.eta,z1,bS,wr_in (x:=i+1) (by omega)]
  ·refine .inl ⟨g,hg,λk0 nx=> ?_⟩
   unfold z4h.b1
   rw[dF hi,cF]) (n.toNat+1) (0,h) ⟨by simp,h0,.refl h⟩ (by simp)
 exact⟨r,r1,n.toNat+1,r2 _⟩
noncomputable def gRot:List Tm->Int->Int->Int->Option (List Tm):=λh a m b=>pickO λr=>Sub2 h r/\z4f.Does ⟨gSwap⟩ h a m b r
theorem rotate_ok :EO (z4f.ent gRot):=z4f.ok (G:=⟨gSwap⟩) ⟨swapRange_ok,trivial⟩ λ_ _ _ _ _ hr=>(pickO_some hr).2
theorem rotate_ex {h:List Tm} {a m b:Int} (ha:0<=a) (h1:a<m) (h2:m<b) (h3:b<=h.length) (hl:h.length<=4294967296):∃r,gRot h a m b=some r/\Sub2 h r:=by
 suffices hh:∃r,Sub2 h r/\z4f.Does ⟨gSwap⟩ h a m b r by
  obtain⟨r,r1,r2,r3⟩:=pickO_ex hh
  exact⟨r,r1,r2⟩
 obtain⟨⟨i,g⟩,⟨i0,i1,i2,hg⟩,r2⟩:=iterM (R:=AT×List Ob) (A:=Int×List Tm) (λv:Int×Int×List Tm=>(v.1+v.2.1).toNat) (λk0 v nx=>z4f.b2 ⟨gSwap⟩ ((b-a).toNat+1) m v.1 v.2.1 v.2.2 (λy0 y1 y2=>nx (y0,y1,y2)) (λx y=>k0 (x,y))) (λv=>0<v.1/\0<v.2.1/\v.1<=m-a/\v.2.1<=b-m/\Sub2 h v.2.2) (λv=>0<v.1/\v.1<=m-a/\v.1<=b-m/\Sub2 h v.2) (by
  rintro⟨i,j,g⟩ ⟨i0,j0,i1,j1,hg⟩
  simp only at i0 j0 i1 j1 hg ⊢
  have hgl:=hg.1
  by_cases hij:i=j
  ·refine .inl ⟨(i,g),⟨i0,i1,by simp only;omega,hg⟩,λk0 nx=> ?_⟩
   unfold z4f.b2
   rw[dT hij,Bool.not_true,cF]
  ·refine .inr ?_
   by_cases hlt:j<i
   ·obtain⟨r,r1,r2⟩:=swap_ex (h:=g) (a:=m-i) (b:=m) (n:=j) (by omega) (by omega) (by omega) (by omega) (by omega) (by omega)
    refine⟨(i-j,j,r),⟨by simp only;omega,j0,by simp only;omega,j1,hg.trans r2⟩,by simp only;omega,λk0 nx=> ?_⟩
    unfold z4f.b2
    rw[dF hij,Bool.not_false,cT,dT hlt,cT,wr_in (x:=m-i) (by omega)]
    show Option.bind (gSwap g (m-i) m j) _=_
    rw[r1,bS,wr_in (x:=i-j) (by omega)]
   ·obtain⟨r,r1,r2⟩:=swap_ex (h:=g) (a:=m-i) (b:=m+j-i) (n:=i) (by omega) (by omega) (by omega) (by omega) (by omega) (by omega)
    refine⟨(i,j-i,r),⟨i0,by simp only;omega,i1,by simp only;omega,hg.trans r2⟩,by simp only;omega,λk0 nx=> ?_⟩
    unfold z4f.b2
    rw[dF hij,Bool.not_false,cT,dF hlt,cF,wr_in (x:=m-i) (by omega),wr_in (x:=m+j) (by omega),wr_in (x:=m+j-i) (by omega)]
    show Option.bind (gSwap g (m-i) (m+j-i) i) _=_
    rw[r1,bS,wr_in (x:=j-i) (by omega)]) ((b-a).toNat+1) (m-a,b-m,h) ⟨by simp only;omega,by simp only;omega,by simp,by simp,.refl h⟩ (by simp only;omega)
 simp only at i0 i1 i2 hg
 have hgl:=hg.1
 obtain⟨r,r3,r4⟩:=swap_ex (h:=g) (a:=m-i) (b:=m) (n:=i) (by omega) (by omega) (by omega) (by omega) (by omega) (by omega)
 refine⟨r,hg.trans r4,(b-a).toNat+1,?_⟩
 unfold z4f.main
 rw[wr_in (x:=m-a) (by omega),wr_in (x:=b-m) (by omega)]
 refine(r2 (λv=>Option.bind (gSwap v.2 (wr (m-v.1)) m v.1) λr=>OUT r)).trans ?_
 rw[wr_in (x:=m-i) (by omega),r3,bS]
open Classical
theorem bin_ex {R:Type} (B:(Int->Option R)->Int×Int->(Int×Int->Option R)->Option R) (lo hi:Int)
  (hh:∀i j,lo<=i->i<j->j<=hi->(∀k0 nx,B k0 (i,j) nx=nx ((i+j) / 2+1,j))\/(∀k0 nx,B k0 (i,j) nx=nx (i,(i+j) / 2))) (he:∀i j,¬i<j->∀k0 nx,B k0 (i,j) nx=k0 i) (m:Nat) (i j:Int) (h1:lo<=i) (h2:i<=j) (h3:j<=hi) (hm:(j-i).toNat<m):
  ∃r,(i<=r/\r<=j)/\∀k0,iter (B k0) m (i,j)=k0 r:=by
 refine iterM (λv:Int×Int=>(v.2-v.1).toNat) B (λv=>i<=v.1/\v.1<=v.2/\v.2<=j) (λr=>i<=r/\r<=j) ?_ m (i,j) ⟨Int.le_refl _,h2,Int.le_refl _⟩ hm
 rintro⟨x,y⟩ ⟨q1,q2,q3⟩
 simp only at q1 q2 q3 ⊢
 by_cases hxy:x<y
 ·refine .inr ?_
  rcases hh x y (by omega) hxy (by omega)with h|h
  ·exact⟨_,⟨by simp only;omega,by simp only;omega,q3⟩,by simp only;omega,h⟩
  ·exact⟨_,⟨q1,by simp only;omega,by simp only;omega⟩,by simp only;omega,h⟩
 ·exact .inl ⟨x,⟨q1,by omega⟩,he x y hxy⟩
noncomputable abbrev GSy (K:Nat) (g:List Tm->Int->Int->Int->Option (List Tm)):z4i.Gs:={z04:=gCmp K,z4f:=gRot,z4i:=g}
noncomputable def gSym (K:Nat):Nat->List Tm->Int->Int->Int->Option (List Tm)
 |0=>λ_ _ _ _=>none
 |k+1=>λh a m b=>pickO λr=>Sub2 h r/\z4i.Does (GSy K (gSym K k)) h a m b r
theorem symMerge_ok (K:Nat) (hK:K<=4294967296):∀k,EO (z4i.ent (gSym K k))
 | 0 => fun R xs H K r h => by
  simp only[z4i.ent]at h
  split at h
  ·simp[gSym]at h
  ·cases h
 |k+1=>z4i.ok (G:=GSy K (gSym K k)) ⟨z05 K hK,rotate_ok,symMerge_ok K hK k,trivial⟩ λ_ _ _ _ _ hr=>(pickO_some hr).2
section
variable {R : Type} {K : Nat} {g : List Tm → Int → Int → Int → Option (List Tm)} {h : List Tm} (hK : ∀ x ∈ h, x.total < K) (hl : h.length ≤ 2147483648)
include hK hl
theorem sy_l3 (n:Nat) (a i j:Int) (ha:0<=a) (ha2:a<h.length) (h1:0<=i) (h2:i<=j) (h3:j<=h.length) (hn:h.length<n):∃r,(i<=r/\r<=j)/\∀k0:Int->Option R,z4i.l3 (GSy K g) n n a h i j k0=k0 r:=by
 refine bin_ex (R:=R) (λk0 v nx=>z4i.b3 (GSy K g) n a h v.1 v.2 (λy0 y1=>nx (y0,y1)) k0) 0 h.length ?_ ?_ n i j h1 h2 h3 (by omega)
 ·intro x y x0 xy yl
  obtain⟨e2,p1,p2⟩:=ix_mem2 (h:=h) (i:=(x+y) / 2) (by omega) (by omega)
  obtain⟨e4,p3,p4⟩:=ix_mem2 (h:=h) (i:=a) ha ha2
  by_cases hc:cmpT e2 e4<0
  ·refine .inl λk0 nx=> ?_
   unfold z4i.b3
   simp only
   rw[dT xy,cT,mid_eq (by omega) (by omega),bS,wr_in (x:=(x+y) / 2) (by omega),p1,bS,p3,bS,Tm.eta,Tm.eta]
   show Option.bind (gCmp K e2 e4) _=_
   unfold gCmp
   rw[if_pos (hK _ p2),bS,dT hc,cT,wr_in (x:=(x+y) / 2+1) (by omega)]
  ·refine .inr λk0 nx=> ?_
   unfold z4i.b3
   simp only
   rw[dT xy,cT,mid_eq (by omega) (by omega),bS,wr_in (x:=(x+y) / 2) (by omega),p1,bS,p3,bS,Tm.eta,Tm.eta]
   show Option.bind (gCmp K e2 e4) _=_
   unfold gCmp
   rw[if_pos (hK _ p2),bS,dF hc,cF]
 ·intro x y xy k0 nx
  unfold z4i.b3
  simp only
  rw[dF xy,cF]
theorem sy_l15 (n:Nat) (a i j:Int) (ha:0<=a) (ha2:a<h.length) (h1:0<=i) (h2:i<=j) (h3:j<=h.length) (hn:h.length<n):∃r,(i<=r/\r<=j)/\∀k0:Int->Option R,z4i.l15 (GSy K g) n n a h i j k0=k0 r:=by
 refine bin_ex (R:=R) (λk0 v nx=>z4i.b15 (GSy K g) n a h v.1 v.2 (λy0 y1=>nx (y0,y1)) k0) 0 h.length ?_ ?_ n i j h1 h2 h3 (by omega)
 ·intro x y x0 xy yl
  obtain⟨e4,p1,p2⟩:=ix_mem2 (h:=h) (i:=(x+y) / 2) (by omega) (by omega)
  obtain⟨e2,p3,p4⟩:=ix_mem2 (h:=h) (i:=a) ha ha2
  by_cases hc:cmpT e2 e4<0
  ·refine .inr λk0 nx=> ?_
   unfold z4i.b15
   simp only
   rw[dT xy,cT,mid_eq (by omega) (by omega),bS,wr_in (x:=(x+y) / 2) (by omega),p3,bS,p1,bS,Tm.eta,Tm.eta]
   show Option.bind (gCmp K e2 e4) _=_
   unfold gCmp
   rw[if_pos (hK _ p4),bS,dT hc,Bool.not_true,cF]
  ·refine .inl λk0 nx=> ?_
   unfold z4i.b15
   simp only
   rw[dT xy,cT,mid_eq (by omega) (by omega),bS,wr_in (x:=(x+y) / 2) (by omega),p3,bS,p1,bS,Tm.eta,Tm.eta]
   show Option.bind (gCmp K e2 e4) _=_
   unfold gCmp
   rw[if_pos (hK _ p4),bS,dF hc,Bool.not_false,cT,wr_in (x:=(x+y) / 2+1) (by omega)]
 ·intro x y xy k0 nx
  unfold z4i.b15
  simp only
  rw[dF xy,cF]
theorem sy_l33 (n:Nat) (a m b mid n1 p i j:Int) (hp:∀c,i<=c->c<j->0<=p-c/\p-c<h.length) (hp0: -4294967296<=p/\p<=8589934592) (h1:0<=i) (h2:i<=j) (h3:j<=h.length) (hn:h.length<n):∃r,(i<=r/\r<=j)/\∀k0:Int->Option R,z4i.l33 (GSy K g) n n a m b mid n1 p h i j k0=k0 r:=by
 refine bin_ex (R:=R) (λk0 v nx=>z4i.b33 (GSy K g) n a m b mid n1 p h v.1 v.2 (λy0 y1=>nx (y0,y1)) k0) i j ?_ ?_ n i j (Int.le_refl _) h2 (Int.le_refl _) (by omega)
 ·intro x y x0 xy yl
  obtain⟨e4,p1,p2⟩:=ix_mem2 (h:=h) (i:=(x+y) / 2) (by omega) (by omega)
  have hpc:=hp ((x+y) / 2) (by omega) (by omega)
  obtain⟨e2,p3,p4⟩:=ix_mem2 (h:=h) (i:=p-(x+y) / 2) hpc.1 hpc.2
  by_cases hc:cmpT e2 e4<0
  ·refine .inr λk0 nx=> ?_
   unfold z4i.b33
   simp only
   rw[dT xy,cT,mid_eq (by omega) (by omega),bS,wr_in (x:=(x+y) / 2) (by omega),wr_in (x:=p-(x+y) / 2) (by omega),p3,bS,p1,bS,Tm.eta,Tm.eta]
   show Option.bind (gCmp K e2 e4) _=_
   unfold gCmp
   rw[if_pos (hK _ p4),bS,dT hc,Bool.not_true,cF]
  ·refine .inl λk0 nx=> ?_
   unfold z4i.b33
   simp only
   rw[dT xy,cT,mid_eq (by omega) (by omega),bS,wr_in (x:=(x+y) / 2) (by omega),wr_in (x:=p-(x+y) / 2) (by omega),p3,bS,p1,bS,Tm.eta,Tm.eta]
   show Option.bind (gCmp K e2 e4) _=_
   unfold gCmp
   rw[if_pos (hK _ p4),bS,dF hc,Bool.not_false,cT,wr_in (x:=(x+y) / 2+1) (by omega)]
 ·intro x y xy k0 nx
  unfold z4i.b33
  simp only
  rw[dF xy,cF]
omit hK in
theorem sy_l9 (n:Nat) (i k:Int) (h1:0<=k) (h2:i<=h.length) (hi0:0<=i) (hkl:k<=h.length) (hn:h.length<n):∃r,Sub2 h r/\∀k0:List Tm->Option R,z4i.l9 (GSy K g) n n i k h k0=k0 r:=by
 refine iterM (R:=R) (A:=List Tm) (λv:Int×List Tm=>(h.length-v.1).toNat) (λk0 v nx=>z4i.b9 (GSy K g) n i v.1 v.2 (λy0 y1=>nx (y0,y1)) k0) (λv=>0<=v.1/\v.1<=h.length/\Sub2 h v.2) (Sub2 h) ?_ n (k,h) ⟨h1,hkl,.refl h⟩ (by simp only;omega)
 rintro⟨k,f⟩ ⟨k0,k1,hf⟩
 simp only at k0 k1 hf ⊢
 have hfl:=hf.1
 by_cases hk:k<i-1
 ·obtain⟨x,x1,x2⟩:=ix_mem2 (h:=f) (i:=k+1) (by omega) (by omega)
  obtain⟨y,y1,y2⟩:=ix_mem2 (h:=f) (i:=k) (by omega) (by omega)
  obtain⟨z,z1,z2⟩:=ix_mem2 (h:=f.set k.toNat x) (i:=k+1) (by omega) (by simp;omega)
  refine .inr ⟨(k+1,(f.set k.toNat x).set (k+1).toNat y),⟨by simp only;omega,by simp only;omega,(hf.set (hf.2 x x2)).set (hf.2 y y2)⟩,by simp only;omega,λc0 nx=> ?_⟩
  unfold z4i.b9
  rw[wr_in (x:=i-1) (by omega),dT hk,cT,wr_in (x:=k+1) (by omega),x1,bS,y1,bS,bS,Tm.eta,Tm.eta,z1,bS]
 ·refine .inl ⟨f,hf,λc0 nx=> ?_⟩
  unfold z4i.b9
  rw[wr_in (x:=i-1) (by omega),dF hk,cF]
omit hK in
theorem sy_l21 (n:Nat) (i k:Int) (h1:0<=i) (h2:k<h.length) (hk0:0<=k) (hn:h.length<n):∃r,Sub2 h r/\∀k0:List Tm->Option R,z4i.l21 (GSy K g) n n i k h k0=k0 r:=by
 refine iterM (R:=R) (A:=List Tm) (λv:Int×List Tm=>v.1.toNat) (λk0 v nx=>z4i.b21 (GSy K g) n i v.1 v.2 (λy0 y1=>nx (y0,y1)) k0) (λv=>0<=v.1/\v.1<h.length/\Sub2 h v.2) (Sub2 h) ?_ n (k,h) ⟨hk0,h2,.refl h⟩ (by simp only;omega)
 rintro⟨k,f⟩ ⟨k0,k1,hf⟩
 simp only at k0 k1 hf ⊢
 have hfl:=hf.1
 by_cases hk:i<k
 ·obtain⟨x,x1,x2⟩:=ix_mem2 (h:=f) (i:=k-1) (by omega) (by omega)
  obtain⟨y,y1,y2⟩:=ix_mem2 (h:=f) (i:=k) (by omega) (by omega)
  obtain⟨z,z1,z2⟩:=ix_mem2 (h:=f.set k.toNat x) (i:=k-1) (by omega) (by simp;omega)
  refine .inr ⟨(k-1,(f.set k.toNat x).set (k-1).toNat y),⟨by simp only;omega,by simp only;omega,(hf.set (hf.2 x x2)).set (hf.2 y y2)⟩,by simp only;omega,λc0 nx=> ?_⟩
  unfold z4i.b21
  rw[dT hk,cT,wr_in (x:=k-1) (by omega),x1,bS,y1,bS,bS,Tm.eta,Tm.eta,z1,bS]
 ·refine .inl ⟨f,hf,λc0 nx=> ?_⟩
  unfold z4i.b21
  rw[dF hk,cF]
end
theorem sym_ex {K:Nat}:∀(k:Nat) (h:List Tm) (a m b:Int),(∀x∈h,x.total<K)->h.length<=2147483648->0<=a->a<m->m<b->b<=h.length->(b-a).toNat<k->∃r,gSym K k h a m b=some r/\Sub2 h r
 |0,_,_,_,_,_,_,_,_,_,_,hk=>absurd hk (Nat.not_lt_zero _)
 | k + 1, h, a, m, b, hK, hl, ha, h1, h2, h3, hk => by
  suffices hh:∃r,Sub2 h r/\z4i.Does (GSy K (gSym K k)) h a m b r by
   obtain⟨r,r1,r2,r3⟩:=pickO_ex hh
   exact⟨r,r1,r2⟩
  suffices hh:∃r,Sub2 h r/\z4i.main (GSy K (gSym K k)) (h.length+1) h a m b OUT=OUT r from hh.imp λr q=>⟨q.1,_,q.2⟩
  unfold z4i.main
  rw[wr_in (x:=m-a) (by omega),wr_in (x:=b-m) (by omega)]
  by_cases c1:m-a=1
  ·obtain⟨i2,p1,p2⟩:=sy_l3 (R:=AT×List Ob) (g:=gSym K k) hK hl (h.length+1) a m b ha (by omega) (by omega) (by omega) h3 (by omega)
   obtain⟨r,r1,r2⟩:=sy_l9 (R:=AT×List Ob) (K:=K) (g:=gSym K k) hl (h.length+1) i2 a ha (by omega) (by omega) (by omega) (by omega)
   exact⟨r,r1,by rw[dT c1,cT,p2,r2]⟩
  ·rw [decide_eq_false c1, cond_false]
   by_cases c2:b-m=1
   ·obtain⟨i2,p1,p2⟩:=sy_l15 (R:=AT×List Ob) (g:=gSym K k) hK hl (h.length+1) m a m (by omega) (by omega) ha (by omega) (by omega) (by omega)
    obtain⟨r,r1,r2⟩:=sy_l21 (R:=AT×List Ob) (K:=K) (g:=gSym K k) hl (h.length+1) i2 m (by omega) (by omega) (by omega) (by omega)
    exact⟨r,r1,by rw[dT c2,cT,p2,r2]⟩
   ·rw [decide_eq_false c2, cond_false, mid_eq (by omega) (by omega)]
    simp only[bS]
    rw[wr_in (x:=(a+b) / 2) (by omega)]
    obtain⟨mid,hmid⟩:∃mid,mid=(a+b) / 2:=⟨_,rfl⟩
    rw[<-hmid]
    have hm1:a<mid:=by omega
    have hm2:mid<b:=by omega
    rw[wr_in (x:=mid+m) (by omega),wr_in (x:=mid+m-b) (by omega)]
    have c43:∀(f:List Tm) (e:Int),Sub2 h f->mid<=e->e<=b->∃r,Sub2 h r/\z4i.c43 (GSy K (gSym K k)) (h.length+1) b mid e f OUT=OUT r:=λf e hf e1 e2=>by
     unfold z4i.c43
     by_cases d1:mid<e
     ·rw[dT d1,cT]
      by_cases d2:e<b
      ·obtain⟨r,r1,r2⟩:=sym_ex k f mid e b (λx hx=>hK x (hf.2 x hx)) (by rw[hf.1];exact hl) (by omega) d1 d2 (by rw[hf.1];exact h3) (by omega)
       refine⟨r,hf.trans r2,?_⟩
       rw[dT d2,cT]
       show Option.bind (gSym K k f mid e b) _=_
       rw[r1,bS]
      ·exact⟨f,hf,by rw[dF d2,cF]⟩
     ·exact⟨f,hf,by rw[dF d1,cF]⟩
    have c41:∀(f:List Tm) (s e:Int),Sub2 h f->a<=s->s<=mid->mid<=e->e<=b->∃r,Sub2 h r/\z4i.c41 (GSy K (gSym K k)) (h.length+1) a b mid s e f OUT=OUT r:=λf s e hf s1 s2 e1 e2=>by
     unfold z4i.c41
     by_cases d1:a<s
     ·rw[dT d1,cT]
      by_cases d2:s<mid
      ·obtain⟨r,r1,r2⟩:=sym_ex k f a s mid (λx hx=>hK x (hf.2 x hx)) (by rw[hf.1];exact hl) ha d1 d2 (by rw[hf.1];omega) (by omega)
       obtain⟨r',q1,q2⟩:=c43 r e (hf.trans r2) e1 e2
       refine⟨r',q1,?_⟩
       rw[dT d2,cT]
       show Option.bind (gSym K k f a s mid) _=_
       rw[r1,bS]
       exact q2
      ·obtain⟨r',q1,q2⟩:=c43 f e hf e1 e2
       exact⟨r',q1,by rw[dF d2,cF];exact q2⟩
     ·obtain⟨r',q1,q2⟩:=c43 f e hf e1 e2
      exact⟨r',q1,by rw[dF d1,cF];exact q2⟩
    have c32:∀(i j:Int),a<=i->i<=j->j<=mid->j<=m->mid+m-i<=b->∃r,Sub2 h r/\z4i.c32 (GSy K (gSym K k)) (h.length+1) a m b mid (mid+m) i j h OUT=OUT r:=λi j i1 i2 i3 i4 i5=>by
     unfold z4i.c32
     rw[wr_in (x:=mid+m-1) (by omega)]
     obtain⟨s,p1,p2⟩:=sy_l33 (R:=AT×List Ob) (g:=gSym K k) hK hl (h.length+1) a m b mid (mid+m) (mid+m-1) i j (λc h1 h2=>by omega) (by omega) (by omega) i2 (by omega) (by omega)
     have w:wr (mid+m-s)=mid+m-s:=wr_in (by omega)
     by_cases d1:s<m
     ·by_cases d2:m<mid+m-s
      ·obtain⟨r,r1,r2⟩:=rotate_ex (h:=h) (a:=s) (m:=m) (b:=mid+m-s) (by omega) d1 d2 (by omega) (by omega)
       obtain⟨r',q1,q2⟩:=c41 r s (mid+m-s) r2 (by omega) (by omega) (by omega) (by omega)
       refine⟨r',q1,?_⟩
       rw[p2,w,dT d1,cT,dT d2,cT]
       show Option.bind (gRot h s m (mid+m-s)) _=_
       rw[r1,bS]
       exact q2
      ·obtain⟨r',q1,q2⟩:=c41 h s (mid+m-s) (.refl h) (by omega) (by omega) (by omega) (by omega)
       refine⟨r',q1,?_⟩
       rw[p2,w,dT d1,cT,dF d2,cF]
       exact q2
     ·obtain⟨r',q1,q2⟩:=c41 h s (mid+m-s) (.refl h) (by omega) (by omega) (by omega) (by omega)
      refine⟨r',q1,?_⟩
      rw[p2,w,dF d1,cF]
      exact q2
    by_cases d:mid<m
    ·rw[dT d,cT]
     exact c32 (mid+m-b) mid (by omega) (by omega) (Int.le_refl _) (by omega) (by omega)
    ·rw[dF d,cF]
     exact c32 a m (Int.le_refl _) (by omega) (by omega) (Int.le_refl _) (by omega)
open Classical
def posT (x:Tm) (l:List Tm):Nat->Nat
 |0=>0
 | n + 1 => match l[n]? with
  |some y=>if 0<cmpT y x then posT x l n else n+1
  |none=>n+1
def insT (l:List Tm) (x:Tm):List Tm:=l.take (posT x l l.length)++x::l.drop (posT x l l.length)
def sortT (l:List Tm):List Tm:=l.foldl insT []
theorem posT_le (x:Tm) (l:List Tm):∀n,posT x l n<=n
 |0=>Nat.le_refl _
 | n + 1 => by
  unfold posT
  split
  ·split
   ·have:=posT_le x l n;omega
   ·omega
  ·omega
theorem insT_len (l:List Tm) (x:Tm):(insT l x).length=l.length+1:=by
 have:=posT_le x l l.length
 simp[insT];omega
theorem mem_insT {l:List Tm} {x y:Tm}:y∈insT l x↔y=x\/y∈l:=by
 unfold insT
 rw[List.mem_append,List.mem_cons]
 constructor
 ·rintro(h|h|h)
  ·exact .inr (List.mem_of_mem_take h)
  ·exact .inl h
  ·exact .inr (List.mem_of_mem_drop h)
 ·rintro(h|h)
  ·exact .inr (.inl h)
  ·rw[<-List.take_append_drop (posT x l l.length) l]at h
   rcases List.mem_append.1 h with h|h
   ·exact .inl h
   ·exact .inr (.inr h)
theorem fold_insT :∀(xs l:List Tm),(xs.foldl insT l).length=l.length+xs.length/\∀y,y∈xs.foldl insT l↔y∈l\/y∈xs
 |[],l=>by simp
 | x :: xs, l => by
  obtain⟨h1,h2⟩:=fold_insT xs (insT l x)
  refine⟨by rw[List.foldl_cons,h1,insT_len,List.length_cons];omega,λy=> ?_⟩
  rw[List.foldl_cons,h2,mem_insT,List.mem_cons]
  constructor
  ·rintro((h|h)|h)
   ·exact .inr (.inl h)
   ·exact .inl h
   ·exact .inr (.inr h)
  ·rintro(h|h|h)
   ·exact .inl (.inr h)
   ·exact .inl (.inl h)
   ·exact .inr h
theorem sortT_len (l:List Tm):(sortT l).length=l.length:=by have:=(fold_insT l []).1;simpa [sortT]using this
theorem mem_sortT {l:List Tm} {y:Tm}:y∈sortT l↔y∈l:=by have:=(fold_insT l []).2 y;simpa [sortT]using this
theorem sortT_sub (l:List Tm):Sub2 l (sortT l):=⟨sortT_len l,λ_ h=>mem_sortT.1 h⟩
theorem sortT_take {l:List Tm} {i:Nat} {x:Tm} (h:l[i]? =some x):sortT (l.take (i+1))=insT (sortT (l.take i)) x:=fold_take h
section
variable {R : Type}
theorem ss_pos (K n:Nat) (list:List Tm) (i:Nat) (x:Tm) (hx:list[i]? =some x) (l:List Tm) (hl:∀y∈l,y.total<K) (hll:l.length<=2147483648) (gC:List Tm->Option (List Tm)) (k0:Int->Option R):∀m j,j<=l.length->j<m->z2z.l6 ⟨gCmp K,gC⟩ n m list (i:Int) l (j:Int) k0=k0 ((posT x l j:Nat):Int):=by
 intro m
 induction m with
 |zero=>intro j _ hm;omega
 | succ m ih =>
  intro j h1 hm
  show z2z.b6 ⟨gCmp K,gC⟩ n list (i:Int) l (j:Int) (λy0=>z2z.l6 ⟨gCmp K,gC⟩ n m list (i:Int) l y0 k0) k0=_
  unfold z2z.b6
  cases j with
  |zero=>rw[dF (by omega),cF];rfl
  | succ j =>
   obtain⟨y,y1,y2⟩:=get_lt (xs:=l) (i:=j) (by omega)
   rw[dT (by omega),cT,wr_in (x:=((j+1:Nat):Int)-1) (by omega),show ((j+1:Nat):Int)-1=(j:Int) by omega,ix_get y1,bS,ix_get hx,bS,Tm.eta,Tm.eta]
   show Option.bind (gCmp K y x) _=_
   unfold gCmp
   rw[if_pos (hl y y2),bS]
   unfold posT
   rw[y1]
   simp only
   by_cases hc:0<cmpT y x
   ·rw[dT hc,cT,if_pos hc]
    exact ih j (by omega) (by omega)
   ·rw[dF hc,cF,if_neg hc]
theorem ss_loop (K n:Nat) (list:List Tm) (hl:∀y∈list,y.total<K) (hll:list.length<=2147483648) (hn:list.length<n) (gC:List Tm->Option (List Tm)) (k0:List Tm->Option R):∀m i,i<=list.length->list.length-i<m->z2z.l3 ⟨gCmp K,gC⟩ n m list (i:Int) (sortT (list.take i)) k0=k0 (sortT list):=by
 intro m
 induction m with
 |zero=>intro i _ hm;omega
 | succ m ih =>
  intro i h1 hm
  show z2z.b3 ⟨gCmp K,gC⟩ n list (i:Int) (sortT (list.take i)) (λy0 y1=>z2z.l3 ⟨gCmp K,gC⟩ n m list y0 y1 k0) k0=_
  unfold z2z.b3
  by_cases hi:i<list.length
  ·obtain⟨x,x1,x2⟩:=get_lt hi
   have hsl:(sortT (list.take i)).length=i:=by rw[sortT_len,List.length_take];omega
   have hp:=posT_le x (sortT (list.take i)) (sortT (list.take i)).length
   rw[lt_nat hi,cT,ss_pos K n list i x x1 _ (λy hy=>hl y (List.mem_of_mem_take (mem_sortT.1 hy))) (by omega) gC _ n _ (Nat.le_refl _) (by omega)]
   have e1:pairL (sortT (list.take i)) [] ((posT x (sortT (list.take i)) (sortT (list.take i)).length:Nat):Int)=some ((sortT (list.take i)).drop (posT x (sortT (list.take i)) (sortT (list.take i)).length)):=by
    unfold pairL
    rw[dT (by omega),dT (by omega),Bool.true_and,cT,List.nil_append,Int.toNat_natCast,lim_le (by simp;omega)]
   have e2:takeL (sortT (list.take i)) ((posT x (sortT (list.take i)) (sortT (list.take i)).length:Nat):Int)=some ((sortT (list.take i)).take (posT x (sortT (list.take i)) (sortT (list.take i)).length)):=by
    unfold takeL
    rw[dT (by omega),dT (by omega),Bool.true_and,cT,Int.toNat_natCast]
   rw[e1,bS,e2,bS,ix_get x1,bS,Tm.eta,lim_le (by simp;omega),bS,lim_le (by simp;omega),bS,wr_one (by omega)]
   have e3:(sortT (list.take i)).take (posT x (sortT (list.take i)) (sortT (list.take i)).length)++[x]++(sortT (list.take i)).drop (posT x (sortT (list.take i)) (sortT (list.take i)).length)=sortT (list.take (i+1)):=by
    rw[sortT_take x1]
    unfold insT
    rw[List.append_assoc]
    rfl
   rw[e3]
   exact ih (i+1) hi (by omega)
  ·obtain rfl:i=list.length:=by omega
   rw[nlt_nat hi,cF,take_all]
end
theorem insT_total (l:List Tm) (x:Tm):tmTotals (insT l x)=tmTotals l+(1+x.total):=by
 have app:∀a b:List Tm,tmTotals (a++b)=tmTotals a+tmTotals b:=λa b=>by
  unfold tmTotals;simp;omega
 unfold insT
 rw[app,tmT_cons]
 have:=app (l.take (posT x l l.length)) (l.drop (posT x l l.length))
 rw[List.take_append_drop]at this
 omega
theorem sortT_total (l:List Tm):tmTotals (sortT l)=tmTotals l:=by
 have:∀(xs l:List Tm),tmTotals (xs.foldl insT l)=tmTotals l+tmTotals xs:=λxs=>by
  induction xs with
  |nil=>intro l;rw[List.foldl_nil,tmT_nil];omega
  |cons x xs ih=>intro l;rw[List.foldl_cons,ih,insT_total,tmT_cons];omega
 have:=this l []
 rw[tmT_nil]at this
 unfold sortT
 omega
abbrev gSortS (k:Nat):List Tm->Option (List Tm):=λl=>if tmTotals l<k/\l.length<=2147483648 then some (sortT l)else none
theorem z30 (k:Nat) (hk:k<=4294967296):EO (z2z.ent (gSortS k)):=z2z.ok (G:=⟨gCmp k,gCpS k⟩) ⟨z2l k hk,l5Copies_ok k hk,trivial⟩ λ(l:List Tm) r h=>by
 unfold gSortS at h
 split at h
 ·rename_i hs
  cases h
  have hl:=tmT_len l
  refine⟨l.length+1,?_⟩
  unfold z2z.main
  have e:=ss_loop k (l.length+1) l (λy hy=>by have:=tmT_mem hy;omega) hs.2 (by omega) (gCpS k) (λh02=>Option.bind (gCpS k h02) λr=>some (AT.one (.l (.n 1) r),([]:List Ob))) (l.length+1) 0 (by omega) (by omega)
  refine e.trans ?_
  unfold gCpS
  rw[if_pos (by rw[sortT_total];exact hs.1),bS]
 ·cases h
theorem swap_mid (A B:List Tm) (x y:Tm):(A++y::x::B)[A.length]? =some y/\(A++y::x::B)[A.length+1]? =some x/\((A++y::x::B).set (A.length+1) y)[A.length]? =some y/\((A++y::x::B).set (A.length+1) y).set A.length x=A++x::y::B:=by
 refine⟨by simp,by simp,?_,?_⟩
 ·rw[sN (by omega)];simp
 ·rw[List.set_append_right _ _ (by omega),show A.length+1-A.length=1 by omega]
  simp[List.set_append_right]
section
variable {R : Type}
theorem is_pos (K n:Nat) (a b:Int) (ha:a=0) (i:Int) (x:Tm) (hx:x.total<K) (l rest:List Tm) (hll:l.length+rest.length<=1073741824) (k0:List Tm->Option R):∀m j,j<=l.length->j<m->
  z4e.l4 ⟨gCmp K⟩ n m a b i (j:Int) (l.take j++x::(l.drop j++rest)) k0=k0 (l.take (posT x l j)++x::(l.drop (posT x l j)++rest)):=by
 subst ha
 intro m
 induction m with
 |zero=>intro j _ hm;omega
 | succ m ih =>
  intro j h1 hm
  show z4e.b4 ⟨gCmp K⟩ n 0 b i (j:Int) (l.take j++x::(l.drop j++rest)) (λy0 y1=>z4e.l4 ⟨gCmp K⟩ n m 0 b i y0 y1 k0) k0=_
  unfold z4e.b4
  cases j with
  |zero=>rw[dF (by omega),cF];rfl
  | succ j =>
   obtain⟨y,y1,y2⟩:=get_lt (xs:=l) (i:=j) (by omega)
   have hA:(l.take j).length=j:=by rw[List.length_take];omega
   have hD:l.take (j+1)++x::(l.drop (j+1)++rest)=l.take j++y::x::(l.drop (j+1)++rest):=by rw[take_get y1,List.append_assoc];rfl
   have hE:l.take j++x::(l.drop j++rest)=l.take j++x::y::(l.drop (j+1)++rest):=by rw[drop_get y1];rfl
   obtain⟨s1,s2,s3,s4⟩:=swap_mid (l.take j) (l.drop (j+1)++rest) x y
   rw[hA]at s1 s2 s3 s4
   rw[dT (by omega),cT,hD,wr_in (x:=((j+1:Nat):Int)-1) (by omega),show ((j+1:Nat):Int)-1=(j:Int) by omega,ix_get s2,bS,ix_get s1,bS,Tm.eta,Tm.eta]
   show Option.bind (gCmp K x y) _=_
   unfold gCmp
   rw[if_pos hx,bS]
   have hneg:=cmpT_neg (y.total+1) y x (Nat.lt_succ_self _)
   unfold posT
   rw[y1]
   simp only
   by_cases hc:0<cmpT y x
   ·rw[dT (p:=cmpT x y<0) (by omega),cT,if_pos hc]
    unfold z4e.c6
    rw[wr_in (x:=((j+1:Nat):Int)-1) (by omega),show ((j+1:Nat):Int)-1=(j:Int) by omega,ix_get s1,bS,ix_get s2,bS,bS,Tm.eta,Tm.eta,Int.toNat_natCast,Int.toNat_natCast,ix_get s3,bS,s4,<-hE]
    exact ih j (by omega) (by omega)
   ·rw[dF (p:=cmpT x y<0) (by omega),cF,if_neg hc,hD]
theorem is_loop (K n:Nat) (h:List Tm) (hK:∀x∈h,x.total<K) (hl:h.length<=1073741824) (hn:h.length<n) (k0:List Tm->Option R):∀m i,i<=h.length->h.length-i<m->
  z4e.l1 ⟨gCmp K⟩ n m 0 (h.length:Int) (i:Int) (sortT (h.take i)++h.drop i) k0=k0 (sortT h):=by
 intro m
 induction m with
 |zero=>intro i _ hm;omega
 | succ m ih =>
  intro i h1 hm
  show z4e.b1 ⟨gCmp K⟩ n 0 (h.length:Int) (i:Int) (sortT (h.take i)++h.drop i) (λy0 y1=>z4e.l1 ⟨gCmp K⟩ n m 0 (h.length:Int) y0 y1 k0) k0=_
  unfold z4e.b1
  by_cases hi:i<h.length
  ·obtain⟨x,x1,x2⟩:=get_lt hi
   have hsl:(sortT (h.take i)).length=i:=by rw[sortT_len,List.length_take];omega
   have e:=is_pos K n 0 (h.length:Int) rfl (i:Int) x (hK x x2) (sortT (h.take i)) (h.drop (i+1)) (by rw[hsl,List.length_drop];omega) (λh02=>z4e.l1 ⟨gCmp K⟩ n m 0 (h.length:Int) (wr ((i:Int)+1)) h02 k0) n i (by omega) (by omega)
   rw[List.take_of_length_le (by omega),List.drop_eq_nil_of_le (by omega),List.nil_append]at e
   rw[lt_nat hi,cT,drop_get x1,e,wr_one (by omega)]
   have e3:(sortT (h.take i)).take (posT x (sortT (h.take i)) i)++x::((sortT (h.take i)).drop (posT x (sortT (h.take i)) i)++h.drop (i+1))=sortT (h.take (i+1))++h.drop (i+1):=by
    rw[sortT_take x1]
    unfold insT
    rw[hsl,List.append_assoc]
    rfl
   rw[e3]
   exact ih (i+1) hi (by omega)
  ·obtain rfl:i=h.length:=by omega
   rw[nlt_nat hi,cF,take_all,drop_nat,List.append_nil]
end
theorem ins_ex {K:Nat} {h:List Tm} {a b:Int} (hK:∀x∈h,x.total<K) (hl:h.length<=1073741824) (ha:0<=a) (h1:a<=b) (h2:b<=h.length):∃r,Sub2 h r/\z4e.Does ⟨gCmp K⟩ h a b r:=by
 have hn:h.length<h.length+1:=by omega
 obtain⟨r,r1,r2⟩:=iterM (R:=AT×List Ob) (A:=List Tm) (λv:Int×List Tm=>(b-v.1).toNat) (λk0 v nx=>z4e.b1 ⟨gCmp K⟩ (h.length+1) a b v.1 v.2 (λy0 y1=>nx (y0,y1)) k0) (λv=>a<v.1/\v.1<=b+1/\Sub2 h v.2) (Sub2 h) (by
  rintro⟨i,g⟩ ⟨i0,i1,hg⟩
  simp only at i0 i1 hg ⊢
  have hgl:=hg.1
  by_cases hi:i<b
  ·refine .inr ?_
   obtain⟨f,f1,f2⟩:=iterM (R:=AT×List Ob) (A:=List Tm) (λv:Int×List Tm=>v.1.toNat) (λk0 v nx=>z4e.b4 ⟨gCmp K⟩ (h.length+1) a b i v.1 v.2 (λy0 y1=>nx (y0,y1)) k0) (λv=>a<=v.1/\v.1<=i/\Sub2 h v.2) (Sub2 h) (by
    rintro⟨j,f⟩ ⟨j0,j1,hf⟩
    simp only at j0 j1 hf ⊢
    have hfl:=hf.1
    by_cases hj:a<j
    ·obtain⟨x,x1,x2⟩:=ix_mem2 (h:=f) (i:=j) (by omega) (by omega)
     obtain⟨y,y1,y2⟩:=ix_mem2 (h:=f) (i:=j-1) (by omega) (by omega)
     by_cases hc:cmpT x y<0
     ·obtain⟨z,z1,z2⟩:=ix_mem2 (h:=f.set j.toNat y) (i:=j-1) (by omega) (by simp;omega)
      refine .inr ⟨(j-1,(f.set j.toNat y).set (j-1).toNat x),⟨by simp only;omega,by simp only;omega,(hf.set (hf.2 y y2)).set (hf.2 x x2)⟩,by simp only;omega,λk0 nx=> ?_⟩
      unfold z4e.b4
      rw[dT hj,cT,x1,bS,wr_in (x:=j-1) (by omega),y1,bS,Tm.eta,Tm.eta]
      show Option.bind (gCmp K x y) _=_
      unfold gCmp
      rw[if_pos (hK x (hf.2 x x2)),bS,dT hc,cT]
      unfold z4e.c6
      rw[wr_in (x:=j-1) (by omega),y1,bS,x1,bS,bS,Tm.eta,Tm.eta,z1,bS]
     ·refine .inl ⟨f,hf,λk0 nx=> ?_⟩
      unfold z4e.b4
      rw[dT hj,cT,x1,bS,wr_in (x:=j-1) (by omega),y1,bS,Tm.eta,Tm.eta]
      show Option.bind (gCmp K x y) _=_
      unfold gCmp
      rw[if_pos (hK x (hf.2 x x2)),bS,dF hc,cF]
    ·refine .inl ⟨f,hf,λk0 nx=> ?_⟩
     unfold z4e.b4
     rw[dF hj,cF]) (h.length+1) (i,g) ⟨by simp only;omega,Int.le_refl _,hg⟩ (by simp only;omega)
   refine⟨(i+1,f),⟨by simp only;omega,by simp only;omega,f1⟩,by simp only;omega,λk0 nx=> ?_⟩
   unfold z4e.b1
   rw[dT hi,cT]
   refine(f2 _).trans ?_
   rw[wr_in (x:=i+1) (by omega)]
  ·refine .inl ⟨g,hg,λk0 nx=> ?_⟩
   unfold z4e.b1
   rw[dF hi,cF]) (h.length+1) (a+1,h) ⟨by simp only;omega,by simp only;omega,.refl h⟩ (by simp only;omega)
 refine⟨r,r1,h.length+1,?_⟩
 unfold z4e.main
 rw[wr_in (x:=a+1) (by omega)]
 exact r2 OUT
theorem ins_eq {K:Nat} {h:List Tm} (hK:∀x∈h,x.total<K) (hl:h.length<=1073741824):z4e.Does ⟨gCmp K⟩ h 0 h.length (sortT h):=by
 refine⟨h.length+1,?_⟩
 unfold z4e.main
 cases h with
 |nil=>rfl
 | cons x l =>
  have e:=is_loop K ((x::l).length+1) (x::l) hK hl (by omega) OUT ((x::l).length+1) 1 (by simp) (by simp only[List.length_cons];omega)
  have e1:sortT ((x::l).take 1)++(x::l).drop 1=x::l:=rfl
  rw[e1]at e
  exact e
noncomputable def gIns (K:Nat):List Tm->Int->Int->Option (List Tm):=λh a b=>pickO λr=>Sub2 h r/\(a=0/\b=h.length->r=sortT h)/\z4e.Does ⟨gCmp K⟩ h a b r
theorem insertionSort_ok (K:Nat) (hK:K<=4294967296):EO (z4e.ent (gIns K)):=z4e.ok (G:=⟨gCmp K⟩) ⟨z05 K hK,trivial⟩ λ_ _ _ _ hr=>(pickO_some hr).2.2
theorem gIns_ex {K:Nat} {h:List Tm} {a b:Int} (hK:∀x∈h,x.total<K) (hl:h.length<=1073741824) (ha:0<=a) (h1:a<=b) (h2:b<=h.length):∃r,gIns K h a b=some r/\Sub2 h r/\(a=0/\b=h.length->r=sortT h):=by
 suffices hh:∃r,Sub2 h r/\(a=0/\b=h.length->r=sortT h)/\z4e.Does ⟨gCmp K⟩ h a b r by
  obtain⟨r,r1,r2,r3,_⟩:=pickO_ex hh
  exact⟨r,r1,r2,r3⟩
 by_cases hc:a=0/\b=h.length
 ·obtain⟨rfl,rfl⟩:=hc
  exact⟨sortT h,sortT_sub h,λ_=>rfl,ins_eq hK hl⟩
 ·obtain⟨r,r1,r2⟩:=ins_ex hK hl ha h1 h2
  exact⟨r,r1,λq=>absurd q hc,r2⟩
noncomputable abbrev GSt (K k:Nat):z4g.Gs:={z4e:=gIns K,z4i:=gSym K k}
noncomputable def gStable (K k:Nat):List Tm->Int->Option (List Tm):=λh n=>pickO λr=>Sub2 h r/\(h.length<20->r=sortT h)/\z4g.Does (GSt K k) h n r
theorem stable_ex {K k:Nat} {h:List Tm} (hK:∀x∈h,x.total<K) (hl:h.length<=1073741824) (hk:h.length<k):∃r,gStable K k h h.length=some r/\Sub2 h r/\(h.length<20->r=sortT h):=by
 suffices hh:∃r,Sub2 h r/\(h.length<20->r=sortT h)/\z4g.Does (GSt K k) h h.length r by
  obtain⟨r,r1,r2,r3,_⟩:=pickO_ex hh
  exact⟨r,r1,r2,r3⟩
 obtain⟨⟨a2,h2⟩,⟨p1,p2,p3,p4⟩,e2⟩:=iterM (R:=AT×List Ob) (A:=Int×List Tm) (λv:Int×Int×List Tm=>(h.length-v.1).toNat) (λk0 v nx=>z4g.b2 (GSt K k) (h.length+1) (h.length:Int) 20 v.1 v.2.1 v.2.2 (λy0 y1 y2=>nx (y0,y1,y2)) (λx y=>k0 (x,y))) (λv=>0<=v.1/\v.1<=h.length/\v.2.1=v.1+20/\Sub2 h v.2.2/\(h.length<20->v.1=0/\v.2.2=h)) (λv=>0<=v.1/\v.1<=h.length/\Sub2 h v.2/\(h.length<20->v.1=0/\v.2=h)) (by
  rintro⟨a,b,g⟩ ⟨a0,a1,hb,hg,h20⟩
  simp only at a0 a1 hb hg h20 ⊢
  have hgl:=hg.1
  by_cases hc:b<=h.length
  ·obtain⟨r,r1,r2,_⟩:=gIns_ex (K:=K) (h:=g) (a:=a) (b:=b) (λx hx=>hK x (hg.2 x hx)) (by omega) a0 (by omega) (by omega)
   refine .inr ⟨(b,b+20,r),⟨by simp only;omega,hc,rfl,hg.trans r2,λq=>by omega⟩,by simp only;omega,λk0 nx=> ?_⟩
   unfold z4g.b2
   rw[dT hc,cT]
   show Option.bind (gIns K g a b) _=_
   rw[r1,bS,wr_in (x:=b+20) (by omega)]
  ·refine .inl ⟨(a,g),⟨a0,a1,hg,h20⟩,λk0 nx=> ?_⟩
   unfold z4g.b2
   rw[dF hc,cF]) (h.length+1) (0,20,h) ⟨by simp,by simp,rfl,.refl h,λ_=>⟨rfl,rfl⟩⟩ (by simp)
 simp only at p1 p2 p3 p4
 have h2l:=p3.1
 obtain⟨r,r1,r2,r3⟩:=gIns_ex (K:=K) (h:=h2) (a:=a2) (b:=h.length) (λx hx=>hK x (p3.2 x hx)) (by omega) p1 p2 (by omega)
 have hr:Sub2 h r:=p3.trans r2
 have hr20:h.length<20->r=sortT h:=λq=>by
  obtain⟨q1,q2⟩:=p4 q
  subst q2
  exact r3 ⟨q1,rfl⟩
 obtain⟨f,⟨f1,f2⟩,e7⟩:=iterM (R:=AT×List Ob) (A:=List Tm) (λv:Int×List Tm=>(h.length-v.1).toNat) (λk0 v nx=>z4g.b7 (GSt K k) (h.length+1) (h.length:Int) v.1 v.2 (λy0 y1=>nx (y0,y1)) k0) (λv=>20<=v.1/\v.1<=4294967296/\Sub2 h v.2/\(h.length<20->v.2=r)) (λf=>Sub2 h f/\(h.length<20->f=r)) (by
  rintro⟨bs,g⟩ ⟨b0,b1,hg,hg2⟩
  simp only at b0 b1 hg hg2 ⊢
  have hgl:=hg.1
  by_cases hc:bs<h.length
  ·refine .inr ?_
   obtain⟨⟨a3,g3⟩,⟨q1,q2,q3⟩,e9⟩:=iterM (R:=AT×List Ob) (A:=Int×List Tm) (λv:Int×Int×List Tm=>(h.length-v.1).toNat) (λk0 v nx=>z4g.b9 (GSt K k) (h.length+1) (h.length:Int) bs v.1 v.2.1 v.2.2 (λy0 y1 y2=>nx (y0,y1,y2)) (λx y=>k0 (x,y))) (λv=>0<=v.1/\v.1<=h.length/\v.2.1=v.1+2*bs/\Sub2 h v.2.2) (λv=>0<=v.1/\v.1<=h.length/\Sub2 h v.2) (by
    rintro⟨a,b,f⟩ ⟨a0,a1,hb,hf⟩
    simp only at a0 a1 hb hf ⊢
    have hfl:=hf.1
    by_cases hd:b<=h.length
    ·obtain⟨r,r1,r2⟩:=sym_ex (K:=K) k f a (a+bs) b (λx hx=>hK x (hf.2 x hx)) (by omega) a0 (by omega) (by omega) (by omega) (by omega)
     refine .inr ⟨(b,b+2*bs,r),⟨by simp only;omega,hd,rfl,hf.trans r2⟩,by simp only;omega,λk0 nx=> ?_⟩
     unfold z4g.b9
     rw[dT hd,cT,wr_in (x:=a+bs) (by omega)]
     show Option.bind (gSym K k f a (a+bs) b) _=_
     rw[r1,bS,wr_in (x:=2*bs) (by omega),wr_in (x:=b+2*bs) (by omega)]
    ·refine .inl ⟨(a,f),⟨a0,a1,hf⟩,λk0 nx=> ?_⟩
     unfold z4g.b9
     rw[dF hd,cF]) (h.length+1) (0,2*bs,g) ⟨by simp,by simp,by simp,hg⟩ (by simp)
   simp only at q1 q2 q3
   have h3l:=q3.1
   by_cases hd:a3+bs<h.length
   ·obtain⟨r',r1',r2'⟩:=sym_ex (K:=K) k g3 a3 (a3+bs) h.length (λx hx=>hK x (q3.2 x hx)) (by omega) q1 (by omega) hd (by omega) (by omega)
    refine⟨(bs*2,r'),⟨by simp only;omega,by simp only;omega,q3.trans r2',λq=>by omega⟩,by simp only;omega,λk0 nx=> ?_⟩
    unfold z4g.b7
    rw[dT hc,cT,wr_in (x:=2*bs) (by omega)]
    refine(e9 (λv=>bif decide ((wr (v.1+bs))<(h.length:Int))then Option.bind (gSym K k v.2 v.1 (wr (v.1+bs)) h.length) λr=>nx (wr (bs*2),r)else nx (wr (bs*2),v.2))).trans ?_
    rw[wr_in (x:=a3+bs) (by omega),dT hd,cT,r1',bS,wr_in (x:=bs*2) (by omega)]
   ·refine⟨(bs*2,g3),⟨by simp only;omega,by simp only;omega,q3,λq=>by omega⟩,by simp only;omega,λk0 nx=> ?_⟩
    unfold z4g.b7
    rw[dT hc,cT,wr_in (x:=2*bs) (by omega)]
    refine(e9 (λv=>bif decide ((wr (v.1+bs))<(h.length:Int))then Option.bind (gSym K k v.2 v.1 (wr (v.1+bs)) h.length) λr=>nx (wr (bs*2),r)else nx (wr (bs*2),v.2))).trans ?_
    rw[wr_in (x:=a3+bs) (by omega),dF hd,cF,wr_in (x:=bs*2) (by omega)]
  ·refine .inl ⟨g,⟨hg,hg2⟩,λk0 nx=> ?_⟩
   unfold z4g.b7
   rw[dF hc,cF]) (h.length+1) (20,r) ⟨by simp,by simp,hr,λ_=>rfl⟩ (by simp only;omega)
 refine⟨f,f1,λq=>(f2 q).trans (hr20 q),h.length+1,?_⟩
 unfold z4g.main
 refine(e2 (λv=>Option.bind (gIns K v.2 v.1 h.length) λr=>z4g.l7 (GSt K k) (h.length+1) (h.length+1) (h.length:Int) 20 r λh022=>OUT h022)).trans ?_
 rw[r1,bS]
 exact e7 OUT
theorem stable_ok (K k:Nat) (hK:K<=4294967296):EO (z4g.ent (gStable K k)):=z4g.ok (G:=GSt K k) ⟨insertionSort_ok K hK,symMerge_ok K hK k,trivial⟩ λ_ _ _ hr=>(pickO_some hr).2.2
noncomputable def gSS (K k:Nat):List Tm->Option (List Tm):=λh=>pickO λr=>Sub2 h r/\(h.length<20->r=sortT h)/\z4d.Does ⟨gStable K k⟩ h r
theorem sortStable_ok (K k:Nat) (hK:K<=4294967296):EO (z4d.ent (gSS K k)):=z4d.ok (G:=⟨gStable K k⟩) ⟨stable_ok K k hK,trivial⟩ λ_ _ hr=>(pickO_some hr).2.2
theorem gSS_ex {K k:Nat} {h:List Tm} (hK:∀x∈h,x.total<K) (hl:h.length<=1073741824) (hk:h.length<k):∃r,gSS K k h=some r/\Sub2 h r/\(h.length<20->r=sortT h):=by
 suffices hh:∃r,Sub2 h r/\(h.length<20->r=sortT h)/\z4d.Does ⟨gStable K k⟩ h r by
  obtain⟨r,r1,r2,r3,_⟩:=pickO_ex hh
  exact⟨r,r1,r2,r3⟩
 obtain⟨r,r1,r2,r3⟩:=stable_ex hK hl hk
 refine⟨r,r2,r3,1,?_⟩
 unfold z4d.main
 show Option.bind (gStable K k h h.length) _=_
 rw[r1,bS]
end Go.Proofs.YtfdkldmkbibknaaGreat.Den

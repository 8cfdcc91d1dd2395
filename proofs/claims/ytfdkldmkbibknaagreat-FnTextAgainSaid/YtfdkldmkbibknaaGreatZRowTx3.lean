/-
  Texts that the claim rests on, merged: TermData, Ty.
-/
import Derived.WalkKit
import Derived.KernelRfl
import Derived.Test.YtfdkldmkbibknaaGreatZRowTx1
import Derived.Test.YtfdkldmkbibknaaGreatZRowTx2

namespace Go.Proofs.YtfdkldmkbibknaaGreat
open Go.RowKit
structure Tm where
 op:Int
 name:ByteArray
 sort:Int
 args:List Tm
def Tm.d (t:Tm):D:=
 match t with
 |⟨_,_,_,args⟩=>.row args.length (args.attach.flatMap λ⟨x,_⟩=>[.lit (.int .i64 x.op),.lit (.string x.name),.lit (.int .i64 x.sort),Tm.d x])
termination_by t
decreasing_by
 rename_i hx;have:=List.sizeOf_lt_of_mem hx;simp only[Tm.mk.sizeOf_spec];omega
def Tm.total (t:Tm):Nat:=
 match t with
 |⟨_,n,_,args⟩=>n.size+(args.length+(args.attach.map λ⟨x,_⟩=>Tm.total x).sum)
termination_by t
decreasing_by
 rename_i hx;have:=List.sizeOf_lt_of_mem hx;simp only[Tm.mk.sizeOf_spec];omega
def ae (ts:List Tm):Nat:=ts.length+(ts.map Tm.total).sum
theorem Tm.total_eq (t:Tm):t.total=t.name.size+ae t.args:=by
 obtain⟨o,n,s,args⟩:=t;rw[Tm.total];show _=n.size+(args.length+(args.map Tm.total).sum)
 congr 2
 have:(λ(x:{x // x∈args})=>match x with|⟨x,_⟩=>Tm.total x)=λx:{x // x∈args}=>Tm.total x.1:=by
  funext x;rfl
 rw[this]
 conv=>rhs;rw[<-List.attach_map_subtype_val args,List.map_map]
 rfl
def rows (xss:List (List Int)):D:=.row xss.length (xss.map ints)
end Go.Proofs.YtfdkldmkbibknaaGreat
namespace Go.Proofs.YtfdkldmkbibknaaGreat.Den
open Go.RowKit
structure Lasso where
 states:List Int
 back:Int
structure Gr where
 states:List Tm
 edges:List (List Int)
 whole:Bool
structure Nd where
 state:Int
 set:Int
structure Sb where
 low:Int
 high:Int
structure So where
 names:List ByteArray
 subs:List Sb
structure Dc where
 args:List Int
 result:Int
structure Opr where
 name:ByteArray
 decls:List Dc
 assoc:Bool
 comm:Bool
 unit:Int
structure Sg where
 sorts:So
 ops:List Opr
structure Bd where
 var:Tm
 to:Tm
structure Od where
 above:List Int
 below:List Int
 kind:List Int
structure Cur where
 b:List Int
 i:Int
 h:Int
structure Cnd where
 left:Tm
 right:Tm
structure Eqn where
 left:Tm
 right:Tm
 conds:List Cnd
structure Md where
 sig:Sg
 eqs:List Eqn
 rules:List Eqn
structure Sgy where
 kind:Int
 index:Int
 test:Tm
 kids:List Sgy
inductive Ty where
 |i|b|s|u
 |sl (t:Ty)
 |n (k:Nat)
 deriving DecidableEq
def NI :Nat->Type
 |0=>Lasso
 |1=>Tm
 |2=>Fm
 |3=>Gr
 |4=>Nd
 |5=>Sb
 |6=>So
 |7=>Dc
 |8=>Opr
 |9=>Sg
 |10=>Bd
 |11=>Od
 |12=>Cur
 |13=>Cnd
 |14=>Eqn
 |15=>Md
 |16=>Sgy
 |_=>Unit
def I :Ty->Type
 | .i=>Int
 | .b=>Bool
 | .s=>ByteArray
 | .u=>Int
 | .sl t=>List (I t)
 | .n k=>NI k
inductive C where
 |i (x:Int)
 |k (kd:IntKind) (x:Int)
 |b (x:Bool)
 |s (x:ByteArray)
 |l (T:Ty) (xs:List (I T))
 |lc (T:Ty) (xs:List (I T))
 |nil (T:Ty)
 |o (id:Nat)
 |p (id off:Nat)
 |e (id k n:Nat) (T:Ty) (x:I T) (off:Nat)
 |r (id k:Nat)
 |q (T:Ty) (x:I T) (off:Nat)
 |f (fn:Nat) (caps:List C)
 |m (id:Nat)
 |z
 |zs
def ah :(T:Ty)->I T->List C
 | .i,x=>[.i x]
 | .b,x=>[.b x]
 | .s,x=>[.s x]
 | .u,x=>[.k .u8 x]
 | .sl t,xs=>[.l t xs]
 | .n 0,x=>[.l .i (Lasso.states x),.i (Lasso.back x)]
 | .n 1,x=>[.i (Tm.op x),.s (Tm.name x),.i (Tm.sort x),.l (.n 1) (Tm.args x)]
 | .n 2,x=>[.i (Fm.kind x),.i (Fm.prop x),.l (.n 2) (Fm.kids x)]
 | .n 3,x=>[.l (.n 1) (Gr.states x),.l (.sl .i) (Gr.edges x),.b (Gr.whole x)]
 | .n 4,x=>[.i (Nd.state x),.i (Nd.set x)]
 | .n 5,x=>[.i (Sb.low x),.i (Sb.high x)]
 | .n 6,x=>[.l .s (So.names x),.l (.n 5) (So.subs x)]
 | .n 7,x=>[.l .i (Dc.args x),.i (Dc.result x)]
 | .n 8,x=>[.s (Opr.name x),.l (.n 7) (Opr.decls x),.b (Opr.assoc x),.b (Opr.comm x),.i (Opr.unit x)]
 | .n 9,x=>[.l .s (So.names (Sg.sorts x)),.l (.n 5) (So.subs (Sg.sorts x)),.l (.n 8) (Sg.ops x)]
 | .n 10,x=>[.i (Tm.op (Bd.var x)),.s (Tm.name (Bd.var x)),.i (Tm.sort (Bd.var x)),.l (.n 1) (Tm.args (Bd.var x)),.i (Tm.op (Bd.to x)),.s (Tm.name (Bd.to x)),.i (Tm.sort (Bd.to x)),.l (.n 1) (Tm.args (Bd.to x))]
 | .n 11,x=>[.l .i (Od.above x),.l .i (Od.below x),.l .i (Od.kind x)]
 | .n 12,x=>[.l .u (Cur.b x),.i (Cur.i x),.i (Cur.h x)]
 | .n 13,x=>[.i (Tm.op (Cnd.left x)),.s (Tm.name (Cnd.left x)),.i (Tm.sort (Cnd.left x)),.l (.n 1) (Tm.args (Cnd.left x)),.i (Tm.op (Cnd.right x)),.s (Tm.name (Cnd.right x)),.i (Tm.sort (Cnd.right x)),.l (.n 1) (Tm.args (Cnd.right x))]
 | .n 14,x=>[.i (Tm.op (Eqn.left x)),.s (Tm.name (Eqn.left x)),.i (Tm.sort (Eqn.left x)),.l (.n 1) (Tm.args (Eqn.left x)),.i (Tm.op (Eqn.right x)),.s (Tm.name (Eqn.right x)),.i (Tm.sort (Eqn.right x)),.l (.n 1) (Tm.args (Eqn.right x)),.l (.n 13) (Eqn.conds x)]
 | .n 15,x=>[.l .s (So.names (Sg.sorts (Md.sig x))),.l (.n 5) (So.subs (Sg.sorts (Md.sig x))),.l (.n 8) (Sg.ops (Md.sig x)),.l (.n 14) (Md.eqs x),.l (.n 14) (Md.rules x)]
 | .n 16,x=>[.i (Sgy.kind x),.i (Sgy.index x),.i (Tm.op (Sgy.test x)),.s (Tm.name (Sgy.test x)),.i (Tm.sort (Sgy.test x)),.l (.n 1) (Tm.args (Sgy.test x)),.l (.n 16) (Sgy.kids x)]
 | .n (_+17),_=>[]
def Es (cs:List C):Option Lasso:=match cs with
 |[.l .i a0,.i a1]=>some (Lasso.mk a0 a1)
 |_=>none
def EI (cs:List C):Option Tm:=match cs with
 |[.i a0,.s a1,.i a2,.l (.n 1) a3]=>some (Tm.mk a0 a1 a2 a3)
 |_=>none
def FY (cs:List C):Option Fm:=match cs with
 |[.i a0,.i a1,.l (.n 2) a2]=>some (Fm.mk a0 a1 a2)
 |_=>none
def FM (cs:List C):Option Gr:=match cs with
 |[.l (.n 1) a0,.l (.sl .i) a1,.b a2]=>some (Gr.mk a0 a1 a2)
 |_=>none
def EZ (cs:List C):Option Nd:=match cs with
 |[.i a0,.i a1]=>some (Nd.mk a0 a1)
 |_=>none
def FC (cs:List C):Option Sb:=match cs with
 |[.i a0,.i a1]=>some (Sb.mk a0 a1)
 |_=>none
def FB (cs:List C):Option So:=match cs with
 |[.l .s a0,.l (.n 5) a1]=>some (So.mk a0 a1)
 |_=>none
def FT (cs:List C):Option Dc:=match cs with
 |[.l .i a0,.i a1]=>some (Dc.mk a0 a1)
 |_=>none
def Fl (cs:List C):Option Opr:=match cs with
 |[.s a0,.l (.n 7) a1,.b a2,.b a3,.i a4]=>some (Opr.mk a0 a1 a2 a3 a4)
 |_=>none
def F2 (cs:List C):Option Sg:=match cs with
 |[.l .s a0,.l (.n 5) a1,.l (.n 8) a2]=>some (Sg.mk (So.mk a0 a1) a2)
 |_=>none
def zp (cs:List C):Option Bd:=match cs with
 |[.i a0,.s a1,.i a2,.l (.n 1) a3,.i a4,.s a5,.i a6,.l (.n 1) a7]=>some (Bd.mk (Tm.mk a0 a1 a2 a3) (Tm.mk a4 a5 a6 a7))
 |_=>none
def zA (cs:List C):Option Od:=match cs with
 |[.l .i a0,.l .i a1,.l .i a2]=>some (Od.mk a0 a1 a2)
 |_=>none
def yI (cs:List C):Option Cur:=match cs with
 |[.l .u a0,.i a1,.i a2]=>some (Cur.mk a0 a1 a2)
 |_=>none
def zD (cs:List C):Option Cnd:=match cs with
 |[.i a0,.s a1,.i a2,.l (.n 1) a3,.i a4,.s a5,.i a6,.l (.n 1) a7]=>some (Cnd.mk (Tm.mk a0 a1 a2 a3) (Tm.mk a4 a5 a6 a7))
 |_=>none
def Ag (cs:List C):Option Eqn:=match cs with
 |[.i a0,.s a1,.i a2,.l (.n 1) a3,.i a4,.s a5,.i a6,.l (.n 1) a7,.l (.n 13) a8]=>some (Eqn.mk (Tm.mk a0 a1 a2 a3) (Tm.mk a4 a5 a6 a7) a8)
 |_=>none
def zq (cs:List C):Option Md:=match cs with
 |[.l .s a0,.l (.n 5) a1,.l (.n 8) a2,.l (.n 14) a3,.l (.n 14) a4]=>some (Md.mk (Sg.mk (So.mk a0 a1) a2) a3 a4)
 |_=>none
def yg (cs:List C):Option Sgy:=match cs with
 |[.i a0,.i a1,.i a2,.s a3,.i a4,.l (.n 1) a5,.l (.n 16) a6]=>some (Sgy.mk a0 a1 (Tm.mk a2 a3 a4 a5) a6)
 |_=>none
def Fd (cs:List C):Option Int:=match cs with
 |[.i x]=>some x
 |_=>none
def DY (cs:List C):Option Bool:=match cs with
 |[.b x]=>some x
 |_=>none
def FE (cs:List C):Option ByteArray:=match cs with
 |[.s x]=>some x
 |_=>none
def D8 (cs:List C):Option Int:=match cs with
 |[.k .u8 x]=>some x
 |_=>none
def Er (t:Ty) (cs:List C):Option (List (I t)):=match cs with
 |[.l t' xs]=>if h:t'=t then some (h▸xs)else none
 |_=>none
def fx :(T:Ty)->List C->Option (I T)
 | .i,cs=>Fd cs
 | .b,cs=>DY cs
 | .s,cs=>FE cs
 | .u,cs=>D8 cs
 | .sl t,cs=>Er t cs
 | .n 0,cs=>Es cs
 | .n 1,cs=>EI cs
 | .n 2,cs=>FY cs
 | .n 3,cs=>FM cs
 | .n 4,cs=>EZ cs
 | .n 5,cs=>FC cs
 | .n 6,cs=>FB cs
 | .n 7,cs=>FT cs
 | .n 8,cs=>Fl cs
 | .n 9,cs=>F2 cs
 | .n 10,cs=>zp cs
 | .n 11,cs=>zA cs
 | .n 12,cs=>yI cs
 | .n 13,cs=>zD cs
 | .n 14,cs=>Ag cs
 | .n 15,cs=>zq cs
 | .n 16,cs=>yg cs
 | .n (_+17),_=>none
def szT :Ty->Nat
 | .i| .b| .s| .u| .sl _=>1
 | .n 0=>2
 | .n 1=>4
 | .n 2=>3
 | .n 3=>3
 | .n 4=>2
 | .n 5=>2
 | .n 6=>2
 | .n 7=>2
 | .n 8=>5
 | .n 9=>3
 | .n 10=>8
 | .n 11=>3
 | .n 12=>3
 | .n 13=>8
 | .n 14=>9
 | .n 15=>5
 | .n 16=>7
 | .n (_+17)=>0
def fO :(T:Ty)->Option (I T)
 | .i=>some (0:Int)
 | .b=>some false
 | .s=>some ByteArray.empty
 | .u=>some (0:Int)
 | .sl _=>some []
 | .n 0=>some (Lasso.mk [] 0)
 | .n 1=>some (Tm.mk 0 ByteArray.empty 0 [])
 | .n 2=>some (Fm.mk 0 0 [])
 | .n 3=>some (Gr.mk [] [] false)
 | .n 4=>some (Nd.mk 0 0)
 | .n 5=>some (Sb.mk 0 0)
 | .n 6=>some (So.mk [] [])
 | .n 7=>some (Dc.mk [] 0)
 | .n 8=>some (Opr.mk ByteArray.empty [] false false 0)
 | .n 9=>some (Sg.mk (So.mk [] []) [])
 | .n 10=>some (Bd.mk (Tm.mk 0 ByteArray.empty 0 []) (Tm.mk 0 ByteArray.empty 0 []))
 | .n 11=>some (Od.mk [] [] [])
 | .n 12=>some (Cur.mk [] 0 0)
 | .n 13=>some (Cnd.mk (Tm.mk 0 ByteArray.empty 0 []) (Tm.mk 0 ByteArray.empty 0 []))
 | .n 14=>some (Eqn.mk (Tm.mk 0 ByteArray.empty 0 []) (Tm.mk 0 ByteArray.empty 0 []) [])
 | .n 15=>some (Md.mk (Sg.mk (So.mk [] []) []) [] [])
 | .n 16=>some (Sgy.mk 0 0 (Tm.mk 0 ByteArray.empty 0 []) [])
 | .n (_+17)=>none
theorem bz (T:Ty) (hT:0<szT T) (x:I T):(ah T x).length=szT T:=by
 cases T with
 | n k =>
  match k with
  |0|1|2|3|4|5|6|7|8|9|10|11|12|13|14|15|16=>rfl
  |k+17=>simp[szT]at hT
 |_=>rfl
theorem dV :∀{T:Ty} {cs:List C} {x:I T} (_:fx T cs=some x),ah T x=cs
 | .i,cs,x,h=>by
  have h:Fd cs=some x:=h;unfold Fd at h;split at h
  ·cases h;rfl
  ·cases h
 | .b,cs,x,h=>by
  have h:DY cs=some x:=h;unfold DY at h;split at h
  ·cases h;rfl
  ·cases h
 | .s,cs,x,h=>by
  have h:FE cs=some x:=h;unfold FE at h;split at h
  ·cases h;rfl
  ·cases h
 | .u,cs,x,h=>by
  have h:D8 cs=some x:=h;unfold D8 at h;split at h
  ·cases h;rfl
  ·cases h
 | .sl t, cs, x, h => by
  have h:Er t cs=some x:=h;unfold Er at h;split at h
  ·split at h
   ·rename_i e;subst e;cases h;rfl
   ·cases h
  ·cases h
 | .n 0,cs,x,h=>by
  have h:Es cs=some x:=h;unfold Es at h;split at h
  ·cases h;rfl
  ·cases h
 | .n 1,cs,x,h=>by
  have h:EI cs=some x:=h;unfold EI at h;split at h
  ·cases h;rfl
  ·cases h
 | .n 2,cs,x,h=>by
  have h:FY cs=some x:=h;unfold FY at h;split at h
  ·cases h;rfl
  ·cases h
 | .n 3,cs,x,h=>by
  have h:FM cs=some x:=h;unfold FM at h;split at h
  ·cases h;rfl
  ·cases h
 | .n 4,cs,x,h=>by
  have h:EZ cs=some x:=h;unfold EZ at h;split at h
  ·cases h;rfl
  ·cases h
 | .n 5,cs,x,h=>by
  have h:FC cs=some x:=h;unfold FC at h;split at h
  ·cases h;rfl
  ·cases h
 | .n 6,cs,x,h=>by
  have h:FB cs=some x:=h;unfold FB at h;split at h
  ·cases h;rfl
  ·cases h
 | .n 7,cs,x,h=>by
  have h:FT cs=some x:=h;unfold FT at h;split at h
  ·cases h;rfl
  ·cases h
 | .n 8,cs,x,h=>by
  have h:Fl cs=some x:=h;unfold Fl at h;split at h
  ·cases h;rfl
  ·cases h
 | .n 9,cs,x,h=>by
  have h:F2 cs=some x:=h;unfold F2 at h;split at h
  ·cases h;rfl
  ·cases h
 | .n 10,cs,x,h=>by
  have h:zp cs=some x:=h;unfold zp at h;split at h
  ·cases h;rfl
  ·cases h
 | .n 11,cs,x,h=>by
  have h:zA cs=some x:=h;unfold zA at h;split at h
  ·cases h;rfl
  ·cases h
 | .n 12,cs,x,h=>by
  have h:yI cs=some x:=h;unfold yI at h;split at h
  ·cases h;rfl
  ·cases h
 | .n 13,cs,x,h=>by
  have h:zD cs=some x:=h;unfold zD at h;split at h
  ·cases h;rfl
  ·cases h
 | .n 14,cs,x,h=>by
  have h:Ag cs=some x:=h;unfold Ag at h;split at h
  ·cases h;rfl
  ·cases h
 | .n 15,cs,x,h=>by
  have h:zq cs=some x:=h;unfold zq at h;split at h
  ·cases h;rfl
  ·cases h
 | .n 16,cs,x,h=>by
  have h:yg cs=some x:=h;unfold yg at h;split at h
  ·cases h;rfl
  ·cases h
 | .n (_+17),_,_,h=>by cases h
def Fq :Nat->List Ty
 |0=>[.sl .i,.i]
 |1=>[.i,.s,.i,.sl (.n 1)]
 |2=>[.i,.i,.sl (.n 2)]
 |3=>[.sl (.n 1),.sl (.sl .i),.b]
 |4=>[.i,.i]
 |5=>[.i,.i]
 |6=>[.sl .s,.sl (.n 5)]
 |7=>[.sl .i,.i]
 |8=>[.s,.sl (.n 7),.b,.b,.i]
 |9=>[.n 6,.sl (.n 8)]
 |10=>[.n 1,.n 1]
 |11=>[.sl .i,.sl .i,.sl .i]
 |12=>[.sl .u,.i,.i]
 |13=>[.n 1,.n 1]
 |14=>[.n 1,.n 1,.sl (.n 13)]
 |15=>[.n 9,.sl (.n 14),.sl (.n 14)]
 |16=>[.i,.i,.n 1,.sl (.n 16)]
 |_=>[]
inductive Flds :List Ty->List C->Prop
 |nil:Flds [] []
 |cons {t:Ty} {Ts:List Ty} {cs:List C} (x:I t) (h:Flds Ts cs):Flds (t::Ts) (ah t x++cs)
theorem Flds.inv {t:Ty} {Ts:List Ty} {cs:List C} (h:Flds (t::Ts) cs):∃x ds,cs=ah t x++ds/\Flds Ts ds:=by cases h with|cons x h=>exact⟨x,_,rfl,h⟩
theorem Flds.inv0 {cs:List C} (h:Flds [] cs):cs=[]:=by cases h;rfl
theorem Br :∀(k:Nat) (cs:List C),0<szT (.n k)->Flds (Fq k) cs->∃x:I (.n k),ah (.n k) x=cs
 | 0, cs, _, h => by
  obtain⟨a0,d0,e0,h⟩:=h.inv;obtain⟨a1,d1,e1,h⟩:=h.inv;have e:=h.inv0;exact⟨Lasso.mk a0 a1,by rw[e0,e1,e];rfl⟩
 | 1, cs, _, h => by
  obtain⟨a0,d0,e0,h⟩:=h.inv;obtain⟨a1,d1,e1,h⟩:=h.inv;obtain⟨a2,d2,e2,h⟩:=h.inv;obtain⟨a3,d3,e3,h⟩:=h.inv;have e:=h.inv0;exact⟨Tm.mk a0 a1 a2 a3,by rw[e0,e1,e2,e3,e];rfl⟩
 | 2, cs, _, h => by
  obtain⟨a0,d0,e0,h⟩:=h.inv;obtain⟨a1,d1,e1,h⟩:=h.inv;obtain⟨a2,d2,e2,h⟩:=h.inv;have e:=h.inv0;exact⟨Fm.mk a0 a1 a2,by rw[e0,e1,e2,e];rfl⟩
 | 3, cs, _, h => by
  obtain⟨a0,d0,e0,h⟩:=h.inv;obtain⟨a1,d1,e1,h⟩:=h.inv;obtain⟨a2,d2,e2,h⟩:=h.inv;have e:=h.inv0;exact⟨Gr.mk a0 a1 a2,by rw[e0,e1,e2,e];rfl⟩
 | 4, cs, _, h => by
  obtain⟨a0,d0,e0,h⟩:=h.inv;obtain⟨a1,d1,e1,h⟩:=h.inv;have e:=h.inv0;exact⟨Nd.mk a0 a1,by rw[e0,e1,e];rfl⟩
 | 5, cs, _, h => by
  obtain⟨a0,d0,e0,h⟩:=h.inv;obtain⟨a1,d1,e1,h⟩:=h.inv;have e:=h.inv0;exact⟨Sb.mk a0 a1,by rw[e0,e1,e];rfl⟩
 | 6, cs, _, h => by
  obtain⟨a0,d0,e0,h⟩:=h.inv;obtain⟨a1,d1,e1,h⟩:=h.inv;have e:=h.inv0;exact⟨So.mk a0 a1,by rw[e0,e1,e];rfl⟩
 | 7, cs, _, h => by
  obtain⟨a0,d0,e0,h⟩:=h.inv;obtain⟨a1,d1,e1,h⟩:=h.inv;have e:=h.inv0;exact⟨Dc.mk a0 a1,by rw[e0,e1,e];rfl⟩
 | 8, cs, _, h => by
  obtain⟨a0,d0,e0,h⟩:=h.inv;obtain⟨a1,d1,e1,h⟩:=h.inv;obtain⟨a2,d2,e2,h⟩:=h.inv;obtain⟨a3,d3,e3,h⟩:=h.inv;obtain⟨a4,d4,e4,h⟩:=h.inv;have e:=h.inv0;exact⟨Opr.mk a0 a1 a2 a3 a4,by rw[e0,e1,e2,e3,e4,e];rfl⟩
 | 9, cs, _, h => by
  obtain⟨a0,d0,e0,h⟩:=h.inv;obtain⟨a1,d1,e1,h⟩:=h.inv;have e:=h.inv0;exact⟨Sg.mk a0 a1,by rw[e0,e1,e];rfl⟩
 | 10, cs, _, h => by
  obtain⟨a0,d0,e0,h⟩:=h.inv;obtain⟨a1,d1,e1,h⟩:=h.inv;have e:=h.inv0;exact⟨Bd.mk a0 a1,by rw[e0,e1,e];rfl⟩
 | 11, cs, _, h => by
  obtain⟨a0,d0,e0,h⟩:=h.inv;obtain⟨a1,d1,e1,h⟩:=h.inv;obtain⟨a2,d2,e2,h⟩:=h.inv;have e:=h.inv0;exact⟨Od.mk a0 a1 a2,by rw[e0,e1,e2,e];rfl⟩
 | 12, cs, _, h => by
  obtain⟨a0,d0,e0,h⟩:=h.inv;obtain⟨a1,d1,e1,h⟩:=h.inv;obtain⟨a2,d2,e2,h⟩:=h.inv;have e:=h.inv0;exact⟨Cur.mk a0 a1 a2,by rw[e0,e1,e2,e];rfl⟩
 | 13, cs, _, h => by
  obtain⟨a0,d0,e0,h⟩:=h.inv;obtain⟨a1,d1,e1,h⟩:=h.inv;have e:=h.inv0;exact⟨Cnd.mk a0 a1,by rw[e0,e1,e];rfl⟩
 | 14, cs, _, h => by
  obtain⟨a0,d0,e0,h⟩:=h.inv;obtain⟨a1,d1,e1,h⟩:=h.inv;obtain⟨a2,d2,e2,h⟩:=h.inv;have e:=h.inv0;exact⟨Eqn.mk a0 a1 a2,by rw[e0,e1,e2,e];rfl⟩
 | 15, cs, _, h => by
  obtain⟨a0,d0,e0,h⟩:=h.inv;obtain⟨a1,d1,e1,h⟩:=h.inv;obtain⟨a2,d2,e2,h⟩:=h.inv;have e:=h.inv0;exact⟨Md.mk a0 a1 a2,by rw[e0,e1,e2,e];rfl⟩
 | 16, cs, _, h => by
  obtain⟨a0,d0,e0,h⟩:=h.inv;obtain⟨a1,d1,e1,h⟩:=h.inv;obtain⟨a2,d2,e2,h⟩:=h.inv;obtain⟨a3,d3,e3,h⟩:=h.inv;have e:=h.inv0;exact⟨Sgy.mk a0 a1 a2 a3,by rw[e0,e1,e2,e3,e];rfl⟩
 |_+17,cs,h,_=>by simp[szT]at h
end Go.Proofs.YtfdkldmkbibknaaGreat.Den

import Derived.WalkKit
import Derived.KernelRfl
import Derived.Test.YtagnfckihdlhpaaZRowSP1
import Derived.Test.YtagnfckihdlhpaaZRowSP2
namespace Go.Proofs.Ytagnfckihdlhpaa.Den
open Go.RowKit
structure Lasso where
 states:List Int
 back:Int
structure Gr where
 states:List Tm
 edges:List (List Int)
 whole:Bool
structure Nd where
 state:Int
 set:Int
structure Sb where
 low:Int
 high:Int
structure So where
 names:List ByteArray
 subs:List Sb
structure Dc where
 args:List Int
 result:Int
structure Opr where
 name:ByteArray
 decls:List Dc
 assoc:Bool
 comm:Bool
 unit:Int
structure Sg where
 sorts:So
 ops:List Opr
structure Bd where
 var:Tm
 to:Tm
structure Od where
 above:List Int
 below:List Int
 kind:List Int
structure Cur where
 b:List Int
 i:Int
 h:Int
inductive Ty where
 |i|b|s|u
 |sl (t:Ty)
 |n (k:Nat)
 deriving DecidableEq
def NI :Nat->Type
 |0=>Lasso
 |1=>Tm
 |2=>Fm
 |3=>Gr
 |4=>Nd
 |5=>Sb
 |6=>So
 |7=>Dc
 |8=>Opr
 |9=>Sg
 |10=>Bd
 |11=>Od
 |12=>Cur
 |_=>Unit
def I :Ty->Type
 | .i=>Int
 | .b=>Bool
 | .s=>ByteArray
 | .u=>Int
 | .sl t=>List (I t)
 | .n k=>NI k
inductive C where
 |i (x:Int)
 |k (kd:IntKind) (x:Int)
 |b (x:Bool)
 |s (x:ByteArray)
 |l (T:Ty) (xs:List (I T))
 |lc (T:Ty) (xs:List (I T))
 |nil (T:Ty)
 |o (id:Nat)
 |p (id off:Nat)
 |e (id k n:Nat) (T:Ty) (x:I T) (off:Nat)
 |r (id k:Nat)
 |q (T:Ty) (x:I T) (off:Nat)
 |f (fn:Nat) (caps:List C)
 |m (id:Nat)
 |z
 |zs
def explode :(T:Ty)->I T->List C
 | .i,x=>[.i x]
 | .b,x=>[.b x]
 | .s,x=>[.s x]
 | .u,x=>[.k .u8 x]
 | .sl t,xs=>[.l t xs]
 | .n 0,x=>[.l .i (Lasso.states x),.i (Lasso.back x)]
 | .n 1,x=>[.i (Tm.op x),.s (Tm.name x),.i (Tm.sort x),.l (.n 1) (Tm.args x)]
 | .n 2,x=>[.i (Fm.kind x),.i (Fm.prop x),.l (.n 2) (Fm.kids x)]
 | .n 3,x=>[.l (.n 1) (Gr.states x),.l (.sl .i) (Gr.edges x),.b (Gr.whole x)]
 | .n 4,x=>[.i (Nd.state x),.i (Nd.set x)]
 | .n 5,x=>[.i (Sb.low x),.i (Sb.high x)]
 | .n 6,x=>[.l .s (So.names x),.l (.n 5) (So.subs x)]
 | .n 7,x=>[.l .i (Dc.args x),.i (Dc.result x)]
 | .n 8,x=>[.s (Opr.name x),.l (.n 7) (Opr.decls x),.b (Opr.assoc x),.b (Opr.comm x),.i (Opr.unit x)]
 | .n 9,x=>[.l .s (So.names (Sg.sorts x)),.l (.n 5) (So.subs (Sg.sorts x)),.l (.n 8) (Sg.ops x)]
 | .n 10,x=>[.i (Tm.op (Bd.var x)),.s (Tm.name (Bd.var x)),.i (Tm.sort (Bd.var x)),.l (.n 1) (Tm.args (Bd.var x)),.i (Tm.op (Bd.to x)),.s (Tm.name (Bd.to x)),.i (Tm.sort (Bd.to x)),.l (.n 1) (Tm.args (Bd.to x))]
 | .n 11,x=>[.l .i (Od.above x),.l .i (Od.below x),.l .i (Od.kind x)]
 | .n 12,x=>[.l .u (Cur.b x),.i (Cur.i x),.i (Cur.h x)]
 | .n (_+13),_=>[]
def implode :(T:Ty)->List C->Option (I T)
 | .i,[.i x]=>some x
 | .b,[.b x]=>some x
 | .s,[.s x]=>some x
 | .u,[.k .u8 x]=>some x
 | .sl t,[.l t' xs]=>if h:t'=t then some (h▸xs)else none
 | .n 0,[.l .i a0,.i a1]=>some (Lasso.mk a0 a1)
 | .n 1,[.i a0,.s a1,.i a2,.l (.n 1) a3]=>some (Tm.mk a0 a1 a2 a3)
 | .n 2,[.i a0,.i a1,.l (.n 2) a2]=>some (Fm.mk a0 a1 a2)
 | .n 3,[.l (.n 1) a0,.l (.sl .i) a1,.b a2]=>some (Gr.mk a0 a1 a2)
 | .n 4,[.i a0,.i a1]=>some (Nd.mk a0 a1)
 | .n 5,[.i a0,.i a1]=>some (Sb.mk a0 a1)
 | .n 6,[.l .s a0,.l (.n 5) a1]=>some (So.mk a0 a1)
 | .n 7,[.l .i a0,.i a1]=>some (Dc.mk a0 a1)
 | .n 8,[.s a0,.l (.n 7) a1,.b a2,.b a3,.i a4]=>some (Opr.mk a0 a1 a2 a3 a4)
 | .n 9,[.l .s a0,.l (.n 5) a1,.l (.n 8) a2]=>some (Sg.mk (So.mk a0 a1) a2)
 | .n 10,[.i a0,.s a1,.i a2,.l (.n 1) a3,.i a4,.s a5,.i a6,.l (.n 1) a7]=>some (Bd.mk (Tm.mk a0 a1 a2 a3) (Tm.mk a4 a5 a6 a7))
 | .n 11,[.l .i a0,.l .i a1,.l .i a2]=>some (Od.mk a0 a1 a2)
 | .n 12,[.l .u a0,.i a1,.i a2]=>some (Cur.mk a0 a1 a2)
 |_,_=>none
def szT :Ty->Nat
 | .i| .b| .s| .u| .sl _=>1
 | .n 0=>2
 | .n 1=>4
 | .n 2=>3
 | .n 3=>3
 | .n 4=>2
 | .n 5=>2
 | .n 6=>2
 | .n 7=>2
 | .n 8=>5
 | .n 9=>3
 | .n 10=>8
 | .n 11=>3
 | .n 12=>3
 | .n (_+13)=>0
def zeroT :(T:Ty)->Option (I T)
 | .i=>some (0:Int)
 | .b=>some false
 | .s=>some ByteArray.empty
 | .u=>some (0:Int)
 | .sl _=>some []
 | .n 0=>some (Lasso.mk [] 0)
 | .n 1=>some (Tm.mk 0 ByteArray.empty 0 [])
 | .n 2=>some (Fm.mk 0 0 [])
 | .n 3=>some (Gr.mk [] [] false)
 | .n 4=>some (Nd.mk 0 0)
 | .n 5=>some (Sb.mk 0 0)
 | .n 6=>some (So.mk [] [])
 | .n 7=>some (Dc.mk [] 0)
 | .n 8=>some (Opr.mk ByteArray.empty [] false false 0)
 | .n 9=>some (Sg.mk (So.mk [] []) [])
 | .n 10=>some (Bd.mk (Tm.mk 0 ByteArray.empty 0 []) (Tm.mk 0 ByteArray.empty 0 []))
 | .n 11=>some (Od.mk [] [] [])
 | .n 12=>some (Cur.mk [] 0 0)
 | .n (_+13)=>none
theorem explode_len (T:Ty) (hT:0<szT T) (x:I T):(explode T x).length=szT T:=by
 cases T with
 | n k =>
  match k with
  |0|1|2|3|4|5|6|7|8|9|10|11|12=>rfl
  |k+13=>simp[szT]at hT
 |_=>rfl
theorem implode_explode {T:Ty} {cs:List C} {x:I T} (h:implode T cs=some x):explode T x=cs:=by
 unfold implode at h
 split at h<;>first|(cases h;rfl)|(cases h;done)|skip
 ·split at h
  ·rename_i e;subst e;cases h;rfl
  ·cases h
end Go.Proofs.Ytagnfckihdlhpaa.Den

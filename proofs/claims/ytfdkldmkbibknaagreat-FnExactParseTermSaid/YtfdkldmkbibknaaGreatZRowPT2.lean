/-
  Texts that the claim rests on, merged: TermData, Ty.
-/
import Derived.WalkKit
import Derived.KernelRfl
import Derived.Test.YtfdkldmkbibknaaGreatZRowPT1

namespace Go.Proofs.YtfdkldmkbibknaaGreat
open Go.RowKit
structure Tm where
 op:Int
 name:ByteArray
 sort:Int
 args:List Tm
theorem Tm.induct {p:Tm->Prop} (h:∀o n s args,(∀x∈args,p x)->p ⟨o,n,s,args⟩) (t:Tm):p t:=by
 match t with
 |⟨o,n,s,args⟩=>exact h o n s args λx hx=>Tm.induct h x
termination_by t
decreasing_by
 have:=List.sizeOf_lt_of_mem hx
 simp only[Tm.mk.sizeOf_spec]
 omega
def Tm.d (t:Tm):D:=
 match t with
 |⟨_,_,_,args⟩=>.row args.length (args.attach.flatMap λ⟨x,_⟩=>[.lit (.int .i64 x.op),.lit (.string x.name),.lit (.int .i64 x.sort),Tm.d x])
termination_by t
decreasing_by
 rename_i hx
 have:=List.sizeOf_lt_of_mem hx
 simp only[Tm.mk.sizeOf_spec]
 omega
def Tm.cells (t:Tm):List D:=[.lit (.int .i64 t.op),.lit (.string t.name),.lit (.int .i64 t.sort),t.d]
def terms (ts:List Tm):D:=.row ts.length (ts.flatMap Tm.cells)
theorem Tm.d_eq (t:Tm):t.d=terms t.args:=by
 obtain⟨o,n,s,args⟩:=t
 rw[Tm.d]
 show D.row _ _=D.row _ _
 congr 1
 have:(λ(x:{x // x∈args})=>match x with|⟨x,_⟩=>[D.lit (.int .i64 x.op),.lit (.string x.name),.lit (.int .i64 x.sort),Tm.d x])=λx:{x // x∈args}=>Tm.cells x.1:=by
  funext x;rfl
 rw[this]
 conv=>rhs;rw[<-List.attach_map_subtype_val args,List.flatMap_map]
theorem Tm.cells_len (t:Tm):t.cells.length=4:=rfl
theorem terms_slice {w:World} {S:Nat->Prop} {ts:List Tm} {v:Value} (h:At w S (terms ts) v):∃A c,v= .slice A ts.length c/\ts.length<=c/\c<=9223372036854775807:=h.slice
def Tm.fits (t:Tm):Prop:= -9223372036854775808<=t.op/\t.op<=9223372036854775807/\t.name.size<=9223372036854775807/\ -9223372036854775808<=t.sort/\t.sort<=9223372036854775807
theorem terms_get {w:World} {S:Nat->Prop} {ts:List Tm} {A:Option Addr} {n c k:Nat} (h:At w S (terms ts) (.slice A n c)) (hk:k<ts.length):
  ∃ b off t v, A = some ⟨b, off, none⟩ ∧ S b ∧ b < w.heap.size ∧ w.cell? ⟨b, off + k * 4, none⟩ = some (.int .i64 t.op) ∧ w.cell? ⟨b, off + k * 4 + 1, none⟩ = some (.string t.name) ∧
   w.cell? ⟨b,off+k*4+2,none⟩=some (.int .i64 t.sort)/\w.cell? ⟨b,off+k*4+3,none⟩=some v/\At w S (terms t.args) v/\Hid (ts[k]? =some t)/\t.fits:=by
 have hn:n=ts.length:=by obtain⟨_,_,e,_⟩:=terms_slice h;injection e
 subst hn
 obtain⟨b,off,e,hs,hlt,hc⟩:=At.cellAt h (by rw[flat_len _ 4 Tm.cells_len];omega)
 have hf:ts[k]? =some ts[k]:=gE hk
 have hat:∀j,j<4->(ts.flatMap Tm.cells)[k*4+j]? =(Tm.cells ts[k])[j]? :=λj hj=>by
  rw[flat_at _ 4 Tm.cells_len _ _ _ hj,hf];rfl
 obtain⟨u0,hu0,ha0⟩:=hc (k*4+0) _ (hat 0 (by omega))
 obtain⟨u1,hu1,ha1⟩:=hc (k*4+1) _ (hat 1 (by omega))
 obtain⟨u2,hu2,ha2⟩:=hc (k*4+2) _ (hat 2 (by omega))
 obtain⟨u3,hu3,ha3⟩:=hc (k*4+3) _ (hat 3 (by omega))
 obtain⟨rfl,w0⟩:=at_lit.1 ha0
 obtain⟨rfl,w1⟩:=at_lit.1 ha1
 obtain⟨rfl,w2⟩:=at_lit.1 ha2
 rw[Tm.d_eq]at ha3
 have w1':ts[k].name.size<=9223372036854775807:=by simp only[okLit,maxLen]at w1;omega
 exact⟨b,off,ts[k],u3,e,hs,hlt,hu0,hu1,hu2,hu3,ha3,hf,(wf_bounds w0).1,(wf_bounds w0).2,w1',(wf_bounds w2).1,(wf_bounds w2).2⟩
theorem terms_mk {w:World} {S:Nat->Prop} {ts:List Tm} {A:Option Addr} {c:Nat} (hn:ts.length<=c) (hc:c<=9223372036854775807)
  (h : 0 < ts.length → ∃ b off, A = some ⟨b, off, none⟩ ∧ S b ∧ ∀ k t, ts[k]? = some t → ∃ v, w.cell? ⟨b, off + k * 4, none⟩ = some (.int .i64 t.op) ∧ w.cell? ⟨b, off + k * 4 + 1, none⟩ = some (.string t.name) ∧
   w.cell? ⟨b,off+k*4+2,none⟩=some (.int .i64 t.sort)/\w.cell? ⟨b,off+k*4+3,none⟩=some v/\At w S (terms t.args) v/\t.fits):
  At w S (terms ts) (.slice A ts.length c):=by
 refine at_row.2 ⟨A,c,rfl,hn,hc,λhp=> ?_⟩
 rw[flat_len _ 4 Tm.cells_len]at hp
 obtain⟨b,off,e,hs,hk⟩:=h (by omega)
 refine⟨b,off,e,hs,λj hj=> ?_⟩
 have hj':j<ts.length*4:=by rw[flat_len _ 4 Tm.cells_len]at hj;exact hj
 have hq:j / 4<ts.length:=by omega
 obtain⟨v,c0,c1,c2,c3,ha,w0,w1,w2,w3,w4⟩:=hk (j / 4) ts[j / 4] (gE hq)
 have hat:(ts.flatMap Tm.cells)[j]? =(Tm.cells ts[j / 4])[j%4]? :=by
  have:=flat_at Tm.cells 4 Tm.cells_len ts (j / 4) (j%4) (by omega)
  rw[show j / 4*4+j%4=j by omega,gE hq]at this
  exact this
 rw[gE hj]at hat
 have h4:j%4=0\/j%4=1\/j%4=2\/j%4=3:=by omega
 rcases h4 with h4|h4|h4|h4
 ·rw[h4]at hat
  simp only[Tm.cells,List.getElem?_cons_zero,Option.some.injEq]at hat
  rw[hat]
  exact⟨_,by rw[show off+j=off+j / 4*4 by omega];exact c0,at_lit.2 ⟨rfl,WalkArith.wf_i64 ⟨w0,w1⟩⟩⟩
 ·rw[h4]at hat
  simp only[Tm.cells,List.getElem?_cons_zero,List.getElem?_cons_succ,Option.some.injEq]at hat
  rw[hat]
  exact⟨_,by rw[show off+j=off+j / 4*4+1 by omega];exact c1,at_lit.2 ⟨rfl,by simp only[okLit,maxLen];omega⟩⟩
 ·rw[h4]at hat
  simp only[Tm.cells,List.getElem?_cons_zero,List.getElem?_cons_succ,Option.some.injEq]at hat
  rw[hat]
  exact⟨_,by rw[show off+j=off+j / 4*4+2 by omega];exact c2,at_lit.2 ⟨rfl,WalkArith.wf_i64 ⟨w3,w4⟩⟩⟩
 ·rw[h4]at hat
  simp only[Tm.cells,List.getElem?_cons_zero,List.getElem?_cons_succ,Option.some.injEq]at hat
  rw[hat,Tm.d_eq]
  exact⟨_,by rw[show off+j=off+j / 4*4+3 by omega];exact c3,ha⟩
def Tm.total (t:Tm):Nat:=
 match t with
 |⟨_,n,_,args⟩=>n.size+(args.length+(args.attach.map λ⟨x,_⟩=>Tm.total x).sum)
termination_by t
decreasing_by
 rename_i hx
 have:=List.sizeOf_lt_of_mem hx
 simp only[Tm.mk.sizeOf_spec]
 omega
def tmTotals (ts:List Tm):Nat:=ts.length+(ts.map Tm.total).sum
theorem Tm.total_eq (t:Tm):t.total=t.name.size+tmTotals t.args:=by
 obtain⟨o,n,s,args⟩:=t
 rw[Tm.total]
 show _=n.size+(args.length+(args.map Tm.total).sum)
 congr 2
 have:(λ(x:{x // x∈args})=>match x with|⟨x,_⟩=>Tm.total x)=λx:{x // x∈args}=>Tm.total x.1:=by
  funext x;rfl
 rw[this]
 conv=>rhs;rw[<-List.attach_map_subtype_val args,List.map_map]
 rfl
def sumOf {α:Type} (f:α->Nat) (l:List α) (k:Nat):Nat:=((l.take k).map f).sum
theorem sumOf_succ {α:Type} {f:α->Nat} {l:List α} {k:Nat} {x:α} (h:l[k]? =some x):sumOf f l (k+1)=sumOf f l k+f x:=by
 obtain⟨h1,rfl⟩:=gI.1 h
 unfold sumOf
 rw[List.take_succ_eq_append_getElem h1]
 simp only[List.map_append,List.map_cons,List.map_nil,List.sum_append,List.sum_cons,List.sum_nil,Nat.add_zero]
theorem sumOf_le {α:Type} (f:α->Nat) (l:List α) (k:Nat):sumOf f l k<=(l.map f).sum:=by
 unfold sumOf
 conv=>rhs;rw[<-List.take_append_drop k l]
 rw[List.map_append,List.sum_append]
 omega
theorem sumOf_zero {α:Type} (f:α->Nat) (l:List α):sumOf f l 0=0:=by simp[sumOf]
theorem le_sum_of_mem {α:Type} {f:α->Nat} {l:List α} {x:α} (h:x∈l):f x<=(l.map f).sum:=by
 induction l with
 |nil=>cases h
 | cons a l ih =>
  rw[List.map_cons,List.sum_cons]
  rcases List.mem_cons.1 h with rfl|h
  ·omega
  ·have:=ih h;omega
def rows (xss:List (List Int)):D:=.row xss.length (xss.map ints)
end Go.Proofs.YtfdkldmkbibknaaGreat
namespace Go.Proofs.YtfdkldmkbibknaaGreat.Den
open Go.RowKit
structure Lasso where
 states:List Int
 back:Int
structure Gr where
 states:List Tm
 edges:List (List Int)
 whole:Bool
structure Nd where
 state:Int
 set:Int
structure Sb where
 low:Int
 high:Int
structure So where
 names:List ByteArray
 subs:List Sb
structure Dc where
 args:List Int
 result:Int
structure Opr where
 name:ByteArray
 decls:List Dc
 assoc:Bool
 comm:Bool
 unit:Int
structure Sg where
 sorts:So
 ops:List Opr
structure Bd where
 var:Tm
 to:Tm
structure Od where
 above:List Int
 below:List Int
 kind:List Int
structure Cur where
 b:List Int
 i:Int
 h:Int
inductive Ty where
 |i|b|s|u
 |sl (t:Ty)
 |n (k:Nat)
 deriving DecidableEq
def NI :Nat->Type
 |0=>Lasso
 |1=>Tm
 |2=>Fm
 |3=>Gr
 |4=>Nd
 |5=>Sb
 |6=>So
 |7=>Dc
 |8=>Opr
 |9=>Sg
 |10=>Bd
 |11=>Od
 |12=>Cur
 |_=>Unit
def I :Ty->Type
 | .i=>Int
 | .b=>Bool
 | .s=>ByteArray
 | .u=>Int
 | .sl t=>List (I t)
 | .n k=>NI k
inductive C where
 |i (x:Int)
 |k (kd:IntKind) (x:Int)
 |b (x:Bool)
 |s (x:ByteArray)
 |l (T:Ty) (xs:List (I T))
 |lc (T:Ty) (xs:List (I T))
 |nil (T:Ty)
 |o (id:Nat)
 |p (id off:Nat)
 |e (id k n:Nat) (T:Ty) (x:I T) (off:Nat)
 |r (id k:Nat)
 |q (T:Ty) (x:I T) (off:Nat)
 |f (fn:Nat) (caps:List C)
 |m (id:Nat)
 |z
 |zs
def explode :(T:Ty)->I T->List C
 | .i,x=>[.i x]
 | .b,x=>[.b x]
 | .s,x=>[.s x]
 | .u,x=>[.k .u8 x]
 | .sl t,xs=>[.l t xs]
 | .n 0,x=>[.l .i (Lasso.states x),.i (Lasso.back x)]
 | .n 1,x=>[.i (Tm.op x),.s (Tm.name x),.i (Tm.sort x),.l (.n 1) (Tm.args x)]
 | .n 2,x=>[.i (Fm.kind x),.i (Fm.prop x),.l (.n 2) (Fm.kids x)]
 | .n 3,x=>[.l (.n 1) (Gr.states x),.l (.sl .i) (Gr.edges x),.b (Gr.whole x)]
 | .n 4,x=>[.i (Nd.state x),.i (Nd.set x)]
 | .n 5,x=>[.i (Sb.low x),.i (Sb.high x)]
 | .n 6,x=>[.l .s (So.names x),.l (.n 5) (So.subs x)]
 | .n 7,x=>[.l .i (Dc.args x),.i (Dc.result x)]
 | .n 8,x=>[.s (Opr.name x),.l (.n 7) (Opr.decls x),.b (Opr.assoc x),.b (Opr.comm x),.i (Opr.unit x)]
 | .n 9,x=>[.l .s (So.names (Sg.sorts x)),.l (.n 5) (So.subs (Sg.sorts x)),.l (.n 8) (Sg.ops x)]
 | .n 10,x=>[.i (Tm.op (Bd.var x)),.s (Tm.name (Bd.var x)),.i (Tm.sort (Bd.var x)),.l (.n 1) (Tm.args (Bd.var x)),.i (Tm.op (Bd.to x)),.s (Tm.name (Bd.to x)),.i (Tm.sort (Bd.to x)),.l (.n 1) (Tm.args (Bd.to x))]
 | .n 11,x=>[.l .i (Od.above x),.l .i (Od.below x),.l .i (Od.kind x)]
 | .n 12,x=>[.l .u (Cur.b x),.i (Cur.i x),.i (Cur.h x)]
 | .n (_+13),_=>[]
def implode :(T:Ty)->List C->Option (I T)
 | .i,[.i x]=>some x
 | .b,[.b x]=>some x
 | .s,[.s x]=>some x
 | .u,[.k .u8 x]=>some x
 | .sl t,[.l t' xs]=>if h:t'=t then some (h▸xs)else none
 | .n 0,[.l .i a0,.i a1]=>some (Lasso.mk a0 a1)
 | .n 1,[.i a0,.s a1,.i a2,.l (.n 1) a3]=>some (Tm.mk a0 a1 a2 a3)
 | .n 2,[.i a0,.i a1,.l (.n 2) a2]=>some (Fm.mk a0 a1 a2)
 | .n 3,[.l (.n 1) a0,.l (.sl .i) a1,.b a2]=>some (Gr.mk a0 a1 a2)
 | .n 4,[.i a0,.i a1]=>some (Nd.mk a0 a1)
 | .n 5,[.i a0,.i a1]=>some (Sb.mk a0 a1)
 | .n 6,[.l .s a0,.l (.n 5) a1]=>some (So.mk a0 a1)
 | .n 7,[.l .i a0,.i a1]=>some (Dc.mk a0 a1)
 | .n 8,[.s a0,.l (.n 7) a1,.b a2,.b a3,.i a4]=>some (Opr.mk a0 a1 a2 a3 a4)
 | .n 9,[.l .s a0,.l (.n 5) a1,.l (.n 8) a2]=>some (Sg.mk (So.mk a0 a1) a2)
 | .n 10,[.i a0,.s a1,.i a2,.l (.n 1) a3,.i a4,.s a5,.i a6,.l (.n 1) a7]=>some (Bd.mk (Tm.mk a0 a1 a2 a3) (Tm.mk a4 a5 a6 a7))
 | .n 11,[.l .i a0,.l .i a1,.l .i a2]=>some (Od.mk a0 a1 a2)
 | .n 12,[.l .u a0,.i a1,.i a2]=>some (Cur.mk a0 a1 a2)
 |_,_=>none
def szT :Ty->Nat
 | .i| .b| .s| .u| .sl _=>1
 | .n 0=>2
 | .n 1=>4
 | .n 2=>3
 | .n 3=>3
 | .n 4=>2
 | .n 5=>2
 | .n 6=>2
 | .n 7=>2
 | .n 8=>5
 | .n 9=>3
 | .n 10=>8
 | .n 11=>3
 | .n 12=>3
 | .n (_+13)=>0
def zeroT :(T:Ty)->Option (I T)
 | .i=>some (0:Int)
 | .b=>some false
 | .s=>some ByteArray.empty
 | .u=>some (0:Int)
 | .sl _=>some []
 | .n 0=>some (Lasso.mk [] 0)
 | .n 1=>some (Tm.mk 0 ByteArray.empty 0 [])
 | .n 2=>some (Fm.mk 0 0 [])
 | .n 3=>some (Gr.mk [] [] false)
 | .n 4=>some (Nd.mk 0 0)
 | .n 5=>some (Sb.mk 0 0)
 | .n 6=>some (So.mk [] [])
 | .n 7=>some (Dc.mk [] 0)
 | .n 8=>some (Opr.mk ByteArray.empty [] false false 0)
 | .n 9=>some (Sg.mk (So.mk [] []) [])
 | .n 10=>some (Bd.mk (Tm.mk 0 ByteArray.empty 0 []) (Tm.mk 0 ByteArray.empty 0 []))
 | .n 11=>some (Od.mk [] [] [])
 | .n 12=>some (Cur.mk [] 0 0)
 | .n (_+13)=>none
theorem explode_len (T:Ty) (hT:0<szT T) (x:I T):(explode T x).length=szT T:=by
 cases T with
 | n k =>
  match k with
  |0|1|2|3|4|5|6|7|8|9|10|11|12=>rfl
  |k+13=>simp[szT]at hT
 |_=>rfl
theorem implode_explode {T:Ty} {cs:List C} {x:I T} (h:implode T cs=some x):explode T x=cs:=by
 unfold implode at h
 split at h<;>first|(cases h;rfl)|(cases h;done)|skip
 ·split at h
  ·rename_i e;subst e;cases h;rfl
  ·cases h
def flds :Nat->List Ty
 |0=>[.sl .i,.i]
 |1=>[.i,.s,.i,.sl (.n 1)]
 |2=>[.i,.i,.sl (.n 2)]
 |3=>[.sl (.n 1),.sl (.sl .i),.b]
 |4=>[.i,.i]
 |5=>[.i,.i]
 |6=>[.sl .s,.sl (.n 5)]
 |7=>[.sl .i,.i]
 |8=>[.s,.sl (.n 7),.b,.b,.i]
 |9=>[.n 6,.sl (.n 8)]
 |10=>[.n 1,.n 1]
 |11=>[.sl .i,.sl .i,.sl .i]
 |12=>[.sl .u,.i,.i]
 |_=>[]
inductive Flds :List Ty->List C->Prop
 |nil:Flds [] []
 |cons {t:Ty} {Ts:List Ty} {cs:List C} (x:I t) (h:Flds Ts cs):Flds (t::Ts) (explode t x++cs)
theorem Flds.inv {t:Ty} {Ts:List Ty} {cs:List C} (h:Flds (t::Ts) cs):∃x ds,cs=explode t x++ds/\Flds Ts ds:=by cases h with|cons x h=>exact⟨x,_,rfl,h⟩
theorem Flds.inv0 {cs:List C} (h:Flds [] cs):cs=[]:=by cases h;rfl
theorem flds_mk :∀(k:Nat) (cs:List C),0<szT (.n k)->Flds (flds k) cs->∃x:I (.n k),explode (.n k) x=cs
 | 0, cs, _, h => by
  obtain⟨a0,d0,e0,h⟩:=h.inv
  obtain⟨a1,d1,e1,h⟩:=h.inv
  have e:=h.inv0
  exact⟨Lasso.mk a0 a1,by rw[e0,e1,e];rfl⟩
 | 1, cs, _, h => by
  obtain⟨a0,d0,e0,h⟩:=h.inv
  obtain⟨a1,d1,e1,h⟩:=h.inv
  obtain⟨a2,d2,e2,h⟩:=h.inv
  obtain⟨a3,d3,e3,h⟩:=h.inv
  have e:=h.inv0
  exact⟨Tm.mk a0 a1 a2 a3,by rw[e0,e1,e2,e3,e];rfl⟩
 | 2, cs, _, h => by
  obtain⟨a0,d0,e0,h⟩:=h.inv
  obtain⟨a1,d1,e1,h⟩:=h.inv
  obtain⟨a2,d2,e2,h⟩:=h.inv
  have e:=h.inv0
  exact⟨Fm.mk a0 a1 a2,by rw[e0,e1,e2,e];rfl⟩
 | 3, cs, _, h => by
  obtain⟨a0,d0,e0,h⟩:=h.inv
  obtain⟨a1,d1,e1,h⟩:=h.inv
  obtain⟨a2,d2,e2,h⟩:=h.inv
  have e:=h.inv0
  exact⟨Gr.mk a0 a1 a2,by rw[e0,e1,e2,e];rfl⟩
 | 4, cs, _, h => by
  obtain⟨a0,d0,e0,h⟩:=h.inv
  obtain⟨a1,d1,e1,h⟩:=h.inv
  have e:=h.inv0
  exact⟨Nd.mk a0 a1,by rw[e0,e1,e];rfl⟩
 | 5, cs, _, h => by
  obtain⟨a0,d0,e0,h⟩:=h.inv
  obtain⟨a1,d1,e1,h⟩:=h.inv
  have e:=h.inv0
  exact⟨Sb.mk a0 a1,by rw[e0,e1,e];rfl⟩
 | 6, cs, _, h => by
  obtain⟨a0,d0,e0,h⟩:=h.inv
  obtain⟨a1,d1,e1,h⟩:=h.inv
  have e:=h.inv0
  exact⟨So.mk a0 a1,by rw[e0,e1,e];rfl⟩
 | 7, cs, _, h => by
  obtain⟨a0,d0,e0,h⟩:=h.inv
  obtain⟨a1,d1,e1,h⟩:=h.inv
  have e:=h.inv0
  exact⟨Dc.mk a0 a1,by rw[e0,e1,e];rfl⟩
 | 8, cs, _, h => by
  obtain⟨a0,d0,e0,h⟩:=h.inv
  obtain⟨a1,d1,e1,h⟩:=h.inv
  obtain⟨a2,d2,e2,h⟩:=h.inv
  obtain⟨a3,d3,e3,h⟩:=h.inv
  obtain⟨a4,d4,e4,h⟩:=h.inv
  have e:=h.inv0
  exact⟨Opr.mk a0 a1 a2 a3 a4,by rw[e0,e1,e2,e3,e4,e];rfl⟩
 | 9, cs, _, h => by
  obtain⟨a0,d0,e0,h⟩:=h.inv
  obtain⟨a1,d1,e1,h⟩:=h.inv
  have e:=h.inv0
  exact⟨Sg.mk a0 a1,by rw[e0,e1,e];rfl⟩
 | 10, cs, _, h => by
  obtain⟨a0,d0,e0,h⟩:=h.inv
  obtain⟨a1,d1,e1,h⟩:=h.inv
  have e:=h.inv0
  exact⟨Bd.mk a0 a1,by rw[e0,e1,e];rfl⟩
 | 11, cs, _, h => by
  obtain⟨a0,d0,e0,h⟩:=h.inv
  obtain⟨a1,d1,e1,h⟩:=h.inv
  obtain⟨a2,d2,e2,h⟩:=h.inv
  have e:=h.inv0
  exact⟨Od.mk a0 a1 a2,by rw[e0,e1,e2,e];rfl⟩
 | 12, cs, _, h => by
  obtain⟨a0,d0,e0,h⟩:=h.inv
  obtain⟨a1,d1,e1,h⟩:=h.inv
  obtain⟨a2,d2,e2,h⟩:=h.inv
  have e:=h.inv0
  exact⟨Cur.mk a0 a1 a2,by rw[e0,e1,e2,e];rfl⟩
 |_+13,cs,h,_=>by simp[szT]at h
end Go.Proofs.YtfdkldmkbibknaaGreat.Den

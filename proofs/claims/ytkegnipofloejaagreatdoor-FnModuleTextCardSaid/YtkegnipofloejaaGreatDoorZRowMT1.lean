/- merged -/
import Derived.Lib.Hide
import Derived.Lib.SmallJoins
import Derived.Test.YtkegnipofloejaaGreatDoorZRowMT0

namespace Go.Proofs.YtkegnipofloejaaGreatDoor
section
open Go.RowKit
structure D where
 val:Y Value
 num:Nat
 cells:List D
def D.lit(u:Value):D:=⟨some u,0,[]⟩
def D.row(n:Nat)(cs:Td D):D:=⟨none,n,cs⟩
theorem D.cases(d:D):(∃u n cs,d=⟨some u,n,cs⟩)\/(∃n cs,d= .row n cs):=by
 rcases d with⟨_|u,n,cs⟩
 .exact .inr ⟨n,cs,rfl⟩
 .grind
def Blk(w:World)(g:Nat)(t:TypeId)(cs:Array Value):Prop:=w.heap[g]? =some (.cells cs t (0,0))
section
variable {w:World}{g:Nat}{t:TypeId}{cs:Array Value}{a b c:Value}
theorem Blk.lt(h:Blk w g t cs):g<w.heap.size:=by
 rcases Pq g w.heap.size with d|hge
 .exact d
 .unfold Blk at h;rw[Pu hge]at h;cases h
theorem Blk.cell(h:Blk w g t cs)(i:Nat):w.cell? ⟨g,i,none⟩=cs[i]? :=cell_of_row w g i cs t (0,0) h
theorem Blk.new(w:World)(t:TypeId)(cs:Array Value):Blk (w.alloc (.cells cs t)) w.heap.size t cs:=heap_alloc_new w _
theorem Blk.alloc(h:Blk w g t cs)(o:Obj):Blk (w.alloc o) g t cs:=(Below.heap_alloc w o g h.lt).trans h
theorem Blk.c3(h:Blk w g t #[a,b,c]):w.cell? ⟨g,0,none⟩=some a/\w.cell? ⟨g,1,none⟩=some b/\w.cell? ⟨g,2,none⟩=some c:=⟨h.cell 0,h.cell 1,h.cell 2⟩
theorem Blk.c4{d:Value}(h:Blk w g t #[a,b,c,d]):w.cell? ⟨g,0,none⟩=some a/\w.cell? ⟨g,1,none⟩=some b/\w.cell? ⟨g,2,none⟩=some c/\w.cell? ⟨g,3,none⟩=some d:=⟨h.cell 0,h.cell 1,h.cell 2,h.cell 3⟩
def ints(xs:Td Int):D:=.row xs.length (xs.map λx=>.lit (.int .i64 x))
end
end
section
open Go.ChangeShapes Go.WideShapes Go.ChangeAt Go.RowKit Go.Deep Go.Joins
theorem Tryz.own:ownKnob Tryz.prog.godebug=none:=D1
theorem Tryz.laidOut:laidOutB Tryz.prog=true:=D1
theorem D0{w:World}{a:Addr}{v:Value}(h:w.cell? a=some v):a=⟨a.block,a.off,none⟩:=by
 obtain⟨b,o,s⟩:=a;have:s=none:=World.cell?_spot h;subst this;rfl
theorem Gm(b o k:Nat):(⟨b,o,none⟩:Addr).add k=⟨b,o+k,none⟩:=by
 unfold Addr.add;split
 .subst_vars;rfl
 .rfl
theorem zI{H:Type}{enc:TypeId×Value->H}{P:Program}{w:World}{base:Nat}{spare:Nat->Bool}{held:Bool}{I:Nat}{v:Value}{x:DataW H×Td MemPlace}{t e:TypeId}{size:Nat}
  (K:P.underlying t=some (.slice e)) (D:P.cellsOf e=size) (C:0<size) (h:DataW.trod enc P w base spare held I t [v]=some x):
  ∃ A len cap,v= .slice A len cap/\len<=cap/\cap<=9223372036854775807/\
   (0<len->∃b off n,I=n+1/\A=some ⟨b,off,none⟩/\∀i,i<len->∃cs y,cs.length=size/\(∀j,j<size->w.cell? ⟨b,off+(i*size+j),none⟩=cs[j]?)/\DataW.trod enc P w base spare held n e cs=some y):=by
 rcases DataW.trod_slice K h with⟨d,_⟩|⟨a,len,cap,eA,rest,n,rfl,d,_,N,hl,hm,bF,E,_,_⟩
 .simp at d;subst d;exact⟨none,0,0,rfl,O3 _,A0,λh=>absurd h A0⟩
 .simp at d;subst d;unfold maxLen at hm;refine⟨some a,len,cap,rfl,hl,A0,λhp=> ?_⟩;have key:∀i,i<len->∃cs y,cs.length=size/\(∀j,j<size->w.cell? (a.add (i*size+j))=cs[j]?)/\DataW.trod enc P w base spare held n e cs=some y:=by
   intro i hi;have h1:=E i hi;rw[O0 A0,D]at h1;obtain⟨cs,h2,L⟩:=Option.bind_eq_some_iff.1 h1;obtain⟨_,B,hc⟩:=World.cells?_some h2;exact⟨cs,_,B,λj F=>by rw[<-hc j F,Go.Deep.add_add],L⟩
  have J:a=⟨a.block,a.off,none⟩:=by
   obtain⟨cs,y,B,hc,_⟩:=key 0 hp;have h0:=hc 0 C;rw[O0 A0]at h0;have M:a.add (0*size+0)=a:=by simp[Addr.add]
   rw[M]at h0;exact D0 h0
  refine⟨a.block,a.off,n,rfl,by rw[<-J],λi hi=> ?_⟩;obtain⟨cs,y,B,hc,G⟩:=key i hi;exact⟨cs,y,B,λj F=>by rw[<-hc j F,J,Gm],G⟩
end
end Go.Proofs.YtkegnipofloejaaGreatDoor
namespace Go.Proofs.YtkegnipofloejaaGreatDoor
open Go.RowKit
end Go.Proofs.YtkegnipofloejaaGreatDoor
namespace Go.Proofs.YtkegnipofloejaaGreatDoor
open Go.RowKit
structure Tm where
 op:Int
 ah:Z
 am:Int
 ae:List Tm
def Tm.d(t:Tm):D:=
 match t with
 |⟨_,_,_,ae⟩=>.row ae.length (ae.attach.flatMap λ⟨x,_⟩=>[.lit (.int .i64 x.op),.lit (.string x.ah),.lit (.int .i64 x.am),Tm.d x])
termination_by t
decreasing_by
 exact Sq
def Tm.az(t:Tm):Nat:=
 match t with
 |⟨_,n,_,ae⟩=>n.size+(ae.length+(ae.attach.map λ⟨x,_⟩=>Tm.az x).sum)
termination_by t
decreasing_by
 exact Sq
def aF(d:Td Tm):Nat:=d.length+(d.map Tm.az).sum
theorem Tm.lS(t:Tm):t.az=t.ah.size+aF t.ae:=by
 obtain⟨o,n,s,ae⟩:=t;rw[Tm.az];show _=n.size+(ae.length+(ae.map Tm.az).sum)
 congr 2
 have:(λ(x:{x // x∈ae})=>match x with|⟨x,_⟩=>Tm.az x)=λx:{x // x∈ae}=>Tm.az x.1:=by
  funext x;rfl
 rw[this]
 conv=>rhs;rw[<-List.attach_map_subtype_val ae,List.map_map]
 rfl
def rows(xss:Td (Td Int)):D:=.row xss.length (xss.map ints)
end Go.Proofs.YtkegnipofloejaaGreatDoor
namespace Go.Proofs.YtkegnipofloejaaGreatDoor.Den
open Go.RowKit
structure Sb where
 low:Int
 cK:Int
structure So where
 ak:List Z
 aA:List Sb
structure Dc where
 ae:List Int
 result:Int
structure Opr where
 ah:Z
 aJ:List Dc
 aE:Bool
 comm:Bool
 aO:Int
structure Sg where
 ai:So
 ops:List Opr
structure Od where
 db:List Int
 below:List Int
 kind:List Int
structure Cur where
 b:List Int
 i:Int
 h:Int
structure Cnd where
 left:Tm
 right:Tm
structure Eqn where
 left:Tm
 right:Tm
 bJ:List Cnd
structure Md where
 sig:Sg
 eqs:List Eqn
 rules:List Eqn
inductive Ty where
 |i|b|s|u
 |sl (t:Ty)
 |n (k:Nat)
 deriving DecidableEq
def NI:Nat->Type
 |1=>Tm
 |5=>Sb
 |6=>So
 |7=>Dc
 |8=>Opr
 |9=>Sg
 |11=>Od
 |12=>Cur
 |13=>Cnd
 |14=>Eqn
 |15=>Md
 |_=>Unit
def I:Ty->Type
 | .i=>Int
 | .b=>Bool
 | .s=>Z
 | .u=>Int
 | .sl t=>Td (I t)
 | .n k=>NI k
inductive C where
 |i (x:Int)
 |k (kd:IntKind) (x:Int)
 |b (x:Bool)
 |s (x:Z)
 |l (T:Ty) (xs:List (I T))
 |lc (T:Ty) (xs:List (I T))
 |nil (T:Ty)
 |o (id:Nat)
 |p (id off:Nat)
 |e (id k n:Nat) (T:Ty) (x:I T) (off:Nat)
 |r (id k:Nat)
 |q (T:Ty) (x:I T) (off:Nat)
 |f (fn:Nat) (caps:List C)
 |m (id:Nat)
 |z
 |zs
def aC:(T:Ty)->I T->Td C
 | .i,x=>[.i x]
 | .b,x=>[.b x]
 | .s,x=>[.s x]
 | .u,x=>[.k .u8 x]
 | .sl t,xs=>[.l t xs]
 | .n 1,x=>[.i (Tm.op x),.s (Tm.ah x),.i (Tm.am x),.l (.n 1) (Tm.ae x)]
 | .n 5,x=>[.i (Sb.low x),.i (Sb.cK x)]
 | .n 6,x=>[.l .s (So.ak x),.l (.n 5) (So.aA x)]
 | .n 7,x=>[.l .i (Dc.ae x),.i (Dc.result x)]
 | .n 8,x=>[.s (Opr.ah x),.l (.n 7) (Opr.aJ x),.b (Opr.aE x),.b (Opr.comm x),.i (Opr.aO x)]
 | .n 9,x=>[.l .s (So.ak (Sg.ai x)),.l (.n 5) (So.aA (Sg.ai x)),.l (.n 8) (Sg.ops x)]
 | .n 11,x=>[.l .i (Od.db x),.l .i (Od.below x),.l .i (Od.kind x)]
 | .n 12,x=>[.l .u (Cur.b x),.i (Cur.i x),.i (Cur.h x)]
 | .n 13,x=>[.i (Tm.op (Cnd.left x)),.s (Tm.ah (Cnd.left x)),.i (Tm.am (Cnd.left x)),.l (.n 1) (Tm.ae (Cnd.left x)),.i (Tm.op (Cnd.right x)),.s (Tm.ah (Cnd.right x)),.i (Tm.am (Cnd.right x)),.l (.n 1) (Tm.ae (Cnd.right x))]
 | .n 14,x=>[.i (Tm.op (Eqn.left x)),.s (Tm.ah (Eqn.left x)),.i (Tm.am (Eqn.left x)),.l (.n 1) (Tm.ae (Eqn.left x)),.i (Tm.op (Eqn.right x)),.s (Tm.ah (Eqn.right x)),.i (Tm.am (Eqn.right x)),.l (.n 1) (Tm.ae (Eqn.right x)),.l (.n 13) (Eqn.bJ x)]
 | .n 15,x=>[.l .s (So.ak (Sg.ai (Md.sig x))),.l (.n 5) (So.aA (Sg.ai (Md.sig x))),.l (.n 8) (Sg.ops (Md.sig x)),.l (.n 14) (Md.eqs x),.l (.n 14) (Md.rules x)]
 | .n 0,_| .n 2,_| .n 3,_| .n 4,_| .n 10,_| .n 16,_| .n (_+17),_=>[]
def NP(cs:Td C):Y Tm:=match cs with
 |[.i a0,.s d,.i h,.l (.n 1) a3]=>some (Tm.mk a0 d h a3)
 |_=>none
def MU(cs:Td C):Y Sb:=match cs with
 |[.i a0,.i d]=>some (Sb.mk a0 d)
 |_=>none
def LX(cs:Td C):Y So:=match cs with
 |[.l .s a0,.l (.n 5) d]=>some (So.mk a0 d)
 |_=>none
def Mf(cs:Td C):Y Dc:=match cs with
 |[.l .i a0,.i d]=>some (Dc.mk a0 d)
 |_=>none
def ME(cs:Td C):Y Opr:=match cs with
 |[.s a0,.l (.n 7) d,.b h,.b a3,.i a4]=>some (Opr.mk a0 d h a3 a4)
 |_=>none
def MK(cs:Td C):Y Sg:=match cs with
 |[.l .s a0,.l (.n 5) d,.l (.n 8) h]=>some (Sg.mk (So.mk a0 d) h)
 |_=>none
def FX(cs:Td C):Y Od:=match cs with
 |[.l .i a0,.l .i d,.l .i h]=>some (Od.mk a0 d h)
 |_=>none
def IB(cs:Td C):Y Cur:=match cs with
 |[.l .u a0,.i d,.i h]=>some (Cur.mk a0 d h)
 |_=>none
def GQ(cs:Td C):Y Cnd:=match cs with
 |[.i a0,.s d,.i h,.l (.n 1) a3,.i a4,.s a5,.i j,.l (.n 1) t]=>some (Cnd.mk (Tm.mk a0 d h a3) (Tm.mk a4 a5 j t))
 |_=>none
def Iz(cs:Td C):Y Eqn:=match cs with
 |[.i a0,.s d,.i h,.l (.n 1) a3,.i a4,.s a5,.i j,.l (.n 1) t,.l (.n 13) v]=>some (Eqn.mk (Tm.mk a0 d h a3) (Tm.mk a4 a5 j t) v)
 |_=>none
def E1(cs:Td C):Y Md:=match cs with
 |[.l .s a0,.l (.n 5) d,.l (.n 8) h,.l (.n 14) a3,.l (.n 14) a4]=>some (Md.mk (Sg.mk (So.mk a0 d) h) a3 a4)
 |_=>none
def L8(cs:Td C):Y Int:=match cs with
 |[.i x]=>some x
 |_=>none
def N4(cs:Td C):Y Bool:=match cs with
 |[.b x]=>some x
 |_=>none
def NC(cs:Td C):Y Z:=match cs with
 |[.s x]=>some x
 |_=>none
def Nr(cs:Td C):Y Int:=match cs with
 |[.k .u8 x]=>some x
 |_=>none
def NY(t:Ty)(cs:Td C):Y (Td (I t)):=match cs with
 |[.l d xs]=>if h:d=t then some (h▸xs)else none
 |_=>none
def jJ:(T:Ty)->Td C->Y (I T)
 | .i,cs=>L8 cs
 | .b,cs=>N4 cs
 | .s,cs=>NC cs
 | .u,cs=>Nr cs
 | .sl t,cs=>NY t cs
 | .n 1,cs=>NP cs
 | .n 5,cs=>MU cs
 | .n 6,cs=>LX cs
 | .n 7,cs=>Mf cs
 | .n 8,cs=>ME cs
 | .n 9,cs=>MK cs
 | .n 11,cs=>FX cs
 | .n 12,cs=>IB cs
 | .n 13,cs=>GQ cs
 | .n 14,cs=>Iz cs
 | .n 15,cs=>E1 cs
 | .n 0,_| .n 2,_| .n 3,_| .n 4,_| .n 10,_| .n 16,_| .n (_+17),_=>none
def szT:Ty->Nat
 | .i| .b| .s| .u| .sl _=>1
 | .n 1=>4
 | .n 5=>2
 | .n 6=>2
 | .n 7=>2
 | .n 8=>5
 | .n 9=>3
 | .n 11=>3
 | .n 12=>3
 | .n 13=>8
 | .n 14=>9
 | .n 15=>5
 | .n 0| .n 2| .n 3| .n 4| .n 10| .n 16| .n (_+17)=>0
def jU:(T:Ty)->Y (I T)
 | .i=>some (0:Int)
 | .b=>some false
 | .s=>some ByteArray.empty
 | .u=>some (0:Int)
 | .sl _=>some []
 | .n 1=>some (Tm.mk 0 ByteArray.empty 0 [])
 | .n 5=>some (Sb.mk 0 0)
 | .n 6=>some (So.mk [] [])
 | .n 7=>some (Dc.mk [] 0)
 | .n 8=>some (Opr.mk ByteArray.empty [] false false 0)
 | .n 9=>some (Sg.mk (So.mk [] []) [])
 | .n 11=>some (Od.mk [] [] [])
 | .n 12=>some (Cur.mk [] 0 0)
 | .n 13=>some (Cnd.mk (Tm.mk 0 ByteArray.empty 0 []) (Tm.mk 0 ByteArray.empty 0 []))
 | .n 14=>some (Eqn.mk (Tm.mk 0 ByteArray.empty 0 []) (Tm.mk 0 ByteArray.empty 0 []) [])
 | .n 15=>some (Md.mk (Sg.mk (So.mk [] []) []) [] [])
 | .n 0| .n 2| .n 3| .n 4| .n 10| .n 16| .n (_+17)=>none
theorem df(T:Ty)(d:0<szT T)(x:I T):(aC T x).length=szT T:=by
 cases T with
 | n k=>
  match k with
  |1|5|6|7|8|9|11|12|13|14|15=>rfl
  |0| 2| 3| 4| 10| 16| _+17=>simp[szT]at d
 |_=>rfl
theorem iD:∀{T:Ty}{cs:Td C}{x:I T}(_:jJ T cs=some x),aC T x=cs
 | .i,cs,x,h=>by
  have h:L8 cs=some x:=h;unfold L8 at h;split at h
  .exact Tc
  .cases h
 | .b,cs,x,h=>by
  have h:N4 cs=some x:=h;unfold N4 at h;split at h
  .exact Tc
  .cases h
 | .s,cs,x,h=>by
  have h:NC cs=some x:=h;unfold NC at h;split at h
  .exact Tc
  .cases h
 | .u,cs,x,h=>by
  have h:Nr cs=some x:=h;unfold Nr at h;split at h
  .exact Tc
  .cases h
 | .sl t,cs,x,h=>by
  have h:NY t cs=some x:=h;unfold NY at h;split at h
  .split at h
   .rename_i e;subst e;exact Tc
   .cases h
  .cases h
 | .n 1,cs,x,h=>by
  have h:NP cs=some x:=h;unfold NP at h;split at h
  .exact Tc
  .cases h
 | .n 5,cs,x,h=>by
  have h:MU cs=some x:=h;unfold MU at h;split at h
  .exact Tc
  .cases h
 | .n 6,cs,x,h=>by
  have h:LX cs=some x:=h;unfold LX at h;split at h
  .exact Tc
  .cases h
 | .n 7,cs,x,h=>by
  have h:Mf cs=some x:=h;unfold Mf at h;split at h
  .exact Tc
  .cases h
 | .n 8,cs,x,h=>by
  have h:ME cs=some x:=h;unfold ME at h;split at h
  .exact Tc
  .cases h
 | .n 9,cs,x,h=>by
  have h:MK cs=some x:=h;unfold MK at h;split at h
  .exact Tc
  .cases h
 | .n 11,cs,x,h=>by
  have h:FX cs=some x:=h;unfold FX at h;split at h
  .exact Tc
  .cases h
 | .n 12,cs,x,h=>by
  have h:IB cs=some x:=h;unfold IB at h;split at h
  .exact Tc
  .cases h
 | .n 13,cs,x,h=>by
  have h:GQ cs=some x:=h;unfold GQ at h;split at h
  .exact Tc
  .cases h
 | .n 14,cs,x,h=>by
  have h:Iz cs=some x:=h;unfold Iz at h;split at h
  .exact Tc
  .cases h
 | .n 15,cs,x,h=>by
  have h:E1 cs=some x:=h;unfold E1 at h;split at h
  .exact Tc
  .cases h
 | .n 0,_,_,h| .n 2,_,_,h| .n 3,_,_,h| .n 4,_,_,h| .n 10,_,_,h| .n 16,_,_,h| .n (_+17),_,_,h=>HC
def Na:Nat->Td Ty
 |1=>[.i,.s,.i,.sl (.n 1)]
 |5=>[.i,.i]
 |6=>[.sl .s,.sl (.n 5)]
 |7=>[.sl .i,.i]
 |8=>[.s,.sl (.n 7),.b,.b,.i]
 |9=>[.n 6,.sl (.n 8)]
 |11=>[.sl .i,.sl .i,.sl .i]
 |12=>[.sl .u,.i,.i]
 |13=>[.n 1,.n 1]
 |14=>[.n 1,.n 1,.sl (.n 13)]
 |15=>[.n 9,.sl (.n 14),.sl (.n 14)]
 |_=>[]
inductive Flds:List Ty->List C->Prop
 |nil:Flds [] []
 |cons {t:Ty} {Ts:List Ty} {cs:List C} (x:I t) (h:Flds Ts cs):Flds (t::Ts) (aC t x++cs)
theorem Flds.inv{t:Ty}{d:Td Ty}{cs:Td C}(h:Flds (t::d) cs):∃x j,cs=aC t x++j/\Flds d j:=by cases h with|cons x h=>exact⟨x,_,rfl,h⟩
theorem Flds.lC{cs:Td C}(h:Flds [] cs):cs=[]:=QU
theorem KY:∀(k:Nat)(cs:Td C),0<szT (.n k)->Flds (Na k) cs->∃x:I (.n k),aC (.n k) x=cs
 | 1,cs,_,h=>by
  obtain⟨a0,v,d,h⟩:=h.inv;obtain⟨j,w,e1,h⟩:=h.inv;obtain⟨t,d2,e2,h⟩:=h.inv;obtain⟨a3,y,e3,h⟩:=h.inv;have e:=h.lC;exact⟨Tm.mk a0 j t a3,by rw[d,e1,e2,e3,e];rfl⟩
 | 5,cs,_,h=>by
  obtain⟨a0,v,d,h⟩:=h.inv;obtain⟨j,w,e1,h⟩:=h.inv;have e:=h.lC;exact⟨Sb.mk a0 j,QY⟩
 | 6,cs,_,h=>by
  obtain⟨a0,v,d,h⟩:=h.inv;obtain⟨j,w,e1,h⟩:=h.inv;have e:=h.lC;exact⟨So.mk a0 j,QY⟩
 | 7,cs,_,h=>by
  obtain⟨a0,v,d,h⟩:=h.inv;obtain⟨j,w,e1,h⟩:=h.inv;have e:=h.lC;exact⟨Dc.mk a0 j,QY⟩
 | 8,cs,_,h=>by
  obtain⟨a0,v,d,h⟩:=h.inv;obtain⟨j,w,e1,h⟩:=h.inv;obtain⟨t,d2,e2,h⟩:=h.inv;obtain⟨a3,y,e3,h⟩:=h.inv;obtain⟨a4,d4,A,h⟩:=h.inv;have e:=h.lC;exact⟨Opr.mk a0 j t a3 a4,by rw[d,e1,e2,e3,A,e];rfl⟩
 | 9,cs,_,h=>by
  obtain⟨a0,v,d,h⟩:=h.inv;obtain⟨j,w,e1,h⟩:=h.inv;have e:=h.lC;exact⟨Sg.mk a0 j,QY⟩
 | 11,cs,_,h=>by
  obtain⟨a0,v,d,h⟩:=h.inv;obtain⟨j,w,e1,h⟩:=h.inv;obtain⟨t,d2,e2,h⟩:=h.inv;have e:=h.lC;exact⟨Od.mk a0 j t,R9⟩
 | 12,cs,_,h=>by
  obtain⟨a0,v,d,h⟩:=h.inv;obtain⟨j,w,e1,h⟩:=h.inv;obtain⟨t,d2,e2,h⟩:=h.inv;have e:=h.lC;exact⟨Cur.mk a0 j t,R9⟩
 | 13,cs,_,h=>by
  obtain⟨a0,v,d,h⟩:=h.inv;obtain⟨j,w,e1,h⟩:=h.inv;have e:=h.lC;exact⟨Cnd.mk a0 j,QY⟩
 | 14,cs,_,h=>by
  obtain⟨a0,v,d,h⟩:=h.inv;obtain⟨j,w,e1,h⟩:=h.inv;obtain⟨t,d2,e2,h⟩:=h.inv;have e:=h.lC;exact⟨Eqn.mk a0 j t,R9⟩
 | 15,cs,_,h=>by
  obtain⟨a0,v,d,h⟩:=h.inv;obtain⟨j,w,e1,h⟩:=h.inv;obtain⟨t,d2,e2,h⟩:=h.inv;have e:=h.lC;exact⟨Md.mk a0 j t,R9⟩
 |0,cs,h,_| 2,cs,h,_| 3,cs,h,_| 4,cs,h,_| 10,cs,h,_| 16,cs,h,_| _+17,cs,h,_=>by simp[szT]at h
end Go.Proofs.YtkegnipofloejaaGreatDoor.Den

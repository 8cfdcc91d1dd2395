/-
  Texts that the claim rests on, merged: AbsClip, Den, DenR, DenV, DenE.
-/
import Derived.Laws.BytesString
import Derived.Test.YtfdkldmkbibknaaGreatZRowTx3
import Derived.Test.YtfdkldmkbibknaaGreatZRowTx5
import Derived.Test.YtfdkldmkbibknaaGreatZRowTx6
import Derived.Test.YtfdkldmkbibknaaGreatZRowTx7
import Derived.Test.YtfdkldmkbibknaaGreatZRowTx8

namespace Go.Proofs.YtfdkldmkbibknaaGreat.Abs
open Go.RowKit
section
variable [Zb]
section
variable {P : Program} {E : Cx} {K : Env → ag → Prop} {L : Env} {h h0 l : ag} {d n : Nat} {ty : TypeId} {pos : String} {af : Array Edge} {gd : Option (Nat × Bool)} {tb : Tbl} {o : Oper}
theorem VR.clipCap {I:Nat->Prop} {w:World} {ι:List Inf} {s:Nat} {es:List (List V)} {A:Option Addr} {n c:Nat} (h:VR I w ι (.immc s es) (.slice A n c)):c=es.length:=by
 cases h with
 |immc0=>rfl
 |immc _ _ _ _ _=>rfl
theorem tU (htb:bE P tb) {t tx:TypeId} {x y:Operand} {s:Nat} {es ns:List (List V)} {el:ElI} (hx:ev L x=some (.one (.immc s es))) (he:dN tb t=some el) (hne:el.zero≠[]) (hz:el.zero.length=el.size) (hs:el.size=s)
  (hsrc0:lY P E L h s tx y ns) (hm0:0<ns.length) (hbnd:es.length+ns.length<=4294967296) (hby:Nat.ble el.bytes 4096=true) (hn:d<E.n)
  (hk:K ((d,.one (.own h.length 0 (es.length+ns.length)))::L) (h++[some (.row s (es++ns))])):ar P ⟨some d,.call ⟨.builtin .append,#[x,y],#[t,tx]⟩,ty,pos,af,gd⟩ E K L h:=by
 refine ig rfl hn (λLf ι I a w rF r=> ?_) hk;have hby:=Nat.le_of_ble_eq_true hby
 obtain⟨inf0,z,g1,g2,g3,g4,g5⟩:=ly htb he hne hz;obtain⟨u1,u2,_⟩:=aH htb he;obtain⟨news,hsrc,hnv,hns⟩:=hsrc0 ι I a w r;have hsrc':Src P inf0.size tx (a.eval y) ns.length news w:=by rw[g4,hs];exact hsrc
 have hnl:news.length=ns.length*s:=by rw[hnv.1,bb hns]
 have hvx:=(r.ev hx).one';obtain⟨A,cap,cs,hc,h1,h2,h3,h4,h5,h6⟩:=mB (s:=s) (es:=es) r hvx (by simp[fe]);rw[hc]at hvx;have hcap:=hvx.clipCap;have hold:(Builtin.firstCells inf0.size es.length (.slice A es.length cap)).run P w.drew= .ok cs.toArray w.drew:=by
  cases A with
  | none =>
   have:cs=[]:=by
    rcases h6 with rfl|⟨b,off,hA,_⟩
    ·exact nZ (by simpa using h5)
    ·cases hA
   subst this;exact run_firstCells_none w.drew _ _ _ _
  | some ad =>
   refine run_firstCells_some w.drew _ _ _ _ _ cs (by rw[h5,g4,hs]) (λj u hu=> ?_);rcases h6 with rfl|⟨b,off,hA,h7⟩
   ·have:cs=[]:=nZ (by simpa using h5);subst this;simp at hu
   ·cases hA;rw[bI];exact h7 j u hu
 have hnc:=Room.nextslicecap_le' (need:=es.length+ns.length) (old:=cap) (by omega);have hfit:Builtin.nextslicecap (es.length+ns.length) cap*inf0.bytes<=281474976710656:=by
  rw[g5];exact Nat.le_trans (Nat.mul_le_mul (Nat.le_trans hnc (Nat.mul_le_mul_left 2 hbnd)) hby) (by decide)
 have hrun:=run_append_grow_src (P:=P) w t tx ty el.t inf0 z u1 g1 g2 A es.length cap cs hold (a.eval y) ns.length news hsrc' (by omega) (by omega) hfit;obtain⟨gc,hgc⟩:∃gc,gc=grownCap w (es.length+ns.length) cap el.t:=⟨_,rfl⟩;rw[<-hgc]at hrun;have hg1:es.length+ns.length<=gc:=hgc▸grownCap_ge w _ _ _;have hg2:gc<=9223372036854775807:=by
  have:=grownCap_le_maxLen w (es.length+ns.length) cap el.t (by unfold maxLen;omega);unfold maxLen at this;omega
 have hzs:z.cells.size=s:=by rw[<-hs,<-hz,<-g3];simp
 have hr2:=(rF.drew).new ((cs++news).toArray++Builtin.zeroCells z.cells (gc-(es.length+ns.length))) el.t s gc (es++ns) (by
   rw[Array.size_append,size_zeroCells,List.size_toArray,List.length_append,h5,hnl,hzs,<-Nat.add_mul,<-Nat.add_mul];congr 1;omega) hg2 (by simp;omega) (λe he=>by
   rcases List.mem_append.1 he with he|he
   ·exact h3 e he
   ·exact hns e he) (cs:=cs++news) (rest:=(Builtin.zeroCells z.cells (gc-(es.length+ns.length))).toList) (by simp) (by
   rw[List.flatten_append];exact(h4.append hnv).keep (Grows.refl _) (lg I w))
 refine⟨.slice (some ⟨w.heap.size,0,none⟩) (es.length+ns.length) gc,_,_,_,?_,hr2,?_⟩
 ·rw[cM,hc,hrun];rfl
 ·refine .one ?_;have hi:(ι++[(⟨w.heap.size,0,gc,s⟩:Inf)])[h.length]? =some ⟨w.heap.size,0,gc,s⟩:=by rw[r.heap.len];simp
  simpa using VR.own (off:=0) (len:=es.length+ns.length) (c:=gc) hi hg1 (by simp) hg2
theorem VR.clip {I:Nat->Prop} {w:World} {ι:List Inf} {s:Nat} {es:List (List V)} {A:Option Addr} {c:Nat} (h:VR I w ι (.imm s es) (.slice A es.length c)):VR I w ι (.immc s es) (.slice (if es.length=0 then A else A.map (·.add (0*s))) (es.length-0) (es.length-0)):=by
 by_cases h0:es.length=0
 ·have:es=[]:=nZ h0;subst this;exact .immc0
 ·rw[if_neg h0];cases h with
  |imm0=>simp at h0
  | imm hs hc hm hI hcell hr hT =>
   simp only[Option.map_some,bI,Nat.zero_mul,Nat.add_zero,Nat.sub_zero];exact .immc hs (by omega) hI hcell hr hT
theorem CW (htb:bE P tb) {t:TypeId} {x hi mx:Operand} {s:Nat} {es:List (List V)} {el:ElI} {kh km:IntKind} (hx:ev L x=some (.one (.imm s es))) (he:dN tb t=some el) (hs:el.size=s) (hpos:0<s) (hh:ev L hi=some (.one (.lit (.int kh es.length)))) (hm:ev L mx=some (.one (.lit (.int km es.length)))) (hn:d<E.n)
  (hk:K ((d,.one (.immc s es))::L) h):ar P ⟨some d,.slice t x none (some hi) (some mx),ty,pos,af,gd⟩ E K L h:=
 aF rfl hn (λι I a w r=>by
  obtain⟨A,cap,e1,g1,g2⟩:=(r.ev hx).one'.immSlice;have hv:=(r.ev hx).one';rw[e1]at hv;obtain⟨u1,u2,_⟩:=aH htb he;obtain⟨eh,_⟩:=(r.ev hh).lit;obtain⟨em,_⟩:=(r.ev hm).lit;have hb:(Instr.sliceBounds true es.length cap none (some (.int kh es.length)) (some (.int km es.length))).run P w= .ok (0,es.length,es.length) w:=by
   simp[Instr.sliceBounds,Instr.sliceBound,asIntOf,g1]
  refine⟨_,?_,.one hv.clip⟩;simp[execOp,Instr.sliceAt,Instr.slice,e1,eh,em,run_underlying u1,hb,ba u2 (by omega),hs]) hk
theorem uJ (htb:bE P tb) {t:TypeId} {x hi mx:Operand} {el:ElI} {kh km:IntKind} (hx:ev L x=some (.one (.lit (.slice none 0 0)))) (he:dN tb t=some el) (hpos:0<el.size) (hh:ev L hi=some (.one (.lit (.int kh 0)))) (hm:ev L mx=some (.one (.lit (.int km 0)))) (hn:d<E.n)
  (hk:K ((d,.one (.lit (.slice none 0 0)))::L) h):ar P ⟨some d,.slice t x none (some hi) (some mx),ty,pos,af,gd⟩ E K L h:=
 aF rfl hn (λι I a w r=>by
  obtain⟨e1,_⟩:=(r.ev hx).lit;obtain⟨u1,u2,_⟩:=aH htb he;obtain⟨eh,_⟩:=(r.ev hh).lit;obtain⟨em,_⟩:=(r.ev hm).lit;have hb:(Instr.sliceBounds true 0 0 none (some (.int kh 0)) (some (.int km 0))).run P w= .ok (0,0,0) w:=by
   simp[Instr.sliceBounds,Instr.sliceBound,asIntOf]
  refine⟨.slice none 0 0,?_,.one (.lit trivial)⟩;simp[execOp,Instr.sliceAt,Instr.slice,e1,eh,em,run_underlying u1,hb,ba u2 hpos]) hk
omit [Zb]in
theorem xO (zs:List Int):∀r:ByteArray,(zs.foldl (λr n=>r.push (UInt8.ofNat n.toNat)) r).size=r.size+zs.length:=by
 induction zs with
 |nil=>intro r;rfl
 |cons z zs ih=>intro r;rw[List.foldl_cons,ih,List.length_cons,ByteArray.size_push];omega
theorem rO (htb:bE P tb) {src dst:TypeId} {x:Operand} {zs:List Int} {el:ElI} {j:TyI} (hx:ev L x=some (.one (.imm 1 (zs.map λn=>[V.lit (.int .u8 n)])))) (he:dN tb src=some el) (hu:P.underlying el.t=some (.int .u8)) (hd:tb.lookup dst=some j) (hj:j.desc= .string) (hn:d<E.n)
  (hk:K ((d,.one (.lit (.string (zs.foldl (λr n=>r.push (UInt8.ofNat n.toNat)) ByteArray.empty))))::L) h):ar P ⟨some d,.convert src dst x,ty,pos,af,gd⟩ E K L h:=
 aF     rfl hn (λι I a w r=>by
  obtain⟨A,cap,cs,hc,h1,h2,h3,h4,h5,h6⟩:=mB (s:=1) (es:=zs.map λn=>[V.lit (.int .u8 n)]) r (r.ev hx).one' (by simp[fe]);obtain⟨u1,u2,_⟩:=aH htb he;obtain⟨_,_,g2,_⟩:=aP (htb dst j hd);rw[hj]at g2;have hfl:(zs.map λn=>[V.lit (.int .u8 n)]).flatten=zs.map λn=>V.lit (.int .u8 n):=by
   clear hx hk hc h1 h3 h4 h5 h6
   induction zs with
   |nil=>rfl
   |cons z zs ih=>rw[List.map_cons,List.flatten_cons,ih];rfl
  rw[hfl]at h4;have hcs:cs=zs.map (Value.int .u8):=by
   apply List.ext_getElem
   ·rw[h4.1];simp
   ·intro q q1 q2;obtain⟨u,v1,v2⟩:=h4.2 q (by simpa using q2);rw[List.getElem_map]at v2;rw[gE q1]at v1;have v1:=Option.some.inj v1;rw[List.getElem_map];generalize cs[q]=y at v1;subst v1;cases v2;rfl
  refine⟨.string (zs.foldl (λr n=>r.push (UInt8.ofNat n.toNat)) ByteArray.empty),?_,.one (.lit ?_)⟩
  ·rw [List.length_map] at hc;have key:(Conv.bytesToString (a.eval x)).run P w= .ok (.string (zs.foldl (λr n=>r.push (UInt8.ofNat n.toNat)) ByteArray.empty)) w:=by
    rw[hc];cases A with
    | none =>
     rcases h6 with h6|⟨b,off,hA,_⟩
     ·have:zs=[]:=by simpa using h6
      subst this;simp[Conv.bytesToString]
     ·cases hA
    | some ad =>
     refine run_bytesToString w ad _ cap zs ?_;have:=run_loadCells_list (P:=P) w ad cs (λq u hu=>by
      rcases h6 with h6|⟨b,off,hA,h7⟩
      ·have:zs=[]:=by simpa using h6
       subst this;rw[hcs]at hu;simp at hu
      ·cases hA;rw[bI];exact h7 q u hu)
     rw[hcs,List.length_map]at this;exact this
   simp only[execOp,convert,Sem.run_bind,run_underlying u1,run_underlying g2,Result.andThen_ok];rw[hc]at key ⊢;simp only[Sem.run_bind,run_underlying hu,Result.andThen_ok,key,Sem.run_pure]
  ·show (zs.foldl (λr n=>r.push (UInt8.ofNat n.toNat)) ByteArray.empty).size<=maxLen;rw[xO];have:(ByteArray.empty).size=0:=rfl;simp at h1;unfold maxLen;omega) hk
end
end
end Go.Proofs.YtfdkldmkbibknaaGreat.Abs
namespace Go.Proofs.YtfdkldmkbibknaaGreat.Den
open Go.RowKit
inductive AT where
 |one (c:C)
 |agg (cs:List C)
 |tup (xs:List AT)
instance : Inhabited AT := ⟨.tup []⟩
inductive Ob where
 |row (T:Ty) (n:Nat) (xs:List (I T))
 |box (cs:List C)
 |map (T:Ty) (kvs:List (ByteArray×I T))
 |gone
 |rows (T:Ty) (xss:List (List (I T))) (ho:Option Nat)
@[simp] def Ob.dead : Ob → Bool
 | .gone=>true
 | .rows _ _ _=>true
 |_=>false
def Ob.isRows :Ob->Bool
 | .rows _ _ _=>true
 |_=>false
structure St where
 L:List (Nat×AT)
 H:List Ob
structure TI where
 size:Nat
 agg:Bool
 zero:List C
 fields:List (Nat×Nat×Nat)
 elem:Option Ty
 str:Bool
 i64:Bool
 bool:Bool
 kd:Option IntKind
 map:Option Ty
abbrev Kt (R:Type):=Exit->St->Option R
structure Orc where
 mode:Nat->Nat
 arg:Nat->Nat->Nat
 call:(R:Type)->Nat->List AT->List Ob->(AT->List Ob->Option R)->Option R
def nW (v:Value):Option C:=bif Abs.bJ v then (match v with
 | .bool b=>some (.b b)
 | .int .i64 n=>some (.i n)
 | .int k n=>some (.k k n)
 | .string s=>some (.s s)
 | .slice none 0 0=>some .zs
 | .pointer none=>some .z
 | .map none=>some .z
 | .nilFunc=>some .z
 |_=>none)else none
def mn :List Value->Option (List C)
 |[]=>some []
 | v :: vs => match nW v, mn vs with
  |some c,some cs=>some (c::cs)
  |_,_=>none
def zm :Value->Option AT
 | .agg cs=>(mn cs.toList).map .agg
 |v=>(nW v).map .one
def ev (L:List (Nat×AT)):Operand->Option AT
 | .tmp t=>L.lookup t
 | .const v=>zm v
 | .func f=>some (.one (.f f []))
 |_=>none
def evs (L:List (Nat×AT)):List Operand->Option (List AT)
 |[]=>some []
 | x :: xs => match ev L x, evs L xs with
  |some v,some vs=>some (v::vs)
  |_,_=>none
def ix {α:Type} (xs:List α) (i:Int):Option α:=bif decide (0<=i)then xs[i.toNat]? else none
def lim {α:Type} (xs:List α):Option (List α):=bif Nat.ble xs.length 4294967296 then some xs else none
def mk {α:Type} (x:α) (n:Int):Option (List α):=bif decide (0<=n)&&decide (n<=4294967296)then some (List.replicate n.toNat x)else none
def sub {α:Type} (xs:List α) (lo hi:Int):Option (List α):=bif decide (0<=lo)&&decide (lo<=hi)&&decide (hi<=(xs.length:Int))then some ((xs.take hi.toNat).drop lo.toNat)else none
def sIx (s:ByteArray) (i:Int):Option Int:=bif decide (0<=i)then (match s[i.toNat]? with|some b=>some (b.toNat:Int)|none=>none)else none
def nn (s:ByteArray) (lo hi:Int):Option ByteArray:=bif decide (0<=lo)&&decide (lo<=hi)&&decide (hi<=(s.size:Int))then some (s.extract lo.toNat hi.toNat)else none
def cQ (a b:ByteArray):Option ByteArray:=bif decide (a.size+b.size<=1099511627776)then some (a++b)else none
def sOf (xs:List Int):ByteArray:=xs.foldl (λr n=>r.push (UInt8.ofNat n.toNat)) ByteArray.empty
def ofS (s:ByteArray):List Int:=s.data.toList.map λb=>(b.toNat:Int)
def sEq (a b:ByteArray):Bool:=decide (a=b)
def uh {α:Type}:List (ByteArray×α)->ByteArray->Option α
 |[],_=>none
 |(a,b)::rest,s=>if a=s then some b else uh rest s
def mM {α:Type} (kvs:List (ByteArray×α)) (s:ByteArray) (z:α):α:=match uh kvs s with|some x=>x|none=>z
def Cp {α:Type} (kvs:List (ByteArray×α)) (s:ByteArray):Bool:=(uh kvs s).isSome
def le (n a b:Int):Option Unit:=bif decide (a=n)&&decide (b=n)then some ()else none
def gi (a b:Int):Int:=if b<a then b else a
def mg (a b:Int):Int:=if a<b then b else a
def EV {α:Type} (xs ys:List α):Option (List α):=match ys with
 |[]=>none
 |_::_=>lim (xs++ys)
def xR :List C->AT
 |[c]=>.one c
 |cs=>.agg cs
def CJ :IntKind->Int->C
 | .i64,a=>.i (IntKind.i64.wrap a)
 |k,a=>.k k (k.wrap a)
def ld (agg:Bool) (size:Nat) (cs:List C):Option AT:=
 if agg then (if Nat.ble size cs.length then some (.agg (cs.take size))else none)else cs.head?.map .one
def cells :AT->Option (List C)
 | .one c=>some [c]
 | .agg cs=>some cs
 |_=>none
def splice (cs:List C) (off:Nat) (vs:List C):List C:=cs.take off++(vs++cs.drop (off+vs.length))
def C.fz (id:Nat) (T:Ty) (xs:List (I T)):C->C
 | .o j=>if Nat.beq j id then .l T xs else .o j
 |c=>c
def AT.fz (id:Nat) (T:Ty) (xs:List (I T)):AT->AT
 | .one c=>.one (c.fz id T xs)
 | .agg cs=>.agg (cs.map (C.fz id T xs))
 | .tup ys=>.tup ys
def Ob.fz (id:Nat) (T:Ty) (xs:List (I T)):Ob->Ob
 | .box cs=>.box (cs.map (C.fz id T xs))
 |o=>o
def St.fz (id:Nat) (T:Ty) (xs:List (I T)) (st:St):St:=⟨st.L.map λp=>(p.1,p.2.fz id T xs),(st.H.set id .gone).map (Ob.fz id T xs)⟩
def bF :List Nat->St->St
 |[],st=>st
 | id :: ids, st => match st.H[id]? with
  |some (.row T _ xs)=>bF ids (st.fz id T xs)
  |some (.rows T xss none)=>bF ids (st.fz id (.sl T) xss)
  |_=>bF ids st
def kN (H:List Ob):C->Option C
 | .lc T xs=>some (.l T xs)
 | .nil T=>some (.l T [])
 | .o id=>match H[id]? with
  |some (.row T _ xs)=>some (.l T xs)
  |_=>none
 | .i x=>some (.i x)
 | .k kd x=>some (.k kd x)
 | .b x=>some (.b x)
 | .s x=>some (.s x)
 | .l T xs=>some (.l T xs)
 | .zs=>some .zs
 |_=>none
def cU (H:List Ob):List C->Option (List C)
 |[]=>some []
 | c :: cs => match kN H c, cU H cs with
  |some d,some ds=>some (d::ds)
  |_,_=>none
def fj (H:List Ob):AT->Option AT
 | .one c=>(kN H c).map .one
 | .agg cs=>(cU H cs).map .agg
 | .tup _=>none
def cn (H:List Ob):List AT->Option (List AT)
 |[]=>some []
 | c :: cs => match fj H c, cn H cs with
  |some d,some ds=>some (d::ds)
  |_,_=>none
def fE :C->Bool
 | .i _| .k _ _| .b _| .s _| .l _ _=>true
 |_=>false
def AT.flat :AT->Bool
 | .one c=>fE c
 | .agg cs=>cs.all fE
 | .tup xs=>flatA xs
where flatA :List AT->Bool
 |[]=>true
 |x::xs=>x.flat&&flatA xs
def scal :C->Bool
 | .i _| .k _ _| .b _| .s _=>true
 |_=>false
def AT.scal :AT->Bool
 | .one c=>Den.scal c
 | .agg cs=>cs.all Den.scal
 | .tup xs=>scals xs
where scals :List AT->Bool
 |[]=>true
 |x::xs=>x.scal&&scals xs
variable {R : Type}
def Do (op:BinOp) (a b:C):Option C:=match a,b with
 | .i x,.i y=>match op with
  | .add=>some (.i (IntKind.i64.wrap (x+y)))
  | .sub=>some (.i (IntKind.i64.wrap (x-y)))
  | .mul=>some (.i (IntKind.i64.wrap (x*y)))
  | .lss=>some (.b (decide (x<y)))
  | .leq=>some (.b (decide (x<=y)))
  | .gtr=>some (.b (decide (y<x)))
  | .geq=>some (.b (decide (y<=x)))
  | .eql=>some (.b (decide (x=y)))
  | .neq=>some (.b (!decide (x=y)))
  | .and=>some (.i (Abs.am .and .i64 x y))
  | .or=>some (.i (Abs.am .or .i64 x y))
  | .xor=>some (.i (Abs.am .xor .i64 x y))
  | .andNot=>some (.i (Abs.am .andNot .i64 x y))
  |_=>none
 | .b x,.b y=>match op with
  | .eql=>some (.b (x==y))
  | .neq=>some (.b (!(x==y)))
  |_=>none
 | .s x,.s y=>match op with
  | .eql=>some (.b (sEq x y))
  | .neq=>some (.b (!sEq x y))
  | .lss=>some (.b (Abs.strLt x y))
  | .leq=>some (.b (Abs.strLt x y||sEq x y))
  | .gtr=>some (.b (!(Abs.strLt x y||sEq x y)))
  | .geq=>some (.b (!Abs.strLt x y))
  |_=>none
 | .k kd x, .k kd' y => match decide (kd = kd') with
  | true => match op with
   | .add=>some (.k kd (Abs.nR .add kd x y))
   | .sub=>some (.k kd (Abs.nR .sub kd x y))
   | .mul=>some (.k kd (Abs.nR .mul kd x y))
   | .lss=>some (.b (decide (x<y)))
   | .leq=>some (.b (decide (x<=y)))
   | .gtr=>some (.b (decide (y<x)))
   | .geq=>some (.b (decide (y<=x)))
   | .eql=>some (.b (decide (x=y)))
   | .neq=>some (.b (!decide (x=y)))
   | .and=>some (.k kd (Abs.am .and kd x y))
   | .or=>some (.k kd (Abs.am .or kd x y))
   | .xor=>some (.k kd (Abs.am .xor kd x y))
   | .andNot=>some (.k kd (Abs.am .andNot kd x y))
   |_=>none
  |false=>none
 |_,_=>none
inductive Pl (X:Type) where
 |no
 |ret (x:X)
 |opt {α:Type} (m:Option α) (f:α->Option X)
def Pl.run {X:Type} (p:Pl X) (K:X->Option R):Option R:=match p with
 | .no=>none
 | .ret x=>K x
 | .opt m f=>m.bind λa=>match f a with
  |some x=>K x
  |none=>none
def Cb (op:BinOp) (a b:C) (K:C->Option R):Option R:=match op,a,b with
 | .quo,.i x,.i y=>bif decide (0<=x)&&decide (0<y)then K (.i (x / y))else none
 | .rem,.i x,.i y=>bif decide (0<=x)&&decide (0<y)then K (.i (x%y))else none
 | .shl,.i x,.i y=>bif decide (0<=y)then K (.i (Abs.am .shl .i64 x y))else none
 | .shr,.i x,.i y=>bif decide (0<=y)then K (.i (Abs.am .shr .i64 x y))else none
 | .shl,.i x,.k _ y=>bif decide (0<=y)then K (.i (Abs.am .shl .i64 x y))else none
 | .shr,.i x,.k _ y=>bif decide (0<=y)then K (.i (Abs.am .shr .i64 x y))else none
 | .add,.s x,.s y=>bif decide (x.size+y.size<=1099511627776)then K (.s (x++y))else none
 | .shr,.k .u64 x,.k _ y=>bif decide (0<=y)then K (.k .u64 (Abs.am .shr .u64 x y))else none
 | .shr,.k .u64 x,.i y=>bif decide (0<=y)then K (.k .u64 (Abs.am .shr .u64 x y))else none
 | _, _, _ => match Do op a b with
  |some c=>K c
  |none=>none
def BL (op:BinOp) (a b:C):Pl AT:=match op,a,b with
 | .quo,.i x,.i y=>.opt (bif decide (0<=x)&&decide (0<y)then some (x / y)else none) λq=>some (.one (.i q))
 | .rem,.i x,.i y=>.opt (bif decide (0<=x)&&decide (0<y)then some (x%y)else none) λq=>some (.one (.i q))
 | .shl,.i x,.i y=>.opt (bif decide (0<=y)then some (Abs.am .shl .i64 x y)else none) λq=>some (.one (.i q))
 | .shr,.i x,.i y=>.opt (bif decide (0<=y)then some (Abs.am .shr .i64 x y)else none) λq=>some (.one (.i q))
 | .shl,.i x,.k _ y=>.opt (bif decide (0<=y)then some (Abs.am .shl .i64 x y)else none) λq=>some (.one (.i q))
 | .shr,.i x,.k _ y=>.opt (bif decide (0<=y)then some (Abs.am .shr .i64 x y)else none) λq=>some (.one (.i q))
 | .add,.s x,.s y=>.opt (cQ x y) λq=>some (.one (.s q))
 | .shr,.k .u64 x,.k _ y=>.opt (bif decide (0<=y)then some (Abs.am .shr .u64 x y)else none) λq=>some (.one (.k .u64 q))
 | .shr,.k .u64 x,.i y=>.opt (bif decide (0<=y)then some (Abs.am .shr .u64 x y)else none) λq=>some (.one (.k .u64 q))
 | _, _, _ => match Do op a b with
  |some c=>.ret (.one c)
  |none=>.no
def uo (H:List Ob):C->Option Int
 | .l _ xs=>some (xs.length:Int)
 | .lc _ xs=>some (xs.length:Int)
 | .nil _=>some 0
 | .zs=>some 0
 | .o id=>match H[id]? with
  |some (.row _ _ xs)=>some (xs.length:Int)
  |some (.rows _ xss _)=>some (xss.length:Int)
  |_=>none
 |_=>none
def hQ {T T':Ty} (xs:List (I T')):Option (List (I T)):=if h:T'=T then some (h▸xs)else none
def gm (H:List Ob) (T:Ty) (c:C):Option (List (I T)):=match kN H c with
 |some (.l _ xs)=>hQ xs
 |_=>none
def si (place:Nat->Option (Nat×Nat)) (cs:List C):List (Nat×List C)->Option (List C)
 |[]=>some cs
 | (i, vs) :: rest => match place i with
  |some (off,size)=>if Nat.beq vs.length size&&Nat.ble (off+vs.length) cs.length then si place (splice cs off vs) rest else none
  |none=>none
def bo (L:List (Nat×AT)):List (Nat×Operand)->Option (List (Nat×List C))
 |[]=>some []
 | (i, x) :: rest => match (ev L x).bind cells, bo L rest with
  |some vs,some ps=>some ((i,vs)::ps)
  |_,_=>none
def me :List C->List C->List C
 | .l T _::ts,.zs::cs=>.nil T::me ts cs
 |_::ts,c::cs=>c::me ts cs
 |_,cs=>cs
def dB     (T : Ty) (z : I T) : (len k : Nat) → List (Nat × List C) → Option (List (I T))
 |0,_,[]=>some []
 |0,_,_::_=>none
 | n + 1, k, ps => match ps with
  | (j, cs) :: rest => if Nat.beq j k then
    (match cU [] (me (ah T z) cs)with
    | some ds => match fx T ds, dB T z n (k + 1) rest with
     |some x,some xs=>some (x::xs)
     |_,_=>none
    |none=>none)
   else (match dB T z n (k+1) ps with
    |some xs=>some (z::xs)
    |none=>none)
  | [] => match dB T z n (k + 1) [] with
   |some xs=>some (z::xs)
   |none=>none
def vS {T T':Ty} (xs:List (ByteArray×I T')):Option (List (ByteArray×I T)):=if h:T'=T then some (h▸xs)else none
def ones :List AT->Option (List C)
 |[]=>some []
 | .one c::xs=>match ones xs with
  |some cs=>some (c::cs)
  |none=>none
 |_::_=>none
def qu   (tb : Nat → Option TI) (op : Go.Op) (L : List (Nat × AT)) (H : List Ob) : Pl AT := match op with
 | .index t x y=>match (tb t).map (·.str),ev L x,ev L y with
  |some true,some (.one (.s s)),some (.one (.i i))=>.opt (sIx s i) λb=>some (.one (.k .u8 b))
  |_,_,_=>.no
 | .slice t x lo hi none => match (tb t).map (·.str), ev L x with
  | some true, some (.one (.s s)) => match (match lo with | some y => ev L y | none => some (.one (.i 0))), (match hi with | some y => ev L y | none => some (.one (.i s.size))) with
   |some (.one (.i a)),some (.one (.i b))=>.opt (nn s a b) λq=>some (.one (.s q))
   |_,_=>.no
  |_,_=>.no
 | .slice t x none (some hi) (some mx)=>match (tb t).bind (·.elem),ev L x,ev L hi,ev L mx with
  |some T',some (.one (.l T xs)),some (.one (.i a)),some (.one (.i b))=>if Nat.beq (szT T') (szT T)then .opt (le xs.length a b) λ_=>some (.one (.lc T xs))else .no
  |some _,some (.one (.nil T)),some (.one (.i a)),some (.one (.i b))=>.opt (le 0 a b) λ_=>some (.one (.nil T))
  |_,_,_,_=>.no
 | .convert t1 t x => match tb t1, (tb t).bind (·.kd), ev L x with
  |some _,some kd,some (.one (.i a))=>.ret (.one (CJ kd a))
  |some _,some kd,some (.one (.k _ a))=>.ret (.one (CJ kd a))
  | some ti, none, some (.one (.l .u xs)) => match ti.elem, (tb t).map (·.str) with
   |some .u,some true=>.ret (.one (.s (sOf xs)))
   |_,_=>.no
  |_,_,_=>.no
 | .unOp .neg _ x=>match ev L x with
  |some (.one (.i a))=>.ret (.one (.i (IntKind.i64.wrap (0-a))))
  |some (.one (.k kd a))=>.ret (.one (.k kd (kd.wrap (0-a))))
  |_=>.no
 | .call ⟨.builtin .min, args, _⟩ => match args.toList with
  | [x, y] => match ev L x, ev L y with
   |some (.one (.i a)),some (.one (.i b))=>.ret (.one (.i (gi a b)))
   |_,_=>.no
  |_=>.no
 | .call ⟨.builtin .max, args, _⟩ => match args.toList with
  | [x, y] => match ev L x, ev L y with
   |some (.one (.i a)),some (.one (.i b))=>.ret (.one (.i (mg a b)))
   |_,_=>.no
  |_=>.no
 | .lookup t m k ok => match (tb t).bind (·.map), ev L m, ev L k with
  | some T, some (.one (.m id)), some (.one (.s s)) => match H[id]?, fO    T with
   | some (.map _ kvs), some z => match vS    (T := T) kvs with
    | some kvs => match ok with
     |false=>.ret (xR (ah T (mM kvs s z)))
     |true=>.ret (.tup [xR (ah T (mM kvs s z)),.one (.b (Cp kvs s))])
    |none=>.no
   |_,_=>.no
  |_,_,_=>.no
 | .makeFunc (.func f) first caps => match first.toList, evs L caps.toList with
  | [], some xs => match ones xs with
   |some cs=>.ret (.one (.f f cs))
   |none=>.no
  |_,_=>.no
 |_=>.no
def wY   (tb : Nat → Option TI) (o : Oper) (L : List (Nat × AT)) (H : List Ob) : Pl AT :=
 match o.op with
 | .move x | .assign x => match ev L x with
  | some (.one .zs) => match (tb o.type).bind (·.elem) with
   |some T=>.ret (.one (.nil T))
   |none=>.no
  |some v=>.ret v
  |none=>.no
 | .pick c a b => match ev L c with
  | some (.one (.b p)) => match p with
   | true => match ev L a with
    |some va=>.ret va
    |none=>.no
   | false => match ev L b with
    |some vb=>.ret vb
    |none=>.no
  |_=>.no
 | .build t parts => match tb t, bo      L parts.toList with
  | some ti, some ps => match ti.fields, si (fun k => (ti.fields[k]?).map fun f => (f.1, f.2.2)) ti.zero ps with
   |_::_,some cs=>.ret (.agg cs)
   |_,_=>.no
  |_,_=>.no
 | .fieldAddr t x f => match tb t, ev L x with
  | some ti, some (.one (.p id off)) => match ti.fields[f]? with
   |some (fo,_)=>.ret (.one (.p id (off+fo)))
   |none=>.no
  | some ti, some (.one (.q T y off)) => match ti.fields[f]? with
   |some (fo,_)=>.ret (.one (.q T y (off+fo)))
   |none=>.no
  | some ti, some (.one (.e id k n T y off)) => match H[id]?, ti.fields[f]? with
   |some (.row _ _ _),some (fo,_)=>.ret (.one (.e id k n T y (off+fo)))
   |_,_=>.no
  |_,_=>.no
 | .field t x f => match tb t, ev L x with
  | some ti, some (.agg cs) => match ti.fields[f]? with
   | some (fo, ft, _) => match tb ft with
    | some fi => match ld fi.agg fi.size (cs.drop fo) with
     |some v=>.ret v
     |none=>.no
    |none=>.no
   |none=>.no
  |_,_=>.no
 | .load t x => match tb t, ev L x with
  | some ti, some (.one (.p id off)) => match H[id]? with
   | some (.box cs) => match ld ti.agg ti.size (cs.drop off) with
    |some v=>.ret v
    |none=>.no
   |_=>.no
  | some ti, some (.one (.q T y off)) => match ld ti.agg ti.size ((ah T y).drop off) with
   |some v=>.ret v
   |none=>.no
  | some ti, some (.one (.e id k n T y off)) => match H[id]? with
   | some (.row _ n' xs) => if Nat.beq n n' then (match ld ti.agg ti.size ((ah      T y).drop off) with
     |some v=>.ret v
     |none=>.no)
    else (match hQ (T:=T) xs with
     |some xs=>Pl.opt xs[k]? λy'=>ld ti.agg ti.size ((ah T y').drop off)
     |none=>.no)
   |_=>.no
  |_,_=>.no
 | .indexAddr t x y => match (tb t).bind (·.elem), ev L x, ev L y with
  |some T',some (.one (.l T xs)),some (.one (.i i))=>if Nat.beq (szT T') (szT T)then Pl.opt (ix xs i) (λe=>some (.one (.q T e 0)))else .no
  | some T', some (.one (.o id)), some (.one (.i i)) => match H[id]? with
   |some (.row T n xs)=>if Nat.beq (szT T') (szT T)then Pl.opt (ix xs i) (λe=>some (.one (.e id i.toNat n T e 0)))else .no
   |_=>.no
  |_,_,_=>.no
 | .slice t x lo hi none => match (tb t).bind (·.elem), ev L x with
  | some T', some (.one (.l T xs)) => if Nat.beq (szT T') (szT T) then match (match lo with | some y => ev L y | none => some (.one (.i 0))), (match hi with | some y => ev L y | none => some (.one (.i xs.length))) with
   |some (.one (.i a)),some (.one (.i b))=>Pl.opt (sub xs a b) λys=>some (.one (.l T ys))
   |_,_=>.no
   else .no
  |_,_=>qu tb o.op L H
 | .nilCheck x=>match ev L x with
  |some (.one (.p id off))=>.ret (.one (.p id off))
  |some (.one (.q T y off))=>.ret (.one (.q T y off))
  |_=>.no
 | .binOp op t x y _ => match ev L x, ev L y with
  | some (.one a), some (.one b) => match a with
   | .b _=>match (tb t).map (·.bool)with
    |some true=>BL op a b
    |_=>.no
   |_=>BL op a b
  |_,_=>.no
 | .unOp .not _ x=>match ev L x with
  |some (.one (.b p))=>.ret (.one (.b (!p)))
  |_=>.no
 | .extract x j => match ev L x with
  | some (.tup xs) => match xs[j]? with
   |some v=>.ret v
   |none=>.no
  |_=>.no
 | .convert t1 t x => match tb t1, tb t, ev L x with
  | some _, some ti, some (.one (.k .u8 a)) => match ti.i64 with
   |true=>.ret (.one (.i a))
   |false=>qu tb o.op L H
  |_,_,_=>qu tb o.op L H
 | .call ⟨.builtin .len, args, tys⟩ => match args.toList, tys.toList with
  | [x], [t] => match tb t, ev L x with
   | some ti, some (.one (.s s)) => match ti.str with
    |true=>.ret (.one (.i (s.size:Int)))
    |false=>.no
   | some ti, some (.one c) => match ti.elem, uo H c with
    |some _,some n=>.ret (.one (.i n))
    |_,_=>.no
   |_,_=>.no
  |_,_=>.no
 |op=>qu tb op L H
def kind :Go.Op->Nat
 | .alloc _| .box _ _| .buildSlice _ _ _| .makeSlice _ _ _| .makeMap _ _=>1
 | .call ⟨.builtin .append,_,_⟩=>1
 | .call ⟨.value _,_,_⟩=>2
 |_=>0
def qr :Operand->Operand->Bool
 | .tmp a,.tmp b=>Nat.beq a b
 | .const (.int .i64 a),.const (.int .i64 b)=>decide (a=b)
 |_,_=>false
def uc   (tb : Nat → Option TI) (op : Go.Op) (L : List (Nat × AT)) (H : List Ob) : Pl (AT × List Ob) := match op with
 | .makeMap t none=>match (tb t).bind (·.map)with
  |some T=>.ret (.one (.m H.length),H++[.map T []])
  |none=>.no
 | .call ⟨.builtin .append, args, tys⟩ => match args.toList, tys.toList with
  | [x, y], [t, tx] => match (tb t).bind (·.elem), ev L x, ev L y with
   | some T, some (.one (.lc _ xs)), some (.one cy) => match (tb tx).bind (·.elem), hQ (T := T) xs, gm H T cy with
    |some _,some xs,some ys=>Pl.opt (EV xs ys) λzs=>some (.one (.o H.length),H++[.row T 0 zs])
    |_,_,_=>.no
   | some .u, some (.one (.o id)), some (.one (.s s)) => match (tb tx).map (·.str), H[id]? with
    |some true,some (.row .u _ xs)=>Pl.opt (lim (α:=Int) (List.append (α:=Int) xs (ofS s))) λzs=>some (.one (.o H.length),(H.set id .gone)++[.row .u 0 zs])
    |_,_=>.no
   | some .u, some (.one (.nil _)), some (.one (.s s)) => match (tb tx).map (·.str) with
    |some true=>Pl.opt (lim (ofS s)) λzs=>some (.one (.o H.length),H++[.row .u 0 zs])
    |_=>.no
   |_,_,_=>.no
  |_,_=>.no
 |_=>.no
def As   (tb : Nat → Option TI) (o : Oper) (L : List (Nat × AT)) (H : List Ob) : Pl (AT × List Ob) :=
 match o.op with
 | .alloc t=>match tb t with
  |some ti=>.ret (.one (.p H.length 0),H++[.box ti.zero])
  |none=>.no
 | .box _ x=>match (ev L x).bind cells with
  |some cs=>.ret (.one (.p H.length 0),H++[.box cs])
  |none=>.no
 | .buildSlice t len parts => match (tb t).bind (·.elem), bo      L parts.toList with
  | some T, some ps => match fO    T with
   | some z => match dB T z len 0 ps, Nat.ble (len * szT T) 16777216 with
    |some xs,true=>.ret (.one (.o H.length),H++[.row T 0 xs])
    |_,_=>.no
   |none=>.no
  |_,_=>.no
 | .makeSlice t x y => match (tb t).bind (·.elem), ev L x, qr     x y with
  | some T, some (.one (.i n)), true => match fO T with
   |some z=>Pl.opt (mk z n) λxs=>some (.one (.o H.length),H++[.row T 0 xs])
   |none=>.no
  |_,_,_=>.no
 | .call ⟨.builtin .append, args, tys⟩ => match args.toList, tys.toList with
  | [x, y], [t, tx] => match (tb t).bind (·.elem), (tb tx).bind (·.elem), ev L x, ev L y with
   | some T, some _, some (.one cx), some (.one cy) => match gm      H T cy with
    | some ys => match cx with
     | .o id => match H[id]? with
      | some (.row _ _ xs) => match hQ (T := T) xs with
       |some xs=>Pl.opt (lim (xs++ys)) λzs=>some (.one (.o H.length),(H.set id .gone)++[.row T 0 zs])
       |none=>.no
      |_=>.no
     | .nil _=>Pl.opt (lim ys) λzs=>some (.one (.o H.length),H++[.row T 0 zs])
     |_=>uc tb o.op L H
    |none=>.no
   |_,_,_,_=>uc tb o.op L H
  |_,_=>.no
 |op=>uc tb op L H
def C.ids :C->List Nat
 | .o id=>[id]
 | .p id _=>[id]
 | .m id=>[id]
 | .f _ caps=>capIds caps
 |_=>[]
where capIds :List C->List Nat
 |[]=>[]
 |c::cs=>c.ids++capIds cs
def AT.ids :AT->List Nat
 | .one c=>c.ids
 | .agg cs=>cs.flatMap C.ids
 | .tup xs=>idsA xs
where idsA :List AT->List Nat
 |[]=>[]
 |x::xs=>x.ids++idsA xs
def jS (H:List Ob):Nat->List Nat->List Nat->List Nat
 |0,_,acc=>acc
 |_,[],acc=>acc
 | n + 1, id :: rest, acc => if acc.contains id then jS H n rest acc else
  match H[id]? with
  |some (.box cs)=>jS H n (cs.flatMap C.ids++rest) (acc++[id])
  |_=>jS H n rest (acc++[id])
def pos :List Nat->Nat->Option Nat
 |[],_=>none
 | k :: ks, id => if Nat.beq k id then some 0 else match pos ks id with
  |some j=>some (j+1)
  |none=>none
def C.mv (g:Nat->Option Nat):C->Option C
 | .o id=>match g id with
  |some j=>some (.o j)
  |none=>none
 | .p id off=>match g id with
  |some j=>some (.p j off)
  |none=>none
 | .m id=>match g id with
  |some j=>some (.m j)
  |none=>none
 | .e _ _ _ _ _ _=>none
 | .r _ _=>none
 | .f fn caps=>match mvK g caps with
  |some ds=>some (.f fn ds)
  |none=>none
 |c=>some c
where mvK (g:Nat->Option Nat):List C->Option (List C)
 |[]=>some []
 | c :: cs => match c.mv g, mvK g cs with
  |some d,some ds=>some (d::ds)
  |_,_=>none
def mvs (g:Nat->Option Nat):List C->Option (List C)
 |[]=>some []
 | c :: cs => match c.mv g, mvs g cs with
  |some d,some ds=>some (d::ds)
  |_,_=>none
def AT.mv (g:Nat->Option Nat):AT->Option AT
 | .one c=>match c.mv g with
  |some d=>some (.one d)
  |none=>none
 | .agg cs=>match mvs g cs with
  |some ds=>some (.agg ds)
  |none=>none
 | .tup xs=>match mvA g xs with
  |some ys=>some (.tup ys)
  |none=>none
where mvA (g:Nat->Option Nat):List AT->Option (List AT)
 |[]=>some []
 | x :: xs => match x.mv g, mvA g xs with
  |some y,some ys=>some (y::ys)
  |_,_=>none
def Ob.mv (g:Nat->Option Nat):Ob->Option Ob
 | .box cs=>match mvs g cs with
  |some ds=>some (.box ds)
  |none=>none
 |o=>some o
def obs (g:Nat->Option Nat):List Ob->Option (List Ob)
 |[]=>some []
 | x :: xs => match x.mv g, obs g xs with
  |some y,some ys=>some (y::ys)
  |_,_=>none
def qF (H:List Ob):List Nat->Option (List Ob)
 |[]=>some []
 | id :: ids => match H[id]?, qF H ids with
  |some x,some xs=>some (x::xs)
  |_,_=>none
def Ob.anew :Ob->Ob
 | .row T _ xs=>.row T 0 xs
 |o=>o
def jo (keep:List Nat) (H:List Ob):Option (List Ob):=match qF H keep with
 | some xs => match obs (pos keep) xs with
  |some ys=>some (ys.map Ob.anew)
  |none=>none
 |none=>none
def eqL :List Nat->List Nat->Bool
 |[],[]=>true
 |x::xs,y::ys=>Nat.beq x y&&eqL xs ys
 |_,_=>false
def dX :List Nat->Bool
 |[]=>true
 |x::xs=> !xs.contains x&&dX xs
def Ob.bump (old new:Ob):Ob:=match new with
 | .row T _ xs=>(match old with
  | .row _ n _=>.row T (n+1) xs
  |_=>.row T 0 xs)
 |y=>y
def bm :List Ob->List Nat->List Ob->List Ob
 | H, id :: ids, x :: xs => bm (match H[id]? with
  |some o=>H.set id (o.bump x)
  |none=>H) ids xs
 |H,_,_=>H
def back (keep:List Nat) (n:Nat) (j:Nat):Option Nat:=if Nat.blt j keep.length then keep[j]? else some (n+(j-keep.length))
def gZ    (O : Orc) (f : Nat) : Nat → List AT → List Ob → Option (List AT × List Ob)
 |_,[],H=>some ([],H)
 | j, x :: xs, H => match O.arg f j with
  | 0 => match fj [] x, gZ O f (j + 1) xs H with
   |some y,some (ys,H')=>some (y::ys,H')
   |_,_=>none
  | _ + 1 => match x with
   | .one (.nil T)=>match gZ O f (j+1) xs (H++[.row T 0 []])with
    |some (ys,H')=>some (.one (.o H.length)::ys,H')
    |none=>none
   | _ => match gZ O f (j + 1) xs H with
    |some (ys,H')=>some (x::ys,H')
    |none=>none
def uz (xs:List AT):List Nat:=xs.flatMap λx=>match cells x with
 | some cs => cs.flatMap fun c => match c with
  | .o id=>[id]
  |_=>[]
 |none=>[]
def dh :List Nat->List AT->List Ob->List AT×List Ob
 |[],xs,H=>(xs,H)
 | id :: ids, xs, H => match H[id]? with
  |some (.row T _ ys)=>dh ids (xs.map (AT.fz id T ys)) (H.set id .gone)
  |_=>dh ids xs H
def yp    (O : Orc) (f : Nat) (xs : List AT) (H : List Ob) (K : AT → List Ob → Option R) : Option R := match O.mode f with
 | 0 => match cn     H xs with
  | some ys => O.call R f ys [] fun v _ => match v.scal with
   |true=>K v H
   |false=>none
  |none=>none
 | 1 => match cn     [] xs with
  | some ys => O.call R f ys [] fun v _ => match v.flat with
   |true=>K v H
   |false=>none
  | none => match uz     xs with
   |[]=>none
   | id :: ids => let q := dh     (id :: ids) xs H
    match cn [] q.1 with
    | some ys => O.call R f ys [] fun v _ => match v.flat with
     |true=>K v q.2
     |false=>none
    |none=>none
 | 2 => match gZ    O f 0 xs H with
  | some (ys, H1) => let keep := jS     H1 1000 (AT.ids.idsA ys) []
   match dX keep,jo keep H1,AT.mv.mvA (pos keep) ys with
   | true, some Hc, some zs => O.call R f zs Hc fun v Hc' => match Nat.ble keep.length Hc'.length, obs (back keep H1.length) Hc', v.mv (back keep H1.length) with
    |true,some Hb,some u=>K u (bm H1 keep Hb++Hb.drop keep.length)
    |_,_,_=>none
   |_,_,_=>none
  |none=>none
 |_+3=>none
def ut (tb:Nat->Option TI) (t:Nat):AT->AT
 | .one .zs=>match (tb t).bind (·.elem)with
  |some T=>.one (.nil T)
  |none=>.one .zs
 |x=>x
def bV (tb:Nat->Option TI):List Nat->List AT->List AT
 |t::ts,x::xs=>ut tb t x::bV tb ts xs
 |_,xs=>xs
def qW (tb:Nat->Option TI) (O:Orc) (o:Oper) (L:List (Nat×AT)) (H:List Ob) (K:AT->List Ob->Option R):Option R:=
 match o.op with
 | .call ⟨.value x,args,tys⟩=>match ev L x,evs L args.toList with
  |some (.one (.f f caps)),some xs=>yp O f (bV tb tys.toList xs++caps.map .one) H K
  |_,_=>none
 |_=>none
def opD (tb:Nat->Option TI) (O:Orc) (o:Oper) (L:List (Nat×AT)) (H:List Ob) (K:AT->List Ob->Option R):Option R:=
 match kind o.op with
 |0=>(wY tb o L H).run λv=>K v H
 |1=>(As tb o L H).run λq=>K q.1 q.2
 |_=>qW tb O o L H K
def opX (tb : Nat → Option TI) (op : Go.Op) (L : List (Nat × AT)) (H : List Ob) : Pl (List Ob) := match op with
 | .mapUpdate t m k x => match (tb t).bind (·.map), ev L m, ev L k, (ev L x).bind cells with
  | some T, some (.one (.m id)), some (.one (.s s)), some vs => match H[id]?, cU    [] vs with
   | some (.map _ kvs), some ds => match vS (T := T) kvs, fx T ds, ev L x with
    |some kvs,some y,some (.one _)=>if Nat.beq (szT T) 1 then .ret (H.set id (.map T ((s,y)::kvs)))else .no
    |some kvs,some y,some (.agg _)=>if Nat.beq (szT T) 1 then .no else .ret (H.set id (.map T ((s,y)::kvs)))
    |_,_,_=>.no
   |_,_=>.no
  |_,_,_,_=>.no
 |_=>.no
def opN (tb : Nat → Option TI) (o : Oper) (L : List (Nat × AT)) (H : List Ob) : Pl (List Ob) :=
 match o.op with
 | .store t x y => match tb t, ev L x, (ev L y).bind cells with
  | some ti, some (.one (.p id off)), some vs => match H[id]? with
   |some (.box cs)=>if Nat.beq ti.size vs.length&&Nat.ble (off+vs.length) cs.length then .ret (H.set id (.box (splice cs off vs)))else .no
   |_=>.no
  | some ti, some (.one (.e id k n T e off)), some vs => match cU    [] (me   ((ah      T e).drop off) vs) with
   | some ds => match H[id]? with
    | some (.row _ n' xs) => match hQ    (T := T) xs with
     | some xs => if Nat.beq ti.size vs.length && Nat.ble (off + vs.length) (szT T) && Nat.blt 0 (szT T) then
      (if Nat.beq n n' then (match fx      T (splice (ah      T e) off ds) with
        |some x=>.ret (H.set id (.row T (n'+1) (xs.set k x)))
        |none=>.no)
       else Pl.opt xs[k]? λe'=>match fx T (splice (ah T e') off ds)with
        |some x=>some (H.set id (.row T (n'+1) (xs.set k x)))
        |none=>none)
      else .no
     |none=>.no
    |_=>.no
   |none=>.no
  |_,_,_=>.no
 |op=>opX tb op L H
def one (tb:Nat->Option TI) (O:Orc) (nt:Nat) (o:Oper) (L:List (Nat×AT)) (H:List Ob) (K:AT->List Ob->Option R):Option R:=match o.dst with
 |some d=>if Nat.blt d nt then opD tb O o L H K else none
 |none=>(opN tb o L H).run λH'=>K (.tup []) H'
def gX (dst:Option Nat) (v:AT) (L:List (Nat×AT)):List (Nat×AT):=match dst with
 |some d=>(d,v)::L
 |none=>L
def gsl (ops:List Oper) (j:Nat):Option Nat:=match ops[j]? with
 |some o=>o.dst
 |none=>none
def kT     (nt : Nat) (ops : List Oper) (o : Oper) (L1 L : List (Nat × AT)) (run skip : List (Nat × AT) → Option R) : Option R := match o.guard with
 |none=>run L
 | some (j, want) => match gsl ops j, o.dst with
  | some d, some d' => if Nat.blt d' nt then match L1.lookup d with
   | some (.one (.b p)) => match want with
    |true=>bif p then run ((d,.one (.b true))::L)else skip ((d,.one (.b false))::L)
    |false=>bif p then skip ((d,.one (.b true))::L)else run ((d,.one (.b false))::L)
   |some (.tup [])=>skip L
   |_=>none
   else none
  |_,_=>none
def Ek   (tb : Nat → Option TI) (o : Oper) (L : List (Nat × AT)) : Pl AT :=
 match o.op with
 | .buildSlice t len parts => match (tb t).bind (·.elem), bo      L parts.toList with
  | some T, some ps => match fO    T with
   | some z => match dB T z len 0 ps, Nat.ble (len * szT T) 16777216 with
    |some xs,true=>.ret (.one (.l T xs))
    |_,_=>.no
   |none=>.no
  |_,_=>.no
 |_=>.no
def zG (tb:Nat->Option TI) (nt:Nat) (o:Oper) (L:List (Nat×AT)) (K:AT->Option R):Option R:=match o.dst with
 |some d=>if Nat.blt d nt then (Ek tb o L).run K else none
 |none=>none
def C.rows :C->List Nat
 | .o id=>[id]
 |_=>[]
def jw (L:List (Nat×AT)) (x:Operand):List Nat:=match (ev L x).bind cells with
 |some cs=>cs.flatMap C.rows
 |none=>[]
def mW (O:Orc) (f:Nat):Nat->List AT->List Nat
 |_,[]=>[]
 | j, x :: xs => match O.arg f j with
  | 0 => (match cells x with
   |some cs=>cs.flatMap C.rows
   |none=>[])++mW O f (j+1) xs
  |_+1=>mW O f (j+1) xs
def qd      (O : Orc) (im : List Nat) (o : Oper) (L : List (Nat × AT)) : List Nat := match o.op with
 | .move x=>match o.dst with
  |some d=>if im.contains d then jw L x else []
  |none=>[]
 | .buildSlice _ _ parts=>parts.toList.flatMap λp=>jw L p.2
 | .slice _ x _ _ _=>match o.dst with
  |some d=>if im.contains d then []else jw L x
  |none=>jw L x
 | .convert _ _ x=>jw L x
 | .mapUpdate _ _ _ x=>jw L x
 | .store _ x y=>match ev L x with
  |some (.one (.e _ _ _ _ _ _))=>jw L y
  |_=>[]
 | .call ⟨.value x, args, _⟩ => match ev L x, evs L args.toList with
  | some (.one (.f f caps)), some xs => match O.mode f with
   |0=>[]
   | 1 => (xs ++ caps.map AT.one).flatMap fun x => match cells x with
    |some cs=>cs.flatMap C.rows
    |none=>[]
   |_+2=>mW O f 0 (xs++caps.map AT.one)
  |_,_=>[]
 |_=>[]
def prep (O:Orc) (im:List Nat) (o:Oper) (st:St):St:=bF (qd O im o st.L) st
def n8    (tb : Nat → Option TI) (O : Orc) (o : Oper) (L : List (Nat × AT)) : Bool := match o.dst with
 |none=>false
 | some _ => match o.op with
  | .call ⟨.value x, args, tys⟩ => match ev L x, evs L args.toList with
   | some (.one (.f f caps)), some xs => match O.mode f with
    |0=>true
    |1=>(uz (bV tb tys.toList xs++caps.map .one)).isEmpty
    |_=>false
   |_,_=>false
  |op=>Nat.beq (kind op) 0
def cj    (tb : Nat → Option TI) (O : Orc) (o : Oper) (L : List (Nat × AT)) (H : List Ob) : List Nat := match o.op with
 | .store _ x _=>match ev L x with
  |some (.one (.p id _))=>[id]
  |some (.one (.e id _ _ _ _ _))=>[id]
  |_=>[]
 | .mapUpdate _ m _ _=>match ev L m with
  |some (.one (.m id))=>[id]
  |_=>[]
 | .call ⟨.builtin .append, args, _⟩ => match args.toList with
  | x :: _ => match ev L x with
   |some (.one (.o id))=>[id]
   |_=>[]
  |[]=>[]
 | .call ⟨.value x, args, tys⟩ => match ev L x, evs L args.toList with
  | some (.one (.f f caps)), some xs => match O.mode f with
   |0=>[]
   |1=>uz (bV tb tys.toList xs++caps.map .one)
   | _ + 2 => match gZ O f 0 (bV tb tys.toList xs ++ caps.map .one) H with
    |some (ys,H1)=>jS H1 1000 (AT.ids.idsA ys) []
    |none=>[]
  |_,_=>[]
 |_=>[]
def zO {α:Type} (xs:List α) (i:Int):Option (List α):=bif decide (0<i)&&decide (i<=(xs.length:Int))then some (xs.drop i.toNat)else none
def oP {α:Type} (xs:List α) (i:Int):Option (List α):=bif decide (0<=i)&&decide (i<=(xs.length:Int))then some (xs.take i.toNat)else none
def iq     (tb : Nat → Option TI) (im : List Nat) (o : Oper) (L : List (Nat × AT)) (H : List Ob) : Option (Nat × Pl (AT × List Ob)) := match o.op, o.dst with
 | .slice t x (some y) none none, some d => if im.contains d then (match ev L x with
  | some (.one (.o id)) => some (id, match (tb t).bind (·.elem), H[id]?, ev L y with
   | some T, some (.row _ _ xs), some (.one (.i i)) => match hQ (T := T) xs with
    |some xs=>Pl.opt (zO xs i) λys=>some (.one (.o H.length),(H.set id .gone)++[.row T 0 ys])
    |none=>.no
   |_,_,_=>.no)
  |_=>none)else none
 | .slice t x none (some y) none, some d => if im.contains d then (match ev L x with
  | some (.one (.o id)) => some (id, match (tb t).bind (·.elem), H[id]?, ev L y with
   | some T, some (.row _ _ xs), some (.one (.i i)) => match hQ (T := T) xs with
    |some xs=>Pl.opt (oP xs i) λys=>some (.one (.o H.length),(H.set id .gone)++[.row T 0 ys])
    |none=>.no
   |_,_,_=>.no)
  |_=>none)else none
 |_,_=>none
def iG (tb:Nat->Option TI) (O:Orc) (im:List Nat) (o:Oper) (L:List (Nat×AT)) (H:List Ob):List Nat:=match iq tb im o L H with
 |some q=>[q.1]
 |none=>cj tb O o L H
def yz :C->C
 | .nil T=>.l T []
 |c=>c
def CP :AT->AT
 | .one c=>.one (yz c)
 | .agg cs=>.agg (cs.map yz)
 | .tup xs=>.tup xs
def Ch :Go.Op->Bool
 | .build _ _=>true
 |_=>false
def B4 (tb:Nat->Option TI) (O:Orc) (nt:Nat) (im:List Nat) (o:Oper) (L:List (Nat×AT)) (H:List Ob) (K:AT->List Ob->Option R):Option R:=match o.dst with
 | some d => if im.contains d && Nat.beq (kind o.op) 1 then zG tb nt o L (fun v => K v H) else if im.contains d && Ch o.op then one tb O nt o L H (fun v H' => K (CP v) H') else match iq tb im o L H with
  |some q=>if Nat.blt d nt then q.2.run (λq=>K q.1 q.2)else none
  |none=>one tb O nt o L H K
 |none=>one tb O nt o L H K
def Ez (_:Nat->Option TI) (_:List Nat) (_:Oper) (_:List (Nat×AT)) (_:List Ob):Option (Pl (AT×List Ob)):=none
def okX (H:List Ob) (ids:List Nat) (H':List Ob):Bool:=ids.all (λid=>(match H'[id]? with
 |some o=> !o.isRows
 |none=>true))&&(H'.drop H.length).all (λo=> !o.isRows)
def w5 (tb:Nat->Option TI) (O:Orc) (nt:Nat) (im:List Nat) (o:Oper) (L:List (Nat×AT)) (H:List Ob) (K:AT->List Ob->Option R):Option R:=match Ez tb im o L H with
 | some p => match o.dst with
  |some d=>if Nat.blt d nt then p.run (λq=>K q.1 q.2)else none
  |none=>p.run λq=>K q.1 q.2
 |none=>B4 tb O nt im o L H λv H'=>if okX H (iG tb O im o L H) H' then K v H' else none
def DE (O:Orc) (f:Nat) (xs:List AT) (H:List Ob) (K:AT->List Ob->Option R):Option R:=match gZ O f 0 xs H with
 | some (ys, H1) => let keep := jS     H1 1000 (AT.ids.idsA ys) []
  match dX keep,jo keep H1,AT.mv.mvA (pos keep) ys with
  | true, some Hc, some zs => O.call R f zs Hc fun v Hc' => match Nat.ble keep.length Hc'.length, obs (back keep H1.length) Hc', v.mv (back keep H1.length) with
   |true,some Hb,some u=>K u (bm H1 keep Hb++Hb.drop keep.length)
   |_,_,_=>none
  |_,_,_=>none
 |none=>none
def Ee (tb:Nat->Option TI) (O:Orc) (nt:Nat) (im:List Nat) (o:Oper) (L:List (Nat×AT)) (H:List Ob) (K:AT->List Ob->Option R):Option R:=match o.op,o.dst with
 | .call ⟨.value x,args,tys⟩,some d=>match ev L x,evs L args.toList with
  |some (.one (.f f caps)),some xs=>bif Nat.beq (O.mode f) 3 then (if Nat.blt d nt then DE O f (bV tb tys.toList xs++caps.map .one) H λv H'=>if okX H (cj tb O o L H) H' then K v H' else none else none)else w5 tb O nt im o L H K
  |_,_=>w5 tb O nt im o L H K
 |_,_=>w5 tb O nt im o L H K
def pB {α:Type} (xs ys:List α) (i:Int):Option (List α):=bif decide (0<=i)&&decide (i<=(xs.length:Int))then lim (ys++xs.drop i.toNat)else none
def yZ    (tb : Nat → Option TI) (nt : Nat) (im : List Nat) (o : Oper) (rest : List Oper) (L : List (Nat × AT)) (H : List Ob) : Option (Pl (List (Nat × AT) × List Ob)) := match o.op with
 | .slice t x (some y) none none => match o.dst, o.guard, rest with
  | some d1, none, o2 :: _ => if im.contains d1 then (match o2.op, o2.dst, o2.guard with
   | .call ⟨.builtin .append, args, tys⟩, some d2, none => match args.toList, tys.toList with
    | [.tmp z, .tmp d], [t1, t2] => if Nat.beq d d1 && !Nat.beq z d1 && Nat.blt d1 nt && Nat.blt d2 nt then (match ev L x, ev L y, L.lookup z with
     | some (.one (.o id)), some (.one (.i i)), some (.one (.o id2)) => some (match tb t, tb t1, tb t2, H[id]?, H[id2]?, Nat.beq id id2 with
      | some ti, some ti1, some ti2, some (.row _ _ xs), some (.row _ _ ys), false => match ti.elem, ti1.elem, ti2.elem with
       | some T, some T1, some _ => match hQ    (T := T) xs, hQ    (T := T1) ys with
        | some xs, some ys => match hQ (T := T1) xs with
         |some xs=>Pl.opt (pB xs ys i) λzs=>some ((d2,.one (.o H.length))::(d1,.one (.o id2))::L,(H.set id2 .gone)++[.row T1 0 zs])
         |none=>.no
        |_,_=>.no
       |_,_,_=>.no
      |_,_,_,_,_,_=>.no)
     |_,_,_=>none)else none
    |_,_=>none
   |_,_,_=>none)else none
  |_,_,_=>none
 |_=>none
def wV (tb:Nat->Option TI) (O:Orc) (nt:Nat) (im:List Nat) (ops:List Oper):List Oper->St->(St->Option R)->Option R
 |[],st,K=>K st
 | o :: rest, st, K => let st1 := prep O im o st
  match yZ tb nt im o rest st1.L st1.H with
  | some p => match rest with
   |_::rest2=>p.run λq=>wV tb O nt im ops rest2 ⟨q.1,q.2⟩ K
   |[]=>none
  |none=>kT nt ops o st1.L st1.L (λL=>Ee tb O nt im o L st1.H λv H'=>wV tb O nt im ops rest ⟨gX o.dst v L,H'⟩ K) (λL=>wV tb O nt im ops rest ⟨gX o.dst (.tup []) L,st1.H⟩ K)
def db (vis:List Nat) (H:List Ob):List Ob:=H.mapIdx λi o=>if vis.contains i then o else .gone
def uG (Hm:List Ob) (id:Nat):Bool:=match Hm[id]? with
 |none=>true
 |some .gone=>true
 |_=>false
def qP (ids:List Nat) (H:List Ob):List Ob:=H.mapIdx λi o=>if ids.contains i then .gone else o
def cG    (tb : Nat → Option TI) (O : Orc) (nt : Nat) (im : List Nat) (ops : Array Oper) (Hm : List Ob) (π ch rd : List Nat) : List Nat → List Nat → List (Nat × AT) → List Ob → List Ob → (List (Nat × AT) → List Ob → Option R) → Option R
 |_,[],L,_,H,K=>K L H
 | done, i :: rest, L, Hd, H, K => match ops[i]? with
  |none=>none
  | some o => let L1 := Draw.sel L (o.looksAt ops)
   let next:=λL v Hd H'=>cG tb O nt im ops Hm π ch rd (i::done) rest (gX o.dst v L) Hd H' K
   if ch.contains i then kT nt ops.toList o L1 L (λL=>if (iG tb O im o L1 H).all (uG Hm)then B4 tb O nt im o L1 H (λv H'=>if okX H (iG tb O im o L1 H) H' then next L v (qP (iG tb O im o L1 H) Hd) H' else none)else none) (λL=>next L (.tup []) Hd H)
   else
    (if rd.contains i then
     kT nt ops.toList o L1 L (λL=>if Nat.beq (kind o.op) 1 then zG tb nt o L1 λv=>next L v Hd H
      else if n8 tb O o L1 then one tb O nt o L1 (if Nat.ble (Abs.cnt ch done) (Abs.cnt ch (π.filter λj=>Abs.bM ops j i))then H else Hd) λv _=>next L v Hd H else none) (λL=>next L (.tup []) Hd H)
    else kT nt ops.toList o L1 L (λL=>if Nat.beq (kind o.op) 1 then zG tb nt o L1 λv=>next L v Hd H
      else if n8 tb O o L1 then one tb O nt o L1 Hm λv _=>next L v Hd H else none) (λL=>next L (.tup []) Hd H))
def fb :List C->List Ob->List C×List Ob
 |[],H=>([],H)
 | c :: cs, H => match c with
  | .nil T=>let r:=fb cs (H++[.row T 0 []]);(.o H.length::r.1,r.2)
  |c=>let r:=fb cs H;(c::r.1,r.2)
def sE :AT->List Ob->AT×List Ob
 | .one c,H=>match c with
  | .nil T=>(.one (.o H.length),H++[.row T 0 []])
  |c=>(.one c,H)
 | .agg cs,H=>let r:=fb cs H;(.agg r.1,r.2)
 | .tup xs,H=>(.tup xs,H)
def pS :List (Nat×AT)->List Ob->List (Nat×AT)×List Ob
 |[],H=>([],H)
 |(t,v)::L,H=>let r:=sE v H;let q:=pS L r.2;((t,r.1)::q.1,q.2)
def ri :Nat->List Ob->List Ob
 |0,H=>H
 | n + 1, H => match H[n]? with
  |some (.box cs)=>let r:=fb cs H;ri n (r.2.set n (.box r.1))
  |_=>ri n H
def slots (L:List (Nat×AT)):List Nat->List (Nat×AT)
 |[]=>[]
 | t :: ts => match L.lookup t with
  |some v=>(t,v)::slots L ts
  |none=>slots L ts
def mvL (g:Nat->Option Nat):List (Nat×AT)->Option (List (Nat×AT))
 |[]=>some []
 | (t, v) :: L => match v.mv g, mvL g L with
  |some u,some L'=>some ((t,u)::L')
  |_,_=>none
def Ey (id:Nat) (q:List AT×List Ob):Option (List AT×List Ob):=match q.2[id]? with
 | some x => let g := fun j => if Nat.beq j id then some q.2.length else some j
  match obs g (q.2.set id .gone++[x]),AT.mv.mvA g q.1 with
  |some H',some xs'=>some (xs',H')
  |_,_=>none
 |none=>none
def uC :List Nat->List AT×List Ob->Option (List AT×List Ob)
 |[],q=>some q
 | id :: ids, q => match Ey id q with
  |some q'=>uC ids q'
  |none=>none
def ck (r:Nat) (lv:List Nat) (st:St) (K:St->Option R):Option R:=
 let q:=pS (slots st.L lv) (ri st.H.length st.H)
 let keep:=List.range r++(jS q.2 1000 (List.range r++q.1.flatMap λp=>p.2.ids) []).filter λi=>Nat.ble r i
 match dX keep&&eqL (keep.take r) (List.range r),jo keep q.2,mvL (pos keep) q.1 with
 |true,some H',some L'=>K ⟨L',H'⟩
 |_,_,_=>none
structure Dw where
 orders:List (List Nat×List Nat×List Nat)
 cs:List Nat
 fz:List Nat
 vis:List Nat
 lv:List Nat
structure Ann where
 nt:Nat
 refs:Nat
 loops:List (Nat×List Nat)
 cuts:List (Nat×List Nat)
 ret:List Nat
 plans:List (Nat×Dw)
 im:List Nat
structure Pcs where
 loop:(R:Type)->Nat->St->Kt R->Option R
 cut:(R:Type)->Nat->St->Kt R->Option R
 draw:(R:Type)->Nat->St->Kt R->Option R
def Pcs.at_ (pc:Pcs) (k:Nat) (R:Type) (id:Nat):St->Kt R->Option R:=match k with
 |0=>pc.cut R id
 |1=>pc.loop R id
 |_=>pc.draw R id
def dd :Code->Nat
 | .region id _ _=>id
 | .seq a _=>dd a
 | .block _ a=>dd a
 | .loop a=>dd a
 |_=>100000
def nk (next:St->Option R) (K:Kt R):Kt R
 | .normal,st=>next st
 |e,st=>K e st
def Bf (id:Nat) (K:Kt R):Kt R
 | .exit id',st=>if Nat.beq id' id then K .normal st else K (.exit id') st
 |e,st=>K e st
structure Outs where
 n:List Nat
 r:List Nat
 x:List (Nat×List Nat)
def Outs.of (o:Outs):Exit->List Nat
 | .normal=>o.n
 | .ret=>o.r
 | .exit id=>match o.x.lookup id with
  |some l=>l
  |none=>[]
 |_=>[]
def hU (r:Nat) (o:Outs) (K:Kt R):Kt R:=λe st=>ck r (o.of e) st (K e)
def qq (r:Nat) (lv:List Nat) (o:Outs) (next:St->Option R) (K:Kt R):Kt R:=nk (λst=>ck r lv st next) (hU r o K)
def D6 (H:List Ob):C->List Nat
 | .o id=>[id]
 | .p id _=>match H[id]? with
  |some (.box cs)=>cs.flatMap C.rows
  |_=>[]
 |_=>[]
def aG (L:List (Nat×AT)) (H:List Ob):List Nat->List Nat
 |[]=>[]
 | t :: ts => (match (L.lookup t).bind cells with
  |some cs=>cs.flatMap (D6 H)
  |none=>[])++aG L H ts
def sP (c:Operand) (b:Bool) (st:St):St:=match c with
 | .tmp t=>⟨(t,.one (.b b))::st.L,st.H⟩
 |_=>st
def den (tb : Nat → Option TI) (O : Orc) (pc : Pcs) (an : Ann) : Code → St → Kt R → Option R
 | .skip,st,K=>K .normal st
 | .ret,st,K=>K .ret st
 | .exit id,st,K=>K (.exit id) st
 | .seq a b,st,K=>den tb O pc an a st (nk (λst'=>match an.cuts.lookup (dd b)with
  |some lv=>ck an.refs lv st' λst2=>pc.cut R (dd b) st2 K
  |none=>den tb O pc an b st' K) K)
 | .block id a,st,K=>den tb O pc an a st (Bf id K)
 | .cond c a b, st, K => match ev st.L c with
  | some (.one (.b p)) => bif p then (match an.cuts.lookup (dd    a) with
    |some lv=>ck an.refs lv (sP c true st) λst2=>pc.cut R (dd a) st2 K
    |none=>den tb O pc an a (sP c true st) K)
   else (match an.cuts.lookup (dd b)with
    |some lv=>ck an.refs lv (sP c false st) λst2=>pc.cut R (dd b) st2 K
    |none=>den tb O pc an b (sP c false st) K)
  |_=>none
 | .loop a,st,K=>match an.loops.lookup (dd a)with
  |some lv=>ck an.refs lv st λst2=>pc.loop R (dd a) st2 K
  |none=>none
 | .region _ ops false,st,K=>wV tb O an.nt an.im ops.toList ops.toList st (K .normal)
 | .region id ops true, st, K => match an.plans.lookup id with
  | some d => match d.orders with
   |[]=>none
   | [(π, ch, rd)] => if Abs.lC     ops π ch rd then
     let st1:=bF (aG st.L st.H d.fz) st
     cG tb O an.nt an.im ops (db d.vis st1.H) π ch rd [] π st1.L st1.H st1.H λL H=>K .normal ⟨L,H⟩
    else none
   |_::_::_=>ck an.refs d.lv st λst2=>pc.draw R id st2 K
  |none=>none
 |_,_,_=>none
def aY (an:Ann):Code->List (Nat×Nat×Code)
 | .seq a b=>aY an a++(match an.cuts.lookup (dd b)with
  |some _=>[(0,dd b,b)]
  |none=>aY an b)
 | .block _ a=>aY an a
 | .cond _ a b=>(match an.cuts.lookup (dd a)with
  |some _=>[(0,dd a,a)]
  |none=>aY an a)++(match an.cuts.lookup (dd b)with
  |some _=>[(0,dd b,b)]
  |none=>aY an b)
 | .loop a=>[(1,dd a,.loop a)]
 | .region id ops true => match an.plans.lookup id with
  | some d => match d.orders with
   |_::_::_=>[(2,id,.region id ops true)]
   |_=>[]
  |none=>[]
 |_=>[]
def ak :List Nat->Code->Code
 |[],c=>c
 |0::l,.seq a _=>ak l a
 |1::l,.seq _ b=>ak l b
 |_::l,.block _ a=>ak l a
 |_::l,.loop a=>ak l a
 |0::l,.cond _ a _=>ak l a
 |_::l,.cond _ _ b=>ak l b
 |_,_=>.skip
def aj (f:Func):Code:=f.body.getD .skip
def fq :Code->Array Oper
 | .region _ ops _=>ops
 |_=> #[]
structure Ent where
 f:Nat
 mode:Nat
 arg:List Nat
 call:(R:Type)->List AT->List Ob->(AT->List Ob->Option R)->Option R
def pg :List Ent->Nat->Option Ent
 |[],_=>none
 |e::l,f=>bif Nat.beq e.f f then some e else pg l f
def ca (l:List Ent):Orc where
 mode:=λf=>match pg l f with
  |some e=>e.mode
  |none=>1
 arg:=λf j=>match pg l f with
  |some e=>e.arg.getD j 0
  |none=>0
 call:=λR f xs H K=>match pg l f with
  |some e=>e.call R xs H K
  |none=>none
abbrev wr (x:Int):Int:=IntKind.i64.wrap x
def aB {V R:Type} (body:V->(V->Option R)->Option R):Nat->V->Option R
 |0,_=>none
 |n+1,v=>body v (aB body n)
theorem kQ {V R:Type} {body:V->(V->Option R)->Option R} (Q:V->Prop) (μ:V->Nat) (f:V->Option R) (h:∀v nx,Q v->(∀v',Q v'->μ v'<μ v->nx v'=f v')->body v nx=f v):∀n v,Q v->μ v<n->aB body n v=f v
 |0,_,_,hn=>absurd hn (Nat.not_lt_zero _)
 |n+1,v,hv,hn=>h v _ hv λv' hv' hlt=>kQ Q μ f h n v' hv' (by omega)
open Abs (V AV Env ag)
section
variable [Zb]
inductive FR :C->V->Prop
 |i {x:Int}:FR (.i x) (.lit (.int .i64 x))
 |k {kd:IntKind} {x:Int}:FR (.k kd x) (.lit (.int kd x))
 |b {x:Bool}:FR (.b x) (.lit (.bool x))
 |s {x:ByteArray}:FR (.s x) (.lit (.string x))
 | l {T : Ty} {xs : List (I T)} {es : List (List V)} (hp : 0 < szT T) (hl : es.length = xs.length) (hs : ∀ e ∈ es, e.length = szT T)
   (hr:∀(m:Nat) (h1:m<xs.length) (h2:m<es.length) (j:Nat) (h3:j<(ah T xs[m]).length) (h4:j<es[m].length),FR (ah T xs[m])[j] es[m][j]):FR (.l T xs) (.imm (szT T) es)
def FRs (cs:List C) (vs:List V):Prop:=cs.length=vs.length/\∀(j:Nat) (h1:j<cs.length) (h2:j<vs.length),FR cs[j] vs[j]
abbrev Rho :=List (Option Nat)
inductive CR (ρ:Rho) (H:List Ob):C->V->Prop
 |fl {c:C} {v:V} (h:FR c v):CR ρ H c v
 |lc {T:Ty} {xs:List (I T)} {es:List (List V)} (h:FR (.l T xs) (.imm (szT T) es)):CR ρ H (.lc T xs) (.immc (szT T) es)
 |nil {T:Ty} (hp:0<szT T):CR ρ H (.nil T) (.lit (.slice none 0 0))
 |o {id a n:Nat} {T:Ty} {xs:List (I T)} (h1:ρ[id]? =some (some a)) (h2:H[id]? =some (.row T n xs)):CR ρ H (.o id) (.own a 0 xs.length)
 |oN {id n:Nat} {T:Ty} {xs:List (I T)} (h1:ρ[id]? =some none) (h2:H[id]? =some (.row T n xs)):CR ρ H (.o id) (.lit (.slice none 0 0))
 |oG {id:Nat} {v:V} (h:H[id]? =some .gone):CR ρ H (.o id) v
 |oR {id a:Nat} {T:Ty} {xss:List (List (I T))} {ho:Option Nat} (h1:ρ[id]? =some (some a)) (h2:H[id]? =some (.rows T xss ho)):CR ρ H (.o id) (.own a 0 xss.length)
 |r {id a k:Nat} (h1:ρ[id]? =some (some a)):CR ρ H (.r id k) (.ptr a k 0)
 |p {id a off:Nat} (h1:ρ[id]? =some (some a)):CR ρ H (.p id off) (.ptr a 0 off)
 |e {id a m n n' off:Nat} {T:Ty} {x:I T} {xs:List (I T)} (h1:ρ[id]? =some (some a)) (h2:H[id]? =some (.row T n' xs)) (h3:m<xs.length) (h4:n<=n') (h5:n=n'->xs[m]? =some x):CR ρ H (.e id m n T x off) (.ptr a m off)
 |eG {id m n off:Nat} {T:Ty} {x:I T} {v:V} (h:H[id]? =some .gone):CR ρ H (.e id m n T x off) v
 |q {T:Ty} {x:I T} {off:Nat} {vs:List V} (h:FRs (ah T x) vs):CR ρ H (.q T x off) (.iptr (szT T) (vs.drop off))
 |f {fn:Nat} {caps:List C} {vs:List V} (hl:caps.length=vs.length) (hr:∀(j:Nat) (h1:j<caps.length) (h2:j<vs.length),CR ρ H caps[j] vs[j]):CR ρ H (.f fn caps) (.clo (.func fn) vs)
 |m {id a:Nat} (h1:ρ[id]? =some (some a)):CR ρ H (.m id) (.mp a)
 |zs:CR ρ H .zs (.lit (.slice none 0 0))
 |zP:CR ρ H .z (.lit (.pointer none))
 |zM:CR ρ H .z (.lit (.map none))
 |zF:CR ρ H .z (.lit .nilFunc)
def CRs (ρ:Rho) (H:List Ob) (cs:List C) (vs:List V):Prop:=cs.length=vs.length/\∀(j:Nat) (h1:j<cs.length) (h2:j<vs.length),CR ρ H cs[j] vs[j]
inductive ATR (ρ:Rho) (H:List Ob):AT->AV->Prop
 |one {c:C} {v:V} (h:CR ρ H c v):ATR ρ H (.one c) (.one v)
 |agg {cs:List C} {vs:List V} (h:CRs ρ H cs vs):ATR ρ H (.agg cs) (.agg vs)
 |tup {xs:List AT} {ys:List AV} (hl:xs.length=ys.length) (h:∀(j:Nat) (h1:j<xs.length) (h2:j<ys.length),ATR ρ H xs[j] ys[j]):ATR ρ H (.tup xs) (.tup ys)
def EncL (ρ:Rho) (H:List Ob) (D:List (Nat×AT)) (L:Env):Prop:=∀t v,D.lookup t=some v->∃av,L.lookup t=some av/\ATR ρ H v av
def live (H:List Ob) (id:Nat):Prop:=∃x,H[id]? =some x/\x.dead=false
structure HpR (ρ:Rho) (H:List Ob) (h:ag):Prop where
 len:ρ.length=H.length
 row:∀(id n:Nat) (T:Ty) (xs:List (I T)),H[id]? =some (.row T n xs)->(∃a es,ρ[id]? =some (some a)/\h[a]? =some (some (.row (szT T) es))/\FR (.l T xs) (.imm (szT T) es))\/(ρ[id]? =some none/\xs=[]/\0<szT T)
 box:∀(id:Nat) (cs:List C),H[id]? =some (.box cs)->∃a vs,ρ[id]? =some (some a)/\h[a]? =some (some (.row vs.length [vs]))/\CRs ρ H cs vs
 map:∀(id:Nat) (T:Ty) (kvs:List (ByteArray×I T)),H[id]? =some (.map T kvs)->∃a ws,ρ[id]? =some (some a)/\h[a]? =some (some (.map ws))/\kvs.length=ws.length/\0<szT T/\∀(j:Nat) (h1:j<kvs.length) (h2:j<ws.length),kvs[j].1=ws[j].1/\FRs (ah T kvs[j].2) ws[j].2
 inj:∀(i j a:Nat),ρ[i]? =some (some a)->ρ[j]? =some (some a)->live H i->live H j->i=j
 lt:∀(i a:Nat),ρ[i]? =some (some a)->a<h.length
def evoR (x y:Ob):Prop:=∃T xss ho,x= .rows T xss ho/\∃T' xss' ho',y= .rows T' xss' ho'/\xss.length=xss'.length
def evo (x y:Ob):Prop:=y= .gone\/(∃T n xs n' xs',x= .row T n xs/\y= .row T n' xs'/\xs.length=xs'.length/\n<=n'/\(n=n'->xs=xs'))\/(∃cs ds,x= .box cs/\y= .box ds)\/(∃T kvs kvs',x= .map T kvs/\y= .map T kvs')\/evoR x y
omit [Zb]in
theorem evo.refl (x:Ob):evo x x:=by
 cases x with
 |row T n xs=>exact .inr (.inl ⟨T,n,xs,n,xs,rfl,rfl,rfl,Nat.le_refl _,λ_=>rfl⟩)
 |box cs=>exact .inr (.inr (.inl ⟨_,_,rfl,rfl⟩))
 |map T kvs=>exact .inr (.inr (.inr (.inl ⟨_,_,_,rfl,rfl⟩)))
 |gone=>exact .inl rfl
 |rows T xss ho=>exact .inr (.inr (.inr (.inr ⟨_,_,_,rfl,_,_,_,rfl,rfl⟩)))
omit [Zb]in
theorem evo.gone' {y:Ob} (h:evo .gone y):y= .gone:=by
 rcases h with h|⟨_,_,_,_,_,h,_⟩|⟨_,_,h,_⟩|⟨_,_,_,h,_⟩|⟨_,_,_,h,_⟩
 ·exact h
 all_goals cases h
omit [Zb]in
theorem evo.row' {T:Ty} {n:Nat} {xs:List (I T)} {y:Ob} (h:evo (.row T n xs) y):y= .gone\/∃n' xs',y= .row T n' xs'/\xs.length=xs'.length/\n<=n'/\(n=n'->xs=xs'):=by
 rcases h with h|⟨_,_,_,n',xs',h,h2,h3,h4,h5⟩|⟨_,_,h,_⟩|⟨_,_,_,h,_⟩|⟨_,_,_,h,_⟩
 ·exact .inl h
 ·cases h;exact .inr ⟨n',xs',h2,h3,h4,h5⟩
 all_goals cases h
omit [Zb]in
theorem evo.rows' {T:Ty} {xss:List (List (I T))} {ho:Option Nat} {y:Ob} (h:evo (.rows T xss ho) y):y= .gone\/∃T' xss' ho',y= .rows T' xss' ho'/\xss.length=xss'.length:=by
 rcases h with h|⟨_,_,_,_,_,h,_⟩|⟨_,_,h,_⟩|⟨_,_,_,h,_⟩|⟨_,_,_,h,h2⟩
 ·exact .inl h
 ·cases h
 ·cases h
 ·cases h
 ·cases h;exact .inr h2
omit [Zb]in
theorem evo.trans {x y z:Ob} (h:evo x y) (k:evo y z):evo x z:=by
 rcases h with rfl|⟨T,n,xs,n',xs',rfl,rfl,h1,h2,h3⟩|⟨cs,ds,rfl,rfl⟩|⟨T,p,q,rfl,rfl⟩|⟨T,xss,ho,rfl,T',xss',ho',rfl,h5⟩
 ·rw[k.gone'];exact .inl rfl
 ·rcases k.row' with rfl|⟨n2,xs2,rfl,k1,k2,k3⟩
  ·exact .inl rfl
  ·exact .inr (.inl ⟨T,n,xs,n2,xs2,rfl,rfl,by omega,by omega,λe=>by rw[h3 (by omega),k3 (by omega)]⟩)
 ·rcases k with k|⟨_,_,_,_,_,k,_⟩|⟨_,es,_,k⟩|⟨_,_,_,k,_⟩|⟨_,_,_,k,_⟩
  ·exact .inl k
  ·cases k
  ·exact .inr (.inr (.inl ⟨cs,es,rfl,k⟩))
  ·cases k
  ·cases k
 ·rcases k with k|⟨_,_,_,_,_,k,_⟩|⟨_,_,k,_⟩|⟨_,_,r,k,k2⟩|⟨_,_,_,k,_⟩
  ·exact .inl k
  ·cases k
  ·cases k
  ·cases k;exact .inr (.inr (.inr (.inl ⟨T,p,r,rfl,k2⟩)))
  ·cases k
 ·rcases k.rows' with rfl|⟨T2,xss2,ho2,rfl,k5⟩
  ·exact .inl rfl
  ·exact .inr (.inr (.inr (.inr ⟨T,xss,ho,rfl,T2,xss2,ho2,rfl,by omega⟩)))
structure Ev (ρ:Rho) (H:List Ob) (ρ':Rho) (H':List Ob):Prop where
 rho:∀(id:Nat) (x:Option Nat),ρ[id]? =some x->ρ'[id]? =some x
 ob:∀(id:Nat) (x:Ob),H[id]? =some x->∃y,H'[id]? =some y/\evo x y
omit [Zb]in
theorem Ev.refl (ρ:Rho) (H:List Ob):Ev ρ H ρ H:=⟨λ_ _ h=>h,λ_ x h=>⟨x,h,evo.refl x⟩⟩
omit [Zb]in
theorem CR.mono {ρ ρ':Rho} {H H':List Ob} (e:Ev ρ H ρ' H') {c:C} {v:V} (h:CR ρ H c v):CR ρ' H' c v:=by
 induction h with
 |fl h=>exact .fl h
 |lc h=>exact .lc h
 |nil h=>exact .nil h
 | o h1 h2 =>
  obtain⟨y,h3,h4⟩:=e.ob _ _ h2;rcases h4.row' with rfl|⟨n',xs',rfl,h5,_,_⟩
  ·exact .oG h3
  ·rw[h5];exact .o (e.rho _ _ h1) h3
 | oN h1 h2 =>
  obtain⟨y,h3,h4⟩:=e.ob _ _ h2;rcases h4.row' with rfl|⟨n',xs',rfl,h5,_,_⟩
  ·exact .oG h3
  ·exact .oN (e.rho _ _ h1) h3
 | oG h =>
  obtain⟨y,h3,h4⟩:=e.ob _ _ h;cases h4.gone';exact .oG h3
 | oR h1 h2 =>
  obtain⟨y,h3,h4⟩:=e.ob _ _ h2;rcases h4.rows' with rfl|⟨T',xss',ho',rfl,h5⟩
  ·exact .oG h3
  ·rw[h5];exact .oR (e.rho _ _ h1) h3
 |r h1=>exact .r (e.rho _ _ h1)
 |p h1=>exact .p (e.rho _ _ h1)
 | e h1 h2 h3 h4 h5 =>
  obtain⟨y,k3,k4⟩:=e.ob _ _ h2;rcases k4.row' with rfl|⟨n',xs',rfl,k5,k6,k7⟩
  ·exact .eG k3
  ·refine .e (e.rho _ _ h1) k3 (by omega) (by omega) (λhn=> ?_);rw[<-k7 (by omega)];exact h5 (by omega)
 | eG h =>
  obtain⟨y,h3,h4⟩:=e.ob _ _ h;cases h4.gone';exact .eG h3
 |q h=>exact .q h
 |f hl hr ih=>exact .f hl ih
 |m h1=>exact .m (e.rho _ _ h1)
 |zs=>exact .zs
 |zP=>exact .zP
 |zM=>exact .zM
 |zF=>exact .zF
omit [Zb]in
theorem CRs.mono {ρ ρ':Rho} {H H':List Ob} (e:Ev ρ H ρ' H') {cs:List C} {vs:List V} (h:CRs ρ H cs vs):CRs ρ' H' cs vs:=⟨h.1,λj h1 h2=>(h.2 j h1 h2).mono e⟩
omit [Zb]in
theorem ATR.mono {ρ ρ':Rho} {H H':List Ob} (e:Ev ρ H ρ' H') {v:AT} {av:AV} (h:ATR ρ H v av):ATR ρ' H' v av:=by
 induction h with
 |one h=>exact .one (h.mono e)
 |agg h=>exact .agg (h.mono e)
 |tup hl h ih=>exact .tup hl ih
omit [Zb]in
theorem EncL.mono {ρ ρ':Rho} {H H':List Ob} (e:Ev ρ H ρ' H') {D:List (Nat×AT)} {L:Env} (h:EncL ρ H D L):EncL ρ' H' D L:=λt v hv=>let⟨av,h1,h2⟩:=h t v hv;⟨av,h1,h2.mono e⟩
def evo0 (x y:Ob):Prop:=y= .gone\/(∃T n xs n' xs',x= .row T n xs/\y= .row T n' xs'/\xs.length=xs'.length)\/(∃cs ds,x= .box cs/\y= .box ds)\/(∃T kvs kvs',x= .map T kvs/\y= .map T kvs')\/evoR x y
omit [Zb]in
theorem evo.weak {x y:Ob} (h:evo x y):evo0 x y:=by
 rcases h with h|⟨T,n,xs,n',xs',h1,h2,h3,_⟩|h|h|h
 ·exact .inl h
 ·exact .inr (.inl ⟨T,n,xs,n',xs',h1,h2,h3⟩)
 ·exact .inr (.inr (.inl h))
 ·exact .inr (.inr (.inr (.inl h)))
 ·exact .inr (.inr (.inr (.inr h)))
omit [Zb]in
theorem evo0.row' {T:Ty} {n:Nat} {xs:List (I T)} {y:Ob} (h:evo0 (.row T n xs) y):y= .gone\/∃n' xs',y= .row T n' xs'/\xs.length=xs'.length:=by
 rcases h with h|⟨_,_,_,n',xs',h,h2,h3⟩|⟨_,_,h,_⟩|⟨_,_,_,h,_⟩|⟨_,_,_,h,_⟩
 ·exact .inl h
 ·cases h;exact .inr ⟨n',xs',h2,h3⟩
 all_goals cases h
omit [Zb]in
theorem evo0.rows' {T:Ty} {xss:List (List (I T))} {ho:Option Nat} {y:Ob} (h:evo0 (.rows T xss ho) y):y= .gone\/∃T' xss' ho',y= .rows T' xss' ho'/\xss.length=xss'.length:=by
 rcases h with h|⟨_,_,_,_,_,h,_⟩|⟨_,_,h,_⟩|⟨_,_,_,h,_⟩|⟨_,_,_,h,h2⟩
 ·exact .inl h
 ·cases h
 ·cases h
 ·cases h
 ·cases h;exact .inr h2
omit [Zb]in
theorem evo0.box' {cs:List C} {y:Ob} (h:evo0 (.box cs) y):y= .gone\/∃ds,y= .box ds:=by
 rcases h with h|⟨_,_,_,_,_,h,_⟩|⟨_,ds,h,h2⟩|⟨_,_,_,h,_⟩|⟨_,_,_,h,_⟩
 ·exact .inl h
 ·cases h
 ·exact .inr ⟨ds,h2⟩
 ·cases h
 ·cases h
omit [Zb]in
theorem evo0.map' {T:Ty} {kvs:List (ByteArray×I T)} {y:Ob} (h:evo0 (.map T kvs) y):y= .gone\/∃kvs':List (ByteArray×I T),y= .map T kvs':=by
 rcases h with h|⟨_,_,_,_,_,h,_⟩|⟨_,_,h,_⟩|⟨_,_,k2,h,h2⟩|⟨_,_,_,h,_⟩
 ·exact .inl h
 ·cases h
 ·cases h
 ·cases h;exact .inr ⟨k2,h2⟩
 ·cases h
omit [Zb]in
theorem evo0.trans {x y z:Ob} (h:evo0 x y) (k:evo0 y z):evo0 x z:=by
 cases x with
 | gone =>
  have:y= .gone:=by
   rcases h with h|⟨_,_,_,_,_,h,_⟩|⟨_,_,h,_⟩|⟨_,_,_,h,_⟩|⟨_,_,_,h,_⟩
   ·exact h
   all_goals cases h
  subst this;exact k
 | row T n xs =>
  rcases h.row' with rfl|⟨n',xs',rfl,h3⟩
  ·rcases k with k|⟨_,_,_,_,_,k,_⟩|⟨_,_,k,_⟩|⟨_,_,_,k,_⟩|⟨_,_,_,k,_⟩
   ·exact .inl k
   all_goals cases k
  ·rcases k.row' with rfl|⟨n2,xs2,rfl,k3⟩
   ·exact .inl rfl
   ·exact .inr (.inl ⟨_,_,_,_,_,rfl,rfl,by omega⟩)
 | box cs =>
  rcases h.box' with rfl|⟨ds,rfl⟩
  ·rcases k with k|⟨_,_,_,_,_,k,_⟩|⟨_,_,k,_⟩|⟨_,_,_,k,_⟩|⟨_,_,_,k,_⟩
   ·exact .inl k
   all_goals cases k
  ·rcases k.box' with rfl|⟨ds,rfl⟩
   ·exact .inl rfl
   ·exact .inr (.inr (.inl ⟨_,_,rfl,rfl⟩))
 | map T kvs =>
  rcases h.map' with rfl|⟨k2,rfl⟩
  ·rcases k with k|⟨_,_,_,_,_,k,_⟩|⟨_,_,k,_⟩|⟨_,_,_,k,_⟩|⟨_,_,_,k,_⟩
   ·exact .inl k
   all_goals cases k
  ·rcases k.map' with rfl|⟨k3,rfl⟩
   ·exact .inl rfl
   ·exact .inr (.inr (.inr (.inl ⟨_,_,_,rfl,rfl⟩)))
 | rows T xss ho =>
  rcases h.rows' with rfl|⟨T',xss',ho',rfl,h5⟩
  ·rcases k with k|⟨_,_,_,_,_,k,_⟩|⟨_,_,k,_⟩|⟨_,_,_,k,_⟩|⟨_,_,_,k,_⟩
   ·exact .inl k
   all_goals cases k
  ·rcases k.rows' with rfl|⟨T2,xss2,ho2,rfl,k5⟩
   ·exact .inl rfl
   ·exact .inr (.inr (.inr (.inr ⟨_,_,_,rfl,_,_,_,rfl,by omega⟩)))
omit [Zb]in
theorem evo.old {x y z:Ob} (h:evo0 x y) (k:evo y z):evo0 x z:=h.trans k.weak
omit [Zb]in
theorem evo0.refl (x:Ob):evo0 x x:=by
 cases x with
 |row T n xs=>exact .inr (.inl ⟨T,n,xs,n,xs,rfl,rfl,rfl⟩)
 |box cs=>exact .inr (.inr (.inl ⟨_,_,rfl,rfl⟩))
 |map T kvs=>exact .inr (.inr (.inr (.inl ⟨_,_,_,rfl,rfl⟩)))
 |gone=>exact .inl rfl
 |rows T xss ho=>exact .inr (.inr (.inr (.inr ⟨_,_,_,rfl,_,_,_,rfl,rfl⟩)))
omit [Zb]in
theorem evo.lv {x y:Ob} (h:evo x y) (hy:y.dead=false):x.dead=false:=by
 cases x with
 |gone=>rw[h.gone']at hy;cases hy
 | rows T xss ho =>
  rcases h.rows' with rfl|⟨_,_,_,rfl,_⟩<;>cases hy
 |_=>rfl
omit [Zb]in
theorem Ev.lv {ρ ρ':Rho} {H H':List Ob} (e:Ev ρ H ρ' H') {id:Nat} (hi:id<H.length) (h:live H' id):live H id:=by
 obtain⟨y,h1,h2⟩:=h;have h3:=gE hi;obtain⟨z,h4,h5⟩:=e.ob _ _ h3;rw[h1]at h4;cases h4;exact⟨_,h3,h5.lv h2⟩
omit [Zb]in
theorem live.lt {H:List Ob} {id:Nat} (h:live H id):id<H.length:=by
 obtain⟨x,h1,_⟩:=h;exact(gI.1 h1).1
structure In where
 h:ag
 ρ:Rho
 H:List Ob
structure Fr (F:In) (ρ:Rho) (H:List Ob) (h:ag):Prop where
 len:F.h.length<=h.length
 old:∀(id a:Nat),ρ[id]? =some (some a)->live H id->a<F.h.length->∃id0,F.ρ[id0]? =some (some a)/\live F.H id0
 same:∀(a:Nat),a<F.h.length->(∀(id:Nat),F.ρ[id]? =some (some a)->¬live F.H id)->h[a]? =F.h[a]?
 rho:∀(id:Nat) (x:Option Nat),F.ρ[id]? =some x->ρ[id]? =some x
 ob:∀(id:Nat) (x:Ob),F.H[id]? =some x->∃y,H[id]? =some y/\evo0 x y
def gS (ρ:Rho) (H:List Ob) (a:Nat):Prop:=∀(j:Nat),ρ[j]? =some (some a)->¬live H j
def Du (F:In) (a:Nat):Prop:=a<F.h.length->∃id0,F.ρ[id0]? =some (some a)/\live F.H id0
def SubR (h:ag) (T:Ty) (xs:List (I T)) (e:List V):Prop:=(e=[.lit (.slice none 0 0)]/\xs=[])\/∃b es,e=[.own b 0 xs.length]/\h[b]? =some (some (.row (szT T) es))/\FR (.l T xs) (.imm (szT T) es)
structure XAt (F:In) (ρ:Rho) (H:List Ob) (h:ag) (id:Nat) (T:Ty) (xss:List (List (I T))) (ho:Option Nat) (a:Nat) (es:List (List V)):Prop where
 rho:ρ[id]? =some (some a)
 main:h[a]? =some (some (.row 1 es))
 len:es.length=xss.length
 pos:0<szT T
 one:∀e∈es,e.length=1
 nl:gS ρ H a
 old:Du F a
 new:F.H[id]? =none
 sub:∀(k:Nat) (xs:List (I T)) (e:List V),ho≠some k->xss[k]? =some xs->es[k]? =some e->SubR h T xs e
 subs:∀(k b n:Nat),ho≠some k->es[k]? =some [.own b 0 n]->b≠a/\b<h.length/\gS ρ H b/\Du F b
 inj:∀(k k' b n n':Nat),ho≠some k->ho≠some k'->es[k]? =some [.own b 0 n]->es[k']? =some [.own b 0 n']->k=k'
def XR (F:In) (ρ:Rho) (H:List Ob) (h:ag):Prop:=∀(id:Nat) (T:Ty) (xss:List (List (I T))) (ho:Option Nat),H[id]? =some (.rows T xss ho)->
 (∀(id':Nat) (y:Ob),H[id']? =some y->y.isRows=true->id'=id)/\∃a es,XAt F ρ H h id T xss ho a es
structure SR0 (F:In) (ρ:Rho) (st:St) (L:Env) (h:ag):Prop where
 slots:EncL ρ st.H st.L L
 heap:HpR ρ st.H h
 fr:Fr F ρ st.H h
structure SR (F:In) (ρ:Rho) (st:St) (L:Env) (h:ag):Prop where
 slots:EncL ρ st.H st.L L
 heap:HpR ρ st.H h
 fr:Fr F ρ st.H h
 xr:XR F ρ st.H h
omit [Zb]in
theorem CRs.nil_ {ρ:Rho} {H:List Ob}:CRs ρ H [] []:=⟨rfl,λj h=>by simp at h⟩
omit [Zb]in
theorem CRs.cons {ρ:Rho} {H:List Ob} {c:C} {v:V} {cs:List C} {vs:List V} (h:CR ρ H c v) (hs:CRs ρ H cs vs):CRs ρ H (c::cs) (v::vs):=
 ⟨by simp [hs.1], fun j h1 h2 => by
  cases j with
  |zero=>exact h
  |succ j=>exact hs.2 j (by simpa using h1) (by simpa using h2)⟩
omit [Zb]in
theorem CRs.app {ρ:Rho} {H:List Ob} {a b:List C} {x y:List V} (h:CRs ρ H a x) (k:CRs ρ H b y):CRs ρ H (a++b) (x++y):=
 ⟨by simp [h.1, k.1], fun j h1 h2 => by
   by_cases hj:j<a.length
   · have hj':j<x.length:=by rw[<-h.1];exact hj
     rw[List.getElem_append_left hj,List.getElem_append_left hj'];exact h.2 j hj hj'
   · have hj':¬j<x.length:=by rw[<-h.1];exact hj
     rw[List.getElem_append_right (by omega),List.getElem_append_right (by omega)];have:=k.2 (j-a.length) (by simp at h1;omega) (by simp at h2;have:=h.1;omega);have e:=h.1;simp only[e]at this ⊢;exact this⟩
omit [Zb]in
theorem CRs.take {ρ:Rho} {H:List Ob} {a:List C} {x:List V} (h:CRs ρ H a x) (n:Nat):CRs ρ H (a.take n) (x.take n):=
 ⟨by simp [h.1], fun j h1 h2 => by
  simp only[List.getElem_take];exact h.2 j (by simp at h1;omega) (by simp at h2;omega)⟩
omit [Zb]in
theorem CRs.drop {ρ:Rho} {H:List Ob} {a:List C} {x:List V} (h:CRs ρ H a x) (n:Nat):CRs ρ H (a.drop n) (x.drop n):=
 ⟨by simp [h.1], fun j h1 h2 => by
  simp only[List.getElem_drop];exact h.2 (n+j) (by simp at h1;omega) (by simp at h2;omega)⟩
omit [Zb]in
theorem FRs.cr {ρ:Rho} {H:List Ob} {cs:List C} {vs:List V} (h:FRs cs vs):CRs ρ H cs vs:=⟨h.1,λj h1 h2=>.fl (h.2 j h1 h2)⟩
omit [Zb]in
theorem FR.elem {T:Ty} {xs:List (I T)} {es:List (List V)} (h:FR (.l T xs) (.imm (szT T) es)) {m:Nat} {x:I T} (hx:xs[m]? =some x):∃e,es[m]? =some e/\FRs (ah T x) e:=by
 cases h with
 | l hp hl hs hr =>
  obtain⟨h1,rfl⟩:=gI.1 hx;have h2:m<es.length:=by omega
  refine⟨es[m],gE h2,?_,λj h3 h4=>hr m h1 h2 j h3 h4⟩;rw[bz T hp,hs _ (gM h2)]
omit [Zb]in
theorem FR.nil_ {T:Ty} (hp:0<szT T):FR (.l T []) (.imm (szT T) []):=.l hp rfl (λe he=>by simp at he) (λm h1=>by simp at h1)
omit [Zb]in
theorem FR.flat {c:C} {v:V} (h:FR c v):v.flat=true:=by cases h<;>rfl
omit [Zb]in
theorem FR.flats {T:Ty} {xs:List (I T)} {es:List (List V)} (h:FR (.l T xs) (.imm (szT T) es)):es.all (·.all V.flat)=true:=by
 cases h with
 | l hp hl hs hr =>
  rw[aT];intro e he;rw[aT];intro v hv;obtain⟨m,hm,rfl⟩:=List.getElem_of_mem he;obtain⟨j,hj,rfl⟩:=List.getElem_of_mem hv;have:=hs _ (gM hm);exact(hr m (by omega) hm j (by rw[bz T hp];omega) hj).flat
omit [Zb]in
theorem po {ρ:Rho} {H:List Ob} {u:Value} {c:C} (h1:nW u=some c):Abs.bJ u=true/\CR ρ H c (.lit u):=by
 unfold nW at h1;cases hb:Abs.bJ u with
 |false=>rw[hb]at h1;simp at h1
 | true =>
  rw[hb]at h1;simp only[cT]at h1;refine⟨rfl,?_⟩;split at h1<;>first|(cases h1;done)|cases h1
  ·exact .fl .b
  ·exact .fl .i
  ·exact .fl .k
  ·exact .fl .s
  ·exact .zs
  ·exact .zP
  ·exact .zM
  ·exact .zF
omit [Zb]in
theorem mP {ρ:Rho} {H:List Ob}:∀{us:List Value} {cs:List C},mn us=some cs->us.all Abs.bJ=true/\CRs ρ H cs (us.map V.lit)
 |[],_,h=>by cases h;exact⟨rfl,rfl,λj h=>by simp at h⟩
 | u :: us, cs, h => by
  unfold mn at h;split at h
  ·rename_i c cs' h1 h2;cases h;obtain⟨k1,k2⟩:=po        (ρ:=ρ) (H:=H) h1;obtain⟨k3,k4,k5⟩:=mP         (ρ:=ρ) (H:=H) h2;refine⟨by simp[k1,k3],by simp[k4],λj g1 g2=> ?_⟩;cases j with
   |zero=>exact k2
   |succ j=>exact k5 j (by simpa using g1) (by simpa using g2)
  ·cases h
omit [Zb]in
theorem ap {ρ:Rho} {H:List Ob} {D:List (Nat×AT)} {L:Env} (hs:EncL ρ H D L) {x:Operand} {v:AT} (h:ev D x=some v):∃av,Abs.ev L x=some av/\ATR ρ H v av:=by
 cases x with
 |tmp t=>exact hs t v h
 | const u =>
  by_cases hag:∃cs,u= .agg cs
  ·obtain⟨cs,rfl⟩:=hag;simp only[ev,zm,Option.map_eq_some_iff]at h;obtain⟨ds,h1,rfl⟩:=h;obtain⟨k1,k2⟩:=mP (ρ:=ρ) (H:=H) h1;exact⟨.agg (cs.toList.map V.lit),by simp only[Abs.ev,Abs.kj];rw[if_pos k1],.agg k2⟩
  ·have h:(nW     u).map .one=some v:=by
    cases u<;>first|exact absurd ⟨_,rfl⟩ hag|exact h
   simp only[Option.map_eq_some_iff]at h;obtain⟨c,h1,rfl⟩:=h;obtain⟨hb,k⟩:=po (ρ:=ρ) (H:=H) h1;refine⟨.one (.lit u),?_,.one k⟩;cases u<;>first|exact absurd ⟨_,rfl⟩ hag|(simp only[Abs.ev,Abs.kj];rw[if_pos hb])
 | func f =>
  simp only[ev,Option.some.injEq]at h;subst h;exact⟨_,rfl,.one (.f rfl (λj h=>by simp at h))⟩
 |global g=>simp[ev]at h
end
open Abs (V AV Env ag ar)
section
variable [Zb]
def tf :Value->C->Bool
 | .int .i64 0,.i 0=>true
 | .int k 0,.k k' 0=>k==k'
 | .bool false,.b false=>true
 | .string s,.s s'=>s.size==0&&s'.size==0
 | .slice none 0 0,.nil T=>Nat.blt 0 (szT T)
 | .pointer none,.z=>true
 | .map none,.z=>true
 | .nilFunc,.z=>true
 |_,_=>false
def j6 :List Value->List C->Bool
 |[],[]=>true
 |v::vs,c::cs=>tf v c&&j6 vs cs
 |_,_=>false
def ng :Value->C->Bool
 | .int .i64 0,.i 0=>true
 | .int .u8 0,.k .u8 0=>true
 | .bool false,.b false=>true
 | .string s,.s s'=>s.size==0&&s'.size==0
 | .slice none 0 0,.l T []=>Nat.blt 0 (szT T)
 |_,_=>false
def di :List Value->List C->Bool
 |[],[]=>true
 |v::vs,c::cs=>ng v c&&di vs cs
 |_,_=>false
def EP (i:Abs.TyI) (ti:TI):Bool:=
 i.size==ti.size&&i.agg==ti.agg&&j6 i.zero ti.zero&&decide (i.fields=ti.fields)&&i.fields.all (λf=>Nat.blt 0 f.2.2)&&Nat.blt 0 i.zero.length&&Nat.blt 0 i.size&&
 (!ti.str||(match i.desc with| .string=>true|_=>false))&&(!ti.i64||(match i.desc with| .int .i64=>true|_=>false))&&(!ti.bool||(match i.desc with| .bool=>true|_=>false))&&
 (match ti.kd with
 |none=>true
 |some k=>match i.desc with| .int k'=>decide (k'=k)|_=>false)&&
 (match ti.elem with
 |none=>true
 | some T => match i.elem, fO T with
  |some el,some z=>el.size==szT T&&Nat.blt 0 (szT T)&&el.zero.length==el.size&&di el.zero (ah T z)&&Nat.ble el.bytes 4096&&Nat.ble el.size 4096
  |_,_=>false)
noncomputable def vw (P:Program) (t:Nat) (ti:TI):Bool:=(match ti.map with
 |none=>true
 | some T => match Abs.ss P t, fO T with
  |some m,some z=>Nat.blt 0 (szT T)&&di m.zero (ah T z)
  |_,_=>false)&&
 (match ti.elem with
 | some .u => match P.underlying t with
  | some (.slice e) => match P.underlying e with
   |some (.int .u8)=>true
   |_=>false
  |_=>false
 |_=>true)
def TBOK (P:Program) (tb:Nat->Option TI):Prop:=∀t ti,tb t=some ti->∃i,Abs.qi P t=some i/\EP i ti=true/\vw P t ti=true
def bp (P:Program) (o:Oper) (E:Abs.Cx) (ρ:Rho) (H:List Ob) (L:Env) (h:ag) (v:AT):Prop:=∃av,ATR ρ H v av/\ar P o E (λL2 h2=>L2=Abs.bindD o.dst av L/\h2=h) L h
structure TyF (P:Program) (t:Nat) (ti:TI) (i:Abs.TyI):Prop where
 tb:Abs.bE P [(t,i)]
 look:List.lookup t [(t,i)]=some i
 size:i.size=ti.size
 agg:i.agg=ti.agg
 zero:j6 i.zero ti.zero=true
 ty:Abs.qi P t=some i
 field:∀(f fo ft sz:Nat),ti.fields[f]? =some (fo,ft,sz)->i.fields[f]? =some (fo,ft,sz)/\0<sz
 fields:i.fields=ti.fields
 fpos:i.fields.all (λf=>decide (0<f.2.2))=true
 zne:i.zero≠[]
 str:ti.str=true->i.desc= .string
 i64:ti.i64=true->i.desc= .int .i64
 bool:ti.bool=true->i.desc= .bool
 kd:∀k,ti.kd=some k->i.desc= .int k
 map:∀T,ti.map=some T->∃m z,Abs.ss P t=some m/\fO T=some z/\0<szT T/\di m.zero (ah T z)=true
 u8:ti.elem=some .u->∃e,P.underlying t=some (.slice e)/\P.underlying e=some (.int .u8)
 elem:∀T,ti.elem=some T->∃el z,i.elem=some el/\Abs.dN [(t,i)] t=some el/\fO T=some z/\el.size=szT T/\0<szT T/\el.zero.length=el.size/\di el.zero (ah T z)=true/\Nat.ble el.bytes 4096=true/\Nat.ble el.size 4096=true
omit [Zb]in
theorem TBOK.get {P:Program} {tb:Nat->Option TI} (htb:TBOK P tb) {t:Nat} {ti:TI} (ht:tb t=some ti):∃i,TyF P t ti i:=by
 obtain⟨i,h1,h2,hmp⟩:=htb t ti ht;simp only[EP,bA,beq_iff_eq,decide_eq_true_eq,aT,Bool.or_eq_true,Bool.not_eq_true']at h2;obtain⟨⟨⟨⟨⟨⟨⟨⟨⟨⟨⟨h3,h4⟩,h5⟩,h6⟩,h7⟩,h8⟩,_⟩,h9⟩,h10⟩,h12⟩,hkd⟩,h11⟩:=h2;have hl:List.lookup t [(t,i)]=some i:=by simp
 refine⟨i,Abs.gg h1 (Abs.mJ P),hl,h3,h4,h5,h1,λf fo ft sz hf=> ?_,h6,?_,?_,λhs=> ?_,λhs=> ?_,λhs=> ?_,λk hk=> ?_,λT hT=> ?_,λhu=> ?_,λT hT=> ?_⟩
 ·rw[<-h6]at hf;have:=h7 _ (mG hf);exact⟨hf,by simpa [Nat.blt_eq]using this⟩
 ·rw[aT];intro f hf;have:=h7 f hf;simpa [Nat.blt_eq]using this
 ·intro e;rw[e]at h8;simp at h8
 ·rcases h9 with h9|h9
  ·rw[hs]at h9;cases h9
  ·split at h9
   ·assumption
   ·cases h9
 ·rcases h10 with h10|h10
  ·rw[hs]at h10;cases h10
  ·split at h10
   ·assumption
   ·cases h10
 ·rcases h12 with h12|h12
  ·rw[hs]at h12;cases h12
  ·split at h12
   ·assumption
   ·cases h12
 ·rw[hk]at hkd;simp only at hkd;split at hkd
  ·rename_i k' hk';rw[hk'];rw[of_decide_eq_true hkd]
  ·cases hkd
 ·unfold vw    at hmp;rw[bA]at hmp
  replace hmp:=hmp.1
  rw[hT]at hmp;simp only at hmp;split at hmp
  ·rename_i m z hm hz;simp only[bA]at hmp;exact⟨m,z,hm,hz,by simpa [Nat.blt_eq]using hmp.1,hmp.2⟩
  ·cases hmp
 ·unfold vw    at hmp;rw[bA]at hmp
  replace hmp:=hmp.2
  rw[hu]at hmp;simp only at hmp;split at hmp
  ·rename_i e he;split at hmp
   ·rename_i hx;exact⟨e,he,hx⟩
   ·cases hmp
  ·cases hmp
 ·rw[hT]at h11;simp only at h11;split at h11
  ·rename_i el z he hz;simp only[bA,beq_iff_eq]at h11;obtain⟨⟨⟨⟨⟨g1,g2⟩,g3⟩,g4⟩,g5⟩,g6⟩:=h11;exact⟨el,z,he,by unfold Abs.dN;rw[hl];exact he,hz,g1,by simpa [Nat.blt_eq]using g2,g3,g4,g5,g6⟩
  ·cases h11
omit [Zb]in
theorem sI {ρ:Rho} {H:List Ob} {agg:Bool} {size:Nat} {cs:List C} {vs:List V} {v:AT} (h:ld agg size cs=some v) (hc:CRs ρ H cs vs):∃av,Abs.pQ agg size vs=some av/\ATR ρ H v av:=by
 unfold ld at h;unfold Abs.pQ;cases agg with
 | true =>
  simp only[if_true]at h ⊢;split at h
  ·rename_i hb;have hb:size<=cs.length:=Nat.le_of_ble_eq_true hb;cases h;rw[if_pos (by rw[<-hc.1];exact hb)];exact⟨_,rfl,.agg (hc.take size)⟩
  ·cases h
 | false =>
  simp only[Bool.false_eq_true,if_false]at h ⊢;cases cs with
  |nil=>simp at h
  | cons c cs =>
   cases vs with
   |nil=>have:=hc.1;simp at this
   | cons x vs =>
    simp only[List.head?_cons,Option.map_some,Option.some.injEq]at h;subst h;exact⟨_,rfl,.one (hc.2 0 (by simp) (by simp))⟩
section
variable {P : Program} {E : Abs.Cx} {ρ : Rho} {H : List Ob} {D : List (Nat × AT)} {L : Env} {h : ag} {d : Nat} {ty : TypeId} {pos : String} {af : Array Edge} {gd : Option (Nat × Bool)} {R : Type} {K : AT → Option R} {r : R} {tb : Nat → Option TI} {O : Orc}
omit [Zb]in
theorem ATR.one' {c:C} {av:AV} (h:ATR ρ H (.one c) av):∃v,av= .one v/\CR ρ H c v:=by cases h with|one h=>exact⟨_,rfl,h⟩
omit [Zb]in
theorem ATR.agg' {cs:List C} {av:AV} (h:ATR ρ H (.agg cs) av):∃vs,av= .agg vs/\CRs ρ H cs vs:=by cases h with|agg h=>exact⟨_,rfl,h⟩
omit [Zb]in
theorem CR.int {x:Int} {v:V} (h:CR ρ H (.i x) v):v= .lit (.int .i64 x):=by cases h with|fl h=>cases h;rfl
omit [Zb]in
theorem CR.kint {k:IntKind} {x:Int} {v:V} (h:CR ρ H (.k k x) v):v= .lit (.int k x):=by cases h with|fl h=>cases h;rfl
omit [Zb]in
theorem CR.bool {x:Bool} {v:V} (h:CR ρ H (.b x) v):v= .lit (.bool x):=by cases h with|fl h=>cases h;rfl
omit [Zb]in
theorem CR.str {x:ByteArray} {v:V} (h:CR ρ H (.s x) v):v= .lit (.string x):=by cases h with|fl h=>cases h;rfl
omit [Zb]in
theorem CR.list {T:Ty} {xs:List (I T)} {v:V} (h:CR ρ H (.l T xs) v):∃es,v= .imm (szT T) es/\FR (.l T xs) (.imm (szT T) es):=by
 cases h with|fl h=>cases h with|l a b c d=>exact⟨_,rfl,.l a b c d⟩
omit [Zb]in
theorem CR.ptr {id off:Nat} {v:V} (h:CR ρ H (.p id off) v):∃a,v= .ptr a 0 off/\ρ[id]? =some (some a):=by
 cases h with
 |p h1=>exact⟨_,rfl,h1⟩
 |fl h=>cases h
omit [Zb]in
theorem CR.qptr {T:Ty} {x:I T} {off:Nat} {v:V} (h:CR ρ H (.q T x off) v):∃vs,v= .iptr (szT T) (vs.drop off)/\FRs (ah T x) vs:=by
 cases h with
 |q h1=>exact⟨_,rfl,h1⟩
 |fl h=>cases h
omit [Zb]in
theorem CR.eptr {id m n n' off:Nat} {T T':Ty} {x:I T} {ys:List (I T')} {v:V} (h:CR ρ H (.e id m n T x off) v) (hr:H[id]? =some (.row T' n' ys)):∃a xs,v= .ptr a m off/\ρ[id]? =some (some a)/\H[id]? =some (.row T n' xs)/\m<xs.length/\n<=n'/\(n=n'->xs[m]? =some x):=by
 cases h with
 |e h1 h2 h3 h4 h5=>rw[h2]at hr;cases hr;exact⟨_,_,rfl,h1,h2,h3,h4,h5⟩
 |eG h=>rw[h]at hr;cases hr
 |fl h=>cases h
omit [Zb]in
theorem CR.own {id n:Nat} {T:Ty} {xs:List (I T)} {v:V} (h:CR ρ H (.o id) v) (hr:H[id]? =some (.row T n xs)):(∃a,v= .own a 0 xs.length/\ρ[id]? =some (some a))\/(v= .lit (.slice none 0 0)/\ρ[id]? =some none):=by
 cases h with
 |o h1 h2=>rw[h2]at hr;cases hr;exact .inl ⟨_,rfl,h1⟩
 |oN h1 h2=>exact .inr ⟨rfl,h1⟩
 |oG h=>rw[h]at hr;cases hr
 |oR h1 h2=>rw[h2]at hr;cases hr
 |fl h=>cases h
omit [Zb]in
theorem CR.ownR {id:Nat} {T:Ty} {xss:List (List (I T))} {ho:Option Nat} {v:V} (h:CR ρ H (.o id) v) (hr:H[id]? =some (.rows T xss ho)):∃a,v= .own a 0 xss.length/\ρ[id]? =some (some a):=by
 cases h with
 |o h1 h2=>rw[h2]at hr;cases hr
 |oN h1 h2=>rw[h2]at hr;cases hr
 |oG h=>rw[h]at hr;cases hr
 |oR h1 h2=>rw[h2]at hr;cases hr;exact⟨_,rfl,h1⟩
 |fl h=>cases h
theorem wL (htb:TBOK P tb) (hs:EncL ρ H D L) (hn:d<E.n) {t f fo ft sz id off:Nat} {ti:TI} {x:Operand} (ht:tb t=some ti) (hx:ev D x=some (.one (.p id off))) (hf:ti.fields[f]? =some (fo,ft,sz)):
  bp P ⟨some d,.fieldAddr t x f,ty,pos,af,gd⟩ E ρ H L h (.one (.p id (off+fo))):=by
 obtain⟨i,F⟩:=htb.get ht;obtain⟨av,h1,h2⟩:=ap hs hx;obtain⟨v,rfl,h3⟩:=h2.one';obtain⟨a,rfl,h4⟩:=h3.ptr;obtain⟨h5,h6⟩:=F.field f fo ft sz hf;exact⟨_,.one (.p h4),Abs.oT F.tb h1 F.look h5 h6 hn ⟨rfl,rfl⟩⟩
theorem yc (htb:TBOK P tb) (hs:EncL ρ H D L) (hn:d<E.n) {t f fo ft sz off:Nat} {T:Ty} {y:I T} {ti:TI} {x:Operand} (ht:tb t=some ti) (hx:ev D x=some (.one (.q T y off))) (hf:ti.fields[f]? =some (fo,ft,sz)):
  bp P ⟨some d,.fieldAddr t x f,ty,pos,af,gd⟩ E ρ H L h (.one (.q T y (off+fo))):=by
 obtain⟨i,F⟩:=htb.get ht;obtain⟨av,h1,h2⟩:=ap hs hx;obtain⟨v,rfl,h3⟩:=h2.one';obtain⟨vs,rfl,h4⟩:=h3.qptr;obtain⟨h5,h6⟩:=F.field f fo ft sz hf;refine⟨_,.one (.q h4),Abs.xo F.tb h1 F.look h5 h6 hn ⟨?_,rfl⟩⟩;rw[List.drop_drop];rfl
theorem wB (htb:TBOK P tb) (hs:EncL ρ H D L) (hn:d<E.n) {t f fo ft sz off id m n n':Nat} {T T':Ty} {y:I T} {ys:List (I T')} {ti:TI} {x:Operand} (ht:tb t=some ti) (hx:ev D x=some (.one (.e id m n T y off))) (hr:H[id]? =some (.row T' n' ys)) (hf:ti.fields[f]? =some (fo,ft,sz)):
  bp P ⟨some d,.fieldAddr t x f,ty,pos,af,gd⟩ E ρ H L h (.one (.e id m n T y (off+fo))):=by
 obtain⟨i,F⟩:=htb.get ht;obtain⟨av,h1,h2⟩:=ap hs hx;obtain⟨v,rfl,h3⟩:=h2.one';obtain⟨a,xs,rfl,h4,h5,h6,k1,k2⟩:=h3.eptr hr;obtain⟨h7,h8⟩:=F.field f fo ft sz hf;exact⟨_,.one (.e h4 h5 h6 k1 k2),Abs.oT F.tb h1 F.look h7 h8 hn ⟨rfl,rfl⟩⟩
theorem Aa (htb:TBOK P tb) (hs:EncL ρ H D L) (hh:HpR ρ H h) (hn:d<E.n) {t id off:Nat} {ti:TI} {x:Operand} {cs:List C} {v:AT} (ht:tb t=some ti) (hx:ev D x=some (.one (.p id off))) (hb:H[id]? =some (.box cs)) (hl:ld ti.agg ti.size (cs.drop off)=some v):
  bp P ⟨some d,.load t x,ty,pos,af,gd⟩ E ρ H L h v:=by
 obtain⟨i,F⟩:=htb.get ht;obtain⟨av,h1,h2⟩:=ap hs hx;obtain⟨u,rfl,h3⟩:=h2.one';obtain⟨a,rfl,h4⟩:=h3.ptr;obtain⟨a',vs,h5,h6,h7⟩:=hh.box id cs hb;rw[h4]at h5;cases h5;obtain⟨av,h8,h9⟩:=sI hl (h7.drop off);exact⟨av,h9,Abs.sT F.tb h1 F.look h6 rfl (by rw[F.size,F.agg];exact h8) hn ⟨rfl,rfl⟩⟩
theorem zK (htb:TBOK P tb) (hs:EncL ρ H D L) (hn:d<E.n) {t off:Nat} {ti:TI} {x:Operand} {T:Ty} {y:I T} {v:AT} (ht:tb t=some ti) (hx:ev D x=some (.one (.q T y off))) (hl:ld ti.agg ti.size ((ah T y).drop off)=some v):
  bp P ⟨some d,.load t x,ty,pos,af,gd⟩ E ρ H L h v:=by
 obtain⟨i,F⟩:=htb.get ht;obtain⟨av,h1,h2⟩:=ap hs hx;obtain⟨u,rfl,h3⟩:=h2.one';obtain⟨vs,rfl,h4⟩:=h3.qptr;obtain⟨av,h8,h9⟩:=sI (ρ:=ρ) (H:=H) hl (h4.cr.drop off);exact⟨av,h9,Abs.zb F.tb h1 F.look (by rw[F.size,F.agg];exact h8) hn ⟨rfl,rfl⟩⟩
omit [Zb]in
theorem HpR.at_ (hh:HpR ρ H h) {id a n:Nat} {T:Ty} {xs:List (I T)} (h1:ρ[id]? =some (some a)) (h2:H[id]? =some (.row T n xs)):∃es,h[a]? =some (some (.row (szT T) es))/\FR (.l T xs) (.imm (szT T) es):=by
 rcases hh.row id n T xs h2 with⟨a',es,h3,h4,h5⟩|⟨h3,_⟩
 ·rw[h1]at h3;cases h3;exact⟨es,h4,h5⟩
 ·rw[h1]at h3;cases h3
theorem ro (htb:TBOK P tb) (hs:EncL ρ H D L) (hh:HpR ρ H h) (hn:d<E.n) {t off id m n n':Nat} {ti:TI} {x:Operand} {T:Ty} {y y':I T} {ys:List (I T)} {v:AT} (ht:tb t=some ti) (hx:ev D x=some (.one (.e id m n T y off))) (hr:H[id]? =some (.row T n' ys)) (hy:ys[m]? =some y') (hl:ld ti.agg ti.size ((ah T y').drop off)=some v):
  bp P ⟨some d,.load t x,ty,pos,af,gd⟩ E ρ H L h v:=by
 obtain⟨i,F⟩:=htb.get ht;obtain⟨av,h1,h2⟩:=ap hs hx;obtain⟨u,rfl,h3⟩:=h2.one';obtain⟨a,xs,rfl,h4,h5,h6,k1,k2⟩:=h3.eptr hr;rw[hr]at h5;cases h5;obtain⟨es,h7,h8⟩:=hh.at_ h4 hr;obtain⟨e,h9,h10⟩:=h8.elem hy;obtain⟨av,h11,h12⟩:=sI (ρ:=ρ) (H:=H) hl (h10.cr.drop off);exact⟨av,h12,Abs.sT F.tb h1 F.look h7 h9 (by rw[F.size,F.agg];exact h11) hn ⟨rfl,rfl⟩⟩
omit [Zb]in
theorem vo {α:Type} {xs:List α} {i:Int} {x:α} (h:ix xs i=some x):0<=i/\xs[i.toNat]? =some x:=by
 unfold ix at h;by_cases hi:0<=i
 ·simp[hi]at h;exact⟨hi,h⟩
 ·simp[hi]at h
theorem wF (htb:TBOK P tb) (hs:EncL ρ H D L) (hn:d<E.n) {t:Nat} {ti:TI} {x y:Operand} {T T':Ty} {xs:List (I T)} {i:Int} {e:I T} (ht:tb t=some ti) (he:ti.elem=some T') (hsz:szT T'=szT T) (hx:ev D x=some (.one (.l T xs))) (hy:ev D y=some (.one (.i i))) (hi:ix xs i=some e):
  bp P ⟨some d,.indexAddr t x y,ty,pos,af,gd⟩ E ρ H L h (.one (.q T e 0)):=by
 obtain⟨i',F⟩:=htb.get ht;obtain⟨el,z,_,g1,_,g2,g3,_⟩:=F.elem T' he;obtain⟨av,h1,h2⟩:=ap hs hx;obtain⟨u,rfl,h3⟩:=h2.one';obtain⟨es,rfl,h4⟩:=h3.list;obtain⟨aw,k1,k2⟩:=ap hs hy;obtain⟨u,rfl,k3⟩:=k2.one';cases k3.int;obtain⟨h5,h6⟩:=vo hi;obtain⟨e',h7,h8⟩:=h4.elem h6;exact⟨_,.one (.q (off:=0) h8),Abs.qV F.tb h1 k1 g1 (g2.trans hsz) (hsz▸g3) h5 h7 hn ⟨rfl,rfl⟩⟩
theorem xw (htb:TBOK P tb) (hs:EncL ρ H D L) (hh:HpR ρ H h) (hn:d<E.n) {t id:Nat} {ti:TI} {x y:Operand} {n:Nat} {T T':Ty} {xs:List (I T)} {i:Int} {e:I T} (ht:tb t=some ti) (he:ti.elem=some T') (hsz:szT T'=szT T) (hx:ev D x=some (.one (.o id))) (hr:H[id]? =some (.row T n xs)) (hy:ev D y=some (.one (.i i))) (hi:ix xs i=some e):
  bp P ⟨some d,.indexAddr t x y,ty,pos,af,gd⟩ E ρ H L h (.one (.e id i.toNat n T e 0)):=by
 obtain⟨i',F⟩:=htb.get ht;obtain⟨el,z,_,g1,_,g2,g3,_⟩:=F.elem T' he;obtain⟨av,h1,h2⟩:=ap hs hx;obtain⟨u,rfl,h3⟩:=h2.one';obtain⟨aw,k1,k2⟩:=ap hs hy;obtain⟨u,rfl,k3⟩:=k2.one';cases k3.int;obtain⟨h5,h6⟩:=vo hi;have hlt:=(gI.1 h6).1;rcases h3.own hr with⟨a,rfl,h4⟩|⟨_,h4⟩
 ·obtain⟨es,h7,h8⟩:=hh.at_ h4 hr;refine⟨_,.one (.e (off:=0) h4 hr hlt (Nat.le_refl _) (λ_=>h6)),Abs.rX F.tb h1 k1 g1 h7 (g2.trans hsz) (hsz▸g3) h5 (by omega) hn ⟨?_,rfl⟩⟩;simp[Abs.bindD]
 ·rcases hh.row id n T xs hr with⟨a',es,h7,_⟩|⟨_,h7⟩
  ·rw[h4]at h7;cases h7
  ·obtain⟨h7,_⟩:=h7;subst h7;simp at hlt
theorem u9 (hs:EncL ρ H D L) (hn:d<E.n) {c a b:Operand} {p:Bool} {v:AT} (hc:ev D c=some (.one (.b p))) (hv:ev D (if p then a else b)=some v):bp P ⟨some d,.pick c a b,ty,pos,af,gd⟩ E ρ H L h v:=by
 obtain⟨aw,k1,k2⟩:=ap hs hc;obtain⟨u,rfl,k3⟩:=k2.one';cases k3.bool;obtain⟨av,h1,h2⟩:=ap hs hv;cases p with
 |true=>exact⟨av,h2,Abs.Az k1 rfl h1 hn ⟨rfl,rfl⟩⟩
 |false=>exact⟨av,h2,Abs.Ar k1 rfl h1 hn ⟨rfl,rfl⟩⟩
theorem E0 (hs:EncL ρ H D L) (hn:d<E.n) {t:TypeId} {x:Operand} {p:Bool} (hx:ev D x=some (.one (.b p))):bp P ⟨some d,.unOp .not t x,ty,pos,af,gd⟩ E ρ H L h (.one (.b (!p))):=by
 obtain⟨aw,k1,k2⟩:=ap hs hx;obtain⟨u,rfl,k3⟩:=k2.one';cases k3.bool;exact⟨_,.one (.fl .b),Abs.E7 k1 hn ⟨rfl,rfl⟩⟩
theorem tI (hs:EncL ρ H D L) (hn:d<E.n) {x:Operand} {j:Nat} {xs:List AT} {v:AT} (hx:ev D x=some (.tup xs)) (hj:xs[j]? =some v):bp P ⟨some d,.extract x j,ty,pos,af,gd⟩ E ρ H L h v:=by
 obtain⟨aw,k1,k2⟩:=ap hs hx;cases k2 with
 | tup hl hr =>
  obtain⟨h1,rfl⟩:=gI.1 hj;exact⟨_,hr j h1 (by omega),Abs.uy k1 (gE (by omega)) hn ⟨rfl,rfl⟩⟩
theorem Ct (hs:EncL ρ H D L) (hn:d<E.n) {x:Operand} {id off:Nat} (hx:ev D x=some (.one (.p id off))):bp P ⟨some d,.nilCheck x,ty,pos,af,gd⟩ E ρ H L h (.one (.p id off)):=by
 obtain⟨av,h1,h2⟩:=ap hs hx;obtain⟨v,rfl,h3⟩:=h2.one';obtain⟨a,rfl,h4⟩:=h3.ptr;exact⟨_,h2,Abs.BO h1 hn ⟨rfl,rfl⟩⟩
theorem Bx (hs:EncL ρ H D L) (hn:d<E.n) {x:Operand} {T:Ty} {y:I T} {off:Nat} (hx:ev D x=some (.one (.q T y off))):bp P ⟨some d,.nilCheck x,ty,pos,af,gd⟩ E ρ H L h (.one (.q T y off)):=by
 obtain⟨av,h1,h2⟩:=ap hs hx;obtain⟨v,rfl,h3⟩:=h2.one';obtain⟨vs,rfl,h4⟩:=h3.qptr;exact⟨_,h2,Abs.BQ h1 hn ⟨rfl,rfl⟩⟩
theorem Ge (htb:TBOK P tb) (hs:EncL ρ H D L) (hn:d<E.n) {t1 t:Nat} {ti t1i:TI} {x:Operand} {a:Int} (ht1:tb t1=some t1i) (ht:tb t=some ti) (hi:ti.i64=true) (hx:ev D x=some (.one (.k .u8 a))):bp P ⟨some d,.convert t1 t x,ty,pos,af,gd⟩ E ρ H L h (.one (.i a)):=by
 obtain⟨i1,F1⟩:=htb.get ht1;obtain⟨i,F⟩:=htb.get ht;obtain⟨av,h1,h2⟩:=ap hs hx;obtain⟨v,rfl,h3⟩:=h2.one';cases h3.kint;have e1:=F1.ty;have e2:=F.ty;have hj:=F.i64 hi;obtain⟨j1,hj1⟩:∃j1,j1=i1:=⟨_,rfl⟩;obtain⟨j,hj2⟩:∃j,j=i:=⟨_,rfl⟩;rw[<-hj1]at e1;rw[<-hj2]at e2 hj;have tbl:Abs.bE P ([(t1,j1),(t,j)]:Abs.Tbl):=Abs.gg e1 (Abs.gg e2 (Abs.mJ P));have l2:∃j',List.lookup t ([(t1,j1),(t,j)]:Abs.Tbl)=some j'/\j'.desc= .int .i64:=by
  by_cases e:t=t1
  ·subst e;rw[e1]at e2;cases e2;exact⟨j1,by simp,hj⟩
  ·have e':(t==t1)=false:=by simpa using e
   exact⟨j,by simp[List.lookup_cons,e'],hj⟩
 obtain⟨j',l3,l4⟩:=l2;exact⟨_,.one (.fl .i),Abs.wn tbl h1 (i:=j1) (by simp) l3 l4 hn ⟨rfl,rfl⟩⟩
theorem CA (htb:TBOK P tb) (hs:EncL ρ H D L) (hn:d<E.n) {t:Nat} {ti:TI} {x:Operand} {s:ByteArray} (ht:tb t=some ti) (hst:ti.str=true) (hx:ev D x=some (.one (.s s))):
  bp P ⟨some d,.call ⟨.builtin .len,#[x],#[t]⟩,ty,pos,af,gd⟩ E ρ H L h (.one (.i s.size)):=by
 obtain⟨i,F⟩:=htb.get ht;obtain⟨av,h1,h2⟩:=ap hs hx;obtain⟨v,rfl,h3⟩:=h2.one';cases h3.str;exact⟨_,.one (.fl .i),Abs.xM F.tb h1 F.look (F.str hst) hn ⟨rfl,rfl⟩⟩
omit [Zb]in
theorem C5 (hh:HpR ρ H h) {c:C} {v:V} {n:Int} (hc:CR ρ H c v) (hl:uo H c=some n):∃m:Nat,n=m/\Abs.lenV v=some m:=by
 cases c<;>simp only[uo,Option.some.injEq,reduceCtorEq]at hl
 ·subst hl;obtain⟨es,rfl,h4⟩:=hc.list;cases h4 with
  |l _ hl _ _=>exact⟨_,rfl,by simp[Abs.lenV,hl]⟩
 ·subst hl;cases hc with
  |fl h=>cases h
  |lc h=>cases h with|l _ hl _ _=>exact⟨_,rfl,by simp[Abs.lenV,hl]⟩
 ·subst hl;cases hc with
  |fl h=>cases h
  |nil _=>exact⟨0,rfl,rfl⟩
 ·split at hl
  ·rename_i T n xs hr;cases hl;rcases hc.own hr with⟨a,rfl,h4⟩|⟨rfl,h4⟩
   ·exact⟨_,rfl,rfl⟩
   ·rcases hh.row _ n T xs hr with⟨a',es,h7,_⟩|⟨_,h7⟩
    ·rw[h4]at h7;cases h7
    ·obtain⟨h7,_⟩:=h7;subst h7;exact⟨0,rfl,rfl⟩
  ·rename_i T xss ho hr;cases hl;obtain⟨a,rfl,h4⟩:=hc.ownR hr;exact⟨_,rfl,rfl⟩
  ·cases hl
 ·subst hl;cases hc with
  |fl h=>cases h
  |zs=>exact⟨0,rfl,rfl⟩
theorem FX (htb:TBOK P tb) (hs:EncL ρ H D L) (hh:HpR ρ H h) (hn:d<E.n) {t:Nat} {ti:TI} {T:Ty} {x:Operand} {c:C} {n:Int} (ht:tb t=some ti) (he:ti.elem=some T) (hx:ev D x=some (.one c)) (hl:uo H c=some n):
  bp P ⟨some d,.call ⟨.builtin .len,#[x],#[t]⟩,ty,pos,af,gd⟩ E ρ H L h (.one (.i n)):=by
 obtain⟨i,F⟩:=htb.get ht;obtain⟨el,z,_,g1,_⟩:=F.elem T he;obtain⟨av,h1,h2⟩:=ap hs hx;obtain⟨v,rfl,h3⟩:=h2.one';obtain⟨m,rfl,h4⟩:=C5 hh h3 hl;exact⟨_,.one (.fl .i),Abs.FO F.tb h1 h4 g1 hn ⟨rfl,rfl⟩⟩
omit [Zb]in
theorem FR.sub {T:Ty} {xs:List (I T)} {es:List (List V)} (h:FR (.l T xs) (.imm (szT T) es)) (lo hi:Nat):FR (.l T ((xs.take hi).drop lo)) (.imm (szT T) ((es.take hi).drop lo)):=by
 cases h with
 | l hp hl hs hr =>
  refine .l hp (by simp[hl]) (λe he=>hs e (List.mem_of_mem_take (List.mem_of_mem_drop he))) (λm h1 h2 j h3 h4=> ?_);simp only[List.getElem_drop,List.getElem_take]at h3 h4 ⊢;exact hr (lo+m) (by simp at h1;omega) (by simp at h2;omega) j h3 h4
omit [Zb]in
theorem zC {α:Type} {xs ys:List α} {a b:Int} (h:sub xs a b=some ys):0<=a/\a<=b/\b<=xs.length/\ys=(xs.take b.toNat).drop a.toNat:=by
 unfold sub at h;by_cases hc:(decide (0<=a)&&decide (a<=b)&&decide (b<=(xs.length:Int)))=true
 ·rw[hc]at h;simp only[bA,decide_eq_true_eq]at hc;cases h;exact⟨hc.1.1,hc.1.2,hc.2,rfl⟩
 ·simp only[Bool.not_eq_true]at hc;rw[hc]at h;cases h
theorem AY (htb:TBOK P tb) (hs:EncL ρ H D L) (hn:d<E.n) {t:Nat} {ti:TI} {x:Operand} {lo hi:Option Operand} {T T':Ty} {xs ys:List (I T)} {a b:Int} (ht:tb t=some ti) (he:ti.elem=some T') (hsz:szT T'=szT T) (hx:ev D x=some (.one (.l T xs)))
  (hlo:(match lo with|some y=>ev D y|none=>some (.one (.i 0)))=some (.one (.i a))) (hhi:(match hi with|some y=>ev D y|none=>some (.one (.i xs.length)))=some (.one (.i b))) (hy:sub xs a b=some ys):
  bp P ⟨some d,.slice t x lo hi none,ty,pos,af,gd⟩ E ρ H L h (.one (.l T ys)):=by
 obtain⟨i',F⟩:=htb.get ht;obtain⟨el,z,_,g1,_,g2,g3,_⟩:=F.elem T' he;obtain⟨av,h1,h2⟩:=ap hs hx;obtain⟨u,rfl,h3⟩:=h2.one';obtain⟨es,rfl,h4⟩:=h3.list;obtain⟨s1,s2,s3,rfl⟩:=zC hy;have hlen:es.length=xs.length:=by cases h4 with|l _ hl _ _=>exact hl
 obtain⟨a',rfl⟩:∃a':Nat,a=a':=⟨a.toNat,by omega⟩;obtain⟨b',rfl⟩:∃b':Nat,b=b':=⟨b.toNat,by omega⟩;refine⟨_,.one (.fl (h4.sub a' b')),Abs.s5 (lo:=a') (hi:=b') (kl:=.i64) (kh:=.i64) F.tb h1 g1 (g2.trans hsz) (hsz▸g3) ?_ ?_ (by omega) (by omega) hn ⟨rfl,rfl⟩⟩
 ·cases lo with
  |none=>simp only[Option.some.injEq,AT.one.injEq,C.i.injEq]at hlo;exact .inl ⟨rfl,by omega⟩
  | some y =>
   obtain⟨aw,k1,k2⟩:=ap hs hlo;obtain⟨u,rfl,k3⟩:=k2.one';cases k3.int;exact .inr ⟨y,rfl,k1⟩
 ·cases hi with
  |none=>simp only[Option.some.injEq,AT.one.injEq,C.i.injEq]at hhi;exact .inl ⟨rfl,by omega⟩
  | some y =>
   obtain⟨aw,k1,k2⟩:=ap hs hhi;obtain⟨u,rfl,k3⟩:=k2.one';cases k3.int;exact .inr ⟨y,rfl,k1⟩
theorem yO {R:Type} {r:R} (hs:EncL ρ H D L) (hn:d<E.n) {op:BinOp} {t1 t2:TypeId} {x y:Operand} {a b:C} {K:C->Option R} (hx:ev D x=some (.one a)) (hy:ev D y=some (.one b)) (hbool:∀p,a= .b p->∃ti,tb t1=some ti/\ti.bool=true) (htb:TBOK P tb) (hk:Cb op a b K=some r):
  ∃c,K c=some r/\bp P ⟨some d,.binOp op t1 x y t2,ty,pos,af,gd⟩ E ρ H L h (.one c):=by
 obtain⟨av,h1,h2⟩:=ap hs hx;obtain⟨u,rfl,h3⟩:=h2.one';obtain⟨aw,k1,k2⟩:=ap hs hy;obtain⟨u',rfl,k3⟩:=k2.one';have sh:∀(m n:Int) (k:IntKind),a= .i m->u'= .lit (.int k n)->(op= .shl\/op= .shr)->(bif decide (0<=n)then K (.i (Abs.am op .i64 m n))else none)=some r->∃c,K c=some r/\bp P ⟨some d,.binOp op t1 x y t2,ty,pos,af,gd⟩ E ρ H L h (.one c):=by
  rintro m n k rfl rfl ho hk;cases h3.int;cases hp:decide (0<=n)with
  |false=>rw[hp]at hk;cases hk
  | true =>
   rw[hp]at hk;have hy0:0<=n:=by simpa using hp
   rcases ho with rfl|rfl
   ·exact⟨_,hk,_,.one (.fl .i),Abs.EA h1 k1 hy0 hn ⟨rfl,rfl⟩⟩
   ·exact⟨_,hk,_,.one (.fl .i),Abs.Eh h1 k1 hy0 hn ⟨rfl,rfl⟩⟩
 have plain:∀c,Do op a b=some c->K c=some r->∃c,K c=some r/\bp P ⟨some d,.binOp op t1 x y t2,ty,pos,af,gd⟩ E ρ H L h (.one c):=by
  intro c hb hk;unfold Do at hb;split at hb
  ·rename_i x y;cases h3.int;cases k3.int;split at hb<;>first|(cases hb;done)|cases hb
   ·exact⟨_,hk,_,.one (.fl .i),Abs.nJ (op:=.add) rfl h1 k1 hn ⟨rfl,rfl⟩⟩
   ·exact⟨_,hk,_,.one (.fl .i),Abs.nJ (op:=.sub) rfl h1 k1 hn ⟨rfl,rfl⟩⟩
   ·exact⟨_,hk,_,.one (.fl .i),Abs.nJ (op:=.mul) rfl h1 k1 hn ⟨rfl,rfl⟩⟩
   ·exact⟨_,hk,_,.one (.fl .b),Abs.dS (op:=.lss) rfl h1 k1 hn ⟨rfl,rfl⟩⟩
   ·exact⟨_,hk,_,.one (.fl .b),Abs.dS (op:=.leq) rfl h1 k1 hn ⟨rfl,rfl⟩⟩
   ·exact⟨_,hk,_,.one (.fl .b),Abs.dS (op:=.gtr) rfl h1 k1 hn ⟨rfl,rfl⟩⟩
   ·exact⟨_,hk,_,.one (.fl .b),Abs.dS (op:=.geq) rfl h1 k1 hn ⟨rfl,rfl⟩⟩
   ·exact⟨_,hk,_,.one (.fl .b),Abs.dS (op:=.eql) rfl h1 k1 hn ⟨rfl,rfl⟩⟩
   ·exact⟨_,hk,_,.one (.fl .b),Abs.dS (op:=.neq) rfl h1 k1 hn ⟨rfl,rfl⟩⟩
   ·exact⟨_,hk,_,.one (.fl .i),Abs.mj (op:=.and) rfl h1 k1 hn ⟨rfl,rfl⟩⟩
   ·exact⟨_,hk,_,.one (.fl .i),Abs.mj (op:=.or) rfl h1 k1 hn ⟨rfl,rfl⟩⟩
   ·exact⟨_,hk,_,.one (.fl .i),Abs.mj (op:=.xor) rfl h1 k1 hn ⟨rfl,rfl⟩⟩
   ·exact⟨_,hk,_,.one (.fl .i),Abs.mj (op:=.andNot) rfl h1 k1 hn ⟨rfl,rfl⟩⟩
  ·rename_i x y;cases h3.bool;cases k3.bool;obtain⟨ti,ht,hi⟩:=hbool x rfl;obtain⟨i,F⟩:=htb.get ht;split at hb<;>first|(cases hb;done)|cases hb
   ·exact⟨_,hk,_,.one (.fl .b),Abs.AO (op:=.eql) F.tb rfl F.look (F.bool hi) h1 k1 hn ⟨rfl,rfl⟩⟩
   ·exact⟨_,hk,_,.one (.fl .b),Abs.AO (op:=.neq) F.tb rfl F.look (F.bool hi) h1 k1 hn ⟨rfl,rfl⟩⟩
  ·rename_i x y;cases h3.str;cases k3.str;split at hb<;>first|(cases hb;done)|cases hb
   ·exact⟨_,hk,_,.one (.fl .b),Abs.eI (op:=.eql) rfl h1 k1 hn ⟨rfl,rfl⟩⟩
   ·exact⟨_,hk,_,.one (.fl .b),Abs.eI (op:=.neq) rfl h1 k1 hn ⟨rfl,rfl⟩⟩
   ·exact⟨_,hk,_,.one (.fl .b),Abs.eI (op:=.lss) rfl h1 k1 hn ⟨rfl,rfl⟩⟩
   ·exact⟨_,hk,_,.one (.fl .b),Abs.eI (op:=.leq) rfl h1 k1 hn ⟨rfl,rfl⟩⟩
   ·exact⟨_,hk,_,.one (.fl .b),Abs.eI (op:=.gtr) rfl h1 k1 hn ⟨rfl,rfl⟩⟩
   ·exact⟨_,hk,_,.one (.fl .b),Abs.eI (op:=.geq) rfl h1 k1 hn ⟨rfl,rfl⟩⟩
  ·rename_i kd x kd' y;cases h3.kint;cases k3.kint;split at hb
   ·rename_i he;have he:=of_decide_eq_true he;subst he;split at hb<;>first|(cases hb;done)|cases hb
    ·exact⟨_,hk,_,.one (.fl .k),Abs.ln (op:=.add) rfl h1 k1 hn ⟨rfl,rfl⟩⟩
    ·exact⟨_,hk,_,.one (.fl .k),Abs.ln (op:=.sub) rfl h1 k1 hn ⟨rfl,rfl⟩⟩
    ·exact⟨_,hk,_,.one (.fl .k),Abs.ln (op:=.mul) rfl h1 k1 hn ⟨rfl,rfl⟩⟩
    ·exact⟨_,hk,_,.one (.fl .b),Abs.dS (op:=.lss) rfl h1 k1 hn ⟨rfl,rfl⟩⟩
    ·exact⟨_,hk,_,.one (.fl .b),Abs.dS (op:=.leq) rfl h1 k1 hn ⟨rfl,rfl⟩⟩
    ·exact⟨_,hk,_,.one (.fl .b),Abs.dS (op:=.gtr) rfl h1 k1 hn ⟨rfl,rfl⟩⟩
    ·exact⟨_,hk,_,.one (.fl .b),Abs.dS (op:=.geq) rfl h1 k1 hn ⟨rfl,rfl⟩⟩
    ·exact⟨_,hk,_,.one (.fl .b),Abs.dS (op:=.eql) rfl h1 k1 hn ⟨rfl,rfl⟩⟩
    ·exact⟨_,hk,_,.one (.fl .b),Abs.dS (op:=.neq) rfl h1 k1 hn ⟨rfl,rfl⟩⟩
    ·exact⟨_,hk,_,.one (.fl .k),Abs.kB (op:=.and) rfl h1 k1 hn ⟨rfl,rfl⟩⟩
    ·exact⟨_,hk,_,.one (.fl .k),Abs.kB (op:=.or) rfl h1 k1 hn ⟨rfl,rfl⟩⟩
    ·exact⟨_,hk,_,.one (.fl .k),Abs.kB (op:=.xor) rfl h1 k1 hn ⟨rfl,rfl⟩⟩
    ·exact⟨_,hk,_,.one (.fl .k),Abs.kB (op:=.andNot) rfl h1 k1 hn ⟨rfl,rfl⟩⟩
   ·cases hb
  ·cases hb
 unfold Cb at hk;split at hk
 ·rename_i x y;cases h3.int;cases k3.int;cases hp:(decide (0<=x)&&decide (0<y))with
  |false=>rw[hp]at hk;cases hk
  | true =>
   rw[hp]at hk;simp only[bA,decide_eq_true_eq]at hp;exact⟨_,hk,_,.one (.fl .i),Abs.Ei h1 k1 hp.1 hp.2 hn ⟨rfl,rfl⟩⟩
 ·rename_i x y;cases h3.int;cases k3.int;cases hp:(decide (0<=x)&&decide (0<y))with
  |false=>rw[hp]at hk;cases hk
  | true =>
   rw[hp]at hk;simp only[bA,decide_eq_true_eq]at hp;exact⟨_,hk,_,.one (.fl .i),Abs.EW h1 k1 hp.1 hp.2 hn ⟨rfl,rfl⟩⟩
 ·exact sh _ _ _ rfl k3.int (.inl rfl) hk
 ·exact sh _ _ _ rfl k3.int (.inr rfl) hk
 ·exact sh _ _ _ rfl k3.kint (.inl rfl) hk
 ·exact sh _ _ _ rfl k3.kint (.inr rfl) hk
 ·rename_i x y;cases h3.str;cases k3.str;cases hp:decide (x.size+y.size<=1099511627776)with
  |false=>rw[hp]at hk;cases hk
  | true =>
   rw[hp]at hk;exact⟨_,hk,_,.one (.fl .s),Abs.wy h1 k1 (of_decide_eq_true hp) hn ⟨rfl,rfl⟩⟩
 ·rename_i x kd y;cases h3.kint;cases k3.kint;cases hp:decide (0<=y)with
  |false=>rw[hp]at hk;cases hk
  | true =>
   rw[hp]at hk;exact⟨_,hk,_,.one (.fl .k),Abs.vF h1 k1 (of_decide_eq_true hp) hn ⟨rfl,rfl⟩⟩
 ·rename_i x y;cases h3.kint;cases k3.int;cases hp:decide (0<=y)with
  |false=>rw[hp]at hk;cases hk
  | true =>
   rw[hp]at hk;exact⟨_,hk,_,.one (.fl .k),Abs.vF h1 k1 (of_decide_eq_true hp) hn ⟨rfl,rfl⟩⟩
 ·split at hk
  ·rename_i c hb;exact plain c hb hk
  ·cases hk
omit [Zb]in
theorem tK {t u:Nat} {i j:Abs.TyI} (h1:Abs.qi P t=some i) (h2:Abs.qi P u=some j):∃T:Abs.Tbl,Abs.bE P T/\T.lookup t=some i/\T.lookup u=some j:=by
 refine⟨[(t,i),(u,j)],Abs.gg h1 (Abs.gg h2 (Abs.mJ P)),by simp,?_⟩;by_cases e:u=t
 ·subst e;rw[h1]at h2;cases h2;simp
 ·have e':(u==t)=false:=by simpa using e
  simp[List.lookup_cons,e']
theorem CV (htb:TBOK P tb) (hs:EncL ρ H D L) (hn:d<E.n) {t f fo ft sz:Nat} {ti fi:TI} {x:Operand} {cs:List C} {v:AT} (ht:tb t=some ti) (hx:ev D x=some (.agg cs)) (hf:ti.fields[f]? =some (fo,ft,sz)) (hft:tb ft=some fi) (hl:ld fi.agg fi.size (cs.drop fo)=some v):
  bp P ⟨some d,.field t x f,ty,pos,af,gd⟩ E ρ H L h v:=by
 obtain⟨i,F⟩:=htb.get ht;obtain⟨j,G⟩:=htb.get hft;obtain⟨av,h1,h2⟩:=ap hs hx;obtain⟨vs,rfl,h3⟩:=h2.agg';obtain⟨h5,h6⟩:=F.field f fo ft sz hf;obtain⟨av,h8,h9⟩:=sI hl (h3.drop fo);obtain⟨T,g1,g2,g3⟩:=tK F.ty G.ty;exact⟨av,h9,Abs.Bs g1 h1 g2 h5 g3 (by rw[G.size,G.agg];exact h8) hn ⟨rfl,rfl⟩⟩
omit [Zb]in
theorem ik {v:AT} {av:AV} {cs:List C} (h:cells v=some cs) (hr:ATR ρ H v av):∃vs,av.cells=some vs/\CRs ρ H cs vs:=by
 cases hr with
 |one k=>cases h;exact⟨_,rfl,.cons k .nil_⟩
 |agg k=>cases h;exact⟨_,rfl,k⟩
 |tup _ _=>cases h
inductive lj (ρ:Rho) (H:List Ob):List (Nat×List C)->List (Nat×List V)->Prop
 |nil:lj ρ H [] []
 |cons {i:Nat} {cs:List C} {vs:List V} {ps:List (Nat×List C)} {qs:List (Nat×List V)} (h:CRs ρ H cs vs) (k:lj ρ H ps qs):lj ρ H ((i,cs)::ps) ((i,vs)::qs)
omit [Zb]in
theorem jx (hs:EncL ρ H D L):∀{parts:List (Nat×Operand)} {ps:List (Nat×List C)},bo D parts=some ps->∃qs,Abs.bo L parts=some qs/\lj ρ H ps qs
 |[],ps,h=>by cases h;exact⟨[],rfl,.nil⟩
 | (i, x) :: rest, ps, h => by
  simp only[bo]at h;split at h
  ·rename_i vs qs h1 h2;cases h;cases hx:ev D x with
   |none=>rw[hx]at h1;cases h1
   | some v =>
    rw[hx]at h1;obtain⟨av,k1,k2⟩:=ap hs hx;obtain⟨us,k3,k4⟩:=ik h1 k2;obtain⟨rs,k5,k6⟩:=jx hs h2;refine⟨(i,us)::rs,?_,.cons k4 k6⟩;simp only[Abs.bo,k1,bS,k3,k5]
  ·cases h
omit [Zb]in
theorem CRs.splice {cs ds:List C} {vs us:List V} (h:CRs ρ H cs vs) (k:CRs ρ H ds us) (off:Nat):CRs ρ H (splice cs off ds) (Abs.splice vs off us):=by
 unfold Den.splice Abs.splice;rw[k.1];exact(h.take off).app (k.app (h.drop _))
omit [Zb]in
theorem CO {place:Nat->Option (Nat×Nat)} {ps:List (Nat×List C)} {qs:List (Nat×List V)} (hp:lj ρ H ps qs):∀{cs:List C} {vs:List V} {out:List C},CRs ρ H cs vs->si place cs ps=some out->∃us,Abs.jX place vs qs=some us/\CRs ρ H out us:=by
 induction hp with
 |nil=>intro cs vs out h k;cases k;exact⟨vs,rfl,h⟩
 | @cons i ds us ps qs hd hp ih =>
  intro cs vs out h k;simp only[si]at k;split at k
  ·rename_i off size hpl;split at k
   ·rename_i hc;simp only[bA]at hc;have c1:=nB hc.1;have c2:=Nat.le_of_ble_eq_true hc.2;obtain⟨zs,k1,k2⟩:=ih (h.splice hd off) k;refine⟨zs,?_,k2⟩;simp only[Abs.jX   ,hpl];rw[if_pos]
    ·exact k1
    ·rw[hd.1]at c1 c2;rw[h.1]at c2;simp[c1];omega
   ·cases k
  ·cases k
omit [Zb]in
theorem lS (k:IntKind):Abs.bJ (.int k 0)=true:=by cases k<;>decide
omit [Zb]in
theorem CE {v:Value} {c:C} (h:tf v c=true):Abs.bJ v=true/\CR ρ H c (.lit v):=by
 unfold tf at h;split at h
 ·exact⟨lS _,.fl .i⟩
 ·simp only[beq_iff_eq]at h;subst h;exact⟨lS _,.fl .k⟩
 ·exact⟨rfl,.fl .b⟩
 ·rename_i x y;simp only[bA,beq_iff_eq]at h;have e:x=y:=by
   have e1:x.data= #[]:=Array.eq_empty_of_size_eq_zero h.1;have e2:y.data= #[]:=Array.eq_empty_of_size_eq_zero h.2;cases x;cases y;simp only at e1 e2;rw[e1,e2]
  subst e;exact⟨by simp[Abs.bJ,h.1],.fl .s⟩
 ·exact⟨rfl,.nil (by simpa [Nat.blt_eq]using h)⟩
 ·exact⟨rfl,.zP⟩
 ·exact⟨rfl,.zM⟩
 ·exact⟨rfl,.zF⟩
 ·cases h
omit [Zb]in
theorem nz :∀{vs:List Value} {cs:List C},j6 vs cs=true->vs.all Abs.bJ=true/\CRs ρ H cs (vs.map V.lit)
 |[],[],_=>⟨rfl,.nil_⟩
 |[],_::_,h=>by cases h
 |_::_,[],h=>by cases h
 | v :: vs, c :: cs, h => by
  simp only[j6,bA]at h;obtain⟨h1,h2⟩:=nz h.2;have key:=CE (ρ:=ρ) (H:=H) h.1;exact⟨by simp[key.1,h1],.cons key.2 h2⟩
theorem AU (htb:TBOK P tb) (hs:EncL ρ H D L) (hn:d<E.n) {t:Nat} {ti:TI} {parts:List (Nat×Operand)} {ps:List (Nat×List C)} {cs:List C} (ht:tb t=some ti) (hp:bo D parts=some ps) (hne:ti.fields≠[]) (hf:si (λk=>(ti.fields[k]?).map λf=>(f.1,f.2.2)) ti.zero ps=some cs):
  bp P ⟨some d,.build t parts.toArray,ty,pos,af,gd⟩ E ρ H L h (.agg cs):=by
 obtain⟨i,F⟩:=htb.get ht;obtain⟨qs,h1,h2⟩:=jx hs hp;obtain⟨z1,z2⟩:=nz (ρ:=ρ) (H:=H) F.zero;obtain⟨us,h3,h4⟩:=CO h2 z2 hf;exact⟨_,.agg h4,Abs.Ap F.tb h1 F.look z1 F.zne (by rw[F.fields];exact hne) (by rw[F.fields];exact h3) F.fpos hn ⟨rfl,rfl⟩⟩
theorem VR.immc_imm {I:Nat->Prop} {w:World} {ι:List Abs.Inf} {s:Nat} {es:List (List V)} {c:Value} (h:Abs.VR I w ι (.immc s es) c):Abs.VR I w ι (.imm s es) c:=by
 cases h with
 |immc0=>exact .imm0 (Nat.zero_le _)
 |immc hs hm hI hcell hr hT=>exact .imm hs (Nat.le_refl _) hm hI hcell hr hT
def EE (E:Abs.Cx) (L:Env) (h:ag) (v v':V):Prop:=∀ι I a w,Abs.Rel E L h ι I a w->∀u,Abs.VR I w ι v u->Abs.VR (λb=>b<w.heap.size) w [] v' u
theorem dp {v:V} (hf:v.flat=true):EE E L h v v:=λ_ _ _ _ r _ hv=>(hv.free (ι':=[]) hf).keep (Abs.Grows.refl _) ⟨r.imm,λ_ _=>rfl⟩
theorem vO (hh:HpR ρ H h) {c c':C} {v:V} (hp:kN H c=some c') (hc:CR ρ H c v):∃v',CR [] [] c' v'/\v'.flat=true/\EE E L h v v':=by
 cases c<;>simp only[kN,Option.some.injEq,reduceCtorEq]at hp
 ·subst hp;cases hc.int;exact⟨_,.fl .i,rfl,dp rfl⟩
 ·subst hp;cases hc.kint;exact⟨_,.fl .k,rfl,dp rfl⟩
 ·subst hp;cases hc.bool;exact⟨_,.fl .b,rfl,dp rfl⟩
 ·subst hp;cases hc.str;exact⟨_,.fl .s,rfl,dp rfl⟩
 ·subst hp;obtain⟨es,rfl,h4⟩:=hc.list;exact⟨_,.fl h4,rfl,dp rfl⟩
 ·subst hp;cases hc with
  |fl h=>cases h
  |lc k=>exact⟨_,.fl k,rfl,λι I a w r u hv=>VR.immc_imm (dp (E:=E) (L:=L) (h:=h) rfl ι I a w r u hv)⟩
 ·subst hp;cases hc with
  |fl h=>cases h
  |nil k=>exact⟨_,.fl (.nil_ k),rfl,λι I a w r u hv=>by cases hv;exact .imm0 (Nat.zero_le _)⟩
 ·split at hp
  ·rename_i T n xs hr;cases hp;rcases hc.own hr with⟨a,rfl,h4⟩|⟨rfl,h4⟩
   ·obtain⟨es,h5,h6⟩:=hh.at_ h4 hr;refine⟨_,.fl h6,rfl,λι I a' w r u hv=> ?_⟩;have hl:es.length=xs.length:=by cases h6 with|l _ hl _ _=>exact hl
    have:=Abs.VR.lend r h5 h6.flats (by omega) hv;rw[List.drop_zero,List.take_of_length_le (by omega)]at this;exact this
   ·rcases hh.row _ n T xs hr with⟨a',es,h7,_⟩|⟨_,h7,h8⟩
    ·rw[h4]at h7;cases h7
    ·subst h7;exact⟨_,.fl (.nil_ h8),rfl,λι I a w r u hv=>by cases hv;exact .imm0 (Nat.zero_le _)⟩
  ·cases hp
 ·subst hp;cases hc with
  |fl h=>cases h
  |zs=>exact⟨_,.zs,rfl,dp rfl⟩
def DI (E:Abs.Cx) (L:Env) (h:ag) (v v':AV):Prop:=∀ι I a w,Abs.Rel E L h ι I a w->∀u,Abs.AR ι I w v u->Abs.AR [] (λb=>b<w.heap.size) w v' u
theorem rU (hh:HpR ρ H h):∀{cs ds:List C} {vs:List V},cU H cs=some ds->CRs ρ H cs vs->∃us,CRs [] [] ds us/\us.all V.flat=true/\vs.length=us.length/\∀(j:Nat) (h1:j<vs.length) (h2:j<us.length),EE E L h vs[j] us[j]
 | [], ds, vs, hp, hc => by
  cases hp;have:=hc.1;cases vs with
  |nil=>exact⟨[],.nil_,rfl,rfl,λj h=>by simp at h⟩
  |cons _ _=>simp at this
 | c :: cs, ds, vs, hp, hc => by
  simp only[cU]at hp;split at hp
  ·rename_i d' ds' h1 h2;cases hp;cases vs with
   |nil=>have:=hc.1;simp at this
   | cons v vs =>
    obtain⟨u,k1,k2,k3⟩:=vO (E:=E) (L:=L) hh h1 (hc.2 0 (by simp) (by simp));obtain⟨us,m1,m2,m3,m4⟩:=rU hh h2 (vs:=vs) ⟨by have:=hc.1;simpa using this,λj a b=>hc.2 (j+1) (by simpa using a) (by simpa using b)⟩;refine⟨u::us,.cons k1 m1,by simp[k2,m2],by simp[m3],λj a b=> ?_⟩;cases j with
    |zero=>exact k3
    |succ j=>exact m4 j (by simpa using a) (by simpa using b)
  ·cases hp
theorem zz (hh:HpR ρ H h) {x y:AT} {av:AV} (hp:fj H x=some y) (hr:ATR ρ H x av):∃bv,ATR [] [] y bv/\bv.flat=true/\DI E L h av bv:=by
 cases hr with
 | @one c v k=>
  simp only[fj,Option.map_eq_some_iff]at hp;obtain⟨c',h1,rfl⟩:=hp;obtain⟨v',k1,k2,k3⟩:=vO (E:=E) (L:=L) hh h1 k;exact⟨_,.one k1,k2,λι I a w r u hu=>by cases hu with|one hu=>exact .one (k3 ι I a w r u hu)⟩
 | @agg cs vs k=>
  simp only[fj,Option.map_eq_some_iff]at hp;obtain⟨ds,h1,rfl⟩:=hp;obtain⟨us,k1,k2,k3,k4⟩:=rU (E:=E) (L:=L) hh h1 k;refine⟨_,.agg k1,k2,λι I a w r u hu=> ?_⟩;cases hu with
  |agg hl hcs hr=>exact .agg (by rw[hl,k3]) (λj hj=>hcs j (by omega)) (λj hj=>k4 j (by omega) hj ι I a w r _ (hr j (by omega)))
 |tup _ _=>cases hp
omit [Zb]in
theorem uE (hs:EncL ρ H D L):∀{ops:List Operand} {xs:List AT},evs D ops=some xs->∃avs,Abs.evs L ops=some avs/\xs.length=avs.length/\∀(j:Nat) (h1:j<xs.length) (h2:j<avs.length),ATR ρ H xs[j] avs[j]
 |[],xs,h=>by cases h;exact⟨[],rfl,rfl,λj h=>by simp at h⟩
 | x :: ops, xs, h => by
  simp only[evs]at h;split at h
  ·rename_i v vs h1 h2;cases h;obtain⟨av,k1,k2⟩:=ap    hs h1;obtain⟨avs,k3,k4,k5⟩:=uE     hs h2;refine⟨av::avs,by simp only[Abs.evs,k1,k3],by simp[k4],λj a b=> ?_⟩;cases j with
   |zero=>exact k2
   |succ j=>exact k5 j (by simpa using a) (by simpa using b)
  ·cases h
theorem oB (hh:HpR ρ H h):∀{xs ys:List AT} {avs:List AV},cn H xs=some ys->xs.length=avs.length->(∀(j:Nat) (h1:j<xs.length) (h2:j<avs.length),ATR ρ H xs[j] avs[j])->
  ∃bvs,ys.length=bvs.length/\(∀(j:Nat) (h1:j<ys.length) (h2:j<bvs.length),ATR [] [] ys[j] bvs[j])/\Abs.AV.flats bvs=true/\avs.length=bvs.length/\∀(j:Nat) (h1:j<avs.length) (h2:j<bvs.length),DI E L h avs[j] bvs[j]
 | [], ys, avs, hp, hl, hr => by
  cases hp;cases avs with
  |nil=>exact⟨[],rfl,λj h=>by simp at h,rfl,rfl,λj h=>by simp at h⟩
  |cons _ _=>simp at hl
 | x :: xs, ys, avs, hp, hl, hr => by
  simp only[cn]at hp;split at hp
  ·rename_i y ys' h1 h2;cases hp;cases avs with
   |nil=>simp at hl
   | cons av avs =>
    obtain⟨bv,k1,k2,k3⟩:=zz (E:=E) (L:=L) hh h1 (hr 0 (by simp) (by simp));obtain⟨bvs,m1,m2,m3,m4,m5⟩:=oB hh h2 (avs:=avs) (by simpa using hl) (λj a b=>hr (j+1) (by simpa using a) (by simpa using b));refine⟨bv::bvs,by simp[m1],λj a b=> ?_,by simp[Abs.AV.flats,k2,m3],by simp[m4],λj a b=> ?_⟩
    ·cases j with
     |zero=>exact k1
     |succ j=>exact m2 j (by simpa using a) (by simpa using b)
    ·cases j with
     |zero=>exact k3
     |succ j=>exact m5 j (by simpa using a) (by simpa using b)
  ·cases hp
omit [Zb]in
theorem vI {ρ0:Rho} {H0:List Ob} {c:C} {v:V} (hs:scal c=true) (hc:CR ρ0 H0 c v):∃u,v= .lit u:=by
 cases c<;>simp only[scal,reduceCtorEq]at hs
 ·exact⟨_,hc.int⟩
 ·exact⟨_,hc.kint⟩
 ·exact⟨_,hc.bool⟩
 ·exact⟨_,hc.str⟩
theorem Af {ι ι':List Abs.Inf} {I I':Nat->Prop} {w w':World} {u c:Value} (h:Abs.VR I w ι (.lit u) c):Abs.VR I' w' ι' (.lit u) c:=by
 cases h with|lit h=>exact .lit h
omit [Zb]in
theorem ll :∀{xs:List AT},AT.scal.scals xs=true->∀x∈xs,x.scal=true
 |[],_,x,hx=>by simp at hx
 | y :: xs, h, x, hx => by
  simp only[AT.scal.scals,bA]at h;rcases List.mem_cons.1 hx with rfl|hx
  ·exact h.1
  ·exact ll h.2 x hx
theorem CQ {ρ0:Rho} {H0:List Ob} {v:AT} {av:AV} (h:ATR ρ0 H0 v av) (hs:v.scal=true):∀ι I w ι' I' w' c,Abs.AR ι I w av c->Abs.AR ι' I' w' av c:=by
 induction h with
 | one k =>
  obtain⟨u,rfl⟩:=vI (by simpa [AT.scal]using hs) k;intro ι I w ι' I' w' c hc;cases hc with|one hc=>exact .one (Af hc)
 | @agg cs vs k =>
  intro ι I w ι' I' w' c hc;have hs:cs.all scal=true:=by simpa [AT.scal]using hs
  cases hc with
  | agg hl hcs hr =>
   refine .agg hl hcs (λj hj=> ?_);have hj':j<cs.length:=by rw[k.1];exact hj
   obtain⟨u,e⟩:=vI (aT.1 hs _ (gM hj')) (k.2 j hj' hj);have:=hr j hj;rw[e]at this ⊢;exact Af this
 | @tup xs ys hl hr ih=>
  intro ι I w ι' I' w' c hc;have hs:=ll (by simpa [AT.scal]using hs:AT.scal.scals xs=true);cases hc with
  |tup hl' hcs hr'=>exact .tup hl' hcs (λj hj=>ih j (by omega) hj (hs _ (gM (by omega))) _ _ _ _ _ _ _ (hr' j hj))
omit [Zb]in
theorem CR.up {ρ0:Rho} {H0:List Ob} {c:C} {v:V} (hf:fE c=true) (h:CR ρ0 H0 c v):CR ρ H c v:=by
 cases c<;>simp only[fE,reduceCtorEq]at hf<;>(cases h with|fl h=>exact .fl h)
omit [Zb]in
theorem pE :∀{xs:List AT},AT.flat.flatA xs=true->∀x∈xs,x.flat=true
 |[],_,x,hx=>by simp at hx
 | y :: xs, h, x, hx => by
  simp only[AT.flat.flatA,bA]at h;rcases List.mem_cons.1 hx with rfl|hx
  ·exact h.1
  ·exact pE h.2 x hx
omit [Zb]in
theorem ATR.up {ρ0:Rho} {H0:List Ob} {v:AT} {av:AV} (h:ATR ρ0 H0 v av) (hf:v.flat=true):ATR ρ H v av:=by
 induction h with
 |one k=>exact .one (k.up (by simpa [AT.flat]using hf))
 | @agg cs vs k=>
  have hf:cs.all fE=true:=by simpa [AT.flat]using hf
  exact .agg ⟨k.1,λj h1 h2=>(k.2 j h1 h2).up (aT.1 hf _ (gM h1))⟩
 | @tup xs ys hl hr ih=>
  have hf:=pE (by simpa [AT.flat]using hf:AT.flat.flatA xs=true);exact .tup hl (λj h1 h2=>ih j h1 h2 (hf _ (gM h1)))
theorem rz {c c':C} {v:V} (hp:kN [] c=some c') (hc:CR ρ H c v):∃v',CR [] [] c' v'/\v'.flat=true/\∀I w ι u,Abs.VR I w ι v u->Abs.VR I w ι v' u:=by
 cases c<;>simp only[kN,Option.some.injEq,reduceCtorEq,List.getElem?_nil]at hp
 ·subst hp;cases hc.int;exact⟨_,.fl .i,rfl,λ_ _ _ _ h=>h⟩
 ·subst hp;cases hc.kint;exact⟨_,.fl .k,rfl,λ_ _ _ _ h=>h⟩
 ·subst hp;cases hc.bool;exact⟨_,.fl .b,rfl,λ_ _ _ _ h=>h⟩
 ·subst hp;cases hc.str;exact⟨_,.fl .s,rfl,λ_ _ _ _ h=>h⟩
 ·subst hp;obtain⟨es,rfl,h4⟩:=hc.list;exact⟨_,.fl h4,rfl,λ_ _ _ _ h=>h⟩
 ·subst hp;cases hc with
  |fl h=>cases h
  |lc k=>exact⟨_,.fl k,rfl,λ_ _ _ _ h=>VR.immc_imm h⟩
 ·subst hp;cases hc with
  |fl h=>cases h
  |nil k=>exact⟨_,.fl (.nil_ k),rfl,λ_ _ _ _ hv=>by cases hv;exact .imm0 (Nat.zero_le _)⟩
 ·subst hp;cases hc with
  |fl h=>cases h
  |zs=>exact⟨_,.zs,rfl,λ_ _ _ _ h=>h⟩
theorem iT :∀{cs ds:List C} {vs:List V},cU [] cs=some ds->CRs ρ H cs vs->∃us,CRs [] [] ds us/\us.all V.flat=true/\vs.length=us.length/\∀(j:Nat) (h1:j<vs.length) (h2:j<us.length),∀I w ι u,Abs.VR I w ι vs[j] u->Abs.VR I w ι us[j] u
 | [], ds, vs, hp, hc => by
  cases hp;have:=hc.1;cases vs with
  |nil=>exact⟨[],.nil_,rfl,rfl,λj h=>by simp at h⟩
  |cons _ _=>simp at this
 | c :: cs, ds, vs, hp, hc => by
  simp only[cU]at hp;split at hp
  ·rename_i d' ds' h1 h2;cases hp;cases vs with
   |nil=>have:=hc.1;simp at this
   | cons v vs =>
    obtain⟨u,k1,k2,k3⟩:=rz h1 (hc.2 0 (by simp) (by simp));obtain⟨us,m1,m2,m3,m4⟩:=iT h2 (vs:=vs) ⟨by have:=hc.1;simpa using this,λj a b=>hc.2 (j+1) (by simpa using a) (by simpa using b)⟩;refine⟨u::us,.cons k1 m1,by simp[k2,m2],by simp[m3],λj a b=> ?_⟩;cases j with
    |zero=>exact k3
    |succ j=>exact m4 j (by simpa using a) (by simpa using b)
  ·cases hp
theorem oC {x y:AT} {av:AV} (hp:fj [] x=some y) (hr:ATR ρ H x av):∃bv,ATR [] [] y bv/\bv.flat=true/\∀ι I w u,Abs.AR ι I w av u->Abs.AR ι I w bv u:=by
 cases hr with
 | @one c v k=>
  simp only[fj,Option.map_eq_some_iff]at hp;obtain⟨c',h1,rfl⟩:=hp;obtain⟨v',k1,k2,k3⟩:=rz h1 k;exact⟨_,.one k1,k2,λι I w u hu=>by cases hu with|one hu=>exact .one (k3 I w ι u hu)⟩
 | @agg cs vs k=>
  simp only[fj,Option.map_eq_some_iff]at hp;obtain⟨ds,h1,rfl⟩:=hp;obtain⟨us,k1,k2,k3,k4⟩:=iT h1 k;refine⟨_,.agg k1,k2,λι I w u hu=> ?_⟩;cases hu with
  |agg hl hcs hr=>exact .agg (by rw[hl,k3]) (λj hj=>hcs j (by omega)) (λj hj=>k4 j (by omega) hj I w ι _ (hr j (by omega)))
 |tup _ _=>cases hp
end
end
open Abs (V AV Env ag ar)
section
variable [Zb]
def cR (F:In) (H:List Ob) (ρ:Rho) (dst:Option Nat) (L:Env) (v:AT) (H':List Ob):Env->ag->Prop:=λL2 h2=>∃ρ' av,L2=Abs.bindD dst av L/\ATR ρ' H' v av/\HpR ρ' H' h2/\Ev ρ H ρ' H'/\Fr F ρ' H' h2
def cq (P:Program) (o:Oper) (E:Abs.Cx) (F:In) (D:List (Nat×AT)) (H:List Ob) (v:AT) (H':List Ob):Prop:=
 ∀ρ L h,EncL ρ H D L->HpR ρ H h->Fr F ρ H h->ar P o E (cR F H ρ o.dst L v H') L h
section
variable {P : Program} {E : Abs.Cx} {F : In} {ρ : Rho} {H : List Ob} {h : ag} {L : Env} {o : Oper}
theorem ku {K K':Env->ag->Prop} (hh:ar P o E K L h) (hk:∀L2 h2,K L2 h2->K' L2 h2):ar P o E K' L h:=
 ⟨λLf ι I a w r=>Abs.iM (λ_ _ ⟨_,_,ι',I',k,r'⟩=>⟨_,_,ι',I',hk _ _ k,r'⟩) (λ_ _ _ f=>f) (hh.get Lf ι I a w r)⟩
theorem kC {K K':Env->ag->Prop} (hh:ar P o E K L h) (hk:∀L2 h2,K L2 h2->∃L3 h3,K' L3 h3/\∀Lf,Abs.Shift (L2++Lf) h2 (L3++Lf) h3):ar P o E K' L h:=
 ⟨λLf ι I a w r=>Abs.iM (λa' w' ⟨_,_,ι',I',k,r'⟩=>let⟨L3,h3,k',sh⟩:=hk _ _ k;let⟨I2,r2⟩:=(sh Lf).get E ι' I' a' w' r';⟨L3,h3,ι',I2,k',r2⟩) (λ_ _ _ f=>f) (hh.get Lf ι I a w r)⟩
theorem zW {D:List (Nat×AT)} {v:AT} (hh:∀ρ L h,EncL ρ H D L->HpR ρ H h->bp P o E ρ H L h v):cq P o E F D H v H:=λρ L h hs hp hf=>by
 obtain⟨av,h1,h2⟩:=hh ρ L h hs hp;exact ku h2 λL2 h2 ⟨e1,e2⟩=>⟨ρ,av,e1,h1,e2▸hp,Ev.refl _ _,e2▸hf⟩
omit [Zb]in
theorem bX {α:Type} {l:List α} {x y:α} {id:Nat} (h:(l++[x])[id]? =some y):(id<l.length/\l[id]? =some y)\/(id=l.length/\x=y):=by
 rcases Nat.lt_trichotomy id l.length with h1|h1|h1
 ·rw[aL h1]at h;exact .inl ⟨h1,h⟩
 ·subst h1;simp at h;exact .inr ⟨rfl,h⟩
 ·rw[List.getElem?_eq_none (by simp;omega)]at h;cases h
omit [Zb]in
theorem cw {α:Type} {l:List α} {x y:α} {id:Nat} (h:l[id]? =some y):(l++[x])[id]? =some y:=by
 rw[aL (gI.1 h).1];exact h
omit [Zb]in
theorem Ev.push (x:Option Nat) (y:Ob):Ev ρ H (ρ++[x]) (H++[y]):=⟨λ_ _ h=>cw h,λ_ x h=>⟨x,cw h,evo.refl x⟩⟩
def obR (ρ:Rho) (H:List Ob):Ob->Option Abs.Ob->Prop
 | .row T _ xs,y=>∃es,y=some (.row (szT T) es)/\FR (.l T xs) (.imm (szT T) es)
 | .box cs,y=>∃vs:List V,y=some (.row vs.length [vs])/\CRs ρ H cs vs
 | .map T kvs,y=>∃ws,y=some (.map ws)/\kvs.length=ws.length/\0<szT T/\∀(j:Nat) (h1:j<kvs.length) (h2:j<ws.length),kvs[j].1=ws[j].1/\FRs (ah T kvs[j].2) ws[j].2
 | .gone,_=>True
 | .rows _ _ _,_=>True
omit [Zb]in
theorem obR.mono {ρ ρ':Rho} {H H':List Ob} (e:Ev ρ H ρ' H') {x:Ob} {y:Option Abs.Ob} (h:obR ρ H x y):obR ρ' H' x y:=by
 cases x with
 |box cs=>obtain⟨vs,h1,h2⟩:=h;exact⟨vs,h1,h2.mono e⟩
 |row T n xs=>exact h
 |map T kvs=>exact h
 |gone=>trivial
 |rows T xss ho=>trivial
omit [Zb]in
theorem HpR.mk' {ρ:Rho} {H:List Ob} {h:ag} (len:ρ.length=H.length) (ob:∀(id:Nat) (x:Ob),H[id]? =some x->(∃a y,ρ[id]? =some (some a)/\h[a]? =some y/\obR ρ H x y)\/(ρ[id]? =some none/\∃T n,x= .row T n []/\0<szT T)\/x.dead=true)
  (inj:∀(i j a:Nat),ρ[i]? =some (some a)->ρ[j]? =some (some a)->live H i->live H j->i=j) (lt:∀(i a:Nat),ρ[i]? =some (some a)->a<h.length):HpR ρ H h:=by
 refine⟨len,λid n T xs hx=> ?_,λid cs hx=> ?_,λid T kvs hx=> ?_,inj,lt⟩
 ·rcases ob id _ hx with⟨a,y,h1,h2,es,rfl,h4⟩|⟨h1,T',n',h2,h3⟩|h1
  ·exact .inl ⟨a,es,h1,h2,h4⟩
  ·cases h2;exact .inr ⟨h1,rfl,h3⟩
  ·cases h1
 ·rcases ob id _ hx with⟨a,y,h1,h2,vs,rfl,h4⟩|⟨h1,T',n',h2,h3⟩|h1
  ·exact⟨a,vs,h1,h2,h4⟩
  ·cases h2
  ·cases h1
 ·rcases ob id _ hx with⟨a,y,h1,h2,ws,rfl,h4⟩|⟨h1,T',n',h2,h3⟩|h1
  ·exact⟨a,ws,h1,h2,h4⟩
  ·cases h2
  ·cases h1
omit [Zb]in
theorem HpR.ob {ρ:Rho} {H:List Ob} {h:ag} (hp:HpR ρ H h) {id:Nat} {x:Ob} (hx:H[id]? =some x):(∃a y,ρ[id]? =some (some a)/\h[a]? =some y/\obR ρ H x y)\/(ρ[id]? =some none/\∃T n,x= .row T n []/\0<szT T)\/x.dead=true:=by
 cases x with
 | row T n xs =>
  rcases hp.row id n T xs hx with⟨a,es,h1,h2,h3⟩|⟨h1,rfl,h3⟩
  ·exact .inl ⟨a,_,h1,h2,es,rfl,h3⟩
  ·exact .inr (.inl ⟨h1,T,n,rfl,h3⟩)
 |box cs=>obtain⟨a,vs,h1,h2,h3⟩:=hp.box id cs hx;exact .inl ⟨a,_,h1,h2,vs,rfl,h3⟩
 |map T kvs=>obtain⟨a,ws,h1,h2,h3⟩:=hp.map id T kvs hx;exact .inl ⟨a,_,h1,h2,ws,rfl,h3⟩
 |gone=>exact .inr (.inr rfl)
 |rows T xss ho=>exact .inr (.inr rfl)
omit [Zb]in
theorem li {H:List Ob} {x:Ob} {i:Nat} (h:live (H++[x]) i) (hi:i<H.length):live H i:=by
 obtain⟨y,h1,h2⟩:=h;rw[aL hi]at h1;exact⟨y,h1,h2⟩
omit [Zb]in
theorem HpR.push (hp:HpR ρ H h) {x:Ob} {y:Option Abs.Ob} (hx:obR (ρ++[some h.length]) (H++[x]) x y):HpR (ρ++[some h.length]) (H++[x]) (h++[y]):=by
 refine HpR.mk' (by simp[hp.len]) (λid z hz=> ?_) (λi j a h1 h2 l1 l2=> ?_) (λi a h1=> ?_)
 ·rcases bX       hz with⟨_,h1⟩|⟨rfl,rfl⟩
  ·rcases hp.ob h1 with⟨a,y',k1,k2,k3⟩|⟨k1,k2⟩|k1
   ·exact .inl ⟨a,y',cw k1,cw k2,k3.mono (Ev.push _ _)⟩
   ·exact .inr (.inl ⟨cw k1,k2⟩)
   ·exact .inr (.inr k1)
  ·refine .inl ⟨h.length,y,?_,by simp,hx⟩;rw[<-hp.len];simp
 ·rcases bX       h1 with⟨_,k1⟩|⟨e1,k1⟩<;>rcases bX       h2 with⟨_,k2⟩|⟨e2,k2⟩
  ·exact hp.inj i j a k1 k2 (li l1 (by rw[<-hp.len];assumption)) (li l2 (by rw[<-hp.len];assumption))
  ·cases k2;have:=hp.lt _ _ k1;omega
  ·cases k1;have:=hp.lt _ _ k2;omega
  ·omega
 ·rcases bX       h1 with⟨_,k1⟩|⟨e1,k1⟩
  ·have:=hp.lt _ _ k1;simp;omega
  ·cases k1;simp
omit [Zb]in
theorem HpR.nilRow (hp:HpR ρ H h) {T:Ty} (hT:0<szT T):HpR (ρ++[none]) (H++[.row T 0 []]) h:=by
 refine HpR.mk' (by simp[hp.len]) (λid z hz=> ?_) (λi j a h1 h2 l1 l2=> ?_) (λi a h1=> ?_)
 ·rcases bX       hz with⟨_,h1⟩|⟨rfl,rfl⟩
  ·rcases hp.ob h1 with⟨a,y',k1,k2,k3⟩|⟨k1,k2⟩|k1
   ·exact .inl ⟨a,y',cw k1,k2,k3.mono (Ev.push _ _)⟩
   ·exact .inr (.inl ⟨cw k1,k2⟩)
   ·exact .inr (.inr k1)
  ·refine .inr (.inl ⟨?_,T,0,rfl,hT⟩);rw[<-hp.len];simp
 ·rcases bX h1 with⟨_,k1⟩|⟨e1,k1⟩<;>rcases bX h2 with⟨_,k2⟩|⟨e2,k2⟩<;>first|exact hp.inj i j a k1 k2 (li l1 (by rw[<-hp.len];assumption)) (li l2 (by rw[<-hp.len];assumption))|(cases k2;done)|(cases k1;done)
 ·rcases bX       h1 with⟨_,k1⟩|⟨e1,k1⟩
  ·exact hp.lt _ _ k1
  ·cases k1
omit [Zb]in
theorem fD {α:Type} {l:List α} {i j:Nat} {x y:α} (h:(l.set i x)[j]? =some y):(j=i/\x=y/\i<l.length)\/(j≠i/\l[j]? =some y):=by
 by_cases e:j=i
 ·subst e;have hl:=(gI.1 h).1;simp at hl;rw[sS hl]at h;cases h;exact .inl ⟨rfl,rfl,hl⟩
 ·rw[sN (λx=>e x.symm)]at h;exact .inr ⟨e,h⟩
omit [Zb]in
theorem Ev.set {id:Nat} {x0 x:Ob} (h0:H[id]? =some x0) (he:evo x0 x):Ev ρ H ρ (H.set id x):=⟨λ_ _ h=>h,λj z hz=>by
 by_cases e:j=id
 ·subst e;rw[h0]at hz;cases hz;exact⟨x,sS (gI.1 h0).1,he⟩
 ·exact⟨z,by rw[sN (λx=>e x.symm)];exact hz,evo.refl z⟩⟩
omit [Zb]in
theorem HpR.set (hp:HpR ρ H h) {id a:Nat} {x0 x:Ob} {y:Option Abs.Ob} (hρ:ρ[id]? =some (some a)) (h0:H[id]? =some x0) (hn0:x0.dead=false) (he:evo x0 x) (hx:obR ρ (H.set id x) x y):HpR ρ (H.set id x) (h.set a y):=by
 have hev:Ev ρ H ρ (H.set id x):=Ev.set h0 he;have hlv:∀{i:Nat},live (H.set id x) i->live H i:=λ{i} l=>hev.lv (by simpa using l.lt) l
 refine HpR.mk' (by simp[hp.len]) (λj z hz=> ?_) (λi j a k1 k2 l1 l2=>hp.inj i j a k1 k2 (hlv l1) (hlv l2)) (λi b h1=>by rw[List.length_set];exact hp.lt _ _ h1);rcases fD hz with⟨rfl,rfl,_⟩|⟨hne,h1⟩
 ·exact .inl ⟨a,y,hρ,sS (hp.lt _ _ hρ),hx⟩
 ·rcases hp.ob h1 with⟨b,y',k1,k2,k3⟩|⟨k1,k2⟩|k1
  ·by_cases hz0:z.dead=true
   ·exact .inr (.inr hz0)
   have hz0:z.dead=false:=by simpa using hz0
   refine .inl ⟨b,y',k1,?_,k3.mono hev⟩;rw[sN (λe=>hne (hp.inj _ _ b k1 (by rw[<-e];exact hρ) ⟨_,h1,hz0⟩ ⟨_,h0,hn0⟩))];exact k2
  ·exact .inr (.inl ⟨k1,k2⟩)
  ·exact .inr (.inr k1)
omit [Zb]in
theorem Fr.step {H':List Ob} {ρ':Rho} {h':ag} (hf:Fr F ρ H h) (he:Ev ρ H ρ' H') (hl:h.length<=h'.length) (hn:∀(id a:Nat),ρ'[id]? =some (some a)->live H' id->(∃id0,ρ[id0]? =some (some a)/\live H id0)\/h.length<=a)
  (hs:∀(a:Nat),a<h.length->(∀(id:Nat),ρ[id]? =some (some a)->¬live H id)->h'[a]? =h[a]?):Fr F ρ' H' h' where
 len:=Nat.le_trans hf.len hl
 old:=λid a h1 hl1 h2=>by
  rcases hn id a h1 hl1 with⟨id0,k,l⟩|k
  ·exact hf.old id0 a k l h2
  ·have:=hf.len;omega
 same:=λa h1 h2=>by
  rw[hs a (by have:=hf.len;omega) (λid hid l=>let⟨id0,k1,k2⟩:=hf.old id a hid l h1;h2 id0 k1 k2)];exact hf.same a h1 h2
 rho:=λid x h1=>he.rho _ _ (hf.rho id x h1)
 ob:=λid x h1=>by
  obtain⟨y,k1,k2⟩:=hf.ob id x h1;obtain⟨z,k3,k4⟩:=he.ob id y k1;exact⟨z,k3,k4.old k2⟩
omit [Zb]in
theorem Fr.push (hl:ρ.length=H.length) (hf:Fr F ρ H h) (x:Ob) (y:Option Abs.Ob):Fr F (ρ++[some h.length]) (H++[x]) (h++[y]):=
 hf.step (Ev.push _ _) (by simp) (λid a h1 l=>by rcases bX h1 with⟨hi,k⟩|⟨_,k⟩;exact .inl ⟨id,k,li l (by rw[<-hl];exact hi)⟩;cases k;exact .inr (Nat.le_refl _)) (λa h1 _=>aL h1)
omit [Zb]in
theorem Fr.nilRow (hl:ρ.length=H.length) (hf:Fr F ρ H h) (x:Ob):Fr F (ρ++[none]) (H++[x]) h:=
 hf.step (Ev.push _ _) (Nat.le_refl _) (λid a h1 l=>by rcases bX h1 with⟨hi,k⟩|⟨_,k⟩;exact .inl ⟨id,k,li l (by rw[<-hl];exact hi)⟩;cases k) (λa h1 _=>rfl)
omit [Zb]in
theorem Fr.set (hf:Fr F ρ H h) {id a:Nat} {x0 x:Ob} {y:Option Abs.Ob} (hρ:ρ[id]? =some (some a)) (h0:H[id]? =some x0) (hn0:x0.dead=false) (he:evo x0 x):Fr F ρ (H.set id x) (h.set a y):=
 hf.step (Ev.set h0 he) (by simp) (λid a h1 l=>.inl ⟨id,h1,(Ev.set (ρ:=ρ) h0 he).lv (by simpa using l.lt) l⟩) (λb h1 h2=>sN (λe=>h2 id (by rw[<-e];exact hρ) ⟨_,h0,hn0⟩))
omit [Zb]in
theorem Ev.trans {ρ1 ρ2:Rho} {H1 H2:List Ob} (a:Ev ρ H ρ1 H1) (b:Ev ρ1 H1 ρ2 H2):Ev ρ H ρ2 H2:=⟨λ_ _ h=>b.rho _ _ (a.rho _ _ h),λid x h=>by
 obtain⟨y,k1,k2⟩:=a.ob id x h;obtain⟨z,k3,k4⟩:=b.ob id y k1;exact⟨z,k3,k2.trans k4⟩⟩
omit [Zb]in
theorem Fr.refl (ρ:Rho) (H:List Ob) (h:ag):Fr ⟨h,ρ,H⟩ ρ H h:=⟨Nat.le_refl _,λid _ h l _=>⟨id,h,l⟩,λ_ _ _=>rfl,λ_ _ h=>h,λ_ x h=>⟨x,h,evo0.refl x⟩⟩
omit [Zb]in
theorem Fr.trans {ρ':Rho} {H':List Ob} {h':ag} (a:Fr F ρ H h) (b:Fr ⟨h,ρ,H⟩ ρ' H' h'):Fr F ρ' H' h' where
 len:=Nat.le_trans a.len b.len
 old:=λid x h1 h2 h3=>by
  obtain⟨id0,k1,k2⟩:=b.old id x h1 h2 (Nat.lt_of_lt_of_le h3 a.len);exact a.old id0 x k1 k2 h3
 same:=λx h1 h2=>by
  rw[b.same x (Nat.lt_of_lt_of_le h1 a.len) (λid k l=>let⟨id0,k1,k2⟩:=a.old id x k l h1;h2 id0 k1 k2)];exact a.same x h1 h2
 rho:=λid x h1=>b.rho _ _ (a.rho _ _ h1)
 ob:=λid x h1=>by
  obtain⟨y,k1,k2⟩:=a.ob id x h1;obtain⟨z,k3,k4⟩:=b.ob id y k1;exact⟨z,k3,k2.trans k4⟩
def RowsSame (H H':List Ob):Prop:=∀(id:Nat) (y:Ob),H'[id]? =some y->y.isRows=true->H[id]? =some y
omit [Zb]in
theorem RowsSame.refl (H:List Ob):RowsSame H H:=λ_ _ h _=>h
omit [Zb]in
theorem RowsSame.trans {H1 H2 H3:List Ob} (a:RowsSame H1 H2) (b:RowsSame H2 H3):RowsSame H1 H3:=λid y h hr=>a id y (b id y h hr) hr
omit [Zb]in
theorem XR.keep {ρ':Rho} {H':List Ob} {h':ag} (hx:XR F ρ H h) (hf:Fr ⟨h,ρ,H⟩ ρ' H' h') (hs:RowsSame H H'):XR F ρ' H' h':=λid T xss ho hr=>by
 obtain⟨u,a,es,X⟩:=hx id T xss ho (hs id _ hr rfl);have nl:∀b,b<h.length->gS ρ H b->gS ρ' H' b:=λb hb hn j hj hl=>by
  obtain⟨id0,k1,k2⟩:=hf.old j b hj hl hb;exact hn id0 k1 k2
 have same:∀b,b<h.length->gS ρ H b->h'[b]? =h[b]? :=λb hb hn=>hf.same b hb λid k=>hn id k;have ha:a<h.length:=(gI.1 X.main).1;have hlen:=hf.len;refine⟨λid' y hy hr'=>u id' y (hs id' y hy hr') hr',a,es,hf.rho _ _ X.rho,by rw[same a ha X.nl];exact X.main,X.len,X.pos,X.one,nl a ha X.nl,X.old,X.new,λk xs e h1 h2 h3=> ?_,λk b n h1 h2=> ?_,X.inj⟩
 ·rcases X.sub k xs e h1 h2 h3 with l|⟨b,es',rfl,g1,g2⟩
  ·exact .inl l
  ·obtain⟨_,g3,g4,_⟩:=X.subs k b _ h1 h3;exact .inr ⟨b,es',rfl,by rw[same b g3 g4];exact g1,g2⟩
 ·obtain⟨g1,g2,g3,g4⟩:=X.subs k b n h1 h2;exact⟨g1,Nat.lt_of_lt_of_le g2 hlen,nl b g2 g3,g4⟩
omit [Zb]in
theorem XR.none_ (h0:∀(id:Nat) (y:Ob),H[id]? =some y->y.isRows=false):XR F ρ H h:=λid T xss ho hr=>by
 have:=h0 id _ hr;cases this
end
end
end Go.Proofs.YtfdkldmkbibknaaGreat.Den

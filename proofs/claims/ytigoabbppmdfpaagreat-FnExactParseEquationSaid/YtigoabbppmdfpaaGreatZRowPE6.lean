/- merged -/
import Derived.Laws.BytesString
import Derived.Deep.Upon
import Derived.Test.YtigoabbppmdfpaaGreatZRowPE1
import Derived.Test.YtigoabbppmdfpaaGreatZRowPE2
import Derived.Test.YtigoabbppmdfpaaGreatZRowPE3
import Derived.Test.YtigoabbppmdfpaaGreatZRowPE4
import Derived.Test.YtigoabbppmdfpaaGreatZRowPE5

namespace Go.Proofs.YtigoabbppmdfpaaGreat.Abs
open Go.RowKit
section
variable {P : Program} {E : Cx} {K : Env → aD → Prop} {L : Env} {h h0 l : aD} {d n : Nat} {ty : TypeId} {pos : String} {af : Array Edge} {gd : Y (Nat × Bool)} {tb : Tbl} {o : Oper}
theorem VR.clipCap{I:Nat->Prop}{w:World}{ι:RV Inf}{s:Nat}{es:RV (RV V)}{A:Y Addr}{n c:Nat}(h:VR I w ι (.gk s es) (.slice A n c)):c=es.length:=by
 cases h with
 |kA=>rfl
 |gk _ _ _ _ _=>rfl
theorem Ac(N:cV P tb){t Y:TypeId}{x y:Operand}{s:Nat}{es v:RV (RV V)}{D:ElI}(hx:ev L x=some (.one (.gk s es)))(he:gb tb t=some D)(hne:D.zero≠[])(hz:D.zero.length=D.size)(hs:D.size=s)
  (G:po P E L h s Y y v) (hm0:0<v.length) (O:es.length+v.length<=4294967296) (H:Nat.ble D.bytes 4096=true) (hn:d<E.n)
  (hk:K ((d,.one (.own h.length 0 (es.length+v.length)))::L) (h++[some (.row s (es++v))])):ar P ⟨some d,.call ⟨.builtin .append,#[x,y],#[t,Y]⟩,ty,pos,af,gd⟩ E K L h:=by
 refine j8 rfl hn (λLf ι I a w rF r=> ?_) hk;have H:=NX H
 obtain⟨C,z,g1,g2,g3,g4,g5⟩:=oO N he hne hz;obtain⟨u1,u2,_⟩:=bL N he;obtain⟨B,Q,R,S⟩:=G ι I a w r;have J:Src P C.size Y (a.eval y) v.length B w:=by rw[g4,hs];exact Q
 have hnl:B.length=v.length*s:=by rw[R.1,ce S]
 have M:=(r.ev hx).aY;obtain⟨A,cap,cs,hc,h1,h2,h3,h4,Z,h6⟩:=sx (s:=s) (es:=es) r M (by simp[gV]);rw[hc]at M;have hcap:=M.clipCap;have T:(Builtin.firstCells C.size es.length (.slice A es.length cap)).run P w.drew= .ok cs.toArray w.drew:=by
  cases A with
  | none=>
   have:cs=[]:=by
    rcases h6 with rfl|⟨b,off,hA,_⟩
    .exact nZ (by simpa using Z)
    .cases hA
   subst this;exact run_firstCells_none w.drew _ _ _ _
  | some ad=>
   refine run_firstCells_some w.drew _ _ _ _ _ cs (by rw[Z,g4,hs]) (λj u hu=> ?_);rcases h6 with rfl|⟨b,off,hA,h7⟩
   .have:cs=[]:=nZ (by simpa using Z);subst this;simp at hu
   .cases hA;rw[dd];exact h7 j u hu
 have hnc:=Room.nextslicecap_le' (need:=es.length+v.length) (old:=cap) A1;have U:Builtin.nextslicecap (es.length+v.length) cap*C.bytes<=281474976710656:=by
  rw[g5];exact NS (Nat.mul_le_mul (NS hnc (Nat.mul_le_mul_left 2 O)) H) D2
 have F:=run_append_grow_src (P:=P) w t Y ty D.t C z u1 g1 g2 A es.length cap cs T (a.eval y) v.length B J A1 A1 U;obtain⟨gc,W⟩:∃gc,gc=grownCap w (es.length+v.length) cap D.t:=⟨_,rfl⟩;rw[<-W]at F;have hg1:es.length+v.length<=gc:=W▸grownCap_ge w _ _ _;have X:gc<=9223372036854775807:=by
  have:=grownCap_le_maxLen w (es.length+v.length) cap D.t (by unfold maxLen;omega);unfold maxLen at this;omega
 have hzs:z.cells.size=s:=by rw[<-hs,<-hz,<-g3];simp
 have hr2:=(rF.drew).new ((cs++B).toArray++Builtin.zeroCells z.cells (gc-(es.length+v.length))) D.t s gc (es++v) (by
   rw[Array.size_append,size_zeroCells,Pj,N8,Z,hnl,hzs,<-O9,<-O9];congr 1;omega) X D5 (λe he=>by
   rcases List.mem_append.1 he with he|he
   .exact h3 e he
   .exact S e he) (cs:=cs++B) (rest:=(Builtin.zeroCells z.cells (gc-(es.length+v.length))).toList) C3 (by
   rw[PF];exact(h4.append R).aB (bn.refl _) (oX I w))
 refine⟨.slice (some ⟨w.heap.size,0,none⟩) (es.length+v.length) gc,_,_,_,?_,hr2,?_⟩
 .rw[eK,hc,F];rfl
 .refine .one ?_;have hi:(ι++[(⟨w.heap.size,0,gc,s⟩:Inf)])[h.length]? =some ⟨w.heap.size,0,gc,s⟩:=Ib
  simpa using VR.own (off:=0) (len:=es.length+v.length) (c:=gc) hi hg1 C3 X
theorem VR.clip{I:Nat->Prop}{w:World}{ι:RV Inf}{s:Nat}{es:RV (RV V)}{A:Y Addr}{c:Nat}(h:VR I w ι (.imm s es) (.slice A es.length c)):VR I w ι (.gk s es) (.slice (if es.length=0 then A else A.map (·.add (0*s))) (es.length-0) (es.length-0)):=by
 by_cases h0:es.length=0
 .have:es=[]:=nZ h0;subst this;exact .kA
 .rw[N3 h0];cases h with
  |dC=>simp at h0
  | imm hs hc hm j d hr t=>
   simp only[OG,dd,PM,OD,Nat.sub_zero];exact .gk hs A1 j d hr t
theorem KK(j:cV P tb){t:TypeId}{x hi v:Operand}{s:Nat}{es:RV (RV V)}{y:ElI}{kh B:IntKind}(hx:ev L x=some (.one (.imm s es)))(he:gb tb t=some y)(hs:y.size=s)(hpos:0<s)(F:ev L hi=some (.one (.lit (.int kh es.length))))(hm:ev L v=some (.one (.lit (.int B es.length))))(G:d<E.n)
  (hk:K ((d,.one (.gk s es))::L) h):ar P ⟨some d,.slice t x none (some hi) (some v),ty,pos,af,gd⟩ E K L h:=
 bE rfl G (λι I a w r=>by
  obtain⟨A,cap,C,g1,J⟩:=(r.ev hx).aY.mA;have D:=(r.ev hx).aY;rw[C]at D;obtain⟨u1,u2,_⟩:=bL j he;obtain⟨H,_⟩:=(r.ev F).lit;obtain⟨em,_⟩:=(r.ev hm).lit;have hb:(Instr.sliceBounds true es.length cap none (some (.int kh es.length)) (some (.int B es.length))).run P w= .ok (0,es.length,es.length) w:=by
   simp[Instr.sliceBounds,Instr.sliceBound,asIntOf,g1]
  refine⟨_,?_,.one D.clip⟩;simp[execOp,Instr.sliceAt,Instr.slice,C,H,em,run_underlying u1,hb,cd u2 A1,hs]) hk
theorem Am(j:cV P tb){t:TypeId}{x hi v:Operand}{y:ElI}{kh A:IntKind}(hx:ev L x=some (.one (.lit (.slice none 0 0))))(he:gb tb t=some y)(hpos:0<y.size)(B:ev L hi=some (.one (.lit (.int kh 0))))(hm:ev L v=some (.one (.lit (.int A 0))))(C:d<E.n)
  (hk:K ((d,.one (.lit (.slice none 0 0)))::L) h):ar P ⟨some d,.slice t x none (some hi) (some v),ty,pos,af,gd⟩ E K L h:=
 bE rfl C (λι I a w r=>by
  obtain⟨D,_⟩:=(r.ev hx).lit;obtain⟨u1,u2,_⟩:=bL j he;obtain⟨F,_⟩:=(r.ev B).lit;obtain⟨em,_⟩:=(r.ev hm).lit;have hb:(Instr.sliceBounds true 0 0 none (some (.int kh 0)) (some (.int A 0))).run P w= .ok (0,0,0) w:=by
   simp[Instr.sliceBounds,Instr.sliceBound,asIntOf]
  refine⟨.slice none 0 0,?_,.one (.lit trivial)⟩;simp[execOp,Instr.sliceAt,Instr.slice,D,F,em,run_underlying u1,hb,cd u2 hpos]) hk
theorem Dx(zs:RV Int):∀r:Z,(zs.foldl (λr n=>r.push (UInt8.ofNat n.toNat)) r).size=r.size+zs.length:=by
 induction zs with
 |nil=>intro r;rfl
 |cons z zs d=>intro r;rw[OA,d,NU,ByteArray.size_push];omega
theorem wD(v:cV P tb){B dst:TypeId}{x:Operand}{zs:RV Int}{G:ElI}{j:TyI}(hx:ev L x=some (.one (.imm 1 (zs.map λn=>[V.lit (.int .u8 n)]))))(he:gb tb B=some G)(C:P.underlying G.t=some (.int .u8))(hd:tb.lookup dst=some j)(N:j.desc= .string)(O:d<E.n)
  (hk:K ((d,.one (.lit (.string (zs.foldl (λr n=>r.push (UInt8.ofNat n.toNat)) ByteArray.empty))))::L) h):ar P ⟨some d,.convert B dst x,ty,pos,af,gd⟩ E K L h:=
 bE     rfl O (λι I a w r=>by
  obtain⟨A,cap,cs,hc,h1,h2,Q,h4,R,t⟩:=sx (s:=1) (es:=zs.map λn=>[V.lit (.int .u8 n)]) r (r.ev hx).aY (by simp[gV]);obtain⟨u1,u2,_⟩:=bL v he;obtain⟨_,_,H,_⟩:=bV (v dst j hd);rw[N]at H;have D:(zs.map λn=>[V.lit (.int .u8 n)]).flatten=zs.map λn=>V.lit (.int .u8 n):=by
   clear hx hk hc h1 Q h4 R t
   induction zs with
   |nil=>rfl
   |cons z zs S=>rw[Ot,P4,S];rfl
  rw[D]at h4;have F:cs=zs.map (Value.int .u8):=by
   apply List.ext_getElem
   .rw[h4.1];simp
   .intro q q1 q2;obtain⟨u,v1,J⟩:=h4.2 q (by simpa using q2);rw[NY]at J;rw[gE q1]at v1;have v1:=Pc v1;rw[NY];generalize cs[q]=y at v1;subst v1;cases J;rfl
  refine⟨.string (zs.foldl (λr n=>r.push (UInt8.ofNat n.toNat)) ByteArray.empty),?_,.one (.lit ?_)⟩
  .rw [Ol] at hc;have key:(Conv.bytesToString (a.eval x)).run P w= .ok (.string (zs.foldl (λr n=>r.push (UInt8.ofNat n.toNat)) ByteArray.empty)) w:=by
    rw[hc];cases A with
    | none=>
     rcases t with t|⟨b,off,hA,_⟩
     .have:zs=[]:=N0
      subst this;simp[Conv.bytesToString]
     .cases hA
    | some M=>
     refine run_bytesToString w M _ cap zs ?_;have:=run_loadCells_list (P:=P) w M cs (λq u C=>by
      rcases t with t|⟨b,off,hA,T⟩
      .grind
      .cases hA;rw[dd];exact T q u C)
     rw[F,Ol]at this;exact this
   simp only[execOp,convert,Sem.run_bind,run_underlying u1,run_underlying H,Result.andThen_ok];rw[hc]at key ⊢;simp only[Sem.run_bind,run_underlying C,Result.andThen_ok,key,Sem.run_pure]
  .show (zs.foldl (λr n=>r.push (UInt8.ofNat n.toNat)) ByteArray.empty).size<=maxLen;rw[Dx];have:(ByteArray.empty).size=0:=rfl;simp at h1;unfold maxLen;omega) hk
end
end Go.Proofs.YtigoabbppmdfpaaGreat.Abs
namespace Go.Proofs.YtigoabbppmdfpaaGreat.Den
open Go.RowKit
section
inductive AT where
 |one (c:C)
 |agg (cs:List C)
 |tup (xs:List AT)
instance : Inhabited AT := ⟨.tup []⟩
inductive Ob where
 |row (T:Ty) (n:Nat) (xs:List (I T))
 |box (cs:List C)
 |map (T:Ty) (kvs:List (Z×I T))
 |aN
 |rows (T:Ty) (xss:List (List (I T))) (ho:Y Nat)
@[simp] def Ob.dead : Ob → Bool
 | .aN=>true
 | .rows _ _ _=>true
 |_=>false
def Ob.eR:Ob->Bool
 | .rows _ _ _=>true
 |_=>false
structure St where
 L:List (Nat×AT)
 H:List Ob
structure TI where
 size:Nat
 agg:Bool
 zero:List C
 fields:List (Nat×Nat×Nat)
 elem:Y Ty
 str:Bool
 i64:Bool
 bool:Bool
 kd:Y IntKind
 map:Y Ty
abbrev Kt(R:Type):=Exit->St->Y R
structure Orc where
 mode:Nat->Nat
 arg:Nat->Nat->Nat
 call:(R:Type)->Nat->List AT->List Ob->(AT->List Ob->Y R)->Y R
def qQ(v:Value):Y C:=bif Abs.de v then (match v with
 | .bool b=>some (.b b)
 | .int .i64 n=>some (.i n)
 | .int k n=>some (.k k n)
 | .string s=>some (.s s)
 | .slice none 0 0=>some .zs
 | .pointer none=>some .z
 | .map none=>some .z
 | .nilFunc=>some .z
 |_=>none)else none
def qm:RV Value->Y (RV C)
 |[]=>some []
 | v::vs=>match qQ v,qm vs with
  |some c,some cs=>some (c::cs)
  |_,_=>none
def H8:Value->Y AT
 | .agg cs=>(qm cs.toList).map .agg
 |v=>(qQ v).map .one
def ev(L:RV (Nat×AT)):Operand->Y AT
 | .tmp t=>L.lookup t
 | .const v=>H8 v
 | .func f=>some (.one (.f f []))
 |_=>none
def evs(L:RV (Nat×AT)):RV Operand->Y (RV AT)
 |[]=>some []
 | x::xs=>match ev L x,evs L xs with
  |some v,some vs=>some (v::vs)
  |_,_=>none
def ix{α:Type}(xs:RV α)(i:Int):Y α:=bif decide (0<=i)then xs[i.toNat]? else none
def lim{α:Type}(xs:RV α):Y (RV α):=bif Nat.ble xs.length 4294967296 then some xs else none
def mk{α:Type}(x:α)(n:Int):Y (RV α):=bif decide (0<=n)&&decide (n<=4294967296)then some (List.replicate n.toNat x)else none
def sub{α:Type}(xs:RV α)(lo hi:Int):Y (RV α):=bif decide (0<=lo)&&decide (lo<=hi)&&decide (hi<=(xs.length:Int))then some ((xs.take hi.toNat).drop lo.toNat)else none
def sIx(s:Z)(i:Int):Y Int:=bif decide (0<=i)then (match s[i.toNat]? with|some b=>some (b.toNat:Int)|none=>none)else none
def oD(s:Z)(lo hi:Int):Y Z:=bif decide (0<=lo)&&decide (lo<=hi)&&decide (hi<=(s.size:Int))then some (s.extract lo.toNat hi.toNat)else none
def dj(a b:Z):Y Z:=bif decide (a.size+b.size<=1099511627776)then some (a++b)else none
def sOf(xs:RV Int):Z:=xs.foldl (λr n=>r.push (UInt8.ofNat n.toNat)) ByteArray.empty
def ofS(s:Z):RV Int:=s.data.toList.map λb=>(b.toNat:Int)
def sEq(a b:Z):Bool:=decide (a=b)
def Ax{α:Type}:RV (Z×α)->Z->Y α
 |[],_=>none
 |(a,b)::rest,s=>if a=s then some b else Ax rest s
def rm{α:Type}(kvs:RV (Z×α))(s:Z)(z:α):α:=match Ax kvs s with|some x=>x|none=>z
def Kw{α:Type}(kvs:RV (Z×α))(s:Z):Bool:=(Ax kvs s).isSome
def oV(n a b:Int):Y Unit:=bif decide (a=n)&&decide (b=n)then some ()else none
def ja(a b:Int):Int:=if b<a then b else a
def lx(a b:Int):Int:=if a<b then b else a
def Mt{α:Type}(xs ys:RV α):Y (RV α):=match ys with
 |[]=>none
 |_::_=>lim (xs++ys)
def Eb:RV C->AT
 |[c]=>.one c
 |cs=>.agg cs
def Kf:IntKind->Int->C
 | .i64,a=>.i (IntKind.i64.wrap a)
 |k,a=>.k k (k.wrap a)
def ld(agg:Bool)(size:Nat)(cs:RV C):Y AT:=
 if agg then (if Nat.ble size cs.length then some (.agg (cs.take size))else none)else cs.head?.map .one
def cells:AT->Y (RV C)
 | .one c=>some [c]
 | .agg cs=>some cs
 |_=>none
def bp(cs:RV C)(off:Nat)(vs:RV C):RV C:=cs.take off++(vs++cs.drop (off+vs.length))
def C.fz(id:Nat)(T:Ty)(xs:RV (I T)):C->C
 | .o j=>if Nat.beq j id then .l T xs else .o j
 |c=>c
def AT.fz(id:Nat)(T:Ty)(xs:RV (I T)):AT->AT
 | .one c=>.one (c.fz id T xs)
 | .agg cs=>.agg (cs.map (C.fz id T xs))
 | .tup ys=>.tup ys
def Ob.fz(id:Nat)(T:Ty)(xs:RV (I T)):Ob->Ob
 | .box cs=>.box (cs.map (C.fz id T xs))
 |o=>o
def St.fz(id:Nat)(T:Ty)(xs:RV (I T))(st:St):St:=⟨st.L.map λp=>(p.1,p.2.fz id T xs),(st.H.set id .aN).map (Ob.fz id T xs)⟩
def cJ:RV Nat->St->St
 |[],st=>st
 | id::ids,st=>match st.H[id]? with
  |some (.row T _ xs)=>cJ ids (st.fz id T xs)
  |some (.rows T xss none)=>cJ ids (st.fz id (.sl T) xss)
  |_=>cJ ids st
def pf(H:RV Ob):C->Y C
 | .lc T xs=>some (.l T xs)
 | .nil T=>some (.l T [])
 | .o id=>match H[id]? with
  |some (.row T _ xs)=>some (.l T xs)
  |_=>none
 | .i x=>some (.i x)
 | .k kd x=>some (.k kd x)
 | .b x=>some (.b x)
 | .s x=>some (.s x)
 | .l T xs=>some (.l T xs)
 | .zs=>some .zs
 |_=>none
def eW(H:RV Ob):RV C->Y (RV C)
 |[]=>some []
 | c::cs=>match pf H c,eW H cs with
  |some d,some h=>some (d::h)
  |_,_=>none
def gX(H:RV Ob):AT->Y AT
 | .one c=>(pf H c).map .one
 | .agg cs=>(eW H cs).map .agg
 | .tup _=>none
def dD(H:RV Ob):RV AT->Y (RV AT)
 |[]=>some []
 | c::cs=>match gX H c,dD H cs with
  |some d,some h=>some (d::h)
  |_,_=>none
def iE:C->Bool
 | .i _| .k _ _| .b _| .s _| .l _ _=>true
 |_=>false
def AT.flat:AT->Bool
 | .one c=>iE c
 | .agg cs=>cs.all iE
 | .tup xs=>flatA xs
where flatA:RV AT->Bool
 |[]=>true
 |x::xs=>x.flat&&flatA xs
def gF:C->Bool
 | .i _| .k _ _| .b _| .s _=>true
 |_=>false
def AT.gF:AT->Bool
 | .one c=>Den.gF c
 | .agg cs=>cs.all Den.gF
 | .tup xs=>scals xs
where scals:RV AT->Bool
 |[]=>true
 |x::xs=>x.gF&&scals xs
variable {R : Type}
def Iu(op:BinOp)(a b:C):Y C:=match a,b with
 | .i x,.i y=>match op with
  | .add=>some (.i (IntKind.i64.wrap (x+y)))
  | .sub=>some (.i (IntKind.i64.wrap (x-y)))
  | .mul=>some (.i (IntKind.i64.wrap (x*y)))
  | .lss=>some (.b (decide (x<y)))
  | .leq=>some (.b (decide (x<=y)))
  | .gtr=>some (.b (decide (y<x)))
  | .geq=>some (.b (decide (y<=x)))
  | .eql=>some (.b (decide (x=y)))
  | .neq=>some (.b (!decide (x=y)))
  | .and=>some (.i (Abs.bi .and .i64 x y))
  | .or=>some (.i (Abs.bi .or .i64 x y))
  | .xor=>some (.i (Abs.bi .xor .i64 x y))
  | .andNot=>some (.i (Abs.bi .andNot .i64 x y))
  |_=>none
 | .b x,.b y=>match op with
  | .eql=>some (.b (x==y))
  | .neq=>some (.b (!(x==y)))
  |_=>none
 | .s x,.s y=>match op with
  | .eql=>some (.b (sEq x y))
  | .neq=>some (.b (!sEq x y))
  | .lss=>some (.b (Abs.eu x y))
  | .leq=>some (.b (Abs.eu x y||sEq x y))
  | .gtr=>some (.b (!(Abs.eu x y||sEq x y)))
  | .geq=>some (.b (!Abs.eu x y))
  |_=>none
 | .k kd x,.k d y=>match decide (kd=d)with
  | true=>match op with
   | .add=>some (.k kd (Abs.rJ .add kd x y))
   | .sub=>some (.k kd (Abs.rJ .sub kd x y))
   | .mul=>some (.k kd (Abs.rJ .mul kd x y))
   | .lss=>some (.b (decide (x<y)))
   | .leq=>some (.b (decide (x<=y)))
   | .gtr=>some (.b (decide (y<x)))
   | .geq=>some (.b (decide (y<=x)))
   | .eql=>some (.b (decide (x=y)))
   | .neq=>some (.b (!decide (x=y)))
   | .and=>some (.k kd (Abs.bi .and kd x y))
   | .or=>some (.k kd (Abs.bi .or kd x y))
   | .xor=>some (.k kd (Abs.bi .xor kd x y))
   | .andNot=>some (.k kd (Abs.bi .andNot kd x y))
   |_=>none
  |false=>none
 |_,_=>none
inductive Pl(X:Type) where
 |no
 |ret (x:X)
 |opt {α:Type} (m:Y α) (f:α->Y X)
def Pl.run{X:Type}(p:Pl X)(K:X->Y R):Y R:=match p with
 | .no=>none
 | .ret x=>K x
 | .opt m f=>m.bind λa=>match f a with
  |some x=>K x
  |none=>none
def IK(op:BinOp)(a b:C)(K:C->Y R):Y R:=match op,a,b with
 | .quo,.i x,.i y=>bif decide (0<=x)&&decide (0<y)then K (.i (x / y))else none
 | .rem,.i x,.i y=>bif decide (0<=x)&&decide (0<y)then K (.i (x%y))else none
 | .shl,.i x,.i y=>bif decide (0<=y)then K (.i (Abs.bi .shl .i64 x y))else none
 | .shr,.i x,.i y=>bif decide (0<=y)then K (.i (Abs.bi .shr .i64 x y))else none
 | .shl,.i x,.k _ y=>bif decide (0<=y)then K (.i (Abs.bi .shl .i64 x y))else none
 | .shr,.i x,.k _ y=>bif decide (0<=y)then K (.i (Abs.bi .shr .i64 x y))else none
 | .add,.s x,.s y=>bif decide (x.size+y.size<=1099511627776)then K (.s (x++y))else none
 | .shr,.k .u64 x,.k _ y=>bif decide (0<=y)then K (.k .u64 (Abs.bi .shr .u64 x y))else none
 | .shr,.k .u64 x,.i y=>bif decide (0<=y)then K (.k .u64 (Abs.bi .shr .u64 x y))else none
 | _,_,_=>match Iu op a b with
  |some c=>K c
  |none=>none
def Js(op:BinOp)(a b:C):Pl AT:=match op,a,b with
 | .quo,.i x,.i y=>.opt (bif decide (0<=x)&&decide (0<y)then some (x / y)else none) λq=>some (.one (.i q))
 | .rem,.i x,.i y=>.opt (bif decide (0<=x)&&decide (0<y)then some (x%y)else none) λq=>some (.one (.i q))
 | .shl,.i x,.i y=>.opt (bif decide (0<=y)then some (Abs.bi .shl .i64 x y)else none) λq=>some (.one (.i q))
 | .shr,.i x,.i y=>.opt (bif decide (0<=y)then some (Abs.bi .shr .i64 x y)else none) λq=>some (.one (.i q))
 | .shl,.i x,.k _ y=>.opt (bif decide (0<=y)then some (Abs.bi .shl .i64 x y)else none) λq=>some (.one (.i q))
 | .shr,.i x,.k _ y=>.opt (bif decide (0<=y)then some (Abs.bi .shr .i64 x y)else none) λq=>some (.one (.i q))
 | .add,.s x,.s y=>.opt (dj x y) λq=>some (.one (.s q))
 | .shr,.k .u64 x,.k _ y=>.opt (bif decide (0<=y)then some (Abs.bi .shr .u64 x y)else none) λq=>some (.one (.k .u64 q))
 | .shr,.k .u64 x,.i y=>.opt (bif decide (0<=y)then some (Abs.bi .shr .u64 x y)else none) λq=>some (.one (.k .u64 q))
 | _,_,_=>match Iu op a b with
  |some c=>.ret (.one c)
  |none=>.no
def AO(H:RV Ob):C->Y Int
 | .l _ xs=>some (xs.length:Int)
 | .lc _ xs=>some (xs.length:Int)
 | .nil _=>some 0
 | .zs=>some 0
 | .o id=>match H[id]? with
  |some (.row _ _ xs)=>some (xs.length:Int)
  |some (.rows _ xss _)=>some (xss.length:Int)
  |_=>none
 |_=>none
def jP{T d:Ty}(xs:RV (I d)):Y (RV (I T)):=if h:d=T then some (h▸xs)else none
def jx(H:RV Ob)(T:Ty)(c:C):Y (RV (I T)):=match pf H c with
 |some (.l _ xs)=>jP xs
 |_=>none
def wF(place:Nat->Y (Nat×Nat))(cs:RV C):RV (Nat×RV C)->Y (RV C)
 |[]=>some cs
 | (i,vs)::rest=>match place i with
  |some (off,size)=>if Nat.beq vs.length size&&Nat.ble (off+vs.length) cs.length then wF place (bp cs off vs) rest else none
  |none=>none
def cE(L:RV (Nat×AT)):RV (Nat×Operand)->Y (RV (Nat×RV C))
 |[]=>some []
 | (i,x)::rest=>match (ev L x).bind cells,cE L rest with
  |some vs,some d=>some ((i,vs)::d)
  |_,_=>none
def pX:RV C->RV C->RV C
 | .l T _::ts,.zs::cs=>.nil T::pX ts cs
 |_::ts,c::cs=>c::pX ts cs
 |_,cs=>cs
def fq(T:Ty)(z:I T):(len k:Nat)->RV (Nat×RV C)->Y (RV (I T))
 |0,_,[]=>some []
 |0,_,_::_=>none
 | n + 1,k,d=>match d with
  | (j, cs)::rest=>if Nat.beq j k then
    (match eW [] (pX (aG T z) cs)with
    | some h=>match iB T h,fq T z n (k+1) rest with
     |some x,some xs=>some (x::xs)
     |_,_=>none
    |none=>none)
   else (match fq T z n (k+1) d with
    |some xs=>some (z::xs)
    |none=>none)
  | []=>match fq T z n (k+1) []with
   |some xs=>some (z::xs)
   |none=>none
def Bi{T d:Ty}(xs:RV (Z×I d)):Y (RV (Z×I T)):=if h:d=T then some (h▸xs)else none
def ones:RV AT->Y (RV C)
 |[]=>some []
 | .one c::xs=>match ones xs with
  |some cs=>some (c::cs)
  |none=>none
 |_::_=>none
def vj(tb:Nat->Y TI)(op:Go.Op)(L:RV (Nat×AT))(H:RV Ob):Pl AT:=match op with
 | .index t x y=>match (tb t).map (·.str),ev L x,ev L y with
  |some true,some (.one (.s s)),some (.one (.i i))=>.opt (sIx s i) λb=>some (.one (.k .u8 b))
  |_,_,_=>.no
 | .slice t x lo hi none=>match (tb t).map (·.str),ev L x with
  | some true,some (.one (.s s))=>match (match lo with|some y=>ev L y|none=>some (.one (.i 0))),(match hi with|some y=>ev L y|none=>some (.one (.i s.size)))with
   |some (.one (.i a)),some (.one (.i b))=>.opt (oD s a b) λq=>some (.one (.s q))
   |_,_=>.no
  |_,_=>.no
 | .slice t x none (some hi) (some d)=>match (tb t).bind (·.elem),ev L x,ev L hi,ev L d with
  |some h,some (.one (.l T xs)),some (.one (.i a)),some (.one (.i b))=>if Nat.beq (szT h) (szT T)then .opt (oV xs.length a b) λ_=>some (.one (.lc T xs))else .no
  |some _,some (.one (.nil T)),some (.one (.i a)),some (.one (.i b))=>.opt (oV 0 a b) λ_=>some (.one (.nil T))
  |_,_,_,_=>.no
 | .convert j t x=>match tb j,(tb t).bind (·.kd),ev L x with
  |some _,some kd,some (.one (.i a))=>.ret (.one (Kf kd a))
  |some _,some kd,some (.one (.k _ a))=>.ret (.one (Kf kd a))
  | some v,none,some (.one (.l .u xs))=>match v.elem,(tb t).map (·.str)with
   |some .u,some true=>.ret (.one (.s (sOf xs)))
   |_,_=>.no
  |_,_,_=>.no
 | .unOp .neg _ x=>match ev L x with
  |some (.one (.i a))=>.ret (.one (.i (IntKind.i64.wrap (0-a))))
  |some (.one (.k kd a))=>.ret (.one (.k kd (kd.wrap (0-a))))
  |_=>.no
 | .call ⟨.builtin .min,ac,_⟩=>match ac.toList with
  | [x,y]=>match ev L x,ev L y with
   |some (.one (.i a)),some (.one (.i b))=>.ret (.one (.i (ja a b)))
   |_,_=>.no
  |_=>.no
 | .call ⟨.builtin .max,ac,_⟩=>match ac.toList with
  | [x,y]=>match ev L x,ev L y with
   |some (.one (.i a)),some (.one (.i b))=>.ret (.one (.i (lx a b)))
   |_,_=>.no
  |_=>.no
 | .lookup t m k ok=>match (tb t).bind (·.map),ev L m,ev L k with
  | some T,some (.one (.m id)),some (.one (.s s))=>match H[id]?,jq T with
   | some (.map _ kvs),some z=>match Bi (T:=T) kvs with
    | some kvs=>match ok with
     |false=>.ret (Eb (aG T (rm kvs s z)))
     |true=>.ret (.tup [Eb (aG T (rm kvs s z)),.one (.b (Kw kvs s))])
    |none=>.no
   |_,_=>.no
  |_,_,_=>.no
 | .makeFunc (.func f) first caps=>match first.toList,evs L caps.toList with
  | [],some xs=>match ones xs with
   |some cs=>.ret (.one (.f f cs))
   |none=>.no
  |_,_=>.no
 |_=>.no
def Dd(tb:Nat->Y TI)(o:Oper)(L:RV (Nat×AT))(H:RV Ob):Pl AT:=
 match o.op with
 | .move x| .assign x=>match ev L x with
  | some (.one .zs)=>match (tb o.type).bind (·.elem)with
   |some T=>.ret (.one (.nil T))
   |none=>.no
  |some v=>.ret v
  |none=>.no
 | .pick c a b=>match ev L c with
  | some (.one (.b p))=>match p with
   | true=>match ev L a with
    |some A=>.ret A
    |none=>.no
   | false=>match ev L b with
    |some B=>.ret B
    |none=>.no
  |_=>.no
 | .build t parts=>match tb t,cE L parts.toList with
  | some d,some C=>match d.fields,wF (fun k=>(d.fields[k]?).map fun f=>(f.1,f.2.2)) d.zero C with
   |_::_,some cs=>.ret (.agg cs)
   |_,_=>.no
  |_,_=>.no
 | .fieldAddr t x f=>match tb t,ev L x with
  | some d,some (.one (.p id off))=>match d.fields[f]? with
   |some (fo,_)=>.ret (.one (.p id (off+fo)))
   |none=>.no
  | some d,some (.one (.q T y off))=>match d.fields[f]? with
   |some (fo,_)=>.ret (.one (.q T y (off+fo)))
   |none=>.no
  | some d,some (.one (.e id k n T y off))=>match H[id]?,d.fields[f]? with
   |some (.row _ _ _),some (fo,_)=>.ret (.one (.e id k n T y (off+fo)))
   |_,_=>.no
  |_,_=>.no
 | .field t x f=>match tb t,ev L x with
  | some d,some (.agg cs)=>match d.fields[f]? with
   | some (fo,ft,_)=>match tb ft with
    | some w=>match ld w.agg w.size (cs.drop fo)with
     |some v=>.ret v
     |none=>.no
    |none=>.no
   |none=>.no
  |_,_=>.no
 | .load t x=>match tb t,ev L x with
  | some d,some (.one (.p id off))=>match H[id]? with
   | some (.box cs)=>match ld d.agg d.size (cs.drop off)with
    |some v=>.ret v
    |none=>.no
   |_=>.no
  | some d,some (.one (.q T y off))=>match ld d.agg d.size ((aG T y).drop off)with
   |some v=>.ret v
   |none=>.no
  | some d,some (.one (.e id k n T y off))=>match H[id]? with
   | some (.row _ n' xs)=>if Nat.beq n n' then (match ld d.agg d.size ((aG T y).drop off)with
     |some v=>.ret v
     |none=>.no)
    else (match jP (T:=T) xs with
     |some xs=>Pl.opt xs[k]? λD=>ld d.agg d.size ((aG T D).drop off)
     |none=>.no)
   |_=>.no
  |_,_=>.no
 | .indexAddr t x y=>match (tb t).bind (·.elem),ev L x,ev L y with
  |some h,some (.one (.l T xs)),some (.one (.i i))=>if Nat.beq (szT h) (szT T)then Pl.opt (ix xs i) (λe=>some (.one (.q T e 0)))else .no
  | some h,some (.one (.o id)),some (.one (.i i))=>match H[id]? with
   |some (.row T n xs)=>if Nat.beq (szT h) (szT T)then Pl.opt (ix xs i) (λe=>some (.one (.e id i.toNat n T e 0)))else .no
   |_=>.no
  |_,_,_=>.no
 | .slice t x lo hi none=>match (tb t).bind (·.elem),ev L x with
  | some h,some (.one (.l T xs))=>if Nat.beq (szT h) (szT T)then match (match lo with|some y=>ev L y|none=>some (.one (.i 0))),(match hi with|some y=>ev L y|none=>some (.one (.i xs.length)))with
   |some (.one (.i a)),some (.one (.i b))=>Pl.opt (sub xs a b) λys=>some (.one (.l T ys))
   |_,_=>.no
   else .no
  |_,_=>vj tb o.op L H
 | .nilCheck x=>match ev L x with
  |some (.one (.p id off))=>.ret (.one (.p id off))
  |some (.one (.q T y off))=>.ret (.one (.q T y off))
  |_=>.no
 | .binOp op t x y _=>match ev L x,ev L y with
  | some (.one a),some (.one b)=>match a with
   | .b _=>match (tb t).map (·.bool)with
    |some true=>Js op a b
    |_=>.no
   |_=>Js op a b
  |_,_=>.no
 | .unOp .not _ x=>match ev L x with
  |some (.one (.b p))=>.ret (.one (.b (!p)))
  |_=>.no
 | .extract x j=>match ev L x with
  | some (.tup xs)=>match xs[j]? with
   |some v=>.ret v
   |none=>.no
  |_=>.no
 | .convert E t x=>match tb E,tb t,ev L x with
  | some _,some d,some (.one (.k .u8 a))=>match d.i64 with
   |true=>.ret (.one (.i a))
   |false=>vj tb o.op L H
  |_,_,_=>vj tb o.op L H
 | .call ⟨.builtin .len,ac,tys⟩=>match ac.toList,tys.toList with
  | [x], [t]=>match tb t,ev L x with
   | some d,some (.one (.s s))=>match d.str with
    |true=>.ret (.one (.i (s.size:Int)))
    |false=>.no
   | some d,some (.one c)=>match d.elem,AO H c with
    |some _,some n=>.ret (.one (.i n))
    |_,_=>.no
   |_,_=>.no
  |_,_=>.no
 |op=>vj tb op L H
def kind:Go.Op->Nat
 | .alloc _| .box _ _| .buildSlice _ _ _| .makeSlice _ _ _| .makeMap _ _=>1
 | .call ⟨.builtin .append,_,_⟩=>1
 | .call ⟨.value _,_,_⟩=>2
 |_=>0
def uS:Operand->Operand->Bool
 | .tmp a,.tmp b=>Nat.beq a b
 | .const (.int .i64 a),.const (.int .i64 b)=>decide (a=b)
 |_,_=>false
def zU(tb:Nat->Y TI)(op:Go.Op)(L:RV (Nat×AT))(H:RV Ob):Pl (AT×RV Ob):=match op with
 | .makeMap t none=>match (tb t).bind (·.map)with
  |some T=>.ret (.one (.m H.length),H++[.map T []])
  |none=>.no
 | .call ⟨.builtin .append,ac,tys⟩=>match ac.toList,tys.toList with
  | [x, y],[t,d]=>match (tb t).bind (·.elem),ev L x,ev L y with
   | some T,some (.one (.lc _ xs)),some (.one h)=>match (tb d).bind (·.elem),jP (T:=T) xs,jx H T h with
    |some _,some xs,some ys=>Pl.opt (Mt xs ys) λzs=>some (.one (.o H.length),H++[.row T 0 zs])
    |_,_,_=>.no
   | some .u,some (.one (.o id)),some (.one (.s s))=>match (tb d).map (·.str),H[id]? with
    |some true,some (.row .u _ xs)=>Pl.opt (lim (α:=Int) (List.append (α:=Int) xs (ofS s))) λzs=>some (.one (.o H.length),(H.set id .aN)++[.row .u 0 zs])
    |_,_=>.no
   | some .u,some (.one (.nil _)),some (.one (.s s))=>match (tb d).map (·.str)with
    |some true=>Pl.opt (lim (ofS s)) λzs=>some (.one (.o H.length),H++[.row .u 0 zs])
    |_=>.no
   |_,_,_=>.no
  |_,_=>.no
 |_=>.no
def Gi(tb:Nat->Y TI)(o:Oper)(L:RV (Nat×AT))(H:RV Ob):Pl (AT×RV Ob):=
 match o.op with
 | .alloc t=>match tb t with
  |some d=>.ret (.one (.p H.length 0),H++[.box d.zero])
  |none=>.no
 | .box _ x=>match (ev L x).bind cells with
  |some cs=>.ret (.one (.p H.length 0),H++[.box cs])
  |none=>.no
 | .buildSlice t len parts=>match (tb t).bind (·.elem),cE L parts.toList with
  | some T,some h=>match jq T with
   | some z=>match fq T z len 0 h,Nat.ble (len*szT T) 16777216 with
    |some xs,true=>.ret (.one (.o H.length),H++[.row T 0 xs])
    |_,_=>.no
   |none=>.no
  |_,_=>.no
 | .makeSlice t x y=>match (tb t).bind (·.elem),ev L x,uS x y with
  | some T,some (.one (.i n)),true=>match jq T with
   |some z=>Pl.opt (mk z n) λxs=>some (.one (.o H.length),H++[.row T 0 xs])
   |none=>.no
  |_,_,_=>.no
 | .call ⟨.builtin .append,ac,tys⟩=>match ac.toList,tys.toList with
  | [x, y],[t,j]=>match (tb t).bind (·.elem),(tb j).bind (·.elem),ev L x,ev L y with
   | some T,some _,some (.one v),some (.one w)=>match jx H T w with
    | some ys=>match v with
     | .o id=>match H[id]? with
      | some (.row _ _ xs)=>match jP (T:=T) xs with
       |some xs=>Pl.opt (lim (xs++ys)) λzs=>some (.one (.o H.length),(H.set id .aN)++[.row T 0 zs])
       |none=>.no
      |_=>.no
     | .nil _=>Pl.opt (lim ys) λzs=>some (.one (.o H.length),H++[.row T 0 zs])
     |_=>zU tb o.op L H
    |none=>.no
   |_,_,_,_=>zU tb o.op L H
  |_,_=>.no
 |op=>zU tb op L H
def C.ids:C->RV Nat
 | .o id=>[id]
 | .p id _=>[id]
 | .m id=>[id]
 | .f _ caps=>capIds caps
 |_=>[]
where capIds:RV C->RV Nat
 |[]=>[]
 |c::cs=>c.ids++capIds cs
def AT.ids:AT->RV Nat
 | .one c=>c.ids
 | .agg cs=>cs.flatMap C.ids
 | .tup xs=>idsA xs
where idsA:RV AT->RV Nat
 |[]=>[]
 |x::xs=>x.ids++idsA xs
def pe(H:RV Ob):Nat->RV Nat->RV Nat->RV Nat
 |0,_,acc=>acc
 |_,[],acc=>acc
 | n+1,id::rest,acc=>if acc.contains id then pe H n rest acc else
  match H[id]? with
  |some (.box cs)=>pe H n (cs.flatMap C.ids++rest) (acc++[id])
  |_=>pe H n rest (acc++[id])
def pos:RV Nat->Nat->Y Nat
 |[],_=>none
 | k::d,id=>if Nat.beq k id then some 0 else match pos d id with
  |some j=>some (j+1)
  |none=>none
def C.mv(g:Nat->Y Nat):C->Y C
 | .o id=>match g id with
  |some j=>some (.o j)
  |none=>none
 | .p id off=>match g id with
  |some j=>some (.p j off)
  |none=>none
 | .m id=>match g id with
  |some j=>some (.m j)
  |none=>none
 | .e _ _ _ _ _ _=>none
 | .r _ _=>none
 | .f fn caps=>match mvK g caps with
  |some d=>some (.f fn d)
  |none=>none
 |c=>some c
where mvK (g:Nat->Y Nat):RV C->Y (RV C)
 |[]=>some []
 | c::cs=>match c.mv g,mvK g cs with
  |some d,some ds=>some (d::ds)
  |_,_=>none
def mvs(g:Nat->Y Nat):RV C->Y (RV C)
 |[]=>some []
 | c::cs=>match c.mv g,mvs g cs with
  |some d,some h=>some (d::h)
  |_,_=>none
def AT.mv(g:Nat->Y Nat):AT->Y AT
 | .one c=>match c.mv g with
  |some d=>some (.one d)
  |none=>none
 | .agg cs=>match mvs g cs with
  |some h=>some (.agg h)
  |none=>none
 | .tup xs=>match mvA g xs with
  |some ys=>some (.tup ys)
  |none=>none
where mvA (g:Nat->Y Nat):RV AT->Y (RV AT)
 |[]=>some []
 | x::xs=>match x.mv g,mvA g xs with
  |some y,some ys=>some (y::ys)
  |_,_=>none
def Ob.mv(g:Nat->Y Nat):Ob->Y Ob
 | .box cs=>match mvs g cs with
  |some d=>some (.box d)
  |none=>none
 |o=>some o
def obs(g:Nat->Y Nat):RV Ob->Y (RV Ob)
 |[]=>some []
 | x::xs=>match x.mv g,obs g xs with
  |some y,some ys=>some (y::ys)
  |_,_=>none
def uH(H:RV Ob):RV Nat->Y (RV Ob)
 |[]=>some []
 | id::ids=>match H[id]?,uH H ids with
  |some x,some xs=>some (x::xs)
  |_,_=>none
def Ob.anew:Ob->Ob
 | .row T _ xs=>.row T 0 xs
 |o=>o
def nJ(aB:RV Nat)(H:RV Ob):Y (RV Ob):=match uH H aB with
 | some xs=>match obs (pos aB) xs with
  |some ys=>some (ys.map Ob.anew)
  |none=>none
 |none=>none
def eqL:RV Nat->RV Nat->Bool
 |[],[]=>true
 |x::xs,y::ys=>Nat.beq x y&&eqL xs ys
 |_,_=>false
def io:RV Nat->Bool
 |[]=>true
 |x::xs=> !xs.contains x&&io xs
def Ob.bump(old new:Ob):Ob:=match new with
 | .row T _ xs=>(match old with
  | .row _ n _=>.row T (n+1) xs
  |_=>.row T 0 xs)
 |y=>y
def cG:RV Ob->RV Nat->RV Ob->RV Ob
 | H,id::ids,x::xs=>cG (match H[id]? with
  |some o=>H.set id (o.bump x)
  |none=>H) ids xs
 |H,_,_=>H
def back(aB:RV Nat)(n:Nat)(j:Nat):Y Nat:=if Nat.blt j aB.length then aB[j]? else some (n+(j-aB.length))
def kH(O:Orc)(f:Nat):Nat->RV AT->RV Ob->Y (RV AT×RV Ob)
 |_,[],H=>some ([],H)
 | j, x::xs,H=>match O.arg f j with
  | 0=>match gX [] x,kH O f (j+1) xs H with
   |some y,some (ys,H')=>some (y::ys,H')
   |_,_=>none
  | _+1=>match x with
   | .one (.nil T)=>match kH O f (j+1) xs (H++[.row T 0 []])with
    |some (ys,H')=>some (.one (.o H.length)::ys,H')
    |none=>none
   | _=>match kH O f (j+1) xs H with
    |some (ys,H')=>some (x::ys,H')
    |none=>none
def Ae(xs:RV AT):RV Nat:=xs.flatMap λx=>match cells x with
 | some cs=>cs.flatMap fun c=>match c with
  | .o id=>[id]
  |_=>[]
 |none=>[]
def fC:RV Nat->RV AT->RV Ob->RV AT×RV Ob
 |[],xs,H=>(xs,H)
 | id::ids,xs,H=>match H[id]? with
  |some (.row T _ ys)=>fC ids (xs.map (AT.fz id T ys)) (H.set id .aN)
  |_=>fC ids xs H
def FD(O:Orc)(f:Nat)(xs:RV AT)(H:RV Ob)(K:AT->RV Ob->Y R):Y R:=match O.mode f with
 | 0=>match dD H xs with
  | some ys=>O.call R f ys [] fun v _=>match v.gF with
   |true=>K v H
   |false=>none
  |none=>none
 | 1 => match dD [] xs with
  | some ys=>O.call R f ys [] fun v _=>match v.flat with
   |true=>K v H
   |false=>none
  | none=>match Ae xs with
   |[]=>none
   | id::ids=>let q:=fC (id::ids) xs H
    match dD [] q.1 with
    | some ys=>O.call R f ys [] fun v _=>match v.flat with
     |true=>K v q.2
     |false=>none
    |none=>none
 | 2=>match kH O f 0 xs H with
  | some (ys,d)=>let aB:=pe d 1000 (AT.ids.idsA ys) []
   match io aB,nJ aB d,AT.mv.mvA (pos aB) ys with
   | true,some t,some zs=>O.call R f zs t fun v h=>match Nat.ble aB.length h.length,obs (back aB d.length) h,v.mv (back aB d.length)with
    |true,some j,some u=>K u (cG d aB j++j.drop aB.length)
    |_,_,_=>none
   |_,_,_=>none
  |none=>none
 |_+3=>none
def AP(tb:Nat->Y TI)(t:Nat):AT->AT
 | .one .zs=>match (tb t).bind (·.elem)with
  |some T=>.one (.nil T)
  |none=>.one .zs
 |x=>x
def dI(tb:Nat->Y TI):RV Nat->RV AT->RV AT
 |t::ts,x::xs=>AP tb t x::dI tb ts xs
 |_,xs=>xs
def wm(tb:Nat->Y TI)(O:Orc)(o:Oper)(L:RV (Nat×AT))(H:RV Ob)(K:AT->RV Ob->Y R):Y R:=
 match o.op with
 | .call ⟨.value x,ac,tys⟩=>match ev L x,evs L ac.toList with
  |some (.one (.f f caps)),some xs=>FD O f (dI tb tys.toList xs++caps.map .one) H K
  |_,_=>none
 |_=>none
def opD(tb:Nat->Y TI)(O:Orc)(o:Oper)(L:RV (Nat×AT))(H:RV Ob)(K:AT->RV Ob->Y R):Y R:=
 match kind o.op with
 |0=>(Dd tb o L H).run λv=>K v H
 |1=>(Gi tb o L H).run λq=>K q.1 q.2
 |_=>wm tb O o L H K
def opX(tb:Nat->Y TI)(op:Go.Op)(L:RV (Nat×AT))(H:RV Ob):Pl (RV Ob):=match op with
 | .mapUpdate t m k x=>match (tb t).bind (·.map),ev L m,ev L k,(ev L x).bind cells with
  | some T,some (.one (.m id)),some (.one (.s s)),some vs=>match H[id]?,eW [] vs with
   | some (.map _ kvs),some d=>match Bi (T:=T) kvs,iB T d,ev L x with
    |some kvs,some y,some (.one _)=>if Nat.beq (szT T) 1 then .ret (H.set id (.map T ((s,y)::kvs)))else .no
    |some kvs,some y,some (.agg _)=>if Nat.beq (szT T) 1 then .no else .ret (H.set id (.map T ((s,y)::kvs)))
    |_,_,_=>.no
   |_,_=>.no
  |_,_,_,_=>.no
 |_=>.no
def opN(tb:Nat->Y TI)(o:Oper)(L:RV (Nat×AT))(H:RV Ob):Pl (RV Ob):=
 match o.op with
 | .store t x y=>match tb t,ev L x,(ev L y).bind cells with
  | some d,some (.one (.p id off)),some vs=>match H[id]? with
   |some (.box cs)=>if Nat.beq d.size vs.length&&Nat.ble (off+vs.length) cs.length then .ret (H.set id (.box (bp cs off vs)))else .no
   |_=>.no
  | some d,some (.one (.e id k n T e off)),some vs=>match eW [] (pX ((aG T e).drop off) vs)with
   | some h=>match H[id]? with
    | some (.row _ n' xs)=>match jP (T:=T) xs with
     | some xs=>if Nat.beq d.size vs.length&&Nat.ble (off+vs.length) (szT T)&&Nat.blt 0 (szT T)then
      (if Nat.beq n n' then (match iB T (bp (aG T e) off h)with
        |some x=>.ret (H.set id (.row T (n'+1) (xs.set k x)))
        |none=>.no)
       else Pl.opt xs[k]? λj=>match iB T (bp (aG T j) off h)with
        |some x=>some (H.set id (.row T (n'+1) (xs.set k x)))
        |none=>none)
      else .no
     |none=>.no
    |_=>.no
   |none=>.no
  |_,_,_=>.no
 |op=>opX tb op L H
def one(tb:Nat->Y TI)(O:Orc)(nt:Nat)(o:Oper)(L:RV (Nat×AT))(H:RV Ob)(K:AT->RV Ob->Y R):Y R:=match o.dst with
 |some d=>if Nat.blt d nt then opD tb O o L H K else none
 |none=>(opN tb o L H).run λH'=>K (.tup []) H'
def jQ(dst:Y Nat)(v:AT)(L:RV (Nat×AT)):RV (Nat×AT):=match dst with
 |some d=>(d,v)::L
 |none=>L
def gsl(ops:RV Oper)(j:Nat):Y Nat:=match ops[j]? with
 |some o=>o.dst
 |none=>none
def oq(nt:Nat)(ops:RV Oper)(o:Oper)(L1 L:RV (Nat×AT))(run skip:RV (Nat×AT)->Y R):Y R:=match o.guard with
 |none=>run L
 | some (j,h)=>match gsl ops j,o.dst with
  | some d,some t=>if Nat.blt t nt then match L1.lookup d with
   | some (.one (.b p))=>match h with
    |true=>bif p then run ((d,.one (.b true))::L)else skip ((d,.one (.b false))::L)
    |false=>bif p then skip ((d,.one (.b true))::L)else run ((d,.one (.b false))::L)
   |some (.tup [])=>skip L
   |_=>none
   else none
  |_,_=>none
def Ls(tb:Nat->Y TI)(o:Oper)(L:RV (Nat×AT)):Pl AT:=
 match o.op with
 | .buildSlice t len parts=>match (tb t).bind (·.elem),cE L parts.toList with
  | some T,some d=>match jq T with
   | some z=>match fq T z len 0 d,Nat.ble (len*szT T) 16777216 with
    |some xs,true=>.ret (.one (.l T xs))
    |_,_=>.no
   |none=>.no
  |_,_=>.no
 |_=>.no
def FC(tb:Nat->Y TI)(nt:Nat)(o:Oper)(L:RV (Nat×AT))(K:AT->Y R):Y R:=match o.dst with
 |some d=>if Nat.blt d nt then (Ls tb o L).run K else none
 |none=>none
def C.rows:C->RV Nat
 | .o id=>[id]
 |_=>[]
def lV(L:RV (Nat×AT))(x:Operand):RV Nat:=match (ev L x).bind cells with
 |some cs=>cs.flatMap C.rows
 |none=>[]
def qA(O:Orc)(f:Nat):Nat->RV AT->RV Nat
 |_,[]=>[]
 | j, x::xs=>match O.arg f j with
  | 0=>(match cells x with
   |some cs=>cs.flatMap C.rows
   |none=>[])++qA O f (j+1) xs
  |_+1=>qA O f (j+1) xs
def vo(O:Orc)(im:RV Nat)(o:Oper)(L:RV (Nat×AT)):RV Nat:=match o.op with
 | .move x=>match o.dst with
  |some d=>if im.contains d then lV L x else []
  |none=>[]
 | .buildSlice _ _ parts=>parts.toList.flatMap λp=>lV L p.2
 | .slice _ x _ _ _=>match o.dst with
  |some d=>if im.contains d then []else lV L x
  |none=>lV L x
 | .convert _ _ x=>lV L x
 | .mapUpdate _ _ _ x=>lV L x
 | .store _ x y=>match ev L x with
  |some (.one (.e _ _ _ _ _ _))=>lV L y
  |_=>[]
 | .call ⟨.value x,ac,_⟩=>match ev L x,evs L ac.toList with
  | some (.one (.f f caps)),some xs=>match O.mode f with
   |0=>[]
   | 1=>(xs++caps.map AT.one).flatMap fun x=>match cells x with
    |some cs=>cs.flatMap C.rows
    |none=>[]
   |_+2=>qA O f 0 (xs++caps.map AT.one)
  |_,_=>[]
 |_=>[]
def prep(O:Orc)(im:RV Nat)(o:Oper)(st:St):St:=cJ (vo O im o st.L) st
def qz(tb:Nat->Y TI)(O:Orc)(o:Oper)(L:RV (Nat×AT)):Bool:=match o.dst with
 |none=>false
 | some _=>match o.op with
  | .call ⟨.value x,ac,tys⟩=>match ev L x,evs L ac.toList with
   | some (.one (.f f caps)),some xs=>match O.mode f with
    |0=>true
    |1=>(Ae (dI tb tys.toList xs++caps.map .one)).isEmpty
    |_=>false
   |_,_=>false
  |op=>Nat.beq (kind op) 0
def eB(tb:Nat->Y TI)(O:Orc)(o:Oper)(L:RV (Nat×AT))(H:RV Ob):RV Nat:=match o.op with
 | .store _ x _=>match ev L x with
  |some (.one (.p id _))=>[id]
  |some (.one (.e id _ _ _ _ _))=>[id]
  |_=>[]
 | .mapUpdate _ m _ _=>match ev L m with
  |some (.one (.m id))=>[id]
  |_=>[]
 | .call ⟨.builtin .append,ac,_⟩=>match ac.toList with
  | x::_=>match ev L x with
   |some (.one (.o id))=>[id]
   |_=>[]
  |[]=>[]
 | .call ⟨.value x,ac,tys⟩=>match ev L x,evs L ac.toList with
  | some (.one (.f f caps)),some xs=>match O.mode f with
   |0=>[]
   |1=>Ae (dI tb tys.toList xs++caps.map .one)
   | _+2=>match kH O f 0 (dI tb tys.toList xs++caps.map .one) H with
    |some (ys,d)=>pe d 1000 (AT.ids.idsA ys) []
    |none=>[]
  |_,_=>[]
 |_=>[]
def FY{α:Type}(xs:RV α)(i:Int):Y (RV α):=bif decide (0<i)&&decide (i<=(xs.length:Int))then some (xs.drop i.toNat)else none
def uF{α:Type}(xs:RV α)(i:Int):Y (RV α):=bif decide (0<=i)&&decide (i<=(xs.length:Int))then some (xs.take i.toNat)else none
def kN(tb:Nat->Y TI)(im:RV Nat)(o:Oper)(L:RV (Nat×AT))(H:RV Ob):Y (Nat×Pl (AT×RV Ob)):=match o.op,o.dst with
 | .slice t x (some y) none none,some d=>if im.contains d then (match ev L x with
  | some (.one (.o id))=>some (id,match (tb t).bind (·.elem),H[id]?,ev L y with
   | some T,some (.row _ _ xs),some (.one (.i i))=>match jP (T:=T) xs with
    |some xs=>Pl.opt (FY xs i) λys=>some (.one (.o H.length),(H.set id .aN)++[.row T 0 ys])
    |none=>.no
   |_,_,_=>.no)
  |_=>none)else none
 | .slice t x none (some y) none,some d=>if im.contains d then (match ev L x with
  | some (.one (.o id))=>some (id,match (tb t).bind (·.elem),H[id]?,ev L y with
   | some T,some (.row _ _ xs),some (.one (.i i))=>match jP (T:=T) xs with
    |some xs=>Pl.opt (uF xs i) λys=>some (.one (.o H.length),(H.set id .aN)++[.row T 0 ys])
    |none=>.no
   |_,_,_=>.no)
  |_=>none)else none
 |_,_=>none
def j5(tb:Nat->Y TI)(O:Orc)(im:RV Nat)(o:Oper)(L:RV (Nat×AT))(H:RV Ob):RV Nat:=match kN tb im o L H with
 |some q=>[q.1]
 |none=>eB tb O o L H
def EM:C->C
 | .nil T=>.l T []
 |c=>c
def Jv:AT->AT
 | .one c=>.one (EM c)
 | .agg cs=>.agg (cs.map EM)
 | .tup xs=>.tup xs
def IW:Go.Op->Bool
 | .build _ _=>true
 |_=>false
def IG(tb:Nat->Y TI)(O:Orc)(nt:Nat)(im:RV Nat)(o:Oper)(L:RV (Nat×AT))(H:RV Ob)(K:AT->RV Ob->Y R):Y R:=match o.dst with
 | some d=>if im.contains d&&Nat.beq (kind o.op) 1 then FC tb nt o L (fun v=>K v H)else if im.contains d&&IW o.op then one tb O nt o L H (fun v H'=>K (Jv v) H')else match kN tb im o L H with
  |some q=>if Nat.blt d nt then q.2.run (λq=>K q.1 q.2)else none
  |none=>one tb O nt o L H K
 |none=>one tb O nt o L H K
def LY(_:Nat->Y TI)(_:RV Nat)(_:Oper)(_:RV (Nat×AT))(_:RV Ob):Y (Pl (AT×RV Ob)):=none
def okX(H:RV Ob)(ids:RV Nat)(H':RV Ob):Bool:=ids.all (λid=>(match H'[id]? with
 |some o=> !o.eR
 |none=>true))&&(H'.drop H.length).all (λo=> !o.eR)
def Lr(tb:Nat->Y TI)(O:Orc)(nt:Nat)(im:RV Nat)(o:Oper)(L:RV (Nat×AT))(H:RV Ob)(K:AT->RV Ob->Y R):Y R:=match LY tb im o L H with
 | some p=>match o.dst with
  |some d=>if Nat.blt d nt then p.run (λq=>K q.1 q.2)else none
  |none=>p.run λq=>K q.1 q.2
 |none=>IG tb O nt im o L H λv H'=>if okX H (j5 tb O im o L H) H' then K v H' else none
def oneR(tb:Nat->Y TI)(O:Orc)(nt:Nat)(im:RV Nat)(o:Oper)(L:RV (Nat×AT))(H:RV Ob)(K:AT->RV Ob->Y R):Y R:=Lr tb O nt im o L H K
def tA{α:Type}(xs ys:RV α)(i:Int):Y (RV α):=bif decide (0<=i)&&decide (i<=(xs.length:Int))then lim (ys++xs.drop i.toNat)else none
def GD(tb:Nat->Y TI)(nt:Nat)(im:RV Nat)(o:Oper)(rest:RV Oper)(L:RV (Nat×AT))(H:RV Ob):Y (Pl (RV (Nat×AT)×RV Ob)):=match o.op with
 | .slice t x (some y) none none=>match o.dst,o.guard,rest with
  | some j,none,v::_=>if im.contains j then (match v.op,v.dst,v.guard with
   | .call ⟨.builtin .append,ac,tys⟩,some d2,none=>match ac.toList,tys.toList with
    | [.tmp z,.tmp d],[B,C]=>if Nat.beq d j&& !Nat.beq z j&&Nat.blt j nt&&Nat.blt d2 nt then (match ev L x,ev L y,L.lookup z with
     | some (.one (.o id)),some (.one (.i i)),some (.one (.o h))=>some (match tb t,tb B,tb C,H[id]?,H[h]?,Nat.beq id h with
      | some D,some w,some A,some (.row _ _ xs),some (.row _ _ ys),false=>match D.elem,w.elem,A.elem with
       | some T,some T1,some _=>match jP (T:=T) xs,jP (T:=T1) ys with
        | some xs,some ys=>match jP (T:=T1) xs with
         |some xs=>Pl.opt (tA xs ys i) λzs=>some ((d2,.one (.o H.length))::(j,.one (.o h))::L,(H.set h .aN)++[.row T1 0 zs])
         |none=>.no
        |_,_=>.no
       |_,_,_=>.no
      |_,_,_,_,_,_=>.no)
     |_,_,_=>none)else none
    |_,_=>none
   |_,_,_=>none)else none
  |_,_,_=>none
 |_=>none
def DF(tb:Nat->Y TI)(O:Orc)(nt:Nat)(im:RV Nat)(ops:RV Oper):RV Oper->St->(St->Y R)->Y R
 |[],st,K=>K st
 | o::rest,st,K=>let d:=prep O im o st
  match GD tb nt im o rest d.L d.H with
  | some p=>match rest with
   |_::h=>p.run λq=>DF tb O nt im ops h ⟨q.1,q.2⟩ K
   |[]=>none
  |none=>oq nt ops o d.L d.L (λL=>oneR tb O nt im o L d.H λv H'=>DF tb O nt im ops rest ⟨jQ o.dst v L,H'⟩ K) (λL=>DF tb O nt im ops rest ⟨jQ o.dst (.tup []) L,d.H⟩ K)
def eL(vis:RV Nat)(H:RV Ob):RV Ob:=H.mapIdx λi o=>if vis.contains i then o else .aN
def Ap(d:RV Ob)(id:Nat):Bool:=match d[id]? with
 |none=>true
 |some .aN=>true
 |_=>false
def xX(ids:RV Nat)(H:RV Ob):RV Ob:=H.mapIdx λi o=>if ids.contains i then .aN else o
def dY(tb:Nat->Y TI)(O:Orc)(nt:Nat)(im:RV Nat)(ops:Array Oper)(h:RV Ob)(π ch rd:RV Nat):RV Nat->RV Nat->RV (Nat×AT)->RV Ob->RV Ob->(RV (Nat×AT)->RV Ob->Y R)->Y R
 |_,[],L,_,H,K=>K L H
 | done, i::rest,L,d,H,K=>match ops[i]? with
  |none=>none
  | some o=>let L1:=Draw.sel L (o.looksAt ops)
   let next:=λL v d H'=>dY tb O nt im ops h π ch rd (i::done) rest (jQ o.dst v L) d H' K
   if ch.contains i then oq nt ops.toList o L1 L (λL=>if (j5 tb O im o L1 H).all (Ap h)then IG tb O nt im o L1 H (λv H'=>if okX H (j5 tb O im o L1 H) H' then next L v (xX (j5 tb O im o L1 H) d) H' else none)else none) (λL=>next L (.tup []) d H)
   else
    (if rd.contains i then
     oq nt ops.toList o L1 L (λL=>if Nat.beq (kind o.op) 1 then FC tb nt o L1 λv=>next L v d H
      else if qz tb O o L1 then one tb O nt o L1 (if Nat.ble (Abs.cnt ch done) (Abs.cnt ch (π.filter λj=>Abs.dv ops j i))then H else d) λv _=>next L v d H else none) (λL=>next L (.tup []) d H)
    else oq nt ops.toList o L1 L (λL=>if Nat.beq (kind o.op) 1 then FC tb nt o L1 λv=>next L v d H
      else if qz tb O o L1 then one tb O nt o L1 h λv _=>next L v d H else none) (λL=>next L (.tup []) d H))
def ib:RV C->RV Ob->RV C×RV Ob
 |[],H=>([],H)
 | c::cs,H=>match c with
  | .nil T=>let r:=ib cs (H++[.row T 0 []]);(.o H.length::r.1,r.2)
  |c=>let r:=ib cs H;(c::r.1,r.2)
def xE:AT->RV Ob->AT×RV Ob
 | .one c,H=>match c with
  | .nil T=>(.one (.o H.length),H++[.row T 0 []])
  |c=>(.one c,H)
 | .agg cs,H=>let r:=ib cs H;(.agg r.1,r.2)
 | .tup xs,H=>(.tup xs,H)
def uU:RV (Nat×AT)->RV Ob->RV (Nat×AT)×RV Ob
 |[],H=>([],H)
 |(t,v)::L,H=>let r:=xE v H;let q:=uU L r.2;((t,r.1)::q.1,q.2)
def wC:Nat->RV Ob->RV Ob
 |0,H=>H
 | n+1,H=>match H[n]? with
  |some (.box cs)=>let r:=ib cs H;wC n (r.2.set n (.box r.1))
  |_=>wC n H
def aO(L:RV (Nat×AT)):RV Nat->RV (Nat×AT)
 |[]=>[]
 | t::ts=>match L.lookup t with
  |some v=>(t,v)::aO L ts
  |none=>aO L ts
def mvL(g:Nat->Y Nat):RV (Nat×AT)->Y (RV (Nat×AT))
 |[]=>some []
 | (t,v)::L=>match v.mv g,mvL g L with
  |some u,some L'=>some ((t,u)::L')
  |_,_=>none
def Mi(id:Nat)(q:RV AT×RV Ob):Y (RV AT×RV Ob):=match q.2[id]? with
 | some x=>let g:=fun j=>if Nat.beq j id then some q.2.length else some j
  match obs g (q.2.set id .aN++[x]),AT.mv.mvA g q.1 with
  |some H',some d=>some (d,H')
  |_,_=>none
 |none=>none
def Av:RV Nat->RV AT×RV Ob->Y (RV AT×RV Ob)
 |[],q=>some q
 | id::ids,q=>match Mi id q with
  |some d=>Av ids d
  |none=>none
def dQ(r:Nat)(lv:RV Nat)(st:St)(K:St->Y R):Y R:=
 let q:=uU (aO st.L lv) (wC st.H.length st.H)
 let aB:=List.range r++(pe q.2 1000 (List.range r++q.1.flatMap λp=>p.2.ids) []).filter λi=>Nat.ble r i
 match io aB&&eqL (aB.take r) (List.range r),nJ aB q.2,mvL (pos aB) q.1 with
 |true,some H',some L'=>K ⟨L',H'⟩
 |_,_,_=>none
structure Dw where
 rB:List (List Nat×List Nat×List Nat)
 cs:List Nat
 fz:List Nat
 vis:List Nat
 lv:List Nat
structure Ann where
 nt:Nat
 refs:Nat
 loops:List (Nat×List Nat)
 cuts:List (Nat×List Nat)
 ret:List Nat
 kp:List (Nat×Dw)
 im:List Nat
structure Pcs where
 loop:(R:Type)->Nat->St->Kt R->Y R
 cut:(R:Type)->Nat->St->Kt R->Y R
 draw:(R:Type)->Nat->St->Kt R->Y R
def Pcs.at_(pc:Pcs)(k:Nat)(R:Type)(id:Nat):St->Kt R->Y R:=match k with
 |0=>pc.cut R id
 |1=>pc.loop R id
 |_=>pc.draw R id
def fh:Code->Nat
 | .region id _ _=>id
 | .seq a _=>fh a
 | .block _ a=>fh a
 | .loop a=>fh a
 |_=>100000
def qX(next:St->Y R)(K:Kt R):Kt R
 | .normal,st=>next st
 |e,st=>K e st
def E7(id:Nat)(K:Kt R):Kt R
 | .exit id',st=>if Nat.beq id' id then K .normal st else K (.exit id') st
 |e,st=>K e st
structure sE where
 n:List Nat
 r:List Nat
 x:List (Nat×List Nat)
def sE.of(o:sE):Exit->RV Nat
 | .normal=>o.n
 | .ret=>o.r
 | .exit id=>match o.x.lookup id with
  |some l=>l
  |none=>[]
 |_=>[]
def iW(r:Nat)(o:sE)(K:Kt R):Kt R:=λe st=>dQ r (o.of e) st (K e)
def oy(r:Nat)(lv:RV Nat)(o:sE)(next:St->Y R)(K:Kt R):Kt R:=qX (λst=>dQ r lv st next) (iW r o K)
def Lj(H:RV Ob):C->RV Nat
 | .o id=>[id]
 | .p id _=>match H[id]? with
  |some (.box cs)=>cs.flatMap C.rows
  |_=>[]
 |_=>[]
def bw(L:RV (Nat×AT))(H:RV Ob):RV Nat->RV Nat
 |[]=>[]
 | t::ts=>(match (L.lookup t).bind cells with
  |some cs=>cs.flatMap (Lj H)
  |none=>[])++bw L H ts
def yT(c:Operand)(b:Bool)(st:St):St:=match c with
 | .tmp t=>⟨(t,.one (.b b))::st.L,st.H⟩
 |_=>st
def den(tb:Nat->Y TI)(O:Orc)(pc:Pcs)(an:Ann):Code->St->Kt R->Y R
 | .skip,st,K=>K .normal st
 | .ret,st,K=>K .ret st
 | .exit id,st,K=>K (.exit id) st
 | .seq a b,st,K=>den tb O pc an a st (qX (λt=>match an.cuts.lookup (fh b)with
  |some lv=>dQ an.refs lv t λh=>pc.cut R (fh b) h K
  |none=>den tb O pc an b t K) K)
 | .block id a,st,K=>den tb O pc an a st (E7 id K)
 | .cond c a b,st,K=>match ev st.L c with
  | some (.one (.b p))=>bif p then (match an.cuts.lookup (fh a)with
    |some lv=>dQ an.refs lv (yT c true st) λh=>pc.cut R (fh a) h K
    |none=>den tb O pc an a (yT c true st) K)
   else (match an.cuts.lookup (fh b)with
    |some lv=>dQ an.refs lv (yT c false st) λh=>pc.cut R (fh b) h K
    |none=>den tb O pc an b (yT c false st) K)
  |_=>none
 | .loop a,st,K=>match an.loops.lookup (fh a)with
  |some lv=>dQ an.refs lv st λh=>pc.loop R (fh a) h K
  |none=>none
 | .region _ ops false,st,K=>DF tb O an.nt an.im ops.toList ops.toList st (K .normal)
 | .region id ops true,st,K=>match an.kp.lookup id with
  | some d=>match d.rB with
   |[]=>none
   | [(π, ch,rd)]=>if Abs.su ops π ch rd then
     let j:=cJ (bw st.L st.H d.fz) st
     dY tb O an.nt an.im ops (eL d.vis j.H) π ch rd [] π j.L j.H j.H λL H=>K .normal ⟨L,H⟩
    else none
   |_::_::_=>dQ an.refs d.lv st λh=>pc.draw R id h K
  |none=>none
 |_,_,_=>none
def bX(an:Ann):Code->RV (Nat×Nat×Code)
 | .seq a b=>bX an a++(match an.cuts.lookup (fh b)with
  |some _=>[(0,fh b,b)]
  |none=>bX an b)
 | .block _ a=>bX an a
 | .cond _ a b=>(match an.cuts.lookup (fh a)with
  |some _=>[(0,fh a,a)]
  |none=>bX an a)++(match an.cuts.lookup (fh b)with
  |some _=>[(0,fh b,b)]
  |none=>bX an b)
 | .loop a=>[(1,fh a,.loop a)]
 | .region id ops true=>match an.kp.lookup id with
  | some d=>match d.rB with
   |_::_::_=>[(2,id,.region id ops true)]
   |_=>[]
  |none=>[]
 |_=>[]
def aJ:RV Nat->Code->Code
 |[],c=>c
 |0::l,.seq a _=>aJ l a
 |1::l,.seq _ b=>aJ l b
 |_::l,.block _ a=>aJ l a
 |_::l,.loop a=>aJ l a
 |0::l,.cond _ a _=>aJ l a
 |_::l,.cond _ _ b=>aJ l b
 |_,_=>.skip
def aF(f:Func):Code:=f.body.getD .skip
def fk:Code->Array Oper
 | .region _ ops _=>ops
 |_=> #[]
structure Ent where
 f:Nat
 mode:Nat
 arg:List Nat
 call:(R:Type)->List AT->List Ob->(AT->List Ob->Y R)->Y R
def tT:RV Ent->Nat->Y Ent
 |[],_=>none
 |e::l,f=>bif Nat.beq e.f f then some e else tT l f
def cP(l:RV Ent):Orc where
 mode:=λf=>match tT l f with
  |some e=>e.mode
  |none=>1
 arg:=λf j=>match tT l f with
  |some e=>e.arg.getD j 0
  |none=>0
 call:=λR f xs H K=>match tT l f with
  |some e=>e.call R xs H K
  |none=>none
abbrev wr(x:Int):Int:=IntKind.i64.wrap x
def aS{V R:Type}(body:V->(V->Y R)->Y R):Nat->V->Y R
 |0,_=>none
 |n+1,v=>body v (aS body n)
theorem lj{V R:Type}{body:V->(V->Y R)->Y R}(Q:V->Prop)(μ:V->Nat)(f:V->Y R)(h:∀v nx,Q v->(∀d,Q d->μ d<μ v->nx d=f d)->body v nx=f v):∀n v,Q v->μ v<n->aS body n v=f v
 |0,_,_,t=>absurd t (NP _)
 |n+1,v,w,t=>h v _ w λd j hlt=>lj Q μ f h n d j A1
end
section
open Abs (V AV Env aD)
inductive FR:C->V->Prop
 |i {x:Int}:FR (.i x) (.lit (.int .i64 x))
 |k {kd:IntKind} {x:Int}:FR (.k kd x) (.lit (.int kd x))
 |b {x:Bool}:FR (.b x) (.lit (.bool x))
 |s {x:Z}:FR (.s x) (.lit (.string x))
 | l {T:Ty} {xs:List (I T)} {es:List (List V)} (hp:0<szT T) (hl:es.length=xs.length) (hs:∀e∈es,e.length=szT T)
   (hr:∀(m:Nat)(h1:m<xs.length)(h2:m<es.length)(j:Nat)(h3:j<(aG T xs[m]).length)(h4:j<es[m].length),FR (aG T xs[m])[j] es[m][j]):FR (.l T xs) (.imm (szT T) es)
def FRs(cs:RV C)(vs:RV V):Prop:=cs.length=vs.length/\∀(j:Nat)(h1:j<cs.length)(h2:j<vs.length),FR cs[j] vs[j]
abbrev Rho:=RV (Y Nat)
inductive CR(ρ:Rho)(H:List Ob):C->V->Prop
 |fl {c:C} {v:V} (h:FR c v):CR ρ H c v
 |lc {T:Ty} {xs:List (I T)} {es:List (List V)} (h:FR (.l T xs) (.imm (szT T) es)):CR ρ H (.lc T xs) (.gk (szT T) es)
 |nil {T:Ty} (hp:0<szT T):CR ρ H (.nil T) (.lit (.slice none 0 0))
 |o {id a n:Nat} {T:Ty} {xs:List (I T)} (h1:ρ[id]? =some (some a)) (h2:H[id]? =some (.row T n xs)):CR ρ H (.o id) (.own a 0 xs.length)
 |oN {id n:Nat} {T:Ty} {xs:List (I T)} (h1:ρ[id]? =some none) (h2:H[id]? =some (.row T n xs)):CR ρ H (.o id) (.lit (.slice none 0 0))
 |oG {id:Nat} {v:V} (h:H[id]? =some .aN):CR ρ H (.o id) v
 |oR {id a:Nat} {T:Ty} {xss:List (List (I T))} {ho:Y Nat} (h1:ρ[id]? =some (some a)) (h2:H[id]? =some (.rows T xss ho)):CR ρ H (.o id) (.own a 0 xss.length)
 |r {id a k:Nat} (h1:ρ[id]? =some (some a)):CR ρ H (.r id k) (.ptr a k 0)
 |p {id a off:Nat} (h1:ρ[id]? =some (some a)):CR ρ H (.p id off) (.ptr a 0 off)
 |e {id a m n n' off:Nat} {T:Ty} {x:I T} {xs:List (I T)} (h1:ρ[id]? =some (some a)) (h2:H[id]? =some (.row T n' xs)) (h3:m<xs.length) (h4:n<=n') (h5:n=n'->xs[m]? =some x):CR ρ H (.e id m n T x off) (.ptr a m off)
 |eG {id m n off:Nat} {T:Ty} {x:I T} {v:V} (h:H[id]? =some .aN):CR ρ H (.e id m n T x off) v
 |q {T:Ty} {x:I T} {off:Nat} {vs:List V} (h:FRs (aG T x) vs):CR ρ H (.q T x off) (.gy (szT T) (vs.drop off))
 |f {fn:Nat} {caps:List C} {vs:List V} (hl:caps.length=vs.length) (hr:∀(j:Nat)(h1:j<caps.length)(h2:j<vs.length),CR ρ H caps[j] vs[j]):CR ρ H (.f fn caps) (.clo (.func fn) vs)
 |m {id a:Nat} (h1:ρ[id]? =some (some a)):CR ρ H (.m id) (.mp a)
 |zs:CR ρ H .zs (.lit (.slice none 0 0))
 |zP:CR ρ H .z (.lit (.pointer none))
 |zM:CR ρ H .z (.lit (.map none))
 |zF:CR ρ H .z (.lit .nilFunc)
def CRs(ρ:Rho)(H:RV Ob)(cs:RV C)(vs:RV V):Prop:=cs.length=vs.length/\∀(j:Nat)(h1:j<cs.length)(h2:j<vs.length),CR ρ H cs[j] vs[j]
inductive ATR(ρ:Rho)(H:List Ob):AT->AV->Prop
 |one {c:C} {v:V} (h:CR ρ H c v):ATR ρ H (.one c) (.one v)
 |agg {cs:List C} {vs:List V} (h:CRs ρ H cs vs):ATR ρ H (.agg cs) (.agg vs)
 |tup {xs:List AT} {ys:List AV} (hl:xs.length=ys.length) (h:∀(j:Nat)(h1:j<xs.length)(h2:j<ys.length),ATR ρ H xs[j] ys[j]):ATR ρ H (.tup xs) (.tup ys)
def bT(ρ:Rho)(H:RV Ob)(D:RV (Nat×AT))(L:Env):Prop:=∀t v,D.lookup t=some v->∃d,L.lookup t=some d/\ATR ρ H v d
def live(H:RV Ob)(id:Nat):Prop:=∃x,H[id]? =some x/\x.dead=false
structure HpR(ρ:Rho)(H:List Ob)(h:aD):Prop where
 len:ρ.length=H.length
 row:∀(id n:Nat)(T:Ty)(xs:List (I T)),H[id]? =some (.row T n xs)->(∃a es,ρ[id]? =some (some a)/\h[a]? =some (some (.row (szT T) es))/\FR (.l T xs) (.imm (szT T) es))\/(ρ[id]? =some none/\xs=[]/\0<szT T)
 box:∀(id:Nat)(cs:List C),H[id]? =some (.box cs)->∃a vs,ρ[id]? =some (some a)/\h[a]? =some (some (.row vs.length [vs]))/\CRs ρ H cs vs
 map:∀(id:Nat)(T:Ty)(kvs:List (Z×I T)),H[id]? =some (.map T kvs)->∃a ws,ρ[id]? =some (some a)/\h[a]? =some (some (.map ws))/\kvs.length=ws.length/\0<szT T/\∀(j:Nat)(h1:j<kvs.length)(h2:j<ws.length),kvs[j].1=ws[j].1/\FRs (aG T kvs[j].2) ws[j].2
 inj:∀(i j a:Nat),ρ[i]? =some (some a)->ρ[j]? =some (some a)->live H i->live H j->i=j
 lt:∀(i a:Nat),ρ[i]? =some (some a)->a<h.length
def evoR(x y:Ob):Prop:=∃T xss ho,x= .rows T xss ho/\∃j d h,y= .rows j d h/\xss.length=d.length
def evo(x y:Ob):Prop:=y= .aN\/(∃T n xs n' d,x= .row T n xs/\y= .row T n' d/\xs.length=d.length/\n<=n'/\(n=n'->xs=d))\/(∃cs j,x= .box cs/\y= .box j)\/(∃T kvs h,x= .map T kvs/\y= .map T h)\/evoR x y
theorem evo.refl(x:Ob):evo x x:=by
 cases x with
 |row T n xs=>exact .inr (.inl ⟨T,n,xs,n,xs,rfl,rfl,rfl,N4 _,λ_=>rfl⟩)
 |box cs=>exact Rx
 |map T kvs=>exact Rp
 |aN=>exact RS
 |rows T xss ho=>exact .inr (.inr (.inr (.inr ⟨_,_,_,rfl,_,_,_,rfl,rfl⟩)))
theorem evo.gone'{y:Ob}(h:evo .aN y):y= .aN:=by
 rcases h with h|⟨_,_,_,_,_,h,_⟩|⟨_,_,h,_⟩|⟨_,_,_,h,_⟩|⟨_,_,_,h,_⟩
 .exact h
 all_goals cases h
theorem evo.row'{T:Ty}{n:Nat}{xs:RV (I T)}{y:Ob}(h:evo (.row T n xs) y):y= .aN\/∃n' d,y= .row T n' d/\xs.length=d.length/\n<=n'/\(n=n'->xs=d):=by
 rcases h with h|⟨_,_,_,n',d,h,h2,j,h4,t⟩|⟨_,_,h,_⟩|⟨_,_,_,h,_⟩|⟨_,_,_,h,_⟩
 .exact .inl h
 .grind
 all_goals cases h
theorem evo.rows'{T:Ty}{xss:RV (RV (I T))}{ho:Y Nat}{y:Ob}(h:evo (.rows T xss ho) y):y= .aN\/∃t d j,y= .rows t d j/\xss.length=d.length:=by
 rcases h with h|⟨_,_,_,_,_,h,_⟩|⟨_,_,h,_⟩|⟨_,_,_,h,_⟩|⟨_,_,_,h,h2⟩
 .exact .inl h
 .cases h
 .cases h
 .cases h
 .grind
theorem evo.trans{x y z:Ob}(h:evo x y)(k:evo y z):evo x z:=by
 rcases h with rfl|⟨T,n,xs,n',w,rfl,rfl,h1,h2,A⟩|⟨cs,E,rfl,rfl⟩|⟨T,p,q,rfl,rfl⟩|⟨T,xss,ho,rfl,F,t,B,rfl,G⟩
 .rw[k.gone'];exact RS
 .rcases k.row' with rfl|⟨C,xs2,rfl,k1,v,D⟩
  .exact RS
  .exact .inr (.inl ⟨T,n,xs,C,xs2,rfl,rfl,A1,A1,λe=>by rw[A A1,D A1]⟩)
 .rcases k with k|⟨_,_,_,_,_,k,_⟩|⟨_,es,_,k⟩|⟨_,_,_,k,_⟩|⟨_,_,_,k,_⟩
  .exact .inl k
  .cases k
  .exact .inr (.inr (.inl ⟨cs,es,rfl,k⟩))
  .cases k
  .cases k
 .rcases k with k|⟨_,_,_,_,_,k,_⟩|⟨_,_,k,_⟩|⟨_,_,r,k,v⟩|⟨_,_,_,k,_⟩
  .exact .inl k
  .cases k
  .cases k
  .cases k;exact .inr (.inr (.inr (.inl ⟨T,p,r,rfl,v⟩)))
  .cases k
 .rcases k.rows' with rfl|⟨T2,d,j,rfl,H⟩
  .exact RS
  .exact .inr (.inr (.inr (.inr ⟨T,xss,ho,rfl,T2,d,j,rfl,A1⟩)))
structure Ev(ρ:Rho)(H:List Ob)(ρ':Rho)(H':List Ob):Prop where
 rho:∀(id:Nat)(x:Y Nat),ρ[id]? =some x->ρ'[id]? =some x
 ob:∀(id:Nat)(x:Ob),H[id]?=some x->∃y,H'[id]? =some y/\evo x y
theorem Ev.refl(ρ:Rho)(H:RV Ob):Ev ρ H ρ H:=⟨λ_ _ h=>h,λ_ x h=>⟨x,h,evo.refl x⟩⟩
theorem CR.mono{ρ ρ':Rho}{H H':RV Ob}(e:Ev ρ H ρ' H'){c:C}{v:V}(h:CR ρ H c v):CR ρ' H' c v:=by
 induction h with
 |fl h=>exact .fl h
 |lc h=>exact .lc h
 |nil h=>exact .nil h
 | o h1 h2=>
  obtain⟨y,d,h4⟩:=e.ob _ _ h2;rcases h4.row' with rfl|⟨n',t,rfl,j,_,_⟩
  .exact .oG d
  .rw[j];exact .o (e.rho _ _ h1) d
 | oN h1 h2=>
  obtain⟨y,d,h4⟩:=e.ob _ _ h2;rcases h4.row' with rfl|⟨n',t,rfl,j,_,_⟩
  .exact .oG d
  .exact .oN (e.rho _ _ h1) d
 | oG h=>
  obtain⟨y,d,h4⟩:=e.ob _ _ h;cases h4.gone';exact .oG d
 | oR h1 h2=>
  obtain⟨y,d,h4⟩:=e.ob _ _ h2;rcases h4.rows' with rfl|⟨G,w,B,rfl,j⟩
  .exact .oG d
  .rw[j];exact .oR (e.rho _ _ h1) d
 |r h1=>exact .r (e.rho _ _ h1)
 |p h1=>exact .p (e.rho _ _ h1)
 | e h1 h2 d h4 j=>
  obtain⟨y,A,D⟩:=e.ob _ _ h2;rcases D.row' with rfl|⟨n',t,rfl,I,J,E⟩
  .exact .eG A
  .refine .e (e.rho _ _ h1) A A1 A1 (λK=> ?_);rw[<-E A1];exact j A1
 | eG h=>
  obtain⟨y,d,h4⟩:=e.ob _ _ h;cases h4.gone';exact .eG d
 |q h=>exact .q h
 |f hl hr F=>exact .f hl F
 |m h1=>exact .m (e.rho _ _ h1)
 |zs=>exact .zs
 |zP=>exact .zP
 |zM=>exact .zM
 |zF=>exact .zF
theorem CRs.mono{ρ ρ':Rho}{H H':RV Ob}(e:Ev ρ H ρ' H'){cs:RV C}{vs:RV V}(h:CRs ρ H cs vs):CRs ρ' H' cs vs:=⟨h.1,λj h1 h2=>(h.2 j h1 h2).mono e⟩
theorem ATR.mono{ρ ρ':Rho}{H H':RV Ob}(e:Ev ρ H ρ' H'){v:AT}{d:AV}(h:ATR ρ H v d):ATR ρ' H' v d:=by
 induction h with
 |one h=>exact .one (h.mono e)
 |agg h=>exact .agg (h.mono e)
 |tup hl h j=>exact .tup hl j
theorem bT.mono{ρ ρ':Rho}{H H':RV Ob}(e:Ev ρ H ρ' H'){D:RV (Nat×AT)}{L:Env}(h:bT ρ H D L):bT ρ' H' D L:=λt v d=>let⟨j,h1,h2⟩:=h t v d;⟨j,h1,h2.mono e⟩
def eM(x y:Ob):Prop:=y= .aN\/(∃T n xs n' d,x= .row T n xs/\y= .row T n' d/\xs.length=d.length)\/(∃cs j,x= .box cs/\y= .box j)\/(∃T kvs h,x= .map T kvs/\y= .map T h)\/evoR x y
theorem evo.weak{x y:Ob}(h:evo x y):eM x y:=by
 rcases h with h|⟨T,n,xs,n',d,h1,h2,j,_⟩|h|h|h
 .exact .inl h
 .exact .inr (.inl ⟨T,n,xs,n',d,h1,h2,j⟩)
 .exact .inr (.inr (.inl h))
 .exact .inr (.inr (.inr (.inl h)))
 .exact .inr (.inr (.inr (.inr h)))
theorem eM.row'{T:Ty}{n:Nat}{xs:RV (I T)}{y:Ob}(h:eM (.row T n xs) y):y= .aN\/∃n' d,y= .row T n' d/\xs.length=d.length:=by
 rcases h with h|⟨_,_,_,n',d,h,h2,j⟩|⟨_,_,h,_⟩|⟨_,_,_,h,_⟩|⟨_,_,_,h,_⟩
 .exact .inl h
 .grind
 all_goals cases h
theorem eM.rows'{T:Ty}{xss:RV (RV (I T))}{ho:Y Nat}{y:Ob}(h:eM (.rows T xss ho) y):y= .aN\/∃t d j,y= .rows t d j/\xss.length=d.length:=by
 rcases h with h|⟨_,_,_,_,_,h,_⟩|⟨_,_,h,_⟩|⟨_,_,_,h,_⟩|⟨_,_,_,h,h2⟩
 .exact .inl h
 .cases h
 .cases h
 .cases h
 .grind
theorem eM.box'{cs:RV C}{y:Ob}(h:eM (.box cs) y):y= .aN\/∃d,y= .box d:=by
 rcases h with h|⟨_,_,_,_,_,h,_⟩|⟨_,d,h,h2⟩|⟨_,_,_,h,_⟩|⟨_,_,_,h,_⟩
 .exact .inl h
 .cases h
 .grind
 .cases h
 .cases h
theorem eM.map'{T:Ty}{kvs:RV (Z×I T)}{y:Ob}(h:eM (.map T kvs) y):y= .aN\/∃d:RV (Z×I T),y= .map T d:=by
 rcases h with h|⟨_,_,_,_,_,h,_⟩|⟨_,_,h,_⟩|⟨_,_,j,h,h2⟩|⟨_,_,_,h,_⟩
 .exact .inl h
 .cases h
 .cases h
 .grind
 .cases h
theorem eM.trans{x y z:Ob}(h:eM x y)(k:eM y z):eM x z:=by
 cases x with
 | aN=>
  have:y= .aN:=by
   rcases h with h|⟨_,_,_,_,_,h,_⟩|⟨_,_,h,_⟩|⟨_,_,_,h,_⟩|⟨_,_,_,h,_⟩
   .exact h
   all_goals cases h
  subst this;exact k
 | row T n xs=>
  rcases h.row' with rfl|⟨n',t,rfl,C⟩
  .rcases k with k|⟨_,_,_,_,_,k,_⟩|⟨_,_,k,_⟩|⟨_,_,_,k,_⟩|⟨_,_,_,k,_⟩
   .exact .inl k
   all_goals cases k
  .rcases k.row' with rfl|⟨D,xs2,rfl,v⟩
   .exact RS
   .exact .inr (.inl ⟨_,_,_,_,_,rfl,rfl,A1⟩)
 | box cs=>
  rcases h.box' with rfl|⟨w,rfl⟩
  .rcases k with k|⟨_,_,_,_,_,k,_⟩|⟨_,_,k,_⟩|⟨_,_,_,k,_⟩|⟨_,_,_,k,_⟩
   .exact .inl k
   all_goals cases k
  .rcases k.box' with rfl|⟨w,rfl⟩
   .exact RS
   .exact Rx
 | map T kvs=>
  rcases h.map' with rfl|⟨E,rfl⟩
  .rcases k with k|⟨_,_,_,_,_,k,_⟩|⟨_,_,k,_⟩|⟨_,_,_,k,_⟩|⟨_,_,_,k,_⟩
   .exact .inl k
   all_goals cases k
  .rcases k.map' with rfl|⟨v,rfl⟩
   .exact RS
   .exact Rp
 | rows T xss ho=>
  rcases h.rows' with rfl|⟨F,d,A,rfl,G⟩
  .rcases k with k|⟨_,_,_,_,_,k,_⟩|⟨_,_,k,_⟩|⟨_,_,_,k,_⟩|⟨_,_,_,k,_⟩
   .exact .inl k
   all_goals cases k
  .rcases k.rows' with rfl|⟨T2,j,B,rfl,H⟩
   .exact RS
   .exact .inr (.inr (.inr (.inr ⟨_,_,_,rfl,_,_,_,rfl,A1⟩)))
theorem evo.old{x y z:Ob}(h:eM x y)(k:evo y z):eM x z:=h.trans k.weak
theorem eM.refl(x:Ob):eM x x:=by
 cases x with
 |row T n xs=>exact .inr (.inl ⟨T,n,xs,n,xs,rfl,rfl,rfl⟩)
 |box cs=>exact Rx
 |map T kvs=>exact Rp
 |aN=>exact RS
 |rows T xss ho=>exact .inr (.inr (.inr (.inr ⟨_,_,_,rfl,_,_,_,rfl,rfl⟩)))
theorem evo.lv{x y:Ob}(h:evo x y)(d:y.dead=false):x.dead=false:=by
 cases x with
 |aN=>rw[h.gone']at d;cases d
 | rows T xss ho=>
  rcases h.rows' with rfl|⟨_,_,_,rfl,_⟩<;>cases d
 |_=>rfl
theorem Ev.lv{ρ ρ':Rho}{H H':RV Ob}(e:Ev ρ H ρ' H'){id:Nat}(hi:id<H.length)(h:live H' id):live H id:=by
 obtain⟨y,h1,h2⟩:=h;have d:=gE hi;obtain⟨z,h4,j⟩:=e.ob _ _ d;rw[h1]at h4;cases h4;exact⟨_,d,j.lv h2⟩
theorem live.lt{H:RV Ob}{id:Nat}(h:live H id):id<H.length:=by
 obtain⟨x,h1,_⟩:=h;exact(gI.1 h1).1
structure In where
 h:aD
 ρ:Rho
 H:List Ob
structure Fr(F:In)(ρ:Rho)(H:List Ob)(h:aD):Prop where
 len:F.h.length<=h.length
 old:∀(id a:Nat),ρ[id]? =some (some a)->live H id->a<F.h.length->∃id0,F.ρ[id0]? =some (some a)/\live F.H id0
 same:∀(a:Nat),a<F.h.length->(∀(id:Nat),F.ρ[id]?=some (some a)->¬live F.H id)->h[a]? =F.h[a]?
 rho:∀(id:Nat)(x:Y Nat),F.ρ[id]? =some x->ρ[id]? =some x
 ob:∀(id:Nat)(x:Ob),F.H[id]?=some x->∃y,H[id]? =some y/\eM x y
def jN(ρ:Rho)(H:RV Ob)(a:Nat):Prop:=∀(j:Nat),ρ[j]? =some (some a)->¬live H j
def K8(F:In)(a:Nat):Prop:=a<F.h.length->∃d,F.ρ[d]? =some (some a)/\live F.H d
def SubR(h:aD)(T:Ty)(xs:RV (I T))(e:RV V):Prop:=(e=[.lit (.slice none 0 0)]/\xs=[])\/∃b es,e=[.own b 0 xs.length]/\h[b]? =some (some (.row (szT T) es))/\FR (.l T xs) (.imm (szT T) es)
structure XAt(F:In)(ρ:Rho)(H:List Ob)(h:aD)(id:Nat)(T:Ty)(xss:List (List (I T)))(ho:Y Nat)(a:Nat)(es:List (List V)):Prop where
 rho:ρ[id]?=some (some a)
 aq:h[a]?=some (some (.row 1 es))
 len:es.length=xss.length
 pos:0<szT T
 one:∀e∈es,e.length=1
 nl:jN ρ H a
 old:K8 F a
 new:F.H[id]?=none
 sub:∀(k:Nat)(xs:List (I T))(e:List V),ho≠some k->xss[k]? =some xs->es[k]? =some e->SubR h T xs e
 ak:∀(k b n:Nat),ho≠some k->es[k]? =some [.own b 0 n]->b≠a/\b<h.length/\jN ρ H b/\K8 F b
 inj:∀(k k' b n n':Nat),ho≠some k->ho≠some k'->es[k]? =some [.own b 0 n]->es[k']? =some [.own b 0 n']->k=k'
def XR(F:In)(ρ:Rho)(H:RV Ob)(h:aD):Prop:=∀(id:Nat)(T:Ty)(xss:RV (RV (I T)))(ho:Y Nat),H[id]? =some (.rows T xss ho)->
 (∀(id':Nat)(y:Ob),H[id']?=some y->y.eR=true->id'=id)/\∃a es,XAt F ρ H h id T xss ho a es
structure SR0(F:In)(ρ:Rho)(st:St)(L:Env)(h:aD):Prop where
 aO:bT ρ st.H st.L L
 heap:HpR ρ st.H h
 fr:Fr F ρ st.H h
structure SR(F:In)(ρ:Rho)(st:St)(L:Env)(h:aD):Prop where
 aO:bT ρ st.H st.L L
 heap:HpR ρ st.H h
 fr:Fr F ρ st.H h
 xr:XR F ρ st.H h
theorem CRs.et{ρ:Rho}{H:RV Ob}:CRs ρ H [] []:=⟨rfl,λj h=>H0⟩
theorem CRs.cons{ρ:Rho}{H:RV Ob}{c:C}{v:V}{cs:RV C}{vs:RV V}(h:CR ρ H c v)(hs:CRs ρ H cs vs):CRs ρ H (c::cs) (v::vs):=
 ⟨by simp[hs.1],fun j h1 h2=>by
  cases j with
  |zero=>exact h
  |succ j=>exact hs.2 j Hl HA⟩
theorem CRs.app{ρ:Rho}{H:RV Ob}{a b:RV C}{x y:RV V}(h:CRs ρ H a x)(k:CRs ρ H b y):CRs ρ H (a++b) (x++y):=
 ⟨by simp [h.1,k.1],fun j h1 h2=>by
   by_cases t:j<a.length
   · have d:j<x.length:=by rw[<-h.1];exact t
     rw[O4 t,O4 d];exact h.2 j t d
   · have d:¬j<x.length:=by rw[<-h.1];exact t
     rw[O2 A1,O2 A1];have:=k.2 (j-a.length) K0 Q7;have e:=h.1;simp only[e]at this ⊢;exact this⟩
theorem CRs.take{ρ:Rho}{H:RV Ob}{a:RV C}{x:RV V}(h:CRs ρ H a x)(n:Nat):CRs ρ H (a.take n) (x.take n):=
 ⟨PY,fun j h1 h2=>by
  simp only[P3];exact h.2 j K0 PU⟩
theorem CRs.drop{ρ:Rho}{H:RV Ob}{a:RV C}{x:RV V}(h:CRs ρ H a x)(n:Nat):CRs ρ H (a.drop n) (x.drop n):=
 ⟨PY,fun j h1 h2=>by
  simp only[Oy];exact h.2 (n+j) K0 PU⟩
theorem FRs.cr{ρ:Rho}{H:RV Ob}{cs:RV C}{vs:RV V}(h:FRs cs vs):CRs ρ H cs vs:=⟨h.1,λj h1 h2=>.fl (h.2 j h1 h2)⟩
theorem FR.elem{T:Ty}{xs:RV (I T)}{es:RV (RV V)}(h:FR (.l T xs) (.imm (szT T) es)){m:Nat}{x:I T}(hx:xs[m]? =some x):∃e,es[m]? =some e/\FRs (aG T x) e:=by
 cases h with
 | l hp hl hs hr=>
  obtain⟨h1,rfl⟩:=gI.1 hx;have h2:m<es.length:=A1
  refine⟨es[m],gE h2,?_,λj d h4=>hr m h1 h2 j d h4⟩;rw[db T hp,hs _ (gM h2)]
theorem FR.et{T:Ty}(hp:0<szT T):FR (.l T []) (.imm (szT T) []):=.l hp rfl (λe he=>by simp at he) (λm h1=>QO)
theorem FR.flat{c:C}{v:V}(h:FR c v):v.flat=true:=by cases h<;>rfl
theorem FR.iK{T:Ty}{xs:RV (I T)}{es:RV (RV V)}(h:FR (.l T xs) (.imm (szT T) es)):es.all (·.all V.flat)=true:=by
 cases h with
 | l hp hl hs hr=>
  rw[aT];intro e he;rw[aT];intro v d;obtain⟨m,hm,rfl⟩:=P6 he;obtain⟨j,t,rfl⟩:=P6 d;have:=hs _ (gM hm);exact(hr m A1 hm j (by rw[db T hp];omega) t).flat
theorem tM{ρ:Rho}{H:RV Ob}{u:Value}{c:C}(h1:qQ u=some c):Abs.de u=true/\CR ρ H c (.lit u):=by
 unfold qQ at h1;cases hb:Abs.de u with
 |false=>rw[hb]at h1;simp at h1
 | true=>
  rw[hb]at h1;simp only[cT]at h1;refine⟨rfl,?_⟩;split at h1<;>first|(cases h1;done)|cases h1
  .exact .fl .b
  .exact .fl .i
  .exact .fl .k
  .exact .fl .s
  .exact .zs
  .exact .zP
  .exact .zM
  .exact .zF
theorem sG{ρ:Rho}{H:RV Ob}:∀{us:RV Value}{cs:RV C},qm us=some cs->us.all Abs.de=true/\CRs ρ H cs (us.map V.lit)
 |[],_,h=>by cases h;exact⟨rfl,rfl,λj h=>H0⟩
 | u::us,cs,h=>by
  unfold qm at h;split at h
  .rename_i c d h1 h2;cases h;obtain⟨k1,t⟩:=tM (ρ:=ρ) (H:=H) h1;obtain⟨v,w,y⟩:=sG (ρ:=ρ) (H:=H) h2;refine⟨by simp[k1,v],QX,λj g1 A=> ?_⟩;cases j with
   |zero=>exact t
   |succ j=>exact y j Qh (by simpa using A)
  .cases h
theorem aP{ρ:Rho}{H:RV Ob}{D:RV (Nat×AT)}{L:Env}(hs:bT ρ H D L){x:Operand}{v:AT}(h:ev D x=some v):∃w,Abs.ev L x=some w/\ATR ρ H v w:=by
 cases x with
 |tmp t=>exact hs t v h
 | const u=>
  by_cases d:∃cs,u= .agg cs
  .obtain⟨cs,rfl⟩:=d;simp only[ev,H8,O3]at h;obtain⟨A,h1,rfl⟩:=h;obtain⟨k1,y⟩:=sG (ρ:=ρ) (H:=H) h1;exact⟨.agg (cs.toList.map V.lit),by simp only[Abs.ev,Abs.nC];rw[N1 k1],.agg y⟩
  .have h:(qQ u).map .one=some v:=by
    cases u<;>first|exact absurd ⟨_,rfl⟩ d|exact h
   simp only[O3]at h;obtain⟨c,h1,rfl⟩:=h;obtain⟨hb,k⟩:=tM (ρ:=ρ) (H:=H) h1;refine⟨.one (.lit u),?_,.one k⟩;cases u<;>first|exact absurd ⟨_,rfl⟩ d|(simp only[Abs.ev,Abs.nC];rw[N1 hb])
 | func f=>
  simp only[ev,NQ]at h;subst h;exact⟨_,rfl,.one (.f rfl (λj h=>H0))⟩
 |global g=>simp[ev]at h
end
section
open Abs (V AV Env aD ar)
def zC:Value->C->Bool
 | .int .i64 0,.i 0=>true
 | .int k 0,.k k' 0=>k==k'
 | .bool false,.b false=>true
 | .string s,.s s'=>s.size==0&&s'.size==0
 | .slice none 0 0,.nil T=>Nat.blt 0 (szT T)
 | .pointer none,.z=>true
 | .map none,.z=>true
 | .nilFunc,.z=>true
 |_,_=>false
def nE:RV Value->RV C->Bool
 |[],[]=>true
 |v::vs,c::cs=>zC v c&&nE vs cs
 |_,_=>false
def ra:Value->C->Bool
 | .int .i64 0,.i 0=>true
 | .int .u8 0,.k .u8 0=>true
 | .bool false,.b false=>true
 | .string s,.s s'=>s.size==0&&s'.size==0
 | .slice none 0 0,.l T []=>Nat.blt 0 (szT T)
 |_,_=>false
def fD:RV Value->RV C->Bool
 |[],[]=>true
 |v::vs,c::cs=>ra v c&&fD vs cs
 |_,_=>false
def LR(i:Abs.TyI)(d:TI):Bool:=
 i.size==d.size&&i.agg==d.agg&&nE i.zero d.zero&&decide (i.fields=d.fields)&&i.fields.all (λf=>Nat.blt 0 f.2.2)&&Nat.blt 0 i.zero.length&&Nat.blt 0 i.size&&
 (!d.str||(match i.desc with| .string=>true|_=>false))&&(!d.i64||(match i.desc with| .int .i64=>true|_=>false))&&(!d.bool||(match i.desc with| .bool=>true|_=>false))&&
 (match d.kd with
 |none=>true
 |some k=>match i.desc with| .int k'=>decide (k'=k)|_=>false)&&
 (match d.elem with
 |none=>true
 | some T=>match i.elem,jq T with
  |some h,some z=>h.size==szT T&&Nat.blt 0 (szT T)&&h.zero.length==h.size&&fD h.zero (aG T z)&&Nat.ble h.bytes 4096&&Nat.ble h.size 4096
  |_,_=>false)
noncomputable def BC(P:Program)(t:Nat)(d:TI):Bool:=(match d.map with
 |none=>true
 | some T=>match Abs.xU P t,jq T with
  |some m,some z=>Nat.blt 0 (szT T)&&fD m.zero (aG T z)
  |_,_=>false)&&
 (match d.elem with
 | some .u=>match P.underlying t with
  | some (.slice e)=>match P.underlying e with
   |some (.int .u8)=>true
   |_=>false
  |_=>false
 |_=>true)
def bx(P:Program)(tb:Nat->Y TI):Prop:=∀t d,tb t=some d->∃i,Abs.uL P t=some i/\LR i d=true/\BC P t d=true
def cI(P:Program)(o:Oper)(E:Abs.Cx)(ρ:Rho)(H:RV Ob)(L:Env)(h:aD)(v:AT):Prop:=∃d,ATR ρ H v d/\ar P o E (λL2 h2=>L2=Abs.cK o.dst d L/\h2=h) L h
structure TyF(P:Program)(t:Nat)(ti:TI)(i:Abs.TyI):Prop where
 tb:Abs.cV P [(t,i)]
 look:List.lookup t [(t,i)]=some i
 size:i.size=ti.size
 agg:i.agg=ti.agg
 zero:nE i.zero ti.zero=true
 ty:Abs.uL P t=some i
 field:∀(f fo ft sz:Nat),ti.fields[f]? =some (fo,ft,sz)->i.fields[f]? =some (fo,ft,sz)/\0<sz
 fields:i.fields=ti.fields
 fpos:i.fields.all (λf=>decide (0<f.2.2))=true
 zne:i.zero≠[]
 str:ti.str=true->i.desc= .string
 i64:ti.i64=true->i.desc= .int .i64
 bool:ti.bool=true->i.desc= .bool
 kd:∀k,ti.kd=some k->i.desc= .int k
 map:∀T,ti.map=some T->∃m z,Abs.xU P t=some m/\jq T=some z/\0<szT T/\fD m.zero (aG T z)=true
 u8:ti.elem=some .u->∃e,P.underlying t=some (.slice e)/\P.underlying e=some (.int .u8)
 elem:∀T,ti.elem=some T->∃el z,i.elem=some el/\Abs.gb [(t,i)] t=some el/\jq T=some z/\el.size=szT T/\0<szT T/\el.zero.length=el.size/\fD el.zero (aG T z)=true/\Nat.ble el.bytes 4096=true/\Nat.ble el.size 4096=true
theorem bx.get{P:Program}{tb:Nat->Y TI}(w:bx P tb){t:Nat}{y:TI}(ht:tb t=some y):∃i,TyF P t y i:=by
 obtain⟨i,h1,h2,d⟩:=w t y ht;simp only[LR,bA,beq_iff_eq,NO,aT,Pd,OF]at h2;obtain⟨⟨⟨⟨⟨⟨⟨⟨⟨⟨⟨E,h4⟩,F⟩,B⟩,C⟩,D⟩,_⟩,R⟩,G⟩,H⟩,j⟩,h⟩:=h2;have hl:List.lookup t [(t,i)]=some i:=C3
 refine⟨i,Abs.iZ h1 (Abs.qR P),hl,E,h4,F,h1,λf fo ft sz v=> ?_,B,?_,?_,λhs=> ?_,λhs=> ?_,λhs=> ?_,λk hk=> ?_,λT A=> ?_,λI=> ?_,λT A=> ?_⟩
 .rw[<-B]at v;have:=C _ (mG v);exact⟨v,by simpa [OB]using this⟩
 .rw[aT];intro f v;have:=C f v;simpa [OB]using this
 .intro e;rw[e]at D;simp at D
 .grind
 .grind
 .grind
 .rw[hk]at j;simp only at j;split at j
  .grind
  .cases j
 .unfold BC at d;rw[bA]at d
  replace d:=d.1
  rw[A]at d;simp only at d;split at d
  .simp_all
  .cases d
 .unfold BC at d;rw[bA]at d
  replace d:=d.2
  rw[I]at d;simp only at d;split at d
  .grind
  .cases d
 .rw[A]at h;simp only at h;split at h
  .rename_i J z he K;simp only[bA,beq_iff_eq]at h;obtain⟨⟨⟨⟨⟨g1,L⟩,M⟩,N⟩,O⟩,Q⟩:=h;exact⟨J,z,he,by unfold Abs.gb;rw[hl];exact he,K,g1,by simpa [OB]using L,M,N,O,Q⟩
  .cases h
theorem yC{ρ:Rho}{H:RV Ob}{agg:Bool}{size:Nat}{cs:RV C}{vs:RV V}{v:AT}(h:ld agg size cs=some v)(hc:CRs ρ H cs vs):∃d,Abs.uJ agg size vs=some d/\ATR ρ H v d:=by
 unfold ld at h;unfold Abs.uJ;cases agg with
 | true=>
  simp only[if_true]at h ⊢;split at h
  .rename_i hb;have hb:size<=cs.length:=NX hb;cases h;rw[N1 (by rw[<-hc.1];exact hb)];exact⟨_,rfl,.agg (hc.take size)⟩
  .cases h
 | false=>
  simp only[PJ,if_false]at h ⊢;cases cs with
  |nil=>simp at h
  | cons c cs=>
   cases vs with
   |nil=>have:=hc.1;simp at this
   | cons x vs=>
    simp only[List.head?_cons,OG,NQ]at h;subst h;exact⟨_,rfl,.one (hc.2 0 C3 C3)⟩
section
variable {P : Program} {E : Abs.Cx} {ρ : Rho} {H : RV Ob} {D : RV (Nat × AT)} {L : Env} {h : aD} {d : Nat} {ty : TypeId} {pos : String} {af : Array Edge} {gd : Y (Nat × Bool)} {R : Type} {K : AT → Y R} {r : R} {tb : Nat → Y TI} {O : Orc}
theorem ATR.aY{c:C}{d:AV}(h:ATR ρ H (.one c) d):∃v,d= .one v/\CR ρ H c v:=by cases h with|one h=>exact⟨_,rfl,h⟩
theorem ATR.agg'{cs:RV C}{d:AV}(h:ATR ρ H (.agg cs) d):∃vs,d= .agg vs/\CRs ρ H cs vs:=by cases h with|agg h=>exact⟨_,rfl,h⟩
theorem CR.int{x:Int}{v:V}(h:CR ρ H (.i x) v):v= .lit (.int .i64 x):=Q2
theorem CR.pT{k:IntKind}{x:Int}{v:V}(h:CR ρ H (.k k x) v):v= .lit (.int k x):=Q2
theorem CR.bool{x:Bool}{v:V}(h:CR ρ H (.b x) v):v= .lit (.bool x):=Q2
theorem CR.str{x:Z}{v:V}(h:CR ρ H (.s x) v):v= .lit (.string x):=Q2
theorem CR.list{T:Ty}{xs:RV (I T)}{v:V}(h:CR ρ H (.l T xs) v):∃es,v= .imm (szT T) es/\FR (.l T xs) (.imm (szT T) es):=by
 cases h with|fl h=>cases h with|l a b c d=>exact⟨_,rfl,.l a b c d⟩
theorem CR.ptr{id off:Nat}{v:V}(h:CR ρ H (.p id off) v):∃a,v= .ptr a 0 off/\ρ[id]? =some (some a):=by
 cases h with
 |p h1=>exact⟨_,rfl,h1⟩
 |fl h=>cases h
theorem CR.qptr{T:Ty}{x:I T}{off:Nat}{v:V}(h:CR ρ H (.q T x off) v):∃vs,v= .gy (szT T) (vs.drop off)/\FRs (aG T x) vs:=by
 cases h with
 |q h1=>exact⟨_,rfl,h1⟩
 |fl h=>cases h
theorem CR.eptr{id m n n' off:Nat}{T d:Ty}{x:I T}{ys:RV (I d)}{v:V}(h:CR ρ H (.e id m n T x off) v)(hr:H[id]? =some (.row d n' ys)):∃a xs,v= .ptr a m off/\ρ[id]? =some (some a)/\H[id]? =some (.row T n' xs)/\m<xs.length/\n<=n'/\(n=n'->xs[m]? =some x):=by
 cases h with
 |e h1 h2 j h4 t=>rw[h2]at hr;cases hr;exact⟨_,_,rfl,h1,h2,j,h4,t⟩
 |eG h=>rw[h]at hr;cases hr
 |fl h=>cases h
theorem CR.own{id n:Nat}{T:Ty}{xs:RV (I T)}{v:V}(h:CR ρ H (.o id) v)(hr:H[id]? =some (.row T n xs)):(∃a,v= .own a 0 xs.length/\ρ[id]? =some (some a))\/(v= .lit (.slice none 0 0)/\ρ[id]? =some none):=by
 cases h with
 |o h1 h2=>rw[h2]at hr;cases hr;exact .inl ⟨_,rfl,h1⟩
 |oN h1 h2=>exact .inr ⟨rfl,h1⟩
 |oG h=>rw[h]at hr;cases hr
 |oR h1 h2=>rw[h2]at hr;cases hr
 |fl h=>cases h
theorem CR.ownR{id:Nat}{T:Ty}{xss:RV (RV (I T))}{ho:Y Nat}{v:V}(h:CR ρ H (.o id) v)(hr:H[id]? =some (.rows T xss ho)):∃a,v= .own a 0 xss.length/\ρ[id]? =some (some a):=by
 cases h with
 |o h1 h2=>rw[h2]at hr;cases hr
 |oN h1 h2=>rw[h2]at hr;cases hr
 |oG h=>rw[h]at hr;cases hr
 |oR h1 h2=>rw[h2]at hr;cases hr;exact⟨_,rfl,h1⟩
 |fl h=>cases h
theorem CF(j:bx P tb)(hs:bT ρ H D L)(y:d<E.n){t f fo ft sz id off:Nat}{w:TI}{x:Operand}(ht:tb t=some w)(hx:ev D x=some (.one (.p id off)))(A:w.fields[f]? =some (fo,ft,sz)):
  cI P ⟨some d,.fieldAddr t x f,ty,pos,af,gd⟩ E ρ H L h (.one (.p id (off+fo))):=by
 obtain⟨i,F⟩:=j.get ht;obtain⟨I,h1,h2⟩:=aP hs hx;obtain⟨v,rfl,B⟩:=h2.aY;obtain⟨a,rfl,h4⟩:=B.ptr;obtain⟨C,G⟩:=F.field f fo ft sz A;exact⟨_,.one (.p h4),Abs.uB F.tb h1 F.look C G y ⟨rfl,rfl⟩⟩
theorem D3(j:bx P tb)(hs:bT ρ H D L)(A:d<E.n){t f fo ft sz off:Nat}{T:Ty}{y:I T}{w:TI}{x:Operand}(ht:tb t=some w)(hx:ev D x=some (.one (.q T y off)))(B:w.fields[f]? =some (fo,ft,sz)):
  cI P ⟨some d,.fieldAddr t x f,ty,pos,af,gd⟩ E ρ H L h (.one (.q T y (off+fo))):=by
 obtain⟨i,F⟩:=j.get ht;obtain⟨K,h1,h2⟩:=aP hs hx;obtain⟨v,rfl,C⟩:=h2.aY;obtain⟨vs,rfl,h4⟩:=C.qptr;obtain⟨G,J⟩:=F.field f fo ft sz B;refine⟨_,.one (.q h4),Abs.Dv F.tb h1 F.look G J A ⟨?_,rfl⟩⟩;rw[List.drop_drop];rfl
theorem Ey(j:bx P tb)(hs:bT ρ H D L)(B:d<E.n){t f fo ft sz off id m n n':Nat}{T w:Ty}{y:I T}{ys:RV (I w)}{A:TI}{x:Operand}(ht:tb t=some A)(hx:ev D x=some (.one (.e id m n T y off)))(hr:H[id]? =some (.row w n' ys))(C:A.fields[f]? =some (fo,ft,sz)):
  cI P ⟨some d,.fieldAddr t x f,ty,pos,af,gd⟩ E ρ H L h (.one (.e id m n T y (off+fo))):=by
 obtain⟨i,F⟩:=j.get ht;obtain⟨Q,h1,h2⟩:=aP hs hx;obtain⟨v,rfl,G⟩:=h2.aY;obtain⟨a,xs,rfl,h4,J,K,k1,M⟩:=G.eptr hr;obtain⟨N,O⟩:=F.field f fo ft sz C;exact⟨_,.one (.e h4 J K k1 M),Abs.uB F.tb h1 F.look N O B ⟨rfl,rfl⟩⟩
theorem H4(j:bx P tb)(hs:bT ρ H D L)(B:HpR ρ H h)(G:d<E.n){t id off:Nat}{w:TI}{x:Operand}{cs:RV C}{v:AT}(ht:tb t=some w)(hx:ev D x=some (.one (.p id off)))(hb:H[id]? =some (.box cs))(hl:ld w.agg w.size (cs.drop off)=some v):
  cI P ⟨some d,.load t x,ty,pos,af,gd⟩ E ρ H L h v:=by
 obtain⟨i,F⟩:=j.get ht;obtain⟨y,h1,h2⟩:=aP hs hx;obtain⟨u,rfl,I⟩:=h2.aY;obtain⟨a,rfl,h4⟩:=I.ptr;obtain⟨O,vs,A,J,K⟩:=B.box id cs hb;rw[h4]at A;cases A;obtain⟨y,M,N⟩:=yC hl (K.drop off);exact⟨y,N,Abs.xD F.tb h1 F.look J rfl (by rw[F.size,F.agg];exact M) G ⟨rfl,rfl⟩⟩
theorem G9(j:bx P tb)(hs:bT ρ H D L)(B:d<E.n){t off:Nat}{w:TI}{x:Operand}{T:Ty}{y:I T}{v:AT}(ht:tb t=some w)(hx:ev D x=some (.one (.q T y off)))(hl:ld w.agg w.size ((aG T y).drop off)=some v):
  cI P ⟨some d,.load t x,ty,pos,af,gd⟩ E ρ H L h v:=by
 obtain⟨i,F⟩:=j.get ht;obtain⟨A,h1,h2⟩:=aP hs hx;obtain⟨u,rfl,C⟩:=h2.aY;obtain⟨vs,rfl,h4⟩:=C.qptr;obtain⟨A,G,J⟩:=yC (ρ:=ρ) (H:=H) hl (h4.cr.drop off);exact⟨A,J,Abs.Gg F.tb h1 F.look (by rw[F.size,F.agg];exact G) B ⟨rfl,rfl⟩⟩
theorem HpR.at_(d:HpR ρ H h){id a n:Nat}{T:Ty}{xs:RV (I T)}(h1:ρ[id]? =some (some a))(h2:H[id]? =some (.row T n xs)):∃es,h[a]? =some (some (.row (szT T) es))/\FR (.l T xs) (.imm (szT T) es):=by
 rcases d.row id n T xs h2 with⟨t,es,j,h4,v⟩|⟨j,_⟩
 .grind
 .grind
theorem yE(j:bx P tb)(hs:bT ρ H D L)(M:HpR ρ H h)(N:d<E.n){t off id m n n':Nat}{w:TI}{x:Operand}{T:Ty}{y G:I T}{ys:RV (I T)}{v:AT}(ht:tb t=some w)(hx:ev D x=some (.one (.e id m n T y off)))(hr:H[id]? =some (.row T n' ys))(O:ys[m]? =some G)(hl:ld w.agg w.size ((aG T G).drop off)=some v):
  cI P ⟨some d,.load t x,ty,pos,af,gd⟩ E ρ H L h v:=by
 obtain⟨i,F⟩:=j.get ht;obtain⟨J,h1,h2⟩:=aP hs hx;obtain⟨u,rfl,Q⟩:=h2.aY;obtain⟨a,xs,rfl,h4,K,V,k1,W⟩:=Q.eptr hr;rw[hr]at K;cases K;obtain⟨es,R,S⟩:=M.at_ h4 hr;obtain⟨e,U,A⟩:=S.elem O;obtain⟨J,B,C⟩:=yC (ρ:=ρ) (H:=H) hl (A.cr.drop off);exact⟨J,C,Abs.xD F.tb h1 F.look R U (by rw[F.size,F.agg];exact B) N ⟨rfl,rfl⟩⟩
theorem Cl{α:Type}{xs:RV α}{i:Int}{x:α}(h:ix xs i=some x):0<=i/\xs[i.toNat]? =some x:=by
 unfold ix at h;by_cases hi:0<=i
 .grind
 .simp[hi]at h
theorem CE(v:bx P tb)(hs:bT ρ H D L)(B:d<E.n){t:Nat}{A:TI}{x y:Operand}{T w:Ty}{xs:RV (I T)}{i:Int}{e:I T}(ht:tb t=some A)(he:A.elem=some w)(j:szT w=szT T)(hx:ev D x=some (.one (.l T xs)))(C:ev D y=some (.one (.i i)))(hi:ix xs i=some e):
  cI P ⟨some d,.indexAddr t x y,ty,pos,af,gd⟩ E ρ H L h (.one (.q T e 0)):=by
 obtain⟨U,F⟩:=v.get ht;obtain⟨V,z,_,g1,_,G,J,_⟩:=F.elem w he;obtain⟨W,h1,h2⟩:=aP hs hx;obtain⟨u,rfl,K⟩:=h2.aY;obtain⟨es,rfl,h4⟩:=K.list;obtain⟨aw,k1,M⟩:=aP hs C;obtain⟨u,rfl,N⟩:=M.aY;cases N.int;obtain⟨O,Q⟩:=Cl hi;obtain⟨X,R,S⟩:=h4.elem Q;exact⟨_,.one (.q (off:=0) S),Abs.yJ F.tb h1 k1 g1 (G.trans j) (j▸J) O R B ⟨rfl,rfl⟩⟩
theorem D6(v:bx P tb)(hs:bT ρ H D L)(B:HpR ρ H h)(J:d<E.n){t id:Nat}{C:TI}{x y:Operand}{n:Nat}{T w:Ty}{xs:RV (I T)}{i:Int}{e:I T}(ht:tb t=some C)(he:C.elem=some w)(j:szT w=szT T)(hx:ev D x=some (.one (.o id)))(hr:H[id]? =some (.row T n xs))(K:ev D y=some (.one (.i i)))(hi:ix xs i=some e):
  cI P ⟨some d,.indexAddr t x y,ty,pos,af,gd⟩ E ρ H L h (.one (.e id i.toNat n T e 0)):=by
 obtain⟨U,F⟩:=v.get ht;obtain⟨V,z,_,g1,_,M,N,_⟩:=F.elem w he;obtain⟨W,h1,h2⟩:=aP hs hx;obtain⟨u,rfl,O⟩:=h2.aY;obtain⟨aw,k1,Q⟩:=aP hs K;obtain⟨u,rfl,R⟩:=Q.aY;cases R.int;obtain⟨S,G⟩:=Cl hi;have hlt:=(gI.1 G).1;rcases O.own hr with⟨a,rfl,h4⟩|⟨_,h4⟩
 .obtain⟨es,A,X⟩:=B.at_ h4 hr;refine⟨_,.one (.e (off:=0) h4 hr hlt (N4 _) (λ_=>G)),Abs.wL F.tb h1 k1 g1 A (M.trans j) (j▸N) S A1 J ⟨?_,rfl⟩⟩;simp[Abs.cK]
 .rcases B.row id n T xs hr with⟨Y,es,A,_⟩|⟨_,A⟩
  .grind
  .grind
theorem Co(hs:bT ρ H D L)(j:d<E.n){c a b:Operand}{p:Bool}{v:AT}(hc:ev D c=some (.one (.b p)))(w:ev D (if p then a else b)=some v):cI P ⟨some d,.pick c a b,ty,pos,af,gd⟩ E ρ H L h v:=by
 obtain⟨aw,k1,y⟩:=aP hs hc;obtain⟨u,rfl,A⟩:=y.aY;cases A.bool;obtain⟨t,h1,h2⟩:=aP hs w;cases p with
 |true=>exact⟨t,h2,Abs.Gp k1 rfl h1 j ⟨rfl,rfl⟩⟩
 |false=>exact⟨t,h2,Abs.Fl k1 rfl h1 j ⟨rfl,rfl⟩⟩
theorem LP(hs:bT ρ H D L)(j:d<E.n){t:TypeId}{x:Operand}{p:Bool}(hx:ev D x=some (.one (.b p))):cI P ⟨some d,.unOp .not t x,ty,pos,af,gd⟩ E ρ H L h (.one (.b (!p))):=by
 obtain⟨aw,k1,v⟩:=aP hs hx;obtain⟨u,rfl,w⟩:=v.aY;cases w.bool;exact⟨_,.one (.fl .b),Abs.LH k1 j ⟨rfl,rfl⟩⟩
theorem zy(hs:bT ρ H D L)(t:d<E.n){x:Operand}{j:Nat}{xs:RV AT}{v:AT}(hx:ev D x=some (.tup xs))(w:xs[j]? =some v):cI P ⟨some d,.extract x j,ty,pos,af,gd⟩ E ρ H L h v:=by
 obtain⟨aw,k1,y⟩:=aP hs hx;cases y with
 | tup hl hr=>
  obtain⟨h1,rfl⟩:=gI.1 w;exact⟨_,hr j h1 A1,Abs.AJ k1 (gE A1) t ⟨rfl,rfl⟩⟩
theorem IJ(hs:bT ρ H D L)(j:d<E.n){x:Operand}{id off:Nat}(hx:ev D x=some (.one (.p id off))):cI P ⟨some d,.nilCheck x,ty,pos,af,gd⟩ E ρ H L h (.one (.p id off)):=by
 obtain⟨w,h1,h2⟩:=aP hs hx;obtain⟨v,rfl,t⟩:=h2.aY;obtain⟨a,rfl,h4⟩:=t.ptr;exact⟨_,h2,Abs.Kv h1 j ⟨rfl,rfl⟩⟩
theorem JS(hs:bT ρ H D L)(j:d<E.n){x:Operand}{T:Ty}{y:I T}{off:Nat}(hx:ev D x=some (.one (.q T y off))):cI P ⟨some d,.nilCheck x,ty,pos,af,gd⟩ E ρ H L h (.one (.q T y off)):=by
 obtain⟨w,h1,h2⟩:=aP hs hx;obtain⟨v,rfl,t⟩:=h2.aY;obtain⟨vs,rfl,h4⟩:=t.qptr;exact⟨_,h2,Abs.Jx h1 j ⟨rfl,rfl⟩⟩
theorem Nr(y:bx P tb)(hs:bT ρ H D L)(Q:d<E.n){w t:Nat}{K B:TI}{x:Operand}{a:Int}(C:tb w=some B)(ht:tb t=some K)(hi:K.i64=true)(hx:ev D x=some (.one (.k .u8 a))):cI P ⟨some d,.convert w t x,ty,pos,af,gd⟩ E ρ H L h (.one (.i a)):=by
 obtain⟨R,S⟩:=y.get C;obtain⟨i,F⟩:=y.get ht;obtain⟨V,h1,h2⟩:=aP hs hx;obtain⟨v,rfl,T⟩:=h2.aY;cases T.pT;have M:=S.ty;have N:=F.ty;have O:=F.i64 hi;obtain⟨A,G⟩:∃A,A=R:=⟨_,rfl⟩;obtain⟨j,I⟩:∃j,j=i:=⟨_,rfl⟩;rw[<-G]at M;rw[<-I]at N O;have tbl:Abs.cV P ([(w,A),(t,j)]:Abs.Tbl):=Abs.iZ M (Abs.iZ N (Abs.qR P));have l2:∃J,List.lookup t ([(w,A),(t,j)]:Abs.Tbl)=some J/\J.desc= .int .i64:=by
  by_cases e:t=w
  .grind
  .have U:(t==w)=false:=Qu
   exact⟨j,by simp[NT,U],O⟩
 obtain⟨J,l3,l4⟩:=l2;exact⟨_,.one (.fl .i),Abs.DS tbl h1 (i:=A) C3 l3 l4 Q ⟨rfl,rfl⟩⟩
theorem Km(j:bx P tb)(hs:bT ρ H D L)(A:d<E.n){t:Nat}{y:TI}{x:Operand}{s:Z}(ht:tb t=some y)(w:y.str=true)(hx:ev D x=some (.one (.s s))):
  cI P ⟨some d,.call ⟨.builtin .len,#[x],#[t]⟩,ty,pos,af,gd⟩ E ρ H L h (.one (.i s.size)):=by
 obtain⟨i,F⟩:=j.get ht;obtain⟨C,h1,h2⟩:=aP hs hx;obtain⟨v,rfl,B⟩:=h2.aY;cases B.str;exact⟨_,.one (.fl .i),Abs.DY F.tb h1 F.look (F.str w) A ⟨rfl,rfl⟩⟩
theorem JM(j:HpR ρ H h){c:C}{v:V}{n:Int}(hc:CR ρ H c v)(hl:AO H c=some n):∃m:Nat,n=m/\Abs.lenV v=some m:=by
 cases c<;>simp only[AO,NQ,reduceCtorEq]at hl
 .subst hl;obtain⟨es,rfl,h4⟩:=hc.list;cases h4 with
  |l _ hl _ _=>exact⟨_,rfl,by simp[Abs.lenV,hl]⟩
 .subst hl;cases hc with
  |fl h=>cases h
  |lc h=>cases h with|l _ hl _ _=>exact⟨_,rfl,by simp[Abs.lenV,hl]⟩
 .subst hl;cases hc with
  |fl h=>cases h
  |nil _=>exact⟨0,rfl,rfl⟩
 .split at hl
  .rename_i T n xs hr;cases hl;rcases hc.own hr with⟨a,rfl,h4⟩|⟨rfl,h4⟩
   .exact⟨_,rfl,rfl⟩
   .rcases j.row _ n T xs hr with⟨t,es,d,_⟩|⟨_,d⟩
    .grind
    .obtain⟨d,_⟩:=d;subst d;exact⟨0,rfl,rfl⟩
  .rename_i T xss ho hr;cases hl;obtain⟨a,rfl,h4⟩:=hc.ownR hr;exact⟨_,rfl,rfl⟩
  .cases hl
 .subst hl;cases hc with
  |fl h=>cases h
  |zs=>exact⟨0,rfl,rfl⟩
theorem Mj(j:bx P tb)(hs:bT ρ H D L)(y:HpR ρ H h)(A:d<E.n){t:Nat}{w:TI}{T:Ty}{x:Operand}{c:C}{n:Int}(ht:tb t=some w)(he:w.elem=some T)(hx:ev D x=some (.one c))(hl:AO H c=some n):
  cI P ⟨some d,.call ⟨.builtin .len,#[x],#[t]⟩,ty,pos,af,gd⟩ E ρ H L h (.one (.i n)):=by
 obtain⟨i,F⟩:=j.get ht;obtain⟨G,z,_,g1,_⟩:=F.elem T he;obtain⟨I,h1,h2⟩:=aP hs hx;obtain⟨v,rfl,B⟩:=h2.aY;obtain⟨m,rfl,h4⟩:=JM y B hl;exact⟨_,.one (.fl .i),Abs.Lp F.tb h1 h4 g1 A ⟨rfl,rfl⟩⟩
theorem FR.sub{T:Ty}{xs:RV (I T)}{es:RV (RV V)}(h:FR (.l T xs) (.imm (szT T) es))(lo hi:Nat):FR (.l T ((xs.take hi).drop lo)) (.imm (szT T) ((es.take hi).drop lo)):=by
 cases h with
 | l hp hl hs hr=>
  refine .l hp (by simp[hl]) (λe he=>hs e (OK (OX he))) (λm h1 h2 j d h4=> ?_);simp only[Oy,P3]at d h4 ⊢;exact hr (lo+m) K0 PU j d h4
theorem FS{α:Type}{xs ys:RV α}{a b:Int}(h:sub xs a b=some ys):0<=a/\a<=b/\b<=xs.length/\ys=(xs.take b.toNat).drop a.toNat:=by
 unfold sub at h;by_cases hc:(decide (0<=a)&&decide (a<=b)&&decide (b<=(xs.length:Int)))=true
 .grind
 .grind
theorem G5(G:bx P tb)(hs:bT ρ H D L)(O:d<E.n){t:Nat}{N:TI}{x:Operand}{lo hi:Y Operand}{T J:Ty}{xs ys:RV (I T)}{a b:Int}(ht:tb t=some N)(he:N.elem=some J)(j:szT J=szT T)(hx:ev D x=some (.one (.l T xs)))
  (v:(match lo with|some y=>ev D y|none=>some (.one (.i 0)))=some (.one (.i a))) (w:(match hi with|some y=>ev D y|none=>some (.one (.i xs.length)))=some (.one (.i b))) (Q:sub xs a b=some ys):
  cI P ⟨some d,.slice t x lo hi none,ty,pos,af,gd⟩ E ρ H L h (.one (.l T ys)):=by
 obtain⟨V,F⟩:=G.get ht;obtain⟨W,z,_,g1,_,R,S,_⟩:=F.elem J he;obtain⟨X,h1,h2⟩:=aP hs hx;obtain⟨u,rfl,U⟩:=h2.aY;obtain⟨es,rfl,h4⟩:=U.list;obtain⟨s1,s2,Z,rfl⟩:=FS Q;have bJ:es.length=xs.length:=by cases h4 with|l _ hl _ _=>exact hl
 obtain⟨A,rfl⟩:∃A:Nat,a=A:=⟨a.toNat,A1⟩;obtain⟨B,rfl⟩:∃B:Nat,b=B:=⟨b.toNat,A1⟩;refine⟨_,.one (.fl (h4.sub A B)),Abs.xT (lo:=A) (hi:=B) (kl:=.i64) (kh:=.i64) F.tb h1 g1 (R.trans j) (j▸S) ?_ ?_ A1 A1 O ⟨rfl,rfl⟩⟩
 .cases lo with
  |none=>simp only[NQ,AT.one.injEq,C.i.injEq]at v;exact .inl ⟨rfl,A1⟩
  | some y=>
   obtain⟨aw,k1,K⟩:=aP hs v;obtain⟨u,rfl,M⟩:=K.aY;cases M.int;exact .inr ⟨y,rfl,k1⟩
 .cases hi with
  |none=>simp only[NQ,AT.one.injEq,C.i.injEq]at w;exact .inl ⟨rfl,A1⟩
  | some y=>
   obtain⟨aw,k1,K⟩:=aP hs w;obtain⟨u,rfl,M⟩:=K.aY;cases M.int;exact .inr ⟨y,rfl,k1⟩
theorem FJ{R:Type}{r:R}(hs:bT ρ H D L)(j:d<E.n){op:BinOp}{B I:TypeId}{x y:Operand}{a b:C}{K:C->Y R}(hx:ev D x=some (.one a))(N:ev D y=some (.one b))(w:∀p,a= .b p->∃J,tb B=some J/\J.bool=true)(M:bx P tb)(hk:IK op a b K=some r):
  ∃c,K c=some r/\cI P ⟨some d,.binOp op B x y I,ty,pos,af,gd⟩ E ρ H L h (.one c):=by
 obtain⟨T,h1,h2⟩:=aP hs hx;obtain⟨u,rfl,v⟩:=h2.aY;obtain⟨aw,k1,O⟩:=aP hs N;obtain⟨Q,rfl,t⟩:=O.aY;have G:∀(m n:Int)(k:IntKind),a= .i m->Q= .lit (.int k n)->(op= .shl\/op= .shr)->(bif decide (0<=n)then K (.i (Abs.bi op .i64 m n))else none)=some r->∃c,K c=some r/\cI P ⟨some d,.binOp op B x y I,ty,pos,af,gd⟩ E ρ H L h (.one c):=by
  rintro m n k rfl rfl ho hk;cases v.int;cases hp:decide (0<=n)with
  |false=>rw[hp]at hk;cases hk
  | true=>
   rw[hp]at hk;have A:0<=n:=QR
   rcases ho with rfl|rfl
   .exact⟨_,hk,_,.one (.fl .i),Abs.Mn h1 k1 A j ⟨rfl,rfl⟩⟩
   .exact⟨_,hk,_,.one (.fl .i),Abs.Lz h1 k1 A j ⟨rfl,rfl⟩⟩
 have plain:∀c,Iu op a b=some c->K c=some r->∃c,K c=some r/\cI P ⟨some d,.binOp op B x y I,ty,pos,af,gd⟩ E ρ H L h (.one c):=by
  intro c hb hk;unfold Iu at hb;split at hb
  .rename_i x y;cases v.int;cases t.int;split at hb<;>first|(cases hb;done)|cases hb
   .exact⟨_,hk,_,.one (.fl .i),Abs.qw (op:=.add) rfl h1 k1 j ⟨rfl,rfl⟩⟩
   .exact⟨_,hk,_,.one (.fl .i),Abs.qw (op:=.sub) rfl h1 k1 j ⟨rfl,rfl⟩⟩
   .exact⟨_,hk,_,.one (.fl .i),Abs.qw (op:=.mul) rfl h1 k1 j ⟨rfl,rfl⟩⟩
   .exact Rf
   .exact Rg
   .exact Rh
   .exact Ri
   .exact Rj
   .exact Rk
   .exact⟨_,hk,_,.one (.fl .i),Abs.qd (op:=.and) rfl h1 k1 j ⟨rfl,rfl⟩⟩
   .exact⟨_,hk,_,.one (.fl .i),Abs.qd (op:=.or) rfl h1 k1 j ⟨rfl,rfl⟩⟩
   .exact⟨_,hk,_,.one (.fl .i),Abs.qd (op:=.xor) rfl h1 k1 j ⟨rfl,rfl⟩⟩
   .exact⟨_,hk,_,.one (.fl .i),Abs.qd (op:=.andNot) rfl h1 k1 j ⟨rfl,rfl⟩⟩
  .rename_i x y;cases v.bool;cases t.bool;obtain⟨J,ht,hi⟩:=w x rfl;obtain⟨i,F⟩:=M.get ht;split at hb<;>first|(cases hb;done)|cases hb
   .exact⟨_,hk,_,.one (.fl .b),Abs.FH (op:=.eql) F.tb rfl F.look (F.bool hi) h1 k1 j ⟨rfl,rfl⟩⟩
   .exact⟨_,hk,_,.one (.fl .b),Abs.FH (op:=.neq) F.tb rfl F.look (F.bool hi) h1 k1 j ⟨rfl,rfl⟩⟩
  .rename_i x y;cases v.str;cases t.str;split at hb<;>first|(cases hb;done)|cases hb
   .exact⟨_,hk,_,.one (.fl .b),Abs.gR (op:=.eql) rfl h1 k1 j ⟨rfl,rfl⟩⟩
   .exact⟨_,hk,_,.one (.fl .b),Abs.gR (op:=.neq) rfl h1 k1 j ⟨rfl,rfl⟩⟩
   .exact⟨_,hk,_,.one (.fl .b),Abs.gR (op:=.lss) rfl h1 k1 j ⟨rfl,rfl⟩⟩
   .exact⟨_,hk,_,.one (.fl .b),Abs.gR (op:=.leq) rfl h1 k1 j ⟨rfl,rfl⟩⟩
   .exact⟨_,hk,_,.one (.fl .b),Abs.gR (op:=.gtr) rfl h1 k1 j ⟨rfl,rfl⟩⟩
   .exact⟨_,hk,_,.one (.fl .b),Abs.gR (op:=.geq) rfl h1 k1 j ⟨rfl,rfl⟩⟩
  .rename_i kd x S y;cases v.pT;cases t.pT;split at hb
   .rename_i he;have he:=NZ he;subst he;split at hb<;>first|(cases hb;done)|cases hb
    .exact⟨_,hk,_,.one (.fl .k),Abs.pb (op:=.add) rfl h1 k1 j ⟨rfl,rfl⟩⟩
    .exact⟨_,hk,_,.one (.fl .k),Abs.pb (op:=.sub) rfl h1 k1 j ⟨rfl,rfl⟩⟩
    .exact⟨_,hk,_,.one (.fl .k),Abs.pb (op:=.mul) rfl h1 k1 j ⟨rfl,rfl⟩⟩
    .exact Rf
    .exact Rg
    .exact Rh
    .exact Ri
    .exact Rj
    .exact Rk
    .exact⟨_,hk,_,.one (.fl .k),Abs.nr (op:=.and) rfl h1 k1 j ⟨rfl,rfl⟩⟩
    .exact⟨_,hk,_,.one (.fl .k),Abs.nr (op:=.or) rfl h1 k1 j ⟨rfl,rfl⟩⟩
    .exact⟨_,hk,_,.one (.fl .k),Abs.nr (op:=.xor) rfl h1 k1 j ⟨rfl,rfl⟩⟩
    .exact⟨_,hk,_,.one (.fl .k),Abs.nr (op:=.andNot) rfl h1 k1 j ⟨rfl,rfl⟩⟩
   .cases hb
  .cases hb
 unfold IK at hk;split at hk
 .rename_i x y;cases v.int;cases t.int;cases hp:(decide (0<=x)&&decide (0<y))with
  |false=>rw[hp]at hk;cases hk
  | true=>
   rw[hp]at hk;simp only[bA,NO]at hp;exact⟨_,hk,_,.one (.fl .i),Abs.LG h1 k1 hp.1 hp.2 j ⟨rfl,rfl⟩⟩
 .rename_i x y;cases v.int;cases t.int;cases hp:(decide (0<=x)&&decide (0<y))with
  |false=>rw[hp]at hk;cases hk
  | true=>
   rw[hp]at hk;simp only[bA,NO]at hp;exact⟨_,hk,_,.one (.fl .i),Abs.LC h1 k1 hp.1 hp.2 j ⟨rfl,rfl⟩⟩
 .exact G _ _ _ rfl t.int (.inl rfl) hk
 .exact G _ _ _ rfl t.int (.inr rfl) hk
 .exact G _ _ _ rfl t.pT (.inl rfl) hk
 .exact G _ _ _ rfl t.pT (.inr rfl) hk
 .rename_i x y;cases v.str;cases t.str;cases hp:decide (x.size+y.size<=1099511627776)with
  |false=>rw[hp]at hk;cases hk
  | true=>
   rw[hp]at hk;exact⟨_,hk,_,.one (.fl .s),Abs.CK h1 k1 (NZ hp) j ⟨rfl,rfl⟩⟩
 .rename_i x kd y;cases v.pT;cases t.pT;cases hp:decide (0<=y)with
  |false=>rw[hp]at hk;cases hk
  | true=>
   exact Rb
 .rename_i x y;cases v.pT;cases t.int;cases hp:decide (0<=y)with
  |false=>rw[hp]at hk;cases hk
  | true=>
   exact Rb
 .grind
theorem zd{t u:Nat}{i j:Abs.TyI}(h1:Abs.uL P t=some i)(h2:Abs.uL P u=some j):∃T:Abs.Tbl,Abs.cV P T/\T.lookup t=some i/\T.lookup u=some j:=by
 refine⟨[(t,i),(u,j)],Abs.iZ h1 (Abs.iZ h2 (Abs.qR P)),C3,?_⟩;by_cases e:u=t
 .grind
 .grind
theorem IE(w:bx P tb)(hs:bT ρ H D L)(J:d<E.n){t f fo ft sz:Nat}{B y:TI}{x:Operand}{cs:RV C}{v:AT}(ht:tb t=some B)(hx:ev D x=some (.agg cs))(K:B.fields[f]? =some (fo,ft,sz))(A:tb ft=some y)(hl:ld y.agg y.size (cs.drop fo)=some v):
  cI P ⟨some d,.field t x f,ty,pos,af,gd⟩ E ρ H L h v:=by
 obtain⟨i,F⟩:=w.get ht;obtain⟨j,G⟩:=w.get A;obtain⟨I,h1,h2⟩:=aP hs hx;obtain⟨vs,rfl,M⟩:=h2.agg';obtain⟨N,U⟩:=F.field f fo ft sz K;obtain⟨I,O,Q⟩:=yC hl (M.drop fo);obtain⟨T,g1,R,S⟩:=zd F.ty G.ty;exact⟨I,Q,Abs.KL g1 h1 R N S (by rw[G.size,G.agg];exact O) J ⟨rfl,rfl⟩⟩
theorem ku{v:AT}{d:AV}{cs:RV C}(h:cells v=some cs)(hr:ATR ρ H v d):∃vs,d.cells=some vs/\CRs ρ H cs vs:=by
 cases hr with
 |one k=>cases h;exact⟨_,rfl,.cons k .et⟩
 |agg k=>cases h;exact⟨_,rfl,k⟩
 |tup _ _=>cases h
inductive pj(ρ:Rho)(H:List Ob):List (Nat×List C)->List (Nat×List V)->Prop
 |nil:pj ρ H [] []
 |cons {i:Nat} {cs:List C} {vs:List V} {ps:List (Nat×List C)} {qs:List (Nat×List V)} (h:CRs ρ H cs vs) (k:pj ρ H ps qs):pj ρ H ((i,cs)::ps) ((i,vs)::qs)
theorem mn(hs:bT ρ H D L):∀{parts:RV (Nat×Operand)}{d:RV (Nat×RV C)},cE D parts=some d->∃j,Abs.cE L parts=some j/\pj ρ H d j
 |[],d,h=>by cases h;exact⟨[],rfl,.nil⟩
 | (i, x)::rest,d,h=>by
  simp only[cE]at h;split at h
  .rename_i vs j h1 h2;cases h;cases hx:ev D x with
   |none=>rw[hx]at h1;cases h1
   | some v=>
    rw[hx]at h1;obtain⟨F,k1,t⟩:=aP hs hx;obtain⟨us,w,y⟩:=ku h1 t;obtain⟨A,B,E⟩:=mn hs h2;refine⟨(i,us)::A,?_,.cons y E⟩;simp only[Abs.cE,k1,bS,w,B]
  .cases h
theorem CRs.bp{cs d:RV C}{vs us:RV V}(h:CRs ρ H cs vs)(k:CRs ρ H d us)(off:Nat):CRs ρ H (bp cs off d) (Abs.bp vs off us):=by
 unfold Den.bp Abs.bp;rw[k.1];exact(h.take off).app (k.app (h.drop _))
theorem KP{place:Nat->Y (Nat×Nat)}{d:RV (Nat×RV C)}{j:RV (Nat×RV V)}(hp:pj ρ H d j):∀{cs:RV C}{vs:RV V}{out:RV C},CRs ρ H cs vs->wF place cs d=some out->∃us,Abs.nV place vs j=some us/\CRs ρ H out us:=by
 induction hp with
 |nil=>intro cs vs out h k;cases k;exact⟨vs,rfl,h⟩
 | @cons i y us d j hd hp v=>
  intro cs vs out h k;simp only[wF]at k;split at k
  .rename_i off size t;split at k
   .rename_i hc;simp only[bA]at hc;have c1:=nB hc.1;have c2:=NX hc.2;obtain⟨zs,k1,w⟩:=v (h.bp hd off) k;refine⟨zs,?_,w⟩;simp only[Abs.nV,t];rw[N1]
    .exact k1
    .rw[hd.1]at c1 c2;rw[h.1]at c2;simp[c1];omega
   .cases k
  .cases k
theorem py(k:IntKind):Abs.de (.int k 0)=true:=by cases k<;>decide
theorem IU{v:Value}{c:C}(h:zC v c=true):Abs.de v=true/\CR ρ H c (.lit v):=by
 unfold zC at h;split at h
 .exact⟨py _,.fl .i⟩
 .simp only[beq_iff_eq]at h;subst h;exact⟨py _,.fl .k⟩
 .exact⟨rfl,.fl .b⟩
 .rename_i x y;simp only[bA,beq_iff_eq]at h;have e:x=y:=by simp_all
  subst e;exact⟨by simp[Abs.de,h.1],.fl .s⟩
 .exact⟨rfl,.nil (by simpa [OB]using h)⟩
 .exact⟨rfl,.zP⟩
 .exact⟨rfl,.zM⟩
 .exact⟨rfl,.zF⟩
 .cases h
theorem sD:∀{vs:RV Value}{cs:RV C},nE vs cs=true->vs.all Abs.de=true/\CRs ρ H cs (vs.map V.lit)
 |[],[],_=>⟨rfl,.et⟩
 |[],_::_,h=>Hm
 |_::_,[],h=>Hm
 | v::vs,c::cs,h=>by
  simp only[nE,bA]at h;obtain⟨h1,h2⟩:=sD h.2;have key:=IU (ρ:=ρ) (H:=H) h.1;exact⟨by simp[key.1,h1],.cons key.2 h2⟩
theorem FP(v:bx P tb)(hs:bT ρ H D L)(A:d<E.n){t:Nat}{j:TI}{parts:RV (Nat×Operand)}{y:RV (Nat×RV C)}{cs:RV C}(ht:tb t=some j)(hp:cE D parts=some y)(w:j.fields≠[])(B:wF (λk=>(j.fields[k]?).map λf=>(f.1,f.2.2)) j.zero y=some cs):
  cI P ⟨some d,.build t parts.toArray,ty,pos,af,gd⟩ E ρ H L h (.agg cs):=by
 obtain⟨i,F⟩:=v.get ht;obtain⟨K,h1,h2⟩:=mn hs hp;obtain⟨G,I⟩:=sD (ρ:=ρ) (H:=H) F.zero;obtain⟨us,J,h4⟩:=KP h2 I B;exact⟨_,.agg h4,Abs.He F.tb h1 F.look G F.zne (by rw[F.fields];exact w) (by rw[F.fields];exact J) F.fpos A ⟨rfl,rfl⟩⟩
theorem VR.immc_imm{I:Nat->Prop}{w:World}{ι:RV Abs.Inf}{s:Nat}{es:RV (RV V)}{c:Value}(h:Abs.VR I w ι (.gk s es) c):Abs.VR I w ι (.imm s es) c:=by
 cases h with
 |kA=>exact .dC (N9 _)
 |gk hs hm j d hr t=>exact .imm hs (N4 _) hm j d hr t
def Mr(E:Abs.Cx)(L:Env)(h:aD)(v d:V):Prop:=∀ι I a w,Abs.Rel E L h ι I a w->∀u,Abs.VR I w ι v u->Abs.VR (λb=>b<w.heap.size) w [] d u
theorem fJ{v:V}(d:v.flat=true):Mr E L h v v:=λ_ _ _ _ r _ j=>(j.free (ι':=[]) d).aB (Abs.bn.refl _) ⟨r.imm,λ_ _=>rfl⟩
theorem BQ(y:HpR ρ H h){c A:C}{v:V}(hp:pf H c=some A)(hc:CR ρ H c v):∃j,CR [] [] A j/\j.flat=true/\Mr E L h v j:=by
 cases c<;>simp only[pf,NQ,reduceCtorEq]at hp
 .subst hp;cases hc.int;exact⟨_,.fl .i,rfl,fJ rfl⟩
 .subst hp;cases hc.pT;exact⟨_,.fl .k,rfl,fJ rfl⟩
 .subst hp;cases hc.bool;exact⟨_,.fl .b,rfl,fJ rfl⟩
 .subst hp;cases hc.str;exact⟨_,.fl .s,rfl,fJ rfl⟩
 .subst hp;obtain⟨es,rfl,h4⟩:=hc.list;exact⟨_,.fl h4,rfl,fJ rfl⟩
 .subst hp;cases hc with
  |fl h=>cases h
  |lc k=>exact⟨_,.fl k,rfl,λι I a w r u d=>VR.immc_imm (fJ (E:=E) (L:=L) (h:=h) rfl ι I a w r u d)⟩
 .subst hp;cases hc with
  |fl h=>cases h
  |nil k=>exact⟨_,.fl (.et k),rfl,λι I a w r u d=>QD⟩
 .split at hp
  .rename_i T n xs hr;cases hp;rcases hc.own hr with⟨a,rfl,h4⟩|⟨rfl,h4⟩
   .obtain⟨es,D,t⟩:=y.at_ h4 hr;refine⟨_,.fl t,rfl,λι I F w r u d=> ?_⟩;have hl:es.length=xs.length:=by cases t with|l _ hl _ _=>exact hl
    have:=Abs.VR.lend r D t.iK A1 d;rw[NN,OO A1]at this;exact this
   .rcases y.row _ n T xs hr with⟨F,es,B,_⟩|⟨_,B,G⟩
    .grind
    .subst B;exact⟨_,.fl (.et G),rfl,λι I a w r u d=>QD⟩
  .cases hp
 .subst hp;cases hc with
  |fl h=>cases h
  |zs=>exact⟨_,.zs,rfl,fJ rfl⟩
def K2(E:Abs.Cx)(L:Env)(h:aD)(v d:AV):Prop:=∀ι I a w,Abs.Rel E L h ι I a w->∀u,Abs.AR ι I w v u->Abs.AR [] (λb=>b<w.heap.size) w d u
theorem yw(t:HpR ρ H h):∀{cs d:RV C}{vs:RV V},eW H cs=some d->CRs ρ H cs vs->∃us,CRs [] [] d us/\us.all V.flat=true/\vs.length=us.length/\∀(j:Nat)(h1:j<vs.length)(h2:j<us.length),Mr E L h vs[j] us[j]
 | [],d,vs,hp,hc=>by
  cases hp;have:=hc.1;cases vs with
  |nil=>exact⟨[],.et,rfl,rfl,λj h=>H0⟩
  |cons _ _=>simp at this
 | c::cs,d,vs,hp,hc=>by
  simp only[eW]at hp;split at hp
  .rename_i G w h1 h2;cases hp;cases vs with
   |nil=>have:=hc.1;simp at this
   | cons v vs=>
    obtain⟨u,k1,y,A⟩:=BQ (E:=E) (L:=L) t h1 (hc.2 0 C3 C3);obtain⟨us,m1,B,D,F⟩:=yw t h2 (vs:=vs) ⟨by have:=hc.1;simpa using this,λj a b=>hc.2 (j+1) Qb Qc⟩;refine⟨u::us,.cons k1 m1,by simp[y,B],by simp[D],λj a b=> ?_⟩;cases j with
    |zero=>exact A
    |succ j=>exact F j Qb Qc
  .cases hp
theorem Fk(D:HpR ρ H h){x y:AT}{F:AV}(hp:gX H x=some y)(hr:ATR ρ H x F):∃t,ATR [] [] y t/\t.flat=true/\K2 E L h F t:=by
 cases hr with
 | @one c v k=>
  simp only[gX,O3]at hp;obtain⟨K,h1,rfl⟩:=hp;obtain⟨M,k1,A,B⟩:=BQ (E:=E) (L:=L) D h1 k;exact⟨_,.one k1,A,λι I a w r u d=>by cases d with|one d=>exact .one (B ι I a w r u d)⟩
 | @agg cs vs k=>
  simp only[gX,O3]at hp;obtain⟨N,h1,rfl⟩:=hp;obtain⟨us,k1,A,B,J⟩:=yw (E:=E) (L:=L) D h1 k;refine⟨_,.agg k1,A,λι I a w r u d=> ?_⟩;cases d with
  |agg hl C hr=>exact .agg (by rw[hl,B]) (λj G=>C j A1) (λj G=>J j A1 G ι I a w r _ (hr j A1))
 |tup _ _=>cases hp
theorem Aq(hs:bT ρ H D L):∀{ops:RV Operand}{xs:RV AT},evs D ops=some xs->∃avs,Abs.evs L ops=some avs/\xs.length=avs.length/\∀(j:Nat)(h1:j<xs.length)(h2:j<avs.length),ATR ρ H xs[j] avs[j]
 |[],xs,h=>by cases h;exact⟨[],rfl,rfl,λj h=>H0⟩
 | x::ops,xs,h=>by
  simp only[evs]at h;split at h
  .rename_i v vs h1 h2;cases h;obtain⟨d,k1,t⟩:=aP hs h1;obtain⟨avs,w,y,A⟩:=Aq hs h2;refine⟨d::avs,by simp only[Abs.evs,k1,w],by simp[y],λj a b=> ?_⟩;cases j with
   |zero=>exact t
   |succ j=>exact A j Qb Qc
  .cases h
theorem uA(t:HpR ρ H h):∀{xs ys:RV AT}{avs:RV AV},dD H xs=some ys->xs.length=avs.length->(∀(j:Nat)(h1:j<xs.length)(h2:j<avs.length),ATR ρ H xs[j] avs[j])->
  ∃d,ys.length=d.length/\(∀(j:Nat)(h1:j<ys.length)(h2:j<d.length),ATR [] [] ys[j] d[j])/\Abs.AV.iK d=true/\avs.length=d.length/\∀(j:Nat)(h1:j<avs.length)(h2:j<d.length),K2 E L h avs[j] d[j]
 | [],ys,avs,hp,hl,hr=>by
  cases hp;cases avs with
  |nil=>exact⟨[],rfl,λj h=>H0,rfl,rfl,λj h=>H0⟩
  |cons _ _=>simp at hl
 | x :: xs,ys,avs,hp,hl,hr=>by
  simp only[dD]at hp;split at hp
  .rename_i y v h1 h2;cases hp;cases avs with
   |nil=>simp at hl
   | cons D avs=>
    obtain⟨w,k1,A,F⟩:=Fk (E:=E) (L:=L) t h1 (hr 0 C3 C3);obtain⟨d,m1,G,B,C,I⟩:=uA t h2 (avs:=avs) PS (λj a b=>hr (j+1) Qb Qc);refine⟨w::d,by simp[m1],λj a b=> ?_,by simp[Abs.AV.iK,A,B],by simp[C],λj a b=> ?_⟩
    .grind
    .grind
  .cases hp
theorem BY{d:Rho}{h:RV Ob}{c:C}{v:V}(hs:gF c=true)(hc:CR d h c v):∃u,v= .lit u:=by
 cases c<;>simp only[gF,reduceCtorEq]at hs
 .exact⟨_,hc.int⟩
 .exact⟨_,hc.pT⟩
 .exact⟨_,hc.bool⟩
 .exact⟨_,hc.str⟩
theorem Gz{ι ι':RV Abs.Inf}{I d:Nat->Prop}{w w':World}{u c:Value}(h:Abs.VR I w ι (.lit u) c):Abs.VR d w' ι' (.lit u) c:=by
 cases h with|lit h=>exact .lit h
theorem pa:∀{xs:RV AT},AT.gF.scals xs=true->∀x∈xs,x.gF=true
 |[],_,x,hx=>Q4
 | y::xs,h,x,hx=>by
  simp only[AT.gF.scals,bA]at h;rcases List.mem_cons.1 hx with rfl|hx
  .exact h.1
  .exact pa h.2 x hx
theorem KG{B:Rho}{F:RV Ob}{v:AT}{C:AV}(h:ATR B F v C)(hs:v.gF=true):∀ι I w ι' A w' c,Abs.AR ι I w C c->Abs.AR ι' A w' C c:=by
 induction h with
 | one k=>
  obtain⟨u,rfl⟩:=BY (by simpa [AT.gF]using hs) k;intro ι I w ι' A w' c hc;cases hc with|one hc=>exact .one (Gz hc)
 | @agg cs vs k=>
  intro ι I w ι' A w' c hc;have hs:cs.all gF=true:=by simpa [AT.gF]using hs
  cases hc with
  | agg hl d hr=>
   refine .agg hl d (λj t=> ?_);have y:j<cs.length:=by rw[k.1];exact t
   obtain⟨u,e⟩:=BY (aT.1 hs _ (gM y)) (k.2 j y t);have:=hr j t;rw[e]at this ⊢;exact Gz this
 | @tup xs ys hl hr G=>
  intro ι I w ι' A w' c hc;have hs:=pa (by simpa [AT.gF]using hs:AT.gF.scals xs=true);cases hc with
  |tup D d E=>exact .tup D d (λj t=>G j A1 t (hs _ (gM A1)) _ _ _ _ _ _ _ (E j t))
theorem CR.up{d:Rho}{j:RV Ob}{c:C}{v:V}(t:iE c=true)(h:CR d j c v):CR ρ H c v:=by
 cases c<;>simp only[iE,reduceCtorEq]at t<;>(cases h with|fl h=>exact .fl h)
theorem tu:∀{xs:RV AT},AT.flat.flatA xs=true->∀x∈xs,x.flat=true
 |[],_,x,hx=>Q4
 | y::xs,h,x,hx=>by
  simp only[AT.flat.flatA,bA]at h;rcases List.mem_cons.1 hx with rfl|hx
  .exact h.1
  .exact tu h.2 x hx
theorem ATR.up{t:Rho}{y:RV Ob}{v:AT}{w:AV}(h:ATR t y v w)(d:v.flat=true):ATR ρ H v w:=by
 induction h with
 |one k=>exact .one (k.up (by simpa [AT.flat]using d))
 | @agg cs vs k=>
  have d:cs.all iE=true:=by simpa [AT.flat]using d
  exact .agg ⟨k.1,λj h1 h2=>(k.2 j h1 h2).up (aT.1 d _ (gM h1))⟩
 | @tup xs ys hl hr A=>
  have d:=tu (by simpa [AT.flat]using d:AT.flat.flatA xs=true);exact .tup hl (λj h1 h2=>A j h1 h2 (d _ (gM h1)))
theorem xI{c j:C}{v:V}(hp:pf [] c=some j)(hc:CR ρ H c v):∃d,CR [] [] j d/\d.flat=true/\∀I w ι u,Abs.VR I w ι v u->Abs.VR I w ι d u:=by
 cases c<;>simp only[pf,NQ,reduceCtorEq,List.getElem?_nil]at hp
 .subst hp;cases hc.int;exact⟨_,.fl .i,rfl,λ_ _ _ _ h=>h⟩
 .subst hp;cases hc.pT;exact⟨_,.fl .k,rfl,λ_ _ _ _ h=>h⟩
 .subst hp;cases hc.bool;exact⟨_,.fl .b,rfl,λ_ _ _ _ h=>h⟩
 .subst hp;cases hc.str;exact⟨_,.fl .s,rfl,λ_ _ _ _ h=>h⟩
 .subst hp;obtain⟨es,rfl,h4⟩:=hc.list;exact⟨_,.fl h4,rfl,λ_ _ _ _ h=>h⟩
 .subst hp;cases hc with
  |fl h=>cases h
  |lc k=>exact⟨_,.fl k,rfl,λ_ _ _ _ h=>VR.immc_imm h⟩
 .subst hp;cases hc with
  |fl h=>cases h
  |nil k=>exact⟨_,.fl (.et k),rfl,λ_ _ _ _ t=>by cases t;exact .dC (N9 _)⟩
 .subst hp;cases hc with
  |fl h=>cases h
  |zs=>exact⟨_,.zs,rfl,λ_ _ _ _ h=>h⟩
theorem kV:∀{cs d:RV C}{vs:RV V},eW [] cs=some d->CRs ρ H cs vs->∃us,CRs [] [] d us/\us.all V.flat=true/\vs.length=us.length/\∀(j:Nat)(h1:j<vs.length)(h2:j<us.length),∀I w ι u,Abs.VR I w ι vs[j] u->Abs.VR I w ι us[j] u
 | [],d,vs,hp,hc=>by
  cases hp;have:=hc.1;cases vs with
  |nil=>exact⟨[],.et,rfl,rfl,λj h=>H0⟩
  |cons _ _=>simp at this
 | c::cs,d,vs,hp,hc=>by
  simp only[eW]at hp;split at hp
  .rename_i F t h1 h2;cases hp;cases vs with
   |nil=>have:=hc.1;simp at this
   | cons v vs=>
    obtain⟨u,k1,y,A⟩:=xI h1 (hc.2 0 C3 C3);obtain⟨us,m1,B,D,E⟩:=kV h2 (vs:=vs) ⟨by have:=hc.1;simpa using this,λj a b=>hc.2 (j+1) Qb Qc⟩;refine⟨u::us,.cons k1 m1,by simp[y,B],by simp[D],λj a b=> ?_⟩;cases j with
    |zero=>exact A
    |succ j=>exact E j Qb Qc
  .cases hp
theorem ug{x y:AT}{C:AV}(hp:gX [] x=some y)(hr:ATR ρ H x C):∃h,ATR [] [] y h/\h.flat=true/\∀ι I w u,Abs.AR ι I w C u->Abs.AR ι I w h u:=by
 cases hr with
 | @one c v k=>
  simp only[gX,O3]at hp;obtain⟨F,h1,rfl⟩:=hp;obtain⟨G,k1,t,A⟩:=xI h1 k;exact⟨_,.one k1,t,λι I w u d=>by cases d with|one d=>exact .one (A I w ι u d)⟩
 | @agg cs vs k=>
  simp only[gX,O3]at hp;obtain⟨J,h1,rfl⟩:=hp;obtain⟨us,k1,t,A,E⟩:=kV h1 k;refine⟨_,.agg k1,t,λι I w u d=> ?_⟩;cases d with
  |agg hl B hr=>exact .agg (by rw[hl,A]) (λj D=>B j A1) (λj D=>E j A1 D I w ι _ (hr j A1))
 |tup _ _=>cases hp
end
def I8(F:In)(H:RV Ob)(ρ:Rho)(dst:Y Nat)(L:Env)(v:AT)(H':RV Ob):Env->aD->Prop:=λL2 h2=>∃ρ' d,L2=Abs.cK dst d L/\ATR ρ' H' v d/\HpR ρ' H' h2/\Ev ρ H ρ' H'/\Fr F ρ' H' h2
def dU(P:Program)(o:Oper)(E:Abs.Cx)(F:In)(D:RV (Nat×AT))(H:RV Ob)(v:AT)(H':RV Ob):Prop:=
 ∀ρ L h,bT ρ H D L->HpR ρ H h->Fr F ρ H h->ar P o E (I8 F H ρ o.dst L v H') L h
section
variable {P : Program} {E : Abs.Cx} {F : In} {ρ : Rho} {H : RV Ob} {h : aD} {L : Env} {o : Oper}
theorem nj{K d:Env->aD->Prop}(j:ar P o E K L h)(hk:∀L2 h2,K L2 h2->d L2 h2):ar P o E d L h:=
 ⟨λLf ι I a w r=>Abs.kD (λ_ _ ⟨_,_,ι',t,k,v⟩=>⟨_,_,ι',t,hk _ _ k,v⟩) (λ_ _ _ f=>f) (j.get Lf ι I a w r)⟩
theorem nY{K t:Env->aD->Prop}(v:ar P o E K L h)(hk:∀L2 h2,K L2 h2->∃d j,t d j/\∀Lf,Abs.cQ (L2++Lf) h2 (d++Lf) j):ar P o E t L h:=
 ⟨λLf ι I a w r=>Abs.kD (λy w' ⟨_,_,ι',A,k,B⟩=>let⟨d,j,k',C⟩:=hk _ _ k;let⟨D,F⟩:=(C Lf).get E ι' A y w' B;⟨d,j,ι',D,k',F⟩) (λ_ _ _ f=>f) (v.get Lf ι I a w r)⟩
theorem Fx{D:RV (Nat×AT)}{v:AT}(j:∀ρ L h,bT ρ H D L->HpR ρ H h->cI P o E ρ H L h v):dU P o E F D H v H:=λρ L h hs hp t=>by
 obtain⟨w,h1,h2⟩:=j ρ L h hs hp;exact nj h2 λL2 h2 ⟨y,d⟩=>⟨ρ,w,y,h1,d▸hp,Ev.refl _ _,d▸t⟩
theorem dA{α:Type}{l:RV α}{x y:α}{id:Nat}(h:(l++[x])[id]? =some y):(id<l.length/\l[id]? =some y)\/(id=l.length/\x=y):=Hd
theorem eN{α:Type}{l:RV α}{x y:α}{id:Nat}(h:l[id]? =some y):(l++[x])[id]? =some y:=Hd
theorem Ev.push(x:Y Nat)(y:Ob):Ev ρ H (ρ++[x]) (H++[y]):=⟨λ_ _ h=>eN h,λ_ x h=>⟨x,eN h,evo.refl x⟩⟩
def obR(ρ:Rho)(H:RV Ob):Ob->Y Abs.Ob->Prop
 | .row T _ xs,y=>∃es,y=some (.row (szT T) es)/\FR (.l T xs) (.imm (szT T) es)
 | .box cs,y=>∃vs:RV V,y=some (.row vs.length [vs])/\CRs ρ H cs vs
 | .map T kvs,y=>∃d,y=some (.map d)/\kvs.length=d.length/\0<szT T/\∀(j:Nat)(h1:j<kvs.length)(h2:j<d.length),kvs[j].1=d[j].1/\FRs (aG T kvs[j].2) d[j].2
 | .aN,_=>True
 | .rows _ _ _,_=>True
theorem obR.mono{ρ ρ':Rho}{H H':RV Ob}(e:Ev ρ H ρ' H'){x:Ob}{y:Y Abs.Ob}(h:obR ρ H x y):obR ρ' H' x y:=by
 cases x with
 |box cs=>obtain⟨vs,h1,h2⟩:=h;exact⟨vs,h1,h2.mono e⟩
 |row T n xs=>exact h
 |map T kvs=>exact h
 |aN=>trivial
 |rows T xss ho=>trivial
theorem HpR.mk'{ρ:Rho}{H:RV Ob}{h:aD}(len:ρ.length=H.length)(ob:∀(id:Nat)(x:Ob),H[id]? =some x->(∃a y,ρ[id]? =some (some a)/\h[a]? =some y/\obR ρ H x y)\/(ρ[id]? =some none/\∃T n,x= .row T n []/\0<szT T)\/x.dead=true)
  (inj:∀(i j a:Nat),ρ[i]? =some (some a)->ρ[j]? =some (some a)->live H i->live H j->i=j) (lt:∀(i a:Nat),ρ[i]? =some (some a)->a<h.length):HpR ρ H h:=by
 refine⟨len,λid n T xs hx=> ?_,λid cs hx=> ?_,λid T kvs hx=> ?_,inj,lt⟩
 .rcases ob id _ hx with⟨a,y,h1,h2,es,rfl,h4⟩|⟨h1,d,n',h2,t⟩|h1
  .grind
  .grind
  .cases h1
 .rcases ob id _ hx with⟨a,y,h1,h2,vs,rfl,h4⟩|⟨h1,d,n',h2,t⟩|h1
  .grind
  .cases h2
  .cases h1
 .rcases ob id _ hx with⟨a,y,h1,h2,v,rfl,h4⟩|⟨h1,d,n',h2,t⟩|h1
  .grind
  .cases h2
  .cases h1
theorem HpR.ob{ρ:Rho}{H:RV Ob}{h:aD}(hp:HpR ρ H h){id:Nat}{x:Ob}(hx:H[id]? =some x):(∃a y,ρ[id]? =some (some a)/\h[a]? =some y/\obR ρ H x y)\/(ρ[id]? =some none/\∃T n,x= .row T n []/\0<szT T)\/x.dead=true:=by
 cases x with
 | row T n xs=>
  rcases hp.row id n T xs hx with⟨a,es,h1,h2,d⟩|⟨h1,rfl,d⟩
  .exact .inl ⟨a,_,h1,h2,es,rfl,d⟩
  .grind
 |box cs=>obtain⟨a,vs,h1,h2,d⟩:=hp.box id cs hx;exact .inl ⟨a,_,h1,h2,vs,rfl,d⟩
 |map T kvs=>obtain⟨a,j,h1,h2,d⟩:=hp.map id T kvs hx;exact .inl ⟨a,_,h1,h2,j,rfl,d⟩
 |aN=>exact .inr (.inr rfl)
 |rows T xss ho=>exact .inr (.inr rfl)
theorem oB{H:RV Ob}{x:Ob}{i:Nat}(h:live (H++[x]) i)(hi:i<H.length):live H i:=by
 obtain⟨y,h1,h2⟩:=h;rw[aL hi]at h1;exact⟨y,h1,h2⟩
theorem HpR.push(hp:HpR ρ H h){x:Ob}{y:Y Abs.Ob}(hx:obR (ρ++[some h.length]) (H++[x]) x y):HpR (ρ++[some h.length]) (H++[x]) (h++[y]):=by
 refine HpR.mk' QC (λid z t=> ?_) (λi j a h1 h2 l1 l2=> ?_) (λi a h1=> ?_)
 .rcases dA t with⟨_,h1⟩|⟨rfl,rfl⟩
  .rcases hp.ob h1 with⟨a,v,k1,d,w⟩|⟨k1,d⟩|k1
   .exact .inl ⟨a,v,eN k1,eN d,w.mono (Ev.push _ _)⟩
   .grind
   .grind
  .refine .inl ⟨h.length,y,?_,C3,hx⟩;rw[<-hp.len];simp
 .rcases dA h1 with⟨_,k1⟩|⟨A,k1⟩<;>rcases dA h2 with⟨_,d⟩|⟨B,d⟩
  .exact hp.inj i j a k1 d (oB l1 Qg) (oB l2 Qg)
  .cases d;have:=hp.lt _ _ k1;omega
  .cases k1;have:=hp.lt _ _ d;omega
  .omega
 .rcases dA h1 with⟨_,k1⟩|⟨A,k1⟩
  .have:=hp.lt _ _ k1;simp;omega
  .cases k1;simp
theorem HpR.me(hp:HpR ρ H h){T:Ty}(t:0<szT T):HpR (ρ++[none]) (H++[.row T 0 []]) h:=by
 refine HpR.mk' QC (λid z v=> ?_) (λi j a h1 h2 l1 l2=> ?_) (λi a h1=> ?_)
 .rcases dA v with⟨_,h1⟩|⟨rfl,rfl⟩
  .rcases hp.ob h1 with⟨a,w,k1,d,y⟩|⟨k1,d⟩|k1
   .exact .inl ⟨a,w,eN k1,d,y.mono (Ev.push _ _)⟩
   .grind
   .grind
  .refine .inr (.inl ⟨?_,T,0,rfl,t⟩);rw[<-hp.len];simp
 .rcases dA h1 with⟨_,k1⟩|⟨A,k1⟩<;>rcases dA h2 with⟨_,d⟩|⟨B,d⟩<;>first|exact hp.inj i j a k1 d (oB l1 Qg) (oB l2 Qg)|(cases d;done)|(cases k1;done)
 .rcases dA h1 with⟨_,k1⟩|⟨A,k1⟩
  .exact hp.lt _ _ k1
  .cases k1
theorem iL{α:Type}{l:RV α}{i j:Nat}{x y:α}(h:(l.set i x)[j]? =some y):(j=i/\x=y/\i<l.length)\/(j≠i/\l[j]? =some y):=Hd
theorem Ev.set{id:Nat}{d x:Ob}(h0:H[id]? =some d)(he:evo d x):Ev ρ H ρ (H.set id x):=⟨λ_ _ h=>h,λj z t=>by
 by_cases e:j=id
 .grind
 .exact⟨z,by rw[sN (λx=>e x.symm)];exact t,evo.refl z⟩⟩
theorem HpR.set(hp:HpR ρ H h){id a:Nat}{B x:Ob}{y:Y Abs.Ob}(d:ρ[id]? =some (some a))(h0:H[id]? =some B)(C:B.dead=false)(he:evo B x)(hx:obR ρ (H.set id x) x y):HpR ρ (H.set id x) (h.set a y):=by
 have v:Ev ρ H ρ (H.set id x):=Ev.set h0 he;have w:∀{i:Nat},live (H.set id x) i->live H i:=λ{i} l=>v.lv Qn l
 refine HpR.mk' QC (λj z E=> ?_) (λi j a k1 A l1 l2=>hp.inj i j a k1 A (w l1) (w l2)) (λi b h1=>by rw[PG];exact hp.lt _ _ h1);rcases iL E with⟨rfl,rfl,_⟩|⟨D,h1⟩
 .exact .inl ⟨a,y,d,sS (hp.lt _ _ d),hx⟩
 .rcases hp.ob h1 with⟨b,F,k1,A,G⟩|⟨k1,A⟩|k1
  .by_cases t:z.dead=true
   .grind
   have t:z.dead=false:=N0
   refine .inl ⟨b,F,k1,?_,G.mono v⟩;rw[sN (λe=>D (hp.inj _ _ b k1 (by rw[<-e];exact d) ⟨_,h1,t⟩ ⟨_,h0,C⟩))];exact A
  .grind
  .grind
theorem Fr.step{H':RV Ob}{ρ':Rho}{h':aD}(j:Fr F ρ H h)(he:Ev ρ H ρ' H')(hl:h.length<=h'.length)(w:∀(id a:Nat),ρ'[id]? =some (some a)->live H' id->(∃d,ρ[d]? =some (some a)/\live H d)\/h.length<=a)
  (hs:∀(a:Nat),a<h.length->(∀(id:Nat),ρ[id]?=some (some a)->¬live H id)->h'[a]? =h[a]?):Fr F ρ' H' h' where
 len:=NS j.len hl
 old:=λid a h1 t h2=>by
  rcases w id a h1 t with⟨d,k,l⟩|k
  .exact j.old d a k l h2
  .have:=j.len;omega
 same:=λa h1 h2=>by
  rw[hs a (by have:=j.len;omega) (λid hid l=>let⟨d,k1,v⟩:=j.old id a hid l h1;h2 d k1 v)];exact j.same a h1 h2
 rho:=λid x h1=>he.rho _ _ (j.rho id x h1)
 ob:=λid x h1=>by
  obtain⟨y,k1,v⟩:=j.ob id x h1;obtain⟨z,A,B⟩:=he.ob id y k1;exact⟨z,A,B.old v⟩
theorem Fr.push(hl:ρ.length=H.length)(d:Fr F ρ H h)(x:Ob)(y:Y Abs.Ob):Fr F (ρ++[some h.length]) (H++[x]) (h++[y]):=
 d.step (Ev.push _ _) C3 (λid a h1 l=>by rcases dA h1 with⟨hi,k⟩|⟨_,k⟩;exact .inl ⟨id,k,oB l (by rw[<-hl];exact hi)⟩;cases k;exact .inr (N4 _)) (λa h1 _=>aL h1)
theorem Fr.me(hl:ρ.length=H.length)(d:Fr F ρ H h)(x:Ob):Fr F (ρ++[none]) (H++[x]) h:=
 d.step (Ev.push _ _) (N4 _) (λid a h1 l=>by rcases dA h1 with⟨hi,k⟩|⟨_,k⟩;exact .inl ⟨id,k,oB l (by rw[<-hl];exact hi)⟩;cases k) (λa h1 _=>rfl)
theorem Fr.set(v:Fr F ρ H h){id a:Nat}{d x:Ob}{y:Y Abs.Ob}(j:ρ[id]? =some (some a))(h0:H[id]? =some d)(t:d.dead=false)(he:evo d x):Fr F ρ (H.set id x) (h.set a y):=
 v.step (Ev.set h0 he) C3 (λid a h1 l=>.inl ⟨id,h1,(Ev.set (ρ:=ρ) h0 he).lv Qn l⟩) (λb h1 h2=>sN (λe=>h2 id (by rw[<-e];exact j) ⟨_,h0,t⟩))
theorem Ev.trans{d j:Rho}{t H2:RV Ob}(a:Ev ρ H d t)(b:Ev d t j H2):Ev ρ H j H2:=⟨λ_ _ h=>b.rho _ _ (a.rho _ _ h),λid x h=>by
 obtain⟨y,k1,v⟩:=a.ob id x h;obtain⟨z,w,A⟩:=b.ob id y k1;exact⟨z,w,v.trans A⟩⟩
theorem Fr.refl(ρ:Rho)(H:RV Ob)(h:aD):Fr ⟨h,ρ,H⟩ ρ H h:=⟨N4 _,λid _ h l _=>⟨id,h,l⟩,λ_ _ _=>rfl,λ_ _ h=>h,λ_ x h=>⟨x,h,eM.refl x⟩⟩
theorem Fr.trans{ρ':Rho}{H':RV Ob}{h':aD}(a:Fr F ρ H h)(b:Fr ⟨h,ρ,H⟩ ρ' H' h'):Fr F ρ' H' h' where
 len:=NS a.len b.len
 old:=λid x h1 h2 t=>by
  obtain⟨d,k1,j⟩:=b.old id x h1 h2 (NV t a.len);exact a.old d x k1 j t
 same:=λx h1 h2=>by
  rw[b.same x (NV h1 a.len) (λid k l=>let⟨d,k1,j⟩:=a.old id x k l h1;h2 d k1 j)];exact a.same x h1 h2
 rho:=λid x h1=>b.rho _ _ (a.rho _ _ h1)
 ob:=λid x h1=>by
  obtain⟨y,k1,j⟩:=a.ob id x h1;obtain⟨z,v,w⟩:=b.ob id y k1;exact⟨z,v,j.trans w⟩
def bW(H H':RV Ob):Prop:=∀(id:Nat)(y:Ob),H'[id]? =some y->y.eR=true->H[id]? =some y
theorem bW.refl(H:RV Ob):bW H H:=λ_ _ h _=>h
theorem bW.trans{d H2 j:RV Ob}(a:bW d H2)(b:bW H2 j):bW d j:=λid y h hr=>a id y (b id y h hr) hr
theorem XR.aB{ρ':Rho}{H':RV Ob}{h':aD}(hx:XR F ρ H h)(t:Fr ⟨h,ρ,H⟩ ρ' H' h')(hs:bW H H'):XR F ρ' H' h':=λid T xss ho hr=>by
 obtain⟨u,a,es,X⟩:=hx id T xss ho (hs id _ hr rfl);have nl:∀b,b<h.length->jN ρ H b->jN ρ' H' b:=λb hb w j G hl=>by
  obtain⟨A,k1,I⟩:=t.old j b G hl hb;exact w A k1 I
 have same:∀b,b<h.length->jN ρ H b->h'[b]? =h[b]? :=λb hb w=>t.same b hb λid k=>w id k;have D:a<h.length:=(gI.1 X.aq).1;have bJ:=t.len;refine⟨λid' y J d=>u id' y (hs id' y J d) d,a,es,t.rho _ _ X.rho,by rw[same a D X.nl];exact X.aq,X.len,X.pos,X.one,nl a D X.nl,X.old,X.new,λk xs e h1 h2 E=> ?_,λk b n h1 h2=> ?_,X.inj⟩
 .rcases X.sub k xs e h1 h2 E with l|⟨b,es',rfl,g1,v⟩
  .exact .inl l
  .obtain⟨_,B,C,_⟩:=X.ak k b _ h1 E;exact .inr ⟨b,es',rfl,by rw[same b B C];exact g1,v⟩
 .obtain⟨g1,v,B,C⟩:=X.ak k b n h1 h2;exact⟨g1,NV v bJ,nl b v B,C⟩
theorem XR.none_(h0:∀(id:Nat)(y:Ob),H[id]? =some y->y.eR=false):XR F ρ H h:=λid T xss ho hr=>by
 have:=h0 id _ hr;cases this
end
end
end Go.Proofs.YtigoabbppmdfpaaGreat.Den
namespace Go.Proofs.YtigoabbppmdfpaaGreat.Abs
open Go.RowKit
theorem lM{P:Program}{E:Cx}{K:Env->aD->Prop}{L:Env}{h:aD}{d:Nat}{ty:TypeId}{pos:String}{af:Array Edge}{gd:Y (Nat×Bool)}{tb:Tbl}(C:cV P tb){t G:TypeId}{x y:Operand}{s:Nat}{B:ElI}(hx:ev L x=some (.one (.lit (.slice none 0 0))))(he:gb tb t=some B)(H:B.zero≠[])(N:B.zero.length=B.size)(hs:B.size=s)
  (v:po P E L h s G y []) (O:d<E.n) (hk:K ((d,.one (.lit (.slice none 0 0)))::L) h):ar P ⟨some d,.call ⟨.builtin .append,#[x,y],#[t,G]⟩,ty,pos,af,gd⟩ E K L h:=by
 refine bE rfl O (λι I a w r=> ?_) hk;obtain⟨j,z,g1,S,T,Q,U⟩:=oO C he H N;obtain⟨u1,u2,_⟩:=bL C he;obtain⟨D,F,J,R⟩:=v ι I a w r;have M:D=[]:=by have:=J.1;simpa using this
 subst M;have A:Src P j.size G (a.eval y) 0 [] w:=by rw[Q,hs];exact F
 have hc:=(r.ev hx).lit.1;refine⟨.slice none 0 0,?_,.one (.lit trivial)⟩;rw[eK,hc,run_append_nothing w t G ty B.t j u1 g1 none 0 0 (N4 _) (a.eval y) A];rfl
theorem Rel.imp{E:Cx}{L:Env}{h:aD}{ι:RV Inf}{I:Nat->Prop}{a:Act}{w:World}(r:Rel E L h ι I a w){id s:Nat}{es es':RV (RV V)}(ho:h[id]? =some (some (.row s es)))(hl:es.length=es'.length)(hs:∀e∈es',e.length=s)
  (hi:∀(k:Nat)(h1:k<es.length)(h2:k<es'.length)(j:Nat)(g1:j<es[k].length)(P:j<es'[k].length)(I:Nat->Prop)(w:World)(ι:RV Inf)(u:Value),VR I w ι es[k][j] u->VR I w ι es'[k][j] u):Rel E L (h.set id (some (.row s es'))) ι I a w:=
 { r with
   heap := by
     refine⟨PR,λi o f x y=> ?_,λi o f x y=> ?_,λi Q o o' f B x H y C e=> ?_,r.heap.sub⟩
     · rcases cC x with⟨rfl,x,_⟩|⟨_,x⟩
       · cases x
         obtain⟨cur,t,h1,h2,K,h4,R,M,N⟩:=r.heap.obj i _ f ho y;refine⟨cur,t,h1,h2,K,h4,A1,hs,λk hk j D=> ?_⟩;have d:k<es.length:=A1
         have v:j<es[k].length:=by rw[M _ (gM d)];rw[hs _ (gM hk)]at D;exact D
         obtain⟨u,k1,O⟩:=N k d j v;exact⟨u,k1,hi k d hk j v D I w ι u O⟩
       · exact r.heap.obj i o f x y
     · rcases cC x with⟨rfl,x,_⟩|⟨_,x⟩
       · exact r.heap.off i _ f ho y
       · exact r.heap.off i o f x y
     · rcases cC x with⟨J,F,_⟩|⟨_,F⟩
       · rcases cC H with⟨G,A,_⟩|⟨_,A⟩
         · rw[J,G]
         · subst J;exact r.heap.inj _ _ _ _ f B ho A y C e
       · rcases cC H with⟨G,A,_⟩|⟨_,A⟩
         · subst G;exact r.heap.inj _ _ _ _ f B F ho y C e
         · exact r.heap.inj _ _ _ _ f B F A y C e
   cc:=λi o f x y=>by
     rcases cC x with⟨rfl,x,_⟩|⟨_,x⟩
     · exact r.cc i _ f ho y
     · exact r.cc i o f x y}
end Go.Proofs.YtigoabbppmdfpaaGreat.Abs
namespace Go.Proofs.YtigoabbppmdfpaaGreat.Den
open Go.RowKit
open Abs (V AV Env aD ar)
def Imp(v d:V):Prop:=∀(I:Nat->Prop)(w:World)(ι:RV Abs.Inf)(u:Value),Abs.VR I w ι v u->Abs.VR I w ι d u
theorem Imp.refl(v:V):Imp v v:=λ_ _ _ _ h=>h
def jX(a b:RV V):Prop:=a.length=b.length/\∀(j:Nat)(h1:j<a.length)(h2:j<b.length),Imp a[j] b[j]
theorem jX.refl(a:RV V):jX a a:=⟨rfl,λ_ _ _=>Imp.refl _⟩
inductive jg:List (List V)->List (List V)->Prop
 |nil:jg [] []
 |cons {a b:List V} {aa bs:List (List V)} (h:jX a b) (k:jg aa bs):jg (a::aa) (b::bs)
theorem jg.len{a b:RV (RV V)}(h:jg a b):a.length=b.length:=by induction h with|nil=>rfl|cons _ _ d=>simp[d]
theorem jg.at_{a b:RV (RV V)}(h:jg a b):∀(k:Nat)(h1:k<a.length)(h2:k<b.length),jX a[k] b[k]:=by
 induction h with
 |nil=>intro k h1;simp at h1
 | cons h k d=>
  intro m h1 h2;cases m with
  |zero=>exact h
  |succ m=>exact d m Hl HA
theorem jg.refl:∀(a:RV (RV V)),jg a a
 |[]=>.nil
 |x::a=>.cons (jX.refl x) (jg.refl a)
section
variable {P : Program} {E : Abs.Cx} {F : In} {ρ : Rho} {H : RV Ob} {D : RV (Nat × AT)} {L : Env} {h : aD} {d : Nat} {ty : TypeId} {pos : String} {af : Array Edge} {gd : Y (Nat × Bool)} {tb : Nat → Y TI}
theorem cQ.imp{id s:Nat}{es es':RV (RV V)}(ho:h[id]? =some (some (.row s es)))(hi:jg es es')(hs:∀e∈es',e.length=s):Abs.cQ L h L (h.set id (some (.row s es'))):=
 ⟨λ_ _ I _ _ r=>⟨I,r.imp ho hi.len hs (λk h1 h2 j g1 d=>(hi.at_ k h1 h2).2 j g1 d)⟩⟩
inductive FRl(T:Ty):List (I T)->List (List V)->Prop
 |nil:FRl T [] []
 |cons {x:I T} {e:List V} {xs:List (I T)} {es:List (List V)} (h:FRs (aG T x) e) (k:FRl T xs es):FRl T (x::xs) (e::es)
theorem FRl.fr{T:Ty}(d:0<szT T){xs:RV (I T)}{es:RV (RV V)}(h:FRl T xs es):FR (.l T xs) (.imm (szT T) es):=by
 have key:es.length=xs.length/\(∀e∈es,e.length=szT T)/\∀(m:Nat)(h1:m<xs.length)(h2:m<es.length),FRs (aG T xs[m]) es[m]:=by
  induction h with
  |nil=>exact⟨rfl,λe he=>by simp at he,λm h1=>QO⟩
  | cons h k t=>
   obtain⟨v,w,A⟩:=t;refine⟨by simp[v],λe he=> ?_,λm h1 h2=> ?_⟩
   .rcases List.mem_cons.1 he with rfl|he
    .rw[<-h.1,db T d]
    .exact w e he
   .grind
 exact .l d key.1 key.2.1 (λm h1 h2 j y h4=>(key.2.2 m h1 h2).2 j y h4)
theorem FR.frl{T:Ty}{xs:RV (I T)}{es:RV (RV V)}(h:FR (.l T xs) (.imm (szT T) es)):FRl T xs es:=by
 cases h with
 | l hp hl hs hr=>
  have:∀(xs:RV (I T))(es:RV (RV V)),es.length=xs.length->(∀(m:Nat)(h1:m<xs.length)(h2:m<es.length),FRs (aG T xs[m]) es[m])->FRl T xs es:=by
   intro xs
   induction xs with
   |nil=>intro es hl _;cases es with|nil=>exact .nil|cons=>simp at hl
   | cons x xs d=>
    intro es hl h;cases es with
    |nil=>simp at hl
    |cons e es=>exact .cons (h 0 C3 C3) (d es PS (λm h1 h2=>h (m+1) Hl HA))
  refine this xs es hl (λm h1 h2=>⟨?_,λj t h4=>hr m h1 h2 j t h4⟩);rw[db T hp,hs _ (gM h2)]
theorem FRl.app{T:Ty}{xs ys:RV (I T)}{es d:RV (RV V)}(h:FRl T xs es)(k:FRl T ys d):FRl T (xs++ys) (es++d):=by
 induction h with
 |nil=>exact k
 |cons h _ j=>exact .cons h j
theorem FRl.len{T:Ty}{xs:RV (I T)}{es:RV (RV V)}(h:FRl T xs es):es.length=xs.length:=by induction h with|nil=>rfl|cons _ _ d=>simp[d]
theorem FRl.rep{T:Ty}{x:I T}{e:RV V}(h:FRs (aG T x) e):∀n,FRl T (List.replicate n x) (List.replicate n e)
 |0=>.nil
 |n+1=>.cons h (FRl.rep h n)
theorem FRl.set{T:Ty}{x:I T}{e:RV V}(hx:FRs (aG T x) e){xs:RV (I T)}{es:RV (RV V)}(h:FRl T xs es):∀k,FRl T (xs.set k x) (es.set k e):=by
 induction h with
 |nil=>intro k;exact .nil
 | cons h k d=>
  intro m;cases m with
  |zero=>exact .cons hx k
  |succ m=>exact .cons h (d m)
theorem Bq{c:C}{v:V}(d:iE c=true)(h:CR [] [] c v):FR c v:=by
 cases c<;>simp only[iE,reduceCtorEq]at d<;>(cases h with|fl h=>exact h)
theorem nI{T:Ty}(d:0<szT T)(x:I T):(aG T x).all iE=true:=by
 unfold aG;split<;>rfl
theorem Cn{cs d:RV C}{vs:RV V}{T:Ty}(t:0<szT T){x:I T}(hp:eW [] cs=some d)(hi:iB T d=some x)(hc:CRs ρ H cs vs):∃us,FRs (aG T x) us/\jX vs us:=by
 obtain⟨us,h1,_,v,h4⟩:=kV hp hc;have e:=gl hi;have h:=nI t x;rw[e]at h ⊢;exact⟨us,⟨h1.1,λj k1 w=>Bq (aT.1 h _ (gM k1)) (h1.2 j k1 w)⟩,v,h4⟩
theorem CS{v:Value}{c:C}(h:ra v c=true):Abs.de v=true/\∃u,FR c u/\Imp (.lit v) u:=by
 unfold ra at h;split at h
 .exact⟨D2,_,.i,Imp.refl _⟩
 .exact⟨D2,_,.k,Imp.refl _⟩
 .exact⟨rfl,_,.b,Imp.refl _⟩
 .rename_i x y;simp only[bA,beq_iff_eq]at h;have e:x=y:=by simp_all
  subst e;exact⟨by simp[Abs.de,h.1],_,.s,Imp.refl _⟩
 .exact⟨rfl,_,FR.et (by simpa [OB]using h),λI w ι u d=>QD⟩
 .cases h
theorem il:∀{vs:RV Value}{cs:RV C},fD vs cs=true->vs.all Abs.de=true/\∃us,FRs cs us/\jX (vs.map V.lit) us
 |[],[],_=>⟨rfl,[],⟨rfl,λj h=>H0⟩,rfl,λj h=>H0⟩
 |[],_::_,h=>Hm
 |_::_,[],h=>Hm
 | v::vs,c::cs,h=>by
  simp only[fD,bA]at h;obtain⟨h1,u,y,h4⟩:=CS h.1;obtain⟨k1,us,t,w⟩:=il h.2;refine⟨by simp[h1,k1],u::us,⟨by simp[t.1],λj g1 d=> ?_⟩,by simpa using w.1,λj g1 d=> ?_⟩
  .cases j with
   |zero=>exact y
   |succ j=>exact t.2 j Qh Q1
  .cases j with
   |zero=>exact h4
   |succ j=>exact w.2 j Qh Q1
theorem vJ:∀{ts cs:RV C}{us vs:RV V},FRs ts us->CRs ρ H cs vs->CRs ρ H (pX ts cs) vs
 |[],_,_,_,_,h=>h
 | t::ts,[],_,_,_,h=>by
  have:pX (t::ts) []=[]:=by cases t<;>rfl
  rw[this];exact h
 | t::ts,c::cs,us,vs,ht,h=>by
  obtain⟨u,us,rfl⟩:∃u B,us=u::B:=by
   cases us with
   |nil=>have:=ht.1;simp at this
   |cons u us=>exact⟨u,us,rfl⟩
  obtain⟨v,vs,rfl⟩:∃v D,vs=v::D:=by
   cases vs with
   |nil=>have:=h.1;simp at this
   |cons v vs=>exact⟨v,vs,rfl⟩
  have E:FR t u:=ht.2 0 C3 C3;have F:FRs ts us:=⟨by have:=ht.1;simpa using this,λj g1 w=>ht.2 (j+1) Qh PZ⟩;have h0:CR ρ H c v:=h.2 0 C3 C3;have hr:CRs ρ H cs vs:=⟨PV,λj g1 w=>h.2 (j+1) Qh PZ⟩;have G:=vJ F hr
  have cons:∀{d:C},CR ρ H d v->CRs ρ H (d::pX ts cs) (v::vs):=λ{d} hd=>⟨by simp[G.1],λj g1 w=>by
   cases j with
   |zero=>exact hd
   |succ j=>exact G.2 j Qh PZ⟩
  unfold pX;split
  .rename_i y A;cases y;cases A;refine cons ?_;have I:v= .lit (.slice none 0 0):=by
    cases h0 with
    |fl h=>cases h
    |zs=>rfl
   rw[I];cases E with
   |l hp _ _ _=>exact .nil hp
  .grind
  .omega
theorem kW{T:Ty}(w:0<szT T){z:I T}{zs j:RV V}(t:FRs (aG T z) j)(d:jX zs j):∀{n k:Nat}{y:RV (Nat×RV C)}{A:RV (Nat×RV V)}{xs:RV (I T)},fq T z n k y=some xs->pj ρ H y A->∀pre:RV (RV V),pre.length=k->
  ∃es es',Abs.pz (szT T) (pre++List.replicate n zs) A=some (pre++es)/\jg es es'/\FRl T xs es'
 | 0,k,y,A,xs,h,hp,pre,_=>by
  cases hp with
  |nil=>simp only[fq,NQ]at h;subst h;exact⟨[],[],by simp[Abs.pz],.nil,.nil⟩
  |cons _ _=>simp only[fq]at h;cases h
 | n + 1, k,y,A,xs,h,hp,pre,hk=>by
  have F:zs.length=szT T:=by rw[d.1,<-t.1,db T w]
  cases hp with
  | nil=>
   simp only[fq]at h;split at h
   .rename_i ys B;cases h;obtain⟨es,es',h1,h2,D⟩:=kW w t d B .nil (pre++[zs]) (by simp[hk]);exact R6
   .cases h
  | @cons i cs vs y A hc hr=>
   simp only[fq]at h;split at h
   .rename_i v;have v:i=k:=nB v;subst v;split at h
    .rename_i G hd;split at h
     .rename_i x ys hx B;cases h;obtain⟨us,u1,u2⟩:=Cn w hd hx (vJ t hc);have E:vs.length=szT T:=by rw[u2.1,<-u1.1,db T w]
      obtain⟨es,es',h1,h2,D⟩:=kW w t d B hr (pre++[vs]) (by simp[hk]);refine⟨vs::es,us::es',?_,.cons u2 h2,.cons u1 D⟩;simp only[Abs.pz];rw[N1 (by simp[E,hk])];have:(pre++List.replicate (n+1) zs).set i vs=pre++[vs]++List.replicate n zs:=by
       rw[<-hk,List.replicate_succ,Py _ _ (N4 _),Po];simp
      rw[this,h1];simp
     .cases h
    .cases h
   .split at h
    .rename_i ys B;cases h;obtain⟨es,es',h1,h2,D⟩:=kW w t d B (.cons hc hr) (pre++[zs]) (by simp[hk]);exact R6
    .cases h
theorem GJ(j:bx P tb)(w:d<E.n){t:Nat}{v:TI}(ht:tb t=some v):dU P ⟨some d,.alloc t,ty,pos,af,gd⟩ E F D H (.one (.p H.length 0)) (H++[.box v.zero]):=λρ L h hs hp y=>by
 obtain⟨i,G⟩:=j.get ht;obtain⟨A,B⟩:=sD (ρ:=ρ++[some h.length]) (H:=H++[.box v.zero]) G.zero;refine Abs.FU G.tb G.look A G.zne w ⟨ρ++[some h.length],_,rfl,.one (.p ?_),hp.push ⟨_,?_,B⟩,Ev.push _ _,y.push hp.len _ _⟩
 .rw[<-hp.len];simp
 .simp
theorem Mx(j:d<E.n){t:TypeId}{x:Operand}{v:AT}{cs:RV C}(hx:ev D x=some v)(hc:cells v=some cs):dU P ⟨some d,.box t x,ty,pos,af,gd⟩ E F D H (.one (.p H.length 0)) (H++[.box cs]):=λρ L h hs hp w=>by
 obtain⟨A,h1,h2⟩:=aP hs hx;obtain⟨vs,y,h4⟩:=ku hc h2;refine Abs.Ms h1 y j ⟨ρ++[some h.length],_,rfl,.one (.p ?_),hp.push ⟨vs,rfl,h4.mono (Ev.push _ _)⟩,Ev.push _ _,w.push hp.len _ _⟩;rw[<-hp.len];simp
theorem FRl.lens{T:Ty}(d:0<szT T){xs:RV (I T)}{es:RV (RV V)}(h:FRl T xs es):∀e∈es,e.length=szT T:=by
 cases h.fr d with|l _ _ hs _=>exact hs
theorem kK(w:bx P tb)(N:d<E.n){t len:Nat}{A:TI}{T:Ty}{z:I T}{parts:RV (Nat×Operand)}{B:RV (Nat×RV C)}{xs:RV (I T)}(ht:tb t=some A)(he:A.elem=some T)(O:jq T=some z)(hp:cE D parts=some B)(hx:fq T z len 0 B=some xs)(hb:Nat.ble (len*szT T) 16777216=true)
  (hs:bT ρ H D L) (h:aD):0<szT T/\∃es es',ar P ⟨some d,.buildSlice t len parts.toArray,ty,pos,af,gd⟩ E (λL2 h2=>L2=(d,.one (.own h.length 0 len))::L/\h2=h++[some (.row (szT T) es)]) L h/\jg es es'/\FRl T xs es'/\es'.length=len:=by
 obtain⟨i,G⟩:=w.get ht;obtain⟨W,X,Y,g1,F,j,J,v,Q,Z,g8⟩:=G.elem T he;rw[O]at F;cases F;obtain⟨R,us,S,z3⟩:=il Q;obtain⟨U,q1,q2⟩:=mn hs hp;obtain⟨es,es',y,M,V⟩:=kW J S z3 hx q2 [] rfl;simp only[OL]at y;have hr:=Abs.sO (P:=P) (E:=E) (L:=L) (d:=d) (ty:=ty) (pos:=pos) (af:=af) (gd:=gd) (h0:=h) (l:=[]) (n:=h.length) (K:=λL2 h2=>L2=(d,.one (.own h.length 0 len))::L/\h2=h++[some (.row (szT T) es)]) G.tb rfl g1 (by intro e;rw[e]at v;simp at v;omega) v R q1 (by rw[j];exact y) (by rw[j];exact hb) N ⟨rfl,by rw[j];rfl⟩;rw[Ok]at hr;refine⟨J,es,es',hr,M,V,?_⟩;rw[<-M.len];obtain⟨_,_,k⟩:=Abs.sj U _ _ (by intro e he;rw[List.mem_replicate]at he;rw[he.2,Ol,v,j]) y;rw[k];simp
theorem mJ{α:Type}(l:RV α)(x y:α):(l++[x]).set l.length y=l++[y]:=by rw[Py _ _ (N4 _),Po];rfl
theorem te(j:bx P tb)(J:d<E.n){t len:Nat}{A:TI}{T:Ty}{z:I T}{parts:RV (Nat×Operand)}{B:RV (Nat×RV C)}{xs:RV (I T)}(ht:tb t=some A)(he:A.elem=some T)(K:jq T=some z)(hp:cE D parts=some B)(hx:fq T z len 0 B=some xs)(hb:Nat.ble (len*szT T) 16777216=true):
  dU P ⟨some d,.buildSlice t len parts.toArray,ty,pos,af,gd⟩ E F D H (.one (.o H.length)) (H++[.row T 0 xs]):=λρ L h hs v M=>by
 obtain⟨G,es,es',hr,N,w,bJ⟩:=kK (P:=P) (E:=E) (d:=d) (ty:=ty) (pos:=pos) (af:=af) (gd:=gd) j J ht he K hp hx hb hs h;refine nY hr λL2 h2 ⟨k1,O⟩=> ?_;subst k1 O;refine⟨_,_,⟨ρ++[some h.length],.one (.own h.length 0 len),rfl,.one ?_,v.push (y:=some (.row (szT T) es')) ⟨es',rfl,w.fr G⟩,Ev.push _ _,M.push v.len _ _⟩,λLf=> ?_⟩
 .have:=CR.o (ρ:=ρ++[some h.length]) (H:=H++[.row T 0 xs]) (id:=H.length) (a:=h.length) (n:=0) (T:=T) (xs:=xs) (by rw[<-v.len];simp) C3;rw[<-w.len,bJ]at this;exact this
 .have:=cQ.imp (L:=(d,.one (.own h.length 0 len))::L++Lf) (h:=h++[some (.row (szT T) es)]) (id:=h.length) (s:=szT T) (es:=es) (es':=es') C3 N (w.lens G);rw[mJ]at this;exact this
theorem HpR.junk(hp:HpR ρ H h)(y:Y Abs.Ob):HpR ρ H (h++[y]):=
 HpR.mk' hp.len (λid x hx=>by
  rcases hp.ob hx with⟨a,z,k1,d,j⟩|k1|k1
  .exact .inl ⟨a,z,k1,eN d,j⟩
  .exact .inr (.inl k1)
  .exact .inr (.inr k1)) hp.inj (λi a h1=>by have:=hp.lt i a h1;simp;omega)
theorem Fr.junk(d:Fr F ρ H h)(y:Y Abs.Ob):Fr F ρ H (h++[y]):=
 d.step (Ev.refl _ _) C3 (λid _ h1 l=>.inl ⟨id,h1,l⟩) (λa h1 _=>aL h1)
theorem CN{d a n:Nat}{s:Nat}{es:RV (RV V)}{L Lf:Env}{h:aD}(ho:h[a]? =some (some (.row s es)))(j:es.all (·.all Abs.V.flat)=true)(w:es.length=n):Abs.cQ ((d,.one (.own a 0 n))::L++Lf) h ((d,.one (.imm s es))::L++Lf) (h.set a none):=by
 have:=Abs.cQ.freeze (L:=(d,.one (.own a 0 n))::L++Lf) (h:=h) d a (s:=s) (es:=es) (v:=.one (.own a 0 n)) ho j C3 (by simp[Abs.AV.fits,Abs.V.fits,w]);have e:(AV.one (V.own a 0 n)).fz a s es= .one (.imm s es):=by simp[Abs.AV.fz,Abs.V.fz,<-w]
 rw[e]at this;refine this.trans ⟨λ_ _ I _ _ r=>⟨I,r.j4 λt x hx=> ?_⟩⟩;simp only[Pn,NT]at hx ⊢;cases ht:t==d with
 |true=>rw[ht]at hx;exact hx
 |false=>rw[ht]at hx;exact hx
theorem wG(j:bx P tb)(B:d<E.n){t len:Nat}{y:TI}{T:Ty}{z:I T}{parts:RV (Nat×Operand)}{A:RV (Nat×RV C)}{xs:RV (I T)}(ht:tb t=some y)(he:y.elem=some T)(G:jq T=some z)(hp:cE D parts=some A)(hx:fq T z len 0 A=some xs)(hb:Nat.ble (len*szT T) 16777216=true):
  dU P ⟨some d,.buildSlice t len parts.toArray,ty,pos,af,gd⟩ E F D H (.one (.l T xs)) H:=λρ L h hs J K=>by
 obtain⟨v,es,es',hr,M,w,bJ⟩:=kK (P:=P) (E:=E) (d:=d) (ty:=ty) (pos:=pos) (af:=af) (gd:=gd) j B ht he G hp hx hb hs h;refine nY hr λL2 h2 ⟨k1,N⟩=> ?_;subst k1 N;refine⟨_,_,⟨ρ,.one (.imm (szT T) es'),rfl,.one (.fl (w.fr v)),J.junk none,Ev.refl _ _,K.junk none⟩,λLf=> ?_⟩;have s1:=cQ.imp (L:=(d,.one (.own h.length 0 len))::L++Lf) (h:=h++[some (.row (szT T) es)]) (id:=h.length) (s:=szT T) (es:=es) (es':=es') C3 M (w.lens v);rw[mJ]at s1;have s2:=CN (d:=d) (L:=L) (Lf:=Lf) (h:=h++[some (.row (szT T) es')]) (a:=h.length) (s:=szT T) (es:=es') C3 (w.fr v).iK bJ;rw[mJ]at s2;exact s1.trans s2
theorem En{x y:Operand}{n:Int}(h:uS x y=true)(hx:ev D x=some (.one (.i n))):ev D y=some (.one (.i n)):=by
 unfold uS at h;split at h
 .simp_all
 .grind
 .cases h
theorem IZ{α:Type}{x:α}{n:Int}{xs:RV α}(h:mk x n=some xs):0<=n/\n<=4294967296/\xs=List.replicate n.toNat x:=by
 unfold mk at h;by_cases h1:0<=n
 .grind
 .simp[h1]at h
theorem IT(j:bx P tb)(Q:d<E.n){t:Nat}{J:TI}{T:Ty}{z:I T}{x y:Operand}{n:Int}{xs:RV (I T)}(ht:tb t=some J)(he:J.elem=some T)(R:jq T=some z)(hx:ev D x=some (.one (.i n)))(S:uS x y=true)(hm:mk z n=some xs):
  dU P ⟨some d,.makeSlice t x y,ty,pos,af,gd⟩ E F D H (.one (.o H.length)) (H++[.row T 0 xs]):=λρ L h hs v U=>by
 obtain⟨i,G⟩:=j.get ht;obtain⟨w,z',g0,g1,M,W,N,A,X,B,g8⟩:=G.elem T he;rw[R]at M;cases M;obtain⟨Y,us,Z,z3⟩:=il X;obtain⟨m1,m2,rfl⟩:=IZ hm;obtain⟨m,rfl⟩:=Oh m1;obtain⟨av,a1,a2⟩:=aP hs hx;obtain⟨u,rfl,a3⟩:=a2.aY;cases a3.int;obtain⟨av,b1,b2⟩:=aP hs (En S hx);obtain⟨u,rfl,b3⟩:=b2.aY;cases b3.int;have C:m<=4294967296:=A1
 have B:=NX B;have hr:=Abs.KJ (P:=P) (E:=E) (L:=L) (d:=d) (ty:=ty) (pos:=pos) (af:=af) (gd:=gd) (h0:=h) (l:=[]) (n:=h.length) (m:=m) (K:=λL2 h2=>L2=(d,.one (.own h.length 0 m))::L/\h2=h++[some (.row (szT T) (List.replicate m (w.zero.map V.lit)))]) G.tb rfl g1 (by intro e;rw[e]at A;simp at A;omega) A Y a1 b1 (NS (Nat.mul_le_mul B C) D2) A1 Q ⟨rfl,by rw[W];rfl⟩;rw[Ok]at hr;have O:FRl T (List.replicate m z) (List.replicate m us):=FRl.rep Z m;have e2:∀m,jg (List.replicate m (w.zero.map V.lit)) (List.replicate m us):=λm=>by
  induction m with
  |zero=>exact .nil
  |succ m ih=>exact .cons z3 ih
 refine nY hr λL2 h2 ⟨k1,k2⟩=> ?_;subst k1 k2;refine⟨_,_,⟨ρ++[some h.length],.one (.own h.length 0 m),rfl,.one ?_,v.push (y:=some (.row (szT T) (List.replicate m us))) ⟨_,rfl,O.fr N⟩,Ev.push _ _,U.push v.len _ _⟩,λLf=> ?_⟩
 .have:=CR.o (ρ:=ρ++[some h.length]) (H:=H++[.row T 0 (List.replicate (m:Int).toNat z)]) (id:=H.length) (a:=h.length) (n:=0) (T:=T) (xs:=List.replicate (m:Int).toNat z) (by rw[<-v.len];simp) C3;exact RR
 .have:=cQ.imp (L:=(d,.one (.own h.length 0 m))::L++Lf) (h:=h++[some (.row (szT T) (List.replicate m (w.zero.map V.lit)))]) (id:=h.length) (s:=szT T) (es:=_) (es':=List.replicate m us) C3 (e2 m) (O.lens N);rw[mJ]at this;exact this
theorem dg{T d:Ty}{xs:RV (I d)}{ys:RV (I T)}(h:jP (T:=T) xs=some ys):∃e:d=T,ys=e▸xs:=by
 unfold jP at h;split at h
 .grind
 .cases h
theorem sF{α:Type}{xs ys:RV α}(h:lim xs=some ys):ys=xs/\xs.length<=4294967296:=by
 unfold lim at h;cases hb:Nat.ble xs.length 4294967296 with
 |true=>rw[hb]at h;cases h;exact⟨rfl,NX hb⟩
 |false=>rw[hb]at h;cases h
theorem Ak(d:HpR ρ H h){c:C}{v:V}{T:Ty}{ys:RV (I T)}(hc:CR ρ H c v)(he:jx H T c=some ys):∃j,Abs.gV h (szT T) v=some j/\FRl T ys j:=by
 unfold jx at he;split at he
 .rename_i A xs hp;obtain⟨e,rfl⟩:=dg he;subst e;cases c<;>simp only[pf,NQ,reduceCtorEq]at hp
  .cases hp;obtain⟨es,rfl,h4⟩:=hc.list;exact⟨es,by simp[Abs.gV],h4.frl⟩
  .cases hp;cases hc with
   |fl h=>cases h
   |lc k=>exact⟨_,by simp[Abs.gV],k.frl⟩
  .cases hp;cases hc with
   |fl h=>cases h
   |nil k=>exact⟨[],rfl,.nil⟩
  .split at hp
   .rename_i T2 n xs2 hr;cases hp;rcases hc.own hr with⟨a,rfl,h4⟩|⟨rfl,h4⟩
    .obtain⟨es,y,t⟩:=d.at_ h4 hr;have hl:=t.frl.len;exact⟨es,by simp[Abs.gV,y,<-hl],t.frl⟩
    .rcases d.row _ n _ _ hr with⟨B,es,w,_⟩|⟨_,w,_⟩
     .grind
     .subst w;exact⟨[],rfl,.nil⟩
   .cases hp
 .cases he
end
end Go.Proofs.YtigoabbppmdfpaaGreat.Den
namespace Go.Proofs.YtigoabbppmdfpaaGreat.Den
open Go.RowKit
open Abs (V AV Env aD ar)
section
variable {P : Program} {E : Abs.Cx} {F : In} {ρ : Rho} {H : RV Ob} {D : RV (Nat × AT)} {L : Env} {h : aD} {d : Nat} {ty : TypeId} {pos : String} {af : Array Edge} {gd : Y (Nat × Bool)} {tb : Nat → Y TI}
theorem evo.jp(x:Ob):evo x .aN:=.inl rfl
theorem HpR.aN(hp:HpR ρ H h){id:Nat}{v:Ob}(h0:H[id]? =some v):HpR ρ (H.set id .aN) h:=by
 have d:Ev ρ H ρ (H.set id .aN):=Ev.set h0 (evo.jp _);refine HpR.mk' QC (λj z w=> ?_) (λi j a k1 t l1 l2=>hp.inj i j a k1 t (d.lv (by simpa using l1.lt) l1) (d.lv (by simpa using l2.lt) l2)) hp.lt;rcases iL w with⟨rfl,rfl,_⟩|⟨_,h1⟩
 .simp_all
 .rcases hp.ob h1 with⟨b,y,k1,t,A⟩|k1|k1
  .exact .inl ⟨b,y,k1,t,A.mono d⟩
  .grind
  .grind
theorem Fr.aN(d:Fr F ρ H h){id:Nat}{j:Ob}(h0:H[id]? =some j):Fr F ρ (H.set id .aN) h:=
 d.step (Ev.set h0 (evo.jp _)) (N4 _) (λid _ h1 l=>.inl ⟨id,h1,(Ev.set (ρ:=ρ) h0 (evo.jp _)).lv Qn l⟩) (λ_ _ _=>rfl)
theorem lr{T:Ty}(d:0<szT T)(hp:HpR ρ H h){xs:RV (I T)}{es:RV (RV V)}(hx:FRl T xs es):
  ATR (ρ++[some h.length]) (H++[.row T 0 xs]) (.one (.o H.length)) (.one (.own h.length 0 es.length))/\HpR (ρ++[some h.length]) (H++[.row T 0 xs]) (h++[some (.row (szT T) es)]):=by
 refine⟨.one ?_,hp.push ⟨es,rfl,hx.fr d⟩⟩;have:=CR.o (ρ:=ρ++[some h.length]) (H:=H++[.row T 0 xs]) (id:=H.length) (a:=h.length) (n:=0) (T:=T) (xs:=xs) (by rw[<-hp.len];simp) C3;rw[hx.len];exact this
theorem qj{T:Ty}(d:0<szT T)(hp:HpR ρ H h):
  ATR (ρ++[none]) (H++[.row T 0 []]) (.one (.o H.length)) (.one (.lit (.slice none 0 0)))/\HpR (ρ++[none]) (H++[.row T 0 []]) h:=
 ⟨.one (.oN (n:=0) (T:=T) (xs:=[]) (by rw[<-hp.len];simp) C3),hp.me d⟩
def Ht(P:Program)(E:Abs.Cx)(D:RV (Nat×AT))(H:RV Ob)(T:Ty)(j:Nat)(y:Operand)(ys:RV (I T)):Prop:=∀ρ L h,bT ρ H D L->HpR ρ H h->∃d,FRl T ys d/\Abs.po P E L h (szT T) j y d
theorem mc(d:bx P tb){A:Nat}{B:TI}{T U:Ty}{y:Operand}{F:C}{ys:RV (I T)}(J:tb A=some B)(t:B.elem=some U)(K:ev D y=some (.one F))(w:jx H T F=some ys):Ht P E D H T A y ys:=λρ L h hs M=>by
 obtain⟨j,G⟩:=d.get J;obtain⟨N,O,V,k1,_⟩:=G.elem U t;obtain⟨W,c1,c2⟩:=aP hs K;obtain⟨v,rfl,c3⟩:=c2.aY;obtain⟨Q,R,S⟩:=Ak M c3 w;exact⟨Q,S,Abs.pv G.tb k1 c1 R⟩
theorem ub:∀l:RV UInt8,FRl .u (l.map λb=>(b.toNat:Int)) (l.map λc=>[V.lit (.int .u8 c.toNat)])
 |[]=>.nil
 | c::l=>by
  refine .cons ⟨rfl,λj h1 h2=> ?_⟩ (ub l);have:j=0:=PU
  subst this;exact .k
theorem yM(d:bx P tb){A:Nat}{B:TI}{y:Operand}{s:Z}(C:tb A=some B)(t:B.str=true)(F:ev D y=some (.one (.s s))):Ht P E D H .u A y (ofS s):=λρ L h hs G=>by
 obtain⟨j,w⟩:=d.get C;obtain⟨I,c1,c2⟩:=aP hs F;obtain⟨v,rfl,c3⟩:=c2.aY;cases c3.str;exact⟨Abs.oJ s,ub _,Abs.Ed w.tb w.look (w.str t) c1⟩
theorem sr(R:bx P tb)(S:d<E.n){t Z id n:Nat}{ti:TI}{T:Ty}{x y:Operand}{xs ys zs:RV (I T)}(ht:tb t=some ti)(he:ti.elem=some T)(hx:ev D x=some (.one (.o id)))(hr:H[id]? =some (.row T n xs))(hl:lim (xs++ys)=some zs){ρ:Rho}{L:Env}{h:aD}(hs:bT ρ H D L)(Q:HpR ρ H h)(hf:Fr F ρ H h)(J:∃B,FRl T ys B/\Abs.po P E L h (szT T) Z y B):
  ar P ⟨some d,.call ⟨.builtin .append,#[x,y],#[t,Z]⟩,ty,pos,af,gd⟩ E (I8 F H ρ (some d) L (.one (.o H.length)) ((H.set id .aN)++[.row T 0 zs])) L h:=by
 obtain⟨rfl,K⟩:=sF hl;obtain⟨i,G⟩:=R.get ht;obtain⟨el,z',g0,g1,g2,U,V,M,g6,g7,g8⟩:=G.elem T he;obtain⟨av,W,a2⟩:=aP hs hx;obtain⟨u,rfl,a3⟩:=a2.aY;obtain⟨B,N,X⟩:=J;have bJ:(H.set id Ob.aN).length=H.length:=C3
 have w:el.zero≠[]:=by intro e;rw[e]at M;simp at M;omega
 simp only[N8]at K;have A:Ev ρ H ρ (H.set id .aN):=Ev.set hr (evo.jp _);rcases a3.own hr with⟨a,rfl,a4⟩|⟨rfl,a4⟩
 .obtain⟨es,e1,e2⟩:=Q.at_ a4 hr;have Y:=e2.frl;have j:HpR ρ (H.set id .aN) (h.set a none):=Q.set a4 hr C3 (evo.jp _) trivial;have v:Fr F ρ (H.set id .aN) (h.set a none):=hf.set a4 hr C3 (evo.jp _);obtain⟨m1,C⟩:=lr V j (Y.app N);have O:=v.push j.len (.row T 0 (xs++ys)) (some (.row (szT T) (es++B)));rw[bJ]at m1;rw[PG]at m1 C O;refine Abs.Ay G.tb W g1 w M U e1 (by rw[Ou,Y.len]) X (by rw[N.len];omega) g7 S ⟨ρ++[some h.length],_,rfl,?_,C,A.trans (Ev.push _ _),O⟩;rw[N8,Y.len]at m1;exact m1
 .obtain⟨rfl,_⟩:xs=[]/\True:=by
   rcases Q.row _ n _ _ hr with⟨a',es,h7,_⟩|⟨_,h7,_⟩
   .grind
   .grind
  have j:HpR ρ (H.set id .aN) h:=Q.aN hr;have v:Fr F ρ (H.set id .aN) h:=hf.aN hr;cases B with
  | nil=>
   have:ys=[]:=by have:=N.len;cases ys with|nil=>rfl|cons=>simp at this
   subst this;obtain⟨m1,C⟩:=qj V j;rw[bJ]at m1;exact Abs.lM G.tb W g1 w M U X S ⟨ρ++[none],_,rfl,m1,C,A.trans (Ev.push _ _),v.me j.len _⟩
  | cons n0 B=>
   obtain⟨m1,C⟩:=lr V j N;rw[bJ]at m1;exact Abs.lJ G.tb W g1 w M U X C3 (by rw[N.len];omega) g7 S ⟨ρ++[some h.length],_,rfl,m1,C,A.trans (Ev.push _ _),v.push j.len _ _⟩
theorem rW(v:bx P tb)(C:d<E.n){t w id n:Nat}{A:TI}{T:Ty}{x y:Operand}{xs ys zs:RV (I T)}(ht:tb t=some A)(he:A.elem=some T)(hx:ev D x=some (.one (.o id)))(hr:H[id]? =some (.row T n xs))(j:Ht P E D H T w y ys)(hl:lim (xs++ys)=some zs):
  dU P ⟨some d,.call ⟨.builtin .append,#[x,y],#[t,w]⟩,ty,pos,af,gd⟩ E F D H (.one (.o H.length)) ((H.set id .aN)++[.row T 0 zs]):=λρ L h hs B G=>
 sr v C ht he hx hr hl hs B G (j ρ L h hs B)
theorem Dr(h:bx P tb)(J:d<E.n){t w id n:Nat}{A B:TI}{T U:Ty}{x y:Operand}{G:C}{xs ys zs:RV (I T)}(ht:tb t=some A)(he:A.elem=some T)(K:tb w=some B)(j:B.elem=some U)(hx:ev D x=some (.one (.o id)))(hr:H[id]? =some (.row T n xs))(L:ev D y=some (.one G))(v:jx H T G=some ys)(hl:lim (xs++ys)=some zs):
  dU P ⟨some d,.call ⟨.builtin .append,#[x,y],#[t,w]⟩,ty,pos,af,gd⟩ E F D H (.one (.o H.length)) ((H.set id .aN)++[.row T 0 zs]):=
 rW h J ht he hx hr (mc h K j L v) hl
theorem lR(B:bx P tb)(K:d<E.n){t M:Nat}{N:TI}{T X:Ty}{x y:Operand}{ys zs:RV (I T)}(ht:tb t=some N)(he:N.elem=some T)(hx:ev D x=some (.one (.nil X)))(j:Ht P E D H T M y ys)(hl:lim ys=some zs):
  dU P ⟨some d,.call ⟨.builtin .append,#[x,y],#[t,M]⟩,ty,pos,af,gd⟩ E F D H (.one (.o H.length)) (H++[.row T 0 zs]):=λρ L h hs v O=>by
 obtain⟨rfl,Q⟩:=sF hl;obtain⟨i,G⟩:=B.get ht;obtain⟨Y,z',g0,g1,g2,R,S,A,g6,Z,g8⟩:=G.elem T he;obtain⟨av,U,a2⟩:=aP hs hx;obtain⟨u,rfl,a3⟩:=a2.aY;have:u= .lit (.slice none 0 0):=by cases a3 with|fl h=>cases h|nil _=>rfl
 subst this;obtain⟨V,C,W⟩:=j ρ L h hs v;have w:Y.zero≠[]:=by intro e;rw[e]at A;simp at A;omega
 cases V with
 | nil=>
  have:zs=[]:=by have:=C.len;cases zs with|nil=>rfl|cons=>simp at this
  subst this;obtain⟨m1,J⟩:=qj S v;exact Abs.lM G.tb U g1 w A R W K ⟨ρ++[none],_,rfl,m1,J,Ev.push _ _,O.me v.len _⟩
 | cons n0 V=>
  obtain⟨m1,J⟩:=lr S v C;exact Abs.lJ G.tb U g1 w A R W C3 (by rw[C.len];omega) Z K ⟨ρ++[some h.length],_,rfl,m1,J,Ev.push _ _,O.push v.len _ _⟩
theorem u9(h:bx P tb)(J:d<E.n){t w:Nat}{A B:TI}{T U K:Ty}{x y:Operand}{G:C}{ys zs:RV (I T)}(ht:tb t=some A)(he:A.elem=some T)(L:tb w=some B)(j:B.elem=some U)(hx:ev D x=some (.one (.nil K)))(M:ev D y=some (.one G))(v:jx H T G=some ys)(hl:lim ys=some zs):
  dU P ⟨some d,.call ⟨.builtin .append,#[x,y],#[t,w]⟩,ty,pos,af,gd⟩ E F D H (.one (.o H.length)) (H++[.row T 0 zs]):=
 lR h J ht he hx (mc h L j M v) hl
theorem nQ{ρ:Rho}{H:RV Ob}:ATR ρ H (.tup []) (.tup []):=.tup rfl (λj h=>H0)
theorem Dl(j:bx P tb){t id off:Nat}{A:TI}{x y:Operand}{v:AT}{cs vs:RV C}(ht:tb t=some A)(hx:ev D x=some (.one (.p id off)))(hb:H[id]? =some (.box cs))(I:ev D y=some v)(J:cells v=some vs)(h1:A.size=vs.length)(h2:off+vs.length<=cs.length):
  dU P ⟨none,.store t x y,ty,pos,af,gd⟩ E F D H (.tup []) (H.set id (.box (bp cs off vs))):=λρ L h hs B K=>by
 obtain⟨i,G⟩:=j.get ht;obtain⟨Q,M,N⟩:=aP hs hx;obtain⟨u,rfl,a3⟩:=N.aY;obtain⟨a,rfl,a4⟩:=a3.ptr;obtain⟨R,us,b1,b2,b3⟩:=B.box id cs hb;rw[a4]at b1;cases b1;obtain⟨aw,c1,c2⟩:=aP hs I;obtain⟨O,c3,c4⟩:=ku J c2;have he:evo (.box cs) (.box (bp cs off vs)):=.inr (.inr (.inl ⟨_,_,rfl,rfl⟩));have d:Ev ρ H ρ (H.set id (.box (bp cs off vs))):=Ev.set hb he;have w:=CRs.bp b3 c4 off;have bJ:(Abs.bp us off O).length=us.length:=Abs.sK (by rw[<-c4.1,<-b3.1];exact h2);refine Abs.xO G.tb M c1 c3 G.look (by rw[G.size,h1,c4.1]) b2 rfl (by rw[<-c4.1,<-b3.1];exact h2) ⟨ρ,.tup [],rfl,nQ,?_,d,?_⟩
 .exact B.set a4 hb C3 he ⟨_,by rw[bJ];rfl,w.mono d⟩
 .exact K.set a4 hb C3 he
theorem jX.app{a b c e:RV V}(h:jX a b)(k:jX c e):jX (a++c) (b++e):=⟨by simp[h.1,k.1],λj h1 h2=>by
 by_cases d:j<a.length
 .rw[O4 d,O4 (by rw[<-h.1];exact d)];exact h.2 j d (by rw[<-h.1];exact d)
 .rw[O2 A1,O2 (by rw[<-h.1];omega)];have:=k.2 (j-a.length) K0 Q7;have e:=h.1;simp only[e]at this ⊢;exact this⟩
theorem FRs.app{a b:RV C}{x y:RV V}(h:FRs a x)(k:FRs b y):FRs (a++b) (x++y):=
 ⟨by simp [h.1,k.1],fun j h1 h2=>by
   by_cases t:j<a.length
   · have d:j<x.length:=by rw[<-h.1];exact t
     rw[O4 t,O4 d];exact h.2 j t d
   · have d:¬j<x.length:=by rw[<-h.1];exact t
     rw[O2 A1,O2 A1];have:=k.2 (j-a.length) K0 Q7;have e:=h.1;simp only[e]at this ⊢;exact this⟩
theorem FRs.take{a:RV C}{x:RV V}(h:FRs a x)(n:Nat):FRs (a.take n) (x.take n):=
 ⟨PY,fun j h1 h2=>by
  simp only[P3];exact h.2 j K0 PU⟩
theorem FRs.drop{a:RV C}{x:RV V}(h:FRs a x)(n:Nat):FRs (a.drop n) (x.drop n):=
 ⟨PY,fun j h1 h2=>by
  simp only[Oy];exact h.2 (n+j) K0 PU⟩
theorem FRs.bp{cs d:RV C}{vs us:RV V}(h:FRs cs vs)(k:FRs d us)(off:Nat):FRs (bp cs off d) (Abs.bp vs off us):=by
 unfold Den.bp Abs.bp;rw[<-k.1];exact(h.take off).app (k.app (h.drop _))
theorem jg.set{a b:RV (RV V)}(h:jg a b){x y:RV V}(hx:jX x y):∀k,jg (a.set k x) (b.set k y):=by
 induction h with
 |nil=>intro k;exact .nil
 | cons h k d=>
  intro m;cases m with
  |zero=>exact .cons hx k
  |succ m=>exact .cons h (d m)
theorem GX{d:RV C}{us:RV V}(t:d.all iE=true)(h:CRs [] [] d us):FRs d us:=⟨h.1,λj k1 v=>Bq (aT.1 t _ (gM k1)) (h.2 j k1 v)⟩
def tyC:C->Y Ty
 | .l T _=>some T
 |_=>none
theorem wM:∀{a b cs:RV C},a.map tyC=b.map tyC->pX a cs=pX b cs
 |[],[],_,_=>rfl
 |[],_::_,_,h=>H0
 |_::_,[],_,h=>H0
 |x::a,y::b,[],_=>by cases x<;>cases y<;>rfl
 | x::a,y::b,c::cs,h=>by
  simp only[Ot,List.cons.injEq]at h;have d:=wM (cs:=cs) h.2;have h1:=h.1;cases x<;>cases y<;>simp only[tyC,NQ,reduceCtorEq]at h1<;>(try subst h1)<;>cases c<;>simp only[pX,d]
theorem wW:∀(T:Ty)(x y:I T),(aG T x).map tyC=(aG T y).map tyC
 | .i,_,_| .b,_,_| .s,_,_| .u,_,_| .sl _,_,_| .n 0,_,_| .n 1,_,_| .n 2,_,_| .n 3,_,_| .n 4,_,_| .n 5,_,_| .n 6,_,_| .n 7,_,_| .n 8,_,_| .n 9,_,_| .n 10,_,_| .n 11,_,_| .n 12,_,_| .n 13,_,_| .n 14,_,_| .n 15,_,_| .n 16,_,_| .n (_+17),_,_=>rfl
theorem tU(S:bx P tb){t id m n n' off:Nat}{Y:TI}{T:Ty}{e O w:I T}{x y:Operand}{v:AT}{vs U:RV C}{xs:RV (I T)}(ht:tb t=some Y)(hx:ev D x=some (.one (.e id m n T e off)))(hr:H[id]? =some (.row T n' xs))(hm:xs[m]? =some O)(hy:ev D y=some v)(hv:cells v=some vs)(hd:eW [] (pX ((aG T e).drop off) vs)=some U)(hi:iB T (bp (aG T O) off U)=some w)
  (h1:Y.size=vs.length) (h2:off+vs.length<=szT T) (Q:0<szT T):
  dU P ⟨none,.store t x y,ty,pos,af,gd⟩ E F D H (.tup []) (H.set id (.row T (n'+1) (xs.set m w))):=λρ L h hs Z A=>by
 obtain⟨i,G⟩:=S.get ht;obtain⟨av,a1,a2⟩:=aP hs hx;obtain⟨u,rfl,a3⟩:=a2.aY;obtain⟨a,xs',rfl,a4,a5,a6,a7,a8⟩:=a3.eptr hr;obtain⟨es,b1,b2⟩:=Z.at_ a4 hr;obtain⟨d,b3,b4⟩:=b2.elem hm;obtain⟨aw,c1,c2⟩:=aP hs hy;obtain⟨R,c3,c4⟩:=ku hv c2;rw[wM (b:=(aG T O).drop off) (by rw[List.map_drop,List.map_drop,wW T e O])]at hd;obtain⟨us,u1,_,u3,u4⟩:=kV hd (vJ (us:=d.drop off) ⟨by rw[Ox,Ox,b4.1],λj g1 g2=>by rw[Oy,Oy];exact b4.2 _ _ _⟩ c4);have hex:=gl hi;have V:U.all iE=true:=by
  have A:=nI Q w;rw[hex]at A;unfold bp at A;simp only[List.all_append,bA]at A;exact A.2.1
 have B:=(b4.bp (GX V u1) off);rw[<-hex]at B;have J:R.length=vs.length:=c4.1.symm;have hel:d.length=szT T:=by rw[<-b4.1,db T Q]
 have M:jX (Abs.bp d off R) (Abs.bp d off us):=by
  unfold Abs.bp;refine(jX.refl _).app (jX.app ⟨u3,u4⟩ ?_);rw[<-u3];exact jX.refl _
 have N:FRl T (xs.set m w) (es.set m (Abs.bp d off us)):=FRl.set B b2.frl m;have he:evo (.row T n' xs) (.row T (n'+1) (xs.set m w)):=.inr (.inl ⟨T,n',xs,n'+1,_,rfl,rfl,C3,A1,λe=>A1⟩);have W:Ev ρ H ρ (H.set id (.row T (n'+1) (xs.set m w))):=Ev.set hr he;have X:=Abs.xO (P:=P) (E:=E) (L:=L) (h:=h) (ty:=ty) (pos:=pos) (af:=af) (gd:=gd) (K:=λL2 h2=>L2=L/\h2=h.set a (some (.row (szT T) (es.set m (Abs.bp d off R))))) G.tb a1 c1 c3 G.look (by rw[G.size,h1,J]) b1 b3 (by rw[J];exact h2) ⟨rfl,rfl⟩;refine nY X λL2 h2' ⟨k1,k2⟩=> ?_;subst k1 k2;have halt:a<h.length:=(gI.1 b1).1;refine⟨_,h.set a (some (.row (szT T) (es.set m (Abs.bp d off us)))),⟨ρ,.tup [],rfl,nQ,Z.set a4 hr C3 he ⟨_,rfl,N.fr Q⟩,W,A.set a4 hr C3 he⟩,λLf=> ?_⟩;have:=cQ.imp (L:=L2++Lf) (h:=h.set a (some (.row (szT T) (es.set m (Abs.bp d off R))))) (id:=a) (s:=szT T) (es:=_) (es':=es.set m (Abs.bp d off us)) (sS halt) ((jg.refl es).set M m) (N.lens Q);rw[List.set_set]at this;exact this
end
end Go.Proofs.YtigoabbppmdfpaaGreat.Den

/- merged -/
import Derived.Test.YtkegnipofloejaaGreatDoorZRowMT22

namespace Go.Proofs.YtkegnipofloejaaGreatDoor.Den
open Go.RowKit
set_option maxRecDepth 100000
set_option linter.unusedVariables false
noncomputable section
namespace z4p
structure Gs where
 none_:Unit
def ents(_:Gs):Td Ent:=[]
def b4{R:Type}(G:Gs)(n:Nat)(s1 s2:LB)(h d:Int)(j:Int->Y R)(t:Bool->Y R)(k1:Y R):Y R:=bif decide (d<h)then((ix s1 d).bind λe2=>(ix s2 d).bind λv=>bif !sEq e2 v then(t false)else j (wr (d+1)))else k1
variable{R:Type}(G:Gs)(n:Nat)
def l4(m:Nat)(s1 s2:LB)(d h:Int)(j:Bool->Y R)(k1:Y R):Y R:=aY (λ(v:Int) t=>b4 G n s1 s2 d v (λw=>t w) j k1) m h
def aq(s1 s2:LB)(K:Bool->Y R):Y R:=bif !decide ((List.length s1:Int)=(List.length s2:Int))then(K false)else l4 G n n s1 s2 (List.length s1:Int) 0 (λt4=>K t4) (K true)
def dl4(m:Nat):=rS [0,1,12,13] [U4,U4,Tx,Tx] [] λR K s1 s2 d h=>l4 G n m s1 s2 d h (λt4=>K .ret ⟨Uj t4,[]⟩) (K (.exit 0) ⟨[],[]⟩)
def pc:Pcs:=⟨Tl 4 (dl4 G n n) nK,nK,nK⟩
def an:Ann:=⟨26,0,[(4,[0,1,12,13])],[],[4],[(6,⟨[(Te 9,[],[])],[],[],[],[]⟩)],[]⟩
abbrev bd:=aK Tryz.f24
def cG(G:Gs)(s1 s2:LB)(r:Bool):Prop:=∃n,aq (R:=AT×Td Ob) G n s1 s2 (λr0=>some (Tp r0,[]))=some (Tp r,[])
theorem ok{G:Gs}(d:ap (ents G)){g:Q}(h:∀s1 s2 r,g s1 s2=some r->cG G s1 s2 r):aj (ent g):=okQ λ_ _ _ _ _ hc=>Tk hc (h _ _) λn _ j=>fF d an (pc G n) Tryz.func24 j (apl [(1,4,.loop (Tj 116 bd))] ⟨Tf d n (dl4 G n) rfl (pc G n) ⟨[],[4],[(0,[])]⟩,Th⟩)
end z4p
namespace z4o
structure Gs where
 z4y:z4y.Q
def aq{R:Type}(G:Gs)(n:Nat)(s:LB)(d:Z)(K:Bool->Y R):Y R:=(G.z4y s d).bind λr=>K (decide (0<=r))
def cG(G:Gs)(s:LB)(d:Z)(r:Bool):Prop:=∃n,aq (R:=AT×Td Ob) G n s d (λr0=>some (Tp r0,[]))=some (Tp r,[])
theorem ok{G:Gs}(h:ap [z4y.ent G.z4y]){g:Q}(t:∀s d r,g s d=some r->cG G s d r):aj (ent g):=okQ λ_ _ _ _ _ hc=>Tk hc (t _ _) λ_ _ j=>fF h ⟨9,0,[],[],[4],[],[]⟩ nP Tryz.func45 j
end z4o
namespace z0p
structure Gs where
 none_:Unit
def aq{R:Type}(G:Gs)(n:Nat)(o:Opr)(c0:Z)(K:Bool->Y R):Y R:=K (sEq o.ah c0)
theorem ok{G:Gs}(d:ap []){g:Q}(h:∀o c0 r,g o c0=some r->∃n,aq G n o c0 (Vw c0)=Vw c0 r):aj (ent g):=okQ λ_ _ _ _ _ _ _ _ _ hc=>Tk hc (h _ _) λ_ _ j=>fF d ⟨8,1,[],[],[3],[],[]⟩ nP Tryz.func21 j
end z0p
namespace z4w
structure Gs where
 z0p:z0p.Q
def ents(G:Gs):Td Ent:=[z0p.ent G.z0p]
def b2{R:Type}(G:Gs)(n:Nat)(s:LO)(h:Z)(j d:Int)(t v:Int->Y R)(k1:Y R):Y R:=bif decide (d<j)then((ix s d).bind λe=>(G.z0p e h).bind λr=>bif r then(v d)else t (wr (d+1)))else k1
variable{R:Type}(G:Gs)(n:Nat)
def l2(m:Nat)(s:LO)(d:Z)(h j:Int)(t:Int->Y R)(k1:Y R):Y R:=aY (λ(v:Int) w=>b2 G n s d h v (λy=>w y) t k1) m j
def aq(s:LO)(d:Z)(K:Int->Y R):Y R:=l2 G n n s d (List.length s:Int) 0 (λt4=>K t4) (K (-1))
def dl2(G:Gs)(n m:Nat)(R:Type)(st:St)(K:Kt R):Y R:=match st with|⟨[(0,.one (.o 0)),(1,.one (.f 21 [.p 1 0])),(7,.one (.i h)),(8,.one (.i j))],[.row (.n 8) 0 s,.box [.s d]]⟩=>l2 G n m s d h j (λt4=>K .ret ⟨[(4,Tv t4)],[Us s,Ur d]⟩) (K (.exit 0) ⟨[],[Us s,Ur d]⟩)|_=>none
def pc:Pcs:=⟨Tl 2 (dl2 G n n) nK,nK,nK⟩
def an:Ann:=⟨19,2,[(2,[0,1,7,8])],[],[4],[],[]⟩
abbrev bd:=aK Tryz.f20
abbrev q2:=Tj 52 bd
theorem pl2{G:Gs}(d:ap (ents G))(n:Nat):∀m,al an (.loop q2) (dl2 G n m):=lpc d (pc G n) [0,1,7,8] ⟨[],[4],[(0,[])]⟩ (apl [] trivial) (λR st K=>by unfold dl2;split<;>rfl) λm R st K r h=>K0
def cG(G:Gs)(s:LO)(d:Z)(r:Int):Prop:=∃n,aq (R:=AT×Td Ob) G n s d (λr0=>some (Tv r0,[Us s,Ur d]))=some (Tv r,[Us s,Ur d])
theorem ok{G:Gs}(d:ap (ents G)){g:Q}(t:∀s h r,g s h=some r->cG G s h r):aj (ent g):=λR xs H K r hc=>by
 simp only[ent]at hc;split at hc
 .exact Tk hc (t _ _) λn _ j=>fF d an (pc G n) Tryz.func20 j (apl [(1,2,.loop q2)] ⟨pl2 d n n,Th⟩)
 .cases hc
end z4w
namespace z4x
structure Gs where
 none_:Unit
def ents(_:Gs):Td Ent:=[]
def b2{R:Type}(G:Gs)(n:Nat)(s:LB)(h:Z)(j d:Int)(t v:Int->Y R)(k1:Y R):Y R:=bif decide (d<j)then((ix s d).bind λe=>bif sEq h e then(v d)else t (wr (d+1)))else k1
variable{R:Type}(G:Gs)(n:Nat)
def l2(m:Nat)(s:LB)(d:Z)(h j:Int)(t:Int->Y R)(k1:Y R):Y R:=aY (λ(v:Int) w=>b2 G n s d h v (λy=>w y) t k1) m j
def aq(s:LB)(d:Z)(K:Int->Y R):Y R:=l2 G n n s d (List.length s:Int) 0 (λt4=>K t4) (K (-1))
def dl2(m:Nat):=rS [0,1,7,8] [U7,Uv,Tx,Tx] [UF] λR K d h j s=>l2 G n m s d h j (λt4=>K .ret ⟨[(4,Tv t4)],[Un s]⟩) (K (.exit 0) ⟨[],[Un s]⟩)
def pc:Pcs:=⟨Tl 2 (dl2 G n n) nK,nK,nK⟩
def an:Ann:=⟨19,1,[(2,[0,1,7,8])],[],[4],[],[]⟩
abbrev bd:=aK Tryz.f44
def cG(G:Gs)(s:LB)(d:Z)(r:Int):Prop:=∃n,aq (R:=AT×Td Ob) G n s d (λr0=>some (Tv r0,[Un s]))=some (Tv r,[Un s])
theorem ok{G:Gs}(d:ap (ents G)){g:Q}(t:∀s h r,g s h=some r->cG G s h r):aj (ent g):=okQ λ_ _ _ _ _ hc=>Tk hc (t _ _) λn _ j=>fF d an (pc G n) Tryz.func44 j (apl [(1,2,.loop (Tj 52 bd))] ⟨Tf d n (dl2 G n) rfl (pc G n) ⟨[],[4],[(0,[])]⟩,Th⟩)
end z4x
end
end Go.Proofs.YtkegnipofloejaaGreatDoor.Den
namespace Go.Proofs.YtkegnipofloejaaGreatDoor.Den
open Go.RowKit
open Abs (V AV au)
def obK:Ob->Bool
 | .row _ _ _=>true
 | .box cs=>cs.all fL
 |_=>false
theorem FO{P:Program}{f:FuncId}{xs:Td AT}{H:Td Ob}{v:AT}(hF:CFn P f xs H v H)(G:∀o∈H,obK o=true)(I:v.flat=true)(J:∀xs,v≠.tup xs){ρ:Rho}{h:au}{avs:Td AV}(hp:HpR ρ H h)(d:cL ρ H xs avs):
  Abs.Fn P f avs h (λr h'=>r=vA v/\h'=h):=by
 refine Abs.Fn.seal (hF ρ h avs hp d) ?_;rintro z r h' ⟨ρ',K,w,D⟩;obtain⟨e1,y⟩:=jD I J K;subst e1;have same:∀i,i<h.length->h'[i]? =h[i]? :=fun i hi=>by
  by_cases hl:∃id,ρ[id]? =some (some i)/\live H id
  .obtain⟨id,A,x,d,_⟩:=hl;have E:=D.rho id _ A;have hk:=G x (mG d);cases x with
   | row T n l=>
    rcases hp.row id n T l d with⟨a,es,q1,q2,q3⟩|⟨q1,_⟩
    .rcases w.row id n T l d with⟨L,es',t,B,C⟩|⟨t,_⟩
     .rw[A]at q1;cases q1;rw[E]at t;cases t;have:=q3.uniq C;cases this;rw[q2,B]
     .grind
    .grind
   | box cs=>
    obtain⟨a,vs,q1,q2,q3⟩:=hp.box id cs d;obtain⟨L,M,t,B,C⟩:=w.box id cs d;rw[A]at q1;cases q1;rw[E]at t;cases t;have hc:∀c∈cs,fL c=true:=aT.1 hk
    have F:∀{ρ:Rho}{vs:Td V},CRs ρ H cs vs->vs=cs.map vC:=λq=>by
     have q4:FRs cs _:=⟨q.1,λj h1 h2=>kO (hc _ (gM h1)) ((q.2 j h1 h2).up (hc _ (gM h1)))⟩;exact q4.vC
    rw[q2,B,F q3,F C]
   |map _ _=>cases hk
   |rows _ _ _=>cases hk
   |aQ=>cases hk
  .exact D.same i hi λid q1 q2=>hl ⟨id,q1,q2⟩
 have key:h'=h++h'.drop h.length:=by
  conv=>lhs;rw[<-PB h.length h']
  congr 1
  apply List.ext_getElem?;intro i;rw[List.getElem?_take];by_cases hi:i<h.length
  .grind
  .grind
 exact⟨[(0,vA v)],h',vA v,.refl _ _,rfl,.inr ⟨_,_,key,y.flat,A1,λi o ho=>.inl ho,rfl,rfl⟩⟩
theorem AI:aj (z4x.ent nV):=z4x.ok (G:=⟨()⟩) trivial λ(l:Td Z) x r h=>by
 unfold nV at h;split at h
 .rename_i hs;cases h;refine⟨l.length+1,?_⟩;unfold z4x.aq;have key:=λd=>jW (R:=AT×Td Ob) l (λy=>sEq y x) (λv j=>z4x.b2 ⟨()⟩ (l.length+1) l x (l.length:Int) v j d (d (-1))) d (by
   intro i y j t;have hi:=(gI.1 t).1;unfold z4x.b2;rw[bt hi,cT,aW t,bS,bw A0,zn]) (by
   intro j;unfold z4x.b2;rw[bh A0,cF]) (l.length+1) 0 A0 A0
  exact(key _).trans rfl
 .cases h
theorem xq:aj (z4o.ent λl x=>if l.length<=16 then some (decide (0<=fdN l x))else none):=z4o.ok (G:=⟨nV⟩) ⟨sI,trivial⟩ λl x r h=>by
 split at h
 .rename_i hl;cases h;exact⟨1,by
   unfold z4o.aq;show (nV l x).bind _=_;rw[show nV l x=_ from mt hl];rfl⟩
 .cases h
theorem fx(d:Td Z):FR (.l .s d) (.imm 1 (d.map λx=>[.lit (.string x)])):=by
 have:=gh (T:=.s) A3 (xs:=d) λx _=>(.one .s:Ok [C.s x]);have e:(d.map λx:Z=>(aC .s x).map vC)=d.map λx=>[V.lit (.string x)]:=PZ λx _=>congrArg (λv=>[v]) (vC_s x);rw[<-e];exact this
end Go.Proofs.YtkegnipofloejaaGreatDoor.Den
namespace Go.Proofs.YtkegnipofloejaaGreatDoor.Abs
open Go.RowKit
open Den (cL ATR CR HpR)
theorem GL{h:au}{k:Nat}{d:Td Z}(hk:h[k]? =some (some (.row 1 (d.map λx=>[.lit (.string x)]))))(hl:d.length<=16)(x:Z):
  Fn Tryz.prog 44 [.one (.own k 0 d.length),.one (.lit (.string x))] h (λr h'=>r= .one (.lit (.int .i64 (Den.fdN d x)))/\h'=h):=by
 have hF:=Den.ia Den.AI (xs:=[.one (.o 0),.one (.s x)]) (H:=[.row .s 0 d]) (H':=[.row .s 0 d]) (v:=.one (.i (Den.fdN d x))) (by
  show (Den.nV d x).bind _=_;rw[show Den.nV d x=_ from mt hl];rfl)
 have hp:HpR [some k] [.row .s 0 d] h:=by
  refine⟨rfl,λi n T xs t=> ?_,λi cs t=> ?_,λi T kvs t=> ?_,λi j a h1 h2 _ _=> ?_,λi a hi=> ?_⟩
  .match i,t with
   |0,t=>cases t;exact .inl ⟨k,_,rfl,hk,Den.fx d⟩
  .grind
  .grind
  .grind
  .grind
 have:=Den.FO hF (λo ho=>by rw[List.mem_singleton.1 ho];rfl) rfl Den.nt2 hp (avs:=[.one (.own k 0 d.length),.one (.lit (.string x))]) ⟨rfl,λj h1 h2=>by
  match j,h1 with
  |0,_=>exact .one (.o (T:=.s) (n:=0) (xs:=d) rfl rfl)
  |1,_=>exact .one (.fl .s)⟩
 rwa [Den.jg]at this
end Go.Proofs.YtkegnipofloejaaGreatDoor.Abs
namespace Go.Proofs.YtkegnipofloejaaGreatDoor.Abs
open Go.RowKit
theorem Wa{p q:Prop}(k:q)(h:Kp q->p:=by
 intro k
 (repeat (first
 |with_reducible refine nQ ?_
 |with_reducible refine fU ?_
 |with_reducible refine Lm ?_
 |with_reducible refine Lh ?_
 |with_reducible refine E5 ?_
 |with_reducible refine H4 ?_
 |with_reducible refine wc ?_
 |with_reducible refine d rfl ?_
 |with_reducible refine pQ ?_
 |with_reducible refine fD ?_
 |with_reducible refine sL ?_
 |with_reducible refine vU ?_
 |with_reducible refine AX ?_
 |with_reducible refine v7 ?_
 |(refine aI rfl ?_;refine Ao ?_)
 |(refine kj rfl rfl rfl RN ?_;refine Ao ?_)
 |(refine qY rfl rfl rfl RN rfl (aD hE rfl) ?_)
 |(refine tf rfl rfl rfl rfl (aD hE rfl) ?_)))
 exact k.out):p:=h ⟨k⟩
theorem Ws{p q:Prop}(k:q)(h:Kp q->p:=by
 intro k;refine Wa ?_
 (repeat ((first|(refine aI rfl ?_;(first|refine eZ rfl rfl rfl (aD hE rfl) ?_|refine bX ax rfl rfl rfl rfl A3 A3 rfl (aD hE rfl) ?_))|(refine kj rfl rfl rfl RN ?_;(first|refine eZ rfl rfl rfl (aD hE rfl) ?_|refine bX ax rfl rfl rfl rfl A3 A3 rfl (aD hE rfl) ?_)));refine Wa ?_))
 exact k.out):p:=h ⟨k⟩
theorem Dq{p q:Prop}(k:q)(h:Kp q->p:=by
 intro k
 (repeat (first
 |with_reducible refine NN ?_
 |(apply vN;rfl;rfl;rfl;focus (refine Ao ?_<;>exact⟨rfl,rfl⟩))
 |(apply oQ;rfl;rfl;rfl;rfl;rfl;(first|rfl|assumption);focus (refine Ao ?_<;>exact⟨rfl,rfl⟩))
 |(refine Jd rfl rfl rfl rfl rfl Dg rfl (aD hE rfl) ?_)
 |(refine d rfl rfl rfl rfl rfl rfl (aD hE rfl) ?_)))
 exact k.out):p:=h ⟨k⟩
abbrev nlV:V:=.lit (.slice none 0 0)
def Slot(h:au)(v:V)(s:Nat)(es:Td (Td V)):Prop:=(v=nlV/\es=[])\/∃k,v= .own k 0 es.length/\h[k]? =some (some (.row s es))
def kill(h:au):V->au
 | .own k _ _=>h.set k none
 |_=>h
def notK(v:V)(k:Nat):Prop:=∀o l,v≠.own k o l
theorem lu(h:au)(v:V):(kill h v).length=h.length:=by
 cases v<;>simp[kill]
theorem lz{h:au}{v:V}{k:Nat}(hk:notK v k):(kill h v)[k]? =h[k]? :=by
 cases v with
 |own i o l=>exact sN λe=>hk o l (by rw[e])
 |_=>rfl
theorem Slot.mono{h h':au}{v:V}{s:Nat}{es:Td (Td V)}(S:Slot h v s es)(hk:∀k o l,v= .own k o l->h'[k]? =h[k]?):Slot h' v s es:=by
 rcases S with h1|⟨k,h1,h2⟩
 .exact .inl h1
 .exact .inr ⟨k,h1,(hk _ _ _ h1).trans h2⟩
section
variable {P : Program} {E : Cx} {K : Env → au → Prop} {L : Env} {h0 l : au} {d n : Nat} {ty : TypeId} {pos : String} {af : Array Edge} {gd : Y (Nat × Bool)} {tb : Tbl}
theorem qX(w:cm P tb)(A:h0.length=n){t tx:TypeId}{x y:Operand}{s:Nat}{es ns:Td (Td V)}{v F:V}{j D:ElI}(S:Slot h0 v s es)(G:ev L x=some (.one v))(he:du tb t=some j)(hex:du tb tx=some D)(B:j.zero≠[])(H:j.zero.length=j.size)(hs:j.size=s)
  (I:ev L y=some (.one F)) (J:eA (h0++l) s F=some ns) (hm0:0<ns.length) (h:es.length+ns.length<=4294967296) (C:Nat.ble j.bytes 4096=true) (M:d<E.n)
  (hk:K ((d,.one (.own (n+l.length) 0 (es++ns).length))::L) (kill h0 v++(l++[some (.row s (es++ns))]))):ar P ⟨some d,.call ⟨.builtin .append,#[x,y],#[t,tx]⟩,ty,pos,af,gd⟩ E K L (h0++l):=by
 rcases S with⟨rfl,rfl⟩|⟨k,rfl,ho⟩
 .exact kw w A G he hex B H hs I J hm0 Ro C M hk
 .refine rI w G he hex B H hs (ba k ho) (Pp _) I J h C M ?_;rw[kP k ho,O5,gH A,<-OJ];exact hk
end
noncomputable abbrev dcV(d:Den.Dc):Td V:=[.imm 1 (d.ae.map λx=>[.lit (.int .i64 x)]),.lit (.int .i64 d.result)]
noncomputable abbrev opV(o:Den.Opr)(d:V):Td V:=[.lit (.string o.ah),d,.lit (.bool o.aE),.lit (.bool o.comm),.lit (.int .i64 o.aO)]
def OpE(o:Den.Opr)(e:Td V):Prop:=∃d,e=opV o d/\(d= .di 2 (o.aJ.map dcV)\/(o.aJ.length≠1/\d= .imm 2 (o.aJ.map dcV)))
abbrev sbE(l:Td Den.Sb):Td (Td V):=l.map λp=>[.lit (.int .i64 p.low),.lit (.int .i64 p.cK)]
def idK:V->Td Nat
 | .own k _ _=>[k]
 |_=>[]
theorem nX{v:V}{k:Nat}(h:k∉idK v):notK v k:=λo l e=>h (by rw[e];simp[idK])
def szR:Nat->Nat
 |1=>2
 |2=>5
 |_=>1
def upd{α:Type}(f:Nat->α)(j:Nat)(x:α)(i:Nat):α:=if i=j then x else f i
def lg(v:Nat->V):Nat->Ob
 |3=>.row 1 [[v 3]]
 |_=>.row 5 [[v 0,v 1,v 2,nlV,nlV]]
def atR(c0 c1:Nat):Nat->Nat
 |3=>c1
 |_=>c0
structure RdH(h:au)(c0 c1:Nat)(v:Nat->V)(es:Nat->List (List V)):Prop where
 m:h[c0]?=some (some (lg v 0))
 u:h[c1]?=some (some (lg v 3))
 sl:∀i,i<4->Slot h (v i) (szR i) (es i)
 dj:∀i j k,i<4->j<4->i≠j->k∈idK (v i)->k∉idK (v j)
 dc:∀i,i<4->c0∉idK (v i)/\c1∉idK (v i)
 d01:c0≠c1
section
variable {h l : au} {c0 c1 : Nat} {v : Nat → V} {es : Nat → Td (Td V)}
theorem RdH.lt(R:RdH h c0 c1 v es){i k:Nat}(hi:i<4)(hk:k∈idK (v i)):k<h.length:=by
 rcases R.sl i hi with⟨e,_⟩|⟨j,e,d⟩
 .rw[e]at hk;simp[idK]at hk
 .rw[e]at hk;obtain rfl:k=j:=by simpa [idK]using hk
  exact(gI.1 d).1
theorem RdH.upd(R:RdH h c0 c1 v es){j k:Nat}(C:j<4){ns:Td (Td V)}(hl:l[k]? =some (some (.row (szR j) ns))):
  RdH ((kill h (v j)).set (atR c0 c1 j) (some (lg (upd v j (.own (h.length+k) 0 ns.length)) j))++l) c0 c1 (upd v j (.own (h.length+k) 0 ns.length)) (upd es j ns):=by
 obtain⟨t,y⟩:∃t,t=Abs.upd v j (.own (h.length+k) 0 ns.length):=⟨_,rfl⟩;rw[<-y];have F:t j= .own (h.length+k) 0 ns.length:=by rw[y];exact mt rfl
 have B:∀i,i≠j->t i=v i:=λi hi=>by rw[y];exact O2 hi
 have l0:=(gI.1 R.m).1;have l1:=(gI.1 R.u).1;have bF:((kill h (v j)).set (atR c0 c1 j) (some (lg t j))).length=h.length:=by rw[PS,lu]
 have old:∀c,c<h.length->c∉idK (v j)->c≠atR c0 c1 j->((kill h (v j)).set (atR c0 c1 j) (some (lg t j))++l)[c]? =h[c]? :=λc hc h1 h2=>by
  rw[aL A0,sN (Qc h2),lz (nX h1)]
 have new:((kill h (v j)).set (atR c0 c1 j) (some (lg t j))++l)[atR c0 c1 j]? =some (some (lg t j)):=by
  have:atR c0 c1 j<h.length:=by unfold atR;split<;>assumption
  rw[aL A0,sS (by rw[lu];exact this)]
 have w:∀i k',i<4->k'∈idK (t i)->(i=j/\k'=h.length+k)\/(i≠j/\k'∈idK (v i)):=λi k' hi hk=>by
  by_cases e:i=j
  .subst e;rw[F]at hk;exact .inl ⟨rfl,by simpa [idK]using hk⟩
  .grind
 refine⟨?_,?_,λi hi=> ?_,λi G k' hi A D h1 h2=> ?_,λi hi=>⟨λh1=> ?_,λh1=> ?_⟩,R.d01⟩
 .by_cases e:j=3
  .subst e;refine(old c0 l0 (R.dc 3 C).1 R.d01).trans (R.m.trans ?_);show some (some (Ob.row 5 [[v 0,v 1,v 2,nlV,nlV]]))=some (some (Ob.row 5 [[t 0,t 1,t 2,nlV,nlV]]));rw[B 0 A3,B 1 A3,B 2 A3]
  .have e1:atR c0 c1 j=c0:=by unfold atR;split<;>simp_all
   have e2:lg t j=lg t 0:=by unfold lg;split<;>simp_all
   rw[e1,e2]at new;rw[e1,e2];exact new
 .by_cases e:j=3
  .subst e;exact new
  .have e1:atR c0 c1 j=c0:=by unfold atR;split<;>simp_all
   refine(old c1 l1 (R.dc j C).2 (by rw[e1];exact Qc R.d01)).trans (R.u.trans ?_);show some (some (Ob.row 1 [[v 3]]))=some (some (Ob.row 1 [[t 3]]));rw[B 3 (Qc e)]
 .by_cases e:i=j
  .subst e;refine .inr ⟨h.length+k,by rw[F];simp[Abs.upd],?_⟩;rw[aR A0,bF,PY,hl];simp[Abs.upd]
  .rw[B i e,show Abs.upd es j ns i=es i from O2 e];refine(R.sl i hi).mono λk' o m E=>old k' (R.lt hi (by rw[E];simp[idK])) (R.dj i j k' hi C e (by rw[E];simp[idK])) ?_;intro e2;have:=R.dc i hi;rw[E]at this;unfold atR at e2;split at e2<;>subst e2<;>simp[idK]at this
 .rcases w i k' hi h1 with⟨rfl,rfl⟩|⟨a,b⟩<;>rcases w G _ A h2 with⟨c,d⟩|⟨c,d⟩
  .omega
  .have:=R.lt A d;omega
  .have:=R.lt hi b;omega
  .exact R.dj i G k' hi A D b d
 .rcases w i _ hi h1 with⟨_,e⟩|⟨_,e⟩
  .omega
  .exact(R.dc i hi).1 e
 .rcases w i _ hi h1 with⟨_,e⟩|⟨_,e⟩
  .omega
  .exact(R.dc i hi).2 e
end
structure RdE(ee:Nat->List (List V))(s:Den.Sg)(us:List Z):Prop where
 en:ee 0=bP s.ai.ak
 es:ee 1=sbE s.ai.aA
 eo:(ee 2).length=s.ops.length/\∀(j:Nat)(h1:j<s.ops.length)(h2:j<(ee 2).length),OpE s.ops[j] (ee 2)[j]
 eu:ee 3=bP us
def RdS(h:au)(c0 c1:Nat)(s:Den.Sg)(us:Td Z):Prop:=∃v es,RdH h c0 c1 v es/\RdE es s us
section
open Den (bC gg lm wOp gl)
theorem fQ{h0 l:au}{n:Nat}(b:Z)(d:b.size<4294967281)(h:h0.length=n):Fn Tryz.prog 42 [.one (.lit (.string b)),.one (.lit (.string ⟨#[32]⟩))] (h0++l) (λr h'=>r= .one (.own (n+l.length) 0 (bP (bC b)).length)/\h'=h0++(l++[some (.row 1 (bP (bC b)))])):=by
 have:=EW b d (h0++l)
 rwa [gH h,O5]at this
theorem ir(d:Td Z):(bP d).all (·.all V.flat)=true:=by
 rw[List.all_map,aT];exact λ_ _=>rfl
theorem fzS(k:Nat)(d:Td Z):(AV.one (.own k 0 (bP d).length)).fz k 1 (bP d)= .one (.imm 1 (bP d)):=by
 show AV.one (if k=k then _ else _)=_;rw[mt rfl,OQ,Q0]
theorem IX{h:au}{c0 c1:Nat}{s:Den.Sg}{us:Td Z}{x b:Z}(y:bC b=[gg,x])(A:b.size<4294967281)(R:RdS h c0 c1 s us)(hl:s.ai.ak.length<=1000):
  Fn Tryz.prog 19 [.one (.ptr c0 0 0),.one (.ptr c1 0 0),.one (.lit (.string b))] h (λr h'=>r= .one (.lit (.bool true))/\RdS h' c0 c1 ⟨⟨s.ai.ak++[x],s.ai.aA⟩,s.ops⟩ us):=by
 obtain⟨v,es,R,t⟩:=R;refine cW Tryz.func19 rfl rfl (O1 rfl) λE d=>fh ?_
 replace d:E.n=230:=d;have hE:=d
 have hN:h.length=h.length:=rfl;refine Wk ?_;refine aI rfl ?_;refine bL rfl (aD d rfl) (fQ b A hN) ?_;rw[y];refine aI rfl ?_;refine dK rfl (aD d rfl) ?_;refine fD (fU (dJ (br.freezeL hN 7 1 rfl (ir _) rfl QE) (cB (L':=[(0,.one (.ptr c0 0 0)),(1,.one (.ptr c1 0 0)),(3,.one (.ptr (h.length+0) 0 0)),(7,.one (.imm 1 (bP [gg,x])))]) (ag rfl (ag rfl (ag rfl (ag (congrArg some (fzS _ [gg,x])) (aZ _))))) ?_)));refine Wk ?_;refine aI rfl ?_;refine dD (vs:=[.ptr (h.length+0) 0 0]) rfl rfl (aD d rfl) ?_;refine Ws ?_;refine iz rfl rfl ?_;refine Wk ?_;have M:h[c0]? =some (some (.row 5 [[v 0,v 1,v 2,nlV,nlV]])):=R.m;have B:(kill h (v 0))[c0]? =some (some (.row 5 [[v 0,v 1,v 2,nlV,nlV]])):=(lz (nX (R.dc 0 A3).1)).trans M;have w:(es 0).length+1<=4294967296:=by rw[t.en,OV];omega
 have C:(kill h (v 0)).length=h.length:=lu _ _;have hj:=C;refine dz mixed [6,7,8,9,1,2,3,4,5,10,0,11,12,13,14] [9,10,14] [0,1,5] A3 ?_;refine Dp ?_
 (apply kM;rfl;rfl;rfl;focus (intro D;refine bX ax rfl rfl rfl rfl A3 A3 rfl (aD d rfl) ?_;exact⟨rfl,rfl⟩))
 refine Dp ?_
 (apply aS;rfl;rfl;rfl;focus (refine dP ax rfl A3 rfl rfl rfl rfl rfl Rl (aD d rfl) ?_;exact⟨rfl,rfl⟩))
 refine Dr ?_;refine Dp ?_;refine Dp ?_;refine Dp ?_
 (apply bK;rfl;rfl;rfl;rfl;focus (intro D hm;have hm:=O6 hm;simp only[OI,O9,or_false]at hm;first|(subst hm;exact eF ax M rfl rfl rfl rfl (aD d rfl) ⟨rfl,rfl⟩)|(rcases hm with rfl|rfl<;>exact eF ax M rfl rfl rfl rfl (aD d rfl) ⟨rfl,rfl⟩)|(rcases hm with rfl|rfl|rfl<;>exact eF ax M rfl rfl rfl rfl (aD d rfl) ⟨rfl,rfl⟩)))
 (apply aS;rfl;rfl;rfl;focus (refine qX ax hN (R.sl 0 A3) rfl rfl rfl A3 rfl rfl rfl rfl (O1 rfl) w rfl (aD d rfl) ?_;exact⟨rfl,rfl⟩))
 refine Dr ?_;refine Dp ?_;refine Dp ?_;refine Dp ?_
 (apply aS (v:=.dead);rfl;rfl;rfl;focus (refine j5 ax B rfl rfl rfl rfl rfl rfl (O1 rfl) ?_;exact⟨rfl,rfl⟩))
 refine dQ ?_;refine Wk ?_;refine pT (fy rfl rfl) (.inl ⟨rfl,_,_,R.upd (j:=0) (k:=3) A3 rfl,?_⟩);refine⟨?_,t.es,t.eo,t.eu⟩;show es 0++[[.lit (.string x)]]=_;rw[t.en];simp[bP]
theorem og{a b:Z}(h:a≠b):vD .eql a b=false/\vD .neq a b=true:=by
 unfold vD;simp[h]
theorem I6{h:au}{c0 c1:Nat}{a b:Z}{tl:Td Z}(v:bC b=a::tl)(y:a≠gg/\a≠lm/\a≠wOp)(w:b.size<4294967281):
  Fn Tryz.prog 19 [.one (.ptr c0 0 0),.one (.ptr c1 0 0),.one (.lit (.string b))] h (λr h'=>r= .one (.lit (.bool false))/\h'=h):=by
 have e1:=(og y.1).1;have e2:=(og y.2.1).1;have e3:=(og y.2.2).2;rcases tl with _|⟨j,_|⟨t,_|⟨t3,_|⟨t4,tl⟩⟩⟩⟩
 .refine cW Tryz.func19 rfl rfl (O1 rfl) λE d=>fh ?_
  replace d:E.n=230:=d;have hE:=d
  have hN:h.length=h.length:=rfl;refine Wk ?_;refine aI rfl ?_;refine bL rfl (aD d rfl) (fQ b w hN) ?_;rw[v];refine aI rfl ?_;refine dK rfl (aD d rfl) ?_;refine fD (fU (dJ (br.freezeL hN 7 1 rfl (ir _) rfl QE) (cB (L':=[(0,.one (.ptr c0 0 0)),(1,.one (.ptr c1 0 0)),(3,.one (.ptr (h.length+0) 0 0)),(7,.one (.imm 1 (bP [a])))]) (ag rfl (ag rfl (ag rfl (ag (congrArg some (fzS _ [a])) (aZ _))))) ?_)));exact S4
 .refine cW Tryz.func19 rfl rfl (O1 rfl) λE d=>fh ?_
  replace d:E.n=230:=d;have hE:=d
  have hN:h.length=h.length:=rfl;refine Wk ?_;refine aI rfl ?_;refine bL rfl (aD d rfl) (fQ b w hN) ?_;rw[v];refine aI rfl ?_;refine dK rfl (aD d rfl) ?_;refine fD (fU (dJ (br.freezeL hN 7 1 rfl (ir _) rfl QE) (cB (L':=[(0,.one (.ptr c0 0 0)),(1,.one (.ptr c1 0 0)),(3,.one (.ptr (h.length+0) 0 0)),(7,.one (.imm 1 (bP [a,j])))]) (ag rfl (ag rfl (ag rfl (ag (congrArg some (fzS _ [a,j])) (aZ _))))) ?_)));exact S4
 .refine cW Tryz.func19 rfl rfl (O1 rfl) λE d=>fh ?_
  replace d:E.n=230:=d;have hE:=d
  have hN:h.length=h.length:=rfl;refine Wk ?_;refine aI rfl ?_;refine bL rfl (aD d rfl) (fQ b w hN) ?_;rw[v];refine aI rfl ?_;refine dK rfl (aD d rfl) ?_;refine fD (fU (dJ (br.freezeL hN 7 1 rfl (ir _) rfl QE) (cB (L':=[(0,.one (.ptr c0 0 0)),(1,.one (.ptr c1 0 0)),(3,.one (.ptr (h.length+0) 0 0)),(7,.one (.imm 1 (bP [a,j,t])))]) (ag rfl (ag rfl (ag rfl (ag (congrArg some (fzS _ [a,j,t])) (aZ _))))) ?_)));exact S4
 .refine cW Tryz.func19 rfl rfl (O1 rfl) λE d=>fh ?_
  replace d:E.n=230:=d;have hE:=d
  have hN:h.length=h.length:=rfl;refine Wk ?_;refine aI rfl ?_;refine bL rfl (aD d rfl) (fQ b w hN) ?_;rw[v];refine aI rfl ?_;refine dK rfl (aD d rfl) ?_;refine fD (fU (dJ (br.freezeL hN 7 1 rfl (ir _) rfl QE) (cB (L':=[(0,.one (.ptr c0 0 0)),(1,.one (.ptr c1 0 0)),(3,.one (.ptr (h.length+0) 0 0)),(7,.one (.imm 1 (bP [a,j,t,t3])))]) (ag rfl (ag rfl (ag rfl (ag (congrArg some (fzS _ [a,j,t,t3])) (aZ _))))) ?_)));exact S4
 .have g1:bg .eql ((bP (a::j::t::t3::t4::tl)).length:Int) 2=false:=QP
  have A:bg .eql ((bP (a::j::t::t3::t4::tl)).length:Int) 3=false:=QP
  have g3:bg .lss ((bP (a::j::t::t3::t4::tl)).length:Int) 5=false:=QP
  refine cW Tryz.func19 rfl rfl (O1 rfl) λE d=>fh ?_
  replace d:E.n=230:=d;have hE:=d
  have hN:h.length=h.length:=rfl;refine Wk ?_;refine aI rfl ?_;refine bL rfl (aD d rfl) (fQ b w hN) ?_;rw[v];refine aI rfl ?_;refine dK rfl (aD d rfl) ?_;refine fD (fU (dJ (br.freezeL hN 7 1 rfl (ir _) rfl QE) (cB (L':=[(0,.one (.ptr c0 0 0)),(1,.one (.ptr c1 0 0)),(3,.one (.ptr (h.length+0) 0 0)),(7,.one (.imm 1 (bP (a::j::t::t3::t4::tl))))]) (ag rfl (ag rfl (ag rfl (ag (congrArg some (fzS _ (a::j::t::t3::t4::tl))) (aZ _))))) ?_)));exact S4
end
section
open Den (bC gg lm wOp gl fdN)
theorem BK{h:au}{c0 k j:Nat}{vs t:V}{ak:Td Z}(hc:h[j]? =some (some (.row 1 [[.ptr c0 0 0]])))(hm:h[c0]? =some (some (.row 5 [[.own k 0 ak.length,vs,t,nlV,nlV]])))(hk:h[k]? =some (some (.row 1 (bP ak))))(hl:ak.length<=16)(x:Z):
  Fn Tryz.prog 43 [.one (.lit (.string x)),.one (.ptr j 0 0)] h (λr h'=>r= .one (.lit (.int .i64 (fdN ak x)))/\h'=h):=by
 refine cW Tryz.func43 rfl rfl (O1 rfl) λE d=>fh ?_
 replace d:E.n=11:=d;have hE:=d
 have hN:h.length=h.length:=rfl;refine Wk ?_;refine aI rfl ?_;refine eF ax hm rfl rfl rfl rfl (aD d rfl) ?_;refine Wk ?_;refine aI rfl ?_;refine bL rfl (aD d rfl) (GL (ba k hk) hl x) ?_;refine Wk ?_;exact pT (fy rfl rfl) (j9 rfl ⟨rfl,rfl⟩)
theorem ms{P:Program}{E:Cx}{K:Env->au->Prop}{L:Env}{h:au}{d:Nat}{ty:TypeId}{pos:String}{af:Array Edge}{gd:Y (Nat×Bool)}{x:Operand}{f:Nat}{vs:Td V}{ae:Td Operand}{avs:Td AV}{tys:Array TypeId}{v:AV}(j:ev L x=some (.one (.clo (.func f) vs)))(t:evs L ae=some avs)(w:d<E.n)
  (y:Fn P f (avs++vs.map .one) h (λr h'=>r=v/\h'=h)) (hk:K ((d,v)::L) h):ar P ⟨some d,.call ⟨.value x,ae.toArray,tys⟩,ty,pos,af,gd⟩ E K L h:=
 ph j t w y (λ_ _ _ _ h=>h) λ_ _ ⟨e1,e2⟩=>by subst e1 e2;exact hk
set_option maxRecDepth 20000 in
theorem MY{h:au}{c0 c1:Nat}{s:Den.Sg}{us:Td Z}{x y b:Z}(H:bC b=[lm,x,y])(I:b.size<4294967281)(R:RdS h c0 c1 s us)(B:s.ai.ak≠[])(hl:s.ai.ak.length<=16)(J:s.ai.aA.length<=1000):
  Fn Tryz.prog 19 [.one (.ptr c0 0 0),.one (.ptr c1 0 0),.one (.lit (.string b))] h (λr h'=>r= .one (.lit (.bool true))/\RdS h' c0 c1 ⟨⟨s.ai.ak,s.ai.aA++[⟨fdN s.ai.ak x,fdN s.ai.ak y⟩]⟩,s.ops⟩ us):=by
 obtain⟨v,es,R,t⟩:=R;have M:h[c0]? =some (some (.row 5 [[v 0,v 1,v 2,nlV,nlV]])):=R.m;have K:(kill h (v 1))[c0]? =some (some (.row 5 [[v 0,v 1,v 2,nlV,nlV]])):=(lz (nX (R.dc 1 A3).1)).trans M;have C:(es 1).length+1<=4294967296:=by rw[t.es,OV];omega
 obtain⟨k,L,hk⟩:∃k,v 0= .own k 0 s.ai.ak.length/\h[k]? =some (some (.row 1 (bP s.ai.ak))):=by
  rcases R.sl 0 A3 with⟨_,e⟩|⟨k,e1,e2⟩
  .rw[t.en]at e;exact absurd (List.map_eq_nil_iff.1 e) B
  .rw[t.en]at e1 e2;exact⟨k,by simpa using e1,e2⟩
 have G:=M;rw[L]at G;have hS:∀(z:Z)(l:au),l[0]? =some (some (.row 1 [[.ptr c0 0 0]]))->Fn Tryz.prog 43 [.one (.lit (.string z)),.one (.ptr (h.length+0) 0 0)] (h++l) (λr h'=>r= .one (.lit (.int .i64 (fdN s.ai.ak z)))/\h'=h++l):=λz l D=>BK (cd rfl D) (ba _ G) (ba _ hk) hl z;refine cW Tryz.func19 rfl rfl (O1 rfl) λE d=>fh ?_
 replace d:E.n=230:=d;have hE:=d
 have hN:h.length=h.length:=rfl;refine Wk ?_;refine aI rfl ?_;refine bL rfl (aD d rfl) (fQ b I hN) ?_;rw[H];refine aI rfl ?_;refine dK rfl (aD d rfl) ?_;refine fD (fU (dJ (br.freezeL hN 7 1 rfl (ir _) rfl QE) (cB (L':=[(0,.one (.ptr c0 0 0)),(1,.one (.ptr c1 0 0)),(3,.one (.ptr (h.length+0) 0 0)),(7,.one (.imm 1 (bP [lm,x,y])))]) (ag rfl (ag rfl (ag rfl (ag (congrArg some (fzS _ [lm,x,y])) (aZ _))))) ?_)));refine Wk ?_;refine aI rfl ?_;refine dD (vs:=[.ptr (h.length+0) 0 0]) rfl rfl (aD d rfl) ?_;refine Ws ?_;refine cJ rfl Dg ?_;refine Ws ?_;refine iz rfl rfl ?_;refine Wk ?_;have w:(kill h (v 1)).length=h.length:=lu _ _;refine dz mixed [6,7,8,9,10,11,12,13,14,15,16,17,1,2,3,4,5,18,0,19,20,21,22] [10,15,17,18,22] [0,1,5] A3 ?_;refine Dp ?_;refine Dp ?_
 (apply kM;rfl;rfl;rfl;focus (intro A;refine bX ax rfl rfl rfl rfl A3 A3 rfl (aD d rfl) ?_;exact⟨rfl,rfl⟩))
 refine Dp ?_
 (apply aS;rfl;rfl;rfl;focus (refine ms rfl rfl (aD d rfl) (hS x _ rfl) ?_;exact⟨rfl,rfl⟩))
 refine Dp ?_;refine Dp ?_
 (apply kM;rfl;rfl;rfl;focus (intro A;refine bX ax rfl rfl rfl rfl A3 A3 rfl (aD d rfl) ?_;exact⟨rfl,rfl⟩))
 refine Dp ?_
 (apply aS;rfl;rfl;rfl;focus (refine ms rfl rfl (aD d rfl) (hS y _ rfl) ?_;exact⟨rfl,rfl⟩))
 refine Dp ?_
 (apply aS;rfl;rfl;rfl;focus (refine dP ax rfl A3 rfl rfl rfl rfl rfl Rl (aD d rfl) ?_;exact⟨rfl,rfl⟩))
 (apply bK;rfl;rfl;rfl;rfl;focus (intro A hm;have hm:=O6 hm;simp only[OI,O9,or_false]at hm;(repeat (rcases hm with rfl|hm;focus ((first|exact aB ax hN rfl rfl rfl rfl rfl (aD d rfl) ⟨rfl,rfl⟩|exact aB ax w rfl rfl rfl rfl rfl (aD d rfl) ⟨rfl,rfl⟩|exact aB ax F rfl rfl rfl rfl rfl (aD d rfl) ⟨rfl,rfl⟩))))))
 refine Dp ?_;refine Dp ?_;refine Dp ?_
 (apply bK;rfl;rfl;rfl;rfl;focus (intro A hm;have hm:=O6 hm;simp only[OI,O9,or_false]at hm;(repeat (rcases hm with rfl|hm;focus (exact eF ax M rfl rfl rfl rfl (aD d rfl) ⟨rfl,rfl⟩)))))
 (apply aS;rfl;rfl;rfl;focus (refine qX ax hN (R.sl 1 A3) rfl rfl rfl A3 rfl rfl rfl rfl (O1 rfl) C rfl (aD d rfl) ?_;exact⟨rfl,rfl⟩))
 (apply bK;rfl;rfl;rfl;rfl;focus (intro A hm;have hm:=O6 hm;simp only[OI,O9,or_false]at hm;(repeat (rcases hm with rfl|hm;focus ((first|exact aB ax hN rfl rfl rfl rfl rfl (aD d rfl) ⟨rfl,rfl⟩|exact aB ax w rfl rfl rfl rfl rfl (aD d rfl) ⟨rfl,rfl⟩|exact aB ax F rfl rfl rfl rfl rfl (aD d rfl) ⟨rfl,rfl⟩))))))
 refine Dp ?_;refine Dp ?_;refine Dp ?_
 (apply aS (v:=.dead);rfl;rfl;rfl;focus (refine j5 ax K rfl rfl rfl rfl rfl rfl (O1 rfl) ?_;exact⟨rfl,rfl⟩))
 refine dQ ?_;refine Wk ?_;refine pT (fy rfl rfl) (.inl ⟨rfl,_,_,R.upd (j:=1) (k:=3) A3 rfl,?_⟩);refine⟨t.en,?_,t.eo,t.eu⟩;show es 1++[[.lit (.int .i64 _),.lit (.int .i64 _)]]=_;rw[t.es];simp[sbE]
end
end Go.Proofs.YtkegnipofloejaaGreatDoor.Abs
namespace Go.Proofs.YtkegnipofloejaaGreatDoor.Den
theorem tg{α:Type}(p:α->Bool):∀(l:Td α)(i k:Nat),0<=kE p l i->kE p l (i+k)=kE p l i+k
 |[],i,k,h=>absurd h (by unfold kE;decide)
 | x::xs,i,k,h=>by
  unfold kE at h ⊢;by_cases d:p x=true
  .rw[mt d,mt d];simp
  .rw[O2 d]at h;rw[O2 d,O2 d,(A0:i+k+1=i+1+k)];exact tg p xs (i+1) k h
theorem L4{nm:Z}{r:Td Z}(h1:nm≠iH)(h2:0<=fdN r iH):fdN (wOp::nm::gl::r) iH=fdN r iH+3:=by
 have d:∀{a b:Z},a≠b->¬sEq a b=true:=λh e=>h (ON e);have j:wOp≠iH:=A3
 have t:gl≠iH:=A3
 unfold fdN;rw[kE,O2 (d j),kE,O2 (d h1),kE,O2 (d t)];exact tg _ r 0 3 h2
end Go.Proofs.YtkegnipofloejaaGreatDoor.Den
namespace Go.Proofs.YtkegnipofloejaaGreatDoor.Abs
open Go.RowKit
open Den (bC gg lm wOp gl iH fdN)
theorem Dh{d:Td Z}(hl:d.length<=16)(x:Z)(h:au):Fn Tryz.prog 44 [.one (.imm 1 (bP d)),.one (.lit (.string x))] h (λr h'=>r= .one (.lit (.int .i64 (fdN d x)))/\h'=h):=by
 have hF:=Den.ia Den.sI (xs:=[.one (.l .s d),.one (.s x)]) (H:=[]) (H':=[]) (v:=.one (.i (fdN d x))) (by
  show (Den.nV d x).bind _=_;rw[show Den.nV d x=_ from mt hl];rfl)
 have:=Den.lP (h:=h) hF rfl Den.nt2 (Den.aP (.one (.fl (Den.fx d))) (Den.aP (.one (.fl .s)) Den.bY)) Rl (.one .i)
 rwa [Den.jg]at this
theorem qk{d:Td Z}(hl:d.length<=16)(x:Z)(h:au):Fn Tryz.prog 45 [.one (.imm 1 (bP d)),.one (.lit (.string x))] h (λr h'=>r= .one (.lit (.bool (decide (0<=fdN d x))))/\h'=h):=by
 have hF:=Den.ia Den.xq (xs:=[.one (.l .s d),.one (.s x)]) (H:=[]) (H':=[]) (v:=.one (.b (decide (0<=fdN d x)))) (by
  show Option.bind (if d.length<=16 then some (decide (0<=fdN d x))else none) _=_;rw[mt hl];rfl)
 have:=Den.lP (h:=h) hF rfl Den.nt2 (Den.aP (.one (.fl (Den.fx d))) (Den.aP (.one (.fl .s)) Den.bY)) Rl (.one .b)
 rwa [Den.oK]at this
theorem IS(tl:Td Z):(Den.tlF tl).2.length<=tl.length:=by
 unfold Den.tlF;split
 .split
  .show (tl.take _).length<=_;rw[Pd];omega
  .exact O3 _
 .exact O3 _
section
variable {es:Td (Td V)}{ops:Td Den.Opr}{o:Den.Opr}{e:Td V}{l:au}{j n s:Nat}
theorem EZ(d:es.length=ops.length/\∀(j:Nat)(h1:j<ops.length)(h2:j<es.length),OpE ops[j] es[j])(t:OpE o e):
  (es++[e]).length=(ops++[o]).length/\∀(j:Nat)(h1:j<(ops++[o]).length)(h2:j<(es++[e]).length),OpE (ops++[o])[j] (es++[e])[j]:=
 ⟨by simp [d.1],fun j h1 h2=>by
   by_cases h:j<ops.length
   · rw[P0 h,P0 (by rw[d.1];exact h)]
     exact d.2 j h _
   · have v:j<ops.length+1:=by simpa using h1
     have w:j=ops.length:=A0
     subst w;have e1:(ops++[o])[ops.length]=o:=A1
     have e2:(es++[e])[ops.length]'h2=e:=by
       rw[P1 A0];simp
     rw[e1,e2];exact t⟩
theorem Gc{d:Den.Opr}{e2:Td V}(F:Td V->Td V)(h:es.length=ops.length/\∀(j:Nat)(h1:j<ops.length)(h2:j<es.length),OpE ops[j] es[j])(hF:∀o e,OpE o e->F e=e)(t:es.length≠0)(v:OpE d (F e2)):
  ((es.set (es.length-1) e2).map F).length=(ops.dropLast++[d]).length/\∀(j:Nat)(h1:j<(ops.dropLast++[d]).length)(h2:j<((es.set (es.length-1) e2).map F).length),OpE (ops.dropLast++[d])[j] ((es.set (es.length-1) e2).map F)[j]:=by
 have hl:=h.1;refine⟨A4,λj h1 h2=> ?_⟩;have w:j<es.length:=Hm
 rw[P5,List.getElem_set];by_cases e:es.length-1=j
 .rw[mt e];have:(ops.dropLast++[d])[j]=d:=by
   rw[P1 A4];simp
  rw[this];exact v
 .rw[O2 e]
  have:(ops.dropLast++[d])[j]=ops[j]'(A0):=by
   rw[P0 A4,List.getElem_dropLast]
  rw[this];have:=h.2 j A0 w;rw[hF _ _ this];exact this
theorem RdH.seto{h H:au}{c0 c1:Nat}{v:Nat->V}{es:Nat->Td (Td V)}{e2:Td (Td V)}(R:RdH h c0 c1 v es)(t:v 2= .own j 0 (es 2).length)(bF:e2.length=(es 2).length)(d:∀c,c<h.length->c≠j->H[c]? =h[c]?)(w:H[j]? =some (some (.row 5 e2))):RdH H c0 c1 v (Abs.upd es 2 e2):=by
 have hk:j∈idK (v 2):=by rw[t];simp[idK]
 have l0:=(gI.1 R.m).1;have l1:=(gI.1 R.u).1;refine⟨(d c0 l0 λe=>(R.dc 2 A3).1 (e▸hk)).trans R.m,(d c1 l1 λe=>(R.dc 2 A3).2 (e▸hk)).trans R.u,λi hi=> ?_,R.dj,R.dc,R.d01⟩;by_cases e:i=2
 .subst e;exact .inr ⟨j,by rw[t,<-bF];rfl,w⟩
 .rw[show Abs.upd es 2 e2 i=es i from O2 e];refine(R.sl i hi).mono λk o l A=> ?_;have y:k∈idK (v i):=by rw[A];simp[idK]
  exact d k (R.lt hi y) λe2=>R.dj i 2 k hi A3 e y (e2▸hk)
theorem OpE.fz(h:OpE o e)(id k:Nat)(es:Td (Td V)):e.map (V.fz id k es)=e/\e.all (V.fits id es.length)=true:=by
 obtain⟨d,rfl,h|⟨_,h⟩⟩:=h<;>subst h<;>exact⟨rfl,rfl⟩
def LSlot(n:Nat)(l:au)(v:V)(s:Nat)(es:Td (Td V)):Prop:=(v=nlV/\es=[])\/∃k,v= .own (n+k) 0 es.length/\l[k]? =some (some (.row s es))/\2<k
def rD(n:Nat)(l:au):V->au
 | .own k _ _=>l.set (k-n) none
 |_=>l
theorem Er(n:Nat)(l:au)(v:V):(rD n l v).length=l.length:=by
 cases v<;>simp[rD]
theorem LSlot.get{v:V}(S:LSlot n l v s es)(d:j<=2):(rD n l v)[j]? =l[j]? :=by
 rcases S with⟨rfl,_⟩|⟨k,rfl,_,hk⟩
 .rfl
 .exact sN A0
theorem LSlot.app{v:V}(S:LSlot n l v s es)(g:au):LSlot n (l++g) v s es:=by
 rcases S with h|⟨k,h1,h2,d⟩
 .exact .inl h
 .exact .inr ⟨k,h1,ba k h2,d⟩
end
section
variable {P : Program} {E : Cx} {K : Env → au → Prop} {L : Env} {h0 l : au} {d n : Nat} {ty : TypeId} {pos : String} {af : Array Edge} {gd : Y (Nat × Bool)} {tb : Tbl}
theorem F8(w:cm P tb)(A:h0.length=n){t tx:TypeId}{x y:Operand}{s:Nat}{es ns:Td (Td V)}{v F:V}{j D:ElI}(S:LSlot n l v s es)(G:ev L x=some (.one v))(he:du tb t=some j)(hex:du tb tx=some D)(B:j.zero≠[])(H:j.zero.length=j.size)(hs:j.size=s)
  (I:ev L y=some (.one F)) (J:eA (h0++l) s F=some ns) (hm0:0<ns.length) (h:es.length+ns.length<=4294967296) (C:Nat.ble j.bytes 4096=true) (M:d<E.n)
  (hk:K ((d,.one (.own (n+l.length) 0 (es++ns).length))::L) (h0++(rD n l v++[some (.row s (es++ns))]))):ar P ⟨some d,.call ⟨.builtin .append,#[x,y],#[t,tx]⟩,ty,pos,af,gd⟩ E K L (h0++l):=by
 rcases S with⟨rfl,rfl⟩|⟨k,rfl,ho,_⟩
 .exact kw w A G he hex B H hs I J hm0 Ro C M hk
 .refine qh w A G he hex B H hs ho (Pp _) I J h C M ?_;rw[<-OJ];rw[show rD n l (.own (n+k) 0 es.length)=l.set k none from by show l.set (n+k-n) none=_;rw[PY]]at hk;exact hk
end
structure AS(n c0:Nat)(l:au)(av:V)(res:Int)(es:List (List V)):Prop where
 box:l[0]?=some (some (.row 1 [[.ptr c0 0 0]]))
 d:l[2]?=some (some (.row 2 [[av,.lit (.int .i64 res)]]))
 sl:LSlot n l av 1 es
section
variable {n c0:Nat}{l:au}{res:Int}{L:Env}
theorem AS.step{d:V}{es ns:Td (Td V)}(A:AS n c0 l d res es):AS n c0 ((rD n (l++[none]) d++[some (Ob.row 1 (es++ns))]).set 2 (some (Ob.row 2 [[.own (n+(l++[none]).length) 0 (es++ns).length,.lit (.int .i64 res)]]))) (.own (n+(l++[none]).length) 0 (es++ns).length) res (es++ns):=by
 have l2:=(gI.1 A.d).1;have hk:=Er n (l++[none]) d;have S:=A.sl.app [none];refine⟨?_,sS (by simp[hk];omega),.inr ⟨(l++[none]).length,rfl,?_,A4⟩⟩
 .rw[sN A3,aL (by simp[hk]),S.get A3];exact ba 0 A.box
 .rw[sN A4,<-hk];exact List.getElem?_concat_length
abbrev tR(xs:Td Int):Td (Td V):=xs.map λx=>[.lit (.int .i64 x)]
theorem br.drop{h h':au}(hl:h'.length=h.length)(hs:∀(id:Nat)(o:Ob),h'[id]? =some (some o)->h[id]? =some (some o)):br L h L h':=
 ⟨fun _ _ I _ _ r=>⟨I,{r with
  heap:=⟨hl.trans r.heap.len,λid o inf p q=>r.heap.obj id o inf (hs id o p) q,λid o inf p q=>r.heap.off id o inf (hs id o p) q,λid id' o o' inf inf' p d q j e=>r.heap.inj id id' o o' inf inf' (hs id o p) (hs id' o' d) q j e,r.heap.sub⟩
  cA:=λid o inf p q=>r.cA id o inf (hs id o p) q}⟩⟩
theorem HL(xs:Td Int):(tR xs).all (·.all V.flat)=true:=by
 rw[List.all_map,aT];exact λ_ _=>rfl
theorem AS.fin{h0:au}{d:V}{xs:Td Int}(hN:h0.length=n)(A:AS n c0 l d res (tR xs)):∃g,br L (h0++l) L (h0++([some (.row 1 [[.ptr c0 0 0]]),none,some (.row 2 [[.imm 1 (tR xs),.lit (.int .i64 res)]])]++g)):=by
 have l2:=(gI.1 A.d).1;obtain⟨l1,S,y,e1,e2⟩:∃l1:au,br L (h0++l) L (h0++l1)/\l1.length=l.length/\l1[0]? =some (some (.row 1 [[.ptr c0 0 0]]))/\l1[2]? =some (some (.row 2 [[.imm 1 (tR xs),.lit (.int .i64 res)]])):=by
  rcases A.sl with⟨rfl,e⟩|⟨k,rfl,hk,h2⟩
  .have t:xs=[]:=List.map_eq_nil_iff.1 e;subst t;have S:=Den.br.imp (L:=L) (cd hN A.d) (es':=[[.imm 1 [],.lit (.int .i64 res)]]) (.cons ⟨rfl,λj h1 h2=>by
    match j,h1 with
    |0,_=>exact λI w ι u v=>by cases v;exact .eE A0
    |1,_=>exact Den.Imp.refl _⟩ .nil) A1
   rw[fS hN]at S;exact⟨_,S,A1,(sN A3).trans A.box,sS l2⟩
  .have S:=br.freezeCellL (L:=L) hN k 2 hk A.d A0 (HL xs) (by simp[V.fits]);refine⟨_,S,A1,((sN A3).trans (sN A0)).trans A.box,?_⟩;rw[sS (by simpa using l2)];simp[V.fz];exact Pv A1
 refine⟨List.replicate (l.length-3) none,S.trans (br.drop A4 λid o h=> ?_)⟩;by_cases hi:id<h0.length
 .rw[aL hi]at h ⊢;exact h
 .rw[aR A0]at h ⊢;generalize id-h0.length=j at h ⊢
  match j,h with
  |0,h=>exact e1.trans h
  |1,h=>cases h
  |2,h=>exact e2.trans h
  | j+3,h=>
   rw[aR A1,List.getElem?_replicate]at h;split at h<;>cases h
def lV(s:Den.Sg)(nm:Z)(r:Td Z)(a:Nat):Bool:=match s.ops.getLast? with
 |some o=>decide (o.ah=nm)&&decide (r.length=a+2)
 |none=>false
end
set_option maxRecDepth 20000 in
set_option maxHeartbeats 2000000 in
theorem Gk{h:au}{c0 c1:Nat}{s:Den.Sg}{us r:Td Z}{nm z b:Z}{a:Nat}(hw:bC b=wOp::nm::gl::r)(hb:b.size<4294967281)(R:RdS h c0 c1 s us)(hne:s.ai.ak≠[])(hl:s.ai.ak.length<=16)(hl2:s.ops.length<=16)(hl3:us.length<=1000)(hr:r.length<=13)
  (hnm:nm≠iH) (hA:fdN r iH=(a:Int)) (hz:r[a+1]? =some z) (hM:lV s nm r a=true->∃o Q,s.ops.getLast? =some o/\o.aJ=[Q]):
  Fn Tryz.prog 19 [.one (.ptr c0 0 0),.one (.ptr c1 0 0),.one (.lit (.string b))] h (λr' h'=>r'= .one (.lit (.bool true))/\(lV s nm r a=true->∀o Q,s.ops.getLast? =some o->o.aJ=[Q]->RdS h' c0 c1 ⟨s.ai,s.ops.dropLast++[⟨o.ah,[Q,⟨(r.take a).map (fdN s.ai.ak),fdN s.ai.ak z⟩],o.aE,o.comm,o.aO⟩]⟩ us)/\
   (lV s nm r a=false->RdS h' c0 c1 ⟨s.ai,s.ops++[⟨nm,[⟨(r.take a).map (fdN s.ai.ak),fdN s.ai.ak z⟩],decide (0<=fdN (Den.tlF (r.drop (a+2))).2 Den.JO),decide (0<=fdN (Den.tlF (r.drop (a+2))).2 Den.Jp),0⟩]⟩ (us++[(Den.tlF (r.drop (a+2))).1]))):=by
 obtain⟨v,es,R,F⟩:=R;have M:h[c0]? =some (some (.row 5 [[v 0,v 1,v 2,nlV,nlV]])):=R.m;obtain⟨k,ek,hk⟩:∃k,v 0= .own k 0 s.ai.ak.length/\h[k]? =some (some (.row 1 (bP s.ai.ak))):=by
  rcases R.sl 0 A3 with⟨_,e⟩|⟨k,e1,e2⟩
  .rw[F.en]at e;exact absurd (List.map_eq_nil_iff.1 e) hne
  .rw[F.en]at e1 e2;exact⟨k,by simpa using e1,e2⟩
 have M':=M;rw[ek]at M';have hS:∀(z:Z)(l:au),l[0]? =some (some (.row 1 [[.ptr c0 0 0]]))->Fn Tryz.prog 43 [.one (.lit (.string z)),.one (.ptr (h.length+0) 0 0)] (h++l) (λr h'=>r= .one (.lit (.int .i64 (fdN s.ai.ak z)))/\h'=h++l):=λz l hl0=>BK (cd rfl hl0) (ba _ M') (ba _ hk) hl z;have ha:=(gI.1 hz).1;have e3:fdN (wOp::nm::gl::r) iH=((a+3:Nat):Int):=by rw[Den.L4 hnm A0,hA];rfl
 have len:(bP (wOp::nm::gl::r)).length=r.length+3:=by simp[bP]
 have g1:bg .eql ((List.length (α:=Z) (wOp::nm::gl::r):Nat):Int) 2=false:=QF
 have g2:bg .eql ((List.length (α:=Z) (wOp::nm::gl::r):Nat):Int) 3=false:=QF
 have g3:bg .lss ((List.length (α:=Z) (wOp::nm::gl::r):Nat):Int) 5=false:=QF
 have g4:bg .lss ((a+3:Nat):Int) 3=false:=Rs
 have g5:bg .geq (((a+3:Nat):Int)+1) ((List.length (α:=Z) (wOp::nm::gl::r):Nat):Int)=false:=QF
 refine cW Tryz.func19 rfl rfl (O1 rfl) λE t=>fh ?_
 replace t:E.n=230:=t;have hE:=t
 have hN:h.length=h.length:=rfl;refine Wk ?_;refine aI rfl ?_;refine bL rfl (aD t rfl) (fQ b hb hN) ?_;rw[hw];refine aI rfl ?_;refine dK rfl (aD t rfl) ?_;refine fD (fU (dJ (br.freezeL hN 7 1 rfl (ir _) rfl QE) (cB (L':=[(0,.one (.ptr c0 0 0)),(1,.one (.ptr c1 0 0)),(3,.one (.ptr (h.length+0) 0 0)),(7,.one (.imm 1 (bP (wOp::nm::gl::r))))]) (ag rfl (ag rfl (ag rfl (ag (congrArg some (fzS _ (wOp::nm::gl::r))) (aZ _))))) ?_)));refine Wk ?_;refine aI rfl ?_;refine dD (vs:=[.ptr (h.length+0) 0 0]) rfl rfl (aD t rfl) ?_;refine Ws ?_;refine cJ rfl Dg ?_;refine Ws ?_;refine cJ rfl Dg ?_;refine Ws ?_;refine cJ rfl Dg ?_;refine Ws ?_;refine aI rfl ?_;refine bL rfl (aD t rfl) (Dh A4 _ _) ?_;rw[e3];refine Ws ?_;refine cJ rfl Dg ?_;refine Ws ?_;refine aI rfl ?_
 refine bX ax rfl rfl rfl rfl A3 A0 (e:=[.lit (.string z)]) (by
  rw[(A0:(((a+3:Nat):Int)+1).toNat=(a+1)+1+1+1)];show (bP r)[a+1]? =_;rw[P8,hz];rfl) (aD t rfl) ?_
 refine Ws ?_;refine aI rfl ?_;refine ms rfl rfl (aD t rfl) (hS z _ rfl) ?_;refine Ws ?_;refine aI rfl ?_;refine iv (lo:=3) (hi:=a+3) ax rfl rfl rfl A3 (.inr ⟨_,rfl,rfl⟩) (.inr ⟨_,rfl,rfl⟩) A0 A0 (aD t rfl) ?_;rw[show ((bP (wOp::nm::gl::r)).take (a+3)).drop 3=bP (r.take a)from (List.map_take (f:=λx:Z=>[V.lit (.string x)]) (l:=r) (i:=a)).symm];refine Ws ?_;have lta:(r.take a).length=a:=by rw[Pd];omega
 refine oh (λq L h'=>∃(j:Nat)(l:au)(av:V),q=a-j/\j<=a/\AS h.length c0 l av (fdN s.ai.ak z) (tR ((r.take j).map (fdN s.ai.ak)))/\L=[(0,.one (.ptr c0 0 0)),(1,.one (.ptr c1 0 0)),(3,.one (.ptr (h.length+0) 0 0)),(7,.one (.imm 1 (bP (wOp::nm::gl::r)))),(8,.one (.clo (.func 43) [.ptr (h.length+0) 0 0])),(9,.one (.lit (.int .i64 ((a+3:Nat):Int)))),(10,.one (.ptr (h.length+2) 0 0)),(114,.one (.imm 1 (bP (r.take a)))),(115,.one (.lit (.int .i64 ((List.length (α:=Z) (r.take a):Nat):Int)))),(116,.one (.lit (.int .i64 (j:Int))))]/\h'=h++l) (n:=a-0)
  (L0:=[(0,.one (.ptr c0 0 0)),(1,.one (.ptr c1 0 0)),(3,.one (.ptr (h.length+0) 0 0)),(7,.one (.imm 1 (bP (wOp::nm::gl::r)))),(8,.one (.clo (.func 43) [.ptr (h.length+0) 0 0])),(9,.one (.lit (.int .i64 ((a+3:Nat):Int)))),(10,.one (.ptr (h.length+2) 0 0)),(114,.one (.imm 1 (bP (r.take a)))),(115,.one (.lit (.int .i64 ((List.length (α:=Z) (r.take a):Nat):Int)))),(116,.one (.lit (.int .i64 ((0:Nat):Int))))]) ?_ ?_ ?_
 .exact ag rfl (ag rfl (ag rfl (ag rfl (ag rfl (ag rfl (ag rfl (ag rfl (ag rfl (ag rfl (aZ _))))))))))
 .exact⟨0,_,nlV,rfl,A0,⟨rfl,rfl,.inl ⟨rfl,rfl⟩⟩,rfl,rfl⟩
 .rintro q L h' ⟨j,l,av,rfl,hj,A,rfl,rfl⟩;refine Ws ?_
  (refine dX rfl (λhp=> ?_) (λhp=> ?_))
  .have hlt:j<a:=by
    have:=ON hp;rw[lta]at this;omega
   obtain⟨y,hy⟩:∃y,r[j]?=some y:=⟨_,O0 A0⟩;have T:(tR ((r.take j).map (fdN s.ai.ak))).length+1<=4294967296:=A4
   have S:=A.sl.app [none];have hd:(rD h.length (l++[none]) av++[some (Ob.row 1 (tR ((r.take j).map (fdN s.ai.ak))++[[.lit (.int .i64 (fdN s.ai.ak y))]]))])[2]? =some (some (.row 2 [[av,.lit (.int .i64 (fdN s.ai.ak z))]])):=ba 2 ((S.get A3).trans (ba 2 A.d));refine Ws ?_;refine aI rfl ?_
   refine bX ax rfl rfl rfl rfl A3 A0 (e:=[.lit (.string y)]) (by
    rw[P8,P7,Q8 hlt,hy];rfl) (aD t rfl) ?_
   refine Ws ?_;refine dz mixed [2,3,4,5,0,1,6,7,8] [4,5,6,8] [1] A3 ?_;refine Dp ?_;refine Dp ?_
   (apply aS;rfl;rfl;rfl;focus (refine ms rfl rfl (aD t rfl) (hS y _ A.box) ?_;exact⟨rfl,rfl⟩))
   (apply aS;rfl;rfl;rfl;focus (refine dP ax rfl A3 rfl rfl rfl rfl rfl Rl (aD t rfl) ?_;exact⟨rfl,rfl⟩))
   refine Dp ?_
   (apply bK;rfl;rfl;rfl;rfl;focus (intro I hm;have hm:=O6 hm;simp only[OI,O9,or_false]at hm;(repeat (rcases hm with rfl|hm;focus (first|exact aB ax hN rfl rfl A.d rfl rfl (aD t rfl) ⟨rfl,rfl⟩|exact aB ax hN rfl rfl (ba 2 A.d) rfl rfl (aD t rfl) ⟨rfl,rfl⟩)))))
   (apply aS;rfl;rfl;rfl;focus (refine F8 ax hN S rfl rfl rfl A3 rfl rfl rfl rfl (O1 rfl) T rfl (aD t rfl) ?_;exact⟨rfl,rfl⟩))
   refine Dp ?_
   (apply aS (v:=.dead);rfl;rfl;rfl;focus (refine bH ax hN rfl rfl rfl rfl rfl hd rfl (O1 rfl) ?_;exact⟨rfl,rfl⟩))
   refine dQ ?_;refine Wk ?_;have e:tR ((r.take j).map (fdN s.ai.ak))++[[.lit (.int .i64 (fdN s.ai.ak y))]]=tR ((r.take (j+1)).map (fdN s.ai.ak)):=by
    rw[List.take_add_one,hy];simp[tR]
   have A2:=A.step (ns:=[[.lit (.int .i64 (fdN s.ai.ak y))]]);rw[e]at A2;refine⟨a-(j+1),[(0,.one (.ptr c0 0 0)),(1,.one (.ptr c1 0 0)),(3,.one (.ptr (h.length+0) 0 0)),(7,.one (.imm 1 (bP (wOp::nm::gl::r)))),(8,.one (.clo (.func 43) [.ptr (h.length+0) 0 0])),(9,.one (.lit (.int .i64 ((a+3:Nat):Int)))),(10,.one (.ptr (h.length+2) 0 0)),(114,.one (.imm 1 (bP (r.take a)))),(115,.one (.lit (.int .i64 ((List.length (α:=Z) (r.take a):Nat):Int)))),(116,.one (.lit (.int .i64 ((j+1:Nat):Int))))],A0,ag rfl (ag rfl (ag rfl (ag rfl (ag rfl (ag rfl (ag rfl (ag rfl (ag rfl (ag rfl (aZ _)))))))))),j+1,_,_,rfl,A0,A2,rfl,?_⟩;rw[<-e];rfl
  .have hja:j=a:=by
    have:¬((j:Int)<(List.length (α:=Z) (r.take a):Int)):=of_decide_eq_false hp;rw[lta]at this;omega
   subst hja;obtain⟨g,S⟩:=A.fin (L:=[(0,.one (.ptr c0 0 0)),(1,.one (.ptr c1 0 0)),(3,.one (.ptr (h.length+0) 0 0)),(7,.one (.imm 1 (bP (wOp::nm::gl::r)))),(9,.one (.lit (.int .i64 ((j+3:Nat):Int)))),(10,.one (.ptr (h.length+2) 0 0))]) hN;refine cB ?_ (dJ S ?_)
   .exact ag rfl (ag rfl (ag rfl (ag rfl (ag rfl (ag rfl (aZ _))))))
   clear S A hS hk M' ek k lta g1 g2 g3 g4 g5 hl;have hc:=M;have bF:lenV (v 2)=some (es 2).length:=by
    rcases R.sl 2 A3 with⟨e,eo⟩|⟨C,e,_⟩
    .rw[e,eo];rfl
    .rw[e];rfl
   have hm16:(es 2).length<=16:=by rw[F.eo.1];exact hl2
   refine Ws ?_;refine aI rfl ?_;refine wy ax rfl bF rfl (aD t rfl) ?_;refine Ws ?_;refine jC (λL' h'=>L'=[(0,.one (.ptr c0 0 0)),(1,.one (.ptr c1 0 0)),(3,.one (.ptr (h.length+0) 0 0)),(7,.one (.imm 1 (bP (wOp::nm::gl::r)))),(9,.one (.lit (.int .i64 ((j+3:Nat):Int)))),(10,.one (.ptr (h.length+2) 0 0)),(13,.one (.lit (.int .i64 (((es 2).length:Int)-1)))),(157,.one (.lit (.bool (lV s nm r j))))]/\h'=h++([some (.row 1 [[.ptr c0 0 0]]),none,some (.row 2 [dcV ⟨(r.take j).map (fdN s.ai.ak),fdN s.ai.ak z⟩])]++g)) ?_ ?_
   .by_cases hm:(es 2).length=0
    .have hq:bg .geq (((es 2).length:Int)-1) 0=false:=Rs
     have J:lV s nm r j=false:=by
      have:s.ops=[]:=nZ (by rw[<-F.eo.1];exact hm);unfold lV;rw[this];rfl
     rw[J];refine sF mixed [0,1,2,3,4,5,6,7,8,9,10,11,12,13,14,15,16,17,18,19,20,21,22] A3 ?_;exact Sc
    .have hq:bg .geq (((es 2).length:Int)-1) 0=true:=by unfold bg;exact dT A0
     obtain⟨C,W,G⟩:∃C,v 2= .own C 0 (es 2).length/\h[C]? =some (some (.row 5 (es 2))):=by
      rcases R.sl 2 A3 with⟨_,e⟩|h1
      .rw[e]at hm;exact absurd rfl hm
      .exact h1
     have H:=F.eo.1;obtain⟨o,ho⟩:∃o,s.ops[(es 2).length-1]? =some o:=⟨_,O0 A0⟩;obtain⟨dv,he⟩:∃dv,(es 2)[0+(((es 2).length:Int)-1).toNat]? =some (opV o dv):=by
      have h1:(es 2).length-1<(es 2).length:=A0
      have h2:(es 2).length-1<s.ops.length:=A0
      obtain⟨dv,e,_⟩:=F.eo.2 ((es 2).length-1) h2 h1;rw[O0 h2]at ho;cases ho;refine⟨dv,?_⟩;rw[(A0:0+(((es 2).length:Int)-1).toNat=(es 2).length-1),O0 h1,e]
     have B:s.ops.getLast? =some o:=by rw[Qx,<-H];exact ho
     rw[W]at hc;refine sF mixed [0,1,2,3,4,5,6,7,8,9,10,11,12,13,14,15,16,17,18,19,20,21,22] A3 ?_;refine Dq ?_
     (apply oQ;rfl;rfl;rfl;rfl;rfl;assumption;focus (refine iu ax rfl rfl rfl (ba C G) rfl A3 A0 A0 (aD t rfl) ?_;exact⟨rfl,rfl⟩))
     refine Dq ?_
     (apply oQ;rfl;rfl;rfl;rfl;rfl;assumption;focus (refine eF ax G rfl rfl he rfl (aD t rfl) ?_;exact⟨rfl,rfl⟩))
     refine Dq ?_
     (apply oQ;rfl;rfl;rfl;rfl;rfl;assumption;focus (refine bX ax rfl rfl rfl rfl A3 A3 rfl (aD t rfl) ?_;exact⟨rfl,rfl⟩))
     refine Dq ?_
     (apply oQ;rfl;rfl;rfl;rfl;rfl;assumption;focus (refine eZ rfl rfl rfl (aD t rfl) ?_;exact⟨rfl,rfl⟩))
     by_cases D:o.ah=nm
     .have hs1:vD .eql o.ah nm=true:=by unfold vD;simp[D]
      refine Dq ?_;have J:lV s nm r j=bg .eql (((j+3:Nat):Int)+2) ((List.length (α:=Z) (wOp::nm::gl::r):Nat):Int):=by
       unfold lV bg;rw[B];simp only[D,decide_true,O7,OP];exact decide_eq_decide.2 A0
      rw[J];exact Sh
     .have hs1:=(og D).1;have J:lV s nm r j=false:=by
       unfold lV;rw[B];simp[D]
      rw[J];exact Sc
   .rintro L' h' ⟨rfl,rfl⟩;obtain⟨d,hd⟩:∃d:Den.Dc,d=⟨(r.take j).map (fdN s.ai.ak),fdN s.ai.ak z⟩:=⟨_,rfl⟩;rw[<-hd];cases J:lV s nm r j with
    | true=>
     obtain⟨o,Q,B,U⟩:=hM J;have H:=F.eo.1;have hm:(es 2).length≠0:=λh0=>by
      have:s.ops=[]:=nZ (by rw[<-H];exact h0);rw[this]at B;cases B
     obtain⟨C,W,G⟩:∃C,v 2= .own C 0 (es 2).length/\h[C]? =some (some (.row 5 (es 2))):=by
      rcases R.sl 2 A3 with⟨_,e⟩|h1
      .rw[e]at hm;exact absurd rfl hm
      .exact h1
     have ho:s.ops[(es 2).length-1]? =some o:=by rw[<-B,Qx,H]
     have he:(es 2)[0+(((es 2).length:Int)-1).toNat]? =some (opV o (.di 2 [dcV Q])):=by
      have h1:(es 2).length-1<(es 2).length:=A0
      have h2:(es 2).length-1<s.ops.length:=A0
      obtain⟨dv,e,hdv⟩:=F.eo.2 ((es 2).length-1) h2 h1;rw[O0 h2]at ho;cases ho;rw[(A0:0+(((es 2).length:Int)-1).toNat=(es 2).length-1),O0 h1,e];rcases hdv with rfl|⟨hne,_⟩
      .rw[U];rfl
      .exact absurd (by rw[U];rfl) hne
     rw[W]at hc;refine iz rfl rfl ?_;refine Wk ?_;refine dz mixed [9,4,13,14,5,6,7,8,10,11,12,15,0,1,2,3,16,17,18] [14,15,18] [13,5,8,10,12,0,3,16] A3 ?_;refine Dp ?_;refine Dp ?_
     (apply bK;rfl;rfl;rfl;rfl;focus (intro I hm;have hm:=O6 hm;simp only[OI,O9,or_false]at hm;(repeat (rcases hm with rfl|hm;focus ((first|exact aB ax hN rfl rfl rfl rfl rfl (aD t rfl) ⟨rfl,rfl⟩|exact aB ax K rfl rfl rfl rfl rfl (aD t rfl) ⟨rfl,rfl⟩|exact aB ax X rfl rfl rfl rfl rfl (aD t rfl) ⟨rfl,rfl⟩))))))
     (apply aS;rfl;rfl;rfl;focus (refine dP ax rfl A3 rfl rfl rfl rfl rfl Rl (aD t rfl) ?_;exact⟨rfl,rfl⟩))
     (apply bK;rfl;rfl;rfl;rfl;focus (intro I hm;have hm:=O6 hm;simp only[OI,O9,or_false]at hm;(repeat (rcases hm with rfl|hm;focus ((first|exact aB ax hN rfl rfl rfl rfl rfl (aD t rfl) ⟨rfl,rfl⟩|exact aB ax K rfl rfl rfl rfl rfl (aD t rfl) ⟨rfl,rfl⟩|exact aB ax X rfl rfl rfl rfl rfl (aD t rfl) ⟨rfl,rfl⟩))))))
     refine Dp ?_;refine Dp ?_
     (apply bK;rfl;rfl;rfl;rfl;focus (intro I hm;have hm:=O6 hm;simp only[OI,O9,or_false]at hm;(repeat (rcases hm with rfl|hm;focus (exact eF ax hc rfl rfl rfl rfl (aD t rfl) ⟨rfl,rfl⟩)))))
     (apply bK;rfl;rfl;rfl;rfl;focus (intro I hm;have hm:=O6 hm;simp only[OI,O9,or_false]at hm;(repeat (rcases hm with rfl|hm;focus (exact iu ax rfl rfl rfl (ba C G) rfl A3 A0 A0 (aD t rfl) ⟨rfl,rfl⟩)))))
     refine Dp ?_
     (apply bK;rfl;rfl;rfl;rfl;focus (intro I hm;have hm:=O6 hm;simp only[OI,O9,or_false]at hm;(repeat (rcases hm with rfl|hm;focus (exact eF ax G rfl rfl he rfl (aD t rfl) ⟨rfl,rfl⟩)))))
     (apply aS;rfl;rfl;rfl;focus (refine qG ax hN rfl rfl A3 rfl rfl (fP ax rfl rfl rfl) (O1 rfl) (O1 rfl) rfl (aD t rfl) ?_;exact⟨rfl,rfl⟩))
     (apply bK;rfl;rfl;rfl;rfl;focus (intro I hm;have hm:=O6 hm;simp only[OI,O9,or_false]at hm;(repeat (rcases hm with rfl|hm;focus ((first|exact aB ax hN rfl rfl rfl rfl rfl (aD t rfl) ⟨rfl,rfl⟩|exact aB ax K rfl rfl rfl rfl rfl (aD t rfl) ⟨rfl,rfl⟩|exact aB ax X rfl rfl rfl rfl rfl (aD t rfl) ⟨rfl,rfl⟩))))))
     refine Dp ?_;refine Dp ?_
     (apply bK;rfl;rfl;rfl;rfl;focus (intro I hm;have hm:=O6 hm;simp only[OI,O9,or_false]at hm;(repeat (rcases hm with rfl|hm;focus (exact eF ax hc rfl rfl rfl rfl (aD t rfl) ⟨rfl,rfl⟩)))))
     (apply bK;rfl;rfl;rfl;rfl;focus (intro I hm;have hm:=O6 hm;simp only[OI,O9,or_false]at hm;(repeat (rcases hm with rfl|hm;focus (exact iu ax rfl rfl rfl (ba C G) rfl A3 A0 A0 (aD t rfl) ⟨rfl,rfl⟩)))))
     refine Dp ?_
     (apply aS (v:=.dead);rfl;rfl;rfl;focus (refine j5 ax G rfl rfl rfl rfl rfl he (O1 rfl) ?_;exact⟨rfl,rfl⟩))
     refine dQ ?_;refine Wk ?_;obtain⟨i,hi⟩:∃i,i=0+(((es 2).length:Int)-1).toNat:=⟨_,rfl⟩;rw[<-hi]at he ⊢;have hi2:i=(es 2).length-1:=A0
     have lko:=(gI.1 G).1;obtain⟨lx,hlx⟩:∃lx:au,lx=[some (.row 1 [[.ptr c0 0 0]]),none,some (.row 2 [dcV d])]++g++[none]:=⟨_,rfl⟩
     have S:=λL:Env=>br.jl (L:=L) (h:=h.set C (some (.row 5 ((es 2).set i (opV o (.own (h.length+lx.length) 0 2)))))++(lx++[some (.row 2 [dcV Q,dcV d])])) (h.length+lx.length) C (cd A1 List.getElem?_concat_length) (ba C (sS lko)) A0 Rl (by
      refine aT.2 λx hx=> ?_;rcases PH hx with hx|rfl
      .obtain⟨k,hk1,rfl⟩:=Pw hx;exact((F.eo.2 k (by rw[<-H];exact hk1) hk1).fz _ 2 [dcV Q,dcV d]).2
      .simp[V.fits])
     have new:∀(x:au)(y:Y Ob),((h++x).set C y)[C]? =some y:=λx y=>sS A4;have old:∀(x y:Y Ob)(c:Nat)(l3:au),c<h.length->c≠C->(((h.set C x++l3).set (h.length+lx.length) none).set C y)[c]? =h[c]? :=λx y c l3 h1 h2=>by
      rw[sN (Qc h2),sN A0,aL Hd,sN (Qc h2)]
     subst hlx;refine retF (S _) (fy rfl rfl) (.inl ⟨rfl,λ_ o' d1' hl' hd'=> ?_,λh=>absurd h A3⟩);rw[B]at hl';cases hl';rw[U]at hd';cases hd';refine⟨_,_,R.seto W A1 (λc h1 h2=>old _ _ c _ h1 h2) (sS A4),F.en,F.es,?_,F.eu⟩;rw[hi2];refine Gc (List.map (V.fz _ 2 [dcV Q,dcV d])) F.eo (λo e h=>(h.fz _ 2 [dcV Q,dcV d]).1) hm ?_;refine⟨.imm 2 [dcV Q,dcV d],?_,.inr ⟨A1,by rw[hd];rfl⟩⟩;simp[V.fz]
    | false=>
     refine cJ rfl rfl ?_;refine Wk ?_;refine jC (λL' h'=>∃(p:Nat)(l:au),L'=[(0,.one (.ptr c0 0 0)),(1,.one (.ptr c1 0 0)),(3,.one (.ptr (h.length+0) 0 0)),(7,.one (.imm 1 (bP (wOp::nm::gl::r)))),(9,.one (.lit (.int .i64 ((j+3:Nat):Int)))),(14,.one (.ptr (h.length+p) 0 0))]/\h'=h++l/\l[0]? =some (some (.row 1 [[.ptr c0 0 0]]))/\l[p]? =some (some (.row 5 [opV ⟨nm,[d],false,false,0⟩ (.di 2 [dcV d])]))/\p≠0) ?_ ?_
     .refine uK mixed [4,6,7] [([0,1,2,3,4,5,6,7],[4,6,7],[3]),([0,1,2,6,3,4,5,7],[6,4,7],[3])] A3 ⟨?_,?_,trivial⟩
      .refine Dp ?_
       (apply kM;rfl;rfl;rfl;focus (intro I;refine bX ax rfl rfl rfl rfl A3 A3 rfl (aD t rfl) ?_;exact⟨rfl,rfl⟩))
       refine Dp ?_
       (apply bK;rfl;rfl;rfl;rfl;focus (intro I hm;have hm:=O6 hm;simp only[OI,O9,or_false]at hm;(repeat (rcases hm with rfl|hm;focus ((first|exact aB ax hN rfl rfl rfl rfl rfl (aD t rfl) ⟨rfl,rfl⟩|exact aB ax K rfl rfl rfl rfl rfl (aD t rfl) ⟨rfl,rfl⟩|exact aB ax X rfl rfl rfl rfl rfl (aD t rfl) ⟨rfl,rfl⟩))))))
       (apply aS;rfl;rfl;rfl;focus (refine dP ax rfl A3 rfl rfl rfl rfl rfl Rl (aD t rfl) ?_;exact⟨rfl,rfl⟩))
       refine Dp ?_
       (apply aS;rfl;rfl;rfl;focus (refine jT ax hN rfl rfl A3 (aD t rfl) ?_;exact⟨rfl,rfl⟩))
       (apply aS (v:=.dead);rfl;rfl;rfl;focus (refine bH ax hN rfl rfl rfl rfl rfl List.getElem?_concat_length rfl (O1 rfl) ?_;exact⟨rfl,rfl⟩))
       rw[mF];exact dQ ⟨_,ag rfl (ag rfl (ag rfl (ag rfl (ag rfl (ag rfl (aZ _)))))),_,_,rfl,rfl,rfl,List.getElem?_concat_length,A1⟩
      .refine Dp ?_
       (apply kM;rfl;rfl;rfl;focus (intro I;refine bX ax rfl rfl rfl rfl A3 A3 rfl (aD t rfl) ?_;exact⟨rfl,rfl⟩))
       refine Dp ?_
       (apply aS;rfl;rfl;rfl;focus (refine jT ax hN rfl rfl A3 (aD t rfl) ?_;exact⟨rfl,rfl⟩))
       (apply bK;rfl;rfl;rfl;rfl;focus (intro I hm;have hm:=O6 hm;simp only[OI,O9,or_false]at hm;(repeat (rcases hm with rfl|hm;focus ((first|exact aB ax hN rfl rfl rfl rfl rfl (aD t rfl) ⟨rfl,rfl⟩|exact aB ax K rfl rfl rfl rfl rfl (aD t rfl) ⟨rfl,rfl⟩|exact aB ax X rfl rfl rfl rfl rfl (aD t rfl) ⟨rfl,rfl⟩))))))
       (apply aS;rfl;rfl;rfl;focus (refine dP ax rfl A3 rfl rfl rfl rfl rfl Rl (aD t rfl) ?_;exact⟨rfl,rfl⟩))
       refine Dp ?_
       (apply aS (v:=.dead);rfl;rfl;rfl;focus (refine bH ax hN rfl rfl rfl rfl rfl (ba _ List.getElem?_concat_length) rfl (O1 rfl) ?_;exact⟨rfl,rfl⟩))
       exact dQ ⟨_,ag rfl (ag rfl (ag rfl (ag rfl (ag rfl (ag rfl (aZ _)))))),_,_,rfl,rfl,rfl,sS A1,A1⟩
     .rintro L' h' ⟨p,l,rfl,rfl,lb,lp,hp0⟩;obtain⟨tl,O⟩:∃tl,tl=r.drop (j+2):=⟨_,rfl⟩;have ltl:tl.length<=13:=by rw[O,Pi];omega
      rw[<-O];refine Ws ?_;refine aI rfl ?_;refine iv (kh:=.i64) (lo:=j+3+2) (hi:=(bP (wOp::nm::gl::r)).length) ax rfl rfl rfl A3 (.inr ⟨_,rfl,rfl⟩) (.inl ⟨rfl,rfl⟩) (by rw[len];omega) (O3 _) (aD t rfl) ?_;rw[Q0,show (bP (wOp::nm::gl::r)).drop (j+3+2)=bP tl from by rw[O];exact(List.map_drop (f:=λx:Z=>[V.lit (.string x)]) (l:=r) (i:=j+2)).symm];refine aI rfl ?_;refine dK rfl (aD t rfl) ?_;refine fD (fU (nQ (jC (λL' h'=>L'=[(0,.one (.ptr c0 0 0)),(1,.one (.ptr c1 0 0)),(3,.one (.ptr (h.length+0) 0 0)),(7,.one (.imm 1 (bP (wOp::nm::gl::r)))),(14,.one (.ptr (h.length+p) 0 0)),(15,.one (.lit (.string (Den.tlF tl).1))),(16,.one (.imm 1 (bP (Den.tlF tl).2)))]/\h'=h++l) ?_ ?_)))
      .have lte:(bP tl).length=tl.length:=OV _;by_cases h2:2<=tl.length
       .have q1:bg .geq ((tl.length:Int)-2) 0=true:=by unfold bg;exact dT A0
        obtain⟨y,hy⟩:∃y,tl[tl.length-2]?=some y:=⟨_,O0 A0⟩;obtain⟨w,hw'⟩:∃w,tl[tl.length-1]? =some w:=⟨_,O0 A0⟩;refine Ws ?_;have ez:(tl.length:Int)-2=((tl.length-2:Nat):Int):=A0
        rw[ez]at q1 ⊢;refine kj rfl rfl rfl RV ?_;refine bX ax rfl rfl rfl rfl A3 A0 (e:=[.lit (.string y)]) (by rw[P7,P8,hy];rfl) (aD t rfl) ?_;refine Ws ?_;by_cases hu:y=Den.Lq
        .have et:Den.tlF tl=(w,tl.take (tl.length-2)):=by
          unfold Den.tlF;rw[hy,hw'];exact mt ⟨h2,hu⟩
         rw[et];refine iz rfl (by unfold vD;simp[hu]) ?_;refine Ws ?_;refine aI rfl ?_;refine bX ax rfl rfl rfl rfl A3 A0 (e:=[.lit (.string w)]) (by rw[(A0:(((tl.length-2:Nat):Int)+1).toNat=tl.length-1),P8,hw'];rfl) (aD t rfl) ?_;refine Ws ?_;refine aI rfl ?_;refine iv (kl:=.i64) (lo:=0) (hi:=tl.length-2) ax rfl rfl rfl A3 (.inl ⟨rfl,rfl⟩) (.inr ⟨_,rfl,rfl⟩) (P6 _) (by rw[lte];omega) (aD t rfl) ?_;rw[OQ,show (bP tl).take (tl.length-2)=bP (tl.take (tl.length-2))from (List.map_take (f:=λx:Z=>[V.lit (.string x)])).symm];exact Sf
        .have et:Den.tlF tl=(⟨#[]⟩,tl):=by
          unfold Den.tlF;rw[hy,hw'];exact O2 λh=>hu h.2
         rw[et];refine cJ rfl (og hu).1 ?_;exact Sf
       .have q1:bg .geq ((tl.length:Int)-2) 0=false:=Rs
        have et:Den.tlF tl=(⟨#[]⟩,tl):=by
         unfold Den.tlF;split
         .rw[O2 (λh=>h2 h.1)]
         .rfl
        rw[et];refine Ws ?_;refine cJ rfl Dg ?_;exact Sf
      .rintro L' h' ⟨rfl,rfl⟩;have lrt:(Den.tlF tl).2.length<=16:=P3 (IS tl) A0;obtain⟨u,hu⟩:∃u,u=Den.tlF tl:=⟨_,rfl⟩;rw[<-hu]at lrt ⊢;have llp:=(gI.1 lp).1;refine Ws ?_;refine aI rfl ?_;refine bL rfl (aD t rfl) (qk lrt _ _) ?_;refine Ws ?_;refine aI rfl ?_;refine bH ax hN rfl rfl rfl rfl rfl lp rfl (O1 rfl) ?_;refine Ws ?_;refine aI rfl ?_;refine bL rfl (aD t rfl) (qk lrt _ _) ?_;refine Ws ?_;refine aI rfl ?_;refine bH ax hN rfl rfl rfl rfl rfl (sS llp) rfl (O1 rfl) ?_;rw[P4];obtain⟨op,hop⟩:∃op:Den.Opr,op=⟨nm,[d],decide (0<=fdN u.2 Den.JO),decide (0<=fdN u.2 Den.Jp),0⟩:=⟨_,rfl⟩;obtain⟨l2,N⟩:∃l2,l2=l.set p (some (.row 5 [opV op (.di 2 [dcV d])])):=⟨_,rfl⟩;refine fD (fU (cB (L':=[(0,.one (.ptr c0 0 0)),(1,.one (.ptr c1 0 0)),(3,.one (.ptr (h.length+0) 0 0)),(14,.one (.ptr (h.length+p) 0 0)),(15,.one (.lit (.string u.1)))]) (ag rfl (ag rfl (ag rfl (ag rfl (ag rfl (aZ _)))))) (n7 (h':=h++l2) (by rw[N,hop];rfl) ?_)));have P:l2[0]? =some (some (.row 1 [[.ptr c0 0 0]])):=by rw[N];exact(sN hp0).trans lb
       have L2p:l2[p]? =some (some (.row 5 [opV op (.di 2 [dcV d])])):=by rw[N];exact sS llp
       clear N lb lp llp;have M2:(kill h (v 2))[c0]? =some (some (.row 5 [[v 0,v 1,v 2,nlV,nlV]])):=(lz (nX (R.dc 2 A3).1)).trans M;have K:(kill h (v 2)).length=h.length:=lu _ _;have T:(es 2).length+1<=4294967296:=A0
       refine Ws ?_;refine dz mixed [5,6,1,2,3,4,7,0,8,9,10] [6,7,10] [5,1,4,0] A3 ?_
       (apply bK;rfl;rfl;rfl;rfl;focus (intro I hm;have hm:=O6 hm;simp only[OI,O9,or_false]at hm;(repeat (rcases hm with rfl|hm;focus (exact aB ax hN rfl rfl L2p rfl rfl (aD t rfl) ⟨rfl,rfl⟩)))))
       (apply aS;rfl;rfl;rfl;focus (refine dP ax rfl A3 rfl rfl rfl rfl rfl Rl (aD t rfl) ?_;exact⟨rfl,rfl⟩))
       (apply bK;rfl;rfl;rfl;rfl;focus (intro I hm;have hm:=O6 hm;simp only[OI,O9,or_false]at hm;(repeat (rcases hm with rfl|hm;focus (first|exact aB ax hN rfl rfl (ba 0 P) rfl rfl (aD t rfl) ⟨rfl,rfl⟩|exact aB ax hN rfl rfl P rfl rfl (aD t rfl) ⟨rfl,rfl⟩)))))
       refine Dp ?_;refine Dp ?_
       (apply bK;rfl;rfl;rfl;rfl;focus (intro I hm;have hm:=O6 hm;simp only[OI,O9,or_false]at hm;(repeat (rcases hm with rfl|hm;focus (exact eF ax M rfl rfl rfl rfl (aD t rfl) ⟨rfl,rfl⟩)))))
       (apply aS;rfl;rfl;rfl;focus (refine qX ax hN (R.sl 2 A3) rfl rfl rfl A3 rfl rfl rfl rfl (O1 rfl) T rfl (aD t rfl) ?_;exact⟨rfl,rfl⟩))
       (apply bK;rfl;rfl;rfl;rfl;focus (intro I hm;have hm:=O6 hm;simp only[OI,O9,or_false]at hm;(repeat (rcases hm with rfl|hm;focus (first|exact aB ax K rfl rfl (ba 0 (ba 0 P)) rfl rfl (aD t rfl) ⟨rfl,rfl⟩|exact aB ax hN rfl rfl (ba 0 P) rfl rfl (aD t rfl) ⟨rfl,rfl⟩|exact aB ax hN rfl rfl P rfl rfl (aD t rfl) ⟨rfl,rfl⟩)))))
       refine Dp ?_;refine Dp ?_
       (apply aS (v:=.dead);rfl;rfl;rfl;focus (refine j5 ax M2 rfl rfl rfl rfl rfl rfl (O1 rfl) ?_;exact⟨rfl,rfl⟩))
       refine dQ ?_;have R2:=R.upd (j:=2) (k:=(l2++[none]).length) (l:=l2++[none]++[some (.row 5 (es 2++[opV op (.di 2 [dcV d])]))]) A3 List.getElem?_concat_length;refine fU (cB (L':=[(1,.one (.ptr c1 0 0)),(15,.one (.lit (.string u.1)))]) (ag rfl (ag rfl (aZ _))) (n7 (h':=(kill h (v 2)).set (atR c0 c1 2) (some (lg (upd v 2 (.own (h.length+(l2++[none]).length) 0 (es 2++[opV op (.di 2 [dcV d])]).length)) 2))++(l2++[none]++[some (.row 5 (es 2++[opV op (.di 2 [dcV d])]))])) rfl ?_));generalize (kill h (v 2)).set (atR c0 c1 2) (some (lg (upd v 2 (.own (h.length+(l2++[none]).length) 0 (es 2++[opV op (.di 2 [dcV d])]).length)) 2))++(l2++[none]++[some (.row 5 (es 2++[opV op (.di 2 [dcV d])]))])=h3 at R2 ⊢;clear hN K hc M M2 P L2p;have hN:h3.length=h3.length:=rfl;have hc:h3[c1]? =some (some (.row 1 [[v 3]])):=R2.u;have T:(es 3).length+1<=4294967296:=by rw[F.eu,OV];omega
       refine fh ?_;refine Ws ?_;have S3:Slot h3 (v 3) 1 (es 3):=R2.sl 3 A3;have M4:(kill h3 (v 3))[c1]? =some (some (.row 1 [[v 3]])):=(lz (nX (show c1∉idK (v 3)from (R2.dc 3 A3).2))).trans hc;refine aI rfl ?_;refine qX ax hN S3 rfl rfl rfl A3 rfl rfl rfl (uR (es:=[[.lit (.string u.1)]]) (cd hN rfl) A1) (O1 rfl) T rfl (aD t rfl) ?_;refine Ws ?_;refine aI rfl ?_;refine j5 ax M4 rfl rfl rfl rfl rfl rfl (O1 rfl) ?_;refine Ws ?_;refine pT (fy rfl rfl) (.inl ⟨rfl,λh=>absurd h A3,λ_=>⟨_,_,R2.upd (j:=3) (k:=1) A3 rfl,?_⟩⟩);refine⟨F.en,F.es,?_,?_⟩
       .show (es 2++[opV op (.di 2 [dcV d])]).length=_/\_;have hx:OpE op (opV op (.di 2 [dcV d])):=⟨_,rfl,.inl (by rw[hop];rfl)⟩;have:=EZ F.eo hx;rw[hop,hu,O,hd]at this;rw[hop,hu,O,hd];exact this
       .show es 3++[[.lit (.string u.1)]]=_;rw[F.eu,hu,O];simp[bP]
end Go.Proofs.YtkegnipofloejaaGreatDoor.Abs
namespace Go.Proofs.YtkegnipofloejaaGreatDoor.Abs
open Go.RowKit
section
open Den (bC gg lm wOp gl iH fdN rdF)
theorem Oc{h:au}{c0 c1:Nat}{s s':Den.Sg}{us A:Td Z}{b:Z}(B:b.size<4294967281)(R:RdS h c0 c1 s us)(hc:(bC b).length<=16/\s.ai.ak.length<=16/\s.ops.length<=16/\s.ai.aA.length<=1000/\us.length<=1000)(j:rdF s us (bC b)=some (s',A)):
  Fn Tryz.prog 19 [.one (.ptr c0 0 0),.one (.ptr c1 0 0),.one (.lit (.string b))] h (λr h'=>r= .one (.lit (.bool true))/\RdS h' c0 c1 s' A):=by
 obtain⟨H,y⟩:∃H,bC b=H:=⟨_,rfl⟩;rw[y]at j hc;obtain⟨k1,D,F,J,G⟩:=hc;unfold rdF at j;split at j
 .split at j
  .rename_i e;subst e;cases j;exact IX y B R A0
  .cases j
 .split at j
  .rename_i e;obtain⟨e,t⟩:=e;subst e;cases j;exact MY y B R t D J
  .cases j
 .rename_i a nm K r _;split at j
  .rename_i x E;split at j
   .rename_i e;obtain⟨rfl,rfl,w,h0,t⟩:=e;have hA:fdN r iH=((fdN r iH).toNat:Int):=A0
    have hl:(fdN r iH).toNat+1<r.length:=(gI.1 E).1;have v:r.length<=13:=by simp at k1;omega
    have C:r.drop ((fdN r iH).toNat+2)=[]↔r.length=(fdN r iH).toNat+2:=by rw[List.drop_eq_nil_iff];omega
    split at j
    .rename_i o ho;dsimp only at j;by_cases hm:o.ah=nm/\r.drop ((fdN r iH).toNat+2)=[]
     .rw [mt hm]at j;split at j
      .rename_i I hd;cases j;have d:lV s nm r (fdN r iH).toNat=true:=by
        unfold lV;rw[ho];simp[hm.1,C.1 hm.2]
       exact(Gk y B R t D F G v w hA E λ_=>⟨o,I,ho,hd⟩).mono λr h' ⟨e1,e2,_⟩=>⟨e1,e2 d o I ho hd⟩
      .cases j
     .rw[O2 hm]at j;cases j;have d:lV s nm r (fdN r iH).toNat=false:=by
       unfold lV;rw[ho];rw[C]at hm;simp only[Bool.and_eq_false_iff,decide_eq_false_iff_not];by_cases h1:o.ah=nm
       .exact .inr λh2=>hm ⟨h1,h2⟩
       .exact .inl h1
      exact Si
    .rename_i ho;cases j;have d:lV s nm r (fdN r iH).toNat=false:=by
      unfold lV;rw[ho]
     exact Si
   .cases j
  .cases j
 .cases j
end
section
open Den (bC rdF)
section
variable {h h':au}{s:Den.Sg}{es:Nat->Td (Td V)}{c0 c1:Nat}{us:Td Z}
theorem Slot.up{v:V}{s:Nat}{es:Td (Td V)}(S:Slot h v s es)(hk:∀k,k∈idK v->∀o,h[k]? =some (some o)->h'[k]? =some (some o)):Slot h' v s es:=by
 rcases S with h1|⟨k,h1,h2⟩
 .exact .inl h1
 .exact .inr ⟨k,h1,hk k (by rw[h1];simp[idK]) _ h2⟩
theorem RdH.up{v:Nat->V}(R:RdH h c0 c1 v es)(hk:∀k,(k=c0\/k=c1\/∃i,i<4/\k∈idK (v i))->∀o,h[k]? =some (some o)->h'[k]? =some (some o)):RdH h' c0 c1 v es:=
 ⟨hk _ (.inl rfl) _ R.m,hk _ (.inr (.inl rfl)) _ R.u,λi hi=>(R.sl i hi).up λk hm=>hk k (.inr (.inr ⟨i,hi,hm⟩)),R.dj,R.dc,R.d01⟩
theorem RdH.box{j:Nat}{v:Nat->V}(R:RdH h c0 c1 v es)(t:RdE es s us)(h2:h[j]? =some (some (.row 5 [zM])))(w:j≠c0):∀k,(k=c0\/k=c1\/∃i,i<4/\k∈idK (v i))->k≠j:=by
 rintro k (rfl|rfl|⟨i,hi,hk⟩) e
 .omega
 .have:=R.u;rw[e,h2]at this;exact absurd this nofun
 .subst e;rcases R.sl i hi with⟨e,_⟩|⟨k',e,d⟩
  .rw[e]at hk;simp[idK]at hk
  .rw[e]at hk;obtain rfl:k=k':=by simpa [idK]using hk
   rw[h2]at d
   match i,hi with
   |0,_=>exact absurd d nofun
   |1,_=>exact absurd d nofun
   |3,_=>exact absurd d nofun
   | 2,_=>
    have h4:es 2=[zM]:=G1
    obtain⟨hl,y⟩:=t.eo;rw[h4]at hl;obtain⟨A,e,_⟩:=y 0 (by rw[<-hl];simp) (by rw[h4];simp);simp only[h4,OY]at e;exact absurd e nofun
theorem JP{d:Nat}{s':Den.Sg}{j:Td Z}{b:Z}(y:b.size<4294967281)(R:RdS h c0 c1 s us)(hc:(bC b).length<=16/\s.ai.ak.length<=16/\s.ops.length<=16/\s.ai.aA.length<=1000/\us.length<=1000)(A:rdF s us (bC b)=some (s',j))(h2:h[d]? =some (some (.row 5 [zM])))(t:d≠c0):
  Fn Tryz.prog 19 [.one (.ptr c0 0 0),.one (.ptr c1 0 0),.one (.lit (.string b))] h (λr h'=>r= .one (.lit (.bool true))/\RdS h' c0 c1 s' j/\h'[d]? =some (some (.row 5 [zM]))):=by
 obtain⟨v,es,R,w⟩:=R;have B:=R.box w h2 t;refine(Fn.mask (M:=λi=>decide (i≠d)) (Oc y ⟨v,es,R.up λk hk o ho=>il.2 ⟨dT (B k hk),ho⟩,w⟩ hc A)).mono ?_;rintro r h' ⟨h1,⟨rfl,C,es',D,E⟩,k1,F⟩;exact⟨rfl,⟨C,es',D.up λk _ o ho=>k1 k o ho,E⟩,F d _ A1 h2⟩
end
end
noncomputable def opC(o:Den.Opr):Td V:=opV o (.imm 2 (o.aJ.map dcV))
theorem OpE.imp{o:Den.Opr}{e:Td V}(h:OpE o e):Den.ke e (opC o):=by
 obtain⟨t,rfl,h⟩:=h;refine⟨rfl,λj h1 h2=> ?_⟩
 match j,h1 with
 |0,_=>exact T5
 | 1, _=>
  rcases h with h|⟨_,h⟩
  .subst h;exact λI w ι u d=>d.imm_of
  .subst h;exact T5
 |2,_=>exact T5
 |3,_=>exact T5
 |4,_=>exact T5
theorem xP:∀{es:Td (Td V)}{ops:Td Den.Opr},(es.length=ops.length/\∀(j:Nat)(h1:j<ops.length)(h2:j<es.length),OpE ops[j] es[j])->Den.jA es (ops.map opC)
 |[],[],_=>.nil
 |[],_::_,h=>absurd h.1 A1
 |_::_,[],h=>absurd h.1 A1
 |e::es,o::ops,h=>.cons (h.2 0 A1 A1).imp (xP ⟨by simpa using h.1,λj h1 h2=>h.2 (j+1) Hd Hm⟩)
theorem RdS.canon{h:au}{L:Env}{c0 c1 w:Nat}{s:Den.Sg}{us:Td Z}(R:RdS h c0 c1 s us)(h2:h[w]? =some (some (.row 5 [zM])))(y:w≠c0):
  ∃h' v es,br L h L h'/\RdH h' c0 c1 v es/\(es 0=bP s.ai.ak/\es 1=sbE s.ai.aA/\es 2=s.ops.map opC/\es 3=bP us)/\h'[w]? =some (some (.row 5 [zM])):=by
 obtain⟨v,es,R,d⟩:=R;have C:=R.box d h2 y;rcases R.sl 2 A3 with⟨e,eo⟩|⟨B,j,t⟩
 .refine⟨h,v,es,.refl _ _,R,⟨d.en,d.es,?_,d.eu⟩,h2⟩;have:=d.eo.1;rw[eo]at this ⊢;rw[nZ this.symm];rfl
 .have hi:=xP d.eo;have S:=Den.br.imp (L:=L) t hi (λe he=>by
   obtain⟨o,_,rfl⟩:=(List.mem_map (f:=opC) (l:=s.ops)).1 he;rfl)
  have A:B≠w:=C B (.inr (.inr ⟨2,A3,by rw[j];simp[idK]⟩));refine⟨_,v,Abs.upd es 2 (s.ops.map opC),S,R.seto j (by rw[OV];exact d.eo.1.symm) (λc _ hc=>sN (Qc hc)) (sS (gI.1 t).1),⟨d.en,d.es,rfl,d.eu⟩,(sN A).trans h2⟩
end Go.Proofs.YtkegnipofloejaaGreatDoor.Abs
namespace Go.Proofs.YtkegnipofloejaaGreatDoor.Den
open Go.RowKit
theorem He:aj (z0p.ent λo x=>some (sEq o.ah x)):=z0p.ok (G:=⟨()⟩) trivial λo x r h=>⟨1,QU⟩
theorem Bg:aj (z4w.ent tQ):=z4w.ok (G:=⟨λo x=>some (sEq o.ah x)⟩) ⟨He,trivial⟩ λ(l:Td Opr) x r h=>by
 unfold tQ at h;split at h
 .rename_i hs;cases h;refine⟨l.length+1,?_⟩;unfold z4w.aq;have key:=λd=>jW (R:=AT×Td Ob) l (λo=>sEq o.ah x) (λv j=>z4w.b2 ⟨λo x=>some (sEq o.ah x)⟩ (l.length+1) l x (l.length:Int) v j d (d (-1))) d (by
   intro i y j t;have hi:=(gI.1 t).1;unfold z4w.b2;rw[bt hi,cT,aW t,bS,bw A0];rfl) (by
   intro j;unfold z4w.b2;rw[bh A0,cF]) (l.length+1) 0 A0 A0
  exact(key _).trans rfl
 .cases h
open Abs (V)
theorem kt{T:Ty}(hp:0<szT T){xs:Td (I T)}(F:I T->Td V)(h:∀x∈xs,FRs (aC T x) (F x)):FR (.l T xs) (.imm (szT T) (xs.map F)):=by
 have:=gh hp (xs:=xs) λx d=>(h x d).ok;have e:(xs.map λx=>(aC T x).map vC)=xs.map F:=PZ λx d=>(h x d).vC.symm;rw[<-e];exact this
theorem vw(ops:Td Opr):FR (.l (.n 8) ops) (.imm 5 (ops.map Abs.opC)):=
 kt  (T:=.n 8) A3 Abs.opC λo _=>by
  have hd:FR (.l (.n 7) o.aJ) (.imm 2 (o.aJ.map Abs.dcV)):=kt (T:=.n 7) A3 Abs.dcV λd _=>by
   have h:FR (.l .i d.ae) (.imm 1 (d.ae.map λx=>[.lit (.int .i64 x)])):=kt (T:=.i) A3 _ λx _=>⟨rfl,λj h1 h2=>by
    match j,h1 with
    |0,_=>exact .i⟩
   exact⟨rfl,λj h1 h2=>by
    match j,h1 with
    |0,_=>exact h
    |1,_=>exact .i⟩
  exact⟨rfl,λj h1 h2=>by
   match j,h1 with
   |0,_=>exact .s
   |1,_=>exact hd
   |2,_=>exact .b
   |3,_=>exact .b
   |4,_=>exact .i⟩
end Go.Proofs.YtkegnipofloejaaGreatDoor.Den
namespace Go.Proofs.YtkegnipofloejaaGreatDoor.Abs
open Go.RowKit
open Den (HpR fdO)
end Go.Proofs.YtkegnipofloejaaGreatDoor.Abs

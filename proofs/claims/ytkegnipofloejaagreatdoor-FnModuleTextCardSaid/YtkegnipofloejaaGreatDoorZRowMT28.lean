/- merged -/
import Derived.Test.YtkegnipofloejaaGreatDoorZRowMT27

namespace Go.Proofs.YtkegnipofloejaaGreatDoor.Den
open Go.RowKit
set_option maxRecDepth 100000
set_option linter.unusedVariables false
noncomputable section
namespace z26
structure Gs where
 none_:Unit
def aq{R:Type}(G:Gs)(n:Nat)(code:LI)(K:Bool->Y R):Y R:=K (decide (1048576<(List.length code:Int)))
def cG(G:Gs)(code:LI)(r:Bool):Prop:=∃n,aq (R:=AT×Td Ob) G n code (λr0=>some (Tp r0,[]))=some (Tp r,[])
theorem ok{G:Gs}(d:ap []){g:Q}(h:∀code r,g code=some r->cG G code r):aj (ent g):=okQ λ_ _ _ _ hc=>Tk hc (h _) λ_ _ j=>fF d ⟨6,0,[],[],[2],[],[]⟩ nP Tryz.func4 j
end z26
namespace z29
structure Gs where
 z2d:z2d.Q
def aq{R:Type}(G:Gs)(n:Nat)(a b:Tm)(K:Bool->Y R):Y R:=(G.z2d (Tm.mk a.op a.ah a.am a.ae) (Tm.mk b.op b.ah b.am b.ae)).bind λr=>K (decide (r=0))
def cG(G:Gs)(a b:Tm)(r:Bool):Prop:=∃n,aq (R:=AT×Td Ob) G n a b (λr0=>some (Tp r0,[]))=some (Tp r,[])
theorem ok{G:Gs}(d:ap [z2d.ent G.z2d]){g:Q}(h:∀a b r,g a b=some r->cG G a b r):aj (ent g):=okQ λ_ _ _ _ _ _ _ _ _ _ _ hc=>Tk hc (h _ _) λ_ _ j=>fF d ⟨9,0,[],[],[4],[],[]⟩ nP Tryz.func27 j
end z29
namespace z2c
structure Gs where
 none_:Unit
def ents(_:Gs):Td Ent:=[]
def b4{R:Type}(G:Gs)(n:Nat)(a b:LB)(i:Int)(d:Int->Y R)(h:Bool->Y R)(k1:Y R):Y R:=bif decide (i<(List.length a:Int))then((ix a i).bind λe2=>(ix b i).bind λj=>bif !sEq e2 j then(h false)else d (wr (i+1)))else k1
variable{R:Type}(G:Gs)(n:Nat)
def l4(m:Nat)(a b:LB)(i:Int)(d:Bool->Y R)(k1:Y R):Y R:=aY (λ(v:Int) h=>b4 G n a b v (λj=>h j) d k1) m i
def aq(a b:LB)(K:Bool->Y R):Y R:=bif !decide ((List.length a:Int)=(List.length b:Int))then(K false)else l4 G n n a b 0 (λt4=>K t4) (K true)
def dl4(m:Nat):=rS [0,1,5] [U4,U4,Tx] [] λR K a b i=>l4 G n m a b i (λt4=>K .ret ⟨Uj t4,[]⟩) (K (.exit 0) ⟨[],[]⟩)
def pc:Pcs:=⟨Tl 4 (dl4 G n n) nK,nK,nK⟩
def an:Ann:=⟨26,0,[(4,[0,1,5])],[],[4],[(6,⟨[(Te 9,[],[])],[],[],[],[]⟩)],[]⟩
abbrev bd:=aK Tryz.f25
def cG(G:Gs)(a b:LB)(r:Bool):Prop:=∃n,aq (R:=AT×Td Ob) G n a b (λr0=>some (Tp r0,[]))=some (Tp r,[])
theorem ok{G:Gs}(d:ap (ents G)){g:Q}(h:∀a b r,g a b=some r->cG G a b r):aj (ent g):=okQ λ_ _ _ _ _ hc=>Tk hc (h _ _) λn _ j=>fF d an (pc G n) Tryz.func25 j (apl [(1,4,.loop (Tj 116 bd))] ⟨Tf d n (dl4 G n) rfl (pc G n) ⟨[],[4],[(0,[])]⟩,Th⟩)
end z2c
namespace z28
structure Gs where
 none_:Unit
def ents(_:Gs):Td Ent:=[]
def b4{R:Type}(G:Gs)(n:Nat)(a b:LI)(i:Int)(d:Int->Y R)(h:Bool->Y R)(k1:Y R):Y R:=bif decide (i<(List.length a:Int))then((ix a i).bind λe2=>(ix b i).bind λj=>bif !decide (e2=j)then(h false)else d (wr (i+1)))else k1
variable{R:Type}(G:Gs)(n:Nat)
def l4(m:Nat)(a b:LI)(i:Int)(d:Bool->Y R)(k1:Y R):Y R:=aY (λ(v:Int) h=>b4 G n a b v (λj=>h j) d k1) m i
def aq(a b:LI)(K:Bool->Y R):Y R:=bif !decide ((List.length a:Int)=(List.length b:Int))then(K false)else l4 G n n a b 0 (λt4=>K t4) (K true)
def dl4(m:Nat):=rS [0,1,5] [U2,U2,Tx] [] λR K a b i=>l4 G n m a b i (λt4=>K .ret ⟨Uj t4,[]⟩) (K (.exit 0) ⟨[],[]⟩)
def pc:Pcs:=⟨Tl 4 (dl4 G n n) nK,nK,nK⟩
def an:Ann:=⟨26,0,[(4,[0,1,5])],[],[4],[(6,⟨[(Te 9,[],[])],[],[],[],[]⟩)],[]⟩
abbrev bd:=aK Tryz.f26
def cG(G:Gs)(a b:LI)(r:Bool):Prop:=∃n,aq (R:=AT×Td Ob) G n a b (λr0=>some (Tp r0,[]))=some (Tp r,[])
theorem ok{G:Gs}(d:ap (ents G)){g:Q}(h:∀a b r,g a b=some r->cG G a b r):aj (ent g):=okQ λ_ _ _ _ _ hc=>Tk hc (h _ _) λn _ j=>fF d an (pc G n) Tryz.func26 j (apl [(1,4,.loop (Tj 116 bd))] ⟨Tf d n (dl4 G n) rfl (pc G n) ⟨[],[4],[(0,[])]⟩,Th⟩)
end z28
namespace z27
structure Gs where
 z29:z29.Q
def ents(G:Gs):Td Ent:=[z29.ent G.z29]
def b9{R:Type}(G:Gs)(n:Nat)(a b:LQ)(i k:Int)(A:Int->Y R)(y:Bool->Y R)(k1:Y R):Y R:=(ix a i).bind λe=>bif decide (k<(List.length e.bJ:Int))then((ix a i).bind λe3=>(ix e3.bJ k).bind λj=>(ix b i).bind λB=>(ix B.bJ k).bind λt=>(G.z29 (Tm.mk j.left.op j.left.ah j.left.am j.left.ae) (Tm.mk t.left.op t.left.ah t.left.am t.left.ae)).bind λC=>bif !C then(y false)else(ix a i).bind λv=>(ix v.bJ k).bind λd=>(ix b i).bind λw=>(ix w.bJ k).bind λh=>(G.z29 (Tm.mk d.right.op d.right.ah d.right.am d.right.ae) (Tm.mk h.right.op h.right.ah h.right.am h.right.ae)).bind λD=>bif !D then(y false)else A (wr (k+1)))else k1
variable{R:Type}(G:Gs)(n:Nat)
def l9(m:Nat)(a b:LQ)(i k:Int)(d:Bool->Y R)(k1:Y R):Y R:=aY (λ(v:Int) h=>b9 G n a b i v (λj=>h j) d k1) m k
def b4(a b:LQ)(i:Int)(y:Int->Y R)(d:Bool->Y R)(k1:Y R):Y R:=bif decide (i<(List.length a:Int))then((ix a i).bind λe2=>(ix b i).bind λh=>(G.z29 (Tm.mk e2.left.op e2.left.ah e2.left.am e2.left.ae) (Tm.mk h.left.op h.left.ah h.left.am h.left.ae)).bind λA=>bif !A then(d false)else(ix a i).bind λj=>(ix b i).bind λt=>(G.z29 (Tm.mk j.right.op j.right.ah j.right.am j.right.ae) (Tm.mk t.right.op t.right.ah t.right.am t.right.ae)).bind λB=>bif !B then(d false)else(ix a i).bind λv=>(ix b i).bind λw=>bif !decide ((List.length v.bJ:Int)=(List.length w.bJ:Int))then(d false)else l9 G n n a b i 0 (λt4=>d t4) (y (wr (i+1))))else k1
def l4(m:Nat)(a b:LQ)(i:Int)(d:Bool->Y R)(k1:Y R):Y R:=aY (λ(v:Int) h=>b4 G n a b v (λj=>h j) d k1) m i
def aq(a b:LQ)(K:Bool->Y R):Y R:=bif !decide ((List.length a:Int)=(List.length b:Int))then(K false)else l4 G n n a b 0 (λt4=>K t4) (K true)
def dl9(m:Nat):=rS [0,1,5,6] [US,US,Tx,Tx] [] λR K a b i k=>l9 G n m a b i k (λt4=>K .ret ⟨Uj t4,[]⟩) (K (.exit 2) ⟨[(0,Vl a),(1,Vl b),(5,Tv i)],[]⟩)
def dl4(m:Nat):=rS [0,1,5] [US,US,Tx] [] λR K a b i=>l4 G n m a b i (λt4=>K .ret ⟨Uj t4,[]⟩) (K (.exit 0) ⟨[],[]⟩)
def pc:Pcs:=⟨Tl 9 (dl9 G n n) (Tl 4 (dl4 G n n) nK),nK,nK⟩
def an:Ann:=⟨111,0,[(9,[0,1,5,6]),(4,[0,1,5])],[],[4],[(6,⟨[(Te 41,[],[])],[],[],[],[]⟩),(11,⟨[(Te 42,[],[])],[],[],[],[]⟩)],[]⟩
abbrev bd:=aK Tryz.f11
def cG(G:Gs)(a b:LQ)(r:Bool):Prop:=∃n,aq (R:=AT×Td Ob) G n a b (λr0=>some (Tp r0,[]))=some (Tp r,[])
theorem ok{G:Gs}(d:ap (ents G)){g:Q}(h:∀a b r,g a b=some r->cG G a b r):aj (ent g):=okQ λ_ _ _ _ _ hc=>Tk hc (h _ _) λn _ j=>fF d an (pc G n) Tryz.func11 j (apl [(1,4,.loop (Tj 116 bd))] ⟨Tf d n (dl4 G n) rfl (pc G n) ⟨[],[4],[(0,[])]⟩ (apl [(1,9,.loop (Tj 14924 bd))] ⟨Tf d n (dl9 G n) rfl (pc G n) ⟨[0,1,5],[4],[(0,[]),(1,[0,1,5]),(2,[0,1,5])]⟩,Th⟩),Th⟩)
end z27
end
end Go.Proofs.YtkegnipofloejaaGreatDoor.Den
namespace Go.Proofs.YtkegnipofloejaaGreatDoor.Abs
open Go.RowKit
theorem ES(a b:Int)(w:World):(binOp .neq 45 (.agg #[.int .i64 a,.int .i64 b]) (.agg #[.int .i64 a,.int .i64 b])).run Tryz.prog w= .ok (.bool false) w:=by
 have h:(Op.equalIn (9999+1) 45 (.agg #[.int .i64 a,.int .i64 b]) (.agg #[.int .i64 a,.int .i64 b])).run Tryz.prog w= .ok true w:=by
  rw[run_equalIn_struct w 9999 45 _ _ D1 D1];have e:(Tryz.prog.fieldsOf 45).toList=[{name:= "Low",type:=3,offset:=0,embedded:=false,tag:= "",pkgPath:= "",byteOffset:=0},{name:= "High",type:=3,offset:=1,embedded:=false,tag:= "",pkgPath:= "",byteOffset:=8}]:=D1
  rw[e];have hi:Tryz.prog.underlying 3=some (.int .i64):=D1
  simp[Op.eqFields,part,run_equalIn_int _ _ _ _ _ _ _ hi]
 simp only[binOp,Op.equal,Op.maxDepth,Sem.run_bind,h,Result.andThen_ok];rfl
section
variable {E : Cx} {K : Env → au → Prop} {L : Env} {h : au} {d : Nat} {ty : TypeId} {pos : String} {af : Array Edge} {gd : Y (Nat × Bool)}
theorem JH{x y:Operand}{a b:Int}(B:ev L x=some (.agg [.lit (.int .i64 a),.lit (.int .i64 b)]))(C:ev L y=some (.agg [.lit (.int .i64 a),.lit (.int .i64 b)]))(D:d<E.n)
  (hk:K ((d,.one (.lit (.bool false)))::L) h):ar Tryz.prog ⟨some d,.binOp .neq 45 x y 45,ty,pos,af,gd⟩ E K L h:=
 bO  rfl D (λ_ _ t w r=>by
  have k:∀{z:Operand},ev L z=some (.agg [.lit (.int .i64 a),.lit (.int .i64 b)])->t.eval z= .agg #[.int .i64 a,.int .i64 b]:=λ{z} F=>by
   have q:=r.ev F;generalize t.eval z=c at q;cases q with| @agg _ cs f hl j v=>
   have A:=j 0 A1;have e1:=j 1 A1;have r0:=Den.tD (v 0 A1);have G:=Den.tD (v 1 A1);rcases cs with⟨l⟩
   match l,hl with
   | [p,q],_=>
    simp at A e1;rw[A,e1,r0,G]
  have H:(eqGuard .neq 45 x y (.agg #[.int .i64 a,.int .i64 b]) (.agg #[.int .i64 a,.int .i64 b])).run Tryz.prog w= .ok () w:=by
   simp[eqGuard,(D1:Tryz.prog.eqGuardType Tryz.prog.depth 45=false)]
  exact⟨.bool false,by simp only[execOp,k B,k C,Sem.run_bind,H,Result.andThen_ok,ES,Sem.run_pure],.one (.lit trivial)⟩) hk
end
end Go.Proofs.YtkegnipofloejaaGreatDoor.Abs
namespace Go.Proofs.YtkegnipofloejaaGreatDoor.Den
open Go.RowKit
def La:Td Z->Td Z->Y Bool:=λa b=>if a=b/\a.length<=1000 then some true else none
theorem IA:aj (z2c.ent La):=z2c.ok (G:=⟨()⟩) trivial λa b r h=>by
 unfold La at h;split at h
 .rename_i hs;obtain⟨rfl,hl⟩:=hs;cases h;refine⟨a.length+1,?_⟩;unfold z2c.aq;rw[show decide ((a.length:Int)=(a.length:Int))=true from dT rfl,O4,cF];refine(lX (R:=AT×Td Ob) a.length (λi d=>z2c.b4 ⟨()⟩ (a.length+1) a a i d (λt4=>some (AT.one (.b t4),[])) (some (AT.one (.b true),[]))) (λ_=>some (AT.one (.b true),[])) (λd=> ?_) (λi d hi e=> ?_) (a.length+1) 0 A0 A0).trans rfl
  .unfold z2c.b4;rw[bh (Pc _),cF]
  .obtain⟨x,j,_⟩:=bo hi;unfold z2c.b4;exact Su
 .cases h
def Iu:Td Int->Td Int->Y Bool:=λa b=>if a=b/\a.length<=1000 then some true else none
theorem JM:aj (z28.ent Iu):=z28.ok (G:=⟨()⟩) trivial λa b r h=>by
 unfold Iu at h;split at h
 .rename_i hs;obtain⟨rfl,hl⟩:=hs;cases h;refine⟨a.length+1,?_⟩;unfold z28.aq;rw[show decide ((a.length:Int)=(a.length:Int))=true from dT rfl,O4,cF];refine(lX (R:=AT×Td Ob) a.length (λi d=>z28.b4 ⟨()⟩ (a.length+1) a a i d (λt4=>some (AT.one (.b t4),[])) (some (AT.one (.b true),[]))) (λ_=>some (AT.one (.b true),[])) (λd=> ?_) (λi d hi e=> ?_) (a.length+1) 0 A0 A0).trans rfl
  .unfold z28.b4;rw[bh (Pc _),cF]
  .obtain⟨x,j,_⟩:=bo hi;unfold z28.b4;rw[bt hi,cT,aW j,bS,bS,show decide (x=x)=true from dT rfl,O4,cF,bw A0];exact e
 .cases h
theorem Ih(b d hc fa h j m t:Bool){R:Type}(K:Bool->Y R):z2b.aq ⟨Iu⟩ 20 nmD (sbD b) (iB b d hc fa h j m t).ops nmD (sbD b) (iB b d hc fa h j m t).ops K=K true:=by
 cases b<;>cases d<;>cases hc<;>cases fa<;>cases h<;>cases j<;>cases m<;>cases t<;>kernel_rfl
end Go.Proofs.YtkegnipofloejaaGreatDoor.Den
namespace Go.Proofs.YtkegnipofloejaaGreatDoor.Abs
open Go.RowKit
theorem IL{d:Td Z}(hl:d.length<=1000)(h:au):Fn Tryz.prog 25 [.one (.imm 1 (bP d)),.one (.imm 1 (bP d))] h (λr h'=>r= .one (.lit (.bool true))/\h'=h):=by
 have hF:=Den.ia Den.IA (xs:=[.one (.l .s d),.one (.l .s d)]) (H:=[]) (H':=[]) (v:=.one (.b true)) (by
  show (Den.La d d).bind _=_;rw[show Den.La d d=_ from mt ⟨rfl,hl⟩];rfl)
 have:=Den.lP (h:=h) hF rfl Den.nt2 (Den.aP (.one (.fl (Den.fx d))) (Den.aP (.one (.fl (Den.fx d))) Den.bY)) Rl (.one .b)
 rwa [Den.oK]at this
set_option maxRecDepth 20000 in
theorem Om{s:Den.Sg}(hl:s.ai.ak.length<=1000)(hs:s.ai.aA.length<=1000)(j:∃n,Den.z2b.aq (R:=Den.AT×Td Den.Ob) ⟨Den.Iu⟩ n s.ai.ak s.ai.aA s.ops s.ai.ak s.ai.aA s.ops (λr0=>some (.one (.b r0),[]))=some (.one (.b true),[])):
  Fn Tryz.prog 10 [.agg [.imm 1 (bP s.ai.ak),.imm 2 (sbE s.ai.aA),.imm 5 (s.ops.map opC)],.agg [.imm 1 (bP s.ai.ak),.imm 2 (sbE s.ai.aA),.imm 5 (s.ops.map opC)]] [] (λr _=>Den.ATR [] [] (.one (.b true)) r):=by
 obtain⟨h,H⟩:∃h:au,h=[]:=⟨_,rfl⟩;rw[<-H];refine cW Tryz.func10 rfl rfl (O1 rfl) λE A=>fh ?_
 replace A:E.n=147:=A;have hE:=A
 have hN:h.length=h.length:=rfl;refine Ws ?_;refine aI rfl ?_;refine bL rfl (aD A rfl) (IL hl _) ?_;have q1:bg .neq (s.ai.aA.length:Int) (s.ai.aA.length:Int)=false:=by unfold bg;simp
 have q2:bg .neq (s.ops.length:Int) (s.ops.length:Int)=false:=by unfold bg;simp
 refine Ws ?_;refine cJ rfl Dg ?_;refine Ws ?_;obtain⟨o,w⟩:∃o:Td V,o=[.imm 1 (bP s.ai.ak),.imm 2 (sbE s.ai.aA),.imm 5 (s.ops.map opC)]:=⟨_,rfl⟩;refine gk (Q:=λe L h'=>e= .exit 0/\∃L',Sub L' L/\L'=[(2,.one (.ptr (h.length+0) 0 0)),(3,.one (.ptr (h.length+1) 0 0))]/\h'=h++[some (.row 3 [o]),some (.row 3 [o])]) ?_ ?_
 .rintro e L h' ⟨rfl,L',C,rfl,rfl⟩;refine wc (fU (cB C ?_));subst H;have cr:Den.CRs [some 0,some 1] [.box [.l .s s.ai.ak,.l (.n 5) s.ai.aA,.l (.n 8) s.ops],.box [.l .s s.ai.ak,.l (.n 5) s.ai.aA,.l (.n 8) s.ops]] [.l .s s.ai.ak,.l (.n 5) s.ai.aA,.l (.n 8) s.ops] o:=by
   rw[w];exact⟨rfl,λj h1 h2=>by
    match j,h1 with
    |0,_=>exact .fl (Den.fx _)
    |1,_=>exact .fl (Den.zL _)
    |2,_=>exact .fl (Den.vw _)⟩
  have ol:o.length=3:=by rw[w];rfl
  have F:Den.SR ⟨[],[],[]⟩ [some 0,some 1] ⟨[(2,.one (.p 0 0)),(3,.one (.p 1 0))],[.box [.l .s s.ai.ak,.l (.n 5) s.ai.aA,.l (.n 8) s.ops],.box [.l .s s.ai.ak,.l (.n 5) s.ai.aA,.l (.n 8) s.ops]]⟩ [(2,.one (.ptr 0 0 0)),(3,.one (.ptr 1 0 0))] [some (.row 3 [o]),some (.row 3 [o])]:=by
   refine⟨Den.gy rfl (.one (.p rfl)) (Den.gy rfl (.one (.p rfl)) λt v I=>by simp at I),⟨rfl,λid n T xs d=> ?_,λid cs d=> ?_,λid T kvs d=> ?_,λi j a h1 h2 _ _=> ?_,λi a hi=> ?_⟩,⟨P6 _,λ_ a _ _ d=>absurd d (OM _),λa d=>absurd d (OM _),λid x d=>QR,λid x d=>QR⟩,Den.XR.none_ λid y B=> ?_⟩
   .grind
   .grind
   .grind
   .grind
   .grind
   .match id,B with
    |0,B=>cases B;rfl
    |1,B=>cases B;rfl
    |id+2,B=>simp at B
  exact gk (λ_ _ _ k=>Den.pN (λr h ⟨ρ,q,hp,_⟩=>by
   have e:ρ=[]:=nZ hp.len;rw[e]at q;exact q) k) (Den.z2b.tl (G:=⟨Den.Iu⟩) ⟨Den.JM,trivial⟩ j A F)
 refine oh (λq L h'=>∃k:Nat,q=s.ai.aA.length-k/\k<=s.ai.aA.length/\h'=h++[some (.row 3 [o]),some (.row 3 [o])]/\L=[(2,.one (.ptr (h.length+0) 0 0)),(3,.one (.ptr (h.length+1) 0 0)),(5,.one (.lit (.int .i64 (k:Int))))]) (n:=s.ai.aA.length-0)
  (L0:=[(2,.one (.ptr (h.length+0) 0 0)),(3,.one (.ptr (h.length+1) 0 0)),(5,.one (.lit (.int .i64 ((0:Nat):Int))))]) ?_ ?_ ?_
 .exact ag rfl (ag rfl (ag rfl (aZ _)))
 .exact⟨0,rfl,P6 _,by rw[w];rfl,rfl⟩
 .rintro q L h' ⟨k,rfl,hk,rfl,rfl⟩;have J:(h++[some (Ob.row 3 [o]),some (.row 3 [o])])[h.length+0]? =some (some (.row 3 [o])):=cd rfl rfl;have g1:(h++[some (Ob.row 3 [o]),some (.row 3 [o])])[h.length+1]? =some (some (.row 3 [o])):=cd rfl rfl;rw[w]at J g1 ⊢;clear w;refine Ws ?_
  (refine dX rfl (λhp=> ?_) (λhp=> ?_))
  .have D:k<s.ai.aA.length:=by
    have:=ON hp;omega
   obtain⟨x,d⟩:∃x,s.ai.aA[k]?=some x:=⟨_,O0 D⟩;refine Ws ?_;refine sF mixed [0,1,2,3,4,5,6,7,8,9,10,11,12] A3 ?_;refine Dq ?_
   (apply vN;rfl;rfl;rfl;focus (refine bX ax rfl rfl rfl rfl A3 A0 (e:=[.lit (.int .i64 x.low),.lit (.int .i64 x.cK)]) (by rw[P7,P8,d];rfl) (aD A rfl) ?_;exact⟨rfl,rfl⟩))
   refine Dq ?_
   (apply vN;rfl;rfl;rfl;focus (refine bX ax rfl rfl rfl rfl A3 A0 (e:=[.lit (.int .i64 x.low),.lit (.int .i64 x.cK)]) (by rw[P7,P8,d];rfl) (aD A rfl) ?_;exact⟨rfl,rfl⟩))
   refine Dq ?_
   (apply vN;rfl;rfl;rfl;focus (refine JH rfl rfl (aD A rfl) ?_;exact⟨rfl,rfl⟩))
   refine Dq ?_;refine Ws ?_;refine cJ rfl Dg ?_;refine Ws ?_;exact⟨s.ai.aA.length-(k+1),_,A0,ag rfl (ag rfl (ag rfl (aZ _))),k+1,rfl,D,rfl,rfl⟩
  .refine Ws ?_;exact⟨rfl,_,ag rfl (ag rfl (aZ _)),rfl,rfl⟩
end Go.Proofs.YtkegnipofloejaaGreatDoor.Abs
namespace Go.Proofs.YtkegnipofloejaaGreatDoor.Den
open Go.RowKit
open Classical
noncomputable def Jg:Sg->Sg->Y Bool:=λa b=>if a=b/\SgD a then some true else none
theorem tY:aj (z2a.ent Jg):=okQ λ_ _ _ D s1 E G s2 H hc=>okL hc λr q=>by
 unfold Jg at q;split at q
 .rename_i hs;obtain⟨e,b,t,c,fa,w,A,m,B,e2⟩:=hs;cases q;obtain⟨s,hs⟩:∃s,s=iB b t c fa w A m B:=⟨_,rfl⟩;have I:D=s.ai.ak/\s1=s.ai.aA/\E=s.ops:=by rw[<-hs]at e2;rw[<-e2];exact⟨rfl,rfl,rfl⟩
  have J:G=s.ai.ak/\s2=s.ai.aA/\H=s.ops:=by rw[<-hs]at e2;rw[<-e2,e];exact⟨rfl,rfl,rfl⟩
  obtain⟨rfl,rfl,rfl⟩:=I;obtain⟨rfl,rfl,rfl⟩:=J;intro ρ h avs hp K;obtain⟨o,ho⟩:∃o:Td Abs.V,o=[.imm 1 (Abs.bP s.ai.ak),.imm 2 (Abs.sbE s.ai.aA),.imm 5 (s.ops.map Abs.opC)]:=⟨_,rfl⟩;have fo:FRs [.l .s s.ai.ak,.l (.n 5) s.ai.aA,.l (.n 8) s.ops] o:=by
   rw[ho];exact⟨rfl,λj h1 h2=>by
    match j,h1 with
    |0,_=>exact fx _
    |1,_=>exact zL _
    |2,_=>exact vw _⟩
  have d:avs=[.agg o,.agg o]:=by
   obtain⟨l,g⟩:=K
   match avs,l with
   | [x,y],_=>
    have C:=(jD rfl (λxs e=>E0) (g 0 A1 A1)).1;have k1:=(jD rfl (λxs e=>E0) (g 1 A1 A1)).1;simp only[OY,PG]at C k1;rw[C,k1];show [Abs.AV.agg (List.map vC _),Abs.AV.agg (List.map vC _)]=_;rw[<-fo.vC]
  subst d;have hl:s.ai.ak.length<=1000/\s.ai.aA.length<=1000:=by
   rw[hs];cases b<;>exact⟨O1 rfl,O1 rfl⟩
  have F:=Abs.Om hl.1 hl.2 ⟨20,by rw[hs];exact Ih b t c fa w A m B _⟩;rw[<-ho]at F;have e:ρ=[]:=nZ hp.len;subst e;refine(F.nil (by rw[ho];rfl) (λr h' k=> ?_) h).mono λr h' ⟨⟨_,k⟩,e⟩=> ?_
  .have a:=jD (v:=.one _) rfl (λxs e=>E0) k;rw[a.1];exact a.2.flat
  .subst e;exact⟨[],k,hp,Fr.refl [] [] _⟩
 .cases q
noncomputable def xM:Tm->Tm->Y Bool:=λa b=>if a=b/\a.az<4294967295 then some true else none
theorem Kg:aj (z29.ent xM):=z29.ok (G:=⟨bV 4294967296⟩) ⟨z2e _ (O3 _),trivial⟩ λa b r h=>⟨1,by
 unfold xM at h;split at h
 .rename_i hs;obtain⟨rfl,hl⟩:=hs;cases h;unfold z29.aq;dsimp only;rw[Tm.eta,show bV 4294967296 a a=some (bR a a)from mt (by first|exact⟨A0,A0⟩|omega),bS,z09];rfl
 .cases h⟩
noncomputable def Hp:Td Eqn->Td Eqn->Y Bool:=λa b=>if a=b/\a.length<=1000/\∀e∈a,SmE e/\e.bJ.length<=2 then some true else none
theorem v6:aj (z27.ent Hp):=z27.ok (G:=⟨xM⟩) ⟨Kg,trivial⟩ λa b r h=>by
 unfold Hp at h;split at h
 .rename_i hs;obtain⟨rfl,hl,hm⟩:=hs;cases h;have sm:∀t:Tm,t.az<1073741823->({z29:=xM}:z27.Gs).z29 t t=some true:=λt D=>mt ⟨rfl,A0⟩;refine⟨1003,?_⟩;unfold z27.aq;rw[show decide ((a.length:Int)=(a.length:Int))=true from dT rfl,O4,cF];refine(lX (R:=AT×Td Ob) a.length (λi d=>z27.b4 ⟨xM⟩ 1003 a a i d (λt4=>some (AT.one (.b t4),[])) (some (AT.one (.b true),[]))) (λ_=>some (AT.one (.b true),[])) (λd=> ?_) (λi d hi e=> ?_) 1003 0 A0 A0).trans rfl
  .unfold z27.b4;rw[bh (Pc _),cF]
  .obtain⟨x,v,w⟩:=bo hi;obtain⟨⟨m1,y,A⟩,E⟩:=hm x w;unfold z27.b4;rw[bt hi,cT,aW v,bS,bS,Tm.eta,sm _ m1,bS,O4,cF,bS,bS,Tm.eta,sm _ y,bS,O4,cF,bS,bS,show decide ((x.bJ.length:Int)=(x.bJ.length:Int))=true from dT rfl,O4,cF];refine(lX (R:=AT×Td Ob) x.bJ.length (λk j=>z27.b9 ⟨xM⟩ 1003 a a i k j (λt4=>some (AT.one (.b t4),[])) (d (wr ((i:Int)+1)))) (λ_=>d (wr ((i:Int)+1))) (λd=> ?_) (λk j hk e=> ?_) 1003 0 A0 A0).trans ?_
   .unfold z27.b9;rw[aW v,bS,bh (Pc _),cF]
   .obtain⟨c,c1,c2⟩:=bo hk;obtain⟨B,C⟩:=A c c2;unfold z27.b9;rw[aW v,bS,bt hk,cT];simp only[aW c1,bS,Tm.eta,show xM c.left c.left=some true from sm _ B,show xM c.right c.right=some true from sm _ C,O4,cF];rw[bw A0];exact e
   .rw[bw A0];exact e
 .cases h
end Go.Proofs.YtkegnipofloejaaGreatDoor.Den

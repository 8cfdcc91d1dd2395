/- merged -/
import Derived.Test.YtkegnipofloejaaGreatDoorZRowMT23

namespace Go.Proofs.YtkegnipofloejaaGreatDoor.Den
open Go.RowKit
section
open Abs (V AV Env au aw)
theorem pN{P:Program}{fn:Func}{h0:au}{R j:AV->au->Prop}(t:∀r h,R r h->j r h){e:Exit}{L:Env}{h:au}(k:Abs.px P fn h0 R e L h):Abs.px P fn h0 j e L h:=by
 have key:(∃d h2 r,Abs.br L h d h2/\Abs.Res P fn d h2 r/\Abs.Out h0 R r h2)->∃d h2 r,Abs.br L h d h2/\Abs.Res P fn d h2 r/\Abs.Out h0 j r h2:=λ⟨d,h2,r,a,b,c⟩=>⟨d,h2,r,a,b,c.imp (t _ _) λ⟨x,g,v,w,y,A,B⟩=>⟨x,g,v,w,y,A,t _ _ B⟩⟩
 cases e with
 |normal=>exact key k
 |ret=>exact key k
 |_=>exact k
theorem Fl{G:Td Ent}(t:ap G){fn:Func}(an:Ann)(pc:Pcs){c:Code}{st:St}{q:AT×Td Ob}{M:Y (AT×Td Ob)}(hd:M=some q)(v:je Tryz.prog an pc (cU an c))(he:den tb (de G) pc an c st (oO (yP tb an fn.results.toList))=M:=by kernel_rfl)(d:Nat.beq an.refs 0=true:=by kernel_rfl):
  ∀[Zb]{E:Abs.Cx}{ρ:Rho}{L:Env}{h:au},E.n=an.nt->SR ⟨[],[],[]⟩ ρ st L h->aw Tryz.prog c E (Abs.px Tryz.prog fn [] λr h=>∃ρ,ATR ρ q.2 q.1 r/\HpR ρ q.2 h/\Fr ⟨[],[],[]⟩ ρ q.2 h) L h:=by
 intro _ E ρ L h w hs;have hF:(In.mk [] [] []).ok an.refs:=⟨(OL d).symm,(OL d).symm⟩;refine Abs.gk (λe L h k=> ?_) (ki (F:=⟨[],[],[]⟩) mixed kX (jp t) w hF v (he.trans hd) hs);exact pN (λr h ⟨j,ρ',e,m⟩=>by subst e;exact⟨ρ',m⟩) (yG (S:=λj=>j=q) kX hF Array.toArray_toList.symm (.inl rfl) (λ_ _ k=>⟨_,k,rfl⟩) k)
end
section
set_option maxRecDepth 100000
set_option linter.unusedVariables false
noncomputable section
namespace z0q
structure Gs where
 z4w:z4w.Q
 z1o:z1o.Q
 strings_Cut:strings_Cut.Q
 z17:z17.Q
 z0e:z0e.Q
 z4p:z4p.Q
def ents(G:Gs):Td Ent:=[z4w.ent G.z4w,z1o.ent G.z1o,strings_Cut.ent G.strings_Cut,z17.ent G.z17,z0e.ent G.z0e,z4p.ent G.z4p]
def b7{R:Type}(G:Gs)(n:Nat)(j rest:LB)(t:Int)(h1:LB)(h2:LS)(C:LO)(h4 D:LQ)(E:LB)(F:LS)(y A:LQ)(v:LB)(d:Int)(h:LO)(w:Int->LO->Y R)(B:LO->Y R):Y R:=bif decide (d<t)then((ix v d).bind λe=>bif !sEq e ByteArray.empty then((G.z4w h e).bind λr=>(ix h d).bind λe2=>w (wr (d+1)) (List.set h (Int.toNat d) (Opr.mk e2.ah e2.aJ e2.aE e2.comm (wr (r+1)))))else w (wr (d+1)) h)else B h
variable{R:Type}(G:Gs)(n:Nat)
def l7(m:Nat)(d rest:LB)(h:Int)(h1:LB)(h2:LS)(A:LO)(h4 B:LQ)(C:LB)(D:LS)(j t:LQ)(w:LB)(y:Int)(E:LO)(F:LO->Y R):Y R:=aY (λ(v:Int×LO) H=>b7 G n d rest h h1 h2 A h4 B C D j t w v.1 v.2 (λI J=>H (I,J)) F) m (y,E)
def b17{R:Type}(G:Gs)(n:Nat)(j t66:LB)(t:Int)(h1:LB)(h2:LS)(M:LO)(h4 N:LQ)(O:LB)(I:LS)(J:LO)(K v w:LI)(y:LB)(A:LS)(B:LO)(h:Int)(C D:LQ)(E:LM)(H:Int->LQ->LQ->LM->Y R)(L:Bool->LB->LS->LO->LQ->LQ->Y R)(k1:LQ->LQ->Y R):Y R:=bif decide (h<t)then((ix t66 h).bind λe=>(G.strings_Cut e (ByteArray.mk #[32])).bind λr=>(G.z17 K v w y A B E r.2.1).bind λd=>bif !d.2.1 then(L false [] [] [] [] [])else bif sEq r.1 (ByteArray.mk #[101,113])then((lim (C++[(Eqn.mk (Tm.mk d.1.left.op d.1.left.ah d.1.left.am d.1.left.ae) (Tm.mk d.1.right.op d.1.right.ah d.1.right.am d.1.right.ae) d.1.bJ)])).bind λzs=>H (wr (h+1)) zs D d.2.2)else(lim (D++[(Eqn.mk (Tm.mk d.1.left.op d.1.left.ah d.1.left.am d.1.left.ae) (Tm.mk d.1.right.op d.1.right.ah d.1.right.am d.1.right.ae) d.1.bJ)])).bind λF=>H (wr (h+1)) C F d.2.2)else k1 C D
def l17(m:Nat)(d t66:LB)(h:Int)(h1:LB)(h2:LS)(F:LO)(h4 H:LQ)(I:LB)(j:LS)(t:LO)(J w y:LI)(A:LB)(B:LS)(C:LO)(D:Int)(K L:LQ)(E:LM)(M:Bool->LB->LS->LO->LQ->LQ->Y R)(k1:LQ->LQ->Y R):Y R:=aY (λ(v:Int×LQ×LQ×LM) N=>b17 G n d t66 h h1 h2 F h4 H I j t J w y A B C v.1 v.2.1 v.2.2.1 v.2.2.2 (λO P Q S=>N (O,P,Q,S)) M k1) m (D,K,L,E)
def aq(d rest nm:LB)(sb:LS)(os:LO)(us:LB)(K:Md->Bool->Y R):Y R:=l7 G n n d rest (List.length us:Int) [] [] [] [] [] nm sb [] [] us 0 os (λh=>(G.z1o (Sg.mk (So.mk nm sb) h)).bind λr=>rV r (K (Md.mk (Sg.mk (So.mk [] []) []) [] []) false) (λq=>l17 G n n d rest (List.length rest:Int) [] [] [] [] [] nm sb h q.1 q.2.1 q.2.2.1 q.2.2.2.1 q.2.2.2.2.1 q.2.2.2.2.2.1 0 [] [] q.2.2.2.2.2.2 (λt3 v w y A B=>K (Md.mk (Sg.mk (So.mk v w) y) A B) t3) (λj t=>bif decide ((List.length d:Int)=0)then(K (Md.mk (Sg.mk (So.mk [] []) []) [] []) false)else(G.z0e (Md.mk (Sg.mk (So.mk nm sb) h) j t)).bind λC=>(G.z4p C d).bind λD=>bif !D then(K (Md.mk (Sg.mk (So.mk [] []) []) [] []) false)else K (Md.mk (Sg.mk (So.mk nm sb) h) j t) true)))
def dl7(m:Nat):=rS [0,2,4,6,34,35,36] [U4,Tw,.x (.p 6 0),U4,.x (.o 12),Tx,Tx] [.b [.o 1,.o 2,.o 3,.o 4,.o 5],UF,V1,V2,Vi,Vi,.b [.o 7,.o 8,.o 9,.o 10,.o 11],UF,V1,V2,Vi,Vi,UF] λR K d rest t v h1 h2 A h4 B C D E h j w=>l7 G n m d rest t h1 h2 A h4 B C D h j w v E (λy=>K (.exit 2) ⟨[(0,UC d),(2,TF),(4,.one (.p 6 0)),(6,UC rest)],[UV,Un h1,V8 h2,Us A,UN h4,UN B,.box [.o 7,.o 8,.o 9,.o 10,.o 11],Un C,V8 D,Us y,UN h,UN j]⟩)
def HO(m:Nat):=rS [0,2,4,10,66,67,68] [U4,Tw,.x (.p 6 0),.x (.p 9 0),U4,Tx,Tx] [.b [.o 1,.o 2,.o 3,.o 4,.o 5],UF,V1,V2,Vi,Vi,.b [.l .s,.l (.n 5),.l (.n 8),.o 7,.o 8],Vi,Vi,.b [.l .i,.l .i,.l .i,.l .s,.l (.n 5),.l (.n 8),.m 10],.m .i] λR K d t66 t v h1 h2 N h4 O P h j Q S T w y A B C D=>l17 G n m d t66 t h1 h2 N h4 O P h j T w y A B C v Q S D (λt3 E F H I J=>K .ret ⟨[(2,TF),(3,Tp t3)],[UV,Un E,V8 F,Us H,UN I,UN J]⟩) (λL M=>K (.exit 4) ⟨[(0,UC d),(2,TF),(4,.one (.p 6 0))],[UV,Un h1,V8 h2,Us N,UN h4,UN O,.box [.l .s P,.l (.n 5) h,.l (.n 8) j,.o 7,.o 8],UN L,UN M]⟩)
def pc:Pcs:=⟨Tl 7 (dl7 G n n) (Tl 17 (HO G n n) nK),nK,nK⟩
def an:Ann:=⟨116,0,[(7,[0,2,4,6,34,35,36]),(17,[0,2,4,10,66,67,68])],[],[2,3],[],[]⟩
abbrev bd:=aK Tryz.f9
abbrev qt:=Tj 63 bd
theorem tl{G:Gs}(v:ap (ents G)){d:LB}{rest:LB}{nm:LB}{sb:LS}{os:LO}{us:LB}{r0:Md}{t:Bool}(j:∃n,aq (R:=AT×Td Ob) G n d rest nm sb os us (λr0 t=>some (.tup [.agg [.l .s r0.sig.ai.ak,.l (.n 5) r0.sig.ai.aA,.l (.n 8) r0.sig.ops,.l (.n 14) r0.eqs,.l (.n 14) r0.rules],.one (.b t)],[]))=some (.tup [.agg [.l .s r0.sig.ai.ak,.l (.n 5) r0.sig.ai.aA,.l (.n 8) r0.sig.ops,.l (.n 14) r0.eqs,.l (.n 14) r0.rules],.one (.b t)],[])):∀[Zb]{E:Abs.Cx}{ρ:Rho}{L:Abs.Env}{h:Abs.au},E.n=116->SR ⟨[],[],[]⟩ ρ ⟨[(0,.one (.l .s d)),(2,.one (.p 0 0)),(4,.one (.p 1 0)),(5,.one (.p 2 0)),(6,.one (.l .s rest))],[.box [.nil .s,.nil (.n 5),.nil (.n 8),.nil (.n 14),.nil (.n 14)],.box [.o 3,.o 4,.o 5,.nil (.n 14),.nil (.n 14)],.box [.o 6],.row .s 0 nm,.row (.n 5) 0 sb,.row (.n 8) 0 os,.row .s 0 us]⟩ L h->Abs.aw Tryz.prog qt E (Abs.px Tryz.prog Tryz.f9 [] λr h=>∃ρ,ATR ρ [] (.tup [.agg [.l .s r0.sig.ai.ak,.l (.n 5) r0.sig.ai.aA,.l (.n 8) r0.sig.ops,.l (.n 14) r0.eqs,.l (.n 14) r0.rules],.one (.b t)]) r/\HpR ρ [] h/\Fr ⟨[],[],[]⟩ ρ [] h) L h:=let⟨n,j⟩:=j;Fl v an (pc G n) j (apl [(1,7,.loop (Tj 1012 bd)),(1,17,.loop (Tj 8180 bd))] ⟨Tf v n (dl7 G n) rfl (pc G n) ⟨[0,2,4,6],[2,3],[(2,[0,2,4,6])]⟩,⟨Tf v n (HO G n) rfl (pc G n) ⟨[0,2,4],[2,3],[(4,[0,2,4])]⟩,Th⟩⟩)
end z0q
end
end
end Go.Proofs.YtkegnipofloejaaGreatDoor.Den
namespace Go.Proofs.YtkegnipofloejaaGreatDoor.Den
open Go.RowKit
open Abs (V AV au nlV)
theorem gy{ρ:Rho}{H:Td Ob}{D:Td (Nat×AT)}{L:Abs.Env}{t:Nat}{v:AT}{h:AV}(h1:L.lookup t=some h)(h2:ATR ρ H v h)(w:cj ρ H D L):cj ρ H ((t,v)::D) L:=λj y d=>by
 rw[OK]at d;by_cases e:j=t
 .subst e;simp at d;subst d;exact⟨h,h1,h2⟩
 .rw[(R1:(j==t)=false)]at d;exact w j y d
theorem zL(l:Td Sb):FR (.l (.n 5) l) (.imm 2 (Abs.sbE l)):=
 kt (T:=.n 5) A3 (λp:Sb=>[.lit (.int .i64 p.low),.lit (.int .i64 p.cK)]) λp _=>⟨rfl,λj h1 h2=>by
  match j,h1 with
  |0,_=>exact .i
  |1,_=>exact .i⟩
def idO:V->Y Nat
 | .own k _ _=>some k
 |_=>none
def cr4(v:Nat->V)(a b c:Nat):Rho:=[some a,some b,some c,idO (v 0),idO (v 1),idO (v 2),idO (v 3)]
abbrev obT(s:Sg)(us:Td Z):Td Ob:=[.box [.nil .s,.nil (.n 5),.nil (.n 8),.nil (.n 14),.nil (.n 14)],.box [.o 3,.o 4,.o 5,.nil (.n 14),.nil (.n 14)],.box [.o 6],.row .s 0 s.ai.ak,.row (.n 5) 0 s.ai.aA,.row (.n 8) 0 s.ops,.row .s 0 us]
theorem OC{h:au}{w c0 c1:Nat}{v:Nat->V}{es:Nat->Td (Td V)}{s:Sg}{us:Td Z}(R:Abs.RdH h c0 c1 v es)(E:es 0=Abs.bP s.ai.ak/\es 1=Abs.sbE s.ai.aA/\es 2=s.ops.map Abs.opC/\es 3=Abs.bP us)(h2:h[w]? =some (some (.row 5 [Abs.zM])))(N:w≠c0)(K:w≠c1):HpR (cr4 v w c0 c1) (obT s us) h:=by
 obtain⟨L,e1,e2,e3⟩:=E
 -- a row, and O cell
 have row:∀(i:Nat)(T:Ty)(xs:Td (I T)),i<4->szT T=Abs.szR i->0<szT T->(es i).length=xs.length->FR (.l T xs) (.imm (szT T) (es i))->((∃a es',idO (v i)=some a/\h[a]? =some (some (.row (szT T) es'))/\FR (.l T xs) (.imm (szT T) es'))\/(idO (v i)=none/\xs=[]/\0<szT T)):=λi T xs hi P hp hl Q=>by
  rcases R.sl i hi with⟨q1,q2⟩|⟨k,q1,q2⟩
  .refine .inr ⟨by rw[q1];rfl,?_,hp⟩;rw[q2]at hl;exact nZ hl.symm
  .exact .inl ⟨k,_,by rw[q1];rfl,by rw[P];exact q2,Q⟩
 have cell:∀(i:Nat)(T:Ty)(xs:Td (I T)),i<4->(es i).length=xs.length->(cr4 v w c0 c1)[3+i]? =some (idO (v i))->(obT s us)[3+i]? =some (.row T 0 xs)->CR (cr4 v w c0 c1) (obT s us) (.o (3+i)) (v i):=λi T xs hi hl G ho=>by
  rcases R.sl i hi with⟨q1,q2⟩|⟨k,q1,q2⟩
  .rw[q1]at G ⊢;exact .oN G ho
  .rw[q1]at G ⊢;rw[hl];exact .o G ho
 have l0:(es 0).length=s.ai.ak.length:=by rw[L,OV]
 have l1:(es 1).length=s.ai.aA.length:=by rw[e1,OV]
 have l2:(es 2).length=s.ops.length:=by rw[e2,OV]
 have l3:(es 3).length=us.length:=by rw[e3,OV]
 have S:=cell 0 .s s.ai.ak A3 l0 rfl rfl;have k1:=cell 1 (.n 5) s.ai.aA A3 l1 rfl rfl;have U:=cell 2 (.n 8) s.ops A3 l2 rfl rfl;have W:=cell 3 .s us A3 l3 rfl rfl;have C:∀i,i<4->idO (v i)≠some w:=λi hi e=>by
  rcases R.sl i hi with⟨q1,_⟩|⟨k,q1,q2⟩
  .rw[q1]at e;cases e
  .rw[q1]at e;cases e;rw[h2]at q2
   match i,hi with
   |0,_=>exact absurd q2 nofun
   |1,_=>exact absurd q2 nofun
   |3,_=>exact absurd q2 nofun
   | 2,_=>
    injection q2 with q2
    injection q2 with q2
    injection q2 with _ q2
    rw[e2]at q2
    match hs:s.ops,q2 with
    |[o],q2=>exact absurd q2 nofun
 have t:∀i k,idO (v i)=some k->k∈Abs.idK (v i):=λi k e=>by
  cases X:v i<;>rw[X]at e<;>first|(cases e;simp[Abs.idK])|cases e
 refine⟨rfl,λid n T xs d=> ?_,λid cs d=> ?_,λid T kvs d=> ?_,λi j a h1 F _ _=> ?_,λi a hi=> ?_⟩
 .match id,d with
  |3,d=>cases d;exact row 0 .s s.ai.ak A3 rfl A3 l0 (by rw[L];exact fx _) |>.imp (λ⟨a,es',p,q⟩=>⟨a,es',congrArg some p,q⟩) λ⟨p,q⟩=>⟨congrArg some p,q⟩
  |4,d=>cases d;exact row 1 (.n 5) s.ai.aA A3 rfl A3 l1 (by rw[e1];exact zL _) |>.imp (λ⟨a,es',p,q⟩=>⟨a,es',congrArg some p,q⟩) λ⟨p,q⟩=>⟨congrArg some p,q⟩
  |5,d=>cases d;exact row 2 (.n 8) s.ops A3 rfl A3 l2 (by rw[e2];exact vw _) |>.imp (λ⟨a,es',p,q⟩=>⟨a,es',congrArg some p,q⟩) λ⟨p,q⟩=>⟨congrArg some p,q⟩
  |6,d=>cases d;exact row 3 .s us A3 rfl A3 l3 (by rw[e3];exact fx _) |>.imp (λ⟨a,es',p,q⟩=>⟨a,es',congrArg some p,q⟩) λ⟨p,q⟩=>⟨congrArg some p,q⟩
  |id+7,d=>simp[obT]at d
 .match id,d with
  | 0, d=>
   cases d;exact⟨w,Abs.zM,rfl,h2,rfl,λj h1 h2=>by
    match j,h1 with
    |0,_=>exact .nil A3
    |1,_=>exact .nil A3
    |2,_=>exact .nil A3
    |3,_=>exact .nil A3
    |4,_=>exact .nil A3⟩
  | 1, d=>
   cases d;exact⟨c0,[v 0,v 1,v 2,nlV,nlV],rfl,R.m,rfl,λj h1 h2=>by
    match j,h1 with
    |0,_=>exact S
    |1,_=>exact k1
    |2,_=>exact U
    |3,_=>exact .nil A3
    |4,_=>exact .nil A3⟩
  | 2, d=>
   cases d;exact⟨c1,[v 3],rfl,R.u,rfl,λj h1 h2=>by
    match j,h1 with
    |0,_=>exact W⟩
  |id+7,d=>simp[obT]at d
 .match id,d with
  |id+7,d=>simp[obT]at d
 .have key:∀i,i<7->(cr4 v w c0 c1)[i]? =some (some a)->(i=0/\a=w)\/(i=1/\a=c0)\/(i=2/\a=c1)\/(∃q,q<4/\i=3+q/\idO (v q)=some a):=λi hi e=>by
   match i,hi with
   |0,_=>cases e;exact .inl ⟨rfl,rfl⟩
   |1,_=>cases e;exact .inr (.inl ⟨rfl,rfl⟩)
   |2,_=>cases e;exact .inr (.inr (.inl ⟨rfl,rfl⟩))
   |3,_=>exact .inr (.inr (.inr ⟨0,A3,rfl,Pf e⟩))
   |4,_=>exact .inr (.inr (.inr ⟨1,A3,rfl,Pf e⟩))
   |5,_=>exact .inr (.inr (.inr ⟨2,A3,rfl,Pf e⟩))
   |6,_=>exact .inr (.inr (.inr ⟨3,A3,rfl,Pf e⟩))
  have H:=(gI.1 h1).1;have J:=(gI.1 F).1;have d01:=R.d01;rcases key i H h1 with⟨rfl,y⟩|⟨rfl,y⟩|⟨rfl,y⟩|⟨q,D,rfl,y⟩<;>rcases key j J F with⟨rfl,A⟩|⟨rfl,A⟩|⟨rfl,A⟩|⟨M,B,rfl,A⟩
  all_goals first
   |rfl
   |(exfalso;omega)
   |(exfalso;subst y;exact C _ B A)
   |(exfalso;subst A;exact C _ D y)
   |(exfalso;subst y;exact(R.dc _ B).1 (t _ _ A))
   |(exfalso;subst y;exact(R.dc _ B).2 (t _ _ A))
   |(exfalso;subst A;exact(R.dc _ D).1 (t _ _ y))
   |(exfalso;subst A;exact(R.dc _ D).2 (t _ _ y))
   | (by_cases e:q=M
      ·rw[e]
      ·exact absurd (t _ _ A) (R.dj q M a D B e (t _ _ y)))
 .have get:∀{a:Nat}{o:Abs.Ob},h[a]? =some (some o)->a<h.length:=λe=>(gI.1 e).1;have own:∀q,q<4->idO (v q)=some a->a<h.length:=λq D e=>R.lt D (t _ _ e)
  match i,hi with
  |0,hi=>cases hi;exact get h2
  |1,hi=>cases hi;exact get R.m
  |2,hi=>cases hi;exact get R.u
  |3,hi=>exact own 0 A3 (Pf hi)
  |4,hi=>exact own 1 A3 (Pf hi)
  |5,hi=>exact own 2 A3 (Pf hi)
  |6,hi=>exact own 3 A3 (Pf hi)
  |i+7,hi=>simp[cr4]at hi
end Go.Proofs.YtkegnipofloejaaGreatDoor.Den
namespace Go.Proofs.YtkegnipofloejaaGreatDoor.Abs
open Go.RowKit
open Den (bC gg lm wOp rdF mN z0)
set_option maxRecDepth 20000 in
theorem Ow{d C rest:Td Z}{H:Den.Sg}{D:Td Z}(hl:d=C++rest)(hd:mN (C.map bC) z0 []=some (H,D))(I:rest=[]\/∃b tl a ws,rest=b::tl/\bC b=a::ws/\a≠gg/\a≠lm/\a≠wOp)
  (hs:∀b∈d,b.size<4294967281) {G:Den.z0q.Gs} (hG:Den.nr Tryz.prog (Den.z0q.ents G)) {m:Den.Md} {p:Bool} (hm:∃n,Den.z0q.aq (R:=Den.AT×Td Den.Ob) G n d rest H.ai.ak H.ai.aA H.ops D (λr0 r1=>some (.tup [.agg [.l .s r0.sig.ai.ak,.l (.n 5) r0.sig.ai.aA,.l (.n 8) r0.sig.ops,.l (.n 14) r0.eqs,.l (.n 14) r0.rules],.one (.b r1)],[]))=some (.tup [.agg [.l .s m.sig.ai.ak,.l (.n 5) m.sig.ai.aA,.l (.n 8) m.sig.ops,.l (.n 14) m.eqs,.l (.n 14) m.rules],.one (.b p)],[])):
  Fn Tryz.prog 9 [.one (.imm 1 (bP d))] [] (λr _=>Den.ATR [] [] (.tup [.agg [.l .s m.sig.ai.ak,.l (.n 5) m.sig.ai.aA,.l (.n 8) m.sig.ops,.l (.n 14) m.eqs,.l (.n 14) m.rules],.one (.b p)]) r):=by
 obtain⟨h,O⟩:∃h:au,h=[]:=⟨_,rfl⟩;rw[<-O];refine cW Tryz.func9 rfl rfl (O1 rfl) λE M=>fh ?_
 replace M:E.n=116:=M;have hE:=M
 have hN:h.length=h.length:=rfl;refine Ws ?_;have h0:h.length=0:=by rw[O];rfl
 have RS:∀g:au,RdS (h++([some (.row 5 [zM]),some (.row 5 [zM]),some (.row 1 []),some (.row 1 [[.own (h.length+2) 0 0]])]++g)) (h.length+1) (h.length+3) z0 []:=λg=>by
  subst O;refine⟨λ|3=>.own 2 0 0|_=>nlV,λ_=>[],⟨rfl,rfl,λi hi=> ?_,λi j k hi hj T h1 h2=> ?_,λi hi=> ?_,A3⟩,rfl,rfl,⟨rfl,λj h1=>absurd h1 (OM _)⟩,rfl⟩
  .match i,hi with
   |0,_=>exact .inl ⟨rfl,rfl⟩
   |1,_=>exact .inl ⟨rfl,rfl⟩
   |2,_=>exact .inl ⟨rfl,rfl⟩
   |3,_=>exact .inr ⟨2,rfl,rfl⟩
  .match i,j,hi,hj with
   |3,3,_,_=>exact T rfl
   |0,_,_,_=>simp[idK]at h1
   |1,_,_,_=>simp[idK]at h1
   |2,_,_,_=>simp[idK]at h1
   |3,0,_,_=>simp[idK]at h2
   |3,1,_,_=>simp[idK]at h2
   |3,2,_,_=>simp[idK]at h2
  .match i,hi with
   |0,_=>simp[idK]
   |1,_=>simp[idK]
   |2,_=>simp[idK]
   |3,_=>simp[idK]
 refine gk (Q:=λe L h'=>e= .exit 0/\∃L',Sub L' L/\L'=[(0,.one (.imm 1 (bP d))),(2,.one (.ptr (h.length+0) 0 0)),(3,.one (.lit (.bool false))),(4,.one (.ptr (h.length+1) 0 0)),(5,.one (.ptr (h.length+3) 0 0)),(6,.one (.imm 1 (bP rest)))]/\RdS h' (h.length+1) (h.length+3) H D/\h'[h.length+0]? =some (some (.row 5 [zM]))) ?_ ?_
 .rintro e L h' ⟨rfl,L',N,rfl,R,A⟩;obtain⟨h2,v,es,S,U,⟨en,V,eo,eu⟩,J⟩:=R.canon (L:=[(0,.one (.imm 1 (bP d))),(2,.one (.ptr (h.length+0) 0 0)),(3,.one (.lit (.bool false))),(4,.one (.ptr (h.length+1) 0 0)),(5,.one (.ptr (h.length+3) 0 0)),(6,.one (.imm 1 (bP rest)))]) A A0;refine wc (fU (cB N (dJ S ?_)));subst O
  have W:Den.SR ⟨[],[],[]⟩ (Den.cr4 v 0 1 3) ⟨[(0,.one (.l .s d)),(2,.one (.p 0 0)),(4,.one (.p 1 0)),(5,.one (.p 2 0)),(6,.one (.l .s rest))],Den.obT H D⟩ [(0,.one (.imm 1 (bP d))),(2,.one (.ptr 0 0 0)),(3,.one (.lit (.bool false))),(4,.one (.ptr 1 0 0)),(5,.one (.ptr 3 0 0)),(6,.one (.imm 1 (bP rest)))] h2:=
   ⟨Den.gy rfl (.one (.fl (Den.fx d))) (Den.gy rfl (.one (.p rfl)) (Den.gy rfl (.one (.p rfl)) (Den.gy rfl (.one (.p rfl)) (Den.gy rfl (.one (.fl (Den.fx rest))) fun t v hv=>by simp at hv)))),
    Den.OC U ⟨en,V,eo,eu⟩ J A3 A3,⟨P6 _,λ_ a _ _ K=>absurd K (OM _),λa K=>absurd K (OM _),λid x K=>by simp at K,λid x K=>by simp at K⟩,
    Den.XR.none_ λid y B=>by
     match id,B with
     |0,B=>cases B;rfl
     |1,B=>cases B;rfl
     |2,B=>cases B;rfl
     |3,B=>cases B;rfl
     |4,B=>cases B;rfl
     |5,B=>cases B;rfl
     |6,B=>cases B;rfl⟩
  exact gk (λ_ _ _ k=>Den.pN (λr h ⟨ρ,q,hp,_⟩=>by
   have e:ρ=[]:=nZ hp.len;rw[e]at q;exact q) k) (Den.z0q.tl hG hm M W)
 refine oh (λq L h'=>∃(k:Nat)(s:Den.Sg)(us:Td Z),q=C.length-k/\k<=C.length/\RdS h' (h.length+1) (h.length+3) s us/\h'[h.length+0]? =some (some (.row 5 [zM]))/\mN ((C.drop k).map bC) s us=some (H,D)/\L=[(0,.one (.imm 1 (bP d))),(2,.one (.ptr (h.length+0) 0 0)),(3,.one (.lit (.bool false))),(4,.one (.ptr (h.length+1) 0 0)),(5,.one (.ptr (h.length+3) 0 0)),(6,.one (.imm 1 (bP (d.drop k))))]) (n:=C.length-0)
  (L0:=[(0,.one (.imm 1 (bP d))),(2,.one (.ptr (h.length+0) 0 0)),(3,.one (.lit (.bool false))),(4,.one (.ptr (h.length+1) 0 0)),(5,.one (.ptr (h.length+3) 0 0)),(6,.one (.imm 1 (bP (d.drop 0))))]) ?_ ?_ ?_
 .exact ag rfl (ag rfl (ag rfl (ag rfl (ag rfl (ag rfl (aZ _))))))
 .exact⟨0,z0,[],rfl,P6 _,RS [],cd rfl rfl,hd,rfl⟩
 .rintro q L h' ⟨k,s,us,rfl,hk,R,A,w,rfl⟩;have hN:h'.length=h'.length:=rfl;have lk:(d.drop k).length=d.length-k:=Pi;by_cases F:k<C.length
  .obtain⟨b,P⟩:∃b,C[k]? =some b:=⟨_,O0 F⟩;have ed:C.drop k=b::C.drop (k+1):=by
    rw[Q7 F]
    congr 1
    rw[O0 F]at P;exact Pf P
   have el:d.drop k=b::d.drop (k+1):=by
    have h1:k<d.length:=by rw[hl];simp;omega
    rw[Q7 h1]
    congr 1
    have:d[k]?=some b:=by rw[hl,aL F];exact P
    rw[O0 h1]at this;exact Pf this
   have q1:bg .gtr ((List.length (α:=Z) (b::d.drop (k+1)):Nat):Int) 0=true:=by unfold bg;exact dT Ib
   have X:b∈d:=by rw[hl];exact List.mem_append_left _ (mG P)
   rw[ed,Pz]at w;unfold mN at w;split at w
   .rename_i hc;obtain⟨⟨s1,Y⟩,e1,e2⟩:=Option.bind_eq_some_iff.1 w;rw[el];refine Ws ?_;refine kj rfl rfl rfl RV ?_;have call:=JP (hs b X) R hc e1 A A0;refine BR rfl (aD M rfl) call λr h2 hR=> ?_;obtain⟨er,U,hb2⟩:=hR;subst er;refine Ws ?_;refine iz rfl rfl ?_;refine Ws ?_;refine aI rfl ?_;refine iv (kh:=.i64) (lo:=1) (hi:=(bP (b::d.drop (k+1))).length) ax rfl rfl rfl A3 (.inr ⟨_,rfl,rfl⟩) (.inl ⟨rfl,rfl⟩) A1 (O3 _) (aD M rfl) ?_;rw[Q0,show (bP (b::d.drop (k+1))).drop 1=bP (d.drop (k+1))from rfl];refine Ws ?_;exact⟨C.length-(k+1),[(0,.one (.imm 1 (bP d))),(2,.one (.ptr (h.length+0) 0 0)),(3,.one (.lit (.bool false))),(4,.one (.ptr (h.length+1) 0 0)),(5,.one (.ptr (h.length+3) 0 0)),(6,.one (.imm 1 (bP (d.drop (k+1)))))],A0,ag rfl (ag rfl (ag rfl (ag rfl (ag rfl (ag rfl (aZ _)))))),k+1,s1,Y,rfl,F,U,hb2,e2,rfl⟩
   .cases w
  .have ek:k=C.length:=A0
   subst ek;have er:d.drop C.length=rest:=by rw[hl];simp
   rw[er];rw[List.drop_length]at w;obtain⟨rfl,rfl⟩:s=H/\us=D:=by
    have:=Pf w;exact⟨congrArg Prod.fst this,congrArg Prod.snd this⟩
   rcases I with rfl|⟨b,tl,a,ws,rfl,hw,ha⟩
   .exact S6
   .have q1:bg .gtr ((List.length (α:=Z) (b::tl):Nat):Int) 0=true:=by unfold bg;exact dT Ib
    refine Ws ?_;refine kj rfl rfl rfl RV ?_;refine bL rfl (aD M rfl) (I6 hw ha (hs b (by rw[hl];simp))) ?_;exact S6
end Go.Proofs.YtkegnipofloejaaGreatDoor.Abs
namespace Go.Proofs.YtkegnipofloejaaGreatDoor.Den
open Go.RowKit
set_option maxRecDepth 100000
set_option linter.unusedVariables false
noncomputable section
namespace z2b
structure Gs where
 z28:z28.Q
def ents(G:Gs):Td Ent:=[z28.ent G.z28]
def d11{R:Type}(G:Gs)(n:Nat)(i:Int)(h0:LB)(t:LS)(h:LO)(h1:LB)(v:LS)(j:LO)(w:Z->LD->Bool->Bool->Int->Z->LD->Bool->Bool->Int->Y R):Y R:=(ix h i).bind λe2=>(ix j i).bind λd=>w e2.ah e2.aJ e2.aE e2.comm e2.aO d.ah d.aJ d.aE d.comm d.aO
def Gl{R:Type}(G:Gs)(n:Nat)(i:Int)(h0:LB)(t:LS)(h:LO)(h1:LB)(v:LS)(j:LO)(w:Z->LD->Bool->Bool->Int->Z->LD->Bool->Bool->Int->Y R):Y R:=
 (ix h i).bind λe2=>
 (ix j i).bind λd=>
 w e2.ah e2.aJ e2.aE e2.comm e2.aO d.ah d.aJ d.aE d.comm d.aO
theorem N7{R:Type}(G:Gs)(n:Nat)(i:Int)(h0:LB)(j:LS)(d:LO)(h1:LB)(t:LS)(h:LO)(v:Z->LD->Bool->Bool->Int->Z->LD->Bool->Bool->Int->Y R):Gl G n i h0 j d h1 t h v=d11 G n i h0 j d h1 t h v:=by
 unfold Gl d11;generalize ix d i=w;generalize ix h i=y;cases w<;>cases y<;>first|rfl|simp
def b15{R:Type}(G:Gs)(n:Nat)(i:Int)(h0:LB)(t:LS)(v:LO)(h1:LB)(w:LS)(y:LO)(h2:Z)(d:LD)(A B:Bool)(C:Int)(M:Z)(h:LD)(D E:Bool)(F k:Int)(H:Int->Y R)(j:Bool->Y R)(k1:Y R):Y R:=bif decide (k<(List.length d:Int))then((ix d k).bind λe2=>(ix h k).bind λI=>bif !decide (e2.result=I.result)then(j false)else(ix d k).bind λJ=>(ix h k).bind λK=>(G.z28 J.ae K.ae).bind λL=>bif !L then(j false)else H (wr (k+1)))else k1
variable{R:Type}(G:Gs)(n:Nat)
def l15(m:Nat)(i:Int)(h0:LB)(d:LS)(h:LO)(h1:LB)(j:LS)(t:LO)(h2:Z)(w:LD)(y A:Bool)(B:Int)(H:Z)(C:LD)(D E:Bool)(F k:Int)(I:Bool->Y R)(k1:Y R):Y R:=aY (λ(v:Int) J=>b15 G n i h0 d h h1 j t h2 w y A B H C D E F v (λK=>J K) I k1) m k
def b9(h0:LB)(j:LS)(d:LO)(h1:LB)(t:LS)(v:LO)(i:Int)(I:Int->Y R)(h:Bool->Y R)(k1:Y R):Y R:=bif decide (i<(List.length d:Int))then(d11 G n i h0 j d h1 t v (λh2 w y A B H C D E F=>bif !sEq h2 H then(h false)else bif !(y==D)then(h false)else bif !(A==E)then(h false)else bif !decide (B=F)then(h false)else bif !decide ((List.length w:Int)=(List.length C:Int))then(h false)else l15 G n n i h0 j d h1 t v h2 w y A B H C D E F 0 (λt4=>h t4) (I (wr (i+1)))))else k1
def l9(m:Nat)(h0:LB)(d:LS)(h:LO)(h1:LB)(j:LS)(t:LO)(i:Int)(w:Bool->Y R)(k1:Y R):Y R:=aY (λ(v:Int) y=>b9 G n h0 d h h1 j t v (λA=>y A) w k1) m i
def aq(d:LB)(s1:LS)(h:LO)(j:LB)(s2:LS)(t:LO)(K:Bool->Y R):Y R:=l9 G n n d s1 h j s2 t 0 (λt4=>K t4) (K true)
def IO(G:Gs)(n:Nat)(R:Type)(st:St)(K:Kt R):Y R:=match st with
 |⟨[(2,.one (.p 0 0)),(3,.one (.p 1 0)),(6,.one (.i i))],[.box [.l .s h0,.l (.n 5) d,.l (.n 8) h],.box [.l .s h1,.l (.n 5) j,.l (.n 8) t]]⟩=>d11 G n i h0 d h h1 j t (λh2 v w y A F B C D E=>K .normal ⟨[(2,TF),(3,TR),(6,Tv i),(7,Ua),(8,UK)],[TP h0 d h,TP h1 j t,TV h2 v w y A,TV F B C D E]⟩)
 |_=>none
def yI(m:Nat):=rS [2,3,6,7,8,9] [Tw,TQ,Tx,U1,Ul,Tx] [TB,TB,TD,TD] λR K i k h0 d h h1 j t h2 v w y A F B C D E=>l15 G n m i h0 d h h1 j t h2 v w y A F B C D E k (λt4=>K .ret ⟨Uj t4,[]⟩) (K (.exit 4) ⟨[(2,TF),(3,TR),(6,Tv i)],[TP h0 d h,TP h1 j t]⟩)
def dl9(m:Nat):=rS [2,3,6] [Tw,TQ,Tx] [TB,TB] λR K i h0 d h h1 j t=>l9 G n m h0 d h h1 j t i (λt4=>K .ret ⟨Uj t4,[]⟩) (K (.exit 2) ⟨[],[]⟩)
def pc:Pcs:=⟨Tl 15 (yI G n n) (Tl 9 (dl9 G n n) nK),nK,Tl 11 (IO G n) nK⟩
def an:Ann:=⟨147,0,[(15,[2,3,6,7,8,9]),(9,[2,3,6])],[],[4],[(11,⟨[([10,11,0,1,2,3,4,12,5,6,7,8,9,13],[10,11,12,13],[]),([11,10,0,1,2,3,4,12,5,6,7,8,9,13],[11,10,12,13],[])],[10,11,12,13],[],[0,1],[2,3,6]⟩),(17,⟨[(Te 29,[],[])],[],[],(Te 4),[]⟩)],[]⟩
abbrev bd:=aK Tryz.f10
abbrev q11:=Tj 3912 bd
theorem Of(G:Gs)(n:Nat)(R:Type)(i:Int)(h0:LB)(h:LS)(j:LO)(h1:LB)(t:LS)(v:LO)(K:Kt R):(λS:St=>(λd:St=>dW tb (de (ents G)) an.nt an.im (fq (q11)) (fe [0,1] d.H) [10,11,0,1,2,3,4,12,5,6,7,8,9,13] [10,11,12,13] [] [] [10,11,0,1,2,3,4,12,5,6,7,8,9,13] d.L d.H d.H λL H=>jd an.refs ⟨[2,3,6,7,8],[4],[(2,[]),(3,[2,3,6])]⟩ K .normal ⟨L,H⟩) (cR (bE (St.L S) (St.H S) []) S)=IO G n R S K) ⟨[(2,.one (.p 0 0)),(3,.one (.p 1 0)),(6,.one (.i i))],[.box [.l .s h0,.l (.n 5) h,.l (.n 8) j],.box [.l .s h1,.l (.n 5) t,.l (.n 8) v]]⟩:=Re
theorem OB(G:Gs)(n:Nat)(R:Type)(i:Int)(h0:LB)(d:LS)(h:LO)(h1:LB)(j:LS)(t:LO)(K:Kt R):(λv:St=>dW tb (de (ents G)) an.nt an.im (fq (q11)) (fe [0,1] v.H) [11,10,0,1,2,3,4,12,5,6,7,8,9,13] [11,10,12,13] [] [] [11,10,0,1,2,3,4,12,5,6,7,8,9,13] v.L v.H v.H λL H=>jd an.refs ⟨[2,3,6,7,8],[4],[(2,[]),(3,[2,3,6])]⟩ K .normal ⟨L,H⟩) (cR (bE (St.L ⟨[(2,.one (.p 0 0)),(3,.one (.p 1 0)),(6,.one (.i i))],[.box [.l .s h0,.l (.n 5) d,.l (.n 8) h],.box [.l .s h1,.l (.n 5) j,.l (.n 8) t]]⟩) (St.H ⟨[(2,.one (.p 0 0)),(3,.one (.p 1 0)),(6,.one (.i i))],[.box [.l .s h0,.l (.n 5) d,.l (.n 8) h],.box [.l .s h1,.l (.n 5) j,.l (.n 8) t]]⟩) []) ⟨[(2,.one (.p 0 0)),(3,.one (.p 1 0)),(6,.one (.i i))],[.box [.l .s h0,.l (.n 5) d,.l (.n 8) h],.box [.l .s h1,.l (.n 5) j,.l (.n 8) t]]⟩)=Gl G n i h0 d h h1 j t (λh2 w y A B I C D E F=>K .normal ⟨[(2,.one (.p 0 0)),(3,.one (.p 1 0)),(6,.one (.i i)),(7,.one (.p 2 0)),(8,.one (.p 3 0))],[.box [.l .s h0,.l (.n 5) d,.l (.n 8) h],.box [.l .s h1,.l (.n 5) j,.l (.n 8) t],.box [.s h2,.l (.n 7) w,.b y,.b A,.i B],.box [.s I,.l (.n 7) C,.b D,.b E,.i F]]⟩):=D1
theorem pd11{G:Gs}(C:ap (ents G)){n:Nat}:al an (q11) (IO G n):=by
 have hc:q11= .region 11 (fq (q11)) true:=D1
 rw[hc];refine λ[Zb]=>ju mixed kX (jp C) (o:=⟨[2,3,6,7,8],[4],[(2,[]),(3,[2,3,6])]⟩) (d:=⟨[([10,11,0,1,2,3,4,12,5,6,7,8,9,13],[10,11,12,13],[]),([11,10,0,1,2,3,4,12,5,6,7,8,9,13],[11,10,12,13],[])],[10,11,12,13],[],[0,1],[2,3,6]⟩) D1 (λp hp R st K r h=> ?_)
 have e:=h;unfold IO at e;split at e
 .rename_i j t v w y A B;simp only[OI,O9,or_false]at hp;rcases hp with rfl|rfl
  .exact(Of G n R j t v w y A B K).trans h
  .exact((OB G n R j t v w y A B K).trans (N7 G n j t v w y A B _)).trans h
 .cases e
abbrev qt:=Tj 15 bd
theorem tl{G:Gs}(d:ap (ents G)){t:LB}{s1:LS}{v:LO}{w:LB}{s2:LS}{y:LO}{r0:Bool}(j:∃n,aq (R:=AT×Td Ob) G n t s1 v w s2 y (λr0=>some (.one (.b r0),[]))=some (.one (.b r0),[])):∀[Zb]{E:Abs.Cx}{ρ:Rho}{L:Abs.Env}{h:Abs.au},E.n=147->SR ⟨[],[],[]⟩ ρ ⟨[(2,.one (.p 0 0)),(3,.one (.p 1 0))],[.box [.l .s t,.l (.n 5) s1,.l (.n 8) v],.box [.l .s w,.l (.n 5) s2,.l (.n 8) y]]⟩ L h->Abs.aw Tryz.prog qt E (Abs.px Tryz.prog Tryz.f10 [] λr h=>∃ρ,ATR ρ [] (.one (.b r0)) r/\HpR ρ [] h/\Fr ⟨[],[],[]⟩ ρ [] h) L h:=let⟨n,j⟩:=j;Fl d an (pc G n) j (apl [(1,9,.loop (Tj 244 bd))] ⟨Tf d n (dl9 G n) rfl (pc G n) ⟨[],[4],[(2,[])]⟩ (apl [(2,11,q11),(1,15,.loop (Tj 62620 bd))] ⟨pd11 d,⟨Tf d n (yI G n) rfl (pc G n) ⟨[2,3,6],[4],[(2,[]),(3,[2,3,6]),(4,[2,3,6])]⟩,Th⟩⟩),Th⟩)
end z2b
end
end Go.Proofs.YtkegnipofloejaaGreatDoor.Den

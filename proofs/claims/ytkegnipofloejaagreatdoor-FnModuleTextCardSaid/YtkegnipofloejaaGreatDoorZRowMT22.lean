/- merged -/
import Derived.Test.YtkegnipofloejaaGreatDoorZRowMT9
import Derived.Test.YtkegnipofloejaaGreatDoorZRowMT19
import Derived.Test.YtkegnipofloejaaGreatDoorZRowMT21

namespace Go.Proofs.YtkegnipofloejaaGreatDoor.Den
open Go.RowKit
section
set_option maxRecDepth 100000
set_option linter.unusedVariables false
noncomputable section
namespace z30
structure Gs where
 z4f:z4f.Q
 z47:z47.Q
 z48:z48.Q
def aq{R:Type}(G:Gs)(n:Nat)(s:Sg)(a b:Tm)(K:Bool->Y R):Y R:=(G.z4f (Tm.mk a.op a.ah a.am a.ae)).bind λj=>bif j then((G.z47 s (Tm.mk a.op a.ah a.am a.ae)).bind λt=>bif t then((G.z4f (Tm.mk b.op b.ah b.am b.ae)).bind λv=>bif v then((G.z47 s (Tm.mk b.op b.ah b.am b.ae)).bind λw=>bif w then((G.z48 s (Tm.mk a.op a.ah a.am a.ae)).bind λd=>(G.z48 s (Tm.mk b.op b.ah b.am b.ae)).bind λh=>K (decide (d=h)))else K false)else K false)else K false)else K false
theorem ok{G:Gs}(d:ap [z4f.ent G.z4f,z47.ent G.z47,z48.ent G.z48]){g:Q}(h:∀s a b r,g s a b=some r->∃n,aq G n s a b Vn=Vn r):aj (ent g):=okQ λ_ _ _ _ _ _ _ _ _ _ _ _ _ _ hc=>Tk hc (h _ _ _) λ_ _ j=>fF d ⟨32,0,[],[],[6],[(1,⟨[(Te 26,[],[])],[],[],[0,1,2],[]⟩)],[]⟩ nP Tryz.func39 j
end z30
namespace z34
structure Gs where
 z2v:z2v.Q
 z3y:z3y.Q
def ents(G:Gs):Td Ent:=[z2v.ent G.z2v,z3y.ent G.z3y]
def b7{R:Type}(G:Gs)(n:Nat)(vars list:LT)(i:Int)(d:Bool)(k:Int)(j:Bool->Int->Y R)(t:Bool->Y R):Y R:=bif decide (k<(List.length vars:Int))then(bif d then(j true (wr (k+1)))else(ix list i).bind λe2=>(ix vars k).bind λh=>(G.z3y (Tm.mk e2.op e2.ah e2.am e2.ae) (Tm.mk h.op h.ah h.am h.ae)).bind λv=>j v (wr (k+1)))else t d
variable{R:Type}(G:Gs)(n:Nat)
def l7(m:Nat)(vars list:LT)(i:Int)(d:Bool)(k:Int)(h:Bool->Y R):Y R:=aY (λ(v:Bool×Int) j=>b7 G n vars list i v.1 v.2 (λt w=>j (t,w)) h) m (d,k)
def b3(vars list:LT)(i:Int)(h:Int->Y R)(j:Bool->Y R)(k1:Y R):Y R:=bif decide (i<(List.length list:Int))then(l7 G n n vars list i false 0 (λd=>bif !d then(j false)else h (wr (i+1))))else k1
def l3(m:Nat)(vars list:LT)(i:Int)(d:Bool->Y R)(k1:Y R):Y R:=aY (λ(v:Int) h=>b3 G n vars list v (λj=>h j) d k1) m i
def aq(t:Tm)(vars:LT)(K:Bool->Y R):Y R:=(G.z2v (Tm.mk t.op t.ah t.am t.ae)).bind λr=>l3 G n n vars r 0 (λt4=>K t4) (K true)
def dl7(m:Nat):=rS [1,5,6,7,8] [TL,TL,Tx,UD,Tx] [] λR K vars list i h k=>l7 G n m vars list i h k (λd=>K (.exit 2) ⟨[(1,TO vars),(5,TO list),(6,Tv i),(7,Tp d)],[]⟩)
def dl3(m:Nat):=rS [1,5,6] [TL,TL,Tx] [] λR K vars list i=>l3 G n m vars list i (λt4=>K .ret ⟨Uj t4,[]⟩) (K (.exit 0) ⟨[],[]⟩)
def pc:Pcs:=⟨Tl 7 (dl7 G n n) (Tl 3 (dl3 G n n) nK),nK,nK⟩
def an:Ann:=⟨37,0,[(7,[1,5,6,7,8]),(3,[1,5,6])],[],[4],[(9,⟨[(Te 13,[],[])],[],[],[],[]⟩)],[]⟩
abbrev bd:=aK Tryz.f41
theorem ok{G:Gs}(d:ap (ents G)){g:Q}(h:∀t vars r,g t vars=some r->∃n,aq G n t vars Vn=Vn r):aj (ent g):=okQ λ_ _ _ _ _ _ _ _ hc=>Tk hc (h _ _) λn _ j=>fF d an (pc G n) Tryz.func41 j (apl [(1,3,.loop (Tj 116 bd))] ⟨Tf d n (dl3 G n) rfl (pc G n) ⟨[],[4],[(0,[])]⟩ (apl [(1,7,.loop (Tj 29844 bd))] ⟨Tf d n (dl7 G n) rfl (pc G n) ⟨[1,5,6,7],[4],[(0,[]),(1,[1,5,6]),(2,[1,5,6,7])]⟩,Th⟩),Th⟩)
end z34
namespace z2j
structure Gs where
 z2p:z2p.Q
 z30:z30.Q
 z2v:z2v.Q
 z34:z34.Q
def ents(G:Gs):Td Ent:=[z2p.ent G.z2p,z30.ent G.z30,z2v.ent G.z2v,z34.ent G.z34]
def b7{R:Type}(G:Gs)(n:Nat)(vars:LT)(h0:LB)(h:LS)(j:LO)(h1:Int)(v:Z)(w:Int)(y:LT)(A:Int)(B:Z)(C:Int)(D:LT)(d:LK)(i:Int)(E:Int->Y R)(t:Bool->Y R)(k1:Y R):Y R:=bif decide (i<(List.length d:Int))then((ix d i).bind λe=>(G.z30 (Sg.mk (So.mk h0 h) j) (Tm.mk e.left.op e.left.ah e.left.am e.left.ae) (Tm.mk e.right.op e.right.ah e.right.am e.right.ae)).bind λr=>bif !r then(t false)else(G.z34 (Tm.mk e.left.op e.left.ah e.left.am e.left.ae) vars).bind λF=>bif !F then(t false)else(G.z34 (Tm.mk e.right.op e.right.ah e.right.am e.right.ae) vars).bind λH=>bif !H then(t false)else E (wr (i+1)))else k1
variable{R:Type}(G:Gs)(n:Nat)
def l7(m:Nat)(vars:LT)(h0:LB)(d:LS)(h:LO)(h1:Int)(j:Z)(t:Int)(w:LT)(y:Int)(A:Z)(B:Int)(C:LT)(D:LK)(i:Int)(E:Bool->Y R)(k1:Y R):Y R:=aY (λ(v:Int) F=>b7 G n vars h0 d h h1 j t w y A B C D v (λH=>F H) E k1) m i
def aq(s:Sg)(e:Eqn)(K:Bool->Y R):Y R:=(G.z2p s).bind λr=>bif !r then(K false)else(G.z30 s (Tm.mk e.left.op e.left.ah e.left.am e.left.ae) (Tm.mk e.right.op e.right.ah e.right.am e.right.ae)).bind λh=>bif !h then(K false)else bif decide (e.left.op=(-1))then(K false)else bif decide (2<(List.length e.bJ:Int))then(K false)else(G.z2v (Tm.mk e.left.op e.left.ah e.left.am e.left.ae)).bind λd=>bif decide (5<(List.length d:Int))then(K false)else(G.z34 (Tm.mk e.right.op e.right.ah e.right.am e.right.ae) d).bind λj=>bif !j then(K false)else l7 G n n d s.ai.ak s.ai.aA s.ops e.left.op e.left.ah e.left.am e.left.ae e.right.op e.right.ah e.right.am e.right.ae e.bJ 0 (λt4=>K t4) (K true)
def dl7(m:Nat):=rS [2,3,5,6] [Tw,TQ,TL,Tx] [TB,Uw] λR K vars i h0 d h h1 j t v w y A B C=>l7 G n m vars h0 d h h1 j t v w y A B C i (λt4=>K .ret ⟨Uj t4,[]⟩) (K (.exit 0) ⟨[],[]⟩)
def pc:Pcs:=⟨Tl 7 (dl7 G n n) nK,nK,nK⟩
def an:Ann:=⟨78,0,[(7,[2,3,5,6])],[],[4],[],[]⟩
abbrev bd:=aK Tryz.f18
theorem ok{G:Gs}(d:ap (ents G)){g:Q}(h:∀s e r,g s e=some r->∃n,aq G n s e Vn=Vn r):aj (ent g):=okQ λ_ _ _ _ _ _ _ _ _ _ _ _ _ _ _ hc=>Tk hc (h _ _) λn _ j=>fF d an (pc G n) Tryz.func18 j (apl [(1,7,.loop (Tj 500 bd))] ⟨Tf d n (dl7 G n) rfl (pc G n) ⟨[],[4],[(0,[])]⟩,Th⟩)
end z2j
namespace z2l
structure Gs where
 z2p:z2p.Q
 z2j:z2j.Q
def ents(G:Gs):Td Ent:=[z2p.ent G.z2p,z2j.ent G.z2j]
def b4{R:Type}(G:Gs)(n:Nat)(h0:LB)(h:LS)(j:LO)(d t:LQ)(i:Int)(v:Int->Y R)(w:Bool->Y R)(k1:Y R):Y R:=bif decide (i<(List.length d:Int))then((ix d i).bind λe2=>(G.z2j (Sg.mk (So.mk h0 h) j) (Eqn.mk (Tm.mk e2.left.op e2.left.ah e2.left.am e2.left.ae) (Tm.mk e2.right.op e2.right.ah e2.right.am e2.right.ae) e2.bJ)).bind λy=>bif !y then(w false)else v (wr (i+1)))else k1
variable{R:Type}(G:Gs)(n:Nat)
def l4(m:Nat)(h0:LB)(d:LS)(h:LO)(j t:LQ)(i:Int)(w:Bool->Y R)(k1:Y R):Y R:=aY (λ(v:Int) y=>b4 G n h0 d h j t v (λA=>y A) w k1) m i
def b9{R:Type}(G:Gs)(n:Nat)(h0:LB)(h:LS)(j:LO)(t d:LQ)(i:Int)(v:Int->Y R)(w:Bool->Y R)(k1:Y R):Y R:=bif decide (i<(List.length d:Int))then((ix d i).bind λe2=>(G.z2j (Sg.mk (So.mk h0 h) j) (Eqn.mk (Tm.mk e2.left.op e2.left.ah e2.left.am e2.left.ae) (Tm.mk e2.right.op e2.right.ah e2.right.am e2.right.ae) e2.bJ)).bind λy=>bif !y then(w false)else v (wr (i+1)))else k1
def l9(m:Nat)(h0:LB)(d:LS)(h:LO)(j t:LQ)(i:Int)(w:Bool->Y R)(k1:Y R):Y R:=aY (λ(v:Int) y=>b9 G n h0 d h j t v (λA=>y A) w k1) m i
def aq(d:Md)(K:Bool->Y R):Y R:=(G.z2p d.sig).bind λr=>bif !r then(K false)else bif decide (16<(List.length d.eqs:Int))then(K false)else bif decide (16<(List.length d.rules:Int))then(K false)else l4 G n n d.sig.ai.ak d.sig.ai.aA d.sig.ops d.eqs d.rules 0 (λh=>K h) (l9 G n n d.sig.ai.ak d.sig.ai.aA d.sig.ops d.eqs d.rules 0 (λt22=>K t22) (K true))
def dl4(m:Nat):=rS [1,3] [Tw,Tx] [TU] λR K i h0 d h j t=>l4 G n m h0 d h j t i (λv=>K .ret ⟨UG v,[]⟩) (K (.exit 0) ⟨[(1,TF)],[U0 h0 d h j t]⟩)
def dl9(m:Nat):=rS [1,4] [Tw,Tx] [TU] λR K i h0 d h j t=>l9 G n m h0 d h j t i (λv=>K .ret ⟨UG v,[]⟩) (K (.exit 2) ⟨[],[]⟩)
def pc:Pcs:=⟨Tl 4 (dl4 G n n) (Tl 9 (dl9 G n n) nK),nK,nK⟩
def an:Ann:=⟨53,0,[(4,[1,3]),(9,[1,4])],[],[2],[(6,⟨[(Te 9,[],[])],[],[],[0],[]⟩),(11,⟨[(Te 9,[],[])],[],[],[0],[]⟩)],[]⟩
abbrev bd:=aK Tryz.f8
theorem ok{G:Gs}(d:ap (ents G)){g:Q}(t:∀h r,g h=some r->∃n,aq G n h Vn=Vn r):aj (ent g):=okQ λ_ _ _ _ _ _ _ _ hc=>Tk hc (t _) λn _ j=>fF d an (pc G n) Tryz.func8 j (apl [(1,4,.loop (Tj 116 bd)),(1,9,.loop (Tj 244 bd))] ⟨Tf d n (dl4 G n) rfl (pc G n) ⟨[1],[2],[(0,[1])]⟩,⟨Tf d n (dl9 G n) rfl (pc G n) ⟨[],[2],[(2,[])]⟩,Th⟩⟩)
end z2l
namespace z1k
structure Gs where
 z1s:z1s.Q
def aq{R:Type}(G:Gs)(n:Nat)(u c0:Tm)(K:Bool->Y R):Y R:=(G.z1s (Tm.mk c0.op c0.ah c0.am c0.ae) (Tm.mk u.op u.ah u.am u.ae)).bind λr=>K r
theorem ok{G:Gs}(d:ap [z1s.ent G.z1s]){g:Q}(h:∀u c0 r,g u c0=some r->∃n,aq (R:=AT×Td Ob) G n u c0 (λr0=>some (Tp r0,UM c0))=some (Tp r,UM c0)):aj (ent g):=okQ λ_ _ _ _ _ _ _ _ _ _ _ hc=>Tk hc (h _ _) λ_ _ j=>fF d ⟨7,1,[],[],[3],[],[]⟩ nP Tryz.func92 j
end z1k
namespace z4v
structure Gs where
 z1k:z1k.Q
def ents(G:Gs):Td Ent:=[z1k.ent G.z1k]
def b2{R:Type}(G:Gs)(n:Nat)(d:Tm)(s:LT)(j h:Int)(t v:Int->Y R)(k1:Y R):Y R:=bif decide (h<j)then((ix s h).bind λe=>(G.z1k (Tm.mk e.op e.ah e.am e.ae) (Tm.mk d.op d.ah d.am d.ae)).bind λr=>bif r then(v h)else t (wr (h+1)))else k1
variable{R:Type}(G:Gs)(n:Nat)
def l2(m:Nat)(d:Tm)(s:LT)(h j:Int)(t:Int->Y R)(k1:Y R):Y R:=aY (λ(v:Int) w=>b2 G n d s h v (λy=>w y) t k1) m j
def aq(s:LT)(d:Tm)(K:Int->Y R):Y R:=l2 G n n d s (List.length s:Int) 0 (λt4=>K t4) (K (-1))
def dl2(G:Gs)(n m:Nat)(R:Type)(st:St)(K:Kt R):Y R:=match st with|⟨[(0,.one (.l (.n 1) s)),(1,.one (.f 92 [.p 0 0])),(7,.one (.i v)),(8,.one (.i w))],[.box [.i d,.s h,.i j,.l (.n 1) t]]⟩=>l2 G n m (Tm.mk d h j t) s v w (λt4=>K .ret ⟨[(4,Tv t4)],[TC d h j t]⟩) (K (.exit 0) ⟨[],[TC d h j t]⟩)|_=>none
def pc:Pcs:=⟨Tl 2 (dl2 G n n) nK,nK,nK⟩
def an:Ann:=⟨19,1,[(2,[0,1,7,8])],[],[4],[],[]⟩
abbrev bd:=aK Tryz.f126
abbrev q2:=Tj 52 bd
theorem pl2{G:Gs}(d:ap (ents G))(n:Nat):∀m,al an (.loop q2) (dl2 G n m):=lpc d (pc G n) [0,1,7,8] ⟨[],[4],[(0,[])]⟩ (apl [] trivial) (λR st K=>by unfold dl2;split<;>rfl) λm R st K r h=>K0
def cG(G:Gs)(s:LT)(d:Tm)(r:Int):Prop:=∃n,aq (R:=AT×Td Ob) G n s d (λr0=>some (Tv r0,UM d))=some (Tv r,UM d)
theorem ok{G:Gs}(d:ap (ents G)){g:Q}(t:∀s h r,g s h=some r->cG G s h r):aj (ent g):=λR xs H K r hc=>by
 simp only[ent]at hc;split at hc
 .exact Tk hc (t _ _) λn _ j=>fF d an (pc G n) Tryz.func126 j (apl [(1,2,.loop q2)] ⟨pl2 d n n,Th⟩)
 .cases hc
end z4v
namespace z4n
structure Gs where
 z4v:z4v.Q
def aq{R:Type}(G:Gs)(n:Nat)(s:LT)(d:Tm)(K:Bool->Y R):Y R:=(G.z4v s (Tm.mk d.op d.ah d.am d.ae)).bind λr=>K (decide (0<=r))
def cG(G:Gs)(s:LT)(d:Tm)(r:Bool):Prop:=∃n,aq (R:=AT×Td Ob) G n s d (λr0=>some (Tp r0,UM d))=some (Tp r,UM d)
theorem ok{G:Gs}(h:ap [z4v.ent G.z4v]){g:Q}(t:∀s d r,g s d=some r->cG G s d r):aj (ent g):=λR xs H K r hc=>by
 simp only[ent]at hc;split at hc
 .exact Tk hc (t _ _) λ_ _ j=>fF h ⟨9,1,[],[],[4],[],[]⟩ nP Tryz.func91 j
 .cases hc
end z4n
namespace z1j
structure Gs where
 z4n:z4n.Q
def aq{R:Type}(G:Gs)(n:Nat)(list:LT)(t:Tm)(K:Bool->Y R):Y R:=(G.z4n list (Tm.mk t.op t.ah t.am t.ae)).bind λr=>K r
theorem ok{G:Gs}(d:ap [z4n.ent G.z4n]){g:Q}(h:∀list t r,g list t=some r->∃n,aq G n list t Vn=Vn r):aj (ent g):=okQ λ_ _ _ _ _ _ _ _ hc=>Tk hc (h _ _) λ_ _ j=>fF d ⟨8,0,[],[],[4],[],[]⟩ nP Tryz.func62 j
end z1j
namespace z12
structure Gs where
 z13:z13.Q
 z16:z16.Q
 z0u:z0u.Q
 z1j:z1j.Q
def ents(G:Gs):Td Ent:=[z13.ent G.z13,z16.ent G.z16,z0u.ent G.z0u,z1j.ent G.z1j]
def c10{R:Type}(G:Gs)(n:Nat)(E F H:LI)(I:LB)(J:LS)(K:LO)(vars:LT)(t55:LK)(A B:Int)(h1:LM)(h2:LT)(C:Int)(d:Z)(h:Int)(j:LT)(t:Int)(v:Z)(w:Int)(y:LT)(D:LT->Y R):Y R:=(lim (h2++[(Tm.mk C d h j),(Tm.mk t v w y)])).bind λzs=>D zs
variable{R:Type}(G:Gs)(n:Nat)
def b6(h j t:LI)(v:LB)(w:LS)(y:LO)(vars:LT)(t55:LK)(A d:Int)(h1:LM)(h2:LT)(I:Int->LM->LT->Y R)(D:Bool->LM->Y R)(k1:LM->LT->Y R):Y R:=bif decide (d<A)then((ix t55 d).bind λe=>(G.z13 h j t v w y h1 (Tm.mk e.left.op e.left.ah e.left.am e.left.ae)).bind λE=>bif !E.1 then(D false E.2)else(G.z13 h j t v w y E.2 (Tm.mk e.right.op e.right.ah e.right.am e.right.ae)).bind λF=>bif !F.1 then(D false F.2)else(G.z16 h j t v w y F.2 (Tm.mk e.left.op e.left.ah e.left.am e.left.ae)).bind λH=>(G.z16 h j t v w y H.2 (Tm.mk e.right.op e.right.ah e.right.am e.right.ae)).bind λC=>bif !decide (H.1=C.1)then(D false C.2)else c10 G n h j t v w y vars t55 A d C.2 h2 e.left.op e.left.ah e.left.am e.left.ae e.right.op e.right.ah e.right.am e.right.ae (λB=>I (wr (d+1)) C.2 B))else k1 h1 h2
def l6(m:Nat)(j t w:LI)(y:LB)(A:LS)(B:LO)(vars:LT)(t55:LK)(d h:Int)(h1:LM)(h2:LT)(C:Bool->LM->Y R)(k1:LM->LT->Y R):Y R:=aY (λ(v:Int×LM×LT) D=>b6 G n j t w y A B vars t55 d v.1 v.2.1 v.2.2 (λE F H=>D (E,F,H)) C k1) m (h,h1,h2)
def b16{R:Type}(G:Gs)(n:Nat)(A B C:LI)(D:LB)(E:LS)(F:LO)(vars:LT)(t v:Int)(j:LT)(h:Int)(h1:LM)(h2:LT)(d:Int)(w:Int->Y R)(y:Bool->Y R)(k1:Y R):Y R:=bif decide (d<h)then((ix j d).bind λe=>(G.z1j vars (Tm.mk e.op e.ah e.am e.ae)).bind λr=>bif !r then(y false)else w (wr (d+1)))else k1
def l16(m:Nat)(y A B:LI)(C:LB)(D:LS)(E:LO)(vars:LT)(j t:Int)(w:LT)(d:Int)(h1:LM)(h2:LT)(h:Int)(F:Bool->Y R)(k1:Y R):Y R:=aY (λ(v:Int) H=>b16 G n y A B C D E vars j t w d h1 h2 v (λI=>H I) F k1) m h
def b13(j t v:LI)(w:LB)(y:LS)(A:LO)(vars:LT)(h:Int)(h1:LM)(h2:LT)(d:Int)(B:Int->Y R)(C:Bool->Y R)(k1:Y R):Y R:=bif decide (d<h)then((ix h2 d).bind λe=>(G.z0u (Tm.mk e.op e.ah e.am e.ae)).bind λr=>l16 G n n j t v w y A vars h d r (List.length r:Int) h1 h2 0 (λt4=>C t4) (B (wr (d+1))))else k1
def l13(m:Nat)(j t w:LI)(y:LB)(A:LS)(B:LO)(vars:LT)(d:Int)(h1:LM)(h2:LT)(h:Int)(C:Bool->Y R)(k1:Y R):Y R:=aY (λ(v:Int) D=>b13 G n j t w y A B vars d h1 h2 v (λE=>D E) C k1) m h
def c3(H I J:LI)(K:LB)(L:LS)(M:LO)(h1:LM)(h2:Int)(t:Z)(v:Int)(w:LT)(y:Int)(A:Z)(B:Int)(C:LT)(j:LK)(D:Bool->LM->Y R):Y R:=(G.z0u (Tm.mk h2 t v w)).bind λr=>l6 G n n H I J K L M r j (List.length j:Int) 0 h1 [(Tm.mk y A B C)] (λt4 E=>D t4 E) (λd h=>l13 G n n H I J K L M r (List.length h:Int) d h 0 (λF=>D F d) (D (decide ((List.length r:Int)<=5)) d))
def aq(d h j:LI)(t:LB)(v:LS)(w:LO)(F:LM)(e:Eqn)(K:Bool->LM->Y R):Y R:=(G.z13 d h j t v w F (Tm.mk e.left.op e.left.ah e.left.am e.left.ae)).bind λB=>bif !B.1 then(K false B.2)else(G.z13 d h j t v w B.2 (Tm.mk e.right.op e.right.ah e.right.am e.right.ae)).bind λC=>bif !C.1 then(K false C.2)else(G.z16 d h j t v w C.2 (Tm.mk e.left.op e.left.ah e.left.am e.left.ae)).bind λE=>(G.z16 d h j t v w E.2 (Tm.mk e.right.op e.right.ah e.right.am e.right.ae)).bind λy=>bif !decide (E.1=y.1)then(K false y.2)else bif decide (e.left.op<0)then(K false y.2)else bif decide (2<(List.length e.bJ:Int))then(K false y.2)else c3 G n d h j t v w y.2 e.left.op e.left.ah e.left.am e.left.ae e.right.op e.right.ah e.right.am e.right.ae e.bJ (λD A=>K D A)
def Gf:=rS [0,5,6,8,55,56,57] [Tw,TL,Vk,Ul,.x (.l Vb),Tx,Tx] [Tr,.m .i,TH,Vh] λR K vars t55 d h D E F H I J h1 h2 L j t v w y A B=>c10 G n D E F H I J vars t55 d h h1 h2 L j t v w y A B (λC=>K .normal ⟨[(0,TF),(5,TO vars),(6,.one (.o 2)),(55,.one (.l Vb t55)),(56,Tv d),(57,Tv h)],[Tn D E F H I J,Uz h1,Tz C]⟩)
def dl6(m:Nat):=rS [0,5,6,55,56,57] [Tw,TL,Vk,.x (.l Vb),Tx,Tx] [Tr,.m .i,TH] λR K vars t55 h j t v w y A B h1 h2=>l6 G n m t v w y A B vars t55 h j h1 h2 (λt4 d=>K .ret ⟨Uj t4,TN t v w y A B d⟩) (λd C=>K (.exit 0) ⟨[(5,TO vars),(6,.one (.o 2))],[Tn t v w y A B,Uz d,Tz C]⟩)
def HF(m:Nat):=rS [5,92,93,94,99,100,101] [TL,Vk,Tx,Tx,TL,Tx,Tx] [Tr,.m .i,TH] λR K vars d h v j t w y A B C D h1 h2=>l16 G n m w y A B C D vars d h v j h1 h2 t (λt4=>K .ret ⟨Uj t4,TN w y A B C D h1⟩) (K (.exit 4) ⟨[(5,TO vars),(92,.one (.o 2)),(93,Tv d),(94,Tv h)],[Tn w y A B C D,Uz h1,Tz h2]⟩)
def rk(m:Nat):=rS [5,92,93,94] [TL,Vk,Tx,Tx] [Tr,.m .i,TH] λR K vars d h j t v w y A h1 h2=>l13 G n m j t v w y A vars d h1 h2 h (λt4=>K .ret ⟨Uj t4,TN j t v w y A h1⟩) (K (.exit 2) ⟨[(5,TO vars)],TN j t v w y A h1⟩)
def dc3:=rS [0,3] [Tw,U1] [Tr,.m .i,Uw] λR K C D E F H I h1 h2 d h j t v w y A=>c3 G n C D E F H I h1 h2 d h j t v w y A (λt4 B=>K .ret ⟨Uj t4,TN C D E F H I B⟩)
def pc:Pcs:=⟨Tl 6 (dl6 G n n) (Tl 16 (HF G n n) (Tl 13 (rk G n n) nK)),Tl 10 (Gf G n) (Tl 3 (dc3 G n) nK),nK⟩
def an:Ann:=⟨114,2,[(6,[0,5,6,55,56,57]),(16,[5,92,93,94,99,100,101]),(13,[5,92,93,94])],[(10,[0,5,6,8,55,56,57]),(3,[0,3])],[4],[(1,⟨[(Te 35,[3,9,16,20],[])],[3,9,16,20],[],[2],[]⟩),(8,⟨[(Te 23,[3,9,16,20],[])],[3,9,16,20],[],[2,3],[]⟩)],[]⟩
abbrev bd:=aK Tryz.f33
theorem ok{G:Gs}(A:ap (ents G)){g:Q}(C:∀d h t v w y B e r,g d h t v w y B e=some r->∃n,aq G n d h t v w y B e (Vq d h t v w y)=Vq d h t v w y r.1 r.2):aj (ent g):=okQ λ_ _ _ _ _ _ _ _ _ _ _ _ _ _ _ _ _ _ _ hc=>Tk hc (C _ _ _ _ _ _ _ _) λn _ j=>fF A an (pc G n) Tryz.func33 j (apl [(0,3,Tj 7 bd)] ⟨Tg A (dc3 G n) rfl (pc G n) ⟨[],[4],[]⟩ (apl [(1,6,.loop (Tj 500 bd)),(1,13,.loop (Tj 1012 bd))] ⟨Tf A n (dl6 G n) rfl (pc G n) ⟨[5,6],[4],[(0,[5,6])]⟩ (apl [(0,10,Tj 32051 bd)] ⟨Tg A (Gf G n) rfl (pc G n) ⟨[0,5,6,55,56,57],[4],[(0,[5,6]),(1,[0,5,6,55,56,57])]⟩,Th⟩),⟨Tf A n (rk G n) rfl (pc G n) ⟨[5],[4],[(2,[5])]⟩ (apl [(1,16,.loop (Tj 259276 bd))] ⟨Tf A n (HF G n) rfl (pc G n) ⟨[5,92,93,94],[4],[(2,[5]),(3,[5,92,93,94]),(4,[5,92,93,94])]⟩,Th⟩),Th⟩⟩),Th⟩)
end z12
namespace z4m
structure Gs where
 z4s:z4s.Q
def ents(G:Gs):Td Ent:=[z4s.ent G.z4s]
def b3{R:Type}(G:Gs)(n:Nat)(h t9:Td LQ)(j size d:Int)(t:Int->Int->Y R)(v:Int->Y R):Y R:=bif decide (d<j)then((ix t9 d).bind λe=>bif decide ((wr (size+(List.length e:Int)))<0)then(none)else t (wr (size+(List.length e:Int))) (wr (d+1)))else v size
variable{R:Type}(G:Gs)(n:Nat)
def l3(m:Nat)(d t9:Td LQ)(h size j:Int)(t:Int->Y R):Y R:=aY (λ(v:Int×Int) w=>b3 G n d t9 h v.1 v.2 (λy A=>w (y,A)) t) m (size,j)
def b11{R:Type}(G:Gs)(n:Nat)(t25:Td LQ)(h d:Int)(h0:LQ)(j:Int->LQ->Y R)(t:LQ->Y R):Y R:=bif decide (d<h)then((ix t25 d).bind λe=>(lim (h0++e)).bind λzs=>j (wr (d+1)) zs)else t h0
def l11(m:Nat)(t25:Td LQ)(d h:Int)(h0:LQ)(j:LQ->Y R):Y R:=aY (λ(v:Int×LQ) t=>b11 G n t25 d v.1 v.2 (λw y=>t (w,y)) j) m (h,h0)
def aq(d:Td LQ)(K:LQ->Y R):Y R:=l3 G n n d d (List.length d:Int) 0 0 (λh=>(G.z4s [] h).bind λr=>l11 G n n d (List.length d:Int) 0 r (λj=>K j))
def dl3(m:Nat):=rS [0,3,9,10,11] [.x (.l (.sl TS)),Tx,.x (.l (.sl TS)),Tx,Tx] [] λR K d size t9 j t=>l3 G n m d t9 j size t (λh=>K (.exit 0) ⟨[(0,.one (.l (.sl TS) d)),(3,Tv h)],[]⟩)
def F0(m:Nat):=rS [6,25,26,27] [U7,.x (.l (.sl TS)),Tx,Tx] [Vi] λR K t25 d h h0=>l11 G n m t25 d h h0 (λj=>K (.exit 2) ⟨[(6,Ug)],[UN j]⟩)
def pc:Pcs:=⟨Tl 3 (dl3 G n n) (Tl 11 (F0 G n n) nK),nK,nK⟩
def an:Ann:=⟨36,0,[(3,[0,3,9,10,11]),(11,[6,25,26,27])],[],[2],[],[]⟩
abbrev bd:=aK Tryz.f32
def cG(G:Gs)(d:Td LQ)(r:LQ):Prop:=∃n,aq (R:=AT×Td Ob) G n d (λr0=>some (Vl r0,[]))=some (Vl r,[])
theorem ok{G:Gs}(h:ap (ents G)){g:Q}(t:∀d r,g d=some r->cG G d r):aj (ent g):=okQ λ_ _ _ _ hc=>Tk hc (t _) λn _ j=>fF h an (pc G n) Tryz.func32 j (apl [(1,3,.loop (Tj 116 bd)),(1,11,.loop (Tj 500 bd))] ⟨Tf h n (dl3 G n) rfl (pc G n) ⟨[0,3],[2],[(0,[0,3])]⟩,⟨Tf h n (F0 G n) rfl (pc G n) ⟨[6],[2],[(2,[6])]⟩,Th⟩⟩)
end z4m
namespace z11
structure Gs where
 z4m:z4m.Q
 z12:z12.Q
def ents(G:Gs):Td Ent:=[z4m.ent G.z4m,z12.ent G.z12]
def b4{R:Type}(G:Gs)(n:Nat)(j t v:LI)(w:LB)(y:LS)(A:LO)(t22:LQ)(h d:Int)(h1:LM)(B:Int->LM->Y R)(C:Bool->LM->Y R)(k1:LM->Y R):Y R:=bif decide (d<h)then((ix t22 d).bind λe=>(G.z12 j t v w y A h1 (Eqn.mk (Tm.mk e.left.op e.left.ah e.left.am e.left.ae) (Tm.mk e.right.op e.right.ah e.right.am e.right.ae) e.bJ)).bind λr=>bif !r.1 then(C false r.2)else B (wr (d+1)) r.2)else k1 h1
variable{R:Type}(G:Gs)(n:Nat)
def l4(m:Nat)(j t w:LI)(y:LB)(A:LS)(B:LO)(t22:LQ)(d h:Int)(h1:LM)(C:Bool->LM->Y R)(k1:LM->Y R):Y R:=aY (λ(v:Int×LM) D=>b4 G n j t w y A B t22 d v.1 v.2 (λE F=>D (E,F)) C k1) m (h,h1)
def aq(v w y:LI)(A:LB)(B:LS)(C:LO)(j:LM)(h:Md)(K:Bool->LM->Y R):Y R:=bif decide (16<(List.length h.eqs:Int))then(K false j)else bif decide (16<(List.length h.rules:Int))then(K false j)else(G.z4m [h.eqs,h.rules]).bind λr=>l4 G n n v w y A B C r (List.length r:Int) 0 j (λt4 t=>K t4 t) (λd=>K true d)
def dl4(m:Nat):=rS [0,22,23,24] [Tw,US,Tx,Tx] [Tr,.m .i] λR K t22 h j t v w y A B h1=>l4 G n m t v w y A B t22 h j h1 (λt4 d=>K .ret ⟨Uj t4,TN t v w y A B d⟩) (λd=>K (.exit 0) ⟨[],TN t v w y A B d⟩)
def pc:Pcs:=⟨Tl 4 (dl4 G n n) nK,nK,nK⟩
def an:Ann:=⟨33,2,[(4,[0,22,23,24])],[],[4],[],[]⟩
abbrev bd:=aK Tryz.f14
theorem ok{G:Gs}(A:ap (ents G)){g:Q}(D:∀d h t v w y B C r,g d h t v w y B C=some r->∃n,aq G n d h t v w y B C (Vq d h t v w y)=Vq d h t v w y r.1 r.2):aj (ent g):=okQ λ_ _ _ _ _ _ _ _ _ _ _ _ _ _ _ hc=>Tk hc (D _ _ _ _ _ _ _ _) λn _ j=>fF A an (pc G n) Tryz.func14 j (apl [(1,4,.loop (Tj 116 bd))] ⟨Tf A n (dl4 G n) rfl (pc G n) ⟨[],[4],[(0,[])]⟩,Th⟩)
end z11
end
end
section
open Classical
def fM(s:Sg)(a b:Tm):Bool:=isT s a&&(isT s b&&decide (dG s a=dG s b))
theorem AL{s:Sg}{t:Tm}(h:isT s t=true):Kn s t:=by
 unfold isT at h;simp only[bA]at h;exact(hQ h.2.2).kn
noncomputable def uY:Sg->Tm->Tm->Y Bool:=λs a b=>if bD s=true/\a.az<4294967295/\b.az<4294967295 then some (fM s a b)else none
theorem Ap:aj (z30.ent uY):=z30.ok (G:=⟨gSm 4294967296,ll 4294967295,gw⟩) ⟨sQ _ (O3 _),uI _ (O3 _),qf,trivial⟩ λs a b r h=>by
 unfold uY at h;split at h
 .rename_i hs;obtain⟨hS,v,w⟩:=hs;cases h;refine⟨1,?_⟩;have key:∀(t:Tm)(X F B:Y (AT×Td Ob))(d:t.az<4294967295),(isT s t=true->X=B)->(Option.bind (gSm 4294967296 t) λy=>bif y then (Option.bind (ll 4294967295 s t) λA=>bif A then X else F)else F)=bif isT s t then B else F:=λt X F B d j=>by
   have e1:gSm 4294967296 t=some (decide (tsz t<=60)&&decide (tdp t<=20)):=mt A0;have e2:ll 4294967295 s t=some (dA s t):=mt ⟨hS,d⟩;rw[e1,bS];have e3:isT s t=((decide (tsz t<=60)&&decide (tdp t<=20))&&dA s t):=by unfold isT;rw[Bool.and_assoc]
   rw[e3]at j ⊢;cases C:(decide (tsz t<=60)&&decide (tdp t<=20))with
   |false=>rfl
   | true=>
    rw[cT,e2,bS];cases D:dA s t with
    |false=>rfl
    |true=>exact j (by rw[C,D];rfl)
  unfold z30.aq;rw[Tm.eta,Tm.eta];unfold fM;refine(key a _ _ (bif isT s b then some (AT.one (.b (decide (dG s a=dG s b))),[])else some (AT.one (.b false),[])) v λta=> ?_).trans ?_
  .refine key b _ _ _ w λtb=> ?_;show Option.bind (gw s a) _=_;have e1:gw s a=some (dG s a):=mt ⟨hS,AL ta⟩;have e2:gw s b=some (dG s b):=mt ⟨hS,AL tb⟩;rw[e1,bS];show Option.bind (gw s b) _=_;rw[e2,bS]
  .grind
 .cases h
def inV(vars:Td Tm)(v:Tm):Bool:=vars.any λu=>decide (bR v u=0)
def dB(vars:Td Tm)(t:Tm):Bool:=(ci t).all (inV vars)
theorem oa(t:Tm):(ci t).length<=t.az+1:=by
 have:=qV t;have:=wj t;have h:(ci t).length<=(oc t).length:=by
  have:=pq (oc t) [];unfold ci pa;simpa using this
 omega
theorem yQ{t v:Tm}(h:v∈ci t):v.op= -1/\v.ae=[]/\v.az<=t.az:=by
 unfold ci pa at h;rcases uh h with h|h
 .simp at h
 .exact vJ h
noncomputable def kD:Tm->Td Tm->Y Bool:=λt vs=>if t.az<1073741823/\vs.length<4294967296 then some (dB vs t)else none
noncomputable abbrev GWi:z34.Gs:=⟨gVs,ga 4294967296⟩
theorem Hq{R:Type}(n:Nat)(vs list:Td Tm)(hl:vs.length<4294967296)(i:Nat)(x:Tm)(hi:list[i]? =some x)(t:x.az<4294967296)(h:Bool->Y R):∀m (k:Nat) (d:Bool),k<=vs.length->vs.length-k<m->
  z34.l7 GWi n m vs list (i:Int) d (k:Int) h=h (d||inV (vs.drop k) x):=by
 intro m k d h1 h2;refine Fa vs.length (λd k j=>z34.b7 GWi n vs list (i:Int) d k j h) (λ_ _=>True) (λk d=>h (d||inV (vs.drop k) x)) (λd j _=> ?_) (λk d j hk _ e=> ?_) m k d trivial h1 h2
 .unfold z34.b7;rw[bh (Pc _),cF,ck];unfold inV;rw[List.any_nil,Bool.or_false]
 .obtain⟨u,u1,_⟩:=bo hk;unfold z34.b7;rw[bt hk,cT,bw A0];have v:inV (vs.drop k) x=(decide (bR x u=0)||inV (vs.drop (k+1)) x):=by
   rw[bm u1];rfl
  cases d with
  |true=>rw[cT,e _ trivial];simp
  | false=>
   rw[cF,aW hi,bS,aW u1,bS,Tm.eta,Tm.eta];show Option.bind (ga 4294967296 x u) _=_;unfold ga;rw[mt t,bS,e _ trivial,v,Bool.false_or]
theorem wb:aj (z34.ent kD):=z34.ok (G:=GWi) ⟨z2w,mH _ (O3 _),trivial⟩ λt vs r h=>by
 unfold kD at h;split at h
 .rename_i hs;obtain⟨v,hl⟩:=hs;have hl:List.length (α:=Tm) vs<4294967296:=hl;cases h;have w:=oa t;refine⟨List.length (α:=Tm) vs+(ci t).length+1,?_⟩;unfold z34.aq;rw[Tm.eta];show Option.bind (gVs t) _=_;rw[show gVs t=some (ci t)from mt v,bS];refine(Ef (ci t) (inV vs) (λi d=>z34.b3 GWi _ vs (ci t) i d _ _) (some (AT.one (.b false),[])) (some (AT.one (.b true),[])) (λd=> ?_) (λi x d hi=> ?_) _ 0 A0 A0).trans ?_
  .unfold z34.b3;rw[bh (Pc _),cF]
  .have j:i<(ci t).length:=(gI.1 hi).1;have y:=(yQ (mG hi)).2.2;unfold z34.b3;rw[bt j,cT];refine(Hq _ vs (ci t) hl i x hi A0 _ _ 0 false A0 A0).trans ?_;rw[OQ,Bool.false_or,bw A0];cases inV vs x<;>rfl
  .rw[OQ];show (bif dB vs t then _ else _)=_;cases dB vs t<;>rfl
 .cases h
theorem Eqn.eta:∀e:Eqn,Eqn.mk (Eqn.left e) (Eqn.right e) (Eqn.bJ e)=e
 |⟨_,_,_⟩=>rfl
def rH(s:Sg)(vs:Td Tm)(c:Cnd):Bool:=fM s c.left c.right&&(dB vs c.left&&dB vs c.right)
def eJ(s:Sg)(e:Eqn):Bool:=fM s e.left e.right&&(!decide (e.left.op= -1)&&(decide ((e.bJ.length:Int)<=2)&&((decide (((ci e.left).length:Int)<=5)&&dB (ci e.left) e.right)&&e.bJ.all (rH s (ci e.left)))))
def SmE(e:Eqn):Prop:=e.left.az<1073741823/\e.right.az<1073741823/\∀c∈e.bJ,c.left.az<1073741823/\c.right.az<1073741823
noncomputable def Ag:Sg->Eqn->Y Bool:=λs e=>if SmE e/\SgD s then some (bD s&&eJ s e)else none
noncomputable abbrev GE:z2j.Gs:=⟨qj,uY,gVs,kD⟩
theorem nz{α:Type}{xs:Td α}{k:Int}:decide (k<(xs.length:Int))= !decide ((xs.length:Int)<=k):=G1
theorem z2k:aj (z2j.ent Ag):=z2j.ok (G:=GE) ⟨z4k,Ap,z2w,wb,trivial⟩ fun s e r h=>by
 unfold Ag at h;split at h
 .rename_i hs;obtain⟨⟨hl,w,hc⟩,A⟩:=hs;cases h;refine⟨3,?_⟩;unfold z2j.aq;show Option.bind (qj s) _=_;rw[show qj s=some (bD s)from mt A,bS];cases hS:bD s with
  |false=>rfl
  | true =>
   rw[O4,cF,O7,Tm.eta,Tm.eta];unfold eJ;show Option.bind (uY s e.left e.right) _=_;have y:∀a b:Tm,a.az<1073741823->b.az<1073741823->uY s a b=some (fM s a b):=λa b E F=>mt ⟨hS,A0,A0⟩;rw[y _ _ hl w,bS];cases fM s e.left e.right with
   |false=>rfl
   | true =>
    rw[O4,cF,O7];cases B:decide (e.left.op= -1)with
    |true=>rfl
    | false=>
     rw[cF,OS,O7,nz];cases h2:decide ((e.bJ.length:Int)<=2)with
     |false=>rfl
     | true=>
      have h2:=ON h2;rw[O4,cF,O7];have C:=oa e.left;have ev:gVs e.left=some (ci e.left):=mt hl;have d:∀t:Tm,t.az<1073741823->kD t (ci e.left)=some (dB (ci e.left) t):=λt D=>mt ⟨D,A0⟩;show Option.bind (gVs e.left) _=_;rw[ev,bS,nz];cases decide (((ci e.left).length:Int)<=5)with
      |false=>rfl
      | true=>
       rw[O4,cF,O7];show Option.bind (kD e.right (ci e.left)) _=_;rw[d _ w,bS];cases dB (ci e.left) e.right with
       |false=>rfl
       | true=>
        rw[O4,cF,O7];refine(Ef e.bJ (rH s (ci e.left)) (λi j=>z2j.b7 GE 3 (ci e.left) s.ai.ak s.ai.aA s.ops e.left.op e.left.ah e.left.am e.left.ae e.right.op e.right.ah e.right.am e.right.ae e.bJ i j _ _) (some (AT.one (.b false),[])) (some (AT.one (.b true),[])) (λj=> ?_) (λi c j hi=> ?_) _ 0 A0 A0).trans ?_
        .unfold z2j.b7;rw[bh (Pc _),cF]
        .have v:i<e.bJ.length:=(gI.1 hi).1;obtain⟨c1,c2⟩:=hc c (mG hi);unfold z2j.b7 rH;rw[bt v,cT,aW hi,bS,Tm.eta,Tm.eta,bw A0];show Option.bind (uY s c.left c.right) _=_;rw[y _ _ c1 c2,bS];cases fM s c.left c.right with
         |false=>rfl
         | true=>
          rw[O4,cF,O7];show Option.bind (kD c.left (ci e.left)) _=_;rw[d _ c1,bS];cases dB (ci e.left) c.left with
          |false=>rfl
          | true=>
           rw[O4,cF,O7];show Option.bind (kD c.right (ci e.left)) _=_;rw[d _ c2,bS];cases dB (ci e.left) c.right<;>rfl
        .grind
 .cases h
end
end Go.Proofs.YtkegnipofloejaaGreatDoor.Den
namespace Go.Proofs.YtkegnipofloejaaGreatDoor.Den
open Go.RowKit
open Abs (V AV)
section
variable {gD : Cur → Sg → Int → Bool → Y (Tm × Cur)} {gO : Cur → Int → Y (Bool × Cur)} {gB : Cur → Int → Y (Int × Cur)}
section
variable {c c':Cur}{t:Tm}{n:Int}
theorem d8(j:aj (z43.ent gD)){s:Sg}{d:Int}{v:Bool}(h:gD c s d v=some (t,c')):CFn Tryz.prog 51 [.one (.p 0 0),.agg (aC (.n 9) s),.one (.i d),.one (.b v)] [.box (gm c)] (.agg (aC (.n 1) t)) [.box (gm c')]:=
 ia j (show (gD c s d v).bind _=_ by rw[h];rfl)
theorem jc(d:aj (z3e.ent gO)){b:Bool}(h:gO c n=some (b,c')):CFn Tryz.prog 115 [.one (.p 0 0),.one (.i n)] [.box (gm c)] (.one (.b b)) [.box (gm c')]:=
 ia d (show (gO c n).bind _=_ by rw[h];rfl)
theorem eU(d:aj (z35.ent gB)){x:Int}(h:gB c n=some (x,c')):CFn Tryz.prog 50 [.one (.p 0 0),.one (.i n)] [.box (gm c)] (.one (.i x)) [.box (gm c')]:=
 ia d (show (gB c n).bind _=_ by rw[h];rfl)
theorem lf(s:Sg):ATR [] [] (.agg (aC (.n 9) s)) (.agg (sV s)):=.agg (MA s).cr
theorem iy(x:Int):ATR [] [] (.one (.i x)) (.one (.lit (.int .i64 x))):=.one (.fl .i)
theorem jw(x:Bool):ATR [] [] (.one (.b x)) (.one (.lit (.bool x))):=.one (.fl .b)
theorem DN(t:Tm):ATR [] [] (.agg (aC (.n 1) t)) (.agg (tV t)):=.agg (by have:=yT t;unfold Ok at this;rw[n5]at this;exact this.cr)
theorem lE(t:Tm):vA (.agg (aC (.n 1) t))= .agg (tV t):=congrArg AV.agg (n5 t)
theorem nt1{cs:Td C}:∀xs,AT.agg cs≠.tup xs:=λ_ h=>HC
theorem nt2{c:C}:∀xs,AT.one c≠.tup xs:=λ_ h=>HC
theorem oK(b:Bool):vA (.one (.b b))= .one (.lit (.bool b)):=congrArg AV.one (vC_b b)
theorem jg(x:Int):vA (.one (.i x))= .one (.lit (.int .i64 x)):=congrArg AV.one (NA x)
theorem MG(l:Td Tm):vA (.one (.l (.n 1) l))= .one (.imm 4 (tsV l)):=congrArg AV.one (Ai l).vC.symm
theorem FV(h:t.az<1073741823):CFn Tryz.prog 40 [.agg (aC (.n 1) t)] [] (.one (.l (.n 1) (ci t))) []:=
 ia z2w (show (gVs (Tm.mk t.op t.ah t.am t.ae)).bind _=_ by rw[Tm.eta,show gVs t=some (ci t)from mt h];rfl)
theorem Eb{h:Abs.au}(d:t.az<1073741823):Abs.Fn Tryz.prog 40 [.agg (tV t)] h (λr h'=>r= .one (.imm 4 (tsV (ci t)))/\h'=h):=by
 rw[<-MG];exact lP (FV d) rfl nt2 (aP (DN t) bY) (by
  have:=(yT t).flat;rw[n5]at this;show ((tV t).all V.flat&&true)=true;rw[Qt];exact this) (.one (Ai _))
theorem ma(t:Tm):(AT.agg (aC (.n 1) t)).flat=true:=iS (T:=.n 1) A3 t
end
end
end Go.Proofs.YtkegnipofloejaaGreatDoor.Den
namespace Go.Proofs.YtkegnipofloejaaGreatDoor.Abs
open Go.RowKit
open Den (oK jg Cur Sg D6P fO dS aj bD Inv CurAt sV tV vA iF d8 jc eU lf iy jw DN lE nt1 nt2 ma bY aP bU)
section
variable {gD : Cur → Sg → Int → Bool → Y (Tm × Cur)} {gO : Cur → Int → Y (Bool × Cur)} {gB : Cur → Int → Y (Int × Cur)}
noncomputable abbrev eV(l r:Tm)(d:V):Td V:=[.lit (.int .i64 l.op),.lit (.string l.ah),.lit (.int .i64 l.am),.imm 4 (Den.tsV l.ae),.lit (.int .i64 r.op),.lit (.string r.ah),.lit (.int .i64 r.am),.imm 4 (Den.tsV r.ae),d]
def CdV(d:V):Prop:=d= .lit (.slice none 0 0)\/∃a b:Tm,d= .di 8 [tV a++tV b]/\a.az<=900/\b.az<=900
abbrev zQ:Td V:=[.lit (.int .i64 0),.lit (.string ByteArray.empty),.lit (.int .i64 0),.lit (.slice none 0 0),.lit (.int .i64 0),.lit (.string ByteArray.empty),.lit (.int .i64 0),.lit (.slice none 0 0),.lit (.slice none 0 0)]
def uV(r:AV):Prop:=r= .tup [.agg zQ,.one (.lit (.bool false))]\/∃(l q:Tm)(d:V)(ok:Bool),l.az<=900/\q.az<=900/\CdV d/\r= .tup [.agg (eV l q d),.one (.lit (.bool ok))]
theorem Fn.weak{P:Program}{f:FuncId}{xs d:Td AV}{h:au}{R:AV->au->Prop}(j:Fn P f d h R)(t:∀[Zb] ι I w cs,ARs ι I w xs cs->ARs ι I w d cs):Fn P f xs h R:=
 ⟨j.1,λw I ι cs g a b c=>j.2 w I ι cs g a b (t _ _ _ _ c)⟩
theorem ARs.cons2{ι:Td Inf}{I:Nat->Prop}{w:World}{a b d:AV}{cs:Array Value}(h:ARs ι I w [a,b] cs)(v:∀c,AR ι I w b c->AR ι I w d c):ARs ι I w [a,d] cs:=
 ⟨h.1, fun j t=>by
  obtain⟨c,c1,c2⟩:=h.2 j t
  match j,t with
  |0,_=>exact⟨c,c1,c2⟩
  |1,_=>exact⟨c,c1,v c c2⟩⟩
theorem AR.last{ι:Td Inf}{I:Nat->Prop}{w:World}{vs:Td V}{v y:V}{c:Value}(h:AR ι I w (.agg (vs++[v])) c)(B:∀u,VR I w ι v u->VR I w ι y u):AR ι I w (.agg (vs++[y])) c:=by
 cases h with
 | @agg _ cs f hl d A=>
  refine .agg (f:=f) QG (λj t=>d j QD) λj t=> ?_;have:=A j QD;by_cases e:j<vs.length
  .grind
  .grind
theorem Hu(l q:Tm)(cs:Td Den.Cnd):Den.FRs (Den.aC (.n 14) (Den.Eqn.mk l q cs)) (eV l q (.imm 8 (cs.map λc=>tV c.left++tV c.right))):=by
 have hc:Den.FR (.l (.n 13) cs) (.imm 8 (cs.map λc=>tV c.left++tV c.right)):=by
  have:=Den.gh (T:=.n 13) A3 (xs:=cs) λc _=>(Den.yT c.left).app (Den.yT c.right);have e:(cs.map λx:Den.Cnd=>(Den.aC (.n 13) x).map Den.vC)=cs.map λc=>tV c.left++tV c.right:=PZ λc _=>by
   show ((Den.aC (.n 1) c.left)++(Den.aC (.n 1) c.right)).map Den.vC=_;rw[PJ,Den.n5,Den.n5]
  rw[<-e];exact this
 have a:Den.Ok (Den.aC (.n 1) l++(Den.aC (.n 1) q++[Den.C.l (.n 13) cs])):=(Den.yT l).app ((Den.yT q).app (.one hc));have e:(Den.aC (.n 1) l++(Den.aC (.n 1) q++[Den.C.l (.n 13) cs])).map Den.vC=eV l q (.imm 8 (cs.map λc=>tV c.left++tV c.right)):=by
  rw[PJ,PJ,Den.n5,Den.n5];show tV l++(tV q++[Den.vC (Den.C.l (.n 13) cs)])=_;rw[<-hc.vC];rfl
 unfold Den.Ok at a;rw[e]at a;exact a
theorem DY{s:Sg}(A:Den.SgD s){l q:Tm}{y:V}(hl:l.az<=900)(C:q.az<=900)(hk:CdV y):∃b,∀h:au,Fn Tryz.prog 18 [.agg (sV s),.agg (eV l q y)] h (λr h'=>r= .one (.lit (.bool b))/\h'=h):=by
 have key:∀cs:Td Den.Cnd,(∀c∈cs,c.left.az<=900/\c.right.az<=900)->∃b,∀h:au,Fn Tryz.prog 18 [.agg (sV s),.agg (eV l q (.imm 8 (cs.map λc=>tV c.left++tV c.right)))] h (λr h'=>r= .one (.lit (.bool b))/\h'=h):=λcs j=>by
  have hs:Den.SmE ⟨l,q,cs⟩:=⟨by show l.az<_;omega,by show q.az<_;omega,λc hc=>by have:=j c hc;omega⟩;have hF:=Den.ia Den.z2k (xs:=[.agg (Den.aC (.n 9) s),.agg (Den.aC (.n 14) (Den.Eqn.mk l q cs))]) (H:=[]) (H':=[]) (v:=.one (.b (bD s&&Den.eJ s ⟨l,q,cs⟩))) (by
   show (Den.Ag s (Den.Eqn.mk (Tm.mk l.op l.ah l.am l.ae) (Tm.mk q.op q.ah q.am q.ae) cs)).bind _=_;rw[Den.Tm.eta,Den.Tm.eta,show Den.Ag s ⟨l,q,cs⟩=_ from mt ⟨hs,A⟩];rfl)
  have he:=Hu l q cs;refine⟨bD s&&Den.eJ s ⟨l,q,cs⟩,λh=> ?_⟩;have:=Den.lP (h:=h) hF rfl nt2 (aP (lf s) (aP (.agg he.cr) bY)) Rl (.one .b)
  rwa [show vA (.one (.b (bD s&&Den.eJ s ⟨l,q,cs⟩)))= .one (.lit (.bool (bD s&&Den.eJ s ⟨l,q,cs⟩)))from congrArg AV.one (Den.vC_b _)]at this
 rcases hk with rfl|⟨a,b,rfl,B,d⟩
 .obtain⟨b,d⟩:=key [] A1;exact⟨b,λh=>(d h).weak λι I w cs hA=>hA.cons2 λc hc=>hc.last (vs:=[_,_,_,_,_,_,_,_]) λu t=>by
   cases t;exact .eE A0⟩
 .obtain⟨b,d⟩:=key [⟨a,b⟩] (by simp[B,d]);exact⟨b,λh=>(d h).weak λι I w cs hA=>hA.cons2 λc hc=>hc.last (vs:=[_,_,_,_,_,_,_,_]) λu t=>t.imm_of⟩
def RS(h:au)(id:Nat)(s:Sg)(d:Tm)(c':Cur)(q:Tm)(j:V)(L':Env)(h':au):Prop:=
 L'=[(0,.one (.ptr id 0 0)),(3,.one (.ptr (h.length+0) 0 0)),(4,.one (.ptr (h.length+1) 0 0)),(6,.one (.ptr (h.length+2) 0 0)),(7,.one (.ptr (h.length+3) 0 0))]/\
 ∃g,h'=h.set id (bU c')++([some (.row 3 [sV s]),some (.row 9 [zQ]),some (.row 4 [tV d]),some (.row 9 [eV d q j])]++g)
theorem CM(t:Tm):(tV t).all V.flat=true:=by
 have:=(Den.yT t).flat
 rwa [Den.n5]at this
theorem sv{h h1 l:au}{L:Env}{id:Nat}{c':Cur}{r:AV}(e:h1=h.set id (bU c'))(d:uV r)(j:Res Tryz.prog Tryz.f117 L (h1++l) r):
  px Tryz.prog Tryz.f117 h (λt h'=>t=r/\h'=h.set id (bU c')) .ret L (h1++l):=by
 have v:r.flat=true:=by
  rcases d with rfl|⟨a,b,w,ok,_,_,k,rfl⟩
  .rfl
  .rcases k with rfl|⟨x,y,rfl,_⟩<;>rfl
 subst e;exact pT j (Cm v (by
  show [(Den.gm c').map Den.vC].all (·.all V.flat)=true;rw[Pe,(Den.Fy c').flat];rfl) ⟨rfl,rfl⟩)
theorem Ak(K:D6P gD)(hO:fO gO)(hB:dS gB)(F:aj (Den.z43.ent gD))(eO:aj (Den.z3e.ent gO))(eB:aj (Den.z35.ent gB))(s:Sg)(P:Den.SgD s)(c:Cur)(hi:Den.Inv c):
  ∃r c',Den.Inv c'/\uV r/\∀(id:Nat)(h:au),CurAt h id c->Fn Tryz.prog 117 [.one (.ptr id 0 0),.agg (sV s)] h (λr' h'=>r'=r/\h'=h.set id (bU c')):=by
 have hS:=P.ok;obtain⟨⟨j,c1⟩,e1,b1,Q⟩:=K c s 2 true ⟨hi,hS,A0,A0⟩;dsimp only at b1 Q;obtain⟨b1,n1⟩:=b1;obtain⟨⟨t2,c2⟩,e2,b2,i2⟩:=K c1 s 1 true ⟨Q,hS,A0,A0⟩;dsimp only at b2 i2;have b2:=b2.1;obtain⟨⟨b3,c3⟩,e3,i3⟩:=hO c2 2 ⟨i2,A0⟩;dsimp only at i3;have h4:∃(q:Tm)(c4:Cur),Den.Inv c4/\q.az<=900/\(b3=true->0<List.length (α:=Tm) j.ae->∃x:Int,gB c3 (List.length (α:=Tm) j.ae:Int)=some (x,c4)/\0<=x/\(Den.tsV j.ae)[x.toNat]? =some (tV q))/\((b3=false\/¬0<List.length (α:=Tm) j.ae)->q=t2/\c4=c3):=by
  by_cases R:b3=true/\0<List.length (α:=Tm) j.ae
  .obtain⟨R,hl⟩:=R;obtain⟨⟨x,c4⟩,G,S,T,_,L⟩:=hB c3 (List.length (α:=Tm) j.ae:Int) ⟨i3,A0⟩;dsimp only at S T L;have T:=T A0;obtain⟨u,hu,U⟩:∃u,j.ae[x.toNat]? =some u/\u∈j.ae:=⟨_,O0 A0,gM _⟩;refine⟨u,c4,L,by have:=Den.aM U;omega,λ_ _=>⟨x,G,S,?_⟩,λC=>by rcases C with C|C;rw[R]at C;cases C;exact absurd hl C⟩;show (j.ae.map _)[x.toNat]? =_;rw[P8,hu,<-Den.n5];rfl
  .grind
 obtain⟨q,c4,L,bq,h4,H⟩:=h4;obtain⟨⟨b5,c5⟩,W,X⟩:=hO c4 5 ⟨L,A0⟩;dsimp only at X;have Y:∃(D:V)(c7:Cur),Den.Inv c7/\CdV D/\(b5=true->∃(a b:Tm)(c6:Cur),gD c5 s 1 true=some (a,c6)/\gD c6 s 1 false=some (b,c7)/\D= .di 8 [tV a++tV b])/\(b5=false->D= .lit (.slice none 0 0)/\c7=c5):=by
  cases b5 with
  |false=>exact⟨_,c5,X,.inl rfl,λh=>HC,λ_=>⟨rfl,rfl⟩⟩
  | true=>
   obtain⟨⟨a,c6⟩,e6,b6,i6⟩:=K c5 s 1 true ⟨X,hS,A0,A0⟩;dsimp only at b6 i6;obtain⟨⟨b,c7⟩,e7,b7,M⟩:=K c6 s 1 false ⟨i6,hS,A0,A0⟩;dsimp only at b7 M;exact⟨_,c7,M,.inr ⟨a,b,rfl,b6.1,b7.1⟩,λ_=>⟨a,b,c6,e6,e7,rfl⟩,λh=>HC⟩
 obtain⟨D,c7,M,kv,Y,Z⟩:=Y;obtain⟨ok,hok⟩:=DY (s:=s) P b1 bq kv;have N:∃r c',Den.Inv c'/\uV r/\((j.op= -1\/5<((Den.ci j).length:Int))->r= .tup [.agg zQ,.one (.lit (.bool false))]/\c'=c1)/\(¬(j.op= -1\/5<((Den.ci j).length:Int))->r= .tup [.agg (eV j q D),.one (.lit (.bool ok))]/\c'=c7):=by
  by_cases he:j.op= -1\/5<((Den.ci j).length:Int)
  .exact⟨_,_,Q,.inl rfl,λ_=>⟨rfl,rfl⟩,λh=>absurd he h⟩
  .exact⟨_,_,M,.inr ⟨_,_,_,ok,b1,bq,kv,rfl⟩,λh=>absurd h he,λ_=>⟨rfl,rfl⟩⟩
 obtain⟨r,c',i',O,N,h8'⟩:=N;refine⟨r,c',i',O,λid h hc=> ?_⟩;refine cW Tryz.func117 rfl rfl (O1 rfl) λE v=>fh ?_
 replace v:E.n=59:=v;have hE:=v
 have hN:h.length=h.length:=rfl;refine Wk ?_;refine aI rfl ?_;refine iF rfl (aD v rfl) (d8 F e1) (ma _) nt1 hc hN (aP (lf s) (aP (iy 2) (aP (jw true) bY))) λh1 d I w=> ?_;rw[lE]
 replace hN:=I
 refine Wk ?_
 (refine yE rfl rfl rfl rfl (aD v rfl) (λhp=> ?_) (λhp=> ?_))
 .refine Ao ?_;refine kj rfl rfl rfl RV ?_;refine bL rfl (aD v rfl) (Den.Eb A0) ?_;refine Wk ?_
  (refine dX rfl (λhp=> ?_) (λhp=> ?_))
  .refine Wk ?_;obtain⟨rfl,rfl⟩:=N (.inr (ON hp));exact S8
  .rename_i B;obtain⟨rfl,rfl⟩:=h8' (by
    rintro(h|h)
    .exact of_decide_eq_false B h
    .exact of_decide_eq_false hp h)
   refine Wk ?_;have t:(h1.set id (bU c2)).length=h.length:=Rv;have hj:=t
   refine jC (RS h id s j c2 t2 (.lit (.slice none 0 0))) ?_ ?_
   .refine uK mixed [3,5,6] [([1,2,3,5,0,4,6],[3,5,6],[0,2]),([5,1,2,3,0,4,6],[5,3,6],[0,2])] A3 ⟨?_,?_,trivial⟩
    .refine Dp ?_;refine Dr ?_
     (apply aS;rfl;rfl;rfl;focus (refine bL rfl (aD v rfl) (Den.jm (d8 F e2) (ma _) nt1 w (aP (lf s) (aP (iy 1) (aP (jw true) bY)))) ?_;exact⟨rfl,rfl⟩))
     rw[lE]
     (apply aS;rfl;rfl;rfl;focus (refine jT ax t rfl rfl A3 (aD v rfl) ?_;exact⟨rfl,rfl⟩))
     exact S7
    ·(apply aS;rfl;rfl;rfl;focus (refine jT ax hN rfl rfl A3 (aD v rfl) ?_;exact⟨rfl,rfl⟩))
     refine Dp ?_;refine Dr ?_
     (apply aS;rfl;rfl;rfl;focus (refine bL rfl (aD v rfl) (Den.jm (d8 F e2) (ma _) nt1 w (aP (lf s) (aP (iy 1) (aP (jw true) bY)))) ?_;exact⟨rfl,rfl⟩))
     rw[lE];exact S7
   .rintro L' h' ⟨rfl,g,rfl⟩;clear d I w hN t hj;refine nQ (jC (RS h id s j c4 q (.lit (.slice none 0 0))) ?_ ?_)
    .obtain⟨h1,d⟩:∃h1,h1=h.set id (bU c2):=⟨_,rfl⟩;rw[<-d];have hN:h1.length=h.length:=by rw[d];simp
     have w:CurAt h1 id c2:=by rw[d];exact hc.set c2
     refine Wk ?_;refine aI rfl ?_;refine iF rfl (aD v rfl) (jc eO e3) rfl nt2 w hN (aP (iy 2) bY) λh2 y t A=> ?_;rw[oK];clear hN;have hN:=t;cases b3 with
     | false=>
      refine Wk ?_;refine cJ rfl rfl ?_;refine Wk ?_;obtain⟨rfl,rfl⟩:=H (.inl rfl);exact Sp
     | true=>
      refine Wk ?_
      (refine dX rfl (λhp=> ?_) (λhp=> ?_))
      .have hl:0<List.length (α:=Tm) j.ae:=by
        have h0:(0:Int)<((List.length (α:=Tm) j.ae:Nat):Int):=ON hp;omega
       obtain⟨x,G,S,P⟩:=h4 rfl hl;have J:(h2.set id (bU c4)).length=h.length:=Rv;have ht:=J
       refine dz mixed [2,3,4,5,6,0,1,7,8,9,10] [6,10] [1,4] A3 ?_;refine Dp ?_;refine Dp ?_;refine Dr ?_;refine Dp ?_
       (apply aS;rfl;rfl;rfl;focus (refine bL rfl (aD v rfl) (Den.jm (eU eB G) rfl nt2 A (aP (iy _) bY)) ?_;exact⟨rfl,rfl⟩))
       rw[jg];refine Dp ?_;refine Dr ?_;refine Dp ?_;refine Dp ?_;refine Dp ?_;refine Ds ?_;exact dQ ⟨_,ag rfl (ag rfl (ag rfl (ag rfl (ag rfl (aZ _))))),rfl,g,by rw[y,d,P4,P4];rfl⟩
      .refine Wk ?_;obtain⟨rfl,rfl⟩:=H (.inr (λh0=>by
        have h1:¬(0:Int)<((List.length (α:=Tm) j.ae:Nat):Int):=of_decide_eq_false hp;omega))
       exact Sp
    .rintro L' h' ⟨rfl,g,rfl⟩;refine nQ (jC (RS h id s j c' q D) ?_ ?_)
     .obtain⟨h1,d⟩:∃h1,h1=h.set id (bU c4):=⟨_,rfl⟩;rw[<-d];have hN:h1.length=h.length:=by rw[d];simp
      have w:CurAt h1 id c4:=by rw[d];exact hc.set c4
      refine Wk ?_;refine aI rfl ?_;refine iF rfl (aD v rfl) (jc eO W) rfl nt2 w hN (aP (iy 5) bY) λh2 y t A=> ?_;rw[oK];clear hN;have hN:=t;refine Wk ?_;cases b5 with
      | false=>
       refine cJ rfl rfl ?_;refine Wk ?_;obtain⟨rfl,rfl⟩:=Z rfl;exact Sp
      | true=>
       refine iz rfl rfl ?_;obtain⟨t4,t5,c6,G,W,rfl⟩:=Y rfl;have t:(h2.set id (bU c6)).length=h.length:=Rv;have hj:=t
       have J:((h2.set id (bU c6)).set id (bU c')).length=h.length:=Rv;have ht:=J
       refine dz mixed [0,1,2,3,4,5,6,7,8,9] [2,5,7,9] [1,4] A3 ?_;refine Dp ?_;refine Dr ?_
       (apply aS;rfl;rfl;rfl;focus (refine bL rfl (aD v rfl) (Den.jm (d8 F G) (ma _) nt1 A (aP (lf s) (aP (iy 1) (aP (jw true) bY)))) ?_;exact⟨rfl,rfl⟩))
       rw[lE];refine Dp ?_;refine Dr ?_
       (apply aS;rfl;rfl;rfl;focus (refine bL rfl (aD v rfl) (Den.jm (d8 F W) (ma _) nt1 (A.set c6) (aP (lf s) (aP (iy 1) (aP (jw false) bY)))) ?_;exact⟨rfl,rfl⟩))
       rw[lE];refine Dp ?_
       (apply aS;rfl;rfl;rfl;focus (refine dP ax rfl A3 rfl rfl rfl rfl rfl Rl (aD v rfl) ?_;exact⟨rfl,rfl⟩))
       refine Dp ?_;refine Ds ?_;exact dQ ⟨_,ag rfl (ag rfl (ag rfl (ag rfl (ag rfl (aZ _))))),rfl,g++[none],by rw[y,d,P4,P4,P4];rfl⟩
     .rintro L' h' ⟨rfl,g,rfl⟩;have hN:(h.set id (bU c')).length=h.length:=A1
      refine nQ ?_;refine dz mixed [0,1,2,3,4,5] [4] [0,1,2] A3 ?_;refine Dr ?_;refine Dr ?_;refine Dr ?_
      (apply kM;rfl;rfl;rfl;focus (intro hh;refine bL rfl (aD v rfl) (hok hh) ?_;exact⟨rfl,rfl⟩))
      refine Ds ?_;refine Dp ?_;refine dQ ?_;refine Wk ?_;refine sv rfl O ?_;exact Sd
 .have B:=hp;refine Wk ?_
  (refine dX rfl (λhp=> ?_) (λhp=> ?_))
  .refine Wk ?_;obtain⟨rfl,rfl⟩:=N (.inl (ON B));exact S8
  .cases hp
end
end Go.Proofs.YtkegnipofloejaaGreatDoor.Abs
namespace Go.Proofs.YtkegnipofloejaaGreatDoor.Abs
open Go.RowKit
section
open Den (jg Cur Sg D6P fO dS aj bD CurAt sV tV vA iF d8 jc eU lf iy jw DN lE nt1 nt2 ma bY aP bU)
def RowE(e:Td V):Prop:=∃(l q:Tm)(d:V),l.az<=900/\q.az<=900/\CdV d/\e=eV l q d
def mR(g:Cur->AV×Cur)(N:Nat):Nat->Cur->Td (Td V)->au->Nat->Cur×Td (Td V)×au×Nat
 |0,c,es,l,k=>(c,es,l,k)
 | f+1,c,es,l,k=>if es.length<N then match (g c).1 with
  | .tup [.agg e,.one (.lit (.bool true))]=>mR g N f (g c).2 (es++[e]) ((l++[some (Ob.row 9 [e])]++[some (Ob.row 9 [e])]).set k none++[some (Ob.row 9 (es++[e]))]) (l.length+2)
  | .tup [.agg e,.one (.lit (.bool false))]=>mR g N f (g c).2 es (l++[some (Ob.row 9 [e])]) k
  |_=>(c,es,l,k)
  else (c,es,l,k)
structure StR(s:Sg)(N:Nat)(x:Cur×List (List V)×au×Nat):Prop where
 inv:Den.Inv x.1
 rows:∀e∈x.2.1,RowE e
 len:x.2.1.length<=N
 sig:x.2.2.1[0]?=some (some (.row 3 [sV s]))
 row:x.2.2.1[x.2.2.2]?=some (some (.row 9 x.2.1))
 pos:0<x.2.2.2
section
variable {α:Type}{l:au}{k N:Nat}{s:Sg}{c c':Cur}{es:Td (Td V)}{e:Td V}
theorem fJ{l:Td α}{x:α}(h:l[k]? =some x):k<l.length:=(gI.1 h).1
theorem StR.yes(h:StR s N (c,es,l,k))(hi:Den.Inv c')(he:RowE e)(hl:es.length<N):StR s N (c',es++[e],(l++[some (Ob.row 9 [e])]++[some (Ob.row 9 [e])]).set k none++[some (Ob.row 9 (es++[e]))],l.length+2):=by
 obtain⟨h1,h2,d,h4,j,t⟩:=h;dsimp only at*;have l0:=fJ h4;refine⟨hi,λx v=> ?_,A4,?_,?_,A1⟩
 .grind
 .grind
 .grind
theorem StR.no(h:StR s N (c,es,l,k))(hi:Den.Inv c'):StR s N (c',es,l++[some (Ob.row 9 [e])],k):=by
 obtain⟨h1,h2,d,h4,j,t⟩:=h;dsimp only at*;exact⟨hi,h2,d,ba 0 h4,ba k j,t⟩
theorem mF(l:Td α)(x y:α):(l++[x]).set l.length y=l++[y]:=A1
end
section
variable {gD : Cur → Sg → Int → Bool → Y (Tm × Cur)} {gO : Cur → Int → Y (Bool × Cur)} {gB : Cur → Int → Y (Int × Cur)}
theorem Cz{g:Cur->AV×Cur}{s:Sg}{N:Nat}(d:∀c,Den.Inv c->Den.Inv (g c).2/\uV (g c).1):∀f c es l k,StR s N (c,es,l,k)->StR s N (mR g N f c es l k)
 |0,_,_,_,_,h=>h
 | f+1,c,es,l,k,h=>by
  obtain⟨i,t⟩:=d c h.inv;unfold mR;split
  .rename_i j;rcases t with e|⟨a,b,v,ok,w,y,hk,e⟩
   .rw[e];exact Cz d f _ _ _ _ (h.no i)
   .rw[e];cases ok with
    |true=>exact Cz d f _ _ _ _ (h.yes i ⟨a,b,v,w,y,hk,rfl⟩ j)
    |false=>exact Cz d f _ _ _ _ (h.no i)
  .exact h
theorem qp(Z:D6P gD)(hO:fO gO)(U:dS gB)(eD:aj (Den.z43.ent gD))(eO:aj (Den.z3e.ent gO))(W:aj (Den.z35.ent gB))(s:Sg)(hS:Den.SgD s)(w:Int)(hm:0<=w/\w<=3)(c:Cur)(hi:Den.Inv c):
  ∃x,StR s 3 x/\∀(id:Nat)(h:au),CurAt h id c->Fn Tryz.prog 79 [.one (.ptr id 0 0),.agg (sV s),.one (.lit (.int .i64 w))] h (λr h'=>r= .one (.own (h.length+x.2.2.2) 0 x.2.1.length)/\h'=h.set id (bU x.1)++x.2.2.1):=by
 obtain⟨g,O⟩:∃g:Cur->AV×Cur,∀c,Den.Inv c->Den.Inv (g c).2/\uV (g c).1/\∀(id:Nat)(h:au),CurAt h id c->Fn Tryz.prog 117 [.one (.ptr id 0 0),.agg (sV s)] h (λP h'=>P=(g c).1/\h'=h.set id (bU (g c).2)):=
  Classical.axiomOfChoice (r:=λc (y:AV×Cur)=>Den.Inv c->Den.Inv y.2/\uV y.1/\∀(id:Nat)(h:au),CurAt h id c->Fn Tryz.prog 117 [.one (.ptr id 0 0),.agg (sV s)] h (λP h'=>P=y.1/\h'=h.set id (bU y.2))) λc=>by
   by_cases hc:Den.Inv c
   .obtain⟨r,c',a,b,d⟩:=Ak Z hO U eD eO W s hS c hc;exact⟨(r,c'),λ_=>⟨a,b,d⟩⟩
   .exact⟨(.dead,c),λh=>absurd h hc⟩
 obtain⟨⟨x,c1⟩,e1,X,Q,_,Y⟩:=U c (w+1) ⟨hi,A0⟩;dsimp only at X Q Y;have Q:=Q A0;obtain⟨N,rfl⟩:=Po X;have J:StR s N (c1,[],[some (.row 3 [sV s]),some (.row 9 [])],1):=⟨Y,λe he=>by simp at he,A1,rfl,rfl,A1⟩;have st:=Cz (N:=N) (λc hc=>⟨(O c hc).1,(O c hc).2.1⟩) (3*N) _ _ _ _ (J:StR s N _);obtain⟨fin,C⟩:∃fin,fin=mR g N (3*N) c1 [] [some (.row 3 [sV s]),some (.row 9 [])] 1:=⟨_,rfl⟩;rw[<-C]at st;refine⟨fin,⟨st.inv,st.rows,by have:=st.len;omega,st.sig,st.row,st.pos⟩,λid h hc=> ?_⟩;refine cW Tryz.func79 rfl rfl (O1 rfl) λE D=>fh ?_
 replace D:E.n=41:=D;have hE:=D
 have hN:h.length=h.length:=rfl;refine Wk ?_;refine aI rfl ?_;refine iF rfl (aD D rfl) (eU W e1) rfl nt2 hc hN (aP (iy _) bY) λh1 t K A=> ?_;rw[jg]
 replace hN:=K
 refine Wk ?_
 refine oh (λq L h'=>∃(k:Nat)(c:Cur)(es:Td (Td V))(l:au)(B:Nat),q=3*N-k/\k<=3*N/\StR s N (c,es,l,B)/\mR g N (3*N-k) c es l B=fin/\L=[(0,.one (.ptr id 0 0)),(4,.one (.ptr (h.length+0) 0 0)),(7,.one (.own (h.length+B) 0 es.length)),(8,.one (.lit (.int .i64 N))),(9,.one (.lit (.int .i64 k)))]/\h'=h.set id (bU c)++l) (n:=3*N)
  (L0:=[(0,.one (.ptr id 0 0)),(4,.one (.ptr (h.length+0) 0 0)),(7,.one (.own (h.length+1) 0 0)),(8,.one (.lit (.int .i64 N))),(9,.one (.lit (.int .i64 (0:Nat))))]) ?_ ?_ ?_
 .exact ag rfl (ag rfl (ag rfl (ag rfl (ag rfl (aZ _)))))
 .exact⟨0,c1,[],_,1,rfl,A0,J,C.symm,rfl,by rw[t];rfl⟩
 .clear K A hN t h1;rintro q L h' ⟨k,c2,es,l,B,rfl,hk,v,j,rfl,rfl⟩;obtain⟨h1,t⟩:∃h1,h1=h.set id (bU c2):=⟨_,rfl⟩;rw[<-t];have hN:h1.length=h.length:=by rw[t];simp
  have A:CurAt h1 id c2:=by rw[t];exact hc.set c2
  have bF:=v.len;dsimp only at bF;refine Wk ?_;have e3:AP .mul 3 (N:Int)=3*(N:Int):=by
   show IntKind.i64.wrap _=_;exact ku A0 A0
  (refine yE rfl rfl rfl rfl (aD D rfl) (λhp=> ?_) (λhp=> ?_))
  .have hk3:k<3*N:=by
    rw[e3]at hp;have:=ON hp;omega
   obtain⟨f,hf⟩:∃f,3*N-k=f+1:=⟨3*N-k-1,A0⟩;have F:3*N-(k+1)=f:=A0
   rw[hf]at j;refine Ao ?_;refine Wk ?_
   (refine dX rfl (λhp=> ?_) (λhp=> ?_))
   .have G:es.length<N:=by
     have:=ON hp;omega
    refine Wk ?_;refine aI rfl ?_;refine aB ax hN (k':=0) rfl rfl v.sig rfl rfl (aD D rfl) ?_;obtain⟨R,hv,H⟩:=O c2 v.inv;refine aI rfl ?_;refine bL rfl (aD D rfl) (H id (h1++l) (ba id A)) ?_;rw[kP id A];have S:(h1.set id (bU (g c2).2)).length=h.length:=Rv
    have hN:=S;unfold mR at j;rw[mt G]at j;rcases hv with e|⟨a,b,I,ok,ha,hb,T,e⟩
    .rw[e]at j ⊢;exact S1
    .rw [e]at j ⊢;have l0:=fJ v.row;have M:=v.row;dsimp only at l0 M;cases ok with
     | false=>
      exact S1
     | true=>
      dsimp only at j;refine Wk ?_;refine aI rfl ?_;refine bH ax hN (k':=l.length) rfl rfl rfl rfl rfl List.getElem?_concat_length rfl (O1 rfl) ?_;rw[mF];refine Wk ?_;refine iz rfl rfl ?_;refine Wk ?_;refine aI rfl ?_;refine aB ax hN (k':=l.length) rfl rfl List.getElem?_concat_length rfl rfl (aD D rfl) ?_;refine Wk ?_;refine aI rfl ?_;refine qh ax hN (k:=B) rfl rfl rfl A3 rfl rfl (ba B (ba B M)) (Pp _) rfl (uR (es:=[eV a b I]) (cd hN List.getElem?_concat_length) A1) A4 rfl (aD D rfl) ?_;refine Wk ?_;have hl2:((l++[some (Ob.row 9 [eV a b I])])++[some (Ob.row 9 [eV a b I])]).length=l.length+2:=A1
      refine⟨3*N-(k+1),[(0,.one (.ptr id 0 0)),(4,.one (.ptr (h.length+0) 0 0)),(7,.one (.own (h.length+(l.length+2)) 0 (es++[eV a b I]).length)),(8,.one (.lit (.int .i64 N))),(9,.one (.lit (.int .i64 (k+1:Nat))))],A0,?_,k+1,_,es++[eV a b I],_,l.length+2,rfl,A0,v.yes R ⟨a,b,I,ha,hb,T,rfl⟩ G,by rw[F];exact j,rfl,by rw[t,P4];rfl⟩;exact ag rfl (ag rfl (ag (by
       show some (AV.one (V.own (h.length+(l++[_]++[_]).length) 0 (es.length+1)))=_;simp) (ag rfl (ag rfl (aZ _)))))
   .have hge:¬es.length<N:=λG=>by
     have:¬((es.length:Int)<(N:Int)):=of_decide_eq_false hp;omega
    unfold mR at j;rw[O2 hge]at j;subst j;refine Wk ?_;exact pT (fy rfl rfl) (.inl ⟨rfl,by rw[t]⟩)
  .have hge:3*N-k=0:=by
    rw[e3]at hp;have:¬((k:Int)<3*(N:Int)):=of_decide_eq_false hp;omega
   rw[hge]at j;unfold mR at j;subst j;refine Wk ?_;refine cJ rfl rfl ?_;refine Wk ?_;exact pT (fy rfl rfl) (.inl ⟨rfl,by rw[t]⟩)
end
end
section
open Den (jg Cur Sg D6P fO dS L4P SgD aj bD CurAt sV tV vA iF d8 jc eU lf iy jw DN lE nt1 nt2 ma bY aP bU)
section
variable {gD : Cur → Sg → Int → Bool → Y (Tm × Cur)} {gO : Cur → Int → Y (Bool × Cur)} {gB : Cur → Int → Y (Int × Cur)} {gL : Cur → Y (Sg × Cur)}
theorem NJ(s:Sg):vA (.agg (Den.aC (.n 9) s))= .agg (sV s):=congrArg AV.agg (Den.MA s).vC.symm
theorem My(d:aj (Den.z3n.ent gL)){c c':Cur}{s:Sg}(h:gL c=some (s,c')):Den.CFn Tryz.prog 78 [.one (.p 0 0)] [.box (Den.gm c)] (.agg (Den.aC (.n 9) s)) [.box (Den.gm c')]:=
 Den.ia d (show (gL c).bind _=_ by rw[h];rfl)
theorem Ae(H:D6P gD)(I:fO gO)(J:dS gB)(R:L4P gL)(K:aj (Den.z43.ent gD))(L:aj (Den.z3e.ent gO))(M:aj (Den.z35.ent gB))(S:aj (Den.z3n.ent gL))(c:Cur)(hi:Den.Inv c):
  ∃ (s:Sg) (c':Cur) (e1 e2:Td (Td V)) (l:Nat->au) (k1 d:Nat),SgD s/\Den.Inv c'/\(∀e∈e1,RowE e)/\(∀e∈e2,RowE e)/\e1.length<=3/\e2.length<=3/\k1≠d/\(∀n,(l n)[k1]? =some (some (.row 9 e1)))/\(∀n,(l n)[d]? =some (some (.row 9 e2)))/\
   ∀(id:Nat)(h:au),CurAt h id c->Fn Tryz.prog 49 [.one (.ptr id 0 0)] h (λr h'=>r= .agg (sV s++[.own (h.length+k1) 0 e1.length,.own (h.length+d) 0 e2.length])/\h'=h.set id (bU c')++l h.length):=by
 obtain⟨⟨s,c1⟩,g1,hs,N⟩:=R c hi;dsimp only at hs N;obtain⟨⟨c2,e1,l1,k1⟩,v,j⟩:=qp H I J K L M s hs 3 A0 c1 N;obtain⟨⟨c3,e2,l2,d⟩,w,t⟩:=qp H I J K L M s hs 2 A0 c2 v.inv;have O:=v.row;have P:=w.row;dsimp only at j t O P;have X:=fJ O;refine⟨s,c3,e1,e2,λn=>[some (.row 5 [sV s++[.own (n+(2+k1)) 0 e1.length,.own (n+(2+l1.length+d)) 0 e2.length]]),some (.row 3 [sV s])]++l1++l2,2+k1,2+l1.length+d,hs,w.inv,v.rows,w.rows,v.len,w.len,A0,λn=> ?_,λn=> ?_,λid h hc=> ?_⟩
 .grind
 .dsimp only;rw[aR A4];rw[<-P]
  congr 1
  simp;omega
 refine cW Tryz.func49 rfl rfl (O1 rfl) λE A=>fh ?_
 replace A:E.n=14:=A;have hE:=A
 have hN:h.length=h.length:=rfl;refine Wk ?_;refine aI rfl ?_;refine iF rfl (aD A rfl) (My S g1) (by exact Den.iS (T:=.n 9) A3 s) nt1 hc hN bY λh1 C D y=> ?_;rw[NJ]
 replace hN:=D
 refine Wk ?_;have U:∀lc:au,Fn Tryz.prog 79 [.one (.ptr id 0 0),.agg (sV s),.one (.lit (.int .i64 3))] (h1++lc) (λr h'=>r= .one (.own (h.length+(lc.length+k1)) 0 e1.length)/\h'=h1.set id (bU c2)++(lc++l1)):=λlc=>by
  have:=j id (h1++lc) (ba id y)
  rwa [kP id y,O5,OJ,hN,Pk]at this
 have B:CurAt (h1.set id (bU c2)) id c2:=y.set c2;have F:(h1.set id (bU c2)).length=h.length:=Rv;have hj:=F
 have W:∀lc:au,Fn Tryz.prog 79 [.one (.ptr id 0 0),.agg (sV s),.one (.lit (.int .i64 2))] (h1.set id (bU c2)++lc) (λr h'=>r= .one (.own (h.length+(lc.length+d)) 0 e2.length)/\h'=(h1.set id (bU c2)).set id (bU c3)++(lc++l2)):=λlc=>by
  have:=t id (h1.set id (bU c2)++lc) (ba id B)
  rwa [kP id B,O5,OJ,F,Pk]at this
 have G:((h1.set id (bU c2)).set id (bU c3)).length=h.length:=Rv;have ht:=G
 refine dz mixed [1,2,3,4,5,6,0,7,8] [3,6,8] [0,2,5] A3 ?_;refine Dp ?_;refine Dr ?_
 (apply aS;rfl;rfl;rfl;focus (refine bL rfl (aD A rfl) (U _) ?_;exact⟨rfl,rfl⟩))
 refine Dp ?_;refine Dr ?_
 (apply aS;rfl;rfl;rfl;focus (refine bL rfl (aD A rfl) (W _) ?_;exact⟨rfl,rfl⟩))
 refine Dr ?_;refine Dp ?_;refine Ds ?_;refine dQ ?_;refine Wk ?_;have Q:∀lc:au,lc.length=2->h.length+((lc++l1).length+d)=h.length+(2+l1.length+d):=λlc hl=>by rw[OJ,hl]
 refine pT (vg ax G rfl rfl rfl rfl rfl rfl) (.inl ⟨?_,?_⟩)
 .refine congrArg AV.agg ?_;show sV s++[V.own (h.length+(2+k1)) 0 e1.length,V.own (h.length+(([some (Ob.row 5 [_]),some (Ob.row 3 [sV s])]++l1).length+d)) 0 e2.length]=_;rw[Q _ rfl]
 .rw[C,P4,P4];show _++(some (Ob.row 5 [sV s++[V.own (h.length+(2+k1)) 0 e1.length,V.own (h.length+(([some (Ob.row 5 [_]),some (Ob.row 3 [sV s])]++l1).length+d)) 0 e2.length]])::some (Ob.row 3 [sV s])::(l1++l2))=_;rw[Q _ rfl];rfl
end
end
end Go.Proofs.YtkegnipofloejaaGreatDoor.Abs
namespace Go.Proofs.YtkegnipofloejaaGreatDoor.Den
open Go.RowKit
open Classical
def mI(m:Md):Bool:=(decide ((m.eqs.length:Int)<=16)&&decide ((m.rules.length:Int)<=16))&&((m.eqs++m.rules).all (eJ m.sig))
def SmM(m:Md):Prop:=(∀e∈m.eqs,SmE e)/\(∀e∈m.rules,SmE e)
noncomputable def AE:Md->Y Bool:=λm=>if SmM m/\SgD m.sig then some (bD m.sig&&mI m)else none
noncomputable abbrev GMd:z2l.Gs:=⟨qj,Ag⟩
theorem z2m:aj (z2l.ent AE):=z2l.ok (G:=GMd) ⟨z4k,z2k,trivial⟩ λm r h=>by
 unfold AE at h;split at h
 .rename_i hs;obtain⟨⟨h1,h2⟩,t⟩:=hs;cases h;refine⟨17,?_⟩;unfold z2l.aq;show Option.bind (qj m.sig) _=_;rw[show qj m.sig=some (bD m.sig)from mt t,bS];cases hS:bD m.sig with
  |false=>rfl
  | true=>
   rw[O4,cF,O7];unfold mI;rw[nz,nz];cases l1:decide ((m.eqs.length:Int)<=16)with
   |false=>rfl
   | true=>
    rw[O4,cF,O7];cases l2:decide ((m.rules.length:Int)<=16)with
    |false=>rfl
    | true=>
     have l1:=ON l1;have l2:=ON l2;rw[O4,cF,O7];have step:∀(e:Eqn)(A B:Y (AT×Td Ob)),SmE e->(Option.bind (Ag m.sig e) λr=>bif !r then A else B)=bif eJ m.sig e then B else A:=λe A B he=>by
      rw[show Ag m.sig e=some (bD m.sig&&eJ m.sig e)from mt ⟨he,t⟩,bS,hS,O7];cases eJ m.sig e<;>rfl
     refine(Ef m.eqs (eJ m.sig) (λi d=>z2l.b4 GMd 17 m.sig.ai.ak m.sig.ai.aA m.sig.ops m.eqs m.rules i d _ _) (some (AT.one (.b false),[])) (bif m.rules.all (eJ m.sig)then some (AT.one (.b true),[])else some (AT.one (.b false),[])) (λd=> ?_) (λi e d hi=> ?_) _ 0 A0 A0).trans ?_
     .unfold z2l.b4;rw[bh (Pc _),cF];refine(Ef m.rules (eJ m.sig) (λi d=>z2l.b9 GMd 17 m.sig.ai.ak m.sig.ai.aA m.sig.ops m.eqs m.rules i d _ _) (some (AT.one (.b false),[])) (some (AT.one (.b true),[])) (λd=> ?_) (λi e d hi=> ?_) _ 0 A0 A0).trans ?_
      .unfold z2l.b9;rw[bh (Pc _),cF]
      .have j:i<m.rules.length:=(gI.1 hi).1;unfold z2l.b9;rw[bt j,cT,aW hi,bS,Tm.eta,Tm.eta,Eqn.eta,bw A0];exact step e _ _ (h2 e (mG hi))
      .rw[OQ]
     .have j:i<m.eqs.length:=(gI.1 hi).1;unfold z2l.b4;rw[bt j,cT,aW hi,bS,Tm.eta,Tm.eta,Eqn.eta,bw A0];exact step e _ _ (h1 e (mG hi))
     .rw[OQ,Qf];cases m.eqs.all (eJ m.sig)<;>cases m.rules.all (eJ m.sig)<;>rfl
 .cases h
end Go.Proofs.YtkegnipofloejaaGreatDoor.Den
namespace Go.Proofs.YtkegnipofloejaaGreatDoor.Abs
open Go.RowKit
open Den (jg Cur Sg D6P fO dS L4P SgD aj bD CurAt sV tV vA iF d8 jc eU lf iy jw DN lE nt1 nt2 ma bY aP bU)
section
def GE(e:Td V):Prop:=∃(q:Den.Eqn)(d:Td V),Den.FRs (Den.aC (.n 14) q) d/\Den.ke e d/\Den.SmE q
theorem wi:∀{es:Td (Td V)},(∀e∈es,GE e)->∃j es',Den.jA es es'/\Den.FRl (.n 14) j es'/\∀q∈j,Den.SmE q
 |[],_=>⟨[],[],.nil,.nil,λq h=>HC⟩
 | e::es,h=>by
  obtain⟨q,t,h1,h2,v⟩:=h e A1;obtain⟨j,es',k1,w,y⟩:=wi λx d=>h x (Qr _ d);exact⟨q::j,t::es',.cons h2 k1,.cons h1 w,λx d=>by
   rcases List.mem_cons.1 d with rfl|d
   .exact v
   .exact y x d⟩
theorem HI{l q:Tm}{h:V}(cs:Td Den.Cnd)(hl:l.az<=2000)(v:q.az<=2000)(hc:∀c∈cs,c.left.az<=2000/\c.right.az<=2000)(t:Den.Imp h (.imm 8 (cs.map λc=>tV c.left++tV c.right))):GE (eV l q h):=
 ⟨⟨l, q,cs⟩,eV l q (.imm 8 (cs.map fun c=>tV c.left++tV c.right)),Hu l q cs,⟨rfl,fun j h1 h2=>by
  match j,h1 with
  |0,_=>exact T5
  |1,_=>exact T5
  |2,_=>exact T5
  |3,_=>exact T5
  |4,_=>exact T5
  |5,_=>exact T5
  |6,_=>exact T5
  |7,_=>exact T5
  |8,_=>exact t⟩,by show l.az<_;omega,by show q.az<_;omega,λc d=>by have:=hc c d;omega⟩
theorem CdV.imp{j:V}(h:CdV j):∃cs:Td Den.Cnd,(∀c∈cs,c.left.az<=2000/\c.right.az<=2000)/\Den.Imp j (.imm 8 (cs.map λc=>tV c.left++tV c.right)):=by
 rcases h with rfl|⟨a,b,rfl,t,v⟩
 .exact⟨[],A1,λI w ι u d=>by cases d;exact .eE A0⟩
 .exact⟨[⟨a,b⟩],A4,λI w ι u d=>d.imm_of⟩
theorem RowE.ge{e:Td V}(h:RowE e):GE e:=by
 obtain⟨l,q,d,hl,j,hk,rfl⟩:=h;obtain⟨cs,h1,h2⟩:=hk.imp;exact HI cs A0 A0 h1 h2
def Gt(h:au)(id:Nat)(r:AV)(h':au):Prop:=∃(m:Den.Md)(vs:Td V)(c':Cur),SgD m.sig/\Den.SmM m/\Den.Inv c'/\Den.FRs (Den.aC (.n 15) m) vs/\r= .agg vs/\h'=h.set id (bU c')
theorem Ic{h h1 l:au}{L:Env}{id a b:Nat}{c':Cur}{s:Sg}{e1 e2:Td (Td V)}(e:h1=h.set id (bU c'))(hs:SgD s)(hi:Den.Inv c')(h0:l[0]? =some (some (.row 5 [sV s++[.own (h.length+a) 0 e1.length,.own (h.length+b) 0 e2.length]])))
  (y:l[a]?=some (some (.row 9 e1))) (A:l[b]? =some (some (.row 9 e2))) (hab:a≠b) (g1:∀e∈e1,GE e) (T:∀e∈e2,GE e) (U:L.lookup 2=some (.one (.ptr (h.length+0) 0 0))):px Tryz.prog Tryz.f29 h (Gt h id) .ret L (h1++l):=by
 have hN:h1.length=h.length:=QJ
 obtain⟨q1,d,I,J,s1⟩:=wi g1;obtain⟨q2,d2,K,M,s2⟩:=wi T;have N:=J.fr A3;have O:=M.fr A3;have B:d.all (·.all V.flat)=true:=N.fZ;have C:d2.all (·.all V.flat)=true:=O.fZ;have W:=I.len;have X:=K.len;have a0:a≠0:=λe=>by subst e;rw[h0]at y;cases y
 have b0:b≠0:=λe=>by subst e;rw[h0]at A;cases A
 have Y:=fJ y;have Z:=fJ A
 have lens:∀{qs:Td Den.Eqn}{P:Td (Td V)},Den.FRl (.n 14) qs P->∀e∈P,e.length=9:=λh=>by
  have:=h.fr A3;cases this with
  |l _ _ hs _=>exact hs
 have Q:=Den.br.imp (L:=L) (cd hN y) I (lens J);rw[fS hN]at Q;have D:(l.set a (some (.row 9 d)))[b]? =some (some (.row 9 e2)):=by rw[sN hab];exact A
 have E:=Den.br.imp (L:=L) (cd hN D) K (lens M);rw[fS hN]at E;have t:((l.set a (some (.row 9 d))).set b (some (.row 9 d2)))[0]? =some (some (.row 5 [sV s++[.own (h.length+a) 0 e1.length,.own (h.length+b) 0 e2.length]])):=by rw[sN b0,sN a0];exact h0
 have v:((l.set a (some (.row 9 d))).set b (some (.row 9 d2)))[a]? =some (some (.row 9 d)):=by rw[sN (Qc hab),sS Y]
 have w:((l.set a (some (.row 9 d))).set b (some (.row 9 d2)))[b]? =some (some (.row 9 d2)):=by rw[sS (by simpa using Z)]
 generalize (l.set a (some (.row 9 d))).set b (some (.row 9 d2))=l2 at E t v w;have R:=br.freezeCellL (L:=L) hN a 0 v t (Qc a0) B (by simp[V.fits];omega);have e3:([sV s++[V.own (h.length+a) 0 e1.length,V.own (h.length+b) 0 e2.length]].map (·.map (V.fz (h.length+a) 9 d)))=[sV s++[V.imm 9 d,V.own (h.length+b) 0 e2.length]]:=by
  have F:¬b=a:=λe=>hab e.symm;simp[V.fz,F,W]
 rw[e3]at R;have l0:=fJ t;have G:((l2.set a none).set 0 (some (.row 5 [sV s++[V.imm 9 d,V.own (h.length+b) 0 e2.length]])))[0]? =some (some (.row 5 [sV s++[V.imm 9 d,V.own (h.length+b) 0 e2.length]])):=by rw[sS (by simpa using l0)]
 have H:((l2.set a none).set 0 (some (.row 5 [sV s++[V.imm 9 d,V.own (h.length+b) 0 e2.length]])))[b]? =some (some (.row 9 d2)):=by rw[sN (Qc b0),sN hab];exact w
 have S:=br.freezeCellL (L:=L) hN b 0 H G (Qc b0) C (by simp[V.fits];omega);have e4:([sV s++[V.imm 9 d,V.own (h.length+b) 0 e2.length]].map (·.map (V.fz (h.length+b) 9 d2)))=[sV s++[V.imm 9 d,V.imm 9 d2]]:=by
  simp[V.fz,X]
 rw[e4]at S;refine retF (r:=.agg (sV s++[V.imm 9 d,V.imm 9 d2])) (Q.trans (E.trans (R.trans S))) (vg ax hN rfl U rfl (sS (by simpa using l0)) rfl rfl) ?_;subst e
 refine Cm Rl (by
  show [(Den.gm c').map Den.vC].all (·.all V.flat)=true;rw[Pe,(Den.Fy c').flat];rfl) ⟨⟨s,q1,q2⟩,_,c',hs,⟨s1,s2⟩,hi,?_,rfl,rfl⟩
 have a:=Den.MA s;exact⟨rfl,λj k1 k2=>by
  match j,k1 with
  |0,_=>exact a.2 0 (O1 rfl) (O1 rfl)
  |1,_=>exact a.2 1 (O1 rfl) (O1 rfl)
  |2,_=>exact a.2 2 (O1 rfl) (O1 rfl)
  |3,_=>exact N
  |4,_=>exact O⟩
end
abbrev sT:V:=.lit (.slice none 0 0)
abbrev zM:Td V:=[sT,sT,sT,sT,sT]
theorem JC(t:Tm)(x:Z):(Tm.mk t.op x t.am t.ae).az<=t.az+x.size:=by
 rw[Tm.lS,Tm.lS t];show x.size+aF t.ae<=_;omega
structure FS(n:Nat)(s:Sg)(p a b:Nat)(e1 e2:List (List V))(l:au):Prop where
 fz:l[0]?=some (some (.row 5 [zM]))
 fm:l[p]?=some (some (.row 5 [sV s++[.own (n+a) 0 e1.length,.own (n+b) 0 e2.length]]))
 fa:l[a]?=some (some (.row 9 e1))
 fb:l[b]?=some (some (.row 9 e2))
 fd:a≠b
section
variable {n p a b : Nat} {s : Sg} {e1 e2 e3 : Td (Td V)} {l : au}
theorem FS.app(h:FS n s p a b e1 e2 l)(g:au):FS n s p a b e1 e2 (l++g):=⟨ba 0 h.fz,ba p h.fm,ba a h.fa,ba b h.fb,h.fd⟩
theorem FS.ne(h:FS n s p a b e1 e2 l):a≠0/\a≠p:=
 ⟨λe=>by have h1:=h.fz;rw[<-e,h.fa]at h1;exact absurd h1 nofun,λe=>by have h1:=h.fm;rw[<-e,h.fa]at h1;exact absurd h1 nofun⟩
theorem FS.set(h:FS n s p a b e1 e2 l)(hl:e3.length=e1.length):FS n s p a b e3 e2 (l.set a (some (.row 9 e3))):=
 ⟨by rw[sN h.ne.1];exact h.fz,by rw[sN h.ne.2,hl];exact h.fm,sS (fJ h.fa),by rw[sN h.fd];exact h.fb,h.fd⟩
end
section
variable {h h1 l:au}{L:Env}{id p a b n k:Nat}{s:Sg}{e1 e2 es:Td (Td V)}
theorem FS.done{c':Cur}(F:FS h.length s p a b e1 e2 l)(e:h1=h.set id (bU c'))(hs:SgD s)(hi:Den.Inv c')(g1:∀e∈e1,GE e)(d:∀e∈e2,GE e)(j:L.lookup 2=some (.one (.ptr (h.length+0) 0 0))):
  px Tryz.prog Tryz.f29 h (Gt h id) .ret L (h1++l.set 0 (some (.row 5 [sV s++[.own (h.length+a) 0 e1.length,.own (h.length+b) 0 e2.length]]))):=by
 refine Ic e hs hi (sS (fJ F.fz)) ((sN (Qc F.ne.1)).trans F.fa) ((sN λe=> ?_).trans F.fb) F.fd g1 d j;have h1:=F.fz;rw[e,F.fb]at h1;exact absurd h1 nofun
theorem RowE.fz{e:Td V}(h:RowE e)(id k:Nat)(es:Td (Td V)):e.map (V.fz id k es)=e/\e.all (V.fits id es.length)=true:=by
 obtain⟨l,q,d,_,_,hk,rfl⟩:=h;rcases hk with rfl|⟨x,y,rfl,_⟩<;>exact⟨rfl,rfl⟩
theorem FS.kill(F:FS n s p a b e1 e2 l)(hk:l[k]? =some (some (.row 8 es))):a≠k/\FS n s p a b e1 e2 (l.set k none):=by
 have d:a≠k:=λe=>by have h:=F.fa;rw[e,hk]at h;exact absurd h nofun
 have j:k≠0:=λe=>by have h:=F.fz;rw[<-e,hk]at h;exact absurd h nofun
 have t:k≠p:=λe=>by have h:=F.fm;rw[<-e,hk]at h;exact absurd h nofun
 have v:k≠b:=λe=>by have h:=F.fb;rw[<-e,hk]at h;exact absurd h nofun
 exact⟨d,(sN j).trans F.fz,(sN t).trans F.fm,(sN (Qc d)).trans F.fa,(sN v).trans F.fb,F.fd⟩
theorem qG{P:Program}{E:Cx}{K:Env->au->Prop}{h0:au}{d:Nat}{ty:TypeId}{pos:String}{af:Array Edge}{gd:Y (Nat×Bool)}{tb:Tbl}(w:cm P tb)(A:h0.length=n){t tx:TypeId}{x y:Operand}{s:Nat}{ns:Td (Td V)}{j:ElI}(D:ev L x=some (.one (.di s es)))(he:du tb t=some j)(B:j.zero≠[])(F:j.zero.length=j.size)(hs:j.size=s)
  (h:o8 P E L (h0++l) s tx y ns) (hm0:0<ns.length) (v:es.length+ns.length<=4294967296) (C:Nat.ble j.bytes 4096=true) (G:d<E.n)
  (hk:K ((d,.one (.own (n+l.length) 0 (es.length+ns.length)))::L) (h0++(l++[some (.row s (es++ns))]))):ar P ⟨some d,.call ⟨.builtin .append,#[x,y],#[t,tx]⟩,ty,pos,af,gd⟩ E K L (h0++l):=by
 refine rB w D he B F hs h hm0 v C G ?_;rw[gH A,O5];exact hk
theorem FS.frz{i:Nat}{t q:Tm}{cs:Td Den.Cnd}(F:FS n s p a b (e1.set i (eV t q (.own (n+k) 0 cs.length))) e2 l)(hN:h1.length=n)(hk:l[k]? =some (some (.row 8 (cs.map λc=>tV c.left++tV c.right))))(j:∀e∈e1,RowE e)
  (C:t.az<=900) (D:q.az<=900) (hc:∀c∈cs,c.left.az<=900/\c.right.az<=900):∃v e3,br L (h1++l) L (h1++v)/\FS n s p a b e3 e2 v/\∀e∈e3,GE e:=by
 obtain⟨w,A⟩:=F.kill hk;have key:∀x∈e1.set i (eV t q (.own (n+k) 0 cs.length)),(GE (x.map (V.fz (n+k) 8 (cs.map λc=>tV c.left++tV c.right)))/\x.all (V.fits (n+k) (cs.map λc=>tV c.left++tV c.right).length)=true):=λx d=>by
  rcases PH d with h|rfl
  .have:=(j x h).fz (n+k) 8 (cs.map λc=>tV c.left++tV c.right);rw[this.1];exact⟨(j x h).ge,this.2⟩
  .refine⟨?_,by simp[V.fits]⟩;have e:(eV t q (.own (n+k) 0 cs.length)).map (V.fz (n+k) 8 (cs.map λc=>tV c.left++tV c.right))=eV t q (.imm 8 (cs.map λc=>tV c.left++tV c.right)):=by simp[V.fz];exact Pv A1
   rw[e];exact HI cs A0 A0 (λc h=>by have:=hc c h;omega) (Den.Imp.refl _)
 have S:=br.freezeCellL (L:=L) hN k a hk F.fa w (by
  rw[List.all_map,aT];intro c _;show (tV c.left++tV c.right).all V.flat=true;rw[Qf,CM,CM];rfl) (aT.2 λx d=>(key x d).2)
 exact⟨_,_,S,A.set A1,λx d=>by
  obtain⟨y,B,rfl⟩:=List.mem_map.1 d;exact(key y B).1⟩
def BJ(h:au)(id:Nat)(s:Sg)(p a b:Nat)(e2:Td (Td V))(L':Env)(h':au):Prop:=
 L'=[(2,.one (.ptr (h.length+0) 0 0)),(3,.one (.ptr (h.length+p) 0 0))]/\∃(c:Cur)(l:au)(e1:Td (Td V)),Den.Inv c/\FS h.length s p a b e1 e2 l/\(∀e∈e1,GE e)/\br L' h' L' (h.set id (bU c)++l)
theorem BJ.mk{h':au}{d:Env}{c:Cur}(h2:d.lookup 2=some (.one (.ptr (h.length+0) 0 0)))(j:d.lookup 3=some (.one (.ptr (h.length+p) 0 0)))(e:h'=h.set id (bU c)++l)(hi:Den.Inv c)(F:FS h.length s p a b e1 e2 l)(g:∀e∈e1,GE e):
  ∃L',Sub L' d/\BJ h id s p a b e2 L' h':=⟨_,ag h2 (ag j (aZ _)),rfl,c,l,e1,hi,F,g,e▸.refl _ _⟩
end
section
variable {gD : Cur → Sg → Int → Bool → Y (Tm × Cur)} {gO : Cur → Int → Y (Bool × Cur)} {gB : Cur → Int → Y (Int × Cur)} {gL : Cur → Y (Sg × Cur)}
theorem zS(hD:D6P gD)(hO:fO gO)(hB:dS gB)(hL:L4P gL)(eD:aj (Den.z43.ent gD))(eO:aj (Den.z3e.ent gO))(eB:aj (Den.z35.ent gB))(eL:aj (Den.z3n.ent gL))(c:Cur)(hi:Den.Inv c)(id:Nat)(h:au)(hc:CurAt h id c):
  Fn Tryz.prog 29 [.one (.ptr id 0 0)] h (Gt h id):=by
 obtain⟨s,c1,e1,e2,l,k1,I,hs,i1,P,r2,n1,n2,hk,g1,g2,call⟩:=Ae hD hO hB hL eD eO eB eL c hi;refine cW Tryz.func29 rfl rfl (O1 rfl) λE j=>fh ?_
 replace j:E.n=88:=j;have hE:=j
 have hN:h.length=h.length:=rfl;refine Wk ?_;refine aI rfl ?_;refine bL rfl (aD j rfl) (call id (h++[some (Ob.row 5 [zM])]) (ba id hc)) ?_;rw[kP id hc];obtain⟨h1,B⟩:∃h1,h1=h.set id (bU c1):=⟨_,rfl⟩;rw[<-B,O5];have hN:h1.length=h.length:=by rw[B];simp
 have J:CurAt h1 id c1:=by rw[B];exact hc.set c1
 rw[show ∀k,(h++[some (Ob.row 5 [zM])]).length+k=h.length+(1+k)from λk=>A4,show ∀k,(h++[some (Ob.row 5 [zM])]).length+k=h.length+(1+k)from λk=>A4];have Q:=g1 (h++[some (Ob.row 5 [zM])]).length;have R:=g2 (h++[some (Ob.row 5 [zM])]).length;generalize l (h++[some (Ob.row 5 [zM])]).length=K at Q R ⊢;refine Wk ?_;refine aI rfl ?_;refine bH ax hN (k':=([some (Ob.row 5 [zM])]++K).length) rfl rfl rfl rfl rfl List.getElem?_concat_length rfl (O1 rfl) ?_;rw[mF];refine fD (fU (cB (L':=[(0,.one (.ptr id 0 0)),(2,.one (.ptr (h.length+0) 0 0)),(3,.one (.ptr (h.length+([some (Ob.row 5 [zM])]++K).length) 0 0))]) (ag rfl (ag rfl (ag rfl (aZ _)))) (n7 (h':=h1++(([some (Ob.row 5 [zM])]++K)++[some (Ob.row 5 [sV s++[V.own (h.length+(1+k1)) 0 e1.length,V.own (h.length+(1+I)) 0 e2.length]])])) rfl ?_)))
 have F:FS h.length s ([some (Ob.row 5 [zM])]++K).length (1+k1) (1+I) e1 e2 (([some (Ob.row 5 [zM])]++K)++[some (Ob.row 5 [sV s++[V.own (h.length+(1+k1)) 0 e1.length,V.own (h.length+(1+I)) 0 e2.length]])]):=
  ⟨rfl,List.getElem?_concat_length,ba _ (by rw[Nat.add_comm];exact Q),ba _ (by rw[Nat.add_comm];exact R),A0⟩
 generalize ([some (Ob.row 5 [zM])]++K)++[some (Ob.row 5 [sV s++[V.own (h.length+(1+k1)) 0 e1.length,V.own (h.length+(1+I)) 0 e2.length]])]=lc at F ⊢;generalize ([some (Ob.row 5 [zM])]++K).length=p at F ⊢;clear Q R g1 g2 call hk;generalize 1+k1=a at F ⊢;generalize 1+I=b at F ⊢;have M:=F.fm;refine Wk ?_;refine aI rfl ?_;refine aB ax hN rfl rfl M rfl rfl (aD j rfl) ?_;refine Wk ?_
 (refine dX rfl (λhp=> ?_) (λhp=> ?_))
 .refine Wk ?_;refine aI rfl ?_;refine aB ax hN rfl rfl M rfl rfl (aD j rfl) ?_;refine Wk ?_;refine aI rfl ?_;refine bH ax hN rfl rfl rfl rfl rfl F.fz rfl (O1 rfl) ?_;refine Wk ?_;exact F.done B hs i1 (λe he=>(P e he).ge) (λe he=>(r2 e he).ge) rfl
 .refine Wk ?_;have T:0<e1.length:=by
   have:¬(e1.length:Int)=0:=of_decide_eq_false hp;omega
  obtain⟨⟨x,c2⟩,e4,Y,N,_,i2⟩:=hB c1 (e1.length:Int) ⟨i1,A0⟩;dsimp only at Y N i2;have N:=N A0;have y:(h1.set id (bU c2)).length=h.length:=Rv
  refine jC (λL' h'=>L'=[(0,.one (.ptr id 0 0)),(2,.one (.ptr (h.length+0) 0 0)),(3,.one (.ptr (h.length+p) 0 0)),(4,.one (.ptr (h.length+a) (0+x.toNat) 0))]/\h'=h1.set id (bU c2)++lc) ?_ ?_
  .refine dz mixed [2,3,4,5,6,0,1,7,8] [6] [1,4,7] A3 ?_;refine Dp ?_;refine Dp ?_
   (apply bK;rfl;rfl;rfl;rfl;focus (intro H hm;have hm:=O6 hm;simp only[OI,O9,or_false]at hm;first|(subst hm;exact aB ax hN rfl rfl M rfl rfl (aD j rfl) ⟨rfl,rfl⟩)|(rcases hm with rfl|rfl<;>first|exact aB ax hN rfl rfl M rfl rfl (aD j rfl) ⟨rfl,rfl⟩|exact aB ax y rfl rfl M rfl rfl (aD j rfl) ⟨rfl,rfl⟩)))
   refine Dp ?_
   (apply aS;rfl;rfl;rfl;focus (refine bL rfl (aD j rfl) (Den.jm (eU eB e4) rfl nt2 J (aP (iy _) bY)) ?_;exact⟨rfl,rfl⟩))
   rw[jg];refine Dp ?_
   (apply bK;rfl;rfl;rfl;rfl;focus (intro H hm;have hm:=O6 hm;simp only[OI,O9,or_false]at hm;first|(subst hm;exact aB ax hN rfl rfl M rfl rfl (aD j rfl) ⟨rfl,rfl⟩)|(rcases hm with rfl|rfl<;>first|exact aB ax hN rfl rfl M rfl rfl (aD j rfl) ⟨rfl,rfl⟩|exact aB ax y rfl rfl M rfl rfl (aD j rfl) ⟨rfl,rfl⟩)))
   (apply bK;rfl;rfl;rfl;rfl;focus (intro H hm;have hm:=O6 hm;simp only[OI,O9,or_false]at hm;first|(subst hm;exact qa ax hN rfl rfl rfl F.fa rfl A3 Y N (aD j rfl) ⟨rfl,rfl⟩)|(rcases hm with rfl|rfl<;>first|exact qa ax hN rfl rfl rfl F.fa rfl A3 Y N (aD j rfl) ⟨rfl,rfl⟩|exact qa ax y rfl rfl rfl F.fa rfl A3 Y N (aD j rfl) ⟨rfl,rfl⟩)))
   refine Dp ?_;exact dQ ⟨_,ag rfl (ag rfl (ag rfl (ag rfl (aZ _)))),rfl,rfl⟩
  .rintro L' h' ⟨rfl,rfl⟩;obtain⟨i,U⟩:∃i,i=0+x.toNat:=⟨_,rfl⟩;rw[<-U];obtain⟨e,he,hm⟩:∃e,e1[i]? =some e/\e∈e1:=⟨_,O0 A0,gM _⟩;obtain⟨t,q,cv,Z,hq,hk,rfl⟩:=P _ hm;have W:=J.set c2;have X:h1.set id (bU c2)=h.set id (bU c2):=by rw[B,P4]
   clear B J hN hp M N U e4 T;generalize h1.set id (bU c2)=h2 at*;obtain⟨⟨d,c3⟩,e5,d0,d1,_,O⟩:=hB c2 16 ⟨i2,A0⟩;dsimp only at d0 d1 O;refine Wk ?_;refine aI rfl ?_;refine iF rfl (aD j rfl) (eU eB e5) rfl nt2 W y (aP (iy _) bY) λh3 C hN3 hc3=> ?_;rw[jg];rw[X,P4]at C;have Q:∀e∈e1,GE e:=λe he=>(P e he).ge;have R:∀e∈e2,GE e:=λe he=>(r2 e he).ge;have hN:=hN3;clear W X y e5 d0 d1 h2 r2;refine fD (fU (jC (BJ h id s p a b e2) ?_ ?_))
   .have Ms:∀{e':Td V},GE e'->∀x∈e1.set i e',GE x:=λg x hx=>G1
    refine Wk ?_
    (refine dX rfl (λhp=> ?_) (λhp=> ?_))
    .have la:=fJ F.fa;refine Wk ?_;refine aI rfl ?_;refine aB ax hN rfl rfl F.fa he rfl (aD j rfl) ?_;refine Wk ?_;refine aI rfl ?_;refine bH ax hN (k':=lc.length) rfl rfl rfl rfl rfl List.getElem?_concat_length rfl (O1 rfl) ?_;rw[mF];refine Wk ?_;refine aI rfl ?_;refine aB ax hN rfl rfl (ba a F.fa) he rfl (aD j rfl) ?_;refine Wk ?_;refine aI rfl ?_;refine bH ax hN rfl rfl rfl rfl rfl (ba a F.fa) he (O1 rfl) ?_;refine Wk ?_;refine aI rfl ?_;refine aB ax hN (k':=lc.length) rfl rfl ((sN A0).trans List.getElem?_concat_length) rfl rfl (aD j rfl) ?_;refine Wk ?_;refine aI rfl ?_;refine bH ax hN rfl rfl rfl rfl rfl (sS A4) (sS (fJ he)) (O1 rfl) ?_;refine Wk ?_;exact BJ.mk rfl rfl (by rw[C,P4,P4];rfl) O ((F.app _).set A1) (Ms (RowE.ge ⟨q,t,cv,hq,Z,hk,rfl⟩))
    .refine Wk ?_
     (refine dX rfl (λhp=> ?_) (λhp=> ?_))
     .obtain⟨⟨u,c4⟩,e6,b6,i4⟩:=hD c3 s 1 true ⟨O,hs.ok,A0,A0⟩;dsimp only at b6 i4;refine Wk ?_;refine aI rfl ?_;refine aB ax hN rfl rfl F.fm rfl rfl (aD j rfl) ?_;refine aI rfl ?_;refine iF rfl (aD j rfl) (d8 eD e6) (ma _) nt1 hc3 hN (aP (lf s) (aP (iy 1) (aP (jw true) bY))) λh4 eh4 hN4 hc4=> ?_;rw[lE];clear hN;have hN:=hN4;refine Wk ?_;refine aI rfl ?_;refine bH ax hN rfl rfl rfl rfl rfl F.fa he (O1 rfl) ?_;refine Wk ?_;exact BJ.mk rfl rfl (by rw[eh4,C,P4];rfl) i4 (F.set A1) (Ms (RowE.ge ⟨t,u,cv,Z,b6.1,hk,rfl⟩))
     .refine Wk ?_
      (refine dX rfl (λhp=> ?_) (λhp=> ?_))
      .refine Wk ?_;rcases hk with rfl|⟨D,G,rfl,hca,hcb⟩
       .refine dz mixed [0,1,2,3,4,5,6,7,8,9,10,11,12] [9,12] [4,8] A3 ?_;refine Dp ?_;refine Dp ?_;refine Dp ?_;refine Dp ?_
        (apply bK;rfl;rfl;rfl;rfl;focus (intro H hm;have hm:=O6 hm;simp only[OI,O9,or_false]at hm;first|(subst hm;exact aB ax hN rfl rfl F.fa he rfl (aD j rfl) ⟨rfl,rfl⟩)|(rcases hm with rfl|rfl<;>first|exact aB ax hN rfl rfl F.fa he rfl (aD j rfl) ⟨rfl,rfl⟩|exact aB ax y rfl rfl F.fa he rfl (aD j rfl) ⟨rfl,rfl⟩)))
        refine Dp ?_;refine Dp ?_;refine Dp ?_
        (apply bK;rfl;rfl;rfl;rfl;focus (intro H hm;have hm:=O6 hm;simp only[OI,O9,or_false]at hm;first|(subst hm;exact aB ax hN rfl rfl F.fa he rfl (aD j rfl) ⟨rfl,rfl⟩)|(rcases hm with rfl|rfl<;>first|exact aB ax hN rfl rfl F.fa he rfl (aD j rfl) ⟨rfl,rfl⟩|exact aB ax y rfl rfl F.fa he rfl (aD j rfl) ⟨rfl,rfl⟩)))
        (apply aS;rfl;rfl;rfl;focus (refine zN ax rfl rfl rfl rfl A3 (aD j rfl) ?_;exact⟨rfl,rfl⟩))
        refine Dp ?_;refine Dp ?_
        (apply aS (v:=.dead);rfl;rfl;rfl;focus (refine bH ax hN rfl rfl rfl rfl rfl F.fa he (O1 rfl) ?_;exact⟨rfl,rfl⟩))
        have A:FS h.length s p a b (e1.set i (eV t q sT)) e2 (lc.set a (some (Ob.row 9 (e1.set i (eV t q sT))))):=F.set A1;refine dQ (fU (cB (L':=[(2,.one (.ptr (h.length+0) 0 0)),(3,.one (.ptr (h.length+p) 0 0)),(4,.one (.ptr (h.length+a) i 0))]) (ag rfl (ag rfl (ag rfl (aZ _)))) (n7 (h':=h3++lc.set a (some (Ob.row 9 (e1.set i (eV t q sT))))) rfl ?_)));generalize lc.set a (some (Ob.row 9 (e1.set i (eV t q sT))))=l1 at A ⊢;have w:(e1.set i (eV t q sT))[i]? =some (eV t q sT):=sS (fJ he);refine dz mixed [0,1,2,3,5,6,7,8,9,10,11,12,13,14,4,15,16,17,18] [14,15,18] [4,8,12] A3 ?_;refine Dp ?_;refine Dp ?_;refine Dp ?_;refine Dp ?_;refine Dp ?_;refine Dp ?_;refine Dp ?_
        (apply bK;rfl;rfl;rfl;rfl;focus (intro H hm;have hm:=O6 hm;simp only[OI,O9,or_false]at hm;first|(subst hm;exact aB ax hN rfl rfl A.fa w rfl (aD j rfl) ⟨rfl,rfl⟩)|(rcases hm with rfl|rfl<;>first|exact aB ax hN rfl rfl A.fa w rfl (aD j rfl) ⟨rfl,rfl⟩|exact aB ax y rfl rfl A.fa w rfl (aD j rfl) ⟨rfl,rfl⟩)))
        refine Dp ?_;refine Dp ?_;refine Dp ?_
        (apply bK;rfl;rfl;rfl;rfl;focus (intro H hm;have hm:=O6 hm;simp only[OI,O9,or_false]at hm;first|(subst hm;exact aB ax hN rfl rfl A.fa w rfl (aD j rfl) ⟨rfl,rfl⟩)|(rcases hm with rfl|rfl<;>first|exact aB ax hN rfl rfl A.fa w rfl (aD j rfl) ⟨rfl,rfl⟩|exact aB ax y rfl rfl A.fa w rfl (aD j rfl) ⟨rfl,rfl⟩)))
        refine Dp ?_
        (apply aS;rfl;rfl;rfl;focus (refine dP ax rfl A3 rfl rfl rfl rfl rfl Rl (aD j rfl) ?_;exact⟨rfl,rfl⟩))
        (apply bK;rfl;rfl;rfl;rfl;focus (intro H hm;have hm:=O6 hm;simp only[OI,O9,or_false]at hm;rcases hm with rfl|rfl<;>first|exact aB ax hN rfl rfl (ba a A.fa) w rfl (aD j rfl) ⟨rfl,rfl⟩|exact aB ax hN rfl rfl A.fa w rfl (aD j rfl) ⟨rfl,rfl⟩))
        (apply aS;rfl;rfl;rfl;focus (refine kw ax hN rfl rfl rfl A3 rfl rfl rfl rfl (O1 rfl) (O1 rfl) rfl (aD j rfl) ?_;exact⟨rfl,rfl⟩))
        refine Dp ?_;refine Dp ?_
        (apply aS (v:=.dead);rfl;rfl;rfl;focus (refine bH ax hN rfl rfl rfl rfl rfl (ba a (ba a A.fa)) w (O1 rfl) ?_;exact⟨rfl,rfl⟩))
        obtain⟨l',e3,S,F3,G3⟩:=FS.frz (h1:=h3) (t:=t) (q:=q) (cs:=[⟨t,q⟩]) (k:=(l1++[none]).length) (L:=[(2,.one (.ptr (h.length+0) 0 0)),(3,.one (.ptr (h.length+p) 0 0))]) (((A.app [none]).app [some (Ob.row 8 [tV t++tV q])]).set (e3:=e1.set i (eV t q (.own (h.length+(l1++[none]).length) 0 1))) A1) hN ((sN (by have:=fJ A.fa;simp;omega)).trans List.getElem?_concat_length) P Z hq A4;exact Se
       .refine dz mixed [0,1,2,3,4,5,6,7,8,9,10,11,12] [9,12] [4,8] A3 ?_;refine Dp ?_;refine Dp ?_;refine Dp ?_;refine Dp ?_
        (apply bK;rfl;rfl;rfl;rfl;focus (intro H hm;have hm:=O6 hm;simp only[OI,O9,or_false]at hm;first|(subst hm;exact aB ax hN rfl rfl F.fa he rfl (aD j rfl) ⟨rfl,rfl⟩)|(rcases hm with rfl|rfl<;>first|exact aB ax hN rfl rfl F.fa he rfl (aD j rfl) ⟨rfl,rfl⟩|exact aB ax y rfl rfl F.fa he rfl (aD j rfl) ⟨rfl,rfl⟩)))
        refine Dp ?_;refine Dp ?_;refine Dp ?_
        (apply bK;rfl;rfl;rfl;rfl;focus (intro H hm;have hm:=O6 hm;simp only[OI,O9,or_false]at hm;first|(subst hm;exact aB ax hN rfl rfl F.fa he rfl (aD j rfl) ⟨rfl,rfl⟩)|(rcases hm with rfl|rfl<;>first|exact aB ax hN rfl rfl F.fa he rfl (aD j rfl) ⟨rfl,rfl⟩|exact aB ax y rfl rfl F.fa he rfl (aD j rfl) ⟨rfl,rfl⟩)))
        (apply aS;rfl;rfl;rfl;focus (refine qG ax hN rfl rfl A3 rfl rfl (fP ax rfl rfl rfl) (O1 rfl) (O1 rfl) rfl (aD j rfl) ?_;exact⟨rfl,rfl⟩))
        refine Dp ?_;refine Dp ?_
        (apply aS (v:=.dead);rfl;rfl;rfl;focus (refine bH ax hN rfl rfl rfl rfl rfl (ba a F.fa) he (O1 rfl) ?_;exact⟨rfl,rfl⟩))
        have A:FS h.length s p a b (e1.set i (eV t q (.own (h.length+lc.length) 0 2))) e2 ((lc++[some (Ob.row 8 [tV D++tV G,tV D++tV G])]).set a (some (Ob.row 9 (e1.set i (eV t q (.own (h.length+lc.length) 0 2)))))):=(F.app _).set A1;have K1:((lc++[some (Ob.row 8 [tV D++tV G,tV D++tV G])]).set a (some (Ob.row 9 (e1.set i (eV t q (.own (h.length+lc.length) 0 2))))))[lc.length]? =some (some (Ob.row 8 [tV D++tV G,tV D++tV G])):=(sN (by have:=fJ F.fa;omega)).trans List.getElem?_concat_length;refine dQ (fU (cB (L':=[(2,.one (.ptr (h.length+0) 0 0)),(3,.one (.ptr (h.length+p) 0 0)),(4,.one (.ptr (h.length+a) i 0))]) (ag rfl (ag rfl (ag rfl (aZ _)))) (n7 (h':=h3++(lc++[some (Ob.row 8 [tV D++tV G,tV D++tV G])]).set a (some (Ob.row 9 (e1.set i (eV t q (.own (h.length+lc.length) 0 2)))))) rfl ?_)));generalize (lc++[some (Ob.row 8 [tV D++tV G,tV D++tV G])]).set a (some (Ob.row 9 (e1.set i (eV t q (.own (h.length+lc.length) 0 2)))))=l1 at A K1 ⊢;generalize lc.length=k at A K1;have w:(e1.set i (eV t q (.own (h.length+k) 0 2)))[i]? =some (eV t q (.own (h.length+k) 0 2)):=sS (fJ he);refine dz mixed [0,1,2,3,5,6,7,8,9,10,11,12,13,14,4,15,16,17,18] [14,15,18] [4,8,12] A3 ?_;refine Dp ?_;refine Dp ?_;refine Dp ?_;refine Dp ?_;refine Dp ?_;refine Dp ?_;refine Dp ?_
        (apply bK;rfl;rfl;rfl;rfl;focus (intro H hm;have hm:=O6 hm;simp only[OI,O9,or_false]at hm;first|(subst hm;exact aB ax hN rfl rfl A.fa w rfl (aD j rfl) ⟨rfl,rfl⟩)|(rcases hm with rfl|rfl<;>first|exact aB ax hN rfl rfl A.fa w rfl (aD j rfl) ⟨rfl,rfl⟩|exact aB ax y rfl rfl A.fa w rfl (aD j rfl) ⟨rfl,rfl⟩)))
        refine Dp ?_;refine Dp ?_;refine Dp ?_
        (apply bK;rfl;rfl;rfl;rfl;focus (intro H hm;have hm:=O6 hm;simp only[OI,O9,or_false]at hm;first|(subst hm;exact aB ax hN rfl rfl A.fa w rfl (aD j rfl) ⟨rfl,rfl⟩)|(rcases hm with rfl|rfl<;>first|exact aB ax hN rfl rfl A.fa w rfl (aD j rfl) ⟨rfl,rfl⟩|exact aB ax y rfl rfl A.fa w rfl (aD j rfl) ⟨rfl,rfl⟩)))
        refine Dp ?_
        (apply aS;rfl;rfl;rfl;focus (refine dP ax rfl A3 rfl rfl rfl rfl rfl Rl (aD j rfl) ?_;exact⟨rfl,rfl⟩))
        (apply bK;rfl;rfl;rfl;rfl;focus (intro H hm;have hm:=O6 hm;simp only[OI,O9,or_false]at hm;rcases hm with rfl|rfl<;>first|exact aB ax hN rfl rfl (ba a A.fa) w rfl (aD j rfl) ⟨rfl,rfl⟩|exact aB ax hN rfl rfl A.fa w rfl (aD j rfl) ⟨rfl,rfl⟩))
        (apply aS;rfl;rfl;rfl;focus (refine qh ax hN (k:=k) rfl rfl rfl A3 rfl rfl (ba k K1) rfl rfl rfl (O1 rfl) rfl (aD j rfl) ?_;exact⟨rfl,rfl⟩))
        refine Dp ?_;refine Dp ?_;have F2:=((A.app [none]).kill (ba k K1)).2.app [some (Ob.row 8 [tV D++tV G,tV D++tV G,tV t++tV q])]
        (apply aS (v:=.dead);rfl;rfl;rfl;focus (refine bH ax hN rfl rfl rfl rfl rfl F2.fa w (O1 rfl) ?_;exact⟨rfl,rfl⟩))
        obtain⟨l',e3,S,F3,G3⟩:=FS.frz (h1:=h3) (t:=t) (q:=q) (cs:=[⟨D,G⟩,⟨D,G⟩,⟨t,q⟩]) (k:=(l1++[none]).length) (L:=[(2,.one (.ptr (h.length+0) 0 0)),(3,.one (.ptr (h.length+p) 0 0))]) (F2.set (e3:=e1.set i (eV t q (.own (h.length+(l1++[none]).length) 0 3))) A1) hN ((sN (by have:=fJ A.fa;simp;omega)).trans (by rw[<-PS (i:=k) (a:=none)];exact List.getElem?_concat_length)) P Z hq A4;exact Se
      .refine Wk ?_
       (refine dX rfl (λhp=> ?_) (λhp=> ?_))
       .refine Wk ?_;refine aI rfl ?_;refine bH ax hN rfl rfl rfl rfl rfl F.fa he (O1 rfl) ?_;refine Wk ?_;exact BJ.mk rfl rfl (by rw[C];rfl) O (F.set A1) (Ms (have⟨cs,k1,I⟩:=hk.imp;HI cs (P3 (JC t _) (by show t.az+1<=_;omega)) A0 k1 I))
       .refine Wk ?_;exact BJ.mk rfl rfl (by rw[C]) O F Q
   .rintro L' h' ⟨rfl,c',l',e3,i',F',g',S⟩;refine dJ S ?_;obtain⟨h1,B⟩:∃h1,h1=h.set id (bU c'):=⟨_,rfl⟩;rw[<-B];have hN:h1.length=h.length:=by rw[B];simp
    refine Wk ?_;refine aI rfl ?_;refine aB ax hN rfl rfl F'.fm rfl rfl (aD j rfl) ?_;refine Wk ?_;refine aI rfl ?_;refine bH ax hN rfl rfl rfl rfl rfl F'.fz rfl (O1 rfl) ?_;refine Wk ?_;exact F'.done B hs i' g' R rfl
end
end Go.Proofs.YtkegnipofloejaaGreatDoor.Abs
namespace Go.Proofs.YtkegnipofloejaaGreatDoor.Den
open Go.RowKit
open Classical
noncomputable def gHf:Tm->Tm->Y Bool:=λu t=>if t.az<4294967296 then some (decide (bR t u=0))else none
theorem tS:aj (z1k.ent gHf):=z1k.ok (G:=⟨ga 4294967296⟩) ⟨z1t _ (O3 _),trivial⟩ λu t r h=>by
 unfold gHf at h;split at h
 .rename_i hs;cases h;refine⟨1,?_⟩;unfold z1k.aq;rw[Tm.eta,Tm.eta];show Option.bind (ga 4294967296 t u) _=_;unfold ga;rw[mt hs];rfl
 .cases h
def As:Td Tm->Tm->Nat->Int
 |[],_,_=> -1
 |u::us,t,i=>if bR t u=0 then (i:Int)else As us t (i+1)
theorem BT:∀(vs:Td Tm)(t:Tm)(i:Nat),decide (0<=As vs t i)=inV vs t
 |[],_,_=>rfl
 | u::us,t,i=>by
  unfold As inV;rw[List.any_cons];by_cases h:bR t u=0
  .grind
  .rw[O2 h,dF h,BT us t (i+1)];rfl
noncomputable def gIx:Td Tm->Tm->Y Int:=λvs t=>if t.az<4294967296/\vs.length<4294967296 then some (As vs t 0)else none
noncomputable abbrev GIx:z4v.Gs:=⟨gHf⟩
theorem wA:aj (z4v.ent gIx):=z4v.ok (G:=GIx) ⟨tS,trivial⟩ λvs t r h=>by
 unfold gIx at h;split at h
 .rename_i hs;obtain⟨j,hl⟩:=hs;have hl:List.length (α:=Tm) vs<4294967296:=hl;cases h;refine⟨List.length (α:=Tm) vs+1,?_⟩;unfold z4v.aq;refine(lX (List.length (α:=Tm) vs) (λi d=>z4v.b2 GIx _ t vs (List.length (α:=Tm) vs:Int) i d _ _) (λi=>some (AT.one (.i (As (List.drop (α:=Tm) i vs) t i)),[.box [.i t.op,.s t.ah,.i t.am,.l (.n 1) t.ae]])) (λd=> ?_) (λi d hi e=> ?_) _ 0 A0 A0).trans ?_
  .unfold z4v.b2;rw[bh (Pc _),cF,ck];rfl
  .obtain⟨u,u1,_⟩:=bo hi;unfold z4v.b2;rw[bt hi,cT,aW u1,bS,Tm.eta,Tm.eta,bw A0,e,bm u1];show Option.bind (gHf u t) _=_;rw[show gHf u t=some (decide (bR t u=0))from mt j,bS]
   conv=>rhs;unfold As
   by_cases hc:bR t u=0
   .rw[dT hc,cT,mt hc]<;>rfl
   .rw[dF hc,cF,O2 hc]<;>rfl
  .rw[OQ]<;>rfl
 .cases h
noncomputable def qJ:Td Tm->Tm->Y Bool:=λvs t=>if t.az<4294967296/\vs.length<4294967296 then some (inV vs t)else none
theorem qP:aj (z4n.ent qJ):=z4n.ok (G:=⟨gIx⟩) ⟨wA,trivial⟩ λvs t r h=>by
 unfold qJ at h;split at h
 .rename_i hs;cases h;refine⟨1,?_⟩;unfold z4n.aq;rw[Tm.eta];show Option.bind (gIx vs t) _=_;rw[show gIx vs t=some (As vs t 0)from mt hs,bS,BT]
 .cases h
theorem zx:aj (z1j.ent qJ):=z1j.ok (G:=⟨qJ⟩) ⟨qP,trivial⟩ λvs t r h=>by
 refine⟨1,?_⟩;unfold z1j.aq;rw[Tm.eta];show Option.bind (qJ vs t) _=_;rw[h];rfl
noncomputable def yY:Td Int->Td Int->Td Int->Td Z->Td Sb->Td Opr->Mp->Eqn->Y (Bool×Mp):=λab _ kd nm sb ops m e=>if Alg kd nm sb ops/\ab.length=nm.length/\SmE e then some (eJ ⟨⟨nm,sb⟩,ops⟩ e,m)else none
noncomputable abbrev GEA:z12.Gs:={z13:=Dl,z16:=iC,z0u:=gVs,z1j:=qJ}
section
variable {R : Type} {kd ab be : Td Int} {nm : Td Z} {sb : Td Sb} {ops : Td Opr} (hA : Alg kd nm sb ops) (hab : ab.length = nm.length)
include hA hab
theorem yS(m:Mp)(a b:Tm)(y:a.az<4294967296)(C:b.az<4294967296)(A:Mp->Y R)(B:Mp->Y R):
  (Option.bind (Dl ab be kd nm sb ops m a) λd=>bif !d.1 then A d.2 else Option.bind (Dl ab be kd nm sb ops d.2 b) λh=>bif !h.1 then A h.2 else Option.bind (iC ab be kd nm sb ops h.2 a) λw=>Option.bind (iC ab be kd nm sb ops w.2 b) λj=>bif !decide (w.1=j.1)then A j.2 else B j.2)=bif fM ⟨⟨nm,sb⟩,ops⟩ a b then B m else A m:=by
 have e1:∀t:Tm,t.az<4294967296->Dl ab be kd nm sb ops m t=some (isT ⟨⟨nm,sb⟩,ops⟩ t,m):=λt v=>mt ⟨hA,hab,v⟩;have e2:∀t:Tm,isT ⟨⟨nm,sb⟩,ops⟩ t=true->iC ab be kd nm sb ops m t=some (dG ⟨⟨nm,sb⟩,ops⟩ t,m):=λt v=>mt ⟨hA,AL v⟩;rw[e1 _ y,bS];unfold fM;cases ta:isT ⟨⟨nm,sb⟩,ops⟩ a with
 |false=>rfl
 | true=>
  simp only[O4,cF,O7];rw[e1 _ C,bS];cases tb:isT ⟨⟨nm,sb⟩,ops⟩ b with
  |false=>rfl
  | true=>
   simp only[O4,cF,O7];rw[e2 _ ta,bS];simp only[];rw[e2 _ tb,bS];simp only[];cases decide (dG ⟨⟨nm,sb⟩,ops⟩ a=dG ⟨⟨nm,sb⟩,ops⟩ b)<;>rfl
def mS(cs:Td Cnd):Td Tm:=cs.flatMap λc=>[c.left,c.right]
theorem Dm(n:Nat)(vars:Td Tm)(cs:Td Cnd)(hc:∀c∈cs,c.left.az<1073741823/\c.right.az<1073741823)(h2:cs.length<=2)(m:Mp)(d:Bool->Mp->Y R)(k1:Mp->Td Tm->Y R):∀f (i:Nat) (l:Td Tm),l.length+2*(cs.length-i)<16->i<=cs.length->cs.length-i<f->
  z12.l6 GEA n f ab be kd nm sb ops vars cs (cs.length:Int) (i:Int) m l d k1=bif (cs.drop i).all (λc=>fM ⟨⟨nm,sb⟩,ops⟩ c.left c.right)then k1 m (l++mS (cs.drop i))else d false m:=by
 intro f
 induction f with
 |zero=>intro i l _ _ hm;omega
 | succ f j=>
  intro i l hl hi hm;show z12.b6 GEA n ab be kd nm sb ops vars cs (cs.length:Int) (i:Int) m l (λt v w=>z12.l6 GEA n f ab be kd nm sb ops vars cs (cs.length:Int) t v w d k1) d k1=_;unfold z12.b6;by_cases hi:i<cs.length
  .obtain⟨c,c1,c2⟩:=bo hi;obtain⟨y,A⟩:=hc c c2;rw[bt hi,cT,aW c1,bS,Tm.eta,Tm.eta];refine(yS (be:=be) hA hab m c.left c.right A0 A0 (λm=>d false m) (λm=>z12.c10 GEA n ab be kd nm sb ops vars cs (cs.length:Int) (i:Int) m l c.left.op c.left.ah c.left.am c.left.ae c.right.op c.right.ah c.right.am c.right.ae (λh=>z12.l6 GEA n f ab be kd nm sb ops vars cs (cs.length:Int) (wr ((i:Int)+1)) m h d k1))).trans ?_;unfold z12.c10;rw[cV A4,bS,Tm.eta,Tm.eta,bw A0];dsimp only;rw[j (i+1) _ A4 hi A0,bm c1,Pe];unfold mS;rw[Py,O5];cases fM ⟨⟨nm,sb⟩,ops⟩ c.left c.right<;>rfl
  .obtain rfl:i=cs.length:=A0
   rw[bh (Pc _),cF,ck];unfold mS;rw[List.flatMap_nil,OO];rfl
omit hA hab in
theorem KK(n:Nat)(vars l:Td Tm)(A:vars.length<4294967296)(hl:∀t∈l,t.az<1073741823)(B:l.length<4294967296)(C:∀t∈l,t.az+1<n)(m:Mp)(h:Bool->Y R)(k1:Y R)(f:Nat)(G:l.length<f):
  z12.l13 GEA n f ab be kd nm sb ops vars (l.length:Int) m l 0 h k1=bif l.all (dB vars)then k1 else h false:=by
 refine(Ef l (dB vars) (λi d=>z12.b13 GEA n ab be kd nm sb ops vars (l.length:Int) m l i d h k1) (h false) k1 (λd=> ?_) (λi t d hi=> ?_) f 0 A0 A0).trans (by rw[OQ])
 .unfold z12.b13;rw[bh (Pc _),cF]
 .have w:i<l.length:=(gI.1 hi).1;have hm:=mG hi;have D:=hl t hm;have E:=oa t;have F:=C t hm;unfold z12.b13;rw[bt w,cT,aW hi,bS,Tm.eta];show Option.bind (gVs t) _=_;rw[show gVs t=some (ci t)from mt D,bS,bw A0];refine(Ef (ci t) (inV vars) (λi d=>z12.b16 GEA n ab be kd nm sb ops vars (l.length:Int) _ (ci t) ((ci t).length:Int) m l i d _ _) (h false) (d ((i+1:Nat):Int)) (λd=> ?_) (λj v d y=> ?_) n 0 A0 A0).trans (by rw[OQ];rfl)
  .unfold z12.b16;rw[bh (Pc _),cF]
  .have hjl:j<(ci t).length:=(gI.1 y).1;have:=(yQ (mG y)).2.2;unfold z12.b16;rw[bt hjl,cT,aW y,bS,Tm.eta,bw A0];show Option.bind (qJ vars v) _=_;rw[show qJ vars v=some (inV vars v)from mt ⟨A0,A⟩,bS];cases inV vars v<;>rfl
end
theorem zi{s:Sg}{vs:Td Tm}:∀cs:Td Cnd,cs.all (rH s vs)=(cs.all (λc=>fM s c.left c.right)&&(mS cs).all (dB vs))
 |[]=>rfl
 | c::cs=>by
  have:=zi (s:=s) (vs:=vs) cs;unfold mS at this ⊢;rw[Pe,this,Pe,Py,Qf];unfold rH;simp only[Pe,List.all_nil,Qt];cases fM s c.left c.right<;>cases dB vs c.left<;>cases dB vs c.right<;>cases (cs.all λc=>fM s c.left c.right)<;>rfl
theorem Mb{s:Sg}{t:Tm}(h:isT s t=true):decide (t.op<0)=decide (t.op= -1):=by
 unfold isT at h;simp only[bA]at h;have h:=h.2.2;rw[j6]at h;unfold mb ii at h;by_cases ho:t.op= -1
 .grind
 .rw[O2 ho]at h;by_cases h0:t.op<0
  .rw[qW (.inl h0)]at h;simp at h
  .grind
theorem Kh{R:Type}{kd ab be:Td Int}{nm:Td Z}{sb:Td Sb}{ops:Td Opr}(hA:Alg kd nm sb ops)(hab:ab.length=nm.length)(m:Mp)(e:Eqn)(he:SmE e)(K:Bool->Mp->Y R):
  z12.aq GEA 1073741827 ab be kd nm sb ops m e K=K (eJ ⟨⟨nm,sb⟩,ops⟩ e) m:=by
 obtain⟨hl,C,hc⟩:=he;unfold z12.aq;rw[Tm.eta,Tm.eta];refine(yS (be:=be) hA hab m e.left e.right A0 A0 (λm=>K false m) (λm=>bif decide (e.left.op<0)then K false m else bif decide (2<(e.bJ.length:Int))then K false m else z12.c3 GEA 1073741827 ab be kd nm sb ops m e.left.op e.left.ah e.left.am e.left.ae e.right.op e.right.ah e.right.am e.right.ae e.bJ (λv h=>K v h))).trans ?_;unfold eJ;cases hp:fM ⟨⟨nm,sb⟩,ops⟩ e.left e.right with
 |false=>rfl
 | true =>
  rw[cT,O7];have tl:isT ⟨⟨nm,sb⟩,ops⟩ e.left=true:=by
   unfold fM at hp;simp only[bA]at hp;exact hp.1
  rw[Mb tl];cases decide (e.left.op= -1)with
  |true=>rfl
  | false=>
   rw[cF,OS,O7,nz];cases h2:decide ((e.bJ.length:Int)<=2)with
   |false=>rfl
   | true=>
    have h2:=ON h2;rw[O4,cF,O7];unfold z12.c3;have w:=oa e.left;rw[Tm.eta,Tm.eta];show Option.bind (gVs e.left) _=_;rw[show gVs e.left=some (ci e.left)from mt hl,bS];refine(Dm (be:=be) hA hab 1073741827 (ci e.left) e.bJ hc A0 m _ _ _ 0 _ A4 A0 A0).trans ?_;rw[OQ,zi];cases (e.bJ.all λc=>fM ⟨⟨nm,sb⟩,ops⟩ c.left c.right)with
    |false=>simp
    | true=>
     rw[cT,O7];have y:(mS e.bJ).length<=4:=by
      unfold mS
      match e.bJ,h2 with
      |[],_=>simp
      |[_],_=>simp
      |[_,_],_=>simp
      |_::_::_::_,h2=>simp at h2;omega
     have j:∀t∈[e.right]++mS e.bJ,t.az<1073741823:=λt d=>by
      rcases List.mem_append.1 d with d|d
      .grind
      .unfold mS at d;obtain⟨c,c1,c2⟩:=List.mem_flatMap.1 d;obtain⟨A,B⟩:=hc c c1;simp at c2;rcases c2 with rfl|rfl
       .exact A
       .exact B
     refine(KK 1073741827 (ci e.left) _ A0 j A4 (λt d=>by have:=j t d;omega) m _ _ _ A4).trans ?_;rw[Qf,Pe,List.all_nil,Qt];cases dB (ci e.left) e.right<;>cases (mS e.bJ).all (dB (ci e.left))<;>cases decide (((ci e.left).length:Int)<=5)<;>rfl
theorem mW:aj (z12.ent yY):=z12.ok (G:=GEA) ⟨zA,pS,z0w,zx,trivial⟩ λab be kd nm sb ops m e r h=>by
 unfold yY at h;split at h
 .rename_i hs;obtain⟨hA,hab,he⟩:=hs;cases h;exact⟨1073741827,(Kh hA hab m e he _).trans rfl⟩
 .cases h
end Go.Proofs.YtkegnipofloejaaGreatDoor.Den

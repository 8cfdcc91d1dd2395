/- merged -/
import Derived.Test.YtigoabbppmdfpaaGreatZRowPE8
import Derived.Test.YtigoabbppmdfpaaGreatZRowPE10
import Derived.Test.YtigoabbppmdfpaaGreatZRowPE16
import Derived.Test.YtigoabbppmdfpaaGreatZRowPE17
import Derived.Test.YtigoabbppmdfpaaGreatZRowPE22
import Derived.Test.YtigoabbppmdfpaaGreatZRowPE24

namespace Go.Proofs.YtigoabbppmdfpaaGreat.Den
open Go.RowKit
section
set_option maxRecDepth 100000
set_option linter.unusedVariables false
noncomputable section
namespace z3y
structure Gs where
 z4v:z4v.Q
 z4o:z4o.Q
 z4p:z4p.Q
def aq{R:Type}(G:Gs)(n:Nat)(s:Sg)(a b:Tm)(K:Bool->Y R):Y R:=
 (G.z4v (Tm.mk a.op a.ae a.ag a.ac)).bind λj=>
 bif j then
  (
  (G.z4o s (Tm.mk a.op a.ae a.ag a.ac)).bind λt=>
  bif t then
   (
   (G.z4v (Tm.mk b.op b.ae b.ag b.ac)).bind λv=>
   bif v then
    (
    (G.z4o s (Tm.mk b.op b.ae b.ag b.ac)).bind λw=>
    bif w then
     (
     (G.z4p s (Tm.mk a.op a.ae a.ag a.ac)).bind λd=>
     (G.z4p s (Tm.mk b.op b.ae b.ag b.ac)).bind λh=>
     K (decide (d=h))
     )
    else
     K false
    )
   else
    K false
   )
  else
   K false
  )
 else
  K false
theorem ok{G:Gs}(d:am [z4v.ent G.z4v,z4o.ent G.z4o,z4p.ent G.z4p]){g:Q}(h:∀s a b r,g s a b=some r->∃n,aq (R:=AT×RV Ob) G n s a b (λt=>some (.one (.b t),[]))=some (.one (.b r),[])):aj (ent g):=okQ λ_ _ _ _ _ _ _ _ _ _ _ _ _ _ hc=>okL hc λr j=>let⟨_,j⟩:=h _ _ _ _ j;fF d ⟨32,0,[],[],[6],[(1,⟨[([0,1,2,3,4,5,6,7,8,9,10,11,12,13,14,15,16,17,18,19,20,21,22,23,24,25],[],[])],[],[],[0,1,2],[]⟩)],[]⟩ nP Tryz.func62 j
end z3y
namespace z3z
structure Gs where
 z3w:z3w.Q
 z4l:z4l.Q
def ax(G:Gs):RV Ent:=[z3w.ent G.z3w,z4l.ent G.z4l]
def b7{R:Type}(G:Gs)(n:Nat)(vars list:LT)(i:Int)(d:Bool)(k:Int)(nx:Bool->Int->Y R)(t:Bool->Y R):Y R:=bif decide (k<(List.length vars:Int))then(bif d then(nx true (wr (k+1)))else(ix list i).bind λh=>(ix vars k).bind λj=>(G.z4l (Tm.mk h.op h.ae h.ag h.ac) (Tm.mk j.op j.ae j.ag j.ac)).bind λv=>nx v (wr (k+1)))else t d
def l7{R:Type}(G:Gs)(n m:Nat)(vars list:LT)(i:Int)(d:Bool)(k:Int)(h:Bool->Y R):Y R:=aS (λ(v:Bool×Int) nx=>b7 G n vars list i v.1 v.2 (λj t=>nx (j,t)) h) m (d,k)
def b3{R:Type}(G:Gs)(n:Nat)(vars list:LT)(i:Int)(nx:Int->Y R)(h:Bool->Y R)(k1:Y R):Y R:=bif decide (i<(List.length list:Int))then(l7 G n n vars list i false 0 (λd=>bif !d then(h false)else nx (wr (i+1))))else k1
def l3{R:Type}(G:Gs)(n m:Nat)(vars list:LT)(i:Int)(d:Bool->Y R)(k1:Y R):Y R:=aS (λ(v:Int) nx=>b3 G n vars list v (λh=>nx h) d k1) m i
def aq{R:Type}(G:Gs)(n:Nat)(t:Tm)(vars:LT)(K:Bool->Y R):Y R:=
 (G.z3w (Tm.mk t.op t.ae t.ag t.ac)).bind λr=>
 l3 G n n vars r 0
  (λt4=>K t4)
  (K true)
def dl7(G:Gs)(n m:Nat):=rS [1,5,6,7,8] [.x (.l (.n 1)),.x (.l (.n 1)),.x .i,.x .b,.x .i] [] λR K vars list i h k=>l7 G n m vars list i h k (λd=>K (.exit 2) ⟨[(1,.one (.l (.n 1) vars)),(5,.one (.l (.n 1) list)),(6,.one (.i i)),(7,.one (.b d))],[]⟩)
def dl3(G:Gs)(n m:Nat):=rS [1,5,6] [.x (.l (.n 1)),.x (.l (.n 1)),.x .i] [] λR K vars list i=>l3 G n m vars list i (λt4=>K .ret ⟨[(4,.one (.b t4))],[]⟩) (K (.exit 0) ⟨[],[]⟩)
def pc(G:Gs)(n:Nat):Pcs:=⟨λR id st K=>bif Nat.beq id 7 then dl7 G n n R st K else bif Nat.beq id 3 then dl3 G n n R st K else none,nK,nK⟩
def an:Ann:=⟨37,0,[(7,[1,5,6,7,8]),(3,[1,5,6])],[],[4],[(9,⟨[([0,1,2,3,4,5,6,7,8,9,10,11,12],[],[])],[],[],[],[]⟩)],[]⟩
abbrev bd:=aF Tryz.f64
abbrev q7:=aJ [1,1,0,1,0,0,1,0,0,1,0,1,0,0] bd
abbrev q3:=aJ [1,1,0,1,0,0] bd
theorem pl7{G:Gs}(d:am (ax G))(n:Nat):∀m,al an (.loop q7) (dl7 G n m):=lpq d (pc G n) ⟨[1,5,6,7],[4],[(0,[]),(1,[1,5,6]),(2,[1,5,6,7])]⟩
theorem pl3{G:Gs}(d:am (ax G))(n:Nat):∀m,al an (.loop q3) (dl3 G n m):=lpq d (pc G n) ⟨[],[4],[(0,[])]⟩ (apl [(1,7,.loop q7)] ⟨pl7 d n n,trivial⟩)
theorem ok{G:Gs}(d:am (ax G)){g:Q}(h:∀t vars r,g t vars=some r->∃n,aq (R:=AT×RV Ob) G n t vars (λv=>some (.one (.b v),[]))=some (.one (.b r),[])):aj (ent g):=okQ λ_ _ _ _ _ _ _ _ hc=>okL hc λr j=>let⟨n,j⟩:=h _ _ _ j;fF d an (pc G n) Tryz.func64 j (apl [(1,3,.loop q3)] ⟨pl3 d n n,trivial⟩)
end z3z
namespace z3g
structure Gs where
 z3k:z3k.Q
 z3y:z3y.Q
 z3w:z3w.Q
 z3z:z3z.Q
def ax(G:Gs):RV Ent:=[z3k.ent G.z3k,z3y.ent G.z3y,z3w.ent G.z3w,z3z.ent G.z3z]
def b7{R:Type}(G:Gs)(n:Nat)(vars:LT)(h0:LB)(h:LS)(j:LO)(h1:Int)(v:Z)(w:Int)(y:LT)(A:Int)(B:Z)(C:Int)(D:LT)(d:LK)(i:Int)(nx:Int->Y R)(t:Bool->Y R)(k1:Y R):Y R:=bif decide (i<(List.length d:Int))then((ix d i).bind λe=>(G.z3y (Sg.mk (So.mk h0 h) j) (Tm.mk e.left.op e.left.ae e.left.ag e.left.ac) (Tm.mk e.right.op e.right.ae e.right.ag e.right.ac)).bind λr=>bif !r then(t false)else(G.z3z (Tm.mk e.left.op e.left.ae e.left.ag e.left.ac) vars).bind λE=>bif !E then(t false)else(G.z3z (Tm.mk e.right.op e.right.ae e.right.ag e.right.ac) vars).bind λF=>bif !F then(t false)else nx (wr (i+1)))else k1
def l7{R:Type}(G:Gs)(n m:Nat)(vars:LT)(h0:LB)(d:LS)(h:LO)(h1:Int)(j:Z)(t:Int)(w:LT)(y:Int)(A:Z)(B:Int)(C:LT)(D:LK)(i:Int)(E:Bool->Y R)(k1:Y R):Y R:=aS (λ(v:Int) nx=>b7 G n vars h0 d h h1 j t w y A B C D v (λF=>nx F) E k1) m i
def aq{R:Type}(G:Gs)(n:Nat)(s:Sg)(e:Eqn)(K:Bool->Y R):Y R:=
 (G.z3k s).bind λr=>
 bif !r then
  (K false)
 else
  (G.z3y s (Tm.mk e.left.op e.left.ae e.left.ag e.left.ac) (Tm.mk e.right.op e.right.ae e.right.ag e.right.ac)).bind λh=>
  bif !h then
   (K false)
  else
   bif decide (e.left.op=(-1))then
    (K false)
   else
    bif decide (2<(List.length e.aM:Int))then
     (K false)
    else
     (G.z3w (Tm.mk e.left.op e.left.ae e.left.ag e.left.ac)).bind λd=>
     bif decide (5<(List.length d:Int))then
      (K false)
     else
      (G.z3z (Tm.mk e.right.op e.right.ae e.right.ag e.right.ac) d).bind λj=>
      bif !j then
       (K false)
      else
       l7 G n n d s.ai.ah s.ai.ak s.ops e.left.op e.left.ae e.left.ag e.left.ac e.right.op e.right.ae e.right.ag e.right.ac e.aM 0
        (λt4=>K t4)
        (K true)
def dl7(G:Gs)(n m:Nat):=rS [2,3,5,6] [.x (.p 0 0),.x (.p 1 0),.x (.l (.n 1)),.x .i] [.b [.l .s,.l (.n 5),.l (.n 8)],.b [.i,.s,.i,.l (.n 1),.i,.s,.i,.l (.n 1),.l (.n 13)]] λR K vars i h0 d h h1 j t v w y A B C=>l7 G n m vars h0 d h h1 j t v w y A B C i (λt4=>K .ret ⟨[(4,.one (.b t4))],[]⟩) (K (.exit 0) ⟨[],[]⟩)
def pc(G:Gs)(n:Nat):Pcs:=⟨λR id st K=>bif Nat.beq id 7 then dl7 G n n R st K else none,nK,nK⟩
def an:Ann:=⟨78,0,[(7,[2,3,5,6])],[],[4],[],[]⟩
abbrev bd:=aF Tryz.f36
abbrev q7:=aJ [1,1,1,1,0,1,0,0] bd
theorem pl7{G:Gs}(d:am (ax G))(n:Nat):∀m,al an (.loop q7) (dl7 G n m):=lpq d (pc G n) ⟨[],[4],[(0,[])]⟩
theorem ok{G:Gs}(d:am (ax G)){g:Q}(h:∀s e r,g s e=some r->∃n,aq (R:=AT×RV Ob) G n s e (λt=>some (.one (.b t),[]))=some (.one (.b r),[])):aj (ent g):=okQ λ_ _ _ _ _ _ _ _ _ _ _ _ _ _ _ hc=>okL hc λr j=>let⟨n,j⟩:=h _ _ _ j;fF d an (pc G n) Tryz.func36 j (apl [(1,7,.loop q7)] ⟨pl7 d n n,trivial⟩)
end z3g
namespace z1b
structure Gs where
 z1i:z1i.Q
def aq{R:Type}(G:Gs)(n:Nat)(u d:Tm)(K:Bool->Y R):Y R:=
 (G.z1i (Tm.mk d.op d.ae d.ag d.ac) (Tm.mk u.op u.ae u.ag u.ac)).bind λr=>
 K r
theorem ok{G:Gs}(h:am [z1i.ent G.z1i]){g:Q}(t:∀u d r,g u d=some r->∃n,aq (R:=AT×RV Ob) G n u d (λv=>some (.one (.b v),[.box [.i d.op,.s d.ae,.i d.ag,.l (.n 1) d.ac]]))=some (.one (.b r),[.box [.i d.op,.s d.ae,.i d.ag,.l (.n 1) d.ac]])):aj (ent g):=okQ λ_ _ _ _ _ _ _ _ _ _ _ hc=>okL hc λr j=>let⟨_,j⟩:=t _ _ _ j;fF h ⟨7,1,[],[],[3],[],[]⟩ nP Tryz.func114 j
end z1b
namespace z5d
structure Gs where
 z1b:z1b.Q
def ax(G:Gs):RV Ent:=[z1b.ent G.z1b]
def b2{R:Type}(G:Gs)(n:Nat)(d:Tm)(s:LT)(j h:Int)(nx t:Int->Y R)(k1:Y R):Y R:=bif decide (h<j)then((ix s h).bind λe=>(G.z1b (Tm.mk e.op e.ae e.ag e.ac) (Tm.mk d.op d.ae d.ag d.ac)).bind λr=>bif r then(t h)else nx (wr (h+1)))else k1
def l2{R:Type}(G:Gs)(n m:Nat)(d:Tm)(s:LT)(h j:Int)(t:Int->Y R)(k1:Y R):Y R:=aS (λ(v:Int) nx=>b2 G n d s h v (λw=>nx w) t k1) m j
def aq{R:Type}(G:Gs)(n:Nat)(s:LT)(d:Tm)(K:Int->Y R):Y R:=
 l2 G n n d s (List.length s:Int) 0
  (λt4=>K t4)
  (K (-1))
def dl2(G:Gs)(n m:Nat)(R:Type)(st:St)(K:Kt R):Y R:=match st with|⟨[(0,.one (.l (.n 1) s)),(1,.one (.f 114 [.p 0 0])),(7,.one (.i v)),(8,.one (.i w))],[.box [.i d,.s h,.i j,.l (.n 1) t]]⟩=>l2 G n m (Tm.mk d h j t) s v w (λt4=>K .ret ⟨[(4,.one (.i t4))],[.box [.i d,.s h,.i j,.l (.n 1) t]]⟩) (K (.exit 0) ⟨[],[.box [.i d,.s h,.i j,.l (.n 1) t]]⟩)|_=>none
def pc(G:Gs)(n:Nat):Pcs:=⟨λR id st K=>bif Nat.beq id 2 then dl2 G n n R st K else none,nK,nK⟩
def an:Ann:=⟨19,1,[(2,[0,1,7,8])],[],[4],[],[]⟩
abbrev bd:=aF Tryz.f153
abbrev q2:=aJ [1,0,1,0,0] bd
theorem pl2{G:Gs}(d:am (ax G))(n:Nat):∀m,al an (.loop q2) (dl2 G n m):=lpc d (pc G n) [0,1,7,8] ⟨[],[4],[(0,[])]⟩ (apl [] trivial) (λR st K=>by unfold dl2;split<;>rfl) λm R st K r h=>PX
def cO(G:Gs)(s:LT)(d:Tm)(r:Int):Prop:=∃n,aq (R:=AT×RV Ob) G n s d (λh=>some (.one (.i h),[.box [.i d.op,.s d.ae,.i d.ag,.l (.n 1) d.ac]]))=some (.one (.i r),[.box [.i d.op,.s d.ae,.i d.ag,.l (.n 1) d.ac]])
theorem ok{G:Gs}(d:am (ax G)){g:Q}(t:∀s h r,g s h=some r->cO G s h r):aj (ent g):=λR xs H K r hc=>by
 simp only[ent]at hc;split at hc
 .exact okL hc λr j=>let⟨n,j⟩:=t _ _ _ j;fF d an (pc G n) Tryz.func153 j (apl [(1,2,.loop q2)] ⟨pl2 d n n,trivial⟩)
 .cases hc
end z5d
namespace z5b
structure Gs where
 z5d:z5d.Q
def aq{R:Type}(G:Gs)(n:Nat)(s:LT)(d:Tm)(K:Bool->Y R):Y R:=
 (G.z5d s (Tm.mk d.op d.ae d.ag d.ac)).bind λr=>
 K (decide (0<=r))
def cO(G:Gs)(s:LT)(d:Tm)(r:Bool):Prop:=∃n,aq (R:=AT×RV Ob) G n s d (λh=>some (.one (.b h),[.box [.i d.op,.s d.ae,.i d.ag,.l (.n 1) d.ac]]))=some (.one (.b r),[.box [.i d.op,.s d.ae,.i d.ag,.l (.n 1) d.ac]])
theorem ok{G:Gs}(h:am [z5d.ent G.z5d]){g:Q}(t:∀s d r,g s d=some r->cO G s d r):aj (ent g):=λR xs H K r hc=>by
 simp only[ent]at hc;split at hc
 .exact okL hc λr j=>let⟨_,j⟩:=t _ _ _ j;fF h ⟨9,1,[],[],[4],[],[]⟩ nP Tryz.func113 j
 .cases hc
end z5b
namespace z1a
structure Gs where
 z5b:z5b.Q
def aq{R:Type}(G:Gs)(n:Nat)(list:LT)(t:Tm)(K:Bool->Y R):Y R:=
 (G.z5b list (Tm.mk t.op t.ae t.ag t.ac)).bind λr=>
 K r
theorem ok{G:Gs}(d:am [z5b.ent G.z5b]){g:Q}(h:∀list t r,g list t=some r->∃n,aq (R:=AT×RV Ob) G n list t (λv=>some (.one (.b v),[]))=some (.one (.b r),[])):aj (ent g):=okQ λ_ _ _ _ _ _ _ _ hc=>okL hc λr j=>let⟨_,j⟩:=h _ _ _ j;fF d ⟨8,0,[],[],[4],[],[]⟩ nP Tryz.func79 j
end z1a
namespace z0w
structure Gs where
 z0x:z0x.Q
 z10:z10.Q
 z0p:z0p.Q
 z1a:z1a.Q
def ax(G:Gs):RV Ent:=[z0x.ent G.z0x,z10.ent G.z10,z0p.ent G.z0p,z1a.ent G.z1a]
def c10{R:Type}(G:Gs)(n:Nat)(E F H:LI)(I:LB)(J:LS)(K:LO)(vars:LT)(t55:LK)(A B:Int)(h1:LM)(h2:LT)(C:Int)(d:Z)(h:Int)(j:LT)(t:Int)(v:Z)(w:Int)(y:LT)(D:LT->Y R):Y R:=(lim (h2++[(Tm.mk C d h j),(Tm.mk t v w y)])).bind λzs=>D zs
def b6{R:Type}(G:Gs)(n:Nat)(h j t:LI)(v:LB)(w:LS)(y:LO)(vars:LT)(t55:LK)(A d:Int)(h1:LM)(h2:LT)(nx:Int->LM->LT->Y R)(D:Bool->LM->Y R)(k1:LM->LT->Y R):Y R:=bif decide (d<A)then((ix t55 d).bind λe=>(G.z0x h j t v w y h1 (Tm.mk e.left.op e.left.ae e.left.ag e.left.ac)).bind λE=>bif !E.1 then(D false E.2)else(G.z0x h j t v w y E.2 (Tm.mk e.right.op e.right.ae e.right.ag e.right.ac)).bind λF=>bif !F.1 then(D false F.2)else(G.z10 h j t v w y F.2 (Tm.mk e.left.op e.left.ae e.left.ag e.left.ac)).bind λH=>(G.z10 h j t v w y H.2 (Tm.mk e.right.op e.right.ae e.right.ag e.right.ac)).bind λC=>bif !decide (H.1=C.1)then(D false C.2)else c10 G n h j t v w y vars t55 A d C.2 h2 e.left.op e.left.ae e.left.ag e.left.ac e.right.op e.right.ae e.right.ag e.right.ac (λB=>nx (wr (d+1)) C.2 B))else k1 h1 h2
def l6{R:Type}(G:Gs)(n m:Nat)(j t w:LI)(y:LB)(A:LS)(B:LO)(vars:LT)(t55:LK)(d h:Int)(h1:LM)(h2:LT)(C:Bool->LM->Y R)(k1:LM->LT->Y R):Y R:=aS (λ(v:Int×LM×LT) nx=>b6 G n j t w y A B vars t55 d v.1 v.2.1 v.2.2 (λD E F=>nx (D,E,F)) C k1) m (h,h1,h2)
def b16{R:Type}(G:Gs)(n:Nat)(y A B:LI)(C:LB)(D:LS)(E:LO)(vars:LT)(t v:Int)(j:LT)(h:Int)(h1:LM)(h2:LT)(d:Int)(nx:Int->Y R)(w:Bool->Y R)(k1:Y R):Y R:=bif decide (d<h)then((ix j d).bind λe=>(G.z1a vars (Tm.mk e.op e.ae e.ag e.ac)).bind λr=>bif !r then(w false)else nx (wr (d+1)))else k1
def l16{R:Type}(G:Gs)(n m:Nat)(y A B:LI)(C:LB)(D:LS)(E:LO)(vars:LT)(j t:Int)(w:LT)(d:Int)(h1:LM)(h2:LT)(h:Int)(F:Bool->Y R)(k1:Y R):Y R:=aS (λ(v:Int) nx=>b16 G n y A B C D E vars j t w d h1 h2 v (λH=>nx H) F k1) m h
def b13{R:Type}(G:Gs)(n:Nat)(j t v:LI)(w:LB)(y:LS)(A:LO)(vars:LT)(h:Int)(h1:LM)(h2:LT)(d:Int)(nx:Int->Y R)(B:Bool->Y R)(k1:Y R):Y R:=bif decide (d<h)then((ix h2 d).bind λe=>(G.z0p (Tm.mk e.op e.ae e.ag e.ac)).bind λr=>l16 G n n j t v w y A vars h d r (List.length r:Int) h1 h2 0 (λt4=>B t4) (nx (wr (d+1))))else k1
def l13{R:Type}(G:Gs)(n m:Nat)(j t w:LI)(y:LB)(A:LS)(B:LO)(vars:LT)(d:Int)(h1:LM)(h2:LT)(h:Int)(C:Bool->Y R)(k1:Y R):Y R:=aS (λ(v:Int) nx=>b13 G n j t w y A B vars d h1 h2 v (λD=>nx D) C k1) m h
def c3{R:Type}(G:Gs)(n:Nat)(H I J:LI)(K:LB)(L:LS)(M:LO)(h1:LM)(h2:Int)(t:Z)(v:Int)(w:LT)(y:Int)(A:Z)(B:Int)(C:LT)(j:LK)(D:Bool->LM->Y R):Y R:=(G.z0p (Tm.mk h2 t v w)).bind λr=>l6 G n n H I J K L M r j (List.length j:Int) 0 h1 [(Tm.mk y A B C)] (λt4 E=>D t4 E) (λd h=>l13 G n n H I J K L M r (List.length h:Int) d h 0 (λF=>D F d) (D (decide ((List.length r:Int)<=5)) d))
def aq{R:Type}(G:Gs)(n:Nat)(d h j:LI)(t:LB)(v:LS)(w:LO)(F:LM)(e:Eqn)(K:Bool->LM->Y R):Y R:=
 (G.z0x d h j t v w F (Tm.mk e.left.op e.left.ae e.left.ag e.left.ac)).bind λB=>
 bif !B.1 then
  (K false B.2)
 else
  (G.z0x d h j t v w B.2 (Tm.mk e.right.op e.right.ae e.right.ag e.right.ac)).bind λC=>
  bif !C.1 then
   (K false C.2)
  else
   (G.z10 d h j t v w C.2 (Tm.mk e.left.op e.left.ae e.left.ag e.left.ac)).bind λE=>
   (G.z10 d h j t v w E.2 (Tm.mk e.right.op e.right.ae e.right.ag e.right.ac)).bind λy=>
   bif !decide (E.1=y.1)then
    (K false y.2)
   else
    bif decide (e.left.op<0)then
     (K false y.2)
    else
     bif decide (2<(List.length e.aM:Int))then
      (K false y.2)
     else
      c3 G n d h j t v w y.2 e.left.op e.left.ae e.left.ag e.left.ac e.right.op e.right.ae e.right.ag e.right.ac e.aM
       (λD A=>K D A)
def xS(G:Gs)(n:Nat):=rS [0,5,6,8,55,56,57] [.x (.p 0 0),.x (.l (.n 1)),.x (.o 2),.x (.p 3 0),.x (.l (.n 13)),.x .i,.x .i] [.b [.l .i,.l .i,.l .i,.l .s,.l (.n 5),.l (.n 8),.m 1],.m .i,.r (.n 1) 0,.b [.i,.s,.i,.l (.n 1),.i,.s,.i,.l (.n 1)]] λR K vars t55 d h D E F H I J h1 h2 L j t v w y A B=>c10 G n D E F H I J vars t55 d h h1 h2 L j t v w y A B (λC=>K .normal ⟨[(0,.one (.p 0 0)),(5,.one (.l (.n 1) vars)),(6,.one (.o 2)),(55,.one (.l (.n 13) t55)),(56,.one (.i d)),(57,.one (.i h))],[.box [.l .i D,.l .i E,.l .i F,.l .s H,.l (.n 5) I,.l (.n 8) J,.m 1],.map .i h1,.row (.n 1) 0 C]⟩)
def dl6(G:Gs)(n m:Nat):=rS [0,5,6,55,56,57] [.x (.p 0 0),.x (.l (.n 1)),.x (.o 2),.x (.l (.n 13)),.x .i,.x .i] [.b [.l .i,.l .i,.l .i,.l .s,.l (.n 5),.l (.n 8),.m 1],.m .i,.r (.n 1) 0] λR K vars t55 h j t v w y A B h1 h2=>l6 G n m t v w y A B vars t55 h j h1 h2 (λt4 d=>K .ret ⟨[(4,.one (.b t4))],[.box [.l .i t,.l .i v,.l .i w,.l .s y,.l (.n 5) A,.l (.n 8) B,.m 1],.map .i d]⟩) (λd C=>K (.exit 0) ⟨[(5,.one (.l (.n 1) vars)),(6,.one (.o 2))],[.box [.l .i t,.l .i v,.l .i w,.l .s y,.l (.n 5) A,.l (.n 8) B,.m 1],.map .i d,.row (.n 1) 0 C]⟩)
def EJ(G:Gs)(n m:Nat):=rS [5,92,93,94,99,100,101] [.x (.l (.n 1)),.x (.o 2),.x .i,.x .i,.x (.l (.n 1)),.x .i,.x .i] [.b [.l .i,.l .i,.l .i,.l .s,.l (.n 5),.l (.n 8),.m 1],.m .i,.r (.n 1) 0] λR K vars d h v j t w y A B C D h1 h2=>l16 G n m w y A B C D vars d h v j h1 h2 t (λt4=>K .ret ⟨[(4,.one (.b t4))],[.box [.l .i w,.l .i y,.l .i A,.l .s B,.l (.n 5) C,.l (.n 8) D,.m 1],.map .i h1]⟩) (K (.exit 4) ⟨[(5,.one (.l (.n 1) vars)),(92,.one (.o 2)),(93,.one (.i d)),(94,.one (.i h))],[.box [.l .i w,.l .i y,.l .i A,.l .s B,.l (.n 5) C,.l (.n 8) D,.m 1],.map .i h1,.row (.n 1) 0 h2]⟩)
def rL(G:Gs)(n m:Nat):=rS [5,92,93,94] [.x (.l (.n 1)),.x (.o 2),.x .i,.x .i] [.b [.l .i,.l .i,.l .i,.l .s,.l (.n 5),.l (.n 8),.m 1],.m .i,.r (.n 1) 0] λR K vars d h j t v w y A h1 h2=>l13 G n m j t v w y A vars d h1 h2 h (λt4=>K .ret ⟨[(4,.one (.b t4))],[.box [.l .i j,.l .i t,.l .i v,.l .s w,.l (.n 5) y,.l (.n 8) A,.m 1],.map .i h1]⟩) (K (.exit 2) ⟨[(5,.one (.l (.n 1) vars))],[.box [.l .i j,.l .i t,.l .i v,.l .s w,.l (.n 5) y,.l (.n 8) A,.m 1],.map .i h1]⟩)
def dc3(G:Gs)(n:Nat):=rS [0,3] [.x (.p 0 0),.x (.p 2 0)] [.b [.l .i,.l .i,.l .i,.l .s,.l (.n 5),.l (.n 8),.m 1],.m .i,.b [.i,.s,.i,.l (.n 1),.i,.s,.i,.l (.n 1),.l (.n 13)]] λR K C D E F H I h1 h2 d h j t v w y A=>c3 G n C D E F H I h1 h2 d h j t v w y A (λt4 B=>K .ret ⟨[(4,.one (.b t4))],[.box [.l .i C,.l .i D,.l .i E,.l .s F,.l (.n 5) H,.l (.n 8) I,.m 1],.map .i B]⟩)
def pc(G:Gs)(n:Nat):Pcs:=⟨λR id st K=>bif Nat.beq id 6 then dl6 G n n R st K else bif Nat.beq id 16 then EJ G n n R st K else bif Nat.beq id 13 then rL G n n R st K else none,λR id st K=>bif Nat.beq id 10 then xS G n R st K else bif Nat.beq id 3 then dc3 G n R st K else none,nK⟩
def an:Ann:=⟨114,2,[(6,[0,5,6,55,56,57]),(16,[5,92,93,94,99,100,101]),(13,[5,92,93,94])],[(10,[0,5,6,8,55,56,57]),(3,[0,3])],[4],[(1,⟨[([0,1,2,3,4,5,6,7,8,9,10,11,12,13,14,15,16,17,18,19,20,21,22,23,24,25,26,27,28,29,30,31,32,33,34],[3,9,16,20],[])],[3,9,16,20],[],[2],[]⟩),(8,⟨[([0,1,2,3,4,5,6,7,8,9,10,11,12,13,14,15,16,17,18,19,20,21,22],[3,9,16,20],[])],[3,9,16,20],[],[2,3],[]⟩)],[]⟩
abbrev bd:=aF Tryz.f45
abbrev q10:=aJ [1,1,1,1,0,1,0,0,1,1,0,0,1,1] bd
abbrev q6:=aJ [1,1,1,1,0,1,0,0] bd
abbrev q16:=aJ [1,1,1,1,1,0,1,0,0,1,1,0,0,1,1,0,0] bd
abbrev q13:=aJ [1,1,1,1,1,0,1,0,0] bd
abbrev q3:=aJ [1,1] bd
theorem Hs{G:Gs}(d:am (ax G)){n:Nat}:al an q10 (xS G n):=cpq d (pc G n) ⟨[0,5,6,55,56,57],[4],[(0,[5,6]),(1,[0,5,6,55,56,57])]⟩
theorem pl6{G:Gs}(d:am (ax G))(n:Nat):∀m,al an (.loop q6) (dl6 G n m):=lpq d (pc G n) ⟨[5,6],[4],[(0,[5,6])]⟩ (apl [(0,10,q10)] ⟨Hs d,trivial⟩)
theorem Mw{G:Gs}(d:am (ax G))(n:Nat):∀m,al an (.loop q16) (EJ G n m):=lpq d (pc G n) ⟨[5,92,93,94],[4],[(2,[5]),(3,[5,92,93,94]),(4,[5,92,93,94])]⟩
theorem AK{G:Gs}(d:am (ax G))(n:Nat):∀m,al an (.loop q13) (rL G n m):=lpq d (pc G n) ⟨[5],[4],[(2,[5])]⟩ (apl [(1,16,.loop q16)] ⟨Mw d n n,trivial⟩)
theorem pc3{G:Gs}(d:am (ax G)){n:Nat}:al an q3 (dc3 G n):=cpq d (pc G n) ⟨[],[4],[]⟩ (apl [(1,6,.loop q6),(1,13,.loop q13)] ⟨pl6 d n n,⟨AK d n n,trivial⟩⟩)
theorem ok{G:Gs}(A:am (ax G)){g:Q}(C:∀d h t v w y B e r,g d h t v w y B e=some r->∃n,aq (R:=AT×RV Ob) G n d h t v w y B e (λD E=>some (.one (.b D),[.box [.l .i d,.l .i h,.l .i t,.l .s v,.l (.n 5) w,.l (.n 8) y,.m 1],.map .i E]))=some (.one (.b r.1),[.box [.l .i d,.l .i h,.l .i t,.l .s v,.l (.n 5) w,.l (.n 8) y,.m 1],.map .i r.2])):aj (ent g):=okQ λ_ _ _ _ _ _ _ _ _ _ _ _ _ _ _ _ _ _ _ hc=>okL hc λr j=>let⟨n,j⟩:=C _ _ _ _ _ _ _ _ _ j;fF A an (pc G n) Tryz.func45 j (apl [(0,3,q3)] ⟨pc3 A,trivial⟩)
end z0w
end
end
section
open Classical
def eQ(s:Sg)(a b:Tm):Bool:=isT s a&&(isT s b&&decide (dm s a=dm s b))
theorem zx{s:Sg}{t:Tm}(h:isT s t=true):Kn s t:=by
 unfold isT at h;simp only[bA]at h;exact(jA h.2.2).kn
noncomputable def uu:Sg->Tm->Tm->Y Bool:=λs a b=>if bI s=true/\a.az<4294967295/\b.az<4294967295 then some (eQ s a b)else none
theorem zw:aj (z3y.ent uu):=z3y.ok (G:=⟨gSm 4294967296,jV 4294967295,fL⟩) ⟨qV _ (N4 _),tp _ (N4 _),om,trivial⟩ λs a b r h=>by
 unfold uu at h;split at h
 .rename_i hs;obtain⟨hS,w,hb⟩:=hs;cases h;refine⟨1,?_⟩;have key:∀(t:Tm)(X F B:Y (AT×RV Ob))(ht:t.az<4294967295),(isT s t=true->X=B)->(Option.bind (gSm 4294967296 t) λy=>bif y then (Option.bind (jV 4294967295 s t) λA=>bif A then X else F)else F)=bif isT s t then B else F:=λt X F B ht v=>by
   have d:gSm 4294967296 t=some (decide (tsz t<=60)&&decide (tdp t<=20)):=N1 A1;have j:jV 4294967295 s t=some (dB s t):=N1 ⟨hS,ht⟩;rw[d,bS];have C:isT s t=((decide (tsz t<=60)&&decide (tdp t<=20))&&dB s t):=by unfold isT;rw[Bool.and_assoc]
   rw[C]at v ⊢;cases hx:(decide (tsz t<=60)&&decide (tdp t<=20))with
   |false=>rfl
   | true=>
    rw[cT,j,bS];cases D:dB s t with
    |false=>rfl
    |true=>exact v (by rw[hx,D];rfl)
  unfold z3y.aq;rw[Tm.eta,Tm.eta];unfold eQ;refine(key a _ _ (bif isT s b then some (AT.one (.b (decide (dm s a=dm s b))),[])else some (AT.one (.b false),[])) w λta=> ?_).trans ?_
  .refine key b _ _ _ hb λtb=> ?_;show Option.bind (fL s a) _=_;have d:fL s a=some (dm s a):=N1 ⟨hS,zx ta⟩;have j:fL s b=some (dm s b):=N1 ⟨hS,zx tb⟩;rw[d,bS];show Option.bind (fL s b) _=_;rw[j,bS]
  .grind
 .cases h
def inV(vars:RV Tm)(v:Tm):Bool:=vars.any λu=>decide (bH v u=0)
def cZ(vars:RV Tm)(t:Tm):Bool:=(cj t).all (inV vars)
theorem mK(t:Tm):(cj t).length<=t.az+1:=by
 have:=qp t;have:=vf t;have h:(cj t).length<=(oc t).length:=by
  have:=oT (oc t) [];unfold cj nH;exact RR
 omega
theorem xz{t v:Tm}(h:v∈cj t):v.op= -1/\v.ac=[]/\v.az<=t.az:=by
 unfold cj nH at h;rcases tR h with h|h
 .simp at h
 .exact uP h
noncomputable def jt:Tm->RV Tm->Y Bool:=λt vs=>if t.az<1073741823/\vs.length<4294967296 then some (cZ vs t)else none
noncomputable abbrev GWi:z3z.Gs:=⟨gVs,eP 4294967296⟩
theorem Fu{R:Type}(n:Nat)(vs list:RV Tm)(hl:vs.length<4294967296)(i:Nat)(x:Tm)(hi:list[i]? =some x)(hx:x.az<4294967296)(h:Bool->Y R):∀m (k:Nat) (d:Bool),k<=vs.length->vs.length-k<m->
  z3z.l7 GWi n m vs list (i:Int) d (k:Int) h=h (d||inV (vs.drop k) x):=by
 intro m k d h1 h2;refine G7 vs.length (λd k nx=>z3z.b7 GWi n vs list (i:Int) d k nx h) (λ_ _=>True) (λk d=>h (d||inV (vs.drop k) x)) (λd nx _=> ?_) (λk d nx hk _ e=> ?_) m k d trivial h1 h2
 .unfold z3z.b7;rw[bz (Pi _),cF,bQ];unfold inV;rw[List.any_nil,Bool.or_false]
 .obtain⟨u,u1,_⟩:=bu hk;unfold z3z.b7;rw[bB hk,cT,bN A1];have j:inV (vs.drop k) x=(decide (bH x u=0)||inV (vs.drop (k+1)) x):=by
   rw[bg u1];rfl
  cases d with
  |true=>rw[cT,e _ trivial];simp
  | false=>
   rw[cF,aZ hi,bS,aZ u1,bS,Tm.eta,Tm.eta];show Option.bind (eP 4294967296 x u) _=_;unfold eP;rw[N1 hx,bS,e _ trivial,j,PE]
theorem u5:aj (z3z.ent jt):=z3z.ok (G:=GWi) ⟨z3x,lf _ (N4 _),trivial⟩ λt vs r h=>by
 unfold jt at h;split at h
 .rename_i hs;obtain⟨ht,hl⟩:=hs;have hl:List.length (α:=Tm) vs<4294967296:=hl;cases h;have j:=mK t;refine⟨List.length (α:=Tm) vs+(cj t).length+1,?_⟩;unfold z3z.aq;rw[Tm.eta];show Option.bind (gVs t) _=_;rw[show gVs t=some (cj t)from N1 ht,bS];refine(Kp (cj t) (inV vs) (λi nx=>z3z.b3 GWi _ vs (cj t) i nx _ _) (some (AT.one (.b false),[])) (some (AT.one (.b true),[])) (λnx=> ?_) (λi x nx hi=> ?_) _ 0 A1 A1).trans ?_
  .unfold z3z.b3;rw[bz (Pi _),cF]
  .have d:i<(cj t).length:=(gI.1 hi).1;have v:=(xz (mG hi)).2.2;unfold z3z.b3;rw[bB d,cT];refine(Fu _ vs (cj t) hl i x hi A1 _ _ 0 false A1 A1).trans ?_;rw[NN,PE,bN A1];cases inV vs x<;>rfl
  .rw[NN];show (bif cZ vs t then _ else _)=_;cases cZ vs t<;>rfl
 .cases h
theorem Eqn.eta:∀e:Eqn,Eqn.mk (Eqn.left e) (Eqn.right e) (Eqn.aM e)=e
 |⟨_,_,_⟩=>rfl
def uq(s:Sg)(vs:RV Tm)(c:Cnd):Bool:=eQ s c.left c.right&&(cZ vs c.left&&cZ vs c.right)
def iz(s:Sg)(e:Eqn):Bool:=eQ s e.left e.right&&(!decide (e.left.op= -1)&&(decide ((e.aM.length:Int)<=2)&&((decide (((cj e.left).length:Int)<=5)&&cZ (cj e.left) e.right)&&e.aM.all (uq s (cj e.left)))))
def SmE(e:Eqn):Prop:=e.left.az<1073741823/\e.right.az<1073741823/\∀c∈e.aM,c.left.az<1073741823/\c.right.az<1073741823
noncomputable def sQ:Sg->Eqn->Y Bool:=λs e=>if SmE e then some (bI s&&iz s e)else none
noncomputable abbrev GE:z3g.Gs:=⟨λs=>some (bI s),uu,gVs,jt⟩
theorem As{α:Type}{xs:RV α}{k:Int}:decide (k<(xs.length:Int))= !decide ((xs.length:Int)<=k):=Hd
theorem z3h:aj (z3g.ent sQ):=z3g.ok (G:=GE) ⟨z3l,zw,z3x,u5,trivial⟩ fun s e r h=>by
 unfold sQ at h;split at h
 .rename_i hs;obtain⟨hl,hr,hc⟩:=hs;cases h;refine⟨3,?_⟩;unfold z3g.aq;rw[bS];cases hS:bI s with
  |false=>rfl
  | true =>
   rw[N5,cF,N6,Tm.eta,Tm.eta];unfold iz;show Option.bind (uu s e.left e.right) _=_;have v:∀a b:Tm,a.az<1073741823->b.az<1073741823->uu s a b=some (eQ s a b):=λa b A hb=>N1 ⟨hS,A1,A1⟩;rw[v _ _ hl hr,bS];cases eQ s e.left e.right with
   |false=>rfl
   | true =>
    rw[N5,cF,N6];cases w:decide (e.left.op= -1)with
    |true=>rfl
    | false=>
     rw[cF,NR,N6,As];cases h2:decide ((e.aM.length:Int)<=2)with
     |false=>rfl
     | true=>
      have h2:=NZ h2;rw[N5,cF,N6];have y:=mK e.left;have ev:gVs e.left=some (cj e.left):=N1 hl;have d:∀t:Tm,t.az<1073741823->jt t (cj e.left)=some (cZ (cj e.left) t):=λt ht=>N1 ⟨ht,A1⟩;show Option.bind (gVs e.left) _=_;rw[ev,bS,As];cases decide (((cj e.left).length:Int)<=5)with
      |false=>rfl
      | true=>
       rw[N5,cF,N6];show Option.bind (jt e.right (cj e.left)) _=_;rw[d _ hr,bS];cases cZ (cj e.left) e.right with
       |false=>rfl
       | true=>
        rw[N5,cF,N6];refine(Kp e.aM (uq s (cj e.left)) (λi nx=>z3g.b7 GE 3 (cj e.left) s.ai.ah s.ai.ak s.ops e.left.op e.left.ae e.left.ag e.left.ac e.right.op e.right.ae e.right.ag e.right.ac e.aM i nx _ _) (some (AT.one (.b false),[])) (some (AT.one (.b true),[])) (λnx=> ?_) (λi c nx hi=> ?_) _ 0 A1 A1).trans ?_
        .unfold z3g.b7;rw[bz (Pi _),cF]
        .have j:i<e.aM.length:=(gI.1 hi).1;obtain⟨c1,c2⟩:=hc c (mG hi);unfold z3g.b7 uq;rw[bB j,cT,aZ hi,bS,Tm.eta,Tm.eta,bN A1];show Option.bind (uu s c.left c.right) _=_;rw[v _ _ c1 c2,bS];cases eQ s c.left c.right with
         |false=>rfl
         | true=>
          rw[N5,cF,N6];show Option.bind (jt c.left (cj e.left)) _=_;rw[d _ c1,bS];cases cZ (cj e.left) c.left with
          |false=>rfl
          | true=>
           rw[N5,cF,N6];show Option.bind (jt c.right (cj e.left)) _=_;rw[d _ c2,bS];cases cZ (cj e.left) c.right<;>rfl
        .grind
 .cases h
noncomputable def gHf:Tm->Tm->Y Bool:=λu t=>if t.az<4294967296 then some (decide (bH t u=0))else none
theorem tj:aj (z1b.ent gHf):=z1b.ok (G:=⟨eP 4294967296⟩) ⟨z1j _ (N4 _),trivial⟩ λu t r h=>by
 unfold gHf at h;split at h
 .rename_i hs;cases h;refine⟨1,?_⟩;unfold z1b.aq;rw[Tm.eta,Tm.eta];show Option.bind (eP 4294967296 t u) _=_;unfold eP;rw[N1 hs];rfl
 .cases h
def zv:RV Tm->Tm->Nat->Int
 |[],_,_=> -1
 |u::us,t,i=>if bH t u=0 then (i:Int)else zv us t (i+1)
theorem BI:∀(vs:RV Tm)(t:Tm)(i:Nat),decide (0<=zv vs t i)=inV vs t
 |[],_,_=>rfl
 | u::us,t,i=>by
  unfold zv inV;rw[List.any_cons];by_cases h:bH t u=0
  .grind
  .rw[N3 h,dF h,BI us t (i+1)];rfl
noncomputable def gIx:RV Tm->Tm->Y Int:=λvs t=>if t.az<4294967296/\vs.length<4294967296 then some (zv vs t 0)else none
noncomputable abbrev GIx:z5d.Gs:=⟨gHf⟩
theorem vU:aj (z5d.ent gIx):=z5d.ok (G:=GIx) ⟨tj,trivial⟩ λvs t r h=>by
 unfold gIx at h;split at h
 .rename_i hs;obtain⟨ht,hl⟩:=hs;have hl:List.length (α:=Tm) vs<4294967296:=hl;cases h;refine⟨List.length (α:=Tm) vs+1,?_⟩;unfold z5d.aq;refine(AU (List.length (α:=Tm) vs) (λi nx=>z5d.b2 GIx _ t vs (List.length (α:=Tm) vs:Int) i nx _ _) (λi=>some (AT.one (.i (zv (List.drop (α:=Tm) i vs) t i)),[.box [.i t.op,.s t.ae,.i t.ag,.l (.n 1) t.ac]])) (λnx=> ?_) (λi nx hi e=> ?_) _ 0 A1 A1).trans ?_
  .unfold z5d.b2;rw[bz (Pi _),cF,bQ];rfl
  .obtain⟨u,u1,_⟩:=bu hi;unfold z5d.b2;rw[bB hi,cT,aZ u1,bS,Tm.eta,Tm.eta,bN A1,e,bg u1];show Option.bind (gHf u t) _=_;rw[show gHf u t=some (decide (bH t u=0))from N1 ht,bS]
   conv=>rhs;unfold zv
   by_cases hc:bH t u=0
   .rw[dT hc,cT,N1 hc]<;>rfl
   .rw[dF hc,cF,N3 hc]<;>rfl
  .rw[NN]<;>rfl
 .cases h
noncomputable def pn:RV Tm->Tm->Y Bool:=λvs t=>if t.az<4294967296/\vs.length<4294967296 then some (inV vs t)else none
theorem pW:aj (z5b.ent pn):=z5b.ok (G:=⟨gIx⟩) ⟨vU,trivial⟩ λvs t r h=>by
 unfold pn at h;split at h
 .rename_i hs;cases h;refine⟨1,?_⟩;unfold z5b.aq;rw[Tm.eta];show Option.bind (gIx vs t) _=_;rw[show gIx vs t=some (zv vs t 0)from N1 hs,bS,BI]
 .cases h
theorem Ab:aj (z1a.ent pn):=z1a.ok (G:=⟨pn⟩) ⟨pW,trivial⟩ λvs t r h=>by
 refine⟨1,?_⟩;unfold z1a.aq;rw[Tm.eta];show Option.bind (pn vs t) _=_;rw[h];rfl
noncomputable def IY:RV Int->RV Int->RV Int->RV Z->RV Sb->RV Opr->Mp->Eqn->Y (Bool×Mp):=λab _ kd nm sb ops m e=>if Alg kd nm sb ops/\ab.length=nm.length/\SmE e then some (iz ⟨⟨nm,sb⟩,ops⟩ e,m)else none
noncomputable abbrev GEA:z0w.Gs:={z0x:=Dz,z10:=gn,z0p:=gVs,z1a:=pn}
section
variable {R : Type} {kd ab be : RV Int} {nm : RV Z} {sb : RV Sb} {ops : RV Opr} (hA : Alg kd nm sb ops) (hab : ab.length = nm.length)
include hA hab
theorem xm(m:Mp)(a b:Tm)(C:a.az<4294967296)(hb:b.az<4294967296)(A:Mp->Y R)(B:Mp->Y R):
  (Option.bind (Dz ab be kd nm sb ops m a) λd=>bif !d.1 then A d.2 else Option.bind (Dz ab be kd nm sb ops d.2 b) λh=>bif !h.1 then A h.2 else Option.bind (gn ab be kd nm sb ops h.2 a) λv=>Option.bind (gn ab be kd nm sb ops v.2 b) λj=>bif !decide (v.1=j.1)then A j.2 else B j.2)=bif eQ ⟨⟨nm,sb⟩,ops⟩ a b then B m else A m:=by
 have w:∀t:Tm,t.az<4294967296->Dz ab be kd nm sb ops m t=some (isT ⟨⟨nm,sb⟩,ops⟩ t,m):=λt ht=>N1 ⟨hA,hab,ht⟩;have y:∀t:Tm,isT ⟨⟨nm,sb⟩,ops⟩ t=true->gn ab be kd nm sb ops m t=some (dm ⟨⟨nm,sb⟩,ops⟩ t,m):=λt ht=>N1 ⟨hA,zx ht⟩;rw[w _ C,bS];unfold eQ;cases ta:isT ⟨⟨nm,sb⟩,ops⟩ a with
 |false=>rfl
 | true=>
  simp only[N5,cF,N6];rw[w _ hb,bS];cases tb:isT ⟨⟨nm,sb⟩,ops⟩ b with
  |false=>rfl
  | true=>
   simp only[N5,cF,N6];rw[y _ ta,bS];simp only[];rw[y _ tb,bS];simp only[];cases decide (dm ⟨⟨nm,sb⟩,ops⟩ a=dm ⟨⟨nm,sb⟩,ops⟩ b)<;>rfl
def ca(cs:RV Cnd):RV Tm:=cs.flatMap λc=>[c.left,c.right]
theorem D9(n:Nat)(vars:RV Tm)(cs:RV Cnd)(hc:∀c∈cs,c.left.az<1073741823/\c.right.az<1073741823)(h2:cs.length<=2)(m:Mp)(d:Bool->Mp->Y R)(k1:Mp->RV Tm->Y R):∀f (i:Nat) (l:RV Tm),l.length+2*(cs.length-i)<16->i<=cs.length->cs.length-i<f->
  z0w.l6 GEA n f ab be kd nm sb ops vars cs (cs.length:Int) (i:Int) m l d k1=bif (cs.drop i).all (λc=>eQ ⟨⟨nm,sb⟩,ops⟩ c.left c.right)then k1 m (l++ca (cs.drop i))else d false m:=by
 intro f
 induction f with
 |zero=>intro i l _ _ hm;omega
 | succ f j=>
  intro i l hl hi hm;show z0w.b6 GEA n ab be kd nm sb ops vars cs (cs.length:Int) (i:Int) m l (λt v w=>z0w.l6 GEA n f ab be kd nm sb ops vars cs (cs.length:Int) t v w d k1) d k1=_;unfold z0w.b6;by_cases hi:i<cs.length
  .obtain⟨c,c1,c2⟩:=bu hi;obtain⟨y,A⟩:=hc c c2;rw[bB hi,cT,aZ c1,bS,Tm.eta,Tm.eta];refine(xm (be:=be) hA hab m c.left c.right A1 A1 (λm=>d false m) (λm=>z0w.c10 GEA n ab be kd nm sb ops vars cs (cs.length:Int) (i:Int) m l c.left.op c.left.ae c.left.ag c.left.ac c.right.op c.right.ae c.right.ag c.right.ac (λh=>z0w.l6 GEA n f ab be kd nm sb ops vars cs (cs.length:Int) (wr ((i:Int)+1)) m h d k1))).trans ?_;unfold z0w.c10;rw[dw D5,bS,Tm.eta,Tm.eta,bN A1];dsimp only;rw[j (i+1) _ D5 hi A1,bg c1,O6];unfold ca;rw[Oi,Oo];cases eQ ⟨⟨nm,sb⟩,ops⟩ c.left c.right<;>rfl
  .obtain rfl:i=cs.length:=A1
   rw[bz (Pi _),cF,bQ];unfold ca;rw[List.flatMap_nil,Ok];rfl
omit hA hab in
theorem Jn(n:Nat)(vars l:RV Tm)(y:vars.length<4294967296)(hl:∀t∈l,t.az<1073741823)(A:l.length<4294967296)(B:∀t∈l,t.az+1<n)(m:Mp)(d:Bool->Y R)(k1:Y R)(f:Nat)(E:l.length<f):
  z0w.l13 GEA n f ab be kd nm sb ops vars (l.length:Int) m l 0 d k1=bif l.all (cZ vars)then k1 else d false:=by
 refine(Kp l (cZ vars) (λi nx=>z0w.b13 GEA n ab be kd nm sb ops vars (l.length:Int) m l i nx d k1) (d false) k1 (λnx=> ?_) (λi t nx hi=> ?_) f 0 A1 A1).trans (by rw[NN])
 .unfold z0w.b13;rw[bz (Pi _),cF]
 .have h:i<l.length:=(gI.1 hi).1;have hm:=mG hi;have ht:=hl t hm;have C:=mK t;have D:=B t hm;unfold z0w.b13;rw[bB h,cT,aZ hi,bS,Tm.eta];show Option.bind (gVs t) _=_;rw[show gVs t=some (cj t)from N1 ht,bS,bN A1];refine(Kp (cj t) (inV vars) (λi nx=>z0w.b16 GEA n ab be kd nm sb ops vars (l.length:Int) _ (cj t) ((cj t).length:Int) m l i nx _ _) (d false) (nx ((i+1:Nat):Int)) (λnx=> ?_) (λj v nx w=> ?_) n 0 A1 A1).trans (by rw[NN];rfl)
  .unfold z0w.b16;rw[bz (Pi _),cF]
  .have hjl:j<(cj t).length:=(gI.1 w).1;have:=(xz (mG w)).2.2;unfold z0w.b16;rw[bB hjl,cT,aZ w,bS,Tm.eta,bN A1];show Option.bind (pn vars v) _=_;rw[show pn vars v=some (inV vars v)from N1 ⟨A1,y⟩,bS];cases inV vars v<;>rfl
end
theorem xV{s:Sg}{vs:RV Tm}:∀cs:RV Cnd,cs.all (uq s vs)=(cs.all (λc=>eQ s c.left c.right)&&(ca cs).all (cZ vs))
 |[]=>rfl
 | c::cs=>by
  have:=xV (s:=s) (vs:=vs) cs;unfold ca at this ⊢;rw[O6,this,O6,Oi,List.all_append];unfold uq;simp only[O6,List.all_nil,Bool.and_true];cases eQ s c.left c.right<;>cases cZ vs c.left<;>cases cZ vs c.right<;>cases (cs.all λc=>eQ s c.left c.right)<;>rfl
theorem MV{s:Sg}{t:Tm}(h:isT s t=true):decide (t.op<0)=decide (t.op= -1):=by
 unfold isT at h;simp only[bA]at h;have h:=h.2.2;rw[nL]at h;unfold nA jc at h;by_cases ho:t.op= -1
 .grind
 .rw[N3 ho]at h;by_cases h0:t.op<0
  .rw[p9 (.inl h0)]at h;simp at h
  .grind
theorem IL{R:Type}{kd ab be:RV Int}{nm:RV Z}{sb:RV Sb}{ops:RV Opr}(hA:Alg kd nm sb ops)(hab:ab.length=nm.length)(m:Mp)(e:Eqn)(he:SmE e)(K:Bool->Mp->Y R):
  z0w.aq GEA 1073741827 ab be kd nm sb ops m e K=K (iz ⟨⟨nm,sb⟩,ops⟩ e) m:=by
 obtain⟨hl,hr,hc⟩:=he;unfold z0w.aq;rw[Tm.eta,Tm.eta];refine(xm (be:=be) hA hab m e.left e.right A1 A1 (λm=>K false m) (λm=>bif decide (e.left.op<0)then K false m else bif decide (2<(e.aM.length:Int))then K false m else z0w.c3 GEA 1073741827 ab be kd nm sb ops m e.left.op e.left.ae e.left.ag e.left.ac e.right.op e.right.ae e.right.ag e.right.ac e.aM (λj d=>K j d))).trans ?_;unfold iz;cases hp:eQ ⟨⟨nm,sb⟩,ops⟩ e.left e.right with
 |false=>rfl
 | true =>
  rw[cT,N6];have tl:isT ⟨⟨nm,sb⟩,ops⟩ e.left=true:=by
   unfold eQ at hp;simp only[bA]at hp;exact hp.1
  rw[MV tl];cases decide (e.left.op= -1)with
  |true=>rfl
  | false=>
   rw[cF,NR,N6,As];cases h2:decide ((e.aM.length:Int)<=2)with
   |false=>rfl
   | true=>
    have h2:=NZ h2;rw[N5,cF,N6];unfold z0w.c3;have v:=mK e.left;rw[Tm.eta,Tm.eta];show Option.bind (gVs e.left) _=_;rw[show gVs e.left=some (cj e.left)from N1 hl,bS];refine(D9 (be:=be) hA hab 1073741827 (cj e.left) e.aM hc A1 m _ _ _ 0 _ D5 A1 A1).trans ?_;rw[NN,xV];cases (e.aM.all λc=>eQ ⟨⟨nm,sb⟩,ops⟩ c.left c.right)with
    |false=>simp
    | true=>
     rw[cT,N6];have w:(ca e.aM).length<=4:=by
      unfold ca
      match e.aM,h2 with
      |[],_=>simp
      |[_],_=>simp
      |[_,_],_=>simp
      |_::_::_::_,h2=>simp at h2;omega
     have h:∀t∈[e.right]++ca e.aM,t.az<1073741823:=λt ht=>by
      rcases List.mem_append.1 ht with ht|ht
      .grind
      .unfold ca at ht;obtain⟨c,c1,c2⟩:=List.mem_flatMap.1 ht;obtain⟨y,A⟩:=hc c c1;simp at c2;rcases c2 with rfl|rfl
       .exact y
       .exact A
     refine(Jn 1073741827 (cj e.left) _ A1 h D5 (λt ht=>by have:=h t ht;omega) m _ _ _ D5).trans ?_;rw[List.all_append,O6,List.all_nil,Bool.and_true];cases cZ (cj e.left) e.right<;>cases (ca e.aM).all (cZ (cj e.left))<;>cases decide (((cj e.left).length:Int)<=5)<;>rfl
theorem td:aj (z0w.ent IY):=z0w.ok (G:=GEA) ⟨AM,oF,z0r,Ab,trivial⟩ λab be kd nm sb ops m e r h=>by
 unfold IY at h;split at h
 .rename_i hs;obtain⟨hA,hab,he⟩:=hs;cases h;exact⟨1073741827,(IL hA hab m e he _).trans rfl⟩
 .cases h
def wIf:Z:=ByteArray.mk #[32,105,102,32]
def dZ:Z:=ByteArray.mk #[32,97,110,100,32]
def wEq:Z:=ByteArray.mk #[32,61,32]
def fmE(s:Sg):Nat->Z->RV Cnd->Z
 |_,out,[]=>out
 |i,out,c::cs=>fmE s (i+1) (out++(if i=0 then wIf else dZ)++txB s c.left++wEq++txB s c.right) cs
def oI(s:Sg)(e:Eqn):Z:=fmE s 0 (txB s e.left++wEq++txB s e.right) e.aM
def PrC(s:Sg)(c:Cnd):Prop:=Pr s c.left/\Pr s c.right
def PrE(s:Sg)(e:Eqn):Prop:=Pr s e.left/\Pr s e.right/\(∀c∈e.aM,PrC s c)/\e.aM.length<=2
theorem Bu{s:Sg}{a b:Tm}(hS:bI s=true)(d:a.az<1073741823)(hb:b.az<1073741823)(h:eQ s a b=true):Pr s a/\Pr s b:=by
 have key:∀t:Tm,t.az<1073741823->isT s t=true->Pr s t:=λt ht h=>by
  unfold isT at h;simp only[bA,NO]at h;exact⟨hS,A1,h.1,jA h.2.2⟩
 unfold eQ at h;simp only[bA]at h;exact⟨key a d h.1,key b hb h.2.1⟩
theorem Gt{s:Sg}{e:Eqn}(hS:bI s=true)(he:SmE e)(h:iz s e=true):PrE s e:=by
 unfold iz uq at h;simp only[bA,NO,aT]at h;obtain⟨h1,_,h2,_,d⟩:=h;obtain⟨a,b⟩:=Bu hS he.1 he.2.1 h1;exact⟨a,b,λc hc=>Bu hS (he.2.2 c hc).1 (he.2.2 c hc).2 (d c hc).1,A1⟩
theorem wY{s:Sg}{c:Cnd}(h:PrC s c){out w:Z}(ho:out.size<=100000)(d:w.size<=5):
  dj out w=some (out++w)/\dj (out++w) (txB s c.left)=some (out++w++txB s c.left)/\dj (out++w++txB s c.left) wEq=some (out++w++txB s c.left++wEq)/\dj (out++w++txB s c.left++wEq) (txB s c.right)=some (out++w++txB s c.left++wEq++txB s c.right)/\(out++w++txB s c.left++wEq++txB s c.right).size<=out.size+4000:=by
 have:=h.1.size;have:=h.2.size;have e:wEq.size=3:=rfl;simp only[bD];refine⟨dq A1,dq (by rw[bD];omega),dq (by simp only[bD];omega),dq (by simp only[bD];omega),A1⟩
noncomputable def gFE:RV Int->RV Int->RV Int->RV Z->RV Sb->RV Opr->Mp->Eqn->Y (Z×Mp):=λ_ _ _ nm sb ops m e=>if PrE ⟨⟨nm,sb⟩,ops⟩ e then some (oI ⟨⟨nm,sb⟩,ops⟩ e,m)else none
theorem Be{ab be kd:RV Int}{nm:RV Z}{sb:RV Sb}{ops:RV Opr}(m:Mp){t:Tm}(h:Pr ⟨⟨nm,sb⟩,ops⟩ t):gFm 4294967296 ab be kd nm sb ops m t=some (txB ⟨⟨nm,sb⟩,ops⟩ t,m):=N1 ⟨h,h.2.1⟩
theorem vR{s:Sg}{t:Tm}(h:Pr s t):js 4294967296 s t=some (txB s t):=N1 ⟨h,h.2.1⟩
section
variable {R : Type} {nm : RV Z} {sb : RV Sb} {ops : RV Opr}
theorem J7(n:Nat){ab be kd:RV Int}(cs:RV Cnd)(hc:∀c∈cs,PrC ⟨⟨nm,sb⟩,ops⟩ c)(hl:cs.length<=2)(d:Mp)(j:Z->Mp->Y R):∀m (i:Nat) (out:Z),i<=cs.length->cs.length-i<m->out.size<=5000+i*4000->
  z0v.l3 ⟨gFm 4294967296⟩ n m ab be kd nm sb ops cs (cs.length:Int) out (i:Int) d j=j (fmE ⟨⟨nm,sb⟩,ops⟩ i out (cs.drop i)) d:=by
 intro m
 induction m with
 |zero=>exact RM
 | succ m v=>
  intro i out h1 hm ho;show z0v.b3 ⟨gFm 4294967296⟩ n ab be kd nm sb ops cs (cs.length:Int) out (i:Int) d (λy A B=>z0v.l3 ⟨gFm 4294967296⟩ n m ab be kd nm sb ops cs (cs.length:Int) y A B j) j=_;unfold z0v.b3;by_cases hi:i<cs.length
  .obtain⟨c,t,C⟩:=bu hi;have hp:=hc c C;have key:∀w:Z,w.size<=5->w=(if i=0 then wIf else dZ)->z0v.c8 (R:=R) ⟨gFm 4294967296⟩ n ab be kd nm sb ops out w cs (cs.length:Int) (i:Int) d c.left.op c.left.ae c.left.ag c.left.ac c.right.op c.right.ae c.right.ag c.right.ac (λo h=>z0v.l3 ⟨gFm 4294967296⟩ n m ab be kd nm sb ops cs (cs.length:Int) o (wr ((i:Int)+1)) h j)=j (fmE ⟨⟨nm,sb⟩,ops⟩ i out (c::cs.drop (i+1))) d:=λw D E=>by
    obtain⟨F,G,H,I,J⟩:=wY hp (out:=out) A1 D;unfold z0v.c8;rw[Tm.eta,Tm.eta];show Option.bind (gFm 4294967296 ab be kd nm sb ops d c.left) _=_;rw[Be d hp.1,bS];show Option.bind (gFm 4294967296 ab be kd nm sb ops d c.right) _=_;rw[Be d hp.2,bS,F,bS,G,bS];show Option.bind (dj _ wEq) _=_;rw[H,bS,I,bS,bN A1];subst E;exact(v (i+1) _ hi A1 A1).trans rfl
   rw[bB hi,cT,aZ t,bS,bg t];by_cases h0:i=0
   .rw[dT A1,cT];exact key wIf D2 (N1 h0).symm
   .rw[dF A1,cF];exact key dZ D2 (N3 h0).symm
  .obtain rfl:i=cs.length:=A1
   exact RP
theorem ET(n:Nat)(a:Int)(b:Z)(c:Int)(d:RV Tm)(j:Int)(b2:Z)(c2:Int)(d2:RV Tm)(cs:RV Cnd)(hc:∀c∈cs,PrC ⟨⟨nm,sb⟩,ops⟩ c)(hl:cs.length<=2)(h:Z->Y R):∀m (i:Nat) (out:Z),i<=cs.length->cs.length-i<m->out.size<=5000+i*4000->
  z3f.l5 ⟨sQ,js 4294967296⟩ n m nm sb ops a b c d j b2 c2 d2 cs out (i:Int) h=h (fmE ⟨⟨nm,sb⟩,ops⟩ i out (cs.drop i)):=by
 intro m
 induction m with
 |zero=>exact RM
 | succ m v=>
  intro i out h1 hm ho;show z3f.b5 ⟨sQ,js 4294967296⟩ n nm sb ops a b c d j b2 c2 d2 cs out (i:Int) (λy A=>z3f.l5 ⟨sQ,js 4294967296⟩ n m nm sb ops a b c d j b2 c2 d2 cs y A h) h=_;unfold z3f.b5;by_cases hi:i<cs.length
  .obtain⟨x,t,B⟩:=bu hi;have hp:=hc x B;have key:∀w:Z,w.size<=5->w=(if i=0 then wIf else dZ)->z3f.c10 (R:=R) ⟨sQ,js 4294967296⟩ n out (i:Int) w nm sb ops a b c d j b2 c2 d2 cs (λo=>z3f.l5 ⟨sQ,js 4294967296⟩ n m nm sb ops a b c d j b2 c2 d2 cs o (wr ((i:Int)+1)) h)=h (fmE ⟨⟨nm,sb⟩,ops⟩ i out (x::cs.drop (i+1))):=λw C D=>by
    obtain⟨E,F,G,H,I⟩:=wY hp (out:=out) A1 C;unfold z3f.c10;rw[E,bS,aZ t,bS,Tm.eta];show Option.bind (js 4294967296 _ x.left) _=_;rw[vR hp.1,bS,F,bS];show Option.bind (dj _ wEq) _=_;rw[G,bS,bS,Tm.eta];show Option.bind (js 4294967296 _ x.right) _=_;rw[vR hp.2,bS,H,bS,bN A1];subst D;exact(v (i+1) _ hi A1 A1).trans rfl
   rw[bB hi,cT,bg t];by_cases h0:i=0
   .rw[dF A1,cF];exact key wIf D2 (N1 h0).symm
   .rw[dT A1,cT];exact key dZ D2 (N3 h0).symm
  .obtain rfl:i=cs.length:=A1
   exact RP
end
theorem xK{s:Sg}{e:Eqn}(h:PrE s e):dj (txB s e.left) wEq=some (txB s e.left++wEq)/\dj (txB s e.left++wEq) (txB s e.right)=some (txB s e.left++wEq++txB s e.right)/\(txB s e.left++wEq++txB s e.right).size<=5000:=by
 have:=h.1.size;have:=h.2.1.size;have e:wEq.size=3:=rfl;simp only[bD];exact⟨dq A1,dq (by rw[bD];omega),A1⟩
theorem m9:aj (z0v.ent gFE):=z0v.ok (G:=⟨gFm 4294967296⟩) ⟨tP _,trivial⟩ λab be kd nm sb ops m e r h=>by
 unfold gFE at h;split at h
 .rename_i hs;cases h;obtain⟨d,j,t⟩:=xK hs;refine⟨3,?_⟩;unfold z0v.aq;rw[Tm.eta,Tm.eta];show Option.bind (gFm 4294967296 ab be kd nm sb ops m e.left) _=_;rw[Be m hs.1,bS];show Option.bind (gFm 4294967296 ab be kd nm sb ops m e.right) _=_;rw[Be m hs.2.1,bS];show Option.bind (dj _ wEq) _=_;rw[d,bS,j,bS];exact(J7 3 e.aM hs.2.2.1 hs.2.2.2 m _ 3 0 _ A1 (by have:=hs.2.2.2;omega) A1).trans rfl
 .cases h
noncomputable def C7:Sg->Eqn->Y Z:=λs e=>if SmE e then some (if bI s=true/\iz s e=true then oI s e else ByteArray.empty)else none
theorem nW:aj (z3f.ent C7):=z3f.ok (G:=⟨sQ,js 4294967296⟩) ⟨z3h,pp _,trivial⟩ λs e r h=>by
 unfold C7 at h;split at h
 .rename_i hs;cases h;obtain⟨⟨nm,sb⟩,ops⟩:=s;refine⟨3,?_⟩;unfold z3f.aq;rw[Tm.eta,Tm.eta,Eqn.eta];show Option.bind (sQ _ e) _=_;rw[show sQ ⟨⟨nm,sb⟩,ops⟩ e=_ from N1 hs,bS];cases hS:bI ⟨⟨nm,sb⟩,ops⟩with
  |false=>rw[N3 C3];rfl
  | true=>
   cases d:iz ⟨⟨nm,sb⟩,ops⟩ e with
   |false=>rw[N3 C3];rfl
   | true=>
    have hp:=Gt hS hs d;obtain⟨j,t,v⟩:=xK hp;rw[N1 ⟨rfl,rfl⟩];show Option.bind (js 4294967296 _ e.left) _=_;rw[vR hp.1,bS];show Option.bind (dj _ wEq) _=_;rw[j,bS];show Option.bind (js 4294967296 _ e.right) _=_;rw[vR hp.2.1,bS,t,bS];exact(ET 3 _ _ _ _ _ _ _ _ e.aM hp.2.2.1 hp.2.2.2 _ 3 0 _ A1 (by have:=hp.2.2.2;omega) A1).trans rfl
 .cases h
noncomputable def lz(s:Sg):RV Ob:=[.box [.l .i (du s).1,.l .i (du s).2.1,.l .i (du s).2.2.1,.l .s s.ai.ah,.l (.n 5) s.ai.ak,.l (.n 8) s.ops,.m 1],.map .i []]
structure AlgD(s:Sg)(M:Nat->Prop)(n:Nat)(w:World)(p:Value)(ρ:Rho)(h:Abs.aD)(ι:List Abs.Inf)(I:Nat->Prop)(v:Abs.V):Prop where
 hp:HpR ρ (lz s) h
 hr:Abs.HR ι I w h
 pt:CR ρ (lz s) (.p 0 0) v
 vr:Abs.VR I w ι v p
 lt:∀b,I b->b<n
 cc:∀b,Abs.gq ι h b->M b/\b<n
 sz:n<=w.heap.size
def ic(s:Sg)(M:Nat->Prop)(n:Nat)(w:World)(p:Value):Prop:=∃ρ h ι I v,AlgD s M n w p ρ h ι I v
section
variable {s : Sg} {M : Nat → Prop} {n : Nat} {w w' : World} {p : Value}
theorem ic.aB(a:ic s M n w p)(hb:Below n w w'):ic s M n w' p:=by
 obtain⟨ρ,h,ι,I,v,a⟩:=a;have k:Abs.cB I I w w':=⟨λ_ h=>h,λb d=>hb.block b (a.lt b d)⟩;exact⟨ρ,h,ι,I,v,a.hp,⟨a.hr.len,λid o inf h1 h2=>(a.hr.obj id o inf h1 h2).aB (Abs.bn.refl _) k (hb.block _ (a.cc _ ⟨id,o,inf,h1,h2,rfl⟩).2),a.hr.off,a.hr.inj,λ_ _ _ h=>h.elim⟩,a.pt,a.vr.aB (Abs.bn.refl _) k,a.lt,a.cc,NS a.sz hb.size⟩
theorem CR.ptr0{ρ:Rho}{H:RV Ob}{id:Nat}{v:Abs.V}(h:CR ρ H (.p id 0) v):∃b,v= .ptr b 0 0/\ρ[id]? =some (some b):=by
 cases h with
 |fl h=>cases h
 |p h=>exact⟨_,rfl,h⟩
theorem ic.sig(a:ic s M n w p):∃B o x y z,p= .pointer (some ⟨B,o,none⟩)/\B<n/\w.cell? ⟨B,o+3,none⟩=some x/\w.cell? ⟨B,o+4,none⟩=some y/\w.cell? ⟨B,o+5,none⟩=some z/\
  At w (λb=>b<n) (strs s.ai.ah) x/\At w (λb=>b<n) (ak s.ai.ak) y/\At w (λb=>b<n) (iP s.ops) z:=by
 obtain⟨ρ,h,ι,I,v,a⟩:=a;obtain⟨b,rfl,h0⟩:=a.pt.ptr0;obtain⟨Q,vs,h1,h2,hl,A⟩:=a.hp.box 0 _ rfl;rw[h0]at h1;cases h1;have vr:=a.vr;cases vr with
 | @ptr _ _ _ _ inf hi=>
  obtain⟨cur,ty,D,R,S,U,V,W,E⟩:=a.hr.obj b _ inf h2 hi;have X:vs.length=7:=hl.symm;have at_:∀j (t:j<7),∃u x,w.cell? ⟨inf.block,inf.base+j,none⟩=some u/\CR ρ (lz s) ([C.l .i (du s).1,.l .i (du s).2.1,.l .i (du s).2.2.1,.l .s s.ai.ah,.l (.n 5) s.ai.ak,.l (.n 8) s.ops,.m 1][j]) x/\Abs.VR I w ι x u:=λj t=>by
   obtain⟨u,u1,u2⟩:=E 0 C3 j (by show j<vs.length;omega);refine⟨u,vs[j],?_,A j t A1,u2⟩;rw[cell_of_row w inf.block _ cur ty (0,0) D];simpa using u1
  obtain⟨x,Y,c3,F,q3⟩:=at_ 3 A1;obtain⟨y,Z,c4,G,q4⟩:=at_ 4 A1;obtain⟨z,vz,c5,H,q5⟩:=at_ 5 A1
  have fl:∀{T:Ty}{xs:RV (Den.I T)}{v:Abs.V}{u:Value},CR ρ (lz s) (.l T xs) v->Abs.VR I w ι v u->∃e,FR (.l T xs) e/\Abs.VR I w [] e u:=λ{T xs v u} h k=>by
   cases h with
   | fl h=>
    refine⟨_,h,?_⟩;cases h with
    | l=>cases k with
     |dC hc=>exact .dC hc
     |imm a b c d e f g=>exact .imm a b c d e f g
  obtain⟨_,J,K⟩:=fl F q3;obtain⟨_,L,N⟩:=fl G q4;obtain⟨_,O,P⟩:=fl H q5;exact⟨_,_,x,y,z,C3,(a.cc _ ⟨b,_,inf,h2,hi,rfl⟩).2,c3,c4,c5,(xQ J K).mono λb hb _=>a.lt b hb,(yP L N).mono λb hb _=>a.lt b hb,(wy O P).mono λb hb _=>a.lt b hb⟩
theorem ud{f:FuncId}{r:C}{e:Eqn}{x y z:Value}(hc:CFn Tryz.prog f [.one (.p 0 0),.agg (mF e)] (lz s) (.one r) (lz s))(a:ic s M n w p)(he:EqAt w (λb=>¬M b) e x y z):
  Calls Tryz.prog f #[p,.agg (di e x y z)] w λq w'=>∃c ρ ι I v,q= .returned c/\CR ρ (lz s) r v/\Abs.VR I w' ι v c/\ic s (λb=>M b\/w.heap.size<=b) w'.heap.size w' p/\Below 0 w w'/\∀b,b<w.heap.size->¬M b->w'.heap[b]? =w.heap[b]? :=by
 obtain⟨ρ,h,ι,I,v,a⟩:=a;have k:Abs.cB I (λb=>I b\/(¬M b/\b<w.heap.size)) w w:=⟨λ_ h=>.inl h,λ_ _=>rfl⟩;have hr:Abs.HR ι (λb=>I b\/(¬M b/\b<w.heap.size)) w h:=⟨a.hr.len,λid o inf h1 h2=>(a.hr.obj id o inf h1 h2).aB (Abs.bn.refl _) k rfl,λid o inf h1 h2 B=>B.elim (a.hr.off id o inf h1 h2) λq=>q.1 (a.cc _ ⟨id,o,inf,h1,h2,rfl⟩).1,a.hr.inj,λ_ _ _ h=>h.elim⟩;obtain⟨vs,E,F⟩:=u7 (J:=λb=>I b\/(¬M b/\b<w.heap.size)) (λb h1 h2=>.inr ⟨h1,h2⟩) he;have hA:Abs.ARs ι (λb=>I b\/(¬M b/\b<w.heap.size)) w [.one v,.agg vs] #[p,.agg (di e x y z)]:=⟨rfl,λj G=>by
  match j,G with
  |0,_=>exact⟨p,rfl,.one (a.vr.aB (Abs.bn.refl _) k)⟩
  |1,_=>exact⟨_,rfl,F ι⟩⟩
 refine((hc ρ h [.one v,.agg vs] a.hp (cL (.one a.pt) (cL (E _ _) ge))).2 w _ ι _ hr (λb hb=>hb.elim (λhb=>NV (a.lt b hb) a.sz) λhb=>hb.2) hA).mono ?_;rintro q w' ⟨H,h',ι',A,c,⟨ρ',q1,q2,q3⟩,rfl,D⟩;obtain⟨u,u1,u2⟩:=fP q1 D.res;obtain⟨b,rfl,d⟩:=a.pt.ptr0;refine⟨c,ρ',ι',A,u,rfl,u1,u2,⟨ρ',h',ι',A,.ptr b 0 0,q2,D.heap,.p (q3.rho _ _ d),?_,D.imm,λb ⟨id,o,inf,h1,h2,e⟩=> ?_,N4 _⟩,⟨D.os,D.tape,D.output,D.grown,λb hb=>absurd hb (NP _)⟩,λb h1 h2=>D.frame b h1 λhp=>h2 (a.cc b hp).1⟩
 .have vr:=a.vr;cases vr with
  |ptr hi=>exact .ptr (D.pre _ _ hi)
 .subst e;exact⟨(D.cc id o inf h1 h2).imp (λt=>(a.cc _ t).1) λt=>t,D.heap.blk h1 h2⟩
end
theorem JW(s:Sg)(e:Eqn)(hS:bI s=true)(he:SmE e):IY (du s).1 (du s).2.1 (du s).2.2.1 s.ai.ah s.ai.ak s.ops [] e=some (iz s e,[]):=N1 ⟨⟨hS,rfl⟩,fN _ _,he⟩
section
variable {s : Sg} {M : Nat → Prop} {n : Nat} {w : World} {p x y z : Value} {e : Eqn}
theorem vD(hS:bI s=true)(j:SmE e)(a:ic s M n w p)(he:EqAt w (λb=>¬M b) e x y z):
  Calls Tryz.prog 45 #[p,.agg (di e x y z)] w λq w'=>q= .returned (.bool (iz s e))/\ic s (λb=>M b\/w.heap.size<=b) w'.heap.size w' p/\Below 0 w w'/\∀b,b<w.heap.size->¬M b->w'.heap[b]? =w.heap[b]? :=by
 have hc:CFn Tryz.prog 45 [.one (.p 0 0),.agg (mF e)] (lz s) (.one (.b (iz s e))) (lz s):=by
  obtain⟨v,H',d,q⟩:=td (AT×RV Ob) [.one (.p 0 0),.agg (mF e)] (lz s) (λv H'=>some (v,H')) (.one (.b (iz s e)),lz s) (by
   show Option.bind (IY (du s).1 (du s).2.1 (du s).2.2.1 s.ai.ah s.ai.ak s.ops [] (Eqn.mk (Tm.mk _ _ _ _) (Tm.mk _ _ _ _) _)) _=_;rw[Tm.eta,Tm.eta,Eqn.eta,JW s e hS j];rfl)
  cases d;exact q
 refine(ud hc a he).mono λq w' ⟨c,ρ,ι,I,v,d,t,A,h⟩=> ?_;obtain rfl:=ji t A;exact⟨d,h⟩
theorem ox(j:PrE s e)(a:ic s M n w p)(he:EqAt w (λb=>¬M b) e x y z):
  Calls Tryz.prog 46 #[p,.agg (di e x y z)] w λq w'=>q= .returned (.string (oI s e))/\ic s (λb=>M b\/w.heap.size<=b) w'.heap.size w' p/\Below 0 w w'/\∀b,b<w.heap.size->¬M b->w'.heap[b]? =w.heap[b]? :=by
 have hc:CFn Tryz.prog 46 [.one (.p 0 0),.agg (mF e)] (lz s) (.one (.s (oI s e))) (lz s):=by
  obtain⟨v,H',d,q⟩:=m9 (AT×RV Ob) [.one (.p 0 0),.agg (mF e)] (lz s) (λv H'=>some (v,H')) (.one (.s (oI s e)),lz s) (by
   show Option.bind (gFE (du s).1 (du s).2.1 (du s).2.2.1 s.ai.ah s.ai.ak s.ops [] (Eqn.mk (Tm.mk _ _ _ _) (Tm.mk _ _ _ _) _)) _=_;rw[Tm.eta,Tm.eta,Eqn.eta,show gFE (du s).1 (du s).2.1 (du s).2.2.1 s.ai.ah s.ai.ak s.ops [] e=some (oI s e,[])from N1 j];rfl)
  cases d;exact q
 refine(ud hc a he).mono λq w' ⟨c,ρ,ι,I,v,d,t,A,h⟩=> ?_;obtain⟨rfl,_⟩:=iG t A;exact⟨d,h⟩
end
section
variable {s : Sg} {w : World} {v u z : Value} (h : At w Any (strs s.ai.ah) v) (k : At w Any (ak s.ai.ak) u) (l : At w Any (iP s.ops) z)
include h k l
theorem vt:Calls Tryz.prog 20 #[.agg #[v,u,z]] w λe w'=>Below w.heap.size w w'/\∃p,e= .returned (.tuple #[p,.bool (bI s)])/\(bI s=true->ic s (λb=>w.heap.size<=b/\b<w'.heap.size) w'.heap.size w' p):=by
 obtain⟨v1,B,C⟩:=uW (J:=λb=>b<w.heap.size) (λb _ hb=>hb) h k l;have hc:∀(r:AT)(H:RV Ob),xW (if bI s=true then some (du s)else none) (some (AT.tup [.one .z,.one (.b false)],([]:RV Ob))) (λq=>some (.tup [.one (.p 0 0),.one (.b true)],[.box [.l .i q.1,.l .i q.2.1,.l .i q.2.2.1,.l .s q.2.2.2.1,.l (.n 5) q.2.2.2.2.1,.l (.n 8) q.2.2.2.2.2.1,.m 1],.map .i q.2.2.2.2.2.2]))=some (r,H)->CFn Tryz.prog 20 [.agg [.l .s s.ai.ah,.l (.n 5) s.ai.ak,.l (.n 8) s.ops]] [] r H:=λr H hr=>by
  obtain⟨v,H',E,q⟩:=lK (AT×RV Ob) [.agg [.l .s s.ai.ah,.l (.n 5) s.ai.ak,.l (.n 8) s.ops]] [] (λv H'=>some (v,H')) (r,H) hr;cases E;exact q
 have hx:=cL (ρ:=[]) (H:=[]) B ge;have hA:=dN C jy;cases hS:bI s with
 | false=>
  refine(gN (hc _ _ (by rw[hS];rfl)) (λ_ hb=>hb) hx hA).mono ?_;rintro e w' ⟨r,h',ι',A,c,ρ',rfl,q1,_,D,hb⟩;obtain⟨F,G,c1,c2,rfl,_,_,d,j⟩:=mN q1 D.res;obtain⟨I,t,y⟩:=fP d j;obtain rfl:=ji t y;exact⟨hb,c1,rfl,λh=>Hm⟩
 | true=>
  refine(gN (hc _ (lz s) (by rw[hS];rfl)) (λ_ hb=>hb) hx hA).mono ?_;rintro e w' ⟨r,h',ι',A,c,ρ',rfl,q1,q2,D,hb⟩;obtain⟨F,G,c1,c2,rfl,K,L,d,j⟩:=mN q1 D.res;obtain⟨I,t,y⟩:=fP d j;obtain rfl:=ji t y;obtain⟨M,N,O⟩:=fP K L;exact⟨hb,c1,rfl,λ_=>⟨ρ',h',ι',A,M,q2,D.heap,N,O,D.imm,λb ⟨id,o,inf,h1,h2,e⟩=>by
   subst e;exact⟨⟨(D.cc id o inf h1 h2).elim (λq=>(Abs.ou _ q).elim) (λq=>q),D.heap.blk h1 h2⟩,D.heap.blk h1 h2⟩,N4 _⟩⟩
end
end
end Go.Proofs.YtigoabbppmdfpaaGreat.Den

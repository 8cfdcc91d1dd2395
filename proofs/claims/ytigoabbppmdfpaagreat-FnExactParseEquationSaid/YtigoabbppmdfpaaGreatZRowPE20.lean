/- merged -/
import Derived.Test.YtigoabbppmdfpaaGreatZRowPE8
import Derived.Test.YtigoabbppmdfpaaGreatZRowPE16
import Derived.Test.YtigoabbppmdfpaaGreatZRowPE18
import Derived.Test.YtigoabbppmdfpaaGreatZRowPE19

namespace Go.Proofs.YtigoabbppmdfpaaGreat.Den
open Go.RowKit
section
set_option maxRecDepth 100000
set_option linter.unusedVariables false
noncomputable section
namespace z1n
structure Gs where
 none_:Unit
def ax(_:Gs):RV Ent:=[]
def b0{R:Type}(G:Gs)(n:Nat)(d:Z)(j t v:LI)(w:LB)(y:LS)(A:LO)(h2:LM)(h0:Int)(nx h:Int->Y R):Y R:=bif decide (h0<(ByteArray.size d:Int))then((sIx d h0).bind λb2=>bif decide (b2=32)then(nx (wr (h0+1)))else h h0)else h h0
def l0{R:Type}(G:Gs)(n m:Nat)(d:Z)(h j t:LI)(w:LB)(y:LS)(A:LO)(h2:LM)(h0:Int)(B:Int->Y R):Y R:=aS (λ(v:Int) nx=>b0 G n d h j t w y A h2 v (λC=>nx C) B) m h0
def aq{R:Type}(G:Gs)(n:Nat)(j t v:LI)(w:LB)(y:LS)(A:LO)(h:LM)(B:Z)(C:Int)(K:Int->LM->Y R):Y R:=
 l0 G n n B j t v w y A h C
  (λd=>K d h)
def dl0(G:Gs)(n m:Nat):=rS [0] [.x (.p 0 0)] [.b [.p 1 0,.s,.i],.b [.l .i,.l .i,.l .i,.l .s,.l (.n 5),.l (.n 8),.m 2],.m .i] λR K h h0 j t v w y A h2=>l0 G n m h j t v w y A h2 h0 (λd=>K (.exit 0) ⟨[],[.box [.p 1 0,.s h,.i d],.box [.l .i j,.l .i t,.l .i v,.l .s w,.l (.n 5) y,.l (.n 8) A,.m 2],.map .i h2]⟩)
def pc(G:Gs)(n:Nat):Pcs:=⟨λR id st K=>bif Nat.beq id 0 then dl0 G n n R st K else none,nK,nK⟩
def an:Ann:=⟨31,3,[(0,[0])],[],[],[(0,⟨[([0,1,2,3,4,5,6,7,8,9,10,11,12,13,14,15,16,17,18,19,20,21],[],[])],[],[],[0,1,2],[]⟩)],[]⟩
abbrev bd:=aF Tryz.f106
abbrev q0:=aJ [0,0] bd
theorem pl0{G:Gs}(d:am (ax G))(n:Nat):∀m,al an (.loop q0) (dl0 G n m):=lpq d (pc G n) ⟨[],[],[(0,[])]⟩
theorem ok{G:Gs}(B:am (ax G)){g:Q}(E:∀d h t v w y C A D r,g d h t v w y C A D=some r->∃n,aq (R:=AT×RV Ob) G n d h t v w y C A D (λF H=>some (.tup [],[.box [.p 1 0,.s A,.i F],.box [.l .i d,.l .i h,.l .i t,.l .s v,.l (.n 5) w,.l (.n 8) y,.m 2],.map .i H]))=some (.tup [],[.box [.p 1 0,.s A,.i r.1],.box [.l .i d,.l .i h,.l .i t,.l .s v,.l (.n 5) w,.l (.n 8) y,.m 2],.map .i r.2])):aj (ent g):=okQ λ_ _ _ _ _ _ _ _ _ _ _ _ hc=>okL hc λr j=>let⟨n,j⟩:=E _ _ _ _ _ _ _ _ _ _ j;fF B an (pc G n) Tryz.func106 j (apl [(1,0,.loop q0)] ⟨pl0 B n n,trivial⟩)
end z1n
namespace z1l
structure Gs where
 z1n:z1n.Q
def aq{R:Type}(G:Gs)(n:Nat)(h j t:LI)(v:LB)(w:LS)(y:LO)(A:LM)(d:Z)(B c:Int)(K:Bool->Int->LM->Y R):Y R:=
 (G.z1n h j t v w y A d B).bind λr=>
 bif decide (r.1<(ByteArray.size d:Int))then
  (
  (sIx d r.1).bind λb2=>
  bif decide (b2=c)then
   (K true (wr (r.1+1)) r.2)
  else
   K false r.1 r.2
  )
 else
  K false r.1 r.2
theorem ok{G:Gs}(D:am [z1n.ent G.z1n]){g:Q}(E:∀d h t v w y B A C c r,g d h t v w y B A C c=some r->∃n,aq (R:=AT×RV Ob) G n d h t v w y B A C c (λF I J=>some (.one (.b F),[.box [.p 1 0,.s A,.i I],.box [.l .i d,.l .i h,.l .i t,.l .s v,.l (.n 5) w,.l (.n 8) y,.m 2],.map .i J]))=some (.one (.b r.1),[.box [.p 1 0,.s A,.i r.2.1],.box [.l .i d,.l .i h,.l .i t,.l .s v,.l (.n 5) w,.l (.n 8) y,.m 2],.map .i r.2.2])):aj (ent g):=λR xs H K r hc=>by
 simp only[ent]at hc;split at hc
 .exact okL hc λr j=>let⟨_,j⟩:=E _ _ _ _ _ _ _ _ _ _ _ j;fF D ⟨37,3,[],[],[4],[(2,⟨[([0,1,2,3,4,5,6,7,8,9,10,11,12,13,14,15,16,17,18,19,20,21,22],[],[])],[],[],[0,1,2],[]⟩)],[]⟩ nP Tryz.func141 j
 .cases hc
end z1l
namespace z1m
structure Gs where
 z1n:z1n.Q
 z1d:z1d.Q
def ax(G:Gs):RV Ent:=[z1n.ent G.z1n,z1d.ent G.z1d]
def b3{R:Type}(G:Gs)(n:Nat)(h:Z)(v w y:LI)(A:LB)(B:LS)(C:LO)(d:Int)(h2:LM)(h0:Int)(nx j:Int->Y R):Y R:=bif decide (h0<(ByteArray.size h:Int))then((sIx h h0).bind λb2=>(G.z1d b2).bind λt=>bif t then(nx (wr (h0+1)))else j h0)else j h0
def l3{R:Type}(G:Gs)(n m:Nat)(h:Z)(j t w:LI)(y:LB)(A:LS)(B:LO)(d:Int)(h2:LM)(h0:Int)(C:Int->Y R):Y R:=aS (λ(v:Int) nx=>b3 G n h j t w y A B d h2 v (λD=>nx D) C) m h0
def aq{R:Type}(G:Gs)(n:Nat)(j t v:LI)(w:LB)(y:LS)(A:LO)(B:LM)(h:Z)(C:Int)(K:Z->Int->LM->Y R):Y R:=
 (G.z1n j t v w y A B h C).bind λr=>
 l3 G n n h j t v w y A r.1 r.2 r.1
  (fun d=>
   (oD h r.1 d).bind λq2=>
   K q2 d r.2
  )
def dl3(G:Gs)(n m:Nat):=rS [0,3] [.x (.p 0 0),.x .i] [.b [.p 1 0,.s,.i],.b [.l .i,.l .i,.l .i,.l .s,.l (.n 5),.l (.n 8),.m 2],.m .i] λR K d j h0 t v w y A B h2=>l3 G n m j t v w y A B d h2 h0 (λh=>K (.exit 0) ⟨[(0,.one (.p 0 0)),(3,.one (.i d))],[.box [.p 1 0,.s j,.i h],.box [.l .i t,.l .i v,.l .i w,.l .s y,.l (.n 5) A,.l (.n 8) B,.m 2],.map .i h2]⟩)
def pc(G:Gs)(n:Nat):Pcs:=⟨λR id st K=>bif Nat.beq id 3 then dl3 G n n R st K else none,nK,nK⟩
def an:Ann:=⟨49,3,[(3,[0,3])],[],[2],[(3,⟨[([0,1,2,3,4,5,6,7,8,9,10,11,12,13,14,15,16,17,18,19,20,21],[],[])],[],[],[0,1,2],[]⟩),(5,⟨[([0,1,2,3,4,5,6,7,8,9,10],[],[])],[],[],[0,1,2],[]⟩)],[]⟩
abbrev bd:=aF Tryz.f140
abbrev q3:=aJ [1,1,1,0,0,0] bd
theorem pl3{G:Gs}(d:am (ax G))(n:Nat):∀m,al an (.loop q3) (dl3 G n m):=lpq d (pc G n) ⟨[0,3],[2],[(0,[0,3])]⟩
theorem ok{G:Gs}(B:am (ax G)){g:Q}(E:∀d h t v w y C A D r,g d h t v w y C A D=some r->∃n,aq (R:=AT×RV Ob) G n d h t v w y C A D (λF H I=>some (.one (.s F),[.box [.p 1 0,.s A,.i H],.box [.l .i d,.l .i h,.l .i t,.l .s v,.l (.n 5) w,.l (.n 8) y,.m 2],.map .i I]))=some (.one (.s r.1),[.box [.p 1 0,.s A,.i r.2.1],.box [.l .i d,.l .i h,.l .i t,.l .s v,.l (.n 5) w,.l (.n 8) y,.m 2],.map .i r.2.2])):aj (ent g):=okQ λ_ _ _ _ _ _ _ _ _ _ _ _ hc=>okL hc λr j=>let⟨n,j⟩:=E _ _ _ _ _ _ _ _ _ _ j;fF B an (pc G n) Tryz.func140 j (apl [(1,3,.loop q3)] ⟨pl3 B n n,trivial⟩)
end z1m
namespace z5e
structure Gs where
 none_:Unit
def ax(_:Gs):RV Ent:=[]
def b2{R:Type}(G:Gs)(n:Nat)(s:LB)(h:Z)(j d:Int)(nx t:Int->Y R)(k1:Y R):Y R:=bif decide (d<j)then((ix s d).bind λe=>bif sEq h e then(t d)else nx (wr (d+1)))else k1
def l2{R:Type}(G:Gs)(n m:Nat)(s:LB)(d:Z)(h j:Int)(t:Int->Y R)(k1:Y R):Y R:=aS (λ(v:Int) nx=>b2 G n s d h v (λw=>nx w) t k1) m j
def aq{R:Type}(G:Gs)(n:Nat)(s:LB)(d:Z)(K:Int->Y R):Y R:=
 l2 G n n s d (List.length s:Int) 0
  (λt4=>K t4)
  (K (-1))
def dl2(G:Gs)(n m:Nat):=rS [0,1,7,8] [.x (.l .s),.x .s,.x .i,.x .i] [] λR K s d h j=>l2 G n m s d h j (λt4=>K .ret ⟨[(4,.one (.i t4))],[]⟩) (K (.exit 0) ⟨[],[]⟩)
def pc(G:Gs)(n:Nat):Pcs:=⟨λR id st K=>bif Nat.beq id 2 then dl2 G n n R st K else none,nK,nK⟩
def an:Ann:=⟨19,0,[(2,[0,1,7,8])],[],[4],[],[]⟩
abbrev bd:=aF Tryz.f142
abbrev q2:=aJ [1,0,1,0,0] bd
theorem pl2{G:Gs}(d:am (ax G))(n:Nat):∀m,al an (.loop q2) (dl2 G n m):=lpq d (pc G n) ⟨[],[4],[(0,[])]⟩
def cO(G:Gs)(s:LB)(d:Z)(r:Int):Prop:=∃n,aq (R:=AT×RV Ob) G n s d (λh=>some (.one (.i h),[]))=some (.one (.i r),[])
theorem ok{G:Gs}(d:am (ax G)){g:Q}(t:∀s h r,g s h=some r->cO G s h r):aj (ent g):=okQ λ_ _ _ _ _ hc=>okL hc λr j=>let⟨n,j⟩:=t _ _ _ j;fF d an (pc G n) Tryz.func142 j (apl [(1,2,.loop q2)] ⟨pl2 d n n,trivial⟩)
end z5e
namespace z1p
structure Gs where
 none_:Unit
def aq{R:Type}(G:Gs)(n:Nat)(o:Opr)(d:Z)(K:Bool->Y R):Y R:=
 K (sEq o.ae d)
theorem ok{G:Gs}(h:am []){g:Q}(t:∀o d r,g o d=some r->∃n,aq (R:=AT×RV Ob) G n o d (λv=>some (.one (.b v),[.box [.s d]]))=some (.one (.b r),[.box [.s d]])):aj (ent g):=okQ λ_ _ _ _ _ _ _ _ _ hc=>okL hc λr j=>let⟨_,j⟩:=t _ _ _ j;fF h ⟨8,1,[],[],[3],[],[]⟩ nP Tryz.func145 j
end z1p
namespace z5c
structure Gs where
 z1p:z1p.Q
def ax(G:Gs):RV Ent:=[z1p.ent G.z1p]
def b2{R:Type}(G:Gs)(n:Nat)(h:Z)(s:LO)(j d:Int)(nx t:Int->Y R)(k1:Y R):Y R:=bif decide (d<j)then((ix s d).bind λe=>(G.z1p e h).bind λr=>bif r then(t d)else nx (wr (d+1)))else k1
def l2{R:Type}(G:Gs)(n m:Nat)(d:Z)(s:LO)(h j:Int)(t:Int->Y R)(k1:Y R):Y R:=aS (λ(v:Int) nx=>b2 G n d s h v (λw=>nx w) t k1) m j
def aq{R:Type}(G:Gs)(n:Nat)(s:LO)(d:Z)(K:Int->Y R):Y R:=
 l2 G n n d s (List.length s:Int) 0
  (λt4=>K t4)
  (K (-1))
def dl2(G:Gs)(n m:Nat)(R:Type)(st:St)(K:Kt R):Y R:=match st with|⟨[(0,.one (.l (.n 8) s)),(1,.one (.f 145 [.p 0 0])),(7,.one (.i h)),(8,.one (.i j))],[.box [.s d]]⟩=>l2 G n m d s h j (λt4=>K .ret ⟨[(4,.one (.i t4))],[.box [.s d]]⟩) (K (.exit 0) ⟨[],[.box [.s d]]⟩)|_=>none
def pc(G:Gs)(n:Nat):Pcs:=⟨λR id st K=>bif Nat.beq id 2 then dl2 G n n R st K else none,nK,nK⟩
def an:Ann:=⟨19,1,[(2,[0,1,7,8])],[],[4],[],[]⟩
abbrev bd:=aF Tryz.f144
abbrev q2:=aJ [1,0,1,0,0] bd
theorem pl2{G:Gs}(d:am (ax G))(n:Nat):∀m,al an (.loop q2) (dl2 G n m):=lpc d (pc G n) [0,1,7,8] ⟨[],[4],[(0,[])]⟩ (apl [] trivial) (λR st K=>by unfold dl2;split<;>rfl) λm R st K r h=>PX
def cO(G:Gs)(s:LO)(d:Z)(r:Int):Prop:=∃n,aq (R:=AT×RV Ob) G n s d (λh=>some (.one (.i h),[.box [.s d]]))=some (.one (.i r),[.box [.s d]])
theorem ok{G:Gs}(d:am (ax G)){g:Q}(t:∀s h r,g s h=some r->cO G s h r):aj (ent g):=λR xs H K r hc=>by
 simp only[ent]at hc;split at hc
 .exact okL hc λr j=>let⟨n,j⟩:=t _ _ _ j;fF d an (pc G n) Tryz.func144 j (apl [(1,2,.loop q2)] ⟨pl2 d n n,trivial⟩)
 .cases hc
end z5c
namespace z1o
structure Gs where
 z1m:z1m.Q
 z1l:z1l.Q
 z5e:z5e.Q
 z0z:z0z.Q
 z5c:z5c.Q
 z1o:z1o.Q
 z0t:z0t.Q
def ax(G:Gs):RV Ent:=[z1m.ent G.z1m,z1l.ent G.z1l,z5e.ent G.z5e,z0z.ent G.z0z,z5c.ent G.z5c,ent G.z1o,z0t.ent G.z0t]
def d5{R:Type}(G:Gs)(n:Nat)(j:Z)(t v w:LI)(h:LB)(y:LS)(A:LO)(h0:Int)(h2:LM)(F:Int)(B:Z)(C:Int)(h4:LT)(H:Z)(D:Int->Int->LM->Y R):Y R:=(G.z1m t v w h y A h2 j h0).bind λd=>(G.z5e h d.1).bind λE=>D E d.2.1 d.2.2
def MK{R:Type}(G:Gs)(n:Nat)(h:Z)(j t v:LI)(d:LB)(w:LS)(y:LO)(h0:Int)(h2:LM)(E:Int)(A:Z)(B:Int)(h4:LT)(F:Z)(C:Int->Int->LM->Y R):Y R:=
 (G.z1m j t v d w y h2 h h0).bind λr=>
 (G.z5e d r.1).bind λD=>
 C D r.2.1 r.2.2
theorem e5_1{R:Type}(G:Gs)(n:Nat)(j:Z)(t v w:LI)(y:LB)(A:LS)(B:LO)(h0:Int)(h2:LM)(C:Int)(d:Z)(h:Int)(h4:LT)(D:Z)(E:Int->Int->LM->Y R):MK G n j t v w y A B h0 h2 C d h h4 D E=d5 G n j t v w y A B h0 h2 C d h h4 D E:=by
 unfold MK d5;generalize G.z1m t v w y A B h2 j h0=F;cases F<;>first|rfl|simp
def Ml{R:Type}(G:Gs)(n:Nat)(h:Z)(j t v:LI)(d:LB)(w:LS)(y:LO)(h0:Int)(h2:LM)(E:Int)(A:Z)(B:Int)(h4:LT)(F:Z)(C:Int->Int->LM->Y R):Y R:=
 (G.z1m j t v d w y h2 h h0).bind λr=>
 (G.z5e d r.1).bind λD=>
 C D r.2.1 r.2.2
theorem e5_2{R:Type}(G:Gs)(n:Nat)(j:Z)(t v w:LI)(y:LB)(A:LS)(B:LO)(h0:Int)(h2:LM)(C:Int)(d:Z)(h:Int)(h4:LT)(D:Z)(E:Int->Int->LM->Y R):Ml G n j t v w y A B h0 h2 C d h h4 D E=d5 G n j t v w y A B h0 h2 C d h h4 D E:=by
 unfold Ml d5;generalize G.z1m t v w y A B h2 j h0=F;cases F<;>first|rfl|simp
def b11{R:Type}(G:Gs)(n:Nat)(j:Z)(t v w:LI)(y:LB)(A:LS)(B:LO)(d op H:Int)(D:Z)(E:Int)(h4:LT)(open1:Bool)(h0:Int)(h2:LM)(C:LT)(nx:Bool->Int->LM->LT->Y R)(F:Bool->Int->LM->Int->Z->Int->LT->Y R)(k1:Int->LM->LT->Y R):Y R:=bif open1 then((G.z1o t v w y A B h2 j h0 (wr (d+1))).bind λr=>bif !r.2.1 then(F false r.2.2.1 r.2.2.2 0 ByteArray.empty 0 [])else(lim (C++[(Tm.mk r.1.op r.1.ae r.1.ag r.1.ac)])).bind λzs=>(G.z1l t v w y A B r.2.2.2 j r.2.2.1 44).bind λh=>nx h.1 h.2.1 h.2.2 zs)else k1 h0 h2 C
def l11{R:Type}(G:Gs)(n m:Nat)(t:Z)(w y A:LI)(B:LB)(C:LS)(D:LO)(d op E:Int)(h:Z)(j:Int)(h4:LT)(open1:Bool)(h0:Int)(h2:LM)(F:LT)(H:Bool->Int->LM->Int->Z->Int->LT->Y R)(k1:Int->LM->LT->Y R):Y R:=aS (λ(v:Bool×Int×LM×LT) nx=>b11 G n t w y A B C D d op E h j h4 v.1 v.2.1 v.2.2.1 v.2.2.2 (λI J K L=>nx (I,J,K,L)) H k1) m (open1,h0,h2,F)
def c19{R:Type}(G:Gs)(n:Nat)(D:Z)(d h j:LI)(t:LB)(v:LS)(w:LO)(op h0:Int)(h2:LM)(E:Int)(y:Z)(A:Int)(h4 B:LT)(C:Bool->LM->Int->Z->Int->LT->Y R):Y R:=(G.z0t d h j t v w h2 op B).bind λr=>C r.2.1 r.2.2 r.1.op r.1.ae r.1.ag r.1.ac
def aq{R:Type}(G:Gs)(n:Nat)(v w y:LI)(A:LB)(B:LS)(t:LO)(xf:LM)(C:Z)(xi h:Int)(K:Tm->Bool->Int->LM->Y R):Y R:=
 bif decide (20<h)then
  (K (Tm.mk 0 ByteArray.empty 0 []) false xi xf)
 else
  (G.z1m v w y A B t xf C xi).bind λr=>
  (G.z1l v w y A B t r.2.2 C r.2.1 58).bind λF=>
  bif F.1 then
   (
   d5 G n C v w y A B t F.2.1 F.2.2 0 ByteArray.empty 0 [] r.1
    (fun k V W=>
     (G.z0z v w y A B t W (Tm.mk (-1) r.1 k [])).bind λr4=>
     K (Tm.mk (-1) r.1 k []) r4.1 V r4.2
    )
   )
  else
   (G.z5c t r.1).bind λU=>
   (G.z1l v w y A B t F.2.2 C F.2.1 40).bind λX=>
   l11 G n n C v w y A B t h U 0 ByteArray.empty 0 [] X.1 X.2.1 X.2.2 []
    (λt5 H I h34 h35 h36 h42=>K (Tm.mk h34 h35 h36 h42) t5 H I)
    (fun d j D=>
     bif decide (U<0)then
      (K (Tm.mk 0 ByteArray.empty 0 []) false d j)
     else
      bif decide (0<(List.length D:Int))then
       (
       (G.z1l v w y A B t j C d 41).bind λE=>
       bif !E.1 then
        (K (Tm.mk 0 ByteArray.empty 0 []) false E.2.1 E.2.2)
       else
        c19 G n C v w y A B t U E.2.1 E.2.2 0 ByteArray.empty 0 [] D
         (λt52 J L M N h37=>K (Tm.mk L M N h37) t52 E.2.1 J)
       )
      else
       c19 G n C v w y A B t U d j 0 ByteArray.empty 0 [] D
        (λt53 O P Q S T=>K (Tm.mk P Q S T) t53 d O)
    )
def dd5(G:Gs)(n:Nat)(R:Type)(st:St)(K:Kt R):Y R:=match st with|⟨[(0,.one (.p 0 0)),(4,.one (.p 3 0)),(6,.one (.p 5 0))],[.box [.p 1 0,.s v,.i h0],.box [.l .i w,.l .i y,.l .i A,.l .s B,.l (.n 5) C,.l (.n 8) D,.m 2],.map .i h2,.box [.i E,.s d,.i h,.o 4],.row (.n 1) 0 h4,.box [.s F]]⟩=>d5 G n v w y A B C D h0 h2 E d h h4 F (λk j t=>K .normal ⟨[(0,.one (.p 0 0)),(4,.one (.p 3 0)),(6,.one (.p 5 0)),(7,.one (.i k))],[.box [.p 1 0,.s v,.i j],.box [.l .i w,.l .i y,.l .i A,.l .s B,.l (.n 5) C,.l (.n 8) D,.m 2],.map .i t,.box [.i E,.s d,.i h,.o 4],.row (.n 1) 0 h4,.box [.s F]]⟩)|_=>none
def FO(G:Gs)(n m:Nat):=rS [0,1,4,9,10,11] [.x (.p 0 0),.x .i,.x (.p 3 0),.x .i,.x (.o 5),.x .b] [.b [.p 1 0,.s,.i],.b [.l .i,.l .i,.l .i,.l .s,.l (.n 5),.l (.n 8),.m 2],.m .i,.b [.i,.s,.i,.o 4],.r (.n 1) 0,.r (.n 1) 0] λR K d op open1 w h0 y A B C D E h2 M t v h4 N=>l11 G n m w y A B C D E d op M t v h4 open1 h0 h2 N (λt5 h j F H I J=>K .ret ⟨[(4,.one (.p 3 0)),(5,.one (.b t5))],[.box [.p 1 0,.s w,.i h],.box [.l .i y,.l .i A,.l .i B,.l .s C,.l (.n 5) D,.l (.n 8) E,.m 2],.map .i j,.box [.i F,.s H,.i I,.o 4],.row (.n 1) 0 J]⟩) (λh j L=>K (.exit 0) ⟨[(0,.one (.p 0 0)),(4,.one (.p 3 0)),(9,.one (.i op)),(10,.one (.o 5))],[.box [.p 1 0,.s w,.i h],.box [.l .i y,.l .i A,.l .i B,.l .s C,.l (.n 5) D,.l (.n 8) E,.m 2],.map .i j,.box [.i M,.s t,.i v,.o 4],.row (.n 1) 0 h4,.row (.n 1) 0 L]⟩)
def Il(G:Gs)(n:Nat):=rS [0,4,9,10] [.x (.p 0 0),.x (.p 3 0),.x .i,.x (.o 5)] [.b [.p 1 0,.s,.i],.b [.l .i,.l .i,.l .i,.l .s,.l (.n 5),.l (.n 8),.m 2],.m .i,.b [.i,.s,.i,.o 4],.r (.n 1) 0,.r (.n 1) 0] λR K op A h0 B C D E F H h2 I d h h4 J=>c19 G n A B C D E F H op h0 h2 I d h h4 J (λt5 j t v w y=>K .ret ⟨[(4,.one (.p 3 0)),(5,.one (.b t5))],[.box [.p 1 0,.s A,.i h0],.box [.l .i B,.l .i C,.l .i D,.l .s E,.l (.n 5) F,.l (.n 8) H,.m 2],.map .i j,.box [.i t,.s v,.i w,.l (.n 1) y]]⟩)
def pc(G:Gs)(n:Nat):Pcs:=⟨λR id st K=>bif Nat.beq id 11 then FO G n n R st K else none,λR id st K=>bif Nat.beq id 19 then Il G n R st K else none,λR id st K=>bif Nat.beq id 5 then dd5 G n R st K else none⟩
def an:Ann:=⟨95,3,[(11,[0,1,4,9,10,11])],[(19,[0,4,9,10])],[4,5],[(5,⟨[([0,1,2,3,4,5,6,7,8,9,10,11,12],[3,8,10],[]),([0,1,2,3,9,10,4,5,6,7,8,11,12],[3,10,8],[]),([9,10,0,1,2,3,4,5,6,7,8,11,12],[10,3,8],[])],[3,8,10],[],[3,4,5],[0,4,6]⟩),(7,⟨[([1,2,3,4,5,6,0,7,8],[6,7],[])],[6,7],[],[0,4,5,6],[]⟩)],[]⟩
abbrev bd:=aF Tryz.f105
abbrev q5:=aJ [1,1,1,0,1,0,0] bd
abbrev q11:=aJ [1,1,1,1,1,1,0,1,0,0] bd
abbrev q19:=aJ [1,1,1,1,1,1,1,1] bd
theorem s5_0(G:Gs)(n:Nat)(R:Type)(t:Z)(h0:Int)(v w y:LI)(A:LB)(B:LS)(C:LO)(h2:LM)(D:Int)(h:Z)(j:Int)(h4:LT)(E:Z)(K:Kt R):(λS:St=>(λd:St=>dY tb (cP (ax G)) an.nt an.im (fk (q5)) (eL [3,4,5] d.H) [0,1,2,3,4,5,6,7,8,9,10,11,12] [3,8,10] [] [] [0,1,2,3,4,5,6,7,8,9,10,11,12] d.L d.H d.H λL H=>iW an.refs ⟨[0,4,6,7],[4,5],[]⟩ K .normal ⟨L,H⟩) (cJ (bw (St.L S) (St.H S) []) S)=dd5 G n R S K) ⟨[(0,.one (.p 0 0)),(4,.one (.p 3 0)),(6,.one (.p 5 0))],[.box [.p 1 0,.s t,.i h0],.box [.l .i v,.l .i w,.l .i y,.l .s A,.l (.n 5) B,.l (.n 8) C,.m 2],.map .i h2,.box [.i D,.s h,.i j,.o 4],.row (.n 1) 0 h4,.box [.s E]]⟩:=QA
theorem s5_1(G:Gs)(n:Nat)(R:Type)(t:Z)(h0:Int)(v w y:LI)(A:LB)(B:LS)(C:LO)(h2:LM)(D:Int)(d:Z)(h:Int)(h4:LT)(E:Z)(K:Kt R):(λj:St=>dY tb (cP (ax G)) an.nt an.im (fk (q5)) (eL [3,4,5] j.H) [0,1,2,3,9,10,4,5,6,7,8,11,12] [3,10,8] [] [] [0,1,2,3,9,10,4,5,6,7,8,11,12] j.L j.H j.H λL H=>iW an.refs ⟨[0,4,6,7],[4,5],[]⟩ K .normal ⟨L,H⟩) (cJ (bw (St.L ⟨[(0,.one (.p 0 0)),(4,.one (.p 3 0)),(6,.one (.p 5 0))],[.box [.p 1 0,.s t,.i h0],.box [.l .i v,.l .i w,.l .i y,.l .s A,.l (.n 5) B,.l (.n 8) C,.m 2],.map .i h2,.box [.i D,.s d,.i h,.o 4],.row (.n 1) 0 h4,.box [.s E]]⟩) (St.H ⟨[(0,.one (.p 0 0)),(4,.one (.p 3 0)),(6,.one (.p 5 0))],[.box [.p 1 0,.s t,.i h0],.box [.l .i v,.l .i w,.l .i y,.l .s A,.l (.n 5) B,.l (.n 8) C,.m 2],.map .i h2,.box [.i D,.s d,.i h,.o 4],.row (.n 1) 0 h4,.box [.s E]]⟩) []) ⟨[(0,.one (.p 0 0)),(4,.one (.p 3 0)),(6,.one (.p 5 0))],[.box [.p 1 0,.s t,.i h0],.box [.l .i v,.l .i w,.l .i y,.l .s A,.l (.n 5) B,.l (.n 8) C,.m 2],.map .i h2,.box [.i D,.s d,.i h,.o 4],.row (.n 1) 0 h4,.box [.s E]]⟩)=MK G n t v w y A B C h0 h2 D d h h4 E (λk F I=>K .normal ⟨[(0,.one (.p 0 0)),(4,.one (.p 3 0)),(6,.one (.p 5 0)),(7,.one (.i k))],[.box [.p 1 0,.s t,.i F],.box [.l .i v,.l .i w,.l .i y,.l .s A,.l (.n 5) B,.l (.n 8) C,.m 2],.map .i I,.box [.i D,.s d,.i h,.o 4],.row (.n 1) 0 h4,.box [.s E]]⟩):=F1
theorem s5_2(G:Gs)(n:Nat)(R:Type)(t:Z)(h0:Int)(v w y:LI)(A:LB)(B:LS)(C:LO)(h2:LM)(D:Int)(d:Z)(h:Int)(h4:LT)(E:Z)(K:Kt R):(λj:St=>dY tb (cP (ax G)) an.nt an.im (fk (q5)) (eL [3,4,5] j.H) [9,10,0,1,2,3,4,5,6,7,8,11,12] [10,3,8] [] [] [9,10,0,1,2,3,4,5,6,7,8,11,12] j.L j.H j.H λL H=>iW an.refs ⟨[0,4,6,7],[4,5],[]⟩ K .normal ⟨L,H⟩) (cJ (bw (St.L ⟨[(0,.one (.p 0 0)),(4,.one (.p 3 0)),(6,.one (.p 5 0))],[.box [.p 1 0,.s t,.i h0],.box [.l .i v,.l .i w,.l .i y,.l .s A,.l (.n 5) B,.l (.n 8) C,.m 2],.map .i h2,.box [.i D,.s d,.i h,.o 4],.row (.n 1) 0 h4,.box [.s E]]⟩) (St.H ⟨[(0,.one (.p 0 0)),(4,.one (.p 3 0)),(6,.one (.p 5 0))],[.box [.p 1 0,.s t,.i h0],.box [.l .i v,.l .i w,.l .i y,.l .s A,.l (.n 5) B,.l (.n 8) C,.m 2],.map .i h2,.box [.i D,.s d,.i h,.o 4],.row (.n 1) 0 h4,.box [.s E]]⟩) []) ⟨[(0,.one (.p 0 0)),(4,.one (.p 3 0)),(6,.one (.p 5 0))],[.box [.p 1 0,.s t,.i h0],.box [.l .i v,.l .i w,.l .i y,.l .s A,.l (.n 5) B,.l (.n 8) C,.m 2],.map .i h2,.box [.i D,.s d,.i h,.o 4],.row (.n 1) 0 h4,.box [.s E]]⟩)=Ml G n t v w y A B C h0 h2 D d h h4 E (λk F I=>K .normal ⟨[(0,.one (.p 0 0)),(4,.one (.p 3 0)),(6,.one (.p 5 0)),(7,.one (.i k))],[.box [.p 1 0,.s t,.i F],.box [.l .i v,.l .i w,.l .i y,.l .s A,.l (.n 5) B,.l (.n 8) C,.m 2],.map .i I,.box [.i D,.s d,.i h,.o 4],.row (.n 1) 0 h4,.box [.s E]]⟩):=F1
theorem pd5{G:Gs}(L:am (ax G)){n:Nat}:al an (q5) (dd5 G n):=by
 have hc:q5= .region 5 (fk (q5)) true:=F1
 rw[hc];refine λ[Zb]=>jB mixed ki (iS L) (o:=⟨[0,4,6,7],[4,5],[]⟩) (d:=⟨[([0,1,2,3,4,5,6,7,8,9,10,11,12],[3,8,10],[]),([0,1,2,3,9,10,4,5,6,7,8,11,12],[3,10,8],[]),([9,10,0,1,2,3,4,5,6,7,8,11,12],[10,3,8],[])],[3,8,10],[],[3,4,5],[0,4,6]⟩) F1 (λp hp R st K r h=> ?_)
 have e:=h;unfold dd5 at e;split at e
 .rename_i y A B C D E F H I J j t v w;simp only[Oz,Ps,or_false]at hp;rcases hp with rfl|rfl|rfl
  .exact(s5_0 G n R y A B C D E F H I J j t v w K).trans h
  .exact((s5_1 G n R y A B C D E F H I J j t v w K).trans (e5_1 G n y B C D E F H A I J j t v w _)).trans h
  .exact((s5_2 G n R y A B C D E F H I J j t v w K).trans (e5_2 G n y B C D E F H A I J j t v w _)).trans h
 .cases e
theorem No{G:Gs}(d:am (ax G))(n:Nat):∀m,al an (.loop q11) (FO G n m):=lpq d (pc G n) ⟨[0,4,9,10],[4,5],[(0,[0,4,9,10])]⟩
theorem MI{G:Gs}(d:am (ax G)){n:Nat}:al an q19 (Il G n):=cpq d (pc G n) ⟨[],[4,5],[]⟩
theorem ok{G:Gs}(h:am (ax G)){g:Q}(H:∀t v w y A B E C F d r,g t v w y A B E C F d=some r->∃n,aq (R:=AT×RV Ob) G n t v w y A B E C F d (λD I J K=>some (.tup [.agg [.i D.op,.s D.ae,.i D.ag,.l (.n 1) D.ac],.one (.b I)],[.box [.p 1 0,.s C,.i J],.box [.l .i t,.l .i v,.l .i w,.l .s y,.l (.n 5) A,.l (.n 8) B,.m 2],.map .i K]))=some (.tup [.agg [.i r.1.op,.s r.1.ae,.i r.1.ag,.l (.n 1) r.1.ac],.one (.b r.2.1)],[.box [.p 1 0,.s C,.i r.2.2.1],.box [.l .i t,.l .i v,.l .i w,.l .s y,.l (.n 5) A,.l (.n 8) B,.m 2],.map .i r.2.2.2])):aj (ent g):=okQ λ_ _ _ _ _ _ _ _ _ _ _ _ _ hc=>okL hc λr j=>let⟨n,j⟩:=H _ _ _ _ _ _ _ _ _ _ _ j;fF h an (pc G n) Tryz.func105 j (apl [(2,5,q5),(1,11,.loop q11),(0,19,q19)] ⟨pd5 h,⟨No h n n,⟨MI h,trivial⟩⟩⟩)
end z1o
namespace z0m
structure Gs where
 z1f:z1f.Q
 z1o:z1o.Q
 z1n:z1n.Q
 z16:z16.Q
def pc(_:Gs)(_:Nat):Pcs:=⟨nK,nK,nK⟩
def an:Ann:=⟨43,0,[],[],[4,5],[],[]⟩
abbrev bd:=aF Tryz.f75
end z0m
end
end
section
open Classical
def skF(c:Int->Bool)(l:RV Int):Nat->Nat->Nat
 |0,p=>p
 | f+1,p=>match l[p]? with
  |some x=>if c x=true then skF c l f (p+1)else p
  |none=>p
def skip(c:Int->Bool)(l:RV Int)(p:Nat):Nat:=skF c l (l.length-p) p
theorem HO(c:Int->Bool)(l:RV Int):∀f p,p<=skF c l f p
 |0,_=>N4 _
 | f+1,p=>by
  unfold skF;split
  .split
   .have:=HO c l f (p+1);omega
   .omega
  .omega
theorem Fp(c:Int->Bool)(l:RV Int):∀f p,p<=l.length->skF c l f p<=l.length
 |0,_,h=>h
 | f+1,p,h=>by
  unfold skF;split
  .rename_i x hx;have:=(gI.1 hx).1;split
   .exact Fp c l f (p+1) this
   .exact h
  .exact h
theorem BP{c:Int->Bool}{l:RV Int}{p:Nat}:p<=skip c l p:=HO _ _ _ _
theorem Bx{c:Int->Bool}{l:RV Int}{p:Nat}(h:p<=l.length):skip c l p<=l.length:=Fp _ _ _ _ h
theorem tL{c:Int->Bool}{l:RV Int}{p:Nat}{x:Int}(h:l[p]? =some x):skip c l p=if c x=true then skip c l (p+1)else p:=by
 have hlt:=(gI.1 h).1;unfold skip;obtain⟨f,d⟩:∃f,l.length-p=f+1:=⟨l.length-p-1,A1⟩;rw[d]
 conv=>lhs;unfold skF
 rw[h];simp only;rw[(A1:l.length-(p+1)=f)]
theorem yO{c:Int->Bool}{l:RV Int}{p:Nat}(h:l.length<=p):skip c l p=p:=by
 unfold skip;rw[(A1:l.length-p=0)];rfl
theorem xP(c:Int->Bool)(l:RV Int):∀f p x,l.length-p<=f->l[skF c l f p]? =some x->c x=false
 | 0,p,x,h,hx=>by
  have:=(gI.1 hx).1;have:p<l.length:=this;omega
 | f+1,p,x,h,hx=>by
  unfold skF at hx;split at hx
  .rename_i y d;split at hx
   .exact xP c l f (p+1) x A1 hx
   .grind
  .grind
theorem DB{c:Int->Bool}{l:RV Int}{p:Nat}{x:Int}(h:l[skip c l p]? =some x):c x=false:=xP c l _ p x (N4 _) h
theorem CH{c:Int->Bool}{l:RV Int}{p:Nat}:skip c l (skip c l p)=skip c l p:=by
 by_cases h:skip c l p<l.length
 .obtain⟨x,hx,_⟩:=bu h;rw[tL hx,DB hx];rfl
 .exact yO A1
theorem jo{R:Type}(c:Int->Bool)(l:RV Int)(hl:l.length<=4294967295)(B:Int->(Int->Y R)->Y R)(j:Int->Y R)(h1:∀(p:Nat) x nx,l[p]? =some x->B p nx=bif c x then nx ((p+1:Nat):Int)else j p)(h2:∀(p:Nat) nx,p=l.length->B p nx=j p):∀m (p:Nat),p<=l.length->l.length-p<m->aS (λ(v:Int) nx=>B v (λd=>nx d)) m (p:Int)=j (skip c l p)
 |0,p,_,hm=>absurd hm (NP _)
 | m+1,p,hp,hm=>by
  show B p (λd=>aS (λ(v:Int) nx=>B v (λd=>nx d)) m d)=_;by_cases h:p<l.length
  .obtain⟨x,hx,_⟩:=bu h;rw[h1 p x _ hx,tL hx];cases hc:c x with
   | true=>
    rw[cT,N1 rfl];exact jo c l hl B j h1 h2 m (p+1) h A1
   |false=>rw[cF,N3 D2]
  .rw[h2 p _ A1,yO A1]
abbrev Hf(c:Int):Bool:=decide (c=32)
theorem qh{t:Z}{p:Nat}{x:Int}(h:(ofS t)[p]? =some x):sIx t (p:Int)=some x:=by rw[rM,aZ h]
theorem uX{t:Z}{p:Nat}{x:Int}(h:(ofS t)[p]? =some x):decide ((p:Int)<(t.size:Int))=true:=by
 have:=(gI.1 h).1;rw[bm]at this;exact dT A1
theorem vO{p:Nat}(h:p<4294967296):wr ((p:Int)+1)=((p+1:Nat):Int):=bN h
def atP(t:Z)(a:Int):Prop:=t.size<=2000/\0<=a/\a<=t.size
def spA(t:Z)(a:Int):Int:=(skip Hf (ofS t) a.toNat:Nat)
noncomputable def pZ:RV Z->RV Sb->RV Opr->Z->Int->Bool->Y Int:=λ_ _ _ t a _=>if atP t a then some (spA t a)else none
noncomputable def kG:RV Int->RV Int->RV Int->RV Z->RV Sb->RV Opr->Mp->Z->Int->Y (Int×Mp):=λ_ _ _ _ _ _ m t a=>if atP t a then some (spA t a,m)else none
theorem ow:aj (z56.ent pZ):=z56.ok (G:=⟨()⟩) trivial λnm sb ops t a bad r h=>by
 unfold pZ at h;split at h
 .rename_i hs;cases h;obtain⟨h1,h2,j⟩:=hs;have hl:=bm t;obtain⟨p,rfl⟩:=Oh h2;refine⟨(ofS t).length+1,?_⟩;unfold z56.aq
  have key:=λd=>jo (R:=AT×RV Ob) Hf (ofS t) A1 (λv nx=>z56.b0 ⟨()⟩ ((ofS t).length+1) nm sb ops t bad v nx d) d (by
   intro q x nx hx;unfold z56.b0;rw[uX hx,cT,qh hx,bS,vO (by have:=(gI.1 hx).1;omega)]) (by
   intro q nx w;unfold z56.b0;rw[dF A1,cF]) ((ofS t).length+1) p A1 A1
  exact(key _).trans rfl
 .cases h
theorem ol:aj (z1n.ent kG):=z1n.ok (G:=⟨()⟩) trivial λab be kd nm sb ops m t a r h=>by
 unfold kG at h;split at h
 .rename_i hs;cases h;obtain⟨h1,h2,j⟩:=hs;have hl:=bm t;obtain⟨p,rfl⟩:=Oh h2;refine⟨(ofS t).length+1,?_⟩;unfold z1n.aq
  have key:=λd=>jo (R:=AT×RV Ob) Hf (ofS t) A1 (λv nx=>z1n.b0 ⟨()⟩ ((ofS t).length+1) t ab be kd nm sb ops m v nx d) d (by
   intro q x nx hx;unfold z1n.b0;rw[uX hx,cT,qh hx,bS,vO (by have:=(gI.1 hx).1;omega)]) (by
   intro q nx w;unfold z1n.b0;rw[dF A1,cF]) ((ofS t).length+1) p A1 A1
  exact(key _).trans rfl
 .cases h
def tkF(t:Z)(a:Int)(c:Int):Bool×Int:=if (ofS t)[(spA t a).toNat]? =some c then (true,spA t a+1)else (false,spA t a)
theorem ma{t:Z}{a:Int}(h:atP t a):a<=spA t a/\spA t a<=t.size:=by
 obtain⟨h1,h2,d⟩:=h;have hl:=bm t;unfold spA;have:=BP (c:=Hf) (l:=ofS t) (p:=a.toNat);have:=Bx (c:=Hf) (l:=ofS t) (p:=a.toNat) A1;omega
theorem dJ{t:Z}{a:Int}(h:atP t a)(c:Int):a<=(tkF t a c).2/\(tkF t a c).2<=t.size/\((tkF t a c).1=true->a<(tkF t a c).2):=by
 have hs:=ma h;have h2:=h.2.1;unfold tkF;split
 .rename_i hx;have:=(gI.1 hx).1;rw[bm]at this;refine⟨D4,D4,λ_=>D4⟩
 .grind
theorem cS{t:Z}{a:Int}(h:atP t a)(c:Int):atP t (tkF t a c).2:=⟨h.1,by have:=dJ h c;have:=h.2.1;omega,(dJ h c).2.1⟩
noncomputable def ss:RV Z->RV Sb->RV Opr->Z->Int->Bool->Int->Y (Bool×Int):=λ_ _ _ t a _ c=>if atP t a then some (tkF t a c)else none
noncomputable def rp:RV Int->RV Int->RV Int->RV Z->RV Sb->RV Opr->Mp->Z->Int->Int->Y (Bool×Int×Mp):=λ_ _ _ _ _ _ m t a c=>if atP t a then some ((tkF t a c).1,(tkF t a c).2,m)else none
theorem xF{R:Type}{t:Z}{a c:Int}(h:atP t a)(K:Bool->Int->Y R):(bif decide (spA t a<(t.size:Int))then (Option.bind (sIx t (spA t a)) λb2=>bif decide (b2=c)then (K true (wr (spA t a+1)))else K false (spA t a))else K false (spA t a))=K (tkF t a c).1 (tkF t a c).2:=by
 have hs:=ma h;have h1:=h.1;have h2:=h.2.1;have hl:=bm t;obtain⟨p,hp⟩:=Oh (A1:0<=spA t a);unfold tkF;rw[hp]at hs ⊢;by_cases hlt:p<t.size
 .obtain⟨x,hx,_⟩:=bu (xs:=ofS t) (i:=p) A1;rw[dT A1,cT,qh hx,bS,Or,hx];by_cases hc:x=c
  .rw[dT hc,cT,hc,N1 rfl,aH A1]
  .grind
 .grind
theorem Gf{R:Type}{nm:RV Z}{sb:RV Sb}{ops:RV Opr}{t:Z}{a c:Int}{bad:Bool}(hs:atP t a)(K:Bool->Int->Y R):z57.aq ⟨pZ⟩ 1 nm sb ops t a bad c K=K (tkF t a c).1 (tkF t a c).2:=by
 unfold z57.aq;have e:pZ nm sb ops t a bad=some (spA t a):=N1 hs;show Option.bind (pZ nm sb ops t a bad) _=_;rw[e,bS];exact xF hs K
theorem CD:aj (z57.ent ss):=z57.ok (G:=⟨pZ⟩) ⟨ow,trivial⟩ λnm sb ops t a bad c r h=>by
 unfold ss at h;split at h
 .rename_i hs;cases h;exact⟨1,(Gf hs _).trans rfl⟩
 .cases h
theorem G0{R:Type}{ab be kd:RV Int}{nm:RV Z}{sb:RV Sb}{ops:RV Opr}{m:Mp}{t:Z}{a c:Int}(hs:atP t a)(K:Bool->Int->Mp->Y R):z1l.aq ⟨kG⟩ 1 ab be kd nm sb ops m t a c K=K (tkF t a c).1 (tkF t a c).2 m:=by
 unfold z1l.aq;have e:kG ab be kd nm sb ops m t a=some (spA t a,m):=N1 hs;show Option.bind (kG ab be kd nm sb ops m t a) _=_;rw[e,bS];exact xF hs (λb q=>K b q m)
theorem MY:aj (z1l.ent rp):=z1l.ok (G:=⟨kG⟩) ⟨ol,trivial⟩ λab be kd nm sb ops m t a c r h=>by
 unfold rp at h;split at h
 .rename_i hs;cases h;exact⟨1,(G0 hs _).trans rfl⟩
 .cases h
def nmE(t:Z)(a:Int):Int:=(skip cW (ofS t) (spA t a).toNat:Nat)
def nmF(t:Z)(a:Int):Z×Int:=(t.extract (spA t a).toNat (nmE t a).toNat,nmE t a)
theorem rV{t:Z}{a:Int}(h:atP t a):spA t a<=nmE t a/\nmE t a<=t.size:=by
 have hs:=ma h;have hl:=bm t;have h2:=h.2.1;unfold nmE;have:=BP (c:=cW) (l:=ofS t) (p:=(spA t a).toNat);have:=Bx (c:=cW) (l:=ofS t) (p:=(spA t a).toNat) A1;omega
theorem kw{t:Z}{a:Int}(h:atP t a):atP t (nmF t a).2:=⟨h.1,by have:=ma h;have:=rV h;have:=h.2.1;show 0<=nmE t a;omega,(rV h).2⟩
theorem qB{t:Z}{a:Int}(h:atP t a):a<=(nmF t a).2:=by have:=ma h;have:=rV h;show a<=nmE t a;omega
noncomputable def wj:RV Z->RV Sb->RV Opr->Z->Int->Bool->Y (Z×Int):=λ_ _ _ t a _=>if atP t a then some (nmF t a)else none
noncomputable def zJ:RV Int->RV Int->RV Int->RV Z->RV Sb->RV Opr->Mp->Z->Int->Y (Z×Int×Mp):=λ_ _ _ _ _ _ m t a=>if atP t a then some ((nmF t a).1,(nmF t a).2,m)else none
theorem kZ{t:Z}{lo hi:Int}(h0:0<=lo)(h1:lo<=hi)(h2:hi<=t.size):oD t lo hi=some (t.extract lo.toNat hi.toNat):=by
 unfold oD;rw[dT h0,dT h1,dT h2];rfl
theorem yR{t:Z}{p:Nat}{x:Int}(h:(ofS t)[p]? =some x):ofS (t.extract p (p+1))=[x]:=by
 have hlt:=(gI.1 h).1;have hl:=bm t;unfold ofS at h ⊢;have e:(t.extract p (p+1)).data.toList=(t.data.toList.drop p).take 1:=by simp_all
 rw[e,List.map_take,List.map_drop,bg h];rfl
theorem BD(a b:Z):ofS (a++b)=ofS a++ofS b:=by
 unfold ofS;rw[ByteArray.data_append];simp
theorem C0{t:Z}{p:Nat}{x:Int}(h:(ofS t)[p]? =some x):dc (ByteArray.mk #[120]++t.extract p (p+1))=cW x:=by
 have e:=yR h;have d:ofS (ByteArray.mk #[120]++t.extract p (p+1))=[120,x]:=by rw[BD,e];rfl
 have j:(ByteArray.mk #[120]++t.extract p (p+1)).size=2:=by rw[<-bm,d];rfl
 have v:FX (ByteArray.mk #[120]++t.extract p (p+1))=false:=by
  unfold FX sEq;rw[Bool.or_eq_false_iff];constructor
  .refine dF λq=> ?_;rw[q]at d;have:(105:Int)=120:=(List.cons.inj d).1;exact absurd this D2
  .refine dF λq=> ?_;rw[q]at d;have:(97:Int)=120:=(List.cons.inj d).1;exact absurd this D2
 unfold dc;rw[j,v,d];show (decide (1<=2)&&(decide (2<=12)&&(!false&&(rh 120&&(cW 120&&(cW x&&true))))))=_;rw[(D2:rh 120=true),(D2:cW 120=true)];simp
theorem Db:aj (z52.ent wj):=z52.ok (G:=⟨pZ,jb⟩) ⟨ow,z3j,trivial⟩ λnm sb ops t a bad r h=>by
 unfold wj at h;split at h
 .rename_i hs;cases h;have w:=ma hs;have h1:=hs.1;have h2:=hs.2.1;have hl:=bm t;have d:=rV hs;obtain⟨p,hp⟩:=Oh (A1:0<=spA t a);refine⟨(ofS t).length+1,?_⟩;unfold z52.aq;have e:pZ nm sb ops t a bad=some (spA t a):=N1 hs;show Option.bind (pZ nm sb ops t a bad) _=_;rw[e,bS]
  have key:=λj=>jo (R:=AT×RV Ob) cW (ofS t) A1 (λv nx=>z52.b3 ⟨pZ,jb⟩ ((ofS t).length+1) nm sb ops t bad (spA t a) v nx j) j (by
   intro q x nx hx;have y:=(gI.1 hx).1;unfold z52.b3;have A:oD t (q:Int) ((q+1:Nat):Int)=some (t.extract q (q+1)):=kZ A1 A1 A1;have B:dj (ByteArray.mk #[120]) (t.extract q (q+1))=some (ByteArray.mk #[120]++t.extract q (q+1)):=by
    unfold dj;have:(t.extract q (q+1)).size=1:=by rw[<-bm,yR hx];rfl
    rw[this];rfl
   rw[uX hx,cT,vO A1,A,bS,B,bS];show Option.bind (jb (ByteArray.mk #[120]++t.extract q (q+1))) _=_;rw[bS,C0 hx]) (by
   intro q nx y;unfold z52.b3;rw[dF A1,cF]) ((ofS t).length+1) p A1 A1
  rw[hp]at key d ⊢;refine(key _).trans ?_;have C:((skip cW (ofS t) p:Nat):Int)=nmE t a:=by unfold nmE;rw[hp];rfl
  rw[C,kZ A1 d.1 d.2,bS];unfold nmF;rw[hp]
 .cases h
theorem IQ:aj (z1m.ent zJ):=z1m.ok (G:=⟨kG,λc=>some (cW c)⟩) ⟨ol,pJ,trivial⟩ λab be kd nm sb ops m t a r h=>by
 unfold zJ at h;split at h
 .rename_i hs;cases h;have w:=ma hs;have h1:=hs.1;have h2:=hs.2.1;have hl:=bm t;have d:=rV hs;obtain⟨p,hp⟩:=Oh (A1:0<=spA t a);refine⟨(ofS t).length+1,?_⟩;unfold z1m.aq;have e:kG ab be kd nm sb ops m t a=some (spA t a,m):=N1 hs;show Option.bind (kG ab be kd nm sb ops m t a) _=_;rw[e,bS]
  have key:=λj=>jo (R:=AT×RV Ob) cW (ofS t) A1 (λv nx=>z1m.b3 ⟨kG,λc=>some (cW c)⟩ ((ofS t).length+1) t ab be kd nm sb ops (spA t a) m v nx j) j (by
   intro q x nx hx;have y:=(gI.1 hx).1;unfold z1m.b3;rw[uX hx,cT,qh hx,bS,bS,vO A1]) (by
   intro q nx y;unfold z1m.b3;rw[dF A1,cF]) ((ofS t).length+1) p A1 A1
  simp only;rw[hp]at key d ⊢;refine(key _).trans ?_;have A:((skip cW (ofS t) p:Nat):Int)=nmE t a:=by unfold nmE;rw[hp];rfl
  rw[A,kZ A1 d.1 d.2,bS];unfold nmF;rw[hp]
 .cases h
def sX{α:Type}(p:α->Bool):RV α->Nat->Int
 |[],_=> -1
 |x::xs,i=>if p x=true then (i:Int)else sX p xs (i+1)
theorem u6{α:Type}(p:α->Bool):∀(l:RV α)(i:Nat),sX p l i= -1\/∃k x,sX p l i=((i+k:Nat):Int)/\l[k]? =some x/\p x=true
 |[],_=>.inl rfl
 | x::xs,i=>by
  unfold sX;by_cases h:p x=true
  .rw[N1 h];exact .inr ⟨0,x,rfl,rfl,h⟩
  .rw[N3 h];rcases u6 p xs (i+1)with h2|⟨k,y,h2,d,h4⟩
   .exact .inl h2
   .exact .inr ⟨k+1,y,by rw[h2];congr 1;omega,d,h4⟩
theorem kX{α R:Type}(l:RV α)(p:α->Bool)(B:Int->(Int->Y R)->Y R)(j:Int->Y R)(h1:∀(i:Nat) x nx,l[i]? =some x->B i nx=bif p x then j i else nx ((i+1:Nat):Int))(h2:∀nx,B l.length nx=j (-1)):∀m (i:Nat),i<=l.length->l.length-i<m->aS (λ(v:Int) nx=>B v (λd=>nx d)) m (i:Int)=j (sX p (l.drop i) i)
 |0,i,_,hm=>absurd hm (NP _)
 | m+1,i,hi,hm=>by
  show B i (λd=>aS (λ(v:Int) nx=>B v (λd=>nx d)) m d)=_;by_cases h:i<l.length
  .obtain⟨x,hx,_⟩:=bu h;rw[h1 i x _ hx,bg hx];unfold sX;cases hp:p x with
   |true=>rfl
   | false=>
    rw[cF,N3 D2];exact kX l p B j h1 h2 m (i+1) h A1
  .obtain rfl:i=l.length:=A1
   rw[h2,bQ];rfl
def fdN(l:RV Z)(x:Z):Int:=sX (λy=>sEq y x) l 0
def fdO(l:RV Opr)(x:Z):Int:=sX (λo=>sEq o.ae x) l 0
theorem Gl(a b:Z):sEq a b=sEq b a:=decide_eq_decide.2 ⟨λh=>h.symm,λh=>h.symm⟩
abbrev sU:RV Z->Z->Y Int:=λl x=>if l.length<=8 then some (fdN l x)else none
abbrev FN:RV Opr->Z->Y Int:=λl x=>if l.length<=14 then some (fdO l x)else none
theorem CL:aj (z4y.ent sU):=z4y.ok (G:=⟨()⟩) trivial λ(l:RV Z) x r h=>by
 unfold sU at h;split at h
 .rename_i hs;cases h;refine⟨l.length+1,?_⟩;unfold z4y.aq;have key:=λd=>kX (R:=AT×RV Ob) l (λy=>sEq y x) (λv nx=>z4y.b2 ⟨()⟩ (l.length+1) l x v nx d (d (-1))) d (by
   intro i y nx j;have hi:=(gI.1 j).1;unfold z4y.b2;rw[bB hi,cT,aZ j,bS,bN A1]) (by
   intro nx;unfold z4y.b2;rw[bz A1,cF]) (l.length+1) 0 A1 A1
  exact(key _).trans rfl
 .cases h
theorem FG:aj (z5e.ent sU):=z5e.ok (G:=⟨()⟩) trivial λ(l:RV Z) x r h=>by
 unfold sU at h;split at h
 .rename_i hs;cases h;refine⟨l.length+1,?_⟩;unfold z5e.aq;have key:=λd=>kX (R:=AT×RV Ob) l (λy=>sEq y x) (λv nx=>z5e.b2 ⟨()⟩ (l.length+1) l x (l.length:Int) v nx d (d (-1))) d (by
   intro i y nx j;have hi:=(gI.1 j).1;unfold z5e.b2;rw[bB hi,cT,aZ j,bS,bN A1,Gl]) (by
   intro nx;unfold z5e.b2;rw[bz A1,cF]) (l.length+1) 0 A1 A1
  exact(key _).trans rfl
 .cases h
theorem Ag:aj (z1p.ent λo x=>some (sEq o.ae x)):=z1p.ok (G:=⟨()⟩) trivial λo x r h=>⟨1,QF⟩
theorem vH:aj (z5c.ent FN):=z5c.ok (G:=⟨λo x=>some (sEq o.ae x)⟩) ⟨Ag,trivial⟩ λ(l:RV Opr) x r h=>by
 unfold FN at h;split at h
 .rename_i hs;cases h;refine⟨l.length+1,?_⟩;unfold z5c.aq;have key:=λd=>kX (R:=AT×RV Ob) l (λo=>sEq o.ae x) (λv nx=>z5c.b2 ⟨λo x=>some (sEq o.ae x)⟩ (l.length+1) x l (l.length:Int) v nx d (d (-1))) d (by
   intro i y nx j;have hi:=(gI.1 j).1;unfold z5c.b2;rw[bB hi,cT,aZ j,bS,bN A1];rfl) (by
   intro nx;unfold z5c.b2;rw[bz A1,cF]) (l.length+1) 0 A1 A1
  exact(key _).trans rfl
 .cases h
def nG{α:Type}(p:α->Bool):RV α->Nat->Int->Int
 |[],_,c=>c
 |x::xs,i,c=>nG p xs (i+1) (if p x=true then (i:Int)else c)
theorem rk{α:Type}{p:α->Bool}:∀{l:RV α}{i:Nat}{c:Int},(∀x∈l,p x=false)->nG p l i c=c
 |[],_,_,_=>rfl
 | x::xs,i,c,h=>by
  unfold nG;rw[h x C3,N3 D2];exact rk λy d=>h y L5
theorem tq{α:Type}{p:α->Bool}:∀{l:RV α}{i:Nat},l.Pairwise (λx y=>¬(p x=true/\p y=true))->nG p l i (-1)=sX p l i
 |[],_,_=>rfl
 | x::xs,i,h=>by
  obtain⟨h1,h2⟩:=List.pairwise_cons.1 h;unfold nG sX;by_cases hp:p x=true
  .rw[N1 hp,N1 hp];exact rk λy d=>by
    cases j:p y with
    |false=>rfl
    |true=>exact absurd ⟨hp,j⟩ (h1 y d)
  .rw[N3 hp,N3 hp];exact tq h2
theorem tN{N:Nat}{d:RV Int}:∀{ops:RV Opr}{seen:RV Z},pO N d seen ops=true->(∀o∈ops,dc o.ae=true/\∀y∈seen,y≠o.ae)/\ops.Pairwise (λa b=>a.ae≠b.ae)
 |[],_,_=>⟨λo h=>H0,.nil⟩
 | o::rest,seen,h=>by
  unfold pO at h;simp only[bA,OF]at h;obtain⟨h1,_,j,h4⟩:=h;obtain⟨B,t⟩:=tN h4;have v:∀y∈seen,y≠o.ae:=λy w e=>by
   have:=List.any_eq_false.1 j y w;exact this (dT e)
  refine⟨λq A=> ?_,List.pairwise_cons.2 ⟨λq A=> ?_,t⟩⟩
  .grind
  .grind
theorem la{s:Sg}(h:bI s=true):(∀o∈s.ops,dc o.ae=true)/\s.ops.Pairwise (λa b=>a.ae≠b.ae):=by
 unfold bI at h;simp only[bA]at h;obtain⟨h1,h2⟩:=tN h.2.2.1;exact⟨λo ho=>(h1 o ho).1,h2⟩
theorem AL{s:Sg}(h:bI s=true)(x:Z):nG (λo:Opr=>sEq o.ae x) s.ops 0 (-1)=fdO s.ops x:=tq ((la h).2.imp λ{_ _} d ⟨h1,h2⟩=>d ((NZ h1).trans (NZ h2).symm))
theorem qZ{ops:RV Opr}{x:Z}(h:¬fdO ops x<0):∃o,ix ops (fdO ops x)=some o/\o.ae=x:=by
 rcases u6 (λo:Opr=>sEq o.ae x) ops 0 with h1|⟨k,o,h1,h2,d⟩
 .exact absurd (by unfold fdO;rw[h1];decide) h
 .refine⟨o,?_,NZ d⟩;unfold fdO;rw[h1,Ou];exact aZ h2
theorem pq:dc ByteArray.empty=false:=rfl
theorem DA{s:Sg}(h:bI s=true):fdO s.ops ByteArray.empty<0:=by
 by_cases h0:fdO s.ops ByteArray.empty<0
 .exact h0
 .obtain⟨o,d,j⟩:=qZ h0;have:=(la h).1 o (ci d).1;rw[j,pq]at this;cases this
theorem MH{l:RV Z}{x:Z}:fdN l x= -1\/(0<=fdN l x/\fdN l x<l.length):=by
 rcases u6 (λy=>sEq y x) l 0 with h1|⟨k,o,h1,h2,_⟩
 .exact .inl h1
 .refine .inr ?_;unfold fdN;rw[h1];have:=(gI.1 h2).1;omega
def pY(s:Sg)(op:Int)(ac:RV Tm):Y Tm:=(ix s.ops op).bind λo=>dy s o op ac
def mkS(s:Sg)(op:Int)(ac:RV Tm):Tm×Bool:=match ix s.ops op with
 |some o=>ff s o op ac
 |none=>(Zt,false)
def ck(t:Z)(rd:Int->Tm×Bool×Int):Nat->Bool->Int->RV Tm->Bool×Int×RV Tm
 |0,_,a,acc=>(false,a,acc)
 |f+1,op,a,acc=>if op=true then (if (rd a).2.1=true then ck t rd f (tkF t (rd a).2.2 44).1 (tkF t (rd a).2.2 44).2 (acc++[(rd a).1])else (false,(rd a).2.2,[]))else (true,a,acc)
def mE(s:Sg)(op a:Int)(ac:RV Tm):Tm×Bool×Int:=((pY s op ac).getD Zt,(pY s op ac).isSome,a)
def mW(s:Sg)(t:Z)(op:Int)(r:Bool×Int×RV Tm):Tm×Bool×Int:=if r.1=true then (if op<0 then (Zt,false,r.2.1)else if r.2.2.length=0 then mE s op r.2.1 r.2.2 else if (tkF t r.2.1 41).1=true then mE s op (tkF t r.2.1 41).2 r.2.2 else (Zt,false,(tkF t r.2.1 41).2))else (Zt,false,r.2.1)
def IF(s:Sg)(t:Z)(ae:Z)(a:Int):Tm×Bool×Int:=(Tm.mk (-1) ae (fdN s.ai.ah (nmF t a).1) [],dc ae&&inN (nS s) (fdN s.ai.ah (nmF t a).1),(nmF t a).2)
def bo(s:Sg)(t:Z):Nat->Int->Tm×Bool×Int
 |0,a=>(Zt,false,a)
 | e+1,a=>if (tkF t (nmF t a).2 58).1=true then IF s t (nmF t a).1 (tkF t (nmF t a).2 58).2
  else mW s t (fdO s.ops (nmF t a).1) (ck t (bo s t e) (t.size+3) (tkF t (tkF t (nmF t a).2 58).2 40).1 (tkF t (tkF t (nmF t a).2 58).2 40).2 [])
def dG(t:Z)(rd:Int->Tm×Int×Bool):Nat->Int->Bool->RV Tm->Int×Bool×RV Tm
 |0,a,_,acc=>(a,true,acc)
 |f+1,a,bad,acc=>if bad=true then (a,true,acc)else if (tkF t (rd a).2.1 41).1=true then ((tkF t (rd a).2.1 41).2,(rd a).2.2,acc++[(rd a).1])else if (rd a).2.2=true then dG t rd f (tkF t (rd a).2.1 41).2 true (acc++[(rd a).1])else dG t rd f (tkF t (tkF t (rd a).2.1 41).2 44).2 (!(tkF t (tkF t (rd a).2.1 41).2 44).1) (acc++[(rd a).1])
def jW(s:Sg)(op:Int)(r:Int×Bool×RV Tm):Tm×Int×Bool:=if r.2.1=true\/op<0 then (Zt,r.1,true)else ((mkS s op r.2.2).1,r.1, !(mkS s op r.2.2).2)
def Nk(s:Sg)(t:Z)(ae:Z)(a:Int):Tm×Int×Bool:=(Tm.mk (-1) ae (lx (fdN s.ai.ah (nmF t a).1) 0) [],(nmF t a).2,decide (fdN s.ai.ah (nmF t a).1<0)|| !dc ae)
def dH(s:Sg)(t:Z):Nat->Int->Tm×Int×Bool
 |0,a=>(Zt,(nmF t a).2,true)
 | e+1,a=>if (nmF t a).1=ByteArray.empty then (Zt,(nmF t a).2,true)else if (tkF t (nmF t a).2 58).1=true then Nk s t (nmF t a).1 (tkF t (nmF t a).2 58).2
  else jW s (fdO s.ops (nmF t a).1) (if (tkF t (tkF t (nmF t a).2 58).2 40).1=true then dG t (dH s t e) (t.size+3) (tkF t (tkF t (nmF t a).2 58).2 40).2 false []else ((tkF t (tkF t (nmF t a).2 58).2 40).2,false,[]))
def Sm(s:Sg)(t:Tm):Prop:=Good s t/\tsz t<=60
theorem Bg{x t:Tm}(h:x∈t.ac):tsz x<tsz t:=by
 rw[eZ t];have:=Mo (f:=tsz) h;unfold wS at*;omega
theorem Sm.ac{s:Sg}{t:Tm}(h:Sm s t):∀x∈t.ac,Sm s x:=λx hx=>⟨h.1.ac x hx,by have:=Bg hx;have:=h.2;omega⟩
theorem dK{x:Z}(h:dc x=true):x.size<=12:=by
 unfold dc at h;simp only[bA,NO]at h;exact h.2.1
theorem Good.az{s:Sg}:∀(k:Nat)(t:Tm),t.az<k->Good s t->t.az+1<=13*tsz t
 |0,_,h,_=>absurd h (NP _)
 | k+1,t,hk,d=>by
  rw[eZ];have ht:=bj t;have hs:t.ae.size<=12:=by
   cases d with
   |var _ _ j=>exact dK j
   |app _ _ _=>exact N9 _
  have:∀l:RV Tm,(∀x∈l,x.az+1<=13*tsz x)->ap l<=13*wS tsz l:=λl=>by
   induction l with
   |nil=>intro _;exact N9 _
   | cons x l v=>
    intro hl;rw[fS,dP];have:=hl x C3;have:=v λy w=>hl y QX;omega
  have:=this t.ac λx hx=>Good.az k x Dg (d.ac x hx);omega
theorem Sm.az{s:Sg}{t:Tm}(h:Sm s t):t.az<=780:=by
 have:=h.1.az _ t (NW _);have:=h.2;omega
theorem oM{s:Sg}:∀{l:RV Tm},(∀x∈l,Sm s x)->ap l<=781*l.length
 |[],_=>by rw[fO];omega
 | x::l,h=>by
  rw[dP,NU];have:=(h x C3).az;have:=oM (l:=l) λy d=>h y L5;omega
theorem wZ{P:Tm->Prop}(t:∀x,P x->∀a∈x.ac,P a){s:Sg}{o:Opr}{op:Int}:∀{xs:RV Tm}{i:Int}{acc l:RV Tm},dW s o op i xs acc=some l->(∀x∈acc,P x)->(∀x∈xs,P x)->∀x∈l,P x
 |[],_,_,_,h,j,_=>by cases h;exact j
 | x::xs,i,acc,l,h,j,hx=>by
  unfold dW at h;split at h
  .refine wZ t h (λy d=> ?_) (λy d=>hx y L5);unfold gm at d;have v:=hx x C3;split at d
   .grind
   .grind
  .cases h
theorem vV{s:Sg}{o:Opr}{op:Int}(ho:ix s.ops op=some o)(A:o.aE=0):∀{xs:RV Tm}{i:Int}{acc l:RV Tm},dW s o op i xs acc=some l->(∀x∈xs,Good s x)->acc.length+xs.length<=l.length
 |[],_,_,_,h,_=>by cases h;simp
 | x :: xs,i,acc,l,h,hx=>by
  unfold dW at h;split at h
  .have h2:=vV ho A h λy B=>hx y (by simp[B]);have:acc.length+1<=(gm o op acc x).length:=by
    unfold gm;split
    .rename_i hc;obtain⟨t,d⟩:=hc;have C:=hx x C3;have v:x.op≠ -1:=by
      rw[d];have:=(ci ho).2.1;omega
     cases C with
     |var _ _ _=>exact absurd rfl v
     | @app w o' ac j D _=>
      have d:w=op:=d;subst d;rw[ho]at j;cases j;rw[N1 t]at D;show _<=(acc++ac).length;simp only[N8];omega
    .unfold jG;rw[dT A];simp
   simp only[NU];omega
  .cases h
theorem zS{o:Opr}{op:Int}{l:RV Tm}:(iF o op l).ac.length=l.length/\∀x,x∈(iF o op l).ac↔x∈l:=by
 unfold iF;show (if o.comm=true then sortT l else l).length=l.length/\∀x,x∈(if o.comm=true then sortT l else l)↔x∈l;split
 .exact⟨gT l,λx=>o6⟩
 .grind
theorem If{s:Sg}(hS:bI s=true){op:Int}{o:Opr}(ho:ix s.ops op=some o){ac:RV Tm}(j:∀x∈ac,Sm s x){t:Tm}(h:dy s o op ac=some t):Sm s t:=by
 have hk:=jd hS (ci ho).1;unfold dy at h;split at h
 .rename_i d;obtain⟨l,v,h⟩:=Option.bind_eq_some_iff.1 h;have hl:∀x∈l,Sm s x:=wZ (P:=Sm s) (λx hx=>hx.ac) v (λx hx=>Q4) j;split at h
  .rename_i w;cases h;unfold M6;split
   .grind
   .obtain⟨u,u1,u2⟩:=hk.un w.1;obtain⟨u3,u4⟩:=tG hS hk w.1 u1;refine⟨?_,by rw[eZ];show 1+wS tsz []<=60;exact D2⟩;exact .app u1 (by rw[u4,N3 D2,u3];rfl) (λa j=>by simp at j)
  .rename_i w;unfold ju at h;split at h
   .cases h
   .rename_i hs;cases h;obtain⟨y,A⟩:=zS (o:=o) (op:=op) (l:=l);refine⟨?_,A1⟩;have bJ:if o.aA=true then 2<=l.length else l.length=(first o).ac.length:=by
     unfold gi at d;cases hc:o.aA with
     | true=>
      rw[hc,N1 rfl]at d;rw[N1 rfl];by_cases h0:o.aE=0
      .have:=vV ho h0 v λx hx=>(j x hx).1;simp only[Pf]at this;omega
      .omega
     | false=>
      rw[hc,N3 D2]at d;rw[N3 D2];have h1:=oC hc v;simp only[Pf]at h1;by_cases h0:o.aE=0
      .have:=vV ho h0 v λx hx=>(j x hx).1;simp only[Pf]at this;omega
      .have:=hk.two (.inr (.inr h0));omega
    exact .app ho (by rw[show (if o.comm=true then sortT l else l).length=l.length from y];exact bJ) λx hx=>(hl x ((A x).1 hx)).1
 .cases h
theorem Jm{s:Sg}(hS:bI s=true){op:Int}{ac:RV Tm}(d:∀x∈ac,Sm s x){t:Tm}(h:pY s op ac=some t):Sm s t:=by
 obtain⟨o,ho,h⟩:=Option.bind_eq_some_iff.1 h;exact If hS ho d h
def RdI(s:Sg)(t:Z)(rd:Int->Tm×Bool×Int):Prop:=∀a,atP t a->atP t (rd a).2.2/\a<=(rd a).2.2/\((rd a).2.1=true->Sm s (rd a).1)
theorem rc{s:Sg}{t:Z}{rd:Int->Tm×Bool×Int}(hr:RdI s t rd):∀f op a acc,atP t a->(∀x∈acc,Sm s x)->atP t (ck t rd f op a acc).2.1/\a<=(ck t rd f op a acc).2.1/\((ck t rd f op a acc).1=true->(∀x∈(ck t rd f op a acc).2.2,Sm s x)/\(ck t rd f op a acc).2.2.length<=acc.length+f)
 |0,_,a,acc,h,_=>⟨h,OJ _,λh=>Hm⟩
 | f+1,op,a,acc,h,j=>by
  obtain⟨d,v,w⟩:=hr a h;have hk:=dJ d 44;unfold ck;by_cases ho:op=true
  .rw[N1 ho];by_cases hc:(rd a).2.1=true
   .rw[N1 hc];obtain⟨q1,q2,q3⟩:=rc hr f (tkF t (rd a).2.2 44).1 (tkF t (rd a).2.2 44).2 (acc++[(rd a).1]) (cS d 44) λx hx=>Hd
    refine⟨q1,A1,λq=>⟨(q3 q).1,?_⟩⟩;have:=(q3 q).2;simp only[N8,OU]at this;omega
   .grind
  .grind
theorem A4{s:Sg}(hS:bI s=true){op a:Int}{ac:RV Tm}(d:∀x∈ac,Sm s x):(mE s op a ac).2.1=true->Sm s (mE s op a ac).1:=by
 unfold mE;intro h;simp only at h ⊢;cases hb:pY s op ac with
 |none=>rw[hb]at h;cases h
 |some t=>exact Jm hS d hb
theorem Kc{s:Sg}(hS:bI s=true){t:Z}{op a:Int}{r:Bool×Int×RV Tm}(h1:atP t r.2.1)(h2:a<=r.2.1)(d:r.1=true->∀x∈r.2.2,Sm s x):atP t (mW s t op r).2.2/\a<=(mW s t op r).2.2/\((mW s t op r).2.1=true->Sm s (mW s t op r).1):=by
 have hk:=dJ h1 41;unfold mW;split
 .rename_i hr;split
  .grind
  .split
   .exact⟨h1,h2,A4 hS (d hr)⟩
   .split
    .exact⟨cS h1 41,by show a<=(tkF t r.2.1 41).2;omega,A4 hS (d hr)⟩
    .exact⟨cS h1 41,by show a<=(tkF t r.2.1 41).2;omega,λh=>Hm⟩
 .grind
theorem iq{s:Sg}(hS:bI s=true)(t:Z):∀e,RdI s t (bo s t e)
 |0=>λa h=>⟨h,OJ _,λh=>Hm⟩
 | e+1=>fun a h=>by
  have d:=kw h;have B:=qB h;have c1:=cS d 58;have c2:=(dJ d 58).1;unfold bo;split
  .have j:=kw c1;have C:=qB c1;refine⟨j,by show a<=(nmF t (tkF t (nmF t a).2 58).2).2;omega,λh=> ?_⟩;unfold IF at h ⊢;simp only[bA]at h;obtain⟨v,h4⟩:=h;obtain⟨w,y⟩:=cg.1 h4;exact⟨.var w y v,by rw[eZ];show 1+wS tsz []<=60;exact D2⟩
  .have A:=cS c1 40;have D:=(dJ c1 40).1;obtain⟨q1,q2,q3⟩:=rc (iq hS t e) (t.size+3) (tkF t (tkF t (nmF t a).2 58).2 40).1 (tkF t (tkF t (nmF t a).2 58).2 40).2 [] A λx hx=>Q4
   exact Kc hS q1 A1 λhr=>(q3 hr).1
theorem Nt{t:Z}{a:Int}:spA t (spA t a)=spA t a:=by
 unfold spA;rw[Or,CH]
theorem HJ{t:Z}{a c:Int}:tkF t (spA t a) c=tkF t a c:=by
 unfold tkF;rw[Nt]
theorem rn{t:Z}{a c:Int}(h:(tkF t a c).1=false):(tkF t a c).2=spA t a:=by
 unfold tkF at*;split
 .grind
 .rfl
theorem Hi{t:Z}{a c d:Int}(h:(tkF t a c).1=false):tkF t (tkF t a c).2 d=tkF t a d:=by rw[rn h,HJ]
theorem Gv{t:Z}{a c d:Int}(j:c≠d)(h:(tkF t a c).1=true):(tkF t a d).1=false:=by
 unfold tkF at*;split at h
 .grind
 .cases h
def KV(t:Z)(d:Int->Tm×Bool×Int)(h:Int->Tm×Int×Bool):Prop:=∀a,atP t a->(h a).2.2= !(d a).2.1/\((d a).2.1=true->(h a).1=(d a).1/\(h a).2.1=(d a).2.2)
theorem oQ{t:Z}{d:Int->Tm×Int×Bool}:∀f a acc,(dG t d f a true acc).2.1=true
 |0,_,_=>rfl
 |f+1,a,acc=>by unfold dG;rw[N1 rfl]
theorem tH{s:Sg}{t:Z}{j:Int->Tm×Bool×Int}{y:Int->Tm×Int×Bool}(hr:RdI s t j)(hs:KV t j y):∀f a acc,atP t a->(t.size-a).toNat+2<=f->
  ((ck t j f true a acc).1=true/\(tkF t (ck t j f true a acc).2.1 41).1=true->dG t y f a false acc=((tkF t (ck t j f true a acc).2.1 41).2,false,(ck t j f true a acc).2.2))/\
  (¬((ck t j f true a acc).1=true/\(tkF t (ck t j f true a acc).2.1 41).1=true)->(dG t y f a false acc).2.1=true)/\((ck t j f true a acc).1=true->acc.length<(ck t j f true a acc).2.2.length)
 |0,_,_,_,C=>absurd C A1
 | f + 1,a,acc,h,C=>by
  obtain⟨A,K,L⟩:=hr a h;obtain⟨s1,s2⟩:=hs a h;unfold ck dG;rw[N1 rfl,N3 (D2:¬(false=true))];by_cases hc:(j a).2.1=true
  .obtain⟨D,E⟩:=s2 hc;rw[hc]at s1;have s1:(y a).2.2=false:=s1;rw[N1 hc,s1,D,E,N3 (D2:¬(false=true))];obtain⟨f,rfl⟩:∃F,f=F+1:=⟨f-1,A1⟩;cases w:(tkF t (j a).2.2 41).1 with
   | true=>
    have v:=Gv (d:=44) D2 w;rw[v,rn v,N1 rfl];unfold ck;rw[N3 D2];simp only;rw[HJ];exact⟨λ_=>rfl,λq=>absurd ⟨trivial,w⟩ q,λ_=>C3⟩
   | false=>
    rw[N3 D2,Hi w];cases v:(tkF t (j a).2.2 44).1 with
    | true=>
     have hk:=(dJ A 44).2.2 v;have G:=(dJ A 44).2.1;obtain⟨H,I,J⟩:=tH hr hs (f+1) (tkF t (j a).2.2 44).2 (acc++[(j a).1]) (cS A 44) A1;refine⟨H,I,λq=> ?_⟩;have:=J q;simp only[N8,OU]at this;omega
    | false=>
     rw[rn v];refine⟨λq=> ?_,λ_=>oQ _ _ _,λq=> ?_⟩
     .unfold ck at q;rw[N3 D2]at q;simp only at q;rw[HJ,w]at q;exact absurd q.2 D2
     .unfold ck;rw[N3 D2];simp
  .have B:(j a).2.1=false:=by simpa using hc
   rw[B]at s1;have s1:(y a).2.2=true:=s1;rw[N3 hc,s1,N1 rfl];refine⟨λq=> ?_,λ_=> ?_,λq=>by cases q⟩
   .cases q.1
   .split
    .rfl
    .exact oQ _ _ _
theorem KM(s:Sg)(op:Int)(ac:RV Tm):(mkS s op ac).2=(pY s op ac).isSome/\∀t,pY s op ac=some t->(mkS s op ac).1=t:=by
 unfold mkS pY;cases ix s.ops op with
 |none=>exact⟨rfl,λt h=>Hm⟩
 |some o=>exact wB s o op ac
theorem yg(s:Sg)(op a:Int)(ac:RV Tm)(d:¬op<0):(jW s op (a,false,ac)).2.2= !(mE s op a ac).2.1/\((mE s op a ac).2.1=true->(jW s op (a,false,ac)).1=(mE s op a ac).1/\(jW s op (a,false,ac)).2.1=(mE s op a ac).2.2):=by
 obtain⟨m1,j⟩:=KM s op ac;unfold jW mE;rw[N3 L5];refine⟨by simp only[m1],λh=> ?_⟩;simp only at h ⊢;cases hb:pY s op ac with
 |none=>rw[hb]at h;cases h
 |some t=>exact⟨j t hb,trivial⟩
theorem oa{s:Sg}(hS:bI s=true)(t:Z):∀e,KV t (bo s t e) (dH s t e)
 |0=>λa _=>⟨rfl,λh=>Hm⟩
 | e + 1=>fun a h=>by
  have D:=kw h;have c1:=cS D 58;have B:=cS c1 40;unfold bo dH;by_cases w:(nmF t a).1=ByteArray.empty
  .rw [N1 w];split
   .unfold IF;rw[w,pq];exact⟨rfl,λh=>Hm⟩
   .rw[w];have h0:=DA hS;have v:∀r,(mW s t (fdO s.ops ByteArray.empty) r).2.1=false:=λr=>by
     unfold mW;rw[N1 h0];split<;>rfl
    exact⟨by rw[v];rfl,λh=>by rw[v]at h;cases h⟩
  .rw [N3 w];split
   .unfold IF Nk;rcases MH (l:=s.ai.ah) (x:=(nmF t (tkF t (nmF t a).2 58).2).1)with hk|⟨hk,y⟩
    .have A:inN (nS s) (fdN s.ai.ah (nmF t (tkF t (nmF t a).2 58).2).1)=false:=by rw[hk];rfl
     have v:decide (fdN s.ai.ah (nmF t (tkF t (nmF t a).2 58).2).1<0)=true:=by rw[hk];rfl
     rw[A,v];refine⟨C3,λh=>H0⟩
    .have A:inN (nS s) (fdN s.ai.ah (nmF t (tkF t (nmF t a).2 58).2).1)=true:=cg.2 ⟨hk,y⟩;have v:decide (fdN s.ai.ah (nmF t (tkF t (nmF t a).2 58).2).1<0)=false:=dF A1;have E:lx (fdN s.ai.ah (nmF t (tkF t (nmF t a).2 58).2).1) 0=fdN s.ai.ah (nmF t (tkF t (nmF t a).2 58).2).1:=by
      unfold lx;rw[N3 A1]
     rw[A,v,E];exact⟨C3,λ_=>⟨rfl,rfl⟩⟩
   .cases F:(tkF t (tkF t (nmF t a).2 58).2 40).1 with
    | false=>
     rw[N3 D2];have G:ck t (bo s t e) (t.size+3) false (tkF t (tkF t (nmF t a).2 58).2 40).2 []=(true,(tkF t (tkF t (nmF t a).2 58).2 40).2,[]):=by unfold ck;rw[N3 D2]
     rw[G];unfold mW;rw[N1 rfl];by_cases d:fdO s.ops (nmF t a).1<0
     .rw[N1 d];unfold jW;rw[N1 (.inr d)];exact⟨rfl,λh=>Hm⟩
     .rw[N3 d,N1 (by rfl)];exact yg s _ _ _ d
    | true=>
     rw[N1 rfl];have ho:=B.2;obtain⟨H,C,I⟩:=tH (iq hS t e) (oa hS t e) (t.size+3) (tkF t (tkF t (nmF t a).2 58).2 40).2 [] B A1;unfold mW;by_cases hA:(ck t (bo s t e) (t.size+3) true (tkF t (tkF t (nmF t a).2 58).2 40).2 []).1=true
     .have bJ:=I hA;rw[N1 hA];by_cases d:fdO s.ops (nmF t a).1<0
      .rw[N1 d];unfold jW;rw[N1 (.inr d)];exact⟨rfl,λh=>Hm⟩
      .rw[N3 d,N3 (by simp only[Pf]at bJ;omega)];by_cases j:(tkF t (ck t (bo s t e) (t.size+3) true (tkF t (tkF t (nmF t a).2 58).2 40).2 []).2.1 41).1=true
       .rw[N1 j,H ⟨hA,j⟩];exact yg s _ _ _ d
       .rw[N3 j];unfold jW;rw[N1 (.inl (C λq=>j q.2))];exact⟨rfl,λh=>Hm⟩
     .rw[N3 hA];unfold jW;rw[N1 (.inl (C λq=>hA q.1))];exact⟨rfl,λh=>Hm⟩
def RdS(t:Z)(rd:Int->Tm×Int×Bool):Prop:=∀a,atP t a->atP t (rd a).2.1/\a<=(rd a).2.1
theorem qD{t:Z}{rd:Int->Tm×Int×Bool}(hr:RdS t rd):∀f a bad acc,atP t a->atP t (dG t rd f a bad acc).1/\a<=(dG t rd f a bad acc).1
 |0,a,_,acc,h=>⟨h,OJ _⟩
 | f + 1,a,bad,acc,h=>by
  obtain⟨d,j⟩:=hr a h;have k1:=cS d 41;have v:=(dJ d 41).1;unfold dG;split
  .grind
  .split
   .grind
   .split
    .obtain⟨q1,q2⟩:=qD hr f (tkF t (rd a).2.1 41).2 true (acc++[(rd a).1]) k1;exact⟨q1,A1⟩
    .have w:=(dJ k1 44).1;obtain⟨q1,q2⟩:=qD hr f (tkF t (tkF t (rd a).2.1 41).2 44).2 (!(tkF t (tkF t (rd a).2.1 41).2 44).1) (acc++[(rd a).1]) (cS k1 44);exact⟨q1,A1⟩
theorem kE(s:Sg)(t:Z):∀e,RdS t (dH s t e)
 |0=>λa h=>⟨kw h,qB h⟩
 | e + 1=>fun a h=>by
  have j:=kw h;have v:=qB h;have c1:=cS j 58;have c2:=(dJ j 58).1;have w:=cS c1 40;have y:=(dJ c1 40).1;unfold dH;split
  .exact⟨j,v⟩
  .split
   .exact⟨kw c1,by have:=qB c1;show a<=(nmF t (tkF t (nmF t a).2 58).2).2;omega⟩
   .have d:∀r:Int×Bool×RV Tm,(jW s (fdO s.ops (nmF t a).1) r).2.1=r.1:=λr=>by unfold jW;split<;>rfl
    rw[d];split
    .obtain⟨q1,q2⟩:=qD (kE s t e) (t.size+3) (tkF t (tkF t (nmF t a).2 58).2 40).2 false [] w;exact⟨q1,A1⟩
    .grind
theorem J5{t:Z}{rd:Int->Tm×Bool×Int}{f:Nat}{a:Int}{acc:RV Tm}:ck t rd (f+1) false a acc=(true,a,acc):=by unfold ck;rw[N3 D2]
theorem I5{t:Z}{rd:Int->Tm×Bool×Int}{f:Nat}{a:Int}{acc:RV Tm}(h:(rd a).2.1=true):ck t rd (f+1) true a acc=ck t rd f (tkF t (rd a).2.2 44).1 (tkF t (rd a).2.2 44).2 (acc++[(rd a).1]):=by
 conv=>lhs;unfold ck
 rw[N1 rfl,N1 h]
theorem KH{t:Z}{rd:Int->Tm×Bool×Int}{f:Nat}{a:Int}{acc:RV Tm}(h:(rd a).2.1=false):ck t rd (f+1) true a acc=(false,(rd a).2.2,[]):=by
 conv=>lhs;unfold ck
 rw[N1 rfl,N3 (by simp[h])]
noncomputable abbrev GT(g:RV Int->RV Int->RV Int->RV Z->RV Sb->RV Opr->Mp->Z->Int->Int->Y (Tm×Bool×Int×Mp)):z1o.Gs:={z1m:=zJ,z1l:=rp,z5e:=sU,z0z:=uM,z5c:=FN,z1o:=g,z0t:=pg}
noncomputable def gTm:Nat->RV Int->RV Int->RV Int->RV Z->RV Sb->RV Opr->Mp->Z->Int->Int->Y (Tm×Bool×Int×Mp):=λk ab _ kd nm sb ops m t a d=>if Alg kd nm sb ops/\ab.length=nm.length/\atP t a/\0<=d/\d<=21/\(21-d).toNat<k then some ((bo ⟨⟨nm,sb⟩,ops⟩ t (21-d).toNat a).1,(bo ⟨⟨nm,sb⟩,ops⟩ t (21-d).toNat a).2.1,(bo ⟨⟨nm,sb⟩,ops⟩ t (21-d).toNat a).2.2,m)else none
section
variable {R : Type} {kd ab be : RV Int} {nm : RV Z} {sb : RV Sb} {ops : RV Opr} (hA : Alg kd nm sb ops) (hab : ab.length = nm.length) {k : Nat} {d : Int} (hd : 0 ≤ d ∧ d ≤ 20) (hk : (20 - d).toNat < k)
include hA hab hd hk
theorem J2(n:Nat)(t:Z)(m:Mp)(op y j:Int)(v:Z)(h4:RV Tm)(w:Bool->Int->Mp->Int->Z->Int->RV Tm->Y R)(k1:Int->Mp->RV Tm->Y R):∀f o a acc,atP t a->(t.size-a).toNat+(if o=true then 2 else 1)<=f->acc.length+f<=5000->
  z1o.l11 (GT (gTm k)) n f t ab be kd nm sb ops d op y v j h4 o a m acc w k1=if (ck t (bo ⟨⟨nm,sb⟩,ops⟩ t (20-d).toNat) f o a acc).1=true then k1 (ck t (bo ⟨⟨nm,sb⟩,ops⟩ t (20-d).toNat) f o a acc).2.1 m (ck t (bo ⟨⟨nm,sb⟩,ops⟩ t (20-d).toNat) f o a acc).2.2 else w false (ck t (bo ⟨⟨nm,sb⟩,ops⟩ t (20-d).toNat) f o a acc).2.1 m 0 ByteArray.empty 0 []:=by
 intro f
 induction f with
 |zero=>intro o a acc _ A _;split at A<;>omega
 | succ f C=>
  intro o a acc h A hl;show z1o.b11 (GT (gTm k)) n t ab be kd nm sb ops d op y v j h4 o a m acc (λD E F G=>z1o.l11 (GT (gTm k)) n f t ab be kd nm sb ops d op y v j h4 D E F G w k1) w k1=_;unfold z1o.b11;obtain⟨B,J,K⟩:=iq hA.1 t (20-d).toNat a h;cases o with
  |false=>rw[cF,J5,N1 rfl]
  | true=>
   rw[N1 rfl]at A;have H:gTm k ab be kd nm sb ops m t a (d+1)=some ((bo ⟨⟨nm,sb⟩,ops⟩ t (20-d).toNat a).1,(bo ⟨⟨nm,sb⟩,ops⟩ t (20-d).toNat a).2.1,(bo ⟨⟨nm,sb⟩,ops⟩ t (20-d).toNat a).2.2,m):=by
    unfold gTm;rw[(A1:21-(d+1)=20-d)];exact N1 ⟨hA,hab,h,A1,A1,hk⟩
   rw[cT,aH (x:=d+1) A1];show Option.bind (gTm k ab be kd nm sb ops m t a (d+1)) _=_;rw[H,bS];simp only;cases hc:(bo ⟨⟨nm,sb⟩,ops⟩ t (20-d).toNat a).2.1 with
   | false=>
    rw[NR,cT,KH hc,N3 C3]
   | true=>
    rw[N5,cF,Tm.eta,dw D5,bS,I5 hc];have I:rp ab be kd nm sb ops m t (bo ⟨⟨nm,sb⟩,ops⟩ t (20-d).toNat a).2.2 44=some ((tkF t (bo ⟨⟨nm,sb⟩,ops⟩ t (20-d).toNat a).2.2 44).1,(tkF t (bo ⟨⟨nm,sb⟩,ops⟩ t (20-d).toNat a).2.2 44).2,m):=N1 B;show Option.bind (rp ab be kd nm sb ops m t (bo ⟨⟨nm,sb⟩,ops⟩ t (20-d).toNat a).2.2 44) _=_;rw[I,bS];obtain⟨L,M,t3⟩:=dJ B 44;refine C (tkF t (bo ⟨⟨nm,sb⟩,ops⟩ t (20-d).toNat a).2.2 44).1 (tkF t (bo ⟨⟨nm,sb⟩,ops⟩ t (20-d).toNat a).2.2 44).2 _ (cS B 44) ?_ D5;split
    .grind
    .omega
theorem JY(t:Z)(m:Mp)(a:Int)(h:atP t a)(K:Tm->Bool->Int->Mp->Y R):
  z1o.aq (GT (gTm k)) (t.size+3) ab be kd nm sb ops m t a d K=K (bo ⟨⟨nm,sb⟩,ops⟩ t ((20-d).toNat+1) a).1 (bo ⟨⟨nm,sb⟩,ops⟩ t ((20-d).toNat+1) a).2.1 (bo ⟨⟨nm,sb⟩,ops⟩ t ((20-d).toNat+1) a).2.2 m:=by
 have h1:=h.1;have Q:=kw h;have c1:=cS Q 58;have G:=cS c1 40;have B:=iv (kM hA.1);have H:=(eF hA.1).1;have V:zJ ab be kd nm sb ops m t a=some ((nmF t a).1,(nmF t a).2,m):=N1 h;have W:rp ab be kd nm sb ops m t (nmF t a).2 58=some ((tkF t (nmF t a).2 58).1,(tkF t (nmF t a).2 58).2,m):=N1 Q;unfold z1o.aq bo;rw[dF A1,cF];show Option.bind (zJ ab be kd nm sb ops m t a) _=_;rw[V,bS];show Option.bind (rp ab be kd nm sb ops m t (nmF t a).2 58) _=_;rw[W,bS];simp only;cases X:(tkF t (nmF t a).2 58).1 with
 | true=>
  rw[cT,N1 rfl];unfold z1o.d5;have I:zJ ab be kd nm sb ops m t (tkF t (nmF t a).2 58).2=some ((nmF t (tkF t (nmF t a).2 58).2).1,(nmF t (tkF t (nmF t a).2 58).2).2,m):=N1 c1;show Option.bind (zJ ab be kd nm sb ops m t (tkF t (nmF t a).2 58).2) _=_;rw[I,bS];have J:sU nm (nmF t (tkF t (nmF t a).2 58).2).1=some (fdN nm (nmF t (tkF t (nmF t a).2 58).2).1):=N1 B.1;show Option.bind (sU nm (nmF t (tkF t (nmF t a).2 58).2).1) _=_;rw[J,bS];have ev:uM ab be kd nm sb ops m (Tm.mk (-1) (nmF t a).1 (fdN nm (nmF t (tkF t (nmF t a).2 58).2).1) [])=some (dc (nmF t a).1&&inN nm.length (fdN nm (nmF t (tkF t (nmF t a).2 58).2).1),m):=by
   unfold uM;rw[N1 rfl,hab];simp
  show Option.bind (uM ab be kd nm sb ops m (Tm.mk (-1) (nmF t a).1 (fdN nm (nmF t (tkF t (nmF t a).2 58).2).1) [])) _=_;rw[ev,bS];rfl
 | false=>
  rw[cF,N3 D2];have J:FN ops (nmF t a).1=some (fdO ops (nmF t a).1):=N1 H;show Option.bind (FN ops (nmF t a).1) _=_;rw[J,bS];have eo:rp ab be kd nm sb ops m t (tkF t (nmF t a).2 58).2 40=some ((tkF t (tkF t (nmF t a).2 58).2 40).1,(tkF t (tkF t (nmF t a).2 58).2 40).2,m):=N1 c1;show Option.bind (rp ab be kd nm sb ops m t (tkF t (nmF t a).2 58).2 40) _=_;rw[eo,bS];obtain⟨x,hx⟩:∃x,x=fdO ops (nmF t a).1:=⟨_,rfl⟩;have L:¬x<0->∃o,ix ops x=some o:=λh=>by
   rw[hx]at h ⊢;obtain⟨o,ho,_⟩:=qZ h;exact⟨o,ho⟩
  obtain⟨y,hy⟩:∃y,y=ck t (bo ⟨⟨nm,sb⟩,ops⟩ t (20-d).toNat) (t.size+3) (tkF t (tkF t (nmF t a).2 58).2 40).1 (tkF t (tkF t (nmF t a).2 58).2 40).2 []:=⟨_,rfl⟩;have ho2:=G.2;obtain⟨S,y2,T⟩:=rc (iq hA.1 t (20-d).toNat) (t.size+3) (tkF t (tkF t (nmF t a).2 58).2 40).1 (tkF t (tkF t (nmF t a).2 58).2 40).2 [] G λx hx=>Q4
  simp only;refine(J2 (R:=R) hA hab hd hk (t.size+3) t m (fdO ops (nmF t a).1) 0 0 ByteArray.empty [] _ _ (t.size+3) _ _ [] G (by split<;>omega) D5).trans ?_;show _=K (mW _ t (fdO ops (nmF t a).1) (ck t (bo ⟨⟨nm,sb⟩,ops⟩ t (20-d).toNat) (t.size+3) (tkF t (tkF t (nmF t a).2 58).2 40).1 (tkF t (tkF t (nmF t a).2 58).2 40).2 [])).1 (mW _ t (fdO ops (nmF t a).1) (ck t (bo ⟨⟨nm,sb⟩,ops⟩ t (20-d).toNat) (t.size+3) (tkF t (tkF t (nmF t a).2 58).2 40).1 (tkF t (tkF t (nmF t a).2 58).2 40).2 [])).2.1 (mW _ t (fdO ops (nmF t a).1) (ck t (bo ⟨⟨nm,sb⟩,ops⟩ t (20-d).toNat) (t.size+3) (tkF t (tkF t (nmF t a).2 58).2 40).1 (tkF t (tkF t (nmF t a).2 58).2 40).2 [])).2.2 m;rw[<-hy,<-hx]at*;obtain⟨y0,A,j⟩:=y;simp only at S y2 T ⊢;unfold mW;cases y0 with
  |false=>rfl
  | true=>
   obtain⟨U,y5⟩:=T rfl;simp only[Pf]at y5;have hb:ap j<1073741824:=by have:=oM U;omega
   rw[N1 rfl,N1 rfl];by_cases v:x<0
   .grind
   .rw [decide_eq_false v,cond_false,N3 v];obtain⟨o,ho⟩:=L v;have M:pY ⟨⟨nm,sb⟩,ops⟩ x j=dy ⟨⟨nm,sb⟩,ops⟩ o x j:=by
     unfold pY;show (ix ops x).bind _=_;rw[ho,bS]
    have eb:pg ab be kd nm sb ops m x j=some ((pY ⟨⟨nm,sb⟩,ops⟩ x j).getD Zt,(pY ⟨⟨nm,sb⟩,ops⟩ x j).isSome,m):=by
     unfold pg;rw[N1 ⟨hA,λz hz=>(U z hz).1,hb⟩,ho,M];rfl
    have c19:∀w:Int,z1o.c19 (GT (gTm k)) (t.size+3) t ab be kd nm sb ops x w m 0 ByteArray.empty 0 [] j (λN C D E F O=>K (Tm.mk D E F O) N w C)=K (mE ⟨⟨nm,sb⟩,ops⟩ x w j).1 (mE ⟨⟨nm,sb⟩,ops⟩ x w j).2.1 (mE ⟨⟨nm,sb⟩,ops⟩ x w j).2.2 m:=λw=>by
     unfold z1o.c19;show Option.bind (pg ab be kd nm sb ops m x j) _=_;rw[eb,bS];unfold mE;exact congrArg (λz=>K z _ w m) (Tm.eta _)
    by_cases P:j.length=0
    .grind
    .rw[dT A1,cT,N3 P];have ek:rp ab be kd nm sb ops m t A 41=some ((tkF t A 41).1,(tkF t A 41).2,m):=N1 S;show Option.bind (rp ab be kd nm sb ops m t A 41) _=_;rw[ek,bS];simp only;cases h41:(tkF t A 41).1 with
     |false=>rw[NR,cT,N3 D2]
     | true=>
      rw[N5,cF,N1 rfl];exact c19 (tkF t A 41).2
end
theorem BR:∀k,aj (z1o.ent (gTm k))
 |0=>okQ (by (repeat intro h);simp[gTm]at h)
 | k+1=>z1o.ok (G:=GT (gTm k)) ⟨IQ,MY,FG,lF,vH,BR k,Ig,trivial⟩ fun ab be kd nm sb ops m t a d r h=>by
  unfold gTm at h;split at h
  .rename_i hs;obtain⟨hA,hab,hp,j,v,hk⟩:=hs;cases h;by_cases hd:d=21
   .subst hd;refine⟨1,?_⟩;unfold z1o.aq;rw[dT D2,cT];rfl
   .rw[(A1:(21-d).toNat=(20-d).toNat+1)]at hk ⊢;exact⟨t.size+3,(JY (ab:=ab) (be:=be) hA hab (k:=k) ⟨j,A1⟩ A1 t m a hp _).trans rfl⟩
  .cases h
theorem GI:aj (z4m.ent λx k=>some (Tm.mk (-1) x k [])):=z4m.ok (G:=⟨()⟩) trivial λx k r h=>⟨1,QF⟩
noncomputable abbrev GTS(g:RV Z->RV Sb->RV Opr->Z->Int->Bool->Int->Y (Tm×Int×Bool)):z54.Gs:={z52:=wj,z57:=ss,z4y:=sU,z3i:=λx=>some (dc x),z44:=λa b=>some (lx a b),z4m:=λx k=>some (Tm.mk (-1) x k []),z54:=g,z4r:=uw}
noncomputable def gRd:Nat->RV Z->RV Sb->RV Opr->Z->Int->Bool->Int->Y (Tm×Int×Bool):=λk nm sb ops t a bad d=>if bI ⟨⟨nm,sb⟩,ops⟩=true/\atP t a/\bad=false/\1<=d/\d<=21/\(21-d).toNat<k then some (dH ⟨⟨nm,sb⟩,ops⟩ t (21-d).toNat a)else none
theorem wX{s:Sg}(hS:bI s=true){t:Z}{e:Nat}{a:Int}(h:atP t a)(hb:(dH s t e a).2.2=false):Sm s (dH s t e a).1:=by
 obtain⟨s1,s2⟩:=oa hS t e a h;have hc:(bo s t e a).2.1=true:=by rw[hb]at s1;simpa using s1
 rw[(s2 hc).1];exact(iq hS t e a h).2.2 hc
theorem wu{s:Sg}(hS:bI s=true){t:Z}{e:Nat}:∀f a bad acc,atP t a->(∀x∈acc,Sm s x)->(dG t (dH s t e) f a bad acc).2.1=false->(∀x∈(dG t (dH s t e) f a bad acc).2.2,Sm s x)/\(dG t (dH s t e) f a bad acc).2.2.length<=acc.length+f
 |0,a,bad,acc,_,_,hb=>by cases hb
 | f + 1, a,bad,acc,h,d,hb=>by
  obtain⟨j,y⟩:=kE s t e a h;unfold dG at hb ⊢;split
  .grind
  .rename_i q;rw[N3 q]at hb;split
   .rename_i q2;rw[N1 q2]at hb;refine⟨λx hx=> ?_,by simp only[N8,OU];omega⟩;rcases List.mem_append.1 hx with hx|hx
    .exact d x hx
    .rw[List.mem_singleton.1 hx];exact wX hS h hb
   .rename_i q2;rw[N3 q2]at hb;split
    .rename_i q3;rw[N1 q3,oQ]at hb;cases hb
    .rename_i q3;rw[N3 q3]at hb;obtain⟨v,w⟩:=wu hS f _ _ _ (cS (cS j 41) 44) (λx hx=>by
      rcases List.mem_append.1 hx with hx|hx
      .exact d x hx
      .rw[List.mem_singleton.1 hx];exact wX hS h (by simpa using q3)) hb
     exact⟨v,by simp only[N8,OU]at w;omega⟩
theorem mo{t:Z}{d:Int->Tm×Int×Bool}(hr:RdS t d)(j:Nat):∀f a bad acc,atP t a->(if bad=true then 1 else (t.size-a).toNat+2)<=f->dG t d (f+j) a bad acc=dG t d f a bad acc
 |0,a,bad,acc,_,v=>by split at v<;>omega
 | f + 1,a,bad,acc,h,v=>by
  obtain⟨A,C⟩:=hr a h;have w:=cS A 41;have D:=dJ A 41;have B:=dJ w 44;rw[(A1:f+1+j=(f+j)+1)];unfold dG;split
  .rfl
  .rename_i q;rw[N3 q]at v;split
   .rfl
   .split
    .exact mo hr j f _ true _ w (by rw[N1 rfl];omega)
    .refine mo hr j f _ _ _ (cS w 44) ?_;cases y:(tkF t (tkF t (d a).2.1 41).2 44).1 with
     | true=>
      have:=B.2.2 y;rw[N5,N3 D2];omega
     | false=>
      rw[NR,N1 rfl];omega
section
variable {R : Type} {nm : RV Z} {sb : RV Sb} {ops : RV Opr}
theorem uK(g:RV Z->RV Sb->RV Opr->Z->Int->Bool->Int->Y (Tm×Int×Bool))(n:Nat)(t x:Z)(d h0 h1 j:Int)(v:Bool)(w:Z)(h2:RV Tm)(hl:ops.length<=4294967295)(y:Int->Y R):∀m (i:Nat) (c:Int),i<=ops.length->ops.length-i<m->
  z54.l11 (GTS g) n m nm sb ops t d x h0 v h1 w j h2 c i y=y (nG (λo=>sEq (Opr.ae o) x) (ops.drop i) i c)
 |0,i,c,_,hm=>absurd hm (NP _)
 | m+1,i,c,hi,hm=>by
  show z54.b11 (GTS g) n nm sb ops t d x h0 v h1 w j h2 c i (λA B=>z54.l11 (GTS g) n m nm sb ops t d x h0 v h1 w j h2 A B y) y=_;unfold z54.b11;by_cases h:i<ops.length
  .obtain⟨o,ho,_⟩:=bu h;rw[bB h,cT,aZ ho,bS,bg ho,bN A1];unfold nG;cases C:sEq (Opr.ae o) x with
   | true=>
    rw[cT,N1 rfl];exact uK g n t x d h0 h1 j v w h2 hl y m (i+1) i h A1
   | false=>
    rw[cF,N3 D2];exact uK g n t x d h0 h1 j v w h2 hl y m (i+1) c h A1
  .obtain rfl:i=ops.length:=A1
   rw[bz A1,cF,bQ];rfl
variable (hS : bI ⟨⟨nm, sb⟩, ops⟩ = true) {k : Nat} {d : Int} (hd : 1 ≤ d ∧ d ≤ 20) (hk : (20 - d).toNat < k)
include hS hd hk
theorem Kj(n:Nat)(t:Z)(op h1 v:Int)(w:Z)(h2:RV Tm)(B:Int->Bool->RV Tm->Y R):∀f a bad acc,atP t a->(if bad=true then 1 else (t.size-a).toNat+2)<=f->acc.length+f<=5000->
  z54.l17 (GTS (gRd k)) n f nm sb ops t d op h1 w v h2 a bad acc B=B (dG t (dH ⟨⟨nm,sb⟩,ops⟩ t (20-d).toNat) f a bad acc).1 (dG t (dH ⟨⟨nm,sb⟩,ops⟩ t (20-d).toNat) f a bad acc).2.1 (dG t (dH ⟨⟨nm,sb⟩,ops⟩ t (20-d).toNat) f a bad acc).2.2:=by
 intro f
 induction f with
 |zero=>intro a bad acc _ D _;split at D<;>omega
 | succ f F=>
  intro a bad acc h D hl;show z54.b17 (GTS (gRd k)) n nm sb ops t d op h1 w v h2 a bad acc (λJ G j=>z54.l17 (GTS (gRd k)) n f nm sb ops t d op h1 w v h2 J G j B) B=_;unfold z54.b17;obtain⟨A,H⟩:=kE ⟨⟨nm,sb⟩,ops⟩ t (20-d).toNat a h;cases bad with
  | true=>
   rw[N5,cF];unfold dG;rw[N1 rfl]
  | false=>
   rw[N3 D2]at D;have K:gRd k nm sb ops t a false (d+1)=some (dH ⟨⟨nm,sb⟩,ops⟩ t (20-d).toNat a):=by
    unfold gRd;rw[(A1:21-(d+1)=20-d)];exact N1 ⟨hS,h,rfl,A1,A1,hk⟩
   rw[NR,cT,aH (x:=d+1) A1];show Option.bind (gRd k nm sb ops t a false (d+1)) _=_;rw[K,bS];unfold dG;rw[N3 D2];obtain⟨y,L⟩:∃y,y=dH ⟨⟨nm,sb⟩,ops⟩ t (20-d).toNat a:=⟨_,rfl⟩;rw[<-L]at A H ⊢;obtain⟨G,j,I⟩:=y;simp only at A H ⊢;have M:∀b,ss nm sb ops t j b 41=some (tkF t j 41):=λb=>N1 A;have Q:=dJ A 41;have C:=cS A 41;rw[Tm.eta,dw D5,bS];show Option.bind (ss nm sb ops t j I 41) _=_;rw[M,bS];cases N:(tkF t j 41).1 with
   |true=>rw[cT,N1 rfl]
   | false=>
    rw[cF,N3 D2];cases I with
    | true=>
     rw[cT,N1 rfl];exact F _ true _ C (by rw[N1 rfl];omega) D5
    | false=>
     rw[cF,N3 D2];have O:ss nm sb ops t (tkF t j 41).2 false 44=some (tkF t (tkF t j 41).2 44):=N1 C;show Option.bind (ss nm sb ops t (tkF t j 41).2 false 44) _=_;rw[O,bS];have P:=dJ C 44;refine F _ _ _ (cS C 44) ?_ D5;cases E:(tkF t (tkF t j 41).2 44).1 with
     | true=>
      have:=P.2.2 E;rw[N5,N3 D2];omega
     | false=>
      rw[NR,N1 rfl];omega
omit hd hk in
theorem Gx(n:Nat)(t:Z)(op a:Int)(bad:Bool)(ac:RV Tm)(d:¬op<0->∃o,ix ops op=some o)(v:bad=false->(∀x∈ac,Sm ⟨⟨nm,sb⟩,ops⟩ x)/\ac.length<=4000)(K:Tm->Int->Bool->Y R):
  z54.c21 (GTS (gRd k)) n nm sb ops t op a bad 0 ByteArray.empty 0 [] ac (λh1 h2 w h4 y=>K (Tm.mk h2 w h4 y) a h1)=K (jW ⟨⟨nm,sb⟩,ops⟩ op (a,bad,ac)).1 a (jW ⟨⟨nm,sb⟩,ops⟩ op (a,bad,ac)).2.2:=by
 unfold z54.c21 jW;cases bad with
 | true=>
  rw[cT,N1 (.inl rfl)];rfl
 | false=>
  rw[cF];by_cases h:op<0
  .rw[dT h,cT,N1 (.inr h)];rfl
  .obtain⟨o,ho⟩:=d h;obtain⟨j,C⟩:=v rfl;have hb:ap ac<1073741824:=by have:=oM j;omega
   have A:uw ⟨⟨nm,sb⟩,ops⟩ op ac=some (mkS ⟨⟨nm,sb⟩,ops⟩ op ac):=by
    unfold uw mkS;rw[N1 ⟨hS,λz B=>(j z B).1,hb⟩];show (ix ops op).map _=some (match ix ops op with|some o=>ff ⟨⟨nm,sb⟩,ops⟩ o op ac|none=>(Zt,false));rw[ho];rfl
   rw[dF h,cF,N3 (by simp[h])];show Option.bind (uw ⟨⟨nm,sb⟩,ops⟩ op ac) _=_;rw[A,bS,cF];exact congrArg (λz=>K z a _) (Tm.eta _)
theorem Ki(t:Z)(a:Int)(h:atP t a)(H:ops.length<=14)(D:nm.length<=8)(K:Tm->Int->Bool->Y R):
  z54.aq (GTS (gRd k)) (t.size+20) nm sb ops t a false d K=K (dH ⟨⟨nm,sb⟩,ops⟩ t ((20-d).toNat+1) a).1 (dH ⟨⟨nm,sb⟩,ops⟩ t ((20-d).toNat+1) a).2.1 (dH ⟨⟨nm,sb⟩,ops⟩ t ((20-d).toNat+1) a).2.2:=by
 have G:=kw h;have c1:=cS G 58;have B:=cS c1 40;have I:wj nm sb ops t a false=some (nmF t a):=N1 h;have J:ss nm sb ops t (nmF t a).2 false 58=some (tkF t (nmF t a).2 58):=N1 G;unfold z54.aq dH;show Option.bind (wj nm sb ops t a false) _=_;rw[I,bS];by_cases C:(nmF t a).1=ByteArray.empty
 .rw[N1 C,show sEq (nmF t a).1 ByteArray.empty=true from dT C,cT];rfl
 .rw [N3 C,show sEq (nmF t a).1 ByteArray.empty=false from decide_eq_false C,cond_false,decide_eq_false A1,cond_false];show Option.bind (ss nm sb ops t (nmF t a).2 false 58) _=_;rw[J,bS];cases L:(tkF t (nmF t a).2 58).1 with
  | true=>
   rw[cT,N1 rfl];unfold z54.d6;have E:wj nm sb ops t (tkF t (nmF t a).2 58).2 false=some (nmF t (tkF t (nmF t a).2 58).2):=N1 c1;show Option.bind (wj nm sb ops t (tkF t (nmF t a).2 58).2 false) _=_;rw[E,bS];have M:sU nm (nmF t (tkF t (nmF t a).2 58).2).1=some (fdN nm (nmF t (tkF t (nmF t a).2 58).2).1):=N1 D;show Option.bind (sU nm (nmF t (tkF t (nmF t a).2 58).2).1) _=_;rw[M,bS];simp only[cF];unfold Nk;by_cases hs:fdN nm (nmF t (tkF t (nmF t a).2 58).2).1<0
   .rw[dT hs,cT];rfl
   .rw[dF hs,cF];simp only[PE];rfl
  | false=>
   rw[cF,N3 D2];refine(uK (R:=R) (gRd k) (t.size+20) t (nmF t a).1 d (tkF t (nmF t a).2 58).2 0 0 false ByteArray.empty [] A1 _ (t.size+20) 0 (-1) (N9 _) A1).trans ?_;have F:nG (λo=>sEq (Opr.ae o) (nmF t a).1) (ops.drop 0) 0 (-1)=fdO ops (nmF t a).1:=AL (s:=⟨⟨nm,sb⟩,ops⟩) hS (nmF t a).1;rw[F];have w:¬fdO ops (nmF t a).1<0->∃o,ix ops (fdO ops (nmF t a).1)=some o:=λh=>by
    obtain⟨o,ho,_⟩:=qZ h;exact⟨o,ho⟩
   have N:ss nm sb ops t (tkF t (nmF t a).2 58).2 false 40=some (tkF t (tkF t (nmF t a).2 58).2 40):=N1 c1;show Option.bind (ss nm sb ops t (tkF t (nmF t a).2 58).2 false 40) _=_;rw[N,bS];have O:=B.2;cases P:(tkF t (tkF t (nmF t a).2 58).2 40).1 with
   | true=>
    rw[cT,N1 rfl];have j:=mo (kE ⟨⟨nm,sb⟩,ops⟩ t (20-d).toNat) 17 (t.size+3) (tkF t (tkF t (nmF t a).2 58).2 40).2 false [] B (by rw[N3 D2];omega);refine(Kj (R:=R) hS hd hk (t.size+20) t (fdO ops (nmF t a).1) 0 0 ByteArray.empty [] _ (t.size+20) (tkF t (tkF t (nmF t a).2 58).2 40).2 false [] B (by rw[N3 D2];omega) (by have:=h.1;simp;omega)).trans ?_;rw[(A1:t.size+3+17=t.size+20)]at j;rw[j];have A:=wu hS (e:=(20-d).toNat) (t.size+3) (tkF t (tkF t (nmF t a).2 58).2 40).2 false [] B (λx hx=>Q4);obtain⟨y,Q⟩:∃y,y=dG t (dH ⟨⟨nm,sb⟩,ops⟩ t (20-d).toNat) (t.size+3) (tkF t (tkF t (nmF t a).2 58).2 40).2 false []:=⟨_,rfl⟩;have v:∀r:Int×Bool×RV Tm,(jW ⟨⟨nm,sb⟩,ops⟩ (fdO ops (nmF t a).1) r).2.1=r.1:=λr=>by unfold jW;split<;>rfl
    rw[<-Q]at A ⊢;obtain⟨S,T,U⟩:=y;rw[v];exact Gx hS _ t _ S T U w (λq=>by have:=A q;have V:=h.1;simp only[Pf]at this;exact⟨this.1,A1⟩) K
   | false=>
    rw[cF,N3 D2];have v:∀r:Int×Bool×RV Tm,(jW ⟨⟨nm,sb⟩,ops⟩ (fdO ops (nmF t a).1) r).2.1=r.1:=λr=>by unfold jW;split<;>rfl
    rw[v];exact Gx hS _ t _ _ false [] w (λ_=>⟨λx hx=>Q4,C3⟩) K
end
theorem uE:∀k,aj (z54.ent (gRd k))
 |0=>okQ (by (repeat intro h);simp[gRd]at h)
 | k+1=>z54.ok (G:=GTS (gRd k)) ⟨Db,CD,CL,z3j,ym,GI,uE k,DQ,trivial⟩ fun nm sb ops t a bad d r h=>by
  unfold gRd at h;split at h
  .rename_i hs;obtain⟨hS,hp,rfl,v,y,hk⟩:=hs;cases h;by_cases hd:d=21
   .subst hd;refine⟨1,?_⟩;have w:wj nm sb ops t a false=some (nmF t a):=N1 hp;unfold z54.aq;show Option.bind (wj nm sb ops t a false) _=_;rw[w,bS];cases A:sEq (nmF t a).1 ByteArray.empty with
    |true=>rw[cT];rfl
    |false=>rw[cF,dT D2,cT];rfl
   .rw[(A1:(21-d).toNat=(20-d).toNat+1)]at hk ⊢;have hl:=eF hS;have j:=iv (kM hS);exact⟨t.size+20,(Ki hS (k:=k) ⟨v,A1⟩ A1 t a hp hl.1 j.1 _).trans rfl⟩
  .cases h
noncomputable def bl(s:Sg)(t:Z):Tm×Bool:=if bI s=true/\t.size<=2000/\(bo s t 20 0).2.1=true/\spA t (bo s t 20 0).2.2=t.size then ((bo s t 20 0).1,true)else (Zt,false)
theorem DD{t:Z}(h:t.size<=2000):atP t 0:=⟨h,OJ _,A1⟩
theorem kR{s:Sg}{t:Z}(h:(bl s t).2=false):bl s t=(Zt,false)/\¬(bI s=true/\t.size<=2000/\(bo s t 20 0).2.1=true/\spA t (bo s t 20 0).2.2=t.size):=by
 unfold bl at h ⊢;split at h
 .cases h
 .rename_i q;exact⟨N3 q,q⟩
theorem mq{s:Sg}{t:Z}(h:(bl s t).2=true):bl s t=((bo s t 20 0).1,true)/\(bI s=true/\t.size<=2000/\(bo s t 20 0).2.1=true/\spA t (bo s t 20 0).2.2=t.size):=by
 unfold bl at h ⊢;split at h
 .rename_i q;exact⟨N1 q,q⟩
 .cases h
end
end Go.Proofs.YtigoabbppmdfpaaGreat.Den

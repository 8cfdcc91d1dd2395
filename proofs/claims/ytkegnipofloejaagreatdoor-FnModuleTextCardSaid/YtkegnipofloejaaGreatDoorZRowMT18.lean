/- merged -/
import Derived.Test.YtkegnipofloejaaGreatDoorZRowMT17

namespace Go.Proofs.YtkegnipofloejaaGreatDoor.Den
open Go.RowKit
section
set_option maxRecDepth 100000
set_option linter.unusedVariables false
noncomputable section
namespace z1y
structure Gs where
 none_:Unit
def ents(_:Gs):Td Ent:=[]
def b0{R:Type}(G:Gs)(n:Nat)(d:Z)(t v w:LI)(y:LB)(A:LS)(B:LO)(h2:LM)(h0:Int)(j h:Int->Y R):Y R:=bif decide (h0<(ByteArray.size d:Int))then((sIx d h0).bind λb2=>bif decide (b2=32)then(j (wr (h0+1)))else h h0)else h h0
variable{R:Type}(G:Gs)(n:Nat)
def l0(m:Nat)(d:Z)(h j t:LI)(w:LB)(y:LS)(A:LO)(h2:LM)(h0:Int)(B:Int->Y R):Y R:=aY (λ(v:Int) C=>b0 G n d h j t w y A h2 v (λD=>C D) B) m h0
def aq(j t v:LI)(w:LB)(y:LS)(A:LO)(h:LM)(B:Z)(C:Int)(K:Int->LM->Y R):Y R:=l0 G n n B j t v w y A h C (λd=>K d h)
def dl0(m:Nat):=rS [0] [Tw] Ux λR K h h0 j t v w y A h2=>l0 G n m h j t v w y A h2 h0 (λd=>K (.exit 0) ⟨[],TT h d j t v w y A h2⟩)
def pc:Pcs:=⟨Tl 0 (dl0 G n n) nK,nK,nK⟩
def an:Ann:=⟨31,3,[(0,[0])],[],[],[(0,⟨[(Te 22,[],[])],[],[],[0,1,2],[]⟩)],[]⟩
abbrev bd:=aK Tryz.f113
theorem ok{G:Gs}(B:ap (ents G)){g:Q}(E:∀d h t v w y C A D r,g d h t v w y C A D=some r->∃n,aq (R:=AT×Td Ob) G n d h t v w y C A D (λr0 F=>some (Uf,TT A r0 d h t v w y F))=some (Uf,TT A r.1 d h t v w y r.2)):aj (ent g):=okQ λ_ _ _ _ _ _ _ _ _ _ _ _ hc=>Tk hc (E _ _ _ _ _ _ _ _ _) λn _ j=>fF B an (pc G n) Tryz.func113 j (apl [(1,0,.loop (Tj 4 bd))] ⟨Tf B n (dl0 G n) rfl (pc G n) ⟨[],[],[(0,[])]⟩,Th⟩)
end z1y
namespace z1w
structure Gs where
 z1y:z1y.Q
def aq{R:Type}(G:Gs)(n:Nat)(h j t:LI)(v:LB)(w:LS)(y:LO)(A:LM)(d:Z)(B c:Int)(K:Bool->Int->LM->Y R):Y R:=(G.z1y h j t v w y A d B).bind λr=>bif decide (r.1<(ByteArray.size d:Int))then((sIx d r.1).bind λb2=>bif decide (b2=c)then(K true (wr (r.1+1)) r.2)else K false r.1 r.2)else K false r.1 r.2
theorem ok{G:Gs}(D:ap [z1y.ent G.z1y]){g:Q}(E:∀d h t v w y B A C c r,g d h t v w y B A C c=some r->∃n,aq (R:=AT×Td Ob) G n d h t v w y B A C c (λr0 F I=>some (Tp r0,TT A F d h t v w y I))=some (Tp r.1,TT A r.2.1 d h t v w y r.2.2)):aj (ent g):=λR xs H K r hc=>by
 simp only[ent]at hc;split at hc
 .exact Tk hc (E _ _ _ _ _ _ _ _ _ _) λ_ _ j=>fF D ⟨37,3,[],[],[4],[(2,⟨[(Te 23,[],[])],[],[],[0,1,2],[]⟩)],[]⟩ nP Tryz.func137 j
 .cases hc
end z1w
namespace z1x
structure Gs where
 z1y:z1y.Q
 z1m:z1m.Q
def ents(G:Gs):Td Ent:=[z1y.ent G.z1y,z1m.ent G.z1m]
def b3{R:Type}(G:Gs)(n:Nat)(h:Z)(w y A:LI)(B:LB)(C:LS)(D:LO)(d:Int)(h2:LM)(h0:Int)(t j:Int->Y R):Y R:=bif decide (h0<(ByteArray.size h:Int))then((sIx h h0).bind λb2=>(G.z1m b2).bind λv=>bif v then(t (wr (h0+1)))else j h0)else j h0
variable{R:Type}(G:Gs)(n:Nat)
def l3(m:Nat)(h:Z)(j t w:LI)(y:LB)(A:LS)(B:LO)(d:Int)(h2:LM)(h0:Int)(C:Int->Y R):Y R:=aY (λ(v:Int) D=>b3 G n h j t w y A B d h2 v (λE=>D E) C) m h0
def aq(j t v:LI)(w:LB)(y:LS)(A:LO)(B:LM)(h:Z)(C:Int)(K:Z->Int->LM->Y R):Y R:=(G.z1y j t v w y A B h C).bind λr=>l3 G n n h j t v w y A r.1 r.2 r.1 (λd=>(Ac h r.1 d).bind λq2=>K q2 d r.2)
def dl3(m:Nat):=rS [0,3] [Tw,Tx] Ux λR K d j h0 t v w y A B h2=>l3 G n m j t v w y A B d h2 h0 (λh=>K (.exit 0) ⟨[(0,TF),(3,Tv d)],TT j h t v w y A B h2⟩)
def pc:Pcs:=⟨Tl 3 (dl3 G n n) nK,nK,nK⟩
def an:Ann:=⟨49,3,[(3,[0,3])],[],[2],[(3,⟨[(Te 22,[],[])],[],[],[0,1,2],[]⟩),(5,⟨[(Te 11,[],[])],[],[],[0,1,2],[]⟩)],[]⟩
abbrev bd:=aK Tryz.f136
theorem ok{G:Gs}(B:ap (ents G)){g:Q}(E:∀d h t v w y C A D r,g d h t v w y C A D=some r->∃n,aq (R:=AT×Td Ob) G n d h t v w y C A D (λr0 F H=>some (Ud r0,TT A F d h t v w y H))=some (Ud r.1,TT A r.2.1 d h t v w y r.2.2)):aj (ent g):=okQ λ_ _ _ _ _ _ _ _ _ _ _ _ hc=>Tk hc (E _ _ _ _ _ _ _ _ _) λn _ j=>fF B an (pc G n) Tryz.func136 j (apl [(1,3,.loop (Tj 120 bd))] ⟨Tf B n (dl3 G n) rfl (pc G n) ⟨[0,3],[2],[(0,[0,3])]⟩,Th⟩)
end z1x
namespace z4y
structure Gs where
 none_:Unit
def ents(_:Gs):Td Ent:=[]
def b2{R:Type}(G:Gs)(n:Nat)(s:LB)(h:Z)(j d:Int)(t v:Int->Y R)(k1:Y R):Y R:=bif decide (d<j)then((ix s d).bind λe=>bif sEq h e then(v d)else t (wr (d+1)))else k1
variable{R:Type}(G:Gs)(n:Nat)
def l2(m:Nat)(s:LB)(d:Z)(h j:Int)(t:Int->Y R)(k1:Y R):Y R:=aY (λ(v:Int) w=>b2 G n s d h v (λy=>w y) t k1) m j
def aq(s:LB)(d:Z)(K:Int->Y R):Y R:=l2 G n n s d (List.length s:Int) 0 (λt4=>K t4) (K (-1))
def dl2(m:Nat):=rS [0,1,7,8] [U4,Uv,Tx,Tx] [] λR K s d h j=>l2 G n m s d h j (λt4=>K .ret ⟨[(4,Tv t4)],[]⟩) (K (.exit 0) ⟨[],[]⟩)
def pc:Pcs:=⟨Tl 2 (dl2 G n n) nK,nK,nK⟩
def an:Ann:=⟨19,0,[(2,[0,1,7,8])],[],[4],[],[]⟩
abbrev bd:=aK Tryz.f44
def cG(G:Gs)(s:LB)(d:Z)(r:Int):Prop:=∃n,aq (R:=AT×Td Ob) G n s d (λr0=>some (Tv r0,[]))=some (Tv r,[])
theorem ok{G:Gs}(d:ap (ents G)){g:Q}(t:∀s h r,g s h=some r->cG G s h r):aj (ent g):=okQ λ_ _ _ _ _ hc=>Tk hc (t _ _) λn _ j=>fF d an (pc G n) Tryz.func44 j (apl [(1,2,.loop (Tj 52 bd))] ⟨Tf d n (dl2 G n) rfl (pc G n) ⟨[],[4],[(0,[])]⟩,Th⟩)
end z4y
namespace z23
structure Gs where
 none_:Unit
def aq{R:Type}(G:Gs)(n:Nat)(o:Opr)(c0:Z)(K:Bool->Y R):Y R:=K (sEq o.ah c0)
theorem ok{G:Gs}(d:ap []){g:Q}(h:∀o c0 r,g o c0=some r->∃n,aq G n o c0 (Vw c0)=Vw c0 r):aj (ent g):=okQ λ_ _ _ _ _ _ _ _ _ hc=>Tk hc (h _ _) λ_ _ j=>fF d ⟨8,1,[],[],[3],[],[]⟩ nP Tryz.func138 j
end z23
namespace z4u
structure Gs where
 z23:z23.Q
def ents(G:Gs):Td Ent:=[z23.ent G.z23]
def b2{R:Type}(G:Gs)(n:Nat)(h:Z)(s:LO)(j d:Int)(t v:Int->Y R)(k1:Y R):Y R:=bif decide (d<j)then((ix s d).bind λe=>(G.z23 e h).bind λr=>bif r then(v d)else t (wr (d+1)))else k1
variable{R:Type}(G:Gs)(n:Nat)
def l2(m:Nat)(d:Z)(s:LO)(h j:Int)(t:Int->Y R)(k1:Y R):Y R:=aY (λ(v:Int) w=>b2 G n d s h v (λy=>w y) t k1) m j
def aq(s:LO)(d:Z)(K:Int->Y R):Y R:=l2 G n n d s (List.length s:Int) 0 (λt4=>K t4) (K (-1))
def dl2(G:Gs)(n m:Nat)(R:Type)(st:St)(K:Kt R):Y R:=match st with|⟨[(0,.one (.l (.n 8) s)),(1,.one (.f 138 [.p 0 0])),(7,.one (.i h)),(8,.one (.i j))],[.box [.s d]]⟩=>l2 G n m d s h j (λt4=>K .ret ⟨[(4,Tv t4)],[Ur d]⟩) (K (.exit 0) ⟨[],[Ur d]⟩)|_=>none
def pc:Pcs:=⟨Tl 2 (dl2 G n n) nK,nK,nK⟩
def an:Ann:=⟨19,1,[(2,[0,1,7,8])],[],[4],[],[]⟩
abbrev bd:=aK Tryz.f20
abbrev q2:=Tj 52 bd
theorem pl2{G:Gs}(d:ap (ents G))(n:Nat):∀m,al an (.loop q2) (dl2 G n m):=lpc d (pc G n) [0,1,7,8] ⟨[],[4],[(0,[])]⟩ (apl [] trivial) (λR st K=>by unfold dl2;split<;>rfl) λm R st K r h=>K0
def cG(G:Gs)(s:LO)(d:Z)(r:Int):Prop:=∃n,aq (R:=AT×Td Ob) G n s d (λr0=>some (Tv r0,[Ur d]))=some (Tv r,[Ur d])
theorem ok{G:Gs}(d:ap (ents G)){g:Q}(t:∀s h r,g s h=some r->cG G s h r):aj (ent g):=λR xs H K r hc=>by
 simp only[ent]at hc;split at hc
 .exact Tk hc (t _ _) λn _ j=>fF d an (pc G n) Tryz.func20 j (apl [(1,2,.loop q2)] ⟨pl2 d n n,Th⟩)
 .cases hc
end z4u
namespace z1z
structure Gs where
 z1x:z1x.Q
 z1w:z1w.Q
 z4y:z4y.Q
 z15:z15.Q
 z4u:z4u.Q
 z1z:z1z.Q
 z0y:z0y.Q
def ents(G:Gs):Td Ent:=[z1x.ent G.z1x,z1w.ent G.z1w,z4y.ent G.z4y,z15.ent G.z15,z4u.ent G.z4u,ent G.z1z,z0y.ent G.z0y]
def d5{R:Type}(G:Gs)(n:Nat)(j:Z)(t v w:LI)(h:LB)(y:LS)(A:LO)(h0:Int)(h2:LM)(F:Int)(B:Z)(C:Int)(h4:LT)(H:Z)(D:Int->Int->LM->Y R):Y R:=(G.z1x t v w h y A h2 j h0).bind λd=>(G.z4y h d.1).bind λE=>D E d.2.1 d.2.2
def Nf{R:Type}(G:Gs)(n:Nat)(h:Z)(j t v:LI)(d:LB)(w:LS)(y:LO)(h0:Int)(h2:LM)(E:Int)(A:Z)(B:Int)(h4:LT)(F:Z)(C:Int->Int->LM->Y R):Y R:=
 (G.z1x j t v d w y h2 h h0).bind λr=>
 (G.z4y d r.1).bind λD=>
 C D r.2.1 r.2.2
theorem e5_1{R:Type}(G:Gs)(n:Nat)(j:Z)(t v w:LI)(y:LB)(A:LS)(B:LO)(h0:Int)(h2:LM)(C:Int)(d:Z)(h:Int)(h4:LT)(D:Z)(E:Int->Int->LM->Y R):Nf G n j t v w y A B h0 h2 C d h h4 D E=d5 G n j t v w y A B h0 h2 C d h h4 D E:=by
 unfold Nf d5;generalize G.z1x t v w y A B h2 j h0=F;cases F<;>first|rfl|simp
def MC{R:Type}(G:Gs)(n:Nat)(h:Z)(j t v:LI)(d:LB)(w:LS)(y:LO)(h0:Int)(h2:LM)(E:Int)(A:Z)(B:Int)(h4:LT)(F:Z)(C:Int->Int->LM->Y R):Y R:=
 (G.z1x j t v d w y h2 h h0).bind λr=>
 (G.z4y d r.1).bind λD=>
 C D r.2.1 r.2.2
theorem e5_2{R:Type}(G:Gs)(n:Nat)(j:Z)(t v w:LI)(y:LB)(A:LS)(B:LO)(h0:Int)(h2:LM)(C:Int)(d:Z)(h:Int)(h4:LT)(D:Z)(E:Int->Int->LM->Y R):MC G n j t v w y A B h0 h2 C d h h4 D E=d5 G n j t v w y A B h0 h2 C d h h4 D E:=by
 unfold MC d5;generalize G.z1x t v w y A B h2 j h0=F;cases F<;>first|rfl|simp
def b11{R:Type}(G:Gs)(n:Nat)(j:Z)(t v w:LI)(y:LB)(A:LS)(B:LO)(d op I:Int)(D:Z)(E:Int)(h4:LT)(open1:Bool)(h0:Int)(h2:LM)(C:LT)(F:Bool->Int->LM->LT->Y R)(H:Bool->Int->LM->Int->Z->Int->LT->Y R)(k1:Int->LM->LT->Y R):Y R:=bif open1 then((G.z1z t v w y A B h2 j h0 (wr (d+1))).bind λr=>bif !r.2.1 then(H false r.2.2.1 r.2.2.2 0 ByteArray.empty 0 [])else(lim (C++[(Tm.mk r.1.op r.1.ah r.1.am r.1.ae)])).bind λzs=>(G.z1w t v w y A B r.2.2.2 j r.2.2.1 44).bind λh=>F h.1 h.2.1 h.2.2 zs)else k1 h0 h2 C
variable{R:Type}(G:Gs)(n:Nat)
def l11(m:Nat)(t:Z)(w y A:LI)(B:LB)(C:LS)(D:LO)(d op E:Int)(h:Z)(j:Int)(h4:LT)(open1:Bool)(h0:Int)(h2:LM)(F:LT)(H:Bool->Int->LM->Int->Z->Int->LT->Y R)(k1:Int->LM->LT->Y R):Y R:=aY (λ(v:Bool×Int×LM×LT) I=>b11 G n t w y A B C D d op E h j h4 v.1 v.2.1 v.2.2.1 v.2.2.2 (λJ K L M=>I (J,K,L,M)) H k1) m (open1,h0,h2,F)
def c19{R:Type}(G:Gs)(n:Nat)(D:Z)(d h j:LI)(t:LB)(v:LS)(w:LO)(op h0:Int)(h2:LM)(E:Int)(y:Z)(A:Int)(h4 B:LT)(C:Bool->LM->Int->Z->Int->LT->Y R):Y R:=(G.z0y d h j t v w h2 op B).bind λr=>C r.2.1 r.2.2 r.1.op r.1.ah r.1.am r.1.ae
def aq(v w y:LI)(A:LB)(B:LS)(t:LO)(xg:LM)(C:Z)(xi h:Int)(K:Tm->Bool->Int->LM->Y R):Y R:=bif decide (20<h)then(K (Tm.mk 0 ByteArray.empty 0 []) false xi xg)else(G.z1x v w y A B t xg C xi).bind λr=>(G.z1w v w y A B t r.2.2 C r.2.1 58).bind λF=>bif F.1 then(d5 G n C v w y A B t F.2.1 F.2.2 0 ByteArray.empty 0 [] r.1 (λk V W=>(G.z15 v w y A B t W (Tm.mk (-1) r.1 k [])).bind λr4=>K (Tm.mk (-1) r.1 k []) r4.1 V r4.2))else(G.z4u t r.1).bind λU=>(G.z1w v w y A B t F.2.2 C F.2.1 40).bind λX=>l11 G n n C v w y A B t h U 0 ByteArray.empty 0 [] X.1 X.2.1 X.2.2 [] (λt5 H I h34 h35 h36 h42=>K (Tm.mk h34 h35 h36 h42) t5 H I) (λd j D=>bif decide (U<0)then(K (Tm.mk 0 ByteArray.empty 0 []) false d j)else bif decide (0<(List.length D:Int))then((G.z1w v w y A B t j C d 41).bind λE=>bif !E.1 then(K (Tm.mk 0 ByteArray.empty 0 []) false E.2.1 E.2.2)else c19 G n C v w y A B t U E.2.1 E.2.2 0 ByteArray.empty 0 [] D (λt52 J L M N h37=>K (Tm.mk L M N h37) t52 E.2.1 J))else c19 G n C v w y A B t U d j 0 ByteArray.empty 0 [] D (λt53 O P Q S T=>K (Tm.mk P Q S T) t53 d O))
def dd5(G:Gs)(n:Nat)(R:Type)(st:St)(K:Kt R):Y R:=match st with|⟨[(0,.one (.p 0 0)),(4,.one (.p 3 0)),(6,.one (.p 5 0))],[.box [.p 1 0,.s v,.i h0],.box [.l .i w,.l .i y,.l .i A,.l .s B,.l (.n 5) C,.l (.n 8) D,.m 2],.map .i h2,.box [.i E,.s d,.i h,.o 4],.row (.n 1) 0 h4,.box [.s F]]⟩=>d5 G n v w y A B C D h0 h2 E d h h4 F (λk j t=>K .normal ⟨[(0,TF),(4,UK),(6,UR),(7,Tv k)],[Vg v j,Tu w y A B C D,Uz t,.box [.i E,.s d,.i h,.o 4],Tz h4,Ur F]⟩)|_=>none
def F0(m:Nat):=rS [0,1,4,9,10,11] [Tw,Tx,Ul,Tx,Vd,UD] Va λR K d op open1 w h0 y A B C D E h2 M t v h4 N=>l11 G n m w y A B C D E d op M t v h4 open1 h0 h2 N (λt5 h j F H I J=>K .ret ⟨[(4,UK),(5,Tp t5)],[Vg w h,Tu y A B C D E,Uz j,.box [.i F,.s H,.i I,.o 4],Tz J]⟩) (λh j L=>K (.exit 0) ⟨[(0,TF),(4,UK),(9,Tv op),(10,.one (.o 5))],[Vg w h,Tu y A B C D E,Uz j,.box [.i M,.s t,.i v,.o 4],Tz h4,Tz L]⟩)
def FU:=rS [0,4,9,10] [Tw,Ul,Tx,Vd] Va λR K op A h0 B C D E F H h2 I d h h4 J=>c19 G n A B C D E F H op h0 h2 I d h h4 J (λt5 j t v w y=>K .ret ⟨[(4,UK),(5,Tp t5)],[Vg A h0,Tu B C D E F H,Uz j,TC t v w y]⟩)
def pc:Pcs:=⟨Tl 11 (F0 G n n) nK,Tl 19 (FU G n) nK,Tl 5 (dd5 G n) nK⟩
def an:Ann:=⟨95,3,[(11,[0,1,4,9,10,11])],[(19,[0,4,9,10])],[4,5],[(5,⟨[(Te 13,[3,8,10],[]),([0,1,2,3,9,10,4,5,6,7,8,11,12],[3,10,8],[]),([9,10,0,1,2,3,4,5,6,7,8,11,12],[10,3,8],[])],[3,8,10],[],[3,4,5],[0,4,6]⟩),(7,⟨[([1,2,3,4,5,6,0,7,8],[6,7],[])],[6,7],[],[0,4,5,6],[]⟩)],[]⟩
abbrev bd:=aK Tryz.f112
abbrev q5:=Tj 244 bd
theorem s5_0(G:Gs)(n:Nat)(R:Type)(t:Z)(h0:Int)(v w y:LI)(A:LB)(B:LS)(C:LO)(h2:LM)(D:Int)(h:Z)(j:Int)(h4:LT)(E:Z)(K:Kt R):(λS:St=>(λd:St=>dW tb (de (ents G)) an.nt an.im (fq (q5)) (fe [3,4,5] d.H) (Te 13) [3,8,10] [] [] (Te 13) d.L d.H d.H λL H=>jd an.refs ⟨[0,4,6,7],[4,5],[]⟩ K .normal ⟨L,H⟩) (cR (bE (St.L S) (St.H S) []) S)=dd5 G n R S K) ⟨[(0,.one (.p 0 0)),(4,.one (.p 3 0)),(6,.one (.p 5 0))],[.box [.p 1 0,.s t,.i h0],.box [.l .i v,.l .i w,.l .i y,.l .s A,.l (.n 5) B,.l (.n 8) C,.m 2],.map .i h2,.box [.i D,.s h,.i j,.o 4],.row (.n 1) 0 h4,.box [.s E]]⟩:=Re
theorem s5_1(G:Gs)(n:Nat)(R:Type)(t:Z)(h0:Int)(v w y:LI)(A:LB)(B:LS)(C:LO)(h2:LM)(D:Int)(d:Z)(h:Int)(h4:LT)(E:Z)(K:Kt R):(λj:St=>dW tb (de (ents G)) an.nt an.im (fq (q5)) (fe [3,4,5] j.H) [0,1,2,3,9,10,4,5,6,7,8,11,12] [3,10,8] [] [] [0,1,2,3,9,10,4,5,6,7,8,11,12] j.L j.H j.H λL H=>jd an.refs ⟨[0,4,6,7],[4,5],[]⟩ K .normal ⟨L,H⟩) (cR (bE (St.L ⟨[(0,.one (.p 0 0)),(4,.one (.p 3 0)),(6,.one (.p 5 0))],[.box [.p 1 0,.s t,.i h0],.box [.l .i v,.l .i w,.l .i y,.l .s A,.l (.n 5) B,.l (.n 8) C,.m 2],.map .i h2,.box [.i D,.s d,.i h,.o 4],.row (.n 1) 0 h4,.box [.s E]]⟩) (St.H ⟨[(0,.one (.p 0 0)),(4,.one (.p 3 0)),(6,.one (.p 5 0))],[.box [.p 1 0,.s t,.i h0],.box [.l .i v,.l .i w,.l .i y,.l .s A,.l (.n 5) B,.l (.n 8) C,.m 2],.map .i h2,.box [.i D,.s d,.i h,.o 4],.row (.n 1) 0 h4,.box [.s E]]⟩) []) ⟨[(0,.one (.p 0 0)),(4,.one (.p 3 0)),(6,.one (.p 5 0))],[.box [.p 1 0,.s t,.i h0],.box [.l .i v,.l .i w,.l .i y,.l .s A,.l (.n 5) B,.l (.n 8) C,.m 2],.map .i h2,.box [.i D,.s d,.i h,.o 4],.row (.n 1) 0 h4,.box [.s E]]⟩)=Nf G n t v w y A B C h0 h2 D d h h4 E (λk F I=>K .normal ⟨[(0,.one (.p 0 0)),(4,.one (.p 3 0)),(6,.one (.p 5 0)),(7,.one (.i k))],[.box [.p 1 0,.s t,.i F],.box [.l .i v,.l .i w,.l .i y,.l .s A,.l (.n 5) B,.l (.n 8) C,.m 2],.map .i I,.box [.i D,.s d,.i h,.o 4],.row (.n 1) 0 h4,.box [.s E]]⟩):=D1
theorem s5_2(G:Gs)(n:Nat)(R:Type)(t:Z)(h0:Int)(v w y:LI)(A:LB)(B:LS)(C:LO)(h2:LM)(D:Int)(d:Z)(h:Int)(h4:LT)(E:Z)(K:Kt R):(λj:St=>dW tb (de (ents G)) an.nt an.im (fq (q5)) (fe [3,4,5] j.H) [9,10,0,1,2,3,4,5,6,7,8,11,12] [10,3,8] [] [] [9,10,0,1,2,3,4,5,6,7,8,11,12] j.L j.H j.H λL H=>jd an.refs ⟨[0,4,6,7],[4,5],[]⟩ K .normal ⟨L,H⟩) (cR (bE (St.L ⟨[(0,.one (.p 0 0)),(4,.one (.p 3 0)),(6,.one (.p 5 0))],[.box [.p 1 0,.s t,.i h0],.box [.l .i v,.l .i w,.l .i y,.l .s A,.l (.n 5) B,.l (.n 8) C,.m 2],.map .i h2,.box [.i D,.s d,.i h,.o 4],.row (.n 1) 0 h4,.box [.s E]]⟩) (St.H ⟨[(0,.one (.p 0 0)),(4,.one (.p 3 0)),(6,.one (.p 5 0))],[.box [.p 1 0,.s t,.i h0],.box [.l .i v,.l .i w,.l .i y,.l .s A,.l (.n 5) B,.l (.n 8) C,.m 2],.map .i h2,.box [.i D,.s d,.i h,.o 4],.row (.n 1) 0 h4,.box [.s E]]⟩) []) ⟨[(0,.one (.p 0 0)),(4,.one (.p 3 0)),(6,.one (.p 5 0))],[.box [.p 1 0,.s t,.i h0],.box [.l .i v,.l .i w,.l .i y,.l .s A,.l (.n 5) B,.l (.n 8) C,.m 2],.map .i h2,.box [.i D,.s d,.i h,.o 4],.row (.n 1) 0 h4,.box [.s E]]⟩)=MC G n t v w y A B C h0 h2 D d h h4 E (λk F I=>K .normal ⟨[(0,.one (.p 0 0)),(4,.one (.p 3 0)),(6,.one (.p 5 0)),(7,.one (.i k))],[.box [.p 1 0,.s t,.i F],.box [.l .i v,.l .i w,.l .i y,.l .s A,.l (.n 5) B,.l (.n 8) C,.m 2],.map .i I,.box [.i D,.s d,.i h,.o 4],.row (.n 1) 0 h4,.box [.s E]]⟩):=D1
theorem pd5{G:Gs}(L:ap (ents G)){n:Nat}:al an (q5) (dd5 G n):=by
 have hc:q5= .region 5 (fq (q5)) true:=D1
 rw[hc];refine λ[Zb]=>ju mixed kX (jp L) (o:=⟨[0,4,6,7],[4,5],[]⟩) (d:=⟨[(Te 13,[3,8,10],[]),([0,1,2,3,9,10,4,5,6,7,8,11,12],[3,10,8],[]),([9,10,0,1,2,3,4,5,6,7,8,11,12],[10,3,8],[])],[3,8,10],[],[3,4,5],[0,4,6]⟩) D1 (λp hp R st K r h=> ?_)
 have e:=h;unfold dd5 at e;split at e
 .rename_i y A B C D E F H I J j t v w;simp only[OI,O9,or_false]at hp;rcases hp with rfl|rfl|rfl
  .exact(s5_0 G n R y A B C D E F H I J j t v w K).trans h
  .exact((s5_1 G n R y A B C D E F H I J j t v w K).trans (e5_1 G n y B C D E F H A I J j t v w _)).trans h
  .exact((s5_2 G n R y A B C D E F H I J j t v w K).trans (e5_2 G n y B C D E F H A I J j t v w _)).trans h
 .cases e
theorem ok{G:Gs}(h:ap (ents G)){g:Q}(F:∀t v w y A B D C E d r,g t v w y A B D C E d=some r->∃n,aq (R:=AT×Td Ob) G n t v w y A B D C E d (λr0 H I J=>some (Ui r0 H,TT C I t v w y A B J))=some (Ui r.1 r.2.1,TT C r.2.2.1 t v w y A B r.2.2.2)):aj (ent g):=okQ λ_ _ _ _ _ _ _ _ _ _ _ _ _ hc=>Tk hc (F _ _ _ _ _ _ _ _ _ _) λn _ j=>fF h an (pc G n) Tryz.func112 j (apl [(2,5,q5),(1,11,.loop (Tj 2036 bd)),(0,19,Tj 511 bd)] ⟨pd5 h,⟨Tf h n (F0 G n) rfl (pc G n) ⟨[0,4,9,10],[4,5],[(0,[0,4,9,10])]⟩,⟨Tg h (FU G n) rfl (pc G n) ⟨[],[4,5],[]⟩,Th⟩⟩⟩)
end z1z
namespace z0r
structure Gs where
 z1o:z1o.Q
 z1z:z1z.Q
 z1y:z1y.Q
 z1d:z1d.Q
def ents(G:Gs):Td Ent:=[z1o.ent G.z1o,z1z.ent G.z1z,z1y.ent G.z1y,z1d.ent G.z1d]
def aq{R:Type}(G:Gs)(n:Nat)(s:Sg)(text:Z)(K:Tm->Bool->Y R):Y R:=(G.z1o s).bind λr=>rV r (K (Tm.mk 0 ByteArray.empty 0 []) false) (λq=>bif decide (2000<(ByteArray.size text:Int))then(K (Tm.mk 0 ByteArray.empty 0 []) false)else(G.z1z q.1 q.2.1 q.2.2.1 q.2.2.2.1 q.2.2.2.2.1 q.2.2.2.2.2.1 q.2.2.2.2.2.2 text 0 1).bind λd=>(G.z1y q.1 q.2.1 q.2.2.1 q.2.2.2.1 q.2.2.2.2.1 q.2.2.2.2.2.1 d.2.2.2 text d.2.2.1).bind λj=>bif !d.2.1 then(K (Tm.mk 0 ByteArray.empty 0 []) false)else bif !decide (j.1=(ByteArray.size text:Int))then(K (Tm.mk 0 ByteArray.empty 0 []) false)else(G.z1d (Tm.mk d.1.op d.1.ah d.1.am d.1.ae)).bind λh=>K (Tm.mk h.op h.ah h.am h.ae) true)
def pc(_:Gs)(_:Nat):Pcs:=⟨nK,nK,nK⟩
def an:Ann:=⟨43,0,[],[],[4,5],[],[]⟩
abbrev bd:=aK Tryz.f77
theorem ok{G:Gs}(d:ap (ents G)){g:Q}(h:∀s text r,g s text=some r->∃n,aq G n s text Vr=Vr r.1 r.2):aj (ent g):=okQ λ_ _ _ _ _ _ _ hc=>Tk hc (h _ _) λn _ j=>fF d an (pc G n) Tryz.func77 j
end z0r
end
end
section
open Classical
def skF(c:Int->Bool)(l:Td Int):Nat->Nat->Nat
 |0,p=>p
 | f+1,p=>match l[p]? with
  |some x=>if c x=true then skF c l f (p+1)else p
  |none=>p
def skip(c:Int->Bool)(l:Td Int)(p:Nat):Nat:=skF c l (l.length-p) p
theorem Gi(c:Int->Bool)(l:Td Int):∀f p,p<=skF c l f p
 |0,_=>O3 _
 | f+1,p=>by
  unfold skF;split
  .split
   .have:=Gi c l f (p+1);omega
   .omega
  .omega
theorem FC(c:Int->Bool)(l:Td Int):∀f p,p<=l.length->skF c l f p<=l.length
 |0,_,h=>h
 | f+1,p,h=>by
  unfold skF;split
  .rename_i x d;have:=(gI.1 d).1;split
   .exact FC c l f (p+1) this
   .exact h
  .exact h
section
variable {c:Int->Bool}{l:Td Int}{p:Nat}{x a:Int}{R:Type}{t:Z}
theorem Ck:p<=skip c l p:=Gi _ _ _ _
theorem Bu(h:p<=l.length):skip c l p<=l.length:=FC _ _ _ _ h
theorem pD(h:l[p]? =some x):skip c l p=if c x=true then skip c l (p+1)else p:=by
 have d:=(gI.1 h).1;unfold skip;obtain⟨f,j⟩:∃f,l.length-p=f+1:=⟨l.length-p-1,A0⟩;rw[j]
 conv=>lhs;unfold skF
 rw[h];simp only;rw[(A0:l.length-(p+1)=f)]
theorem ss(h:l.length<=p):skip c l p=p:=by
 unfold skip;rw[(A0:l.length-p=0)];rfl
theorem xH(c:Int->Bool)(l:Td Int):∀f p x,l.length-p<=f->l[skF c l f p]? =some x->c x=false
 | 0,p,x,h,d=>by
  have:=(gI.1 d).1;have:p<l.length:=this;omega
 | f+1,p,x,h,d=>by
  unfold skF at d;split at d
  .rename_i y j;split at d
   .exact xH c l f (p+1) x A0 d
   .grind
  .grind
theorem C4(h:l[skip c l p]? =some x):c x=false:=xH c l _ p x (O3 _) h
theorem Ep:skip c l (skip c l p)=skip c l p:=by
 by_cases h:skip c l p<l.length
 .obtain⟨x,d,_⟩:=bo h;rw[pD d,C4 d];rfl
 .exact ss A0
theorem pR{R:Type}(c:Int->Bool)(l:Td Int)(hl:l.length<=4294967295)(B:Int->(Int->Y R)->Y R)(t:Int->Y R)(h1:∀(p:Nat) x d,l[p]? =some x->B p d=bif c x then d ((p+1:Nat):Int)else t p)(h2:∀(p:Nat) d,p=l.length->B p d=t p):∀m (p:Nat),p<=l.length->l.length-p<m->aY (λ(v:Int) d=>B v (λj=>d j)) m (p:Int)=t (skip c l p)
 |0,p,_,hm=>absurd hm (OM _)
 | m+1,p,hp,hm=>by
  show B p (λj=>aY (λ(v:Int) d=>B v (λj=>d j)) m j)=_;by_cases h:p<l.length
  .obtain⟨x,w,_⟩:=bo h;rw[h1 p x _ w,pD w];cases hc:c x with
   | true=>
    rw[cT,mt rfl];exact pR c l hl B t h1 h2 m (p+1) h A0
   |false=>rw[cF,O2 A3]
  .rw[h2 p _ A0,ss A0]
abbrev EN(c:Int):Bool:=decide (c=32)
theorem wM(h:(ofS t)[p]? =some x):sIx t (p:Int)=some x:=by rw[rr,aW h]
theorem EL(h:(ofS t)[p]? =some x):decide ((p:Int)<(t.size:Int))=true:=by
 have:=(gI.1 h).1;rw[ce]at this;exact dT A0
theorem G7(h:p<4294967296):wr ((p:Int)+1)=((p+1:Nat):Int):=bw h
def atP(t:Z)(a:Int):Prop:=t.size<=2000/\0<=a/\a<=t.size
def spA(t:Z)(a:Int):Int:=(skip EN (ofS t) a.toNat:Nat)
noncomputable def pV:Td Int->Td Int->Td Int->Td Z->Td Sb->Td Opr->Mp->Z->Int->Y (Int×Mp):=λ_ _ _ _ _ _ m t a=>if atP t a then some (spA t a,m)else none
theorem pJ:aj (z1y.ent pV):=z1y.ok (G:=⟨()⟩) trivial λab be kd nm sb ops m t a r h=>by
 unfold pV at h;split at h
 .rename_i hs;cases h;obtain⟨h1,h2,y⟩:=hs;have hl:=ce t;obtain⟨p,rfl⟩:=Po h2;refine⟨(ofS t).length+1,?_⟩;unfold z1y.aq
  have key:=λw=>pR (R:=AT×Td Ob) EN (ofS t) A0 (λv d=>z1y.b0 ⟨()⟩ ((ofS t).length+1) t ab be kd nm sb ops m v d w) w (by
   intro q x d j;unfold z1y.b0;rw[EL j,cT,wM j,bS,G7 (by have:=(gI.1 j).1;omega)]) (by
   intro q d A;unfold z1y.b0;rw[dF A0,cF]) ((ofS t).length+1) p A0 A0
  exact(key _).trans rfl
 .cases h
def tkF(t:Z)(a:Int)(c:Int):Bool×Int:=if (ofS t)[(spA t a).toNat]? =some c then (true,spA t a+1)else (false,spA t a)
theorem lA(h:atP t a):a<=spA t a/\spA t a<=t.size:=by
 obtain⟨h1,h2,d⟩:=h;have hl:=ce t;unfold spA;have:=Ck (c:=EN) (l:=ofS t) (p:=a.toNat);have:=Bu (c:=EN) (l:=ofS t) (p:=a.toNat) A0;omega
theorem nH(h:atP t a)(c:Int):a<=(tkF t a c).2/\(tkF t a c).2<=t.size/\((tkF t a c).1=true->a<(tkF t a c).2):=by
 have hs:=lA h;have h2:=h.2.1;unfold tkF;split
 .rename_i d;have:=(gI.1 d).1;rw[ce]at this;refine⟨D2,D2,λ_=>D2⟩
 .grind
theorem jP(h:atP t a)(c:Int):atP t (tkF t a c).2:=⟨h.1,by have:=nH h c;have:=h.2.1;omega,(nH h c).2.1⟩
noncomputable def th:Td Int->Td Int->Td Int->Td Z->Td Sb->Td Opr->Mp->Z->Int->Int->Y (Bool×Int×Mp):=λ_ _ _ _ _ _ m t a c=>if atP t a then some ((tkF t a c).1,(tkF t a c).2,m)else none
theorem Ga{c:Int}(h:atP t a)(K:Bool->Int->Y R):(bif decide (spA t a<(t.size:Int))then (Option.bind (sIx t (spA t a)) λb2=>bif decide (b2=c)then (K true (wr (spA t a+1)))else K false (spA t a))else K false (spA t a))=K (tkF t a c).1 (tkF t a c).2:=by
 have hs:=lA h;have h1:=h.1;have h2:=h.2.1;have hl:=ce t;obtain⟨p,hp⟩:=Po (A0:0<=spA t a);unfold tkF;rw[hp]at hs ⊢;by_cases j:p<t.size
 .obtain⟨x,d,_⟩:=bo (xs:=ofS t) (i:=p) A0;rw[dT A0,cT,wM d,bS,P7,d];by_cases hc:x=c
  .rw[dT hc,cT,hc,mt rfl,aX A0]
  .grind
 .grind
theorem HJ{ab be kd:Td Int}{nm:Td Z}{sb:Td Sb}{ops:Td Opr}{m:Mp}{c:Int}(hs:atP t a)(K:Bool->Int->Mp->Y R):z1w.aq ⟨pV⟩ 1 ab be kd nm sb ops m t a c K=K (tkF t a c).1 (tkF t a c).2 m:=by
 unfold z1w.aq;have e:pV ab be kd nm sb ops m t a=some (spA t a,m):=mt hs;show Option.bind (pV ab be kd nm sb ops m t a) _=_;rw[e,bS];exact Ga hs (λb q=>K b q m)
theorem NM:aj (z1w.ent th):=z1w.ok (G:=⟨pV⟩) ⟨pJ,trivial⟩ λab be kd nm sb ops m t a c r h=>by
 unfold th at h;split at h
 .rename_i hs;cases h;exact⟨1,(HJ hs _).trans rfl⟩
 .cases h
def nmE(t:Z)(a:Int):Int:=(skip cN (ofS t) (spA t a).toNat:Nat)
def nmF(t:Z)(a:Int):Z×Int:=(t.extract (spA t a).toNat (nmE t a).toNat,nmE t a)
theorem wT(h:atP t a):spA t a<=nmE t a/\nmE t a<=t.size:=by
 have hs:=lA h;have hl:=ce t;have h2:=h.2.1;unfold nmE;have:=Ck (c:=cN) (l:=ofS t) (p:=(spA t a).toNat);have:=Bu (c:=cN) (l:=ofS t) (p:=(spA t a).toNat) A0;omega
theorem wu(h:atP t a):atP t (nmF t a).2:=⟨h.1,by have:=lA h;have:=wT h;have:=h.2.1;show 0<=nmE t a;omega,(wT h).2⟩
theorem GX(h:atP t a):a<=(nmF t a).2:=by have:=lA h;have:=wT h;show a<=nmE t a;omega
noncomputable def Aj:Td Int->Td Int->Td Int->Td Z->Td Sb->Td Opr->Mp->Z->Int->Y (Z×Int×Mp):=λ_ _ _ _ _ _ m t a=>if atP t a then some ((nmF t a).1,(nmF t a).2,m)else none
theorem KU{lo hi:Int}(h0:0<=lo)(h1:lo<=hi)(h2:hi<=t.size):Ac t lo hi=some (t.extract lo.toNat hi.toNat):=by
 unfold Ac;rw[dT h0,dT h1,dT h2];rfl
theorem my(a b:Z):ofS (a++b)=ofS a++ofS b:=by
 unfold ofS;rw[ByteArray.data_append];simp
theorem KL:aj (z1x.ent Aj):=z1x.ok (G:=⟨pV,λc=>some (cN c)⟩) ⟨pJ,qr,trivial⟩ λab be kd nm sb ops m t a r h=>by
 unfold Aj at h;split at h
 .rename_i hs;cases h;have A:=lA hs;have h1:=hs.1;have h2:=hs.2.1;have hl:=ce t;have d:=wT hs;obtain⟨p,hp⟩:=Po (A0:0<=spA t a);refine⟨(ofS t).length+1,?_⟩;unfold z1x.aq;have e:pV ab be kd nm sb ops m t a=some (spA t a,m):=mt hs;show Option.bind (pV ab be kd nm sb ops m t a) _=_;rw[e,bS]
  have key:=λy=>pR (R:=AT×Td Ob) cN (ofS t) A0 (λv j=>z1x.b3 ⟨pV,λc=>some (cN c)⟩ ((ofS t).length+1) t ab be kd nm sb ops (spA t a) m v j y) y (by
   intro q x j w;have B:=(gI.1 w).1;unfold z1x.b3;rw[EL w,cT,wM w,bS,bS,G7 A0]) (by
   intro q j B;unfold z1x.b3;rw[dF A0,cF]) ((ofS t).length+1) p A0 A0
  simp only;rw[hp]at key d ⊢;refine(key _).trans ?_;have e3:((skip cN (ofS t) p:Nat):Int)=nmE t a:=by unfold nmE;rw[hp];rfl
  rw[e3,KU A0 d.1 d.2,bS];unfold nmF;rw[hp]
 .cases h
end
def kE{α:Type}(p:α->Bool):Td α->Nat->Int
 |[],_=> -1
 |x::xs,i=>if p x=true then (i:Int)else kE p xs (i+1)
theorem vE{α:Type}(p:α->Bool):∀(l:Td α)(i:Nat),kE p l i= -1\/∃k x,kE p l i=((i+k:Nat):Int)/\l[k]? =some x/\p x=true
 |[],_=>.inl rfl
 | x::xs,i=>by
  unfold kE;by_cases h:p x=true
  .rw[mt h];exact .inr ⟨0,x,rfl,rfl,h⟩
  .rw[O2 h];rcases vE p xs (i+1)with h2|⟨k,y,h2,d,h4⟩
   .exact .inl h2
   .exact .inr ⟨k+1,y,by rw[h2];congr 1;omega,d,h4⟩
theorem jW{α R:Type}(l:Td α)(p:α->Bool)(B:Int->(Int->Y R)->Y R)(t:Int->Y R)(h1:∀(i:Nat) x d,l[i]? =some x->B i d=bif p x then t i else d ((i+1:Nat):Int))(h2:∀d,B l.length d=t (-1)):∀m (i:Nat),i<=l.length->l.length-i<m->aY (λ(v:Int) d=>B v (λj=>d j)) m (i:Int)=t (kE p (l.drop i) i)
 |0,i,_,hm=>absurd hm (OM _)
 | m+1,i,hi,hm=>by
  show B i (λj=>aY (λ(v:Int) d=>B v (λj=>d j)) m j)=_;by_cases h:i<l.length
  .obtain⟨x,w,_⟩:=bo h;rw[h1 i x _ w,bm w];unfold kE;cases hp:p x with
   |true=>rfl
   | false=>
    rw[cF,O2 A3];exact jW l p B t h1 h2 m (i+1) h A0
  .obtain rfl:i=l.length:=A0
   rw[h2,ck];rfl
def fdN(l:Td Z)(x:Z):Int:=kE (λy=>sEq y x) l 0
def fdO(l:Td Opr)(x:Z):Int:=kE (λo=>sEq o.ah x) l 0
theorem zn(a b:Z):sEq a b=sEq b a:=decide_eq_decide.2 ⟨λh=>h.symm,λh=>h.symm⟩
abbrev nV:Td Z->Z->Y Int:=λl x=>if l.length<=16 then some (fdN l x)else none
abbrev tQ:Td Opr->Z->Y Int:=λl x=>if l.length<=14 then some (fdO l x)else none
theorem sI:aj (z4y.ent nV):=z4y.ok (G:=⟨()⟩) trivial λ(l:Td Z) x r h=>by
 unfold nV at h;split at h
 .rename_i hs;cases h;refine⟨l.length+1,?_⟩;unfold z4y.aq;have key:=λd=>jW (R:=AT×Td Ob) l (λy=>sEq y x) (λv j=>z4y.b2 ⟨()⟩ (l.length+1) l x (l.length:Int) v j d (d (-1))) d (by
   intro i y j t;have hi:=(gI.1 t).1;unfold z4y.b2;rw[bt hi,cT,aW t,bS,bw A0,zn]) (by
   intro j;unfold z4y.b2;rw[bh A0,cF]) (l.length+1) 0 A0 A0
  exact(key _).trans rfl
 .cases h
theorem An:aj (z23.ent λo x=>some (sEq o.ah x)):=z23.ok (G:=⟨()⟩) trivial λo x r h=>⟨1,QU⟩
theorem wG:aj (z4u.ent tQ):=z4u.ok (G:=⟨λo x=>some (sEq o.ah x)⟩) ⟨An,trivial⟩ λ(l:Td Opr) x r h=>by
 unfold tQ at h;split at h
 .rename_i hs;cases h;refine⟨l.length+1,?_⟩;unfold z4u.aq;have key:=λd=>jW (R:=AT×Td Ob) l (λo=>sEq o.ah x) (λv j=>z4u.b2 ⟨λo x=>some (sEq o.ah x)⟩ (l.length+1) x l (l.length:Int) v j d (d (-1))) d (by
   intro i y j t;have hi:=(gI.1 t).1;unfold z4u.b2;rw[bt hi,cT,aW t,bS,bw A0];rfl) (by
   intro j;unfold z4u.b2;rw[bh A0,cF]) (l.length+1) 0 A0 A0
  exact(key _).trans rfl
 .cases h
theorem uu{N:Nat}{d:Td Int}:∀{ops:Td Opr}{seen:Td Z},zt N d seen ops=true->(∀o∈ops,cY o.ah=true/\∀y∈seen,y≠o.ah)/\ops.Pairwise (λa b=>a.ah≠b.ah)
 |[],_,_=>⟨λo h=>F1,.nil⟩
 | o::rest,seen,h=>by
  unfold zt at h;simp only[bA,Pj]at h;obtain⟨h1,_,j,h4⟩:=h;obtain⟨B,t⟩:=uu h4;have v:∀y∈seen,y≠o.ah:=λy w e=>by
   have:=List.any_eq_false.1 j y w;exact this (dT e)
  refine⟨λq A=> ?_,List.pairwise_cons.2 ⟨λq A=> ?_,t⟩⟩
  .grind
  .grind
theorem ja{s:Sg}(h:bD s=true):(∀o∈s.ops,cY o.ah=true)/\s.ops.Pairwise (λa b=>a.ah≠b.ah):=by
 unfold bD at h;simp only[bA]at h;obtain⟨h1,h2⟩:=uu h.2.2.1;exact⟨λo ho=>(h1 o ho).1,h2⟩
theorem HQ{ops:Td Opr}{x:Z}(h:¬fdO ops x<0):∃o,ix ops (fdO ops x)=some o/\o.ah=x:=by
 rcases vE (λo:Opr=>sEq o.ah x) ops 0 with h1|⟨k,o,h1,h2,d⟩
 .exact absurd (by unfold fdO;rw[h1];decide) h
 .refine⟨o,?_,ON d⟩;unfold fdO;rw[h1,Pp];exact aW h2
def rM(s:Sg)(op:Int)(ae:Td Tm):Y Tm:=(ix s.ops op).bind λo=>dH s o op ae
def dt(t:Z)(rd:Int->Tm×Bool×Int):Nat->Bool->Int->Td Tm->Bool×Int×Td Tm
 |0,_,a,acc=>(false,a,acc)
 |f+1,op,a,acc=>if op=true then (if (rd a).2.1=true then dt t rd f (tkF t (rd a).2.2 44).1 (tkF t (rd a).2.2 44).2 (acc++[(rd a).1])else (false,(rd a).2.2,[]))else (true,a,acc)
def rm(s:Sg)(op a:Int)(ae:Td Tm):Tm×Bool×Int:=((rM s op ae).getD Zt,(rM s op ae).isSome,a)
def qN(s:Sg)(t:Z)(op:Int)(r:Bool×Int×Td Tm):Tm×Bool×Int:=if r.1=true then (if op<0 then (Zt,false,r.2.1)else if r.2.2.length=0 then rm s op r.2.1 r.2.2 else if (tkF t r.2.1 41).1=true then rm s op (tkF t r.2.1 41).2 r.2.2 else (Zt,false,(tkF t r.2.1 41).2))else (Zt,false,r.2.1)
def Nh(s:Sg)(t:Z)(ah:Z)(a:Int):Tm×Bool×Int:=(Tm.mk (-1) ah (fdN s.ai.ak (nmF t a).1) [],cY ah&&inN (nS s) (fdN s.ai.ak (nmF t a).1),(nmF t a).2)
def bN(s:Sg)(t:Z):Nat->Int->Tm×Bool×Int
 |0,a=>(Zt,false,a)
 | e+1,a=>if (tkF t (nmF t a).2 58).1=true then Nh s t (nmF t a).1 (tkF t (nmF t a).2 58).2
  else qN s t (fdO s.ops (nmF t a).1) (dt t (bN s t e) (t.size+3) (tkF t (tkF t (nmF t a).2 58).2 40).1 (tkF t (tkF t (nmF t a).2 58).2 40).2 [])
def Sm(s:Sg)(t:Tm):Prop:=Good s t/\tsz t<=60
section
variable {t:Tm}{s:Sg}{o:Opr}{op a:Int}
theorem vM{x:Tm}(h:x∈t.ae):tsz x<tsz t:=by
 rw[dY t];have:=Mc (f:=tsz) h;unfold wS at*;omega
theorem Sm.ae(h:Sm s t):∀x∈t.ae,Sm s x:=λx d=>⟨h.1.ae x d,by have:=vM d;have:=h.2;omega⟩
theorem fH{x:Z}(h:cY x=true):x.size<=12:=by
 unfold cY at h;simp only[bA,O8]at h;exact h.2.1
theorem Good.az:∀(k:Nat)(t:Tm),t.az<k->Good s t->t.az+1<=13*tsz t
 |0,_,h,_=>absurd h (OM _)
 | k+1,t,hk,d=>by
  rw[dY];have B:=bu t;have hs:t.ah.size<=12:=by
   cases d with
   |var _ _ v=>exact fH v
   |app _ _ _=>exact P6 _
  have:∀l:Td Tm,(∀x∈l,x.az+1<=13*tsz x)->aF l<=13*wS tsz l:=λl=>by
   induction l with
   |nil=>intro _;exact P6 _
   | cons x l w=>
    intro hl;rw[hZ,d9];have:=hl x A1;have:=w λy A=>hl y RT;omega
  have:=this t.ae λx j=>Good.az k x QV (d.ae x j);omega
theorem Sm.az(h:Sm s t):t.az<=780:=by
 have:=h.1.az _ t (OX _);have:=h.2;omega
theorem p9{s:Sg}:∀{l:Td Tm},(∀x∈l,Sm s x)->aF l<=781*l.length
 |[],_=>by rw[ie];omega
 | x::l,h=>by
  rw[d9,OP];have:=(h x A1).az;have:=p9 (l:=l) λy d=>h y I1;omega
theorem yX{P:Tm->Prop}(v:∀x,P x->∀a∈x.ae,P a){s:Sg}{o:Opr}{op:Int}:∀{xs:Td Tm}{i:Int}{acc l:Td Tm},dV s o op i xs acc=some l->(∀x∈acc,P x)->(∀x∈xs,P x)->∀x∈l,P x
 |[],_,_,_,h,j,_=>by cases h;exact j
 | x::xs,i,acc,l,h,j,t=>by
  unfold dV at h;split at h
  .refine yX v h (λy d=> ?_) (λy d=>t y I1);unfold hJ at d;have w:=t x A1;split at d
   .grind
   .grind
  .cases h
theorem vF{s:Sg}{o:Opr}{op:Int}(ho:ix s.ops op=some o)(A:o.aO=0):∀{xs:Td Tm}{i:Int}{acc l:Td Tm},dV s o op i xs acc=some l->(∀x∈xs,Good s x)->acc.length+xs.length<=l.length
 |[],_,_,_,h,_=>by cases h;simp
 | x :: xs,i,acc,l,h,B=>by
  unfold dV at h;split at h
  .have h2:=vF ho A h λy C=>B y (by simp[C]);have:acc.length+1<=(hJ o op acc x).length:=by
    unfold hJ;split
    .rename_i hc;obtain⟨t,d⟩:=hc;have D:=B x A1;have v:x.op≠ -1:=by
      rw[d];have:=(bZ ho).2.1;omega
     cases D with
     |var _ _ _=>exact absurd rfl v
     | @app w o' ae j E _=>
      have d:w=op:=d;subst d;rw[ho]at j;cases j;rw[mt t]at E;show _<=(acc++ae).length;simp only[OJ];omega
    .unfold kR;rw[dT A];simp
   simp only[OP];omega
  .cases h
theorem AN{l:Td Tm}:(iI o op l).ae.length=l.length/\∀x,x∈(iI o op l).ae↔x∈l:=by
 unfold iI;show (if o.comm=true then sortT l else l).length=l.length/\∀x,x∈(if o.comm=true then sortT l else l)↔x∈l;split
 .exact⟨i9 l,λx=>pE⟩
 .grind
theorem yM(hS:bD s=true)(ho:ix s.ops op=some o){ae:Td Tm}(v:∀x∈ae,Sm s x)(h:dH s o op ae=some t):Sm s t:=by
 have hk:=jL hS (bZ ho).1;unfold dH at h;split at h
 .rename_i j;obtain⟨l,w,h⟩:=Option.bind_eq_some_iff.1 h;have hl:∀x∈l,Sm s x:=yX (P:=Sm s) (λx d=>d.ae) w (λx d=>QR) v;split at h
  .rename_i y;cases h;unfold Nk;split
   .grind
   .obtain⟨u,u1,u2⟩:=hk.un y.1;obtain⟨u3,u4⟩:=um hS hk y.1 u1;refine⟨?_,by rw[dY];show 1+wS tsz []<=60;exact A3⟩;exact .app u1 (by rw[u4,O2 A3,u3];rfl) (λa v=>by simp at v)
  .rename_i y;unfold kC at h;split at h
   .cases h
   .rename_i hs;cases h;obtain⟨e1,e2⟩:=AN (o:=o) (op:=op) (l:=l);refine⟨?_,A0⟩;have bF:if o.aE=true then 2<=l.length else l.length=(first o).ae.length:=by
     unfold gp at j;cases hc:o.aE with
     | true=>
      rw[hc,mt rfl]at j;rw[mt rfl];by_cases h0:o.aO=0
      .have:=vF ho h0 w λx d=>(v x d).1;simp only[Qy]at this;omega
      .omega
     | false=>
      rw[hc,O2 A3]at j;rw[O2 A3];have h1:=pF hc w;simp only[Qy]at h1;by_cases h0:o.aO=0
      .have:=vF ho h0 w λx d=>(v x d).1;simp only[Qy]at this;omega
      .have:=hk.two (.inr (.inr h0));omega
    exact .app ho (by rw[show (if o.comm=true then sortT l else l).length=l.length from e1];exact bF) λx d=>(hl x ((e2 x).1 d)).1
 .cases h
theorem K5(hS:bD s=true){ae:Td Tm}(d:∀x∈ae,Sm s x)(h:rM s op ae=some t):Sm s t:=by
 obtain⟨o,ho,h⟩:=Option.bind_eq_some_iff.1 h;exact yM hS ho d h
def RdI(s:Sg)(t:Z)(rd:Int->Tm×Bool×Int):Prop:=∀a,atP t a->atP t (rd a).2.2/\a<=(rd a).2.2/\((rd a).2.1=true->Sm s (rd a).1)
theorem sC{s:Sg}{t:Z}{rd:Int->Tm×Bool×Int}(d:RdI s t rd):∀f op a acc,atP t a->(∀x∈acc,Sm s x)->atP t (dt t rd f op a acc).2.1/\a<=(dt t rd f op a acc).2.1/\((dt t rd f op a acc).1=true->(∀x∈(dt t rd f op a acc).2.2,Sm s x)/\(dt t rd f op a acc).2.2.length<=acc.length+f)
 |0,_,a,acc,h,_=>⟨h,Q1 _,λh=>HC⟩
 | f+1,op,a,acc,h,v=>by
  obtain⟨j,w,y⟩:=d a h;have hk:=nH j 44;unfold dt;by_cases ho:op=true
  .rw[mt ho];by_cases hc:(rd a).2.1=true
   .rw[mt hc];obtain⟨q1,q2,q3⟩:=sC d f (tkF t (rd a).2.2 44).1 (tkF t (rd a).2.2 44).2 (acc++[(rd a).1]) (jP j 44) λx A=>G1
    refine⟨q1,A0,λq=>⟨(q3 q).1,?_⟩⟩;have:=(q3 q).2;simp only[OJ,PP]at this;omega
   .grind
  .grind
theorem CU(hS:bD s=true){ae:Td Tm}(j:∀x∈ae,Sm s x):(rm s op a ae).2.1=true->Sm s (rm s op a ae).1:=by
 unfold rm;intro h;simp only at h ⊢;cases d:rM s op ae with
 |none=>rw[d]at h;cases h
 |some t=>exact K5 hS j d
theorem KB(hS:bD s=true){t:Z}{r:Bool×Int×Td Tm}(h1:atP t r.2.1)(h2:a<=r.2.1)(d:r.1=true->∀x∈r.2.2,Sm s x):atP t (qN s t op r).2.2/\a<=(qN s t op r).2.2/\((qN s t op r).2.1=true->Sm s (qN s t op r).1):=by
 have hk:=nH h1 41;unfold qN;split
 .rename_i j;split
  .grind
  .split
   .exact⟨h1,h2,CU hS (d j)⟩
   .split
    .exact⟨jP h1 41,by show a<=(tkF t r.2.1 41).2;omega,CU hS (d j)⟩
    .exact⟨jP h1 41,by show a<=(tkF t r.2.1 41).2;omega,λh=>HC⟩
 .grind
theorem lZ{s:Sg}(hS:bD s=true)(t:Z):∀e,RdI s t (bN s t e)
 |0=>λa h=>⟨h,Q1 _,λh=>HC⟩
 | e+1=>fun a h=>by
  have d:=wu h;have D:=GX h;have c1:=jP d 58;have c2:=(nH d 58).1;unfold bN;split
  .have j:=wu c1;have E:=GX c1;refine⟨j,by show a<=(nmF t (tkF t (nmF t a).2 58).2).2;omega,λh=> ?_⟩;unfold Nh at h ⊢;simp only[bA]at h;obtain⟨v,h4⟩:=h;obtain⟨w,y⟩:=kG.1 h4;exact⟨.var w y v,by rw[dY];show 1+wS tsz []<=60;exact A3⟩
  .have A:=jP c1 40;have F:=(nH c1 40).1;obtain⟨q1,q2,q3⟩:=sC (lZ hS t e) (t.size+3) (tkF t (tkF t (nmF t a).2 58).2 40).1 (tkF t (tkF t (nmF t a).2 58).2 40).2 [] A λx B=>by simp at B
   exact KB hS q1 A0 λC=>(q3 C).1
end
end
abbrev gg:Z:=⟨#[115,111,114,116]⟩
abbrev lm:Z:=⟨#[115,117,98]⟩
abbrev wOp:Z:=⟨#[111,112]⟩
abbrev gl:Z:=⟨#[58]⟩
abbrev iH:Z:=⟨#[45,62]⟩
abbrev JO:Z:=⟨#[97,115,115,111,99]⟩
abbrev Jp:Z:=⟨#[99,111,109,109]⟩
abbrev Lq:Z:=⟨#[117,110,105,116]⟩
def tlF(tl:Td Z):Z×Td Z:=match tl[tl.length-2]?,tl[tl.length-1]? with
 |some a,some b=>if 2<=tl.length/\a=Lq then (b,tl.take (tl.length-2))else (⟨#[]⟩,tl)
 |_,_=>(⟨#[]⟩,tl)
def rdF(s:Sg)(us j:Td Z):Y (Sg×Td Z):=match j with
 |[a,b]=>if a=gg then some (⟨⟨s.ai.ak++[b],s.ai.aA⟩,s.ops⟩,us)else none
 |[a,b,c]=>if a=lm/\s.ai.ak≠[]then some (⟨⟨s.ai.ak,s.ai.aA++[⟨fdN s.ai.ak b,fdN s.ai.ak c⟩]⟩,s.ops⟩,us)else none
 | a :: nm::h::r=>match r[(fdN r iH).toNat+1]? with
  | some x=>if a=wOp/\h=gl/\nm≠iH/\0<=fdN r iH/\s.ai.ak≠[]then
    let d:Dc:=⟨(r.take (fdN r iH).toNat).map (fdN s.ai.ak),fdN s.ai.ak x⟩
    let tl:=r.drop ((fdN r iH).toNat+2)
    match s.ops.getLast? with
    | some o=>if o.ah=nm/\tl=[]then (match o.aJ with
      |[t]=>some (⟨s.ai,s.ops.dropLast++[⟨o.ah,[t,d],o.aE,o.comm,o.aO⟩]⟩,us)
      |_=>none)
     else some (⟨s.ai,s.ops++[⟨nm,[d],decide (0<=fdN (tlF tl).2 JO),decide (0<=fdN (tlF tl).2 Jp),0⟩]⟩,us++[(tlF tl).1])
    |none=>some (⟨s.ai,s.ops++[⟨nm,[d],decide (0<=fdN (tlF tl).2 JO),decide (0<=fdN (tlF tl).2 Jp),0⟩]⟩,us++[(tlF tl).1])
   else none
  |none=>none
 |_=>none
def mN:Td (Td Z)->Sg->Td Z->Y (Sg×Td Z)
 |[],s,us=>some (s,us)
 |w::l,s,us=>if w.length<=16/\s.ai.ak.length<=16/\s.ops.length<=16/\s.ai.aA.length<=1000/\us.length<=1000 then (rdF s us w).bind λr=>mN l r.1 r.2 else none
def unF(ops:Td Opr):Nat->Td Z->Td Opr->Td Opr
 |_,[],r=>r
 | i,u::us,r=>unF ops (i+1) us (if u=⟨#[]⟩then r else match r[i]? with
  |some o=>r.set i ⟨o.ah,o.aJ,o.aE,o.comm,fdO r u+1⟩
  |none=>r)
def dlF(s:Sg):Td Z:=
 let nm:=λi:Int=>s.ai.ak.getD i.toNat ⟨#[]⟩
 s.ai.ak.map (λx=>⟨#[115,111,114,116,32]⟩++x)++s.ai.aA.map (λp=>⟨#[115,117,98,32]⟩++nm p.low++⟨#[32]⟩++nm p.cK)++
 (s.ops.map fun o=>o.aJ.mapIdx fun i d=>(d.ae.foldl (fun l k=>l++⟨#[32]⟩++nm k) (⟨#[111,112,32]⟩++o.ah++⟨#[32,58]⟩))++⟨#[32,45,62,32]⟩++nm d.result++
  (if i=0 then (if o.aE then⟨#[32,97,115,115,111,99]⟩else⟨#[]⟩)++(if o.comm then⟨#[32,99,111,109,109]⟩else⟨#[]⟩)++(if o.aO=0 then⟨#[]⟩else⟨#[32,117,110,105,116,32]⟩++(match s.ops[(o.aO-1).toNat]? with
   |some u=>u.ah
   |none=>⟨#[]⟩))else⟨#[]⟩)).flatten
deriving instance DecidableEq for Sb,Dc,Opr,So,Sg
def z0:Sg:=⟨⟨[],[]⟩,[]⟩
section
open Classical
section
variable {t:Z}{rd:Int->Tm×Bool×Int}{f:Nat}{a:Int}{acc:Td Tm}
theorem IW:dt t rd (f+1) false a acc=(true,a,acc):=by unfold dt;rw[O2 A3]
theorem Kx(h:(rd a).2.1=true):dt t rd (f+1) true a acc=dt t rd f (tkF t (rd a).2.2 44).1 (tkF t (rd a).2.2 44).2 (acc++[(rd a).1]):=by
 conv=>lhs;unfold dt
 rw[mt rfl,mt h]
theorem Jj(h:(rd a).2.1=false):dt t rd (f+1) true a acc=(false,(rd a).2.2,[]):=by
 conv=>lhs;unfold dt
 rw[mt rfl,O2 S0]
noncomputable abbrev GT(g:Td Int->Td Int->Td Int->Td Z->Td Sb->Td Opr->Mp->Z->Int->Int->Y (Tm×Bool×Int×Mp)):z1z.Gs:={z1x:=Aj,z1w:=th,z4y:=nV,z15:=vW,z4u:=tQ,z1z:=g,z0y:=qd}
noncomputable def gTm:Nat->Td Int->Td Int->Td Int->Td Z->Td Sb->Td Opr->Mp->Z->Int->Int->Y (Tm×Bool×Int×Mp):=λk ab _ kd nm sb ops m t a d=>if Alg kd nm sb ops/\ab.length=nm.length/\atP t a/\0<=d/\d<=21/\(21-d).toNat<k then some ((bN ⟨⟨nm,sb⟩,ops⟩ t (21-d).toNat a).1,(bN ⟨⟨nm,sb⟩,ops⟩ t (21-d).toNat a).2.1,(bN ⟨⟨nm,sb⟩,ops⟩ t (21-d).toNat a).2.2,m)else none
end
section
variable {R : Type} {kd ab be : Td Int} {nm : Td Z} {sb : Td Sb} {ops : Td Opr} (hA : Alg kd nm sb ops) (hab : ab.length = nm.length) {k : Nat} {d : Int} (hd : 0 ≤ d ∧ d ≤ 20) (hk : (20 - d).toNat < k)
include hA hab hd hk
theorem JZ(n:Nat)(t:Z)(m:Mp)(op y j:Int)(v:Z)(h4:Td Tm)(w:Bool->Int->Mp->Int->Z->Int->Td Tm->Y R)(k1:Int->Mp->Td Tm->Y R):∀f o a acc,atP t a->(t.size-a).toNat+(if o=true then 2 else 1)<=f->acc.length+f<=5000->
  z1z.l11 (GT (gTm k)) n f t ab be kd nm sb ops d op y v j h4 o a m acc w k1=if (dt t (bN ⟨⟨nm,sb⟩,ops⟩ t (20-d).toNat) f o a acc).1=true then k1 (dt t (bN ⟨⟨nm,sb⟩,ops⟩ t (20-d).toNat) f o a acc).2.1 m (dt t (bN ⟨⟨nm,sb⟩,ops⟩ t (20-d).toNat) f o a acc).2.2 else w false (dt t (bN ⟨⟨nm,sb⟩,ops⟩ t (20-d).toNat) f o a acc).2.1 m 0 ByteArray.empty 0 []:=by
 intro f
 induction f with
 |zero=>intro o a acc _ A _;split at A<;>omega
 | succ f C=>
  intro o a acc h A hl;show z1z.b11 (GT (gTm k)) n t ab be kd nm sb ops d op y v j h4 o a m acc (λD E F G=>z1z.l11 (GT (gTm k)) n f t ab be kd nm sb ops d op y v j h4 D E F G w k1) w k1=_;unfold z1z.b11;obtain⟨B,H,I⟩:=lZ hA.1 t (20-d).toNat a h;cases o with
  |false=>rw[cF,IW,mt rfl]
  | true=>
   rw[mt rfl]at A;have e1:gTm k ab be kd nm sb ops m t a (d+1)=some ((bN ⟨⟨nm,sb⟩,ops⟩ t (20-d).toNat a).1,(bN ⟨⟨nm,sb⟩,ops⟩ t (20-d).toNat a).2.1,(bN ⟨⟨nm,sb⟩,ops⟩ t (20-d).toNat a).2.2,m):=by
    unfold gTm;rw[(A0:21-(d+1)=20-d)];exact mt ⟨hA,hab,h,A0,A0,hk⟩
   rw[cT,aX (x:=d+1) A0];show Option.bind (gTm k ab be kd nm sb ops m t a (d+1)) _=_;rw[e1,bS];simp only;cases hc:(bN ⟨⟨nm,sb⟩,ops⟩ t (20-d).toNat a).2.1 with
   | false=>
    rw[OS,cT,Jj hc,O2 A1]
   | true=>
    rw[O4,cF,Tm.eta,cV A4,bS,Kx hc];have e2:th ab be kd nm sb ops m t (bN ⟨⟨nm,sb⟩,ops⟩ t (20-d).toNat a).2.2 44=some ((tkF t (bN ⟨⟨nm,sb⟩,ops⟩ t (20-d).toNat a).2.2 44).1,(tkF t (bN ⟨⟨nm,sb⟩,ops⟩ t (20-d).toNat a).2.2 44).2,m):=mt B;show Option.bind (th ab be kd nm sb ops m t (bN ⟨⟨nm,sb⟩,ops⟩ t (20-d).toNat a).2.2 44) _=_;rw[e2,bS];obtain⟨J,K,t3⟩:=nH B 44;refine C (tkF t (bN ⟨⟨nm,sb⟩,ops⟩ t (20-d).toNat a).2.2 44).1 (tkF t (bN ⟨⟨nm,sb⟩,ops⟩ t (20-d).toNat a).2.2 44).2 _ (jP B 44) ?_ A4;split
    .grind
    .omega
theorem Jk(t:Z)(m:Mp)(a:Int)(h:atP t a)(K:Tm->Bool->Int->Mp->Y R):
  z1z.aq (GT (gTm k)) (t.size+3) ab be kd nm sb ops m t a d K=K (bN ⟨⟨nm,sb⟩,ops⟩ t ((20-d).toNat+1) a).1 (bN ⟨⟨nm,sb⟩,ops⟩ t ((20-d).toNat+1) a).2.1 (bN ⟨⟨nm,sb⟩,ops⟩ t ((20-d).toNat+1) a).2.2 m:=by
 have h1:=h.1;have S:=wu h;have c1:=jP S 58;have H:=jP c1 40;have B:=ow (pi hA.1);have I:=(jv hA.1).1;have en:Aj ab be kd nm sb ops m t a=some ((nmF t a).1,(nmF t a).2,m):=mt h;have W:th ab be kd nm sb ops m t (nmF t a).2 58=some ((tkF t (nmF t a).2 58).1,(tkF t (nmF t a).2 58).2,m):=mt S;unfold z1z.aq bN;rw[dF A0,cF];show Option.bind (Aj ab be kd nm sb ops m t a) _=_;rw[en,bS];show Option.bind (th ab be kd nm sb ops m t (nmF t a).2 58) _=_;rw[W,bS];simp only;cases X:(tkF t (nmF t a).2 58).1 with
 | true=>
  rw[cT,mt rfl];unfold z1z.d5;have J:Aj ab be kd nm sb ops m t (tkF t (nmF t a).2 58).2=some ((nmF t (tkF t (nmF t a).2 58).2).1,(nmF t (tkF t (nmF t a).2 58).2).2,m):=mt c1;show Option.bind (Aj ab be kd nm sb ops m t (tkF t (nmF t a).2 58).2) _=_;rw[J,bS];have L:nV nm (nmF t (tkF t (nmF t a).2 58).2).1=some (fdN nm (nmF t (tkF t (nmF t a).2 58).2).1):=mt (P3 B.1 A3);show Option.bind (nV nm (nmF t (tkF t (nmF t a).2 58).2).1) _=_;rw[L,bS];have ev:vW ab be kd nm sb ops m (Tm.mk (-1) (nmF t a).1 (fdN nm (nmF t (tkF t (nmF t a).2 58).2).1) [])=some (cY (nmF t a).1&&inN nm.length (fdN nm (nmF t (tkF t (nmF t a).2 58).2).1),m):=by
   unfold vW;rw[mt rfl,hab];simp
  show Option.bind (vW ab be kd nm sb ops m (Tm.mk (-1) (nmF t a).1 (fdN nm (nmF t (tkF t (nmF t a).2 58).2).1) [])) _=_;rw[ev,bS];rfl
 | false=>
  rw[cF,O2 A3];have L:tQ ops (nmF t a).1=some (fdO ops (nmF t a).1):=mt I;show Option.bind (tQ ops (nmF t a).1) _=_;rw[L,bS];have eo:th ab be kd nm sb ops m t (tkF t (nmF t a).2 58).2 40=some ((tkF t (tkF t (nmF t a).2 58).2 40).1,(tkF t (tkF t (nmF t a).2 58).2 40).2,m):=mt c1;show Option.bind (th ab be kd nm sb ops m t (tkF t (nmF t a).2 58).2 40) _=_;rw[eo,bS];obtain⟨x,G⟩:∃x,x=fdO ops (nmF t a).1:=⟨_,rfl⟩;have M:¬x<0->∃o,ix ops x=some o:=λh=>by
   rw[G]at h ⊢;obtain⟨o,ho,_⟩:=HQ h;exact⟨o,ho⟩
  obtain⟨y,hy⟩:∃y,y=dt t (bN ⟨⟨nm,sb⟩,ops⟩ t (20-d).toNat) (t.size+3) (tkF t (tkF t (nmF t a).2 58).2 40).1 (tkF t (tkF t (nmF t a).2 58).2 40).2 []:=⟨_,rfl⟩;have ho2:=H.2;obtain⟨T,y2,U⟩:=sC (lZ hA.1 t (20-d).toNat) (t.size+3) (tkF t (tkF t (nmF t a).2 58).2 40).1 (tkF t (tkF t (nmF t a).2 58).2 40).2 [] H λx G=>by simp at G
  simp only;refine(JZ (R:=R) hA hab hd hk (t.size+3) t m (fdO ops (nmF t a).1) 0 0 ByteArray.empty [] _ _ (t.size+3) _ _ [] H (by split<;>omega) A4).trans ?_;show _=K (qN _ t (fdO ops (nmF t a).1) (dt t (bN ⟨⟨nm,sb⟩,ops⟩ t (20-d).toNat) (t.size+3) (tkF t (tkF t (nmF t a).2 58).2 40).1 (tkF t (tkF t (nmF t a).2 58).2 40).2 [])).1 (qN _ t (fdO ops (nmF t a).1) (dt t (bN ⟨⟨nm,sb⟩,ops⟩ t (20-d).toNat) (t.size+3) (tkF t (tkF t (nmF t a).2 58).2 40).1 (tkF t (tkF t (nmF t a).2 58).2 40).2 [])).2.1 (qN _ t (fdO ops (nmF t a).1) (dt t (bN ⟨⟨nm,sb⟩,ops⟩ t (20-d).toNat) (t.size+3) (tkF t (tkF t (nmF t a).2 58).2 40).1 (tkF t (tkF t (nmF t a).2 58).2 40).2 [])).2.2 m;rw[<-hy,<-G]at*;obtain⟨y0,A,j⟩:=y;simp only at T y2 U ⊢;unfold qN;cases y0 with
  |false=>rfl
  | true=>
   obtain⟨V,y5⟩:=U rfl;simp only[Qy]at y5;have hb:aF j<1073741824:=by have:=p9 V;omega
   rw[mt rfl,mt rfl];by_cases v:x<0
   .grind
   .rw [decide_eq_false v,cond_false,O2 v];obtain⟨o,ho⟩:=M v;have N:rM ⟨⟨nm,sb⟩,ops⟩ x j=dH ⟨⟨nm,sb⟩,ops⟩ o x j:=by
     unfold rM;show (ix ops x).bind _=_;rw[ho,bS]
    have eb:qd ab be kd nm sb ops m x j=some ((rM ⟨⟨nm,sb⟩,ops⟩ x j).getD Zt,(rM ⟨⟨nm,sb⟩,ops⟩ x j).isSome,m):=by
     unfold qd;rw[mt ⟨hA,λz hz=>(V z hz).1,hb⟩,ho,N];rfl
    have c19:∀w:Int,z1z.c19 (GT (gTm k)) (t.size+3) t ab be kd nm sb ops x w m 0 ByteArray.empty 0 [] j (λO C D E F P=>K (Tm.mk D E F P) O w C)=K (rm ⟨⟨nm,sb⟩,ops⟩ x w j).1 (rm ⟨⟨nm,sb⟩,ops⟩ x w j).2.1 (rm ⟨⟨nm,sb⟩,ops⟩ x w j).2.2 m:=λw=>by
     unfold z1z.c19;show Option.bind (qd ab be kd nm sb ops m x j) _=_;rw[eb,bS];unfold rm;exact congrArg (λz=>K z _ w m) (Tm.eta _)
    by_cases Q:j.length=0
    .grind
    .rw[dT A0,cT,O2 Q];have ek:th ab be kd nm sb ops m t A 41=some ((tkF t A 41).1,(tkF t A 41).2,m):=mt T;show Option.bind (th ab be kd nm sb ops m t A 41) _=_;rw[ek,bS];simp only;cases h41:(tkF t A 41).1 with
     |false=>rw[OS,cT,O2 A3]
     | true=>
      rw[O4,cF,mt rfl];exact c19 (tkF t A 41).2
end
theorem CO:∀k,aj (z1z.ent (gTm k))
 |0=>okQ (by (repeat intro h);simp[gTm]at h)
 | k+1=>z1z.ok (G:=GT (gTm k)) ⟨KL,NM,sI,mZ,wG,CO k,Fj,trivial⟩ fun ab be kd nm sb ops m t a d r h=>by
  unfold gTm at h;split at h
  .rename_i hs;obtain⟨hA,hab,hp,j,v,hk⟩:=hs;cases h;by_cases hd:d=21
   .subst hd;refine⟨1,?_⟩;unfold z1z.aq;rw[dT A3,cT];rfl
   .rw[(A0:(21-d).toNat=(20-d).toNat+1)]at hk ⊢;exact⟨t.size+3,(Jk (ab:=ab) (be:=be) hA hab (k:=k) ⟨j,A0⟩ A0 t m a hp _).trans rfl⟩
  .cases h
noncomputable def dx(s:Sg)(t:Z):Tm×Bool:=if bD s=true/\t.size<=2000/\(bN s t 20 0).2.1=true/\spA t (bN s t 20 0).2.2=t.size then ((bN s t 20 0).1,true)else (Zt,false)
theorem Jf{t:Z}(h:t.size<=2000):atP t 0:=⟨h,Q1 _,A0⟩
theorem Ed{s:Sg}{t:Z}(h:(dx s t).2=false):dx s t=(Zt,false)/\¬(bD s=true/\t.size<=2000/\(bN s t 20 0).2.1=true/\spA t (bN s t 20 0).2.2=t.size):=by
 unfold dx at h ⊢;split at h
 .cases h
 .rename_i q;exact⟨O2 q,q⟩
theorem rK{s:Sg}{t:Z}(h:(dx s t).2=true):dx s t=((bN s t 20 0).1,true)/\(bD s=true/\t.size<=2000/\(bN s t 20 0).2.1=true/\spA t (bN s t 20 0).2.2=t.size):=by
 unfold dx at h ⊢;split at h
 .rename_i q;exact⟨mt q,q⟩
 .cases h
end
end Go.Proofs.YtkegnipofloejaaGreatDoor.Den

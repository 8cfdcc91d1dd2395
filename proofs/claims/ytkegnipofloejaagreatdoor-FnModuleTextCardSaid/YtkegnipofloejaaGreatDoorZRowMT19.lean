/- merged -/
import Derived.Test.YtkegnipofloejaaGreatDoorZRowMT13
import Derived.Test.YtkegnipofloejaaGreatDoorZRowMT14
import Derived.Test.YtkegnipofloejaaGreatDoorZRowMT18

namespace Go.Proofs.YtkegnipofloejaaGreatDoor.Den
open Go.RowKit
section
set_option maxRecDepth 100000
set_option linter.unusedVariables false
noncomputable section
namespace z4c
structure Gs where
 z2n:z2n.Q
 z3a:z3a.Q
 z3k:z3k.Q
def aq{R:Type}(G:Gs)(n:Nat)(s:Sg)(t:Tm)(K:Bool->Y R):Y R:=bif decide (t.op=(-1))then((G.z2n t.ah).bind λr=>bif r then((G.z3a t.am 0 (wr ((List.length s.ai.ak:Int)-1))).bind λd=>bif d then(K (decide ((List.length t.ae:Int)=0)))else K false)else K false)else(G.z3a t.op 0 (wr ((List.length s.ops:Int)-1))).bind λh=>bif !h then(K false)else bif !sEq t.ah ByteArray.empty then(K false)else bif !decide (t.am=0)then(K false)else(ix s.ops t.op).bind λe=>bif !e.aE then((G.z3k e).bind λj=>bif !decide ((List.length t.ae:Int)=j)then(K false)else bif e.aE then((G.z3a (List.length t.ae:Int) 2 7).bind λv=>bif !v then(K false)else K true)else K true)else bif e.aE then((G.z3a (List.length t.ae:Int) 2 7).bind λw=>bif !w then(K false)else K true)else K true
theorem ok{G:Gs}(d:ap [z2n.ent G.z2n,z3a.ent G.z3a,z3k.ent G.z3k]){g:Q}(h:∀s t r,g s t=some r->∃n,aq G n s t Vn=Vn r):aj (ent g):=okQ λ_ _ _ _ _ _ _ _ _ _ hc=>Tk hc (h _ _) λ_ _ j=>fF d ⟨74,0,[],[],[4],[],[]⟩ nP Tryz.func101 j
end z4c
namespace z4e
structure Gs where
 z3i:z3i.Q
 z4g:z4g.Q
 z48:z48.Q
 z3y:z3y.Q
 z2d:z2d.Q
def ents(G:Gs):Td Ent:=[z3i.ent G.z3i,z4g.ent G.z4g,z48.ent G.z48,z3y.ent G.z3y,z2d.ent G.z2d]
def c13{R:Type}(G:Gs)(n:Nat)(d:LI)(has:Bool)(i:Int)(h0:LB)(y:LS)(A:LO)(h1:Int)(B:Z)(C:Int)(h:LT)(h2:Z)(D:LD)(E j:Bool)(F M:Int)(H:Z)(I:Int)(J:LT)(h4:Int)(t:Z)(v:Int)(w:LT)(K:Bool->Y R)(k1:Y R):Y R:=bif j then(bif decide (0<i)then((ix h (wr (i-1))).bind λe2=>(G.z2d (Tm.mk e2.op e2.ah e2.am e2.ae) (Tm.mk h4 t v w)).bind λL=>bif decide (0<L)then(K false)else k1)else k1)else k1
variable{R:Type}(G:Gs)(n:Nat)
def c11(d:LI)(has:Bool)(i M:Int)(h0:LB)(A:LS)(B:LO)(h1:Int)(E:Z)(F:Int)(H:LT)(h2:Z)(C:LD)(D I:Bool)(J L:Int)(v:Z)(w:Int)(y:LT)(h4:Int)(h:Z)(j:Int)(t:LT)(K:Bool->Y R)(k1:Y R):Y R:=(G.z48 (Sg.mk (So.mk h0 A) B) (Tm.mk h4 h j t)).bind λQ=>(ix C 0).bind λe2=>(ix e2.ae M).bind λS=>(ix d S).bind λT=>bif !decide (Q=T)then(K false)else bif D then(bif decide (h4=h1)then(K false)else bif has then((G.z3y (Tm.mk h4 h j t) (Tm.mk L v w y)).bind λU=>bif U then(K false)else c13 G n d has i h0 A B h1 E F H h2 C D I J L v w y h4 h j t (λt4=>K t4) (k1))else c13 G n d has i h0 A B h1 E F H h2 C D I J L v w y h4 h j t (λN=>K N) (k1))else bif has then((G.z3y (Tm.mk h4 h j t) (Tm.mk L v w y)).bind λV=>bif V then(K false)else c13 G n d has i h0 A B h1 E F H h2 C D I J L v w y h4 h j t (λO=>K O) (k1))else c13 G n d has i h0 A B h1 E F H h2 C D I J L v w y h4 h j t (λP=>K P) (k1)
def b5(d:LI)(has:Bool)(h0:LB)(t:LS)(v:LO)(h1:Int)(w:Z)(y:Int)(h:LT)(h2:Z)(A:LD)(j B:Bool)(C I:Int)(D:Z)(E:Int)(F:LT)(i:Int)(J:Int->Y R)(K:Bool->Y R)(k1:Y R):Y R:=bif decide (i<(List.length h:Int))then((ix h i).bind λe=>bif j then(c11 G n d has i 0 h0 t v h1 w y h h2 A j B C I D E F e.op e.ah e.am e.ae (λt4=>K t4) (J (wr (i+1))))else c11 G n d has i i h0 t v h1 w y h h2 A j B C I D E F e.op e.ah e.am e.ae (λH=>K H) (J (wr (i+1))))else k1
def l5(m:Nat)(d:LI)(has:Bool)(h0:LB)(h:LS)(j:LO)(h1:Int)(t:Z)(w:Int)(y:LT)(h2:Z)(A:LD)(B C:Bool)(D I:Int)(E:Z)(F:Int)(H:LT)(i:Int)(J:Bool->Y R)(k1:Y R):Y R:=aY (λ(v:Int) K=>b5 G n d has h0 h j h1 t w y h2 A B C D I E F H v (λL=>K L) J k1) m i
def aq(s:Sg)(t:Tm)(K:Bool->Y R):Y R:=(ix s.ops t.op).bind λe=>(G.z3i s.ai).bind λr=>(G.z4g s t.op).bind λd=>l5 G n n r d.2 s.ai.ak s.ai.aA s.ops t.op t.ah t.am t.ae e.ah e.aJ e.aE e.comm e.aO d.1.op d.1.ah d.1.am d.1.ae 0 (λt4=>K t4) (K true)
def yz:=rS [2,3,5,6,7,8,9,10] [Tw,TQ,U1,U2,Ul,UD,Tx,Uq] [TB,TJ,TD,TJ,TJ] λR K d has i h0 h j h1 t v w h2 y A B C L D E F h4 H I J=>c13 G n d has i h0 h j h1 t v w h2 y A B C L D E F h4 H I J (λt4=>K .ret ⟨Uj t4,[]⟩) (K .normal ⟨[(2,TF),(3,TR),(5,Ua),(6,Ue d),(7,UK),(8,Tp has),(9,Tv i)],[TP h0 h j,TC h1 t v w,TV h2 y A B C,TC L D E F]⟩)
def ET:=rS [2,3,5,6,7,8,9,10,11] [Tw,TQ,U1,U2,Ul,UD,Tx,Uq,Tx] [TB,TJ,TD,TJ,TJ] λR K d has i H h0 h j h1 t v w h2 y A B C M D E F h4 I J L=>c11 G n d has i H h0 h j h1 t v w h2 y A B C M D E F h4 I J L (λt4=>K .ret ⟨Uj t4,[]⟩) (K .normal ⟨[(2,TF),(3,TR),(5,Ua),(6,Ue d),(7,UK),(8,Tp has),(9,Tv i)],[TP h0 h j,TC h1 t v w,TV h2 y A B C,TC M D E F]⟩)
def dl5(m:Nat):=rS [2,3,5,6,7,8,9] [Tw,TQ,U1,U2,Ul,UD,Tx] [TB,TJ,TD,TJ] λR K d has i h0 h j h1 t v w h2 y A B C H D E F=>l5 G n m d has h0 h j h1 t v w h2 y A B C H D E F i (λt4=>K .ret ⟨Uj t4,[]⟩) (K (.exit 0) ⟨[],[]⟩)
def pc:Pcs:=⟨Tl 5 (dl5 G n n) nK,Tl 13 (yz G n) (Tl 11 (ET G n) nK),nK⟩
def an:Ann:=⟨94,0,[(5,[2,3,5,6,7,8,9])],[(13,[2,3,5,6,7,8,9,10]),(11,[2,3,5,6,7,8,9,10,11])],[4],[(11,⟨[(Te 34,[],[])],[],[],(Te 5),[]⟩),(13,⟨[(Te 17,[],[])],[],[],(Te 5),[]⟩)],[]⟩
abbrev bd:=aK Tryz.f102
theorem ok{G:Gs}(d:ap (ents G)){g:Q}(h:∀s t r,g s t=some r->∃n,aq G n s t Vn=Vn r):aj (ent g):=okQ λ_ _ _ _ _ _ _ _ _ _ hc=>Tk hc (h _ _) λn _ j=>fF d an (pc G n) Tryz.func102 j (apl [(1,5,.loop (Tj 500 bd))] ⟨Tf d n (dl5 G n) rfl (pc G n) ⟨[],[4],[(0,[])]⟩ (apl [(0,11,Tj 32039 bd)] ⟨Tg d (ET G n) rfl (pc G n) ⟨[2,3,5,6,7,8,9],[4],[(0,[]),(1,[2,3,5,6,7,8,9])]⟩ (apl [(0,13,Tj 64079 bd)] ⟨Tg d (yz G n) rfl (pc G n) ⟨[2,3,5,6,7,8,9],[4],[(0,[]),(1,[2,3,5,6,7,8,9])]⟩,Th⟩),Th⟩),Th⟩)
end z4e
namespace z47
structure Gs where
 z4c:z4c.Q
 z47:z47.Q
 z4e:z4e.Q
def ents(G:Gs):Td Ent:=[z4c.ent G.z4c,ent G.z47,z4e.ent G.z4e]
def b4{R:Type}(G:Gs)(n:Nat)(h0:LB)(h:LS)(j:LO)(h1:Int)(t:Z)(v:Int)(d:LT)(i:Int)(w:Int->Y R)(y:Bool->Y R)(k1:Y R):Y R:=bif decide (i<(List.length d:Int))then((ix d i).bind λe2=>(G.z47 (Sg.mk (So.mk h0 h) j) (Tm.mk e2.op e2.ah e2.am e2.ae)).bind λA=>bif !A then(y false)else w (wr (i+1)))else k1
variable{R:Type}(G:Gs)(n:Nat)
def l4(m:Nat)(h0:LB)(d:LS)(h:LO)(h1:Int)(j:Z)(t:Int)(w:LT)(i:Int)(y:Bool->Y R)(k1:Y R):Y R:=aY (λ(v:Int) A=>b4 G n h0 d h h1 j t w v (λB=>A B) y k1) m i
def aq(s:Sg)(t:Tm)(K:Bool->Y R):Y R:=(G.z4c s (Tm.mk t.op t.ah t.am t.ae)).bind λr=>bif !r then(K false)else l4 G n n s.ai.ak s.ai.aA s.ops t.op t.ah t.am t.ae 0 (λt4=>K t4) (bif decide (t.op=(-1))then(K true)else(G.z4e s (Tm.mk t.op t.ah t.am t.ae)).bind λd=>K d)
def dl4(m:Nat):=rS [2,3,5] [Tw,TQ,Tx] [TB,TJ] λR K i h0 d h h1 j t v=>l4 G n m h0 d h h1 j t v i (λt4=>K .ret ⟨Uj t4,[]⟩) (K (.exit 0) ⟨[(2,TF),(3,TR)],[TP h0 d h,TC h1 j t v]⟩)
def pc:Pcs:=⟨Tl 4 (dl4 G n n) nK,nK,nK⟩
def an:Ann:=⟨33,0,[(4,[2,3,5])],[],[4],[(6,⟨[(Te 8,[],[])],[],[],[0,1],[]⟩)],[]⟩
abbrev bd:=aK Tryz.f71
theorem ok{G:Gs}(d:ap (ents G)){g:Q}(h:∀s t r,g s t=some r->∃n,aq G n s t Vn=Vn r):aj (ent g):=okQ λ_ _ _ _ _ _ _ _ _ _ hc=>Tk hc (h _ _) λn _ j=>fF d an (pc G n) Tryz.func71 j (apl [(1,4,.loop (Tj 116 bd))] ⟨Tf d n (dl4 G n) rfl (pc G n) ⟨[2,3],[4],[(0,[2,3])]⟩,Th⟩)
end z47
namespace z1a
structure Gs where
 z15:z15.Q
 z1a:z1a.Q
 z16:z16.Q
 z0x:z0x.Q
 z14:z14.Q
 z0a:z0a.Q
def ents(G:Gs):Td Ent:=[z15.ent G.z15,ent G.z1a,z16.ent G.z16,z0x.ent G.z0x,z14.ent G.z14,z0a.ent G.z0a]
def b10{R:Type}(G:Gs)(n:Nat)(A B C:LI)(D:LB)(E:LS)(F:LO)(t77:LT)(M h2:Int)(Q:Z)(S:Int)(H:LT)(V:Z)(T:LD)(N I:Bool)(U d:Int)(h1:LM)(y:Int->LM->Y R)(v:Bool->LM->Y R)(k1:LM->Y R):Y R:=bif decide (d<M)then((ix t77 d).bind λe=>(G.z1a A B C D E F h1 (Tm.mk e.op e.ah e.am e.ae)).bind λw=>bif !w.1 then(v false w.2)else(G.z16 A B C D E F w.2 (Tm.mk e.op e.ah e.am e.ae)).bind λJ=>(G.z0x A B C D E F J.2 h2 d).bind λt=>bif !decide (J.1=t.1)then(v false t.2)else bif N then(bif decide (e.op=h2)then(v false t.2)else(G.z14 A B C D E F t.2 h2 (Tm.mk e.op e.ah e.am e.ae)).bind λh=>bif h.1 then(v false h.2)else bif I then(bif decide (0<d)then((ix H (wr (d-1))).bind λK=>(G.z0a (Tm.mk K.op K.ah K.am K.ae) (Tm.mk e.op e.ah e.am e.ae)).bind λO=>bif decide (0<O)then(v false h.2)else y (wr (d+1)) h.2)else y (wr (d+1)) h.2)else y (wr (d+1)) h.2)else(G.z14 A B C D E F t.2 h2 (Tm.mk e.op e.ah e.am e.ae)).bind λj=>bif j.1 then(v false j.2)else bif I then(bif decide (0<d)then((ix H (wr (d-1))).bind λL=>(G.z0a (Tm.mk L.op L.ah L.am L.ae) (Tm.mk e.op e.ah e.am e.ae)).bind λP=>bif decide (0<P)then(v false j.2)else y (wr (d+1)) j.2)else y (wr (d+1)) j.2)else y (wr (d+1)) j.2)else k1 h1
variable{R:Type}(G:Gs)(n:Nat)
def l10(m:Nat)(D E F:LI)(H:LB)(I:LS)(J:LO)(t77:LT)(d h2:Int)(h:Z)(j:Int)(t:LT)(K:Z)(w:LD)(y A:Bool)(B C:Int)(h1:LM)(L:Bool->LM->Y R)(k1:LM->Y R):Y R:=aY (λ(v:Int×LM) M=>b10 G n D E F H I J t77 d h2 h j t K w y A B v.1 v.2 (λN O=>M (N,O)) L k1) m (C,h1)
def c9(D E F:LI)(H:LB)(I:LS)(J:LO)(h1:LM)(h2:Int)(j:Z)(t:Int)(d:LT)(K:Z)(v:LD)(w y:Bool)(A:Int)(C:Bool->LM->Y R):Y R:=l10 G n n D E F H I J d (List.length d:Int) h2 j t d K v w y A 0 h1 (λt4 B=>C t4 B) (λh=>C true h)
def c6(E F H:LI)(I:LB)(J:LS)(K:LO)(h1:LM)(h2:Int)(t:Z)(v:Int)(d:LT)(L:Z)(j:LD)(h w:Bool)(y:Int)(A:Bool->LM->Y R):Y R:=bif h then(bif decide ((List.length d:Int)<2)then(A false h1)else bif decide (7<(List.length d:Int))then(A false h1)else bif !h then((ix j 0).bind λe=>bif !decide ((List.length d:Int)=(List.length e.ae:Int))then(A false h1)else c9 G n E F H I J K h1 h2 t v d L j h w y (λt4 M=>A t4 M))else c9 G n E F H I J K h1 h2 t v d L j h w y (λN B=>A N B))else bif !h then((ix j 0).bind λe2=>bif !decide ((List.length d:Int)=(List.length e2.ae:Int))then(A false h1)else c9 G n E F H I J K h1 h2 t v d L j h w y (λO C=>A O C))else c9 G n E F H I J K h1 h2 t v d L j h w y (λP D=>A P D)
def aq(y A B:LI)(C:LB)(D:LS)(v:LO)(d:LM)(t:Tm)(K:Bool->LM->Y R):Y R:=bif decide (t.op=(-1))then((G.z15 y A B C D v d (Tm.mk t.op t.ah t.am t.ae)).bind λr=>K r.1 r.2)else bif decide (t.op<0)then(K false d)else bif decide ((List.length v:Int)<=t.op)then(K false d)else bif !sEq t.ah ByteArray.empty then(K false d)else bif !decide (t.am=0)then(K false d)else(ix v t.op).bind λh=>c6 G n y A B C D v d t.op t.ah t.am t.ae h.ah h.aJ h.aE h.comm h.aO (λw j=>K w j)
def tJ(m:Nat):=rS [0,3,5,77,78,79] [Tw,U1,Ul,TL,Tx,Tx] [Tr,.m .i,TJ,TD] λR K t77 h j t v w y A B h1 h2 C D E L F H I J=>l10 G n m t v w y A B t77 h h2 C D E L F H I J j h1 (λt4 d=>K .ret ⟨Uj t4,TN t v w y A B d⟩) (λd=>K (.exit 0) ⟨[],TN t v w y A B d⟩)
def dc9:=rS [0,3,5] [Tw,U1,Ul] [Tr,.m .i,TJ,TD] λR K B C D E F H h1 h2 d h j I t v w y=>c9 G n B C D E F H h1 h2 d h j I t v w y (λt4 A=>K .ret ⟨Uj t4,TN B C D E F H A⟩)
def dc6:=rS [0,3,5] [Tw,U1,Ul] [Tr,.m .i,TJ,TD] λR K B C D E F H h1 h2 d h j I t v w y=>c6 G n B C D E F H h1 h2 d h j I t v w y (λt4 A=>K .ret ⟨Uj t4,TN B C D E F H A⟩)
def pc:Pcs:=⟨Tl 10 (tJ G n n) nK,Tl 9 (dc9 G n) (Tl 6 (dc6 G n) nK),nK⟩
def an:Ann:=⟨137,2,[(10,[0,3,5,77,78,79])],[(9,[0,3,5]),(6,[0,3,5])],[4],[(3,⟨[(Te 24,[],[])],[],[],[0,1,2],[]⟩),(5,⟨[([9,0,1,2,3,4,5,6,7,8,10],[9,10],[4])],[9,10],[],[2],[]⟩),(12,⟨[(Te 52,[2,7,12,31],[])],[2,7,12,31],[],[2,3,4],[]⟩)],[]⟩
abbrev bd:=aK Tryz.f88
theorem ok{G:Gs}(B:ap (ents G)){g:Q}(D:∀d h v w y A C t r,g d h v w y A C t=some r->∃n,aq G n d h v w y A C t (Vq d h v w y A)=Vq d h v w y A r.1 r.2):aj (ent g):=okQ λ_ _ _ _ _ _ _ _ _ _ _ _ _ _ hc=>Tk hc (D _ _ _ _ _ _ _ _) λn _ j=>fF B an (pc G n) Tryz.func88 j (apl [(0,6,Tj 31 bd)] ⟨Tg B (dc6 G n) rfl (pc G n) ⟨[],[4],[]⟩ (apl [(0,9,Tj 127 bd)] ⟨Tg B (dc9 G n) rfl (pc G n) ⟨[],[4],[]⟩ (apl [(1,10,.loop (Tj 2036 bd))] ⟨Tf B n (tJ G n) rfl (pc G n) ⟨[],[4],[(0,[])]⟩,Th⟩),Th⟩),Th⟩)
end z1a
namespace z13
structure Gs where
 z0s:z0s.Q
 z0c:z0c.Q
 z1a:z1a.Q
def aq{R:Type}(G:Gs)(n:Nat)(j v w:LI)(y:LB)(A:LS)(B:LO)(d:LM)(t:Tm)(K:Bool->LM->Y R):Y R:=(G.z0s (Tm.mk t.op t.ah t.am t.ae)).bind λr=>bif decide (r<=60)then((G.z0c (Tm.mk t.op t.ah t.am t.ae)).bind λC=>bif decide (C<=20)then((G.z1a j v w y A B d (Tm.mk t.op t.ah t.am t.ae)).bind λh=>K h.1 h.2)else K false d)else K false d
theorem ok{G:Gs}(C:ap [z0s.ent G.z0s,z0c.ent G.z0c,z1a.ent G.z1a]){g:Q}(D:∀d h v w y A B t r,g d h v w y A B t=some r->∃n,aq G n d h v w y A B t (Vq d h v w y A)=Vq d h v w y A r.1 r.2):aj (ent g):=okQ λ_ _ _ _ _ _ _ _ _ _ _ _ _ _ hc=>Tk hc (D _ _ _ _ _ _ _ _) λ_ _ j=>fF C ⟨18,2,[],[],[4],[],[]⟩ nP Tryz.func59 j
end z13
end
end
section
open Classical
def ii(s:Sg)(t:Tm):Bool:=if t.op= -1 then cY t.ah&&(inN (nS s) t.am&&decide (t.ae.length=0))else match ix s.ops t.op with
 |none=>false
 |some o=>sEq t.ah ByteArray.empty&&(decide (t.am=0)&&(if o.aE=true then decide (2<=t.ae.length)&&decide (t.ae.length<=7)else decide (t.ae.length=(first o).ae.length)))
def vX(s:Sg)(o:Opr)(op:Int)(p:Y Tm)(i:Int)(x:Tm):Bool:=decide (dG s x=od s o i)&&(!(o.aE&&decide (x.op=op))&&(!kR o x&& !(o.comm&&(match p with
 |some y=>decide (0<bR y x)
 |none=>false))))
def fg(s:Sg)(o:Opr)(op:Int)(w:Tm->Bool):Y Tm->Int->Td Tm->Bool
 |_,_,[]=>true
 |p,i,x::xs=>(w x&&vX s o op p i x)&&fg s o op w (some x) (i+1) xs
def mb(s:Sg)(w:Tm->Bool)(t:Tm):Bool:=ii s t&&(if t.op= -1 then true else match ix s.ops t.op with
 |some o=>fg s o t.op w none 0 t.ae
 |none=>false)
def Bn(s:Sg):Nat->Tm->Bool
 |0,_=>false
 |k+1,t=>mb s (Bn s k) t
def dA(s:Sg)(t:Tm):Bool:=Bn s (t.az+1) t
theorem qC{s:Sg}{o:Opr}{op:Int}{w w':Tm->Bool}:∀{xs:Td Tm}{p:Y Tm}{i:Int},(∀x∈xs,w x=w' x)->fg s o op w p i xs=fg s o op w' p i xs
 |[],_,_,_=>rfl
 | x::xs,p,i,h=>by
  unfold fg;rw[h x A1,qC λy d=>h y I1]
section
variable {s:Sg}{o:Opr}{op:Int}{w w':Tm->Bool}{t x:Tm}{i:Nat}
theorem qo(h:∀x∈t.ae,w x=w' x):mb s w t=mb s w' t:=by
 unfold mb;split
 .rfl
 .split
  .rw[qC h]
  .rfl
theorem zq{s:Sg}:∀(k j:Nat)(t:Tm),t.az<k->t.az<j->Bn s k t=Bn s j t
 |0,_,_,h,_=>absurd h (OM _)
 |_,0,_,_,h=>absurd h (OM _)
 |k+1,j+1,t,h1,h2=>qo λx d=>zq k j x H3 H3
theorem j6(s:Sg)(t:Tm):dA s t=mb s (dA s) t:=qo λx d=>zq _ _ x (aM d) (OX _)
theorem pH{s:Sg}{o:Opr}{op:Int}{w:Tm->Bool}:∀{xs:Td Tm}{p:Y Tm}{i:Int},fg s o op w p i xs=true->∀x∈xs,w x=true
 |[],_,_,_,x,d=>QR
 | y::ys,p,i,h,x,d=>by
  unfold fg at h;simp only[bA]at h;rcases List.mem_cons.1 d with rfl|d
  .exact h.1.1
  .exact pH h.2 x d
theorem uN{s:Sg}:∀(k:Nat)(t:Tm),t.az<k->dA s t=true->Good s t
 |0,_,h,_=>absurd h (OM _)
 | k+1,t,h,d=>by
  rw[j6]at d;unfold mb ii at d;by_cases ho:t.op= -1
  .rw[mt ho,mt ho]at d;simp only[bA,O8]at d;obtain⟨⟨h1,h2,j⟩,_⟩:=d;have h2:=kG.1 h2;obtain⟨op,nm,w,ar⟩:=t;have:ar=[]:=nZ j;subst this;have:op= -1:=ho;subst this;exact .var h2.1 h2.2 h1
  .rw[O2 ho,O2 ho]at d;cases v:ix s.ops t.op with
   |none=>rw[v]at d;simp at d
   | some o=>
    rw[v]at d;simp only[bA,O8]at d;obtain⟨⟨h1,h2,j⟩,h4⟩:=d;have h1:t.ah=ByteArray.empty:=ON h1;have y:=pH h4;have A:∀a∈t.ae,Good s a:=λa hm=>uN k a (by have:=aM hm;omega) (y a hm);obtain⟨op,nm,w,ar⟩:=t;have:nm=ByteArray.empty:=h1;subst this;have:w=0:=h2;subst this;refine .app v ?_ A;cases hc:o.aE with
    |true=>rw[hc,mt rfl]at j;rw[mt rfl];simp only[bA,O8]at j;exact j.1
    |false=>rw[hc,O2 A3]at j;rw[O2 A3];exact ON j
theorem hQ(h:dA s t=true):Good s t:=uN _ t (OX _) h
def jH(ae:Td Tm):Nat->Y Tm
 |0=>none
 |i+1=>ae[i]?
theorem yd{R:Type}(k:Nat){ae:Td Tm}(hi:i<ae.length)(hk:∀y∈ae,y.az<k)(hl:ae.length<4294967296)(c:Bool)(a b:Y R):
  (bif c then (bif decide ((0:Int)<(i:Int))then Option.bind (ix ae (wr ((i:Int)-1))) fun e=>Option.bind (bV k (Tm.mk (Tm.op e) (Tm.ah e) (Tm.am e) (Tm.ae e)) x) fun r=>bif decide (0<r)then a else b else b)else b)=
   bif c&&(match jH ae i with
    |some y=>decide (0<bR y x)
    |none=>false)then a else b:=by
 cases c with
 |false=>rfl
 | true=>
  rw[cT,O7];cases i with
  |zero=>rfl
  | succ j=>
   obtain⟨y,d,h⟩:=bo (A0:j<ae.length);rw[dT A0,cT,aX A0,(A0:((j+1:Nat):Int)-1=(j:Int)),aW d,bS,Tm.eta];unfold bV;rw[mt (hk y h),bS];rw[show jH ae (j+1)=some y from d]
theorem Bp{ae:Td Tm}(h:ae[i]? =some x):jH ae (i+1)=some x:=h
theorem Lc(hk:IU s o){ae:Td Tm}(d:if o.aE=true then 2<=ae.length else ae.length=(first o).ae.length)(hi:i<ae.length):0<=atI o (i:Int)/\atI o (i:Int)<(first o).ae.length:=by
 unfold atI;cases h:o.aE with
 |true=>have:=hk.two (.inl h);rw[mt rfl];omega
 |false=>rw[h,O2 A3]at d;rw[O2 A3];omega
noncomputable def gWm:Nat->Td Int->Td Int->Td Int->Td Z->Td Sb->Td Opr->Mp->Tm->Y (Bool×Mp):=λk ab _ kd nm sb ops m t=>if Alg kd nm sb ops/\ab.length=nm.length/\t.az<k then some (dA ⟨⟨nm,sb⟩,ops⟩ t,m)else none
noncomputable abbrev GW(k:Nat):z1a.Gs:={z15:=vW,z1a:=gWm k,z16:=iC,z0x:=ng,z14:=tU,z0a:=bV 4294967296}
end
section
variable {R : Type} {kd ab be : Td Int} {nm : Td Z} {sb : Td Sb} {ops : Td Opr} {op : Int} {o : Opr} (hA : Alg kd nm sb ops) (hab : ab.length = nm.length) (ho : ix ops op = some o)
include hA hab ho
theorem Mh(n k:Nat)(hk:k<=4294967296)(ae:Td Tm)(F:∀x∈ae,x.az<k)(hl:ae.length<4294967296)(w:if o.aE=true then 2<=ae.length else ae.length=(first o).ae.length)(m:Mp)(d:Int)(h:Z)(t:Bool->Mp->Y R)(k1:Mp->Y R):∀f i,i<=ae.length->ae.length-i<f->
  z1a.l10 (GW k) n f ab be kd nm sb ops ae (ae.length:Int) op h d ae o.ah o.aJ o.aE o.comm o.aO (i:Int) m t k1=bif fg ⟨⟨nm,sb⟩,ops⟩ o op (dA ⟨⟨nm,sb⟩,ops⟩) (jH ae i) (i:Int) (ae.drop i)then k1 m else t false m:=by
 have A:=jL hA.1 (bZ (xs:=ops) ho).1;intro f
 induction f with
 |zero=>exact T9
 | succ f H=>
  intro i h1 hm;show z1a.b10 (GW k) n ab be kd nm sb ops ae (ae.length:Int) op h d ae o.ah o.aJ o.aE o.comm o.aO (i:Int) m (λI J=>z1a.l10 (GW k) n f ab be kd nm sb ops ae (ae.length:Int) op h d ae o.ah o.aJ o.aE o.comm o.aO I J t k1) t k1=_;unfold z1a.b10;by_cases hi:i<ae.length
  .obtain⟨x,B,K⟩:=bo hi;have L:gWm k ab be kd nm sb ops m x=some (dA ⟨⟨nm,sb⟩,ops⟩ x,m):=mt ⟨hA,hab,F x K⟩;rw[bt hi,cT,aW B,bS,Tm.eta,bm B];show Option.bind (gWm k ab be kd nm sb ops m x) _=_;rw[L,bS];unfold fg;cases M:dA ⟨⟨nm,sb⟩,ops⟩ x with
   |false=>rfl
   | true=>
    have N:=hQ M;have e1:iC ab be kd nm sb ops m x=some (dG ⟨⟨nm,sb⟩,ops⟩ x,m):=mt ⟨hA,N.kn⟩;have e2:ng ab be kd nm sb ops m op (i:Int)=some (od ⟨⟨nm,sb⟩,ops⟩ o (i:Int),m):=by
     unfold ng;rw[mt ⟨hA,o,ho,Lc A w hi⟩,ho];rfl
    have e3:tU ab be kd nm sb ops m op x=some (kR o x,m):=by
     unfold tU;rw[mt hA,ho];rfl
    have C:z1a.l10 (GW k) n f ab be kd nm sb ops ae (ae.length:Int) op h d ae o.ah o.aJ o.aE o.comm o.aO (wr ((i:Int)+1)) m t k1=bif fg ⟨⟨nm,sb⟩,ops⟩ o op (dA ⟨⟨nm,sb⟩,ops⟩) (some x) ((i:Int)+1) (ae.drop (i+1))then k1 m else t false m:=by
     rw[bw A0,H (i+1) hi A0,Bp B];rfl
    simp only[O4,cF];show Option.bind (iC ab be kd nm sb ops m x) _=_;rw[e1,bS];show Option.bind (ng ab be kd nm sb ops m op (i:Int)) _=_;rw[e2,bS];unfold vX;by_cases D:dG ⟨⟨nm,sb⟩,ops⟩ x=od ⟨⟨nm,sb⟩,ops⟩ o (i:Int)
    .simp only;rw[dT D,O4,cF,O7,O7]
     have tail:(Option.bind (tU ab be kd nm sb ops m op x) λj=>bif j.1 then (t false j.2)else bif o.comm then (bif decide (0<(i:Int))then (Option.bind (ix ae (wr ((i:Int)-1))) λv=>Option.bind (bV 4294967296 (Tm.mk (Tm.op v) (Tm.ah v) (Tm.am v) (Tm.ae v)) x) λE=>bif decide (0<E)then (t false j.2)else z1a.l10 (GW k) n f ab be kd nm sb ops ae (ae.length:Int) op h d ae o.ah o.aJ o.aE o.comm o.aO (wr ((i:Int)+1)) j.2 t k1)else z1a.l10 (GW k) n f ab be kd nm sb ops ae (ae.length:Int) op h d ae o.ah o.aJ o.aE o.comm o.aO (wr ((i:Int)+1)) j.2 t k1)else z1a.l10 (GW k) n f ab be kd nm sb ops ae (ae.length:Int) op h d ae o.ah o.aJ o.aE o.comm o.aO (wr ((i:Int)+1)) j.2 t k1)=
       bif (!kR o x&& !(o.comm&&(match jH ae i with
        |some y=>decide (0<bR y x)
        |none=>false)))&&fg ⟨⟨nm,sb⟩,ops⟩ o op (dA ⟨⟨nm,sb⟩,ops⟩) (some x) ((i:Int)+1) (ae.drop (i+1))then k1 m else t false m:=by
      rw[e3,bS];cases Q:kR o x with
      |true=>rfl
      | false=>
       simp only[cF];rw[C,yd 4294967296 hi (λy O=>by have:=F y O;omega) hl]
       cases (o.comm&&(match jH ae i with
        |some y=>decide (0<bR y x)
        |none=>false))<;>rfl
     cases G:o.aE with
     | false=>
      rw[cF,Bool.false_and,OS,O7];rw[G]at tail;exact tail
     | true=>
      rw[cT,O7];rw[G]at tail;by_cases P:x.op=op
      .grind
      .grind
    .grind
  .obtain rfl:i=ae.length:=A0
   exact T8
end
section
variable {α R:Type}{i:Int}{kd ab be:Td Int}{sb:Td Sb}{ops:Td Opr}
theorem qW{xs:Td α}(h:i<0\/(xs.length:Int)<=i):ix xs i=none:=by
 unfold ix;by_cases h0:0<=i
 .grind
 .grind
theorem Lx{xs:Td α}(h0:0<=i)(h1:i<xs.length):∃x,ix xs i=some x/\x∈xs:=by
 obtain⟨x,d,h⟩:=bo (xs:=xs) (A0:i.toNat<xs.length);refine⟨x,?_,h⟩;have:=aW d
 rwa [Int.toNat_of_nonneg h0]at this
theorem w_c9{nm:Td Z}{op:Int}{o:Opr}(hA:Alg kd nm sb ops)(hab:ab.length=nm.length)(ho:ix ops op=some o)(k:Nat)(hk:k<=4294967296)(ae:Td Tm)(y:∀x∈ae,x.az<k)(hl:ae.length<4294967296)(v:if o.aE=true then 2<=ae.length else ae.length=(first o).ae.length)(m:Mp)(h:Int)(j:Z)(d:Bool->Mp->Y R):
  z1a.c9 (GW k) (ae.length+1) ab be kd nm sb ops m op j h ae o.ah o.aJ o.aE o.comm o.aO d=d (fg ⟨⟨nm,sb⟩,ops⟩ o op (dA ⟨⟨nm,sb⟩,ops⟩) none 0 ae) m:=by
 unfold z1a.c9;have e:=Mh (R:=R) (be:=be) hA hab ho (ae.length+1) k hk ae y hl v m h j (λt4 w=>d t4 w) (λt=>d true t) (ae.length+1) 0 A0 A0;rw[OQ]at e;refine e.trans ?_;show (bif fg ⟨⟨nm,sb⟩,ops⟩ o op (dA ⟨⟨nm,sb⟩,ops⟩) none 0 ae then d true m else d false m)=_;cases fg ⟨⟨nm,sb⟩,ops⟩ o op (dA ⟨⟨nm,sb⟩,ops⟩) none 0 ae<;>rfl
theorem M9{nm:Td Z}(hA:Alg kd nm sb ops)(hab:ab.length=nm.length)(k:Nat)(hk:k<4294967296)(t:Tm)(A:t.az<k+1)(m:Mp)(K:Bool->Mp->Y R):
  z1a.aq (GW k) (t.ae.length+1) ab be kd nm sb ops m t K=K (dA ⟨⟨nm,sb⟩,ops⟩ t) m:=by
 have h:∀x∈t.ae,x.az<k:=λx h=>by have:=aM h;omega
 have hl:t.ae.length<4294967296:=by have:=ct t.ae;have:=bu t;omega
 unfold z1a.aq;rw[j6,Tm.eta];unfold mb ii;by_cases h1:t.op= -1
 .rw[dT h1,cT,mt h1,mt h1];show Option.bind (vW ab be kd nm sb ops m t) _=_;unfold vW;rw[mt h1,bS,hab,Qt]
 .rw [decide_eq_false h1,cond_false,O2 h1,O2 h1];by_cases h2:t.op<0
  .rw[dT h2,cT,qW (xs:=ops) (.inl h2)];rfl
  .rw [decide_eq_false h2,cond_false];by_cases j:(ops.length:Int)<=t.op
   .rw[dT j,cT,qW (xs:=ops) (.inr j)];rfl
   .rw [decide_eq_false j,cond_false];obtain⟨o,ho,_⟩:=Lx (xs:=ops) (A0:0<=t.op) (A0:t.op<ops.length);have v:=jL hA.1 (bZ (xs:=ops) ho).1;rw[ho,bS];simp only;cases B:sEq t.ah ByteArray.empty with
    |false=>rfl
    | true=>
     rw[O4,cF,O7];by_cases hs:t.am=0
     .rw[dT hs,O4,cF,O7];have c9:=λw=>w_c9 (R:=R) (be:=be) hA hab ho k A0 t.ae h hl w m t.am t.ah (λy d=>K y d);unfold z1a.c6;cases C:o.aE with
      | true=>
       rw[cT,mt rfl];by_cases g1:t.ae.length<2
       .grind
       .grind
      | false=>
       rw[cF,O2 A3,OS,cT,gf v.dl,bS];by_cases g1:t.ae.length=(first o).ae.length
       .grind
       .grind
     .grind
theorem qv:∀k,k<=4294967296->aj (z1a.ent (gWm k))
 |0,_=>okQ (by (repeat intro h);simp[gWm]at h)
 | k+1,hk=>z1a.ok (G:=GW k) ⟨mZ,qv k A0,pS,tF,u9,z0b 4294967296 (O3 _),trivial⟩ fun ab be kd nm sb ops m t r h=>by
  unfold gWm at h;split at h
  .rename_i hs;cases h;exact⟨t.ae.length+1,(M9 hs.1 hs.2.1 k A0 t hs.2.2 m _).trans rfl⟩
  .cases h
def isT(s:Sg)(t:Tm):Bool:=decide (tsz t<=60)&&(decide (tdp t<=20)&&dA s t)
noncomputable def Dl:Td Int->Td Int->Td Int->Td Z->Td Sb->Td Opr->Mp->Tm->Y (Bool×Mp):=λab _ kd nm sb ops m t=>if Alg kd nm sb ops/\ab.length=nm.length/\t.az<4294967296 then some (isT ⟨⟨nm,sb⟩,ops⟩ t,m)else none
theorem zA:aj (z13.ent Dl):=z13.ok (G:=⟨gSz 4294967296,gDp 4294967296,gWm 4294967296⟩) ⟨z0t _ (O3 _),z0d _ (O3 _),qv _ (O3 _),trivial⟩ λab be kd nm sb ops m t r h=>by
 unfold Dl at h;split at h
 .rename_i hs;cases h;refine⟨1,?_⟩;unfold z13.aq isT;rw[Tm.eta];have e1:gSz 4294967296 t=some (tsz t:Int):=mt hs.2.2;have e2:gDp 4294967296 t=some (tdp t:Int):=mt hs.2.2;have e3:gWm 4294967296 ab be kd nm sb ops m t=some (dA ⟨⟨nm,sb⟩,ops⟩ t,m):=mt hs;show Option.bind (gSz 4294967296 t) _=_;rw[e1,bS];by_cases h1:tsz t<=60
  .grind
  .grind
 .cases h
end
abbrev wd:Int->Int->Int->Y Bool:=λx lo hi=>some (decide (lo<=x)&&decide (x<=hi))
theorem wO{α:Type}{xs:Td α}(hl:xs.length<4294967296)(x:Int):wd x 0 (wr ((xs.length:Int)-1))=some (inN xs.length x):=by
 rw[aX A0];unfold wd inN;by_cases h0:0<=x
 .grind
 .grind
noncomputable def m9:Sg->Tm->Y Bool:=λs t=>if bD s=true/\t.az<4294967296 then some (ii s t)else none
theorem wI{s:Sg}(h:bD s=true):s.ops.length<=14/\s.ai.ak.length<=8:=by
 unfold bD jR at h;simp only[bA,O8]at h;exact⟨h.2.1,h.1.2.1⟩
theorem NZ{R:Type}{s:Sg}(hS:bD s=true){t:Tm}(hl:t.ae.length<4294967296)(K:Bool->Y R):z4c.aq ⟨uw,wd,gAr⟩ 1 s t K=K (ii s t):=by
 obtain⟨l1,l2⟩:=wI hS;unfold z4c.aq ii;by_cases h1:t.op= -1
 .rw [decide_eq_true h1,cond_true,mt h1];show Option.bind (uw t.ah) _=_;unfold uw;rw[bS];cases h:cY t.ah with
  |false=>rfl
  | true=>
   rw[cT,O7];show Option.bind (wd t.am 0 _) _=_;rw[wO A0,bS];show (bif inN (nS s) t.am then _ else _)=_;cases inN (nS s) t.am with
   |false=>rfl
   | true=>
    rw[cT,O7]
    congr 1
    exact decide_eq_decide.2 A0
 .rw [decide_eq_false h1,cond_false,O2 h1];show Option.bind (wd t.op 0 _) _=_;rw[wO A0,bS];cases hi:inN s.ops.length t.op with
  | false=>
   have:ix s.ops t.op=none:=qW (by
    have:=Bool.eq_false_iff.1 hi;rw[Ne,kG]at this;omega)
   rw[this];rfl
  | true=>
   obtain⟨j,v⟩:=kG.1 hi;obtain⟨o,ho,_⟩:=Lx j v;have d:=jL hS (bZ (xs:=s.ops) ho).1;rw[ho,O4,cF];simp only;cases h:sEq t.ah ByteArray.empty with
   |false=>rfl
   | true=>
    rw[O4,cF,O7];by_cases hs:t.am=0
    .rw[dT hs,O4,cF,O7,bS];cases w:o.aE with
     | true=>
      rw[O4,cF,mt rfl,cT];show Option.bind (wd (t.ae.length:Int) 2 7) _=_;unfold wd;rw[bS];by_cases g1:2<=t.ae.length
      .grind
      .grind
     | false=>
      rw[OS,cT,O2 A3];show Option.bind (gAr o) _=_;rw[Mq d.dl,bS];by_cases g1:t.ae.length=(first o).ae.length
      .grind
      .grind
    .grind
theorem vp:aj (z4c.ent m9):=z4c.ok (G:=⟨uw,wd,gAr⟩) ⟨z2o,BX,ru,trivial⟩ λs t r h=>by
 unfold m9 at h;split at h
 .rename_i hs;cases h;exact⟨1,(NZ hs.1 (by have:=ct t.ae;have:=bu t;omega) _).trans rfl⟩
 .cases h
noncomputable abbrev GR(K:Nat):z4e.Gs:={z3i:=kT,z4g:=ub,z48:=gw,z3y:=ga K,z2d:=bV K}
def gZ(s:Sg)(o:Opr)(op:Int):Y Tm->Int->Td Tm->Bool:=fg s o op λ_=>true
theorem nL{s:Sg}{o:Opr}{op:Int}{w:Tm->Bool}:∀{xs:Td Tm}{p:Y Tm}{i:Int},fg s o op w p i xs=(xs.all w&&gZ s o op p i xs)
 |[],_,_=>rfl
 | x::xs,p,i=>by
  unfold gZ fg;rw[nL (xs:=xs),Pe];unfold gZ;cases w x<;>cases vX s o op p i x<;>cases xs.all w<;>rfl
section
variable {R : Type} {s : Sg} {op : Int} {o : Opr} (hS : bD s = true) (ho : ix s.ops op = some o)
include hS ho
theorem K8{x:Tm}(h:Good s x){K:Nat}(hk:x.az<K)(A B:Y R):(bif !decide (o.aO=0)then Option.bind (ga K x (uOf o)) λr=>bif r then A else B else B)=bif kR o x then A else B:=by
 unfold kR uOf;by_cases d:o.aO=0
 .grind
 .rw[dF d,O2 d,OS,cT,O7];unfold ga;rw[mt hk,bS];have:=(Cd hS ho d h).1;rw[decide_eq_decide.2 this]
theorem Oe(K n:Nat)(ae:Td Tm)(D:∀x∈ae,Good s x/\x.az<K)(hl:ae.length<4294967296)(i:Nat)(x:Tm)(h:ae[i]? =some x)(v:0<=atI o (i:Int)/\atI o (i:Int)<(first o).ae.length)(w:Z)(A:Int)(j:Bool->Y R)(k1:Y R):
  z4e.c11 (GR K) n (kS s) (!decide (o.aO=0)) (i:Int) (atI o (i:Int)) s.ai.ak s.ai.aA s.ops op w A ae o.ah o.aJ o.aE o.comm o.aO (uOf o).op (uOf o).ah (uOf o).am (uOf o).ae x.op x.ah x.am x.ae j k1=bif vX s o op (jH ae i) (i:Int) x then k1 else j false:=by
 have B:=jL hS (bZ (xs:=s.ops) ho).1;obtain⟨E,tx⟩:=D x (mG h);have hi:i<ae.length:=(gI.1 h).1
 have c13:∀(j:Bool->Y R)(k1:Y R),z4e.c13 (GR K) n (kS s) (!decide (o.aO=0)) (i:Int) s.ai.ak s.ai.aA s.ops op w A ae o.ah o.aJ o.aE o.comm o.aO (uOf o).op (uOf o).ah (uOf o).am (uOf o).ae x.op x.ah x.am x.ae j k1=bif o.comm&&(match jH ae i with
    |some y=>decide (0<bR y x)
    |none=>false)then j false else k1:=λj k1=>by
  have e:=yd (x:=x) K hi (λy G=>(D y G).2) hl o.comm (j false) k1;unfold z4e.c13;rw[Tm.eta];exact e
 unfold z4e.c11;rw[Tm.eta,Tm.eta];show Option.bind (gw s x) _=_;have e1:gw s x=some (dG s x):=mt ⟨hS,E.kn⟩;obtain⟨H,I,a3⟩:=zv B v.1 v.2;rw[e1,bS,gf B.dl,bS,H,bS,sJ I a3,bS];unfold vX;by_cases t:dG s x=od s o (i:Int)
 .have d:dG s x=dh (kS s) (dh (first o).ae (atI o (i:Int))):=t;rw[dT d,dT t,O4,cF,O7];have un:=K8 (R:=R) hS ho E tx (j false);cases F:o.aE with
  | false=>
   rw[cF,Bool.false_and,OS,O7];rw[F]at c13
   refine PV ?_ (PV (un (bif o.comm&&(match jH ae i with
    |some y=>decide (0<bR y x)
    |none=>false)then j false else k1)) ?_)
   .grind
   .grind
  | true=>
   rw[cT,O7];by_cases C:x.op=op
   .grind
   .rw[dF C,cF,OS,O7];rw[F]at c13
    refine PV ?_ (PV (un (bif o.comm&&(match jH ae i with
     |some y=>decide (0<bR y x)
     |none=>false)then j false else k1)) ?_)
    .grind
    .grind
 .have d:¬dG s x=dh (kS s) (dh (first o).ae (atI o (i:Int))):=t;rw[dF d,dF t];rfl
theorem NX(K n:Nat)(ae:Td Tm)(A:∀x∈ae,Good s x/\x.az<K)(hl:ae.length<4294967296)(v:if o.aE=true then 2<=ae.length else ae.length=(first o).ae.length)(d:Z)(h:Int)(j:Bool->Y R)(k1:Y R):∀f (i:Nat),i<=ae.length->ae.length-i<f->
  z4e.l5 (GR K) n f (kS s) (!decide (o.aO=0)) s.ai.ak s.ai.aA s.ops op d h ae o.ah o.aJ o.aE o.comm o.aO (uOf o).op (uOf o).ah (uOf o).am (uOf o).ae (i:Int) j k1=bif gZ s o op (jH ae i) (i:Int) (ae.drop i)then k1 else j false:=by
 have w:=jL hS (bZ (xs:=s.ops) ho).1;intro f
 induction f with
 |zero=>exact T9
 | succ f B=>
  intro i h1 hm;show z4e.b5 (GR K) n (kS s) (!decide (o.aO=0)) s.ai.ak s.ai.aA s.ops op d h ae o.ah o.aJ o.aE o.comm o.aO (uOf o).op (uOf o).ah (uOf o).am (uOf o).ae (i:Int) (λC=>z4e.l5 (GR K) n f (kS s) (!decide (o.aO=0)) s.ai.ak s.ai.aA s.ops op d h ae o.ah o.aJ o.aE o.comm o.aO (uOf o).op (uOf o).ah (uOf o).am (uOf o).ae C j k1) j k1=_;unfold z4e.b5;by_cases hi:i<ae.length
  .obtain⟨x,t,D⟩:=bo hi;rw[bt hi,cT,aW t,bS,bw A0];simp only[];rw[B (i+1) hi A0,bm t,Bp t];have y:=Lc w v hi;have c11:=Oe (R:=R) hS ho K n ae A hl i x t y d h j (bif gZ s o op (some x) ((i+1:Nat):Int) (ae.drop (i+1))then k1 else j false);have e:(bif gZ s o op (jH ae i) (i:Int) (x::ae.drop (i+1))then k1 else j false)=bif vX s o op (jH ae i) (i:Int) x then (bif gZ s o op (some x) ((i+1:Nat):Int) (ae.drop (i+1))then k1 else j false)else j false:=by
    conv=>lhs;unfold gZ fg
    rw[O7];cases vX s o op (jH ae i) (i:Int) x<;>rfl
   rw[e];refine PV ?_ c11;unfold atI;cases E:o.aE with
   |true=>rw[cT,mt rfl]
   |false=>rw[cF,O2 A3]
  .obtain rfl:i=ae.length:=A0
   exact T8
end
noncomputable def kr(K:Nat):Sg->Tm->Y Bool:=λs t=>if bD s=true/\t.az<=K/\Good s t/\t.op≠ -1 then (ix s.ops t.op).map λo=>gZ s o t.op none 0 t.ae else none
theorem zX(K:Nat)(hK:K<=4294967295):aj (z4e.ent (kr K)):=z4e.ok (G:=GR K) ⟨nD,uA,qf,mH K A0,z2e K A0,trivial⟩ λs t r h=>by
 unfold kr at h;split at h
 .rename_i hs;obtain⟨hS,C,w,d⟩:=hs;cases ho:ix s.ops t.op with
  |none=>rw[ho]at h;cases h
  | some o=>
   rw[ho]at h;cases h;refine⟨t.ae.length+1,?_⟩;have hl:=ct t.ae;have A:=bu t;have j:if o.aE=true then 2<=t.ae.length else t.ae.length=(first o).ae.length:=by
    cases w with
    |var=>exact absurd rfl d
    |app v B _=>rw[show ix s.ops _=some _ from v]at ho;cases ho;exact B
   have e1:kT s.ai=some (kS s):=mt (pi hS);have e2:ub s t.op=some (uOf o, !decide (o.aO=0)):=by
    unfold ub uOf;rw[mt hS,ho];by_cases D:o.aO=0
    .grind
    .grind
   unfold z4e.aq;rw[ho,bS];show Option.bind (kT s.ai) _=_;rw[e1,bS];show Option.bind (ub s t.op) _=_;rw[e2,bS];have e:=NX (R:=AT×Td Ob) hS ho K (t.ae.length+1) t.ae (λx y=>⟨w.ae x y,by have:=aM y;omega⟩) A0 j t.ah t.am (λt4=>some (AT.one (.b t4),[])) (some (AT.one (.b true),[])) (t.ae.length+1) 0 A0 A0;rw[OQ]at e;refine e.trans ?_;show (bif gZ s o t.op none 0 t.ae then _ else _)=some (AT.one (.b (gZ s o t.op none 0 t.ae)),[]);cases gZ s o t.op none 0 t.ae<;>rfl
 .cases h
noncomputable def ll(k:Nat):Sg->Tm->Y Bool:=λs t=>if bD s=true/\t.az<k then some (dA s t)else none
theorem LY{R:Type}(K k n:Nat){s:Sg}(hS:bD s=true)(h1:Int)(d:Z)(h:Int)(ae:Td Tm)(v:∀x∈ae,x.az<k)(hl:ae.length<4294967296)(j:Bool->Y R)(k1:Y R):∀f (i:Nat),i<=ae.length->ae.length-i<f->
  z47.l4 ⟨m9,ll k,kr K⟩ n f s.ai.ak s.ai.aA s.ops h1 d h ae (i:Int) j k1=bif (ae.drop i).all (dA s)then k1 else j false:=by
 intro f
 induction f with
 |zero=>exact T9
 | succ f w=>
  intro i y hm;show z47.b4 ⟨m9,ll k,kr K⟩ n s.ai.ak s.ai.aA s.ops h1 d h ae (i:Int) (λA=>z47.l4 ⟨m9,ll k,kr K⟩ n f s.ai.ak s.ai.aA s.ops h1 d h ae A j k1) j k1=_;unfold z47.b4;by_cases hi:i<ae.length
  .obtain⟨x,t,B⟩:=bo hi;rw[bt hi,cT,aW t,bS,bw A0,Tm.eta];simp only[];rw[w (i+1) hi A0,bm t,Pe];show Option.bind (ll k s x) _=_;have e:ll k s x=some (dA s x):=mt ⟨hS,v x B⟩;rw[e,bS];cases dA s x<;>rfl
  .grind
theorem C7{s:Sg}{t:Tm}(h:ii s t=true)(v:t.ae.all (dA s)=true):(t.op= -1->t.ae=[])/\(t.op≠ -1->∃o,ix s.ops t.op=some o/\Good s t):=by
 unfold ii at h;refine⟨λho=> ?_,λho=> ?_⟩
 .grind
 .rw[O2 ho]at h;cases j:ix s.ops t.op with
  |none=>rw[j]at h;simp at h
  | some o=>
   rw[j]at h;simp only[bA,O8]at h;obtain⟨h1,h2,d⟩:=h;have h1:t.ah=ByteArray.empty:=ON h1;refine⟨o,rfl,?_⟩;have w:∀a∈t.ae,Good s a:=λa hm=>hQ (aT.1 v a hm);obtain⟨op,nm,y,ar⟩:=t;have h1:nm=ByteArray.empty:=h1;have h2:y=0:=h2;subst h1 h2;refine .app j ?_ w;cases hc:o.aE with
   |true=>rw[hc,mt rfl]at d;rw[mt rfl];simp only[bA,O8]at d;exact d.1
   |false=>rw[hc,O2 A3]at d;rw[O2 A3];exact ON d
theorem sw{s:Sg}{t:Tm}(h:ii s t=true):(t.op= -1->t.ae=[])/\(t.op≠ -1->∃o,ix s.ops t.op=some o):=by
 unfold ii at h;refine⟨λho=> ?_,λho=> ?_⟩
 .grind
 .grind
theorem uI:∀k,k<=4294967295->aj (z47.ent (ll k))
 |0,_=>okQ (by (repeat intro h);simp[ll]at h)
 | k + 1, hk=>z47.ok (G:=⟨m9,ll k,kr k⟩) ⟨vp,uI k A0,zX k A0,trivial⟩ fun s t r h=>by
  unfold ll at h;split at h
  .rename_i hs;obtain⟨hS,C⟩:=hs;cases h;have hl:=ct t.ae;have w:=bu t;refine⟨t.ae.length+1,?_⟩;unfold z47.aq;rw[j6];unfold mb;rw[Tm.eta];show Option.bind (m9 s t) _=_;have e1:m9 s t=some (ii s t):=mt ⟨hS,A0⟩;rw[e1,bS];cases v:ii s t with
   |false=>rfl
   | true=>
    rw[O4,cF,O7];refine(LY k k (t.ae.length+1) hS t.op t.ah t.am t.ae (λx y=>by have:=aM y;omega) A0 _ _ (t.ae.length+1) 0 A0 A0).trans ?_;rw[OQ];cases j:t.ae.all (dA s)with
    | false=>
     by_cases ho:t.op= -1
     .rw[(sw v).1 ho]at j;cases j
     .obtain⟨o,d⟩:=(sw v).2 ho;rw[O2 ho,d];simp only;rw[nL,j];rfl
    | true=>
     rw[cT];obtain⟨g1,A⟩:=C7 v j;by_cases ho:t.op= -1
     .grind
     .obtain⟨o,d,B⟩:=A ho;rw[dF ho,cF,O2 ho,d];simp only;rw[nL,j,O7];show Option.bind (kr k s t) _=_;have e2:kr k s t=some (gZ s o t.op none 0 t.ae):=by
       unfold kr;rw[mt ⟨hS,A0,B,ho⟩,d];rfl
      rw[e2,bS]
  .cases h
end
theorem GD:aj (z3z.ent λx k=>some (Tm.mk (-1) x k [])):=z3z.ok (G:=⟨()⟩) trivial λx k r h=>⟨1,QU⟩
def Mw(k:Nat)(g:Sg->Tm->Y (Tm×Bool)):Prop:=∀s t,(bD s=true/\t.az<k/\t.az<=900)->∃r,g s t=some r/\(r.2=true->Sm s r.1)
noncomputable abbrev gCa(gC:Sg->Tm->Y (Tm×Bool)):z41.Gs:=⟨λx k=>some (Tm.mk (-1) x k []),m9,wd,gC,uP⟩
section
variable {gC:Sg->Tm->Y (Tm×Bool)}{k:Nat}{s:Sg}
theorem EX(E:Mw k gC)(hS:bD s=true)(n:Nat)(h1:Int)(h:Z)(j:Int)(h2:Int)(v:Z)(w:Int)(y:Td Tm)(xs:Td Tm)(A:∀x∈xs,x.az<k/\x.az<=900)(hl:xs.length<=900):∀m (i:Nat) (acc:Td Tm),i<=xs.length->acc.length=i->(∀x∈acc,Sm s x)->xs.length-i<m->
  (∃l,(∀x∈l,Sm s x)/\l.length=xs.length/\∀(R:Type)(d:Bool->Int->Z->Int->Td Tm->Y R)(k1:Td Tm->Y R),z41.l7 (gCa gC) n m s.ai.ak s.ai.aA s.ops h1 h j xs h2 v w y (i:Int) acc d k1=k1 l)\/
  (∀(R:Type)(d:Bool->Int->Z->Int->Td Tm->Y R)(k1:Td Tm->Y R),z41.l7 (gCa gC) n m s.ai.ak s.ai.aA s.ops h1 h j xs h2 v w y (i:Int) acc d k1=d false 0 ByteArray.empty 0 []):=by
 intro m
 induction m with
 |zero=>intro i acc _ _ _ hm;omega
 | succ m F=>
  intro i acc hi G hs hm;have step:∀(R:Type)(d:Bool->Int->Z->Int->Td Tm->Y R)(k1:Td Tm->Y R),z41.l7 (gCa gC) n (m+1) s.ai.ak s.ai.aA s.ops h1 h j xs h2 v w y (i:Int) acc d k1=z41.b7 (gCa gC) n s.ai.ak s.ai.aA s.ops h1 h j xs h2 v w y (i:Int) acc (λH I=>z41.l7 (gCa gC) n m s.ai.ak s.ai.aA s.ops h1 h j xs h2 v w y H I d k1) d k1:=λR d k1=>rfl;by_cases B:i<xs.length
  .have D:xs[i]? =some xs[i]:=O0 B;obtain⟨b1,b2⟩:=A xs[i] (gM B);obtain⟨⟨t,q⟩,e1,g1⟩:=E s xs[i] ⟨hS,b1,b2⟩;have es:Sg.mk (So.mk s.ai.ak s.ai.aA) s.ops=s:=rfl;cases q with
   | false=>
    refine .inr λR d k1=> ?_;rw[step];unfold z41.b7;dsimp only;rw[dT A0,cT,aW D,bS,Tm.eta,es,e1,bS];rfl
   | true=>
    have J:(acc++[t]).length=i+1:=by simp[G]
    have C:∀(R:Type)(d:Bool->Int->Z->Int->Td Tm->Y R)(k1:Td Tm->Y R),z41.l7 (gCa gC) n (m+1) s.ai.ak s.ai.aA s.ops h1 h j xs h2 v w y (i:Int) acc d k1=z41.l7 (gCa gC) n m s.ai.ak s.ai.aA s.ops h1 h j xs h2 v w y ((i+1:Nat):Int) (acc++[t]) d k1:=λR d k1=>by
     rw[step];unfold z41.b7;dsimp only;rw[dT A0,cT,aW D,bS,Tm.eta,es,e1,bS,O4,cF];simp only[Tm.eta];rw[jx A0,bS,bw A0]
    rcases F (i+1) (acc++[t]) B J (λx A=>by
     rcases List.mem_append.1 A with A|A
     .exact hs x A
     .rw[List.mem_singleton.1 A];exact g1 rfl) A0 with⟨l,q1,q2,q3⟩|q1
    .exact .inl ⟨l,q1,q2,λR d k1=>(C R d k1).trans (q3 R d k1)⟩
    .exact .inr λR d k1=>(C R d k1).trans (q1 R d k1)
  .refine .inl ⟨acc,hs,A0,λR d k1=> ?_⟩;rw[step];unfold z41.b7;rw[dF A0,cF]
theorem Kj(hS:bD s=true){op:Int}{o:Opr}(ho:ix s.ops op=some o){l:Td Tm}(hl:∀x∈l,Sm s x)(h:(ff s o op l).2=true):Sm s (ff s o op l).1:=by
 obtain⟨m1,j⟩:=xp s o op l;rw[m1]at h;obtain⟨t,d⟩:=Option.isSome_iff_exists.1 h;rw[j t d];exact yM hS ho hl d
theorem Fp(G:Mw k gC)(hS:bD s=true)(t:Tm)(J:t.az<k+1)(L:t.az<=900):∃r q,(q=true->Sm s r)/\∀(R:Type)(K:Tm->Bool->Y R),z41.aq (gCa gC) (t.ae.length+1) s t K=K r q:=by
 have bF:=ct t.ae;have F:=bu t;obtain⟨H,_⟩:=wI hS;by_cases h1:t.op= -1
 .refine⟨Tm.mk (-1) t.ah t.am [],ii s t,λj=> ?_,λR K=> ?_⟩
  .unfold ii at j;rw[mt h1]at j;unfold inN at j;simp only[bA,O8]at j;exact⟨.var j.2.1.1 j.2.1.2 j.1,by rw[dY];simp[wS]⟩
  .unfold z41.aq;dsimp only;rw[dT h1,cT,bS,Tm.eta,show m9 s t=some (ii s t)from mt ⟨hS,A0⟩,bS]
 .have no:∀(R:Type)(K:Tm->Bool->Y R),(inN s.ops.length t.op&&(sEq t.ah ByteArray.empty&&decide (t.am=0)))=false->z41.aq (gCa gC) (t.ae.length+1) s t K=K (Tm.mk 0 ByteArray.empty 0 []) false:=λR K w=>by
   unfold z41.aq;dsimp only;rw[dF h1,cF,wO A0,bS];cases e1:inN s.ops.length t.op with
   |false=>rfl
   | true=>cases e2:sEq t.ah ByteArray.empty with
    |false=>rfl
    | true=>
     rw[e1,e2,O7,O7]at w;rw[w];rfl
  cases w:(inN s.ops.length t.op&&(sEq t.ah ByteArray.empty&&decide (t.am=0)))with
  |false=>exact⟨_,false,(λh=>HC),λR K=>no R K w⟩
  | true=>
   simp only[bA]at w;obtain⟨b1,b2,b3⟩:=w;have v:=b1;unfold inN at v;simp only[bA,O8]at v;have ho:ix s.ops t.op=some s.ops[t.op.toNat]:=by
    unfold ix;rw[dT v.1,cT];exact O0 A0
   have go:∀(R:Type)(K:Tm->Bool->Y R),z41.aq (gCa gC) (t.ae.length+1) s t K=z41.l7 (gCa gC) (t.ae.length+1) (t.ae.length+1) s.ai.ak s.ai.aA s.ops t.op t.ah t.am t.ae 0 ByteArray.empty 0 [] (0:Int) [] (λt5 y A B C=>K (Tm.mk y A B C) t5) (λD=>Option.bind (uP s t.op D) λd=>K (Tm.mk (Tm.op d.1) (Tm.ah d.1) (Tm.am d.1) (Tm.ae d.1)) d.2):=λR K=>by
    unfold z41.aq;dsimp only;rw[dF h1,cF,wO A0,bS,b1,b2,b3];rfl
   rcases EX G hS (t.ae.length+1) t.op t.ah t.am 0 ByteArray.empty 0 [] t.ae (λx E=>by have:=aM E;omega) A0 (t.ae.length+1) 0 [] (P6 _) rfl (λx E=>by simp at E) A0 with⟨l,q1,q2,q3⟩|q1
   .have hm:uP s t.op l=some (ff s s.ops[t.op.toNat] t.op l):=by
     unfold uP;rw[mt ⟨hS,λa I=>(q1 a I).1,by have:=p9 q1;omega⟩,ho];rfl
    refine⟨(ff s s.ops[t.op.toNat] t.op l).1,(ff s s.ops[t.op.toNat] t.op l).2,Kj hS ho q1,λR K=>(go R K).trans ((q3 R _ _).trans ?_)⟩;rw[hm,bS,Tm.eta]
   .exact⟨_,false,(λh=>HC),λR K=>(go R K).trans (q1 R _ _)⟩
theorem E8:aj (z41.ent λ_ _=>none):=okQ (by (repeat intro h);simp at h)
theorem qm:∀k:Nat,∃g,aj (z41.ent g)/\Mw k g
 |0=>⟨_,E8,λs t ⟨_,h,_⟩=>absurd h (OM _)⟩
 | k+1=>by
  obtain⟨gC,d,j⟩:=qm k;exact oi (λg v=>z41.ok (G:=gCa gC) ⟨GD,vp,BX,d,D5,trivial⟩ v) λs t ⟨hS,h1,h2⟩=>by
   obtain⟨r,q,q1,q2⟩:=Fp j hS t h1 h2;exact⟨(r,q),⟨t.ae.length+1,q2 _ _⟩,q1⟩
def Fv(g:Sg->Tm->Y (Tm×Bool)):Prop:=∀s t,(bD s=true/\t.az<=900)->∃r,g s t=some r/\(r.2=true->Sm s r.1)
theorem Ar:∃g,aj (z41.ent g)/\Fv g:=by
 obtain⟨g,e,h⟩:=qm 901;exact⟨g,e,λs t ⟨hS,d⟩=>h s t ⟨hS,A0,d⟩⟩
end
theorem FD:∀xs:Td Tm,xs.length<=wS tsz xs
 |[]=>P6 _
 | x::xs=>by
  have:=FD xs;have:1<=tsz x:=by rw[dY];omega
  show xs.length+1<=tsz x+wS tsz xs;omega
def Sz(t:Tm):Prop:=t.az<=900/\t.ae.length<=60
theorem Sm.sz{s:Sg}{t:Tm}(h:Sm s t):Sz t:=⟨P3 h.az A0,by have:=FD t.ae;have:=h.2;rw[dY]at this;omega⟩
section
variable {gW : Cur → Sg → Int → Bool → Y (Tm × Cur)} {gC : Sg → Tm → Y (Tm × Bool)}
theorem JA(E:R6P gW)(F:Fv gC){s:Sg}(hS:bD s=true)(n:Nat)(d:Int)(hd: -1000<=d/\d<=3)(v:Bool)(h2:Int)(j:Z)(w:Int)(y:Td Tm):∀m (i:Nat) (c:Cur),Inv c->i<=8->8-i<m->
  ∃ c',Inv c'/\((∃t:Tm,Sz t/\∀(R:Type) (h:Td Int->Int->Int->Int->Z->Int->Td Tm->Y R) (k1:Td Int->Int->Int->Y R),z43.l2 ⟨gW,gC⟩ n m d v s.ai.ak s.ai.aA s.ops h2 j w y (i:Int) c.b c.i c.h h k1=h c'.b c'.i c'.h t.op t.ah t.am t.ae)\/
   (∀(R:Type)(h:Td Int->Int->Int->Int->Z->Int->Td Tm->Y R)(k1:Td Int->Int->Int->Y R),z43.l2 ⟨gW,gC⟩ n m d v s.ai.ak s.ai.aA s.ops h2 j w y (i:Int) c.b c.i c.h h k1=k1 c'.b c'.i c'.h)):=by
 intro m
 induction m with
 |zero=>intro i c _ _ hm;omega
 | succ m G=>
  intro i c hc hi hm;have hl:s.ops.length<=200:=by have:=(wI hS).1;omega
  have step:∀(R:Type)(h:Td Int->Int->Int->Int->Z->Int->Td Tm->Y R)(k1:Td Int->Int->Int->Y R),z43.l2 ⟨gW,gC⟩ n (m+1) d v s.ai.ak s.ai.aA s.ops h2 j w y (i:Int) c.b c.i c.h h k1=z43.b2 ⟨gW,gC⟩ n d v s.ai.ak s.ai.aA s.ops h2 j w y (i:Int) c.b c.i c.h (λH I J K=>z43.l2 ⟨gW,gC⟩ n m d v s.ai.ak s.ai.aA s.ops h2 j w y H I J K h k1) h k1:=λR h k1=>rfl;by_cases B:i<8
  .obtain⟨⟨t,c1⟩,e1,D,C⟩:=E c s d v ⟨hc,hl,hd.1,hd.2⟩;dsimp only at D C;obtain⟨⟨A,q⟩,e2,L⟩:=F s t ⟨hS,D⟩;have M:Cur.mk c.b c.i c.h=c:=rfl;have es:Sg.mk (So.mk s.ai.ak s.ai.aA) s.ops=s:=rfl;have one:∀(R:Type)(h:Td Int->Int->Int->Int->Z->Int->Td Tm->Y R)(k1:Td Int->Int->Int->Y R),z43.l2 ⟨gW,gC⟩ n (m+1) d v s.ai.ak s.ai.aA s.ops h2 j w y (i:Int) c.b c.i c.h h k1=bif q then h c1.b c1.i c1.h A.op A.ah A.am A.ae else z43.l2 ⟨gW,gC⟩ n m d v s.ai.ak s.ai.aA s.ops h2 j w y ((i+1:Nat):Int) c1.b c1.i c1.h h k1:=λR h k1=>by
    rw[step];unfold z43.b2 z43.d4;dsimp only;rw[dT A0,cT,M,es,e1,bS];simp only[Tm.eta];rw[e2,bS,bw A0]
   cases q with
   |true=>exact⟨c1,C,.inl ⟨A,(L rfl).sz,λR h k1=>one R h k1⟩⟩
   | false=>
    obtain⟨c',N,q1|q1⟩:=G (i+1) c1 C B A0
    .grind
    .grind
  .refine⟨c,hc,.inr λR h k1=> ?_⟩;rw[step];unfold z43.b2;rw[dF A0,cF]
def D6P(g:Cur->Sg->Int->Bool->Y (Tm×Cur)):Prop:=∀c s d v,(Inv c/\bD s=true/\ -1000<=d/\d<=3)->∃r,g c s d v=some r/\(Sz r.1/\Inv r.2)
theorem Ey(j:R6P gW)(w:Fv gC)(y:aj (z4d.ent gW))(A:aj (z41.ent gC)):∃g,aj (z43.ent g)/\D6P g:=
 xV (λg B=>z43.ok (G:=⟨gW,gC⟩) ⟨y,A,trivial⟩ B) λc s d v ⟨hc,hS,h1,h2⟩=>by
  obtain⟨c',h,q1|q1⟩:=JA j w hS 9 d ⟨h1,h2⟩ v 0 ByteArray.empty 0 [] 9 0 c hc A0 A0
  .obtain⟨t,C,D⟩:=q1;refine⟨(t,c'),⟨9,(D _ _ _).trans ?_⟩,C,h⟩;rw[Tm.eta]
  .exact⟨(Tm.mk 0 ByteArray.empty 0 [],c'),⟨9,q1 _ _ _⟩,⟨by rw[lH];decide,P6 _⟩,h⟩
end
end Go.Proofs.YtkegnipofloejaaGreatDoor.Den

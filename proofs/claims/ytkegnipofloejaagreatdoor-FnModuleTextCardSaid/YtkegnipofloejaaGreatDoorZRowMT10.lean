import Derived.Test.YtkegnipofloejaaGreatDoorZRowMT8
namespace Go.Proofs.YtkegnipofloejaaGreatDoor.Den
open Go.RowKit
set_option maxRecDepth 100000
set_option linter.unusedVariables false
noncomputable section
namespace z1o
structure Gs where
 z0j:z0j.Q
 z1p:z1p.Q
def aq{R:Type}(G:Gs)(n:Nat)(s:Sg)(K:(Y (LI×LI×LI×LB×LS×LO×LM))->Y R):Y R:=(G.z0j s).bind λr=>bif !r then(K none)else(G.z1p s.ai).bind λd=>K (some (d.1.db,d.1.below,d.1.kind,s.ai.ak,s.ai.aA,s.ops,[]))
theorem ok{G:Gs}(d:ap [z0j.ent G.z0j,z1p.ent G.z1p]){g:Q}(t:∀s r,g s=some r->∃n,aq (R:=AT×Td Ob) G n s (λr=>rV r (some (UQ,[])) (λq=>(some (V5,TN q.1 q.2.1 q.2.2.1 q.2.2.2.1 q.2.2.2.2.1 q.2.2.2.2.2.1 q.2.2.2.2.2.2))))=rV r (some (UQ,[])) (λq=>(some (V5,TN q.1 q.2.1 q.2.2.1 q.2.2.2.1 q.2.2.2.2.1 q.2.2.2.2.2.1 q.2.2.2.2.2.2)))):aj (ent g):=λR xs H K r hc=>by
 simp only[ent]at hc;split at hc
 .obtain⟨r,v,h⟩:=bb hc;obtain⟨n,j⟩:=t _ _ v;cases r with
  |none=>exact SK
  |some q=>exact SK
 .cases hc
end z1o
namespace z16
structure Gs where
 none_:Unit
def aq{R:Type}(G:Gs)(n:Nat)(A B d:LI)(C:LB)(D:LS)(j:LO)(h:LM)(t:Tm)(K:Int->LM->Y R):Y R:=bif decide (t.op<0)then((ix d t.am).bind λe2=>K e2 h)else(ix j t.op).bind λv=>(ix v.aJ 0).bind λw=>(ix d w.result).bind λy=>K y h
theorem ok{G:Gs}(C:ap []){g:Q}(D:∀d h v w y A B t r,g d h v w y A B t=some r->∃n,aq (R:=AT×Td Ob) G n d h v w y A B t (λr0 E=>some (Tv r0,TN d h v w y A E))=some (Tv r.1,TN d h v w y A r.2)):aj (ent g):=okQ λ_ _ _ _ _ _ _ _ _ _ _ _ _ _ hc=>Tk hc (D _ _ _ _ _ _ _ _) λ_ _ j=>fF C ⟨37,2,[],[],[4],[(2,⟨[(Te 10,[],[])],[],[],[0,1,2],[]⟩),(3,⟨[(Te 21,[],[])],[],[],[0,1,2],[]⟩)],[]⟩ nP Tryz.func60 j
end z16
namespace z0x
structure Gs where
 none_:Unit
def ents(_:Gs):Td Ent:=[]
def c4{R:Type}(G:Gs)(n:Nat)(C D j:LI)(E:LB)(F:LS)(H:LO)(d:Int)(h1:LM)(h2:Z)(h:LD)(t v:Bool)(w:Int)(y:Int->Y R):Y R:=(ix h 0).bind λe2=>(ix e2.ae d).bind λA=>(ix j A).bind λB=>y B
variable{R:Type}(G:Gs)(n:Nat)
def aq(v w y:LI)(A:LB)(B:LS)(h:LO)(d:LM)(op j:Int)(K:Int->LM->Y R):Y R:=(ix h op).bind λe=>bif e.aE then(c4 G n v w y A B h 0 d e.ah e.aJ e.aE e.comm e.aO (λC=>K C d))else c4 G n v w y A B h j d e.ah e.aJ e.aE e.comm e.aO (λt=>K t d)
def dc4:=rS [0,2,7] [Tw,Tx,U1] [Tr,.m .i,TD] λR K d w y A B C D h1 h2 h j t v=>c4 G n w y A B C D d h1 h2 h j t v (λE=>K .ret ⟨[(6,Tv E)],TN w y A B C D h1⟩)
def pc:Pcs:=⟨nK,Tl 4 (dc4 G n) nK,nK⟩
def an:Ann:=⟨33,2,[],[(4,[0,2,7])],[6],[(4,⟨[(Te 16,[],[])],[],[],[0,1,2],[]⟩)],[]⟩
abbrev bd:=aK Tryz.f121
theorem ok{G:Gs}(B:ap (ents G)){g:Q}(D:∀h t v w y A C op d r,g h t v w y A C op d=some r->∃n,aq (R:=AT×Td Ob) G n h t v w y A C op d (λr0 E=>some (Tv r0,TN h t v w y A E))=some (Tv r.1,TN h t v w y A r.2)):aj (ent g):=okQ λ_ _ _ _ _ _ _ _ _ _ _ _ hc=>Tk hc (D _ _ _ _ _ _ _ _ _) λn _ j=>fF B an (pc G n) Tryz.func121 j (apl [(0,4,Tj 15 bd)] ⟨Tg B (dc4 G n) rfl (pc G n) ⟨[],[6],[]⟩,Th⟩)
end z0x
namespace z14
structure Gs where
 none_:Unit
def aq{R:Type}(G:Gs)(n:Nat)(v w y:LI)(A:LB)(B:LS)(d:LO)(h:LM)(op:Int)(t:Tm)(K:Bool->LM->Y R):Y R:=(ix d op).bind λe2=>bif !decide (e2.aO=0)then((ix d op).bind λj=>K (decide (t.op=(wr (j.aO-1)))) h)else K false h
theorem ok{G:Gs}(C:ap []){g:Q}(D:∀d h v w y A B op t r,g d h v w y A B op t=some r->∃n,aq G n d h v w y A B op t (Vq d h v w y A)=Vq d h v w y A r.1 r.2):aj (ent g):=okQ λ_ _ _ _ _ _ _ _ _ _ _ _ _ _ _ hc=>Tk hc (D _ _ _ _ _ _ _ _ _) λ_ _ j=>fF C ⟨32,2,[],[],[6],[(1,⟨[(Te 26,[],[])],[],[],[0,1,2],[]⟩)],[]⟩ nP Tryz.func122 j
end z14
namespace z19
structure Gs where
 none_:Unit
def aq{R:Type}(G:Gs)(n:Nat)(j t v:LI)(w:LB)(y:LS)(d:LO)(h:LM)(op:Int)(K:Tm->LM->Y R):Y R:=(ix d op).bind λe=>K (Tm.mk (wr (e.aO-1)) ByteArray.empty 0 []) h
theorem ok{G:Gs}(B:ap []){g:Q}(C:∀d h t v w y A op r,g d h t v w y A op=some r->∃n,aq (R:=AT×Td Ob) G n d h t v w y A op (λr0 D=>some (To r0,TN d h t v w y D))=some (To r.1,TN d h t v w y r.2)):aj (ent g):=okQ λ_ _ _ _ _ _ _ _ _ _ _ hc=>Tk hc (C _ _ _ _ _ _ _ _) λ_ _ j=>fF B ⟨16,2,[],[],[4],[],[]⟩ nP Tryz.func154 j
end z19
namespace z15
structure Gs where
 z0h:z0h.Q
 z1q:z1q.Q
def aq{R:Type}(G:Gs)(n:Nat)(h j v:LI)(A:LB)(B:LS)(C:LO)(d:LM)(t:Tm)(K:Bool->LM->Y R):Y R:=bif decide (t.op=(-1))then((G.z0h t.ah).bind λw=>bif w then((G.z1q (Od.mk h j v) t.am).bind λy=>bif y then(K (decide ((List.length t.ae:Int)=0)) d)else K false d)else K false d)else K false d
theorem ok{G:Gs}(C:ap [z0h.ent G.z0h,z1q.ent G.z1q]){g:Q}(D:∀d h v w y A B t r,g d h v w y A B t=some r->∃n,aq G n d h v w y A B t (Vq d h v w y A)=Vq d h v w y A r.1 r.2):aj (ent g):=okQ λ_ _ _ _ _ _ _ _ _ _ _ _ _ _ hc=>Tk hc (D _ _ _ _ _ _ _ _) λ_ _ j=>fF C ⟨28,2,[],[],[4],[(1,⟨[(Te 24,[],[])],[],[],[0,1,2],[]⟩)],[]⟩ nP Tryz.func120 j
end z15
namespace z0s
structure Gs where
 z0s:z0s.Q
def ents(G:Gs):Td Ent:=[ent G.z0s]
def b3{R:Type}(G:Gs)(n:Nat)(h:LT)(j d t9:Int)(t:Int->Int->Y R)(v:Int->Y R):Y R:=bif decide (t9<j)then((ix h t9).bind λe=>(G.z0s (Tm.mk e.op e.ah e.am e.ae)).bind λr=>t (wr (d+r)) (wr (t9+1)))else v d
variable{R:Type}(G:Gs)(n:Nat)
def l3(m:Nat)(d:LT)(h j t9:Int)(t:Int->Y R):Y R:=aY (λ(v:Int×Int) w=>b3 G n d h v.1 v.2 (λy A=>w (y,A)) t) m (j,t9)
def aq(t:Tm)(K:Int->Y R):Y R:=l3 G n n t.ae (List.length t.ae:Int) 1 0 (λd=>K d)
def dl3(m:Nat):=rS [3,7,8,9] [Tx,TL,Tx,Tx] [] λR K h j t t9=>l3 G n m j t h t9 (λd=>K (.exit 0) ⟨[(3,Tv d)],[]⟩)
def pc:Pcs:=⟨Tl 3 (dl3 G n n) nK,nK,nK⟩
def an:Ann:=⟨19,0,[(3,[3,7,8,9])],[],[2],[],[]⟩
abbrev bd:=aK Tryz.f86
theorem ok{G:Gs}(d:ap (ents G)){g:Q}(h:∀t r,g t=some r->∃n,aq G n t Vo=Vo r):aj (ent g):=okQ λ_ _ _ _ _ _ _ hc=>Tk hc (h _) λn _ j=>fF d an (pc G n) Tryz.func86 j (apl [(1,3,.loop (Tj 116 bd))] ⟨Tf d n (dl3 G n) rfl (pc G n) ⟨[3],[2],[(0,[3])]⟩,Th⟩)
end z0s
namespace z0c
structure Gs where
 z0c:z0c.Q
def ents(G:Gs):Td Ent:=[ent G.z0c]
def b3{R:Type}(G:Gs)(n:Nat)(h:LT)(j d t9:Int)(t:Int->Int->Y R)(v:Int->Y R):Y R:=bif decide (t9<j)then((ix h t9).bind λe=>(G.z0c (Tm.mk e.op e.ah e.am e.ae)).bind λr=>t (qS d r) (wr (t9+1)))else v d
variable{R:Type}(G:Gs)(n:Nat)
def l3(m:Nat)(d:LT)(h j t9:Int)(t:Int->Y R):Y R:=aY (λ(v:Int×Int) w=>b3 G n d h v.1 v.2 (λy A=>w (y,A)) t) m (j,t9)
def aq(t:Tm)(K:Int->Y R):Y R:=l3 G n n t.ae (List.length t.ae:Int) 0 0 (λd=>K (wr (d+1)))
def dl3(m:Nat):=rS [3,7,8,9] [Tx,TL,Tx,Tx] [] λR K h j t t9=>l3 G n m j t h t9 (λd=>K (.exit 0) ⟨[(3,Tv d)],[]⟩)
def pc:Pcs:=⟨Tl 3 (dl3 G n n) nK,nK,nK⟩
def an:Ann:=⟨20,0,[(3,[3,7,8,9])],[],[2],[],[]⟩
abbrev bd:=aK Tryz.f87
theorem ok{G:Gs}(d:ap (ents G)){g:Q}(h:∀t r,g t=some r->∃n,aq G n t Vo=Vo r):aj (ent g):=okQ λ_ _ _ _ _ _ _ hc=>Tk hc (h _) λn _ j=>fF d an (pc G n) Tryz.func87 j (apl [(1,3,.loop (Tj 116 bd))] ⟨Tf d n (dl3 G n) rfl (pc G n) ⟨[3],[2],[(0,[3])]⟩,Th⟩)
end z0c
namespace z05
structure Gs where
 none_:Unit
def aq{R:Type}(G:Gs)(n:Nat)(x:Int)(K:Bool->Y R):Y R:=K (!decide (x=x))
theorem ok{G:Gs}(d:ap []){g:Q}(h:∀x r,g x=some r->∃n,aq G n x Vn=Vn r):aj (ent g):=okQ λ_ _ _ _ hc=>Tk hc (h _) λ_ _ j=>fF d ⟨6,0,[],[],[2],[],[]⟩ nP Tryz.func156 j
end z05
namespace z02
structure Gs where
 none_:Unit
def ents(_:Gs):Td Ent:=[]
def b3{R:Type}(G:Gs)(n:Nat)(zero:Int)(h:LI)(j d:Int)(t v:Int->Y R)(k1:Y R):Y R:=bif decide (d<j)then((ix h d).bind λe=>bif !decide (e=zero)then(v e)else t (wr (d+1)))else k1
variable{R:Type}(G:Gs)(n:Nat)
def l3(m:Nat)(zero:Int)(d:LI)(h j:Int)(t:Int->Y R)(k1:Y R):Y R:=aY (λ(v:Int) w=>b3 G n zero d h v (λy=>w y) t k1) m j
def aq(d:LI)(K:Int->Y R):Y R:=l3 G n n 0 d (List.length d:Int) 0 (λh=>K h) (K 0)
def dl3(m:Nat):=rS [3,6,7,8] [Tx,U2,Tx,Tx] [] λR K zero d h j=>l3 G n m zero d h j (λt=>K .ret ⟨[(2,Tv t)],[]⟩) (K (.exit 0) ⟨[(3,Tv zero)],[]⟩)
def pc:Pcs:=⟨Tl 3 (dl3 G n n) nK,nK,nK⟩
def an:Ann:=⟨18,0,[(3,[3,6,7,8])],[],[2],[],[]⟩
abbrev bd:=aK Tryz.f145
theorem ok{G:Gs}(h:ap (ents G)){g:Q}(t:∀d r,g d=some r->∃n,aq G n d Vo=Vo r):aj (ent g):=okQ λ_ _ _ _ hc=>Tk hc (t _) λn _ j=>fF h an (pc G n) Tryz.func145 j (apl [(1,3,.loop (Tj 116 bd))] ⟨Tf h n (dl3 G n) rfl (pc G n) ⟨[3],[2],[(0,[3])]⟩,Th⟩)
end z02
namespace z01
structure Gs where
 z05:z05.Q
def aq{R:Type}(G:Gs)(n:Nat)(x y:Int)(K:Int->Y R):Y R:=(G.z05 x).bind λr=>(G.z05 y).bind λd=>bif r then(bif d then(K 0)else K (-1))else bif d then(K 1)else bif decide (x<y)then(K (-1))else bif decide (y<x)then(K 1)else K 0
theorem ok{G:Gs}(d:ap [z05.ent G.z05]){g:Q}(h:∀x y r,g x y=some r->∃n,aq G n x y Vo=Vo r):aj (ent g):=okQ λ_ _ _ _ _ hc=>Tk hc (h _ _) λ_ _ j=>fF d ⟨20,0,[],[],[4],[],[]⟩ nP Tryz.func146 j
end z01
namespace z4l
structure Gs where
 z0a:z0a.Q
def ents(G:Gs):Td Ent:=[z0a.ent G.z0a]
def b2{R:Type}(G:Gs)(n:Nat)(s1 s2 h:LT)(j d:Int)(v t:Int->Y R)(k1:Y R):Y R:=bif decide (d<j)then((ix h d).bind λe=>bif decide ((List.length s2:Int)<=d)then(t 1)else(ix s2 d).bind λe2=>(G.z0a (Tm.mk e.op e.ah e.am e.ae) (Tm.mk e2.op e2.ah e2.am e2.ae)).bind λr=>bif !decide (r=0)then(t r)else v (wr (d+1)))else k1
variable{R:Type}(G:Gs)(n:Nat)
def l2(m:Nat)(s1 s2 d:LT)(h j:Int)(t:Int->Y R)(k1:Y R):Y R:=aY (λ(v:Int) w=>b2 G n s1 s2 d h v (λy=>w y) t k1) m j
def aq(s1 s2:LT)(K:Int->Y R):Y R:=l2 G n n s1 s2 s1 (List.length s1:Int) 0 (λd=>K d) (bif decide ((List.length s1:Int)<(List.length s2:Int))then(K (-1))else K 0)
def dl2(m:Nat):=rS [0,1,2,11,12,13] [TL,TL,U9,TL,Tx,Tx] [] λR K s1 s2 d h j=>l2 G n m s1 s2 d h j (λt=>K .ret ⟨[(6,Tv t)],[]⟩) (K (.exit 0) ⟨[(0,TO s1),(1,TO s2)],[]⟩)
def pc:Pcs:=⟨Tl 2 (dl2 G n n) nK,nK,nK⟩
def an:Ann:=⟨39,0,[(2,[0,1,2,11,12,13])],[],[6],[],[]⟩
abbrev bd:=aK Tryz.f148
def cG(G:Gs)(s1 s2:LT)(r:Int):Prop:=∃n,aq (R:=AT×Td Ob) G n s1 s2 (λr0=>some (Tv r0,[]))=some (Tv r,[])
theorem ok{G:Gs}(d:ap (ents G)){g:Q}(h:∀s1 s2 r,g s1 s2=some r->cG G s1 s2 r):aj (ent g):=okQ λ_ _ _ _ _ hc=>Tk hc (h _ _) λn _ j=>fF d an (pc G n) Tryz.func148 j (apl [(1,2,.loop (Tj 52 bd))] ⟨Tf d n (dl2 G n) rfl (pc G n) ⟨[0,1],[6],[(0,[0,1])]⟩,Th⟩)
end z4l
namespace z0a
structure Gs where
 z01:z01.Q
 strings_Compare:strings_Compare.Q
 z02:z02.Q
 z4l:z4l.Q
def aq{R:Type}(G:Gs)(n:Nat)(a b:Tm)(K:Int->Y R):Y R:=(G.z01 a.op b.op).bind λh=>(G.strings_Compare a.ah b.ah).bind λj=>(G.z01 a.am b.am).bind λt=>(G.z02 [h,j,t]).bind λd=>bif !decide (d=0)then(K d)else(G.z4l a.ae b.ae).bind λv=>K v
theorem ok{G:Gs}(d:ap [z01.ent G.z01,strings_Compare.ent G.strings_Compare,z02.ent G.z02,z4l.ent G.z4l]){g:Q}(h:∀a b r,g a b=some r->∃n,aq G n a b Vo=Vo r):aj (ent g):=okQ λ_ _ _ _ _ _ _ _ _ _ _ hc=>Tk hc (h _ _) λ_ _ j=>fF d ⟨31,0,[],[],[4],[(1,⟨[(Te 18,[],[])],[],[],[0,1],[]⟩)],[]⟩ nP Tryz.func123 j
end z0a
namespace z1d
structure Gs where
 z1f:z1f.Q
def aq{R:Type}(G:Gs)(n:Nat)(t:Tm)(K:Tm->Y R):Y R:=(G.z1f t.ae).bind λr=>K (Tm.mk t.op t.ah t.am r)
theorem ok{G:Gs}(d:ap [z1f.ent G.z1f]){g:Q}(h:∀t r,g t=some r->∃n,aq G n t Vt=Vt r):aj (ent g):=okQ λ_ _ _ _ _ _ _ hc=>Tk hc (h _) λ_ _ j=>fF d ⟨8,0,[],[],[2],[],[]⟩ nP Tryz.func114 j
end z1d
namespace z1f
structure Gs where
 z1d:z1d.Q
def ents(G:Gs):Td Ent:=[z1d.ent G.z1d]
def b3{R:Type}(G:Gs)(n:Nat)(h:LT)(j d:Int)(h0:LT)(t:Int->LT->Y R)(v:LT->Y R):Y R:=bif decide (d<j)then((ix h d).bind λe=>(G.z1d (Tm.mk e.op e.ah e.am e.ae)).bind λr=>(lim (h0++[(Tm.mk r.op r.ah r.am r.ae)])).bind λzs=>t (wr (d+1)) zs)else v h0
variable{R:Type}(G:Gs)(n:Nat)
def l3(m:Nat)(d:LT)(h j:Int)(h0:LT)(t:LT->Y R):Y R:=aY (λ(v:Int×LT) w=>b3 G n d h v.1 v.2 (λy A=>w (y,A)) t) m (j,h0)
def aq(list:LT)(K:LT->Y R):Y R:=l3 G n n list (List.length list:Int) 0 [] (λd=>K d)
def dl3(m:Nat):=rS [3,6,7,8] [U7,TL,Tx,Tx] [TH] λR K h j t h0=>l3 G n m h j t h0 (λd=>K (.exit 0) ⟨[(3,Ug)],UU d⟩)
def pc:Pcs:=⟨Tl 3 (dl3 G n n) nK,nK,nK⟩
def an:Ann:=⟨19,0,[(3,[3,6,7,8])],[],[2],[],[]⟩
abbrev bd:=aK Tryz.f140
theorem ok{G:Gs}(d:ap (ents G)){g:Q}(h:∀list r,g list=some r->∃n,aq G n list Vp=Vp r):aj (ent g):=okQ λ_ _ _ _ hc=>Tk hc (h _) λn _ j=>fF d an (pc G n) Tryz.func140 j (apl [(1,3,.loop (Tj 116 bd))] ⟨Tf d n (dl3 G n) rfl (pc G n) ⟨[3],[2],[(0,[3])]⟩,Th⟩)
end z1f
end
end Go.Proofs.YtkegnipofloejaaGreatDoor.Den

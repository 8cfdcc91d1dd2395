/- merged -/
import Derived.Test.YtkegnipofloejaaGreatDoorZRowMT11
import Derived.Test.YtkegnipofloejaaGreatDoorZRowMT12
import Derived.Test.YtkegnipofloejaaGreatDoorZRowMT15

namespace Go.Proofs.YtkegnipofloejaaGreatDoor.Den
open Go.RowKit
section
set_option maxRecDepth 100000
set_option linter.unusedVariables false
noncomputable section
namespace z1l
structure Gs where
 none_:Unit
def aq{R:Type}(G:Gs)(n:Nat)(d:Int)(K:Bool->Y R):Y R:=bif decide (0<=d)then(K (decide (d<=65535)))else K false
theorem ok{G:Gs}(h:ap []){g:Q}(t:∀d r,g d=some r->∃n,aq G n d Vn=Vn r):aj (ent g):=okQ λ_ _ _ _ hc=>Tk hc (t _) λ_ _ j=>fF h ⟨9,0,[],[],[2],[],[]⟩ nP Tryz.func85 j
end z1l
namespace z0n
structure Gs where
 z1l:z1l.Q
def ents(G:Gs):Td Ent:=[z1l.ent G.z1l]
def b3{R:Type}(G:Gs)(n:Nat)(d h:Int)(h0:LI)(j:Int->Int->LI->Y R)(t:LI->Y R):Y R:=bif decide (h<16)then((G.z1l d).bind λr=>bif r then((bif decide (0<=h)then some (Abs.bz .shl .i64 1 h)else none).bind λq=>bif !decide ((Abs.bz .and .i64 d q)=0)then((lim (h0++[h])).bind λzs=>j d (wr (h+1)) zs)else j d (wr (h+1)) h0)else t h0)else t h0
variable{R:Type}(G:Gs)(n:Nat)
def l3(m:Nat)(d h:Int)(h0:LI)(j:LI->Y R):Y R:=aY (λ(v:Int×Int×LI) t=>b3 G n v.1 v.2.1 v.2.2 (λw y A=>t (w,y,A)) j) m (d,h,h0)
def aq(d:Int)(K:LI->Y R):Y R:=l3 G n n d 0 [] (λh0=>K h0)
def dl3(m:Nat):=rS [0,3,4] [Tx,U7,Tx] [.r .i 0] λR K d h h0=>l3 G n m d h h0 (λh0=>K (.exit 0) ⟨[(3,Ug)],[UE h0]⟩)
def pc:Pcs:=⟨Tl 3 (dl3 G n n) nK,nK,nK⟩
def an:Ann:=⟨24,0,[(3,[0,3,4])],[],[2],[],[]⟩
abbrev bd:=aK Tryz.f57
theorem ok{G:Gs}(h:ap (ents G)){g:Q}(t:∀d r,g d=some r->∃n,aq G n d Vs=Vs r):aj (ent g):=okQ λ_ _ _ _ hc=>Tk hc (t _) λn _ j=>fF h an (pc G n) Tryz.func57 j (apl [(1,3,.loop (Tj 116 bd))] ⟨Tf h n (dl3 G n) rfl (pc G n) ⟨[3],[2],[(0,[3])]⟩,Th⟩)
end z0n
namespace z1m
structure Gs where
 none_:Unit
def aq{R:Type}(G:Gs)(n:Nat)(c:Int)(K:Bool->Y R):Y R:=bif decide (48<=c)then(bif decide (c<=57)then(K true)else bif decide (65<=c)then(bif decide (c<=90)then(K true)else bif decide (97<=c)then(K (decide (c<=122)))else K false)else bif decide (97<=c)then(K (decide (c<=122)))else K false)else bif decide (65<=c)then(bif decide (c<=90)then(K true)else bif decide (97<=c)then(K (decide (c<=122)))else K false)else bif decide (97<=c)then(K (decide (c<=122)))else K false
theorem ok{G:Gs}(d:ap []){g:Q}(h:∀c r,g c=some r->∃n,aq G n c Vn=Vn r):aj (ent g):=λR xs H K r hc=>by
 simp only[ent]at hc;split at hc
 .exact Tk hc (h _) λ_ _ j=>fF d ⟨25,0,[],[],[2],[],[]⟩ nP Tryz.func83 j
 .cases hc
end z1m
namespace z0h
structure Gs where
 z1m:z1m.Q
def ents(G:Gs):Td Ent:=[z1m.ent G.z1m]
def b4{R:Type}(G:Gs)(n:Nat)(s:Z)(i:Int)(d:Z->Int->Y R)(h:Bool->Y R)(k1:Y R):Y R:=bif decide (i<(ByteArray.size s:Int))then((sIx s i).bind λb=>(G.z1m b).bind λr=>bif !r then(h false)else bif decide (i=0)then((sIx s i).bind λb2=>bif decide (b2<=57)then(h false)else d s (wr (i+1)))else d s (wr (i+1)))else k1
variable{R:Type}(G:Gs)(n:Nat)
def l4(m:Nat)(s:Z)(i:Int)(d:Bool->Y R)(k1:Y R):Y R:=aY (λ(v:Z×Int) h=>b4 G n v.1 v.2 (λj t=>h (j,t)) d k1) m (s,i)
def aq(s:Z)(K:Bool->Y R):Y R:=bif decide ((ByteArray.size s:Int)<1)then(K false)else bif decide (12<(ByteArray.size s:Int))then(K false)else bif sEq s (ByteArray.mk #[105,102])then(K false)else bif sEq s (ByteArray.mk #[97,110,100])then(K false)else l4 G n n s 0 (λd=>K d) (K true)
def dl4(m:Nat):=rS [0,3] [Uv,Tx] [] λR K s i=>l4 G n m s i (λd=>K .ret ⟨UG d,[]⟩) (K (.exit 0) ⟨[],[]⟩)
def pc:Pcs:=⟨Tl 4 (dl4 G n n) nK,nK,nK⟩
def an:Ann:=⟨41,0,[(4,[0,3])],[],[2],[],[]⟩
abbrev bd:=aK Tryz.f52
theorem ok{G:Gs}(d:ap (ents G)){g:Q}(h:∀s r,g s=some r->∃n,aq G n s Vn=Vn r):aj (ent g):=okQ λ_ _ _ _ hc=>Tk hc (h _) λn _ j=>fF d an (pc G n) Tryz.func52 j (apl [(1,4,.loop (Tj 116 bd))] ⟨Tf d n (dl4 G n) rfl (pc G n) ⟨[],[2],[(0,[])]⟩,Th⟩)
end z0h
namespace z1v
structure Gs where
 none_:Unit
def ents(_:Gs):Td Ent:=[]
def b3{R:Type}(G:Gs)(n:Nat)(h d:Int)(h0:LB)(j:LS)(h1:LI)(t:Int->Int->LB->LS->LI->Y R)(v:LB->LS->LI->Y R):Y R:=bif decide (d<h)then((bif decide (0<=d)then some (Abs.bz .shl .i64 1 d)else none).bind λq=>(ix h1 d).bind λe=>t h (wr (d+1)) h0 j (List.set h1 (Int.toNat d) q))else v h0 j h1
variable{R:Type}(G:Gs)(n:Nat)
def l3(m:Nat)(d h:Int)(h0:LB)(j:LS)(h1:LI)(t:LB->LS->LI->Y R):Y R:=aY (λ(v:Int×Int×LB×LS×LI) w=>b3 G n v.1 v.2.1 v.2.2.1 v.2.2.2.1 v.2.2.2.2 (λy A B C D=>w (y,A,B,C,D)) t) m (d,h,h0,j,h1)
def b10{R:Type}(G:Gs)(n:Nat)(h j:Int)(t:LS)(v d:Int)(h0:LB)(w:LS)(h1:LI)(A:Int->Int->LS->Int->Int->LB->LS->LI->Y R)(B:Int->Int->LB->LS->LI->Y R):Y R:=bif decide (d<v)then((ix t d).bind λe=>(ix h1 e.low).bind λC=>(ix h1 e.cK).bind λy=>(ix h1 e.low).bind λD=>A h j t v (wr (d+1)) h0 w (List.set h1 (Int.toNat e.low) (Abs.bz .or .i64 C y)))else B h j h0 w h1
def l10(m:Nat)(d h:Int)(j:LS)(t w:Int)(h0:LB)(y:LS)(h1:LI)(A:Int->Int->LB->LS->LI->Y R):Y R:=aY (λ(v:Int×Int×LS×Int×Int×LB×LS×LI) B=>b10 G n v.1 v.2.1 v.2.2.1 v.2.2.2.1 v.2.2.2.2.1 v.2.2.2.2.2.1 v.2.2.2.2.2.2.1 v.2.2.2.2.2.2.2 (λC D E F H I J K=>B (C,D,E,F,H,I,J,K)) A) m (d,h,j,t,w,h0,y,h1)
def b8(h j:Int)(h0:LB)(d:LS)(h1:LI)(B:Int->Int->LB->LS->LI->Y R)(C:LI->Y R):Y R:=bif decide (j<h)then(l10 G n n h j d (List.length d:Int) 0 h0 d h1 (λt v y w A=>B t (wr (v+1)) y w A))else C h1
def l8(m:Nat)(d h:Int)(h0:LB)(j:LS)(h1:LI)(t:LI->Y R):Y R:=aY (λ(v:Int×Int×LB×LS×LI) w=>b8 G n v.1 v.2.1 v.2.2.1 v.2.2.2.1 v.2.2.2.2 (λy A B C D=>w (y,A,B,C,D)) t) m (d,h,h0,j,h1)
def aq(s:So)(K:LI->Y R):Y R:=(mk (α:=Int) 0 (List.length s.ak:Int)).bind λxs=>l3 G n n (List.length xs:Int) 0 s.ak s.aA xs (λh0 d h1=>l8 G n n (List.length h1:Int) 0 h0 d h1 (λh=>K h))
def dl3(m:Nat):=rS [1,3,12,13] [Tw,UZ,Tx,Tx] U3 λR K h j h0 d h1=>l3 G n m h j h0 d h1 (λh0 d h1=>K (.exit 0) ⟨[(1,TF),(3,UY)],[Uc h0 d,UE h1]⟩)
def tJ(m:Nat):=rS [1,3,23,24,27,28,29] [Tw,UZ,Tx,Tx,Vj,Tx,Tx] U3 λR K d h t v w h0 j h1=>l10 G n m d h t v w h0 j h1 (λd h h0 j h1=>K (.exit 4) ⟨[(1,TF),(3,UY),(23,Tv d),(24,Tv h)],[Uc h0 j,UE h1]⟩)
def dl8(m:Nat):=rS [1,3,23,24] [Tw,UZ,Tx,Tx] U3 λR K d h h0 j h1=>l8 G n m d h h0 j h1 (λh0=>K (.exit 2) ⟨[(3,Ug)],[UE h0]⟩)
def pc:Pcs:=⟨Tl 3 (dl3 G n n) (Tl 10 (tJ G n n) (Tl 8 (dl8 G n n) nK)),nK,nK⟩
def an:Ann:=⟨51,0,[(3,[1,3,12,13]),(10,[1,3,23,24,27,28,29]),(8,[1,3,23,24])],[],[2],[(12,⟨[(Te 16,[15],[6,7,11,12,14])],[15],[],[0,2],[]⟩)],[]⟩
abbrev bd:=aK Tryz.f56
theorem ok{G:Gs}(d:ap (ents G)){g:Q}(h:∀s r,g s=some r->∃n,aq G n s Vs=Vs r):aj (ent g):=okQ λ_ _ _ _ _ hc=>Tk hc (h _) λn _ j=>fF d an (pc G n) Tryz.func56 j (apl [(1,3,.loop (Tj 116 bd)),(1,8,.loop (Tj 244 bd))] ⟨Tf d n (dl3 G n) rfl (pc G n) ⟨[1,3],[2],[(0,[1,3])]⟩,⟨Tf d n (dl8 G n) rfl (pc G n) ⟨[3],[2],[(2,[3])]⟩ (apl [(1,10,.loop (Tj 31332 bd))] ⟨Tf d n (tJ G n) rfl (pc G n) ⟨[1,3,23,24],[2],[(2,[3]),(3,[1,3,23,24]),(4,[1,3,23,24])]⟩,Th⟩),Th⟩⟩)
end z1v
namespace z0l
structure Gs where
 z0h:z0h.Q
 z1v:z1v.Q
def ents(G:Gs):Td Ent:=[z0h.ent G.z0h,z1v.ent G.z1v]
def b6{R:Type}(G:Gs)(n:Nat)(t:Int)(d:LB)(h t31:Int)(h0:LB)(j:LS)(h1:Td (Z×Bool))(w:Int->LB->Int->Int->LB->LS->(Td (Z×Bool))->Y R)(v:Bool->Y R)(k1:Int->LB->LS->Y R):Y R:=bif decide (t31<h)then((ix d t31).bind λe=>bif xG h1 e false then(v false)else(G.z0h e).bind λr=>bif !r then(v false)else w t d h (wr (t31+1)) h0 j ((e,true)::h1))else k1 t h0 j
variable{R:Type}(G:Gs)(n:Nat)
def l6(m:Nat)(t:Int)(d:LB)(h t31:Int)(h0:LB)(j:LS)(h1:Td (Z×Bool))(w:Bool->Y R)(k1:Int->LB->LS->Y R):Y R:=aY (λ(v:Int×LB×Int×Int×LB×LS×(Td (Z×Bool))) y=>b6 G n v.1 v.2.1 v.2.2.1 v.2.2.2.1 v.2.2.2.2.1 v.2.2.2.2.2.1 v.2.2.2.2.2.2 (λA B C D E F H=>y (A,B,C,D,E,F,H)) w k1) m (t,d,h,t31,h0,j,h1)
def b13{R:Type}(G:Gs)(n:Nat)(w:Int)(h:LS)(j d:Int)(h0:LB)(t:LS)(y:Int->LS->Int->Int->LB->LS->Y R)(v:Bool->Y R)(k1:LB->LS->Y R):Y R:=bif decide (d<j)then((ix h d).bind λe=>bif decide (e.low<0)then(v false)else bif decide (w<=e.low)then(v false)else bif decide (e.cK<0)then(v false)else bif decide (w<=e.cK)then(v false)else bif decide (e.low=e.cK)then(v false)else y w h j (wr (d+1)) h0 t)else k1 h0 t
def l13(m:Nat)(w:Int)(d:LS)(h j:Int)(h0:LB)(t:LS)(y:Bool->Y R)(k1:LB->LS->Y R):Y R:=aY (λ(v:Int×LS×Int×Int×LB×LS) A=>b13 G n v.1 v.2.1 v.2.2.1 v.2.2.2.1 v.2.2.2.2.1 v.2.2.2.2.2 (λB C D E F H=>A (B,C,D,E,F,H)) y k1) m (w,d,h,j,h0,t)
def b23{R:Type}(G:Gs)(n:Nat)(db:LI)(i h j t d:Int)(v:LI->Int->Int->Int->Int->Int->Y R)(w:Bool->Y R)(k1:LI->Int->Int->Y R):Y R:=bif decide (d<t)then(bif !decide (i=d)then((ix db i).bind λe2=>(bif decide (0<=d)then some (Abs.bz .shl .i64 1 d)else none).bind λq2=>bif !decide ((Abs.bz .and .i64 e2 q2)=0)then((ix db d).bind λy=>(bif decide (0<=i)then some (Abs.bz .shl .i64 1 i)else none).bind λq4=>bif !decide ((Abs.bz .and .i64 y q4)=0)then(w false)else v db i h j t (wr (d+1)))else v db i h j t (wr (d+1)))else v db i h j t (wr (d+1)))else k1 db h j
def l23(m:Nat)(db:LI)(i d h j t:Int)(w:Bool->Y R)(k1:LI->Int->Int->Y R):Y R:=aY (λ(v:LI×Int×Int×Int×Int×Int) y=>b23 G n v.1 v.2.1 v.2.2.1 v.2.2.2.1 v.2.2.2.2.1 v.2.2.2.2.2 (λA B C D E F=>y (A,B,C,D,E,F)) w k1) m (db,i,d,h,j,t)
def b20(db:LI)(j h:Int)(w:LI->Int->Int->Y R)(y:Bool->Y R)(k1:Y R):Y R:=bif decide (h<j)then(l23 G n n db h j h (List.length db:Int) 0 (λA=>y A) (λd t v=>w d t (wr (v+1))))else k1
def l20(m:Nat)(db:LI)(d h:Int)(j:Bool->Y R)(k1:Y R):Y R:=aY (λ(v:LI×Int×Int) t=>b20 G n v.1 v.2.1 v.2.2 (λw y A=>t (w,y,A)) j k1) m (db,d,h)
def aq(s:So)(K:Bool->Y R):Y R:=bif decide ((List.length s.ak:Int)<1)then(K false)else bif decide (8<(List.length s.ak:Int))then(K false)else bif decide (16<(List.length s.aA:Int))then(K false)else l6 G n n (List.length s.ak:Int) s.ak (List.length s.ak:Int) 0 s.ak s.aA [] (λv=>K v) (λw h0 d=>l13 G n n w d (List.length d:Int) 0 h0 d (λt22=>K t22) (λj h=>(G.z1v (So.mk j h)).bind λr=>l20 G n n r (List.length r:Int) 0 (λt=>K t) (K true)))
def dl6(m:Nat):=rS [1,3,4,29,30,31] [Tw,Tx,.x (.m 1),U4,Tx,Tx] [V3,.m .b] λR K h j t t31 h0 d h1=>l6 G n m h j t t31 h0 d h1 (λv=>K .ret ⟨UG v,[]⟩) (λh h0 d=>K (.exit 0) ⟨[(1,TF),(3,Tv h)],[Uc h0 d]⟩)
def rk(m:Nat):=rS [1,3,47,48,49] [Tw,Tx,Vj,Tx,Tx] [V3] λR K v h j t h0 d=>l13 G n m v h j t h0 d (λw=>K .ret ⟨UG w,[]⟩) (λh0 d=>K (.exit 2) ⟨[(1,TF)],[Uc h0 d]⟩)
def dl23(m:Nat):=rS [9,10,84,85,89,90] [U2,Tx,Tx,Tx,Tx,Tx] [] λR K db i d h j t=>l23 G n m db i d h j t (λv=>K .ret ⟨UG v,[]⟩) (λdb d h=>K (.exit 6) ⟨[(9,Ue db),(84,Tv d),(85,Tv h)],[]⟩)
def Hy(m:Nat):=rS [9,84,85] [U2,Tx,Tx] [] λR K db d h=>l20 G n m db d h (λj=>K .ret ⟨UG j,[]⟩) (K (.exit 4) ⟨[],[]⟩)
def pc:Pcs:=⟨Tl 6 (dl6 G n n) (Tl 13 (rk G n n) (Tl 23 (dl23 G n n) (Tl 20 (Hy G n n) nK))),nK,nK⟩
def an:Ann:=⟨118,0,[(6,[1,3,4,29,30,31]),(13,[1,3,47,48,49]),(23,[9,10,84,85,89,90]),(20,[9,84,85])],[],[2],[(25,⟨[(Te 23,[],[])],[],[],[],[]⟩)],[]⟩
abbrev bd:=aK Tryz.f55
theorem ok{G:Gs}(d:ap (ents G)){g:Q}(h:∀s r,g s=some r->∃n,aq G n s Vn=Vn r):aj (ent g):=okQ λ_ _ _ _ _ hc=>Tk hc (h _) λn _ j=>fF d an (pc G n) Tryz.func55 j (apl [(1,6,.loop (Tj 500 bd)),(1,13,.loop (Tj 1012 bd)),(1,20,.loop (Tj 4084 bd))] ⟨Tf d n (dl6 G n) rfl (pc G n) ⟨[1,3],[2],[(0,[1,3])]⟩,⟨Tf d n (rk G n) rfl (pc G n) ⟨[1],[2],[(2,[1])]⟩,⟨Tf d n (Hy G n) rfl (pc G n) ⟨[],[2],[(4,[])]⟩ (apl [(1,23,.loop (Tj 1045708 bd))] ⟨Tf d n (dl23 G n) rfl (pc G n) ⟨[9,84,85],[2],[(4,[]),(5,[9,84,85]),(6,[9,84,85])]⟩,Th⟩),Th⟩⟩⟩)
end z0l
namespace z1p
structure Gs where
 z0l:z0l.Q
 z1v:z1v.Q
 z0n:z0n.Q
def ents(G:Gs):Td Ent:=[z0l.ent G.z0l,z1v.ent G.z1v,z0n.ent G.z0n]
def d4{R:Type}(G:Gs)(n:Nat)(h:Int)(h0:LB)(d:LS)(h2 j h4:LI)(t:Int->LB->LS->LI->LI->LI->LI->LI->LI->Y R):Y R:=(mk (α:=Int) 0 h).bind λxs=>(mk (α:=Int) 0 h).bind λxs2=>(G.z1v (So.mk h0 d)).bind λv=>t h h0 d h2 j h4 v xs xs2
def Af{R:Type}(G:Gs)(n:Nat)(h:Int)(h0:LB)(d:LS)(h2 j h4:LI)(t:Int->LB->LS->LI->LI->LI->LI->LI->LI->Y R):Y R:=
 (mk (α:=Int) 0 h).bind λxs=>
 (mk (α:=Int) 0 h).bind λxs2=>
 (G.z1v (So.mk h0 d)).bind λv=>
 t h h0 d h2 j h4 v xs xs2
theorem MH{R:Type}(G:Gs)(n:Nat)(h:Int)(h0:LB)(d:LS)(h2 j h4:LI)(t:Int->LB->LS->LI->LI->LI->LI->LI->LI->Y R):Af G n h h0 d h2 j h4 t=d4 G n h h0 d h2 j h4 t:=by
 unfold Af d4;generalize mk (α:=Int) 0 h=v;generalize G.z1v (So.mk h0 d)=w;cases v<;>cases w<;>first|rfl|simp
def NT{R:Type}(G:Gs)(n:Nat)(h:Int)(h0:LB)(d:LS)(h2 j h4:LI)(t:Int->LB->LS->LI->LI->LI->LI->LI->LI->Y R):Y R:=
 (mk (α:=Int) 0 h).bind λxs=>
 (mk (α:=Int) 0 h).bind λxs2=>
 (G.z1v (So.mk h0 d)).bind λv=>
 t h h0 d h2 j h4 v xs2 xs
theorem e4_2{R:Type}(G:Gs)(n:Nat)(h:Int)(h0:LB)(d:LS)(h2 j h4:LI)(t:Int->LB->LS->LI->LI->LI->LI->LI->LI->Y R):NT G n h h0 d h2 j h4 t=d4 G n h h0 d h2 j h4 t:=by
 unfold NT d4;generalize mk (α:=Int) 0 h=v;generalize G.z1v (So.mk h0 d)=w;cases v<;>cases w<;>first|rfl|simp
def Np{R:Type}(G:Gs)(n:Nat)(h:Int)(h0:LB)(d:LS)(h2 j h4:LI)(t:Int->LB->LS->LI->LI->LI->LI->LI->LI->Y R):Y R:=
 (mk (α:=Int) 0 h).bind λxs=>
 (mk (α:=Int) 0 h).bind λxs2=>
 (G.z1v (So.mk h0 d)).bind λv=>
 t h h0 d h2 j h4 v xs2 xs
theorem e4_3{R:Type}(G:Gs)(n:Nat)(h:Int)(h0:LB)(d:LS)(h2 j h4:LI)(t:Int->LB->LS->LI->LI->LI->LI->LI->LI->Y R):Np G n h h0 d h2 j h4 t=d4 G n h h0 d h2 j h4 t:=by
 unfold Np d4;generalize mk (α:=Int) 0 h=v;generalize G.z1v (So.mk h0 d)=w;cases v<;>cases w<;>first|rfl|simp
def Is{R:Type}(G:Gs)(n:Nat)(h:Int)(h0:LB)(d:LS)(h2 j h4:LI)(t:Int->LB->LS->LI->LI->LI->LI->LI->LI->Y R):Y R:=
 (mk (α:=Int) 0 h).bind λxs=>
 (mk (α:=Int) 0 h).bind λxs2=>
 (G.z1v (So.mk h0 d)).bind λv=>
 t h h0 d h2 j h4 v xs xs2
theorem e4_4{R:Type}(G:Gs)(n:Nat)(h:Int)(h0:LB)(d:LS)(h2 j h4:LI)(t:Int->LB->LS->LI->LI->LI->LI->LI->LI->Y R):Is G n h h0 d h2 j h4 t=d4 G n h h0 d h2 j h4 t:=by
 unfold Is d4;generalize mk (α:=Int) 0 h=v;generalize G.z1v (So.mk h0 d)=w;cases v<;>cases w<;>first|rfl|simp
def MS{R:Type}(G:Gs)(n:Nat)(h:Int)(h0:LB)(d:LS)(h2 j h4:LI)(t:Int->LB->LS->LI->LI->LI->LI->LI->LI->Y R):Y R:=
 (mk (α:=Int) 0 h).bind λxs=>
 (mk (α:=Int) 0 h).bind λxs2=>
 (G.z1v (So.mk h0 d)).bind λv=>
 t h h0 d h2 j h4 v xs2 xs
theorem e4_5{R:Type}(G:Gs)(n:Nat)(h:Int)(h0:LB)(d:LS)(h2 j h4:LI)(t:Int->LB->LS->LI->LI->LI->LI->LI->LI->Y R):MS G n h h0 d h2 j h4 t=d4 G n h h0 d h2 j h4 t:=by
 unfold MS d4;generalize mk (α:=Int) 0 h=v;generalize G.z1v (So.mk h0 d)=w;cases v<;>cases w<;>first|rfl|simp
def b9{R:Type}(G:Gs)(n:Nat)(A i:Int)(h:LI)(j t:Int)(v:LI)(t37 d:Int)(h0:LB)(w:LS)(h2 B h4 C y D:LI)(E:Int->Int->LI->Int->Int->LI->Int->Int->LB->LS->LI->LI->LI->LI->LI->LI->Y R)(F:Int->Int->LI->Int->Int->LB->LS->LI->LI->LI->LI->LI->LI->Y R):Y R:=bif decide (d<t37)then((ix v d).bind λe=>(ix y e).bind λH=>(bif decide (0<=i)then some (Abs.bz .shl .i64 1 i)else none).bind λq4=>(ix y e).bind λI=>E A i h j t v t37 (wr (d+1)) h0 w h2 B h4 C (List.set y (Int.toNat e) (Abs.bz .or .i64 H q4)) D)else F A i h j t h0 w h2 B h4 C y D
variable{R:Type}(G:Gs)(n:Nat)
def l9(m:Nat)(H i:Int)(d:LI)(h j:Int)(t:LI)(t37 w:Int)(h0:LB)(y:LS)(h2 I h4 J K L:LI)(M:Int->Int->LI->Int->Int->LB->LS->LI->LI->LI->LI->LI->LI->Y R):Y R:=aY (λ(v:Int×Int×LI×Int×Int×LI×Int×Int×LB×LS×LI×LI×LI×LI×LI×LI) N=>b9 G n v.1 v.2.1 v.2.2.1 v.2.2.2.1 v.2.2.2.2.1 v.2.2.2.2.2.1 v.2.2.2.2.2.2.1 v.2.2.2.2.2.2.2.1 v.2.2.2.2.2.2.2.2.1 v.2.2.2.2.2.2.2.2.2.1 v.2.2.2.2.2.2.2.2.2.2.1 v.2.2.2.2.2.2.2.2.2.2.2.1 v.2.2.2.2.2.2.2.2.2.2.2.2.1 v.2.2.2.2.2.2.2.2.2.2.2.2.2.1 v.2.2.2.2.2.2.2.2.2.2.2.2.2.2.1 v.2.2.2.2.2.2.2.2.2.2.2.2.2.2.2 (λO P Q S T U V W X Z A B C D E F=>N (O,P,Q,S,T,U,V,W,X,Z,A,B,C,D,E,F)) M) m (H,i,d,h,j,t,t37,w,h0,y,h2,I,h4,J,K,L)
def b6(K:Int)(h:LI)(j d:Int)(h0:LB)(t:LS)(h2 L h4 M N O:LI)(P:Int->LI->Int->Int->LB->LS->LI->LI->LI->LI->LI->LI->Y R)(Q:Int->LB->LS->LI->LI->LI->LI->LI->LI->Y R):Y R:=bif decide (d<j)then((ix h d).bind λe=>(G.z0n e).bind λr=>l9 G n n K d h j d r (List.length r:Int) 0 h0 t h2 L h4 M N O (λC i v w y D A E F H I J B=>(ix B i).bind λe2=>P C v w (wr (y+1)) D A E F H I J (List.set B (Int.toNat i) i)))else Q K h0 t h2 L h4 M N O
def l6(m:Nat)(A:Int)(d:LI)(h j:Int)(h0:LB)(t:LS)(h2 B h4 C D E:LI)(F:Int->LB->LS->LI->LI->LI->LI->LI->LI->Y R):Y R:=aY (λ(v:Int×LI×Int×Int×LB×LS×LI×LI×LI×LI×LI×LI) H=>b6 G n v.1 v.2.1 v.2.2.1 v.2.2.2.1 v.2.2.2.2.1 v.2.2.2.2.2.1 v.2.2.2.2.2.2.1 v.2.2.2.2.2.2.2.1 v.2.2.2.2.2.2.2.2.1 v.2.2.2.2.2.2.2.2.2.1 v.2.2.2.2.2.2.2.2.2.2.1 v.2.2.2.2.2.2.2.2.2.2.2 (λI J K L M N O P Q S w y=>H (I,J,K,L,M,N,O,P,Q,S,w,y)) F) m (A,d,h,j,h0,t,h2,B,h4,C,D,E)
def b18{R:Type}(G:Gs)(n:Nat)(j t:Int)(v:LS)(t66 d:Int)(h0:LB)(w:LS)(h2 A h4 B C h:LI)(D:Int->Int->LS->Int->Int->LB->LS->LI->LI->LI->LI->LI->LI->Y R)(E:Int->Int->LB->LS->LI->LI->LI->LI->LI->LI->Y R):Y R:=bif decide (d<t66)then((ix v d).bind λe=>(ix h e.low).bind λe3=>(ix h e.cK).bind λy=>(ix h e.low).bind λF=>(ix (List.set h (Int.toNat e.low) (kQ e3 y)) e.cK).bind λH=>D j t v t66 (wr (d+1)) h0 w h2 A h4 B C (List.set (List.set h (Int.toNat e.low) (kQ e3 y)) (Int.toNat e.cK) (kQ e3 y)))else E j t h0 w h2 A h4 B C h
def l18(m:Nat)(d h:Int)(j:LS)(t66 t:Int)(h0:LB)(w:LS)(h2 C h4 D E F:LI)(H:Int->Int->LB->LS->LI->LI->LI->LI->LI->LI->Y R):Y R:=aY (λ(v:Int×Int×LS×Int×Int×LB×LS×LI×LI×LI×LI×LI×LI) I=>b18 G n v.1 v.2.1 v.2.2.1 v.2.2.2.1 v.2.2.2.2.1 v.2.2.2.2.2.1 v.2.2.2.2.2.2.1 v.2.2.2.2.2.2.2.1 v.2.2.2.2.2.2.2.2.1 v.2.2.2.2.2.2.2.2.2.1 v.2.2.2.2.2.2.2.2.2.2.1 v.2.2.2.2.2.2.2.2.2.2.2.1 v.2.2.2.2.2.2.2.2.2.2.2.2 (λJ K L M N O P Q S T y A B=>I (J,K,L,M,N,O,P,Q,S,T,y,A,B)) H) m (d,h,j,t66,t,h0,w,h2,C,h4,D,E,F)
def b16(h j:Int)(h0:LB)(d:LS)(h2 H h4 I J K:LI)(L:Int->Int->LB->LS->LI->LI->LI->LI->LI->LI->Y R)(M:LI->LI->LI->LI->LI->LI->Y R):Y R:=bif decide (j<h)then(l18 G n n h j d (List.length d:Int) 0 h0 d h2 H h4 I J K (λt v y w A B C D E F=>L t (wr (v+1)) y w A B C D E F))else M h2 H h4 I J K
def l16(m:Nat)(d h:Int)(h0:LB)(j:LS)(h2 t h4 w y A:LI)(B:LI->LI->LI->LI->LI->LI->Y R):Y R:=aY (λ(v:Int×Int×LB×LS×LI×LI×LI×LI×LI×LI) C=>b16 G n v.1 v.2.1 v.2.2.1 v.2.2.2.1 v.2.2.2.2.1 v.2.2.2.2.2.1 v.2.2.2.2.2.2.1 v.2.2.2.2.2.2.2.1 v.2.2.2.2.2.2.2.2.1 v.2.2.2.2.2.2.2.2.2 (λD E F H I J K L M N=>C (D,E,F,H,I,J,K,L,M,N)) B) m (d,h,h0,j,h2,t,h4,w,y,A)
def aq(s:So)(K:Od->Bool->Y R):Y R:=(G.z0l s).bind λr=>bif !r then(K (Od.mk [] [] []) false)else d4 G n (List.length s.ak:Int) s.ak s.aA [] [] [] (λI h0 h h2 J h4 j L M=>l6 G n n I j (List.length j:Int) 0 h0 h h2 J h4 j L M (λt v d w y A B C D=>l16 G n n t 0 v d w y A B C D (λh1 N O E F H=>K (Od.mk E F H) true)))
def dd4(G:Gs)(n:Nat)(R:Type)(st:St)(K:Kt R):Y R:=match st with|⟨[(1,.one (.p 0 0)),(2,.one (.p 1 0)),(4,.one (.i h))],[.box [.l .s h0,.l (.n 5) d],.box [.o 2,.o 3,.o 4],.row .i 0 h2,.row .i 0 j,.row .i 0 h4]⟩=>d4 G n h h0 d h2 j h4 (λh h0 d h2 j h4 t v w=>K .normal ⟨[(1,TF),(2,TR),(4,Tv h),(5,UR)],TX h0 d h2 j h4 t v w⟩)|_=>none
def dl9(m:Nat):=rS [1,2,4,5,6,28,29,30,36,37,38] [Tw,TQ,Tx,UI,Tx,U2,Tx,Tx,U2,Tx,Tx] TZ λR K v i d h j w t37 y h0 t h2 A h4 B C D=>l9 G n m v i d h j w t37 y h0 t h2 A h4 B C D (λv i d h j h0 t h2 A h4 B C D=>K (.exit 2) ⟨[(1,TF),(2,TR),(4,Tv v),(5,UR),(6,Tv i),(28,Ue d),(29,Tv h),(30,Tv j)],TX h0 t h2 A h4 B C D⟩)
def dl6(m:Nat):=rS [1,2,4,5,28,29,30] [Tw,TQ,Tx,UI,U2,Tx,Tx] TZ λR K h j t v h0 d h2 w h4 y A B=>l6 G n m h j t v h0 d h2 w h4 y A B (λh h0 d h2 w h4 y A B=>K (.exit 0) ⟨[(1,TF),(2,TR),(4,Tv h),(5,UR)],TX h0 d h2 w h4 y A B⟩)
def yk(m:Nat):=rS [1,2,5,61,62,65,66,67] [Tw,TQ,UI,Tx,Tx,Vj,Tx,Tx] TZ λR K d h t t66 v h0 j h2 w h4 y A B=>l18 G n m d h t t66 v h0 j h2 w h4 y A B (λd h h0 j h2 w h4 y A B=>K (.exit 6) ⟨[(1,TF),(2,TR),(5,UR),(61,Tv d),(62,Tv h)],TX h0 j h2 w h4 y A B⟩)
def HF(m:Nat):=rS [1,2,5,61,62] [Tw,TQ,UI,Tx,Tx] TZ λR K d h h0 j h2 t h4 v w y=>l16 G n m d h h0 j h2 t h4 v w y (λh1 h2 t h4 v w=>K (.exit 4) ⟨[(2,TF),(5,V0)],[.box [.o 1,.o 2,.o 3],UE h1,UE h2,UE t,.box [.l .i h4,.o 5,.o 6],UE v,UE w]⟩)
def pc:Pcs:=⟨Tl 9 (dl9 G n n) (Tl 6 (dl6 G n n) (Tl 18 (yk G n n) (Tl 16 (HF G n n) nK))),nK,Tl 4 (dd4 G n) nK⟩
def an:Ann:=⟨99,0,[(9,[1,2,4,5,6,28,29,30,36,37,38]),(6,[1,2,4,5,28,29,30]),(18,[1,2,5,61,62,65,66,67]),(16,[1,2,5,61,62])],[],[2,3],[(4,⟨[([2,3,4,5,7,0,1,6,8],[3,5,7,8],[]),([2,3,7,4,5,0,1,6,8],[3,7,5,8],[]),([4,5,2,3,7,0,1,6,8],[5,3,7,8],[]),([4,5,7,2,3,0,1,6,8],[5,7,3,8],[]),([7,2,3,4,5,0,1,6,8],[7,3,5,8],[]),([7,4,5,2,3,0,1,6,8],[7,5,3,8],[])],[3,5,7,8],[],(Te 5),[1,2,4]⟩),(11,⟨[(Te 13,[12],[6,7,11])],[12],[],[0,1,2,3,4,5,7],[]⟩),(20,⟨[(Te 14,[],[])],[],[],(Te 9),[]⟩)],[]⟩
abbrev bd:=aK Tryz.f31
abbrev q4:=Tj 30 bd
theorem Ma(G:Gs)(n:Nat)(R:Type)(j:Int)(h0:LB)(h:LS)(h2 t h4:LI)(K:Kt R):(λS:St=>(λd:St=>dW tb (de (ents G)) an.nt an.im (fq (q4)) (fe (Te 5) d.H) [2,3,4,5,7,0,1,6,8] [3,5,7,8] [] [] [2,3,4,5,7,0,1,6,8] d.L d.H d.H λL H=>jd an.refs ⟨[1,2,4,5],[2,3],[]⟩ K .normal ⟨L,H⟩) (cR (bE (St.L S) (St.H S) []) S)=dd4 G n R S K) ⟨[(1,.one (.p 0 0)),(2,.one (.p 1 0)),(4,.one (.i j))],[.box [.l .s h0,.l (.n 5) h],.box [.o 2,.o 3,.o 4],.row .i 0 h2,.row .i 0 t,.row .i 0 h4]⟩:=Re
theorem Mr(G:Gs)(n:Nat)(R:Type)(j:Int)(h0:LB)(d:LS)(h2 t h4:LI)(K:Kt R):(λh:St=>dW tb (de (ents G)) an.nt an.im (fq (q4)) (fe (Te 5) h.H) [2,3,7,4,5,0,1,6,8] [3,7,5,8] [] [] [2,3,7,4,5,0,1,6,8] h.L h.H h.H λL H=>jd an.refs ⟨[1,2,4,5],[2,3],[]⟩ K .normal ⟨L,H⟩) (cR (bE (St.L ⟨[(1,.one (.p 0 0)),(2,.one (.p 1 0)),(4,.one (.i j))],[.box [.l .s h0,.l (.n 5) d],.box [.o 2,.o 3,.o 4],.row .i 0 h2,.row .i 0 t,.row .i 0 h4]⟩) (St.H ⟨[(1,.one (.p 0 0)),(2,.one (.p 1 0)),(4,.one (.i j))],[.box [.l .s h0,.l (.n 5) d],.box [.o 2,.o 3,.o 4],.row .i 0 h2,.row .i 0 t,.row .i 0 h4]⟩) []) ⟨[(1,.one (.p 0 0)),(2,.one (.p 1 0)),(4,.one (.i j))],[.box [.l .s h0,.l (.n 5) d],.box [.o 2,.o 3,.o 4],.row .i 0 h2,.row .i 0 t,.row .i 0 h4]⟩)=Af G n j h0 d h2 t h4 (λj h0 d h2 t h4 v w y=>K .normal ⟨[(1,.one (.p 0 0)),(2,.one (.p 1 0)),(4,.one (.i j)),(5,.one (.p 5 0))],[.box [.l .s h0,.l (.n 5) d],.box [.o 2,.o 3,.o 4],.row .i 0 h2,.row .i 0 t,.row .i 0 h4,.box [.l .i v,.o 6,.o 7],.row .i 0 w,.row .i 0 y]⟩):=D1
theorem s4_2(G:Gs)(n:Nat)(R:Type)(j:Int)(h0:LB)(d:LS)(h2 t h4:LI)(K:Kt R):(λh:St=>dW tb (de (ents G)) an.nt an.im (fq (q4)) (fe (Te 5) h.H) [4,5,2,3,7,0,1,6,8] [5,3,7,8] [] [] [4,5,2,3,7,0,1,6,8] h.L h.H h.H λL H=>jd an.refs ⟨[1,2,4,5],[2,3],[]⟩ K .normal ⟨L,H⟩) (cR (bE (St.L ⟨[(1,.one (.p 0 0)),(2,.one (.p 1 0)),(4,.one (.i j))],[.box [.l .s h0,.l (.n 5) d],.box [.o 2,.o 3,.o 4],.row .i 0 h2,.row .i 0 t,.row .i 0 h4]⟩) (St.H ⟨[(1,.one (.p 0 0)),(2,.one (.p 1 0)),(4,.one (.i j))],[.box [.l .s h0,.l (.n 5) d],.box [.o 2,.o 3,.o 4],.row .i 0 h2,.row .i 0 t,.row .i 0 h4]⟩) []) ⟨[(1,.one (.p 0 0)),(2,.one (.p 1 0)),(4,.one (.i j))],[.box [.l .s h0,.l (.n 5) d],.box [.o 2,.o 3,.o 4],.row .i 0 h2,.row .i 0 t,.row .i 0 h4]⟩)=NT G n j h0 d h2 t h4 (λj h0 d h2 t h4 v w y=>K .normal ⟨[(1,.one (.p 0 0)),(2,.one (.p 1 0)),(4,.one (.i j)),(5,.one (.p 5 0))],[.box [.l .s h0,.l (.n 5) d],.box [.o 2,.o 3,.o 4],.row .i 0 h2,.row .i 0 t,.row .i 0 h4,.box [.l .i v,.o 6,.o 7],.row .i 0 w,.row .i 0 y]⟩):=D1
theorem s4_3(G:Gs)(n:Nat)(R:Type)(j:Int)(h0:LB)(d:LS)(h2 t h4:LI)(K:Kt R):(λh:St=>dW tb (de (ents G)) an.nt an.im (fq (q4)) (fe (Te 5) h.H) [4,5,7,2,3,0,1,6,8] [5,7,3,8] [] [] [4,5,7,2,3,0,1,6,8] h.L h.H h.H λL H=>jd an.refs ⟨[1,2,4,5],[2,3],[]⟩ K .normal ⟨L,H⟩) (cR (bE (St.L ⟨[(1,.one (.p 0 0)),(2,.one (.p 1 0)),(4,.one (.i j))],[.box [.l .s h0,.l (.n 5) d],.box [.o 2,.o 3,.o 4],.row .i 0 h2,.row .i 0 t,.row .i 0 h4]⟩) (St.H ⟨[(1,.one (.p 0 0)),(2,.one (.p 1 0)),(4,.one (.i j))],[.box [.l .s h0,.l (.n 5) d],.box [.o 2,.o 3,.o 4],.row .i 0 h2,.row .i 0 t,.row .i 0 h4]⟩) []) ⟨[(1,.one (.p 0 0)),(2,.one (.p 1 0)),(4,.one (.i j))],[.box [.l .s h0,.l (.n 5) d],.box [.o 2,.o 3,.o 4],.row .i 0 h2,.row .i 0 t,.row .i 0 h4]⟩)=Np G n j h0 d h2 t h4 (λj h0 d h2 t h4 v w y=>K .normal ⟨[(1,.one (.p 0 0)),(2,.one (.p 1 0)),(4,.one (.i j)),(5,.one (.p 5 0))],[.box [.l .s h0,.l (.n 5) d],.box [.o 2,.o 3,.o 4],.row .i 0 h2,.row .i 0 t,.row .i 0 h4,.box [.l .i v,.o 6,.o 7],.row .i 0 w,.row .i 0 y]⟩):=D1
theorem s4_4(G:Gs)(n:Nat)(R:Type)(j:Int)(h0:LB)(d:LS)(h2 t h4:LI)(K:Kt R):(λh:St=>dW tb (de (ents G)) an.nt an.im (fq (q4)) (fe (Te 5) h.H) [7,2,3,4,5,0,1,6,8] [7,3,5,8] [] [] [7,2,3,4,5,0,1,6,8] h.L h.H h.H λL H=>jd an.refs ⟨[1,2,4,5],[2,3],[]⟩ K .normal ⟨L,H⟩) (cR (bE (St.L ⟨[(1,.one (.p 0 0)),(2,.one (.p 1 0)),(4,.one (.i j))],[.box [.l .s h0,.l (.n 5) d],.box [.o 2,.o 3,.o 4],.row .i 0 h2,.row .i 0 t,.row .i 0 h4]⟩) (St.H ⟨[(1,.one (.p 0 0)),(2,.one (.p 1 0)),(4,.one (.i j))],[.box [.l .s h0,.l (.n 5) d],.box [.o 2,.o 3,.o 4],.row .i 0 h2,.row .i 0 t,.row .i 0 h4]⟩) []) ⟨[(1,.one (.p 0 0)),(2,.one (.p 1 0)),(4,.one (.i j))],[.box [.l .s h0,.l (.n 5) d],.box [.o 2,.o 3,.o 4],.row .i 0 h2,.row .i 0 t,.row .i 0 h4]⟩)=Is G n j h0 d h2 t h4 (λj h0 d h2 t h4 v w y=>K .normal ⟨[(1,.one (.p 0 0)),(2,.one (.p 1 0)),(4,.one (.i j)),(5,.one (.p 5 0))],[.box [.l .s h0,.l (.n 5) d],.box [.o 2,.o 3,.o 4],.row .i 0 h2,.row .i 0 t,.row .i 0 h4,.box [.l .i v,.o 6,.o 7],.row .i 0 w,.row .i 0 y]⟩):=D1
theorem s4_5(G:Gs)(n:Nat)(R:Type)(j:Int)(h0:LB)(d:LS)(h2 t h4:LI)(K:Kt R):(λh:St=>dW tb (de (ents G)) an.nt an.im (fq (q4)) (fe (Te 5) h.H) [7,4,5,2,3,0,1,6,8] [7,5,3,8] [] [] [7,4,5,2,3,0,1,6,8] h.L h.H h.H λL H=>jd an.refs ⟨[1,2,4,5],[2,3],[]⟩ K .normal ⟨L,H⟩) (cR (bE (St.L ⟨[(1,.one (.p 0 0)),(2,.one (.p 1 0)),(4,.one (.i j))],[.box [.l .s h0,.l (.n 5) d],.box [.o 2,.o 3,.o 4],.row .i 0 h2,.row .i 0 t,.row .i 0 h4]⟩) (St.H ⟨[(1,.one (.p 0 0)),(2,.one (.p 1 0)),(4,.one (.i j))],[.box [.l .s h0,.l (.n 5) d],.box [.o 2,.o 3,.o 4],.row .i 0 h2,.row .i 0 t,.row .i 0 h4]⟩) []) ⟨[(1,.one (.p 0 0)),(2,.one (.p 1 0)),(4,.one (.i j))],[.box [.l .s h0,.l (.n 5) d],.box [.o 2,.o 3,.o 4],.row .i 0 h2,.row .i 0 t,.row .i 0 h4]⟩)=MS G n j h0 d h2 t h4 (λj h0 d h2 t h4 v w y=>K .normal ⟨[(1,.one (.p 0 0)),(2,.one (.p 1 0)),(4,.one (.i j)),(5,.one (.p 5 0))],[.box [.l .s h0,.l (.n 5) d],.box [.o 2,.o 3,.o 4],.row .i 0 h2,.row .i 0 t,.row .i 0 h4,.box [.l .i v,.o 6,.o 7],.row .i 0 w,.row .i 0 y]⟩):=D1
theorem pd4{G:Gs}(B:ap (ents G)){n:Nat}:al an (q4) (dd4 G n):=by
 have hc:q4= .region 4 (fq (q4)) true:=D1
 rw[hc];refine λ[Zb]=>ju mixed kX (jp B) (o:=⟨[1,2,4,5],[2,3],[]⟩) (d:=⟨[([2,3,4,5,7,0,1,6,8],[3,5,7,8],[]),([2,3,7,4,5,0,1,6,8],[3,7,5,8],[]),([4,5,2,3,7,0,1,6,8],[5,3,7,8],[]),([4,5,7,2,3,0,1,6,8],[5,7,3,8],[]),([7,2,3,4,5,0,1,6,8],[7,3,5,8],[]),([7,4,5,2,3,0,1,6,8],[7,5,3,8],[])],[3,5,7,8],[],(Te 5),[1,2,4]⟩) D1 (λp hp R st K r h=> ?_)
 have e:=h;unfold dd4 at e;split at e
 .rename_i j t v w y A;simp only[OI,O9,or_false]at hp;rcases hp with rfl|rfl|rfl|rfl|rfl|rfl
  .exact(Ma G n R j t v w y A K).trans h
  .exact((Mr G n R j t v w y A K).trans (MH G n j t v w y A _)).trans h
  .exact((s4_2 G n R j t v w y A K).trans (e4_2 G n j t v w y A _)).trans h
  .exact((s4_3 G n R j t v w y A K).trans (e4_3 G n j t v w y A _)).trans h
  .exact((s4_4 G n R j t v w y A K).trans (e4_4 G n j t v w y A _)).trans h
  .exact((s4_5 G n R j t v w y A K).trans (e4_5 G n j t v w y A _)).trans h
 .cases e
theorem ok{G:Gs}(d:ap (ents G)){g:Q}(h:∀s r,g s=some r->∃n,aq (R:=AT×Td Ob) G n s (λr0 t=>some (.tup [UH r0,Tp t],[]))=some (.tup [UH r.1,Tp r.2],[])):aj (ent g):=okQ λ_ _ _ _ _ hc=>Tk hc (h _) λn _ j=>fF d an (pc G n) Tryz.func31 j (apl [(2,4,q4),(1,6,.loop (Tj 500 bd)),(1,16,.loop (Tj 1012 bd))] ⟨pd4 d,⟨Tf d n (dl6 G n) rfl (pc G n) ⟨[1,2,4,5],[2,3],[(0,[1,2,4,5])]⟩ (apl [(1,9,.loop (Tj 256404 bd))] ⟨Tf d n (dl9 G n) rfl (pc G n) ⟨[1,2,4,5,6,28,29,30],[2,3],[(0,[1,2,4,5]),(1,[1,2,4,5,28,29,30]),(2,[1,2,4,5,6,28,29,30])]⟩,Th⟩),⟨Tf d n (HF G n) rfl (pc G n) ⟨[2,5],[2,3],[(4,[2,5])]⟩ (apl [(1,18,.loop (Tj 129636 bd))] ⟨Tf d n (yk G n) rfl (pc G n) ⟨[1,2,5,61,62],[2,3],[(4,[2,5]),(5,[1,2,5,61,62]),(6,[1,2,5,61,62])]⟩,Th⟩),Th⟩⟩⟩)
end z1p
namespace z1q
structure Gs where
 none_:Unit
def aq{R:Type}(G:Gs)(n:Nat)(x:Od)(k:Int)(K:Bool->Y R):Y R:=bif decide (0<=k)then(K (decide (k<(List.length x.db:Int))))else K false
theorem ok{G:Gs}(d:ap []){g:Q}(h:∀x k r,g x k=some r->∃n,aq G n x k Vn=Vn r):aj (ent g):=okQ λ_ _ _ _ _ _ _ hc=>Tk hc (h _ _) λ_ _ j=>fF d ⟨14,0,[],[],[4],[],[]⟩ nP Tryz.func84 j
end z1q
namespace z1h
structure Gs where
 z1q:z1q.Q
def ents(G:Gs):Td Ent:=[z1q.ent G.z1q]
def b7{R:Type}(G:Gs)(n:Nat)(t:LI)(v d:Int)(h0 h j:LI)(h1:Z)(w:LD)(y A:Bool)(B:Int)(h2:LI)(C:Int)(D:LI->Int->Int->LI->LI->LI->Z->LD->Bool->Bool->Int->LI->Int->Y R)(E:Bool->Y R)(k1:LI->LI->LI->Z->LD->Bool->Bool->Int->LI->Int->Y R):Y R:=bif decide (d<v)then((ix t d).bind λe=>(G.z1q (Od.mk h0 h j) e).bind λr=>bif !r then(E false)else D t v (wr (d+1)) h0 h j h1 w y A B h2 C)else k1 h0 h j h1 w y A B h2 C
variable{R:Type}(G:Gs)(n:Nat)
def l7(m:Nat)(d:LI)(h j:Int)(h0 t w:LI)(h1:Z)(y:LD)(A B:Bool)(C:Int)(h2:LI)(D:Int)(I:Bool->Y R)(k1:LI->LI->LI->Z->LD->Bool->Bool->Int->LI->Int->Y R):Y R:=aY (λ(v:LI×Int×Int×LI×LI×LI×Z×LD×Bool×Bool×Int×LI×Int) J=>b7 G n v.1 v.2.1 v.2.2.1 v.2.2.2.1 v.2.2.2.2.1 v.2.2.2.2.2.1 v.2.2.2.2.2.2.1 v.2.2.2.2.2.2.2.1 v.2.2.2.2.2.2.2.2.1 v.2.2.2.2.2.2.2.2.2.1 v.2.2.2.2.2.2.2.2.2.2.1 v.2.2.2.2.2.2.2.2.2.2.2.1 v.2.2.2.2.2.2.2.2.2.2.2.2 (λK L M N O P Q S T U E F H=>J (K,L,M,N,O,P,Q,S,T,U,E,F,H)) I k1) m (d,h,j,h0,t,w,h1,y,A,B,C,h2,D)
def b18{R:Type}(G:Gs)(n:Nat)(t53:LD)(t t55:Int)(v:LI)(w h:Int)(h0 j d h1:LI)(y:Int)(B:LD->Int->Int->LI->Int->Int->LI->LI->LI->LI->Int->Y R)(A:Bool->Y R)(k1:LD->Int->Int->LI->LI->LI->LI->Int->Y R):Y R:=bif decide (h<w)then((ix v h).bind λe=>(G.z1q (Od.mk h0 j d) e).bind λC=>bif !C then(A false)else(ix d e).bind λe3=>(ix h1 h).bind λD=>(ix d D).bind λE=>bif !decide (e3=E)then(A false)else B t53 t t55 v w (wr (h+1)) h0 j d h1 y)else k1 t53 t t55 h0 j d h1 y
def l18(m:Nat)(t53:LD)(d t55:Int)(h:LI)(j t:Int)(h0 w y h1:LI)(A:Int)(C:Bool->Y R)(k1:LD->Int->Int->LI->LI->LI->LI->Int->Y R):Y R:=aY (λ(v:LD×Int×Int×LI×Int×Int×LI×LI×LI×LI×Int) D=>b18 G n v.1 v.2.1 v.2.2.1 v.2.2.2.1 v.2.2.2.2.1 v.2.2.2.2.2.1 v.2.2.2.2.2.2.1 v.2.2.2.2.2.2.2.1 v.2.2.2.2.2.2.2.2.1 v.2.2.2.2.2.2.2.2.2.1 v.2.2.2.2.2.2.2.2.2.2 (λE F H I J K L M N O B=>D (E,F,H,I,J,K,L,M,N,O,B)) C k1) m (t53,d,t55,h,j,t,h0,w,y,h1,A)
def b13(t53:LD)(h t55:Int)(h0 j d h1:LI)(t:Int)(H:LD->Int->Int->LI->LI->LI->LI->Int->Y R)(D:Bool->Y R)(k1:Y R):Y R:=bif decide (t55<h)then((ix t53 t55).bind λe=>bif !decide ((List.length e.ae:Int)=(List.length h1:Int))then(D false)else(G.z1q (Od.mk h0 j d) e.result).bind λI=>bif !I then(D false)else(ix d e.result).bind λe3=>(ix d t).bind λJ=>bif !decide (e3=J)then(D false)else l18 G n n t53 h t55 e.ae (List.length e.ae:Int) 0 h0 j d h1 t (λt4=>D t4) (λv w y E A B F C=>H v w (wr (y+1)) E A B F C))else k1
def l13(m:Nat)(t53:LD)(d t55:Int)(h0 h j h1:LI)(t:Int)(w:Bool->Y R)(k1:Y R):Y R:=aY (λ(v:LD×Int×Int×LI×LI×LI×LI×Int) y=>b13 G n v.1 v.2.1 v.2.2.1 v.2.2.2.1 v.2.2.2.2.1 v.2.2.2.2.2.1 v.2.2.2.2.2.2.1 v.2.2.2.2.2.2.2 (λA B C D E F H I=>y (A,B,C,D,E,F,H,I)) w k1) m (t53,d,t55,h0,h,j,h1,t)
def aq(x:Od)(o:Opr)(K:Bool->Y R):Y R:=bif decide ((List.length o.aJ:Int)<1)then(K false)else bif decide (4<(List.length o.aJ:Int))then(K false)else(ix o.aJ 0).bind λe=>bif decide (3<(List.length e.ae:Int))then(K false)else(ix o.aJ 0).bind λe2=>(G.z1q x e2.result).bind λr=>bif !r then(K false)else l7 G n n e2.ae (List.length e2.ae:Int) 0 x.db x.below x.kind o.ah o.aJ o.aE o.comm o.aO e2.ae e2.result (λt4=>K t4) (λh0 h j h1 d w y A h2 t=>l13 G n n d (List.length d:Int) 0 h0 h j h2 t (λv=>K v) (K true))
def dl7(m:Nat):=rS [2,3,5,41,42,43] [Tw,TQ,U1,U2,Tx,Tx] [Up,TD,UL] λR K A B C h0 d h h1 j t v w h2 y=>l7 G n m A B C h0 d h h1 j t v w h2 y (λt4=>K .ret ⟨Uj t4,[]⟩) (λh0 d h h1 j t v w h2 y=>K (.exit 0) ⟨[(2,TF),(3,TR),(5,Ua)],[.box [.l .i h0,.l .i d,.l .i h],TV h1 j t v w,Ve h2 y]⟩)
def yk(m:Nat):=rS [2,5,53,54,55,89,90,91] [Tw,TQ,V9,Tx,Tx,U2,Tx,Tx] [Up,UL] λR K t53 d t55 v w y h0 h j h1 t=>l18 G n m t53 d t55 v w y h0 h j h1 t (λt4=>K .ret ⟨Uj t4,[]⟩) (λt53 d t55 h0 h j h1 t=>K (.exit 4) ⟨[(2,TF),(5,TR),(53,.one (.l (.n 7) t53)),(54,Tv d),(55,Tv t55)],[.box [.l .i h0,.l .i h,.l .i j],Ve h1 t]⟩)
def rk(m:Nat):=rS [2,5,53,54,55] [Tw,TQ,V9,Tx,Tx] [Up,UL] λR K t53 d t55 h0 h j h1 t=>l13 G n m t53 d t55 h0 h j h1 t (λt4=>K .ret ⟨Uj t4,[]⟩) (K (.exit 2) ⟨[],[]⟩)
def pc:Pcs:=⟨Tl 7 (dl7 G n n) (Tl 18 (yk G n n) (Tl 13 (rk G n n) nK)),nK,nK⟩
def an:Ann:=⟨119,0,[(7,[2,3,5,41,42,43]),(18,[2,5,53,54,55,89,90,91]),(13,[2,5,53,54,55])],[],[4],[(15,⟨[(Te 29,[],[])],[],[],[0,1,2],[]⟩),(20,⟨[(Te 21,[],[])],[],[],[0,1],[]⟩)],[]⟩
abbrev bd:=aK Tryz.f53
theorem ok{G:Gs}(d:ap (ents G)){g:Q}(h:∀x o r,g x o=some r->∃n,aq G n x o Vn=Vn r):aj (ent g):=okQ λ_ _ _ _ _ _ _ _ _ _ _ hc=>Tk hc (h _ _) λn _ j=>fF d an (pc G n) Tryz.func53 j (apl [(1,7,.loop (Tj 500 bd)),(1,13,.loop (Tj 1012 bd))] ⟨Tf d n (dl7 G n) rfl (pc G n) ⟨[2,3,5],[4],[(0,[2,3,5])]⟩,⟨Tf d n (rk G n) rfl (pc G n) ⟨[],[4],[(2,[])]⟩ (apl [(1,18,.loop (Tj 518556 bd))] ⟨Tf d n (yk G n) rfl (pc G n) ⟨[2,5,53,54,55],[4],[(2,[]),(3,[2,5,53,54,55]),(4,[2,5,53,54,55])]⟩,Th⟩),Th⟩⟩)
end z1h
namespace z1c
structure Gs where
 none_:Unit
def ents(_:Gs):Td Ent:=[]
def c10{R:Type}(G:Gs)(n:Nat)(h0 w d:LI)(h1:LB)(y:LS)(j:LO)(h2:Z)(A:LD)(B C:Bool)(h:Int)(F:LI)(t:Int)(v:Bool->Y R):Y R:=bif decide (h=0)then(v true)else(ix j (wr (h-1))).bind λe=>(ix e.aJ 0).bind λe2=>bif decide ((List.length e2.ae:Int)=0)then((ix d e2.result).bind λD=>(ix d t).bind λE=>v (decide (D=E)))else v false
variable{R:Type}(G:Gs)(n:Nat)
def c5(h0 v d:LI)(h1:LB)(w:LS)(y:LO)(h2:Z)(h:LD)(j A:Bool)(t:Int)(B:Bool->Y R):Y R:=(ix h 0).bind λe=>bif !decide ((List.length e.ae:Int)=2)then(B false)else(ix e.ae 0).bind λe3=>(ix d e3).bind λL=>(ix e.ae 1).bind λM=>(ix d M).bind λN=>bif !decide (L=N)then(B false)else bif j then((ix e.ae 0).bind λC=>(ix d C).bind λD=>(ix d e.result).bind λE=>bif !decide (D=E)then(B false)else c10 G n h0 v d h1 w y h2 h j A t e.ae e.result (λO=>B O))else bif !decide (t=0)then((ix e.ae 0).bind λF=>(ix d F).bind λH=>(ix d e.result).bind λI=>bif !decide (H=I)then(B false)else c10 G n h0 v d h1 w y h2 h j A t e.ae e.result (λJ=>B J))else c10 G n h0 v d h1 w y h2 h j A t e.ae e.result (λK=>B K)
def aq(x:Od)(s:Sg)(o:Opr)(K:Bool->Y R):Y R:=bif decide (o.aO<0)then(K false)else bif decide ((List.length s.ops:Int)<o.aO)then(K false)else bif !o.aE then(bif !o.comm then(bif decide (o.aO=0)then(K true)else c5 G n x.db x.below x.kind s.ai.ak s.ai.aA s.ops o.ah o.aJ o.aE o.comm o.aO (λj=>K j))else c5 G n x.db x.below x.kind s.ai.ak s.ai.aA s.ops o.ah o.aJ o.aE o.comm o.aO (λd=>K d))else c5 G n x.db x.below x.kind s.ai.ak s.ai.aA s.ops o.ah o.aJ o.aE o.comm o.aO (λh=>K h)
def Gf:=rS [3,4,5,7] [Tw,TQ,U1,Ul] [Up,TB,TD,UL] λR K h0 d h h1 j t h2 v w y A C B=>c10 G n h0 d h h1 j t h2 v w y A C B (λD=>K .ret ⟨[(6,Tp D)],[]⟩)
def dc5:=rS [3,4,5] [Tw,TQ,U1] [Up,TB,TD] λR K h0 d h h1 j t h2 v w y A=>c5 G n h0 d h h1 j t h2 v w y A (λB=>K .ret ⟨[(6,Tp B)],[]⟩)
def pc:Pcs:=⟨nK,Tl 10 (Gf G n) (Tl 5 (dc5 G n) nK),nK⟩
def an:Ann:=⟨116,0,[],[(10,[3,4,5,7]),(5,[3,4,5])],[6],[(6,⟨[(Te 23,[],[])],[],[],(Te 4),[]⟩),(8,⟨[(Te 24,[],[])],[],[],(Te 4),[]⟩),(13,⟨[(Te 20,[],[])],[],[],(Te 5),[]⟩)],[]⟩
abbrev bd:=aK Tryz.f54
theorem ok{G:Gs}(d:ap (ents G)){g:Q}(h:∀x s o r,g x s o=some r->∃n,aq G n x s o Vn=Vn r):aj (ent g):=okQ λ_ _ _ _ _ _ _ _ _ _ _ _ _ _ hc=>Tk hc (h _ _ _) λn _ j=>fF d an (pc G n) Tryz.func54 j (apl [(0,5,Tj 15 bd)] ⟨Tg d (dc5 G n) rfl (pc G n) ⟨[],[6],[]⟩ (apl [(0,10,Tj 127 bd)] ⟨Tg d (Gf G n) rfl (pc G n) ⟨[],[6],[]⟩,Th⟩),Th⟩)
end z1c
namespace z0j
structure Gs where
 z1p:z1p.Q
 z0h:z0h.Q
 z1h:z1h.Q
 z1c:z1c.Q
def ents(G:Gs):Td Ent:=[z1p.ent G.z1p,z0h.ent G.z0h,z1h.ent G.z1h,z1c.ent G.z1c]
def b6{R:Type}(G:Gs)(n:Nat)(t:LO)(v d:Int)(h0:LB)(w:LS)(y:LO)(h1 h j:LI)(h2:Td (Z×Bool))(B:LO->Int->Int->LB->LS->LO->LI->LI->LI->(Td (Z×Bool))->Y R)(A:Bool->Y R)(k1:LB->LS->LO->LI->LI->LI->Y R):Y R:=bif decide (d<v)then((ix t d).bind λe=>bif xG h2 e.ah false then(A false)else(G.z0h e.ah).bind λr=>bif !r then(A false)else(G.z1h (Od.mk h1 h j) e).bind λC=>bif !C then(A false)else B t v (wr (d+1)) h0 w y h1 h j ((e.ah,true)::h2))else k1 h0 w y h1 h j
variable{R:Type}(G:Gs)(n:Nat)
def l6(m:Nat)(d:LO)(h j:Int)(h0:LB)(t:LS)(w:LO)(h1 y A:LI)(h2:Td (Z×Bool))(B:Bool->Y R)(k1:LB->LS->LO->LI->LI->LI->Y R):Y R:=aY (λ(v:LO×Int×Int×LB×LS×LO×LI×LI×LI×(Td (Z×Bool))) C=>b6 G n v.1 v.2.1 v.2.2.1 v.2.2.2.1 v.2.2.2.2.1 v.2.2.2.2.2.1 v.2.2.2.2.2.2.1 v.2.2.2.2.2.2.2.1 v.2.2.2.2.2.2.2.2.1 v.2.2.2.2.2.2.2.2.2 (λD E F H I J K L M N=>C (D,E,F,H,I,J,K,L,M,N)) B k1) m (d,h,j,h0,t,w,h1,y,A,h2)
def b13{R:Type}(G:Gs)(n:Nat)(t53:LO)(d t55:Int)(h0:LB)(h:LS)(j:LO)(h1 t v:LI)(w:LO->Int->Int->LB->LS->LO->LI->LI->LI->Y R)(y:Bool->Y R)(k1:Y R):Y R:=bif decide (t55<d)then((ix t53 t55).bind λe=>(G.z1c (Od.mk h1 t v) (Sg.mk (So.mk h0 h) j) e).bind λr=>bif !r then(y false)else w t53 d (wr (t55+1)) h0 h j h1 t v)else k1
def l13(m:Nat)(t53:LO)(d t55:Int)(h0:LB)(h:LS)(j:LO)(h1 t w:LI)(y:Bool->Y R)(k1:Y R):Y R:=aY (λ(v:LO×Int×Int×LB×LS×LO×LI×LI×LI) A=>b13 G n v.1 v.2.1 v.2.2.1 v.2.2.2.1 v.2.2.2.2.1 v.2.2.2.2.2.1 v.2.2.2.2.2.2.1 v.2.2.2.2.2.2.2.1 v.2.2.2.2.2.2.2.2 (λB C D E F H I J K=>A (B,C,D,E,F,H,I,J,K)) y k1) m (t53,d,t55,h0,h,j,h1,t,w)
def aq(s:Sg)(K:Bool->Y R):Y R:=(G.z1p s.ai).bind λr=>bif !r.2 then(K false)else bif decide (14<(List.length s.ops:Int))then(K false)else l6 G n n s.ops (List.length s.ops:Int) 0 s.ai.ak s.ai.aA s.ops r.1.db r.1.below r.1.kind [] (λv=>K v) (λh0 h d h1 j t=>l13 G n n d (List.length d:Int) 0 h0 h d h1 j t (λt22=>K t22) (K true))
def dl6(m:Nat):=rS [1,3,5,26,27,28] [Tw,TQ,.x (.m 2),UT,Tx,Tx] [TB,Up,.m .b] λR K v w y h0 d h h1 j t h2=>l6 G n m v w y h0 d h h1 j t h2 (λA=>K .ret ⟨UG A,[]⟩) (λh0 d h h1 j t=>K (.exit 0) ⟨[(1,TF),(3,TR)],[TP h0 d h,.box [.l .i h1,.l .i j,.l .i t]]⟩)
def rk(m:Nat):=rS [1,3,53,54,55] [Tw,TQ,UT,Tx,Tx] [TB,Up] λR K t53 d t55 h0 h j h1 t v=>l13 G n m t53 d t55 h0 h j h1 t v (λw=>K .ret ⟨UG w,[]⟩) (K (.exit 2) ⟨[],[]⟩)
def pc:Pcs:=⟨Tl 6 (dl6 G n n) (Tl 13 (rk G n n) nK),nK,nK⟩
def an:Ann:=⟨65,0,[(6,[1,3,5,26,27,28]),(13,[1,3,53,54,55])],[],[2],[],[]⟩
abbrev bd:=aK Tryz.f30
theorem ok{G:Gs}(d:ap (ents G)){g:Q}(h:∀s r,g s=some r->∃n,aq G n s Vn=Vn r):aj (ent g):=okQ λ_ _ _ _ _ _ hc=>Tk hc (h _) λn _ j=>fF d an (pc G n) Tryz.func30 j (apl [(1,6,.loop (Tj 500 bd)),(1,13,.loop (Tj 1012 bd))] ⟨Tf d n (dl6 G n) rfl (pc G n) ⟨[1,3],[2],[(0,[1,3])]⟩,⟨Tf d n (rk G n) rfl (pc G n) ⟨[],[2],[(2,[])]⟩,Th⟩⟩)
end z0j
end
end
def cN(c:Int):Bool:=(decide (97<=c)&&decide (c<=122))||((decide (65<=c)&&decide (c<=90))||(decide (48<=c)&&decide (c<=57)))
def AM(c:Int):Bool:=(decide (97<=c)&&decide (c<=122))||(decide (65<=c)&&decide (c<=90))
def Ns(s:Z):Bool:=sEq s (ByteArray.mk #[105,102])||sEq s (ByteArray.mk #[97,110,100])
def cY(s:Z):Bool:=decide (1<=s.size)&&(decide (s.size<=12)&&(!Ns s&&(((ofS s).head?.any AM)&&(ofS s).all cN)))
theorem BX:aj (z3a.ent λx lo hi=>some (decide (lo<=x)&&decide (x<=hi))):=z3a.ok (G:=⟨()⟩) trivial λx lo hi r h=>⟨1,by
 cases h;unfold z3a.aq;by_cases h:lo<=x<;>simp[h]⟩
theorem Hr:aj (z3c.ent λa b=>some (kQ b a)):=z3c.ok (G:=⟨()⟩) trivial λa b r h=>⟨1,by
 cases h;unfold z3c.aq kQ;by_cases h:a<b<;>simp[h]⟩
theorem qr:aj (z1m.ent λc=>some (cN c)):=z1m.ok (G:=⟨()⟩) trivial λc r h=>⟨1,by
 cases h;unfold z1m.aq cN;generalize decide (97<=c)=b1;generalize decide (c<=122)=b2;generalize decide (65<=c)=b3;generalize decide (c<=90)=b4;generalize decide (48<=c)=b5;generalize decide (c<=57)=b6;cases b1<;>cases b2<;>cases b3<;>cases b4<;>cases b5<;>cases b6<;>rfl⟩
theorem z4j{R:Type}(G:z2n.Gs)(n:Nat)(s:Z)(hs:s.size<=12)(d:Bool->Y R)(k1:Y R):z2n.l4 G n 1000 s 0 d k1=bif (ofS s).all cN then k1 else d false:=by
 refine PV (uO (body:=λv h=>z2n.b4 G n v.1 v.2 (λt w=>h (t,w)) d k1) (Q:=λv=>v.1=s/\0<=v.2/\v.2<=s.size) (μ:=λv=>(s.size-v.2).toNat) (f:=λv=>bif ((ofS s).drop v.2.toNat).all cN then k1 else d false) ?_ 1000 (s,0) ⟨rfl,A1,A1⟩ D2) A1;rintro⟨a,i⟩ h ⟨e1,q0,q1⟩ j;simp only at e1 q0 q1 j ⊢;subst e1;unfold z2n.b4;by_cases hi:i<(ByteArray.size a:Int)
 .obtain⟨c,y,B,A,_⟩:=gz (a:=ofS a) q0 RK;rw[dT hi,cT];simp only[rr,y,bS];rw[A,Pe,aX (x:=i+1) A0];have e:=j (a,i+1) ⟨rfl,D2,D2⟩ D2;rw[e];unfold cN;generalize decide (97<=c)=b1;generalize decide (c<=122)=b2;generalize decide (65<=c)=b3;generalize decide (c<=90)=b4;generalize decide (48<=c)=b5;generalize decide (c<=57)=b6;cases b1<;>cases b2<;>cases b3<;>cases b4<;>cases b5<;>cases b6<;>rfl
 .rw[dF hi,cF,lw RK];rfl
theorem z2o:aj (z2n.ent λs=>some (cY s)):=z2n.ok (G:=⟨()⟩) trivial λs r h=>⟨1000,by
 cases h;unfold z2n.aq cY Ns;cases h1:sEq s (ByteArray.mk #[105,102])with
 |true=>simp
 | false=>
  cases h2:sEq s (ByteArray.mk #[97,110,100])with
  |true=>simp
  | false=>
   by_cases d:(ByteArray.size s:Int)<1
   .grind
   .by_cases h4:12<(ByteArray.size s:Int)
    .grind
    .rw[dF d,dF h4,dT (A0:s.size<=12),dT (A0:1<=s.size)];have hl:=ce s;simp only[rr,cF,Bool.or_self,OS,O7,z2n.c3,z4j ⟨()⟩ 1000 s A0];cases j:ofS s with
     |nil=>rw[j]at hl;simp at hl;omega
     | cons c l=>
      have e:ix (c::l) 0=some c:=rfl;simp only[e,bS,List.head?_cons,Option.any_some];unfold AM;generalize (c::l).all cN=b0;generalize decide (97<=c)=b1;generalize decide (c<=122)=b2;generalize decide (65<=c)=b3;generalize decide (c<=90)=b4;cases b0<;>cases b1<;>cases b2<;>cases b3<;>cases b4<;>rfl⟩
theorem z1n{R:Type}(n:Nat)(s:Z)(hs:s.size<=12)(d:Bool->Y R)(k1:Y R):∀m (i:Int),0<i->i<=s.size->(s.size-i).toNat<m->
  z0h.l4 ⟨λc=>some (cN c)⟩ n m s i d k1=bif ((ofS s).drop i.toNat).all cN then k1 else d false:=by
 intro m
 induction m with
 |zero=>exact T6
 | succ m h=>
  intro i q0 q1 hm;show z0h.b4 ⟨λc=>some (cN c)⟩ n s i (λj t=>z0h.l4 ⟨λc=>some (cN c)⟩ n m j t d k1) d k1=_;unfold z0h.b4;by_cases hi:i<(ByteArray.size s:Int)
  .obtain⟨c,v,y,w,_⟩:=gz (a:=ofS s) (i:=i) A0 RK;rw[dT hi,cT];simp only[rr,v,bS];rw[w,Pe,aX (x:=i+1) A0,dF (A0:¬i=0),h (i+1) A0 A0 A0];cases cN c<;>rfl
  .rw[dF hi,cF,lw RK];rfl
theorem z0i:aj (z0h.ent λs=>some (cY s)):=z0h.ok (G:=⟨λc=>some (cN c)⟩) ⟨qr,trivial⟩ λs r h=>⟨1000,by
 cases h;unfold z0h.aq cY Ns;by_cases d:(ByteArray.size s:Int)<1
 .rw[dT d,dF (A0:¬1<=s.size)];rfl
 .by_cases h4:12<(ByteArray.size s:Int)
  .rw[dF d,dT h4,dF (A0:¬s.size<=12),dT (A0:1<=s.size)];rfl
  .rw [decide_eq_false d,decide_eq_false h4,decide_eq_true (A0:s.size<=12),decide_eq_true (A0:1<=s.size)];cases h1:sEq s (ByteArray.mk #[105,102])with
   |true=>simp
   | false=>
    cases h2:sEq s (ByteArray.mk #[97,110,100])with
    |true=>simp
    | false=>
     have hl:=ce s;simp only[cF,Bool.or_self,OS,O7];show z0h.b4 ⟨λc=>some (cN c)⟩ 1000 s 0 (λv w=>z0h.l4 ⟨λc=>some (cN c)⟩ 1000 999 v w (λj=>some (AT.one (C.b j),([]:Td Ob))) (some (AT.one (C.b true),[]))) (λj=>some (AT.one (C.b j),[])) (some (AT.one (C.b true),[]))=_;unfold z0h.b4;rw[dT (A0:0<(ByteArray.size s:Int)),cT];have key:=z1n 1000 s A0 (λr0=>some (AT.one (.b r0),([]:Td Ob))) (some (AT.one (.b true),[])) 999 1 A0 A0 A0;have A:=Du s;cases t:ofS s with
     |nil=>rw[t]at hl;simp at hl;omega
     | cons c l=>
      have e:ix (c::l) 0=some c:=rfl;rw[t]at key;have y:wr 1=1:=aX A0;simp only[rr,t,e,bS,List.head?_cons,Option.any_some,decide_true,cT,Int.zero_add,y,key,Int.toNat_one,List.drop_one,List.tail_cons,Pe];generalize l.all cN=b0;unfold cN AM;by_cases g1:c<=57
      .rw[dT g1,dF (A0:¬97<=c),dF (A0:¬65<=c)];cases decide (48<=c)<;>cases b0<;>rfl
      .rw[dF g1];generalize decide (97<=c)=b1;generalize decide (c<=122)=b2;generalize decide (65<=c)=b3;generalize decide (c<=90)=b4;generalize decide (48<=c)=b5;cases b0<;>cases b1<;>cases b2<;>cases b3<;>cases b4<;>cases b5<;>rfl⟩
abbrev orI(a b:Int):Int:=Abs.bz .or .i64 a b
abbrev Es(i:Int):Int:=Abs.bz .shl .i64 1 i
def dh(l:Td Int)(i:Int):Int:=(ix l i).getD 0
def itn{A:Type}(f:A->A):Nat->A->A
 |0,x=>x
 |n+1,x=>itn f n (f x)
def AH(l:Td Int)(p:Sb):Td Int:=l.set p.low.toNat (orI (dh l p.low) (dh l p.cK))
def mi(aA:Td Sb)(l:Td Int):Td Int:=aA.foldl AH l
def dR(n:Nat):Td Int:=(List.range n).map λ(k:Nat)=>Es (k:Int)
def upI(n:Nat)(aA:Td Sb):Td Int:=itn (mi aA) n (dR n)
def td(l:Td Int)(p:Sb):Td Int:=(l.set p.low.toNat (kQ (dh l p.low) (dh l p.cK))).set p.cK.toNat (kQ (dh l p.low) (dh l p.cK))
def mf(aA:Td Sb)(l:Td Int):Td Int:=aA.foldl td l
def vI(n:Nat):Td Int:=(List.range n).map λ(k:Nat)=>(k:Int)
def cz(n:Nat)(aA:Td Sb):Td Int:=itn (mf aA) n (vI n)
def Cj(n:Nat)(p:Sb):Bool:=decide (0<=p.low)&&decide (p.low<n)&&decide (0<=p.cK)&&decide (p.cK<n)
def jk(n:Nat)(aA:Td Sb):Bool:=aA.all (Cj n)
def wh(s:So):Bool:=decide (s.ak.length<=8)&&decide (s.aA.length<=16)&&jk s.ak.length s.aA
theorem ig{l:Td Int}{i:Int}(h0:0<=i)(h1:i<l.length):ix l i=some (dh l i):=by
 obtain⟨x,d⟩:=IH h0 h1;unfold dh;rw[d];rfl
theorem py{n:Nat}{p:Sb}(h:Cj n p=true):0<=p.low/\p.low<n/\0<=p.cK/\p.cK<n:=by
 unfold Cj at h;simp only[bA,O8]at h;exact⟨h.1.1.1,h.1.1.2,h.1.2,h.2⟩
theorem nO(l:Td Int)(p:Sb):(AH l p).length=l.length:=by simp[AH]
theorem oH(l:Td Int)(p:Sb):(td l p).length=l.length:=by simp[td]
theorem jZ{A:Type}{f:Td Int->A->Td Int}(d:∀l p,(f l p).length=l.length):∀(xs:Td A)(l:Td Int),(xs.foldl f l).length=l.length
 |[],_=>rfl
 |x::xs,l=>by rw[PI,jZ d xs,d]
theorem vR{f:Td Int->Td Int}(d:∀l,(f l).length=l.length):∀n l,(itn f n l).length=l.length
 |0,_=>rfl
 |n+1,l=>by simp only[itn];rw[vR d n,d]
theorem re(n:Nat)(aA:Td Sb):(upI n aA).length=n:=by
 unfold upI;rw[vR (f:=mi aA) (λl=>jZ nO aA l)];simp[dR]
theorem DH(n:Nat)(aA:Td Sb):(cz n aA).length=n:=by
 unfold cz;rw[vR (f:=mf aA) (λl=>jZ oH aA l)];simp[vI]

-- the program
section
variable {R : Type}
theorem Jy(G:z1v.Gs)(n N:Nat)(hN:N<=8)(h0:Td Z)(d:Td Sb)(j:Td Z->Td Sb->Td Int->Y R):∀m (i:Int) (l:Td Int),0<=i->i<=N->l.length=N->l.take i.toNat=(dR N).take i.toNat->(N-i).toNat<m->
  z1v.l3 G n m (N:Int) i h0 d l j=j h0 d (dR N):=by
 intro m
 induction m with
 |zero=>intro i l _ _ _ _ hm;omega
 | succ m v=>
  intro i l q0 q1 w qt hm;show z1v.b3 G n N i h0 d l (λy A B C D=>z1v.l3 G n m y A B C D j) j=_;unfold z1v.b3;have E:(dR N).length=N:=by simp[dR]
  by_cases hi:i<(N:Int)
  .rw[dT hi,cT,dT q0,cT,bS,ig q0 A0,bS,aX (x:=i+1) A0];have F:(dR N)[i.toNat]? =some (Es i):=by
    have t:i.toNat<N:=A0
    have e:((i.toNat:Nat):Int)=i:=A0
    simp[dR,t,e]
   obtain⟨s1,s2⟩:=GG (a:=dR N) (h:=l) q0 A0 A0 qt F;exact v (i+1) _ A0 A0 (by simp[w]) s2 A0
  .rw[dF hi,cF,D9 (a:=dR N) (h:=l) (i:=i) A0 A0 qt]
theorem KM(G:z1v.Gs)(n N:Nat)(a b:Int)(aA:Td Sb)(hs:aA.length<=16)(h:jk N aA=true)(h0:Td Z)(d:Td Sb)(j:Int->Int->Td Z->Td Sb->Td Int->Y R):∀m (i:Int) (l:Td Int),0<=i->i<=aA.length->l.length=N->(aA.length-i).toNat<m->
  z1v.l10 G n m a b aA (aA.length:Int) i h0 d l j=j a b h0 d (mi (aA.drop i.toNat) l):=by
 intro m
 induction m with
 |zero=>exact T3
 | succ m t=>
  intro i l q0 q1 v hm;show z1v.b10 G n a b aA (aA.length:Int) i h0 d l (λw y A B C D E F=>z1v.l10 G n m w y A B C D E F j) j=_;unfold z1v.b10;by_cases hi:i<(aA.length:Int)
  .obtain⟨p,H,I,J,_⟩:=gz q0 hi;obtain⟨K,M,L,O⟩:=py (aT.1 h p I);rw[dT hi,cT,H,bS,ig K A0,bS,ig L A0,bS,bS,aX (x:=i+1) A0];refine PV (t (i+1) _ A0 A0 (by simp[v]) A0) ?_;rw[J];rfl
  .rw[dF hi,cF,lw hi];rfl
theorem DB(G:z1v.Gs)(N:Nat)(hN:N<=8)(aA:Td Sb)(hs:aA.length<=16)(h:jk N aA=true)(h0:Td Z)(d:Td Int->Y R):∀m (i:Int) (l:Td Int),0<=i->i<=N->l.length=N->(N-i).toNat<m->
  z1v.l8 G 1000 m (N:Int) i h0 aA l d=d (itn (mi aA) (N-i).toNat l):=by
 intro m
 induction m with
 |zero=>exact T3
 | succ m t=>
  intro i l q0 q1 j hm;show z1v.b8 G 1000 N i h0 aA l (λv w y A B=>z1v.l8 G 1000 m v w y A B d) d=_;unfold z1v.b8;by_cases hi:i<(N:Int)
  .rw[dT hi,cT,KM G 1000 N _ _ aA hs h _ _ _ 1000 0 l A0 A0 j A0,aX (x:=i+1) A0];refine PV (t (i+1) _ A0 A0 Rf A0) ?_;exact SO
  .rw[dF hi,cF,(A0:(N-i).toNat=0)];rfl
end
theorem ow{s:So}(h:wh s=true):s.ak.length<=8/\s.aA.length<=16/\jk s.ak.length s.aA=true:=by
 unfold wh at h;simp only[bA,O8]at h;exact⟨h.1.1,h.1.2,h.2⟩
theorem IN:aj (z1v.ent λs=>if wh s then some (upI s.ak.length s.aA)else none):=z1v.ok (G:=⟨()⟩) trivial λs r h=>by
 split at h
 .rename_i hp;cases h;obtain⟨h1,h2,d⟩:=ow hp;refine⟨1000,?_⟩;unfold z1v.aq;rw[LU A0,bS];have e:((List.replicate s.ak.length (0:Int)).length:Int)=(s.ak.length:Int):=A1
  rw[e,Jy ⟨()⟩ 1000 s.ak.length h1 _ _ _ 1000 0 _ A0 A0 A1 A1 A0];have e2:((dR s.ak.length).length:Int)=(s.ak.length:Int):=by simp[dR]
  rw[e2,DB ⟨()⟩ s.ak.length h1 s.aA h2 d _ _ 1000 0 _ A0 A0 (by simp[dR]) A0];rfl
 .cases h

-- the reference
theorem FZ:aj (z3g.ent λk=>if 0<=k/\k<1000 then some (Es k)else none):=z3g.ok (G:=⟨()⟩) trivial λk r h=>by
 split at h
 .rename_i hk;cases h;refine⟨1,?_⟩;unfold z3g.aq;rw[E4 hk.1 hk.2,dT hk.1];rfl
 .cases h
abbrev uB:Int->Y Int:=λk=>if 0<=k/\k<1000 then some (Es k)else none
section
variable {R : Type}
theorem HE(n:Nat)(h0:Td Z)(hN:h0.length<=8)(d:Td Sb)(h:Td Z->Td Sb->Td Int->Y R):∀m (i:Int) (l:Td Int),0<=i->i<=h0.length->l=dR i.toNat->(h0.length-i).toNat<m->
  z3j.l3 ⟨uB⟩ n m i h0 d l h=h h0 d (dR h0.length):=by
 intro m
 induction m with
 |zero=>exact T3
 | succ m t=>
  intro i l q0 q1 j hm;show z3j.b3 ⟨uB⟩ n i h0 d l (λv w y A=>z3j.l3 ⟨uB⟩ n m v w y A h) h=_;unfold z3j.b3;have hl:l.length=i.toNat:=by rw[j];simp[dR]
  by_cases hi:i<(h0.length:Int)
  .have B:uB i=some (Es i):=mt ⟨q0,A0⟩;rw[dT hi,cT];dsimp only;rw[B,bS,Iq A4,bS,aX (x:=i+1) A0];refine t (i+1) _ A0 A0 ?_ A0;have e:(i+1).toNat=i.toNat+1:=A0
   have e2:((i.toNat:Nat):Int)=i:=A0
   rw[e,j];simp[dR,List.range_succ,e2]
  .grind
theorem E9(G:z3j.Gs)(n N:Nat)(a:Int)(aA:Td Sb)(hs:aA.length<=16)(h:jk N aA=true)(h0:Td Z)(d:Int->Td Z->Td Sb->Td Int->Y R):∀m (i:Int) (l:Td Int),0<=i->i<=aA.length->l.length=N->(aA.length-i).toNat<m->
  z3j.l10 G n m a i h0 aA l d=d a h0 aA (mi (aA.drop i.toNat) l):=by
 intro m
 induction m with
 |zero=>exact T3
 | succ m j=>
  intro i l q0 q1 t hm;show z3j.b10 G n a i h0 aA l (λv w y A B=>z3j.l10 G n m v w y A B d) d=_;unfold z3j.b10;by_cases hi:i<(aA.length:Int)
  .obtain⟨p,C,D,E,_⟩:=gz q0 hi;obtain⟨F,I,H,J⟩:=py (aT.1 h p D);rw[dT hi,cT];simp only[C,bS,ig (l:=l) F A0,ig (l:=l) H A0,aX (x:=i+1) A0];refine PV (j (i+1) _ A0 A0 RG A0) ?_;rw[E];rfl
  .rw[dF hi,cF,lw hi];rfl
theorem zT(G:z3j.Gs)(N:Nat)(h0:Td Z)(hN:h0.length=N)(t:N<=8)(aA:Td Sb)(hs:aA.length<=16)(h:jk N aA=true)(d:Td Int->Y R):∀m (i:Int) (l:Td Int),0<=i->i<=N->l.length=N->(N-i).toNat<m->
  z3j.l7 G 1000 m i h0 aA l d=d (itn (mi aA) (N-i).toNat l):=by
 intro m
 induction m with
 |zero=>exact T3
 | succ m v=>
  intro i l q0 q1 j hm;show z3j.b7 G 1000 i h0 aA l (λw y A B=>z3j.l7 G 1000 m w y A B d) d=_;unfold z3j.b7;rw[hN];by_cases hi:i<(N:Int)
  .rw[dT hi,cT,E9 G 1000 N _ aA hs h _ _ 1000 0 l A0 A0 j A0,aX (x:=i+1) A0];refine PV (v (i+1) _ A0 A0 Rf A0) ?_;exact SO
  .rw[dF hi,cF,(A0:(N-i).toNat=0)];rfl
theorem zY(G:z3i.Gs)(n:Nat)(h0:Td Z)(hN:h0.length<=8)(d:Td Sb)(h:Td Z->Td Sb->Td Int->Y R):∀m (i:Int) (l:Td Int),0<=i->i<=h0.length->l=vI i.toNat->(h0.length-i).toNat<m->
  z3i.l3 G n m i h0 d l h=h h0 d (vI h0.length):=by
 intro m
 induction m with
 |zero=>exact T3
 | succ m t=>
  intro i l q0 q1 j hm;show z3i.b3 G n i h0 d l (λv w y A=>z3i.l3 G n m v w y A h) h=_;unfold z3i.b3;have hl:l.length=i.toNat:=by rw[j];simp[vI]
  by_cases hi:i<(h0.length:Int)
  .rw[dT hi,cT,Iq A4,bS,aX (x:=i+1) A0];refine t (i+1) _ A0 A0 ?_ A0;have e:(i+1).toNat=i.toNat+1:=A0
   have e2:((i.toNat:Nat):Int)=i:=A0
   rw[e,j];simp[vI,List.range_succ,e2]
  .grind
theorem Am(n N:Nat)(a:Int)(aA:Td Sb)(hs:aA.length<=16)(h:jk N aA=true)(h0:Td Z)(j:Int->Td Z->Td Sb->Td Int->Y R):∀m (i:Int) (l:Td Int),0<=i->i<=aA.length->l.length=N->(aA.length-i).toNat<m->
  z3i.l10 ⟨λa b=>some (kQ b a)⟩ n m a i h0 aA l j=j a h0 aA (mf (aA.drop i.toNat) l):=by
 intro m
 induction m with
 |zero=>exact T3
 | succ m v=>
  intro i l q0 q1 w hm;show z3i.b10 ⟨λa b=>some (kQ b a)⟩ n a i h0 aA l (λA B C D E=>z3i.l10 ⟨λa b=>some (kQ b a)⟩ n m A B C D E j) j=_;unfold z3i.b10;by_cases hi:i<(aA.length:Int)
  .obtain⟨p,F,G,H,_⟩:=gz q0 hi;obtain⟨I,L,t,M⟩:=py (aT.1 h p G);rw[dT hi,cT];have d:∀z,∃y,ix (l.set p.low.toNat z) p.cK=some y:=λz=>IH t A4;have J:kQ (dh l p.cK) (dh l p.low)=kQ (dh l p.low) (dh l p.cK):=by unfold kQ;split<;>split<;>omega
   obtain⟨y,K⟩:=d (kQ (dh l p.low) (dh l p.cK));simp only[F,bS,ig (l:=l) I A0,ig (l:=l) t A0,aX (x:=i+1) A0,J,K];refine PV (v (i+1) _ A0 A0 (by simp[w]) A0) ?_;rw[H];rfl
  .rw[dF hi,cF,lw hi];rfl
theorem wJ(N:Nat)(h0:Td Z)(t:N<=8)(aA:Td Sb)(hs:aA.length<=16)(h:jk N aA=true)(d:Td Int->Y R):∀m (i:Int) (l:Td Int),0<=i->i<=N->l.length=N->(N-i).toNat<m->
  z3i.l7 ⟨λa b=>some (kQ b a)⟩ 1000 m i h0 aA l d=d (itn (mf aA) (N-i).toNat l):=by
 intro m
 induction m with
 |zero=>exact T3
 | succ m v=>
  intro i l q0 q1 j hm;show z3i.b7 ⟨λa b=>some (kQ b a)⟩ 1000 i h0 aA l (λw y A B=>z3i.l7 ⟨λa b=>some (kQ b a)⟩ 1000 m w y A B d) d=_;unfold z3i.b7;rw[j];by_cases hi:i<(N:Int)
  .rw[dT hi,cT,Am 1000 N _ aA hs h _ _ 1000 0 l A0 A0 j A0,aX (x:=i+1) A0];refine PV (v (i+1) _ A0 A0 (by rw[Int.toNat_zero,OQ];exact(jZ oH aA l).trans j) A0) ?_;exact SO
  .rw[dF hi,cF,(A0:(N-i).toNat=0)];rfl
end
theorem OG:aj (z3j.ent λs=>if wh s then some (upI s.ak.length s.aA)else none):=z3j.ok (G:=⟨uB⟩) ⟨FZ,trivial⟩ λs r h=>by
 split at h
 .rename_i hp;cases h;obtain⟨h1,h2,d⟩:=ow hp;refine⟨1000,?_⟩;unfold z3j.aq;rw[HE 1000 s.ak h1 _ _ 1000 0 [] A0 A0 rfl A0,zT ⟨uB⟩ s.ak.length s.ak rfl h1 s.aA h2 d _ 1000 0 _ A0 A0 (by simp[dR]) A0];rfl
 .cases h
theorem nD:aj (z3i.ent λs=>if wh s then some (cz s.ak.length s.aA)else none):=z3i.ok (G:=⟨λa b=>some (kQ b a)⟩) ⟨Hr,trivial⟩ λs r h=>by
 split at h
 .rename_i hp;cases h;obtain⟨h1,h2,d⟩:=ow hp;refine⟨1000,?_⟩;unfold z3i.aq;rw[zY _ 1000 s.ak h1 _ _ 1000 0 [] A0 A0 rfl A0,wJ s.ak.length s.ak h1 s.aA h2 d _ 1000 0 _ A0 A0 (by simp[vI]) A0];rfl
 .cases h
section
open Classical
def nA:Td Z->Td Z->Bool
 |_,[]=>true
 |seen,x::xs=>cY x&&(!(seen.any λy=>sEq y x)&&nA (seen++[x]) xs)
def Kc(n:Nat)(p:Sb):Bool:=Cj n p&& !decide (p.low=p.cK)
def Gw(x k:Int):Bool:=decide (Abs.bz .and .i64 (Abs.bz .shr .i64 x k) 1=1)
def bad(l:Td Int)(i k:Int):Prop:=Gw (dh l i) k=true/\Gw (dh l k) i=true
noncomputable def CD(l:Td Int):Bool:=decide (¬∃i k:Int,0<=k/\k<i/\i<l.length/\bad l i k)
noncomputable def jR(s:So):Bool:=decide (1<=s.ak.length)&&(decide (s.ak.length<=8)&&(decide (s.aA.length<=16)&&(nA [] s.ak&&(s.aA.all (Kc s.ak.length)&&CD (upI s.ak.length s.aA)))))
theorem Ff{l:Td Int}{i:Int}(h0:0<=i)(h1:i<l.length):dh l i∈l:=by
 have:=ig h0 h1;unfold ix at this;rw[dT h0,cT]at this;exact mG this
abbrev uw:Z->Y Bool:=λs=>some (cY s)
section
variable {R : Type}
end
theorem BC{n:Nat}{aA:Td Sb}(h:aA.all (Kc n)=true):jk n aA=true:=by
 unfold jk;rw[aT]at h ⊢;intro p hp;have:=h p hp;unfold Kc at this;rw[bA]at this;exact this.1
section
variable {R : Type}
end
def M3(x:Int):Bool:=decide (0<=x)&&decide (x<=65535)
def M8(x:Int):Td Int:=if M3 x then (vI 16).filter λk=>Gw x k else []
def N6(i:Int)(b:Td Int)(k:Int):Td Int:=b.set k.toNat (orI (dh b k) (Es i))
def MI(up:Td Int)(b:Td Int)(i:Int):Td Int:=(M8 (dh up i)).foldl (N6 i) b
def gX(up:Td Int):Td Int:=(vI up.length).foldl (MI up) (List.replicate up.length 0)
section
variable {R : Type} {q : So → Y Bool}
end
theorem wN{s:So}(h:jR s=true):1<=s.ak.length/\s.ak.length<=8/\s.aA.length<=16/\jk s.ak.length s.aA=true/\wh s=true:=by
 unfold jR at h;simp only[bA,O8]at h;obtain⟨h1,h2,d,_,h4,_⟩:=h;refine⟨h1,h2,d,BC h4,?_⟩;unfold wh;rw[dT h2,dT d,BC h4];rfl
def inN(N:Nat)(x:Int):Bool:=decide (0<=x)&&decide (x<N)
theorem kG{N:Nat}{x:Int}:inN N x=true↔0<=x/\x<N:=by unfold inN;simp
def xE(N:Nat)(d:Td Int):Td Int->Td Int->Bool
 |[],_=>true
 |a::l,b::m=>inN N a&&(decide (dh d a=dh d b)&&xE N d l m)
 |_::_,[]=>false
def FP(N:Nat)(h:Td Int)(first d:Dc):Bool:=decide (d.ae.length=first.ae.length)&&(inN N d.result&&(xE N h d.ae first.ae&&decide (dh h d.result=dh h first.result)))
def first(o:Opr):Dc:=o.aJ.headD ⟨[],0⟩
def rp(N:Nat)(d:Td Int)(o:Opr):Bool:=decide (1<=o.aJ.length)&&(decide (o.aJ.length<=4)&&(decide ((first o).ae.length<=3)&&o.aJ.all (FP N d (first o))))
def axF(d:Td Int)(ops:Td Opr)(o:Opr):Bool:=
 bif !o.aE&&(!o.comm&&decide (o.aO=0))then true
 else decide ((first o).ae.length=2)&&(decide (0<=o.aO)&&(decide (o.aO<=ops.length)&&(decide (dh d (dh (first o).ae 0)=dh d (dh (first o).ae 1))&&
  ((bif o.aE||decide (0<o.aO)then decide (dh d (dh (first o).ae 0)=dh d (first o).result)else true)&&
  (bif decide (o.aO=0)then true else match ix ops (o.aO-1)with
   |some u=>decide ((first u).ae.length=0)&&decide (dh d (first u).result=dh d (first o).result)
   |none=>false)))))
def zt(N:Nat)(d:Td Int):Td Z->Td Opr->Bool
 |_,[]=>true
 |seen,o::rest=>cY o.ah&&(rp N d o&&(!(seen.any λy=>sEq y o.ah)&&zt N d (seen++[o.ah]) rest))
noncomputable def bD(s:Sg):Bool:=jR s.ai&&(decide (s.ops.length<=14)&&(zt s.ai.ak.length (cz s.ai.ak.length s.ai.aA) [] s.ops&&s.ops.all (axF (cz s.ai.ak.length s.ai.aA) s.ops)))
theorem gf{o:Opr}(h:1<=o.aJ.length):ix o.aJ 0=some (first o):=by
 unfold first
 cases hd:o.aJ with
 |nil=>rw[hd]at h;simp at h
 |cons d l=>rfl
theorem zh{N:Nat}{d:Td Int}:∀{l m:Td Int},xE N d l m=true->∀x∈l,inN N x=true
 |[],_,_,x,j=>by simp at j
 | a::l,b::m,h,x,j=>by
  simp only[xE,bA]at h;rcases List.mem_cons.1 j with rfl|j
  .exact h.1
  .exact zh h.2.2 x j
 |_::_,[],h,_,_=>by simp[xE]at h
theorem vP{N:Nat}{j:Td Int}{o:Opr}(h:rp N j o=true):1<=o.aJ.length/\o.aJ.length<=4/\(first o).ae.length<=3/\(∀d∈o.aJ,FP N j (first o) d=true)/\inN N (first o).result=true/\∀x∈(first o).ae,inN N x=true:=by
 unfold rp at h;simp only[bA,O8]at h;obtain⟨h1,h2,v,h4⟩:=h;rw[aT]at h4;have hm:first o∈o.aJ:=by
  unfold first
  cases hd:o.aJ with
  |nil=>rw[hd]at h1;simp at h1
  |cons d l=>simp
 have t:=h4 _ hm;unfold FP at t;simp only[bA]at t;exact⟨h1,h2,v,h4,t.2.1,zh t.2.2.1⟩
theorem ru:aj (z3k.ent λo=>if 1<=o.aJ.length then some ((first o).ae.length:Int)else none):=z3k.ok (G:=⟨()⟩) trivial λo r h=>by
 split at h
 .rename_i h1;cases h;exact⟨1,by unfold z3k.aq;rw[gf h1];rfl⟩
 .cases h
abbrev kT:So->Y (Td Int):=λs=>if wh s then some (cz s.ak.length s.aA)else none
abbrev gAr:Opr->Y Int:=λo=>if 1<=o.aJ.length then some ((first o).ae.length:Int)else none
section
variable {R : Type}
end
def Ls(N:Nat)(d:Td Int)(ops:Td Opr):Bool:=ops.all (rp N d)
section
variable {R : Type}
theorem Mq{o:Opr}(h:1<=o.aJ.length):gAr o=some ((first o).ae.length:Int):=mt h
end
section
variable {R : Type} {q : So → Y Bool}
def nm(ops:Td Opr):Td Z:=ops.map Opr.ah
theorem BV{N:Nat}{d:Td Int}:∀{ops:Td Opr}{seen:Td Z},zt N d seen ops=true->Ls N d ops=true
 |[],_,_=>rfl
 | o::ops,seen,h=>by
  simp only[zt,bA]at h;simp only[Ls,Pe,bA];exact⟨h.2.1,BV h.2.2.2⟩
end
theorem jv{s:Sg}(h:bD s=true):s.ops.length<=14/\∀o∈s.ops,rp s.ai.ak.length (cz s.ai.ak.length s.ai.aA) o=true/\axF (cz s.ai.ak.length s.ai.aA) s.ops o=true:=by
 unfold bD at h;simp only[bA,O8]at h;obtain⟨_,h1,h2,d⟩:=h;exact⟨h1,λo ho=>⟨aT.1 (BV h2) o ho,aT.1 d o ho⟩⟩
theorem G8{d:Td Int}{ops:Td Opr}{o:Opr}(h:axF d ops o=true):0<=o.aO/\o.aO<=ops.length:=by
 unfold axF at h;cases hc:(!o.aE&&(!o.comm&&decide (o.aO=0)))with
 | true=>
  simp only[bA,O8]at hc;omega
 | false=>
  rw[hc,cF]at h;simp only[bA,O8]at h;exact⟨h.2.1,h.2.2.1⟩
abbrev Mv:Od->Int->Y Bool:=λx k=>some (inN x.db.length k)
theorem zd:aj (z1q.ent Mv):=z1q.ok (G:=⟨()⟩) trivial λx k r h=>⟨1,by
 cases h;unfold z1q.aq inN;by_cases h:0<=k
 .rw[dT h];rfl
 .rw[dF h];rfl⟩
section
variable {R : Type}
end
section
variable {R : Type}
end
section
variable {R : Type} {q : So → Y (Od × Bool)}
end
abbrev nS(s:Sg):Nat:=s.ai.ak.length
abbrev kS(s:Sg):Td Int:=cz s.ai.ak.length s.ai.aA
structure IU(s:Sg)(o:Opr):Prop where
 dl:1<=o.aJ.length
 fa:(first o).ae.length<=3
 ae:∀x∈(first o).ae,0<=x/\x<nS s
 res:0<=(first o).result/\(first o).result<nS s
 u0:0<=o.aO
 u1:o.aO<=s.ops.length
 two:o.aE=true\/o.comm=true\/o.aO≠0->(first o).ae.length=2
 un:o.aO≠0->∃u,ix s.ops (o.aO-1)=some u/\(first u).ae.length=0
section
variable {s:Sg}{o:Opr}{i:Int}{t:Tm}
theorem jL(h:bD s=true)(ho:o∈s.ops):IU s o:=by
 obtain⟨h1,h2⟩:=jv h;obtain⟨v,h4⟩:=h2 o ho;obtain⟨w,d2,y,d4,d5,A⟩:=vP v;obtain⟨u0,u1⟩:=G8 h4;have two:o.aE=true\/o.comm=true\/o.aO≠0->(first o).ae.length=2:=λhc=>by
  unfold axF at h4;cases d:(!o.aE&&(!o.comm&&decide (o.aO=0)))with
  | true=>
   simp only[bA,Pj,O8]at d;obtain⟨b1,b2,b3⟩:=d;rw[b1,b2]at hc;simp[b3]at hc
  | false=>
   rw[d,cF]at h4;simp only[bA,O8]at h4;exact h4.1
 refine⟨w,y,λx B=>kG.1 (A x B),kG.1 d5,u0,u1,two,λt=> ?_⟩;unfold axF at h4;cases d:(!o.aE&&(!o.comm&&decide (o.aO=0)))with
 | true=>
  simp only[bA,O8]at d;exact absurd d.2.2 t
 | false=>
  rw[d,cF]at h4;simp only[bA,O8]at h4;have j:=h4.2.2.2.2.2;rw[dF t,cF]at j;split at j
  .grind
  .cases j
theorem Nx(s:Sg):(kS s).length=nS s:=DH _ _
theorem pi(h:bD s=true):wh s.ai=true:=by
 unfold bD at h;simp only[bA]at h;exact(wN h.1).2.2.2.2
theorem bZ{α:Type}{xs:Td α}{x:α}(h:ix xs i=some x):x∈xs/\0<=i/\i<xs.length/\xs[i.toNat]? =some x:=by
 unfold ix at h;cases d:decide (0<=i)with
 |false=>rw[d]at h;cases h
 | true=>
  rw[d]at h;have h0:0<=i:=ON d;have h:xs[i.toNat]? =some x:=h;obtain⟨j,_⟩:=gI.1 h;exact⟨mG h,h0,A0,h⟩
theorem um(h:bD s=true){u:Opr}(ho:IU s o)(j:o.aO≠0)(d:ix s.ops (o.aO-1)=some u):(first u).ae.length=0/\u.aE=false:=by
 obtain⟨v,h1,h2⟩:=ho.un j;rw[d]at h1;cases h1;refine⟨h2,?_⟩;have hk:=jL h (bZ d).1;cases t:u.aE with
 |false=>rfl
 |true=>have:=hk.two (.inl t);omega
inductive Good(s:Sg):Tm->Prop
 |var {ah:Z} {am:Int} (h1:0<=am) (h2:am<nS s) (h3:cY ah=true):Good s (Tm.mk (-1) ah am [])
 |app {op:Int} {o:Opr} {ae:List Tm} (ho:ix s.ops op=some o) (hn:if o.aE=true then 2<=ae.length else ae.length=(first o).ae.length) (ha:∀a∈ae,Good s a):Good s (Tm.mk op ByteArray.empty 0 ae)
theorem Good.ae(h:Good s t):∀a∈t.ae,Good s a:=by
 cases h with
 |var=>intro a d;simp at d
 |app _ _ d=>exact d
def Kn(s:Sg)(t:Tm):Prop:=(t.op= -1/\0<=t.am/\t.am<nS s)\/∃o,ix s.ops t.op=some o
theorem Good.kn(h:Good s t):Kn s t:=by
 cases h with
 |var h1 h2 d=>exact .inl ⟨rfl,h1,h2⟩
 |app ho _ _=>exact .inr ⟨_,ho⟩
def dG(s:Sg)(t:Tm):Int:=if t.op= -1 then dh (kS s) t.am else match ix s.ops t.op with
 |some o=>dh (kS s) (first o).result
 |none=>0
theorem sJ(h0:0<=i)(h1:i<nS s):ix (kS s) i=some (dh (kS s) i):=ig h0 (by rw[Nx];exact h1)
abbrev Mp:=Td (Z×Int)
def Alg(kd:Td Int)(nm:Td Z)(sb:Td Sb)(ops:Td Opr):Prop:=bD ⟨⟨nm,sb⟩,ops⟩=true/\kd=cz nm.length sb
noncomputable def iC:Td Int->Td Int->Td Int->Td Z->Td Sb->Td Opr->Mp->Tm->Y (Int×Mp):=λ_ _ kd nm sb ops m t=>if Alg kd nm sb ops/\Kn ⟨⟨nm,sb⟩,ops⟩ t then some (dG ⟨⟨nm,sb⟩,ops⟩ t,m)else none
theorem pS:aj (z16.ent iC):=z16.ok (G:=⟨()⟩) trivial λab be kd nm sb ops m t r h=>by
 unfold iC at h;split at h
 .rename_i hs;cases h;obtain⟨⟨h1,rfl⟩,h2⟩:=hs;refine⟨1,?_⟩;unfold z16.aq dG;rcases h2 with⟨h2,j,h4⟩|⟨o,ho⟩
  .rw[h2,mt rfl,dT A3,cT];have:=sJ (s:=⟨⟨nm,sb⟩,ops⟩) j h4;rw[this,bS]
  .obtain⟨m1,v,w,_⟩:=bZ ho;have hk:=jL h1 m1;have:=sJ (s:=⟨⟨nm,sb⟩,ops⟩) hk.res.1 hk.res.2;have d:ix ops t.op=some o:=ho;rw[O2 A0,dF A0,cF,d,bS,gf hk.dl,bS,this,bS]
 .cases h
noncomputable def gw:Sg->Tm->Y Int:=λs t=>if bD s=true/\Kn s t then some (dG s t)else none
theorem qf:aj (z48.ent gw):=z48.ok (G:=⟨kT⟩) ⟨nD,trivial⟩ λs t r h=>by
 unfold gw at h;split at h
 .rename_i hs;cases h;obtain⟨h1,h2⟩:=hs;refine⟨1,?_⟩;unfold z48.aq dG;show Option.bind (kT s.ai) _=_;unfold kT;rw[mt (pi h1),bS];rcases h2 with⟨h2,d,h4⟩|⟨o,ho⟩
  .rw[h2,mt rfl,dT rfl,cT];rw[sJ d h4,bS]
  .obtain⟨m1,j,v,_⟩:=bZ ho;have hk:=jL h1 m1;rw[O2 A0,dF A0,cF,ho,bS,gf hk.dl,bS,sJ hk.res.1 hk.res.2,bS]
 .cases h
def atI(o:Opr)(i:Int):Int:=if o.aE=true then 0 else i
def od(s:Sg)(o:Opr)(i:Int):Int:=dh (kS s) (dh (first o).ae (atI o i))
noncomputable def ng:Td Int->Td Int->Td Int->Td Z->Td Sb->Td Opr->Mp->Int->Int->Y (Int×Mp):=λ_ _ kd nm sb ops m op i=>if Alg kd nm sb ops/\∃o,ix ops op=some o/\0<=atI o i/\atI o i<(first o).ae.length then some (od ⟨⟨nm,sb⟩,ops⟩ ((ix ops op).getD ⟨ByteArray.empty,[],false,false,0⟩) i,m)else none
theorem zv(hk:IU s o)(h0:0<=i)(h1:i<(first o).ae.length):ix (first o).ae i=some (dh (first o).ae i)/\0<=dh (first o).ae i/\dh (first o).ae i<nS s:=
 ⟨ig h0 h1,hk.ae _ (Ff h0 h1)⟩
theorem tF:aj (z0x.ent ng):=z0x.ok (G:=⟨()⟩) trivial λab be kd nm sb ops m op i r h=>by
 unfold ng at h;split at h
 .rename_i hs;obtain⟨⟨h1,rfl⟩,o,ho,h2,t⟩:=hs;rw[ho]at h;cases h;have hk:=jL h1 (bZ ho).1;obtain⟨d,v,a3⟩:=zv hk h2 t;have a4:=sJ (s:=⟨⟨nm,sb⟩,ops⟩) v a3;refine⟨1,?_⟩;unfold z0x.aq od;rw[ho,bS,PN];unfold atI at d a4 ⊢;cases j:o.aE with
  | true=>
   rw[j,mt rfl]at d a4;rw[cT,mt rfl];unfold z0x.c4;rw[gf hk.dl,bS,d,bS,a4,bS]
  | false=>
   rw[j,O2 A3]at d a4;rw[cF,O2 A3];unfold z0x.c4;rw[gf hk.dl,bS,d,bS,a4,bS]
 .cases h
def kR(o:Opr)(t:Tm):Bool:= !decide (o.aO=0)&&decide (t.op=o.aO-1)
def unT(o:Opr):Tm:=Tm.mk (o.aO-1) ByteArray.empty 0 []
noncomputable def tU:Td Int->Td Int->Td Int->Td Z->Td Sb->Td Opr->Mp->Int->Tm->Y (Bool×Mp):=λ_ _ kd nm sb ops m op t=>if Alg kd nm sb ops then (ix ops op).map (λo=>(kR o t,m))else none
theorem u9:aj (z14.ent tU):=z14.ok (G:=⟨()⟩) trivial λab be kd nm sb ops m op t r h=>by
 unfold tU at h;split at h
 .rename_i hs;obtain⟨o,ho,rfl⟩:=Option.map_eq_some_iff.1 h;have hk:=jL hs.1 (bZ ho).1;have d:=hk.u1;have j:ops.length<=14:=(jv hs.1).1;refine⟨1,?_⟩;unfold z14.aq kR;rw[ho,bS];by_cases v:o.aO=0
  .grind
  .have:o.aO<=(ops.length:Int):=d;rw[dF v,OS,cT,bS,O7,aX (x:=o.aO-1) (by have:=hk.u0;omega)]
 .cases h
noncomputable def At:Td Int->Td Int->Td Int->Td Z->Td Sb->Td Opr->Mp->Int->Y (Tm×Mp):=λ_ _ kd nm sb ops m op=>if Alg kd nm sb ops then (ix ops op).map (λo=>(unT o,m))else none
noncomputable def ub:Sg->Int->Y (Tm×Bool):=λs op=>if bD s=true then (ix s.ops op).map (λo=>if o.aO=0 then (Tm.mk 0 ByteArray.empty 0 [],false)else (unT o,true))else none
theorem uA:aj (z4g.ent ub):=z4g.ok (G:=⟨()⟩) trivial λs op r h=>by
 unfold ub at h;split at h
 .rename_i hs;obtain⟨o,ho,rfl⟩:=Option.map_eq_some_iff.1 h;have hk:=jL hs (bZ ho).1;have j:=hk.u1;have t:s.ops.length<=14:=(jv hs).1;refine⟨1,?_⟩;unfold z4g.aq;rw[ho,bS];by_cases d:o.aO=0
  .grind
  .rw[dF d,cF,bS,O2 d,aX (x:=o.aO-1) (by have:=hk.u0;omega)];rfl
 .cases h
noncomputable def vW:Td Int->Td Int->Td Int->Td Z->Td Sb->Td Opr->Mp->Tm->Y (Bool×Mp):=λab _ _ _ _ _ m t=>if t.op= -1 then some (cY t.ah&&(inN ab.length t.am&&decide (t.ae.length=0)),m)else none
theorem mZ:aj (z15.ent vW):=z15.ok (G:=⟨uw,Mv⟩) ⟨z0i,zd,trivial⟩ λab be kd nm sb ops m t r h=>by
 unfold vW at h;split at h
 .rename_i hs;cases h;refine⟨1,?_⟩;unfold z15.aq;rw[dT hs,cT];show Option.bind (uw t.ah) _=_;rw[bS];cases d:cY t.ah with
  |false=>rfl
  | true=>
   rw[cT];show Option.bind (Mv ⟨ab,be,kd⟩ t.am) _=_;rw[bS];cases hi:inN ab.length t.am with
   |false=>rfl
   | true=>
    rw[cT,show decide ((t.ae.length:Int)=0)=decide (t.ae.length=0)from decide_eq_decide.2 A0];rfl
 .cases h
abbrev Zt:Tm:=Tm.mk 0 ByteArray.empty 0 []
def uOf(o:Opr):Tm:=if o.aO=0 then Zt else unT o
theorem Cd(h:bD s=true){op:Int}(ho:ix s.ops op=some o)(t:o.aO≠0){x:Tm}(w:Good s x):(bR x (unT o)=0↔x.op=o.aO-1)/\(x.op=o.aO-1->¬(o.aE=true/\x.op=op)):=by
 have hk:=jL h (bZ ho).1;obtain⟨u,u1,u2⟩:=hk.un t;obtain⟨u3,u4⟩:=um h hk t u1;refine⟨⟨λhc=> ?_,λhc=> ?_⟩,λhc ⟨h1,h2⟩=> ?_⟩
 .rw[iQ]at hc;unfold mK at hc;by_cases h1:bg x.op (unT o).op=0
  .exact gU h1
  .omega
 .have:x=unT o:=by
   cases w with
   | var h1 h2 y=>
    have hc:(-1:Int)=o.aO-1:=hc;have:=hk.u0;omega
   | @app j o' ae d v A=>
    have hc:j=o.aO-1:=hc;subst hc;rw[u1]at d;cases d;rw[u4,O2 A3,u3]at v;rw[nZ v];rfl
  rw[this];exact pW _ _ (OX _)
 .grind
end
end
open Classical in
theorem Or{l:Td Int}(hl:l.length=3)(h:([(1,0),(2,0),(2,1)]:Td (Int×Int)).all (λp=> !(Gw (dh l p.1) p.2&&Gw (dh l p.2) p.1))=true):CD l=true:=by
 unfold CD;refine dT (p:=¬_) ?_;rintro⟨i,k,h0,h1,h2,j,h4⟩;rw[hl]at h2;simp only[Pe,List.all_nil,Qt,bA]at h;obtain⟨a,b,c⟩:=h;have d:(i=1/\k=0)\/(i=2/\k=0)\/(i=2/\k=1):=A0
 rcases d with⟨rfl,rfl⟩|⟨rfl,rfl⟩|⟨rfl,rfl⟩
 .grind
 .grind
 .grind
theorem Dt(b:Bool):jR ⟨nmD,sbD b⟩=true:=by
 have h:∀b,CD (upI 3 (sbD b))=true:=λb=>Or (by cases b<;>decide+kernel) (by cases b<;>decide+kernel);have a:(decide (1<=nmD.length)&&(decide (nmD.length<=8)&&(decide ((sbD b).length<=16)&&(nA [] nmD&&(sbD b).all (Kc 3)))))=true:=by cases b<;>decide+kernel
 simp only[bA]at a;unfold jR;simp only[bA];exact⟨a.1,a.2.1,a.2.2.1,a.2.2.2.1,a.2.2.2.2,h b⟩
theorem F9:∀b d hc fa h j m t,(decide ((iB b d hc fa h j m t).ops.length<=14)&&(zt 3 (cz 3 (sbD b)) [] (iB b d hc fa h j m t).ops&&(iB b d hc fa h j m t).ops.all (axF (cz 3 (sbD b)) (iB b d hc fa h j m t).ops)))=true:=by decide+kernel
theorem KE(b d hc fa h j m t:Bool):bD (iB b d hc fa h j m t)=true:=by
 exact Bool.and_eq_true_iff.2 ⟨Dt b,F9 b d hc fa h j m t⟩
theorem SgD.ok{s:Sg}(h:SgD s):bD s=true:=by
 obtain⟨b,d,hc,fa,j,t,m,v,rfl⟩:=h;exact KE _ _ _ _ _ _ _ _
abbrev W2:=AT×Td Ob
def kBo(r:Bool):Y W2:=some (.one (.b r),[])
def kIn(r:Int):Y W2:=some (.one (.i r),[])
def kLI(r:Td Int):Y W2:=some (.one (.l .i r),[])
def kOd(r:Od)(b:Bool):Y W2:=some (.tup [.agg [.l .i r.db,.l .i r.below,.l .i r.kind],.one (.b b)],[])
def dBo:Y W2->Y Bool
 |some (.one (.b r),[])=>some r
 |_=>none
def dIn:Y W2->Y Int
 |some (.one (.i r),[])=>some r
 |_=>none
def dLI:Y W2->Y (Td Int)
 |some (.one (.l .i r),[])=>some r
 |_=>none
def dOd:Y W2->Y (Od×Bool)
 |some (.tup [.agg [.l .i a,.l .i b,.l .i c],.one (.b r)],[])=>some (⟨a,b,c⟩,r)
 |_=>none
theorem jo{x:Y W2}{r:Bool}(h:dBo x=some r):x=kBo r:=by
 unfold dBo at h;split at h
 .exact Tc
 .cases h
theorem Bf{x:Y W2}{r:Int}(h:dIn x=some r):x=kIn r:=by
 unfold dIn at h;split at h
 .exact Tc
 .cases h
theorem vt{x:Y W2}{r:Td Int}(h:dLI x=some r):x=kLI r:=by
 unfold dLI at h;split at h
 .exact Tc
 .cases h
theorem M5{x:Y W2}{r:Od×Bool}(h:dOd x=some r):x=kOd r.1 r.2:=by
 unfold dOd at h;split at h
 .exact Tc
 .cases h
noncomputable def NH:z1l.Q:=λx=>dBo (z1l.aq ⟨()⟩ 40 x kBo)
noncomputable def G5:z0n.Q:=λx=>dLI (z0n.aq ⟨NH⟩ 40 x kLI)
noncomputable def Bi:z1v.Q:=λx=>dLI (z1v.aq ⟨()⟩ 40 x kLI)
noncomputable def Fo:z0l.Q:=λx=>dBo (z0l.aq ⟨λs=>some (cY s),Bi⟩ 40 x kBo)
noncomputable def rOrd:z1p.Q:=λx=>dOd (z1p.aq ⟨Fo,Bi,G5⟩ 40 x kOd)
noncomputable def Nz:z1q.Q:=λx k=>dBo (z1q.aq ⟨()⟩ 40 x k kBo)
noncomputable def rDcl:z1h.Q:=λx o=>dBo (z1h.aq ⟨Nz⟩ 40 x o kBo)
noncomputable def rAxm:z1c.Q:=λx s o=>dBo (z1c.aq ⟨()⟩ 40 x s o kBo)
noncomputable abbrev GSI:z0j.Gs:=⟨rOrd,λs=>some (cY s),rDcl,rAxm⟩
theorem JS:aj (z1l.ent NH):=z1l.ok (G:=⟨()⟩) trivial λ_ _ h=>⟨40,jo h⟩
theorem BA:aj (z0n.ent G5):=z0n.ok (G:=⟨NH⟩) ⟨JS,trivial⟩ λ_ _ h=>⟨40,vt h⟩
theorem wU:aj (z1v.ent Bi):=z1v.ok (G:=⟨()⟩) trivial λ_ _ h=>⟨40,vt h⟩
theorem CS:aj (z0l.ent Fo):=z0l.ok (G:=⟨_,Bi⟩) ⟨z0i,wU,trivial⟩ λ_ _ h=>⟨40,jo h⟩
theorem IP:aj (z1p.ent rOrd):=z1p.ok (G:=⟨Fo,Bi,G5⟩) ⟨CS,wU,BA,trivial⟩ λ_ _ h=>⟨40,M5 h⟩
theorem Ka:aj (z1q.ent Nz):=z1q.ok (G:=⟨()⟩) trivial λ_ _ _ h=>⟨40,jo h⟩
theorem JR:aj (z1h.ent rDcl):=z1h.ok (G:=⟨Nz⟩) ⟨Ka,trivial⟩ λ_ _ _ h=>⟨40,jo h⟩
theorem JW:aj (z1c.ent rAxm):=z1c.ok (G:=⟨()⟩) trivial λ_ _ _ _ h=>⟨40,jo h⟩
noncomputable def rIn:z3a.Q:=λx y z=>dBo (z3a.aq ⟨()⟩ 40 x y z kBo)
noncomputable def NV:z38.Q:=λx y=>dBo (z38.aq ⟨()⟩ 40 x y kBo)
noncomputable def NO:z3c.Q:=λx y=>dIn (z3c.aq ⟨()⟩ 40 x y kIn)
noncomputable def NL:z3g.Q:=λx=>dIn (z3g.aq ⟨()⟩ 40 x kIn)
noncomputable def rH2:z3h.Q:=λx y=>dBo (z3h.aq ⟨()⟩ 40 x y kBo)
noncomputable def rUp:z3j.Q:=λx=>dLI (z3j.aq ⟨NL⟩ 40 x kLI)
noncomputable def IJ:z3i.Q:=λx=>dLI (z3i.aq ⟨NO⟩ 40 x kLI)
noncomputable def rSrS:z2r.Q:=λx=>dBo (z2r.aq ⟨λs=>some (cY s),NV,rIn,rUp,rH2⟩ 40 x kBo)
noncomputable def rAr:z3k.Q:=λx=>dIn (z3k.aq ⟨()⟩ 40 x kIn)
noncomputable def rDcS:z3m.Q:=λx y=>dBo (z3m.aq ⟨IJ,rIn⟩ 40 x y kBo)
noncomputable def rAxS:z3l.Q:=λx y=>dBo (z3l.aq ⟨rAr,rIn,IJ⟩ 40 x y kBo)
noncomputable abbrev GSS:z2p.Gs:=⟨rSrS,λs=>some (cY s),rDcS,rAxS⟩
theorem A5:aj (z3a.ent rIn):=z3a.ok (G:=⟨()⟩) trivial λ_ _ _ _ h=>⟨40,jo h⟩
theorem J1:aj (z38.ent NV):=z38.ok (G:=⟨()⟩) trivial λ_ _ _ h=>⟨40,jo h⟩
theorem Jt:aj (z3c.ent NO):=z3c.ok (G:=⟨()⟩) trivial λ_ _ _ h=>⟨40,Bf h⟩
theorem Jq:aj (z3g.ent NL):=z3g.ok (G:=⟨()⟩) trivial λ_ _ h=>⟨40,Bf h⟩
theorem M7:aj (z3h.ent rH2):=z3h.ok (G:=⟨()⟩) trivial λ_ _ _ h=>⟨40,jo h⟩
theorem ND:aj (z3j.ent rUp):=z3j.ok (G:=⟨NL⟩) ⟨Jq,trivial⟩ λ_ _ h=>⟨40,vt h⟩
theorem BH:aj (z3i.ent IJ):=z3i.ok (G:=⟨NO⟩) ⟨Jt,trivial⟩ λ_ _ h=>⟨40,vt h⟩
theorem KX:aj (z2r.ent rSrS):=z2r.ok (G:=⟨_,NV,rIn,rUp,rH2⟩) ⟨z2o,J1,A5,ND,M7,trivial⟩ λ_ _ h=>⟨40,jo h⟩
theorem MM:aj (z3k.ent rAr):=z3k.ok (G:=⟨()⟩) trivial λ_ _ h=>⟨40,Bf h⟩
theorem I4:aj (z3m.ent rDcS):=z3m.ok (G:=⟨IJ,rIn⟩) ⟨BH,A5,trivial⟩ λ_ _ _ h=>⟨40,jo h⟩
theorem KA:aj (z3l.ent rAxS):=z3l.ok (G:=⟨rAr,rIn,IJ⟩) ⟨MM,A5,BH,trivial⟩ λ_ _ _ h=>⟨40,jo h⟩
def SgE(s:Sg):Prop:=∃b d hc fa h j m t,s=⟨⟨nmD++[⟨#[]⟩],sbD b⟩,(iB b d hc fa h j m t).ops⟩
theorem runI:∀b d hc fa h j m t:Bool,z0j.aq GSI 40 (iB b d hc fa h j m t) kBo=kBo true:=by
 intro b d hc fa h j m t;cases b<;>cases d<;>cases hc<;>cases fa<;>cases h<;>cases j<;>cases m<;>cases t<;>kernel_rfl
theorem runE:∀b d hc fa h j m t:Bool,z0j.aq GSI 40 ⟨⟨nmD++[⟨#[]⟩],sbD b⟩,(iB b d hc fa h j m t).ops⟩ kBo=kBo false:=by
 intro b d hc fa h j m t;cases b<;>kernel_rfl
theorem runS:∀b d hc fa h j m t:Bool,z2p.aq GSS 40 (iB b d hc fa h j m t) kBo=kBo true:=by
 intro b d hc fa h j m t;cases b<;>cases d<;>cases hc<;>cases fa<;>cases h<;>cases j<;>cases m<;>cases t<;>kernel_rfl
theorem runO:∀b:Bool,z1p.aq ⟨Fo,Bi,G5⟩ 40 ⟨nmD,sbD b⟩ kOd=kOd ⟨upI 3 (sbD b),gX (upI 3 (sbD b)),cz 3 (sbD b)⟩ true:=by
 intro b;cases b<;>kernel_rfl
section
open Classical
abbrev Al:=Td Int×Td Int×Td Int×Td Z×Td Sb×Td Opr×Td (Z×Int)
noncomputable def cM(s:Sg):Al:=(upI s.ai.ak.length s.ai.aA,gX (upI s.ai.ak.length s.ai.aA),cz s.ai.ak.length s.ai.aA,s.ai.ak,s.ai.aA,s.ops,[])
theorem z8{s:Sg}(h:bD s=true):jR s.ai=true:=by
 unfold bD at h;rw[bA]at h;exact h.1
theorem SgE.no{s:Sg}(h:SgE s):¬bD s=true:=λq=>by
 obtain⟨b,d,hc,fa,j,t,m,v,rfl⟩:=h;have q:=z8 q;unfold jR at q;simp only[bA]at q;exact absurd q.2.2.2.1 A3
noncomputable def yJ:Sg->Y Bool:=λs=>if SgD s\/SgE s then some (bD s)else none
noncomputable def qj:Sg->Y Bool:=λs=>if SgD s then some (bD s)else none
noncomputable def Cy:So->Y (Od×Bool):=λd=>if ∃b,d=⟨nmD,sbD b⟩then some (⟨upI d.ak.length d.aA,gX (upI d.ak.length d.aA),cz d.ak.length d.aA⟩,true)else none
theorem z1u:aj (z0j.ent yJ):=z0j.ok (G:=GSI) ⟨IP,z0i,JR,JW,trivial⟩ λs r h=>⟨40,by
 unfold yJ at h;split at h
 .rename_i hs;cases h;rcases hs with hs|hs
  .rw[hs.ok];obtain⟨b,d,hc,fa,j,t,m,v,rfl⟩:=hs;exact runI _ _ _ _ _ _ _ _
  .rw[Bool.eq_false_iff.2 hs.no];obtain⟨b,d,hc,fa,j,t,m,v,rfl⟩:=hs;exact runE _ _ _ _ _ _ _ _
 .cases h⟩
theorem z4k:aj (z2p.ent qj):=z2p.ok (G:=GSS) ⟨KX,z2o,I4,KA,trivial⟩ λs r h=>⟨40,by
 unfold qj at h;split at h
 .rename_i hs;cases h;rw[hs.ok];obtain⟨b,d,hc,fa,j,t,m,v,rfl⟩:=hs;exact runS _ _ _ _ _ _ _ _
 .cases h⟩
theorem DU:aj (z1p.ent Cy):=z1p.ok (G:=⟨Fo,Bi,G5⟩) ⟨CS,wU,BA,trivial⟩ λs r h=>⟨40,by
 unfold Cy at h;split at h
 .rename_i hs;obtain⟨b,rfl⟩:=hs;cases h;exact runO b
 .cases h⟩
noncomputable def fV:Sg->Y (Y Al):=λs=>if SgD s then some (some (cM s))else if SgE s then some none else none
theorem wv{s:Sg}(h:SgD s):fV s=some (some (cM s)):=mt h
theorem OE{s:Sg}(h:SgE s):fV s=some none:=by
 unfold fV;rw[O2 λq=>h.no q.ok,mt h]
theorem ib:aj (z1o.ent fV):=z1o.ok (G:=⟨yJ,Cy⟩) ⟨z1u,DU,trivial⟩ λs r h=>⟨1,by
 unfold fV at h;unfold z1o.aq;dsimp only;split at h
 .rename_i hs;cases h;rw[show yJ s=some true from (mt (.inl hs)).trans (congrArg some hs.ok),bS,O4,cF];obtain⟨b,d,hc,fa,j,t,m,v,rfl⟩:=hs;rw[show Cy (iB b d hc fa j t m v).ai=some (⟨upI 3 (sbD b),gX (upI 3 (sbD b)),cz 3 (sbD b)⟩,true)from mt ⟨b,rfl⟩];rfl
 .split at h
  .rename_i hs;cases h;rw[show yJ s=some false from (mt (.inr hs)).trans (congrArg some (Bool.eq_false_iff.2 hs.no))];rfl
  .cases h⟩
end
end Go.Proofs.YtkegnipofloejaaGreatDoor.Den

import Derived.Test.YtkegnipofloejaaGreatDoorZRowMT8
namespace Go.Proofs.YtkegnipofloejaaGreatDoor.Den
open Go.RowKit
set_option maxRecDepth 100000
set_option linter.unusedVariables false
noncomputable section
namespace z3a
structure Gs where
 none_:Unit
def aq{R:Type}(G:Gs)(n:Nat)(x lo hi:Int)(K:Bool->Y R):Y R:=bif decide (lo<=x)then(K (decide (x<=hi)))else K false
theorem ok{G:Gs}(d:ap []){g:Q}(h:∀x lo hi r,g x lo hi=some r->∃n,aq G n x lo hi Vn=Vn r):aj (ent g):=okQ λ_ _ _ _ _ _ hc=>Tk hc (h _ _ _) λ_ _ j=>fF d ⟨15,0,[],[],[6],[],[]⟩ nP Tryz.func65 j
end z3a
namespace z38
structure Gs where
 none_:Unit
def ents(_:Gs):Td Ent:=[]
def b2{R:Type}(G:Gs)(n:Nat)(list:LB)(s:Z)(i:Int)(d:LB->Z->Int->Y R)(h:Bool->Y R)(k1:Y R):Y R:=bif decide (i<(List.length list:Int))then((ix list i).bind λe=>bif sEq e s then(h true)else d list s (wr (i+1)))else k1
variable{R:Type}(G:Gs)(n:Nat)
def l2(m:Nat)(list:LB)(s:Z)(i:Int)(d:Bool->Y R)(k1:Y R):Y R:=aY (λ(v:LB×Z×Int) h=>b2 G n v.1 v.2.1 v.2.2 (λj t w=>h (j,t,w)) d k1) m (list,s,i)
def aq(list:LB)(s:Z)(K:Bool->Y R):Y R:=l2 G n n list s 0 (λt4=>K t4) (K false)
def dl2(m:Nat):=rS [0,1,5] [U4,Uv,Tx] [] λR K list s i=>l2 G n m list s i (λt4=>K .ret ⟨Uj t4,[]⟩) (K (.exit 0) ⟨[],[]⟩)
def pc:Pcs:=⟨Tl 2 (dl2 G n n) nK,nK,nK⟩
def an:Ann:=⟨18,0,[(2,[0,1,5])],[],[4],[],[]⟩
abbrev bd:=aK Tryz.f64
theorem ok{G:Gs}(d:ap (ents G)){g:Q}(h:∀list s r,g list s=some r->∃n,aq G n list s Vn=Vn r):aj (ent g):=okQ λ_ _ _ _ _ hc=>Tk hc (h _ _) λn _ j=>fF d an (pc G n) Tryz.func64 j (apl [(1,2,.loop (Tj 52 bd))] ⟨Tf d n (dl2 G n) rfl (pc G n) ⟨[],[4],[(0,[])]⟩,Th⟩)
end z38
namespace z3c
structure Gs where
 none_:Unit
def aq{R:Type}(G:Gs)(n:Nat)(a b:Int)(K:Int->Y R):Y R:=bif decide (a<b)then(K a)else K b
theorem ok{G:Gs}(d:ap []){g:Q}(h:∀a b r,g a b=some r->∃n,aq G n a b Vo=Vo r):aj (ent g):=okQ λ_ _ _ _ _ hc=>Tk hc (h _ _) λ_ _ j=>fF d ⟨10,0,[],[],[4],[],[]⟩ nP Tryz.func98 j
end z3c
namespace z3g
structure Gs where
 none_:Unit
def aq{R:Type}(G:Gs)(n:Nat)(k:Int)(K:Int->Y R):Y R:=(bif decide (0<=(IntKind.wrap .u64 k))then some (Abs.bz .shl .i64 1 (IntKind.wrap .u64 k))else none).bind λq=>K q
theorem ok{G:Gs}(d:ap []){g:Q}(h:∀k r,g k=some r->∃n,aq G n k Vo=Vo r):aj (ent g):=okQ λ_ _ _ _ hc=>Tk hc (h _) λ_ _ j=>fF d ⟨6,0,[],[],[2],[],[]⟩ nP Tryz.func97 j
end z3g
namespace z3h
structure Gs where
 none_:Unit
def aq{R:Type}(G:Gs)(n:Nat)(d k:Int)(K:Bool->Y R):Y R:=bif decide (0<=k)then(bif decide (k<16)then((bif decide (0<=(IntKind.wrap .u64 k))then some (Abs.bz .shr .i64 d (IntKind.wrap .u64 k))else none).bind λq=>K (decide ((Abs.bz .and .i64 q 1)=1)))else K false)else K false
theorem ok{G:Gs}(h:ap []){g:Q}(t:∀d k r,g d k=some r->∃n,aq G n d k Vn=Vn r):aj (ent g):=okQ λ_ _ _ _ _ hc=>Tk hc (t _ _) λ_ _ j=>fF h ⟨19,0,[],[],[4],[],[]⟩ nP Tryz.func67 j
end z3h
namespace z2n
structure Gs where
 none_:Unit
def ents(_:Gs):Td Ent:=[]
def b4{R:Type}(G:Gs)(n:Nat)(s:Z)(i:Int)(h:Z->Int->Y R)(d:Bool->Y R)(k1:Y R):Y R:=bif decide (i<(ByteArray.size s:Int))then((sIx s i).bind λb=>bif decide (97<=b)then((sIx s i).bind λb2=>bif decide (b2<=122)then(h s (wr (i+1)))else(sIx s i).bind λb3=>bif decide (65<=b3)then((sIx s i).bind λb4=>bif decide (b4<=90)then(h s (wr (i+1)))else(sIx s i).bind λb5=>bif decide (48<=b5)then((sIx s i).bind λb6=>bif !(decide (b6<=57))then(d false)else h s (wr (i+1)))else d false)else(sIx s i).bind λb7=>bif decide (48<=b7)then((sIx s i).bind λb8=>bif !(decide (b8<=57))then(d false)else h s (wr (i+1)))else d false)else(sIx s i).bind λb9=>bif decide (65<=b9)then((sIx s i).bind λb10=>bif decide (b10<=90)then(h s (wr (i+1)))else(sIx s i).bind λb11=>bif decide (48<=b11)then((sIx s i).bind λb12=>bif !(decide (b12<=57))then(d false)else h s (wr (i+1)))else d false)else(sIx s i).bind λb13=>bif decide (48<=b13)then((sIx s i).bind λb14=>bif !(decide (b14<=57))then(d false)else h s (wr (i+1)))else d false)else k1
variable{R:Type}(G:Gs)(n:Nat)
def l4(m:Nat)(s:Z)(i:Int)(d:Bool->Y R)(k1:Y R):Y R:=aY (λ(v:Z×Int) h=>b4 G n v.1 v.2 (λj t=>h (j,t)) d k1) m (s,i)
def c3(s:Z)(d:Bool->Y R):Y R:=l4 G n n s 0 (λh=>d h) (d true)
def aq(s:Z)(K:Bool->Y R):Y R:=bif sEq s (ByteArray.mk #[105,102])then(K false)else bif sEq s (ByteArray.mk #[97,110,100])then(K false)else bif decide ((ByteArray.size s:Int)<1)then(K false)else bif decide (12<(ByteArray.size s:Int))then(K false)else(sIx s 0).bind λb=>bif decide (97<=b)then((sIx s 0).bind λb2=>bif decide (b2<=122)then(c3 G n s (λh=>K h))else(sIx s 0).bind λb3=>bif decide (65<=b3)then((sIx s 0).bind λb4=>bif !(decide (b4<=90))then(K false)else c3 G n s (λt22=>K t22))else K false)else(sIx s 0).bind λb5=>bif decide (65<=b5)then((sIx s 0).bind λb6=>bif !(decide (b6<=90))then(K false)else c3 G n s (λd=>K d))else K false
def dl4(m:Nat):=rS [0,3] [Uv,Tx] [] λR K s i=>l4 G n m s i (λd=>K .ret ⟨UG d,[]⟩) (K (.exit 0) ⟨[],[]⟩)
def dc3:=rS [0] [Uv] [] λR K s=>c3 G n s (λd=>K .ret ⟨UG d,[]⟩)
def pc:Pcs:=⟨Tl 4 (dl4 G n n) nK,Tl 3 (dc3 G n) nK,nK⟩
def an:Ann:=⟨82,0,[(4,[0,3])],[(3,[0])],[2],[],[]⟩
abbrev bd:=aK Tryz.f36
theorem ok{G:Gs}(d:ap (ents G)){g:Q}(h:∀s r,g s=some r->∃n,aq G n s Vn=Vn r):aj (ent g):=okQ λ_ _ _ _ hc=>Tk hc (h _) λn _ j=>fF d an (pc G n) Tryz.func36 j (apl [(0,3,Tj 7 bd)] ⟨Tg d (dc3 G n) rfl (pc G n) ⟨[],[2],[]⟩ (apl [(1,4,.loop (Tj 116 bd))] ⟨Tf d n (dl4 G n) rfl (pc G n) ⟨[],[2],[(0,[])]⟩,Th⟩),Th⟩)
end z2n
namespace z3j
structure Gs where
 z3g:z3g.Q
def ents(G:Gs):Td Ent:=[z3g.ent G.z3g]
def b3{R:Type}(G:Gs)(n:Nat)(i:Int)(h0:LB)(d:LS)(h1:LI)(h:Int->LB->LS->LI->Y R)(j:LB->LS->LI->Y R):Y R:=bif decide (i<(List.length h0:Int))then((G.z3g i).bind λr=>(lim (h1++[r])).bind λzs=>h (wr (i+1)) h0 d zs)else j h0 d h1
variable{R:Type}(G:Gs)(n:Nat)
def l3(m:Nat)(i:Int)(h0:LB)(d:LS)(h1:LI)(h:LB->LS->LI->Y R):Y R:=aY (λ(v:Int×LB×LS×LI) j=>b3 G n v.1 v.2.1 v.2.2.1 v.2.2.2 (λt w y A=>j (t,w,y,A)) h) m (i,h0,d,h1)
def b10{R:Type}(G:Gs)(n:Nat)(y k:Int)(h0:LB)(d:LS)(h1:LI)(A:Int->Int->LB->LS->LI->Y R)(B:Int->LB->LS->LI->Y R):Y R:=bif decide (k<(List.length d:Int))then((ix d k).bind λh=>(ix d k).bind λj=>(ix h1 j.low).bind λt=>(ix d k).bind λv=>(ix h1 v.cK).bind λw=>(ix h1 h.low).bind λC=>A y (wr (k+1)) h0 d (List.set h1 (Int.toNat h.low) (Abs.bz .or .i64 t w)))else B y h0 d h1
def l10(m:Nat)(h k:Int)(h0:LB)(d:LS)(h1:LI)(j:Int->LB->LS->LI->Y R):Y R:=aY (λ(v:Int×Int×LB×LS×LI) t=>b10 G n v.1 v.2.1 v.2.2.1 v.2.2.2.1 v.2.2.2.2 (λw y A B C=>t (w,y,A,B,C)) j) m (h,k,h0,d,h1)
def b7(w:Int)(h0:LB)(h:LS)(h1:LI)(y:Int->LB->LS->LI->Y R)(A:LI->Y R):Y R:=bif decide (w<(List.length h0:Int))then(l10 G n n w 0 h0 h h1 (λj t d v=>y (wr (j+1)) t d v))else A h1
def l7(m:Nat)(h:Int)(h0:LB)(d:LS)(h1:LI)(j:LI->Y R):Y R:=aY (λ(v:Int×LB×LS×LI) t=>b7 G n v.1 v.2.1 v.2.2.1 v.2.2.2 (λw y A B=>t (w,y,A,B)) j) m (h,h0,d,h1)
def aq(s:So)(K:LI->Y R):Y R:=l3 G n n 0 s.ak s.aA [] (λh0 d h1=>l7 G n n 0 h0 d h1 (λh=>K h))
def dl3(m:Nat):=rS [1,3,4] [Tw,UZ,Tx] U3 λR K i h0 d h1=>l3 G n m i h0 d h1 (λh0 d h1=>K (.exit 0) ⟨[(1,TF),(3,UY)],[Uc h0 d,UE h1]⟩)
def tJ(m:Nat):=rS [1,3,5,6] [Tw,UZ,Tx,Tx] U3 λR K h k h0 d h1=>l10 G n m h k h0 d h1 (λh h0 d h1=>K (.exit 4) ⟨[(1,TF),(3,UY),(5,Tv h)],[Uc h0 d,UE h1]⟩)
def dl7(m:Nat):=rS [1,3,5] [Tw,UZ,Tx] U3 λR K h h0 d h1=>l7 G n m h h0 d h1 (λh0=>K (.exit 2) ⟨[(3,Ug)],[UE h0]⟩)
def pc:Pcs:=⟨Tl 3 (dl3 G n n) (Tl 10 (tJ G n n) (Tl 7 (dl7 G n n) nK)),nK,nK⟩
def an:Ann:=⟨62,0,[(3,[1,3,4]),(10,[1,3,5,6]),(7,[1,3,5])],[],[2],[(12,⟨[(Te 28,[27],[14,15,23,24,26])],[27],[],[0],[]⟩)],[]⟩
abbrev bd:=aK Tryz.f66
theorem ok{G:Gs}(d:ap (ents G)){g:Q}(h:∀s r,g s=some r->∃n,aq G n s Vs=Vs r):aj (ent g):=okQ λ_ _ _ _ _ hc=>Tk hc (h _) λn _ j=>fF d an (pc G n) Tryz.func66 j (apl [(1,3,.loop (Tj 116 bd)),(1,7,.loop (Tj 244 bd))] ⟨Tf d n (dl3 G n) rfl (pc G n) ⟨[1,3],[2],[(0,[1,3])]⟩,⟨Tf d n (dl7 G n) rfl (pc G n) ⟨[3],[2],[(2,[3])]⟩ (apl [(1,10,.loop (Tj 15652 bd))] ⟨Tf d n (tJ G n) rfl (pc G n) ⟨[1,3,5],[2],[(2,[3]),(3,[1,3,5]),(4,[1,3,5])]⟩,Th⟩),Th⟩⟩)
end z3j
namespace z3i
structure Gs where
 z3c:z3c.Q
def ents(G:Gs):Td Ent:=[z3c.ent G.z3c]
def b3{R:Type}(G:Gs)(n:Nat)(i:Int)(h0:LB)(d:LS)(h1:LI)(h:Int->LB->LS->LI->Y R)(j:LB->LS->LI->Y R):Y R:=bif decide (i<(List.length h0:Int))then((lim (h1++[i])).bind λzs=>h (wr (i+1)) h0 d zs)else j h0 d h1
variable{R:Type}(G:Gs)(n:Nat)
def l3(m:Nat)(i:Int)(h0:LB)(d:LS)(h1:LI)(h:LB->LS->LI->Y R):Y R:=aY (λ(v:Int×LB×LS×LI) j=>b3 G n v.1 v.2.1 v.2.2.1 v.2.2.2 (λt w y A=>j (t,w,y,A)) h) m (i,h0,d,h1)
def b10{R:Type}(G:Gs)(n:Nat)(t k:Int)(h0:LB)(d:LS)(h1:LI)(v:Int->Int->LB->LS->LI->Y R)(w:Int->LB->LS->LI->Y R):Y R:=bif decide (k<(List.length d:Int))then((ix d k).bind λe2=>(ix d k).bind λh=>(ix h1 e2.low).bind λy=>(ix h1 h.cK).bind λA=>(G.z3c y A).bind λj=>(ix h1 e2.low).bind λC=>(ix (List.set h1 (Int.toNat e2.low) j) h.cK).bind λB=>v t (wr (k+1)) h0 d (List.set (List.set h1 (Int.toNat e2.low) j) (Int.toNat h.cK) j))else w t h0 d h1
def l10(m:Nat)(h k:Int)(h0:LB)(d:LS)(h1:LI)(j:Int->LB->LS->LI->Y R):Y R:=aY (λ(v:Int×Int×LB×LS×LI) t=>b10 G n v.1 v.2.1 v.2.2.1 v.2.2.2.1 v.2.2.2.2 (λw y A B C=>t (w,y,A,B,C)) j) m (h,k,h0,d,h1)
def b7(w:Int)(h0:LB)(h:LS)(h1:LI)(y:Int->LB->LS->LI->Y R)(A:LI->Y R):Y R:=bif decide (w<(List.length h1:Int))then(l10 G n n w 0 h0 h h1 (λj t d v=>y (wr (j+1)) t d v))else A h1
def l7(m:Nat)(h:Int)(h0:LB)(d:LS)(h1:LI)(j:LI->Y R):Y R:=aY (λ(v:Int×LB×LS×LI) t=>b7 G n v.1 v.2.1 v.2.2.1 v.2.2.2 (λw y A B=>t (w,y,A,B)) j) m (h,h0,d,h1)
def aq(s:So)(K:LI->Y R):Y R:=l3 G n n 0 s.ak s.aA [] (λh0 d h1=>l7 G n n 0 h0 d h1 (λh=>K h))
def dl3(m:Nat):=rS [1,3,4] [Tw,UZ,Tx] U3 λR K i h0 d h1=>l3 G n m i h0 d h1 (λh0 d h1=>K (.exit 0) ⟨[(1,TF),(3,UY)],[Uc h0 d,UE h1]⟩)
def tJ(m:Nat):=rS [1,3,5,6] [Tw,UZ,Tx,Tx] U3 λR K h k h0 d h1=>l10 G n m h k h0 d h1 (λh h0 d h1=>K (.exit 4) ⟨[(1,TF),(3,UY),(5,Tv h)],[Uc h0 d,UE h1]⟩)
def dl7(m:Nat):=rS [1,3,5] [Tw,UZ,Tx] U3 λR K h h0 d h1=>l7 G n m h h0 d h1 (λh0=>K (.exit 2) ⟨[(3,Ug)],[UE h0]⟩)
def pc:Pcs:=⟨Tl 3 (dl3 G n n) (Tl 10 (tJ G n n) (Tl 7 (dl7 G n n) nK)),nK,nK⟩
def an:Ann:=⟨65,0,[(3,[1,3,4]),(10,[1,3,5,6]),(7,[1,3,5])],[],[2],[(12,⟨[(Te 14,[],[])],[],[],[0,1],[]⟩),(13,⟨[(Te 10,[],[])],[],[],[0,1],[]⟩)],[]⟩
abbrev bd:=aK Tryz.f68
theorem ok{G:Gs}(d:ap (ents G)){g:Q}(h:∀s r,g s=some r->∃n,aq G n s Vs=Vs r):aj (ent g):=okQ λ_ _ _ _ _ hc=>Tk hc (h _) λn _ j=>fF d an (pc G n) Tryz.func68 j (apl [(1,3,.loop (Tj 116 bd)),(1,7,.loop (Tj 244 bd))] ⟨Tf d n (dl3 G n) rfl (pc G n) ⟨[1,3],[2],[(0,[1,3])]⟩,⟨Tf d n (dl7 G n) rfl (pc G n) ⟨[3],[2],[(2,[3])]⟩ (apl [(1,10,.loop (Tj 15652 bd))] ⟨Tf d n (tJ G n) rfl (pc G n) ⟨[1,3,5],[2],[(2,[3]),(3,[1,3,5]),(4,[1,3,5])]⟩,Th⟩),Th⟩⟩)
end z3i
namespace z2r
structure Gs where
 z2n:z2n.Q
 z38:z38.Q
 z3a:z3a.Q
 z3j:z3j.Q
 z3h:z3h.Q
def ents(G:Gs):Td Ent:=[z2n.ent G.z2n,z38.ent G.z38,z3a.ent G.z3a,z3j.ent G.z3j,z3h.ent G.z3h]
def b4{R:Type}(G:Gs)(n:Nat)(i:Int)(h0:LB)(d:LS)(t:Int->LB->LS->Y R)(j:Bool->Y R)(k1:LB->LS->Y R):Y R:=bif decide (i<(List.length h0:Int))then((ix h0 i).bind λe2=>(G.z2n e2).bind λv=>bif !v then(j false)else(sub h0 0 i).bind λh=>(ix h0 i).bind λw=>(G.z38 h w).bind λy=>bif y then(j false)else t (wr (i+1)) h0 d)else k1 h0 d
variable{R:Type}(G:Gs)(n:Nat)
def l4(m:Nat)(i:Int)(h0:LB)(d:LS)(h:Bool->Y R)(k1:LB->LS->Y R):Y R:=aY (λ(v:Int×LB×LS) j=>b4 G n v.1 v.2.1 v.2.2 (λt w y=>j (t,w,y)) h k1) m (i,h0,d)
def b9{R:Type}(G:Gs)(n:Nat)(k:Int)(h0:LB)(d:LS)(j:Int->LB->LS->Y R)(h:Bool->Y R)(k1:LB->LS->Y R):Y R:=bif decide (k<(List.length d:Int))then((ix d k).bind λe2=>(G.z3a e2.low 0 (wr ((List.length h0:Int)-1))).bind λt=>bif !t then(h false)else(ix d k).bind λv=>(G.z3a v.cK 0 (wr ((List.length h0:Int)-1))).bind λw=>bif !w then(h false)else(ix d k).bind λy=>(ix d k).bind λA=>bif decide (y.low=A.cK)then(h false)else j (wr (k+1)) h0 d)else k1 h0 d
def l9(m:Nat)(k:Int)(h0:LB)(d:LS)(h:Bool->Y R)(k1:LB->LS->Y R):Y R:=aY (λ(v:Int×LB×LS) j=>b9 G n v.1 v.2.1 v.2.2 (λt w y=>j (t,w,y)) h k1) m (k,h0,d)
def b18{R:Type}(G:Gs)(n:Nat)(d:LI)(i k:Int)(h:LI->Int->Int->Y R)(j:Bool->Y R)(k1:LI->Int->Y R):Y R:=bif decide (k<i)then((ix d i).bind λe=>(G.z3h e k).bind λr=>bif r then((ix d k).bind λe2=>(G.z3h e2 i).bind λt=>bif t then(j false)else h d i (wr (k+1)))else h d i (wr (k+1)))else k1 d i
def l18(m:Nat)(d:LI)(i k:Int)(h:Bool->Y R)(k1:LI->Int->Y R):Y R:=aY (λ(v:LI×Int×Int) j=>b18 G n v.1 v.2.1 v.2.2 (λt w y=>j (t,w,y)) h k1) m (d,i,k)
def b15(d:LI)(i:Int)(j:LI->Int->Y R)(t:Bool->Y R)(k1:Y R):Y R:=bif decide (i<(List.length d:Int))then(l18 G n n d i 0 (λv=>t v) (λh w=>j h (wr (w+1))))else k1
def l15(m:Nat)(d:LI)(i:Int)(h:Bool->Y R)(k1:Y R):Y R:=aY (λ(v:LI×Int) j=>b15 G n v.1 v.2 (λt w=>j (t,w)) h k1) m (d,i)
def aq(s:So)(K:Bool->Y R):Y R:=bif decide ((List.length s.ak:Int)<1)then(K false)else bif decide (8<(List.length s.ak:Int))then(K false)else bif decide (16<(List.length s.aA:Int))then(K false)else l4 G n n 0 s.ak s.aA (λv=>K v) (λh0 h=>l9 G n n 0 h0 h (λt22=>K t22) (λj d=>(G.z3j (So.mk j d)).bind λr=>l15 G n n r 0 (λt=>K t) (K true)))
def dl4(m:Nat):=rS [1,3] [Tw,Tx] [V3] λR K i h0 d=>l4 G n m i h0 d (λh=>K .ret ⟨UG h,[]⟩) (λh0 d=>K (.exit 0) ⟨[(1,TF)],[Uc h0 d]⟩)
def dl9(m:Nat):=rS [1,4] [Tw,Tx] [V3] λR K k h0 d=>l9 G n m k h0 d (λh=>K .ret ⟨UG h,[]⟩) (λh0 d=>K (.exit 2) ⟨[(1,TF)],[Uc h0 d]⟩)
def yk(m:Nat):=rS [5,6,7] [U2,Tx,Tx] [] λR K d i k=>l18 G n m d i k (λh=>K .ret ⟨UG h,[]⟩) (λd i=>K (.exit 6) ⟨[(5,Ue d),(6,Tv i)],[]⟩)
def yI(m:Nat):=rS [5,6] [U2,Tx] [] λR K d i=>l15 G n m d i (λh=>K .ret ⟨UG h,[]⟩) (K (.exit 4) ⟨[],[]⟩)
def pc:Pcs:=⟨Tl 4 (dl4 G n n) (Tl 9 (dl9 G n n) (Tl 18 (yk G n n) (Tl 15 (yI G n n) nK))),nK,nK⟩
def an:Ann:=⟨125,0,[(4,[1,3]),(9,[1,4]),(18,[5,6,7]),(15,[5,6])],[],[2],[(6,⟨[(Te 19,[],[])],[],[],[0],[]⟩),(11,⟨[(Te 41,[],[])],[],[],[0],[]⟩)],[]⟩
abbrev bd:=aK Tryz.f35
theorem ok{G:Gs}(d:ap (ents G)){g:Q}(h:∀s r,g s=some r->∃n,aq G n s Vn=Vn r):aj (ent g):=okQ λ_ _ _ _ _ hc=>Tk hc (h _) λn _ j=>fF d an (pc G n) Tryz.func35 j (apl [(1,4,.loop (Tj 116 bd)),(1,9,.loop (Tj 244 bd)),(1,15,.loop (Tj 1012 bd))] ⟨Tf d n (dl4 G n) rfl (pc G n) ⟨[1],[2],[(0,[1])]⟩,⟨Tf d n (dl9 G n) rfl (pc G n) ⟨[1],[2],[(2,[1])]⟩,⟨Tf d n (yI G n) rfl (pc G n) ⟨[],[2],[(4,[])]⟩ (apl [(1,18,.loop (Tj 64804 bd))] ⟨Tf d n (yk G n) rfl (pc G n) ⟨[5,6],[2],[(4,[]),(5,[5,6]),(6,[5,6])]⟩,Th⟩),Th⟩⟩⟩)
end z2r
namespace z3k
structure Gs where
 none_:Unit
def aq{R:Type}(G:Gs)(n:Nat)(op:Opr)(K:Int->Y R):Y R:=(ix op.aJ 0).bind λe=>K (List.length e.ae:Int)
theorem ok{G:Gs}(d:ap []){g:Q}(h:∀op r,g op=some r->∃n,aq G n op Vo=Vo r):aj (ent g):=okQ λ_ _ _ _ _ _ _ _ hc=>Tk hc (h _) λ_ _ j=>fF d ⟨9,0,[],[],[2],[],[]⟩ nP Tryz.func69 j
end z3k
namespace z3m
structure Gs where
 z3i:z3i.Q
 z3a:z3a.Q
def ents(G:Gs):Td Ent:=[z3i.ent G.z3i,z3a.ent G.z3a]
def b12{R:Type}(G:Gs)(n:Nat)(d:LI)(i k:Int)(h0:Z)(h:LD)(j t:Bool)(v:Int)(h1:LI)(w:Int)(h2:LI)(y:Int)(C:LI->Int->Int->Z->LD->Bool->Bool->Int->LI->Int->LI->Int->Y R)(B:Bool->Y R)(k1:LI->Int->Z->LD->Bool->Bool->Int->LI->Int->LI->Int->Y R):Y R:=bif decide (k<(List.length h2:Int))then((ix h2 k).bind λe2=>(G.z3a e2 0 (wr ((List.length d:Int)-1))).bind λD=>bif !D then(B false)else(ix h2 k).bind λE=>(ix d E).bind λF=>(ix h1 k).bind λH=>(ix d H).bind λA=>bif !decide (F=A)then(B false)else C d i (wr (k+1)) h0 h j t v h1 w h2 y)else k1 d i h0 h j t v h1 w h2 y
variable{R:Type}(G:Gs)(n:Nat)
def l12(m:Nat)(d:LI)(i k:Int)(h0:Z)(h:LD)(j t:Bool)(w:Int)(h1:LI)(y:Int)(h2:LI)(A:Int)(D:Bool->Y R)(k1:LI->Int->Z->LD->Bool->Bool->Int->LI->Int->LI->Int->Y R):Y R:=aY (λ(v:LI×Int×Int×Z×LD×Bool×Bool×Int×LI×Int×LI×Int) E=>b12 G n v.1 v.2.1 v.2.2.1 v.2.2.2.1 v.2.2.2.2.1 v.2.2.2.2.2.1 v.2.2.2.2.2.2.1 v.2.2.2.2.2.2.2.1 v.2.2.2.2.2.2.2.2.1 v.2.2.2.2.2.2.2.2.2.1 v.2.2.2.2.2.2.2.2.2.2.1 v.2.2.2.2.2.2.2.2.2.2.2 (λF H I J K L M N O P B C=>E (F,H,I,J,K,L,M,N,O,P,B,C)) D k1) m (d,i,k,h0,h,j,t,w,h1,y,h2,A)
def b6(h:LI)(i:Int)(h0:Z)(t:LD)(C D:Bool)(E:Int)(h1:LI)(F:Int)(K:LI->Int->Z->LD->Bool->Bool->Int->LI->Int->Y R)(B:Bool->Y R)(k1:Y R):Y R:=bif decide (i<(List.length t:Int))then((ix t i).bind λe=>bif !decide ((List.length e.ae:Int)=(List.length h1:Int))then(B false)else(G.z3a e.result 0 (wr ((List.length h:Int)-1))).bind λr=>bif !r then(B false)else l12 G n n h i 0 h0 t C D E h1 F e.ae e.result (λt4=>B t4) (λd L H v w y A I j h2 J=>(ix d J).bind λe3=>(ix d j).bind λM=>bif !decide (e3=M)then(B false)else K d (wr (L+1)) H v w y A I j))else k1
def l6(m:Nat)(d:LI)(i:Int)(h0:Z)(h:LD)(j t:Bool)(w:Int)(h1:LI)(y:Int)(A:Bool->Y R)(k1:Y R):Y R:=aY (λ(v:LI×Int×Z×LD×Bool×Bool×Int×LI×Int) B=>b6 G n v.1 v.2.1 v.2.2.1 v.2.2.2.1 v.2.2.2.2.1 v.2.2.2.2.2.1 v.2.2.2.2.2.2.1 v.2.2.2.2.2.2.2.1 v.2.2.2.2.2.2.2.2 (λC D E F H I J K L=>B (C,D,E,F,H,I,J,K,L)) A k1) m (d,i,h0,h,j,t,w,h1,y)
def aq(s:Sg)(op:Opr)(K:Bool->Y R):Y R:=bif decide ((List.length op.aJ:Int)<1)then(K false)else bif decide (4<(List.length op.aJ:Int))then(K false)else(ix op.aJ 0).bind λe=>bif decide (3<(List.length e.ae:Int))then(K false)else(G.z3i s.ai).bind λr=>(ix op.aJ 0).bind λe2=>l6 G n n r 0 op.ah op.aJ op.aE op.comm op.aO e2.ae e2.result (λt4=>K t4) (K true)
def If(m:Nat):=rS [3,5,6,7,8,9] [Tw,U2,TQ,Tx,U1,Tx] [TD,UL,UL] λR K d i k h0 h j t v h1 w h2 y=>l12 G n m d i k h0 h j t v h1 w h2 y (λt4=>K .ret ⟨Uj t4,[]⟩) (λd i h0 h j t v h1 w h2 y=>K (.exit 2) ⟨[(3,TF),(5,Ue d),(6,TR),(7,Tv i),(8,Ua)],[TV h0 h j t v,Ve h1 w,Ve h2 y]⟩)
def dl6(m:Nat):=rS [3,5,6,7] [Tw,U2,TQ,Tx] [TD,UL] λR K d i h0 h j t v h1 w=>l6 G n m d i h0 h j t v h1 w (λt4=>K .ret ⟨Uj t4,[]⟩) (K (.exit 0) ⟨[],[]⟩)
def pc:Pcs:=⟨Tl 12 (If G n n) (Tl 6 (dl6 G n n) nK),nK,nK⟩
def an:Ann:=⟨111,0,[(12,[3,5,6,7,8,9]),(6,[3,5,6,7])],[],[4],[(14,⟨[(Te 29,[],[])],[],[],[0,1,2],[]⟩),(16,⟨[(Te 11,[],[])],[],[],[0,1,2],[]⟩)],[]⟩
abbrev bd:=aK Tryz.f37
theorem ok{G:Gs}(d:ap (ents G)){g:Q}(h:∀s op r,g s op=some r->∃n,aq G n s op Vn=Vn r):aj (ent g):=okQ λ_ _ _ _ _ _ _ _ _ _ _ hc=>Tk hc (h _ _) λn _ j=>fF d an (pc G n) Tryz.func37 j (apl [(1,6,.loop (Tj 500 bd))] ⟨Tf d n (dl6 G n) rfl (pc G n) ⟨[],[4],[(0,[])]⟩ (apl [(1,12,.loop (Tj 256308 bd))] ⟨Tf d n (If G n) rfl (pc G n) ⟨[3,5,6,7,8],[4],[(0,[]),(1,[3,5,6,7]),(2,[3,5,6,7,8])]⟩,Th⟩),Th⟩)
end z3m
namespace z3l
structure Gs where
 z3k:z3k.Q
 z3a:z3a.Q
 z3i:z3i.Q
def ents(G:Gs):Td Ent:=[z3k.ent G.z3k,z3a.ent G.z3a,z3i.ent G.z3i]
def c11{R:Type}(G:Gs)(n:Nat)(d:LI)(r:Int)(h0:LB)(v:LS)(j:LO)(h1:Z)(w:LD)(y A:Bool)(h:Int)(t:Bool->Y R):Y R:=bif decide (h=0)then(t true)else(ix j (wr (h-1))).bind λe=>(G.z3k e).bind λB=>bif decide (B=0)then((ix e.aJ 0).bind λe2=>(ix d e2.result).bind λe3=>t (decide (e3=r)))else t false
variable{R:Type}(G:Gs)(n:Nat)
def c4(h0:LB)(v:LS)(w:LO)(h1:Z)(h:LD)(j y:Bool)(d:Int)(A:Bool->Y R):Y R:=(G.z3k (Opr.mk h1 h j y d)).bind λr=>bif !decide (r=2)then(A false)else(G.z3a d 0 (List.length w:Int)).bind λF=>bif !F then(A false)else(G.z3i (So.mk h0 v)).bind λB=>(ix h 0).bind λe=>(ix e.ae 0).bind λe3=>(ix B e3).bind λC=>(ix e.ae 1).bind λH=>(ix B H).bind λI=>(ix B e.result).bind λt=>bif !decide (C=I)then(A false)else bif j then(bif !decide (C=t)then(A false)else c11 G n B t h0 v w h1 h j y d (λt4=>A t4))else bif decide (0<d)then(bif !decide (C=t)then(A false)else c11 G n B t h0 v w h1 h j y d (λD=>A D))else c11 G n B t h0 v w h1 h j y d (λE=>A E)
def aq(s:Sg)(i:Int)(K:Bool->Y R):Y R:=(ix s.ops i).bind λe=>bif !e.aE then(bif !e.comm then(bif decide (e.aO=0)then(K true)else c4 G n s.ai.ak s.ai.aA s.ops e.ah e.aJ e.aE e.comm e.aO (λt4=>K t4))else c4 G n s.ai.ak s.ai.aA s.ops e.ah e.aJ e.aE e.comm e.aO (λd=>K d))else c4 G n s.ai.ak s.ai.aA s.ops e.ah e.aJ e.aE e.comm e.aO (λh=>K h)
def ET:=rS [2,5,6,10] [Tw,TQ,U2,Tx] [TB,TD] λR K d r h0 h j h1 t v w y=>c11 G n d r h0 h j h1 t v w y (λt4=>K .ret ⟨Uj t4,[]⟩)
def dc4:=rS [2,5] [Tw,TQ] [TB,TD] λR K h0 d h h1 j t v w=>c4 G n h0 d h h1 j t v w (λt4=>K .ret ⟨Uj t4,[]⟩)
def pc:Pcs:=⟨nK,Tl 11 (ET G n) (Tl 4 (dc4 G n) nK),nK⟩
def an:Ann:=⟨110,0,[],[(11,[2,5,6,10]),(4,[2,5])],[4],[(8,⟨[(Te 22,[],[])],[],[],[0,1,2],[]⟩)],[]⟩
abbrev bd:=aK Tryz.f38
theorem ok{G:Gs}(d:ap (ents G)){g:Q}(h:∀s i r,g s i=some r->∃n,aq G n s i Vn=Vn r):aj (ent g):=okQ λ_ _ _ _ _ _ _ hc=>Tk hc (h _ _) λn _ j=>fF d an (pc G n) Tryz.func38 j (apl [(0,4,Tj 15 bd)] ⟨Tg d (dc4 G n) rfl (pc G n) ⟨[],[4],[]⟩ (apl [(0,11,Tj 511 bd)] ⟨Tg d (ET G n) rfl (pc G n) ⟨[],[4],[]⟩,Th⟩),Th⟩)
end z3l
namespace z2p
structure Gs where
 z2r:z2r.Q
 z2n:z2n.Q
 z3m:z3m.Q
 z3l:z3l.Q
def ents(G:Gs):Td Ent:=[z2r.ent G.z2r,z2n.ent G.z2n,z3m.ent G.z3m,z3l.ent G.z3l]
def b9{R:Type}(G:Gs)(n:Nat)(i k:Int)(h0:LB)(h:LS)(d:LO)(j:Int->Int->LB->LS->LO->Y R)(t:Bool->Y R)(k1:Int->LB->LS->LO->Y R):Y R:=bif decide (k<i)then((ix d k).bind λe2=>(ix d i).bind λv=>bif sEq e2.ah v.ah then(t false)else j i (wr (k+1)) h0 h d)else k1 i h0 h d
variable{R:Type}(G:Gs)(n:Nat)
def l9(m:Nat)(i k:Int)(h0:LB)(d:LS)(h:LO)(j:Bool->Y R)(k1:Int->LB->LS->LO->Y R):Y R:=aY (λ(v:Int×Int×LB×LS×LO) t=>b9 G n v.1 v.2.1 v.2.2.1 v.2.2.2.1 v.2.2.2.2 (λw y A B C=>t (w,y,A,B,C)) j k1) m (i,k,h0,d,h)
def b4(i:Int)(h0:LB)(h:LS)(d:LO)(y:Int->LB->LS->LO->Y R)(v:Bool->Y R)(k1:LB->LS->LO->Y R):Y R:=bif decide (i<(List.length d:Int))then((ix d i).bind λe2=>(G.z2n e2.ah).bind λA=>bif !A then(v false)else(ix d i).bind λB=>(G.z3m (Sg.mk (So.mk h0 h) d) B).bind λC=>bif !C then(v false)else l9 G n n i 0 h0 h d (λD=>v D) (λE w j t=>y (wr (E+1)) w j t))else k1 h0 h d
def l4(m:Nat)(i:Int)(h0:LB)(d:LS)(h:LO)(j:Bool->Y R)(k1:LB->LS->LO->Y R):Y R:=aY (λ(v:Int×LB×LS×LO) t=>b4 G n v.1 v.2.1 v.2.2.1 v.2.2.2 (λw y A B=>t (w,y,A,B)) j k1) m (i,h0,d,h)
def b14{R:Type}(G:Gs)(n:Nat)(i:Int)(h0:LB)(h:LS)(d:LO)(j:Int->LB->LS->LO->Y R)(t:Bool->Y R)(k1:Y R):Y R:=bif decide (i<(List.length d:Int))then((G.z3l (Sg.mk (So.mk h0 h) d) i).bind λr=>bif !r then(t false)else j (wr (i+1)) h0 h d)else k1
def l14(m:Nat)(i:Int)(h0:LB)(d:LS)(h:LO)(j:Bool->Y R)(k1:Y R):Y R:=aY (λ(v:Int×LB×LS×LO) t=>b14 G n v.1 v.2.1 v.2.2.1 v.2.2.2 (λw y A B=>t (w,y,A,B)) j k1) m (i,h0,d,h)
def aq(s:Sg)(K:Bool->Y R):Y R:=(G.z2r s.ai).bind λr=>bif !r then(K false)else bif decide (14<(List.length s.ops:Int))then(K false)else l4 G n n 0 s.ai.ak s.ai.aA s.ops (λj=>K j) (λh0 d h=>l14 G n n 0 h0 d h (λt22=>K t22) (K true))
def dl9(m:Nat):=rS [1,3,4] [Tw,Tx,Tx] [TB] λR K i k h0 d h=>l9 G n m i k h0 d h (λj=>K .ret ⟨UG j,[]⟩) (λi h0 d h=>K (.exit 2) ⟨[(1,TF),(3,Tv i)],[TP h0 d h]⟩)
def dl4(m:Nat):=rS [1,3] [Tw,Tx] [TB] λR K i h0 d h=>l4 G n m i h0 d h (λj=>K .ret ⟨UG j,[]⟩) (λh0 d h=>K (.exit 0) ⟨[(1,TF)],[TP h0 d h]⟩)
def GC(m:Nat):=rS [1,5] [Tw,Tx] [TB] λR K i h0 d h=>l14 G n m i h0 d h (λj=>K .ret ⟨UG j,[]⟩) (K (.exit 4) ⟨[],[]⟩)
def pc:Pcs:=⟨Tl 9 (dl9 G n n) (Tl 4 (dl4 G n n) (Tl 14 (GC G n n) nK)),nK,nK⟩
def an:Ann:=⟨70,0,[(9,[1,3,4]),(4,[1,3]),(14,[1,5])],[],[2],[(6,⟨[(Te 18,[],[])],[],[],[0],[]⟩),(11,⟨[(Te 13,[],[])],[],[],[0],[]⟩)],[]⟩
abbrev bd:=aK Tryz.f17
theorem ok{G:Gs}(d:ap (ents G)){g:Q}(h:∀s r,g s=some r->∃n,aq G n s Vn=Vn r):aj (ent g):=okQ λ_ _ _ _ _ _ hc=>Tk hc (h _) λn _ j=>fF d an (pc G n) Tryz.func17 j (apl [(1,4,.loop (Tj 116 bd)),(1,14,.loop (Tj 244 bd))] ⟨Tf d n (dl4 G n) rfl (pc G n) ⟨[1],[2],[(0,[1])]⟩ (apl [(1,9,.loop (Tj 14924 bd))] ⟨Tf d n (dl9 G n) rfl (pc G n) ⟨[1,3],[2],[(0,[1]),(1,[1,3]),(2,[1,3])]⟩,Th⟩),⟨Tf d n (GC G n) rfl (pc G n) ⟨[],[2],[(4,[])]⟩,Th⟩⟩)
end z2p
end
end Go.Proofs.YtkegnipofloejaaGreatDoor.Den

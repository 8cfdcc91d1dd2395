/- merged -/
import Derived.Test.YtkegnipofloejaaGreatDoorZRowMT16

namespace Go.Proofs.YtkegnipofloejaaGreatDoor.Den
open Go.RowKit
section
set_option maxRecDepth 100000
set_option linter.unusedVariables false
noncomputable section
namespace z5a
structure Gs where
 none_:Unit
def ents(_:Gs):Td Ent:=[]
def b1{R:Type}(G:Gs)(n:Nat)(a b j i:Int)(h0:LT)(t:Int->LT->Y R)(v:LT->Y R):Y R:=bif decide (i<j)then((ix h0 (wr (b+i))).bind λd=>(ix h0 (wr (a+i))).bind λh=>(ix h0 (wr (a+i))).bind λw=>(ix (List.set h0 (Int.toNat (wr (a+i))) (Tm.mk d.op d.ah d.am d.ae)) (wr (b+i))).bind λy=>t (wr (i+1)) (List.set (List.set h0 (Int.toNat (wr (a+i))) (Tm.mk d.op d.ah d.am d.ae)) (Int.toNat (wr (b+i))) (Tm.mk h.op h.ah h.am h.ae)))else v h0
variable{R:Type}(G:Gs)(n:Nat)
def l1(m:Nat)(a b d i:Int)(h0:LT)(h:LT->Y R):Y R:=aY (λ(v:Int×LT) j=>b1 G n a b d v.1 v.2 (λt w=>j (t,w)) h) m (i,h0)
def aq(data:LT)(a b h:Int)(K:LT->Y R):Y R:=l1 G n n a b h 0 data (λd=>K d)
def dl1(m:Nat):=rS [0,1,2,3,10] [U7,Tx,Tx,Tx,Tx] [TH] λR K a b h i h0=>l1 G n m a b h i h0 (λd=>K (.exit 0) ⟨[],UU d⟩)
def pc:Pcs:=⟨Tl 1 (dl1 G n n) nK,nK,nK⟩
def an:Ann:=⟨38,1,[(1,[0,1,2,3,10])],[],[],[(3,⟨[([0,1,2,3,8,9,10,11,12,13,14,15,16,17,18,19,20,21,4,5,6,7,22,23],[21,23],[12,13,18,19,20,22])],[21,23],[],[],[]⟩)],[]⟩
abbrev bd:=aK Tryz.f178
def cG(G:Gs)(data:LT)(a b d:Int)(r:LT):Prop:=∃n,aq (R:=AT×Td Ob) G n data a b d (λr0=>some (Uf,UU r0))=some (Uf,UU r)
theorem ok{G:Gs}(d:ap (ents G)){g:Q}(t:∀data a b h r,g data a b h=some r->cG G data a b h r):aj (ent g):=okQ λ_ _ _ _ _ _ _ hc=>Tk hc (t _ _ _ _) λn _ j=>fF d an (pc G n) Tryz.func178 j (apl [(1,1,.loop (Tj 12 bd))] ⟨Tf d n (dl1 G n) rfl (pc G n) ⟨[],[],[(0,[])]⟩,Th⟩)
end z5a
namespace z57
structure Gs where
 z5a:z5a.Q
def ents(G:Gs):Td Ent:=[z5a.ent G.z5a]
def b2{R:Type}(G:Gs)(n:Nat)(d i j:Int)(h0:LT)(h:Int->Int->LT->Y R)(t:Int->LT->Y R):Y R:=bif !decide (i=j)then(bif decide (j<i)then((G.z5a h0 (wr (d-i)) d j).bind λr=>h (wr (i-j)) j r)else(G.z5a h0 (wr (d-i)) (wr ((wr (d+j))-i)) i).bind λv=>h i (wr (j-i)) v)else t i h0
variable{R:Type}(G:Gs)(n:Nat)
def l2(m:Nat)(d i j:Int)(h0:LT)(h:Int->LT->Y R):Y R:=aY (λ(v:Int×Int×LT) t=>b2 G n d v.1 v.2.1 v.2.2 (λw y A=>t (w,y,A)) h) m (i,j,h0)
def aq(data:LT)(a d b:Int)(K:LT->Y R):Y R:=l2 G n n d (wr (d-a)) (wr (b-d)) data (λj h=>(G.z5a h (wr (d-j)) d j).bind λr=>K r)
def dl2(m:Nat):=rS [0,2,4,10,11] [U7,Tx,U9,Tx,Tx] [TH] λR K h i j h0=>l2 G n m h i j h0 (λt d=>K (.exit 0) ⟨[(0,Ug),(2,Tv h),(4,UO),(10,Tv t)],UU d⟩)
def pc:Pcs:=⟨Tl 2 (dl2 G n n) nK,nK,nK⟩
def an:Ann:=⟨58,1,[(2,[0,2,4,10,11])],[],[],[],[]⟩
abbrev bd:=aK Tryz.f177
def cG(G:Gs)(data:LT)(a d b:Int)(r:LT):Prop:=∃n,aq (R:=AT×Td Ob) G n data a d b (λr0=>some (Uf,UU r0))=some (Uf,UU r)
theorem ok{G:Gs}(d:ap (ents G)){g:Q}(t:∀data a h b r,g data a h b=some r->cG G data a h b r):aj (ent g):=okQ λ_ _ _ _ _ _ _ hc=>Tk hc (t _ _ _ _) λn _ j=>fF d an (pc G n) Tryz.func177 j (apl [(1,2,.loop (Tj 56 bd))] ⟨Tf d n (dl2 G n) rfl (pc G n) ⟨[0,2,4,10],[],[(0,[0,2,4,10])]⟩,Th⟩)
end z57
namespace z5b
structure Gs where
 z0a:z0a.Q
 z57:z57.Q
 z5b:z5b.Q
def ents(G:Gs):Td Ent:=[z0a.ent G.z0a,z57.ent G.z57,ent G.z5b]
def b3{R:Type}(G:Gs)(n:Nat)(a:Int)(h0:LT)(i j:Int)(h:Int->Int->Y R)(t:Int->Y R):Y R:=bif decide (i<j)then((bif decide (0<=1)then some (Abs.bz .shr .u64 (IntKind.wrap .u64 (wr (i+j))) 1)else none).bind λq=>(ix h0 (wr (q))).bind λe2=>(ix h0 a).bind λd=>(G.z0a (Tm.mk e2.op e2.ah e2.am e2.ae) (Tm.mk d.op d.ah d.am d.ae)).bind λr=>bif decide (r<0)then(h (wr ((wr (q))+1)) j)else h i (wr (q)))else t i
variable{R:Type}(G:Gs)(n:Nat)
def l3(m:Nat)(a:Int)(h0:LT)(i j:Int)(d:Int->Y R):Y R:=aY (λ(v:Int×Int) h=>b3 G n a h0 v.1 v.2 (λt w=>h (t,w)) d) m (i,j)
def b9{R:Type}(G:Gs)(n:Nat)(i k:Int)(h0:LT)(j:Int->LT->Y R)(t:LT->Y R):Y R:=bif decide (k<(wr (i-1)))then((ix h0 (wr (k+1))).bind λd=>(ix h0 k).bind λh=>(ix h0 k).bind λv=>(ix (List.set h0 (Int.toNat k) (Tm.mk d.op d.ah d.am d.ae)) (wr (k+1))).bind λw=>j (wr (k+1)) (List.set (List.set h0 (Int.toNat k) (Tm.mk d.op d.ah d.am d.ae)) (Int.toNat (wr (k+1))) (Tm.mk h.op h.ah h.am h.ae)))else t h0
def l9(m:Nat)(i k:Int)(h0:LT)(d:LT->Y R):Y R:=aY (λ(v:Int×LT) h=>b9 G n i v.1 v.2 (λj t=>h (j,t)) d) m (k,h0)
def b15{R:Type}(G:Gs)(n:Nat)(t:Int)(h0:LT)(i j:Int)(h:Int->Int->Y R)(v:Int->Y R):Y R:=bif decide (i<j)then((bif decide (0<=1)then some (Abs.bz .shr .u64 (IntKind.wrap .u64 (wr (i+j))) 1)else none).bind λq=>(ix h0 t).bind λe2=>(ix h0 (wr (q))).bind λd=>(G.z0a (Tm.mk e2.op e2.ah e2.am e2.ae) (Tm.mk d.op d.ah d.am d.ae)).bind λr=>bif !(decide (r<0))then(h (wr ((wr (q))+1)) j)else h i (wr (q)))else v i
def l15(m:Nat)(d:Int)(h0:LT)(i j:Int)(h:Int->Y R):Y R:=aY (λ(v:Int×Int) t=>b15 G n d h0 v.1 v.2 (λw y=>t (w,y)) h) m (i,j)
def b21{R:Type}(G:Gs)(n:Nat)(i k:Int)(h0:LT)(j:Int->LT->Y R)(t:LT->Y R):Y R:=bif decide (i<k)then((ix h0 (wr (k-1))).bind λd=>(ix h0 k).bind λh=>(ix h0 k).bind λv=>(ix (List.set h0 (Int.toNat k) (Tm.mk d.op d.ah d.am d.ae)) (wr (k-1))).bind λw=>j (wr (k-1)) (List.set (List.set h0 (Int.toNat k) (Tm.mk d.op d.ah d.am d.ae)) (Int.toNat (wr (k-1))) (Tm.mk h.op h.ah h.am h.ae)))else t h0
def l21(m:Nat)(i k:Int)(h0:LT)(d:LT->Y R):Y R:=aY (λ(v:Int×LT) h=>b21 G n i v.1 v.2 (λj t=>h (j,t)) d) m (k,h0)
def b33{R:Type}(G:Gs)(n:Nat)(a w b j y p:Int)(h0:LT)(start r:Int)(h:Int->Int->Y R)(t:Int->Y R):Y R:=bif decide (start<r)then((bif decide (0<=1)then some (Abs.bz .shr .u64 (IntKind.wrap .u64 (wr (start+r))) 1)else none).bind λq=>(ix h0 (wr (p-(wr (q))))).bind λe2=>(ix h0 (wr (q))).bind λd=>(G.z0a (Tm.mk e2.op e2.ah e2.am e2.ae) (Tm.mk d.op d.ah d.am d.ae)).bind λv=>bif !(decide (v<0))then(h (wr ((wr (q))+1)) r)else h start (wr (q)))else t start
def l33(m:Nat)(a h b d j p:Int)(h0:LT)(start r:Int)(t:Int->Y R):Y R:=aY (λ(v:Int×Int) w=>b33 G n a h b d j p h0 v.1 v.2 (λy A=>w (y,A)) t) m (start,r)
def c43{R:Type}(G:Gs)(n:Nat)(b h d:Int)(h0:LT)(j:LT->Y R):Y R:=bif decide (h<d)then(bif decide (d<b)then((G.z5b h0 h d b).bind λr=>j r)else j h0)else j h0
def c41(a b d start h:Int)(h0:LT)(v:LT->Y R):Y R:=bif decide (a<start)then(bif decide (start<d)then((G.z5b h0 a start d).bind λr=>c43 G n b d h r (λw=>v w))else c43 G n b d h h0 (λj=>v j))else c43 G n b d h h0 (λt=>v t)
def c32(a w b h j start r:Int)(h0:LT)(y:LT->Y R):Y R:=l33 G n n a w b h j (wr (j-1)) h0 start r (λd=>bif decide (d<w)then(bif decide (w<(wr (j-d)))then((G.z57 h0 d w (wr (j-d))).bind λB=>c41 G n a b h d (wr (j-d)) B (λA=>y A))else c41 G n a b h d (wr (j-d)) h0 (λt=>y t))else c41 G n a b h d (wr (j-d)) h0 (λv=>y v))
def aq(data:LT)(a d b:Int)(K:LT->Y R):Y R:=bif decide ((wr (d-a))=1)then(l3 G n n a data d b (λy=>l9 G n n y a data (λv=>K v)))else bif decide ((wr (b-d))=1)then(l15 G n n d data a d (λw=>l21 G n n w d data (λh=>K h)))else(bif decide (0<=1)then some (Abs.bz .shr .u64 (IntKind.wrap .u64 (wr (a+b))) 1)else none).bind λq=>bif decide ((wr (q))<d)then(c32 G n a d b (wr (q)) (wr ((wr (q))+d)) (wr ((wr ((wr (q))+d))-b)) (wr (q)) data (λj=>K j))else c32 G n a d b (wr (q)) (wr ((wr (q))+d)) a d data (λt=>K t)
def dl3(m:Nat):=rS [0,1,4,10,11] [U7,Tx,U9,Tx,Tx] [TH] λR K a i j h0=>l3 G n m a h0 i j (λd=>K (.exit 0) ⟨[(0,Ug),(1,Tv a),(10,Tv d)],UU h0⟩)
def dl9(m:Nat):=rS [0,10,13] [U7,Tx,Tx] [TH] λR K i k h0=>l9 G n m i k h0 (λd=>K (.exit 2) ⟨[],UU d⟩)
def yI(m:Nat):=rS [0,2,4,14,15] [U7,Tx,U9,Tx,Tx] [TH] λR K d i j h0=>l15 G n m d h0 i j (λh=>K (.exit 4) ⟨[(0,Ug),(2,Tv d),(14,Tv h)],UU h0⟩)
def dl21(m:Nat):=rS [0,14,17] [U7,Tx,Tx] [TH] λR K i k h0=>l21 G n m i k h0 (λd=>K (.exit 6) ⟨[],UU d⟩)
def dl33(m:Nat):=rS [0,1,2,3,4,18,19,20,21,22] [U7,Tx,Tx,Tx,U9,Tx,Tx,Tx,Tx,Tx] [TH] λR K a j b h t start r p h0=>l33 G n m a j b h t p h0 start r (λd=>K (.exit 8) ⟨[(0,Ug),(1,Tv a),(2,Tv j),(3,Tv b),(4,UO),(18,Tv h),(19,Tv t),(20,Tv d)],UU h0⟩)
def dc43:=rS [0,3,4,18,24] [U7,Tx,U9,Tx,Tx] [TH] λR K b h d h0=>c43 G n b h d h0 (λj=>K .normal ⟨[],UU j⟩)
def dc41:=rS [0,1,3,4,18,20,24] [U7,Tx,Tx,U9,Tx,Tx,Tx] [TH] λR K a b h start d h0=>c41 G n a b h start d h0 (λj=>K .normal ⟨[],UU j⟩)
def dc32:=rS [0,1,2,3,4,18,19,20,21] [U7,Tx,Tx,Tx,U9,Tx,Tx,Tx,Tx] [TH] λR K a j b d t start r h0=>c32 G n a j b d t start r h0 (λh=>K .normal ⟨[],UU h⟩)
def pc:Pcs:=⟨Tl 3 (dl3 G n n) (Tl 9 (dl9 G n n) (Tl 15 (yI G n n) (Tl 21 (dl21 G n n) (Tl 33 (dl33 G n n) nK)))),Tl 43 (dc43 G n) (Tl 41 (dc41 G n) (Tl 32 (dc32 G n) nK)),nK⟩
def an:Ann:=⟨220,1,[(3,[0,1,4,10,11]),(9,[0,10,13]),(15,[0,2,4,14,15]),(21,[0,14,17]),(33,[0,1,2,3,4,18,19,20,21,22])],[(43,[0,3,4,18,24]),(41,[0,1,3,4,18,20,24]),(32,[0,1,2,3,4,18,19,20,21])],[],[(5,⟨[(Te 11,[9],[])],[9],[],[0],[]⟩),(11,⟨[([0,1,5,6,7,8,9,10,11,12,13,14,15,2,3,4,16,17],[15,17],[8,9,12,13,14,16])],[15,17],[],[],[]⟩),(17,⟨[(Te 12,[9],[])],[9],[],[0],[]⟩),(23,⟨[([0,1,5,6,7,8,9,10,11,12,13,14,15,2,3,4,16,17],[15,17],[8,9,12,13,14,16])],[15,17],[],[],[]⟩),(35,⟨[(Te 14,[11],[])],[11],[],[0],[]⟩)],[]⟩
abbrev bd:=aK Tryz.f175
def cG(G:Gs)(data:LT)(a d b:Int)(r:LT):Prop:=∃n,aq (R:=AT×Td Ob) G n data a d b (λr0=>some (Uf,UU r0))=some (Uf,UU r)
theorem ok{G:Gs}(d:ap (ents G)){g:Q}(t:∀data a h b r,g data a h b=some r->cG G data a h b r):aj (ent g):=okQ λ_ _ _ _ _ _ _ hc=>Tk hc (t _ _ _ _) λn _ j=>fF d an (pc G n) Tryz.func175 j (apl [(1,3,.loop (Tj 344 bd)),(1,9,.loop (Tj 1396 bd)),(1,15,.loop (Tj 856 bd)),(1,21,.loop (Tj 3444 bd)),(0,32,Tj 127 bd)] ⟨Tf d n (dl3 G n) rfl (pc G n) ⟨[0,1,10],[],[(0,[0,1,10])]⟩,⟨Tf d n (dl9 G n) rfl (pc G n) ⟨[],[],[(2,[])]⟩,⟨Tf d n (yI G n) rfl (pc G n) ⟨[0,2,14],[],[(4,[0,2,14])]⟩,⟨Tf d n (dl21 G n) rfl (pc G n) ⟨[],[],[(6,[])]⟩,⟨Tg d (dc32 G n) rfl (pc G n) ⟨[],[],[]⟩ (apl [(1,33,.loop (Tj 2040 bd)),(0,41,Tj 2047 bd)] ⟨Tf d n (dl33 G n) rfl (pc G n) ⟨[0,1,2,3,4,18,19,20],[],[(8,[0,1,2,3,4,18,19,20])]⟩,⟨Tg d (dc41 G n) rfl (pc G n) ⟨[],[],[]⟩ (apl [(0,43,Tj 4095 bd)] ⟨Tg d (dc43 G n) rfl (pc G n) ⟨[],[],[]⟩,Th⟩),Th⟩⟩),Th⟩⟩⟩⟩⟩)
end z5b
namespace z56
structure Gs where
 z0a:z0a.Q
def ents(G:Gs):Td Ent:=[z0a.ent G.z0a]
def c6{R:Type}(G:Gs)(n:Nat)(a b i j:Int)(h0:LT)(t:Int->LT->Y R):Y R:=(ix h0 (wr (j-1))).bind λd=>(ix h0 j).bind λh=>(ix h0 j).bind λv=>(ix (List.set h0 (Int.toNat j) (Tm.mk d.op d.ah d.am d.ae)) (wr (j-1))).bind λw=>t (wr (j-1)) (List.set (List.set h0 (Int.toNat j) (Tm.mk d.op d.ah d.am d.ae)) (Int.toNat (wr (j-1))) (Tm.mk h.op h.ah h.am h.ae))
variable{R:Type}(G:Gs)(n:Nat)
def b4(a b i j:Int)(h0:LT)(y:Int->LT->Y R)(w:LT->Y R):Y R:=bif decide (a<j)then((ix h0 j).bind λh=>(ix h0 (wr (j-1))).bind λt=>(G.z0a (Tm.mk h.op h.ah h.am h.ae) (Tm.mk t.op t.ah t.am t.ae)).bind λA=>bif decide (A<0)then(c6 G n a b i j h0 (λv d=>y v d))else w h0)else w h0
def l4(m:Nat)(a b i j:Int)(h0:LT)(d:LT->Y R):Y R:=aY (λ(v:Int×LT) h=>b4 G n a b i v.1 v.2 (λt w=>h (t,w)) d) m (j,h0)
def b1(a b i:Int)(h0:LT)(h:Int->LT->Y R)(j:LT->Y R):Y R:=bif decide (i<b)then(l4 G n n a b i i h0 (λd=>h (wr (i+1)) d))else j h0
def l1(m:Nat)(a b i:Int)(h0:LT)(d:LT->Y R):Y R:=aY (λ(v:Int×LT) h=>b1 G n a b v.1 v.2 (λj t=>h (j,t)) d) m (i,h0)
def aq(data:LT)(a b:Int)(K:LT->Y R):Y R:=l1 G n n a b (wr (a+1)) data (λd=>K d)
def dc6:=rS [0,1,2,3,8,9] [U7,Tx,Tx,U9,Tx,Tx] [TH] λR K a b i j h0=>c6 G n a b i j h0 (λh d=>K .normal ⟨[(0,Ug),(1,Tv a),(2,Tv b),(3,UO),(8,Tv i),(9,Tv h)],UU d⟩)
def dl4(m:Nat):=rS [0,1,2,3,8,9] [U7,Tx,Tx,U9,Tx,Tx] [TH] λR K a b i j h0=>l4 G n m a b i j h0 (λd=>K (.exit 2) ⟨[(0,Ug),(1,Tv a),(2,Tv b),(3,UO),(8,Tv i)],UU d⟩)
def dl1(m:Nat):=rS [0,1,2,3,8] [U7,Tx,Tx,U9,Tx] [TH] λR K a b i h0=>l1 G n m a b i h0 (λd=>K (.exit 0) ⟨[],UU d⟩)
def pc:Pcs:=⟨Tl 4 (dl4 G n n) (Tl 1 (dl1 G n n) nK),Tl 6 (dc6 G n) nK,nK⟩
def an:Ann:=⟨53,1,[(4,[0,1,2,3,8,9]),(1,[0,1,2,3,8])],[(6,[0,1,2,3,8,9])],[],[(4,⟨[(Te 17,[14],[7,8,12,13])],[14],[],[],[]⟩),(6,⟨[([0,1,5,6,7,8,9,10,11,12,13,14,15,2,3,4,16,17],[15,17],[8,9,12,13,14,16])],[15,17],[],[],[]⟩)],[]⟩
abbrev bd:=aK Tryz.f158
def cG(G:Gs)(data:LT)(a b:Int)(r:LT):Prop:=∃n,aq (R:=AT×Td Ob) G n data a b (λr0=>some (Uf,UU r0))=some (Uf,UU r)
theorem ok{G:Gs}(d:ap (ents G)){g:Q}(h:∀data a b r,g data a b=some r->cG G data a b r):aj (ent g):=okQ λ_ _ _ _ _ _ hc=>Tk hc (h _ _ _) λn _ j=>fF d an (pc G n) Tryz.func158 j (apl [(1,1,.loop (Tj 12 bd))] ⟨Tf d n (dl1 G n) rfl (pc G n) ⟨[],[],[(0,[])]⟩ (apl [(1,4,.loop (Tj 804 bd))] ⟨Tf d n (dl4 G n) rfl (pc G n) ⟨[0,1,2,3,8],[],[(0,[]),(1,[0,1,2,3,8]),(2,[0,1,2,3,8])]⟩ (apl [(0,6,Tj 1609 bd)] ⟨Tg d (dc6 G n) rfl (pc G n) ⟨[0,1,2,3,8,9],[],[(0,[]),(1,[0,1,2,3,8]),(2,[0,1,2,3,8])]⟩,Th⟩),Th⟩),Th⟩)
end z56
namespace z58
structure Gs where
 z56:z56.Q
 z5b:z5b.Q
def ents(G:Gs):Td Ent:=[z56.ent G.z56,z5b.ent G.z5b]
def b2{R:Type}(G:Gs)(n:Nat)(h d a b:Int)(h0:LT)(j:Int->Int->LT->Y R)(t:Int->LT->Y R):Y R:=bif decide (b<=h)then((G.z56 h0 a b).bind λr=>j b (wr (b+d)) r)else t a h0
variable{R:Type}(G:Gs)(n:Nat)
def l2(m:Nat)(h d a b:Int)(h0:LT)(j:Int->LT->Y R):Y R:=aY (λ(v:Int×Int×LT) t=>b2 G n h d v.1 v.2.1 v.2.2 (λw y A=>t (w,y,A)) j) m (a,b,h0)
def b9{R:Type}(G:Gs)(n:Nat)(h d a b:Int)(h0:LT)(j:Int->Int->LT->Y R)(t:Int->LT->Y R):Y R:=bif decide (b<=h)then((G.z5b h0 a (wr (a+d)) b).bind λr=>j b (wr (b+(wr (2*d)))) r)else t a h0
def l9(m:Nat)(h d a b:Int)(h0:LT)(j:Int->LT->Y R):Y R:=aY (λ(v:Int×Int×LT) t=>b9 G n h d v.1 v.2.1 v.2.2 (λw y A=>t (w,y,A)) j) m (a,b,h0)
def b7(j d:Int)(h0:LT)(v:Int->LT->Y R)(w:LT->Y R):Y R:=bif decide (d<j)then(l9 G n n j d 0 (wr (2*d)) h0 (λt h=>bif decide ((wr (t+d))<j)then((G.z5b h t (wr (t+d)) j).bind λr=>v (wr (d*2)) r)else v (wr (d*2)) h))else w h0
def l7(m:Nat)(h d:Int)(h0:LT)(j:LT->Y R):Y R:=aY (λ(v:Int×LT) t=>b7 G n h v.1 v.2 (λw y=>t (w,y)) j) m (d,h0)
def aq(data:LT)(h:Int)(K:LT->Y R):Y R:=l2 G n n h 20 0 20 data (λt j=>(G.z56 j t h).bind λr=>l7 G n n h 20 r (λd=>K d))
def dl2(m:Nat):=rS [0,1,2,6,7,8] [U7,Tx,U9,Tx,Tx,Tx] [TH] λR K j d a b h0=>l2 G n m j d a b h0 (λt h=>K (.exit 0) ⟨[(0,Ug),(1,Tv j),(2,UO),(6,Tv d),(7,Tv t)],UU h⟩)
def dl9(m:Nat):=rS [0,1,2,6,7,8] [U7,Tx,U9,Tx,Tx,Tx] [TH] λR K j d a b h0=>l9 G n m j d a b h0 (λt h=>K (.exit 4) ⟨[(0,Ug),(1,Tv j),(2,UO),(6,Tv d),(7,Tv t)],UU h⟩)
def dl7(m:Nat):=rS [0,1,2,6] [U7,Tx,U9,Tx] [TH] λR K j d h0=>l7 G n m j d h0 (λh=>K (.exit 2) ⟨[],UU h⟩)
def pc:Pcs:=⟨Tl 2 (dl2 G n n) (Tl 9 (dl9 G n n) (Tl 7 (dl7 G n n) nK)),nK,nK⟩
def an:Ann:=⟨63,1,[(2,[0,1,2,6,7,8]),(9,[0,1,2,6,7,8]),(7,[0,1,2,6])],[],[],[],[]⟩
abbrev bd:=aK Tryz.f168
def cG(G:Gs)(data:LT)(d:Int)(r:LT):Prop:=∃n,aq (R:=AT×Td Ob) G n data d (λr0=>some (Uf,UU r0))=some (Uf,UU r)
theorem ok{G:Gs}(d:ap (ents G)){g:Q}(t:∀data h r,g data h=some r->cG G data h r):aj (ent g):=okQ λ_ _ _ _ _ hc=>Tk hc (t _ _) λn _ j=>fF d an (pc G n) Tryz.func168 j (apl [(1,2,.loop (Tj 56 bd)),(1,7,.loop (Tj 124 bd))] ⟨Tf d n (dl2 G n) rfl (pc G n) ⟨[0,1,2,6,7],[],[(0,[0,1,2,6,7])]⟩,⟨Tf d n (dl7 G n) rfl (pc G n) ⟨[],[],[(2,[])]⟩ (apl [(1,9,.loop (Tj 7976 bd))] ⟨Tf d n (dl9 G n) rfl (pc G n) ⟨[0,1,2,6,7],[],[(2,[]),(3,[0,1,2,6]),(4,[0,1,2,6,7])]⟩,Th⟩),Th⟩⟩)
end z58
namespace z54
structure Gs where
 z58:z58.Q
def aq{R:Type}(G:Gs)(n:Nat)(x:LT)(K:LT->Y R):Y R:=(G.z58 x (List.length x:Int)).bind λr=>K r
def cG(G:Gs)(x r:LT):Prop:=∃n,aq (R:=AT×Td Ob) G n x (λr0=>some (Uf,UU r0))=some (Uf,UU r)
theorem ok{G:Gs}(d:ap [z58.ent G.z58]){g:Q}(h:∀x r,g x=some r->cG G x r):aj (ent g):=okQ λ_ _ _ _ hc=>Tk hc (h _) λ_ _ j=>fF d ⟨9,1,[],[],[],[],[]⟩ nP Tryz.func155 j
end z54
namespace z0y
structure Gs where
 z16:z16.Q
 z0x:z0x.Q
 z14:z14.Q
 z19:z19.Q
 z54:z54.Q
 z0s:z0s.Q
 z0c:z0c.Q
def ents(G:Gs):Td Ent:=[z16.ent G.z16,z0x.ent G.z0x,z14.ent G.z14,z19.ent G.z19,z54.ent G.z54,z0s.ent G.z0s,z0c.ent G.z0c]
def c12{R:Type}(G:Gs)(n:Nat)(y A B:LI)(C:LB)(D:LS)(E:LO)(op:Int)(t46:LT)(F H:Int)(h1:LM)(h2:Int)(I:Z)(J:Int)(O:LT)(h4:Z)(K:LD)(L M:Bool)(N:Int)(t:LT)(v:Int)(d:Z)(h:Int)(j:LT)(w:LM->LT->Y R):Y R:=(G.z14 y A B C D E h1 op (Tm.mk v d h j)).bind λr=>bif !r.1 then((lim (t++[(Tm.mk v d h j)])).bind λzs=>w r.2 zs)else w r.2 t
variable{R:Type}(G:Gs)(n:Nat)
def b6(E F H:LI)(I:LB)(J:LS)(K:LO)(op:Int)(t46:LT)(h h2:Int)(t:Z)(v:Int)(P:LT)(h4:Z)(w:LD)(j y:Bool)(A d:Int)(h1:LM)(L:LT)(M:Int->LM->LT->Y R)(Q:Bool->LM->Int->Z->Int->LT->Y R)(k1:LM->LT->Y R):Y R:=bif decide (d<h)then((ix t46 d).bind λe=>(G.z16 E F H I J K h1 (Tm.mk e.op e.ah e.am e.ae)).bind λr=>(G.z0x E F H I J K r.2 op d).bind λB=>bif !decide (r.1=B.1)then(Q false B.2 0 ByteArray.empty 0 [])else bif j then(bif decide (e.op=op)then((lim (L++e.ae)).bind λzs=>M (wr (d+1)) B.2 zs)else c12 G n E F H I J K op t46 h d B.2 h2 t v P h4 w j y A L e.op e.ah e.am e.ae (λN O=>M (wr (d+1)) N O))else c12 G n E F H I J K op t46 h d B.2 h2 t v P h4 w j y A L e.op e.ah e.am e.ae (λC D=>M (wr (d+1)) C D))else k1 h1 L
def l6(m:Nat)(C D E:LI)(F:LB)(H:LS)(I:LO)(op:Int)(t46:LT)(d h2:Int)(h:Z)(j:Int)(J:LT)(h4:Z)(t:LD)(w y:Bool)(A B:Int)(h1:LM)(K:LT)(L:Bool->LM->Int->Z->Int->LT->Y R)(k1:LM->LT->Y R):Y R:=aY (λ(v:Int×LM×LT) M=>b6 G n C D E F H I op t46 d h2 h j J h4 t w y A v.1 v.2.1 v.2.2 (λN O P=>M (N,O,P)) L k1) m (B,h1,K)
def c21{R:Type}(G:Gs)(n:Nat)(E F H:LI)(I:LB)(J:LS)(K:LO)(op:Int)(h1:LM)(h2:Int)(t:Z)(v:Int)(L:LT)(h4:Z)(w:LD)(j y:Bool)(A:Int)(d:LT)(h:Bool->Int->Z->Int->LT->Y R):Y R:=bif j then(bif decide (7<(List.length d:Int))then(h false 0 ByteArray.empty 0 [])else(G.z0s (Tm.mk op ByteArray.empty 0 d)).bind λr=>bif decide (60<r)then(h false 0 ByteArray.empty 0 [])else(G.z0c (Tm.mk op ByteArray.empty 0 d)).bind λB=>bif decide (20<B)then(h false 0 ByteArray.empty 0 [])else h true op ByteArray.empty 0 d)else(G.z0s (Tm.mk op ByteArray.empty 0 d)).bind λC=>bif decide (60<C)then(h false 0 ByteArray.empty 0 [])else(G.z0c (Tm.mk op ByteArray.empty 0 d)).bind λD=>bif decide (20<D)then(h false 0 ByteArray.empty 0 [])else h true op ByteArray.empty 0 d
def c19(I J K:LI)(L:LB)(M:LS)(N:LO)(op:Int)(h1:LM)(h2:Int)(h:Z)(j:Int)(O:LT)(h4:Z)(t:LD)(v d:Bool)(w:Int)(P:LT)(Q:Bool->Int->Z->Int->LT->Y R):Y R:=bif d then((G.z54 P).bind λr=>c21 G n I J K L M N op h1 h2 h j O h4 t v d w r (λS D E F H=>Q S D E F H))else c21 G n I J K L M N op h1 h2 h j O h4 t v d w P (λt72 y A B C=>Q t72 y A B C)
def c4(L M N:LI)(O:LB)(P:LS)(Q:LO)(op:Int)(ae:LT)(h1:LM)(h2:Int)(t:Z)(v:Int)(S:LT)(h4:Z)(w:LD)(y A:Bool)(j:Int)(B:Bool->LM->Int->Z->Int->LT->Y R):Y R:=l6 G n n L M N O P Q op ae (List.length ae:Int) h2 t v S h4 w y A j 0 h1 [] (λt7 T U V W X=>B t7 T U V W X) (λd h=>bif !decide (j=0)then(bif decide ((List.length h:Int)<2)then(bif decide ((List.length h:Int)=1)then((ix h 0).bind λe=>B true d e.op e.ah e.am e.ae)else(G.z19 L M N O P Q d op).bind λr=>B true r.2 r.1.op r.1.ah r.1.am r.1.ae)else c19 G n L M N O P Q op d h2 t v S h4 w y A j h (λt72 C D E F=>B t72 d C D E F))else c19 G n L M N O P Q op d h2 t v S h4 w y A j h (λt73 H I J K=>B t73 d H I J K))
def aq(M N O:LI)(P:LB)(Q:LS)(h:LO)(d:LM)(op:Int)(ae:LT)(K:Tm->Bool->LM->Y R):Y R:=(ix h op).bind λe=>bif e.aE then(bif decide ((List.length ae:Int)<2)then(K (Tm.mk 0 ByteArray.empty 0 []) false d)else bif !e.aE then((ix e.aJ 0).bind λe2=>bif !decide ((List.length ae:Int)=(List.length e2.ae:Int))then(K (Tm.mk 0 ByteArray.empty 0 []) false d)else c4 G n M N O P Q h op ae d 0 ByteArray.empty 0 [] e.ah e.aJ e.aE e.comm e.aO (λt7 S T U V W=>K (Tm.mk T U V W) t7 S))else c4 G n M N O P Q h op ae d 0 ByteArray.empty 0 [] e.ah e.aJ e.aE e.comm e.aO (λt72 j t v w y=>K (Tm.mk t v w y) t72 j))else bif !e.aE then((ix e.aJ 0).bind λe3=>bif !decide ((List.length ae:Int)=(List.length e3.ae:Int))then(K (Tm.mk 0 ByteArray.empty 0 []) false d)else c4 G n M N O P Q h op ae d 0 ByteArray.empty 0 [] e.ah e.aJ e.aE e.comm e.aO (λX A B C D E=>K (Tm.mk B C D E) X A))else c4 G n M N O P Q h op ae d 0 ByteArray.empty 0 [] e.ah e.aJ e.aE e.comm e.aO (λZ F H I J L=>K (Tm.mk H I J L) Z F)
def dc12:=rS [0,1,6,8,9,11,46,47,48] [Tw,Tx,U1,Uq,Vd,.x (.p 6 0),TL,Tx,Tx] [Tr,.m .i,Uh,TH,TD,TH,TJ] λR K op t46 d h H I J L M N h1 h2 j t O h4 v w y A P Q B C D=>c12 G n H I J L M N op t46 d h h1 h2 j t O h4 v w y A P Q B C D (λE F=>K .normal ⟨[(0,TF),(1,Tv op),(6,Ua),(8,V0),(9,.one (.o 5)),(46,TO t46),(47,Tv d),(48,Tv h)],[Tn H I J L M N,Uz E,UX h2 j t,Tz O,TV h4 v w y A,Tz F]⟩)
def dl6(m:Nat):=rS [0,1,6,8,9,46,47,48] [Tw,Tx,U1,Uq,Vd,TL,Tx,Tx] [Tr,.m .i,Uh,TH,TD,TH] λR K op t46 A B C D E F H I h1 h2 h j P h4 t v w y Q=>l6 G n m C D E F H I op t46 A h2 h j P h4 t v w y B h1 Q (λS d J L M N=>K .ret ⟨[(6,Ua),(7,Tp S)],[Tn C D E F H I,Uz d,TC J L M N]⟩) (λd O=>K (.exit 0) ⟨[(0,TF),(1,Tv op),(6,Ua),(8,V0),(9,.one (.o 5))],[Tn C D E F H I,Uz d,UX h2 h j,Tz P,TV h4 t v w y,Tz O]⟩)
def w8:=rS [1,6,8,9] [Tx,U1,Uq,Vd] [Tr,.m .i,Uh,TH,TD,TH] λR K op D E F H I J h1 h2 d h L h4 j t v w M=>c21 G n D E F H I J op h1 h2 d h L h4 j t v w M (λN y A B C=>K .ret ⟨[(6,Ua),(7,Tp N)],[Tn D E F H I J,Uz h1,TC y A B C]⟩)
def FU:=rS [1,6,8,9] [Tx,U1,Uq,Vd] [Tr,.m .i,Uh,TH,TD,TH] λR K op D E F H I J h1 h2 d h L h4 j t v w M=>c19 G n D E F H I J op h1 h2 d h L h4 j t v w M (λN y A B C=>K .ret ⟨[(6,Ua),(7,Tp N)],[Tn D E F H I J,Uz h1,TC y A B C]⟩)
def dc4:=rS [0,1,2,6,8] [Tw,Tx,TL,U1,Uq] [Tr,.m .i,Uh,TH,TD] λR K op ae E F H I J L h1 h2 d h M h4 j t v w=>c4 G n E F H I J L op ae h1 h2 d h M h4 j t v w (λN y A B C D=>K .ret ⟨[(6,Ua),(7,Tp N)],[Tn E F H I J L,Uz y,TC A B C D]⟩)
def pc:Pcs:=⟨Tl 6 (dl6 G n n) nK,Tl 12 (dc12 G n) (Tl 21 (w8 G n) (Tl 19 (FU G n) (Tl 4 (dc4 G n) nK))),nK⟩
def an:Ann:=⟨129,2,[(6,[0,1,6,8,9,46,47,48])],[(12,[0,1,6,8,9,11,46,47,48]),(21,[1,6,8,9]),(19,[1,6,8,9]),(4,[0,1,2,6,8])],[6,7],[],[44,61,108,127]⟩
abbrev bd:=aK Tryz.f139
theorem ok{G:Gs}(A:ap (ents G)){g:Q}(C:∀d h t v w y B op ae r,g d h t v w y B op ae=some r->∃n,aq (R:=AT×Td Ob) G n d h t v w y B op ae (λr0 D E=>some (Ui r0 D,TN d h t v w y E))=some (Ui r.1 r.2.1,TN d h t v w y r.2.2)):aj (ent g):=okQ λ_ _ _ _ _ _ _ _ _ _ _ _ hc=>Tk hc (C _ _ _ _ _ _ _ _ _) λn _ j=>fF A an (pc G n) Tryz.func139 j (apl [(0,4,Tj 15 bd)] ⟨Tg A (dc4 G n) rfl (pc G n) ⟨[],[6,7],[]⟩ (apl [(1,6,.loop (Tj 500 bd)),(0,19,Tj 127 bd)] ⟨Tf A n (dl6 G n) rfl (pc G n) ⟨[0,1,6,8,9],[6,7],[(0,[0,1,6,8,9])]⟩ (apl [(0,12,Tj 256411 bd)] ⟨Tg A (dc12 G n) rfl (pc G n) ⟨[0,1,6,8,9,46,47,48],[6,7],[(0,[0,1,6,8,9]),(1,[0,1,6,8,9,46,47,48]),(2,[0,1,6,8,9,46,47,48])]⟩,Th⟩),⟨Tg A (FU G n) rfl (pc G n) ⟨[],[6,7],[]⟩ (apl [(0,21,Tj 255 bd)] ⟨Tg A (w8 G n) rfl (pc G n) ⟨[],[6,7],[]⟩,Th⟩),Th⟩⟩),Th⟩)
end z0y
end
end
section
open Classical
theorem lG{S A R:Type}(μ:S->Nat)(B:(A->Y R)->S->(S->Y R)->Y R)(Q:S->Prop)(Fin:A->Prop)(hs:∀s,Q s->(∃a,Fin a/\∀d h,B d s h=d a)\/(∃s',Q s'/\μ s'<μ s/\∀d h,B d s h=h s')):∀m s,Q s->μ s<m->∃a,Fin a/\∀d,aY (B d) m s=d a
 |0,s,_,hm=>absurd hm (OM _)
 | m+1,s,j,hm=>by
  obtain⟨a,h1,h2⟩|⟨s',h1,h0,h2⟩:=hs s j
  .exact⟨a,h1,λd=>h2 d (λv=>aY (B d) m v)⟩
  .obtain⟨a,t,h4⟩:=lG μ B Q Fin hs m s' h1 A0;exact⟨a,t,λd=>(h2 d (λv=>aY (B d) m v)).trans (h4 d)⟩
section
variable {α:Type}{i a b:Int}{h:Td Tm}
noncomputable def oI(P:α->Prop):Y α:=if h:∃r,P r then some h.choose else none
theorem gG{P:α->Prop}{r:α}(h:oI P=some r):P r:=by
 unfold oI at h;split at h
 .grind
 .cases h
theorem jX{P:α->Prop}(h:∃r,P r):∃r,oI P=some r/\P r:=⟨h.choose,dif_pos h,h.choose_spec⟩
theorem DC{k:Int}(h0:0<=k)(h1:k<9223372036854775808):IntKind.wrap .u64 k=k:=by
 show k%18446744073709551616=k;exact Int.emod_eq_of_lt h0 A0
theorem nF{j:Int}(h0:0<=i+j)(h1:i+j<4611686018427387904):(bif decide ((0:Nat)<=1)then some (Abs.bz .shr .u64 (IntKind.wrap .u64 (wr (i+j))) 1)else none)=some ((i+j) / 2):=by
 rw[aX A0,DC h0 A0];show some ((i+j).fdiv (2^1))=_;rw[Qs _ A3];rfl
def cI(h r:Td Tm):Prop:=r.length=h.length/\∀x∈r,x∈h
theorem cI.refl(h:Td Tm):cI h h:=⟨rfl,λ_ h=>h⟩
theorem cI.trans{a b c:Td Tm}(h:cI a b)(k:cI b c):cI a c:=⟨k.1.trans h.1,λx d=>h.2 x (k.2 x d)⟩
theorem cI.set{r:Td Tm}(k:cI h r){i:Nat}{x:Tm}(d:x∈h):cI h (r.set i x):=⟨by simp[k.1],λy j=>by
 rcases PH j with h|rfl
 .exact k.2 y h
 .exact d⟩
theorem dm(h0:0<=i)(h1:i<h.length):∃x,ix h i=some x/\x∈h:=by
 obtain⟨x,d,j,_⟩:=gz h0 h1;exact⟨x,d,j⟩
abbrev OUT:Td Tm->Y (AT×Td Ob):=λr0=>some (.tup [],[.row (.n 1) 0 r0])
noncomputable def pb:Td Tm->Int->Int->Int->Y (Td Tm):=λh a b n=>oI λr=>cI h r/\z5a.cG ⟨()⟩ h a b n r
theorem ww:aj (z5a.ent pb):=z5a.ok (G:=⟨()⟩) trivial λ_ _ _ _ _ d=>(gG d).2
theorem vO{n:Int}(M:0<=a)(N:0<=b)(h0:0<=n)(h1:a+n<=h.length)(h2:b+n<=h.length)(hl:h.length<=4294967296):∃r,pb h a b n=some r/\cI h r:=by
 suffices D:∃r,cI h r/\z5a.cG ⟨()⟩ h a b n r by
  obtain⟨r,j,t,O⟩:=jX D;exact⟨r,j,t⟩
 obtain⟨r,j,t⟩:=lG (R:=AT×Td Ob) (A:=Td Tm) (λv:Int×Td Tm=>(n-v.1).toNat) (λw v B=>z5a.b1 ⟨()⟩ (n.toNat+1) a b n v.1 v.2 (λE C=>B (E,C)) w) (λv=>0<=v.1/\v.1<=n/\cI h v.2) (cI h) (by
  rintro⟨i,g⟩ ⟨F,G,d⟩;simp only at F G d ⊢;have H:=d.1;by_cases hi:i<n
  .refine .inr ?_;obtain⟨x,I,J⟩:=dm (h:=g) (i:=b+i) A0 A0;obtain⟨y,C,K⟩:=dm (h:=g) (i:=a+i) A0 A0;obtain⟨z,L,P⟩:=dm (h:=g.set (a+i).toNat x) (i:=b+i) A0 A4;refine⟨(i+1,(g.set (a+i).toNat x).set (b+i).toNat y),⟨D2,D2,(d.set (d.2 x J)).set (d.2 y K)⟩,D2,λw B=> ?_⟩;unfold z5a.b1;rw[dT hi,cT,aX (x:=b+i) A0,aX (x:=a+i) A0,I,bS,C,bS,bS,Tm.eta,Tm.eta,L,bS,aX (x:=i+1) A0]
  .refine .inl ⟨g,d,λw B=> ?_⟩;unfold z5a.b1;rw[dF hi,cF]) (n.toNat+1) (0,h) ⟨A1,h0,.refl h⟩ A1
 exact⟨r,j,n.toNat+1,t _⟩
noncomputable def Ji:Td Tm->Int->Int->Int->Y (Td Tm):=λh a m b=>oI λr=>cI h r/\z57.cG ⟨pb⟩ h a m b r
theorem Ez:aj (z57.ent Ji):=z57.ok (G:=⟨pb⟩) ⟨ww,trivial⟩ λ_ _ _ _ _ d=>(gG d).2
theorem EC{m:Int}(S:0<=a)(h1:a<m)(h2:m<b)(T:b<=h.length)(hl:h.length<=4294967296):∃r,Ji h a m b=some r/\cI h r:=by
 suffices L:∃r,cI h r/\z57.cG ⟨pb⟩ h a m b r by
  obtain⟨r,B,t,I⟩:=jX L;exact⟨r,B,t⟩
 obtain⟨⟨i,g⟩,⟨C,D,M,d⟩,t⟩:=lG (R:=AT×Td Ob) (A:=Int×Td Tm) (λv:Int×Int×Td Tm=>(v.1+v.2.1).toNat) (λF v G=>z57.b2 ⟨pb⟩ ((b-a).toNat+1) m v.1 v.2.1 v.2.2 (λN O P=>G (N,O,P)) (λx y=>F (x,y))) (λv=>0<v.1/\0<v.2.1/\v.1<=m-a/\v.2.1<=b-m/\cI h v.2.2) (λv=>0<v.1/\v.1<=m-a/\v.1<=b-m/\cI h v.2) (by
  rintro⟨i,j,g⟩ ⟨C,J,D,K,d⟩;simp only at C J D K d ⊢;have H:=d.1;by_cases w:i=j
  .refine .inl ⟨(i,g),⟨C,D,D2,d⟩,λF G=> ?_⟩;unfold z57.b2;rw[dT w,O4,cF]
  .refine .inr ?_;by_cases E:j<i
   .obtain⟨r,B,t⟩:=vO (h:=g) (a:=m-i) (b:=m) (n:=j) A0 A0 A0 A0 A0 A0;refine⟨(i-j,j,r),⟨D2,J,D2,K,d.trans t⟩,D2,λF G=> ?_⟩;unfold z57.b2;rw[dF w,OS,cT,dT E,cT,aX (x:=m-i) A0];show Option.bind (pb g (m-i) m j) _=_;rw[B,bS,aX (x:=i-j) A0]
   .obtain⟨r,B,t⟩:=vO (h:=g) (a:=m-i) (b:=m+j-i) (n:=i) A0 A0 A0 A0 A0 A0;refine⟨(i,j-i,r),⟨C,D2,D,D2,d.trans t⟩,D2,λF G=> ?_⟩;unfold z57.b2;rw[dF w,OS,cT,dF E,cF,aX (x:=m-i) A0,aX (x:=m+j) A0,aX (x:=m+j-i) A0];show Option.bind (pb g (m-i) (m+j-i) i) _=_;rw[B,bS,aX (x:=j-i) A0]) ((b-a).toNat+1) (m-a,b-m,h) ⟨D2,D2,A1,A1,.refl h⟩ D2
 simp only at C D M d;have H:=d.1;obtain⟨r,I,Q⟩:=vO (h:=g) (a:=m-i) (b:=m) (n:=i) A0 A0 A0 A0 A0 A0;refine⟨r,d.trans Q,(b-a).toNat+1,?_⟩;unfold z57.aq;rw[aX (x:=m-a) A0,aX (x:=b-m) A0];refine(t (λv=>Option.bind (pb v.2 (wr (m-v.1)) m v.1) λr=>OUT r)).trans ?_;rw[aX (x:=m-i) A0,I,bS]
end
theorem Aw{R:Type}(B:(Int->Y R)->Int×Int->(Int×Int->Y R)->Y R)(lo hi:Int)
  (A:∀i j,lo<=i->i<j->j<=hi->(∀d t,B d (i,j) t=t ((i+j) / 2+1,j))\/(∀d t,B d (i,j) t=t (i,(i+j) / 2))) (he:∀i j,¬i<j->∀d t,B d (i,j) t=d i) (m:Nat) (i j:Int) (h1:lo<=i) (h2:i<=j) (C:j<=hi) (hm:(j-i).toNat<m):
  ∃r,(i<=r/\r<=j)/\∀d,aY (B d) m (i,j)=d r:=by
 refine lG (λv:Int×Int=>(v.2-v.1).toNat) B (λv=>i<=v.1/\v.1<=v.2/\v.2<=j) (λr=>i<=r/\r<=j) ?_ m (i,j) ⟨Q1 _,h2,Q1 _⟩ hm;rintro⟨x,y⟩ ⟨q1,q2,q3⟩;simp only at q1 q2 q3 ⊢;by_cases w:x<y
 .refine .inr ?_;rcases A x y A0 w A0 with h|h
  .exact⟨_,⟨D2,D2,q3⟩,D2,h⟩
  .exact⟨_,⟨q1,D2,D2⟩,D2,h⟩
 .exact .inl ⟨x,⟨q1,A0⟩,he x y w⟩
noncomputable abbrev GSy(K:Nat)(g:Td Tm->Int->Int->Int->Y (Td Tm)):z5b.Gs:={z0a:=bV K,z57:=Ji,z5b:=g}
noncomputable def jN(K:Nat):Nat->Td Tm->Int->Int->Int->Y (Td Tm)
 |0=>λ_ _ _ _=>none
 |k+1=>λh a m b=>oI λr=>cI h r/\z5b.cG (GSy K (jN K k)) h a m b r
theorem qy(K:Nat)(hK:K<=4294967296):∀k,aj (z5b.ent (jN K k))
 |0=>okQ (by (repeat intro h);simp[jN]at h)
 |k+1=>z5b.ok (G:=GSy K (jN K k)) ⟨z0b K hK,Ez,qy K hK k,trivial⟩ λ_ _ _ _ _ d=>(gG d).2
section
variable {R : Type} {K : Nat} {g : Td Tm → Int → Int → Int → Y (Td Tm)} {h : Td Tm} (hK : ∀ x ∈ h, x.az < K) (hl : h.length ≤ 2147483648)
include hK hl
theorem Oi(n:Nat)(a i j:Int)(F:0<=a)(A:a<h.length)(h1:0<=i)(h2:i<=j)(G:j<=h.length)(J:h.length<n):∃r,(i<=r/\r<=j)/\∀d:Int->Y R,z5b.l3 (GSy K g) n n a h i j d=d r:=by
 refine Aw (R:=R) (λd v t=>z5b.b3 (GSy K g) n a h v.1 v.2 (λH I=>t (H,I)) d) 0 h.length ?_ ?_ n i j h1 h2 G A0
 .intro x y L w M;obtain⟨e2,C,D⟩:=dm (h:=h) (i:=(x+y) / 2) A0 A0;obtain⟨B,E,N⟩:=dm (h:=h) (i:=a) F A;by_cases hc:bR e2 B<0
  .refine .inl λd t=> ?_;unfold z5b.b3;simp only;rw[dT w,cT,nF A0 A0,bS,aX (x:=(x+y) / 2) A0,C,bS,E,bS,Tm.eta,Tm.eta];show Option.bind (bV K e2 B) _=_;unfold bV;rw[mt (hK _ D),bS,dT hc,cT,aX (x:=(x+y) / 2+1) A0]
  .refine .inr λd t=> ?_;unfold z5b.b3;simp only;rw[dT w,cT,nF A0 A0,bS,aX (x:=(x+y) / 2) A0,C,bS,E,bS,Tm.eta,Tm.eta];show Option.bind (bV K e2 B) _=_;unfold bV;rw[mt (hK _ D),bS,dF hc,cF]
 .intro x y w d t;unfold z5b.b3;simp only;rw[dF w,cF]
theorem LV(n:Nat)(a i j:Int)(F:0<=a)(A:a<h.length)(h1:0<=i)(h2:i<=j)(G:j<=h.length)(J:h.length<n):∃r,(i<=r/\r<=j)/\∀d:Int->Y R,z5b.l15 (GSy K g) n n a h i j d=d r:=by
 refine Aw (R:=R) (λd v t=>z5b.b15 (GSy K g) n a h v.1 v.2 (λH I=>t (H,I)) d) 0 h.length ?_ ?_ n i j h1 h2 G A0
 .intro x y L w M;obtain⟨B,C,N⟩:=dm (h:=h) (i:=(x+y) / 2) A0 A0;obtain⟨e2,D,E⟩:=dm (h:=h) (i:=a) F A;by_cases hc:bR e2 B<0
  .refine .inr λd t=> ?_;unfold z5b.b15;simp only;rw[dT w,cT,nF A0 A0,bS,aX (x:=(x+y) / 2) A0,D,bS,C,bS,Tm.eta,Tm.eta];show Option.bind (bV K e2 B) _=_;unfold bV;rw[mt (hK _ E),bS,dT hc,O4,cF]
  .refine .inl λd t=> ?_;unfold z5b.b15;simp only;rw[dT w,cT,nF A0 A0,bS,aX (x:=(x+y) / 2) A0,D,bS,C,bS,Tm.eta,Tm.eta];show Option.bind (bV K e2 B) _=_;unfold bV;rw[mt (hK _ E),bS,dF hc,OS,cT,aX (x:=(x+y) / 2+1) A0]
 .intro x y w d t;unfold z5b.b15;simp only;rw[dF w,cF]
theorem Nm(n:Nat)(a m b t D p i j:Int)(hp:∀c,i<=c->c<j->0<=p-c/\p-c<h.length)(H: -4294967296<=p/\p<=8589934592)(h1:0<=i)(h2:i<=j)(L:j<=h.length)(M:h.length<n):∃r,(i<=r/\r<=j)/\∀d:Int->Y R,z5b.l33 (GSy K g) n n a m b t D p h i j d=d r:=by
 refine Aw (R:=R) (λd v A=>z5b.b33 (GSy K g) n a m b t D p h v.1 v.2 (λI J=>A (I,J)) d) i j ?_ ?_ n i j (Q1 _) h2 (Q1 _) A0
 .intro x y N B O;obtain⟨C,E,P⟩:=dm (h:=h) (i:=(x+y) / 2) A0 A0;have w:=hp ((x+y) / 2) A0 A0;obtain⟨e2,F,G⟩:=dm (h:=h) (i:=p-(x+y) / 2) w.1 w.2;by_cases hc:bR e2 C<0
  .refine .inr λd A=> ?_;unfold z5b.b33;simp only;rw[dT B,cT,nF A0 A0,bS,aX (x:=(x+y) / 2) A0,aX (x:=p-(x+y) / 2) A0,F,bS,E,bS,Tm.eta,Tm.eta];show Option.bind (bV K e2 C) _=_;unfold bV;rw[mt (hK _ G),bS,dT hc,O4,cF]
  .refine .inl λd A=> ?_;unfold z5b.b33;simp only;rw[dT B,cT,nF A0 A0,bS,aX (x:=(x+y) / 2) A0,aX (x:=p-(x+y) / 2) A0,F,bS,E,bS,Tm.eta,Tm.eta];show Option.bind (bV K e2 C) _=_;unfold bV;rw[mt (hK _ G),bS,dF hc,OS,cT,aX (x:=(x+y) / 2+1) A0]
 .intro x y B d A;unfold z5b.b33;simp only;rw[dF B,cF]
omit hK in
theorem Oa(n:Nat)(i k:Int)(h1:0<=k)(h2:i<=h.length)(C:0<=i)(t:k<=h.length)(J:h.length<n):∃r,cI h r/\∀d:Td Tm->Y R,z5b.l9 (GSy K g) n n i k h d=d r:=by
 refine lG (R:=R) (A:=Td Tm) (λv:Int×Td Tm=>(h.length-v.1).toNat) (λd v w=>z5b.b9 (GSy K g) n i v.1 v.2 (λD B=>w (D,B)) d) (λv=>0<=v.1/\v.1<=h.length/\cI h v.2) (cI h) ?_ n (k,h) ⟨h1,t,.refl h⟩ D2;rintro⟨k,f⟩ ⟨d,k1,j⟩;simp only at d k1 j ⊢;have E:=j.1;by_cases hk:k<i-1
 .obtain⟨x,F,G⟩:=dm (h:=f) (i:=k+1) A0 A0;obtain⟨y,B,H⟩:=dm (h:=f) (i:=k) A0 A0;obtain⟨z,I,L⟩:=dm (h:=f.set k.toNat x) (i:=k+1) A0 A4;refine .inr ⟨(k+1,(f.set k.toNat x).set (k+1).toNat y),⟨D2,D2,(j.set (j.2 x G)).set (j.2 y H)⟩,D2,λc0 w=> ?_⟩;unfold z5b.b9;rw[aX (x:=i-1) A0,dT hk,cT,aX (x:=k+1) A0,F,bS,B,bS,bS,Tm.eta,Tm.eta,I,bS]
 .refine .inl ⟨f,j,λc0 w=> ?_⟩;unfold z5b.b9;rw[aX (x:=i-1) A0,dF hk,cF]
omit hK in
theorem LR(n:Nat)(i k:Int)(h1:0<=i)(h2:k<h.length)(t:0<=k)(I:h.length<n):∃r,cI h r/\∀d:Td Tm->Y R,z5b.l21 (GSy K g) n n i k h d=d r:=by
 refine lG (R:=R) (A:=Td Tm) (λv:Int×Td Tm=>v.1.toNat) (λd v w=>z5b.b21 (GSy K g) n i v.1 v.2 (λC B=>w (C,B)) d) (λv=>0<=v.1/\v.1<h.length/\cI h v.2) (cI h) ?_ n (k,h) ⟨t,h2,.refl h⟩ D2;rintro⟨k,f⟩ ⟨d,k1,j⟩;simp only at d k1 j ⊢;have D:=j.1;by_cases hk:i<k
 .obtain⟨x,E,F⟩:=dm (h:=f) (i:=k-1) A0 A0;obtain⟨y,B,G⟩:=dm (h:=f) (i:=k) A0 A0;obtain⟨z,H,J⟩:=dm (h:=f.set k.toNat x) (i:=k-1) A0 A4;refine .inr ⟨(k-1,(f.set k.toNat x).set (k-1).toNat y),⟨D2,D2,(j.set (j.2 x F)).set (j.2 y G)⟩,D2,λc0 w=> ?_⟩;unfold z5b.b21;rw[dT hk,cT,aX (x:=k-1) A0,E,bS,B,bS,bS,Tm.eta,Tm.eta,H,bS]
 .refine .inl ⟨f,j,λc0 w=> ?_⟩;unfold z5b.b21;rw[dF hk,cF]
end
theorem wl{K:Nat}:∀(k:Nat)(h:Td Tm)(a m b:Int),(∀x∈h,x.az<K)->h.length<=2147483648->0<=a->a<m->m<b->b<=h.length->(b-a).toNat<k->∃r,jN K k h a m b=some r/\cI h r
 |0,_,_,_,_,_,_,_,_,_,_,hk=>absurd hk (OM _)
 | k + 1, h,a,m,b,hK,hl,G,h1,h2,J,hk=>by
  suffices H:∃r,cI h r/\z5b.cG (GSy K (jN K k)) h a m b r by
   obtain⟨r,v,y,O⟩:=jX H;exact⟨r,v,y⟩
  suffices H:∃r,cI h r/\z5b.aq (GSy K (jN K k)) (h.length+1) h a m b OUT=OUT r from H.imp λr q=>⟨q.1,_,q.2⟩
  unfold z5b.aq;rw[aX (x:=m-a) A0,aX (x:=b-m) A0];by_cases c1:m-a=1
  .obtain⟨E,L,C⟩:=Oi (R:=AT×Td Ob) (g:=jN K k) hK hl (h.length+1) a m b G A0 A0 A0 J A0;obtain⟨r,v,y⟩:=Oa (R:=AT×Td Ob) (K:=K) (g:=jN K k) hl (h.length+1) E a G A0 A0 A0 A0;exact⟨r,v,by rw[dT c1,cT,C,y]⟩
  .rw [decide_eq_false c1,cond_false];by_cases c2:b-m=1
   .obtain⟨E,L,C⟩:=LV (R:=AT×Td Ob) (g:=jN K k) hK hl (h.length+1) m a m A0 A0 G A0 A0 A0;obtain⟨r,v,y⟩:=LR (R:=AT×Td Ob) (K:=K) (g:=jN K k) hl (h.length+1) E m A0 A0 A0 A0;exact⟨r,v,by rw[dT c2,cT,C,y]⟩
   .rw [decide_eq_false c2,cond_false,nF A0 A0];simp only[bS];rw[aX (x:=(a+b) / 2) A0];obtain⟨t,F⟩:∃t,t=(a+b) / 2:=⟨_,rfl⟩;rw[<-F];have M:a<t:=A0
    have N:t<b:=A0
    rw[aX (x:=t+m) A0,aX (x:=t+m-b) A0];have c43:∀(f:Td Tm)(e:Int),cI h f->t<=e->e<=b->∃r,cI h r/\z5b.c43 (GSy K (jN K k)) (h.length+1) b t e f OUT=OUT r:=λf e B e1 e2=>by
     unfold z5b.c43;by_cases A:t<e
     .rw[dT A,cT];by_cases d2:e<b
      .obtain⟨r,v,y⟩:=wl k f t e b (λx I=>hK x (B.2 x I)) (by rw[B.1];exact hl) A0 A d2 (by rw[B.1];exact J) A0;refine⟨r,B.trans y,?_⟩;rw[dT d2,cT];show Option.bind (jN K k f t e b) _=_;rw[v,bS]
      .grind
     .grind
    have c41:∀(f:Td Tm)(s e:Int),cI h f->a<=s->s<=t->t<=e->e<=b->∃r,cI h r/\z5b.c41 (GSy K (jN K k)) (h.length+1) a b t s e f OUT=OUT r:=λf s e B s1 s2 e1 e2=>by
     unfold z5b.c41;by_cases A:a<s
     .rw[dT A,cT];by_cases d2:s<t
      .obtain⟨r,v,y⟩:=wl k f a s t (λx I=>hK x (B.2 x I)) (by rw[B.1];exact hl) G A d2 (by rw[B.1];omega) A0;obtain⟨D,q1,q2⟩:=c43 r e (B.trans y) e1 e2;refine⟨D,q1,?_⟩;rw[dT d2,cT];show Option.bind (jN K k f a s t) _=_;rw[v,bS];exact q2
      .grind
     .grind
    have c32:∀(i j:Int),a<=i->i<=j->j<=t->j<=m->t+m-i<=b->∃r,cI h r/\z5b.c32 (GSy K (jN K k)) (h.length+1) a m b t (t+m) i j h OUT=OUT r:=λi j P E Q S T=>by
     unfold z5b.c32;rw[aX (x:=t+m-1) A0];obtain⟨s,L,C⟩:=Nm (R:=AT×Td Ob) (g:=jN K k) hK hl (h.length+1) a m b t (t+m) (t+m-1) i j (λc h1 h2=>A0) A0 A0 E A0 A0;have w:wr (t+m-s)=t+m-s:=aX A0;by_cases A:s<m
     .by_cases d2:m<t+m-s
      .obtain⟨r,v,y⟩:=EC (h:=h) (a:=s) (m:=m) (b:=t+m-s) A0 A d2 A0 A0;obtain⟨D,q1,q2⟩:=c41 r s (t+m-s) y A0 A0 A0 A0;refine⟨D,q1,?_⟩;rw[C,w,dT A,cT,dT d2,cT];show Option.bind (Ji h s m (t+m-s)) _=_;rw[v,bS];exact q2
      .obtain⟨D,q1,q2⟩:=c41 h s (t+m-s) (.refl h) A0 A0 A0 A0;refine⟨D,q1,?_⟩;rw[C,w,dT A,cT,dF d2,cF];exact q2
     .obtain⟨D,q1,q2⟩:=c41 h s (t+m-s) (.refl h) A0 A0 A0 A0;refine⟨D,q1,?_⟩;rw[C,w,dF A,cF];exact q2
    by_cases d:t<m
    .rw[dT d,cT];exact c32 (t+m-b) t A0 A0 (Q1 _) A0 A0
    .grind
def ji(x:Tm)(l:Td Tm):Nat->Nat
 |0=>0
 | n+1=>match l[n]? with
  |some y=>if 0<bR y x then ji x l n else n+1
  |none=>n+1
def lT(l:Td Tm)(x:Tm):Td Tm:=l.take (ji x l l.length)++x::l.drop (ji x l l.length)
def sortT(l:Td Tm):Td Tm:=l.foldl lT []
theorem wL(x:Tm)(l:Td Tm):∀n,ji x l n<=n
 |0=>O3 _
 | n+1=>by
  unfold ji;split
  .split
   .have:=wL x l n;omega
   .omega
  .omega
theorem Ij(l:Td Tm)(x:Tm):(lT l x).length=l.length+1:=by
 have:=wL x l l.length;simp[lT];omega
section
variable {l:Td Tm}{x y:Tm}
theorem Fx:y∈lT l x↔y=x\/y∈l:=by
 unfold lT;rw[List.mem_append,OI];constructor
 .grind
 .rintro(h|h)
  .grind
  .rw[<-PB (ji x l l.length) l]at h;rcases List.mem_append.1 h with h|h
   .exact .inl h
   .grind
theorem pU:∀(xs l:Td Tm),(xs.foldl lT l).length=l.length+xs.length/\∀y,y∈xs.foldl lT l↔y∈l\/y∈xs
 |[],l=>A1
 | x::xs,l=>by
  obtain⟨h1,h2⟩:=pU xs (lT l x);refine⟨by rw[PI,h1,Ij,OP];omega,λy=> ?_⟩;rw[PI,h2,Fx,OI];constructor
  .grind
  .grind
theorem i9(l:Td Tm):(sortT l).length=l.length:=by have:=(pU l []).1;simpa [sortT]using this
theorem pE:y∈sortT l↔y∈l:=by have:=(pU l []).2 y;simpa [sortT]using this
theorem DO(l:Td Tm):cI l (sortT l):=⟨i9 l,λ_ h=>pE.1 h⟩
theorem tc{i:Nat}(h:l[i]? =some x):sortT (l.take (i+1))=lT (sortT (l.take i)) x:=Ei h
end
section
variable {R : Type}
theorem L7(K n:Nat)(list:Td Tm)(i:Nat)(x:Tm)(t:list[i]? =some x)(l:Td Tm)(hl:∀y∈l,y.az<K)(v:l.length<=2147483648)(gC:Td Tm->Y (Td Tm))(d:Int->Y R):∀m j,j<=l.length->j<m->z2t.l6 ⟨bV K,gC⟩ n m list (i:Int) l (j:Int) d=d ((ji x l j:Nat):Int):=by
 intro m
 induction m with
 |zero=>intro j _ hm;omega
 | succ m B=>
  intro j h1 hm;show z2t.b6 ⟨bV K,gC⟩ n list (i:Int) l (j:Int) (λw=>z2t.l6 ⟨bV K,gC⟩ n m list (i:Int) l w d) d=_;unfold z2t.b6;cases j with
  |zero=>rw[dF A0,cF];rfl
  | succ j=>
   obtain⟨y,h,A⟩:=bo (xs:=l) (i:=j) A0;rw[dT A0,cT,aX (x:=((j+1:Nat):Int)-1) A0,(A0:((j+1:Nat):Int)-1=(j:Int)),aW h,bS,aW t,bS,Tm.eta,Tm.eta];show Option.bind (bV K y x) _=_;unfold bV;rw[mt (hl y A),bS];unfold ji;rw[h];simp only;by_cases hc:0<bR y x
   .grind
   .grind
theorem J7(K n:Nat)(list:Td Tm)(hl:∀y∈list,y.az<K)(j:list.length<=2147483648)(C:list.length<n)(gC:Td Tm->Y (Td Tm))(d:Td Tm->Y R):∀m i,i<=list.length->list.length-i<m->z2t.l3 ⟨bV K,gC⟩ n m list (i:Int) (sortT (list.take i)) d=d (sortT list):=by
 intro m
 induction m with
 |zero=>exact T9
 | succ m t=>
  intro i h1 hm;show z2t.b3 ⟨bV K,gC⟩ n list (i:Int) (sortT (list.take i)) (λv w=>z2t.l3 ⟨bV K,gC⟩ n m list v w d) d=_;unfold z2t.b3;by_cases hi:i<list.length
  .obtain⟨x,h,D⟩:=bo hi;have A:(sortT (list.take i)).length=i:=by rw[i9,Pd];omega
   have hp:=wL x (sortT (list.take i)) (sortT (list.take i)).length;rw[bt hi,cT,L7 K n list i x h _ (λy B=>hl y (O6 (pE.1 B))) A0 gC _ n _ (O3 _) A0];have e1:uc (sortT (list.take i)) [] ((ji x (sortT (list.take i)) (sortT (list.take i)).length:Nat):Int)=some ((sortT (list.take i)).drop (ji x (sortT (list.take i)) (sortT (list.take i)).length)):=by
    unfold uc;rw[dT A0,dT A0,O7,cT,Pm,P7,cV A4]
   have e2:uS (sortT (list.take i)) ((ji x (sortT (list.take i)) (sortT (list.take i)).length:Nat):Int)=some ((sortT (list.take i)).take (ji x (sortT (list.take i)) (sortT (list.take i)).length)):=by
    unfold uS;rw[dT A0,dT A0,O7,cT,P7]
   rw[e1,bS,e2,bS,aW h,bS,Tm.eta,cV A4,bS,cV A4,bS,bw A0];have e3:(sortT (list.take i)).take (ji x (sortT (list.take i)) (sortT (list.take i)).length)++[x]++(sortT (list.take i)).drop (ji x (sortT (list.take i)) (sortT (list.take i)).length)=sortT (list.take (i+1)):=by
    rw[tc h];unfold lT;rw[O5];rfl
   rw[e3];exact t (i+1) hi A0
  .grind
end
theorem Ab(l:Td Tm)(x:Tm):aF (lT l x)=aF l+(1+x.az):=by
 have app:∀a b:Td Tm,aF (a++b)=aF a+aF b:=λa b=>by
  unfold aF;simp;omega
 unfold lT;rw[app,d9];have:=app (l.take (ji x l l.length)) (l.drop (ji x l l.length));rw[PB]at this;omega
theorem lr(l:Td Tm):aF (sortT l)=aF l:=by
 have:∀(xs l:Td Tm),aF (xs.foldl lT l)=aF l+aF xs:=λxs=>by
  induction xs with
  |nil=>intro l;rw[List.foldl_nil,ie];omega
  |cons x xs d=>intro l;rw[PI,d,Ab,d9];omega
 have:=this l [];rw[ie]at this;unfold sortT;omega
abbrev sG(k:Nat):Td Tm->Y (Td Tm):=λl=>if aF l<k/\l.length<=2147483648 then some (sortT l)else none
theorem z2u(k:Nat)(hk:k<=4294967296):aj (z2t.ent (sG k)):=z2t.ok (G:=⟨bV k,ox k⟩) ⟨z2e k hk,qu k hk,trivial⟩ λ(l:Td Tm) r h=>by
 unfold sG at h;split at h
 .rename_i hs;cases h;have hl:=ct l;refine⟨l.length+1,?_⟩;unfold z2t.aq;have e:=J7 k (l.length+1) l (λy j=>by have:=mA j;omega) hs.2 A0 (ox k) (λd=>Option.bind (ox k d) λr=>some (AT.one (.l (.n 1) r),([]:Td Ob))) (l.length+1) 0 A0 A0;refine e.trans ?_;unfold ox;rw[mt (by rw[lr];exact hs.1),bS]
 .cases h
theorem GJ(A B:Td Tm)(x y:Tm):(A++y::x::B)[A.length]? =some y/\(A++y::x::B)[A.length+1]? =some x/\((A++y::x::B).set (A.length+1) y)[A.length]? =some y/\((A++y::x::B).set (A.length+1) y).set A.length x=A++x::y::B:=by simp_all
section
variable {R : Type}
theorem MJ(K n:Nat)(a b:Int)(A:a=0)(i:Int)(x:Tm)(B:x.az<K)(l rest:Td Tm)(C:l.length+rest.length<=1073741824)(h:Td Tm->Y R):∀m j,j<=l.length->j<m->
  z56.l4 ⟨bV K⟩ n m a b i (j:Int) (l.take j++x::(l.drop j++rest)) h=h (l.take (ji x l j)++x::(l.drop (ji x l j)++rest)):=by
 subst A;intro m
 induction m with
 |zero=>intro j _ hm;omega
 | succ m D=>
  intro j h1 hm;show z56.b4 ⟨bV K⟩ n 0 b i (j:Int) (l.take j++x::(l.drop j++rest)) (λE d=>z56.l4 ⟨bV K⟩ n m 0 b i E d h) h=_;unfold z56.b4;cases j with
  |zero=>rw[dF A0,cF];rfl
  | succ j=>
   obtain⟨y,d,H⟩:=bo (xs:=l) (i:=j) A0;have hA:(l.take j).length=j:=by rw[Pd];omega
   have F:l.take (j+1)++x::(l.drop (j+1)++rest)=l.take j++y::x::(l.drop (j+1)++rest):=by rw[fW d,O5];rfl
   have G:l.take j++x::(l.drop j++rest)=l.take j++x::y::(l.drop (j+1)++rest):=by rw[bm d];rfl
   obtain⟨s1,s2,t,v⟩:=GJ (l.take j) (l.drop (j+1)++rest) x y;rw[hA]at s1 s2 t v;rw[dT A0,cT,F,aX (x:=((j+1:Nat):Int)-1) A0,(A0:((j+1:Nat):Int)-1=(j:Int)),aW s2,bS,aW s1,bS,Tm.eta,Tm.eta];show Option.bind (bV K x y) _=_;unfold bV;rw[mt B,bS];have w:=sU (y.az+1) y x (OX _);unfold ji;rw[d];simp only;by_cases hc:0<bR y x
   .rw[dT (p:=bR x y<0) A0,cT,mt hc];unfold z56.c6;rw[aX (x:=((j+1:Nat):Int)-1) A0,(A0:((j+1:Nat):Int)-1=(j:Int)),aW s1,bS,aW s2,bS,bS,Tm.eta,Tm.eta,P7,P7,aW t,bS,v,<-G];exact D j A0 A0
   .grind
theorem KZ(K n:Nat)(h:Td Tm)(hK:∀x∈h,x.az<K)(hl:h.length<=1073741824)(C:h.length<n)(d:Td Tm->Y R):∀m i,i<=h.length->h.length-i<m->
  z56.l1 ⟨bV K⟩ n m 0 (h.length:Int) (i:Int) (sortT (h.take i)++h.drop i) d=d (sortT h):=by
 intro m
 induction m with
 |zero=>exact T9
 | succ m w=>
  intro i h1 hm;show z56.b1 ⟨bV K⟩ n 0 (h.length:Int) (i:Int) (sortT (h.take i)++h.drop i) (λy A=>z56.l1 ⟨bV K⟩ n m 0 (h.length:Int) y A d) d=_;unfold z56.b1;by_cases hi:i<h.length
  .obtain⟨x,v,B⟩:=bo hi;have j:(sortT (h.take i)).length=i:=by rw[i9,Pd];omega
   have e:=MJ K n 0 (h.length:Int) rfl (i:Int) x (hK x B) (sortT (h.take i)) (h.drop (i+1)) (by rw[j,Pi];omega) (λt=>z56.l1 ⟨bV K⟩ n m 0 (h.length:Int) (wr ((i:Int)+1)) t d) n i A0 A0;rw[Pv A0,Pt A0,Pm]at e;rw[bt hi,cT,bm v,e,bw A0];have e3:(sortT (h.take i)).take (ji x (sortT (h.take i)) i)++x::((sortT (h.take i)).drop (ji x (sortT (h.take i)) i)++h.drop (i+1))=sortT (h.take (i+1))++h.drop (i+1):=by
    rw[tc v];unfold lT;rw[j,O5];rfl
   rw[e3];exact w (i+1) hi A0
  .grind
end
section
variable {K k:Nat}{h:Td Tm}{a b:Int}
theorem Nq(hK:∀x∈h,x.az<K)(hl:h.length<=1073741824)(V:0<=a)(h1:a<=b)(h2:b<=h.length):∃r,cI h r/\z56.cG ⟨bV K⟩ h a b r:=by
 have W:h.length<h.length+1:=A0
 obtain⟨r,H,I⟩:=lG (R:=AT×Td Ob) (A:=Td Tm) (λv:Int×Td Tm=>(b-v.1).toNat) (λt v w=>z56.b1 ⟨bV K⟩ (h.length+1) a b v.1 v.2 (λD B=>w (D,B)) t) (λv=>a<v.1/\v.1<=b+1/\cI h v.2) (cI h) (by
  rintro⟨i,g⟩ ⟨J,L,C⟩;simp only at J L C ⊢;have M:=C.1;by_cases hi:i<b
  .refine .inr ?_;obtain⟨f,N,O⟩:=lG (R:=AT×Td Ob) (A:=Td Tm) (λv:Int×Td Tm=>v.1.toNat) (λt v w=>z56.b4 ⟨bV K⟩ (h.length+1) a b i v.1 v.2 (λD B=>w (D,B)) t) (λv=>a<=v.1/\v.1<=i/\cI h v.2) (cI h) (by
    rintro⟨j,f⟩ ⟨P,Q,d⟩;simp only at P Q d ⊢;have S:=d.1;by_cases E:a<j
    .obtain⟨x,F,G⟩:=dm (h:=f) (i:=j) A0 A0;obtain⟨y,B,T⟩:=dm (h:=f) (i:=j-1) A0 A0;by_cases hc:bR x y<0
     .obtain⟨z,U,X⟩:=dm (h:=f.set j.toNat y) (i:=j-1) A0 A4;refine .inr ⟨(j-1,(f.set j.toNat y).set (j-1).toNat x),⟨D2,D2,(d.set (d.2 y T)).set (d.2 x G)⟩,D2,λt w=> ?_⟩;unfold z56.b4;rw[dT E,cT,F,bS,aX (x:=j-1) A0,B,bS,Tm.eta,Tm.eta];show Option.bind (bV K x y) _=_;unfold bV;rw[mt (hK x (d.2 x G)),bS,dT hc,cT];unfold z56.c6;rw[aX (x:=j-1) A0,B,bS,F,bS,bS,Tm.eta,Tm.eta,U,bS]
     .refine .inl ⟨f,d,λt w=> ?_⟩;unfold z56.b4;rw[dT E,cT,F,bS,aX (x:=j-1) A0,B,bS,Tm.eta,Tm.eta];show Option.bind (bV K x y) _=_;unfold bV;rw[mt (hK x (d.2 x G)),bS,dF hc,cF]
    .refine .inl ⟨f,d,λt w=> ?_⟩;unfold z56.b4;rw[dF E,cF]) (h.length+1) (i,g) ⟨D2,Q1 _,C⟩ D2
   refine⟨(i+1,f),⟨D2,D2,N⟩,D2,λt w=> ?_⟩;unfold z56.b1;rw[dT hi,cT];refine(O _).trans ?_;rw[aX (x:=i+1) A0]
  .refine .inl ⟨g,C,λt w=> ?_⟩;unfold z56.b1;rw[dF hi,cF]) (h.length+1) (a+1,h) ⟨D2,D2,.refl h⟩ D2
 refine⟨r,H,h.length+1,?_⟩;unfold z56.aq;rw[aX (x:=a+1) A0];exact I OUT
theorem L5(hK:∀x∈h,x.az<K)(hl:h.length<=1073741824):z56.cG ⟨bV K⟩ h 0 h.length (sortT h):=by
 refine⟨h.length+1,?_⟩;unfold z56.aq;cases h with
 |nil=>rfl
 | cons x l=>
  have e:=KZ K ((x::l).length+1) (x::l) hK hl A0 OUT ((x::l).length+1) 1 A1 Ib;have e1:sortT ((x::l).take 1)++(x::l).drop 1=x::l:=rfl;rw[e1]at e;exact e
noncomputable def FT(K:Nat):Td Tm->Int->Int->Y (Td Tm):=λh a b=>oI λr=>cI h r/\(a=0/\b=h.length->r=sortT h)/\z56.cG ⟨bV K⟩ h a b r
theorem pI(K:Nat)(hK:K<=4294967296):aj (z56.ent (FT K)):=z56.ok (G:=⟨bV K⟩) ⟨z0b K hK,trivial⟩ λ_ _ _ _ d=>(gG d).2.2
theorem B5(hK:∀x∈h,x.az<K)(hl:h.length<=1073741824)(t:0<=a)(h1:a<=b)(h2:b<=h.length):∃r,FT K h a b=some r/\cI h r/\(a=0/\b=h.length->r=sortT h):=by
 suffices v:∃r,cI h r/\(a=0/\b=h.length->r=sortT h)/\z56.cG ⟨bV K⟩ h a b r by
  obtain⟨r,d,j,w,_⟩:=jX v;exact⟨r,d,j,w⟩
 by_cases hc:a=0/\b=h.length
 .obtain⟨rfl,rfl⟩:=hc;exact⟨sortT h,DO h,λ_=>rfl,L5 hK hl⟩
 .obtain⟨r,d,j⟩:=Nq hK hl t h1 h2;exact⟨r,d,λq=>absurd q hc,j⟩
noncomputable abbrev GSt(K k:Nat):z58.Gs:={z56:=FT K,z5b:=jN K k}
noncomputable def mh(K k:Nat):Td Tm->Int->Y (Td Tm):=λh n=>oI λr=>cI h r/\(h.length<20->r=sortT h)/\z58.cG (GSt K k) h n r
theorem Eu(hK:∀x∈h,x.az<K)(hl:h.length<=1073741824)(hk:h.length<k):∃r,mh K k h h.length=some r/\cI h r/\(h.length<20->r=sortT h):=by
 suffices Y:∃r,cI h r/\(h.length<20->r=sortT h)/\z58.cG (GSt K k) h h.length r by
  obtain⟨r,B,C,U,_⟩:=jX Y;exact⟨r,B,C,U⟩
 obtain⟨⟨Z,h2⟩,⟨V,W,N,p4⟩,e2⟩:=lG (R:=AT×Td Ob) (A:=Int×Td Tm) (λv:Int×Int×Td Tm=>(h.length-v.1).toNat) (λt v j=>z58.b2 (GSt K k) (h.length+1) (h.length:Int) 20 v.1 v.2.1 v.2.2 (λE F O=>j (E,F,O)) (λx y=>t (x,y))) (λv=>0<=v.1/\v.1<=h.length/\v.2.1=v.1+20/\cI h v.2.2/\(h.length<20->v.1=0/\v.2.2=h)) (λv=>0<=v.1/\v.1<=h.length/\cI h v.2/\(h.length<20->v.1=0/\v.2=h)) (by
  rintro⟨a,b,g⟩ ⟨a0,G,P,w,H⟩;simp only at a0 G P w H ⊢;have Q:=w.1;by_cases hc:b<=h.length
  .obtain⟨r,B,C,_⟩:=B5 (K:=K) (h:=g) (a:=a) (b:=b) (λx D=>hK x (w.2 x D)) A0 a0 A0 A0;refine .inr ⟨(b,b+20,r),⟨D2,hc,rfl,w.trans C,λq=>A0⟩,D2,λt j=> ?_⟩;unfold z58.b2;rw[dT hc,cT];show Option.bind (FT K g a b) _=_;rw[B,bS,aX (x:=b+20) A0]
  .refine .inl ⟨(a,g),⟨a0,G,w,H⟩,λt j=> ?_⟩;unfold z58.b2;rw[dF hc,cF]) (h.length+1) (0,20,h) ⟨A1,A1,rfl,.refl h,λ_=>⟨rfl,rfl⟩⟩ A1
 simp only at V W N p4;have h2l:=N.1;obtain⟨r,B,C,U⟩:=B5 (K:=K) (h:=h2) (a:=Z) (b:=h.length) (λx D=>hK x (N.2 x D)) A0 V W A0;have hr:cI h r:=N.trans C;have I:h.length<20->r=sortT h:=λq=>G1
 obtain⟨f,⟨f1,f2⟩,e7⟩:=lG (R:=AT×Td Ob) (A:=Td Tm) (λv:Int×Td Tm=>(h.length-v.1).toNat) (λt v j=>z58.b7 (GSt K k) (h.length+1) (h.length:Int) v.1 v.2 (λE F=>j (E,F)) t) (λv=>20<=v.1/\v.1<=4294967296/\cI h v.2/\(h.length<20->v.2=r)) (λf=>cI h f/\(h.length<20->f=r)) (by
  rintro⟨d,g⟩ ⟨b0,b1,w,J⟩;simp only at b0 b1 w J ⊢;have Q:=w.1;by_cases hc:d<h.length
  .refine .inr ?_;obtain⟨⟨a3,g3⟩,⟨q1,q2,q3⟩,X⟩:=lG (R:=AT×Td Ob) (A:=Int×Td Tm) (λv:Int×Int×Td Tm=>(h.length-v.1).toNat) (λt v j=>z58.b9 (GSt K k) (h.length+1) (h.length:Int) d v.1 v.2.1 v.2.2 (λE F O=>j (E,F,O)) (λx y=>t (x,y))) (λv=>0<=v.1/\v.1<=h.length/\v.2.1=v.1+2*d/\cI h v.2.2) (λv=>0<=v.1/\v.1<=h.length/\cI h v.2) (by
    rintro⟨a,b,f⟩ ⟨a0,G,P,L⟩;simp only at a0 G P L ⊢;have hfl:=L.1;by_cases hd:b<=h.length
    .obtain⟨r,B,C⟩:=wl (K:=K) k f a (a+d) b (λx D=>hK x (L.2 x D)) A0 a0 A0 A0 A0 A0;refine .inr ⟨(b,b+2*d,r),⟨D2,hd,rfl,L.trans C⟩,D2,λt j=> ?_⟩;unfold z58.b9;rw[dT hd,cT,aX (x:=a+d) A0];show Option.bind (jN K k f a (a+d) b) _=_;rw[B,bS,aX (x:=2*d) A0,aX (x:=b+2*d) A0]
    .refine .inl ⟨(a,f),⟨a0,G,L⟩,λt j=> ?_⟩;unfold z58.b9;rw[dF hd,cF]) (h.length+1) (0,2*d,g) ⟨A1,A1,A1,w⟩ A1
   simp only at q1 q2 q3;have h3l:=q3.1;by_cases hd:a3+d<h.length
   .obtain⟨r',S,T⟩:=wl (K:=K) k g3 a3 (a3+d) h.length (λx D=>hK x (q3.2 x D)) A0 q1 A0 hd A0 A0;refine⟨(d*2,r'),⟨D2,D2,q3.trans T,λq=>A0⟩,D2,λt j=> ?_⟩;unfold z58.b7;rw[dT hc,cT,aX (x:=2*d) A0];refine(X (λv=>bif decide ((wr (v.1+d))<(h.length:Int))then Option.bind (jN K k v.2 v.1 (wr (v.1+d)) h.length) λr=>j (wr (d*2),r)else j (wr (d*2),v.2))).trans ?_;rw[aX (x:=a3+d) A0,dT hd,cT,S,bS,aX (x:=d*2) A0]
   .refine⟨(d*2,g3),⟨D2,D2,q3,λq=>A0⟩,D2,λt j=> ?_⟩;unfold z58.b7;rw[dT hc,cT,aX (x:=2*d) A0];refine(X (λv=>bif decide ((wr (v.1+d))<(h.length:Int))then Option.bind (jN K k v.2 v.1 (wr (v.1+d)) h.length) λr=>j (wr (d*2),r)else j (wr (d*2),v.2))).trans ?_;rw[aX (x:=a3+d) A0,dF hd,cF,aX (x:=d*2) A0]
  .refine .inl ⟨g,⟨w,J⟩,λt j=> ?_⟩;unfold z58.b7;rw[dF hc,cF]) (h.length+1) (20,r) ⟨A1,A1,hr,λ_=>rfl⟩ D2
 refine⟨f,f1,λq=>(f2 q).trans (I q),h.length+1,?_⟩;unfold z58.aq;refine(e2 (λv=>Option.bind (FT K v.2 v.1 h.length) λr=>z58.l7 (GSt K k) (h.length+1) (h.length+1) (h.length:Int) 20 r λM=>OUT M)).trans ?_;rw[B,bS];exact e7 OUT
theorem ED(K k:Nat)(hK:K<=4294967296):aj (z58.ent (mh K k)):=z58.ok (G:=GSt K k) ⟨pI K hK,qy K hK k,trivial⟩ λ_ _ _ d=>(gG d).2.2
noncomputable def gSS(K k:Nat):Td Tm->Y (Td Tm):=λh=>oI λr=>cI h r/\(h.length<20->r=sortT h)/\z54.cG ⟨mh K k⟩ h r
theorem tP(K k:Nat)(hK:K<=4294967296):aj (z54.ent (gSS K k)):=z54.ok (G:=⟨mh K k⟩) ⟨ED K k hK,trivial⟩ λ_ _ d=>(gG d).2.2
theorem LZ(hK:∀x∈h,x.az<K)(hl:h.length<=1073741824)(hk:h.length<k):∃r,gSS K k h=some r/\cI h r/\(h.length<20->r=sortT h):=by
 suffices v:∃r,cI h r/\(h.length<20->r=sortT h)/\z54.cG ⟨mh K k⟩ h r by
  obtain⟨r,d,j,t,_⟩:=jX v;exact⟨r,d,j,t⟩
 obtain⟨r,d,j,t⟩:=Eu hK hl hk;refine⟨r,j,t,1,?_⟩;unfold z54.aq;show Option.bind (mh K k h h.length) _=_;rw[d,bS]
end
theorem CZ:aj (z19.ent At):=z19.ok (G:=⟨()⟩) trivial λab be kd nm sb ops m op r h=>by
 unfold At at h;split at h
 .rename_i hs;obtain⟨o,ho,rfl⟩:=Option.map_eq_some_iff.1 h;have hk:=jL hs.1 (bZ ho).1;have d:=hk.u1;have j:ops.length<=14:=(jv hs.1).1;have:o.aO<=(ops.length:Int):=d;refine⟨1,?_⟩;unfold z19.aq unT;rw[ho,bS,aX (x:=o.aO-1) (by have:=hk.u0;omega)]
 .cases h
def hJ(o:Opr)(op:Int)(l:Td Tm)(x:Tm):Td Tm:=if o.aE=true/\x.op=op then l++x.ae else if kR o x=true then l else l++[x]
def dV(s:Sg)(o:Opr)(op:Int):Int->Td Tm->Td Tm->Y (Td Tm)
 |_,[],acc=>some acc
 |i,x::xs,acc=>if dG s x=od s o i then dV s o op (i+1) xs (hJ o op acc x)else none
def iI(o:Opr)(op:Int)(l:Td Tm):Tm:=Tm.mk op ByteArray.empty 0 (if o.comm=true then sortT l else l)
def kC(o:Opr)(l:Td Tm)(t:Tm):Y Tm:=if (o.aE=true/\7<l.length)\/60<tsz t\/20<tdp t then none else some t
def Nk(o:Opr)(l:Td Tm):Tm:=match l with
 |[x]=>x
 |_=>unT o
def gp(o:Opr)(ae:Td Tm):Prop:=if o.aE=true then 2<=ae.length else ae.length=(first o).ae.length
instance (o : Opr) (ae : Td Tm) : Decidable (gp o ae) := by unfold gp; exact inferInstance
def dH(s:Sg)(o:Opr)(op:Int)(ae:Td Tm):Y Tm:=if gp o ae then (dV s o op 0 ae []).bind λl=>if o.aO≠0/\l.length<2 then some (Nk o l)else kC o l (iI o op l)else none
theorem Cc(a b:Td Tm):aF (a++b)=aF a+aF b:=by unfold aF;simp;omega
theorem gK(o:Opr)(op:Int)(l:Td Tm)(x:Tm):aF (hJ o op l x)<=aF l+(1+x.az):=by
 unfold hJ;have d:=bu x;split
 .rw[Cc];omega
 .split
  .omega
  .rw[Cc,d9,ie];omega
theorem nj{s:Sg}{o:Opr}{op:Int}:∀{xs:Td Tm}{i:Int}{acc l:Td Tm},dV s o op i xs acc=some l->aF l<=aF acc+aF xs
 |[],_,_,_,h=>by cases h;rw[ie];omega
 | x::xs,i,acc,l,h=>by
  unfold dV at h;split at h
  .have:=nj h;have:=gK o op acc x;rw[d9];omega
  .cases h
theorem pF{s:Sg}{o:Opr}{op:Int}(d:o.aE=false):∀{xs:Td Tm}{i:Int}{acc l:Td Tm},dV s o op i xs acc=some l->l.length<=acc.length+xs.length
 |[],_,_,_,h=>by cases h;simp
 | x :: xs,i,acc,l,h=>by
  unfold dV at h;split at h
  .have:=pF d h;have:(hJ o op acc x).length<=acc.length+1:=by
    unfold hJ;rw[d,O2 A1];split
    .omega
    .simp
   simp only[OP];omega
  .cases h
section
variable {R : Type}
def KG(r:Y Tm)(d:Bool->Int->Z->Int->Td Tm->Y R):Y R:=match r with
 |some t=>d true t.op t.ah t.am t.ae
 |none=>d false 0 ByteArray.empty 0 []
end
noncomputable abbrev GB:z0y.Gs:={z16:=iC,z0x:=ng,z14:=tU,z19:=At,z54:=gSS 4294967296 (1073741824+1),z0s:=gSz 4294967296,z0c:=gDp 4294967296}
section
variable {R : Type} {kd ab be : Td Int} {nm : Td Z} {sb : Td Sb} {ops : Td Opr} {op : Int} {o : Opr} (hA : Alg kd nm sb ops) (ho : ix ops op = some o)
theorem Lv(n:Nat)(m:Mp)(h2 j:Int)(t:Z)(w:Td Tm)(o:Opr)(r:Td Tm)(A:aF r<4294967296)(h:Bool->Int->Z->Int->Td Tm->Y R):
  z0y.c21 GB n ab be kd nm sb ops op m h2 t j w o.ah o.aJ o.aE o.comm o.aO r h=KG (kC o r (Tm.mk op ByteArray.empty 0 r)) h:=by
 have v:(Tm.mk op ByteArray.empty 0 r).az<4294967296:=by
  exact Sj
 have e1:gSz 4294967296 (Tm.mk op ByteArray.empty 0 r)=some (tsz (Tm.mk op ByteArray.empty 0 r):Int):=mt v;have e2:gDp 4294967296 (Tm.mk op ByteArray.empty 0 r)=some (tdp (Tm.mk op ByteArray.empty 0 r):Int):=mt v;have tail:(Option.bind (gSz 4294967296 (Tm.mk op ByteArray.empty 0 r)) λz=>bif decide (60<z)then (h false 0 ByteArray.empty 0 [])else Option.bind (gDp 4294967296 (Tm.mk op ByteArray.empty 0 r)) λy=>bif decide (20<y)then (h false 0 ByteArray.empty 0 [])else h true op ByteArray.empty 0 r)=KG (if 60<tsz (Tm.mk op ByteArray.empty 0 r)\/20<tdp (Tm.mk op ByteArray.empty 0 r)then none else some (Tm.mk op ByteArray.empty 0 r)) h:=by
  rw[e1,bS];by_cases c1:60<tsz (Tm.mk op ByteArray.empty 0 r)
  .rw[dT A0,cT,mt (.inl c1)];rfl
  .rw[dF A0,cF,e2,bS];by_cases c2:20<tdp (Tm.mk op ByteArray.empty 0 r)
   .rw[dT A0,cT,mt (.inr c2)];rfl
   .rw[dF A0,cF,O2 A0];rfl
 unfold z0y.c21 kC;cases B:o.aE with
 | true=>
  rw[cT];by_cases c:7<r.length
  .rw[dT A0,cT,mt (.inl ⟨rfl,c⟩)];rfl
  .grind
 | false=>
  rw[cF];refine tail.trans ?_
  congr 1
  by_cases d:60<tsz (Tm.mk op ByteArray.empty 0 r)\/20<tdp (Tm.mk op ByteArray.empty 0 r)
  .grind
  .grind
theorem LE(n:Nat)(m:Mp)(h2 d:Int)(j:Z)(v:Td Tm)(o:Opr)(l:Td Tm)(hl:aF l<1073741824)(w:o.aE=false->l.length<20)(t:Bool->Int->Z->Int->Td Tm->Y R):
  z0y.c19 GB n ab be kd nm sb ops op m h2 j d v o.ah o.aJ o.aE o.comm o.aO l t=KG (kC o l (iI o op l)) t:=by
 have y:=ct l;unfold z0y.c19;cases hc:o.comm with
 | false=>
  rw[cF];have e:=Lv (R:=R) (kd:=kd) (ab:=ab) (be:=be) (nm:=nm) (sb:=sb) (ops:=ops) (op:=op) n m h2 d j v o l A0 t;rw[hc]at e;refine e.trans ?_;unfold iI;rw[hc,O2 A3]
 | true=>
  rw[cT];obtain⟨r,A,B,C⟩:=LZ (K:=4294967296) (k:=1073741824+1) (h:=l) (λx D=>by have:=mA D;omega) A0 A0;show Option.bind (gSS 4294967296 (1073741824+1) l) _=_;rw[A,bS];by_cases c:l.length<20
  .have:=C c;subst this;have e:=Lv (R:=R) (kd:=kd) (ab:=ab) (be:=be) (nm:=nm) (sb:=sb) (ops:=ops) (op:=op) n m h2 d j v o (sortT l) (by rw[lr];omega) t;rw[hc]at e;refine e.trans ?_;unfold iI kC;rw[hc,mt rfl,i9]
  .have E:o.aE=true:=by
    cases h:o.aE with
    |true=>rfl
    |false=>exact absurd (w h) c
   unfold z0y.c21 kC;rw[E,cT,dT (by have:=B.1;omega),cT,mt (.inl ⟨rfl,A0⟩)];rfl
include hA ho
theorem Nu(n:Nat)(ae:Td Tm)(M:∀a∈ae,Good ⟨⟨nm,sb⟩,ops⟩ a)(V:aF ae<1073741824)(F:gp o ae)(m:Mp)(h2 j:Int)(t:Z)(B:Td Tm)(v:Bool->Mp->Int->Z->Int->Td Tm->Y R)(k1:Mp->Td Tm->Y R):∀f i acc,i<=ae.length->aF acc+aF (ae.drop i)<1073741824->ae.length-i<f->
  z0y.l6 GB n f ab be kd nm sb ops op ae (ae.length:Int) h2 t j B o.ah o.aJ o.aE o.comm o.aO (i:Int) m acc v k1=match dV ⟨⟨nm,sb⟩,ops⟩ o op (i:Int) (ae.drop i) acc with
   |some l=>k1 m l
   |none=>v false m 0 ByteArray.empty 0 []:=by
 have hk:=jL hA.1 (bZ (xs:=ops) ho).1;have N:=ct ae;intro f
 induction f with
 |zero=>intro i _ _ _ hm;omega
 | succ f O=>
  intro i acc h1 C hm;show z0y.b6 GB n ab be kd nm sb ops op ae (ae.length:Int) h2 t j B o.ah o.aJ o.aE o.comm o.aO (i:Int) m acc (λP Q S=>z0y.l6 GB n f ab be kd nm sb ops op ae (ae.length:Int) h2 t j B o.ah o.aJ o.aE o.comm o.aO P Q S v k1) v k1=_;unfold z0y.b6;by_cases hi:i<ae.length
  .obtain⟨x,G,T⟩:=bo hi;have U:=M x T;rw[bm G,d9]at C;have H:0<=atI o (i:Int)/\atI o (i:Int)<(first o).ae.length:=by
    unfold atI gp at*;cases w:o.aE with
    |true=>have:=hk.two (.inl w);rw[mt rfl];omega
    |false=>rw[w,O2 A3]at F;rw[O2 A3];omega
   have e1:iC ab be kd nm sb ops m x=some (dG ⟨⟨nm,sb⟩,ops⟩ x,m):=mt ⟨hA,U.kn⟩;have e2:ng ab be kd nm sb ops m op (i:Int)=some (od ⟨⟨nm,sb⟩,ops⟩ o (i:Int),m):=by
    unfold ng;rw[mt ⟨hA,o,ho,H⟩,ho];rfl
   rw[bt hi,cT,aW G,bS,Tm.eta,bm G];show Option.bind (iC ab be kd nm sb ops m x) _=_;rw[e1,bS];show Option.bind (ng ab be kd nm sb ops m op (i:Int)) _=_;rw[e2,bS];unfold dV;by_cases D:dG ⟨⟨nm,sb⟩,ops⟩ x=od ⟨⟨nm,sb⟩,ops⟩ o (i:Int)
   .rw [decide_eq_true D,O4,cond_false,mt D]
    have next:∀h,h=hJ o op acc x->aF h<1073741824->z0y.l6 GB n f ab be kd nm sb ops op ae (ae.length:Int) h2 t j B o.ah o.aJ o.aE o.comm o.aO (wr ((i:Int)+1)) m h v k1=match dV ⟨⟨nm,sb⟩,ops⟩ o op ((i:Int)+1) (ae.drop (i+1)) (hJ o op acc x)with
      |some l=>k1 m l
      |none=>v false m 0 ByteArray.empty 0 []:=λh he _=>by
     subst he;have:=gK o op acc x;rw[bw A0];exact O (i+1) _ hi A0 A0
    have c12:¬(o.aE=true/\x.op=op)->z0y.c12 GB n ab be kd nm sb ops op ae (ae.length:Int) (i:Int) m h2 t j B o.ah o.aJ o.aE o.comm o.aO acc x.op x.ah x.am x.ae (λI J=>z0y.l6 GB n f ab be kd nm sb ops op ae (ae.length:Int) h2 t j B o.ah o.aJ o.aE o.comm o.aO (wr ((i:Int)+1)) I J v k1)=match dV ⟨⟨nm,sb⟩,ops⟩ o op ((i:Int)+1) (ae.drop (i+1)) (hJ o op acc x)with
      |some l=>k1 m l
      |none=>v false m 0 ByteArray.empty 0 []:=λK=>by
     unfold z0y.c12;rw[Tm.eta];have e3:tU ab be kd nm sb ops m op x=some (kR o x,m):=by
      unfold tU;rw[mt hA,ho];rfl
     show Option.bind (tU ab be kd nm sb ops m op x) _=_;rw[e3,bS];have d:hJ o op acc x=if kR o x=true then acc else acc++[x]:=O2 K;have y:=gK o op acc x;have A:=ct (hJ o op acc x);cases L:kR o x with
     | true=>
      rw[L,mt rfl]at d;exact next acc d.symm A0
     | false=>
      rw[L,O2 A3]at d;rw[d]at A y;show Option.bind (lim (acc++[x])) _=_;rw[cV A0,bS];exact next (acc++[x]) d.symm A0
    cases w:o.aE with
    | false=>
     rw[cF];have:=c12 (by rw[w];simp);rw[w]at this;exact this
    | true=>
     rw[cT];by_cases E:x.op=op
     .rw[dT E,cT];have d:hJ o op acc x=acc++x.ae:=mt ⟨w,E⟩;have y:=gK o op acc x;have A:=ct (hJ o op acc x);rw[d]at A y;rw[cV A0,bS];have:=next (acc++x.ae) d.symm A0
      rw[w]at this;exact this
     .grind
   .grind
  .obtain rfl:i=ae.length:=A0
   exact T8
theorem b_c4(n:Nat)(ae:Td Tm)(P:∀a∈ae,Good ⟨⟨nm,sb⟩,ops⟩ a)(M:aF ae<1073741824)(w:gp o ae)(T:ae.length<n)(m:Mp)(h2 j:Int)(t:Z)(A:Td Tm)(y:Bool->Mp->Int->Z->Int->Td Tm->Y R):
  z0y.c4 GB n ab be kd nm sb ops op ae m h2 t j A o.ah o.aJ o.aE o.comm o.aO y=KG (dH ⟨⟨nm,sb⟩,ops⟩ o op ae) (λQ a b c d=>y Q m a b c d):=by
 have hk:=jL hA.1 (bZ (xs:=ops) ho).1;unfold z0y.c4 dH;rw[mt w];have e:=Nu (R:=R) (ab:=ab) (be:=be) hA ho n ae P M w m h2 j t A y (fun h v=>
   bif !decide (o.aO=0)then
    (bif decide ((List.length v:Int)<2)then
     (bif decide ((List.length v:Int)=1)then
      (Option.bind (ix v 0) λe=>y true h (Tm.op e) (Tm.ah e) (Tm.am e) (Tm.ae e))
     else
      Option.bind (At ab be kd nm sb ops h op) λr=>y true r.2 (Tm.op r.1) (Tm.ah r.1) (Tm.am r.1) (Tm.ae r.1))
    else
     z0y.c19 GB n ab be kd nm sb ops op h h2 t j A o.ah o.aJ o.aE o.comm o.aO v (λt72 B C D E=>y t72 h B C D E))
   else
    z0y.c19 GB n ab be kd nm sb ops op h h2 t j A o.ah o.aJ o.aE o.comm o.aO v (λL F G H I=>y L h F G H I)) n 0 [] A0 (by simp[ie];exact M) A0
 simp only[OQ]at e;refine e.trans ?_
 show (match dV ⟨⟨nm,sb⟩,ops⟩ o op 0 ae []with
  |some l=>_
  |none=>_)=_
 cases N:dV ⟨⟨nm,sb⟩,ops⟩ o op 0 ae []with
 |none=>rfl
 | some l=>
  have S:=nj N;rw[ie]at S;have J:o.aE=false->l.length<20:=λO=>by
   have:=pF O N;unfold gp at w;rw[O,O2 A3]at w;have:=hk.fa;simp only[Qy]at*;omega
  simp only[bS];by_cases K:o.aO=0
  .rw[dT K,O4,cF,O2 (by simp[K])];exact LE (R:=R) n m h2 j t A o l A0 J _
  .rw [decide_eq_false K,OS,cond_true];by_cases hl:l.length<2
   .rw [decide_eq_true A0,cond_true,mt ⟨K,hl⟩]
    match l,hl with
    |[x],_=>rfl
    | [], _=>
     have e2:At ab be kd nm sb ops m op=some (unT o,m):=by
      unfold At;rw[mt hA,ho];rfl
     show Option.bind (At ab be kd nm sb ops m op) _=_;rw[e2];rfl
   .rw[dF A0,cF,O2 A0];exact LE (R:=R) n m h2 j t A o l A0 J _
end
theorem Ml{R:Type}{kd ab be:Td Int}{nm:Td Z}{sb:Td Sb}{ops:Td Opr}{op:Int}{o:Opr}(hA:Alg kd nm sb ops)(ho:ix ops op=some o)(ae:Td Tm)(B:∀a∈ae,Good ⟨⟨nm,sb⟩,ops⟩ a)(C:aF ae<1073741824)(m:Mp)(K:Tm->Bool->Mp->Y R):
  z0y.aq GB (ae.length+1) ab be kd nm sb ops m op ae K=K ((dH ⟨⟨nm,sb⟩,ops⟩ o op ae).getD Zt) (dH ⟨⟨nm,sb⟩,ops⟩ o op ae).isSome m:=by
 have hk:=jL hA.1 (bZ (xs:=ops) ho).1;unfold z0y.aq;rw[ho,bS];have fin:gp o ae->z0y.c4 GB (ae.length+1) ab be kd nm sb ops op ae m 0 ByteArray.empty 0 [] o.ah o.aJ o.aE o.comm o.aO (λD j v w y A=>K (Tm.mk v w y A) D j)=K ((dH ⟨⟨nm,sb⟩,ops⟩ o op ae).getD Zt) (dH ⟨⟨nm,sb⟩,ops⟩ o op ae).isSome m:=λd=>by
  rw[b_c4 hA ho (ae.length+1) ae B C d A0];cases dH ⟨⟨nm,sb⟩,ops⟩ o op ae with
  |none=>rfl
  |some t=>show K (Tm.mk t.op t.ah t.am t.ae) true m=_;rw[Tm.eta];rfl
 have bad:¬gp o ae->K Zt false m=K ((dH ⟨⟨nm,sb⟩,ops⟩ o op ae).getD Zt) (dH ⟨⟨nm,sb⟩,ops⟩ o op ae).isSome m:=λd=>by
  unfold dH;rw[O2 d];rfl
 cases h:o.aE with
 | true=>
  rw[h]at fin;rw[cT];by_cases hl:ae.length<2
  .rw[dT A0,cT];exact bad (by unfold gp;rw[h,mt rfl];omega)
  .rw[dF A0,cF,O4,cF];exact fin (by unfold gp;rw[h,mt rfl];omega)
 | false=>
  rw[h]at fin;rw[cF,OS,cT,gf hk.dl,bS];by_cases hl:ae.length=(first o).ae.length
  .rw[dT A0,O4,cF];exact fin (by unfold gp;rw[h,O2 A3];exact hl)
  .rw[dF A0,OS,cT];exact bad (by unfold gp;rw[h,O2 A3];exact hl)
noncomputable def qd:Td Int->Td Int->Td Int->Td Z->Td Sb->Td Opr->Mp->Int->Td Tm->Y (Tm×Bool×Mp):=λ_ _ kd nm sb ops m op ae=>if Alg kd nm sb ops/\(∀a∈ae,Good ⟨⟨nm,sb⟩,ops⟩ a)/\aF ae<1073741824 then (ix ops op).map (λo=>((dH ⟨⟨nm,sb⟩,ops⟩ o op ae).getD Zt,(dH ⟨⟨nm,sb⟩,ops⟩ o op ae).isSome,m))else none
theorem Fj:aj (z0y.ent qd):=z0y.ok (G:=GB) ⟨pS,tF,u9,CZ,tP 4294967296 (1073741824+1) (O3 _),z0t 4294967296 (O3 _),z0d 4294967296 (O3 _),trivial⟩ λab be kd nm sb ops m op ae r h=>by
 unfold qd at h;split at h
 .rename_i hs;obtain⟨hA,d,j⟩:=hs;obtain⟨o,ho,rfl⟩:=Option.map_eq_some_iff.1 h;refine⟨ae.length+1,(Ml (ab:=ab) (be:=be) hA ho ae d j m _).trans rfl⟩
 .cases h
def nC(o:Opr)(l:Td Tm)(t:Tm):Bool:=(!o.aE||decide (l.length<=7))&&(decide (tsz t<=60)&&decide (tdp t<=20))
def ff(s:Sg)(o:Opr)(op:Int)(ae:Td Tm):Tm×Bool:=if gp o ae then (match dV s o op 0 ae []with
 |some l=>if o.aO≠0/\l.length<2 then (Nk o l,true)else (iI o op l,nC o l (iI o op l))
 |none=>(Zt,false))else (Zt,false)
theorem vY(o:Opr)(l:Td Tm)(t:Tm):kC o l t=if nC o l t=true then some t else none:=by
 unfold kC nC;cases d:o.aE with
 | true=>
  by_cases h1:l.length<=7
  .grind
  .grind
 | false=>
  by_cases h2:tsz t<=60
  .grind
  .grind
theorem xp(s:Sg)(o:Opr)(op:Int)(ae:Td Tm):(ff s o op ae).2=(dH s o op ae).isSome/\∀t,dH s o op ae=some t->(ff s o op ae).1=t:=by
 unfold ff dH;by_cases d:gp o ae
 .rw [mt d,mt d];cases v:dV s o op 0 ae []with
  |none=>exact⟨rfl,λt h=>HC⟩
  | some l=>
   simp only[bS];by_cases j:o.aO≠0/\l.length<2
   .grind
   .rw[O2 j,O2 j,vY];cases hk:nC o l (iI o op l)with
    |true=>rw[mt rfl];exact⟨rfl,λt h=>QU⟩
    |false=>rw[O2 A3];exact⟨rfl,λt h=>HC⟩
 .grind
noncomputable abbrev GM:z4a.Gs:={z3i:=kT,z3k:=gAr,z4g:=ub,z48:=gw,z3y:=ga 4294967296,z3v:=gCp 4294967296,z2t:=sG 4294967296,z3t:=ox 4294967296,z4f:=gSm 4294967296}
def iG(o:Opr):Bool:= !decide (o.aO=0)
section
variable {R : Type} {nm : Td Z} {sb : Td Sb} {ops : Td Opr} {op : Int} {o : Opr} (hS : bD ⟨⟨nm, sb⟩, ops⟩ = true) (ho : ix ops op = some o)
include hS ho
theorem Oh(n:Nat)(ae:Td Tm)(i:Nat)(x:Tm)(E:ae[i]? =some x)(K:Good ⟨⟨nm,sb⟩,ops⟩ x)(y:0<=atI o (i:Int)/\atI o (i:Int)<(first o).ae.length)(h1 t:Int)(v:Z)(h2 acc:Td Tm)(O:aF acc+(1+x.az)<1073741824)(L:Bool->Int->Z->Int->Td Tm->Y R)(k1:Td Tm->Y R):
  z4a.c13 GM n op ae (cz nm.length sb) (iG o) (i:Int) (atI o (i:Int)) nm sb ops h1 v t h2 o.ah o.aJ o.aE o.comm o.aO (uOf o).op (uOf o).ah (uOf o).am (uOf o).ae acc L k1=if dG ⟨⟨nm,sb⟩,ops⟩ x=od ⟨⟨nm,sb⟩,ops⟩ o (i:Int)then k1 (hJ o op acc x)else L false 0 ByteArray.empty 0 []:=by
 have hk:=jL hS (bZ (xs:=ops) ho).1;obtain⟨M,N,a3⟩:=zv hk y.1 y.2;have a4:=sJ (s:=⟨⟨nm,sb⟩,ops⟩) N a3;have F:ix (cz nm.length sb) (dh (first o).ae (atI o (i:Int)))=some (od ⟨⟨nm,sb⟩,ops⟩ o (i:Int)):=a4;have A:=gK o op acc x;have B:=ct (hJ o op acc x);unfold z4a.c13;rw[aW E,bS,Tm.eta];have e1:gw ⟨⟨nm,sb⟩,ops⟩ x=some (dG ⟨⟨nm,sb⟩,ops⟩ x):=mt ⟨hS,K.kn⟩;show Option.bind (gw ⟨⟨nm,sb⟩,ops⟩ x) _=_;rw[e1,bS,gf hk.dl,bS,M,bS,F,bS];by_cases C:dG ⟨⟨nm,sb⟩,ops⟩ x=od ⟨⟨nm,sb⟩,ops⟩ o (i:Int)
 .rw [decide_eq_true C,O4,cond_false,mt C];have c17:kR o x=false->z4a.c17 GM n op ae (cz nm.length sb) (iG o) (i:Int) nm sb ops h1 v t h2 o.ah o.aJ o.aE o.comm o.aO (uOf o).op (uOf o).ah (uOf o).am (uOf o).ae acc k1=k1 (hJ o op acc x):=λh=>by
   have c15:¬(o.aE=true/\x.op=op)->z4a.c15 GM n op ae (cz nm.length sb) (iG o) (i:Int) nm sb ops h1 v t h2 o.ah o.aJ o.aE o.comm o.aO (uOf o).op (uOf o).ah (uOf o).am (uOf o).ae acc k1=k1 (hJ o op acc x):=λG=>by
    have d:hJ o op acc x=acc++[x]:=by unfold hJ;rw[O2 G,h,O2 A3]
    rw[d]at B A ⊢;unfold z4a.c15;rw[aW E,bS,Tm.eta,cV A0,bS]
   unfold z4a.c17;cases H:o.aE with
   | false=>
    rw[H]at c15;rw[cF];exact c15 A1
   | true=>
    rw[H]at c15;rw[cT,aW E,bS];by_cases j:x.op=op
    .have d:hJ o op acc x=acc++x.ae:=mt ⟨H,j⟩;rw[d]at B A ⊢;rw[dT j,cT,bS,cV A0,bS]
    .grind
  by_cases w:o.aO=0
  .have h:kR o x=false:=by unfold kR;rw[dT w];rfl
   have I:iG o=false:=by unfold iG;rw[dT w];rfl
   have c17:=c17 h;rw[I]at c17 ⊢;rw[cF];exact c17
  .obtain⟨u1,u2⟩:=Cd hS ho w K;have I:iG o=true:=by unfold iG;rw[dF w];rfl
   have D:uOf o=unT o:=O2 w;have J:x.az<4294967296:=A0
   have e3:ga 4294967296 x (unT o)=some (decide (bR x (unT o)=0)):=mt J;rw[I]at c17 ⊢;rw[cT,bS,Tm.eta,Tm.eta,D];show Option.bind (ga 4294967296 x (unT o)) _=_;rw[e3,bS];by_cases hc:bR x (unT o)=0
   .have j:=u1.1 hc;have d:hJ o op acc x=acc:=by
     unfold hJ kR;rw[O2 (u2 j),dF w,dT j];rfl
    rw[dT hc,cT,d]
   .have h:kR o x=false:=by
     unfold kR;rw[dF w,dF (λq=>hc (u1.2 q))];rfl
    rw[dF hc,cF];have:=c17 h;rw[D]at this;exact this
 .grind
theorem LW(n:Nat)(ae:Td Tm)(I:∀a∈ae,Good ⟨⟨nm,sb⟩,ops⟩ a)(Q:aF ae<1073741824)(E:gp o ae)(h1 d:Int)(h:Z)(h2:Td Tm)(j:Bool->Int->Z->Int->Td Tm->Y R)(k1:Td Tm->Y R):∀f i acc,i<=ae.length->aF acc+aF (ae.drop i)<1073741824->ae.length-i<f->
  z4a.l8 GM n f op ae (cz nm.length sb) (iG o) nm sb ops h1 h d h2 o.ah o.aJ o.aE o.comm o.aO (uOf o).op (uOf o).ah (uOf o).am (uOf o).ae (i:Int) acc j k1=match dV ⟨⟨nm,sb⟩,ops⟩ o op (i:Int) (ae.drop i) acc with
   |some l=>k1 l
   |none=>j false 0 ByteArray.empty 0 []:=by
 have hk:=jL hS (bZ (xs:=ops) ho).1;have J:=ct ae;intro f
 induction f with
 |zero=>intro i _ _ _ hm;omega
 | succ f K=>
  intro i acc L B hm;show z4a.b8 GM n op ae (cz nm.length sb) (iG o) nm sb ops h1 h d h2 o.ah o.aJ o.aE o.comm o.aO (uOf o).op (uOf o).ah (uOf o).am (uOf o).ae (i:Int) acc (λM N=>z4a.l8 GM n f op ae (cz nm.length sb) (iG o) nm sb ops h1 h d h2 o.ah o.aJ o.aE o.comm o.aO (uOf o).op (uOf o).ah (uOf o).am (uOf o).ae M N j k1) j k1=_;unfold z4a.b8;by_cases hi:i<ae.length
  .obtain⟨x,F,O⟩:=bo hi;have P:=I x O;rw[bm F,d9]at B;have G:0<=atI o (i:Int)/\atI o (i:Int)<(first o).ae.length:=by
    unfold atI gp at*;cases H:o.aE with
    |true=>have:=hk.two (.inl H);rw[mt rfl];omega
    |false=>rw[H,O2 A3]at E;rw[O2 A3];omega
   have e:=Oh (R:=R) hS ho n ae i x F P G h1 d h h2 acc A0 (λC t v w y=>j C t v w y) (λA=>z4a.l8 GM n f op ae (cz nm.length sb) (iG o) nm sb ops h1 h d h2 o.ah o.aJ o.aE o.comm o.aO (uOf o).op (uOf o).ah (uOf o).am (uOf o).ae (wr ((i:Int)+1)) A j k1);have e2:(bif o.aE then z4a.c13 GM n op ae (cz nm.length sb) (iG o) (i:Int) 0 nm sb ops h1 h d h2 o.ah o.aJ o.aE o.comm o.aO (uOf o).op (uOf o).ah (uOf o).am (uOf o).ae acc (λC t v w y=>j C t v w y) (λA=>z4a.l8 GM n f op ae (cz nm.length sb) (iG o) nm sb ops h1 h d h2 o.ah o.aJ o.aE o.comm o.aO (uOf o).op (uOf o).ah (uOf o).am (uOf o).ae (wr ((i:Int)+1)) A j k1)else z4a.c13 GM n op ae (cz nm.length sb) (iG o) (i:Int) (i:Int) nm sb ops h1 h d h2 o.ah o.aJ o.aE o.comm o.aO (uOf o).op (uOf o).ah (uOf o).am (uOf o).ae acc (λC t v w y=>j C t v w y) (λA=>z4a.l8 GM n f op ae (cz nm.length sb) (iG o) nm sb ops h1 h d h2 o.ah o.aJ o.aE o.comm o.aO (uOf o).op (uOf o).ah (uOf o).am (uOf o).ae (wr ((i:Int)+1)) A j k1))=if dG ⟨⟨nm,sb⟩,ops⟩ x=od ⟨⟨nm,sb⟩,ops⟩ o (i:Int)then z4a.l8 GM n f op ae (cz nm.length sb) (iG o) nm sb ops h1 h d h2 o.ah o.aJ o.aE o.comm o.aO (uOf o).op (uOf o).ah (uOf o).am (uOf o).ae (wr ((i:Int)+1)) (hJ o op acc x) j k1 else j false 0 ByteArray.empty 0 []:=by
    refine PV ?_ e;unfold atI;cases o.aE<;>rfl
   rw[bt hi,cT,bm F];refine e2.trans ?_;unfold dV;by_cases D:dG ⟨⟨nm,sb⟩,ops⟩ x=od ⟨⟨nm,sb⟩,ops⟩ o (i:Int)
   .have:=gK o op acc x;rw[mt D,mt D,bw A0];exact K (i+1) _ hi A0 A0
   .grind
  .obtain rfl:i=ae.length:=A0
   exact T8
omit hS ho in
theorem OD(n:Nat)(h0 d:Int)(h:Z)(h1 l:Td Tm)(hl:aF l<1073741824)(j:Bool->Z->Int->Td Tm->Y R):
  z4a.c23 GM n op l h0 h d h1 o.ah o.aJ o.aE o.comm o.aO j=j (nC o l (iI o op l)) ByteArray.empty 0 (iI o op l).ae:=by
 have t:=ct l;have c25:∀r,aF r<1073741824->r.length=l.length->z4a.c25 GM n op r h0 h d h1 o.ah o.aJ o.aE o.comm o.aO j=j (nC o l (Tm.mk op ByteArray.empty 0 r)) ByteArray.empty 0 r:=λr y v=>by
  have w:(Tm.mk op ByteArray.empty 0 r).az<4294967296:=by
   exact Sj
  have e1:gSm 4294967296 (Tm.mk op ByteArray.empty 0 r)=some (decide (tsz (Tm.mk op ByteArray.empty 0 r)<=60)&&decide (tdp (Tm.mk op ByteArray.empty 0 r)<=20)):=mt w;have e2:ox 4294967296 r=some r:=mt A0;unfold z4a.c25 nC;show Option.bind (ox 4294967296 r) _=_;rw[e2,bS];cases A:o.aE with
  | false=>
   rw[OS,cT];show Option.bind (gSm 4294967296 _) _=_;rw[e1,bS];rfl
  | true=>
   rw[O4,cF];by_cases B:l.length<=7
   .grind
   .grind
 unfold z4a.c23;cases hc:o.comm with
 | true=>
  rw[cT];have e:sG 4294967296 l=some (sortT l):=mt ⟨A0,A0⟩;show Option.bind (sG 4294967296 l) _=_;rw[e,bS];have:=c25 (sortT l) (by rw[lr];exact hl) (i9 l);rw[hc]at this;refine this.trans ?_;unfold iI;rw[hc,mt rfl]
 | false=>
  rw[cF];have:=c25 l hl rfl;rw[hc]at this;refine this.trans ?_;unfold iI;rw[hc,O2 A3]
theorem m_c5(n:Nat)(ae:Td Tm)(U:∀a∈ae,Good ⟨⟨nm,sb⟩,ops⟩ a)(S:aF ae<1073741824)(w:gp o ae)(hn:ae.length<n)(h1 d:Int)(h:Z)(h2:Td Tm)(v:Bool->Int->Z->Int->Td Tm->Y R):
  z4a.c5 GM n op ae (cz nm.length sb) nm sb ops h1 h d h2 o.ah o.aJ o.aE o.comm o.aO v=v (ff ⟨⟨nm,sb⟩,ops⟩ o op ae).2 (ff ⟨⟨nm,sb⟩,ops⟩ o op ae).1.op (ff ⟨⟨nm,sb⟩,ops⟩ o op ae).1.ah (ff ⟨⟨nm,sb⟩,ops⟩ o op ae).1.am (ff ⟨⟨nm,sb⟩,ops⟩ o op ae).1.ae:=by
 have V:ub ⟨⟨nm,sb⟩,ops⟩ op=some (uOf o,iG o):=by
  unfold ub uOf iG;rw[mt hS];show (ix ops op).map _=_;rw[ho,Pg];by_cases j:o.aO=0
  .grind
  .grind
 unfold z4a.c5;show Option.bind (ub ⟨⟨nm,sb⟩,ops⟩ op) _=_;rw[V,bS]
 have e:=LW (R:=R) hS ho n ae U S w h1 d h h2 (λW J K L M=>v W J K L M) (λt=>
   bif iG o then
    (bif decide ((List.length t:Int)=0)then (v true (uOf o).op (uOf o).ah (uOf o).am (uOf o).ae)
    else z4a.c21 GM n op (iG o) h1 h d h2 o.ah o.aJ o.aE o.comm o.aO t (λt72 A B C D=>v t72 A B C D))
   else z4a.c21 GM n op (iG o) h1 h d h2 o.ah o.aJ o.aE o.comm o.aO t (λN E F G H=>v N E F G H)) n 0 [] A0 (by simp[ie];exact S) A0
 simp only[OQ]at e;refine e.trans ?_;unfold ff;rw[mt w]
 show (match dV ⟨⟨nm,sb⟩,ops⟩ o op 0 ae []with
  |some l=>_
  |none=>_)=_
 cases T:dV ⟨⟨nm,sb⟩,ops⟩ o op 0 ae []with
 |none=>rfl
 | some l=>
  have I:=nj T;rw[ie]at I;have e3:=OD (R:=R) (op:=op) (o:=o) n h1 d h h2 l A0;simp only;by_cases j:o.aO=0
  .have O:iG o=false:=by unfold iG;rw[dT j];rfl
   rw[O,cF,O2 (by simp[j])];unfold z4a.c21;rw[cF];exact e3 _
  .have O:iG o=true:=by unfold iG;rw[dF j];rfl
   have P:uOf o=unT o:=O2 j;rw[O,cT]
   match l,T,I,e3 with
   |[],_,_,_=>rw[mt ⟨j,A1⟩,P];rfl
   | [x],_,I,_=>
    rw[mt ⟨j,A1⟩];have Q:x.az<4294967296:=by rw[d9,ie]at I;omega
    have X:gCp 4294967296 x=some x:=mt Q;show z4a.c21 GM n op true h1 h d h2 o.ah o.aJ o.aE o.comm o.aO [x] _=_;unfold z4a.c21;rw[cT];show Option.bind (gCp 4294967296 (Tm.mk x.op x.ah x.am x.ae)) _=_;rw[Tm.eta,X];rfl
   | x::y::l,_,_,e3=>
    rw[O2 A1];rw[dF Ib,cF];unfold z4a.c21;rw[cT,dF Ib,cF];exact e3 _
end
theorem MF{R:Type}{s:Sg}{op:Int}{o:Opr}(hS:bD s=true)(ho:ix s.ops op=some o)(ae:Td Tm)(A:∀a∈ae,Good s a)(B:aF ae<1073741824)(K:Tm->Bool->Y R):
  z4a.aq GM (ae.length+1) s op ae K=K (ff s o op ae).1 (ff s o op ae).2:=by
 have hk:=jL hS (bZ ho).1;have e1:kT s.ai=some (cz s.ai.ak.length s.ai.aA):=mt (pi hS);have e2:gAr o=some ((first o).ae.length:Int):=mt hk.dl;have fin:gp o ae->z4a.c5 GM (ae.length+1) op ae (cz s.ai.ak.length s.ai.aA) s.ai.ak s.ai.aA s.ops 0 ByteArray.empty 0 [] o.ah o.aJ o.aE o.comm o.aO (λy d h j t=>K (Tm.mk d h j t) y)=K (ff s o op ae).1 (ff s o op ae).2:=λv=>by
  have:=m_c5 (R:=R) (nm:=s.ai.ak) (sb:=s.ai.aA) (ops:=s.ops) hS ho (ae.length+1) ae A B v A0 0 0 ByteArray.empty [] (λy d h j t=>K (Tm.mk d h j t) y);exact this.trans (congrArg (λz=>K z _) (Tm.eta _))
 have bad:¬gp o ae->K Zt false=K (ff s o op ae).1 (ff s o op ae).2:=λv=>by
  unfold ff;rw[O2 v]
 unfold z4a.aq;rw[ho,bS];show Option.bind (kT s.ai) _=_;rw[e1,bS];show Option.bind (gAr o) _=_;rw[e2,bS];by_cases hl:ae.length=(first o).ae.length
 .rw[dT A0,O4,cF];refine fin ?_;unfold gp;cases w:o.aE with
  |true=>have:=hk.two (.inl w);rw[mt rfl];omega
  |false=>rw[O2 A3];exact hl
 .rw [decide_eq_false A0,OS,cond_true];cases w:o.aE with
  | true=>
   rw[w]at fin;rw[cT];by_cases h2:2<=ae.length
   .rw[dT A0,O4,cF];exact fin (by unfold gp;rw[w,mt rfl];exact h2)
   .rw[dF A0,OS,cT];exact bad (by unfold gp;rw[w,mt rfl];exact h2)
  | false=>
   rw[cF];exact bad (by unfold gp;rw[w,O2 A3];exact hl)
noncomputable def uP:Sg->Int->Td Tm->Y (Tm×Bool):=λs op ae=>if bD s=true/\(∀a∈ae,Good s a)/\aF ae<1073741824 then (ix s.ops op).map (λo=>ff s o op ae)else none
theorem D5:aj (z4a.ent uP):=z4a.ok (G:=GM) ⟨nD,ru,uA,qf,mH 4294967296 (O3 _),pp 4294967296 (O3 _),z2u 4294967296 (O3 _),qu 4294967296 (O3 _),sQ 4294967296 (O3 _),trivial⟩ λs op ae r h=>by
 unfold uP at h;split at h
 .rename_i hs;obtain⟨hS,d,j⟩:=hs;obtain⟨o,ho,rfl⟩:=Option.map_eq_some_iff.1 h;refine⟨ae.length+1,(MF hS ho ae d j _).trans rfl⟩
 .cases h
end
end Go.Proofs.YtkegnipofloejaaGreatDoor.Den

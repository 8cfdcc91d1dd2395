/- merged -/
import Derived.Test.YtigoabbppmdfpaaGreatZRowPE8
import Derived.Test.YtigoabbppmdfpaaGreatZRowPE14
import Derived.Test.YtigoabbppmdfpaaGreatZRowPE16

namespace Go.Proofs.YtigoabbppmdfpaaGreat.Den
open Go.RowKit
section
set_option maxRecDepth 100000
set_option linter.unusedVariables false
noncomputable section
namespace z5l
structure Gs where
 none_:Unit
def ax(_:Gs):RV Ent:=[]
def b1{R:Type}(G:Gs)(n:Nat)(a b j i:Int)(h0:LT)(nx:Int->LT->Y R)(t:LT->Y R):Y R:=bif decide (i<j)then((ix h0 (wr (b+i))).bind λd=>(ix h0 (wr (a+i))).bind λh=>(ix h0 (wr (a+i))).bind λv=>(ix (List.set h0 (Int.toNat (wr (a+i))) (Tm.mk d.op d.ae d.ag d.ac)) (wr (b+i))).bind λw=>nx (wr (i+1)) (List.set (List.set h0 (Int.toNat (wr (a+i))) (Tm.mk d.op d.ae d.ag d.ac)) (Int.toNat (wr (b+i))) (Tm.mk h.op h.ae h.ag h.ac)))else t h0
def l1{R:Type}(G:Gs)(n m:Nat)(a b d i:Int)(h0:LT)(h:LT->Y R):Y R:=aS (λ(v:Int×LT) nx=>b1 G n a b d v.1 v.2 (λj t=>nx (j,t)) h) m (i,h0)
def aq{R:Type}(G:Gs)(n:Nat)(data:LT)(a b h:Int)(K:LT->Y R):Y R:=
 l1 G n n a b h 0 data
  (λd=>K d)
def dl1(G:Gs)(n m:Nat):=rS [0,1,2,3,10] [.x (.o 0),.x .i,.x .i,.x .i,.x .i] [.r (.n 1) 0] λR K a b h i h0=>l1 G n m a b h i h0 (λd=>K (.exit 0) ⟨[],[.row (.n 1) 0 d]⟩)
def pc(G:Gs)(n:Nat):Pcs:=⟨λR id st K=>bif Nat.beq id 1 then dl1 G n n R st K else none,nK,nK⟩
def an:Ann:=⟨38,1,[(1,[0,1,2,3,10])],[],[],[(3,⟨[([0,1,2,3,8,9,10,11,12,13,14,15,16,17,18,19,20,21,4,5,6,7,22,23],[21,23],[12,13,18,19,20,22])],[21,23],[],[],[]⟩)],[]⟩
abbrev bd:=aF Tryz.f196
abbrev q1:=aJ [1,0,0] bd
theorem pl1{G:Gs}(d:am (ax G))(n:Nat):∀m,al an (.loop q1) (dl1 G n m):=lpq d (pc G n) ⟨[],[],[(0,[])]⟩
def cO(G:Gs)(data:LT)(a b d:Int)(r:LT):Prop:=∃n,aq (R:=AT×RV Ob) G n data a b d (λh=>some (.tup [],[.row (.n 1) 0 h]))=some (.tup [],[.row (.n 1) 0 r])
theorem ok{G:Gs}(d:am (ax G)){g:Q}(t:∀data a b h r,g data a b h=some r->cO G data a b h r):aj (ent g):=okQ λ_ _ _ _ _ _ _ hc=>okL hc λr j=>let⟨n,j⟩:=t _ _ _ _ _ j;fF d an (pc G n) Tryz.func196 j (apl [(1,1,.loop q1)] ⟨pl1 d n n,trivial⟩)
end z5l
namespace z5j
structure Gs where
 z5l:z5l.Q
def ax(G:Gs):RV Ent:=[z5l.ent G.z5l]
def b2{R:Type}(G:Gs)(n:Nat)(d i j:Int)(h0:LT)(nx:Int->Int->LT->Y R)(h:Int->LT->Y R):Y R:=bif !decide (i=j)then(bif decide (j<i)then((G.z5l h0 (wr (d-i)) d j).bind λr=>nx (wr (i-j)) j r)else(G.z5l h0 (wr (d-i)) (wr ((wr (d+j))-i)) i).bind λt=>nx i (wr (j-i)) t)else h i h0
def l2{R:Type}(G:Gs)(n m:Nat)(d i j:Int)(h0:LT)(h:Int->LT->Y R):Y R:=aS (λ(v:Int×Int×LT) nx=>b2 G n d v.1 v.2.1 v.2.2 (λt w y=>nx (t,w,y)) h) m (i,j,h0)
def aq{R:Type}(G:Gs)(n:Nat)(data:LT)(a d b:Int)(K:LT->Y R):Y R:=
 l2 G n n d (wr (d-a)) (wr (b-d)) data
  (fun j h=>
   (G.z5l h (wr (d-j)) d j).bind λr=>
   K r
  )
def dl2(G:Gs)(n m:Nat):=rS [0,2,4,10,11] [.x (.o 0),.x .i,.x (.f 150),.x .i,.x .i] [.r (.n 1) 0] λR K h i j h0=>l2 G n m h i j h0 (λt d=>K (.exit 0) ⟨[(0,.one (.o 0)),(2,.one (.i h)),(4,.one (.f 150 [])),(10,.one (.i t))],[.row (.n 1) 0 d]⟩)
def pc(G:Gs)(n:Nat):Pcs:=⟨λR id st K=>bif Nat.beq id 2 then dl2 G n n R st K else none,nK,nK⟩
def an:Ann:=⟨58,1,[(2,[0,2,4,10,11])],[],[],[],[]⟩
abbrev bd:=aF Tryz.f194
abbrev q2:=aJ [1,1,0,0,0] bd
theorem pl2{G:Gs}(d:am (ax G))(n:Nat):∀m,al an (.loop q2) (dl2 G n m):=lpq d (pc G n) ⟨[0,2,4,10],[],[(0,[0,2,4,10])]⟩
def cO(G:Gs)(data:LT)(a d b:Int)(r:LT):Prop:=∃n,aq (R:=AT×RV Ob) G n data a d b (λh=>some (.tup [],[.row (.n 1) 0 h]))=some (.tup [],[.row (.n 1) 0 r])
theorem ok{G:Gs}(d:am (ax G)){g:Q}(t:∀data a h b r,g data a h b=some r->cO G data a h b r):aj (ent g):=okQ λ_ _ _ _ _ _ _ hc=>okL hc λr j=>let⟨n,j⟩:=t _ _ _ _ _ j;fF d an (pc G n) Tryz.func194 j (apl [(1,2,.loop q2)] ⟨pl2 d n n,trivial⟩)
end z5j
namespace z5m
structure Gs where
 z0a:z0a.Q
 z5j:z5j.Q
 z5m:z5m.Q
def ax(G:Gs):RV Ent:=[z0a.ent G.z0a,z5j.ent G.z5j,ent G.z5m]
def b3{R:Type}(G:Gs)(n:Nat)(a:Int)(h0:LT)(i j:Int)(nx:Int->Int->Y R)(t:Int->Y R):Y R:=bif decide (i<j)then((bif decide (0<=1)then some (Abs.bi .shr .u64 (IntKind.wrap .u64 (wr (i+j))) 1)else none).bind λq=>(ix h0 (wr (q))).bind λd=>(ix h0 a).bind λh=>(G.z0a (Tm.mk d.op d.ae d.ag d.ac) (Tm.mk h.op h.ae h.ag h.ac)).bind λr=>bif decide (r<0)then(nx (wr ((wr (q))+1)) j)else nx i (wr (q)))else t i
def l3{R:Type}(G:Gs)(n m:Nat)(a:Int)(h0:LT)(i j:Int)(d:Int->Y R):Y R:=aS (λ(v:Int×Int) nx=>b3 G n a h0 v.1 v.2 (λh t=>nx (h,t)) d) m (i,j)
def b9{R:Type}(G:Gs)(n:Nat)(i k:Int)(h0:LT)(nx:Int->LT->Y R)(j:LT->Y R):Y R:=bif decide (k<(wr (i-1)))then((ix h0 (wr (k+1))).bind λd=>(ix h0 k).bind λh=>(ix h0 k).bind λt=>(ix (List.set h0 (Int.toNat k) (Tm.mk d.op d.ae d.ag d.ac)) (wr (k+1))).bind λv=>nx (wr (k+1)) (List.set (List.set h0 (Int.toNat k) (Tm.mk d.op d.ae d.ag d.ac)) (Int.toNat (wr (k+1))) (Tm.mk h.op h.ae h.ag h.ac)))else j h0
def l9{R:Type}(G:Gs)(n m:Nat)(i k:Int)(h0:LT)(d:LT->Y R):Y R:=aS (λ(v:Int×LT) nx=>b9 G n i v.1 v.2 (λh j=>nx (h,j)) d) m (k,h0)
def b15{R:Type}(G:Gs)(n:Nat)(t:Int)(h0:LT)(i j:Int)(nx:Int->Int->Y R)(v:Int->Y R):Y R:=bif decide (i<j)then((bif decide (0<=1)then some (Abs.bi .shr .u64 (IntKind.wrap .u64 (wr (i+j))) 1)else none).bind λq=>(ix h0 t).bind λd=>(ix h0 (wr (q))).bind λh=>(G.z0a (Tm.mk d.op d.ae d.ag d.ac) (Tm.mk h.op h.ae h.ag h.ac)).bind λr=>bif !(decide (r<0))then(nx (wr ((wr (q))+1)) j)else nx i (wr (q)))else v i
def l15{R:Type}(G:Gs)(n m:Nat)(d:Int)(h0:LT)(i j:Int)(h:Int->Y R):Y R:=aS (λ(v:Int×Int) nx=>b15 G n d h0 v.1 v.2 (λt w=>nx (t,w)) h) m (i,j)
def b21{R:Type}(G:Gs)(n:Nat)(i k:Int)(h0:LT)(nx:Int->LT->Y R)(j:LT->Y R):Y R:=bif decide (i<k)then((ix h0 (wr (k-1))).bind λd=>(ix h0 k).bind λh=>(ix h0 k).bind λt=>(ix (List.set h0 (Int.toNat k) (Tm.mk d.op d.ae d.ag d.ac)) (wr (k-1))).bind λv=>nx (wr (k-1)) (List.set (List.set h0 (Int.toNat k) (Tm.mk d.op d.ae d.ag d.ac)) (Int.toNat (wr (k-1))) (Tm.mk h.op h.ae h.ag h.ac)))else j h0
def l21{R:Type}(G:Gs)(n m:Nat)(i k:Int)(h0:LT)(d:LT->Y R):Y R:=aS (λ(v:Int×LT) nx=>b21 G n i v.1 v.2 (λh j=>nx (h,j)) d) m (k,h0)
def b33{R:Type}(G:Gs)(n:Nat)(a w b j y p:Int)(h0:LT)(start r:Int)(nx:Int->Int->Y R)(t:Int->Y R):Y R:=bif decide (start<r)then((bif decide (0<=1)then some (Abs.bi .shr .u64 (IntKind.wrap .u64 (wr (start+r))) 1)else none).bind λq=>(ix h0 (wr (p-(wr (q))))).bind λd=>(ix h0 (wr (q))).bind λh=>(G.z0a (Tm.mk d.op d.ae d.ag d.ac) (Tm.mk h.op h.ae h.ag h.ac)).bind λv=>bif !(decide (v<0))then(nx (wr ((wr (q))+1)) r)else nx start (wr (q)))else t start
def l33{R:Type}(G:Gs)(n m:Nat)(a h b d j p:Int)(h0:LT)(start r:Int)(t:Int->Y R):Y R:=aS (λ(v:Int×Int) nx=>b33 G n a h b d j p h0 v.1 v.2 (λw y=>nx (w,y)) t) m (start,r)
def c43{R:Type}(G:Gs)(n:Nat)(b h d:Int)(h0:LT)(j:LT->Y R):Y R:=bif decide (h<d)then(bif decide (d<b)then((G.z5m h0 h d b).bind λr=>j r)else j h0)else j h0
def c41{R:Type}(G:Gs)(n:Nat)(a b d start h:Int)(h0:LT)(v:LT->Y R):Y R:=bif decide (a<start)then(bif decide (start<d)then((G.z5m h0 a start d).bind λr=>c43 G n b d h r (λw=>v w))else c43 G n b d h h0 (λj=>v j))else c43 G n b d h h0 (λt=>v t)
def c32{R:Type}(G:Gs)(n:Nat)(a w b h j start r:Int)(h0:LT)(y:LT->Y R):Y R:=l33 G n n a w b h j (wr (j-1)) h0 start r (λd=>bif decide (d<w)then(bif decide (w<(wr (j-d)))then((G.z5j h0 d w (wr (j-d))).bind λB=>c41 G n a b h d (wr (j-d)) B (λA=>y A))else c41 G n a b h d (wr (j-d)) h0 (λt=>y t))else c41 G n a b h d (wr (j-d)) h0 (λv=>y v))
def aq{R:Type}(G:Gs)(n:Nat)(data:LT)(a d b:Int)(K:LT->Y R):Y R:=
 bif decide ((wr (d-a))=1)then
  (
  l3 G n n a data d b
   (fun y=>
    l9 G n n y a data
     (λv=>K v)
   )
  )
 else
  bif decide ((wr (b-d))=1)then
   (
   l15 G n n d data a d
    (fun w=>
     l21 G n n w d data
      (λh=>K h)
    )
   )
  else
   (bif decide (0<=1)then some (Abs.bi .shr .u64 (IntKind.wrap .u64 (wr (a+b))) 1)else none).bind λq=>
   bif decide ((wr (q))<d)then
    (
    c32 G n a d b (wr (q)) (wr ((wr (q))+d)) (wr ((wr ((wr (q))+d))-b)) (wr (q)) data
     (λj=>K j)
    )
   else
    c32 G n a d b (wr (q)) (wr ((wr (q))+d)) a d data
     (λt=>K t)
def dl3(G:Gs)(n m:Nat):=rS [0,1,4,10,11] [.x (.o 0),.x .i,.x (.f 150),.x .i,.x .i] [.r (.n 1) 0] λR K a i j h0=>l3 G n m a h0 i j (λd=>K (.exit 0) ⟨[(0,.one (.o 0)),(1,.one (.i a)),(10,.one (.i d))],[.row (.n 1) 0 h0]⟩)
def dl9(G:Gs)(n m:Nat):=rS [0,10,13] [.x (.o 0),.x .i,.x .i] [.r (.n 1) 0] λR K i k h0=>l9 G n m i k h0 (λd=>K (.exit 2) ⟨[],[.row (.n 1) 0 d]⟩)
def GK(G:Gs)(n m:Nat):=rS [0,2,4,14,15] [.x (.o 0),.x .i,.x (.f 150),.x .i,.x .i] [.r (.n 1) 0] λR K d i j h0=>l15 G n m d h0 i j (λh=>K (.exit 4) ⟨[(0,.one (.o 0)),(2,.one (.i d)),(14,.one (.i h))],[.row (.n 1) 0 h0]⟩)
def dl21(G:Gs)(n m:Nat):=rS [0,14,17] [.x (.o 0),.x .i,.x .i] [.r (.n 1) 0] λR K i k h0=>l21 G n m i k h0 (λd=>K (.exit 6) ⟨[],[.row (.n 1) 0 d]⟩)
def dl33(G:Gs)(n m:Nat):=rS [0,1,2,3,4,18,19,20,21,22] [.x (.o 0),.x .i,.x .i,.x .i,.x (.f 150),.x .i,.x .i,.x .i,.x .i,.x .i] [.r (.n 1) 0] λR K a j b h t start r p h0=>l33 G n m a j b h t p h0 start r (λd=>K (.exit 8) ⟨[(0,.one (.o 0)),(1,.one (.i a)),(2,.one (.i j)),(3,.one (.i b)),(4,.one (.f 150 [])),(18,.one (.i h)),(19,.one (.i t)),(20,.one (.i d))],[.row (.n 1) 0 h0]⟩)
def dc43(G:Gs)(n:Nat):=rS [0,3,4,18,24] [.x (.o 0),.x .i,.x (.f 150),.x .i,.x .i] [.r (.n 1) 0] λR K b h d h0=>c43 G n b h d h0 (λj=>K .normal ⟨[],[.row (.n 1) 0 j]⟩)
def dc41(G:Gs)(n:Nat):=rS [0,1,3,4,18,20,24] [.x (.o 0),.x .i,.x .i,.x (.f 150),.x .i,.x .i,.x .i] [.r (.n 1) 0] λR K a b h start d h0=>c41 G n a b h start d h0 (λj=>K .normal ⟨[],[.row (.n 1) 0 j]⟩)
def dc32(G:Gs)(n:Nat):=rS [0,1,2,3,4,18,19,20,21] [.x (.o 0),.x .i,.x .i,.x .i,.x (.f 150),.x .i,.x .i,.x .i,.x .i] [.r (.n 1) 0] λR K a j b d t start r h0=>c32 G n a j b d t start r h0 (λh=>K .normal ⟨[],[.row (.n 1) 0 h]⟩)
def pc(G:Gs)(n:Nat):Pcs:=⟨λR id st K=>bif Nat.beq id 3 then dl3 G n n R st K else bif Nat.beq id 9 then dl9 G n n R st K else bif Nat.beq id 15 then GK G n n R st K else bif Nat.beq id 21 then dl21 G n n R st K else bif Nat.beq id 33 then dl33 G n n R st K else none,λR id st K=>bif Nat.beq id 43 then dc43 G n R st K else bif Nat.beq id 41 then dc41 G n R st K else bif Nat.beq id 32 then dc32 G n R st K else none,nK⟩
def an:Ann:=⟨220,1,[(3,[0,1,4,10,11]),(9,[0,10,13]),(15,[0,2,4,14,15]),(21,[0,14,17]),(33,[0,1,2,3,4,18,19,20,21,22])],[(43,[0,3,4,18,24]),(41,[0,1,3,4,18,20,24]),(32,[0,1,2,3,4,18,19,20,21])],[],[(5,⟨[([0,1,2,3,4,5,6,7,8,9,10],[9],[])],[9],[],[0],[]⟩),(11,⟨[([0,1,5,6,7,8,9,10,11,12,13,14,15,2,3,4,16,17],[15,17],[8,9,12,13,14,16])],[15,17],[],[],[]⟩),(17,⟨[([0,1,2,3,4,5,6,7,8,9,10,11],[9],[])],[9],[],[0],[]⟩),(23,⟨[([0,1,5,6,7,8,9,10,11,12,13,14,15,2,3,4,16,17],[15,17],[8,9,12,13,14,16])],[15,17],[],[],[]⟩),(35,⟨[([0,1,2,3,4,5,6,7,8,9,10,11,12,13],[11],[])],[11],[],[0],[]⟩)],[]⟩
abbrev bd:=aF Tryz.f187
abbrev q3:=aJ [0,1,0,1,1,0,0,0] bd
abbrev q9:=aJ [0,1,0,1,1,1,0,1,0,0] bd
abbrev q15:=aJ [1,0,1,0,1,1,0,0,0] bd
abbrev q21:=aJ [1,0,1,0,1,1,1,0,1,0,0] bd
abbrev q33:=aJ [1,1,1,1,1,1,1,0,0,0] bd
abbrev q43:=aJ [1,1,1,1,1,1,1,1,1,1,1] bd
abbrev q41:=aJ [1,1,1,1,1,1,1,1,1,1] bd
abbrev q32:=aJ [1,1,1,1,1,1] bd
theorem pl3{G:Gs}(d:am (ax G))(n:Nat):∀m,al an (.loop q3) (dl3 G n m):=lpq d (pc G n) ⟨[0,1,10],[],[(0,[0,1,10])]⟩
theorem pl9{G:Gs}(d:am (ax G))(n:Nat):∀m,al an (.loop q9) (dl9 G n m):=lpq d (pc G n) ⟨[],[],[(2,[])]⟩
theorem MU{G:Gs}(d:am (ax G))(n:Nat):∀m,al an (.loop q15) (GK G n m):=lpq d (pc G n) ⟨[0,2,14],[],[(4,[0,2,14])]⟩
theorem pl21{G:Gs}(d:am (ax G))(n:Nat):∀m,al an (.loop q21) (dl21 G n m):=lpq d (pc G n) ⟨[],[],[(6,[])]⟩
theorem pl33{G:Gs}(d:am (ax G))(n:Nat):∀m,al an (.loop q33) (dl33 G n m):=lpq d (pc G n) ⟨[0,1,2,3,4,18,19,20],[],[(8,[0,1,2,3,4,18,19,20])]⟩
theorem pc43{G:Gs}(d:am (ax G)){n:Nat}:al an q43 (dc43 G n):=cpq d (pc G n) ⟨[],[],[]⟩
theorem pc41{G:Gs}(d:am (ax G)){n:Nat}:al an q41 (dc41 G n):=cpq d (pc G n) ⟨[],[],[]⟩ (apl [(0,43,q43)] ⟨pc43 d,trivial⟩)
theorem pc32{G:Gs}(d:am (ax G)){n:Nat}:al an q32 (dc32 G n):=cpq d (pc G n) ⟨[],[],[]⟩ (apl [(1,33,.loop q33),(0,41,q41)] ⟨pl33 d n n,⟨pc41 d,trivial⟩⟩)
def cO(G:Gs)(data:LT)(a d b:Int)(r:LT):Prop:=∃n,aq (R:=AT×RV Ob) G n data a d b (λh=>some (.tup [],[.row (.n 1) 0 h]))=some (.tup [],[.row (.n 1) 0 r])
theorem ok{G:Gs}(d:am (ax G)){g:Q}(t:∀data a h b r,g data a h b=some r->cO G data a h b r):aj (ent g):=okQ λ_ _ _ _ _ _ _ hc=>okL hc λr j=>let⟨n,j⟩:=t _ _ _ _ _ j;fF d an (pc G n) Tryz.func187 j (apl [(1,3,.loop q3),(1,9,.loop q9),(1,15,.loop q15),(1,21,.loop q21),(0,32,q32)] ⟨pl3 d n n,⟨pl9 d n n,⟨MU d n n,⟨pl21 d n n,⟨pc32 d,trivial⟩⟩⟩⟩⟩)
end z5m
namespace z5i
structure Gs where
 z0a:z0a.Q
def ax(G:Gs):RV Ent:=[z0a.ent G.z0a]
def c6{R:Type}(G:Gs)(n:Nat)(a b i j:Int)(h0:LT)(t:Int->LT->Y R):Y R:=(ix h0 (wr (j-1))).bind λd=>(ix h0 j).bind λh=>(ix h0 j).bind λv=>(ix (List.set h0 (Int.toNat j) (Tm.mk d.op d.ae d.ag d.ac)) (wr (j-1))).bind λw=>t (wr (j-1)) (List.set (List.set h0 (Int.toNat j) (Tm.mk d.op d.ae d.ag d.ac)) (Int.toNat (wr (j-1))) (Tm.mk h.op h.ae h.ag h.ac))
def b4{R:Type}(G:Gs)(n:Nat)(a b i j:Int)(h0:LT)(nx:Int->LT->Y R)(w:LT->Y R):Y R:=bif decide (a<j)then((ix h0 j).bind λh=>(ix h0 (wr (j-1))).bind λt=>(G.z0a (Tm.mk h.op h.ae h.ag h.ac) (Tm.mk t.op t.ae t.ag t.ac)).bind λy=>bif decide (y<0)then(c6 G n a b i j h0 (λv d=>nx v d))else w h0)else w h0
def l4{R:Type}(G:Gs)(n m:Nat)(a b i j:Int)(h0:LT)(d:LT->Y R):Y R:=aS (λ(v:Int×LT) nx=>b4 G n a b i v.1 v.2 (λh t=>nx (h,t)) d) m (j,h0)
def b1{R:Type}(G:Gs)(n:Nat)(a b i:Int)(h0:LT)(nx:Int->LT->Y R)(h:LT->Y R):Y R:=bif decide (i<b)then(l4 G n n a b i i h0 (λd=>nx (wr (i+1)) d))else h h0
def l1{R:Type}(G:Gs)(n m:Nat)(a b i:Int)(h0:LT)(d:LT->Y R):Y R:=aS (λ(v:Int×LT) nx=>b1 G n a b v.1 v.2 (λh j=>nx (h,j)) d) m (i,h0)
def aq{R:Type}(G:Gs)(n:Nat)(data:LT)(a b:Int)(K:LT->Y R):Y R:=
 l1 G n n a b (wr (a+1)) data
  (λd=>K d)
def dc6(G:Gs)(n:Nat):=rS [0,1,2,3,8,9] [.x (.o 0),.x .i,.x .i,.x (.f 150),.x .i,.x .i] [.r (.n 1) 0] λR K a b i j h0=>c6 G n a b i j h0 (λh d=>K .normal ⟨[(0,.one (.o 0)),(1,.one (.i a)),(2,.one (.i b)),(3,.one (.f 150 [])),(8,.one (.i i)),(9,.one (.i h))],[.row (.n 1) 0 d]⟩)
def dl4(G:Gs)(n m:Nat):=rS [0,1,2,3,8,9] [.x (.o 0),.x .i,.x .i,.x (.f 150),.x .i,.x .i] [.r (.n 1) 0] λR K a b i j h0=>l4 G n m a b i j h0 (λd=>K (.exit 2) ⟨[(0,.one (.o 0)),(1,.one (.i a)),(2,.one (.i b)),(3,.one (.f 150 [])),(8,.one (.i i))],[.row (.n 1) 0 d]⟩)
def dl1(G:Gs)(n m:Nat):=rS [0,1,2,3,8] [.x (.o 0),.x .i,.x .i,.x (.f 150),.x .i] [.r (.n 1) 0] λR K a b i h0=>l1 G n m a b i h0 (λd=>K (.exit 0) ⟨[],[.row (.n 1) 0 d]⟩)
def pc(G:Gs)(n:Nat):Pcs:=⟨λR id st K=>bif Nat.beq id 4 then dl4 G n n R st K else bif Nat.beq id 1 then dl1 G n n R st K else none,λR id st K=>bif Nat.beq id 6 then dc6 G n R st K else none,nK⟩
def an:Ann:=⟨53,1,[(4,[0,1,2,3,8,9]),(1,[0,1,2,3,8])],[(6,[0,1,2,3,8,9])],[],[(4,⟨[([0,1,2,3,4,5,6,7,8,9,10,11,12,13,14,15,16],[14],[7,8,12,13])],[14],[],[],[]⟩),(6,⟨[([0,1,5,6,7,8,9,10,11,12,13,14,15,2,3,4,16,17],[15,17],[8,9,12,13,14,16])],[15,17],[],[],[]⟩)],[]⟩
abbrev bd:=aF Tryz.f175
abbrev q6:=aJ [1,0,0,1,0,0,1,0,0,1] bd
abbrev q4:=aJ [1,0,0,1,0,0,1,0,0] bd
abbrev q1:=aJ [1,0,0] bd
theorem pc6{G:Gs}(d:am (ax G)){n:Nat}:al an q6 (dc6 G n):=cpq d (pc G n) ⟨[0,1,2,3,8,9],[],[(0,[]),(1,[0,1,2,3,8]),(2,[0,1,2,3,8])]⟩
theorem pl4{G:Gs}(d:am (ax G))(n:Nat):∀m,al an (.loop q4) (dl4 G n m):=lpq d (pc G n) ⟨[0,1,2,3,8],[],[(0,[]),(1,[0,1,2,3,8]),(2,[0,1,2,3,8])]⟩ (apl [(0,6,q6)] ⟨pc6 d,trivial⟩)
theorem pl1{G:Gs}(d:am (ax G))(n:Nat):∀m,al an (.loop q1) (dl1 G n m):=lpq d (pc G n) ⟨[],[],[(0,[])]⟩ (apl [(1,4,.loop q4)] ⟨pl4 d n n,trivial⟩)
def cO(G:Gs)(data:LT)(a b:Int)(r:LT):Prop:=∃n,aq (R:=AT×RV Ob) G n data a b (λd=>some (.tup [],[.row (.n 1) 0 d]))=some (.tup [],[.row (.n 1) 0 r])
theorem ok{G:Gs}(d:am (ax G)){g:Q}(h:∀data a b r,g data a b=some r->cO G data a b r):aj (ent g):=okQ λ_ _ _ _ _ _ hc=>okL hc λr j=>let⟨n,j⟩:=h _ _ _ _ j;fF d an (pc G n) Tryz.func175 j (apl [(1,1,.loop q1)] ⟨pl1 d n n,trivial⟩)
end z5i
namespace z5k
structure Gs where
 z5i:z5i.Q
 z5m:z5m.Q
def ax(G:Gs):RV Ent:=[z5i.ent G.z5i,z5m.ent G.z5m]
def b2{R:Type}(G:Gs)(n:Nat)(h d a b:Int)(h0:LT)(nx:Int->Int->LT->Y R)(j:Int->LT->Y R):Y R:=bif decide (b<=h)then((G.z5i h0 a b).bind λr=>nx b (wr (b+d)) r)else j a h0
def l2{R:Type}(G:Gs)(n m:Nat)(h d a b:Int)(h0:LT)(j:Int->LT->Y R):Y R:=aS (λ(v:Int×Int×LT) nx=>b2 G n h d v.1 v.2.1 v.2.2 (λt w y=>nx (t,w,y)) j) m (a,b,h0)
def b9{R:Type}(G:Gs)(n:Nat)(h d a b:Int)(h0:LT)(nx:Int->Int->LT->Y R)(j:Int->LT->Y R):Y R:=bif decide (b<=h)then((G.z5m h0 a (wr (a+d)) b).bind λr=>nx b (wr (b+(wr (2*d)))) r)else j a h0
def l9{R:Type}(G:Gs)(n m:Nat)(h d a b:Int)(h0:LT)(j:Int->LT->Y R):Y R:=aS (λ(v:Int×Int×LT) nx=>b9 G n h d v.1 v.2.1 v.2.2 (λt w y=>nx (t,w,y)) j) m (a,b,h0)
def b7{R:Type}(G:Gs)(n:Nat)(j d:Int)(h0:LT)(nx:Int->LT->Y R)(v:LT->Y R):Y R:=bif decide (d<j)then(l9 G n n j d 0 (wr (2*d)) h0 (λt h=>bif decide ((wr (t+d))<j)then((G.z5m h t (wr (t+d)) j).bind λr=>nx (wr (d*2)) r)else nx (wr (d*2)) h))else v h0
def l7{R:Type}(G:Gs)(n m:Nat)(h d:Int)(h0:LT)(j:LT->Y R):Y R:=aS (λ(v:Int×LT) nx=>b7 G n h v.1 v.2 (λt w=>nx (t,w)) j) m (d,h0)
def aq{R:Type}(G:Gs)(n:Nat)(data:LT)(h:Int)(K:LT->Y R):Y R:=
 l2 G n n h 20 0 20 data
  (fun t j=>
   (G.z5i j t h).bind λr=>
   l7 G n n h 20 r
    (λd=>K d)
  )
def dl2(G:Gs)(n m:Nat):=rS [0,1,2,6,7,8] [.x (.o 0),.x .i,.x (.f 150),.x .i,.x .i,.x .i] [.r (.n 1) 0] λR K j d a b h0=>l2 G n m j d a b h0 (λt h=>K (.exit 0) ⟨[(0,.one (.o 0)),(1,.one (.i j)),(2,.one (.f 150 [])),(6,.one (.i d)),(7,.one (.i t))],[.row (.n 1) 0 h]⟩)
def dl9(G:Gs)(n m:Nat):=rS [0,1,2,6,7,8] [.x (.o 0),.x .i,.x (.f 150),.x .i,.x .i,.x .i] [.r (.n 1) 0] λR K j d a b h0=>l9 G n m j d a b h0 (λt h=>K (.exit 4) ⟨[(0,.one (.o 0)),(1,.one (.i j)),(2,.one (.f 150 [])),(6,.one (.i d)),(7,.one (.i t))],[.row (.n 1) 0 h]⟩)
def dl7(G:Gs)(n m:Nat):=rS [0,1,2,6] [.x (.o 0),.x .i,.x (.f 150),.x .i] [.r (.n 1) 0] λR K j d h0=>l7 G n m j d h0 (λh=>K (.exit 2) ⟨[],[.row (.n 1) 0 h]⟩)
def pc(G:Gs)(n:Nat):Pcs:=⟨λR id st K=>bif Nat.beq id 2 then dl2 G n n R st K else bif Nat.beq id 9 then dl9 G n n R st K else bif Nat.beq id 7 then dl7 G n n R st K else none,nK,nK⟩
def an:Ann:=⟨63,1,[(2,[0,1,2,6,7,8]),(9,[0,1,2,6,7,8]),(7,[0,1,2,6])],[],[],[],[]⟩
abbrev bd:=aF Tryz.f172
abbrev q2:=aJ [1,1,0,0,0] bd
abbrev q9:=aJ [1,1,1,1,0,0,1,0,1,0,0,0] bd
abbrev q7:=aJ [1,1,1,1,0,0] bd
theorem pl2{G:Gs}(d:am (ax G))(n:Nat):∀m,al an (.loop q2) (dl2 G n m):=lpq d (pc G n) ⟨[0,1,2,6,7],[],[(0,[0,1,2,6,7])]⟩
theorem pl9{G:Gs}(d:am (ax G))(n:Nat):∀m,al an (.loop q9) (dl9 G n m):=lpq d (pc G n) ⟨[0,1,2,6,7],[],[(2,[]),(3,[0,1,2,6]),(4,[0,1,2,6,7])]⟩
theorem pl7{G:Gs}(d:am (ax G))(n:Nat):∀m,al an (.loop q7) (dl7 G n m):=lpq d (pc G n) ⟨[],[],[(2,[])]⟩ (apl [(1,9,.loop q9)] ⟨pl9 d n n,trivial⟩)
def cO(G:Gs)(data:LT)(d:Int)(r:LT):Prop:=∃n,aq (R:=AT×RV Ob) G n data d (λh=>some (.tup [],[.row (.n 1) 0 h]))=some (.tup [],[.row (.n 1) 0 r])
theorem ok{G:Gs}(d:am (ax G)){g:Q}(t:∀data h r,g data h=some r->cO G data h r):aj (ent g):=okQ λ_ _ _ _ _ hc=>okL hc λr j=>let⟨n,j⟩:=t _ _ _ j;fF d an (pc G n) Tryz.func172 j (apl [(1,2,.loop q2),(1,7,.loop q7)] ⟨pl2 d n n,⟨pl7 d n n,trivial⟩⟩)
end z5k
namespace z5h
structure Gs where
 z5k:z5k.Q
def aq{R:Type}(G:Gs)(n:Nat)(x:LT)(K:LT->Y R):Y R:=
 (G.z5k x (List.length x:Int)).bind λr=>
 K r
def cO(G:Gs)(x r:LT):Prop:=∃n,aq (R:=AT×RV Ob) G n x (λd=>some (.tup [],[.row (.n 1) 0 d]))=some (.tup [],[.row (.n 1) 0 r])
theorem ok{G:Gs}(d:am [z5k.ent G.z5k]){g:Q}(h:∀x r,g x=some r->cO G x r):aj (ent g):=okQ λ_ _ _ _ hc=>okL hc λr j=>let⟨_,j⟩:=h _ _ j;fF d ⟨9,1,[],[],[],[],[]⟩ nP Tryz.func163 j
end z5h
namespace z0t
structure Gs where
 z10:z10.Q
 z0s:z0s.Q
 z0y:z0y.Q
 z13:z13.Q
 z5h:z5h.Q
 z0n:z0n.Q
 z0c:z0c.Q
def ax(G:Gs):RV Ent:=[z10.ent G.z10,z0s.ent G.z0s,z0y.ent G.z0y,z13.ent G.z13,z5h.ent G.z5h,z0n.ent G.z0n,z0c.ent G.z0c]
def c12{R:Type}(G:Gs)(n:Nat)(y A B:LI)(C:LB)(D:LS)(E:LO)(op:Int)(t46:LT)(F H:Int)(h1:LM)(h2:Int)(I:Z)(J:Int)(O:LT)(h4:Z)(K:LD)(L M:Bool)(N:Int)(t:LT)(v:Int)(d:Z)(h:Int)(j:LT)(w:LM->LT->Y R):Y R:=(G.z0y y A B C D E h1 op (Tm.mk v d h j)).bind λr=>bif !r.1 then((lim (t++[(Tm.mk v d h j)])).bind λzs=>w r.2 zs)else w r.2 t
def b6{R:Type}(G:Gs)(n:Nat)(E F H:LI)(I:LB)(J:LS)(K:LO)(op:Int)(t46:LT)(h h2:Int)(t:Z)(v:Int)(O:LT)(h4:Z)(w:LD)(j y:Bool)(A d:Int)(h1:LM)(L:LT)(nx:Int->LM->LT->Y R)(P:Bool->LM->Int->Z->Int->LT->Y R)(k1:LM->LT->Y R):Y R:=bif decide (d<h)then((ix t46 d).bind λe=>(G.z10 E F H I J K h1 (Tm.mk e.op e.ae e.ag e.ac)).bind λr=>(G.z0s E F H I J K r.2 op d).bind λB=>bif !decide (r.1=B.1)then(P false B.2 0 ByteArray.empty 0 [])else bif j then(bif decide (e.op=op)then((lim (L++e.ac)).bind λzs=>nx (wr (d+1)) B.2 zs)else c12 G n E F H I J K op t46 h d B.2 h2 t v O h4 w j y A L e.op e.ae e.ag e.ac (λM N=>nx (wr (d+1)) M N))else c12 G n E F H I J K op t46 h d B.2 h2 t v O h4 w j y A L e.op e.ae e.ag e.ac (λC D=>nx (wr (d+1)) C D))else k1 h1 L
def l6{R:Type}(G:Gs)(n m:Nat)(C D E:LI)(F:LB)(H:LS)(I:LO)(op:Int)(t46:LT)(d h2:Int)(h:Z)(j:Int)(J:LT)(h4:Z)(t:LD)(w y:Bool)(A B:Int)(h1:LM)(K:LT)(L:Bool->LM->Int->Z->Int->LT->Y R)(k1:LM->LT->Y R):Y R:=aS (λ(v:Int×LM×LT) nx=>b6 G n C D E F H I op t46 d h2 h j J h4 t w y A v.1 v.2.1 v.2.2 (λM N O=>nx (M,N,O)) L k1) m (B,h1,K)
def c21{R:Type}(G:Gs)(n:Nat)(E F H:LI)(I:LB)(J:LS)(K:LO)(op:Int)(h1:LM)(h2:Int)(t:Z)(v:Int)(L:LT)(h4:Z)(w:LD)(j y:Bool)(A:Int)(d:LT)(h:Bool->Int->Z->Int->LT->Y R):Y R:=bif j then(bif decide (7<(List.length d:Int))then(h false 0 ByteArray.empty 0 [])else(G.z0n (Tm.mk op ByteArray.empty 0 d)).bind λr=>bif decide (60<r)then(h false 0 ByteArray.empty 0 [])else(G.z0c (Tm.mk op ByteArray.empty 0 d)).bind λB=>bif decide (20<B)then(h false 0 ByteArray.empty 0 [])else h true op ByteArray.empty 0 d)else(G.z0n (Tm.mk op ByteArray.empty 0 d)).bind λC=>bif decide (60<C)then(h false 0 ByteArray.empty 0 [])else(G.z0c (Tm.mk op ByteArray.empty 0 d)).bind λD=>bif decide (20<D)then(h false 0 ByteArray.empty 0 [])else h true op ByteArray.empty 0 d
def c19{R:Type}(G:Gs)(n:Nat)(I J K:LI)(L:LB)(M:LS)(N:LO)(op:Int)(h1:LM)(h2:Int)(h:Z)(j:Int)(O:LT)(h4:Z)(t:LD)(v d:Bool)(w:Int)(P:LT)(Q:Bool->Int->Z->Int->LT->Y R):Y R:=bif d then((G.z5h P).bind λr=>c21 G n I J K L M N op h1 h2 h j O h4 t v d w r (λS D E F H=>Q S D E F H))else c21 G n I J K L M N op h1 h2 h j O h4 t v d w P (λt72 y A B C=>Q t72 y A B C)
def c4{R:Type}(G:Gs)(n:Nat)(L M N:LI)(O:LB)(P:LS)(Q:LO)(op:Int)(ac:LT)(h1:LM)(h2:Int)(t:Z)(v:Int)(S:LT)(h4:Z)(w:LD)(y A:Bool)(j:Int)(B:Bool->LM->Int->Z->Int->LT->Y R):Y R:=l6 G n n L M N O P Q op ac (List.length ac:Int) h2 t v S h4 w y A j 0 h1 [] (λt7 T U V W X=>B t7 T U V W X) (λd h=>bif !decide (j=0)then(bif decide ((List.length h:Int)<2)then(bif decide ((List.length h:Int)=1)then((ix h 0).bind λe=>B true d e.op e.ae e.ag e.ac)else(G.z13 L M N O P Q d op).bind λr=>B true r.2 r.1.op r.1.ae r.1.ag r.1.ac)else c19 G n L M N O P Q op d h2 t v S h4 w y A j h (λt72 C D E F=>B t72 d C D E F))else c19 G n L M N O P Q op d h2 t v S h4 w y A j h (λt73 H I J K=>B t73 d H I J K))
def aq{R:Type}(G:Gs)(n:Nat)(M N O:LI)(P:LB)(Q:LS)(h:LO)(d:LM)(op:Int)(ac:LT)(K:Tm->Bool->LM->Y R):Y R:=
 (ix h op).bind λe=>
 bif e.aA then
  (
  bif decide ((List.length ac:Int)<2)then
   (K (Tm.mk 0 ByteArray.empty 0 []) false d)
  else
   bif !e.aA then
    (
    (ix e.aC 0).bind λe2=>
    bif !decide ((List.length ac:Int)=(List.length e2.ac:Int))then
     (K (Tm.mk 0 ByteArray.empty 0 []) false d)
    else
     c4 G n M N O P Q h op ac d 0 ByteArray.empty 0 [] e.ae e.aC e.aA e.comm e.aE
      (λt7 S T U V W=>K (Tm.mk T U V W) t7 S)
    )
   else
    c4 G n M N O P Q h op ac d 0 ByteArray.empty 0 [] e.ae e.aC e.aA e.comm e.aE
     (λt72 j t v w y=>K (Tm.mk t v w y) t72 j)
  )
 else
  bif !e.aA then
   (
   (ix e.aC 0).bind λe3=>
   bif !decide ((List.length ac:Int)=(List.length e3.ac:Int))then
    (K (Tm.mk 0 ByteArray.empty 0 []) false d)
   else
    c4 G n M N O P Q h op ac d 0 ByteArray.empty 0 [] e.ae e.aC e.aA e.comm e.aE
     (λX A B C D E=>K (Tm.mk B C D E) X A)
   )
  else
   c4 G n M N O P Q h op ac d 0 ByteArray.empty 0 [] e.ae e.aC e.aA e.comm e.aE
    (λZ F H I J L=>K (Tm.mk H I J L) Z F)
def dc12(G:Gs)(n:Nat):=rS [0,1,6,8,9,11,46,47,48] [.x (.p 0 0),.x .i,.x (.p 2 0),.x (.p 4 0),.x (.o 5),.x (.p 6 0),.x (.l (.n 1)),.x .i,.x .i] [.b [.l .i,.l .i,.l .i,.l .s,.l (.n 5),.l (.n 8),.m 1],.m .i,.b [.i,.s,.i,.o 3],.r (.n 1) 0,.b [.s,.l (.n 7),.b,.b,.i],.r (.n 1) 0,.b [.i,.s,.i,.l (.n 1)]] λR K op t46 d h H I J L M N h1 h2 j t O h4 v w y A P Q B C D=>c12 G n H I J L M N op t46 d h h1 h2 j t O h4 v w y A P Q B C D (λE F=>K .normal ⟨[(0,.one (.p 0 0)),(1,.one (.i op)),(6,.one (.p 2 0)),(8,.one (.p 4 0)),(9,.one (.o 5)),(46,.one (.l (.n 1) t46)),(47,.one (.i d)),(48,.one (.i h))],[.box [.l .i H,.l .i I,.l .i J,.l .s L,.l (.n 5) M,.l (.n 8) N,.m 1],.map .i E,.box [.i h2,.s j,.i t,.o 3],.row (.n 1) 0 O,.box [.s h4,.l (.n 7) v,.b w,.b y,.i A],.row (.n 1) 0 F]⟩)
def dl6(G:Gs)(n m:Nat):=rS [0,1,6,8,9,46,47,48] [.x (.p 0 0),.x .i,.x (.p 2 0),.x (.p 4 0),.x (.o 5),.x (.l (.n 1)),.x .i,.x .i] [.b [.l .i,.l .i,.l .i,.l .s,.l (.n 5),.l (.n 8),.m 1],.m .i,.b [.i,.s,.i,.o 3],.r (.n 1) 0,.b [.s,.l (.n 7),.b,.b,.i],.r (.n 1) 0] λR K op t46 A B C D E F H I h1 h2 h j P h4 t v w y Q=>l6 G n m C D E F H I op t46 A h2 h j P h4 t v w y B h1 Q (λS d J L M N=>K .ret ⟨[(6,.one (.p 2 0)),(7,.one (.b S))],[.box [.l .i C,.l .i D,.l .i E,.l .s F,.l (.n 5) H,.l (.n 8) I,.m 1],.map .i d,.box [.i J,.s L,.i M,.l (.n 1) N]]⟩) (λd O=>K (.exit 0) ⟨[(0,.one (.p 0 0)),(1,.one (.i op)),(6,.one (.p 2 0)),(8,.one (.p 4 0)),(9,.one (.o 5))],[.box [.l .i C,.l .i D,.l .i E,.l .s F,.l (.n 5) H,.l (.n 8) I,.m 1],.map .i d,.box [.i h2,.s h,.i j,.o 3],.row (.n 1) 0 P,.box [.s h4,.l (.n 7) t,.b v,.b w,.i y],.row (.n 1) 0 O]⟩)
def yL(G:Gs)(n:Nat):=rS [1,6,8,9] [.x .i,.x (.p 2 0),.x (.p 4 0),.x (.o 5)] [.b [.l .i,.l .i,.l .i,.l .s,.l (.n 5),.l (.n 8),.m 1],.m .i,.b [.i,.s,.i,.o 3],.r (.n 1) 0,.b [.s,.l (.n 7),.b,.b,.i],.r (.n 1) 0] λR K op D E F H I J h1 h2 d h L h4 j t v w M=>c21 G n D E F H I J op h1 h2 d h L h4 j t v w M (λN y A B C=>K .ret ⟨[(6,.one (.p 2 0)),(7,.one (.b N))],[.box [.l .i D,.l .i E,.l .i F,.l .s H,.l (.n 5) I,.l (.n 8) J,.m 1],.map .i h1,.box [.i y,.s A,.i B,.l (.n 1) C]]⟩)
def Il(G:Gs)(n:Nat):=rS [1,6,8,9] [.x .i,.x (.p 2 0),.x (.p 4 0),.x (.o 5)] [.b [.l .i,.l .i,.l .i,.l .s,.l (.n 5),.l (.n 8),.m 1],.m .i,.b [.i,.s,.i,.o 3],.r (.n 1) 0,.b [.s,.l (.n 7),.b,.b,.i],.r (.n 1) 0] λR K op D E F H I J h1 h2 d h L h4 j t v w M=>c19 G n D E F H I J op h1 h2 d h L h4 j t v w M (λN y A B C=>K .ret ⟨[(6,.one (.p 2 0)),(7,.one (.b N))],[.box [.l .i D,.l .i E,.l .i F,.l .s H,.l (.n 5) I,.l (.n 8) J,.m 1],.map .i h1,.box [.i y,.s A,.i B,.l (.n 1) C]]⟩)
def dc4(G:Gs)(n:Nat):=rS [0,1,2,6,8] [.x (.p 0 0),.x .i,.x (.l (.n 1)),.x (.p 2 0),.x (.p 4 0)] [.b [.l .i,.l .i,.l .i,.l .s,.l (.n 5),.l (.n 8),.m 1],.m .i,.b [.i,.s,.i,.o 3],.r (.n 1) 0,.b [.s,.l (.n 7),.b,.b,.i]] λR K op ac E F H I J L h1 h2 d h M h4 j t v w=>c4 G n E F H I J L op ac h1 h2 d h M h4 j t v w (λN y A B C D=>K .ret ⟨[(6,.one (.p 2 0)),(7,.one (.b N))],[.box [.l .i E,.l .i F,.l .i H,.l .s I,.l (.n 5) J,.l (.n 8) L,.m 1],.map .i y,.box [.i A,.s B,.i C,.l (.n 1) D]]⟩)
def pc(G:Gs)(n:Nat):Pcs:=⟨λR id st K=>bif Nat.beq id 6 then dl6 G n n R st K else none,λR id st K=>bif Nat.beq id 12 then dc12 G n R st K else bif Nat.beq id 21 then yL G n R st K else bif Nat.beq id 19 then Il G n R st K else bif Nat.beq id 4 then dc4 G n R st K else none,nK⟩
def an:Ann:=⟨129,2,[(6,[0,1,6,8,9,46,47,48])],[(12,[0,1,6,8,9,11,46,47,48]),(21,[1,6,8,9]),(19,[1,6,8,9]),(4,[0,1,2,6,8])],[6,7],[],[44,61,108,127]⟩
abbrev bd:=aF Tryz.f146
abbrev q12:=aJ [1,1,1,1,0,1,0,0,1,1,0,0,1,1,0,1,1] bd
abbrev q6:=aJ [1,1,1,1,0,1,0,0] bd
abbrev q21:=aJ [1,1,1,1,1,1,1] bd
abbrev q19:=aJ [1,1,1,1,1,1] bd
abbrev q4:=aJ [1,1,1] bd
theorem pc12{G:Gs}(d:am (ax G)){n:Nat}:al an q12 (dc12 G n):=cpq d (pc G n) ⟨[0,1,6,8,9,46,47,48],[6,7],[(0,[0,1,6,8,9]),(1,[0,1,6,8,9,46,47,48]),(2,[0,1,6,8,9,46,47,48])]⟩
theorem pl6{G:Gs}(d:am (ax G))(n:Nat):∀m,al an (.loop q6) (dl6 G n m):=lpq d (pc G n) ⟨[0,1,6,8,9],[6,7],[(0,[0,1,6,8,9])]⟩ (apl [(0,12,q12)] ⟨pc12 d,trivial⟩)
theorem Ij{G:Gs}(d:am (ax G)){n:Nat}:al an q21 (yL G n):=cpq d (pc G n) ⟨[],[6,7],[]⟩
theorem MI{G:Gs}(d:am (ax G)){n:Nat}:al an q19 (Il G n):=cpq d (pc G n) ⟨[],[6,7],[]⟩ (apl [(0,21,q21)] ⟨Ij d,trivial⟩)
theorem pc4{G:Gs}(d:am (ax G)){n:Nat}:al an q4 (dc4 G n):=cpq d (pc G n) ⟨[],[6,7],[]⟩ (apl [(1,6,.loop q6),(0,19,q19)] ⟨pl6 d n n,⟨MI d,trivial⟩⟩)
theorem ok{G:Gs}(B:am (ax G)){g:Q}(D:∀d h t v w y C op ac r,g d h t v w y C op ac=some r->∃n,aq (R:=AT×RV Ob) G n d h t v w y C op ac (λA E F=>some (.tup [.agg [.i A.op,.s A.ae,.i A.ag,.l (.n 1) A.ac],.one (.b E)],[.box [.l .i d,.l .i h,.l .i t,.l .s v,.l (.n 5) w,.l (.n 8) y,.m 1],.map .i F]))=some (.tup [.agg [.i r.1.op,.s r.1.ae,.i r.1.ag,.l (.n 1) r.1.ac],.one (.b r.2.1)],[.box [.l .i d,.l .i h,.l .i t,.l .s v,.l (.n 5) w,.l (.n 8) y,.m 1],.map .i r.2.2])):aj (ent g):=okQ λ_ _ _ _ _ _ _ _ _ _ _ _ hc=>okL hc λr j=>let⟨n,j⟩:=D _ _ _ _ _ _ _ _ _ _ j;fF B an (pc G n) Tryz.func146 j (apl [(0,4,q4)] ⟨pc4 B,trivial⟩)
end z0t
end
end
section
open Classical
theorem j7{S A R:Type}(μ:S->Nat)(B:(A->Y R)->S->(S->Y R)->Y R)(Q:S->Prop)(Fin:A->Prop)(hs:∀s,Q s->(∃a,Fin a/\∀d nx,B d s nx=d a)\/(∃s',Q s'/\μ s'<μ s/\∀d nx,B d s nx=nx s')):∀m s,Q s->μ s<m->∃a,Fin a/\∀d,aS (B d) m s=d a
 |0,s,_,hm=>absurd hm (NP _)
 | m+1,s,h,hm=>by
  obtain⟨a,h1,h2⟩|⟨s',h1,h0,h2⟩:=hs s h
  .exact⟨a,h1,λd=>h2 d (λv=>aS (B d) m v)⟩
  .obtain⟨a,j,h4⟩:=j7 μ B Q Fin hs m s' h1 A1;exact⟨a,j,λd=>(h2 d (λv=>aS (B d) m v)).trans (h4 d)⟩
noncomputable def nX{α:Type}(P:α->Prop):Y α:=if h:∃r,P r then some h.choose else none
theorem fA{α:Type}{P:α->Prop}{r:α}(h:nX P=some r):P r:=by
 unfold nX at h;split at h
 .grind
 .cases h
theorem jj{α:Type}{P:α->Prop}(h:∃r,P r):∃r,nX P=some r/\P r:=⟨h.choose,dif_pos h,h.choose_spec⟩
theorem DE{k:Int}(h0:0<=k)(h1:k<9223372036854775808):IntKind.wrap .u64 k=k:=by
 show k%18446744073709551616=k;exact Int.emod_eq_of_lt h0 A1
theorem mt{i j:Int}(h0:0<=i+j)(h1:i+j<4611686018427387904):(bif decide ((0:Nat)<=1)then some (Abs.bi .shr .u64 (IntKind.wrap .u64 (wr (i+j))) 1)else none)=some ((i+j) / 2):=by
 rw[aH A1,DE h0 A1];show some ((i+j).fdiv (2^1))=_;rw[Ph _ D2];rfl
def ct(h r:RV Tm):Prop:=r.length=h.length/\∀x∈r,x∈h
theorem ct.refl(h:RV Tm):ct h h:=⟨rfl,λ_ h=>h⟩
theorem ct.trans{a b c:RV Tm}(h:ct a b)(k:ct b c):ct a c:=⟨k.1.trans h.1,λx hx=>h.2 x (k.2 x hx)⟩
theorem ct.set{h r:RV Tm}(k:ct h r){i:Nat}{x:Tm}(hx:x∈h):ct h (r.set i x):=⟨by simp[k.1],λy d=>by
 rcases OV d with h|rfl
 .exact k.2 y h
 .exact hx⟩
theorem cU{h:RV Tm}{i:Int}(h0:0<=i)(h1:i<h.length):∃x,ix h i=some x/\x∈h:=by
 obtain⟨x,d,j,_⟩:=aQ h0 h1;exact⟨x,d,j⟩
abbrev OUT:RV Tm->Y (AT×RV Ob):=λd=>some (.tup [],[.row (.n 1) 0 d])
noncomputable def mV:RV Tm->Int->Int->Int->Y (RV Tm):=λh a b n=>nX λr=>ct h r/\z5l.cO ⟨()⟩ h a b n r
theorem vC:aj (z5l.ent mV):=z5l.ok (G:=⟨()⟩) trivial λ_ _ _ _ _ hr=>(fA hr).2
theorem uR{h:RV Tm}{a b n:Int}(L:0<=a)(hb:0<=b)(h0:0<=n)(h1:a+n<=h.length)(h2:b+n<=h.length)(hl:h.length<=4294967296):∃r,mV h a b n=some r/\ct h r:=by
 suffices C:∃r,ct h r/\z5l.cO ⟨()⟩ h a b n r by
  obtain⟨r,j,t,M⟩:=jj C;exact⟨r,j,t⟩
 obtain⟨r,j,t⟩:=j7 (R:=AT×RV Ob) (A:=RV Tm) (λv:Int×RV Tm=>(n-v.1).toNat) (λw v nx=>z5l.b1 ⟨()⟩ (n.toNat+1) a b n v.1 v.2 (λD B=>nx (D,B)) w) (λv=>0<=v.1/\v.1<=n/\ct h v.2) (ct h) (by
  rintro⟨i,g⟩ ⟨E,F,d⟩;simp only at E F d ⊢;have G:=d.1;by_cases hi:i<n
  .refine .inr ?_;obtain⟨x,H,I⟩:=cU (h:=g) (i:=b+i) A1 A1;obtain⟨y,B,J⟩:=cU (h:=g) (i:=a+i) A1 A1;obtain⟨z,K,N⟩:=cU (h:=g.set (a+i).toNat x) (i:=b+i) A1 D5;refine⟨(i+1,(g.set (a+i).toNat x).set (b+i).toNat y),⟨D4,D4,(d.set (d.2 x I)).set (d.2 y J)⟩,D4,λw nx=> ?_⟩;unfold z5l.b1;rw[dT hi,cT,aH (x:=b+i) A1,aH (x:=a+i) A1,H,bS,B,bS,bS,Tm.eta,Tm.eta,K,bS,aH (x:=i+1) A1]
  .refine .inl ⟨g,d,λw nx=> ?_⟩;unfold z5l.b1;rw[dF hi,cF]) (n.toNat+1) (0,h) ⟨C3,h0,.refl h⟩ C3
 exact⟨r,j,n.toNat+1,t _⟩
noncomputable def JF:RV Tm->Int->Int->Int->Y (RV Tm):=λh a m b=>nX λr=>ct h r/\z5j.cO ⟨mV⟩ h a m b r
theorem EC:aj (z5j.ent JF):=z5j.ok (G:=⟨mV⟩) ⟨vC,trivial⟩ λ_ _ _ _ _ hr=>(fA hr).2
theorem DH{h:RV Tm}{a m b:Int}(P:0<=a)(h1:a<m)(h2:m<b)(Q:b<=h.length)(hl:h.length<=4294967296):∃r,JF h a m b=some r/\ct h r:=by
 suffices J:∃r,ct h r/\z5j.cO ⟨mV⟩ h a m b r by
  obtain⟨r,B,t,G⟩:=jj J;exact⟨r,B,t⟩
 obtain⟨⟨i,g⟩,⟨C,D,K,d⟩,t⟩:=j7 (R:=AT×RV Ob) (A:=Int×RV Tm) (λv:Int×Int×RV Tm=>(v.1+v.2.1).toNat) (λE v nx=>z5j.b2 ⟨mV⟩ ((b-a).toNat+1) m v.1 v.2.1 v.2.2 (λL M N=>nx (L,M,N)) (λx y=>E (x,y))) (λv=>0<v.1/\0<v.2.1/\v.1<=m-a/\v.2.1<=b-m/\ct h v.2.2) (λv=>0<v.1/\v.1<=m-a/\v.1<=b-m/\ct h v.2) (by
  rintro⟨i,j,g⟩ ⟨C,H,D,I,d⟩;simp only at C H D I d ⊢;have F:=d.1;by_cases w:i=j
  .refine .inl ⟨(i,g),⟨C,D,D4,d⟩,λE nx=> ?_⟩;unfold z5j.b2;rw[dT w,N5,cF]
  .refine .inr ?_;by_cases hlt:j<i
   .obtain⟨r,B,t⟩:=uR (h:=g) (a:=m-i) (b:=m) (n:=j) A1 A1 A1 A1 A1 A1;refine⟨(i-j,j,r),⟨D4,H,D4,I,d.trans t⟩,D4,λE nx=> ?_⟩;unfold z5j.b2;rw[dF w,NR,cT,dT hlt,cT,aH (x:=m-i) A1];show Option.bind (mV g (m-i) m j) _=_;rw[B,bS,aH (x:=i-j) A1]
   .obtain⟨r,B,t⟩:=uR (h:=g) (a:=m-i) (b:=m+j-i) (n:=i) A1 A1 A1 A1 A1 A1;refine⟨(i,j-i,r),⟨C,D4,D,D4,d.trans t⟩,D4,λE nx=> ?_⟩;unfold z5j.b2;rw[dF w,NR,cT,dF hlt,cF,aH (x:=m-i) A1,aH (x:=m+j) A1,aH (x:=m+j-i) A1];show Option.bind (mV g (m-i) (m+j-i) i) _=_;rw[B,bS,aH (x:=j-i) A1]) ((b-a).toNat+1) (m-a,b-m,h) ⟨D4,D4,C3,C3,.refl h⟩ D4
 simp only at C D K d;have F:=d.1;obtain⟨r,G,O⟩:=uR (h:=g) (a:=m-i) (b:=m) (n:=i) A1 A1 A1 A1 A1 A1;refine⟨r,d.trans O,(b-a).toNat+1,?_⟩;unfold z5j.aq;rw[aH (x:=m-a) A1,aH (x:=b-m) A1];refine(t (λv=>Option.bind (mV v.2 (wr (m-v.1)) m v.1) λr=>OUT r)).trans ?_;rw[aH (x:=m-i) A1,G,bS]
theorem zf{R:Type}(B:(Int->Y R)->Int×Int->(Int×Int->Y R)->Y R)(lo hi:Int)
  (w:∀i j,lo<=i->i<j->j<=hi->(∀d nx,B d (i,j) nx=nx ((i+j) / 2+1,j))\/(∀d nx,B d (i,j) nx=nx (i,(i+j) / 2))) (he:∀i j,¬i<j->∀d nx,B d (i,j) nx=d i) (m:Nat) (i j:Int) (h1:lo<=i) (h2:i<=j) (A:j<=hi) (hm:(j-i).toNat<m):
  ∃r,(i<=r/\r<=j)/\∀d,aS (B d) m (i,j)=d r:=by
 refine j7 (λv:Int×Int=>(v.2-v.1).toNat) B (λv=>i<=v.1/\v.1<=v.2/\v.2<=j) (λr=>i<=r/\r<=j) ?_ m (i,j) ⟨OJ _,h2,OJ _⟩ hm;rintro⟨x,y⟩ ⟨q1,q2,q3⟩;simp only at q1 q2 q3 ⊢;by_cases t:x<y
 .refine .inr ?_;rcases w x y A1 t A1 with h|h
  .exact⟨_,⟨D4,D4,q3⟩,D4,h⟩
  .exact⟨_,⟨q1,D4,D4⟩,D4,h⟩
 .exact .inl ⟨x,⟨q1,A1⟩,he x y t⟩
noncomputable abbrev GSy(K:Nat)(g:RV Tm->Int->Int->Int->Y (RV Tm)):z5m.Gs:={z0a:=bM K,z5j:=JF,z5m:=g}
noncomputable def iO(K:Nat):Nat->RV Tm->Int->Int->Int->Y (RV Tm)
 |0=>λ_ _ _ _=>none
 |k+1=>λh a m b=>nX λr=>ct h r/\z5m.cO (GSy K (iO K k)) h a m b r
theorem pu(K:Nat)(hK:K<=4294967296):∀k,aj (z5m.ent (iO K k))
 |0=>okQ (by (repeat intro h);simp[iO]at h)
 |k+1=>z5m.ok (G:=GSy K (iO K k)) ⟨z0b K hK,EC,pu K hK k,trivial⟩ λ_ _ _ _ _ hr=>(fA hr).2
section
variable {R : Type} {K : Nat} {g : RV Tm → Int → Int → Int → Y (RV Tm)} {h : RV Tm} (hK : ∀ x ∈ h, x.az < K) (hl : h.length ≤ 2147483648)
include hK hl
theorem NL(n:Nat)(a i j:Int)(F:0<=a)(w:a<h.length)(h1:0<=i)(h2:i<=j)(G:j<=h.length)(J:h.length<n):∃r,(i<=r/\r<=j)/\∀d:Int->Y R,z5m.l3 (GSy K g) n n a h i j d=d r:=by
 refine zf (R:=R) (λd v nx=>z5m.b3 (GSy K g) n a h v.1 v.2 (λH I=>nx (H,I)) d) 0 h.length ?_ ?_ n i j h1 h2 G A1
 .intro x y L t M;obtain⟨A,C,D⟩:=cU (h:=h) (i:=(x+y) / 2) A1 A1;obtain⟨B,E,N⟩:=cU (h:=h) (i:=a) F w;by_cases hc:bH A B<0
  .refine .inl λd nx=> ?_;unfold z5m.b3;simp only;rw[dT t,cT,mt A1 A1,bS,aH (x:=(x+y) / 2) A1,C,bS,E,bS,Tm.eta,Tm.eta];show Option.bind (bM K A B) _=_;unfold bM;rw[N1 (hK _ D),bS,dT hc,cT,aH (x:=(x+y) / 2+1) A1]
  .refine .inr λd nx=> ?_;unfold z5m.b3;simp only;rw[dT t,cT,mt A1 A1,bS,aH (x:=(x+y) / 2) A1,C,bS,E,bS,Tm.eta,Tm.eta];show Option.bind (bM K A B) _=_;unfold bM;rw[N1 (hK _ D),bS,dF hc,cF]
 .intro x y t d nx;unfold z5m.b3;simp only;rw[dF t,cF]
theorem LA(n:Nat)(a i j:Int)(F:0<=a)(w:a<h.length)(h1:0<=i)(h2:i<=j)(G:j<=h.length)(J:h.length<n):∃r,(i<=r/\r<=j)/\∀d:Int->Y R,z5m.l15 (GSy K g) n n a h i j d=d r:=by
 refine zf (R:=R) (λd v nx=>z5m.b15 (GSy K g) n a h v.1 v.2 (λH I=>nx (H,I)) d) 0 h.length ?_ ?_ n i j h1 h2 G A1
 .intro x y L t M;obtain⟨A,C,N⟩:=cU (h:=h) (i:=(x+y) / 2) A1 A1;obtain⟨B,D,E⟩:=cU (h:=h) (i:=a) F w;by_cases hc:bH B A<0
  .refine .inr λd nx=> ?_;unfold z5m.b15;simp only;rw[dT t,cT,mt A1 A1,bS,aH (x:=(x+y) / 2) A1,D,bS,C,bS,Tm.eta,Tm.eta];show Option.bind (bM K B A) _=_;unfold bM;rw[N1 (hK _ E),bS,dT hc,N5,cF]
  .refine .inl λd nx=> ?_;unfold z5m.b15;simp only;rw[dT t,cT,mt A1 A1,bS,aH (x:=(x+y) / 2) A1,D,bS,C,bS,Tm.eta,Tm.eta];show Option.bind (bM K B A) _=_;unfold bM;rw[N1 (hK _ E),bS,dF hc,NR,cT,aH (x:=(x+y) / 2+1) A1]
 .intro x y t d nx;unfold z5m.b15;simp only;rw[dF t,cF]
theorem Mg(n:Nat)(a m b t D p i j:Int)(hp:∀c,i<=c->c<j->0<=p-c/\p-c<h.length)(H: -4294967296<=p/\p<=8589934592)(h1:0<=i)(h2:i<=j)(L:j<=h.length)(M:h.length<n):∃r,(i<=r/\r<=j)/\∀d:Int->Y R,z5m.l33 (GSy K g) n n a m b t D p h i j d=d r:=by
 refine zf (R:=R) (λd v nx=>z5m.b33 (GSy K g) n a m b t D p h v.1 v.2 (λI J=>nx (I,J)) d) i j ?_ ?_ n i j (OJ _) h2 (OJ _) A1
 .intro x y N A O;obtain⟨B,E,P⟩:=cU (h:=h) (i:=(x+y) / 2) A1 A1;have w:=hp ((x+y) / 2) A1 A1;obtain⟨C,F,G⟩:=cU (h:=h) (i:=p-(x+y) / 2) w.1 w.2;by_cases hc:bH C B<0
  .refine .inr λd nx=> ?_;unfold z5m.b33;simp only;rw[dT A,cT,mt A1 A1,bS,aH (x:=(x+y) / 2) A1,aH (x:=p-(x+y) / 2) A1,F,bS,E,bS,Tm.eta,Tm.eta];show Option.bind (bM K C B) _=_;unfold bM;rw[N1 (hK _ G),bS,dT hc,N5,cF]
  .refine .inl λd nx=> ?_;unfold z5m.b33;simp only;rw[dT A,cT,mt A1 A1,bS,aH (x:=(x+y) / 2) A1,aH (x:=p-(x+y) / 2) A1,F,bS,E,bS,Tm.eta,Tm.eta];show Option.bind (bM K C B) _=_;unfold bM;rw[N1 (hK _ G),bS,dF hc,NR,cT,aH (x:=(x+y) / 2+1) A1]
 .intro x y A d nx;unfold z5m.b33;simp only;rw[dF A,cF]
omit hK in
theorem NE(n:Nat)(i k:Int)(h1:0<=k)(h2:i<=h.length)(B:0<=i)(t:k<=h.length)(J:h.length<n):∃r,ct h r/\∀d:RV Tm->Y R,z5m.l9 (GSy K g) n n i k h d=d r:=by
 refine j7 (R:=R) (A:=RV Tm) (λv:Int×RV Tm=>(h.length-v.1).toNat) (λd v nx=>z5m.b9 (GSy K g) n i v.1 v.2 (λC w=>nx (C,w)) d) (λv=>0<=v.1/\v.1<=h.length/\ct h v.2) (ct h) ?_ n (k,h) ⟨h1,t,.refl h⟩ D4;rintro⟨k,f⟩ ⟨d,k1,j⟩;simp only at d k1 j ⊢;have D:=j.1;by_cases hk:k<i-1
 .obtain⟨x,E,F⟩:=cU (h:=f) (i:=k+1) A1 A1;obtain⟨y,w,G⟩:=cU (h:=f) (i:=k) A1 A1;obtain⟨z,H,L⟩:=cU (h:=f.set k.toNat x) (i:=k+1) A1 D5;refine .inr ⟨(k+1,(f.set k.toNat x).set (k+1).toNat y),⟨D4,D4,(j.set (j.2 x F)).set (j.2 y G)⟩,D4,λI nx=> ?_⟩;unfold z5m.b9;rw[aH (x:=i-1) A1,dT hk,cT,aH (x:=k+1) A1,E,bS,w,bS,bS,Tm.eta,Tm.eta,H,bS]
 .refine .inl ⟨f,j,λI nx=> ?_⟩;unfold z5m.b9;rw[aH (x:=i-1) A1,dF hk,cF]
omit hK in
theorem Lu(n:Nat)(i k:Int)(h1:0<=i)(h2:k<h.length)(t:0<=k)(I:h.length<n):∃r,ct h r/\∀d:RV Tm->Y R,z5m.l21 (GSy K g) n n i k h d=d r:=by
 refine j7 (R:=R) (A:=RV Tm) (λv:Int×RV Tm=>v.1.toNat) (λd v nx=>z5m.b21 (GSy K g) n i v.1 v.2 (λB w=>nx (B,w)) d) (λv=>0<=v.1/\v.1<h.length/\ct h v.2) (ct h) ?_ n (k,h) ⟨t,h2,.refl h⟩ D4;rintro⟨k,f⟩ ⟨d,k1,j⟩;simp only at d k1 j ⊢;have C:=j.1;by_cases hk:i<k
 .obtain⟨x,D,E⟩:=cU (h:=f) (i:=k-1) A1 A1;obtain⟨y,w,F⟩:=cU (h:=f) (i:=k) A1 A1;obtain⟨z,G,J⟩:=cU (h:=f.set k.toNat x) (i:=k-1) A1 D5;refine .inr ⟨(k-1,(f.set k.toNat x).set (k-1).toNat y),⟨D4,D4,(j.set (j.2 x E)).set (j.2 y F)⟩,D4,λH nx=> ?_⟩;unfold z5m.b21;rw[dT hk,cT,aH (x:=k-1) A1,D,bS,w,bS,bS,Tm.eta,Tm.eta,G,bS]
 .refine .inl ⟨f,j,λH nx=> ?_⟩;unfold z5m.b21;rw[dF hk,cF]
end
theorem vY{K:Nat}:∀(k:Nat)(h:RV Tm)(a m b:Int),(∀x∈h,x.az<K)->h.length<=2147483648->0<=a->a<m->m<b->b<=h.length->(b-a).toNat<k->∃r,iO K k h a m b=some r/\ct h r
 |0,_,_,_,_,_,_,_,_,_,_,hk=>absurd hk (NP _)
 | k + 1, h,a,m,b,hK,hl,G,h1,h2,I,hk=>by
  suffices H:∃r,ct h r/\z5m.cO (GSy K (iO K k)) h a m b r by
   obtain⟨r,v,y,P⟩:=jj H;exact⟨r,v,y⟩
  suffices H:∃r,ct h r/\z5m.aq (GSy K (iO K k)) (h.length+1) h a m b OUT=OUT r from H.imp λr q=>⟨q.1,_,q.2⟩
  unfold z5m.aq;rw[aH (x:=m-a) A1,aH (x:=b-m) A1];by_cases c1:m-a=1
  .obtain⟨E,J,C⟩:=NL (R:=AT×RV Ob) (g:=iO K k) hK hl (h.length+1) a m b G A1 A1 A1 I A1;obtain⟨r,v,y⟩:=NE (R:=AT×RV Ob) (K:=K) (g:=iO K k) hl (h.length+1) E a G A1 A1 A1 A1;exact⟨r,v,by rw[dT c1,cT,C,y]⟩
  .rw [decide_eq_false c1,cond_false];by_cases c2:b-m=1
   .obtain⟨E,J,C⟩:=LA (R:=AT×RV Ob) (g:=iO K k) hK hl (h.length+1) m a m A1 A1 G A1 A1 A1;obtain⟨r,v,y⟩:=Lu (R:=AT×RV Ob) (K:=K) (g:=iO K k) hl (h.length+1) E m A1 A1 A1 A1;exact⟨r,v,by rw[dT c2,cT,C,y]⟩
   .rw [decide_eq_false c2,cond_false,mt A1 A1];simp only[bS];rw[aH (x:=(a+b) / 2) A1];obtain⟨t,F⟩:∃t,t=(a+b) / 2:=⟨_,rfl⟩;rw[<-F];have N:a<t:=A1
    have O:t<b:=A1
    rw[aH (x:=t+m) A1,aH (x:=t+m-b) A1];have c43:∀(f:RV Tm)(e:Int),ct h f->t<=e->e<=b->∃r,ct h r/\z5m.c43 (GSy K (iO K k)) (h.length+1) b t e f OUT=OUT r:=λf e B L M=>by
     unfold z5m.c43;by_cases A:t<e
     .rw[dT A,cT];by_cases d2:e<b
      .obtain⟨r,v,y⟩:=vY k f t e b (λx hx=>hK x (B.2 x hx)) (by rw[B.1];exact hl) A1 A d2 (by rw[B.1];exact I) A1;refine⟨r,B.trans y,?_⟩;rw[dT d2,cT];show Option.bind (iO K k f t e b) _=_;rw[v,bS]
      .grind
     .grind
    have c41:∀(f:RV Tm)(s e:Int),ct h f->a<=s->s<=t->t<=e->e<=b->∃r,ct h r/\z5m.c41 (GSy K (iO K k)) (h.length+1) a b t s e f OUT=OUT r:=λf s e B s1 s2 L M=>by
     unfold z5m.c41;by_cases A:a<s
     .rw[dT A,cT];by_cases d2:s<t
      .obtain⟨r,v,y⟩:=vY k f a s t (λx hx=>hK x (B.2 x hx)) (by rw[B.1];exact hl) G A d2 (by rw[B.1];omega) A1;obtain⟨D,q1,q2⟩:=c43 r e (B.trans y) L M;refine⟨D,q1,?_⟩;rw[dT d2,cT];show Option.bind (iO K k f a s t) _=_;rw[v,bS];exact q2
      .grind
     .grind
    have c32:∀(i j:Int),a<=i->i<=j->j<=t->j<=m->t+m-i<=b->∃r,ct h r/\z5m.c32 (GSy K (iO K k)) (h.length+1) a m b t (t+m) i j h OUT=OUT r:=λi j Q E S T U=>by
     unfold z5m.c32;rw[aH (x:=t+m-1) A1];obtain⟨s,J,C⟩:=Mg (R:=AT×RV Ob) (g:=iO K k) hK hl (h.length+1) a m b t (t+m) (t+m-1) i j (λc h1 h2=>A1) A1 A1 E A1 A1;have w:wr (t+m-s)=t+m-s:=aH A1;by_cases A:s<m
     .by_cases d2:m<t+m-s
      .obtain⟨r,v,y⟩:=DH (h:=h) (a:=s) (m:=m) (b:=t+m-s) A1 A d2 A1 A1;obtain⟨D,q1,q2⟩:=c41 r s (t+m-s) y A1 A1 A1 A1;refine⟨D,q1,?_⟩;rw[C,w,dT A,cT,dT d2,cT];show Option.bind (JF h s m (t+m-s)) _=_;rw[v,bS];exact q2
      .obtain⟨D,q1,q2⟩:=c41 h s (t+m-s) (.refl h) A1 A1 A1 A1;refine⟨D,q1,?_⟩;rw[C,w,dT A,cT,dF d2,cF];exact q2
     .obtain⟨D,q1,q2⟩:=c41 h s (t+m-s) (.refl h) A1 A1 A1 A1;refine⟨D,q1,?_⟩;rw[C,w,dF A,cF];exact q2
    by_cases d:t<m
    .rw[dT d,cT];exact c32 (t+m-b) t A1 A1 (OJ _) A1 A1
    .grind
def iQ(x:Tm)(l:RV Tm):Nat->Nat
 |0=>0
 | n+1=>match l[n]? with
  |some y=>if 0<bH y x then iQ x l n else n+1
  |none=>n+1
def ny(l:RV Tm)(x:Tm):RV Tm:=l.take (iQ x l l.length)++x::l.drop (iQ x l l.length)
def sortT(l:RV Tm):RV Tm:=l.foldl ny []
theorem vA(x:Tm)(l:RV Tm):∀n,iQ x l n<=n
 |0=>N4 _
 | n+1=>by
  unfold iQ;split
  .split
   .have:=vA x l n;omega
   .omega
  .omega
theorem Hr(l:RV Tm)(x:Tm):(ny l x).length=l.length+1:=by
 have:=vA x l l.length;simp[ny];omega
theorem EI{l:RV Tm}{x y:Tm}:y∈ny l x↔y=x\/y∈l:=by
 unfold ny;rw[List.mem_append,Oz];constructor
 .grind
 .rintro(h|h)
  .grind
  .rw[<-Om (iQ x l l.length) l]at h;rcases List.mem_append.1 h with h|h
   .exact .inl h
   .grind
theorem ph:∀(xs l:RV Tm),(xs.foldl ny l).length=l.length+xs.length/\∀y,y∈xs.foldl ny l↔y∈l\/y∈xs
 |[],l=>C3
 | x::xs,l=>by
  obtain⟨h1,h2⟩:=ph xs (ny l x);refine⟨by rw[OA,h1,Hr,NU];omega,λy=> ?_⟩;rw[OA,h2,EI,Oz];constructor
  .grind
  .grind
theorem gT(l:RV Tm):(sortT l).length=l.length:=by have:=(ph l []).1;simpa [sortT]using this
theorem o6{l:RV Tm}{y:Tm}:y∈sortT l↔y∈l:=by have:=(ph l []).2 y;simpa [sortT]using this
theorem DX(l:RV Tm):ct l (sortT l):=⟨gT l,λ_ h=>o6.1 h⟩
theorem sp{l:RV Tm}{i:Nat}{x:Tm}(h:l[i]? =some x):sortT (l.take (i+1))=ny (sortT (l.take i)) x:=Eh h
section
variable {R : Type}
theorem M5(K n:Nat)(list:RV Tm)(i:Nat)(x:Tm)(hx:list[i]? =some x)(l:RV Tm)(hl:∀y∈l,y.az<K)(v:l.length<=2147483648)(h:RV Tm->Y (RV Tm))(d:Int->Y R):∀m j,j<=l.length->j<m->z3u.l6 ⟨bM K,h⟩ n m list (i:Int) l (j:Int) d=d ((iQ x l j:Nat):Int):=by
 intro m
 induction m with
 |zero=>intro j _ hm;omega
 | succ m B=>
  intro j h1 hm;show z3u.b6 ⟨bM K,h⟩ n list (i:Int) l (j:Int) (λw=>z3u.l6 ⟨bM K,h⟩ n m list (i:Int) l w d) d=_;unfold z3u.b6;cases j with
  |zero=>rw[dF A1,cF];rfl
  | succ j=>
   obtain⟨y,t,A⟩:=bu (xs:=l) (i:=j) A1;rw[dT A1,cT,aH (x:=((j+1:Nat):Int)-1) A1,(A1:((j+1:Nat):Int)-1=(j:Int)),aZ t,bS,aZ hx,bS,Tm.eta,Tm.eta];show Option.bind (bM K y x) _=_;unfold bM;rw[N1 (hl y A),bS];unfold iQ;rw[t];simp only;by_cases hc:0<bH y x
   .grind
   .grind
theorem J0(K n:Nat)(list:RV Tm)(hl:∀y∈list,y.az<K)(t:list.length<=2147483648)(G:list.length<n)(d:RV Tm->Y (RV Tm))(h:RV Tm->Y R):∀m i,i<=list.length->list.length-i<m->z3u.l3 ⟨bM K,d⟩ n m list (i:Int) (sortT (list.take i)) h=h (sortT list):=by
 intro m
 induction m with
 |zero=>exact RQ
 | succ m v=>
  intro i h1 hm;show z3u.b3 ⟨bM K,d⟩ n list (i:Int) (sortT (list.take i)) (λw A=>z3u.l3 ⟨bM K,d⟩ n m list w A h) h=_;unfold z3u.b3;by_cases hi:i<list.length
  .obtain⟨x,j,H⟩:=bu hi;have B:(sortT (list.take i)).length=i:=by rw[gT,O0];omega
   have hp:=vA x (sortT (list.take i)) (sortT (list.take i)).length;rw[bB hi,cT,M5 K n list i x j _ (λy C=>hl y (OK (o6.1 C))) A1 d _ n _ (N4 _) A1];have D:tA (sortT (list.take i)) [] ((iQ x (sortT (list.take i)) (sortT (list.take i)).length:Nat):Int)=some ((sortT (list.take i)).drop (iQ x (sortT (list.take i)) (sortT (list.take i)).length)):=by
    unfold tA;rw[dT A1,dT A1,N6,cT,OL,Or,dw D5]
   have E:uF (sortT (list.take i)) ((iQ x (sortT (list.take i)) (sortT (list.take i)).length:Nat):Int)=some ((sortT (list.take i)).take (iQ x (sortT (list.take i)) (sortT (list.take i)).length)):=by
    unfold uF;rw[dT A1,dT A1,N6,cT,Or]
   rw[D,bS,E,bS,aZ j,bS,Tm.eta,dw D5,bS,dw D5,bS,bN A1];have F:(sortT (list.take i)).take (iQ x (sortT (list.take i)) (sortT (list.take i)).length)++[x]++(sortT (list.take i)).drop (iQ x (sortT (list.take i)) (sortT (list.take i)).length)=sortT (list.take (i+1)):=by
    rw[sp j];unfold ny;rw[Oo];rfl
   rw[F];exact v (i+1) hi A1
  .grind
end
theorem zG(l:RV Tm)(x:Tm):ap (ny l x)=ap l+(1+x.az):=by
 have app:∀a b:RV Tm,ap (a++b)=ap a+ap b:=λa b=>by
  unfold ap;simp;omega
 unfold ny;rw[app,dP];have:=app (l.take (iQ x l l.length)) (l.drop (iQ x l l.length));rw[Om]at this;omega
theorem kL(l:RV Tm):ap (sortT l)=ap l:=by
 have:∀(xs l:RV Tm),ap (xs.foldl ny l)=ap l+ap xs:=λxs=>by
  induction xs with
  |nil=>intro l;rw[List.foldl_nil,fO];omega
  |cons x xs d=>intro l;rw[OA,d,zG,dP];omega
 have:=this l [];rw[fO]at this;unfold sortT;omega
abbrev qE(k:Nat):RV Tm->Y (RV Tm):=λl=>if ap l<k/\l.length<=2147483648 then some (sortT l)else none
theorem z3v(k:Nat)(hk:k<=4294967296):aj (z3u.ent (qE k)):=z3u.ok (G:=⟨bM k,wg k⟩) ⟨z3c k hk,pI k hk,trivial⟩ λ(l:RV Tm) r h=>by
 unfold qE at h;split at h
 .rename_i hs;cases h;have hl:=bZ l;refine⟨l.length+1,?_⟩;unfold z3u.aq;have e:=J0 k (l.length+1) l (λy j=>by have:=kP j;omega) hs.2 A1 (wg k) (λd=>Option.bind (wg k d) λr=>some (AT.one (.l (.n 1) r),([]:RV Ob))) (l.length+1) 0 A1 A1;refine e.trans ?_;unfold wg;rw[N1 (by rw[kL];exact hs.1),bS]
 .cases h
theorem FF(A B:RV Tm)(x y:Tm):(A++y::x::B)[A.length]? =some y/\(A++y::x::B)[A.length+1]? =some x/\((A++y::x::B).set (A.length+1) y)[A.length]? =some y/\((A++y::x::B).set (A.length+1) y).set A.length x=A++x::y::B:=by simp_all
section
variable {R : Type}
theorem LX(K n:Nat)(a b:Int)(A:a=0)(i:Int)(x:Tm)(hx:x.az<K)(l rest:RV Tm)(B:l.length+rest.length<=1073741824)(h:RV Tm->Y R):∀m j,j<=l.length->j<m->
  z5i.l4 ⟨bM K⟩ n m a b i (j:Int) (l.take j++x::(l.drop j++rest)) h=h (l.take (iQ x l j)++x::(l.drop (iQ x l j)++rest)):=by
 subst A;intro m
 induction m with
 |zero=>intro j _ hm;omega
 | succ m C=>
  intro j h1 hm;show z5i.b4 ⟨bM K⟩ n 0 b i (j:Int) (l.take j++x::(l.drop j++rest)) (λD d=>z5i.l4 ⟨bM K⟩ n m 0 b i D d h) h=_;unfold z5i.b4;cases j with
  |zero=>rw[dF A1,cF];rfl
  | succ j=>
   obtain⟨y,d,G⟩:=bu (xs:=l) (i:=j) A1;have hA:(l.take j).length=j:=by rw[O0];omega
   have E:l.take (j+1)++x::(l.drop (j+1)++rest)=l.take j++y::x::(l.drop (j+1)++rest):=by rw[ij d,Oo];rfl
   have F:l.take j++x::(l.drop j++rest)=l.take j++x::y::(l.drop (j+1)++rest):=by rw[bg d];rfl
   obtain⟨s1,s2,t,v⟩:=FF (l.take j) (l.drop (j+1)++rest) x y;rw[hA]at s1 s2 t v;rw[dT A1,cT,E,aH (x:=((j+1:Nat):Int)-1) A1,(A1:((j+1:Nat):Int)-1=(j:Int)),aZ s2,bS,aZ s1,bS,Tm.eta,Tm.eta];show Option.bind (bM K x y) _=_;unfold bM;rw[N1 hx,bS];have w:=qM (y.az+1) y x (NW _);unfold iQ;rw[d];simp only;by_cases hc:0<bH y x
   .rw[dT (p:=bH x y<0) A1,cT,N1 hc];unfold z5i.c6;rw[aH (x:=((j+1:Nat):Int)-1) A1,(A1:((j+1:Nat):Int)-1=(j:Int)),aZ s1,bS,aZ s2,bS,bS,Tm.eta,Tm.eta,Or,Or,aZ t,bS,v,<-F];exact C j A1 A1
   .grind
theorem Jt(K n:Nat)(h:RV Tm)(hK:∀x∈h,x.az<K)(hl:h.length<=1073741824)(D:h.length<n)(d:RV Tm->Y R):∀m i,i<=h.length->h.length-i<m->
  z5i.l1 ⟨bM K⟩ n m 0 (h.length:Int) (i:Int) (sortT (h.take i)++h.drop i) d=d (sortT h):=by
 intro m
 induction m with
 |zero=>exact RQ
 | succ m w=>
  intro i h1 hm;show z5i.b1 ⟨bM K⟩ n 0 (h.length:Int) (i:Int) (sortT (h.take i)++h.drop i) (λy A=>z5i.l1 ⟨bM K⟩ n m 0 (h.length:Int) y A d) d=_;unfold z5i.b1;by_cases hi:i<h.length
  .obtain⟨x,v,B⟩:=bu hi;have j:(sortT (h.take i)).length=i:=by rw[gT,O0];omega
   have e:=LX K n 0 (h.length:Int) rfl (i:Int) x (hK x B) (sortT (h.take i)) (h.drop (i+1)) (by rw[j,Ox];omega) (λt=>z5i.l1 ⟨bM K⟩ n m 0 (h.length:Int) (wr ((i:Int)+1)) t d) n i A1 A1;rw[OO A1,Oj A1,OL]at e;rw[bB hi,cT,bg v,e,bN A1];have C:(sortT (h.take i)).take (iQ x (sortT (h.take i)) i)++x::((sortT (h.take i)).drop (iQ x (sortT (h.take i)) i)++h.drop (i+1))=sortT (h.take (i+1))++h.drop (i+1):=by
    rw[sp v];unfold ny;rw[j,Oo];rfl
   rw[C];exact w (i+1) hi A1
  .grind
end
theorem MJ{K:Nat}{h:RV Tm}{a b:Int}(hK:∀x∈h,x.az<K)(hl:h.length<=1073741824)(U:0<=a)(h1:a<=b)(h2:b<=h.length):∃r,ct h r/\z5i.cO ⟨bM K⟩ h a b r:=by
 have V:h.length<h.length+1:=A1
 obtain⟨r,G,H⟩:=j7 (R:=AT×RV Ob) (A:=RV Tm) (λv:Int×RV Tm=>(b-v.1).toNat) (λt v nx=>z5i.b1 ⟨bM K⟩ (h.length+1) a b v.1 v.2 (λC w=>nx (C,w)) t) (λv=>a<v.1/\v.1<=b+1/\ct h v.2) (ct h) (by
  rintro⟨i,g⟩ ⟨I,J,B⟩;simp only at I J B ⊢;have L:=B.1;by_cases hi:i<b
  .refine .inr ?_;obtain⟨f,M,N⟩:=j7 (R:=AT×RV Ob) (A:=RV Tm) (λv:Int×RV Tm=>v.1.toNat) (λt v nx=>z5i.b4 ⟨bM K⟩ (h.length+1) a b i v.1 v.2 (λC w=>nx (C,w)) t) (λv=>a<=v.1/\v.1<=i/\ct h v.2) (ct h) (by
    rintro⟨j,f⟩ ⟨O,P,d⟩;simp only at O P d ⊢;have Q:=d.1;by_cases D:a<j
    .obtain⟨x,E,F⟩:=cU (h:=f) (i:=j) A1 A1;obtain⟨y,w,S⟩:=cU (h:=f) (i:=j-1) A1 A1;by_cases hc:bH x y<0
     .obtain⟨z,T,W⟩:=cU (h:=f.set j.toNat y) (i:=j-1) A1 D5;refine .inr ⟨(j-1,(f.set j.toNat y).set (j-1).toNat x),⟨D4,D4,(d.set (d.2 y S)).set (d.2 x F)⟩,D4,λt nx=> ?_⟩;unfold z5i.b4;rw[dT D,cT,E,bS,aH (x:=j-1) A1,w,bS,Tm.eta,Tm.eta];show Option.bind (bM K x y) _=_;unfold bM;rw[N1 (hK x (d.2 x F)),bS,dT hc,cT];unfold z5i.c6;rw[aH (x:=j-1) A1,w,bS,E,bS,bS,Tm.eta,Tm.eta,T,bS]
     .refine .inl ⟨f,d,λt nx=> ?_⟩;unfold z5i.b4;rw[dT D,cT,E,bS,aH (x:=j-1) A1,w,bS,Tm.eta,Tm.eta];show Option.bind (bM K x y) _=_;unfold bM;rw[N1 (hK x (d.2 x F)),bS,dF hc,cF]
    .refine .inl ⟨f,d,λt nx=> ?_⟩;unfold z5i.b4;rw[dF D,cF]) (h.length+1) (i,g) ⟨D4,OJ _,B⟩ D4
   refine⟨(i+1,f),⟨D4,D4,M⟩,D4,λt nx=> ?_⟩;unfold z5i.b1;rw[dT hi,cT];refine(N _).trans ?_;rw[aH (x:=i+1) A1]
  .refine .inl ⟨g,B,λt nx=> ?_⟩;unfold z5i.b1;rw[dF hi,cF]) (h.length+1) (a+1,h) ⟨D4,D4,.refl h⟩ D4
 refine⟨r,G,h.length+1,?_⟩;unfold z5i.aq;rw[aH (x:=a+1) A1];exact H OUT
theorem Ll{K:Nat}{h:RV Tm}(hK:∀x∈h,x.az<K)(hl:h.length<=1073741824):z5i.cO ⟨bM K⟩ h 0 h.length (sortT h):=by
 refine⟨h.length+1,?_⟩;unfold z5i.aq;cases h with
 |nil=>rfl
 | cons x l=>
  have e:=Jt K ((x::l).length+1) (x::l) hK hl A1 OUT ((x::l).length+1) 1 C3 (by simp only[NU];omega);have d:sortT ((x::l).take 1)++(x::l).drop 1=x::l:=rfl;rw[d]at e;exact e
noncomputable def E5(K:Nat):RV Tm->Int->Int->Y (RV Tm):=λh a b=>nX λr=>ct h r/\(a=0/\b=h.length->r=sortT h)/\z5i.cO ⟨bM K⟩ h a b r
theorem oW(K:Nat)(hK:K<=4294967296):aj (z5i.ent (E5 K)):=z5i.ok (G:=⟨bM K⟩) ⟨z0b K hK,trivial⟩ λ_ _ _ _ hr=>(fA hr).2.2
theorem BK{K:Nat}{h:RV Tm}{a b:Int}(hK:∀x∈h,x.az<K)(hl:h.length<=1073741824)(t:0<=a)(h1:a<=b)(h2:b<=h.length):∃r,E5 K h a b=some r/\ct h r/\(a=0/\b=h.length->r=sortT h):=by
 suffices v:∃r,ct h r/\(a=0/\b=h.length->r=sortT h)/\z5i.cO ⟨bM K⟩ h a b r by
  obtain⟨r,d,j,w,_⟩:=jj v;exact⟨r,d,j,w⟩
 by_cases hc:a=0/\b=h.length
 .obtain⟨rfl,rfl⟩:=hc;exact⟨sortT h,DX h,λ_=>rfl,Ll hK hl⟩
 .obtain⟨r,d,j⟩:=MJ hK hl t h1 h2;exact⟨r,d,λq=>absurd q hc,j⟩
noncomputable abbrev GSt(K k:Nat):z5k.Gs:={z5i:=E5 K,z5m:=iO K k}
noncomputable def lp(K k:Nat):RV Tm->Int->Y (RV Tm):=λh n=>nX λr=>ct h r/\(h.length<20->r=sortT h)/\z5k.cO (GSt K k) h n r
theorem C9{K k:Nat}{h:RV Tm}(hK:∀x∈h,x.az<K)(hl:h.length<=1073741824)(hk:h.length<k):∃r,lp K k h h.length=some r/\ct h r/\(h.length<20->r=sortT h):=by
 suffices W:∃r,ct h r/\(h.length<20->r=sortT h)/\z5k.cO (GSt K k) h h.length r by
  obtain⟨r,w,B,Q,_⟩:=jj W;exact⟨r,w,B,Q⟩
 obtain⟨⟨X,h2⟩,⟨S,T,L,Y⟩,Z⟩:=j7 (R:=AT×RV Ob) (A:=Int×RV Tm) (λv:Int×Int×RV Tm=>(h.length-v.1).toNat) (λj v nx=>z5k.b2 (GSt K k) (h.length+1) (h.length:Int) 20 v.1 v.2.1 v.2.2 (λC D M=>nx (C,D,M)) (λx y=>j (x,y))) (λv=>0<=v.1/\v.1<=h.length/\v.2.1=v.1+20/\ct h v.2.2/\(h.length<20->v.1=0/\v.2.2=h)) (λv=>0<=v.1/\v.1<=h.length/\ct h v.2/\(h.length<20->v.1=0/\v.2=h)) (by
  rintro⟨a,b,g⟩ ⟨a0,E,hb,t,F⟩;simp only at a0 E hb t F ⊢;have N:=t.1;by_cases hc:b<=h.length
  .obtain⟨r,w,B,_⟩:=BK (K:=K) (h:=g) (a:=a) (b:=b) (λx hx=>hK x (t.2 x hx)) A1 a0 A1 A1;refine .inr ⟨(b,b+20,r),⟨D4,hc,rfl,t.trans B,λq=>A1⟩,D4,λj nx=> ?_⟩;unfold z5k.b2;rw[dT hc,cT];show Option.bind (E5 K g a b) _=_;rw[w,bS,aH (x:=b+20) A1]
  .refine .inl ⟨(a,g),⟨a0,E,t,F⟩,λj nx=> ?_⟩;unfold z5k.b2;rw[dF hc,cF]) (h.length+1) (0,20,h) ⟨C3,C3,rfl,.refl h,λ_=>⟨rfl,rfl⟩⟩ C3
 simp only at S T L Y;have h2l:=L.1;obtain⟨r,w,B,Q⟩:=BK (K:=K) (h:=h2) (a:=X) (b:=h.length) (λx hx=>hK x (L.2 x hx)) A1 S T A1;have hr:ct h r:=L.trans B;have G:h.length<20->r=sortT h:=λq=>Hd
 obtain⟨f,⟨f1,f2⟩,e7⟩:=j7 (R:=AT×RV Ob) (A:=RV Tm) (λv:Int×RV Tm=>(h.length-v.1).toNat) (λj v nx=>z5k.b7 (GSt K k) (h.length+1) (h.length:Int) v.1 v.2 (λC D=>nx (C,D)) j) (λv=>20<=v.1/\v.1<=4294967296/\ct h v.2/\(h.length<20->v.2=r)) (λf=>ct h f/\(h.length<20->f=r)) (by
  rintro⟨d,g⟩ ⟨b0,b1,t,H⟩;simp only at b0 b1 t H ⊢;have N:=t.1;by_cases hc:d<h.length
  .refine .inr ?_;obtain⟨⟨a3,U⟩,⟨q1,q2,q3⟩,V⟩:=j7 (R:=AT×RV Ob) (A:=Int×RV Tm) (λv:Int×Int×RV Tm=>(h.length-v.1).toNat) (λj v nx=>z5k.b9 (GSt K k) (h.length+1) (h.length:Int) d v.1 v.2.1 v.2.2 (λC D M=>nx (C,D,M)) (λx y=>j (x,y))) (λv=>0<=v.1/\v.1<=h.length/\v.2.1=v.1+2*d/\ct h v.2.2) (λv=>0<=v.1/\v.1<=h.length/\ct h v.2) (by
    rintro⟨a,b,f⟩ ⟨a0,E,hb,I⟩;simp only at a0 E hb I ⊢;have hfl:=I.1;by_cases hd:b<=h.length
    .obtain⟨r,w,B⟩:=vY (K:=K) k f a (a+d) b (λx hx=>hK x (I.2 x hx)) A1 a0 A1 A1 A1 A1;refine .inr ⟨(b,b+2*d,r),⟨D4,hd,rfl,I.trans B⟩,D4,λj nx=> ?_⟩;unfold z5k.b9;rw[dT hd,cT,aH (x:=a+d) A1];show Option.bind (iO K k f a (a+d) b) _=_;rw[w,bS,aH (x:=2*d) A1,aH (x:=b+2*d) A1]
    .refine .inl ⟨(a,f),⟨a0,E,I⟩,λj nx=> ?_⟩;unfold z5k.b9;rw[dF hd,cF]) (h.length+1) (0,2*d,g) ⟨C3,C3,C3,t⟩ C3
   simp only at q1 q2 q3;have h3l:=q3.1;by_cases hd:a3+d<h.length
   .obtain⟨r',O,P⟩:=vY (K:=K) k U a3 (a3+d) h.length (λx hx=>hK x (q3.2 x hx)) A1 q1 A1 hd A1 A1;refine⟨(d*2,r'),⟨D4,D4,q3.trans P,λq=>A1⟩,D4,λj nx=> ?_⟩;unfold z5k.b7;rw[dT hc,cT,aH (x:=2*d) A1];refine(V (λv=>bif decide ((wr (v.1+d))<(h.length:Int))then Option.bind (iO K k v.2 v.1 (wr (v.1+d)) h.length) λr=>nx (wr (d*2),r)else nx (wr (d*2),v.2))).trans ?_;rw[aH (x:=a3+d) A1,dT hd,cT,O,bS,aH (x:=d*2) A1]
   .refine⟨(d*2,U),⟨D4,D4,q3,λq=>A1⟩,D4,λj nx=> ?_⟩;unfold z5k.b7;rw[dT hc,cT,aH (x:=2*d) A1];refine(V (λv=>bif decide ((wr (v.1+d))<(h.length:Int))then Option.bind (iO K k v.2 v.1 (wr (v.1+d)) h.length) λr=>nx (wr (d*2),r)else nx (wr (d*2),v.2))).trans ?_;rw[aH (x:=a3+d) A1,dF hd,cF,aH (x:=d*2) A1]
  .refine .inl ⟨g,⟨t,H⟩,λj nx=> ?_⟩;unfold z5k.b7;rw[dF hc,cF]) (h.length+1) (20,r) ⟨C3,C3,hr,λ_=>rfl⟩ D4
 refine⟨f,f1,λq=>(f2 q).trans (G q),h.length+1,?_⟩;unfold z5k.aq;refine(Z (λv=>Option.bind (E5 K v.2 v.1 h.length) λr=>z5k.l7 (GSt K k) (h.length+1) (h.length+1) (h.length:Int) 20 r λJ=>OUT J)).trans ?_;rw[w,bS];exact e7 OUT
theorem El(K k:Nat)(hK:K<=4294967296):aj (z5k.ent (lp K k)):=z5k.ok (G:=GSt K k) ⟨oW K hK,pu K hK k,trivial⟩ λ_ _ _ hr=>(fA hr).2.2
noncomputable def gSS(K k:Nat):RV Tm->Y (RV Tm):=λh=>nX λr=>ct h r/\(h.length<20->r=sortT h)/\z5h.cO ⟨lp K k⟩ h r
theorem th(K k:Nat)(hK:K<=4294967296):aj (z5h.ent (gSS K k)):=z5h.ok (G:=⟨lp K k⟩) ⟨El K k hK,trivial⟩ λ_ _ hr=>(fA hr).2.2
theorem MW{K k:Nat}{h:RV Tm}(hK:∀x∈h,x.az<K)(hl:h.length<=1073741824)(hk:h.length<k):∃r,gSS K k h=some r/\ct h r/\(h.length<20->r=sortT h):=by
 suffices v:∃r,ct h r/\(h.length<20->r=sortT h)/\z5h.cO ⟨lp K k⟩ h r by
  obtain⟨r,d,j,t,_⟩:=jj v;exact⟨r,d,j,t⟩
 obtain⟨r,d,j,t⟩:=C9 hK hl hk;refine⟨r,j,t,1,?_⟩;unfold z5h.aq;show Option.bind (lp K k h h.length) _=_;rw[d,bS]
theorem Ep:aj (z13.ent zo):=z13.ok (G:=⟨()⟩) trivial λab be kd nm sb ops m op r h=>by
 unfold zo at h;split at h
 .rename_i hs;obtain⟨o,ho,rfl⟩:=Option.map_eq_some_iff.1 h;have hk:=jd hs.1 (ci ho).1;have d:=hk.u1;have j:ops.length<=14:=(eF hs.1).1;have:o.aE<=(ops.length:Int):=d;refine⟨1,?_⟩;unfold z13.aq unT;rw[ho,bS,aH (x:=o.aE-1) (by have:=hk.u0;omega)]
 .cases h
def gm(o:Opr)(op:Int)(l:RV Tm)(x:Tm):RV Tm:=if o.aA=true/\x.op=op then l++x.ac else if jG o x=true then l else l++[x]
def dW(s:Sg)(o:Opr)(op:Int):Int->RV Tm->RV Tm->Y (RV Tm)
 |_,[],acc=>some acc
 |i,x::xs,acc=>if dm s x=ni s o i then dW s o op (i+1) xs (gm o op acc x)else none
def iF(o:Opr)(op:Int)(l:RV Tm):Tm:=Tm.mk op ByteArray.empty 0 (if o.comm=true then sortT l else l)
def ju(o:Opr)(l:RV Tm)(t:Tm):Y Tm:=if (o.aA=true/\7<l.length)\/60<tsz t\/20<tdp t then none else some t
def M6(o:Opr)(l:RV Tm):Tm:=match l with
 |[x]=>x
 |_=>unT o
def gi(o:Opr)(ac:RV Tm):Prop:=if o.aA=true then 2<=ac.length else ac.length=(first o).ac.length
instance (o : Opr) (ac : RV Tm) : Decidable (gi o ac) := by unfold gi; exact inferInstance
def dy(s:Sg)(o:Opr)(op:Int)(ac:RV Tm):Y Tm:=if gi o ac then (dW s o op 0 ac []).bind λl=>if o.aE≠0/\l.length<2 then some (M6 o l)else ju o l (iF o op l)else none
theorem CA(a b:RV Tm):ap (a++b)=ap a+ap b:=by unfold ap;simp;omega
theorem fI(o:Opr)(op:Int)(l:RV Tm)(x:Tm):ap (gm o op l x)<=ap l+(1+x.az):=by
 unfold gm;have ht:=bj x;split
 .rw[CA];omega
 .split
  .omega
  .rw[CA,dP,fO];omega
theorem lX{s:Sg}{o:Opr}{op:Int}:∀{xs:RV Tm}{i:Int}{acc l:RV Tm},dW s o op i xs acc=some l->ap l<=ap acc+ap xs
 |[],_,_,_,h=>by cases h;rw[fO];omega
 | x::xs,i,acc,l,h=>by
  unfold dW at h;split at h
  .have:=lX h;have:=fI o op acc x;rw[dP];omega
  .cases h
theorem oC{s:Sg}{o:Opr}{op:Int}(d:o.aA=false):∀{xs:RV Tm}{i:Int}{acc l:RV Tm},dW s o op i xs acc=some l->l.length<=acc.length+xs.length
 |[],_,_,_,h=>by cases h;simp
 | x :: xs,i,acc,l,h=>by
  unfold dW at h;split at h
  .have:=oC d h;have:(gm o op acc x).length<=acc.length+1:=by
    unfold gm;rw[d,N3 C3];split
    .omega
    .simp
   simp only[NU];omega
  .cases h
section
variable {R : Type}
def IM(r:Y Tm)(d:Bool->Int->Z->Int->RV Tm->Y R):Y R:=match r with
 |some t=>d true t.op t.ae t.ag t.ac
 |none=>d false 0 ByteArray.empty 0 []
end
noncomputable abbrev GB:z0t.Gs:={z10:=gn,z0s:=lG,z0y:=tg,z13:=zo,z5h:=gSS 4294967296 (1073741824+1),z0n:=gSz 4294967296,z0c:=gDp 4294967296}
section
variable {R : Type} {kd ab be : RV Int} {nm : RV Z} {sb : RV Sb} {ops : RV Opr} {op : Int} {o : Opr} (hA : Alg kd nm sb ops) (ho : ix ops op = some o)
theorem KU(n:Nat)(m:Mp)(h2 j:Int)(t:Z)(v:RV Tm)(o:Opr)(r:RV Tm)(hr:ap r<4294967296)(h:Bool->Int->Z->Int->RV Tm->Y R):
  z0t.c21 GB n ab be kd nm sb ops op m h2 t j v o.ae o.aC o.aA o.comm o.aE r h=IM (ju o r (Tm.mk op ByteArray.empty 0 r)) h:=by
 have ht:(Tm.mk op ByteArray.empty 0 r).az<4294967296:=by
  exact R5
 have w:gSz 4294967296 (Tm.mk op ByteArray.empty 0 r)=some (tsz (Tm.mk op ByteArray.empty 0 r):Int):=N1 ht;have y:gDp 4294967296 (Tm.mk op ByteArray.empty 0 r)=some (tdp (Tm.mk op ByteArray.empty 0 r):Int):=N1 ht;have tail:(Option.bind (gSz 4294967296 (Tm.mk op ByteArray.empty 0 r)) λz=>bif decide (60<z)then (h false 0 ByteArray.empty 0 [])else Option.bind (gDp 4294967296 (Tm.mk op ByteArray.empty 0 r)) λA=>bif decide (20<A)then (h false 0 ByteArray.empty 0 [])else h true op ByteArray.empty 0 r)=IM (if 60<tsz (Tm.mk op ByteArray.empty 0 r)\/20<tdp (Tm.mk op ByteArray.empty 0 r)then none else some (Tm.mk op ByteArray.empty 0 r)) h:=by
  rw[w,bS];by_cases c1:60<tsz (Tm.mk op ByteArray.empty 0 r)
  .rw[dT A1,cT,N1 (.inl c1)];rfl
  .rw[dF A1,cF,y,bS];by_cases c2:20<tdp (Tm.mk op ByteArray.empty 0 r)
   .rw[dT A1,cT,N1 (.inr c2)];rfl
   .rw[dF A1,cF,N3 A1];rfl
 unfold z0t.c21 ju;cases B:o.aA with
 | true=>
  rw[cT];by_cases c:7<r.length
  .rw[dT A1,cT,N1 (.inl ⟨rfl,c⟩)];rfl
  .grind
 | false=>
  rw[cF];refine tail.trans ?_
  congr 1
  by_cases d:60<tsz (Tm.mk op ByteArray.empty 0 r)\/20<tdp (Tm.mk op ByteArray.empty 0 r)
  .grind
  .grind
theorem K3(n:Nat)(m:Mp)(h2 d:Int)(j:Z)(v:RV Tm)(o:Opr)(l:RV Tm)(hl:ap l<1073741824)(w:o.aA=false->l.length<20)(t:Bool->Int->Z->Int->RV Tm->Y R):
  z0t.c19 GB n ab be kd nm sb ops op m h2 j d v o.ae o.aC o.aA o.comm o.aE l t=IM (ju o l (iF o op l)) t:=by
 have y:=bZ l;unfold z0t.c19;cases hc:o.comm with
 | false=>
  rw[cF];have e:=KU (R:=R) (kd:=kd) (ab:=ab) (be:=be) (nm:=nm) (sb:=sb) (ops:=ops) (op:=op) n m h2 d j v o l A1 t;rw[hc]at e;refine e.trans ?_;unfold iF;rw[hc,N3 D2]
 | true=>
  rw[cT];obtain⟨r,A,B,C⟩:=MW (K:=4294967296) (k:=1073741824+1) (h:=l) (λx hx=>by have:=kP hx;omega) A1 A1;show Option.bind (gSS 4294967296 (1073741824+1) l) _=_;rw[A,bS];by_cases c:l.length<20
  .have:=C c;subst this;have e:=KU (R:=R) (kd:=kd) (ab:=ab) (be:=be) (nm:=nm) (sb:=sb) (ops:=ops) (op:=op) n m h2 d j v o (sortT l) (by rw[kL];omega) t;rw[hc]at e;refine e.trans ?_;unfold iF ju;rw[hc,N1 rfl,gT]
  .have D:o.aA=true:=by
    cases h:o.aA with
    |true=>rfl
    |false=>exact absurd (w h) c
   unfold z0t.c21 ju;rw[D,cT,dT (by have:=B.1;omega),cT,N1 (.inl ⟨rfl,A1⟩)];rfl
include hA ho
theorem Ma(n:Nat)(ac:RV Tm)(M:∀a∈ac,Good ⟨⟨nm,sb⟩,ops⟩ a)(hb:ap ac<1073741824)(F:gi o ac)(m:Mp)(h2 j:Int)(t:Z)(B:RV Tm)(v:Bool->Mp->Int->Z->Int->RV Tm->Y R)(k1:Mp->RV Tm->Y R):∀f i acc,i<=ac.length->ap acc+ap (ac.drop i)<1073741824->ac.length-i<f->
  z0t.l6 GB n f ab be kd nm sb ops op ac (ac.length:Int) h2 t j B o.ae o.aC o.aA o.comm o.aE (i:Int) m acc v k1=match dW ⟨⟨nm,sb⟩,ops⟩ o op (i:Int) (ac.drop i) acc with
   |some l=>k1 m l
   |none=>v false m 0 ByteArray.empty 0 []:=by
 have hk:=jd hA.1 (ci (xs:=ops) ho).1;have N:=bZ ac;intro f
 induction f with
 |zero=>intro i _ _ _ hm;omega
 | succ f O=>
  intro i acc h1 C hm;show z0t.b6 GB n ab be kd nm sb ops op ac (ac.length:Int) h2 t j B o.ae o.aC o.aA o.comm o.aE (i:Int) m acc (λP Q S=>z0t.l6 GB n f ab be kd nm sb ops op ac (ac.length:Int) h2 t j B o.ae o.aC o.aA o.comm o.aE P Q S v k1) v k1=_;unfold z0t.b6;by_cases hi:i<ac.length
  .obtain⟨x,G,T⟩:=bu hi;have U:=M x T;rw[bg G,dP]at C;have H:0<=atI o (i:Int)/\atI o (i:Int)<(first o).ac.length:=by
    unfold atI gi at*;cases w:o.aA with
    |true=>have:=hk.two (.inl w);rw[N1 rfl];omega
    |false=>rw[w,N3 D2]at F;rw[N3 D2];omega
   have V:gn ab be kd nm sb ops m x=some (dm ⟨⟨nm,sb⟩,ops⟩ x,m):=N1 ⟨hA,U.kn⟩;have W:lG ab be kd nm sb ops m op (i:Int)=some (ni ⟨⟨nm,sb⟩,ops⟩ o (i:Int),m):=by
    unfold lG;rw[N1 ⟨hA,o,ho,H⟩,ho];rfl
   rw[bB hi,cT,aZ G,bS,Tm.eta,bg G];show Option.bind (gn ab be kd nm sb ops m x) _=_;rw[V,bS];show Option.bind (lG ab be kd nm sb ops m op (i:Int)) _=_;rw[W,bS];unfold dW;by_cases D:dm ⟨⟨nm,sb⟩,ops⟩ x=ni ⟨⟨nm,sb⟩,ops⟩ o (i:Int)
   .rw [decide_eq_true D,N5,cond_false,N1 D]
    have next:∀h,h=gm o op acc x->ap h<1073741824->z0t.l6 GB n f ab be kd nm sb ops op ac (ac.length:Int) h2 t j B o.ae o.aC o.aA o.comm o.aE (wr ((i:Int)+1)) m h v k1=match dW ⟨⟨nm,sb⟩,ops⟩ o op ((i:Int)+1) (ac.drop (i+1)) (gm o op acc x)with
      |some l=>k1 m l
      |none=>v false m 0 ByteArray.empty 0 []:=λh he _=>by
     subst he;have:=fI o op acc x;rw[bN A1];exact O (i+1) _ hi A1 A1
    have c12:¬(o.aA=true/\x.op=op)->z0t.c12 GB n ab be kd nm sb ops op ac (ac.length:Int) (i:Int) m h2 t j B o.ae o.aC o.aA o.comm o.aE acc x.op x.ae x.ag x.ac (λI J=>z0t.l6 GB n f ab be kd nm sb ops op ac (ac.length:Int) h2 t j B o.ae o.aC o.aA o.comm o.aE (wr ((i:Int)+1)) I J v k1)=match dW ⟨⟨nm,sb⟩,ops⟩ o op ((i:Int)+1) (ac.drop (i+1)) (gm o op acc x)with
      |some l=>k1 m l
      |none=>v false m 0 ByteArray.empty 0 []:=λK=>by
     unfold z0t.c12;rw[Tm.eta];have X:tg ab be kd nm sb ops m op x=some (jG o x,m):=by
      unfold tg;rw[N1 hA,ho];rfl
     show Option.bind (tg ab be kd nm sb ops m op x) _=_;rw[X,bS];have d:gm o op acc x=if jG o x=true then acc else acc++[x]:=N3 K;have y:=fI o op acc x;have A:=bZ (gm o op acc x);cases L:jG o x with
     | true=>
      rw[L,N1 rfl]at d;exact next acc d.symm A1
     | false=>
      rw[L,N3 D2]at d;rw[d]at A y;show Option.bind (lim (acc++[x])) _=_;rw[dw A1,bS];exact next (acc++[x]) d.symm A1
    cases w:o.aA with
    | false=>
     rw[cF];have:=c12 (by rw[w];simp);rw[w]at this;exact this
    | true=>
     rw[cT];by_cases E:x.op=op
     .rw[dT E,cT];have d:gm o op acc x=acc++x.ac:=N1 ⟨w,E⟩;have y:=fI o op acc x;have A:=bZ (gm o op acc x);rw[d]at A y;rw[dw A1,bS];have:=next (acc++x.ac) d.symm A1
      rw[w]at this;exact this
     .grind
   .grind
  .obtain rfl:i=ac.length:=A1
   exact RP
theorem b_c4(n:Nat)(ac:RV Tm)(O:∀a∈ac,Good ⟨⟨nm,sb⟩,ops⟩ a)(hb:ap ac<1073741824)(w:gi o ac)(S:ac.length<n)(m:Mp)(h2 j:Int)(t:Z)(A:RV Tm)(y:Bool->Mp->Int->Z->Int->RV Tm->Y R):
  z0t.c4 GB n ab be kd nm sb ops op ac m h2 t j A o.ae o.aC o.aA o.comm o.aE y=IM (dy ⟨⟨nm,sb⟩,ops⟩ o op ac) (λP a b c d=>y P m a b c d):=by
 have hk:=jd hA.1 (ci (xs:=ops) ho).1;unfold z0t.c4 dy;rw[N1 w];have e:=Ma (R:=R) (ab:=ab) (be:=be) hA ho n ac O hb w m h2 j t A y (fun h v=>
   bif !decide (o.aE=0)then
    (bif decide ((List.length v:Int)<2)then
     (bif decide ((List.length v:Int)=1)then
      (Option.bind (ix v 0) λe=>y true h (Tm.op e) (Tm.ae e) (Tm.ag e) (Tm.ac e))
     else
      Option.bind (zo ab be kd nm sb ops h op) λr=>y true r.2 (Tm.op r.1) (Tm.ae r.1) (Tm.ag r.1) (Tm.ac r.1))
    else
     z0t.c19 GB n ab be kd nm sb ops op h h2 t j A o.ae o.aC o.aA o.comm o.aE v (λt72 B C D E=>y t72 h B C D E))
   else
    z0t.c19 GB n ab be kd nm sb ops op h h2 t j A o.ae o.aC o.aA o.comm o.aE v (λL F G H I=>y L h F G H I)) n 0 [] A1 (by simp[fO];exact hb) A1
 simp only[NN]at e;refine e.trans ?_
 show (match dW ⟨⟨nm,sb⟩,ops⟩ o op 0 ac []with
  |some l=>_
  |none=>_)=_
 cases M:dW ⟨⟨nm,sb⟩,ops⟩ o op 0 ac []with
 |none=>rfl
 | some l=>
  have ht:=lX M;rw[fO]at ht;have J:o.aA=false->l.length<20:=λN=>by
   have:=oC N M;unfold gi at w;rw[N,N3 D2]at w;have:=hk.fa;simp only[Pf]at*;omega
  simp only[bS];by_cases K:o.aE=0
  .rw[dT K,N5,cF,N3 (by simp[K])];exact K3 (R:=R) n m h2 j t A o l A1 J _
  .rw [decide_eq_false K,NR,cond_true];by_cases hl:l.length<2
   .rw [decide_eq_true A1,cond_true,N1 ⟨K,hl⟩]
    match l,hl with
    |[x],_=>rfl
    | [], _=>
     have Q:zo ab be kd nm sb ops m op=some (unT o,m):=by
      unfold zo;rw[N1 hA,ho];rfl
     show Option.bind (zo ab be kd nm sb ops m op) _=_;rw[Q];rfl
   .rw[dF A1,cF,N3 A1];exact K3 (R:=R) n m h2 j t A o l A1 J _
end
theorem Nh{R:Type}{kd ab be:RV Int}{nm:RV Z}{sb:RV Sb}{ops:RV Opr}{op:Int}{o:Opr}(hA:Alg kd nm sb ops)(ho:ix ops op=some o)(ac:RV Tm)(C:∀a∈ac,Good ⟨⟨nm,sb⟩,ops⟩ a)(hb:ap ac<1073741824)(m:Mp)(K:Tm->Bool->Mp->Y R):
  z0t.aq GB (ac.length+1) ab be kd nm sb ops m op ac K=K ((dy ⟨⟨nm,sb⟩,ops⟩ o op ac).getD Zt) (dy ⟨⟨nm,sb⟩,ops⟩ o op ac).isSome m:=by
 have hk:=jd hA.1 (ci (xs:=ops) ho).1;unfold z0t.aq;rw[ho,bS];have d:gi o ac->z0t.c4 GB (ac.length+1) ab be kd nm sb ops op ac m 0 ByteArray.empty 0 [] o.ae o.aC o.aA o.comm o.aE (λD v w y A B=>K (Tm.mk w y A B) D v)=K ((dy ⟨⟨nm,sb⟩,ops⟩ o op ac).getD Zt) (dy ⟨⟨nm,sb⟩,ops⟩ o op ac).isSome m:=λh=>by
  rw[b_c4 hA ho (ac.length+1) ac C hb h A1];cases dy ⟨⟨nm,sb⟩,ops⟩ o op ac with
  |none=>rfl
  |some t=>show K (Tm.mk t.op t.ae t.ag t.ac) true m=_;rw[Tm.eta];rfl
 have bad:¬gi o ac->K Zt false m=K ((dy ⟨⟨nm,sb⟩,ops⟩ o op ac).getD Zt) (dy ⟨⟨nm,sb⟩,ops⟩ o op ac).isSome m:=λh=>by
  unfold dy;rw[N3 h];rfl
 cases j:o.aA with
 | true=>
  rw[j]at d;rw[cT];by_cases hl:ac.length<2
  .rw[dT A1,cT];exact bad (by unfold gi;rw[j,N1 rfl];omega)
  .rw[dF A1,cF,N5,cF];exact d (by unfold gi;rw[j,N1 rfl];omega)
 | false=>
  rw[j]at d;rw[cF,NR,cT,cH hk.dl,bS];by_cases hl:ac.length=(first o).ac.length
  .rw[dT A1,N5,cF];exact d (by unfold gi;rw[j,N3 D2];exact hl)
  .rw[dF A1,NR,cT];exact bad (by unfold gi;rw[j,N3 D2];exact hl)
noncomputable def pg:RV Int->RV Int->RV Int->RV Z->RV Sb->RV Opr->Mp->Int->RV Tm->Y (Tm×Bool×Mp):=λ_ _ kd nm sb ops m op ac=>if Alg kd nm sb ops/\(∀a∈ac,Good ⟨⟨nm,sb⟩,ops⟩ a)/\ap ac<1073741824 then (ix ops op).map (λo=>((dy ⟨⟨nm,sb⟩,ops⟩ o op ac).getD Zt,(dy ⟨⟨nm,sb⟩,ops⟩ o op ac).isSome,m))else none
theorem Ig:aj (z0t.ent pg):=z0t.ok (G:=GB) ⟨oF,rE,tB,Ep,th 4294967296 (1073741824+1) (N4 _),z0o 4294967296 (N4 _),z0d 4294967296 (N4 _),trivial⟩ λab be kd nm sb ops m op ac r h=>by
 unfold pg at h;split at h
 .rename_i hs;obtain⟨hA,d,hb⟩:=hs;obtain⟨o,ho,rfl⟩:=Option.map_eq_some_iff.1 h;refine⟨ac.length+1,(Nh (ab:=ab) (be:=be) hA ho ac d hb m _).trans rfl⟩
 .cases h
def md(o:Opr)(l:RV Tm)(t:Tm):Bool:=(!o.aA||decide (l.length<=7))&&(decide (tsz t<=60)&&decide (tdp t<=20))
def ff(s:Sg)(o:Opr)(op:Int)(ac:RV Tm):Tm×Bool:=if gi o ac then (match dW s o op 0 ac []with
 |some l=>if o.aE≠0/\l.length<2 then (M6 o l,true)else (iF o op l,md o l (iF o op l))
 |none=>(Zt,false))else (Zt,false)
theorem uY(o:Opr)(l:RV Tm)(t:Tm):ju o l t=if md o l t=true then some t else none:=by
 unfold ju md;cases d:o.aA with
 | true=>
  by_cases h1:l.length<=7
  .grind
  .grind
 | false=>
  by_cases h2:tsz t<=60
  .grind
  .grind
theorem wB(s:Sg)(o:Opr)(op:Int)(ac:RV Tm):(ff s o op ac).2=(dy s o op ac).isSome/\∀t,dy s o op ac=some t->(ff s o op ac).1=t:=by
 unfold ff dy;by_cases d:gi o ac
 .rw [N1 d,N1 d];cases v:dW s o op 0 ac []with
  |none=>exact⟨rfl,λt h=>Hm⟩
  | some l=>
   simp only[bS];by_cases j:o.aE≠0/\l.length<2
   .grind
   .rw[N3 j,N3 j,uY];cases hk:md o l (iF o op l)with
    |true=>rw[N1 rfl];exact⟨rfl,λt h=>QF⟩
    |false=>rw[N3 D2];exact⟨rfl,λt h=>Hm⟩
 .grind
noncomputable abbrev GM:z4r.Gs:={z4a:=fK,z4c:=gAr,z4w:=sR,z4p:=fL,z4l:=eP 4294967296,z4i:=gCp 4294967296,z3u:=qE 4294967296,z4g:=wg 4294967296,z4v:=gSm 4294967296}
def gh(o:Opr):Bool:= !decide (o.aE=0)
section
variable {R : Type} {nm : RV Z} {sb : RV Sb} {ops : RV Opr} {op : Int} {o : Opr} (hS : bI ⟨⟨nm, sb⟩, ops⟩ = true) (ho : ix ops op = some o)
include hS ho
theorem Nu(n:Nat)(ac:RV Tm)(i:Nat)(x:Tm)(hx:ac[i]? =some x)(J:Good ⟨⟨nm,sb⟩,ops⟩ x)(y:0<=atI o (i:Int)/\atI o (i:Int)<(first o).ac.length)(h1 t:Int)(v:Z)(h2 acc:RV Tm)(hb:ap acc+(1+x.az)<1073741824)(K:Bool->Int->Z->Int->RV Tm->Y R)(k1:RV Tm->Y R):
  z4r.c13 GM n op ac (br nm.length sb) (gh o) (i:Int) (atI o (i:Int)) nm sb ops h1 v t h2 o.ae o.aC o.aA o.comm o.aE (uOf o).op (uOf o).ae (uOf o).ag (uOf o).ac acc K k1=if dm ⟨⟨nm,sb⟩,ops⟩ x=ni ⟨⟨nm,sb⟩,ops⟩ o (i:Int)then k1 (gm o op acc x)else K false 0 ByteArray.empty 0 []:=by
 have hk:=jd hS (ci (xs:=ops) ho).1;obtain⟨L,M,a3⟩:=zN hk y.1 y.2;have a4:=rD (s:=⟨⟨nm,sb⟩,ops⟩) M a3;have E:ix (br nm.length sb) (aU (first o).ac (atI o (i:Int)))=some (ni ⟨⟨nm,sb⟩,ops⟩ o (i:Int)):=a4;have A:=fI o op acc x;have B:=bZ (gm o op acc x);unfold z4r.c13;rw[aZ hx,bS,Tm.eta];have N:fL ⟨⟨nm,sb⟩,ops⟩ x=some (dm ⟨⟨nm,sb⟩,ops⟩ x):=N1 ⟨hS,J.kn⟩;show Option.bind (fL ⟨⟨nm,sb⟩,ops⟩ x) _=_;rw[N,bS,cH hk.dl,bS,L,bS,E,bS];by_cases C:dm ⟨⟨nm,sb⟩,ops⟩ x=ni ⟨⟨nm,sb⟩,ops⟩ o (i:Int)
 .rw [decide_eq_true C,N5,cond_false,N1 C];have c17:jG o x=false->z4r.c17 GM n op ac (br nm.length sb) (gh o) (i:Int) nm sb ops h1 v t h2 o.ae o.aC o.aA o.comm o.aE (uOf o).op (uOf o).ae (uOf o).ag (uOf o).ac acc k1=k1 (gm o op acc x):=λh=>by
   have c15:¬(o.aA=true/\x.op=op)->z4r.c15 GM n op ac (br nm.length sb) (gh o) (i:Int) nm sb ops h1 v t h2 o.ae o.aC o.aA o.comm o.aE (uOf o).op (uOf o).ae (uOf o).ag (uOf o).ac acc k1=k1 (gm o op acc x):=λF=>by
    have d:gm o op acc x=acc++[x]:=by unfold gm;rw[N3 F,h,N3 D2]
    rw[d]at B A ⊢;unfold z4r.c15;rw[aZ hx,bS,Tm.eta,dw A1,bS]
   unfold z4r.c17;cases G:o.aA with
   | false=>
    rw[G]at c15;rw[cF];exact c15 C3
   | true=>
    rw[G]at c15;rw[cT,aZ hx,bS];by_cases j:x.op=op
    .have d:gm o op acc x=acc++x.ac:=N1 ⟨G,j⟩;rw[d]at B A ⊢;rw[dT j,cT,bS,dw A1,bS]
    .grind
  by_cases w:o.aE=0
  .have h:jG o x=false:=by unfold jG;rw[dT w];rfl
   have H:gh o=false:=by unfold gh;rw[dT w];rfl
   have c17:=c17 h;rw[H]at c17 ⊢;rw[cF];exact c17
  .obtain⟨u1,u2⟩:=A7 hS ho w J;have H:gh o=true:=by unfold gh;rw[dF w];rfl
   have D:uOf o=unT o:=N3 w;have I:x.az<4294967296:=A1
   have O:eP 4294967296 x (unT o)=some (decide (bH x (unT o)=0)):=N1 I;rw[H]at c17 ⊢;rw[cT,bS,Tm.eta,Tm.eta,D];show Option.bind (eP 4294967296 x (unT o)) _=_;rw[O,bS];by_cases hc:bH x (unT o)=0
   .have j:=u1.1 hc;have d:gm o op acc x=acc:=by
     unfold gm jG;rw[N3 (u2 j),dF w,dT j];rfl
    rw[dT hc,cT,d]
   .have h:jG o x=false:=by
     unfold jG;rw[dF w,dF (λq=>hc (u1.2 q))];rfl
    rw[dF hc,cF];have:=c17 h;rw[D]at this;exact this
 .grind
theorem MD(n:Nat)(ac:RV Tm)(I:∀a∈ac,Good ⟨⟨nm,sb⟩,ops⟩ a)(hb:ap ac<1073741824)(E:gi o ac)(h1 d:Int)(h:Z)(h2:RV Tm)(j:Bool->Int->Z->Int->RV Tm->Y R)(k1:RV Tm->Y R):∀f i acc,i<=ac.length->ap acc+ap (ac.drop i)<1073741824->ac.length-i<f->
  z4r.l8 GM n f op ac (br nm.length sb) (gh o) nm sb ops h1 h d h2 o.ae o.aC o.aA o.comm o.aE (uOf o).op (uOf o).ae (uOf o).ag (uOf o).ac (i:Int) acc j k1=match dW ⟨⟨nm,sb⟩,ops⟩ o op (i:Int) (ac.drop i) acc with
   |some l=>k1 l
   |none=>j false 0 ByteArray.empty 0 []:=by
 have hk:=jd hS (ci (xs:=ops) ho).1;have J:=bZ ac;intro f
 induction f with
 |zero=>intro i _ _ _ hm;omega
 | succ f K=>
  intro i acc L B hm;show z4r.b8 GM n op ac (br nm.length sb) (gh o) nm sb ops h1 h d h2 o.ae o.aC o.aA o.comm o.aE (uOf o).op (uOf o).ae (uOf o).ag (uOf o).ac (i:Int) acc (λM N=>z4r.l8 GM n f op ac (br nm.length sb) (gh o) nm sb ops h1 h d h2 o.ae o.aC o.aA o.comm o.aE (uOf o).op (uOf o).ae (uOf o).ag (uOf o).ac M N j k1) j k1=_;unfold z4r.b8;by_cases hi:i<ac.length
  .obtain⟨x,F,O⟩:=bu hi;have P:=I x O;rw[bg F,dP]at B;have G:0<=atI o (i:Int)/\atI o (i:Int)<(first o).ac.length:=by
    unfold atI gi at*;cases H:o.aA with
    |true=>have:=hk.two (.inl H);rw[N1 rfl];omega
    |false=>rw[H,N3 D2]at E;rw[N3 D2];omega
   have e:=Nu (R:=R) hS ho n ac i x F P G h1 d h h2 acc A1 (λC t v w y=>j C t v w y) (λA=>z4r.l8 GM n f op ac (br nm.length sb) (gh o) nm sb ops h1 h d h2 o.ae o.aC o.aA o.comm o.aE (uOf o).op (uOf o).ae (uOf o).ag (uOf o).ac (wr ((i:Int)+1)) A j k1);have Q:(bif o.aA then z4r.c13 GM n op ac (br nm.length sb) (gh o) (i:Int) 0 nm sb ops h1 h d h2 o.ae o.aC o.aA o.comm o.aE (uOf o).op (uOf o).ae (uOf o).ag (uOf o).ac acc (λC t v w y=>j C t v w y) (λA=>z4r.l8 GM n f op ac (br nm.length sb) (gh o) nm sb ops h1 h d h2 o.ae o.aC o.aA o.comm o.aE (uOf o).op (uOf o).ae (uOf o).ag (uOf o).ac (wr ((i:Int)+1)) A j k1)else z4r.c13 GM n op ac (br nm.length sb) (gh o) (i:Int) (i:Int) nm sb ops h1 h d h2 o.ae o.aC o.aA o.comm o.aE (uOf o).op (uOf o).ae (uOf o).ag (uOf o).ac acc (λC t v w y=>j C t v w y) (λA=>z4r.l8 GM n f op ac (br nm.length sb) (gh o) nm sb ops h1 h d h2 o.ae o.aC o.aA o.comm o.aE (uOf o).op (uOf o).ae (uOf o).ag (uOf o).ac (wr ((i:Int)+1)) A j k1))=if dm ⟨⟨nm,sb⟩,ops⟩ x=ni ⟨⟨nm,sb⟩,ops⟩ o (i:Int)then z4r.l8 GM n f op ac (br nm.length sb) (gh o) nm sb ops h1 h d h2 o.ae o.aC o.aA o.comm o.aE (uOf o).op (uOf o).ae (uOf o).ag (uOf o).ac (wr ((i:Int)+1)) (gm o op acc x) j k1 else j false 0 ByteArray.empty 0 []:=by
    refine OI ?_ e;unfold atI;cases o.aA<;>rfl
   rw[bB hi,cT,bg F];refine Q.trans ?_;unfold dW;by_cases D:dm ⟨⟨nm,sb⟩,ops⟩ x=ni ⟨⟨nm,sb⟩,ops⟩ o (i:Int)
   .have:=fI o op acc x;rw[N1 D,N1 D,bN A1];exact K (i+1) _ hi A1 A1
   .grind
  .obtain rfl:i=ac.length:=A1
   exact RP
omit hS ho in
theorem NK(n:Nat)(h0 d:Int)(h:Z)(h1 l:RV Tm)(hl:ap l<1073741824)(j:Bool->Z->Int->RV Tm->Y R):
  z4r.c23 GM n op l h0 h d h1 o.ae o.aC o.aA o.comm o.aE j=j (md o l (iF o op l)) ByteArray.empty 0 (iF o op l).ac:=by
 have t:=bZ l;have c25:∀r,ap r<1073741824->r.length=l.length->z4r.c25 GM n op r h0 h d h1 o.ae o.aC o.aA o.comm o.aE j=j (md o l (Tm.mk op ByteArray.empty 0 r)) ByteArray.empty 0 r:=λr hr v=>by
  have ht:(Tm.mk op ByteArray.empty 0 r).az<4294967296:=by
   exact R5
  have w:gSm 4294967296 (Tm.mk op ByteArray.empty 0 r)=some (decide (tsz (Tm.mk op ByteArray.empty 0 r)<=60)&&decide (tdp (Tm.mk op ByteArray.empty 0 r)<=20)):=N1 ht;have y:wg 4294967296 r=some r:=N1 A1;unfold z4r.c25 md;show Option.bind (wg 4294967296 r) _=_;rw[y,bS];cases A:o.aA with
  | false=>
   rw[NR,cT];show Option.bind (gSm 4294967296 _) _=_;rw[w,bS];rfl
  | true=>
   rw[N5,cF];by_cases B:l.length<=7
   .grind
   .grind
 unfold z4r.c23;cases hc:o.comm with
 | true=>
  rw[cT];have e:qE 4294967296 l=some (sortT l):=N1 ⟨A1,A1⟩;show Option.bind (qE 4294967296 l) _=_;rw[e,bS];have:=c25 (sortT l) (by rw[kL];exact hl) (gT l);rw[hc]at this;refine this.trans ?_;unfold iF;rw[hc,N1 rfl]
 | false=>
  rw[cF];have:=c25 l hl rfl;rw[hc]at this;refine this.trans ?_;unfold iF;rw[hc,N3 D2]
theorem m_c5(n:Nat)(ac:RV Tm)(T:∀a∈ac,Good ⟨⟨nm,sb⟩,ops⟩ a)(hb:ap ac<1073741824)(w:gi o ac)(X:ac.length<n)(h1 d:Int)(h:Z)(h2:RV Tm)(v:Bool->Int->Z->Int->RV Tm->Y R):
  z4r.c5 GM n op ac (br nm.length sb) nm sb ops h1 h d h2 o.ae o.aC o.aA o.comm o.aE v=v (ff ⟨⟨nm,sb⟩,ops⟩ o op ac).2 (ff ⟨⟨nm,sb⟩,ops⟩ o op ac).1.op (ff ⟨⟨nm,sb⟩,ops⟩ o op ac).1.ae (ff ⟨⟨nm,sb⟩,ops⟩ o op ac).1.ag (ff ⟨⟨nm,sb⟩,ops⟩ o op ac).1.ac:=by
 have U:sR ⟨⟨nm,sb⟩,ops⟩ op=some (uOf o,gh o):=by
  unfold sR uOf gh;rw[N1 hS];show (ix ops op).map _=_;rw[ho,OG];by_cases j:o.aE=0
  .grind
  .grind
 unfold z4r.c5;show Option.bind (sR ⟨⟨nm,sb⟩,ops⟩ op) _=_;rw[U,bS]
 have e:=MD (R:=R) hS ho n ac T hb w h1 d h h2 (λV J K L M=>v V J K L M) (λt=>
   bif gh o then
    (bif decide ((List.length t:Int)=0)then (v true (uOf o).op (uOf o).ae (uOf o).ag (uOf o).ac)
    else z4r.c21 GM n op (gh o) h1 h d h2 o.ae o.aC o.aA o.comm o.aE t (λt72 A B C D=>v t72 A B C D))
   else z4r.c21 GM n op (gh o) h1 h d h2 o.ae o.aC o.aA o.comm o.aE t (λN E F G H=>v N E F G H)) n 0 [] A1 (by simp[fO];exact hb) A1
 simp only[NN]at e;refine e.trans ?_;unfold ff;rw[N1 w]
 show (match dW ⟨⟨nm,sb⟩,ops⟩ o op 0 ac []with
  |some l=>_
  |none=>_)=_
 cases S:dW ⟨⟨nm,sb⟩,ops⟩ o op 0 ac []with
 |none=>rfl
 | some l=>
  have ht:=lX S;rw[fO]at ht;have I:=NK (R:=R) (op:=op) (o:=o) n h1 d h h2 l A1;simp only;by_cases j:o.aE=0
  .have O:gh o=false:=by unfold gh;rw[dT j];rfl
   rw[O,cF,N3 (by simp[j])];unfold z4r.c21;rw[cF];exact I _
  .have O:gh o=true:=by unfold gh;rw[dF j];rfl
   have P:uOf o=unT o:=N3 j;rw[O,cT]
   match l,S,ht,I with
   |[],_,_,_=>rw[N1 ⟨j,C3⟩,P];rfl
   | [x],_,ht,_=>
    rw[N1 ⟨j,C3⟩];have Q:x.az<4294967296:=by rw[dP,fO]at ht;omega
    have W:gCp 4294967296 x=some x:=N1 Q;show z4r.c21 GM n op true h1 h d h2 o.ae o.aC o.aA o.comm o.aE [x] _=_;unfold z4r.c21;rw[cT];show Option.bind (gCp 4294967296 (Tm.mk x.op x.ae x.ag x.ac)) _=_;rw[Tm.eta,W];rfl
   | x::y::l,_,_,I=>
    rw[N3 C3];rw[dF (by simp only[NU];omega),cF];unfold z4r.c21;rw[cT,dF (by simp only[NU];omega),cF];exact I _
end
theorem LL{R:Type}{s:Sg}{op:Int}{o:Opr}(hS:bI s=true)(ho:ix s.ops op=some o)(ac:RV Tm)(B:∀a∈ac,Good s a)(hb:ap ac<1073741824)(K:Tm->Bool->Y R):
  z4r.aq GM (ac.length+1) s op ac K=K (ff s o op ac).1 (ff s o op ac).2:=by
 have hk:=jd hS (ci ho).1;have C:fK s.ai=some (br s.ai.ah.length s.ai.ak):=N1 (kM hS);have D:gAr o=some ((first o).ac.length:Int):=N1 hk.dl;have d:gi o ac->z4r.c5 GM (ac.length+1) op ac (br s.ai.ah.length s.ai.ak) s.ai.ah s.ai.ak s.ops 0 ByteArray.empty 0 [] o.ae o.aC o.aA o.comm o.aE (λA h j t v=>K (Tm.mk h j t v) A)=K (ff s o op ac).1 (ff s o op ac).2:=λw=>by
  have:=m_c5 (R:=R) (nm:=s.ai.ah) (sb:=s.ai.ak) (ops:=s.ops) hS ho (ac.length+1) ac B hb w A1 0 0 ByteArray.empty [] (λA h j t v=>K (Tm.mk h j t v) A);exact this.trans (congrArg (λz=>K z _) (Tm.eta _))
 have bad:¬gi o ac->K Zt false=K (ff s o op ac).1 (ff s o op ac).2:=λw=>by
  unfold ff;rw[N3 w]
 unfold z4r.aq;rw[ho,bS];show Option.bind (fK s.ai) _=_;rw[C,bS];show Option.bind (gAr o) _=_;rw[D,bS];by_cases hl:ac.length=(first o).ac.length
 .rw[dT A1,N5,cF];refine d ?_;unfold gi;cases y:o.aA with
  |true=>have:=hk.two (.inl y);rw[N1 rfl];omega
  |false=>rw[N3 D2];exact hl
 .rw [decide_eq_false A1,NR,cond_true];cases y:o.aA with
  | true=>
   rw[y]at d;rw[cT];by_cases h2:2<=ac.length
   .rw[dT A1,N5,cF];exact d (by unfold gi;rw[y,N1 rfl];exact h2)
   .rw[dF A1,NR,cT];exact bad (by unfold gi;rw[y,N1 rfl];exact h2)
  | false=>
   rw[cF];exact bad (by unfold gi;rw[y,N3 D2];exact hl)
noncomputable def uw:Sg->Int->RV Tm->Y (Tm×Bool):=λs op ac=>if bI s=true/\(∀a∈ac,Good s a)/\ap ac<1073741824 then (ix s.ops op).map (λo=>ff s o op ac)else none
theorem DQ:aj (z4r.ent uw):=z4r.ok (G:=GM) ⟨hY,mm,uz,om,lf 4294967296 (N4 _),od 4294967296 (N4 _),z3v 4294967296 (N4 _),pI 4294967296 (N4 _),qV 4294967296 (N4 _),trivial⟩ λs op ac r h=>by
 unfold uw at h;split at h
 .rename_i hs;obtain⟨hS,d,hb⟩:=hs;obtain⟨o,ho,rfl⟩:=Option.map_eq_some_iff.1 h;refine⟨ac.length+1,(LL hS ho ac d hb _).trans rfl⟩
 .cases h
end
end Go.Proofs.YtigoabbppmdfpaaGreat.Den

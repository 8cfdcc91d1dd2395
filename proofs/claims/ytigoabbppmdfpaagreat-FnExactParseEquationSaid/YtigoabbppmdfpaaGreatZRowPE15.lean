import Derived.Test.YtigoabbppmdfpaaGreatZRowPE8
namespace Go.Proofs.YtigoabbppmdfpaaGreat.Den
open Go.RowKit
set_option maxRecDepth 100000
set_option linter.unusedVariables false
noncomputable section
namespace z43
structure Gs where
 none_:Unit
def aq{R:Type}(G:Gs)(n:Nat)(x lo hi:Int)(K:Bool->Y R):Y R:=
 bif decide (lo<=x)then
  (K (decide (x<=hi)))
 else
  K false
theorem ok{G:Gs}(d:am []){g:Q}(h:∀x lo hi r,g x lo hi=some r->∃n,aq (R:=AT×RV Ob) G n x lo hi (λt=>some (.one (.b t),[]))=some (.one (.b r),[])):aj (ent g):=okQ λ_ _ _ _ _ _ hc=>okL hc λr j=>let⟨_,j⟩:=h _ _ _ _ j;fF d ⟨15,0,[],[],[6],[],[]⟩ nP Tryz.func120 j
end z43
namespace z42
structure Gs where
 none_:Unit
def ax(_:Gs):RV Ent:=[]
def b2{R:Type}(G:Gs)(n:Nat)(list:LB)(s:Z)(i:Int)(nx:LB->Z->Int->Y R)(d:Bool->Y R)(k1:Y R):Y R:=bif decide (i<(List.length list:Int))then((ix list i).bind λe=>bif sEq e s then(d true)else nx list s (wr (i+1)))else k1
def l2{R:Type}(G:Gs)(n m:Nat)(list:LB)(s:Z)(i:Int)(d:Bool->Y R)(k1:Y R):Y R:=aS (λ(v:LB×Z×Int) nx=>b2 G n v.1 v.2.1 v.2.2 (λh j t=>nx (h,j,t)) d k1) m (list,s,i)
def aq{R:Type}(G:Gs)(n:Nat)(list:LB)(s:Z)(K:Bool->Y R):Y R:=
 l2 G n n list s 0
  (λt4=>K t4)
  (K false)
def dl2(G:Gs)(n m:Nat):=rS [0,1,5] [.x (.l .s),.x .s,.x .i] [] λR K list s i=>l2 G n m list s i (λt4=>K .ret ⟨[(4,.one (.b t4))],[]⟩) (K (.exit 0) ⟨[],[]⟩)
def pc(G:Gs)(n:Nat):Pcs:=⟨λR id st K=>bif Nat.beq id 2 then dl2 G n n R st K else none,nK,nK⟩
def an:Ann:=⟨18,0,[(2,[0,1,5])],[],[4],[],[]⟩
abbrev bd:=aF Tryz.f119
abbrev q2:=aJ [1,0,1,0,0] bd
theorem pl2{G:Gs}(d:am (ax G))(n:Nat):∀m,al an (.loop q2) (dl2 G n m):=lpq d (pc G n) ⟨[],[4],[(0,[])]⟩
theorem ok{G:Gs}(d:am (ax G)){g:Q}(h:∀list s r,g list s=some r->∃n,aq (R:=AT×RV Ob) G n list s (λt=>some (.one (.b t),[]))=some (.one (.b r),[])):aj (ent g):=okQ λ_ _ _ _ _ hc=>okL hc λr j=>let⟨n,j⟩:=h _ _ _ j;fF d an (pc G n) Tryz.func119 j (apl [(1,2,.loop q2)] ⟨pl2 d n n,trivial⟩)
end z42
namespace z47
structure Gs where
 none_:Unit
def aq{R:Type}(G:Gs)(n:Nat)(a b:Int)(K:Int->Y R):Y R:=
 bif decide (a<b)then
  (K a)
 else
  K b
theorem ok{G:Gs}(d:am []){g:Q}(h:∀a b r,g a b=some r->∃n,aq (R:=AT×RV Ob) G n a b (λt=>some (.one (.i t),[]))=some (.one (.i r),[])):aj (ent g):=okQ λ_ _ _ _ _ hc=>okL hc λr j=>let⟨_,j⟩:=h _ _ _ j;fF d ⟨10,0,[],[],[4],[],[]⟩ nP Tryz.func159 j
end z47
namespace z48
structure Gs where
 none_:Unit
def aq{R:Type}(G:Gs)(n:Nat)(k:Int)(K:Int->Y R):Y R:=
 (bif decide (0<=(IntKind.wrap .u64 k))then some (Abs.bi .shl .i64 1 (IntKind.wrap .u64 k))else none).bind λq=>
 K q
theorem ok{G:Gs}(d:am []){g:Q}(h:∀k r,g k=some r->∃n,aq (R:=AT×RV Ob) G n k (λt=>some (.one (.i t),[]))=some (.one (.i r),[])):aj (ent g):=okQ λ_ _ _ _ hc=>okL hc λr j=>let⟨_,j⟩:=h _ _ j;fF d ⟨6,0,[],[],[2],[],[]⟩ nP Tryz.func158 j
end z48
namespace z49
structure Gs where
 none_:Unit
def aq{R:Type}(G:Gs)(n:Nat)(d k:Int)(K:Bool->Y R):Y R:=
 bif decide (0<=k)then
  (
  bif decide (k<16)then
   (
   (bif decide (0<=(IntKind.wrap .u64 k))then some (Abs.bi .shr .i64 d (IntKind.wrap .u64 k))else none).bind λq=>
   K (decide ((Abs.bi .and .i64 q 1)=1))
   )
  else
   K false
  )
 else
  K false
theorem ok{G:Gs}(h:am []){g:Q}(t:∀d k r,g d k=some r->∃n,aq (R:=AT×RV Ob) G n d k (λv=>some (.one (.b v),[]))=some (.one (.b r),[])):aj (ent g):=okQ λ_ _ _ _ _ hc=>okL hc λr j=>let⟨_,j⟩:=t _ _ _ j;fF h ⟨19,0,[],[],[4],[],[]⟩ nP Tryz.func122 j
end z49
namespace z3i
structure Gs where
 none_:Unit
def ax(_:Gs):RV Ent:=[]
def b4{R:Type}(G:Gs)(n:Nat)(s:Z)(i:Int)(nx:Z->Int->Y R)(d:Bool->Y R)(k1:Y R):Y R:=bif decide (i<(ByteArray.size s:Int))then((sIx s i).bind λb=>bif decide (97<=b)then((sIx s i).bind λb2=>bif decide (b2<=122)then(nx s (wr (i+1)))else(sIx s i).bind λb3=>bif decide (65<=b3)then((sIx s i).bind λb4=>bif decide (b4<=90)then(nx s (wr (i+1)))else(sIx s i).bind λb5=>bif decide (48<=b5)then((sIx s i).bind λb6=>bif !(decide (b6<=57))then(d false)else nx s (wr (i+1)))else d false)else(sIx s i).bind λb7=>bif decide (48<=b7)then((sIx s i).bind λb8=>bif !(decide (b8<=57))then(d false)else nx s (wr (i+1)))else d false)else(sIx s i).bind λb9=>bif decide (65<=b9)then((sIx s i).bind λb10=>bif decide (b10<=90)then(nx s (wr (i+1)))else(sIx s i).bind λb11=>bif decide (48<=b11)then((sIx s i).bind λb12=>bif !(decide (b12<=57))then(d false)else nx s (wr (i+1)))else d false)else(sIx s i).bind λb13=>bif decide (48<=b13)then((sIx s i).bind λb14=>bif !(decide (b14<=57))then(d false)else nx s (wr (i+1)))else d false)else k1
def l4{R:Type}(G:Gs)(n m:Nat)(s:Z)(i:Int)(d:Bool->Y R)(k1:Y R):Y R:=aS (λ(v:Z×Int) nx=>b4 G n v.1 v.2 (λh j=>nx (h,j)) d k1) m (s,i)
def c3{R:Type}(G:Gs)(n:Nat)(s:Z)(d:Bool->Y R):Y R:=l4 G n n s 0 (λh=>d h) (d true)
def aq{R:Type}(G:Gs)(n:Nat)(s:Z)(K:Bool->Y R):Y R:=
 bif sEq s (ByteArray.mk #[105,102])then
  (K false)
 else
  bif sEq s (ByteArray.mk #[97,110,100])then
   (K false)
  else
   bif decide ((ByteArray.size s:Int)<1)then
    (K false)
   else
    bif decide (12<(ByteArray.size s:Int))then
     (K false)
    else
     (sIx s 0).bind λb=>
     bif decide (97<=b)then
      (
      (sIx s 0).bind λb2=>
      bif decide (b2<=122)then
       (
       c3 G n s
        (λh=>K h)
       )
      else
       (sIx s 0).bind λb3=>
       bif decide (65<=b3)then
        (
        (sIx s 0).bind λb4=>
        bif !(decide (b4<=90))then
         (K false)
        else
         c3 G n s
          (λt22=>K t22)
        )
       else
        K false
      )
     else
      (sIx s 0).bind λb5=>
      bif decide (65<=b5)then
       (
       (sIx s 0).bind λb6=>
       bif !(decide (b6<=90))then
        (K false)
       else
        c3 G n s
         (λd=>K d)
       )
      else
       K false
def dl4(G:Gs)(n m:Nat):=rS [0,3] [.x .s,.x .i] [] λR K s i=>l4 G n m s i (λd=>K .ret ⟨[(2,.one (.b d))],[]⟩) (K (.exit 0) ⟨[],[]⟩)
def dc3(G:Gs)(n:Nat):=rS [0] [.x .s] [] λR K s=>c3 G n s (λd=>K .ret ⟨[(2,.one (.b d))],[]⟩)
def pc(G:Gs)(n:Nat):Pcs:=⟨λR id st K=>bif Nat.beq id 4 then dl4 G n n R st K else none,λR id st K=>bif Nat.beq id 3 then dc3 G n R st K else none,nK⟩
def an:Ann:=⟨82,0,[(4,[0,3])],[(3,[0])],[2],[],[]⟩
abbrev bd:=aF Tryz.f86
abbrev q4:=aJ [1,1,0,1,0,0] bd
abbrev q3:=aJ [1,1] bd
theorem pl4{G:Gs}(d:am (ax G))(n:Nat):∀m,al an (.loop q4) (dl4 G n m):=lpq d (pc G n) ⟨[],[2],[(0,[])]⟩
theorem pc3{G:Gs}(d:am (ax G)){n:Nat}:al an q3 (dc3 G n):=cpq d (pc G n) ⟨[],[2],[]⟩ (apl [(1,4,.loop q4)] ⟨pl4 d n n,trivial⟩)
theorem ok{G:Gs}(d:am (ax G)){g:Q}(h:∀s r,g s=some r->∃n,aq (R:=AT×RV Ob) G n s (λt=>some (.one (.b t),[]))=some (.one (.b r),[])):aj (ent g):=okQ λ_ _ _ _ hc=>okL hc λr j=>let⟨n,j⟩:=h _ _ j;fF d an (pc G n) Tryz.func86 j (apl [(0,3,q3)] ⟨pc3 d,trivial⟩)
end z3i
namespace z4b
structure Gs where
 z48:z48.Q
def ax(G:Gs):RV Ent:=[z48.ent G.z48]
def b3{R:Type}(G:Gs)(n:Nat)(i:Int)(h0:LB)(d:LS)(h1:LI)(nx:Int->LB->LS->LI->Y R)(h:LB->LS->LI->Y R):Y R:=bif decide (i<(List.length h0:Int))then((G.z48 i).bind λr=>(lim (h1++[r])).bind λzs=>nx (wr (i+1)) h0 d zs)else h h0 d h1
def l3{R:Type}(G:Gs)(n m:Nat)(i:Int)(h0:LB)(d:LS)(h1:LI)(h:LB->LS->LI->Y R):Y R:=aS (λ(v:Int×LB×LS×LI) nx=>b3 G n v.1 v.2.1 v.2.2.1 v.2.2.2 (λj t w y=>nx (j,t,w,y)) h) m (i,h0,d,h1)
def b10{R:Type}(G:Gs)(n:Nat)(y k:Int)(h0:LB)(d:LS)(h1:LI)(nx:Int->Int->LB->LS->LI->Y R)(A:Int->LB->LS->LI->Y R):Y R:=bif decide (k<(List.length d:Int))then((ix d k).bind λh=>(ix d k).bind λj=>(ix h1 j.low).bind λt=>(ix d k).bind λv=>(ix h1 v.bK).bind λw=>(ix h1 h.low).bind λB=>nx y (wr (k+1)) h0 d (List.set h1 (Int.toNat h.low) (Abs.bi .or .i64 t w)))else A y h0 d h1
def l10{R:Type}(G:Gs)(n m:Nat)(h k:Int)(h0:LB)(d:LS)(h1:LI)(j:Int->LB->LS->LI->Y R):Y R:=aS (λ(v:Int×Int×LB×LS×LI) nx=>b10 G n v.1 v.2.1 v.2.2.1 v.2.2.2.1 v.2.2.2.2 (λt w y A B=>nx (t,w,y,A,B)) j) m (h,k,h0,d,h1)
def b7{R:Type}(G:Gs)(n:Nat)(w:Int)(h0:LB)(h:LS)(h1:LI)(nx:Int->LB->LS->LI->Y R)(y:LI->Y R):Y R:=bif decide (w<(List.length h0:Int))then(l10 G n n w 0 h0 h h1 (λj t d v=>nx (wr (j+1)) t d v))else y h1
def l7{R:Type}(G:Gs)(n m:Nat)(h:Int)(h0:LB)(d:LS)(h1:LI)(j:LI->Y R):Y R:=aS (λ(v:Int×LB×LS×LI) nx=>b7 G n v.1 v.2.1 v.2.2.1 v.2.2.2 (λt w y A=>nx (t,w,y,A)) j) m (h,h0,d,h1)
def aq{R:Type}(G:Gs)(n:Nat)(s:So)(K:LI->Y R):Y R:=
 l3 G n n 0 s.ah s.ak []
  (fun h0 d h1=>
   l7 G n n 0 h0 d h1
    (λh=>K h)
  )
def dl3(G:Gs)(n m:Nat):=rS [1,3,4] [.x (.p 0 0),.x (.o 1),.x .i] [.b [.l .s,.l (.n 5)],.r .i 0] λR K i h0 d h1=>l3 G n m i h0 d h1 (λh0 d h1=>K (.exit 0) ⟨[(1,.one (.p 0 0)),(3,.one (.o 1))],[.box [.l .s h0,.l (.n 5) d],.row .i 0 h1]⟩)
def rz(G:Gs)(n m:Nat):=rS [1,3,5,6] [.x (.p 0 0),.x (.o 1),.x .i,.x .i] [.b [.l .s,.l (.n 5)],.r .i 0] λR K h k h0 d h1=>l10 G n m h k h0 d h1 (λh h0 d h1=>K (.exit 4) ⟨[(1,.one (.p 0 0)),(3,.one (.o 1)),(5,.one (.i h))],[.box [.l .s h0,.l (.n 5) d],.row .i 0 h1]⟩)
def dl7(G:Gs)(n m:Nat):=rS [1,3,5] [.x (.p 0 0),.x (.o 1),.x .i] [.b [.l .s,.l (.n 5)],.r .i 0] λR K h h0 d h1=>l7 G n m h h0 d h1 (λh0=>K (.exit 2) ⟨[(3,.one (.o 0))],[.row .i 0 h0]⟩)
def pc(G:Gs)(n:Nat):Pcs:=⟨λR id st K=>bif Nat.beq id 3 then dl3 G n n R st K else bif Nat.beq id 10 then rz G n n R st K else bif Nat.beq id 7 then dl7 G n n R st K else none,nK,nK⟩
def an:Ann:=⟨62,0,[(3,[1,3,4]),(10,[1,3,5,6]),(7,[1,3,5])],[],[2],[(12,⟨[([0,1,2,3,4,5,6,7,8,9,10,11,12,13,14,15,16,17,18,19,20,21,22,23,24,25,26,27],[27],[14,15,23,24,26])],[27],[],[0],[]⟩)],[]⟩
abbrev bd:=aF Tryz.f121
abbrev q3:=aJ [1,1,0,1,0,0] bd
abbrev q10:=aJ [1,1,1,0,1,0,0,1,0,0,1,0,0] bd
abbrev q7:=aJ [1,1,1,0,1,0,0] bd
theorem pl3{G:Gs}(d:am (ax G))(n:Nat):∀m,al an (.loop q3) (dl3 G n m):=lpq d (pc G n) ⟨[1,3],[2],[(0,[1,3])]⟩
theorem zg{G:Gs}(d:am (ax G))(n:Nat):∀m,al an (.loop q10) (rz G n m):=lpq d (pc G n) ⟨[1,3,5],[2],[(2,[3]),(3,[1,3,5]),(4,[1,3,5])]⟩
theorem pl7{G:Gs}(d:am (ax G))(n:Nat):∀m,al an (.loop q7) (dl7 G n m):=lpq d (pc G n) ⟨[3],[2],[(2,[3])]⟩ (apl [(1,10,.loop q10)] ⟨zg d n n,trivial⟩)
theorem ok{G:Gs}(d:am (ax G)){g:Q}(h:∀s r,g s=some r->∃n,aq (R:=AT×RV Ob) G n s (λt=>some (.one (.l .i t),[]))=some (.one (.l .i r),[])):aj (ent g):=okQ λ_ _ _ _ _ hc=>okL hc λr j=>let⟨n,j⟩:=h _ _ j;fF d an (pc G n) Tryz.func121 j (apl [(1,3,.loop q3),(1,7,.loop q7)] ⟨pl3 d n n,⟨pl7 d n n,trivial⟩⟩)
end z4b
namespace z4a
structure Gs where
 z47:z47.Q
def ax(G:Gs):RV Ent:=[z47.ent G.z47]
def b3{R:Type}(G:Gs)(n:Nat)(i:Int)(h0:LB)(d:LS)(h1:LI)(nx:Int->LB->LS->LI->Y R)(h:LB->LS->LI->Y R):Y R:=bif decide (i<(List.length h0:Int))then((lim (h1++[i])).bind λzs=>nx (wr (i+1)) h0 d zs)else h h0 d h1
def l3{R:Type}(G:Gs)(n m:Nat)(i:Int)(h0:LB)(d:LS)(h1:LI)(h:LB->LS->LI->Y R):Y R:=aS (λ(v:Int×LB×LS×LI) nx=>b3 G n v.1 v.2.1 v.2.2.1 v.2.2.2 (λj t w y=>nx (j,t,w,y)) h) m (i,h0,d,h1)
def b10{R:Type}(G:Gs)(n:Nat)(v k:Int)(h0:LB)(d:LS)(h1:LI)(nx:Int->Int->LB->LS->LI->Y R)(w:Int->LB->LS->LI->Y R):Y R:=bif decide (k<(List.length d:Int))then((ix d k).bind λh=>(ix d k).bind λj=>(ix h1 h.low).bind λy=>(ix h1 j.bK).bind λA=>(G.z47 y A).bind λt=>(ix h1 h.low).bind λC=>(ix (List.set h1 (Int.toNat h.low) t) j.bK).bind λB=>nx v (wr (k+1)) h0 d (List.set (List.set h1 (Int.toNat h.low) t) (Int.toNat j.bK) t))else w v h0 d h1
def l10{R:Type}(G:Gs)(n m:Nat)(h k:Int)(h0:LB)(d:LS)(h1:LI)(j:Int->LB->LS->LI->Y R):Y R:=aS (λ(v:Int×Int×LB×LS×LI) nx=>b10 G n v.1 v.2.1 v.2.2.1 v.2.2.2.1 v.2.2.2.2 (λt w y A B=>nx (t,w,y,A,B)) j) m (h,k,h0,d,h1)
def b7{R:Type}(G:Gs)(n:Nat)(w:Int)(h0:LB)(h:LS)(h1:LI)(nx:Int->LB->LS->LI->Y R)(y:LI->Y R):Y R:=bif decide (w<(List.length h1:Int))then(l10 G n n w 0 h0 h h1 (λj t d v=>nx (wr (j+1)) t d v))else y h1
def l7{R:Type}(G:Gs)(n m:Nat)(h:Int)(h0:LB)(d:LS)(h1:LI)(j:LI->Y R):Y R:=aS (λ(v:Int×LB×LS×LI) nx=>b7 G n v.1 v.2.1 v.2.2.1 v.2.2.2 (λt w y A=>nx (t,w,y,A)) j) m (h,h0,d,h1)
def aq{R:Type}(G:Gs)(n:Nat)(s:So)(K:LI->Y R):Y R:=
 l3 G n n 0 s.ah s.ak []
  (fun h0 d h1=>
   l7 G n n 0 h0 d h1
    (λh=>K h)
  )
def dl3(G:Gs)(n m:Nat):=rS [1,3,4] [.x (.p 0 0),.x (.o 1),.x .i] [.b [.l .s,.l (.n 5)],.r .i 0] λR K i h0 d h1=>l3 G n m i h0 d h1 (λh0 d h1=>K (.exit 0) ⟨[(1,.one (.p 0 0)),(3,.one (.o 1))],[.box [.l .s h0,.l (.n 5) d],.row .i 0 h1]⟩)
def rz(G:Gs)(n m:Nat):=rS [1,3,5,6] [.x (.p 0 0),.x (.o 1),.x .i,.x .i] [.b [.l .s,.l (.n 5)],.r .i 0] λR K h k h0 d h1=>l10 G n m h k h0 d h1 (λh h0 d h1=>K (.exit 4) ⟨[(1,.one (.p 0 0)),(3,.one (.o 1)),(5,.one (.i h))],[.box [.l .s h0,.l (.n 5) d],.row .i 0 h1]⟩)
def dl7(G:Gs)(n m:Nat):=rS [1,3,5] [.x (.p 0 0),.x (.o 1),.x .i] [.b [.l .s,.l (.n 5)],.r .i 0] λR K h h0 d h1=>l7 G n m h h0 d h1 (λh0=>K (.exit 2) ⟨[(3,.one (.o 0))],[.row .i 0 h0]⟩)
def pc(G:Gs)(n:Nat):Pcs:=⟨λR id st K=>bif Nat.beq id 3 then dl3 G n n R st K else bif Nat.beq id 10 then rz G n n R st K else bif Nat.beq id 7 then dl7 G n n R st K else none,nK,nK⟩
def an:Ann:=⟨65,0,[(3,[1,3,4]),(10,[1,3,5,6]),(7,[1,3,5])],[],[2],[(12,⟨[([0,1,2,3,4,5,6,7,8,9,10,11,12,13],[],[])],[],[],[0,1],[]⟩),(13,⟨[([0,1,2,3,4,5,6,7,8,9],[],[])],[],[],[0,1],[]⟩)],[]⟩
abbrev bd:=aF Tryz.f123
abbrev q3:=aJ [1,1,0,1,0,0] bd
abbrev q10:=aJ [1,1,1,0,1,0,0,1,0,0,1,0,0] bd
abbrev q7:=aJ [1,1,1,0,1,0,0] bd
theorem pl3{G:Gs}(d:am (ax G))(n:Nat):∀m,al an (.loop q3) (dl3 G n m):=lpq d (pc G n) ⟨[1,3],[2],[(0,[1,3])]⟩
theorem zg{G:Gs}(d:am (ax G))(n:Nat):∀m,al an (.loop q10) (rz G n m):=lpq d (pc G n) ⟨[1,3,5],[2],[(2,[3]),(3,[1,3,5]),(4,[1,3,5])]⟩
theorem pl7{G:Gs}(d:am (ax G))(n:Nat):∀m,al an (.loop q7) (dl7 G n m):=lpq d (pc G n) ⟨[3],[2],[(2,[3])]⟩ (apl [(1,10,.loop q10)] ⟨zg d n n,trivial⟩)
theorem ok{G:Gs}(d:am (ax G)){g:Q}(h:∀s r,g s=some r->∃n,aq (R:=AT×RV Ob) G n s (λt=>some (.one (.l .i t),[]))=some (.one (.l .i r),[])):aj (ent g):=okQ λ_ _ _ _ _ hc=>okL hc λr j=>let⟨n,j⟩:=h _ _ j;fF d an (pc G n) Tryz.func123 j (apl [(1,3,.loop q3),(1,7,.loop q7)] ⟨pl3 d n n,⟨pl7 d n n,trivial⟩⟩)
end z4a
namespace z3m
structure Gs where
 z3i:z3i.Q
 z42:z42.Q
 z43:z43.Q
 z4b:z4b.Q
 z49:z49.Q
def ax(G:Gs):RV Ent:=[z3i.ent G.z3i,z42.ent G.z42,z43.ent G.z43,z4b.ent G.z4b,z49.ent G.z49]
def b4{R:Type}(G:Gs)(n:Nat)(i:Int)(h0:LB)(d:LS)(nx:Int->LB->LS->Y R)(j:Bool->Y R)(k1:LB->LS->Y R):Y R:=bif decide (i<(List.length h0:Int))then((ix h0 i).bind λt=>(G.z3i t).bind λv=>bif !v then(j false)else(sub h0 0 i).bind λh=>(ix h0 i).bind λw=>(G.z42 h w).bind λy=>bif y then(j false)else nx (wr (i+1)) h0 d)else k1 h0 d
def l4{R:Type}(G:Gs)(n m:Nat)(i:Int)(h0:LB)(d:LS)(h:Bool->Y R)(k1:LB->LS->Y R):Y R:=aS (λ(v:Int×LB×LS) nx=>b4 G n v.1 v.2.1 v.2.2 (λj t w=>nx (j,t,w)) h k1) m (i,h0,d)
def b9{R:Type}(G:Gs)(n:Nat)(k:Int)(h0:LB)(d:LS)(nx:Int->LB->LS->Y R)(h:Bool->Y R)(k1:LB->LS->Y R):Y R:=bif decide (k<(List.length d:Int))then((ix d k).bind λj=>(G.z43 j.low 0 (wr ((List.length h0:Int)-1))).bind λt=>bif !t then(h false)else(ix d k).bind λv=>(G.z43 v.bK 0 (wr ((List.length h0:Int)-1))).bind λw=>bif !w then(h false)else(ix d k).bind λy=>(ix d k).bind λA=>bif decide (y.low=A.bK)then(h false)else nx (wr (k+1)) h0 d)else k1 h0 d
def l9{R:Type}(G:Gs)(n m:Nat)(k:Int)(h0:LB)(d:LS)(h:Bool->Y R)(k1:LB->LS->Y R):Y R:=aS (λ(v:Int×LB×LS) nx=>b9 G n v.1 v.2.1 v.2.2 (λj t w=>nx (j,t,w)) h k1) m (k,h0,d)
def b18{R:Type}(G:Gs)(n:Nat)(d:LI)(i k:Int)(nx:LI->Int->Int->Y R)(h:Bool->Y R)(k1:LI->Int->Y R):Y R:=bif decide (k<i)then((ix d i).bind λe=>(G.z49 e k).bind λr=>bif r then((ix d k).bind λj=>(G.z49 j i).bind λt=>bif t then(h false)else nx d i (wr (k+1)))else nx d i (wr (k+1)))else k1 d i
def l18{R:Type}(G:Gs)(n m:Nat)(d:LI)(i k:Int)(h:Bool->Y R)(k1:LI->Int->Y R):Y R:=aS (λ(v:LI×Int×Int) nx=>b18 G n v.1 v.2.1 v.2.2 (λj t w=>nx (j,t,w)) h k1) m (d,i,k)
def b15{R:Type}(G:Gs)(n:Nat)(d:LI)(i:Int)(nx:LI->Int->Y R)(j:Bool->Y R)(k1:Y R):Y R:=bif decide (i<(List.length d:Int))then(l18 G n n d i 0 (λt=>j t) (λh v=>nx h (wr (v+1))))else k1
def l15{R:Type}(G:Gs)(n m:Nat)(d:LI)(i:Int)(h:Bool->Y R)(k1:Y R):Y R:=aS (λ(v:LI×Int) nx=>b15 G n v.1 v.2 (λj t=>nx (j,t)) h k1) m (d,i)
def aq{R:Type}(G:Gs)(n:Nat)(s:So)(K:Bool->Y R):Y R:=
 bif decide ((List.length s.ah:Int)<1)then
  (K false)
 else
  bif decide (8<(List.length s.ah:Int))then
   (K false)
  else
   bif decide (16<(List.length s.ak:Int))then
    (K false)
   else
    l4 G n n 0 s.ah s.ak
     (λv=>K v)
     (fun h0 h=>
      l9 G n n 0 h0 h
       (λt22=>K t22)
       (fun j d=>
        (G.z4b (So.mk j d)).bind λr=>
        l15 G n n r 0
         (λt=>K t)
         (K true)
       )
     )
def dl4(G:Gs)(n m:Nat):=rS [1,3] [.x (.p 0 0),.x .i] [.b [.l .s,.l (.n 5)]] λR K i h0 d=>l4 G n m i h0 d (λh=>K .ret ⟨[(2,.one (.b h))],[]⟩) (λh0 d=>K (.exit 0) ⟨[(1,.one (.p 0 0))],[.box [.l .s h0,.l (.n 5) d]]⟩)
def dl9(G:Gs)(n m:Nat):=rS [1,4] [.x (.p 0 0),.x .i] [.b [.l .s,.l (.n 5)]] λR K k h0 d=>l9 G n m k h0 d (λh=>K .ret ⟨[(2,.one (.b h))],[]⟩) (λh0 d=>K (.exit 2) ⟨[(1,.one (.p 0 0))],[.box [.l .s h0,.l (.n 5) d]]⟩)
def wK(G:Gs)(n m:Nat):=rS [5,6,7] [.x (.l .i),.x .i,.x .i] [] λR K d i k=>l18 G n m d i k (λh=>K .ret ⟨[(2,.one (.b h))],[]⟩) (λd i=>K (.exit 6) ⟨[(5,.one (.l .i d)),(6,.one (.i i))],[]⟩)
def GK(G:Gs)(n m:Nat):=rS [5,6] [.x (.l .i),.x .i] [] λR K d i=>l15 G n m d i (λh=>K .ret ⟨[(2,.one (.b h))],[]⟩) (K (.exit 4) ⟨[],[]⟩)
def pc(G:Gs)(n:Nat):Pcs:=⟨λR id st K=>bif Nat.beq id 4 then dl4 G n n R st K else bif Nat.beq id 9 then dl9 G n n R st K else bif Nat.beq id 18 then wK G n n R st K else bif Nat.beq id 15 then GK G n n R st K else none,nK,nK⟩
def an:Ann:=⟨125,0,[(4,[1,3]),(9,[1,4]),(18,[5,6,7]),(15,[5,6])],[],[2],[(6,⟨[([0,1,2,3,4,5,6,7,8,9,10,11,12,13,14,15,16,17,18],[],[])],[],[],[0],[]⟩),(11,⟨[([0,1,2,3,4,5,6,7,8,9,10,11,12,13,14,15,16,17,18,19,20,21,22,23,24,25,26,27,28,29,30,31,32,33,34,35,36,37,38,39,40],[],[])],[],[],[0],[]⟩)],[]⟩
abbrev bd:=aF Tryz.f85
abbrev q4:=aJ [1,1,0,1,0,0] bd
abbrev q9:=aJ [1,1,1,0,1,0,0] bd
abbrev q18:=aJ [1,1,1,1,1,0,1,0,0,1,0,0,1,0,0] bd
abbrev q15:=aJ [1,1,1,1,1,0,1,0,0] bd
theorem pl4{G:Gs}(d:am (ax G))(n:Nat):∀m,al an (.loop q4) (dl4 G n m):=lpq d (pc G n) ⟨[1],[2],[(0,[1])]⟩
theorem pl9{G:Gs}(d:am (ax G))(n:Nat):∀m,al an (.loop q9) (dl9 G n m):=lpq d (pc G n) ⟨[1],[2],[(2,[1])]⟩
theorem FV{G:Gs}(d:am (ax G))(n:Nat):∀m,al an (.loop q18) (wK G n m):=lpq d (pc G n) ⟨[5,6],[2],[(4,[]),(5,[5,6]),(6,[5,6])]⟩
theorem MU{G:Gs}(d:am (ax G))(n:Nat):∀m,al an (.loop q15) (GK G n m):=lpq d (pc G n) ⟨[],[2],[(4,[])]⟩ (apl [(1,18,.loop q18)] ⟨FV d n n,trivial⟩)
theorem ok{G:Gs}(d:am (ax G)){g:Q}(h:∀s r,g s=some r->∃n,aq (R:=AT×RV Ob) G n s (λt=>some (.one (.b t),[]))=some (.one (.b r),[])):aj (ent g):=okQ λ_ _ _ _ _ hc=>okL hc λr j=>let⟨n,j⟩:=h _ _ j;fF d an (pc G n) Tryz.func85 j (apl [(1,4,.loop q4),(1,9,.loop q9),(1,15,.loop q15)] ⟨pl4 d n n,⟨pl9 d n n,⟨MU d n n,trivial⟩⟩⟩)
end z3m
namespace z4c
structure Gs where
 none_:Unit
def aq{R:Type}(G:Gs)(n:Nat)(op:Opr)(K:Int->Y R):Y R:=
 (ix op.aC 0).bind λe=>
 K (List.length e.ac:Int)
theorem ok{G:Gs}(d:am []){g:Q}(h:∀op r,g op=some r->∃n,aq (R:=AT×RV Ob) G n op (λt=>some (.one (.i t),[]))=some (.one (.i r),[])):aj (ent g):=okQ λ_ _ _ _ _ _ _ _ hc=>okL hc λr j=>let⟨_,j⟩:=h _ _ j;fF d ⟨9,0,[],[],[2],[],[]⟩ nP Tryz.func124 j
end z4c
namespace z4e
structure Gs where
 z4a:z4a.Q
 z43:z43.Q
def ax(G:Gs):RV Ent:=[z4a.ent G.z4a,z43.ent G.z43]
def b12{R:Type}(G:Gs)(n:Nat)(d:LI)(i k:Int)(h0:Z)(h:LD)(j t:Bool)(v:Int)(h1:LI)(w:Int)(h2:LI)(y:Int)(nx:LI->Int->Int->Z->LD->Bool->Bool->Int->LI->Int->LI->Int->Y R)(B:Bool->Y R)(k1:LI->Int->Z->LD->Bool->Bool->Int->LI->Int->LI->Int->Y R):Y R:=bif decide (k<(List.length h2:Int))then((ix h2 k).bind λC=>(G.z43 C 0 (wr ((List.length d:Int)-1))).bind λD=>bif !D then(B false)else(ix h2 k).bind λE=>(ix d E).bind λF=>(ix h1 k).bind λH=>(ix d H).bind λA=>bif !decide (F=A)then(B false)else nx d i (wr (k+1)) h0 h j t v h1 w h2 y)else k1 d i h0 h j t v h1 w h2 y
def l12{R:Type}(G:Gs)(n m:Nat)(d:LI)(i k:Int)(h0:Z)(h:LD)(j t:Bool)(w:Int)(h1:LI)(y:Int)(h2:LI)(A:Int)(D:Bool->Y R)(k1:LI->Int->Z->LD->Bool->Bool->Int->LI->Int->LI->Int->Y R):Y R:=aS (λ(v:LI×Int×Int×Z×LD×Bool×Bool×Int×LI×Int×LI×Int) nx=>b12 G n v.1 v.2.1 v.2.2.1 v.2.2.2.1 v.2.2.2.2.1 v.2.2.2.2.2.1 v.2.2.2.2.2.2.1 v.2.2.2.2.2.2.2.1 v.2.2.2.2.2.2.2.2.1 v.2.2.2.2.2.2.2.2.2.1 v.2.2.2.2.2.2.2.2.2.2.1 v.2.2.2.2.2.2.2.2.2.2.2 (λE F H I J K L M N O B C=>nx (E,F,H,I,J,K,L,M,N,O,B,C)) D k1) m (d,i,k,h0,h,j,t,w,h1,y,h2,A)
def b6{R:Type}(G:Gs)(n:Nat)(h:LI)(i:Int)(h0:Z)(t:LD)(C D:Bool)(E:Int)(h1:LI)(F:Int)(nx:LI->Int->Z->LD->Bool->Bool->Int->LI->Int->Y R)(B:Bool->Y R)(k1:Y R):Y R:=bif decide (i<(List.length t:Int))then((ix t i).bind λe=>bif !decide ((List.length e.ac:Int)=(List.length h1:Int))then(B false)else(G.z43 e.result 0 (wr ((List.length h:Int)-1))).bind λr=>bif !r then(B false)else l12 G n n h i 0 h0 t C D E h1 F e.ac e.result (λt4=>B t4) (λd K H v w y A I j h2 J=>(ix d J).bind λL=>(ix d j).bind λM=>bif !decide (L=M)then(B false)else nx d (wr (K+1)) H v w y A I j))else k1
def l6{R:Type}(G:Gs)(n m:Nat)(d:LI)(i:Int)(h0:Z)(h:LD)(j t:Bool)(w:Int)(h1:LI)(y:Int)(A:Bool->Y R)(k1:Y R):Y R:=aS (λ(v:LI×Int×Z×LD×Bool×Bool×Int×LI×Int) nx=>b6 G n v.1 v.2.1 v.2.2.1 v.2.2.2.1 v.2.2.2.2.1 v.2.2.2.2.2.1 v.2.2.2.2.2.2.1 v.2.2.2.2.2.2.2.1 v.2.2.2.2.2.2.2.2 (λB C D E F H I J K=>nx (B,C,D,E,F,H,I,J,K)) A k1) m (d,i,h0,h,j,t,w,h1,y)
def aq{R:Type}(G:Gs)(n:Nat)(s:Sg)(op:Opr)(K:Bool->Y R):Y R:=
 bif decide ((List.length op.aC:Int)<1)then
  (K false)
 else
  bif decide (4<(List.length op.aC:Int))then
   (K false)
  else
   (ix op.aC 0).bind λe=>
   bif decide (3<(List.length e.ac:Int))then
    (K false)
   else
    (G.z4a s.ai).bind λr=>
    (ix op.aC 0).bind λd=>
    l6 G n n r 0 op.ae op.aC op.aA op.comm op.aE d.ac d.result
     (λt4=>K t4)
     (K true)
def dl12(G:Gs)(n m:Nat):=rS [3,5,6,7,8,9] [.x (.p 0 0),.x (.l .i),.x (.p 1 0),.x .i,.x (.p 2 0),.x .i] [.b [.s,.l (.n 7),.b,.b,.i],.b [.l .i,.i],.b [.l .i,.i]] λR K d i k h0 h j t v h1 w h2 y=>l12 G n m d i k h0 h j t v h1 w h2 y (λt4=>K .ret ⟨[(4,.one (.b t4))],[]⟩) (λd i h0 h j t v h1 w h2 y=>K (.exit 2) ⟨[(3,.one (.p 0 0)),(5,.one (.l .i d)),(6,.one (.p 1 0)),(7,.one (.i i)),(8,.one (.p 2 0))],[.box [.s h0,.l (.n 7) h,.b j,.b t,.i v],.box [.l .i h1,.i w],.box [.l .i h2,.i y]]⟩)
def dl6(G:Gs)(n m:Nat):=rS [3,5,6,7] [.x (.p 0 0),.x (.l .i),.x (.p 1 0),.x .i] [.b [.s,.l (.n 7),.b,.b,.i],.b [.l .i,.i]] λR K d i h0 h j t v h1 w=>l6 G n m d i h0 h j t v h1 w (λt4=>K .ret ⟨[(4,.one (.b t4))],[]⟩) (K (.exit 0) ⟨[],[]⟩)
def pc(G:Gs)(n:Nat):Pcs:=⟨λR id st K=>bif Nat.beq id 12 then dl12 G n n R st K else bif Nat.beq id 6 then dl6 G n n R st K else none,nK,nK⟩
def an:Ann:=⟨111,0,[(12,[3,5,6,7,8,9]),(6,[3,5,6,7])],[],[4],[(14,⟨[([0,1,2,3,4,5,6,7,8,9,10,11,12,13,14,15,16,17,18,19,20,21,22,23,24,25,26,27,28],[],[])],[],[],[0,1,2],[]⟩),(16,⟨[([0,1,2,3,4,5,6,7,8,9,10],[],[])],[],[],[0,1,2],[]⟩)],[]⟩
abbrev bd:=aF Tryz.f87
abbrev q12:=aJ [1,1,1,1,0,1,0,0,1,0,0,1,1,0,1,0,0] bd
abbrev q6:=aJ [1,1,1,1,0,1,0,0] bd
theorem pl12{G:Gs}(d:am (ax G))(n:Nat):∀m,al an (.loop q12) (dl12 G n m):=lpq d (pc G n) ⟨[3,5,6,7,8],[4],[(0,[]),(1,[3,5,6,7]),(2,[3,5,6,7,8])]⟩
theorem pl6{G:Gs}(d:am (ax G))(n:Nat):∀m,al an (.loop q6) (dl6 G n m):=lpq d (pc G n) ⟨[],[4],[(0,[])]⟩ (apl [(1,12,.loop q12)] ⟨pl12 d n n,trivial⟩)
theorem ok{G:Gs}(d:am (ax G)){g:Q}(h:∀s op r,g s op=some r->∃n,aq (R:=AT×RV Ob) G n s op (λt=>some (.one (.b t),[]))=some (.one (.b r),[])):aj (ent g):=okQ λ_ _ _ _ _ _ _ _ _ _ _ hc=>okL hc λr j=>let⟨n,j⟩:=h _ _ _ j;fF d an (pc G n) Tryz.func87 j (apl [(1,6,.loop q6)] ⟨pl6 d n n,trivial⟩)
end z4e
namespace z4d
structure Gs where
 z4c:z4c.Q
 z43:z43.Q
 z4a:z4a.Q
def ax(G:Gs):RV Ent:=[z4c.ent G.z4c,z43.ent G.z43,z4a.ent G.z4a]
def c11{R:Type}(G:Gs)(n:Nat)(d:LI)(r:Int)(h0:LB)(v:LS)(j:LO)(h1:Z)(w:LD)(y A:Bool)(h:Int)(t:Bool->Y R):Y R:=bif decide (h=0)then(t true)else(ix j (wr (h-1))).bind λe=>(G.z4c e).bind λB=>bif decide (B=0)then((ix e.aC 0).bind λC=>(ix d C.result).bind λD=>t (decide (D=r)))else t false
def c4{R:Type}(G:Gs)(n:Nat)(h0:LB)(v:LS)(w:LO)(h1:Z)(h:LD)(j y:Bool)(d:Int)(A:Bool->Y R):Y R:=(G.z4c (Opr.mk h1 h j y d)).bind λr=>bif !decide (r=2)then(A false)else(G.z43 d 0 (List.length w:Int)).bind λF=>bif !F then(A false)else(G.z4a (So.mk h0 v)).bind λB=>(ix h 0).bind λe=>(ix e.ac 0).bind λH=>(ix B H).bind λC=>(ix e.ac 1).bind λI=>(ix B I).bind λJ=>(ix B e.result).bind λt=>bif !decide (C=J)then(A false)else bif j then(bif !decide (C=t)then(A false)else c11 G n B t h0 v w h1 h j y d (λt4=>A t4))else bif decide (0<d)then(bif !decide (C=t)then(A false)else c11 G n B t h0 v w h1 h j y d (λD=>A D))else c11 G n B t h0 v w h1 h j y d (λE=>A E)
def aq{R:Type}(G:Gs)(n:Nat)(s:Sg)(i:Int)(K:Bool->Y R):Y R:=
 (ix s.ops i).bind λe=>
 bif !e.aA then
  (
  bif !e.comm then
   (
   bif decide (e.aE=0)then
    (K true)
   else
    c4 G n s.ai.ah s.ai.ak s.ops e.ae e.aC e.aA e.comm e.aE
     (λt4=>K t4)
   )
  else
   c4 G n s.ai.ah s.ai.ak s.ops e.ae e.aC e.aA e.comm e.aE
    (λd=>K d)
  )
 else
  c4 G n s.ai.ah s.ai.ak s.ops e.ae e.aC e.aA e.comm e.aE
   (λh=>K h)
def Hz(G:Gs)(n:Nat):=rS [2,5,6,10] [.x (.p 0 0),.x (.p 1 0),.x (.l .i),.x .i] [.b [.l .s,.l (.n 5),.l (.n 8)],.b [.s,.l (.n 7),.b,.b,.i]] λR K d r h0 h j h1 t v w y=>c11 G n d r h0 h j h1 t v w y (λt4=>K .ret ⟨[(4,.one (.b t4))],[]⟩)
def dc4(G:Gs)(n:Nat):=rS [2,5] [.x (.p 0 0),.x (.p 1 0)] [.b [.l .s,.l (.n 5),.l (.n 8)],.b [.s,.l (.n 7),.b,.b,.i]] λR K h0 d h h1 j t v w=>c4 G n h0 d h h1 j t v w (λt4=>K .ret ⟨[(4,.one (.b t4))],[]⟩)
def pc(G:Gs)(n:Nat):Pcs:=⟨nK,λR id st K=>bif Nat.beq id 11 then Hz G n R st K else bif Nat.beq id 4 then dc4 G n R st K else none,nK⟩
def an:Ann:=⟨110,0,[],[(11,[2,5,6,10]),(4,[2,5])],[4],[(8,⟨[([0,1,2,3,4,5,6,7,8,9,10,11,12,13,14,15,16,17,18,19,20,21],[],[])],[],[],[0,1,2],[]⟩)],[]⟩
abbrev bd:=aF Tryz.f88
abbrev q11:=aJ [1,1,1,1,1,1,1,1] bd
abbrev q4:=aJ [1,1,1] bd
theorem ME{G:Gs}(d:am (ax G)){n:Nat}:al an q11 (Hz G n):=cpq d (pc G n) ⟨[],[4],[]⟩
theorem pc4{G:Gs}(d:am (ax G)){n:Nat}:al an q4 (dc4 G n):=cpq d (pc G n) ⟨[],[4],[]⟩ (apl [(0,11,q11)] ⟨ME d,trivial⟩)
theorem ok{G:Gs}(d:am (ax G)){g:Q}(h:∀s i r,g s i=some r->∃n,aq (R:=AT×RV Ob) G n s i (λt=>some (.one (.b t),[]))=some (.one (.b r),[])):aj (ent g):=okQ λ_ _ _ _ _ _ _ hc=>okL hc λr j=>let⟨n,j⟩:=h _ _ _ j;fF d an (pc G n) Tryz.func88 j (apl [(0,4,q4)] ⟨pc4 d,trivial⟩)
end z4d
namespace z3k
structure Gs where
 z3m:z3m.Q
 z3i:z3i.Q
 z4e:z4e.Q
 z4d:z4d.Q
def ax(G:Gs):RV Ent:=[z3m.ent G.z3m,z3i.ent G.z3i,z4e.ent G.z4e,z4d.ent G.z4d]
def b9{R:Type}(G:Gs)(n:Nat)(i k:Int)(h0:LB)(h:LS)(d:LO)(nx:Int->Int->LB->LS->LO->Y R)(j:Bool->Y R)(k1:Int->LB->LS->LO->Y R):Y R:=bif decide (k<i)then((ix d k).bind λt=>(ix d i).bind λv=>bif sEq t.ae v.ae then(j false)else nx i (wr (k+1)) h0 h d)else k1 i h0 h d
def l9{R:Type}(G:Gs)(n m:Nat)(i k:Int)(h0:LB)(d:LS)(h:LO)(j:Bool->Y R)(k1:Int->LB->LS->LO->Y R):Y R:=aS (λ(v:Int×Int×LB×LS×LO) nx=>b9 G n v.1 v.2.1 v.2.2.1 v.2.2.2.1 v.2.2.2.2 (λt w y A B=>nx (t,w,y,A,B)) j k1) m (i,k,h0,d,h)
def b4{R:Type}(G:Gs)(n:Nat)(i:Int)(h0:LB)(h:LS)(d:LO)(nx:Int->LB->LS->LO->Y R)(v:Bool->Y R)(k1:LB->LS->LO->Y R):Y R:=bif decide (i<(List.length d:Int))then((ix d i).bind λy=>(G.z3i y.ae).bind λA=>bif !A then(v false)else(ix d i).bind λB=>(G.z4e (Sg.mk (So.mk h0 h) d) B).bind λC=>bif !C then(v false)else l9 G n n i 0 h0 h d (λD=>v D) (λE w j t=>nx (wr (E+1)) w j t))else k1 h0 h d
def l4{R:Type}(G:Gs)(n m:Nat)(i:Int)(h0:LB)(d:LS)(h:LO)(j:Bool->Y R)(k1:LB->LS->LO->Y R):Y R:=aS (λ(v:Int×LB×LS×LO) nx=>b4 G n v.1 v.2.1 v.2.2.1 v.2.2.2 (λt w y A=>nx (t,w,y,A)) j k1) m (i,h0,d,h)
def b14{R:Type}(G:Gs)(n:Nat)(i:Int)(h0:LB)(h:LS)(d:LO)(nx:Int->LB->LS->LO->Y R)(j:Bool->Y R)(k1:Y R):Y R:=bif decide (i<(List.length d:Int))then((G.z4d (Sg.mk (So.mk h0 h) d) i).bind λr=>bif !r then(j false)else nx (wr (i+1)) h0 h d)else k1
def l14{R:Type}(G:Gs)(n m:Nat)(i:Int)(h0:LB)(d:LS)(h:LO)(j:Bool->Y R)(k1:Y R):Y R:=aS (λ(v:Int×LB×LS×LO) nx=>b14 G n v.1 v.2.1 v.2.2.1 v.2.2.2 (λt w y A=>nx (t,w,y,A)) j k1) m (i,h0,d,h)
def aq{R:Type}(G:Gs)(n:Nat)(s:Sg)(K:Bool->Y R):Y R:=
 (G.z3m s.ai).bind λr=>
 bif !r then
  (K false)
 else
  bif decide (14<(List.length s.ops:Int))then
   (K false)
  else
   l4 G n n 0 s.ai.ah s.ai.ak s.ops
    (λj=>K j)
    (fun h0 d h=>
     l14 G n n 0 h0 d h
      (λt22=>K t22)
      (K true)
    )
def dl9(G:Gs)(n m:Nat):=rS [1,3,4] [.x (.p 0 0),.x .i,.x .i] [.b [.l .s,.l (.n 5),.l (.n 8)]] λR K i k h0 d h=>l9 G n m i k h0 d h (λj=>K .ret ⟨[(2,.one (.b j))],[]⟩) (λi h0 d h=>K (.exit 2) ⟨[(1,.one (.p 0 0)),(3,.one (.i i))],[.box [.l .s h0,.l (.n 5) d,.l (.n 8) h]]⟩)
def dl4(G:Gs)(n m:Nat):=rS [1,3] [.x (.p 0 0),.x .i] [.b [.l .s,.l (.n 5),.l (.n 8)]] λR K i h0 d h=>l4 G n m i h0 d h (λj=>K .ret ⟨[(2,.one (.b j))],[]⟩) (λh0 d h=>K (.exit 0) ⟨[(1,.one (.p 0 0))],[.box [.l .s h0,.l (.n 5) d,.l (.n 8) h]]⟩)
def FQ(G:Gs)(n m:Nat):=rS [1,5] [.x (.p 0 0),.x .i] [.b [.l .s,.l (.n 5),.l (.n 8)]] λR K i h0 d h=>l14 G n m i h0 d h (λj=>K .ret ⟨[(2,.one (.b j))],[]⟩) (K (.exit 4) ⟨[],[]⟩)
def pc(G:Gs)(n:Nat):Pcs:=⟨λR id st K=>bif Nat.beq id 9 then dl9 G n n R st K else bif Nat.beq id 4 then dl4 G n n R st K else bif Nat.beq id 14 then FQ G n n R st K else none,nK,nK⟩
def an:Ann:=⟨70,0,[(9,[1,3,4]),(4,[1,3]),(14,[1,5])],[],[2],[(6,⟨[([0,1,2,3,4,5,6,7,8,9,10,11,12,13,14,15,16,17],[],[])],[],[],[0],[]⟩),(11,⟨[([0,1,2,3,4,5,6,7,8,9,10,11,12],[],[])],[],[],[0],[]⟩)],[]⟩
abbrev bd:=aF Tryz.f59
abbrev q9:=aJ [1,1,0,1,0,0,1,0,0,1,1,0,0] bd
abbrev q4:=aJ [1,1,0,1,0,0] bd
abbrev q14:=aJ [1,1,1,0,1,0,0] bd
theorem pl9{G:Gs}(d:am (ax G))(n:Nat):∀m,al an (.loop q9) (dl9 G n m):=lpq d (pc G n) ⟨[1,3],[2],[(0,[1]),(1,[1,3]),(2,[1,3])]⟩
theorem pl4{G:Gs}(d:am (ax G))(n:Nat):∀m,al an (.loop q4) (dl4 G n m):=lpq d (pc G n) ⟨[1],[2],[(0,[1])]⟩ (apl [(1,9,.loop q9)] ⟨pl9 d n n,trivial⟩)
theorem MT{G:Gs}(d:am (ax G))(n:Nat):∀m,al an (.loop q14) (FQ G n m):=lpq d (pc G n) ⟨[],[2],[(4,[])]⟩
theorem ok{G:Gs}(d:am (ax G)){g:Q}(h:∀s r,g s=some r->∃n,aq (R:=AT×RV Ob) G n s (λt=>some (.one (.b t),[]))=some (.one (.b r),[])):aj (ent g):=okQ λ_ _ _ _ _ _ hc=>okL hc λr j=>let⟨n,j⟩:=h _ _ j;fF d an (pc G n) Tryz.func59 j (apl [(1,4,.loop q4),(1,14,.loop q14)] ⟨pl4 d n n,⟨MT d n n,trivial⟩⟩)
end z3k
end
end Go.Proofs.YtigoabbppmdfpaaGreat.Den

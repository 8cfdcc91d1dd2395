/- merged -/
import Derived.Test.YtigoabbppmdfpaaGreatZRowPE8
import Derived.Test.YtigoabbppmdfpaaGreatZRowPE14
import Derived.Test.YtigoabbppmdfpaaGreatZRowPE15

namespace Go.Proofs.YtigoabbppmdfpaaGreat.Den
open Go.RowKit
section
set_option maxRecDepth 100000
set_option linter.unusedVariables false
noncomputable section
namespace z1c
structure Gs where
 none_:Unit
def aq{R:Type}(G:Gs)(n:Nat)(d:Int)(K:Bool->Y R):Y R:=
 bif decide (0<=d)then
  (K (decide (d<=65535)))
 else
  K false
theorem ok{G:Gs}(h:am []){g:Q}(t:∀d r,g d=some r->∃n,aq (R:=AT×RV Ob) G n d (λv=>some (.one (.b v),[]))=some (.one (.b r),[])):aj (ent g):=okQ λ_ _ _ _ hc=>okL hc λr j=>let⟨_,j⟩:=t _ _ j;fF h ⟨9,0,[],[],[2],[],[]⟩ nP Tryz.func103 j
end z1c
namespace z0k
structure Gs where
 z1c:z1c.Q
def ax(G:Gs):RV Ent:=[z1c.ent G.z1c]
def b3{R:Type}(G:Gs)(n:Nat)(d h:Int)(h0:LI)(nx:Int->Int->LI->Y R)(j:LI->Y R):Y R:=bif decide (h<16)then((G.z1c d).bind λr=>bif r then((bif decide (0<=h)then some (Abs.bi .shl .i64 1 h)else none).bind λq=>bif !decide ((Abs.bi .and .i64 d q)=0)then((lim (h0++[h])).bind λzs=>nx d (wr (h+1)) zs)else nx d (wr (h+1)) h0)else j h0)else j h0
def l3{R:Type}(G:Gs)(n m:Nat)(d h:Int)(h0:LI)(j:LI->Y R):Y R:=aS (λ(v:Int×Int×LI) nx=>b3 G n v.1 v.2.1 v.2.2 (λt w y=>nx (t,w,y)) j) m (d,h,h0)
def aq{R:Type}(G:Gs)(n:Nat)(d:Int)(K:LI->Y R):Y R:=
 l3 G n n d 0 []
  (λh0=>K h0)
def dl3(G:Gs)(n m:Nat):=rS [0,3,4] [.x .i,.x (.o 0),.x .i] [.r .i 0] λR K d h h0=>l3 G n m d h h0 (λh0=>K (.exit 0) ⟨[(3,.one (.o 0))],[.row .i 0 h0]⟩)
def pc(G:Gs)(n:Nat):Pcs:=⟨λR id st K=>bif Nat.beq id 3 then dl3 G n n R st K else none,nK,nK⟩
def an:Ann:=⟨24,0,[(3,[0,3,4])],[],[2],[],[]⟩
abbrev bd:=aF Tryz.f73
abbrev q3:=aJ [1,1,0,1,0,0] bd
theorem pl3{G:Gs}(d:am (ax G))(n:Nat):∀m,al an (.loop q3) (dl3 G n m):=lpq d (pc G n) ⟨[3],[2],[(0,[3])]⟩
theorem ok{G:Gs}(h:am (ax G)){g:Q}(t:∀d r,g d=some r->∃n,aq (R:=AT×RV Ob) G n d (λv=>some (.one (.l .i v),[]))=some (.one (.l .i r),[])):aj (ent g):=okQ λ_ _ _ _ hc=>okL hc λr j=>let⟨n,j⟩:=t _ _ j;fF h an (pc G n) Tryz.func73 j (apl [(1,3,.loop q3)] ⟨pl3 h n n,trivial⟩)
end z0k
namespace z1d
structure Gs where
 none_:Unit
def aq{R:Type}(G:Gs)(n:Nat)(c:Int)(K:Bool->Y R):Y R:=
 bif decide (48<=c)then
  (
  bif decide (c<=57)then
   (K true)
  else
   bif decide (65<=c)then
    (
    bif decide (c<=90)then
     (K true)
    else
     bif decide (97<=c)then
      (K (decide (c<=122)))
     else
      K false
    )
   else
    bif decide (97<=c)then
     (K (decide (c<=122)))
    else
     K false
  )
 else
  bif decide (65<=c)then
   (
   bif decide (c<=90)then
    (K true)
   else
    bif decide (97<=c)then
     (K (decide (c<=122)))
    else
     K false
   )
  else
   bif decide (97<=c)then
    (K (decide (c<=122)))
   else
    K false
theorem ok{G:Gs}(d:am []){g:Q}(h:∀c r,g c=some r->∃n,aq (R:=AT×RV Ob) G n c (λt=>some (.one (.b t),[]))=some (.one (.b r),[])):aj (ent g):=λR xs H K r hc=>by
 simp only[ent]at hc;split at hc
 .exact okL hc λr j=>let⟨_,j⟩:=h _ _ j;fF d ⟨25,0,[],[],[2],[],[]⟩ nP Tryz.func101 j
 .cases hc
end z1d
namespace z0e
structure Gs where
 z1d:z1d.Q
def ax(G:Gs):RV Ent:=[z1d.ent G.z1d]
def b4{R:Type}(G:Gs)(n:Nat)(s:Z)(i:Int)(nx:Z->Int->Y R)(d:Bool->Y R)(k1:Y R):Y R:=bif decide (i<(ByteArray.size s:Int))then((sIx s i).bind λb=>(G.z1d b).bind λr=>bif !r then(d false)else bif decide (i=0)then((sIx s i).bind λb2=>bif decide (b2<=57)then(d false)else nx s (wr (i+1)))else nx s (wr (i+1)))else k1
def l4{R:Type}(G:Gs)(n m:Nat)(s:Z)(i:Int)(d:Bool->Y R)(k1:Y R):Y R:=aS (λ(v:Z×Int) nx=>b4 G n v.1 v.2 (λh j=>nx (h,j)) d k1) m (s,i)
def aq{R:Type}(G:Gs)(n:Nat)(s:Z)(K:Bool->Y R):Y R:=
 bif decide ((ByteArray.size s:Int)<1)then
  (K false)
 else
  bif decide (12<(ByteArray.size s:Int))then
   (K false)
  else
   bif sEq s (ByteArray.mk #[105,102])then
    (K false)
   else
    bif sEq s (ByteArray.mk #[97,110,100])then
     (K false)
    else
     l4 G n n s 0
      (λd=>K d)
      (K true)
def dl4(G:Gs)(n m:Nat):=rS [0,3] [.x .s,.x .i] [] λR K s i=>l4 G n m s i (λd=>K .ret ⟨[(2,.one (.b d))],[]⟩) (K (.exit 0) ⟨[],[]⟩)
def pc(G:Gs)(n:Nat):Pcs:=⟨λR id st K=>bif Nat.beq id 4 then dl4 G n n R st K else none,nK,nK⟩
def an:Ann:=⟨41,0,[(4,[0,3])],[],[2],[],[]⟩
abbrev bd:=aF Tryz.f68
abbrev q4:=aJ [1,1,0,1,0,0] bd
theorem pl4{G:Gs}(d:am (ax G))(n:Nat):∀m,al an (.loop q4) (dl4 G n m):=lpq d (pc G n) ⟨[],[2],[(0,[])]⟩
theorem ok{G:Gs}(d:am (ax G)){g:Q}(h:∀s r,g s=some r->∃n,aq (R:=AT×RV Ob) G n s (λt=>some (.one (.b t),[]))=some (.one (.b r),[])):aj (ent g):=okQ λ_ _ _ _ hc=>okL hc λr j=>let⟨n,j⟩:=h _ _ j;fF d an (pc G n) Tryz.func68 j (apl [(1,4,.loop q4)] ⟨pl4 d n n,trivial⟩)
end z0e
namespace z1k
structure Gs where
 none_:Unit
def ax(_:Gs):RV Ent:=[]
def b3{R:Type}(G:Gs)(n:Nat)(h d:Int)(h0:LB)(j:LS)(h1:LI)(nx:Int->Int->LB->LS->LI->Y R)(t:LB->LS->LI->Y R):Y R:=bif decide (d<h)then((bif decide (0<=d)then some (Abs.bi .shl .i64 1 d)else none).bind λq=>(ix h1 d).bind λe=>nx h (wr (d+1)) h0 j (List.set h1 (Int.toNat d) q))else t h0 j h1
def l3{R:Type}(G:Gs)(n m:Nat)(d h:Int)(h0:LB)(j:LS)(h1:LI)(t:LB->LS->LI->Y R):Y R:=aS (λ(v:Int×Int×LB×LS×LI) nx=>b3 G n v.1 v.2.1 v.2.2.1 v.2.2.2.1 v.2.2.2.2 (λw y A B C=>nx (w,y,A,B,C)) t) m (d,h,h0,j,h1)
def b10{R:Type}(G:Gs)(n:Nat)(h j:Int)(t:LS)(v d:Int)(h0:LB)(w:LS)(h1:LI)(nx:Int->Int->LS->Int->Int->LB->LS->LI->Y R)(A:Int->Int->LB->LS->LI->Y R):Y R:=bif decide (d<v)then((ix t d).bind λe=>(ix h1 e.low).bind λB=>(ix h1 e.bK).bind λy=>(ix h1 e.low).bind λC=>nx h j t v (wr (d+1)) h0 w (List.set h1 (Int.toNat e.low) (Abs.bi .or .i64 B y)))else A h j h0 w h1
def l10{R:Type}(G:Gs)(n m:Nat)(d h:Int)(j:LS)(t w:Int)(h0:LB)(y:LS)(h1:LI)(A:Int->Int->LB->LS->LI->Y R):Y R:=aS (λ(v:Int×Int×LS×Int×Int×LB×LS×LI) nx=>b10 G n v.1 v.2.1 v.2.2.1 v.2.2.2.1 v.2.2.2.2.1 v.2.2.2.2.2.1 v.2.2.2.2.2.2.1 v.2.2.2.2.2.2.2 (λB C D E F H I J=>nx (B,C,D,E,F,H,I,J)) A) m (d,h,j,t,w,h0,y,h1)
def b8{R:Type}(G:Gs)(n:Nat)(h j:Int)(h0:LB)(d:LS)(h1:LI)(nx:Int->Int->LB->LS->LI->Y R)(B:LI->Y R):Y R:=bif decide (j<h)then(l10 G n n h j d (List.length d:Int) 0 h0 d h1 (λt v y w A=>nx t (wr (v+1)) y w A))else B h1
def l8{R:Type}(G:Gs)(n m:Nat)(d h:Int)(h0:LB)(j:LS)(h1:LI)(t:LI->Y R):Y R:=aS (λ(v:Int×Int×LB×LS×LI) nx=>b8 G n v.1 v.2.1 v.2.2.1 v.2.2.2.1 v.2.2.2.2 (λw y A B C=>nx (w,y,A,B,C)) t) m (d,h,h0,j,h1)
def aq{R:Type}(G:Gs)(n:Nat)(s:So)(K:LI->Y R):Y R:=
 (mk (α:=Int) 0 (List.length s.ah:Int)).bind λxs=>
 l3 G n n (List.length xs:Int) 0 s.ah s.ak xs
  (fun h0 d h1=>
   l8 G n n (List.length h1:Int) 0 h0 d h1
    (λh=>K h)
  )
def dl3(G:Gs)(n m:Nat):=rS [1,3,12,13] [.x (.p 0 0),.x (.o 1),.x .i,.x .i] [.b [.l .s,.l (.n 5)],.r .i 0] λR K h j h0 d h1=>l3 G n m h j h0 d h1 (λh0 d h1=>K (.exit 0) ⟨[(1,.one (.p 0 0)),(3,.one (.o 1))],[.box [.l .s h0,.l (.n 5) d],.row .i 0 h1]⟩)
def rz(G:Gs)(n m:Nat):=rS [1,3,23,24,27,28,29] [.x (.p 0 0),.x (.o 1),.x .i,.x .i,.x (.l (.n 5)),.x .i,.x .i] [.b [.l .s,.l (.n 5)],.r .i 0] λR K d h t v w h0 j h1=>l10 G n m d h t v w h0 j h1 (λd h h0 j h1=>K (.exit 4) ⟨[(1,.one (.p 0 0)),(3,.one (.o 1)),(23,.one (.i d)),(24,.one (.i h))],[.box [.l .s h0,.l (.n 5) j],.row .i 0 h1]⟩)
def dl8(G:Gs)(n m:Nat):=rS [1,3,23,24] [.x (.p 0 0),.x (.o 1),.x .i,.x .i] [.b [.l .s,.l (.n 5)],.r .i 0] λR K d h h0 j h1=>l8 G n m d h h0 j h1 (λh0=>K (.exit 2) ⟨[(3,.one (.o 0))],[.row .i 0 h0]⟩)
def pc(G:Gs)(n:Nat):Pcs:=⟨λR id st K=>bif Nat.beq id 3 then dl3 G n n R st K else bif Nat.beq id 10 then rz G n n R st K else bif Nat.beq id 8 then dl8 G n n R st K else none,nK,nK⟩
def an:Ann:=⟨51,0,[(3,[1,3,12,13]),(10,[1,3,23,24,27,28,29]),(8,[1,3,23,24])],[],[2],[(12,⟨[([0,1,2,3,4,5,6,7,8,9,10,11,12,13,14,15],[15],[6,7,11,12,14])],[15],[],[0,2],[]⟩)],[]⟩
abbrev bd:=aF Tryz.f72
abbrev q3:=aJ [1,1,0,1,0,0] bd
abbrev q10:=aJ [1,1,1,0,1,0,0,1,1,0,0,1,0,0] bd
abbrev q8:=aJ [1,1,1,0,1,0,0] bd
theorem pl3{G:Gs}(d:am (ax G))(n:Nat):∀m,al an (.loop q3) (dl3 G n m):=lpq d (pc G n) ⟨[1,3],[2],[(0,[1,3])]⟩
theorem zg{G:Gs}(d:am (ax G))(n:Nat):∀m,al an (.loop q10) (rz G n m):=lpq d (pc G n) ⟨[1,3,23,24],[2],[(2,[3]),(3,[1,3,23,24]),(4,[1,3,23,24])]⟩
theorem pl8{G:Gs}(d:am (ax G))(n:Nat):∀m,al an (.loop q8) (dl8 G n m):=lpq d (pc G n) ⟨[3],[2],[(2,[3])]⟩ (apl [(1,10,.loop q10)] ⟨zg d n n,trivial⟩)
theorem ok{G:Gs}(d:am (ax G)){g:Q}(h:∀s r,g s=some r->∃n,aq (R:=AT×RV Ob) G n s (λt=>some (.one (.l .i t),[]))=some (.one (.l .i r),[])):aj (ent g):=okQ λ_ _ _ _ _ hc=>okL hc λr j=>let⟨n,j⟩:=h _ _ j;fF d an (pc G n) Tryz.func72 j (apl [(1,3,.loop q3),(1,8,.loop q8)] ⟨pl3 d n n,⟨pl8 d n n,trivial⟩⟩)
end z1k
namespace z0i
structure Gs where
 z0e:z0e.Q
 z1k:z1k.Q
def ax(G:Gs):RV Ent:=[z0e.ent G.z0e,z1k.ent G.z1k]
def b6{R:Type}(G:Gs)(n:Nat)(t:Int)(d:LB)(h t31:Int)(h0:LB)(j:LS)(h1:RV (Z×Bool))(nx:Int->LB->Int->Int->LB->LS->(RV (Z×Bool))->Y R)(v:Bool->Y R)(k1:Int->LB->LS->Y R):Y R:=bif decide (t31<h)then((ix d t31).bind λe=>bif rm h1 e false then(v false)else(G.z0e e).bind λr=>bif !r then(v false)else nx t d h (wr (t31+1)) h0 j ((e,true)::h1))else k1 t h0 j
def l6{R:Type}(G:Gs)(n m:Nat)(t:Int)(d:LB)(h t31:Int)(h0:LB)(j:LS)(h1:RV (Z×Bool))(w:Bool->Y R)(k1:Int->LB->LS->Y R):Y R:=aS (λ(v:Int×LB×Int×Int×LB×LS×(RV (Z×Bool))) nx=>b6 G n v.1 v.2.1 v.2.2.1 v.2.2.2.1 v.2.2.2.2.1 v.2.2.2.2.2.1 v.2.2.2.2.2.2 (λy A B C D E F=>nx (y,A,B,C,D,E,F)) w k1) m (t,d,h,t31,h0,j,h1)
def b13{R:Type}(G:Gs)(n:Nat)(w:Int)(h:LS)(j d:Int)(h0:LB)(t:LS)(nx:Int->LS->Int->Int->LB->LS->Y R)(v:Bool->Y R)(k1:LB->LS->Y R):Y R:=bif decide (d<j)then((ix h d).bind λe=>bif decide (e.low<0)then(v false)else bif decide (w<=e.low)then(v false)else bif decide (e.bK<0)then(v false)else bif decide (w<=e.bK)then(v false)else bif decide (e.low=e.bK)then(v false)else nx w h j (wr (d+1)) h0 t)else k1 h0 t
def l13{R:Type}(G:Gs)(n m:Nat)(w:Int)(d:LS)(h j:Int)(h0:LB)(t:LS)(y:Bool->Y R)(k1:LB->LS->Y R):Y R:=aS (λ(v:Int×LS×Int×Int×LB×LS) nx=>b13 G n v.1 v.2.1 v.2.2.1 v.2.2.2.1 v.2.2.2.2.1 v.2.2.2.2.2 (λA B C D E F=>nx (A,B,C,D,E,F)) y k1) m (w,d,h,j,h0,t)
def b23{R:Type}(G:Gs)(n:Nat)(bh:LI)(i h j t d:Int)(nx:LI->Int->Int->Int->Int->Int->Y R)(v:Bool->Y R)(k1:LI->Int->Int->Y R):Y R:=bif decide (d<t)then(bif !decide (i=d)then((ix bh i).bind λw=>(bif decide (0<=d)then some (Abs.bi .shl .i64 1 d)else none).bind λq2=>bif !decide ((Abs.bi .and .i64 w q2)=0)then((ix bh d).bind λy=>(bif decide (0<=i)then some (Abs.bi .shl .i64 1 i)else none).bind λq4=>bif !decide ((Abs.bi .and .i64 y q4)=0)then(v false)else nx bh i h j t (wr (d+1)))else nx bh i h j t (wr (d+1)))else nx bh i h j t (wr (d+1)))else k1 bh h j
def l23{R:Type}(G:Gs)(n m:Nat)(bh:LI)(i d h j t:Int)(w:Bool->Y R)(k1:LI->Int->Int->Y R):Y R:=aS (λ(v:LI×Int×Int×Int×Int×Int) nx=>b23 G n v.1 v.2.1 v.2.2.1 v.2.2.2.1 v.2.2.2.2.1 v.2.2.2.2.2 (λy A B C D E=>nx (y,A,B,C,D,E)) w k1) m (bh,i,d,h,j,t)
def b20{R:Type}(G:Gs)(n:Nat)(bh:LI)(j h:Int)(nx:LI->Int->Int->Y R)(w:Bool->Y R)(k1:Y R):Y R:=bif decide (h<j)then(l23 G n n bh h j h (List.length bh:Int) 0 (λy=>w y) (λd t v=>nx d t (wr (v+1))))else k1
def l20{R:Type}(G:Gs)(n m:Nat)(bh:LI)(d h:Int)(j:Bool->Y R)(k1:Y R):Y R:=aS (λ(v:LI×Int×Int) nx=>b20 G n v.1 v.2.1 v.2.2 (λt w y=>nx (t,w,y)) j k1) m (bh,d,h)
def aq{R:Type}(G:Gs)(n:Nat)(s:So)(K:Bool->Y R):Y R:=
 bif decide ((List.length s.ah:Int)<1)then
  (K false)
 else
  bif decide (8<(List.length s.ah:Int))then
   (K false)
  else
   bif decide (16<(List.length s.ak:Int))then
    (K false)
   else
    l6 G n n (List.length s.ah:Int) s.ah (List.length s.ah:Int) 0 s.ah s.ak []
     (λv=>K v)
     (fun w h0 d=>
      l13 G n n w d (List.length d:Int) 0 h0 d
       (λt22=>K t22)
       (fun j h=>
        (G.z1k (So.mk j h)).bind λr=>
        l20 G n n r (List.length r:Int) 0
         (λt=>K t)
         (K true)
       )
     )
def dl6(G:Gs)(n m:Nat):=rS [1,3,4,29,30,31] [.x (.p 0 0),.x .i,.x (.m 1),.x (.l .s),.x .i,.x .i] [.b [.l .s,.l (.n 5)],.m .b] λR K h j t t31 h0 d h1=>l6 G n m h j t t31 h0 d h1 (λv=>K .ret ⟨[(2,.one (.b v))],[]⟩) (λh h0 d=>K (.exit 0) ⟨[(1,.one (.p 0 0)),(3,.one (.i h))],[.box [.l .s h0,.l (.n 5) d]]⟩)
def rL(G:Gs)(n m:Nat):=rS [1,3,47,48,49] [.x (.p 0 0),.x .i,.x (.l (.n 5)),.x .i,.x .i] [.b [.l .s,.l (.n 5)]] λR K v h j t h0 d=>l13 G n m v h j t h0 d (λw=>K .ret ⟨[(2,.one (.b w))],[]⟩) (λh0 d=>K (.exit 2) ⟨[(1,.one (.p 0 0))],[.box [.l .s h0,.l (.n 5) d]]⟩)
def dl23(G:Gs)(n m:Nat):=rS [9,10,84,85,89,90] [.x (.l .i),.x .i,.x .i,.x .i,.x .i,.x .i] [] λR K bh i d h j t=>l23 G n m bh i d h j t (λv=>K .ret ⟨[(2,.one (.b v))],[]⟩) (λbh d h=>K (.exit 6) ⟨[(9,.one (.l .i bh)),(84,.one (.i d)),(85,.one (.i h))],[]⟩)
def dl20(G:Gs)(n m:Nat):=rS [9,84,85] [.x (.l .i),.x .i,.x .i] [] λR K bh d h=>l20 G n m bh d h (λj=>K .ret ⟨[(2,.one (.b j))],[]⟩) (K (.exit 4) ⟨[],[]⟩)
def pc(G:Gs)(n:Nat):Pcs:=⟨λR id st K=>bif Nat.beq id 6 then dl6 G n n R st K else bif Nat.beq id 13 then rL G n n R st K else bif Nat.beq id 23 then dl23 G n n R st K else bif Nat.beq id 20 then dl20 G n n R st K else none,nK,nK⟩
def an:Ann:=⟨118,0,[(6,[1,3,4,29,30,31]),(13,[1,3,47,48,49]),(23,[9,10,84,85,89,90]),(20,[9,84,85])],[],[2],[(25,⟨[([0,1,2,3,4,5,6,7,8,9,10,11,12,13,14,15,16,17,18,19,20,21,22],[],[])],[],[],[],[]⟩)],[]⟩
abbrev bd:=aF Tryz.f71
abbrev q6:=aJ [1,1,1,1,0,1,0,0] bd
abbrev q13:=aJ [1,1,1,1,1,0,1,0,0] bd
abbrev q23:=aJ [1,1,1,1,1,1,1,0,1,0,0,1,1,0,0,1,1,0,0] bd
abbrev q20:=aJ [1,1,1,1,1,1,1,0,1,0,0] bd
theorem pl6{G:Gs}(d:am (ax G))(n:Nat):∀m,al an (.loop q6) (dl6 G n m):=lpq d (pc G n) ⟨[1,3],[2],[(0,[1,3])]⟩
theorem AK{G:Gs}(d:am (ax G))(n:Nat):∀m,al an (.loop q13) (rL G n m):=lpq d (pc G n) ⟨[1],[2],[(2,[1])]⟩
theorem pl23{G:Gs}(d:am (ax G))(n:Nat):∀m,al an (.loop q23) (dl23 G n m):=lpq d (pc G n) ⟨[9,84,85],[2],[(4,[]),(5,[9,84,85]),(6,[9,84,85])]⟩
theorem pl20{G:Gs}(d:am (ax G))(n:Nat):∀m,al an (.loop q20) (dl20 G n m):=lpq d (pc G n) ⟨[],[2],[(4,[])]⟩ (apl [(1,23,.loop q23)] ⟨pl23 d n n,trivial⟩)
theorem ok{G:Gs}(d:am (ax G)){g:Q}(h:∀s r,g s=some r->∃n,aq (R:=AT×RV Ob) G n s (λt=>some (.one (.b t),[]))=some (.one (.b r),[])):aj (ent g):=okQ λ_ _ _ _ _ hc=>okL hc λr j=>let⟨n,j⟩:=h _ _ j;fF d an (pc G n) Tryz.func71 j (apl [(1,6,.loop q6),(1,13,.loop q13),(1,20,.loop q20)] ⟨pl6 d n n,⟨AK d n n,⟨pl20 d n n,trivial⟩⟩⟩)
end z0i
namespace z1g
structure Gs where
 z0i:z0i.Q
 z1k:z1k.Q
 z0k:z0k.Q
def ax(G:Gs):RV Ent:=[z0i.ent G.z0i,z1k.ent G.z1k,z0k.ent G.z0k]
def d4{R:Type}(G:Gs)(n:Nat)(h:Int)(h0:LB)(d:LS)(h2 j h4:LI)(t:Int->LB->LS->LI->LI->LI->LI->LI->LI->Y R):Y R:=(mk (α:=Int) 0 h).bind λxs=>(mk (α:=Int) 0 h).bind λxs2=>(G.z1k (So.mk h0 d)).bind λv=>t h h0 d h2 j h4 v xs xs2
def MG{R:Type}(G:Gs)(n:Nat)(h:Int)(h0:LB)(d:LS)(h2 j h4:LI)(t:Int->LB->LS->LI->LI->LI->LI->LI->LI->Y R):Y R:=
 (mk (α:=Int) 0 h).bind λxs=>
 (mk (α:=Int) 0 h).bind λxs2=>
 (G.z1k (So.mk h0 d)).bind λv=>
 t h h0 d h2 j h4 v xs xs2
theorem e4_1{R:Type}(G:Gs)(n:Nat)(h:Int)(h0:LB)(d:LS)(h2 j h4:LI)(t:Int->LB->LS->LI->LI->LI->LI->LI->LI->Y R):MG G n h h0 d h2 j h4 t=d4 G n h h0 d h2 j h4 t:=by
 unfold MG d4;generalize mk (α:=Int) 0 h=v;generalize G.z1k (So.mk h0 d)=w;cases v<;>cases w<;>first|rfl|simp
def LW{R:Type}(G:Gs)(n:Nat)(h:Int)(h0:LB)(d:LS)(h2 j h4:LI)(t:Int->LB->LS->LI->LI->LI->LI->LI->LI->Y R):Y R:=
 (mk (α:=Int) 0 h).bind λxs=>
 (mk (α:=Int) 0 h).bind λxs2=>
 (G.z1k (So.mk h0 d)).bind λv=>
 t h h0 d h2 j h4 v xs2 xs
theorem e4_2{R:Type}(G:Gs)(n:Nat)(h:Int)(h0:LB)(d:LS)(h2 j h4:LI)(t:Int->LB->LS->LI->LI->LI->LI->LI->LI->Y R):LW G n h h0 d h2 j h4 t=d4 G n h h0 d h2 j h4 t:=by
 unfold LW d4;generalize mk (α:=Int) 0 h=v;generalize G.z1k (So.mk h0 d)=w;cases v<;>cases w<;>first|rfl|simp
def L9{R:Type}(G:Gs)(n:Nat)(h:Int)(h0:LB)(d:LS)(h2 j h4:LI)(t:Int->LB->LS->LI->LI->LI->LI->LI->LI->Y R):Y R:=
 (mk (α:=Int) 0 h).bind λxs=>
 (mk (α:=Int) 0 h).bind λxs2=>
 (G.z1k (So.mk h0 d)).bind λv=>
 t h h0 d h2 j h4 v xs2 xs
theorem e4_3{R:Type}(G:Gs)(n:Nat)(h:Int)(h0:LB)(d:LS)(h2 j h4:LI)(t:Int->LB->LS->LI->LI->LI->LI->LI->LI->Y R):L9 G n h h0 d h2 j h4 t=d4 G n h h0 d h2 j h4 t:=by
 unfold L9 d4;generalize mk (α:=Int) 0 h=v;generalize G.z1k (So.mk h0 d)=w;cases v<;>cases w<;>first|rfl|simp
def MS{R:Type}(G:Gs)(n:Nat)(h:Int)(h0:LB)(d:LS)(h2 j h4:LI)(t:Int->LB->LS->LI->LI->LI->LI->LI->LI->Y R):Y R:=
 (mk (α:=Int) 0 h).bind λxs=>
 (mk (α:=Int) 0 h).bind λxs2=>
 (G.z1k (So.mk h0 d)).bind λv=>
 t h h0 d h2 j h4 v xs xs2
theorem e4_4{R:Type}(G:Gs)(n:Nat)(h:Int)(h0:LB)(d:LS)(h2 j h4:LI)(t:Int->LB->LS->LI->LI->LI->LI->LI->LI->Y R):MS G n h h0 d h2 j h4 t=d4 G n h h0 d h2 j h4 t:=by
 unfold MS d4;generalize mk (α:=Int) 0 h=v;generalize G.z1k (So.mk h0 d)=w;cases v<;>cases w<;>first|rfl|simp
def Li{R:Type}(G:Gs)(n:Nat)(h:Int)(h0:LB)(d:LS)(h2 j h4:LI)(t:Int->LB->LS->LI->LI->LI->LI->LI->LI->Y R):Y R:=
 (mk (α:=Int) 0 h).bind λxs=>
 (mk (α:=Int) 0 h).bind λxs2=>
 (G.z1k (So.mk h0 d)).bind λv=>
 t h h0 d h2 j h4 v xs2 xs
theorem e4_5{R:Type}(G:Gs)(n:Nat)(h:Int)(h0:LB)(d:LS)(h2 j h4:LI)(t:Int->LB->LS->LI->LI->LI->LI->LI->LI->Y R):Li G n h h0 d h2 j h4 t=d4 G n h h0 d h2 j h4 t:=by
 unfold Li d4;generalize mk (α:=Int) 0 h=v;generalize G.z1k (So.mk h0 d)=w;cases v<;>cases w<;>first|rfl|simp
def b9{R:Type}(G:Gs)(n:Nat)(A i:Int)(h:LI)(j t:Int)(v:LI)(t37 d:Int)(h0:LB)(w:LS)(h2 B h4 C y D:LI)(nx:Int->Int->LI->Int->Int->LI->Int->Int->LB->LS->LI->LI->LI->LI->LI->LI->Y R)(E:Int->Int->LI->Int->Int->LB->LS->LI->LI->LI->LI->LI->LI->Y R):Y R:=bif decide (d<t37)then((ix v d).bind λe=>(ix y e).bind λF=>(bif decide (0<=i)then some (Abs.bi .shl .i64 1 i)else none).bind λq4=>(ix y e).bind λH=>nx A i h j t v t37 (wr (d+1)) h0 w h2 B h4 C (List.set y (Int.toNat e) (Abs.bi .or .i64 F q4)) D)else E A i h j t h0 w h2 B h4 C y D
def l9{R:Type}(G:Gs)(n m:Nat)(H i:Int)(d:LI)(h j:Int)(t:LI)(t37 w:Int)(h0:LB)(y:LS)(h2 I h4 J K L:LI)(M:Int->Int->LI->Int->Int->LB->LS->LI->LI->LI->LI->LI->LI->Y R):Y R:=aS (λ(v:Int×Int×LI×Int×Int×LI×Int×Int×LB×LS×LI×LI×LI×LI×LI×LI) nx=>b9 G n v.1 v.2.1 v.2.2.1 v.2.2.2.1 v.2.2.2.2.1 v.2.2.2.2.2.1 v.2.2.2.2.2.2.1 v.2.2.2.2.2.2.2.1 v.2.2.2.2.2.2.2.2.1 v.2.2.2.2.2.2.2.2.2.1 v.2.2.2.2.2.2.2.2.2.2.1 v.2.2.2.2.2.2.2.2.2.2.2.1 v.2.2.2.2.2.2.2.2.2.2.2.2.1 v.2.2.2.2.2.2.2.2.2.2.2.2.2.1 v.2.2.2.2.2.2.2.2.2.2.2.2.2.2.1 v.2.2.2.2.2.2.2.2.2.2.2.2.2.2.2 (λN O P Q S T U V W X A B C D E F=>nx (N,O,P,Q,S,T,U,V,W,X,A,B,C,D,E,F)) M) m (H,i,d,h,j,t,t37,w,h0,y,h2,I,h4,J,K,L)
def b6{R:Type}(G:Gs)(n:Nat)(K:Int)(h:LI)(j d:Int)(h0:LB)(t:LS)(h2 L h4 M N O:LI)(nx:Int->LI->Int->Int->LB->LS->LI->LI->LI->LI->LI->LI->Y R)(P:Int->LB->LS->LI->LI->LI->LI->LI->LI->Y R):Y R:=bif decide (d<j)then((ix h d).bind λe=>(G.z0k e).bind λr=>l9 G n n K d h j d r (List.length r:Int) 0 h0 t h2 L h4 M N O (λC i v w y D A E F H I J B=>(ix B i).bind λQ=>nx C v w (wr (y+1)) D A E F H I J (List.set B (Int.toNat i) i)))else P K h0 t h2 L h4 M N O
def l6{R:Type}(G:Gs)(n m:Nat)(A:Int)(d:LI)(h j:Int)(h0:LB)(t:LS)(h2 B h4 C D E:LI)(F:Int->LB->LS->LI->LI->LI->LI->LI->LI->Y R):Y R:=aS (λ(v:Int×LI×Int×Int×LB×LS×LI×LI×LI×LI×LI×LI) nx=>b6 G n v.1 v.2.1 v.2.2.1 v.2.2.2.1 v.2.2.2.2.1 v.2.2.2.2.2.1 v.2.2.2.2.2.2.1 v.2.2.2.2.2.2.2.1 v.2.2.2.2.2.2.2.2.1 v.2.2.2.2.2.2.2.2.2.1 v.2.2.2.2.2.2.2.2.2.2.1 v.2.2.2.2.2.2.2.2.2.2.2 (λH I J K L M N O P Q w y=>nx (H,I,J,K,L,M,N,O,P,Q,w,y)) F) m (A,d,h,j,h0,t,h2,B,h4,C,D,E)
def b18{R:Type}(G:Gs)(n:Nat)(j t:Int)(v:LS)(t66 d:Int)(h0:LB)(w:LS)(h2 B h4 C D h:LI)(nx:Int->Int->LS->Int->Int->LB->LS->LI->LI->LI->LI->LI->LI->Y R)(E:Int->Int->LB->LS->LI->LI->LI->LI->LI->LI->Y R):Y R:=bif decide (d<t66)then((ix v d).bind λe=>(ix h e.low).bind λy=>(ix h e.bK).bind λA=>(ix h e.low).bind λF=>(ix (List.set h (Int.toNat e.low) (ja y A)) e.bK).bind λH=>nx j t v t66 (wr (d+1)) h0 w h2 B h4 C D (List.set (List.set h (Int.toNat e.low) (ja y A)) (Int.toNat e.bK) (ja y A)))else E j t h0 w h2 B h4 C D h
def l18{R:Type}(G:Gs)(n m:Nat)(d h:Int)(j:LS)(t66 t:Int)(h0:LB)(w:LS)(h2 C h4 D E F:LI)(H:Int->Int->LB->LS->LI->LI->LI->LI->LI->LI->Y R):Y R:=aS (λ(v:Int×Int×LS×Int×Int×LB×LS×LI×LI×LI×LI×LI×LI) nx=>b18 G n v.1 v.2.1 v.2.2.1 v.2.2.2.1 v.2.2.2.2.1 v.2.2.2.2.2.1 v.2.2.2.2.2.2.1 v.2.2.2.2.2.2.2.1 v.2.2.2.2.2.2.2.2.1 v.2.2.2.2.2.2.2.2.2.1 v.2.2.2.2.2.2.2.2.2.2.1 v.2.2.2.2.2.2.2.2.2.2.2.1 v.2.2.2.2.2.2.2.2.2.2.2.2 (λI J K L M N O P Q S y A B=>nx (I,J,K,L,M,N,O,P,Q,S,y,A,B)) H) m (d,h,j,t66,t,h0,w,h2,C,h4,D,E,F)
def b16{R:Type}(G:Gs)(n:Nat)(h j:Int)(h0:LB)(d:LS)(h2 H h4 I J K:LI)(nx:Int->Int->LB->LS->LI->LI->LI->LI->LI->LI->Y R)(L:LI->LI->LI->LI->LI->LI->Y R):Y R:=bif decide (j<h)then(l18 G n n h j d (List.length d:Int) 0 h0 d h2 H h4 I J K (λt v y w A B C D E F=>nx t (wr (v+1)) y w A B C D E F))else L h2 H h4 I J K
def l16{R:Type}(G:Gs)(n m:Nat)(d h:Int)(h0:LB)(j:LS)(h2 t h4 w y A:LI)(B:LI->LI->LI->LI->LI->LI->Y R):Y R:=aS (λ(v:Int×Int×LB×LS×LI×LI×LI×LI×LI×LI) nx=>b16 G n v.1 v.2.1 v.2.2.1 v.2.2.2.1 v.2.2.2.2.1 v.2.2.2.2.2.1 v.2.2.2.2.2.2.1 v.2.2.2.2.2.2.2.1 v.2.2.2.2.2.2.2.2.1 v.2.2.2.2.2.2.2.2.2 (λC D E F H I J K L M=>nx (C,D,E,F,H,I,J,K,L,M)) B) m (d,h,h0,j,h2,t,h4,w,y,A)
def aq{R:Type}(G:Gs)(n:Nat)(s:So)(K:Od->Bool->Y R):Y R:=
 (G.z0i s).bind λr=>
 bif !r then
  (K (Od.mk [] [] []) false)
 else
  d4 G n (List.length s.ah:Int) s.ah s.ak [] [] []
   (fun I h0 h h2 J h4 j L M=>
    l6 G n n I j (List.length j:Int) 0 h0 h h2 J h4 j L M
     (fun t v d w y A B C D=>
      l16 G n n t 0 v d w y A B C D
       (λh1 N O E F H=>K (Od.mk E F H) true)
     )
   )
def dd4(G:Gs)(n:Nat)(R:Type)(st:St)(K:Kt R):Y R:=match st with|⟨[(1,.one (.p 0 0)),(2,.one (.p 1 0)),(4,.one (.i h))],[.box [.l .s h0,.l (.n 5) d],.box [.o 2,.o 3,.o 4],.row .i 0 h2,.row .i 0 j,.row .i 0 h4]⟩=>d4 G n h h0 d h2 j h4 (λh h0 d h2 j h4 t v w=>K .normal ⟨[(1,.one (.p 0 0)),(2,.one (.p 1 0)),(4,.one (.i h)),(5,.one (.p 5 0))],[.box [.l .s h0,.l (.n 5) d],.box [.o 2,.o 3,.o 4],.row .i 0 h2,.row .i 0 j,.row .i 0 h4,.box [.l .i t,.o 6,.o 7],.row .i 0 v,.row .i 0 w]⟩)|_=>none
def dl9(G:Gs)(n m:Nat):=rS [1,2,4,5,6,28,29,30,36,37,38] [.x (.p 0 0),.x (.p 1 0),.x .i,.x (.p 5 0),.x .i,.x (.l .i),.x .i,.x .i,.x (.l .i),.x .i,.x .i] [.b [.l .s,.l (.n 5)],.b [.o 2,.o 3,.o 4],.r .i 0,.r .i 0,.r .i 0,.b [.l .i,.o 6,.o 7],.r .i 0,.r .i 0] λR K v i d h j w t37 y h0 t h2 A h4 B C D=>l9 G n m v i d h j w t37 y h0 t h2 A h4 B C D (λv i d h j h0 t h2 A h4 B C D=>K (.exit 2) ⟨[(1,.one (.p 0 0)),(2,.one (.p 1 0)),(4,.one (.i v)),(5,.one (.p 5 0)),(6,.one (.i i)),(28,.one (.l .i d)),(29,.one (.i h)),(30,.one (.i j))],[.box [.l .s h0,.l (.n 5) t],.box [.o 2,.o 3,.o 4],.row .i 0 h2,.row .i 0 A,.row .i 0 h4,.box [.l .i B,.o 6,.o 7],.row .i 0 C,.row .i 0 D]⟩)
def dl6(G:Gs)(n m:Nat):=rS [1,2,4,5,28,29,30] [.x (.p 0 0),.x (.p 1 0),.x .i,.x (.p 5 0),.x (.l .i),.x .i,.x .i] [.b [.l .s,.l (.n 5)],.b [.o 2,.o 3,.o 4],.r .i 0,.r .i 0,.r .i 0,.b [.l .i,.o 6,.o 7],.r .i 0,.r .i 0] λR K h j t v h0 d h2 w h4 y A B=>l6 G n m h j t v h0 d h2 w h4 y A B (λh h0 d h2 w h4 y A B=>K (.exit 0) ⟨[(1,.one (.p 0 0)),(2,.one (.p 1 0)),(4,.one (.i h)),(5,.one (.p 5 0))],[.box [.l .s h0,.l (.n 5) d],.box [.o 2,.o 3,.o 4],.row .i 0 h2,.row .i 0 w,.row .i 0 h4,.box [.l .i y,.o 6,.o 7],.row .i 0 A,.row .i 0 B]⟩)
def wK(G:Gs)(n m:Nat):=rS [1,2,5,61,62,65,66,67] [.x (.p 0 0),.x (.p 1 0),.x (.p 5 0),.x .i,.x .i,.x (.l (.n 5)),.x .i,.x .i] [.b [.l .s,.l (.n 5)],.b [.o 2,.o 3,.o 4],.r .i 0,.r .i 0,.r .i 0,.b [.l .i,.o 6,.o 7],.r .i 0,.r .i 0] λR K d h t t66 v h0 j h2 w h4 y A B=>l18 G n m d h t t66 v h0 j h2 w h4 y A B (λd h h0 j h2 w h4 y A B=>K (.exit 6) ⟨[(1,.one (.p 0 0)),(2,.one (.p 1 0)),(5,.one (.p 5 0)),(61,.one (.i d)),(62,.one (.i h))],[.box [.l .s h0,.l (.n 5) j],.box [.o 2,.o 3,.o 4],.row .i 0 h2,.row .i 0 w,.row .i 0 h4,.box [.l .i y,.o 6,.o 7],.row .i 0 A,.row .i 0 B]⟩)
def EJ(G:Gs)(n m:Nat):=rS [1,2,5,61,62] [.x (.p 0 0),.x (.p 1 0),.x (.p 5 0),.x .i,.x .i] [.b [.l .s,.l (.n 5)],.b [.o 2,.o 3,.o 4],.r .i 0,.r .i 0,.r .i 0,.b [.l .i,.o 6,.o 7],.r .i 0,.r .i 0] λR K d h h0 j h2 t h4 v w y=>l16 G n m d h h0 j h2 t h4 v w y (λh1 h2 t h4 v w=>K (.exit 4) ⟨[(2,.one (.p 0 0)),(5,.one (.p 4 0))],[.box [.o 1,.o 2,.o 3],.row .i 0 h1,.row .i 0 h2,.row .i 0 t,.box [.l .i h4,.o 5,.o 6],.row .i 0 v,.row .i 0 w]⟩)
def pc(G:Gs)(n:Nat):Pcs:=⟨λR id st K=>bif Nat.beq id 9 then dl9 G n n R st K else bif Nat.beq id 6 then dl6 G n n R st K else bif Nat.beq id 18 then wK G n n R st K else bif Nat.beq id 16 then EJ G n n R st K else none,nK,λR id st K=>bif Nat.beq id 4 then dd4 G n R st K else none⟩
def an:Ann:=⟨99,0,[(9,[1,2,4,5,6,28,29,30,36,37,38]),(6,[1,2,4,5,28,29,30]),(18,[1,2,5,61,62,65,66,67]),(16,[1,2,5,61,62])],[],[2,3],[(4,⟨[([2,3,4,5,7,0,1,6,8],[3,5,7,8],[]),([2,3,7,4,5,0,1,6,8],[3,7,5,8],[]),([4,5,2,3,7,0,1,6,8],[5,3,7,8],[]),([4,5,7,2,3,0,1,6,8],[5,7,3,8],[]),([7,2,3,4,5,0,1,6,8],[7,3,5,8],[]),([7,4,5,2,3,0,1,6,8],[7,5,3,8],[])],[3,5,7,8],[],[0,1,2,3,4],[1,2,4]⟩),(11,⟨[([0,1,2,3,4,5,6,7,8,9,10,11,12],[12],[6,7,11])],[12],[],[0,1,2,3,4,5,7],[]⟩),(20,⟨[([0,1,2,3,4,5,6,7,8,9,10,11,12,13],[],[])],[],[],[0,1,2,3,4,5,6,7,8],[]⟩)],[]⟩
abbrev bd:=aF Tryz.f42
abbrev q4:=aJ [1,1,1,0] bd
abbrev q9:=aJ [1,1,1,1,0,1,0,0,1,1,0,0,1,0,1,0,0] bd
abbrev q6:=aJ [1,1,1,1,0,1,0,0] bd
abbrev q18:=aJ [1,1,1,1,1,0,1,0,0,1,1,0,0,1,0,0] bd
abbrev q16:=aJ [1,1,1,1,1,0,1,0,0] bd
theorem s4_0(G:Gs)(n:Nat)(R:Type)(j:Int)(h0:LB)(h:LS)(h2 t h4:LI)(K:Kt R):(λS:St=>(λd:St=>dY tb (cP (ax G)) an.nt an.im (fk (q4)) (eL [0,1,2,3,4] d.H) [2,3,4,5,7,0,1,6,8] [3,5,7,8] [] [] [2,3,4,5,7,0,1,6,8] d.L d.H d.H λL H=>iW an.refs ⟨[1,2,4,5],[2,3],[]⟩ K .normal ⟨L,H⟩) (cJ (bw (St.L S) (St.H S) []) S)=dd4 G n R S K) ⟨[(1,.one (.p 0 0)),(2,.one (.p 1 0)),(4,.one (.i j))],[.box [.l .s h0,.l (.n 5) h],.box [.o 2,.o 3,.o 4],.row .i 0 h2,.row .i 0 t,.row .i 0 h4]⟩:=QA
theorem s4_1(G:Gs)(n:Nat)(R:Type)(j:Int)(h0:LB)(d:LS)(h2 t h4:LI)(K:Kt R):(λh:St=>dY tb (cP (ax G)) an.nt an.im (fk (q4)) (eL [0,1,2,3,4] h.H) [2,3,7,4,5,0,1,6,8] [3,7,5,8] [] [] [2,3,7,4,5,0,1,6,8] h.L h.H h.H λL H=>iW an.refs ⟨[1,2,4,5],[2,3],[]⟩ K .normal ⟨L,H⟩) (cJ (bw (St.L ⟨[(1,.one (.p 0 0)),(2,.one (.p 1 0)),(4,.one (.i j))],[.box [.l .s h0,.l (.n 5) d],.box [.o 2,.o 3,.o 4],.row .i 0 h2,.row .i 0 t,.row .i 0 h4]⟩) (St.H ⟨[(1,.one (.p 0 0)),(2,.one (.p 1 0)),(4,.one (.i j))],[.box [.l .s h0,.l (.n 5) d],.box [.o 2,.o 3,.o 4],.row .i 0 h2,.row .i 0 t,.row .i 0 h4]⟩) []) ⟨[(1,.one (.p 0 0)),(2,.one (.p 1 0)),(4,.one (.i j))],[.box [.l .s h0,.l (.n 5) d],.box [.o 2,.o 3,.o 4],.row .i 0 h2,.row .i 0 t,.row .i 0 h4]⟩)=MG G n j h0 d h2 t h4 (λj h0 d h2 t h4 v w y=>K .normal ⟨[(1,.one (.p 0 0)),(2,.one (.p 1 0)),(4,.one (.i j)),(5,.one (.p 5 0))],[.box [.l .s h0,.l (.n 5) d],.box [.o 2,.o 3,.o 4],.row .i 0 h2,.row .i 0 t,.row .i 0 h4,.box [.l .i v,.o 6,.o 7],.row .i 0 w,.row .i 0 y]⟩):=F1
theorem s4_2(G:Gs)(n:Nat)(R:Type)(j:Int)(h0:LB)(d:LS)(h2 t h4:LI)(K:Kt R):(λh:St=>dY tb (cP (ax G)) an.nt an.im (fk (q4)) (eL [0,1,2,3,4] h.H) [4,5,2,3,7,0,1,6,8] [5,3,7,8] [] [] [4,5,2,3,7,0,1,6,8] h.L h.H h.H λL H=>iW an.refs ⟨[1,2,4,5],[2,3],[]⟩ K .normal ⟨L,H⟩) (cJ (bw (St.L ⟨[(1,.one (.p 0 0)),(2,.one (.p 1 0)),(4,.one (.i j))],[.box [.l .s h0,.l (.n 5) d],.box [.o 2,.o 3,.o 4],.row .i 0 h2,.row .i 0 t,.row .i 0 h4]⟩) (St.H ⟨[(1,.one (.p 0 0)),(2,.one (.p 1 0)),(4,.one (.i j))],[.box [.l .s h0,.l (.n 5) d],.box [.o 2,.o 3,.o 4],.row .i 0 h2,.row .i 0 t,.row .i 0 h4]⟩) []) ⟨[(1,.one (.p 0 0)),(2,.one (.p 1 0)),(4,.one (.i j))],[.box [.l .s h0,.l (.n 5) d],.box [.o 2,.o 3,.o 4],.row .i 0 h2,.row .i 0 t,.row .i 0 h4]⟩)=LW G n j h0 d h2 t h4 (λj h0 d h2 t h4 v w y=>K .normal ⟨[(1,.one (.p 0 0)),(2,.one (.p 1 0)),(4,.one (.i j)),(5,.one (.p 5 0))],[.box [.l .s h0,.l (.n 5) d],.box [.o 2,.o 3,.o 4],.row .i 0 h2,.row .i 0 t,.row .i 0 h4,.box [.l .i v,.o 6,.o 7],.row .i 0 w,.row .i 0 y]⟩):=F1
theorem s4_3(G:Gs)(n:Nat)(R:Type)(j:Int)(h0:LB)(d:LS)(h2 t h4:LI)(K:Kt R):(λh:St=>dY tb (cP (ax G)) an.nt an.im (fk (q4)) (eL [0,1,2,3,4] h.H) [4,5,7,2,3,0,1,6,8] [5,7,3,8] [] [] [4,5,7,2,3,0,1,6,8] h.L h.H h.H λL H=>iW an.refs ⟨[1,2,4,5],[2,3],[]⟩ K .normal ⟨L,H⟩) (cJ (bw (St.L ⟨[(1,.one (.p 0 0)),(2,.one (.p 1 0)),(4,.one (.i j))],[.box [.l .s h0,.l (.n 5) d],.box [.o 2,.o 3,.o 4],.row .i 0 h2,.row .i 0 t,.row .i 0 h4]⟩) (St.H ⟨[(1,.one (.p 0 0)),(2,.one (.p 1 0)),(4,.one (.i j))],[.box [.l .s h0,.l (.n 5) d],.box [.o 2,.o 3,.o 4],.row .i 0 h2,.row .i 0 t,.row .i 0 h4]⟩) []) ⟨[(1,.one (.p 0 0)),(2,.one (.p 1 0)),(4,.one (.i j))],[.box [.l .s h0,.l (.n 5) d],.box [.o 2,.o 3,.o 4],.row .i 0 h2,.row .i 0 t,.row .i 0 h4]⟩)=L9 G n j h0 d h2 t h4 (λj h0 d h2 t h4 v w y=>K .normal ⟨[(1,.one (.p 0 0)),(2,.one (.p 1 0)),(4,.one (.i j)),(5,.one (.p 5 0))],[.box [.l .s h0,.l (.n 5) d],.box [.o 2,.o 3,.o 4],.row .i 0 h2,.row .i 0 t,.row .i 0 h4,.box [.l .i v,.o 6,.o 7],.row .i 0 w,.row .i 0 y]⟩):=F1
theorem s4_4(G:Gs)(n:Nat)(R:Type)(j:Int)(h0:LB)(d:LS)(h2 t h4:LI)(K:Kt R):(λh:St=>dY tb (cP (ax G)) an.nt an.im (fk (q4)) (eL [0,1,2,3,4] h.H) [7,2,3,4,5,0,1,6,8] [7,3,5,8] [] [] [7,2,3,4,5,0,1,6,8] h.L h.H h.H λL H=>iW an.refs ⟨[1,2,4,5],[2,3],[]⟩ K .normal ⟨L,H⟩) (cJ (bw (St.L ⟨[(1,.one (.p 0 0)),(2,.one (.p 1 0)),(4,.one (.i j))],[.box [.l .s h0,.l (.n 5) d],.box [.o 2,.o 3,.o 4],.row .i 0 h2,.row .i 0 t,.row .i 0 h4]⟩) (St.H ⟨[(1,.one (.p 0 0)),(2,.one (.p 1 0)),(4,.one (.i j))],[.box [.l .s h0,.l (.n 5) d],.box [.o 2,.o 3,.o 4],.row .i 0 h2,.row .i 0 t,.row .i 0 h4]⟩) []) ⟨[(1,.one (.p 0 0)),(2,.one (.p 1 0)),(4,.one (.i j))],[.box [.l .s h0,.l (.n 5) d],.box [.o 2,.o 3,.o 4],.row .i 0 h2,.row .i 0 t,.row .i 0 h4]⟩)=MS G n j h0 d h2 t h4 (λj h0 d h2 t h4 v w y=>K .normal ⟨[(1,.one (.p 0 0)),(2,.one (.p 1 0)),(4,.one (.i j)),(5,.one (.p 5 0))],[.box [.l .s h0,.l (.n 5) d],.box [.o 2,.o 3,.o 4],.row .i 0 h2,.row .i 0 t,.row .i 0 h4,.box [.l .i v,.o 6,.o 7],.row .i 0 w,.row .i 0 y]⟩):=F1
theorem s4_5(G:Gs)(n:Nat)(R:Type)(j:Int)(h0:LB)(d:LS)(h2 t h4:LI)(K:Kt R):(λh:St=>dY tb (cP (ax G)) an.nt an.im (fk (q4)) (eL [0,1,2,3,4] h.H) [7,4,5,2,3,0,1,6,8] [7,5,3,8] [] [] [7,4,5,2,3,0,1,6,8] h.L h.H h.H λL H=>iW an.refs ⟨[1,2,4,5],[2,3],[]⟩ K .normal ⟨L,H⟩) (cJ (bw (St.L ⟨[(1,.one (.p 0 0)),(2,.one (.p 1 0)),(4,.one (.i j))],[.box [.l .s h0,.l (.n 5) d],.box [.o 2,.o 3,.o 4],.row .i 0 h2,.row .i 0 t,.row .i 0 h4]⟩) (St.H ⟨[(1,.one (.p 0 0)),(2,.one (.p 1 0)),(4,.one (.i j))],[.box [.l .s h0,.l (.n 5) d],.box [.o 2,.o 3,.o 4],.row .i 0 h2,.row .i 0 t,.row .i 0 h4]⟩) []) ⟨[(1,.one (.p 0 0)),(2,.one (.p 1 0)),(4,.one (.i j))],[.box [.l .s h0,.l (.n 5) d],.box [.o 2,.o 3,.o 4],.row .i 0 h2,.row .i 0 t,.row .i 0 h4]⟩)=Li G n j h0 d h2 t h4 (λj h0 d h2 t h4 v w y=>K .normal ⟨[(1,.one (.p 0 0)),(2,.one (.p 1 0)),(4,.one (.i j)),(5,.one (.p 5 0))],[.box [.l .s h0,.l (.n 5) d],.box [.o 2,.o 3,.o 4],.row .i 0 h2,.row .i 0 t,.row .i 0 h4,.box [.l .i v,.o 6,.o 7],.row .i 0 w,.row .i 0 y]⟩):=F1
theorem pd4{G:Gs}(B:am (ax G)){n:Nat}:al an (q4) (dd4 G n):=by
 have hc:q4= .region 4 (fk (q4)) true:=F1
 rw[hc];refine λ[Zb]=>jB mixed ki (iS B) (o:=⟨[1,2,4,5],[2,3],[]⟩) (d:=⟨[([2,3,4,5,7,0,1,6,8],[3,5,7,8],[]),([2,3,7,4,5,0,1,6,8],[3,7,5,8],[]),([4,5,2,3,7,0,1,6,8],[5,3,7,8],[]),([4,5,7,2,3,0,1,6,8],[5,7,3,8],[]),([7,2,3,4,5,0,1,6,8],[7,3,5,8],[]),([7,4,5,2,3,0,1,6,8],[7,5,3,8],[])],[3,5,7,8],[],[0,1,2,3,4],[1,2,4]⟩) F1 (λp hp R st K r h=> ?_)
 have e:=h;unfold dd4 at e;split at e
 .rename_i j t v w y A;simp only[Oz,Ps,or_false]at hp;rcases hp with rfl|rfl|rfl|rfl|rfl|rfl
  .exact(s4_0 G n R j t v w y A K).trans h
  .exact((s4_1 G n R j t v w y A K).trans (e4_1 G n j t v w y A _)).trans h
  .exact((s4_2 G n R j t v w y A K).trans (e4_2 G n j t v w y A _)).trans h
  .exact((s4_3 G n R j t v w y A K).trans (e4_3 G n j t v w y A _)).trans h
  .exact((s4_4 G n R j t v w y A K).trans (e4_4 G n j t v w y A _)).trans h
  .exact((s4_5 G n R j t v w y A K).trans (e4_5 G n j t v w y A _)).trans h
 .cases e
theorem pl9{G:Gs}(d:am (ax G))(n:Nat):∀m,al an (.loop q9) (dl9 G n m):=lpq d (pc G n) ⟨[1,2,4,5,6,28,29,30],[2,3],[(0,[1,2,4,5]),(1,[1,2,4,5,28,29,30]),(2,[1,2,4,5,6,28,29,30])]⟩
theorem pl6{G:Gs}(d:am (ax G))(n:Nat):∀m,al an (.loop q6) (dl6 G n m):=lpq d (pc G n) ⟨[1,2,4,5],[2,3],[(0,[1,2,4,5])]⟩ (apl [(1,9,.loop q9)] ⟨pl9 d n n,trivial⟩)
theorem FV{G:Gs}(d:am (ax G))(n:Nat):∀m,al an (.loop q18) (wK G n m):=lpq d (pc G n) ⟨[1,2,5,61,62],[2,3],[(4,[2,5]),(5,[1,2,5,61,62]),(6,[1,2,5,61,62])]⟩
theorem Mw{G:Gs}(d:am (ax G))(n:Nat):∀m,al an (.loop q16) (EJ G n m):=lpq d (pc G n) ⟨[2,5],[2,3],[(4,[2,5])]⟩ (apl [(1,18,.loop q18)] ⟨FV d n n,trivial⟩)
theorem ok{G:Gs}(d:am (ax G)){g:Q}(t:∀s r,g s=some r->∃n,aq (R:=AT×RV Ob) G n s (λh v=>some (.tup [.agg [.l .i h.bh,.l .i h.below,.l .i h.kind],.one (.b v)],[]))=some (.tup [.agg [.l .i r.1.bh,.l .i r.1.below,.l .i r.1.kind],.one (.b r.2)],[])):aj (ent g):=okQ λ_ _ _ _ _ hc=>okL hc λr j=>let⟨n,j⟩:=t _ _ j;fF d an (pc G n) Tryz.func42 j (apl [(2,4,q4),(1,6,.loop q6),(1,16,.loop q16)] ⟨pd4 d,⟨pl6 d n n,⟨Mw d n n,trivial⟩⟩⟩)
end z1g
namespace z1h
structure Gs where
 none_:Unit
def aq{R:Type}(G:Gs)(n:Nat)(x:Od)(k:Int)(K:Bool->Y R):Y R:=
 bif decide (0<=k)then
  (K (decide (k<(List.length x.bh:Int))))
 else
  K false
theorem ok{G:Gs}(d:am []){g:Q}(h:∀x k r,g x k=some r->∃n,aq (R:=AT×RV Ob) G n x k (λt=>some (.one (.b t),[]))=some (.one (.b r),[])):aj (ent g):=okQ λ_ _ _ _ _ _ _ hc=>okL hc λr j=>let⟨_,j⟩:=h _ _ _ j;fF d ⟨14,0,[],[],[4],[],[]⟩ nP Tryz.func102 j
end z1h
namespace z18
structure Gs where
 z1h:z1h.Q
def ax(G:Gs):RV Ent:=[z1h.ent G.z1h]
def b7{R:Type}(G:Gs)(n:Nat)(t:LI)(v d:Int)(h0 h j:LI)(h1:Z)(w:LD)(y A:Bool)(B:Int)(h2:LI)(C:Int)(nx:LI->Int->Int->LI->LI->LI->Z->LD->Bool->Bool->Int->LI->Int->Y R)(D:Bool->Y R)(k1:LI->LI->LI->Z->LD->Bool->Bool->Int->LI->Int->Y R):Y R:=bif decide (d<v)then((ix t d).bind λe=>(G.z1h (Od.mk h0 h j) e).bind λr=>bif !r then(D false)else nx t v (wr (d+1)) h0 h j h1 w y A B h2 C)else k1 h0 h j h1 w y A B h2 C
def l7{R:Type}(G:Gs)(n m:Nat)(d:LI)(h j:Int)(h0 t w:LI)(h1:Z)(y:LD)(A B:Bool)(C:Int)(h2:LI)(D:Int)(I:Bool->Y R)(k1:LI->LI->LI->Z->LD->Bool->Bool->Int->LI->Int->Y R):Y R:=aS (λ(v:LI×Int×Int×LI×LI×LI×Z×LD×Bool×Bool×Int×LI×Int) nx=>b7 G n v.1 v.2.1 v.2.2.1 v.2.2.2.1 v.2.2.2.2.1 v.2.2.2.2.2.1 v.2.2.2.2.2.2.1 v.2.2.2.2.2.2.2.1 v.2.2.2.2.2.2.2.2.1 v.2.2.2.2.2.2.2.2.2.1 v.2.2.2.2.2.2.2.2.2.2.1 v.2.2.2.2.2.2.2.2.2.2.2.1 v.2.2.2.2.2.2.2.2.2.2.2.2 (λJ K L M N O P Q S T E F H=>nx (J,K,L,M,N,O,P,Q,S,T,E,F,H)) I k1) m (d,h,j,h0,t,w,h1,y,A,B,C,h2,D)
def b18{R:Type}(G:Gs)(n:Nat)(t53:LD)(t t55:Int)(v:LI)(w h:Int)(h0 j d h1:LI)(y:Int)(nx:LD->Int->Int->LI->Int->Int->LI->LI->LI->LI->Int->Y R)(A:Bool->Y R)(k1:LD->Int->Int->LI->LI->LI->LI->Int->Y R):Y R:=bif decide (h<w)then((ix v h).bind λe=>(G.z1h (Od.mk h0 j d) e).bind λB=>bif !B then(A false)else(ix d e).bind λC=>(ix h1 h).bind λD=>(ix d D).bind λE=>bif !decide (C=E)then(A false)else nx t53 t t55 v w (wr (h+1)) h0 j d h1 y)else k1 t53 t t55 h0 j d h1 y
def l18{R:Type}(G:Gs)(n m:Nat)(t53:LD)(d t55:Int)(h:LI)(j t:Int)(h0 w y h1:LI)(A:Int)(C:Bool->Y R)(k1:LD->Int->Int->LI->LI->LI->LI->Int->Y R):Y R:=aS (λ(v:LD×Int×Int×LI×Int×Int×LI×LI×LI×LI×Int) nx=>b18 G n v.1 v.2.1 v.2.2.1 v.2.2.2.1 v.2.2.2.2.1 v.2.2.2.2.2.1 v.2.2.2.2.2.2.1 v.2.2.2.2.2.2.2.1 v.2.2.2.2.2.2.2.2.1 v.2.2.2.2.2.2.2.2.2.1 v.2.2.2.2.2.2.2.2.2.2 (λD E F H I J K L M N B=>nx (D,E,F,H,I,J,K,L,M,N,B)) C k1) m (t53,d,t55,h,j,t,h0,w,y,h1,A)
def b13{R:Type}(G:Gs)(n:Nat)(t53:LD)(h t55:Int)(h0 j d h1:LI)(t:Int)(nx:LD->Int->Int->LI->LI->LI->LI->Int->Y R)(D:Bool->Y R)(k1:Y R):Y R:=bif decide (t55<h)then((ix t53 t55).bind λe=>bif !decide ((List.length e.ac:Int)=(List.length h1:Int))then(D false)else(G.z1h (Od.mk h0 j d) e.result).bind λH=>bif !H then(D false)else(ix d e.result).bind λI=>(ix d t).bind λJ=>bif !decide (I=J)then(D false)else l18 G n n t53 h t55 e.ac (List.length e.ac:Int) 0 h0 j d h1 t (λt4=>D t4) (λv w y E A B F C=>nx v w (wr (y+1)) E A B F C))else k1
def l13{R:Type}(G:Gs)(n m:Nat)(t53:LD)(d t55:Int)(h0 h j h1:LI)(t:Int)(w:Bool->Y R)(k1:Y R):Y R:=aS (λ(v:LD×Int×Int×LI×LI×LI×LI×Int) nx=>b13 G n v.1 v.2.1 v.2.2.1 v.2.2.2.1 v.2.2.2.2.1 v.2.2.2.2.2.1 v.2.2.2.2.2.2.1 v.2.2.2.2.2.2.2 (λy A B C D E F H=>nx (y,A,B,C,D,E,F,H)) w k1) m (t53,d,t55,h0,h,j,h1,t)
def aq{R:Type}(G:Gs)(n:Nat)(x:Od)(o:Opr)(K:Bool->Y R):Y R:=
 bif decide ((List.length o.aC:Int)<1)then
  (K false)
 else
  bif decide (4<(List.length o.aC:Int))then
   (K false)
  else
   (ix o.aC 0).bind λe=>
   bif decide (3<(List.length e.ac:Int))then
    (K false)
   else
    (ix o.aC 0).bind λd=>
    (G.z1h x d.result).bind λr=>
    bif !r then
     (K false)
    else
     l7 G n n d.ac (List.length d.ac:Int) 0 x.bh x.below x.kind o.ae o.aC o.aA o.comm o.aE d.ac d.result
      (λt4=>K t4)
      (fun h0 j t h1 h y A B h2 v=>
       l13 G n n h (List.length h:Int) 0 h0 j t h2 v
        (λw=>K w)
        (K true)
      )
def dl7(G:Gs)(n m:Nat):=rS [2,3,5,41,42,43] [.x (.p 0 0),.x (.p 1 0),.x (.p 2 0),.x (.l .i),.x .i,.x .i] [.b [.l .i,.l .i,.l .i],.b [.s,.l (.n 7),.b,.b,.i],.b [.l .i,.i]] λR K A B C h0 d h h1 j t v w h2 y=>l7 G n m A B C h0 d h h1 j t v w h2 y (λt4=>K .ret ⟨[(4,.one (.b t4))],[]⟩) (λh0 d h h1 j t v w h2 y=>K (.exit 0) ⟨[(2,.one (.p 0 0)),(3,.one (.p 1 0)),(5,.one (.p 2 0))],[.box [.l .i h0,.l .i d,.l .i h],.box [.s h1,.l (.n 7) j,.b t,.b v,.i w],.box [.l .i h2,.i y]]⟩)
def wK(G:Gs)(n m:Nat):=rS [2,5,53,54,55,89,90,91] [.x (.p 0 0),.x (.p 1 0),.x (.l (.n 7)),.x .i,.x .i,.x (.l .i),.x .i,.x .i] [.b [.l .i,.l .i,.l .i],.b [.l .i,.i]] λR K t53 d t55 v w y h0 h j h1 t=>l18 G n m t53 d t55 v w y h0 h j h1 t (λt4=>K .ret ⟨[(4,.one (.b t4))],[]⟩) (λt53 d t55 h0 h j h1 t=>K (.exit 4) ⟨[(2,.one (.p 0 0)),(5,.one (.p 1 0)),(53,.one (.l (.n 7) t53)),(54,.one (.i d)),(55,.one (.i t55))],[.box [.l .i h0,.l .i h,.l .i j],.box [.l .i h1,.i t]]⟩)
def rL(G:Gs)(n m:Nat):=rS [2,5,53,54,55] [.x (.p 0 0),.x (.p 1 0),.x (.l (.n 7)),.x .i,.x .i] [.b [.l .i,.l .i,.l .i],.b [.l .i,.i]] λR K t53 d t55 h0 h j h1 t=>l13 G n m t53 d t55 h0 h j h1 t (λt4=>K .ret ⟨[(4,.one (.b t4))],[]⟩) (K (.exit 2) ⟨[],[]⟩)
def pc(G:Gs)(n:Nat):Pcs:=⟨λR id st K=>bif Nat.beq id 7 then dl7 G n n R st K else bif Nat.beq id 18 then wK G n n R st K else bif Nat.beq id 13 then rL G n n R st K else none,nK,nK⟩
def an:Ann:=⟨119,0,[(7,[2,3,5,41,42,43]),(18,[2,5,53,54,55,89,90,91]),(13,[2,5,53,54,55])],[],[4],[(15,⟨[([0,1,2,3,4,5,6,7,8,9,10,11,12,13,14,15,16,17,18,19,20,21,22,23,24,25,26,27,28],[],[])],[],[],[0,1,2],[]⟩),(20,⟨[([0,1,2,3,4,5,6,7,8,9,10,11,12,13,14,15,16,17,18,19,20],[],[])],[],[],[0,1],[]⟩)],[]⟩
abbrev bd:=aF Tryz.f69
abbrev q7:=aJ [1,1,1,1,0,1,0,0] bd
abbrev q18:=aJ [1,1,1,1,1,0,1,0,0,1,1,0,0,1,1,1,0,0] bd
abbrev q13:=aJ [1,1,1,1,1,0,1,0,0] bd
theorem pl7{G:Gs}(d:am (ax G))(n:Nat):∀m,al an (.loop q7) (dl7 G n m):=lpq d (pc G n) ⟨[2,3,5],[4],[(0,[2,3,5])]⟩
theorem FV{G:Gs}(d:am (ax G))(n:Nat):∀m,al an (.loop q18) (wK G n m):=lpq d (pc G n) ⟨[2,5,53,54,55],[4],[(2,[]),(3,[2,5,53,54,55]),(4,[2,5,53,54,55])]⟩
theorem AK{G:Gs}(d:am (ax G))(n:Nat):∀m,al an (.loop q13) (rL G n m):=lpq d (pc G n) ⟨[],[4],[(2,[])]⟩ (apl [(1,18,.loop q18)] ⟨FV d n n,trivial⟩)
theorem ok{G:Gs}(d:am (ax G)){g:Q}(h:∀x o r,g x o=some r->∃n,aq (R:=AT×RV Ob) G n x o (λt=>some (.one (.b t),[]))=some (.one (.b r),[])):aj (ent g):=okQ λ_ _ _ _ _ _ _ _ _ _ _ hc=>okL hc λr j=>let⟨n,j⟩:=h _ _ _ j;fF d an (pc G n) Tryz.func69 j (apl [(1,7,.loop q7),(1,13,.loop q13)] ⟨pl7 d n n,⟨AK d n n,trivial⟩⟩)
end z18
namespace z15
structure Gs where
 none_:Unit
def ax(_:Gs):RV Ent:=[]
def c10{R:Type}(G:Gs)(n:Nat)(h0 y d:LI)(h1:LB)(A:LS)(j:LO)(h2:Z)(B:LD)(C D:Bool)(h:Int)(H:LI)(t:Int)(v:Bool->Y R):Y R:=bif decide (h=0)then(v true)else(ix j (wr (h-1))).bind λe=>(ix e.aC 0).bind λw=>bif decide ((List.length w.ac:Int)=0)then((ix d w.result).bind λE=>(ix d t).bind λF=>v (decide (E=F)))else v false
def c5{R:Type}(G:Gs)(n:Nat)(h0 v d:LI)(h1:LB)(w:LS)(y:LO)(h2:Z)(h:LD)(j A:Bool)(t:Int)(B:Bool->Y R):Y R:=(ix h 0).bind λe=>bif !decide ((List.length e.ac:Int)=2)then(B false)else(ix e.ac 0).bind λL=>(ix d L).bind λM=>(ix e.ac 1).bind λN=>(ix d N).bind λO=>bif !decide (M=O)then(B false)else bif j then((ix e.ac 0).bind λC=>(ix d C).bind λD=>(ix d e.result).bind λE=>bif !decide (D=E)then(B false)else c10 G n h0 v d h1 w y h2 h j A t e.ac e.result (λP=>B P))else bif !decide (t=0)then((ix e.ac 0).bind λF=>(ix d F).bind λH=>(ix d e.result).bind λI=>bif !decide (H=I)then(B false)else c10 G n h0 v d h1 w y h2 h j A t e.ac e.result (λJ=>B J))else c10 G n h0 v d h1 w y h2 h j A t e.ac e.result (λK=>B K)
def aq{R:Type}(G:Gs)(n:Nat)(x:Od)(s:Sg)(o:Opr)(K:Bool->Y R):Y R:=
 bif decide (o.aE<0)then
  (K false)
 else
  bif decide ((List.length s.ops:Int)<o.aE)then
   (K false)
  else
   bif !o.aA then
    (
    bif !o.comm then
     (
     bif decide (o.aE=0)then
      (K true)
     else
      c5 G n x.bh x.below x.kind s.ai.ah s.ai.ak s.ops o.ae o.aC o.aA o.comm o.aE
       (λj=>K j)
     )
    else
     c5 G n x.bh x.below x.kind s.ai.ah s.ai.ak s.ops o.ae o.aC o.aA o.comm o.aE
      (λd=>K d)
    )
   else
    c5 G n x.bh x.below x.kind s.ai.ah s.ai.ak s.ops o.ae o.aC o.aA o.comm o.aE
     (λh=>K h)
def xS(G:Gs)(n:Nat):=rS [3,4,5,7] [.x (.p 0 0),.x (.p 1 0),.x (.p 2 0),.x (.p 3 0)] [.b [.l .i,.l .i,.l .i],.b [.l .s,.l (.n 5),.l (.n 8)],.b [.s,.l (.n 7),.b,.b,.i],.b [.l .i,.i]] λR K h0 d h h1 j t h2 v w y A C B=>c10 G n h0 d h h1 j t h2 v w y A C B (λD=>K .ret ⟨[(6,.one (.b D))],[]⟩)
def dc5(G:Gs)(n:Nat):=rS [3,4,5] [.x (.p 0 0),.x (.p 1 0),.x (.p 2 0)] [.b [.l .i,.l .i,.l .i],.b [.l .s,.l (.n 5),.l (.n 8)],.b [.s,.l (.n 7),.b,.b,.i]] λR K h0 d h h1 j t h2 v w y A=>c5 G n h0 d h h1 j t h2 v w y A (λB=>K .ret ⟨[(6,.one (.b B))],[]⟩)
def pc(G:Gs)(n:Nat):Pcs:=⟨nK,λR id st K=>bif Nat.beq id 10 then xS G n R st K else bif Nat.beq id 5 then dc5 G n R st K else none,nK⟩
def an:Ann:=⟨116,0,[],[(10,[3,4,5,7]),(5,[3,4,5])],[6],[(6,⟨[([0,1,2,3,4,5,6,7,8,9,10,11,12,13,14,15,16,17,18,19,20,21,22],[],[])],[],[],[0,1,2,3],[]⟩),(8,⟨[([0,1,2,3,4,5,6,7,8,9,10,11,12,13,14,15,16,17,18,19,20,21,22,23],[],[])],[],[],[0,1,2,3],[]⟩),(13,⟨[([0,1,2,3,4,5,6,7,8,9,10,11,12,13,14,15,16,17,18,19],[],[])],[],[],[0,1,2,3,4],[]⟩)],[]⟩
abbrev bd:=aF Tryz.f70
abbrev q10:=aJ [1,1,1,1,1,1] bd
abbrev q5:=aJ [1,1,1] bd
theorem Hs{G:Gs}(d:am (ax G)){n:Nat}:al an q10 (xS G n):=cpq d (pc G n) ⟨[],[6],[]⟩
theorem pc5{G:Gs}(d:am (ax G)){n:Nat}:al an q5 (dc5 G n):=cpq d (pc G n) ⟨[],[6],[]⟩ (apl [(0,10,q10)] ⟨Hs d,trivial⟩)
theorem ok{G:Gs}(d:am (ax G)){g:Q}(h:∀x s o r,g x s o=some r->∃n,aq (R:=AT×RV Ob) G n x s o (λt=>some (.one (.b t),[]))=some (.one (.b r),[])):aj (ent g):=okQ λ_ _ _ _ _ _ _ _ _ _ _ _ _ _ hc=>okL hc λr j=>let⟨n,j⟩:=h _ _ _ _ j;fF d an (pc G n) Tryz.func70 j (apl [(0,5,q5)] ⟨pc5 d,trivial⟩)
end z15
namespace z0g
structure Gs where
 z1g:z1g.Q
 z0e:z0e.Q
 z18:z18.Q
 z15:z15.Q
def ax(G:Gs):RV Ent:=[z1g.ent G.z1g,z0e.ent G.z0e,z18.ent G.z18,z15.ent G.z15]
def b6{R:Type}(G:Gs)(n:Nat)(t:LO)(v d:Int)(h0:LB)(w:LS)(y:LO)(h1 h j:LI)(h2:RV (Z×Bool))(nx:LO->Int->Int->LB->LS->LO->LI->LI->LI->(RV (Z×Bool))->Y R)(A:Bool->Y R)(k1:LB->LS->LO->LI->LI->LI->Y R):Y R:=bif decide (d<v)then((ix t d).bind λe=>bif rm h2 e.ae false then(A false)else(G.z0e e.ae).bind λr=>bif !r then(A false)else(G.z18 (Od.mk h1 h j) e).bind λB=>bif !B then(A false)else nx t v (wr (d+1)) h0 w y h1 h j ((e.ae,true)::h2))else k1 h0 w y h1 h j
def l6{R:Type}(G:Gs)(n m:Nat)(d:LO)(h j:Int)(h0:LB)(t:LS)(w:LO)(h1 y A:LI)(h2:RV (Z×Bool))(B:Bool->Y R)(k1:LB->LS->LO->LI->LI->LI->Y R):Y R:=aS (λ(v:LO×Int×Int×LB×LS×LO×LI×LI×LI×(RV (Z×Bool))) nx=>b6 G n v.1 v.2.1 v.2.2.1 v.2.2.2.1 v.2.2.2.2.1 v.2.2.2.2.2.1 v.2.2.2.2.2.2.1 v.2.2.2.2.2.2.2.1 v.2.2.2.2.2.2.2.2.1 v.2.2.2.2.2.2.2.2.2 (λC D E F H I J K L M=>nx (C,D,E,F,H,I,J,K,L,M)) B k1) m (d,h,j,h0,t,w,h1,y,A,h2)
def b13{R:Type}(G:Gs)(n:Nat)(t53:LO)(d t55:Int)(h0:LB)(h:LS)(j:LO)(h1 t v:LI)(nx:LO->Int->Int->LB->LS->LO->LI->LI->LI->Y R)(w:Bool->Y R)(k1:Y R):Y R:=bif decide (t55<d)then((ix t53 t55).bind λe=>(G.z15 (Od.mk h1 t v) (Sg.mk (So.mk h0 h) j) e).bind λr=>bif !r then(w false)else nx t53 d (wr (t55+1)) h0 h j h1 t v)else k1
def l13{R:Type}(G:Gs)(n m:Nat)(t53:LO)(d t55:Int)(h0:LB)(h:LS)(j:LO)(h1 t w:LI)(y:Bool->Y R)(k1:Y R):Y R:=aS (λ(v:LO×Int×Int×LB×LS×LO×LI×LI×LI) nx=>b13 G n v.1 v.2.1 v.2.2.1 v.2.2.2.1 v.2.2.2.2.1 v.2.2.2.2.2.1 v.2.2.2.2.2.2.1 v.2.2.2.2.2.2.2.1 v.2.2.2.2.2.2.2.2 (λA B C D E F H I J=>nx (A,B,C,D,E,F,H,I,J)) y k1) m (t53,d,t55,h0,h,j,h1,t,w)
def aq{R:Type}(G:Gs)(n:Nat)(s:Sg)(K:Bool->Y R):Y R:=
 (G.z1g s.ai).bind λr=>
 bif !r.2 then
  (K false)
 else
  bif decide (14<(List.length s.ops:Int))then
   (K false)
  else
   l6 G n n s.ops (List.length s.ops:Int) 0 s.ai.ah s.ai.ak s.ops r.1.bh r.1.below r.1.kind []
    (λv=>K v)
    (fun h0 h d h1 j t=>
     l13 G n n d (List.length d:Int) 0 h0 h d h1 j t
      (λt22=>K t22)
      (K true)
    )
def dl6(G:Gs)(n m:Nat):=rS [1,3,5,26,27,28] [.x (.p 0 0),.x (.p 1 0),.x (.m 2),.x (.l (.n 8)),.x .i,.x .i] [.b [.l .s,.l (.n 5),.l (.n 8)],.b [.l .i,.l .i,.l .i],.m .b] λR K v w y h0 d h h1 j t h2=>l6 G n m v w y h0 d h h1 j t h2 (λA=>K .ret ⟨[(2,.one (.b A))],[]⟩) (λh0 d h h1 j t=>K (.exit 0) ⟨[(1,.one (.p 0 0)),(3,.one (.p 1 0))],[.box [.l .s h0,.l (.n 5) d,.l (.n 8) h],.box [.l .i h1,.l .i j,.l .i t]]⟩)
def rL(G:Gs)(n m:Nat):=rS [1,3,53,54,55] [.x (.p 0 0),.x (.p 1 0),.x (.l (.n 8)),.x .i,.x .i] [.b [.l .s,.l (.n 5),.l (.n 8)],.b [.l .i,.l .i,.l .i]] λR K t53 d t55 h0 h j h1 t v=>l13 G n m t53 d t55 h0 h j h1 t v (λw=>K .ret ⟨[(2,.one (.b w))],[]⟩) (K (.exit 2) ⟨[],[]⟩)
def pc(G:Gs)(n:Nat):Pcs:=⟨λR id st K=>bif Nat.beq id 6 then dl6 G n n R st K else bif Nat.beq id 13 then rL G n n R st K else none,nK,nK⟩
def an:Ann:=⟨65,0,[(6,[1,3,5,26,27,28]),(13,[1,3,53,54,55])],[],[2],[],[]⟩
abbrev bd:=aF Tryz.f41
abbrev q6:=aJ [1,1,1,1,0,1,0,0] bd
abbrev q13:=aJ [1,1,1,1,1,0,1,0,0] bd
theorem pl6{G:Gs}(d:am (ax G))(n:Nat):∀m,al an (.loop q6) (dl6 G n m):=lpq d (pc G n) ⟨[1,3],[2],[(0,[1,3])]⟩
theorem AK{G:Gs}(d:am (ax G))(n:Nat):∀m,al an (.loop q13) (rL G n m):=lpq d (pc G n) ⟨[],[2],[(2,[])]⟩
theorem ok{G:Gs}(d:am (ax G)){g:Q}(h:∀s r,g s=some r->∃n,aq (R:=AT×RV Ob) G n s (λt=>some (.one (.b t),[]))=some (.one (.b r),[])):aj (ent g):=okQ λ_ _ _ _ _ _ hc=>okL hc λr j=>let⟨n,j⟩:=h _ _ j;fF d an (pc G n) Tryz.func41 j (apl [(1,6,.loop q6),(1,13,.loop q13)] ⟨pl6 d n n,⟨AK d n n,trivial⟩⟩)
end z0g
end
end
def cW(c:Int):Bool:=(decide (97<=c)&&decide (c<=122))||((decide (65<=c)&&decide (c<=90))||(decide (48<=c)&&decide (c<=57)))
def rh(c:Int):Bool:=(decide (97<=c)&&decide (c<=122))||(decide (65<=c)&&decide (c<=90))
def FX(s:Z):Bool:=sEq s (ByteArray.mk #[105,102])||sEq s (ByteArray.mk #[97,110,100])
def dc(s:Z):Bool:=decide (1<=s.size)&&(decide (s.size<=12)&&(!FX s&&(((ofS s).head?.any rh)&&(ofS s).all cW)))
theorem qe:aj (z43.ent λx lo hi=>some (decide (lo<=x)&&decide (x<=hi))):=z43.ok (G:=⟨()⟩) trivial λx lo hi r h=>⟨1,by
 cases h;unfold z43.aq;by_cases h:lo<=x<;>simp[h]⟩
theorem Hx:aj (z47.ent λa b=>some (ja b a)):=z47.ok (G:=⟨()⟩) trivial λa b r h=>⟨1,by
 cases h;unfold z47.aq ja;by_cases h:a<b<;>simp[h]⟩
theorem FW:aj (z42.ent λl s=>if l.length<=1048576 then some (l.any λx=>sEq x s)else none):=z42.ok (G:=⟨()⟩) trivial λ(l:RV Z) s r h=>by
 split at h
 .rename_i hl;cases h;refine⟨l.length+1,?_⟩;refine OI (lj (body:=λv nx=>z42.b2 ⟨()⟩ (l.length+1) v.1 v.2.1 v.2.2 (λy A B=>nx (y,A,B)) (λt=>some (AT.one (.b t),([]:RV Ob))) (some (AT.one (.b false),[]))) (Q:=λv=>v.1=l/\v.2.1=s/\0<=v.2.2/\v.2.2<=l.length) (μ:=λv=>(l.length-v.2.2).toNat) (f:=λv=>some (AT.one (.b ((l.drop v.2.2.toNat).any λx=>sEq x s)),[])) ?_ (l.length+1) (l,s,0) ⟨rfl,rfl,C3,C3⟩ C3) C3;rintro⟨a,b,i⟩ nx ⟨d,j,q0,q1⟩ w;simp only at d j q0 q1 w ⊢;subst d j;unfold z42.b2;by_cases hi:i<(List.length a:Int)
  .obtain⟨x,C,E,D,F⟩:=aQ q0 hi;rw[dT hi,cT,C,bS,D,List.any_cons];cases hs:sEq x b with
   |true=>rfl
   | false=>
    rw[cF,aH (x:=i+1) A1,PE];exact w (a,b,i+1) ⟨rfl,rfl,D4,D4⟩ D4
  .exact RL
 .cases h
theorem pJ:aj (z1d.ent λc=>some (cW c)):=z1d.ok (G:=⟨()⟩) trivial λc r h=>⟨1,by
 cases h;unfold z1d.aq cW;generalize decide (97<=c)=b1;generalize decide (c<=122)=b2;generalize decide (65<=c)=b3;generalize decide (c<=90)=b4;generalize decide (48<=c)=b5;generalize decide (c<=57)=b6;cases b1<;>cases b2<;>cases b3<;>cases b4<;>cases b5<;>cases b6<;>rfl⟩
theorem z58{R:Type}(G:z3i.Gs)(n:Nat)(s:Z)(hs:s.size<=12)(d:Bool->Y R)(k1:Y R):z3i.l4 G n 1000 s 0 d k1=bif (ofS s).all cW then k1 else d false:=by
 refine OI (lj (body:=λv nx=>z3i.b4 G n v.1 v.2 (λt w=>nx (t,w)) d k1) (Q:=λv=>v.1=s/\0<=v.2/\v.2<=s.size) (μ:=λv=>(s.size-v.2).toNat) (f:=λv=>bif ((ofS s).drop v.2.toNat).all cW then k1 else d false) ?_ 1000 (s,0) ⟨rfl,C3,C3⟩ D4) C3;rintro⟨a,i⟩ nx ⟨h,q0,q1⟩ j;simp only at h q0 q1 j ⊢;subst h;unfold z3i.b4;by_cases hi:i<(ByteArray.size a:Int)
 .obtain⟨c,y,B,A,_⟩:=aQ (a:=ofS a) q0 QJ;rw[dT hi,cT];simp only[rM,y,bS];rw[A,O6,aH (x:=i+1) A1];have e:=j (a,i+1) ⟨rfl,D4,D4⟩ D4;rw[e];unfold cW;generalize decide (97<=c)=b1;generalize decide (c<=122)=b2;generalize decide (65<=c)=b3;generalize decide (c<=90)=b4;generalize decide (48<=c)=b5;generalize decide (c<=57)=b6;cases b1<;>cases b2<;>cases b3<;>cases b4<;>cases b5<;>cases b6<;>rfl
 .rw[dF hi,cF,bY QJ];rfl
theorem z3j:aj (z3i.ent λs=>some (dc s)):=z3i.ok (G:=⟨()⟩) trivial λs r h=>⟨1000,by
 cases h;unfold z3i.aq dc FX;cases h1:sEq s (ByteArray.mk #[105,102])with
 |true=>simp
 | false=>
  cases h2:sEq s (ByteArray.mk #[97,110,100])with
  |true=>simp
  | false=>
   by_cases d:(ByteArray.size s:Int)<1
   .grind
   .by_cases h4:12<(ByteArray.size s:Int)
    .grind
    .rw[dF d,dF h4,dT (A1:s.size<=12),dT (A1:1<=s.size)];have hl:=bm s;simp only[rM,cF,Bool.or_self,NR,N6,z3i.c3,z58 ⟨()⟩ 1000 s A1];cases j:ofS s with
     |nil=>rw[j]at hl;simp at hl;omega
     | cons c l=>
      have e:ix (c::l) 0=some c:=rfl;simp only[e,bS,List.head?_cons,Option.any_some];unfold rh;generalize (c::l).all cW=b0;generalize decide (97<=c)=b1;generalize decide (c<=122)=b2;generalize decide (65<=c)=b3;generalize decide (c<=90)=b4;cases b0<;>cases b1<;>cases b2<;>cases b3<;>cases b4<;>rfl⟩
theorem z1e{R:Type}(n:Nat)(s:Z)(hs:s.size<=12)(d:Bool->Y R)(k1:Y R):∀m (i:Int),0<i->i<=s.size->(s.size-i).toNat<m->
  z0e.l4 ⟨λc=>some (cW c)⟩ n m s i d k1=bif ((ofS s).drop i.toNat).all cW then k1 else d false:=by
 intro m
 induction m with
 |zero=>exact RM
 | succ m h=>
  intro i q0 q1 hm;show z0e.b4 ⟨λc=>some (cW c)⟩ n s i (λj t=>z0e.l4 ⟨λc=>some (cW c)⟩ n m j t d k1) d k1=_;unfold z0e.b4;by_cases hi:i<(ByteArray.size s:Int)
  .obtain⟨c,v,y,w,_⟩:=aQ (a:=ofS s) (i:=i) A1 QJ;rw[dT hi,cT];simp only[rM,v,bS];rw[w,O6,aH (x:=i+1) A1,dF (A1:¬i=0),h (i+1) A1 A1 A1];cases cW c<;>rfl
  .rw[dF hi,cF,bY QJ];rfl
theorem z0f:aj (z0e.ent λs=>some (dc s)):=z0e.ok (G:=⟨λc=>some (cW c)⟩) ⟨pJ,trivial⟩ λs r h=>⟨1000,by
 cases h;unfold z0e.aq dc FX;by_cases d:(ByteArray.size s:Int)<1
 .rw[dT d,dF (A1:¬1<=s.size)];rfl
 .by_cases h4:12<(ByteArray.size s:Int)
  .rw[dF d,dT h4,dF (A1:¬s.size<=12),dT (A1:1<=s.size)];rfl
  .rw [decide_eq_false d,decide_eq_false h4,decide_eq_true (A1:s.size<=12),decide_eq_true (A1:1<=s.size)];cases h1:sEq s (ByteArray.mk #[105,102])with
   |true=>simp
   | false=>
    cases h2:sEq s (ByteArray.mk #[97,110,100])with
    |true=>simp
    | false=>
     have hl:=bm s;simp only[cF,Bool.or_self,NR,N6];show z0e.b4 ⟨λc=>some (cW c)⟩ 1000 s 0 (λv w=>z0e.l4 ⟨λc=>some (cW c)⟩ 1000 999 v w (λj=>some (AT.one (C.b j),([]:RV Ob))) (some (AT.one (C.b true),[]))) (λj=>some (AT.one (C.b j),[])) (some (AT.one (C.b true),[]))=_;unfold z0e.b4;rw[dT (A1:0<(ByteArray.size s:Int)),cT];have key:=z1e 1000 s A1 (λy=>some (AT.one (.b y),([]:RV Ob))) (some (AT.one (.b true),[])) 999 1 A1 A1 A1;have hr:=Du s;cases t:ofS s with
     |nil=>rw[t]at hl;simp at hl;omega
     | cons c l=>
      have e:ix (c::l) 0=some c:=rfl;rw[t]at key;have A:wr 1=1:=aH A1;simp only[rM,t,e,bS,List.head?_cons,Option.any_some,decide_true,cT,Int.zero_add,A,key,Int.toNat_one,List.drop_one,List.tail_cons,O6];generalize l.all cW=b0;unfold cW rh;by_cases g1:c<=57
      .rw[dT g1,dF (A1:¬97<=c),dF (A1:¬65<=c)];cases decide (48<=c)<;>cases b0<;>rfl
      .rw[dF g1];generalize decide (97<=c)=b1;generalize decide (c<=122)=b2;generalize decide (65<=c)=b3;generalize decide (c<=90)=b4;generalize decide (48<=c)=b5;cases b0<;>cases b1<;>cases b2<;>cases b3<;>cases b4<;>cases b5<;>rfl⟩
abbrev orI(a b:Int):Int:=Abs.bi .or .i64 a b
abbrev sY(i:Int):Int:=Abs.bi .shl .i64 1 i
def aU(l:RV Int)(i:Int):Int:=(ix l i).getD 0
def itn{A:Type}(f:A->A):Nat->A->A
 |0,x=>x
 |n+1,x=>itn f n (f x)
def sJ(l:RV Int)(p:Sb):RV Int:=l.set p.low.toNat (orI (aU l p.low) (aU l p.bK))
def iJ(ak:RV Sb)(l:RV Int):RV Int:=ak.foldl sJ l
def dx(n:Nat):RV Int:=(List.range n).map λ(k:Nat)=>sY (k:Int)
def upI(n:Nat)(ak:RV Sb):RV Int:=itn (iJ ak) n (dx n)
def rP(l:RV Int)(p:Sb):RV Int:=(l.set p.low.toNat (ja (aU l p.low) (aU l p.bK))).set p.bK.toNat (ja (aU l p.low) (aU l p.bK))
def gS(ak:RV Sb)(l:RV Int):RV Int:=ak.foldl rP l
def fG(n:Nat):RV Int:=(List.range n).map λ(k:Nat)=>(k:Int)
def br(n:Nat)(ak:RV Sb):RV Int:=itn (gS ak) n (fG n)
def rq(n:Nat)(p:Sb):Bool:=decide (0<=p.low)&&decide (p.low<n)&&decide (0<=p.bK)&&decide (p.bK<n)
def dE(n:Nat)(ak:RV Sb):Bool:=ak.all (rq n)
def i8(s:So):Bool:=decide (s.ah.length<=8)&&decide (s.ak.length<=16)&&dE s.ah.length s.ak
theorem bf{l:RV Int}{i:Int}(h0:0<=i)(h1:i<l.length):ix l i=some (aU l i):=by
 obtain⟨x,hx⟩:=zH h0 h1;unfold aU;rw[hx];rfl
theorem jl{n:Nat}{p:Sb}(h:rq n p=true):0<=p.low/\p.low<n/\0<=p.bK/\p.bK<n:=by
 unfold rq at h;simp only[bA,NO]at h;exact⟨h.1.1.1,h.1.1.2,h.1.2,h.2⟩
theorem gZ(l:RV Int)(p:Sb):(sJ l p).length=l.length:=by simp[sJ]
theorem jr(l:RV Int)(p:Sb):(rP l p).length=l.length:=by simp[rP]
theorem eU{A:Type}{f:RV Int->A->RV Int}(d:∀l p,(f l p).length=l.length):∀(xs:RV A)(l:RV Int),(xs.foldl f l).length=l.length
 |[],_=>rfl
 |x::xs,l=>by rw[OA,eU d xs,d]
theorem vW{f:RV Int->RV Int}(d:∀l,(f l).length=l.length):∀n l,(itn f n l).length=l.length
 |0,_=>rfl
 |n+1,l=>by simp only[itn];rw[vW d n,d]
theorem fN(n:Nat)(ak:RV Sb):(upI n ak).length=n:=by
 unfold upI;rw[vW (f:=iJ ak) (λl=>eU gZ ak l)];simp[dx]
theorem lh(n:Nat)(ak:RV Sb):(br n ak).length=n:=by
 unfold br;rw[vW (f:=gS ak) (λl=>eU jr ak l)];simp[fG]

-- the program
section
variable {R : Type}
theorem J4(G:z1k.Gs)(n N:Nat)(F:N<=8)(h0:RV Z)(d:RV Sb)(j:RV Z->RV Sb->RV Int->Y R):∀m (i:Int) (l:RV Int),0<=i->i<=N->l.length=N->l.take i.toNat=(dx N).take i.toNat->(N-i).toNat<m->
  z1k.l3 G n m (N:Int) i h0 d l j=j h0 d (dx N):=by
 intro m
 induction m with
 |zero=>intro i l _ _ _ _ hm;omega
 | succ m v=>
  intro i l q0 q1 w t hm;show z1k.b3 G n N i h0 d l (λy A B C D=>z1k.l3 G n m y A B C D j) j=_;unfold z1k.b3;have E:(dx N).length=N:=by simp[dx]
  by_cases hi:i<(N:Int)
  .rw[dT hi,cT,dT q0,cT,bS,bf q0 A1,bS,aH (x:=i+1) A1];have hx:(dx N)[i.toNat]? =some (sY i):=by
    have hlt:i.toNat<N:=A1
    have e:((i.toNat:Nat):Int)=i:=A1
    simp[dx,hlt,e]
   obtain⟨s1,s2⟩:=yd (a:=dx N) (h:=l) q0 A1 A1 t hx;exact v (i+1) _ A1 A1 QX s2 A1
  .rw[dF hi,cF,tS (a:=dx N) (h:=l) (i:=i) A1 A1 t]
theorem JN(G:z1k.Gs)(n N:Nat)(a b:Int)(ak:RV Sb)(hs:ak.length<=16)(h:dE N ak=true)(h0:RV Z)(d:RV Sb)(j:Int->Int->RV Z->RV Sb->RV Int->Y R):∀m (i:Int) (l:RV Int),0<=i->i<=ak.length->l.length=N->(ak.length-i).toNat<m->
  z1k.l10 G n m a b ak (ak.length:Int) i h0 d l j=j a b h0 d (iJ (ak.drop i.toNat) l):=by
 intro m
 induction m with
 |zero=>exact RJ
 | succ m t=>
  intro i l q0 q1 v hm;show z1k.b10 G n a b ak (ak.length:Int) i h0 d l (λw y A B C D E F=>z1k.l10 G n m w y A B C D E F j) j=_;unfold z1k.b10;by_cases hi:i<(ak.length:Int)
  .obtain⟨p,H,I,J,_⟩:=aQ q0 hi;obtain⟨K,M,L,O⟩:=jl (aT.1 h p I);rw[dT hi,cT,H,bS,bf K A1,bS,bf L A1,bS,bS,aH (x:=i+1) A1];refine OI (t (i+1) _ A1 A1 (by simp[v]) A1) ?_;rw[J];rfl
  .exact RL
theorem CP(G:z1k.Gs)(N:Nat)(C:N<=8)(ak:RV Sb)(hs:ak.length<=16)(h:dE N ak=true)(h0:RV Z)(d:RV Int->Y R):∀m (i:Int) (l:RV Int),0<=i->i<=N->l.length=N->(N-i).toNat<m->
  z1k.l8 G 1000 m (N:Int) i h0 ak l d=d (itn (iJ ak) (N-i).toNat l):=by
 intro m
 induction m with
 |zero=>exact RJ
 | succ m t=>
  intro i l q0 q1 j hm;show z1k.b8 G 1000 N i h0 ak l (λv w y A B=>z1k.l8 G 1000 m v w y A B d) d=_;unfold z1k.b8;by_cases hi:i<(N:Int)
  .rw[dT hi,cT,JN G 1000 N _ _ ak hs h _ _ _ 1000 0 l A1 A1 j A1,aH (x:=i+1) A1];refine OI (t (i+1) _ A1 A1 (by rw[Oa,NN];exact(eU gZ ak l).trans j) A1) ?_;exact Rt
  .exact RB
end
theorem iv{s:So}(h:i8 s=true):s.ah.length<=8/\s.ak.length<=16/\dE s.ah.length s.ak=true:=by
 unfold i8 at h;simp only[bA,NO]at h;exact⟨h.1.1,h.1.2,h.2⟩
theorem lE:aj (z1k.ent λs=>if i8 s then some (upI s.ah.length s.ak)else none):=z1k.ok (G:=⟨()⟩) trivial λs r h=>by
 split at h
 .rename_i hp;cases h;obtain⟨h1,h2,d⟩:=iv hp;refine⟨1000,?_⟩;unfold z1k.aq;rw[Ho A1,bS];have e:((List.replicate s.ah.length (0:Int)).length:Int)=(s.ah.length:Int):=C3
  rw[e,J4 ⟨()⟩ 1000 s.ah.length h1 _ _ _ 1000 0 _ A1 A1 C3 C3 A1];have j:((dx s.ah.length).length:Int)=(s.ah.length:Int):=by simp[dx]
  rw[j,CP ⟨()⟩ s.ah.length h1 s.ak h2 d _ _ 1000 0 _ A1 A1 (by simp[dx]) A1];rfl
 .cases h

-- the reference
theorem Hp:aj (z48.ent λk=>if 0<=k/\k<1000 then some (sY k)else none):=z48.ok (G:=⟨()⟩) trivial λk r h=>by
 split at h
 .rename_i hk;cases h;refine⟨1,?_⟩;unfold z48.aq;rw[wP hk.1 hk.2,dT hk.1];rfl
 .cases h
abbrev uc:Int->Y Int:=λk=>if 0<=k/\k<1000 then some (sY k)else none
section
variable {R : Type}
theorem E9(n:Nat)(h0:RV Z)(C:h0.length<=8)(d:RV Sb)(h:RV Z->RV Sb->RV Int->Y R):∀m (i:Int) (l:RV Int),0<=i->i<=h0.length->l=dx i.toNat->(h0.length-i).toNat<m->
  z4b.l3 ⟨uc⟩ n m i h0 d l h=h h0 d (dx h0.length):=by
 intro m
 induction m with
 |zero=>exact RJ
 | succ m t=>
  intro i l q0 q1 j hm;show z4b.b3 ⟨uc⟩ n i h0 d l (λv w y A=>z4b.l3 ⟨uc⟩ n m v w y A h) h=_;unfold z4b.b3;have hl:l.length=i.toNat:=by rw[j];simp[dx]
  by_cases hi:i<(h0.length:Int)
  .have hb:uc i=some (sY i):=N1 ⟨q0,A1⟩;rw[dT hi,cT];dsimp only;rw[hb,bS,sd D5,bS,aH (x:=i+1) A1];refine t (i+1) _ A1 A1 ?_ A1;have e:(i+1).toNat=i.toNat+1:=A1
   have B:((i.toNat:Nat):Int)=i:=A1
   rw[e,j];simp[dx,List.range_succ,B]
  .grind
theorem GY(G:z4b.Gs)(n N:Nat)(a:Int)(ak:RV Sb)(hs:ak.length<=16)(h:dE N ak=true)(h0:RV Z)(d:Int->RV Z->RV Sb->RV Int->Y R):∀m (i:Int) (l:RV Int),0<=i->i<=ak.length->l.length=N->(ak.length-i).toNat<m->
  z4b.l10 G n m a i h0 ak l d=d a h0 ak (iJ (ak.drop i.toNat) l):=by
 intro m
 induction m with
 |zero=>exact RJ
 | succ m j=>
  intro i l q0 q1 t hm;show z4b.b10 G n a i h0 ak l (λv w y A B=>z4b.l10 G n m v w y A B d) d=_;unfold z4b.b10;by_cases hi:i<(ak.length:Int)
  .obtain⟨p,C,D,E,_⟩:=aQ q0 hi;obtain⟨F,I,H,J⟩:=jl (aT.1 h p D);rw[dT hi,cT];simp only[C,bS,bf (l:=l) F A1,bf (l:=l) H A1,aH (x:=i+1) A1];refine OI (j (i+1) _ A1 A1 QM A1) ?_;rw[E];rfl
  .exact RL
theorem zQ(G:z4b.Gs)(N:Nat)(h0:RV Z)(t:h0.length=N)(v:N<=8)(ak:RV Sb)(hs:ak.length<=16)(h:dE N ak=true)(d:RV Int->Y R):∀m (i:Int) (l:RV Int),0<=i->i<=N->l.length=N->(N-i).toNat<m->
  z4b.l7 G 1000 m i h0 ak l d=d (itn (iJ ak) (N-i).toNat l):=by
 intro m
 induction m with
 |zero=>exact RJ
 | succ m w=>
  intro i l q0 q1 j hm;show z4b.b7 G 1000 i h0 ak l (λy A B C=>z4b.l7 G 1000 m y A B C d) d=_;unfold z4b.b7;rw[t];by_cases hi:i<(N:Int)
  .rw[dT hi,cT,GY G 1000 N _ ak hs h _ _ 1000 0 l A1 A1 j A1,aH (x:=i+1) A1];refine OI (w (i+1) _ A1 A1 (by rw[Oa,NN];exact(eU gZ ak l).trans j) A1) ?_;exact Rt
  .exact RB
theorem zt(G:z4a.Gs)(n:Nat)(h0:RV Z)(C:h0.length<=8)(d:RV Sb)(h:RV Z->RV Sb->RV Int->Y R):∀m (i:Int) (l:RV Int),0<=i->i<=h0.length->l=fG i.toNat->(h0.length-i).toNat<m->
  z4a.l3 G n m i h0 d l h=h h0 d (fG h0.length):=by
 intro m
 induction m with
 |zero=>exact RJ
 | succ m t=>
  intro i l q0 q1 j hm;show z4a.b3 G n i h0 d l (λv w y A=>z4a.l3 G n m v w y A h) h=_;unfold z4a.b3;have hl:l.length=i.toNat:=by rw[j];simp[fG]
  by_cases hi:i<(h0.length:Int)
  .rw[dT hi,cT,sd D5,bS,aH (x:=i+1) A1];refine t (i+1) _ A1 A1 ?_ A1;have e:(i+1).toNat=i.toNat+1:=A1
   have B:((i.toNat:Nat):Int)=i:=A1
   rw[e,j];simp[fG,List.range_succ,B]
  .grind
theorem zp(n N:Nat)(a:Int)(ak:RV Sb)(hs:ak.length<=16)(h:dE N ak=true)(h0:RV Z)(j:Int->RV Z->RV Sb->RV Int->Y R):∀m (i:Int) (l:RV Int),0<=i->i<=ak.length->l.length=N->(ak.length-i).toNat<m->
  z4a.l10 ⟨λa b=>some (ja b a)⟩ n m a i h0 ak l j=j a h0 ak (gS (ak.drop i.toNat) l):=by
 intro m
 induction m with
 |zero=>exact RJ
 | succ m v=>
  intro i l q0 q1 w hm;show z4a.b10 ⟨λa b=>some (ja b a)⟩ n a i h0 ak l (λA B C D E=>z4a.l10 ⟨λa b=>some (ja b a)⟩ n m A B C D E j) j=_;unfold z4a.b10;by_cases hi:i<(ak.length:Int)
  .obtain⟨p,F,G,H,_⟩:=aQ q0 hi;obtain⟨I,L,t,M⟩:=jl (aT.1 h p G);rw[dT hi,cT];have d:∀z,∃y,ix (l.set p.low.toNat z) p.bK=some y:=λz=>zH t D5;have J:ja (aU l p.bK) (aU l p.low)=ja (aU l p.low) (aU l p.bK):=by unfold ja;split<;>split<;>omega
   obtain⟨y,K⟩:=d (ja (aU l p.low) (aU l p.bK));simp only[F,bS,bf (l:=l) I A1,bf (l:=l) t A1,aH (x:=i+1) A1,J,K];refine OI (v (i+1) _ A1 A1 QX A1) ?_;rw[H];rfl
  .exact RL
theorem vQ(N:Nat)(h0:RV Z)(t:N<=8)(ak:RV Sb)(hs:ak.length<=16)(h:dE N ak=true)(d:RV Int->Y R):∀m (i:Int) (l:RV Int),0<=i->i<=N->l.length=N->(N-i).toNat<m->
  z4a.l7 ⟨λa b=>some (ja b a)⟩ 1000 m i h0 ak l d=d (itn (gS ak) (N-i).toNat l):=by
 intro m
 induction m with
 |zero=>exact RJ
 | succ m v=>
  intro i l q0 q1 j hm;show z4a.b7 ⟨λa b=>some (ja b a)⟩ 1000 i h0 ak l (λw y A B=>z4a.l7 ⟨λa b=>some (ja b a)⟩ 1000 m w y A B d) d=_;unfold z4a.b7;rw[j];by_cases hi:i<(N:Int)
  .rw[dT hi,cT,zp 1000 N _ ak hs h _ _ 1000 0 l A1 A1 j A1,aH (x:=i+1) A1];refine OI (v (i+1) _ A1 A1 (by rw[Oa,NN];exact(eU jr ak l).trans j) A1) ?_;exact Rt
  .exact RB
end
theorem Jc:aj (z4b.ent λs=>if i8 s then some (upI s.ah.length s.ak)else none):=z4b.ok (G:=⟨uc⟩) ⟨Hp,trivial⟩ λs r h=>by
 split at h
 .rename_i hp;cases h;obtain⟨h1,h2,d⟩:=iv hp;refine⟨1000,?_⟩;unfold z4b.aq;rw[E9 1000 s.ah h1 _ _ 1000 0 [] A1 A1 rfl A1,zQ ⟨uc⟩ s.ah.length s.ah rfl h1 s.ak h2 d _ 1000 0 _ A1 A1 (by simp[dx]) A1];rfl
 .cases h
theorem hY:aj (z4a.ent λs=>if i8 s then some (br s.ah.length s.ak)else none):=z4a.ok (G:=⟨λa b=>some (ja b a)⟩) ⟨Hx,trivial⟩ λs r h=>by
 split at h
 .rename_i hp;cases h;obtain⟨h1,h2,d⟩:=iv hp;refine⟨1000,?_⟩;unfold z4a.aq;rw[zt _ 1000 s.ah h1 _ _ 1000 0 [] A1 A1 rfl A1,vQ s.ah.length s.ah h1 s.ak h2 d _ 1000 0 _ A1 A1 (by simp[fG]) A1];rfl
 .cases h
section
open Classical
def iT:RV Z->RV Z->Bool
 |_,[]=>true
 |seen,x::xs=>dc x&&(!(seen.any λy=>sEq y x)&&iT (seen++[x]) xs)
def uV(n:Nat)(p:Sb):Bool:=rq n p&& !decide (p.low=p.bK)
def lA(x k:Int):Bool:=decide (Abs.bi .and .i64 (Abs.bi .shr .i64 x k) 1=1)
def bad(l:RV Int)(i k:Int):Prop:=lA (aU l i) k=true/\lA (aU l k) i=true
noncomputable def uk(l:RV Int):Bool:=decide (¬∃i k:Int,0<=k/\k<i/\i<l.length/\bad l i k)
noncomputable def dM(s:So):Bool:=decide (1<=s.ah.length)&&(decide (s.ah.length<=8)&&(decide (s.ak.length<=16)&&(iT [] s.ah&&(s.ak.all (uV s.ah.length)&&uk (upI s.ah.length s.ak)))))
def fe(N:Nat)(x:Int):Prop:=∃a:Nat,x=a/\a<2^N
abbrev rG(x:Int):Prop:=∃a:Nat,x=a/\a<256
theorem vc{N:Nat}(d:N<=8):2^N<=256:=by
 have:=Nat.pow_le_pow_right (n:=2) A1 d;exact RR
theorem fe.small{N:Nat}(d:N<=8){x:Int}(h:fe N x):rG x:=by
 obtain⟨a,e,h⟩:=h;have:=vc d;exact⟨a,e,A1⟩
theorem DL{N:Nat}(d:N<=8){a b:Int}(h:fe N a)(hb:fe N b):fe N (orI a b):=by
 have:=vc d;obtain⟨x,rfl,hx⟩:=h;obtain⟨y,rfl,j⟩:=hb;exact⟨x|||y,JI A1 A1,Nat.or_lt_two_pow hx j⟩
theorem ez{l:RV Int}{i:Int}(h0:0<=i)(h1:i<l.length):aU l i∈l:=by
 have:=bf h0 h1;unfold ix at this;rw[dT h0,cT]at this;exact mG this
theorem uZ{l:RV Int}{p:Sb}{N:Nat}(d:N<=8)(hl:l.length=N)(hp:rq N p=true)(h:∀x∈l,fe N x):∀x∈sJ l p,fe N x:=by
 obtain⟨j,v,t,w⟩:=jl hp;intro x hx;rcases OV hx with hx|rfl
 .exact h x hx
 .exact DL d (h _ (ez j A1)) (h _ (ez t A1))
theorem lI{N:Nat}(d:N<=8):∀(ak:RV Sb)(l:RV Int),l.length=N->dE N ak=true->(∀x∈l,fe N x)->∀x∈iJ ak l,fe N x
 |[],_,_,_,h=>h
 | p::j,l,hl,hs,h=>by
  simp only[dE,O6,bA]at hs;exact lI d j (sJ l p) (by rw[gZ,hl]) hs.2 (uZ d hl hs.1 h)
theorem ur{N:Nat}(d:N<=8){ak:RV Sb}(hs:dE N ak=true):∀(n:Nat)(l:RV Int),l.length=N->(∀x∈l,fe N x)->∀x∈itn (iJ ak) n l,fe N x
 |0,_,_,h=>h
 |n+1,l,hl,h=>ur d hs n _ ((eU gZ ak l).trans hl) (lI d ak l hl hs h)
theorem sC{N:Nat}{ak:RV Sb}(d:N<=8)(hs:dE N ak=true):∀x∈upI N ak,fe N x:=by
 refine ur d hs N _ (by simp[dx]) λx hx=> ?_;obtain⟨k,hk,rfl⟩:=List.mem_map.1 hx;have hk:k<N:=QU
 exact⟨2^k,sH A1,Nat.pow_lt_pow_right A1 hk⟩
theorem CX{N:Nat}{ak:RV Sb}(d:N<=8)(hs:dE N ak=true):∀x∈upI N ak,rG x:=λx hx=>(sC d hs x hx).small d
theorem vZ{A:Type}{p q:Prop}{a b:A}(h:p↔q):(if p then a else b)=(if q then a else b):=Hd
theorem B8{x k:Int}(hx:rG x)(h0:0<=k)(h1:k<63):(!decide (Abs.bi .and .i64 x (sY k)=0))=lA x k:=by
 obtain⟨a,rfl,d⟩:=hx;obtain⟨j,rfl⟩:∃j:Nat,k=j:=⟨k.toNat,A1⟩;unfold lA sY;rw[sH A1,Bj A1 A1,uN A1 A1,Bool.not_not]
abbrev KY:Int->Int->Y Bool:=λset k=>some (decide (0<=k)&&(decide (k<16)&&lA set k))
theorem G6:aj (z49.ent KY):=z49.ok (G:=⟨()⟩) trivial λset k r h=>⟨1,by
 cases h;unfold z49.aq lA;by_cases h0:0<=k
 .by_cases h1:k<16
  .rw[dT h0,dT h1,wP h0 A1,dT h0];rfl
  .rw[dT h0,dF h1];rfl
 .rw[dF h0];rfl⟩
abbrev CG:So->Y (RV Int):=λs=>if i8 s then some (upI s.ah.length s.ak)else none
abbrev jb:Z->Y Bool:=λs=>some (dc s)
abbrev gIn:Int->Int->Int->Y Bool:=λx lo hi=>some (decide (lo<=x)&&decide (x<=hi))
abbrev K1:RV Z->Z->Y Bool:=λl s=>if l.length<=1048576 then some (l.any λx=>sEq x s)else none
abbrev fu:z3m.Gs:={z3i:=jb,z42:=K1,z43:=gIn,z4b:=CG,z49:=KY}
section
variable {R : Type}
theorem GA(n:Nat)(h0:RV Z)(E:h0.length<=8)(d:RV Sb)(t:Bool->Y R)(k1:RV Z->RV Sb->Y R):∀m (i:Int),0<=i->i<=h0.length->(h0.length-i).toNat<m->
  z3m.l4 fu n m i h0 d t k1=bif iT (h0.take i.toNat) (h0.drop i.toNat)then k1 h0 d else t false:=by
 intro m
 induction m with
 |zero=>exact RM
 | succ m v=>
  intro i q0 q1 hm;show z3m.b4 fu n i h0 d (λw A B=>z3m.l4 fu n m w A B t k1) t k1=_;unfold z3m.b4;by_cases hi:i<(h0.length:Int)
  .obtain⟨x,C,F,D,G⟩:=aQ q0 hi;have e:(i+1).toNat=i.toNat+1:=A1
   have ht:h0.take (i+1).toNat=h0.take i.toNat++[x]:=Hd
   have h:sub h0 0 i=some (h0.take i.toNat):=by rw[zq A1 q0 A1];rfl
   have j:K1 (h0.take i.toNat) x=some ((h0.take i.toNat).any λy=>sEq y x):=N1 (by rw[O0];omega);rw[dT hi,cT];simp only[C,bS,h,j,aH (x:=i+1) A1];rw[D,iT,v (i+1) A1 A1 A1,ht];cases dc x<;>cases ((h0.take i.toNat).any λy=>sEq y x)<;>rfl
  .exact RL
theorem Iy(n:Nat)(h0:RV Z)(C:h0.length<=8)(ak:RV Sb)(hs:ak.length<=16)(d:Bool->Y R)(k1:RV Z->RV Sb->Y R):∀m (i:Int),0<=i->i<=ak.length->(ak.length-i).toNat<m->
  z3m.l9 fu n m i h0 ak d k1=bif (ak.drop i.toNat).all (uV h0.length)then k1 h0 ak else d false:=by
 intro m
 induction m with
 |zero=>exact RM
 | succ m h=>
  intro i q0 q1 hm;show z3m.b9 fu n i h0 ak (λj t v=>z3m.l9 fu n m j t v d k1) d k1=_;unfold z3m.b9;by_cases hi:i<(ak.length:Int)
  .obtain⟨p,w,D,y,E⟩:=aQ q0 hi;rw[dT hi,cT];simp only[w,bS,aH (x:=i+1) A1,aH (x:=(h0.length:Int)-1) A1];rw[y,O6,h (i+1) A1 A1 A1];have A:(decide (0<=p.low)&&decide (p.low<=(h0.length:Int)-1))=(decide (0<=p.low)&&decide (p.low<h0.length)):=by congr 1;exact decide_eq_decide.2 A1
   have B:(decide (0<=p.bK)&&decide (p.bK<=(h0.length:Int)-1))=(decide (0<=p.bK)&&decide (p.bK<h0.length)):=by congr 1;exact decide_eq_decide.2 A1
   rw[A,B];unfold uV rq;cases decide (0<=p.low)<;>cases decide (p.low<(h0.length:Int))<;>cases decide (0<=p.bK)<;>cases decide (p.bK<(h0.length:Int))<;>cases decide (p.low=p.bK)<;>rfl
  .exact RL
theorem NJ(n:Nat)(l:RV Int)(hl:l.length<=8)(i:Int)(t:0<=i)(v:i<l.length)(d:Bool->Y R)(k1:RV Int->Int->Y R):∀m (k:Int),0<=k->k<=i->(i-k).toNat<m->
  z3m.l18 fu n m l i k d k1=if ∃j,k<=j/\j<i/\bad l i j then d false else k1 l i:=by
 intro m
 induction m with
 |zero=>exact RN
 | succ m w=>
  intro k q0 q1 hm;show z3m.b18 fu n l i k (λy A B=>z3m.l18 fu n m y A B d k1) d k1=_;unfold z3m.b18;by_cases hi:k<i
  .rw [decide_eq_true hi,cond_true];simp only[bf t v,bf (l:=l) q0 A1,bS,dT q0,dT (A1:k<16),dT t,dT (A1:i<16),N6,aH (x:=k+1) A1];rw[w (k+1) A1 A1 A1];have hex:(∃j,k<=j/\j<i/\bad l i j)↔bad l i k\/∃j,k+1<=j/\j<i/\bad l i j:=Hd
   by_cases hb:bad l i k
   .rw[N1 (hex.2 (.inl hb)),hb.1,hb.2];rfl
   .have:(∃j,k<=j/\j<i/\bad l i j)↔∃j,k+1<=j/\j<i/\bad l i j:=hex.trans ⟨λh=>h.resolve_left hb,.inr⟩;rw[vZ this];unfold bad at hb;cases h1:lA (aU l i) k with
    |false=>rfl
    | true=>
     cases h2:lA (aU l k) i with
     |false=>rfl
     |true=>exact absurd ⟨h1,h2⟩ hb
  .grind
theorem Lv(l:RV Int)(hl:l.length<=8)(d:Bool->Y R)(k1:Y R):∀m (i:Int),0<=i->i<=l.length->(l.length-i).toNat<m->
  z3m.l15 fu 1000 m l i d k1=if ∃j k,i<=j/\j<l.length/\0<=k/\k<j/\bad l j k then d false else k1:=by
 intro m
 induction m with
 |zero=>exact RN
 | succ m h=>
  intro i q0 q1 hm;show z3m.b15 fu 1000 l i (λt v=>z3m.l15 fu 1000 m t v d k1) d k1=_;unfold z3m.b15;by_cases hi:i<(l.length:Int)
  .rw[dT hi,cT,NJ 1000 l hl i q0 hi _ _ 1000 0 A1 A1 A1,aH (x:=i+1) A1];dsimp only;rw[h (i+1) A1 A1 A1];have hex:(∃j k,i<=j/\j<(l.length:Int)/\0<=k/\k<j/\bad l j k)↔(∃k,0<=k/\k<i/\bad l i k)\/∃j k,i+1<=j/\j<(l.length:Int)/\0<=k/\k<j/\bad l j k:=Hd
   by_cases hb:∃k,0<=k/\k<i/\bad l i k
   .grind
   .grind
  .grind
end
theorem mH{n:Nat}{ak:RV Sb}(h:ak.all (uV n)=true):dE n ak=true:=by
 unfold dE;rw[aT]at h ⊢;intro p hp;have:=h p hp;unfold uV at this;rw[bA]at this;exact this.1
theorem yU{l:RV Int}{R:Type}{a b:R}:(if ∃j k,0<=j/\j<(l.length:Int)/\0<=k/\k<j/\bad l j k then a else b)=bif uk l then b else a:=by
 unfold uk
 have:(∃j k,0<=j/\j<(l.length:Int)/\0<=k/\k<j/\bad l j k)↔∃i k:Int,0<=k/\k<i/\i<l.length/\bad l i k:=
  ⟨λ⟨j,k,h1,h2,d,h4,t⟩=>⟨j,k,d,h4,h2,t⟩,λ⟨j,k,d,h4,h2,t⟩=>⟨j,k,A1,h2,d,h4,t⟩⟩
 by_cases h:∃i k:Int,0<=k/\k<i/\i<l.length/\bad l i k
 .grind
 .grind
theorem z3n:aj (z3m.ent λs=>some (dM s)):=z3m.ok (G:=fu) ⟨z3j,FW,qe,Jc,G6,trivial⟩ λs r h=>⟨1000,by
 cases h;unfold z3m.aq dM;by_cases h1:(s.ah.length:Int)<1
 .grind
 by_cases h2:8<(s.ah.length:Int)
 .grind
 by_cases d:16<(s.ak.length:Int)
 .grind
 rw[dF h1,dF h2,dF d,dT (A1:s.ak.length<=16),dT (A1:s.ah.length<=8),dT (A1:1<=s.ah.length)];simp only[cF,N6];rw[GA 1000 s.ah A1 s.ak _ _ 1000 0 A1 A1 A1,Iy 1000 s.ah A1 s.ak A1 _ _ 1000 0 A1 A1 A1];simp only[Oa,OE,NN];cases iT [] s.ah with
 |false=>rfl
 | true=>
  cases h4:s.ak.all (uV s.ah.length)with
  |false=>rfl
  | true=>
   have hp:i8 s=true:=by
    exact Rd
   have e:CG (So.mk s.ah s.ak)=some (upI s.ah.length s.ak):=N1 hp;simp only[cT,e,bS,N6];rw[Lv _ QW _ _ 1000 0 A1 A1 QW,yU];cases uk (upI s.ah.length s.ak)<;>rfl⟩
abbrev dS:z0i.Gs:={z0e:=jb,z1k:=CG}
def sg(kvs:RV (Z×Bool))(seen:RV Z):Prop:=∀y,rm kvs y false=seen.any λz=>sEq z y
theorem yh:sg [] []:=λy=>rfl
theorem yr{kvs:RV (Z×Bool)}{seen:RV Z}(h:sg kvs seen)(x:Z):sg ((x,true)::kvs) (seen++[x]):=λy=>by
 unfold rm Ax;rw[List.any_append];by_cases e:x=y
 .rw[N1 e];simp[sEq,e]
 .rw[N3 e];have:=h y;unfold rm at this;rw[this];simp[sEq,e]
section
variable {R : Type}
theorem F9(n:Nat)(j:Int)(ah:RV Z)(I:ah.length<=8)(h0:RV Z)(d:RV Sb)(h:Bool->Y R)(k1:Int->RV Z->RV Sb->Y R):∀m (i:Int) (kvs:RV (Z×Bool)),0<=i->i<=ah.length->sg kvs (ah.take i.toNat)->(ah.length-i).toNat<m->
  z0i.l6 dS n m j ah (ah.length:Int) i h0 d kvs h k1=bif iT (ah.take i.toNat) (ah.drop i.toNat)then k1 j h0 d else h false:=by
 intro m
 induction m with
 |zero=>intro i _ _ _ _ hm;omega
 | succ m v=>
  intro i kvs q0 q1 t hm;show z0i.b6 dS n j ah (ah.length:Int) i h0 d kvs (λw A B C D E F=>z0i.l6 dS n m w A B C D E F h k1) h k1=_;unfold z0i.b6;by_cases hi:i<(ah.length:Int)
  .obtain⟨x,G,J,H,K⟩:=aQ q0 hi;have e:(i+1).toNat=i.toNat+1:=A1
   have ht:ah.take (i+1).toNat=ah.take i.toNat++[x]:=Hd
   rw[dT hi,cT];simp only[G,bS,aH (x:=i+1) A1];rw[H,iT,v (i+1) _ A1 A1 (by rw[ht];exact yr t x) A1,ht,t x];cases dc x<;>cases ((ah.take i.toNat).any λy=>sEq y x)<;>rfl
  .exact RL
theorem Ju(n:Nat)(N:Nat)(ak:RV Sb)(hs:ak.length<=16)(h0:RV Z)(d:RV Sb)(h:Bool->Y R)(k1:RV Z->RV Sb->Y R):∀m (i:Int),0<=i->i<=ak.length->(ak.length-i).toNat<m->
  z0i.l13 dS n m (N:Int) ak (ak.length:Int) i h0 d h k1=bif (ak.drop i.toNat).all (uV N)then k1 h0 d else h false:=by
 intro m
 induction m with
 |zero=>exact RM
 | succ m j=>
  intro i q0 q1 hm;show z0i.b13 dS n (N:Int) ak (ak.length:Int) i h0 d (λt v w y A B=>z0i.l13 dS n m t v w y A B h k1) h k1=_;unfold z0i.b13;by_cases hi:i<(ak.length:Int)
  .obtain⟨p,C,I,D,J⟩:=aQ q0 hi;rw[dT hi,cT];simp only[C,bS,aH (x:=i+1) A1];rw[D,O6,j (i+1) A1 A1 A1];have E:decide (p.low<0)= !decide (0<=p.low):=HD
   have F:decide ((N:Int)<=p.low)= !decide (p.low<N):=HD
   have G:decide (p.bK<0)= !decide (0<=p.bK):=HD
   have H:decide ((N:Int)<=p.bK)= !decide (p.bK<N):=HD
   rw[E,F,G,H];unfold uV rq;cases decide (0<=p.low)<;>cases decide (p.low<(N:Int))<;>cases decide (0<=p.bK)<;>cases decide (p.bK<(N:Int))<;>cases decide (p.low=p.bK)<;>rfl
  .exact RL
theorem NH(n:Nat)(l:RV Int)(hl:l.length<=8)(d:∀x∈l,rG x)(i:Int)(v:0<=i)(y:i<l.length)(a b:Int)(w:Bool->Y R)(k1:RV Int->Int->Int->Y R):∀m (k:Int),0<=k->k<=l.length->(l.length-k).toNat<m->
  z0i.l23 dS n m l i a b (l.length:Int) k w k1=if ∃j,k<=j/\j<(l.length:Int)/\i≠j/\bad l i j then w false else k1 l a b:=by
 intro m
 induction m with
 |zero=>exact RN
 | succ m A=>
  intro k q0 q1 hm;show z0i.b23 dS n l i a b (l.length:Int) k (λB C D E F G=>z0i.l23 dS n m B C D E F G w k1) w k1=_;unfold z0i.b23;by_cases hi:k<(l.length:Int)
  .have H:(0:Int)<=k+1:=A1
   have I:k+1<=(l.length:Int):=A1
   have a3:((l.length:Int)-(k+1)).toNat<m:=A1
   have hex:(∃j,k<=j/\j<(l.length:Int)/\i≠j/\bad l i j)↔(i≠k/\bad l i k)\/∃j,k+1<=j/\j<(l.length:Int)/\i≠j/\bad l i j:=Hd
   rw[dT hi,cT];simp only[bf v y,bf (l:=l) q0 A1,bS,dT q0,dT v,cT,B8 (d _ (ez v y)) q0 A1,B8 (d _ (ez q0 hi)) v A1,aH (x:=k+1) A1];rw[A (k+1) H I a3];by_cases hb:i≠k/\bad l i k
   .rw[N1 (hex.2 (.inl hb)),hb.2.1,hb.2.2,dF hb.1];rfl
   .have:(∃j,k<=j/\j<(l.length:Int)/\i≠j/\bad l i j)↔∃j,k+1<=j/\j<(l.length:Int)/\i≠j/\bad l i j:=hex.trans ⟨λh=>h.resolve_left hb,.inr⟩;rw[vZ this];by_cases t:i=k
    .grind
    .rw[dF t];unfold bad at hb;cases h1:lA (aU l i) k with
     |false=>rfl
     | true=>
      cases h2:lA (aU l k) i with
      |false=>rfl
      |true=>exact absurd ⟨t,h1,h2⟩ hb
  .grind
theorem MM(l:RV Int)(hl:l.length<=8)(h:∀x∈l,rG x)(d:Bool->Y R)(k1:Y R):∀m (i:Int),0<=i->i<=l.length->(l.length-i).toNat<m->
  z0i.l20 dS 1000 m l (l.length:Int) i d k1=if ∃j k,i<=j/\j<(l.length:Int)/\0<=k/\k<(l.length:Int)/\j≠k/\bad l j k then d false else k1:=by
 intro m
 induction m with
 |zero=>exact RN
 | succ m t=>
  intro i q0 q1 hm;show z0i.b20 dS 1000 l (l.length:Int) i (λv w y=>z0i.l20 dS 1000 m v w y d k1) d k1=_;unfold z0i.b20;by_cases hi:i<(l.length:Int)
  .rw[dT hi,cT,NH 1000 l hl h i q0 hi _ _ _ _ 1000 0 A1 A1 A1,aH (x:=i+1) A1];dsimp only;rw[t (i+1) A1 A1 A1];have hex:(∃j k,i<=j/\j<(l.length:Int)/\0<=k/\k<(l.length:Int)/\j≠k/\bad l j k)↔(∃k,0<=k/\k<(l.length:Int)/\i≠k/\bad l i k)\/∃j k,i+1<=j/\j<(l.length:Int)/\0<=k/\k<(l.length:Int)/\j≠k/\bad l j k:=Hd
   by_cases hb:∃k,0<=k/\k<(l.length:Int)/\i≠k/\bad l i k
   .grind
   .grind
  .grind
end
theorem Ee{l:RV Int}{R:Type}{a b:R}:(if ∃j k,0<=j/\j<(l.length:Int)/\0<=k/\k<(l.length:Int)/\j≠k/\bad l j k then a else b)=bif uk l then b else a:=by
 rw[<-yU];refine vZ ⟨λ⟨j,k,h1,h2,d,h4,t,v⟩=> ?_,λ⟨j,k,h1,h2,d,h4,t⟩=>⟨j,k,h1,h2,d,A1,A1,t⟩⟩;rcases Int.lt_or_gt_of_ne t with h|h
 .exact⟨k,j,d,h4,h1,h,v.2,v.1⟩
 .grind
theorem z0j:aj (z0i.ent λs=>some (dM s)):=z0i.ok (G:=dS) ⟨z0f,lE,trivial⟩ λs r h=>⟨1000,by
 cases h;unfold z0i.aq dM;by_cases h1:(s.ah.length:Int)<1
 .grind
 by_cases h2:8<(s.ah.length:Int)
 .grind
 by_cases d:16<(s.ak.length:Int)
 .grind
 rw[dF h1,dF h2,dF d,dT (A1:s.ak.length<=16),dT (A1:s.ah.length<=8),dT (A1:1<=s.ah.length)];simp only[cF,N6];rw[F9 1000 _ s.ah A1 s.ah s.ak _ _ 1000 0 [] A1 A1 yh A1,Ju 1000 s.ah.length s.ak A1 s.ah s.ak _ _ 1000 0 A1 A1 A1];simp only[Oa,OE,NN];cases iT [] s.ah with
 |false=>rfl
 | true=>
  cases h4:s.ak.all (uV s.ah.length)with
  |false=>rfl
  | true=>
   have hp:i8 s=true:=by
    exact Rd
   have e:CG (So.mk s.ah s.ak)=some (upI s.ah.length s.ak):=N1 hp;simp only[cT,e,bS,N6];rw[MM _ QW (CX A1 (mH h4)) _ _ 1000 0 A1 A1 QW,Ee];cases uk (upI s.ah.length s.ak)<;>rfl⟩
def fx(x:Int):Bool:=decide (0<=x)&&decide (x<=65535)
def kq(x:Int):RV Int:=if fx x then (fG 16).filter λk=>lA x k else []
theorem EL:aj (z1c.ent λx=>some (fx x)):=z1c.ok (G:=⟨()⟩) trivial λx r h=>⟨1,by
 cases h;unfold z1c.aq fx;by_cases h:0<=x<;>simp[h]⟩
theorem tX{n:Nat}{i:Int}(h0:0<=i)(h1:i<n):(fG n).drop i.toNat=i::(fG n).drop (i+1).toNat:=by
 obtain⟨x,j,_,h,d⟩:=aQ (a:=fG n) h0 (by simp[fG];exact h1);have hlt:i.toNat<n:=A1
 have e:((i.toNat:Nat):Int)=i:=A1
 have:x=i:=by simp[fG,hlt,e]at d;exact d.symm
 rw[h,this]
theorem CT{x k:Int}(hx:fx x=true)(h0:0<=k)(h1:k<63):(!decide (Abs.bi .and .i64 x (sY k)=0))=lA x k:=by
 unfold fx at hx;simp only[bA,NO]at hx;obtain⟨a,rfl⟩:∃a:Nat,x=a:=⟨x.toNat,A1⟩;obtain⟨j,rfl⟩:∃j:Nat,k=j:=⟨k.toNat,A1⟩;unfold lA sY;rw[sH A1,Bj A1 A1,uN A1 A1,Bool.not_not]
theorem yx{R:Type}(n:Nat)(x:Int)(d:RV Int->Y R)(hx:fx x=true):∀m (i:Int) (l:RV Int),0<=i->i<=16->l.length<=i->(16-i).toNat<m->
  z0k.l3 ⟨λx=>some (fx x)⟩ n m x i l d=d (l++((fG 16).drop i.toNat).filter λk=>lA x k):=by
 intro m
 induction m with
 |zero=>exact RJ
 | succ m h=>
  intro i l q0 q1 w hm;show z0k.b3 ⟨λx=>some (fx x)⟩ n x i l (λj t v=>z0k.l3 ⟨λx=>some (fx x)⟩ n m j t v d) d=_;unfold z0k.b3;by_cases hi:i<16
  .rw[dT hi,cT];simp only[bS,hx,cT,dT q0,CT hx q0 A1,aH (x:=i+1) A1];rw[tX q0 hi,Og];cases lA x i with
   | true=>
    rw[cT,sd D5,bS,h (i+1) _ A1 A1 D5 A1];simp
   | false=>
    rw[cF,h (i+1) _ A1 A1 A1 A1];simp
  .rw[dF hi,cF,Oj (by simp[fG];omega)];simp
abbrev K6:Int->Y (RV Int):=λx=>some (kq x)
theorem Ea:aj (z0k.ent K6):=z0k.ok (G:=⟨λx=>some (fx x)⟩) ⟨EL,trivial⟩ λx r h=>⟨1000,by
 cases h;unfold z0k.aq kq;cases hx:fx x with
 |true=>rw[yx 1000 x _ hx 1000 0 [] A1 A1 C3 A1];rfl
 | false=>
  show z0k.b3 ⟨λx=>some (fx x)⟩ 1000 x 0 [] (λd j t=>z0k.l3 ⟨λx=>some (fx x)⟩ 1000 999 d j t (λh0=>some (AT.one (.l .i h0),([]:RV Ob)))) (λh0=>some (AT.one (.l .i h0),[]))=_;unfold z0k.b3;simp[hx]⟩
theorem CB{N:Nat}(t:N<=8){x:Int}(hx:fe N x):∀k∈kq x,0<=k/\k<N:=by
 have v:=vc t;obtain⟨a,rfl,w⟩:=hx;intro k hk;unfold kq at hk;split at hk
 .rw[List.mem_filter]at hk;obtain⟨j,d,rfl⟩:=List.mem_map.1 hk.1;have d:j<16:=Q1
  have hb:=hk.2;unfold lA at hb;rw[uN A1 A1]at hb;have:=Nat.ge_two_pow_of_testBit hb;refine⟨A1,?_⟩;rcases ON j N with h|h
  .omega
  .have:=Nat.pow_le_pow_right (n:=2) A1 h;omega
 .cases hk
def BS(i:Int)(b:RV Int)(k:Int):RV Int:=b.set k.toNat (orI (aU b k) (sY i))
def z7(up:RV Int)(b:RV Int)(i:Int):RV Int:=(kq (aU up i)).foldl (BS i) b
def ml(up:RV Int):RV Int:=(fG up.length).foldl (z7 up) (List.replicate up.length 0)
theorem CQ(i:Int)(b:RV Int)(k:Int):(BS i b k).length=b.length:=by simp[BS]
theorem Aw(up:RV Int)(b:RV Int)(i:Int):(z7 up b i).length=b.length:=eU (CQ i) _ b
noncomputable def jO(s:So):Od×Bool:=if dM s then (⟨upI s.ah.length s.ak,ml (upI s.ah.length s.ak),br s.ah.length s.ak⟩,true)else (⟨[],[],[]⟩,false)
abbrev fM(q:So->Y Bool):z1g.Gs:={z0i:=q,z1k:=CG,z0k:=K6}
section
variable {R : Type} {q : So → Y Bool}
theorem Jb(n N:Nat)(A i:Int)(K:0<=i)(d:RV Int)(h t:Int)(bits:RV Int)(hb:∀k∈bits,0<=k/\k<N)(L:bits.length<=16)(h0:RV Z)(v:RV Sb)(h2 B h4 C D:RV Int)(w:Int->Int->RV Int->Int->Int->RV Z->RV Sb->RV Int->RV Int->RV Int->RV Int->RV Int->RV Int->Y R):∀m (j:Int) (b:RV Int),0<=j->j<=bits.length->b.length=N->(bits.length-j).toNat<m->
  z1g.l9 (fM q) n m A i d h t bits (bits.length:Int) j h0 v h2 B h4 C b D w=w A i d h t h0 v h2 B h4 C ((bits.drop j.toNat).foldl (BS i) b) D:=by
 intro m
 induction m with
 |zero=>intro j b _ _ _ hm;omega
 | succ m M=>
  intro j b q0 q1 O hm;show z1g.b9 (fM q) n A i d h t bits (bits.length:Int) j h0 v h2 B h4 C b D (λP Q S T U V W X y8 y9 E F G H I J=>z1g.l9 (fM q) n m P Q S T U V W X y8 y9 E F G H I J w) w=_;unfold z1g.b9;by_cases y:j<(bits.length:Int)
  .obtain⟨k,x1,x2,x3,_⟩:=aQ q0 y;obtain⟨k1,k2⟩:=hb k x2;rw[dT y,cT];simp only[x1,bS,bf (l:=b) k1 A1,dT K,cT,aH (x:=j+1) A1];refine OI (M (j+1) _ A1 A1 (by simp[O]) A1) ?_;rw[x3];rfl
  .rw[dF y,cF,bY y];rfl
theorem I4(N:Nat)(D:N<=8)(j:Int)(up:RV Int)(T:up.length=N)(hs:∀x∈up,fe N x)(h0:RV Z)(d:RV Sb)(h2 v h4:RV Int)(t:Int->RV Z->RV Sb->RV Int->RV Int->RV Int->RV Int->RV Int->RV Int->Y R):∀m (i:Int) (b kd:RV Int),0<=i->i<=N->b.length=N->kd.length=N->kd.take i.toNat=(fG N).take i.toNat->(N-i).toNat<m->
  z1g.l6 (fM q) 1000 m j up (N:Int) i h0 d h2 v h4 up b kd t=t j h0 d h2 v h4 up (((fG N).drop i.toNat).foldl (z7 up) b) (fG N):=by
 intro m
 induction m with
 |zero=>intro i b kd _ _ _ _ _ hm;omega
 | succ m E=>
  intro i b kd q0 q1 B F C hm;show z1g.b6 (fM q) 1000 j up (N:Int) i h0 d h2 v h4 up b kd (λG H I J K L M O P Q w y=>z1g.l6 (fM q) 1000 m G H I J K L M O P Q w y t) t=_;unfold z1g.b6;have S:(fG N).length=N:=by simp[fG]
  by_cases hi:i<(N:Int)
  .rw [decide_eq_true hi,cond_true,bf (l:=up) q0 A1,Option.bind_some,Option.bind_some];have A:(kq (aU up i)).length<=16:=by
    unfold kq;split
    .refine NS (List.length_filter_le _ _) ?_;simp[fG]
    .simp
   rw[Jb (q:=q) 1000 N j i q0 up (N:Int) i (kq (aU up i)) (CB D (hs _ (ez q0 A1))) A _ _ _ _ _ _ _ _ 1000 0 b A1 A1 B A1];dsimp only;rw[bf (l:=kd) q0 A1,bS,aH (x:=i+1) A1];have hx:(fG N)[i.toNat]? =some i:=by
    have hlt:i.toNat<N:=A1
    have e:((i.toNat:Nat):Int)=i:=A1
    simp[fG,hlt,e]
   obtain⟨s1,s2⟩:=yd (a:=fG N) (h:=kd) q0 A1 A1 C hx;rw[E (i+1) _ _ A1 A1 (by rw[Oa,NN];exact(Aw up b i).trans B) (by simp[F]) s2 A1];rw[tX q0 hi,OA];rfl
  .rw[dF hi,cF,Oj A1,tS (a:=fG N) (h:=kd) (i:=i) A1 A1 C];rfl
theorem JR(n N:Nat)(a b:Int)(ak:RV Sb)(hs:ak.length<=16)(h:dE N ak=true)(h0:RV Z)(d:RV Sb)(h2 t h4 v w:RV Int)(j:Int->Int->RV Z->RV Sb->RV Int->RV Int->RV Int->RV Int->RV Int->RV Int->Y R):∀m (i:Int) (l:RV Int),0<=i->i<=ak.length->l.length=N->(ak.length-i).toNat<m->
  z1g.l18 (fM q) n m a b ak (ak.length:Int) i h0 d h2 t h4 v w l j=j a b h0 d h2 t h4 v w (gS (ak.drop i.toNat) l):=by
 intro m
 induction m with
 |zero=>exact RJ
 | succ m E=>
  intro i l q0 q1 F hm;show z1g.b18 (fM q) n a b ak (ak.length:Int) i h0 d h2 t h4 v w l (λG H I J K L M O P Q A B C=>z1g.l18 (fM q) n m G H I J K L M O P Q A B C j) j=_;unfold z1g.b18;by_cases hi:i<(ak.length:Int)
  .obtain⟨p,S,T,U,_⟩:=aQ q0 hi;obtain⟨V,X,D,p3⟩:=jl (aT.1 h p T);rw[dT hi,cT];obtain⟨y,W⟩:=zH (a:=l.set p.low.toNat (ja (aU l p.low) (aU l p.bK))) D D5;simp only[S,bS,bf (l:=l) V A1,bf (l:=l) D A1,aH (x:=i+1) A1,W];refine OI (E (i+1) _ A1 A1 (by simp[F]) A1) ?_;rw[U];rfl
  .exact RL
theorem D0(N:Nat)(y:N<=8)(ak:RV Sb)(hs:ak.length<=16)(h:dE N ak=true)(h0:RV Z)(h2 j h4 t v:RV Int)(d:RV Int->RV Int->RV Int->RV Int->RV Int->RV Int->Y R):∀m (i:Int) (l:RV Int),0<=i->i<=N->l.length=N->(N-i).toNat<m->
  z1g.l16 (fM q) 1000 m (N:Int) i h0 ak h2 j h4 t v l d=d h2 j h4 t v (itn (gS ak) (N-i).toNat l):=by
 intro m
 induction m with
 |zero=>exact RJ
 | succ m A=>
  intro i l q0 q1 w hm;show z1g.b16 (fM q) 1000 (N:Int) i h0 ak h2 j h4 t v l (λB C D E F G H I J K=>z1g.l16 (fM q) 1000 m B C D E F G H I J K d) d=_;unfold z1g.b16;by_cases hi:i<(N:Int)
  .rw[dT hi,cT,JR (q:=q) 1000 N _ _ ak hs h _ _ _ _ _ _ _ _ 1000 0 l A1 A1 w A1,aH (x:=i+1) A1];refine OI (A (i+1) _ A1 A1 (by rw[Oa,NN];exact(eU jr ak l).trans w) A1) ?_;exact Rt
  .exact RB
end
theorem gz{s:So}(h:dM s=true):1<=s.ah.length/\s.ah.length<=8/\s.ak.length<=16/\dE s.ah.length s.ak=true/\i8 s=true:=by
 unfold dM at h;simp only[bA,NO]at h;obtain⟨h1,h2,d,_,h4,_⟩:=h;refine⟨h1,h2,d,mH h4,?_⟩;unfold i8;rw[dT h2,dT d,mH h4];rfl
theorem pC:aj (z1g.ent λs=>some (jO s)):=z1g.ok (G:=fM λs=>some (dM s)) ⟨z0j,lE,Ea,trivial⟩ λs r h=>⟨1000,by
 cases h;unfold z1g.aq jO;cases hs:dM s with
 |false=>simp only[bS,hs];rfl
 | true=>
  obtain⟨h1,h2,d,h4,j⟩:=gz hs;have e:CG (So.mk s.ah s.ak)=some (upI s.ah.length s.ak):=N1 j;simp only[bS,hs,N5,cF,z1g.d4,Ho (A1:s.ah.length<=4294967296),e];rw[fN,I4 s.ah.length h2 _ _ (fN _ _) (sC h2 h4) _ _ _ _ _ _ 1000 0 _ _ A1 A1 C3 C3 C3 A1];rw[D0 s.ah.length h2 s.ak d h4 _ _ _ _ _ _ _ 1000 0 _ A1 A1 (by simp[fG]) A1];unfold ml;rw[fN];rfl⟩
def inN(N:Nat)(x:Int):Bool:=decide (0<=x)&&decide (x<N)
theorem cg{N:Nat}{x:Int}:inN N x=true↔0<=x/\x<N:=by unfold inN;simp
def jY(N:Nat)(d:RV Int):RV Int->RV Int->Bool
 |[],_=>true
 |a::l,b::m=>inN N a&&(decide (aU d a=aU d b)&&jY N d l m)
 |_::_,[]=>false
def fZ(N:Nat)(h:RV Int)(first d:Dc):Bool:=decide (d.ac.length=first.ac.length)&&(inN N d.result&&(jY N h d.ac first.ac&&decide (aU h d.result=aU h first.result)))
def first(o:Opr):Dc:=o.aC.headD ⟨[],0⟩
def dL(N:Nat)(d:RV Int)(o:Opr):Bool:=decide (1<=o.aC.length)&&(decide (o.aC.length<=4)&&(decide ((first o).ac.length<=3)&&o.aC.all (fZ N d (first o))))
def axF(d:RV Int)(ops:RV Opr)(o:Opr):Bool:=
 bif !o.aA&&(!o.comm&&decide (o.aE=0))then true
 else decide ((first o).ac.length=2)&&(decide (0<=o.aE)&&(decide (o.aE<=ops.length)&&(decide (aU d (aU (first o).ac 0)=aU d (aU (first o).ac 1))&&
  ((bif o.aA||decide (0<o.aE)then decide (aU d (aU (first o).ac 0)=aU d (first o).result)else true)&&
  (bif decide (o.aE=0)then true else match ix ops (o.aE-1)with
   |some u=>decide ((first u).ac.length=0)&&decide (aU d (first u).result=aU d (first o).result)
   |none=>false)))))
def pO(N:Nat)(d:RV Int):RV Z->RV Opr->Bool
 |_,[]=>true
 |seen,o::rest=>dc o.ae&&(dL N d o&&(!(seen.any λy=>sEq y o.ae)&&pO N d (seen++[o.ae]) rest))
noncomputable def bI(s:Sg):Bool:=dM s.ai&&(decide (s.ops.length<=14)&&(pO s.ai.ah.length (br s.ai.ah.length s.ai.ak) [] s.ops&&s.ops.all (axF (br s.ai.ah.length s.ai.ak) s.ops)))
theorem cH{o:Opr}(h:1<=o.aC.length):ix o.aC 0=some (first o):=by
 unfold first
 cases hd:o.aC with
 |nil=>rw[hd]at h;simp at h
 |cons d l=>rfl
theorem nD{N:Nat}{d:RV Int}:∀{l m:RV Int},jY N d l m=true->∀x∈l,inN N x=true
 |[],_,_,x,hx=>Q4
 | a::l,b::m,h,x,hx=>by
  simp only[jY,bA]at h;rcases List.mem_cons.1 hx with rfl|hx
  .exact h.1
  .exact nD h.2.2 x hx
 |_::_,[],h,_,_=>by simp[jY]at h
theorem fb{N:Nat}{j:RV Int}{o:Opr}(h:dL N j o=true):1<=o.aC.length/\o.aC.length<=4/\(first o).ac.length<=3/\(∀d∈o.aC,fZ N j (first o) d=true)/\inN N (first o).result=true/\∀x∈(first o).ac,inN N x=true:=by
 unfold dL at h;simp only[bA,NO]at h;obtain⟨h1,h2,v,h4⟩:=h;rw[aT]at h4;have hm:first o∈o.aC:=by
  unfold first
  cases hd:o.aC with
  |nil=>rw[hd]at h1;simp at h1
  |cons d l=>simp
 have t:=h4 _ hm;unfold fZ at t;simp only[bA]at t;exact⟨h1,h2,v,h4,t.2.1,nD t.2.2.1⟩
theorem mm:aj (z4c.ent λo=>if 1<=o.aC.length then some ((first o).ac.length:Int)else none):=z4c.ok (G:=⟨()⟩) trivial λo r h=>by
 split at h
 .rename_i h1;cases h;exact⟨1,by unfold z4c.aq;rw[cH h1];rfl⟩
 .cases h
abbrev fK:So->Y (RV Int):=λs=>if i8 s then some (br s.ah.length s.ak)else none
abbrev gAr:Opr->Y Int:=λo=>if 1<=o.aC.length then some ((first o).ac.length:Int)else none
abbrev mh:z4e.Gs:={z4a:=fK,z43:=gIn}
section
variable {R : Type}
theorem Fg{N:Nat}{x:Int}(d:N<=8):(decide (0<=x)&&decide (x<=wr ((N:Int)-1)))=inN N x:=by
 unfold inN;rw[aH (x:=(N:Int)-1) A1]
 congr 1
 exact decide_eq_decide.2 A1
theorem J6(n N:Nat)(G:N<=8)(d:RV Int)(hk:d.length=N)(i:Int)(nm:Z)(w:RV Dc)(t y:Bool)(un:Int)(fa:RV Int)(fr:Int)(j:RV Int)(A:Int)(hl:j.length=fa.length)(W:fa.length<=3)(B:j=fa\/∀x∈fa,inN N x=true)(v:Bool->Y R)
  (k1:RV Int->Int->Z->RV Dc->Bool->Bool->Int->RV Int->Int->RV Int->Int->Y R):∀m (k:Int),0<=k->k<=j.length->(j.length-k).toNat<m->
  z4e.l12 mh n m d i k nm w t y un fa fr j A v k1=bif jY N d (j.drop k.toNat) (fa.drop k.toNat)then k1 d i nm w t y un fa fr j A else v false:=by
 intro m
 induction m with
 |zero=>exact RN
 | succ m H=>
  intro k q0 q1 hm;show z4e.b12 mh n d i k nm w t y un fa fr j A (λI J K L M O P Q S T C D=>z4e.l12 mh n m I J K L M O P Q S T C D v k1) v k1=_;unfold z4e.b12;by_cases hi:k<(j.length:Int)
  .obtain⟨a,U,X,a3,a4⟩:=aQ (a:=j) q0 hi;obtain⟨b,b1,b2,b3,b4⟩:=aQ (a:=fa) q0 A1;rw[dT hi,cT,hk];simp only[U,b1,bS,Fg G,aH (x:=k+1) A1];rw[a3,b3,jY];cases V:inN N a with
   |false=>rfl
   | true=>
    have hb:inN N b=true:=by
     rcases B with e|h
     .grind
     .exact h b b2
    have E:=cg.1 V;have F:=cg.1 hb;rw[bf E.1 A1,bf F.1 A1,bS,bS,H (k+1) A1 A1 A1];cases decide (aU d a=aU d b)<;>rfl
  .exact RL
theorem Iw(N:Nat)(F:N<=8)(j:RV Int)(hk:j.length=N)(o:Opr)(h4:o.aC.length<=4)(H:(first o).ac.length<=3)(h1:1<=o.aC.length)(A:Bool->Y R)(k1:Y R):∀m (i:Int),0<=i->i<=o.aC.length->(0<i->inN N (first o).result=true/\∀x∈(first o).ac,inN N x=true)->(o.aC.length-i).toNat<m->
  z4e.l6 mh 1000 m j i o.ae o.aC o.aA o.comm o.aE (first o).ac (first o).result A k1=bif (o.aC.drop i.toNat).all (fZ N j (first o))then k1 else A false:=by
 intro m
 induction m with
 |zero=>intro i _ _ _ hm;omega
 | succ m I=>
  intro i q0 q1 B hm;show z4e.b6 mh 1000 j i o.ae o.aC o.aA o.comm o.aE (first o).ac (first o).result (λJ K L M O P Q S T=>z4e.l6 mh 1000 m J K L M O P Q S T A k1) A k1=_;unfold z4e.b6;by_cases hi:i<(o.aC.length:Int)
  .obtain⟨d,C,d2,U,d4⟩:=aQ q0 hi;have t:i=0->d=first o:=λe=>by
    subst e;rw[cH h1]at C;cases C;rfl
   rw[dT hi,cT,C,bS,U,O6];by_cases hl:d.ac.length=(first o).ac.length
   .have v:(d.ac.length:Int)=((first o).ac.length:Int):=A1
    rw[dT v,N5,cF];unfold fZ;rw[dT hl,N6];simp only[hk,bS,Fg F];cases hr:inN N d.result with
    |false=>rfl
    | true=>
     have D:=cg.1 hr;rw[N5,cF];rw[J6 1000 N F j hk i _ _ _ _ _ _ _ d.ac d.result hl H (by
      rcases Int.lt_or_eq_of_le q0 with h|h
      .exact .inr (B h).2
      .left;rw[t h.symm]) _ _ 1000 0 A1 A1 A1]
     simp only[Oa,NN];cases G:jY N j d.ac (first o).ac with
     |false=>rfl
     | true=>
      have w:inN N (first o).result=true:=by
       rcases Int.lt_or_eq_of_le q0 with h|h
       .exact(B h).1
       .rw[<-t h.symm];exact hr
      have y:=cg.1 w;have E:∀x∈(first o).ac,inN N x=true:=by
       rcases Int.lt_or_eq_of_le q0 with h|h
       .exact(B h).2
       .rw[<-t h.symm];rw[t h.symm]at G ⊢;exact nD G
      rw[cT,bf D.1 A1,bf y.1 A1,bS,bS,aH (x:=i+1) A1];rw[I (i+1) A1 A1 (λ_=>⟨w,E⟩) A1];cases decide (aU j d.result=aU j (first o).result)<;>rfl
   .have v:¬(d.ac.length:Int)=((first o).ac.length:Int):=A1
    unfold fZ;rw[dF v,dF hl];rfl
  .exact RL
end
theorem zV:aj (z4e.ent λs o=>if i8 s.ai then some (dL s.ai.ah.length (br s.ai.ah.length s.ai.ak) o)else none):=z4e.ok (G:=mh) ⟨hY,qe,trivial⟩ λs o r h=>by
 split at h
 .rename_i hp;cases h;obtain⟨d,t,v⟩:=iv hp;refine⟨1000,?_⟩;unfold z4e.aq dL;by_cases h1:(o.aC.length:Int)<1
  .grind
  by_cases h4:4<(o.aC.length:Int)
  .grind
  rw[dF h1,dF h4,dT (A1:1<=o.aC.length),dT (A1:o.aC.length<=4),cH A1];simp only[cF,bS,N6];by_cases j:3<((first o).ac.length:Int)
  .grind
  have e:fK s.ai=some (br s.ai.ah.length s.ai.ak):=N1 hp;rw[dF j,dT (A1:(first o).ac.length<=3),cF,e,bS,Iw s.ai.ah.length d _ (lh _ _) o A1 A1 A1 _ _ 1000 0 A1 A1 (λh=>absurd h A1) A1];simp only[Oa,NN,N6];cases o.aC.all (fZ s.ai.ah.length (br s.ai.ah.length s.ai.ak) (first o))<;>rfl
 .cases h
def jZ(N:Nat)(d:RV Int)(ops:RV Opr):Bool:=ops.all (dL N d)
abbrev GAx:z4d.Gs:={z4c:=gAr,z43:=gIn,z4a:=fK}
section
variable {R : Type}
theorem Im{o:Opr}(h:1<=o.aC.length):gAr o=some ((first o).ac.length:Int):=N1 h
theorem Ix(n N:Nat)(A:N<=8)(d:RV Int)(hk:d.length=N)(ah:RV Z)(ak:RV Sb)(ops:RV Opr)(v:ops.length<=14)(ho:jZ N d ops=true)(o:Opr)(B:inN N (first o).result=true)(h0:0<=o.aE)(h1:o.aE<=ops.length)(j:Bool->Y R):
  z4d.c11 GAx n d (aU d (first o).result) ah ak ops o.ae o.aC o.aA o.comm o.aE j=j (bif decide (o.aE=0)then true else match ix ops (o.aE-1)with
   |some u=>decide ((first u).ac.length=0)&&decide (aU d (first u).result=aU d (first o).result)
   |none=>false):=by
 unfold z4d.c11;by_cases w:o.aE=0
 .grind
 .rw[dF w,cF,cF,aH (x:=o.aE-1) A1];obtain⟨u,u1,u2,_,_⟩:=aQ (a:=ops) (i:=o.aE-1) A1 A1;obtain⟨t,d2,C,d4,d5,d6⟩:=fb (aT.1 ho u u2);have h:=cg.1 d5;rw[u1,bS];dsimp only;rw[Im t,bS];by_cases y:(first u).ac.length=0
  .rw[dT y,dT (A1:((first u).ac.length:Int)=0),cT,cH t,bS,bf h.1 A1,bS,N6]
  .simp_all
theorem Hg(n:Nat)(s:So)(hp:i8 s=true)(ops:RV Opr)(t:ops.length<=14)(ho:jZ s.ah.length (br s.ah.length s.ak) ops=true)(o:Opr)(hd:dL s.ah.length (br s.ah.length s.ak) o=true)(A:Bool->Y R):
  z4d.c4 GAx n s.ah s.ak ops o.ae o.aC o.aA o.comm o.aE A=A (decide ((first o).ac.length=2)&&(decide (0<=o.aE)&&(decide (o.aE<=ops.length)&&(decide (aU (br s.ah.length s.ak) (aU (first o).ac 0)=aU (br s.ah.length s.ak) (aU (first o).ac 1))&&
  ((bif o.aA||decide (0<o.aE)then decide (aU (br s.ah.length s.ak) (aU (first o).ac 0)=aU (br s.ah.length s.ak) (first o).result)else true)&&
  (bif decide (o.aE=0)then true else match ix ops (o.aE-1)with
   |some u=>decide ((first u).ac.length=0)&&decide (aU (br s.ah.length s.ak) (first u).result=aU (br s.ah.length s.ak) (first o).result)
   |none=>false)))))):=by
 obtain⟨C,G,H⟩:=iv hp;obtain⟨B,d2,I,d4,d5,d6⟩:=fb hd;have v:=lh s.ah.length s.ak;generalize w:br s.ah.length s.ak=d at*;have y:=cg.1 d5;unfold z4d.c4;have D:gAr (Opr.mk o.ae o.aC o.aA o.comm o.aE)=some ((first o).ac.length:Int):=N1 B;dsimp only;rw[D,bS];by_cases h2:(first o).ac.length=2
 .rw [decide_eq_true h2,decide_eq_true (A1:((first o).ac.length:Int)=2),N5,cond_false,N6,Option.bind_some];by_cases h:0<=o.aE
  .by_cases j:o.aE<=ops.length
   .rw[dT h,dT j];have e:fK (So.mk s.ah s.ak)=some d:=by rw[<-w];exact N1 hp
    simp only[Bool.and_self,N5,cF,N6,e,bS,cH B];have a0:ix (first o).ac 0=some (aU (first o).ac 0):=bf A1 A1;have E:ix (first o).ac 1=some (aU (first o).ac 1):=bf A1 A1;have F:=cg.1 (d6 _ (ez (l:=(first o).ac) (i:=0) A1 A1));have m1:=cg.1 (d6 _ (ez (l:=(first o).ac) (i:=1) A1 A1));rw[a0,bS,bf (l:=d) F.1 A1,bS,E,bS,bf (l:=d) m1.1 A1,bS,bf (l:=d) y.1 A1,bS];rw[Ix n s.ah.length C d v s.ah s.ak ops t ho o d5 h j];cases o.aA<;>cases decide (aU d (aU (first o).ac 0)=aU d (aU (first o).ac 1))<;>cases decide (aU d (aU (first o).ac 0)=aU d (first o).result)<;>cases decide (0<o.aE)<;>rfl
   .grind
  .grind
 .grind
end
abbrev gAx:Sg->Int->Y Bool:=λs i=>if i8 s.ai&&(decide (s.ops.length<=14)&&jZ s.ai.ah.length (br s.ai.ah.length s.ai.ak) s.ops)then (ix s.ops i).map (axF (br s.ai.ah.length s.ai.ak) s.ops)else none
theorem wV:aj (z4d.ent gAx):=z4d.ok (G:=GAx) ⟨mm,qe,hY,trivial⟩ λs i r h=>by
 unfold gAx at h;split at h
 .rename_i hp;simp only[bA,NO]at hp;obtain⟨hp,d,ho⟩:=hp;obtain⟨o,h1,rfl⟩:=Option.map_eq_some_iff.1 h;have hm:o∈s.ops:=by
   unfold ix at h1;cases hi:decide (0<=i)with
   |false=>rw[hi]at h1;cases h1
   |true=>rw[hi]at h1;exact mG h1
  refine⟨1000,?_⟩;unfold z4d.aq axF;rw[h1,bS,Hg 1000 s.ai hp s.ops d ho o (aT.1 ho o hm)];cases o.aA<;>cases o.comm<;>cases decide (o.aE=0)<;>rfl
 .cases h
abbrev EZ:Sg->Opr->Y Bool:=λs o=>if i8 s.ai then some (dL s.ai.ah.length (br s.ai.ah.length s.ai.ak) o)else none
abbrev tc(q:So->Y Bool):z3k.Gs:={z3m:=q,z3i:=jb,z4e:=EZ,z4d:=gAx}
section
variable {R : Type} {q : So → Y Bool}
def nm(ops:RV Opr):RV Z:=ops.map Opr.ae
theorem Eg(n:Nat)(i:Int)(ah:RV Z)(ak:RV Sb)(ops:RV Opr)(w:ops.length<=14)(o:Opr)(F:0<=i)(G:i<ops.length)(ho:ix ops i=some o)(h:Bool->Y R)(k1:Int->RV Z->RV Sb->RV Opr->Y R):∀m (k:Int),0<=k->k<=i->(i-k).toNat<m->
  z3k.l9 (tc q) n m i k ah ak ops h k1=bif ((nm (ops.take i.toNat)).drop k.toNat).any (λy=>sEq y o.ae)then h false else k1 i ah ak ops:=by
 intro m
 induction m with
 |zero=>exact RN
 | succ m A=>
  intro k q0 q1 hm;show z3k.b9 (tc q) n i k ah ak ops (λB t v j d=>z3k.l9 (tc q) n m B t v j d h k1) h k1=_;unfold z3k.b9;have bJ:(nm (ops.take i.toNat)).length=i.toNat:=by simp[nm];omega
  by_cases hi:k<i
  .obtain⟨p,C,H,I,D⟩:=aQ (a:=ops) q0 A1;obtain⟨y,t,v,j,d⟩:=aQ (a:=nm (ops.take i.toNat)) q0 A1;have E:y=p.ae:=by
    unfold nm at d;rw[Oq,PK,N1 A1,D]at d;exact(Pc d).symm
   rw[dT hi,cT,C,bS,ho,bS,j,List.any_cons,E,aH (x:=k+1) A1];cases sEq p.ae o.ae with
   |true=>rfl
   |false=>exact A (k+1) A1 A1 A1
  .grind
theorem EK(s:So)(hp:i8 s=true)(ops:RV Opr)(h:ops.length<=14)(d:Bool->Y R)(k1:RV Z->RV Sb->RV Opr->Y R):∀m (i:Int),0<=i->i<=ops.length->(ops.length-i).toNat<m->
  z3k.l4 (tc q) 1000 m i s.ah s.ak ops d k1=bif pO s.ah.length (br s.ah.length s.ak) (nm (ops.take i.toNat)) (ops.drop i.toNat)then k1 s.ah s.ak ops else d false:=by
 intro m
 induction m with
 |zero=>exact RM
 | succ m t=>
  intro i q0 q1 hm;show z3k.b4 (tc q) 1000 i s.ah s.ak ops (λv w A B=>z3k.l4 (tc q) 1000 m v w A B d k1) d k1=_;unfold z3k.b4;by_cases hi:i<(ops.length:Int)
  .obtain⟨o,j,F,C,D⟩:=aQ q0 hi;have e:(i+1).toNat=i.toNat+1:=A1
   have ht:nm (ops.take (i+1).toNat)=nm (ops.take i.toNat)++[o.ae]:=by
    obtain⟨hlt,hx⟩:=gI.1 D;rw[e,O7 hlt,hx];simp[nm]
   have E:EZ (Sg.mk (So.mk s.ah s.ak) ops) o=some (dL s.ah.length (br s.ah.length s.ak) o):=N1 hp;rw[dT hi,cT];simp only[j,bS,E];rw[C,pO,Eg 1000 i s.ah s.ak ops h o q0 hi j _ _ 1000 0 A1 A1 A1,aH (x:=i+1) A1];rw[t (i+1) A1 A1 A1,ht];simp only[Oa,NN];cases dc o.ae<;>cases dL s.ah.length (br s.ah.length s.ak) o<;>cases ((nm (ops.take i.toNat)).any λy=>sEq y o.ae)<;>rfl
  .exact RL
theorem qa{N:Nat}{d:RV Int}:∀{ops:RV Opr}{seen:RV Z},pO N d seen ops=true->jZ N d ops=true
 |[],_,_=>rfl
 | o::ops,seen,h=>by
  simp only[pO,bA]at h;simp only[jZ,O6,bA];exact⟨h.2.1,qa h.2.2.2⟩
theorem JZ(s:So)(hp:i8 s=true)(ops:RV Opr)(h:ops.length<=14)(ho:jZ s.ah.length (br s.ah.length s.ak) ops=true)(d:Bool->Y R)(k1:Y R):∀m (i:Int),0<=i->i<=ops.length->(ops.length-i).toNat<m->
  z3k.l14 (tc q) 1000 m i s.ah s.ak ops d k1=bif (ops.drop i.toNat).all (axF (br s.ah.length s.ak) ops)then k1 else d false:=by
 intro m
 induction m with
 |zero=>exact RM
 | succ m j=>
  intro i q0 q1 hm;show z3k.b14 (tc q) 1000 i s.ah s.ak ops (λt v w y=>z3k.l14 (tc q) 1000 m t v w y d k1) d k1=_;unfold z3k.b14;by_cases hi:i<(ops.length:Int)
  .obtain⟨o,C,D,A,E⟩:=aQ q0 hi;have B:gAx (Sg.mk (So.mk s.ah s.ak) ops) i=some (axF (br s.ah.length s.ak) ops o):=by simp_all
   rw[dT hi,cT];dsimp only;rw[B,bS,A,O6,aH (x:=i+1) A1,j (i+1) A1 A1 A1];cases axF (br s.ah.length s.ak) ops o<;>rfl
  .exact RL
end
theorem z3l:aj (z3k.ent λs=>some (bI s)):=z3k.ok (G:=tc λs=>some (dM s)) ⟨z3n,z3j,zV,wV,trivial⟩ λs r h=>⟨1000,by
 cases h;unfold z3k.aq bI;rw[bS];cases hs:dM s.ai with
 |false=>rfl
 | true=>
  obtain⟨_,_,_,_,hp⟩:=gz hs;by_cases d:14<(s.ops.length:Int)
  .grind
  .rw[dF d,dT (A1:s.ops.length<=14),N5,cF,cF];rw[EK s.ai hp s.ops A1 _ _ 1000 0 A1 A1 A1];simp only[Oa,OE,NN,nm,List.map_nil,N6];cases ho:pO s.ai.ah.length (br s.ai.ah.length s.ai.ak) [] s.ops with
   |false=>rfl
   | true=>
    rw[cT,JZ s.ai hp s.ops A1 (qa ho) _ _ 1000 0 A1 A1 A1];simp only[Oa,NN,N6];cases s.ops.all (axF (br s.ai.ah.length s.ai.ak) s.ops)<;>rfl⟩
theorem eF{s:Sg}(h:bI s=true):s.ops.length<=14/\∀o∈s.ops,dL s.ai.ah.length (br s.ai.ah.length s.ai.ak) o=true/\axF (br s.ai.ah.length s.ai.ak) s.ops o=true:=by
 unfold bI at h;simp only[bA,NO]at h;obtain⟨_,h1,h2,d⟩:=h;exact⟨h1,λo ho=>⟨aT.1 (qa h2) o ho,aT.1 d o ho⟩⟩
theorem EV{d:RV Int}{ops:RV Opr}{o:Opr}(h:axF d ops o=true):0<=o.aE/\o.aE<=ops.length:=by
 unfold axF at h;cases hc:(!o.aA&&(!o.comm&&decide (o.aE=0)))with
 | true=>
  simp only[bA,NO]at hc;omega
 | false=>
  rw[hc,cF]at h;simp only[bA,NO]at h;exact⟨h.2.1,h.2.2.1⟩
abbrev KE:Od->Int->Y Bool:=λx k=>some (inN x.bh.length k)
theorem pk:aj (z1h.ent KE):=z1h.ok (G:=⟨()⟩) trivial λx k r h=>⟨1,by
 cases h;unfold z1h.aq inN;by_cases h:0<=k
 .rw[dT h];rfl
 .rw[dF h];rfl⟩
abbrev GDI:z18.Gs:={z1h:=KE}
section
variable {R : Type}
theorem Fs(n N:Nat)(ab be d:RV Int)(B:ab.length=N)(l:RV Int)(hl:l.length<=3)(nm:Z)(j:RV Dc)(t v:Bool)(un:Int)(fa:RV Int)(fr:Int)(h:Bool->Y R)(k1:RV Int->RV Int->RV Int->Z->RV Dc->Bool->Bool->Int->RV Int->Int->Y R):∀m (i:Int),0<=i->i<=l.length->(l.length-i).toNat<m->
  z18.l7 GDI n m l (l.length:Int) i ab be d nm j t v un fa fr h k1=bif (l.drop i.toNat).all (inN N)then k1 ab be d nm j t v un fa fr else h false:=by
 intro m
 induction m with
 |zero=>exact RM
 | succ m C=>
  intro i q0 q1 hm;show z18.b7 GDI n l (l.length:Int) i ab be d nm j t v un fa fr (λD E F G H I J K L M w y A=>z18.l7 GDI n m D E F G H I J K L M w y A h k1) h k1=_;unfold z18.b7;by_cases hi:i<(l.length:Int)
  .obtain⟨x,O,Q,P,_⟩:=aQ q0 hi;rw[dT hi,cT];simp only[O,bS,B,aH (x:=i+1) A1];rw[P,O6,C (i+1) A1 A1 A1];cases inN N x<;>rfl
  .exact RL
theorem Jg(n N:Nat)(v:RV Dc)(j t55:Int)(ab be d:RV Int)(C:ab.length=N)(hk:d.length=N)(fa:RV Int)(fr:Int)(h:RV Int)(hl:h.length=fa.length)(S:fa.length<=3)(w:∀x∈fa,inN N x=true)(t:Bool->Y R)
  (k1:RV Dc->Int->Int->RV Int->RV Int->RV Int->RV Int->Int->Y R):∀m (k:Int),0<=k->k<=h.length->(h.length-k).toNat<m->
  z18.l18 GDI n m v j t55 h (h.length:Int) k ab be d fa fr t k1=bif jY N d (h.drop k.toNat) (fa.drop k.toNat)then k1 v j t55 ab be d fa fr else t false:=by
 intro m
 induction m with
 |zero=>exact RN
 | succ m D=>
  intro k q0 q1 hm;show z18.b18 GDI n v j t55 h (h.length:Int) k ab be d fa fr (λE F G H I J K L M O y=>z18.l18 GDI n m E F G H I J K L M O y t k1) t k1=_;unfold z18.b18;by_cases hi:k<(h.length:Int)
  .obtain⟨a,P,T,a3,a4⟩:=aQ (a:=h) q0 hi;obtain⟨b,b1,b2,b3,b4⟩:=aQ (a:=fa) q0 A1;rw[dT hi,cT];simp only[P,b1,bS,C,aH (x:=k+1) A1];rw[a3,b3,jY];cases Q:inN N a with
   |false=>rfl
   | true=>
    have A:=cg.1 Q;have B:=cg.1 (w b b2);rw[bf A.1 A1,bf B.1 A1,bS,bS,D (k+1) A1 A1 A1];cases decide (aU d a=aU d b)<;>rfl
  .exact RL
theorem Jw(N:Nat)(ab be h:RV Int)(B:ab.length=N)(hk:h.length=N)(f:Dc)(C:f.ac.length<=3)(w:inN N f.result=true)(y:∀x∈f.ac,inN N x=true)(j:RV Dc)(h4:j.length<=4)(v:Bool->Y R)(k1:Y R):∀m (i:Int),0<=i->i<=j.length->(j.length-i).toNat<m->
  z18.l13 GDI 1000 m j (j.length:Int) i ab be h f.ac f.result v k1=bif (j.drop i.toNat).all (fZ N h f)then k1 else v false:=by
 intro m
 induction m with
 |zero=>exact RM
 | succ m D=>
  intro i q0 q1 hm;show z18.b13 GDI 1000 j (j.length:Int) i ab be h f.ac f.result (λE F G H I J K L=>z18.l13 GDI 1000 m E F G H I J K L v k1) v k1=_;unfold z18.b13;by_cases hi:i<(j.length:Int)
  .obtain⟨d,M,d2,O,d4⟩:=aQ q0 hi;rw[dT hi,cT,M,bS,O,O6];unfold fZ;by_cases hl:d.ac.length=f.ac.length
   .rw[dT hl,dT (A1:(d.ac.length:Int)=(f.ac.length:Int)),N5,cF,N6];simp only[bS,B];cases hr:inN N d.result with
    |false=>rfl
    | true=>
     have A:=cg.1 hr;have t:=cg.1 w;rw[N5,cF,bf A.1 A1,bf t.1 A1,bS,bS];rw[Jg 1000 N j _ _ ab be h B hk f.ac f.result d.ac hl C y _ _ 1000 0 A1 A1 A1,aH (x:=i+1) A1];simp only[Oa,NN];rw[D (i+1) A1 A1 A1];unfold fZ;cases decide (aU h d.result=aU h f.result)<;>cases jY N h d.ac f.ac<;>rfl
   .grind
  .exact RL
end
noncomputable def gDI:Od->Opr->Y Bool:=λx o=>if x.bh.length<=8/\x.kind.length=x.bh.length then some (dL x.bh.length x.kind o)else none
theorem za:aj (z18.ent gDI):=z18.ok (G:=GDI) ⟨pk,trivial⟩ λx o r h=>by
 unfold gDI at h;split at h
 .rename_i hp;cases h;obtain⟨A,w⟩:=hp;refine⟨1000,?_⟩;unfold z18.aq dL;by_cases h1:(o.aC.length:Int)<1
  .grind
  by_cases h4:4<(o.aC.length:Int)
  .grind
  rw[dF h1,dF h4,dT (A1:1<=o.aC.length),dT (A1:o.aC.length<=4),cH A1];simp only[cF,bS,N6];by_cases y:3<((first o).ac.length:Int)
  .grind
  rw[dF y,dT (A1:(first o).ac.length<=3),cF];have hm:first o∈o.aC:=by
   unfold first
   cases hd:o.aC with
   |nil=>rw[hd]at h1;simp at h1
   |cons d l=>simp
  have key:o.aC.all (fZ x.bh.length x.kind (first o))=true->inN x.bh.length (first o).result=true/\(first o).ac.all (inN x.bh.length)=true:=λj=>by
   have t:=aT.1 j _ hm;unfold fZ at t;simp only[bA]at t;exact⟨t.2.1,aT.2 (nD t.2.2.1)⟩
  cases hr:inN x.bh.length (first o).result with
  | false=>
   have:o.aC.all (fZ x.bh.length x.kind (first o))=false:=by
    cases hc:o.aC.all (fZ x.bh.length x.kind (first o))with
    |false=>rfl
    |true=>rw[(key hc).1]at hr;cases hr
   rw[this];rfl
  | true=>
   rw[N5,cF,Fs 1000 x.bh.length x.bh x.below x.kind rfl (first o).ac A1 _ _ _ _ _ _ _ _ _ 1000 0 A1 A1 A1];simp only[Oa,NN];cases v:(first o).ac.all (inN x.bh.length)with
   | false=>
    have:o.aC.all (fZ x.bh.length x.kind (first o))=false:=by
     cases hc:o.aC.all (fZ x.bh.length x.kind (first o))with
     |false=>rfl
     |true=>rw[(key hc).2]at v;cases v
    rw[this];rfl
   | true=>
    rw[cT,Jw x.bh.length x.bh x.below x.kind rfl w (first o) A1 hr (aT.1 v) o.aC A1 _ _ 1000 0 A1 A1 A1];simp only[Oa,NN,N6];cases o.aC.all (fZ x.bh.length x.kind (first o))<;>rfl
 .cases h
section
variable {R : Type}
theorem JO(n N:Nat)(G:z15.Gs)(ab be d:RV Int)(hk:d.length=N)(ah:RV Z)(ak:RV Sb)(ops:RV Opr)(v:ops.length<=14)(ho:jZ N d ops=true)(o:Opr)(w:inN N (first o).result=true)(h0:0<=o.aE)(h1:o.aE<=ops.length)(t:Bool->Y R):
  z15.c10 G n ab be d ah ak ops o.ae o.aC o.aA o.comm o.aE (first o).ac (first o).result t=t (bif decide (o.aE=0)then true else match ix ops (o.aE-1)with
   |some u=>decide ((first u).ac.length=0)&&decide (aU d (first u).result=aU d (first o).result)
   |none=>false):=by
 unfold z15.c10;by_cases y:o.aE=0
 .grind
 .rw[dF y,cF,cF,aH (x:=o.aE-1) A1];obtain⟨u,u1,u2,_,_⟩:=aQ (a:=ops) (i:=o.aE-1) A1 A1;obtain⟨A,d2,C,d4,d5,d6⟩:=fb (aT.1 ho u u2);have h:=cg.1 d5;have j:=cg.1 w;rw[u1,bS,cH A,bS];by_cases B:(first u).ac.length=0
  .rw[dT (A1:((first u).ac.length:Int)=0),cT,bf h.1 A1,bS,bf j.1 A1,bS];simp[B]
  .simp_all
theorem Gw(n N:Nat)(G:z15.Gs)(ab be d:RV Int)(hk:d.length=N)(ah:RV Z)(ak:RV Sb)(ops:RV Opr)(h:ops.length<=14)(ho:jZ N d ops=true)(o:Opr)(hd:dL N d o=true)(h0:0<=o.aE)(h1:o.aE<=ops.length)(w:Bool->Y R):
  z15.c5 G n ab be d ah ak ops o.ae o.aC o.aA o.comm o.aE w=w (decide ((first o).ac.length=2)&&(decide (aU d (aU (first o).ac 0)=aU d (aU (first o).ac 1))&&
  ((bif o.aA||decide (0<o.aE)then decide (aU d (aU (first o).ac 0)=aU d (first o).result)else true)&&
  (bif decide (o.aE=0)then true else match ix ops (o.aE-1)with
   |some u=>decide ((first u).ac.length=0)&&decide (aU d (first u).result=aU d (first o).result)
   |none=>false)))):=by
 obtain⟨y,d2,E,d4,d5,d6⟩:=fb hd;have j:=cg.1 d5;unfold z15.c5;rw[cH y,bS];by_cases h2:(first o).ac.length=2
 .rw[dT h2,dT (A1:((first o).ac.length:Int)=2),N5,cF,N6];have a0:ix (first o).ac 0=some (aU (first o).ac 0):=bf A1 A1;have A:ix (first o).ac 1=some (aU (first o).ac 1):=bf A1 A1;have B:=cg.1 (d6 _ (ez (l:=(first o).ac) (i:=0) A1 A1));have m1:=cg.1 (d6 _ (ez (l:=(first o).ac) (i:=1) A1 A1));have t:ix d (aU (first o).ac 0)=some (aU d (aU (first o).ac 0)):=bf B.1 A1;have v:ix d (aU (first o).ac 1)=some (aU d (aU (first o).ac 1)):=bf m1.1 A1;have C:ix d (first o).result=some (aU d (first o).result):=bf j.1 A1;simp only[a0,A,t,v,C,bS];rw[JO n N G ab be d hk ah ak ops h ho o d5 h0 h1];have D:decide (0<o.aE)= !decide (o.aE=0):=HD
  rw[D];cases o.aA<;>cases decide (aU d (aU (first o).ac 0)=aU d (aU (first o).ac 1))<;>cases decide (aU d (aU (first o).ac 0)=aU d (first o).result)<;>cases decide (o.aE=0)<;>rfl
 .grind
end
noncomputable def gAI:Od->Sg->Opr->Y Bool:=λx s o=>if x.kind.length=x.bh.length/\s.ops.length<=14/\jZ x.bh.length x.kind s.ops=true/\o∈s.ops then some (axF x.kind s.ops o)else none
theorem wx:aj (z15.ent gAI):=z15.ok (G:=⟨()⟩) trivial λx s o r h=>by
 unfold gAI at h;split at h
 .rename_i hp;cases h;obtain⟨j,t,d,v⟩:=hp;have hd:=aT.1 d o v;refine⟨1000,?_⟩;unfold z15.aq axF;by_cases h0:o.aE<0
  .grind
  by_cases h1:(s.ops.length:Int)<o.aE
  .grind
  rw[dF h0,dF h1,cF,cF,Gw 1000 x.bh.length ⟨()⟩ x.bh x.below x.kind j s.ai.ah s.ai.ak s.ops t d o hd A1 A1];rw[dT (A1:0<=o.aE),dT (A1:o.aE<=s.ops.length)];cases o.aA<;>cases o.comm<;>cases decide (o.aE=0)<;>rfl
 .cases h
abbrev qC(q:So->Y (Od×Bool))(d:Od->Opr->Y Bool)(a:Od->Sg->Opr->Y Bool):z0g.Gs:={z1g:=q,z0e:=jb,z18:=d,z15:=a}
section
variable {R : Type} {q : So → Y (Od × Bool)}
theorem F6(n N:Nat)(O:N<=8)(x:Od)(hx:x.bh.length=N)(hk:x.kind.length=N)(ah:RV Z)(ak:RV Sb)(d ops:RV Opr)(t:ops.length<=14)(h:Bool->Y R)(k1:RV Z->RV Sb->RV Opr->RV Int->RV Int->RV Int->Y R):∀m (i:Int) (kvs:RV (Z×Bool)),0<=i->i<=ops.length->sg kvs (nm (ops.take i.toNat))->(ops.length-i).toNat<m->
  z0g.l6 (qC q gDI gAI) n m ops (ops.length:Int) i ah ak d x.bh x.below x.kind kvs h k1=bif pO N x.kind (nm (ops.take i.toNat)) (ops.drop i.toNat)then k1 ah ak d x.bh x.below x.kind else h false:=by
 intro m
 induction m with
 |zero=>intro i _ _ _ _ hm;omega
 | succ m v=>
  intro i kvs q0 q1 j hm;show z0g.b6 (qC q gDI gAI) n ops (ops.length:Int) i ah ak d x.bh x.below x.kind kvs (λw A B C D E F G H I=>z0g.l6 (qC q gDI gAI) n m w A B C D E F G H I h k1) h k1=_;unfold z0g.b6;by_cases hi:i<(ops.length:Int)
  .obtain⟨o,J,P,K,L⟩:=aQ q0 hi;have e:(i+1).toNat=i.toNat+1:=A1
   have ht:nm (ops.take (i+1).toNat)=nm (ops.take i.toNat)++[o.ae]:=by
    obtain⟨hlt,hx⟩:=gI.1 L;rw[e,O7 hlt,hx];simp[nm]
   have M:gDI (Od.mk x.bh x.below x.kind) o=some (dL N x.kind o):=by
    unfold gDI;rw[N1 ⟨by show x.bh.length<=8;omega,by show x.kind.length=x.bh.length;omega⟩];show some (dL x.bh.length x.kind o)=_;rw[hx]
   rw[dT hi,cT];simp only[J,bS,M,aH (x:=i+1) A1];rw[K,pO,v (i+1) _ A1 A1 (by rw[ht];exact yr j o.ae) A1,ht,j o.ae];cases dc o.ae<;>cases dL N x.kind o<;>cases ((nm (ops.take i.toNat)).any λy=>sEq y o.ae)<;>rfl
  .exact RL
theorem Ks(n N:Nat)(x:Od)(hx:x.bh.length=N)(hk:x.kind.length=N)(ah:RV Z)(ak:RV Sb)(ops:RV Opr)(h:ops.length<=14)(ho:jZ N x.kind ops=true)(d:Bool->Y R)(k1:Y R):∀m (i:Int),0<=i->i<=ops.length->(ops.length-i).toNat<m->
  z0g.l13 (qC q gDI gAI) n m ops (ops.length:Int) i ah ak ops x.bh x.below x.kind d k1=bif (ops.drop i.toNat).all (axF x.kind ops)then k1 else d false:=by
 intro m
 induction m with
 |zero=>exact RM
 | succ m j=>
  intro i q0 q1 hm;show z0g.b13 (qC q gDI gAI) n ops (ops.length:Int) i ah ak ops x.bh x.below x.kind (λt v w y A B C D E=>z0g.l13 (qC q gDI gAI) n m t v w y A B C D E d k1) d k1=_;unfold z0g.b13;by_cases hi:i<(ops.length:Int)
  .obtain⟨o,F,G,H,J⟩:=aQ q0 hi;have I:gAI (Od.mk x.bh x.below x.kind) (Sg.mk (So.mk ah ak) ops) o=some (axF x.kind ops o):=by
    unfold gAI;rw[N1 ⟨by show x.kind.length=x.bh.length;omega,h,by show jZ x.bh.length x.kind ops=true;rw[hx];exact ho,G⟩]
   rw[dT hi,cT,F,bS];dsimp only;rw[I,bS,H,O6,aH (x:=i+1) A1,j (i+1) A1 A1 A1];cases axF x.kind ops o<;>rfl
  .exact RL
end
theorem z0h:aj (z0g.ent λs=>some (bI s)):=z0g.ok (G:=qC (λs=>some (jO s)) gDI gAI) ⟨pC,z0f,za,wx,trivial⟩ λs r h=>⟨1000,by
 cases h;unfold z0g.aq bI;rw[bS];cases hs:dM s.ai with
 | false=>
  rw[show jO s.ai=(⟨[],[],[]⟩,false)from N3 (by rw[hs];simp)];rfl
 | true=>
  obtain⟨A,y,B,C,D⟩:=gz hs;rw[show jO s.ai=(⟨upI s.ai.ah.length s.ai.ak,ml (upI s.ai.ah.length s.ai.ak),br s.ai.ah.length s.ai.ak⟩,true)from N1 hs];simp only[N5,cF];by_cases t:14<(s.ops.length:Int)
  .grind
  .rw[dF t,dT (A1:s.ops.length<=14),cF];have v:=fN s.ai.ah.length s.ai.ak;have d:=lh s.ai.ah.length s.ai.ak;have w:=F6 (R:=AT×RV Ob) (q:=λs=>some (jO s)) 1000 s.ai.ah.length y ⟨upI s.ai.ah.length s.ai.ak,ml (upI s.ai.ah.length s.ai.ak),br s.ai.ah.length s.ai.ak⟩ v d s.ai.ah s.ai.ak s.ops s.ops A1;simp only at w;rw[w _ _ 1000 0 [] A1 A1 yh A1];simp only[Oa,OE,NN,nm,List.map_nil,N6];cases ho:pO s.ai.ah.length (br s.ai.ah.length s.ai.ak) [] s.ops with
   |false=>rfl
   | true=>
    have j:=Ks (R:=AT×RV Ob) (q:=λs=>some (jO s)) 1000 s.ai.ah.length ⟨upI s.ai.ah.length s.ai.ak,ml (upI s.ai.ah.length s.ai.ak),br s.ai.ah.length s.ai.ak⟩ v d s.ai.ah s.ai.ak s.ops A1 (qa ho);simp only at j;rw[cT,j _ _ 1000 0 A1 A1 A1];simp only[Oa,NN,N6];cases s.ops.all (axF (br s.ai.ah.length s.ai.ak) s.ops)<;>rfl⟩
abbrev nS(s:Sg):Nat:=s.ai.ah.length
abbrev kS(s:Sg):RV Int:=br s.ai.ah.length s.ai.ak
structure Jo(s:Sg)(o:Opr):Prop where
 dl:1<=o.aC.length
 fa:(first o).ac.length<=3
 ac:∀x∈(first o).ac,0<=x/\x<nS s
 res:0<=(first o).result/\(first o).result<nS s
 u0:0<=o.aE
 u1:o.aE<=s.ops.length
 two:o.aA=true\/o.comm=true\/o.aE≠0->(first o).ac.length=2
 un:o.aE≠0->∃u,ix s.ops (o.aE-1)=some u/\(first u).ac.length=0
theorem jd{s:Sg}(h:bI s=true){o:Opr}(ho:o∈s.ops):Jo s o:=by
 obtain⟨h1,h2⟩:=eF h;obtain⟨t,h4⟩:=h2 o ho;obtain⟨v,d2,w,d4,d5,d6⟩:=fb t;obtain⟨u0,u1⟩:=EV h4;have two:o.aA=true\/o.comm=true\/o.aE≠0->(first o).ac.length=2:=λhc=>by
  unfold axF at h4;cases hb:(!o.aA&&(!o.comm&&decide (o.aE=0)))with
  | true=>
   simp only[bA,OF,NO]at hb;obtain⟨b1,b2,b3⟩:=hb;rw[b1,b2]at hc;simp[b3]at hc
  | false=>
   rw[hb,cF]at h4;simp only[bA,NO]at h4;exact h4.1
 refine⟨v,w,λx hx=>cg.1 (d6 x hx),cg.1 d5,u0,u1,two,λj=> ?_⟩;unfold axF at h4;cases hb:(!o.aA&&(!o.comm&&decide (o.aE=0)))with
 | true=>
  simp only[bA,NO]at hb;exact absurd hb.2.2 j
 | false=>
  rw[hb,cF]at h4;simp only[bA,NO]at h4;have d:=h4.2.2.2.2.2;rw[dF j,cF]at d;split at d
  .grind
  .cases d
theorem Mm(s:Sg):(kS s).length=nS s:=lh _ _
theorem kM{s:Sg}(h:bI s=true):i8 s.ai=true:=by
 unfold bI at h;simp only[bA]at h;exact(gz h.1).2.2.2.2
theorem ci{α:Type}{xs:RV α}{i:Int}{x:α}(h:ix xs i=some x):x∈xs/\0<=i/\i<xs.length/\xs[i.toNat]? =some x:=by
 unfold ix at h;cases hb:decide (0<=i)with
 |false=>rw[hb]at h;cases h
 | true=>
  rw[hb]at h;have h0:0<=i:=NZ hb;have h:xs[i.toNat]? =some x:=h;obtain⟨hlt,_⟩:=gI.1 h;exact⟨mG h,h0,A1,h⟩
theorem tG{s:Sg}(h:bI s=true){o u:Opr}(ho:Jo s o)(d:o.aE≠0)(hx:ix s.ops (o.aE-1)=some u):(first u).ac.length=0/\u.aA=false:=by
 obtain⟨t,h1,h2⟩:=ho.un d;rw[hx]at h1;cases h1;refine⟨h2,?_⟩;have hk:=jd h (ci hx).1;cases j:u.aA with
 |false=>rfl
 |true=>have:=hk.two (.inl j);omega
inductive Good(s:Sg):Tm->Prop
 |var {ae:Z} {ag:Int} (h1:0<=ag) (h2:ag<nS s) (h3:dc ae=true):Good s (Tm.mk (-1) ae ag [])
 |app {op:Int} {o:Opr} {ac:List Tm} (ho:ix s.ops op=some o) (hn:if o.aA=true then 2<=ac.length else ac.length=(first o).ac.length) (ha:∀a∈ac,Good s a):Good s (Tm.mk op ByteArray.empty 0 ac)
theorem Good.ac{s:Sg}{t:Tm}(h:Good s t):∀a∈t.ac,Good s a:=by
 cases h with
 |var=>intro a d;simp at d
 |app _ _ d=>exact d
def Kn(s:Sg)(t:Tm):Prop:=(t.op= -1/\0<=t.ag/\t.ag<nS s)\/∃o,ix s.ops t.op=some o
theorem Good.kn{s:Sg}{t:Tm}(h:Good s t):Kn s t:=by
 cases h with
 |var h1 h2 d=>exact .inl ⟨rfl,h1,h2⟩
 |app ho _ _=>exact .inr ⟨_,ho⟩
def dm(s:Sg)(t:Tm):Int:=if t.op= -1 then aU (kS s) t.ag else match ix s.ops t.op with
 |some o=>aU (kS s) (first o).result
 |none=>0
theorem rD{s:Sg}{i:Int}(h0:0<=i)(h1:i<nS s):ix (kS s) i=some (aU (kS s) i):=bf h0 (by rw[Mm];exact h1)
abbrev Mp:=RV (Z×Int)
def Alg(kd:RV Int)(nm:RV Z)(sb:RV Sb)(ops:RV Opr):Prop:=bI ⟨⟨nm,sb⟩,ops⟩=true/\kd=br nm.length sb
noncomputable def gn:RV Int->RV Int->RV Int->RV Z->RV Sb->RV Opr->Mp->Tm->Y (Int×Mp):=λ_ _ kd nm sb ops m t=>if Alg kd nm sb ops/\Kn ⟨⟨nm,sb⟩,ops⟩ t then some (dm ⟨⟨nm,sb⟩,ops⟩ t,m)else none
theorem oF:aj (z10.ent gn):=z10.ok (G:=⟨()⟩) trivial λab be kd nm sb ops m t r h=>by
 unfold gn at h;split at h
 .rename_i hs;cases h;obtain⟨⟨h1,rfl⟩,h2⟩:=hs;refine⟨1,?_⟩;unfold z10.aq dm;rcases h2 with⟨h2,j,h4⟩|⟨o,ho⟩
  .rw[h2,N1 rfl,dT D2,cT];have:=rD (s:=⟨⟨nm,sb⟩,ops⟩) j h4;rw[this,bS]
  .obtain⟨m1,v,w,_⟩:=ci ho;have hk:=jd h1 m1;have:=rD (s:=⟨⟨nm,sb⟩,ops⟩) hk.res.1 hk.res.2;have d:ix ops t.op=some o:=ho;rw[N3 A1,dF A1,cF,d,bS,cH hk.dl,bS,this,bS]
 .cases h
noncomputable def fL:Sg->Tm->Y Int:=λs t=>if bI s=true/\Kn s t then some (dm s t)else none
theorem om:aj (z4p.ent fL):=z4p.ok (G:=⟨fK⟩) ⟨hY,trivial⟩ λs t r h=>by
 unfold fL at h;split at h
 .rename_i hs;cases h;obtain⟨h1,h2⟩:=hs;refine⟨1,?_⟩;unfold z4p.aq dm;show Option.bind (fK s.ai) _=_;unfold fK;rw[N1 (kM h1),bS];rcases h2 with⟨h2,d,h4⟩|⟨o,ho⟩
  .rw[h2,N1 rfl,dT rfl,cT];rw[rD d h4,bS]
  .obtain⟨m1,j,v,_⟩:=ci ho;have hk:=jd h1 m1;rw[N3 A1,dF A1,cF,ho,bS,cH hk.dl,bS,rD hk.res.1 hk.res.2,bS]
 .cases h
def atI(o:Opr)(i:Int):Int:=if o.aA=true then 0 else i
def ni(s:Sg)(o:Opr)(i:Int):Int:=aU (kS s) (aU (first o).ac (atI o i))
noncomputable def lG:RV Int->RV Int->RV Int->RV Z->RV Sb->RV Opr->Mp->Int->Int->Y (Int×Mp):=λ_ _ kd nm sb ops m op i=>if Alg kd nm sb ops/\∃o,ix ops op=some o/\0<=atI o i/\atI o i<(first o).ac.length then some (ni ⟨⟨nm,sb⟩,ops⟩ ((ix ops op).getD ⟨ByteArray.empty,[],false,false,0⟩) i,m)else none
theorem zN{s:Sg}{o:Opr}(hk:Jo s o){i:Int}(h0:0<=i)(h1:i<(first o).ac.length):ix (first o).ac i=some (aU (first o).ac i)/\0<=aU (first o).ac i/\aU (first o).ac i<nS s:=
 ⟨bf h0 h1,hk.ac _ (ez h0 h1)⟩
theorem rE:aj (z0s.ent lG):=z0s.ok (G:=⟨()⟩) trivial λab be kd nm sb ops m op i r h=>by
 unfold lG at h;split at h
 .rename_i hs;obtain⟨⟨h1,rfl⟩,o,ho,h2,t⟩:=hs;rw[ho]at h;cases h;have hk:=jd h1 (ci ho).1;obtain⟨d,v,a3⟩:=zN hk h2 t;have a4:=rD (s:=⟨⟨nm,sb⟩,ops⟩) v a3;refine⟨1,?_⟩;unfold z0s.aq ni;rw[ho,bS,P7];unfold atI at d a4 ⊢;cases j:o.aA with
  | true=>
   rw[j,N1 rfl]at d a4;rw[cT,N1 rfl];unfold z0s.c4;rw[cH hk.dl,bS,d,bS,a4,bS]
  | false=>
   rw[j,N3 D2]at d a4;rw[cF,N3 D2];unfold z0s.c4;rw[cH hk.dl,bS,d,bS,a4,bS]
 .cases h
def jG(o:Opr)(t:Tm):Bool:= !decide (o.aE=0)&&decide (t.op=o.aE-1)
def unT(o:Opr):Tm:=Tm.mk (o.aE-1) ByteArray.empty 0 []
noncomputable def tg:RV Int->RV Int->RV Int->RV Z->RV Sb->RV Opr->Mp->Int->Tm->Y (Bool×Mp):=λ_ _ kd nm sb ops m op t=>if Alg kd nm sb ops then (ix ops op).map (λo=>(jG o t,m))else none
theorem tB:aj (z0y.ent tg):=z0y.ok (G:=⟨()⟩) trivial λab be kd nm sb ops m op t r h=>by
 unfold tg at h;split at h
 .rename_i hs;obtain⟨o,ho,rfl⟩:=Option.map_eq_some_iff.1 h;have hk:=jd hs.1 (ci ho).1;have d:=hk.u1;have j:ops.length<=14:=(eF hs.1).1;refine⟨1,?_⟩;unfold z0y.aq jG;rw[ho,bS];by_cases v:o.aE=0
  .grind
  .have:o.aE<=(ops.length:Int):=d;rw[dF v,NR,cT,bS,N6,aH (x:=o.aE-1) (by have:=hk.u0;omega)]
 .cases h
noncomputable def zo:RV Int->RV Int->RV Int->RV Z->RV Sb->RV Opr->Mp->Int->Y (Tm×Mp):=λ_ _ kd nm sb ops m op=>if Alg kd nm sb ops then (ix ops op).map (λo=>(unT o,m))else none
noncomputable def sR:Sg->Int->Y (Tm×Bool):=λs op=>if bI s=true then (ix s.ops op).map (λo=>if o.aE=0 then (Tm.mk 0 ByteArray.empty 0 [],false)else (unT o,true))else none
theorem uz:aj (z4w.ent sR):=z4w.ok (G:=⟨()⟩) trivial λs op r h=>by
 unfold sR at h;split at h
 .rename_i hs;obtain⟨o,ho,rfl⟩:=Option.map_eq_some_iff.1 h;have hk:=jd hs (ci ho).1;have j:=hk.u1;have t:s.ops.length<=14:=(eF hs).1;refine⟨1,?_⟩;unfold z4w.aq;rw[ho,bS];by_cases d:o.aE=0
  .grind
  .rw[dF d,cF,bS,N3 d,aH (x:=o.aE-1) (by have:=hk.u0;omega)];rfl
 .cases h
noncomputable def uM:RV Int->RV Int->RV Int->RV Z->RV Sb->RV Opr->Mp->Tm->Y (Bool×Mp):=λab _ _ _ _ _ m t=>if t.op= -1 then some (dc t.ae&&(inN ab.length t.ag&&decide (t.ac.length=0)),m)else none
theorem lF:aj (z0z.ent uM):=z0z.ok (G:=⟨jb,KE⟩) ⟨z0f,pk,trivial⟩ λab be kd nm sb ops m t r h=>by
 unfold uM at h;split at h
 .rename_i hs;cases h;refine⟨1,?_⟩;unfold z0z.aq;rw[dT hs,cT];show Option.bind (jb t.ae) _=_;rw[bS];cases d:dc t.ae with
  |false=>rfl
  | true=>
   rw[cT];show Option.bind (KE ⟨ab,be,kd⟩ t.ag) _=_;rw[bS];cases hi:inN ab.length t.ag with
   |false=>rfl
   | true=>
    rw[cT,show decide ((t.ac.length:Int)=0)=decide (t.ac.length=0)from decide_eq_decide.2 A1];rfl
 .cases h
abbrev Zt:Tm:=Tm.mk 0 ByteArray.empty 0 []
def uOf(o:Opr):Tm:=if o.aE=0 then Zt else unT o
theorem A7{s:Sg}(h:bI s=true){o:Opr}{op:Int}(ho:ix s.ops op=some o)(t:o.aE≠0){x:Tm}(hx:Good s x):(bH x (unT o)=0↔x.op=o.aE-1)/\(x.op=o.aE-1->¬(o.aA=true/\x.op=op)):=by
 have hk:=jd h (ci ho).1;obtain⟨u,u1,u2⟩:=hk.un t;obtain⟨u3,u4⟩:=tG h hk t u1;refine⟨⟨λhc=> ?_,λhc=> ?_⟩,λhc ⟨h1,h2⟩=> ?_⟩
 .rw[gu]at hc;unfold lB at hc;by_cases h1:bF x.op (unT o).op=0
  .exact fw h1
  .omega
 .have:x=unT o:=by
   cases hx with
   | var h1 h2 w=>
    have hc:(-1:Int)=o.aE-1:=hc;have:=hk.u0;omega
   | @app j o' ac d v y=>
    have hc:j=o.aE-1:=hc;subst hc;rw[u1]at d;cases d;rw[u4,N3 D2,u3]at v;rw[nZ v];rfl
  rw[this];exact oi _ _ (NW _)
 .grind
abbrev Al:=RV Int×RV Int×RV Int×RV Z×RV Sb×RV Opr×RV (Z×Int)
noncomputable def du(s:Sg):Al:=(upI s.ai.ah.length s.ai.ak,ml (upI s.ai.ah.length s.ai.ak),br s.ai.ah.length s.ai.ak,s.ai.ah,s.ai.ak,s.ops,[])
noncomputable def jT:Sg->Y (Y Al):=λs=>some (if bI s=true then some (du s)else none)
theorem AH{s:Sg}(h:bI s=true):dM s.ai=true:=by
 unfold bI at h;rw[bA]at h;exact h.1
theorem lK:aj (z1f.ent jT):=z1f.ok (G:=⟨λs=>some (bI s),λs=>some (jO s)⟩) ⟨z0h,pC,trivial⟩ λs r h=>⟨1,by
 cases h;unfold z1f.aq;by_cases hs:bI s=true
 .rw[N1 hs];dsimp only;rw[bS,hs,N5,cF,bS,show jO s.ai=(⟨upI s.ai.ah.length s.ai.ak,ml (upI s.ai.ah.length s.ai.ak),br s.ai.ah.length s.ai.ak⟩,true)from N1 (AH hs)];rfl
 .rw[N3 hs];dsimp only;rw[bS,Bool.eq_false_iff.2 hs];rfl⟩
end
end Go.Proofs.YtigoabbppmdfpaaGreat.Den

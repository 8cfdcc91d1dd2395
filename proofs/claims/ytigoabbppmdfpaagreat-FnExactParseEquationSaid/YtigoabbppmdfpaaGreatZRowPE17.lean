/- merged -/
import Derived.Test.YtigoabbppmdfpaaGreatZRowPE8
import Derived.Test.YtigoabbppmdfpaaGreatZRowPE16

namespace Go.Proofs.YtigoabbppmdfpaaGreat.Den
open Go.RowKit
section
set_option maxRecDepth 100000
set_option linter.unusedVariables false
noncomputable section
namespace z4t
structure Gs where
 z3i:z3i.Q
 z43:z43.Q
 z4c:z4c.Q
def aq{R:Type}(G:Gs)(n:Nat)(s:Sg)(t:Tm)(K:Bool->Y R):Y R:=
 bif decide (t.op=(-1))then
  (
  (G.z3i t.ae).bind λr=>
  bif r then
   (
   (G.z43 t.ag 0 (wr ((List.length s.ai.ah:Int)-1))).bind λd=>
   bif d then
    (K (decide ((List.length t.ac:Int)=0)))
   else
    K false
   )
  else
   K false
  )
 else
  (G.z43 t.op 0 (wr ((List.length s.ops:Int)-1))).bind λh=>
  bif !h then
   (K false)
  else
   bif !sEq t.ae ByteArray.empty then
    (K false)
   else
    bif !decide (t.ag=0)then
     (K false)
    else
     (ix s.ops t.op).bind λe=>
     bif !e.aA then
      (
      (G.z4c e).bind λj=>
      bif !decide ((List.length t.ac:Int)=j)then
       (K false)
      else
       bif e.aA then
        (
        (G.z43 (List.length t.ac:Int) 2 7).bind λv=>
        bif !v then
         (K false)
        else
         K true
        )
       else
        K true
      )
     else
      bif e.aA then
       (
       (G.z43 (List.length t.ac:Int) 2 7).bind λw=>
       bif !w then
        (K false)
       else
        K true
       )
      else
       K true
theorem ok{G:Gs}(d:am [z3i.ent G.z3i,z43.ent G.z43,z4c.ent G.z4c]){g:Q}(h:∀s t r,g s t=some r->∃n,aq (R:=AT×RV Ob) G n s t (λv=>some (.one (.b v),[]))=some (.one (.b r),[])):aj (ent g):=okQ λ_ _ _ _ _ _ _ _ _ _ hc=>okL hc λr j=>let⟨_,j⟩:=h _ _ _ j;fF d ⟨74,0,[],[],[4],[],[]⟩ nP Tryz.func131 j
end z4t
namespace z4u
structure Gs where
 z4a:z4a.Q
 z4w:z4w.Q
 z4p:z4p.Q
 z4l:z4l.Q
 z3b:z3b.Q
def ax(G:Gs):RV Ent:=[z4a.ent G.z4a,z4w.ent G.z4w,z4p.ent G.z4p,z4l.ent G.z4l,z3b.ent G.z3b]
def c13{R:Type}(G:Gs)(n:Nat)(h:LI)(has:Bool)(i:Int)(h0:LB)(A:LS)(B:LO)(h1:Int)(C:Z)(D:Int)(j:LT)(h2:Z)(E:LD)(F t:Bool)(H N:Int)(I:Z)(J:Int)(K:LT)(h4:Int)(v:Z)(w:Int)(y:LT)(L:Bool->Y R)(k1:Y R):Y R:=bif t then(bif decide (0<i)then((ix j (wr (i-1))).bind λd=>(G.z3b (Tm.mk d.op d.ae d.ag d.ac) (Tm.mk h4 v w y)).bind λM=>bif decide (0<M)then(L false)else k1)else k1)else k1
def c11{R:Type}(G:Gs)(n:Nat)(d:LI)(has:Bool)(i M:Int)(h0:LB)(A:LS)(B:LO)(h1:Int)(E:Z)(F:Int)(H:LT)(h2:Z)(C:LD)(D I:Bool)(J L:Int)(v:Z)(w:Int)(y:LT)(h4:Int)(h:Z)(j:Int)(t:LT)(K:Bool->Y R)(k1:Y R):Y R:=(G.z4p (Sg.mk (So.mk h0 A) B) (Tm.mk h4 h j t)).bind λQ=>(ix C 0).bind λS=>(ix S.ac M).bind λT=>(ix d T).bind λU=>bif !decide (Q=U)then(K false)else bif D then(bif decide (h4=h1)then(K false)else bif has then((G.z4l (Tm.mk h4 h j t) (Tm.mk L v w y)).bind λV=>bif V then(K false)else c13 G n d has i h0 A B h1 E F H h2 C D I J L v w y h4 h j t (λt4=>K t4) (k1))else c13 G n d has i h0 A B h1 E F H h2 C D I J L v w y h4 h j t (λN=>K N) (k1))else bif has then((G.z4l (Tm.mk h4 h j t) (Tm.mk L v w y)).bind λW=>bif W then(K false)else c13 G n d has i h0 A B h1 E F H h2 C D I J L v w y h4 h j t (λO=>K O) (k1))else c13 G n d has i h0 A B h1 E F H h2 C D I J L v w y h4 h j t (λP=>K P) (k1)
def b5{R:Type}(G:Gs)(n:Nat)(d:LI)(has:Bool)(h0:LB)(t:LS)(v:LO)(h1:Int)(w:Z)(y:Int)(h:LT)(h2:Z)(A:LD)(j B:Bool)(C I:Int)(D:Z)(E:Int)(F:LT)(i:Int)(nx:Int->Y R)(J:Bool->Y R)(k1:Y R):Y R:=bif decide (i<(List.length h:Int))then((ix h i).bind λe=>bif j then(c11 G n d has i 0 h0 t v h1 w y h h2 A j B C I D E F e.op e.ae e.ag e.ac (λt4=>J t4) (nx (wr (i+1))))else c11 G n d has i i h0 t v h1 w y h h2 A j B C I D E F e.op e.ae e.ag e.ac (λH=>J H) (nx (wr (i+1))))else k1
def l5{R:Type}(G:Gs)(n m:Nat)(d:LI)(has:Bool)(h0:LB)(h:LS)(j:LO)(h1:Int)(t:Z)(w:Int)(y:LT)(h2:Z)(A:LD)(B C:Bool)(D I:Int)(E:Z)(F:Int)(H:LT)(i:Int)(J:Bool->Y R)(k1:Y R):Y R:=aS (λ(v:Int) nx=>b5 G n d has h0 h j h1 t w y h2 A B C D I E F H v (λK=>nx K) J k1) m i
def aq{R:Type}(G:Gs)(n:Nat)(s:Sg)(t:Tm)(K:Bool->Y R):Y R:=
 (ix s.ops t.op).bind λe=>
 (G.z4a s.ai).bind λr=>
 (G.z4w s t.op).bind λd=>
 l5 G n n r d.2 s.ai.ah s.ai.ak s.ops t.op t.ae t.ag t.ac e.ae e.aC e.aA e.comm e.aE d.1.op d.1.ae d.1.ag d.1.ac 0
  (λt4=>K t4)
  (K true)
def E1(G:Gs)(n:Nat):=rS [2,3,5,6,7,8,9,10] [.x (.p 0 0),.x (.p 1 0),.x (.p 2 0),.x (.l .i),.x (.p 3 0),.x .b,.x .i,.x (.p 4 0)] [.b [.l .s,.l (.n 5),.l (.n 8)],.b [.i,.s,.i,.l (.n 1)],.b [.s,.l (.n 7),.b,.b,.i],.b [.i,.s,.i,.l (.n 1)],.b [.i,.s,.i,.l (.n 1)]] λR K d has i h0 h j h1 t v w h2 y A B C L D E F h4 H I J=>c13 G n d has i h0 h j h1 t v w h2 y A B C L D E F h4 H I J (λt4=>K .ret ⟨[(4,.one (.b t4))],[]⟩) (K .normal ⟨[(2,.one (.p 0 0)),(3,.one (.p 1 0)),(5,.one (.p 2 0)),(6,.one (.l .i d)),(7,.one (.p 3 0)),(8,.one (.b has)),(9,.one (.i i))],[.box [.l .s h0,.l (.n 5) h,.l (.n 8) j],.box [.i h1,.s t,.i v,.l (.n 1) w],.box [.s h2,.l (.n 7) y,.b A,.b B,.i C],.box [.i L,.s D,.i E,.l (.n 1) F]]⟩)
def Hz(G:Gs)(n:Nat):=rS [2,3,5,6,7,8,9,10,11] [.x (.p 0 0),.x (.p 1 0),.x (.p 2 0),.x (.l .i),.x (.p 3 0),.x .b,.x .i,.x (.p 4 0),.x .i] [.b [.l .s,.l (.n 5),.l (.n 8)],.b [.i,.s,.i,.l (.n 1)],.b [.s,.l (.n 7),.b,.b,.i],.b [.i,.s,.i,.l (.n 1)],.b [.i,.s,.i,.l (.n 1)]] λR K d has i H h0 h j h1 t v w h2 y A B C M D E F h4 I J L=>c11 G n d has i H h0 h j h1 t v w h2 y A B C M D E F h4 I J L (λt4=>K .ret ⟨[(4,.one (.b t4))],[]⟩) (K .normal ⟨[(2,.one (.p 0 0)),(3,.one (.p 1 0)),(5,.one (.p 2 0)),(6,.one (.l .i d)),(7,.one (.p 3 0)),(8,.one (.b has)),(9,.one (.i i))],[.box [.l .s h0,.l (.n 5) h,.l (.n 8) j],.box [.i h1,.s t,.i v,.l (.n 1) w],.box [.s h2,.l (.n 7) y,.b A,.b B,.i C],.box [.i M,.s D,.i E,.l (.n 1) F]]⟩)
def dl5(G:Gs)(n m:Nat):=rS [2,3,5,6,7,8,9] [.x (.p 0 0),.x (.p 1 0),.x (.p 2 0),.x (.l .i),.x (.p 3 0),.x .b,.x .i] [.b [.l .s,.l (.n 5),.l (.n 8)],.b [.i,.s,.i,.l (.n 1)],.b [.s,.l (.n 7),.b,.b,.i],.b [.i,.s,.i,.l (.n 1)]] λR K d has i h0 h j h1 t v w h2 y A B C H D E F=>l5 G n m d has h0 h j h1 t v w h2 y A B C H D E F i (λt4=>K .ret ⟨[(4,.one (.b t4))],[]⟩) (K (.exit 0) ⟨[],[]⟩)
def pc(G:Gs)(n:Nat):Pcs:=⟨λR id st K=>bif Nat.beq id 5 then dl5 G n n R st K else none,λR id st K=>bif Nat.beq id 13 then E1 G n R st K else bif Nat.beq id 11 then Hz G n R st K else none,nK⟩
def an:Ann:=⟨94,0,[(5,[2,3,5,6,7,8,9])],[(13,[2,3,5,6,7,8,9,10]),(11,[2,3,5,6,7,8,9,10,11])],[4],[(11,⟨[([0,1,2,3,4,5,6,7,8,9,10,11,12,13,14,15,16,17,18,19,20,21,22,23,24,25,26,27,28,29,30,31,32,33],[],[])],[],[],[0,1,2,3,4],[]⟩),(13,⟨[([0,1,2,3,4,5,6,7,8,9,10,11,12,13,14,15,16],[],[])],[],[],[0,1,2,3,4],[]⟩)],[]⟩
abbrev bd:=aF Tryz.f132
abbrev q13:=aJ [1,1,1,1,0,1,0,0,1,0,0,1,1,1,1] bd
abbrev q11:=aJ [1,1,1,1,0,1,0,0,1,0,0,1,1,1] bd
abbrev q5:=aJ [1,1,1,1,0,1,0,0] bd
theorem M4{G:Gs}(d:am (ax G)){n:Nat}:al an q13 (E1 G n):=cpq d (pc G n) ⟨[2,3,5,6,7,8,9],[4],[(0,[]),(1,[2,3,5,6,7,8,9])]⟩
theorem ME{G:Gs}(d:am (ax G)){n:Nat}:al an q11 (Hz G n):=cpq d (pc G n) ⟨[2,3,5,6,7,8,9],[4],[(0,[]),(1,[2,3,5,6,7,8,9])]⟩ (apl [(0,13,q13)] ⟨M4 d,trivial⟩)
theorem pl5{G:Gs}(d:am (ax G))(n:Nat):∀m,al an (.loop q5) (dl5 G n m):=lpq d (pc G n) ⟨[],[4],[(0,[])]⟩ (apl [(0,11,q11)] ⟨ME d,trivial⟩)
theorem ok{G:Gs}(d:am (ax G)){g:Q}(h:∀s t r,g s t=some r->∃n,aq (R:=AT×RV Ob) G n s t (λv=>some (.one (.b v),[]))=some (.one (.b r),[])):aj (ent g):=okQ λ_ _ _ _ _ _ _ _ _ _ hc=>okL hc λr j=>let⟨n,j⟩:=h _ _ _ j;fF d an (pc G n) Tryz.func132 j (apl [(1,5,.loop q5)] ⟨pl5 d n n,trivial⟩)
end z4u
namespace z4o
structure Gs where
 z4t:z4t.Q
 z4o:z4o.Q
 z4u:z4u.Q
def ax(G:Gs):RV Ent:=[z4t.ent G.z4t,ent G.z4o,z4u.ent G.z4u]
def b4{R:Type}(G:Gs)(n:Nat)(h0:LB)(j:LS)(t:LO)(h1:Int)(v:Z)(w:Int)(d:LT)(i:Int)(nx:Int->Y R)(y:Bool->Y R)(k1:Y R):Y R:=bif decide (i<(List.length d:Int))then((ix d i).bind λh=>(G.z4o (Sg.mk (So.mk h0 j) t) (Tm.mk h.op h.ae h.ag h.ac)).bind λA=>bif !A then(y false)else nx (wr (i+1)))else k1
def l4{R:Type}(G:Gs)(n m:Nat)(h0:LB)(d:LS)(h:LO)(h1:Int)(j:Z)(t:Int)(w:LT)(i:Int)(y:Bool->Y R)(k1:Y R):Y R:=aS (λ(v:Int) nx=>b4 G n h0 d h h1 j t w v (λA=>nx A) y k1) m i
def aq{R:Type}(G:Gs)(n:Nat)(s:Sg)(t:Tm)(K:Bool->Y R):Y R:=
 (G.z4t s (Tm.mk t.op t.ae t.ag t.ac)).bind λr=>
 bif !r then
  (K false)
 else
  l4 G n n s.ai.ah s.ai.ak s.ops t.op t.ae t.ag t.ac 0
   (λt4=>K t4)
   (
    bif decide (t.op=(-1))then
     (K true)
    else
     (G.z4u s (Tm.mk t.op t.ae t.ag t.ac)).bind λd=>
     K d
   )
def dl4(G:Gs)(n m:Nat):=rS [2,3,5] [.x (.p 0 0),.x (.p 1 0),.x .i] [.b [.l .s,.l (.n 5),.l (.n 8)],.b [.i,.s,.i,.l (.n 1)]] λR K i h0 d h h1 j t v=>l4 G n m h0 d h h1 j t v i (λt4=>K .ret ⟨[(4,.one (.b t4))],[]⟩) (K (.exit 0) ⟨[(2,.one (.p 0 0)),(3,.one (.p 1 0))],[.box [.l .s h0,.l (.n 5) d,.l (.n 8) h],.box [.i h1,.s j,.i t,.l (.n 1) v]]⟩)
def pc(G:Gs)(n:Nat):Pcs:=⟨λR id st K=>bif Nat.beq id 4 then dl4 G n n R st K else none,nK,nK⟩
def an:Ann:=⟨33,0,[(4,[2,3,5])],[],[4],[(6,⟨[([0,1,2,3,4,5,6,7],[],[])],[],[],[0,1],[]⟩)],[]⟩
abbrev bd:=aF Tryz.f96
abbrev q4:=aJ [1,1,0,1,0,0] bd
theorem pl4{G:Gs}(d:am (ax G))(n:Nat):∀m,al an (.loop q4) (dl4 G n m):=lpq d (pc G n) ⟨[2,3],[4],[(0,[2,3])]⟩
theorem ok{G:Gs}(d:am (ax G)){g:Q}(h:∀s t r,g s t=some r->∃n,aq (R:=AT×RV Ob) G n s t (λv=>some (.one (.b v),[]))=some (.one (.b r),[])):aj (ent g):=okQ λ_ _ _ _ _ _ _ _ _ _ hc=>okL hc λr j=>let⟨n,j⟩:=h _ _ _ j;fF d an (pc G n) Tryz.func96 j (apl [(1,4,.loop q4)] ⟨pl4 d n n,trivial⟩)
end z4o
namespace z14
structure Gs where
 z0z:z0z.Q
 z14:z14.Q
 z10:z10.Q
 z0s:z0s.Q
 z0y:z0y.Q
 z0a:z0a.Q
def ax(G:Gs):RV Ent:=[z0z.ent G.z0z,ent G.z14,z10.ent G.z10,z0s.ent G.z0s,z0y.ent G.z0y,z0a.ent G.z0a]
def b10{R:Type}(G:Gs)(n:Nat)(y A B:LI)(C:LB)(D:LS)(E:LO)(t77:LT)(L h2:Int)(P:Z)(Q:Int)(F:LT)(U:Z)(S:LD)(M H:Bool)(T d:Int)(h1:LM)(nx:Int->LM->Y R)(v:Bool->LM->Y R)(k1:LM->Y R):Y R:=bif decide (d<L)then((ix t77 d).bind λe=>(G.z14 y A B C D E h1 (Tm.mk e.op e.ae e.ag e.ac)).bind λw=>bif !w.1 then(v false w.2)else(G.z10 y A B C D E w.2 (Tm.mk e.op e.ae e.ag e.ac)).bind λI=>(G.z0s y A B C D E I.2 h2 d).bind λt=>bif !decide (I.1=t.1)then(v false t.2)else bif M then(bif decide (e.op=h2)then(v false t.2)else(G.z0y y A B C D E t.2 h2 (Tm.mk e.op e.ae e.ag e.ac)).bind λh=>bif h.1 then(v false h.2)else bif H then(bif decide (0<d)then((ix F (wr (d-1))).bind λJ=>(G.z0a (Tm.mk J.op J.ae J.ag J.ac) (Tm.mk e.op e.ae e.ag e.ac)).bind λN=>bif decide (0<N)then(v false h.2)else nx (wr (d+1)) h.2)else nx (wr (d+1)) h.2)else nx (wr (d+1)) h.2)else(G.z0y y A B C D E t.2 h2 (Tm.mk e.op e.ae e.ag e.ac)).bind λj=>bif j.1 then(v false j.2)else bif H then(bif decide (0<d)then((ix F (wr (d-1))).bind λK=>(G.z0a (Tm.mk K.op K.ae K.ag K.ac) (Tm.mk e.op e.ae e.ag e.ac)).bind λO=>bif decide (0<O)then(v false j.2)else nx (wr (d+1)) j.2)else nx (wr (d+1)) j.2)else nx (wr (d+1)) j.2)else k1 h1
def l10{R:Type}(G:Gs)(n m:Nat)(D E F:LI)(H:LB)(I:LS)(J:LO)(t77:LT)(d h2:Int)(h:Z)(j:Int)(t:LT)(K:Z)(w:LD)(y A:Bool)(B C:Int)(h1:LM)(L:Bool->LM->Y R)(k1:LM->Y R):Y R:=aS (λ(v:Int×LM) nx=>b10 G n D E F H I J t77 d h2 h j t K w y A B v.1 v.2 (λM N=>nx (M,N)) L k1) m (C,h1)
def c9{R:Type}(G:Gs)(n:Nat)(D E F:LI)(H:LB)(I:LS)(J:LO)(h1:LM)(h2:Int)(j:Z)(t:Int)(d:LT)(K:Z)(v:LD)(w y:Bool)(A:Int)(C:Bool->LM->Y R):Y R:=l10 G n n D E F H I J d (List.length d:Int) h2 j t d K v w y A 0 h1 (λt4 B=>C t4 B) (λh=>C true h)
def c6{R:Type}(G:Gs)(n:Nat)(E F H:LI)(I:LB)(J:LS)(K:LO)(h1:LM)(h2:Int)(t:Z)(v:Int)(d:LT)(L:Z)(j:LD)(h w:Bool)(y:Int)(A:Bool->LM->Y R):Y R:=bif h then(bif decide ((List.length d:Int)<2)then(A false h1)else bif decide (7<(List.length d:Int))then(A false h1)else bif !h then((ix j 0).bind λe=>bif !decide ((List.length d:Int)=(List.length e.ac:Int))then(A false h1)else c9 G n E F H I J K h1 h2 t v d L j h w y (λt4 M=>A t4 M))else c9 G n E F H I J K h1 h2 t v d L j h w y (λN B=>A N B))else bif !h then((ix j 0).bind λQ=>bif !decide ((List.length d:Int)=(List.length Q.ac:Int))then(A false h1)else c9 G n E F H I J K h1 h2 t v d L j h w y (λO C=>A O C))else c9 G n E F H I J K h1 h2 t v d L j h w y (λP D=>A P D)
def aq{R:Type}(G:Gs)(n:Nat)(y A B:LI)(C:LB)(D:LS)(v:LO)(d:LM)(t:Tm)(K:Bool->LM->Y R):Y R:=
 bif decide (t.op=(-1))then
  (
  (G.z0z y A B C D v d (Tm.mk t.op t.ae t.ag t.ac)).bind λr=>
  K r.1 r.2
  )
 else
  bif decide (t.op<0)then
   (K false d)
  else
   bif decide ((List.length v:Int)<=t.op)then
    (K false d)
   else
    bif !sEq t.ae ByteArray.empty then
     (K false d)
    else
     bif !decide (t.ag=0)then
      (K false d)
     else
      (ix v t.op).bind λh=>
      c6 G n y A B C D v d t.op t.ae t.ag t.ac h.ae h.aC h.aA h.comm h.aE
       (λw j=>K w j)
def rz(G:Gs)(n m:Nat):=rS [0,3,5,77,78,79] [.x (.p 0 0),.x (.p 2 0),.x (.p 3 0),.x (.l (.n 1)),.x .i,.x .i] [.b [.l .i,.l .i,.l .i,.l .s,.l (.n 5),.l (.n 8),.m 1],.m .i,.b [.i,.s,.i,.l (.n 1)],.b [.s,.l (.n 7),.b,.b,.i]] λR K t77 h j t v w y A B h1 h2 C D E L F H I J=>l10 G n m t v w y A B t77 h h2 C D E L F H I J j h1 (λt4 d=>K .ret ⟨[(4,.one (.b t4))],[.box [.l .i t,.l .i v,.l .i w,.l .s y,.l (.n 5) A,.l (.n 8) B,.m 1],.map .i d]⟩) (λd=>K (.exit 0) ⟨[],[.box [.l .i t,.l .i v,.l .i w,.l .s y,.l (.n 5) A,.l (.n 8) B,.m 1],.map .i d]⟩)
def dc9(G:Gs)(n:Nat):=rS [0,3,5] [.x (.p 0 0),.x (.p 2 0),.x (.p 3 0)] [.b [.l .i,.l .i,.l .i,.l .s,.l (.n 5),.l (.n 8),.m 1],.m .i,.b [.i,.s,.i,.l (.n 1)],.b [.s,.l (.n 7),.b,.b,.i]] λR K B C D E F H h1 h2 d h j I t v w y=>c9 G n B C D E F H h1 h2 d h j I t v w y (λt4 A=>K .ret ⟨[(4,.one (.b t4))],[.box [.l .i B,.l .i C,.l .i D,.l .s E,.l (.n 5) F,.l (.n 8) H,.m 1],.map .i A]⟩)
def dc6(G:Gs)(n:Nat):=rS [0,3,5] [.x (.p 0 0),.x (.p 2 0),.x (.p 3 0)] [.b [.l .i,.l .i,.l .i,.l .s,.l (.n 5),.l (.n 8),.m 1],.m .i,.b [.i,.s,.i,.l (.n 1)],.b [.s,.l (.n 7),.b,.b,.i]] λR K B C D E F H h1 h2 d h j I t v w y=>c6 G n B C D E F H h1 h2 d h j I t v w y (λt4 A=>K .ret ⟨[(4,.one (.b t4))],[.box [.l .i B,.l .i C,.l .i D,.l .s E,.l (.n 5) F,.l (.n 8) H,.m 1],.map .i A]⟩)
def pc(G:Gs)(n:Nat):Pcs:=⟨λR id st K=>bif Nat.beq id 10 then rz G n n R st K else none,λR id st K=>bif Nat.beq id 9 then dc9 G n R st K else bif Nat.beq id 6 then dc6 G n R st K else none,nK⟩
def an:Ann:=⟨137,2,[(10,[0,3,5,77,78,79])],[(9,[0,3,5]),(6,[0,3,5])],[4],[(3,⟨[([0,1,2,3,4,5,6,7,8,9,10,11,12,13,14,15,16,17,18,19,20,21,22,23],[],[])],[],[],[0,1,2],[]⟩),(5,⟨[([9,0,1,2,3,4,5,6,7,8,10],[9,10],[4])],[9,10],[],[2],[]⟩),(12,⟨[([0,1,2,3,4,5,6,7,8,9,10,11,12,13,14,15,16,17,18,19,20,21,22,23,24,25,26,27,28,29,30,31,32,33,34,35,36,37,38,39,40,41,42,43,44,45,46,47,48,49,50,51],[2,7,12,31],[])],[2,7,12,31],[],[2,3,4],[]⟩)],[]⟩
abbrev bd:=aF Tryz.f110
abbrev q10:=aJ [1,1,1,1,1,1,0,1,0,0] bd
abbrev q9:=aJ [1,1,1,1,1,1] bd
abbrev q6:=aJ [1,1,1,1] bd
theorem zg{G:Gs}(d:am (ax G))(n:Nat):∀m,al an (.loop q10) (rz G n m):=lpq d (pc G n) ⟨[],[4],[(0,[])]⟩
theorem pc9{G:Gs}(d:am (ax G)){n:Nat}:al an q9 (dc9 G n):=cpq d (pc G n) ⟨[],[4],[]⟩ (apl [(1,10,.loop q10)] ⟨zg d n n,trivial⟩)
theorem pc6{G:Gs}(d:am (ax G)){n:Nat}:al an q6 (dc6 G n):=cpq d (pc G n) ⟨[],[4],[]⟩ (apl [(0,9,q9)] ⟨pc9 d,trivial⟩)
theorem ok{G:Gs}(B:am (ax G)){g:Q}(D:∀d h v w y A C t r,g d h v w y A C t=some r->∃n,aq (R:=AT×RV Ob) G n d h v w y A C t (λE F=>some (.one (.b E),[.box [.l .i d,.l .i h,.l .i v,.l .s w,.l (.n 5) y,.l (.n 8) A,.m 1],.map .i F]))=some (.one (.b r.1),[.box [.l .i d,.l .i h,.l .i v,.l .s w,.l (.n 5) y,.l (.n 8) A,.m 1],.map .i r.2])):aj (ent g):=okQ λ_ _ _ _ _ _ _ _ _ _ _ _ _ _ hc=>okL hc λr j=>let⟨n,j⟩:=D _ _ _ _ _ _ _ _ _ j;fF B an (pc G n) Tryz.func110 j (apl [(0,6,q6)] ⟨pc6 B,trivial⟩)
end z14
namespace z0x
structure Gs where
 z0n:z0n.Q
 z0c:z0c.Q
 z14:z14.Q
def aq{R:Type}(G:Gs)(n:Nat)(j v w:LI)(y:LB)(A:LS)(B:LO)(d:LM)(t:Tm)(K:Bool->LM->Y R):Y R:=
 (G.z0n (Tm.mk t.op t.ae t.ag t.ac)).bind λr=>
 bif decide (r<=60)then
  (
  (G.z0c (Tm.mk t.op t.ae t.ag t.ac)).bind λC=>
  bif decide (C<=20)then
   (
   (G.z14 j v w y A B d (Tm.mk t.op t.ae t.ag t.ac)).bind λh=>
   K h.1 h.2
   )
  else
   K false d
  )
 else
  K false d
theorem ok{G:Gs}(C:am [z0n.ent G.z0n,z0c.ent G.z0c,z14.ent G.z14]){g:Q}(D:∀d h v w y A B t r,g d h v w y A B t=some r->∃n,aq (R:=AT×RV Ob) G n d h v w y A B t (λE F=>some (.one (.b E),[.box [.l .i d,.l .i h,.l .i v,.l .s w,.l (.n 5) y,.l (.n 8) A,.m 1],.map .i F]))=some (.one (.b r.1),[.box [.l .i d,.l .i h,.l .i v,.l .s w,.l (.n 5) y,.l (.n 8) A,.m 1],.map .i r.2])):aj (ent g):=okQ λ_ _ _ _ _ _ _ _ _ _ _ _ _ _ hc=>okL hc λr j=>let⟨_,j⟩:=D _ _ _ _ _ _ _ _ _ j;fF C ⟨18,2,[],[],[4],[],[]⟩ nP Tryz.func76 j
end z0x
end
end
section
open Classical
def jc(s:Sg)(t:Tm):Bool:=if t.op= -1 then dc t.ae&&(inN (nS s) t.ag&&decide (t.ac.length=0))else match ix s.ops t.op with
 |none=>false
 |some o=>sEq t.ae ByteArray.empty&&(decide (t.ag=0)&&(if o.aA=true then decide (2<=t.ac.length)&&decide (t.ac.length<=7)else decide (t.ac.length=(first o).ac.length)))
def Aa(s:Sg)(o:Opr)(op:Int)(p:Y Tm)(i:Int)(x:Tm):Bool:=decide (dm s x=ni s o i)&&(!(o.aA&&decide (x.op=op))&&(!jG o x&& !(o.comm&&(match p with
 |some y=>decide (0<bH y x)
 |none=>false))))
def fm(s:Sg)(o:Opr)(op:Int)(w:Tm->Bool):Y Tm->Int->RV Tm->Bool
 |_,_,[]=>true
 |p,i,x::xs=>(w x&&Aa s o op p i x)&&fm s o op w (some x) (i+1) xs
def nA(s:Sg)(w:Tm->Bool)(t:Tm):Bool:=jc s t&&(if t.op= -1 then true else match ix s.ops t.op with
 |some o=>fm s o t.op w none 0 t.ac
 |none=>false)
def Bs(s:Sg):Nat->Tm->Bool
 |0,_=>false
 |k+1,t=>nA s (Bs s k) t
def dB(s:Sg)(t:Tm):Bool:=Bs s (t.az+1) t
theorem pD{s:Sg}{o:Opr}{op:Int}{w w':Tm->Bool}:∀{xs:RV Tm}{p:Y Tm}{i:Int},(∀x∈xs,w x=w' x)->fm s o op w p i xs=fm s o op w' p i xs
 |[],_,_,_=>rfl
 | x::xs,p,i,h=>by
  unfold fm;rw[h x C3,pD λy d=>h y L5]
theorem px{s:Sg}{w w':Tm->Bool}{t:Tm}(h:∀x∈t.ac,w x=w' x):nA s w t=nA s w' t:=by
 unfold nA;split
 .rfl
 .split
  .rw[pD h]
  .rfl
theorem yq{s:Sg}:∀(k j:Nat)(t:Tm),t.az<k->t.az<j->Bs s k t=Bs s j t
 |0,_,_,h,_=>absurd h (NP _)
 |_,0,_,_,h=>absurd h (NP _)
 |k+1,j+1,t,h1,h2=>px λx hx=>yq k j x Dg Dg
theorem nL(s:Sg)(t:Tm):dB s t=nA s (dB s) t:=px λx hx=>yq _ _ x (aK hx) (NW _)
theorem ul{s:Sg}{o:Opr}{op:Int}{w:Tm->Bool}:∀{xs:RV Tm}{p:Y Tm}{i:Int},fm s o op w p i xs=true->∀x∈xs,w x=true
 |[],_,_,_,x,hx=>Q4
 | y::ys,p,i,h,x,hx=>by
  unfold fm at h;simp only[bA]at h;rcases List.mem_cons.1 hx with rfl|hx
  .exact h.1.1
  .exact ul h.2 x hx
theorem uD{s:Sg}:∀(k:Nat)(t:Tm),t.az<k->dB s t=true->Good s t
 |0,_,h,_=>absurd h (NP _)
 | k+1,t,h,d=>by
  rw[nL]at d;unfold nA jc at d;by_cases ho:t.op= -1
  .rw[N1 ho,N1 ho]at d;simp only[bA,NO]at d;obtain⟨⟨h1,h2,j⟩,_⟩:=d;have h2:=cg.1 h2;obtain⟨op,nm,v,ar⟩:=t;have:ar=[]:=nZ j;subst this;have:op= -1:=ho;subst this;exact .var h2.1 h2.2 h1
  .rw[N3 ho,N3 ho]at d;cases hx:ix s.ops t.op with
   |none=>rw[hx]at d;simp at d
   | some o=>
    rw[hx]at d;simp only[bA,NO]at d;obtain⟨⟨h1,h2,j⟩,h4⟩:=d;have h1:t.ae=ByteArray.empty:=NZ h1;have w:=ul h4;have y:∀a∈t.ac,Good s a:=λa hm=>uD k a (by have:=aK hm;omega) (w a hm);obtain⟨op,nm,v,ar⟩:=t;have:nm=ByteArray.empty:=h1;subst this;have:v=0:=h2;subst this;refine .app hx ?_ y;cases hc:o.aA with
    |true=>rw[hc,N1 rfl]at j;rw[N1 rfl];simp only[bA,NO]at j;exact j.1
    |false=>rw[hc,N3 D2]at j;rw[N3 D2];exact NZ j
theorem jA{s:Sg}{t:Tm}(h:dB s t=true):Good s t:=uD _ t (NW _) h
def iM(ac:RV Tm):Nat->Y Tm
 |0=>none
 |i+1=>ac[i]?
theorem xA{R:Type}(k:Nat){ac:RV Tm}{i:Nat}{x:Tm}(hi:i<ac.length)(hk:∀y∈ac,y.az<k)(hl:ac.length<4294967296)(c:Bool)(a b:Y R):
  (bif c then (bif decide ((0:Int)<(i:Int))then Option.bind (ix ac (wr ((i:Int)-1))) fun e=>Option.bind (bM k (Tm.mk (Tm.op e) (Tm.ae e) (Tm.ag e) (Tm.ac e)) x) fun r=>bif decide (0<r)then a else b else b)else b)=
   bif c&&(match iM ac i with
    |some y=>decide (0<bH y x)
    |none=>false)then a else b:=by
 cases c with
 |false=>rfl
 | true=>
  rw[cT,N6];cases i with
  |zero=>rfl
  | succ j=>
   obtain⟨y,d,h⟩:=bu (A1:j<ac.length);rw[dT A1,cT,aH A1,(A1:((j+1:Nat):Int)-1=(j:Int)),aZ d,bS,Tm.eta];unfold bM;rw[N1 (hk y h),bS];rw[show iM ac (j+1)=some y from d]
theorem Cw{ac:RV Tm}{i:Nat}{x:Tm}(h:ac[i]? =some x):iM ac (i+1)=some x:=h
theorem K4{s:Sg}{o:Opr}(hk:Jo s o){ac:RV Tm}(d:if o.aA=true then 2<=ac.length else ac.length=(first o).ac.length){i:Nat}(hi:i<ac.length):0<=atI o (i:Int)/\atI o (i:Int)<(first o).ac.length:=by
 unfold atI;cases h:o.aA with
 |true=>have:=hk.two (.inl h);rw[N1 rfl];omega
 |false=>rw[h,N3 D2]at d;rw[N3 D2];omega
noncomputable def gWm:Nat->RV Int->RV Int->RV Int->RV Z->RV Sb->RV Opr->Mp->Tm->Y (Bool×Mp):=λk ab _ kd nm sb ops m t=>if Alg kd nm sb ops/\ab.length=nm.length/\t.az<k then some (dB ⟨⟨nm,sb⟩,ops⟩ t,m)else none
noncomputable abbrev GW(k:Nat):z14.Gs:={z0z:=uM,z14:=gWm k,z10:=gn,z0s:=lG,z0y:=tg,z0a:=bM 4294967296}
section
variable {R : Type} {kd ab be : RV Int} {nm : RV Z} {sb : RV Sb} {ops : RV Opr} {op : Int} {o : Opr} (hA : Alg kd nm sb ops) (hab : ab.length = nm.length) (ho : ix ops op = some o)
include hA hab ho
theorem Lq(n k:Nat)(hk:k<=4294967296)(ac:RV Tm)(hx:∀x∈ac,x.az<k)(hl:ac.length<4294967296)(w:if o.aA=true then 2<=ac.length else ac.length=(first o).ac.length)(m:Mp)(d:Int)(h:Z)(t:Bool->Mp->Y R)(k1:Mp->Y R):∀f i,i<=ac.length->ac.length-i<f->
  z14.l10 (GW k) n f ab be kd nm sb ops ac (ac.length:Int) op h d ac o.ae o.aC o.aA o.comm o.aE (i:Int) m t k1=bif fm ⟨⟨nm,sb⟩,ops⟩ o op (dB ⟨⟨nm,sb⟩,ops⟩) (iM ac i) (i:Int) (ac.drop i)then k1 m else t false m:=by
 have A:=jd hA.1 (ci (xs:=ops) ho).1;intro f
 induction f with
 |zero=>exact RQ
 | succ f G=>
  intro i h1 hm;show z14.b10 (GW k) n ab be kd nm sb ops ac (ac.length:Int) op h d ac o.ae o.aC o.aA o.comm o.aE (i:Int) m (λH I=>z14.l10 (GW k) n f ab be kd nm sb ops ac (ac.length:Int) op h d ac o.ae o.aC o.aA o.comm o.aE H I t k1) t k1=_;unfold z14.b10;by_cases hi:i<ac.length
  .obtain⟨x,B,J⟩:=bu hi;have K:gWm k ab be kd nm sb ops m x=some (dB ⟨⟨nm,sb⟩,ops⟩ x,m):=N1 ⟨hA,hab,hx x J⟩;rw[bB hi,cT,aZ B,bS,Tm.eta,bg B];show Option.bind (gWm k ab be kd nm sb ops m x) _=_;rw[K,bS];unfold fm;cases L:dB ⟨⟨nm,sb⟩,ops⟩ x with
   |false=>rfl
   | true=>
    have M:=jA L;have N:gn ab be kd nm sb ops m x=some (dm ⟨⟨nm,sb⟩,ops⟩ x,m):=N1 ⟨hA,M.kn⟩;have O:lG ab be kd nm sb ops m op (i:Int)=some (ni ⟨⟨nm,sb⟩,ops⟩ o (i:Int),m):=by
     unfold lG;rw[N1 ⟨hA,o,ho,K4 A w hi⟩,ho];rfl
    have P:tg ab be kd nm sb ops m op x=some (jG o x,m):=by
     unfold tg;rw[N1 hA,ho];rfl
    have C:z14.l10 (GW k) n f ab be kd nm sb ops ac (ac.length:Int) op h d ac o.ae o.aC o.aA o.comm o.aE (wr ((i:Int)+1)) m t k1=bif fm ⟨⟨nm,sb⟩,ops⟩ o op (dB ⟨⟨nm,sb⟩,ops⟩) (some x) ((i:Int)+1) (ac.drop (i+1))then k1 m else t false m:=by
     rw[bN A1,G (i+1) hi A1,Cw B];rfl
    simp only[N5,cF];show Option.bind (gn ab be kd nm sb ops m x) _=_;rw[N,bS];show Option.bind (lG ab be kd nm sb ops m op (i:Int)) _=_;rw[O,bS];unfold Aa;by_cases D:dm ⟨⟨nm,sb⟩,ops⟩ x=ni ⟨⟨nm,sb⟩,ops⟩ o (i:Int)
    .simp only;rw[dT D,N5,cF,N6,N6]
     have tail:(Option.bind (tg ab be kd nm sb ops m op x) λj=>bif j.1 then (t false j.2)else bif o.comm then (bif decide (0<(i:Int))then (Option.bind (ix ac (wr ((i:Int)-1))) λv=>Option.bind (bM 4294967296 (Tm.mk (Tm.op v) (Tm.ae v) (Tm.ag v) (Tm.ac v)) x) λE=>bif decide (0<E)then (t false j.2)else z14.l10 (GW k) n f ab be kd nm sb ops ac (ac.length:Int) op h d ac o.ae o.aC o.aA o.comm o.aE (wr ((i:Int)+1)) j.2 t k1)else z14.l10 (GW k) n f ab be kd nm sb ops ac (ac.length:Int) op h d ac o.ae o.aC o.aA o.comm o.aE (wr ((i:Int)+1)) j.2 t k1)else z14.l10 (GW k) n f ab be kd nm sb ops ac (ac.length:Int) op h d ac o.ae o.aC o.aA o.comm o.aE (wr ((i:Int)+1)) j.2 t k1)=
       bif (!jG o x&& !(o.comm&&(match iM ac i with
        |some y=>decide (0<bH y x)
        |none=>false)))&&fm ⟨⟨nm,sb⟩,ops⟩ o op (dB ⟨⟨nm,sb⟩,ops⟩) (some x) ((i:Int)+1) (ac.drop (i+1))then k1 m else t false m:=by
      rw[P,bS];cases T:jG o x with
      |true=>rfl
      | false=>
       simp only[cF];rw[C,xA 4294967296 hi (λy Q=>by have:=hx y Q;omega) hl]
       cases (o.comm&&(match iM ac i with
        |some y=>decide (0<bH y x)
        |none=>false))<;>rfl
     cases F:o.aA with
     | false=>
      rw[cF,Bool.false_and,NR,N6];rw[F]at tail;exact tail
     | true=>
      rw[cT,N6];rw[F]at tail;by_cases S:x.op=op
      .grind
      .grind
    .grind
  .obtain rfl:i=ac.length:=A1
   exact RP
end
theorem p9{α:Type}{xs:RV α}{i:Int}(h:i<0\/(xs.length:Int)<=i):ix xs i=none:=by
 unfold ix;by_cases h0:0<=i
 .grind
 .grind
theorem KR{α:Type}{xs:RV α}{i:Int}(h0:0<=i)(h1:i<xs.length):∃x,ix xs i=some x/\x∈xs:=by
 obtain⟨x,d,h⟩:=bu (xs:=xs) (A1:i.toNat<xs.length);refine⟨x,?_,h⟩;have:=aZ d
 rwa [Int.toNat_of_nonneg h0]at this
theorem w_c9{R:Type}{kd ab be:RV Int}{nm:RV Z}{sb:RV Sb}{ops:RV Opr}{op:Int}{o:Opr}(hA:Alg kd nm sb ops)(hab:ab.length=nm.length)(ho:ix ops op=some o)(k:Nat)(hk:k<=4294967296)(ac:RV Tm)(hx:∀x∈ac,x.az<k)(hl:ac.length<4294967296)(v:if o.aA=true then 2<=ac.length else ac.length=(first o).ac.length)(m:Mp)(h:Int)(j:Z)(d:Bool->Mp->Y R):
  z14.c9 (GW k) (ac.length+1) ab be kd nm sb ops m op j h ac o.ae o.aC o.aA o.comm o.aE d=d (fm ⟨⟨nm,sb⟩,ops⟩ o op (dB ⟨⟨nm,sb⟩,ops⟩) none 0 ac) m:=by
 unfold z14.c9;have e:=Lq (R:=R) (be:=be) hA hab ho (ac.length+1) k hk ac hx hl v m h j (λt4 w=>d t4 w) (λt=>d true t) (ac.length+1) 0 A1 A1;rw[NN]at e;refine e.trans ?_;show (bif fm ⟨⟨nm,sb⟩,ops⟩ o op (dB ⟨⟨nm,sb⟩,ops⟩) none 0 ac then d true m else d false m)=_;cases fm ⟨⟨nm,sb⟩,ops⟩ o op (dB ⟨⟨nm,sb⟩,ops⟩) none 0 ac<;>rfl
theorem LJ{R:Type}{kd ab be:RV Int}{nm:RV Z}{sb:RV Sb}{ops:RV Opr}(hA:Alg kd nm sb ops)(hab:ab.length=nm.length)(k:Nat)(hk:k<4294967296)(t:Tm)(ht:t.az<k+1)(m:Mp)(K:Bool->Mp->Y R):
  z14.aq (GW k) (t.ac.length+1) ab be kd nm sb ops m t K=K (dB ⟨⟨nm,sb⟩,ops⟩ t) m:=by
 have hx:∀x∈t.ac,x.az<k:=λx hx=>Dg
 have hl:t.ac.length<4294967296:=by have:=bZ t.ac;have:=bj t;omega
 unfold z14.aq;rw[nL,Tm.eta];unfold nA jc;by_cases h1:t.op= -1
 .rw[dT h1,cT,N1 h1,N1 h1];show Option.bind (uM ab be kd nm sb ops m t) _=_;unfold uM;rw[N1 h1,bS,hab,Bool.and_true]
 .rw [decide_eq_false h1,cond_false,N3 h1,N3 h1];by_cases h2:t.op<0
  .rw[dT h2,cT,p9 (xs:=ops) (.inl h2)];rfl
  .rw [decide_eq_false h2,cond_false];by_cases h:(ops.length:Int)<=t.op
   .rw[dT h,cT,p9 (xs:=ops) (.inr h)];rfl
   .rw [decide_eq_false h,cond_false];obtain⟨o,ho,_⟩:=KR (xs:=ops) (A1:0<=t.op) (A1:t.op<ops.length);have j:=jd hA.1 (ci (xs:=ops) ho).1;rw[ho,bS];simp only;cases y:sEq t.ae ByteArray.empty with
    |false=>rfl
    | true=>
     rw[N5,cF,N6];by_cases hs:t.ag=0
     .rw[dT hs,N5,cF,N6];have c9:=λv=>w_c9 (R:=R) (be:=be) hA hab ho k A1 t.ac hx hl v m t.ag t.ae (λw d=>K w d);unfold z14.c6;cases A:o.aA with
      | true=>
       rw[cT,N1 rfl];by_cases g1:t.ac.length<2
       .grind
       .grind
      | false=>
       rw[cF,N3 D2,NR,cT,cH j.dl,bS];by_cases g1:t.ac.length=(first o).ac.length
       .grind
       .grind
     .grind
theorem pA:∀k,k<=4294967296->aj (z14.ent (gWm k))
 |0,_=>okQ (by (repeat intro h);simp[gWm]at h)
 | k+1,hk=>z14.ok (G:=GW k) ⟨lF,pA k A1,oF,rE,tB,z0b 4294967296 (N4 _),trivial⟩ fun ab be kd nm sb ops m t r h=>by
  unfold gWm at h;split at h
  .rename_i hs;cases h;exact⟨t.ac.length+1,(LJ hs.1 hs.2.1 k A1 t hs.2.2 m _).trans rfl⟩
  .cases h
def isT(s:Sg)(t:Tm):Bool:=decide (tsz t<=60)&&(decide (tdp t<=20)&&dB s t)
noncomputable def Dz:RV Int->RV Int->RV Int->RV Z->RV Sb->RV Opr->Mp->Tm->Y (Bool×Mp):=λab _ kd nm sb ops m t=>if Alg kd nm sb ops/\ab.length=nm.length/\t.az<4294967296 then some (isT ⟨⟨nm,sb⟩,ops⟩ t,m)else none
theorem AM:aj (z0x.ent Dz):=z0x.ok (G:=⟨gSz 4294967296,gDp 4294967296,gWm 4294967296⟩) ⟨z0o _ (N4 _),z0d _ (N4 _),pA _ (N4 _),trivial⟩ λab be kd nm sb ops m t r h=>by
 unfold Dz at h;split at h
 .rename_i hs;cases h;refine⟨1,?_⟩;unfold z0x.aq isT;rw[Tm.eta];have d:gSz 4294967296 t=some (tsz t:Int):=N1 hs.2.2;have j:gDp 4294967296 t=some (tdp t:Int):=N1 hs.2.2;have v:gWm 4294967296 ab be kd nm sb ops m t=some (dB ⟨⟨nm,sb⟩,ops⟩ t,m):=N1 hs;show Option.bind (gSz 4294967296 t) _=_;rw[d,bS];by_cases h1:tsz t<=60
  .grind
  .grind
 .cases h
abbrev wR:Int->Int->Int->Y Bool:=λx lo hi=>some (decide (lo<=x)&&decide (x<=hi))
theorem FI{α:Type}{xs:RV α}(hl:xs.length<4294967296)(x:Int):wR x 0 (wr ((xs.length:Int)-1))=some (inN xs.length x):=by
 rw[aH A1];unfold wR inN;by_cases h0:0<=x
 .grind
 .grind
noncomputable def pm:Sg->Tm->Y Bool:=λs t=>if bI s=true/\t.az<4294967296 then some (jc s t)else none
theorem I3{s:Sg}(h:bI s=true):s.ops.length<=14/\s.ai.ah.length<=8:=by
 unfold bI dM at h;simp only[bA,NO]at h;exact⟨h.2.1,h.1.2.1⟩
theorem Lm{R:Type}{s:Sg}(hS:bI s=true){t:Tm}(hl:t.ac.length<4294967296)(K:Bool->Y R):z4t.aq ⟨jb,wR,gAr⟩ 1 s t K=K (jc s t):=by
 obtain⟨l1,l2⟩:=I3 hS;unfold z4t.aq jc;by_cases h1:t.op= -1
 .rw [decide_eq_true h1,cond_true,N1 h1];show Option.bind (jb t.ae) _=_;unfold jb;rw[bS];cases h:dc t.ae with
  |false=>rfl
  | true=>
   rw[cT,N6];show Option.bind (wR t.ag 0 _) _=_;rw[FI A1,bS];show (bif inN (nS s) t.ag then _ else _)=_;cases inN (nS s) t.ag with
   |false=>rfl
   | true=>
    rw[cT,N6]
    congr 1
    exact decide_eq_decide.2 A1
 .rw [decide_eq_false h1,cond_false,N3 h1];show Option.bind (wR t.op 0 _) _=_;rw[FI A1,bS];cases hi:inN s.ops.length t.op with
  | false=>
   have:ix s.ops t.op=none:=p9 (by
    have:=Bool.eq_false_iff.1 hi;rw[Ne,cg]at this;omega)
   rw[this];rfl
  | true=>
   obtain⟨j,v⟩:=cg.1 hi;obtain⟨o,ho,_⟩:=KR j v;have d:=jd hS (ci (xs:=s.ops) ho).1;rw[ho,N5,cF];simp only;cases h:sEq t.ae ByteArray.empty with
   |false=>rfl
   | true=>
    rw[N5,cF,N6];by_cases hs:t.ag=0
    .rw[dT hs,N5,cF,N6,bS];cases w:o.aA with
     | true=>
      rw[N5,cF,N1 rfl,cT];show Option.bind (wR (t.ac.length:Int) 2 7) _=_;unfold wR;rw[bS];by_cases g1:2<=t.ac.length
      .grind
      .grind
     | false=>
      rw[NR,cT,N3 D2];show Option.bind (gAr o) _=_;rw[Im d.dl,bS];by_cases g1:t.ac.length=(first o).ac.length
      .grind
      .grind
    .grind
theorem EA:aj (z4t.ent pm):=z4t.ok (G:=⟨jb,wR,gAr⟩) ⟨z3j,qe,mm,trivial⟩ λs t r h=>by
 unfold pm at h;split at h
 .rename_i hs;cases h;exact⟨1,(Lm hs.1 (by have:=bZ t.ac;have:=bj t;omega) _).trans rfl⟩
 .cases h
noncomputable abbrev GR(K:Nat):z4u.Gs:={z4a:=fK,z4w:=sR,z4p:=fL,z4l:=eP K,z3b:=bM K}
def fH(s:Sg)(o:Opr)(op:Int):Y Tm->Int->RV Tm->Bool:=fm s o op λ_=>true
theorem lS{s:Sg}{o:Opr}{op:Int}{w:Tm->Bool}:∀{xs:RV Tm}{p:Y Tm}{i:Int},fm s o op w p i xs=(xs.all w&&fH s o op p i xs)
 |[],_,_=>rfl
 | x::xs,p,i=>by
  unfold fH fm;rw[lS (xs:=xs),O6];unfold fH;cases w x<;>cases Aa s o op p i x<;>cases xs.all w<;>rfl
section
variable {R : Type} {s : Sg} {op : Int} {o : Opr} (hS : bI s = true) (ho : ix s.ops op = some o)
include hS ho
theorem Iz{x:Tm}(hx:Good s x){K:Nat}(hk:x.az<K)(A B:Y R):(bif !decide (o.aE=0)then Option.bind (eP K x (uOf o)) λr=>bif r then A else B else B)=bif jG o x then A else B:=by
 unfold jG uOf;by_cases d:o.aE=0
 .grind
 .rw[dF d,N3 d,NR,cT,N6];unfold eP;rw[N1 hk,bS];have:=(A7 hS ho d hx).1;rw[decide_eq_decide.2 this]
theorem NF(K n:Nat)(ac:RV Tm)(hx:∀x∈ac,Good s x/\x.az<K)(hl:ac.length<4294967296)(i:Nat)(x:Tm)(h:ac[i]? =some x)(v:0<=atI o (i:Int)/\atI o (i:Int)<(first o).ac.length)(w:Z)(A:Int)(j:Bool->Y R)(k1:Y R):
  z4u.c11 (GR K) n (kS s) (!decide (o.aE=0)) (i:Int) (atI o (i:Int)) s.ai.ah s.ai.ak s.ops op w A ac o.ae o.aC o.aA o.comm o.aE (uOf o).op (uOf o).ae (uOf o).ag (uOf o).ac x.op x.ae x.ag x.ac j k1=bif Aa s o op (iM ac i) (i:Int) x then k1 else j false:=by
 have B:=jd hS (ci (xs:=s.ops) ho).1;obtain⟨D,F⟩:=hx x (mG h);have hi:i<ac.length:=(gI.1 h).1
 have c13:∀(j:Bool->Y R)(k1:Y R),z4u.c13 (GR K) n (kS s) (!decide (o.aE=0)) (i:Int) s.ai.ah s.ai.ak s.ops op w A ac o.ae o.aC o.aA o.comm o.aE (uOf o).op (uOf o).ae (uOf o).ag (uOf o).ac x.op x.ae x.ag x.ac j k1=bif o.comm&&(match iM ac i with
    |some y=>decide (0<bH y x)
    |none=>false)then j false else k1:=λj k1=>by
  have e:=xA (x:=x) K hi (λy G=>(hx y G).2) hl o.comm (j false) k1;unfold z4u.c13;rw[Tm.eta];exact e
 unfold z4u.c11;rw[Tm.eta,Tm.eta];show Option.bind (fL s x) _=_;have H:fL s x=some (dm s x):=N1 ⟨hS,D.kn⟩;obtain⟨I,J,a3⟩:=zN B v.1 v.2;rw[H,bS,cH B.dl,bS,I,bS,rD J a3,bS];unfold Aa;by_cases t:dm s x=ni s o (i:Int)
 .have d:dm s x=aU (kS s) (aU (first o).ac (atI o (i:Int))):=t;rw[dT d,dT t,N5,cF,N6];have un:=Iz (R:=R) hS ho D F (j false);cases E:o.aA with
  | false=>
   rw[cF,Bool.false_and,NR,N6];rw[E]at c13
   refine OI ?_ (OI (un (bif o.comm&&(match iM ac i with
    |some y=>decide (0<bH y x)
    |none=>false)then j false else k1)) ?_)
   .grind
   .grind
  | true=>
   rw[cT,N6];by_cases C:x.op=op
   .grind
   .rw[dF C,cF,NR,N6];rw[E]at c13
    refine OI ?_ (OI (un (bif o.comm&&(match iM ac i with
     |some y=>decide (0<bH y x)
     |none=>false)then j false else k1)) ?_)
    .grind
    .grind
 .have d:¬dm s x=aU (kS s) (aU (first o).ac (atI o (i:Int))):=t;rw[dF d,dF t];rfl
theorem Lx(K n:Nat)(ac:RV Tm)(hx:∀x∈ac,Good s x/\x.az<K)(hl:ac.length<4294967296)(v:if o.aA=true then 2<=ac.length else ac.length=(first o).ac.length)(d:Z)(h:Int)(j:Bool->Y R)(k1:Y R):∀f (i:Nat),i<=ac.length->ac.length-i<f->
  z4u.l5 (GR K) n f (kS s) (!decide (o.aE=0)) s.ai.ah s.ai.ak s.ops op d h ac o.ae o.aC o.aA o.comm o.aE (uOf o).op (uOf o).ae (uOf o).ag (uOf o).ac (i:Int) j k1=bif fH s o op (iM ac i) (i:Int) (ac.drop i)then k1 else j false:=by
 have w:=jd hS (ci (xs:=s.ops) ho).1;intro f
 induction f with
 |zero=>exact RQ
 | succ f A=>
  intro i h1 hm;show z4u.b5 (GR K) n (kS s) (!decide (o.aE=0)) s.ai.ah s.ai.ak s.ops op d h ac o.ae o.aC o.aA o.comm o.aE (uOf o).op (uOf o).ae (uOf o).ag (uOf o).ac (i:Int) (λB=>z4u.l5 (GR K) n f (kS s) (!decide (o.aE=0)) s.ai.ah s.ai.ak s.ops op d h ac o.ae o.aC o.aA o.comm o.aE (uOf o).op (uOf o).ae (uOf o).ag (uOf o).ac B j k1) j k1=_;unfold z4u.b5;by_cases hi:i<ac.length
  .obtain⟨x,t,C⟩:=bu hi;rw[bB hi,cT,aZ t,bS,bN A1];simp only[];rw[A (i+1) hi A1,bg t,Cw t];have y:=K4 w v hi;have c11:=NF (R:=R) hS ho K n ac hx hl i x t y d h j (bif fH s o op (some x) ((i+1:Nat):Int) (ac.drop (i+1))then k1 else j false);have e:(bif fH s o op (iM ac i) (i:Int) (x::ac.drop (i+1))then k1 else j false)=bif Aa s o op (iM ac i) (i:Int) x then (bif fH s o op (some x) ((i+1:Nat):Int) (ac.drop (i+1))then k1 else j false)else j false:=by
    conv=>lhs;unfold fH fm
    rw[N6];cases Aa s o op (iM ac i) (i:Int) x<;>rfl
   rw[e];refine OI ?_ c11;unfold atI;cases D:o.aA with
   |true=>rw[cT,N1 rfl]
   |false=>rw[cF,N3 D2]
  .obtain rfl:i=ac.length:=A1
   exact RP
end
noncomputable def jH(K:Nat):Sg->Tm->Y Bool:=λs t=>if bI s=true/\t.az<=K/\Good s t/\t.op≠ -1 then (ix s.ops t.op).map λo=>fH s o t.op none 0 t.ac else none
theorem AD(K:Nat)(hK:K<=4294967295):aj (z4u.ent (jH K)):=z4u.ok (G:=GR K) ⟨hY,uz,om,lf K A1,z3c K A1,trivial⟩ λs t r h=>by
 unfold jH at h;split at h
 .rename_i hs;obtain⟨hS,ht,w,d⟩:=hs;cases ho:ix s.ops t.op with
  |none=>rw[ho]at h;cases h
  | some o=>
   rw[ho]at h;cases h;refine⟨t.ac.length+1,?_⟩;have hl:=bZ t.ac;have y:=bj t;have j:if o.aA=true then 2<=t.ac.length else t.ac.length=(first o).ac.length:=by
    cases w with
    |var=>exact absurd rfl d
    |app v A _=>rw[show ix s.ops _=some _ from v]at ho;cases ho;exact A
   have B:fK s.ai=some (kS s):=N1 (kM hS);have C:sR s t.op=some (uOf o, !decide (o.aE=0)):=by
    unfold sR uOf;rw[N1 hS,ho];by_cases D:o.aE=0
    .grind
    .grind
   unfold z4u.aq;rw[ho,bS];show Option.bind (fK s.ai) _=_;rw[B,bS];show Option.bind (sR s t.op) _=_;rw[C,bS];have e:=Lx (R:=AT×RV Ob) hS ho K (t.ac.length+1) t.ac (λx hx=>⟨w.ac x hx,Dg⟩) A1 j t.ae t.ag (λt4=>some (AT.one (.b t4),[])) (some (AT.one (.b true),[])) (t.ac.length+1) 0 A1 A1;rw[NN]at e;refine e.trans ?_;show (bif fH s o t.op none 0 t.ac then _ else _)=some (AT.one (.b (fH s o t.op none 0 t.ac)),[]);cases fH s o t.op none 0 t.ac<;>rfl
 .cases h
noncomputable def jV(k:Nat):Sg->Tm->Y Bool:=λs t=>if bI s=true/\t.az<k then some (dB s t)else none
theorem Mv{R:Type}(K k n:Nat){s:Sg}(hS:bI s=true)(h1:Int)(d:Z)(h:Int)(ac:RV Tm)(hx:∀x∈ac,x.az<k)(hl:ac.length<4294967296)(j:Bool->Y R)(k1:Y R):∀f (i:Nat),i<=ac.length->ac.length-i<f->
  z4o.l4 ⟨pm,jV k,jH K⟩ n f s.ai.ah s.ai.ak s.ops h1 d h ac (i:Int) j k1=bif (ac.drop i).all (dB s)then k1 else j false:=by
 intro f
 induction f with
 |zero=>exact RQ
 | succ f v=>
  intro i w hm;show z4o.b4 ⟨pm,jV k,jH K⟩ n s.ai.ah s.ai.ak s.ops h1 d h ac (i:Int) (λy=>z4o.l4 ⟨pm,jV k,jH K⟩ n f s.ai.ah s.ai.ak s.ops h1 d h ac y j k1) j k1=_;unfold z4o.b4;by_cases hi:i<ac.length
  .obtain⟨x,t,A⟩:=bu hi;rw[bB hi,cT,aZ t,bS,bN A1,Tm.eta];simp only[];rw[v (i+1) hi A1,bg t,O6];show Option.bind (jV k s x) _=_;have e:jV k s x=some (dB s x):=N1 ⟨hS,hx x A⟩;rw[e,bS];cases dB s x<;>rfl
  .grind
theorem CV{s:Sg}{t:Tm}(h:jc s t=true)(j:t.ac.all (dB s)=true):(t.op= -1->t.ac=[])/\(t.op≠ -1->∃o,ix s.ops t.op=some o/\Good s t):=by
 unfold jc at h;refine⟨λho=> ?_,λho=> ?_⟩
 .grind
 .rw[N3 ho]at h;cases hx:ix s.ops t.op with
  |none=>rw[hx]at h;simp at h
  | some o=>
   rw[hx]at h;simp only[bA,NO]at h;obtain⟨h1,h2,d⟩:=h;have h1:t.ae=ByteArray.empty:=NZ h1;refine⟨o,rfl,?_⟩;have v:∀a∈t.ac,Good s a:=λa hm=>jA (aT.1 j a hm);obtain⟨op,nm,w,ar⟩:=t;have h1:nm=ByteArray.empty:=h1;have h2:w=0:=h2;subst h1 h2;refine .app hx ?_ v;cases hc:o.aA with
   |true=>rw[hc,N1 rfl]at d;rw[N1 rfl];simp only[bA,NO]at d;exact d.1
   |false=>rw[hc,N3 D2]at d;rw[N3 D2];exact NZ d
theorem rf{s:Sg}{t:Tm}(h:jc s t=true):(t.op= -1->t.ac=[])/\(t.op≠ -1->∃o,ix s.ops t.op=some o):=by
 unfold jc at h;refine⟨λho=> ?_,λho=> ?_⟩
 .grind
 .grind
theorem tp:∀k,k<=4294967295->aj (z4o.ent (jV k))
 |0,_=>okQ (by (repeat intro h);simp[jV]at h)
 | k + 1, hk=>z4o.ok (G:=⟨pm,jV k,jH k⟩) ⟨EA,tp k A1,AD k A1,trivial⟩ fun s t r h=>by
  unfold jV at h;split at h
  .rename_i hs;obtain⟨hS,ht⟩:=hs;cases h;have hl:=bZ t.ac;have w:=bj t;refine⟨t.ac.length+1,?_⟩;unfold z4o.aq;rw[nL];unfold nA;rw[Tm.eta];show Option.bind (pm s t) _=_;have y:pm s t=some (jc s t):=N1 ⟨hS,A1⟩;rw[y,bS];cases v:jc s t with
   |false=>rfl
   | true=>
    rw[N5,cF,N6];refine(Mv k k (t.ac.length+1) hS t.op t.ae t.ag t.ac (λx hx=>Dg) A1 _ _ (t.ac.length+1) 0 A1 A1).trans ?_;rw[NN];cases j:t.ac.all (dB s)with
    | false=>
     by_cases ho:t.op= -1
     .rw[(rf v).1 ho]at j;cases j
     .obtain⟨o,d⟩:=(rf v).2 ho;rw[N3 ho,d];simp only;rw[lS,j];rfl
    | true=>
     rw[cT];obtain⟨g1,A⟩:=CV v j;by_cases ho:t.op= -1
     .grind
     .obtain⟨o,d,B⟩:=A ho;rw[dF ho,cF,N3 ho,d];simp only;rw[lS,j,N6];show Option.bind (jH k s t) _=_;have C:jH k s t=some (fH s o t.op none 0 t.ac):=by
       unfold jH;rw[N1 ⟨hS,A1,B,ho⟩,d];rfl
      rw[C,bS]
  .cases h
end
end Go.Proofs.YtigoabbppmdfpaaGreat.Den

import Derived.Test.YtigoabbppmdfpaaGreatZRowPE8
namespace Go.Proofs.YtigoabbppmdfpaaGreat.Den
open Go.RowKit
set_option maxRecDepth 100000
set_option linter.unusedVariables false
noncomputable section
namespace z3o
structure Gs where
 none_:Unit
def ax(_:Gs):RV Ent:=[]
def c7{R:Type}(G:Gs)(n:Nat)(list:LB)(d:Z)(i:Int)(h0:LI)(h:Z->Y R)(k1:LB->Z->Int->LI->Y R):Y R:=(ix list i).bind λe=>(lim (List.append h0 (ofS e))).bind λzs=>bif decide (1048576<(List.length zs:Int))then(h ByteArray.empty)else k1 list d i zs
def b3{R:Type}(G:Gs)(n:Nat)(list:LB)(d:Z)(i:Int)(h0:LI)(nx:LB->Z->Int->LI->Y R)(B:Z->Y R)(k1:LI->Y R):Y R:=bif decide (i<(List.length list:Int))then(bif decide (0<i)then((lim (List.append h0 (ofS d))).bind λzs=>c7 G n list d i zs (λt4=>B t4) (λh t C w=>nx h t (wr (C+1)) w))else c7 G n list d i h0 (λy=>B y) (λj v D A=>nx j v (wr (D+1)) A))else k1 h0
def l3{R:Type}(G:Gs)(n m:Nat)(list:LB)(d:Z)(i:Int)(h0:LI)(h:Z->Y R)(k1:LI->Y R):Y R:=aS (λ(v:LB×Z×Int×LI) nx=>b3 G n v.1 v.2.1 v.2.2.1 v.2.2.2 (λj t w y=>nx (j,t,w,y)) h k1) m (list,d,i,h0)
def aq{R:Type}(G:Gs)(n:Nat)(list:LB)(d:Z)(K:Z->Y R):Y R:=
 l3 G n n list d 0 []
  (λt4=>K t4)
  (λh0=>K (sOf h0))
def dc7(G:Gs)(n:Nat):=rS [0,1,5,6] [.x (.l .s),.x .s,.x (.o 0),.x .i] [.r .u 0] λR K list d i h0=>c7 G n list d i h0 (λt4=>K .ret ⟨[(4,.one (.s t4))],[]⟩) (λlist d i h0=>K .normal ⟨[(0,.one (.l .s list)),(1,.one (.s d)),(5,.one (.o 0)),(6,.one (.i i))],[.row .u 0 h0]⟩)
def dl3(G:Gs)(n m:Nat):=rS [0,1,5,6] [.x (.l .s),.x .s,.x (.o 0),.x .i] [.r .u 0] λR K list d i h0=>l3 G n m list d i h0 (λt4=>K .ret ⟨[(4,.one (.s t4))],[]⟩) (λh0=>K (.exit 0) ⟨[(5,.one (.o 0))],[.row .u 0 h0]⟩)
def pc(G:Gs)(n:Nat):Pcs:=⟨λR id st K=>bif Nat.beq id 3 then dl3 G n n R st K else none,λR id st K=>bif Nat.beq id 7 then dc7 G n R st K else none,nK⟩
def an:Ann:=⟨30,0,[(3,[0,1,5,6])],[(7,[0,1,5,6])],[4],[],[]⟩
abbrev bd:=aF Tryz.f65
abbrev q7:=aJ [1,1,0,1,0,0,1,0,0,1] bd
abbrev q3:=aJ [1,1,0,1,0,0] bd
theorem pc7{G:Gs}(d:am (ax G)){n:Nat}:al an q7 (dc7 G n):=cpq d (pc G n) ⟨[0,1,5,6],[4],[(0,[5]),(1,[0,1,5,6])]⟩
theorem pl3{G:Gs}(d:am (ax G))(n:Nat):∀m,al an (.loop q3) (dl3 G n m):=lpq d (pc G n) ⟨[5],[4],[(0,[5])]⟩ (apl [(0,7,q7)] ⟨pc7 d,trivial⟩)
theorem ok{G:Gs}(h:am (ax G)){g:Q}(t:∀list d r,g list d=some r->∃n,aq (R:=AT×RV Ob) G n list d (λv=>some (.one (.s v),[]))=some (.one (.s r),[])):aj (ent g):=okQ λ_ _ _ _ _ hc=>okL hc λr j=>let⟨n,j⟩:=t _ _ _ j;fF h an (pc G n) Tryz.func65 j (apl [(1,3,.loop q3)] ⟨pl3 h n n,trivial⟩)
end z3o
namespace z4z
structure Gs where
 z4z:z4z.Q
 z3o:z3o.Q
def ax(G:Gs):RV Ent:=[ent G.z4z,z3o.ent G.z3o]
def b7{R:Type}(G:Gs)(n:Nat)(h0:LB)(j:LS)(t:LO)(h1:Int)(w:Z)(y:Int)(d:LT)(i:Int)(h2:LB)(nx:Int->LB->Y R)(A:LB->Y R):Y R:=bif decide (i<(List.length d:Int))then((ix d i).bind λh=>(G.z4z (Sg.mk (So.mk h0 j) t) (Tm.mk h.op h.ae h.ag h.ac)).bind λB=>(lim (h2++[B])).bind λv=>nx (wr (i+1)) v)else A h2
def l7{R:Type}(G:Gs)(n m:Nat)(h0:LB)(d:LS)(h:LO)(h1:Int)(j:Z)(t:Int)(w:LT)(i:Int)(h2:LB)(y:LB->Y R):Y R:=aS (λ(v:Int×LB) nx=>b7 G n h0 d h h1 j t w v.1 v.2 (λA B=>nx (A,B)) y) m (i,h2)
def aq{R:Type}(G:Gs)(n:Nat)(s:Sg)(t:Tm)(K:Z->Y R):Y R:=
 bif decide (t.op=(-1))then
  (
  (dj t.ae (ByteArray.mk #[58])).bind λq2=>
  (ix s.ai.ah t.ag).bind λh=>
  (dj q2 h).bind λq4=>
  K q4
  )
 else
  bif decide ((List.length t.ac:Int)=0)then
   (
   (ix s.ops t.op).bind λj=>
   K j.ae
   )
  else
   l7 G n n s.ai.ah s.ai.ak s.ops t.op t.ae t.ag t.ac 0 []
    (fun d=>
     (ix s.ops t.op).bind λv=>
     (dj v.ae (ByteArray.mk #[40])).bind λq6=>
     (G.z3o d (ByteArray.mk #[44,32])).bind λw=>
     (dj q6 w).bind λq8=>
     (dj q8 (ByteArray.mk #[41])).bind λq10=>
     K q10
    )
def dl7(G:Gs)(n m:Nat):=rS [2,3,5,6] [.x (.p 0 0),.x (.p 1 0),.x (.o 2),.x .i] [.b [.l .s,.l (.n 5),.l (.n 8)],.b [.i,.s,.i,.l (.n 1)],.r .s 0] λR K i h0 d h h1 j t v h2=>l7 G n m h0 d h h1 j t v i h2 (λw=>K (.exit 0) ⟨[(2,.one (.p 0 0)),(3,.one (.p 1 0)),(5,.one (.o 2))],[.box [.l .s h0,.l (.n 5) d,.l (.n 8) h],.box [.i h1,.s j,.i t,.l (.n 1) v],.row .s 0 w]⟩)
def pc(G:Gs)(n:Nat):Pcs:=⟨λR id st K=>bif Nat.beq id 7 then dl7 G n n R st K else none,nK,nK⟩
def an:Ann:=⟨62,0,[(7,[2,3,5,6])],[],[4],[(2,⟨[([0,1,2,3,4,5,6,7,8,9,10,11],[],[])],[],[],[0,1],[]⟩),(9,⟨[([0,1,2,3,4,5,6,7,8,9,10],[9],[])],[9],[],[0,1],[]⟩),(10,⟨[([0,1,2,3,4,5,6,7,8,9,10,11,12],[],[])],[],[],[0,1,2],[]⟩)],[]⟩
abbrev bd:=aF Tryz.f37
abbrev q7:=aJ [1,1,1,1,0,1,0,0] bd
theorem pl7{G:Gs}(d:am (ax G))(n:Nat):∀m,al an (.loop q7) (dl7 G n m):=lpq d (pc G n) ⟨[2,3,5],[4],[(0,[2,3,5])]⟩
theorem ok{G:Gs}(d:am (ax G)){g:Q}(h:∀s t r,g s t=some r->∃n,aq (R:=AT×RV Ob) G n s t (λv=>some (.one (.s v),[]))=some (.one (.s r),[])):aj (ent g):=okQ λ_ _ _ _ _ _ _ _ _ _ hc=>okL hc λr j=>let⟨n,j⟩:=h _ _ _ j;fF d an (pc G n) Tryz.func37 j (apl [(1,7,.loop q7)] ⟨pl7 d n n,trivial⟩)
end z4z
namespace z3f
structure Gs where
 z3g:z3g.Q
 z4z:z4z.Q
def ax(G:Gs):RV Ent:=[z3g.ent G.z3g,z4z.ent G.z4z]
def c10{R:Type}(G:Gs)(n:Nat)(out:Z)(i:Int)(word:Z)(h0:LB)(d:LS)(h:LO)(h1:Int)(w:Z)(y:Int)(A:LT)(B:Int)(C:Z)(D:Int)(E:LT)(j:LK)(F:Z->Y R):Y R:=(dj out word).bind λq2=>(ix j i).bind λt=>(G.z4z (Sg.mk (So.mk h0 d) h) (Tm.mk t.left.op t.left.ae t.left.ag t.left.ac)).bind λH=>(dj q2 H).bind λq4=>(dj q4 (ByteArray.mk #[32,61,32])).bind λq6=>(ix j i).bind λv=>(G.z4z (Sg.mk (So.mk h0 d) h) (Tm.mk v.right.op v.right.ae v.right.ag v.right.ac)).bind λI=>(dj q6 I).bind λq8=>F q8
def b5{R:Type}(G:Gs)(n:Nat)(h0:LB)(j:LS)(t:LO)(h1:Int)(v:Z)(w:Int)(y:LT)(A:Int)(B:Z)(C:Int)(D:LT)(d:LK)(out:Z)(i:Int)(nx:Z->Int->Y R)(F:Z->Y R):Y R:=bif decide (i<(List.length d:Int))then(bif decide (0<i)then(c10 G n out i (ByteArray.mk #[32,97,110,100,32]) h0 j t h1 v w y A B C D d (λE=>nx E (wr (i+1))))else c10 G n out i (ByteArray.mk #[32,105,102,32]) h0 j t h1 v w y A B C D d (λh=>nx h (wr (i+1))))else F out
def l5{R:Type}(G:Gs)(n m:Nat)(h0:LB)(d:LS)(h:LO)(h1:Int)(j:Z)(t:Int)(w:LT)(y:Int)(A:Z)(B:Int)(C:LT)(D:LK)(out:Z)(i:Int)(E:Z->Y R):Y R:=aS (λ(v:Z×Int) nx=>b5 G n h0 d h h1 j t w y A B C D v.1 v.2 (λF H=>nx (F,H)) E) m (out,i)
def aq{R:Type}(G:Gs)(n:Nat)(s:Sg)(e:Eqn)(K:Z->Y R):Y R:=
 (G.z3g s (Eqn.mk (Tm.mk e.left.op e.left.ae e.left.ag e.left.ac) (Tm.mk e.right.op e.right.ae e.right.ag e.right.ac) e.aM)).bind λr=>
 bif !r then
  (K ByteArray.empty)
 else
  (G.z4z s (Tm.mk e.left.op e.left.ae e.left.ag e.left.ac)).bind λh=>
  (dj h (ByteArray.mk #[32,61,32])).bind λq2=>
  (G.z4z s (Tm.mk e.right.op e.right.ae e.right.ag e.right.ac)).bind λj=>
  (dj q2 j).bind λq4=>
  l5 G n n s.ai.ah s.ai.ak s.ops e.left.op e.left.ae e.left.ag e.left.ac e.right.op e.right.ae e.right.ag e.right.ac e.aM q4 0
   (λd=>K d)
def xS(G:Gs)(n:Nat):=rS [2,3,5,6,7] [.x (.p 0 0),.x (.p 1 0),.x .s,.x .i,.x .s] [.b [.l .s,.l (.n 5),.l (.n 8)],.b [.i,.s,.i,.l (.n 1),.i,.s,.i,.l (.n 1),.l (.n 13)]] λR K out i word h0 d h h1 j t v w y A B C=>c10 G n out i word h0 d h h1 j t v w y A B C (λD=>K .normal ⟨[(2,.one (.p 0 0)),(3,.one (.p 1 0)),(5,.one (.s D)),(6,.one (.i i))],[.box [.l .s h0,.l (.n 5) d,.l (.n 8) h],.box [.i h1,.s j,.i t,.l (.n 1) v,.i w,.s y,.i A,.l (.n 1) B,.l (.n 13) C]]⟩)
def dl5(G:Gs)(n m:Nat):=rS [2,3,5,6] [.x (.p 0 0),.x (.p 1 0),.x .s,.x .i] [.b [.l .s,.l (.n 5),.l (.n 8)],.b [.i,.s,.i,.l (.n 1),.i,.s,.i,.l (.n 1),.l (.n 13)]] λR K out i h0 h j h1 t v w y A B C D=>l5 G n m h0 h j h1 t v w y A B C D out i (λd=>K (.exit 0) ⟨[(5,.one (.s d))],[]⟩)
def pc(G:Gs)(n:Nat):Pcs:=⟨λR id st K=>bif Nat.beq id 5 then dl5 G n n R st K else none,λR id st K=>bif Nat.beq id 10 then xS G n R st K else none,nK⟩
def an:Ann:=⟨54,0,[(5,[2,3,5,6])],[(10,[2,3,5,6,7])],[4],[(3,⟨[([0,1,2,3,4,5,6,7,8,9,10],[],[])],[],[],[0,1],[]⟩),(10,⟨[([0,1,2,3,4,5,6,7,8,9,10,11,12,13,14,15,16,17,18,19,20,21,22],[],[])],[],[],[0,1],[]⟩)],[]⟩
abbrev bd:=aF Tryz.f17
abbrev q10:=aJ [1,1,1,0,1,0,0,1,0,0,1,1] bd
abbrev q5:=aJ [1,1,1,0,1,0,0] bd
theorem Hs{G:Gs}(d:am (ax G)){n:Nat}:al an q10 (xS G n):=cpq d (pc G n) ⟨[2,3,5,6],[4],[(0,[5]),(1,[2,3,5,6])]⟩
theorem pl5{G:Gs}(d:am (ax G))(n:Nat):∀m,al an (.loop q5) (dl5 G n m):=lpq d (pc G n) ⟨[5],[4],[(0,[5])]⟩ (apl [(0,10,q10)] ⟨Hs d,trivial⟩)
theorem ok{G:Gs}(d:am (ax G)){g:Q}(h:∀s e r,g s e=some r->∃n,aq (R:=AT×RV Ob) G n s e (λt=>some (.one (.s t),[]))=some (.one (.s r),[])):aj (ent g):=okQ λ_ _ _ _ _ _ _ _ _ _ _ _ _ _ _ hc=>okL hc λr j=>let⟨n,j⟩:=h _ _ _ j;fF d an (pc G n) Tryz.func17 j (apl [(1,5,.loop q5)] ⟨pl5 d n n,trivial⟩)
end z3f
namespace z40
structure Gs where
 none_:Unit
def ax(_:Gs):RV Ent:=[]
def b2{R:Type}(G:Gs)(n:Nat)(s d:Z)(i:Int)(nx:Int->Y R)(h:Z->Z->Bool->Y R)(k1:Y R):Y R:=bif decide ((wr (i+(ByteArray.size d:Int)))<=(ByteArray.size s:Int))then((oD s i (wr (i+(ByteArray.size d:Int)))).bind λq=>bif sEq q d then((oD s 0 i).bind λq3=>(oD s (wr (i+(ByteArray.size d:Int))) (ByteArray.size s:Int)).bind λq5=>h q3 q5 true)else nx (wr (i+1)))else k1
def l2{R:Type}(G:Gs)(n m:Nat)(s d:Z)(i:Int)(h:Z->Z->Bool->Y R)(k1:Y R):Y R:=aS (λ(v:Int) nx=>b2 G n s d v (λj=>nx j) h k1) m i
def aq{R:Type}(G:Gs)(n:Nat)(s d:Z)(K:Z->Z->Bool->Y R):Y R:=
 l2 G n n s d 0
  (λt4 t5 h=>K t4 t5 h)
  (K s ByteArray.empty false)
def dl2(G:Gs)(n m:Nat):=rS [0,1,7] [.x .s,.x .s,.x .i] [] λR K s d i=>l2 G n m s d i (λt4 t5 h=>K .ret ⟨[(4,.one (.s t4)),(5,.one (.s t5)),(6,.one (.b h))],[]⟩) (K (.exit 0) ⟨[(0,.one (.s s))],[]⟩)
def pc(G:Gs)(n:Nat):Pcs:=⟨λR id st K=>bif Nat.beq id 2 then dl2 G n n R st K else none,nK,nK⟩
def an:Ann:=⟨36,0,[(2,[0,1,7])],[],[4,5,6],[(5,⟨[([0,1,2,3,4,5,6,7,8,9,10,11],[],[])],[],[],[],[]⟩)],[]⟩
abbrev bd:=aF Tryz.f15
abbrev q2:=aJ [1,0,1,0,0] bd
theorem pl2{G:Gs}(d:am (ax G))(n:Nat):∀m,al an (.loop q2) (dl2 G n m):=lpq d (pc G n) ⟨[0],[4,5,6],[(0,[0])]⟩
theorem ok{G:Gs}(h:am (ax G)){g:Q}(t:∀s d r,g s d=some r->∃n,aq (R:=AT×RV Ob) G n s d (λv w y=>some (.tup [.one (.s v),.one (.s w),.one (.b y)],[]))=some (.tup [.one (.s r.1),.one (.s r.2.1),.one (.b r.2.2)],[])):aj (ent g):=okQ λ_ _ _ _ _ hc=>okL hc λr j=>let⟨n,j⟩:=t _ _ _ j;fF h an (pc G n) Tryz.func15 j (apl [(1,2,.loop q2)] ⟨pl2 h n n,trivial⟩)
end z40
namespace z41
structure Gs where
 z40:z40.Q
 z3s:z3s.Q
def aq{R:Type}(G:Gs)(n:Nat)(s:Sg)(text:Z)(K:Tm->Tm->Bool->Y R):Y R:=
 (G.z40 text (ByteArray.mk #[32,61,32])).bind λr=>
 (G.z3s s r.1).bind λd=>
 (G.z3s s r.2.1).bind λh=>
 bif r.2.2 then
  (
  bif d.2 then
   (K (Tm.mk d.1.op d.1.ae d.1.ag d.1.ac) (Tm.mk h.1.op h.1.ae h.1.ag h.1.ac) h.2)
  else
   K (Tm.mk d.1.op d.1.ae d.1.ag d.1.ac) (Tm.mk h.1.op h.1.ae h.1.ag h.1.ac) false
  )
 else
  K (Tm.mk d.1.op d.1.ae d.1.ag d.1.ac) (Tm.mk h.1.op h.1.ae h.1.ag h.1.ac) false
theorem ok{G:Gs}(t:am [z40.ent G.z40,z3s.ent G.z3s]){g:Q}(v:∀s text r,g s text=some r->∃n,aq (R:=AT×RV Ob) G n s text (λd h w=>some (.tup [.agg [.i d.op,.s d.ae,.i d.ag,.l (.n 1) d.ac],.agg [.i h.op,.s h.ae,.i h.ag,.l (.n 1) h.ac],.one (.b w)],[]))=some (.tup [.agg [.i r.1.op,.s r.1.ae,.i r.1.ag,.l (.n 1) r.1.ac],.agg [.i r.2.1.op,.s r.2.1.ae,.i r.2.1.ag,.l (.n 1) r.2.1.ac],.one (.b r.2.2)],[])):aj (ent g):=okQ λ_ _ _ _ _ _ _ hc=>okL hc λr j=>let⟨_,j⟩:=v _ _ _ j;fF t ⟨41,0,[],[],[4,5,6],[(4,⟨[([0,2,3,4,5,6,9,1,10,7,8,11],[9,10],[])],[9,10],[],[0,3,4],[]⟩)],[]⟩ nP Tryz.func16 j
end z41
namespace z3q
structure Gs where
 z40:z40.Q
 z41:z41.Q
 z3f:z3f.Q
def ax(G:Gs):RV Ent:=[z40.ent G.z40,z41.ent G.z41,z3f.ent G.z3f]
def b4{R:Type}(G:Gs)(n:Nat)(text:Z)(h0:LB)(t:LS)(v:LO)(h1:Int)(y:Z)(A B:Int)(C:Z)(D:Int)(h2 M:LT)(h4:LK)(N:Int)(E:Z)(F:Int)(H:LT)(I:Int)(J:Z)(K:Int)(L:LT)(rest:Z)(d ok:Bool)(j:LK)(nx:Z->Bool->Bool->LK->Y R)(w:Bool->Bool->LK->Y R):Y R:=bif d then(bif ok then(bif decide ((List.length j:Int)<3)then((G.z40 rest (ByteArray.mk #[32,97,110,100,32])).bind λr=>(G.z41 (Sg.mk (So.mk h0 t) v) r.1).bind λh=>(lim (j++[(Cnd.mk (Tm.mk h.1.op h.1.ae h.1.ag h.1.ac) (Tm.mk h.2.1.op h.2.1.ae h.2.1.ag h.2.1.ac))])).bind λzs=>nx r.2.1 r.2.2 h.2.2 zs)else w d ok j)else w d ok j)else w d ok j
def l4{R:Type}(G:Gs)(n m:Nat)(text:Z)(h0:LB)(h:LS)(j:LO)(h1:Int)(t:Z)(w y:Int)(A:Z)(B:Int)(h2 K:LT)(h4:LK)(L:Int)(C:Z)(D:Int)(E:LT)(F:Int)(H:Z)(I:Int)(J:LT)(rest:Z)(d ok:Bool)(M:LK)(N:Bool->Bool->LK->Y R):Y R:=aS (λ(v:Z×Bool×Bool×LK) nx=>b4 G n text h0 h j h1 t w y A B h2 K h4 L C D E F H I J v.1 v.2.1 v.2.2.1 v.2.2.2 (λO P Q S=>nx (O,P,Q,S)) N) m (rest,d,ok,M)
def aq{R:Type}(G:Gs)(n:Nat)(s:Sg)(text:Z)(K:Eqn->Bool->Y R):Y R:=
 (G.z40 text (ByteArray.mk #[32,105,102,32])).bind λr=>
 (G.z41 s r.1).bind λd=>
 l4 G n n text s.ai.ah s.ai.ak s.ops 0 ByteArray.empty 0 0 ByteArray.empty 0 [] [] [] d.1.op d.1.ae d.1.ag d.1.ac d.2.1.op d.2.1.ae d.2.1.ag d.2.1.ac r.2.1 r.2.2 d.2.2 []
  (fun h t j=>
   bif !t then
    (K (Eqn.mk (Tm.mk 0 ByteArray.empty 0 []) (Tm.mk 0 ByteArray.empty 0 []) []) false)
   else
    bif h then
     (K (Eqn.mk (Tm.mk 0 ByteArray.empty 0 []) (Tm.mk 0 ByteArray.empty 0 []) []) false)
    else
     (G.z3f s (Eqn.mk (Tm.mk d.1.op d.1.ae d.1.ag d.1.ac) (Tm.mk d.2.1.op d.2.1.ae d.2.1.ag d.2.1.ac) j)).bind λv=>
     bif !sEq v text then
      (K (Eqn.mk (Tm.mk 0 ByteArray.empty 0 []) (Tm.mk 0 ByteArray.empty 0 []) []) false)
     else
      K (Eqn.mk (Tm.mk d.1.op d.1.ae d.1.ag d.1.ac) (Tm.mk d.2.1.op d.2.1.ae d.2.1.ag d.2.1.ac) j) true
  )
def dl4(G:Gs)(n m:Nat):=rS [1,2,4,7,8,11,12] [.x .s,.x (.p 0 0),.x (.p 1 0),.x .s,.x .b,.x .b,.x (.p 5 0)] [.b [.l .s,.l (.n 5),.l (.n 8)],.b [.i,.s,.i,.o 2,.i,.s,.i,.o 3,.o 4],.r (.n 1) 0,.r (.n 1) 0,.r (.n 13) 0,.b [.i,.s,.i,.l (.n 1),.i,.s,.i,.l (.n 1),.o 6],.r (.n 13) 0] λR K text rest h ok h0 j t h1 v w y A B h2 N h4 O C D E F H I J P=>l4 G n m text h0 j t h1 v w y A B h2 N h4 O C D E F H I J rest h ok P (λd L M=>K (.exit 0) ⟨[(1,.one (.s text)),(2,.one (.p 0 0)),(4,.one (.p 1 0)),(8,.one (.b d)),(11,.one (.b L)),(12,.one (.p 5 0))],[.box [.l .s h0,.l (.n 5) j,.l (.n 8) t],.box [.i h1,.s v,.i w,.o 2,.i y,.s A,.i B,.o 3,.o 4],.row (.n 1) 0 h2,.row (.n 1) 0 N,.row (.n 13) 0 h4,.box [.i O,.s C,.i D,.l (.n 1) E,.i F,.s H,.i I,.l (.n 1) J,.o 6],.row (.n 13) 0 M]⟩)
def pc(G:Gs)(n:Nat):Pcs:=⟨λR id st K=>bif Nat.beq id 4 then dl4 G n n R st K else none,nK,nK⟩
def an:Ann:=⟨83,0,[(4,[1,2,4,7,8,11,12])],[],[4,5],[],[]⟩
abbrev bd:=aF Tryz.f5
abbrev q4:=aJ [1,1,1,1,0,0,0] bd
theorem pl4{G:Gs}(d:am (ax G))(n:Nat):∀m,al an (.loop q4) (dl4 G n m):=lpq d (pc G n) ⟨[1,2,4,8,11,12],[4,5],[(0,[1,2,4,8,11,12])]⟩
theorem ok{G:Gs}(h:am (ax G)){g:Q}(t:∀s text r,g s text=some r->∃n,aq (R:=AT×RV Ob) G n s text (λd v=>some (.tup [.agg [.i d.left.op,.s d.left.ae,.i d.left.ag,.l (.n 1) d.left.ac,.i d.right.op,.s d.right.ae,.i d.right.ag,.l (.n 1) d.right.ac,.l (.n 13) d.aM],.one (.b v)],[]))=some (.tup [.agg [.i r.1.left.op,.s r.1.left.ae,.i r.1.left.ag,.l (.n 1) r.1.left.ac,.i r.1.right.op,.s r.1.right.ae,.i r.1.right.ag,.l (.n 1) r.1.right.ac,.l (.n 13) r.1.aM],.one (.b r.2)],[])):aj (ent g):=okQ λ_ _ _ _ _ _ _ hc=>okL hc λr j=>let⟨n,j⟩:=t _ _ _ j;fF h an (pc G n) Tryz.func5 j (apl [(1,4,.loop q4)] ⟨pl4 h n n,trivial⟩)
end z3q
end
end Go.Proofs.YtigoabbppmdfpaaGreat.Den

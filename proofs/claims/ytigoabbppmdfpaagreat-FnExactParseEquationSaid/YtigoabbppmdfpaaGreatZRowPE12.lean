import Derived.Test.YtigoabbppmdfpaaGreatZRowPE8
namespace Go.Proofs.YtigoabbppmdfpaaGreat.Den
open Go.RowKit
set_option maxRecDepth 100000
set_option linter.unusedVariables false
noncomputable section
namespace z44
structure Gs where
 none_:Unit
def aq{R:Type}(G:Gs)(n:Nat)(a b:Int)(K:Int->Y R):Y R:=
 bif decide (b<a)then
  (K a)
 else
  K b
theorem ok{G:Gs}(d:am []){g:Q}(h:∀a b r,g a b=some r->∃n,aq (R:=AT×RV Ob) G n a b (λt=>some (.one (.i t),[]))=some (.one (.i r),[])):aj (ent g):=okQ λ_ _ _ _ _ hc=>okL hc λr j=>let⟨_,j⟩:=h _ _ _ j;fF d ⟨10,0,[],[],[4],[],[]⟩ nP Tryz.func93 j
end z44
namespace z4m
structure Gs where
 none_:Unit
def aq{R:Type}(G:Gs)(n:Nat)(ae:Z)(ag:Int)(K:Tm->Y R):Y R:=
 K (Tm.mk (-1) ae ag [])
theorem ok{G:Gs}(h:am []){g:Q}(t:∀ae ag r,g ae ag=some r->∃n,aq (R:=AT×RV Ob) G n ae ag (λd=>some (.agg [.i d.op,.s d.ae,.i d.ag,.l (.n 1) d.ac],[]))=some (.agg [.i r.op,.s r.ae,.i r.ag,.l (.n 1) r.ac],[])):aj (ent g):=okQ λ_ _ _ _ _ hc=>okL hc λr j=>let⟨_,j⟩:=t _ _ _ j;fF h ⟨8,0,[],[],[4],[],[]⟩ nP Tryz.func92 j
end z4m
namespace z3b
structure Gs where
 z3b:z3b.Q
def ax(G:Gs):RV Ent:=[ent G.z3b]
def b14{R:Type}(G:Gs)(n:Nat)(h0:Int)(w:Z)(y:Int)(d:LT)(h1:Int)(A:Z)(B:Int)(h:LT)(i:Int)(nx C:Int->Y R)(k1:Y R):Y R:=bif decide (i<(List.length d:Int))then(bif decide (i<(List.length h:Int))then((ix d i).bind λj=>(ix h i).bind λt=>(G.z3b (Tm.mk j.op j.ae j.ag j.ac) (Tm.mk t.op t.ae t.ag t.ac)).bind λv=>bif !decide (v=0)then(C v)else nx (wr (i+1)))else k1)else k1
def l14{R:Type}(G:Gs)(n m:Nat)(h0:Int)(d:Z)(h:Int)(j:LT)(h1:Int)(t:Z)(w:Int)(y:LT)(i:Int)(A:Int->Y R)(k1:Y R):Y R:=aS (λ(v:Int) nx=>b14 G n h0 d h j h1 t w y v (λB=>nx B) A k1) m i
def aq{R:Type}(G:Gs)(n:Nat)(a b:Tm)(K:Int->Y R):Y R:=
 bif !decide (a.op=b.op)then
  (
  bif decide (a.op<b.op)then
   (K (-1))
  else
   K 1
  )
 else
  bif !sEq a.ae b.ae then
   (
   bif Abs.eu a.ae b.ae then
    (K (-1))
   else
    K 1
   )
  else
   bif !decide (a.ag=b.ag)then
    (
    bif decide (a.ag<b.ag)then
     (K (-1))
    else
     K 1
    )
   else
    l14 G n n a.op a.ae a.ag a.ac b.op b.ae b.ag b.ac 0
     (λt4=>K t4)
     (
      bif decide ((List.length a.ac:Int)<(List.length b.ac:Int))then
       (K (-1))
      else
       bif decide ((List.length b.ac:Int)<(List.length a.ac:Int))then
        (K 1)
       else
        K 0
     )
def FQ(G:Gs)(n m:Nat):=rS [2,3,5] [.x (.p 0 0),.x (.p 1 0),.x .i] [.b [.i,.s,.i,.l (.n 1)],.b [.i,.s,.i,.l (.n 1)]] λR K i h0 d h j h1 t v w=>l14 G n m h0 d h j h1 t v w i (λt4=>K .ret ⟨[(4,.one (.i t4))],[]⟩) (K (.exit 0) ⟨[(2,.one (.p 0 0)),(3,.one (.p 1 0))],[.box [.i h0,.s d,.i h,.l (.n 1) j],.box [.i h1,.s t,.i v,.l (.n 1) w]]⟩)
def pc(G:Gs)(n:Nat):Pcs:=⟨λR id st K=>bif Nat.beq id 14 then FQ G n n R st K else none,nK,nK⟩
def an:Ann:=⟨79,0,[(14,[2,3,5])],[],[4],[(16,⟨[([0,1,2,3,4,5,6,7,8,9,10,11],[],[])],[],[],[0,1],[]⟩)],[]⟩
abbrev bd:=aF Tryz.f134
abbrev q14:=aJ [1,1,1,1,0,1,0,0] bd
theorem MT{G:Gs}(d:am (ax G))(n:Nat):∀m,al an (.loop q14) (FQ G n m):=lpq d (pc G n) ⟨[2,3],[4],[(0,[2,3])]⟩
theorem ok{G:Gs}(d:am (ax G)){g:Q}(h:∀a b r,g a b=some r->∃n,aq (R:=AT×RV Ob) G n a b (λt=>some (.one (.i t),[]))=some (.one (.i r),[])):aj (ent g):=okQ λ_ _ _ _ _ _ _ _ _ _ _ hc=>okL hc λr j=>let⟨n,j⟩:=h _ _ _ j;fF d an (pc G n) Tryz.func134 j (apl [(1,14,.loop q14)] ⟨MT d n n,trivial⟩)
end z3b
namespace z4l
structure Gs where
 z3b:z3b.Q
def aq{R:Type}(G:Gs)(n:Nat)(a b:Tm)(K:Bool->Y R):Y R:=
 (G.z3b (Tm.mk a.op a.ae a.ag a.ac) (Tm.mk b.op b.ae b.ag b.ac)).bind λr=>
 K (decide (r=0))
theorem ok{G:Gs}(d:am [z3b.ent G.z3b]){g:Q}(h:∀a b r,g a b=some r->∃n,aq (R:=AT×RV Ob) G n a b (λt=>some (.one (.b t),[]))=some (.one (.b r),[])):aj (ent g):=okQ λ_ _ _ _ _ _ _ _ _ _ _ hc=>okL hc λr j=>let⟨_,j⟩:=h _ _ _ j;fF d ⟨9,0,[],[],[4],[],[]⟩ nP Tryz.func99 j
end z4l
namespace z4i
structure Gs where
 z4i:z4i.Q
def ax(G:Gs):RV Ent:=[ent G.z4i]
def b3{R:Type}(G:Gs)(n:Nat)(h0:Int)(v:Z)(w:Int)(d:LT)(h1:Int)(y:Z)(A:Int)(h2:LT)(E:Int)(B:Z)(C i:Int)(h4:LT)(nx:Int->LT->Y R)(D:LT->Y R):Y R:=bif decide (i<(List.length d:Int))then((ix d i).bind λh=>(G.z4i (Tm.mk h.op h.ae h.ag h.ac)).bind λj=>(lim (h4++[(Tm.mk j.op j.ae j.ag j.ac)])).bind λt=>nx (wr (i+1)) t)else D h4
def l3{R:Type}(G:Gs)(n m:Nat)(h0:Int)(d:Z)(h:Int)(j:LT)(h1:Int)(t:Z)(w:Int)(h2:LT)(B:Int)(y:Z)(A i:Int)(h4:LT)(C:LT->Y R):Y R:=aS (λ(v:Int×LT) nx=>b3 G n h0 d h j h1 t w h2 B y A v.1 v.2 (λD E=>nx (D,E)) C) m (i,h4)
def aq{R:Type}(G:Gs)(n:Nat)(t:Tm)(K:Tm->Y R):Y R:=
 l3 G n n t.op t.ae t.ag t.ac 0 ByteArray.empty 0 [] t.op t.ae t.ag 0 []
  (λd=>K (Tm.mk t.op t.ae t.ag d))
def dl3(G:Gs)(n m:Nat):=rS [1,2,3,4] [.x (.p 0 0),.x (.p 1 0),.x (.p 3 0),.x .i] [.b [.i,.s,.i,.l (.n 1)],.b [.i,.s,.i,.o 2],.r (.n 1) 0,.b [.i,.s,.i,.o 4],.r (.n 1) 0] λR K i h0 v w y h1 d h h2 B j t h4=>l3 G n m h0 v w y h1 d h h2 B j t i h4 (λA=>K (.exit 0) ⟨[(2,.one (.p 0 0)),(3,.one (.p 2 0))],[.box [.i h1,.s d,.i h,.o 1],.row (.n 1) 0 h2,.box [.i B,.s j,.i t,.o 3],.row (.n 1) 0 A]⟩)
def pc(G:Gs)(n:Nat):Pcs:=⟨λR id st K=>bif Nat.beq id 3 then dl3 G n n R st K else none,nK,nK⟩
def an:Ann:=⟨31,0,[(3,[1,2,3,4])],[],[2],[(5,⟨[([0,1,2,3,4,5,6,7,8,9,10,11],[9,11],[1])],[9,11],[],[0,1,2],[]⟩)],[]⟩
abbrev bd:=aF Tryz.f126
abbrev q3:=aJ [1,1,0,1,0,0] bd
theorem pl3{G:Gs}(d:am (ax G))(n:Nat):∀m,al an (.loop q3) (dl3 G n m):=lpq d (pc G n) ⟨[2,3],[2],[(0,[2,3])]⟩
theorem ok{G:Gs}(h:am (ax G)){g:Q}(v:∀t r,g t=some r->∃n,aq (R:=AT×RV Ob) G n t (λd=>some (.agg [.i d.op,.s d.ae,.i d.ag,.l (.n 1) d.ac],[]))=some (.agg [.i r.op,.s r.ae,.i r.ag,.l (.n 1) r.ac],[])):aj (ent g):=okQ λ_ _ _ _ _ _ _ hc=>okL hc λr j=>let⟨n,j⟩:=v _ _ j;fF h an (pc G n) Tryz.func126 j (apl [(1,3,.loop q3)] ⟨pl3 h n n,trivial⟩)
end z4i
namespace z4g
structure Gs where
 z4i:z4i.Q
def ax(G:Gs):RV Ent:=[z4i.ent G.z4i]
def b3{R:Type}(G:Gs)(n:Nat)(list:LT)(i:Int)(h0:LT)(nx:Int->LT->Y R)(d:LT->Y R):Y R:=bif decide (i<(List.length list:Int))then((ix list i).bind λe=>(G.z4i (Tm.mk e.op e.ae e.ag e.ac)).bind λr=>(lim (h0++[(Tm.mk r.op r.ae r.ag r.ac)])).bind λzs=>nx (wr (i+1)) zs)else d h0
def l3{R:Type}(G:Gs)(n m:Nat)(list:LT)(i:Int)(h0:LT)(d:LT->Y R):Y R:=aS (λ(v:Int×LT) nx=>b3 G n list v.1 v.2 (λh j=>nx (h,j)) d) m (i,h0)
def aq{R:Type}(G:Gs)(n:Nat)(list:LT)(K:LT->Y R):Y R:=
 l3 G n n list 0 []
  (λd=>K d)
def dl3(G:Gs)(n m:Nat):=rS [0,3,4] [.x (.l (.n 1)),.x (.o 0),.x .i] [.r (.n 1) 0] λR K list i h0=>l3 G n m list i h0 (λd=>K (.exit 0) ⟨[(3,.one (.o 0))],[.row (.n 1) 0 d]⟩)
def pc(G:Gs)(n:Nat):Pcs:=⟨λR id st K=>bif Nat.beq id 3 then dl3 G n n R st K else none,nK,nK⟩
def an:Ann:=⟨21,0,[(3,[0,3,4])],[],[2],[],[]⟩
abbrev bd:=aF Tryz.f128
abbrev q3:=aJ [1,1,0,1,0,0] bd
theorem pl3{G:Gs}(d:am (ax G))(n:Nat):∀m,al an (.loop q3) (dl3 G n m):=lpq d (pc G n) ⟨[3],[2],[(0,[3])]⟩
theorem ok{G:Gs}(d:am (ax G)){g:Q}(h:∀list r,g list=some r->∃n,aq (R:=AT×RV Ob) G n list (λt=>some (.one (.l (.n 1) t),[]))=some (.one (.l (.n 1) r),[])):aj (ent g):=okQ λ_ _ _ _ hc=>okL hc λr j=>let⟨n,j⟩:=h _ _ j;fF d an (pc G n) Tryz.func128 j (apl [(1,3,.loop q3)] ⟨pl3 d n n,trivial⟩)
end z4g
namespace z3u
structure Gs where
 z3b:z3b.Q
 z4g:z4g.Q
def ax(G:Gs):RV Ent:=[z3b.ent G.z3b,z4g.ent G.z4g]
def b6{R:Type}(G:Gs)(n:Nat)(list:LT)(i:Int)(h0:LT)(d:Int)(nx t:Int->Y R):Y R:=bif decide (0<d)then((ix h0 (wr (d-1))).bind λh=>(ix list i).bind λj=>(G.z3b (Tm.mk h.op h.ae h.ag h.ac) (Tm.mk j.op j.ae j.ag j.ac)).bind λv=>bif decide (0<v)then(nx (wr (d-1)))else t d)else t d
def l6{R:Type}(G:Gs)(n m:Nat)(list:LT)(i:Int)(h0:LT)(d:Int)(h:Int->Y R):Y R:=aS (λ(v:Int) nx=>b6 G n list i h0 v (λj=>nx j) h) m d
def b3{R:Type}(G:Gs)(n:Nat)(list:LT)(i:Int)(h0:LT)(nx:Int->LT->Y R)(w:LT->Y R):Y R:=bif decide (i<(List.length list:Int))then(l6 G n n list i h0 (List.length h0:Int) (λd=>(tA h0 [] d).bind λzs=>(uF h0 d).bind λj=>(ix list i).bind λh=>(lim (j++[(Tm.mk h.op h.ae h.ag h.ac)])).bind λt=>(lim (t++zs)).bind λv=>nx (wr (i+1)) v))else w h0
def l3{R:Type}(G:Gs)(n m:Nat)(list:LT)(i:Int)(h0:LT)(d:LT->Y R):Y R:=aS (λ(v:Int×LT) nx=>b3 G n list v.1 v.2 (λh j=>nx (h,j)) d) m (i,h0)
def aq{R:Type}(G:Gs)(n:Nat)(list:LT)(K:LT->Y R):Y R:=
 l3 G n n list 0 []
  (fun d=>
   (G.z4g d).bind λr=>
   K r
  )
def dl6(G:Gs)(n m:Nat):=rS [0,3,4,5] [.x (.l (.n 1)),.x (.o 0),.x .i,.x .i] [.r (.n 1) 0] λR K list i h h0=>l6 G n m list i h0 h (λd=>K (.exit 2) ⟨[(0,.one (.l (.n 1) list)),(3,.one (.o 0)),(4,.one (.i i)),(5,.one (.i d))],[.row (.n 1) 0 h0]⟩)
def dl3(G:Gs)(n m:Nat):=rS [0,3,4] [.x (.l (.n 1)),.x (.o 0),.x .i] [.r (.n 1) 0] λR K list i h0=>l3 G n m list i h0 (λd=>K (.exit 0) ⟨[(3,.one (.o 0))],[.row (.n 1) 0 d]⟩)
def pc(G:Gs)(n:Nat):Pcs:=⟨λR id st K=>bif Nat.beq id 6 then dl6 G n n R st K else bif Nat.beq id 3 then dl3 G n n R st K else none,nK,nK⟩
def an:Ann:=⟨51,0,[(6,[0,3,4,5]),(3,[0,3,4])],[],[2],[(6,⟨[([0,1,2,3,4,5,6,7,8,9,10,11,12,13,14],[],[])],[],[],[0],[]⟩),(9,⟨[([0,1,2,3,4,5,6,7,8,9,10,11],[2,8,10],[])],[2,8,10],[],[2],[]⟩)],[36,40]⟩
abbrev bd:=aF Tryz.f127
abbrev q6:=aJ [1,1,0,1,0,0,1,0,0,1,0,0,0] bd
abbrev q3:=aJ [1,1,0,1,0,0] bd
theorem pl6{G:Gs}(d:am (ax G))(n:Nat):∀m,al an (.loop q6) (dl6 G n m):=lpq d (pc G n) ⟨[0,3,4,5],[2],[(0,[3]),(1,[0,3,4]),(2,[0,3,4,5])]⟩
theorem pl3{G:Gs}(d:am (ax G))(n:Nat):∀m,al an (.loop q3) (dl3 G n m):=lpq d (pc G n) ⟨[3],[2],[(0,[3])]⟩ (apl [(1,6,.loop q6)] ⟨pl6 d n n,trivial⟩)
theorem ok{G:Gs}(d:am (ax G)){g:Q}(h:∀list r,g list=some r->∃n,aq (R:=AT×RV Ob) G n list (λt=>some (.one (.l (.n 1) t),[]))=some (.one (.l (.n 1) r),[])):aj (ent g):=okQ λ_ _ _ _ hc=>okL hc λr j=>let⟨n,j⟩:=h _ _ j;fF d an (pc G n) Tryz.func127 j (apl [(1,3,.loop q3)] ⟨pl3 d n n,trivial⟩)
end z3u
namespace z4w
structure Gs where
 none_:Unit
def aq{R:Type}(G:Gs)(n:Nat)(s:Sg)(op:Int)(K:Tm->Bool->Y R):Y R:=
 (ix s.ops op).bind λe=>
 bif decide (e.aE=0)then
  (K (Tm.mk 0 ByteArray.empty 0 []) false)
 else
  (ix s.ops op).bind λd=>
  K (Tm.mk (wr (d.aE-1)) ByteArray.empty 0 []) true
theorem ok{G:Gs}(h:am []){g:Q}(t:∀s op r,g s op=some r->∃n,aq (R:=AT×RV Ob) G n s op (λd v=>some (.tup [.agg [.i d.op,.s d.ae,.i d.ag,.l (.n 1) d.ac],.one (.b v)],[]))=some (.tup [.agg [.i r.1.op,.s r.1.ae,.i r.1.ag,.l (.n 1) r.1.ac],.one (.b r.2)],[])):aj (ent g):=okQ λ_ _ _ _ _ _ _ hc=>okL hc λr j=>let⟨_,j⟩:=t _ _ _ j;fF h ⟨22,0,[],[],[4,5],[],[]⟩ nP Tryz.func125 j
end z4w
namespace z4p
structure Gs where
 z4a:z4a.Q
def aq{R:Type}(G:Gs)(n:Nat)(s:Sg)(t:Tm)(K:Int->Y R):Y R:=
 (G.z4a s.ai).bind λr=>
 bif decide (t.op=(-1))then
  (
  (ix r t.ag).bind λe=>
  K e
  )
 else
  (ix s.ops t.op).bind λd=>
  (ix d.aC 0).bind λh=>
  (ix r h.result).bind λj=>
  K j
theorem ok{G:Gs}(d:am [z4a.ent G.z4a]){g:Q}(h:∀s t r,g s t=some r->∃n,aq (R:=AT×RV Ob) G n s t (λv=>some (.one (.i v),[]))=some (.one (.i r),[])):aj (ent g):=okQ λ_ _ _ _ _ _ _ _ _ _ hc=>okL hc λr j=>let⟨_,j⟩:=h _ _ _ j;fF d ⟨30,0,[],[],[4],[],[]⟩ nP Tryz.func97 j
end z4p
namespace z4q
structure Gs where
 z4q:z4q.Q
def ax(G:Gs):RV Ent:=[ent G.z4q]
def b3{R:Type}(G:Gs)(n:Nat)(h0:Int)(j:Z)(t:Int)(d:LT)(left k:Int)(nx:Int->Int->Y R)(h:Int->Y R):Y R:=bif decide (k<(List.length d:Int))then(bif decide (0<=left)then((ix d k).bind λe=>(G.z4q (Tm.mk e.op e.ae e.ag e.ac) left).bind λr=>nx r (wr (k+1)))else h left)else h left
def l3{R:Type}(G:Gs)(n m:Nat)(h0:Int)(d:Z)(h:Int)(j:LT)(left k:Int)(t:Int->Y R):Y R:=aS (λ(v:Int×Int) nx=>b3 G n h0 d h j v.1 v.2 (λw y=>nx (w,y)) t) m (left,k)
def aq{R:Type}(G:Gs)(n:Nat)(t:Tm)(left:Int)(K:Int->Y R):Y R:=
 l3 G n n t.op t.ae t.ag t.ac (wr (left-1)) 0
  (λd=>K d)
def dl3(G:Gs)(n m:Nat):=rS [1,2,5] [.x .i,.x (.p 0 0),.x .i] [.b [.i,.s,.i,.l (.n 1)]] λR K left k h0 h j t=>l3 G n m h0 h j t left k (λd=>K (.exit 0) ⟨[(1,.one (.i d))],[]⟩)
def pc(G:Gs)(n:Nat):Pcs:=⟨λR id st K=>bif Nat.beq id 3 then dl3 G n n R st K else none,nK,nK⟩
def an:Ann:=⟨27,0,[(3,[1,2,5])],[],[4],[],[]⟩
abbrev bd:=aF Tryz.f129
abbrev q3:=aJ [1,1,0,1,0,0] bd
theorem pl3{G:Gs}(d:am (ax G))(n:Nat):∀m,al an (.loop q3) (dl3 G n m):=lpq d (pc G n) ⟨[1],[4],[(0,[1])]⟩
theorem ok{G:Gs}(d:am (ax G)){g:Q}(h:∀t left r,g t left=some r->∃n,aq (R:=AT×RV Ob) G n t left (λv=>some (.one (.i v),[]))=some (.one (.i r),[])):aj (ent g):=okQ λ_ _ _ _ _ _ _ _ hc=>okL hc λr j=>let⟨n,j⟩:=h _ _ _ j;fF d an (pc G n) Tryz.func129 j (apl [(1,3,.loop q3)] ⟨pl3 d n n,trivial⟩)
end z4q
namespace z3d
structure Gs where
 z3d:z3d.Q
 z44:z44.Q
def ax(G:Gs):RV Ent:=[ent G.z3d,z44.ent G.z44]
def b3{R:Type}(G:Gs)(n:Nat)(h0:Int)(j:Z)(t:Int)(d:LT)(h i:Int)(nx:Int->Int->Y R)(v:Int->Y R):Y R:=bif decide (i<(List.length d:Int))then((ix d i).bind λe=>(G.z3d (Tm.mk e.op e.ae e.ag e.ac)).bind λr=>(G.z44 h r).bind λw=>nx w (wr (i+1)))else v h
def l3{R:Type}(G:Gs)(n m:Nat)(h0:Int)(d:Z)(h:Int)(j:LT)(t i:Int)(w:Int->Y R):Y R:=aS (λ(v:Int×Int) nx=>b3 G n h0 d h j v.1 v.2 (λy A=>nx (y,A)) w) m (t,i)
def aq{R:Type}(G:Gs)(n:Nat)(t:Tm)(K:Int->Y R):Y R:=
 l3 G n n t.op t.ae t.ag t.ac 0 0
  (λd=>K (wr (d+1)))
def dl3(G:Gs)(n m:Nat):=rS [1,3,4] [.x (.p 0 0),.x .i,.x .i] [.b [.i,.s,.i,.l (.n 1)]] λR K v i h0 d h j=>l3 G n m h0 d h j v i (λt=>K (.exit 0) ⟨[(3,.one (.i t))],[]⟩)
def pc(G:Gs)(n:Nat):Pcs:=⟨λR id st K=>bif Nat.beq id 3 then dl3 G n n R st K else none,nK,nK⟩
def an:Ann:=⟨22,0,[(3,[1,3,4])],[],[2],[],[]⟩
abbrev bd:=aF Tryz.f130
abbrev q3:=aJ [1,1,0,1,0,0] bd
theorem pl3{G:Gs}(d:am (ax G))(n:Nat):∀m,al an (.loop q3) (dl3 G n m):=lpq d (pc G n) ⟨[3],[2],[(0,[3])]⟩
theorem ok{G:Gs}(d:am (ax G)){g:Q}(h:∀t r,g t=some r->∃n,aq (R:=AT×RV Ob) G n t (λv=>some (.one (.i v),[]))=some (.one (.i r),[])):aj (ent g):=okQ λ_ _ _ _ _ _ _ hc=>okL hc λr j=>let⟨n,j⟩:=h _ _ j;fF d an (pc G n) Tryz.func130 j (apl [(1,3,.loop q3)] ⟨pl3 d n n,trivial⟩)
end z3d
namespace z4v
structure Gs where
 z4q:z4q.Q
 z3d:z3d.Q
def aq{R:Type}(G:Gs)(n:Nat)(t:Tm)(K:Bool->Y R):Y R:=
 (G.z4q (Tm.mk t.op t.ae t.ag t.ac) 60).bind λr=>
 bif decide (0<=r)then
  (
  (G.z3d (Tm.mk t.op t.ae t.ag t.ac)).bind λd=>
  K (decide (d<=20))
  )
 else
  K false
theorem ok{G:Gs}(d:am [z4q.ent G.z4q,z3d.ent G.z3d]){g:Q}(h:∀t r,g t=some r->∃n,aq (R:=AT×RV Ob) G n t (λv=>some (.one (.b v),[]))=some (.one (.b r),[])):aj (ent g):=okQ λ_ _ _ _ _ _ _ hc=>okL hc λr j=>let⟨_,j⟩:=h _ _ j;fF d ⟨11,0,[],[],[2],[],[]⟩ nP Tryz.func95 j
end z4v
namespace z4r
structure Gs where
 z4a:z4a.Q
 z4c:z4c.Q
 z4w:z4w.Q
 z4p:z4p.Q
 z4l:z4l.Q
 z4i:z4i.Q
 z3u:z3u.Q
 z4g:z4g.Q
 z4v:z4v.Q
def ax(G:Gs):RV Ent:=[z4a.ent G.z4a,z4c.ent G.z4c,z4w.ent G.z4w,z4p.ent G.z4p,z4l.ent G.z4l,z4i.ent G.z4i,z3u.ent G.z3u,z4g.ent G.z4g,z4v.ent G.z4v]
def c15{R:Type}(G:Gs)(n:Nat)(op:Int)(ac:LT)(d:LI)(has:Bool)(i:Int)(h0:LB)(h:LS)(j:LO)(h1:Int)(t:Z)(v:Int)(h2:LT)(I:Z)(w:LD)(y A:Bool)(B h4:Int)(C:Z)(D:Int)(E F:LT)(H:LT->Y R):Y R:=(ix ac i).bind λe=>(lim (F++[(Tm.mk e.op e.ae e.ag e.ac)])).bind λzs=>H zs
def c17{R:Type}(G:Gs)(n:Nat)(op:Int)(ac:LT)(d:LI)(has:Bool)(i:Int)(h0:LB)(j:LS)(t:LO)(h1:Int)(v:Z)(w:Int)(h2:LT)(K:Z)(y:LD)(h A:Bool)(B h4:Int)(C:Z)(D:Int)(E H:LT)(I:LT->Y R):Y R:=bif h then((ix ac i).bind λe=>bif decide (e.op=op)then((ix ac i).bind λL=>(lim (H++L.ac)).bind λzs=>I zs)else c15 G n op ac d has i h0 j t h1 v w h2 K y h A B h4 C D E H (λJ=>I J))else c15 G n op ac d has i h0 j t h1 v w h2 K y h A B h4 C D E H (λF=>I F)
def c13{R:Type}(G:Gs)(n:Nat)(op:Int)(ac:LT)(d:LI)(has:Bool)(i J:Int)(h0:LB)(j:LS)(t:LO)(h1:Int)(B:Z)(C:Int)(h2:LT)(M:Z)(v:LD)(D E:Bool)(F h4:Int)(w:Z)(y:Int)(A K:LT)(N:Bool->Int->Z->Int->LT->Y R)(k1:LT->Y R):Y R:=(ix ac i).bind λI=>(G.z4p (Sg.mk (So.mk h0 j) t) (Tm.mk I.op I.ae I.ag I.ac)).bind λO=>(ix v 0).bind λP=>(ix P.ac J).bind λQ=>(ix d Q).bind λS=>bif !decide (O=S)then(N false 0 ByteArray.empty 0 [])else bif has then((ix ac i).bind λh=>(G.z4l (Tm.mk h.op h.ae h.ag h.ac) (Tm.mk h4 w y A)).bind λT=>bif T then(k1 K)else c17 G n op ac d has i h0 j t h1 B C h2 M v D E F h4 w y A K (λL=>k1 L))else c17 G n op ac d has i h0 j t h1 B C h2 M v D E F h4 w y A K (λH=>k1 H)
def b8{R:Type}(G:Gs)(n:Nat)(op:Int)(ac:LT)(d:LI)(has:Bool)(h0:LB)(j:LS)(t:LO)(h1:Int)(v:Z)(w:Int)(h2:LT)(S:Z)(y:LD)(h A:Bool)(B h4:Int)(C:Z)(D:Int)(E:LT)(i:Int)(L:LT)(nx:Int->LT->Y R)(T:Bool->Int->Z->Int->LT->Y R)(k1:LT->Y R):Y R:=bif decide (i<(List.length ac:Int))then(bif h then(c13 G n op ac d has i 0 h0 j t h1 v w h2 S y h A B h4 C D E L (λU M N O P=>T U M N O P) (λQ=>nx (wr (i+1)) Q))else c13 G n op ac d has i i h0 j t h1 v w h2 S y h A B h4 C D E L (λt72 F H I J=>T t72 F H I J) (λK=>nx (wr (i+1)) K))else k1 L
def l8{R:Type}(G:Gs)(n m:Nat)(op:Int)(ac:LT)(d:LI)(has:Bool)(h0:LB)(h:LS)(j:LO)(h1:Int)(t:Z)(w:Int)(h2:LT)(H:Z)(y:LD)(A B:Bool)(C h4:Int)(D:Z)(E:Int)(F:LT)(i:Int)(I:LT)(J:Bool->Int->Z->Int->LT->Y R)(k1:LT->Y R):Y R:=aS (λ(v:Int×LT) nx=>b8 G n op ac d has h0 h j h1 t w h2 H y A B C h4 D E F v.1 v.2 (λK L=>nx (K,L)) J k1) m (i,I)
def c25{R:Type}(G:Gs)(n:Nat)(op:Int)(list:LT)(h0:Int)(j:Z)(t:Int)(h1:LT)(h2:Z)(v:LD)(d w:Bool)(y:Int)(h:Bool->Z->Int->LT->Y R):Y R:=(G.z4g list).bind λr=>bif !d then((G.z4v (Tm.mk op ByteArray.empty 0 r)).bind λA=>h A ByteArray.empty 0 r)else bif decide ((List.length list:Int)<=7)then((G.z4v (Tm.mk op ByteArray.empty 0 r)).bind λB=>h B ByteArray.empty 0 r)else h false ByteArray.empty 0 r
def c23{R:Type}(G:Gs)(n:Nat)(op:Int)(list:LT)(h0:Int)(h:Z)(j:Int)(h1:LT)(h2:Z)(t:LD)(v d:Bool)(w:Int)(F:Bool->Z->Int->LT->Y R):Y R:=bif d then((G.z3u list).bind λr=>c25 G n op r h0 h j h1 h2 t v d w (λH C D E=>F H C D E))else c25 G n op list h0 h j h1 h2 t v d w (λt72 y A B=>F t72 y A B)
def c21{R:Type}(G:Gs)(n:Nat)(op:Int)(has:Bool)(h0:Int)(d:Z)(h:Int)(h1:LT)(h2:Z)(j:LD)(t v:Bool)(w:Int)(C:LT)(D:Bool->Int->Z->Int->LT->Y R):Y R:=bif has then(bif decide ((List.length C:Int)=1)then((ix C 0).bind λe=>(G.z4i (Tm.mk e.op e.ae e.ag e.ac)).bind λr=>D true r.op r.ae r.ag r.ac)else c23 G n op C h0 d h h1 h2 j t v w (λI E F H=>D I op E F H))else c23 G n op C h0 d h h1 h2 j t v w (λt72 y A B=>D t72 op y A B)
def c5{R:Type}(G:Gs)(n:Nat)(op:Int)(ac:LT)(d:LI)(h0:LB)(B:LS)(C:LO)(h1:Int)(h:Z)(j:Int)(h2:LT)(N:Z)(t:LD)(v w:Bool)(y:Int)(M:Bool->Int->Z->Int->LT->Y R):Y R:=(G.z4w (Sg.mk (So.mk h0 B) C) op).bind λr=>l8 G n n op ac d r.2 h0 B C h1 h j h2 N t v w y r.1.op r.1.ae r.1.ag r.1.ac 0 [] (λU O P Q S=>M U O P Q S) (λA=>bif r.2 then(bif decide ((List.length A:Int)=0)then(M true r.1.op r.1.ae r.1.ag r.1.ac)else c21 G n op r.2 h1 h j h2 N t v w y A (λt72 D E F H=>M t72 D E F H))else c21 G n op r.2 h1 h j h2 N t v w y A (λT I J K L=>M T I J K L))
def aq{R:Type}(G:Gs)(n:Nat)(s:Sg)(op:Int)(ac:LT)(K:Tm->Bool->Y R):Y R:=
 (ix s.ops op).bind λe=>
 (G.z4a s.ai).bind λr=>
 (G.z4c e).bind λB=>
 bif !decide ((List.length ac:Int)=B)then
  (
  bif e.aA then
   (
   bif !(decide (2<=(List.length ac:Int)))then
    (K (Tm.mk 0 ByteArray.empty 0 []) false)
   else
    c5 G n op ac r s.ai.ah s.ai.ak s.ops 0 ByteArray.empty 0 [] e.ae e.aC e.aA e.comm e.aE
     (λC v w y A=>K (Tm.mk v w y A) C)
   )
  else
   K (Tm.mk 0 ByteArray.empty 0 []) false
  )
 else
  c5 G n op ac r s.ai.ah s.ai.ak s.ops 0 ByteArray.empty 0 [] e.ae e.aC e.aA e.comm e.aE
   (λt72 d h j t=>K (Tm.mk d h j t) t72)
def dc15(G:Gs)(n:Nat):=rS [1,2,3,6,8,9,10,11,12,13] [.x .i,.x (.l (.n 1)),.x (.p 0 0),.x (.p 1 0),.x (.p 3 0),.x (.l .i),.x (.p 4 0),.x .b,.x (.o 5),.x .i] [.b [.l .s,.l (.n 5),.l (.n 8)],.b [.i,.s,.i,.o 2],.r (.n 1) 0,.b [.s,.l (.n 7),.b,.b,.i],.b [.i,.s,.i,.l (.n 1)],.r (.n 1) 0] λR K op ac d has i h0 h j h1 t v h2 H w y A B h4 C D E I=>c15 G n op ac d has i h0 h j h1 t v h2 H w y A B h4 C D E I (λF=>K .normal ⟨[(1,.one (.i op)),(2,.one (.l (.n 1) ac)),(3,.one (.p 0 0)),(6,.one (.p 1 0)),(8,.one (.p 3 0)),(9,.one (.l .i d)),(10,.one (.p 4 0)),(11,.one (.b has)),(12,.one (.o 5)),(13,.one (.i i))],[.box [.l .s h0,.l (.n 5) h,.l (.n 8) j],.box [.i h1,.s t,.i v,.o 2],.row (.n 1) 0 h2,.box [.s H,.l (.n 7) w,.b y,.b A,.i B],.box [.i h4,.s C,.i D,.l (.n 1) E],.row (.n 1) 0 F]⟩)
def dc17(G:Gs)(n:Nat):=rS [1,2,3,6,8,9,10,11,12,13] [.x .i,.x (.l (.n 1)),.x (.p 0 0),.x (.p 1 0),.x (.p 3 0),.x (.l .i),.x (.p 4 0),.x .b,.x (.o 5),.x .i] [.b [.l .s,.l (.n 5),.l (.n 8)],.b [.i,.s,.i,.o 2],.r (.n 1) 0,.b [.s,.l (.n 7),.b,.b,.i],.b [.i,.s,.i,.l (.n 1)],.r (.n 1) 0] λR K op ac d has i h0 h j h1 t v h2 H w y A B h4 C D E I=>c17 G n op ac d has i h0 h j h1 t v h2 H w y A B h4 C D E I (λF=>K .normal ⟨[(1,.one (.i op)),(2,.one (.l (.n 1) ac)),(3,.one (.p 0 0)),(6,.one (.p 1 0)),(8,.one (.p 3 0)),(9,.one (.l .i d)),(10,.one (.p 4 0)),(11,.one (.b has)),(12,.one (.o 5)),(13,.one (.i i))],[.box [.l .s h0,.l (.n 5) h,.l (.n 8) j],.box [.i h1,.s t,.i v,.o 2],.row (.n 1) 0 h2,.box [.s H,.l (.n 7) w,.b y,.b A,.i B],.box [.i h4,.s C,.i D,.l (.n 1) E],.row (.n 1) 0 F]⟩)
def E1(G:Gs)(n:Nat):=rS [1,2,3,6,8,9,10,11,12,13,14] [.x .i,.x (.l (.n 1)),.x (.p 0 0),.x (.p 1 0),.x (.p 3 0),.x (.l .i),.x (.p 4 0),.x .b,.x (.o 5),.x .i,.x .i] [.b [.l .s,.l (.n 5),.l (.n 8)],.b [.i,.s,.i,.o 2],.r (.n 1) 0,.b [.s,.l (.n 7),.b,.b,.i],.b [.i,.s,.i,.l (.n 1)],.r (.n 1) 0] λR K op ac d has i F h0 h j h1 t v h2 N w y A B h4 C D E O=>c13 G n op ac d has i F h0 h j h1 t v h2 N w y A B h4 C D E O (λP H I J L=>K .ret ⟨[(6,.one (.p 0 0)),(7,.one (.b P))],[.box [.i H,.s I,.i J,.l (.n 1) L]]⟩) (λM=>K .normal ⟨[(1,.one (.i op)),(2,.one (.l (.n 1) ac)),(3,.one (.p 0 0)),(6,.one (.p 1 0)),(8,.one (.p 3 0)),(9,.one (.l .i d)),(10,.one (.p 4 0)),(11,.one (.b has)),(12,.one (.o 5)),(13,.one (.i i))],[.box [.l .s h0,.l (.n 5) h,.l (.n 8) j],.box [.i h1,.s t,.i v,.o 2],.row (.n 1) 0 h2,.box [.s N,.l (.n 7) w,.b y,.b A,.i B],.box [.i h4,.s C,.i D,.l (.n 1) E],.row (.n 1) 0 M]⟩)
def dl8(G:Gs)(n m:Nat):=rS [1,2,3,6,8,9,10,11,12,13] [.x .i,.x (.l (.n 1)),.x (.p 0 0),.x (.p 1 0),.x (.p 3 0),.x (.l .i),.x (.p 4 0),.x .b,.x (.o 5),.x .i] [.b [.l .s,.l (.n 5),.l (.n 8)],.b [.i,.s,.i,.o 2],.r (.n 1) 0,.b [.s,.l (.n 7),.b,.b,.i],.b [.i,.s,.i,.l (.n 1)],.r (.n 1) 0] λR K op ac d has i h0 D E h1 h j h2 M t v w y h4 A B C N=>l8 G n m op ac d has h0 D E h1 h j h2 M t v w y h4 A B C i N (λO F H I J=>K .ret ⟨[(6,.one (.p 0 0)),(7,.one (.b O))],[.box [.i F,.s H,.i I,.l (.n 1) J]]⟩) (λL=>K (.exit 0) ⟨[(1,.one (.i op)),(6,.one (.p 0 0)),(8,.one (.p 2 0)),(10,.one (.p 3 0)),(11,.one (.b has)),(12,.one (.o 4))],[.box [.i h1,.s h,.i j,.o 1],.row (.n 1) 0 h2,.box [.s M,.l (.n 7) t,.b v,.b w,.i y],.box [.i h4,.s A,.i B,.l (.n 1) C],.row (.n 1) 0 L]⟩)
def dc25(G:Gs)(n:Nat):=rS [1,6,8,12] [.x .i,.x (.p 0 0),.x (.p 2 0),.x (.l (.n 1))] [.b [.i,.s,.i,.o 1],.r (.n 1) 0,.b [.s,.l (.n 7),.b,.b,.i]] λR K op list h0 d h h1 h2 j t v w=>c25 G n op list h0 d h h1 h2 j t v w (λC y A B=>K .ret ⟨[(6,.one (.p 0 0)),(7,.one (.b C))],[.box [.i op,.s y,.i A,.l (.n 1) B]]⟩)
def dc23(G:Gs)(n:Nat):=rS [1,6,8,12] [.x .i,.x (.p 0 0),.x (.p 2 0),.x (.l (.n 1))] [.b [.i,.s,.i,.o 1],.r (.n 1) 0,.b [.s,.l (.n 7),.b,.b,.i]] λR K op list h0 d h h1 h2 j t v w=>c23 G n op list h0 d h h1 h2 j t v w (λC y A B=>K .ret ⟨[(6,.one (.p 0 0)),(7,.one (.b C))],[.box [.i op,.s y,.i A,.l (.n 1) B]]⟩)
def yL(G:Gs)(n:Nat):=rS [1,6,8,11,12] [.x .i,.x (.p 0 0),.x (.p 2 0),.x .b,.x (.o 3)] [.b [.i,.s,.i,.o 1],.r (.n 1) 0,.b [.s,.l (.n 7),.b,.b,.i],.r (.n 1) 0] λR K op has h0 d h h1 h2 j t v w D=>c21 G n op has h0 d h h1 h2 j t v w D (λE y A B C=>K .ret ⟨[(6,.one (.p 0 0)),(7,.one (.b E))],[.box [.i y,.s A,.i B,.l (.n 1) C]]⟩)
def dc5(G:Gs)(n:Nat):=rS [1,2,3,6,8,9] [.x .i,.x (.l (.n 1)),.x (.p 0 0),.x (.p 1 0),.x (.p 3 0),.x (.l .i)] [.b [.l .s,.l (.n 5),.l (.n 8)],.b [.i,.s,.i,.o 2],.r (.n 1) 0,.b [.s,.l (.n 7),.b,.b,.i]] λR K op ac d h0 h j h1 t v h2 H w y A B=>c5 G n op ac d h0 h j h1 t v h2 H w y A B (λI C D E F=>K .ret ⟨[(6,.one (.p 0 0)),(7,.one (.b I))],[.box [.i C,.s D,.i E,.l (.n 1) F]]⟩)
def pc(G:Gs)(n:Nat):Pcs:=⟨λR id st K=>bif Nat.beq id 8 then dl8 G n n R st K else none,λR id st K=>bif Nat.beq id 15 then dc15 G n R st K else bif Nat.beq id 17 then dc17 G n R st K else bif Nat.beq id 13 then E1 G n R st K else bif Nat.beq id 25 then dc25 G n R st K else bif Nat.beq id 23 then dc23 G n R st K else bif Nat.beq id 21 then yL G n R st K else bif Nat.beq id 5 then dc5 G n R st K else none,nK⟩
def an:Ann:=⟨149,0,[(8,[1,2,3,6,8,9,10,11,12,13])],[(15,[1,2,3,6,8,9,10,11,12,13]),(17,[1,2,3,6,8,9,10,11,12,13]),(13,[1,2,3,6,8,9,10,11,12,13,14]),(25,[1,6,8,12]),(23,[1,6,8,12]),(21,[1,6,8,11,12]),(5,[1,2,3,6,8,9])],[6,7],[(13,⟨[([0,1,2,3,4,5,6,7,8,9,10,11,12,13,14,15,16,17],[],[])],[],[],[0,1,2,3,4,5],[]⟩),(16,⟨[([0,1,2,3,4,5,6,7,8,9],[],[])],[],[],[0,1,2,3,4,5],[]⟩),(26,⟨[([0,1,2,3,4,5,6,7,8,9,10,11,13,12,14],[13],[])],[13],[],[1,2,3],[]⟩)],[39,74,120]⟩
abbrev bd:=aF Tryz.f94
abbrev q15:=aJ [1,1,1,1,1,1,0,1,0,0,1,0,0,1,1,1,0,1,1,1,1] bd
abbrev q17:=aJ [1,1,1,1,1,1,0,1,0,0,1,0,0,1,1,1,0,1,1] bd
abbrev q13:=aJ [1,1,1,1,1,1,0,1,0,0,1,0,0,1,1] bd
abbrev q8:=aJ [1,1,1,1,1,1,0,1,0,0] bd
abbrev q25:=aJ [1,1,1,1,1,1,1,1,1,1] bd
abbrev q23:=aJ [1,1,1,1,1,1,1,1,1] bd
abbrev q21:=aJ [1,1,1,1,1,1,1,1] bd
abbrev q5:=aJ [1,1,1,1] bd
theorem pc15{G:Gs}(d:am (ax G)){n:Nat}:al an q15 (dc15 G n):=cpq d (pc G n) ⟨[1,2,3,6,8,9,10,11,12,13],[6,7],[(0,[1,6,8,10,11,12]),(1,[1,2,3,6,8,9,10,11,12,13]),(2,[1,2,3,6,8,9,10,11,12,13])]⟩
theorem pc17{G:Gs}(d:am (ax G)){n:Nat}:al an q17 (dc17 G n):=cpq d (pc G n) ⟨[1,2,3,6,8,9,10,11,12,13],[6,7],[(0,[1,6,8,10,11,12]),(1,[1,2,3,6,8,9,10,11,12,13]),(2,[1,2,3,6,8,9,10,11,12,13])]⟩ (apl [(0,15,q15)] ⟨pc15 d,trivial⟩)
theorem M4{G:Gs}(d:am (ax G)){n:Nat}:al an q13 (E1 G n):=cpq d (pc G n) ⟨[1,2,3,6,8,9,10,11,12,13],[6,7],[(0,[1,6,8,10,11,12]),(1,[1,2,3,6,8,9,10,11,12,13])]⟩ (apl [(0,17,q17)] ⟨pc17 d,trivial⟩)
theorem pl8{G:Gs}(d:am (ax G))(n:Nat):∀m,al an (.loop q8) (dl8 G n m):=lpq d (pc G n) ⟨[1,6,8,10,11,12],[6,7],[(0,[1,6,8,10,11,12])]⟩ (apl [(0,13,q13)] ⟨M4 d,trivial⟩)
theorem pc25{G:Gs}(d:am (ax G)){n:Nat}:al an q25 (dc25 G n):=cpq d (pc G n) ⟨[],[6,7],[]⟩
theorem pc23{G:Gs}(d:am (ax G)){n:Nat}:al an q23 (dc23 G n):=cpq d (pc G n) ⟨[],[6,7],[]⟩ (apl [(0,25,q25)] ⟨pc25 d,trivial⟩)
theorem Ij{G:Gs}(d:am (ax G)){n:Nat}:al an q21 (yL G n):=cpq d (pc G n) ⟨[],[6,7],[]⟩ (apl [(0,23,q23)] ⟨pc23 d,trivial⟩)
theorem pc5{G:Gs}(d:am (ax G)){n:Nat}:al an q5 (dc5 G n):=cpq d (pc G n) ⟨[],[6,7],[]⟩ (apl [(1,8,.loop q8),(0,21,q21)] ⟨pl8 d n n,⟨Ij d,trivial⟩⟩)
theorem ok{G:Gs}(h:am (ax G)){g:Q}(t:∀s op ac r,g s op ac=some r->∃n,aq (R:=AT×RV Ob) G n s op ac (λd v=>some (.tup [.agg [.i d.op,.s d.ae,.i d.ag,.l (.n 1) d.ac],.one (.b v)],[]))=some (.tup [.agg [.i r.1.op,.s r.1.ae,.i r.1.ag,.l (.n 1) r.1.ac],.one (.b r.2)],[])):aj (ent g):=okQ λ_ _ _ _ _ _ _ _ hc=>okL hc λr j=>let⟨n,j⟩:=t _ _ _ _ j;fF h an (pc G n) Tryz.func94 j (apl [(0,5,q5)] ⟨pc5 h,trivial⟩)
end z4r
end
end Go.Proofs.YtigoabbppmdfpaaGreat.Den

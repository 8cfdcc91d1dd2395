import Derived.Test.YtigoabbppmdfpaaGreatZRowPE8
namespace Go.Proofs.YtigoabbppmdfpaaGreat.Den
open Go.RowKit
set_option maxRecDepth 100000
set_option linter.unusedVariables false
noncomputable section
namespace z1f
structure Gs where
 z0g:z0g.Q
 z1g:z1g.Q
def aq{R:Type}(G:Gs)(n:Nat)(s:Sg)(K:(Y (LI×LI×LI×LB×LS×LO×LM))->Y R):Y R:=
 (G.z0g s).bind λr=>
 bif !r then
  (K none)
 else
  (G.z1g s.ai).bind λd=>
  K (some (d.1.bh,d.1.below,d.1.kind,s.ai.ah,s.ai.ak,s.ops,[]))
theorem ok{G:Gs}(d:am [z0g.ent G.z0g,z1g.ent G.z1g]){g:Q}(t:∀s r,g s=some r->∃n,aq (R:=AT×RV Ob) G n s (λr=>xW r (some (.tup [.one (.z),.one (.b false)],[])) (λq=>(some (.tup [.one (.p 0 0),.one (.b true)],[.box [.l .i q.1,.l .i q.2.1,.l .i q.2.2.1,.l .s q.2.2.2.1,.l (.n 5) q.2.2.2.2.1,.l (.n 8) q.2.2.2.2.2.1,.m 1],.map .i q.2.2.2.2.2.2]))))=xW r (some (.tup [.one (.z),.one (.b false)],[])) (λq=>(some (.tup [.one (.p 0 0),.one (.b true)],[.box [.l .i q.1,.l .i q.2.1,.l .i q.2.2.1,.l .s q.2.2.2.1,.l (.n 5) q.2.2.2.2.1,.l (.n 8) q.2.2.2.2.2.1,.m 1],.map .i q.2.2.2.2.2.2])))):aj (ent g):=λR xs H K r hc=>by
 simp only[ent]at hc;split at hc
 .obtain⟨r,v,h⟩:=bind_some hc;obtain⟨n,j⟩:=t _ _ v;cases r with
  |none=>exact Rn
  |some q=>exact Rn
 .cases hc
end z1f
namespace z10
structure Gs where
 none_:Unit
def aq{R:Type}(G:Gs)(n:Nat)(B C d:LI)(D:LB)(E:LS)(j:LO)(h:LM)(t:Tm)(K:Int->LM->Y R):Y R:=
 bif decide (t.op<0)then
  (
  (ix d t.ag).bind λv=>
  K v h
  )
 else
  (ix j t.op).bind λw=>
  (ix w.aC 0).bind λy=>
  (ix d y.result).bind λA=>
  K A h
theorem ok{G:Gs}(C:am []){g:Q}(D:∀d h v w y A B t r,g d h v w y A B t=some r->∃n,aq (R:=AT×RV Ob) G n d h v w y A B t (λE F=>some (.one (.i E),[.box [.l .i d,.l .i h,.l .i v,.l .s w,.l (.n 5) y,.l (.n 8) A,.m 1],.map .i F]))=some (.one (.i r.1),[.box [.l .i d,.l .i h,.l .i v,.l .s w,.l (.n 5) y,.l (.n 8) A,.m 1],.map .i r.2])):aj (ent g):=okQ λ_ _ _ _ _ _ _ _ _ _ _ _ _ _ hc=>okL hc λr j=>let⟨_,j⟩:=D _ _ _ _ _ _ _ _ _ j;fF C ⟨37,2,[],[],[4],[(2,⟨[([0,1,2,3,4,5,6,7,8,9],[],[])],[],[],[0,1,2],[]⟩),(3,⟨[([0,1,2,3,4,5,6,7,8,9,10,11,12,13,14,15,16,17,18,19,20],[],[])],[],[],[0,1,2],[]⟩)],[]⟩ nP Tryz.func77 j
end z10
namespace z0s
structure Gs where
 none_:Unit
def ax(_:Gs):RV Ent:=[]
def c4{R:Type}(G:Gs)(n:Nat)(D E j:LI)(F:LB)(H:LS)(I:LO)(d:Int)(h1:LM)(h2:Z)(h:LD)(t v:Bool)(w:Int)(y:Int->Y R):Y R:=(ix h 0).bind λA=>(ix A.ac d).bind λB=>(ix j B).bind λC=>y C
def aq{R:Type}(G:Gs)(n:Nat)(v w y:LI)(A:LB)(B:LS)(h:LO)(d:LM)(op j:Int)(K:Int->LM->Y R):Y R:=
 (ix h op).bind λe=>
 bif e.aA then
  (
  c4 G n v w y A B h 0 d e.ae e.aC e.aA e.comm e.aE
   (λC=>K C d)
  )
 else
  c4 G n v w y A B h j d e.ae e.aC e.aA e.comm e.aE
   (λt=>K t d)
def dc4(G:Gs)(n:Nat):=rS [0,2,7] [.x (.p 0 0),.x .i,.x (.p 2 0)] [.b [.l .i,.l .i,.l .i,.l .s,.l (.n 5),.l (.n 8),.m 1],.m .i,.b [.s,.l (.n 7),.b,.b,.i]] λR K d w y A B C D h1 h2 h j t v=>c4 G n w y A B C D d h1 h2 h j t v (λE=>K .ret ⟨[(6,.one (.i E))],[.box [.l .i w,.l .i y,.l .i A,.l .s B,.l (.n 5) C,.l (.n 8) D,.m 1],.map .i h1]⟩)
def pc(G:Gs)(n:Nat):Pcs:=⟨nK,λR id st K=>bif Nat.beq id 4 then dc4 G n R st K else none,nK⟩
def an:Ann:=⟨33,2,[],[(4,[0,2,7])],[6],[(4,⟨[([0,1,2,3,4,5,6,7,8,9,10,11,12,13,14,15],[],[])],[],[],[0,1,2],[]⟩)],[]⟩
abbrev bd:=aF Tryz.f148
abbrev q4:=aJ [1,1,1] bd
theorem pc4{G:Gs}(d:am (ax G)){n:Nat}:al an q4 (dc4 G n):=cpq d (pc G n) ⟨[],[6],[]⟩
theorem ok{G:Gs}(B:am (ax G)){g:Q}(D:∀h t v w y A C op d r,g h t v w y A C op d=some r->∃n,aq (R:=AT×RV Ob) G n h t v w y A C op d (λE F=>some (.one (.i E),[.box [.l .i h,.l .i t,.l .i v,.l .s w,.l (.n 5) y,.l (.n 8) A,.m 1],.map .i F]))=some (.one (.i r.1),[.box [.l .i h,.l .i t,.l .i v,.l .s w,.l (.n 5) y,.l (.n 8) A,.m 1],.map .i r.2])):aj (ent g):=okQ λ_ _ _ _ _ _ _ _ _ _ _ _ hc=>okL hc λr j=>let⟨n,j⟩:=D _ _ _ _ _ _ _ _ _ _ j;fF B an (pc G n) Tryz.func148 j (apl [(0,4,q4)] ⟨pc4 B,trivial⟩)
end z0s
namespace z0y
structure Gs where
 none_:Unit
def aq{R:Type}(G:Gs)(n:Nat)(w y A:LI)(B:LB)(C:LS)(d:LO)(h:LM)(op:Int)(t:Tm)(K:Bool->LM->Y R):Y R:=
 (ix d op).bind λj=>
 bif !decide (j.aE=0)then
  (
  (ix d op).bind λv=>
  K (decide (t.op=(wr (v.aE-1)))) h
  )
 else
  K false h
theorem ok{G:Gs}(C:am []){g:Q}(D:∀d h v w y A B op t r,g d h v w y A B op t=some r->∃n,aq (R:=AT×RV Ob) G n d h v w y A B op t (λE F=>some (.one (.b E),[.box [.l .i d,.l .i h,.l .i v,.l .s w,.l (.n 5) y,.l (.n 8) A,.m 1],.map .i F]))=some (.one (.b r.1),[.box [.l .i d,.l .i h,.l .i v,.l .s w,.l (.n 5) y,.l (.n 8) A,.m 1],.map .i r.2])):aj (ent g):=okQ λ_ _ _ _ _ _ _ _ _ _ _ _ _ _ _ hc=>okL hc λr j=>let⟨_,j⟩:=D _ _ _ _ _ _ _ _ _ _ j;fF C ⟨32,2,[],[],[6],[(1,⟨[([0,1,2,3,4,5,6,7,8,9,10,11,12,13,14,15,16,17,18,19,20,21,22,23,24,25],[],[])],[],[],[0,1,2],[]⟩)],[]⟩ nP Tryz.func149 j
end z0y
namespace z13
structure Gs where
 none_:Unit
def aq{R:Type}(G:Gs)(n:Nat)(j t v:LI)(w:LB)(y:LS)(d:LO)(h:LM)(op:Int)(K:Tm->LM->Y R):Y R:=
 (ix d op).bind λe=>
 K (Tm.mk (wr (e.aE-1)) ByteArray.empty 0 []) h
theorem ok{G:Gs}(C:am []){g:Q}(D:∀d h t v w y B op r,g d h t v w y B op=some r->∃n,aq (R:=AT×RV Ob) G n d h t v w y B op (λA E=>some (.agg [.i A.op,.s A.ae,.i A.ag,.l (.n 1) A.ac],[.box [.l .i d,.l .i h,.l .i t,.l .s v,.l (.n 5) w,.l (.n 8) y,.m 1],.map .i E]))=some (.agg [.i r.1.op,.s r.1.ae,.i r.1.ag,.l (.n 1) r.1.ac],[.box [.l .i d,.l .i h,.l .i t,.l .s v,.l (.n 5) w,.l (.n 8) y,.m 1],.map .i r.2])):aj (ent g):=okQ λ_ _ _ _ _ _ _ _ _ _ _ hc=>okL hc λr j=>let⟨_,j⟩:=D _ _ _ _ _ _ _ _ _ j;fF C ⟨16,2,[],[],[4],[],[]⟩ nP Tryz.func162 j
end z13
namespace z0z
structure Gs where
 z0e:z0e.Q
 z1h:z1h.Q
def aq{R:Type}(G:Gs)(n:Nat)(h j v:LI)(A:LB)(B:LS)(C:LO)(d:LM)(t:Tm)(K:Bool->LM->Y R):Y R:=
 bif decide (t.op=(-1))then
  (
  (G.z0e t.ae).bind λw=>
  bif w then
   (
   (G.z1h (Od.mk h j v) t.ag).bind λy=>
   bif y then
    (K (decide ((List.length t.ac:Int)=0)) d)
   else
    K false d
   )
  else
   K false d
  )
 else
  K false d
theorem ok{G:Gs}(C:am [z0e.ent G.z0e,z1h.ent G.z1h]){g:Q}(D:∀d h v w y A B t r,g d h v w y A B t=some r->∃n,aq (R:=AT×RV Ob) G n d h v w y A B t (λE F=>some (.one (.b E),[.box [.l .i d,.l .i h,.l .i v,.l .s w,.l (.n 5) y,.l (.n 8) A,.m 1],.map .i F]))=some (.one (.b r.1),[.box [.l .i d,.l .i h,.l .i v,.l .s w,.l (.n 5) y,.l (.n 8) A,.m 1],.map .i r.2])):aj (ent g):=okQ λ_ _ _ _ _ _ _ _ _ _ _ _ _ _ hc=>okL hc λr j=>let⟨_,j⟩:=D _ _ _ _ _ _ _ _ _ j;fF C ⟨28,2,[],[],[4],[(1,⟨[([0,1,2,3,4,5,6,7,8,9,10,11,12,13,14,15,16,17,18,19,20,21,22,23],[],[])],[],[],[0,1,2],[]⟩)],[]⟩ nP Tryz.func143 j
end z0z
namespace z0n
structure Gs where
 z0n:z0n.Q
def ax(G:Gs):RV Ent:=[ent G.z0n]
def b3{R:Type}(G:Gs)(n:Nat)(h:LT)(j d t9:Int)(nx:Int->Int->Y R)(t:Int->Y R):Y R:=bif decide (t9<j)then((ix h t9).bind λe=>(G.z0n (Tm.mk e.op e.ae e.ag e.ac)).bind λr=>nx (wr (d+r)) (wr (t9+1)))else t d
def l3{R:Type}(G:Gs)(n m:Nat)(d:LT)(h j t9:Int)(t:Int->Y R):Y R:=aS (λ(v:Int×Int) nx=>b3 G n d h v.1 v.2 (λw y=>nx (w,y)) t) m (j,t9)
def aq{R:Type}(G:Gs)(n:Nat)(t:Tm)(K:Int->Y R):Y R:=
 l3 G n n t.ac (List.length t.ac:Int) 1 0
  (λd=>K d)
def dl3(G:Gs)(n m:Nat):=rS [3,7,8,9] [.x .i,.x (.l (.n 1)),.x .i,.x .i] [] λR K h j t t9=>l3 G n m j t h t9 (λd=>K (.exit 0) ⟨[(3,.one (.i d))],[]⟩)
def pc(G:Gs)(n:Nat):Pcs:=⟨λR id st K=>bif Nat.beq id 3 then dl3 G n n R st K else none,nK,nK⟩
def an:Ann:=⟨19,0,[(3,[3,7,8,9])],[],[2],[],[]⟩
abbrev bd:=aF Tryz.f108
abbrev q3:=aJ [1,1,0,1,0,0] bd
theorem pl3{G:Gs}(d:am (ax G))(n:Nat):∀m,al an (.loop q3) (dl3 G n m):=lpq d (pc G n) ⟨[3],[2],[(0,[3])]⟩
theorem ok{G:Gs}(d:am (ax G)){g:Q}(h:∀t r,g t=some r->∃n,aq (R:=AT×RV Ob) G n t (λv=>some (.one (.i v),[]))=some (.one (.i r),[])):aj (ent g):=okQ λ_ _ _ _ _ _ _ hc=>okL hc λr j=>let⟨n,j⟩:=h _ _ j;fF d an (pc G n) Tryz.func108 j (apl [(1,3,.loop q3)] ⟨pl3 d n n,trivial⟩)
end z0n
namespace z0c
structure Gs where
 z0c:z0c.Q
def ax(G:Gs):RV Ent:=[ent G.z0c]
def b3{R:Type}(G:Gs)(n:Nat)(h:LT)(j d t9:Int)(nx:Int->Int->Y R)(t:Int->Y R):Y R:=bif decide (t9<j)then((ix h t9).bind λe=>(G.z0c (Tm.mk e.op e.ae e.ag e.ac)).bind λr=>nx (lx d r) (wr (t9+1)))else t d
def l3{R:Type}(G:Gs)(n m:Nat)(d:LT)(h j t9:Int)(t:Int->Y R):Y R:=aS (λ(v:Int×Int) nx=>b3 G n d h v.1 v.2 (λw y=>nx (w,y)) t) m (j,t9)
def aq{R:Type}(G:Gs)(n:Nat)(t:Tm)(K:Int->Y R):Y R:=
 l3 G n n t.ac (List.length t.ac:Int) 0 0
  (λd=>K (wr (d+1)))
def dl3(G:Gs)(n m:Nat):=rS [3,7,8,9] [.x .i,.x (.l (.n 1)),.x .i,.x .i] [] λR K h j t t9=>l3 G n m j t h t9 (λd=>K (.exit 0) ⟨[(3,.one (.i d))],[]⟩)
def pc(G:Gs)(n:Nat):Pcs:=⟨λR id st K=>bif Nat.beq id 3 then dl3 G n n R st K else none,nK,nK⟩
def an:Ann:=⟨20,0,[(3,[3,7,8,9])],[],[2],[],[]⟩
abbrev bd:=aF Tryz.f109
abbrev q3:=aJ [1,1,0,1,0,0] bd
theorem pl3{G:Gs}(d:am (ax G))(n:Nat):∀m,al an (.loop q3) (dl3 G n m):=lpq d (pc G n) ⟨[3],[2],[(0,[3])]⟩
theorem ok{G:Gs}(d:am (ax G)){g:Q}(h:∀t r,g t=some r->∃n,aq (R:=AT×RV Ob) G n t (λv=>some (.one (.i v),[]))=some (.one (.i r),[])):aj (ent g):=okQ λ_ _ _ _ _ _ _ hc=>okL hc λr j=>let⟨n,j⟩:=h _ _ j;fF d an (pc G n) Tryz.func109 j (apl [(1,3,.loop q3)] ⟨pl3 d n n,trivial⟩)
end z0c
namespace z05
structure Gs where
 none_:Unit
def aq{R:Type}(G:Gs)(n:Nat)(x:Int)(K:Bool->Y R):Y R:=
 K (!decide (x=x))
theorem ok{G:Gs}(d:am []){g:Q}(h:∀x r,g x=some r->∃n,aq (R:=AT×RV Ob) G n x (λt=>some (.one (.b t),[]))=some (.one (.b r),[])):aj (ent g):=okQ λ_ _ _ _ hc=>okL hc λr j=>let⟨_,j⟩:=h _ _ j;fF d ⟨6,0,[],[],[2],[],[]⟩ nP Tryz.func173 j
end z05
namespace z02
structure Gs where
 none_:Unit
def ax(_:Gs):RV Ent:=[]
def b3{R:Type}(G:Gs)(n:Nat)(zero:Int)(h:LI)(j d:Int)(nx t:Int->Y R)(k1:Y R):Y R:=bif decide (d<j)then((ix h d).bind λe=>bif !decide (e=zero)then(t e)else nx (wr (d+1)))else k1
def l3{R:Type}(G:Gs)(n m:Nat)(zero:Int)(d:LI)(h j:Int)(t:Int->Y R)(k1:Y R):Y R:=aS (λ(v:Int) nx=>b3 G n zero d h v (λw=>nx w) t k1) m j
def aq{R:Type}(G:Gs)(n:Nat)(d:LI)(K:Int->Y R):Y R:=
 l3 G n n 0 d (List.length d:Int) 0
  (λh=>K h)
  (K 0)
def dl3(G:Gs)(n m:Nat):=rS [3,6,7,8] [.x .i,.x (.l .i),.x .i,.x .i] [] λR K zero d h j=>l3 G n m zero d h j (λt=>K .ret ⟨[(2,.one (.i t))],[]⟩) (K (.exit 0) ⟨[(3,.one (.i zero))],[]⟩)
def pc(G:Gs)(n:Nat):Pcs:=⟨λR id st K=>bif Nat.beq id 3 then dl3 G n n R st K else none,nK,nK⟩
def an:Ann:=⟨18,0,[(3,[3,6,7,8])],[],[2],[],[]⟩
abbrev bd:=aF Tryz.f164
abbrev q3:=aJ [1,1,0,1,0,0] bd
theorem pl3{G:Gs}(d:am (ax G))(n:Nat):∀m,al an (.loop q3) (dl3 G n m):=lpq d (pc G n) ⟨[3],[2],[(0,[3])]⟩
theorem ok{G:Gs}(h:am (ax G)){g:Q}(t:∀d r,g d=some r->∃n,aq (R:=AT×RV Ob) G n d (λv=>some (.one (.i v),[]))=some (.one (.i r),[])):aj (ent g):=okQ λ_ _ _ _ hc=>okL hc λr j=>let⟨n,j⟩:=t _ _ j;fF h an (pc G n) Tryz.func164 j (apl [(1,3,.loop q3)] ⟨pl3 h n n,trivial⟩)
end z02
namespace z01
structure Gs where
 z05:z05.Q
def aq{R:Type}(G:Gs)(n:Nat)(x y:Int)(K:Int->Y R):Y R:=
 (G.z05 x).bind λr=>
 (G.z05 y).bind λd=>
 bif r then
  (
  bif d then
   (K 0)
  else
   K (-1)
  )
 else
  bif d then
   (K 1)
  else
   bif decide (x<y)then
    (K (-1))
   else
    bif decide (y<x)then
     (K 1)
    else
     K 0
theorem ok{G:Gs}(d:am [z05.ent G.z05]){g:Q}(h:∀x y r,g x y=some r->∃n,aq (R:=AT×RV Ob) G n x y (λt=>some (.one (.i t),[]))=some (.one (.i r),[])):aj (ent g):=okQ λ_ _ _ _ _ hc=>okL hc λr j=>let⟨_,j⟩:=h _ _ _ j;fF d ⟨20,0,[],[],[4],[],[]⟩ nP Tryz.func165 j
end z01
namespace z5a
structure Gs where
 z0a:z0a.Q
def ax(G:Gs):RV Ent:=[z0a.ent G.z0a]
def b2{R:Type}(G:Gs)(n:Nat)(s1 s2 j:LT)(t d:Int)(nx v:Int->Y R)(k1:Y R):Y R:=bif decide (d<t)then((ix j d).bind λe=>bif decide ((List.length s2:Int)<=d)then(v 1)else(ix s2 d).bind λh=>(G.z0a (Tm.mk e.op e.ae e.ag e.ac) (Tm.mk h.op h.ae h.ag h.ac)).bind λr=>bif !decide (r=0)then(v r)else nx (wr (d+1)))else k1
def l2{R:Type}(G:Gs)(n m:Nat)(s1 s2 d:LT)(h j:Int)(t:Int->Y R)(k1:Y R):Y R:=aS (λ(v:Int) nx=>b2 G n s1 s2 d h v (λw=>nx w) t k1) m j
def aq{R:Type}(G:Gs)(n:Nat)(s1 s2:LT)(K:Int->Y R):Y R:=
 l2 G n n s1 s2 s1 (List.length s1:Int) 0
  (λd=>K d)
  (
   bif decide ((List.length s1:Int)<(List.length s2:Int))then
    (K (-1))
   else
    K 0
  )
def dl2(G:Gs)(n m:Nat):=rS [0,1,2,11,12,13] [.x (.l (.n 1)),.x (.l (.n 1)),.x (.f 150),.x (.l (.n 1)),.x .i,.x .i] [] λR K s1 s2 d h j=>l2 G n m s1 s2 d h j (λt=>K .ret ⟨[(6,.one (.i t))],[]⟩) (K (.exit 0) ⟨[(0,.one (.l (.n 1) s1)),(1,.one (.l (.n 1) s2))],[]⟩)
def pc(G:Gs)(n:Nat):Pcs:=⟨λR id st K=>bif Nat.beq id 2 then dl2 G n n R st K else none,nK,nK⟩
def an:Ann:=⟨39,0,[(2,[0,1,2,11,12,13])],[],[6],[],[]⟩
abbrev bd:=aF Tryz.f167
abbrev q2:=aJ [1,0,1,0,0] bd
theorem pl2{G:Gs}(d:am (ax G))(n:Nat):∀m,al an (.loop q2) (dl2 G n m):=lpq d (pc G n) ⟨[0,1],[6],[(0,[0,1])]⟩
def cO(G:Gs)(s1 s2:LT)(r:Int):Prop:=∃n,aq (R:=AT×RV Ob) G n s1 s2 (λd=>some (.one (.i d),[]))=some (.one (.i r),[])
theorem ok{G:Gs}(d:am (ax G)){g:Q}(h:∀s1 s2 r,g s1 s2=some r->cO G s1 s2 r):aj (ent g):=okQ λ_ _ _ _ _ hc=>okL hc λr j=>let⟨n,j⟩:=h _ _ _ j;fF d an (pc G n) Tryz.func167 j (apl [(1,2,.loop q2)] ⟨pl2 d n n,trivial⟩)
end z5a
namespace z0a
structure Gs where
 z01:z01.Q
 strings_Compare:strings_Compare.Q
 z02:z02.Q
 z5a:z5a.Q
def aq{R:Type}(G:Gs)(n:Nat)(a b:Tm)(K:Int->Y R):Y R:=
 (G.z01 a.op b.op).bind λh=>
 (G.strings_Compare a.ae b.ae).bind λj=>
 (G.z01 a.ag b.ag).bind λt=>
 (G.z02 [h,j,t]).bind λd=>
 bif !decide (d=0)then
  (K d)
 else
  (G.z5a a.ac b.ac).bind λv=>
  K v
theorem ok{G:Gs}(d:am [z01.ent G.z01,strings_Compare.ent G.strings_Compare,z02.ent G.z02,z5a.ent G.z5a]){g:Q}(h:∀a b r,g a b=some r->∃n,aq (R:=AT×RV Ob) G n a b (λt=>some (.one (.i t),[]))=some (.one (.i r),[])):aj (ent g):=okQ λ_ _ _ _ _ _ _ _ _ _ _ hc=>okL hc λr j=>let⟨_,j⟩:=h _ _ _ j;fF d ⟨31,0,[],[],[4],[(1,⟨[([0,1,2,3,4,5,6,7,8,9,10,11,12,13,14,15,16,17],[],[])],[],[],[0,1],[]⟩)],[]⟩ nP Tryz.func150 j
end z0a
namespace z17
abbrev bd:=aF Tryz.f147
abbrev q3:=aJ [1,1,0,1,0,0] bd
end z17
end
end Go.Proofs.YtigoabbppmdfpaaGreat.Den

import Derived.Test.YtigoabbppmdfpaaGreatZRowPE8
namespace Go.Proofs.YtigoabbppmdfpaaGreat.Den
open Go.RowKit
set_option maxRecDepth 100000
set_option linter.unusedVariables false
noncomputable section
namespace z56
structure Gs where
 none_:Unit
def ax(_:Gs):RV Ent:=[]
def b0{R:Type}(G:Gs)(n:Nat)(j:LB)(t:LS)(v:LO)(d:Z)(w:Bool)(h0:Int)(nx h:Int->Y R):Y R:=bif decide (h0<(ByteArray.size d:Int))then((sIx d h0).bind λb2=>bif decide (b2=32)then(nx (wr (h0+1)))else h h0)else h h0
def l0{R:Type}(G:Gs)(n m:Nat)(d:LB)(h:LS)(j:LO)(t:Z)(w:Bool)(h0:Int)(y:Int->Y R):Y R:=aS (λ(v:Int) nx=>b0 G n d h j t w v (λA=>nx A) y) m h0
def aq{R:Type}(G:Gs)(n:Nat)(h:LB)(j:LS)(t:LO)(v:Z)(w:Int)(y:Bool)(K:Int->Y R):Y R:=
 l0 G n n h j t v y w
  (λd=>K d)
def dl0(G:Gs)(n m:Nat):=rS [0] [.x (.p 0 0)] [.b [.l .s,.l (.n 5),.l (.n 8),.s,.i,.b]] λR K h j t v h0 w=>l0 G n m h j t v w h0 (λd=>K (.exit 0) ⟨[],[.box [.l .s h,.l (.n 5) j,.l (.n 8) t,.s v,.i d,.b w]]⟩)
def pc(G:Gs)(n:Nat):Pcs:=⟨λR id st K=>bif Nat.beq id 0 then dl0 G n n R st K else none,nK,nK⟩
def an:Ann:=⟨31,1,[(0,[0])],[],[],[(0,⟨[([0,1,2,3,4,5,6,7,8,9,10,11,12,13,14,15,16,17,18,19,20,21],[],[])],[],[],[0],[]⟩)],[]⟩
abbrev bd:=aF Tryz.f61
abbrev q0:=aJ [0,0] bd
theorem pl0{G:Gs}(d:am (ax G))(n:Nat):∀m,al an (.loop q0) (dl0 G n m):=lpq d (pc G n) ⟨[],[],[(0,[])]⟩
theorem ok{G:Gs}(y:am (ax G)){g:Q}(B:∀d h t v A w r,g d h t v A w=some r->∃n,aq (R:=AT×RV Ob) G n d h t v A w (λC=>some (.tup [],[.box [.l .s d,.l (.n 5) h,.l (.n 8) t,.s v,.i C,.b w]]))=some (.tup [],[.box [.l .s d,.l (.n 5) h,.l (.n 8) t,.s v,.i r,.b w]])):aj (ent g):=okQ λ_ _ _ _ _ _ _ _ _ hc=>okL hc λr j=>let⟨n,j⟩:=B _ _ _ _ _ _ _ j;fF y an (pc G n) Tryz.func61 j (apl [(1,0,.loop q0)] ⟨pl0 y n n,trivial⟩)
end z56
namespace z52
structure Gs where
 z56:z56.Q
 z3i:z3i.Q
def ax(G:Gs):RV Ent:=[z56.ent G.z56,z3i.ent G.z3i]
def b3{R:Type}(G:Gs)(n:Nat)(v:LB)(w:LS)(y:LO)(h:Z)(A:Bool)(d h0:Int)(nx j:Int->Y R):Y R:=bif decide (h0<(ByteArray.size h:Int))then((oD h h0 (wr (h0+1))).bind λq2=>(dj (ByteArray.mk #[120]) q2).bind λq4=>(G.z3i q4).bind λt=>bif t then(nx (wr (h0+1)))else j h0)else j h0
def l3{R:Type}(G:Gs)(n m:Nat)(h:LB)(j:LS)(t:LO)(w:Z)(y:Bool)(d h0:Int)(A:Int->Y R):Y R:=aS (λ(v:Int) nx=>b3 G n h j t w y d v (λB=>nx B) A) m h0
def aq{R:Type}(G:Gs)(n:Nat)(j:LB)(t:LS)(v:LO)(h:Z)(y:Int)(w:Bool)(K:Z->Int->Y R):Y R:=
 (G.z56 j t v h y w).bind λr=>
 l3 G n n j t v h w r r
  (fun d=>
   (oD h r d).bind λq2=>
   K q2 d
  )
def dl3(G:Gs)(n m:Nat):=rS [0,3] [.x (.p 0 0),.x .i] [.b [.l .s,.l (.n 5),.l (.n 8),.s,.i,.b]] λR K d j t v w h0 y=>l3 G n m j t v w y d h0 (λh=>K (.exit 0) ⟨[(0,.one (.p 0 0)),(3,.one (.i d))],[.box [.l .s j,.l (.n 5) t,.l (.n 8) v,.s w,.i h,.b y]]⟩)
def pc(G:Gs)(n:Nat):Pcs:=⟨λR id st K=>bif Nat.beq id 3 then dl3 G n n R st K else none,nK,nK⟩
def an:Ann:=⟨55,1,[(3,[0,3])],[],[2],[(3,⟨[([0,1,2,3,4,5,6,7,8,9,10,11,12,13,14,15,16,17,18,19,20,21,22,23,24,25,26,27],[],[])],[],[],[0],[]⟩),(5,⟨[([0,1,2,3,4,5,6,7,8,9,10],[],[])],[],[],[0],[]⟩)],[]⟩
abbrev bd:=aF Tryz.f89
abbrev q3:=aJ [1,1,1,0,0,0] bd
theorem pl3{G:Gs}(d:am (ax G))(n:Nat):∀m,al an (.loop q3) (dl3 G n m):=lpq d (pc G n) ⟨[0,3],[2],[(0,[0,3])]⟩
theorem ok{G:Gs}(y:am (ax G)){g:Q}(B:∀d h t v A w r,g d h t v A w=some r->∃n,aq (R:=AT×RV Ob) G n d h t v A w (λC D=>some (.one (.s C),[.box [.l .s d,.l (.n 5) h,.l (.n 8) t,.s v,.i D,.b w]]))=some (.one (.s r.1),[.box [.l .s d,.l (.n 5) h,.l (.n 8) t,.s v,.i r.2,.b w]])):aj (ent g):=okQ λ_ _ _ _ _ _ _ _ _ hc=>okL hc λr j=>let⟨n,j⟩:=B _ _ _ _ _ _ _ j;fF y an (pc G n) Tryz.func89 j (apl [(1,3,.loop q3)] ⟨pl3 y n n,trivial⟩)
end z52
namespace z57
structure Gs where
 z56:z56.Q
def aq{R:Type}(G:Gs)(n:Nat)(j:LB)(t:LS)(v:LO)(d:Z)(w:Int)(y:Bool)(h:Int)(K:Bool->Int->Y R):Y R:=
 (G.z56 j t v d w y).bind λr=>
 bif decide (r<(ByteArray.size d:Int))then
  (
  (sIx d r).bind λb2=>
  bif decide (b2=h)then
   (K true (wr (r+1)))
  else
   K false r
  )
 else
  K false r
theorem ok{G:Gs}(B:am [z56.ent G.z56]){g:Q}(C:∀h t v w A y d r,g h t v w A y d=some r->∃n,aq (R:=AT×RV Ob) G n h t v w A y d (λD E=>some (.one (.b D),[.box [.l .s h,.l (.n 5) t,.l (.n 8) v,.s w,.i E,.b y]]))=some (.one (.b r.1),[.box [.l .s h,.l (.n 5) t,.l (.n 8) v,.s w,.i r.2,.b y]])):aj (ent g):=λR xs H K r hc=>by
 simp only[ent]at hc;split at hc
 .exact okL hc λr j=>let⟨_,j⟩:=C _ _ _ _ _ _ _ _ j;fF B ⟨37,1,[],[],[4],[(2,⟨[([0,1,2,3,4,5,6,7,8,9,10,11,12,13,14,15,16,17,18,19,20,21,22],[],[])],[],[],[0],[]⟩)],[]⟩ nP Tryz.func90 j
 .cases hc
end z57
namespace z4y
structure Gs where
 none_:Unit
def ax(_:Gs):RV Ent:=[]
def b2{R:Type}(G:Gs)(n:Nat)(list:LB)(ae:Z)(i:Int)(nx d:Int->Y R)(k1:Y R):Y R:=bif decide (i<(List.length list:Int))then((ix list i).bind λe=>bif sEq e ae then(d i)else nx (wr (i+1)))else k1
def l2{R:Type}(G:Gs)(n m:Nat)(list:LB)(ae:Z)(i:Int)(d:Int->Y R)(k1:Y R):Y R:=aS (λ(v:Int) nx=>b2 G n list ae v (λh=>nx h) d k1) m i
def aq{R:Type}(G:Gs)(n:Nat)(list:LB)(ae:Z)(K:Int->Y R):Y R:=
 l2 G n n list ae 0
  (λt4=>K t4)
  (K (-1))
def dl2(G:Gs)(n m:Nat):=rS [0,1,5] [.x (.l .s),.x .s,.x .i] [] λR K list ae i=>l2 G n m list ae i (λt4=>K .ret ⟨[(4,.one (.i t4))],[]⟩) (K (.exit 0) ⟨[],[]⟩)
def pc(G:Gs)(n:Nat):Pcs:=⟨λR id st K=>bif Nat.beq id 2 then dl2 G n n R st K else none,nK,nK⟩
def an:Ann:=⟨19,0,[(2,[0,1,5])],[],[4],[],[]⟩
abbrev bd:=aF Tryz.f91
abbrev q2:=aJ [1,0,1,0,0] bd
theorem pl2{G:Gs}(d:am (ax G))(n:Nat):∀m,al an (.loop q2) (dl2 G n m):=lpq d (pc G n) ⟨[],[4],[(0,[])]⟩
theorem ok{G:Gs}(d:am (ax G)){g:Q}(h:∀list ae r,g list ae=some r->∃n,aq (R:=AT×RV Ob) G n list ae (λt=>some (.one (.i t),[]))=some (.one (.i r),[])):aj (ent g):=okQ λ_ _ _ _ _ hc=>okL hc λr j=>let⟨n,j⟩:=h _ _ _ j;fF d an (pc G n) Tryz.func91 j (apl [(1,2,.loop q2)] ⟨pl2 d n n,trivial⟩)
end z4y
namespace z54
structure Gs where
 z52:z52.Q
 z57:z57.Q
 z4y:z4y.Q
 z3i:z3i.Q
 z44:z44.Q
 z4m:z4m.Q
 z54:z54.Q
 z4r:z4r.Q
def ax(G:Gs):RV Ent:=[z52.ent G.z52,z57.ent G.z57,z4y.ent G.z4y,z3i.ent G.z3i,z44.ent G.z44,z4m.ent G.z4m,ent G.z54,z4r.ent G.z4r]
def c3{R:Type}(G:Gs)(n:Nat)(v:LB)(w:LS)(y:LO)(A:Z)(h0:Int)(d:Bool)(h1:Int)(h:Z)(j:Int)(h2:LT)(t:Bool->Int->Z->Int->LT->Y R):Y R:=t true 0 ByteArray.empty 0 []
def d6{R:Type}(G:Gs)(n:Nat)(h:LB)(t:LS)(v:LO)(w ae:Z)(h0:Int)(d:Bool)(h1:Int)(y:Z)(A:Int)(h2:LT)(B:Int->Int->Y R):Y R:=(G.z52 h t v w h0 d).bind λj=>(G.z4y h j.1).bind λC=>B C j.2
def LQ{R:Type}(G:Gs)(n:Nat)(h:LB)(j:LS)(t:LO)(v ae:Z)(h0:Int)(d:Bool)(h1:Int)(w:Z)(y:Int)(h2:LT)(A:Int->Int->Y R):Y R:=
 (G.z52 h j t v h0 d).bind λr=>
 (G.z4y h r.1).bind λB=>
 A B r.2
theorem e6_1{R:Type}(G:Gs)(n:Nat)(t:LB)(v:LS)(w:LO)(y ae:Z)(h0:Int)(d:Bool)(h1:Int)(h:Z)(j:Int)(h2:LT)(A:Int->Int->Y R):LQ G n t v w y ae h0 d h1 h j h2 A=d6 G n t v w y ae h0 d h1 h j h2 A:=by
 unfold LQ d6;generalize G.z52 t v w y h0 d=B;cases B<;>first|rfl|simp
def c8{R:Type}(G:Gs)(n:Nat)(w:LB)(y:LS)(A:LO)(B ae:Z)(ag h0:Int)(h:Bool)(h1:Int)(j:Z)(t:Int)(h2:LT)(v:Int->Z->Int->LT->Y R):Y R:=(G.z44 ag 0).bind λr=>(G.z4m ae r).bind λd=>v d.op d.ae d.ag d.ac
def b11{R:Type}(G:Gs)(n:Nat)(y:LB)(A:LS)(h:LO)(B:Z)(d:Int)(ae:Z)(h0:Int)(j:Bool)(h1:Int)(t:Z)(v:Int)(h2:LT)(op i:Int)(nx:Int->Int->Y R)(w:Int->Y R):Y R:=bif decide (i<(List.length h:Int))then((ix h i).bind λe=>bif sEq e.ae ae then(nx i (wr (i+1)))else nx op (wr (i+1)))else w op
def l11{R:Type}(G:Gs)(n m:Nat)(w:LB)(y:LS)(A:LO)(B:Z)(d:Int)(ae:Z)(h0:Int)(h:Bool)(h1:Int)(j:Z)(t:Int)(h2:LT)(op i:Int)(C:Int->Y R):Y R:=aS (λ(v:Int×Int) nx=>b11 G n w y A B d ae h0 h h1 j t h2 v.1 v.2 (λD E=>nx (D,E)) C) m (op,i)
def b17{R:Type}(G:Gs)(n:Nat)(t:LB)(v:LS)(w:LO)(y:Z)(d op h1:Int)(D:Z)(E:Int)(h2:LT)(h0:Int)(h:Bool)(A:LT)(nx B:Int->Bool->LT->Y R):Y R:=bif !h then((G.z54 t v w y h0 h (wr (d+1))).bind λr=>(lim (A++[(Tm.mk r.1.op r.1.ae r.1.ag r.1.ac)])).bind λzs=>(G.z57 t v w y r.2.1 r.2.2 41).bind λj=>bif j.1 then(B j.2 r.2.2 zs)else bif r.2.2 then(nx j.2 true zs)else(G.z57 t v w y j.2 r.2.2 44).bind λC=>nx C.2 (!C.1) zs)else B h0 h A
def l17{R:Type}(G:Gs)(n m:Nat)(w:LB)(y:LS)(A:LO)(B:Z)(d op h1:Int)(h:Z)(j:Int)(h2:LT)(h0:Int)(t:Bool)(C:LT)(D:Int->Bool->LT->Y R):Y R:=aS (λ(v:Int×Bool×LT) nx=>b17 G n w y A B d op h1 h j h2 v.1 v.2.1 v.2.2 (λE F H=>nx (E,F,H)) D) m (h0,t,C)
def c22{R:Type}(G:Gs)(n:Nat)(v:LB)(w:LS)(y:LO)(A:Z)(h0:Int)(d:Bool)(h1:Int)(h:Z)(j:Int)(h2:LT)(t:Bool->Int->Z->Int->LT->Y R):Y R:=t true 0 ByteArray.empty 0 []
def c21{R:Type}(G:Gs)(n:Nat)(C:LB)(D:LS)(E:LO)(L:Z)(op h0:Int)(d:Bool)(h1:Int)(h:Z)(j:Int)(h2 M:LT)(B:Bool->Int->Z->Int->LT->Y R):Y R:=bif d then(c22 G n C D E L h0 d h1 h j h2 (λF H I J K=>B F H I J K))else bif decide (op<0)then(c22 G n C D E L h0 d h1 h j h2 (λt v w y A=>B t v w y A))else(G.z4r (Sg.mk (So.mk C D) E) op M).bind λr=>bif d then(B true r.1.op r.1.ae r.1.ag r.1.ac)else B (!r.2) r.1.op r.1.ae r.1.ag r.1.ac
def aq{R:Type}(G:Gs)(n:Nat)(h:LB)(j:LS)(t:LO)(v:Z)(xe:Int)(y:Bool)(d:Int)(K:Tm->Int->Bool->Y R):Y R:=
 (G.z52 h j t v xe y).bind λr=>
 bif sEq r.1 ByteArray.empty then
  (
  c3 G n h j t v r.2 y 0 ByteArray.empty 0 []
   (λh04 h14 h15 h16 h17=>K (Tm.mk h14 h15 h16 h17) r.2 h04)
  )
 else
  bif decide (20<d)then
   (
   c3 G n h j t v r.2 y 0 ByteArray.empty 0 []
    (λC D E F H=>K (Tm.mk D E F H) r.2 C)
   )
  else
   (G.z57 h j t v r.2 y 58).bind λr2=>
   bif r2.1 then
    (
    d6 G n h j t v r.1 r2.2 y 0 ByteArray.empty 0 []
     (fun ag w=>
      bif y then
       (
       c8 G n h j t v r.1 ag w true 0 ByteArray.empty 0 []
        (λI J L M=>K (Tm.mk I J L M) w true)
       )
      else
       bif decide (ag<0)then
        (
        c8 G n h j t v r.1 ag w true 0 ByteArray.empty 0 []
         (λN O P Q=>K (Tm.mk N O P Q) w true)
        )
       else
        (G.z3i r.1).bind λr3=>
        c8 G n h j t v r.1 ag w (!r3) 0 ByteArray.empty 0 []
         (λS T U V=>K (Tm.mk S T U V) w (!r3))
     )
    )
   else
    l11 G n n h j t v d r.1 r2.2 y 0 ByteArray.empty 0 [] (-1) 0
     (fun B=>
      (G.z57 h j t v r2.2 y 40).bind λr4=>
      bif r4.1 then
       (
       l17 G n n h j t v d B 0 ByteArray.empty 0 [] r4.2 y []
        (fun A W h32=>
         c21 G n h j t v B A W 0 ByteArray.empty 0 [] h32
          (λX h146 h156 h166 h176=>K (Tm.mk h146 h156 h166 h176) A X)
        )
       )
      else
       c21 G n h j t v B r4.2 y 0 ByteArray.empty 0 [] []
        (λh045 h147 h157 h167 h177=>K (Tm.mk h147 h157 h167 h177) r4.2 h045)
     )
def dc3(G:Gs)(n:Nat):=rS [0,4] [.x (.p 0 0),.x (.p 1 0)] [.b [.l .s,.l (.n 5),.l (.n 8),.s,.i,.b],.b [.i,.s,.i,.o 2],.r (.n 1) 0] λR K B C D E h0 d h1 h j h2=>c3 G n B C D E h0 d h1 h j h2 (λt v w y A=>K .ret ⟨[(4,.one (.p 1 0))],[.box [.l .s B,.l (.n 5) C,.l (.n 8) D,.s E,.i h0,.b t],.box [.i v,.s w,.i y,.l (.n 1) A]]⟩)
def dd6(G:Gs)(n:Nat)(R:Type)(st:St)(K:Kt R):Y R:=match st with|⟨[(0,.one (.p 0 0)),(4,.one (.p 1 0)),(5,.one (.s ae))],[.box [.l .s v,.l (.n 5) w,.l (.n 8) y,.s A,.i h0,.b d],.box [.i h1,.s h,.i j,.o 2],.row (.n 1) 0 h2]⟩=>d6 G n v w y A ae h0 d h1 h j h2 (λag t=>K .normal ⟨[(0,.one (.p 0 0)),(4,.one (.p 1 0)),(5,.one (.s ae)),(6,.one (.i ag))],[.box [.l .s v,.l (.n 5) w,.l (.n 8) y,.s A,.i t,.b d],.box [.i h1,.s h,.i j,.o 2],.row (.n 1) 0 h2]⟩)|_=>none
def dc8(G:Gs)(n:Nat):=rS [4,5,6] [.x (.p 1 0),.x .s,.x .i] [.b [.l .s,.l (.n 5),.l (.n 8),.s,.i,.b],.b [.i,.s,.i,.o 2],.r (.n 1) 0] λR K ae ag A B C D h0 d h1 h j h2=>c8 G n A B C D ae ag h0 d h1 h j h2 (λt v w y=>K .ret ⟨[(4,.one (.p 1 0))],[.box [.l .s A,.l (.n 5) B,.l (.n 8) C,.s D,.i h0,.b d],.box [.i t,.s v,.i w,.l (.n 1) y]]⟩)
def FO(G:Gs)(n m:Nat):=rS [0,1,4,5,7,8] [.x (.p 0 0),.x .i,.x (.p 1 0),.x .s,.x .i,.x .i] [.b [.l .s,.l (.n 5),.l (.n 8),.s,.i,.b],.b [.i,.s,.i,.o 2],.r (.n 1) 0] λR K d ae op i w y A B h0 h h1 j t h2=>l11 G n m w y A B d ae h0 h h1 j t h2 op i (λv=>K (.exit 0) ⟨[(0,.one (.p 0 0)),(1,.one (.i d)),(4,.one (.p 1 0)),(7,.one (.i v))],[.box [.l .s w,.l (.n 5) y,.l (.n 8) A,.s B,.i h0,.b h],.box [.i h1,.s j,.i t,.o 2],.row (.n 1) 0 h2]⟩)
def dl17(G:Gs)(n m:Nat):=rS [0,1,4,7,9] [.x (.p 0 0),.x .i,.x (.p 1 0),.x .i,.x (.o 3)] [.b [.l .s,.l (.n 5),.l (.n 8),.s,.i,.b],.b [.i,.s,.i,.o 2],.r (.n 1) 0,.r (.n 1) 0] λR K d op A B C D h0 t h1 h j h2 E=>l17 G n m A B C D d op h1 h j h2 h0 t E (λv w y=>K (.exit 2) ⟨[(0,.one (.p 0 0)),(4,.one (.p 1 0)),(7,.one (.i op)),(9,.one (.o 3))],[.box [.l .s A,.l (.n 5) B,.l (.n 8) C,.s D,.i v,.b w],.box [.i h1,.s h,.i j,.o 2],.row (.n 1) 0 h2,.row (.n 1) 0 y]⟩)
def dc22(G:Gs)(n:Nat):=rS [0,4] [.x (.p 0 0),.x (.p 1 0)] [.b [.l .s,.l (.n 5),.l (.n 8),.s,.i,.b],.b [.i,.s,.i,.o 2],.r (.n 1) 0] λR K B C D E h0 d h1 h j h2=>c22 G n B C D E h0 d h1 h j h2 (λt v w y A=>K .ret ⟨[(4,.one (.p 1 0))],[.box [.l .s B,.l (.n 5) C,.l (.n 8) D,.s E,.i h0,.b t],.box [.i v,.s w,.i y,.l (.n 1) A]]⟩)
def yL(G:Gs)(n:Nat):=rS [0,4,7,9] [.x (.p 0 0),.x (.p 1 0),.x .i,.x (.o 3)] [.b [.l .s,.l (.n 5),.l (.n 8),.s,.i,.b],.b [.i,.s,.i,.o 2],.r (.n 1) 0,.r (.n 1) 0] λR K op B C D E h0 d h1 h j h2 F=>c21 G n B C D E op h0 d h1 h j h2 F (λt v w y A=>K .ret ⟨[(4,.one (.p 1 0))],[.box [.l .s B,.l (.n 5) C,.l (.n 8) D,.s E,.i h0,.b t],.box [.i v,.s w,.i y,.l (.n 1) A]]⟩)
def pc(G:Gs)(n:Nat):Pcs:=⟨λR id st K=>bif Nat.beq id 11 then FO G n n R st K else bif Nat.beq id 17 then dl17 G n n R st K else none,λR id st K=>bif Nat.beq id 3 then dc3 G n R st K else bif Nat.beq id 8 then dc8 G n R st K else bif Nat.beq id 22 then dc22 G n R st K else bif Nat.beq id 21 then yL G n R st K else none,λR id st K=>bif Nat.beq id 6 then dd6 G n R st K else none⟩
def an:Ann:=⟨140,1,[(11,[0,1,4,5,7,8]),(17,[0,1,4,7,9])],[(3,[0,4]),(8,[4,5,6]),(22,[0,4]),(21,[0,4,7,9])],[4],[(6,⟨[([0,1,2,3,4,5,6,7,8,9],[5,7],[]),([6,7,0,1,2,3,4,5,8,9],[7,5],[])],[5,7],[],[1,2],[0,4,5]⟩)],[23,117]⟩
abbrev bd:=aF Tryz.f60
abbrev q3:=aJ [1,1,0,1,0] bd
abbrev q6:=aJ [1,1,1,0,1,0,0] bd
abbrev q8:=aJ [1,1,1,0,1,0,1,1] bd
abbrev q11:=aJ [1,1,1,1,1,0,1,0,0] bd
abbrev q17:=aJ [1,1,1,1,1,1,1,0,1,0,0,0] bd
abbrev q22:=aJ [1,1,1,1,1,1,1,1,0,1,0] bd
abbrev q21:=aJ [1,1,1,1,1,1,1,1] bd
theorem pc3{G:Gs}(d:am (ax G)){n:Nat}:al an q3 (dc3 G n):=cpq d (pc G n) ⟨[0,1,4,5],[4],[]⟩
theorem s6_0(G:Gs)(n:Nat)(R:Type)(ae:Z)(v:LB)(w:LS)(y:LO)(A:Z)(h0:Int)(h:Bool)(h1:Int)(j:Z)(t:Int)(h2:LT)(K:Kt R):(λS:St=>(λd:St=>dY tb (cP (ax G)) an.nt an.im (fk (q6)) (eL [1,2] d.H) [0,1,2,3,4,5,6,7,8,9] [5,7] [] [] [0,1,2,3,4,5,6,7,8,9] d.L d.H d.H λL H=>iW an.refs ⟨[0,4,5,6],[4],[]⟩ K .normal ⟨L,H⟩) (cJ (bw (St.L S) (St.H S) []) S)=dd6 G n R S K) ⟨[(0,.one (.p 0 0)),(4,.one (.p 1 0)),(5,.one (.s ae))],[.box [.l .s v,.l (.n 5) w,.l (.n 8) y,.s A,.i h0,.b h],.box [.i h1,.s j,.i t,.o 2],.row (.n 1) 0 h2]⟩:=QA
theorem s6_1(G:Gs)(n:Nat)(R:Type)(ae:Z)(v:LB)(w:LS)(y:LO)(A:Z)(h0:Int)(d:Bool)(h1:Int)(h:Z)(j:Int)(h2:LT)(K:Kt R):(λt:St=>dY tb (cP (ax G)) an.nt an.im (fk (q6)) (eL [1,2] t.H) [6,7,0,1,2,3,4,5,8,9] [7,5] [] [] [6,7,0,1,2,3,4,5,8,9] t.L t.H t.H λL H=>iW an.refs ⟨[0,4,5,6],[4],[]⟩ K .normal ⟨L,H⟩) (cJ (bw (St.L ⟨[(0,.one (.p 0 0)),(4,.one (.p 1 0)),(5,.one (.s ae))],[.box [.l .s v,.l (.n 5) w,.l (.n 8) y,.s A,.i h0,.b d],.box [.i h1,.s h,.i j,.o 2],.row (.n 1) 0 h2]⟩) (St.H ⟨[(0,.one (.p 0 0)),(4,.one (.p 1 0)),(5,.one (.s ae))],[.box [.l .s v,.l (.n 5) w,.l (.n 8) y,.s A,.i h0,.b d],.box [.i h1,.s h,.i j,.o 2],.row (.n 1) 0 h2]⟩) []) ⟨[(0,.one (.p 0 0)),(4,.one (.p 1 0)),(5,.one (.s ae))],[.box [.l .s v,.l (.n 5) w,.l (.n 8) y,.s A,.i h0,.b d],.box [.i h1,.s h,.i j,.o 2],.row (.n 1) 0 h2]⟩)=LQ G n v w y A ae h0 d h1 h j h2 (λag B=>K .normal ⟨[(0,.one (.p 0 0)),(4,.one (.p 1 0)),(5,.one (.s ae)),(6,.one (.i ag))],[.box [.l .s v,.l (.n 5) w,.l (.n 8) y,.s A,.i B,.b d],.box [.i h1,.s h,.i j,.o 2],.row (.n 1) 0 h2]⟩):=F1
theorem pd6{G:Gs}(H:am (ax G)){n:Nat}:al an (q6) (dd6 G n):=by
 have hc:q6= .region 6 (fk (q6)) true:=F1
 rw[hc];refine λ[Zb]=>jB mixed ki (iS H) (o:=⟨[0,4,5,6],[4],[]⟩) (d:=⟨[([0,1,2,3,4,5,6,7,8,9],[5,7],[]),([6,7,0,1,2,3,4,5,8,9],[7,5],[])],[5,7],[],[1,2],[0,4,5]⟩) F1 (λp hp R st K r h=> ?_)
 have e:=h;unfold dd6 at e;split at e
 .rename_i t v w y A B C D E F j;simp only[Oz,Ps,or_false]at hp;rcases hp with rfl|rfl
  .exact(s6_0 G n R t v w y A B C D E F j K).trans h
  .exact((s6_1 G n R t v w y A B C D E F j K).trans (e6_1 G n v w y A t B C D E F j _)).trans h
 .cases e
theorem pc8{G:Gs}(d:am (ax G)){n:Nat}:al an q8 (dc8 G n):=cpq d (pc G n) ⟨[0,1,4,5],[4],[]⟩
theorem No{G:Gs}(d:am (ax G))(n:Nat):∀m,al an (.loop q11) (FO G n m):=lpq d (pc G n) ⟨[0,1,4,7],[4],[(0,[0,1,4,7])]⟩
theorem pl17{G:Gs}(d:am (ax G))(n:Nat):∀m,al an (.loop q17) (dl17 G n m):=lpq d (pc G n) ⟨[0,4,7,9],[4],[(2,[0,4,7,9])]⟩
theorem pc22{G:Gs}(d:am (ax G)){n:Nat}:al an q22 (dc22 G n):=cpq d (pc G n) ⟨[0,4,7,9],[4],[]⟩
theorem Ij{G:Gs}(d:am (ax G)){n:Nat}:al an q21 (yL G n):=cpq d (pc G n) ⟨[],[4],[]⟩ (apl [(0,22,q22)] ⟨pc22 d,trivial⟩)
theorem ok{G:Gs}(h:am (ax G)){g:Q}(D:∀t v w y B C d r,g t v w y B C d=some r->∃n,aq (R:=AT×RV Ob) G n t v w y B C d (λA E F=>some (.agg [.i A.op,.s A.ae,.i A.ag,.l (.n 1) A.ac],[.box [.l .s t,.l (.n 5) v,.l (.n 8) w,.s y,.i E,.b F]]))=some (.agg [.i r.1.op,.s r.1.ae,.i r.1.ag,.l (.n 1) r.1.ac],[.box [.l .s t,.l (.n 5) v,.l (.n 8) w,.s y,.i r.2.1,.b r.2.2]])):aj (ent g):=okQ λ_ _ _ _ _ _ _ _ _ _ hc=>okL hc λr j=>let⟨n,j⟩:=D _ _ _ _ _ _ _ _ j;fF h an (pc G n) Tryz.func60 j (apl [(0,3,q3),(2,6,q6),(0,8,q8),(1,11,.loop q11),(1,17,.loop q17),(0,21,q21)] ⟨pc3 h,⟨pd6 h,⟨pc8 h,⟨No h n n,⟨pl17 h n n,⟨Ij h,trivial⟩⟩⟩⟩⟩⟩)
end z54
namespace z3s
structure Gs where
 z3k:z3k.Q
 z54:z54.Q
 z56:z56.Q
def aq{R:Type}(G:Gs)(n:Nat)(s:Sg)(text:Z)(K:Tm->Bool->Y R):Y R:=
 (G.z3k s).bind λr=>
 bif !r then
  (K (Tm.mk 0 ByteArray.empty 0 []) false)
 else
  bif decide (2000<(ByteArray.size text:Int))then
   (K (Tm.mk 0 ByteArray.empty 0 []) false)
  else
   (G.z54 s.ai.ah s.ai.ak s.ops text 0 false 1).bind λd=>
   (G.z56 s.ai.ah s.ai.ak s.ops text d.2.1 d.2.2).bind λh=>
   bif d.2.2 then
    (K (Tm.mk 0 ByteArray.empty 0 []) false)
   else
    bif !decide (h=(ByteArray.size text:Int))then
     (K (Tm.mk 0 ByteArray.empty 0 []) false)
    else
     K (Tm.mk d.1.op d.1.ae d.1.ag d.1.ac) true
theorem ok{G:Gs}(h:am [z3k.ent G.z3k,z54.ent G.z54,z56.ent G.z56]){g:Q}(t:∀s text r,g s text=some r->∃n,aq (R:=AT×RV Ob) G n s text (λd v=>some (.tup [.agg [.i d.op,.s d.ae,.i d.ag,.l (.n 1) d.ac],.one (.b v)],[]))=some (.tup [.agg [.i r.1.op,.s r.1.ae,.i r.1.ag,.l (.n 1) r.1.ac],.one (.b r.2)],[])):aj (ent g):=okQ λ_ _ _ _ _ _ _ hc=>okL hc λr j=>let⟨_,j⟩:=t _ _ _ j;fF h ⟨33,0,[],[],[4,5],[],[]⟩ nP Tryz.func35 j
end z3s
end
end Go.Proofs.YtigoabbppmdfpaaGreat.Den

/- merged -/
import Derived.Test.YtigoabbppmdfpaaGreatZRowPE8
import Derived.Test.YtigoabbppmdfpaaGreatZRowPE14
import Derived.Test.YtigoabbppmdfpaaGreatZRowPE16
import Derived.Test.YtigoabbppmdfpaaGreatZRowPE23

namespace Go.Proofs.YtigoabbppmdfpaaGreat.Den
open Go.RowKit
set_option maxRecDepth 100000
set_option linter.unusedVariables false
noncomputable section
namespace z4k
structure Gs where
 z3b:z3b.Q
 z4l:z4l.Q
def ax(G:Gs):RV Ent:=[z3b.ent G.z3b,z4l.ent G.z4l]
def b2{R:Type}(G:Gs)(n:Nat)(list:LT)(h0:Int)(j:Z)(t:Int)(v:LT)(d:Int)(nx w:Int->Y R):Y R:=bif decide (d<(List.length list:Int))then((ix list d).bind λh=>(G.z3b (Tm.mk h.op h.ae h.ag h.ac) (Tm.mk h0 j t v)).bind λy=>bif decide (y<0)then(nx (wr (d+1)))else w d)else w d
def l2{R:Type}(G:Gs)(n m:Nat)(list:LT)(h0:Int)(d:Z)(h:Int)(j:LT)(t:Int)(w:Int->Y R):Y R:=aS (λ(v:Int) nx=>b2 G n list h0 d h j v (λy=>nx y) w) m t
def c6{R:Type}(G:Gs)(n:Nat)(list:LT)(d h0:Int)(h:Z)(j:Int)(t:LT)(B:LT->Y R):Y R:=(sub list 0 d).bind λv=>(lim ([]++v)).bind λzs=>(lim (zs++[(Tm.mk h0 h j t)])).bind λw=>(sub list d (List.length list:Int)).bind λy=>(lim (w++y)).bind λA=>B A
def aq{R:Type}(G:Gs)(n:Nat)(list:LT)(t:Tm)(K:LT->Y R):Y R:=
 l2 G n n list t.op t.ae t.ag t.ac 0
  (fun d=>
   bif decide (d<(List.length list:Int))then
    (
    (ix list d).bind λj=>
    (G.z4l (Tm.mk j.op j.ae j.ag j.ac) (Tm.mk t.op t.ae t.ag t.ac)).bind λw=>
    bif w then
     (K list)
    else
     c6 G n list d t.op t.ae t.ag t.ac
      (λv=>K v)
    )
   else
    c6 G n list d t.op t.ae t.ag t.ac
     (λh=>K h)
  )
def dl2(G:Gs)(n m:Nat):=rS [0,3,5] [.x (.l (.n 1)),.x (.p 0 0),.x .i] [.b [.i,.s,.i,.l (.n 1)]] λR K list v h0 d h j=>l2 G n m list h0 d h j v (λt=>K (.exit 0) ⟨[(0,.one (.l (.n 1) list)),(3,.one (.p 0 0)),(5,.one (.i t))],[.box [.i h0,.s d,.i h,.l (.n 1) j]]⟩)
def dc6(G:Gs)(n:Nat):=rS [0,3,5] [.x (.l (.n 1)),.x (.p 0 0),.x .i] [.b [.i,.s,.i,.l (.n 1)]] λR K list d h0 h j t=>c6 G n list d h0 h j t (λv=>K .ret ⟨[(4,.one (.o 0))],[.row (.n 1) 0 v]⟩)
def pc(G:Gs)(n:Nat):Pcs:=⟨λR id st K=>bif Nat.beq id 2 then dl2 G n n R st K else none,λR id st K=>bif Nat.beq id 6 then dc6 G n R st K else none,nK⟩
def an:Ann:=⟨48,0,[(2,[0,3,5])],[(6,[0,3,5])],[4],[(2,⟨[([0,1,2,3,4,5,6,7,8,9,10,11,12],[],[])],[],[],[0],[]⟩),(4,⟨[([0,1,2,3,4,5,6,7,8,9,10,11],[],[])],[],[],[0],[]⟩),(6,⟨[([0,1,2,3,4,5,6,7,8],[0,4,7],[])],[0,4,7],[],[0],[]⟩)],[]⟩
abbrev bd:=aF Tryz.f133
abbrev q2:=aJ [1,1,0,0,0] bd
abbrev q6:=aJ [1,1,1,1] bd
theorem pl2{G:Gs}(d:am (ax G))(n:Nat):∀m,al an (.loop q2) (dl2 G n m):=lpq d (pc G n) ⟨[0,3,5],[4],[(0,[0,3,5])]⟩
theorem pc6{G:Gs}(d:am (ax G)){n:Nat}:al an q6 (dc6 G n):=cpq d (pc G n) ⟨[],[4],[]⟩
theorem ok{G:Gs}(d:am (ax G)){g:Q}(h:∀list t r,g list t=some r->∃n,aq (R:=AT×RV Ob) G n list t (λv=>some (.one (.l (.n 1) v),[]))=some (.one (.l (.n 1) r),[])):aj (ent g):=okQ λ_ _ _ _ _ _ _ _ hc=>okL hc λr j=>let⟨n,j⟩:=h _ _ _ j;fF d an (pc G n) Tryz.func133 j (apl [(1,2,.loop q2),(0,6,q6)] ⟨pl2 d n n,⟨pc6 d,trivial⟩⟩)
end z4k
namespace z4f
structure Gs where
 z4m:z4m.Q
 z4k:z4k.Q
 z4f:z4f.Q
def ax(G:Gs):RV Ent:=[z4m.ent G.z4m,z4k.ent G.z4k,ent G.z4f]
def b4{R:Type}(G:Gs)(n:Nat)(h0:Int)(h:Z)(j:Int)(d list:LT)(i:Int)(nx:LT->Int->Y R)(t:LT->Y R):Y R:=bif decide (i<(List.length d:Int))then((ix d i).bind λe=>(G.z4f (Tm.mk e.op e.ae e.ag e.ac) list).bind λr=>nx r (wr (i+1)))else t list
def l4{R:Type}(G:Gs)(n m:Nat)(h0:Int)(d:Z)(h:Int)(j list:LT)(i:Int)(t:LT->Y R):Y R:=aS (λ(v:LT×Int) nx=>b4 G n h0 d h j v.1 v.2 (λw y=>nx (w,y)) t) m (list,i)
def aq{R:Type}(G:Gs)(n:Nat)(t:Tm)(list:LT)(K:LT->Y R):Y R:=
 bif decide (t.op=(-1))then
  (
  (G.z4m t.ae t.ag).bind λr=>
  (G.z4k list (Tm.mk r.op r.ae r.ag r.ac)).bind λh=>
  K h
  )
 else
  l4 G n n t.op t.ae t.ag t.ac list 0
   (λd=>K d)
def dl4(G:Gs)(n m:Nat):=rS [1,2,5] [.x (.l (.n 1)),.x (.p 0 0),.x .i] [.b [.i,.s,.i,.l (.n 1)]] λR K list i h0 h j t=>l4 G n m h0 h j t list i (λd=>K (.exit 0) ⟨[(1,.one (.l (.n 1) d))],[]⟩)
def pc(G:Gs)(n:Nat):Pcs:=⟨λR id st K=>bif Nat.beq id 4 then dl4 G n n R st K else none,nK,nK⟩
def an:Ann:=⟨31,0,[(4,[1,2,5])],[],[4],[],[]⟩
abbrev bd:=aF Tryz.f98
abbrev q4:=aJ [1,1,0,1,0,0] bd
theorem pl4{G:Gs}(d:am (ax G))(n:Nat):∀m,al an (.loop q4) (dl4 G n m):=lpq d (pc G n) ⟨[1],[4],[(0,[1])]⟩
theorem ok{G:Gs}(d:am (ax G)){g:Q}(h:∀t list r,g t list=some r->∃n,aq (R:=AT×RV Ob) G n t list (λv=>some (.one (.l (.n 1) v),[]))=some (.one (.l (.n 1) r),[])):aj (ent g):=okQ λ_ _ _ _ _ _ _ _ hc=>okL hc λr j=>let⟨n,j⟩:=h _ _ _ j;fF d an (pc G n) Tryz.func98 j (apl [(1,4,.loop q4)] ⟨pl4 d n n,trivial⟩)
end z4f
namespace z3w
structure Gs where
 z4f:z4f.Q
def aq{R:Type}(G:Gs)(n:Nat)(t:Tm)(K:LT->Y R):Y R:=
 (G.z4f (Tm.mk t.op t.ae t.ag t.ac) []).bind λr=>
 K r
theorem ok{G:Gs}(d:am [z4f.ent G.z4f]){g:Q}(h:∀t r,g t=some r->∃n,aq (R:=AT×RV Ob) G n t (λv=>some (.one (.l (.n 1) v),[]))=some (.one (.l (.n 1) r),[])):aj (ent g):=okQ λ_ _ _ _ _ _ _ hc=>okL hc λr j=>let⟨_,j⟩:=h _ _ j;fF d ⟨6,0,[],[],[2],[],[]⟩ nP Tryz.func63 j
end z3w
namespace z1i
structure Gs where
 z0a:z0a.Q
def aq{R:Type}(G:Gs)(n:Nat)(a b:Tm)(K:Bool->Y R):Y R:=
 (G.z0a (Tm.mk a.op a.ae a.ag a.ac) (Tm.mk b.op b.ae b.ag b.ac)).bind λr=>
 K (decide (r=0))
theorem ok{G:Gs}(d:am [z0a.ent G.z0a]){g:Q}(h:∀a b r,g a b=some r->∃n,aq (R:=AT×RV Ob) G n a b (λt=>some (.one (.b t),[]))=some (.one (.b r),[])):aj (ent g):=okQ λ_ _ _ _ _ _ _ _ _ _ _ hc=>okL hc λr j=>let⟨_,j⟩:=h _ _ _ j;fF d ⟨9,0,[],[],[4],[],[]⟩ nP Tryz.func115 j
end z1i
namespace z0q
structure Gs where
 z0q:z0q.Q
def ax(G:Gs):RV Ent:=[ent G.z0q]
def d2{R:Type}(G:Gs)(n:Nat)(h:LT)(h4:Int)(j:Z)(t:Int)(v:LT)(w:LT->Y R):Y R:=(lim (h++[(Tm.mk 0 ByteArray.empty 0 [])])).bind λd=>(ix d (List.length h:Int)).bind λy=>w (List.set d (Int.toNat (List.length h:Int)) (Tm.mk (-1) j t []))
def Lo{R:Type}(G:Gs)(n:Nat)(d:LT)(h4:Int)(h:Z)(j:Int)(t:LT)(v:LT->Y R):Y R:=
 (lim (d++[(Tm.mk 0 ByteArray.empty 0 [])])).bind λzs=>
 (ix zs (List.length d:Int)).bind λe=>
 v (List.set zs (Int.toNat (List.length d:Int)) (Tm.mk (-1) h j []))
theorem e2_1{R:Type}(G:Gs)(n:Nat)(t:LT)(h4:Int)(d:Z)(h:Int)(j:LT)(v:LT->Y R):Lo G n t h4 d h j v=d2 G n t h4 d h j v:=by
 unfold Lo d2;generalize lim (t++[(Tm.mk 0 ByteArray.empty 0 [])])=w;cases w<;>first|rfl|simp
def Nl{R:Type}(G:Gs)(n:Nat)(d:LT)(h4:Int)(h:Z)(j:Int)(t:LT)(v:LT->Y R):Y R:=
 (lim (d++[(Tm.mk 0 ByteArray.empty 0 [])])).bind λzs=>
 (ix zs (List.length d:Int)).bind λe=>
 v (List.set zs (Int.toNat (List.length d:Int)) (Tm.mk (-1) h j []))
theorem e2_2{R:Type}(G:Gs)(n:Nat)(t:LT)(h4:Int)(d:Z)(h:Int)(j:LT)(v:LT->Y R):Nl G n t h4 d h j v=d2 G n t h4 d h j v:=by
 unfold Nl d2;generalize lim (t++[(Tm.mk 0 ByteArray.empty 0 [])])=w;cases w<;>first|rfl|simp
def b4{R:Type}(G:Gs)(n:Nat)(t20:LT)(d t22:Int)(h:LT)(nx:Int->LT->Y R)(j:LT->Y R):Y R:=bif decide (t22<d)then((ix t20 t22).bind λe=>(G.z0q (Tm.mk e.op e.ae e.ag e.ac) h).bind λr=>nx (wr (t22+1)) r)else j h
def l4{R:Type}(G:Gs)(n m:Nat)(t20:LT)(d t22:Int)(h:LT)(j:LT->Y R):Y R:=aS (λ(v:Int×LT) nx=>b4 G n t20 d v.1 v.2 (λt w=>nx (t,w)) j) m (t22,h)
def aq{R:Type}(G:Gs)(n:Nat)(t:Tm)(j:LT)(K:LT->Y R):Y R:=
 bif decide (t.op=(-1))then
  (
  d2 G n j t.op t.ae t.ag t.ac
   (λh=>K h)
  )
 else
  l4 G n n t.ac (List.length t.ac:Int) 0 j
   (λd=>K d)
def dd2(G:Gs)(n:Nat)(R:Type)(st:St)(K:Kt R):Y R:=match st with|⟨[(1,.one (.p 0 0)),(3,.one (.p 4 0))],[.box [.o 3],.aN,.box [.f 111 [.p 0 0,.p 2 0]],.row (.n 1) 0 v,.box [.i h4,.s d,.i h,.l (.n 1) j]]⟩=>d2 G n v h4 d h j (λt=>K .normal ⟨[],[.box [.o 3],.aN,.box [.f 111 [.p 0 0,.p 2 0]],.row (.n 1) 0 t]⟩)|_=>none
def dl4(G:Gs)(n m:Nat)(R:Type)(st:St)(K:Kt R):Y R:=match st with|⟨[(2,.one (.p 2 0)),(20,.one (.l (.n 1) t20)),(21,.one (.i d)),(22,.one (.i t22))],[.box [.o 3],.aN,.box [.f 111 [.p 0 0,.p 2 0]],.row (.n 1) 0 j]⟩=>l4 G n m t20 d t22 j (λh=>K (.exit 0) ⟨[],[.box [.o 3],.aN,.box [.f 111 [.p 0 0,.p 2 0]],.row (.n 1) 0 h]⟩)|_=>none
def pc(G:Gs)(n:Nat):Pcs:=⟨λR id st K=>bif Nat.beq id 4 then dl4 G n n R st K else none,nK,λR id st K=>bif Nat.beq id 2 then dd2 G n R st K else none⟩
def an:Ann:=⟨30,3,[(4,[2,20,21,22])],[],[],[(2,⟨[([0,1,2,3,4,5,6,7,8,9,10,11],[8,9,10,11],[0,6]),([0,1,2,3,4,5,6,7,8,9,11,10],[8,9,11,10],[0,6]),([0,1,2,3,4,5,6,7,8,11,9,10],[8,11,9,10],[0,6])],[8,9,10,11],[],[2,4],[1,3]⟩)],[]⟩
abbrev bd:=aF Tryz.f111
abbrev q2:=aJ [1,0,1,0,0] bd
abbrev q4:=aJ [1,1,1,0,0] bd
theorem s2_0(G:Gs)(n:Nat)(R:Type)(v:LT)(h4:Int)(h:Z)(j:Int)(t:LT)(K:Kt R):(λS:St=>(λd:St=>dY tb (cP (ax G)) an.nt an.im (fk (q2)) (eL [2,4] d.H) [0,1,2,3,4,5,6,7,8,9,10,11] [8,9,10,11] [0,6] [] [0,1,2,3,4,5,6,7,8,9,10,11] d.L d.H d.H λL H=>iW an.refs ⟨[],[],[]⟩ K .normal ⟨L,H⟩) (cJ (bw (St.L S) (St.H S) []) S)=dd2 G n R S K) ⟨[(1,.one (.p 0 0)),(3,.one (.p 4 0))],[.box [.o 3],.aN,.box [.f 111 [.p 0 0,.p 2 0]],.row (.n 1) 0 v,.box [.i h4,.s h,.i j,.l (.n 1) t]]⟩:=QA
theorem s2_1(G:Gs)(n:Nat)(R:Type)(v:LT)(h4:Int)(d:Z)(h:Int)(j:LT)(K:Kt R):(λt:St=>dY tb (cP (ax G)) an.nt an.im (fk (q2)) (eL [2,4] t.H) [0,1,2,3,4,5,6,7,8,9,11,10] [8,9,11,10] [0,6] [] [0,1,2,3,4,5,6,7,8,9,11,10] t.L t.H t.H λL H=>iW an.refs ⟨[],[],[]⟩ K .normal ⟨L,H⟩) (cJ (bw (St.L ⟨[(1,.one (.p 0 0)),(3,.one (.p 4 0))],[.box [.o 3],.aN,.box [.f 111 [.p 0 0,.p 2 0]],.row (.n 1) 0 v,.box [.i h4,.s d,.i h,.l (.n 1) j]]⟩) (St.H ⟨[(1,.one (.p 0 0)),(3,.one (.p 4 0))],[.box [.o 3],.aN,.box [.f 111 [.p 0 0,.p 2 0]],.row (.n 1) 0 v,.box [.i h4,.s d,.i h,.l (.n 1) j]]⟩) []) ⟨[(1,.one (.p 0 0)),(3,.one (.p 4 0))],[.box [.o 3],.aN,.box [.f 111 [.p 0 0,.p 2 0]],.row (.n 1) 0 v,.box [.i h4,.s d,.i h,.l (.n 1) j]]⟩)=Lo G n v h4 d h j (λw=>K .normal ⟨[],[.box [.o 3],.aN,.box [.f 111 [.p 0 0,.p 2 0]],.row (.n 1) 0 w]⟩):=F1
theorem s2_2(G:Gs)(n:Nat)(R:Type)(v:LT)(h4:Int)(d:Z)(h:Int)(j:LT)(K:Kt R):(λt:St=>dY tb (cP (ax G)) an.nt an.im (fk (q2)) (eL [2,4] t.H) [0,1,2,3,4,5,6,7,8,11,9,10] [8,11,9,10] [0,6] [] [0,1,2,3,4,5,6,7,8,11,9,10] t.L t.H t.H λL H=>iW an.refs ⟨[],[],[]⟩ K .normal ⟨L,H⟩) (cJ (bw (St.L ⟨[(1,.one (.p 0 0)),(3,.one (.p 4 0))],[.box [.o 3],.aN,.box [.f 111 [.p 0 0,.p 2 0]],.row (.n 1) 0 v,.box [.i h4,.s d,.i h,.l (.n 1) j]]⟩) (St.H ⟨[(1,.one (.p 0 0)),(3,.one (.p 4 0))],[.box [.o 3],.aN,.box [.f 111 [.p 0 0,.p 2 0]],.row (.n 1) 0 v,.box [.i h4,.s d,.i h,.l (.n 1) j]]⟩) []) ⟨[(1,.one (.p 0 0)),(3,.one (.p 4 0))],[.box [.o 3],.aN,.box [.f 111 [.p 0 0,.p 2 0]],.row (.n 1) 0 v,.box [.i h4,.s d,.i h,.l (.n 1) j]]⟩)=Nl G n v h4 d h j (λw=>K .normal ⟨[],[.box [.o 3],.aN,.box [.f 111 [.p 0 0,.p 2 0]],.row (.n 1) 0 w]⟩):=F1
theorem pd2{G:Gs}(A:am (ax G)){n:Nat}:al an (q2) (dd2 G n):=by
 have hc:q2= .region 2 (fk (q2)) true:=F1
 rw[hc];refine λ[Zb]=>jB mixed ki (iS A) (o:=⟨[],[],[]⟩) (d:=⟨[([0,1,2,3,4,5,6,7,8,9,10,11],[8,9,10,11],[0,6]),([0,1,2,3,4,5,6,7,8,9,11,10],[8,9,11,10],[0,6]),([0,1,2,3,4,5,6,7,8,11,9,10],[8,11,9,10],[0,6])],[8,9,10,11],[],[2,4],[1,3]⟩) F1 (λp hp R st K r h=> ?_)
 have e:=h;unfold dd2 at e;split at e
 .rename_i j t v w y;simp only[Oz,Ps,or_false]at hp;rcases hp with rfl|rfl|rfl
  .exact(s2_0 G n R j t v w y K).trans h
  .exact((s2_1 G n R j t v w y K).trans (e2_1 G n j t v w y _)).trans h
  .exact((s2_2 G n R j t v w y K).trans (e2_2 G n j t v w y _)).trans h
 .cases e
theorem pl4{G:Gs}(d:am (ax G))(n:Nat):∀m,al an (.loop q4) (dl4 G n m):=lpc d (pc G n) [2,20,21,22] ⟨[],[],[(0,[])]⟩ (apl [] trivial) (λR st K=>by unfold dl4;split<;>rfl) λm R st K r h=>by unfold dl4 at h;split at h;exact .trans F1 h;cases h
theorem ok{G:Gs}(d:am (ax G)){g:Q}(w:∀t v r,g t v=some r->∃n,aq (R:=AT×RV Ob) G n t v (λy=>some (.tup [],[.box [.o 3],.aN,.box [.f 111 [.p 0 0,.p 2 0]],.row (.n 1) 0 y]))=some (.tup [],[.box [.o 3],.aN,.box [.f 111 [.p 0 0,.p 2 0]],.row (.n 1) 0 r])):aj (ent g):=λR xs H K r hc=>by
 simp only[ent]at hc;split at hc
 .rename_i a A a3 a4 h;exact okL hc λr j=>let⟨n,j⟩:=w _ _ _ j;rF d an (pc G n) [1] (xs2:=[.agg [.i a,.s A,.i a3,.l (.n 1) a4],.one (.p 0 0),.one (.p 2 0)]) (H2:=[.box [.o 3],.aN,.box [.f 111 [.p 0 0,.p 2 0]],.row (.n 1) 0 h]) Tryz.func111 j (apl [(2,2,q2),(1,4,.loop q4)] ⟨pd2 d,⟨pl4 d n n,trivial⟩⟩)
 .cases hc
end z0q
namespace z0p
structure Gs where
 z0q:z0q.Q
 z19:z19.Q
def aq{R:Type}(G:Gs)(n:Nat)(t:Tm)(K:LT->Y R):Y R:=
 (G.z0q (Tm.mk t.op t.ae t.ag t.ac) []).bind λr=>
 (G.z19 r).bind λd=>
 K d
theorem ok{G:Gs}(d:am [z0q.ent G.z0q,z19.ent G.z19]){g:Q}(h:∀t r,g t=some r->∃n,aq (R:=AT×RV Ob) G n t (λv=>some (.one (.l (.n 1) v),[]))=some (.one (.l (.n 1) r),[])):aj (ent g):=okQ λ_ _ _ _ _ _ _ hc=>okL hc λr j=>let⟨_,j⟩:=h _ _ j;fF d ⟨12,0,[],[],[2],[],[]⟩ nP Tryz.func78 j
end z0p
end
end Go.Proofs.YtigoabbppmdfpaaGreat.Den
namespace Go.Proofs.YtigoabbppmdfpaaGreat.Abs
open Go.RowKit
theorem AE{P:Program}{f:FuncId}{h:aD}{a len s:Nat}{es:RV (RV V)}{v:V}(hc:ga P f)(j:h[a]? =some (some (.row s es)))
  (F:∀[Zb](w:World)(I:Nat->Prop)(ι:RV Inf)(cs:Array Value)(inf:Inf),HR ι I w h->(∀b,I b->b<w.heap.size)->ι[a]? =some inf->ARs ι I w [.one (.own a 0 len)] cs->Calls P f cs w λe w'=>∃u,e= .returned u/\Chg inf.block w w'/\VR (λb=>I b\/b=inf.block) w' [] v u):
  Fn P f [.one (.own a 0 len)] h (λr h'=>r= .one v/\h'=h.set a none):=
 ⟨hc, fun w I ι cs d D hA=>by
  have E:a<h.length:=(gI.1 j).1;obtain⟨inf,hi⟩:∃inf,ι[a]? =some inf:=⟨_,gE (by rw[<-d.len];exact E)⟩;have y:inf.block<w.heap.size:=by
   obtain⟨cur,t,e,_⟩:=d.obj a _ inf j hi;exact jF e
  have A:=d.off a _ inf j hi
  have old:∀{id:Nat}{o:Ob}{inf':Inf},(h.set a none)[id]? =some (some o)->ι[id]? =some inf'->id≠a/\h[id]? =some (some o)/\inf'.block≠inf.block:=λ{id o inf'} q1 q2=>by
   by_cases e:id=a
   .grind
   .rw[sN (λq=>e q.symm)]at q1;exact⟨e,q1,λq=>e (d.inj id a o _ inf' inf q1 j q2 hi q)⟩
  have blk:∀{id:Nat}{o:Ob}{inf':Inf},h[id]? =some (some o)->ι[id]? =some inf'->inf'.block<w.heap.size:=λ{id o inf'} q1 q2=>by
   have ho:=d.obj id o inf' q1 q2;cases o with
   |row s es=>obtain⟨cur,t,e,_⟩:=ho;exact jF e
   |map kvs=>obtain⟨cur,t,e,_⟩:=ho;exact jF e
  refine(F w I ι cs inf d D hi hA).mono λ_ w' ⟨u,G,hb,H⟩=> ?_;have J:cB I (λb=>I b\/b=inf.block) w w':=⟨λ_ q=>.inl q,λb q=>by
   rw[hb.block b (D b q) λe=>A (e▸q)]⟩
  exact⟨_,_,ι,λb=>I b\/b=inf.block,u,⟨rfl,rfl⟩,G,
  { res := .one H.up
    heap :=
      { len:=by rw[PG];exact d.len
        obj:=λid o inf' q1 q2=>by
          obtain⟨_,q3,q4⟩:=old q1 q2;exact(d.obj id o inf' q3 q2).aB (bn.refl _) J (hb.block _ (blk q3 q2) q4)
        off:=λid o inf' q1 q2 q=>by
          obtain⟨_,q3,q4⟩:=old q1 q2;exact q.elim (d.off id o inf' q3 q2) q4
        inj:=λid id' o o' B C q1 q2 q3 q4 e=>d.inj id id' o o' B C (old q1 q3).2.1 (old q2 q4).2.1 q3 q4 e
        sub:=λb c t q=>.inl (d.sub b c t q)}
    imm:=λb q=>NV (q.elim (D b) λq=>q▸y) hb.size
    cY:=λb q=>q.elim .inl λq=>.inr (.inl ⟨a,_,inf,j,hi,q.symm⟩)
    pre:=bn.refl _
    os:=hb.os
    tape:=hb.tape
    output:=hb.output
    grown:=hb.size
    frame:=λb hlt K=>hb.block b hlt λe=>K ⟨a,_,inf,j,hi,e.symm⟩
    cc:=λid o inf' q1 q2=>.inl ⟨id,o,inf',(old q1 q2).2.1,q2,rfl⟩}⟩⟩
end Go.Proofs.YtigoabbppmdfpaaGreat.Abs
namespace Go.Proofs.YtigoabbppmdfpaaGreat.Den
open Go.RowKit
open Abs (V AV VR AR Inf OR HR)
def jR(x:Tm):RV V:=[.lit (.int .i64 x.op),.lit (.string x.ae),.lit (.int .i64 x.ag),.imm 4 []]
theorem B3{l:RV Tm}(h:∀x∈l,x.ac=[]):FR (.l (.n 1) l) (.imm 4 (l.map jR)):=by
 refine .l (T:=.n 1) D2 (Ol jR) (λe he=>by obtain⟨x,_,rfl⟩:=List.mem_map.1 he;rfl) λm h1 h2 j d h4=> ?_;have hm:l[m]∈l:=gM h1;have e:(l.map jR)[m]=jR l[m]:=NY jR;simp only[e];have t:j<4:=d;have v:=h _ hm
 match j,t with
 |0,_=>exact .i
 |1,_=>exact .s
 |2,_=>exact .i
 | 3,_=>
  show FR (.l (.n 1) (Tm.ac l[m])) (.imm 4 []);rw[v];exact FR.et (T:=.n 1) D2
def Lf.ok(x:Lf):Prop:=Abs.cq (.int .i64 x.op)/\Abs.cq (.string x.ae)/\Abs.cq (.int .i64 x.ag)/\x.c<=9223372036854775807
theorem Ba{α:Type}{P:Nat->α->Prop}:∀(n:Nat),(∀k,k<n->∃x,P k x)->∃l:RV α,l.length=n/\∀k x,l[k]? =some x->P k x
 |0,_=>⟨[],rfl,λk x h=>H0⟩
 | n+1,h=>by
  obtain⟨l,l1,l2⟩:=Ba n λk hk=>h k A1;obtain⟨x,hx⟩:=h n A1;refine⟨l++[x],by simp[l1],λk y d=> ?_⟩;rcases ON k n with hk|hk
  .grind
  .grind
theorem Gb{I:Nat->Prop}{w:World}{ι:RV Inf}{inf:Inf}{h:RV Tm}{es:RV (RV V)}(F:∀x∈h,x.ac=[])(M:FR (.l (.n 1) h) (.imm 4 es))(ho:OR ι I w inf (.row 4 es)):
  ∃(d:RV Lf)(t:TypeId)(n:Nat),d.map Lf.tm=h/\Rw w inf.block t n inf.base d/\∀x∈d,Lf.ok x:=by
 obtain⟨cur,t,h1,_,N,_,W,_,O⟩:=ho;cases M with
 | l _ hl hs hr=>
  have hl:es.length=List.length (α:=Tm) h:=hl;obtain⟨d,Q,d2⟩:=Ba (P:=λk (x:Lf)=>At4 w inf.block (inf.base+k*4) x/\h[k]? =some x.tm/\Lf.ok x) h.length λk hk=>by
   have v:k<es.length:=A1
   have bJ:es[k].length=4:=hs _ (gM v);have cell:=λ(j:Nat)(G:j<4)=>O k v j A1
   have fr:=λ(j:Nat)(G:j<4)=>hr k hk v j G A1
   obtain⟨u0,R,v0⟩:=cell 0 A1;obtain⟨u1,c1,v1⟩:=cell 1 A1;obtain⟨u2,c2,H⟩:=cell 2 A1;obtain⟨u3,c3,v3⟩:=cell 3 A1;have J:FR (.i (Tm.op h[k])) es[k][0]:=fr 0 A1;have K:FR (.s (Tm.ae h[k])) es[k][1]:=fr 1 A1;have L:FR (.i (Tm.ag h[k])) es[k][2]:=fr 2 A1;have B:FR (.l (.n 1) (Tm.ac h[k])) es[k][3]:=fr 3 A1;rw[F _ (gM hk)]at B;generalize es[k][0]=X at v0 J;generalize es[k][1]=Y at v1 K;generalize es[k][2]=Z at H L;generalize es[k][3]=e3 at v3 B;cases J;cases K;cases L;cases v0 with
   |lit S=>
   cases v1 with
   |lit T=>
   cases H with
   |lit U=>
   obtain⟨A,c,rfl,hc⟩:∃A c,u3= .slice A 0 c/\c<=9223372036854775807:=by
    cases B with
    | @l _ _ C _ D _ _=>
     have:C=[]:=nZ D;subst this;cases v3 with
     |dC hc=>exact⟨_,_,rfl,hc⟩
     |imm hs hc hm hI E hr=>exact⟨_,_,rfl,hm⟩
   refine⟨⟨Tm.op h[k],Tm.ae h[k],Tm.ag h[k],A,c⟩,⟨?_,?_,?_,?_⟩,?_,S,T,U,hc⟩
   .rw[nk h1];exact R
   .rw[nk h1,Oc];exact c1
   .rw[nk h1,Oc];exact c2
   .rw[nk h1,Oc];exact c3
   .rw[gE hk];have y:=F _ (gM hk);generalize h[k]=z at y ⊢;obtain⟨o,n,s,ar⟩:=z;have y:ar=[]:=y;subst y;rfl
  refine⟨d,t,cur.size,?_,⟨⟨cur,h1,rfl⟩,by rw[N,Q,<-hl];omega,λk x hx=>(d2 k x hx).1⟩,λx hx=> ?_⟩
  .refine List.ext_getElem? λk=> ?_;rw[Oq];cases hk:d[k]? with
   | none=>
    have:=List.getElem?_eq_none_iff.1 hk;rw[List.getElem?_eq_none A1];rfl
   |some x=>exact(d2 k x hk).2.1.symm
  .obtain⟨k,hk,rfl⟩:=P6 hx;exact(d2 k _ (gE hk)).2.2
theorem It{I:Nat->Prop}{w:World}{b off n cap:Nat}{t:TypeId}{d:RV Lf}(hr:Rw w b t n off d)(y:∀x∈d,Lf.ok x)(C:I b)(hc:d.length<=cap)(hm:cap<=9223372036854775807)(D:∀(c:Array Value)(t:TypeId),¬Abs.Bt b (some (.cells c t (0,0)))):VR I w [] (.imm 4 ((d.map Lf.tm).map jR)) (.slice (some ⟨b,off,none⟩) d.length cap):=by
 have B:((d.map Lf.tm).map jR).length=d.length:=C3
 have key:=VR.imm (I:=I) (w:=w) (ι:=[]) (s:=4) (b:=b) (off:=off) (c:=cap) (es:=(d.map Lf.tm).map jR) (f:=λk j=>((d[k]?).getD default).enc.getD j undef) (λe he=>by obtain⟨x,_,rfl⟩:=List.mem_map.1 he;rfl) (by rw[B];exact hc) hm C (λk j hk A=>by
  have h:k<d.length:=A1
  have hx:d[k]? =some d[k]:=gE h;obtain⟨E,c1,c2,c3⟩:=hr.at_ k _ hx;rw[hx,<-Oc]
  match j,A with
  |0,_=>exact E
  |1,_=>exact c1
  |2,_=>exact c2
  |3,_=>exact c3) (λk hk j A=>by
  have h:k<d.length:=A1
  have hx:d[k]? =some d[k]:=gE h;obtain⟨F,G,H,J⟩:=y _ (gM h);have e:((d.map Lf.tm).map jR)[k]=jR (d[k]).tm:=C3
  simp only[e,hx];have v:j<(jR (d[k]).tm).length:=by rw[<-e];exact A
  have v:j<4:=v
  match j,v with
  |0,_=>exact .lit F
  |1,_=>exact .lit G
  |2,_=>exact .lit H
  |3,_=>exact .dC J) (.inr (by obtain⟨⟨cur,q,_⟩,_⟩:=hr;rw[q];exact D _ _))
 rw[B]at key;exact key
theorem yc{a:Y Nat}{hp:Abs.aD}(h:∀i,a=some i->i<hp.length):HpR [a] [Ob.aN] hp where
 len:=rfl
 row:=λid n T xs q=>by
  match id,q with
  |0,q=>simp at q
  |id+1,q=>simp at q
 box:=λid cs q=>by
  match id,q with
  |0,q=>simp at q
  |id+1,q=>simp at q
 map:=λid T kvs q=>by
  match id,q with
  |0,q=>simp at q
  |id+1,q=>simp at q
 inj:=λi j b _ _ l1 _=>by
  obtain⟨x,d,t⟩:=l1
  match i,d with
  |0,d=>simp at d;subst d;simp at t
  |i+1,d=>simp at d
 lt:=λi b q=>by
  match i,q with
  |0,q=>simp at q;exact h b q
  |i+1,q=>simp at q
theorem Cf{a:Y Nat}{x:Ob}{hp d:Abs.aD}(hl:d.length=hp.length)(hs:∀i,i<hp.length->a≠some i->d[i]? =hp[i]?)(hx:x.dead=false):Fr ⟨hp,[a],[x]⟩ [a] [Ob.aN] d where
 len:=by show hp.length<=d.length;omega
 old:=λid b _ j _=>by
  obtain⟨x,h,t⟩:=j
  match id,h with
  |0,h=>simp at h;subst h;simp at t
  |id+1,h=>simp at h
 same:=λb hb z=>hs b hb λe=>z 0 Qt ⟨x,rfl,hx⟩
 rho:=λ_ _ q=>q
 ob:=λid y q=>by
  match id,q with
  |0,q=>exact⟨.aN,rfl,.inl rfl⟩
  |id+1,q=>simp at q
theorem vw(h:RV Tm)(Z:∀x∈h,x.ac=[])(hl:h.length<4611686018427387904):CFn Tryz.prog 112 [.one (.o 0)] [.row (.n 1) 0 h] (.one (.l (.n 1) (nH h))) [.aN]:=λρ hp avs N hA=>by
 have y:Abs.ga Tryz.prog 112:=⟨Tryz.f112,Tryz.func112,F1,F1⟩;have G:∀x∈nH h,x.ac=[]:=λx hx=>Z x (wq.1 hx);obtain⟨hA1,hA2⟩:=hA
 match avs,hA1 with
 | [x0], _=>
  have k0:=hA2 0 C3 C3;simp only[O5]at k0;obtain⟨v0,rfl,w0⟩:=k0.aY;have P:([Ob.row (.n 1) 0 h]:RV Ob)[0]? =some (.row (.n 1) 0 h):=rfl;obtain⟨O,rfl⟩:∃O,ρ=[O]:=by
   have:=N.len
   match ρ,this with
   |[O],_=>exact⟨O,rfl⟩
  rcases w0.own P with⟨a,rfl,B⟩|⟨rfl,B⟩
  .obtain⟨es,Q,f0⟩:=N.at_ B P;have R:a<hp.length:=N.lt _ _ B;simp at B;subst B;refine(Abs.AE (v:=.imm 4 ((nH h).map jR)) y Q λw I ι cs inf H hI hi C=> ?_).mono λr h' ⟨q1,q2⟩=>by
    subst q1 q2;exact⟨[some a],.one (.fl (B3 G)),yc λi e=>by cases e;simpa using R,Cf C3 (λi _ S=>sN λe=>S (by rw[e])) rfl⟩
   obtain⟨D,E⟩:=C;obtain⟨J,K,j⟩:=E 0 C3;obtain rfl:cs= #[J]:=by
    rcases cs with⟨l⟩
    match l,D with
    | [x],_=>
     simp at K;subst K;rfl
   simp only[O5]at j;cases j with
   |one j=>
   by_cases h0:h=[]
   .subst h0;have hs:∃A c,J= .slice A 0 c/\c<=9223372036854775807:=by
     cases j with
     |own _ _ _ hm=>exact⟨_,_,rfl,hm⟩
     |fT _ _=>exact⟨_,_,rfl,A1⟩
    obtain⟨A,c,rfl,hm⟩:=hs;exact(lO A c w).mono λe w' ⟨L,F⟩=>⟨_,L,by subst F;exact Chg.refl _ _,.dC hm⟩
   .have hn:0<h.length:=List.length_pos_iff.2 h0;obtain⟨d,t,n,hd,T,U⟩:=Gb Z f0 (H.obj a _ inf Q hi);have V:d.length=h.length:=by rw[<-hd];simp
    have hs:∃c,J= .slice (some ⟨inf.block,inf.base,none⟩) h.length c/\h.length<=c/\c<=9223372036854775807:=by
     obtain⟨m,hm⟩:∃m,m=List.length (α:=Den.I (Ty.n 1)) h:=⟨_,rfl⟩;have W:m=h.length:=hm;rw[<-hm]at j;rw[<-W];cases j with
     | @own _ _ _ _ c inf' M X _ Y=>
      rw[hi]at M;cases M;exact⟨c,by rw[PM,OD],X,Y⟩
     |fT _ _=>omega
    obtain⟨c,rfl,hc,hm⟩:=hs;rw[<-V]at hc ⊢;refine(vv d w T hc A1).mono λe w' ⟨d',L,F,e3,e4,e5⟩=>⟨_,L,e5,?_⟩;rw[<-hd,<-F];have hle:d'.length<=d.length:=by
     have:=congrArg List.length F;rw[Ol]at this;have:=FB (d.map Lf.tm);rw[Ol]at this;omega
    exact It e4 (λx hx=>U x (e3 x hx)) (.inr rfl) A1 hm λc t q=>H.off a _ inf Q hi (H.sub _ c t q)
  .have h0:h=[]:=by
    rcases N.row 0 _ _ _ P with⟨a',es,h7,_⟩|⟨_,h7,_⟩
    .grind
    .exact h7
   subst h0;simp at B;subst B;refine(show Abs.Fn Tryz.prog 112 [.one (.lit (.slice none 0 0))] hp (λr h'=>r= .one (.imm 4 [])/\h'=hp)from⟨y,λw I ι cs H hI C=> ?_⟩).mono λr h' ⟨q1,q2⟩=>by
    subst q1 q2;exact⟨[none],.one (.fl (B3 G)),yc (λi e=>H3),Cf rfl (λ_ _ _=>rfl) rfl⟩
   obtain⟨D,E⟩:=C;obtain⟨J,K,j⟩:=E 0 C3;obtain rfl:cs= #[J]:=by
    rcases cs with⟨l⟩
    match l,D with
    | [x],_=>
     simp at K;subst K;rfl
   simp only[O5]at j;cases j with
   |one j=>
   cases j with
   |lit _=>
   exact(lO none 0 w).mono λe w' ⟨L,F⟩=>⟨_,_,ι,I,_,⟨rfl,rfl⟩,L,by
    subst F;exact
    { res:=.one (.dC A1)
      heap:=H
      imm:=hI
      cY:=λ_ q=>.inl q
      pre:=Abs.bn.refl _
      os:=rfl
      tape:=rfl
      output:=rfl
      grown:=N4 _
      frame:=λ_ _ _=>rfl
      cc:=λid o inf q1 q2=>.inl ⟨id,o,inf,q1,q2,rfl⟩}⟩
noncomputable def F7:RV Tm->Y (RV Tm):=λl=>open Classical in if (∀x∈l,x.ac=[])/\l.length<4294967296 then some (nH l)else none
theorem yQ:aj (z19.ent F7):=λR xs H K r hc=>by
 simp only[z19.ent]at hc;split at hc
 .obtain⟨r,q1,q2⟩:=bind_some hc;unfold F7 at q1;split at q1
  .rename_i hl;cases q1;exact⟨_,_,q2,vw _ hl.1 A1⟩
  .cases q1
 .cases hc
end Go.Proofs.YtigoabbppmdfpaaGreat.Den
namespace Go.Proofs.YtigoabbppmdfpaaGreat.Den
open Go.RowKit
open Classical
theorem z1j(k:Nat)(hk:k<=4294967296):aj (z1i.ent (eP k)):=z1i.ok (G:=⟨bM k⟩) ⟨z0b k hk,trivial⟩ λa b r h=>by
 unfold eP at h;split at h
 .rename_i hs;cases h;refine⟨1,?_⟩;unfold z1i.aq;rw[Tm.eta,Tm.eta];show Option.bind (bM k a b) _=_;unfold bM;rw[N1 hs];rfl
 .cases h
theorem Kp{α R:Type}(xs:RV α)(p:α->Bool)(B:Int->(Int->Y R)->Y R)(a b:Y R)(h:∀nx,B (xs.length:Int) nx=b)(d:∀(i:Nat) x nx,xs[i]? =some x->B (i:Int) nx=bif p x then nx ((i+1:Nat):Int)else a):∀m (i:Nat),i<=xs.length->xs.length-i<m->aS (λ(v:Int) nx=>B v (λt=>nx t)) m (i:Int)=bif (xs.drop i).all p then b else a:=
 AU xs.length B (λi=>bif (xs.drop i).all p then b else a) (λnx=>by rw[h,bQ];rfl) λi nx hi e=>by
  obtain⟨x,j,_⟩:=bu hi;rw[d i x nx j,e,bg j,O6];cases p x<;>rfl
def upU(t:Tm):RV Tm->Nat
 |[]=>0
 |y::ys=>if bH y t<0 then upU t ys+1 else 0
theorem E0(t:Tm):∀l:RV Tm,upU t l<=l.length
 |[]=>N4 _
 | y::ys=>by
  have:=E0 t ys;unfold upU;split<;>simp only[NU]<;>omega
theorem BZ(t:Tm):∀l:RV Tm,gp l t=match l[upU t l]? with
  |some y=>if bH y t=0 then l else l.take (upU t l)++[t]++l.drop (upU t l)
  |none=>l.take (upU t l)++[t]++l.drop (upU t l)
 |[]=>rfl
 | y::ys=>by
  unfold gp upU;by_cases h:bH y t<0
  .rw[N1 h,N1 h,BZ t ys,P5];cases ys[upU t ys]? with
   |none=>rfl
   | some z=>
    simp only;split<;>rfl
  .grind
abbrev GU:z4k.Gs:={z3b:=bM 4294967296,z4l:=eP 4294967296}
theorem JT{R:Type}(n:Nat)(l:RV Tm)(t:Tm)(hl:∀y∈l,y.az<4294967296)(A:l.length<4294967296)(d:Int->Y R):∀m (i:Nat),i<=l.length->l.length-i<m->
  z4k.l2 GU n m l t.op t.ae t.ag t.ac (i:Int) d=d ((i+upU t (l.drop i):Nat):Int):=by
 intro m
 induction m with
 |zero=>exact RQ
 | succ m j=>
  intro i h1 hm;show z4k.b2 GU n l t.op t.ae t.ag t.ac (i:Int) (λv=>z4k.l2 GU n m l t.op t.ae t.ag t.ac v d) d=_;unfold z4k.b2;by_cases hi:i<l.length
  .obtain⟨x,h,w⟩:=bu hi;rw[bB hi,cT,aZ h,bS,Tm.eta,Tm.eta];show Option.bind (bM 4294967296 x t) _=_;unfold bM;rw[N1 (hl x w),bS,bg h];unfold upU;by_cases hc:bH x t<0
   .rw[dT hc,cT,N1 hc,bN A1];simp only[];rw[j (i+1) hi A1]
    congr 1
    omega
   .grind
  .obtain rfl:i=l.length:=A1
   exact RP
theorem ND{R:Type}(n:Nat)(l:RV Tm)(t:Tm)(h:l.length<1073741824){p:Nat}(hp:p<=l.length)(d:RV Tm->Y R):z4k.c6 GU n l (p:Int) t.op t.ae t.ag t.ac d=d (l.take p++[t]++l.drop p):=by
 unfold z4k.c6;rw[zq A1 A1 A1,bS,dw D5,bS,dw D5,bS,zq A1 A1 A1,bS,dw D5,bS,Tm.eta];simp
noncomputable def gIU:RV Tm->Tm->Y (RV Tm):=λl t=>if (∀y∈l,y.az<4294967296)/\l.length<1073741824 then some (gp l t)else none
theorem yG:aj (z4k.ent gIU):=z4k.ok (G:=GU) ⟨z3c _ (N4 _),lf _ (N4 _),trivial⟩ λl t r h=>by
 unfold gIU at h;split at h
 .rename_i hs;cases h;obtain⟨hl,v⟩:=hs;refine⟨List.length (α:=Tm) l+1,?_⟩;unfold z4k.aq;have e:=JT (R:=AT×RV Ob) (List.length (α:=Tm) l+1) l t hl A1;refine(e _ (List.length (α:=Tm) l+1) 0 A1 A1).trans ?_;rw[NN,Ou,BZ];have d:=E0 t l;have c6:=λw=>ND (R:=AT×RV Ob) (List.length (α:=Tm) l+1) l t v d w;by_cases hi:upU t l<List.length (α:=Tm) l
  .obtain⟨x,j,y⟩:=bu (xs:=l) hi;rw[bB hi,cT,aZ j,bS,Tm.eta,Tm.eta,j];show Option.bind (eP 4294967296 x t) _=_;unfold eP;rw[N1 (hl x y),bS];simp only;by_cases hc:bH x t=0
   .grind
   .grind
  .grind
 .cases h
theorem tR{xs l:RV Tm}{x:Tm}(h:x∈xs.foldl gp l):x∈l\/x∈xs:=by
 induction xs generalizing l with
 |nil=>exact .inl h
 | cons y ys d=>
  rcases d h with h|h
  .rcases nU.1 h with rfl|h
   .grind
   .exact .inl h
  .grind
theorem oT:∀(ys l:RV Tm),(ys.foldl gp l).length<=l.length+ys.length
 |[],_=>N4 _
 | y::ys,l=>by
  have:=oT ys (gp l y);have:=sf (t:=y) l;rw[OA,NU];omega
noncomputable def pQ(k:Nat):Tm->RV Tm->Y (RV Tm):=λt l=>if t.az<k/\(∀y∈l,y.az<4294967296)/\l.length+tsz t<1073741824 then some ((oc t).foldl gp l)else none
abbrev qv:Z->Int->Y Tm:=λn s=>some (Tm.mk (-1) n s [])
theorem CW:aj (z4m.ent qv):=z4m.ok (G:=⟨()⟩) trivial λn s r h=>⟨1,QF⟩
theorem B6{f:Tm->Nat}{xs:RV Tm}{i:Nat}{x:Tm}(h:xs[i]? =some x):wS f (xs.drop i)=f x+wS f (xs.drop (i+1)):=by rw[bg h,fS]
theorem qp(t:Tm):(oc t).length<=tsz t:=FT _ t (NW _)
theorem uP{t x:Tm}(h:x∈oc t):x.op= -1/\x.ac=[]/\x.az<=t.az:=EQ _ t (NW _) x h
theorem HV{R:Type}(n k:Nat)(hk:k<=4294967295)(h0 d:Int)(h:Z)(xs:RV Tm)(hx:∀x∈xs,x.az<k)(hl:xs.length<4294967296)(j:RV Tm->Y R):∀m (i:Nat) (l:RV Tm),(∀y∈l,y.az<4294967296)->l.length+wS tsz (xs.drop i)<1073741824->i<=xs.length->xs.length-i<m->
  z4f.l4 ⟨qv,gIU,pQ k⟩ n m h0 h d xs l (i:Int) j=j (((xs.drop i).flatMap oc).foldl gp l):=by
 intro m
 induction m with
 |zero=>exact RJ
 | succ m A=>
  intro i l v B h1 hm;show z4f.b4 ⟨qv,gIU,pQ k⟩ n h0 h d xs l (i:Int) (λC D=>z4f.l4 ⟨qv,gIU,pQ k⟩ n m h0 h d xs C D j) j=_;unfold z4f.b4;by_cases hi:i<xs.length
  .obtain⟨x,t,w⟩:=bu hi;rw[B6 t]at B;rw[bB hi,cT,aZ t,bS,Tm.eta];show Option.bind (pQ k x l) _=_;have e:pQ k x l=some ((oc x).foldl gp l):=N1 ⟨hx x w,v,A1⟩;rw[e,bS,bN A1];simp only[];have:=oT (oc x) l;have:=qp x;rw[A (i+1) _ (λy hm=> ?_) A1 hi A1,bg t,Oi,List.foldl_append];rcases tR hm with hm|hm
   .exact v y hm
   .have:=(uP hm).2.2;have:=hx x w;omega
  .grind
theorem mL:∀k,k<=4294967296->aj (z4f.ent (pQ k))
 |0,_=>okQ (by (repeat intro h);simp[pQ]at h)
 | k+1,hk=>z4f.ok (G:=⟨qv,gIU,pQ k⟩) ⟨CW,yG,mL k A1,trivial⟩ fun t l r h=>by
  unfold pQ at h;split at h
  .rename_i hs;obtain⟨ht,d,hl⟩:=hs;cases h;have j:=bj t;have bJ:=bZ t.ac;refine⟨t.ac.length+1,?_⟩;unfold z4f.aq;rw[AX];by_cases ho:t.op= -1
   .rw[dT ho,cT,N1 ho];show Option.bind (qv t.ae t.ag) _=_;rw[show qv t.ae t.ag=some (vT t)from rfl,bS,Tm.eta];show Option.bind (gIU l (vT t)) _=_;have e:gIU l (vT t)=some (gp l (vT t)):=N1 ⟨d,by have hl:List.length (α:=Tm) l+tsz t<1073741824:=hl;omega⟩;rw[e];rfl
   .rw[dF ho,cF,N3 ho];rw[eZ]at hl;have hl:List.length (α:=Tm) l+(1+wS tsz t.ac)<1073741824:=hl;refine(HV (t.ac.length+1) k A1 t.op t.ag t.ae t.ac (λx hx=>Dg) A1 _ (t.ac.length+1) 0 l d (by rw[NN];omega) A1 A1).trans ?_;rw[NN]
  .cases h
noncomputable def gVs:Tm->Y (RV Tm):=λt=>if t.az<1073741823 then some (cj t)else none
theorem vf(t:Tm):tsz t<=t.az+1:=zT _ t (NW _)
theorem z3x:aj (z3w.ent gVs):=z3w.ok (G:=⟨pQ 4294967296⟩) ⟨mL _ (N4 _),trivial⟩ λt r h=>by
 unfold gVs at h;split at h
 .rename_i hs;cases h;refine⟨1,?_⟩;unfold z3w.aq;rw[Tm.eta];show Option.bind (pQ 4294967296 t []) _=_;have:=vf t;have e:pQ 4294967296 t []=some ((oc t).foldl gp []):=N1 ⟨A1,λy d=>QV,D5⟩;rw[e];rfl
 .cases h
noncomputable def gV1(k:Nat):Tm->RV Tm->Y (RV Tm):=λt l=>if t.az<k/\l.length+tsz t<1073741824 then some (l++oc t)else none
theorem IR{R:Type}(n k:Nat)(xs:RV Tm)(hx:∀x∈xs,x.az<k)(hl:xs.length<4294967296)(d:RV Tm->Y R):∀m (i:Nat) (l:RV Tm),l.length+wS tsz (xs.drop i)<1073741824->i<=xs.length->xs.length-i<m->
  z0q.l4 ⟨gV1 k⟩ n m xs (xs.length:Int) (i:Int) l d=d (l++(xs.drop i).flatMap oc):=by
 intro m
 induction m with
 |zero=>intro i l _ _ hm;omega
 | succ m j=>
  intro i l t h1 hm;show z0q.b4 ⟨gV1 k⟩ n xs (xs.length:Int) (i:Int) l (λv w=>z0q.l4 ⟨gV1 k⟩ n m xs (xs.length:Int) v w d) d=_;unfold z0q.b4;by_cases hi:i<xs.length
  .obtain⟨x,h,y⟩:=bu hi;rw[B6 h]at t;rw[bB hi,cT,aZ h,bS,Tm.eta];show Option.bind (gV1 k x l) _=_;have e:gV1 k x l=some (l++oc x):=N1 ⟨hx x y,A1⟩;have:=qp x;rw[e,bS,bN A1];simp only[];rw[j (i+1) _ (by rw[N8];omega) hi A1,bg h,Oi,Oo]
  .grind
theorem iA:∀k,k<=4294967296->aj (z0q.ent (gV1 k))
 | 0, _=>fun R xs H K r h=>by
  simp only[z0q.ent]at h;split at h
  .simp[gV1]at h
  .cases h
 | k+1,hk=>z0q.ok (G:=⟨gV1 k⟩) ⟨iA k A1,trivial⟩ fun t l r h=>by
  unfold gV1 at h;split at h
  .rename_i hs;obtain⟨ht,hl⟩:=hs;have hl:List.length (α:=Tm) l+tsz t<1073741824:=hl;cases h;have d:=bj t;have bJ:=bZ t.ac;refine⟨t.ac.length+1,?_⟩;unfold z0q.aq;rw[AX];by_cases ho:t.op= -1
   .rw[dT ho,cT,N1 ho];unfold z0q.d2;have j:ix (l++[Tm.mk 0 ByteArray.empty 0 []]) (List.length (α:=Tm) l:Int)=some (Tm.mk 0 ByteArray.empty 0 []):=aZ (by rw[aR (N4 _)];simp);rw[dw D5,bS,j,bS,Or,Py _ _ (N4 _),Po];rfl
   .rw[dF ho,cF,N3 ho];rw[eZ]at hl;refine(IR (t.ac.length+1) k t.ac (λx hx=>Dg) A1 _ (t.ac.length+1) 0 l (by rw[NN];omega) A1 A1).trans ?_;rw[NN]
  .cases h
theorem z0r:aj (z0p.ent gVs):=z0p.ok (G:=⟨gV1 4294967296,F7⟩) ⟨iA _ (N4 _),yQ,trivial⟩ λt r h=>by
 unfold gVs at h;split at h
 .rename_i hs;cases h;refine⟨1,?_⟩;unfold z0p.aq;rw[Tm.eta];show Option.bind (gV1 4294967296 t []) _=_;have:=vf t;have:=qp t;have e:gV1 4294967296 t []=some ([]++oc t):=N1 ⟨A1,D5⟩;rw[e,bS,OL];show Option.bind (F7 (oc t)) _=_;have d:F7 (oc t)=some (cj t):=N1 ⟨λx hx=>(uP hx).2.1,A1⟩;rw[d];rfl
 .cases h
end Go.Proofs.YtigoabbppmdfpaaGreat.Den

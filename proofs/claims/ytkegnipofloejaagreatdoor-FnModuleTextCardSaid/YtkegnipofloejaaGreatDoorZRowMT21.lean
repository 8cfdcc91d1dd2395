/- merged -/
import Derived.Test.YtkegnipofloejaaGreatDoorZRowMT16
import Derived.Test.YtkegnipofloejaaGreatDoorZRowMT20

namespace Go.Proofs.YtkegnipofloejaaGreatDoor.Den
open Go.RowKit
set_option maxRecDepth 100000
set_option linter.unusedVariables false
noncomputable section
namespace z3x
structure Gs where
 z2d:z2d.Q
 z3y:z3y.Q
def ents(G:Gs):Td Ent:=[z2d.ent G.z2d,z3y.ent G.z3y]
def b2{R:Type}(G:Gs)(n:Nat)(list:LT)(h0:Int)(h:Z)(j:Int)(t:LT)(d:Int)(w v:Int->Y R):Y R:=bif decide (d<(List.length list:Int))then((ix list d).bind λe2=>(G.z2d (Tm.mk e2.op e2.ah e2.am e2.ae) (Tm.mk h0 h j t)).bind λy=>bif decide (y<0)then(w (wr (d+1)))else v d)else v d
variable{R:Type}(G:Gs)(n:Nat)
def l2(m:Nat)(list:LT)(h0:Int)(d:Z)(h:Int)(j:LT)(t:Int)(w:Int->Y R):Y R:=aY (λ(v:Int) y=>b2 G n list h0 d h j v (λA=>y A) w) m t
def c6{R:Type}(G:Gs)(n:Nat)(list:LT)(d h0:Int)(h:Z)(j:Int)(t:LT)(B:LT->Y R):Y R:=(sub list 0 d).bind λv=>(lim ([]++v)).bind λzs=>(lim (zs++[(Tm.mk h0 h j t)])).bind λw=>(sub list d (List.length list:Int)).bind λy=>(lim (w++y)).bind λA=>B A
def aq(list:LT)(t:Tm)(K:LT->Y R):Y R:=l2 G n n list t.op t.ah t.am t.ae 0 (λd=>bif decide (d<(List.length list:Int))then((ix list d).bind λe2=>(G.z3y (Tm.mk e2.op e2.ah e2.am e2.ae) (Tm.mk t.op t.ah t.am t.ae)).bind λv=>bif v then(K list)else c6 G n list d t.op t.ah t.am t.ae (λj=>K j))else c6 G n list d t.op t.ah t.am t.ae (λh=>K h))
def dl2(m:Nat):=rS [0,3,5] [TL,Tw,Tx] [TJ] λR K list v h0 d h j=>l2 G n m list h0 d h j v (λt=>K (.exit 0) ⟨[(0,TO list),(3,TF),(5,Tv t)],[TC h0 d h j]⟩)
def dc6:=rS [0,3,5] [TL,Tw,Tx] [TJ] λR K list d h0 h j t=>c6 G n list d h0 h j t (λv=>K .ret ⟨[(4,Ug)],UU v⟩)
def pc:Pcs:=⟨Tl 2 (dl2 G n n) nK,Tl 6 (dc6 G n) nK,nK⟩
def an:Ann:=⟨48,0,[(2,[0,3,5])],[(6,[0,3,5])],[4],[(2,⟨[(Te 13,[],[])],[],[],[0],[]⟩),(4,⟨[(Te 12,[],[])],[],[],[0],[]⟩),(6,⟨[(Te 9,[0,4,7],[])],[0,4,7],[],[0],[]⟩)],[]⟩
abbrev bd:=aK Tryz.f103
theorem ok{G:Gs}(d:ap (ents G)){g:Q}(h:∀list t r,g list t=some r->∃n,aq G n list t Vp=Vp r):aj (ent g):=okQ λ_ _ _ _ _ _ _ _ hc=>Tk hc (h _ _) λn _ j=>fF d an (pc G n) Tryz.func103 j (apl [(1,2,.loop (Tj 56 bd)),(0,6,Tj 31 bd)] ⟨Tf d n (dl2 G n) rfl (pc G n) ⟨[0,3,5],[4],[(0,[0,3,5])]⟩,⟨Tg d (dc6 G n) rfl (pc G n) ⟨[],[4],[]⟩,Th⟩⟩)
end z3x
namespace z3s
structure Gs where
 z3z:z3z.Q
 z3x:z3x.Q
 z3s:z3s.Q
def ents(G:Gs):Td Ent:=[z3z.ent G.z3z,z3x.ent G.z3x,ent G.z3s]
def b4{R:Type}(G:Gs)(n:Nat)(h0:Int)(h:Z)(j:Int)(d list:LT)(i:Int)(t:LT->Int->Y R)(v:LT->Y R):Y R:=bif decide (i<(List.length d:Int))then((ix d i).bind λe=>(G.z3s (Tm.mk e.op e.ah e.am e.ae) list).bind λr=>t r (wr (i+1)))else v list
variable{R:Type}(G:Gs)(n:Nat)
def l4(m:Nat)(h0:Int)(d:Z)(h:Int)(j list:LT)(i:Int)(t:LT->Y R):Y R:=aY (λ(v:LT×Int) w=>b4 G n h0 d h j v.1 v.2 (λy A=>w (y,A)) t) m (list,i)
def aq(t:Tm)(list:LT)(K:LT->Y R):Y R:=bif decide (t.op=(-1))then((G.z3z t.ah t.am).bind λr=>(G.z3x list (Tm.mk r.op r.ah r.am r.ae)).bind λh=>K h)else l4 G n n t.op t.ah t.am t.ae list 0 (λd=>K d)
def dl4(m:Nat):=rS [1,2,5] [TL,Tw,Tx] [TJ] λR K list i h0 h j t=>l4 G n m h0 h j t list i (λd=>K (.exit 0) ⟨[(1,TO d)],[]⟩)
def pc:Pcs:=⟨Tl 4 (dl4 G n n) nK,nK,nK⟩
def an:Ann:=⟨31,0,[(4,[1,2,5])],[],[4],[],[]⟩
abbrev bd:=aK Tryz.f73
theorem ok{G:Gs}(d:ap (ents G)){g:Q}(h:∀t list r,g t list=some r->∃n,aq G n t list Vp=Vp r):aj (ent g):=okQ λ_ _ _ _ _ _ _ _ hc=>Tk hc (h _ _) λn _ j=>fF d an (pc G n) Tryz.func73 j (apl [(1,4,.loop (Tj 116 bd))] ⟨Tf d n (dl4 G n) rfl (pc G n) ⟨[1],[4],[(0,[1])]⟩,Th⟩)
end z3s
namespace z2v
structure Gs where
 z3s:z3s.Q
def aq{R:Type}(G:Gs)(n:Nat)(t:Tm)(K:LT->Y R):Y R:=(G.z3s (Tm.mk t.op t.ah t.am t.ae) []).bind λr=>K r
theorem ok{G:Gs}(d:ap [z3s.ent G.z3s]){g:Q}(h:∀t r,g t=some r->∃n,aq G n t Vp=Vp r):aj (ent g):=okQ λ_ _ _ _ _ _ _ hc=>Tk hc (h _) λ_ _ j=>fF d ⟨6,0,[],[],[2],[],[]⟩ nP Tryz.func40 j
end z2v
namespace z1s
structure Gs where
 z0a:z0a.Q
def aq{R:Type}(G:Gs)(n:Nat)(a b:Tm)(K:Bool->Y R):Y R:=(G.z0a (Tm.mk a.op a.ah a.am a.ae) (Tm.mk b.op b.ah b.am b.ae)).bind λr=>K (decide (r=0))
theorem ok{G:Gs}(d:ap [z0a.ent G.z0a]){g:Q}(h:∀a b r,g a b=some r->∃n,aq G n a b Vn=Vn r):aj (ent g):=okQ λ_ _ _ _ _ _ _ _ _ _ _ hc=>Tk hc (h _ _) λ_ _ j=>fF d ⟨9,0,[],[],[4],[],[]⟩ nP Tryz.func93 j
end z1s
namespace z0v
structure Gs where
 z0v:z0v.Q
def ents(G:Gs):Td Ent:=[ent G.z0v]
def d2{R:Type}(G:Gs)(n:Nat)(h:LT)(h4:Int)(j:Z)(t:Int)(v:LT)(w:LT->Y R):Y R:=(lim (h++[(Tm.mk 0 ByteArray.empty 0 [])])).bind λd=>(ix d (List.length h:Int)).bind λe2=>w (List.set d (Int.toNat (List.length h:Int)) (Tm.mk (-1) j t []))
def L9{R:Type}(G:Gs)(n:Nat)(d:LT)(h4:Int)(h:Z)(j:Int)(t:LT)(v:LT->Y R):Y R:=
 (lim (d++[(Tm.mk 0 ByteArray.empty 0 [])])).bind λzs=>
 (ix zs (List.length d:Int)).bind λe=>
 v (List.set zs (Int.toNat (List.length d:Int)) (Tm.mk (-1) h j []))
theorem e2_1{R:Type}(G:Gs)(n:Nat)(t:LT)(h4:Int)(d:Z)(h:Int)(j:LT)(v:LT->Y R):L9 G n t h4 d h j v=d2 G n t h4 d h j v:=by
 unfold L9 d2;generalize lim (t++[(Tm.mk 0 ByteArray.empty 0 [])])=w;cases w<;>first|rfl|simp
def L6{R:Type}(G:Gs)(n:Nat)(d:LT)(h4:Int)(h:Z)(j:Int)(t:LT)(v:LT->Y R):Y R:=
 (lim (d++[(Tm.mk 0 ByteArray.empty 0 [])])).bind λzs=>
 (ix zs (List.length d:Int)).bind λe=>
 v (List.set zs (Int.toNat (List.length d:Int)) (Tm.mk (-1) h j []))
theorem e2_2{R:Type}(G:Gs)(n:Nat)(t:LT)(h4:Int)(d:Z)(h:Int)(j:LT)(v:LT->Y R):L6 G n t h4 d h j v=d2 G n t h4 d h j v:=by
 unfold L6 d2;generalize lim (t++[(Tm.mk 0 ByteArray.empty 0 [])])=w;cases w<;>first|rfl|simp
def b4{R:Type}(G:Gs)(n:Nat)(t20:LT)(t21 t22:Int)(d:LT)(h:Int->LT->Y R)(j:LT->Y R):Y R:=bif decide (t22<t21)then((ix t20 t22).bind λe=>(G.z0v (Tm.mk e.op e.ah e.am e.ae) d).bind λr=>h (wr (t22+1)) r)else j d
variable{R:Type}(G:Gs)(n:Nat)
def l4(m:Nat)(t20:LT)(t21 t22:Int)(d:LT)(h:LT->Y R):Y R:=aY (λ(v:Int×LT) j=>b4 G n t20 t21 v.1 v.2 (λt w=>j (t,w)) h) m (t22,d)
def aq(t:Tm)(c0:LT)(K:LT->Y R):Y R:=bif decide (t.op=(-1))then(d2 G n c0 t.op t.ah t.am t.ae (λh=>K h))else l4 G n n t.ae (List.length t.ae:Int) 0 c0 (λd=>K d)
def dd2(G:Gs)(n:Nat)(R:Type)(st:St)(K:Kt R):Y R:=match st with|⟨[(1,.one (.p 0 0)),(3,.one (.p 4 0))],[.box [.o 3],.aQ,.box [.f 89 [.p 0 0,.p 2 0]],.row (.n 1) 0 v,.box [.i h4,.s d,.i h,.l (.n 1) j]]⟩=>d2 G n v h4 d h j (λt=>K .normal ⟨[],[Vc,.aQ,Um,Tz t]⟩)|_=>none
def dl4(G:Gs)(n m:Nat)(R:Type)(st:St)(K:Kt R):Y R:=match st with|⟨[(2,.one (.p 2 0)),(20,.one (.l (.n 1) t20)),(21,.one (.i t21)),(22,.one (.i t22))],[.box [.o 3],.aQ,.box [.f 89 [.p 0 0,.p 2 0]],.row (.n 1) 0 h]⟩=>l4 G n m t20 t21 t22 h (λd=>K (.exit 0) ⟨[],[Vc,.aQ,Um,Tz d]⟩)|_=>none
def pc:Pcs:=⟨Tl 4 (dl4 G n n) nK,nK,Tl 2 (dd2 G n) nK⟩
def an:Ann:=⟨30,3,[(4,[2,20,21,22])],[],[],[(2,⟨[(Te 12,[8,9,10,11],[0,6]),([0,1,2,3,4,5,6,7,8,9,11,10],[8,9,11,10],[0,6]),([0,1,2,3,4,5,6,7,8,11,9,10],[8,11,9,10],[0,6])],[8,9,10,11],[],[2,4],[1,3]⟩)],[]⟩
abbrev bd:=aK Tryz.f89
abbrev q2:=Tj 52 bd
abbrev q4:=Tj 60 bd
theorem s2_0(G:Gs)(n:Nat)(R:Type)(v:LT)(h4:Int)(h:Z)(j:Int)(t:LT)(K:Kt R):(λS:St=>(λd:St=>dW tb (de (ents G)) an.nt an.im (fq (q2)) (fe [2,4] d.H) (Te 12) [8,9,10,11] [0,6] [] (Te 12) d.L d.H d.H λL H=>jd an.refs ⟨[],[],[]⟩ K .normal ⟨L,H⟩) (cR (bE (St.L S) (St.H S) []) S)=dd2 G n R S K) ⟨[(1,.one (.p 0 0)),(3,.one (.p 4 0))],[.box [.o 3],.aQ,.box [.f 89 [.p 0 0,.p 2 0]],.row (.n 1) 0 v,.box [.i h4,.s h,.i j,.l (.n 1) t]]⟩:=Re
theorem s2_1(G:Gs)(n:Nat)(R:Type)(v:LT)(h4:Int)(d:Z)(h:Int)(j:LT)(K:Kt R):(λt:St=>dW tb (de (ents G)) an.nt an.im (fq (q2)) (fe [2,4] t.H) [0,1,2,3,4,5,6,7,8,9,11,10] [8,9,11,10] [0,6] [] [0,1,2,3,4,5,6,7,8,9,11,10] t.L t.H t.H λL H=>jd an.refs ⟨[],[],[]⟩ K .normal ⟨L,H⟩) (cR (bE (St.L ⟨[(1,.one (.p 0 0)),(3,.one (.p 4 0))],[.box [.o 3],.aQ,.box [.f 89 [.p 0 0,.p 2 0]],.row (.n 1) 0 v,.box [.i h4,.s d,.i h,.l (.n 1) j]]⟩) (St.H ⟨[(1,.one (.p 0 0)),(3,.one (.p 4 0))],[.box [.o 3],.aQ,.box [.f 89 [.p 0 0,.p 2 0]],.row (.n 1) 0 v,.box [.i h4,.s d,.i h,.l (.n 1) j]]⟩) []) ⟨[(1,.one (.p 0 0)),(3,.one (.p 4 0))],[.box [.o 3],.aQ,.box [.f 89 [.p 0 0,.p 2 0]],.row (.n 1) 0 v,.box [.i h4,.s d,.i h,.l (.n 1) j]]⟩)=L9 G n v h4 d h j (λw=>K .normal ⟨[],[.box [.o 3],.aQ,.box [.f 89 [.p 0 0,.p 2 0]],.row (.n 1) 0 w]⟩):=D1
theorem s2_2(G:Gs)(n:Nat)(R:Type)(v:LT)(h4:Int)(d:Z)(h:Int)(j:LT)(K:Kt R):(λt:St=>dW tb (de (ents G)) an.nt an.im (fq (q2)) (fe [2,4] t.H) [0,1,2,3,4,5,6,7,8,11,9,10] [8,11,9,10] [0,6] [] [0,1,2,3,4,5,6,7,8,11,9,10] t.L t.H t.H λL H=>jd an.refs ⟨[],[],[]⟩ K .normal ⟨L,H⟩) (cR (bE (St.L ⟨[(1,.one (.p 0 0)),(3,.one (.p 4 0))],[.box [.o 3],.aQ,.box [.f 89 [.p 0 0,.p 2 0]],.row (.n 1) 0 v,.box [.i h4,.s d,.i h,.l (.n 1) j]]⟩) (St.H ⟨[(1,.one (.p 0 0)),(3,.one (.p 4 0))],[.box [.o 3],.aQ,.box [.f 89 [.p 0 0,.p 2 0]],.row (.n 1) 0 v,.box [.i h4,.s d,.i h,.l (.n 1) j]]⟩) []) ⟨[(1,.one (.p 0 0)),(3,.one (.p 4 0))],[.box [.o 3],.aQ,.box [.f 89 [.p 0 0,.p 2 0]],.row (.n 1) 0 v,.box [.i h4,.s d,.i h,.l (.n 1) j]]⟩)=L6 G n v h4 d h j (λw=>K .normal ⟨[],[.box [.o 3],.aQ,.box [.f 89 [.p 0 0,.p 2 0]],.row (.n 1) 0 w]⟩):=D1
theorem pd2{G:Gs}(A:ap (ents G)){n:Nat}:al an (q2) (dd2 G n):=by
 have hc:q2= .region 2 (fq (q2)) true:=D1
 rw[hc];refine λ[Zb]=>ju mixed kX (jp A) (o:=⟨[],[],[]⟩) (d:=⟨[(Te 12,[8,9,10,11],[0,6]),([0,1,2,3,4,5,6,7,8,9,11,10],[8,9,11,10],[0,6]),([0,1,2,3,4,5,6,7,8,11,9,10],[8,11,9,10],[0,6])],[8,9,10,11],[],[2,4],[1,3]⟩) D1 (λp hp R st K r h=> ?_)
 have e:=h;unfold dd2 at e;split at e
 .rename_i j t v w y;simp only[OI,O9,or_false]at hp;rcases hp with rfl|rfl|rfl
  .exact(s2_0 G n R j t v w y K).trans h
  .exact((s2_1 G n R j t v w y K).trans (e2_1 G n j t v w y _)).trans h
  .exact((s2_2 G n R j t v w y K).trans (e2_2 G n j t v w y _)).trans h
 .cases e
theorem pl4{G:Gs}(d:ap (ents G))(n:Nat):∀m,al an (.loop q4) (dl4 G n m):=lpc d (pc G n) [2,20,21,22] ⟨[],[],[(0,[])]⟩ (apl [] trivial) (λR st K=>by unfold dl4;split<;>rfl) λm R st K r h=>by unfold dl4 at h;split at h;exact .trans D1 h;cases h
theorem ok{G:Gs}(d:ap (ents G)){g:Q}(v:∀t c0 r,g t c0=some r->∃n,aq (R:=AT×Td Ob) G n t c0 (λr0=>some (Uf,[Vc,.aQ,Um,Tz r0]))=some (Uf,[Vc,.aQ,Um,Tz r])):aj (ent g):=λR xs H K r hc=>by
 simp only[ent]at hc;split at hc
 .rename_i a w a3 a4 h;exact Tk hc (v _ _) λn _ j=>rF d an (pc G n) [1] (xs2:=[.agg [.i a,.s w,.i a3,.l (.n 1) a4],TF,Ua]) (H2:=[Vc,.aQ,Um,Tz h]) Tryz.func89 j (apl [(2,2,q2),(1,4,.loop q4)] ⟨pd2 d,⟨pl4 d n n,Th⟩⟩)
 .cases hc
end z0v
namespace z0u
structure Gs where
 z0v:z0v.Q
 z1i:z1i.Q
def aq{R:Type}(G:Gs)(n:Nat)(t:Tm)(K:LT->Y R):Y R:=(G.z0v (Tm.mk t.op t.ah t.am t.ae) []).bind λr=>(G.z1i r).bind λd=>K d
theorem ok{G:Gs}(d:ap [z0v.ent G.z0v,z1i.ent G.z1i]){g:Q}(h:∀t r,g t=some r->∃n,aq G n t Vp=Vp r):aj (ent g):=okQ λ_ _ _ _ _ _ _ hc=>Tk hc (h _) λ_ _ j=>fF d ⟨12,0,[],[],[2],[],[]⟩ nP Tryz.func61 j
end z0u
end
end Go.Proofs.YtkegnipofloejaaGreatDoor.Den
namespace Go.Proofs.YtkegnipofloejaaGreatDoor.Abs
open Go.RowKit
theorem zV{P:Program}{f:FuncId}{h:au}{a len s:Nat}{es:Td (Td V)}{v:V}(hc:dI P f)(y:h[a]? =some (some (.row s es)))
  (H:∀[Zb](w:World)(I:Nat->Prop)(ι:Td Inf)(cs:Array Value)(inf:Inf),HR ι I w h->(∀b,I b->b<w.heap.size)->ι[a]? =some inf->ARs ι I w [.one (.own a 0 len)] cs->Calls P f cs w λe w'=>∃u,e= .returned u/\Chg inf.block w w'/\VR (λb=>I b\/b=inf.block) w' [] v u):
  Fn P f [.one (.own a 0 len)] h (λr h'=>r= .one v/\h'=h.set a none):=
 ⟨hc, fun w I ι cs _ d E hA=>by
  have F:a<h.length:=(gI.1 y).1;obtain⟨inf,hi⟩:∃inf,ι[a]? =some inf:=⟨_,O0 (by rw[<-d.len];exact F)⟩;have A:inf.block<w.heap.size:=by
   obtain⟨cur,t,e,_⟩:=d.obj a _ inf y hi;exact kK e
  have B:=d.off a _ inf y hi
  have old:∀{id:Nat}{o:Ob}{inf':Inf},(h.set a none)[id]? =some (some o)->ι[id]? =some inf'->id≠a/\h[id]? =some (some o)/\inf'.block≠inf.block:=λ{id o inf'} q1 q2=>by
   by_cases e:id=a
   .grind
   .rw[sN (λq=>e q.symm)]at q1;exact⟨e,q1,λq=>e (d.inj id a o _ inf' inf q1 y q2 hi q)⟩
  have blk:∀{id:Nat}{o:Ob}{inf':Inf},h[id]? =some (some o)->ι[id]? =some inf'->inf'.block<w.heap.size:=λ{id o inf'} q1 q2=>by
   have ho:=d.obj id o inf' q1 q2;cases o with
   |row s es=>obtain⟨cur,t,e,_⟩:=ho;exact kK e
   |map kvs=>obtain⟨cur,t,e,_⟩:=ho;exact kK e
  refine(H w I ι cs inf d E hi hA).mono λ_ w' ⟨u,e1,j,J⟩=> ?_;have K:cu I (λb=>I b\/b=inf.block) w w':=⟨λ_ q=>.inl q,λb q=>by
   rw[j.block b (E b q) λe=>B (e▸q)]⟩
  exact⟨_,_,ι,λb=>I b\/b=inf.block,u,⟨rfl,rfl⟩,e1,
  { res := .one J.up
    heap :=
      { len:=by rw[PS];exact d.len
        obj:=λid o inf' q1 q2=>by
          obtain⟨_,q3,q4⟩:=old q1 q2;exact(d.obj id o inf' q3 q2).aH (bj.refl _) K (j.block _ (blk q3 q2) q4)
        off:=λid o inf' q1 q2 q=>by
          obtain⟨_,q3,q4⟩:=old q1 q2;exact q.elim (d.off id o inf' q3 q2) q4
        inj:=λid id' o o' C D q1 q2 q3 q4 e=>d.inj id id' o o' C D (old q1 q3).2.1 (old q2 q4).2.1 q3 q4 e
        sub:=λb c t q=>.inl (d.sub b c t q)}
    imm:=λb q=>PD (q.elim (E b) λq=>q▸A) j.size
    cw:=λb q=>q.elim .inl λq=>.inr (.inl ⟨a,_,inf,y,hi,q.symm⟩)
    pre:=bj.refl _
    os:=j.os
    tape:=j.tape
    output:=j.output
    grown:=j.size
    frame:=λb G L=>j.block b G λe=>L ⟨a,_,inf,y,hi,e.symm⟩
    cA:=λid o inf' q1 q2=>.inl ⟨id,o,inf',(old q1 q2).2.1,q2,rfl⟩}⟩⟩
end Go.Proofs.YtkegnipofloejaaGreatDoor.Abs
namespace Go.Proofs.YtkegnipofloejaaGreatDoor.Den
open Go.RowKit
open Abs (V AV VR AR Inf OR HR)
def le(x:Tm):Td V:=[.lit (.int .i64 x.op),.lit (.string x.ah),.lit (.int .i64 x.am),.imm 4 []]
theorem CF{l:Td Tm}(h:∀x∈l,x.ae=[]):FR (.l (.n 1) l) (.imm 4 (l.map le)):=by
 refine .l (T:=.n 1) A3 (OV le) (λe he=>by obtain⟨x,_,rfl⟩:=List.mem_map.1 he;rfl) λm h1 h2 j d h4=> ?_;have hm:l[m]∈l:=gM h1;have e:(l.map le)[m]=le l[m]:=P5 le;simp only[e];have t:j<4:=d;have v:=h _ hm
 match j,t with
 |0,_=>exact .i
 |1,_=>exact .s
 |2,_=>exact .i
 | 3,_=>
  show FR (.l (.n 1) (Tm.ae l[m])) (.imm 4 []);rw[v];exact FR.fj (T:=.n 1) A3
def Lf.ok(x:Lf):Prop:=Abs.dM (.int .i64 x.op)/\Abs.dM (.string x.ah)/\Abs.dM (.int .i64 x.am)/\x.c<=9223372036854775807
theorem CC{α:Type}{P:Nat->α->Prop}:∀(n:Nat),(∀k,k<n->∃x,P k x)->∃l:Td α,l.length=n/\∀k x,l[k]? =some x->P k x
 |0,_=>⟨[],rfl,λk x h=>F1⟩
 | n+1,h=>by
  obtain⟨l,l1,l2⟩:=CC n λk hk=>h k A0;obtain⟨x,d⟩:=h n A0;refine⟨l++[x],by simp[l1],λk y j=> ?_⟩;rcases Pq k n with hk|hk
  .grind
  .grind
theorem GI{I:Nat->Prop}{w:World}{ι:Td Inf}{inf:Inf}{h:Td Tm}{es:Td (Td V)}(G:∀x∈h,x.ae=[])(O:FR (.l (.n 1) h) (.imm 4 es))(ho:OR ι I w inf (.row 4 es)):
  ∃(d:Td Lf)(t:TypeId)(n:Nat),d.map Lf.tm=h/\Rw w inf.block t n inf.base d/\∀x∈d,Lf.ok x:=by
 obtain⟨cur,t,h1,_,Q,_,X,_,R⟩:=ho;cases O with
 | l _ hl hs H=>
  have hl:es.length=List.length (α:=Tm) h:=hl;obtain⟨d,S,d2⟩:=CC (P:=λk (x:Lf)=>At4 w inf.block (inf.base+k*4) x/\h[k]? =some x.tm/\Lf.ok x) h.length λk hk=>by
   have v:k<es.length:=A0
   have bF:es[k].length=4:=hs _ (gM v);have cell:=λ(j:Nat)(J:j<4)=>R k v j A0
   have fr:=λ(j:Nat)(J:j<4)=>H k hk v j J A0
   obtain⟨u0,c0,v0⟩:=cell 0 A0;obtain⟨u1,c1,v1⟩:=cell 1 A0;obtain⟨u2,c2,K⟩:=cell 2 A0;obtain⟨u3,c3,v3⟩:=cell 3 A0;have L:FR (.i (Tm.op h[k])) es[k][0]:=fr 0 A0;have M:FR (.s (Tm.ah h[k])) es[k][1]:=fr 1 A0;have N:FR (.i (Tm.am h[k])) es[k][2]:=fr 2 A0;have B:FR (.l (.n 1) (Tm.ae h[k])) es[k][3]:=fr 3 A0;rw[G _ (gM hk)]at B;generalize es[k][0]=Y at v0 L;generalize es[k][1]=e1 at v1 M;generalize es[k][2]=e2 at K N;generalize es[k][3]=e3 at v3 B;cases L;cases M;cases N;cases v0 with
   |lit T=>
   cases v1 with
   |lit U=>
   cases K with
   |lit W=>
   obtain⟨A,c,rfl,hc⟩:∃A c,u3= .slice A 0 c/\c<=9223372036854775807:=by
    cases B with
    | @l _ _ C _ D _ _=>
     have:C=[]:=nZ D;subst this;cases v3 with
     |eE hc=>exact⟨_,_,rfl,hc⟩
     |imm hs hc hm Z E H=>exact⟨_,_,rfl,hm⟩
   refine⟨⟨Tm.op h[k],Tm.ah h[k],Tm.am h[k],A,c⟩,⟨?_,?_,?_,?_⟩,?_,T,U,W,hc⟩
   .rw[oM h1];exact c0
   .rw[oM h1,Pk];exact c1
   .rw[oM h1,Pk];exact c2
   .rw[oM h1,Pk];exact c3
   .rw[O0 hk];have y:=G _ (gM hk);generalize h[k]=z at y ⊢;obtain⟨o,n,s,ar⟩:=z;have y:ar=[]:=y;subst y;rfl
  refine⟨d,t,cur.size,?_,⟨⟨cur,h1,rfl⟩,by rw[Q,S,<-hl];omega,λk x F=>(d2 k x F).1⟩,λx F=> ?_⟩
  .refine List.ext_getElem? λk=> ?_;rw[P8];cases hk:d[k]? with
   | none=>
    have:=List.getElem?_eq_none_iff.1 hk;rw[Qj A0];rfl
   |some x=>exact(d2 k x hk).2.1.symm
  .obtain⟨k,hk,rfl⟩:=Pw F;exact(d2 k _ (O0 hk)).2.2
theorem Ko{I:Nat->Prop}{w:World}{b off n cap:Nat}{t:TypeId}{d:Td Lf}(C:Rw w b t n off d)(A:∀x∈d,Lf.ok x)(E:I b)(hc:d.length<=cap)(hm:cap<=9223372036854775807)(F:∀(c:Array Value)(t:TypeId),¬Abs.Bt b (some (.cells c t (0,0)))):VR I w [] (.imm 4 ((d.map Lf.tm).map le)) (.slice (some ⟨b,off,none⟩) d.length cap):=by
 have D:((d.map Lf.tm).map le).length=d.length:=A1
 have key:=VR.imm (I:=I) (w:=w) (ι:=[]) (s:=4) (b:=b) (off:=off) (c:=cap) (es:=(d.map Lf.tm).map le) (f:=λk j=>((d[k]?).getD default).enc.getD j undef) (λe he=>by obtain⟨x,_,rfl⟩:=List.mem_map.1 he;rfl) (by rw[D];exact hc) hm E (λk j hk B=>by
  have h:k<d.length:=A0
  have y:d[k]? =some d[k]:=O0 h;obtain⟨c0,c1,c2,c3⟩:=C.at_ k _ y;rw[y,<-Pk]
  match j,B with
  |0,_=>exact c0
  |1,_=>exact c1
  |2,_=>exact c2
  |3,_=>exact c3) (λk hk j B=>by
  have h:k<d.length:=A0
  have y:d[k]? =some d[k]:=O0 h;obtain⟨G,H,J,K⟩:=A _ (gM h);have e:((d.map Lf.tm).map le)[k]=le (d[k]).tm:=A1
  simp only[e,y];have v:j<(le (d[k]).tm).length:=by rw[<-e];exact B
  have v:j<4:=v
  match j,v with
  |0,_=>exact .lit G
  |1,_=>exact .lit H
  |2,_=>exact .lit J
  |3,_=>exact .eE K) (.inr (by obtain⟨⟨cur,q,_⟩,_⟩:=C;rw[q];exact F _ _))
 rw[D]at key;exact key
theorem ym{a:Y Nat}{hp:Abs.au}(h:∀i,a=some i->i<hp.length):HpR [a] [Ob.aQ] hp where
 len:=rfl
 row:=λid n T xs q=>by
  match id,q with
  |0,q=>simp at q
  |id+1,q=>simp at q
 box:=λid cs q=>by
  match id,q with
  |0,q=>simp at q
  |id+1,q=>simp at q
 map:=λid T kvs q=>by
  match id,q with
  |0,q=>simp at q
  |id+1,q=>simp at q
 inj:=λi j b _ _ l1 _=>by
  obtain⟨x,d,t⟩:=l1
  match i,d with
  |0,d=>simp at d;subst d;simp at t
  |i+1,d=>simp at d
 lt:=λi b q=>by
  match i,q with
  |0,q=>simp at q;exact h b q
  |i+1,q=>simp at q
theorem Br{a:Y Nat}{x:Ob}{hp d:Abs.au}(hl:d.length=hp.length)(hs:∀i,i<hp.length->a≠some i->d[i]? =hp[i]?)(j:x.dead=false):Fr ⟨hp,[a],[x]⟩ [a] [Ob.aQ] d where
 len:=by show hp.length<=d.length;omega
 old:=λid b _ t _=>by
  obtain⟨x,h,v⟩:=t
  match id,h with
  |0,h=>simp at h;subst h;simp at v
  |id+1,h=>simp at h
 same:=λb w z=>hs b w λe=>z 0 Rd ⟨x,rfl,j⟩
 rho:=λ_ _ q=>q
 ob:=λid y q=>by
  match id,q with
  |0,q=>exact⟨.aQ,rfl,.inl rfl⟩
  |id+1,q=>simp at q
theorem wa(h:Td Tm)(W:∀x∈h,x.ae=[])(hl:h.length<4611686018427387904):CFn Tryz.prog 90 [.one (.o 0)] [.row (.n 1) 0 h] (.one (.l (.n 1) (pa h))) [.aQ]:=λρ hp avs K hA=>by
 have y:Abs.dI Tryz.prog 90:=⟨Tryz.f90,Tryz.func90,D1,D1⟩;have F:∀x∈pa h,x.ae=[]:=λx M=>W x (zf.1 M);obtain⟨hA1,hA2⟩:=hA
 match avs,hA1 with
 | [x0], _=>
  have X:=hA2 0 A1 A1;simp only[OY]at X;obtain⟨v0,rfl,w0⟩:=X.bi;have N:([Ob.row (.n 1) 0 h]:Td Ob)[0]? =some (.row (.n 1) 0 h):=rfl;obtain⟨L,rfl⟩:∃L,ρ=[L]:=by
   have:=K.len
   match ρ,this with
   |[L],_=>exact⟨L,rfl⟩
  rcases w0.own N with⟨a,rfl,B⟩|⟨rfl,B⟩
  .obtain⟨es,r0,f0⟩:=K.at_ B N;have O:a<hp.length:=K.lt _ _ B;simp at B;subst B;refine(Abs.zV (v:=.imm 4 ((pa h).map le)) y r0 λw I ι cs inf G Y hi C=> ?_).mono λr h' ⟨q1,q2⟩=>by
    subst q1 q2;exact⟨[some a],.one (.fl (CF F)),ym λi e=>by cases e;simpa using O,Br A1 (λi _ P=>sN λe=>P (by rw[e])) rfl⟩
   obtain⟨D,E⟩:=C;obtain⟨c0,H,j⟩:=E 0 A1;obtain rfl:cs= #[c0]:=by
    rcases cs with⟨l⟩
    match l,D with
    | [x],_=>
     simp at H;subst H;rfl
   simp only[OY]at j;cases j with
   |one j=>
   by_cases h0:h=[]
   .subst h0;have hs:∃A c,c0= .slice A 0 c/\c<=9223372036854775807:=by
     cases j with
     |own _ _ _ hm=>exact⟨_,_,rfl,hm⟩
     |hU _ _=>exact⟨_,_,rfl,A0⟩
    obtain⟨A,c,rfl,hm⟩:=hs;exact(mT A c w).mono λe w' ⟨e1,e2⟩=>⟨_,e1,by subst e2;exact Chg.refl _ _,.eE hm⟩
   .have hn:0<h.length:=List.length_pos_iff.2 h0;obtain⟨d,t,n,hd,Q,R⟩:=GI W f0 (G.obj a _ inf r0 hi);have S:d.length=h.length:=by rw[<-hd];simp
    have hs:∃c,c0= .slice (some ⟨inf.block,inf.base,none⟩) h.length c/\h.length<=c/\c<=9223372036854775807:=by
     obtain⟨m,hm⟩:∃m,m=List.length (α:=Den.I (Ty.n 1)) h:=⟨_,rfl⟩;have T:m=h.length:=hm;rw[<-hm]at j;rw[<-T];cases j with
     | @own _ _ _ _ c inf' J U _ V=>
      rw[hi]at J;cases J;exact⟨c,by rw[Nat.zero_mul,PF],U,V⟩
     |hU _ _=>omega
    obtain⟨c,rfl,hc,hm⟩:=hs;rw[<-S]at hc ⊢;refine(vB d w Q hc A0).mono λe w' ⟨d',e1,e2,e3,e4,e5⟩=>⟨_,e1,e5,?_⟩;rw[<-hd,<-e2];have hle:d'.length<=d.length:=by
     have:=congrArg List.length e2;rw[OV]at this;have:=IM (d.map Lf.tm);rw[OV]at this;omega
    exact Ko e4 (λx M=>R x (e3 x M)) (.inr rfl) A0 hm λc t q=>G.off a _ inf r0 hi (G.sub _ c t q)
  .have h0:h=[]:=by
    rcases K.row 0 _ _ _ N with⟨a',es,Z,_⟩|⟨_,Z,_⟩
    .grind
    .exact Z
   subst h0;simp at B;subst B;refine(show Abs.Fn Tryz.prog 90 [.one (.lit (.slice none 0 0))] hp (λr h'=>r= .one (.imm 4 [])/\h'=hp)from⟨y,λw I ι cs _ G Y C=> ?_⟩).mono λr h' ⟨q1,q2⟩=>by
    subst q1 q2;exact⟨[none],.one (.fl (CF F)),ym (λi e=>E0),Br rfl (λ_ _ _=>rfl) rfl⟩
   obtain⟨D,E⟩:=C;obtain⟨c0,H,j⟩:=E 0 A1;obtain rfl:cs= #[c0]:=by
    rcases cs with⟨l⟩
    match l,D with
    | [x],_=>
     simp at H;subst H;rfl
   simp only[OY]at j;cases j with
   |one j=>
   cases j with
   |lit _=>
   exact(mT none 0 w).mono λe w' ⟨e1,e2⟩=>⟨_,_,ι,I,_,⟨rfl,rfl⟩,e1,by
    subst e2;exact
    { res:=.one (.eE A0)
      heap:=G
      imm:=Y
      cw:=λ_ q=>.inl q
      pre:=Abs.bj.refl _
      os:=rfl
      tape:=rfl
      output:=rfl
      grown:=O3 _
      frame:=λ_ _ _=>rfl
      cA:=λid o inf q1 q2=>.inl ⟨id,o,inf,q1,q2,rfl⟩}⟩
noncomputable def Ix:Td Tm->Y (Td Tm):=λl=>open Classical in if (∀x∈l,x.ae=[])/\l.length<4294967296 then some (pa l)else none
theorem xA:aj (z1i.ent Ix):=λR xs H K r hc=>by
 simp only[z1i.ent]at hc;split at hc
 .obtain⟨r,q1,q2⟩:=bb hc;unfold Ix at q1;split at q1
  .rename_i hl;cases q1;exact⟨_,_,q2,wa _ hl.1 A0⟩
  .cases q1
 .cases hc
end Go.Proofs.YtkegnipofloejaaGreatDoor.Den
namespace Go.Proofs.YtkegnipofloejaaGreatDoor.Den
open Go.RowKit
open Classical
theorem z1t(k:Nat)(hk:k<=4294967296):aj (z1s.ent (ga k)):=z1s.ok (G:=⟨bV k⟩) ⟨z0b k hk,trivial⟩ λa b r h=>by
 unfold ga at h;split at h
 .rename_i hs;cases h;refine⟨1,?_⟩;unfold z1s.aq;rw[Tm.eta,Tm.eta];show Option.bind (bV k a b) _=_;unfold bV;rw[mt hs];rfl
 .cases h
theorem Ef{α R:Type}(xs:Td α)(p:α->Bool)(B:Int->(Int->Y R)->Y R)(a b:Y R)(j:∀d,B (xs.length:Int) d=b)(h:∀(i:Nat) x d,xs[i]? =some x->B (i:Int) d=bif p x then d ((i+1:Nat):Int)else a):∀m (i:Nat),i<=xs.length->xs.length-i<m->aY (λ(v:Int) d=>B v (λw=>d w)) m (i:Int)=bif (xs.drop i).all p then b else a:=
 lX xs.length B (λi=>bif (xs.drop i).all p then b else a) (λd=>by rw[j,ck];rfl) λi d hi e=>by
  obtain⟨x,t,_⟩:=bo hi;rw[h i x d t,e,bm t,Pe];cases p x<;>rfl
theorem all1{α A R:Type}(xs:Td α)(p:α->Bool)(c:A)(B:Int->A->(Int->A->Y R)->Y R)(a b:Y R)(t:∀h,B (xs.length:Int) c h=b)(j:∀(i:Nat) x h,xs[i]? =some x->B (i:Int) c h=bif p x then h ((i+1:Nat):Int) c else a):∀m (i:Nat),i<=xs.length->xs.length-i<m->aY (λ(v:Int×A) h=>B v.1 v.2 (λy C=>h (y,C))) m ((i:Int),c)=bif (xs.drop i).all p then b else a:=λm i h1 h2=>
 count xs.length B (λ_ d=>d=c) (λi _=>bif (xs.drop i).all p then b else a) (λd h hd=>by subst hd;rw[t,ck];rfl) (λi d h hi hd e=>by
  subst hd;obtain⟨x,w,_⟩:=bo hi;rw[j i x h w,e d rfl,bm w,Pe];cases p x<;>rfl) m i c rfl h1 h2
def upU(t:Tm):Td Tm->Nat
 |[]=>0
 |y::ys=>if bR y t<0 then upU t ys+1 else 0
theorem Fi(t:Tm):∀l:Td Tm,upU t l<=l.length
 |[]=>O3 _
 | y::ys=>by
  have:=Fi t ys;unfold upU;split<;>simp only[OP]<;>omega
theorem B0(t:Tm):∀l:Td Tm,iE l t=match l[upU t l]? with
  |some y=>if bR y t=0 then l else l.take (upU t l)++[t]++l.drop (upU t l)
  |none=>l.take (upU t l)++[t]++l.drop (upU t l)
 |[]=>rfl
 | y::ys=>by
  unfold iE upU;by_cases h:bR y t<0
  .rw[mt h,mt h,B0 t ys,List.getElem?_cons_succ];cases ys[upU t ys]? with
   |none=>rfl
   | some z=>
    simp only;split<;>rfl
  .grind
abbrev GU:z3x.Gs:={z2d:=bV 4294967296,z3y:=ga 4294967296}
section
variable {R:Type}{xs:Td Tm}{x:Tm}
theorem K4(n:Nat)(l:Td Tm)(t:Tm)(hl:∀y∈l,y.az<4294967296)(A:l.length<4294967296)(d:Int->Y R):∀m (i:Nat),i<=l.length->l.length-i<m->
  z3x.l2 GU n m l t.op t.ah t.am t.ae (i:Int) d=d ((i+upU t (l.drop i):Nat):Int):=by
 intro m
 induction m with
 |zero=>exact T9
 | succ m j=>
  intro i h1 hm;show z3x.b2 GU n l t.op t.ah t.am t.ae (i:Int) (λv=>z3x.l2 GU n m l t.op t.ah t.am t.ae v d) d=_;unfold z3x.b2;by_cases hi:i<l.length
  .obtain⟨x,h,w⟩:=bo hi;rw[bt hi,cT,aW h,bS,Tm.eta,Tm.eta];show Option.bind (bV 4294967296 x t) _=_;unfold bV;rw[mt (hl x w),bS,bm h];unfold upU;by_cases hc:bR x t<0
   .rw[dT hc,cT,mt hc,bw A0];simp only[];rw[j (i+1) hi A0]
    congr 1
    omega
   .grind
  .obtain rfl:i=l.length:=A0
   exact T8
theorem Ox(n:Nat)(l:Td Tm)(t:Tm)(h:l.length<1073741824){p:Nat}(hp:p<=l.length)(d:Td Tm->Y R):z3x.c6 GU n l (p:Int) t.op t.ah t.am t.ae d=d (l.take p++[t]++l.drop p):=by
 unfold z3x.c6;rw[HV A0 A0 A0,bS,cV A4,bS,cV A4,bS,HV A0 A0 A0,bS,cV A4,bS,Tm.eta];simp
noncomputable def gIU:Td Tm->Tm->Y (Td Tm):=λl t=>if (∀y∈l,y.az<4294967296)/\l.length<1073741824 then some (iE l t)else none
theorem xX:aj (z3x.ent gIU):=z3x.ok (G:=GU) ⟨z2e _ (O3 _),mH _ (O3 _),trivial⟩ λl t r h=>by
 unfold gIU at h;split at h
 .rename_i hs;cases h;obtain⟨hl,v⟩:=hs;refine⟨List.length (α:=Tm) l+1,?_⟩;unfold z3x.aq;have e:=K4 (R:=AT×Td Ob) (List.length (α:=Tm) l+1) l t hl A0;refine(e _ (List.length (α:=Tm) l+1) 0 A0 A0).trans ?_;rw[OQ,Pp,B0];have d:=Fi t l;have c6:=λw=>Ox (R:=AT×Td Ob) (List.length (α:=Tm) l+1) l t v d w;by_cases hi:upU t l<List.length (α:=Tm) l
  .obtain⟨x,j,y⟩:=bo (xs:=l) hi;rw[bt hi,cT,aW j,bS,Tm.eta,Tm.eta,j];show Option.bind (ga 4294967296 x t) _=_;unfold ga;rw[mt (hl x y),bS];simp only;by_cases hc:bR x t=0
   .grind
   .grind
  .grind
 .cases h
theorem uh{l:Td Tm}(h:x∈xs.foldl iE l):x∈l\/x∈xs:=by
 induction xs generalizing l with
 |nil=>exact .inl h
 | cons y ys d=>
  rcases d h with h|h
  .rcases oq.1 h with rfl|h
   .grind
   .exact .inl h
  .grind
theorem pq:∀(ys l:Td Tm),(ys.foldl iE l).length<=l.length+ys.length
 |[],_=>O3 _
 | y::ys,l=>by
  have:=pq ys (iE l y);have:=rt (t:=y) l;rw[PI,OP];omega
noncomputable def qM(k:Nat):Tm->Td Tm->Y (Td Tm):=λt l=>if t.az<k/\(∀y∈l,y.az<4294967296)/\l.length+tsz t<1073741824 then some ((oc t).foldl iE l)else none
abbrev rN:Z->Int->Y Tm:=λn s=>some (Tm.mk (-1) n s [])
theorem C2:aj (z3z.ent rN):=z3z.ok (G:=⟨()⟩) trivial λn s r h=>⟨1,QU⟩
theorem BQ{f:Tm->Nat}{i:Nat}(h:xs[i]? =some x):wS f (xs.drop i)=f x+wS f (xs.drop (i+1)):=by rw[bm h,hZ]
theorem qV(t:Tm):(oc t).length<=tsz t:=Gb _ t (OX _)
theorem vJ{t:Tm}(h:x∈oc t):x.op= -1/\x.ae=[]/\x.az<=t.az:=Gn _ t (OX _) x h
theorem H8(n k:Nat)(hk:k<=4294967295)(h0 d:Int)(h:Z)(xs:Td Tm)(v:∀x∈xs,x.az<k)(hl:xs.length<4294967296)(j:Td Tm->Y R):∀m (i:Nat) (l:Td Tm),(∀y∈l,y.az<4294967296)->l.length+wS tsz (xs.drop i)<1073741824->i<=xs.length->xs.length-i<m->
  z3s.l4 ⟨rN,gIU,qM k⟩ n m h0 h d xs l (i:Int) j=j (((xs.drop i).flatMap oc).foldl iE l):=by
 intro m
 induction m with
 |zero=>exact T3
 | succ m B=>
  intro i l w C h1 hm;show z3s.b4 ⟨rN,gIU,qM k⟩ n h0 h d xs l (i:Int) (λD E=>z3s.l4 ⟨rN,gIU,qM k⟩ n m h0 h d xs D E j) j=_;unfold z3s.b4;by_cases hi:i<xs.length
  .obtain⟨x,t,A⟩:=bo hi;rw[BQ t]at C;rw[bt hi,cT,aW t,bS,Tm.eta];show Option.bind (qM k x l) _=_;have e:qM k x l=some ((oc x).foldl iE l):=mt ⟨v x A,w,A0⟩;rw[e,bS,bw A0];simp only[];have:=pq (oc x) l;have:=qV x;rw[B (i+1) _ (λy hm=> ?_) A0 hi A0,bm t,Py,List.foldl_append];rcases uh hm with hm|hm
   .exact w y hm
   .have:=(vJ hm).2.2;have:=v x A;omega
  .grind
theorem o9:∀k,k<=4294967296->aj (z3s.ent (qM k))
 |0,_=>okQ (by (repeat intro h);simp[qM]at h)
 | k+1,hk=>z3s.ok (G:=⟨rN,gIU,qM k⟩) ⟨C2,xX,o9 k A0,trivial⟩ fun t l r h=>by
  unfold qM at h;split at h
  .rename_i hs;obtain⟨w,d,hl⟩:=hs;cases h;have j:=bu t;have bF:=ct t.ae;refine⟨t.ae.length+1,?_⟩;unfold z3s.aq;rw[Bw];by_cases ho:t.op= -1
   .rw[dT ho,cT,mt ho];show Option.bind (rN t.ah t.am) _=_;rw[show rN t.ah t.am=some (vT t)from rfl,bS,Tm.eta];show Option.bind (gIU l (vT t)) _=_;have e:gIU l (vT t)=some (iE l (vT t)):=mt ⟨d,by have hl:List.length (α:=Tm) l+tsz t<1073741824:=hl;omega⟩;rw[e];rfl
   .rw[dF ho,cF,O2 ho];rw[dY]at hl;have hl:List.length (α:=Tm) l+(1+wS tsz t.ae)<1073741824:=hl;refine(H8 (t.ae.length+1) k A0 t.op t.am t.ah t.ae (λx v=>by have:=aM v;omega) A0 _ (t.ae.length+1) 0 l d (by rw[OQ];omega) A0 A0).trans ?_;rw[OQ]
  .cases h
noncomputable def gVs:Tm->Y (Td Tm):=λt=>if t.az<1073741823 then some (ci t)else none
theorem wj(t:Tm):tsz t<=t.az+1:=AY _ t (OX _)
theorem z2w:aj (z2v.ent gVs):=z2v.ok (G:=⟨qM 4294967296⟩) ⟨o9 _ (O3 _),trivial⟩ λt r h=>by
 unfold gVs at h;split at h
 .rename_i hs;cases h;refine⟨1,?_⟩;unfold z2v.aq;rw[Tm.eta];show Option.bind (qM 4294967296 t []) _=_;have:=wj t;have e:qM 4294967296 t []=some ((oc t).foldl iE []):=mt ⟨A0,λy d=>QR,A4⟩;rw[e];rfl
 .cases h
noncomputable def gV1(k:Nat):Tm->Td Tm->Y (Td Tm):=λt l=>if t.az<k/\l.length+tsz t<1073741824 then some (l++oc t)else none
theorem JX(n k:Nat)(xs:Td Tm)(j:∀x∈xs,x.az<k)(hl:xs.length<4294967296)(d:Td Tm->Y R):∀m (i:Nat) (l:Td Tm),l.length+wS tsz (xs.drop i)<1073741824->i<=xs.length->xs.length-i<m->
  z0v.l4 ⟨gV1 k⟩ n m xs (xs.length:Int) (i:Int) l d=d (l++(xs.drop i).flatMap oc):=by
 intro m
 induction m with
 |zero=>intro i l _ _ hm;omega
 | succ m t=>
  intro i l v h1 hm;show z0v.b4 ⟨gV1 k⟩ n xs (xs.length:Int) (i:Int) l (λw y=>z0v.l4 ⟨gV1 k⟩ n m xs (xs.length:Int) w y d) d=_;unfold z0v.b4;by_cases hi:i<xs.length
  .obtain⟨x,h,A⟩:=bo hi;rw[BQ h]at v;rw[bt hi,cT,aW h,bS,Tm.eta];show Option.bind (gV1 k x l) _=_;have e:gV1 k x l=some (l++oc x):=mt ⟨j x A,A0⟩;have:=qV x;rw[e,bS,bw A0];simp only[];rw[t (i+1) _ (by rw[OJ];omega) hi A0,bm h,Py,O5]
  .grind
theorem jE:∀k,k<=4294967296->aj (z0v.ent (gV1 k))
 | 0, _=>fun R xs H K r h=>by
  simp only[z0v.ent]at h;split at h
  .simp[gV1]at h
  .cases h
 | k+1,hk=>z0v.ok (G:=⟨gV1 k⟩) ⟨jE k A0,trivial⟩ fun t l r h=>by
  unfold gV1 at h;split at h
  .rename_i hs;obtain⟨v,hl⟩:=hs;have hl:List.length (α:=Tm) l+tsz t<1073741824:=hl;cases h;have d:=bu t;have bF:=ct t.ae;refine⟨t.ae.length+1,?_⟩;unfold z0v.aq;rw[Bw];by_cases ho:t.op= -1
   .rw[dT ho,cT,mt ho];unfold z0v.d2;have e1:ix (l++[Tm.mk 0 ByteArray.empty 0 []]) (List.length (α:=Tm) l:Int)=some (Tm.mk 0 ByteArray.empty 0 []):=aW (by rw[aR (O3 _)];simp);rw[cV A4,bS,e1,bS,P7,List.set_append_right _ _ (O3 _),Q9];rfl
   .rw[dF ho,cF,O2 ho];rw[dY]at hl;refine(JX (t.ae.length+1) k t.ae (λx j=>QV) A0 _ (t.ae.length+1) 0 l (by rw[OQ];omega) A0 A0).trans ?_;rw[OQ]
  .cases h
theorem z0w:aj (z0u.ent gVs):=z0u.ok (G:=⟨gV1 4294967296,Ix⟩) ⟨jE _ (O3 _),xA,trivial⟩ λt r h=>by
 unfold gVs at h;split at h
 .rename_i hs;cases h;refine⟨1,?_⟩;unfold z0u.aq;rw[Tm.eta];show Option.bind (gV1 4294967296 t []) _=_;have:=wj t;have:=qV t;have e:gV1 4294967296 t []=some ([]++oc t):=mt ⟨A0,A4⟩;rw[e,bS,Pm];show Option.bind (Ix (oc t)) _=_;have e2:Ix (oc t)=some (ci t):=mt ⟨λx d=>(vJ d).2.1,A0⟩;rw[e2];rfl
 .cases h
end
end Go.Proofs.YtkegnipofloejaaGreatDoor.Den

/-
  Texts that the claim rests on, merged: PW, DrG.
-/
import Derived.Test.YtjafncnjefnloaaDoorZRowCr11
import Derived.Test.YtjafncnjefnloaaDoorZRowCr27
import Derived.Test.YtjafncnjefnloaaDoorZRowCr28

namespace Go.Proofs.YtjafncnjefnloaaDoor.Den
open Go.RowKit
set_option maxRecDepth 100000
set_option linter.unusedVariables false
namespace l_big
structure Gs where
 none_:Unit
noncomputable def ents (_:Gs):List Ent:=[]
noncomputable def main {R:Type} (G:Gs) (n:Nat) (code:List Int) (K:Bool->Option R):Option R:=
 K (decide (1048576<(List.length code:Int)))
noncomputable def pc (_:Gs) (_:Nat):Pcs:=⟨fun _ _ _ _=>none,fun _ _ _ _=>none,fun _ _ _ _=>none⟩
noncomputable def an:Ann:=⟨6,0,[],[],[2],[],[]⟩
noncomputable abbrev bd:=bodyOf Tryd.f28
noncomputable def Does (G:Gs) (code:List Int) (r:Bool):Prop:=∃n,main (R:=AT×List Ob) G n code (fun r0=>some (.one (.b r0),[]))=some (.one (.b r),[])
theorem ok {G:Gs} (hG:AllE Tryd.prog (ents G)) {g:List Int->Option (Bool)} (hg:∀code r,g code=some r->Does G code r):EntOK Tryd.prog (ent g):=fun R xs H K r hc=>by
 simp only[ent]at hc
 split at hc
 ·obtain⟨r,j1,j2⟩:=bind_some hc
  obtain⟨n,j3⟩:=hg _ _ j1
  exact⟨_,_,j2,fnP hG an (pc G n) bd [.tmp 2] Tryd.func28 (.inl rfl) (apl [] trivial) (.trans (by kernel_rfl) j3)⟩
 ·cases hc
end l_big
namespace l_at0
noncomputable abbrev bd:=bodyOf Tryd.f62
end l_at0
namespace l_ints
structure Gs where
 none_:Unit
noncomputable def ents (_:Gs):List Ent:=[]
noncomputable def b4 {R:Type} (G:Gs) (n:Nat) (a:List Int) (b:List Int) (i:Int) (nx:Int->Option R) (k0:Bool->Option R) (k1:Option R):Option R:=
 bif decide (i<(List.length a:Int))then
  (
  Option.bind (ix a i) fun e2=>
  Option.bind (ix b i) fun e4=>
  bif !decide (e2=e4)then
   (k0 false)
  else
   nx (wr (i+1))
  )
 else
  k1
noncomputable def l4 {R:Type} (G:Gs) (n m:Nat) (a:List Int) (b:List Int) (i:Int) (k0:Bool->Option R) (k1:Option R):Option R:=iter (fun(v:Int) nx=>b4 G n a b v (fun y0=>nx y0) k0 k1) m i
noncomputable def main {R:Type} (G:Gs) (n:Nat) (a:List Int) (b:List Int) (K:Bool->Option R):Option R:=
 bif !decide ((List.length a:Int)=(List.length b:Int))then
  (K false)
 else
  l4 G n n a b 0
   (fun t4=>K t4)
   (K true)
noncomputable def dl4 (G:Gs) (n m:Nat) (R:Type) (st:St) (K:Kt R):Option R:=match st with
 |⟨[(0,.one (.l .i a)),(1,.one (.l .i b)),(5,.one (.i i))],[]⟩=>l4 G n m a b i (fun t4=>K .ret ⟨[(4,.one (.b t4))],[]⟩) (K (.exit 0) ⟨[],[]⟩)
 |_=>none
noncomputable def pc (G:Gs) (n:Nat):Pcs:=⟨fun R id st K=>bif Nat.beq id 4 then dl4 G n n R st K else none,fun _ _ _ _=>none,fun _ _ _ _=>none⟩
noncomputable def an:Ann:=⟨26,0,[(4,[0,1,5])],[],[4],[(6,⟨[([0,1,2,3,4,5,6,7,8],[],[])],[],[],[],[]⟩)],[]⟩
noncomputable abbrev bd:=bodyOf Tryd.f36
noncomputable abbrev q4:=nthC [1,1,0,1,0,0] bd
theorem pl4 {G:Gs} (hG:AllE Tryd.prog (ents G)) (n:Nat):∀m,PieceOK Tryd.prog an (.loop q4) (dl4 G n m):=lpc hG (pc G n) [0,1,5] ⟨[],[4],[(0,[])]⟩ (apl [] trivial) (fun R st K=>by unfold dl4;split<;>rfl) fun m R st K r h=>by unfold dl4 at h;split at h;exact .trans (by kernel_rfl) h;cases h
noncomputable def Does (G:Gs) (a:List Int) (b:List Int) (r:Bool):Prop:=∃n,main (R:=AT×List Ob) G n a b (fun r0=>some (.one (.b r0),[]))=some (.one (.b r),[])
theorem ok {G:Gs} (hG:AllE Tryd.prog (ents G)) {g:List Int->List Int->Option (Bool)} (hg:∀a b r,g a b=some r->Does G a b r):EntOK Tryd.prog (ent g):=fun R xs H K r hc=>by
 simp only[ent]at hc
 split at hc
 ·obtain⟨r,j1,j2⟩:=bind_some hc
  obtain⟨n,j3⟩:=hg _ _ _ j1
  exact⟨_,_,j2,fnP hG an (pc G n) bd [.tmp 4] Tryd.func36 (.inl rfl) (apl [(1,4,.loop q4)] ⟨pl4 hG n n,trivial⟩) (.trans (by kernel_rfl) j3)⟩
 ·cases hc
end l_ints
namespace l_walk
noncomputable abbrev bd:=bodyOf Tryd.f31
noncomputable abbrev q14:=nthC [1,1,0,1,0,0,1,0,0,1,1,1,1,0,1,0,0,1,0,0,1,0] bd
noncomputable abbrev q11:=nthC [1,1,0,1,0,0,1,0,0,1,1,1,1,0,1,0,0] bd
noncomputable abbrev q9:=nthC [1,1,0,1,0,0,1,0,0,1,1,1] bd
noncomputable abbrev q3:=nthC [1,1,0,1,0,0] bd
noncomputable abbrev q25:=nthC [1,1,1,0,1,0,0,1,0,0,1,1,1,0,0] bd
noncomputable abbrev q18:=nthC [1,1,1,0,1,0,0] bd
end l_walk
end Go.Proofs.YtjafncnjefnloaaDoor.Den

namespace Go.Proofs.YtjafncnjefnloaaDoor.Den
open Go.RowKit
open Classical
section
variable {gL : Cur → Int → Option (Int × Cur)} {gO : Cur → Int → Option (Bool × Cur)} {gM : Cur → Int → Option (List Int × Cur)}
theorem grow_loop {R:Type} (hO:OnceP gO) (n:Nat) (N:Int) (hN:N<=256) (a:Int) (b1:Bool) (b2:List Tm) (b3:List (List Int)) (b4:Bool) (b5:List Tm) (b6:List (List Int)) (K:List Int->Int->Int->List Int->Option R):∀m (k:Int) (c:Cur) (xs:List Int),0<=k->k<=N->Inv c->xs.length<=k->(N-k).toNat<m->
  ∃c' ys,s_l32Graph.l9 ⟨gL,gO,gM⟩ n m N a b1 b2 b3 b4 b5 b6 k c.b c.i c.h xs K=K c'.b c'.i c'.h ys/\Inv c'/\ys.length<=N:=by
 intro m
 induction m with
 |zero=>intro k c xs _ _ _ _ hm;omega
 | succ m ih =>
  intro k c xs h0 h1 hc hx hm
  show ∃c' ys,s_l32Graph.b9 ⟨gL,gO,gM⟩ n N a b1 b2 b3 b4 b5 b6 k c.b c.i c.h xs (fun y0 y1 y2 y3 y4=>s_l32Graph.l9 ⟨gL,gO,gM⟩ n m N a b1 b2 b3 b4 b5 b6 y0 y1 y2 y3 y4 K) K=_/\_
  unfold s_l32Graph.b9
  by_cases hi:k<N
  ·obtain⟨r,e,i1⟩:=hO c 2 ⟨hc,by omega⟩
   simp only[hi,decide_true,cond_true,Cur.eta,e,Option.bind_some]
   rw[wr_in (x:=k+1) (by omega)]
   cases r.1 with
   | true =>
    rw[cond_true,lim_eq (by simp;omega)]
    exact ih (k+1) r.2 (xs++[k]) (by omega) (by omega) i1 (by simp;omega) (by omega)
   |false=>exact ih (k+1) r.2 xs (by omega) (by omega) i1 (by omega) (by omega)
  ·exact⟨c,xs,by simp[hi],hc,by omega⟩
theorem states_loop {R:Type} (hO:OnceP gO) (N:Int) (hN:N<=256) (b1:Bool) (b2:List Tm) (b3:List (List Int)) (b4:Bool) (K:List Int->Int->Int->List Tm->List (List Int)->Option R):∀m (i:Int) (c:Cur) (ss:List Tm) (es:List (List Int)),0<=i->i<=N->Inv c->ss.length=i->es.length=i->(∀row∈es,(row.length:Int)<=N)->(N-i).toNat<m->
  ∃c' ss' es',s_l32Graph.l4 ⟨gL,gO,gM⟩ 1000 m N b1 b2 b3 b4 i c.b c.i c.h ss es K=K c'.b c'.i c'.h ss' es'/\Inv c'/\ss'.length=N/\es'.length=N/\∀row∈es',(row.length:Int)<=N:=by
 intro m
 induction m with
 |zero=>intro i c ss es _ _ _ _ _ _ hm;omega
 | succ m ih =>
  intro i c ss es h0 h1 hc hs he hr hm
  show ∃c' ss' es',s_l32Graph.b4 ⟨gL,gO,gM⟩ 1000 N b1 b2 b3 b4 i c.b c.i c.h ss es (fun y0 y1 y2 y3 y4 y5=>s_l32Graph.l4 ⟨gL,gO,gM⟩ 1000 m N b1 b2 b3 b4 y0 y1 y2 y3 y4 y5 K) K=_/\_
  unfold s_l32Graph.b4
  by_cases hi:i<N
  ·simp only[hi,decide_true,cond_true]
   rw[lim_eq (by simp;omega),Option.bind_some]
   obtain⟨c',ys,e1,i1,l1⟩:=grow_loop (gL:=gL) (gM:=gM) hO 1000 N hN i b1 b2 b3 b4 (ss++[⟨i,ByteArray.empty,0,[]⟩]) es (fun h04 h05 h06 h72=>Option.bind (lim (es++[h72])) fun zs2=>s_l32Graph.l4 ⟨gL,gO,gM⟩ 1000 m N b1 b2 b3 b4 (wr (i+1)) h04 h05 h06 (ss++[⟨i,ByteArray.empty,0,[]⟩]) zs2 K) 1000 0 c [] (by omega) (by omega) hc (by simp) (by omega)
   rw[e1,lim_eq (by simp;omega),wr_in (x:=i+1) (by omega)]
   exact ih (i+1) c' _ _ (by omega) (by omega) i1 (by simp;omega) (by simp;omega) (fun row hm=>by rcases List.mem_append.1 hm with h|h;exact hr row h;simp at h;subst h;exact l1) (by omega)
  ·exact⟨c,ss,es,by simp[hi],hc,by omega,by omega,hr⟩
def GraphP (g:Cur->Option (Gr×List Int×Cur)):Prop:=∀c,Inv c->∃r,g c=some r/\(r.1.states.length<=4/\r.1.edges.length<=4/\(∀row∈r.1.edges,row.length<=4)/\r.2.1.length<=5/\Inv r.2.2)
theorem graph_ex (hL:BelowP gL) (hO:OnceP gO) (hM:MarksP gM) (eL:EntOK Tryd.prog (s_l1Below.ent gL)) (eO:EntOK Tryd.prog (s_l1Once.ent gO)) (eM:EntOK Tryd.prog (s_l31Marks_o.ent gM)):∃g,EntOK Tryd.prog (s_l32Graph.ent g)/\GraphP g:=
 by_pick (fun g hg=>s_l32Graph.ok (G:=⟨gL,gO,gM⟩) ⟨eL,eO,eM,trivial⟩ hg) fun c hc=>by
  obtain⟨r,e,q0,q1,_,i1⟩:=hL c 4 ⟨hc,by omega⟩
  have q1:=q1 (by omega)
  have ew:wr (1+r.1)=1+r.1:=wr_in (by omega)
  have key:∀(R:Type) (K:Gr->List Int->Cur->Option R),∃g ls c',s_l32Graph.main ⟨gL,gO,gM⟩ 1000 c K=K g ls c'/\(g.states.length<=4/\g.edges.length<=4/\(∀row∈g.edges,row.length<=4)/\ls.length<=5/\Inv c'):=fun R K=>by
   unfold s_l32Graph.main
   dsimp only
   rw[e,Option.bind_some,ew]
   obtain⟨c',ss,es,e1,i2,l1,l2,l3⟩:=states_loop (gL:=gL) (gM:=gM) hO (1+r.1) (by omega) false [] [] true (fun h04 h05 h06 h52 h62=>Option.bind (gM (Cur.mk h04 h05 h06) (1+r.1)) fun r2=>Option.bind (gO r2.2 20) fun r3=>bif r3.1 then (Option.bind (lim (r2.1++[0])) fun zs=>K (Gr.mk h52 h62 true) zs r3.2)else K (Gr.mk h52 h62 true) r2.1 r3.2) 1000 0 r.2 [] [] (by omega) (by omega) i1 rfl rfl (fun row h=>by simp at h) (by omega)
   rw[e1]
   obtain⟨r2,e2,m1,_,i3⟩:=hM c' (1+r.1) ⟨i2,by omega,by omega⟩
   obtain⟨r3,e3,i4⟩:=hO r2.2 20 ⟨i3,by omega⟩
   rw[Cur.eta,e2,Option.bind_some,e3,Option.bind_some]
   cases r3.1 with
   | true =>
    rw[cond_true,lim_eq (by simp;omega),Option.bind_some]
    exact⟨_,_,_,rfl,by simp only;omega,by simp only;omega,fun row h=>by have:=l3 row h;omega,by simp;omega,i4⟩
   |false=>exact⟨_,_,_,rfl,by simp only;omega,by simp only;omega,fun row h=>by have:=l3 row h;omega,by omega,i4⟩
  obtain⟨g,ls,c',k1,k2⟩:=key (AT×List Ob) _
  exact⟨(g,ls,c'),⟨1000,k1⟩,k2⟩
end
def bytesOk (code:List Int):Prop:=code.length<=1048576/\∀x∈code,0<=x/\x<=255
def At0P (g:List Int->Int->Option Int):Prop:=∀code i,(bytesOk code/\0<=i/\i<=100)->∃r,g code i=some r/\0<=r
section
variable {R : Type} {gA : List Int → Int → Option Int} (hA : At0P gA) {code : List Int} (hb : bytesOk code) {g : Gr} (hg : graphOk g) (n : Nat)
end
end Go.Proofs.YtjafncnjefnloaaDoor.Den

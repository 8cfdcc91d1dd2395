/-
  Texts that the claim rests on, merged: PW, DrG.
-/
import Derived.Test.YtjafncnjefnloaaDoorZRowMC11
import Derived.Test.YtjafncnjefnloaaDoorZRowMC13
import Derived.Test.YtjafncnjefnloaaDoorZRowMC28

namespace Go.Proofs.YtjafncnjefnloaaDoor.Den
open Go.RowKit
set_option maxRecDepth 100000
set_option linter.unusedVariables false
namespace l_big
structure Gs where
 none_:Unit
noncomputable def ents (_:Gs):List Ent:=[]
noncomputable def main {R:Type} (G:Gs) (n:Nat) (code:List Int) (K:Bool->Option R):Option R:=
 K (decide (1048576<(List.length code:Int)))
noncomputable def pc (_:Gs) (_:Nat):Pcs:=⟨fun _ _ _ _=>none,fun _ _ _ _=>none,fun _ _ _ _=>none⟩
noncomputable def an:Ann:=⟨6,0,[],[],[2],[],[]⟩
noncomputable abbrev bd:=bodyOf Tryd.f28
noncomputable def Does (G:Gs) (code:List Int) (r:Bool):Prop:=∃n,main (R:=AT×List Ob) G n code (fun r0=>some (.one (.b r0),[]))=some (.one (.b r),[])
theorem ok {G:Gs} (hG:AllE Tryd.prog (ents G)) {g:List Int->Option (Bool)} (hg:∀code r,g code=some r->Does G code r):EntOK Tryd.prog (ent g):=fun R xs H K r hc=>by
 simp only[ent]at hc
 split at hc
 ·obtain⟨r,j1,j2⟩:=bind_some hc
  obtain⟨n,j3⟩:=hg _ _ j1
  exact⟨_,_,j2,fnP hG an (pc G n) bd [.tmp 2] Tryd.func28 (.inl rfl) (apl [] trivial) (.trans (by kernel_rfl) j3)⟩
 ·cases hc
end l_big
namespace l_at0
structure Gs where
 none_:Unit
noncomputable def ents (_:Gs):List Ent:=[]
noncomputable def main {R:Type} (G:Gs) (n:Nat) (code:List Int) (i:Int) (K:Int->Option R):Option R:=
 bif decide (i<(List.length code:Int))then
  (
  Option.bind (ix code i) fun e=>
  K e
  )
 else
  Option.bind (bif decide (0<=(wr ((wr (i*7))+(List.length code:Int))))&&decide (0<256)then some ((wr ((wr (i*7))+(List.length code:Int)))%256)else none) fun q=>
  K q
noncomputable def pc (_:Gs) (_:Nat):Pcs:=⟨fun _ _ _ _=>none,fun _ _ _ _=>none,fun _ _ _ _=>none⟩
noncomputable def an:Ann:=⟨20,0,[],[],[4],[],[]⟩
noncomputable abbrev bd:=bodyOf Tryd.f62
noncomputable def Does (G:Gs) (code:List Int) (i:Int) (r:Int):Prop:=∃n,main (R:=AT×List Ob) G n code i (fun r0=>some (.one (.i r0),[]))=some (.one (.i r),[])
theorem ok {G:Gs} (hG:AllE Tryd.prog (ents G)) {g:List Int->Int->Option (Int)} (hg:∀code i r,g code i=some r->Does G code i r):EntOK Tryd.prog (ent g):=fun R xs H K r hc=>by
 simp only[ent]at hc
 split at hc
 ·obtain⟨r,j1,j2⟩:=bind_some hc
  obtain⟨n,j3⟩:=hg _ _ _ j1
  exact⟨_,_,j2,fnP hG an (pc G n) bd [.tmp 4] Tryd.func62 (.inl rfl) (apl [] trivial) (.trans (by kernel_rfl) j3)⟩
 ·cases hc
end l_at0
namespace l_ints
structure Gs where
 none_:Unit
noncomputable def b4 {R:Type} (G:Gs) (n:Nat) (a:List Int) (b:List Int) (i:Int) (nx:Int->Option R) (k0:Bool->Option R) (k1:Option R):Option R:=
 bif decide (i<(List.length a:Int))then
  (
  Option.bind (ix a i) fun e2=>
  Option.bind (ix b i) fun e4=>
  bif !decide (e2=e4)then
   (k0 false)
  else
   nx (wr (i+1))
  )
 else
  k1
noncomputable def l4 {R:Type} (G:Gs) (n m:Nat) (a:List Int) (b:List Int) (i:Int) (k0:Bool->Option R) (k1:Option R):Option R:=iter (fun(v:Int) nx=>b4 G n a b v (fun y0=>nx y0) k0 k1) m i
noncomputable def dl4 (G:Gs) (n m:Nat) (R:Type) (st:St) (K:Kt R):Option R:=match st with
 |⟨[(0,.one (.l .i a)),(1,.one (.l .i b)),(5,.one (.i i))],[]⟩=>l4 G n m a b i (fun t4=>K .ret ⟨[(4,.one (.b t4))],[]⟩) (K (.exit 0) ⟨[],[]⟩)
 |_=>none
noncomputable abbrev bd:=bodyOf Tryd.f36
noncomputable abbrev q4:=nthC [1,1,0,1,0,0] bd
end l_ints
namespace l_walk
structure Gs where
 l_at0:List Int->Int->Option (Int)
noncomputable def ents (G:Gs):List Ent:=[l_at0.ent G.l_at0]
noncomputable def c14 {R:Type} (G:Gs) (n:Nat) (k:Int) (h0:Int) (h1:List Int) (h2:Int) (h3:List Int) (k0:Option R):Option R:=
 k0
noncomputable def b11 {R:Type} (G:Gs) (n:Nat) (code:List Int) (i:Int) (next1:Int) (h0:List Tm) (h02:List (List Int)) (h03:Bool) (h1:Int) (h2:List Int) (h3:Int) (h4:List Int) (k:Int) (nx:Int->Option R) (k0:Int->Option R) (k1:Option R):Option R:=
 bif decide (0 ≤ k) then
  (
  Option.bind (ix h4 k) fun e=>
  bif decide (e = next1) then
   (
   Option.bind (G.l_at0 code i) fun r=>
   Option.bind (bif decide (0<=r)&&decide (0<2)then some (r%2)else none) fun q=>
   bif decide (q=0)then
    (
    c14 G n k h1 h2 h3 h4
     (k0 k)
    )
   else
    bif decide (6<i)then
     (
     c14 G n k h1 h2 h3 h4
      (k0 k)
     )
    else
     nx (wr (k-1))
   )
  else
   nx (wr (k-1))
  )
 else
  k1
noncomputable def l11 {R:Type} (G:Gs) (n m:Nat) (code:List Int) (i:Int) (next1:Int) (h0:List Tm) (h02:List (List Int)) (h03:Bool) (h1:Int) (h2:List Int) (h3:Int) (h4:List Int) (k:Int) (k0:Int->Option R) (k1:Option R):Option R:=iter (fun(v:Int) nx=>b11 G n code i next1 h0 h02 h03 h1 h2 h3 h4 v (fun y0=>nx y0) k0 k1) m k
noncomputable def c9 {R:Type} (G:Gs) (n:Nat) (code:List Int) (i:Int) (edges:List Int) (h0:List Tm) (h02:List (List Int)) (h03:Bool) (h1:Int) (h2:List Int) (h3:Int) (h4:List Int) (k0:Int->Option R) (k1:List Int->Option R):Option R:=
 Option.bind (G.l_at0 code (wr (5+i))) fun r=>
 Option.bind (bif decide (0<=r)&&decide (0<(List.length edges:Int))then some (r%(List.length edges:Int))else none) fun q=>
 Option.bind (ix edges q) fun e=>
 l11 G n n code i e h0 h02 h03 h1 h2 h3 h4 (wr ((List.length h4:Int)-1))
  (fun h04=>k0 h04)
  (
   Option.bind (lim (h4++[e])) fun zs=>
   k1 zs
  )
noncomputable def b3 {R:Type} (G:Gs) (n:Nat) (code:List Int) (h0:List Tm) (h02:List (List Int)) (h03:Bool) (h1:Int) (h2:List Int) (h3:Int) (i:Int) (h4:List Int) (nx:Int->List Int->Option R) (k0:Int->List Int->Option R) (k1:List Int->Option R):Option R:=
 bif decide (i<12)then
  (
  Option.bind (ix h4 (wr ((List.length h4:Int)-1))) fun e=>
  Option.bind (ix h02 e) fun e2=>
  bif decide ((List.length e2:Int)=0)then
   (
   c9 G n code i [e] h0 h02 h03 h1 h2 h3 h4
    (fun h04=>k0 h04 h4)
    (fun h42=>nx (wr (i+1)) h42)
   )
  else
   c9 G n code i e2 h0 h02 h03 h1 h2 h3 h4
    (fun h042=>k0 h042 h4)
    (fun h422=>nx (wr (i+1)) h422)
  )
 else
  k1 h4
noncomputable def l3 {R:Type} (G:Gs) (n m:Nat) (code:List Int) (h0:List Tm) (h02:List (List Int)) (h03:Bool) (h1:Int) (h2:List Int) (h3:Int) (i:Int) (h4:List Int) (k0:Int->List Int->Option R) (k1:List Int->Option R):Option R:=iter (fun(v:Int×List Int) nx=>b3 G n code h0 h02 h03 h1 h2 h3 v.1 v.2 (fun y0 y1=>nx (y0,y1)) k0 k1) m (i,h4)
noncomputable def b25 {R:Type} (G:Gs) (n:Nat) (k:Int) (edges:List Int) (h0:List Tm) (h02:List (List Int)) (h03:Bool) (h1:Int) (h2:List Int) (h3:Int) (h4:List Int) (j:Int) (nx:Int->Option R) (k0:Option R) (k1:Option R):Option R:=
 bif decide (j<(List.length edges:Int))then
  (
  Option.bind (ix edges j) fun e2=>
  Option.bind (ix h4 k) fun e4=>
  bif decide (e2=e4)then
   (k0)
  else
   nx (wr (j+1))
  )
 else
  k1
noncomputable def l25 {R:Type} (G:Gs) (n m:Nat) (k:Int) (edges:List Int) (h0:List Tm) (h02:List (List Int)) (h03:Bool) (h1:Int) (h2:List Int) (h3:Int) (h4:List Int) (j:Int) (k0:Option R) (k1:Option R):Option R:=iter (fun(v:Int) nx=>b25 G n k edges h0 h02 h03 h1 h2 h3 h4 v (fun y0=>nx y0) k0 k1) m j
noncomputable def c24 {R:Type} (G:Gs) (n:Nat) (k:Int) (edges:List Int) (h0:List Tm) (h02:List (List Int)) (h03:Bool) (h1:Int) (h2:List Int) (h3:Int) (h4:List Int) (k0:Option R) (k1:Option R):Option R:=
 l25 G n n k edges h0 h02 h03 h1 h2 h3 h4 0
  (k0)
  (k1)
noncomputable def b18 {R:Type} (G:Gs) (n:Nat) (h0:List Tm) (h02:List (List Int)) (h03:Bool) (h1:Int) (h2:List Int) (h3:Int) (h4:List Int) (k:Int) (nx:Int->Option R) (k0:Int->Option R) (k1:Option R):Option R:=
 bif decide (k < (List.length h4 : Int)) then
  (
  Option.bind (ix h4 (wr ((List.length h4:Int)-1))) fun e2=>
  Option.bind (ix h02 e2) fun e4=>
  bif decide ((List.length e4:Int)=0)then
   (
   bif decide (k=(wr ((List.length h4:Int)-1)))then
    (k0 k)
   else
    c24 G n k e4 h0 h02 h03 h1 h2 h3 h4
     (k0 k)
     (nx (wr (k+1)))
   )
  else
   c24 G n k e4 h0 h02 h03 h1 h2 h3 h4
    (k0 k)
    (nx (wr (k+1)))
  )
 else
  k1
noncomputable def l18 {R:Type} (G:Gs) (n m:Nat) (h0:List Tm) (h02:List (List Int)) (h03:Bool) (h1:Int) (h2:List Int) (h3:Int) (h4:List Int) (k:Int) (k0:Int->Option R) (k1:Option R):Option R:=iter (fun(v:Int) nx=>b18 G n h0 h02 h03 h1 h2 h3 h4 v (fun y0=>nx y0) k0 k1) m k
noncomputable def main {R:Type} (G:Gs) (n:Nat) (g:Gr) (code:List Int) (K:Lasso->Option R):Option R:=
 l3 G n n code (Gr.states g) (Gr.edges g) (Gr.whole g) 0 [] 0 0 [0]
  (fun h04 h12=>K (Lasso.mk h12 h04))
  (fun h42 =>
   l18 G n n (Gr.states g) (Gr.edges g) (Gr.whole g) 0 [] 0 h42 0
    (fun h042=>K (Lasso.mk h42 h042))
    (K (Lasso.mk h42 0))
  )
noncomputable def dc14 (G:Gs) (n:Nat) (R:Type) (st:St) (K:Kt R):Option R:=match st with
 |⟨[(4,.one (.p 0 0)),(5,.one (.p 2 0)),(10,.one (.i k))],[.box [.o 1,.i h0],.row .i 0 h1,.box [.o 3,.i h2],.row .i 0 h3]⟩=>c14 G n k h0 h1 h2 h3 (K .ret ⟨[(4,.one (.p 0 0))],[.box [.o 1,.i k],.row .i 0 h3]⟩)
 |_=>none
noncomputable def dl11 (G:Gs) (n m:Nat) (R:Type) (st:St) (K:Kt R):Option R:=match st with
 |⟨[(1,.one (.l .u code)),(2,.one (.p 0 0)),(4,.one (.p 1 0)),(5,.one (.p 3 0)),(6,.one (.i i)),(9,.one (.i next1)),(10,.one (.i k))],[.box [.l (.n 1) h0,.l (.sl .i) h02,.b h03],.box [.o 2,.i h1],.row .i 0 h2,.box [.o 4,.i h3],.row .i 0 h4]⟩=>l11 G n m code i next1 h0 h02 h03 h1 h2 h3 h4 k (fun h04=>K .ret ⟨[(4,.one (.p 0 0))],[.box [.o 1,.i h04],.row .i 0 h4]⟩) (K (.exit 2) ⟨[(1,.one (.l .u code)),(2,.one (.p 0 0)),(4,.one (.p 1 0)),(5,.one (.p 3 0)),(6,.one (.i i)),(9,.one (.i next1))],[.box [.l (.n 1) h0,.l (.sl .i) h02,.b h03],.box [.o 2,.i h1],.row .i 0 h2,.box [.o 4,.i h3],.row .i 0 h4]⟩)
 |_=>none
noncomputable def dc9 (G:Gs) (n:Nat) (R:Type) (st:St) (K:Kt R):Option R:=match st with
 |⟨[(1,.one (.l .u code)),(2,.one (.p 0 0)),(4,.one (.p 1 0)),(5,.one (.p 3 0)),(6,.one (.i i)),(8,.one (.l .i edges))],[.box [.l (.n 1) h0,.l (.sl .i) h02,.b h03],.box [.o 2,.i h1],.row .i 0 h2,.box [.o 4,.i h3],.row .i 0 h4]⟩=>c9 G n code i edges h0 h02 h03 h1 h2 h3 h4 (fun h04=>K .ret ⟨[(4,.one (.p 0 0))],[.box [.o 1,.i h04],.row .i 0 h4]⟩) (fun h42=>K .normal ⟨[(1,.one (.l .u code)),(2,.one (.p 0 0)),(4,.one (.p 1 0)),(5,.one (.p 3 0)),(6,.one (.i i))],[.box [.l (.n 1) h0,.l (.sl .i) h02,.b h03],.box [.o 2,.i h1],.row .i 0 h2,.box [.o 4,.i h3],.row .i 0 h42]⟩)
 |_=>none
noncomputable def dl3 (G:Gs) (n m:Nat) (R:Type) (st:St) (K:Kt R):Option R:=match st with
 |⟨[(1,.one (.l .u code)),(2,.one (.p 0 0)),(4,.one (.p 1 0)),(5,.one (.p 3 0)),(6,.one (.i i))],[.box [.l (.n 1) h0,.l (.sl .i) h02,.b h03],.box [.o 2,.i h1],.row .i 0 h2,.box [.o 4,.i h3],.row .i 0 h4]⟩=>l3 G n m code h0 h02 h03 h1 h2 h3 i h4 (fun h04 h12=>K .ret ⟨[(4,.one (.p 0 0))],[.box [.o 1,.i h04],.row .i 0 h12]⟩) (fun h42=>K (.exit 0) ⟨[(2,.one (.p 0 0)),(4,.one (.p 1 0)),(5,.one (.p 3 0))],[.box [.l (.n 1) h0,.l (.sl .i) h02,.b h03],.box [.o 2,.i h1],.row .i 0 h2,.box [.o 4,.i h3],.row .i 0 h42]⟩)
 |_=>none
noncomputable def dl25 (G:Gs) (n m:Nat) (R:Type) (st:St) (K:Kt R):Option R:=match st with
 |⟨[(2,.one (.p 0 0)),(4,.one (.p 1 0)),(5,.one (.p 3 0)),(11,.one (.i k)),(12,.one (.l .i edges)),(13,.one (.i j))],[.box [.l (.n 1) h0,.l (.sl .i) h02,.b h03],.box [.o 2,.i h1],.row .i 0 h2,.box [.o 4,.i h3],.row .i 0 h4]⟩=>l25 G n m k edges h0 h02 h03 h1 h2 h3 h4 j (K .ret ⟨[(4,.one (.p 0 0))],[.box [.o 1,.i k],.row .i 0 h4]⟩) (K (.exit 6) ⟨[(2,.one (.p 0 0)),(4,.one (.p 1 0)),(5,.one (.p 3 0)),(11,.one (.i k))],[.box [.l (.n 1) h0,.l (.sl .i) h02,.b h03],.box [.o 2,.i h1],.row .i 0 h2,.box [.o 4,.i h3],.row .i 0 h4]⟩)
 |_=>none
noncomputable def dc24 (G:Gs) (n:Nat) (R:Type) (st:St) (K:Kt R):Option R:=match st with
 |⟨[(2,.one (.p 0 0)),(4,.one (.p 1 0)),(5,.one (.p 3 0)),(11,.one (.i k)),(12,.one (.l .i edges))],[.box [.l (.n 1) h0,.l (.sl .i) h02,.b h03],.box [.o 2,.i h1],.row .i 0 h2,.box [.o 4,.i h3],.row .i 0 h4]⟩=>c24 G n k edges h0 h02 h03 h1 h2 h3 h4 (K .ret ⟨[(4,.one (.p 0 0))],[.box [.o 1,.i k],.row .i 0 h4]⟩) (K .normal ⟨[(2,.one (.p 0 0)),(4,.one (.p 1 0)),(5,.one (.p 3 0)),(11,.one (.i k))],[.box [.l (.n 1) h0,.l (.sl .i) h02,.b h03],.box [.o 2,.i h1],.row .i 0 h2,.box [.o 4,.i h3],.row .i 0 h4]⟩)
 |_=>none
noncomputable def dl18 (G:Gs) (n m:Nat) (R:Type) (st:St) (K:Kt R):Option R:=match st with
 |⟨[(2,.one (.p 0 0)),(4,.one (.p 1 0)),(5,.one (.p 3 0)),(11,.one (.i k))],[.box [.l (.n 1) h0,.l (.sl .i) h02,.b h03],.box [.o 2,.i h1],.row .i 0 h2,.box [.o 4,.i h3],.row .i 0 h4]⟩=>l18 G n m h0 h02 h03 h1 h2 h3 h4 k (fun h04=>K .ret ⟨[(4,.one (.p 0 0))],[.box [.o 1,.i h04],.row .i 0 h4]⟩) (K (.exit 4) ⟨[(4,.one (.p 0 0)),(5,.one (.p 2 0))],[.box [.o 1,.i h1],.row .i 0 h2,.box [.o 3,.i h3],.row .i 0 h4]⟩)
 |_=>none
noncomputable def pc (G:Gs) (n:Nat):Pcs:=⟨fun R id st K=>bif Nat.beq id 11 then dl11 G n n R st K else bif Nat.beq id 3 then dl3 G n n R st K else bif Nat.beq id 25 then dl25 G n n R st K else bif Nat.beq id 18 then dl18 G n n R st K else none,fun R id st K=>bif Nat.beq id 14 then dc14 G n R st K else bif Nat.beq id 9 then dc9 G n R st K else bif Nat.beq id 24 then dc24 G n R st K else none,fun _ _ _ _=>none⟩
noncomputable def an:Ann:=⟨136,0,[(11,[1,2,4,5,6,9,10]),(3,[1,2,4,5,6]),(25,[2,4,5,11,12,13]),(18,[2,4,5,11])],[(14,[4,5,10]),(9,[1,2,4,5,6,8]),(24,[2,4,5,11,12])],[4],[(20,⟨[([0,1,2,3,4,5,6,7,8,9,10,11,12],[],[])],[],[],[0,1,2,3,4],[]⟩),(27,⟨[([0,1,2,3,4,5,6,7,8,9],[],[])],[],[],[0,1,2,3,4],[]⟩)],[37]⟩
noncomputable abbrev bd:=bodyOf Tryd.f31
noncomputable abbrev q14:=nthC [1,1,0,1,0,0,1,0,0,1,1,1,1,0,1,0,0,1,0,0,1,0] bd
noncomputable abbrev q11:=nthC [1,1,0,1,0,0,1,0,0,1,1,1,1,0,1,0,0] bd
noncomputable abbrev q9:=nthC [1,1,0,1,0,0,1,0,0,1,1,1] bd
noncomputable abbrev q3:=nthC [1,1,0,1,0,0] bd
noncomputable abbrev q25:=nthC [1,1,1,0,1,0,0,1,0,0,1,1,1,0,0] bd
noncomputable abbrev q24:=nthC [1,1,1,0,1,0,0,1,0,0,1,1] bd
noncomputable abbrev q18:=nthC [1,1,1,0,1,0,0] bd
theorem pc14 {G:Gs} (hG:AllE Tryd.prog (ents G)) {n:Nat}:PieceOK Tryd.prog an q14 (dc14 G n):=cpc hG (pc G n) ⟨[1,2,4,5,6,9,10],[4],[(0,[2,4,5]),(1,[1,2,4,5,6]),(2,[1,2,4,5,6,9]),(3,[1,2,4,5,6,9,10])]⟩ (apl [] trivial) fun R st K r h=>by unfold dc14 at h;split at h;exact .trans (by kernel_rfl) h;cases h
theorem pl11 {G:Gs} (hG:AllE Tryd.prog (ents G)) (n:Nat):∀m,PieceOK Tryd.prog an (.loop q11) (dl11 G n m):=lpc hG (pc G n) [1,2,4,5,6,9,10] ⟨[1,2,4,5,6,9],[4],[(0,[2,4,5]),(1,[1,2,4,5,6]),(2,[1,2,4,5,6,9])]⟩ (apl [(0,14,q14)] ⟨pc14 hG,trivial⟩) (fun R st K=>by unfold dl11;split<;>rfl) fun m R st K r h=>by unfold dl11 at h;split at h;exact .trans (by kernel_rfl) h;cases h
theorem pc9 {G:Gs} (hG:AllE Tryd.prog (ents G)) {n:Nat}:PieceOK Tryd.prog an q9 (dc9 G n):=cpc hG (pc G n) ⟨[1,2,4,5,6],[4],[(0,[2,4,5]),(1,[1,2,4,5,6])]⟩ (apl [(1,11,.loop q11)] ⟨pl11 hG n n,trivial⟩) fun R st K r h=>by unfold dc9 at h;split at h;exact .trans (by kernel_rfl) h;cases h
theorem pl3 {G:Gs} (hG:AllE Tryd.prog (ents G)) (n:Nat):∀m,PieceOK Tryd.prog an (.loop q3) (dl3 G n m):=lpc hG (pc G n) [1,2,4,5,6] ⟨[2,4,5],[4],[(0,[2,4,5])]⟩ (apl [(0,9,q9)] ⟨pc9 hG,trivial⟩) (fun R st K=>by unfold dl3;split<;>rfl) fun m R st K r h=>by unfold dl3 at h;split at h;exact .trans (by kernel_rfl) h;cases h
theorem pl25 {G:Gs} (hG:AllE Tryd.prog (ents G)) (n:Nat):∀m,PieceOK Tryd.prog an (.loop q25) (dl25 G n m):=lpc hG (pc G n) [2,4,5,11,12,13] ⟨[2,4,5,11],[4],[(4,[4,5]),(5,[2,4,5,11]),(6,[2,4,5,11])]⟩ (apl [] trivial) (fun R st K=>by unfold dl25;split<;>rfl) fun m R st K r h=>by unfold dl25 at h;split at h;exact .trans (by kernel_rfl) h;cases h
theorem pc24 {G:Gs} (hG:AllE Tryd.prog (ents G)) {n:Nat}:PieceOK Tryd.prog an q24 (dc24 G n):=cpc hG (pc G n) ⟨[2,4,5,11],[4],[(4,[4,5]),(5,[2,4,5,11])]⟩ (apl [(1,25,.loop q25)] ⟨pl25 hG n n,trivial⟩) fun R st K r h=>by unfold dc24 at h;split at h;exact .trans (by kernel_rfl) h;cases h
theorem pl18 {G:Gs} (hG:AllE Tryd.prog (ents G)) (n:Nat):∀m,PieceOK Tryd.prog an (.loop q18) (dl18 G n m):=lpc hG (pc G n) [2,4,5,11] ⟨[4,5],[4],[(4,[4,5])]⟩ (apl [(0,24,q24)] ⟨pc24 hG,trivial⟩) (fun R st K=>by unfold dl18;split<;>rfl) fun m R st K r h=>by unfold dl18 at h;split at h;exact .trans (by kernel_rfl) h;cases h
noncomputable def Does (G:Gs) (g:Gr) (code:List Int) (r:Lasso):Prop:=∃n,main (R:=AT×List Ob) G n g code (fun r0=>some (.agg [.l .i (Lasso.states r0),.i (Lasso.back r0)],[]))=some (.agg [.l .i (Lasso.states r),.i (Lasso.back r)],[])
theorem ok {G:Gs} (hG:AllE Tryd.prog (ents G)) {g:Gr->List Int->Option (Lasso)} (hg:∀g_ code r,g g_ code=some r->Does G g_ code r):EntOK Tryd.prog (ent g):=fun R xs H K r hc=>by
 simp only[ent]at hc
 split at hc
 ·obtain⟨r,j1,j2⟩:=bind_some hc
  obtain⟨n,j3⟩:=hg _ _ _ j1
  exact⟨_,_,j2,fnP hG an (pc G n) bd [.cell 4 33] Tryd.func31 (.inl rfl) (apl [(1,3,.loop q3),(1,18,.loop q18)] ⟨pl3 hG n n,⟨pl18 hG n n,trivial⟩⟩) (.trans (by kernel_rfl) j3)⟩
 ·cases hc
end l_walk
end Go.Proofs.YtjafncnjefnloaaDoor.Den

namespace Go.Proofs.YtjafncnjefnloaaDoor.Den
open Go.RowKit
open Classical
section
variable {gL : Cur → Int → Option (Int × Cur)} {gO : Cur → Int → Option (Bool × Cur)} {gM : Cur → Int → Option (List Int × Cur)}
theorem grow_loop {R:Type} (hO:OnceP gO) (n:Nat) (N:Int) (hN:N<=256) (a:Int) (b1:Bool) (b2:List Tm) (b3:List (List Int)) (b4:Bool) (b5:List Tm) (b6:List (List Int)) (K:List Int->Int->Int->List Int->Option R):∀m (k:Int) (c:Cur) (xs:List Int),0<=k->k<=N->Inv c->xs.length<=k->(N-k).toNat<m->
  ∃c' ys,s_l32Graph.l9 ⟨gL,gO,gM⟩ n m N a b1 b2 b3 b4 b5 b6 k c.b c.i c.h xs K=K c'.b c'.i c'.h ys/\Inv c'/\ys.length<=N:=by
 intro m
 induction m with
 |zero=>intro k c xs _ _ _ _ hm;omega
 | succ m ih =>
  intro k c xs h0 h1 hc hx hm
  show ∃c' ys,s_l32Graph.b9 ⟨gL,gO,gM⟩ n N a b1 b2 b3 b4 b5 b6 k c.b c.i c.h xs (fun y0 y1 y2 y3 y4=>s_l32Graph.l9 ⟨gL,gO,gM⟩ n m N a b1 b2 b3 b4 b5 b6 y0 y1 y2 y3 y4 K) K=_/\_
  unfold s_l32Graph.b9
  by_cases hi:k<N
  ·obtain⟨r,e,i1⟩:=hO c 2 ⟨hc,by omega⟩
   simp only[hi,decide_true,cond_true,Cur.eta,e,Option.bind_some]
   rw[wr_in (x:=k+1) (by omega)]
   cases r.1 with
   | true =>
    rw[cond_true,lim_eq (by simp;omega)]
    exact ih (k+1) r.2 (xs++[k]) (by omega) (by omega) i1 (by simp;omega) (by omega)
   |false=>exact ih (k+1) r.2 xs (by omega) (by omega) i1 (by omega) (by omega)
  ·exact⟨c,xs,by simp[hi],hc,by omega⟩
theorem states_loop {R:Type} (hO:OnceP gO) (N:Int) (hN:N<=256) (b1:Bool) (b2:List Tm) (b3:List (List Int)) (b4:Bool) (K:List Int->Int->Int->List Tm->List (List Int)->Option R):∀m (i:Int) (c:Cur) (ss:List Tm) (es:List (List Int)),0<=i->i<=N->Inv c->ss.length=i->es.length=i->(∀row∈es,(row.length:Int)<=N)->(N-i).toNat<m->
  ∃c' ss' es',s_l32Graph.l4 ⟨gL,gO,gM⟩ 1000 m N b1 b2 b3 b4 i c.b c.i c.h ss es K=K c'.b c'.i c'.h ss' es'/\Inv c'/\ss'.length=N/\es'.length=N/\∀row∈es',(row.length:Int)<=N:=by
 intro m
 induction m with
 |zero=>intro i c ss es _ _ _ _ _ _ hm;omega
 | succ m ih =>
  intro i c ss es h0 h1 hc hs he hr hm
  show ∃c' ss' es',s_l32Graph.b4 ⟨gL,gO,gM⟩ 1000 N b1 b2 b3 b4 i c.b c.i c.h ss es (fun y0 y1 y2 y3 y4 y5=>s_l32Graph.l4 ⟨gL,gO,gM⟩ 1000 m N b1 b2 b3 b4 y0 y1 y2 y3 y4 y5 K) K=_/\_
  unfold s_l32Graph.b4
  by_cases hi:i<N
  ·simp only[hi,decide_true,cond_true]
   rw[lim_eq (by simp;omega),Option.bind_some]
   obtain⟨c',ys,e1,i1,l1⟩:=grow_loop (gL:=gL) (gM:=gM) hO 1000 N hN i b1 b2 b3 b4 (ss++[⟨i,ByteArray.empty,0,[]⟩]) es (fun h04 h05 h06 h72=>Option.bind (lim (es++[h72])) fun zs2=>s_l32Graph.l4 ⟨gL,gO,gM⟩ 1000 m N b1 b2 b3 b4 (wr (i+1)) h04 h05 h06 (ss++[⟨i,ByteArray.empty,0,[]⟩]) zs2 K) 1000 0 c [] (by omega) (by omega) hc (by simp) (by omega)
   rw[e1,lim_eq (by simp;omega),wr_in (x:=i+1) (by omega)]
   exact ih (i+1) c' _ _ (by omega) (by omega) i1 (by simp;omega) (by simp;omega) (fun row hm=>by rcases List.mem_append.1 hm with h|h;exact hr row h;simp at h;subst h;exact l1) (by omega)
  ·exact⟨c,ss,es,by simp[hi],hc,by omega,by omega,hr⟩
def GraphP (g:Cur->Option (Gr×List Int×Cur)):Prop:=∀c,Inv c->∃r,g c=some r/\(r.1.states.length<=4/\r.1.edges.length<=4/\(∀row∈r.1.edges,row.length<=4)/\r.2.1.length<=5/\Inv r.2.2)
theorem graph_ex (hL:BelowP gL) (hO:OnceP gO) (hM:MarksP gM) (eL:EntOK Tryd.prog (s_l1Below.ent gL)) (eO:EntOK Tryd.prog (s_l1Once.ent gO)) (eM:EntOK Tryd.prog (s_l31Marks_o.ent gM)):∃g,EntOK Tryd.prog (s_l32Graph.ent g)/\GraphP g:=
 by_pick (fun g hg=>s_l32Graph.ok (G:=⟨gL,gO,gM⟩) ⟨eL,eO,eM,trivial⟩ hg) fun c hc=>by
  obtain⟨r,e,q0,q1,_,i1⟩:=hL c 4 ⟨hc,by omega⟩
  have q1:=q1 (by omega)
  have ew:wr (1+r.1)=1+r.1:=wr_in (by omega)
  have key:∀(R:Type) (K:Gr->List Int->Cur->Option R),∃g ls c',s_l32Graph.main ⟨gL,gO,gM⟩ 1000 c K=K g ls c'/\(g.states.length<=4/\g.edges.length<=4/\(∀row∈g.edges,row.length<=4)/\ls.length<=5/\Inv c'):=fun R K=>by
   unfold s_l32Graph.main
   dsimp only
   rw[e,Option.bind_some,ew]
   obtain⟨c',ss,es,e1,i2,l1,l2,l3⟩:=states_loop (gL:=gL) (gM:=gM) hO (1+r.1) (by omega) false [] [] true (fun h04 h05 h06 h52 h62=>Option.bind (gM (Cur.mk h04 h05 h06) (1+r.1)) fun r2=>Option.bind (gO r2.2 20) fun r3=>bif r3.1 then (Option.bind (lim (r2.1++[0])) fun zs=>K (Gr.mk h52 h62 true) zs r3.2)else K (Gr.mk h52 h62 true) r2.1 r3.2) 1000 0 r.2 [] [] (by omega) (by omega) i1 rfl rfl (fun row h=>by simp at h) (by omega)
   rw[e1]
   obtain⟨r2,e2,m1,_,i3⟩:=hM c' (1+r.1) ⟨i2,by omega,by omega⟩
   obtain⟨r3,e3,i4⟩:=hO r2.2 20 ⟨i3,by omega⟩
   rw[Cur.eta,e2,Option.bind_some,e3,Option.bind_some]
   cases r3.1 with
   | true =>
    rw[cond_true,lim_eq (by simp;omega),Option.bind_some]
    exact⟨_,_,_,rfl,by simp only;omega,by simp only;omega,fun row h=>by have:=l3 row h;omega,by simp;omega,i4⟩
   |false=>exact⟨_,_,_,rfl,by simp only;omega,by simp only;omega,fun row h=>by have:=l3 row h;omega,by omega,i4⟩
  obtain⟨g,ls,c',k1,k2⟩:=key (AT×List Ob) _
  exact⟨(g,ls,c'),⟨1000,k1⟩,k2⟩
end
def DrawAP (g:List Int->Option (Gr×List Int×Fm)):Prop:=∀code,code.length<=1048576->∃r,g code=some r/\smallA r.1 r.2.1 r.2.2
theorem drawA_ex :∃g,EntOK Tryd.prog (s_DrawAllRunsHold.ent g)/\DrawAP g:=by
 obtain⟨gB,eB,hB⟩:=byte_ex
 obtain⟨gL,eL,hL⟩:=below_ex eB hB
 obtain⟨gO,eO,hO⟩:=once_ex eL hL
 obtain⟨gN,eN,hN⟩:=new_ex
 obtain⟨gM,eM,hM⟩:=marks_ex eL hL
 obtain⟨gE,eE,hE⟩:=drawO_ex hL hO eL eO
 obtain⟨gT,eT,hT⟩:=bent_ex hL eL eE hE
 obtain⟨gG,eG,hG⟩:=graph_ex hL hO hM eL eO eM
 refine by_pick (fun g hg=>s_DrawAllRunsHold.ok (G:=⟨gN,gG,gT⟩) ⟨eN,eG,eT,trivial⟩ hg) fun code hl=> ?_
 obtain⟨c0,e0,i0⟩:=hN code hl
 obtain⟨r2,e2,g1,g2,g3,g4,i2⟩:=hG c0 i0
 obtain⟨r4,e4,t4,i4⟩:=hT r2.2.2 i2
 refine⟨(r2.1,r2.2.1,r4.1),⟨1,?_⟩,⟨by simp only;omega,by simp only;omega,fun row h=>by have:=g3 row h;omega⟩,by simp only;omega,by unfold Fm.size;simp only;omega⟩
 unfold s_DrawAllRunsHold.main
 simp only[e0,e2,e4,Option.bind_some]
def bytesOk (code:List Int):Prop:=code.length<=1048576/\∀x∈code,0<=x/\x<=255
def At0P (g:List Int->Int->Option Int):Prop:=∀code i,(bytesOk code/\0<=i/\i<=100)->∃r,g code i=some r/\0<=r
theorem at0_ex :∃g,EntOK Tryd.prog (l_at0.ent g)/\At0P g:=by_pick2 (fun g hg=>l_at0.ok (G:=⟨()⟩) trivial hg) fun code i ⟨⟨hl,hb⟩,h0,h1⟩=>by
 have key:∃r:Int,(∀(R:Type) (K:Int->Option R),l_at0.main ⟨()⟩ 1 code i K=K r)/\0<=r:=by
  unfold l_at0.main
  by_cases hi:i<code.length
  ·obtain⟨x,hx,hm⟩:=ix_in h0 hi
   exact⟨x,fun R K=>by simp only[hi,decide_true,cond_true,hx,Option.bind_some],(hb x (List.mem_of_getElem? hm)).1⟩
  ·have e1:wr (i*7)=i*7:=wr_in (by omega)
   have e2:wr (i*7+(code.length:Int))=i*7+(code.length:Int):=wr_in (by omega)
   exact⟨(i*7+(code.length:Int))%256,fun R K=>by
    rw[e1,e2,decide_eq_false hi,cond_false,decide_eq_true (p:=0<=i*7+(code.length:Int)) (by omega)];rfl,by omega⟩
 obtain⟨r,k1,k2⟩:=key
 exact⟨r,⟨1,k1 _ _⟩,k2⟩
def wayOk (n:Nat) (h:List Int):Prop:=1<=h.length/\h.length<=13/\∀x∈h,0<=x/\x<n
section
variable {R : Type} {gA : List Int → Int → Option Int} (hA : At0P gA) {code : List Int} (hb : bytesOk code) {g : Gr} (hg : graphOk g) (n : Nat)
include hA hb in
theorem back_loop {i:Int} (hi:0<=i/\i<=100) (e:Int) (s:List Tm) (es:List (List Int)) (w:Bool) (a:Int) (b:List Int) (c:Int) (h4:List Int) (k0:Int->Option R) (k1:Option R):∀m (k:Int), -1<=k->k<h4.length->h4.length<=1000->(k+1).toNat<m->
  (∃k':Int,(0<=k'/\k'<h4.length)/\l_walk.l11 ⟨gA⟩ n m code i e s es w a b c h4 k k0 k1=k0 k')\/l_walk.l11 ⟨gA⟩ n m code i e s es w a b c h4 k k0 k1=k1:=by
 intro m
 induction m with
 |zero=>intro k _ _ _ hm;omega
 | succ m ih =>
  intro k h1 h2 h3 hm
  show (∃k':Int,(0<=k'/\k'<h4.length)/\l_walk.b11 ⟨gA⟩ n code i e s es w a b c h4 k (fun y0=>l_walk.l11 ⟨gA⟩ n m code i e s es w a b c h4 y0 k0 k1) k0 k1=_)\/l_walk.b11 ⟨gA⟩ n code i e s es w a b c h4 k (fun y0=>l_walk.l11 ⟨gA⟩ n m code i e s es w a b c h4 y0 k0 k1) k0 k1=_
  unfold l_walk.b11
  by_cases hk:0<=k
  ·obtain⟨x,hx,_⟩:=ix_in hk h2
   obtain⟨r,hr,hr0⟩:=hA code i ⟨hb,hi⟩
   have ew:wr (k-1)=k-1:=wr_in (by omega)
   have hih:=ih (k-1) (by omega) (by omega) h3 (by omega)
   simp only[hk,decide_true,cond_true,hx,Option.bind_some,ew]
   by_cases c1:x=e
   ·simp only[c1,decide_true,cond_true,hr,Option.bind_some,hr0,Bool.true_and]
    have e2:(bif decide (0<2)then some (r%2)else none)=some (r%2):=rfl
    rw[e2]
    simp only[Option.bind_some]
    by_cases c2:r%2=0
    ·simp only[c2,decide_true,cond_true]
     exact .inl ⟨k,⟨hk,h2⟩,rfl⟩
    ·simp only[c2,decide_false,cond_false]
     by_cases c3:6<i
     ·simp only[c3,decide_true,cond_true]
      exact .inl ⟨k,⟨hk,h2⟩,rfl⟩
     ·simp only[c3,decide_false,cond_false]
      exact hih
   ·simp only[c1,decide_false,cond_false]
    exact hih
  ·simp only[hk,decide_false,cond_false]
   exact .inr trivial
include hA hb in
theorem c9_walk {i:Int} (hi:0<=i/\i<=90) {edges:List Int} (he:edges≠[]) (hel:edges.length<=1000) (s:List Tm) (es:List (List Int)) (w:Bool) (a:Int) (b:List Int) (c:Int) {h4:List Int} (h41:h4.length<=900) (k0:Int->Option R) (k1:List Int->Option R) (hn:1000<=n):
  (∃k':Int,(0<=k'/\k'<h4.length)/\l_walk.c9 ⟨gA⟩ n code i edges s es w a b c h4 k0 k1=k0 k')\/∃e∈edges,l_walk.c9 ⟨gA⟩ n code i edges s es w a b c h4 k0 k1=k1 (h4++[e]):=by
 obtain⟨r,hr,hr0⟩:=hA code (5+i) ⟨hb,by omega,by omega⟩
 have hlen:0<edges.length:=List.length_pos_iff.2 he
 have hq:0<=r%(edges.length:Int)/\r%(edges.length:Int)<edges.length:=⟨Int.emod_nonneg _ (by omega),Int.emod_lt_of_pos _ (by omega)⟩
 obtain⟨e,hx,hm⟩:=ix_in hq.1 hq.2
 have ew:wr ((h4.length:Int)-1)=(h4.length:Int)-1:=wr_in (by omega)
 unfold l_walk.c9
 dsimp only
 rw[wr_in (x:=5+i) (by omega),hr,Option.bind_some,decide_eq_true hr0,decide_eq_true (p:=0<(edges.length:Int)) (by omega),Bool.and_self,cond_true,Option.bind_some,hx,Option.bind_some,lim_eq (by simp;omega),Option.bind_some,ew]
 exact(back_loop hA hb n (i:=i) ⟨by omega,by omega⟩ e s es w a b c h4 k0 (k1 (h4++[e])) n ((h4.length:Int)-1) (by omega) (by omega) (by omega) (by omega)).imp_right fun q=>⟨e,List.mem_of_getElem? hm,q⟩
include hA hb hg in
theorem way_loop (hn:1000<=n) (a:Int) (b:List Int) (c:Int) (k0:Int->List Int->Option R) (k1:List Int->Option R):∀m (i:Int) (h:List Int),0<=i->i<=12->wayOk g.states.length h->h.length<=i+1->(12-i).toNat<m->
  (∃(k:Int) (h':List Int),(0<=k/\k<h'.length)/\wayOk g.states.length h'/\l_walk.l3 ⟨gA⟩ n m code g.states g.edges g.whole a b c i h k0 k1=k0 k h')\/∃h',wayOk g.states.length h'/\l_walk.l3 ⟨gA⟩ n m code g.states g.edges g.whole a b c i h k0 k1=k1 h':=by
 intro m
 induction m with
 |zero=>intro i h _ _ _ _ hm;omega
 | succ m ih =>
  intro i h h0 h1 hw hl hm
  show (∃(k:Int) (h':List Int),(0<=k/\k<h'.length)/\wayOk g.states.length h'/\l_walk.b3 ⟨gA⟩ n code g.states g.edges g.whole a b c i h (fun y0 y1=>l_walk.l3 ⟨gA⟩ n m code g.states g.edges g.whole a b c y0 y1 k0 k1) k0 k1=_)\/∃h',wayOk g.states.length h'/\l_walk.b3 ⟨gA⟩ n code g.states g.edges g.whole a b c i h (fun y0 y1=>l_walk.l3 ⟨gA⟩ n m code g.states g.edges g.whole a b c y0 y1 k0 k1) k0 k1=_
  obtain⟨g1,g2,g3,g4⟩:=id hg
  obtain⟨w1,w2,w3⟩:=id hw
  unfold l_walk.b3
  by_cases hi:i<12
  ·have ew:wr ((h.length:Int)-1)=(h.length:Int)-1:=wr_in (by omega)
   obtain⟨x,hx,hxm⟩:=ix_in (xs:=h) (i:=(h.length:Int)-1) (by omega) (by omega)
   have hx1:=w3 x (List.mem_of_getElem? hxm)
   obtain⟨row,hr,hrm⟩:=ix_in (xs:=g.edges) (i:=x) hx1.1 (by omega)
   have hro:=g4 row (List.mem_of_getElem? hrm)
   have hrl:=rowOk_len hro
   have ei:wr (i+1)=i+1:=wr_in (by omega)
   have hnext:∀(edges:List Int),(∀e∈edges,0<=e/\e<g.states.length)->edges≠[]->edges.length<=1000->
     (∃(k:Int) (h':List Int),(0<=k/\k<h'.length)/\wayOk g.states.length h'/\l_walk.c9 ⟨gA⟩ n code i edges g.states g.edges g.whole a b c h (fun y=>k0 y h) (fun z=>l_walk.l3 ⟨gA⟩ n m code g.states g.edges g.whole a b c (i+1) z k0 k1)=k0 k h')\/∃h',wayOk g.states.length h'/\l_walk.c9 ⟨gA⟩ n code i edges g.states g.edges g.whole a b c h (fun y=>k0 y h) (fun z=>l_walk.l3 ⟨gA⟩ n m code g.states g.edges g.whole a b c (i+1) z k0 k1)=k1 h':=fun edges q1 q2 q3=>by
    rcases c9_walk hA hb n (i:=i) ⟨h0,by omega⟩ q2 q3 g.states g.edges g.whole a b c (h4:=h) (by omega) (fun y=>k0 y h) (fun z=>l_walk.l3 ⟨gA⟩ n m code g.states g.edges g.whole a b c (i+1) z k0 k1) hn with⟨k',k1',k2'⟩|⟨e,e1,e2⟩
    ·exact .inl ⟨k',h,k1',hw,k2'⟩
    ·have hw':wayOk g.states.length (h++[e]):=⟨by simp,by simp;omega,fun y hy=>by rcases List.mem_append.1 hy with q|q;exact w3 y q;simp at q;subst q;exact q1 y e1⟩
     have:=ih (i+1) (h++[e]) (by omega) (by omega) hw' (by simp;omega) (by omega)
     rw[e2]
     exact this
   simp only[hi,decide_true,cond_true,ew,hx,Option.bind_some,hr,ei]
   by_cases c0:(row.length:Int)=0
   ·simp only[c0,decide_true,cond_true]
    exact hnext [x] (fun e he=>by simp at he;subst he;exact hx1) (by simp) (by simp)
   ·simp only[c0,decide_false,cond_false]
    exact hnext row (fun e he=>by obtain⟨j,hj,q⟩:=List.getElem_of_mem he;have:=hro j e (by rw[List.getElem?_eq_getElem hj,q]);exact⟨this.1,this.2.1⟩) (fun q=>c0 (by rw[q];rfl)) (by omega)
  ·simp only[hi,decide_false,cond_false]
   exact .inr ⟨h,hw,rfl⟩
theorem find_loop (k:Int) (edges:List Int) (s:List Tm) (es:List (List Int)) (w:Bool) (a:Int) (b:List Int) (c:Int) (h4:List Int) (hk:0<=k/\k<h4.length) (hel:edges.length<=900) (k0 k1:Option R):∀m (j:Int),0<=j->j<=edges.length->(edges.length-j).toNat<m->
  l_walk.l25 ⟨gA⟩ n m k edges s es w a b c h4 j k0 k1=k0\/l_walk.l25 ⟨gA⟩ n m k edges s es w a b c h4 j k0 k1=k1:=by
 intro m
 induction m with
 |zero=>intro j _ _ hm;omega
 | succ m ih =>
  intro j h0 h1 hm
  show l_walk.b25 ⟨gA⟩ n k edges s es w a b c h4 j (fun y0=>l_walk.l25 ⟨gA⟩ n m k edges s es w a b c h4 y0 k0 k1) k0 k1=_\/l_walk.b25 ⟨gA⟩ n k edges s es w a b c h4 j (fun y0=>l_walk.l25 ⟨gA⟩ n m k edges s es w a b c h4 y0 k0 k1) k0 k1=_
  unfold l_walk.b25
  by_cases hi:j<edges.length
  ·obtain⟨x,hx,_⟩:=ix_in h0 hi
   obtain⟨y,hy,_⟩:=ix_in hk.1 hk.2
   simp only[hi,decide_true,cond_true,hx,hy,Option.bind_some]
   by_cases c1:x=y
   ·simp only[c1,decide_true,cond_true];exact .inl trivial
   ·simp only[c1,decide_false,cond_false]
    rw[wr_in (x:=j+1) (by omega)]
    exact ih (j+1) (by omega) (by omega) (by omega)
  ·simp only[hi,decide_false,cond_false];exact .inr trivial
include hg in
theorem end_loop (hn:1000<=n) (a:Int) (b:List Int) (c:Int) {h:List Int} (hw:wayOk g.states.length h) (k0:Int->Option R) (k1:Option R):∀m (k:Int),0<=k->k<=h.length->(h.length-k).toNat<m->
  (∃k':Int,(0<=k'/\k'<h.length)/\l_walk.l18 ⟨gA⟩ n m g.states g.edges g.whole a b c h k k0 k1=k0 k')\/l_walk.l18 ⟨gA⟩ n m g.states g.edges g.whole a b c h k k0 k1=k1:=by
 intro m
 induction m with
 |zero=>intro k _ _ hm;omega
 | succ m ih =>
  intro k h0 h1 hm
  show (∃k':Int,(0<=k'/\k'<h.length)/\l_walk.b18 ⟨gA⟩ n g.states g.edges g.whole a b c h k (fun y0=>l_walk.l18 ⟨gA⟩ n m g.states g.edges g.whole a b c h y0 k0 k1) k0 k1=_)\/l_walk.b18 ⟨gA⟩ n g.states g.edges g.whole a b c h k (fun y0=>l_walk.l18 ⟨gA⟩ n m g.states g.edges g.whole a b c h y0 k0 k1) k0 k1=_
  obtain⟨g1,g2,g3,g4⟩:=id hg
  obtain⟨w1,w2,w3⟩:=id hw
  unfold l_walk.b18
  by_cases hi:k<h.length
  ·have ew:wr ((h.length:Int)-1)=(h.length:Int)-1:=wr_in (by omega)
   obtain⟨x,hx,hxm⟩:=ix_in (xs:=h) (i:=(h.length:Int)-1) (by omega) (by omega)
   have hx1:=w3 x (List.mem_of_getElem? hxm)
   obtain⟨row,hr,hrm⟩:=ix_in (xs:=g.edges) (i:=x) hx1.1 (by omega)
   have hrl:=rowOk_len (g4 row (List.mem_of_getElem? hrm))
   have ek:wr (k+1)=k+1:=wr_in (by omega)
   have hih:=ih (k+1) (by omega) (by omega) (by omega)
   have hfind:(∃k':Int,(0<=k'/\k'<h.length)/\l_walk.c24 ⟨gA⟩ n k row g.states g.edges g.whole a b c h (k0 k) (l_walk.l18 ⟨gA⟩ n m g.states g.edges g.whole a b c h (k+1) k0 k1)=k0 k')\/l_walk.c24 ⟨gA⟩ n k row g.states g.edges g.whole a b c h (k0 k) (l_walk.l18 ⟨gA⟩ n m g.states g.edges g.whole a b c h (k+1) k0 k1)=k1:=by
    unfold l_walk.c24
    rcases find_loop (gA:=gA) n k row g.states g.edges g.whole a b c h ⟨h0,hi⟩ (by omega) (k0 k) (l_walk.l18 ⟨gA⟩ n m g.states g.edges g.whole a b c h (k+1) k0 k1) n 0 (by omega) (by omega) (by omega)with q|q
    ·exact .inl ⟨k,⟨h0,hi⟩,q⟩
    ·rw[q];exact hih
   simp only[hi,decide_true,cond_true,ew,hx,hr,Option.bind_some,ek]
   by_cases c0:(row.length:Int)=0
   ·simp only[c0,decide_true,cond_true]
    by_cases c1:k=(h.length:Int)-1
    ·simp only[c1,decide_true,cond_true]
     exact .inl ⟨_,by omega,rfl⟩
    ·simp only[c1,decide_false,cond_false]
     exact hfind
   ·simp only[c0,decide_false,cond_false]
    exact hfind
  ·simp only[hi,decide_false,cond_false]
   exact .inr trivial
end
def WalkP (g:Gr->List Int->Option Lasso):Prop:=∀gr code,(graphOk gr/\bytesOk code)->∃l,g gr code=some l/\(lasOk l/\∀x∈l.states,x<gr.states.length)
theorem walk_ex :∃g,EntOK Tryd.prog (l_walk.ent g)/\WalkP g:=by
 obtain⟨gA,eA,hA⟩:=at0_ex
 refine by_pick2 (fun g hg=>l_walk.ok (G:=⟨gA⟩) ⟨eA,trivial⟩ hg) fun gr code ⟨hg,hb⟩=> ?_
 have mkL:∀{k:Int} {h:List Int},(0<=k/\k<h.length)->wayOk gr.states.length h->lasOk ⟨h,k⟩/\∀x∈h,x<gr.states.length:=fun hk hw=>⟨⟨hw.1,by have:=hw.2.1;simp only;omega,hk.1,hk.2,fun x hx=>(hw.2.2 x hx).1⟩,fun x hx=>(hw.2.2 x hx).2⟩
 have key:∀(R:Type) (K:Lasso->Option R),∃l:Lasso,l_walk.main ⟨gA⟩ 1000 gr code K=K l/\(lasOk l/\∀x∈l.states,x<gr.states.length):=fun R K=>by
  unfold l_walk.main
  have h0:wayOk gr.states.length [0]:=⟨by simp,by simp,fun x hx=>by have:=hg.1;simp at hx;subst hx;omega⟩
  rcases way_loop hA hb hg 1000 (by omega) 0 [] 0 (fun h04 h12=>K (Lasso.mk h12 h04)) (fun h42=>l_walk.l18 ⟨gA⟩ 1000 1000 gr.states gr.edges gr.whole 0 [] 0 h42 0 (fun h042=>K (Lasso.mk h42 h042)) (K (Lasso.mk h42 0))) 1000 0 [0] (by omega) (by omega) h0 (by simp) (by omega)with⟨k,h,hk,hw,e⟩|⟨h,hw,e⟩
  ·exact⟨_,e,mkL hk hw⟩
  ·rcases end_loop (gA:=gA) hg 1000 (by omega) 0 [] 0 hw (fun h042=>K (Lasso.mk h h042)) (K (Lasso.mk h 0)) 1000 0 (by omega) (by omega) (by have:=hw.2.1;omega)with⟨k,hk,e2⟩|e2
   ·exact⟨_,e.trans e2,mkL hk hw⟩
   ·exact⟨_,e.trans e2,mkL ⟨by omega,by have:=hw.1;omega⟩ hw⟩
 obtain⟨l,k1,k2⟩:=key (AT×List Ob) _
 exact⟨l,⟨1000,k1⟩,k2⟩
end Go.Proofs.YtjafncnjefnloaaDoor.Den

import Derived.Test.YtfdkldmkbibknaaGreatZRowPT11
namespace Go.Proofs.YtfdkldmkbibknaaGreat.Den
open Go.RowKit
set_option maxRecDepth 100000
set_option linter.unusedVariables false
namespace z4h
structure Gs where
 none_:Unit
noncomputable def ents (_:Gs):List Ent:=[]
noncomputable def b1 {R:Type} (G:Gs) (n:Nat) (a b n1 i:Int) (h0:LT) (nx:Int->LT->Option R) (k0:LT->Option R):Option R:=
 bif decide (i<n1)then
  (
  Option.bind (ix h0 (wr (b+i))) λe10=>
  Option.bind (ix h0 (wr (a+i))) λe12=>
  Option.bind (ix h0 (wr (a+i))) λe14=>
  Option.bind (ix (List.set h0 (Int.toNat (wr (a+i))) (Tm.mk (Tm.op e10) (Tm.name e10) (Tm.sort e10) (Tm.args e10))) (wr (b+i))) λe16=>
  nx (wr (i+1)) (List.set (List.set h0 (Int.toNat (wr (a+i))) (Tm.mk (Tm.op e10) (Tm.name e10) (Tm.sort e10) (Tm.args e10))) (Int.toNat (wr (b+i))) (Tm.mk (Tm.op e12) (Tm.name e12) (Tm.sort e12) (Tm.args e12)))
  )
 else
  k0 h0
noncomputable def l1 {R:Type} (G:Gs) (n m:Nat) (a b n1 i:Int) (h0:LT) (k0:LT->Option R):Option R:=iter (λ(v:Int×LT) nx=>b1 G n a b n1 v.1 v.2 (λy0 y1=>nx (y0,y1)) k0) m (i,h0)
noncomputable def main {R:Type} (G:Gs) (n:Nat) (data:LT) (a b n1:Int) (K:LT->Option R):Option R:=
 l1 G n n a b n1 0 data
  (λh02=>K h02)
noncomputable def dl1 (G:Gs) (n m:Nat) (R:Type) (st:St) (K:Kt R):Option R:=match st with
 |⟨[(0,.one (.o 0)),(1,.one (.i a)),(2,.one (.i b)),(3,.one (.i n1)),(10,.one (.i i))],[.row (.n 1) 0 h0]⟩=>l1 G n m a b n1 i h0 (λh02=>K (.exit 0) ⟨[],[.row (.n 1) 0 h02]⟩)
 |_=>none
noncomputable def pc (G:Gs) (n:Nat):Pcs:=⟨λR id st K=>bif Nat.beq id 1 then dl1 G n n R st K else none,nK,nK⟩
noncomputable def an:Ann:=⟨38,1,[(1,[0,1,2,3,10])],[],[],[(3,⟨[([0,1,2,3,8,9,10,11,12,13,14,15,16,17,18,19,20,21,4,5,6,7,22,23],[21,23],[12,13,18,19,20,22])],[21,23],[],[],[]⟩)],[]⟩
noncomputable abbrev bd:=bodyOf Tryz.f157
noncomputable abbrev q1:=nthC [1,0,0] bd
theorem pl1 {G:Gs} (hG:AE (ents G)) (n:Nat):∀m,PO an (.loop q1) (dl1 G n m):=lpc hG (pc G n) [0,1,2,3,10] ⟨[],[],[(0,[])]⟩ (apl [] trivial) (λR st K=>by unfold dl1;split<;>rfl) λm R st K r h=>by unfold dl1 at h;split at h;exact .trans (by kernel_rfl) h;cases h
noncomputable def Does (G:Gs) (data:LT) (a b n1:Int) (r:LT):Prop:=∃n,main (R:=AT×List Ob) G n data a b n1 (λr0=>some (.tup [],[.row (.n 1) 0 r0]))=some (.tup [],[.row (.n 1) 0 r])
theorem ok {G:Gs} (hG:AE (ents G)) {g:Q} (hg:∀data a b n1 r,g data a b n1=some r->Does G data a b n1 r):EO (ent g):=λR xs H K r hc=>by
 simp only[ent]at hc
 split at hc
 ·obtain⟨r,j1,j2⟩:=bind_some hc
  obtain⟨n,j3⟩:=hg _ _ _ _ _ j1
  exact⟨_,_,j2,fnP hG an (pc G n) bd [] Tryz.func157 (.inl rfl) (apl [(1,1,.loop q1)] ⟨pl1 hG n n,trivial⟩) (.trans (by kernel_rfl) j3)⟩
 ·cases hc
end z4h
namespace z4f
structure Gs where
 z4h:z4h.Q
noncomputable def ents (G:Gs):List Ent:=[z4h.ent G.z4h]
noncomputable def b2 {R:Type} (G:Gs) (n:Nat) (m2 i j:Int) (h0:LT) (nx:Int->Int->LT->Option R) (k0:Int->LT->Option R):Option R:=
 bif !decide (i=j)then
  (
  bif decide (j<i)then
   (
   Option.bind (G.z4h h0 (wr (m2-i)) m2 j) λr=>
   nx (wr (i-j)) j r
   )
  else
   Option.bind (G.z4h h0 (wr (m2-i)) (wr ((wr (m2+j))-i)) i) λr2=>
   nx i (wr (j-i)) r2
  )
 else
  k0 i h0
noncomputable def l2 {R:Type} (G:Gs) (n m:Nat) (m2 i j:Int) (h0:LT) (k0:Int->LT->Option R):Option R:=iter (λ(v:Int×Int×LT) nx=>b2 G n m2 v.1 v.2.1 v.2.2 (λy0 y1 y2=>nx (y0,y1,y2)) k0) m (i,j,h0)
noncomputable def main {R:Type} (G:Gs) (n:Nat) (data:LT) (a m2 b:Int) (K:LT->Option R):Option R:=
 l2 G n n m2 (wr (m2-a)) (wr (b-m2)) data
  (fun i2 h02 =>
   Option.bind (G.z4h h02 (wr (m2-i2)) m2 i2) λr=>
   K r
  )
noncomputable def dl2 (G:Gs) (n m:Nat) (R:Type) (st:St) (K:Kt R):Option R:=match st with
 |⟨[(0,.one (.o 0)),(2,.one (.i m2)),(4,.one (.f 117 [])),(10,.one (.i i)),(11,.one (.i j))],[.row (.n 1) 0 h0]⟩=>l2 G n m m2 i j h0 (λi2 h02=>K (.exit 0) ⟨[(0,.one (.o 0)),(2,.one (.i m2)),(4,.one (.f 117 [])),(10,.one (.i i2))],[.row (.n 1) 0 h02]⟩)
 |_=>none
noncomputable def pc (G:Gs) (n:Nat):Pcs:=⟨λR id st K=>bif Nat.beq id 2 then dl2 G n n R st K else none,nK,nK⟩
noncomputable def an:Ann:=⟨58,1,[(2,[0,2,4,10,11])],[],[],[],[]⟩
noncomputable abbrev bd:=bodyOf Tryz.f155
noncomputable abbrev q2:=nthC [1,1,0,0,0] bd
theorem pl2 {G:Gs} (hG:AE (ents G)) (n:Nat):∀m,PO an (.loop q2) (dl2 G n m):=lpc hG (pc G n) [0,2,4,10,11] ⟨[0,2,4,10],[],[(0,[0,2,4,10])]⟩ (apl [] trivial) (λR st K=>by unfold dl2;split<;>rfl) λm R st K r h=>by unfold dl2 at h;split at h;exact .trans (by kernel_rfl) h;cases h
noncomputable def Does (G:Gs) (data:LT) (a m2 b:Int) (r:LT):Prop:=∃n,main (R:=AT×List Ob) G n data a m2 b (λr0=>some (.tup [],[.row (.n 1) 0 r0]))=some (.tup [],[.row (.n 1) 0 r])
theorem ok {G:Gs} (hG:AE (ents G)) {g:Q} (hg:∀data a m2 b r,g data a m2 b=some r->Does G data a m2 b r):EO (ent g):=λR xs H K r hc=>by
 simp only[ent]at hc
 split at hc
 ·obtain⟨r,j1,j2⟩:=bind_some hc
  obtain⟨n,j3⟩:=hg _ _ _ _ _ j1
  exact⟨_,_,j2,fnP hG an (pc G n) bd [] Tryz.func155 (.inl rfl) (apl [(1,2,.loop q2)] ⟨pl2 hG n n,trivial⟩) (.trans (by kernel_rfl) j3)⟩
 ·cases hc
end z4f
namespace z4i
structure Gs where
 z04:z04.Q
 z4f:z4f.Q
 z4i:z4i.Q
noncomputable def ents (G:Gs):List Ent:=[z04.ent G.z04,z4f.ent G.z4f,ent G.z4i]
noncomputable def b3 {R:Type} (G:Gs) (n:Nat) (a:Int) (h0:LT) (i j:Int) (nx:Int->Int->Option R) (k0:Int->Option R):Option R:=
 bif decide (i<j)then
  (
  Option.bind (bif decide (0<=1)then some (Abs.bitsI .shr .u64 (IntKind.wrap .u64 (wr (i+j))) 1)else none) λq=>
  Option.bind (ix h0 (wr (q))) λe2=>
  Option.bind (ix h0 a) λe4=>
  Option.bind (G.z04 (Tm.mk (Tm.op e2) (Tm.name e2) (Tm.sort e2) (Tm.args e2)) (Tm.mk (Tm.op e4) (Tm.name e4) (Tm.sort e4) (Tm.args e4))) λr=>
  bif decide (r<0)then
   (nx (wr ((wr (q))+1)) j)
  else
   nx i (wr (q))
  )
 else
  k0 i
noncomputable def l3 {R:Type} (G:Gs) (n m:Nat) (a:Int) (h0:LT) (i j:Int) (k0:Int->Option R):Option R:=iter (λ(v:Int×Int) nx=>b3 G n a h0 v.1 v.2 (λy0 y1=>nx (y0,y1)) k0) m (i,j)
noncomputable def b9 {R:Type} (G:Gs) (n:Nat) (i k:Int) (h0:LT) (nx:Int->LT->Option R) (k0:LT->Option R):Option R:=
 bif decide (k<(wr (i-1)))then
  (
  Option.bind (ix h0 (wr (k+1))) λe10=>
  Option.bind (ix h0 k) λe12=>
  Option.bind (ix h0 k) λe14=>
  Option.bind (ix (List.set h0 (Int.toNat k) (Tm.mk (Tm.op e10) (Tm.name e10) (Tm.sort e10) (Tm.args e10))) (wr (k+1))) λe16=>
  nx (wr (k+1)) (List.set (List.set h0 (Int.toNat k) (Tm.mk (Tm.op e10) (Tm.name e10) (Tm.sort e10) (Tm.args e10))) (Int.toNat (wr (k+1))) (Tm.mk (Tm.op e12) (Tm.name e12) (Tm.sort e12) (Tm.args e12)))
  )
 else
  k0 h0
noncomputable def l9 {R:Type} (G:Gs) (n m:Nat) (i k:Int) (h0:LT) (k0:LT->Option R):Option R:=iter (λ(v:Int×LT) nx=>b9 G n i v.1 v.2 (λy0 y1=>nx (y0,y1)) k0) m (k,h0)
noncomputable def b15 {R:Type} (G:Gs) (n:Nat) (m2:Int) (h0:LT) (i j:Int) (nx:Int->Int->Option R) (k0:Int->Option R):Option R:=
 bif decide (i<j)then
  (
  Option.bind (bif decide (0<=1)then some (Abs.bitsI .shr .u64 (IntKind.wrap .u64 (wr (i+j))) 1)else none) λq=>
  Option.bind (ix h0 m2) λe2=>
  Option.bind (ix h0 (wr (q))) λe4=>
  Option.bind (G.z04 (Tm.mk (Tm.op e2) (Tm.name e2) (Tm.sort e2) (Tm.args e2)) (Tm.mk (Tm.op e4) (Tm.name e4) (Tm.sort e4) (Tm.args e4))) λr=>
  bif !(decide (r<0))then
   (nx (wr ((wr (q))+1)) j)
  else
   nx i (wr (q))
  )
 else
  k0 i
noncomputable def l15 {R:Type} (G:Gs) (n m:Nat) (m2:Int) (h0:LT) (i j:Int) (k0:Int->Option R):Option R:=iter (λ(v:Int×Int) nx=>b15 G n m2 h0 v.1 v.2 (λy0 y1=>nx (y0,y1)) k0) m (i,j)
noncomputable def b21 {R:Type} (G:Gs) (n:Nat) (i k:Int) (h0:LT) (nx:Int->LT->Option R) (k0:LT->Option R):Option R:=
 bif decide (i<k)then
  (
  Option.bind (ix h0 (wr (k-1))) λe10=>
  Option.bind (ix h0 k) λe12=>
  Option.bind (ix h0 k) λe14=>
  Option.bind (ix (List.set h0 (Int.toNat k) (Tm.mk (Tm.op e10) (Tm.name e10) (Tm.sort e10) (Tm.args e10))) (wr (k-1))) λe16=>
  nx (wr (k-1)) (List.set (List.set h0 (Int.toNat k) (Tm.mk (Tm.op e10) (Tm.name e10) (Tm.sort e10) (Tm.args e10))) (Int.toNat (wr (k-1))) (Tm.mk (Tm.op e12) (Tm.name e12) (Tm.sort e12) (Tm.args e12)))
  )
 else
  k0 h0
noncomputable def l21 {R:Type} (G:Gs) (n m:Nat) (i k:Int) (h0:LT) (k0:LT->Option R):Option R:=iter (λ(v:Int×LT) nx=>b21 G n i v.1 v.2 (λy0 y1=>nx (y0,y1)) k0) m (k,h0)
noncomputable def b33 {R:Type} (G:Gs) (n:Nat) (a m2 b mid n1 p:Int) (h0:LT) (start r:Int) (nx:Int->Int->Option R) (k0:Int->Option R):Option R:=
 bif decide (start<r)then
  (
  Option.bind (bif decide (0<=1)then some (Abs.bitsI .shr .u64 (IntKind.wrap .u64 (wr (start+r))) 1)else none) λq=>
  Option.bind (ix h0 (wr (p-(wr (q))))) λe2=>
  Option.bind (ix h0 (wr (q))) λe4=>
  Option.bind (G.z04 (Tm.mk (Tm.op e2) (Tm.name e2) (Tm.sort e2) (Tm.args e2)) (Tm.mk (Tm.op e4) (Tm.name e4) (Tm.sort e4) (Tm.args e4))) λr2=>
  bif !(decide (r2<0))then
   (nx (wr ((wr (q))+1)) r)
  else
   nx start (wr (q))
  )
 else
  k0 start
noncomputable def l33 {R:Type} (G:Gs) (n m:Nat) (a m2 b mid n1 p:Int) (h0:LT) (start r:Int) (k0:Int->Option R):Option R:=iter (λ(v:Int×Int) nx=>b33 G n a m2 b mid n1 p h0 v.1 v.2 (λy0 y1=>nx (y0,y1)) k0) m (start,r)
noncomputable def c43 {R:Type} (G:Gs) (n:Nat) (b mid end1:Int) (h0:LT) (k0:LT->Option R):Option R:=
 bif decide (mid<end1)then
  (
  bif decide (end1<b)then
   (
   Option.bind (G.z4i h0 mid end1 b) λr=>
   k0 r
   )
  else
   k0 h0
  )
 else
  k0 h0
noncomputable def c41 {R:Type} (G:Gs) (n:Nat) (a b mid start end1:Int) (h0:LT) (k0:LT->Option R):Option R:=
 bif decide (a<start)then
  (
  bif decide (start<mid)then
   (
   Option.bind (G.z4i h0 a start mid) λr=>
   c43 G n b mid end1 r
    (λh02=>k0 h02)
   )
  else
   c43 G n b mid end1 h0
    (λh022=>k0 h022)
  )
 else
  c43 G n b mid end1 h0
   (λh023=>k0 h023)
noncomputable def c32 {R:Type} (G:Gs) (n:Nat) (a m2 b mid n1 start r:Int) (h0:LT) (k0:LT->Option R):Option R:=
 l33 G n n a m2 b mid n1 (wr (n1 - 1)) h0 start r
  (fun start2 =>
   bif decide (start2<m2)then
    (
    bif decide (m2<(wr (n1-start2)))then
     (
     Option.bind (G.z4f h0 start2 m2 (wr (n1-start2))) λr2=>
     c41 G n a b mid start2 (wr (n1-start2)) r2
      (λh02=>k0 h02)
     )
    else
     c41 G n a b mid start2 (wr (n1-start2)) h0
      (λh022=>k0 h022)
    )
   else
    c41 G n a b mid start2 (wr (n1-start2)) h0
     (λh023=>k0 h023)
  )
noncomputable def main {R:Type} (G:Gs) (n:Nat) (data:LT) (a m2 b:Int) (K:LT->Option R):Option R:=
 bif decide ((wr (m2 - a)) = 1) then
  (
  l3 G n n a data m2 b
   (fun i2 =>
    l9 G n n i2 a data
     (λh02=>K h02)
   )
  )
 else
  bif decide ((wr (b - m2)) = 1) then
   (
   l15 G n n m2 data a m2
    (fun i22 =>
     l21 G n n i22 m2 data
      (λh022=>K h022)
    )
   )
  else
   Option.bind (bif decide (0<=1)then some (Abs.bitsI .shr .u64 (IntKind.wrap .u64 (wr (a+b))) 1)else none) λq=>
   bif decide ((wr (q))<m2)then
    (
    c32 G n a m2 b (wr (q)) (wr ((wr (q))+m2)) (wr ((wr ((wr (q))+m2))-b)) (wr (q)) data
     (λh023=>K h023)
    )
   else
    c32 G n a m2 b (wr (q)) (wr ((wr (q))+m2)) a m2 data
     (λh024=>K h024)
noncomputable def dl3 (G:Gs) (n m:Nat) (R:Type) (st:St) (K:Kt R):Option R:=match st with
 |⟨[(0,.one (.o 0)),(1,.one (.i a)),(4,.one (.f 117 [])),(10,.one (.i i)),(11,.one (.i j))],[.row (.n 1) 0 h0]⟩=>l3 G n m a h0 i j (λi2=>K (.exit 0) ⟨[(0,.one (.o 0)),(1,.one (.i a)),(10,.one (.i i2))],[.row (.n 1) 0 h0]⟩)
 |_=>none
noncomputable def dl9 (G:Gs) (n m:Nat) (R:Type) (st:St) (K:Kt R):Option R:=match st with
 |⟨[(0,.one (.o 0)),(10,.one (.i i)),(13,.one (.i k))],[.row (.n 1) 0 h0]⟩=>l9 G n m i k h0 (λh02=>K (.exit 2) ⟨[],[.row (.n 1) 0 h02]⟩)
 |_=>none
noncomputable def dl15 (G:Gs) (n m:Nat) (R:Type) (st:St) (K:Kt R):Option R:=match st with
 |⟨[(0,.one (.o 0)),(2,.one (.i m2)),(4,.one (.f 117 [])),(14,.one (.i i)),(15,.one (.i j))],[.row (.n 1) 0 h0]⟩=>l15 G n m m2 h0 i j (λi2=>K (.exit 4) ⟨[(0,.one (.o 0)),(2,.one (.i m2)),(14,.one (.i i2))],[.row (.n 1) 0 h0]⟩)
 |_=>none
noncomputable def dl21 (G:Gs) (n m:Nat) (R:Type) (st:St) (K:Kt R):Option R:=match st with
 |⟨[(0,.one (.o 0)),(14,.one (.i i)),(17,.one (.i k))],[.row (.n 1) 0 h0]⟩=>l21 G n m i k h0 (λh02=>K (.exit 6) ⟨[],[.row (.n 1) 0 h02]⟩)
 |_=>none
noncomputable def dl33 (G:Gs) (n m:Nat) (R:Type) (st:St) (K:Kt R):Option R:=match st with
 |⟨[(0,.one (.o 0)),(1,.one (.i a)),(2,.one (.i m2)),(3,.one (.i b)),(4,.one (.f 117 [])),(18,.one (.i mid)),(19,.one (.i n1)),(20,.one (.i start)),(21,.one (.i r)),(22,.one (.i p))],[.row (.n 1) 0 h0]⟩=>l33 G n m a m2 b mid n1 p h0 start r (λstart2=>K (.exit 8) ⟨[(0,.one (.o 0)),(1,.one (.i a)),(2,.one (.i m2)),(3,.one (.i b)),(4,.one (.f 117 [])),(18,.one (.i mid)),(19,.one (.i n1)),(20,.one (.i start2))],[.row (.n 1) 0 h0]⟩)
 |_=>none
noncomputable def dc43 (G:Gs) (n:Nat) (R:Type) (st:St) (K:Kt R):Option R:=match st with
 |⟨[(0,.one (.o 0)),(3,.one (.i b)),(4,.one (.f 117 [])),(18,.one (.i mid)),(24,.one (.i end1))],[.row (.n 1) 0 h0]⟩=>c43 G n b mid end1 h0 (λh02=>K .normal ⟨[],[.row (.n 1) 0 h02]⟩)
 |_=>none
noncomputable def dc41 (G:Gs) (n:Nat) (R:Type) (st:St) (K:Kt R):Option R:=match st with
 |⟨[(0,.one (.o 0)),(1,.one (.i a)),(3,.one (.i b)),(4,.one (.f 117 [])),(18,.one (.i mid)),(20,.one (.i start)),(24,.one (.i end1))],[.row (.n 1) 0 h0]⟩=>c41 G n a b mid start end1 h0 (λh02=>K .normal ⟨[],[.row (.n 1) 0 h02]⟩)
 |_=>none
noncomputable def dc32 (G:Gs) (n:Nat) (R:Type) (st:St) (K:Kt R):Option R:=match st with
 |⟨[(0,.one (.o 0)),(1,.one (.i a)),(2,.one (.i m2)),(3,.one (.i b)),(4,.one (.f 117 [])),(18,.one (.i mid)),(19,.one (.i n1)),(20,.one (.i start)),(21,.one (.i r))],[.row (.n 1) 0 h0]⟩=>c32 G n a m2 b mid n1 start r h0 (λh02=>K .normal ⟨[],[.row (.n 1) 0 h02]⟩)
 |_=>none
noncomputable def pc (G:Gs) (n:Nat):Pcs:=⟨λR id st K=>bif Nat.beq id 3 then dl3 G n n R st K else bif Nat.beq id 9 then dl9 G n n R st K else bif Nat.beq id 15 then dl15 G n n R st K else bif Nat.beq id 21 then dl21 G n n R st K else bif Nat.beq id 33 then dl33 G n n R st K else none,λR id st K=>bif Nat.beq id 43 then dc43 G n R st K else bif Nat.beq id 41 then dc41 G n R st K else bif Nat.beq id 32 then dc32 G n R st K else none,nK⟩
noncomputable def an:Ann:=⟨220,1,[(3,[0,1,4,10,11]),(9,[0,10,13]),(15,[0,2,4,14,15]),(21,[0,14,17]),(33,[0,1,2,3,4,18,19,20,21,22])],[(43,[0,3,4,18,24]),(41,[0,1,3,4,18,20,24]),(32,[0,1,2,3,4,18,19,20,21])],[],[(5,⟨[([0,1,2,3,4,5,6,7,8,9,10],[9],[])],[9],[],[0],[]⟩),(11,⟨[([0,1,5,6,7,8,9,10,11,12,13,14,15,2,3,4,16,17],[15,17],[8,9,12,13,14,16])],[15,17],[],[],[]⟩),(17,⟨[([0,1,2,3,4,5,6,7,8,9,10,11],[9],[])],[9],[],[0],[]⟩),(23,⟨[([0,1,5,6,7,8,9,10,11,12,13,14,15,2,3,4,16,17],[15,17],[8,9,12,13,14,16])],[15,17],[],[],[]⟩),(35,⟨[([0,1,2,3,4,5,6,7,8,9,10,11,12,13],[11],[])],[11],[],[0],[]⟩)],[]⟩
noncomputable abbrev bd:=bodyOf Tryz.f149
noncomputable abbrev q3:=nthC [0,1,0,1,1,0,0,0] bd
noncomputable abbrev q9:=nthC [0,1,0,1,1,1,0,1,0,0] bd
noncomputable abbrev q15:=nthC [1,0,1,0,1,1,0,0,0] bd
noncomputable abbrev q21:=nthC [1,0,1,0,1,1,1,0,1,0,0] bd
noncomputable abbrev q33:=nthC [1,1,1,1,1,1,1,0,0,0] bd
noncomputable abbrev q43:=nthC [1,1,1,1,1,1,1,1,1,1,1] bd
noncomputable abbrev q41:=nthC [1,1,1,1,1,1,1,1,1,1] bd
noncomputable abbrev q32:=nthC [1,1,1,1,1,1] bd
theorem pl3 {G:Gs} (hG:AE (ents G)) (n:Nat):∀m,PO an (.loop q3) (dl3 G n m):=lpc hG (pc G n) [0,1,4,10,11] ⟨[0,1,10],[],[(0,[0,1,10])]⟩ (apl [] trivial) (λR st K=>by unfold dl3;split<;>rfl) λm R st K r h=>by unfold dl3 at h;split at h;exact .trans (by kernel_rfl) h;cases h
theorem pl9 {G:Gs} (hG:AE (ents G)) (n:Nat):∀m,PO an (.loop q9) (dl9 G n m):=lpc hG (pc G n) [0,10,13] ⟨[],[],[(2,[])]⟩ (apl [] trivial) (λR st K=>by unfold dl9;split<;>rfl) λm R st K r h=>by unfold dl9 at h;split at h;exact .trans (by kernel_rfl) h;cases h
theorem pl15 {G:Gs} (hG:AE (ents G)) (n:Nat):∀m,PO an (.loop q15) (dl15 G n m):=lpc hG (pc G n) [0,2,4,14,15] ⟨[0,2,14],[],[(4,[0,2,14])]⟩ (apl [] trivial) (λR st K=>by unfold dl15;split<;>rfl) λm R st K r h=>by unfold dl15 at h;split at h;exact .trans (by kernel_rfl) h;cases h
theorem pl21 {G:Gs} (hG:AE (ents G)) (n:Nat):∀m,PO an (.loop q21) (dl21 G n m):=lpc hG (pc G n) [0,14,17] ⟨[],[],[(6,[])]⟩ (apl [] trivial) (λR st K=>by unfold dl21;split<;>rfl) λm R st K r h=>by unfold dl21 at h;split at h;exact .trans (by kernel_rfl) h;cases h
theorem pl33 {G:Gs} (hG:AE (ents G)) (n:Nat):∀m,PO an (.loop q33) (dl33 G n m):=lpc hG (pc G n) [0,1,2,3,4,18,19,20,21,22] ⟨[0,1,2,3,4,18,19,20],[],[(8,[0,1,2,3,4,18,19,20])]⟩ (apl [] trivial) (λR st K=>by unfold dl33;split<;>rfl) λm R st K r h=>by unfold dl33 at h;split at h;exact .trans (by kernel_rfl) h;cases h
theorem pc43 {G:Gs} (hG:AE (ents G)) {n:Nat}:PO an q43 (dc43 G n):=cpc hG (pc G n) ⟨[],[],[]⟩ (apl [] trivial) λR st K r h=>by unfold dc43 at h;split at h;exact .trans (by kernel_rfl) h;cases h
theorem pc41 {G:Gs} (hG:AE (ents G)) {n:Nat}:PO an q41 (dc41 G n):=cpc hG (pc G n) ⟨[],[],[]⟩ (apl [(0,43,q43)] ⟨pc43 hG,trivial⟩) λR st K r h=>by unfold dc41 at h;split at h;exact .trans (by kernel_rfl) h;cases h
theorem pc32 {G:Gs} (hG:AE (ents G)) {n:Nat}:PO an q32 (dc32 G n):=cpc hG (pc G n) ⟨[],[],[]⟩ (apl [(1,33,.loop q33),(0,41,q41)] ⟨pl33 hG n n,⟨pc41 hG,trivial⟩⟩) λR st K r h=>by unfold dc32 at h;split at h;exact .trans (by kernel_rfl) h;cases h
noncomputable def Does (G:Gs) (data:LT) (a m2 b:Int) (r:LT):Prop:=∃n,main (R:=AT×List Ob) G n data a m2 b (λr0=>some (.tup [],[.row (.n 1) 0 r0]))=some (.tup [],[.row (.n 1) 0 r])
theorem ok {G:Gs} (hG:AE (ents G)) {g:Q} (hg:∀data a m2 b r,g data a m2 b=some r->Does G data a m2 b r):EO (ent g):=λR xs H K r hc=>by
 simp only[ent]at hc
 split at hc
 ·obtain⟨r,j1,j2⟩:=bind_some hc
  obtain⟨n,j3⟩:=hg _ _ _ _ _ j1
  exact⟨_,_,j2,fnP hG an (pc G n) bd [] Tryz.func149 (.inl rfl) (apl [(1,3,.loop q3),(1,9,.loop q9),(1,15,.loop q15),(1,21,.loop q21),(0,32,q32)] ⟨pl3 hG n n,⟨pl9 hG n n,⟨pl15 hG n n,⟨pl21 hG n n,⟨pc32 hG,trivial⟩⟩⟩⟩⟩) (.trans (by kernel_rfl) j3)⟩
 ·cases hc
end z4i
namespace z4e
structure Gs where
 z04:z04.Q
noncomputable def ents (G:Gs):List Ent:=[z04.ent G.z04]
noncomputable def c6 {R:Type} (G:Gs) (n:Nat) (a b i j:Int) (h0:LT) (k0:Int->LT->Option R):Option R:=
 Option.bind (ix h0 (wr (j-1))) λe10=>
 Option.bind (ix h0 j) λe12=>
 Option.bind (ix h0 j) λe14=>
 Option.bind (ix (List.set h0 (Int.toNat j) (Tm.mk (Tm.op e10) (Tm.name e10) (Tm.sort e10) (Tm.args e10))) (wr (j-1))) λe16=>
 k0 (wr (j-1)) (List.set (List.set h0 (Int.toNat j) (Tm.mk (Tm.op e10) (Tm.name e10) (Tm.sort e10) (Tm.args e10))) (Int.toNat (wr (j-1))) (Tm.mk (Tm.op e12) (Tm.name e12) (Tm.sort e12) (Tm.args e12)))
noncomputable def b4 {R:Type} (G:Gs) (n:Nat) (a b i j:Int) (h0:LT) (nx:Int->LT->Option R) (k0:LT->Option R):Option R:=
 bif decide (a<j)then
  (
  Option.bind (ix h0 j) λe6=>
  Option.bind (ix h0 (wr (j-1))) λe8=>
  Option.bind (G.z04 (Tm.mk (Tm.op e6) (Tm.name e6) (Tm.sort e6) (Tm.args e6)) (Tm.mk (Tm.op e8) (Tm.name e8) (Tm.sort e8) (Tm.args e8))) λr2=>
  bif decide (r2<0)then
   (
   c6 G n a b i j h0
    (λj22 h022=>nx j22 h022)
   )
  else
   k0 h0
  )
 else
  k0 h0
noncomputable def l4 {R:Type} (G:Gs) (n m:Nat) (a b i j:Int) (h0:LT) (k0:LT->Option R):Option R:=iter (λ(v:Int×LT) nx=>b4 G n a b i v.1 v.2 (λy0 y1=>nx (y0,y1)) k0) m (j,h0)
noncomputable def b1 {R:Type} (G:Gs) (n:Nat) (a b i:Int) (h0:LT) (nx:Int->LT->Option R) (k0:LT->Option R):Option R:=
 bif decide (i<b)then
  (
  l4 G n n a b i i h0
   (λh02=>nx (wr (i+1)) h02)
  )
 else
  k0 h0
noncomputable def l1 {R:Type} (G:Gs) (n m:Nat) (a b i:Int) (h0:LT) (k0:LT->Option R):Option R:=iter (λ(v:Int×LT) nx=>b1 G n a b v.1 v.2 (λy0 y1=>nx (y0,y1)) k0) m (i,h0)
noncomputable def main {R:Type} (G:Gs) (n:Nat) (data:LT) (a b:Int) (K:LT->Option R):Option R:=
 l1 G n n a b (wr (a+1)) data
  (λh02=>K h02)
noncomputable def dc6 (G:Gs) (n:Nat) (R:Type) (st:St) (K:Kt R):Option R:=match st with
 |⟨[(0,.one (.o 0)),(1,.one (.i a)),(2,.one (.i b)),(3,.one (.f 117 [])),(8,.one (.i i)),(9,.one (.i j))],[.row (.n 1) 0 h0]⟩=>c6 G n a b i j h0 (λj2 h02=>K .normal ⟨[(0,.one (.o 0)),(1,.one (.i a)),(2,.one (.i b)),(3,.one (.f 117 [])),(8,.one (.i i)),(9,.one (.i j2))],[.row (.n 1) 0 h02]⟩)
 |_=>none
noncomputable def dl4 (G:Gs) (n m:Nat) (R:Type) (st:St) (K:Kt R):Option R:=match st with
 |⟨[(0,.one (.o 0)),(1,.one (.i a)),(2,.one (.i b)),(3,.one (.f 117 [])),(8,.one (.i i)),(9,.one (.i j))],[.row (.n 1) 0 h0]⟩=>l4 G n m a b i j h0 (λh02=>K (.exit 2) ⟨[(0,.one (.o 0)),(1,.one (.i a)),(2,.one (.i b)),(3,.one (.f 117 [])),(8,.one (.i i))],[.row (.n 1) 0 h02]⟩)
 |_=>none
noncomputable def dl1 (G:Gs) (n m:Nat) (R:Type) (st:St) (K:Kt R):Option R:=match st with
 |⟨[(0,.one (.o 0)),(1,.one (.i a)),(2,.one (.i b)),(3,.one (.f 117 [])),(8,.one (.i i))],[.row (.n 1) 0 h0]⟩=>l1 G n m a b i h0 (λh02=>K (.exit 0) ⟨[],[.row (.n 1) 0 h02]⟩)
 |_=>none
noncomputable def pc (G:Gs) (n:Nat):Pcs:=⟨λR id st K=>bif Nat.beq id 4 then dl4 G n n R st K else bif Nat.beq id 1 then dl1 G n n R st K else none,λR id st K=>bif Nat.beq id 6 then dc6 G n R st K else none,nK⟩
noncomputable def an:Ann:=⟨53,1,[(4,[0,1,2,3,8,9]),(1,[0,1,2,3,8])],[(6,[0,1,2,3,8,9])],[],[(4,⟨[([0,1,2,3,4,5,6,7,8,9,10,11,12,13,14,15,16],[14],[7,8,12,13])],[14],[],[],[]⟩),(6,⟨[([0,1,5,6,7,8,9,10,11,12,13,14,15,2,3,4,16,17],[15,17],[8,9,12,13,14,16])],[15,17],[],[],[]⟩)],[]⟩
noncomputable abbrev bd:=bodyOf Tryz.f148
noncomputable abbrev q6:=nthC [1,0,0,1,0,0,1,0,0,1] bd
noncomputable abbrev q4:=nthC [1,0,0,1,0,0,1,0,0] bd
noncomputable abbrev q1:=nthC [1,0,0] bd
theorem pc6 {G:Gs} (hG:AE (ents G)) {n:Nat}:PO an q6 (dc6 G n):=cpc hG (pc G n) ⟨[0,1,2,3,8,9],[],[(0,[]),(1,[0,1,2,3,8]),(2,[0,1,2,3,8])]⟩ (apl [] trivial) λR st K r h=>by unfold dc6 at h;split at h;exact .trans (by kernel_rfl) h;cases h
theorem pl4 {G:Gs} (hG:AE (ents G)) (n:Nat):∀m,PO an (.loop q4) (dl4 G n m):=lpc hG (pc G n) [0,1,2,3,8,9] ⟨[0,1,2,3,8],[],[(0,[]),(1,[0,1,2,3,8]),(2,[0,1,2,3,8])]⟩ (apl [(0,6,q6)] ⟨pc6 hG,trivial⟩) (λR st K=>by unfold dl4;split<;>rfl) λm R st K r h=>by unfold dl4 at h;split at h;exact .trans (by kernel_rfl) h;cases h
theorem pl1 {G:Gs} (hG:AE (ents G)) (n:Nat):∀m,PO an (.loop q1) (dl1 G n m):=lpc hG (pc G n) [0,1,2,3,8] ⟨[],[],[(0,[])]⟩ (apl [(1,4,.loop q4)] ⟨pl4 hG n n,trivial⟩) (λR st K=>by unfold dl1;split<;>rfl) λm R st K r h=>by unfold dl1 at h;split at h;exact .trans (by kernel_rfl) h;cases h
noncomputable def Does (G:Gs) (data:LT) (a b:Int) (r:LT):Prop:=∃n,main (R:=AT×List Ob) G n data a b (λr0=>some (.tup [],[.row (.n 1) 0 r0]))=some (.tup [],[.row (.n 1) 0 r])
theorem ok {G:Gs} (hG:AE (ents G)) {g:Q} (hg:∀data a b r,g data a b=some r->Does G data a b r):EO (ent g):=λR xs H K r hc=>by
 simp only[ent]at hc
 split at hc
 ·obtain⟨r,j1,j2⟩:=bind_some hc
  obtain⟨n,j3⟩:=hg _ _ _ _ j1
  exact⟨_,_,j2,fnP hG an (pc G n) bd [] Tryz.func148 (.inl rfl) (apl [(1,1,.loop q1)] ⟨pl1 hG n n,trivial⟩) (.trans (by kernel_rfl) j3)⟩
 ·cases hc
end z4e
namespace z4g
structure Gs where
 z4e:z4e.Q
 z4i:z4i.Q
noncomputable def ents (G:Gs):List Ent:=[z4e.ent G.z4e,z4i.ent G.z4i]
noncomputable def b2 {R:Type} (G:Gs) (n:Nat) (n1 blockSize a b:Int) (h0:LT) (nx:Int->Int->LT->Option R) (k0:Int->LT->Option R):Option R:=
 bif decide (b<=n1)then
  (
  Option.bind (G.z4e h0 a b) λr=>
  nx b (wr (b+blockSize)) r
  )
 else
  k0 a h0
noncomputable def l2 {R:Type} (G:Gs) (n m:Nat) (n1 blockSize a b:Int) (h0:LT) (k0:Int->LT->Option R):Option R:=iter (λ(v:Int×Int×LT) nx=>b2 G n n1 blockSize v.1 v.2.1 v.2.2 (λy0 y1 y2=>nx (y0,y1,y2)) k0) m (a,b,h0)
noncomputable def b9 {R:Type} (G:Gs) (n:Nat) (n1 blockSize a b:Int) (h0:LT) (nx:Int->Int->LT->Option R) (k0:Int->LT->Option R):Option R:=
 bif decide (b<=n1)then
  (
  Option.bind (G.z4i h0 a (wr (a+blockSize)) b) λr=>
  nx b (wr (b+(wr (2*blockSize)))) r
  )
 else
  k0 a h0
noncomputable def l9 {R:Type} (G:Gs) (n m:Nat) (n1 blockSize a b:Int) (h0:LT) (k0:Int->LT->Option R):Option R:=iter (λ(v:Int×Int×LT) nx=>b9 G n n1 blockSize v.1 v.2.1 v.2.2 (λy0 y1 y2=>nx (y0,y1,y2)) k0) m (a,b,h0)
noncomputable def b7 {R:Type} (G:Gs) (n:Nat) (n1 blockSize:Int) (h0:LT) (nx:Int->LT->Option R) (k0:LT->Option R):Option R:=
 bif decide (blockSize < n1) then
  (
  l9 G n n n1 blockSize 0 (wr (2 * blockSize)) h0
   (fun a2 h02 =>
    bif decide ((wr (a2+blockSize))<n1)then
     (
     Option.bind (G.z4i h02 a2 (wr (a2+blockSize)) n1) λr=>
     nx (wr (blockSize*2)) r
     )
    else
     nx (wr (blockSize*2)) h02
   )
  )
 else
  k0 h0
noncomputable def l7 {R:Type} (G:Gs) (n m:Nat) (n1 blockSize:Int) (h0:LT) (k0:LT->Option R):Option R:=iter (λ(v:Int×LT) nx=>b7 G n n1 v.1 v.2 (λy0 y1=>nx (y0,y1)) k0) m (blockSize,h0)
noncomputable def main {R:Type} (G:Gs) (n:Nat) (data:LT) (n1:Int) (K:LT->Option R):Option R:=
 l2 G n n n1 20 0 20 data
  (fun a2 h02 =>
   Option.bind (G.z4e h02 a2 n1) λr=>
   l7 G n n n1 20 r
    (λh022=>K h022)
  )
noncomputable def dl2 (G:Gs) (n m:Nat) (R:Type) (st:St) (K:Kt R):Option R:=match st with
 |⟨[(0,.one (.o 0)),(1,.one (.i n1)),(2,.one (.f 117 [])),(6,.one (.i blockSize)),(7,.one (.i a)),(8,.one (.i b))],[.row (.n 1) 0 h0]⟩=>l2 G n m n1 blockSize a b h0 (λa2 h02=>K (.exit 0) ⟨[(0,.one (.o 0)),(1,.one (.i n1)),(2,.one (.f 117 [])),(6,.one (.i blockSize)),(7,.one (.i a2))],[.row (.n 1) 0 h02]⟩)
 |_=>none
noncomputable def dl9 (G:Gs) (n m:Nat) (R:Type) (st:St) (K:Kt R):Option R:=match st with
 |⟨[(0,.one (.o 0)),(1,.one (.i n1)),(2,.one (.f 117 [])),(6,.one (.i blockSize)),(7,.one (.i a)),(8,.one (.i b))],[.row (.n 1) 0 h0]⟩=>l9 G n m n1 blockSize a b h0 (λa2 h02=>K (.exit 4) ⟨[(0,.one (.o 0)),(1,.one (.i n1)),(2,.one (.f 117 [])),(6,.one (.i blockSize)),(7,.one (.i a2))],[.row (.n 1) 0 h02]⟩)
 |_=>none
noncomputable def dl7 (G:Gs) (n m:Nat) (R:Type) (st:St) (K:Kt R):Option R:=match st with
 |⟨[(0,.one (.o 0)),(1,.one (.i n1)),(2,.one (.f 117 [])),(6,.one (.i blockSize))],[.row (.n 1) 0 h0]⟩=>l7 G n m n1 blockSize h0 (λh02=>K (.exit 2) ⟨[],[.row (.n 1) 0 h02]⟩)
 |_=>none
noncomputable def pc (G:Gs) (n:Nat):Pcs:=⟨λR id st K=>bif Nat.beq id 2 then dl2 G n n R st K else bif Nat.beq id 9 then dl9 G n n R st K else bif Nat.beq id 7 then dl7 G n n R st K else none,nK,nK⟩
noncomputable def an:Ann:=⟨63,1,[(2,[0,1,2,6,7,8]),(9,[0,1,2,6,7,8]),(7,[0,1,2,6])],[],[],[],[]⟩
noncomputable abbrev bd:=bodyOf Tryz.f135
noncomputable abbrev q2:=nthC [1,1,0,0,0] bd
noncomputable abbrev q9:=nthC [1,1,1,1,0,0,1,0,1,0,0,0] bd
noncomputable abbrev q7:=nthC [1,1,1,1,0,0] bd
theorem pl2 {G:Gs} (hG:AE (ents G)) (n:Nat):∀m,PO an (.loop q2) (dl2 G n m):=lpc hG (pc G n) [0,1,2,6,7,8] ⟨[0,1,2,6,7],[],[(0,[0,1,2,6,7])]⟩ (apl [] trivial) (λR st K=>by unfold dl2;split<;>rfl) λm R st K r h=>by unfold dl2 at h;split at h;exact .trans (by kernel_rfl) h;cases h
theorem pl9 {G:Gs} (hG:AE (ents G)) (n:Nat):∀m,PO an (.loop q9) (dl9 G n m):=lpc hG (pc G n) [0,1,2,6,7,8] ⟨[0,1,2,6,7],[],[(2,[]),(3,[0,1,2,6]),(4,[0,1,2,6,7])]⟩ (apl [] trivial) (λR st K=>by unfold dl9;split<;>rfl) λm R st K r h=>by unfold dl9 at h;split at h;exact .trans (by kernel_rfl) h;cases h
theorem pl7 {G:Gs} (hG:AE (ents G)) (n:Nat):∀m,PO an (.loop q7) (dl7 G n m):=lpc hG (pc G n) [0,1,2,6] ⟨[],[],[(2,[])]⟩ (apl [(1,9,.loop q9)] ⟨pl9 hG n n,trivial⟩) (λR st K=>by unfold dl7;split<;>rfl) λm R st K r h=>by unfold dl7 at h;split at h;exact .trans (by kernel_rfl) h;cases h
noncomputable def Does (G:Gs) (data:LT) (n1:Int) (r:LT):Prop:=∃n,main (R:=AT×List Ob) G n data n1 (λr0=>some (.tup [],[.row (.n 1) 0 r0]))=some (.tup [],[.row (.n 1) 0 r])
theorem ok {G:Gs} (hG:AE (ents G)) {g:Q} (hg:∀data n1 r,g data n1=some r->Does G data n1 r):EO (ent g):=λR xs H K r hc=>by
 simp only[ent]at hc
 split at hc
 ·obtain⟨r,j1,j2⟩:=bind_some hc
  obtain⟨n,j3⟩:=hg _ _ _ j1
  exact⟨_,_,j2,fnP hG an (pc G n) bd [] Tryz.func135 (.inl rfl) (apl [(1,2,.loop q2),(1,7,.loop q7)] ⟨pl2 hG n n,⟨pl7 hG n n,trivial⟩⟩) (.trans (by kernel_rfl) j3)⟩
 ·cases hc
end z4g
namespace z4d
structure Gs where
 z4g:z4g.Q
noncomputable def ents (G:Gs):List Ent:=[z4g.ent G.z4g]
noncomputable def main {R:Type} (G:Gs) (n:Nat) (x:LT) (K:LT->Option R):Option R:=
 Option.bind (G.z4g x (List.length x:Int)) λr=>
 K r
noncomputable def pc (_:Gs) (_:Nat):Pcs:=⟨nK,nK,nK⟩
noncomputable def an:Ann:=⟨9,1,[],[],[],[],[]⟩
noncomputable abbrev bd:=bodyOf Tryz.f116
noncomputable def Does (G:Gs) (x r:LT):Prop:=∃n,main (R:=AT×List Ob) G n x (λr0=>some (.tup [],[.row (.n 1) 0 r0]))=some (.tup [],[.row (.n 1) 0 r])
theorem ok {G:Gs} (hG:AE (ents G)) {g:Q} (hg:∀x r,g x=some r->Does G x r):EO (ent g):=λR xs H K r hc=>by
 simp only[ent]at hc
 split at hc
 ·obtain⟨r,j1,j2⟩:=bind_some hc
  obtain⟨n,j3⟩:=hg _ _ j1
  exact⟨_,_,j2,fnP hG an (pc G n) bd [] Tryz.func116 (.inl rfl) (apl [] trivial) (.trans (by kernel_rfl) j3)⟩
 ·cases hc
end z4d
namespace z0k
structure Gs where
 z0p:z0p.Q
 z0j:z0j.Q
 z0n:z0n.Q
 z0q:z0q.Q
 z4d:z4d.Q
 z0h:z0h.Q
 z06:z06.Q
noncomputable def ents (G:Gs):List Ent:=[z0p.ent G.z0p,z0j.ent G.z0j,z0n.ent G.z0n,z0q.ent G.z0q,z4d.ent G.z4d,z0h.ent G.z0h,z06.ent G.z06]
noncomputable def c12 {R:Type} (G:Gs) (n:Nat) (xc xd xe:LI) (xa:LB) (xb:LS) (xf:LO) (op:Int) (t46:LT) (t47 t48:Int) (h1:LM) (h2:Int) (h22:ByteArray) (h23:Int) (h3:LT) (h4:ByteArray) (h42:LD) (h43 h44:Bool) (h45:Int) (h5:LT) (h6:Int) (h62:ByteArray) (h63:Int) (h64:LT) (k0:LM->LT->Option R):Option R:=
 Option.bind (G.z0n xc xd xe xa xb xf h1 op (Tm.mk h6 h62 h63 h64)) λr=>
 bif !r.1 then
  (
  Option.bind (lim (h5++[(Tm.mk h6 h62 h63 h64)])) λzs=>
  k0 r.2 zs
  )
 else
  k0 r.2 h5
noncomputable def b6 {R:Type} (G:Gs) (n:Nat) (xc xd xe:LI) (xa:LB) (xb:LS) (xf:LO) (op:Int) (t46:LT) (t47 h2:Int) (h22:ByteArray) (h23:Int) (h3:LT) (h4:ByteArray) (h42:LD) (h43 h44:Bool) (h45 t48:Int) (h1:LM) (h5:LT) (nx:Int->LM->LT->Option R) (k0:Bool->LM->Int->ByteArray->Int->LT->Option R) (k1:LM->LT->Option R):Option R:=
 bif decide (t48 < t47) then
  (
  Option.bind (ix t46 t48) λe=>
  Option.bind (G.z0p xc xd xe xa xb xf h1 (Tm.mk (Tm.op e) (Tm.name e) (Tm.sort e) (Tm.args e))) λr=>
  Option.bind (G.z0j xc xd xe xa xb xf r.2 op t48) λr2=>
  bif !decide (r.1=r2.1)then
   (k0 false r2.2 0 ByteArray.empty 0 [])
  else
   bif h43 then
    (
    bif decide ((Tm.op e)=op)then
     (
     Option.bind (lim (h5++(Tm.args e))) λzs=>
     nx (wr (t48+1)) r2.2 zs
     )
    else
     c12 G n xc xd xe xa xb xf op t46 t47 t48 r2.2 h2 h22 h23 h3 h4 h42 h43 h44 h45 h5 (Tm.op e) (Tm.name e) (Tm.sort e) (Tm.args e)
      (λh12 h52=>nx (wr (t48+1)) h12 h52)
    )
   else
    c12 G n xc xd xe xa xb xf op t46 t47 t48 r2.2 h2 h22 h23 h3 h4 h42 h43 h44 h45 h5 (Tm.op e) (Tm.name e) (Tm.sort e) (Tm.args e)
     (λh122 h522=>nx (wr (t48+1)) h122 h522)
  )
 else
  k1 h1 h5
noncomputable def l6 {R:Type} (G:Gs) (n m:Nat) (xc xd xe:LI) (xa:LB) (xb:LS) (xf:LO) (op:Int) (t46:LT) (t47 h2:Int) (h22:ByteArray) (h23:Int) (h3:LT) (h4:ByteArray) (h42:LD) (h43 h44:Bool) (h45 t48:Int) (h1:LM) (h5:LT) (k0:Bool->LM->Int->ByteArray->Int->LT->Option R) (k1:LM->LT->Option R):Option R:=iter (λ(v:Int×LM×LT) nx=>b6 G n xc xd xe xa xb xf op t46 t47 h2 h22 h23 h3 h4 h42 h43 h44 h45 v.1 v.2.1 v.2.2 (λy0 y1 y2=>nx (y0,y1,y2)) k0 k1) m (t48,h1,h5)
noncomputable def c21 {R:Type} (G:Gs) (n:Nat) (xc xd xe:LI) (xa:LB) (xb:LS) (xf:LO) (op:Int) (h1:LM) (h2:Int) (h22:ByteArray) (h23:Int) (h3:LT) (h4:ByteArray) (h42:LD) (h43 h44:Bool) (h45:Int) (h5:LT) (k0:Bool->Int->ByteArray->Int->LT->Option R):Option R:=
 bif h43 then
  (
  bif decide (7<(List.length h5:Int))then
   (k0 false 0 ByteArray.empty 0 [])
  else
   Option.bind (G.z0h (Tm.mk op ByteArray.empty 0 h5)) λr=>
   bif decide (60<r)then
    (k0 false 0 ByteArray.empty 0 [])
   else
    Option.bind (G.z06 (Tm.mk op ByteArray.empty 0 h5)) λr2=>
    bif decide (20<r2)then
     (k0 false 0 ByteArray.empty 0 [])
    else
     k0 true op ByteArray.empty 0 h5
  )
 else
  Option.bind (G.z0h (Tm.mk op ByteArray.empty 0 h5)) λr3=>
  bif decide (60<r3)then
   (k0 false 0 ByteArray.empty 0 [])
  else
   Option.bind (G.z06 (Tm.mk op ByteArray.empty 0 h5)) λr4=>
   bif decide (20<r4)then
    (k0 false 0 ByteArray.empty 0 [])
   else
    k0 true op ByteArray.empty 0 h5
noncomputable def c19 {R:Type} (G:Gs) (n:Nat) (xc xd xe:LI) (xa:LB) (xb:LS) (xf:LO) (op:Int) (h1:LM) (h2:Int) (h22:ByteArray) (h23:Int) (h3:LT) (h4:ByteArray) (h42:LD) (h43 h44:Bool) (h45:Int) (h5:LT) (k0:Bool->Int->ByteArray->Int->LT->Option R):Option R:=
 bif h44 then
  (
  Option.bind (G.z4d h5) λr=>
  c21 G n xc xd xe xa xb xf op h1 h2 h22 h23 h3 h4 h42 h43 h44 h45 r
   (λt7 h24 h25 h26 h27=>k0 t7 h24 h25 h26 h27)
  )
 else
  c21 G n xc xd xe xa xb xf op h1 h2 h22 h23 h3 h4 h42 h43 h44 h45 h5
   (λt72 h242 h252 h262 h272=>k0 t72 h242 h252 h262 h272)
noncomputable def c4 {R:Type} (G:Gs) (n:Nat) (xc xd xe:LI) (xa:LB) (xb:LS) (xf:LO) (op:Int) (args:LT) (h1:LM) (h2:Int) (h22:ByteArray) (h23:Int) (h3:LT) (h4:ByteArray) (h42:LD) (h43 h44:Bool) (h45:Int) (k0:Bool->LM->Int->ByteArray->Int->LT->Option R):Option R:=
 l6 G n n xc xd xe xa xb xf op args (List.length args : Int) h2 h22 h23 h3 h4 h42 h43 h44 h45 0 h1 []
  (λt7 h12 h24 h25 h26 h27=>k0 t7 h12 h24 h25 h26 h27)
  (fun h122 h52 =>
   bif !decide (h45=0)then
    (
    bif decide ((List.length h52:Int)<2)then
     (
     bif decide ((List.length h52:Int)=1)then
      (
      Option.bind (ix h52 0) λe=>
      k0 true h122 (Tm.op e) (Tm.name e) (Tm.sort e) (Tm.args e)
      )
     else
      Option.bind (G.z0q xc xd xe xa xb xf h122 op) λr=>
      k0 true r.2 (Tm.op r.1) (Tm.name r.1) (Tm.sort r.1) (Tm.args r.1)
     )
    else
     c19 G n xc xd xe xa xb xf op h122 h2 h22 h23 h3 h4 h42 h43 h44 h45 h52
      (λt72 h242 h252 h262 h272=>k0 t72 h122 h242 h252 h262 h272)
    )
   else
    c19 G n xc xd xe xa xb xf op h122 h2 h22 h23 h3 h4 h42 h43 h44 h45 h52
     (λt73 h243 h253 h263 h273=>k0 t73 h122 h243 h253 h263 h273)
  )
noncomputable def main {R:Type} (G:Gs) (n:Nat) (xc xd xe:LI) (xa:LB) (xb:LS) (xf:LO) (xg:LM) (op:Int) (args:LT) (K:Tm->Bool->LM->Option R):Option R:=
 Option.bind (ix xf op) λe=>
 bif (Opr.assoc e) then
  (
  bif decide ((List.length args:Int)<2)then
   (K (Tm.mk 0 ByteArray.empty 0 []) false xg)
  else
   bif !(Opr.assoc e)then
    (
    Option.bind (ix (Opr.decls e) 0) λe2=>
    bif !decide ((List.length args:Int)=(List.length (Dc.args e2):Int))then
     (K (Tm.mk 0 ByteArray.empty 0 []) false xg)
    else
     c4 G n xc xd xe xa xb xf op args xg 0 ByteArray.empty 0 [] (Opr.name e) (Opr.decls e) (Opr.assoc e) (Opr.comm e) (Opr.unit e)
      (λt7 h12 h24 h25 h26 h27=>K (Tm.mk h24 h25 h26 h27) t7 h12)
    )
   else
    c4 G n xc xd xe xa xb xf op args xg 0 ByteArray.empty 0 [] (Opr.name e) (Opr.decls e) (Opr.assoc e) (Opr.comm e) (Opr.unit e)
     (λt72 h122 h242 h252 h262 h272=>K (Tm.mk h242 h252 h262 h272) t72 h122)
  )
 else
  bif !(Opr.assoc e)then
   (
   Option.bind (ix (Opr.decls e) 0) λe3=>
   bif !decide ((List.length args:Int)=(List.length (Dc.args e3):Int))then
    (K (Tm.mk 0 ByteArray.empty 0 []) false xg)
   else
    c4 G n xc xd xe xa xb xf op args xg 0 ByteArray.empty 0 [] (Opr.name e) (Opr.decls e) (Opr.assoc e) (Opr.comm e) (Opr.unit e)
     (λt73 h123 h243 h253 h263 h273=>K (Tm.mk h243 h253 h263 h273) t73 h123)
   )
  else
   c4 G n xc xd xe xa xb xf op args xg 0 ByteArray.empty 0 [] (Opr.name e) (Opr.decls e) (Opr.assoc e) (Opr.comm e) (Opr.unit e)
    (λt74 h124 h244 h254 h264 h274=>K (Tm.mk h244 h254 h264 h274) t74 h124)
noncomputable def dc12 (G:Gs) (n:Nat) (R:Type) (st:St) (K:Kt R):Option R:=match st with
 |⟨[(0,.one (.p 0 0)),(1,.one (.i op)),(6,.one (.p 2 0)),(8,.one (.p 4 0)),(9,.one (.o 5)),(11,.one (.p 6 0)),(46,.one (.l (.n 1) t46)),(47,.one (.i t47)),(48,.one (.i t48))],[.box [.l .i xc,.l .i xd,.l .i xe,.l .s xa,.l (.n 5) xb,.l (.n 8) xf,.m 1],.map .i h1,.box [.i h2,.s h22,.i h23,.o 3],.row (.n 1) 0 h3,.box [.s h4,.l (.n 7) h42,.b h43,.b h44,.i h45],.row (.n 1) 0 h5,.box [.i h6,.s h62,.i h63,.l (.n 1) h64]]⟩=>c12 G n xc xd xe xa xb xf op t46 t47 t48 h1 h2 h22 h23 h3 h4 h42 h43 h44 h45 h5 h6 h62 h63 h64 (λh12 h52=>K .normal ⟨[(0,.one (.p 0 0)),(1,.one (.i op)),(6,.one (.p 2 0)),(8,.one (.p 4 0)),(9,.one (.o 5)),(46,.one (.l (.n 1) t46)),(47,.one (.i t47)),(48,.one (.i t48))],[.box [.l .i xc,.l .i xd,.l .i xe,.l .s xa,.l (.n 5) xb,.l (.n 8) xf,.m 1],.map .i h12,.box [.i h2,.s h22,.i h23,.o 3],.row (.n 1) 0 h3,.box [.s h4,.l (.n 7) h42,.b h43,.b h44,.i h45],.row (.n 1) 0 h52]⟩)
 |_=>none
noncomputable def dl6 (G:Gs) (n m:Nat) (R:Type) (st:St) (K:Kt R):Option R:=match st with
 |⟨[(0,.one (.p 0 0)),(1,.one (.i op)),(6,.one (.p 2 0)),(8,.one (.p 4 0)),(9,.one (.o 5)),(46,.one (.l (.n 1) t46)),(47,.one (.i t47)),(48,.one (.i t48))],[.box [.l .i xc,.l .i xd,.l .i xe,.l .s xa,.l (.n 5) xb,.l (.n 8) xf,.m 1],.map .i h1,.box [.i h2,.s h22,.i h23,.o 3],.row (.n 1) 0 h3,.box [.s h4,.l (.n 7) h42,.b h43,.b h44,.i h45],.row (.n 1) 0 h5]⟩=>l6 G n m xc xd xe xa xb xf op t46 t47 h2 h22 h23 h3 h4 h42 h43 h44 h45 t48 h1 h5 (λt7 h12 h24 h25 h26 h27=>K .ret ⟨[(6,.one (.p 2 0)),(7,.one (.b t7))],[.box [.l .i xc,.l .i xd,.l .i xe,.l .s xa,.l (.n 5) xb,.l (.n 8) xf,.m 1],.map .i h12,.box [.i h24,.s h25,.i h26,.l (.n 1) h27]]⟩) (λh12 h52=>K (.exit 0) ⟨[(0,.one (.p 0 0)),(1,.one (.i op)),(6,.one (.p 2 0)),(8,.one (.p 4 0)),(9,.one (.o 5))],[.box [.l .i xc,.l .i xd,.l .i xe,.l .s xa,.l (.n 5) xb,.l (.n 8) xf,.m 1],.map .i h12,.box [.i h2,.s h22,.i h23,.o 3],.row (.n 1) 0 h3,.box [.s h4,.l (.n 7) h42,.b h43,.b h44,.i h45],.row (.n 1) 0 h52]⟩)
 |_=>none
noncomputable def dc21 (G:Gs) (n:Nat) (R:Type) (st:St) (K:Kt R):Option R:=match st with
 |⟨[(1,.one (.i op)),(6,.one (.p 2 0)),(8,.one (.p 4 0)),(9,.one (.o 5))],[.box [.l .i xc,.l .i xd,.l .i xe,.l .s xa,.l (.n 5) xb,.l (.n 8) xf,.m 1],.map .i h1,.box [.i h2,.s h22,.i h23,.o 3],.row (.n 1) 0 h3,.box [.s h4,.l (.n 7) h42,.b h43,.b h44,.i h45],.row (.n 1) 0 h5]⟩=>c21 G n xc xd xe xa xb xf op h1 h2 h22 h23 h3 h4 h42 h43 h44 h45 h5 (λt7 h24 h25 h26 h27=>K .ret ⟨[(6,.one (.p 2 0)),(7,.one (.b t7))],[.box [.l .i xc,.l .i xd,.l .i xe,.l .s xa,.l (.n 5) xb,.l (.n 8) xf,.m 1],.map .i h1,.box [.i h24,.s h25,.i h26,.l (.n 1) h27]]⟩)
 |_=>none
noncomputable def dc19 (G:Gs) (n:Nat) (R:Type) (st:St) (K:Kt R):Option R:=match st with
 |⟨[(1,.one (.i op)),(6,.one (.p 2 0)),(8,.one (.p 4 0)),(9,.one (.o 5))],[.box [.l .i xc,.l .i xd,.l .i xe,.l .s xa,.l (.n 5) xb,.l (.n 8) xf,.m 1],.map .i h1,.box [.i h2,.s h22,.i h23,.o 3],.row (.n 1) 0 h3,.box [.s h4,.l (.n 7) h42,.b h43,.b h44,.i h45],.row (.n 1) 0 h5]⟩=>c19 G n xc xd xe xa xb xf op h1 h2 h22 h23 h3 h4 h42 h43 h44 h45 h5 (λt7 h24 h25 h26 h27=>K .ret ⟨[(6,.one (.p 2 0)),(7,.one (.b t7))],[.box [.l .i xc,.l .i xd,.l .i xe,.l .s xa,.l (.n 5) xb,.l (.n 8) xf,.m 1],.map .i h1,.box [.i h24,.s h25,.i h26,.l (.n 1) h27]]⟩)
 |_=>none
noncomputable def dc4 (G:Gs) (n:Nat) (R:Type) (st:St) (K:Kt R):Option R:=match st with
 |⟨[(0,.one (.p 0 0)),(1,.one (.i op)),(2,.one (.l (.n 1) args)),(6,.one (.p 2 0)),(8,.one (.p 4 0))],[.box [.l .i xc,.l .i xd,.l .i xe,.l .s xa,.l (.n 5) xb,.l (.n 8) xf,.m 1],.map .i h1,.box [.i h2,.s h22,.i h23,.o 3],.row (.n 1) 0 h3,.box [.s h4,.l (.n 7) h42,.b h43,.b h44,.i h45]]⟩=>c4 G n xc xd xe xa xb xf op args h1 h2 h22 h23 h3 h4 h42 h43 h44 h45 (λt7 h12 h24 h25 h26 h27=>K .ret ⟨[(6,.one (.p 2 0)),(7,.one (.b t7))],[.box [.l .i xc,.l .i xd,.l .i xe,.l .s xa,.l (.n 5) xb,.l (.n 8) xf,.m 1],.map .i h12,.box [.i h24,.s h25,.i h26,.l (.n 1) h27]]⟩)
 |_=>none
noncomputable def pc (G:Gs) (n:Nat):Pcs:=⟨λR id st K=>bif Nat.beq id 6 then dl6 G n n R st K else none,λR id st K=>bif Nat.beq id 12 then dc12 G n R st K else bif Nat.beq id 21 then dc21 G n R st K else bif Nat.beq id 19 then dc19 G n R st K else bif Nat.beq id 4 then dc4 G n R st K else none,nK⟩
noncomputable def an:Ann:=⟨129,2,[(6,[0,1,6,8,9,46,47,48])],[(12,[0,1,6,8,9,11,46,47,48]),(21,[1,6,8,9]),(19,[1,6,8,9]),(4,[0,1,2,6,8])],[6,7],[],[44,61,108,127]⟩
noncomputable abbrev bd:=bodyOf Tryz.f67
noncomputable abbrev q12:=nthC [1,1,1,1,0,1,0,0,1,1,0,0,1,1,0,1,1] bd
noncomputable abbrev q6:=nthC [1,1,1,1,0,1,0,0] bd
noncomputable abbrev q21:=nthC [1,1,1,1,1,1,1] bd
noncomputable abbrev q19:=nthC [1,1,1,1,1,1] bd
noncomputable abbrev q4:=nthC [1,1,1] bd
theorem pc12 {G:Gs} (hG:AE (ents G)) {n:Nat}:PO an q12 (dc12 G n):=cpc hG (pc G n) ⟨[0,1,6,8,9,46,47,48],[6,7],[(0,[0,1,6,8,9]),(1,[0,1,6,8,9,46,47,48]),(2,[0,1,6,8,9,46,47,48])]⟩ (apl [] trivial) λR st K r h=>by unfold dc12 at h;split at h;exact .trans (by kernel_rfl) h;cases h
theorem pl6 {G:Gs} (hG:AE (ents G)) (n:Nat):∀m,PO an (.loop q6) (dl6 G n m):=lpc hG (pc G n) [0,1,6,8,9,46,47,48] ⟨[0,1,6,8,9],[6,7],[(0,[0,1,6,8,9])]⟩ (apl [(0,12,q12)] ⟨pc12 hG,trivial⟩) (λR st K=>by unfold dl6;split<;>rfl) λm R st K r h=>by unfold dl6 at h;split at h;exact .trans (by kernel_rfl) h;cases h
theorem pc21 {G:Gs} (hG:AE (ents G)) {n:Nat}:PO an q21 (dc21 G n):=cpc hG (pc G n) ⟨[],[6,7],[]⟩ (apl [] trivial) λR st K r h=>by unfold dc21 at h;split at h;exact .trans (by kernel_rfl) h;cases h
theorem pc19 {G:Gs} (hG:AE (ents G)) {n:Nat}:PO an q19 (dc19 G n):=cpc hG (pc G n) ⟨[],[6,7],[]⟩ (apl [(0,21,q21)] ⟨pc21 hG,trivial⟩) λR st K r h=>by unfold dc19 at h;split at h;exact .trans (by kernel_rfl) h;cases h
theorem pc4 {G:Gs} (hG:AE (ents G)) {n:Nat}:PO an q4 (dc4 G n):=cpc hG (pc G n) ⟨[],[6,7],[]⟩ (apl [(1,6,.loop q6),(0,19,q19)] ⟨pl6 hG n n,⟨pc19 hG,trivial⟩⟩) λR st K r h=>by unfold dc4 at h;split at h;exact .trans (by kernel_rfl) h;cases h
theorem ok {G:Gs} (hG:AE (ents G)) {g:Q} (hg:∀xc xd xe xa xb xf xg op args r,g xc xd xe xa xb xf xg op args=some r->∃n,main (R:=AT×List Ob) G n xc xd xe xa xb xf xg op args (λr0 r1 r2=>some (.tup [.agg [.i (Tm.op r0),.s (Tm.name r0),.i (Tm.sort r0),.l (.n 1) (Tm.args r0)],.one (.b r1)],[.box [.l .i xc,.l .i xd,.l .i xe,.l .s xa,.l (.n 5) xb,.l (.n 8) xf,.m 1],.map .i r2]))=some (.tup [.agg [.i (Tm.op r.1),.s (Tm.name r.1),.i (Tm.sort r.1),.l (.n 1) (Tm.args r.1)],.one (.b r.2.1)],[.box [.l .i xc,.l .i xd,.l .i xe,.l .s xa,.l (.n 5) xb,.l (.n 8) xf,.m 1],.map .i r.2.2])):EO (ent g):=λR xs H K r hc=>by
 simp only[ent]at hc
 split at hc
 ·obtain⟨r,j1,j2⟩:=bind_some hc
  obtain⟨n,j3⟩:=hg _ _ _ _ _ _ _ _ _ _ j1
  exact⟨_,_,j2,fnP hG an (pc G n) bd [.cell 6 32,.tmp 7] Tryz.func67 (.inl rfl) (apl [(0,4,q4)] ⟨pc4 hG,trivial⟩) (.trans (by kernel_rfl) j3)⟩
 ·cases hc
end z0k
end Go.Proofs.YtfdkldmkbibknaaGreat.Den

/-
  Texts that the claim rests on, merged: PI3, Srt1, Srt2, Srt3, AlgU, Alg2, Alg3.
-/
import Derived.Test.YtfdkldmkbibknaaGreatZRowTx12
import Derived.Test.YtfdkldmkbibknaaGreatZRowTx19
import Derived.Test.YtfdkldmkbibknaaGreatZRowTx22

namespace Go.Proofs.YtfdkldmkbibknaaGreat.Den
open Go.RowKit
set_option maxRecDepth 100000
set_option linter.unusedVariables false
namespace z4w
structure Gs where
 none_:Unit
noncomputable def ac (_:Gs):List Ent:=[]
noncomputable def b1 {R:Type} (G:Gs) (n:Nat) (a b n1 i:Int) (h0:LT) (nx:Int->LT->Option R) (k0:LT->Option R):Option R:=
 bif decide (i<n1)then
  (
  (ix h0 (wr (b+i))).bind λe10=>
  (ix h0 (wr (a+i))).bind λe12=>
  (ix h0 (wr (a+i))).bind λe14=>
  (ix (List.set h0 (Int.toNat (wr (a+i))) (Tm.mk e10.op e10.name e10.sort e10.args)) (wr (b+i))).bind λe16=>
  nx (wr (i+1)) (List.set (List.set h0 (Int.toNat (wr (a+i))) (Tm.mk e10.op e10.name e10.sort e10.args)) (Int.toNat (wr (b+i))) (Tm.mk e12.op e12.name e12.sort e12.args))
  )
 else
  k0 h0
noncomputable def l1 {R:Type} (G:Gs) (n m:Nat) (a b n1 i:Int) (h0:LT) (k0:LT->Option R):Option R:=aB (λ(v:Int×LT) nx=>b1 G n a b n1 v.1 v.2 (λy0 y1=>nx (y0,y1)) k0) m (i,h0)
noncomputable def main {R:Type} (G:Gs) (n:Nat) (data:LT) (a b n1:Int) (K:LT->Option R):Option R:=
 l1 G n n a b n1 0 data
  (λh02=>K h02)
noncomputable def dl1 (G:Gs) (n m:Nat) (R:Type) (st:St) (K:Kt R):Option R:=match st with
 |⟨[(0,.one (.o 0)),(1,.one (.i a)),(2,.one (.i b)),(3,.one (.i n1)),(10,.one (.i i))],[.row (.n 1) 0 h0]⟩=>l1 G n m a b n1 i h0 (λh02=>K (.exit 0) ⟨[],[.row (.n 1) 0 h02]⟩)
 |_=>none
noncomputable def pc (G:Gs) (n:Nat):Pcs:=⟨λR id st K=>bif Nat.beq id 1 then dl1 G n n R st K else none,nK,nK⟩
noncomputable def an:Ann:=⟨38,1,[(1,[0,1,2,3,10])],[],[],[(3,⟨[([0,1,2,3,8,9,10,11,12,13,14,15,16,17,18,19,20,21,4,5,6,7,22,23],[21,23],[12,13,18,19,20,22])],[21,23],[],[],[]⟩)],[]⟩
noncomputable abbrev bd:=aj Tryz.f157
noncomputable abbrev q1:=ak [1,0,0] bd
theorem pl1 {G:Gs} (hG:AE (ac G)) (n:Nat):∀m,PO an (.loop q1) (dl1 G n m):=lpc hG (pc G n) [0,1,2,3,10] ⟨[],[],[(0,[])]⟩ (apl [] trivial) (λR st K=>by unfold dl1;split<;>rfl) λm R st K r h=>by unfold dl1 at h;split at h;exact .trans (by kernel_rfl) h;cases h
noncomputable def Does (G:Gs) (data:LT) (a b n1:Int) (r:LT):Prop:=∃n,main (R:=AT×List Ob) G n data a b n1 (λr0=>some (.tup [],[.row (.n 1) 0 r0]))=some (.tup [],[.row (.n 1) 0 r])
theorem ok {G:Gs} (hG:AE (ac G)) {g:Q} (hg:∀data a b n1 r,g data a b n1=some r->Does G data a b n1 r):EO (ent g):=λR xs H K r hc=>by
 simp only[ent]at hc;split at hc
 ·exact okL hc λr j=>let⟨n,j⟩:=hg _ _ _ _ _ j;fF hG an (pc G n) Tryz.func157 j (apl [(1,1,.loop q1)] ⟨pl1 hG n n,trivial⟩)
 ·cases hc
end z4w
namespace z4u
structure Gs where
 z4w:z4w.Q
noncomputable def ac (G:Gs):List Ent:=[z4w.ent G.z4w]
noncomputable def b2 {R:Type} (G:Gs) (n:Nat) (m2 i j:Int) (h0:LT) (nx:Int->Int->LT->Option R) (k0:Int->LT->Option R):Option R:=
 bif !decide (i=j)then
  (
  bif decide (j<i)then
   (
   (G.z4w h0 (wr (m2-i)) m2 j).bind λr=>
   nx (wr (i-j)) j r
   )
  else
   (G.z4w h0 (wr (m2-i)) (wr ((wr (m2+j))-i)) i).bind λr2=>
   nx i (wr (j-i)) r2
  )
 else
  k0 i h0
noncomputable def l2 {R:Type} (G:Gs) (n m:Nat) (m2 i j:Int) (h0:LT) (k0:Int->LT->Option R):Option R:=aB (λ(v:Int×Int×LT) nx=>b2 G n m2 v.1 v.2.1 v.2.2 (λy0 y1 y2=>nx (y0,y1,y2)) k0) m (i,j,h0)
noncomputable def main {R:Type} (G:Gs) (n:Nat) (data:LT) (a m2 b:Int) (K:LT->Option R):Option R:=
 l2 G n n m2 (wr (m2-a)) (wr (b-m2)) data
  (fun i2 h02 =>
   (G.z4w h02 (wr (m2-i2)) m2 i2).bind λr=>
   K r
  )
noncomputable def dl2 (G:Gs) (n m:Nat) (R:Type) (st:St) (K:Kt R):Option R:=match st with
 |⟨[(0,.one (.o 0)),(2,.one (.i m2)),(4,.one (.f 117 [])),(10,.one (.i i)),(11,.one (.i j))],[.row (.n 1) 0 h0]⟩=>l2 G n m m2 i j h0 (λi2 h02=>K (.exit 0) ⟨[(0,.one (.o 0)),(2,.one (.i m2)),(4,.one (.f 117 [])),(10,.one (.i i2))],[.row (.n 1) 0 h02]⟩)
 |_=>none
noncomputable def pc (G:Gs) (n:Nat):Pcs:=⟨λR id st K=>bif Nat.beq id 2 then dl2 G n n R st K else none,nK,nK⟩
noncomputable def an:Ann:=⟨58,1,[(2,[0,2,4,10,11])],[],[],[],[]⟩
noncomputable abbrev bd:=aj Tryz.f155
noncomputable abbrev q2:=ak [1,1,0,0,0] bd
theorem pl2 {G:Gs} (hG:AE (ac G)) (n:Nat):∀m,PO an (.loop q2) (dl2 G n m):=lpc hG (pc G n) [0,2,4,10,11] ⟨[0,2,4,10],[],[(0,[0,2,4,10])]⟩ (apl [] trivial) (λR st K=>by unfold dl2;split<;>rfl) λm R st K r h=>by unfold dl2 at h;split at h;exact .trans (by kernel_rfl) h;cases h
noncomputable def Does (G:Gs) (data:LT) (a m2 b:Int) (r:LT):Prop:=∃n,main (R:=AT×List Ob) G n data a m2 b (λr0=>some (.tup [],[.row (.n 1) 0 r0]))=some (.tup [],[.row (.n 1) 0 r])
theorem ok {G:Gs} (hG:AE (ac G)) {g:Q} (hg:∀data a m2 b r,g data a m2 b=some r->Does G data a m2 b r):EO (ent g):=λR xs H K r hc=>by
 simp only[ent]at hc;split at hc
 ·exact okL hc λr j=>let⟨n,j⟩:=hg _ _ _ _ _ j;fF hG an (pc G n) Tryz.func155 j (apl [(1,2,.loop q2)] ⟨pl2 hG n n,trivial⟩)
 ·cases hc
end z4u
namespace z4x
structure Gs where
 z04:z04.Q
 z4u:z4u.Q
 z4x:z4x.Q
noncomputable def ac (G:Gs):List Ent:=[z04.ent G.z04,z4u.ent G.z4u,ent G.z4x]
noncomputable def b3 {R:Type} (G:Gs) (n:Nat) (a:Int) (h0:LT) (i j:Int) (nx:Int->Int->Option R) (k0:Int->Option R):Option R:=
 bif decide (i<j)then
  (
  (bif decide (0<=1)then some (Abs.am .shr .u64 (IntKind.wrap .u64 (wr (i+j))) 1)else none).bind λq=>
  (ix h0 (wr (q))).bind λe2=>
  (ix h0 a).bind λe4=>
  (G.z04 (Tm.mk e2.op e2.name e2.sort e2.args) (Tm.mk e4.op e4.name e4.sort e4.args)).bind λr=>
  bif decide (r<0)then
   (nx (wr ((wr (q))+1)) j)
  else
   nx i (wr (q))
  )
 else
  k0 i
noncomputable def l3 {R:Type} (G:Gs) (n m:Nat) (a:Int) (h0:LT) (i j:Int) (k0:Int->Option R):Option R:=aB (λ(v:Int×Int) nx=>b3 G n a h0 v.1 v.2 (λy0 y1=>nx (y0,y1)) k0) m (i,j)
noncomputable def b9 {R:Type} (G:Gs) (n:Nat) (i k:Int) (h0:LT) (nx:Int->LT->Option R) (k0:LT->Option R):Option R:=
 bif decide (k<(wr (i-1)))then
  (
  (ix h0 (wr (k+1))).bind λe10=>
  (ix h0 k).bind λe12=>
  (ix h0 k).bind λe14=>
  (ix (List.set h0 (Int.toNat k) (Tm.mk e10.op e10.name e10.sort e10.args)) (wr (k+1))).bind λe16=>
  nx (wr (k+1)) (List.set (List.set h0 (Int.toNat k) (Tm.mk e10.op e10.name e10.sort e10.args)) (Int.toNat (wr (k+1))) (Tm.mk e12.op e12.name e12.sort e12.args))
  )
 else
  k0 h0
noncomputable def l9 {R:Type} (G:Gs) (n m:Nat) (i k:Int) (h0:LT) (k0:LT->Option R):Option R:=aB (λ(v:Int×LT) nx=>b9 G n i v.1 v.2 (λy0 y1=>nx (y0,y1)) k0) m (k,h0)
noncomputable def b15 {R:Type} (G:Gs) (n:Nat) (m2:Int) (h0:LT) (i j:Int) (nx:Int->Int->Option R) (k0:Int->Option R):Option R:=
 bif decide (i<j)then
  (
  (bif decide (0<=1)then some (Abs.am .shr .u64 (IntKind.wrap .u64 (wr (i+j))) 1)else none).bind λq=>
  (ix h0 m2).bind λe2=>
  (ix h0 (wr (q))).bind λe4=>
  (G.z04 (Tm.mk e2.op e2.name e2.sort e2.args) (Tm.mk e4.op e4.name e4.sort e4.args)).bind λr=>
  bif !(decide (r<0))then
   (nx (wr ((wr (q))+1)) j)
  else
   nx i (wr (q))
  )
 else
  k0 i
noncomputable def l15 {R:Type} (G:Gs) (n m:Nat) (m2:Int) (h0:LT) (i j:Int) (k0:Int->Option R):Option R:=aB (λ(v:Int×Int) nx=>b15 G n m2 h0 v.1 v.2 (λy0 y1=>nx (y0,y1)) k0) m (i,j)
noncomputable def b21 {R:Type} (G:Gs) (n:Nat) (i k:Int) (h0:LT) (nx:Int->LT->Option R) (k0:LT->Option R):Option R:=
 bif decide (i<k)then
  (
  (ix h0 (wr (k-1))).bind λe10=>
  (ix h0 k).bind λe12=>
  (ix h0 k).bind λe14=>
  (ix (List.set h0 (Int.toNat k) (Tm.mk e10.op e10.name e10.sort e10.args)) (wr (k-1))).bind λe16=>
  nx (wr (k-1)) (List.set (List.set h0 (Int.toNat k) (Tm.mk e10.op e10.name e10.sort e10.args)) (Int.toNat (wr (k-1))) (Tm.mk e12.op e12.name e12.sort e12.args))
  )
 else
  k0 h0
noncomputable def l21 {R:Type} (G:Gs) (n m:Nat) (i k:Int) (h0:LT) (k0:LT->Option R):Option R:=aB (λ(v:Int×LT) nx=>b21 G n i v.1 v.2 (λy0 y1=>nx (y0,y1)) k0) m (k,h0)
noncomputable def b33 {R:Type} (G:Gs) (n:Nat) (a m2 b mid n1 p:Int) (h0:LT) (start r:Int) (nx:Int->Int->Option R) (k0:Int->Option R):Option R:=
 bif decide (start<r)then
  (
  (bif decide (0<=1)then some (Abs.am .shr .u64 (IntKind.wrap .u64 (wr (start+r))) 1)else none).bind λq=>
  (ix h0 (wr (p-(wr (q))))).bind λe2=>
  (ix h0 (wr (q))).bind λe4=>
  (G.z04 (Tm.mk e2.op e2.name e2.sort e2.args) (Tm.mk e4.op e4.name e4.sort e4.args)).bind λr2=>
  bif !(decide (r2<0))then
   (nx (wr ((wr (q))+1)) r)
  else
   nx start (wr (q))
  )
 else
  k0 start
noncomputable def l33 {R:Type} (G:Gs) (n m:Nat) (a m2 b mid n1 p:Int) (h0:LT) (start r:Int) (k0:Int->Option R):Option R:=aB (λ(v:Int×Int) nx=>b33 G n a m2 b mid n1 p h0 v.1 v.2 (λy0 y1=>nx (y0,y1)) k0) m (start,r)
noncomputable def c43 {R:Type} (G:Gs) (n:Nat) (b mid end1:Int) (h0:LT) (k0:LT->Option R):Option R:=
 bif decide (mid<end1)then
  (
  bif decide (end1<b)then
   (
   (G.z4x h0 mid end1 b).bind λr=>
   k0 r
   )
  else
   k0 h0
  )
 else
  k0 h0
noncomputable def c41 {R:Type} (G:Gs) (n:Nat) (a b mid start end1:Int) (h0:LT) (k0:LT->Option R):Option R:=
 bif decide (a<start)then
  (
  bif decide (start<mid)then
   (
   (G.z4x h0 a start mid).bind λr=>
   c43 G n b mid end1 r
    (λh02=>k0 h02)
   )
  else
   c43 G n b mid end1 h0
    (λh022=>k0 h022)
  )
 else
  c43 G n b mid end1 h0
   (λh023=>k0 h023)
noncomputable def c32 {R:Type} (G:Gs) (n:Nat) (a m2 b mid n1 start r:Int) (h0:LT) (k0:LT->Option R):Option R:=
 l33 G n n a m2 b mid n1 (wr (n1 - 1)) h0 start r
  (fun start2 =>
   bif decide (start2<m2)then
    (
    bif decide (m2<(wr (n1-start2)))then
     (
     (G.z4u h0 start2 m2 (wr (n1-start2))).bind λr2=>
     c41 G n a b mid start2 (wr (n1-start2)) r2
      (λh02=>k0 h02)
     )
    else
     c41 G n a b mid start2 (wr (n1-start2)) h0
      (λh022=>k0 h022)
    )
   else
    c41 G n a b mid start2 (wr (n1-start2)) h0
     (λh023=>k0 h023)
  )
noncomputable def main {R:Type} (G:Gs) (n:Nat) (data:LT) (a m2 b:Int) (K:LT->Option R):Option R:=
 bif decide ((wr (m2 - a)) = 1) then
  (
  l3 G n n a data m2 b
   (fun i2 =>
    l9 G n n i2 a data
     (λh02=>K h02)
   )
  )
 else
  bif decide ((wr (b - m2)) = 1) then
   (
   l15 G n n m2 data a m2
    (fun i22 =>
     l21 G n n i22 m2 data
      (λh022=>K h022)
    )
   )
  else
   (bif decide (0<=1)then some (Abs.am .shr .u64 (IntKind.wrap .u64 (wr (a+b))) 1)else none).bind λq=>
   bif decide ((wr (q))<m2)then
    (
    c32 G n a m2 b (wr (q)) (wr ((wr (q))+m2)) (wr ((wr ((wr (q))+m2))-b)) (wr (q)) data
     (λh023=>K h023)
    )
   else
    c32 G n a m2 b (wr (q)) (wr ((wr (q))+m2)) a m2 data
     (λh024=>K h024)
noncomputable def dl3 (G:Gs) (n m:Nat) (R:Type) (st:St) (K:Kt R):Option R:=match st with
 |⟨[(0,.one (.o 0)),(1,.one (.i a)),(4,.one (.f 117 [])),(10,.one (.i i)),(11,.one (.i j))],[.row (.n 1) 0 h0]⟩=>l3 G n m a h0 i j (λi2=>K (.exit 0) ⟨[(0,.one (.o 0)),(1,.one (.i a)),(10,.one (.i i2))],[.row (.n 1) 0 h0]⟩)
 |_=>none
noncomputable def dl9 (G:Gs) (n m:Nat) (R:Type) (st:St) (K:Kt R):Option R:=match st with
 |⟨[(0,.one (.o 0)),(10,.one (.i i)),(13,.one (.i k))],[.row (.n 1) 0 h0]⟩=>l9 G n m i k h0 (λh02=>K (.exit 2) ⟨[],[.row (.n 1) 0 h02]⟩)
 |_=>none
noncomputable def qG (G:Gs) (n m:Nat) (R:Type) (st:St) (K:Kt R):Option R:=match st with
 |⟨[(0,.one (.o 0)),(2,.one (.i m2)),(4,.one (.f 117 [])),(14,.one (.i i)),(15,.one (.i j))],[.row (.n 1) 0 h0]⟩=>l15 G n m m2 h0 i j (λi2=>K (.exit 4) ⟨[(0,.one (.o 0)),(2,.one (.i m2)),(14,.one (.i i2))],[.row (.n 1) 0 h0]⟩)
 |_=>none
noncomputable def BP (G:Gs) (n m:Nat) (R:Type) (st:St) (K:Kt R):Option R:=match st with
 |⟨[(0,.one (.o 0)),(14,.one (.i i)),(17,.one (.i k))],[.row (.n 1) 0 h0]⟩=>l21 G n m i k h0 (λh02=>K (.exit 6) ⟨[],[.row (.n 1) 0 h02]⟩)
 |_=>none
noncomputable def BZ (G:Gs) (n m:Nat) (R:Type) (st:St) (K:Kt R):Option R:=match st with
 |⟨[(0,.one (.o 0)),(1,.one (.i a)),(2,.one (.i m2)),(3,.one (.i b)),(4,.one (.f 117 [])),(18,.one (.i mid)),(19,.one (.i n1)),(20,.one (.i start)),(21,.one (.i r)),(22,.one (.i p))],[.row (.n 1) 0 h0]⟩=>l33 G n m a m2 b mid n1 p h0 start r (λstart2=>K (.exit 8) ⟨[(0,.one (.o 0)),(1,.one (.i a)),(2,.one (.i m2)),(3,.one (.i b)),(4,.one (.f 117 [])),(18,.one (.i mid)),(19,.one (.i n1)),(20,.one (.i start2))],[.row (.n 1) 0 h0]⟩)
 |_=>none
noncomputable def FL (G:Gs) (n:Nat) (R:Type) (st:St) (K:Kt R):Option R:=match st with
 |⟨[(0,.one (.o 0)),(3,.one (.i b)),(4,.one (.f 117 [])),(18,.one (.i mid)),(24,.one (.i end1))],[.row (.n 1) 0 h0]⟩=>c43 G n b mid end1 h0 (λh02=>K .normal ⟨[],[.row (.n 1) 0 h02]⟩)
 |_=>none
noncomputable def Fs (G:Gs) (n:Nat) (R:Type) (st:St) (K:Kt R):Option R:=match st with
 |⟨[(0,.one (.o 0)),(1,.one (.i a)),(3,.one (.i b)),(4,.one (.f 117 [])),(18,.one (.i mid)),(20,.one (.i start)),(24,.one (.i end1))],[.row (.n 1) 0 h0]⟩=>c41 G n a b mid start end1 h0 (λh02=>K .normal ⟨[],[.row (.n 1) 0 h02]⟩)
 |_=>none
noncomputable def FN (G:Gs) (n:Nat) (R:Type) (st:St) (K:Kt R):Option R:=match st with
 |⟨[(0,.one (.o 0)),(1,.one (.i a)),(2,.one (.i m2)),(3,.one (.i b)),(4,.one (.f 117 [])),(18,.one (.i mid)),(19,.one (.i n1)),(20,.one (.i start)),(21,.one (.i r))],[.row (.n 1) 0 h0]⟩=>c32 G n a m2 b mid n1 start r h0 (λh02=>K .normal ⟨[],[.row (.n 1) 0 h02]⟩)
 |_=>none
noncomputable def pc (G:Gs) (n:Nat):Pcs:=⟨λR id st K=>bif Nat.beq id 3 then dl3 G n n R st K else bif Nat.beq id 9 then dl9 G n n R st K else bif Nat.beq id 15 then qG G n n R st K else bif Nat.beq id 21 then BP G n n R st K else bif Nat.beq id 33 then BZ G n n R st K else none,λR id st K=>bif Nat.beq id 43 then FL G n R st K else bif Nat.beq id 41 then Fs G n R st K else bif Nat.beq id 32 then FN G n R st K else none,nK⟩
noncomputable def an:Ann:=⟨220,1,[(3,[0,1,4,10,11]),(9,[0,10,13]),(15,[0,2,4,14,15]),(21,[0,14,17]),(33,[0,1,2,3,4,18,19,20,21,22])],[(43,[0,3,4,18,24]),(41,[0,1,3,4,18,20,24]),(32,[0,1,2,3,4,18,19,20,21])],[],[(5,⟨[([0,1,2,3,4,5,6,7,8,9,10],[9],[])],[9],[],[0],[]⟩),(11,⟨[([0,1,5,6,7,8,9,10,11,12,13,14,15,2,3,4,16,17],[15,17],[8,9,12,13,14,16])],[15,17],[],[],[]⟩),(17,⟨[([0,1,2,3,4,5,6,7,8,9,10,11],[9],[])],[9],[],[0],[]⟩),(23,⟨[([0,1,5,6,7,8,9,10,11,12,13,14,15,2,3,4,16,17],[15,17],[8,9,12,13,14,16])],[15,17],[],[],[]⟩),(35,⟨[([0,1,2,3,4,5,6,7,8,9,10,11,12,13],[11],[])],[11],[],[0],[]⟩)],[]⟩
noncomputable abbrev bd:=aj Tryz.f149
noncomputable abbrev q3:=ak [0,1,0,1,1,0,0,0] bd
noncomputable abbrev q9:=ak [0,1,0,1,1,1,0,1,0,0] bd
noncomputable abbrev q15:=ak [1,0,1,0,1,1,0,0,0] bd
noncomputable abbrev q21:=ak [1,0,1,0,1,1,1,0,1,0,0] bd
noncomputable abbrev q33:=ak [1,1,1,1,1,1,1,0,0,0] bd
noncomputable abbrev q43:=ak [1,1,1,1,1,1,1,1,1,1,1] bd
noncomputable abbrev q41:=ak [1,1,1,1,1,1,1,1,1,1] bd
noncomputable abbrev q32:=ak [1,1,1,1,1,1] bd
theorem pl3 {G:Gs} (hG:AE (ac G)) (n:Nat):∀m,PO an (.loop q3) (dl3 G n m):=lpc hG (pc G n) [0,1,4,10,11] ⟨[0,1,10],[],[(0,[0,1,10])]⟩ (apl [] trivial) (λR st K=>by unfold dl3;split<;>rfl) λm R st K r h=>by unfold dl3 at h;split at h;exact .trans (by kernel_rfl) h;cases h
theorem pl9 {G:Gs} (hG:AE (ac G)) (n:Nat):∀m,PO an (.loop q9) (dl9 G n m):=lpc hG (pc G n) [0,10,13] ⟨[],[],[(2,[])]⟩ (apl [] trivial) (λR st K=>by unfold dl9;split<;>rfl) λm R st K r h=>by unfold dl9 at h;split at h;exact .trans (by kernel_rfl) h;cases h
theorem EQ {G:Gs} (hG:AE (ac G)) (n:Nat):∀m,PO an (.loop q15) (qG G n m):=lpc hG (pc G n) [0,2,4,14,15] ⟨[0,2,14],[],[(4,[0,2,14])]⟩ (apl [] trivial) (λR st K=>by unfold qG;split<;>rfl) λm R st K r h=>by unfold qG at h;split at h;exact .trans (by kernel_rfl) h;cases h
theorem pl21 {G:Gs} (hG:AE (ac G)) (n:Nat):∀m,PO an (.loop q21) (BP G n m):=lpc hG (pc G n) [0,14,17] ⟨[],[],[(6,[])]⟩ (apl [] trivial) (λR st K=>by unfold BP;split<;>rfl) λm R st K r h=>by unfold BP at h;split at h;exact .trans (by kernel_rfl) h;cases h
theorem pl33 {G:Gs} (hG:AE (ac G)) (n:Nat):∀m,PO an (.loop q33) (BZ G n m):=lpc hG (pc G n) [0,1,2,3,4,18,19,20,21,22] ⟨[0,1,2,3,4,18,19,20],[],[(8,[0,1,2,3,4,18,19,20])]⟩ (apl [] trivial) (λR st K=>by unfold BZ;split<;>rfl) λm R st K r h=>by unfold BZ at h;split at h;exact .trans (by kernel_rfl) h;cases h
theorem pc43 {G:Gs} (hG:AE (ac G)) {n:Nat}:PO an q43 (FL G n):=cpc hG (pc G n) ⟨[],[],[]⟩ (apl [] trivial) λR st K r h=>by unfold FL at h;split at h;exact .trans (by kernel_rfl) h;cases h
theorem pc41 {G:Gs} (hG:AE (ac G)) {n:Nat}:PO an q41 (Fs G n):=cpc hG (pc G n) ⟨[],[],[]⟩ (apl [(0,43,q43)] ⟨pc43 hG,trivial⟩) λR st K r h=>by unfold Fs at h;split at h;exact .trans (by kernel_rfl) h;cases h
theorem pc32 {G:Gs} (hG:AE (ac G)) {n:Nat}:PO an q32 (FN G n):=cpc hG (pc G n) ⟨[],[],[]⟩ (apl [(1,33,.loop q33),(0,41,q41)] ⟨pl33 hG n n,⟨pc41 hG,trivial⟩⟩) λR st K r h=>by unfold FN at h;split at h;exact .trans (by kernel_rfl) h;cases h
noncomputable def Does (G:Gs) (data:LT) (a m2 b:Int) (r:LT):Prop:=∃n,main (R:=AT×List Ob) G n data a m2 b (λr0=>some (.tup [],[.row (.n 1) 0 r0]))=some (.tup [],[.row (.n 1) 0 r])
theorem ok {G:Gs} (hG:AE (ac G)) {g:Q} (hg:∀data a m2 b r,g data a m2 b=some r->Does G data a m2 b r):EO (ent g):=λR xs H K r hc=>by
 simp only[ent]at hc;split at hc
 ·exact okL hc λr j=>let⟨n,j⟩:=hg _ _ _ _ _ j;fF hG an (pc G n) Tryz.func149 j (apl [(1,3,.loop q3),(1,9,.loop q9),(1,15,.loop q15),(1,21,.loop q21),(0,32,q32)] ⟨pl3 hG n n,⟨pl9 hG n n,⟨EQ hG n n,⟨pl21 hG n n,⟨pc32 hG,trivial⟩⟩⟩⟩⟩)
 ·cases hc
end z4x
namespace z4t
structure Gs where
 z04:z04.Q
noncomputable def ac (G:Gs):List Ent:=[z04.ent G.z04]
noncomputable def c6 {R:Type} (G:Gs) (n:Nat) (a b i j:Int) (h0:LT) (k0:Int->LT->Option R):Option R:=
 (ix h0 (wr (j-1))).bind λe10=>
 (ix h0 j).bind λe12=>
 (ix h0 j).bind λe14=>
 (ix (List.set h0 (Int.toNat j) (Tm.mk e10.op e10.name e10.sort e10.args)) (wr (j-1))).bind λe16=>
 k0 (wr (j-1)) (List.set (List.set h0 (Int.toNat j) (Tm.mk e10.op e10.name e10.sort e10.args)) (Int.toNat (wr (j-1))) (Tm.mk e12.op e12.name e12.sort e12.args))
noncomputable def b4 {R:Type} (G:Gs) (n:Nat) (a b i j:Int) (h0:LT) (nx:Int->LT->Option R) (k0:LT->Option R):Option R:=
 bif decide (a<j)then
  (
  (ix h0 j).bind λe6=>
  (ix h0 (wr (j-1))).bind λe8=>
  (G.z04 (Tm.mk e6.op e6.name e6.sort e6.args) (Tm.mk e8.op e8.name e8.sort e8.args)).bind λr2=>
  bif decide (r2<0)then
   (
   c6 G n a b i j h0
    (λj22 h022=>nx j22 h022)
   )
  else
   k0 h0
  )
 else
  k0 h0
noncomputable def l4 {R:Type} (G:Gs) (n m:Nat) (a b i j:Int) (h0:LT) (k0:LT->Option R):Option R:=aB (λ(v:Int×LT) nx=>b4 G n a b i v.1 v.2 (λy0 y1=>nx (y0,y1)) k0) m (j,h0)
noncomputable def b1 {R:Type} (G:Gs) (n:Nat) (a b i:Int) (h0:LT) (nx:Int->LT->Option R) (k0:LT->Option R):Option R:=
 bif decide (i<b)then
  (
  l4 G n n a b i i h0
   (λh02=>nx (wr (i+1)) h02)
  )
 else
  k0 h0
noncomputable def l1 {R:Type} (G:Gs) (n m:Nat) (a b i:Int) (h0:LT) (k0:LT->Option R):Option R:=aB (λ(v:Int×LT) nx=>b1 G n a b v.1 v.2 (λy0 y1=>nx (y0,y1)) k0) m (i,h0)
noncomputable def main {R:Type} (G:Gs) (n:Nat) (data:LT) (a b:Int) (K:LT->Option R):Option R:=
 l1 G n n a b (wr (a+1)) data
  (λh02=>K h02)
noncomputable def dc6 (G:Gs) (n:Nat) (R:Type) (st:St) (K:Kt R):Option R:=match st with
 |⟨[(0,.one (.o 0)),(1,.one (.i a)),(2,.one (.i b)),(3,.one (.f 117 [])),(8,.one (.i i)),(9,.one (.i j))],[.row (.n 1) 0 h0]⟩=>c6 G n a b i j h0 (λj2 h02=>K .normal ⟨[(0,.one (.o 0)),(1,.one (.i a)),(2,.one (.i b)),(3,.one (.f 117 [])),(8,.one (.i i)),(9,.one (.i j2))],[.row (.n 1) 0 h02]⟩)
 |_=>none
noncomputable def dl4 (G:Gs) (n m:Nat) (R:Type) (st:St) (K:Kt R):Option R:=match st with
 |⟨[(0,.one (.o 0)),(1,.one (.i a)),(2,.one (.i b)),(3,.one (.f 117 [])),(8,.one (.i i)),(9,.one (.i j))],[.row (.n 1) 0 h0]⟩=>l4 G n m a b i j h0 (λh02=>K (.exit 2) ⟨[(0,.one (.o 0)),(1,.one (.i a)),(2,.one (.i b)),(3,.one (.f 117 [])),(8,.one (.i i))],[.row (.n 1) 0 h02]⟩)
 |_=>none
noncomputable def dl1 (G:Gs) (n m:Nat) (R:Type) (st:St) (K:Kt R):Option R:=match st with
 |⟨[(0,.one (.o 0)),(1,.one (.i a)),(2,.one (.i b)),(3,.one (.f 117 [])),(8,.one (.i i))],[.row (.n 1) 0 h0]⟩=>l1 G n m a b i h0 (λh02=>K (.exit 0) ⟨[],[.row (.n 1) 0 h02]⟩)
 |_=>none
noncomputable def pc (G:Gs) (n:Nat):Pcs:=⟨λR id st K=>bif Nat.beq id 4 then dl4 G n n R st K else bif Nat.beq id 1 then dl1 G n n R st K else none,λR id st K=>bif Nat.beq id 6 then dc6 G n R st K else none,nK⟩
noncomputable def an:Ann:=⟨53,1,[(4,[0,1,2,3,8,9]),(1,[0,1,2,3,8])],[(6,[0,1,2,3,8,9])],[],[(4,⟨[([0,1,2,3,4,5,6,7,8,9,10,11,12,13,14,15,16],[14],[7,8,12,13])],[14],[],[],[]⟩),(6,⟨[([0,1,5,6,7,8,9,10,11,12,13,14,15,2,3,4,16,17],[15,17],[8,9,12,13,14,16])],[15,17],[],[],[]⟩)],[]⟩
noncomputable abbrev bd:=aj Tryz.f148
noncomputable abbrev q6:=ak [1,0,0,1,0,0,1,0,0,1] bd
noncomputable abbrev q4:=ak [1,0,0,1,0,0,1,0,0] bd
noncomputable abbrev q1:=ak [1,0,0] bd
theorem pc6 {G:Gs} (hG:AE (ac G)) {n:Nat}:PO an q6 (dc6 G n):=cpc hG (pc G n) ⟨[0,1,2,3,8,9],[],[(0,[]),(1,[0,1,2,3,8]),(2,[0,1,2,3,8])]⟩ (apl [] trivial) λR st K r h=>by unfold dc6 at h;split at h;exact .trans (by kernel_rfl) h;cases h
theorem pl4 {G:Gs} (hG:AE (ac G)) (n:Nat):∀m,PO an (.loop q4) (dl4 G n m):=lpc hG (pc G n) [0,1,2,3,8,9] ⟨[0,1,2,3,8],[],[(0,[]),(1,[0,1,2,3,8]),(2,[0,1,2,3,8])]⟩ (apl [(0,6,q6)] ⟨pc6 hG,trivial⟩) (λR st K=>by unfold dl4;split<;>rfl) λm R st K r h=>by unfold dl4 at h;split at h;exact .trans (by kernel_rfl) h;cases h
theorem pl1 {G:Gs} (hG:AE (ac G)) (n:Nat):∀m,PO an (.loop q1) (dl1 G n m):=lpc hG (pc G n) [0,1,2,3,8] ⟨[],[],[(0,[])]⟩ (apl [(1,4,.loop q4)] ⟨pl4 hG n n,trivial⟩) (λR st K=>by unfold dl1;split<;>rfl) λm R st K r h=>by unfold dl1 at h;split at h;exact .trans (by kernel_rfl) h;cases h
noncomputable def Does (G:Gs) (data:LT) (a b:Int) (r:LT):Prop:=∃n,main (R:=AT×List Ob) G n data a b (λr0=>some (.tup [],[.row (.n 1) 0 r0]))=some (.tup [],[.row (.n 1) 0 r])
theorem ok {G:Gs} (hG:AE (ac G)) {g:Q} (hg:∀data a b r,g data a b=some r->Does G data a b r):EO (ent g):=λR xs H K r hc=>by
 simp only[ent]at hc;split at hc
 ·exact okL hc λr j=>let⟨n,j⟩:=hg _ _ _ _ j;fF hG an (pc G n) Tryz.func148 j (apl [(1,1,.loop q1)] ⟨pl1 hG n n,trivial⟩)
 ·cases hc
end z4t
namespace z4v
structure Gs where
 z4t:z4t.Q
 z4x:z4x.Q
noncomputable def ac (G:Gs):List Ent:=[z4t.ent G.z4t,z4x.ent G.z4x]
noncomputable def b2 {R:Type} (G:Gs) (n:Nat) (n1 blockSize a b:Int) (h0:LT) (nx:Int->Int->LT->Option R) (k0:Int->LT->Option R):Option R:=
 bif decide (b<=n1)then
  (
  (G.z4t h0 a b).bind λr=>
  nx b (wr (b+blockSize)) r
  )
 else
  k0 a h0
noncomputable def l2 {R:Type} (G:Gs) (n m:Nat) (n1 blockSize a b:Int) (h0:LT) (k0:Int->LT->Option R):Option R:=aB (λ(v:Int×Int×LT) nx=>b2 G n n1 blockSize v.1 v.2.1 v.2.2 (λy0 y1 y2=>nx (y0,y1,y2)) k0) m (a,b,h0)
noncomputable def b9 {R:Type} (G:Gs) (n:Nat) (n1 blockSize a b:Int) (h0:LT) (nx:Int->Int->LT->Option R) (k0:Int->LT->Option R):Option R:=
 bif decide (b<=n1)then
  (
  (G.z4x h0 a (wr (a+blockSize)) b).bind λr=>
  nx b (wr (b+(wr (2*blockSize)))) r
  )
 else
  k0 a h0
noncomputable def l9 {R:Type} (G:Gs) (n m:Nat) (n1 blockSize a b:Int) (h0:LT) (k0:Int->LT->Option R):Option R:=aB (λ(v:Int×Int×LT) nx=>b9 G n n1 blockSize v.1 v.2.1 v.2.2 (λy0 y1 y2=>nx (y0,y1,y2)) k0) m (a,b,h0)
noncomputable def b7 {R:Type} (G:Gs) (n:Nat) (n1 blockSize:Int) (h0:LT) (nx:Int->LT->Option R) (k0:LT->Option R):Option R:=
 bif decide (blockSize < n1) then
  (
  l9 G n n n1 blockSize 0 (wr (2 * blockSize)) h0
   (fun a2 h02 =>
    bif decide ((wr (a2+blockSize))<n1)then
     (
     (G.z4x h02 a2 (wr (a2+blockSize)) n1).bind λr=>
     nx (wr (blockSize*2)) r
     )
    else
     nx (wr (blockSize*2)) h02
   )
  )
 else
  k0 h0
noncomputable def l7 {R:Type} (G:Gs) (n m:Nat) (n1 blockSize:Int) (h0:LT) (k0:LT->Option R):Option R:=aB (λ(v:Int×LT) nx=>b7 G n n1 v.1 v.2 (λy0 y1=>nx (y0,y1)) k0) m (blockSize,h0)
noncomputable def main {R:Type} (G:Gs) (n:Nat) (data:LT) (n1:Int) (K:LT->Option R):Option R:=
 l2 G n n n1 20 0 20 data
  (fun a2 h02 =>
   (G.z4t h02 a2 n1).bind λr=>
   l7 G n n n1 20 r
    (λh022=>K h022)
  )
noncomputable def dl2 (G:Gs) (n m:Nat) (R:Type) (st:St) (K:Kt R):Option R:=match st with
 |⟨[(0,.one (.o 0)),(1,.one (.i n1)),(2,.one (.f 117 [])),(6,.one (.i blockSize)),(7,.one (.i a)),(8,.one (.i b))],[.row (.n 1) 0 h0]⟩=>l2 G n m n1 blockSize a b h0 (λa2 h02=>K (.exit 0) ⟨[(0,.one (.o 0)),(1,.one (.i n1)),(2,.one (.f 117 [])),(6,.one (.i blockSize)),(7,.one (.i a2))],[.row (.n 1) 0 h02]⟩)
 |_=>none
noncomputable def dl9 (G:Gs) (n m:Nat) (R:Type) (st:St) (K:Kt R):Option R:=match st with
 |⟨[(0,.one (.o 0)),(1,.one (.i n1)),(2,.one (.f 117 [])),(6,.one (.i blockSize)),(7,.one (.i a)),(8,.one (.i b))],[.row (.n 1) 0 h0]⟩=>l9 G n m n1 blockSize a b h0 (λa2 h02=>K (.exit 4) ⟨[(0,.one (.o 0)),(1,.one (.i n1)),(2,.one (.f 117 [])),(6,.one (.i blockSize)),(7,.one (.i a2))],[.row (.n 1) 0 h02]⟩)
 |_=>none
noncomputable def dl7 (G:Gs) (n m:Nat) (R:Type) (st:St) (K:Kt R):Option R:=match st with
 |⟨[(0,.one (.o 0)),(1,.one (.i n1)),(2,.one (.f 117 [])),(6,.one (.i blockSize))],[.row (.n 1) 0 h0]⟩=>l7 G n m n1 blockSize h0 (λh02=>K (.exit 2) ⟨[],[.row (.n 1) 0 h02]⟩)
 |_=>none
noncomputable def pc (G:Gs) (n:Nat):Pcs:=⟨λR id st K=>bif Nat.beq id 2 then dl2 G n n R st K else bif Nat.beq id 9 then dl9 G n n R st K else bif Nat.beq id 7 then dl7 G n n R st K else none,nK,nK⟩
noncomputable def an:Ann:=⟨63,1,[(2,[0,1,2,6,7,8]),(9,[0,1,2,6,7,8]),(7,[0,1,2,6])],[],[],[],[]⟩
noncomputable abbrev bd:=aj Tryz.f135
noncomputable abbrev q2:=ak [1,1,0,0,0] bd
noncomputable abbrev q9:=ak [1,1,1,1,0,0,1,0,1,0,0,0] bd
noncomputable abbrev q7:=ak [1,1,1,1,0,0] bd
theorem pl2 {G:Gs} (hG:AE (ac G)) (n:Nat):∀m,PO an (.loop q2) (dl2 G n m):=lpc hG (pc G n) [0,1,2,6,7,8] ⟨[0,1,2,6,7],[],[(0,[0,1,2,6,7])]⟩ (apl [] trivial) (λR st K=>by unfold dl2;split<;>rfl) λm R st K r h=>by unfold dl2 at h;split at h;exact .trans (by kernel_rfl) h;cases h
theorem pl9 {G:Gs} (hG:AE (ac G)) (n:Nat):∀m,PO an (.loop q9) (dl9 G n m):=lpc hG (pc G n) [0,1,2,6,7,8] ⟨[0,1,2,6,7],[],[(2,[]),(3,[0,1,2,6]),(4,[0,1,2,6,7])]⟩ (apl [] trivial) (λR st K=>by unfold dl9;split<;>rfl) λm R st K r h=>by unfold dl9 at h;split at h;exact .trans (by kernel_rfl) h;cases h
theorem pl7 {G:Gs} (hG:AE (ac G)) (n:Nat):∀m,PO an (.loop q7) (dl7 G n m):=lpc hG (pc G n) [0,1,2,6] ⟨[],[],[(2,[])]⟩ (apl [(1,9,.loop q9)] ⟨pl9 hG n n,trivial⟩) (λR st K=>by unfold dl7;split<;>rfl) λm R st K r h=>by unfold dl7 at h;split at h;exact .trans (by kernel_rfl) h;cases h
noncomputable def Does (G:Gs) (data:LT) (n1:Int) (r:LT):Prop:=∃n,main (R:=AT×List Ob) G n data n1 (λr0=>some (.tup [],[.row (.n 1) 0 r0]))=some (.tup [],[.row (.n 1) 0 r])
theorem ok {G:Gs} (hG:AE (ac G)) {g:Q} (hg:∀data n1 r,g data n1=some r->Does G data n1 r):EO (ent g):=λR xs H K r hc=>by
 simp only[ent]at hc;split at hc
 ·exact okL hc λr j=>let⟨n,j⟩:=hg _ _ _ j;fF hG an (pc G n) Tryz.func135 j (apl [(1,2,.loop q2),(1,7,.loop q7)] ⟨pl2 hG n n,⟨pl7 hG n n,trivial⟩⟩)
 ·cases hc
end z4v
namespace z4s
structure Gs where
 z4v:z4v.Q
noncomputable def main {R:Type} (G:Gs) (n:Nat) (x:LT) (K:LT->Option R):Option R:=
 (G.z4v x (List.length x:Int)).bind λr=>
 K r
noncomputable def Does (G:Gs) (x r:LT):Prop:=∃n,main (R:=AT×List Ob) G n x (λr0=>some (.tup [],[.row (.n 1) 0 r0]))=some (.tup [],[.row (.n 1) 0 r])
theorem ok {G:Gs} (hG:AE [z4v.ent G.z4v]) {g:Q} (hg:∀x r,g x=some r->Does G x r):EO (ent g):=λR xs H K r hc=>by
 simp only[ent]at hc;split at hc
 ·exact okL hc λr j=>let⟨_,j⟩:=hg _ _ j;fF hG ⟨9,1,[],[],[],[],[]⟩ nP Tryz.func116 j
 ·cases hc
end z4s
namespace z0k
structure Gs where
 z0p:z0p.Q
 z0j:z0j.Q
 z0n:z0n.Q
 z0q:z0q.Q
 z4s:z4s.Q
 z0h:z0h.Q
 z06:z06.Q
noncomputable def ac (G:Gs):List Ent:=[z0p.ent G.z0p,z0j.ent G.z0j,z0n.ent G.z0n,z0q.ent G.z0q,z4s.ent G.z4s,z0h.ent G.z0h,z06.ent G.z06]
noncomputable def c12 {R:Type} (G:Gs) (n:Nat) (xc xd xe:LI) (xa:LB) (xb:LS) (xg:LO) (op:Int) (t46:LT) (t47 t48:Int) (h1:LM) (h2:Int) (h22:ByteArray) (h23:Int) (h3:LT) (h4:ByteArray) (h42:LD) (h43 h44:Bool) (h45:Int) (h5:LT) (h6:Int) (h62:ByteArray) (h63:Int) (h64:LT) (k0:LM->LT->Option R):Option R:=
 (G.z0n xc xd xe xa xb xg h1 op (Tm.mk h6 h62 h63 h64)).bind λr=>
 bif !r.1 then
  (
  (lim (h5++[(Tm.mk h6 h62 h63 h64)])).bind λzs=>
  k0 r.2 zs
  )
 else
  k0 r.2 h5
noncomputable def b6 {R:Type} (G:Gs) (n:Nat) (xc xd xe:LI) (xa:LB) (xb:LS) (xg:LO) (op:Int) (t46:LT) (t47 h2:Int) (h22:ByteArray) (h23:Int) (h3:LT) (h4:ByteArray) (h42:LD) (h43 h44:Bool) (h45 t48:Int) (h1:LM) (h5:LT) (nx:Int->LM->LT->Option R) (k0:Bool->LM->Int->ByteArray->Int->LT->Option R) (k1:LM->LT->Option R):Option R:=
 bif decide (t48 < t47) then
  (
  (ix t46 t48).bind λe=>
  (G.z0p xc xd xe xa xb xg h1 (Tm.mk e.op e.name e.sort e.args)).bind λr=>
  (G.z0j xc xd xe xa xb xg r.2 op t48).bind λr2=>
  bif !decide (r.1=r2.1)then
   (k0 false r2.2 0 ByteArray.empty 0 [])
  else
   bif h43 then
    (
    bif decide (e.op=op)then
     (
     (lim (h5++e.args)).bind λzs=>
     nx (wr (t48+1)) r2.2 zs
     )
    else
     c12 G n xc xd xe xa xb xg op t46 t47 t48 r2.2 h2 h22 h23 h3 h4 h42 h43 h44 h45 h5 e.op e.name e.sort e.args
      (λh12 h52=>nx (wr (t48+1)) h12 h52)
    )
   else
    c12 G n xc xd xe xa xb xg op t46 t47 t48 r2.2 h2 h22 h23 h3 h4 h42 h43 h44 h45 h5 e.op e.name e.sort e.args
     (λh122 h522=>nx (wr (t48+1)) h122 h522)
  )
 else
  k1 h1 h5
noncomputable def l6 {R:Type} (G:Gs) (n m:Nat) (xc xd xe:LI) (xa:LB) (xb:LS) (xg:LO) (op:Int) (t46:LT) (t47 h2:Int) (h22:ByteArray) (h23:Int) (h3:LT) (h4:ByteArray) (h42:LD) (h43 h44:Bool) (h45 t48:Int) (h1:LM) (h5:LT) (k0:Bool->LM->Int->ByteArray->Int->LT->Option R) (k1:LM->LT->Option R):Option R:=aB (λ(v:Int×LM×LT) nx=>b6 G n xc xd xe xa xb xg op t46 t47 h2 h22 h23 h3 h4 h42 h43 h44 h45 v.1 v.2.1 v.2.2 (λy0 y1 y2=>nx (y0,y1,y2)) k0 k1) m (t48,h1,h5)
noncomputable def c21 {R:Type} (G:Gs) (n:Nat) (xc xd xe:LI) (xa:LB) (xb:LS) (xg:LO) (op:Int) (h1:LM) (h2:Int) (h22:ByteArray) (h23:Int) (h3:LT) (h4:ByteArray) (h42:LD) (h43 h44:Bool) (h45:Int) (h5:LT) (k0:Bool->Int->ByteArray->Int->LT->Option R):Option R:=
 bif h43 then
  (
  bif decide (7<(List.length h5:Int))then
   (k0 false 0 ByteArray.empty 0 [])
  else
   (G.z0h (Tm.mk op ByteArray.empty 0 h5)).bind λr=>
   bif decide (60<r)then
    (k0 false 0 ByteArray.empty 0 [])
   else
    (G.z06 (Tm.mk op ByteArray.empty 0 h5)).bind λr2=>
    bif decide (20<r2)then
     (k0 false 0 ByteArray.empty 0 [])
    else
     k0 true op ByteArray.empty 0 h5
  )
 else
  (G.z0h (Tm.mk op ByteArray.empty 0 h5)).bind λr3=>
  bif decide (60<r3)then
   (k0 false 0 ByteArray.empty 0 [])
  else
   (G.z06 (Tm.mk op ByteArray.empty 0 h5)).bind λr4=>
   bif decide (20<r4)then
    (k0 false 0 ByteArray.empty 0 [])
   else
    k0 true op ByteArray.empty 0 h5
noncomputable def c19 {R:Type} (G:Gs) (n:Nat) (xc xd xe:LI) (xa:LB) (xb:LS) (xg:LO) (op:Int) (h1:LM) (h2:Int) (h22:ByteArray) (h23:Int) (h3:LT) (h4:ByteArray) (h42:LD) (h43 h44:Bool) (h45:Int) (h5:LT) (k0:Bool->Int->ByteArray->Int->LT->Option R):Option R:=
 bif h44 then
  (
  (G.z4s h5).bind λr=>
  c21 G n xc xd xe xa xb xg op h1 h2 h22 h23 h3 h4 h42 h43 h44 h45 r
   (λt7 h24 h25 h26 h27=>k0 t7 h24 h25 h26 h27)
  )
 else
  c21 G n xc xd xe xa xb xg op h1 h2 h22 h23 h3 h4 h42 h43 h44 h45 h5
   (λt72 h242 h252 h262 h272=>k0 t72 h242 h252 h262 h272)
noncomputable def c4 {R:Type} (G:Gs) (n:Nat) (xc xd xe:LI) (xa:LB) (xb:LS) (xg:LO) (op:Int) (args:LT) (h1:LM) (h2:Int) (h22:ByteArray) (h23:Int) (h3:LT) (h4:ByteArray) (h42:LD) (h43 h44:Bool) (h45:Int) (k0:Bool->LM->Int->ByteArray->Int->LT->Option R):Option R:=
 l6 G n n xc xd xe xa xb xg op args (List.length args : Int) h2 h22 h23 h3 h4 h42 h43 h44 h45 0 h1 []
  (λt7 h12 h24 h25 h26 h27=>k0 t7 h12 h24 h25 h26 h27)
  (fun h122 h52 =>
   bif !decide (h45=0)then
    (
    bif decide ((List.length h52:Int)<2)then
     (
     bif decide ((List.length h52:Int)=1)then
      (
      (ix h52 0).bind λe=>
      k0 true h122 e.op e.name e.sort e.args
      )
     else
      (G.z0q xc xd xe xa xb xg h122 op).bind λr=>
      k0 true r.2 r.1.op r.1.name r.1.sort r.1.args
     )
    else
     c19 G n xc xd xe xa xb xg op h122 h2 h22 h23 h3 h4 h42 h43 h44 h45 h52
      (λt72 h242 h252 h262 h272=>k0 t72 h122 h242 h252 h262 h272)
    )
   else
    c19 G n xc xd xe xa xb xg op h122 h2 h22 h23 h3 h4 h42 h43 h44 h45 h52
     (λt73 h243 h253 h263 h273=>k0 t73 h122 h243 h253 h263 h273)
  )
noncomputable def main {R:Type} (G:Gs) (n:Nat) (xc xd xe:LI) (xa:LB) (xb:LS) (xg:LO) (xf:LM) (op:Int) (args:LT) (K:Tm->Bool->LM->Option R):Option R:=
 (ix xg op).bind λe=>
 bif e.assoc then
  (
  bif decide ((List.length args:Int)<2)then
   (K (Tm.mk 0 ByteArray.empty 0 []) false xf)
  else
   bif !e.assoc then
    (
    (ix e.decls 0).bind λe2=>
    bif !decide ((List.length args:Int)=(List.length e2.args:Int))then
     (K (Tm.mk 0 ByteArray.empty 0 []) false xf)
    else
     c4 G n xc xd xe xa xb xg op args xf 0 ByteArray.empty 0 [] e.name e.decls e.assoc e.comm e.unit
      (λt7 h12 h24 h25 h26 h27=>K (Tm.mk h24 h25 h26 h27) t7 h12)
    )
   else
    c4 G n xc xd xe xa xb xg op args xf 0 ByteArray.empty 0 [] e.name e.decls e.assoc e.comm e.unit
     (λt72 h122 h242 h252 h262 h272=>K (Tm.mk h242 h252 h262 h272) t72 h122)
  )
 else
  bif !e.assoc then
   (
   (ix e.decls 0).bind λe3=>
   bif !decide ((List.length args:Int)=(List.length e3.args:Int))then
    (K (Tm.mk 0 ByteArray.empty 0 []) false xf)
   else
    c4 G n xc xd xe xa xb xg op args xf 0 ByteArray.empty 0 [] e.name e.decls e.assoc e.comm e.unit
     (λt73 h123 h243 h253 h263 h273=>K (Tm.mk h243 h253 h263 h273) t73 h123)
   )
  else
   c4 G n xc xd xe xa xb xg op args xf 0 ByteArray.empty 0 [] e.name e.decls e.assoc e.comm e.unit
    (λt74 h124 h244 h254 h264 h274=>K (Tm.mk h244 h254 h264 h274) t74 h124)
noncomputable def Ep (G:Gs) (n:Nat) (R:Type) (st:St) (K:Kt R):Option R:=match st with
 |⟨[(0,.one (.p 0 0)),(1,.one (.i op)),(6,.one (.p 2 0)),(8,.one (.p 4 0)),(9,.one (.o 5)),(11,.one (.p 6 0)),(46,.one (.l (.n 1) t46)),(47,.one (.i t47)),(48,.one (.i t48))],[.box [.l .i xc,.l .i xd,.l .i xe,.l .s xa,.l (.n 5) xb,.l (.n 8) xg,.m 1],.map .i h1,.box [.i h2,.s h22,.i h23,.o 3],.row (.n 1) 0 h3,.box [.s h4,.l (.n 7) h42,.b h43,.b h44,.i h45],.row (.n 1) 0 h5,.box [.i h6,.s h62,.i h63,.l (.n 1) h64]]⟩=>c12 G n xc xd xe xa xb xg op t46 t47 t48 h1 h2 h22 h23 h3 h4 h42 h43 h44 h45 h5 h6 h62 h63 h64 (λh12 h52=>K .normal ⟨[(0,.one (.p 0 0)),(1,.one (.i op)),(6,.one (.p 2 0)),(8,.one (.p 4 0)),(9,.one (.o 5)),(46,.one (.l (.n 1) t46)),(47,.one (.i t47)),(48,.one (.i t48))],[.box [.l .i xc,.l .i xd,.l .i xe,.l .s xa,.l (.n 5) xb,.l (.n 8) xg,.m 1],.map .i h12,.box [.i h2,.s h22,.i h23,.o 3],.row (.n 1) 0 h3,.box [.s h4,.l (.n 7) h42,.b h43,.b h44,.i h45],.row (.n 1) 0 h52]⟩)
 |_=>none
noncomputable def dl6 (G:Gs) (n m:Nat) (R:Type) (st:St) (K:Kt R):Option R:=match st with
 |⟨[(0,.one (.p 0 0)),(1,.one (.i op)),(6,.one (.p 2 0)),(8,.one (.p 4 0)),(9,.one (.o 5)),(46,.one (.l (.n 1) t46)),(47,.one (.i t47)),(48,.one (.i t48))],[.box [.l .i xc,.l .i xd,.l .i xe,.l .s xa,.l (.n 5) xb,.l (.n 8) xg,.m 1],.map .i h1,.box [.i h2,.s h22,.i h23,.o 3],.row (.n 1) 0 h3,.box [.s h4,.l (.n 7) h42,.b h43,.b h44,.i h45],.row (.n 1) 0 h5]⟩=>l6 G n m xc xd xe xa xb xg op t46 t47 h2 h22 h23 h3 h4 h42 h43 h44 h45 t48 h1 h5 (λt7 h12 h24 h25 h26 h27=>K .ret ⟨[(6,.one (.p 2 0)),(7,.one (.b t7))],[.box [.l .i xc,.l .i xd,.l .i xe,.l .s xa,.l (.n 5) xb,.l (.n 8) xg,.m 1],.map .i h12,.box [.i h24,.s h25,.i h26,.l (.n 1) h27]]⟩) (λh12 h52=>K (.exit 0) ⟨[(0,.one (.p 0 0)),(1,.one (.i op)),(6,.one (.p 2 0)),(8,.one (.p 4 0)),(9,.one (.o 5))],[.box [.l .i xc,.l .i xd,.l .i xe,.l .s xa,.l (.n 5) xb,.l (.n 8) xg,.m 1],.map .i h12,.box [.i h2,.s h22,.i h23,.o 3],.row (.n 1) 0 h3,.box [.s h4,.l (.n 7) h42,.b h43,.b h44,.i h45],.row (.n 1) 0 h52]⟩)
 |_=>none
noncomputable def gQ (G:Gs) (n:Nat) (R:Type) (st:St) (K:Kt R):Option R:=match st with
 |⟨[(1,.one (.i op)),(6,.one (.p 2 0)),(8,.one (.p 4 0)),(9,.one (.o 5))],[.box [.l .i xc,.l .i xd,.l .i xe,.l .s xa,.l (.n 5) xb,.l (.n 8) xg,.m 1],.map .i h1,.box [.i h2,.s h22,.i h23,.o 3],.row (.n 1) 0 h3,.box [.s h4,.l (.n 7) h42,.b h43,.b h44,.i h45],.row (.n 1) 0 h5]⟩=>c21 G n xc xd xe xa xb xg op h1 h2 h22 h23 h3 h4 h42 h43 h44 h45 h5 (λt7 h24 h25 h26 h27=>K .ret ⟨[(6,.one (.p 2 0)),(7,.one (.b t7))],[.box [.l .i xc,.l .i xd,.l .i xe,.l .s xa,.l (.n 5) xb,.l (.n 8) xg,.m 1],.map .i h1,.box [.i h24,.s h25,.i h26,.l (.n 1) h27]]⟩)
 |_=>none
noncomputable def tP (G:Gs) (n:Nat) (R:Type) (st:St) (K:Kt R):Option R:=match st with
 |⟨[(1,.one (.i op)),(6,.one (.p 2 0)),(8,.one (.p 4 0)),(9,.one (.o 5))],[.box [.l .i xc,.l .i xd,.l .i xe,.l .s xa,.l (.n 5) xb,.l (.n 8) xg,.m 1],.map .i h1,.box [.i h2,.s h22,.i h23,.o 3],.row (.n 1) 0 h3,.box [.s h4,.l (.n 7) h42,.b h43,.b h44,.i h45],.row (.n 1) 0 h5]⟩=>c19 G n xc xd xe xa xb xg op h1 h2 h22 h23 h3 h4 h42 h43 h44 h45 h5 (λt7 h24 h25 h26 h27=>K .ret ⟨[(6,.one (.p 2 0)),(7,.one (.b t7))],[.box [.l .i xc,.l .i xd,.l .i xe,.l .s xa,.l (.n 5) xb,.l (.n 8) xg,.m 1],.map .i h1,.box [.i h24,.s h25,.i h26,.l (.n 1) h27]]⟩)
 |_=>none
noncomputable def dc4 (G:Gs) (n:Nat) (R:Type) (st:St) (K:Kt R):Option R:=match st with
 |⟨[(0,.one (.p 0 0)),(1,.one (.i op)),(2,.one (.l (.n 1) args)),(6,.one (.p 2 0)),(8,.one (.p 4 0))],[.box [.l .i xc,.l .i xd,.l .i xe,.l .s xa,.l (.n 5) xb,.l (.n 8) xg,.m 1],.map .i h1,.box [.i h2,.s h22,.i h23,.o 3],.row (.n 1) 0 h3,.box [.s h4,.l (.n 7) h42,.b h43,.b h44,.i h45]]⟩=>c4 G n xc xd xe xa xb xg op args h1 h2 h22 h23 h3 h4 h42 h43 h44 h45 (λt7 h12 h24 h25 h26 h27=>K .ret ⟨[(6,.one (.p 2 0)),(7,.one (.b t7))],[.box [.l .i xc,.l .i xd,.l .i xe,.l .s xa,.l (.n 5) xb,.l (.n 8) xg,.m 1],.map .i h12,.box [.i h24,.s h25,.i h26,.l (.n 1) h27]]⟩)
 |_=>none
noncomputable def pc (G:Gs) (n:Nat):Pcs:=⟨λR id st K=>bif Nat.beq id 6 then dl6 G n n R st K else none,λR id st K=>bif Nat.beq id 12 then Ep G n R st K else bif Nat.beq id 21 then gQ G n R st K else bif Nat.beq id 19 then tP G n R st K else bif Nat.beq id 4 then dc4 G n R st K else none,nK⟩
noncomputable def an:Ann:=⟨129,2,[(6,[0,1,6,8,9,46,47,48])],[(12,[0,1,6,8,9,11,46,47,48]),(21,[1,6,8,9]),(19,[1,6,8,9]),(4,[0,1,2,6,8])],[6,7],[],[44,61,108,127]⟩
noncomputable abbrev bd:=aj Tryz.f67
noncomputable abbrev q12:=ak [1,1,1,1,0,1,0,0,1,1,0,0,1,1,0,1,1] bd
noncomputable abbrev q6:=ak [1,1,1,1,0,1,0,0] bd
noncomputable abbrev q21:=ak [1,1,1,1,1,1,1] bd
noncomputable abbrev q19:=ak [1,1,1,1,1,1] bd
noncomputable abbrev q4:=ak [1,1,1] bd
theorem pc12 {G:Gs} (hG:AE (ac G)) {n:Nat}:PO an q12 (Ep G n):=cpc hG (pc G n) ⟨[0,1,6,8,9,46,47,48],[6,7],[(0,[0,1,6,8,9]),(1,[0,1,6,8,9,46,47,48]),(2,[0,1,6,8,9,46,47,48])]⟩ (apl [] trivial) λR st K r h=>by unfold Ep at h;split at h;exact .trans (by kernel_rfl) h;cases h
theorem pl6 {G:Gs} (hG:AE (ac G)) (n:Nat):∀m,PO an (.loop q6) (dl6 G n m):=lpc hG (pc G n) [0,1,6,8,9,46,47,48] ⟨[0,1,6,8,9],[6,7],[(0,[0,1,6,8,9])]⟩ (apl [(0,12,q12)] ⟨pc12 hG,trivial⟩) (λR st K=>by unfold dl6;split<;>rfl) λm R st K r h=>by unfold dl6 at h;split at h;exact .trans (by kernel_rfl) h;cases h
theorem qw {G:Gs} (hG:AE (ac G)) {n:Nat}:PO an q21 (gQ G n):=cpc hG (pc G n) ⟨[],[6,7],[]⟩ (apl [] trivial) λR st K r h=>by unfold gQ at h;split at h;exact .trans (by kernel_rfl) h;cases h
theorem FZ {G:Gs} (hG:AE (ac G)) {n:Nat}:PO an q19 (tP G n):=cpc hG (pc G n) ⟨[],[6,7],[]⟩ (apl [(0,21,q21)] ⟨qw hG,trivial⟩) λR st K r h=>by unfold tP at h;split at h;exact .trans (by kernel_rfl) h;cases h
theorem pc4 {G:Gs} (hG:AE (ac G)) {n:Nat}:PO an q4 (dc4 G n):=cpc hG (pc G n) ⟨[],[6,7],[]⟩ (apl [(1,6,.loop q6),(0,19,q19)] ⟨pl6 hG n n,⟨FZ hG,trivial⟩⟩) λR st K r h=>by unfold dc4 at h;split at h;exact .trans (by kernel_rfl) h;cases h
theorem ok {G:Gs} (hG:AE (ac G)) {g:Q} (hg:∀xc xd xe xa xb xg xf op args r,g xc xd xe xa xb xg xf op args=some r->∃n,main (R:=AT×List Ob) G n xc xd xe xa xb xg xf op args (λr0 r1 r2=>some (.tup [.agg [.i r0.op,.s r0.name,.i r0.sort,.l (.n 1) r0.args],.one (.b r1)],[.box [.l .i xc,.l .i xd,.l .i xe,.l .s xa,.l (.n 5) xb,.l (.n 8) xg,.m 1],.map .i r2]))=some (.tup [.agg [.i r.1.op,.s r.1.name,.i r.1.sort,.l (.n 1) r.1.args],.one (.b r.2.1)],[.box [.l .i xc,.l .i xd,.l .i xe,.l .s xa,.l (.n 5) xb,.l (.n 8) xg,.m 1],.map .i r.2.2])):EO (ent g):=λR xs H K r hc=>by
 simp only[ent]at hc;split at hc
 ·exact okL hc λr j=>let⟨n,j⟩:=hg _ _ _ _ _ _ _ _ _ _ j;fF hG an (pc G n) Tryz.func67 j (apl [(0,4,q4)] ⟨pc4 hG,trivial⟩)
 ·cases hc
end z0k
open Classical
theorem iE {S A R:Type} (μ:S->Nat) (B:(A->Option R)->S->(S->Option R)->Option R) (Q:S->Prop) (Fin:A->Prop) (hs:∀s,Q s->(∃a,Fin a/\∀k0 nx,B k0 s nx=k0 a)\/(∃s',Q s'/\μ s'<μ s/\∀k0 nx,B k0 s nx=nx s')):∀m s,Q s->μ s<m->∃a,Fin a/\∀k0,aB (B k0) m s=k0 a
 |0,s,_,hm=>absurd hm (Nat.not_lt_zero _)
 | m + 1, s, hq, hm => by
  obtain⟨a,h1,h2⟩|⟨s',h1,h0,h2⟩:=hs s hq
  ·exact⟨a,h1,λk0=>h2 k0 (λv=>aB (B k0) m v)⟩
  ·obtain⟨a,h3,h4⟩:=iE μ B Q Fin hs m s' h1 (by omega);exact⟨a,h3,λk0=>(h2 k0 (λv=>aB (B k0) m v)).trans (h4 k0)⟩
noncomputable def ko {α:Type} (P:α->Prop):Option α:=if h:∃r,P r then some h.choose else none
theorem dg {α:Type} {P:α->Prop} {r:α} (h:ko P=some r):P r:=by
 unfold ko at h;split at h
 ·rename_i hh;cases h;exact hh.choose_spec
 ·cases h
theorem fT {α:Type} {P:α->Prop} (h:∃r,P r):∃r,ko P=some r/\P r:=⟨h.choose,dif_pos h,h.choose_spec⟩
theorem xu {k:Int} (h0:0<=k) (h1:k<9223372036854775808):IntKind.wrap .u64 k=k:=by
 show k%18446744073709551616=k;exact Int.emod_eq_of_lt h0 (by omega)
theorem jQ {i j:Int} (h0:0<=i+j) (h1:i+j<4611686018427387904):(bif decide ((0:Nat)<=1)then some (Abs.am .shr .u64 (IntKind.wrap .u64 (wr (i+j))) 1)else none)=some ((i+j) / 2):=by
 rw[ai (by omega),xu h0 (by omega)];show some ((i+j).fdiv (2^1))=_;rw[Int.fdiv_eq_ediv_of_nonneg _ (by decide)];rfl
def Sub2 (h r:List Tm):Prop:=r.length=h.length/\∀x∈r,x∈h
theorem Sub2.refl (h:List Tm):Sub2 h h:=⟨rfl,λ_ h=>h⟩
theorem Sub2.trans {a b c:List Tm} (h:Sub2 a b) (k:Sub2 b c):Sub2 a c:=⟨k.1.trans h.1,λx hx=>h.2 x (k.2 x hx)⟩
theorem Sub2.set {h r:List Tm} (k:Sub2 h r) {i:Nat} {x:Tm} (hx:x∈h):Sub2 h (r.set i x):=⟨by simp[k.1],λy hy=>by
 rcases List.mem_or_eq_of_mem_set hy with h|rfl
 ·exact k.2 y h
 ·exact hx⟩
theorem bD {h:List Tm} {i:Int} (h0:0<=i) (h1:i<h.length):∃x,ix h i=some x/\x∈h:=by
 obtain⟨x,x1,x2,_⟩:=au h0 h1;exact⟨x,x1,x2⟩
abbrev OUT :List Tm->Option (AT×List Ob):=λr0=>some (.tup [],[.row (.n 1) 0 r0])
noncomputable def kb:List Tm->Int->Int->Int->Option (List Tm):=λh a b n=>ko λr=>Sub2 h r/\z4w.Does ⟨()⟩ h a b n r
theorem qe :EO (z4w.ent kb):=z4w.ok (G:=⟨()⟩) trivial λ_ _ _ _ _ hr=>(dg hr).2
theorem qz {h:List Tm} {a b n:Int} (ha:0<=a) (hb:0<=b) (h0:0<=n) (h1:a+n<=h.length) (h2:b+n<=h.length) (hl:h.length<=4294967296):∃r,kb h a b n=some r/\Sub2 h r:=by
 suffices hh:∃r,Sub2 h r/\z4w.Does ⟨()⟩ h a b n r by
  obtain⟨r,r1,r2,r3⟩:=fT hh;exact⟨r,r1,r2⟩
 obtain⟨r,r1,r2⟩:=iE (R:=AT×List Ob) (A:=List Tm) (λv:Int×List Tm=>(n-v.1).toNat) (λk0 v nx=>z4w.b1 ⟨()⟩ (n.toNat+1) a b n v.1 v.2 (λy0 y1=>nx (y0,y1)) k0) (λv=>0<=v.1/\v.1<=n/\Sub2 h v.2) (Sub2 h) (by
  rintro⟨i,g⟩ ⟨i0,i1,hg⟩;simp only at i0 i1 hg ⊢;have hgl:=hg.1;by_cases hi:i<n
  ·refine .inr ?_;obtain⟨x,x1,x2⟩:=bD (h:=g) (i:=b+i) (by omega) (by omega);obtain⟨y,y1,y2⟩:=bD (h:=g) (i:=a+i) (by omega) (by omega);obtain⟨z,z1,z2⟩:=bD (h:=g.set (a+i).toNat x) (i:=b+i) (by omega) (by simp;omega);refine⟨(i+1,(g.set (a+i).toNat x).set (b+i).toNat y),⟨by simp only;omega,by simp only;omega,(hg.set (hg.2 x x2)).set (hg.2 y y2)⟩,by simp only;omega,λk0 nx=> ?_⟩;unfold z4w.b1;rw[dT hi,cT,ai (x:=b+i) (by omega),ai (x:=a+i) (by omega),x1,bS,y1,bS,bS,Tm.eta,Tm.eta,z1,bS,ai (x:=i+1) (by omega)]
  ·refine .inl ⟨g,hg,λk0 nx=> ?_⟩;unfold z4w.b1;rw[dF hi,cF]) (n.toNat+1) (0,h) ⟨by simp,h0,.refl h⟩ (by simp)
 exact⟨r,r1,n.toNat+1,r2 _⟩
noncomputable def C6:List Tm->Int->Int->Int->Option (List Tm):=λh a m b=>ko λr=>Sub2 h r/\z4u.Does ⟨kb⟩ h a m b r
theorem wO :EO (z4u.ent C6):=z4u.ok (G:=⟨kb⟩) ⟨qe,trivial⟩ λ_ _ _ _ _ hr=>(dg hr).2
theorem w4 {h:List Tm} {a m b:Int} (ha:0<=a) (h1:a<m) (h2:m<b) (h3:b<=h.length) (hl:h.length<=4294967296):∃r,C6 h a m b=some r/\Sub2 h r:=by
 suffices hh:∃r,Sub2 h r/\z4u.Does ⟨kb⟩ h a m b r by
  obtain⟨r,r1,r2,r3⟩:=fT hh;exact⟨r,r1,r2⟩
 obtain⟨⟨i,g⟩,⟨i0,i1,i2,hg⟩,r2⟩:=iE (R:=AT×List Ob) (A:=Int×List Tm) (λv:Int×Int×List Tm=>(v.1+v.2.1).toNat) (λk0 v nx=>z4u.b2 ⟨kb⟩ ((b-a).toNat+1) m v.1 v.2.1 v.2.2 (λy0 y1 y2=>nx (y0,y1,y2)) (λx y=>k0 (x,y))) (λv=>0<v.1/\0<v.2.1/\v.1<=m-a/\v.2.1<=b-m/\Sub2 h v.2.2) (λv=>0<v.1/\v.1<=m-a/\v.1<=b-m/\Sub2 h v.2) (by
  rintro⟨i,j,g⟩ ⟨i0,j0,i1,j1,hg⟩;simp only at i0 j0 i1 j1 hg ⊢;have hgl:=hg.1;by_cases hij:i=j
  ·refine .inl ⟨(i,g),⟨i0,i1,by simp only;omega,hg⟩,λk0 nx=> ?_⟩;unfold z4u.b2;rw[dT hij,Bool.not_true,cF]
  ·refine .inr ?_;by_cases hlt:j<i
   ·obtain⟨r,r1,r2⟩:=qz (h:=g) (a:=m-i) (b:=m) (n:=j) (by omega) (by omega) (by omega) (by omega) (by omega) (by omega);refine⟨(i-j,j,r),⟨by simp only;omega,j0,by simp only;omega,j1,hg.trans r2⟩,by simp only;omega,λk0 nx=> ?_⟩;unfold z4u.b2;rw[dF hij,Bool.not_false,cT,dT hlt,cT,ai (x:=m-i) (by omega)];show Option.bind (kb g (m-i) m j) _=_;rw[r1,bS,ai (x:=i-j) (by omega)]
   ·obtain⟨r,r1,r2⟩:=qz (h:=g) (a:=m-i) (b:=m+j-i) (n:=i) (by omega) (by omega) (by omega) (by omega) (by omega) (by omega);refine⟨(i,j-i,r),⟨i0,by simp only;omega,i1,by simp only;omega,hg.trans r2⟩,by simp only;omega,λk0 nx=> ?_⟩;unfold z4u.b2;rw[dF hij,Bool.not_false,cT,dF hlt,cF,ai (x:=m-i) (by omega),ai (x:=m+j) (by omega),ai (x:=m+j-i) (by omega)];show Option.bind (kb g (m-i) (m+j-i) i) _=_;rw[r1,bS,ai (x:=j-i) (by omega)]) ((b-a).toNat+1) (m-a,b-m,h) ⟨by simp only;omega,by simp only;omega,by simp,by simp,.refl h⟩ (by simp only;omega)
 simp only at i0 i1 i2 hg;have hgl:=hg.1;obtain⟨r,r3,r4⟩:=qz (h:=g) (a:=m-i) (b:=m) (n:=i) (by omega) (by omega) (by omega) (by omega) (by omega) (by omega);refine⟨r,hg.trans r4,(b-a).toNat+1,?_⟩;unfold z4u.main;rw[ai (x:=m-a) (by omega),ai (x:=b-m) (by omega)];refine(r2 (λv=>Option.bind (kb v.2 (wr (m-v.1)) m v.1) λr=>OUT r)).trans ?_;rw[ai (x:=m-i) (by omega),r3,bS]
open Classical
theorem uw {R:Type} (B:(Int->Option R)->Int×Int->(Int×Int->Option R)->Option R) (lo hi:Int)
  (hh:∀i j,lo<=i->i<j->j<=hi->(∀k0 nx,B k0 (i,j) nx=nx ((i+j) / 2+1,j))\/(∀k0 nx,B k0 (i,j) nx=nx (i,(i+j) / 2))) (he:∀i j,¬i<j->∀k0 nx,B k0 (i,j) nx=k0 i) (m:Nat) (i j:Int) (h1:lo<=i) (h2:i<=j) (h3:j<=hi) (hm:(j-i).toNat<m):
  ∃r,(i<=r/\r<=j)/\∀k0,aB (B k0) m (i,j)=k0 r:=by
 refine iE (λv:Int×Int=>(v.2-v.1).toNat) B (λv=>i<=v.1/\v.1<=v.2/\v.2<=j) (λr=>i<=r/\r<=j) ?_ m (i,j) ⟨Int.le_refl _,h2,Int.le_refl _⟩ hm;rintro⟨x,y⟩ ⟨q1,q2,q3⟩;simp only at q1 q2 q3 ⊢;by_cases hxy:x<y
 ·refine .inr ?_;rcases hh x y (by omega) hxy (by omega)with h|h
  ·exact⟨_,⟨by simp only;omega,by simp only;omega,q3⟩,by simp only;omega,h⟩
  ·exact⟨_,⟨q1,by simp only;omega,by simp only;omega⟩,by simp only;omega,h⟩
 ·exact .inl ⟨x,⟨q1,by omega⟩,he x y hxy⟩
noncomputable abbrev GSy (K:Nat) (g:List Tm->Int->Int->Int->Option (List Tm)):z4x.Gs:={z04:=aK K,z4u:=C6,z4x:=g}
noncomputable def fH (K:Nat):Nat->List Tm->Int->Int->Int->Option (List Tm)
 |0=>λ_ _ _ _=>none
 |k+1=>λh a m b=>ko λr=>Sub2 h r/\z4x.Does (GSy K (fH K k)) h a m b r
theorem mc (K:Nat) (hK:K<=4294967296):∀k,EO (z4x.ent (fH K k))
 | 0 => fun R xs H K r h => by
  simp only[z4x.ent]at h;split at h
  ·simp[fH]at h
  ·cases h
 |k+1=>z4x.ok (G:=GSy K (fH K k)) ⟨z05 K hK,wO,mc K hK k,trivial⟩ λ_ _ _ _ _ hr=>(dg hr).2
section
variable {R : Type} {K : Nat} {g : List Tm → Int → Int → Int → Option (List Tm)} {h : List Tm} (hK : ∀ x ∈ h, x.total < K) (hl : h.length ≤ 2147483648)
include hK hl
theorem Gc (n:Nat) (a i j:Int) (ha:0<=a) (ha2:a<h.length) (h1:0<=i) (h2:i<=j) (h3:j<=h.length) (hn:h.length<n):∃r,(i<=r/\r<=j)/\∀k0:Int->Option R,z4x.l3 (GSy K g) n n a h i j k0=k0 r:=by
 refine uw (R:=R) (λk0 v nx=>z4x.b3 (GSy K g) n a h v.1 v.2 (λy0 y1=>nx (y0,y1)) k0) 0 h.length ?_ ?_ n i j h1 h2 h3 (by omega)
 ·intro x y x0 xy yl;obtain⟨e2,p1,p2⟩:=bD      (h:=h) (i:=(x+y) / 2) (by omega) (by omega);obtain⟨e4,p3,p4⟩:=bD      (h:=h) (i:=a) ha ha2;by_cases hc:bW   e2 e4<0
  ·refine .inl λk0 nx=> ?_;unfold z4x.b3;simp only;rw[dT xy,cT,jQ (by omega) (by omega),bS,ai (x:=(x+y) / 2) (by omega),p1,bS,p3,bS,Tm.eta,Tm.eta];show Option.bind (aK K e2 e4) _=_;unfold aK;rw[if_pos (hK _ p2),bS,dT hc,cT,ai (x:=(x+y) / 2+1) (by omega)]
  ·refine .inr λk0 nx=> ?_;unfold z4x.b3;simp only;rw[dT xy,cT,jQ (by omega) (by omega),bS,ai (x:=(x+y) / 2) (by omega),p1,bS,p3,bS,Tm.eta,Tm.eta];show Option.bind (aK K e2 e4) _=_;unfold aK;rw[if_pos (hK _ p2),bS,dF hc,cF]
 ·intro x y xy k0 nx;unfold z4x.b3;simp only;rw[dF xy,cF]
theorem Ed (n:Nat) (a i j:Int) (ha:0<=a) (ha2:a<h.length) (h1:0<=i) (h2:i<=j) (h3:j<=h.length) (hn:h.length<n):∃r,(i<=r/\r<=j)/\∀k0:Int->Option R,z4x.l15 (GSy K g) n n a h i j k0=k0 r:=by
 refine uw (R:=R) (λk0 v nx=>z4x.b15 (GSy K g) n a h v.1 v.2 (λy0 y1=>nx (y0,y1)) k0) 0 h.length ?_ ?_ n i j h1 h2 h3 (by omega)
 ·intro x y x0 xy yl;obtain⟨e4,p1,p2⟩:=bD      (h:=h) (i:=(x+y) / 2) (by omega) (by omega);obtain⟨e2,p3,p4⟩:=bD      (h:=h) (i:=a) ha ha2;by_cases hc:bW   e2 e4<0
  ·refine .inr λk0 nx=> ?_;unfold z4x.b15;simp only;rw[dT xy,cT,jQ (by omega) (by omega),bS,ai (x:=(x+y) / 2) (by omega),p3,bS,p1,bS,Tm.eta,Tm.eta];show Option.bind (aK K e2 e4) _=_;unfold aK;rw[if_pos (hK _ p4),bS,dT hc,Bool.not_true,cF]
  ·refine .inl λk0 nx=> ?_;unfold z4x.b15;simp only;rw[dT xy,cT,jQ (by omega) (by omega),bS,ai (x:=(x+y) / 2) (by omega),p3,bS,p1,bS,Tm.eta,Tm.eta];show Option.bind (aK K e2 e4) _=_;unfold aK;rw[if_pos (hK _ p4),bS,dF hc,Bool.not_false,cT,ai (x:=(x+y) / 2+1) (by omega)]
 ·intro x y xy k0 nx;unfold z4x.b15;simp only;rw[dF xy,cF]
theorem Fh (n:Nat) (a m b mid n1 p i j:Int) (hp:∀c,i<=c->c<j->0<=p-c/\p-c<h.length) (hp0: -4294967296<=p/\p<=8589934592) (h1:0<=i) (h2:i<=j) (h3:j<=h.length) (hn:h.length<n):∃r,(i<=r/\r<=j)/\∀k0:Int->Option R,z4x.l33 (GSy K g) n n a m b mid n1 p h i j k0=k0 r:=by
 refine uw (R:=R) (λk0 v nx=>z4x.b33 (GSy K g) n a m b mid n1 p h v.1 v.2 (λy0 y1=>nx (y0,y1)) k0) i j ?_ ?_ n i j (Int.le_refl _) h2 (Int.le_refl _) (by omega)
 ·intro x y x0 xy yl;obtain⟨e4,p1,p2⟩:=bD      (h:=h) (i:=(x+y) / 2) (by omega) (by omega);have hpc:=hp ((x+y) / 2) (by omega) (by omega);obtain⟨e2,p3,p4⟩:=bD      (h:=h) (i:=p-(x+y) / 2) hpc.1 hpc.2;by_cases hc:bW   e2 e4<0
  ·refine .inr λk0 nx=> ?_;unfold z4x.b33;simp only;rw[dT xy,cT,jQ (by omega) (by omega),bS,ai (x:=(x+y) / 2) (by omega),ai (x:=p-(x+y) / 2) (by omega),p3,bS,p1,bS,Tm.eta,Tm.eta];show Option.bind (aK K e2 e4) _=_;unfold aK;rw[if_pos (hK _ p4),bS,dT hc,Bool.not_true,cF]
  ·refine .inl λk0 nx=> ?_;unfold z4x.b33;simp only;rw[dT xy,cT,jQ (by omega) (by omega),bS,ai (x:=(x+y) / 2) (by omega),ai (x:=p-(x+y) / 2) (by omega),p3,bS,p1,bS,Tm.eta,Tm.eta];show Option.bind (aK K e2 e4) _=_;unfold aK;rw[if_pos (hK _ p4),bS,dF hc,Bool.not_false,cT,ai (x:=(x+y) / 2+1) (by omega)]
 ·intro x y xy k0 nx;unfold z4x.b33;simp only;rw[dF xy,cF]
omit hK in
theorem F7 (n:Nat) (i k:Int) (h1:0<=k) (h2:i<=h.length) (hi0:0<=i) (hkl:k<=h.length) (hn:h.length<n):∃r,Sub2 h r/\∀k0:List Tm->Option R,z4x.l9 (GSy K g) n n i k h k0=k0 r:=by
 refine iE (R:=R) (A:=List Tm) (λv:Int×List Tm=>(h.length-v.1).toNat) (λk0 v nx=>z4x.b9 (GSy K g) n i v.1 v.2 (λy0 y1=>nx (y0,y1)) k0) (λv=>0<=v.1/\v.1<=h.length/\Sub2 h v.2) (Sub2 h) ?_ n (k,h) ⟨h1,hkl,.refl h⟩ (by simp only;omega);rintro⟨k,f⟩ ⟨k0,k1,hf⟩;simp only at k0 k1 hf ⊢;have hfl:=hf.1;by_cases hk:k<i-1
 ·obtain⟨x,x1,x2⟩:=bD (h:=f) (i:=k+1) (by omega) (by omega);obtain⟨y,y1,y2⟩:=bD (h:=f) (i:=k) (by omega) (by omega);obtain⟨z,z1,z2⟩:=bD (h:=f.set k.toNat x) (i:=k+1) (by omega) (by simp;omega);refine .inr ⟨(k+1,(f.set k.toNat x).set (k+1).toNat y),⟨by simp only;omega,by simp only;omega,(hf.set (hf.2 x x2)).set (hf.2 y y2)⟩,by simp only;omega,λc0 nx=> ?_⟩;unfold z4x.b9;rw[ai (x:=i-1) (by omega),dT hk,cT,ai (x:=k+1) (by omega),x1,bS,y1,bS,bS,Tm.eta,Tm.eta,z1,bS]
 ·refine .inl ⟨f,hf,λc0 nx=> ?_⟩;unfold z4x.b9;rw[ai (x:=i-1) (by omega),dF hk,cF]
omit hK in
theorem Fg (n:Nat) (i k:Int) (h1:0<=i) (h2:k<h.length) (hk0:0<=k) (hn:h.length<n):∃r,Sub2 h r/\∀k0:List Tm->Option R,z4x.l21 (GSy K g) n n i k h k0=k0 r:=by
 refine iE (R:=R) (A:=List Tm) (λv:Int×List Tm=>v.1.toNat) (λk0 v nx=>z4x.b21 (GSy K g) n i v.1 v.2 (λy0 y1=>nx (y0,y1)) k0) (λv=>0<=v.1/\v.1<h.length/\Sub2 h v.2) (Sub2 h) ?_ n (k,h) ⟨hk0,h2,.refl h⟩ (by simp only;omega);rintro⟨k,f⟩ ⟨k0,k1,hf⟩;simp only at k0 k1 hf ⊢;have hfl:=hf.1;by_cases hk:i<k
 ·obtain⟨x,x1,x2⟩:=bD (h:=f) (i:=k-1) (by omega) (by omega);obtain⟨y,y1,y2⟩:=bD (h:=f) (i:=k) (by omega) (by omega);obtain⟨z,z1,z2⟩:=bD (h:=f.set k.toNat x) (i:=k-1) (by omega) (by simp;omega);refine .inr ⟨(k-1,(f.set k.toNat x).set (k-1).toNat y),⟨by simp only;omega,by simp only;omega,(hf.set (hf.2 x x2)).set (hf.2 y y2)⟩,by simp only;omega,λc0 nx=> ?_⟩;unfold z4x.b21;rw[dT hk,cT,ai (x:=k-1) (by omega),x1,bS,y1,bS,bS,Tm.eta,Tm.eta,z1,bS]
 ·refine .inl ⟨f,hf,λc0 nx=> ?_⟩;unfold z4x.b21;rw[dF hk,cF]
end
theorem p9 {K:Nat}:∀(k:Nat) (h:List Tm) (a m b:Int),(∀x∈h,x.total<K)->h.length<=2147483648->0<=a->a<m->m<b->b<=h.length->(b-a).toNat<k->∃r,fH K k h a m b=some r/\Sub2 h r
 |0,_,_,_,_,_,_,_,_,_,_,hk=>absurd hk (Nat.not_lt_zero _)
 | k + 1, h, a, m, b, hK, hl, ha, h1, h2, h3, hk => by
  suffices hh:∃r,Sub2 h r/\z4x.Does (GSy K (fH K k)) h a m b r by
   obtain⟨r,r1,r2,r3⟩:=fT hh;exact⟨r,r1,r2⟩
  suffices hh:∃r,Sub2 h r/\z4x.main (GSy K (fH K k)) (h.length+1) h a m b OUT=OUT r from hh.imp λr q=>⟨q.1,_,q.2⟩
  unfold z4x.main;rw[ai (x:=m-a) (by omega),ai (x:=b-m) (by omega)];by_cases c1:m-a=1
  ·obtain⟨i2,p1,p2⟩:=Gc (R:=AT×List Ob) (g:=fH K k) hK hl (h.length+1) a m b ha (by omega) (by omega) (by omega) h3 (by omega);obtain⟨r,r1,r2⟩:=F7 (R:=AT×List Ob) (K:=K) (g:=fH K k) hl (h.length+1) i2 a ha (by omega) (by omega) (by omega) (by omega);exact⟨r,r1,by rw[dT c1,cT,p2,r2]⟩
  ·rw [decide_eq_false c1, cond_false];by_cases c2:b-m=1
   ·obtain⟨i2,p1,p2⟩:=Ed (R:=AT×List Ob) (g:=fH K k) hK hl (h.length+1) m a m (by omega) (by omega) ha (by omega) (by omega) (by omega);obtain⟨r,r1,r2⟩:=Fg (R:=AT×List Ob) (K:=K) (g:=fH K k) hl (h.length+1) i2 m (by omega) (by omega) (by omega) (by omega);exact⟨r,r1,by rw[dT c2,cT,p2,r2]⟩
   ·rw [decide_eq_false c2, cond_false, jQ     (by omega) (by omega)];simp only[bS];rw[ai    (x:=(a+b) / 2) (by omega)];obtain⟨mid,hmid⟩:∃mid,mid=(a+b) / 2:=⟨_,rfl⟩;rw[<-hmid];have hm1:a<mid:=by omega
    have hm2:mid<b:=by omega
    rw[ai (x:=mid+m) (by omega),ai (x:=mid+m-b) (by omega)];have c43:∀(f:List Tm) (e:Int),Sub2 h f->mid<=e->e<=b->∃r,Sub2 h r/\z4x.c43 (GSy K (fH K k)) (h.length+1) b mid e f OUT=OUT r:=λf e hf e1 e2=>by
     unfold z4x.c43;by_cases d1:mid<e
     ·rw[dT d1,cT];by_cases d2:e<b
      ·obtain⟨r,r1,r2⟩:=p9 k f mid e b (λx hx=>hK x (hf.2 x hx)) (by rw[hf.1];exact hl) (by omega) d1 d2 (by rw[hf.1];exact h3) (by omega);refine⟨r,hf.trans r2,?_⟩;rw[dT d2,cT];show Option.bind (fH K k f mid e b) _=_;rw[r1,bS]
      ·exact⟨f,hf,by rw[dF d2,cF]⟩
     ·exact⟨f,hf,by rw[dF d1,cF]⟩
    have c41:∀(f:List Tm) (s e:Int),Sub2 h f->a<=s->s<=mid->mid<=e->e<=b->∃r,Sub2 h r/\z4x.c41 (GSy K (fH K k)) (h.length+1) a b mid s e f OUT=OUT r:=λf s e hf s1 s2 e1 e2=>by
     unfold z4x.c41;by_cases d1:a<s
     ·rw[dT d1,cT];by_cases d2:s<mid
      ·obtain⟨r,r1,r2⟩:=p9 k f a s mid (λx hx=>hK x (hf.2 x hx)) (by rw[hf.1];exact hl) ha d1 d2 (by rw[hf.1];omega) (by omega);obtain⟨r',q1,q2⟩:=c43 r e (hf.trans r2) e1 e2;refine⟨r',q1,?_⟩;rw[dT d2,cT];show Option.bind (fH K k f a s mid) _=_;rw[r1,bS];exact q2
      ·obtain⟨r',q1,q2⟩:=c43 f e hf e1 e2;exact⟨r',q1,by rw[dF d2,cF];exact q2⟩
     ·obtain⟨r',q1,q2⟩:=c43 f e hf e1 e2;exact⟨r',q1,by rw[dF d1,cF];exact q2⟩
    have c32:∀(i j:Int),a<=i->i<=j->j<=mid->j<=m->mid+m-i<=b->∃r,Sub2 h r/\z4x.c32 (GSy K (fH K k)) (h.length+1) a m b mid (mid+m) i j h OUT=OUT r:=λi j i1 i2 i3 i4 i5=>by
     unfold z4x.c32;rw[ai (x:=mid+m-1) (by omega)];obtain⟨s,p1,p2⟩:=Fh (R:=AT×List Ob) (g:=fH K k) hK hl (h.length+1) a m b mid (mid+m) (mid+m-1) i j (λc h1 h2=>by omega) (by omega) (by omega) i2 (by omega) (by omega);have w:wr (mid+m-s)=mid+m-s:=ai (by omega);by_cases d1:s<m
     ·by_cases d2:m<mid+m-s
      ·obtain⟨r,r1,r2⟩:=w4 (h:=h) (a:=s) (m:=m) (b:=mid+m-s) (by omega) d1 d2 (by omega) (by omega);obtain⟨r',q1,q2⟩:=c41 r s (mid+m-s) r2 (by omega) (by omega) (by omega) (by omega);refine⟨r',q1,?_⟩;rw[p2,w,dT d1,cT,dT d2,cT];show Option.bind (C6 h s m (mid+m-s)) _=_;rw[r1,bS];exact q2
      ·obtain⟨r',q1,q2⟩:=c41 h s (mid+m-s) (.refl h) (by omega) (by omega) (by omega) (by omega);refine⟨r',q1,?_⟩;rw[p2,w,dT d1,cT,dF d2,cF];exact q2
     ·obtain⟨r',q1,q2⟩:=c41 h s (mid+m-s) (.refl h) (by omega) (by omega) (by omega) (by omega);refine⟨r',q1,?_⟩;rw[p2,w,dF d1,cF];exact q2
    by_cases d:mid<m
    ·rw[dT d,cT];exact c32 (mid+m-b) mid (by omega) (by omega) (Int.le_refl _) (by omega) (by omega)
    ·rw[dF d,cF];exact c32 a m (Int.le_refl _) (by omega) (by omega) (Int.le_refl _) (by omega)
open Classical
def ff (x:Tm) (l:List Tm):Nat->Nat
 |0=>0
 | n + 1 => match l[n]? with
  |some y=>if 0<bW y x then ff x l n else n+1
  |none=>n+1
def iy (l:List Tm) (x:Tm):List Tm:=l.take (ff x l l.length)++x::l.drop (ff x l l.length)
def aA (l:List Tm):List Tm:=l.foldl iy []
theorem pK (x:Tm) (l:List Tm):∀n,ff x l n<=n
 |0=>Nat.le_refl _
 | n + 1 => by
  unfold ff;split
  ·split
   ·have:=pK x l n;omega
   ·omega
  ·omega
theorem Ay (l:List Tm) (x:Tm):(iy l x).length=l.length+1:=by
 have:=pK x l l.length;simp[iy];omega
theorem Bm {l:List Tm} {x y:Tm}:y∈iy l x↔y=x\/y∈l:=by
 unfold iy;rw[List.mem_append,List.mem_cons];constructor
 ·rintro(h|h|h)
  ·exact .inr (List.mem_of_mem_take h)
  ·exact .inl h
  ·exact .inr (List.mem_of_mem_drop h)
 ·rintro(h|h)
  ·exact .inr (.inl h)
  ·rw[<-List.take_append_drop (ff   x l l.length) l]at h;rcases List.mem_append.1 h with h|h
   ·exact .inl h
   ·exact .inr (.inr h)
theorem lu :∀(xs l:List Tm),(xs.foldl iy l).length=l.length+xs.length/\∀y,y∈xs.foldl iy l↔y∈l\/y∈xs
 |[],l=>by simp
 | x :: xs, l => by
  obtain⟨h1,h2⟩:=lu xs (iy l x);refine⟨by rw[List.foldl_cons,h1,Ay,List.length_cons];omega,λy=> ?_⟩;rw[List.foldl_cons,h2,Bm,List.mem_cons];constructor
  ·rintro((h|h)|h)
   ·exact .inr (.inl h)
   ·exact .inl h
   ·exact .inr (.inr h)
  ·rintro(h|h|h)
   ·exact .inl (.inr h)
   ·exact .inl (.inl h)
   ·exact .inr h
theorem eF (l:List Tm):(aA l).length=l.length:=by have:=(lu l []).1;simpa [aA]using this
theorem lm {l:List Tm} {y:Tm}:y∈aA l↔y∈l:=by have:=(lu l []).2 y;simpa [aA]using this
theorem w6 (l:List Tm):Sub2 l (aA l):=⟨eF l,λ_ h=>lm.1 h⟩
theorem nX {l:List Tm} {i:Nat} {x:Tm} (h:l[i]? =some x):aA (l.take (i+1))=iy (aA (l.take i)) x:=wj h
section
variable {R : Type}
theorem Fj (K n:Nat) (list:List Tm) (i:Nat) (x:Tm) (hx:list[i]? =some x) (l:List Tm) (hl:∀y∈l,y.total<K) (hll:l.length<=2147483648) (gC:List Tm->Option (List Tm)) (k0:Int->Option R):∀m j,j<=l.length->j<m->z32.l6 ⟨aK K,gC⟩ n m list (i:Int) l (j:Int) k0=k0 ((ff x l j:Nat):Int):=by
 intro m
 induction m with
 |zero=>intro j _ hm;omega
 | succ m ih =>
  intro j h1 hm;show z32.b6 ⟨aK K,gC⟩ n list (i:Int) l (j:Int) (λy0=>z32.l6 ⟨aK K,gC⟩ n m list (i:Int) l y0 k0) k0=_;unfold z32.b6;cases j with
  |zero=>rw[dF (by omega),cF];rfl
  | succ j =>
   obtain⟨y,y1,y2⟩:=aS (xs:=l) (i:=j) (by omega);rw[dT (by omega),cT,ai (x:=((j+1:Nat):Int)-1) (by omega),show ((j+1:Nat):Int)-1=(j:Int) by omega,aJ y1,bS,aJ hx,bS,Tm.eta,Tm.eta];show Option.bind (aK K y x) _=_;unfold aK;rw[if_pos (hl y y2),bS];unfold ff;rw[y1];simp only;by_cases hc:0<bW y x
   ·rw[dT hc,cT,if_pos hc];exact ih j (by omega) (by omega)
   ·rw[dF hc,cF,if_neg hc]
theorem C2 (K n:Nat) (list:List Tm) (hl:∀y∈list,y.total<K) (hll:list.length<=2147483648) (hn:list.length<n) (gC:List Tm->Option (List Tm)) (k0:List Tm->Option R):∀m i,i<=list.length->list.length-i<m->z32.l3 ⟨aK K,gC⟩ n m list (i:Int) (aA (list.take i)) k0=k0 (aA list):=by
 intro m
 induction m with
 |zero=>intro i _ hm;omega
 | succ m ih =>
  intro i h1 hm;show z32.b3 ⟨aK K,gC⟩ n list (i:Int) (aA (list.take i)) (λy0 y1=>z32.l3 ⟨aK K,gC⟩ n m list y0 y1 k0) k0=_;unfold z32.b3;by_cases hi:i<list.length
  ·obtain⟨x,x1,x2⟩:=aS     hi;have hsl:(aA    (list.take i)).length=i:=by rw[eF       ,List.length_take];omega
   have hp:=pK x (aA (list.take i)) (aA (list.take i)).length;rw[br hi,cT,Fj K n list i x x1 _ (λy hy=>hl y (List.mem_of_mem_take (lm.1 hy))) (by omega) gC _ n _ (Nat.le_refl _) (by omega)];have e1:pB (aA (list.take i)) [] ((ff x (aA (list.take i)) (aA (list.take i)).length:Nat):Int)=some ((aA (list.take i)).drop (ff x (aA (list.take i)) (aA (list.take i)).length)):=by
    unfold pB;rw[dT (by omega),dT (by omega),Bool.true_and,cT,List.nil_append,Int.toNat_natCast,dU (by simp;omega)]
   have e2:oP (aA (list.take i)) ((ff x (aA (list.take i)) (aA (list.take i)).length:Nat):Int)=some ((aA (list.take i)).take (ff x (aA (list.take i)) (aA (list.take i)).length)):=by
    unfold oP;rw[dT (by omega),dT (by omega),Bool.true_and,cT,Int.toNat_natCast]
   rw[e1,bS,e2,bS,aJ x1,bS,Tm.eta,dU (by simp;omega),bS,dU (by simp;omega),bS,bu (by omega)];have e3:(aA (list.take i)).take (ff x (aA (list.take i)) (aA (list.take i)).length)++[x]++(aA (list.take i)).drop (ff x (aA (list.take i)) (aA (list.take i)).length)=aA (list.take (i+1)):=by
    rw[nX x1];unfold iy;rw[List.append_assoc];rfl
   rw[e3];exact ih (i+1) hi (by omega)
  ·obtain rfl:i=list.length:=by omega
   rw[aU hi,cF,eQ]
end
theorem tX (l:List Tm) (x:Tm):ae (iy l x)=ae l+(1+x.total):=by
 have app:∀a b:List Tm,ae (a++b)=ae a+ae b:=λa b=>by
  unfold ae;simp;omega
 unfold iy;rw[app,bP];have:=app (l.take (ff x l l.length)) (l.drop (ff x l l.length));rw[List.take_append_drop]at this;omega
theorem ir (l:List Tm):ae (aA l)=ae l:=by
 have:∀(xs l:List Tm),ae (xs.foldl iy l)=ae l+ae xs:=λxs=>by
  induction xs with
  |nil=>intro l;rw[List.foldl_nil,dI];omega
  |cons x xs ih=>intro l;rw[List.foldl_cons,ih,tX,bP];omega
 have:=this l [];rw[dI]at this;unfold aA;omega
abbrev lx (k:Nat):List Tm->Option (List Tm):=λl=>if ae l<k/\l.length<=2147483648 then some (aA l)else none
theorem z33 (k:Nat) (hk:k<=4294967296):EO (z32.ent (lx k)):=z32.ok (G:=⟨aK k,iv k⟩) ⟨z2n k hk,lW k hk,trivial⟩ λ(l:List Tm) r h=>by
 unfold lx at h;split at h
 ·rename_i hs;cases h;have hl:=aV l;refine⟨l.length+1,?_⟩;unfold z32.main;have e:=C2 k (l.length+1) l (λy hy=>by have:=gG hy;omega) hs.2 (by omega) (iv k) (λh02=>Option.bind (iv k h02) λr=>some (AT.one (.l (.n 1) r),([]:List Ob))) (l.length+1) 0 (by omega) (by omega);refine e.trans ?_;unfold iv;rw[if_pos (by rw[ir];exact hs.1),bS]
 ·cases h
theorem AK (A B:List Tm) (x y:Tm):(A++y::x::B)[A.length]? =some y/\(A++y::x::B)[A.length+1]? =some x/\((A++y::x::B).set (A.length+1) y)[A.length]? =some y/\((A++y::x::B).set (A.length+1) y).set A.length x=A++x::y::B:=by
 refine⟨by simp,by simp,?_,?_⟩
 ·rw[sN (by omega)];simp
 ·rw[List.set_append_right _ _ (by omega),show A.length+1-A.length=1 by omega];simp[List.set_append_right]
section
variable {R : Type}
theorem E9 (K n:Nat) (a b:Int) (ha:a=0) (i:Int) (x:Tm) (hx:x.total<K) (l rest:List Tm) (hll:l.length+rest.length<=1073741824) (k0:List Tm->Option R):∀m j,j<=l.length->j<m->
  z4t.l4 ⟨aK K⟩ n m a b i (j:Int) (l.take j++x::(l.drop j++rest)) k0=k0 (l.take (ff x l j)++x::(l.drop (ff x l j)++rest)):=by
 subst ha;intro m
 induction m with
 |zero=>intro j _ hm;omega
 | succ m ih =>
  intro j h1 hm;show z4t.b4 ⟨aK K⟩ n 0 b i (j:Int) (l.take j++x::(l.drop j++rest)) (λy0 y1=>z4t.l4 ⟨aK K⟩ n m 0 b i y0 y1 k0) k0=_;unfold z4t.b4;cases j with
  |zero=>rw[dF (by omega),cF];rfl
  | succ j =>
   obtain⟨y,y1,y2⟩:=aS (xs:=l) (i:=j) (by omega);have hA:(l.take j).length=j:=by rw[List.length_take];omega
   have hD:l.take (j+1)++x::(l.drop (j+1)++rest)=l.take j++y::x::(l.drop (j+1)++rest):=by rw[ga y1,List.append_assoc];rfl
   have hE:l.take j++x::(l.drop j++rest)=l.take j++x::y::(l.drop (j+1)++rest):=by rw[aN y1];rfl
   obtain⟨s1,s2,s3,s4⟩:=AK (l.take j) (l.drop (j+1)++rest) x y;rw[hA]at s1 s2 s3 s4;rw[dT (by omega),cT,hD,ai (x:=((j+1:Nat):Int)-1) (by omega),show ((j+1:Nat):Int)-1=(j:Int) by omega,aJ s2,bS,aJ s1,bS,Tm.eta,Tm.eta];show Option.bind (aK K x y) _=_;unfold aK;rw[if_pos hx,bS];have hneg:=rx (y.total+1) y x (Nat.lt_succ_self _);unfold ff;rw[y1];simp only;by_cases hc:0<bW y x
   ·rw[dT (p:=bW x y<0) (by omega),cT,if_pos hc];unfold z4t.c6;rw[ai (x:=((j+1:Nat):Int)-1) (by omega),show ((j+1:Nat):Int)-1=(j:Int) by omega,aJ s1,bS,aJ s2,bS,bS,Tm.eta,Tm.eta,Int.toNat_natCast,Int.toNat_natCast,aJ s3,bS,s4,<-hE];exact ih j (by omega) (by omega)
   ·rw[dF (p:=bW x y<0) (by omega),cF,if_neg hc,hD]
theorem Cg (K n:Nat) (h:List Tm) (hK:∀x∈h,x.total<K) (hl:h.length<=1073741824) (hn:h.length<n) (k0:List Tm->Option R):∀m i,i<=h.length->h.length-i<m->
  z4t.l1 ⟨aK K⟩ n m 0 (h.length:Int) (i:Int) (aA (h.take i)++h.drop i) k0=k0 (aA h):=by
 intro m
 induction m with
 |zero=>intro i _ hm;omega
 | succ m ih =>
  intro i h1 hm;show z4t.b1 ⟨aK K⟩ n 0 (h.length:Int) (i:Int) (aA (h.take i)++h.drop i) (λy0 y1=>z4t.l1 ⟨aK K⟩ n m 0 (h.length:Int) y0 y1 k0) k0=_;unfold z4t.b1;by_cases hi:i<h.length
  ·obtain⟨x,x1,x2⟩:=aS     hi;have hsl:(aA    (h.take i)).length=i:=by rw[eF       ,List.length_take];omega
   have e:=E9 K n 0 (h.length:Int) rfl (i:Int) x (hK x x2) (aA (h.take i)) (h.drop (i+1)) (by rw[hsl,List.length_drop];omega) (λh02=>z4t.l1 ⟨aK K⟩ n m 0 (h.length:Int) (wr ((i:Int)+1)) h02 k0) n i (by omega) (by omega);rw[List.take_of_length_le (by omega),List.drop_eq_nil_of_le (by omega),List.nil_append]at e;rw[br hi,cT,aN x1,e,bu (by omega)];have e3:(aA (h.take i)).take (ff x (aA (h.take i)) i)++x::((aA (h.take i)).drop (ff x (aA (h.take i)) i)++h.drop (i+1))=aA (h.take (i+1))++h.drop (i+1):=by
    rw[nX x1];unfold iy;rw[hsl,List.append_assoc];rfl
   rw[e3];exact ih (i+1) hi (by omega)
  ·obtain rfl:i=h.length:=by omega
   rw[aU hi,cF,eQ,bj,List.append_nil]
end
theorem Eu {K:Nat} {h:List Tm} {a b:Int} (hK:∀x∈h,x.total<K) (hl:h.length<=1073741824) (ha:0<=a) (h1:a<=b) (h2:b<=h.length):∃r,Sub2 h r/\z4t.Does ⟨aK K⟩ h a b r:=by
 have hn:h.length<h.length+1:=by omega
 obtain⟨r,r1,r2⟩:=iE (R:=AT×List Ob) (A:=List Tm) (λv:Int×List Tm=>(b-v.1).toNat) (λk0 v nx=>z4t.b1 ⟨aK K⟩ (h.length+1) a b v.1 v.2 (λy0 y1=>nx (y0,y1)) k0) (λv=>a<v.1/\v.1<=b+1/\Sub2 h v.2) (Sub2 h) (by
  rintro⟨i,g⟩ ⟨i0,i1,hg⟩;simp only at i0 i1 hg ⊢;have hgl:=hg.1;by_cases hi:i<b
  ·refine .inr ?_;obtain⟨f,f1,f2⟩:=iE    (R:=AT×List Ob) (A:=List Tm) (λv:Int×List Tm=>v.1.toNat) (λk0 v nx=>z4t.b4 ⟨aK   K⟩ (h.length+1) a b i v.1 v.2 (λy0 y1=>nx (y0,y1)) k0) (λv=>a<=v.1/\v.1<=i/\Sub2 h v.2) (Sub2 h) (by
    rintro⟨j,f⟩ ⟨j0,j1,hf⟩;simp only at j0 j1 hf ⊢;have hfl:=hf.1;by_cases hj:a<j
    ·obtain⟨x,x1,x2⟩:=bD      (h:=f) (i:=j) (by omega) (by omega);obtain⟨y,y1,y2⟩:=bD      (h:=f) (i:=j-1) (by omega) (by omega);by_cases hc:bW   x y<0
     ·obtain⟨z,z1,z2⟩:=bD (h:=f.set j.toNat y) (i:=j-1) (by omega) (by simp;omega);refine .inr ⟨(j-1,(f.set j.toNat y).set (j-1).toNat x),⟨by simp only;omega,by simp only;omega,(hf.set (hf.2 y y2)).set (hf.2 x x2)⟩,by simp only;omega,λk0 nx=> ?_⟩;unfold z4t.b4;rw[dT hj,cT,x1,bS,ai (x:=j-1) (by omega),y1,bS,Tm.eta,Tm.eta];show Option.bind (aK K x y) _=_;unfold aK;rw[if_pos (hK x (hf.2 x x2)),bS,dT hc,cT];unfold z4t.c6;rw[ai (x:=j-1) (by omega),y1,bS,x1,bS,bS,Tm.eta,Tm.eta,z1,bS]
     ·refine .inl ⟨f,hf,λk0 nx=> ?_⟩;unfold z4t.b4;rw[dT hj,cT,x1,bS,ai (x:=j-1) (by omega),y1,bS,Tm.eta,Tm.eta];show Option.bind (aK K x y) _=_;unfold aK;rw[if_pos (hK x (hf.2 x x2)),bS,dF hc,cF]
    ·refine .inl ⟨f,hf,λk0 nx=> ?_⟩;unfold z4t.b4;rw[dF hj,cF]) (h.length+1) (i,g) ⟨by simp only;omega,Int.le_refl _,hg⟩ (by simp only;omega)
   refine⟨(i+1,f),⟨by simp only;omega,by simp only;omega,f1⟩,by simp only;omega,λk0 nx=> ?_⟩;unfold z4t.b1;rw[dT hi,cT];refine(f2 _).trans ?_;rw[ai (x:=i+1) (by omega)]
  ·refine .inl ⟨g,hg,λk0 nx=> ?_⟩;unfold z4t.b1;rw[dF hi,cF]) (h.length+1) (a+1,h) ⟨by simp only;omega,by simp only;omega,.refl h⟩ (by simp only;omega)
 refine⟨r,r1,h.length+1,?_⟩;unfold z4t.main;rw[ai (x:=a+1) (by omega)];exact r2 OUT
theorem Fk {K:Nat} {h:List Tm} (hK:∀x∈h,x.total<K) (hl:h.length<=1073741824):z4t.Does ⟨aK K⟩ h 0 h.length (aA h):=by
 refine⟨h.length+1,?_⟩;unfold z4t.main;cases h with
 |nil=>rfl
 | cons x l =>
  have e:=Cg K ((x::l).length+1) (x::l) hK hl (by omega) OUT ((x::l).length+1) 1 (by simp) (by simp only[List.length_cons];omega);have e1:aA ((x::l).take 1)++(x::l).drop 1=x::l:=rfl;rw[e1]at e;exact e
noncomputable def A9 (K:Nat):List Tm->Int->Int->Option (List Tm):=λh a b=>ko λr=>Sub2 h r/\(a=0/\b=h.length->r=aA h)/\z4t.Does ⟨aK K⟩ h a b r
theorem lf (K:Nat) (hK:K<=4294967296):EO (z4t.ent (A9 K)):=z4t.ok (G:=⟨aK K⟩) ⟨z05 K hK,trivial⟩ λ_ _ _ _ hr=>(dg hr).2.2
theorem vA {K:Nat} {h:List Tm} {a b:Int} (hK:∀x∈h,x.total<K) (hl:h.length<=1073741824) (ha:0<=a) (h1:a<=b) (h2:b<=h.length):∃r,A9 K h a b=some r/\Sub2 h r/\(a=0/\b=h.length->r=aA h):=by
 suffices hh:∃r,Sub2 h r/\(a=0/\b=h.length->r=aA h)/\z4t.Does ⟨aK K⟩ h a b r by
  obtain⟨r,r1,r2,r3,_⟩:=fT hh;exact⟨r,r1,r2,r3⟩
 by_cases hc:a=0/\b=h.length
 ·obtain⟨rfl,rfl⟩:=hc;exact⟨aA h,w6 h,λ_=>rfl,Fk hK hl⟩
 ·obtain⟨r,r1,r2⟩:=Eu hK hl ha h1 h2;exact⟨r,r1,λq=>absurd q hc,r2⟩
noncomputable abbrev GSt (K k:Nat):z4v.Gs:={z4t:=A9 K,z4x:=fH K k}
noncomputable def iQ (K k:Nat):List Tm->Int->Option (List Tm):=λh n=>ko λr=>Sub2 h r/\(h.length<20->r=aA h)/\z4v.Does (GSt K k) h n r
theorem wG {K k:Nat} {h:List Tm} (hK:∀x∈h,x.total<K) (hl:h.length<=1073741824) (hk:h.length<k):∃r,iQ K k h h.length=some r/\Sub2 h r/\(h.length<20->r=aA h):=by
 suffices hh:∃r,Sub2 h r/\(h.length<20->r=aA h)/\z4v.Does (GSt K k) h h.length r by
  obtain⟨r,r1,r2,r3,_⟩:=fT hh;exact⟨r,r1,r2,r3⟩
 obtain⟨⟨a2,h2⟩,⟨p1,p2,p3,p4⟩,e2⟩:=iE (R:=AT×List Ob) (A:=Int×List Tm) (λv:Int×Int×List Tm=>(h.length-v.1).toNat) (λk0 v nx=>z4v.b2 (GSt K k) (h.length+1) (h.length:Int) 20 v.1 v.2.1 v.2.2 (λy0 y1 y2=>nx (y0,y1,y2)) (λx y=>k0 (x,y))) (λv=>0<=v.1/\v.1<=h.length/\v.2.1=v.1+20/\Sub2 h v.2.2/\(h.length<20->v.1=0/\v.2.2=h)) (λv=>0<=v.1/\v.1<=h.length/\Sub2 h v.2/\(h.length<20->v.1=0/\v.2=h)) (by
  rintro⟨a,b,g⟩ ⟨a0,a1,hb,hg,h20⟩;simp only at a0 a1 hb hg h20 ⊢;have hgl:=hg.1;by_cases hc:b<=h.length
  ·obtain⟨r,r1,r2,_⟩:=vA (K:=K) (h:=g) (a:=a) (b:=b) (λx hx=>hK x (hg.2 x hx)) (by omega) a0 (by omega) (by omega);refine .inr ⟨(b,b+20,r),⟨by simp only;omega,hc,rfl,hg.trans r2,λq=>by omega⟩,by simp only;omega,λk0 nx=> ?_⟩;unfold z4v.b2;rw[dT hc,cT];show Option.bind (A9 K g a b) _=_;rw[r1,bS,ai (x:=b+20) (by omega)]
  ·refine .inl ⟨(a,g),⟨a0,a1,hg,h20⟩,λk0 nx=> ?_⟩;unfold z4v.b2;rw[dF hc,cF]) (h.length+1) (0,20,h) ⟨by simp,by simp,rfl,.refl h,λ_=>⟨rfl,rfl⟩⟩ (by simp)
 simp only at p1 p2 p3 p4;have h2l:=p3.1;obtain⟨r,r1,r2,r3⟩:=vA (K:=K) (h:=h2) (a:=a2) (b:=h.length) (λx hx=>hK x (p3.2 x hx)) (by omega) p1 p2 (by omega);have hr:Sub2 h r:=p3.trans r2;have hr20:h.length<20->r=aA h:=λq=>by
  obtain⟨q1,q2⟩:=p4 q;subst q2;exact r3 ⟨q1,rfl⟩
 obtain⟨f,⟨f1,f2⟩,e7⟩:=iE (R:=AT×List Ob) (A:=List Tm) (λv:Int×List Tm=>(h.length-v.1).toNat) (λk0 v nx=>z4v.b7 (GSt K k) (h.length+1) (h.length:Int) v.1 v.2 (λy0 y1=>nx (y0,y1)) k0) (λv=>20<=v.1/\v.1<=4294967296/\Sub2 h v.2/\(h.length<20->v.2=r)) (λf=>Sub2 h f/\(h.length<20->f=r)) (by
  rintro⟨bs,g⟩ ⟨b0,b1,hg,hg2⟩;simp only at b0 b1 hg hg2 ⊢;have hgl:=hg.1;by_cases hc:bs<h.length
  ·refine .inr ?_;obtain⟨⟨a3,g3⟩,⟨q1,q2,q3⟩,e9⟩:=iE    (R:=AT×List Ob) (A:=Int×List Tm) (λv:Int×Int×List Tm=>(h.length-v.1).toNat) (λk0 v nx=>z4v.b9 (GSt K k) (h.length+1) (h.length:Int) bs v.1 v.2.1 v.2.2 (λy0 y1 y2=>nx (y0,y1,y2)) (λx y=>k0 (x,y))) (λv=>0<=v.1/\v.1<=h.length/\v.2.1=v.1+2*bs/\Sub2 h v.2.2) (λv=>0<=v.1/\v.1<=h.length/\Sub2 h v.2) (by
    rintro⟨a,b,f⟩ ⟨a0,a1,hb,hf⟩;simp only at a0 a1 hb hf ⊢;have hfl:=hf.1;by_cases hd:b<=h.length
    ·obtain⟨r,r1,r2⟩:=p9 (K:=K) k f a (a+bs) b (λx hx=>hK x (hf.2 x hx)) (by omega) a0 (by omega) (by omega) (by omega) (by omega);refine .inr ⟨(b,b+2*bs,r),⟨by simp only;omega,hd,rfl,hf.trans r2⟩,by simp only;omega,λk0 nx=> ?_⟩;unfold z4v.b9;rw[dT hd,cT,ai (x:=a+bs) (by omega)];show Option.bind (fH K k f a (a+bs) b) _=_;rw[r1,bS,ai (x:=2*bs) (by omega),ai (x:=b+2*bs) (by omega)]
    ·refine .inl ⟨(a,f),⟨a0,a1,hf⟩,λk0 nx=> ?_⟩;unfold z4v.b9;rw[dF hd,cF]) (h.length+1) (0,2*bs,g) ⟨by simp,by simp,by simp,hg⟩ (by simp)
   simp only at q1 q2 q3;have h3l:=q3.1;by_cases hd:a3+bs<h.length
   ·obtain⟨r',r1',r2'⟩:=p9 (K:=K) k g3 a3 (a3+bs) h.length (λx hx=>hK x (q3.2 x hx)) (by omega) q1 (by omega) hd (by omega) (by omega);refine⟨(bs*2,r'),⟨by simp only;omega,by simp only;omega,q3.trans r2',λq=>by omega⟩,by simp only;omega,λk0 nx=> ?_⟩;unfold z4v.b7;rw[dT hc,cT,ai (x:=2*bs) (by omega)];refine(e9 (λv=>bif decide ((wr (v.1+bs))<(h.length:Int))then Option.bind (fH K k v.2 v.1 (wr (v.1+bs)) h.length) λr=>nx (wr (bs*2),r)else nx (wr (bs*2),v.2))).trans ?_;rw[ai (x:=a3+bs) (by omega),dT hd,cT,r1',bS,ai (x:=bs*2) (by omega)]
   ·refine⟨(bs*2,g3),⟨by simp only;omega,by simp only;omega,q3,λq=>by omega⟩,by simp only;omega,λk0 nx=> ?_⟩;unfold z4v.b7;rw[dT hc,cT,ai (x:=2*bs) (by omega)];refine(e9 (λv=>bif decide ((wr (v.1+bs))<(h.length:Int))then Option.bind (fH K k v.2 v.1 (wr (v.1+bs)) h.length) λr=>nx (wr (bs*2),r)else nx (wr (bs*2),v.2))).trans ?_;rw[ai (x:=a3+bs) (by omega),dF hd,cF,ai (x:=bs*2) (by omega)]
  ·refine .inl ⟨g,⟨hg,hg2⟩,λk0 nx=> ?_⟩;unfold z4v.b7;rw[dF hc,cF]) (h.length+1) (20,r) ⟨by simp,by simp,hr,λ_=>rfl⟩ (by simp only;omega)
 refine⟨f,f1,λq=>(f2 q).trans (hr20 q),h.length+1,?_⟩;unfold z4v.main;refine(e2 (λv=>Option.bind (A9 K v.2 v.1 h.length) λr=>z4v.l7 (GSt K k) (h.length+1) (h.length+1) (h.length:Int) 20 r λh022=>OUT h022)).trans ?_;rw[r1,bS];exact e7 OUT
theorem w7 (K k:Nat) (hK:K<=4294967296):EO (z4v.ent (iQ K k)):=z4v.ok (G:=GSt K k) ⟨lf K hK,mc K hK k,trivial⟩ λ_ _ _ hr=>(dg hr).2.2
noncomputable def gSS (K k:Nat):List Tm->Option (List Tm):=λh=>ko λr=>Sub2 h r/\(h.length<20->r=aA h)/\z4s.Does ⟨iQ K k⟩ h r
theorem oh (K k:Nat) (hK:K<=4294967296):EO (z4s.ent (gSS K k)):=z4s.ok (G:=⟨iQ K k⟩) ⟨w7 K k hK,trivial⟩ λ_ _ hr=>(dg hr).2.2
theorem E6 {K k:Nat} {h:List Tm} (hK:∀x∈h,x.total<K) (hl:h.length<=1073741824) (hk:h.length<k):∃r,gSS K k h=some r/\Sub2 h r/\(h.length<20->r=aA h):=by
 suffices hh:∃r,Sub2 h r/\(h.length<20->r=aA h)/\z4s.Does ⟨iQ K k⟩ h r by
  obtain⟨r,r1,r2,r3,_⟩:=fT hh;exact⟨r,r1,r2,r3⟩
 obtain⟨r,r1,r2,r3⟩:=wG hK hl hk;refine⟨r,r2,r3,1,?_⟩;unfold z4s.main;show Option.bind (iQ K k h h.length) _=_;rw[r1,bS]
open Classical
theorem xm :EO (z0q.ent uH):=z0q.ok (G:=⟨()⟩) trivial λab be kd nm sb ops m op r h=>by
 unfold uH at h;split at h
 ·rename_i hs;obtain⟨o,ho,rfl⟩:=Option.map_eq_some_iff.1 h;have hk:=fu hs.1 (aZ ho).1;have hu1:=hk.u1;have hol:ops.length<=14:=(dm hs.1).1;have:o.unit<=(ops.length:Int):=hu1;refine⟨1,?_⟩;unfold z0q.main unT;rw[ho,bS,ai (x:=o.unit-1) (by have:=hk.u0;omega)]
 ·cases h
open Classical
def dw (o:Opr) (op:Int) (l:List Tm) (x:Tm):List Tm:=if o.assoc=true/\x.op=op then l++x.args else if fL o x=true then l else l++[x]
def cf (s:Sg) (o:Opr) (op:Int):Int->List Tm->List Tm->Option (List Tm)
 |_,[],acc=>some acc
 |i,x::xs,acc=>if cP s x=jW s o i then cf s o op (i+1) xs (dw o op acc x)else none
def dY (o:Opr) (op:Int) (l:List Tm):Tm:=Tm.mk op ByteArray.empty 0 (if o.comm=true then aA l else l)
def gt (o:Opr) (l:List Tm) (t:Tm):Option Tm:=if (o.assoc=true/\7<l.length)\/60<tsz t\/20<tdp t then none else some t
def Ec (o:Opr) (l:List Tm):Tm:=match l with
 |[x]=>x
 |_=>unT o
def cY (o:Opr) (args:List Tm):Prop:=if o.assoc=true then 2<=args.length else args.length=(first o).args.length
instance (o : Opr) (args : List Tm) : Decidable (cY o args) := by unfold cY; exact inferInstance
def bO (s:Sg) (o:Opr) (op:Int) (args:List Tm):Option Tm:=if cY o args then (cf s o op 0 args []).bind λl=>if o.unit≠0/\l.length<2 then some (Ec o l)else gt o l (dY o op l)else none
theorem vP (a b:List Tm):ae (a++b)=ae a+ae b:=by unfold ae;simp;omega
theorem dx (o:Opr) (op:Int) (l:List Tm) (x:Tm):ae (dw o op l x)<=ae l+(1+x.total):=by
 unfold dw;have ht:=aC x;split
 ·rw[vP];omega
 ·split
  ·omega
  ·rw[vP,bP,dI];omega
theorem jD {s:Sg} {o:Opr} {op:Int}:∀{xs:List Tm} {i:Int} {acc l:List Tm},cf s o op i xs acc=some l->ae l<=ae acc+ae xs
 |[],_,_,_,h=>by cases h;rw[dI];omega
 | x :: xs, i, acc, l, h => by
  unfold cf at h;split at h
  ·have:=jD h;have:=dx o op acc x;rw[bP];omega
  ·cases h
theorem lA {s:Sg} {o:Opr} {op:Int} (hna:o.assoc=false):∀{xs:List Tm} {i:Int} {acc l:List Tm},cf s o op i xs acc=some l->l.length<=acc.length+xs.length
 |[],_,_,_,h=>by cases h;simp
 | x :: xs, i, acc, l, h => by
  unfold cf at h;split at h
  ·have:=lA        hna h;have:(dw   o op acc x).length<=acc.length+1:=by
    unfold dw;rw[hna,if_neg (by simp)];split
    ·omega
    ·simp
   simp only[List.length_cons];omega
  ·cases h
section
variable {R : Type}
def Bw (r:Option Tm) (k0:Bool->Int->ByteArray->Int->List Tm->Option R):Option R:=match r with
 |some t=>k0 true t.op t.name t.sort t.args
 |none=>k0 false 0 ByteArray.empty 0 []
end
noncomputable abbrev GB:z0k.Gs:={z0p:=il,z0j:=jn,z0n:=ol,z0q:=uH,z4s:=gSS 4294967296 (1073741824+1),z0h:=gSz 4294967296,z06:=gDp 4294967296}
section
variable {R : Type} {kd ab be : List Int} {nm : List ByteArray} {sb : List Sb} {ops : List Opr} {op : Int} {o : Opr} (hA : Alg kd nm sb ops) (ho : ix ops op = some o)
theorem DB (n:Nat) (m:Mp) (h2 h23:Int) (h22:ByteArray) (h3:List Tm) (o:Opr) (r:List Tm) (hr:ae r<4294967296) (k0:Bool->Int->ByteArray->Int->List Tm->Option R):
  z0k.c21 GB n ab be kd nm sb ops op m h2 h22 h23 h3 o.name o.decls o.assoc o.comm o.unit r k0=Bw (gt o r (Tm.mk op ByteArray.empty 0 r)) k0:=by
 have ht:(Tm.mk op ByteArray.empty 0 r).total<4294967296:=by
  rw[aC];show ByteArray.empty.size+ae r<4294967296;have:ByteArray.empty.size=0:=rfl;omega
 have e1:gSz 4294967296 (Tm.mk op ByteArray.empty 0 r)=some (tsz (Tm.mk op ByteArray.empty 0 r):Int):=if_pos ht;have e2:gDp 4294967296 (Tm.mk op ByteArray.empty 0 r)=some (tdp (Tm.mk op ByteArray.empty 0 r):Int):=if_pos ht;have tail:(Option.bind (gSz 4294967296 (Tm.mk op ByteArray.empty 0 r)) λz=>bif decide (60<z)then (k0 false 0 ByteArray.empty 0 [])else Option.bind (gDp 4294967296 (Tm.mk op ByteArray.empty 0 r)) λz2=>bif decide (20<z2)then (k0 false 0 ByteArray.empty 0 [])else k0 true op ByteArray.empty 0 r)=Bw (if 60<tsz (Tm.mk op ByteArray.empty 0 r)\/20<tdp (Tm.mk op ByteArray.empty 0 r)then none else some (Tm.mk op ByteArray.empty 0 r)) k0:=by
  rw[e1,bS];by_cases c1:60<tsz (Tm.mk op ByteArray.empty 0 r)
  ·rw[dT (by omega),cT,if_pos (.inl c1)];rfl
  ·rw[dF (by omega),cF,e2,bS];by_cases c2:20<tdp (Tm.mk op ByteArray.empty 0 r)
   ·rw[dT (by omega),cT,if_pos (.inr c2)];rfl
   ·rw[dF (by omega),cF,if_neg (by omega)];rfl
 unfold z0k.c21 gt;cases ha:o.assoc with
 | true =>
  rw[cT];by_cases c:7<r.length
  ·rw[dT (by omega),cT,if_pos (.inl ⟨rfl,c⟩)];rfl
  ·rw[dF (by omega),cF];refine tail.trans ?_
   congr 1
   by_cases d:60<tsz (Tm.mk op ByteArray.empty 0 r)\/20<tdp (Tm.mk op ByteArray.empty 0 r)
   ·rw[if_pos d,if_pos (.inr d)]
   ·rw[if_neg d,if_neg (λq=>q.elim (λq=>c q.2) d)]
 | false =>
  rw[cF];refine tail.trans ?_
  congr 1
  by_cases d:60<tsz (Tm.mk op ByteArray.empty 0 r)\/20<tdp (Tm.mk op ByteArray.empty 0 r)
  ·rw[if_pos d,if_pos (.inr d)]
  ·rw[if_neg d,if_neg (λq=>q.elim (λq=>by cases q.1) d)]
theorem DU (n:Nat) (m:Mp) (h2 h23:Int) (h22:ByteArray) (h3:List Tm) (o:Opr) (l:List Tm) (hl:ae l<1073741824) (hna:o.assoc=false->l.length<20) (k0:Bool->Int->ByteArray->Int->List Tm->Option R):
  z0k.c19 GB n ab be kd nm sb ops op m h2 h22 h23 h3 o.name o.decls o.assoc o.comm o.unit l k0=Bw (gt o l (dY o op l)) k0:=by
 have hll:=aV l;unfold z0k.c19;cases hc:o.comm with
 | false =>
  rw[cF];have e:=DB (R:=R) (kd:=kd) (ab:=ab) (be:=be) (nm:=nm) (sb:=sb) (ops:=ops) (op:=op) n m h2 h23 h22 h3 o l (by omega) k0;rw[hc]at e;refine e.trans ?_;unfold dY;rw[hc,if_neg (by decide)]
 | true =>
  rw[cT];obtain⟨r,r1,r2,r3⟩:=E6 (K:=4294967296) (k:=1073741824+1) (h:=l) (λx hx=>by have:=gG hx;omega) (by omega) (by omega);show Option.bind (gSS 4294967296 (1073741824+1) l) _=_;rw[r1,bS];by_cases c:l.length<20
  ·have:=r3 c;subst this;have e:=DB (R:=R) (kd:=kd) (ab:=ab) (be:=be) (nm:=nm) (sb:=sb) (ops:=ops) (op:=op) n m h2 h23 h22 h3 o (aA l) (by rw[ir];omega) k0;rw[hc]at e;refine e.trans ?_;unfold dY gt;rw[hc,if_pos rfl,eF]
  ·have ha:o.assoc=true:=by
    cases h:o.assoc with
    |true=>rfl
    |false=>exact absurd (hna h) c
   unfold z0k.c21 gt;rw[ha,cT,dT (by have:=r2.1;omega),cT,if_pos (.inl ⟨rfl,by omega⟩)];rfl
include hA ho
theorem Ft (n:Nat) (args:List Tm) (hg:∀a∈args,Good ⟨⟨nm,sb⟩,ops⟩ a) (hb:ae args<1073741824) (har:cY o args) (m:Mp) (h2 h23:Int) (h22:ByteArray) (h3:List Tm) (k0:Bool->Mp->Int->ByteArray->Int->List Tm->Option R) (k1:Mp->List Tm->Option R):∀f i acc,i<=args.length->ae acc+ae (args.drop i)<1073741824->args.length-i<f->
  z0k.l6 GB n f ab be kd nm sb ops op args (args.length:Int) h2 h22 h23 h3 o.name o.decls o.assoc o.comm o.unit (i:Int) m acc k0 k1=match cf ⟨⟨nm,sb⟩,ops⟩ o op (i:Int) (args.drop i) acc with
   |some l=>k1 m l
   |none=>k0 false m 0 ByteArray.empty 0 []:=by
 have hk:=fu hA.1 (aZ (xs:=ops) ho).1;have hal:=aV args;intro f
 induction f with
 |zero=>intro i _ _ _ hm;omega
 | succ f ih =>
  intro i acc h1 hacc hm;show z0k.b6 GB n ab be kd nm sb ops op args (args.length:Int) h2 h22 h23 h3 o.name o.decls o.assoc o.comm o.unit (i:Int) m acc (λy0 y1 y2=>z0k.l6 GB n f ab be kd nm sb ops op args (args.length:Int) h2 h22 h23 h3 o.name o.decls o.assoc o.comm o.unit y0 y1 y2 k0 k1) k0 k1=_;unfold z0k.b6;by_cases hi:i<args.length
  ·obtain⟨x,x1,x2⟩:=aS     hi;have gx:=hg x x2;rw[aN       x1,bP      ]at hacc;have hat:0<=atI o (i:Int)/\atI o (i:Int)<(first o).args.length:=by
    unfold atI cY at*;cases ha:o.assoc with
    |true=>have:=hk.two (.inl ha);rw[if_pos rfl];omega
    |false=>rw[ha,if_neg (by decide)]at har;rw[if_neg (by decide)];omega
   have e1:il ab be kd nm sb ops m x=some (cP ⟨⟨nm,sb⟩,ops⟩ x,m):=if_pos ⟨hA,gx.kn⟩;have e2:jn ab be kd nm sb ops m op (i:Int)=some (jW ⟨⟨nm,sb⟩,ops⟩ o (i:Int),m):=by
    unfold jn;rw[if_pos ⟨hA,o,ho,hat⟩,ho];rfl
   rw[br hi,cT,aJ x1,bS,Tm.eta,aN x1];show Option.bind (il ab be kd nm sb ops m x) _=_;rw[e1,bS];show Option.bind (jn ab be kd nm sb ops m op (i:Int)) _=_;rw[e2,bS];unfold cf;by_cases hkd:cP ⟨⟨nm,sb⟩,ops⟩ x=jW ⟨⟨nm,sb⟩,ops⟩ o (i:Int)
   ·rw [decide_eq_true hkd, Bool.not_true, cond_false, if_pos hkd]
    have next:∀acc',acc'=dw o op acc x->ae acc'<1073741824->z0k.l6 GB n f ab be kd nm sb ops op args (args.length:Int) h2 h22 h23 h3 o.name o.decls o.assoc o.comm o.unit (wr ((i:Int)+1)) m acc' k0 k1=match cf ⟨⟨nm,sb⟩,ops⟩ o op ((i:Int)+1) (args.drop (i+1)) (dw o op acc x)with
      |some l=>k1 m l
      |none=>k0 false m 0 ByteArray.empty 0 []:=λacc' he _=>by
     subst he;have:=dx o op acc x;rw[bu (by omega)];exact ih (i+1) _ hi (by omega) (by omega)
    have c12:¬(o.assoc=true/\x.op=op)->z0k.c12 GB n ab be kd nm sb ops op args (args.length:Int) (i:Int) m h2 h22 h23 h3 o.name o.decls o.assoc o.comm o.unit acc x.op x.name x.sort x.args (λh12 h52=>z0k.l6 GB n f ab be kd nm sb ops op args (args.length:Int) h2 h22 h23 h3 o.name o.decls o.assoc o.comm o.unit (wr ((i:Int)+1)) h12 h52 k0 k1)=match cf ⟨⟨nm,sb⟩,ops⟩ o op ((i:Int)+1) (args.drop (i+1)) (dw o op acc x)with
      |some l=>k1 m l
      |none=>k0 false m 0 ByteArray.empty 0 []:=λhno=>by
     unfold z0k.c12;rw[Tm.eta];have e3:ol ab be kd nm sb ops m op x=some (fL o x,m):=by
      unfold ol;rw[if_pos hA,ho];rfl
     show Option.bind (ol ab be kd nm sb ops m op x) _=_;rw[e3,bS];have hadd:dw o op acc x=if fL o x=true then acc else acc++[x]:=if_neg hno;have htl:=dx o op acc x;have hll:=aV (dw o op acc x);cases hu:fL o x with
     | true =>
      rw[hu,if_pos rfl]at hadd;exact next acc hadd.symm (by omega)
     | false =>
      rw[hu,if_neg (by decide)]at hadd;rw[hadd]at hll htl;show Option.bind (lim (acc++[x])) _=_;rw[dU (by omega),bS];exact next (acc++[x]) hadd.symm (by omega)
    cases ha:o.assoc with
    | false =>
     rw[cF];have:=c12 (by rw[ha];simp);rw[ha]at this;exact this
    | true =>
     rw[cT];by_cases hop:x.op=op
     ·rw[dT hop,cT];have hadd:dw   o op acc x=acc++x.args:=if_pos ⟨ha,hop⟩;have htl:=dx         o op acc x;have hll:=aV      (dw   o op acc x);rw[hadd]at hll htl;rw[dU     (by omega),bS];have:=next (acc++x.args) hadd.symm (by omega)
      rw[ha]at this;exact this
     ·rw[dF hop,cF];have:=c12 (by rw[ha];simp[hop]);rw[ha]at this;exact this
   ·rw[dF hkd,Bool.not_false,cT,if_neg hkd]
  ·obtain rfl:i=args.length:=by omega
   rw[aU hi,cF,bj];rfl
theorem b_c4 (n:Nat) (args:List Tm) (hg:∀a∈args,Good ⟨⟨nm,sb⟩,ops⟩ a) (hb:ae args<1073741824) (har:cY o args) (hn:args.length<n) (m:Mp) (h2 h23:Int) (h22:ByteArray) (h3:List Tm) (k0:Bool->Mp->Int->ByteArray->Int->List Tm->Option R):
  z0k.c4 GB n ab be kd nm sb ops op args m h2 h22 h23 h3 o.name o.decls o.assoc o.comm o.unit k0=Bw (bO ⟨⟨nm,sb⟩,ops⟩ o op args) (λt7 a b c d=>k0 t7 m a b c d):=by
 have hk:=fu   hA.1 (aZ     (xs:=ops) ho).1;unfold z0k.c4 bO;rw[if_pos     har];have e := Ft     (R := R) (ab := ab) (be := be) hA ho n args hg hb har m h2 h23 h22 h3 k0 (fun h122 h52 =>
   bif !decide (o.unit=0)then
    (bif decide ((List.length h52 : Int) < 2) then
     (bif decide ((List.length h52 : Int) = 1) then
      (Option.bind (ix h52 0) λe=>k0 true h122 (Tm.op e) (Tm.name e) (Tm.sort e) (Tm.args e))
     else
      Option.bind (uH ab be kd nm sb ops h122 op) λr=>k0 true r.2 (Tm.op r.1) (Tm.name r.1) (Tm.sort r.1) (Tm.args r.1))
    else
     z0k.c19 GB n ab be kd nm sb ops op h122 h2 h22 h23 h3 o.name o.decls o.assoc o.comm o.unit h52 (λt72 h242 h252 h262 h272=>k0 t72 h122 h242 h252 h262 h272))
   else
    z0k.c19 GB n ab be kd nm sb ops op h122 h2 h22 h23 h3 o.name o.decls o.assoc o.comm o.unit h52 (λt73 h243 h253 h263 h273=>k0 t73 h122 h243 h253 h263 h273)) n 0 [] (by omega) (by simp[dI];exact hb) (by omega)
 simp only[List.drop_zero]at e;refine e.trans ?_
 show (match cf ⟨⟨nm,sb⟩,ops⟩ o op 0 args []with
  |some l=>_
  |none=>_)=_
 cases hf:cf ⟨⟨nm,sb⟩,ops⟩ o op 0 args []with
 |none=>rfl
 | some l =>
  have ht:=jD hf;rw[dI]at ht;have hna:o.assoc=false->l.length<20:=λha=>by
   have:=lA ha hf;unfold cY at har;rw[ha,if_neg (by decide)]at har;have:=hk.fa;simp only[List.length_nil]at*;omega
  simp only[bS];by_cases hu:o.unit=0
  ·rw[dT hu,Bool.not_true,cF,if_neg (by simp[hu])];exact DU (R:=R) n m h2 h23 h22 h3 o l (by omega) hna _
  ·rw [decide_eq_false hu, Bool.not_false, cond_true];by_cases hl:l.length<2
   ·rw [decide_eq_true (by omega), cond_true, if_pos ⟨hu, hl⟩]
    match l,hl with
    |[x],_=>rfl
    | [], _ =>
     have e2:uH ab be kd nm sb ops m op=some (unT o,m):=by
      unfold uH;rw[if_pos hA,ho];rfl
     show Option.bind (uH ab be kd nm sb ops m op) _=_;rw[e2];rfl
   ·rw[dF (by omega),cF,if_neg (by omega)];exact DU (R:=R) n m h2 h23 h22 h3 o l (by omega) hna _
end
theorem EC {R:Type} {kd ab be:List Int} {nm:List ByteArray} {sb:List Sb} {ops:List Opr} {op:Int} {o:Opr} (hA:Alg kd nm sb ops) (ho:ix ops op=some o) (args:List Tm) (hg:∀a∈args,Good ⟨⟨nm,sb⟩,ops⟩ a) (hb:ae args<1073741824) (m:Mp) (K:Tm->Bool->Mp->Option R):
  z0k.main GB (args.length+1) ab be kd nm sb ops m op args K=K ((bO ⟨⟨nm,sb⟩,ops⟩ o op args).getD Zt) (bO ⟨⟨nm,sb⟩,ops⟩ o op args).isSome m:=by
 have hk:=fu hA.1 (aZ (xs:=ops) ho).1;unfold z0k.main;rw[ho,bS];have fin:cY o args->z0k.c4 GB (args.length+1) ab be kd nm sb ops op args m 0 ByteArray.empty 0 [] o.name o.decls o.assoc o.comm o.unit (λt7 h12 h24 h25 h26 h27=>K (Tm.mk h24 h25 h26 h27) t7 h12)=K ((bO ⟨⟨nm,sb⟩,ops⟩ o op args).getD Zt) (bO ⟨⟨nm,sb⟩,ops⟩ o op args).isSome m:=λhar=>by
  rw[b_c4 hA ho (args.length+1) args hg hb har (by omega)];cases bO ⟨⟨nm,sb⟩,ops⟩ o op args with
  |none=>rfl
  |some t=>show K (Tm.mk t.op t.name t.sort t.args) true m=_;rw[Tm.eta];rfl
 have bad:¬cY o args->K Zt false m=K ((bO ⟨⟨nm,sb⟩,ops⟩ o op args).getD Zt) (bO ⟨⟨nm,sb⟩,ops⟩ o op args).isSome m:=λhar=>by
  unfold bO;rw[if_neg har];rfl
 cases ha:o.assoc with
 | true =>
  rw[ha]at fin;rw[cT];by_cases hl:args.length<2
  ·rw[dT (by omega),cT];exact bad (by unfold cY;rw[ha,if_pos rfl];omega)
  ·rw[dF (by omega),cF,Bool.not_true,cF];exact fin (by unfold cY;rw[ha,if_pos rfl];omega)
 | false =>
  rw[ha]at fin;rw[cF,Bool.not_false,cT,bq hk.dl,bS];by_cases hl:args.length=(first o).args.length
  ·rw[dT (by omega),Bool.not_true,cF];exact fin (by unfold cY;rw[ha,if_neg (by decide)];exact hl)
  ·rw[dF (by omega),Bool.not_false,cT];exact bad (by unfold cY;rw[ha,if_neg (by decide)];exact hl)
noncomputable def kX:List Int->List Int->List Int->List ByteArray->List Sb->List Opr->Mp->Int->List Tm->Option (Tm×Bool×Mp):=λ_ _ kd nm sb ops m op args=>if Alg kd nm sb ops/\(∀a∈args,Good ⟨⟨nm,sb⟩,ops⟩ a)/\ae args<1073741824 then (ix ops op).map (λo=>((bO ⟨⟨nm,sb⟩,ops⟩ o op args).getD Zt,(bO ⟨⟨nm,sb⟩,ops⟩ o op args).isSome,m))else none
theorem zu :EO (z0k.ent kX):=z0k.ok (G:=GB) ⟨pq,na,oZ,xm,oh 4294967296 (1073741824+1) (Nat.le_refl _),z0i 4294967296 (Nat.le_refl _),z07 4294967296 (Nat.le_refl _),trivial⟩ λab be kd nm sb ops m op args r h=>by
 unfold kX at h;split at h
 ·rename_i hs;obtain⟨hA,hg,hb⟩:=hs;obtain⟨o,ho,rfl⟩:=Option.map_eq_some_iff.1 h;refine⟨args.length+1,(EC (ab:=ab) (be:=be) hA ho args hg hb m _).trans rfl⟩
 ·cases h
open Classical
def jR (o:Opr) (l:List Tm) (t:Tm):Bool:=(!o.assoc||decide (l.length<=7))&&(decide (tsz t<=60)&&decide (tdp t<=20))
def cz (s:Sg) (o:Opr) (op:Int) (args:List Tm):Tm×Bool:=if cY o args then (match cf s o op 0 args []with
 |some l=>if o.unit≠0/\l.length<2 then (Ec o l,true)else (dY o op l,jR o l (dY o op l))
 |none=>(Zt,false))else (Zt,false)
theorem qE (o:Opr) (l:List Tm) (t:Tm):gt o l t=if jR o l t=true then some t else none:=by
 unfold gt jR;cases ha:o.assoc with
 | true =>
  by_cases h1:l.length<=7
  ·by_cases h2:tsz t<=60
   ·by_cases h3:tdp t<=20
    ·rw[if_neg (by omega),if_pos (by simp[h1,h2,h3])]
    ·rw[if_pos (by omega),if_neg (by simp[h3])]
   ·rw[if_pos (by omega),if_neg (by simp[h2])]
  ·rw[if_pos (.inl ⟨rfl,by omega⟩),if_neg (by simp[h1])]
 | false =>
  by_cases h2:tsz t<=60
  ·by_cases h3:tdp t<=20
   ·rw[if_neg (by simp;omega),if_pos (by simp[h2,h3])]
   ·rw[if_pos (by omega),if_neg (by simp[h3])]
  ·rw[if_pos (by omega),if_neg (by simp[h2])]
theorem sO (s:Sg) (o:Opr) (op:Int) (args:List Tm):(cz s o op args).2=(bO s o op args).isSome/\∀t,bO s o op args=some t->(cz s o op args).1=t:=by
 unfold cz bO;by_cases ha:cY o args
 ·rw [if_pos ha, if_pos ha];cases hf:cf    s o op 0 args []with
  |none=>exact⟨rfl,λt h=>by cases h⟩
  | some l =>
   simp only[bS];by_cases hu:o.unit≠0/\l.length<2
   ·rw[if_pos hu,if_pos hu];exact⟨rfl,λt h=>by cases h;rfl⟩
   ·rw[if_neg hu,if_neg hu,qE          ];cases hk:jR     o l (dY    o op l)with
    |true=>rw[if_pos rfl];exact⟨rfl,λt h=>by cases h;rfl⟩
    |false=>rw[if_neg (by decide)];exact⟨rfl,λt h=>by cases h⟩
 ·rw[if_neg ha,if_neg ha];exact⟨rfl,λt h=>by cases h⟩
noncomputable abbrev GM:z4a.Gs:={z3g:=cV,z3i:=gAr,z4g:=kR,z48:=gp,z3y:=io 4294967296,z3u:=gCp 4294967296,z32:=lx 4294967296,z3s:=iv 4294967296,z4f:=gSm 4294967296}
def dW (o:Opr):Bool:= !decide (o.unit=0)
section
variable {R : Type} {nm : List ByteArray} {sb : List Sb} {ops : List Opr} {op : Int} {o : Opr} (hS : aM ⟨⟨nm, sb⟩, ops⟩ = true) (ho : ix ops op = some o)
include hS ho
theorem Gq (n:Nat) (args:List Tm) (i:Nat) (x:Tm) (hx:args[i]? =some x) (gx:Good ⟨⟨nm,sb⟩,ops⟩ x) (hat:0<=atI o (i:Int)/\atI o (i:Int)<(first o).args.length) (h1 h13:Int) (h12:ByteArray) (h2 acc:List Tm) (hb:ae acc+(1+x.total)<1073741824) (k0:Bool->Int->ByteArray->Int->List Tm->Option R) (k1:List Tm->Option R):
  z4a.c13 GM n op args (aD nm.length sb) (dW o) (i:Int) (atI o (i:Int)) nm sb ops h1 h12 h13 h2 o.name o.decls o.assoc o.comm o.unit (uOf o).op (uOf o).name (uOf o).sort (uOf o).args acc k0 k1=if cP ⟨⟨nm,sb⟩,ops⟩ x=jW ⟨⟨nm,sb⟩,ops⟩ o (i:Int)then k1 (dw o op acc x)else k0 false 0 ByteArray.empty 0 []:=by
 have hk:=fu hS (aZ (xs:=ops) ho).1;obtain⟨a1,a2,a3⟩:=uI hk hat.1 hat.2;have a4:=n5 (s:=⟨⟨nm,sb⟩,ops⟩) a2 a3;have a4':ix (aD nm.length sb) (aq (first o).args (atI o (i:Int)))=some (jW ⟨⟨nm,sb⟩,ops⟩ o (i:Int)):=a4;have htl:=dx o op acc x;have hll:=aV (dw o op acc x);unfold z4a.c13;rw[aJ hx,bS,Tm.eta];have e1:gp ⟨⟨nm,sb⟩,ops⟩ x=some (cP ⟨⟨nm,sb⟩,ops⟩ x):=if_pos ⟨hS,gx.kn⟩;show Option.bind (gp ⟨⟨nm,sb⟩,ops⟩ x) _=_;rw[e1,bS,bq hk.dl,bS,a1,bS,a4',bS];by_cases hkd:cP ⟨⟨nm,sb⟩,ops⟩ x=jW ⟨⟨nm,sb⟩,ops⟩ o (i:Int)
 ·rw [decide_eq_true hkd, Bool.not_true, cond_false, if_pos hkd];have c17:fL   o x=false->z4a.c17 GM n op args (aD    nm.length sb) (dW   o) (i:Int) nm sb ops h1 h12 h13 h2 o.name o.decls o.assoc o.comm o.unit (uOf o).op (uOf o).name (uOf o).sort (uOf o).args acc k1=k1 (dw   o op acc x):=λhun=>by
   have c15:¬(o.assoc=true/\x.op=op)->z4a.c15 GM n op args (aD nm.length sb) (dW o) (i:Int) nm sb ops h1 h12 h13 h2 o.name o.decls o.assoc o.comm o.unit (uOf o).op (uOf o).name (uOf o).sort (uOf o).args acc k1=k1 (dw o op acc x):=λhno=>by
    have hadd:dw o op acc x=acc++[x]:=by unfold dw;rw[if_neg hno,hun,if_neg (by decide)]
    rw[hadd]at hll htl ⊢;unfold z4a.c15;rw[aJ hx,bS,Tm.eta,dU (by omega),bS]
   unfold z4a.c17;cases ha:o.assoc with
   | false =>
    rw[ha]at c15;rw[cF];exact c15 (by simp)
   | true =>
    rw[ha]at c15;rw[cT,aJ hx,bS];by_cases hop:x.op=op
    ·have hadd:dw o op acc x=acc++x.args:=if_pos ⟨ha,hop⟩;rw[hadd]at hll htl ⊢;rw[dT hop,cT,bS,dU (by omega),bS]
    ·rw[dF hop,cF];exact c15 (by simp[hop])
  by_cases hu:o.unit=0
  ·have hun:fL   o x=false:=by unfold fL;rw[dT   hu];rfl
   have hh:dW o=false:=by unfold dW;rw[dT hu];rfl
   have c17:=c17 hun;rw[hh]at c17 ⊢;rw[cF];exact c17
  ·obtain⟨u1,u2⟩:=vh      hS ho hu gx;have hh:dW   o=true:=by unfold dW;rw[dF   hu];rfl
   have hut:uOf o=unT o:=if_neg hu;have hxt:x.total<4294967296:=by omega
   have e3:io 4294967296 x (unT o)=some (decide (bW x (unT o)=0)):=if_pos hxt;rw[hh]at c17 ⊢;rw[cT,bS,Tm.eta,Tm.eta,hut];show Option.bind (io 4294967296 x (unT o)) _=_;rw[e3,bS];by_cases hc:bW x (unT o)=0
   ·have hop:=u1.1 hc;have hadd:dw   o op acc x=acc:=by
     unfold dw fL;rw[if_neg (u2 hop),dF hu,dT hop];rfl
    rw[dT hc,cT,hadd]
   ·have hun:fL   o x=false:=by
     unfold fL;rw[dF hu,dF (λq=>hc (u1.2 q))];rfl
    rw[dF hc,cF];have:=c17 hun;rw[hut]at this;exact this
 ·rw[dF hkd,Bool.not_false,cT,if_neg hkd]
theorem Ff (n:Nat) (args:List Tm) (hg:∀a∈args,Good ⟨⟨nm,sb⟩,ops⟩ a) (hb:ae args<1073741824) (har:cY o args) (h1 h13:Int) (h12:ByteArray) (h2:List Tm) (k0:Bool->Int->ByteArray->Int->List Tm->Option R) (k1:List Tm->Option R):∀f i acc,i<=args.length->ae acc+ae (args.drop i)<1073741824->args.length-i<f->
  z4a.l8 GM n f op args (aD nm.length sb) (dW o) nm sb ops h1 h12 h13 h2 o.name o.decls o.assoc o.comm o.unit (uOf o).op (uOf o).name (uOf o).sort (uOf o).args (i:Int) acc k0 k1=match cf ⟨⟨nm,sb⟩,ops⟩ o op (i:Int) (args.drop i) acc with
   |some l=>k1 l
   |none=>k0 false 0 ByteArray.empty 0 []:=by
 have hk:=fu hS (aZ (xs:=ops) ho).1;have hal:=aV args;intro f
 induction f with
 |zero=>intro i _ _ _ hm;omega
 | succ f ih =>
  intro i acc hi1 hacc hm;show z4a.b8 GM n op args (aD nm.length sb) (dW o) nm sb ops h1 h12 h13 h2 o.name o.decls o.assoc o.comm o.unit (uOf o).op (uOf o).name (uOf o).sort (uOf o).args (i:Int) acc (λy0 y1=>z4a.l8 GM n f op args (aD nm.length sb) (dW o) nm sb ops h1 h12 h13 h2 o.name o.decls o.assoc o.comm o.unit (uOf o).op (uOf o).name (uOf o).sort (uOf o).args y0 y1 k0 k1) k0 k1=_;unfold z4a.b8;by_cases hi:i<args.length
  ·obtain⟨x,x1,x2⟩:=aS     hi;have gx:=hg x x2;rw[aN       x1,bP      ]at hacc;have hat:0<=atI o (i:Int)/\atI o (i:Int)<(first o).args.length:=by
    unfold atI cY at*;cases ha:o.assoc with
    |true=>have:=hk.two (.inl ha);rw[if_pos rfl];omega
    |false=>rw[ha,if_neg (by decide)]at har;rw[if_neg (by decide)];omega
   have e:=Gq (R:=R) hS ho n args i x x1 gx hat h1 h13 h12 h2 acc (by omega) (λt7 h04 h05 h06 h07=>k0 t7 h04 h05 h06 h07) (λh52=>z4a.l8 GM n f op args (aD nm.length sb) (dW o) nm sb ops h1 h12 h13 h2 o.name o.decls o.assoc o.comm o.unit (uOf o).op (uOf o).name (uOf o).sort (uOf o).args (wr ((i:Int)+1)) h52 k0 k1);have e2:(bif o.assoc then z4a.c13 GM n op args (aD nm.length sb) (dW o) (i:Int) 0 nm sb ops h1 h12 h13 h2 o.name o.decls o.assoc o.comm o.unit (uOf o).op (uOf o).name (uOf o).sort (uOf o).args acc (λt7 h04 h05 h06 h07=>k0 t7 h04 h05 h06 h07) (λh52=>z4a.l8 GM n f op args (aD nm.length sb) (dW o) nm sb ops h1 h12 h13 h2 o.name o.decls o.assoc o.comm o.unit (uOf o).op (uOf o).name (uOf o).sort (uOf o).args (wr ((i:Int)+1)) h52 k0 k1)else z4a.c13 GM n op args (aD nm.length sb) (dW o) (i:Int) (i:Int) nm sb ops h1 h12 h13 h2 o.name o.decls o.assoc o.comm o.unit (uOf o).op (uOf o).name (uOf o).sort (uOf o).args acc (λt7 h04 h05 h06 h07=>k0 t7 h04 h05 h06 h07) (λh52=>z4a.l8 GM n f op args (aD nm.length sb) (dW o) nm sb ops h1 h12 h13 h2 o.name o.decls o.assoc o.comm o.unit (uOf o).op (uOf o).name (uOf o).sort (uOf o).args (wr ((i:Int)+1)) h52 k0 k1))=if cP ⟨⟨nm,sb⟩,ops⟩ x=jW ⟨⟨nm,sb⟩,ops⟩ o (i:Int)then z4a.l8 GM n f op args (aD nm.length sb) (dW o) nm sb ops h1 h12 h13 h2 o.name o.decls o.assoc o.comm o.unit (uOf o).op (uOf o).name (uOf o).sort (uOf o).args (wr ((i:Int)+1)) (dw o op acc x) k0 k1 else k0 false 0 ByteArray.empty 0 []:=by
    refine Eq.trans ?_ e;unfold atI;cases o.assoc<;>rfl
   rw[br hi,cT,aN x1];refine e2.trans ?_;unfold cf;by_cases hkd:cP ⟨⟨nm,sb⟩,ops⟩ x=jW ⟨⟨nm,sb⟩,ops⟩ o (i:Int)
   ·have:=dx o op acc x;rw[if_pos hkd,if_pos hkd,bu (by omega)];exact ih (i+1) _ hi (by omega) (by omega)
   ·rw[if_neg hkd,if_neg hkd]
  ·obtain rfl:i=args.length:=by omega
   rw[aU hi,cF,bj];rfl
omit hS ho in
theorem Gb (n:Nat) (h0 h03:Int) (h02:ByteArray) (h1 l:List Tm) (hl:ae l<1073741824) (k0:Bool->ByteArray->Int->List Tm->Option R):
  z4a.c23 GM n op l h0 h02 h03 h1 o.name o.decls o.assoc o.comm o.unit k0=k0 (jR o l (dY o op l)) ByteArray.empty 0 (dY o op l).args:=by
 have hll:=aV l;have c25:∀r,ae r<1073741824->r.length=l.length->z4a.c25 GM n op r h0 h02 h03 h1 o.name o.decls o.assoc o.comm o.unit k0=k0 (jR o l (Tm.mk op ByteArray.empty 0 r)) ByteArray.empty 0 r:=λr hr hrl=>by
  have ht:(Tm.mk op ByteArray.empty 0 r).total<4294967296:=by
   rw[aC];show ByteArray.empty.size+ae r<4294967296;have:ByteArray.empty.size=0:=rfl;omega
  have e1:gSm 4294967296 (Tm.mk op ByteArray.empty 0 r)=some (decide (tsz (Tm.mk op ByteArray.empty 0 r)<=60)&&decide (tdp (Tm.mk op ByteArray.empty 0 r)<=20)):=if_pos ht;have e2:iv 4294967296 r=some r:=if_pos (by omega);unfold z4a.c25 jR;show Option.bind (iv 4294967296 r) _=_;rw[e2,bS];cases ha:o.assoc with
  | false =>
   rw[Bool.not_false,cT];show Option.bind (gSm 4294967296 _) _=_;rw[e1,bS];rfl
  | true =>
   rw[Bool.not_true,cF];by_cases h7:l.length<=7
   ·rw[dT (by omega),cT,dT h7];show Option.bind (gSm 4294967296 _) _=_;rw[e1,bS];rfl
   ·rw[dF (by omega),cF,dF h7];rfl
 unfold z4a.c23;cases hc:o.comm with
 | true =>
  rw[cT];have e:lx 4294967296 l=some (aA l):=if_pos ⟨by omega,by omega⟩;show Option.bind (lx 4294967296 l) _=_;rw[e,bS];have:=c25 (aA l) (by rw[ir];exact hl) (eF l);rw[hc]at this;refine this.trans ?_;unfold dY;rw[hc,if_pos rfl]
 | false =>
  rw[cF];have:=c25 l hl rfl;rw[hc]at this;refine this.trans ?_;unfold dY;rw[hc,if_neg (by decide)]
theorem m_c5 (n:Nat) (args:List Tm) (hg:∀a∈args,Good ⟨⟨nm,sb⟩,ops⟩ a) (hb:ae args<1073741824) (har:cY o args) (hn:args.length<n) (h1 h13:Int) (h12:ByteArray) (h2:List Tm) (k0:Bool->Int->ByteArray->Int->List Tm->Option R):
  z4a.c5 GM n op args (aD nm.length sb) nm sb ops h1 h12 h13 h2 o.name o.decls o.assoc o.comm o.unit k0=k0 (cz ⟨⟨nm,sb⟩,ops⟩ o op args).2 (cz ⟨⟨nm,sb⟩,ops⟩ o op args).1.op (cz ⟨⟨nm,sb⟩,ops⟩ o op args).1.name (cz ⟨⟨nm,sb⟩,ops⟩ o op args).1.sort (cz ⟨⟨nm,sb⟩,ops⟩ o op args).1.args:=by
 have e0:kR ⟨⟨nm,sb⟩,ops⟩ op=some (uOf o,dW o):=by
  unfold kR uOf dW;rw[if_pos hS];show (ix ops op).map _=_;rw[ho,Option.map_some];by_cases hu:o.unit=0
  ·rw[if_pos hu,if_pos hu,dT hu];rfl
  ·rw[if_neg hu,if_neg hu,dF hu];rfl
 unfold z4a.c5;show Option.bind (kR ⟨⟨nm,sb⟩,ops⟩ op) _=_;rw[e0,bS]
 have e:=Ff (R:=R) hS ho n args hg hb har h1 h13 h12 h2 (λt7 h04 h05 h06 h07=>k0 t7 h04 h05 h06 h07) (λh45=>
   bif dW o then
    (bif decide ((List.length h45:Int)=0)then (k0 true (uOf o).op (uOf o).name (uOf o).sort (uOf o).args)
    else z4a.c21 GM n op (dW o) h1 h12 h13 h2 o.name o.decls o.assoc o.comm o.unit h45 (λt72 h042 h052 h062 h072=>k0 t72 h042 h052 h062 h072))
   else z4a.c21 GM n op (dW o) h1 h12 h13 h2 o.name o.decls o.assoc o.comm o.unit h45 (λt73 h043 h053 h063 h073=>k0 t73 h043 h053 h063 h073)) n 0 [] (by omega) (by simp[dI];exact hb) (by omega)
 simp only[List.drop_zero]at e;refine e.trans ?_;unfold cz;rw[if_pos har]
 show (match cf ⟨⟨nm,sb⟩,ops⟩ o op 0 args []with
  |some l=>_
  |none=>_)=_
 cases hf:cf ⟨⟨nm,sb⟩,ops⟩ o op 0 args []with
 |none=>rfl
 | some l =>
  have ht:=jD hf;rw[dI]at ht;have e3:=Gb (R:=R) (op:=op) (o:=o) n h1 h13 h12 h2 l (by omega);simp only;by_cases hu:o.unit=0
  ·have hh:dW   o=false:=by unfold dW;rw[dT   hu];rfl
   rw[hh,cF,if_neg (by simp[hu])];unfold z4a.c21;rw[cF];exact e3 _
  ·have hh:dW   o=true:=by unfold dW;rw[dF   hu];rfl
   have hut:uOf o=unT o:=if_neg hu;rw[hh,cT]
   match l,hf,ht,e3 with
   |[],_,_,_=>rw[if_pos ⟨hu,by simp⟩,hut];rfl
   | [x], _, ht, _ =>
    rw[if_pos ⟨hu,by simp⟩];have hxt:x.total<4294967296:=by rw[bP,dI]at ht;omega
    have e4:gCp 4294967296 x=some x:=if_pos hxt;show z4a.c21 GM n op true h1 h12 h13 h2 o.name o.decls o.assoc o.comm o.unit [x] _=_;unfold z4a.c21;rw[cT];show Option.bind (gCp 4294967296 (Tm.mk x.op x.name x.sort x.args)) _=_;rw[Tm.eta,e4];rfl
   | x :: y :: l, _, _, e3 =>
    rw[if_neg (by simp)];rw[dF (by simp only[List.length_cons];omega),cF];unfold z4a.c21;rw[cT,dF (by simp only[List.length_cons];omega),cF];exact e3 _
end
theorem yU {R:Type} {s:Sg} {op:Int} {o:Opr} (hS:aM s=true) (ho:ix s.ops op=some o) (args:List Tm) (hg:∀a∈args,Good s a) (hb:ae args<1073741824) (K:Tm->Bool->Option R):
  z4a.main GM (args.length+1) s op args K=K (cz s o op args).1 (cz s o op args).2:=by
 have hk:=fu hS (aZ ho).1;have e1:cV s.sorts=some (aD s.sorts.names.length s.sorts.subs):=if_pos (j9 hS);have e2:gAr o=some ((first o).args.length:Int):=if_pos hk.dl;have fin:cY o args->z4a.c5 GM (args.length+1) op args (aD s.sorts.names.length s.sorts.subs) s.sorts.names s.sorts.subs s.ops 0 ByteArray.empty 0 [] o.name o.decls o.assoc o.comm o.unit (λt7 h04 h05 h06 h07=>K (Tm.mk h04 h05 h06 h07) t7)=K (cz s o op args).1 (cz s o op args).2:=λhar=>by
  have:=m_c5 (R:=R) (nm:=s.sorts.names) (sb:=s.sorts.subs) (ops:=s.ops) hS ho (args.length+1) args hg hb har (by omega) 0 0 ByteArray.empty [] (λt7 h04 h05 h06 h07=>K (Tm.mk h04 h05 h06 h07) t7);exact this.trans (congrArg (λz=>K z _) (Tm.eta _))
 have bad:¬cY o args->K Zt false=K (cz s o op args).1 (cz s o op args).2:=λhar=>by
  unfold cz;rw[if_neg har]
 unfold z4a.main;rw[ho,bS];show Option.bind (cV s.sorts) _=_;rw[e1,bS];show Option.bind (gAr o) _=_;rw[e2,bS];by_cases hl:args.length=(first o).args.length
 ·rw[dT (by omega),Bool.not_true,cF];refine fin ?_;unfold cY;cases   ha:o.assoc with
  |true=>have:=hk.two (.inl ha);rw[if_pos rfl];omega
  |false=>rw[if_neg (by decide)];exact hl
 ·rw [decide_eq_false (by omega), Bool.not_false, cond_true];cases ha:o.assoc with
  | true =>
   rw[ha]at fin;rw[cT];by_cases h2:2<=args.length
   ·rw[dT (by omega),Bool.not_true,cF];exact fin (by unfold cY;rw[ha,if_pos rfl];exact h2)
   ·rw[dF (by omega),Bool.not_false,cT];exact bad (by unfold cY;rw[ha,if_pos rfl];exact h2)
  | false =>
   rw[cF];exact bad (by unfold cY;rw[ha,if_neg (by decide)];exact hl)
noncomputable def j4:Sg->Int->List Tm->Option (Tm×Bool):=λs op args=>if aM s=true/\(∀a∈args,Good s a)/\ae args<1073741824 then (ix s.ops op).map (λo=>cz s o op args)else none
theorem wk :EO (z4a.ent j4):=z4a.ok (G:=GM) ⟨dy,gw,oQ,lE,lB 4294967296 (Nat.le_refl _),fZ 4294967296 (Nat.le_refl _),z33 4294967296 (Nat.le_refl _),lW 4294967296 (Nat.le_refl _),jU 4294967296 (Nat.le_refl _),trivial⟩ λs op args r h=>by
 unfold j4 at h;split at h
 ·rename_i hs;obtain⟨hS,hg,hb⟩:=hs;obtain⟨o,ho,rfl⟩:=Option.map_eq_some_iff.1 h;refine⟨args.length+1,(yU hS ho args hg hb _).trans rfl⟩
 ·cases h
end Go.Proofs.YtfdkldmkbibknaaGreat.Den

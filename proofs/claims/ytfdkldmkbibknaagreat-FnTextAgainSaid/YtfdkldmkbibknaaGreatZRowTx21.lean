/-
  Texts that the claim rests on, merged: PI1, Names, Sorts, Sorts2, Sorts3, Order, Sig, Sig2, Sig3, Sig4.
-/
import Derived.Test.YtfdkldmkbibknaaGreatZRowTx12
import Derived.Test.YtfdkldmkbibknaaGreatZRowTx19
import Derived.Test.YtfdkldmkbibknaaGreatZRowTx20

namespace Go.Proofs.YtfdkldmkbibknaaGreat.Den
open Go.RowKit
set_option maxRecDepth 100000
set_option linter.unusedVariables false
namespace z0y
structure Gs where
 none_:Unit
noncomputable def main {R:Type} (G:Gs) (n:Nat) (set1:Int) (K:Bool->Option R):Option R:=
 bif decide (0<=set1)then
  (K (decide (set1<=65535)))
 else
  K false
theorem ok {G:Gs} (hG:AE []) {g:Q} (hg:∀set1 r,g set1=some r->∃n,main (R:=AT×List Ob) G n set1 (λr0=>some (.one (.b r0),[]))=some (.one (.b r),[])):EO (ent g):=λR xs H K r hc=>by
 simp only[ent]at hc;split at hc
 ·exact okL hc λr j=>let⟨_,j⟩:=hg _ _ j;fF hG ⟨9,0,[],[],[2],[],[]⟩ nP Tryz.func134 j
 ·cases hc
end z0y
namespace z0f
structure Gs where
 z0y:z0y.Q
noncomputable def ac (G:Gs):List Ent:=[z0y.ent G.z0y]
noncomputable def b3 {R:Type} (G:Gs) (n:Nat) (set1 n1:Int) (h0:LI) (nx:Int->Int->LI->Option R) (k0:LI->Option R):Option R:=
 bif decide (n1<16)then
  (
  (G.z0y set1).bind λr=>
  bif r then
   (
   (bif decide (0<=n1)then some (Abs.am .shl .i64 1 n1)else none).bind λq=>
   bif !decide ((Abs.am .and .i64 set1 q)=0)then
    (
    (lim (h0++[n1])).bind λzs=>
    nx set1 (wr (n1+1)) zs
    )
   else
    nx set1 (wr (n1+1)) h0
   )
  else
   k0 h0
  )
 else
  k0 h0
noncomputable def l3 {R:Type} (G:Gs) (n m:Nat) (set1 n1:Int) (h0:LI) (k0:LI->Option R):Option R:=aB (λ(v:Int×Int×LI) nx=>b3 G n v.1 v.2.1 v.2.2 (λy0 y1 y2=>nx (y0,y1,y2)) k0) m (set1,n1,h0)
noncomputable def main {R:Type} (G:Gs) (n:Nat) (set1:Int) (K:LI->Option R):Option R:=
 l3 G n n set1 0 []
  (λh0=>K h0)
noncomputable def dl3 (G:Gs) (n m:Nat) (R:Type) (st:St) (K:Kt R):Option R:=match st with
 |⟨[(0,.one (.i set1)),(3,.one (.o 0)),(4,.one (.i n1))],[.row .i 0 h0]⟩=>l3 G n m set1 n1 h0 (λh0=>K (.exit 0) ⟨[(3,.one (.o 0))],[.row .i 0 h0]⟩)
 |_=>none
noncomputable def pc (G:Gs) (n:Nat):Pcs:=⟨λR id st K=>bif Nat.beq id 3 then dl3 G n n R st K else none,nK,nK⟩
noncomputable def an:Ann:=⟨24,0,[(3,[0,3,4])],[],[2],[],[]⟩
noncomputable abbrev bd:=aj Tryz.f109
noncomputable abbrev q3:=ak [1,1,0,1,0,0] bd
theorem pl3 {G:Gs} (hG:AE (ac G)) (n:Nat):∀m,PO an (.loop q3) (dl3 G n m):=lpc hG (pc G n) [0,3,4] ⟨[3],[2],[(0,[3])]⟩ (apl [] trivial) (λR st K=>by unfold dl3;split<;>rfl) λm R st K r h=>by unfold dl3 at h;split at h;exact .trans (by kernel_rfl) h;cases h
theorem ok {G:Gs} (hG:AE (ac G)) {g:Q} (hg:∀set1 r,g set1=some r->∃n,main (R:=AT×List Ob) G n set1 (λr0=>some (.one (.l .i r0),[]))=some (.one (.l .i r),[])):EO (ent g):=λR xs H K r hc=>by
 simp only[ent]at hc;split at hc
 ·exact okL hc λr j=>let⟨n,j⟩:=hg _ _ j;fF hG an (pc G n) Tryz.func109 j (apl [(1,3,.loop q3)] ⟨pl3 hG n n,trivial⟩)
 ·cases hc
end z0f
namespace z0z
structure Gs where
 none_:Unit
noncomputable def main {R:Type} (G:Gs) (n:Nat) (c:Int) (K:Bool->Option R):Option R:=
 bif decide (48 ≤ c) then
  (
  bif decide (c<=57)then
   (K true)
  else
   bif decide (65<=c)then
    (
    bif decide (c<=90)then
     (K true)
    else
     bif decide (97<=c)then
      (K (decide (c<=122)))
     else
      K false
    )
   else
    bif decide (97<=c)then
     (K (decide (c<=122)))
    else
     K false
  )
 else
  bif decide (65<=c)then
   (
   bif decide (c<=90)then
    (K true)
   else
    bif decide (97<=c)then
     (K (decide (c<=122)))
    else
     K false
   )
  else
   bif decide (97<=c)then
    (K (decide (c<=122)))
   else
    K false
theorem ok {G:Gs} (hG:AE []) {g:Q} (hg:∀c r,g c=some r->∃n,main (R:=AT×List Ob) G n c (λr0=>some (.one (.b r0),[]))=some (.one (.b r),[])):EO (ent g):=λR xs H K r hc=>by
 simp only[ent]at hc;split at hc
 ·exact okL hc λr j=>let⟨_,j⟩:=hg _ _ j;fF hG ⟨25,0,[],[],[2],[],[]⟩ nP Tryz.func110 j
 ·cases hc
end z0z
namespace z09
structure Gs where
 z0z:z0z.Q
noncomputable def ac (G:Gs):List Ent:=[z0z.ent G.z0z]
noncomputable def b4 {R:Type} (G:Gs) (n:Nat) (s:ByteArray) (i:Int) (nx:ByteArray->Int->Option R) (k0:Bool->Option R) (k1:Option R):Option R:=
 bif decide (i < (ByteArray.size s : Int)) then
  (
  (sIx s i).bind λb=>
  (G.z0z b).bind λr=>
  bif !r then
   (k0 false)
  else
   bif decide (i=0)then
    (
    (sIx s i).bind λb2=>
    bif decide (b2<=57)then
     (k0 false)
    else
     nx s (wr (i+1))
    )
   else
    nx s (wr (i+1))
  )
 else
  k1
noncomputable def l4 {R:Type} (G:Gs) (n m:Nat) (s:ByteArray) (i:Int) (k0:Bool->Option R) (k1:Option R):Option R:=aB (λ(v:ByteArray×Int) nx=>b4 G n v.1 v.2 (λy0 y1=>nx (y0,y1)) k0 k1) m (s,i)
noncomputable def main {R:Type} (G:Gs) (n:Nat) (s:ByteArray) (K:Bool->Option R):Option R:=
 bif decide ((ByteArray.size s:Int)<1)then
  (K false)
 else
  bif decide (12<(ByteArray.size s:Int))then
   (K false)
  else
   bif sEq s (ByteArray.mk #[105,102])then
    (K false)
   else
    bif sEq s (ByteArray.mk #[97,110,100])then
     (K false)
    else
     l4 G n n s 0
      (λt2=>K t2)
      (K true)
noncomputable def dl4 (G:Gs) (n m:Nat) (R:Type) (st:St) (K:Kt R):Option R:=match st with
 |⟨[(0,.one (.s s)),(3,.one (.i i))],[]⟩=>l4 G n m s i (λt2=>K .ret ⟨[(2,.one (.b t2))],[]⟩) (K (.exit 0) ⟨[],[]⟩)
 |_=>none
noncomputable def pc (G:Gs) (n:Nat):Pcs:=⟨λR id st K=>bif Nat.beq id 4 then dl4 G n n R st K else none,nK,nK⟩
noncomputable def an:Ann:=⟨41,0,[(4,[0,3])],[],[2],[],[]⟩
noncomputable abbrev bd:=aj Tryz.f104
noncomputable abbrev q4:=ak [1,1,0,1,0,0] bd
theorem pl4 {G:Gs} (hG:AE (ac G)) (n:Nat):∀m,PO an (.loop q4) (dl4 G n m):=lpc hG (pc G n) [0,3] ⟨[],[2],[(0,[])]⟩ (apl [] trivial) (λR st K=>by unfold dl4;split<;>rfl) λm R st K r h=>by unfold dl4 at h;split at h;exact .trans (by kernel_rfl) h;cases h
theorem ok {G:Gs} (hG:AE (ac G)) {g:Q} (hg:∀s r,g s=some r->∃n,main (R:=AT×List Ob) G n s (λr0=>some (.one (.b r0),[]))=some (.one (.b r),[])):EO (ent g):=λR xs H K r hc=>by
 simp only[ent]at hc;split at hc
 ·exact okL hc λr j=>let⟨n,j⟩:=hg _ _ j;fF hG an (pc G n) Tryz.func104 j (apl [(1,4,.loop q4)] ⟨pl4 hG n n,trivial⟩)
 ·cases hc
end z09
namespace z14
structure Gs where
 none_:Unit
noncomputable def ac (_:Gs):List Ent:=[]
noncomputable def b3 {R:Type} (G:Gs) (n:Nat) (t12 t13:Int) (h0:LB) (h02:LS) (h1:LI) (nx:Int->Int->LB->LS->LI->Option R) (k0:LB->LS->LI->Option R):Option R:=
 bif decide (t13<t12)then
  (
  (bif decide (0<=t13)then some (Abs.am .shl .i64 1 t13)else none).bind λq=>
  (ix h1 t13).bind λe=>
  nx t12 (wr (t13+1)) h0 h02 (List.set h1 (Int.toNat t13) q)
  )
 else
  k0 h0 h02 h1
noncomputable def l3 {R:Type} (G:Gs) (n m:Nat) (t12 t13:Int) (h0:LB) (h02:LS) (h1:LI) (k0:LB->LS->LI->Option R):Option R:=aB (λ(v:Int×Int×LB×LS×LI) nx=>b3 G n v.1 v.2.1 v.2.2.1 v.2.2.2.1 v.2.2.2.2 (λy0 y1 y2 y3 y4=>nx (y0,y1,y2,y3,y4)) k0) m (t12,t13,h0,h02,h1)
noncomputable def b10 {R:Type} (G:Gs) (n:Nat) (t23 t24:Int) (t27:LS) (t28 t29:Int) (h0:LB) (h02:LS) (h1:LI) (nx:Int->Int->LS->Int->Int->LB->LS->LI->Option R) (k0:Int->Int->LB->LS->LI->Option R):Option R:=
 bif decide (t29<t28)then
  (
  (ix t27 t29).bind λe=>
  (ix h1 e.low).bind λe9=>
  (ix h1 e.high).bind λe11=>
  (ix h1 e.low).bind λe13=>
  nx t23 t24 t27 t28 (wr (t29+1)) h0 h02 (List.set h1 (Int.toNat e.low) (Abs.am .or .i64 e9 e11))
  )
 else
  k0 t23 t24 h0 h02 h1
noncomputable def l10 {R:Type} (G:Gs) (n m:Nat) (t23 t24:Int) (t27:LS) (t28 t29:Int) (h0:LB) (h02:LS) (h1:LI) (k0:Int->Int->LB->LS->LI->Option R):Option R:=aB (λ(v:Int×Int×LS×Int×Int×LB×LS×LI) nx=>b10 G n v.1 v.2.1 v.2.2.1 v.2.2.2.1 v.2.2.2.2.1 v.2.2.2.2.2.1 v.2.2.2.2.2.2.1 v.2.2.2.2.2.2.2 (λy0 y1 y2 y3 y4 y5 y6 y7=>nx (y0,y1,y2,y3,y4,y5,y6,y7)) k0) m (t23,t24,t27,t28,t29,h0,h02,h1)
noncomputable def b8 {R:Type} (G:Gs) (n:Nat) (t23 t24:Int) (h0:LB) (h02:LS) (h1:LI) (nx:Int->Int->LB->LS->LI->Option R) (k0:LI->Option R):Option R:=
 bif decide (t24<t23)then
  (
  l10 G n n t23 t24 h02 (List.length h02:Int) 0 h0 h02 h1
   (λt232 t242 h03 h022 h12=>nx t232 (wr (t242+1)) h03 h022 h12)
  )
 else
  k0 h1
noncomputable def l8 {R:Type} (G:Gs) (n m:Nat) (t23 t24:Int) (h0:LB) (h02:LS) (h1:LI) (k0:LI->Option R):Option R:=aB (λ(v:Int×Int×LB×LS×LI) nx=>b8 G n v.1 v.2.1 v.2.2.1 v.2.2.2.1 v.2.2.2.2 (λy0 y1 y2 y3 y4=>nx (y0,y1,y2,y3,y4)) k0) m (t23,t24,h0,h02,h1)
noncomputable def main {R:Type} (G:Gs) (n:Nat) (s:So) (K:LI->Option R):Option R:=
 (mk (α:=Int) 0 (List.length s.names:Int)).bind λxs=>
 l3 G n n (List.length xs : Int) 0 s.names s.subs xs
  (fun h0 h02 h1 =>
   l8 G n n (List.length h1:Int) 0 h0 h02 h1
    (λh03=>K h03)
  )
noncomputable def dl3 (G:Gs) (n m:Nat) (R:Type) (st:St) (K:Kt R):Option R:=match st with
 |⟨[(1,.one (.p 0 0)),(3,.one (.o 1)),(12,.one (.i t12)),(13,.one (.i t13))],[.box [.l .s h0,.l (.n 5) h02],.row .i 0 h1]⟩=>l3 G n m t12 t13 h0 h02 h1 (λh0 h02 h1=>K (.exit 0) ⟨[(1,.one (.p 0 0)),(3,.one (.o 1))],[.box [.l .s h0,.l (.n 5) h02],.row .i 0 h1]⟩)
 |_=>none
noncomputable def ei (G:Gs) (n m:Nat) (R:Type) (st:St) (K:Kt R):Option R:=match st with
 |⟨[(1,.one (.p 0 0)),(3,.one (.o 1)),(23,.one (.i t23)),(24,.one (.i t24)),(27,.one (.l (.n 5) t27)),(28,.one (.i t28)),(29,.one (.i t29))],[.box [.l .s h0,.l (.n 5) h02],.row .i 0 h1]⟩=>l10 G n m t23 t24 t27 t28 t29 h0 h02 h1 (λt23 t24 h0 h02 h1=>K (.exit 4) ⟨[(1,.one (.p 0 0)),(3,.one (.o 1)),(23,.one (.i t23)),(24,.one (.i t24))],[.box [.l .s h0,.l (.n 5) h02],.row .i 0 h1]⟩)
 |_=>none
noncomputable def dl8 (G:Gs) (n m:Nat) (R:Type) (st:St) (K:Kt R):Option R:=match st with
 |⟨[(1,.one (.p 0 0)),(3,.one (.o 1)),(23,.one (.i t23)),(24,.one (.i t24))],[.box [.l .s h0,.l (.n 5) h02],.row .i 0 h1]⟩=>l8 G n m t23 t24 h0 h02 h1 (λh0=>K (.exit 2) ⟨[(3,.one (.o 0))],[.row .i 0 h0]⟩)
 |_=>none
noncomputable def pc (G:Gs) (n:Nat):Pcs:=⟨λR id st K=>bif Nat.beq id 3 then dl3 G n n R st K else bif Nat.beq id 10 then ei G n n R st K else bif Nat.beq id 8 then dl8 G n n R st K else none,nK,nK⟩
noncomputable def an:Ann:=⟨51,0,[(3,[1,3,12,13]),(10,[1,3,23,24,27,28,29]),(8,[1,3,23,24])],[],[2],[(12,⟨[([0,1,2,3,4,5,6,7,8,9,10,11,12,13,14,15],[15],[6,7,11,12,14])],[15],[],[0,2],[]⟩)],[]⟩
noncomputable abbrev bd:=aj Tryz.f108
noncomputable abbrev q3:=ak [1,1,0,1,0,0] bd
noncomputable abbrev q10:=ak [1,1,1,0,1,0,0,1,1,0,0,1,0,0] bd
noncomputable abbrev q8:=ak [1,1,1,0,1,0,0] bd
theorem pl3 {G:Gs} (hG:AE (ac G)) (n:Nat):∀m,PO an (.loop q3) (dl3 G n m):=lpc hG (pc G n) [1,3,12,13] ⟨[1,3],[2],[(0,[1,3])]⟩ (apl [] trivial) (λR st K=>by unfold dl3;split<;>rfl) λm R st K r h=>by unfold dl3 at h;split at h;exact .trans (by kernel_rfl) h;cases h
theorem pT {G:Gs} (hG:AE (ac G)) (n:Nat):∀m,PO an (.loop q10) (ei G n m):=lpc hG (pc G n) [1,3,23,24,27,28,29] ⟨[1,3,23,24],[2],[(2,[3]),(3,[1,3,23,24]),(4,[1,3,23,24])]⟩ (apl [] trivial) (λR st K=>by unfold ei;split<;>rfl) λm R st K r h=>by unfold ei at h;split at h;exact .trans (by kernel_rfl) h;cases h
theorem pl8 {G:Gs} (hG:AE (ac G)) (n:Nat):∀m,PO an (.loop q8) (dl8 G n m):=lpc hG (pc G n) [1,3,23,24] ⟨[3],[2],[(2,[3])]⟩ (apl [(1,10,.loop q10)] ⟨pT hG n n,trivial⟩) (λR st K=>by unfold dl8;split<;>rfl) λm R st K r h=>by unfold dl8 at h;split at h;exact .trans (by kernel_rfl) h;cases h
theorem ok {G:Gs} (hG:AE (ac G)) {g:Q} (hg:∀s r,g s=some r->∃n,main (R:=AT×List Ob) G n s (λr0=>some (.one (.l .i r0),[]))=some (.one (.l .i r),[])):EO (ent g):=λR xs H K r hc=>by
 simp only[ent]at hc;split at hc
 ·exact okL hc λr j=>let⟨n,j⟩:=hg _ _ j;fF hG an (pc G n) Tryz.func108 j (apl [(1,3,.loop q3),(1,8,.loop q8)] ⟨pl3 hG n n,⟨pl8 hG n n,trivial⟩⟩)
 ·cases hc
end z14
namespace z0d
structure Gs where
 z09:z09.Q
 z14:z14.Q
noncomputable def ac (G:Gs):List Ent:=[z09.ent G.z09,z14.ent G.z14]
noncomputable def b6 {R:Type} (G:Gs) (n:Nat) (n1:Int) (t29:LB) (t30 t31:Int) (h0:LB) (h02:LS) (h1:List (ByteArray×Bool)) (nx:Int->LB->Int->Int->LB->LS->(List (ByteArray×Bool))->Option R) (k0:Bool->Option R) (k1:Int->LB->LS->Option R):Option R:=
 bif decide (t31<t30)then
  (
  (ix t29 t31).bind λe=>
  bif mM h1 e false then
   (k0 false)
  else
   (G.z09 e).bind λr=>
   bif !r then
    (k0 false)
   else
    nx n1 t29 t30 (wr (t31+1)) h0 h02 ((e,true)::h1)
  )
 else
  k1 n1 h0 h02
noncomputable def l6 {R:Type} (G:Gs) (n m:Nat) (n1:Int) (t29:LB) (t30 t31:Int) (h0:LB) (h02:LS) (h1:List (ByteArray×Bool)) (k0:Bool->Option R) (k1:Int->LB->LS->Option R):Option R:=aB (λ(v:Int×LB×Int×Int×LB×LS×(List (ByteArray×Bool))) nx=>b6 G n v.1 v.2.1 v.2.2.1 v.2.2.2.1 v.2.2.2.2.1 v.2.2.2.2.2.1 v.2.2.2.2.2.2 (λy0 y1 y2 y3 y4 y5 y6=>nx (y0,y1,y2,y3,y4,y5,y6)) k0 k1) m (n1,t29,t30,t31,h0,h02,h1)
noncomputable def b13 {R:Type} (G:Gs) (n:Nat) (n1:Int) (t47:LS) (t48 t49:Int) (h0:LB) (h02:LS) (nx:Int->LS->Int->Int->LB->LS->Option R) (k0:Bool->Option R) (k1:LB->LS->Option R):Option R:=
 bif decide (t49 < t48) then
  (
  (ix t47 t49).bind λe=>
  bif decide (e.low<0)then
   (k0 false)
  else
   bif decide (n1<=e.low)then
    (k0 false)
   else
    bif decide (e.high<0)then
     (k0 false)
    else
     bif decide (n1<=e.high)then
      (k0 false)
     else
      bif decide (e.low=e.high)then
       (k0 false)
      else
       nx n1 t47 t48 (wr (t49+1)) h0 h02
  )
 else
  k1 h0 h02
noncomputable def l13 {R:Type} (G:Gs) (n m:Nat) (n1:Int) (t47:LS) (t48 t49:Int) (h0:LB) (h02:LS) (k0:Bool->Option R) (k1:LB->LS->Option R):Option R:=aB (λ(v:Int×LS×Int×Int×LB×LS) nx=>b13 G n v.1 v.2.1 v.2.2.1 v.2.2.2.1 v.2.2.2.2.1 v.2.2.2.2.2 (λy0 y1 y2 y3 y4 y5=>nx (y0,y1,y2,y3,y4,y5)) k0 k1) m (n1,t47,t48,t49,h0,h02)
noncomputable def b23 {R:Type} (G:Gs) (n:Nat) (above:LI) (i t84 t85 t89 t90:Int) (nx:LI->Int->Int->Int->Int->Int->Option R) (k0:Bool->Option R) (k1:LI->Int->Int->Option R):Option R:=
 bif decide (t90 < t89) then
  (
  bif !decide (i=t90)then
   (
   (ix above i).bind λe2=>
   (bif decide (0<=t90)then some (Abs.am .shl .i64 1 t90)else none).bind λq2=>
   bif !decide ((Abs.am .and .i64 e2 q2)=0)then
    (
    (ix above t90).bind λe4=>
    (bif decide (0<=i)then some (Abs.am .shl .i64 1 i)else none).bind λq4=>
    bif !decide ((Abs.am .and .i64 e4 q4)=0)then
     (k0 false)
    else
     nx above i t84 t85 t89 (wr (t90+1))
    )
   else
    nx above i t84 t85 t89 (wr (t90+1))
   )
  else
   nx above i t84 t85 t89 (wr (t90+1))
  )
 else
  k1 above t84 t85
noncomputable def l23 {R:Type} (G:Gs) (n m:Nat) (above:LI) (i t84 t85 t89 t90:Int) (k0:Bool->Option R) (k1:LI->Int->Int->Option R):Option R:=aB (λ(v:LI×Int×Int×Int×Int×Int) nx=>b23 G n v.1 v.2.1 v.2.2.1 v.2.2.2.1 v.2.2.2.2.1 v.2.2.2.2.2 (λy0 y1 y2 y3 y4 y5=>nx (y0,y1,y2,y3,y4,y5)) k0 k1) m (above,i,t84,t85,t89,t90)
noncomputable def b20 {R:Type} (G:Gs) (n:Nat) (above:LI) (t84 t85:Int) (nx:LI->Int->Int->Option R) (k0:Bool->Option R) (k1:Option R):Option R:=
 bif decide (t85<t84)then
  (
  l23 G n n above t85 t84 t85 (List.length above:Int) 0
   (λt2=>k0 t2)
   (λabove2 t842 t852=>nx above2 t842 (wr (t852+1)))
  )
 else
  k1
noncomputable def l20 {R:Type} (G:Gs) (n m:Nat) (above:LI) (t84 t85:Int) (k0:Bool->Option R) (k1:Option R):Option R:=aB (λ(v:LI×Int×Int) nx=>b20 G n v.1 v.2.1 v.2.2 (λy0 y1 y2=>nx (y0,y1,y2)) k0 k1) m (above,t84,t85)
noncomputable def main {R:Type} (G:Gs) (n:Nat) (s:So) (K:Bool->Option R):Option R:=
 bif decide ((List.length s.names:Int)<1)then
  (K false)
 else
  bif decide (8<(List.length s.names:Int))then
   (K false)
  else
   bif decide (16<(List.length s.subs:Int))then
    (K false)
   else
    l6 G n n (List.length s.names : Int) s.names (List.length s.names : Int) 0 s.names s.subs []
     (λt2=>K t2)
     (fun n1 h0 h02 =>
      l13 G n n n1 h02 (List.length h02:Int) 0 h0 h02
       (λt22=>K t22)
       (fun h03 h022 =>
        (G.z14 (So.mk h03 h022)).bind λr=>
        l20 G n n r (List.length r:Int) 0
         (λt23=>K t23)
         (K true)
       )
     )
noncomputable def dl6 (G:Gs) (n m:Nat) (R:Type) (st:St) (K:Kt R):Option R:=match st with
 |⟨[(1,.one (.p 0 0)),(3,.one (.i n1)),(4,.one (.m 1)),(29,.one (.l .s t29)),(30,.one (.i t30)),(31,.one (.i t31))],[.box [.l .s h0,.l (.n 5) h02],.map .b h1]⟩=>l6 G n m n1 t29 t30 t31 h0 h02 h1 (λt2=>K .ret ⟨[(2,.one (.b t2))],[]⟩) (λn1 h0 h02=>K (.exit 0) ⟨[(1,.one (.p 0 0)),(3,.one (.i n1))],[.box [.l .s h0,.l (.n 5) h02]]⟩)
 |_=>none
noncomputable def kF (G:Gs) (n m:Nat) (R:Type) (st:St) (K:Kt R):Option R:=match st with
 |⟨[(1,.one (.p 0 0)),(3,.one (.i n1)),(47,.one (.l (.n 5) t47)),(48,.one (.i t48)),(49,.one (.i t49))],[.box [.l .s h0,.l (.n 5) h02]]⟩=>l13 G n m n1 t47 t48 t49 h0 h02 (λt2=>K .ret ⟨[(2,.one (.b t2))],[]⟩) (λh0 h02=>K (.exit 2) ⟨[(1,.one (.p 0 0))],[.box [.l .s h0,.l (.n 5) h02]]⟩)
 |_=>none
noncomputable def Cv (G:Gs) (n m:Nat) (R:Type) (st:St) (K:Kt R):Option R:=match st with
 |⟨[(9,.one (.l .i above)),(10,.one (.i i)),(84,.one (.i t84)),(85,.one (.i t85)),(89,.one (.i t89)),(90,.one (.i t90))],[]⟩=>l23 G n m above i t84 t85 t89 t90 (λt2=>K .ret ⟨[(2,.one (.b t2))],[]⟩) (λabove t84 t85=>K (.exit 6) ⟨[(9,.one (.l .i above)),(84,.one (.i t84)),(85,.one (.i t85))],[]⟩)
 |_=>none
noncomputable def Dl (G:Gs) (n m:Nat) (R:Type) (st:St) (K:Kt R):Option R:=match st with
 |⟨[(9,.one (.l .i above)),(84,.one (.i t84)),(85,.one (.i t85))],[]⟩=>l20 G n m above t84 t85 (λt2=>K .ret ⟨[(2,.one (.b t2))],[]⟩) (K (.exit 4) ⟨[],[]⟩)
 |_=>none
noncomputable def pc (G:Gs) (n:Nat):Pcs:=⟨λR id st K=>bif Nat.beq id 6 then dl6 G n n R st K else bif Nat.beq id 13 then kF G n n R st K else bif Nat.beq id 23 then Cv G n n R st K else bif Nat.beq id 20 then Dl G n n R st K else none,nK,nK⟩
noncomputable def an:Ann:=⟨118,0,[(6,[1,3,4,29,30,31]),(13,[1,3,47,48,49]),(23,[9,10,84,85,89,90]),(20,[9,84,85])],[],[2],[(25,⟨[([0,1,2,3,4,5,6,7,8,9,10,11,12,13,14,15,16,17,18,19,20,21,22],[],[])],[],[],[],[]⟩)],[]⟩
noncomputable abbrev bd:=aj Tryz.f107
noncomputable abbrev q6:=ak [1,1,1,1,0,1,0,0] bd
noncomputable abbrev q13:=ak [1,1,1,1,1,0,1,0,0] bd
noncomputable abbrev q23:=ak [1,1,1,1,1,1,1,0,1,0,0,1,1,0,0,1,1,0,0] bd
noncomputable abbrev q20:=ak [1,1,1,1,1,1,1,0,1,0,0] bd
theorem pl6 {G:Gs} (hG:AE (ac G)) (n:Nat):∀m,PO an (.loop q6) (dl6 G n m):=lpc hG (pc G n) [1,3,4,29,30,31] ⟨[1,3],[2],[(0,[1,3])]⟩ (apl [] trivial) (λR st K=>by unfold dl6;split<;>rfl) λm R st K r h=>by unfold dl6 at h;split at h;exact .trans (by kernel_rfl) h;cases h
theorem yB {G:Gs} (hG:AE (ac G)) (n:Nat):∀m,PO an (.loop q13) (kF G n m):=lpc hG (pc G n) [1,3,47,48,49] ⟨[1],[2],[(2,[1])]⟩ (apl [] trivial) (λR st K=>by unfold kF;split<;>rfl) λm R st K r h=>by unfold kF at h;split at h;exact .trans (by kernel_rfl) h;cases h
theorem pl23 {G:Gs} (hG:AE (ac G)) (n:Nat):∀m,PO an (.loop q23) (Cv G n m):=lpc hG (pc G n) [9,10,84,85,89,90] ⟨[9,84,85],[2],[(4,[]),(5,[9,84,85]),(6,[9,84,85])]⟩ (apl [] trivial) (λR st K=>by unfold Cv;split<;>rfl) λm R st K r h=>by unfold Cv at h;split at h;exact .trans (by kernel_rfl) h;cases h
theorem pl20 {G:Gs} (hG:AE (ac G)) (n:Nat):∀m,PO an (.loop q20) (Dl G n m):=lpc hG (pc G n) [9,84,85] ⟨[],[2],[(4,[])]⟩ (apl [(1,23,.loop q23)] ⟨pl23 hG n n,trivial⟩) (λR st K=>by unfold Dl;split<;>rfl) λm R st K r h=>by unfold Dl at h;split at h;exact .trans (by kernel_rfl) h;cases h
theorem ok {G:Gs} (hG:AE (ac G)) {g:Q} (hg:∀s r,g s=some r->∃n,main (R:=AT×List Ob) G n s (λr0=>some (.one (.b r0),[]))=some (.one (.b r),[])):EO (ent g):=λR xs H K r hc=>by
 simp only[ent]at hc;split at hc
 ·exact okL hc λr j=>let⟨n,j⟩:=hg _ _ j;fF hG an (pc G n) Tryz.func107 j (apl [(1,6,.loop q6),(1,13,.loop q13),(1,20,.loop q20)] ⟨pl6 hG n n,⟨yB hG n n,⟨pl20 hG n n,trivial⟩⟩⟩)
 ·cases hc
end z0d
namespace z12
structure Gs where
 z0d:z0d.Q
 z14:z14.Q
 z0f:z0f.Q
noncomputable def ac (G:Gs):List Ent:=[z0d.ent G.z0d,z14.ent G.z14,z0f.ent G.z0f]
noncomputable def d4 {R:Type} (G:Gs) (n:Nat) (n1:Int) (h0:LB) (h02:LS) (h2 h3 h4:LI) (k0:Int->LB->LS->LI->LI->LI->LI->LI->LI->Option R):Option R:=
 (mk (α:=Int) 0 n1).bind λxs=>
 (mk (α:=Int) 0 n1).bind λxs2=>
 (G.z14 (So.mk h0 h02)).bind λr2=>
 k0 n1 h0 h02 h2 h3 h4 r2 xs xs2
noncomputable def uN {R:Type} (G:Gs) (n:Nat) (n1:Int) (h0:LB) (h02:LS) (h2 h3 h4:LI) (k0:Int->LB->LS->LI->LI->LI->LI->LI->LI->Option R):Option R:=
 (mk (α:=Int) 0 n1).bind λxs=>
 (mk (α:=Int) 0 n1).bind λxs2=>
 (G.z14 (So.mk h0 h02)).bind λr2=>
 k0 n1 h0 h02 h2 h3 h4 r2 xs xs2
theorem Ea {R:Type} (G:Gs) (n:Nat) (n1:Int) (h0:LB) (h02:LS) (h2 h3 h4:LI) (k0:Int->LB->LS->LI->LI->LI->LI->LI->LI->Option R):uN G n n1 h0 h02 h2 h3 h4 k0=d4 G n n1 h0 h02 h2 h3 h4 k0:=by
 unfold uN d4;generalize mk (α:=Int) 0 n1=o0;generalize G.z14 (So.mk h0 h02)=o1;cases o0<;>cases o1<;>first|rfl|simp
noncomputable def uj {R:Type} (G:Gs) (n:Nat) (n1:Int) (h0:LB) (h02:LS) (h2 h3 h4:LI) (k0:Int->LB->LS->LI->LI->LI->LI->LI->LI->Option R):Option R:=
 (mk (α:=Int) 0 n1).bind λxs=>
 (mk (α:=Int) 0 n1).bind λxs2=>
 (G.z14 (So.mk h0 h02)).bind λr2=>
 k0 n1 h0 h02 h2 h3 h4 r2 xs2 xs
theorem D7 {R:Type} (G:Gs) (n:Nat) (n1:Int) (h0:LB) (h02:LS) (h2 h3 h4:LI) (k0:Int->LB->LS->LI->LI->LI->LI->LI->LI->Option R):uj G n n1 h0 h02 h2 h3 h4 k0=d4 G n n1 h0 h02 h2 h3 h4 k0:=by
 unfold uj d4;generalize mk (α:=Int) 0 n1=o0;generalize G.z14 (So.mk h0 h02)=o1;cases o0<;>cases o1<;>first|rfl|simp
noncomputable def EH {R:Type} (G:Gs) (n:Nat) (n1:Int) (h0:LB) (h02:LS) (h2 h3 h4:LI) (k0:Int->LB->LS->LI->LI->LI->LI->LI->LI->Option R):Option R:=
 (mk (α:=Int) 0 n1).bind λxs=>
 (mk (α:=Int) 0 n1).bind λxs2=>
 (G.z14 (So.mk h0 h02)).bind λr2=>
 k0 n1 h0 h02 h2 h3 h4 r2 xs2 xs
theorem e4_3 {R:Type} (G:Gs) (n:Nat) (n1:Int) (h0:LB) (h02:LS) (h2 h3 h4:LI) (k0:Int->LB->LS->LI->LI->LI->LI->LI->LI->Option R):EH G n n1 h0 h02 h2 h3 h4 k0=d4 G n n1 h0 h02 h2 h3 h4 k0:=by
 unfold EH d4;generalize mk (α:=Int) 0 n1=o0;generalize G.z14 (So.mk h0 h02)=o1;cases o0<;>cases o1<;>first|rfl|simp
noncomputable def xY {R:Type} (G:Gs) (n:Nat) (n1:Int) (h0:LB) (h02:LS) (h2 h3 h4:LI) (k0:Int->LB->LS->LI->LI->LI->LI->LI->LI->Option R):Option R:=
 (mk (α:=Int) 0 n1).bind λxs=>
 (mk (α:=Int) 0 n1).bind λxs2=>
 (G.z14 (So.mk h0 h02)).bind λr2=>
 k0 n1 h0 h02 h2 h3 h4 r2 xs xs2
theorem e4_4 {R:Type} (G:Gs) (n:Nat) (n1:Int) (h0:LB) (h02:LS) (h2 h3 h4:LI) (k0:Int->LB->LS->LI->LI->LI->LI->LI->LI->Option R):xY G n n1 h0 h02 h2 h3 h4 k0=d4 G n n1 h0 h02 h2 h3 h4 k0:=by
 unfold xY d4;generalize mk (α:=Int) 0 n1=o0;generalize G.z14 (So.mk h0 h02)=o1;cases o0<;>cases o1<;>first|rfl|simp
noncomputable def EK {R:Type} (G:Gs) (n:Nat) (n1:Int) (h0:LB) (h02:LS) (h2 h3 h4:LI) (k0:Int->LB->LS->LI->LI->LI->LI->LI->LI->Option R):Option R:=
 (mk (α:=Int) 0 n1).bind λxs=>
 (mk (α:=Int) 0 n1).bind λxs2=>
 (G.z14 (So.mk h0 h02)).bind λr2=>
 k0 n1 h0 h02 h2 h3 h4 r2 xs2 xs
theorem e4_5 {R:Type} (G:Gs) (n:Nat) (n1:Int) (h0:LB) (h02:LS) (h2 h3 h4:LI) (k0:Int->LB->LS->LI->LI->LI->LI->LI->LI->Option R):EK G n n1 h0 h02 h2 h3 h4 k0=d4 G n n1 h0 h02 h2 h3 h4 k0:=by
 unfold EK d4;generalize mk (α:=Int) 0 n1=o0;generalize G.z14 (So.mk h0 h02)=o1;cases o0<;>cases o1<;>first|rfl|simp
noncomputable def b9 {R:Type} (G:Gs) (n:Nat) (n1 i:Int) (t28:LI) (t29 t30:Int) (t36:LI) (t37 t38:Int) (h0:LB) (h02:LS) (h2 h3 h4 h5 h6 h7:LI) (nx:Int->Int->LI->Int->Int->LI->Int->Int->LB->LS->LI->LI->LI->LI->LI->LI->Option R) (k0:Int->Int->LI->Int->Int->LB->LS->LI->LI->LI->LI->LI->LI->Option R):Option R:=
 bif decide (t38<t37)then
  (
  (ix t36 t38).bind λe=>
  (ix h6 e).bind λe7=>
  (bif decide (0<=i)then some (Abs.am .shl .i64 1 i)else none).bind λq4=>
  (ix h6 e).bind λe9=>
  nx n1 i t28 t29 t30 t36 t37 (wr (t38+1)) h0 h02 h2 h3 h4 h5 (List.set h6 (Int.toNat e) (Abs.am .or .i64 e7 q4)) h7
  )
 else
  k0 n1 i t28 t29 t30 h0 h02 h2 h3 h4 h5 h6 h7
noncomputable def l9 {R:Type} (G:Gs) (n m:Nat) (n1 i:Int) (t28:LI) (t29 t30:Int) (t36:LI) (t37 t38:Int) (h0:LB) (h02:LS) (h2 h3 h4 h5 h6 h7:LI) (k0:Int->Int->LI->Int->Int->LB->LS->LI->LI->LI->LI->LI->LI->Option R):Option R:=aB (λ(v:Int×Int×LI×Int×Int×LI×Int×Int×LB×LS×LI×LI×LI×LI×LI×LI) nx=>b9 G n v.1 v.2.1 v.2.2.1 v.2.2.2.1 v.2.2.2.2.1 v.2.2.2.2.2.1 v.2.2.2.2.2.2.1 v.2.2.2.2.2.2.2.1 v.2.2.2.2.2.2.2.2.1 v.2.2.2.2.2.2.2.2.2.1 v.2.2.2.2.2.2.2.2.2.2.1 v.2.2.2.2.2.2.2.2.2.2.2.1 v.2.2.2.2.2.2.2.2.2.2.2.2.1 v.2.2.2.2.2.2.2.2.2.2.2.2.2.1 v.2.2.2.2.2.2.2.2.2.2.2.2.2.2.1 v.2.2.2.2.2.2.2.2.2.2.2.2.2.2.2 (λy0 y1 y2 y3 y4 y5 y6 y7 y8 y9 y10 y11 y12 y13 y14 y15=>nx (y0,y1,y2,y3,y4,y5,y6,y7,y8,y9,y10,y11,y12,y13,y14,y15)) k0) m (n1,i,t28,t29,t30,t36,t37,t38,h0,h02,h2,h3,h4,h5,h6,h7)
noncomputable def b6 {R:Type} (G:Gs) (n:Nat) (n1:Int) (t28:LI) (t29 t30:Int) (h0:LB) (h02:LS) (h2 h3 h4 h5 h6 h7:LI) (nx:Int->LI->Int->Int->LB->LS->LI->LI->LI->LI->LI->LI->Option R) (k0:Int->LB->LS->LI->LI->LI->LI->LI->LI->Option R):Option R:=
 bif decide (t30<t29)then
  (
  (ix t28 t30).bind λe=>
  (G.z0f e).bind λr=>
  l9 G n n n1 t30 t28 t29 t30 r (List.length r:Int) 0 h0 h02 h2 h3 h4 h5 h6 h7
   (fun n12 i t282 t292 t302 h03 h022 h22 h32 h42 h52 h62 h72 =>
    (ix h72 i).bind λe2=>
    nx n12 t282 t292 (wr (t302+1)) h03 h022 h22 h32 h42 h52 h62 (List.set h72 (Int.toNat i) i)
   )
  )
 else
  k0 n1 h0 h02 h2 h3 h4 h5 h6 h7
noncomputable def l6 {R:Type} (G:Gs) (n m:Nat) (n1:Int) (t28:LI) (t29 t30:Int) (h0:LB) (h02:LS) (h2 h3 h4 h5 h6 h7:LI) (k0:Int->LB->LS->LI->LI->LI->LI->LI->LI->Option R):Option R:=aB (λ(v:Int×LI×Int×Int×LB×LS×LI×LI×LI×LI×LI×LI) nx=>b6 G n v.1 v.2.1 v.2.2.1 v.2.2.2.1 v.2.2.2.2.1 v.2.2.2.2.2.1 v.2.2.2.2.2.2.1 v.2.2.2.2.2.2.2.1 v.2.2.2.2.2.2.2.2.1 v.2.2.2.2.2.2.2.2.2.1 v.2.2.2.2.2.2.2.2.2.2.1 v.2.2.2.2.2.2.2.2.2.2.2 (λy0 y1 y2 y3 y4 y5 y6 y7 y8 y9 y10 y11=>nx (y0,y1,y2,y3,y4,y5,y6,y7,y8,y9,y10,y11)) k0) m (n1,t28,t29,t30,h0,h02,h2,h3,h4,h5,h6,h7)
noncomputable def b18 {R:Type} (G:Gs) (n:Nat) (t61 t62:Int) (t65:LS) (t66 t67:Int) (h0:LB) (h02:LS) (h2 h3 h4 h5 h6 h7:LI) (nx:Int->Int->LS->Int->Int->LB->LS->LI->LI->LI->LI->LI->LI->Option R) (k0:Int->Int->LB->LS->LI->LI->LI->LI->LI->LI->Option R):Option R:=
 bif decide (t67<t66)then
  (
  (ix t65 t67).bind λe=>
  (ix h7 e.low).bind λe3=>
  (ix h7 e.high).bind λe5=>
  (ix h7 e.low).bind λe6=>
  (ix (List.set h7 (Int.toNat e.low) (gi e3 e5)) e.high).bind λe7=>
  nx t61 t62 t65 t66 (wr (t67+1)) h0 h02 h2 h3 h4 h5 h6 (List.set (List.set h7 (Int.toNat e.low) (gi e3 e5)) (Int.toNat e.high) (gi e3 e5))
  )
 else
  k0 t61 t62 h0 h02 h2 h3 h4 h5 h6 h7
noncomputable def l18 {R:Type} (G:Gs) (n m:Nat) (t61 t62:Int) (t65:LS) (t66 t67:Int) (h0:LB) (h02:LS) (h2 h3 h4 h5 h6 h7:LI) (k0:Int->Int->LB->LS->LI->LI->LI->LI->LI->LI->Option R):Option R:=aB (λ(v:Int×Int×LS×Int×Int×LB×LS×LI×LI×LI×LI×LI×LI) nx=>b18 G n v.1 v.2.1 v.2.2.1 v.2.2.2.1 v.2.2.2.2.1 v.2.2.2.2.2.1 v.2.2.2.2.2.2.1 v.2.2.2.2.2.2.2.1 v.2.2.2.2.2.2.2.2.1 v.2.2.2.2.2.2.2.2.2.1 v.2.2.2.2.2.2.2.2.2.2.1 v.2.2.2.2.2.2.2.2.2.2.2.1 v.2.2.2.2.2.2.2.2.2.2.2.2 (λy0 y1 y2 y3 y4 y5 y6 y7 y8 y9 y10 y11 y12=>nx (y0,y1,y2,y3,y4,y5,y6,y7,y8,y9,y10,y11,y12)) k0) m (t61,t62,t65,t66,t67,h0,h02,h2,h3,h4,h5,h6,h7)
noncomputable def b16 {R:Type} (G:Gs) (n:Nat) (t61 t62:Int) (h0:LB) (h02:LS) (h2 h3 h4 h5 h6 h7:LI) (nx:Int->Int->LB->LS->LI->LI->LI->LI->LI->LI->Option R) (k0:LI->LI->LI->LI->LI->LI->Option R):Option R:=
 bif decide (t62<t61)then
  (
  l18 G n n t61 t62 h02 (List.length h02:Int) 0 h0 h02 h2 h3 h4 h5 h6 h7
   (λt612 t622 h03 h022 h22 h32 h42 h52 h62 h72=>nx t612 (wr (t622+1)) h03 h022 h22 h32 h42 h52 h62 h72)
  )
 else
  k0 h2 h3 h4 h5 h6 h7
noncomputable def l16 {R:Type} (G:Gs) (n m:Nat) (t61 t62:Int) (h0:LB) (h02:LS) (h2 h3 h4 h5 h6 h7:LI) (k0:LI->LI->LI->LI->LI->LI->Option R):Option R:=aB (λ(v:Int×Int×LB×LS×LI×LI×LI×LI×LI×LI) nx=>b16 G n v.1 v.2.1 v.2.2.1 v.2.2.2.1 v.2.2.2.2.1 v.2.2.2.2.2.1 v.2.2.2.2.2.2.1 v.2.2.2.2.2.2.2.1 v.2.2.2.2.2.2.2.2.1 v.2.2.2.2.2.2.2.2.2 (λy0 y1 y2 y3 y4 y5 y6 y7 y8 y9=>nx (y0,y1,y2,y3,y4,y5,y6,y7,y8,y9)) k0) m (t61,t62,h0,h02,h2,h3,h4,h5,h6,h7)
noncomputable def main {R:Type} (G:Gs) (n:Nat) (s:So) (K:Od->Bool->Option R):Option R:=
 (G.z0d s).bind λr=>
 bif !r then
  (K (Od.mk [] [] []) false)
 else
  d4 G n (List.length s.names : Int) s.names s.subs [] [] []
   (fun n1 h0 h02 h2 h3 h4 h5 h6 h7 =>
    l6 G n n n1 h5 (List.length h5 : Int) 0 h0 h02 h2 h3 h4 h5 h6 h7
     (fun n12 h03 h022 h22 h32 h42 h52 h62 h72 =>
      l16 G n n n12 0 h03 h022 h22 h32 h42 h52 h62 h72
       (λh1 h23 h33 h43 h53 h63=>K (Od.mk h43 h53 h63) true)
     )
   )
noncomputable def dd4 (G:Gs) (n:Nat) (R:Type) (st:St) (K:Kt R):Option R:=match st with
 |⟨[(1,.one (.p 0 0)),(2,.one (.p 1 0)),(4,.one (.i n1))],[.box [.l .s h0,.l (.n 5) h02],.box [.o 2,.o 3,.o 4],.row .i 0 h2,.row .i 0 h3,.row .i 0 h4]⟩=>d4 G n n1 h0 h02 h2 h3 h4 (λn1 h0 h02 h2 h3 h4 h5 h6 h7=>K .normal ⟨[(1,.one (.p 0 0)),(2,.one (.p 1 0)),(4,.one (.i n1)),(5,.one (.p 5 0))],[.box [.l .s h0,.l (.n 5) h02],.box [.o 2,.o 3,.o 4],.row .i 0 h2,.row .i 0 h3,.row .i 0 h4,.box [.l .i h5,.o 6,.o 7],.row .i 0 h6,.row .i 0 h7]⟩)
 |_=>none
noncomputable def dl9 (G:Gs) (n m:Nat) (R:Type) (st:St) (K:Kt R):Option R:=match st with
 |⟨[(1,.one (.p 0 0)),(2,.one (.p 1 0)),(4,.one (.i n1)),(5,.one (.p 5 0)),(6,.one (.i i)),(28,.one (.l .i t28)),(29,.one (.i t29)),(30,.one (.i t30)),(36,.one (.l .i t36)),(37,.one (.i t37)),(38,.one (.i t38))],[.box [.l .s h0,.l (.n 5) h02],.box [.o 2,.o 3,.o 4],.row .i 0 h2,.row .i 0 h3,.row .i 0 h4,.box [.l .i h5,.o 6,.o 7],.row .i 0 h6,.row .i 0 h7]⟩=>l9 G n m n1 i t28 t29 t30 t36 t37 t38 h0 h02 h2 h3 h4 h5 h6 h7 (λn1 i t28 t29 t30 h0 h02 h2 h3 h4 h5 h6 h7=>K (.exit 2) ⟨[(1,.one (.p 0 0)),(2,.one (.p 1 0)),(4,.one (.i n1)),(5,.one (.p 5 0)),(6,.one (.i i)),(28,.one (.l .i t28)),(29,.one (.i t29)),(30,.one (.i t30))],[.box [.l .s h0,.l (.n 5) h02],.box [.o 2,.o 3,.o 4],.row .i 0 h2,.row .i 0 h3,.row .i 0 h4,.box [.l .i h5,.o 6,.o 7],.row .i 0 h6,.row .i 0 h7]⟩)
 |_=>none
noncomputable def dl6 (G:Gs) (n m:Nat) (R:Type) (st:St) (K:Kt R):Option R:=match st with
 |⟨[(1,.one (.p 0 0)),(2,.one (.p 1 0)),(4,.one (.i n1)),(5,.one (.p 5 0)),(28,.one (.l .i t28)),(29,.one (.i t29)),(30,.one (.i t30))],[.box [.l .s h0,.l (.n 5) h02],.box [.o 2,.o 3,.o 4],.row .i 0 h2,.row .i 0 h3,.row .i 0 h4,.box [.l .i h5,.o 6,.o 7],.row .i 0 h6,.row .i 0 h7]⟩=>l6 G n m n1 t28 t29 t30 h0 h02 h2 h3 h4 h5 h6 h7 (λn1 h0 h02 h2 h3 h4 h5 h6 h7=>K (.exit 0) ⟨[(1,.one (.p 0 0)),(2,.one (.p 1 0)),(4,.one (.i n1)),(5,.one (.p 5 0))],[.box [.l .s h0,.l (.n 5) h02],.box [.o 2,.o 3,.o 4],.row .i 0 h2,.row .i 0 h3,.row .i 0 h4,.box [.l .i h5,.o 6,.o 7],.row .i 0 h6,.row .i 0 h7]⟩)
 |_=>none
noncomputable def kv (G:Gs) (n m:Nat) (R:Type) (st:St) (K:Kt R):Option R:=match st with
 |⟨[(1,.one (.p 0 0)),(2,.one (.p 1 0)),(5,.one (.p 5 0)),(61,.one (.i t61)),(62,.one (.i t62)),(65,.one (.l (.n 5) t65)),(66,.one (.i t66)),(67,.one (.i t67))],[.box [.l .s h0,.l (.n 5) h02],.box [.o 2,.o 3,.o 4],.row .i 0 h2,.row .i 0 h3,.row .i 0 h4,.box [.l .i h5,.o 6,.o 7],.row .i 0 h6,.row .i 0 h7]⟩=>l18 G n m t61 t62 t65 t66 t67 h0 h02 h2 h3 h4 h5 h6 h7 (λt61 t62 h0 h02 h2 h3 h4 h5 h6 h7=>K (.exit 6) ⟨[(1,.one (.p 0 0)),(2,.one (.p 1 0)),(5,.one (.p 5 0)),(61,.one (.i t61)),(62,.one (.i t62))],[.box [.l .s h0,.l (.n 5) h02],.box [.o 2,.o 3,.o 4],.row .i 0 h2,.row .i 0 h3,.row .i 0 h4,.box [.l .i h5,.o 6,.o 7],.row .i 0 h6,.row .i 0 h7]⟩)
 |_=>none
noncomputable def Ci (G:Gs) (n m:Nat) (R:Type) (st:St) (K:Kt R):Option R:=match st with
 |⟨[(1,.one (.p 0 0)),(2,.one (.p 1 0)),(5,.one (.p 5 0)),(61,.one (.i t61)),(62,.one (.i t62))],[.box [.l .s h0,.l (.n 5) h02],.box [.o 2,.o 3,.o 4],.row .i 0 h2,.row .i 0 h3,.row .i 0 h4,.box [.l .i h5,.o 6,.o 7],.row .i 0 h6,.row .i 0 h7]⟩=>l16 G n m t61 t62 h0 h02 h2 h3 h4 h5 h6 h7 (λh1 h2 h3 h4 h5 h6=>K (.exit 4) ⟨[(2,.one (.p 0 0)),(5,.one (.p 4 0))],[.box [.o 1,.o 2,.o 3],.row .i 0 h1,.row .i 0 h2,.row .i 0 h3,.box [.l .i h4,.o 5,.o 6],.row .i 0 h5,.row .i 0 h6]⟩)
 |_=>none
noncomputable def pc (G:Gs) (n:Nat):Pcs:=⟨λR id st K=>bif Nat.beq id 9 then dl9 G n n R st K else bif Nat.beq id 6 then dl6 G n n R st K else bif Nat.beq id 18 then kv G n n R st K else bif Nat.beq id 16 then Ci G n n R st K else none,nK,λR id st K=>bif Nat.beq id 4 then dd4 G n R st K else none⟩
noncomputable def an:Ann:=⟨99,0,[(9,[1,2,4,5,6,28,29,30,36,37,38]),(6,[1,2,4,5,28,29,30]),(18,[1,2,5,61,62,65,66,67]),(16,[1,2,5,61,62])],[],[2,3],[(4,⟨[([2,3,4,5,7,0,1,6,8],[3,5,7,8],[]),([2,3,7,4,5,0,1,6,8],[3,7,5,8],[]),([4,5,2,3,7,0,1,6,8],[5,3,7,8],[]),([4,5,7,2,3,0,1,6,8],[5,7,3,8],[]),([7,2,3,4,5,0,1,6,8],[7,3,5,8],[]),([7,4,5,2,3,0,1,6,8],[7,5,3,8],[])],[3,5,7,8],[],[0,1,2,3,4],[1,2,4]⟩),(11,⟨[([0,1,2,3,4,5,6,7,8,9,10,11,12],[12],[6,7,11])],[12],[],[0,1,2,3,4,5,7],[]⟩),(20,⟨[([0,1,2,3,4,5,6,7,8,9,10,11,12,13],[],[])],[],[],[0,1,2,3,4,5,6,7,8],[]⟩)],[]⟩
noncomputable abbrev bd:=aj Tryz.f60
noncomputable abbrev q4:=ak [1,1,1,0] bd
noncomputable abbrev q9:=ak [1,1,1,1,0,1,0,0,1,1,0,0,1,0,1,0,0] bd
noncomputable abbrev q6:=ak [1,1,1,1,0,1,0,0] bd
noncomputable abbrev q18:=ak [1,1,1,1,1,0,1,0,0,1,1,0,0,1,0,0] bd
noncomputable abbrev q16:=ak [1,1,1,1,1,0,1,0,0] bd
theorem FG (G:Gs) (n:Nat) (R:Type) (n1:Int) (h0:LB) (h02:LS) (h2 h3 h4:LI) (K:Kt R):(λS:St=>(λst1:St=>cG tb (ca (ac G)) an.nt an.im (fq (q4)) (db [0,1,2,3,4] st1.H) [2,3,4,5,7,0,1,6,8] [3,5,7,8] [] [] [2,3,4,5,7,0,1,6,8] st1.L st1.H st1.H λL H=>hU an.refs ⟨[1,2,4,5],[2,3],[]⟩ K .normal ⟨L,H⟩) (bF (aG (St.L S) (St.H S) []) S)=dd4 G n R S K) ⟨[(1,.one (.p 0 0)),(2,.one (.p 1 0)),(4,.one (.i n1))],[.box [.l .s h0,.l (.n 5) h02],.box [.o 2,.o 3,.o 4],.row .i 0 h2,.row .i 0 h3,.row .i 0 h4]⟩:=by show _=_;kernel_rfl
theorem EB (G:Gs) (n:Nat) (R:Type) (n1:Int) (h0:LB) (h02:LS) (h2 h3 h4:LI) (K:Kt R):(λst1:St=>cG tb (ca (ac G)) an.nt an.im (fq (q4)) (db [0,1,2,3,4] st1.H) [2,3,7,4,5,0,1,6,8] [3,7,5,8] [] [] [2,3,7,4,5,0,1,6,8] st1.L st1.H st1.H λL H=>hU an.refs ⟨[1,2,4,5],[2,3],[]⟩ K .normal ⟨L,H⟩) (bF (aG (St.L ⟨[(1,.one (.p 0 0)),(2,.one (.p 1 0)),(4,.one (.i n1))],[.box [.l .s h0,.l (.n 5) h02],.box [.o 2,.o 3,.o 4],.row .i 0 h2,.row .i 0 h3,.row .i 0 h4]⟩) (St.H ⟨[(1,.one (.p 0 0)),(2,.one (.p 1 0)),(4,.one (.i n1))],[.box [.l .s h0,.l (.n 5) h02],.box [.o 2,.o 3,.o 4],.row .i 0 h2,.row .i 0 h3,.row .i 0 h4]⟩) []) ⟨[(1,.one (.p 0 0)),(2,.one (.p 1 0)),(4,.one (.i n1))],[.box [.l .s h0,.l (.n 5) h02],.box [.o 2,.o 3,.o 4],.row .i 0 h2,.row .i 0 h3,.row .i 0 h4]⟩)=uN G n n1 h0 h02 h2 h3 h4 (λn1 h0 h02 h2 h3 h4 h5 h6 h7=>K .normal ⟨[(1,.one (.p 0 0)),(2,.one (.p 1 0)),(4,.one (.i n1)),(5,.one (.p 5 0))],[.box [.l .s h0,.l (.n 5) h02],.box [.o 2,.o 3,.o 4],.row .i 0 h2,.row .i 0 h3,.row .i 0 h4,.box [.l .i h5,.o 6,.o 7],.row .i 0 h6,.row .i 0 h7]⟩):=by kernel_rfl
theorem Et (G:Gs) (n:Nat) (R:Type) (n1:Int) (h0:LB) (h02:LS) (h2 h3 h4:LI) (K:Kt R):(λst1:St=>cG tb (ca (ac G)) an.nt an.im (fq (q4)) (db [0,1,2,3,4] st1.H) [4,5,2,3,7,0,1,6,8] [5,3,7,8] [] [] [4,5,2,3,7,0,1,6,8] st1.L st1.H st1.H λL H=>hU an.refs ⟨[1,2,4,5],[2,3],[]⟩ K .normal ⟨L,H⟩) (bF (aG (St.L ⟨[(1,.one (.p 0 0)),(2,.one (.p 1 0)),(4,.one (.i n1))],[.box [.l .s h0,.l (.n 5) h02],.box [.o 2,.o 3,.o 4],.row .i 0 h2,.row .i 0 h3,.row .i 0 h4]⟩) (St.H ⟨[(1,.one (.p 0 0)),(2,.one (.p 1 0)),(4,.one (.i n1))],[.box [.l .s h0,.l (.n 5) h02],.box [.o 2,.o 3,.o 4],.row .i 0 h2,.row .i 0 h3,.row .i 0 h4]⟩) []) ⟨[(1,.one (.p 0 0)),(2,.one (.p 1 0)),(4,.one (.i n1))],[.box [.l .s h0,.l (.n 5) h02],.box [.o 2,.o 3,.o 4],.row .i 0 h2,.row .i 0 h3,.row .i 0 h4]⟩)=uj G n n1 h0 h02 h2 h3 h4 (λn1 h0 h02 h2 h3 h4 h5 h6 h7=>K .normal ⟨[(1,.one (.p 0 0)),(2,.one (.p 1 0)),(4,.one (.i n1)),(5,.one (.p 5 0))],[.box [.l .s h0,.l (.n 5) h02],.box [.o 2,.o 3,.o 4],.row .i 0 h2,.row .i 0 h3,.row .i 0 h4,.box [.l .i h5,.o 6,.o 7],.row .i 0 h6,.row .i 0 h7]⟩):=by kernel_rfl
theorem s4_3 (G:Gs) (n:Nat) (R:Type) (n1:Int) (h0:LB) (h02:LS) (h2 h3 h4:LI) (K:Kt R):(λst1:St=>cG tb (ca (ac G)) an.nt an.im (fq (q4)) (db [0,1,2,3,4] st1.H) [4,5,7,2,3,0,1,6,8] [5,7,3,8] [] [] [4,5,7,2,3,0,1,6,8] st1.L st1.H st1.H λL H=>hU an.refs ⟨[1,2,4,5],[2,3],[]⟩ K .normal ⟨L,H⟩) (bF (aG (St.L ⟨[(1,.one (.p 0 0)),(2,.one (.p 1 0)),(4,.one (.i n1))],[.box [.l .s h0,.l (.n 5) h02],.box [.o 2,.o 3,.o 4],.row .i 0 h2,.row .i 0 h3,.row .i 0 h4]⟩) (St.H ⟨[(1,.one (.p 0 0)),(2,.one (.p 1 0)),(4,.one (.i n1))],[.box [.l .s h0,.l (.n 5) h02],.box [.o 2,.o 3,.o 4],.row .i 0 h2,.row .i 0 h3,.row .i 0 h4]⟩) []) ⟨[(1,.one (.p 0 0)),(2,.one (.p 1 0)),(4,.one (.i n1))],[.box [.l .s h0,.l (.n 5) h02],.box [.o 2,.o 3,.o 4],.row .i 0 h2,.row .i 0 h3,.row .i 0 h4]⟩)=EH G n n1 h0 h02 h2 h3 h4 (λn1 h0 h02 h2 h3 h4 h5 h6 h7=>K .normal ⟨[(1,.one (.p 0 0)),(2,.one (.p 1 0)),(4,.one (.i n1)),(5,.one (.p 5 0))],[.box [.l .s h0,.l (.n 5) h02],.box [.o 2,.o 3,.o 4],.row .i 0 h2,.row .i 0 h3,.row .i 0 h4,.box [.l .i h5,.o 6,.o 7],.row .i 0 h6,.row .i 0 h7]⟩):=by kernel_rfl
theorem s4_4 (G:Gs) (n:Nat) (R:Type) (n1:Int) (h0:LB) (h02:LS) (h2 h3 h4:LI) (K:Kt R):(λst1:St=>cG tb (ca (ac G)) an.nt an.im (fq (q4)) (db [0,1,2,3,4] st1.H) [7,2,3,4,5,0,1,6,8] [7,3,5,8] [] [] [7,2,3,4,5,0,1,6,8] st1.L st1.H st1.H λL H=>hU an.refs ⟨[1,2,4,5],[2,3],[]⟩ K .normal ⟨L,H⟩) (bF (aG (St.L ⟨[(1,.one (.p 0 0)),(2,.one (.p 1 0)),(4,.one (.i n1))],[.box [.l .s h0,.l (.n 5) h02],.box [.o 2,.o 3,.o 4],.row .i 0 h2,.row .i 0 h3,.row .i 0 h4]⟩) (St.H ⟨[(1,.one (.p 0 0)),(2,.one (.p 1 0)),(4,.one (.i n1))],[.box [.l .s h0,.l (.n 5) h02],.box [.o 2,.o 3,.o 4],.row .i 0 h2,.row .i 0 h3,.row .i 0 h4]⟩) []) ⟨[(1,.one (.p 0 0)),(2,.one (.p 1 0)),(4,.one (.i n1))],[.box [.l .s h0,.l (.n 5) h02],.box [.o 2,.o 3,.o 4],.row .i 0 h2,.row .i 0 h3,.row .i 0 h4]⟩)=xY G n n1 h0 h02 h2 h3 h4 (λn1 h0 h02 h2 h3 h4 h5 h6 h7=>K .normal ⟨[(1,.one (.p 0 0)),(2,.one (.p 1 0)),(4,.one (.i n1)),(5,.one (.p 5 0))],[.box [.l .s h0,.l (.n 5) h02],.box [.o 2,.o 3,.o 4],.row .i 0 h2,.row .i 0 h3,.row .i 0 h4,.box [.l .i h5,.o 6,.o 7],.row .i 0 h6,.row .i 0 h7]⟩):=by kernel_rfl
theorem s4_5 (G:Gs) (n:Nat) (R:Type) (n1:Int) (h0:LB) (h02:LS) (h2 h3 h4:LI) (K:Kt R):(λst1:St=>cG tb (ca (ac G)) an.nt an.im (fq (q4)) (db [0,1,2,3,4] st1.H) [7,4,5,2,3,0,1,6,8] [7,5,3,8] [] [] [7,4,5,2,3,0,1,6,8] st1.L st1.H st1.H λL H=>hU an.refs ⟨[1,2,4,5],[2,3],[]⟩ K .normal ⟨L,H⟩) (bF (aG (St.L ⟨[(1,.one (.p 0 0)),(2,.one (.p 1 0)),(4,.one (.i n1))],[.box [.l .s h0,.l (.n 5) h02],.box [.o 2,.o 3,.o 4],.row .i 0 h2,.row .i 0 h3,.row .i 0 h4]⟩) (St.H ⟨[(1,.one (.p 0 0)),(2,.one (.p 1 0)),(4,.one (.i n1))],[.box [.l .s h0,.l (.n 5) h02],.box [.o 2,.o 3,.o 4],.row .i 0 h2,.row .i 0 h3,.row .i 0 h4]⟩) []) ⟨[(1,.one (.p 0 0)),(2,.one (.p 1 0)),(4,.one (.i n1))],[.box [.l .s h0,.l (.n 5) h02],.box [.o 2,.o 3,.o 4],.row .i 0 h2,.row .i 0 h3,.row .i 0 h4]⟩)=EK G n n1 h0 h02 h2 h3 h4 (λn1 h0 h02 h2 h3 h4 h5 h6 h7=>K .normal ⟨[(1,.one (.p 0 0)),(2,.one (.p 1 0)),(4,.one (.i n1)),(5,.one (.p 5 0))],[.box [.l .s h0,.l (.n 5) h02],.box [.o 2,.o 3,.o 4],.row .i 0 h2,.row .i 0 h3,.row .i 0 h4,.box [.l .i h5,.o 6,.o 7],.row .i 0 h6,.row .i 0 h7]⟩):=by kernel_rfl
theorem pd4 {G:Gs} (hG:AE (ac G)) {n:Nat}:PO an (q4) (dd4 G n):=by
 have hc:q4= .region 4 (fq (q4)) true:=by kernel_rfl
 rw[hc];refine λ[Zb]=>jO mixed de (cB hG) (o:=⟨[1,2,4,5],[2,3],[]⟩) (d:=⟨[([2,3,4,5,7,0,1,6,8],[3,5,7,8],[]),([2,3,7,4,5,0,1,6,8],[3,7,5,8],[]),([4,5,2,3,7,0,1,6,8],[5,3,7,8],[]),([4,5,7,2,3,0,1,6,8],[5,7,3,8],[]),([7,2,3,4,5,0,1,6,8],[7,3,5,8],[]),([7,4,5,2,3,0,1,6,8],[7,5,3,8],[])],[3,5,7,8],[],[0,1,2,3,4],[1,2,4]⟩) (by kernel_rfl) (λp hp R st K r h=> ?_)
 have e:=h;unfold dd4 at e;split at e
 ·rename_i x0 x1 x2 x3 x4 x5;simp only[List.mem_cons,List.not_mem_nil,or_false]at hp;rcases hp with rfl|rfl|rfl|rfl|rfl|rfl
  ·exact(FG G n R x0 x1 x2 x3 x4 x5 K).trans h
  ·exact((EB G n R x0 x1 x2 x3 x4 x5 K).trans (Ea G n  x0 x1 x2 x3 x4 x5 _)).trans h
  ·exact((Et G n R x0 x1 x2 x3 x4 x5 K).trans (D7 G n  x0 x1 x2 x3 x4 x5 _)).trans h
  ·exact((s4_3 G n R x0 x1 x2 x3 x4 x5 K).trans (e4_3 G n  x0 x1 x2 x3 x4 x5 _)).trans h
  ·exact((s4_4 G n R x0 x1 x2 x3 x4 x5 K).trans (e4_4 G n  x0 x1 x2 x3 x4 x5 _)).trans h
  ·exact((s4_5 G n R x0 x1 x2 x3 x4 x5 K).trans (e4_5 G n  x0 x1 x2 x3 x4 x5 _)).trans h
 ·cases e
theorem pl9 {G:Gs} (hG:AE (ac G)) (n:Nat):∀m,PO an (.loop q9) (dl9 G n m):=lpc hG (pc G n) [1,2,4,5,6,28,29,30,36,37,38] ⟨[1,2,4,5,6,28,29,30],[2,3],[(0,[1,2,4,5]),(1,[1,2,4,5,28,29,30]),(2,[1,2,4,5,6,28,29,30])]⟩ (apl [] trivial) (λR st K=>by unfold dl9;split<;>rfl) λm R st K r h=>by unfold dl9 at h;split at h;exact .trans (by kernel_rfl) h;cases h
theorem pl6 {G:Gs} (hG:AE (ac G)) (n:Nat):∀m,PO an (.loop q6) (dl6 G n m):=lpc hG (pc G n) [1,2,4,5,28,29,30] ⟨[1,2,4,5],[2,3],[(0,[1,2,4,5])]⟩ (apl [(1,9,.loop q9)] ⟨pl9 hG n n,trivial⟩) (λR st K=>by unfold dl6;split<;>rfl) λm R st K r h=>by unfold dl6 at h;split at h;exact .trans (by kernel_rfl) h;cases h
theorem AP {G:Gs} (hG:AE (ac G)) (n:Nat):∀m,PO an (.loop q18) (kv G n m):=lpc hG (pc G n) [1,2,5,61,62,65,66,67] ⟨[1,2,5,61,62],[2,3],[(4,[2,5]),(5,[1,2,5,61,62]),(6,[1,2,5,61,62])]⟩ (apl [] trivial) (λR st K=>by unfold kv;split<;>rfl) λm R st K r h=>by unfold kv at h;split at h;exact .trans (by kernel_rfl) h;cases h
theorem pl16 {G:Gs} (hG:AE (ac G)) (n:Nat):∀m,PO an (.loop q16) (Ci G n m):=lpc hG (pc G n) [1,2,5,61,62] ⟨[2,5],[2,3],[(4,[2,5])]⟩ (apl [(1,18,.loop q18)] ⟨AP hG n n,trivial⟩) (λR st K=>by unfold Ci;split<;>rfl) λm R st K r h=>by unfold Ci at h;split at h;exact .trans (by kernel_rfl) h;cases h
theorem ok {G:Gs} (hG:AE (ac G)) {g:Q} (hg:∀s r,g s=some r->∃n,main (R:=AT×List Ob) G n s (λr0 r1=>some (.tup [.agg [.l .i r0.above,.l .i r0.below,.l .i r0.kind],.one (.b r1)],[]))=some (.tup [.agg [.l .i r.1.above,.l .i r.1.below,.l .i r.1.kind],.one (.b r.2)],[])):EO (ent g):=λR xs H K r hc=>by
 simp only[ent]at hc;split at hc
 ·exact okL hc λr j=>let⟨n,j⟩:=hg _ _ j;fF hG an (pc G n) Tryz.func60 j (apl [(2,4,q4),(1,6,.loop q6),(1,16,.loop q16)] ⟨pd4 hG,⟨pl6 hG n n,⟨pl16 hG n n,trivial⟩⟩⟩)
 ·cases hc
end z12
namespace z13
structure Gs where
 none_:Unit
noncomputable def main {R:Type} (G:Gs) (n:Nat) (x:Od) (k:Int) (K:Bool->Option R):Option R:=
 bif decide (0<=k)then
  (K (decide (k<(List.length x.above:Int))))
 else
  K false
theorem ok {G:Gs} (hG:AE []) {g:Q} (hg:∀x k r,g x k=some r->∃n,main (R:=AT×List Ob) G n x k (λr0=>some (.one (.b r0),[]))=some (.one (.b r),[])):EO (ent g):=λR xs H K r hc=>by
 simp only[ent]at hc;split at hc
 ·exact okL hc λr j=>let⟨_,j⟩:=hg _ _ _ j;fF hG ⟨14,0,[],[],[4],[],[]⟩ nP Tryz.func111 j
 ·cases hc
end z13
namespace z0x
structure Gs where
 z13:z13.Q
noncomputable def ac (G:Gs):List Ent:=[z13.ent G.z13]
noncomputable def b7 {R:Type} (G:Gs) (n:Nat) (t41:LI) (t42 t43:Int) (h0 h02 h03:LI) (h1:ByteArray) (h12:LD) (h13 h14:Bool) (h15:Int) (h2:LI) (h22:Int) (nx:LI->Int->Int->LI->LI->LI->ByteArray->LD->Bool->Bool->Int->LI->Int->Option R) (k0:Bool->Option R) (k1:LI->LI->LI->ByteArray->LD->Bool->Bool->Int->LI->Int->Option R):Option R:=
 bif decide (t43<t42)then
  (
  (ix t41 t43).bind λe=>
  (G.z13 (Od.mk h0 h02 h03) e).bind λr=>
  bif !r then
   (k0 false)
  else
   nx t41 t42 (wr (t43+1)) h0 h02 h03 h1 h12 h13 h14 h15 h2 h22
  )
 else
  k1 h0 h02 h03 h1 h12 h13 h14 h15 h2 h22
noncomputable def l7 {R:Type} (G:Gs) (n m:Nat) (t41:LI) (t42 t43:Int) (h0 h02 h03:LI) (h1:ByteArray) (h12:LD) (h13 h14:Bool) (h15:Int) (h2:LI) (h22:Int) (k0:Bool->Option R) (k1:LI->LI->LI->ByteArray->LD->Bool->Bool->Int->LI->Int->Option R):Option R:=aB (λ(v:LI×Int×Int×LI×LI×LI×ByteArray×LD×Bool×Bool×Int×LI×Int) nx=>b7 G n v.1 v.2.1 v.2.2.1 v.2.2.2.1 v.2.2.2.2.1 v.2.2.2.2.2.1 v.2.2.2.2.2.2.1 v.2.2.2.2.2.2.2.1 v.2.2.2.2.2.2.2.2.1 v.2.2.2.2.2.2.2.2.2.1 v.2.2.2.2.2.2.2.2.2.2.1 v.2.2.2.2.2.2.2.2.2.2.2.1 v.2.2.2.2.2.2.2.2.2.2.2.2 (λy0 y1 y2 y3 y4 y5 y6 y7 y8 y9 y10 y11 y12=>nx (y0,y1,y2,y3,y4,y5,y6,y7,y8,y9,y10,y11,y12)) k0 k1) m (t41,t42,t43,h0,h02,h03,h1,h12,h13,h14,h15,h2,h22)
noncomputable def b18 {R:Type} (G:Gs) (n:Nat) (t53:LD) (t54 t55:Int) (t89:LI) (t90 t91:Int) (h0 h02 h03 h1:LI) (h12:Int) (nx:LD->Int->Int->LI->Int->Int->LI->LI->LI->LI->Int->Option R) (k0:Bool->Option R) (k1:LD->Int->Int->LI->LI->LI->LI->Int->Option R):Option R:=
 bif decide (t91<t90)then
  (
  (ix t89 t91).bind λe=>
  (G.z13 (Od.mk h0 h02 h03) e).bind λr2=>
  bif !r2 then
   (k0 false)
  else
   (ix h03 e).bind λe3=>
   (ix h1 t91).bind λe5=>
   (ix h03 e5).bind λe7=>
   bif !decide (e3=e7)then
    (k0 false)
   else
    nx t53 t54 t55 t89 t90 (wr (t91+1)) h0 h02 h03 h1 h12
  )
 else
  k1 t53 t54 t55 h0 h02 h03 h1 h12
noncomputable def l18 {R:Type} (G:Gs) (n m:Nat) (t53:LD) (t54 t55:Int) (t89:LI) (t90 t91:Int) (h0 h02 h03 h1:LI) (h12:Int) (k0:Bool->Option R) (k1:LD->Int->Int->LI->LI->LI->LI->Int->Option R):Option R:=aB (λ(v:LD×Int×Int×LI×Int×Int×LI×LI×LI×LI×Int) nx=>b18 G n v.1 v.2.1 v.2.2.1 v.2.2.2.1 v.2.2.2.2.1 v.2.2.2.2.2.1 v.2.2.2.2.2.2.1 v.2.2.2.2.2.2.2.1 v.2.2.2.2.2.2.2.2.1 v.2.2.2.2.2.2.2.2.2.1 v.2.2.2.2.2.2.2.2.2.2 (λy0 y1 y2 y3 y4 y5 y6 y7 y8 y9 y10=>nx (y0,y1,y2,y3,y4,y5,y6,y7,y8,y9,y10)) k0 k1) m (t53,t54,t55,t89,t90,t91,h0,h02,h03,h1,h12)
noncomputable def b13 {R:Type} (G:Gs) (n:Nat) (t53:LD) (t54 t55:Int) (h0 h02 h03 h1:LI) (h12:Int) (nx:LD->Int->Int->LI->LI->LI->LI->Int->Option R) (k0:Bool->Option R) (k1:Option R):Option R:=
 bif decide (t55 < t54) then
  (
  (ix t53 t55).bind λe=>
  bif !decide ((List.length e.args:Int)=(List.length h1:Int))then
   (k0 false)
  else
   (G.z13 (Od.mk h0 h02 h03) e.result).bind λr2=>
   bif !r2 then
    (k0 false)
   else
    (ix h03 e.result).bind λe3=>
    (ix h03 h12).bind λe5=>
    bif !decide (e3=e5)then
     (k0 false)
    else
     l18 G n n t53 t54 t55 e.args (List.length e.args:Int) 0 h0 h02 h03 h1 h12
      (λt4=>k0 t4)
      (λt532 t542 t552 h04 h022 h032 h13 h122=>nx t532 t542 (wr (t552+1)) h04 h022 h032 h13 h122)
  )
 else
  k1
noncomputable def l13 {R:Type} (G:Gs) (n m:Nat) (t53:LD) (t54 t55:Int) (h0 h02 h03 h1:LI) (h12:Int) (k0:Bool->Option R) (k1:Option R):Option R:=aB (λ(v:LD×Int×Int×LI×LI×LI×LI×Int) nx=>b13 G n v.1 v.2.1 v.2.2.1 v.2.2.2.1 v.2.2.2.2.1 v.2.2.2.2.2.1 v.2.2.2.2.2.2.1 v.2.2.2.2.2.2.2 (λy0 y1 y2 y3 y4 y5 y6 y7=>nx (y0,y1,y2,y3,y4,y5,y6,y7)) k0 k1) m (t53,t54,t55,h0,h02,h03,h1,h12)
noncomputable def main {R:Type} (G:Gs) (n:Nat) (x:Od) (o:Opr) (K:Bool->Option R):Option R:=
 bif decide ((List.length o.decls:Int)<1)then
  (K false)
 else
  bif decide (4<(List.length o.decls:Int))then
   (K false)
  else
   (ix o.decls 0).bind λe=>
   bif decide (3<(List.length e.args:Int))then
    (K false)
   else
    (ix o.decls 0).bind λe2=>
    (G.z13 x e2.result).bind λr=>
    bif !r then
     (K false)
    else
     l7 G n n e2.args (List.length e2.args : Int) 0 x.above x.below x.kind o.name o.decls o.assoc o.comm o.unit e2.args e2.result
      (λt4=>K t4)
      (fun h0 h02 h03 h1 h12 h13 h14 h15 h2 h22 =>
       l13 G n n h12 (List.length h12:Int) 0 h0 h02 h03 h2 h22
        (λt42=>K t42)
        (K true)
      )
noncomputable def dl7 (G:Gs) (n m:Nat) (R:Type) (st:St) (K:Kt R):Option R:=match st with
 |⟨[(2,.one (.p 0 0)),(3,.one (.p 1 0)),(5,.one (.p 2 0)),(41,.one (.l .i t41)),(42,.one (.i t42)),(43,.one (.i t43))],[.box [.l .i h0,.l .i h02,.l .i h03],.box [.s h1,.l (.n 7) h12,.b h13,.b h14,.i h15],.box [.l .i h2,.i h22]]⟩=>l7 G n m t41 t42 t43 h0 h02 h03 h1 h12 h13 h14 h15 h2 h22 (λt4=>K .ret ⟨[(4,.one (.b t4))],[]⟩) (λh0 h02 h03 h1 h12 h13 h14 h15 h2 h22=>K (.exit 0) ⟨[(2,.one (.p 0 0)),(3,.one (.p 1 0)),(5,.one (.p 2 0))],[.box [.l .i h0,.l .i h02,.l .i h03],.box [.s h1,.l (.n 7) h12,.b h13,.b h14,.i h15],.box [.l .i h2,.i h22]]⟩)
 |_=>none
noncomputable def kv (G:Gs) (n m:Nat) (R:Type) (st:St) (K:Kt R):Option R:=match st with
 |⟨[(2,.one (.p 0 0)),(5,.one (.p 1 0)),(53,.one (.l (.n 7) t53)),(54,.one (.i t54)),(55,.one (.i t55)),(89,.one (.l .i t89)),(90,.one (.i t90)),(91,.one (.i t91))],[.box [.l .i h0,.l .i h02,.l .i h03],.box [.l .i h1,.i h12]]⟩=>l18 G n m t53 t54 t55 t89 t90 t91 h0 h02 h03 h1 h12 (λt4=>K .ret ⟨[(4,.one (.b t4))],[]⟩) (λt53 t54 t55 h0 h02 h03 h1 h12=>K (.exit 4) ⟨[(2,.one (.p 0 0)),(5,.one (.p 1 0)),(53,.one (.l (.n 7) t53)),(54,.one (.i t54)),(55,.one (.i t55))],[.box [.l .i h0,.l .i h02,.l .i h03],.box [.l .i h1,.i h12]]⟩)
 |_=>none
noncomputable def kF (G:Gs) (n m:Nat) (R:Type) (st:St) (K:Kt R):Option R:=match st with
 |⟨[(2,.one (.p 0 0)),(5,.one (.p 1 0)),(53,.one (.l (.n 7) t53)),(54,.one (.i t54)),(55,.one (.i t55))],[.box [.l .i h0,.l .i h02,.l .i h03],.box [.l .i h1,.i h12]]⟩=>l13 G n m t53 t54 t55 h0 h02 h03 h1 h12 (λt4=>K .ret ⟨[(4,.one (.b t4))],[]⟩) (K (.exit 2) ⟨[],[]⟩)
 |_=>none
noncomputable def pc (G:Gs) (n:Nat):Pcs:=⟨λR id st K=>bif Nat.beq id 7 then dl7 G n n R st K else bif Nat.beq id 18 then kv G n n R st K else bif Nat.beq id 13 then kF G n n R st K else none,nK,nK⟩
noncomputable def an:Ann:=⟨119,0,[(7,[2,3,5,41,42,43]),(18,[2,5,53,54,55,89,90,91]),(13,[2,5,53,54,55])],[],[4],[(15,⟨[([0,1,2,3,4,5,6,7,8,9,10,11,12,13,14,15,16,17,18,19,20,21,22,23,24,25,26,27,28],[],[])],[],[],[0,1,2],[]⟩),(20,⟨[([0,1,2,3,4,5,6,7,8,9,10,11,12,13,14,15,16,17,18,19,20],[],[])],[],[],[0,1],[]⟩)],[]⟩
noncomputable abbrev bd:=aj Tryz.f105
noncomputable abbrev q7:=ak [1,1,1,1,0,1,0,0] bd
noncomputable abbrev q18:=ak [1,1,1,1,1,0,1,0,0,1,1,0,0,1,1,1,0,0] bd
noncomputable abbrev q13:=ak [1,1,1,1,1,0,1,0,0] bd
theorem pl7 {G:Gs} (hG:AE (ac G)) (n:Nat):∀m,PO an (.loop q7) (dl7 G n m):=lpc hG (pc G n) [2,3,5,41,42,43] ⟨[2,3,5],[4],[(0,[2,3,5])]⟩ (apl [] trivial) (λR st K=>by unfold dl7;split<;>rfl) λm R st K r h=>by unfold dl7 at h;split at h;exact .trans (by kernel_rfl) h;cases h
theorem AP {G:Gs} (hG:AE (ac G)) (n:Nat):∀m,PO an (.loop q18) (kv G n m):=lpc hG (pc G n) [2,5,53,54,55,89,90,91] ⟨[2,5,53,54,55],[4],[(2,[]),(3,[2,5,53,54,55]),(4,[2,5,53,54,55])]⟩ (apl [] trivial) (λR st K=>by unfold kv;split<;>rfl) λm R st K r h=>by unfold kv at h;split at h;exact .trans (by kernel_rfl) h;cases h
theorem yB {G:Gs} (hG:AE (ac G)) (n:Nat):∀m,PO an (.loop q13) (kF G n m):=lpc hG (pc G n) [2,5,53,54,55] ⟨[],[4],[(2,[])]⟩ (apl [(1,18,.loop q18)] ⟨AP hG n n,trivial⟩) (λR st K=>by unfold kF;split<;>rfl) λm R st K r h=>by unfold kF at h;split at h;exact .trans (by kernel_rfl) h;cases h
theorem ok {G:Gs} (hG:AE (ac G)) {g:Q} (hg:∀x o r,g x o=some r->∃n,main (R:=AT×List Ob) G n x o (λr0=>some (.one (.b r0),[]))=some (.one (.b r),[])):EO (ent g):=λR xs H K r hc=>by
 simp only[ent]at hc;split at hc
 ·exact okL hc λr j=>let⟨n,j⟩:=hg _ _ _ j;fF hG an (pc G n) Tryz.func105 j (apl [(1,7,.loop q7),(1,13,.loop q13)] ⟨pl7 hG n n,⟨yB hG n n,trivial⟩⟩)
 ·cases hc
end z0x
namespace z0s
structure Gs where
 none_:Unit
noncomputable def ac (_:Gs):List Ent:=[]
noncomputable def c10 {R:Type} (G:Gs) (n:Nat) (h0 h02 h03:LI) (h1:LB) (h12:LS) (h13:LO) (h2:ByteArray) (h22:LD) (h23 h24:Bool) (h25:Int) (h3:LI) (h32:Int) (k0:Bool->Option R):Option R:=
 bif decide (h25=0)then
  (k0 true)
 else
  (ix h13 (wr (h25-1))).bind λe=>
  (ix e.decls 0).bind λe2=>
  bif decide ((List.length e2.args:Int)=0)then
   (
   (ix h03 e2.result).bind λe4=>
   (ix h03 h32).bind λe6=>
   k0 (decide (e4=e6))
   )
  else
   k0 false
noncomputable def c5 {R:Type} (G:Gs) (n:Nat) (h0 h02 h03:LI) (h1:LB) (h12:LS) (h13:LO) (h2:ByteArray) (h22:LD) (h23 h24:Bool) (h25:Int) (k0:Bool->Option R):Option R:=
 (ix h22 0).bind λe=>
 bif !decide ((List.length e.args:Int)=2)then
  (k0 false)
 else
  (ix e.args 0).bind λe3=>
  (ix h03 e3).bind λe5=>
  (ix e.args 1).bind λe7=>
  (ix h03 e7).bind λe9=>
  bif !decide (e5=e9)then
   (k0 false)
  else
   bif h23 then
    (
    (ix e.args 0).bind λe11=>
    (ix h03 e11).bind λe13=>
    (ix h03 e.result).bind λe15=>
    bif !decide (e13=e15)then
     (k0 false)
    else
     c10 G n h0 h02 h03 h1 h12 h13 h2 h22 h23 h24 h25 e.args e.result
      (λt6=>k0 t6)
    )
   else
    bif !decide (h25=0)then
     (
     (ix e.args 0).bind λe17=>
     (ix h03 e17).bind λe19=>
     (ix h03 e.result).bind λe21=>
     bif !decide (e19=e21)then
      (k0 false)
     else
      c10 G n h0 h02 h03 h1 h12 h13 h2 h22 h23 h24 h25 e.args e.result
       (λt62=>k0 t62)
     )
    else
     c10 G n h0 h02 h03 h1 h12 h13 h2 h22 h23 h24 h25 e.args e.result
      (λt63=>k0 t63)
noncomputable def main {R:Type} (G:Gs) (n:Nat) (x:Od) (s:Sg) (o:Opr) (K:Bool->Option R):Option R:=
 bif decide (o.unit<0)then
  (K false)
 else
  bif decide ((List.length s.ops:Int)<o.unit)then
   (K false)
  else
   bif !o.assoc then
    (
    bif !o.comm then
     (
     bif decide (o.unit=0)then
      (K true)
     else
      c5 G n x.above x.below x.kind s.sorts.names s.sorts.subs s.ops o.name o.decls o.assoc o.comm o.unit
       (λt6=>K t6)
     )
    else
     c5 G n x.above x.below x.kind s.sorts.names s.sorts.subs s.ops o.name o.decls o.assoc o.comm o.unit
      (λt62=>K t62)
    )
   else
    c5 G n x.above x.below x.kind s.sorts.names s.sorts.subs s.ops o.name o.decls o.assoc o.comm o.unit
     (λt63=>K t63)
noncomputable def EN (G:Gs) (n:Nat) (R:Type) (st:St) (K:Kt R):Option R:=match st with
 |⟨[(3,.one (.p 0 0)),(4,.one (.p 1 0)),(5,.one (.p 2 0)),(7,.one (.p 3 0))],[.box [.l .i h0,.l .i h02,.l .i h03],.box [.l .s h1,.l (.n 5) h12,.l (.n 8) h13],.box [.s h2,.l (.n 7) h22,.b h23,.b h24,.i h25],.box [.l .i h3,.i h32]]⟩=>c10 G n h0 h02 h03 h1 h12 h13 h2 h22 h23 h24 h25 h3 h32 (λt6=>K .ret ⟨[(6,.one (.b t6))],[]⟩)
 |_=>none
noncomputable def dc5 (G:Gs) (n:Nat) (R:Type) (st:St) (K:Kt R):Option R:=match st with
 |⟨[(3,.one (.p 0 0)),(4,.one (.p 1 0)),(5,.one (.p 2 0))],[.box [.l .i h0,.l .i h02,.l .i h03],.box [.l .s h1,.l (.n 5) h12,.l (.n 8) h13],.box [.s h2,.l (.n 7) h22,.b h23,.b h24,.i h25]]⟩=>c5 G n h0 h02 h03 h1 h12 h13 h2 h22 h23 h24 h25 (λt6=>K .ret ⟨[(6,.one (.b t6))],[]⟩)
 |_=>none
noncomputable def pc (G:Gs) (n:Nat):Pcs:=⟨nK,λR id st K=>bif Nat.beq id 10 then EN G n R st K else bif Nat.beq id 5 then dc5 G n R st K else none,nK⟩
noncomputable def an:Ann:=⟨116,0,[],[(10,[3,4,5,7]),(5,[3,4,5])],[6],[(6,⟨[([0,1,2,3,4,5,6,7,8,9,10,11,12,13,14,15,16,17,18,19,20,21,22],[],[])],[],[],[0,1,2,3],[]⟩),(8,⟨[([0,1,2,3,4,5,6,7,8,9,10,11,12,13,14,15,16,17,18,19,20,21,22,23],[],[])],[],[],[0,1,2,3],[]⟩),(13,⟨[([0,1,2,3,4,5,6,7,8,9,10,11,12,13,14,15,16,17,18,19],[],[])],[],[],[0,1,2,3,4],[]⟩)],[]⟩
noncomputable abbrev bd:=aj Tryz.f106
noncomputable abbrev q10:=ak [1,1,1,1,1,1] bd
noncomputable abbrev q5:=ak [1,1,1] bd
theorem pc10 {G:Gs} (hG:AE (ac G)) {n:Nat}:PO an q10 (EN G n):=cpc hG (pc G n) ⟨[],[6],[]⟩ (apl [] trivial) λR st K r h=>by unfold EN at h;split at h;exact .trans (by kernel_rfl) h;cases h
theorem pc5 {G:Gs} (hG:AE (ac G)) {n:Nat}:PO an q5 (dc5 G n):=cpc hG (pc G n) ⟨[],[6],[]⟩ (apl [(0,10,q10)] ⟨pc10 hG,trivial⟩) λR st K r h=>by unfold dc5 at h;split at h;exact .trans (by kernel_rfl) h;cases h
theorem ok {G:Gs} (hG:AE (ac G)) {g:Q} (hg:∀x s o r,g x s o=some r->∃n,main (R:=AT×List Ob) G n x s o (λr0=>some (.one (.b r0),[]))=some (.one (.b r),[])):EO (ent g):=λR xs H K r hc=>by
 simp only[ent]at hc;split at hc
 ·exact okL hc λr j=>let⟨n,j⟩:=hg _ _ _ _ j;fF hG an (pc G n) Tryz.func106 j (apl [(0,5,q5)] ⟨pc5 hG,trivial⟩)
 ·cases hc
end z0s
namespace z0b
structure Gs where
 z12:z12.Q
 z09:z09.Q
 z0x:z0x.Q
 z0s:z0s.Q
noncomputable def ac (G:Gs):List Ent:=[z12.ent G.z12,z09.ent G.z09,z0x.ent G.z0x,z0s.ent G.z0s]
noncomputable def b6 {R:Type} (G:Gs) (n:Nat) (t26:LO) (t27 t28:Int) (h0:LB) (h02:LS) (h03:LO) (h1 h12 h13:LI) (h2:List (ByteArray×Bool)) (nx:LO->Int->Int->LB->LS->LO->LI->LI->LI->(List (ByteArray×Bool))->Option R) (k0:Bool->Option R) (k1:LB->LS->LO->LI->LI->LI->Option R):Option R:=
 bif decide (t28 < t27) then
  (
  (ix t26 t28).bind λe=>
  bif mM h2 e.name false then
   (k0 false)
  else
   (G.z09 e.name).bind λr=>
   bif !r then
    (k0 false)
   else
    (G.z0x (Od.mk h1 h12 h13) e).bind λr2=>
    bif !r2 then
     (k0 false)
    else
     nx t26 t27 (wr (t28+1)) h0 h02 h03 h1 h12 h13 ((e.name,true)::h2)
  )
 else
  k1 h0 h02 h03 h1 h12 h13
noncomputable def l6 {R:Type} (G:Gs) (n m:Nat) (t26:LO) (t27 t28:Int) (h0:LB) (h02:LS) (h03:LO) (h1 h12 h13:LI) (h2:List (ByteArray×Bool)) (k0:Bool->Option R) (k1:LB->LS->LO->LI->LI->LI->Option R):Option R:=aB (λ(v:LO×Int×Int×LB×LS×LO×LI×LI×LI×(List (ByteArray×Bool))) nx=>b6 G n v.1 v.2.1 v.2.2.1 v.2.2.2.1 v.2.2.2.2.1 v.2.2.2.2.2.1 v.2.2.2.2.2.2.1 v.2.2.2.2.2.2.2.1 v.2.2.2.2.2.2.2.2.1 v.2.2.2.2.2.2.2.2.2 (λy0 y1 y2 y3 y4 y5 y6 y7 y8 y9=>nx (y0,y1,y2,y3,y4,y5,y6,y7,y8,y9)) k0 k1) m (t26,t27,t28,h0,h02,h03,h1,h12,h13,h2)
noncomputable def b13 {R:Type} (G:Gs) (n:Nat) (t53:LO) (t54 t55:Int) (h0:LB) (h02:LS) (h03:LO) (h1 h12 h13:LI) (nx:LO->Int->Int->LB->LS->LO->LI->LI->LI->Option R) (k0:Bool->Option R) (k1:Option R):Option R:=
 bif decide (t55<t54)then
  (
  (ix t53 t55).bind λe=>
  (G.z0s (Od.mk h1 h12 h13) (Sg.mk (So.mk h0 h02) h03) e).bind λr=>
  bif !r then
   (k0 false)
  else
   nx t53 t54 (wr (t55+1)) h0 h02 h03 h1 h12 h13
  )
 else
  k1
noncomputable def l13 {R:Type} (G:Gs) (n m:Nat) (t53:LO) (t54 t55:Int) (h0:LB) (h02:LS) (h03:LO) (h1 h12 h13:LI) (k0:Bool->Option R) (k1:Option R):Option R:=aB (λ(v:LO×Int×Int×LB×LS×LO×LI×LI×LI) nx=>b13 G n v.1 v.2.1 v.2.2.1 v.2.2.2.1 v.2.2.2.2.1 v.2.2.2.2.2.1 v.2.2.2.2.2.2.1 v.2.2.2.2.2.2.2.1 v.2.2.2.2.2.2.2.2 (λy0 y1 y2 y3 y4 y5 y6 y7 y8=>nx (y0,y1,y2,y3,y4,y5,y6,y7,y8)) k0 k1) m (t53,t54,t55,h0,h02,h03,h1,h12,h13)
noncomputable def main {R:Type} (G:Gs) (n:Nat) (s:Sg) (K:Bool->Option R):Option R:=
 (G.z12 s.sorts).bind λr=>
 bif !r.2 then
  (K false)
 else
  bif decide (14<(List.length s.ops:Int))then
   (K false)
  else
   l6 G n n s.ops (List.length s.ops : Int) 0 s.sorts.names s.sorts.subs s.ops r.1.above r.1.below r.1.kind []
    (λt2=>K t2)
    (fun h0 h02 h03 h1 h12 h13 =>
     l13 G n n h03 (List.length h03:Int) 0 h0 h02 h03 h1 h12 h13
      (λt22=>K t22)
      (K true)
    )
noncomputable def dl6 (G:Gs) (n m:Nat) (R:Type) (st:St) (K:Kt R):Option R:=match st with
 |⟨[(1,.one (.p 0 0)),(3,.one (.p 1 0)),(5,.one (.m 2)),(26,.one (.l (.n 8) t26)),(27,.one (.i t27)),(28,.one (.i t28))],[.box [.l .s h0,.l (.n 5) h02,.l (.n 8) h03],.box [.l .i h1,.l .i h12,.l .i h13],.map .b h2]⟩=>l6 G n m t26 t27 t28 h0 h02 h03 h1 h12 h13 h2 (λt2=>K .ret ⟨[(2,.one (.b t2))],[]⟩) (λh0 h02 h03 h1 h12 h13=>K (.exit 0) ⟨[(1,.one (.p 0 0)),(3,.one (.p 1 0))],[.box [.l .s h0,.l (.n 5) h02,.l (.n 8) h03],.box [.l .i h1,.l .i h12,.l .i h13]]⟩)
 |_=>none
noncomputable def kF (G:Gs) (n m:Nat) (R:Type) (st:St) (K:Kt R):Option R:=match st with
 |⟨[(1,.one (.p 0 0)),(3,.one (.p 1 0)),(53,.one (.l (.n 8) t53)),(54,.one (.i t54)),(55,.one (.i t55))],[.box [.l .s h0,.l (.n 5) h02,.l (.n 8) h03],.box [.l .i h1,.l .i h12,.l .i h13]]⟩=>l13 G n m t53 t54 t55 h0 h02 h03 h1 h12 h13 (λt2=>K .ret ⟨[(2,.one (.b t2))],[]⟩) (K (.exit 2) ⟨[],[]⟩)
 |_=>none
noncomputable def pc (G:Gs) (n:Nat):Pcs:=⟨λR id st K=>bif Nat.beq id 6 then dl6 G n n R st K else bif Nat.beq id 13 then kF G n n R st K else none,nK,nK⟩
noncomputable def an:Ann:=⟨65,0,[(6,[1,3,5,26,27,28]),(13,[1,3,53,54,55])],[],[2],[],[]⟩
noncomputable abbrev bd:=aj Tryz.f59
noncomputable abbrev q6:=ak [1,1,1,1,0,1,0,0] bd
noncomputable abbrev q13:=ak [1,1,1,1,1,0,1,0,0] bd
theorem pl6 {G:Gs} (hG:AE (ac G)) (n:Nat):∀m,PO an (.loop q6) (dl6 G n m):=lpc hG (pc G n) [1,3,5,26,27,28] ⟨[1,3],[2],[(0,[1,3])]⟩ (apl [] trivial) (λR st K=>by unfold dl6;split<;>rfl) λm R st K r h=>by unfold dl6 at h;split at h;exact .trans (by kernel_rfl) h;cases h
theorem yB {G:Gs} (hG:AE (ac G)) (n:Nat):∀m,PO an (.loop q13) (kF G n m):=lpc hG (pc G n) [1,3,53,54,55] ⟨[],[2],[(2,[])]⟩ (apl [] trivial) (λR st K=>by unfold kF;split<;>rfl) λm R st K r h=>by unfold kF at h;split at h;exact .trans (by kernel_rfl) h;cases h
theorem ok {G:Gs} (hG:AE (ac G)) {g:Q} (hg:∀s r,g s=some r->∃n,main (R:=AT×List Ob) G n s (λr0=>some (.one (.b r0),[]))=some (.one (.b r),[])):EO (ent g):=λR xs H K r hc=>by
 simp only[ent]at hc;split at hc
 ·exact okL hc λr j=>let⟨n,j⟩:=hg _ _ j;fF hG an (pc G n) Tryz.func59 j (apl [(1,6,.loop q6),(1,13,.loop q13)] ⟨pl6 hG n n,⟨yB hG n n,trivial⟩⟩)
 ·cases hc
end z0b
def aX (c:Int):Bool:=(decide (97<=c)&&decide (c<=122))||((decide (65<=c)&&decide (c<=90))||(decide (48<=c)&&decide (c<=57)))
def nQ (c:Int):Bool:=(decide (97<=c)&&decide (c<=122))||(decide (65<=c)&&decide (c<=90))
def AA (s:ByteArray):Bool:=sEq s (ByteArray.mk #[105,102])||sEq s (ByteArray.mk #[97,110,100])
def bn (s:ByteArray):Bool:=decide (1<=s.size)&&(decide (s.size<=12)&&(!AA s&&(((ofS s).head?.any nQ)&&(ofS s).all aX)))
theorem iW :EO (z38.ent λx lo hi=>some (decide (lo<=x)&&decide (x<=hi))):=z38.ok (G:=⟨()⟩) trivial λx lo hi r h=>⟨1,by
 cases h;unfold z38.main;by_cases h:lo<=x<;>simp[h]⟩
theorem zZ :EO (z3a.ent λa b=>some (gi b a)):=z3a.ok (G:=⟨()⟩) trivial λa b r h=>⟨1,by
 cases h;unfold z3a.main gi;by_cases h:a<b<;>simp[h]⟩
theorem An :EO (z36.ent λl s=>if l.length<=1048576 then some (l.any λx=>sEq x s)else none):=z36.ok (G:=⟨()⟩) trivial λ(l:List ByteArray) s r h=>by
 split at h
 ·rename_i hl;cases h;refine⟨l.length+1,?_⟩;refine Eq.trans (kQ        (body:=λv nx=>z36.b2 ⟨()⟩ (l.length+1) v.1 v.2.1 v.2.2 (λy0 y1 y2=>nx (y0,y1,y2)) (λt=>some (AT.one (.b t),([]:List Ob))) (some (AT.one (.b false),[]))) (Q:=λv=>v.1=l/\v.2.1=s/\0<=v.2.2/\v.2.2<=l.length) (μ:=λv=>(l.length-v.2.2).toNat) (f:=λv=>some (AT.one (.b ((l.drop v.2.2.toNat).any λx=>sEq x s)),[])) ?_ (l.length+1) (l,s,0) ⟨rfl,rfl,by simp,by simp⟩ (by simp)) (by simp);rintro⟨a,b,i⟩ nx ⟨e1,e0,q0,q1⟩ ih;simp only at e1 e0 q0 q1 ih ⊢;subst e1 e0;unfold z36.b2;by_cases hi:i<(List.length a:Int)
  ·obtain⟨x,x1,x2,x3,x4⟩:=au        q0 hi;rw[dT hi,cT,x1,bS,x3,List.any_cons];cases hs:sEq x b with
   |true=>rfl
   | false =>
    rw[cF,ai (x:=i+1) (by omega),Bool.false_or];exact ih (a,b,i+1) ⟨rfl,rfl,by simp only;omega,by simp only;omega⟩ (by simp only;omega)
  ·rw[dF hi,cF,aQ hi];rfl
 ·cases h
theorem lZ :EO (z0z.ent λc=>some (aX c)):=z0z.ok (G:=⟨()⟩) trivial λc r h=>⟨1,by
 cases h;unfold z0z.main aX;generalize decide (97<=c)=b1;generalize decide (c<=122)=b2;generalize decide (65<=c)=b3;generalize decide (c<=90)=b4;generalize decide (48<=c)=b5;generalize decide (c<=57)=b6;cases b1<;>cases b2<;>cases b3<;>cases b4<;>cases b5<;>cases b6<;>rfl⟩
theorem z4o {R:Type} (G:z2s.Gs) (n:Nat) (s:ByteArray) (hs:s.size<=12) (k0:Bool->Option R) (k1:Option R):z2s.l4 G n 1000 s 0 k0 k1=bif (ofS s).all aX then k1 else k0 false:=by
 refine Eq.trans (kQ (body:=λv nx=>z2s.b4 G n v.1 v.2 (λy0 y1=>nx (y0,y1)) k0 k1) (Q:=λv=>v.1=s/\0<=v.2/\v.2<=s.size) (μ:=λv=>(s.size-v.2).toNat) (f:=λv=>bif ((ofS s).drop v.2.toNat).all aX then k1 else k0 false) ?_ 1000 (s,0) ⟨rfl,by simp,by simp⟩ (by simp only;omega)) (by simp);rintro⟨a,i⟩ nx ⟨e1,q0,q1⟩ ih;simp only at e1 q0 q1 ih ⊢;subst e1;unfold z2s.b4;by_cases hi:i<(ByteArray.size a:Int)
 ·obtain⟨c,x1,x2,x3,_⟩:=au (a:=ofS a) q0 (by rw[aE];exact hi);rw[dT hi,cT];simp only[mE,x1,bS];rw[x3,List.all_cons,ai (x:=i+1) (by omega)];have e:=ih (a,i+1) ⟨rfl,by simp only;omega,by simp only;omega⟩ (by simp only;omega);rw[e];unfold aX;generalize decide (97<=c)=b1;generalize decide (c<=122)=b2;generalize decide (65<=c)=b3;generalize decide (c<=90)=b4;generalize decide (48<=c)=b5;generalize decide (c<=57)=b6;cases b1<;>cases b2<;>cases b3<;>cases b4<;>cases b5<;>cases b6<;>rfl
 ·rw[dF hi,cF,aQ (by rw[aE];exact hi)];rfl
theorem z2t :EO (z2s.ent λs=>some (bn s)):=z2s.ok (G:=⟨()⟩) trivial λs r h=>⟨1000,by
 cases h;unfold z2s.main bn AA;cases h1:sEq s (ByteArray.mk #[105,102])with
 |true=>simp
 | false =>
  cases h2:sEq s (ByteArray.mk #[97,110,100])with
  |true=>simp
  | false =>
   by_cases h3:(ByteArray.size s:Int)<1
   ·rw[dT h3,dF (show ¬1<=s.size by omega)];rfl
   ·by_cases h4:12<(ByteArray.size s:Int)
    ·rw[dF h3,dT h4,dF (show ¬s.size<=12 by omega),dT (show 1<=s.size by omega)];rfl
    ·rw[dF h3,dF h4,dT (show s.size<=12 by omega),dT (show 1<=s.size by omega)];have hl:=aE      s;simp only[mE    ,cF,Bool.or_self,Bool.not_false,Bool.true_and,z2s.c3,z4o ⟨()⟩ 1000 s (by omega)];cases hq:ofS s with
     |nil=>rw[hq]at hl;simp at hl;omega
     | cons c l =>
      have e:ix (c::l) 0=some c:=rfl;simp only[e,bS,List.head?_cons,Option.any_some];unfold nQ;generalize (c::l).all aX=b0;generalize decide (97<=c)=b1;generalize decide (c<=122)=b2;generalize decide (65<=c)=b3;generalize decide (c<=90)=b4;cases b0<;>cases b1<;>cases b2<;>cases b3<;>cases b4<;>rfl⟩
theorem z10 {R:Type} (n:Nat) (s:ByteArray) (hs:s.size<=12) (k0:Bool->Option R) (k1:Option R):∀m (i:Int),0<i->i<=s.size->(s.size-i).toNat<m->
  z09.l4 ⟨λc=>some (aX c)⟩ n m s i k0 k1=bif ((ofS s).drop i.toNat).all aX then k1 else k0 false:=by
 intro m
 induction m with
 |zero=>intro i _ _ hm;omega
 | succ m ih =>
  intro i q0 q1 hm;show z09.b4 ⟨λc=>some (aX c)⟩ n s i (λy0 y1=>z09.l4 ⟨λc=>some (aX c)⟩ n m y0 y1 k0 k1) k0 k1=_;unfold z09.b4;by_cases hi:i<(ByteArray.size s:Int)
  ·obtain⟨c,x1,x2,x3,_⟩:=au (a:=ofS s) (i:=i) (by omega) (by rw[aE];exact hi);rw[dT hi,cT];simp only[mE,x1,bS];rw[x3,List.all_cons,ai (x:=i+1) (by omega),dF (by omega:¬i=0),ih (i+1) (by omega) (by omega) (by omega)];cases aX c<;>rfl
  ·rw[dF hi,cF,aQ (by rw[aE];exact hi)];rfl
theorem z0a :EO (z09.ent λs=>some (bn s)):=z09.ok (G:=⟨λc=>some (aX c)⟩) ⟨lZ,trivial⟩ λs r h=>⟨1000,by
 cases h;unfold z09.main bn AA;by_cases h3:(ByteArray.size s:Int)<1
 ·rw[dT h3,dF (show ¬1<=s.size by omega)];rfl
 ·by_cases h4:12<(ByteArray.size s:Int)
  ·rw[dF h3,dT h4,dF (show ¬s.size<=12 by omega),dT (show 1<=s.size by omega)];rfl
  ·rw [decide_eq_false h3, decide_eq_false h4, decide_eq_true (show s.size ≤ 12 by omega), decide_eq_true (show 1 ≤ s.size by omega)];cases h1:sEq s (ByteArray.mk #[105,102])with
   |true=>simp
   | false =>
    cases h2:sEq s (ByteArray.mk #[97,110,100])with
    |true=>simp
    | false =>
     have hl:=aE s;simp only[cF,Bool.or_self,Bool.not_false,Bool.true_and];show z09.b4 ⟨λc=>some (aX c)⟩ 1000 s 0 (λy0 y1=>z09.l4 ⟨λc=>some (aX c)⟩ 1000 999 y0 y1 (λt2=>some (AT.one (C.b t2),([]:List Ob))) (some (AT.one (C.b true),[]))) (λt2=>some (AT.one (C.b t2),[])) (some (AT.one (C.b true),[]))=_;unfold z09.b4;rw[dT (by omega:0<(ByteArray.size s:Int)),cT];have key:=z10 1000 s (by omega) (λr0=>some (AT.one (.b r0),([]:List Ob))) (some (AT.one (.b true),[])) 999 1 (by omega) (by omega) (by omega);have hr:=xH s;cases hq:ofS s with
     |nil=>rw[hq]at hl;simp at hl;omega
     | cons c l =>
      have e:ix (c::l) 0=some c:=rfl;rw[hq]at key;have w1:wr 1=1:=ai (by omega);simp only[mE,hq,e,bS,List.head?_cons,Option.any_some,decide_true,cT,Int.zero_add,w1,key,Int.toNat_one,List.drop_one,List.tail_cons,List.all_cons];generalize l.all aX=b0;unfold aX nQ;by_cases g1:c<=57
      ·rw[dT g1,dF (show ¬97<=c by omega),dF (show ¬65<=c by omega)];cases decide (48<=c)<;>cases b0<;>rfl
      ·rw[dF g1];generalize decide (97<=c)=b1;generalize decide (c<=122)=b2;generalize decide (65<=c)=b3;generalize decide (c<=90)=b4;generalize decide (48<=c)=b5;cases b0<;>cases b1<;>cases b2<;>cases b3<;>cases b4<;>cases b5<;>rfl⟩
abbrev orI (a b:Int):Int:=Abs.am .or .i64 a b
abbrev ox (i:Int):Int:=Abs.am .shl .i64 1 i
def aq (l:List Int) (i:Int):Int:=(ix l i).getD 0
def itn {A:Type} (f:A->A):Nat->A->A
 |0,x=>x
 |n+1,x=>itn f n (f x)
def mY (l:List Int) (p:Sb):List Int:=l.set p.low.toNat (orI (aq l p.low) (aq l p.high))
def fy (subs:List Sb) (l:List Int):List Int:=subs.foldl mY l
def bR (n:Nat):List Int:=(List.range n).map λ(k:Nat)=>ox (k:Int)
def upI (n:Nat) (subs:List Sb):List Int:=itn (fy subs) n (bR n)
def mC (l:List Int) (p:Sb):List Int:=(l.set p.low.toNat (gi (aq l p.low) (aq l p.high))).set p.high.toNat (gi (aq l p.low) (aq l p.high))
def eJ (subs:List Sb) (l:List Int):List Int:=subs.foldl mC l
def du (n:Nat):List Int:=(List.range n).map λ(k:Nat)=>(k:Int)
def aD (n:Nat) (subs:List Sb):List Int:=itn (eJ subs) n (du n)
def nI (n:Nat) (p:Sb):Bool:=decide (0<=p.low)&&decide (p.low<n)&&decide (0<=p.high)&&decide (p.high<n)
def bY (n:Nat) (subs:List Sb):Bool:=subs.all (nI n)
def ge (s:So):Bool:=decide (s.names.length<=8)&&decide (s.subs.length<=16)&&bY s.names.length s.subs
theorem az {l:List Int} {i:Int} (h0:0<=i) (h1:i<l.length):ix l i=some (aq l i):=by
 obtain⟨x,hx⟩:=tH h0 h1;unfold aq;rw[hx];rfl
theorem fV {n:Nat} {p:Sb} (h:nI n p=true):0<=p.low/\p.low<n/\0<=p.high/\p.high<n:=by
 unfold nI at h;simp only[bA,decide_eq_true_eq]at h;exact⟨h.1.1.1,h.1.1.2,h.1.2,h.2⟩
theorem fh (l:List Int) (p:Sb):(mY l p).length=l.length:=by simp[mY]
theorem gq (l:List Int) (p:Sb):(mC l p).length=l.length:=by simp[mC]
theorem cS {A:Type} {f:List Int->A->List Int} (hf:∀l p,(f l p).length=l.length):∀(xs:List A) (l:List Int),(xs.foldl f l).length=l.length
 |[],_=>rfl
 |x::xs,l=>by rw[List.foldl_cons,cS hf xs,hf]
theorem pM {f:List Int->List Int} (hf:∀l,(f l).length=l.length):∀n l,(itn f n l).length=l.length
 |0,_=>rfl
 |n+1,l=>by simp only[itn];rw[pM hf n,hf]
theorem dK (n:Nat) (subs:List Sb):(upI n subs).length=n:=by
 unfold upI;rw[pM (f:=fy subs) (λl=>cS fh subs l)];simp[bR]
theorem iY (n:Nat) (subs:List Sb):(aD n subs).length=n:=by
 unfold aD;rw[pM (f:=eJ subs) (λl=>cS gq subs l)];simp[du]

-- the program
section
variable {R : Type}
theorem CY (G:z14.Gs) (n N:Nat) (hN:N<=8) (h0:List ByteArray) (h02:List Sb) (k0:List ByteArray->List Sb->List Int->Option R):∀m (i:Int) (l:List Int),0<=i->i<=N->l.length=N->l.take i.toNat=(bR N).take i.toNat->(N-i).toNat<m->
  z14.l3 G n m (N:Int) i h0 h02 l k0=k0 h0 h02 (bR N):=by
 intro m
 induction m with
 |zero=>intro i l _ _ _ _ hm;omega
 | succ m ih =>
  intro i l q0 q1 ql qt hm;show z14.b3 G n N i h0 h02 l (λy0 y1 y2 y3 y4=>z14.l3 G n m y0 y1 y2 y3 y4 k0) k0=_;unfold z14.b3;have hbl:(bR N).length=N:=by simp[bR]
  by_cases hi:i<(N:Int)
  ·rw[dT hi,cT,dT q0,cT,bS,az      q0 (by omega),bS,ai    (x:=i+1) (by omega)];have hx:(bR     N)[i.toNat]? =some (ox   i):=by
    have hlt:i.toNat<N:=by omega
    have e:((i.toNat:Nat):Int)=i:=by omega
    simp[bR,hlt,e]
   obtain⟨s1,s2⟩:=sG (a:=bR N) (h:=l) q0 (by omega) (by omega) qt hx;exact ih (i+1) _ (by omega) (by omega) (by simp[ql]) s2 (by omega)
  ·rw[dF hi,cF,py (a:=bR N) (h:=l) (i:=i) (by omega) (by omega) qt]
theorem BK (G:z14.Gs) (n N:Nat) (a b:Int) (subs:List Sb) (hs:subs.length<=16) (h:bY N subs=true) (h0:List ByteArray) (h02:List Sb) (k0:Int->Int->List ByteArray->List Sb->List Int->Option R):∀m (i:Int) (l:List Int),0<=i->i<=subs.length->l.length=N->(subs.length-i).toNat<m->
  z14.l10 G n m a b subs (subs.length:Int) i h0 h02 l k0=k0 a b h0 h02 (fy (subs.drop i.toNat) l):=by
 intro m
 induction m with
 |zero=>intro i l _ _ _ hm;omega
 | succ m ih =>
  intro i l q0 q1 ql hm;show z14.b10 G n a b subs (subs.length:Int) i h0 h02 l (λy0 y1 y2 y3 y4 y5 y6 y7=>z14.l10 G n m y0 y1 y2 y3 y4 y5 y6 y7 k0) k0=_;unfold z14.b10;by_cases hi:i<(subs.length:Int)
  ·obtain⟨p,x1,x2,x3,_⟩:=au q0 hi;obtain⟨p0,p1,p2,p3⟩:=fV (aT.1 h p x2);rw[dT hi,cT,x1,bS,az p0 (by omega),bS,az p2 (by omega),bS,bS,ai (x:=i+1) (by omega)];refine Eq.trans (ih (i+1) _ (by omega) (by omega) (by simp[ql]) (by omega)) ?_;rw[x3];rfl
  ·rw[dF hi,cF,aQ hi];rfl
theorem wJ (G:z14.Gs) (N:Nat) (hN:N<=8) (subs:List Sb) (hs:subs.length<=16) (h:bY N subs=true) (h0:List ByteArray) (k0:List Int->Option R):∀m (i:Int) (l:List Int),0<=i->i<=N->l.length=N->(N-i).toNat<m->
  z14.l8 G 1000 m (N:Int) i h0 subs l k0=k0 (itn (fy subs) (N-i).toNat l):=by
 intro m
 induction m with
 |zero=>intro i l _ _ _ hm;omega
 | succ m ih =>
  intro i l q0 q1 ql hm;show z14.b8 G 1000 N i h0 subs l (λy0 y1 y2 y3 y4=>z14.l8 G 1000 m y0 y1 y2 y3 y4 k0) k0=_;unfold z14.b8;by_cases hi:i<(N:Int)
  ·rw[dT hi,cT,BK G 1000 N _ _ subs hs h _ _ _ 1000 0 l (by omega) (by omega) ql (by omega),ai (x:=i+1) (by omega)];refine Eq.trans (ih (i+1) _ (by omega) (by omega) (by rw[Int.toNat_zero,List.drop_zero];exact(cS fh subs l).trans ql) (by omega)) ?_;rw[show (N-i).toNat=(N-(i+1)).toNat+1 by omega];rfl
  ·rw[dF hi,cF,show (N-i).toNat=0 by omega];rfl
end
theorem gb {s:So} (h:ge s=true):s.names.length<=8/\s.subs.length<=16/\bY s.names.length s.subs=true:=by
 unfold ge at h;simp only[bA,decide_eq_true_eq]at h;exact⟨h.1.1,h.1.2,h.2⟩
theorem jm :EO (z14.ent λs=>if ge s then some (upI s.names.length s.subs)else none):=z14.ok (G:=⟨()⟩) trivial λs r h=>by
 split at h
 ·rename_i hp;cases h;obtain⟨h1,h2,h3⟩:=gb       hp;refine⟨1000,?_⟩;unfold z14.main;rw[Ax     (by omega),bS];have e:((List.replicate s.names.length (0:Int)).length:Int)=(s.names.length:Int):=by simp
  rw[e,CY ⟨()⟩ 1000 s.names.length h1 _ _ _ 1000 0 _ (by omega) (by omega) (by simp) (by simp) (by omega)];have e2:((bR s.names.length).length:Int)=(s.names.length:Int):=by simp[bR]
  rw[e2,wJ ⟨()⟩ s.names.length h1 s.subs h2 h3 _ _ 1000 0 _ (by omega) (by omega) (by simp[bR]) (by omega)];rfl
 ·cases h

-- the reference
theorem zk :EO (z3e.ent λk=>if 0<=k/\k<1000 then some (ox k)else none):=z3e.ok (G:=⟨()⟩) trivial λk r h=>by
 split at h
 ·rename_i hk;cases h;refine⟨1,?_⟩;unfold z3e.main;rw[qT hk.1 hk.2,dT hk.1];rfl
 ·cases h
abbrev o7 :Int->Option Int:=λk=>if 0<=k/\k<1000 then some (ox k)else none
section
variable {R : Type}
theorem yu (n:Nat) (h0:List ByteArray) (hN:h0.length<=8) (h02:List Sb) (k0:List ByteArray->List Sb->List Int->Option R):∀m (i:Int) (l:List Int),0<=i->i<=h0.length->l=bR i.toNat->(h0.length-i).toNat<m->
  z3h.l3 ⟨o7⟩ n m i h0 h02 l k0=k0 h0 h02 (bR h0.length):=by
 intro m
 induction m with
 |zero=>intro i l _ _ _ hm;omega
 | succ m ih =>
  intro i l q0 q1 ql hm;show z3h.b3 ⟨o7⟩ n i h0 h02 l (λy0 y1 y2 y3=>z3h.l3 ⟨o7⟩ n m y0 y1 y2 y3 k0) k0=_;unfold z3h.b3;have hl:l.length=i.toNat:=by rw[ql];simp[bR]
  by_cases hi:i<(h0.length:Int)
  ·have hb:o7    i=some (ox   i):=if_pos ⟨q0,by omega⟩;rw[dT hi,cT];dsimp only;rw[hb,bS,tE     (by simp;omega),bS,ai    (x:=i+1) (by omega)];refine ih (i+1) _ (by omega) (by omega) ?_ (by omega);have e:(i+1).toNat=i.toNat+1:=by omega
   have e2:((i.toNat:Nat):Int)=i:=by omega
   rw[e,ql];simp[bR,List.range_succ,e2]
  ·rw[dF hi,cF,ql,show i.toNat=h0.length by omega]
theorem Ao (G:z3h.Gs) (n N:Nat) (a:Int) (subs:List Sb) (hs:subs.length<=16) (h:bY N subs=true) (h0:List ByteArray) (k0:Int->List ByteArray->List Sb->List Int->Option R):∀m (i:Int) (l:List Int),0<=i->i<=subs.length->l.length=N->(subs.length-i).toNat<m->
  z3h.l10 G n m a i h0 subs l k0=k0 a h0 subs (fy (subs.drop i.toNat) l):=by
 intro m
 induction m with
 |zero=>intro i l _ _ _ hm;omega
 | succ m ih =>
  intro i l q0 q1 ql hm;show z3h.b10 G n a i h0 subs l (λy0 y1 y2 y3 y4=>z3h.l10 G n m y0 y1 y2 y3 y4 k0) k0=_;unfold z3h.b10;by_cases hi:i<(subs.length:Int)
  ·obtain⟨p,x1,x2,x3,_⟩:=au q0 hi;obtain⟨p0,p1,p2,p3⟩:=fV (aT.1 h p x2);rw[dT hi,cT];simp only[x1,bS,az (l:=l) p0 (by omega),az (l:=l) p2 (by omega),ai (x:=i+1) (by omega)];refine Eq.trans (ih (i+1) _ (by omega) (by omega) (by simp[ql]) (by omega)) ?_;rw[x3];rfl
  ·rw[dF hi,cF,aQ hi];rfl
theorem ud (G:z3h.Gs) (N:Nat) (h0:List ByteArray) (hN:h0.length=N) (hN8:N<=8) (subs:List Sb) (hs:subs.length<=16) (h:bY N subs=true) (k0:List Int->Option R):∀m (i:Int) (l:List Int),0<=i->i<=N->l.length=N->(N-i).toNat<m->
  z3h.l7 G 1000 m i h0 subs l k0=k0 (itn (fy subs) (N-i).toNat l):=by
 intro m
 induction m with
 |zero=>intro i l _ _ _ hm;omega
 | succ m ih =>
  intro i l q0 q1 ql hm;show z3h.b7 G 1000 i h0 subs l (λy0 y1 y2 y3=>z3h.l7 G 1000 m y0 y1 y2 y3 k0) k0=_;unfold z3h.b7;rw[hN];by_cases hi:i<(N:Int)
  ·rw[dT hi,cT,Ao G 1000 N _ subs hs h _ _ 1000 0 l (by omega) (by omega) ql (by omega),ai (x:=i+1) (by omega)];refine Eq.trans (ih (i+1) _ (by omega) (by omega) (by rw[Int.toNat_zero,List.drop_zero];exact(cS fh subs l).trans ql) (by omega)) ?_;rw[show (N-i).toNat=(N-(i+1)).toNat+1 by omega];rfl
  ·rw[dF hi,cF,show (N-i).toNat=0 by omega];rfl
theorem uv (G:z3g.Gs) (n:Nat) (h0:List ByteArray) (hN:h0.length<=8) (h02:List Sb) (k0:List ByteArray->List Sb->List Int->Option R):∀m (i:Int) (l:List Int),0<=i->i<=h0.length->l=du i.toNat->(h0.length-i).toNat<m->
  z3g.l3 G n m i h0 h02 l k0=k0 h0 h02 (du h0.length):=by
 intro m
 induction m with
 |zero=>intro i l _ _ _ hm;omega
 | succ m ih =>
  intro i l q0 q1 ql hm;show z3g.b3 G n i h0 h02 l (λy0 y1 y2 y3=>z3g.l3 G n m y0 y1 y2 y3 k0) k0=_;unfold z3g.b3;have hl:l.length=i.toNat:=by rw[ql];simp[du]
  by_cases hi:i<(h0.length:Int)
  ·rw[dT hi,cT,tE     (by simp;omega),bS,ai    (x:=i+1) (by omega)];refine ih (i+1) _ (by omega) (by omega) ?_ (by omega);have e:(i+1).toNat=i.toNat+1:=by omega
   have e2:((i.toNat:Nat):Int)=i:=by omega
   rw[e,ql];simp[du,List.range_succ,e2]
  ·rw[dF hi,cF,ql,show i.toNat=h0.length by omega]
theorem tj (n N:Nat) (a:Int) (subs:List Sb) (hs:subs.length<=16) (h:bY N subs=true) (h0:List ByteArray) (k0:Int->List ByteArray->List Sb->List Int->Option R):∀m (i:Int) (l:List Int),0<=i->i<=subs.length->l.length=N->(subs.length-i).toNat<m->
  z3g.l10 ⟨λa b=>some (gi b a)⟩ n m a i h0 subs l k0=k0 a h0 subs (eJ (subs.drop i.toNat) l):=by
 intro m
 induction m with
 |zero=>intro i l _ _ _ hm;omega
 | succ m ih =>
  intro i l q0 q1 ql hm;show z3g.b10 ⟨λa b=>some (gi b a)⟩ n a i h0 subs l (λy0 y1 y2 y3 y4=>z3g.l10 ⟨λa b=>some (gi b a)⟩ n m y0 y1 y2 y3 y4 k0) k0=_;unfold z3g.b10;by_cases hi:i<(subs.length:Int)
  ·obtain⟨p,x1,x2,x3,_⟩:=au        q0 hi;obtain⟨p0,p1,p2,p3⟩:=fV        (aT.1 h p x2);rw[dT hi,cT];have hset:∀z,∃y,ix (l.set p.low.toNat z) p.high=some y:=λz=>tH     p2 (by simp;omega);have e0:gi   (aq   l p.high) (aq   l p.low)=gi   (aq   l p.low) (aq   l p.high):=by unfold gi;split<;>split<;>omega
   obtain⟨y,hy⟩:=hset (gi (aq l p.low) (aq l p.high));simp only[x1,bS,az (l:=l) p0 (by omega),az (l:=l) p2 (by omega),ai (x:=i+1) (by omega),e0,hy];refine Eq.trans (ih (i+1) _ (by omega) (by omega) (by simp[ql]) (by omega)) ?_;rw[x3];rfl
  ·rw[dF hi,cF,aQ hi];rfl
theorem qg (N:Nat) (h0:List ByteArray) (hN8:N<=8) (subs:List Sb) (hs:subs.length<=16) (h:bY N subs=true) (k0:List Int->Option R):∀m (i:Int) (l:List Int),0<=i->i<=N->l.length=N->(N-i).toNat<m->
  z3g.l7 ⟨λa b=>some (gi b a)⟩ 1000 m i h0 subs l k0=k0 (itn (eJ subs) (N-i).toNat l):=by
 intro m
 induction m with
 |zero=>intro i l _ _ _ hm;omega
 | succ m ih =>
  intro i l q0 q1 ql hm;show z3g.b7 ⟨λa b=>some (gi b a)⟩ 1000 i h0 subs l (λy0 y1 y2 y3=>z3g.l7 ⟨λa b=>some (gi b a)⟩ 1000 m y0 y1 y2 y3 k0) k0=_;unfold z3g.b7;rw[ql];by_cases hi:i<(N:Int)
  ·rw[dT hi,cT,tj 1000 N _ subs hs h _ _ 1000 0 l (by omega) (by omega) ql (by omega),ai (x:=i+1) (by omega)];refine Eq.trans (ih (i+1) _ (by omega) (by omega) (by rw[Int.toNat_zero,List.drop_zero];exact(cS gq subs l).trans ql) (by omega)) ?_;rw[show (N-i).toNat=(N-(i+1)).toNat+1 by omega];rfl
  ·rw[dF hi,cF,show (N-i).toNat=0 by omega];rfl
end
theorem BH :EO (z3h.ent λs=>if ge s then some (upI s.names.length s.subs)else none):=z3h.ok (G:=⟨o7⟩) ⟨zk,trivial⟩ λs r h=>by
 split at h
 ·rename_i hp;cases h;obtain⟨h1,h2,h3⟩:=gb hp;refine⟨1000,?_⟩;unfold z3h.main;rw[yu 1000 s.names h1 _ _ 1000 0 [] (by omega) (by omega) rfl (by omega),ud ⟨o7⟩ s.names.length s.names rfl h1 s.subs h2 h3 _ 1000 0 _ (by omega) (by omega) (by simp[bR]) (by omega)];rfl
 ·cases h
theorem dy :EO (z3g.ent λs=>if ge s then some (aD s.names.length s.subs)else none):=z3g.ok (G:=⟨λa b=>some (gi b a)⟩) ⟨zZ,trivial⟩ λs r h=>by
 split at h
 ·rename_i hp;cases h;obtain⟨h1,h2,h3⟩:=gb hp;refine⟨1000,?_⟩;unfold z3g.main;rw[uv _ 1000 s.names h1 _ _ 1000 0 [] (by omega) (by omega) rfl (by omega),qg s.names.length s.names h1 s.subs h2 h3 _ 1000 0 _ (by omega) (by omega) (by simp[du]) (by omega)];rfl
 ·cases h
open Classical
def fM :List ByteArray->List ByteArray->Bool
 |_,[]=>true
 |seen,x::xs=>bn x&&(!(seen.any λy=>sEq y x)&&fM (seen++[x]) xs)
def qv (n:Nat) (p:Sb):Bool:=nI n p&& !decide (p.low=p.high)
def jf (x k:Int):Bool:=decide (Abs.am .and .i64 (Abs.am .shr .i64 x k) 1=1)
def bad (l:List Int) (i k:Int):Prop:=jf (aq l i) k=true/\jf (aq l k) i=true
noncomputable def pv (l:List Int):Bool:=decide (¬∃i k:Int,0<=k/\k<i/\i<l.length/\bad l i k)
noncomputable def cC (s:So):Bool:=decide (1<=s.names.length)&&(decide (s.names.length<=8)&&(decide (s.subs.length<=16)&&(fM [] s.names&&(s.subs.all (qv s.names.length)&&pv (upI s.names.length s.subs)))))
def SmallN (N:Nat) (x:Int):Prop:=∃a:Nat,x=a/\a<2^N
abbrev Small (x:Int):Prop:=∃a:Nat,x=a/\a<256
theorem pO {N:Nat} (hN:N<=8):2^N<=256:=by
 have:=Nat.pow_le_pow_right (n:=2) (by omega) hN;simpa using this
theorem SmallN.small {N:Nat} (hN:N<=8) {x:Int} (h:SmallN N x):Small x:=by
 obtain⟨a,e,h⟩:=h;have:=pO hN;exact⟨a,e,by omega⟩
theorem xN {N:Nat} (hN:N<=8) {a b:Int} (ha:SmallN N a) (hb:SmallN N b):SmallN N (orI a b):=by
 have:=pO hN;obtain⟨x,rfl,hx⟩:=ha;obtain⟨y,rfl,hy⟩:=hb;exact⟨x|||y,BF (by omega) (by omega),Nat.or_lt_two_pow hx hy⟩
theorem cE {l:List Int} {i:Int} (h0:0<=i) (h1:i<l.length):aq l i∈l:=by
 have:=az h0 h1;unfold ix at this;rw[dT h0,cT]at this;exact mG this
theorem qc {l:List Int} {p:Sb} {N:Nat} (hN:N<=8) (hl:l.length=N) (hp:nI N p=true) (h:∀x∈l,SmallN N x):∀x∈mY l p,SmallN N x:=by
 obtain⟨p0,p1,p2,p3⟩:=fV hp;intro x hx;rcases List.mem_or_eq_of_mem_set hx with hx|rfl
 ·exact h x hx
 ·exact xN hN (h _ (cE p0 (by omega))) (h _ (cE p2 (by omega)))
theorem js {N:Nat} (hN:N<=8):∀(subs:List Sb) (l:List Int),l.length=N->bY N subs=true->(∀x∈l,SmallN N x)->∀x∈fy subs l,SmallN N x
 |[],_,_,_,h=>h
 | p :: ps, l, hl, hs, h => by
  simp only[bY,List.all_cons,bA]at hs;exact js hN ps (mY l p) (by rw[fh,hl]) hs.2 (qc hN hl hs.1 h)
theorem pe {N:Nat} (hN:N<=8) {subs:List Sb} (hs:bY N subs=true):∀(n:Nat) (l:List Int),l.length=N->(∀x∈l,SmallN N x)->∀x∈itn (fy subs) n l,SmallN N x
 |0,_,_,h=>h
 |n+1,l,hl,h=>pe hN hs n _ ((cS fh subs l).trans hl) (js hN subs l hl hs h)
theorem mF {N:Nat} {subs:List Sb} (hN:N<=8) (hs:bY N subs=true):∀x∈upI N subs,SmallN N x:=by
 refine pe hN hs N _ (by simp[bR]) λx hx=> ?_;obtain⟨k,hk,rfl⟩:=List.mem_map.1 hx;have hk:k<N:=by simpa using hk
 exact⟨2^k,nV (by omega),Nat.pow_lt_pow_right (by omega) hk⟩
theorem wD {N:Nat} {subs:List Sb} (hN:N<=8) (hs:bY N subs=true):∀x∈upI N subs,Small x:=λx hx=>(mF hN hs x hx).small hN
theorem kH {A:Type} {p q:Prop} {a b:A} (h:p↔q):(if p then a else b)=(if q then a else b):=by
 by_cases hp:p
 ·rw[if_pos hp,if_pos (h.1 hp)]
 ·rw[if_neg hp,if_neg (λx=>hp (h.2 x))]
theorem ve {x k:Int} (hx:Small x) (h0:0<=k) (h1:k<63):(!decide (Abs.am .and .i64 x (ox k)=0))=jf x k:=by
 obtain⟨a,rfl,ha⟩:=hx;obtain⟨j,rfl⟩:∃j:Nat,k=j:=⟨k.toNat,by omega⟩;unfold jf ox;rw[nV (by omega),vR (by omega) (by omega),p8 (by omega) (by omega),Bool.not_not]
abbrev DF :Int->Int->Option Bool:=λset k=>some (decide (0<=k)&&(decide (k<16)&&jf set k))
theorem yK :EO (z3f.ent DF):=z3f.ok (G:=⟨()⟩) trivial λset k r h=>⟨1,by
 cases h;unfold z3f.main jf;by_cases h0:0<=k
 ·by_cases h1:k<16
  ·rw[dT h0,dT h1,qT h0 (by omega),dT h0];rfl
  ·rw[dT h0,dF h1];rfl
 ·rw[dF h0];rfl⟩
abbrev xU :So->Option (List Int):=λs=>if ge s then some (upI s.names.length s.subs)else none
abbrev fS :ByteArray->Option Bool:=λs=>some (bn s)
abbrev gIn :Int->Int->Int->Option Bool:=λx lo hi=>some (decide (lo<=x)&&decide (x<=hi))
abbrev DJ :List ByteArray->ByteArray->Option Bool:=λl s=>if l.length<=1048576 then some (l.any λx=>sEq x s)else none
abbrev dE :z2w.Gs:={z2s:=fS,z36:=DJ,z38:=gIn,z3h:=xU,z3f:=DF}
section
variable {R : Type}
theorem yq (n:Nat) (h0:List ByteArray) (hN:h0.length<=8) (h02:List Sb) (k0:Bool->Option R) (k1:List ByteArray->List Sb->Option R):∀m (i:Int),0<=i->i<=h0.length->(h0.length-i).toNat<m->
  z2w.l4 dE n m i h0 h02 k0 k1=bif fM (h0.take i.toNat) (h0.drop i.toNat)then k1 h0 h02 else k0 false:=by
 intro m
 induction m with
 |zero=>intro i _ _ hm;omega
 | succ m ih =>
  intro i q0 q1 hm;show z2w.b4 dE n i h0 h02 (λy0 y1 y2=>z2w.l4 dE n m y0 y1 y2 k0 k1) k0 k1=_;unfold z2w.b4;by_cases hi:i<(h0.length:Int)
  ·obtain⟨x,x1,x2,x3,x4⟩:=au        q0 hi;have e:(i+1).toNat=i.toNat+1:=by omega
   have ht:h0.take (i+1).toNat=h0.take i.toNat++[x]:=by
    obtain⟨hlt,hx⟩:=gI.1 x4;rw[e,List.take_succ_eq_append_getElem hlt,hx]
   have hsub:sub h0 0 i=some (h0.take i.toNat):=by rw[Aw (by omega) q0 (by omega)];rfl
   have hhas:DJ (h0.take i.toNat) x=some ((h0.take i.toNat).any λy=>sEq y x):=if_pos (by rw[List.length_take];omega);rw[dT hi,cT];simp only[x1,bS,hsub,hhas,ai (x:=i+1) (by omega)];rw[x3,fM,ih (i+1) (by omega) (by omega) (by omega),ht];cases bn x<;>cases ((h0.take i.toNat).any λy=>sEq y x)<;>rfl
  ·rw[dF hi,cF,aQ hi];rfl
theorem Bu (n:Nat) (h0:List ByteArray) (hN:h0.length<=8) (subs:List Sb) (hs:subs.length<=16) (k0:Bool->Option R) (k1:List ByteArray->List Sb->Option R):∀m (i:Int),0<=i->i<=subs.length->(subs.length-i).toNat<m->
  z2w.l9 dE n m i h0 subs k0 k1=bif (subs.drop i.toNat).all (qv h0.length)then k1 h0 subs else k0 false:=by
 intro m
 induction m with
 |zero=>intro i _ _ hm;omega
 | succ m ih =>
  intro i q0 q1 hm;show z2w.b9 dE n i h0 subs (λy0 y1 y2=>z2w.l9 dE n m y0 y1 y2 k0 k1) k0 k1=_;unfold z2w.b9;by_cases hi:i<(subs.length:Int)
  ·obtain⟨p,x1,x2,x3,x4⟩:=au        q0 hi;rw[dT hi,cT];simp only[x1,bS,ai    (x:=i+1) (by omega),ai    (x:=(h0.length:Int)-1) (by omega)];rw[x3,List.all_cons,ih (i+1) (by omega) (by omega) (by omega)];have e1:(decide (0<=p.low)&&decide (p.low<=(h0.length:Int)-1))=(decide (0<=p.low)&&decide (p.low<h0.length)):=by congr 1;exact decide_eq_decide.2 (by omega)
   have e2:(decide (0<=p.high)&&decide (p.high<=(h0.length:Int)-1))=(decide (0<=p.high)&&decide (p.high<h0.length)):=by congr 1;exact decide_eq_decide.2 (by omega)
   rw[e1,e2];unfold qv nI;cases decide (0<=p.low)<;>cases decide (p.low<(h0.length:Int))<;>cases decide (0<=p.high)<;>cases decide (p.high<(h0.length:Int))<;>cases decide (p.low=p.high)<;>rfl
  ·rw[dF hi,cF,aQ hi];rfl
theorem Gj (n:Nat) (l:List Int) (hl:l.length<=8) (i:Int) (i0:0<=i) (i1:i<l.length) (k0:Bool->Option R) (k1:List Int->Int->Option R):∀m (k:Int),0<=k->k<=i->(i-k).toNat<m->
  z2w.l18 dE n m l i k k0 k1=if ∃j,k<=j/\j<i/\bad l i j then k0 false else k1 l i:=by
 intro m
 induction m with
 |zero=>intro k _ _ hm;omega
 | succ m ih =>
  intro k q0 q1 hm;show z2w.b18 dE n l i k (λy0 y1 y2=>z2w.l18 dE n m y0 y1 y2 k0 k1) k0 k1=_;unfold z2w.b18;by_cases hi:k<i
  ·rw [decide_eq_true hi, cond_true];simp only[az      i0 i1,az      (l:=l) q0 (by omega),bS,dT q0,dT (show k<16 by omega),dT i0,dT (show i<16 by omega),Bool.true_and,ai    (x:=k+1) (by omega)];rw[ih (k+1) (by omega) (by omega) (by omega)];have hex:(∃j,k<=j/\j<i/\bad l i j)↔bad l i k\/∃j,k+1<=j/\j<i/\bad l i j:=by
    constructor
    ·rintro⟨j,h1,h2,h3⟩;by_cases e:j=k
     ·subst e;exact .inl h3
     ·exact .inr ⟨j,by omega,h2,h3⟩
    ·rintro(h|⟨j,h1,h2,h3⟩)
     ·exact⟨k,by omega,hi,h⟩
     ·exact⟨j,by omega,h2,h3⟩
   by_cases hb:bad l i k
   ·rw[if_pos (hex.2 (.inl hb)),hb.1,hb.2];rfl
   ·have:(∃j,k<=j/\j<i/\bad l i j)↔∃j,k+1<=j/\j<i/\bad l i j:=hex.trans ⟨λh=>h.resolve_left hb,.inr⟩;rw[kH      this];unfold bad at hb;cases h1:jf   (aq   l i) k with
    |false=>rfl
    | true =>
     cases h2:jf (aq l k) i with
     |false=>rfl
     |true=>exact absurd ⟨h1,h2⟩ hb
  ·rw[dF hi,cF,if_neg (by rintro⟨j,h1,h2,_⟩;omega)]
theorem Ej (l:List Int) (hl:l.length<=8) (k0:Bool->Option R) (k1:Option R):∀m (i:Int),0<=i->i<=l.length->(l.length-i).toNat<m->
  z2w.l15 dE 1000 m l i k0 k1=if ∃j k,i<=j/\j<l.length/\0<=k/\k<j/\bad l j k then k0 false else k1:=by
 intro m
 induction m with
 |zero=>intro k _ _ hm;omega
 | succ m ih =>
  intro i q0 q1 hm;show z2w.b15 dE 1000 l i (λy0 y1=>z2w.l15 dE 1000 m y0 y1 k0 k1) k0 k1=_;unfold z2w.b15;by_cases hi:i<(l.length:Int)
  ·rw [decide_eq_true hi, cond_true, Gj    1000 l hl i q0 hi _ _ 1000 0 (by omega) (by omega) (by omega), ai    (x := i + 1) (by omega)];dsimp only;rw[ih (i+1) (by omega) (by omega) (by omega)];have hex:(∃j k,i<=j/\j<(l.length:Int)/\0<=k/\k<j/\bad l j k)↔(∃k,0<=k/\k<i/\bad l i k)\/∃j k,i+1<=j/\j<(l.length:Int)/\0<=k/\k<j/\bad l j k:=by
    constructor
    ·rintro⟨j,k,h1,h2,h3,h4,h5⟩;by_cases e:j=i
     ·subst e;exact .inl ⟨k,h3,h4,h5⟩
     ·exact .inr ⟨j,k,by omega,h2,h3,h4,h5⟩
    ·rintro(⟨k,h3,h4,h5⟩|⟨j,k,h1,h2,h3,h4,h5⟩)
     ·exact⟨i,k,by omega,hi,h3,h4,h5⟩
     ·exact⟨j,k,by omega,h2,h3,h4,h5⟩
   by_cases hb:∃k,0<=k/\k<i/\bad l i k
   ·rw[if_pos hb,if_pos (hex.2 (.inl hb))]
   ·rw[if_neg hb,kH (hex.trans ⟨λh=>h.resolve_left hb,.inr⟩)]
  ·rw[dF hi,cF,if_neg (by rintro⟨j,k,h1,h2,_⟩;omega)]
end
theorem kw {n:Nat} {subs:List Sb} (h:subs.all (qv n)=true):bY n subs=true:=by
 unfold bY;rw[aT]at h ⊢;intro p hp;have:=h p hp;unfold qv at this;rw[bA]at this;exact this.1
theorem rG {l:List Int} {R:Type} {a b:R}:(if ∃j k,0<=j/\j<(l.length:Int)/\0<=k/\k<j/\bad l j k then a else b)=bif pv l then b else a:=by
 unfold pv
 have:(∃j k,0<=j/\j<(l.length:Int)/\0<=k/\k<j/\bad l j k)↔∃i k:Int,0<=k/\k<i/\i<l.length/\bad l i k:=
  ⟨λ⟨j,k,h1,h2,h3,h4,h5⟩=>⟨j,k,h3,h4,h2,h5⟩,λ⟨j,k,h3,h4,h2,h5⟩=>⟨j,k,by omega,h2,h3,h4,h5⟩⟩
 by_cases h:∃i k:Int,0<=k/\k<i/\i<l.length/\bad l i k
 ·rw[if_pos (this.2 h),dF (not_not_intro h)];rfl
 ·rw[if_neg (λx=>h (this.1 x)),dT h];rfl
theorem z2x :EO (z2w.ent λs=>some (cC s)):=z2w.ok (G:=dE) ⟨z2t,An,iW,BH,yK,trivial⟩ λs r h=>⟨1000,by
 cases h;unfold z2w.main cC;by_cases h1:(s.names.length:Int)<1
 ·rw[dT h1,dF (show ¬1<=s.names.length by omega)];rfl
 by_cases h2:8<(s.names.length:Int)
 ·rw[dF h1,dT h2,dF (show ¬s.names.length<=8 by omega),dT (show 1<=s.names.length by omega)];rfl
 by_cases h3:16<(s.subs.length:Int)
 ·rw[dF h1,dF h2,dT h3,dF (show ¬s.subs.length<=16 by omega),dT (show s.names.length<=8 by omega),dT (show 1<=s.names.length by omega)];rfl
 rw[dF h1,dF h2,dF h3,dT (show s.subs.length<=16 by omega),dT (show s.names.length<=8 by omega),dT (show 1<=s.names.length by omega)];simp only[cF,Bool.true_and];rw[yq 1000 s.names (by omega) s.subs _ _ 1000 0 (by omega) (by omega) (by omega),Bu 1000 s.names (by omega) s.subs (by omega) _ _ 1000 0 (by omega) (by omega) (by omega)];simp only[Int.toNat_zero,List.take_zero,List.drop_zero];cases fM [] s.names with
 |false=>rfl
 | true =>
  cases h4:s.subs.all (qv s.names.length)with
  |false=>rfl
  | true =>
   have hp:ge s=true:=by
    unfold ge;rw[dT (show s.names.length<=8 by omega),dT (show s.subs.length<=16 by omega),kw h4];rfl
   have e:xU (So.mk s.names s.subs)=some (upI s.names.length s.subs):=if_pos hp;simp only[cT,e,bS,Bool.true_and];rw[Ej _ (by rw[dK];omega) _ _ 1000 0 (by omega) (by omega) (by rw[dK];omega),rG];cases pv (upI s.names.length s.subs)<;>rfl⟩
open Classical
abbrev cu :z0d.Gs:={z09:=fS,z14:=xU}
def nj (kvs:List (ByteArray×Bool)) (seen:List ByteArray):Prop:=∀y,mM kvs y false=seen.any λz=>sEq z y
theorem rS :nj [] []:=λy=>rfl
theorem qS {kvs:List (ByteArray×Bool)} {seen:List ByteArray} (h:nj kvs seen) (x:ByteArray):nj ((x,true)::kvs) (seen++[x]):=λy=>by
 unfold mM uh;rw[List.any_append];by_cases e:x=y
 ·rw[if_pos e];simp[sEq,e]
 ·rw[if_neg e];have:=h y;unfold mM at this;rw[this];simp[sEq,e]
section
variable {R : Type}
theorem Bc (n:Nat) (n1:Int) (names:List ByteArray) (hN:names.length<=8) (h0:List ByteArray) (h02:List Sb) (k0:Bool->Option R) (k1:Int->List ByteArray->List Sb->Option R):∀m (i:Int) (kvs:List (ByteArray×Bool)),0<=i->i<=names.length->nj kvs (names.take i.toNat)->(names.length-i).toNat<m->
  z0d.l6 cu n m n1 names (names.length:Int) i h0 h02 kvs k0 k1=bif fM (names.take i.toNat) (names.drop i.toNat)then k1 n1 h0 h02 else k0 false:=by
 intro m
 induction m with
 |zero=>intro i _ _ _ _ hm;omega
 | succ m ih =>
  intro i kvs q0 q1 qs hm;show z0d.b6 cu n n1 names (names.length:Int) i h0 h02 kvs (λy0 y1 y2 y3 y4 y5 y6=>z0d.l6 cu n m y0 y1 y2 y3 y4 y5 y6 k0 k1) k0 k1=_;unfold z0d.b6;by_cases hi:i<(names.length:Int)
  ·obtain⟨x,x1,x2,x3,x4⟩:=au        q0 hi;have e:(i+1).toNat=i.toNat+1:=by omega
   have ht:names.take (i+1).toNat=names.take i.toNat++[x]:=by
    obtain⟨hlt,hx⟩:=gI.1 x4;rw[e,List.take_succ_eq_append_getElem hlt,hx]
   rw[dT hi,cT];simp only[x1,bS,ai (x:=i+1) (by omega)];rw[x3,fM,ih (i+1) _ (by omega) (by omega) (by rw[ht];exact qS qs x) (by omega),ht,qs x];cases bn x<;>cases ((names.take i.toNat).any λy=>sEq y x)<;>rfl
  ·rw[dF hi,cF,aQ hi];rfl
theorem Ck (n:Nat) (N:Nat) (subs:List Sb) (hs:subs.length<=16) (h0:List ByteArray) (h02:List Sb) (k0:Bool->Option R) (k1:List ByteArray->List Sb->Option R):∀m (i:Int),0<=i->i<=subs.length->(subs.length-i).toNat<m->
  z0d.l13 cu n m (N:Int) subs (subs.length:Int) i h0 h02 k0 k1=bif (subs.drop i.toNat).all (qv N)then k1 h0 h02 else k0 false:=by
 intro m
 induction m with
 |zero=>intro i _ _ hm;omega
 | succ m ih =>
  intro i q0 q1 hm;show z0d.b13 cu n (N:Int) subs (subs.length:Int) i h0 h02 (λy0 y1 y2 y3 y4 y5=>z0d.l13 cu n m y0 y1 y2 y3 y4 y5 k0 k1) k0 k1=_;unfold z0d.b13;by_cases hi:i<(subs.length:Int)
  ·obtain⟨p,x1,x2,x3,x4⟩:=au        q0 hi;rw[dT hi,cT];simp only[x1,bS,ai    (x:=i+1) (by omega)];rw[x3,List.all_cons,ih (i+1) (by omega) (by omega) (by omega)];have e1:decide (p.low<0)= !decide (0<=p.low):=by rw[<-decide_not];exact decide_eq_decide.2 (by omega)
   have e2:decide ((N:Int)<=p.low)= !decide (p.low<N):=by rw[<-decide_not];exact decide_eq_decide.2 (by omega)
   have e3:decide (p.high<0)= !decide (0<=p.high):=by rw[<-decide_not];exact decide_eq_decide.2 (by omega)
   have e4:decide ((N:Int)<=p.high)= !decide (p.high<N):=by rw[<-decide_not];exact decide_eq_decide.2 (by omega)
   rw[e1,e2,e3,e4];unfold qv nI;cases decide (0<=p.low)<;>cases decide (p.low<(N:Int))<;>cases decide (0<=p.high)<;>cases decide (p.high<(N:Int))<;>cases decide (p.low=p.high)<;>rfl
  ·rw[dF hi,cF,aQ hi];rfl
theorem Gl (n:Nat) (l:List Int) (hl:l.length<=8) (hsm:∀x∈l,Small x) (i:Int) (i0:0<=i) (i1:i<l.length) (a b:Int) (k0:Bool->Option R) (k1:List Int->Int->Int->Option R):∀m (k:Int),0<=k->k<=l.length->(l.length-k).toNat<m->
  z0d.l23 cu n m l i a b (l.length:Int) k k0 k1=if ∃j,k<=j/\j<(l.length:Int)/\i≠j/\bad l i j then k0 false else k1 l a b:=by
 intro m
 induction m with
 |zero=>intro k _ _ hm;omega
 | succ m ih =>
  intro k q0 q1 hm;show z0d.b23 cu n l i a b (l.length:Int) k (λy0 y1 y2 y3 y4 y5=>z0d.l23 cu n m y0 y1 y2 y3 y4 y5 k0 k1) k0 k1=_;unfold z0d.b23;by_cases hi:k<(l.length:Int)
  ·have a1:(0:Int)<=k+1:=by omega
   have a2:k+1<=(l.length:Int):=by omega
   have a3:((l.length:Int)-(k+1)).toNat<m:=by omega
   have hex:(∃j,k<=j/\j<(l.length:Int)/\i≠j/\bad l i j)↔(i≠k/\bad l i k)\/∃j,k+1<=j/\j<(l.length:Int)/\i≠j/\bad l i j:=by
    constructor
    ·rintro⟨j,h1,h2,h3⟩;by_cases e:j=k
     ·subst e;exact .inl h3
     ·exact .inr ⟨j,by omega,h2,h3⟩
    ·rintro(h|⟨j,h1,h2,h3⟩)
     ·exact⟨k,by omega,hi,h⟩
     ·exact⟨j,by omega,h2,h3⟩
   rw[dT hi,cT];simp only[az i0 i1,az (l:=l) q0 (by omega),bS,dT q0,dT i0,cT,ve (hsm _ (cE i0 i1)) q0 (by omega),ve (hsm _ (cE q0 hi)) i0 (by omega),ai (x:=k+1) (by omega)];rw[ih (k+1) a1 a2 a3];by_cases hb:i≠k/\bad l i k
   ·rw[if_pos (hex.2 (.inl hb)),hb.2.1,hb.2.2,dF hb.1];rfl
   ·have:(∃j,k<=j/\j<(l.length:Int)/\i≠j/\bad l i j)↔∃j,k+1<=j/\j<(l.length:Int)/\i≠j/\bad l i j:=hex.trans ⟨λh=>h.resolve_left hb,.inr⟩;rw[kH      this];by_cases hik:i=k
    ·rw[dT hik];rfl
    ·rw[dF hik];unfold bad at hb;cases h1:jf   (aq   l i) k with
     |false=>rfl
     | true =>
      cases h2:jf (aq l k) i with
      |false=>rfl
      |true=>exact absurd ⟨hik,h1,h2⟩ hb
  ·rw[dF hi,cF,if_neg (by rintro⟨j,h1,h2,_⟩;omega)]
theorem FD (l:List Int) (hl:l.length<=8) (hsm:∀x∈l,Small x) (k0:Bool->Option R) (k1:Option R):∀m (i:Int),0<=i->i<=l.length->(l.length-i).toNat<m->
  z0d.l20 cu 1000 m l (l.length:Int) i k0 k1=if ∃j k,i<=j/\j<(l.length:Int)/\0<=k/\k<(l.length:Int)/\j≠k/\bad l j k then k0 false else k1:=by
 intro m
 induction m with
 |zero=>intro k _ _ hm;omega
 | succ m ih =>
  intro i q0 q1 hm;show z0d.b20 cu 1000 l (l.length:Int) i (λy0 y1 y2=>z0d.l20 cu 1000 m y0 y1 y2 k0 k1) k0 k1=_;unfold z0d.b20;by_cases hi:i<(l.length:Int)
  ·rw [decide_eq_true hi, cond_true, Gl    1000 l hl hsm i q0 hi _ _ _ _ 1000 0 (by omega) (by omega) (by omega), ai    (x := i + 1) (by omega)];dsimp only;rw[ih (i+1) (by omega) (by omega) (by omega)];have hex:(∃j k,i<=j/\j<(l.length:Int)/\0<=k/\k<(l.length:Int)/\j≠k/\bad l j k)↔(∃k,0<=k/\k<(l.length:Int)/\i≠k/\bad l i k)\/∃j k,i+1<=j/\j<(l.length:Int)/\0<=k/\k<(l.length:Int)/\j≠k/\bad l j k:=by
    constructor
    ·rintro⟨j,k,h1,h2,h3,h4,h5⟩;by_cases e:j=i
     ·subst e;exact .inl ⟨k,h3,h4,h5⟩
     ·exact .inr ⟨j,k,by omega,h2,h3,h4,h5⟩
    ·rintro(⟨k,h3,h4,h5⟩|⟨j,k,h1,h2,h3,h4,h5⟩)
     ·exact⟨i,k,by omega,hi,h3,h4,h5⟩
     ·exact⟨j,k,by omega,h2,h3,h4,h5⟩
   by_cases hb:∃k,0<=k/\k<(l.length:Int)/\i≠k/\bad l i k
   ·rw[if_pos hb,if_pos (hex.2 (.inl hb))]
   ·rw[if_neg hb,kH (hex.trans ⟨λh=>h.resolve_left hb,.inr⟩)]
  ·rw[dF hi,cF,if_neg (by rintro⟨j,k,h1,h2,_⟩;omega)]
end
theorem wZ {l:List Int} {R:Type} {a b:R}:(if ∃j k,0<=j/\j<(l.length:Int)/\0<=k/\k<(l.length:Int)/\j≠k/\bad l j k then a else b)=bif pv l then b else a:=by
 rw[<-rG];refine kH ⟨λ⟨j,k,h1,h2,h3,h4,h5,h6⟩=> ?_,λ⟨j,k,h1,h2,h3,h4,h5⟩=>⟨j,k,h1,h2,h3,by omega,by omega,h5⟩⟩;rcases Int.lt_or_gt_of_ne h5 with h|h
 ·exact⟨k,j,h3,h4,h1,h,h6.2,h6.1⟩
 ·exact⟨j,k,h1,h2,h3,h,h6⟩
theorem z0e :EO (z0d.ent λs=>some (cC s)):=z0d.ok (G:=cu) ⟨z0a,jm,trivial⟩ λs r h=>⟨1000,by
 cases h;unfold z0d.main cC;by_cases h1:(s.names.length:Int)<1
 ·rw[dT h1,dF (show ¬1<=s.names.length by omega)];rfl
 by_cases h2:8<(s.names.length:Int)
 ·rw[dF h1,dT h2,dF (show ¬s.names.length<=8 by omega),dT (show 1<=s.names.length by omega)];rfl
 by_cases h3:16<(s.subs.length:Int)
 ·rw[dF h1,dF h2,dT h3,dF (show ¬s.subs.length<=16 by omega),dT (show s.names.length<=8 by omega),dT (show 1<=s.names.length by omega)];rfl
 rw[dF h1,dF h2,dF h3,dT (show s.subs.length<=16 by omega),dT (show s.names.length<=8 by omega),dT (show 1<=s.names.length by omega)];simp only[cF,Bool.true_and];rw[Bc 1000 _ s.names (by omega) s.names s.subs _ _ 1000 0 [] (by omega) (by omega) rS (by omega),Ck 1000 s.names.length s.subs (by omega) s.names s.subs _ _ 1000 0 (by omega) (by omega) (by omega)];simp only[Int.toNat_zero,List.take_zero,List.drop_zero];cases fM [] s.names with
 |false=>rfl
 | true =>
  cases h4:s.subs.all (qv s.names.length)with
  |false=>rfl
  | true =>
   have hp:ge s=true:=by
    unfold ge;rw[dT (show s.names.length<=8 by omega),dT (show s.subs.length<=16 by omega),kw h4];rfl
   have e:xU (So.mk s.names s.subs)=some (upI s.names.length s.subs):=if_pos hp;simp only[cT,e,bS,Bool.true_and];rw[FD _ (by rw[dK];omega) (wD (by omega) (kw h4)) _ _ 1000 0 (by omega) (by omega) (by rw[dK];omega),wZ];cases pv (upI s.names.length s.subs)<;>rfl⟩
open Classical
def df (x:Int):Bool:=decide (0<=x)&&decide (x<=65535)
def iw (x:Int):List Int:=if df x then (du 16).filter λk=>jf x k else []
theorem zj :EO (z0y.ent λx=>some (df x)):=z0y.ok (G:=⟨()⟩) trivial λx r h=>⟨1,by
 cases h;unfold z0y.main df;by_cases h:0<=x<;>simp[h]⟩
theorem oE {n:Nat} {i:Int} (h0:0<=i) (h1:i<n):(du n).drop i.toNat=i::(du n).drop (i+1).toNat:=by
 obtain⟨x,x1,_,x3,x4⟩:=au (a:=du n) h0 (by simp[du];exact h1);have hlt:i.toNat<n:=by omega
 have e:((i.toNat:Nat):Int)=i:=by omega
 have:x=i:=by simp[du,hlt,e]at x4;exact x4.symm
 rw[x3,this]
theorem xq {x k:Int} (hx:df x=true) (h0:0<=k) (h1:k<63):(!decide (Abs.am .and .i64 x (ox k)=0))=jf x k:=by
 unfold df at hx;simp only[bA,decide_eq_true_eq]at hx;obtain⟨a,rfl⟩:∃a:Nat,x=a:=⟨x.toNat,by omega⟩;obtain⟨j,rfl⟩:∃j:Nat,k=j:=⟨k.toNat,by omega⟩;unfold jf ox;rw[nV (by omega),vR (by omega) (by omega),p8 (by omega) (by omega),Bool.not_not]
theorem ra {R:Type} (n:Nat) (x:Int) (k0:List Int->Option R) (hx:df x=true):∀m (i:Int) (l:List Int),0<=i->i<=16->l.length<=i->(16-i).toNat<m->
  z0f.l3 ⟨λx=>some (df x)⟩ n m x i l k0=k0 (l++((du 16).drop i.toNat).filter λk=>jf x k):=by
 intro m
 induction m with
 |zero=>intro i l _ _ _ hm;omega
 | succ m ih =>
  intro i l q0 q1 ql hm;show z0f.b3 ⟨λx=>some (df x)⟩ n x i l (λy0 y1 y2=>z0f.l3 ⟨λx=>some (df x)⟩ n m y0 y1 y2 k0) k0=_;unfold z0f.b3;by_cases hi:i<16
  ·rw[dT hi,cT];simp only[bS,hx,cT,dT q0,xq        hx q0 (by omega),ai    (x:=i+1) (by omega)];rw[oE        q0 hi,List.filter_cons];cases jf   x i with
   | true =>
    rw[cT,tE (by simp;omega),bS,ih (i+1) _ (by omega) (by omega) (by simp;omega) (by omega)];simp
   | false =>
    rw[cF,ih (i+1) _ (by omega) (by omega) (by omega) (by omega)];simp
  ·rw[dF hi,cF,List.drop_eq_nil_of_le (by simp[du];omega)];simp
abbrev Dx :Int->Option (List Int):=λx=>some (iw x)
theorem wd :EO (z0f.ent Dx):=z0f.ok (G:=⟨λx=>some (df x)⟩) ⟨zj,trivial⟩ λx r h=>⟨1000,by
 cases h;unfold z0f.main iw;cases hx:df x with
 |true=>rw[ra 1000 x _ hx 1000 0 [] (by omega) (by omega) (by simp) (by omega)];rfl
 | false =>
  show z0f.b3 ⟨λx=>some (df x)⟩ 1000 x 0 [] (λy0 y1 y2=>z0f.l3 ⟨λx=>some (df x)⟩ 1000 999 y0 y1 y2 (λh0=>some (AT.one (.l .i h0),([]:List Ob)))) (λh0=>some (AT.one (.l .i h0),[]))=_;unfold z0f.b3;simp[hx]⟩
theorem xC {N:Nat} (hN:N<=8) {x:Int} (hx:SmallN N x):∀k∈iw x,0<=k/\k<N:=by
 have h8:=pO hN;obtain⟨a,rfl,ha⟩:=hx;intro k hk;unfold iw at hk;split at hk
 ·rw[List.mem_filter]at hk;obtain⟨j,hj,rfl⟩:=List.mem_map.1 hk.1;have hj:j<16:=by simpa using hj
  have hb:=hk.2;unfold jf at hb;rw[p8 (by omega) (by omega)]at hb;have:=Nat.ge_two_pow_of_testBit hb;refine⟨by omega,?_⟩;rcases Nat.lt_or_ge j N with h|h
  ·omega
  ·have:=Nat.pow_le_pow_right (n:=2) (by omega) h;omega
 ·cases hk
def vr (i:Int) (b:List Int) (k:Int):List Int:=b.set k.toNat (orI (aq b k) (ox i))
def uK (up:List Int) (b:List Int) (i:Int):List Int:=(iw (aq up i)).foldl (vr i) b
def jA (up:List Int):List Int:=(du up.length).foldl (uK up) (List.replicate up.length 0)
theorem wu (i:Int) (b:List Int) (k:Int):(vr i b k).length=b.length:=by simp[vr]
theorem uk (up:List Int) (b:List Int) (i:Int):(uK up b i).length=b.length:=cS (wu i) _ b
noncomputable def gn (s:So):Od×Bool:=if cC s then (⟨upI s.names.length s.subs,jA (upI s.names.length s.subs),aD s.names.length s.subs⟩,true)else (⟨[],[],[]⟩,false)
abbrev dA (q:So->Option Bool):z12.Gs:={z0d:=q,z14:=xU,z0f:=Dx}
section
variable {R : Type} {q : So → Option Bool}
theorem BD (n N:Nat) (n1 i:Int) (i0:0<=i) (t28:List Int) (t29 t30:Int) (bits:List Int) (hb:∀k∈bits,0<=k/\k<N) (hbl:bits.length<=16) (h0:List ByteArray) (h02:List Sb) (h2 h3 h4 h5 h7:List Int) (k0:Int->Int->List Int->Int->Int->List ByteArray->List Sb->List Int->List Int->List Int->List Int->List Int->List Int->Option R):∀m (j:Int) (b:List Int),0<=j->j<=bits.length->b.length=N->(bits.length-j).toNat<m->
  z12.l9 (dA q) n m n1 i t28 t29 t30 bits (bits.length:Int) j h0 h02 h2 h3 h4 h5 b h7 k0=k0 n1 i t28 t29 t30 h0 h02 h2 h3 h4 h5 ((bits.drop j.toNat).foldl (vr i) b) h7:=by
 intro m
 induction m with
 |zero=>intro j b _ _ _ hm;omega
 | succ m ih =>
  intro j b q0 q1 qb hm;show z12.b9 (dA q) n n1 i t28 t29 t30 bits (bits.length:Int) j h0 h02 h2 h3 h4 h5 b h7 (λy0 y1 y2 y3 y4 y5 y6 y7 y8 y9 y10 y11 y12 y13 y14 y15=>z12.l9 (dA q) n m y0 y1 y2 y3 y4 y5 y6 y7 y8 y9 y10 y11 y12 y13 y14 y15 k0) k0=_;unfold z12.b9;by_cases hj:j<(bits.length:Int)
  ·obtain⟨k,x1,x2,x3,_⟩:=au q0 hj;obtain⟨k1,k2⟩:=hb k x2;rw[dT hj,cT];simp only[x1,bS,az (l:=b) k1 (by omega),dT i0,cT,ai (x:=j+1) (by omega)];refine Eq.trans (ih (j+1) _ (by omega) (by omega) (by simp[qb]) (by omega)) ?_;rw[x3];rfl
  ·rw[dF hj,cF,aQ hj];rfl
theorem B8 (N:Nat) (hN:N<=8) (n1:Int) (up:List Int) (hu:up.length=N) (hs:∀x∈up,SmallN N x) (h0:List ByteArray) (h02:List Sb) (h2 h3 h4:List Int) (k0:Int->List ByteArray->List Sb->List Int->List Int->List Int->List Int->List Int->List Int->Option R):∀m (i:Int) (b kd:List Int),0<=i->i<=N->b.length=N->kd.length=N->kd.take i.toNat=(du N).take i.toNat->(N-i).toNat<m->
  z12.l6 (dA q) 1000 m n1 up (N:Int) i h0 h02 h2 h3 h4 up b kd k0=k0 n1 h0 h02 h2 h3 h4 up (((du N).drop i.toNat).foldl (uK up) b) (du N):=by
 intro m
 induction m with
 |zero=>intro i b kd _ _ _ _ _ hm;omega
 | succ m ih =>
  intro i b kd q0 q1 qb qk qt hm;show z12.b6 (dA q) 1000 n1 up (N:Int) i h0 h02 h2 h3 h4 up b kd (λy0 y1 y2 y3 y4 y5 y6 y7 y8 y9 y10 y11=>z12.l6 (dA q) 1000 m y0 y1 y2 y3 y4 y5 y6 y7 y8 y9 y10 y11 k0) k0=_;unfold z12.b6;have hnl:(du N).length=N:=by simp[du]
  by_cases hi:i<(N:Int)
  ·rw [decide_eq_true hi, cond_true, az      (l := up) q0 (by omega), Option.bind_some, Option.bind_some];have hbl:(iw     (aq   up i)).length<=16:=by
    unfold iw;split
    ·refine Nat.le_trans (List.length_filter_le _ _) ?_;simp[du]
    ·simp
   rw[BD (q:=q) 1000 N n1 i q0 up (N:Int) i (iw (aq up i)) (xC hN (hs _ (cE q0 (by omega)))) hbl _ _ _ _ _ _ _ _ 1000 0 b (by omega) (by omega) qb (by omega)];dsimp only;rw[az (l:=kd) q0 (by omega),bS,ai (x:=i+1) (by omega)];have hx:(du N)[i.toNat]? =some i:=by
    have hlt:i.toNat<N:=by omega
    have e:((i.toNat:Nat):Int)=i:=by omega
    simp[du,hlt,e]
   obtain⟨s1,s2⟩:=sG (a:=du N) (h:=kd) q0 (by omega) (by omega) qt hx;rw[ih (i+1) _ _ (by omega) (by omega) (by rw[Int.toNat_zero,List.drop_zero];exact(uk up b i).trans qb) (by simp[qk]) s2 (by omega)];rw[oE q0 hi,List.foldl_cons];rfl
  ·rw[dF hi,cF,List.drop_eq_nil_of_le (by omega),py (a:=du N) (h:=kd) (i:=i) (by omega) (by omega) qt];rfl
theorem CX (n N:Nat) (a b:Int) (subs:List Sb) (hs:subs.length<=16) (h:bY N subs=true) (h0:List ByteArray) (h02:List Sb) (h2 h3 h4 h5 h6:List Int) (k0:Int->Int->List ByteArray->List Sb->List Int->List Int->List Int->List Int->List Int->List Int->Option R):∀m (i:Int) (l:List Int),0<=i->i<=subs.length->l.length=N->(subs.length-i).toNat<m->
  z12.l18 (dA q) n m a b subs (subs.length:Int) i h0 h02 h2 h3 h4 h5 h6 l k0=k0 a b h0 h02 h2 h3 h4 h5 h6 (eJ (subs.drop i.toNat) l):=by
 intro m
 induction m with
 |zero=>intro i l _ _ _ hm;omega
 | succ m ih =>
  intro i l q0 q1 ql hm;show z12.b18 (dA q) n a b subs (subs.length:Int) i h0 h02 h2 h3 h4 h5 h6 l (λy0 y1 y2 y3 y4 y5 y6 y7 y8 y9 y10 y11 y12=>z12.l18 (dA q) n m y0 y1 y2 y3 y4 y5 y6 y7 y8 y9 y10 y11 y12 k0) k0=_;unfold z12.b18;by_cases hi:i<(subs.length:Int)
  ·obtain⟨p,x1,x2,x3,_⟩:=au q0 hi;obtain⟨p0,p1,p2,p3⟩:=fV (aT.1 h p x2);rw[dT hi,cT];obtain⟨y,hy⟩:=tH (a:=l.set p.low.toNat (gi (aq l p.low) (aq l p.high))) p2 (by simp;omega);simp only[x1,bS,az (l:=l) p0 (by omega),az (l:=l) p2 (by omega),ai (x:=i+1) (by omega),hy];refine Eq.trans (ih (i+1) _ (by omega) (by omega) (by simp[ql]) (by omega)) ?_;rw[x3];rfl
  ·rw[dF hi,cF,aQ hi];rfl
theorem wM (N:Nat) (hN8:N<=8) (subs:List Sb) (hs:subs.length<=16) (h:bY N subs=true) (h0:List ByteArray) (h2 h3 h4 h5 h6:List Int) (k0:List Int->List Int->List Int->List Int->List Int->List Int->Option R):∀m (i:Int) (l:List Int),0<=i->i<=N->l.length=N->(N-i).toNat<m->
  z12.l16 (dA q) 1000 m (N:Int) i h0 subs h2 h3 h4 h5 h6 l k0=k0 h2 h3 h4 h5 h6 (itn (eJ subs) (N-i).toNat l):=by
 intro m
 induction m with
 |zero=>intro i l _ _ _ hm;omega
 | succ m ih =>
  intro i l q0 q1 ql hm;show z12.b16 (dA q) 1000 (N:Int) i h0 subs h2 h3 h4 h5 h6 l (λy0 y1 y2 y3 y4 y5 y6 y7 y8 y9=>z12.l16 (dA q) 1000 m y0 y1 y2 y3 y4 y5 y6 y7 y8 y9 k0) k0=_;unfold z12.b16;by_cases hi:i<(N:Int)
  ·rw[dT hi,cT,CX (q:=q) 1000 N _ _ subs hs h _ _ _ _ _ _ _ _ 1000 0 l (by omega) (by omega) ql (by omega),ai (x:=i+1) (by omega)];refine Eq.trans (ih (i+1) _ (by omega) (by omega) (by rw[Int.toNat_zero,List.drop_zero];exact(cS gq subs l).trans ql) (by omega)) ?_;rw[show (N-i).toNat=(N-(i+1)).toNat+1 by omega];rfl
  ·rw[dF hi,cF,show (N-i).toNat=0 by omega];rfl
end
theorem et {s:So} (h:cC s=true):1<=s.names.length/\s.names.length<=8/\s.subs.length<=16/\bY s.names.length s.subs=true/\ge s=true:=by
 unfold cC at h;simp only[bA,decide_eq_true_eq]at h;obtain⟨h1,h2,h3,_,h4,_⟩:=h;refine⟨h1,h2,h3,kw h4,?_⟩;unfold ge;rw[dT h2,dT h3,kw h4];rfl
theorem lM :EO (z12.ent λs=>some (gn s)):=z12.ok (G:=dA λs=>some (cC s)) ⟨z0e,jm,wd,trivial⟩ λs r h=>⟨1000,by
 cases h;unfold z12.main gn;cases hs:cC s with
 |false=>simp only[bS,hs];rfl
 | true =>
  obtain⟨h1,h2,h3,h4,h5⟩:=et hs;have e:xU (So.mk s.names s.subs)=some (upI s.names.length s.subs):=if_pos h5;simp only[bS,hs,Bool.not_true,cF,z12.d4,Ax (show s.names.length<=4294967296 by omega),e];rw[dK,B8 s.names.length h2 _ _ (dK _ _) (mF h2 h4) _ _ _ _ _ _ 1000 0 _ _ (by omega) (by omega) (by simp) (by simp) (by simp) (by omega)];rw[wM s.names.length h2 s.subs h3 h4 _ _ _ _ _ _ _ 1000 0 _ (by omega) (by omega) (by simp[du]) (by omega)];unfold jA;rw[dK];rfl⟩
open Classical
def inN (N:Nat) (x:Int):Bool:=decide (0<=x)&&decide (x<N)
theorem bc {N:Nat} {x:Int}:inN N x=true↔0<=x/\x<N:=by unfold inN;simp
def ip (N:Nat) (kinds:List Int):List Int->List Int->Bool
 |[],_=>true
 |a::l,b::m=>inN N a&&(decide (aq kinds a=aq kinds b)&&ip N kinds l m)
 |_::_,[]=>false
def dL (N:Nat) (kinds:List Int) (first d:Dc):Bool:=decide (d.args.length=first.args.length)&&(inN N d.result&&(ip N kinds d.args first.args&&decide (aq kinds d.result=aq kinds first.result)))
def first (o:Opr):Dc:=o.decls.headD ⟨[],0⟩
def cg (N:Nat) (kinds:List Int) (o:Opr):Bool:=decide (1<=o.decls.length)&&(decide (o.decls.length<=4)&&(decide ((first o).args.length<=3)&&o.decls.all (dL N kinds (first o))))
def axF (kinds:List Int) (ops:List Opr) (o:Opr):Bool:=
 bif !o.assoc&&(!o.comm&&decide (o.unit=0))then true
 else decide ((first o).args.length=2)&&(decide (0<=o.unit)&&(decide (o.unit<=ops.length)&&(decide (aq kinds (aq (first o).args 0)=aq kinds (aq (first o).args 1))&&
  ((bif o.assoc||decide (0<o.unit)then decide (aq kinds (aq (first o).args 0)=aq kinds (first o).result)else true)&&
  (bif decide (o.unit = 0) then true else match ix ops (o.unit - 1) with
   |some u=>decide ((first u).args.length=0)&&decide (aq kinds (first u).result=aq kinds (first o).result)
   |none=>false)))))
def md (N:Nat) (kinds:List Int):List ByteArray->List Opr->Bool
 |_,[]=>true
 |seen,o::rest=>bn o.name&&(cg N kinds o&&(!(seen.any λy=>sEq y o.name)&&md N kinds (seen++[o.name]) rest))
noncomputable def aM (s:Sg):Bool:=cC s.sorts&&(decide (s.ops.length<=14)&&(md s.sorts.names.length (aD s.sorts.names.length s.sorts.subs) [] s.ops&&s.ops.all (axF (aD s.sorts.names.length s.sorts.subs) s.ops)))
theorem bq {o:Opr} (h:1<=o.decls.length):ix o.decls 0=some (first o):=by
 unfold first
 cases hd:o.decls with
 |nil=>rw[hd]at h;simp at h
 |cons d l=>rfl
theorem kt {N:Nat} {kinds:List Int}:∀{l m:List Int},ip N kinds l m=true->∀x∈l,inN N x=true
 |[],_,_,x,hx=>by simp at hx
 | a :: l, b :: m, h, x, hx => by
  simp only[ip,bA]at h;rcases List.mem_cons.1 hx with rfl|hx
  ·exact h.1
  ·exact kt h.2.2 x hx
 |_::_,[],h,_,_=>by simp[ip]at h
theorem cO {N:Nat} {kinds:List Int} {o:Opr} (h:cg N kinds o=true):1<=o.decls.length/\o.decls.length<=4/\(first o).args.length<=3/\(∀d∈o.decls,dL N kinds (first o) d=true)/\inN N (first o).result=true/\∀x∈(first o).args,inN N x=true:=by
 unfold cg at h;simp only[bA,decide_eq_true_eq]at h;obtain⟨h1,h2,h3,h4⟩:=h;rw[aT]at h4;have hm:first o∈o.decls:=by
  unfold first
  cases hd:o.decls with
  |nil=>rw[hd]at h1;simp at h1
  |cons d l=>simp
 have hf:=h4 _ hm;unfold dL at hf;simp only[bA]at hf;exact⟨h1,h2,h3,h4,hf.2.1,kt hf.2.2.1⟩
theorem gw :EO (z3i.ent λo=>if 1<=o.decls.length then some ((first o).args.length:Int)else none):=z3i.ok (G:=⟨()⟩) trivial λo r h=>by
 split at h
 ·rename_i h1;cases h;exact⟨1,by unfold z3i.main;rw[bq h1];rfl⟩
 ·cases h
abbrev cV :So->Option (List Int):=λs=>if ge s then some (aD s.names.length s.subs)else none
abbrev gAr :Opr->Option Int:=λo=>if 1<=o.decls.length then some ((first o).args.length:Int)else none
abbrev jJ :z3m.Gs:={z3g:=cV,z38:=gIn}
section
variable {R : Type}
theorem AJ {N:Nat} {x:Int} (hN:N<=8):(decide (0<=x)&&decide (x<=wr ((N:Int)-1)))=inN N x:=by
 unfold inN;rw[ai (x:=(N:Int)-1) (by omega)]
 congr 1
 exact decide_eq_decide.2 (by omega)
theorem CB (n N:Nat) (hN:N<=8) (kinds:List Int) (hk:kinds.length=N) (i:Int) (nm:ByteArray) (ds:List Dc) (as_ cm:Bool) (un:Int) (fa:List Int) (fr:Int) (da:List Int) (dr:Int) (hl:da.length=fa.length) (h3:fa.length<=3) (hfa:da=fa\/∀x∈fa,inN N x=true) (k0:Bool->Option R)
  (k1:List Int->Int->ByteArray->List Dc->Bool->Bool->Int->List Int->Int->List Int->Int->Option R):∀m (k:Int),0<=k->k<=da.length->(da.length-k).toNat<m->
  z3m.l12 jJ n m kinds i k nm ds as_ cm un fa fr da dr k0 k1=bif ip N kinds (da.drop k.toNat) (fa.drop k.toNat)then k1 kinds i nm ds as_ cm un fa fr da dr else k0 false:=by
 intro m
 induction m with
 |zero=>intro k _ _ hm;omega
 | succ m ih =>
  intro k q0 q1 hm;show z3m.b12 jJ n kinds i k nm ds as_ cm un fa fr da dr (λy0 y1 y2 y3 y4 y5 y6 y7 y8 y9 y10 y11=>z3m.l12 jJ n m y0 y1 y2 y3 y4 y5 y6 y7 y8 y9 y10 y11 k0 k1) k0 k1=_;unfold z3m.b12;by_cases hi:k<(da.length:Int)
  ·obtain⟨a,a1,a2,a3,a4⟩:=au        (a:=da) q0 hi;obtain⟨b,b1,b2,b3,b4⟩:=au        (a:=fa) q0 (by omega);rw[dT hi,cT,hk];simp only[a1,b1,bS,AJ     hN,ai    (x:=k+1) (by omega)];rw[a3,b3,ip   ];cases ha:inN N a with
   |false=>rfl
   | true =>
    have hb:inN N b=true:=by
     rcases hfa with e|h
     ·rw[e]at a1;rw[a1]at b1;cases b1;exact ha
     ·exact h b b2
    have ha':=bc.1 ha;have hb':=bc.1 hb;rw[az ha'.1 (by omega),az hb'.1 (by omega),bS,bS,ih (k+1) (by omega) (by omega) (by omega)];cases decide (aq kinds a=aq kinds b)<;>rfl
  ·rw[dF hi,cF,aQ hi];rfl
theorem CC (N:Nat) (hN:N<=8) (kinds:List Int) (hk:kinds.length=N) (o:Opr) (h4:o.decls.length<=4) (h3:(first o).args.length<=3) (h1:1<=o.decls.length) (k0:Bool->Option R) (k1:Option R):∀m (i:Int),0<=i->i<=o.decls.length->(0<i->inN N (first o).result=true/\∀x∈(first o).args,inN N x=true)->(o.decls.length-i).toNat<m->
  z3m.l6 jJ 1000 m kinds i o.name o.decls o.assoc o.comm o.unit (first o).args (first o).result k0 k1=bif (o.decls.drop i.toNat).all (dL N kinds (first o))then k1 else k0 false:=by
 intro m
 induction m with
 |zero=>intro i _ _ _ hm;omega
 | succ m ih =>
  intro i q0 q1 qf hm;show z3m.b6 jJ 1000 kinds i o.name o.decls o.assoc o.comm o.unit (first o).args (first o).result (λy0 y1 y2 y3 y4 y5 y6 y7 y8=>z3m.l6 jJ 1000 m y0 y1 y2 y3 y4 y5 y6 y7 y8 k0 k1) k0 k1=_;unfold z3m.b6;by_cases hi:i<(o.decls.length:Int)
  ·obtain⟨d,d1,d2,d3,d4⟩:=au        q0 hi;have hd0:i=0->d=first o:=λe=>by
    subst e;rw[bq h1]at d1;cases d1;rfl
   rw[dT hi,cT,d1,bS,d3,List.all_cons];by_cases hl:d.args.length=(first o).args.length
   ·have hl':(d.args.length:Int)=((first o).args.length:Int):=by omega
    rw[dT hl',Bool.not_true,cF];unfold dL;rw[dT hl,Bool.true_and];simp only[hk,bS,AJ hN];cases hr:inN N d.result with
    |false=>rfl
    | true =>
     have hr':=bc.1 hr;rw[Bool.not_true,cF];rw[CB 1000 N hN kinds hk i _ _ _ _ _ _ _ d.args d.result hl h3 (by
      rcases Int.lt_or_eq_of_le q0 with h|h
      ·exact .inr (qf h).2
      ·left;rw[hd0 h.symm]) _ _ 1000 0 (by omega) (by omega) (by omega)]
     simp only[Int.toNat_zero,List.drop_zero];cases ha:ip N kinds d.args (first o).args with
     |false=>rfl
     | true =>
      have hfr:inN N (first o).result=true:=by
       rcases Int.lt_or_eq_of_le q0 with h|h
       ·exact(qf h).1
       ·rw[<-hd0 h.symm];exact hr
      have hfr':=bc.1 hfr;have hfa:∀x∈(first o).args,inN N x=true:=by
       rcases Int.lt_or_eq_of_le q0 with h|h
       ·exact(qf h).2
       ·rw[<-hd0 h.symm];rw[hd0 h.symm]at ha ⊢;exact kt ha
      rw[cT,az hr'.1 (by omega),az hfr'.1 (by omega),bS,bS,ai (x:=i+1) (by omega)];rw[ih (i+1) (by omega) (by omega) (λ_=>⟨hfr,hfa⟩) (by omega)];cases decide (aq kinds d.result=aq kinds (first o).result)<;>rfl
   ·have hl':¬(d.args.length:Int)=((first o).args.length:Int):=by omega
    unfold dL;rw[dF hl',dF hl];rfl
  ·rw[dF hi,cF,aQ hi];rfl
end
theorem uD :EO (z3m.ent λs o=>if ge s.sorts then some (cg s.sorts.names.length (aD s.sorts.names.length s.sorts.subs) o)else none):=z3m.ok (G:=jJ) ⟨dy,iW,trivial⟩ λs o r h=>by
 split at h
 ·rename_i hp;cases h;obtain⟨p1,p2,p3⟩:=gb       hp;refine⟨1000,?_⟩;unfold z3m.main cg;by_cases     h1:(o.decls.length:Int)<1
  ·rw[dT h1,dF (show ¬1<=o.decls.length by omega)];rfl
  by_cases h4:4<(o.decls.length:Int)
  ·rw[dF h1,dT h4,dT (show 1<=o.decls.length by omega),dF (show ¬o.decls.length<=4 by omega)];rfl
  rw[dF h1,dF h4,dT (show 1<=o.decls.length by omega),dT (show o.decls.length<=4 by omega),bq (by omega)];simp only[cF,bS,Bool.true_and];by_cases h3:3<((first o).args.length:Int)
  ·rw[dT h3,dF (show ¬(first o).args.length<=3 by omega)];rfl
  have e:cV s.sorts=some (aD s.sorts.names.length s.sorts.subs):=if_pos hp;rw[dF h3,dT (show (first o).args.length<=3 by omega),cF,e,bS,CC s.sorts.names.length p1 _ (iY _ _) o (by omega) (by omega) (by omega) _ _ 1000 0 (by omega) (by omega) (λh=>absurd h (by omega)) (by omega)];simp only[Int.toNat_zero,List.drop_zero,Bool.true_and];cases o.decls.all (dL s.sorts.names.length (aD s.sorts.names.length s.sorts.subs) (first o))<;>rfl
 ·cases h
open Classical
def iC (N:Nat) (kinds:List Int) (ops:List Opr):Bool:=ops.all (cg N kinds)
abbrev GAx :z3j.Gs:={z3i:=gAr,z38:=gIn,z3g:=cV}
section
variable {R : Type}
theorem AD {o:Opr} (h:1<=o.decls.length):gAr o=some ((first o).args.length:Int):=if_pos h
theorem C1 (n N:Nat) (hN:N<=8) (kinds:List Int) (hk:kinds.length=N) (names:List ByteArray) (subs:List Sb) (ops:List Opr) (hol:ops.length<=14) (ho:iC N kinds ops=true) (o:Opr) (hf:inN N (first o).result=true) (h0:0<=o.unit) (h1:o.unit<=ops.length) (k0:Bool->Option R):
  z3j.c11 GAx n kinds (aq kinds (first o).result) names subs ops o.name o.decls o.assoc o.comm o.unit k0=k0 (bif decide (o.unit=0)then true else match ix ops (o.unit-1)with
   |some u=>decide ((first u).args.length=0)&&decide (aq kinds (first u).result=aq kinds (first o).result)
   |none=>false):=by
 unfold z3j.c11;by_cases hu:o.unit=0
 ·rw[dT hu];rfl
 ·rw[dF hu,cF,cF,ai    (x:=o.unit-1) (by omega)];obtain⟨u,u1,u2,_,_⟩:=au        (a:=ops) (i:=o.unit-1) (by omega) (by omega);obtain⟨d1,d2,d3,d4,d5,d6⟩:=cO           (aT.1 ho u u2);have d5':=bc.1      d5;rw[u1,bS];dsimp only;rw[AD     d1,bS];by_cases hz:(first u).args.length=0
  ·rw[dT hz,dT (show ((first u).args.length:Int)=0 by omega),cT,bq d1,bS,az d5'.1 (by omega),bS,Bool.true_and]
  ·rw[dF hz,dF (show ¬((first u).args.length:Int)=0 by omega)];rfl
theorem yr (n:Nat) (s:So) (hp:ge s=true) (ops:List Opr) (hol:ops.length<=14) (ho:iC s.names.length (aD s.names.length s.subs) ops=true) (o:Opr) (hd:cg s.names.length (aD s.names.length s.subs) o=true) (k0:Bool->Option R):
  z3j.c4 GAx n s.names s.subs ops o.name o.decls o.assoc o.comm o.unit k0=k0 (decide ((first o).args.length=2)&&(decide (0<=o.unit)&&(decide (o.unit<=ops.length)&&(decide (aq (aD s.names.length s.subs) (aq (first o).args 0)=aq (aD s.names.length s.subs) (aq (first o).args 1))&&
  ((bif o.assoc||decide (0<o.unit)then decide (aq (aD s.names.length s.subs) (aq (first o).args 0)=aq (aD s.names.length s.subs) (first o).result)else true)&&
  (bif decide (o.unit = 0) then true else match ix ops (o.unit - 1) with
   |some u=>decide ((first u).args.length=0)&&decide (aq (aD s.names.length s.subs) (first u).result=aq (aD s.names.length s.subs) (first o).result)
   |none=>false)))))):=by
 obtain⟨p1,p2,p3⟩:=gb hp;obtain⟨d1,d2,d3,d4,d5,d6⟩:=cO hd;have hkl:=iY s.names.length s.subs;generalize hkk:aD s.names.length s.subs=kinds at*;have d5':=bc.1 d5;unfold z3j.c4;have e0:gAr (Opr.mk o.name o.decls o.assoc o.comm o.unit)=some ((first o).args.length:Int):=if_pos d1;dsimp only;rw[e0,bS];by_cases h2:(first o).args.length=2
 ·rw [decide_eq_true h2, decide_eq_true (show ((first o).args.length : Int) = 2 by omega), Bool.not_true, cond_false, Bool.true_and, Option.bind_some];by_cases hu0:0<=o.unit
  ·by_cases hu1:o.unit<=ops.length
   ·rw[dT hu0,dT hu1];have e:cV     (So.mk s.names s.subs)=some kinds:=by rw[<-hkk];exact if_pos hp
    simp only[Bool.and_self,Bool.not_true,cF,Bool.true_and,e,bS,bq d1];have a0:ix (first o).args 0=some (aq (first o).args 0):=az (by omega) (by omega);have a1:ix (first o).args 1=some (aq (first o).args 1):=az (by omega) (by omega);have m0:=bc.1 (d6 _ (cE (l:=(first o).args) (i:=0) (by omega) (by omega)));have m1:=bc.1 (d6 _ (cE (l:=(first o).args) (i:=1) (by omega) (by omega)));rw[a0,bS,az (l:=kinds) m0.1 (by omega),bS,a1,bS,az (l:=kinds) m1.1 (by omega),bS,az (l:=kinds) d5'.1 (by omega),bS];rw[C1 n s.names.length p1 kinds hkl s.names s.subs ops hol ho o d5 hu0 hu1];cases o.assoc<;>cases decide (aq kinds (aq (first o).args 0)=aq kinds (aq (first o).args 1))<;>cases decide (aq kinds (aq (first o).args 0)=aq kinds (first o).result)<;>cases decide (0<o.unit)<;>rfl
   ·rw[dT hu0,dF hu1];rfl
  ·rw[dF hu0];rfl
 ·rw[dF h2,dF (show ¬((first o).args.length:Int)=2 by omega)];rfl
end
abbrev gAx :Sg->Int->Option Bool:=λs i=>if ge s.sorts&&(decide (s.ops.length<=14)&&iC s.sorts.names.length (aD s.sorts.names.length s.sorts.subs) s.ops)then (ix s.ops i).map (axF (aD s.sorts.names.length s.sorts.subs) s.ops)else none
theorem rP :EO (z3j.ent gAx):=z3j.ok (G:=GAx) ⟨gw,iW,dy,trivial⟩ λs i r h=>by
 unfold gAx at h;split at h
 ·rename_i hp;simp only[bA,decide_eq_true_eq]at hp;obtain⟨hp,h14,ho⟩:=hp;obtain⟨o,h1,rfl⟩:=Option.map_eq_some_iff.1 h;have hm:o∈s.ops:=by
   unfold ix at h1;cases hi:decide (0<=i)with
   |false=>rw[hi]at h1;cases h1
   |true=>rw[hi]at h1;exact mG h1
  refine⟨1000,?_⟩;unfold z3j.main axF;rw[h1,bS,yr 1000 s.sorts hp s.ops h14 ho o (aT.1 ho o hm)];cases o.assoc<;>cases o.comm<;>cases decide (o.unit=0)<;>rfl
 ·cases h
abbrev yP :Sg->Opr->Option Bool:=λs o=>if ge s.sorts then some (cg s.sorts.names.length (aD s.sorts.names.length s.sorts.subs) o)else none
abbrev oz (q:So->Option Bool):z2u.Gs:={z2w:=q,z2s:=fS,z3m:=yP,z3j:=gAx}
section
variable {R : Type} {q : So → Option Bool}
def nm (ops:List Opr):List ByteArray:=ops.map Opr.name
theorem xn (n:Nat) (i:Int) (names:List ByteArray) (subs:List Sb) (ops:List Opr) (hol:ops.length<=14) (o:Opr) (i0:0<=i) (i1:i<ops.length) (ho:ix ops i=some o) (k0:Bool->Option R) (k1:Int->List ByteArray->List Sb->List Opr->Option R):∀m (k:Int),0<=k->k<=i->(i-k).toNat<m->
  z2u.l9 (oz q) n m i k names subs ops k0 k1=bif ((nm (ops.take i.toNat)).drop k.toNat).any (λy=>sEq y o.name)then k0 false else k1 i names subs ops:=by
 intro m
 induction m with
 |zero=>intro k _ _ hm;omega
 | succ m ih =>
  intro k q0 q1 hm;show z2u.b9 (oz q) n i k names subs ops (λy0 y1 y2 y3 y4=>z2u.l9 (oz q) n m y0 y1 y2 y3 y4 k0 k1) k0 k1=_;unfold z2u.b9;have hlen:(nm (ops.take i.toNat)).length=i.toNat:=by simp[nm];omega
  by_cases hi:k<i
  ·obtain⟨p,x1,x2,x3,x4⟩:=au        (a:=ops) q0 (by omega);obtain⟨y,y1,y2,y3,y4⟩:=au        (a:=nm (ops.take i.toNat)) q0 (by omega);have hy:y=p.name:=by
    unfold nm at y4;rw[List.getElem?_map,List.getElem?_take,if_pos (by omega),x4]at y4;exact(Option.some.inj y4).symm
   rw[dT hi,cT,x1,bS,ho,bS,y3,List.any_cons,hy,ai (x:=k+1) (by omega)];cases sEq p.name o.name with
   |true=>rfl
   |false=>exact ih (k+1) (by omega) (by omega) (by omega)
  ·rw[dF hi,cF,List.drop_eq_nil_of_le (by omega)];rfl
theorem AZ (s:So) (hp:ge s=true) (ops:List Opr) (hol:ops.length<=14) (k0:Bool->Option R) (k1:List ByteArray->List Sb->List Opr->Option R):∀m (i:Int),0<=i->i<=ops.length->(ops.length-i).toNat<m->
  z2u.l4 (oz q) 1000 m i s.names s.subs ops k0 k1=bif md s.names.length (aD s.names.length s.subs) (nm (ops.take i.toNat)) (ops.drop i.toNat)then k1 s.names s.subs ops else k0 false:=by
 intro m
 induction m with
 |zero=>intro i _ _ hm;omega
 | succ m ih =>
  intro i q0 q1 hm;show z2u.b4 (oz q) 1000 i s.names s.subs ops (λy0 y1 y2 y3=>z2u.l4 (oz q) 1000 m y0 y1 y2 y3 k0 k1) k0 k1=_;unfold z2u.b4;by_cases hi:i<(ops.length:Int)
  ·obtain⟨o,x1,x2,x3,x4⟩:=au        q0 hi;have e:(i+1).toNat=i.toNat+1:=by omega
   have ht:nm (ops.take (i+1).toNat)=nm (ops.take i.toNat)++[o.name]:=by
    obtain⟨hlt,hx⟩:=gI.1 x4;rw[e,List.take_succ_eq_append_getElem hlt,hx];simp[nm]
   have eD:yP (Sg.mk (So.mk s.names s.subs) ops) o=some (cg s.names.length (aD s.names.length s.subs) o):=if_pos hp;rw[dT hi,cT];simp only[x1,bS,eD];rw[x3,md,xn 1000 i s.names s.subs ops hol o q0 hi x1 _ _ 1000 0 (by omega) (by omega) (by omega),ai (x:=i+1) (by omega)];rw[ih (i+1) (by omega) (by omega) (by omega),ht];simp only[Int.toNat_zero,List.drop_zero];cases bn o.name<;>cases cg s.names.length (aD s.names.length s.subs) o<;>cases ((nm (ops.take i.toNat)).any λy=>sEq y o.name)<;>rfl
  ·rw[dF hi,cF,aQ hi];rfl
theorem my {N:Nat} {kinds:List Int}:∀{ops:List Opr} {seen:List ByteArray},md N kinds seen ops=true->iC N kinds ops=true
 |[],_,_=>rfl
 | o :: ops, seen, h => by
  simp only[md,bA]at h;simp only[iC,List.all_cons,bA];exact⟨h.2.1,my h.2.2.2⟩
theorem BA (s:So) (hp:ge s=true) (ops:List Opr) (hol:ops.length<=14) (ho:iC s.names.length (aD s.names.length s.subs) ops=true) (k0:Bool->Option R) (k1:Option R):∀m (i:Int),0<=i->i<=ops.length->(ops.length-i).toNat<m->
  z2u.l14 (oz q) 1000 m i s.names s.subs ops k0 k1=bif (ops.drop i.toNat).all (axF (aD s.names.length s.subs) ops)then k1 else k0 false:=by
 intro m
 induction m with
 |zero=>intro i _ _ hm;omega
 | succ m ih =>
  intro i q0 q1 hm;show z2u.b14 (oz q) 1000 i s.names s.subs ops (λy0 y1 y2 y3=>z2u.l14 (oz q) 1000 m y0 y1 y2 y3 k0 k1) k0 k1=_;unfold z2u.b14;by_cases hi:i<(ops.length:Int)
  ·obtain⟨o,x1,x2,x3,x4⟩:=au        q0 hi;have eA:gAx (Sg.mk (So.mk s.names s.subs) ops) i=some (axF (aD    s.names.length s.subs) ops o):=by
    unfold gAx;rw[if_pos (by
     rw[bA,bA];exact⟨hp,dT hol,ho⟩)]
    show (ix ops i).map _=_;rw[x1];rfl
   rw[dT hi,cT];dsimp only;rw[eA,bS,x3,List.all_cons,ai (x:=i+1) (by omega),ih (i+1) (by omega) (by omega) (by omega)];cases axF (aD s.names.length s.subs) ops o<;>rfl
  ·rw[dF hi,cF,aQ hi];rfl
end
theorem z2v :EO (z2u.ent λs=>some (aM s)):=z2u.ok (G:=oz λs=>some (cC s)) ⟨z2x,z2t,uD,rP,trivial⟩ λs r h=>⟨1000,by
 cases h;unfold z2u.main aM;rw[bS];cases hs:cC s.sorts with
 |false=>rfl
 | true =>
  obtain⟨_,_,_,_,hp⟩:=et hs;by_cases h14:14<(s.ops.length:Int)
  ·rw[dT h14,dF (show ¬s.ops.length<=14 by omega)];rfl
  ·rw[dF h14,dT (show s.ops.length<=14 by omega),Bool.not_true,cF,cF];rw[AZ       s.sorts hp s.ops (by omega) _ _ 1000 0 (by omega) (by omega) (by omega)];simp only[Int.toNat_zero,List.take_zero,List.drop_zero,nm,List.map_nil,Bool.true_and];cases ho:md   s.sorts.names.length (aD    s.sorts.names.length s.sorts.subs) [] s.ops with
   |false=>rfl
   | true =>
    rw[cT,BA s.sorts hp s.ops (by omega) (my ho) _ _ 1000 0 (by omega) (by omega) (by omega)];simp only[Int.toNat_zero,List.drop_zero,Bool.true_and];cases s.ops.all (axF (aD s.sorts.names.length s.sorts.subs) s.ops)<;>rfl⟩
theorem dm {s:Sg} (h:aM s=true):s.ops.length<=14/\∀o∈s.ops,cg s.sorts.names.length (aD s.sorts.names.length s.sorts.subs) o=true/\axF (aD s.sorts.names.length s.sorts.subs) s.ops o=true:=by
 unfold aM at h;simp only[bA,decide_eq_true_eq]at h;obtain⟨_,h1,h2,h3⟩:=h;exact⟨h1,λo ho=>⟨aT.1 (my h2) o ho,aT.1 h3 o ho⟩⟩
theorem yL {kinds:List Int} {ops:List Opr} {o:Opr} (h:axF kinds ops o=true):0<=o.unit/\o.unit<=ops.length:=by
 unfold axF at h;cases hc:(!o.assoc&&(!o.comm&&decide (o.unit=0)))with
 | true =>
  simp only[bA,decide_eq_true_eq]at hc;omega
 | false =>
  rw[hc,cF]at h;simp only[bA,decide_eq_true_eq]at h;exact⟨h.2.1,h.2.2.1⟩
open Classical
abbrev CK :Od->Int->Option Bool:=λx k=>some (inN x.above.length k)
theorem lR :EO (z13.ent CK):=z13.ok (G:=⟨()⟩) trivial λx k r h=>⟨1,by
 cases h;unfold z13.main inN;by_cases h:0<=k
 ·rw[dT h];rfl
 ·rw[dF h];rfl⟩
abbrev GDI :z0x.Gs:={z13:=CK}
section
variable {R : Type}
theorem yy (n N:Nat) (ab be kinds:List Int) (hN:ab.length=N) (l:List Int) (hl:l.length<=3) (nm:ByteArray) (ds:List Dc) (a1 a2:Bool) (un:Int) (fa:List Int) (fr:Int) (k0:Bool->Option R) (k1:List Int->List Int->List Int->ByteArray->List Dc->Bool->Bool->Int->List Int->Int->Option R):∀m (i:Int),0<=i->i<=l.length->(l.length-i).toNat<m->
  z0x.l7 GDI n m l (l.length:Int) i ab be kinds nm ds a1 a2 un fa fr k0 k1=bif (l.drop i.toNat).all (inN N)then k1 ab be kinds nm ds a1 a2 un fa fr else k0 false:=by
 intro m
 induction m with
 |zero=>intro i _ _ hm;omega
 | succ m ih =>
  intro i q0 q1 hm;show z0x.b7 GDI n l (l.length:Int) i ab be kinds nm ds a1 a2 un fa fr (λy0 y1 y2 y3 y4 y5 y6 y7 y8 y9 y10 y11 y12=>z0x.l7 GDI n m y0 y1 y2 y3 y4 y5 y6 y7 y8 y9 y10 y11 y12 k0 k1) k0 k1=_;unfold z0x.b7;by_cases hi:i<(l.length:Int)
  ·obtain⟨x,x1,x2,x3,_⟩:=au q0 hi;rw[dT hi,cT];simp only[x1,bS,hN,ai (x:=i+1) (by omega)];rw[x3,List.all_cons,ih (i+1) (by omega) (by omega) (by omega)];cases inN N x<;>rfl
  ·rw[dF hi,cF,aQ hi];rfl
theorem CU (n N:Nat) (ds:List Dc) (t54 t55:Int) (ab be kinds:List Int) (hN:ab.length=N) (hk:kinds.length=N) (fa:List Int) (fr:Int) (da:List Int) (hl:da.length=fa.length) (h3:fa.length<=3) (hfa:∀x∈fa,inN N x=true) (k0:Bool->Option R)
  (k1:List Dc->Int->Int->List Int->List Int->List Int->List Int->Int->Option R):∀m (k:Int),0<=k->k<=da.length->(da.length-k).toNat<m->
  z0x.l18 GDI n m ds t54 t55 da (da.length:Int) k ab be kinds fa fr k0 k1=bif ip N kinds (da.drop k.toNat) (fa.drop k.toNat)then k1 ds t54 t55 ab be kinds fa fr else k0 false:=by
 intro m
 induction m with
 |zero=>intro k _ _ hm;omega
 | succ m ih =>
  intro k q0 q1 hm;show z0x.b18 GDI n ds t54 t55 da (da.length:Int) k ab be kinds fa fr (λy0 y1 y2 y3 y4 y5 y6 y7 y8 y9 y10=>z0x.l18 GDI n m y0 y1 y2 y3 y4 y5 y6 y7 y8 y9 y10 k0 k1) k0 k1=_;unfold z0x.b18;by_cases hi:k<(da.length:Int)
  ·obtain⟨a,a1,a2,a3,a4⟩:=au        (a:=da) q0 hi;obtain⟨b,b1,b2,b3,b4⟩:=au        (a:=fa) q0 (by omega);rw[dT hi,cT];simp only[a1,b1,bS,hN,ai    (x:=k+1) (by omega)];rw[a3,b3,ip   ];cases ha:inN N a with
   |false=>rfl
   | true =>
    have ha':=bc.1 ha;have hb':=bc.1 (hfa b b2);rw[az ha'.1 (by omega),az hb'.1 (by omega),bS,bS,ih (k+1) (by omega) (by omega) (by omega)];cases decide (aq kinds a=aq kinds b)<;>rfl
  ·rw[dF hi,cF,aQ hi];rfl
theorem CZ (N:Nat) (ab be kinds:List Int) (hN:ab.length=N) (hk:kinds.length=N) (f:Dc) (h3:f.args.length<=3) (hfr:inN N f.result=true) (hfa:∀x∈f.args,inN N x=true) (ds:List Dc) (h4:ds.length<=4) (k0:Bool->Option R) (k1:Option R):∀m (i:Int),0<=i->i<=ds.length->(ds.length-i).toNat<m->
  z0x.l13 GDI 1000 m ds (ds.length:Int) i ab be kinds f.args f.result k0 k1=bif (ds.drop i.toNat).all (dL N kinds f)then k1 else k0 false:=by
 intro m
 induction m with
 |zero=>intro i _ _ hm;omega
 | succ m ih =>
  intro i q0 q1 hm;show z0x.b13 GDI 1000 ds (ds.length:Int) i ab be kinds f.args f.result (λy0 y1 y2 y3 y4 y5 y6 y7=>z0x.l13 GDI 1000 m y0 y1 y2 y3 y4 y5 y6 y7 k0 k1) k0 k1=_;unfold z0x.b13;by_cases hi:i<(ds.length:Int)
  ·obtain⟨d,d1,d2,d3,d4⟩:=au        q0 hi;rw[dT hi,cT,d1,bS,d3,List.all_cons];unfold dL;by_cases    hl:d.args.length=f.args.length
   ·rw[dT hl,dT (show (d.args.length:Int)=(f.args.length:Int) by omega),Bool.not_true,cF,Bool.true_and];simp only[bS,hN];cases hr:inN N d.result with
    |false=>rfl
    | true =>
     have hr':=bc.1 hr;have hfr':=bc.1 hfr;rw[Bool.not_true,cF,az hr'.1 (by omega),az hfr'.1 (by omega),bS,bS];rw[CU 1000 N ds _ _ ab be kinds hN hk f.args f.result d.args hl h3 hfa _ _ 1000 0 (by omega) (by omega) (by omega),ai (x:=i+1) (by omega)];simp only[Int.toNat_zero,List.drop_zero];rw[ih (i+1) (by omega) (by omega) (by omega)];unfold dL;cases decide (aq kinds d.result=aq kinds f.result)<;>cases ip N kinds d.args f.args<;>rfl
   ·rw[dF hl,dF (show ¬(d.args.length:Int)=(f.args.length:Int) by omega)];rfl
  ·rw[dF hi,cF,aQ hi];rfl
end
noncomputable def gDI:Od->Opr->Option Bool:=λx o=>if x.above.length<=8/\x.kind.length=x.above.length then some (cg x.above.length x.kind o)else none
theorem tu :EO (z0x.ent gDI):=z0x.ok (G:=GDI) ⟨lR,trivial⟩ λx o r h=>by
 unfold gDI at h;split at h
 ·rename_i hp;cases h;obtain⟨p1,p2⟩:=hp;refine⟨1000,?_⟩;unfold z0x.main cg;by_cases     h1:(o.decls.length:Int)<1
  ·rw[dT h1,dF (show ¬1<=o.decls.length by omega)];rfl
  by_cases h4:4<(o.decls.length:Int)
  ·rw[dF h1,dT h4,dT (show 1<=o.decls.length by omega),dF (show ¬o.decls.length<=4 by omega)];rfl
  rw[dF h1,dF h4,dT (show 1<=o.decls.length by omega),dT (show o.decls.length<=4 by omega),bq (by omega)];simp only[cF,bS,Bool.true_and];by_cases h3:3<((first o).args.length:Int)
  ·rw[dT h3,dF (show ¬(first o).args.length<=3 by omega)];rfl
  rw[dF h3,dT (show (first o).args.length<=3 by omega),cF];have hm:first o∈o.decls:=by
   unfold first
   cases hd:o.decls with
   |nil=>rw[hd]at h1;simp at h1
   |cons d l=>simp
  have key:o.decls.all (dL x.above.length x.kind (first o))=true->inN x.above.length (first o).result=true/\(first o).args.all (inN x.above.length)=true:=λhall=>by
   have hf:=aT.1 hall _ hm;unfold dL at hf;simp only[bA]at hf;exact⟨hf.2.1,aT.2 (kt hf.2.2.1)⟩
  cases hr:inN x.above.length (first o).result with
  | false =>
   have:o.decls.all (dL x.above.length x.kind (first o))=false:=by
    cases hc:o.decls.all (dL x.above.length x.kind (first o))with
    |false=>rfl
    |true=>rw[(key hc).1]at hr;cases hr
   rw[this];rfl
  | true =>
   rw[Bool.not_true,cF,yy 1000 x.above.length x.above x.below x.kind rfl (first o).args (by omega) _ _ _ _ _ _ _ _ _ 1000 0 (by omega) (by omega) (by omega)];simp only[Int.toNat_zero,List.drop_zero];cases ha:(first o).args.all (inN x.above.length)with
   | false =>
    have:o.decls.all (dL x.above.length x.kind (first o))=false:=by
     cases hc:o.decls.all (dL x.above.length x.kind (first o))with
     |false=>rfl
     |true=>rw[(key hc).2]at ha;cases ha
    rw[this];rfl
   | true =>
    rw[cT,CZ x.above.length x.above x.below x.kind rfl p2 (first o) (by omega) hr (aT.1 ha) o.decls (by omega) _ _ 1000 0 (by omega) (by omega) (by omega)];simp only[Int.toNat_zero,List.drop_zero,Bool.true_and];cases o.decls.all (dL x.above.length x.kind (first o))<;>rfl
 ·cases h
open Classical
section
variable {R : Type}
theorem Bo (n N:Nat) (G:z0s.Gs) (ab be kinds:List Int) (hk:kinds.length=N) (names:List ByteArray) (subs:List Sb) (ops:List Opr) (hol:ops.length<=14) (ho:iC N kinds ops=true) (o:Opr) (hf:inN N (first o).result=true) (h0:0<=o.unit) (h1:o.unit<=ops.length) (k0:Bool->Option R):
  z0s.c10 G n ab be kinds names subs ops o.name o.decls o.assoc o.comm o.unit (first o).args (first o).result k0=k0 (bif decide (o.unit=0)then true else match ix ops (o.unit-1)with
   |some u=>decide ((first u).args.length=0)&&decide (aq kinds (first u).result=aq kinds (first o).result)
   |none=>false):=by
 unfold z0s.c10;by_cases hu:o.unit=0
 ·rw[dT hu];rfl
 ·rw[dF hu,cF,cF,ai    (x:=o.unit-1) (by omega)];obtain⟨u,u1,u2,_,_⟩:=au        (a:=ops) (i:=o.unit-1) (by omega) (by omega);obtain⟨d1,d2,d3,d4,d5,d6⟩:=cO           (aT.1 ho u u2);have d5':=bc.1      d5;have hf':=bc.1      hf;rw[u1,bS,bq       d1,bS];by_cases hz:(first u).args.length=0
  ·rw[dT (show ((first u).args.length:Int)=0 by omega),cT,az d5'.1 (by omega),bS,az hf'.1 (by omega),bS];simp[hz]
  ·rw[dF (show ¬((first u).args.length:Int)=0 by omega)];simp[hz]
theorem zf (n N:Nat) (G:z0s.Gs) (ab be kinds:List Int) (hk:kinds.length=N) (names:List ByteArray) (subs:List Sb) (ops:List Opr) (hol:ops.length<=14) (ho:iC N kinds ops=true) (o:Opr) (hd:cg N kinds o=true) (h0:0<=o.unit) (h1:o.unit<=ops.length) (k0:Bool->Option R):
  z0s.c5 G n ab be kinds names subs ops o.name o.decls o.assoc o.comm o.unit k0=k0 (decide ((first o).args.length=2)&&(decide (aq kinds (aq (first o).args 0)=aq kinds (aq (first o).args 1))&&
  ((bif o.assoc||decide (0<o.unit)then decide (aq kinds (aq (first o).args 0)=aq kinds (first o).result)else true)&&
  (bif decide (o.unit = 0) then true else match ix ops (o.unit - 1) with
   |some u=>decide ((first u).args.length=0)&&decide (aq kinds (first u).result=aq kinds (first o).result)
   |none=>false)))):=by
 obtain⟨d1,d2,d3,d4,d5,d6⟩:=cO hd;have d5':=bc.1 d5;unfold z0s.c5;rw[bq d1,bS];by_cases h2:(first o).args.length=2
 ·rw[dT h2,dT (show ((first o).args.length:Int)=2 by omega),Bool.not_true,cF,Bool.true_and];have a0:ix (first o).args 0=some (aq   (first o).args 0):=az      (by omega) (by omega);have a1:ix (first o).args 1=some (aq   (first o).args 1):=az      (by omega) (by omega);have m0:=bc.1      (d6 _ (cE       (l:=(first o).args) (i:=0) (by omega) (by omega)));have m1:=bc.1      (d6 _ (cE       (l:=(first o).args) (i:=1) (by omega) (by omega)));have k0':ix kinds (aq   (first o).args 0)=some (aq   kinds (aq   (first o).args 0)):=az      m0.1 (by omega);have k1':ix kinds (aq   (first o).args 1)=some (aq   kinds (aq   (first o).args 1)):=az      m1.1 (by omega);have kr:ix kinds (first o).result=some (aq   kinds (first o).result):=az      d5'.1 (by omega);simp only[a0,a1,k0',k1',kr,bS];rw[Bo      n N G ab be kinds hk names subs ops hol ho o d5 h0 h1];have e1:decide (0<o.unit)= !decide (o.unit=0):=by rw[<-decide_not];exact decide_eq_decide.2 (by omega)
  rw[e1];cases o.assoc<;>cases decide (aq kinds (aq (first o).args 0)=aq kinds (aq (first o).args 1))<;>cases decide (aq kinds (aq (first o).args 0)=aq kinds (first o).result)<;>cases decide (o.unit=0)<;>rfl
 ·rw[dF h2,dF (show ¬((first o).args.length:Int)=2 by omega)];rfl
end
noncomputable def gAI:Od->Sg->Opr->Option Bool:=λx s o=>if x.kind.length=x.above.length/\s.ops.length<=14/\iC x.above.length x.kind s.ops=true/\o∈s.ops then some (axF x.kind s.ops o)else none
theorem rW :EO (z0s.ent gAI):=z0s.ok (G:=⟨()⟩) trivial λx s o r h=>by
 unfold gAI at h;split at h
 ·rename_i hp;cases h;obtain⟨p1,p2,p3,p4⟩:=hp;have hd:=aT.1 p3 o p4;refine⟨1000,?_⟩;unfold z0s.main axF;by_cases h0:o.unit<0
  ·rw[dT h0,dF (show ¬o.unit=0 by omega),dF (show ¬0<=o.unit by omega)];simp
  by_cases h1:(s.ops.length:Int)<o.unit
  ·rw[dF h0,dT h1,dF (show ¬o.unit=0 by omega),dF (show ¬o.unit<=s.ops.length by omega)];simp
  rw[dF h0,dF h1,cF,cF,zf 1000 x.above.length ⟨()⟩ x.above x.below x.kind p1 s.sorts.names s.sorts.subs s.ops p2 p3 o hd (by omega) (by omega)];rw[dT (show 0<=o.unit by omega),dT (show o.unit<=s.ops.length by omega)];cases o.assoc<;>cases o.comm<;>cases decide (o.unit=0)<;>rfl
 ·cases h
abbrev mL (q:So->Option (Od×Bool)) (d:Od->Opr->Option Bool) (a:Od->Sg->Opr->Option Bool):z0b.Gs:={z12:=q,z09:=fS,z0x:=d,z0s:=a}
section
variable {R : Type} {q : So → Option (Od × Bool)}
theorem AH (n N:Nat) (hN:N<=8) (x:Od) (hx:x.above.length=N) (hk:x.kind.length=N) (names:List ByteArray) (subs:List Sb) (ops0 ops:List Opr) (hol:ops.length<=14) (k0:Bool->Option R) (k1:List ByteArray->List Sb->List Opr->List Int->List Int->List Int->Option R):∀m (i:Int) (kvs:List (ByteArray×Bool)),0<=i->i<=ops.length->nj kvs (nm (ops.take i.toNat))->(ops.length-i).toNat<m->
  z0b.l6 (mL q gDI gAI) n m ops (ops.length:Int) i names subs ops0 x.above x.below x.kind kvs k0 k1=bif md N x.kind (nm (ops.take i.toNat)) (ops.drop i.toNat)then k1 names subs ops0 x.above x.below x.kind else k0 false:=by
 intro m
 induction m with
 |zero=>intro i _ _ _ _ hm;omega
 | succ m ih =>
  intro i kvs q0 q1 qs hm;show z0b.b6 (mL q gDI gAI) n ops (ops.length:Int) i names subs ops0 x.above x.below x.kind kvs (λy0 y1 y2 y3 y4 y5 y6 y7 y8 y9=>z0b.l6 (mL q gDI gAI) n m y0 y1 y2 y3 y4 y5 y6 y7 y8 y9 k0 k1) k0 k1=_;unfold z0b.b6;by_cases hi:i<(ops.length:Int)
  ·obtain⟨o,x1,x2,x3,x4⟩:=au        q0 hi;have e:(i+1).toNat=i.toNat+1:=by omega
   have ht:nm (ops.take (i+1).toNat)=nm (ops.take i.toNat)++[o.name]:=by
    obtain⟨hlt,hx⟩:=gI.1 x4;rw[e,List.take_succ_eq_append_getElem hlt,hx];simp[nm]
   have eD:gDI (Od.mk x.above x.below x.kind) o=some (cg N x.kind o):=by
    unfold gDI;rw[if_pos ⟨by show x.above.length<=8;omega,by show x.kind.length=x.above.length;omega⟩];show some (cg x.above.length x.kind o)=_;rw[hx]
   rw[dT hi,cT];simp only[x1,bS,eD,ai (x:=i+1) (by omega)];rw[x3,md,ih (i+1) _ (by omega) (by omega) (by rw[ht];exact qS qs o.name) (by omega),ht,qs o.name];cases bn o.name<;>cases cg N x.kind o<;>cases ((nm (ops.take i.toNat)).any λy=>sEq y o.name)<;>rfl
  ·rw[dF hi,cF,aQ hi];rfl
theorem Di (n N:Nat) (x:Od) (hx:x.above.length=N) (hk:x.kind.length=N) (names:List ByteArray) (subs:List Sb) (ops:List Opr) (hol:ops.length<=14) (ho:iC N x.kind ops=true) (k0:Bool->Option R) (k1:Option R):∀m (i:Int),0<=i->i<=ops.length->(ops.length-i).toNat<m->
  z0b.l13 (mL q gDI gAI) n m ops (ops.length:Int) i names subs ops x.above x.below x.kind k0 k1=bif (ops.drop i.toNat).all (axF x.kind ops)then k1 else k0 false:=by
 intro m
 induction m with
 |zero=>intro i _ _ hm;omega
 | succ m ih =>
  intro i q0 q1 hm;show z0b.b13 (mL q gDI gAI) n ops (ops.length:Int) i names subs ops x.above x.below x.kind (λy0 y1 y2 y3 y4 y5 y6 y7 y8=>z0b.l13 (mL q gDI gAI) n m y0 y1 y2 y3 y4 y5 y6 y7 y8 k0 k1) k0 k1=_;unfold z0b.b13;by_cases hi:i<(ops.length:Int)
  ·obtain⟨o,x1,x2,x3,x4⟩:=au        q0 hi;have eA:gAI (Od.mk x.above x.below x.kind) (Sg.mk (So.mk names subs) ops) o=some (axF x.kind ops o):=by
    unfold gAI;rw[if_pos ⟨by show x.kind.length=x.above.length;omega,hol,by show iC x.above.length x.kind ops=true;rw[hx];exact ho,x2⟩]
   rw[dT hi,cT,x1,bS];dsimp only;rw[eA,bS,x3,List.all_cons,ai (x:=i+1) (by omega),ih (i+1) (by omega) (by omega) (by omega)];cases axF x.kind ops o<;>rfl
  ·rw[dF hi,cF,aQ hi];rfl
end
theorem z0c :EO (z0b.ent λs=>some (aM s)):=z0b.ok (G:=mL (λs=>some (gn s)) gDI gAI) ⟨lM,z0a,tu,rW,trivial⟩ λs r h=>⟨1000,by
 cases h;unfold z0b.main aM;rw[bS];cases hs:cC s.sorts with
 | false =>
  rw[show gn s.sorts=(⟨[],[],[]⟩,false)from if_neg (by rw[hs];simp)];rfl
 | true =>
  obtain⟨p1,p2,p3,p4,p5⟩:=et hs;rw[show gn s.sorts=(⟨upI s.sorts.names.length s.sorts.subs,jA (upI s.sorts.names.length s.sorts.subs),aD s.sorts.names.length s.sorts.subs⟩,true)from if_pos hs];simp only[Bool.not_true,cF];by_cases h14:14<(s.ops.length:Int)
  ·rw[dT h14,dF (show ¬s.ops.length<=14 by omega)];rfl
  ·rw[dF h14,dT (show s.ops.length<=14 by omega),cF];have hu:=dK      s.sorts.names.length s.sorts.subs;have hkl:=iY        s.sorts.names.length s.sorts.subs;have e6:=AH       (R:=AT×List Ob) (q:=λs=>some (gn     s)) 1000 s.sorts.names.length p2 ⟨upI s.sorts.names.length s.sorts.subs,jA     (upI s.sorts.names.length s.sorts.subs),aD    s.sorts.names.length s.sorts.subs⟩ hu hkl s.sorts.names s.sorts.subs s.ops s.ops (by omega);simp only at e6;rw[e6 _ _ 1000 0 [] (by omega) (by omega) rS       (by omega)];simp only[Int.toNat_zero,List.take_zero,List.drop_zero,nm,List.map_nil,Bool.true_and];cases ho:md   s.sorts.names.length (aD    s.sorts.names.length s.sorts.subs) [] s.ops with
   |false=>rfl
   | true =>
    have e13:=Di (R:=AT×List Ob) (q:=λs=>some (gn s)) 1000 s.sorts.names.length ⟨upI s.sorts.names.length s.sorts.subs,jA (upI s.sorts.names.length s.sorts.subs),aD s.sorts.names.length s.sorts.subs⟩ hu hkl s.sorts.names s.sorts.subs s.ops (by omega) (my ho);simp only at e13;rw[cT,e13 _ _ 1000 0 (by omega) (by omega) (by omega)];simp only[Int.toNat_zero,List.drop_zero,Bool.true_and];cases s.ops.all (axF (aD s.sorts.names.length s.sorts.subs) s.ops)<;>rfl⟩
end Go.Proofs.YtfdkldmkbibknaaGreat.Den

import Derived.Test.YtfdkldmkbibknaaGreatZRowTx12
namespace Go.Proofs.YtfdkldmkbibknaaGreat.Den
open Go.RowKit
set_option maxRecDepth 100000
set_option linter.unusedVariables false
namespace z38
structure Gs where
 none_:Unit
noncomputable def main {R:Type} (G:Gs) (n:Nat) (x lo hi:Int) (K:Bool->Option R):Option R:=
 bif decide (lo<=x)then
  (K (decide (x<=hi)))
 else
  K false
theorem ok {G:Gs} (hG:AE []) {g:Q} (hg:∀x lo hi r,g x lo hi=some r->∃n,main (R:=AT×List Ob) G n x lo hi (λr0=>some (.one (.b r0),[]))=some (.one (.b r),[])):EO (ent g):=λR xs H K r hc=>by
 simp only[ent]at hc;split at hc
 ·exact okL hc λr j=>let⟨_,j⟩:=hg _ _ _ _ j;fF hG ⟨15,0,[],[],[6],[],[]⟩ nP Tryz.func91 j
 ·cases hc
end z38
namespace z36
structure Gs where
 none_:Unit
noncomputable def ac (_:Gs):List Ent:=[]
noncomputable def b2 {R:Type} (G:Gs) (n:Nat) (list:LB) (s:ByteArray) (i:Int) (nx:LB->ByteArray->Int->Option R) (k0:Bool->Option R) (k1:Option R):Option R:=
 bif decide (i<(List.length list:Int))then
  (
  (ix list i).bind λe=>
  bif sEq e s then
   (k0 true)
  else
   nx list s (wr (i+1))
  )
 else
  k1
noncomputable def l2 {R:Type} (G:Gs) (n m:Nat) (list:LB) (s:ByteArray) (i:Int) (k0:Bool->Option R) (k1:Option R):Option R:=aB (λ(v:LB×ByteArray×Int) nx=>b2 G n v.1 v.2.1 v.2.2 (λy0 y1 y2=>nx (y0,y1,y2)) k0 k1) m (list,s,i)
noncomputable def main {R:Type} (G:Gs) (n:Nat) (list:LB) (s:ByteArray) (K:Bool->Option R):Option R:=
 l2 G n n list s 0
  (λt4=>K t4)
  (K false)
noncomputable def dl2 (G:Gs) (n m:Nat) (R:Type) (st:St) (K:Kt R):Option R:=match st with
 |⟨[(0,.one (.l .s list)),(1,.one (.s s)),(5,.one (.i i))],[]⟩=>l2 G n m list s i (λt4=>K .ret ⟨[(4,.one (.b t4))],[]⟩) (K (.exit 0) ⟨[],[]⟩)
 |_=>none
noncomputable def pc (G:Gs) (n:Nat):Pcs:=⟨λR id st K=>bif Nat.beq id 2 then dl2 G n n R st K else none,nK,nK⟩
noncomputable def an:Ann:=⟨18,0,[(2,[0,1,5])],[],[4],[],[]⟩
noncomputable abbrev bd:=aj Tryz.f90
noncomputable abbrev q2:=ak [1,0,1,0,0] bd
theorem pl2 {G:Gs} (hG:AE (ac G)) (n:Nat):∀m,PO an (.loop q2) (dl2 G n m):=lpc hG (pc G n) [0,1,5] ⟨[],[4],[(0,[])]⟩ (apl [] trivial) (λR st K=>by unfold dl2;split<;>rfl) λm R st K r h=>by unfold dl2 at h;split at h;exact .trans (by kernel_rfl) h;cases h
theorem ok {G:Gs} (hG:AE (ac G)) {g:Q} (hg:∀list s r,g list s=some r->∃n,main (R:=AT×List Ob) G n list s (λr0=>some (.one (.b r0),[]))=some (.one (.b r),[])):EO (ent g):=λR xs H K r hc=>by
 simp only[ent]at hc;split at hc
 ·exact okL hc λr j=>let⟨n,j⟩:=hg _ _ _ j;fF hG an (pc G n) Tryz.func90 j (apl [(1,2,.loop q2)] ⟨pl2 hG n n,trivial⟩)
 ·cases hc
end z36
namespace z3a
structure Gs where
 none_:Unit
noncomputable def main {R:Type} (G:Gs) (n:Nat) (a b:Int) (K:Int->Option R):Option R:=
 bif decide (a<b)then
  (K a)
 else
  K b
theorem ok {G:Gs} (hG:AE []) {g:Q} (hg:∀a b r,g a b=some r->∃n,main (R:=AT×List Ob) G n a b (λr0=>some (.one (.i r0),[]))=some (.one (.i r),[])):EO (ent g):=λR xs H K r hc=>by
 simp only[ent]at hc;split at hc
 ·exact okL hc λr j=>let⟨_,j⟩:=hg _ _ _ j;fF hG ⟨10,0,[],[],[4],[],[]⟩ nP Tryz.func132 j
 ·cases hc
end z3a
namespace z3e
structure Gs where
 none_:Unit
noncomputable def main {R:Type} (G:Gs) (n:Nat) (k:Int) (K:Int->Option R):Option R:=
 (bif decide (0<=(IntKind.wrap .u64 k))then some (Abs.am .shl .i64 1 (IntKind.wrap .u64 k))else none).bind λq=>
 K q
theorem ok {G:Gs} (hG:AE []) {g:Q} (hg:∀k r,g k=some r->∃n,main (R:=AT×List Ob) G n k (λr0=>some (.one (.i r0),[]))=some (.one (.i r),[])):EO (ent g):=λR xs H K r hc=>by
 simp only[ent]at hc;split at hc
 ·exact okL hc λr j=>let⟨_,j⟩:=hg _ _ j;fF hG ⟨6,0,[],[],[2],[],[]⟩ nP Tryz.func131 j
 ·cases hc
end z3e
namespace z3f
structure Gs where
 none_:Unit
noncomputable def main {R:Type} (G:Gs) (n:Nat) (set1 k:Int) (K:Bool->Option R):Option R:=
 bif decide (0<=k)then
  (
  bif decide (k<16)then
   (
   (bif decide (0<=(IntKind.wrap .u64 k))then some (Abs.am .shr .i64 set1 (IntKind.wrap .u64 k))else none).bind λq=>
   K (decide ((Abs.am .and .i64 q 1)=1))
   )
  else
   K false
  )
 else
  K false
theorem ok {G:Gs} (hG:AE []) {g:Q} (hg:∀set1 k r,g set1 k=some r->∃n,main (R:=AT×List Ob) G n set1 k (λr0=>some (.one (.b r0),[]))=some (.one (.b r),[])):EO (ent g):=λR xs H K r hc=>by
 simp only[ent]at hc;split at hc
 ·exact okL hc λr j=>let⟨_,j⟩:=hg _ _ _ j;fF hG ⟨19,0,[],[],[4],[],[]⟩ nP Tryz.func93 j
 ·cases hc
end z3f
namespace z2s
structure Gs where
 none_:Unit
noncomputable def ac (_:Gs):List Ent:=[]
noncomputable def b4 {R:Type} (G:Gs) (n:Nat) (s:ByteArray) (i:Int) (nx:ByteArray->Int->Option R) (k0:Bool->Option R) (k1:Option R):Option R:=
 bif decide (i < (ByteArray.size s : Int)) then
  (
  (sIx s i).bind λb=>
  bif decide (97 ≤ b) then
   (
   (sIx s i).bind λb2=>
   bif decide (b2<=122)then
    (nx s (wr (i+1)))
   else
    (sIx s i).bind λb3=>
    bif decide (65 ≤ b3) then
     (
     (sIx s i).bind λb4=>
     bif decide (b4<=90)then
      (nx s (wr (i+1)))
     else
      (sIx s i).bind λb5=>
      bif decide (48<=b5)then
       (
       (sIx s i).bind λb6=>
       bif !(decide (b6<=57))then
        (k0 false)
       else
        nx s (wr (i+1))
       )
      else
       k0 false
     )
    else
     (sIx s i).bind λb7=>
     bif decide (48<=b7)then
      (
      (sIx s i).bind λb8=>
      bif !(decide (b8<=57))then
       (k0 false)
      else
       nx s (wr (i+1))
      )
     else
      k0 false
   )
  else
   (sIx s i).bind λb9=>
   bif decide (65 ≤ b9) then
    (
    (sIx s i).bind λb10=>
    bif decide (b10<=90)then
     (nx s (wr (i+1)))
    else
     (sIx s i).bind λb11=>
     bif decide (48<=b11)then
      (
      (sIx s i).bind λb12=>
      bif !(decide (b12<=57))then
       (k0 false)
      else
       nx s (wr (i+1))
      )
     else
      k0 false
    )
   else
    (sIx s i).bind λb13=>
    bif decide (48<=b13)then
     (
     (sIx s i).bind λb14=>
     bif !(decide (b14<=57))then
      (k0 false)
     else
      nx s (wr (i+1))
     )
    else
     k0 false
  )
 else
  k1
noncomputable def l4 {R:Type} (G:Gs) (n m:Nat) (s:ByteArray) (i:Int) (k0:Bool->Option R) (k1:Option R):Option R:=aB (λ(v:ByteArray×Int) nx=>b4 G n v.1 v.2 (λy0 y1=>nx (y0,y1)) k0 k1) m (s,i)
noncomputable def c3 {R:Type} (G:Gs) (n:Nat) (s:ByteArray) (k0:Bool->Option R):Option R:=
 l4 G n n s 0
  (λt2=>k0 t2)
  (k0 true)
noncomputable def main {R:Type} (G:Gs) (n:Nat) (s:ByteArray) (K:Bool->Option R):Option R:=
 bif sEq s (ByteArray.mk #[105,102])then
  (K false)
 else
  bif sEq s (ByteArray.mk #[97,110,100])then
   (K false)
  else
   bif decide ((ByteArray.size s:Int)<1)then
    (K false)
   else
    bif decide (12<(ByteArray.size s:Int))then
     (K false)
    else
     (sIx s 0).bind λb=>
     bif decide (97 ≤ b) then
      (
      (sIx s 0).bind λb2=>
      bif decide (b2<=122)then
       (
       c3 G n s
        (λt2=>K t2)
       )
      else
       (sIx s 0).bind λb3=>
       bif decide (65<=b3)then
        (
        (sIx s 0).bind λb4=>
        bif !(decide (b4<=90))then
         (K false)
        else
         c3 G n s
          (λt22=>K t22)
        )
       else
        K false
      )
     else
      (sIx s 0).bind λb5=>
      bif decide (65<=b5)then
       (
       (sIx s 0).bind λb6=>
       bif !(decide (b6<=90))then
        (K false)
       else
        c3 G n s
         (λt23=>K t23)
       )
      else
       K false
noncomputable def dl4 (G:Gs) (n m:Nat) (R:Type) (st:St) (K:Kt R):Option R:=match st with
 |⟨[(0,.one (.s s)),(3,.one (.i i))],[]⟩=>l4 G n m s i (λt2=>K .ret ⟨[(2,.one (.b t2))],[]⟩) (K (.exit 0) ⟨[],[]⟩)
 |_=>none
noncomputable def dc3 (G:Gs) (n:Nat) (R:Type) (st:St) (K:Kt R):Option R:=match st with
 |⟨[(0,.one (.s s))],[]⟩=>c3 G n s (λt2=>K .ret ⟨[(2,.one (.b t2))],[]⟩)
 |_=>none
noncomputable def pc (G:Gs) (n:Nat):Pcs:=⟨λR id st K=>bif Nat.beq id 4 then dl4 G n n R st K else none,λR id st K=>bif Nat.beq id 3 then dc3 G n R st K else none,nK⟩
noncomputable def an:Ann:=⟨82,0,[(4,[0,3])],[(3,[0])],[2],[],[]⟩
noncomputable abbrev bd:=aj Tryz.f47
noncomputable abbrev q4:=ak [1,1,0,1,0,0] bd
noncomputable abbrev q3:=ak [1,1] bd
theorem pl4 {G:Gs} (hG:AE (ac G)) (n:Nat):∀m,PO an (.loop q4) (dl4 G n m):=lpc hG (pc G n) [0,3] ⟨[],[2],[(0,[])]⟩ (apl [] trivial) (λR st K=>by unfold dl4;split<;>rfl) λm R st K r h=>by unfold dl4 at h;split at h;exact .trans (by kernel_rfl) h;cases h
theorem pc3 {G:Gs} (hG:AE (ac G)) {n:Nat}:PO an q3 (dc3 G n):=cpc hG (pc G n) ⟨[],[2],[]⟩ (apl [(1,4,.loop q4)] ⟨pl4 hG n n,trivial⟩) λR st K r h=>by unfold dc3 at h;split at h;exact .trans (by kernel_rfl) h;cases h
theorem ok {G:Gs} (hG:AE (ac G)) {g:Q} (hg:∀s r,g s=some r->∃n,main (R:=AT×List Ob) G n s (λr0=>some (.one (.b r0),[]))=some (.one (.b r),[])):EO (ent g):=λR xs H K r hc=>by
 simp only[ent]at hc;split at hc
 ·exact okL hc λr j=>let⟨n,j⟩:=hg _ _ j;fF hG an (pc G n) Tryz.func47 j (apl [(0,3,q3)] ⟨pc3 hG,trivial⟩)
 ·cases hc
end z2s
namespace z3h
structure Gs where
 z3e:z3e.Q
noncomputable def ac (G:Gs):List Ent:=[z3e.ent G.z3e]
noncomputable def b3 {R:Type} (G:Gs) (n:Nat) (i:Int) (h0:LB) (h02:LS) (h1:LI) (nx:Int->LB->LS->LI->Option R) (k0:LB->LS->LI->Option R):Option R:=
 bif decide (i<(List.length h0:Int))then
  (
  (G.z3e i).bind λr=>
  (lim (h1++[r])).bind λzs=>
  nx (wr (i+1)) h0 h02 zs
  )
 else
  k0 h0 h02 h1
noncomputable def l3 {R:Type} (G:Gs) (n m:Nat) (i:Int) (h0:LB) (h02:LS) (h1:LI) (k0:LB->LS->LI->Option R):Option R:=aB (λ(v:Int×LB×LS×LI) nx=>b3 G n v.1 v.2.1 v.2.2.1 v.2.2.2 (λy0 y1 y2 y3=>nx (y0,y1,y2,y3)) k0) m (i,h0,h02,h1)
noncomputable def b10 {R:Type} (G:Gs) (n:Nat) (n1 k:Int) (h0:LB) (h02:LS) (h1:LI) (nx:Int->Int->LB->LS->LI->Option R) (k0:Int->LB->LS->LI->Option R):Option R:=
 bif decide (k<(List.length h02:Int))then
  (
  (ix h02 k).bind λe14=>
  (ix h02 k).bind λe16=>
  (ix h1 e16.low).bind λe18=>
  (ix h02 k).bind λe20=>
  (ix h1 e20.high).bind λe22=>
  (ix h1 e14.low).bind λe24=>
  nx n1 (wr (k+1)) h0 h02 (List.set h1 (Int.toNat e14.low) (Abs.am .or .i64 e18 e22))
  )
 else
  k0 n1 h0 h02 h1
noncomputable def l10 {R:Type} (G:Gs) (n m:Nat) (n1 k:Int) (h0:LB) (h02:LS) (h1:LI) (k0:Int->LB->LS->LI->Option R):Option R:=aB (λ(v:Int×Int×LB×LS×LI) nx=>b10 G n v.1 v.2.1 v.2.2.1 v.2.2.2.1 v.2.2.2.2 (λy0 y1 y2 y3 y4=>nx (y0,y1,y2,y3,y4)) k0) m (n1,k,h0,h02,h1)
noncomputable def b7 {R:Type} (G:Gs) (n:Nat) (n1:Int) (h0:LB) (h02:LS) (h1:LI) (nx:Int->LB->LS->LI->Option R) (k0:LI->Option R):Option R:=
 bif decide (n1<(List.length h0:Int))then
  (
  l10 G n n n1 0 h0 h02 h1
   (λn12 h03 h022 h12=>nx (wr (n12+1)) h03 h022 h12)
  )
 else
  k0 h1
noncomputable def l7 {R:Type} (G:Gs) (n m:Nat) (n1:Int) (h0:LB) (h02:LS) (h1:LI) (k0:LI->Option R):Option R:=aB (λ(v:Int×LB×LS×LI) nx=>b7 G n v.1 v.2.1 v.2.2.1 v.2.2.2 (λy0 y1 y2 y3=>nx (y0,y1,y2,y3)) k0) m (n1,h0,h02,h1)
noncomputable def main {R:Type} (G:Gs) (n:Nat) (s:So) (K:LI->Option R):Option R:=
 l3 G n n 0 s.names s.subs []
  (fun h0 h02 h1 =>
   l7 G n n 0 h0 h02 h1
    (λh03=>K h03)
  )
noncomputable def dl3 (G:Gs) (n m:Nat) (R:Type) (st:St) (K:Kt R):Option R:=match st with
 |⟨[(1,.one (.p 0 0)),(3,.one (.o 1)),(4,.one (.i i))],[.box [.l .s h0,.l (.n 5) h02],.row .i 0 h1]⟩=>l3 G n m i h0 h02 h1 (λh0 h02 h1=>K (.exit 0) ⟨[(1,.one (.p 0 0)),(3,.one (.o 1))],[.box [.l .s h0,.l (.n 5) h02],.row .i 0 h1]⟩)
 |_=>none
noncomputable def ei (G:Gs) (n m:Nat) (R:Type) (st:St) (K:Kt R):Option R:=match st with
 |⟨[(1,.one (.p 0 0)),(3,.one (.o 1)),(5,.one (.i n1)),(6,.one (.i k))],[.box [.l .s h0,.l (.n 5) h02],.row .i 0 h1]⟩=>l10 G n m n1 k h0 h02 h1 (λn1 h0 h02 h1=>K (.exit 4) ⟨[(1,.one (.p 0 0)),(3,.one (.o 1)),(5,.one (.i n1))],[.box [.l .s h0,.l (.n 5) h02],.row .i 0 h1]⟩)
 |_=>none
noncomputable def dl7 (G:Gs) (n m:Nat) (R:Type) (st:St) (K:Kt R):Option R:=match st with
 |⟨[(1,.one (.p 0 0)),(3,.one (.o 1)),(5,.one (.i n1))],[.box [.l .s h0,.l (.n 5) h02],.row .i 0 h1]⟩=>l7 G n m n1 h0 h02 h1 (λh0=>K (.exit 2) ⟨[(3,.one (.o 0))],[.row .i 0 h0]⟩)
 |_=>none
noncomputable def pc (G:Gs) (n:Nat):Pcs:=⟨λR id st K=>bif Nat.beq id 3 then dl3 G n n R st K else bif Nat.beq id 10 then ei G n n R st K else bif Nat.beq id 7 then dl7 G n n R st K else none,nK,nK⟩
noncomputable def an:Ann:=⟨62,0,[(3,[1,3,4]),(10,[1,3,5,6]),(7,[1,3,5])],[],[2],[(12,⟨[([0,1,2,3,4,5,6,7,8,9,10,11,12,13,14,15,16,17,18,19,20,21,22,23,24,25,26,27],[27],[14,15,23,24,26])],[27],[],[0],[]⟩)],[]⟩
noncomputable abbrev bd:=aj Tryz.f92
noncomputable abbrev q3:=ak [1,1,0,1,0,0] bd
noncomputable abbrev q10:=ak [1,1,1,0,1,0,0,1,0,0,1,0,0] bd
noncomputable abbrev q7:=ak [1,1,1,0,1,0,0] bd
theorem pl3 {G:Gs} (hG:AE (ac G)) (n:Nat):∀m,PO an (.loop q3) (dl3 G n m):=lpc hG (pc G n) [1,3,4] ⟨[1,3],[2],[(0,[1,3])]⟩ (apl [] trivial) (λR st K=>by unfold dl3;split<;>rfl) λm R st K r h=>by unfold dl3 at h;split at h;exact .trans (by kernel_rfl) h;cases h
theorem pT {G:Gs} (hG:AE (ac G)) (n:Nat):∀m,PO an (.loop q10) (ei G n m):=lpc hG (pc G n) [1,3,5,6] ⟨[1,3,5],[2],[(2,[3]),(3,[1,3,5]),(4,[1,3,5])]⟩ (apl [] trivial) (λR st K=>by unfold ei;split<;>rfl) λm R st K r h=>by unfold ei at h;split at h;exact .trans (by kernel_rfl) h;cases h
theorem pl7 {G:Gs} (hG:AE (ac G)) (n:Nat):∀m,PO an (.loop q7) (dl7 G n m):=lpc hG (pc G n) [1,3,5] ⟨[3],[2],[(2,[3])]⟩ (apl [(1,10,.loop q10)] ⟨pT hG n n,trivial⟩) (λR st K=>by unfold dl7;split<;>rfl) λm R st K r h=>by unfold dl7 at h;split at h;exact .trans (by kernel_rfl) h;cases h
theorem ok {G:Gs} (hG:AE (ac G)) {g:Q} (hg:∀s r,g s=some r->∃n,main (R:=AT×List Ob) G n s (λr0=>some (.one (.l .i r0),[]))=some (.one (.l .i r),[])):EO (ent g):=λR xs H K r hc=>by
 simp only[ent]at hc;split at hc
 ·exact okL hc λr j=>let⟨n,j⟩:=hg _ _ j;fF hG an (pc G n) Tryz.func92 j (apl [(1,3,.loop q3),(1,7,.loop q7)] ⟨pl3 hG n n,⟨pl7 hG n n,trivial⟩⟩)
 ·cases hc
end z3h
namespace z3g
structure Gs where
 z3a:z3a.Q
noncomputable def ac (G:Gs):List Ent:=[z3a.ent G.z3a]
noncomputable def b3 {R:Type} (G:Gs) (n:Nat) (i:Int) (h0:LB) (h02:LS) (h1:LI) (nx:Int->LB->LS->LI->Option R) (k0:LB->LS->LI->Option R):Option R:=
 bif decide (i<(List.length h0:Int))then
  (
  (lim (h1++[i])).bind λzs=>
  nx (wr (i+1)) h0 h02 zs
  )
 else
  k0 h0 h02 h1
noncomputable def l3 {R:Type} (G:Gs) (n m:Nat) (i:Int) (h0:LB) (h02:LS) (h1:LI) (k0:LB->LS->LI->Option R):Option R:=aB (λ(v:Int×LB×LS×LI) nx=>b3 G n v.1 v.2.1 v.2.2.1 v.2.2.2 (λy0 y1 y2 y3=>nx (y0,y1,y2,y3)) k0) m (i,h0,h02,h1)
noncomputable def b10 {R:Type} (G:Gs) (n:Nat) (n1 k:Int) (h0:LB) (h02:LS) (h1:LI) (nx:Int->Int->LB->LS->LI->Option R) (k0:Int->LB->LS->LI->Option R):Option R:=
 bif decide (k<(List.length h02:Int))then
  (
  (ix h02 k).bind λe2=>
  (ix h02 k).bind λe4=>
  (ix h1 e2.low).bind λe6=>
  (ix h1 e4.high).bind λe8=>
  (G.z3a e6 e8).bind λr2=>
  (ix h1 e2.low).bind λe9=>
  (ix (List.set h1 (Int.toNat e2.low) r2) e4.high).bind λe10=>
  nx n1 (wr (k+1)) h0 h02 (List.set (List.set h1 (Int.toNat e2.low) r2) (Int.toNat e4.high) r2)
  )
 else
  k0 n1 h0 h02 h1
noncomputable def l10 {R:Type} (G:Gs) (n m:Nat) (n1 k:Int) (h0:LB) (h02:LS) (h1:LI) (k0:Int->LB->LS->LI->Option R):Option R:=aB (λ(v:Int×Int×LB×LS×LI) nx=>b10 G n v.1 v.2.1 v.2.2.1 v.2.2.2.1 v.2.2.2.2 (λy0 y1 y2 y3 y4=>nx (y0,y1,y2,y3,y4)) k0) m (n1,k,h0,h02,h1)
noncomputable def b7 {R:Type} (G:Gs) (n:Nat) (n1:Int) (h0:LB) (h02:LS) (h1:LI) (nx:Int->LB->LS->LI->Option R) (k0:LI->Option R):Option R:=
 bif decide (n1<(List.length h1:Int))then
  (
  l10 G n n n1 0 h0 h02 h1
   (λn12 h03 h022 h12=>nx (wr (n12+1)) h03 h022 h12)
  )
 else
  k0 h1
noncomputable def l7 {R:Type} (G:Gs) (n m:Nat) (n1:Int) (h0:LB) (h02:LS) (h1:LI) (k0:LI->Option R):Option R:=aB (λ(v:Int×LB×LS×LI) nx=>b7 G n v.1 v.2.1 v.2.2.1 v.2.2.2 (λy0 y1 y2 y3=>nx (y0,y1,y2,y3)) k0) m (n1,h0,h02,h1)
noncomputable def main {R:Type} (G:Gs) (n:Nat) (s:So) (K:LI->Option R):Option R:=
 l3 G n n 0 s.names s.subs []
  (fun h0 h02 h1 =>
   l7 G n n 0 h0 h02 h1
    (λh03=>K h03)
  )
noncomputable def dl3 (G:Gs) (n m:Nat) (R:Type) (st:St) (K:Kt R):Option R:=match st with
 |⟨[(1,.one (.p 0 0)),(3,.one (.o 1)),(4,.one (.i i))],[.box [.l .s h0,.l (.n 5) h02],.row .i 0 h1]⟩=>l3 G n m i h0 h02 h1 (λh0 h02 h1=>K (.exit 0) ⟨[(1,.one (.p 0 0)),(3,.one (.o 1))],[.box [.l .s h0,.l (.n 5) h02],.row .i 0 h1]⟩)
 |_=>none
noncomputable def ei (G:Gs) (n m:Nat) (R:Type) (st:St) (K:Kt R):Option R:=match st with
 |⟨[(1,.one (.p 0 0)),(3,.one (.o 1)),(5,.one (.i n1)),(6,.one (.i k))],[.box [.l .s h0,.l (.n 5) h02],.row .i 0 h1]⟩=>l10 G n m n1 k h0 h02 h1 (λn1 h0 h02 h1=>K (.exit 4) ⟨[(1,.one (.p 0 0)),(3,.one (.o 1)),(5,.one (.i n1))],[.box [.l .s h0,.l (.n 5) h02],.row .i 0 h1]⟩)
 |_=>none
noncomputable def dl7 (G:Gs) (n m:Nat) (R:Type) (st:St) (K:Kt R):Option R:=match st with
 |⟨[(1,.one (.p 0 0)),(3,.one (.o 1)),(5,.one (.i n1))],[.box [.l .s h0,.l (.n 5) h02],.row .i 0 h1]⟩=>l7 G n m n1 h0 h02 h1 (λh0=>K (.exit 2) ⟨[(3,.one (.o 0))],[.row .i 0 h0]⟩)
 |_=>none
noncomputable def pc (G:Gs) (n:Nat):Pcs:=⟨λR id st K=>bif Nat.beq id 3 then dl3 G n n R st K else bif Nat.beq id 10 then ei G n n R st K else bif Nat.beq id 7 then dl7 G n n R st K else none,nK,nK⟩
noncomputable def an:Ann:=⟨65,0,[(3,[1,3,4]),(10,[1,3,5,6]),(7,[1,3,5])],[],[2],[(12,⟨[([0,1,2,3,4,5,6,7,8,9,10,11,12,13],[],[])],[],[],[0,1],[]⟩),(13,⟨[([0,1,2,3,4,5,6,7,8,9],[],[])],[],[],[0,1],[]⟩)],[]⟩
noncomputable abbrev bd:=aj Tryz.f94
noncomputable abbrev q3:=ak [1,1,0,1,0,0] bd
noncomputable abbrev q10:=ak [1,1,1,0,1,0,0,1,0,0,1,0,0] bd
noncomputable abbrev q7:=ak [1,1,1,0,1,0,0] bd
theorem pl3 {G:Gs} (hG:AE (ac G)) (n:Nat):∀m,PO an (.loop q3) (dl3 G n m):=lpc hG (pc G n) [1,3,4] ⟨[1,3],[2],[(0,[1,3])]⟩ (apl [] trivial) (λR st K=>by unfold dl3;split<;>rfl) λm R st K r h=>by unfold dl3 at h;split at h;exact .trans (by kernel_rfl) h;cases h
theorem pT {G:Gs} (hG:AE (ac G)) (n:Nat):∀m,PO an (.loop q10) (ei G n m):=lpc hG (pc G n) [1,3,5,6] ⟨[1,3,5],[2],[(2,[3]),(3,[1,3,5]),(4,[1,3,5])]⟩ (apl [] trivial) (λR st K=>by unfold ei;split<;>rfl) λm R st K r h=>by unfold ei at h;split at h;exact .trans (by kernel_rfl) h;cases h
theorem pl7 {G:Gs} (hG:AE (ac G)) (n:Nat):∀m,PO an (.loop q7) (dl7 G n m):=lpc hG (pc G n) [1,3,5] ⟨[3],[2],[(2,[3])]⟩ (apl [(1,10,.loop q10)] ⟨pT hG n n,trivial⟩) (λR st K=>by unfold dl7;split<;>rfl) λm R st K r h=>by unfold dl7 at h;split at h;exact .trans (by kernel_rfl) h;cases h
theorem ok {G:Gs} (hG:AE (ac G)) {g:Q} (hg:∀s r,g s=some r->∃n,main (R:=AT×List Ob) G n s (λr0=>some (.one (.l .i r0),[]))=some (.one (.l .i r),[])):EO (ent g):=λR xs H K r hc=>by
 simp only[ent]at hc;split at hc
 ·exact okL hc λr j=>let⟨n,j⟩:=hg _ _ j;fF hG an (pc G n) Tryz.func94 j (apl [(1,3,.loop q3),(1,7,.loop q7)] ⟨pl3 hG n n,⟨pl7 hG n n,trivial⟩⟩)
 ·cases hc
end z3g
namespace z2w
structure Gs where
 z2s:z2s.Q
 z36:z36.Q
 z38:z38.Q
 z3h:z3h.Q
 z3f:z3f.Q
noncomputable def ac (G:Gs):List Ent:=[z2s.ent G.z2s,z36.ent G.z36,z38.ent G.z38,z3h.ent G.z3h,z3f.ent G.z3f]
noncomputable def b4 {R:Type} (G:Gs) (n:Nat) (i:Int) (h0:LB) (h02:LS) (nx:Int->LB->LS->Option R) (k0:Bool->Option R) (k1:LB->LS->Option R):Option R:=
 bif decide (i<(List.length h0:Int))then
  (
  (ix h0 i).bind λe2=>
  (G.z2s e2).bind λr2=>
  bif !r2 then
   (k0 false)
  else
   (sub h0 0 i).bind λys2=>
   (ix h0 i).bind λe4=>
   (G.z36 ys2 e4).bind λr4=>
   bif r4 then
    (k0 false)
   else
    nx (wr (i+1)) h0 h02
  )
 else
  k1 h0 h02
noncomputable def l4 {R:Type} (G:Gs) (n m:Nat) (i:Int) (h0:LB) (h02:LS) (k0:Bool->Option R) (k1:LB->LS->Option R):Option R:=aB (λ(v:Int×LB×LS) nx=>b4 G n v.1 v.2.1 v.2.2 (λy0 y1 y2=>nx (y0,y1,y2)) k0 k1) m (i,h0,h02)
noncomputable def b9 {R:Type} (G:Gs) (n:Nat) (k:Int) (h0:LB) (h02:LS) (nx:Int->LB->LS->Option R) (k0:Bool->Option R) (k1:LB->LS->Option R):Option R:=
 bif decide (k < (List.length h02 : Int)) then
  (
  (ix h02 k).bind λe2=>
  (G.z38 e2.low 0 (wr ((List.length h0:Int)-1))).bind λr2=>
  bif !r2 then
   (k0 false)
  else
   (ix h02 k).bind λe4=>
   (G.z38 e4.high 0 (wr ((List.length h0:Int)-1))).bind λr4=>
   bif !r4 then
    (k0 false)
   else
    (ix h02 k).bind λe6=>
    (ix h02 k).bind λe8=>
    bif decide (e6.low=e8.high)then
     (k0 false)
    else
     nx (wr (k+1)) h0 h02
  )
 else
  k1 h0 h02
noncomputable def l9 {R:Type} (G:Gs) (n m:Nat) (k:Int) (h0:LB) (h02:LS) (k0:Bool->Option R) (k1:LB->LS->Option R):Option R:=aB (λ(v:Int×LB×LS) nx=>b9 G n v.1 v.2.1 v.2.2 (λy0 y1 y2=>nx (y0,y1,y2)) k0 k1) m (k,h0,h02)
noncomputable def b18 {R:Type} (G:Gs) (n:Nat) (up1:LI) (i k:Int) (nx:LI->Int->Int->Option R) (k0:Bool->Option R) (k1:LI->Int->Option R):Option R:=
 bif decide (k<i)then
  (
  (ix up1 i).bind λe=>
  (G.z3f e k).bind λr=>
  bif r then
   (
   (ix up1 k).bind λe2=>
   (G.z3f e2 i).bind λr2=>
   bif r2 then
    (k0 false)
   else
    nx up1 i (wr (k+1))
   )
  else
   nx up1 i (wr (k+1))
  )
 else
  k1 up1 i
noncomputable def l18 {R:Type} (G:Gs) (n m:Nat) (up1:LI) (i k:Int) (k0:Bool->Option R) (k1:LI->Int->Option R):Option R:=aB (λ(v:LI×Int×Int) nx=>b18 G n v.1 v.2.1 v.2.2 (λy0 y1 y2=>nx (y0,y1,y2)) k0 k1) m (up1,i,k)
noncomputable def b15 {R:Type} (G:Gs) (n:Nat) (up1:LI) (i:Int) (nx:LI->Int->Option R) (k0:Bool->Option R) (k1:Option R):Option R:=
 bif decide (i<(List.length up1:Int))then
  (
  l18 G n n up1 i 0
   (λt2=>k0 t2)
   (λup12 i2=>nx up12 (wr (i2+1)))
  )
 else
  k1
noncomputable def l15 {R:Type} (G:Gs) (n m:Nat) (up1:LI) (i:Int) (k0:Bool->Option R) (k1:Option R):Option R:=aB (λ(v:LI×Int) nx=>b15 G n v.1 v.2 (λy0 y1=>nx (y0,y1)) k0 k1) m (up1,i)
noncomputable def main {R:Type} (G:Gs) (n:Nat) (s:So) (K:Bool->Option R):Option R:=
 bif decide ((List.length s.names:Int)<1)then
  (K false)
 else
  bif decide (8<(List.length s.names:Int))then
   (K false)
  else
   bif decide (16<(List.length s.subs:Int))then
    (K false)
   else
    l4 G n n 0 s.names s.subs
     (λt2=>K t2)
     (fun h0 h02 =>
      l9 G n n 0 h0 h02
       (λt22=>K t22)
       (fun h03 h022 =>
        (G.z3h (So.mk h03 h022)).bind λr=>
        l15 G n n r 0
         (λt23=>K t23)
         (K true)
       )
     )
noncomputable def dl4 (G:Gs) (n m:Nat) (R:Type) (st:St) (K:Kt R):Option R:=match st with
 |⟨[(1,.one (.p 0 0)),(3,.one (.i i))],[.box [.l .s h0,.l (.n 5) h02]]⟩=>l4 G n m i h0 h02 (λt2=>K .ret ⟨[(2,.one (.b t2))],[]⟩) (λh0 h02=>K (.exit 0) ⟨[(1,.one (.p 0 0))],[.box [.l .s h0,.l (.n 5) h02]]⟩)
 |_=>none
noncomputable def dl9 (G:Gs) (n m:Nat) (R:Type) (st:St) (K:Kt R):Option R:=match st with
 |⟨[(1,.one (.p 0 0)),(4,.one (.i k))],[.box [.l .s h0,.l (.n 5) h02]]⟩=>l9 G n m k h0 h02 (λt2=>K .ret ⟨[(2,.one (.b t2))],[]⟩) (λh0 h02=>K (.exit 2) ⟨[(1,.one (.p 0 0))],[.box [.l .s h0,.l (.n 5) h02]]⟩)
 |_=>none
noncomputable def kv (G:Gs) (n m:Nat) (R:Type) (st:St) (K:Kt R):Option R:=match st with
 |⟨[(5,.one (.l .i up1)),(6,.one (.i i)),(7,.one (.i k))],[]⟩=>l18 G n m up1 i k (λt2=>K .ret ⟨[(2,.one (.b t2))],[]⟩) (λup1 i=>K (.exit 6) ⟨[(5,.one (.l .i up1)),(6,.one (.i i))],[]⟩)
 |_=>none
noncomputable def qG (G:Gs) (n m:Nat) (R:Type) (st:St) (K:Kt R):Option R:=match st with
 |⟨[(5,.one (.l .i up1)),(6,.one (.i i))],[]⟩=>l15 G n m up1 i (λt2=>K .ret ⟨[(2,.one (.b t2))],[]⟩) (K (.exit 4) ⟨[],[]⟩)
 |_=>none
noncomputable def pc (G:Gs) (n:Nat):Pcs:=⟨λR id st K=>bif Nat.beq id 4 then dl4 G n n R st K else bif Nat.beq id 9 then dl9 G n n R st K else bif Nat.beq id 18 then kv G n n R st K else bif Nat.beq id 15 then qG G n n R st K else none,nK,nK⟩
noncomputable def an:Ann:=⟨125,0,[(4,[1,3]),(9,[1,4]),(18,[5,6,7]),(15,[5,6])],[],[2],[(6,⟨[([0,1,2,3,4,5,6,7,8,9,10,11,12,13,14,15,16,17,18],[],[])],[],[],[0],[]⟩),(11,⟨[([0,1,2,3,4,5,6,7,8,9,10,11,12,13,14,15,16,17,18,19,20,21,22,23,24,25,26,27,28,29,30,31,32,33,34,35,36,37,38,39,40],[],[])],[],[],[0],[]⟩)],[]⟩
noncomputable abbrev bd:=aj Tryz.f46
noncomputable abbrev q4:=ak [1,1,0,1,0,0] bd
noncomputable abbrev q9:=ak [1,1,1,0,1,0,0] bd
noncomputable abbrev q18:=ak [1,1,1,1,1,0,1,0,0,1,0,0,1,0,0] bd
noncomputable abbrev q15:=ak [1,1,1,1,1,0,1,0,0] bd
theorem pl4 {G:Gs} (hG:AE (ac G)) (n:Nat):∀m,PO an (.loop q4) (dl4 G n m):=lpc hG (pc G n) [1,3] ⟨[1],[2],[(0,[1])]⟩ (apl [] trivial) (λR st K=>by unfold dl4;split<;>rfl) λm R st K r h=>by unfold dl4 at h;split at h;exact .trans (by kernel_rfl) h;cases h
theorem pl9 {G:Gs} (hG:AE (ac G)) (n:Nat):∀m,PO an (.loop q9) (dl9 G n m):=lpc hG (pc G n) [1,4] ⟨[1],[2],[(2,[1])]⟩ (apl [] trivial) (λR st K=>by unfold dl9;split<;>rfl) λm R st K r h=>by unfold dl9 at h;split at h;exact .trans (by kernel_rfl) h;cases h
theorem AP {G:Gs} (hG:AE (ac G)) (n:Nat):∀m,PO an (.loop q18) (kv G n m):=lpc hG (pc G n) [5,6,7] ⟨[5,6],[2],[(4,[]),(5,[5,6]),(6,[5,6])]⟩ (apl [] trivial) (λR st K=>by unfold kv;split<;>rfl) λm R st K r h=>by unfold kv at h;split at h;exact .trans (by kernel_rfl) h;cases h
theorem EQ {G:Gs} (hG:AE (ac G)) (n:Nat):∀m,PO an (.loop q15) (qG G n m):=lpc hG (pc G n) [5,6] ⟨[],[2],[(4,[])]⟩ (apl [(1,18,.loop q18)] ⟨AP hG n n,trivial⟩) (λR st K=>by unfold qG;split<;>rfl) λm R st K r h=>by unfold qG at h;split at h;exact .trans (by kernel_rfl) h;cases h
theorem ok {G:Gs} (hG:AE (ac G)) {g:Q} (hg:∀s r,g s=some r->∃n,main (R:=AT×List Ob) G n s (λr0=>some (.one (.b r0),[]))=some (.one (.b r),[])):EO (ent g):=λR xs H K r hc=>by
 simp only[ent]at hc;split at hc
 ·exact okL hc λr j=>let⟨n,j⟩:=hg _ _ j;fF hG an (pc G n) Tryz.func46 j (apl [(1,4,.loop q4),(1,9,.loop q9),(1,15,.loop q15)] ⟨pl4 hG n n,⟨pl9 hG n n,⟨EQ hG n n,trivial⟩⟩⟩)
 ·cases hc
end z2w
namespace z3i
structure Gs where
 none_:Unit
noncomputable def main {R:Type} (G:Gs) (n:Nat) (op:Opr) (K:Int->Option R):Option R:=
 (ix op.decls 0).bind λe=>
 K (List.length e.args:Int)
theorem ok {G:Gs} (hG:AE []) {g:Q} (hg:∀op r,g op=some r->∃n,main (R:=AT×List Ob) G n op (λr0=>some (.one (.i r0),[]))=some (.one (.i r),[])):EO (ent g):=λR xs H K r hc=>by
 simp only[ent]at hc;split at hc
 ·exact okL hc λr j=>let⟨_,j⟩:=hg _ _ j;fF hG ⟨9,0,[],[],[2],[],[]⟩ nP Tryz.func95 j
 ·cases hc
end z3i
namespace z3m
structure Gs where
 z3g:z3g.Q
 z38:z38.Q
noncomputable def ac (G:Gs):List Ent:=[z3g.ent G.z3g,z38.ent G.z38]
noncomputable def b12 {R:Type} (G:Gs) (n:Nat) (kinds:LI) (i k:Int) (h0:ByteArray) (h02:LD) (h03 h04:Bool) (h05:Int) (h1:LI) (h12:Int) (h2:LI) (h22:Int) (nx:LI->Int->Int->ByteArray->LD->Bool->Bool->Int->LI->Int->LI->Int->Option R) (k0:Bool->Option R) (k1:LI->Int->ByteArray->LD->Bool->Bool->Int->LI->Int->LI->Int->Option R):Option R:=
 bif decide (k<(List.length h2:Int))then
  (
  (ix h2 k).bind λe2=>
  (G.z38 e2 0 (wr ((List.length kinds:Int)-1))).bind λr2=>
  bif !r2 then
   (k0 false)
  else
   (ix h2 k).bind λe4=>
   (ix kinds e4).bind λe6=>
   (ix h1 k).bind λe8=>
   (ix kinds e8).bind λe10=>
   bif !decide (e6=e10)then
    (k0 false)
   else
    nx kinds i (wr (k+1)) h0 h02 h03 h04 h05 h1 h12 h2 h22
  )
 else
  k1 kinds i h0 h02 h03 h04 h05 h1 h12 h2 h22
noncomputable def l12 {R:Type} (G:Gs) (n m:Nat) (kinds:LI) (i k:Int) (h0:ByteArray) (h02:LD) (h03 h04:Bool) (h05:Int) (h1:LI) (h12:Int) (h2:LI) (h22:Int) (k0:Bool->Option R) (k1:LI->Int->ByteArray->LD->Bool->Bool->Int->LI->Int->LI->Int->Option R):Option R:=aB (λ(v:LI×Int×Int×ByteArray×LD×Bool×Bool×Int×LI×Int×LI×Int) nx=>b12 G n v.1 v.2.1 v.2.2.1 v.2.2.2.1 v.2.2.2.2.1 v.2.2.2.2.2.1 v.2.2.2.2.2.2.1 v.2.2.2.2.2.2.2.1 v.2.2.2.2.2.2.2.2.1 v.2.2.2.2.2.2.2.2.2.1 v.2.2.2.2.2.2.2.2.2.2.1 v.2.2.2.2.2.2.2.2.2.2.2 (λy0 y1 y2 y3 y4 y5 y6 y7 y8 y9 y10 y11=>nx (y0,y1,y2,y3,y4,y5,y6,y7,y8,y9,y10,y11)) k0 k1) m (kinds,i,k,h0,h02,h03,h04,h05,h1,h12,h2,h22)
noncomputable def b6 {R:Type} (G:Gs) (n:Nat) (kinds:LI) (i:Int) (h0:ByteArray) (h02:LD) (h03 h04:Bool) (h05:Int) (h1:LI) (h12:Int) (nx:LI->Int->ByteArray->LD->Bool->Bool->Int->LI->Int->Option R) (k0:Bool->Option R) (k1:Option R):Option R:=
 bif decide (i < (List.length h02 : Int)) then
  (
  (ix h02 i).bind λe=>
  bif !decide ((List.length e.args:Int)=(List.length h1:Int))then
   (k0 false)
  else
   (G.z38 e.result 0 (wr ((List.length kinds:Int)-1))).bind λr=>
   bif !r then
    (k0 false)
   else
    l12 G n n kinds i 0 h0 h02 h03 h04 h05 h1 h12 e.args e.result
     (λt4=>k0 t4)
     (fun kinds2 i2 h06 h022 h032 h042 h052 h13 h122 h2 h22 =>
      (ix kinds2 h22).bind λe3=>
      (ix kinds2 h122).bind λe5=>
      bif !decide (e3=e5)then
       (k0 false)
      else
       nx kinds2 (wr (i2+1)) h06 h022 h032 h042 h052 h13 h122
     )
  )
 else
  k1
noncomputable def l6 {R:Type} (G:Gs) (n m:Nat) (kinds:LI) (i:Int) (h0:ByteArray) (h02:LD) (h03 h04:Bool) (h05:Int) (h1:LI) (h12:Int) (k0:Bool->Option R) (k1:Option R):Option R:=aB (λ(v:LI×Int×ByteArray×LD×Bool×Bool×Int×LI×Int) nx=>b6 G n v.1 v.2.1 v.2.2.1 v.2.2.2.1 v.2.2.2.2.1 v.2.2.2.2.2.1 v.2.2.2.2.2.2.1 v.2.2.2.2.2.2.2.1 v.2.2.2.2.2.2.2.2 (λy0 y1 y2 y3 y4 y5 y6 y7 y8=>nx (y0,y1,y2,y3,y4,y5,y6,y7,y8)) k0 k1) m (kinds,i,h0,h02,h03,h04,h05,h1,h12)
noncomputable def main {R:Type} (G:Gs) (n:Nat) (s:Sg) (op:Opr) (K:Bool->Option R):Option R:=
 bif decide ((List.length op.decls:Int)<1)then
  (K false)
 else
  bif decide (4<(List.length op.decls:Int))then
   (K false)
  else
   (ix op.decls 0).bind λe=>
   bif decide (3<(List.length e.args:Int))then
    (K false)
   else
    (G.z3g s.sorts).bind λr=>
    (ix op.decls 0).bind λe2=>
    l6 G n n r 0 op.name op.decls op.assoc op.comm op.unit e2.args e2.result
     (λt4=>K t4)
     (K true)
noncomputable def C7 (G:Gs) (n m:Nat) (R:Type) (st:St) (K:Kt R):Option R:=match st with
 |⟨[(3,.one (.p 0 0)),(5,.one (.l .i kinds)),(6,.one (.p 1 0)),(7,.one (.i i)),(8,.one (.p 2 0)),(9,.one (.i k))],[.box [.s h0,.l (.n 7) h02,.b h03,.b h04,.i h05],.box [.l .i h1,.i h12],.box [.l .i h2,.i h22]]⟩=>l12 G n m kinds i k h0 h02 h03 h04 h05 h1 h12 h2 h22 (λt4=>K .ret ⟨[(4,.one (.b t4))],[]⟩) (λkinds i h0 h02 h03 h04 h05 h1 h12 h2 h22=>K (.exit 2) ⟨[(3,.one (.p 0 0)),(5,.one (.l .i kinds)),(6,.one (.p 1 0)),(7,.one (.i i)),(8,.one (.p 2 0))],[.box [.s h0,.l (.n 7) h02,.b h03,.b h04,.i h05],.box [.l .i h1,.i h12],.box [.l .i h2,.i h22]]⟩)
 |_=>none
noncomputable def dl6 (G:Gs) (n m:Nat) (R:Type) (st:St) (K:Kt R):Option R:=match st with
 |⟨[(3,.one (.p 0 0)),(5,.one (.l .i kinds)),(6,.one (.p 1 0)),(7,.one (.i i))],[.box [.s h0,.l (.n 7) h02,.b h03,.b h04,.i h05],.box [.l .i h1,.i h12]]⟩=>l6 G n m kinds i h0 h02 h03 h04 h05 h1 h12 (λt4=>K .ret ⟨[(4,.one (.b t4))],[]⟩) (K (.exit 0) ⟨[],[]⟩)
 |_=>none
noncomputable def pc (G:Gs) (n:Nat):Pcs:=⟨λR id st K=>bif Nat.beq id 12 then C7 G n n R st K else bif Nat.beq id 6 then dl6 G n n R st K else none,nK,nK⟩
noncomputable def an:Ann:=⟨111,0,[(12,[3,5,6,7,8,9]),(6,[3,5,6,7])],[],[4],[(14,⟨[([0,1,2,3,4,5,6,7,8,9,10,11,12,13,14,15,16,17,18,19,20,21,22,23,24,25,26,27,28],[],[])],[],[],[0,1,2],[]⟩),(16,⟨[([0,1,2,3,4,5,6,7,8,9,10],[],[])],[],[],[0,1,2],[]⟩)],[]⟩
noncomputable abbrev bd:=aj Tryz.f48
noncomputable abbrev q12:=ak [1,1,1,1,0,1,0,0,1,0,0,1,1,0,1,0,0] bd
noncomputable abbrev q6:=ak [1,1,1,1,0,1,0,0] bd
theorem pl12 {G:Gs} (hG:AE (ac G)) (n:Nat):∀m,PO an (.loop q12) (C7 G n m):=lpc hG (pc G n) [3,5,6,7,8,9] ⟨[3,5,6,7,8],[4],[(0,[]),(1,[3,5,6,7]),(2,[3,5,6,7,8])]⟩ (apl [] trivial) (λR st K=>by unfold C7;split<;>rfl) λm R st K r h=>by unfold C7 at h;split at h;exact .trans (by kernel_rfl) h;cases h
theorem pl6 {G:Gs} (hG:AE (ac G)) (n:Nat):∀m,PO an (.loop q6) (dl6 G n m):=lpc hG (pc G n) [3,5,6,7] ⟨[],[4],[(0,[])]⟩ (apl [(1,12,.loop q12)] ⟨pl12 hG n n,trivial⟩) (λR st K=>by unfold dl6;split<;>rfl) λm R st K r h=>by unfold dl6 at h;split at h;exact .trans (by kernel_rfl) h;cases h
theorem ok {G:Gs} (hG:AE (ac G)) {g:Q} (hg:∀s op r,g s op=some r->∃n,main (R:=AT×List Ob) G n s op (λr0=>some (.one (.b r0),[]))=some (.one (.b r),[])):EO (ent g):=λR xs H K r hc=>by
 simp only[ent]at hc;split at hc
 ·exact okL hc λr j=>let⟨n,j⟩:=hg _ _ _ j;fF hG an (pc G n) Tryz.func48 j (apl [(1,6,.loop q6)] ⟨pl6 hG n n,trivial⟩)
 ·cases hc
end z3m
namespace z3j
structure Gs where
 z3i:z3i.Q
 z38:z38.Q
 z3g:z3g.Q
noncomputable def ac (G:Gs):List Ent:=[z3i.ent G.z3i,z38.ent G.z38,z3g.ent G.z3g]
noncomputable def c11 {R:Type} (G:Gs) (n:Nat) (kinds:LI) (r:Int) (h0:LB) (h02:LS) (h03:LO) (h1:ByteArray) (h12:LD) (h13 h14:Bool) (h15:Int) (k0:Bool->Option R):Option R:=
 bif decide (h15=0)then
  (k0 true)
 else
  (ix h03 (wr (h15-1))).bind λe=>
  (G.z3i e).bind λr2=>
  bif decide (r2=0)then
   (
   (ix e.decls 0).bind λe2=>
   (ix kinds e2.result).bind λe3=>
   k0 (decide (e3=r))
   )
  else
   k0 false
noncomputable def c4 {R:Type} (G:Gs) (n:Nat) (h0:LB) (h02:LS) (h03:LO) (h1:ByteArray) (h12:LD) (h13 h14:Bool) (h15:Int) (k0:Bool->Option R):Option R:=
 (G.z3i (Opr.mk h1 h12 h13 h14 h15)).bind λr=>
 bif !decide (r=2)then
  (k0 false)
 else
  (G.z38 h15 0 (List.length h03:Int)).bind λr2=>
  bif !r2 then
   (k0 false)
  else
   (G.z3g (So.mk h0 h02)).bind λr3=>
   (ix h12 0).bind λe=>
   (ix e.args 0).bind λe3=>
   (ix r3 e3).bind λe5=>
   (ix e.args 1).bind λe7=>
   (ix r3 e7).bind λe9=>
   (ix r3 e.result).bind λe11=>
   bif !decide (e5=e9)then
    (k0 false)
   else
    bif h13 then
     (
     bif !decide (e5=e11)then
      (k0 false)
     else
      c11 G n r3 e11 h0 h02 h03 h1 h12 h13 h14 h15
       (λt4=>k0 t4)
     )
    else
     bif decide (0<h15)then
      (
      bif !decide (e5=e11)then
       (k0 false)
      else
       c11 G n r3 e11 h0 h02 h03 h1 h12 h13 h14 h15
        (λt42=>k0 t42)
      )
     else
      c11 G n r3 e11 h0 h02 h03 h1 h12 h13 h14 h15
       (λt43=>k0 t43)
noncomputable def main {R:Type} (G:Gs) (n:Nat) (s:Sg) (i:Int) (K:Bool->Option R):Option R:=
 (ix s.ops i).bind λe=>
 bif !e.assoc then
  (
  bif !e.comm then
   (
   bif decide (e.unit=0)then
    (K true)
   else
    c4 G n s.sorts.names s.sorts.subs s.ops e.name e.decls e.assoc e.comm e.unit
     (λt4=>K t4)
   )
  else
   c4 G n s.sorts.names s.sorts.subs s.ops e.name e.decls e.assoc e.comm e.unit
    (λt42=>K t42)
  )
 else
  c4 G n s.sorts.names s.sorts.subs s.ops e.name e.decls e.assoc e.comm e.unit
   (λt43=>K t43)
noncomputable def tm (G:Gs) (n:Nat) (R:Type) (st:St) (K:Kt R):Option R:=match st with
 |⟨[(2,.one (.p 0 0)),(5,.one (.p 1 0)),(6,.one (.l .i kinds)),(10,.one (.i r))],[.box [.l .s h0,.l (.n 5) h02,.l (.n 8) h03],.box [.s h1,.l (.n 7) h12,.b h13,.b h14,.i h15]]⟩=>c11 G n kinds r h0 h02 h03 h1 h12 h13 h14 h15 (λt4=>K .ret ⟨[(4,.one (.b t4))],[]⟩)
 |_=>none
noncomputable def dc4 (G:Gs) (n:Nat) (R:Type) (st:St) (K:Kt R):Option R:=match st with
 |⟨[(2,.one (.p 0 0)),(5,.one (.p 1 0))],[.box [.l .s h0,.l (.n 5) h02,.l (.n 8) h03],.box [.s h1,.l (.n 7) h12,.b h13,.b h14,.i h15]]⟩=>c4 G n h0 h02 h03 h1 h12 h13 h14 h15 (λt4=>K .ret ⟨[(4,.one (.b t4))],[]⟩)
 |_=>none
noncomputable def pc (G:Gs) (n:Nat):Pcs:=⟨nK,λR id st K=>bif Nat.beq id 11 then tm G n R st K else bif Nat.beq id 4 then dc4 G n R st K else none,nK⟩
noncomputable def an:Ann:=⟨110,0,[],[(11,[2,5,6,10]),(4,[2,5])],[4],[(8,⟨[([0,1,2,3,4,5,6,7,8,9,10,11,12,13,14,15,16,17,18,19,20,21],[],[])],[],[],[0,1,2],[]⟩)],[]⟩
noncomputable abbrev bd:=aj Tryz.f49
noncomputable abbrev q11:=ak [1,1,1,1,1,1,1,1] bd
noncomputable abbrev q4:=ak [1,1,1] bd
theorem Fb {G:Gs} (hG:AE (ac G)) {n:Nat}:PO an q11 (tm G n):=cpc hG (pc G n) ⟨[],[4],[]⟩ (apl [] trivial) λR st K r h=>by unfold tm at h;split at h;exact .trans (by kernel_rfl) h;cases h
theorem pc4 {G:Gs} (hG:AE (ac G)) {n:Nat}:PO an q4 (dc4 G n):=cpc hG (pc G n) ⟨[],[4],[]⟩ (apl [(0,11,q11)] ⟨Fb hG,trivial⟩) λR st K r h=>by unfold dc4 at h;split at h;exact .trans (by kernel_rfl) h;cases h
theorem ok {G:Gs} (hG:AE (ac G)) {g:Q} (hg:∀s i r,g s i=some r->∃n,main (R:=AT×List Ob) G n s i (λr0=>some (.one (.b r0),[]))=some (.one (.b r),[])):EO (ent g):=λR xs H K r hc=>by
 simp only[ent]at hc;split at hc
 ·exact okL hc λr j=>let⟨n,j⟩:=hg _ _ _ j;fF hG an (pc G n) Tryz.func49 j (apl [(0,4,q4)] ⟨pc4 hG,trivial⟩)
 ·cases hc
end z3j
namespace z2u
structure Gs where
 z2w:z2w.Q
 z2s:z2s.Q
 z3m:z3m.Q
 z3j:z3j.Q
noncomputable def ac (G:Gs):List Ent:=[z2w.ent G.z2w,z2s.ent G.z2s,z3m.ent G.z3m,z3j.ent G.z3j]
noncomputable def b9 {R:Type} (G:Gs) (n:Nat) (i k:Int) (h0:LB) (h02:LS) (h03:LO) (nx:Int->Int->LB->LS->LO->Option R) (k0:Bool->Option R) (k1:Int->LB->LS->LO->Option R):Option R:=
 bif decide (k<i)then
  (
  (ix h03 k).bind λe2=>
  (ix h03 i).bind λe4=>
  bif sEq e2.name e4.name then
   (k0 false)
  else
   nx i (wr (k+1)) h0 h02 h03
  )
 else
  k1 i h0 h02 h03
noncomputable def l9 {R:Type} (G:Gs) (n m:Nat) (i k:Int) (h0:LB) (h02:LS) (h03:LO) (k0:Bool->Option R) (k1:Int->LB->LS->LO->Option R):Option R:=aB (λ(v:Int×Int×LB×LS×LO) nx=>b9 G n v.1 v.2.1 v.2.2.1 v.2.2.2.1 v.2.2.2.2 (λy0 y1 y2 y3 y4=>nx (y0,y1,y2,y3,y4)) k0 k1) m (i,k,h0,h02,h03)
noncomputable def b4 {R:Type} (G:Gs) (n:Nat) (i:Int) (h0:LB) (h02:LS) (h03:LO) (nx:Int->LB->LS->LO->Option R) (k0:Bool->Option R) (k1:LB->LS->LO->Option R):Option R:=
 bif decide (i < (List.length h03 : Int)) then
  (
  (ix h03 i).bind λe2=>
  (G.z2s e2.name).bind λr2=>
  bif !r2 then
   (k0 false)
  else
   (ix h03 i).bind λe4=>
   (G.z3m (Sg.mk (So.mk h0 h02) h03) e4).bind λr4=>
   bif !r4 then
    (k0 false)
   else
    l9 G n n i 0 h0 h02 h03
     (λt2=>k0 t2)
     (λi2 h04 h022 h032=>nx (wr (i2+1)) h04 h022 h032)
  )
 else
  k1 h0 h02 h03
noncomputable def l4 {R:Type} (G:Gs) (n m:Nat) (i:Int) (h0:LB) (h02:LS) (h03:LO) (k0:Bool->Option R) (k1:LB->LS->LO->Option R):Option R:=aB (λ(v:Int×LB×LS×LO) nx=>b4 G n v.1 v.2.1 v.2.2.1 v.2.2.2 (λy0 y1 y2 y3=>nx (y0,y1,y2,y3)) k0 k1) m (i,h0,h02,h03)
noncomputable def b14 {R:Type} (G:Gs) (n:Nat) (i:Int) (h0:LB) (h02:LS) (h03:LO) (nx:Int->LB->LS->LO->Option R) (k0:Bool->Option R) (k1:Option R):Option R:=
 bif decide (i<(List.length h03:Int))then
  (
  (G.z3j (Sg.mk (So.mk h0 h02) h03) i).bind λr=>
  bif !r then
   (k0 false)
  else
   nx (wr (i+1)) h0 h02 h03
  )
 else
  k1
noncomputable def l14 {R:Type} (G:Gs) (n m:Nat) (i:Int) (h0:LB) (h02:LS) (h03:LO) (k0:Bool->Option R) (k1:Option R):Option R:=aB (λ(v:Int×LB×LS×LO) nx=>b14 G n v.1 v.2.1 v.2.2.1 v.2.2.2 (λy0 y1 y2 y3=>nx (y0,y1,y2,y3)) k0 k1) m (i,h0,h02,h03)
noncomputable def main {R:Type} (G:Gs) (n:Nat) (s:Sg) (K:Bool->Option R):Option R:=
 (G.z2w s.sorts).bind λr=>
 bif !r then
  (K false)
 else
  bif decide (14<(List.length s.ops:Int))then
   (K false)
  else
   l4 G n n 0 s.sorts.names s.sorts.subs s.ops
    (λt2=>K t2)
    (fun h0 h02 h03 =>
     l14 G n n 0 h0 h02 h03
      (λt22=>K t22)
      (K true)
    )
noncomputable def dl9 (G:Gs) (n m:Nat) (R:Type) (st:St) (K:Kt R):Option R:=match st with
 |⟨[(1,.one (.p 0 0)),(3,.one (.i i)),(4,.one (.i k))],[.box [.l .s h0,.l (.n 5) h02,.l (.n 8) h03]]⟩=>l9 G n m i k h0 h02 h03 (λt2=>K .ret ⟨[(2,.one (.b t2))],[]⟩) (λi h0 h02 h03=>K (.exit 2) ⟨[(1,.one (.p 0 0)),(3,.one (.i i))],[.box [.l .s h0,.l (.n 5) h02,.l (.n 8) h03]]⟩)
 |_=>none
noncomputable def dl4 (G:Gs) (n m:Nat) (R:Type) (st:St) (K:Kt R):Option R:=match st with
 |⟨[(1,.one (.p 0 0)),(3,.one (.i i))],[.box [.l .s h0,.l (.n 5) h02,.l (.n 8) h03]]⟩=>l4 G n m i h0 h02 h03 (λt2=>K .ret ⟨[(2,.one (.b t2))],[]⟩) (λh0 h02 h03=>K (.exit 0) ⟨[(1,.one (.p 0 0))],[.box [.l .s h0,.l (.n 5) h02,.l (.n 8) h03]]⟩)
 |_=>none
noncomputable def qJ (G:Gs) (n m:Nat) (R:Type) (st:St) (K:Kt R):Option R:=match st with
 |⟨[(1,.one (.p 0 0)),(5,.one (.i i))],[.box [.l .s h0,.l (.n 5) h02,.l (.n 8) h03]]⟩=>l14 G n m i h0 h02 h03 (λt2=>K .ret ⟨[(2,.one (.b t2))],[]⟩) (K (.exit 4) ⟨[],[]⟩)
 |_=>none
noncomputable def pc (G:Gs) (n:Nat):Pcs:=⟨λR id st K=>bif Nat.beq id 9 then dl9 G n n R st K else bif Nat.beq id 4 then dl4 G n n R st K else bif Nat.beq id 14 then qJ G n n R st K else none,nK,nK⟩
noncomputable def an:Ann:=⟨70,0,[(9,[1,3,4]),(4,[1,3]),(14,[1,5])],[],[2],[(6,⟨[([0,1,2,3,4,5,6,7,8,9,10,11,12,13,14,15,16,17],[],[])],[],[],[0],[]⟩),(11,⟨[([0,1,2,3,4,5,6,7,8,9,10,11,12],[],[])],[],[],[0],[]⟩)],[]⟩
noncomputable abbrev bd:=aj Tryz.f21
noncomputable abbrev q9:=ak [1,1,0,1,0,0,1,0,0,1,1,0,0] bd
noncomputable abbrev q4:=ak [1,1,0,1,0,0] bd
noncomputable abbrev q14:=ak [1,1,1,0,1,0,0] bd
theorem pl9 {G:Gs} (hG:AE (ac G)) (n:Nat):∀m,PO an (.loop q9) (dl9 G n m):=lpc hG (pc G n) [1,3,4] ⟨[1,3],[2],[(0,[1]),(1,[1,3]),(2,[1,3])]⟩ (apl [] trivial) (λR st K=>by unfold dl9;split<;>rfl) λm R st K r h=>by unfold dl9 at h;split at h;exact .trans (by kernel_rfl) h;cases h
theorem pl4 {G:Gs} (hG:AE (ac G)) (n:Nat):∀m,PO an (.loop q4) (dl4 G n m):=lpc hG (pc G n) [1,3] ⟨[1],[2],[(0,[1])]⟩ (apl [(1,9,.loop q9)] ⟨pl9 hG n n,trivial⟩) (λR st K=>by unfold dl4;split<;>rfl) λm R st K r h=>by unfold dl4 at h;split at h;exact .trans (by kernel_rfl) h;cases h
theorem DZ {G:Gs} (hG:AE (ac G)) (n:Nat):∀m,PO an (.loop q14) (qJ G n m):=lpc hG (pc G n) [1,5] ⟨[],[2],[(4,[])]⟩ (apl [] trivial) (λR st K=>by unfold qJ;split<;>rfl) λm R st K r h=>by unfold qJ at h;split at h;exact .trans (by kernel_rfl) h;cases h
theorem ok {G:Gs} (hG:AE (ac G)) {g:Q} (hg:∀s r,g s=some r->∃n,main (R:=AT×List Ob) G n s (λr0=>some (.one (.b r0),[]))=some (.one (.b r),[])):EO (ent g):=λR xs H K r hc=>by
 simp only[ent]at hc;split at hc
 ·exact okL hc λr j=>let⟨n,j⟩:=hg _ _ j;fF hG an (pc G n) Tryz.func21 j (apl [(1,4,.loop q4),(1,14,.loop q14)] ⟨pl4 hG n n,⟨DZ hG n n,trivial⟩⟩)
 ·cases hc
end z2u
end Go.Proofs.YtfdkldmkbibknaaGreat.Den

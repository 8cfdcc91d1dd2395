import Derived.Test.YtfdkldmkbibknaaGreatZRowTx12
namespace Go.Proofs.YtfdkldmkbibknaaGreat.Den
open Go.RowKit
set_option maxRecDepth 100000
set_option linter.unusedVariables false
namespace z39
structure Gs where
 none_:Unit
noncomputable def main {R:Type} (G:Gs) (n:Nat) (a b:Int) (K:Int->Option R):Option R:=
 bif decide (b<a)then
  (K a)
 else
  K b
theorem ok {G:Gs} (hG:AE []) {g:Q} (hg:∀a b r,g a b=some r->∃n,main (R:=AT×List Ob) G n a b (λr0=>some (.one (.i r0),[]))=some (.one (.i r),[])):EO (ent g):=λR xs H K r hc=>by
 simp only[ent]at hc;split at hc
 ·exact okL hc λr j=>let⟨_,j⟩:=hg _ _ _ j;fF hG ⟨10,0,[],[],[4],[],[]⟩ nP Tryz.func54 j
 ·cases hc
end z39
namespace z3z
structure Gs where
 none_:Unit
noncomputable def main {R:Type} (G:Gs) (n:Nat) (name:ByteArray) (sort:Int) (K:Tm->Option R):Option R:=
 K (Tm.mk (-1) name sort [])
theorem ok {G:Gs} (hG:AE []) {g:Q} (hg:∀name sort r,g name sort=some r->∃n,main (R:=AT×List Ob) G n name sort (λr0=>some (.agg [.i r0.op,.s r0.name,.i r0.sort,.l (.n 1) r0.args],[]))=some (.agg [.i r.op,.s r.name,.i r.sort,.l (.n 1) r.args],[])):EO (ent g):=λR xs H K r hc=>by
 simp only[ent]at hc;split at hc
 ·exact okL hc λr j=>let⟨_,j⟩:=hg _ _ _ j;fF hG ⟨8,0,[],[],[4],[],[]⟩ nP Tryz.func53 j
 ·cases hc
end z3z
namespace z2m
structure Gs where
 z2m:z2m.Q
noncomputable def ac (G:Gs):List Ent:=[ent G.z2m]
noncomputable def b14 {R:Type} (G:Gs) (n:Nat) (h0:Int) (h02:ByteArray) (h03:Int) (h04:LT) (h1:Int) (h12:ByteArray) (h13:Int) (h14:LT) (i:Int) (nx k0:Int->Option R) (k1:Option R):Option R:=
 bif decide (i<(List.length h04:Int))then
  (
  bif decide (i<(List.length h14:Int))then
   (
   (ix h04 i).bind λe2=>
   (ix h14 i).bind λe4=>
   (G.z2m (Tm.mk e2.op e2.name e2.sort e2.args) (Tm.mk e4.op e4.name e4.sort e4.args)).bind λr2=>
   bif !decide (r2=0)then
    (k0 r2)
   else
    nx (wr (i+1))
   )
  else
   k1
  )
 else
  k1
noncomputable def l14 {R:Type} (G:Gs) (n m:Nat) (h0:Int) (h02:ByteArray) (h03:Int) (h04:LT) (h1:Int) (h12:ByteArray) (h13:Int) (h14:LT) (i:Int) (k0:Int->Option R) (k1:Option R):Option R:=aB (λ(v:Int) nx=>b14 G n h0 h02 h03 h04 h1 h12 h13 h14 v (λy0=>nx y0) k0 k1) m i
noncomputable def main {R:Type} (G:Gs) (n:Nat) (a b:Tm) (K:Int->Option R):Option R:=
 bif !decide (a.op=b.op)then
  (
  bif decide (a.op<b.op)then
   (K (-1))
  else
   K 1
  )
 else
  bif !sEq a.name b.name then
   (
   bif Abs.strLt a.name b.name then
    (K (-1))
   else
    K 1
   )
  else
   bif !decide (a.sort=b.sort)then
    (
    bif decide (a.sort<b.sort)then
     (K (-1))
    else
     K 1
    )
   else
    l14 G n n a.op a.name a.sort a.args b.op b.name b.sort b.args 0
     (λt4=>K t4)
     (
      bif decide ((List.length a.args:Int)<(List.length b.args:Int))then
       (K (-1))
      else
       bif decide ((List.length b.args:Int)<(List.length a.args:Int))then
        (K 1)
       else
        K 0
     )
noncomputable def qJ (G:Gs) (n m:Nat) (R:Type) (st:St) (K:Kt R):Option R:=match st with
 |⟨[(2,.one (.p 0 0)),(3,.one (.p 1 0)),(5,.one (.i i))],[.box [.i h0,.s h02,.i h03,.l (.n 1) h04],.box [.i h1,.s h12,.i h13,.l (.n 1) h14]]⟩=>l14 G n m h0 h02 h03 h04 h1 h12 h13 h14 i (λt4=>K .ret ⟨[(4,.one (.i t4))],[]⟩) (K (.exit 0) ⟨[(2,.one (.p 0 0)),(3,.one (.p 1 0))],[.box [.i h0,.s h02,.i h03,.l (.n 1) h04],.box [.i h1,.s h12,.i h13,.l (.n 1) h14]]⟩)
 |_=>none
noncomputable def pc (G:Gs) (n:Nat):Pcs:=⟨λR id st K=>bif Nat.beq id 14 then qJ G n n R st K else none,nK,nK⟩
noncomputable def an:Ann:=⟨79,0,[(14,[2,3,5])],[],[4],[(16,⟨[([0,1,2,3,4,5,6,7,8,9,10,11],[],[])],[],[],[0,1],[]⟩)],[]⟩
noncomputable abbrev bd:=aj Tryz.f42
noncomputable abbrev q14:=ak [1,1,1,1,0,1,0,0] bd
theorem DZ {G:Gs} (hG:AE (ac G)) (n:Nat):∀m,PO an (.loop q14) (qJ G n m):=lpc hG (pc G n) [2,3,5] ⟨[2,3],[4],[(0,[2,3])]⟩ (apl [] trivial) (λR st K=>by unfold qJ;split<;>rfl) λm R st K r h=>by unfold qJ at h;split at h;exact .trans (by kernel_rfl) h;cases h
theorem ok {G:Gs} (hG:AE (ac G)) {g:Q} (hg:∀a b r,g a b=some r->∃n,main (R:=AT×List Ob) G n a b (λr0=>some (.one (.i r0),[]))=some (.one (.i r),[])):EO (ent g):=λR xs H K r hc=>by
 simp only[ent]at hc;split at hc
 ·exact okL hc λr j=>let⟨n,j⟩:=hg _ _ _ j;fF hG an (pc G n) Tryz.func42 j (apl [(1,14,.loop q14)] ⟨DZ hG n n,trivial⟩)
 ·cases hc
end z2m
namespace z3y
structure Gs where
 z2m:z2m.Q
noncomputable def main {R:Type} (G:Gs) (n:Nat) (a b:Tm) (K:Bool->Option R):Option R:=
 (G.z2m (Tm.mk a.op a.name a.sort a.args) (Tm.mk b.op b.name b.sort b.args)).bind λr=>
 K (decide (r=0))
theorem ok {G:Gs} (hG:AE [z2m.ent G.z2m]) {g:Q} (hg:∀a b r,g a b=some r->∃n,main (R:=AT×List Ob) G n a b (λr0=>some (.one (.b r0),[]))=some (.one (.b r),[])):EO (ent g):=λR xs H K r hc=>by
 simp only[ent]at hc;split at hc
 ·exact okL hc λr j=>let⟨_,j⟩:=hg _ _ _ j;fF hG ⟨9,0,[],[],[4],[],[]⟩ nP Tryz.func98 j
 ·cases hc
end z3y
namespace z3u
structure Gs where
 z3u:z3u.Q
noncomputable def ac (G:Gs):List Ent:=[ent G.z3u]
noncomputable def b3 {R:Type} (G:Gs) (n:Nat) (h0:Int) (h02:ByteArray) (h03:Int) (h04:LT) (h1:Int) (h12:ByteArray) (h13:Int) (h2:LT) (h3:Int) (h32:ByteArray) (h33 i:Int) (h4:LT) (nx:Int->LT->Option R) (k0:LT->Option R):Option R:=
 bif decide (i<(List.length h04:Int))then
  (
  (ix h04 i).bind λe4=>
  (G.z3u (Tm.mk e4.op e4.name e4.sort e4.args)).bind λr4=>
  (lim (h4++[(Tm.mk r4.op r4.name r4.sort r4.args)])).bind λzs2=>
  nx (wr (i+1)) zs2
  )
 else
  k0 h4
noncomputable def l3 {R:Type} (G:Gs) (n m:Nat) (h0:Int) (h02:ByteArray) (h03:Int) (h04:LT) (h1:Int) (h12:ByteArray) (h13:Int) (h2:LT) (h3:Int) (h32:ByteArray) (h33 i:Int) (h4:LT) (k0:LT->Option R):Option R:=aB (λ(v:Int×LT) nx=>b3 G n h0 h02 h03 h04 h1 h12 h13 h2 h3 h32 h33 v.1 v.2 (λy0 y1=>nx (y0,y1)) k0) m (i,h4)
noncomputable def main {R:Type} (G:Gs) (n:Nat) (t:Tm) (K:Tm->Option R):Option R:=
 l3 G n n t.op t.name t.sort t.args 0 ByteArray.empty 0 [] t.op t.name t.sort 0 []
  (λh34=>K (Tm.mk t.op t.name t.sort h34))
noncomputable def dl3 (G:Gs) (n m:Nat) (R:Type) (st:St) (K:Kt R):Option R:=match st with
 |⟨[(1,.one (.p 0 0)),(2,.one (.p 1 0)),(3,.one (.p 3 0)),(4,.one (.i i))],[.box [.i h0,.s h02,.i h03,.l (.n 1) h04],.box [.i h1,.s h12,.i h13,.o 2],.row (.n 1) 0 h2,.box [.i h3,.s h32,.i h33,.o 4],.row (.n 1) 0 h4]⟩=>l3 G n m h0 h02 h03 h04 h1 h12 h13 h2 h3 h32 h33 i h4 (λh34=>K (.exit 0) ⟨[(2,.one (.p 0 0)),(3,.one (.p 2 0))],[.box [.i h1,.s h12,.i h13,.o 1],.row (.n 1) 0 h2,.box [.i h3,.s h32,.i h33,.o 3],.row (.n 1) 0 h34]⟩)
 |_=>none
noncomputable def pc (G:Gs) (n:Nat):Pcs:=⟨λR id st K=>bif Nat.beq id 3 then dl3 G n n R st K else none,nK,nK⟩
noncomputable def an:Ann:=⟨31,0,[(3,[1,2,3,4])],[],[2],[(5,⟨[([0,1,2,3,4,5,6,7,8,9,10,11],[9,11],[1])],[9,11],[],[0,1,2],[]⟩)],[]⟩
noncomputable abbrev bd:=aj Tryz.f99
noncomputable abbrev q3:=ak [1,1,0,1,0,0] bd
theorem pl3 {G:Gs} (hG:AE (ac G)) (n:Nat):∀m,PO an (.loop q3) (dl3 G n m):=lpc hG (pc G n) [1,2,3,4] ⟨[2,3],[2],[(0,[2,3])]⟩ (apl [] trivial) (λR st K=>by unfold dl3;split<;>rfl) λm R st K r h=>by unfold dl3 at h;split at h;exact .trans (by kernel_rfl) h;cases h
theorem ok {G:Gs} (hG:AE (ac G)) {g:Q} (hg:∀t r,g t=some r->∃n,main (R:=AT×List Ob) G n t (λr0=>some (.agg [.i r0.op,.s r0.name,.i r0.sort,.l (.n 1) r0.args],[]))=some (.agg [.i r.op,.s r.name,.i r.sort,.l (.n 1) r.args],[])):EO (ent g):=λR xs H K r hc=>by
 simp only[ent]at hc;split at hc
 ·exact okL hc λr j=>let⟨n,j⟩:=hg _ _ j;fF hG an (pc G n) Tryz.func99 j (apl [(1,3,.loop q3)] ⟨pl3 hG n n,trivial⟩)
 ·cases hc
end z3u
namespace z3s
structure Gs where
 z3u:z3u.Q
noncomputable def ac (G:Gs):List Ent:=[z3u.ent G.z3u]
noncomputable def b3 {R:Type} (G:Gs) (n:Nat) (list:LT) (i:Int) (h0:LT) (nx:Int->LT->Option R) (k0:LT->Option R):Option R:=
 bif decide (i<(List.length list:Int))then
  (
  (ix list i).bind λe=>
  (G.z3u (Tm.mk e.op e.name e.sort e.args)).bind λr=>
  (lim (h0++[(Tm.mk r.op r.name r.sort r.args)])).bind λzs=>
  nx (wr (i+1)) zs
  )
 else
  k0 h0
noncomputable def l3 {R:Type} (G:Gs) (n m:Nat) (list:LT) (i:Int) (h0:LT) (k0:LT->Option R):Option R:=aB (λ(v:Int×LT) nx=>b3 G n list v.1 v.2 (λy0 y1=>nx (y0,y1)) k0) m (i,h0)
noncomputable def main {R:Type} (G:Gs) (n:Nat) (list:LT) (K:LT->Option R):Option R:=
 l3 G n n list 0 []
  (λh02=>K h02)
noncomputable def dl3 (G:Gs) (n m:Nat) (R:Type) (st:St) (K:Kt R):Option R:=match st with
 |⟨[(0,.one (.l (.n 1) list)),(3,.one (.o 0)),(4,.one (.i i))],[.row (.n 1) 0 h0]⟩=>l3 G n m list i h0 (λh02=>K (.exit 0) ⟨[(3,.one (.o 0))],[.row (.n 1) 0 h02]⟩)
 |_=>none
noncomputable def pc (G:Gs) (n:Nat):Pcs:=⟨λR id st K=>bif Nat.beq id 3 then dl3 G n n R st K else none,nK,nK⟩
noncomputable def an:Ann:=⟨21,0,[(3,[0,3,4])],[],[2],[],[]⟩
noncomputable abbrev bd:=aj Tryz.f101
noncomputable abbrev q3:=ak [1,1,0,1,0,0] bd
theorem pl3 {G:Gs} (hG:AE (ac G)) (n:Nat):∀m,PO an (.loop q3) (dl3 G n m):=lpc hG (pc G n) [0,3,4] ⟨[3],[2],[(0,[3])]⟩ (apl [] trivial) (λR st K=>by unfold dl3;split<;>rfl) λm R st K r h=>by unfold dl3 at h;split at h;exact .trans (by kernel_rfl) h;cases h
theorem ok {G:Gs} (hG:AE (ac G)) {g:Q} (hg:∀list r,g list=some r->∃n,main (R:=AT×List Ob) G n list (λr0=>some (.one (.l (.n 1) r0),[]))=some (.one (.l (.n 1) r),[])):EO (ent g):=λR xs H K r hc=>by
 simp only[ent]at hc;split at hc
 ·exact okL hc λr j=>let⟨n,j⟩:=hg _ _ j;fF hG an (pc G n) Tryz.func101 j (apl [(1,3,.loop q3)] ⟨pl3 hG n n,trivial⟩)
 ·cases hc
end z3s
namespace z32
structure Gs where
 z2m:z2m.Q
 z3s:z3s.Q
noncomputable def ac (G:Gs):List Ent:=[z2m.ent G.z2m,z3s.ent G.z3s]
noncomputable def b6 {R:Type} (G:Gs) (n:Nat) (list:LT) (i:Int) (h0:LT) (at1:Int) (nx k0:Int->Option R):Option R:=
 bif decide (0<at1)then
  (
  (ix h0 (wr (at1-1))).bind λe2=>
  (ix list i).bind λe4=>
  (G.z2m (Tm.mk e2.op e2.name e2.sort e2.args) (Tm.mk e4.op e4.name e4.sort e4.args)).bind λr2=>
  bif decide (0<r2)then
   (nx (wr (at1-1)))
  else
   k0 at1
  )
 else
  k0 at1
noncomputable def l6 {R:Type} (G:Gs) (n m:Nat) (list:LT) (i:Int) (h0:LT) (at1:Int) (k0:Int->Option R):Option R:=aB (λ(v:Int) nx=>b6 G n list i h0 v (λy0=>nx y0) k0) m at1
noncomputable def b3 {R:Type} (G:Gs) (n:Nat) (list:LT) (i:Int) (h0:LT) (nx:Int->LT->Option R) (k0:LT->Option R):Option R:=
 bif decide (i<(List.length list:Int))then
  (
  l6 G n n list i h0 (List.length h0:Int)
   (fun at12 =>
    (pB h0 [] at12).bind λzs=>
    (oP h0 at12).bind λys2=>
    (ix list i).bind λe4=>
    (lim (ys2++[(Tm.mk e4.op e4.name e4.sort e4.args)])).bind λzs4=>
    (lim (zs4++zs)).bind λzs5=>
    nx (wr (i+1)) zs5
   )
  )
 else
  k0 h0
noncomputable def l3 {R:Type} (G:Gs) (n m:Nat) (list:LT) (i:Int) (h0:LT) (k0:LT->Option R):Option R:=aB (λ(v:Int×LT) nx=>b3 G n list v.1 v.2 (λy0 y1=>nx (y0,y1)) k0) m (i,h0)
noncomputable def main {R:Type} (G:Gs) (n:Nat) (list:LT) (K:LT->Option R):Option R:=
 l3 G n n list 0 []
  (fun h02 =>
   (G.z3s h02).bind λr=>
   K r
  )
noncomputable def dl6 (G:Gs) (n m:Nat) (R:Type) (st:St) (K:Kt R):Option R:=match st with
 |⟨[(0,.one (.l (.n 1) list)),(3,.one (.o 0)),(4,.one (.i i)),(5,.one (.i at1))],[.row (.n 1) 0 h0]⟩=>l6 G n m list i h0 at1 (λat12=>K (.exit 2) ⟨[(0,.one (.l (.n 1) list)),(3,.one (.o 0)),(4,.one (.i i)),(5,.one (.i at12))],[.row (.n 1) 0 h0]⟩)
 |_=>none
noncomputable def dl3 (G:Gs) (n m:Nat) (R:Type) (st:St) (K:Kt R):Option R:=match st with
 |⟨[(0,.one (.l (.n 1) list)),(3,.one (.o 0)),(4,.one (.i i))],[.row (.n 1) 0 h0]⟩=>l3 G n m list i h0 (λh02=>K (.exit 0) ⟨[(3,.one (.o 0))],[.row (.n 1) 0 h02]⟩)
 |_=>none
noncomputable def pc (G:Gs) (n:Nat):Pcs:=⟨λR id st K=>bif Nat.beq id 6 then dl6 G n n R st K else bif Nat.beq id 3 then dl3 G n n R st K else none,nK,nK⟩
noncomputable def an:Ann:=⟨51,0,[(6,[0,3,4,5]),(3,[0,3,4])],[],[2],[(6,⟨[([0,1,2,3,4,5,6,7,8,9,10,11,12,13,14],[],[])],[],[],[0],[]⟩),(9,⟨[([0,1,2,3,4,5,6,7,8,9,10,11],[2,8,10],[])],[2,8,10],[],[2],[]⟩)],[36,40]⟩
noncomputable abbrev bd:=aj Tryz.f100
noncomputable abbrev q6:=ak [1,1,0,1,0,0,1,0,0,1,0,0,0] bd
noncomputable abbrev q3:=ak [1,1,0,1,0,0] bd
theorem pl6 {G:Gs} (hG:AE (ac G)) (n:Nat):∀m,PO an (.loop q6) (dl6 G n m):=lpc hG (pc G n) [0,3,4,5] ⟨[0,3,4,5],[2],[(0,[3]),(1,[0,3,4]),(2,[0,3,4,5])]⟩ (apl [] trivial) (λR st K=>by unfold dl6;split<;>rfl) λm R st K r h=>by unfold dl6 at h;split at h;exact .trans (by kernel_rfl) h;cases h
theorem pl3 {G:Gs} (hG:AE (ac G)) (n:Nat):∀m,PO an (.loop q3) (dl3 G n m):=lpc hG (pc G n) [0,3,4] ⟨[3],[2],[(0,[3])]⟩ (apl [(1,6,.loop q6)] ⟨pl6 hG n n,trivial⟩) (λR st K=>by unfold dl3;split<;>rfl) λm R st K r h=>by unfold dl3 at h;split at h;exact .trans (by kernel_rfl) h;cases h
theorem ok {G:Gs} (hG:AE (ac G)) {g:Q} (hg:∀list r,g list=some r->∃n,main (R:=AT×List Ob) G n list (λr0=>some (.one (.l (.n 1) r0),[]))=some (.one (.l (.n 1) r),[])):EO (ent g):=λR xs H K r hc=>by
 simp only[ent]at hc;split at hc
 ·exact okL hc λr j=>let⟨n,j⟩:=hg _ _ j;fF hG an (pc G n) Tryz.func100 j (apl [(1,3,.loop q3)] ⟨pl3 hG n n,trivial⟩)
 ·cases hc
end z32
namespace z4g
structure Gs where
 none_:Unit
noncomputable def main {R:Type} (G:Gs) (n:Nat) (s:Sg) (op:Int) (K:Tm->Bool->Option R):Option R:=
 (ix s.ops op).bind λe=>
 bif decide (e.unit=0)then
  (K (Tm.mk 0 ByteArray.empty 0 []) false)
 else
  (ix s.ops op).bind λe2=>
  K (Tm.mk (wr (e2.unit-1)) ByteArray.empty 0 []) true
theorem ok {G:Gs} (hG:AE []) {g:Q} (hg:∀s op r,g s op=some r->∃n,main (R:=AT×List Ob) G n s op (λr0 r1=>some (.tup [.agg [.i r0.op,.s r0.name,.i r0.sort,.l (.n 1) r0.args],.one (.b r1)],[]))=some (.tup [.agg [.i r.1.op,.s r.1.name,.i r.1.sort,.l (.n 1) r.1.args],.one (.b r.2)],[])):EO (ent g):=λR xs H K r hc=>by
 simp only[ent]at hc;split at hc
 ·exact okL hc λr j=>let⟨_,j⟩:=hg _ _ _ j;fF hG ⟨22,0,[],[],[4,5],[],[]⟩ nP Tryz.func96 j
 ·cases hc
end z4g
namespace z48
structure Gs where
 z3g:z3g.Q
noncomputable def main {R:Type} (G:Gs) (n:Nat) (s:Sg) (t:Tm) (K:Int->Option R):Option R:=
 (G.z3g s.sorts).bind λr=>
 bif decide (t.op=(-1))then
  (
  (ix r t.sort).bind λe=>
  K e
  )
 else
  (ix s.ops t.op).bind λe2=>
  (ix e2.decls 0).bind λe3=>
  (ix r e3.result).bind λe4=>
  K e4
theorem ok {G:Gs} (hG:AE [z3g.ent G.z3g]) {g:Q} (hg:∀s t r,g s t=some r->∃n,main (R:=AT×List Ob) G n s t (λr0=>some (.one (.i r0),[]))=some (.one (.i r),[])):EO (ent g):=λR xs H K r hc=>by
 simp only[ent]at hc;split at hc
 ·exact okL hc λr j=>let⟨_,j⟩:=hg _ _ _ j;fF hG ⟨30,0,[],[],[4],[],[]⟩ nP Tryz.func97 j
 ·cases hc
end z48
namespace z49
structure Gs where
 z49:z49.Q
noncomputable def ac (G:Gs):List Ent:=[ent G.z49]
noncomputable def b3 {R:Type} (G:Gs) (n:Nat) (h0:Int) (h02:ByteArray) (h03:Int) (h04:LT) (left k:Int) (nx:Int->Int->Option R) (k0:Int->Option R):Option R:=
 bif decide (k<(List.length h04:Int))then
  (
  bif decide (0<=left)then
   (
   (ix h04 k).bind λe=>
   (G.z49 (Tm.mk e.op e.name e.sort e.args) left).bind λr=>
   nx r (wr (k+1))
   )
  else
   k0 left
  )
 else
  k0 left
noncomputable def l3 {R:Type} (G:Gs) (n m:Nat) (h0:Int) (h02:ByteArray) (h03:Int) (h04:LT) (left k:Int) (k0:Int->Option R):Option R:=aB (λ(v:Int×Int) nx=>b3 G n h0 h02 h03 h04 v.1 v.2 (λy0 y1=>nx (y0,y1)) k0) m (left,k)
noncomputable def main {R:Type} (G:Gs) (n:Nat) (t:Tm) (left:Int) (K:Int->Option R):Option R:=
 l3 G n n t.op t.name t.sort t.args (wr (left-1)) 0
  (λleft2=>K left2)
noncomputable def dl3 (G:Gs) (n m:Nat) (R:Type) (st:St) (K:Kt R):Option R:=match st with
 |⟨[(1,.one (.i left)),(2,.one (.p 0 0)),(5,.one (.i k))],[.box [.i h0,.s h02,.i h03,.l (.n 1) h04]]⟩=>l3 G n m h0 h02 h03 h04 left k (λleft2=>K (.exit 0) ⟨[(1,.one (.i left2))],[]⟩)
 |_=>none
noncomputable def pc (G:Gs) (n:Nat):Pcs:=⟨λR id st K=>bif Nat.beq id 3 then dl3 G n n R st K else none,nK,nK⟩
noncomputable def an:Ann:=⟨27,0,[(3,[1,2,5])],[],[4],[],[]⟩
noncomputable abbrev bd:=aj Tryz.f85
noncomputable abbrev q3:=ak [1,1,0,1,0,0] bd
theorem pl3 {G:Gs} (hG:AE (ac G)) (n:Nat):∀m,PO an (.loop q3) (dl3 G n m):=lpc hG (pc G n) [1,2,5] ⟨[1],[4],[(0,[1])]⟩ (apl [] trivial) (λR st K=>by unfold dl3;split<;>rfl) λm R st K r h=>by unfold dl3 at h;split at h;exact .trans (by kernel_rfl) h;cases h
theorem ok {G:Gs} (hG:AE (ac G)) {g:Q} (hg:∀t left r,g t left=some r->∃n,main (R:=AT×List Ob) G n t left (λr0=>some (.one (.i r0),[]))=some (.one (.i r),[])):EO (ent g):=λR xs H K r hc=>by
 simp only[ent]at hc;split at hc
 ·exact okL hc λr j=>let⟨n,j⟩:=hg _ _ _ j;fF hG an (pc G n) Tryz.func85 j (apl [(1,3,.loop q3)] ⟨pl3 hG n n,trivial⟩)
 ·cases hc
end z49
namespace z2o
structure Gs where
 z2o:z2o.Q
 z39:z39.Q
noncomputable def ac (G:Gs):List Ent:=[ent G.z2o,z39.ent G.z39]
noncomputable def b3 {R:Type} (G:Gs) (n:Nat) (h0:Int) (h02:ByteArray) (h03:Int) (h04:LT) (n1 i:Int) (nx:Int->Int->Option R) (k0:Int->Option R):Option R:=
 bif decide (i<(List.length h04:Int))then
  (
  (ix h04 i).bind λe=>
  (G.z2o (Tm.mk e.op e.name e.sort e.args)).bind λr=>
  (G.z39 n1 r).bind λr2=>
  nx r2 (wr (i+1))
  )
 else
  k0 n1
noncomputable def l3 {R:Type} (G:Gs) (n m:Nat) (h0:Int) (h02:ByteArray) (h03:Int) (h04:LT) (n1 i:Int) (k0:Int->Option R):Option R:=aB (λ(v:Int×Int) nx=>b3 G n h0 h02 h03 h04 v.1 v.2 (λy0 y1=>nx (y0,y1)) k0) m (n1,i)
noncomputable def main {R:Type} (G:Gs) (n:Nat) (t:Tm) (K:Int->Option R):Option R:=
 l3 G n n t.op t.name t.sort t.args 0 0
  (λn12=>K (wr (n12+1)))
noncomputable def dl3 (G:Gs) (n m:Nat) (R:Type) (st:St) (K:Kt R):Option R:=match st with
 |⟨[(1,.one (.p 0 0)),(3,.one (.i n1)),(4,.one (.i i))],[.box [.i h0,.s h02,.i h03,.l (.n 1) h04]]⟩=>l3 G n m h0 h02 h03 h04 n1 i (λn12=>K (.exit 0) ⟨[(3,.one (.i n12))],[]⟩)
 |_=>none
noncomputable def pc (G:Gs) (n:Nat):Pcs:=⟨λR id st K=>bif Nat.beq id 3 then dl3 G n n R st K else none,nK,nK⟩
noncomputable def an:Ann:=⟨22,0,[(3,[1,3,4])],[],[2],[],[]⟩
noncomputable abbrev bd:=aj Tryz.f86
noncomputable abbrev q3:=ak [1,1,0,1,0,0] bd
theorem pl3 {G:Gs} (hG:AE (ac G)) (n:Nat):∀m,PO an (.loop q3) (dl3 G n m):=lpc hG (pc G n) [1,3,4] ⟨[3],[2],[(0,[3])]⟩ (apl [] trivial) (λR st K=>by unfold dl3;split<;>rfl) λm R st K r h=>by unfold dl3 at h;split at h;exact .trans (by kernel_rfl) h;cases h
theorem ok {G:Gs} (hG:AE (ac G)) {g:Q} (hg:∀t r,g t=some r->∃n,main (R:=AT×List Ob) G n t (λr0=>some (.one (.i r0),[]))=some (.one (.i r),[])):EO (ent g):=λR xs H K r hc=>by
 simp only[ent]at hc;split at hc
 ·exact okL hc λr j=>let⟨n,j⟩:=hg _ _ j;fF hG an (pc G n) Tryz.func86 j (apl [(1,3,.loop q3)] ⟨pl3 hG n n,trivial⟩)
 ·cases hc
end z2o
namespace z4f
structure Gs where
 z49:z49.Q
 z2o:z2o.Q
noncomputable def main {R:Type} (G:Gs) (n:Nat) (t:Tm) (K:Bool->Option R):Option R:=
 (G.z49 (Tm.mk t.op t.name t.sort t.args) 60).bind λr=>
 bif decide (0<=r)then
  (
  (G.z2o (Tm.mk t.op t.name t.sort t.args)).bind λr2=>
  K (decide (r2<=20))
  )
 else
  K false
theorem ok {G:Gs} (hG:AE [z49.ent G.z49,z2o.ent G.z2o]) {g:Q} (hg:∀t r,g t=some r->∃n,main (R:=AT×List Ob) G n t (λr0=>some (.one (.b r0),[]))=some (.one (.b r),[])):EO (ent g):=λR xs H K r hc=>by
 simp only[ent]at hc;split at hc
 ·exact okL hc λr j=>let⟨_,j⟩:=hg _ _ j;fF hG ⟨11,0,[],[],[2],[],[]⟩ nP Tryz.func40 j
 ·cases hc
end z4f
namespace z4a
structure Gs where
 z3g:z3g.Q
 z3i:z3i.Q
 z4g:z4g.Q
 z48:z48.Q
 z3y:z3y.Q
 z3u:z3u.Q
 z32:z32.Q
 z3s:z3s.Q
 z4f:z4f.Q
noncomputable def ac (G:Gs):List Ent:=[z3g.ent G.z3g,z3i.ent G.z3i,z4g.ent G.z4g,z48.ent G.z48,z3y.ent G.z3y,z3u.ent G.z3u,z32.ent G.z32,z3s.ent G.z3s,z4f.ent G.z4f]
noncomputable def c15 {R:Type} (G:Gs) (n:Nat) (op:Int) (args:LT) (kinds:LI) (has:Bool) (i:Int) (h0:LB) (h02:LS) (h03:LO) (h1:Int) (h12:ByteArray) (h13:Int) (h2:LT) (h3:ByteArray) (h32:LD) (h33 h34:Bool) (h35 h4:Int) (h42:ByteArray) (h43:Int) (h44 h5:LT) (k0:LT->Option R):Option R:=
 (ix args i).bind λe=>
 (lim (h5++[(Tm.mk e.op e.name e.sort e.args)])).bind λzs=>
 k0 zs
noncomputable def c17 {R:Type} (G:Gs) (n:Nat) (op:Int) (args:LT) (kinds:LI) (has:Bool) (i:Int) (h0:LB) (h02:LS) (h03:LO) (h1:Int) (h12:ByteArray) (h13:Int) (h2:LT) (h3:ByteArray) (h32:LD) (h33 h34:Bool) (h35 h4:Int) (h42:ByteArray) (h43:Int) (h44 h5:LT) (k0:LT->Option R):Option R:=
 bif h33 then
  (
  (ix args i).bind λe=>
  bif decide (e.op=op)then
   (
   (ix args i).bind λe2=>
   (lim (h5++e2.args)).bind λzs=>
   k0 zs
   )
  else
   c15 G n op args kinds has i h0 h02 h03 h1 h12 h13 h2 h3 h32 h33 h34 h35 h4 h42 h43 h44 h5
    (λh52=>k0 h52)
  )
 else
  c15 G n op args kinds has i h0 h02 h03 h1 h12 h13 h2 h3 h32 h33 h34 h35 h4 h42 h43 h44 h5
   (λh522=>k0 h522)
noncomputable def c13 {R:Type} (G:Gs) (n:Nat) (op:Int) (args:LT) (kinds:LI) (has:Bool) (i at1:Int) (h0:LB) (h02:LS) (h03:LO) (h1:Int) (h12:ByteArray) (h13:Int) (h2:LT) (h3:ByteArray) (h32:LD) (h33 h34:Bool) (h35 h4:Int) (h42:ByteArray) (h43:Int) (h44 h5:LT) (k0:Bool->Int->ByteArray->Int->LT->Option R) (k1:LT->Option R):Option R:=
 (ix args i).bind λe2=>
 (G.z48 (Sg.mk (So.mk h0 h02) h03) (Tm.mk e2.op e2.name e2.sort e2.args)).bind λr2=>
 (ix h32 0).bind λe4=>
 (ix e4.args at1).bind λe6=>
 (ix kinds e6).bind λe8=>
 bif !decide (r2=e8)then
  (k0 false 0 ByteArray.empty 0 [])
 else
  bif has then
   (
   (ix args i).bind λe10=>
   (G.z3y (Tm.mk e10.op e10.name e10.sort e10.args) (Tm.mk h4 h42 h43 h44)).bind λr4=>
   bif r4 then
    (k1 h5)
   else
    c17 G n op args kinds has i h0 h02 h03 h1 h12 h13 h2 h3 h32 h33 h34 h35 h4 h42 h43 h44 h5
     (λh52=>k1 h52)
   )
  else
   c17 G n op args kinds has i h0 h02 h03 h1 h12 h13 h2 h3 h32 h33 h34 h35 h4 h42 h43 h44 h5
    (λh522=>k1 h522)
noncomputable def b8 {R:Type} (G:Gs) (n:Nat) (op:Int) (args:LT) (kinds:LI) (has:Bool) (h0:LB) (h02:LS) (h03:LO) (h1:Int) (h12:ByteArray) (h13:Int) (h2:LT) (h3:ByteArray) (h32:LD) (h33 h34:Bool) (h35 h4:Int) (h42:ByteArray) (h43:Int) (h44:LT) (i:Int) (h5:LT) (nx:Int->LT->Option R) (k0:Bool->Int->ByteArray->Int->LT->Option R) (k1:LT->Option R):Option R:=
 bif decide (i<(List.length args:Int))then
  (
  bif h33 then
   (
   c13 G n op args kinds has i 0 h0 h02 h03 h1 h12 h13 h2 h3 h32 h33 h34 h35 h4 h42 h43 h44 h5
    (λt7 h04 h05 h06 h07=>k0 t7 h04 h05 h06 h07)
    (λh52=>nx (wr (i+1)) h52)
   )
  else
   c13 G n op args kinds has i i h0 h02 h03 h1 h12 h13 h2 h3 h32 h33 h34 h35 h4 h42 h43 h44 h5
    (λt72 h042 h052 h062 h072=>k0 t72 h042 h052 h062 h072)
    (λh522=>nx (wr (i+1)) h522)
  )
 else
  k1 h5
noncomputable def l8 {R:Type} (G:Gs) (n m:Nat) (op:Int) (args:LT) (kinds:LI) (has:Bool) (h0:LB) (h02:LS) (h03:LO) (h1:Int) (h12:ByteArray) (h13:Int) (h2:LT) (h3:ByteArray) (h32:LD) (h33 h34:Bool) (h35 h4:Int) (h42:ByteArray) (h43:Int) (h44:LT) (i:Int) (h5:LT) (k0:Bool->Int->ByteArray->Int->LT->Option R) (k1:LT->Option R):Option R:=aB (λ(v:Int×LT) nx=>b8 G n op args kinds has h0 h02 h03 h1 h12 h13 h2 h3 h32 h33 h34 h35 h4 h42 h43 h44 v.1 v.2 (λy0 y1=>nx (y0,y1)) k0 k1) m (i,h5)
noncomputable def c25 {R:Type} (G:Gs) (n:Nat) (op:Int) (list:LT) (h0:Int) (h02:ByteArray) (h03:Int) (h1:LT) (h2:ByteArray) (h22:LD) (h23 h24:Bool) (h25:Int) (k0:Bool->ByteArray->Int->LT->Option R):Option R:=
 (G.z3s list).bind λr=>
 bif !h23 then
  (
  (G.z4f (Tm.mk op ByteArray.empty 0 r)).bind λr7=>
  k0 r7 ByteArray.empty 0 r
  )
 else
  bif decide ((List.length list:Int)<=7)then
   (
   (G.z4f (Tm.mk op ByteArray.empty 0 r)).bind λr9=>
   k0 r9 ByteArray.empty 0 r
   )
  else
   k0 false ByteArray.empty 0 r
noncomputable def c23 {R:Type} (G:Gs) (n:Nat) (op:Int) (list:LT) (h0:Int) (h02:ByteArray) (h03:Int) (h1:LT) (h2:ByteArray) (h22:LD) (h23 h24:Bool) (h25:Int) (k0:Bool->ByteArray->Int->LT->Option R):Option R:=
 bif h24 then
  (
  (G.z32 list).bind λr=>
  c25 G n op r h0 h02 h03 h1 h2 h22 h23 h24 h25
   (λt7 h05 h06 h07=>k0 t7 h05 h06 h07)
  )
 else
  c25 G n op list h0 h02 h03 h1 h2 h22 h23 h24 h25
   (λt72 h052 h062 h072=>k0 t72 h052 h062 h072)
noncomputable def c21 {R:Type} (G:Gs) (n:Nat) (op:Int) (has:Bool) (h0:Int) (h02:ByteArray) (h03:Int) (h1:LT) (h2:ByteArray) (h22:LD) (h23 h24:Bool) (h25:Int) (h3:LT) (k0:Bool->Int->ByteArray->Int->LT->Option R):Option R:=
 bif has then
  (
  bif decide ((List.length h3:Int)=1)then
   (
   (ix h3 0).bind λe=>
   (G.z3u (Tm.mk e.op e.name e.sort e.args)).bind λr=>
   k0 true r.op r.name r.sort r.args
   )
  else
   c23 G n op h3 h0 h02 h03 h1 h2 h22 h23 h24 h25
    (λt7 h05 h06 h07=>k0 t7 op h05 h06 h07)
  )
 else
  c23 G n op h3 h0 h02 h03 h1 h2 h22 h23 h24 h25
   (λt72 h052 h062 h072=>k0 t72 op h052 h062 h072)
noncomputable def c5 {R:Type} (G:Gs) (n:Nat) (op:Int) (args:LT) (kinds:LI) (h0:LB) (h02:LS) (h03:LO) (h1:Int) (h12:ByteArray) (h13:Int) (h2:LT) (h3:ByteArray) (h32:LD) (h33 h34:Bool) (h35:Int) (k0:Bool->Int->ByteArray->Int->LT->Option R):Option R:=
 (G.z4g (Sg.mk (So.mk h0 h02) h03) op).bind λr=>
 l8 G n n op args kinds r.2 h0 h02 h03 h1 h12 h13 h2 h3 h32 h33 h34 h35 r.1.op r.1.name r.1.sort r.1.args 0 []
  (λt7 h04 h05 h06 h07=>k0 t7 h04 h05 h06 h07)
  (fun h45 =>
   bif r.2 then
    (
    bif decide ((List.length h45:Int)=0)then
     (k0 true r.1.op r.1.name r.1.sort r.1.args)
    else
     c21 G n op r.2 h1 h12 h13 h2 h3 h32 h33 h34 h35 h45
      (λt72 h042 h052 h062 h072=>k0 t72 h042 h052 h062 h072)
    )
   else
    c21 G n op r.2 h1 h12 h13 h2 h3 h32 h33 h34 h35 h45
     (λt73 h043 h053 h063 h073=>k0 t73 h043 h053 h063 h073)
  )
noncomputable def main {R:Type} (G:Gs) (n:Nat) (s:Sg) (op:Int) (args:LT) (K:Tm->Bool->Option R):Option R:=
 (ix s.ops op).bind λe=>
 (G.z3g s.sorts).bind λr=>
 (G.z3i e).bind λr2=>
 bif !decide ((List.length args : Int) = r2) then
  (
  bif e.assoc then
   (
   bif !(decide (2<=(List.length args:Int)))then
    (K (Tm.mk 0 ByteArray.empty 0 []) false)
   else
    c5 G n op args r s.sorts.names s.sorts.subs s.ops 0 ByteArray.empty 0 [] e.name e.decls e.assoc e.comm e.unit
     (λt7 h04 h05 h06 h07=>K (Tm.mk h04 h05 h06 h07) t7)
   )
  else
   K (Tm.mk 0 ByteArray.empty 0 []) false
  )
 else
  c5 G n op args r s.sorts.names s.sorts.subs s.ops 0 ByteArray.empty 0 [] e.name e.decls e.assoc e.comm e.unit
   (λt72 h042 h052 h062 h072=>K (Tm.mk h042 h052 h062 h072) t72)
noncomputable def s8 (G:Gs) (n:Nat) (R:Type) (st:St) (K:Kt R):Option R:=match st with
 |⟨[(1,.one (.i op)),(2,.one (.l (.n 1) args)),(3,.one (.p 0 0)),(6,.one (.p 1 0)),(8,.one (.p 3 0)),(9,.one (.l .i kinds)),(10,.one (.p 4 0)),(11,.one (.b has)),(12,.one (.o 5)),(13,.one (.i i))],[.box [.l .s h0,.l (.n 5) h02,.l (.n 8) h03],.box [.i h1,.s h12,.i h13,.o 2],.row (.n 1) 0 h2,.box [.s h3,.l (.n 7) h32,.b h33,.b h34,.i h35],.box [.i h4,.s h42,.i h43,.l (.n 1) h44],.row (.n 1) 0 h5]⟩=>c15 G n op args kinds has i h0 h02 h03 h1 h12 h13 h2 h3 h32 h33 h34 h35 h4 h42 h43 h44 h5 (λh52=>K .normal ⟨[(1,.one (.i op)),(2,.one (.l (.n 1) args)),(3,.one (.p 0 0)),(6,.one (.p 1 0)),(8,.one (.p 3 0)),(9,.one (.l .i kinds)),(10,.one (.p 4 0)),(11,.one (.b has)),(12,.one (.o 5)),(13,.one (.i i))],[.box [.l .s h0,.l (.n 5) h02,.l (.n 8) h03],.box [.i h1,.s h12,.i h13,.o 2],.row (.n 1) 0 h2,.box [.s h3,.l (.n 7) h32,.b h33,.b h34,.i h35],.box [.i h4,.s h42,.i h43,.l (.n 1) h44],.row (.n 1) 0 h52]⟩)
 |_=>none
noncomputable def ub (G:Gs) (n:Nat) (R:Type) (st:St) (K:Kt R):Option R:=match st with
 |⟨[(1,.one (.i op)),(2,.one (.l (.n 1) args)),(3,.one (.p 0 0)),(6,.one (.p 1 0)),(8,.one (.p 3 0)),(9,.one (.l .i kinds)),(10,.one (.p 4 0)),(11,.one (.b has)),(12,.one (.o 5)),(13,.one (.i i))],[.box [.l .s h0,.l (.n 5) h02,.l (.n 8) h03],.box [.i h1,.s h12,.i h13,.o 2],.row (.n 1) 0 h2,.box [.s h3,.l (.n 7) h32,.b h33,.b h34,.i h35],.box [.i h4,.s h42,.i h43,.l (.n 1) h44],.row (.n 1) 0 h5]⟩=>c17 G n op args kinds has i h0 h02 h03 h1 h12 h13 h2 h3 h32 h33 h34 h35 h4 h42 h43 h44 h5 (λh52=>K .normal ⟨[(1,.one (.i op)),(2,.one (.l (.n 1) args)),(3,.one (.p 0 0)),(6,.one (.p 1 0)),(8,.one (.p 3 0)),(9,.one (.l .i kinds)),(10,.one (.p 4 0)),(11,.one (.b has)),(12,.one (.o 5)),(13,.one (.i i))],[.box [.l .s h0,.l (.n 5) h02,.l (.n 8) h03],.box [.i h1,.s h12,.i h13,.o 2],.row (.n 1) 0 h2,.box [.s h3,.l (.n 7) h32,.b h33,.b h34,.i h35],.box [.i h4,.s h42,.i h43,.l (.n 1) h44],.row (.n 1) 0 h52]⟩)
 |_=>none
noncomputable def jz (G:Gs) (n:Nat) (R:Type) (st:St) (K:Kt R):Option R:=match st with
 |⟨[(1,.one (.i op)),(2,.one (.l (.n 1) args)),(3,.one (.p 0 0)),(6,.one (.p 1 0)),(8,.one (.p 3 0)),(9,.one (.l .i kinds)),(10,.one (.p 4 0)),(11,.one (.b has)),(12,.one (.o 5)),(13,.one (.i i)),(14,.one (.i at1))],[.box [.l .s h0,.l (.n 5) h02,.l (.n 8) h03],.box [.i h1,.s h12,.i h13,.o 2],.row (.n 1) 0 h2,.box [.s h3,.l (.n 7) h32,.b h33,.b h34,.i h35],.box [.i h4,.s h42,.i h43,.l (.n 1) h44],.row (.n 1) 0 h5]⟩=>c13 G n op args kinds has i at1 h0 h02 h03 h1 h12 h13 h2 h3 h32 h33 h34 h35 h4 h42 h43 h44 h5 (λt7 h04 h05 h06 h07=>K .ret ⟨[(6,.one (.p 0 0)),(7,.one (.b t7))],[.box [.i h04,.s h05,.i h06,.l (.n 1) h07]]⟩) (λh52=>K .normal ⟨[(1,.one (.i op)),(2,.one (.l (.n 1) args)),(3,.one (.p 0 0)),(6,.one (.p 1 0)),(8,.one (.p 3 0)),(9,.one (.l .i kinds)),(10,.one (.p 4 0)),(11,.one (.b has)),(12,.one (.o 5)),(13,.one (.i i))],[.box [.l .s h0,.l (.n 5) h02,.l (.n 8) h03],.box [.i h1,.s h12,.i h13,.o 2],.row (.n 1) 0 h2,.box [.s h3,.l (.n 7) h32,.b h33,.b h34,.i h35],.box [.i h4,.s h42,.i h43,.l (.n 1) h44],.row (.n 1) 0 h52]⟩)
 |_=>none
noncomputable def dl8 (G:Gs) (n m:Nat) (R:Type) (st:St) (K:Kt R):Option R:=match st with
 |⟨[(1,.one (.i op)),(2,.one (.l (.n 1) args)),(3,.one (.p 0 0)),(6,.one (.p 1 0)),(8,.one (.p 3 0)),(9,.one (.l .i kinds)),(10,.one (.p 4 0)),(11,.one (.b has)),(12,.one (.o 5)),(13,.one (.i i))],[.box [.l .s h0,.l (.n 5) h02,.l (.n 8) h03],.box [.i h1,.s h12,.i h13,.o 2],.row (.n 1) 0 h2,.box [.s h3,.l (.n 7) h32,.b h33,.b h34,.i h35],.box [.i h4,.s h42,.i h43,.l (.n 1) h44],.row (.n 1) 0 h5]⟩=>l8 G n m op args kinds has h0 h02 h03 h1 h12 h13 h2 h3 h32 h33 h34 h35 h4 h42 h43 h44 i h5 (λt7 h04 h05 h06 h07=>K .ret ⟨[(6,.one (.p 0 0)),(7,.one (.b t7))],[.box [.i h04,.s h05,.i h06,.l (.n 1) h07]]⟩) (λh45=>K (.exit 0) ⟨[(1,.one (.i op)),(6,.one (.p 0 0)),(8,.one (.p 2 0)),(10,.one (.p 3 0)),(11,.one (.b has)),(12,.one (.o 4))],[.box [.i h1,.s h12,.i h13,.o 1],.row (.n 1) 0 h2,.box [.s h3,.l (.n 7) h32,.b h33,.b h34,.i h35],.box [.i h4,.s h42,.i h43,.l (.n 1) h44],.row (.n 1) 0 h45]⟩)
 |_=>none
noncomputable def tJ (G:Gs) (n:Nat) (R:Type) (st:St) (K:Kt R):Option R:=match st with
 |⟨[(1,.one (.i op)),(6,.one (.p 0 0)),(8,.one (.p 2 0)),(12,.one (.l (.n 1) list))],[.box [.i h0,.s h02,.i h03,.o 1],.row (.n 1) 0 h1,.box [.s h2,.l (.n 7) h22,.b h23,.b h24,.i h25]]⟩=>c25 G n op list h0 h02 h03 h1 h2 h22 h23 h24 h25 (λt7 h05 h06 h07=>K .ret ⟨[(6,.one (.p 0 0)),(7,.one (.b t7))],[.box [.i op,.s h05,.i h06,.l (.n 1) h07]]⟩)
 |_=>none
noncomputable def uQ (G:Gs) (n:Nat) (R:Type) (st:St) (K:Kt R):Option R:=match st with
 |⟨[(1,.one (.i op)),(6,.one (.p 0 0)),(8,.one (.p 2 0)),(12,.one (.l (.n 1) list))],[.box [.i h0,.s h02,.i h03,.o 1],.row (.n 1) 0 h1,.box [.s h2,.l (.n 7) h22,.b h23,.b h24,.i h25]]⟩=>c23 G n op list h0 h02 h03 h1 h2 h22 h23 h24 h25 (λt7 h05 h06 h07=>K .ret ⟨[(6,.one (.p 0 0)),(7,.one (.b t7))],[.box [.i op,.s h05,.i h06,.l (.n 1) h07]]⟩)
 |_=>none
noncomputable def gQ (G:Gs) (n:Nat) (R:Type) (st:St) (K:Kt R):Option R:=match st with
 |⟨[(1,.one (.i op)),(6,.one (.p 0 0)),(8,.one (.p 2 0)),(11,.one (.b has)),(12,.one (.o 3))],[.box [.i h0,.s h02,.i h03,.o 1],.row (.n 1) 0 h1,.box [.s h2,.l (.n 7) h22,.b h23,.b h24,.i h25],.row (.n 1) 0 h3]⟩=>c21 G n op has h0 h02 h03 h1 h2 h22 h23 h24 h25 h3 (λt7 h04 h05 h06 h07=>K .ret ⟨[(6,.one (.p 0 0)),(7,.one (.b t7))],[.box [.i h04,.s h05,.i h06,.l (.n 1) h07]]⟩)
 |_=>none
noncomputable def dc5 (G:Gs) (n:Nat) (R:Type) (st:St) (K:Kt R):Option R:=match st with
 |⟨[(1,.one (.i op)),(2,.one (.l (.n 1) args)),(3,.one (.p 0 0)),(6,.one (.p 1 0)),(8,.one (.p 3 0)),(9,.one (.l .i kinds))],[.box [.l .s h0,.l (.n 5) h02,.l (.n 8) h03],.box [.i h1,.s h12,.i h13,.o 2],.row (.n 1) 0 h2,.box [.s h3,.l (.n 7) h32,.b h33,.b h34,.i h35]]⟩=>c5 G n op args kinds h0 h02 h03 h1 h12 h13 h2 h3 h32 h33 h34 h35 (λt7 h04 h05 h06 h07=>K .ret ⟨[(6,.one (.p 0 0)),(7,.one (.b t7))],[.box [.i h04,.s h05,.i h06,.l (.n 1) h07]]⟩)
 |_=>none
noncomputable def pc (G:Gs) (n:Nat):Pcs:=⟨λR id st K=>bif Nat.beq id 8 then dl8 G n n R st K else none,λR id st K=>bif Nat.beq id 15 then s8 G n R st K else bif Nat.beq id 17 then ub G n R st K else bif Nat.beq id 13 then jz G n R st K else bif Nat.beq id 25 then tJ G n R st K else bif Nat.beq id 23 then uQ G n R st K else bif Nat.beq id 21 then gQ G n R st K else bif Nat.beq id 5 then dc5 G n R st K else none,nK⟩
noncomputable def an:Ann:=⟨149,0,[(8,[1,2,3,6,8,9,10,11,12,13])],[(15,[1,2,3,6,8,9,10,11,12,13]),(17,[1,2,3,6,8,9,10,11,12,13]),(13,[1,2,3,6,8,9,10,11,12,13,14]),(25,[1,6,8,12]),(23,[1,6,8,12]),(21,[1,6,8,11,12]),(5,[1,2,3,6,8,9])],[6,7],[(13,⟨[([0,1,2,3,4,5,6,7,8,9,10,11,12,13,14,15,16,17],[],[])],[],[],[0,1,2,3,4,5],[]⟩),(16,⟨[([0,1,2,3,4,5,6,7,8,9],[],[])],[],[],[0,1,2,3,4,5],[]⟩),(26,⟨[([0,1,2,3,4,5,6,7,8,9,10,11,13,12,14],[13],[])],[13],[],[1,2,3],[]⟩)],[39,74,120]⟩
noncomputable abbrev bd:=aj Tryz.f55
noncomputable abbrev q15:=ak [1,1,1,1,1,1,0,1,0,0,1,0,0,1,1,1,0,1,1,1,1] bd
noncomputable abbrev q17:=ak [1,1,1,1,1,1,0,1,0,0,1,0,0,1,1,1,0,1,1] bd
noncomputable abbrev q13:=ak [1,1,1,1,1,1,0,1,0,0,1,0,0,1,1] bd
noncomputable abbrev q8:=ak [1,1,1,1,1,1,0,1,0,0] bd
noncomputable abbrev q25:=ak [1,1,1,1,1,1,1,1,1,1] bd
noncomputable abbrev q23:=ak [1,1,1,1,1,1,1,1,1] bd
noncomputable abbrev q21:=ak [1,1,1,1,1,1,1,1] bd
noncomputable abbrev q5:=ak [1,1,1,1] bd
theorem Eb {G:Gs} (hG:AE (ac G)) {n:Nat}:PO an q15 (s8 G n):=cpc hG (pc G n) ⟨[1,2,3,6,8,9,10,11,12,13],[6,7],[(0,[1,6,8,10,11,12]),(1,[1,2,3,6,8,9,10,11,12,13]),(2,[1,2,3,6,8,9,10,11,12,13])]⟩ (apl [] trivial) λR st K r h=>by unfold s8 at h;split at h;exact .trans (by kernel_rfl) h;cases h
theorem Ex {G:Gs} (hG:AE (ac G)) {n:Nat}:PO an q17 (ub G n):=cpc hG (pc G n) ⟨[1,2,3,6,8,9,10,11,12,13],[6,7],[(0,[1,6,8,10,11,12]),(1,[1,2,3,6,8,9,10,11,12,13]),(2,[1,2,3,6,8,9,10,11,12,13])]⟩ (apl [(0,15,q15)] ⟨Eb hG,trivial⟩) λR st K r h=>by unfold ub at h;split at h;exact .trans (by kernel_rfl) h;cases h
theorem tw {G:Gs} (hG:AE (ac G)) {n:Nat}:PO an q13 (jz G n):=cpc hG (pc G n) ⟨[1,2,3,6,8,9,10,11,12,13],[6,7],[(0,[1,6,8,10,11,12]),(1,[1,2,3,6,8,9,10,11,12,13])]⟩ (apl [(0,17,q17)] ⟨Ex hG,trivial⟩) λR st K r h=>by unfold jz at h;split at h;exact .trans (by kernel_rfl) h;cases h
theorem pl8 {G:Gs} (hG:AE (ac G)) (n:Nat):∀m,PO an (.loop q8) (dl8 G n m):=lpc hG (pc G n) [1,2,3,6,8,9,10,11,12,13] ⟨[1,6,8,10,11,12],[6,7],[(0,[1,6,8,10,11,12])]⟩ (apl [(0,13,q13)] ⟨tw hG,trivial⟩) (λR st K=>by unfold dl8;split<;>rfl) λm R st K r h=>by unfold dl8 at h;split at h;exact .trans (by kernel_rfl) h;cases h
theorem Eo {G:Gs} (hG:AE (ac G)) {n:Nat}:PO an q25 (tJ G n):=cpc hG (pc G n) ⟨[],[6,7],[]⟩ (apl [] trivial) λR st K r h=>by unfold tJ at h;split at h;exact .trans (by kernel_rfl) h;cases h
theorem Ew {G:Gs} (hG:AE (ac G)) {n:Nat}:PO an q23 (uQ G n):=cpc hG (pc G n) ⟨[],[6,7],[]⟩ (apl [(0,25,q25)] ⟨Eo hG,trivial⟩) λR st K r h=>by unfold uQ at h;split at h;exact .trans (by kernel_rfl) h;cases h
theorem qw {G:Gs} (hG:AE (ac G)) {n:Nat}:PO an q21 (gQ G n):=cpc hG (pc G n) ⟨[],[6,7],[]⟩ (apl [(0,23,q23)] ⟨Ew hG,trivial⟩) λR st K r h=>by unfold gQ at h;split at h;exact .trans (by kernel_rfl) h;cases h
theorem pc5 {G:Gs} (hG:AE (ac G)) {n:Nat}:PO an q5 (dc5 G n):=cpc hG (pc G n) ⟨[],[6,7],[]⟩ (apl [(1,8,.loop q8),(0,21,q21)] ⟨pl8 hG n n,⟨qw hG,trivial⟩⟩) λR st K r h=>by unfold dc5 at h;split at h;exact .trans (by kernel_rfl) h;cases h
theorem ok {G:Gs} (hG:AE (ac G)) {g:Q} (hg:∀s op args r,g s op args=some r->∃n,main (R:=AT×List Ob) G n s op args (λr0 r1=>some (.tup [.agg [.i r0.op,.s r0.name,.i r0.sort,.l (.n 1) r0.args],.one (.b r1)],[]))=some (.tup [.agg [.i r.1.op,.s r.1.name,.i r.1.sort,.l (.n 1) r.1.args],.one (.b r.2)],[])):EO (ent g):=λR xs H K r hc=>by
 simp only[ent]at hc;split at hc
 ·exact okL hc λr j=>let⟨n,j⟩:=hg _ _ _ _ j;fF hG an (pc G n) Tryz.func55 j (apl [(0,5,q5)] ⟨pc5 hG,trivial⟩)
 ·cases hc
end z4a
end Go.Proofs.YtfdkldmkbibknaaGreat.Den

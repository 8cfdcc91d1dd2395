import Derived.Test.YtfdkldmkbibknaaGreatZRowPT11
namespace Go.Proofs.YtfdkldmkbibknaaGreat.Den
open Go.RowKit
set_option maxRecDepth 100000
set_option linter.unusedVariables false
namespace z36
structure Gs where
 none_:Unit
noncomputable def ents (_:Gs):List Ent:=[]
noncomputable def main {R:Type} (G:Gs) (n:Nat) (a b:Int) (K:Int->Option R):Option R:=
 bif decide (b<a)then
  (K a)
 else
  K b
noncomputable def pc (_:Gs) (_:Nat):Pcs:=⟨nK,nK,nK⟩
noncomputable def an:Ann:=⟨10,0,[],[],[4],[],[]⟩
noncomputable abbrev bd:=bodyOf Tryz.f54
theorem ok {G:Gs} (hG:AE (ents G)) {g:Q} (hg:∀a b r,g a b=some r->∃n,main (R:=AT×List Ob) G n a b (λr0=>some (.one (.i r0),[]))=some (.one (.i r),[])):EO (ent g):=λR xs H K r hc=>by
 simp only[ent]at hc
 split at hc
 ·obtain⟨r,j1,j2⟩:=bind_some hc
  obtain⟨n,j3⟩:=hg _ _ _ j1
  exact⟨_,_,j2,fnP hG an (pc G n) bd [.tmp 4] Tryz.func54 (.inl rfl) (apl [] trivial) (.trans (by kernel_rfl) j3)⟩
 ·cases hc
end z36
namespace z3q
structure Gs where
 none_:Unit
noncomputable def ents (_:Gs):List Ent:=[]
noncomputable def main {R:Type} (G:Gs) (n:Nat) (name:ByteArray) (sort:Int) (K:Tm->Option R):Option R:=
 K (Tm.mk (-1) name sort [])
noncomputable def pc (_:Gs) (_:Nat):Pcs:=⟨nK,nK,nK⟩
noncomputable def an:Ann:=⟨8,0,[],[],[4],[],[]⟩
noncomputable abbrev bd:=bodyOf Tryz.f53
theorem ok {G:Gs} (hG:AE (ents G)) {g:Q} (hg:∀name sort r,g name sort=some r->∃n,main (R:=AT×List Ob) G n name sort (λr0=>some (.agg [.i (Tm.op r0),.s (Tm.name r0),.i (Tm.sort r0),.l (.n 1) (Tm.args r0)],[]))=some (.agg [.i (Tm.op r),.s (Tm.name r),.i (Tm.sort r),.l (.n 1) (Tm.args r)],[])):EO (ent g):=λR xs H K r hc=>by
 simp only[ent]at hc
 split at hc
 ·obtain⟨r,j1,j2⟩:=bind_some hc
  obtain⟨n,j3⟩:=hg _ _ _ j1
  exact⟨_,_,j2,fnP hG an (pc G n) bd [.cell 4 32] Tryz.func53 (.inl rfl) (apl [] trivial) (.trans (by kernel_rfl) j3)⟩
 ·cases hc
end z3q
namespace z2k
structure Gs where
 z2k:z2k.Q
noncomputable def ents (G:Gs):List Ent:=[ent G.z2k]
noncomputable def b14 {R:Type} (G:Gs) (n:Nat) (h0:Int) (h02:ByteArray) (h03:Int) (h04:LT) (h1:Int) (h12:ByteArray) (h13:Int) (h14:LT) (i:Int) (nx k0:Int->Option R) (k1:Option R):Option R:=
 bif decide (i<(List.length h04:Int))then
  (
  bif decide (i<(List.length h14:Int))then
   (
   Option.bind (ix h04 i) λe2=>
   Option.bind (ix h14 i) λe4=>
   Option.bind (G.z2k (Tm.mk (Tm.op e2) (Tm.name e2) (Tm.sort e2) (Tm.args e2)) (Tm.mk (Tm.op e4) (Tm.name e4) (Tm.sort e4) (Tm.args e4))) λr2=>
   bif !decide (r2=0)then
    (k0 r2)
   else
    nx (wr (i+1))
   )
  else
   k1
  )
 else
  k1
noncomputable def l14 {R:Type} (G:Gs) (n m:Nat) (h0:Int) (h02:ByteArray) (h03:Int) (h04:LT) (h1:Int) (h12:ByteArray) (h13:Int) (h14:LT) (i:Int) (k0:Int->Option R) (k1:Option R):Option R:=iter (λ(v:Int) nx=>b14 G n h0 h02 h03 h04 h1 h12 h13 h14 v (λy0=>nx y0) k0 k1) m i
noncomputable def main {R:Type} (G:Gs) (n:Nat) (a b:Tm) (K:Int->Option R):Option R:=
 bif !decide ((Tm.op a)=(Tm.op b))then
  (
  bif decide ((Tm.op a)<(Tm.op b))then
   (K (-1))
  else
   K 1
  )
 else
  bif !sEq (Tm.name a) (Tm.name b)then
   (
   bif Abs.strLt (Tm.name a) (Tm.name b)then
    (K (-1))
   else
    K 1
   )
  else
   bif !decide ((Tm.sort a)=(Tm.sort b))then
    (
    bif decide ((Tm.sort a)<(Tm.sort b))then
     (K (-1))
    else
     K 1
    )
   else
    l14 G n n (Tm.op a) (Tm.name a) (Tm.sort a) (Tm.args a) (Tm.op b) (Tm.name b) (Tm.sort b) (Tm.args b) 0
     (λt4=>K t4)
     (
      bif decide ((List.length (Tm.args a):Int)<(List.length (Tm.args b):Int))then
       (K (-1))
      else
       bif decide ((List.length (Tm.args b):Int)<(List.length (Tm.args a):Int))then
        (K 1)
       else
        K 0
     )
noncomputable def dl14 (G:Gs) (n m:Nat) (R:Type) (st:St) (K:Kt R):Option R:=match st with
 |⟨[(2,.one (.p 0 0)),(3,.one (.p 1 0)),(5,.one (.i i))],[.box [.i h0,.s h02,.i h03,.l (.n 1) h04],.box [.i h1,.s h12,.i h13,.l (.n 1) h14]]⟩=>l14 G n m h0 h02 h03 h04 h1 h12 h13 h14 i (λt4=>K .ret ⟨[(4,.one (.i t4))],[]⟩) (K (.exit 0) ⟨[(2,.one (.p 0 0)),(3,.one (.p 1 0))],[.box [.i h0,.s h02,.i h03,.l (.n 1) h04],.box [.i h1,.s h12,.i h13,.l (.n 1) h14]]⟩)
 |_=>none
noncomputable def pc (G:Gs) (n:Nat):Pcs:=⟨λR id st K=>bif Nat.beq id 14 then dl14 G n n R st K else none,nK,nK⟩
noncomputable def an:Ann:=⟨79,0,[(14,[2,3,5])],[],[4],[(16,⟨[([0,1,2,3,4,5,6,7,8,9,10,11],[],[])],[],[],[0,1],[]⟩)],[]⟩
noncomputable abbrev bd:=bodyOf Tryz.f42
noncomputable abbrev q14:=nthC [1,1,1,1,0,1,0,0] bd
theorem pl14 {G:Gs} (hG:AE (ents G)) (n:Nat):∀m,PO an (.loop q14) (dl14 G n m):=lpc hG (pc G n) [2,3,5] ⟨[2,3],[4],[(0,[2,3])]⟩ (apl [] trivial) (λR st K=>by unfold dl14;split<;>rfl) λm R st K r h=>by unfold dl14 at h;split at h;exact .trans (by kernel_rfl) h;cases h
theorem ok {G:Gs} (hG:AE (ents G)) {g:Q} (hg:∀a b r,g a b=some r->∃n,main (R:=AT×List Ob) G n a b (λr0=>some (.one (.i r0),[]))=some (.one (.i r),[])):EO (ent g):=λR xs H K r hc=>by
 simp only[ent]at hc
 split at hc
 ·obtain⟨r,j1,j2⟩:=bind_some hc
  obtain⟨n,j3⟩:=hg _ _ _ j1
  exact⟨_,_,j2,fnP hG an (pc G n) bd [.tmp 4] Tryz.func42 (.inl rfl) (apl [(1,14,.loop q14)] ⟨pl14 hG n n,trivial⟩) (.trans (by kernel_rfl) j3)⟩
 ·cases hc
end z2k
namespace z3p
structure Gs where
 z2k:z2k.Q
noncomputable def ents (G:Gs):List Ent:=[z2k.ent G.z2k]
noncomputable def main {R:Type} (G:Gs) (n:Nat) (a b:Tm) (K:Bool->Option R):Option R:=
 Option.bind (G.z2k (Tm.mk (Tm.op a) (Tm.name a) (Tm.sort a) (Tm.args a)) (Tm.mk (Tm.op b) (Tm.name b) (Tm.sort b) (Tm.args b))) λr=>
 K (decide (r=0))
noncomputable def pc (_:Gs) (_:Nat):Pcs:=⟨nK,nK,nK⟩
noncomputable def an:Ann:=⟨9,0,[],[],[4],[],[]⟩
noncomputable abbrev bd:=bodyOf Tryz.f98
theorem ok {G:Gs} (hG:AE (ents G)) {g:Q} (hg:∀a b r,g a b=some r->∃n,main (R:=AT×List Ob) G n a b (λr0=>some (.one (.b r0),[]))=some (.one (.b r),[])):EO (ent g):=λR xs H K r hc=>by
 simp only[ent]at hc
 split at hc
 ·obtain⟨r,j1,j2⟩:=bind_some hc
  obtain⟨n,j3⟩:=hg _ _ _ j1
  exact⟨_,_,j2,fnP hG an (pc G n) bd [.tmp 4] Tryz.func98 (.inl rfl) (apl [] trivial) (.trans (by kernel_rfl) j3)⟩
 ·cases hc
end z3p
namespace z3n
structure Gs where
 z3n:z3n.Q
noncomputable def ents (G:Gs):List Ent:=[ent G.z3n]
noncomputable def b3 {R:Type} (G:Gs) (n:Nat) (h0:Int) (h02:ByteArray) (h03:Int) (h04:LT) (h1:Int) (h12:ByteArray) (h13:Int) (h2:LT) (h3:Int) (h32:ByteArray) (h33 i:Int) (h4:LT) (nx:Int->LT->Option R) (k0:LT->Option R):Option R:=
 bif decide (i<(List.length h04:Int))then
  (
  Option.bind (ix h04 i) λe4=>
  Option.bind (G.z3n (Tm.mk (Tm.op e4) (Tm.name e4) (Tm.sort e4) (Tm.args e4))) λr4=>
  Option.bind (lim (h4++[(Tm.mk (Tm.op r4) (Tm.name r4) (Tm.sort r4) (Tm.args r4))])) λzs2=>
  nx (wr (i+1)) zs2
  )
 else
  k0 h4
noncomputable def l3 {R:Type} (G:Gs) (n m:Nat) (h0:Int) (h02:ByteArray) (h03:Int) (h04:LT) (h1:Int) (h12:ByteArray) (h13:Int) (h2:LT) (h3:Int) (h32:ByteArray) (h33 i:Int) (h4:LT) (k0:LT->Option R):Option R:=iter (λ(v:Int×LT) nx=>b3 G n h0 h02 h03 h04 h1 h12 h13 h2 h3 h32 h33 v.1 v.2 (λy0 y1=>nx (y0,y1)) k0) m (i,h4)
noncomputable def main {R:Type} (G:Gs) (n:Nat) (t:Tm) (K:Tm->Option R):Option R:=
 l3 G n n (Tm.op t) (Tm.name t) (Tm.sort t) (Tm.args t) 0 ByteArray.empty 0 [] (Tm.op t) (Tm.name t) (Tm.sort t) 0 []
  (λh34=>K (Tm.mk (Tm.op t) (Tm.name t) (Tm.sort t) h34))
noncomputable def dl3 (G:Gs) (n m:Nat) (R:Type) (st:St) (K:Kt R):Option R:=match st with
 |⟨[(1,.one (.p 0 0)),(2,.one (.p 1 0)),(3,.one (.p 3 0)),(4,.one (.i i))],[.box [.i h0,.s h02,.i h03,.l (.n 1) h04],.box [.i h1,.s h12,.i h13,.o 2],.row (.n 1) 0 h2,.box [.i h3,.s h32,.i h33,.o 4],.row (.n 1) 0 h4]⟩=>l3 G n m h0 h02 h03 h04 h1 h12 h13 h2 h3 h32 h33 i h4 (λh34=>K (.exit 0) ⟨[(2,.one (.p 0 0)),(3,.one (.p 2 0))],[.box [.i h1,.s h12,.i h13,.o 1],.row (.n 1) 0 h2,.box [.i h3,.s h32,.i h33,.o 3],.row (.n 1) 0 h34]⟩)
 |_=>none
noncomputable def pc (G:Gs) (n:Nat):Pcs:=⟨λR id st K=>bif Nat.beq id 3 then dl3 G n n R st K else none,nK,nK⟩
noncomputable def an:Ann:=⟨31,0,[(3,[1,2,3,4])],[],[2],[(5,⟨[([0,1,2,3,4,5,6,7,8,9,10,11],[9,11],[1])],[9,11],[],[0,1,2],[]⟩)],[]⟩
noncomputable abbrev bd:=bodyOf Tryz.f99
noncomputable abbrev q3:=nthC [1,1,0,1,0,0] bd
theorem pl3 {G:Gs} (hG:AE (ents G)) (n:Nat):∀m,PO an (.loop q3) (dl3 G n m):=lpc hG (pc G n) [1,2,3,4] ⟨[2,3],[2],[(0,[2,3])]⟩ (apl [] trivial) (λR st K=>by unfold dl3;split<;>rfl) λm R st K r h=>by unfold dl3 at h;split at h;exact .trans (by kernel_rfl) h;cases h
theorem ok {G:Gs} (hG:AE (ents G)) {g:Q} (hg:∀t r,g t=some r->∃n,main (R:=AT×List Ob) G n t (λr0=>some (.agg [.i (Tm.op r0),.s (Tm.name r0),.i (Tm.sort r0),.l (.n 1) (Tm.args r0)],[]))=some (.agg [.i (Tm.op r),.s (Tm.name r),.i (Tm.sort r),.l (.n 1) (Tm.args r)],[])):EO (ent g):=λR xs H K r hc=>by
 simp only[ent]at hc
 split at hc
 ·obtain⟨r,j1,j2⟩:=bind_some hc
  obtain⟨n,j3⟩:=hg _ _ j1
  exact⟨_,_,j2,fnP hG an (pc G n) bd [.cell 2 32] Tryz.func99 (.inl rfl) (apl [(1,3,.loop q3)] ⟨pl3 hG n n,trivial⟩) (.trans (by kernel_rfl) j3)⟩
 ·cases hc
end z3n
namespace z3m
structure Gs where
 z3n:z3n.Q
noncomputable def ents (G:Gs):List Ent:=[z3n.ent G.z3n]
noncomputable def b3 {R:Type} (G:Gs) (n:Nat) (list:LT) (i:Int) (h0:LT) (nx:Int->LT->Option R) (k0:LT->Option R):Option R:=
 bif decide (i<(List.length list:Int))then
  (
  Option.bind (ix list i) λe=>
  Option.bind (G.z3n (Tm.mk (Tm.op e) (Tm.name e) (Tm.sort e) (Tm.args e))) λr=>
  Option.bind (lim (h0++[(Tm.mk (Tm.op r) (Tm.name r) (Tm.sort r) (Tm.args r))])) λzs=>
  nx (wr (i+1)) zs
  )
 else
  k0 h0
noncomputable def l3 {R:Type} (G:Gs) (n m:Nat) (list:LT) (i:Int) (h0:LT) (k0:LT->Option R):Option R:=iter (λ(v:Int×LT) nx=>b3 G n list v.1 v.2 (λy0 y1=>nx (y0,y1)) k0) m (i,h0)
noncomputable def main {R:Type} (G:Gs) (n:Nat) (list:LT) (K:LT->Option R):Option R:=
 l3 G n n list 0 []
  (λh02=>K h02)
noncomputable def dl3 (G:Gs) (n m:Nat) (R:Type) (st:St) (K:Kt R):Option R:=match st with
 |⟨[(0,.one (.l (.n 1) list)),(3,.one (.o 0)),(4,.one (.i i))],[.row (.n 1) 0 h0]⟩=>l3 G n m list i h0 (λh02=>K (.exit 0) ⟨[(3,.one (.o 0))],[.row (.n 1) 0 h02]⟩)
 |_=>none
noncomputable def pc (G:Gs) (n:Nat):Pcs:=⟨λR id st K=>bif Nat.beq id 3 then dl3 G n n R st K else none,nK,nK⟩
noncomputable def an:Ann:=⟨21,0,[(3,[0,3,4])],[],[2],[],[]⟩
noncomputable abbrev bd:=bodyOf Tryz.f101
noncomputable abbrev q3:=nthC [1,1,0,1,0,0] bd
theorem pl3 {G:Gs} (hG:AE (ents G)) (n:Nat):∀m,PO an (.loop q3) (dl3 G n m):=lpc hG (pc G n) [0,3,4] ⟨[3],[2],[(0,[3])]⟩ (apl [] trivial) (λR st K=>by unfold dl3;split<;>rfl) λm R st K r h=>by unfold dl3 at h;split at h;exact .trans (by kernel_rfl) h;cases h
theorem ok {G:Gs} (hG:AE (ents G)) {g:Q} (hg:∀list r,g list=some r->∃n,main (R:=AT×List Ob) G n list (λr0=>some (.one (.l (.n 1) r0),[]))=some (.one (.l (.n 1) r),[])):EO (ent g):=λR xs H K r hc=>by
 simp only[ent]at hc
 split at hc
 ·obtain⟨r,j1,j2⟩:=bind_some hc
  obtain⟨n,j3⟩:=hg _ _ j1
  exact⟨_,_,j2,fnP hG an (pc G n) bd [.tmp 2] Tryz.func101 (.inl rfl) (apl [(1,3,.loop q3)] ⟨pl3 hG n n,trivial⟩) (.trans (by kernel_rfl) j3)⟩
 ·cases hc
end z3m
namespace z2z
structure Gs where
 z2k:z2k.Q
 z3m:z3m.Q
noncomputable def ents (G:Gs):List Ent:=[z2k.ent G.z2k,z3m.ent G.z3m]
noncomputable def b6 {R:Type} (G:Gs) (n:Nat) (list:LT) (i:Int) (h0:LT) (at1:Int) (nx k0:Int->Option R):Option R:=
 bif decide (0<at1)then
  (
  Option.bind (ix h0 (wr (at1-1))) λe2=>
  Option.bind (ix list i) λe4=>
  Option.bind (G.z2k (Tm.mk (Tm.op e2) (Tm.name e2) (Tm.sort e2) (Tm.args e2)) (Tm.mk (Tm.op e4) (Tm.name e4) (Tm.sort e4) (Tm.args e4))) λr2=>
  bif decide (0<r2)then
   (nx (wr (at1-1)))
  else
   k0 at1
  )
 else
  k0 at1
noncomputable def l6 {R:Type} (G:Gs) (n m:Nat) (list:LT) (i:Int) (h0:LT) (at1:Int) (k0:Int->Option R):Option R:=iter (λ(v:Int) nx=>b6 G n list i h0 v (λy0=>nx y0) k0) m at1
noncomputable def b3 {R:Type} (G:Gs) (n:Nat) (list:LT) (i:Int) (h0:LT) (nx:Int->LT->Option R) (k0:LT->Option R):Option R:=
 bif decide (i<(List.length list:Int))then
  (
  l6 G n n list i h0 (List.length h0:Int)
   (fun at12 =>
    Option.bind (pairL h0 [] at12) λzs=>
    Option.bind (takeL h0 at12) λys2=>
    Option.bind (ix list i) λe4=>
    Option.bind (lim (ys2++[(Tm.mk (Tm.op e4) (Tm.name e4) (Tm.sort e4) (Tm.args e4))])) λzs4=>
    Option.bind (lim (zs4++zs)) λzs5=>
    nx (wr (i+1)) zs5
   )
  )
 else
  k0 h0
noncomputable def l3 {R:Type} (G:Gs) (n m:Nat) (list:LT) (i:Int) (h0:LT) (k0:LT->Option R):Option R:=iter (λ(v:Int×LT) nx=>b3 G n list v.1 v.2 (λy0 y1=>nx (y0,y1)) k0) m (i,h0)
noncomputable def main {R:Type} (G:Gs) (n:Nat) (list:LT) (K:LT->Option R):Option R:=
 l3 G n n list 0 []
  (fun h02 =>
   Option.bind (G.z3m h02) λr=>
   K r
  )
noncomputable def dl6 (G:Gs) (n m:Nat) (R:Type) (st:St) (K:Kt R):Option R:=match st with
 |⟨[(0,.one (.l (.n 1) list)),(3,.one (.o 0)),(4,.one (.i i)),(5,.one (.i at1))],[.row (.n 1) 0 h0]⟩=>l6 G n m list i h0 at1 (λat12=>K (.exit 2) ⟨[(0,.one (.l (.n 1) list)),(3,.one (.o 0)),(4,.one (.i i)),(5,.one (.i at12))],[.row (.n 1) 0 h0]⟩)
 |_=>none
noncomputable def dl3 (G:Gs) (n m:Nat) (R:Type) (st:St) (K:Kt R):Option R:=match st with
 |⟨[(0,.one (.l (.n 1) list)),(3,.one (.o 0)),(4,.one (.i i))],[.row (.n 1) 0 h0]⟩=>l3 G n m list i h0 (λh02=>K (.exit 0) ⟨[(3,.one (.o 0))],[.row (.n 1) 0 h02]⟩)
 |_=>none
noncomputable def pc (G:Gs) (n:Nat):Pcs:=⟨λR id st K=>bif Nat.beq id 6 then dl6 G n n R st K else bif Nat.beq id 3 then dl3 G n n R st K else none,nK,nK⟩
noncomputable def an:Ann:=⟨51,0,[(6,[0,3,4,5]),(3,[0,3,4])],[],[2],[(6,⟨[([0,1,2,3,4,5,6,7,8,9,10,11,12,13,14],[],[])],[],[],[0],[]⟩),(9,⟨[([0,1,2,3,4,5,6,7,8,9,10,11],[2,8,10],[])],[2,8,10],[],[2],[]⟩)],[36,40]⟩
noncomputable abbrev bd:=bodyOf Tryz.f100
noncomputable abbrev q6:=nthC [1,1,0,1,0,0,1,0,0,1,0,0,0] bd
noncomputable abbrev q3:=nthC [1,1,0,1,0,0] bd
theorem pl6 {G:Gs} (hG:AE (ents G)) (n:Nat):∀m,PO an (.loop q6) (dl6 G n m):=lpc hG (pc G n) [0,3,4,5] ⟨[0,3,4,5],[2],[(0,[3]),(1,[0,3,4]),(2,[0,3,4,5])]⟩ (apl [] trivial) (λR st K=>by unfold dl6;split<;>rfl) λm R st K r h=>by unfold dl6 at h;split at h;exact .trans (by kernel_rfl) h;cases h
theorem pl3 {G:Gs} (hG:AE (ents G)) (n:Nat):∀m,PO an (.loop q3) (dl3 G n m):=lpc hG (pc G n) [0,3,4] ⟨[3],[2],[(0,[3])]⟩ (apl [(1,6,.loop q6)] ⟨pl6 hG n n,trivial⟩) (λR st K=>by unfold dl3;split<;>rfl) λm R st K r h=>by unfold dl3 at h;split at h;exact .trans (by kernel_rfl) h;cases h
theorem ok {G:Gs} (hG:AE (ents G)) {g:Q} (hg:∀list r,g list=some r->∃n,main (R:=AT×List Ob) G n list (λr0=>some (.one (.l (.n 1) r0),[]))=some (.one (.l (.n 1) r),[])):EO (ent g):=λR xs H K r hc=>by
 simp only[ent]at hc
 split at hc
 ·obtain⟨r,j1,j2⟩:=bind_some hc
  obtain⟨n,j3⟩:=hg _ _ j1
  exact⟨_,_,j2,fnP hG an (pc G n) bd [.tmp 2] Tryz.func100 (.inl rfl) (apl [(1,3,.loop q3)] ⟨pl3 hG n n,trivial⟩) (.trans (by kernel_rfl) j3)⟩
 ·cases hc
end z2z
namespace z42
structure Gs where
 none_:Unit
noncomputable def ents (_:Gs):List Ent:=[]
noncomputable def main {R:Type} (G:Gs) (n:Nat) (s:Sg) (op:Int) (K:Tm->Bool->Option R):Option R:=
 Option.bind (ix (Sg.ops s) op) λe=>
 bif decide ((Opr.unit e)=0)then
  (K (Tm.mk 0 ByteArray.empty 0 []) false)
 else
  Option.bind (ix (Sg.ops s) op) λe2=>
  K (Tm.mk (wr ((Opr.unit e2)-1)) ByteArray.empty 0 []) true
noncomputable def pc (_:Gs) (_:Nat):Pcs:=⟨nK,nK,nK⟩
noncomputable def an:Ann:=⟨22,0,[],[],[4,5],[],[]⟩
noncomputable abbrev bd:=bodyOf Tryz.f96
theorem ok {G:Gs} (hG:AE (ents G)) {g:Q} (hg:∀s op r,g s op=some r->∃n,main (R:=AT×List Ob) G n s op (λr0 r1=>some (.tup [.agg [.i (Tm.op r0),.s (Tm.name r0),.i (Tm.sort r0),.l (.n 1) (Tm.args r0)],.one (.b r1)],[]))=some (.tup [.agg [.i (Tm.op r.1),.s (Tm.name r.1),.i (Tm.sort r.1),.l (.n 1) (Tm.args r.1)],.one (.b r.2)],[])):EO (ent g):=λR xs H K r hc=>by
 simp only[ent]at hc
 split at hc
 ·obtain⟨r,j1,j2⟩:=bind_some hc
  obtain⟨n,j3⟩:=hg _ _ _ j1
  exact⟨_,_,j2,fnP hG an (pc G n) bd [.cell 4 32,.tmp 5] Tryz.func96 (.inl rfl) (apl [] trivial) (.trans (by kernel_rfl) j3)⟩
 ·cases hc
end z42
namespace z3v
structure Gs where
 z3e:z3e.Q
noncomputable def ents (G:Gs):List Ent:=[z3e.ent G.z3e]
noncomputable def main {R:Type} (G:Gs) (n:Nat) (s:Sg) (t:Tm) (K:Int->Option R):Option R:=
 Option.bind (G.z3e (Sg.sorts s)) λr=>
 bif decide ((Tm.op t)=(-1))then
  (
  Option.bind (ix r (Tm.sort t)) λe=>
  K e
  )
 else
  Option.bind (ix (Sg.ops s) (Tm.op t)) λe2=>
  Option.bind (ix (Opr.decls e2) 0) λe3=>
  Option.bind (ix r (Dc.result e3)) λe4=>
  K e4
noncomputable def pc (_:Gs) (_:Nat):Pcs:=⟨nK,nK,nK⟩
noncomputable def an:Ann:=⟨30,0,[],[],[4],[],[]⟩
noncomputable abbrev bd:=bodyOf Tryz.f97
theorem ok {G:Gs} (hG:AE (ents G)) {g:Q} (hg:∀s t r,g s t=some r->∃n,main (R:=AT×List Ob) G n s t (λr0=>some (.one (.i r0),[]))=some (.one (.i r),[])):EO (ent g):=λR xs H K r hc=>by
 simp only[ent]at hc
 split at hc
 ·obtain⟨r,j1,j2⟩:=bind_some hc
  obtain⟨n,j3⟩:=hg _ _ _ j1
  exact⟨_,_,j2,fnP hG an (pc G n) bd [.tmp 4] Tryz.func97 (.inl rfl) (apl [] trivial) (.trans (by kernel_rfl) j3)⟩
 ·cases hc
end z3v
namespace z3w
structure Gs where
 z3w:z3w.Q
noncomputable def ents (G:Gs):List Ent:=[ent G.z3w]
noncomputable def b3 {R:Type} (G:Gs) (n:Nat) (h0:Int) (h02:ByteArray) (h03:Int) (h04:LT) (left k:Int) (nx:Int->Int->Option R) (k0:Int->Option R):Option R:=
 bif decide (k<(List.length h04:Int))then
  (
  bif decide (0<=left)then
   (
   Option.bind (ix h04 k) λe=>
   Option.bind (G.z3w (Tm.mk (Tm.op e) (Tm.name e) (Tm.sort e) (Tm.args e)) left) λr=>
   nx r (wr (k+1))
   )
  else
   k0 left
  )
 else
  k0 left
noncomputable def l3 {R:Type} (G:Gs) (n m:Nat) (h0:Int) (h02:ByteArray) (h03:Int) (h04:LT) (left k:Int) (k0:Int->Option R):Option R:=iter (λ(v:Int×Int) nx=>b3 G n h0 h02 h03 h04 v.1 v.2 (λy0 y1=>nx (y0,y1)) k0) m (left,k)
noncomputable def main {R:Type} (G:Gs) (n:Nat) (t:Tm) (left:Int) (K:Int->Option R):Option R:=
 l3 G n n (Tm.op t) (Tm.name t) (Tm.sort t) (Tm.args t) (wr (left-1)) 0
  (λleft2=>K left2)
noncomputable def dl3 (G:Gs) (n m:Nat) (R:Type) (st:St) (K:Kt R):Option R:=match st with
 |⟨[(1,.one (.i left)),(2,.one (.p 0 0)),(5,.one (.i k))],[.box [.i h0,.s h02,.i h03,.l (.n 1) h04]]⟩=>l3 G n m h0 h02 h03 h04 left k (λleft2=>K (.exit 0) ⟨[(1,.one (.i left2))],[]⟩)
 |_=>none
noncomputable def pc (G:Gs) (n:Nat):Pcs:=⟨λR id st K=>bif Nat.beq id 3 then dl3 G n n R st K else none,nK,nK⟩
noncomputable def an:Ann:=⟨27,0,[(3,[1,2,5])],[],[4],[],[]⟩
noncomputable abbrev bd:=bodyOf Tryz.f85
noncomputable abbrev q3:=nthC [1,1,0,1,0,0] bd
theorem pl3 {G:Gs} (hG:AE (ents G)) (n:Nat):∀m,PO an (.loop q3) (dl3 G n m):=lpc hG (pc G n) [1,2,5] ⟨[1],[4],[(0,[1])]⟩ (apl [] trivial) (λR st K=>by unfold dl3;split<;>rfl) λm R st K r h=>by unfold dl3 at h;split at h;exact .trans (by kernel_rfl) h;cases h
theorem ok {G:Gs} (hG:AE (ents G)) {g:Q} (hg:∀t left r,g t left=some r->∃n,main (R:=AT×List Ob) G n t left (λr0=>some (.one (.i r0),[]))=some (.one (.i r),[])):EO (ent g):=λR xs H K r hc=>by
 simp only[ent]at hc
 split at hc
 ·obtain⟨r,j1,j2⟩:=bind_some hc
  obtain⟨n,j3⟩:=hg _ _ _ j1
  exact⟨_,_,j2,fnP hG an (pc G n) bd [.tmp 4] Tryz.func85 (.inl rfl) (apl [(1,3,.loop q3)] ⟨pl3 hG n n,trivial⟩) (.trans (by kernel_rfl) j3)⟩
 ·cases hc
end z3w
namespace z2m
structure Gs where
 z2m:z2m.Q
 z36:z36.Q
noncomputable def ents (G:Gs):List Ent:=[ent G.z2m,z36.ent G.z36]
noncomputable def b3 {R:Type} (G:Gs) (n:Nat) (h0:Int) (h02:ByteArray) (h03:Int) (h04:LT) (n1 i:Int) (nx:Int->Int->Option R) (k0:Int->Option R):Option R:=
 bif decide (i<(List.length h04:Int))then
  (
  Option.bind (ix h04 i) λe=>
  Option.bind (G.z2m (Tm.mk (Tm.op e) (Tm.name e) (Tm.sort e) (Tm.args e))) λr=>
  Option.bind (G.z36 n1 r) λr2=>
  nx r2 (wr (i+1))
  )
 else
  k0 n1
noncomputable def l3 {R:Type} (G:Gs) (n m:Nat) (h0:Int) (h02:ByteArray) (h03:Int) (h04:LT) (n1 i:Int) (k0:Int->Option R):Option R:=iter (λ(v:Int×Int) nx=>b3 G n h0 h02 h03 h04 v.1 v.2 (λy0 y1=>nx (y0,y1)) k0) m (n1,i)
noncomputable def main {R:Type} (G:Gs) (n:Nat) (t:Tm) (K:Int->Option R):Option R:=
 l3 G n n (Tm.op t) (Tm.name t) (Tm.sort t) (Tm.args t) 0 0
  (λn12=>K (wr (n12+1)))
noncomputable def dl3 (G:Gs) (n m:Nat) (R:Type) (st:St) (K:Kt R):Option R:=match st with
 |⟨[(1,.one (.p 0 0)),(3,.one (.i n1)),(4,.one (.i i))],[.box [.i h0,.s h02,.i h03,.l (.n 1) h04]]⟩=>l3 G n m h0 h02 h03 h04 n1 i (λn12=>K (.exit 0) ⟨[(3,.one (.i n12))],[]⟩)
 |_=>none
noncomputable def pc (G:Gs) (n:Nat):Pcs:=⟨λR id st K=>bif Nat.beq id 3 then dl3 G n n R st K else none,nK,nK⟩
noncomputable def an:Ann:=⟨22,0,[(3,[1,3,4])],[],[2],[],[]⟩
noncomputable abbrev bd:=bodyOf Tryz.f86
noncomputable abbrev q3:=nthC [1,1,0,1,0,0] bd
theorem pl3 {G:Gs} (hG:AE (ents G)) (n:Nat):∀m,PO an (.loop q3) (dl3 G n m):=lpc hG (pc G n) [1,3,4] ⟨[3],[2],[(0,[3])]⟩ (apl [] trivial) (λR st K=>by unfold dl3;split<;>rfl) λm R st K r h=>by unfold dl3 at h;split at h;exact .trans (by kernel_rfl) h;cases h
theorem ok {G:Gs} (hG:AE (ents G)) {g:Q} (hg:∀t r,g t=some r->∃n,main (R:=AT×List Ob) G n t (λr0=>some (.one (.i r0),[]))=some (.one (.i r),[])):EO (ent g):=λR xs H K r hc=>by
 simp only[ent]at hc
 split at hc
 ·obtain⟨r,j1,j2⟩:=bind_some hc
  obtain⟨n,j3⟩:=hg _ _ j1
  exact⟨_,_,j2,fnP hG an (pc G n) bd [.tmp 2] Tryz.func86 (.inl rfl) (apl [(1,3,.loop q3)] ⟨pl3 hG n n,trivial⟩) (.trans (by kernel_rfl) j3)⟩
 ·cases hc
end z2m
namespace z41
structure Gs where
 z3w:z3w.Q
 z2m:z2m.Q
noncomputable def ents (G:Gs):List Ent:=[z3w.ent G.z3w,z2m.ent G.z2m]
noncomputable def main {R:Type} (G:Gs) (n:Nat) (t:Tm) (K:Bool->Option R):Option R:=
 Option.bind (G.z3w (Tm.mk (Tm.op t) (Tm.name t) (Tm.sort t) (Tm.args t)) 60) λr=>
 bif decide (0<=r)then
  (
  Option.bind (G.z2m (Tm.mk (Tm.op t) (Tm.name t) (Tm.sort t) (Tm.args t))) λr2=>
  K (decide (r2<=20))
  )
 else
  K false
noncomputable def pc (_:Gs) (_:Nat):Pcs:=⟨nK,nK,nK⟩
noncomputable def an:Ann:=⟨11,0,[],[],[2],[],[]⟩
noncomputable abbrev bd:=bodyOf Tryz.f40
theorem ok {G:Gs} (hG:AE (ents G)) {g:Q} (hg:∀t r,g t=some r->∃n,main (R:=AT×List Ob) G n t (λr0=>some (.one (.b r0),[]))=some (.one (.b r),[])):EO (ent g):=λR xs H K r hc=>by
 simp only[ent]at hc
 split at hc
 ·obtain⟨r,j1,j2⟩:=bind_some hc
  obtain⟨n,j3⟩:=hg _ _ j1
  exact⟨_,_,j2,fnP hG an (pc G n) bd [.tmp 2] Tryz.func40 (.inl rfl) (apl [] trivial) (.trans (by kernel_rfl) j3)⟩
 ·cases hc
end z41
namespace z3x
structure Gs where
 z3e:z3e.Q
 z3g:z3g.Q
 z42:z42.Q
 z3v:z3v.Q
 z3p:z3p.Q
 z3n:z3n.Q
 z2z:z2z.Q
 z3m:z3m.Q
 z41:z41.Q
noncomputable def ents (G:Gs):List Ent:=[z3e.ent G.z3e,z3g.ent G.z3g,z42.ent G.z42,z3v.ent G.z3v,z3p.ent G.z3p,z3n.ent G.z3n,z2z.ent G.z2z,z3m.ent G.z3m,z41.ent G.z41]
noncomputable def c15 {R:Type} (G:Gs) (n:Nat) (op:Int) (args:LT) (kinds:LI) (has:Bool) (i:Int) (h0:LB) (h02:LS) (h03:LO) (h1:Int) (h12:ByteArray) (h13:Int) (h2:LT) (h3:ByteArray) (h32:LD) (h33 h34:Bool) (h35 h4:Int) (h42:ByteArray) (h43:Int) (h44 h5:LT) (k0:LT->Option R):Option R:=
 Option.bind (ix args i) λe=>
 Option.bind (lim (h5++[(Tm.mk (Tm.op e) (Tm.name e) (Tm.sort e) (Tm.args e))])) λzs=>
 k0 zs
noncomputable def c17 {R:Type} (G:Gs) (n:Nat) (op:Int) (args:LT) (kinds:LI) (has:Bool) (i:Int) (h0:LB) (h02:LS) (h03:LO) (h1:Int) (h12:ByteArray) (h13:Int) (h2:LT) (h3:ByteArray) (h32:LD) (h33 h34:Bool) (h35 h4:Int) (h42:ByteArray) (h43:Int) (h44 h5:LT) (k0:LT->Option R):Option R:=
 bif h33 then
  (
  Option.bind (ix args i) λe=>
  bif decide ((Tm.op e)=op)then
   (
   Option.bind (ix args i) λe2=>
   Option.bind (lim (h5++(Tm.args e2))) λzs=>
   k0 zs
   )
  else
   c15 G n op args kinds has i h0 h02 h03 h1 h12 h13 h2 h3 h32 h33 h34 h35 h4 h42 h43 h44 h5
    (λh52=>k0 h52)
  )
 else
  c15 G n op args kinds has i h0 h02 h03 h1 h12 h13 h2 h3 h32 h33 h34 h35 h4 h42 h43 h44 h5
   (λh522=>k0 h522)
noncomputable def c13 {R:Type} (G:Gs) (n:Nat) (op:Int) (args:LT) (kinds:LI) (has:Bool) (i at1:Int) (h0:LB) (h02:LS) (h03:LO) (h1:Int) (h12:ByteArray) (h13:Int) (h2:LT) (h3:ByteArray) (h32:LD) (h33 h34:Bool) (h35 h4:Int) (h42:ByteArray) (h43:Int) (h44 h5:LT) (k0:Bool->Int->ByteArray->Int->LT->Option R) (k1:LT->Option R):Option R:=
 Option.bind (ix args i) λe2=>
 Option.bind (G.z3v (Sg.mk (So.mk h0 h02) h03) (Tm.mk (Tm.op e2) (Tm.name e2) (Tm.sort e2) (Tm.args e2))) λr2=>
 Option.bind (ix h32 0) λe4=>
 Option.bind (ix (Dc.args e4) at1) λe6=>
 Option.bind (ix kinds e6) λe8=>
 bif !decide (r2=e8)then
  (k0 false 0 ByteArray.empty 0 [])
 else
  bif has then
   (
   Option.bind (ix args i) λe10=>
   Option.bind (G.z3p (Tm.mk (Tm.op e10) (Tm.name e10) (Tm.sort e10) (Tm.args e10)) (Tm.mk h4 h42 h43 h44)) λr4=>
   bif r4 then
    (k1 h5)
   else
    c17 G n op args kinds has i h0 h02 h03 h1 h12 h13 h2 h3 h32 h33 h34 h35 h4 h42 h43 h44 h5
     (λh52=>k1 h52)
   )
  else
   c17 G n op args kinds has i h0 h02 h03 h1 h12 h13 h2 h3 h32 h33 h34 h35 h4 h42 h43 h44 h5
    (λh522=>k1 h522)
noncomputable def b8 {R:Type} (G:Gs) (n:Nat) (op:Int) (args:LT) (kinds:LI) (has:Bool) (h0:LB) (h02:LS) (h03:LO) (h1:Int) (h12:ByteArray) (h13:Int) (h2:LT) (h3:ByteArray) (h32:LD) (h33 h34:Bool) (h35 h4:Int) (h42:ByteArray) (h43:Int) (h44:LT) (i:Int) (h5:LT) (nx:Int->LT->Option R) (k0:Bool->Int->ByteArray->Int->LT->Option R) (k1:LT->Option R):Option R:=
 bif decide (i<(List.length args:Int))then
  (
  bif h33 then
   (
   c13 G n op args kinds has i 0 h0 h02 h03 h1 h12 h13 h2 h3 h32 h33 h34 h35 h4 h42 h43 h44 h5
    (λt7 h04 h05 h06 h07=>k0 t7 h04 h05 h06 h07)
    (λh52=>nx (wr (i+1)) h52)
   )
  else
   c13 G n op args kinds has i i h0 h02 h03 h1 h12 h13 h2 h3 h32 h33 h34 h35 h4 h42 h43 h44 h5
    (λt72 h042 h052 h062 h072=>k0 t72 h042 h052 h062 h072)
    (λh522=>nx (wr (i+1)) h522)
  )
 else
  k1 h5
noncomputable def l8 {R:Type} (G:Gs) (n m:Nat) (op:Int) (args:LT) (kinds:LI) (has:Bool) (h0:LB) (h02:LS) (h03:LO) (h1:Int) (h12:ByteArray) (h13:Int) (h2:LT) (h3:ByteArray) (h32:LD) (h33 h34:Bool) (h35 h4:Int) (h42:ByteArray) (h43:Int) (h44:LT) (i:Int) (h5:LT) (k0:Bool->Int->ByteArray->Int->LT->Option R) (k1:LT->Option R):Option R:=iter (λ(v:Int×LT) nx=>b8 G n op args kinds has h0 h02 h03 h1 h12 h13 h2 h3 h32 h33 h34 h35 h4 h42 h43 h44 v.1 v.2 (λy0 y1=>nx (y0,y1)) k0 k1) m (i,h5)
noncomputable def c25 {R:Type} (G:Gs) (n:Nat) (op:Int) (list:LT) (h0:Int) (h02:ByteArray) (h03:Int) (h1:LT) (h2:ByteArray) (h22:LD) (h23 h24:Bool) (h25:Int) (k0:Bool->ByteArray->Int->LT->Option R):Option R:=
 Option.bind (G.z3m list) λr=>
 bif !h23 then
  (
  Option.bind (G.z41 (Tm.mk op ByteArray.empty 0 r)) λr7=>
  k0 r7 ByteArray.empty 0 r
  )
 else
  bif decide ((List.length list:Int)<=7)then
   (
   Option.bind (G.z41 (Tm.mk op ByteArray.empty 0 r)) λr9=>
   k0 r9 ByteArray.empty 0 r
   )
  else
   k0 false ByteArray.empty 0 r
noncomputable def c23 {R:Type} (G:Gs) (n:Nat) (op:Int) (list:LT) (h0:Int) (h02:ByteArray) (h03:Int) (h1:LT) (h2:ByteArray) (h22:LD) (h23 h24:Bool) (h25:Int) (k0:Bool->ByteArray->Int->LT->Option R):Option R:=
 bif h24 then
  (
  Option.bind (G.z2z list) λr=>
  c25 G n op r h0 h02 h03 h1 h2 h22 h23 h24 h25
   (λt7 h05 h06 h07=>k0 t7 h05 h06 h07)
  )
 else
  c25 G n op list h0 h02 h03 h1 h2 h22 h23 h24 h25
   (λt72 h052 h062 h072=>k0 t72 h052 h062 h072)
noncomputable def c21 {R:Type} (G:Gs) (n:Nat) (op:Int) (has:Bool) (h0:Int) (h02:ByteArray) (h03:Int) (h1:LT) (h2:ByteArray) (h22:LD) (h23 h24:Bool) (h25:Int) (h3:LT) (k0:Bool->Int->ByteArray->Int->LT->Option R):Option R:=
 bif has then
  (
  bif decide ((List.length h3:Int)=1)then
   (
   Option.bind (ix h3 0) λe=>
   Option.bind (G.z3n (Tm.mk (Tm.op e) (Tm.name e) (Tm.sort e) (Tm.args e))) λr=>
   k0 true (Tm.op r) (Tm.name r) (Tm.sort r) (Tm.args r)
   )
  else
   c23 G n op h3 h0 h02 h03 h1 h2 h22 h23 h24 h25
    (λt7 h05 h06 h07=>k0 t7 op h05 h06 h07)
  )
 else
  c23 G n op h3 h0 h02 h03 h1 h2 h22 h23 h24 h25
   (λt72 h052 h062 h072=>k0 t72 op h052 h062 h072)
noncomputable def c5 {R:Type} (G:Gs) (n:Nat) (op:Int) (args:LT) (kinds:LI) (h0:LB) (h02:LS) (h03:LO) (h1:Int) (h12:ByteArray) (h13:Int) (h2:LT) (h3:ByteArray) (h32:LD) (h33 h34:Bool) (h35:Int) (k0:Bool->Int->ByteArray->Int->LT->Option R):Option R:=
 Option.bind (G.z42 (Sg.mk (So.mk h0 h02) h03) op) λr=>
 l8 G n n op args kinds r.2 h0 h02 h03 h1 h12 h13 h2 h3 h32 h33 h34 h35 (Tm.op r.1) (Tm.name r.1) (Tm.sort r.1) (Tm.args r.1) 0 []
  (λt7 h04 h05 h06 h07=>k0 t7 h04 h05 h06 h07)
  (fun h45 =>
   bif r.2 then
    (
    bif decide ((List.length h45:Int)=0)then
     (k0 true (Tm.op r.1) (Tm.name r.1) (Tm.sort r.1) (Tm.args r.1))
    else
     c21 G n op r.2 h1 h12 h13 h2 h3 h32 h33 h34 h35 h45
      (λt72 h042 h052 h062 h072=>k0 t72 h042 h052 h062 h072)
    )
   else
    c21 G n op r.2 h1 h12 h13 h2 h3 h32 h33 h34 h35 h45
     (λt73 h043 h053 h063 h073=>k0 t73 h043 h053 h063 h073)
  )
noncomputable def main {R:Type} (G:Gs) (n:Nat) (s:Sg) (op:Int) (args:LT) (K:Tm->Bool->Option R):Option R:=
 Option.bind (ix (Sg.ops s) op) λe=>
 Option.bind (G.z3e (Sg.sorts s)) λr=>
 Option.bind (G.z3g e) λr2=>
 bif !decide ((List.length args : Int) = r2) then
  (
  bif (Opr.assoc e)then
   (
   bif !(decide (2<=(List.length args:Int)))then
    (K (Tm.mk 0 ByteArray.empty 0 []) false)
   else
    c5 G n op args r (So.names (Sg.sorts s)) (So.subs (Sg.sorts s)) (Sg.ops s) 0 ByteArray.empty 0 [] (Opr.name e) (Opr.decls e) (Opr.assoc e) (Opr.comm e) (Opr.unit e)
     (λt7 h04 h05 h06 h07=>K (Tm.mk h04 h05 h06 h07) t7)
   )
  else
   K (Tm.mk 0 ByteArray.empty 0 []) false
  )
 else
  c5 G n op args r (So.names (Sg.sorts s)) (So.subs (Sg.sorts s)) (Sg.ops s) 0 ByteArray.empty 0 [] (Opr.name e) (Opr.decls e) (Opr.assoc e) (Opr.comm e) (Opr.unit e)
   (λt72 h042 h052 h062 h072=>K (Tm.mk h042 h052 h062 h072) t72)
noncomputable def dc15 (G:Gs) (n:Nat) (R:Type) (st:St) (K:Kt R):Option R:=match st with
 |⟨[(1,.one (.i op)),(2,.one (.l (.n 1) args)),(3,.one (.p 0 0)),(6,.one (.p 1 0)),(8,.one (.p 3 0)),(9,.one (.l .i kinds)),(10,.one (.p 4 0)),(11,.one (.b has)),(12,.one (.o 5)),(13,.one (.i i))],[.box [.l .s h0,.l (.n 5) h02,.l (.n 8) h03],.box [.i h1,.s h12,.i h13,.o 2],.row (.n 1) 0 h2,.box [.s h3,.l (.n 7) h32,.b h33,.b h34,.i h35],.box [.i h4,.s h42,.i h43,.l (.n 1) h44],.row (.n 1) 0 h5]⟩=>c15 G n op args kinds has i h0 h02 h03 h1 h12 h13 h2 h3 h32 h33 h34 h35 h4 h42 h43 h44 h5 (λh52=>K .normal ⟨[(1,.one (.i op)),(2,.one (.l (.n 1) args)),(3,.one (.p 0 0)),(6,.one (.p 1 0)),(8,.one (.p 3 0)),(9,.one (.l .i kinds)),(10,.one (.p 4 0)),(11,.one (.b has)),(12,.one (.o 5)),(13,.one (.i i))],[.box [.l .s h0,.l (.n 5) h02,.l (.n 8) h03],.box [.i h1,.s h12,.i h13,.o 2],.row (.n 1) 0 h2,.box [.s h3,.l (.n 7) h32,.b h33,.b h34,.i h35],.box [.i h4,.s h42,.i h43,.l (.n 1) h44],.row (.n 1) 0 h52]⟩)
 |_=>none
noncomputable def dc17 (G:Gs) (n:Nat) (R:Type) (st:St) (K:Kt R):Option R:=match st with
 |⟨[(1,.one (.i op)),(2,.one (.l (.n 1) args)),(3,.one (.p 0 0)),(6,.one (.p 1 0)),(8,.one (.p 3 0)),(9,.one (.l .i kinds)),(10,.one (.p 4 0)),(11,.one (.b has)),(12,.one (.o 5)),(13,.one (.i i))],[.box [.l .s h0,.l (.n 5) h02,.l (.n 8) h03],.box [.i h1,.s h12,.i h13,.o 2],.row (.n 1) 0 h2,.box [.s h3,.l (.n 7) h32,.b h33,.b h34,.i h35],.box [.i h4,.s h42,.i h43,.l (.n 1) h44],.row (.n 1) 0 h5]⟩=>c17 G n op args kinds has i h0 h02 h03 h1 h12 h13 h2 h3 h32 h33 h34 h35 h4 h42 h43 h44 h5 (λh52=>K .normal ⟨[(1,.one (.i op)),(2,.one (.l (.n 1) args)),(3,.one (.p 0 0)),(6,.one (.p 1 0)),(8,.one (.p 3 0)),(9,.one (.l .i kinds)),(10,.one (.p 4 0)),(11,.one (.b has)),(12,.one (.o 5)),(13,.one (.i i))],[.box [.l .s h0,.l (.n 5) h02,.l (.n 8) h03],.box [.i h1,.s h12,.i h13,.o 2],.row (.n 1) 0 h2,.box [.s h3,.l (.n 7) h32,.b h33,.b h34,.i h35],.box [.i h4,.s h42,.i h43,.l (.n 1) h44],.row (.n 1) 0 h52]⟩)
 |_=>none
noncomputable def dc13 (G:Gs) (n:Nat) (R:Type) (st:St) (K:Kt R):Option R:=match st with
 |⟨[(1,.one (.i op)),(2,.one (.l (.n 1) args)),(3,.one (.p 0 0)),(6,.one (.p 1 0)),(8,.one (.p 3 0)),(9,.one (.l .i kinds)),(10,.one (.p 4 0)),(11,.one (.b has)),(12,.one (.o 5)),(13,.one (.i i)),(14,.one (.i at1))],[.box [.l .s h0,.l (.n 5) h02,.l (.n 8) h03],.box [.i h1,.s h12,.i h13,.o 2],.row (.n 1) 0 h2,.box [.s h3,.l (.n 7) h32,.b h33,.b h34,.i h35],.box [.i h4,.s h42,.i h43,.l (.n 1) h44],.row (.n 1) 0 h5]⟩=>c13 G n op args kinds has i at1 h0 h02 h03 h1 h12 h13 h2 h3 h32 h33 h34 h35 h4 h42 h43 h44 h5 (λt7 h04 h05 h06 h07=>K .ret ⟨[(6,.one (.p 0 0)),(7,.one (.b t7))],[.box [.i h04,.s h05,.i h06,.l (.n 1) h07]]⟩) (λh52=>K .normal ⟨[(1,.one (.i op)),(2,.one (.l (.n 1) args)),(3,.one (.p 0 0)),(6,.one (.p 1 0)),(8,.one (.p 3 0)),(9,.one (.l .i kinds)),(10,.one (.p 4 0)),(11,.one (.b has)),(12,.one (.o 5)),(13,.one (.i i))],[.box [.l .s h0,.l (.n 5) h02,.l (.n 8) h03],.box [.i h1,.s h12,.i h13,.o 2],.row (.n 1) 0 h2,.box [.s h3,.l (.n 7) h32,.b h33,.b h34,.i h35],.box [.i h4,.s h42,.i h43,.l (.n 1) h44],.row (.n 1) 0 h52]⟩)
 |_=>none
noncomputable def dl8 (G:Gs) (n m:Nat) (R:Type) (st:St) (K:Kt R):Option R:=match st with
 |⟨[(1,.one (.i op)),(2,.one (.l (.n 1) args)),(3,.one (.p 0 0)),(6,.one (.p 1 0)),(8,.one (.p 3 0)),(9,.one (.l .i kinds)),(10,.one (.p 4 0)),(11,.one (.b has)),(12,.one (.o 5)),(13,.one (.i i))],[.box [.l .s h0,.l (.n 5) h02,.l (.n 8) h03],.box [.i h1,.s h12,.i h13,.o 2],.row (.n 1) 0 h2,.box [.s h3,.l (.n 7) h32,.b h33,.b h34,.i h35],.box [.i h4,.s h42,.i h43,.l (.n 1) h44],.row (.n 1) 0 h5]⟩=>l8 G n m op args kinds has h0 h02 h03 h1 h12 h13 h2 h3 h32 h33 h34 h35 h4 h42 h43 h44 i h5 (λt7 h04 h05 h06 h07=>K .ret ⟨[(6,.one (.p 0 0)),(7,.one (.b t7))],[.box [.i h04,.s h05,.i h06,.l (.n 1) h07]]⟩) (λh45=>K (.exit 0) ⟨[(1,.one (.i op)),(6,.one (.p 0 0)),(8,.one (.p 2 0)),(10,.one (.p 3 0)),(11,.one (.b has)),(12,.one (.o 4))],[.box [.i h1,.s h12,.i h13,.o 1],.row (.n 1) 0 h2,.box [.s h3,.l (.n 7) h32,.b h33,.b h34,.i h35],.box [.i h4,.s h42,.i h43,.l (.n 1) h44],.row (.n 1) 0 h45]⟩)
 |_=>none
noncomputable def dc25 (G:Gs) (n:Nat) (R:Type) (st:St) (K:Kt R):Option R:=match st with
 |⟨[(1,.one (.i op)),(6,.one (.p 0 0)),(8,.one (.p 2 0)),(12,.one (.l (.n 1) list))],[.box [.i h0,.s h02,.i h03,.o 1],.row (.n 1) 0 h1,.box [.s h2,.l (.n 7) h22,.b h23,.b h24,.i h25]]⟩=>c25 G n op list h0 h02 h03 h1 h2 h22 h23 h24 h25 (λt7 h05 h06 h07=>K .ret ⟨[(6,.one (.p 0 0)),(7,.one (.b t7))],[.box [.i op,.s h05,.i h06,.l (.n 1) h07]]⟩)
 |_=>none
noncomputable def dc23 (G:Gs) (n:Nat) (R:Type) (st:St) (K:Kt R):Option R:=match st with
 |⟨[(1,.one (.i op)),(6,.one (.p 0 0)),(8,.one (.p 2 0)),(12,.one (.l (.n 1) list))],[.box [.i h0,.s h02,.i h03,.o 1],.row (.n 1) 0 h1,.box [.s h2,.l (.n 7) h22,.b h23,.b h24,.i h25]]⟩=>c23 G n op list h0 h02 h03 h1 h2 h22 h23 h24 h25 (λt7 h05 h06 h07=>K .ret ⟨[(6,.one (.p 0 0)),(7,.one (.b t7))],[.box [.i op,.s h05,.i h06,.l (.n 1) h07]]⟩)
 |_=>none
noncomputable def dc21 (G:Gs) (n:Nat) (R:Type) (st:St) (K:Kt R):Option R:=match st with
 |⟨[(1,.one (.i op)),(6,.one (.p 0 0)),(8,.one (.p 2 0)),(11,.one (.b has)),(12,.one (.o 3))],[.box [.i h0,.s h02,.i h03,.o 1],.row (.n 1) 0 h1,.box [.s h2,.l (.n 7) h22,.b h23,.b h24,.i h25],.row (.n 1) 0 h3]⟩=>c21 G n op has h0 h02 h03 h1 h2 h22 h23 h24 h25 h3 (λt7 h04 h05 h06 h07=>K .ret ⟨[(6,.one (.p 0 0)),(7,.one (.b t7))],[.box [.i h04,.s h05,.i h06,.l (.n 1) h07]]⟩)
 |_=>none
noncomputable def dc5 (G:Gs) (n:Nat) (R:Type) (st:St) (K:Kt R):Option R:=match st with
 |⟨[(1,.one (.i op)),(2,.one (.l (.n 1) args)),(3,.one (.p 0 0)),(6,.one (.p 1 0)),(8,.one (.p 3 0)),(9,.one (.l .i kinds))],[.box [.l .s h0,.l (.n 5) h02,.l (.n 8) h03],.box [.i h1,.s h12,.i h13,.o 2],.row (.n 1) 0 h2,.box [.s h3,.l (.n 7) h32,.b h33,.b h34,.i h35]]⟩=>c5 G n op args kinds h0 h02 h03 h1 h12 h13 h2 h3 h32 h33 h34 h35 (λt7 h04 h05 h06 h07=>K .ret ⟨[(6,.one (.p 0 0)),(7,.one (.b t7))],[.box [.i h04,.s h05,.i h06,.l (.n 1) h07]]⟩)
 |_=>none
noncomputable def pc (G:Gs) (n:Nat):Pcs:=⟨λR id st K=>bif Nat.beq id 8 then dl8 G n n R st K else none,λR id st K=>bif Nat.beq id 15 then dc15 G n R st K else bif Nat.beq id 17 then dc17 G n R st K else bif Nat.beq id 13 then dc13 G n R st K else bif Nat.beq id 25 then dc25 G n R st K else bif Nat.beq id 23 then dc23 G n R st K else bif Nat.beq id 21 then dc21 G n R st K else bif Nat.beq id 5 then dc5 G n R st K else none,nK⟩
noncomputable def an:Ann:=⟨149,0,[(8,[1,2,3,6,8,9,10,11,12,13])],[(15,[1,2,3,6,8,9,10,11,12,13]),(17,[1,2,3,6,8,9,10,11,12,13]),(13,[1,2,3,6,8,9,10,11,12,13,14]),(25,[1,6,8,12]),(23,[1,6,8,12]),(21,[1,6,8,11,12]),(5,[1,2,3,6,8,9])],[6,7],[(13,⟨[([0,1,2,3,4,5,6,7,8,9,10,11,12,13,14,15,16,17],[],[])],[],[],[0,1,2,3,4,5],[]⟩),(16,⟨[([0,1,2,3,4,5,6,7,8,9],[],[])],[],[],[0,1,2,3,4,5],[]⟩),(26,⟨[([0,1,2,3,4,5,6,7,8,9,10,11,13,12,14],[13],[])],[13],[],[1,2,3],[]⟩)],[39,74,120]⟩
noncomputable abbrev bd:=bodyOf Tryz.f55
noncomputable abbrev q15:=nthC [1,1,1,1,1,1,0,1,0,0,1,0,0,1,1,1,0,1,1,1,1] bd
noncomputable abbrev q17:=nthC [1,1,1,1,1,1,0,1,0,0,1,0,0,1,1,1,0,1,1] bd
noncomputable abbrev q13:=nthC [1,1,1,1,1,1,0,1,0,0,1,0,0,1,1] bd
noncomputable abbrev q8:=nthC [1,1,1,1,1,1,0,1,0,0] bd
noncomputable abbrev q25:=nthC [1,1,1,1,1,1,1,1,1,1] bd
noncomputable abbrev q23:=nthC [1,1,1,1,1,1,1,1,1] bd
noncomputable abbrev q21:=nthC [1,1,1,1,1,1,1,1] bd
noncomputable abbrev q5:=nthC [1,1,1,1] bd
theorem pc15 {G:Gs} (hG:AE (ents G)) {n:Nat}:PO an q15 (dc15 G n):=cpc hG (pc G n) ⟨[1,2,3,6,8,9,10,11,12,13],[6,7],[(0,[1,6,8,10,11,12]),(1,[1,2,3,6,8,9,10,11,12,13]),(2,[1,2,3,6,8,9,10,11,12,13])]⟩ (apl [] trivial) λR st K r h=>by unfold dc15 at h;split at h;exact .trans (by kernel_rfl) h;cases h
theorem pc17 {G:Gs} (hG:AE (ents G)) {n:Nat}:PO an q17 (dc17 G n):=cpc hG (pc G n) ⟨[1,2,3,6,8,9,10,11,12,13],[6,7],[(0,[1,6,8,10,11,12]),(1,[1,2,3,6,8,9,10,11,12,13]),(2,[1,2,3,6,8,9,10,11,12,13])]⟩ (apl [(0,15,q15)] ⟨pc15 hG,trivial⟩) λR st K r h=>by unfold dc17 at h;split at h;exact .trans (by kernel_rfl) h;cases h
theorem pc13 {G:Gs} (hG:AE (ents G)) {n:Nat}:PO an q13 (dc13 G n):=cpc hG (pc G n) ⟨[1,2,3,6,8,9,10,11,12,13],[6,7],[(0,[1,6,8,10,11,12]),(1,[1,2,3,6,8,9,10,11,12,13])]⟩ (apl [(0,17,q17)] ⟨pc17 hG,trivial⟩) λR st K r h=>by unfold dc13 at h;split at h;exact .trans (by kernel_rfl) h;cases h
theorem pl8 {G:Gs} (hG:AE (ents G)) (n:Nat):∀m,PO an (.loop q8) (dl8 G n m):=lpc hG (pc G n) [1,2,3,6,8,9,10,11,12,13] ⟨[1,6,8,10,11,12],[6,7],[(0,[1,6,8,10,11,12])]⟩ (apl [(0,13,q13)] ⟨pc13 hG,trivial⟩) (λR st K=>by unfold dl8;split<;>rfl) λm R st K r h=>by unfold dl8 at h;split at h;exact .trans (by kernel_rfl) h;cases h
theorem pc25 {G:Gs} (hG:AE (ents G)) {n:Nat}:PO an q25 (dc25 G n):=cpc hG (pc G n) ⟨[],[6,7],[]⟩ (apl [] trivial) λR st K r h=>by unfold dc25 at h;split at h;exact .trans (by kernel_rfl) h;cases h
theorem pc23 {G:Gs} (hG:AE (ents G)) {n:Nat}:PO an q23 (dc23 G n):=cpc hG (pc G n) ⟨[],[6,7],[]⟩ (apl [(0,25,q25)] ⟨pc25 hG,trivial⟩) λR st K r h=>by unfold dc23 at h;split at h;exact .trans (by kernel_rfl) h;cases h
theorem pc21 {G:Gs} (hG:AE (ents G)) {n:Nat}:PO an q21 (dc21 G n):=cpc hG (pc G n) ⟨[],[6,7],[]⟩ (apl [(0,23,q23)] ⟨pc23 hG,trivial⟩) λR st K r h=>by unfold dc21 at h;split at h;exact .trans (by kernel_rfl) h;cases h
theorem pc5 {G:Gs} (hG:AE (ents G)) {n:Nat}:PO an q5 (dc5 G n):=cpc hG (pc G n) ⟨[],[6,7],[]⟩ (apl [(1,8,.loop q8),(0,21,q21)] ⟨pl8 hG n n,⟨pc21 hG,trivial⟩⟩) λR st K r h=>by unfold dc5 at h;split at h;exact .trans (by kernel_rfl) h;cases h
theorem ok {G:Gs} (hG:AE (ents G)) {g:Q} (hg:∀s op args r,g s op args=some r->∃n,main (R:=AT×List Ob) G n s op args (λr0 r1=>some (.tup [.agg [.i (Tm.op r0),.s (Tm.name r0),.i (Tm.sort r0),.l (.n 1) (Tm.args r0)],.one (.b r1)],[]))=some (.tup [.agg [.i (Tm.op r.1),.s (Tm.name r.1),.i (Tm.sort r.1),.l (.n 1) (Tm.args r.1)],.one (.b r.2)],[])):EO (ent g):=λR xs H K r hc=>by
 simp only[ent]at hc
 split at hc
 ·obtain⟨r,j1,j2⟩:=bind_some hc
  obtain⟨n,j3⟩:=hg _ _ _ _ j1
  exact⟨_,_,j2,fnP hG an (pc G n) bd [.cell 6 32,.tmp 7] Tryz.func55 (.inl rfl) (apl [(0,5,q5)] ⟨pc5 hG,trivial⟩) (.trans (by kernel_rfl) j3)⟩
 ·cases hc
end z3x
end Go.Proofs.YtfdkldmkbibknaaGreat.Den

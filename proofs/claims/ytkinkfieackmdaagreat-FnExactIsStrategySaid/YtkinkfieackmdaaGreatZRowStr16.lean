import Derived.Test.YtkinkfieackmdaaGreatZRowStr13
namespace Go.Proofs.YtkinkfieackmdaaGreat.Den
open Go.RowKit
set_option maxRecDepth 100000
set_option linter.unusedVariables false
namespace z52
structure Gs where
 none_:Unit
noncomputable def ents (_:Gs):List Ent:=[]
noncomputable def main {R:Type} (G:Gs) (n:Nat) (a b:Int) (K:Int->Option R):Option R:=
 bif decide (b<a)then
  (K a)
 else
  K b
noncomputable def pc (_:Gs) (_:Nat):Pcs:=⟨nK,nK,nK⟩
noncomputable def an:Ann:=⟨10,0,[],[],[4],[],[]⟩
noncomputable abbrev bd:=bodyOf Tryz.f165
theorem ok {G:Gs} (hG:AE (ents G)) {g:Q} (hg:∀a b r,g a b=some r->∃n,main (R:=AT×List Ob) G n a b (λr0=>some (.one (.i r0),[]))=some (.one (.i r),[])):EO (ent g):=λR xs H K r hc=>by
 simp only[ent]at hc
 split at hc
 ·obtain⟨r,j1,j2⟩:=bind_some hc
  obtain⟨n,j3⟩:=hg _ _ _ j1
  exact⟨_,_,j2,fnP hG an (pc G n) bd [.tmp 4] Tryz.func165 (.inl rfl) (apl [] trivial) (.trans (by kernel_rfl) j3)⟩
 ·cases hc
end z52
namespace z5m
structure Gs where
 none_:Unit
noncomputable def ents (_:Gs):List Ent:=[]
noncomputable def main {R:Type} (G:Gs) (n:Nat) (name:ByteArray) (sort:Int) (K:Tm->Option R):Option R:=
 K (Tm.mk (-1) name sort [])
noncomputable def pc (_:Gs) (_:Nat):Pcs:=⟨nK,nK,nK⟩
noncomputable def an:Ann:=⟨8,0,[],[],[4],[],[]⟩
noncomputable abbrev bd:=bodyOf Tryz.f145
theorem ok {G:Gs} (hG:AE (ents G)) {g:Q} (hg:∀name sort r,g name sort=some r->∃n,main (R:=AT×List Ob) G n name sort (λr0=>some (.agg [.i r0.op,.s r0.name,.i r0.sort,.l (.n 1) r0.args],[]))=some (.agg [.i r.op,.s r.name,.i r.sort,.l (.n 1) r.args],[])):EO (ent g):=λR xs H K r hc=>by
 simp only[ent]at hc
 split at hc
 ·obtain⟨r,j1,j2⟩:=bind_some hc
  obtain⟨n,j3⟩:=hg _ _ _ j1
  exact⟨_,_,j2,fnP hG an (pc G n) bd [.cell 4 53] Tryz.func145 (.inl rfl) (apl [] trivial) (.trans (by kernel_rfl) j3)⟩
 ·cases hc
end z5m
namespace z43
structure Gs where
 z43:z43.Q
noncomputable def ents (G:Gs):List Ent:=[ent G.z43]
noncomputable def b14 {R:Type} (G:Gs) (n:Nat) (h0:Int) (h02:ByteArray) (h03:Int) (h04:LT) (h1:Int) (h12:ByteArray) (h13:Int) (h14:LT) (i:Int) (nx k0:Int->Option R) (k1:Option R):Option R:=
 bif decide (i<(List.length h04:Int))then
  (
  bif decide (i<(List.length h14:Int))then
   (
   Option.bind (ix h04 i) λe2=>
   Option.bind (ix h14 i) λe4=>
   Option.bind (G.z43 (Tm.mk e2.op e2.name e2.sort e2.args) (Tm.mk e4.op e4.name e4.sort e4.args)) λr2=>
   bif !decide (r2=0)then
    (k0 r2)
   else
    nx (wr (i+1))
   )
  else
   k1
  )
 else
  k1
noncomputable def l14 {R:Type} (G:Gs) (n m:Nat) (h0:Int) (h02:ByteArray) (h03:Int) (h04:LT) (h1:Int) (h12:ByteArray) (h13:Int) (h14:LT) (i:Int) (k0:Int->Option R) (k1:Option R):Option R:=iter (λ(v:Int) nx=>b14 G n h0 h02 h03 h04 h1 h12 h13 h14 v (λy0=>nx y0) k0 k1) m i
noncomputable def main {R:Type} (G:Gs) (n:Nat) (a b:Tm) (K:Int->Option R):Option R:=
 bif !decide (a.op=b.op)then
  (
  bif decide (a.op<b.op)then
   (K (-1))
  else
   K 1
  )
 else
  bif !sEq a.name b.name then
   (
   bif Abs.strLt a.name b.name then
    (K (-1))
   else
    K 1
   )
  else
   bif !decide (a.sort=b.sort)then
    (
    bif decide (a.sort<b.sort)then
     (K (-1))
    else
     K 1
    )
   else
    l14 G n n a.op a.name a.sort a.args b.op b.name b.sort b.args 0
     (λt4=>K t4)
     (
      bif decide ((List.length a.args:Int)<(List.length b.args:Int))then
       (K (-1))
      else
       bif decide ((List.length b.args:Int)<(List.length a.args:Int))then
        (K 1)
       else
        K 0
     )
noncomputable def dl14 (G:Gs) (n m:Nat) (R:Type) (st:St) (K:Kt R):Option R:=match st with
 |⟨[(2,.one (.p 0 0)),(3,.one (.p 1 0)),(5,.one (.i i))],[.box [.i h0,.s h02,.i h03,.l (.n 1) h04],.box [.i h1,.s h12,.i h13,.l (.n 1) h14]]⟩=>l14 G n m h0 h02 h03 h04 h1 h12 h13 h14 i (λt4=>K .ret ⟨[(4,.one (.i t4))],[]⟩) (K (.exit 0) ⟨[(2,.one (.p 0 0)),(3,.one (.p 1 0))],[.box [.i h0,.s h02,.i h03,.l (.n 1) h04],.box [.i h1,.s h12,.i h13,.l (.n 1) h14]]⟩)
 |_=>none
noncomputable def pc (G:Gs) (n:Nat):Pcs:=⟨λR id st K=>bif Nat.beq id 14 then dl14 G n n R st K else none,nK,nK⟩
noncomputable def an:Ann:=⟨79,0,[(14,[2,3,5])],[],[4],[(16,⟨[([0,1,2,3,4,5,6,7,8,9,10,11],[],[])],[],[],[0,1],[]⟩)],[]⟩
noncomputable abbrev bd:=bodyOf Tryz.f104
noncomputable abbrev q14:=nthC [1,1,1,1,0,1,0,0] bd
theorem pl14 {G:Gs} (hG:AE (ents G)) (n:Nat):∀m,PO an (.loop q14) (dl14 G n m):=lpc hG (pc G n) [2,3,5] ⟨[2,3],[4],[(0,[2,3])]⟩ (apl [] trivial) (λR st K=>by unfold dl14;split<;>rfl) λm R st K r h=>by unfold dl14 at h;split at h;exact .trans (by kernel_rfl) h;cases h
theorem ok {G:Gs} (hG:AE (ents G)) {g:Q} (hg:∀a b r,g a b=some r->∃n,main (R:=AT×List Ob) G n a b (λr0=>some (.one (.i r0),[]))=some (.one (.i r),[])):EO (ent g):=λR xs H K r hc=>by
 simp only[ent]at hc
 split at hc
 ·obtain⟨r,j1,j2⟩:=bind_some hc
  obtain⟨n,j3⟩:=hg _ _ _ j1
  exact⟨_,_,j2,fnP hG an (pc G n) bd [.tmp 4] Tryz.func104 (.inl rfl) (apl [(1,14,.loop q14)] ⟨pl14 hG n n,trivial⟩) (.trans (by kernel_rfl) j3)⟩
 ·cases hc
end z43
namespace z5l
structure Gs where
 z43:z43.Q
noncomputable def ents (G:Gs):List Ent:=[z43.ent G.z43]
noncomputable def main {R:Type} (G:Gs) (n:Nat) (a b:Tm) (K:Bool->Option R):Option R:=
 Option.bind (G.z43 (Tm.mk a.op a.name a.sort a.args) (Tm.mk b.op b.name b.sort b.args)) λr=>
 K (decide (r=0))
noncomputable def pc (_:Gs) (_:Nat):Pcs:=⟨nK,nK,nK⟩
noncomputable def an:Ann:=⟨9,0,[],[],[4],[],[]⟩
noncomputable abbrev bd:=bodyOf Tryz.f62
theorem ok {G:Gs} (hG:AE (ents G)) {g:Q} (hg:∀a b r,g a b=some r->∃n,main (R:=AT×List Ob) G n a b (λr0=>some (.one (.b r0),[]))=some (.one (.b r),[])):EO (ent g):=λR xs H K r hc=>by
 simp only[ent]at hc
 split at hc
 ·obtain⟨r,j1,j2⟩:=bind_some hc
  obtain⟨n,j3⟩:=hg _ _ _ j1
  exact⟨_,_,j2,fnP hG an (pc G n) bd [.tmp 4] Tryz.func62 (.inl rfl) (apl [] trivial) (.trans (by kernel_rfl) j3)⟩
 ·cases hc
end z5l
namespace z5i
noncomputable abbrev bd:=bodyOf Tryz.f183
noncomputable abbrev q3:=nthC [1,1,0,1,0,0] bd
end z5i
namespace z5g
noncomputable abbrev bd:=bodyOf Tryz.f185
noncomputable abbrev q3:=nthC [1,1,0,1,0,0] bd
end z5g
namespace z4r
noncomputable abbrev bd:=bodyOf Tryz.f184
noncomputable abbrev q6:=nthC [1,1,0,1,0,0,1,0,0,1,0,0,0] bd
noncomputable abbrev q3:=nthC [1,1,0,1,0,0] bd
end z4r
namespace z5w
structure Gs where
 none_:Unit
noncomputable def ents (_:Gs):List Ent:=[]
noncomputable def main {R:Type} (G:Gs) (n:Nat) (s:Sg) (op:Int) (K:Tm->Bool->Option R):Option R:=
 Option.bind (ix s.ops op) λe=>
 bif decide (e.unit=0)then
  (K (Tm.mk 0 ByteArray.empty 0 []) false)
 else
  Option.bind (ix s.ops op) λe2=>
  K (Tm.mk (wr (e2.unit-1)) ByteArray.empty 0 []) true
noncomputable def pc (_:Gs) (_:Nat):Pcs:=⟨nK,nK,nK⟩
noncomputable def an:Ann:=⟨22,0,[],[],[4,5],[],[]⟩
noncomputable abbrev bd:=bodyOf Tryz.f176
theorem ok {G:Gs} (hG:AE (ents G)) {g:Q} (hg:∀s op r,g s op=some r->∃n,main (R:=AT×List Ob) G n s op (λr0 r1=>some (.tup [.agg [.i r0.op,.s r0.name,.i r0.sort,.l (.n 1) r0.args],.one (.b r1)],[]))=some (.tup [.agg [.i r.1.op,.s r.1.name,.i r.1.sort,.l (.n 1) r.1.args],.one (.b r.2)],[])):EO (ent g):=λR xs H K r hc=>by
 simp only[ent]at hc
 split at hc
 ·obtain⟨r,j1,j2⟩:=bind_some hc
  obtain⟨n,j3⟩:=hg _ _ _ j1
  exact⟨_,_,j2,fnP hG an (pc G n) bd [.cell 4 53,.tmp 5] Tryz.func176 (.inl rfl) (apl [] trivial) (.trans (by kernel_rfl) j3)⟩
 ·cases hc
end z5w
namespace z5p
structure Gs where
 z5a:z5a.Q
noncomputable def ents (G:Gs):List Ent:=[z5a.ent G.z5a]
noncomputable def main {R:Type} (G:Gs) (n:Nat) (s:Sg) (t:Tm) (K:Int->Option R):Option R:=
 Option.bind (G.z5a s.sorts) λr=>
 bif decide (t.op=(-1))then
  (
  Option.bind (ix r t.sort) λe=>
  K e
  )
 else
  Option.bind (ix s.ops t.op) λe2=>
  Option.bind (ix e2.decls 0) λe3=>
  Option.bind (ix r e3.result) λe4=>
  K e4
noncomputable def pc (_:Gs) (_:Nat):Pcs:=⟨nK,nK,nK⟩
noncomputable def an:Ann:=⟨30,0,[],[],[4],[],[]⟩
noncomputable abbrev bd:=bodyOf Tryz.f139
theorem ok {G:Gs} (hG:AE (ents G)) {g:Q} (hg:∀s t r,g s t=some r->∃n,main (R:=AT×List Ob) G n s t (λr0=>some (.one (.i r0),[]))=some (.one (.i r),[])):EO (ent g):=λR xs H K r hc=>by
 simp only[ent]at hc
 split at hc
 ·obtain⟨r,j1,j2⟩:=bind_some hc
  obtain⟨n,j3⟩:=hg _ _ _ j1
  exact⟨_,_,j2,fnP hG an (pc G n) bd [.tmp 4] Tryz.func139 (.inl rfl) (apl [] trivial) (.trans (by kernel_rfl) j3)⟩
 ·cases hc
end z5p
namespace z5q
structure Gs where
 z5q:z5q.Q
noncomputable def ents (G:Gs):List Ent:=[ent G.z5q]
noncomputable def b3 {R:Type} (G:Gs) (n:Nat) (h0:Int) (h02:ByteArray) (h03:Int) (h04:LT) (left k:Int) (nx:Int->Int->Option R) (k0:Int->Option R):Option R:=
 bif decide (k<(List.length h04:Int))then
  (
  bif decide (0<=left)then
   (
   Option.bind (ix h04 k) λe=>
   Option.bind (G.z5q (Tm.mk e.op e.name e.sort e.args) left) λr=>
   nx r (wr (k+1))
   )
  else
   k0 left
  )
 else
  k0 left
noncomputable def l3 {R:Type} (G:Gs) (n m:Nat) (h0:Int) (h02:ByteArray) (h03:Int) (h04:LT) (left k:Int) (k0:Int->Option R):Option R:=iter (λ(v:Int×Int) nx=>b3 G n h0 h02 h03 h04 v.1 v.2 (λy0 y1=>nx (y0,y1)) k0) m (left,k)
noncomputable def main {R:Type} (G:Gs) (n:Nat) (t:Tm) (left:Int) (K:Int->Option R):Option R:=
 l3 G n n t.op t.name t.sort t.args (wr (left-1)) 0
  (λleft2=>K left2)
noncomputable def dl3 (G:Gs) (n m:Nat) (R:Type) (st:St) (K:Kt R):Option R:=match st with
 |⟨[(1,.one (.i left)),(2,.one (.p 0 0)),(5,.one (.i k))],[.box [.i h0,.s h02,.i h03,.l (.n 1) h04]]⟩=>l3 G n m h0 h02 h03 h04 left k (λleft2=>K (.exit 0) ⟨[(1,.one (.i left2))],[]⟩)
 |_=>none
noncomputable def pc (G:Gs) (n:Nat):Pcs:=⟨λR id st K=>bif Nat.beq id 3 then dl3 G n n R st K else none,nK,nK⟩
noncomputable def an:Ann:=⟨27,0,[(3,[1,2,5])],[],[4],[],[]⟩
noncomputable abbrev bd:=bodyOf Tryz.f140
noncomputable abbrev q3:=nthC [1,1,0,1,0,0] bd
theorem pl3 {G:Gs} (hG:AE (ents G)) (n:Nat):∀m,PO an (.loop q3) (dl3 G n m):=lpc hG (pc G n) [1,2,5] ⟨[1],[4],[(0,[1])]⟩ (apl [] trivial) (λR st K=>by unfold dl3;split<;>rfl) λm R st K r h=>by unfold dl3 at h;split at h;exact .trans (by kernel_rfl) h;cases h
theorem ok {G:Gs} (hG:AE (ents G)) {g:Q} (hg:∀t left r,g t left=some r->∃n,main (R:=AT×List Ob) G n t left (λr0=>some (.one (.i r0),[]))=some (.one (.i r),[])):EO (ent g):=λR xs H K r hc=>by
 simp only[ent]at hc
 split at hc
 ·obtain⟨r,j1,j2⟩:=bind_some hc
  obtain⟨n,j3⟩:=hg _ _ _ j1
  exact⟨_,_,j2,fnP hG an (pc G n) bd [.tmp 4] Tryz.func140 (.inl rfl) (apl [(1,3,.loop q3)] ⟨pl3 hG n n,trivial⟩) (.trans (by kernel_rfl) j3)⟩
 ·cases hc
end z5q
namespace z47
structure Gs where
 z47:z47.Q
 z52:z52.Q
noncomputable def ents (G:Gs):List Ent:=[ent G.z47,z52.ent G.z52]
noncomputable def b3 {R:Type} (G:Gs) (n:Nat) (h0:Int) (h02:ByteArray) (h03:Int) (h04:LT) (n1 i:Int) (nx:Int->Int->Option R) (k0:Int->Option R):Option R:=
 bif decide (i<(List.length h04:Int))then
  (
  Option.bind (ix h04 i) λe=>
  Option.bind (G.z47 (Tm.mk e.op e.name e.sort e.args)) λr=>
  Option.bind (G.z52 n1 r) λr2=>
  nx r2 (wr (i+1))
  )
 else
  k0 n1
noncomputable def l3 {R:Type} (G:Gs) (n m:Nat) (h0:Int) (h02:ByteArray) (h03:Int) (h04:LT) (n1 i:Int) (k0:Int->Option R):Option R:=iter (λ(v:Int×Int) nx=>b3 G n h0 h02 h03 h04 v.1 v.2 (λy0 y1=>nx (y0,y1)) k0) m (n1,i)
noncomputable def main {R:Type} (G:Gs) (n:Nat) (t:Tm) (K:Int->Option R):Option R:=
 l3 G n n t.op t.name t.sort t.args 0 0
  (λn12=>K (wr (n12+1)))
noncomputable def dl3 (G:Gs) (n m:Nat) (R:Type) (st:St) (K:Kt R):Option R:=match st with
 |⟨[(1,.one (.p 0 0)),(3,.one (.i n1)),(4,.one (.i i))],[.box [.i h0,.s h02,.i h03,.l (.n 1) h04]]⟩=>l3 G n m h0 h02 h03 h04 n1 i (λn12=>K (.exit 0) ⟨[(3,.one (.i n12))],[]⟩)
 |_=>none
noncomputable def pc (G:Gs) (n:Nat):Pcs:=⟨λR id st K=>bif Nat.beq id 3 then dl3 G n n R st K else none,nK,nK⟩
noncomputable def an:Ann:=⟨22,0,[(3,[1,3,4])],[],[2],[],[]⟩
noncomputable abbrev bd:=bodyOf Tryz.f141
noncomputable abbrev q3:=nthC [1,1,0,1,0,0] bd
theorem pl3 {G:Gs} (hG:AE (ents G)) (n:Nat):∀m,PO an (.loop q3) (dl3 G n m):=lpc hG (pc G n) [1,3,4] ⟨[3],[2],[(0,[3])]⟩ (apl [] trivial) (λR st K=>by unfold dl3;split<;>rfl) λm R st K r h=>by unfold dl3 at h;split at h;exact .trans (by kernel_rfl) h;cases h
theorem ok {G:Gs} (hG:AE (ents G)) {g:Q} (hg:∀t r,g t=some r->∃n,main (R:=AT×List Ob) G n t (λr0=>some (.one (.i r0),[]))=some (.one (.i r),[])):EO (ent g):=λR xs H K r hc=>by
 simp only[ent]at hc
 split at hc
 ·obtain⟨r,j1,j2⟩:=bind_some hc
  obtain⟨n,j3⟩:=hg _ _ j1
  exact⟨_,_,j2,fnP hG an (pc G n) bd [.tmp 2] Tryz.func141 (.inl rfl) (apl [(1,3,.loop q3)] ⟨pl3 hG n n,trivial⟩) (.trans (by kernel_rfl) j3)⟩
 ·cases hc
end z47
namespace z5v
structure Gs where
 z5q:z5q.Q
 z47:z47.Q
noncomputable def ents (G:Gs):List Ent:=[z5q.ent G.z5q,z47.ent G.z47]
noncomputable def main {R:Type} (G:Gs) (n:Nat) (t:Tm) (K:Bool->Option R):Option R:=
 Option.bind (G.z5q (Tm.mk t.op t.name t.sort t.args) 60) λr=>
 bif decide (0<=r)then
  (
  Option.bind (G.z47 (Tm.mk t.op t.name t.sort t.args)) λr2=>
  K (decide (r2<=20))
  )
 else
  K false
noncomputable def pc (_:Gs) (_:Nat):Pcs:=⟨nK,nK,nK⟩
noncomputable def an:Ann:=⟨11,0,[],[],[2],[],[]⟩
noncomputable abbrev bd:=bodyOf Tryz.f101
theorem ok {G:Gs} (hG:AE (ents G)) {g:Q} (hg:∀t r,g t=some r->∃n,main (R:=AT×List Ob) G n t (λr0=>some (.one (.b r0),[]))=some (.one (.b r),[])):EO (ent g):=λR xs H K r hc=>by
 simp only[ent]at hc
 split at hc
 ·obtain⟨r,j1,j2⟩:=bind_some hc
  obtain⟨n,j3⟩:=hg _ _ j1
  exact⟨_,_,j2,fnP hG an (pc G n) bd [.tmp 2] Tryz.func101 (.inl rfl) (apl [] trivial) (.trans (by kernel_rfl) j3)⟩
 ·cases hc
end z5v
namespace z5r
noncomputable abbrev bd:=bodyOf Tryz.f166
noncomputable abbrev q15:=nthC [1,1,1,1,1,1,0,1,0,0,1,0,0,1,1,1,0,1,1,1,1] bd
noncomputable abbrev q13:=nthC [1,1,1,1,1,1,0,1,0,0,1,0,0,1,1] bd
noncomputable abbrev q8:=nthC [1,1,1,1,1,1,0,1,0,0] bd
noncomputable abbrev q23:=nthC [1,1,1,1,1,1,1,1,1] bd
noncomputable abbrev q5:=nthC [1,1,1,1] bd
end z5r
end Go.Proofs.YtkinkfieackmdaaGreat.Den

import Derived.Test.YtfdkldmkbibknaaGreatZRowTx12
namespace Go.Proofs.YtfdkldmkbibknaaGreat.Den
open Go.RowKit
set_option maxRecDepth 100000
set_option linter.unusedVariables false
namespace z11
structure Gs where
 z0b:z0b.Q
 z12:z12.Q
noncomputable def main {R:Type} (G:Gs) (n:Nat) (s:Sg) (K:(Option (LI×LI×LI×LB×LS×LO×LM))->Option R):Option R:=
 (G.z0b s).bind λr=>
 bif !r then
  (K none)
 else
  (G.z12 s.sorts).bind λr2=>
  K (some (r2.1.above,r2.1.below,r2.1.kind,s.sorts.names,s.sorts.subs,s.ops,[]))
theorem ok {G:Gs} (hG:AE [z0b.ent G.z0b,z12.ent G.z12]) {g:Q} (hg:∀s r,g s=some r->∃n,main (R:=AT×List Ob) G n s (λr=>sj r (some (.tup [.one (.z),.one (.b false)],[])) (λq=>(some (.tup [.one (.p 0 0),.one (.b true)],[.box [.l .i q.1,.l .i q.2.1,.l .i q.2.2.1,.l .s q.2.2.2.1,.l (.n 5) q.2.2.2.2.1,.l (.n 8) q.2.2.2.2.2.1,.m 1],.map .i q.2.2.2.2.2.2]))))=sj r (some (.tup [.one (.z),.one (.b false)],[])) (λq=>(some (.tup [.one (.p 0 0),.one (.b true)],[.box [.l .i q.1,.l .i q.2.1,.l .i q.2.2.1,.l .s q.2.2.2.1,.l (.n 5) q.2.2.2.2.1,.l (.n 8) q.2.2.2.2.2.1,.m 1],.map .i q.2.2.2.2.2.2])))):EO (ent g):=λR xs H K r hc=>by
 simp only[ent]at hc;split at hc
 ·obtain⟨r,j1,j2⟩:=bind_some hc;obtain⟨n,j3⟩:=hg _ _ j1;cases r with
  |none=>exact⟨_,_,j2,fR hG ⟨20,0,[],[],[2,3],[],[]⟩ nP Tryz.func26 j3⟩
  |some q=>exact⟨_,_,j2,fR hG ⟨20,0,[],[],[2,3],[],[]⟩ nP Tryz.func26 j3⟩
 ·cases hc
end z11
namespace z0p
structure Gs where
 none_:Unit
noncomputable def main {R:Type} (G:Gs) (n:Nat) (xc xd xe:LI) (xa:LB) (xb:LS) (xg:LO) (xf:LM) (t:Tm) (K:Int->LM->Option R):Option R:=
 bif decide (t.op<0)then
  (
  (ix xe t.sort).bind λe2=>
  K e2 xf
  )
 else
  (ix xg t.op).bind λe4=>
  (ix e4.decls 0).bind λe6=>
  (ix xe e6.result).bind λe8=>
  K e8 xf
theorem ok {G:Gs} (hG:AE []) {g:Q} (hg:∀xc xd xe xa xb xg xf t r,g xc xd xe xa xb xg xf t=some r->∃n,main (R:=AT×List Ob) G n xc xd xe xa xb xg xf t (λr0 r1=>some (.one (.i r0),[.box [.l .i xc,.l .i xd,.l .i xe,.l .s xa,.l (.n 5) xb,.l (.n 8) xg,.m 1],.map .i r1]))=some (.one (.i r.1),[.box [.l .i xc,.l .i xd,.l .i xe,.l .s xa,.l (.n 5) xb,.l (.n 8) xg,.m 1],.map .i r.2])):EO (ent g):=λR xs H K r hc=>by
 simp only[ent]at hc;split at hc
 ·exact okL hc λr j=>let⟨_,j⟩:=hg _ _ _ _ _ _ _ _ _ j;fF hG ⟨37,2,[],[],[4],[(2,⟨[([0,1,2,3,4,5,6,7,8,9],[],[])],[],[],[0,1,2],[]⟩),(3,⟨[([0,1,2,3,4,5,6,7,8,9,10,11,12,13,14,15,16,17,18,19,20],[],[])],[],[],[0,1,2],[]⟩)],[]⟩ nP Tryz.func112 j
 ·cases hc
end z0p
namespace z0j
structure Gs where
 none_:Unit
noncomputable def ac (_:Gs):List Ent:=[]
noncomputable def c4 {R:Type} (G:Gs) (n:Nat) (xc xd xe:LI) (xa:LB) (xb:LS) (xg:LO) (at1:Int) (h1:LM) (h2:ByteArray) (h22:LD) (h23 h24:Bool) (h25:Int) (k0:Int->Option R):Option R:=
 (ix h22 0).bind λe2=>
 (ix e2.args at1).bind λe4=>
 (ix xe e4).bind λe6=>
 k0 e6
noncomputable def main {R:Type} (G:Gs) (n:Nat) (xc xd xe:LI) (xa:LB) (xb:LS) (xg:LO) (xf:LM) (op at1:Int) (K:Int->LM->Option R):Option R:=
 (ix xg op).bind λe=>
 bif e.assoc then
  (
  c4 G n xc xd xe xa xb xg 0 xf e.name e.decls e.assoc e.comm e.unit
   (λt6=>K t6 xf)
  )
 else
  c4 G n xc xd xe xa xb xg at1 xf e.name e.decls e.assoc e.comm e.unit
   (λt62=>K t62 xf)
noncomputable def dc4 (G:Gs) (n:Nat) (R:Type) (st:St) (K:Kt R):Option R:=match st with
 |⟨[(0,.one (.p 0 0)),(2,.one (.i at1)),(7,.one (.p 2 0))],[.box [.l .i xc,.l .i xd,.l .i xe,.l .s xa,.l (.n 5) xb,.l (.n 8) xg,.m 1],.map .i h1,.box [.s h2,.l (.n 7) h22,.b h23,.b h24,.i h25]]⟩=>c4 G n xc xd xe xa xb xg at1 h1 h2 h22 h23 h24 h25 (λt6=>K .ret ⟨[(6,.one (.i t6))],[.box [.l .i xc,.l .i xd,.l .i xe,.l .s xa,.l (.n 5) xb,.l (.n 8) xg,.m 1],.map .i h1]⟩)
 |_=>none
noncomputable def pc (G:Gs) (n:Nat):Pcs:=⟨nK,λR id st K=>bif Nat.beq id 4 then dc4 G n R st K else none,nK⟩
noncomputable def an:Ann:=⟨33,2,[],[(4,[0,2,7])],[6],[(4,⟨[([0,1,2,3,4,5,6,7,8,9,10,11,12,13,14,15],[],[])],[],[],[0,1,2],[]⟩)],[]⟩
noncomputable abbrev bd:=aj Tryz.f113
noncomputable abbrev q4:=ak [1,1,1] bd
theorem pc4 {G:Gs} (hG:AE (ac G)) {n:Nat}:PO an q4 (dc4 G n):=cpc hG (pc G n) ⟨[],[6],[]⟩ (apl [] trivial) λR st K r h=>by unfold dc4 at h;split at h;exact .trans (by kernel_rfl) h;cases h
theorem ok {G:Gs} (hG:AE (ac G)) {g:Q} (hg:∀xc xd xe xa xb xg xf op at1 r,g xc xd xe xa xb xg xf op at1=some r->∃n,main (R:=AT×List Ob) G n xc xd xe xa xb xg xf op at1 (λr0 r1=>some (.one (.i r0),[.box [.l .i xc,.l .i xd,.l .i xe,.l .s xa,.l (.n 5) xb,.l (.n 8) xg,.m 1],.map .i r1]))=some (.one (.i r.1),[.box [.l .i xc,.l .i xd,.l .i xe,.l .s xa,.l (.n 5) xb,.l (.n 8) xg,.m 1],.map .i r.2])):EO (ent g):=λR xs H K r hc=>by
 simp only[ent]at hc;split at hc
 ·exact okL hc λr j=>let⟨n,j⟩:=hg _ _ _ _ _ _ _ _ _ _ j;fF hG an (pc G n) Tryz.func113 j (apl [(0,4,q4)] ⟨pc4 hG,trivial⟩)
 ·cases hc
end z0j
namespace z0n
structure Gs where
 none_:Unit
noncomputable def main {R:Type} (G:Gs) (n:Nat) (xc xd xe:LI) (xa:LB) (xb:LS) (xg:LO) (xf:LM) (op:Int) (t:Tm) (K:Bool->LM->Option R):Option R:=
 (ix xg op).bind λe2=>
 bif !decide (e2.unit=0)then
  (
  (ix xg op).bind λe4=>
  K (decide (t.op=(wr (e4.unit-1)))) xf
  )
 else
  K false xf
theorem ok {G:Gs} (hG:AE []) {g:Q} (hg:∀xc xd xe xa xb xg xf op t r,g xc xd xe xa xb xg xf op t=some r->∃n,main (R:=AT×List Ob) G n xc xd xe xa xb xg xf op t (λr0 r1=>some (.one (.b r0),[.box [.l .i xc,.l .i xd,.l .i xe,.l .s xa,.l (.n 5) xb,.l (.n 8) xg,.m 1],.map .i r1]))=some (.one (.b r.1),[.box [.l .i xc,.l .i xd,.l .i xe,.l .s xa,.l (.n 5) xb,.l (.n 8) xg,.m 1],.map .i r.2])):EO (ent g):=λR xs H K r hc=>by
 simp only[ent]at hc;split at hc
 ·exact okL hc λr j=>let⟨_,j⟩:=hg _ _ _ _ _ _ _ _ _ _ j;fF hG ⟨32,2,[],[],[6],[(1,⟨[([0,1,2,3,4,5,6,7,8,9,10,11,12,13,14,15,16,17,18,19,20,21,22,23,24,25],[],[])],[],[],[0,1,2],[]⟩)],[]⟩ nP Tryz.func114 j
 ·cases hc
end z0n
namespace z0q
structure Gs where
 none_:Unit
noncomputable def main {R:Type} (G:Gs) (n:Nat) (xc xd xe:LI) (xa:LB) (xb:LS) (xg:LO) (xf:LM) (op:Int) (K:Tm->LM->Option R):Option R:=
 (ix xg op).bind λe=>
 K (Tm.mk (wr (e.unit-1)) ByteArray.empty 0 []) xf
theorem ok {G:Gs} (hG:AE []) {g:Q} (hg:∀xc xd xe xa xb xg xf op r,g xc xd xe xa xb xg xf op=some r->∃n,main (R:=AT×List Ob) G n xc xd xe xa xb xg xf op (λr0 r1=>some (.agg [.i r0.op,.s r0.name,.i r0.sort,.l (.n 1) r0.args],[.box [.l .i xc,.l .i xd,.l .i xe,.l .s xa,.l (.n 5) xb,.l (.n 8) xg,.m 1],.map .i r1]))=some (.agg [.i r.1.op,.s r.1.name,.i r.1.sort,.l (.n 1) r.1.args],[.box [.l .i xc,.l .i xd,.l .i xe,.l .s xa,.l (.n 5) xb,.l (.n 8) xg,.m 1],.map .i r.2])):EO (ent g):=λR xs H K r hc=>by
 simp only[ent]at hc;split at hc
 ·exact okL hc λr j=>let⟨_,j⟩:=hg _ _ _ _ _ _ _ _ _ j;fF hG ⟨16,2,[],[],[4],[],[]⟩ nP Tryz.func115 j
 ·cases hc
end z0q
namespace z0o
structure Gs where
 z09:z09.Q
 z13:z13.Q
noncomputable def main {R:Type} (G:Gs) (n:Nat) (xc xd xe:LI) (xa:LB) (xb:LS) (xg:LO) (xf:LM) (t:Tm) (K:Bool->LM->Option R):Option R:=
 bif decide (t.op=(-1))then
  (
  (G.z09 t.name).bind λr2=>
  bif r2 then
   (
   (G.z13 (Od.mk xc xd xe) t.sort).bind λr4=>
   bif r4 then
    (K (decide ((List.length t.args:Int)=0)) xf)
   else
    K false xf
   )
  else
   K false xf
  )
 else
  K false xf
theorem ok {G:Gs} (hG:AE [z09.ent G.z09,z13.ent G.z13]) {g:Q} (hg:∀xc xd xe xa xb xg xf t r,g xc xd xe xa xb xg xf t=some r->∃n,main (R:=AT×List Ob) G n xc xd xe xa xb xg xf t (λr0 r1=>some (.one (.b r0),[.box [.l .i xc,.l .i xd,.l .i xe,.l .s xa,.l (.n 5) xb,.l (.n 8) xg,.m 1],.map .i r1]))=some (.one (.b r.1),[.box [.l .i xc,.l .i xd,.l .i xe,.l .s xa,.l (.n 5) xb,.l (.n 8) xg,.m 1],.map .i r.2])):EO (ent g):=λR xs H K r hc=>by
 simp only[ent]at hc;split at hc
 ·exact okL hc λr j=>let⟨_,j⟩:=hg _ _ _ _ _ _ _ _ _ j;fF hG ⟨28,2,[],[],[4],[(1,⟨[([0,1,2,3,4,5,6,7,8,9,10,11,12,13,14,15,16,17,18,19,20,21,22,23],[],[])],[],[],[0,1,2],[]⟩)],[]⟩ nP Tryz.func64 j
 ·cases hc
end z0o
namespace z0h
structure Gs where
 z0h:z0h.Q
noncomputable def ac (G:Gs):List Ent:=[ent G.z0h]
noncomputable def b3 {R:Type} (G:Gs) (n:Nat) (t7:LT) (t8 n1 t9:Int) (nx:Int->Int->Option R) (k0:Int->Option R):Option R:=
 bif decide (t9<t8)then
  (
  (ix t7 t9).bind λe=>
  (G.z0h (Tm.mk e.op e.name e.sort e.args)).bind λr=>
  nx (wr (n1+r)) (wr (t9+1))
  )
 else
  k0 n1
noncomputable def l3 {R:Type} (G:Gs) (n m:Nat) (t7:LT) (t8 n1 t9:Int) (k0:Int->Option R):Option R:=aB (λ(v:Int×Int) nx=>b3 G n t7 t8 v.1 v.2 (λy0 y1=>nx (y0,y1)) k0) m (n1,t9)
noncomputable def main {R:Type} (G:Gs) (n:Nat) (t:Tm) (K:Int->Option R):Option R:=
 l3 G n n t.args (List.length t.args:Int) 1 0
  (λn12=>K n12)
noncomputable def dl3 (G:Gs) (n m:Nat) (R:Type) (st:St) (K:Kt R):Option R:=match st with
 |⟨[(3,.one (.i n1)),(7,.one (.l (.n 1) t7)),(8,.one (.i t8)),(9,.one (.i t9))],[]⟩=>l3 G n m t7 t8 n1 t9 (λn12=>K (.exit 0) ⟨[(3,.one (.i n12))],[]⟩)
 |_=>none
noncomputable def pc (G:Gs) (n:Nat):Pcs:=⟨λR id st K=>bif Nat.beq id 3 then dl3 G n n R st K else none,nK,nK⟩
noncomputable def an:Ann:=⟨19,0,[(3,[3,7,8,9])],[],[2],[],[]⟩
noncomputable abbrev bd:=aj Tryz.f81
noncomputable abbrev q3:=ak [1,1,0,1,0,0] bd
theorem pl3 {G:Gs} (hG:AE (ac G)) (n:Nat):∀m,PO an (.loop q3) (dl3 G n m):=lpc hG (pc G n) [3,7,8,9] ⟨[3],[2],[(0,[3])]⟩ (apl [] trivial) (λR st K=>by unfold dl3;split<;>rfl) λm R st K r h=>by unfold dl3 at h;split at h;exact .trans (by kernel_rfl) h;cases h
theorem ok {G:Gs} (hG:AE (ac G)) {g:Q} (hg:∀t r,g t=some r->∃n,main (R:=AT×List Ob) G n t (λr0=>some (.one (.i r0),[]))=some (.one (.i r),[])):EO (ent g):=λR xs H K r hc=>by
 simp only[ent]at hc;split at hc
 ·exact okL hc λr j=>let⟨n,j⟩:=hg _ _ j;fF hG an (pc G n) Tryz.func81 j (apl [(1,3,.loop q3)] ⟨pl3 hG n n,trivial⟩)
 ·cases hc
end z0h
namespace z06
structure Gs where
 z06:z06.Q
noncomputable def ac (G:Gs):List Ent:=[ent G.z06]
noncomputable def b3 {R:Type} (G:Gs) (n:Nat) (t7:LT) (t8 n1 t9:Int) (nx:Int->Int->Option R) (k0:Int->Option R):Option R:=
 bif decide (t9<t8)then
  (
  (ix t7 t9).bind λe=>
  (G.z06 (Tm.mk e.op e.name e.sort e.args)).bind λr=>
  nx (mg n1 r) (wr (t9+1))
  )
 else
  k0 n1
noncomputable def l3 {R:Type} (G:Gs) (n m:Nat) (t7:LT) (t8 n1 t9:Int) (k0:Int->Option R):Option R:=aB (λ(v:Int×Int) nx=>b3 G n t7 t8 v.1 v.2 (λy0 y1=>nx (y0,y1)) k0) m (n1,t9)
noncomputable def main {R:Type} (G:Gs) (n:Nat) (t:Tm) (K:Int->Option R):Option R:=
 l3 G n n t.args (List.length t.args:Int) 0 0
  (λn12=>K (wr (n12+1)))
noncomputable def dl3 (G:Gs) (n m:Nat) (R:Type) (st:St) (K:Kt R):Option R:=match st with
 |⟨[(3,.one (.i n1)),(7,.one (.l (.n 1) t7)),(8,.one (.i t8)),(9,.one (.i t9))],[]⟩=>l3 G n m t7 t8 n1 t9 (λn12=>K (.exit 0) ⟨[(3,.one (.i n12))],[]⟩)
 |_=>none
noncomputable def pc (G:Gs) (n:Nat):Pcs:=⟨λR id st K=>bif Nat.beq id 3 then dl3 G n n R st K else none,nK,nK⟩
noncomputable def an:Ann:=⟨20,0,[(3,[3,7,8,9])],[],[2],[],[]⟩
noncomputable abbrev bd:=aj Tryz.f82
noncomputable abbrev q3:=ak [1,1,0,1,0,0] bd
theorem pl3 {G:Gs} (hG:AE (ac G)) (n:Nat):∀m,PO an (.loop q3) (dl3 G n m):=lpc hG (pc G n) [3,7,8,9] ⟨[3],[2],[(0,[3])]⟩ (apl [] trivial) (λR st K=>by unfold dl3;split<;>rfl) λm R st K r h=>by unfold dl3 at h;split at h;exact .trans (by kernel_rfl) h;cases h
theorem ok {G:Gs} (hG:AE (ac G)) {g:Q} (hg:∀t r,g t=some r->∃n,main (R:=AT×List Ob) G n t (λr0=>some (.one (.i r0),[]))=some (.one (.i r),[])):EO (ent g):=λR xs H K r hc=>by
 simp only[ent]at hc;split at hc
 ·exact okL hc λr j=>let⟨n,j⟩:=hg _ _ j;fF hG an (pc G n) Tryz.func82 j (apl [(1,3,.loop q3)] ⟨pl3 hG n n,trivial⟩)
 ·cases hc
end z06
namespace z03
structure Gs where
 none_:Unit
noncomputable def main {R:Type} (G:Gs) (n:Nat) (x:Int) (K:Bool->Option R):Option R:=
 K (!decide (x=x))
theorem ok {G:Gs} (hG:AE []) {g:Q} (hg:∀x r,g x=some r->∃n,main (R:=AT×List Ob) G n x (λr0=>some (.one (.b r0),[]))=some (.one (.b r),[])):EO (ent g):=λR xs H K r hc=>by
 simp only[ent]at hc;split at hc
 ·exact okL hc λr j=>let⟨_,j⟩:=hg _ _ j;fF hG ⟨6,0,[],[],[2],[],[]⟩ nP Tryz.func150 j
 ·cases hc
end z03
namespace z02
structure Gs where
 none_:Unit
noncomputable def ac (_:Gs):List Ent:=[]
noncomputable def b3 {R:Type} (G:Gs) (n:Nat) (zero:Int) (t6:LI) (t7 t8:Int) (nx k0:Int->Option R) (k1:Option R):Option R:=
 bif decide (t8<t7)then
  (
  (ix t6 t8).bind λe=>
  bif !decide (e=zero)then
   (k0 e)
  else
   nx (wr (t8+1))
  )
 else
  k1
noncomputable def l3 {R:Type} (G:Gs) (n m:Nat) (zero:Int) (t6:LI) (t7 t8:Int) (k0:Int->Option R) (k1:Option R):Option R:=aB (λ(v:Int) nx=>b3 G n zero t6 t7 v (λy0=>nx y0) k0 k1) m t8
noncomputable def main {R:Type} (G:Gs) (n:Nat) (vals:LI) (K:Int->Option R):Option R:=
 l3 G n n 0 vals (List.length vals:Int) 0
  (λt2=>K t2)
  (K 0)
noncomputable def dl3 (G:Gs) (n m:Nat) (R:Type) (st:St) (K:Kt R):Option R:=match st with
 |⟨[(3,.one (.i zero)),(6,.one (.l .i t6)),(7,.one (.i t7)),(8,.one (.i t8))],[]⟩=>l3 G n m zero t6 t7 t8 (λt2=>K .ret ⟨[(2,.one (.i t2))],[]⟩) (K (.exit 0) ⟨[(3,.one (.i zero))],[]⟩)
 |_=>none
noncomputable def pc (G:Gs) (n:Nat):Pcs:=⟨λR id st K=>bif Nat.beq id 3 then dl3 G n n R st K else none,nK,nK⟩
noncomputable def an:Ann:=⟨18,0,[(3,[3,6,7,8])],[],[2],[],[]⟩
noncomputable abbrev bd:=aj Tryz.f136
noncomputable abbrev q3:=ak [1,1,0,1,0,0] bd
theorem pl3 {G:Gs} (hG:AE (ac G)) (n:Nat):∀m,PO an (.loop q3) (dl3 G n m):=lpc hG (pc G n) [3,6,7,8] ⟨[3],[2],[(0,[3])]⟩ (apl [] trivial) (λR st K=>by unfold dl3;split<;>rfl) λm R st K r h=>by unfold dl3 at h;split at h;exact .trans (by kernel_rfl) h;cases h
theorem ok {G:Gs} (hG:AE (ac G)) {g:Q} (hg:∀vals r,g vals=some r->∃n,main (R:=AT×List Ob) G n vals (λr0=>some (.one (.i r0),[]))=some (.one (.i r),[])):EO (ent g):=λR xs H K r hc=>by
 simp only[ent]at hc;split at hc
 ·exact okL hc λr j=>let⟨n,j⟩:=hg _ _ j;fF hG an (pc G n) Tryz.func136 j (apl [(1,3,.loop q3)] ⟨pl3 hG n n,trivial⟩)
 ·cases hc
end z02
namespace z01
structure Gs where
 z03:z03.Q
noncomputable def main {R:Type} (G:Gs) (n:Nat) (x y:Int) (K:Int->Option R):Option R:=
 (G.z03 x).bind λr=>
 (G.z03 y).bind λr2=>
 bif r then
  (
  bif r2 then
   (K 0)
  else
   K (-1)
  )
 else
  bif r2 then
   (K 1)
  else
   bif decide (x<y)then
    (K (-1))
   else
    bif decide (y<x)then
     (K 1)
    else
     K 0
theorem ok {G:Gs} (hG:AE [z03.ent G.z03]) {g:Q} (hg:∀x y r,g x y=some r->∃n,main (R:=AT×List Ob) G n x y (λr0=>some (.one (.i r0),[]))=some (.one (.i r),[])):EO (ent g):=λR xs H K r hc=>by
 simp only[ent]at hc;split at hc
 ·exact okL hc λr j=>let⟨_,j⟩:=hg _ _ _ j;fF hG ⟨20,0,[],[],[4],[],[]⟩ nP Tryz.func137 j
 ·cases hc
end z01
namespace z4p
structure Gs where
 z04:z04.Q
noncomputable def ac (G:Gs):List Ent:=[z04.ent G.z04]
noncomputable def b2 {R:Type} (G:Gs) (n:Nat) (s1 s2 t11:LT) (t12 t13:Int) (nx k0:Int->Option R) (k1:Option R):Option R:=
 bif decide (t13<t12)then
  (
  (ix t11 t13).bind λe=>
  bif decide ((List.length s2:Int)<=t13)then
   (k0 1)
  else
   (ix s2 t13).bind λe2=>
   (G.z04 (Tm.mk e.op e.name e.sort e.args) (Tm.mk e2.op e2.name e2.sort e2.args)).bind λr=>
   bif !decide (r=0)then
    (k0 r)
   else
    nx (wr (t13+1))
  )
 else
  k1
noncomputable def l2 {R:Type} (G:Gs) (n m:Nat) (s1 s2 t11:LT) (t12 t13:Int) (k0:Int->Option R) (k1:Option R):Option R:=aB (λ(v:Int) nx=>b2 G n s1 s2 t11 t12 v (λy0=>nx y0) k0 k1) m t13
noncomputable def main {R:Type} (G:Gs) (n:Nat) (s1 s2:LT) (K:Int->Option R):Option R:=
 l2 G n n s1 s2 s1 (List.length s1 : Int) 0
  (λt6=>K t6)
  (
   bif decide ((List.length s1:Int)<(List.length s2:Int))then
    (K (-1))
   else
    K 0
  )
noncomputable def dl2 (G:Gs) (n m:Nat) (R:Type) (st:St) (K:Kt R):Option R:=match st with
 |⟨[(0,.one (.l (.n 1) s1)),(1,.one (.l (.n 1) s2)),(2,.one (.f 117 [])),(11,.one (.l (.n 1) t11)),(12,.one (.i t12)),(13,.one (.i t13))],[]⟩=>l2 G n m s1 s2 t11 t12 t13 (λt6=>K .ret ⟨[(6,.one (.i t6))],[]⟩) (K (.exit 0) ⟨[(0,.one (.l (.n 1) s1)),(1,.one (.l (.n 1) s2))],[]⟩)
 |_=>none
noncomputable def pc (G:Gs) (n:Nat):Pcs:=⟨λR id st K=>bif Nat.beq id 2 then dl2 G n n R st K else none,nK,nK⟩
noncomputable def an:Ann:=⟨39,0,[(2,[0,1,2,11,12,13])],[],[6],[],[]⟩
noncomputable abbrev bd:=aj Tryz.f139
noncomputable abbrev q2:=ak [1,0,1,0,0] bd
theorem pl2 {G:Gs} (hG:AE (ac G)) (n:Nat):∀m,PO an (.loop q2) (dl2 G n m):=lpc hG (pc G n) [0,1,2,11,12,13] ⟨[0,1],[6],[(0,[0,1])]⟩ (apl [] trivial) (λR st K=>by unfold dl2;split<;>rfl) λm R st K r h=>by unfold dl2 at h;split at h;exact .trans (by kernel_rfl) h;cases h
noncomputable def Does (G:Gs) (s1 s2:LT) (r:Int):Prop:=∃n,main (R:=AT×List Ob) G n s1 s2 (λr0=>some (.one (.i r0),[]))=some (.one (.i r),[])
theorem ok {G:Gs} (hG:AE (ac G)) {g:Q} (hg:∀s1 s2 r,g s1 s2=some r->Does G s1 s2 r):EO (ent g):=λR xs H K r hc=>by
 simp only[ent]at hc;split at hc
 ·exact okL hc λr j=>let⟨n,j⟩:=hg _ _ _ j;fF hG an (pc G n) Tryz.func139 j (apl [(1,2,.loop q2)] ⟨pl2 hG n n,trivial⟩)
 ·cases hc
end z4p
namespace z04
structure Gs where
 z01:z01.Q
 strings_Compare:strings_Compare.Q
 z02:z02.Q
 z4p:z4p.Q
noncomputable def main {R:Type} (G:Gs) (n:Nat) (a b:Tm) (K:Int->Option R):Option R:=
 (G.z01 a.op b.op).bind λr2=>
 (G.strings_Compare a.name b.name).bind λr4=>
 (G.z01 a.sort b.sort).bind λr6=>
 (G.z02 [r2,r4,r6]).bind λr8=>
 bif !decide (r8=0)then
  (K r8)
 else
  (G.z4p a.args b.args).bind λr9=>
  K r9
theorem ok {G:Gs} (hG:AE [z01.ent G.z01,strings_Compare.ent G.strings_Compare,z02.ent G.z02,z4p.ent G.z4p]) {g:Q} (hg:∀a b r,g a b=some r->∃n,main (R:=AT×List Ob) G n a b (λr0=>some (.one (.i r0),[]))=some (.one (.i r),[])):EO (ent g):=λR xs H K r hc=>by
 simp only[ent]at hc;split at hc
 ·exact okL hc λr j=>let⟨_,j⟩:=hg _ _ _ j;fF hG ⟨31,0,[],[],[4],[(1,⟨[([0,1,2,3,4,5,6,7,8,9,10,11,12,13,14,15,16,17],[],[])],[],[],[0,1],[]⟩)],[]⟩ nP Tryz.func117 j
 ·cases hc
end z04
namespace z0t
structure Gs where
 z0v:z0v.Q
noncomputable def main {R:Type} (G:Gs) (n:Nat) (t:Tm) (K:Tm->Option R):Option R:=
 (G.z0v t.args).bind λr=>
 K (Tm.mk t.op t.name t.sort r)
theorem ok {G:Gs} (hG:AE [z0v.ent G.z0v]) {g:Q} (hg:∀t r,g t=some r->∃n,main (R:=AT×List Ob) G n t (λr0=>some (.agg [.i r0.op,.s r0.name,.i r0.sort,.l (.n 1) r0.args],[]))=some (.agg [.i r.op,.s r.name,.i r.sort,.l (.n 1) r.args],[])):EO (ent g):=λR xs H K r hc=>by
 simp only[ent]at hc;split at hc
 ·exact okL hc λr j=>let⟨_,j⟩:=hg _ _ j;fF hG ⟨8,0,[],[],[2],[],[]⟩ nP Tryz.func29 j
 ·cases hc
end z0t
namespace z0v
structure Gs where
 z0t:z0t.Q
noncomputable def ac (G:Gs):List Ent:=[z0t.ent G.z0t]
noncomputable def b3 {R:Type} (G:Gs) (n:Nat) (t6:LT) (t7 t8:Int) (h0:LT) (nx:Int->LT->Option R) (k0:LT->Option R):Option R:=
 bif decide (t8<t7)then
  (
  (ix t6 t8).bind λe=>
  (G.z0t (Tm.mk e.op e.name e.sort e.args)).bind λr=>
  (lim (h0++[(Tm.mk r.op r.name r.sort r.args)])).bind λzs=>
  nx (wr (t8+1)) zs
  )
 else
  k0 h0
noncomputable def l3 {R:Type} (G:Gs) (n m:Nat) (t6:LT) (t7 t8:Int) (h0:LT) (k0:LT->Option R):Option R:=aB (λ(v:Int×LT) nx=>b3 G n t6 t7 v.1 v.2 (λy0 y1=>nx (y0,y1)) k0) m (t8,h0)
noncomputable def main {R:Type} (G:Gs) (n:Nat) (list:LT) (K:LT->Option R):Option R:=
 l3 G n n list (List.length list:Int) 0 []
  (λh02=>K h02)
noncomputable def dl3 (G:Gs) (n m:Nat) (R:Type) (st:St) (K:Kt R):Option R:=match st with
 |⟨[(3,.one (.o 0)),(6,.one (.l (.n 1) t6)),(7,.one (.i t7)),(8,.one (.i t8))],[.row (.n 1) 0 h0]⟩=>l3 G n m t6 t7 t8 h0 (λh02=>K (.exit 0) ⟨[(3,.one (.o 0))],[.row (.n 1) 0 h02]⟩)
 |_=>none
noncomputable def pc (G:Gs) (n:Nat):Pcs:=⟨λR id st K=>bif Nat.beq id 3 then dl3 G n n R st K else none,nK,nK⟩
noncomputable def an:Ann:=⟨19,0,[(3,[3,6,7,8])],[],[2],[],[]⟩
noncomputable abbrev bd:=aj Tryz.f68
noncomputable abbrev q3:=ak [1,1,0,1,0,0] bd
theorem pl3 {G:Gs} (hG:AE (ac G)) (n:Nat):∀m,PO an (.loop q3) (dl3 G n m):=lpc hG (pc G n) [3,6,7,8] ⟨[3],[2],[(0,[3])]⟩ (apl [] trivial) (λR st K=>by unfold dl3;split<;>rfl) λm R st K r h=>by unfold dl3 at h;split at h;exact .trans (by kernel_rfl) h;cases h
theorem ok {G:Gs} (hG:AE (ac G)) {g:Q} (hg:∀list r,g list=some r->∃n,main (R:=AT×List Ob) G n list (λr0=>some (.one (.l (.n 1) r0),[]))=some (.one (.l (.n 1) r),[])):EO (ent g):=λR xs H K r hc=>by
 simp only[ent]at hc;split at hc
 ·exact okL hc λr j=>let⟨n,j⟩:=hg _ _ j;fF hG an (pc G n) Tryz.func68 j (apl [(1,3,.loop q3)] ⟨pl3 hG n n,trivial⟩)
 ·cases hc
end z0v
end Go.Proofs.YtfdkldmkbibknaaGreat.Den

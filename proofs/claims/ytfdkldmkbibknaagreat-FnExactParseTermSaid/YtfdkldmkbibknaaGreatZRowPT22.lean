import Derived.Test.YtfdkldmkbibknaaGreatZRowPT11
namespace Go.Proofs.YtfdkldmkbibknaaGreat.Den
open Go.RowKit
set_option maxRecDepth 100000
set_option linter.unusedVariables false
namespace z47
structure Gs where
 none_:Unit
noncomputable def ents (_:Gs):List Ent:=[]
noncomputable def b0 {R:Type} (G:Gs) (n:Nat) (xa:LB) (xb:LS) (xc:LO) (xf:ByteArray) (xd:Bool) (h0:Int) (nx k0:Int->Option R):Option R:=
 bif decide (h0<(ByteArray.size xf:Int))then
  (
  Option.bind (sIx xf h0) λb2=>
  bif decide (b2=32)then
   (nx (wr (h0+1)))
  else
   k0 h0
  )
 else
  k0 h0
noncomputable def l0 {R:Type} (G:Gs) (n m:Nat) (xa:LB) (xb:LS) (xc:LO) (xf:ByteArray) (xd:Bool) (h0:Int) (k0:Int->Option R):Option R:=iter (λ(v:Int) nx=>b0 G n xa xb xc xf xd v (λy0=>nx y0) k0) m h0
noncomputable def main {R:Type} (G:Gs) (n:Nat) (xa:LB) (xb:LS) (xc:LO) (xf:ByteArray) (xe:Int) (xd:Bool) (K:Int->Option R):Option R:=
 l0 G n n xa xb xc xf xd xe
  (λh02=>K h02)
noncomputable def dl0 (G:Gs) (n m:Nat) (R:Type) (st:St) (K:Kt R):Option R:=match st with
 |⟨[(0,.one (.p 0 0))],[.box [.l .s xa,.l (.n 5) xb,.l (.n 8) xc,.s xf,.i h0,.b xd]]⟩=>l0 G n m xa xb xc xf xd h0 (λh02=>K (.exit 0) ⟨[],[.box [.l .s xa,.l (.n 5) xb,.l (.n 8) xc,.s xf,.i h02,.b xd]]⟩)
 |_=>none
noncomputable def pc (G:Gs) (n:Nat):Pcs:=⟨λR id st K=>bif Nat.beq id 0 then dl0 G n n R st K else none,nK,nK⟩
noncomputable def an:Ann:=⟨31,1,[(0,[0])],[],[],[(0,⟨[([0,1,2,3,4,5,6,7,8,9,10,11,12,13,14,15,16,17,18,19,20,21],[],[])],[],[],[0],[]⟩)],[]⟩
noncomputable abbrev bd:=bodyOf Tryz.f23
noncomputable abbrev q0:=nthC [0,0] bd
theorem pl0 {G:Gs} (hG:AE (ents G)) (n:Nat):∀m,PO an (.loop q0) (dl0 G n m):=lpc hG (pc G n) [0] ⟨[],[],[(0,[])]⟩ (apl [] trivial) (λR st K=>by unfold dl0;split<;>rfl) λm R st K r h=>by unfold dl0 at h;split at h;exact .trans (by kernel_rfl) h;cases h
theorem ok {G:Gs} (hG:AE (ents G)) {g:Q} (hg:∀xa xb xc xf xe xd r,g xa xb xc xf xe xd=some r->∃n,main (R:=AT×List Ob) G n xa xb xc xf xe xd (λr0=>some (.tup [],[.box [.l .s xa,.l (.n 5) xb,.l (.n 8) xc,.s xf,.i r0,.b xd]]))=some (.tup [],[.box [.l .s xa,.l (.n 5) xb,.l (.n 8) xc,.s xf,.i r,.b xd]])):EO (ent g):=λR xs H K r hc=>by
 simp only[ent]at hc
 split at hc
 ·obtain⟨r,j1,j2⟩:=bind_some hc
  obtain⟨n,j3⟩:=hg _ _ _ _ _ _ _ j1
  exact⟨_,_,j2,fnP hG an (pc G n) bd [] Tryz.func23 (.inl rfl) (apl [(1,0,.loop q0)] ⟨pl0 hG n n,trivial⟩) (.trans (by kernel_rfl) j3)⟩
 ·cases hc
end z47
namespace z45
structure Gs where
 z47:z47.Q
 z2q:z2q.Q
noncomputable def ents (G:Gs):List Ent:=[z47.ent G.z47,z2q.ent G.z2q]
noncomputable def b3 {R:Type} (G:Gs) (n:Nat) (xa:LB) (xb:LS) (xc:LO) (xf:ByteArray) (xd:Bool) (from1 h0:Int) (nx k0:Int->Option R):Option R:=
 bif decide (h0<(ByteArray.size xf:Int))then
  (
  Option.bind (sSub xf h0 (wr (h0+1))) λq2=>
  Option.bind (sCat (ByteArray.mk #[120]) q2) λq4=>
  Option.bind (G.z2q q4) λr2=>
  bif r2 then
   (nx (wr (h0+1)))
  else
   k0 h0
  )
 else
  k0 h0
noncomputable def l3 {R:Type} (G:Gs) (n m:Nat) (xa:LB) (xb:LS) (xc:LO) (xf:ByteArray) (xd:Bool) (from1 h0:Int) (k0:Int->Option R):Option R:=iter (λ(v:Int) nx=>b3 G n xa xb xc xf xd from1 v (λy0=>nx y0) k0) m h0
noncomputable def main {R:Type} (G:Gs) (n:Nat) (xa:LB) (xb:LS) (xc:LO) (xf:ByteArray) (xe:Int) (xd:Bool) (K:ByteArray->Int->Option R):Option R:=
 Option.bind (G.z47 xa xb xc xf xe xd) λr=>
 l3 G n n xa xb xc xf xd r r
  (fun h02 =>
   Option.bind (sSub xf r h02) λq2=>
   K q2 h02
  )
noncomputable def dl3 (G:Gs) (n m:Nat) (R:Type) (st:St) (K:Kt R):Option R:=match st with
 |⟨[(0,.one (.p 0 0)),(3,.one (.i from1))],[.box [.l .s xa,.l (.n 5) xb,.l (.n 8) xc,.s xf,.i h0,.b xd]]⟩=>l3 G n m xa xb xc xf xd from1 h0 (λh02=>K (.exit 0) ⟨[(0,.one (.p 0 0)),(3,.one (.i from1))],[.box [.l .s xa,.l (.n 5) xb,.l (.n 8) xc,.s xf,.i h02,.b xd]]⟩)
 |_=>none
noncomputable def pc (G:Gs) (n:Nat):Pcs:=⟨λR id st K=>bif Nat.beq id 3 then dl3 G n n R st K else none,nK,nK⟩
noncomputable def an:Ann:=⟨55,1,[(3,[0,3])],[],[2],[(3,⟨[([0,1,2,3,4,5,6,7,8,9,10,11,12,13,14,15,16,17,18,19,20,21,22,23,24,25,26,27],[],[])],[],[],[0],[]⟩),(5,⟨[([0,1,2,3,4,5,6,7,8,9,10],[],[])],[],[],[0],[]⟩)],[]⟩
noncomputable abbrev bd:=bodyOf Tryz.f50
noncomputable abbrev q3:=nthC [1,1,1,0,0,0] bd
theorem pl3 {G:Gs} (hG:AE (ents G)) (n:Nat):∀m,PO an (.loop q3) (dl3 G n m):=lpc hG (pc G n) [0,3] ⟨[0,3],[2],[(0,[0,3])]⟩ (apl [] trivial) (λR st K=>by unfold dl3;split<;>rfl) λm R st K r h=>by unfold dl3 at h;split at h;exact .trans (by kernel_rfl) h;cases h
theorem ok {G:Gs} (hG:AE (ents G)) {g:Q} (hg:∀xa xb xc xf xe xd r,g xa xb xc xf xe xd=some r->∃n,main (R:=AT×List Ob) G n xa xb xc xf xe xd (λr0 r1=>some (.one (.s r0),[.box [.l .s xa,.l (.n 5) xb,.l (.n 8) xc,.s xf,.i r1,.b xd]]))=some (.one (.s r.1),[.box [.l .s xa,.l (.n 5) xb,.l (.n 8) xc,.s xf,.i r.2,.b xd]])):EO (ent g):=λR xs H K r hc=>by
 simp only[ent]at hc
 split at hc
 ·obtain⟨r,j1,j2⟩:=bind_some hc
  obtain⟨n,j3⟩:=hg _ _ _ _ _ _ _ j1
  exact⟨_,_,j2,fnP hG an (pc G n) bd [.tmp 2] Tryz.func50 (.inl rfl) (apl [(1,3,.loop q3)] ⟨pl3 hG n n,trivial⟩) (.trans (by kernel_rfl) j3)⟩
 ·cases hc
end z45
namespace z48
structure Gs where
 z47:z47.Q
noncomputable def ents (G:Gs):List Ent:=[z47.ent G.z47]
noncomputable def main {R:Type} (G:Gs) (n:Nat) (xa:LB) (xb:LS) (xc:LO) (xf:ByteArray) (xe:Int) (xd:Bool) (by1:Int) (K:Bool->Int->Option R):Option R:=
 Option.bind (G.z47 xa xb xc xf xe xd) λr=>
 bif decide (r<(ByteArray.size xf:Int))then
  (
  Option.bind (sIx xf r) λb2=>
  bif decide (b2=by1)then
   (K true (wr (r+1)))
  else
   K false r
  )
 else
  K false r
noncomputable def pc (_:Gs) (_:Nat):Pcs:=⟨nK,nK,nK⟩
noncomputable def an:Ann:=⟨37,1,[],[],[4],[(2,⟨[([0,1,2,3,4,5,6,7,8,9,10,11,12,13,14,15,16,17,18,19,20,21,22],[],[])],[],[],[0],[]⟩)],[]⟩
noncomputable abbrev bd:=bodyOf Tryz.f51
theorem ok {G:Gs} (hG:AE (ents G)) {g:Q} (hg:∀xa xb xc xf xe xd by1 r,g xa xb xc xf xe xd by1=some r->∃n,main (R:=AT×List Ob) G n xa xb xc xf xe xd by1 (λr0 r1=>some (.one (.b r0),[.box [.l .s xa,.l (.n 5) xb,.l (.n 8) xc,.s xf,.i r1,.b xd]]))=some (.one (.b r.1),[.box [.l .s xa,.l (.n 5) xb,.l (.n 8) xc,.s xf,.i r.2,.b xd]])):EO (ent g):=λR xs H K r hc=>by
 simp only[ent]at hc
 split at hc
 ·obtain⟨r,j1,j2⟩:=bind_some hc
  obtain⟨n,j3⟩:=hg _ _ _ _ _ _ _ _ j1
  exact⟨_,_,j2,fnP hG an (pc G n) bd [.tmp 4] Tryz.func51 (.inl rfl) (apl [] trivial) (.trans (by kernel_rfl) j3)⟩
 ·cases hc
end z48
namespace z44
structure Gs where
 none_:Unit
noncomputable def ents (_:Gs):List Ent:=[]
noncomputable def b2 {R:Type} (G:Gs) (n:Nat) (list:LB) (name:ByteArray) (i:Int) (nx k0:Int->Option R) (k1:Option R):Option R:=
 bif decide (i<(List.length list:Int))then
  (
  Option.bind (ix list i) λe=>
  bif sEq e name then
   (k0 i)
  else
   nx (wr (i+1))
  )
 else
  k1
noncomputable def l2 {R:Type} (G:Gs) (n m:Nat) (list:LB) (name:ByteArray) (i:Int) (k0:Int->Option R) (k1:Option R):Option R:=iter (λ(v:Int) nx=>b2 G n list name v (λy0=>nx y0) k0 k1) m i
noncomputable def main {R:Type} (G:Gs) (n:Nat) (list:LB) (name:ByteArray) (K:Int->Option R):Option R:=
 l2 G n n list name 0
  (λt4=>K t4)
  (K (-1))
noncomputable def dl2 (G:Gs) (n m:Nat) (R:Type) (st:St) (K:Kt R):Option R:=match st with
 |⟨[(0,.one (.l .s list)),(1,.one (.s name)),(5,.one (.i i))],[]⟩=>l2 G n m list name i (λt4=>K .ret ⟨[(4,.one (.i t4))],[]⟩) (K (.exit 0) ⟨[],[]⟩)
 |_=>none
noncomputable def pc (G:Gs) (n:Nat):Pcs:=⟨λR id st K=>bif Nat.beq id 2 then dl2 G n n R st K else none,nK,nK⟩
noncomputable def an:Ann:=⟨19,0,[(2,[0,1,5])],[],[4],[],[]⟩
noncomputable abbrev bd:=bodyOf Tryz.f52
noncomputable abbrev q2:=nthC [1,0,1,0,0] bd
theorem pl2 {G:Gs} (hG:AE (ents G)) (n:Nat):∀m,PO an (.loop q2) (dl2 G n m):=lpc hG (pc G n) [0,1,5] ⟨[],[4],[(0,[])]⟩ (apl [] trivial) (λR st K=>by unfold dl2;split<;>rfl) λm R st K r h=>by unfold dl2 at h;split at h;exact .trans (by kernel_rfl) h;cases h
theorem ok {G:Gs} (hG:AE (ents G)) {g:Q} (hg:∀list name r,g list name=some r->∃n,main (R:=AT×List Ob) G n list name (λr0=>some (.one (.i r0),[]))=some (.one (.i r),[])):EO (ent g):=λR xs H K r hc=>by
 simp only[ent]at hc
 split at hc
 ·obtain⟨r,j1,j2⟩:=bind_some hc
  obtain⟨n,j3⟩:=hg _ _ _ j1
  exact⟨_,_,j2,fnP hG an (pc G n) bd [.tmp 4] Tryz.func52 (.inl rfl) (apl [(1,2,.loop q2)] ⟨pl2 hG n n,trivial⟩) (.trans (by kernel_rfl) j3)⟩
 ·cases hc
end z44
namespace z46
structure Gs where
 z45:z45.Q
 z48:z48.Q
 z44:z44.Q
 z2q:z2q.Q
 z36:z36.Q
 z3q:z3q.Q
 z46:z46.Q
 z3x:z3x.Q
noncomputable def ents (G:Gs):List Ent:=[z45.ent G.z45,z48.ent G.z48,z44.ent G.z44,z2q.ent G.z2q,z36.ent G.z36,z3q.ent G.z3q,ent G.z46,z3x.ent G.z3x]
noncomputable def c3 {R:Type} (G:Gs) (n:Nat) (xa:LB) (xb:LS) (xc:LO) (xf:ByteArray) (h0:Int) (h02:Bool) (h1:Int) (h12:ByteArray) (h13:Int) (h2:LT) (k0:Bool->Int->ByteArray->Int->LT->Option R):Option R:=
 k0 true 0 ByteArray.empty 0 []
noncomputable def d6 {R:Type} (G:Gs) (n:Nat) (xa:LB) (xb:LS) (xc:LO) (xf name:ByteArray) (h0:Int) (h02:Bool) (h1:Int) (h12:ByteArray) (h13:Int) (h2:LT) (k0:Int->Int->Option R):Option R:=
 Option.bind (G.z45 xa xb xc xf h0 h02) λr4=>
 Option.bind (G.z44 xa r4.1) λr6=>
 k0 r6 r4.2
noncomputable def d6_1 {R:Type} (G:Gs) (n:Nat) (xa:LB) (xb:LS) (xc:LO) (xf name:ByteArray) (h0:Int) (h02:Bool) (h1:Int) (h12:ByteArray) (h13:Int) (h2:LT) (k0:Int->Int->Option R):Option R:=
 Option.bind (G.z45 xa xb xc xf h0 h02) λr=>
 Option.bind (G.z44 xa r.1) λr3=>
 k0 r3 r.2
theorem e6_1 {R:Type} (G:Gs) (n:Nat) (xa:LB) (xb:LS) (xc:LO) (xf name:ByteArray) (h0:Int) (h02:Bool) (h1:Int) (h12:ByteArray) (h13:Int) (h2:LT) (k0:Int->Int->Option R):d6_1 G n xa xb xc xf name h0 h02 h1 h12 h13 h2 k0=d6 G n xa xb xc xf name h0 h02 h1 h12 h13 h2 k0:=by
 unfold d6_1 d6
 generalize G.z45 xa xb xc xf h0 h02=o0
 cases o0<;>first|rfl|simp
noncomputable def c8 {R:Type} (G:Gs) (n:Nat) (xa:LB) (xb:LS) (xc:LO) (xf name:ByteArray) (sort h0:Int) (h02:Bool) (h1:Int) (h12:ByteArray) (h13:Int) (h2:LT) (k0:Int->ByteArray->Int->LT->Option R):Option R:=
 Option.bind (G.z36 sort 0) λr=>
 Option.bind (G.z3q name r) λr2=>
 k0 (Tm.op r2) (Tm.name r2) (Tm.sort r2) (Tm.args r2)
noncomputable def b11 {R:Type} (G:Gs) (n:Nat) (xa:LB) (xb:LS) (xc:LO) (xf:ByteArray) (depth:Int) (name:ByteArray) (h0:Int) (h02:Bool) (h1:Int) (h12:ByteArray) (h13:Int) (h2:LT) (op i:Int) (nx:Int->Int->Option R) (k0:Int->Option R):Option R:=
 bif decide (i<(List.length xc:Int))then
  (
  Option.bind (ix xc i) λe=>
  bif sEq (Opr.name e) name then
   (nx i (wr (i+1)))
  else
   nx op (wr (i+1))
  )
 else
  k0 op
noncomputable def l11 {R:Type} (G:Gs) (n m:Nat) (xa:LB) (xb:LS) (xc:LO) (xf:ByteArray) (depth:Int) (name:ByteArray) (h0:Int) (h02:Bool) (h1:Int) (h12:ByteArray) (h13:Int) (h2:LT) (op i:Int) (k0:Int->Option R):Option R:=iter (λ(v:Int×Int) nx=>b11 G n xa xb xc xf depth name h0 h02 h1 h12 h13 h2 v.1 v.2 (λy0 y1=>nx (y0,y1)) k0) m (op,i)
noncomputable def b17 {R:Type} (G:Gs) (n:Nat) (xa:LB) (xb:LS) (xc:LO) (xf:ByteArray) (depth op h1:Int) (h12:ByteArray) (h13:Int) (h2:LT) (h0:Int) (h02:Bool) (h3:LT) (nx k0:Int->Bool->LT->Option R):Option R:=
 bif !h02 then
  (
  Option.bind (G.z46 xa xb xc xf h0 h02 (wr (depth+1))) λr=>
  Option.bind (lim (h3++[(Tm.mk (Tm.op r.1) (Tm.name r.1) (Tm.sort r.1) (Tm.args r.1))])) λzs=>
  Option.bind (G.z48 xa xb xc xf r.2.1 r.2.2 41) λr2=>
  bif r2.1 then
   (k0 r2.2 r.2.2 zs)
  else
   bif r.2.2 then
    (nx r2.2 true zs)
   else
    Option.bind (G.z48 xa xb xc xf r2.2 r.2.2 44) λr3=>
    nx r3.2 (!r3.1) zs
  )
 else
  k0 h0 h02 h3
noncomputable def l17 {R:Type} (G:Gs) (n m:Nat) (xa:LB) (xb:LS) (xc:LO) (xf:ByteArray) (depth op h1:Int) (h12:ByteArray) (h13:Int) (h2:LT) (h0:Int) (h02:Bool) (h3:LT) (k0:Int->Bool->LT->Option R):Option R:=iter (λ(v:Int×Bool×LT) nx=>b17 G n xa xb xc xf depth op h1 h12 h13 h2 v.1 v.2.1 v.2.2 (λy0 y1 y2=>nx (y0,y1,y2)) k0) m (h0,h02,h3)
noncomputable def c22 {R:Type} (G:Gs) (n:Nat) (xa:LB) (xb:LS) (xc:LO) (xf:ByteArray) (h0:Int) (h02:Bool) (h1:Int) (h12:ByteArray) (h13:Int) (h2:LT) (k0:Bool->Int->ByteArray->Int->LT->Option R):Option R:=
 k0 true 0 ByteArray.empty 0 []
noncomputable def c21 {R:Type} (G:Gs) (n:Nat) (xa:LB) (xb:LS) (xc:LO) (xf:ByteArray) (op h0:Int) (h02:Bool) (h1:Int) (h12:ByteArray) (h13:Int) (h2 h3:LT) (k0:Bool->Int->ByteArray->Int->LT->Option R):Option R:=
 bif h02 then
  (
  c22 G n xa xb xc xf h0 h02 h1 h12 h13 h2
   (λh04 h14 h15 h16 h17=>k0 h04 h14 h15 h16 h17)
  )
 else
  bif decide (op<0)then
   (
   c22 G n xa xb xc xf h0 h02 h1 h12 h13 h2
    (λh042 h142 h152 h162 h172=>k0 h042 h142 h152 h162 h172)
   )
  else
   Option.bind (G.z3x (Sg.mk (So.mk xa xb) xc) op h3) λr=>
   bif h02 then
    (k0 true (Tm.op r.1) (Tm.name r.1) (Tm.sort r.1) (Tm.args r.1))
   else
    k0 (!r.2) (Tm.op r.1) (Tm.name r.1) (Tm.sort r.1) (Tm.args r.1)
noncomputable def main {R:Type} (G:Gs) (n:Nat) (xa:LB) (xb:LS) (xc:LO) (xf:ByteArray) (xe:Int) (xd:Bool) (depth:Int) (K:Tm->Int->Bool->Option R):Option R:=
 Option.bind (G.z45 xa xb xc xf xe xd) λr=>
 bif sEq r.1 ByteArray.empty then
  (
  c3 G n xa xb xc xf r.2 xd 0 ByteArray.empty 0 []
   (λh04 h14 h15 h16 h17=>K (Tm.mk h14 h15 h16 h17) r.2 h04)
  )
 else
  bif decide (20<depth)then
   (
   c3 G n xa xb xc xf r.2 xd 0 ByteArray.empty 0 []
    (λh042 h142 h152 h162 h172=>K (Tm.mk h142 h152 h162 h172) r.2 h042)
   )
  else
   Option.bind (G.z48 xa xb xc xf r.2 xd 58) λr2=>
   bif r2.1 then
    (
    d6 G n xa xb xc xf r.1 r2.2 xd 0 ByteArray.empty 0 []
     (fun sort h03 =>
      bif xd then
       (
       c8 G n xa xb xc xf r.1 sort h03 true 0 ByteArray.empty 0 []
        (λh143 h153 h163 h173=>K (Tm.mk h143 h153 h163 h173) h03 true)
       )
      else
       bif decide (sort<0)then
        (
        c8 G n xa xb xc xf r.1 sort h03 true 0 ByteArray.empty 0 []
         (λh144 h154 h164 h174=>K (Tm.mk h144 h154 h164 h174) h03 true)
        )
       else
        Option.bind (G.z2q r.1) λr3=>
        c8 G n xa xb xc xf r.1 sort h03 (!r3) 0 ByteArray.empty 0 []
         (λh145 h155 h165 h175=>K (Tm.mk h145 h155 h165 h175) h03 (!r3))
     )
    )
   else
    l11 G n n xa xb xc xf depth r.1 r2.2 xd 0 ByteArray.empty 0 [] (-1) 0
     (fun op2 =>
      Option.bind (G.z48 xa xb xc xf r2.2 xd 40) λr4=>
      bif r4.1 then
       (
       l17 G n n xa xb xc xf depth op2 0 ByteArray.empty 0 [] r4.2 xd []
        (fun h032 h043 h32 =>
         c21 G n xa xb xc xf op2 h032 h043 0 ByteArray.empty 0 [] h32
          (λh044 h146 h156 h166 h176=>K (Tm.mk h146 h156 h166 h176) h032 h044)
        )
       )
      else
       c21 G n xa xb xc xf op2 r4.2 xd 0 ByteArray.empty 0 [] []
        (λh045 h147 h157 h167 h177=>K (Tm.mk h147 h157 h167 h177) r4.2 h045)
     )
noncomputable def dc3 (G:Gs) (n:Nat) (R:Type) (st:St) (K:Kt R):Option R:=match st with
 |⟨[(0,.one (.p 0 0)),(4,.one (.p 1 0))],[.box [.l .s xa,.l (.n 5) xb,.l (.n 8) xc,.s xf,.i h0,.b h02],.box [.i h1,.s h12,.i h13,.o 2],.row (.n 1) 0 h2]⟩=>c3 G n xa xb xc xf h0 h02 h1 h12 h13 h2 (λh04 h14 h15 h16 h17=>K .ret ⟨[(4,.one (.p 1 0))],[.box [.l .s xa,.l (.n 5) xb,.l (.n 8) xc,.s xf,.i h0,.b h04],.box [.i h14,.s h15,.i h16,.l (.n 1) h17]]⟩)
 |_=>none
noncomputable def dd6 (G:Gs) (n:Nat) (R:Type) (st:St) (K:Kt R):Option R:=match st with
 |⟨[(0,.one (.p 0 0)),(4,.one (.p 1 0)),(5,.one (.s name))],[.box [.l .s xa,.l (.n 5) xb,.l (.n 8) xc,.s xf,.i h0,.b h02],.box [.i h1,.s h12,.i h13,.o 2],.row (.n 1) 0 h2]⟩=>d6 G n xa xb xc xf name h0 h02 h1 h12 h13 h2 (λsort h03=>K .normal ⟨[(0,.one (.p 0 0)),(4,.one (.p 1 0)),(5,.one (.s name)),(6,.one (.i sort))],[.box [.l .s xa,.l (.n 5) xb,.l (.n 8) xc,.s xf,.i h03,.b h02],.box [.i h1,.s h12,.i h13,.o 2],.row (.n 1) 0 h2]⟩)
 |_=>none
noncomputable def dc8 (G:Gs) (n:Nat) (R:Type) (st:St) (K:Kt R):Option R:=match st with
 |⟨[(4,.one (.p 1 0)),(5,.one (.s name)),(6,.one (.i sort))],[.box [.l .s xa,.l (.n 5) xb,.l (.n 8) xc,.s xf,.i h0,.b h02],.box [.i h1,.s h12,.i h13,.o 2],.row (.n 1) 0 h2]⟩=>c8 G n xa xb xc xf name sort h0 h02 h1 h12 h13 h2 (λh14 h15 h16 h17=>K .ret ⟨[(4,.one (.p 1 0))],[.box [.l .s xa,.l (.n 5) xb,.l (.n 8) xc,.s xf,.i h0,.b h02],.box [.i h14,.s h15,.i h16,.l (.n 1) h17]]⟩)
 |_=>none
noncomputable def dl11 (G:Gs) (n m:Nat) (R:Type) (st:St) (K:Kt R):Option R:=match st with
 |⟨[(0,.one (.p 0 0)),(1,.one (.i depth)),(4,.one (.p 1 0)),(5,.one (.s name)),(7,.one (.i op)),(8,.one (.i i))],[.box [.l .s xa,.l (.n 5) xb,.l (.n 8) xc,.s xf,.i h0,.b h02],.box [.i h1,.s h12,.i h13,.o 2],.row (.n 1) 0 h2]⟩=>l11 G n m xa xb xc xf depth name h0 h02 h1 h12 h13 h2 op i (λop2=>K (.exit 0) ⟨[(0,.one (.p 0 0)),(1,.one (.i depth)),(4,.one (.p 1 0)),(7,.one (.i op2))],[.box [.l .s xa,.l (.n 5) xb,.l (.n 8) xc,.s xf,.i h0,.b h02],.box [.i h1,.s h12,.i h13,.o 2],.row (.n 1) 0 h2]⟩)
 |_=>none
noncomputable def dl17 (G:Gs) (n m:Nat) (R:Type) (st:St) (K:Kt R):Option R:=match st with
 |⟨[(0,.one (.p 0 0)),(1,.one (.i depth)),(4,.one (.p 1 0)),(7,.one (.i op)),(9,.one (.o 3))],[.box [.l .s xa,.l (.n 5) xb,.l (.n 8) xc,.s xf,.i h0,.b h02],.box [.i h1,.s h12,.i h13,.o 2],.row (.n 1) 0 h2,.row (.n 1) 0 h3]⟩=>l17 G n m xa xb xc xf depth op h1 h12 h13 h2 h0 h02 h3 (λh03 h04 h32=>K (.exit 2) ⟨[(0,.one (.p 0 0)),(4,.one (.p 1 0)),(7,.one (.i op)),(9,.one (.o 3))],[.box [.l .s xa,.l (.n 5) xb,.l (.n 8) xc,.s xf,.i h03,.b h04],.box [.i h1,.s h12,.i h13,.o 2],.row (.n 1) 0 h2,.row (.n 1) 0 h32]⟩)
 |_=>none
noncomputable def dc22 (G:Gs) (n:Nat) (R:Type) (st:St) (K:Kt R):Option R:=match st with
 |⟨[(0,.one (.p 0 0)),(4,.one (.p 1 0))],[.box [.l .s xa,.l (.n 5) xb,.l (.n 8) xc,.s xf,.i h0,.b h02],.box [.i h1,.s h12,.i h13,.o 2],.row (.n 1) 0 h2]⟩=>c22 G n xa xb xc xf h0 h02 h1 h12 h13 h2 (λh04 h14 h15 h16 h17=>K .ret ⟨[(4,.one (.p 1 0))],[.box [.l .s xa,.l (.n 5) xb,.l (.n 8) xc,.s xf,.i h0,.b h04],.box [.i h14,.s h15,.i h16,.l (.n 1) h17]]⟩)
 |_=>none
noncomputable def dc21 (G:Gs) (n:Nat) (R:Type) (st:St) (K:Kt R):Option R:=match st with
 |⟨[(0,.one (.p 0 0)),(4,.one (.p 1 0)),(7,.one (.i op)),(9,.one (.o 3))],[.box [.l .s xa,.l (.n 5) xb,.l (.n 8) xc,.s xf,.i h0,.b h02],.box [.i h1,.s h12,.i h13,.o 2],.row (.n 1) 0 h2,.row (.n 1) 0 h3]⟩=>c21 G n xa xb xc xf op h0 h02 h1 h12 h13 h2 h3 (λh04 h14 h15 h16 h17=>K .ret ⟨[(4,.one (.p 1 0))],[.box [.l .s xa,.l (.n 5) xb,.l (.n 8) xc,.s xf,.i h0,.b h04],.box [.i h14,.s h15,.i h16,.l (.n 1) h17]]⟩)
 |_=>none
noncomputable def pc (G:Gs) (n:Nat):Pcs:=⟨λR id st K=>bif Nat.beq id 11 then dl11 G n n R st K else bif Nat.beq id 17 then dl17 G n n R st K else none,λR id st K=>bif Nat.beq id 3 then dc3 G n R st K else bif Nat.beq id 8 then dc8 G n R st K else bif Nat.beq id 22 then dc22 G n R st K else bif Nat.beq id 21 then dc21 G n R st K else none,λR id st K=>bif Nat.beq id 6 then dd6 G n R st K else none⟩
noncomputable def an:Ann:=⟨140,1,[(11,[0,1,4,5,7,8]),(17,[0,1,4,7,9])],[(3,[0,4]),(8,[4,5,6]),(22,[0,4]),(21,[0,4,7,9])],[4],[(6,⟨[([0,1,2,3,4,5,6,7,8,9],[5,7],[]),([6,7,0,1,2,3,4,5,8,9],[7,5],[])],[5,7],[],[1,2],[0,4,5]⟩)],[23,117]⟩
noncomputable abbrev bd:=bodyOf Tryz.f22
noncomputable abbrev q3:=nthC [1,1,0,1,0] bd
noncomputable abbrev q6:=nthC [1,1,1,0,1,0,0] bd
noncomputable abbrev q8:=nthC [1,1,1,0,1,0,1,1] bd
noncomputable abbrev q11:=nthC [1,1,1,1,1,0,1,0,0] bd
noncomputable abbrev q17:=nthC [1,1,1,1,1,1,1,0,1,0,0,0] bd
noncomputable abbrev q22:=nthC [1,1,1,1,1,1,1,1,0,1,0] bd
noncomputable abbrev q21:=nthC [1,1,1,1,1,1,1,1] bd
theorem pc3 {G:Gs} (hG:AE (ents G)) {n:Nat}:PO an q3 (dc3 G n):=cpc hG (pc G n) ⟨[0,1,4,5],[4],[]⟩ (apl [] trivial) λR st K r h=>by unfold dc3 at h;split at h;exact .trans (by kernel_rfl) h;cases h
theorem s6_0 (G:Gs) (n:Nat) (R:Type) (name:ByteArray) (xa:LB) (xb:LS) (xc:LO) (xf:ByteArray) (h0:Int) (h02:Bool) (h1:Int) (h12:ByteArray) (h13:Int) (h2:LT) (K:Kt R):(λS:St=>(λst1:St=>drawD tb (orcOf (ents G)) an.nt an.im (opsOf (q6)) (maskH [1,2] st1.H) [0,1,2,3,4,5,6,7,8,9] [5,7] [] [] [0,1,2,3,4,5,6,7,8,9] st1.L st1.H st1.H λL H=>outK an.refs ⟨[0,4,5,6],[4],[]⟩ K .normal ⟨L,H⟩) (fzIds (slotRows (St.L S) (St.H S) []) S)=dd6 G n R S K) ⟨[(0,.one (.p 0 0)),(4,.one (.p 1 0)),(5,.one (.s name))],[.box [.l .s xa,.l (.n 5) xb,.l (.n 8) xc,.s xf,.i h0,.b h02],.box [.i h1,.s h12,.i h13,.o 2],.row (.n 1) 0 h2]⟩:=by show _=_;kernel_rfl
theorem s6_1 (G:Gs) (n:Nat) (R:Type) (name:ByteArray) (xa:LB) (xb:LS) (xc:LO) (xf:ByteArray) (h0:Int) (h02:Bool) (h1:Int) (h12:ByteArray) (h13:Int) (h2:LT) (K:Kt R):(λst1:St=>drawD tb (orcOf (ents G)) an.nt an.im (opsOf (q6)) (maskH [1,2] st1.H) [6,7,0,1,2,3,4,5,8,9] [7,5] [] [] [6,7,0,1,2,3,4,5,8,9] st1.L st1.H st1.H λL H=>outK an.refs ⟨[0,4,5,6],[4],[]⟩ K .normal ⟨L,H⟩) (fzIds (slotRows (St.L ⟨[(0,.one (.p 0 0)),(4,.one (.p 1 0)),(5,.one (.s name))],[.box [.l .s xa,.l (.n 5) xb,.l (.n 8) xc,.s xf,.i h0,.b h02],.box [.i h1,.s h12,.i h13,.o 2],.row (.n 1) 0 h2]⟩) (St.H ⟨[(0,.one (.p 0 0)),(4,.one (.p 1 0)),(5,.one (.s name))],[.box [.l .s xa,.l (.n 5) xb,.l (.n 8) xc,.s xf,.i h0,.b h02],.box [.i h1,.s h12,.i h13,.o 2],.row (.n 1) 0 h2]⟩) []) ⟨[(0,.one (.p 0 0)),(4,.one (.p 1 0)),(5,.one (.s name))],[.box [.l .s xa,.l (.n 5) xb,.l (.n 8) xc,.s xf,.i h0,.b h02],.box [.i h1,.s h12,.i h13,.o 2],.row (.n 1) 0 h2]⟩)=d6_1 G n xa xb xc xf name h0 h02 h1 h12 h13 h2 (λsort h03=>K .normal ⟨[(0,.one (.p 0 0)),(4,.one (.p 1 0)),(5,.one (.s name)),(6,.one (.i sort))],[.box [.l .s xa,.l (.n 5) xb,.l (.n 8) xc,.s xf,.i h03,.b h02],.box [.i h1,.s h12,.i h13,.o 2],.row (.n 1) 0 h2]⟩):=by kernel_rfl
theorem pd6 {G:Gs} (hG:AE (ents G)) {n:Nat}:PO an (q6) (dd6 G n):=by
 have hc:q6= .region 6 (opsOf (q6)) true:=by kernel_rfl
 rw[hc]
 refine draw_piece mixed tb_ok (orc_ok hG) (o:=⟨[0,4,5,6],[4],[]⟩) (d:=⟨[([0,1,2,3,4,5,6,7,8,9],[5,7],[]),([6,7,0,1,2,3,4,5,8,9],[7,5],[])],[5,7],[],[1,2],[0,4,5]⟩) (by kernel_rfl) (λp hp R st K r h=> ?_)
 have e:=h
 unfold dd6 at e
 split at e
 ·rename_i x0 x1 x2 x3 x4 x5 x6 x7 x8 x9 x10;simp only[List.mem_cons,List.not_mem_nil,or_false]at hp
  rcases hp with rfl|rfl
  ·exact(s6_0 G n R x0 x1 x2 x3 x4 x5 x6 x7 x8 x9 x10 K).trans h
  ·exact((s6_1 G n R x0 x1 x2 x3 x4 x5 x6 x7 x8 x9 x10 K).trans (e6_1 G n x1 x2 x3 x4 x0 x5 x6 x7 x8 x9 x10 _)).trans h
 ·cases e
theorem pc8 {G:Gs} (hG:AE (ents G)) {n:Nat}:PO an q8 (dc8 G n):=cpc hG (pc G n) ⟨[0,1,4,5],[4],[]⟩ (apl [] trivial) λR st K r h=>by unfold dc8 at h;split at h;exact .trans (by kernel_rfl) h;cases h
theorem pl11 {G:Gs} (hG:AE (ents G)) (n:Nat):∀m,PO an (.loop q11) (dl11 G n m):=lpc hG (pc G n) [0,1,4,5,7,8] ⟨[0,1,4,7],[4],[(0,[0,1,4,7])]⟩ (apl [] trivial) (λR st K=>by unfold dl11;split<;>rfl) λm R st K r h=>by unfold dl11 at h;split at h;exact .trans (by kernel_rfl) h;cases h
theorem pl17 {G:Gs} (hG:AE (ents G)) (n:Nat):∀m,PO an (.loop q17) (dl17 G n m):=lpc hG (pc G n) [0,1,4,7,9] ⟨[0,4,7,9],[4],[(2,[0,4,7,9])]⟩ (apl [] trivial) (λR st K=>by unfold dl17;split<;>rfl) λm R st K r h=>by unfold dl17 at h;split at h;exact .trans (by kernel_rfl) h;cases h
theorem pc22 {G:Gs} (hG:AE (ents G)) {n:Nat}:PO an q22 (dc22 G n):=cpc hG (pc G n) ⟨[0,4,7,9],[4],[]⟩ (apl [] trivial) λR st K r h=>by unfold dc22 at h;split at h;exact .trans (by kernel_rfl) h;cases h
theorem pc21 {G:Gs} (hG:AE (ents G)) {n:Nat}:PO an q21 (dc21 G n):=cpc hG (pc G n) ⟨[],[4],[]⟩ (apl [(0,22,q22)] ⟨pc22 hG,trivial⟩) λR st K r h=>by unfold dc21 at h;split at h;exact .trans (by kernel_rfl) h;cases h
theorem ok {G:Gs} (hG:AE (ents G)) {g:Q} (hg:∀xa xb xc xf xe xd depth r,g xa xb xc xf xe xd depth=some r->∃n,main (R:=AT×List Ob) G n xa xb xc xf xe xd depth (λr0 r1 r2=>some (.agg [.i (Tm.op r0),.s (Tm.name r0),.i (Tm.sort r0),.l (.n 1) (Tm.args r0)],[.box [.l .s xa,.l (.n 5) xb,.l (.n 8) xc,.s xf,.i r1,.b r2]]))=some (.agg [.i (Tm.op r.1),.s (Tm.name r.1),.i (Tm.sort r.1),.l (.n 1) (Tm.args r.1)],[.box [.l .s xa,.l (.n 5) xb,.l (.n 8) xc,.s xf,.i r.2.1,.b r.2.2]])):EO (ent g):=λR xs H K r hc=>by
 simp only[ent]at hc
 split at hc
 ·obtain⟨r,j1,j2⟩:=bind_some hc
  obtain⟨n,j3⟩:=hg _ _ _ _ _ _ _ _ j1
  exact⟨_,_,j2,fnP hG an (pc G n) bd [.cell 4 32] Tryz.func22 (.inl rfl) (apl [(0,3,q3),(2,6,q6),(0,8,q8),(1,11,.loop q11),(1,17,.loop q17),(0,21,q21)] ⟨pc3 hG,⟨pd6 hG,⟨pc8 hG,⟨pl11 hG n n,⟨pl17 hG n n,⟨pc21 hG,trivial⟩⟩⟩⟩⟩⟩) (.trans (by kernel_rfl) j3)⟩
 ·cases hc
end z46
namespace z2x
structure Gs where
 z2s:z2s.Q
 z46:z46.Q
 z47:z47.Q
noncomputable def ents (G:Gs):List Ent:=[z2s.ent G.z2s,z46.ent G.z46,z47.ent G.z47]
noncomputable def main {R:Type} (G:Gs) (n:Nat) (s:Sg) (text:ByteArray) (K:Tm->Bool->Option R):Option R:=
 Option.bind (G.z2s s) λr=>
 bif !r then
  (K (Tm.mk 0 ByteArray.empty 0 []) false)
 else
  bif decide (2000<(ByteArray.size text:Int))then
   (K (Tm.mk 0 ByteArray.empty 0 []) false)
  else
   Option.bind (G.z46 (So.names (Sg.sorts s)) (So.subs (Sg.sorts s)) (Sg.ops s) text 0 false 1) λr2=>
   Option.bind (G.z47 (So.names (Sg.sorts s)) (So.subs (Sg.sorts s)) (Sg.ops s) text r2.2.1 r2.2.2) λr3=>
   bif r2.2.2 then
    (K (Tm.mk 0 ByteArray.empty 0 []) false)
   else
    bif !decide (r3=(ByteArray.size text:Int))then
     (K (Tm.mk 0 ByteArray.empty 0 []) false)
    else
     K (Tm.mk (Tm.op r2.1) (Tm.name r2.1) (Tm.sort r2.1) (Tm.args r2.1)) true
noncomputable def pc (_:Gs) (_:Nat):Pcs:=⟨nK,nK,nK⟩
noncomputable def an:Ann:=⟨33,0,[],[],[4,5],[],[]⟩
noncomputable abbrev bd:=bodyOf Tryz.f6
theorem ok {G:Gs} (hG:AE (ents G)) {g:Q} (hg:∀s text r,g s text=some r->∃n,main (R:=AT×List Ob) G n s text (λr0 r1=>some (.tup [.agg [.i (Tm.op r0),.s (Tm.name r0),.i (Tm.sort r0),.l (.n 1) (Tm.args r0)],.one (.b r1)],[]))=some (.tup [.agg [.i (Tm.op r.1),.s (Tm.name r.1),.i (Tm.sort r.1),.l (.n 1) (Tm.args r.1)],.one (.b r.2)],[])):EO (ent g):=λR xs H K r hc=>by
 simp only[ent]at hc
 split at hc
 ·obtain⟨r,j1,j2⟩:=bind_some hc
  obtain⟨n,j3⟩:=hg _ _ _ j1
  exact⟨_,_,j2,fnP hG an (pc G n) bd [.cell 4 32,.tmp 5] Tryz.func6 (.inl rfl) (apl [] trivial) (.trans (by kernel_rfl) j3)⟩
 ·cases hc
end z2x
end Go.Proofs.YtfdkldmkbibknaaGreat.Den

/-
  Texts that the claim rests on, merged: PV3, Str1, Str2, LawStr.
-/
import Derived.Test.YtkinkfieackmdaaGreatZRowStr13
import Derived.Test.YtkinkfieackmdaaGreatZRowStr26
import Derived.Test.YtkinkfieackmdaaGreatZRowStr33
import Derived.Test.YtkinkfieackmdaaGreatZRowStr35

namespace Go.Proofs.YtkinkfieackmdaaGreat.Den
open Go.RowKit
set_option maxRecDepth 100000
set_option linter.unusedVariables false
namespace z58
structure Gs where
 z58:z58.Q
noncomputable def ents (G:Gs):List Ent:=[ent G.z58]
noncomputable def b3 {R:Type} (G:Gs) (n:Nat) (h0 h02 h03:Int) (h04:ByteArray) (h05:Int) (h06:LT) (h07:LY) (left k:Int) (nx:Int->Int->Option R) (k0:Int->Option R):Option R:=
 bif decide (k<(List.length h07:Int))then
  (
  bif decide (0<=left)then
   (
   Option.bind (ix h07 k) λe=>
   Option.bind (G.z58 (Sgy.mk e.kind e.index (Tm.mk e.test.op e.test.name e.test.sort e.test.args) e.kids) left) λr=>
   nx r (wr (k+1))
   )
  else
   k0 left
  )
 else
  k0 left
noncomputable def l3 {R:Type} (G:Gs) (n m:Nat) (h0 h02 h03:Int) (h04:ByteArray) (h05:Int) (h06:LT) (h07:LY) (left k:Int) (k0:Int->Option R):Option R:=iter (λ(v:Int×Int) nx=>b3 G n h0 h02 h03 h04 h05 h06 h07 v.1 v.2 (λy0 y1=>nx (y0,y1)) k0) m (left,k)
noncomputable def main {R:Type} (G:Gs) (n:Nat) (x:Sgy) (left:Int) (K:Int->Option R):Option R:=
 l3 G n n x.kind x.index x.test.op x.test.name x.test.sort x.test.args x.kids (wr (left-1)) 0
  (λleft2=>K left2)
noncomputable def dl3 (G:Gs) (n m:Nat) (R:Type) (st:St) (K:Kt R):Option R:=match st with
 |⟨[(1,.one (.i left)),(2,.one (.p 0 0)),(5,.one (.i k))],[.box [.i h0,.i h02,.i h03,.s h04,.i h05,.l (.n 1) h06,.l (.n 16) h07]]⟩=>l3 G n m h0 h02 h03 h04 h05 h06 h07 left k (λleft2=>K (.exit 0) ⟨[(1,.one (.i left2))],[]⟩)
 |_=>none
noncomputable def pc (G:Gs) (n:Nat):Pcs:=⟨λR id st K=>bif Nat.beq id 3 then dl3 G n n R st K else none,nK,nK⟩
noncomputable def an:Ann:=⟨27,0,[(3,[1,2,5])],[],[4],[],[]⟩
noncomputable abbrev bd:=bodyOf Tryz.f26
noncomputable abbrev q3:=nthC [1,1,0,1,0,0] bd
theorem pl3 {G:Gs} (hG:AE (ents G)) (n:Nat):∀m,PO an (.loop q3) (dl3 G n m):=lpc hG (pc G n) [1,2,5] ⟨[1],[4],[(0,[1])]⟩ (apl [] trivial) (λR st K=>by unfold dl3;split<;>rfl) λm R st K r h=>by unfold dl3 at h;split at h;exact .trans (by kernel_rfl) h;cases h
theorem ok {G:Gs} (hG:AE (ents G)) {g:Q} (hg:∀x left r,g x left=some r->∃n,main (R:=AT×List Ob) G n x left (λr0=>some (.one (.i r0),[]))=some (.one (.i r),[])):EO (ent g):=λR xs H K r hc=>by
 simp only[ent]at hc
 split at hc
 ·obtain⟨r,j1,j2⟩:=bind_some hc
  obtain⟨n,j3⟩:=hg _ _ _ j1
  exact⟨_,_,j2,fnP hG an (pc G n) bd [.tmp 4] Tryz.func26 (.inl rfl) (apl [(1,3,.loop q3)] ⟨pl3 hG n n,trivial⟩) (.trans (by kernel_rfl) j3)⟩
 ·cases hc
end z58
namespace z59
structure Gs where
 z5l:z5l.Q
 z59:z59.Q
 z51:z51.Q
 z4m:z4m.Q
 z4t:z4t.Q
noncomputable def ents (G:Gs):List Ent:=[z5l.ent G.z5l,ent G.z59,z51.ent G.z51,z4m.ent G.z4m,z4t.ent G.z4t]
noncomputable def b23 {R:Type} (G:Gs) (n:Nat) (h1 h12 h13:Int) (h14:ByteArray) (h15:Int) (h16:LT) (h17:LY) (i:Int) (h0:LB) (h02:LS) (h03:LO) (h04 h05:LQ) (nx:Int->LB->LS->LO->LQ->LQ->Option R) (k0:Bool->LB->LS->LO->LQ->LQ->Option R) (k1:LB->LS->LO->LQ->LQ->Option R):Option R:=
 bif decide (i<(List.length h17:Int))then
  (
  Option.bind (ix h17 i) λe=>
  Option.bind (G.z59 (Md.mk (Sg.mk (So.mk h0 h02) h03) h04 h05) (Sgy.mk e.kind e.index (Tm.mk e.test.op e.test.name e.test.sort e.test.args) e.kids)) λr=>
  bif !r.1 then
   (k0 false r.2.sig.sorts.names r.2.sig.sorts.subs r.2.sig.ops r.2.eqs r.2.rules)
  else
   nx (wr (i+1)) r.2.sig.sorts.names r.2.sig.sorts.subs r.2.sig.ops r.2.eqs r.2.rules
  )
 else
  k1 h0 h02 h03 h04 h05
noncomputable def l23 {R:Type} (G:Gs) (n m:Nat) (h1 h12 h13:Int) (h14:ByteArray) (h15:Int) (h16:LT) (h17:LY) (i:Int) (h0:LB) (h02:LS) (h03:LO) (h04 h05:LQ) (k0:Bool->LB->LS->LO->LQ->LQ->Option R) (k1:LB->LS->LO->LQ->LQ->Option R):Option R:=iter (λ(v:Int×LB×LS×LO×LQ×LQ) nx=>b23 G n h1 h12 h13 h14 h15 h16 h17 v.1 v.2.1 v.2.2.1 v.2.2.2.1 v.2.2.2.2.1 v.2.2.2.2.2 (λy0 y1 y2 y3 y4 y5=>nx (y0,y1,y2,y3,y4,y5)) k0 k1) m (i,h0,h02,h03,h04,h05)
noncomputable def c22 {R:Type} (G:Gs) (n:Nat) (h0:LB) (h02:LS) (h03:LO) (h04 h05:LQ) (h1 h12 h13:Int) (h14:ByteArray) (h15:Int) (h16:LT) (h17:LY) (k0:Bool->LB->LS->LO->LQ->LQ->Option R):Option R:=
 l23 G n n h1 h12 h13 h14 h15 h16 h17 0 h0 h02 h03 h04 h05
  (λt4 h06 h07 h08 h09 h010=>k0 t4 h06 h07 h08 h09 h010)
  (λh062 h072 h082 h092 h0102=>k0 true h062 h072 h082 h092 h0102)
noncomputable def c20 {R:Type} (G:Gs) (n:Nat) (kids:Int) (h0:LB) (h02:LS) (h03:LO) (h04 h05:LQ) (h1 h12 h13:Int) (h14:ByteArray) (h15:Int) (h16:LT) (h17:LY) (k0:Bool->LB->LS->LO->LQ->LQ->Option R):Option R:=
 bif !decide (h1 = 3) then
  (
  bif !decide (h12=0)then
   (k0 false h0 h02 h03 h04 h05)
  else
   bif !decide (h1 = 10) then
    (
    Option.bind (G.z5l (Tm.mk h13 h14 h15 h16) (Tm.mk 0 ByteArray.empty 0 [])) λr=>
    bif !r then
     (k0 false h0 h02 h03 h04 h05)
    else
     bif !decide ((List.length h17:Int)=kids)then
      (k0 false h0 h02 h03 h04 h05)
     else
      c22 G n h0 h02 h03 h04 h05 h1 h12 h13 h14 h15 h16 h17
       (λt4 h06 h07 h08 h09 h010=>k0 t4 h06 h07 h08 h09 h010)
    )
   else
    bif !decide ((List.length h17:Int)=kids)then
     (k0 false h0 h02 h03 h04 h05)
    else
     c22 G n h0 h02 h03 h04 h05 h1 h12 h13 h14 h15 h16 h17
      (λt42 h062 h072 h082 h092 h0102=>k0 t42 h062 h072 h082 h092 h0102)
  )
 else
  bif !decide (h1 = 10) then
   (
   Option.bind (G.z5l (Tm.mk h13 h14 h15 h16) (Tm.mk 0 ByteArray.empty 0 [])) λr2=>
   bif !r2 then
    (k0 false h0 h02 h03 h04 h05)
   else
    bif !decide ((List.length h17:Int)=kids)then
     (k0 false h0 h02 h03 h04 h05)
    else
     c22 G n h0 h02 h03 h04 h05 h1 h12 h13 h14 h15 h16 h17
      (λt43 h063 h073 h083 h093 h0103=>k0 t43 h063 h073 h083 h093 h0103)
   )
  else
   bif !decide ((List.length h17:Int)=kids)then
    (k0 false h0 h02 h03 h04 h05)
   else
    c22 G n h0 h02 h03 h04 h05 h1 h12 h13 h14 h15 h16 h17
     (λt44 h064 h074 h084 h094 h0104=>k0 t44 h064 h074 h084 h094 h0104)
noncomputable def main {R : Type} (G : Gs) (n : Nat) (m2 : Md) (x : Sgy) (K : Bool → Md → Option R) : Option R :=
 bif decide (x.kind=1)then
  (
  c20 G n 0 m2.sig.sorts.names m2.sig.sorts.subs m2.sig.ops m2.eqs m2.rules x.kind x.index x.test.op x.test.name x.test.sort x.test.args x.kids
   (λt4 h06 h07 h08 h09 h010=>K t4 (Md.mk (Sg.mk (So.mk h06 h07) h08) h09 h010))
  )
 else
  bif decide (x.kind=2)then
   (
   c20 G n 0 m2.sig.sorts.names m2.sig.sorts.subs m2.sig.ops m2.eqs m2.rules x.kind x.index x.test.op x.test.name x.test.sort x.test.args x.kids
    (λt42 h062 h072 h082 h092 h0102=>K t42 (Md.mk (Sg.mk (So.mk h062 h072) h082) h092 h0102))
   )
  else
   bif decide (x.kind=4)then
    (
    c20 G n 0 m2.sig.sorts.names m2.sig.sorts.subs m2.sig.ops m2.eqs m2.rules x.kind x.index x.test.op x.test.name x.test.sort x.test.args x.kids
     (λt43 h063 h073 h083 h093 h0103=>K t43 (Md.mk (Sg.mk (So.mk h063 h073) h083) h093 h0103))
    )
   else
    bif decide (x.kind=3)then
     (
     Option.bind (G.z51 x.index 0 (wr ((List.length m2.rules:Int)-1))) λr2=>
     bif !r2 then
      (K false m2)
     else
      c20 G n 0 m2.sig.sorts.names m2.sig.sorts.subs m2.sig.ops m2.eqs m2.rules x.kind x.index x.test.op x.test.name x.test.sort x.test.args x.kids
       (λt44 h064 h074 h084 h094 h0104=>K t44 (Md.mk (Sg.mk (So.mk h064 h074) h084) h094 h0104))
     )
    else
     bif decide (x.kind=5)then
      (
      c20 G n 2 m2.sig.sorts.names m2.sig.sorts.subs m2.sig.ops m2.eqs m2.rules x.kind x.index x.test.op x.test.name x.test.sort x.test.args x.kids
       (λt45 h065 h075 h085 h095 h0105=>K t45 (Md.mk (Sg.mk (So.mk h065 h075) h085) h095 h0105))
      )
     else
      bif decide (x.kind=6)then
       (
       c20 G n 2 m2.sig.sorts.names m2.sig.sorts.subs m2.sig.ops m2.eqs m2.rules x.kind x.index x.test.op x.test.name x.test.sort x.test.args x.kids
        (λt46 h066 h076 h086 h096 h0106=>K t46 (Md.mk (Sg.mk (So.mk h066 h076) h086) h096 h0106))
       )
      else
       bif decide (x.kind=7)then
        (
        c20 G n 2 m2.sig.sorts.names m2.sig.sorts.subs m2.sig.ops m2.eqs m2.rules x.kind x.index x.test.op x.test.name x.test.sort x.test.args x.kids
         (λt47 h067 h077 h087 h097 h0107=>K t47 (Md.mk (Sg.mk (So.mk h067 h077) h087) h097 h0107))
        )
       else
        bif decide (x.kind=8)then
         (
         c20 G n 1 m2.sig.sorts.names m2.sig.sorts.subs m2.sig.ops m2.eqs m2.rules x.kind x.index x.test.op x.test.name x.test.sort x.test.args x.kids
          (λt48 h068 h078 h088 h098 h0108=>K t48 (Md.mk (Sg.mk (So.mk h068 h078) h088) h098 h0108))
         )
        else
         bif decide (x.kind=9)then
          (
          c20 G n 1 m2.sig.sorts.names m2.sig.sorts.subs m2.sig.ops m2.eqs m2.rules x.kind x.index x.test.op x.test.name x.test.sort x.test.args x.kids
           (λt49 h069 h079 h089 h099 h0109=>K t49 (Md.mk (Sg.mk (So.mk h069 h079) h089) h099 h0109))
          )
         else
          bif decide (x.kind = 10) then
           (
           Option.bind (G.z4m m2.sig (Tm.mk x.test.op x.test.name x.test.sort x.test.args)) λr4=>
           bif !r4 then
            (K false m2)
           else
            Option.bind (G.z4t (Tm.mk x.test.op x.test.name x.test.sort x.test.args)) λr6=>
            bif decide (5<(List.length r6:Int))then
             (K false m2)
            else
             c20 G n 0 m2.sig.sorts.names m2.sig.sorts.subs m2.sig.ops m2.eqs m2.rules x.kind x.index x.test.op x.test.name x.test.sort x.test.args x.kids
              (λt410 h0610 h0710 h0810 h0910 h01010=>K t410 (Md.mk (Sg.mk (So.mk h0610 h0710) h0810) h0910 h01010))
           )
          else
           K false m2
noncomputable def dl23 (G:Gs) (n m:Nat) (R:Type) (st:St) (K:Kt R):Option R:=match st with
 |⟨[(0,.one (.p 0 0)),(3,.one (.p 1 0)),(6,.one (.i i))],[.box [.l .s h0,.l (.n 5) h02,.l (.n 8) h03,.l (.n 14) h04,.l (.n 14) h05],.box [.i h1,.i h12,.i h13,.s h14,.i h15,.l (.n 1) h16,.l (.n 16) h17]]⟩=>l23 G n m h1 h12 h13 h14 h15 h16 h17 i h0 h02 h03 h04 h05 (λt4 h06 h07 h08 h09 h010=>K .ret ⟨[(4,.one (.b t4))],[.box [.l .s h06,.l (.n 5) h07,.l (.n 8) h08,.l (.n 14) h09,.l (.n 14) h010]]⟩) (λh06 h07 h08 h09 h010=>K (.exit 1) ⟨[],[.box [.l .s h06,.l (.n 5) h07,.l (.n 8) h08,.l (.n 14) h09,.l (.n 14) h010]]⟩)
 |_=>none
noncomputable def dc22 (G:Gs) (n:Nat) (R:Type) (st:St) (K:Kt R):Option R:=match st with
 |⟨[(0,.one (.p 0 0)),(3,.one (.p 1 0))],[.box [.l .s h0,.l (.n 5) h02,.l (.n 8) h03,.l (.n 14) h04,.l (.n 14) h05],.box [.i h1,.i h12,.i h13,.s h14,.i h15,.l (.n 1) h16,.l (.n 16) h17]]⟩=>c22 G n h0 h02 h03 h04 h05 h1 h12 h13 h14 h15 h16 h17 (λt4 h06 h07 h08 h09 h010=>K .ret ⟨[(4,.one (.b t4))],[.box [.l .s h06,.l (.n 5) h07,.l (.n 8) h08,.l (.n 14) h09,.l (.n 14) h010]]⟩)
 |_=>none
noncomputable def dc20 (G:Gs) (n:Nat) (R:Type) (st:St) (K:Kt R):Option R:=match st with
 |⟨[(0,.one (.p 0 0)),(3,.one (.p 1 0)),(5,.one (.i kids))],[.box [.l .s h0,.l (.n 5) h02,.l (.n 8) h03,.l (.n 14) h04,.l (.n 14) h05],.box [.i h1,.i h12,.i h13,.s h14,.i h15,.l (.n 1) h16,.l (.n 16) h17]]⟩=>c20 G n kids h0 h02 h03 h04 h05 h1 h12 h13 h14 h15 h16 h17 (λt4 h06 h07 h08 h09 h010=>K .ret ⟨[(4,.one (.b t4))],[.box [.l .s h06,.l (.n 5) h07,.l (.n 8) h08,.l (.n 14) h09,.l (.n 14) h010]]⟩)
 |_=>none
noncomputable def pc (G:Gs) (n:Nat):Pcs:=⟨λR id st K=>bif Nat.beq id 23 then dl23 G n n R st K else none,λR id st K=>bif Nat.beq id 22 then dc22 G n R st K else bif Nat.beq id 20 then dc20 G n R st K else none,nK⟩
noncomputable def an:Ann:=⟨91,1,[(23,[0,3,6])],[(22,[0,3]),(20,[0,3,5])],[4],[(8,⟨[([0,1,2,3,4,5,6,7,8,9],[],[])],[],[],[0,1],[]⟩),(18,⟨[([0,1,2,3,4,5,6,7,8,9,10,11,12,13,14],[],[])],[],[],[0,1],[]⟩)],[]⟩
noncomputable abbrev bd:=bodyOf Tryz.f27
noncomputable abbrev q23:=nthC [1,1,1,1,0,1,0,0] bd
noncomputable abbrev q22:=nthC [1,1,1,1] bd
noncomputable abbrev q20:=nthC [1,1,1] bd
theorem pl23 {G:Gs} (hG:AE (ents G)) (n:Nat):∀m,PO an (.loop q23) (dl23 G n m):=lpc hG (pc G n) [0,3,6] ⟨[],[4],[(1,[])]⟩ (apl [] trivial) (λR st K=>by unfold dl23;split<;>rfl) λm R st K r h=>by unfold dl23 at h;split at h;exact .trans (by kernel_rfl) h;cases h
theorem pc22 {G:Gs} (hG:AE (ents G)) {n:Nat}:PO an q22 (dc22 G n):=cpc hG (pc G n) ⟨[],[4],[]⟩ (apl [(1,23,.loop q23)] ⟨pl23 hG n n,trivial⟩) λR st K r h=>by unfold dc22 at h;split at h;exact .trans (by kernel_rfl) h;cases h
theorem pc20 {G:Gs} (hG:AE (ents G)) {n:Nat}:PO an q20 (dc20 G n):=cpc hG (pc G n) ⟨[],[4],[]⟩ (apl [(0,22,q22)] ⟨pc22 hG,trivial⟩) λR st K r h=>by unfold dc20 at h;split at h;exact .trans (by kernel_rfl) h;cases h
theorem ok {G:Gs} (hG:AE (ents G)) {g:Q} (hg:∀m2 x r,g m2 x=some r->∃n,main (R:=AT×List Ob) G n m2 x (λr0 r1=>some (.one (.b r0),[.box [.l .s r1.sig.sorts.names,.l (.n 5) r1.sig.sorts.subs,.l (.n 8) r1.sig.ops,.l (.n 14) r1.eqs,.l (.n 14) r1.rules]]))=some (.one (.b r.1),[.box [.l .s r.2.sig.sorts.names,.l (.n 5) r.2.sig.sorts.subs,.l (.n 8) r.2.sig.ops,.l (.n 14) r.2.eqs,.l (.n 14) r.2.rules]])):EO (ent g):=λR xs H K r hc=>by
 simp only[ent]at hc
 split at hc
 ·obtain⟨r,j1,j2⟩:=bind_some hc
  obtain⟨n,j3⟩:=hg _ _ _ j1
  exact⟨_,_,j2,fnP hG an (pc G n) bd [.tmp 4] Tryz.func27 (.inl rfl) (apl [(0,20,q20)] ⟨pc20 hG,trivial⟩) (.trans (by kernel_rfl) j3)⟩
 ·cases hc
end z59
namespace z4k
structure Gs where
 z4c:z4c.Q
 z58:z58.Q
 z59:z59.Q
noncomputable def ents (G:Gs):List Ent:=[z4c.ent G.z4c,z58.ent G.z58,z59.ent G.z59]
noncomputable def main {R:Type} (G:Gs) (n:Nat) (m2:Md) (x:Sgy) (K:Bool->Option R):Option R:=
 Option.bind (G.z4c m2) λr=>
 bif r then
  (
  Option.bind (G.z58 (Sgy.mk x.kind x.index (Tm.mk x.test.op x.test.name x.test.sort x.test.args) x.kids) 20) λr2=>
  bif decide (0<=r2)then
   (
   Option.bind (G.z59 m2 (Sgy.mk x.kind x.index (Tm.mk x.test.op x.test.name x.test.sort x.test.args) x.kids)) λr3=>
   K r3.1
   )
  else
   K false
  )
 else
  K false
noncomputable def pc (_:Gs) (_:Nat):Pcs:=⟨nK,nK,nK⟩
noncomputable def an:Ann:=⟨16,0,[],[],[4],[],[]⟩
noncomputable abbrev bd:=bodyOf Tryz.f7
theorem ok {G:Gs} (hG:AE (ents G)) {g:Q} (hg:∀m2 x r,g m2 x=some r->∃n,main (R:=AT×List Ob) G n m2 x (λr0=>some (.one (.b r0),[]))=some (.one (.b r),[])):EO (ent g):=λR xs H K r hc=>by
 simp only[ent]at hc
 split at hc
 ·obtain⟨r,j1,j2⟩:=bind_some hc
  obtain⟨n,j3⟩:=hg _ _ _ j1
  exact⟨_,_,j2,fnP hG an (pc G n) bd [.tmp 4] Tryz.func7 (.inl rfl) (apl [] trivial) (.trans (by kernel_rfl) j3)⟩
 ·cases hc
end z4k
namespace z1p
structure Gs where
 z1p:z1p.Q
noncomputable def ents (G:Gs):List Ent:=[ent G.z1p]
noncomputable def b3 {R:Type} (G:Gs) (n:Nat) (t7:LY) (t8 n1 t9:Int) (nx:Int->Int->Option R) (k0:Int->Option R):Option R:=
 bif decide (t9<t8)then
  (
  Option.bind (ix t7 t9) λe=>
  Option.bind (G.z1p (Sgy.mk e.kind e.index (Tm.mk e.test.op e.test.name e.test.sort e.test.args) e.kids)) λr=>
  nx (wr (n1+r)) (wr (t9+1))
  )
 else
  k0 n1
noncomputable def l3 {R:Type} (G:Gs) (n m:Nat) (t7:LY) (t8 n1 t9:Int) (k0:Int->Option R):Option R:=iter (λ(v:Int×Int) nx=>b3 G n t7 t8 v.1 v.2 (λy0 y1=>nx (y0,y1)) k0) m (n1,t9)
noncomputable def main {R:Type} (G:Gs) (n:Nat) (x:Sgy) (K:Int->Option R):Option R:=
 l3 G n n x.kids (List.length x.kids:Int) 1 0
  (λn12=>K n12)
noncomputable def dl3 (G:Gs) (n m:Nat) (R:Type) (st:St) (K:Kt R):Option R:=match st with
 |⟨[(3,.one (.i n1)),(7,.one (.l (.n 16) t7)),(8,.one (.i t8)),(9,.one (.i t9))],[]⟩=>l3 G n m t7 t8 n1 t9 (λn12=>K (.exit 0) ⟨[(3,.one (.i n12))],[]⟩)
 |_=>none
noncomputable def pc (G:Gs) (n:Nat):Pcs:=⟨λR id st K=>bif Nat.beq id 3 then dl3 G n n R st K else none,nK,nK⟩
noncomputable def an:Ann:=⟨19,0,[(3,[3,7,8,9])],[],[2],[],[]⟩
noncomputable abbrev bd:=bodyOf Tryz.f33
noncomputable abbrev q3:=nthC [1,1,0,1,0,0] bd
theorem pl3 {G:Gs} (hG:AE (ents G)) (n:Nat):∀m,PO an (.loop q3) (dl3 G n m):=lpc hG (pc G n) [3,7,8,9] ⟨[3],[2],[(0,[3])]⟩ (apl [] trivial) (λR st K=>by unfold dl3;split<;>rfl) λm R st K r h=>by unfold dl3 at h;split at h;exact .trans (by kernel_rfl) h;cases h
theorem ok {G:Gs} (hG:AE (ents G)) {g:Q} (hg:∀x r,g x=some r->∃n,main (R:=AT×List Ob) G n x (λr0=>some (.one (.i r0),[]))=some (.one (.i r),[])):EO (ent g):=λR xs H K r hc=>by
 simp only[ent]at hc
 split at hc
 ·obtain⟨r,j1,j2⟩:=bind_some hc
  obtain⟨n,j3⟩:=hg _ _ j1
  exact⟨_,_,j2,fnP hG an (pc G n) bd [.tmp 2] Tryz.func33 (.inl rfl) (apl [(1,3,.loop q3)] ⟨pl3 hG n n,trivial⟩) (.trans (by kernel_rfl) j3)⟩
 ·cases hc
end z1p
namespace z10
structure Gs where
 z11:z11.Q
 z0r:z0r.Q
 z1m:z1m.Q
 z10:z10.Q
noncomputable def ents (G:Gs):List Ent:=[z11.ent G.z11,z0r.ent G.z0r,z1m.ent G.z1m,ent G.z10]
noncomputable def b23 {R:Type} (G:Gs) (n:Nat) (xd xc xe:LI) (xa:LB) (xb:LS) (xf:LO) (t86:LY) (t87:Int) (h2:LB) (h22:LS) (h23:LO) (h24 h25:LQ) (t88:Int) (h1:LM) (nx:Int->LM->Option R) (k0:Bool->LM->Option R) (k1:LM->Option R):Option R:=
 bif decide (t88<t87)then
  (
  Option.bind (ix t86 t88) λe=>
  Option.bind (G.z10 xd xc xe xa xb xf h1 (Md.mk (Sg.mk (So.mk h2 h22) h23) h24 h25) (Sgy.mk e.kind e.index (Tm.mk e.test.op e.test.name e.test.sort e.test.args) e.kids)) λr=>
  bif !r.1 then
   (k0 false r.2)
  else
   nx (wr (t88+1)) r.2
  )
 else
  k1 h1
noncomputable def l23 {R:Type} (G:Gs) (n m:Nat) (xd xc xe:LI) (xa:LB) (xb:LS) (xf:LO) (t86:LY) (t87:Int) (h2:LB) (h22:LS) (h23:LO) (h24 h25:LQ) (t88:Int) (h1:LM) (k0:Bool->LM->Option R) (k1:LM->Option R):Option R:=iter (λ(v:Int×LM) nx=>b23 G n xd xc xe xa xb xf t86 t87 h2 h22 h23 h24 h25 v.1 v.2 (λy0 y1=>nx (y0,y1)) k0 k1) m (t88,h1)
noncomputable def c22 {R:Type} (G:Gs) (n:Nat) (xd xc xe:LI) (xa:LB) (xb:LS) (xf:LO) (h1:LM) (h2:LB) (h22:LS) (h23:LO) (h24 h25:LQ) (h3 h32 h33:Int) (h34:ByteArray) (h35:Int) (h36:LT) (h37:LY) (k0:Bool->LM->Option R):Option R:=
 l23 G n n xd xc xe xa xb xf h37 (List.length h37:Int) h2 h22 h23 h24 h25 0 h1
  (λt6 h12=>k0 t6 h12)
  (λh122=>k0 true h122)
noncomputable def c20 {R:Type} (G:Gs) (n:Nat) (xd xc xe:LI) (xa:LB) (xb:LS) (xf:LO) (h1:LM) (h2:LB) (h22:LS) (h23:LO) (h24 h25:LQ) (h3 h32 h33:Int) (h34:ByteArray) (h35:Int) (h36:LT) (h37:LY) (k0:Bool->LM->Option R):Option R:=
 bif decide (h3 = 10) then
  (
  Option.bind (G.z11 xd xc xe xa xb xf h1 (Tm.mk h33 h34 h35 h36)) λr=>
  bif !r.1 then
   (k0 false r.2)
  else
   Option.bind (G.z0r (Tm.mk h33 h34 h35 h36)) λr2=>
   bif decide (5<(List.length r2:Int))then
    (k0 false r.2)
   else
    bif !decide (h3=10)then
     (
     Option.bind (G.z1m (Tm.mk h33 h34 h35 h36) (Tm.mk 0 ByteArray.empty 0 [])) λr3=>
     bif !r3 then
      (k0 false r.2)
     else
      c22 G n xd xc xe xa xb xf r.2 h2 h22 h23 h24 h25 h3 h32 h33 h34 h35 h36 h37
       (λt6 h12=>k0 t6 h12)
     )
    else
     c22 G n xd xc xe xa xb xf r.2 h2 h22 h23 h24 h25 h3 h32 h33 h34 h35 h36 h37
      (λt62 h122=>k0 t62 h122)
  )
 else
  bif !decide (h3=10)then
   (
   Option.bind (G.z1m (Tm.mk h33 h34 h35 h36) (Tm.mk 0 ByteArray.empty 0 [])) λr4=>
   bif !r4 then
    (k0 false h1)
   else
    c22 G n xd xc xe xa xb xf h1 h2 h22 h23 h24 h25 h3 h32 h33 h34 h35 h36 h37
     (λt63 h123=>k0 t63 h123)
   )
  else
   c22 G n xd xc xe xa xb xf h1 h2 h22 h23 h24 h25 h3 h32 h33 h34 h35 h36 h37
    (λt64 h124=>k0 t64 h124)
noncomputable def c16 {R:Type} (G:Gs) (n:Nat) (xd xc xe:LI) (xa:LB) (xb:LS) (xf:LO) (kids:Int) (h1:LM) (h2:LB) (h22:LS) (h23:LO) (h24 h25:LQ) (h3 h32 h33:Int) (h34:ByteArray) (h35:Int) (h36:LT) (h37:LY) (k0:Bool->LM->Option R):Option R:=
 bif !decide ((List.length h37:Int)=kids)then
  (k0 false h1)
 else
  bif decide (h3 = 3) then
   (
   bif decide (h32<0)then
    (k0 false h1)
   else
    bif decide ((List.length h25:Int)<=h32)then
     (k0 false h1)
    else
     bif !decide (h3=3)then
      (
      bif !decide (h32=0)then
       (k0 false h1)
      else
       c20 G n xd xc xe xa xb xf h1 h2 h22 h23 h24 h25 h3 h32 h33 h34 h35 h36 h37
        (λt6 h12=>k0 t6 h12)
      )
     else
      c20 G n xd xc xe xa xb xf h1 h2 h22 h23 h24 h25 h3 h32 h33 h34 h35 h36 h37
       (λt62 h122=>k0 t62 h122)
   )
  else
   bif !decide (h3=3)then
    (
    bif !decide (h32=0)then
     (k0 false h1)
    else
     c20 G n xd xc xe xa xb xf h1 h2 h22 h23 h24 h25 h3 h32 h33 h34 h35 h36 h37
      (λt63 h123=>k0 t63 h123)
    )
   else
    c20 G n xd xc xe xa xb xf h1 h2 h22 h23 h24 h25 h3 h32 h33 h34 h35 h36 h37
     (λt64 h124=>k0 t64 h124)
noncomputable def main {R:Type} (G:Gs) (n:Nat) (xd xc xe:LI) (xa:LB) (xb:LS) (xf:LO) (xg:LM) (m2:Md) (s:Sgy) (K:Bool->LM->Option R):Option R:=
 bif decide (s.kind=1)then
  (
  c16 G n xd xc xe xa xb xf 0 xg m2.sig.sorts.names m2.sig.sorts.subs m2.sig.ops m2.eqs m2.rules s.kind s.index s.test.op s.test.name s.test.sort s.test.args s.kids
   (λt6 h12=>K t6 h12)
  )
 else
  bif decide (s.kind=2)then
   (
   c16 G n xd xc xe xa xb xf 0 xg m2.sig.sorts.names m2.sig.sorts.subs m2.sig.ops m2.eqs m2.rules s.kind s.index s.test.op s.test.name s.test.sort s.test.args s.kids
    (λt62 h122=>K t62 h122)
   )
  else
   bif decide (s.kind=4)then
    (
    c16 G n xd xc xe xa xb xf 0 xg m2.sig.sorts.names m2.sig.sorts.subs m2.sig.ops m2.eqs m2.rules s.kind s.index s.test.op s.test.name s.test.sort s.test.args s.kids
     (λt63 h123=>K t63 h123)
    )
   else
    bif decide (s.kind=3)then
     (
     c16 G n xd xc xe xa xb xf 0 xg m2.sig.sorts.names m2.sig.sorts.subs m2.sig.ops m2.eqs m2.rules s.kind s.index s.test.op s.test.name s.test.sort s.test.args s.kids
      (λt64 h124=>K t64 h124)
     )
    else
     bif decide (s.kind=10)then
      (
      c16 G n xd xc xe xa xb xf 0 xg m2.sig.sorts.names m2.sig.sorts.subs m2.sig.ops m2.eqs m2.rules s.kind s.index s.test.op s.test.name s.test.sort s.test.args s.kids
       (λt65 h125=>K t65 h125)
      )
     else
      bif decide (s.kind=5)then
       (
       c16 G n xd xc xe xa xb xf 2 xg m2.sig.sorts.names m2.sig.sorts.subs m2.sig.ops m2.eqs m2.rules s.kind s.index s.test.op s.test.name s.test.sort s.test.args s.kids
        (λt66 h126=>K t66 h126)
       )
      else
       bif decide (s.kind=6)then
        (
        c16 G n xd xc xe xa xb xf 2 xg m2.sig.sorts.names m2.sig.sorts.subs m2.sig.ops m2.eqs m2.rules s.kind s.index s.test.op s.test.name s.test.sort s.test.args s.kids
         (λt67 h127=>K t67 h127)
        )
       else
        bif decide (s.kind=7)then
         (
         c16 G n xd xc xe xa xb xf 2 xg m2.sig.sorts.names m2.sig.sorts.subs m2.sig.ops m2.eqs m2.rules s.kind s.index s.test.op s.test.name s.test.sort s.test.args s.kids
          (λt68 h128=>K t68 h128)
         )
        else
         bif decide (s.kind=8)then
          (
          c16 G n xd xc xe xa xb xf 1 xg m2.sig.sorts.names m2.sig.sorts.subs m2.sig.ops m2.eqs m2.rules s.kind s.index s.test.op s.test.name s.test.sort s.test.args s.kids
           (λt69 h129=>K t69 h129)
          )
         else
          bif decide (s.kind=9)then
           (
           c16 G n xd xc xe xa xb xf 1 xg m2.sig.sorts.names m2.sig.sorts.subs m2.sig.ops m2.eqs m2.rules s.kind s.index s.test.op s.test.name s.test.sort s.test.args s.kids
            (λt610 h1210=>K t610 h1210)
           )
          else
           K false xg
noncomputable def dl23 (G:Gs) (n m:Nat) (R:Type) (st:St) (K:Kt R):Option R:=match st with
 |⟨[(0,.one (.p 0 0)),(4,.one (.p 2 0)),(86,.one (.l (.n 16) t86)),(87,.one (.i t87)),(88,.one (.i t88))],[.box [.l .i xd,.l .i xc,.l .i xe,.l .s xa,.l (.n 5) xb,.l (.n 8) xf,.m 1],.map .i h1,.box [.l .s h2,.l (.n 5) h22,.l (.n 8) h23,.l (.n 14) h24,.l (.n 14) h25]]⟩=>l23 G n m xd xc xe xa xb xf t86 t87 h2 h22 h23 h24 h25 t88 h1 (λt6 h12=>K .ret ⟨[(6,.one (.b t6))],[.box [.l .i xd,.l .i xc,.l .i xe,.l .s xa,.l (.n 5) xb,.l (.n 8) xf,.m 1],.map .i h12]⟩) (λh12=>K (.exit 1) ⟨[],[.box [.l .i xd,.l .i xc,.l .i xe,.l .s xa,.l (.n 5) xb,.l (.n 8) xf,.m 1],.map .i h12]⟩)
 |_=>none
noncomputable def dc22 (G:Gs) (n:Nat) (R:Type) (st:St) (K:Kt R):Option R:=match st with
 |⟨[(0,.one (.p 0 0)),(4,.one (.p 2 0)),(5,.one (.p 3 0))],[.box [.l .i xd,.l .i xc,.l .i xe,.l .s xa,.l (.n 5) xb,.l (.n 8) xf,.m 1],.map .i h1,.box [.l .s h2,.l (.n 5) h22,.l (.n 8) h23,.l (.n 14) h24,.l (.n 14) h25],.box [.i h3,.i h32,.i h33,.s h34,.i h35,.l (.n 1) h36,.l (.n 16) h37]]⟩=>c22 G n xd xc xe xa xb xf h1 h2 h22 h23 h24 h25 h3 h32 h33 h34 h35 h36 h37 (λt6 h12=>K .ret ⟨[(6,.one (.b t6))],[.box [.l .i xd,.l .i xc,.l .i xe,.l .s xa,.l (.n 5) xb,.l (.n 8) xf,.m 1],.map .i h12]⟩)
 |_=>none
noncomputable def dc20 (G:Gs) (n:Nat) (R:Type) (st:St) (K:Kt R):Option R:=match st with
 |⟨[(0,.one (.p 0 0)),(4,.one (.p 2 0)),(5,.one (.p 3 0))],[.box [.l .i xd,.l .i xc,.l .i xe,.l .s xa,.l (.n 5) xb,.l (.n 8) xf,.m 1],.map .i h1,.box [.l .s h2,.l (.n 5) h22,.l (.n 8) h23,.l (.n 14) h24,.l (.n 14) h25],.box [.i h3,.i h32,.i h33,.s h34,.i h35,.l (.n 1) h36,.l (.n 16) h37]]⟩=>c20 G n xd xc xe xa xb xf h1 h2 h22 h23 h24 h25 h3 h32 h33 h34 h35 h36 h37 (λt6 h12=>K .ret ⟨[(6,.one (.b t6))],[.box [.l .i xd,.l .i xc,.l .i xe,.l .s xa,.l (.n 5) xb,.l (.n 8) xf,.m 1],.map .i h12]⟩)
 |_=>none
noncomputable def dc16 (G:Gs) (n:Nat) (R:Type) (st:St) (K:Kt R):Option R:=match st with
 |⟨[(0,.one (.p 0 0)),(4,.one (.p 2 0)),(5,.one (.p 3 0)),(7,.one (.i kids))],[.box [.l .i xd,.l .i xc,.l .i xe,.l .s xa,.l (.n 5) xb,.l (.n 8) xf,.m 1],.map .i h1,.box [.l .s h2,.l (.n 5) h22,.l (.n 8) h23,.l (.n 14) h24,.l (.n 14) h25],.box [.i h3,.i h32,.i h33,.s h34,.i h35,.l (.n 1) h36,.l (.n 16) h37]]⟩=>c16 G n xd xc xe xa xb xf kids h1 h2 h22 h23 h24 h25 h3 h32 h33 h34 h35 h36 h37 (λt6 h12=>K .ret ⟨[(6,.one (.b t6))],[.box [.l .i xd,.l .i xc,.l .i xe,.l .s xa,.l (.n 5) xb,.l (.n 8) xf,.m 1],.map .i h12]⟩)
 |_=>none
noncomputable def pc (G:Gs) (n:Nat):Pcs:=⟨λR id st K=>bif Nat.beq id 23 then dl23 G n n R st K else none,λR id st K=>bif Nat.beq id 22 then dc22 G n R st K else bif Nat.beq id 20 then dc20 G n R st K else bif Nat.beq id 16 then dc16 G n R st K else none,nK⟩
noncomputable def an:Ann:=⟨98,2,[(23,[0,4,86,87,88])],[(22,[0,4,5]),(20,[0,4,5]),(16,[0,4,5,7])],[6],[],[]⟩
noncomputable abbrev bd:=bodyOf Tryz.f34
noncomputable abbrev q23:=nthC [1,1,1,1,1,1,0,1,0,0] bd
noncomputable abbrev q22:=nthC [1,1,1,1,1,1] bd
noncomputable abbrev q20:=nthC [1,1,1,1,1] bd
noncomputable abbrev q16:=nthC [1,1,1] bd
theorem pl23 {G:Gs} (hG:AE (ents G)) (n:Nat):∀m,PO an (.loop q23) (dl23 G n m):=lpc hG (pc G n) [0,4,86,87,88] ⟨[],[6],[(1,[])]⟩ (apl [] trivial) (λR st K=>by unfold dl23;split<;>rfl) λm R st K r h=>by unfold dl23 at h;split at h;exact .trans (by kernel_rfl) h;cases h
theorem pc22 {G:Gs} (hG:AE (ents G)) {n:Nat}:PO an q22 (dc22 G n):=cpc hG (pc G n) ⟨[],[6],[]⟩ (apl [(1,23,.loop q23)] ⟨pl23 hG n n,trivial⟩) λR st K r h=>by unfold dc22 at h;split at h;exact .trans (by kernel_rfl) h;cases h
theorem pc20 {G:Gs} (hG:AE (ents G)) {n:Nat}:PO an q20 (dc20 G n):=cpc hG (pc G n) ⟨[],[6],[]⟩ (apl [(0,22,q22)] ⟨pc22 hG,trivial⟩) λR st K r h=>by unfold dc20 at h;split at h;exact .trans (by kernel_rfl) h;cases h
theorem pc16 {G:Gs} (hG:AE (ents G)) {n:Nat}:PO an q16 (dc16 G n):=cpc hG (pc G n) ⟨[],[6],[]⟩ (apl [(0,20,q20)] ⟨pc20 hG,trivial⟩) λR st K r h=>by unfold dc16 at h;split at h;exact .trans (by kernel_rfl) h;cases h
theorem ok {G:Gs} (hG:AE (ents G)) {g:Q} (hg:∀xd xc xe xa xb xf xg m2 s r,g xd xc xe xa xb xf xg m2 s=some r->∃n,main (R:=AT×List Ob) G n xd xc xe xa xb xf xg m2 s (λr0 r1=>some (.one (.b r0),[.box [.l .i xd,.l .i xc,.l .i xe,.l .s xa,.l (.n 5) xb,.l (.n 8) xf,.m 1],.map .i r1]))=some (.one (.b r.1),[.box [.l .i xd,.l .i xc,.l .i xe,.l .s xa,.l (.n 5) xb,.l (.n 8) xf,.m 1],.map .i r.2])):EO (ent g):=λR xs H K r hc=>by
 simp only[ent]at hc
 split at hc
 ·obtain⟨r,j1,j2⟩:=bind_some hc
  obtain⟨n,j3⟩:=hg _ _ _ _ _ _ _ _ _ _ j1
  exact⟨_,_,j2,fnP hG an (pc G n) bd [.tmp 6] Tryz.func34 (.inl rfl) (apl [(0,16,q16)] ⟨pc16 hG,trivial⟩) (.trans (by kernel_rfl) j3)⟩
 ·cases hc
end z10
namespace z0k
structure Gs where
 z1j:z1j.Q
 z0y:z0y.Q
 z1p:z1p.Q
 z10:z10.Q
noncomputable def ents (G:Gs):List Ent:=[z1j.ent G.z1j,z0y.ent G.z0y,z1p.ent G.z1p,z10.ent G.z10]
noncomputable def main {R:Type} (G:Gs) (n:Nat) (m2:Md) (x:Sgy) (K:Bool->Option R):Option R:=
 Option.bind (G.z1j m2.sig) λr=>
 ocase r
  (
   K false
  )
  (fun q =>
   Option.bind (G.z0y q.1 q.2.1 q.2.2.1 q.2.2.2.1 q.2.2.2.2.1 q.2.2.2.2.2.1 q.2.2.2.2.2.2 m2) λr2=>
   bif r2.1 then
    (
    Option.bind (G.z1p (Sgy.mk x.kind x.index (Tm.mk x.test.op x.test.name x.test.sort x.test.args) x.kids)) λr3=>
    bif decide (r3<=20)then
     (
     Option.bind (G.z10 q.1 q.2.1 q.2.2.1 q.2.2.2.1 q.2.2.2.2.1 q.2.2.2.2.2.1 r2.2 m2 (Sgy.mk x.kind x.index (Tm.mk x.test.op x.test.name x.test.sort x.test.args) x.kids)) λr4=>
     K r4.1
     )
    else
     K false
    )
   else
    K false
  )
noncomputable def pc (_:Gs) (_:Nat):Pcs:=⟨nK,nK,nK⟩
noncomputable def an:Ann:=⟨30,0,[],[],[4],[],[]⟩
noncomputable abbrev bd:=bodyOf Tryz.f10
theorem ok {G:Gs} (hG:AE (ents G)) {g:Q} (hg:∀m2 x r,g m2 x=some r->∃n,main (R:=AT×List Ob) G n m2 x (λr0=>some (.one (.b r0),[]))=some (.one (.b r),[])):EO (ent g):=λR xs H K r hc=>by
 simp only[ent]at hc
 split at hc
 ·obtain⟨r,j1,j2⟩:=bind_some hc
  obtain⟨n,j3⟩:=hg _ _ _ j1
  exact⟨_,_,j2,fnP hG an (pc G n) bd [.tmp 4] Tryz.func10 (.inl rfl) (apl [] trivial) (.trans (by kernel_rfl) j3)⟩
 ·cases hc
end z0k
namespace z1v
structure Gs where
 z38:z38.Q
 z3e:z3e.Q
 z3r:z3r.Q
 z3w:z3w.Q
 z4k:z4k.Q
 z0k:z0k.Q
 z27:z27.Q
 z2c:z2c.Q
noncomputable def ents (G:Gs):List Ent:=[z38.ent G.z38,z3e.ent G.z3e,z3r.ent G.z3r,z3w.ent G.z3w,z4k.ent G.z4k,z0k.ent G.z0k,z27.ent G.z27,z2c.ent G.z2c]
noncomputable def main {R:Type} (G:Gs) (n:Nat) (aM:Md) (aX:Sgy) (K:Bool->Option R):Option R:=
 Option.bind (G.z38 aM 1048576) λr=>
 bif decide (r<0)then
  (K true)
 else
  Option.bind (G.z3e (Sgy.mk aX.kind aX.index (Tm.mk aX.test.op aX.test.name aX.test.sort aX.test.args) aX.kids) r) λr2=>
  bif decide (r2<0)then
   (K true)
  else
   Option.bind (G.z3r aM) λr4=>
   Option.bind (G.z3w (Sgy.mk aX.kind aX.index (Tm.mk aX.test.op aX.test.name aX.test.sort aX.test.args) aX.kids)) λr6=>
   Option.bind (G.z4k r4 (Sgy.mk r6.kind r6.index (Tm.mk r6.test.op r6.test.name r6.test.sort r6.test.args) r6.kids)) λr8=>
   Option.bind (G.z3r aM) λr9=>
   Option.bind (G.z3w (Sgy.mk aX.kind aX.index (Tm.mk aX.test.op aX.test.name aX.test.sort aX.test.args) aX.kids)) λr10=>
   Option.bind (G.z0k r9 (Sgy.mk r10.kind r10.index (Tm.mk r10.test.op r10.test.name r10.test.sort r10.test.args) r10.kids)) λr11=>
   bif !(r11==r8)then
    (K false)
   else
    Option.bind (G.z3r aM) λr13=>
    Option.bind (G.z27 r9 r13) λr15=>
    bif !r15 then
     (K false)
    else
     Option.bind (G.z3w (Sgy.mk aX.kind aX.index (Tm.mk aX.test.op aX.test.name aX.test.sort aX.test.args) aX.kids)) λr17=>
     Option.bind (G.z2c (Sgy.mk r10.kind r10.index (Tm.mk r10.test.op r10.test.name r10.test.sort r10.test.args) r10.kids) (Sgy.mk r17.kind r17.index (Tm.mk r17.test.op r17.test.name r17.test.sort r17.test.args) r17.kids)) λr19=>
     bif !r19 then
      (K false)
     else
      K true
noncomputable def pc (_:Gs) (_:Nat):Pcs:=⟨nK,nK,nK⟩
noncomputable def an:Ann:=⟨45,0,[],[],[4],[(8,⟨[([0,1,2,3,4,5],[],[])],[],[],[0,1],[]⟩),(14,⟨[([0,1,2,3,4],[],[])],[],[],[0,1,2,3],[]⟩),(16,⟨[([0,1,2,3,4],[],[])],[],[],[0,1,2,3],[]⟩)],[]⟩
noncomputable abbrev bd:=bodyOf Tryz.f3
noncomputable def Does (G:Gs) (aM:Md) (aX:Sgy) (r:Bool):Prop:=∃n,main (R:=AT×List Ob) G n aM aX (λr0=>some (.one (.b r0),[]))=some (.one (.b r),[])
theorem ok {G:Gs} (hG:AE (ents G)) {g:Q} (hg:∀aM aX r,g aM aX=some r->Does G aM aX r):EO (ent g):=λR xs H K r hc=>by
 simp only[ent]at hc
 split at hc
 ·obtain⟨r,j1,j2⟩:=bind_some hc
  obtain⟨n,j3⟩:=hg _ _ _ j1
  exact⟨_,_,j2,fnP hG an (pc G n) bd [.tmp 4] Tryz.func3 (.inl rfl) (apl [] trivial) (.trans (by kernel_rfl) j3)⟩
 ·cases hc
end z1v
open Classical
def kidsN (kd:Int):Option Int:=if kd=1\/kd=2\/kd=4\/kd=3\/kd=10 then some 0 else if kd=5\/kd=6\/kd=7 then some 2 else if kd=8\/kd=9 then some 1 else none
def idxOk (n:Nat) (kd idx:Int):Bool:=if kd=3 then inN n idx else decide (idx=0)
def testOk (s:Sg) (kd:Int) (t:Tm):Bool:=if kd=10 then isT s t&&decide (((varsF t).length:Int)<=5)else decide (cmpT t Zt=0)
def strN (s:Sg) (n:Nat) (F:Sgy->Bool) (x:Sgy):Bool:=match kidsN x.kind with
 |none=>false
 |some k=>decide ((x.kids.length:Int)=k)&&(idxOk n x.kind x.index&&(testOk s x.kind x.test&&x.kids.all F))
def sgyK (s:Sg) (n:Nat):Nat->Sgy->Bool
 |0,_=>false
 |k+1,x=>strN s n (sgyK s n k) x
def sgyF (s:Sg) (n:Nat) (x:Sgy):Bool:=sgyK s n (x.total+1) x
theorem all_congr {α:Type} {F F':α->Bool}:∀{l:List α},(∀y∈l,F y=F' y)->l.all F=l.all F'
 |[],_=>rfl
 |y::l,h=>by rw[List.all_cons,List.all_cons,h y (by simp),all_congr λz hz=>h z (by simp[hz])]
theorem strN_congr {s:Sg} {n:Nat} {F F':Sgy->Bool} {x:Sgy} (h:∀y∈x.kids,F y=F' y):strN s n F x=strN s n F' x:=by
 unfold strN
 rw[all_congr h]
theorem sgyK_eq {s:Sg} {n:Nat}:∀(k j:Nat) (x:Sgy),x.total<k->x.total<j->sgyK s n k x=sgyK s n j x
 |0,_,_,h,_=>absurd h (Nat.not_lt_zero _)
 |_,0,_,_,h=>absurd h (Nat.not_lt_zero _)
 |k+1,j+1,x,h1,h2=>strN_congr λy hy=>sgyK_eq k j y (by have:=kid_total hy;omega) (by have:=kid_total hy;omega)
theorem sgyF_eq (s:Sg) (n:Nat) (x:Sgy):sgyF s n x=strN s n (sgyF s n) x:=strN_congr λy hy=>sgyK_eq _ _ y (kid_total hy) (Nat.lt_succ_self _)
theorem kids_len (x:Sgy):x.kids.length<=x.total:=by
 have:=sgT_len x.kids
 have:=Sgy.total_eq x
 omega
def cntK :Nat->Sgy->Nat
 |0,_=>0
 |k+1,x=>1+wS (cntK k) x.kids
def sgN (x:Sgy):Nat:=cntK (x.total+1) x
theorem wSg_congr {A:Type} {f g:A->Nat}:∀{l:List A},(∀y∈l,f y=g y)->wS f l=wS g l
 |[],_=>rfl
 |y::l,h=>by rw[wS_cons,wS_cons,h y (by simp),wSg_congr λz hz=>h z (by simp[hz])]
theorem cntK_eq :∀(k j:Nat) (x:Sgy),x.total<k->x.total<j->cntK k x=cntK j x
 |0,_,_,h,_=>absurd h (Nat.not_lt_zero _)
 |_,0,_,_,h=>absurd h (Nat.not_lt_zero _)
 | k + 1, j + 1, x, h1, h2 => by
  unfold cntK
  rw[wSg_congr λy hy=>cntK_eq k j y (by have:=kid_total hy;omega) (by have:=kid_total hy;omega)]
theorem sgN_eq (x:Sgy):sgN x=1+wS sgN x.kids:=by
 show cntK (x.total+1) x=_
 unfold cntK
 rw[wSg_congr λy hy=>cntK_eq _ (y.total+1) y (kid_total hy) (Nat.lt_succ_self _)]
 rfl
theorem wS_le :∀{l:List Sgy},(∀y∈l,sgN y<=y.total+1)->wS sgN l<=sgTot l
 |[],_=>Nat.le_refl _
 | y :: l, h => by
  rw[wS_cons,sgT_cons]
  have:=h y (by simp)
  have:=wS_le (l:=l) λz hz=>h z (by simp[hz])
  omega
theorem sgN_le :∀(k:Nat) (x:Sgy),x.total<k->sgN x<=x.total+1
 |0,_,h=>absurd h (Nat.not_lt_zero _)
 | k + 1, x, h => by
  rw[sgN_eq]
  have:=wS_le (l:=x.kids) λy hy=>sgN_le k y (by have:=kid_total hy;omega)
  have:=Sgy.total_eq x
  omega
theorem sgN_le' (x:Sgy):sgN x<=x.total+1:=sgN_le _ x (Nat.lt_succ_self _)
theorem sgN_pos (x:Sgy):1<=sgN x:=by rw[sgN_eq];omega
def lfF (n:Nat) (left:Int):Int:=if (n:Int)<=left then left-n else -1
noncomputable def gLft (k:Nat):Sgy->Int->Option Int:=λx left=>if x.total<k/\0<=left/\left<=100 then some (lfF (sgN x) left)else none
theorem lf_loop {R:Type} (n k:Nat) (h0 h02 h03:Int) (h04:ByteArray) (h05:Int) (h06:List Tm) (ks:List Sgy) (hk:∀y∈ks,y.total<k) (hl:ks.length<4294967296) (k0:Int->Option R):∀m (i:Nat) (left:Int), -1<=left->left<=100->i<=ks.length->ks.length-i<m->
  z58.l3 ⟨gLft k⟩ n m h0 h02 h03 h04 h05 h06 ks left (i:Int) k0=k0 (lfF (wS sgN (ks.drop i)) left):=by
 intro m
 induction m with
 |zero=>intro i left _ _ _ hm;omega
 | succ m ih =>
  intro i left l1 l2 h1 hm
  show z58.b3 ⟨gLft k⟩ n h0 h02 h03 h04 h05 h06 ks left (i:Int) (λy0 y1=>z58.l3 ⟨gLft k⟩ n m h0 h02 h03 h04 h05 h06 ks y0 y1 k0) k0=_
  unfold z58.b3
  by_cases hi:i<ks.length
  ·obtain⟨x,x1,x2⟩:=get_lt hi
   rw[lt_nat hi,cT,drop_get x1,wS_cons]
   have hp:=sgN_pos x
   by_cases h0l:0<=left
   ·rw[dT h0l,cT,ix_get x1,bS,Tm.eta,Sgy.eta,wr_one (by omega)]
    show Option.bind (gLft k x left) _=_
    rw[show gLft k x left=some (lfF (sgN x) left)from if_pos ⟨hk x x2,h0l,l2⟩,bS]
    dsimp only
    have b: -1<=lfF (sgN x) left/\lfF (sgN x) left<=100:=by unfold lfF;split<;>omega
    rw[ih (i+1) _ b.1 b.2 hi (by omega)]
    congr 1
    unfold lfF
    by_cases c1:(sgN x:Int)<=left
    ·rw[if_pos c1]
     by_cases c2:((wS sgN (ks.drop (i+1)):Nat):Int)<=left-sgN x
     ·rw[if_pos c2,if_pos (by omega)];omega
     ·rw[if_neg c2,if_neg (by omega)]
    ·rw[if_neg c1,if_neg (by omega),if_neg (by omega)]
   ·rw[dF h0l,cF]
    unfold lfF
    rw[if_neg (by omega),show left= -1 by omega]
  ·obtain rfl:i=ks.length:=by omega
   rw[nlt_nat (Nat.lt_irrefl _),cF,drop_nat]
   unfold lfF wS
   simp only[List.map_nil,List.sum_nil]
   by_cases h0l:0<=left
   ·rw[if_pos (by omega)];simp
   ·rw[if_neg (by omega),show left= -1 by omega]
theorem l30Left_ok :∀k,k<=4294967296->EO (z58.ent (gLft k))
 | 0, _ => fun R xs H K r h => by
  simp only[z58.ent]at h
  split at h
  ·simp[gLft]at h
  ·cases h
 | k + 1, hk => z58.ok       (G := ⟨gLft k⟩) ⟨l30Left_ok k (by omega), trivial⟩ fun x left r h => by
  unfold gLft at h
  split at h
  ·rename_i hs
   obtain⟨ht,h0,h1⟩:=hs
   cases h
   have hkl:=kids_len x
   refine⟨x.kids.length+1,?_⟩
   unfold z58.main
   rw[wr_in (x:=left-1) (by omega)]
   refine(lf_loop _ k _ _ _ _ _ _ x.kids (λy hy=>by have:=kid_total hy;omega) (by omega) _ _ 0 (left-1) (by omega) (by omega) (by omega) (by omega)).trans ?_
   rw[List.drop_zero]
   have e:lfF (wS sgN x.kids) (left-1)=lfF (sgN x) left:=by
    unfold lfF
    rw[sgN_eq]
    by_cases c:((wS sgN x.kids:Nat):Int)<=left-1
    ·rw[if_pos c,if_pos (by omega)];omega
    ·rw[if_neg c,if_neg (by omega)]
   rw[e]
  ·cases h
noncomputable def gRt (k:Nat):Md->Sgy->Option (Bool×Md):=λm x=>if sigF m.sig=true/\m.rules.length<=16/\x.total<k then some (sgyF m.sig m.rules.length x,m)else none
noncomputable abbrev GRt (k:Nat):z59.Gs:={z5l:=gSame 4294967296,z59:=gRt k,z51:=gIn3,z4m:=gIsTS,z4t:=gVs}
section
variable {R : Type} {m : Md} (hS : sigF m.sig = true) (hr : m.rules.length ≤ 16) (k : Nat)
include hS hr
theorem rt_c22 (n:Nat) (h1 h12 h13:Int) (h14:ByteArray) (h15:Int) (h16:List Tm) (ks:List Sgy) (hks:∀y∈ks,y.total<k) (hl:ks.length<n) (hn:ks.length<4294967296) (k0:Bool->List ByteArray->List Sb->List Opr->List Eqn->List Eqn->Option R):
  z59.c22 (GRt k) n m.sig.sorts.names m.sig.sorts.subs m.sig.ops m.eqs m.rules h1 h12 h13 h14 h15 h16 ks k0=k0 (ks.all (sgyF m.sig m.rules.length)) m.sig.sorts.names m.sig.sorts.subs m.sig.ops m.eqs m.rules:=by
 unfold z59.c22
 refine(all1 ks (sgyF m.sig m.rules.length) (m.sig.sorts.names,m.sig.sorts.subs,m.sig.ops,m.eqs,m.rules) (λi a nx=>z59.b23 (GRt k) n h1 h12 h13 h14 h15 h16 ks i a.1 a.2.1 a.2.2.1 a.2.2.2.1 a.2.2.2.2 (λy0 y1 y2 y3 y4 y5=>nx y0 (y1,y2,y3,y4,y5)) (λt4 h06 h07 h08 h09 h010=>k0 t4 h06 h07 h08 h09 h010) (λh062 h072 h082 h092 h0102=>k0 true h062 h072 h082 h092 h0102)) (k0 false m.sig.sorts.names m.sig.sorts.subs m.sig.ops m.eqs m.rules) (k0 true m.sig.sorts.names m.sig.sorts.subs m.sig.ops m.eqs m.rules) (λnx=> ?_) (λi x nx hi=> ?_) n 0 (by omega) (by omega)).trans ?_
 ·unfold z59.b23
  rw[nlt_nat (Nat.lt_irrefl _),cF]
 ·have hil:i<ks.length:=(gI.1 hi).1
  unfold z59.b23
  rw[lt_nat hil,cT,ix_get hi,bS,Tm.eta,Sgy.eta,wr_one (by omega)]
  show Option.bind (gRt k m x) _=_
  rw[show gRt k m x=some (sgyF m.sig m.rules.length x,m)from if_pos ⟨hS,hr,hks x (mG hi)⟩,bS]
  dsimp only
  cases sgyF m.sig m.rules.length x<;>rfl
 ·rw[List.drop_zero]
  cases ks.all (sgyF m.sig m.rules.length)<;>rfl
def tailR (F:Sgy->Bool) (kids:Int) (x:Sgy):Bool:=(decide (x.kind=3)||decide (x.index=0))&&((decide (x.kind=10)||decide (cmpT x.test Zt=0))&&(decide ((x.kids.length:Int)=kids)&&x.kids.all F))
theorem rt_c20 (hk:k<=1073741823) (n:Nat) (kids:Int) (x:Sgy) (hx:x.total<k+1) (hl:x.kids.length<n) (k0:Bool->List ByteArray->List Sb->List Opr->List Eqn->List Eqn->Option R):
  z59.c20 (GRt k) n kids m.sig.sorts.names m.sig.sorts.subs m.sig.ops m.eqs m.rules x.kind x.index x.test.op x.test.name x.test.sort x.test.args x.kids k0=k0 (tailR (sgyF m.sig m.rules.length) kids x) m.sig.sorts.names m.sig.sorts.subs m.sig.ops m.eqs m.rules:=by
 have hkl:=kids_len x
 have ht:=Sgy.total_eq x
 have c22:=λk0=>rt_c22 (R:=R) hS hr k n x.kind x.index x.test.op x.test.name x.test.sort x.test.args x.kids (λy hy=>by have:=kid_total hy;omega) hl (by omega) k0
 have es:gSame 4294967296 (Tm.mk x.test.op x.test.name x.test.sort x.test.args) (Tm.mk 0 ByteArray.empty 0 [])=some (decide (cmpT x.test Zt=0)):=by
  rw[Tm.eta]
  exact if_pos (by omega)
 unfold z59.c20 tailR
 have t1:(bif !decide ((x.kids.length:Int)=kids)then k0 false m.sig.sorts.names m.sig.sorts.subs m.sig.ops m.eqs m.rules else z59.c22 (GRt k) n m.sig.sorts.names m.sig.sorts.subs m.sig.ops m.eqs m.rules x.kind x.index x.test.op x.test.name x.test.sort x.test.args x.kids k0)=k0 (decide ((x.kids.length:Int)=kids)&&x.kids.all (sgyF m.sig m.rules.length)) m.sig.sorts.names m.sig.sorts.subs m.sig.ops m.eqs m.rules:=by
  rw[c22]
  cases decide ((x.kids.length:Int)=kids)<;>rfl
 have t2:(bif !decide (x.kind=10)then (Option.bind (gSame 4294967296 (Tm.mk x.test.op x.test.name x.test.sort x.test.args) (Tm.mk 0 ByteArray.empty 0 [])) λr=>bif !r then k0 false m.sig.sorts.names m.sig.sorts.subs m.sig.ops m.eqs m.rules else (bif !decide ((x.kids.length:Int)=kids)then k0 false m.sig.sorts.names m.sig.sorts.subs m.sig.ops m.eqs m.rules else z59.c22 (GRt k) n m.sig.sorts.names m.sig.sorts.subs m.sig.ops m.eqs m.rules x.kind x.index x.test.op x.test.name x.test.sort x.test.args x.kids k0))else (bif !decide ((x.kids.length:Int)=kids)then k0 false m.sig.sorts.names m.sig.sorts.subs m.sig.ops m.eqs m.rules else z59.c22 (GRt k) n m.sig.sorts.names m.sig.sorts.subs m.sig.ops m.eqs m.rules x.kind x.index x.test.op x.test.name x.test.sort x.test.args x.kids k0))=k0 ((decide (x.kind=10)||decide (cmpT x.test Zt=0))&&(decide ((x.kids.length:Int)=kids)&&x.kids.all (sgyF m.sig m.rules.length))) m.sig.sorts.names m.sig.sorts.subs m.sig.ops m.eqs m.rules:=by
  rw[t1,es,bS]
  cases decide (x.kind=10)<;>cases decide (cmpT x.test Zt=0)<;>rfl
 have t3:(bif !decide (x.kind=3)then (bif !decide (x.index=0)then k0 false m.sig.sorts.names m.sig.sorts.subs m.sig.ops m.eqs m.rules else k0 ((decide (x.kind=10)||decide (cmpT x.test Zt=0))&&(decide ((x.kids.length:Int)=kids)&&x.kids.all (sgyF m.sig m.rules.length))) m.sig.sorts.names m.sig.sorts.subs m.sig.ops m.eqs m.rules)else k0 ((decide (x.kind=10)||decide (cmpT x.test Zt=0))&&(decide ((x.kids.length:Int)=kids)&&x.kids.all (sgyF m.sig m.rules.length))) m.sig.sorts.names m.sig.sorts.subs m.sig.ops m.eqs m.rules)=k0 ((decide (x.kind=3)||decide (x.index=0))&&((decide (x.kind=10)||decide (cmpT x.test Zt=0))&&(decide ((x.kids.length:Int)=kids)&&x.kids.all (sgyF m.sig m.rules.length)))) m.sig.sorts.names m.sig.sorts.subs m.sig.ops m.eqs m.rules:=by
  cases decide (x.kind=3)<;>cases decide (x.index=0)<;>rfl
 rw[<-t2]at t3
 exact t3
end
theorem tail_0 {s:Sg} {n:Nat} {F:Sgy->Bool} {x:Sgy} {k:Int} (hk:kidsN x.kind=some k) (h3:x.kind≠3) (h10:x.kind≠10):tailR F k x=strN s n F x:=by
 unfold tailR strN
 rw[hk]
 unfold idxOk testOk
 rw[if_neg h3,if_neg h10,dF h3,dF h10]
 simp only
 cases decide ((x.kids.length:Int)=k)<;>cases decide (x.index=0)<;>cases decide (cmpT x.test Zt=0)<;>rfl
theorem tail_3 {s:Sg} {n:Nat} {F:Sgy->Bool} {x:Sgy} (h3:x.kind=3):(inN n x.index&&tailR F 0 x)=strN s n F x:=by
 have hk:kidsN x.kind=some 0:=by unfold kidsN;rw[if_pos (by omega)]
 unfold tailR strN
 rw[hk]
 unfold idxOk testOk
 rw[if_pos h3,if_neg (show ¬x.kind=10 by omega),dT h3,dF (show ¬x.kind=10 by omega)]
 simp only
 cases decide ((x.kids.length:Int)=0)<;>cases inN n x.index<;>cases decide (cmpT x.test Zt=0)<;>rfl
theorem tail_10 {s:Sg} {n:Nat} {F:Sgy->Bool} {x:Sgy} (h10:x.kind=10):((isT s x.test&&decide (((varsF x.test).length:Int)<=5))&&tailR F 0 x)=strN s n F x:=by
 have hk:kidsN x.kind=some 0:=by unfold kidsN;rw[if_pos (by omega)]
 unfold tailR strN
 rw[hk]
 unfold idxOk testOk
 rw[if_neg (show ¬x.kind=3 by omega),if_pos h10,dF (show ¬x.kind=3 by omega),dT h10]
 simp only
 cases decide ((x.kids.length:Int)=0)<;>cases decide (x.index=0)<;>cases isT s x.test<;>cases decide (((varsF x.test).length:Int)<=5)<;>rfl
theorem rt_main {R:Type} {m:Md} (hS:sigF m.sig=true) (hr:m.rules.length<=16) (k:Nat) (hk:k<1073741823) (x:Sgy) (hx:x.total<k+1) (K:Bool->Md->Option R):
  z59.main (GRt k) (x.kids.length+1) m x K=K (sgyF m.sig m.rules.length x) m:=by
 have ht:=Sgy.total_eq x
 have c20:=λkids k0=>rt_c20 (R:=R) hS hr k (by omega) (x.kids.length+1) kids x hx (by omega) k0
 unfold z59.main
 rw[sgyF_eq]
 by_cases k1:x.kind=1
 ·rw[dT k1,cT,c20,tail_0 (s:=m.sig) (n:=m.rules.length) (by unfold kidsN;rw[if_pos (by omega)]) (by omega) (by omega)]
 rw[dF k1,cF]
 by_cases k2:x.kind=2
 ·rw[dT k2,cT,c20,tail_0 (s:=m.sig) (n:=m.rules.length) (by unfold kidsN;rw[if_pos (by omega)]) (by omega) (by omega)]
 rw[dF k2,cF]
 by_cases k4:x.kind=4
 ·rw[dT k4,cT,c20,tail_0 (s:=m.sig) (n:=m.rules.length) (by unfold kidsN;rw[if_pos (by omega)]) (by omega) (by omega)]
 rw[dF k4,cF]
 by_cases k3:x.kind=3
 ·rw[dT k3,cT]
  show Option.bind (gIn3 x.index 0 (wr ((m.rules.length:Int)-1))) _=_
  rw[in_len (by omega),bS,c20,<-tail_3 (s:=m.sig) k3]
  cases inN m.rules.length x.index<;>rfl
 rw[dF k3,cF]
 by_cases k5:x.kind=5
 ·rw[dT k5,cT,c20,tail_0 (s:=m.sig) (n:=m.rules.length) (by unfold kidsN;rw[if_neg (by omega),if_pos (by omega)]) (by omega) (by omega)]
 rw[dF k5,cF]
 by_cases k6:x.kind=6
 ·rw[dT k6,cT,c20,tail_0 (s:=m.sig) (n:=m.rules.length) (by unfold kidsN;rw[if_neg (by omega),if_pos (by omega)]) (by omega) (by omega)]
 rw[dF k6,cF]
 by_cases k7:x.kind=7
 ·rw[dT k7,cT,c20,tail_0 (s:=m.sig) (n:=m.rules.length) (by unfold kidsN;rw[if_neg (by omega),if_pos (by omega)]) (by omega) (by omega)]
 rw[dF k7,cF]
 by_cases k8:x.kind=8
 ·rw[dT k8,cT,c20,tail_0 (s:=m.sig) (n:=m.rules.length) (by unfold kidsN;rw[if_neg (by omega),if_neg (by omega),if_pos (by omega)]) (by omega) (by omega)]
 rw[dF k8,cF]
 by_cases k9:x.kind=9
 ·rw[dT k9,cT,c20,tail_0 (s:=m.sig) (n:=m.rules.length) (by unfold kidsN;rw[if_neg (by omega),if_neg (by omega),if_pos (by omega)]) (by omega) (by omega)]
 rw[dF k9,cF]
 by_cases k10:x.kind=10
 ·rw[dT k10,cT,Tm.eta]
  show Option.bind (gIsTS m.sig x.test) _=_
  rw[show gIsTS m.sig x.test=some (sigF m.sig&&isT m.sig x.test)from if_pos (by omega),bS,hS,Bool.true_and,c20,<-tail_10 k10]
  cases isT m.sig x.test with
  |false=>rfl
  | true =>
   rw[Bool.not_true,cF]
   show Option.bind (gVs x.test) _=_
   rw[show gVs x.test=some (varsF x.test)from if_pos (by omega),bS,len_le,Bool.true_and]
   cases decide (((varsF x.test).length:Int)<=5)<;>rfl
 ·rw[dF k10,cF]
  unfold strN kidsN
  rw[if_neg (by omega),if_neg (by omega),if_neg (by omega)]
theorem l30Right_ok :∀k,k<=1073741823->EO (z59.ent (gRt k))
 | 0, _ => fun R xs H K r h => by
  simp only[z59.ent]at h
  split at h
  ·simp[gRt]at h
  ·cases h
 | k + 1, hk => z59.ok        (G := GRt k) ⟨l5Same_ok _ (Nat.le_refl _), l30Right_ok k (by omega), l1In_ok, z4n        , z4u             , trivial⟩ fun m x r h => by
  unfold gRt at h
  split at h
  ·rename_i hs
   obtain⟨hS,hr,hx⟩:=hs
   cases h
   exact⟨x.kids.length+1,(rt_main hS hr k (by omega) x hx _).trans rfl⟩
  ·cases h
noncomputable def isStrF (m:Md) (x:Sgy):Bool:=(sigF m.sig&&modF m)&&(decide (sgN x<=20)&&sgyF m.sig m.rules.length x)
noncomputable def gIsS:Md->Sgy->Option Bool:=λm x=>if SmM m/\x.total<1048577 then some (isStrF m x)else none
theorem z4l :EO (z4k.ent gIsS):=z4k.ok (G:=⟨gMdS,gLft 1048577,gRt 1048577⟩) ⟨z4d,l30Left_ok _ (by omega),l30Right_ok _ (by omega),trivial⟩ λm x r h=>by
 unfold gIsS at h
 split at h
 ·rename_i hs
  obtain⟨hm,hx⟩:=hs
  cases h
  refine⟨1,?_⟩
  unfold z4k.main isStrF
  show Option.bind (gMdS m) _=_
  rw[show gMdS m=some (sigF m.sig&&modF m)from if_pos hm,bS]
  cases hb:(sigF m.sig&&modF m)with
  |false=>rfl
  | true =>
   rw[cT,Bool.true_and,Tm.eta,Sgy.eta]
   show Option.bind (gLft 1048577 x 20) _=_
   rw[show gLft 1048577 x 20=some (lfF (sgN x) 20)from if_pos ⟨hx,by omega,by omega⟩,bS]
   have hsr:sigF m.sig=true/\m.rules.length<=16:=by
    unfold modF at hb
    simp only[bA,decide_eq_true_eq]at hb
    exact⟨hb.1,by have:=hb.2.1.2;omega⟩
   unfold lfF
   by_cases c:sgN x<=20
   ·rw[if_pos (by omega),dT (show (0:Int)<=20-(sgN x:Int) by omega),cT,dT c,Bool.true_and]
    show Option.bind (gRt 1048577 m x) _=_
    rw[show gRt 1048577 m x=some (sgyF m.sig m.rules.length x,m)from if_pos ⟨hsr.1,hsr.2,hx⟩]
    rfl
   ·rw[if_neg (by omega),dF c]
    rfl
 ·cases h
open Classical
noncomputable def gSs (k:Nat):Sgy->Option Int:=λx=>if x.total<k then some (sgN x:Int)else none
theorem ssz_loop {R:Type} (n k:Nat) (ks:List Sgy) (hk:∀y∈ks,y.total<k) (hl:sgTot ks<4294967296) (k0:Int->Option R):∀m (i a:Nat),a+wS sgN (ks.drop i)<9223372036854775807->i<=ks.length->ks.length-i<m->
  z1p.l3 ⟨gSs k⟩ n m ks (ks.length:Int) (a:Int) (i:Int) k0=k0 ((a+wS sgN (ks.drop i):Nat):Int):=by
 have hll:=sgT_len ks
 intro m
 induction m with
 |zero=>intro i a _ _ hm;omega
 | succ m ih =>
  intro i a ha h1 hm
  show z1p.b3 ⟨gSs k⟩ n ks (ks.length:Int) (a:Int) (i:Int) (λy0 y1=>z1p.l3 ⟨gSs k⟩ n m ks (ks.length:Int) y0 y1 k0) k0=_
  unfold z1p.b3
  by_cases hi:i<ks.length
  ·obtain⟨x,x1,x2⟩:=get_lt hi
   rw[drop_get x1,wS_cons]at ha ⊢
   rw[lt_nat hi,cT,ix_get x1,bS,Tm.eta,Sgy.eta,wr_one (by omega)]
   show Option.bind (gSs k x) _=_
   rw[show gSs k x=some (sgN x:Int)from if_pos (hk x x2),bS]
   dsimp only
   rw[wr_in (x:=(a:Int)+(sgN x:Int)) (by omega),show (a:Int)+(sgN x:Int)=((a+sgN x:Nat):Int) by omega,ih (i+1) (a+sgN x) (by omega) hi (by omega),Nat.add_assoc]
  ·obtain rfl:i=ks.length:=by omega
   rw[nlt_nat (Nat.lt_irrefl _),cF,drop_nat]
   rfl
theorem strategySize_ok :∀k,k<=4294967296->EO (z1p.ent (gSs k))
 | 0, _ => fun R xs H K r h => by
  simp only[z1p.ent]at h
  split at h
  ·simp[gSs]at h
  ·cases h
 | k + 1, hk => z1p.ok            (G := ⟨gSs k⟩) ⟨strategySize_ok k (by omega), trivial⟩ fun x r h => by
  unfold gSs at h
  split at h
  ·rename_i hx
   cases h
   have ht:=Sgy.total_eq x
   have hn:=sgN_le' x
   have he:=sgN_eq x
   refine⟨x.kids.length+1,?_⟩
   unfold z1p.main
   refine(ssz_loop _ k x.kids (λy hy=>by have:=kid_total hy;omega) (by omega) _ (x.kids.length+1) 0 1 (by rw[List.drop_zero];omega) (by omega) (by omega)).trans ?_
   rw[List.drop_zero,<-he]
  ·cases h
noncomputable def gSa (k:Nat):List Int->List Int->List Int->List ByteArray->List Sb->List Opr->Mp->Md->Sgy->Option (Bool×Mp):=λab _ kd nm sb ops mp m x=>if Alg kd nm sb ops/\ab.length=nm.length/\m.rules.length<=16/\x.total<k then some (sgyF ⟨⟨nm,sb⟩,ops⟩ m.rules.length x,mp)else none
noncomputable abbrev GSa (k:Nat):z10.Gs:={z11:=gIsA,z0r:=gVs,z1m:=gSame 4294967296,z10:=gSa k}
section
variable {R : Type} {kd ab be : List Int} {nm : List ByteArray} {sb : List Sb} {ops : List Opr} (hA : Alg kd nm sb ops) (hab : ab.length = nm.length) {m : Md} (hr : m.rules.length ≤ 16) (k : Nat)
include hA hab hr
theorem sa_c22 (n:Nat) (h2:List ByteArray) (h22:List Sb) (h23:List Opr) (h24 h25:List Eqn) (h25r:h25=m.rules) (h3 h32 h33:Int) (h34:ByteArray) (h35:Int) (h36:List Tm) (ks:List Sgy) (hks:∀y∈ks,y.total<k) (hl:ks.length<n) (hn:ks.length<4294967296) (mp:Mp) (k0:Bool->Mp->Option R):
  z10.c22 (GSa k) n ab be kd nm sb ops mp h2 h22 h23 h24 h25 h3 h32 h33 h34 h35 h36 ks k0=k0 (ks.all (sgyF ⟨⟨nm,sb⟩,ops⟩ m.rules.length)) mp:=by
 unfold z10.c22
 refine(all1 ks (sgyF ⟨⟨nm,sb⟩,ops⟩ m.rules.length) mp (λi a nx=>z10.b23 (GSa k) n ab be kd nm sb ops ks (ks.length:Int) h2 h22 h23 h24 h25 i a nx (λt6 h12=>k0 t6 h12) (λh122=>k0 true h122)) (k0 false mp) (k0 true mp) (λnx=> ?_) (λi x nx hi=> ?_) n 0 (by omega) (by omega)).trans ?_
 ·unfold z10.b23
  rw[nlt_nat (Nat.lt_irrefl _),cF]
 ·have hil:i<ks.length:=(gI.1 hi).1
  unfold z10.b23
  rw[lt_nat hil,cT,ix_get hi,bS,Tm.eta,Sgy.eta,wr_one (by omega)]
  subst h25r
  show Option.bind (gSa k ab be kd nm sb ops mp (Md.mk (Sg.mk (So.mk h2 h22) h23) h24 m.rules) x) _=_
  rw[show gSa k ab be kd nm sb ops mp (Md.mk (Sg.mk (So.mk h2 h22) h23) h24 m.rules) x=some (sgyF ⟨⟨nm,sb⟩,ops⟩ m.rules.length x,mp)from if_pos ⟨hA,hab,hr,hks x (mG hi)⟩,bS]
  dsimp only
  cases sgyF ⟨⟨nm,sb⟩,ops⟩ m.rules.length x<;>rfl
 ·rw[List.drop_zero]
  cases ks.all (sgyF ⟨⟨nm,sb⟩,ops⟩ m.rules.length)<;>rfl
theorem sa_c20 (hk:k<=1073741822) (n:Nat) (x:Sgy) (hx:x.total<k+1) (hl:x.kids.length<n) (mp:Mp) (k0:Bool->Mp->Option R):
  z10.c20 (GSa k) n ab be kd nm sb ops mp m.sig.sorts.names m.sig.sorts.subs m.sig.ops m.eqs m.rules x.kind x.index x.test.op x.test.name x.test.sort x.test.args x.kids k0=k0 (testOk ⟨⟨nm,sb⟩,ops⟩ x.kind x.test&&x.kids.all (sgyF ⟨⟨nm,sb⟩,ops⟩ m.rules.length)) mp:=by
 have hkl:=kids_len x
 have ht:=Sgy.total_eq x
 have c22:=λk0=>sa_c22 (R:=R) (be:=be) hA hab hr k n m.sig.sorts.names m.sig.sorts.subs m.sig.ops m.eqs m.rules rfl x.kind x.index x.test.op x.test.name x.test.sort x.test.args x.kids (λy hy=>by have:=kid_total hy;omega) hl (by omega) mp k0
 unfold z10.c20 testOk
 rw[Tm.eta]
 by_cases h10:x.kind=10
 ·rw [decide_eq_true h10, cond_true, if_pos h10]
  show Option.bind (gIsA ab be kd nm sb ops mp x.test) _=_
  rw[show gIsA ab be kd nm sb ops mp x.test=some (isT ⟨⟨nm,sb⟩,ops⟩ x.test,mp)from if_pos ⟨hA,hab,by omega⟩,bS]
  cases isT ⟨⟨nm,sb⟩,ops⟩ x.test with
  |false=>rfl
  | true =>
   simp only[Bool.not_true,cF,Bool.true_and]
   show Option.bind (gVs x.test) _=_
   rw[show gVs x.test=some (varsF x.test)from if_pos (by omega),bS,len_le]
   cases decide (((varsF x.test).length:Int)<=5)with
   |false=>rfl
   | true =>
    simp only[Bool.not_true,cF,Bool.true_and]
    exact c22 _
 ·rw[dF h10,cF,if_neg h10,Bool.not_false,cT]
  show Option.bind (gSame 4294967296 x.test Zt) _=_
  rw[show gSame 4294967296 x.test Zt=some (decide (cmpT x.test Zt=0))from if_pos (by omega),bS]
  cases decide (cmpT x.test Zt=0)with
  |false=>rfl
  | true =>
   simp only[Bool.not_true,cF,Bool.true_and]
   exact c22 _
theorem sa_c16 (hk:k<=1073741822) (n:Nat) (kids:Int) (x:Sgy) (hkn:kidsN x.kind=some kids) (hx:x.total<k+1) (hl:x.kids.length<n) (mp:Mp) (k0:Bool->Mp->Option R):
  z10.c16 (GSa k) n ab be kd nm sb ops kids mp m.sig.sorts.names m.sig.sorts.subs m.sig.ops m.eqs m.rules x.kind x.index x.test.op x.test.name x.test.sort x.test.args x.kids k0=k0 (sgyF ⟨⟨nm,sb⟩,ops⟩ m.rules.length x) mp:=by
 have c20:=λk0=>sa_c20 (R:=R) (be:=be) hA hab hr k hk n x hx hl mp k0
 rw[sgyF_eq]
 unfold z10.c16 strN
 rw[hkn]
 dsimp only
 cases decide ((x.kids.length:Int)=kids)with
 |false=>rfl
 | true =>
  rw[Bool.not_true,cF,Bool.true_and]
  unfold idxOk
  by_cases h3:x.kind=3
  ·rw [decide_eq_true h3, cond_true, if_pos h3]
   unfold inN
   by_cases g0:x.index<0
   ·rw[dT g0,cT,dF (show ¬0<=x.index by omega)];rfl
   ·rw[dF g0,cF,dT (show 0<=x.index by omega),Bool.true_and]
    by_cases g1:(m.rules.length:Int)<=x.index
    ·rw[dT g1,cT,dF (show ¬x.index<(m.rules.length:Int) by omega)];rfl
    ·rw[dF g1,cF,dT (show x.index<(m.rules.length:Int) by omega),Bool.true_and,Bool.not_true,cF]
     exact c20 _
  ·rw[dF h3,cF,if_neg h3,Bool.not_false,cT]
   cases decide (x.index=0)with
   |false=>rfl
   | true =>
    rw[Bool.not_true,cF,Bool.true_and]
    exact c20 _
theorem sa_main (hk:k<=1073741822) (x:Sgy) (hx:x.total<k+1) (mp:Mp) (K:Bool->Mp->Option R):
  z10.main (GSa k) (x.kids.length+1) ab be kd nm sb ops mp m x K=K (sgyF ⟨⟨nm,sb⟩,ops⟩ m.rules.length x) mp:=by
 have c16:=λkids hkn k0=>sa_c16 (R:=R) (be:=be) hA hab hr k hk (x.kids.length+1) kids x hkn hx (Nat.lt_succ_self _) mp k0
 unfold z10.main
 by_cases k1:x.kind=1
 ·rw[dT k1,cT,c16 0 (by unfold kidsN;rw[if_pos (by omega)])]
 rw[dF k1,cF]
 by_cases k2:x.kind=2
 ·rw[dT k2,cT,c16 0 (by unfold kidsN;rw[if_pos (by omega)])]
 rw[dF k2,cF]
 by_cases k4:x.kind=4
 ·rw[dT k4,cT,c16 0 (by unfold kidsN;rw[if_pos (by omega)])]
 rw[dF k4,cF]
 by_cases k3:x.kind=3
 ·rw[dT k3,cT,c16 0 (by unfold kidsN;rw[if_pos (by omega)])]
 rw[dF k3,cF]
 by_cases k10:x.kind=10
 ·rw[dT k10,cT,c16 0 (by unfold kidsN;rw[if_pos (by omega)])]
 rw[dF k10,cF]
 by_cases k5:x.kind=5
 ·rw[dT k5,cT,c16 2 (by unfold kidsN;rw[if_neg (by omega),if_pos (by omega)])]
 rw[dF k5,cF]
 by_cases k6:x.kind=6
 ·rw[dT k6,cT,c16 2 (by unfold kidsN;rw[if_neg (by omega),if_pos (by omega)])]
 rw[dF k6,cF]
 by_cases k7:x.kind=7
 ·rw[dT k7,cT,c16 2 (by unfold kidsN;rw[if_neg (by omega),if_pos (by omega)])]
 rw[dF k7,cF]
 by_cases k8:x.kind=8
 ·rw[dT k8,cT,c16 1 (by unfold kidsN;rw[if_neg (by omega),if_neg (by omega),if_pos (by omega)])]
 rw[dF k8,cF]
 by_cases k9:x.kind=9
 ·rw[dT k9,cT,c16 1 (by unfold kidsN;rw[if_neg (by omega),if_neg (by omega),if_pos (by omega)])]
 rw[dF k9,cF,sgyF_eq]
 unfold strN kidsN
 rw[if_neg (by omega),if_neg (by omega),if_neg (by omega)]
end
theorem isStrategy_ok :∀k,k<=1073741822->EO (z10.ent (gSa k))
 | 0, _ => fun R xs H K r h => by
  simp only[z10.ent]at h
  split at h
  ·simp[gSa]at h
  ·cases h
 | k + 1, hk => z10.ok                  (G := GSa k) ⟨isTermA_ok, z0t             , z1n           _ (Nat.le_refl _), isStrategy_ok k (by omega), trivial⟩ fun ab be kd nm sb ops mp m x r h => by
  unfold gSa at h
  split at h
  ·rename_i hs
   obtain⟨hA,hab,hr,hx⟩:=hs
   cases h
   exact⟨x.kids.length+1,(sa_main hA hab hr k (by omega) x hx mp _).trans rfl⟩
  ·cases h
theorem z0l :EO (z0k.ent gIsS):=z0k.ok (G:=⟨gNewA,gHasE,gSs 1048577,gSa 1048577⟩) ⟨newAlgebra_ok,hasEquations_ok,strategySize_ok _ (by omega),isStrategy_ok _ (by omega),trivial⟩ λm x r h=>by
 unfold gIsS at h
 split at h
 ·rename_i hs
  obtain⟨hm,hx⟩:=hs
  cases h
  refine⟨1,?_⟩
  obtain⟨⟨⟨nm,sb⟩,ops⟩,eqs,rules⟩:=m
  unfold z0k.main isStrF
  show Option.bind (gNewA ⟨⟨nm,sb⟩,ops⟩) _=_
  unfold gNewA
  rw[bS]
  by_cases hS:sigF ⟨⟨nm,sb⟩,ops⟩=true
  ·rw [if_pos hS, hS, Bool.true_and]
   have hA:Alg (kindI nm.length sb) nm sb ops:=⟨hS,rfl⟩
   have hab:(upI nm.length sb).length=nm.length:=upI_len _ _
   show Option.bind (gHasE (upI nm.length sb) (belowI (upI nm.length sb)) (kindI nm.length sb) nm sb ops [] ⟨⟨⟨nm,sb⟩,ops⟩,eqs,rules⟩) _=_
   rw[show gHasE (upI nm.length sb) (belowI (upI nm.length sb)) (kindI nm.length sb) nm sb ops [] ⟨⟨⟨nm,sb⟩,ops⟩,eqs,rules⟩=some (modF ⟨⟨⟨nm,sb⟩,ops⟩,eqs,rules⟩,[])from if_pos ⟨hA,hab,hm,rfl⟩,bS]
   cases hb:modF ⟨⟨⟨nm,sb⟩,ops⟩,eqs,rules⟩with
   |false=>rfl
   | true =>
    simp only[cT,Bool.true_and]
    rw[Tm.eta,Sgy.eta]
    show Option.bind (gSs 1048577 x) _=_
    rw[show gSs 1048577 x=some (sgN x:Int)from if_pos hx,bS]
    have hr:rules.length<=16:=by
     unfold modF at hb
     simp only[bA,decide_eq_true_eq]at hb
     have:=hb.1.2
     omega
    by_cases c:sgN x<=20
    ·rw[dT (show (sgN x:Int)<=20 by omega),cT,dT c,Bool.true_and]
     show Option.bind (gSa 1048577 (upI nm.length sb) (belowI (upI nm.length sb)) (kindI nm.length sb) nm sb ops [] ⟨⟨⟨nm,sb⟩,ops⟩,eqs,rules⟩ x) _=_
     rw[show gSa 1048577 (upI nm.length sb) (belowI (upI nm.length sb)) (kindI nm.length sb) nm sb ops [] ⟨⟨⟨nm,sb⟩,ops⟩,eqs,rules⟩ x=some (sgyF ⟨⟨nm,sb⟩,ops⟩ rules.length x,[])from if_pos ⟨hA,hab,hr,hx⟩]
     rfl
    ·rw[dF (show ¬(sgN x:Int)<=20 by omega),dF c]
     rfl
  ·rw[if_neg hS,Bool.eq_false_iff.2 hS]
   rfl
 ·cases h
open Classical
theorem sm_conds {cs:List Cnd} (h:w_ConditionS cs<=1048576):∀c∈cs,c.left.total<1073741823/\c.right.total<1073741823:=λc hc=>by
 have:=(le_ConditionS h).2 c hc
 have:c.left.total+c.right.total<=1048576:=this
 omega
theorem sm_eqns {es:List Eqn} (h:w_EquationS es<=1048576):∀e∈es,SmE e:=λe he=>by
 have:=(le_EquationS h).2 e he
 have h1:e.left.total+e.right.total+w_ConditionS e.conds<=1048576:=this
 exact⟨by omega,by omega,sm_conds (by omega)⟩
theorem sm_mod {m:Md} (h:w_Module m<=1048576):SmM m:=by
 have h1:w_Signature m.sig+w_EquationS m.eqs+w_EquationS m.rules<=1048576:=h
 exact⟨sm_eqns (by omega),sm_eqns (by omega)⟩
theorem isStrategy_law :∃g,EO (z1v.ent g)/\∀(m:Md) (x:Sgy),(Fit (.n 15) m/\Fit (.n 16) x)->∃r,g m x=some r/\r=true:=by
 obtain⟨gz,ez,hz⟩:=szModule_all
 obtain⟨gt,et,ht⟩:=toModule_all
 obtain⟨gq,eq,hq⟩:=eqModule_all
 obtain⟨gzx,ezx,hzx⟩:=szStrategy_all
 obtain⟨gtx,etx,htx⟩:=toStrategy_all
 obtain⟨gqx,eqx,hqx⟩:=eqStrategy_all
 refine by_pick2 (λg hg=>z1v.ok (G:={z38:=gz,z3e:=gzx,z3r:=gt,z3w:=gtx,z4k:=gIsS,z0k:=gIsS,z27:=gq,z2c:=gqx}) ⟨ez,ezx,et,etx,z4l,z0l,eq,eqx,trivial⟩ hg) λ(m:Md) (x:Sgy) ⟨hf,hc⟩=>⟨true,⟨1,?_⟩,rfl⟩
 unfold z1v.main
 have r1:gz m 1048576=some (if (w_Module m:Int)<=1048576 then (1048576:Int)-w_Module m else (-1:Int)):=by
  obtain⟨_,r,q⟩:=hz m 1048576 ⟨hf,by omega,by omega⟩
  rw[q]at r
  exact r
 dsimp only
 rw[r1,bS]
 by_cases hw:(w_Module m:Int)<=1048576
 ·rw [if_pos hw, decide_eq_false (by omega), cond_false]
  have r1x:gzx x ((1048576:Int)-w_Module m)=some (if (w_Strategy x:Int)<=(1048576:Int)-w_Module m then (1048576:Int)-w_Module m-w_Strategy x else (-1:Int)):=by
   obtain⟨_,r,q⟩:=hzx x ((1048576:Int)-w_Module m) ⟨hc,by omega,by omega⟩
   rw[q]at r
   exact r
  simp only[Tm.eta,Sgy.eta]
  rw[r1x,bS]
  by_cases hwx:(w_Strategy x:Int)<=(1048576:Int)-w_Module m
  ·rw[if_pos hwx,dF (by omega),cF]
   have r2:gt m=some m:=by
    obtain⟨_,r,q⟩:=ht m ⟨hf,by omega⟩
    rw[q]at r
    exact r
   have r2x:gtx x=some x:=by
    obtain⟨_,r,q⟩:=htx x ⟨hc,by omega⟩
    rw[q]at r
    exact r
   have r4:gq m m=some true:=by
    obtain⟨_,r,q⟩:=hq m m ⟨rfl,hf,by omega⟩
    rw[q]at r
    exact r
   have r4x:gqx x x=some true:=by
    obtain⟨_,r,q⟩:=hqx x x ⟨rfl,hc,by omega⟩
    rw[q]at r
    exact r
   have r5:gIsS m x=some (isStrF m x):=if_pos ⟨sm_mod (by omega),by have:x.total=w_Strategy x:=rfl;omega⟩
   simp only[r2,r2x,r4,r4x,r5,bS,beq_self_eq_true,Bool.not_true,cF]
  ·rw[if_neg hwx];rfl
 ·rw[if_neg hw];rfl
end Go.Proofs.YtkinkfieackmdaaGreat.Den

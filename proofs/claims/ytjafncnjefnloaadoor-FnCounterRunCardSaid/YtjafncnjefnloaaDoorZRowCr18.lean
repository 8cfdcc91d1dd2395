/-
  Texts that the claim rests on, merged: PS, Fm1, Fm2, Fm3, Fm4.
-/
import Derived.Test.YtjafncnjefnloaaDoorZRowCr2
import Derived.Test.YtjafncnjefnloaaDoorZRowCr11
import Derived.Test.YtjafncnjefnloaaDoorZRowCr13
import Derived.Test.YtjafncnjefnloaaDoorZRowCr15
import Derived.Test.YtjafncnjefnloaaDoorZRowCr17

namespace Go.Proofs.YtjafncnjefnloaaDoor.Den
open Go.RowKit
set_option maxRecDepth 100000
set_option linter.unusedVariables false
namespace s_l1In
structure Gs where
 none_:Unit
noncomputable def ents (_:Gs):List Ent:=[]
noncomputable def main {R:Type} (G:Gs) (n:Nat) (x:Int) (lo:Int) (hi:Int) (K:Bool->Option R):Option R:=
 bif decide (lo<=x)then
  (K (decide (x<=hi)))
 else
  K false
noncomputable def pc (_:Gs) (_:Nat):Pcs:=⟨fun _ _ _ _=>none,fun _ _ _ _=>none,fun _ _ _ _=>none⟩
noncomputable def an:Ann:=⟨15,0,[],[],[6],[],[]⟩
noncomputable abbrev bd:=bodyOf Tryd.f41
noncomputable def Does (G:Gs) (x:Int) (lo:Int) (hi:Int) (r:Bool):Prop:=∃n,main (R:=AT×List Ob) G n x lo hi (fun r0=>some (.one (.b r0),[]))=some (.one (.b r),[])
theorem ok {G:Gs} (hG:AllE Tryd.prog (ents G)) {g:Int->Int->Int->Option (Bool)} (hg:∀x lo hi r,g x lo hi=some r->Does G x lo hi r):EntOK Tryd.prog (ent g):=fun R xs H K r hc=>by
 simp only[ent]at hc
 split at hc
 ·obtain⟨r,j1,j2⟩:=bind_some hc
  obtain⟨n,j3⟩:=hg _ _ _ _ j1
  exact⟨_,_,j2,fnP hG an (pc G n) bd [.tmp 6] Tryd.func41 (.inl rfl) (apl [] trivial) (.trans (by kernel_rfl) j3)⟩
 ·cases hc
end s_l1In
namespace s_l31Left
structure Gs where
 s_l31Left:Fm->Int->Option (Int)
noncomputable def ents (G:Gs):List Ent:=[ent G.s_l31Left]
noncomputable def b3 {R:Type} (G:Gs) (n:Nat) (left:Int) (k:Int) (h0:Int) (h02:Int) (h03:List Fm) (nx:Int->Int->Int->Int->List Fm->Option R) (k0:Int->Option R):Option R:=
 bif decide (k<(List.length h03:Int))then
  (
  bif decide (0<=left)then
   (
   Option.bind (ix h03 k) fun e=>
   Option.bind (G.s_l31Left (Fm.mk (Fm.kind e) (Fm.prop e) (Fm.kids e)) left) fun r=>
   nx r (wr (k+1)) h0 h02 h03
   )
  else
   k0 left
  )
 else
  k0 left
noncomputable def l3 {R:Type} (G:Gs) (n m:Nat) (left:Int) (k:Int) (h0:Int) (h02:Int) (h03:List Fm) (k0:Int->Option R):Option R:=iter (fun(v:Int×Int×Int×Int×List Fm) nx=>b3 G n v.1 v.2.1 v.2.2.1 v.2.2.2.1 v.2.2.2.2 (fun y0 y1 y2 y3 y4=>nx (y0,y1,y2,y3,y4)) k0) m (left,k,h0,h02,h03)
noncomputable def main {R:Type} (G:Gs) (n:Nat) (f:Fm) (left:Int) (K:Int->Option R):Option R:=
 l3 G n n (wr (left-1)) 0 (Fm.kind f) (Fm.prop f) (Fm.kids f)
  (fun left2=>K left2)
noncomputable def dl3 (G:Gs) (n m:Nat) (R:Type) (st:St) (K:Kt R):Option R:=match st with
 |⟨[(1,.one (.i left)),(2,.one (.p 0 0)),(5,.one (.i k))],[.box [.i h0,.i h02,.l (.n 2) h03]]⟩=>l3 G n m left k h0 h02 h03 (fun left=>K (.exit 0) ⟨[(1,.one (.i left))],[]⟩)
 |_=>none
noncomputable def pc (G:Gs) (n:Nat):Pcs:=⟨fun R id st K=>bif Nat.beq id 3 then dl3 G n n R st K else none,fun _ _ _ _=>none,fun _ _ _ _=>none⟩
noncomputable def an:Ann:=⟨27,0,[(3,[1,2,5])],[],[4],[],[]⟩
noncomputable abbrev bd:=bodyOf Tryd.f60
noncomputable abbrev q3:=nthC [1,1,0,1,0,0] bd
theorem pl3 {G:Gs} (hG:AllE Tryd.prog (ents G)) (n:Nat):∀m,PieceOK Tryd.prog an (.loop q3) (dl3 G n m):=lpc hG (pc G n) [1,2,5] ⟨[1],[4],[(0,[1])]⟩ (apl [] trivial) (fun R st K=>by unfold dl3;split<;>rfl) fun m R st K r h=>by unfold dl3 at h;split at h;exact .trans (by kernel_rfl) h;cases h
noncomputable def Does (G:Gs) (f:Fm) (left:Int) (r:Int):Prop:=∃n,main (R:=AT×List Ob) G n f left (fun r0=>some (.one (.i r0),[]))=some (.one (.i r),[])
theorem ok {G:Gs} (hG:AllE Tryd.prog (ents G)) {g:Fm->Int->Option (Int)} (hg:∀f left r,g f left=some r->Does G f left r):EntOK Tryd.prog (ent g):=fun R xs H K r hc=>by
 simp only[ent]at hc
 split at hc
 ·obtain⟨r,j1,j2⟩:=bind_some hc
  obtain⟨n,j3⟩:=hg _ _ _ j1
  exact⟨_,_,j2,fnP hG an (pc G n) bd [.tmp 4] Tryd.func60 (.inl rfl) (apl [(1,3,.loop q3)] ⟨pl3 hG n n,trivial⟩) (.trans (by kernel_rfl) j3)⟩
 ·cases hc
end s_l31Left
namespace s_l31Right
structure Gs where
 s_l1In:Int->Int->Int->Option (Bool)
 s_l31Right:Fm->Option (Bool)
noncomputable def ents (G:Gs):List Ent:=[s_l1In.ent G.s_l1In,ent G.s_l31Right]
noncomputable def b16 {R:Type} (G:Gs) (n:Nat) (i:Int) (h0:Int) (h02:Int) (h03:List Fm) (nx:Int->Int->Int->List Fm->Option R) (k0:Bool->Option R) (k1:Option R):Option R:=
 bif decide (i<(List.length h03:Int))then
  (
  Option.bind (ix h03 i) fun e=>
  Option.bind (G.s_l31Right (Fm.mk (Fm.kind e) (Fm.prop e) (Fm.kids e))) fun r=>
  bif !r then
   (k0 false)
  else
   nx (wr (i+1)) h0 h02 h03
  )
 else
  k1
noncomputable def l16 {R:Type} (G:Gs) (n m:Nat) (i:Int) (h0:Int) (h02:Int) (h03:List Fm) (k0:Bool->Option R) (k1:Option R):Option R:=iter (fun(v:Int×Int×Int×List Fm) nx=>b16 G n v.1 v.2.1 v.2.2.1 v.2.2.2 (fun y0 y1 y2 y3=>nx (y0,y1,y2,y3)) k0 k1) m (i,h0,h02,h03)
noncomputable def c15 {R:Type} (G:Gs) (n:Nat) (h0:Int) (h02:Int) (h03:List Fm) (k0:Bool->Option R):Option R:=
 l16 G n n 0 h0 h02 h03
  (fun t2=>k0 t2)
  (k0 true)
noncomputable def c13 {R:Type} (G:Gs) (n:Nat) (kids:Int) (h0:Int) (h02:Int) (h03:List Fm) (k0:Bool->Option R):Option R:=
 bif decide (h0 = 2) then
  (
  Option.bind (G.s_l1In h02 0 7) fun r=>
  bif !r then
   (k0 false)
  else
   bif !decide (h0 = 2) then
    (
    bif !decide (h02=0)then
     (k0 false)
    else
     bif !decide ((List.length h03:Int)=kids)then
      (k0 false)
     else
      c15 G n h0 h02 h03
       (fun t2=>k0 t2)
    )
   else
    bif !decide ((List.length h03:Int)=kids)then
     (k0 false)
    else
     c15 G n h0 h02 h03
      (fun t22=>k0 t22)
  )
 else
  bif !decide (h0 = 2) then
   (
   bif !decide (h02=0)then
    (k0 false)
   else
    bif !decide ((List.length h03:Int)=kids)then
     (k0 false)
    else
     c15 G n h0 h02 h03
      (fun t23=>k0 t23)
   )
  else
   bif !decide ((List.length h03:Int)=kids)then
    (k0 false)
   else
    c15 G n h0 h02 h03
     (fun t24=>k0 t24)
noncomputable def main {R:Type} (G:Gs) (n:Nat) (f:Fm) (K:Bool->Option R):Option R:=
 bif decide ((Fm.kind f)=1)then
  (
  c13 G n 0 (Fm.kind f) (Fm.prop f) (Fm.kids f)
   (fun t2=>K t2)
  )
 else
  bif decide ((Fm.kind f)=2)then
   (
   c13 G n 0 (Fm.kind f) (Fm.prop f) (Fm.kids f)
    (fun t22=>K t22)
   )
  else
   bif decide ((Fm.kind f)=3)then
    (
    c13 G n 1 (Fm.kind f) (Fm.prop f) (Fm.kids f)
     (fun t23=>K t23)
    )
   else
    bif decide ((Fm.kind f)=6)then
     (
     c13 G n 1 (Fm.kind f) (Fm.prop f) (Fm.kids f)
      (fun t24=>K t24)
     )
    else
     bif decide ((Fm.kind f)=4)then
      (
      c13 G n 2 (Fm.kind f) (Fm.prop f) (Fm.kids f)
       (fun t25=>K t25)
      )
     else
      bif decide ((Fm.kind f)=5)then
       (
       c13 G n 2 (Fm.kind f) (Fm.prop f) (Fm.kids f)
        (fun t26=>K t26)
       )
      else
       bif decide ((Fm.kind f)=7)then
        (
        c13 G n 2 (Fm.kind f) (Fm.prop f) (Fm.kids f)
         (fun t27=>K t27)
        )
       else
        K false
noncomputable def dl16 (G:Gs) (n m:Nat) (R:Type) (st:St) (K:Kt R):Option R:=match st with
 |⟨[(1,.one (.p 0 0)),(4,.one (.i i))],[.box [.i h0,.i h02,.l (.n 2) h03]]⟩=>l16 G n m i h0 h02 h03 (fun t2=>K .ret ⟨[(2,.one (.b t2))],[]⟩) (K (.exit 1) ⟨[],[]⟩)
 |_=>none
noncomputable def dc15 (G:Gs) (n:Nat) (R:Type) (st:St) (K:Kt R):Option R:=match st with
 |⟨[(1,.one (.p 0 0))],[.box [.i h0,.i h02,.l (.n 2) h03]]⟩=>c15 G n h0 h02 h03 (fun t2=>K .ret ⟨[(2,.one (.b t2))],[]⟩)
 |_=>none
noncomputable def dc13 (G:Gs) (n:Nat) (R:Type) (st:St) (K:Kt R):Option R:=match st with
 |⟨[(1,.one (.p 0 0)),(3,.one (.i kids))],[.box [.i h0,.i h02,.l (.n 2) h03]]⟩=>c13 G n kids h0 h02 h03 (fun t2=>K .ret ⟨[(2,.one (.b t2))],[]⟩)
 |_=>none
noncomputable def pc (G:Gs) (n:Nat):Pcs:=⟨fun R id st K=>bif Nat.beq id 16 then dl16 G n n R st K else none,fun R id st K=>bif Nat.beq id 15 then dc15 G n R st K else bif Nat.beq id 13 then dc13 G n R st K else none,fun _ _ _ _=>none⟩
noncomputable def an:Ann:=⟨57,0,[(16,[1,4])],[(15,[1]),(13,[1,3])],[2],[],[]⟩
noncomputable abbrev bd:=bodyOf Tryd.f61
noncomputable abbrev q16:=nthC [1,1,1,1,0,1,0,0] bd
noncomputable abbrev q15:=nthC [1,1,1,1] bd
noncomputable abbrev q13:=nthC [1,1,1] bd
theorem pl16 {G:Gs} (hG:AllE Tryd.prog (ents G)) (n:Nat):∀m,PieceOK Tryd.prog an (.loop q16) (dl16 G n m):=lpc hG (pc G n) [1,4] ⟨[],[2],[(1,[])]⟩ (apl [] trivial) (fun R st K=>by unfold dl16;split<;>rfl) fun m R st K r h=>by unfold dl16 at h;split at h;exact .trans (by kernel_rfl) h;cases h
theorem pc15 {G:Gs} (hG:AllE Tryd.prog (ents G)) {n:Nat}:PieceOK Tryd.prog an q15 (dc15 G n):=cpc hG (pc G n) ⟨[],[2],[]⟩ (apl [(1,16,.loop q16)] ⟨pl16 hG n n,trivial⟩) fun R st K r h=>by unfold dc15 at h;split at h;exact .trans (by kernel_rfl) h;cases h
theorem pc13 {G:Gs} (hG:AllE Tryd.prog (ents G)) {n:Nat}:PieceOK Tryd.prog an q13 (dc13 G n):=cpc hG (pc G n) ⟨[],[2],[]⟩ (apl [(0,15,q15)] ⟨pc15 hG,trivial⟩) fun R st K r h=>by unfold dc13 at h;split at h;exact .trans (by kernel_rfl) h;cases h
noncomputable def Does (G:Gs) (f:Fm) (r:Bool):Prop:=∃n,main (R:=AT×List Ob) G n f (fun r0=>some (.one (.b r0),[]))=some (.one (.b r),[])
theorem ok {G:Gs} (hG:AllE Tryd.prog (ents G)) {g:Fm->Option (Bool)} (hg:∀f r,g f=some r->Does G f r):EntOK Tryd.prog (ent g):=fun R xs H K r hc=>by
 simp only[ent]at hc
 split at hc
 ·obtain⟨r,j1,j2⟩:=bind_some hc
  obtain⟨n,j3⟩:=hg _ _ j1
  exact⟨_,_,j2,fnP hG an (pc G n) bd [.tmp 2] Tryd.func61 (.inl rfl) (apl [(0,13,q13)] ⟨pc13 hG,trivial⟩) (.trans (by kernel_rfl) j3)⟩
 ·cases hc
end s_l31Right
namespace s_IsFormula
structure Gs where
 s_l31Left:Fm->Int->Option (Int)
 s_l31Right:Fm->Option (Bool)
noncomputable def ents (G:Gs):List Ent:=[s_l31Left.ent G.s_l31Left,s_l31Right.ent G.s_l31Right]
noncomputable def main {R:Type} (G:Gs) (n:Nat) (f:Fm) (K:Bool->Option R):Option R:=
 Option.bind (G.s_l31Left (Fm.mk (Fm.kind f) (Fm.prop f) (Fm.kids f)) 12) fun r=>
 bif decide (0<=r)then
  (
  Option.bind (G.s_l31Right (Fm.mk (Fm.kind f) (Fm.prop f) (Fm.kids f))) fun r2=>
  K r2
  )
 else
  K false
noncomputable def pc (_:Gs) (_:Nat):Pcs:=⟨fun _ _ _ _=>none,fun _ _ _ _=>none,fun _ _ _ _=>none⟩
noncomputable def an:Ann:=⟨10,0,[],[],[2],[],[]⟩
noncomputable abbrev bd:=bodyOf Tryd.f30
noncomputable def Does (G:Gs) (f:Fm) (r:Bool):Prop:=∃n,main (R:=AT×List Ob) G n f (fun r0=>some (.one (.b r0),[]))=some (.one (.b r),[])
theorem ok {G:Gs} (hG:AllE Tryd.prog (ents G)) {g:Fm->Option (Bool)} (hg:∀f r,g f=some r->Does G f r):EntOK Tryd.prog (ent g):=fun R xs H K r hc=>by
 simp only[ent]at hc
 split at hc
 ·obtain⟨r,j1,j2⟩:=bind_some hc
  obtain⟨n,j3⟩:=hg _ _ j1
  exact⟨_,_,j2,fnP hG an (pc G n) bd [.tmp 2] Tryd.func30 (.inl rfl) (apl [] trivial) (.trans (by kernel_rfl) j3)⟩
 ·cases hc
end s_IsFormula
namespace s_FormatInt
structure Gs where
 none_:Unit
noncomputable def ents (_:Gs):List Ent:=[]
noncomputable def c9 {R:Type} (G:Gs) (n:Nat) (n1:Int) (below:Bool) (out:ByteArray) (d:Int) (k0:Int->Bool->ByteArray->Option R):Option R:=
 Option.bind (sCat (sOf [IntKind.wrap .u8 (wr (48+d))]) out) fun q=>
 Option.bind (bif decide (0<=n1)&&decide (0<10)then some (n1 / 10)else none) fun q2=>
 k0 q2 below q
noncomputable def b5 {R:Type} (G:Gs) (n:Nat) (n1:Int) (below:Bool) (out:ByteArray) (nx:Int->Bool->ByteArray->Option R) (k0:Bool->ByteArray->Option R):Option R:=
 bif !decide (n1=0)then
  (
  Option.bind (bif decide (0<=n1)&&decide (0<10)then some (n1%10)else none) fun q=>
  bif decide (q<0)then
   (
   c9 G n n1 below out (wr (0-q))
    (fun n12 below2 out2=>nx n12 below2 out2)
   )
  else
   c9 G n n1 below out q
    (fun n13 below3 out3=>nx n13 below3 out3)
  )
 else
  k0 below out
noncomputable def l5 {R:Type} (G:Gs) (n m:Nat) (n1:Int) (below:Bool) (out:ByteArray) (k0:Bool->ByteArray->Option R):Option R:=iter (fun(v:Int×Bool×ByteArray) nx=>b5 G n v.1 v.2.1 v.2.2 (fun y0 y1 y2=>nx (y0,y1,y2)) k0) m (n1,below,out)
noncomputable def main {R:Type} (G:Gs) (n:Nat) (n1:Int) (K:ByteArray->Option R):Option R:=
 bif decide (n1=0)then
  (K (ByteArray.mk #[48]))
 else
  l5 G n n n1 (decide (n1 < 0)) ByteArray.empty
   (fun below out =>
    bif below then
     (
     Option.bind (sCat (ByteArray.mk #[45]) out) fun q=>
     K q
     )
    else
     K out
   )
noncomputable def dc9 (G:Gs) (n:Nat) (R:Type) (st:St) (K:Kt R):Option R:=match st with
 |⟨[(0,.one (.i n1)),(3,.one (.b below)),(4,.one (.s out)),(5,.one (.i d))],[]⟩=>c9 G n n1 below out d (fun n1 below out=>K .normal ⟨[(0,.one (.i n1)),(3,.one (.b below)),(4,.one (.s out))],[]⟩)
 |_=>none
noncomputable def dl5 (G:Gs) (n m:Nat) (R:Type) (st:St) (K:Kt R):Option R:=match st with
 |⟨[(0,.one (.i n1)),(3,.one (.b below)),(4,.one (.s out))],[]⟩=>l5 G n m n1 below out (fun below out=>K (.exit 0) ⟨[(3,.one (.b below)),(4,.one (.s out))],[]⟩)
 |_=>none
noncomputable def pc (G:Gs) (n:Nat):Pcs:=⟨fun R id st K=>bif Nat.beq id 5 then dl5 G n n R st K else none,fun R id st K=>bif Nat.beq id 9 then dc9 G n R st K else none,fun _ _ _ _=>none⟩
noncomputable def an:Ann:=⟨31,0,[(5,[0,3,4])],[(9,[0,3,4,5])],[2],[],[]⟩
noncomputable abbrev bd:=bodyOf Tryd.f116
noncomputable abbrev q9:=nthC [1,1,1,1,0,0,0,1,0,1,1] bd
noncomputable abbrev q5:=nthC [1,1,1,1,0,0,0] bd
theorem pc9 {G:Gs} (hG:AllE Tryd.prog (ents G)) {n:Nat}:PieceOK Tryd.prog an q9 (dc9 G n):=cpc hG (pc G n) ⟨[0,3,4],[2],[(0,[3,4]),(1,[0,3,4])]⟩ (apl [] trivial) fun R st K r h=>by unfold dc9 at h;split at h;exact .trans (by kernel_rfl) h;cases h
theorem pl5 {G:Gs} (hG:AllE Tryd.prog (ents G)) (n:Nat):∀m,PieceOK Tryd.prog an (.loop q5) (dl5 G n m):=lpc hG (pc G n) [0,3,4] ⟨[3,4],[2],[(0,[3,4])]⟩ (apl [(0,9,q9)] ⟨pc9 hG,trivial⟩) (fun R st K=>by unfold dl5;split<;>rfl) fun m R st K r h=>by unfold dl5 at h;split at h;exact .trans (by kernel_rfl) h;cases h
noncomputable def Does (G:Gs) (n1:Int) (r:ByteArray):Prop:=∃n,main (R:=AT×List Ob) G n n1 (fun r0=>some (.one (.s r0),[]))=some (.one (.s r),[])
theorem ok {G:Gs} (hG:AllE Tryd.prog (ents G)) {g:Int->Option (ByteArray)} (hg:∀n1 r,g n1=some r->Does G n1 r):EntOK Tryd.prog (ent g):=fun R xs H K r hc=>by
 simp only[ent]at hc
 split at hc
 ·obtain⟨r,j1,j2⟩:=bind_some hc
  obtain⟨n,j3⟩:=hg _ _ j1
  exact⟨_,_,j2,fnP hG an (pc G n) bd [.tmp 2] Tryd.func116 (.inl rfl) (apl [(1,5,.loop q5)] ⟨pl5 hG n n,trivial⟩) (.trans (by kernel_rfl) j3)⟩
 ·cases hc
end s_FormatInt
namespace s_Join
structure Gs where
 none_:Unit
noncomputable def ents (_:Gs):List Ent:=[]
noncomputable def c7 {R:Type} (G:Gs) (n:Nat) (list:List ByteArray) (by1:ByteArray) (i:Int) (h0:List Int) (k0:ByteArray->Option R) (k1:List ByteArray->ByteArray->Int->List Int->Option R):Option R:=
 Option.bind (ix list i) fun e=>
 Option.bind (lim (List.append h0 (ofS e))) fun zs=>
 bif decide (1048576<(List.length zs:Int))then
  (k0 ByteArray.empty)
 else
  k1 list by1 i zs
noncomputable def b3 {R:Type} (G:Gs) (n:Nat) (list:List ByteArray) (by1:ByteArray) (i:Int) (h0:List Int) (nx:List ByteArray->ByteArray->Int->List Int->Option R) (k0:ByteArray->Option R) (k1:List Int->Option R):Option R:=
 bif decide (i<(List.length list:Int))then
  (
  bif decide (0<i)then
   (
   Option.bind (lim (List.append h0 (ofS by1))) fun zs=>
   c7 G n list by1 i zs
    (fun t4=>k0 t4)
    (fun list2 by12 i2 h02=>nx list2 by12 (wr (i2+1)) h02)
   )
  else
   c7 G n list by1 i h0
    (fun t42=>k0 t42)
    (fun list3 by13 i3 h03=>nx list3 by13 (wr (i3+1)) h03)
  )
 else
  k1 h0
noncomputable def l3 {R:Type} (G:Gs) (n m:Nat) (list:List ByteArray) (by1:ByteArray) (i:Int) (h0:List Int) (k0:ByteArray->Option R) (k1:List Int->Option R):Option R:=iter (fun(v:List ByteArray×ByteArray×Int×List Int) nx=>b3 G n v.1 v.2.1 v.2.2.1 v.2.2.2 (fun y0 y1 y2 y3=>nx (y0,y1,y2,y3)) k0 k1) m (list,by1,i,h0)
noncomputable def main {R:Type} (G:Gs) (n:Nat) (list:List ByteArray) (by1:ByteArray) (K:ByteArray->Option R):Option R:=
 l3 G n n list by1 0 []
  (fun t4=>K t4)
  (fun h0=>K (sOf h0))
noncomputable def dc7 (G:Gs) (n:Nat) (R:Type) (st:St) (K:Kt R):Option R:=match st with
 |⟨[(0,.one (.l .s list)),(1,.one (.s by1)),(5,.one (.o 0)),(6,.one (.i i))],[.row .u 0 h0]⟩=>c7 G n list by1 i h0 (fun t4=>K .ret ⟨[(4,.one (.s t4))],[]⟩) (fun list by1 i h0=>K .normal ⟨[(0,.one (.l .s list)),(1,.one (.s by1)),(5,.one (.o 0)),(6,.one (.i i))],[.row .u 0 h0]⟩)
 |_=>none
noncomputable def dl3 (G:Gs) (n m:Nat) (R:Type) (st:St) (K:Kt R):Option R:=match st with
 |⟨[(0,.one (.l .s list)),(1,.one (.s by1)),(5,.one (.o 0)),(6,.one (.i i))],[.row .u 0 h0]⟩=>l3 G n m list by1 i h0 (fun t4=>K .ret ⟨[(4,.one (.s t4))],[]⟩) (fun h0=>K (.exit 0) ⟨[(5,.one (.o 0))],[.row .u 0 h0]⟩)
 |_=>none
noncomputable def pc (G:Gs) (n:Nat):Pcs:=⟨fun R id st K=>bif Nat.beq id 3 then dl3 G n n R st K else none,fun R id st K=>bif Nat.beq id 7 then dc7 G n R st K else none,fun _ _ _ _=>none⟩
noncomputable def an:Ann:=⟨30,0,[(3,[0,1,5,6])],[(7,[0,1,5,6])],[4],[],[]⟩
noncomputable abbrev bd:=bodyOf Tryd.f117
noncomputable abbrev q7:=nthC [1,1,0,1,0,0,1,0,0,1] bd
noncomputable abbrev q3:=nthC [1,1,0,1,0,0] bd
theorem pc7 {G:Gs} (hG:AllE Tryd.prog (ents G)) {n:Nat}:PieceOK Tryd.prog an q7 (dc7 G n):=cpc hG (pc G n) ⟨[0,1,5,6],[4],[(0,[5]),(1,[0,1,5,6])]⟩ (apl [] trivial) fun R st K r h=>by unfold dc7 at h;split at h;exact .trans (by kernel_rfl) h;cases h
theorem pl3 {G:Gs} (hG:AllE Tryd.prog (ents G)) (n:Nat):∀m,PieceOK Tryd.prog an (.loop q3) (dl3 G n m):=lpc hG (pc G n) [0,1,5,6] ⟨[5],[4],[(0,[5])]⟩ (apl [(0,7,q7)] ⟨pc7 hG,trivial⟩) (fun R st K=>by unfold dl3;split<;>rfl) fun m R st K r h=>by unfold dl3 at h;split at h;exact .trans (by kernel_rfl) h;cases h
noncomputable def Does (G:Gs) (list:List ByteArray) (by1:ByteArray) (r:ByteArray):Prop:=∃n,main (R:=AT×List Ob) G n list by1 (fun r0=>some (.one (.s r0),[]))=some (.one (.s r),[])
theorem ok {G:Gs} (hG:AllE Tryd.prog (ents G)) {g:List ByteArray->ByteArray->Option (ByteArray)} (hg:∀list by1 r,g list by1=some r->Does G list by1 r):EntOK Tryd.prog (ent g):=fun R xs H K r hc=>by
 simp only[ent]at hc
 split at hc
 ·obtain⟨r,j1,j2⟩:=bind_some hc
  obtain⟨n,j3⟩:=hg _ _ _ j1
  exact⟨_,_,j2,fnP hG an (pc G n) bd [.tmp 4] Tryd.func117 (.inl rfl) (apl [(1,3,.loop q3)] ⟨pl3 hG n n,trivial⟩) (.trans (by kernel_rfl) j3)⟩
 ·cases hc
end s_Join
namespace s_l31Text
structure Gs where
 s_FormatInt:Int->Option (ByteArray)
 s_l31Text:Fm->Option (ByteArray)
 s_Join:List ByteArray->ByteArray->Option (ByteArray)
noncomputable def ents (G:Gs):List Ent:=[s_FormatInt.ent G.s_FormatInt,ent G.s_l31Text,s_Join.ent G.s_Join]
noncomputable def b8 {R:Type} (G:Gs) (n:Nat) (word:ByteArray) (i:Int) (h0:Int) (h02:Int) (h03:List Fm) (h1:List ByteArray) (nx:ByteArray->Int->Int->Int->List Fm->List ByteArray->Option R) (k0:ByteArray->List ByteArray->Option R):Option R:=
 bif decide (i<(List.length h03:Int))then
  (
  Option.bind (ix h03 i) fun e=>
  Option.bind (G.s_l31Text (Fm.mk (Fm.kind e) (Fm.prop e) (Fm.kids e))) fun r=>
  Option.bind (lim (h1++[r])) fun zs=>
  nx word (wr (i+1)) h0 h02 h03 zs
  )
 else
  k0 word h1
noncomputable def l8 {R:Type} (G:Gs) (n m:Nat) (word:ByteArray) (i:Int) (h0:Int) (h02:Int) (h03:List Fm) (h1:List ByteArray) (k0:ByteArray->List ByteArray->Option R):Option R:=iter (fun(v:ByteArray×Int×Int×Int×List Fm×List ByteArray) nx=>b8 G n v.1 v.2.1 v.2.2.1 v.2.2.2.1 v.2.2.2.2.1 v.2.2.2.2.2 (fun y0 y1 y2 y3 y4 y5=>nx (y0,y1,y2,y3,y4,y5)) k0) m (word,i,h0,h02,h03,h1)
noncomputable def main {R:Type} (G:Gs) (n:Nat) (f:Fm) (K:ByteArray->Option R):Option R:=
 bif decide ((Fm.kind f)=1)then
  (K (ByteArray.mk #[116,114,117,101]))
 else
  bif decide ((Fm.kind f)=2)then
   (
   Option.bind (G.s_FormatInt (Fm.prop f)) fun r=>
   Option.bind (sCat (ByteArray.mk #[112]) r) fun q=>
   K q
   )
  else
   Option.bind (ix [ByteArray.empty,ByteArray.empty,ByteArray.empty,(ByteArray.mk #[110,111,116]),(ByteArray.mk #[97,110,100]),(ByteArray.mk #[111,114]),(ByteArray.mk #[110,101,120,116]),(ByteArray.mk #[117,110,116,105,108])] (Fm.kind f)) fun e=>
   l8 G n n e 0 (Fm.kind f) (Fm.prop f) (Fm.kids f) []
    (fun word h0 =>
     Option.bind (sCat word (ByteArray.mk #[40])) fun q2=>
     Option.bind (G.s_Join h0 (ByteArray.mk #[44,32])) fun r2=>
     Option.bind (sCat q2 r2) fun q3=>
     Option.bind (sCat q3 (ByteArray.mk #[41])) fun q4=>
     K q4
    )
noncomputable def dl8 (G:Gs) (n m:Nat) (R:Type) (st:St) (K:Kt R):Option R:=match st with
 |⟨[(1,.one (.p 0 0)),(3,.one (.s word)),(4,.one (.o 1)),(5,.one (.i i))],[.box [.i h0,.i h02,.l (.n 2) h03],.row .s 0 h1]⟩=>l8 G n m word i h0 h02 h03 h1 (fun word h0=>K (.exit 0) ⟨[(3,.one (.s word)),(4,.one (.o 0))],[.row .s 0 h0]⟩)
 |_=>none
noncomputable def pc (G:Gs) (n:Nat):Pcs:=⟨fun R id st K=>bif Nat.beq id 8 then dl8 G n n R st K else none,fun _ _ _ _=>none,fun _ _ _ _=>none⟩
noncomputable def an:Ann:=⟨44,0,[(8,[1,3,4,5])],[],[2],[],[]⟩
noncomputable abbrev bd:=bodyOf Tryd.f110
noncomputable abbrev q8:=nthC [1,1,1,1,1,0,1,0,0] bd
theorem pl8 {G:Gs} (hG:AllE Tryd.prog (ents G)) (n:Nat):∀m,PieceOK Tryd.prog an (.loop q8) (dl8 G n m):=lpc hG (pc G n) [1,3,4,5] ⟨[3,4],[2],[(0,[3,4])]⟩ (apl [] trivial) (fun R st K=>by unfold dl8;split<;>rfl) fun m R st K r h=>by unfold dl8 at h;split at h;exact .trans (by kernel_rfl) h;cases h
noncomputable def Does (G:Gs) (f:Fm) (r:ByteArray):Prop:=∃n,main (R:=AT×List Ob) G n f (fun r0=>some (.one (.s r0),[]))=some (.one (.s r),[])
theorem ok {G:Gs} (hG:AllE Tryd.prog (ents G)) {g:Fm->Option (ByteArray)} (hg:∀f r,g f=some r->Does G f r):EntOK Tryd.prog (ent g):=fun R xs H K r hc=>by
 simp only[ent]at hc
 split at hc
 ·obtain⟨r,j1,j2⟩:=bind_some hc
  obtain⟨n,j3⟩:=hg _ _ j1
  exact⟨_,_,j2,fnP hG an (pc G n) bd [.tmp 2] Tryd.func110 (.inl rfl) (apl [(1,8,.loop q8)] ⟨pl8 hG n n,trivial⟩) (.trans (by kernel_rfl) j3)⟩
 ·cases hc
end s_l31Text
end Go.Proofs.YtjafncnjefnloaaDoor.Den

namespace Go.Proofs.YtjafncnjefnloaaDoor.Den
open Go.RowKit
theorem size_mem {f x:Fm} (h:x∈f.kids):x.size<f.size:=by
 rw[Fm.size_eq f]
 have:=wS_mem (f:=Fm.size) h
 unfold wS at this
 omega
theorem sizes_eq (f:Fm):f.size=1+wS Fm.size f.kids:=Fm.size_eq f
theorem wS_nil {A:Type} (f:A->Nat):wS f []=0:=rfl
abbrev gSize (k:Nat):Fm->Option Int:=fun f=>if f.size<=k then some (f.size:Int)else none
abbrev gOk (k:Nat):Fm->Option Bool:=fun f=>if f.size<=k then some f.ok else none
abbrev gLeft (k:Nat):Fm->Int->Option Int:=fun f left=>if f.size<=k/\0<=left/\left<=12 then some (if (f.size:Int)<=left then left-f.size else -1)else none
section
variable {R : Type}
theorem size_loop (n k:Nat) (kids:List Fm) (hk:∀x∈kids,x.size<=k) (k0:Int->Option R):∀m (i n1:Int),0<=i->i<=kids.length->0<=n1->n1+(wS Fm.size (kids.drop i.toNat):Nat)<=4294967296->kids.length<=4294967296->(kids.length-i).toNat<m->
  i_formulaSize.l3 ⟨gSize k⟩ n m n1 kids (kids.length:Int) i k0=k0 (n1+(wS Fm.size (kids.drop i.toNat):Nat)):=by
 intro m
 induction m with
 |zero=>intro i n1 _ _ _ _ _ hm;omega
 | succ m ih =>
  intro i n1 q0 q1 qn qs ql hm
  show i_formulaSize.b3 ⟨gSize k⟩ n n1 kids (kids.length:Int) i (fun y0 y1 y2 y3=>i_formulaSize.l3 ⟨gSize k⟩ n m y0 y1 y2 y3 k0) k0=_
  unfold i_formulaSize.b3
  by_cases hi:i<(kids.length:Int)
  ·obtain⟨x,x1,x2,x3,_⟩:=drop_step q0 hi
   rw[x3,wS_cons]at qs ⊢
   rw[decide_eq_true hi,cond_true,x1,Option.bind_some,Fm.eta]
   show Option.bind (gSize k x) _=_
   unfold gSize
   rw[if_pos (hk x x2),Option.bind_some,wr_in (x:=n1+(x.size:Int)) (by omega),wr_in (x:=i+1) (by omega)]
   refine(ih (i+1) (n1+(x.size:Int)) (by omega) (by omega) (by omega) (by omega) ql (by omega)).trans ?_
   congr 1
   omega
  ·rw[decide_eq_false hi,cond_false,drop_all hi,wS_nil]
   congr 1
   omega
theorem len_size (f : Fm) : f.kids.length ≤ f.size := by
 rw[sizes_eq]
 have : ∀ l : List Fm, l.length ≤ wS Fm.size l := fun l => by
  induction l with
  |nil=>exact Nat.le_refl _
  | cons x l ih => rw [wS_cons, List.length_cons]; have : 1 ≤ x.size := by rw [Fm.size_eq]; omega
                   omega
 have:=this f.kids
 omega
theorem size_none :EntOK Tryd.prog (i_formulaSize.ent fun _=>none):=fun R xs H K r h=>by
 simp only[i_formulaSize.ent]at h
 split at h<;>cases h
theorem gSize_zero :gSize 0=fun _=>none:=by
 funext f
 unfold gSize
 rw[if_neg (by rw[Fm.size_eq];omega)]
theorem formulaSize_ok :∀k,k<=4294967296->EntOK Tryd.prog (i_formulaSize.ent (gSize k))
 |0,_=>by rw[gSize_zero];exact size_none
 | k + 1, hk => i_formulaSize.ok (G := ⟨gSize k⟩) ⟨formulaSize_ok k (by omega), trivial⟩ fun f r h => by
  unfold gSize at h
  split at h
  ·rename_i hs
   cases h
   refine⟨f.kids.length+1,?_⟩
   unfold i_formulaSize.main
   have h1:=sizes_eq f
   have h2:=len_size f
   rw[size_loop _ k f.kids (fun x hx=>by have:=size_mem hx;omega) _ _ _ _ (by omega) (by omega) (by omega) (by simp;omega) (by omega) (by omega)]
   rw[h1]
   simp
  ·cases h
theorem ok_loop (n k:Nat) (kids:List Fm) (hk:∀x∈kids,x.size<=k) (k0:Bool->Option R) (k1:Option R):∀m (i:Int),0<=i->i<=kids.length->kids.length<=4294967296->(kids.length-i).toNat<m->
  i_formulaOK.l16 ⟨gOk k⟩ n m kids (kids.length:Int) i k0 k1=bif (kids.drop i.toNat).all Fm.ok then k1 else k0 false:=by
 intro m
 induction m with
 |zero=>intro i _ _ _ hm;omega
 | succ m ih =>
  intro i q0 q1 ql hm
  show i_formulaOK.b16 ⟨gOk k⟩ n kids (kids.length:Int) i (fun y0 y1 y2=>i_formulaOK.l16 ⟨gOk k⟩ n m y0 y1 y2 k0 k1) k0 k1=_
  unfold i_formulaOK.b16
  by_cases hi:i<(kids.length:Int)
  ·obtain⟨x,x1,x2,x3,_⟩:=drop_step q0 hi
   rw[x3,List.all_cons,decide_eq_true hi,cond_true,x1,Option.bind_some,Fm.eta]
   show Option.bind (gOk k x) _=_
   unfold gOk
   rw[if_pos (hk x x2),Option.bind_some,wr_in (x:=i+1) (by omega)]
   cases hx:x.ok
   ·rfl
   ·rw[Bool.not_true,cond_false,Bool.true_and]
    exact ih (i+1) (by omega) (by omega) ql (by omega)
  ·rw[decide_eq_false hi,cond_false,drop_all hi];rfl
theorem right_loop (n k:Nat) (gI:Int->Int->Int->Option Bool) (a b:Int) (kids:List Fm) (hk:∀x∈kids,x.size<=k) (k0:Bool->Option R) (k1:Option R):∀m (i:Int),0<=i->i<=kids.length->kids.length<=4294967296->(kids.length-i).toNat<m->
  s_l31Right.l16 ⟨gI,gOk k⟩ n m i a b kids k0 k1=bif (kids.drop i.toNat).all Fm.ok then k1 else k0 false:=by
 intro m
 induction m with
 |zero=>intro i _ _ _ hm;omega
 | succ m ih =>
  intro i q0 q1 ql hm
  show s_l31Right.b16 ⟨gI,gOk k⟩ n i a b kids (fun y0 y1 y2 y3=>s_l31Right.l16 ⟨gI,gOk k⟩ n m y0 y1 y2 y3 k0 k1) k0 k1=_
  unfold s_l31Right.b16
  by_cases hi:i<(kids.length:Int)
  ·obtain⟨x,x1,x2,x3,_⟩:=drop_step q0 hi
   rw[x3,List.all_cons,decide_eq_true hi,cond_true,x1,Option.bind_some,Fm.eta]
   show Option.bind (gOk k x) _=_
   unfold gOk
   rw[if_pos (hk x x2),Option.bind_some,wr_in (x:=i+1) (by omega)]
   cases hx:x.ok
   ·rfl
   ·rw[Bool.not_true,cond_false,Bool.true_and]
    exact ih (i+1) (by omega) (by omega) ql (by omega)
  ·rw[decide_eq_false hi,cond_false,drop_all hi];rfl
theorem c13_eq (n k:Nat) (c a b:Int) (kids:List Fm) (hk:∀x∈kids,x.size<=k) (hl:kids.length<n) (hn:kids.length<=4294967296) (k0:Bool->Option R):
  i_formulaOK.c13 ⟨gOk k⟩ n c a b kids k0=k0 (decide ((kids.length:Int)=c/\0<=b/\b<=7/\(a=2\/b=0))&&kids.all Fm.ok):=by
 have e:i_formulaOK.c15 ⟨gOk k⟩ n a b kids k0=k0 (kids.all Fm.ok):=by
  unfold i_formulaOK.c15
  rw[ok_loop n k kids hk _ _ n 0 (by omega) (by omega) hn (by omega)]
  simp only[Int.toNat_zero,List.drop_zero]
  cases kids.all Fm.ok<;>rfl
 unfold i_formulaOK.c13
 rw[e]
 by_cases h1:(kids.length:Int)=c
 ·by_cases h2:b<0
  ·rw[decide_eq_true h1,decide_eq_true h2,decide_eq_false (p:=_/\_) (by omega)];rfl
  ·by_cases h3:7<b
   ·rw[decide_eq_true h1,decide_eq_false h2,decide_eq_true h3,decide_eq_false (p:=_/\_) (by omega)];rfl
   ·by_cases h4:a=2
    ·rw[decide_eq_true h1,decide_eq_false h2,decide_eq_false h3,decide_eq_true h4,decide_eq_true (p:=_/\_) (by omega)];rfl
    ·by_cases h5:b=0
     ·rw[decide_eq_true h1,decide_eq_false h2,decide_eq_false h3,decide_eq_false h4,decide_eq_true h5,decide_eq_true (p:=_/\_) (by omega)];rfl
     ·rw[decide_eq_true h1,decide_eq_false h2,decide_eq_false h3,decide_eq_false h4,decide_eq_false h5,decide_eq_false (p:=_/\_) (by omega)];rfl
 ·rw[decide_eq_false h1,decide_eq_false (p:=_/\_) (by omega)];rfl
theorem c15s_eq (n k:Nat) (gI:Int->Int->Int->Option Bool) (a b:Int) (kids:List Fm) (hk:∀x∈kids,x.size<=k) (hl:kids.length<n) (hn:kids.length<=4294967296) (k0:Bool->Option R):s_l31Right.c15 ⟨gI,gOk k⟩ n a b kids k0=k0 (kids.all Fm.ok):=by
 unfold s_l31Right.c15
 rw[right_loop n k gI a b kids hk _ _ n 0 (by omega) (by omega) hn (by omega)]
 simp only[Int.toNat_zero,List.drop_zero]
 cases kids.all Fm.ok<;>rfl
theorem c13s_eq (n k:Nat) (c a b:Int) (kids:List Fm) (hk:∀x∈kids,x.size<=k) (hl:kids.length<n) (hn:kids.length<=4294967296) (k0:Bool->Option R):
  s_l31Right.c13 ⟨fun x lo hi=>some (decide (lo<=x)&&decide (x<=hi)),gOk k⟩ n c a b kids k0=k0 (decide ((kids.length:Int)=c/\((a=2/\0<=b/\b<=7)\/(a≠2/\b=0)))&&kids.all Fm.ok):=by
 have e:=c15s_eq n k (fun x lo hi=>some (decide (lo<=x)&&decide (x<=hi))) a b kids hk hl hn k0
 unfold s_l31Right.c13
 simp only[e,Option.bind_some]
 by_cases h4:a=2
 ·rw[decide_eq_true h4]
  by_cases h2:0<=b/\b<=7
  ·rw[decide_eq_true h2.1,decide_eq_true h2.2]
   by_cases h1:(kids.length:Int)=c
   ·rw[decide_eq_true h1,decide_eq_true (p:=_/\_) (by omega)];rfl
   ·rw[decide_eq_false h1,decide_eq_false (p:=_/\_) (by omega)];rfl
  ·have:(decide (0<=b)&&decide (b<=7))=false:=by simp;omega
   rw[this,decide_eq_false (p:=_/\_) (by omega)];rfl
 ·rw[decide_eq_false h4]
  by_cases h5:b=0
  ·rw[decide_eq_true h5]
   by_cases h1:(kids.length:Int)=c
   ·rw[decide_eq_true h1,decide_eq_true (p:=_/\_) (by omega)];rfl
   ·rw[decide_eq_false h1,decide_eq_false (p:=_/\_) (by omega)];rfl
  ·rw[decide_eq_false h5,decide_eq_false (p:=_/\_) (by omega)];rfl
end
theorem ok_parts_eq (f:Fm):f.ok=(decide (okHead f.kind f.prop f.kids.length)&&f.kids.all Fm.ok):=by
 cases f
 exact Fm.ok_eq _ _ _
theorem head_eq {f:Fm} {c:Int} (h:arity f.kind=c):decide (((f.kids.length:Int)=c)/\0<=f.prop/\f.prop<=7/\(f.kind=2\/f.prop=0))=decide (okHead f.kind f.prop f.kids.length):=by
 apply decide_eq_decide.2
 unfold okHead
 rw[h]
 omega
theorem head_eqs {f:Fm} {c:Int} (h:arity f.kind=c):decide (((f.kids.length:Int)=c)/\((f.kind=2/\0<=f.prop/\f.prop<=7)\/(f.kind≠2/\f.prop=0)))=decide (okHead f.kind f.prop f.kids.length):=by
 apply decide_eq_decide.2
 unfold okHead
 rw[h]
 omega
theorem head_no {f:Fm} (h1:f.kind≠1) (h2:f.kind≠2) (h3:f.kind≠3) (h4:f.kind≠4) (h5:f.kind≠5) (h6:f.kind≠6) (h7:f.kind≠7):f.ok=false:=by
 rw[ok_parts_eq,decide_eq_false]
 ·rfl
 ·unfold okHead arity
  rw[if_neg (by omega),if_neg (by omega),if_neg (by omega)]
  omega
theorem ok_main {R:Type} (k n:Nat) (f:Fm) (hk:∀x∈f.kids,x.size<=k) (hl:f.kids.length<n) (hn:f.kids.length<=4294967296) (K:Bool->Option R):i_formulaOK.main ⟨gOk k⟩ n f K=K f.ok:=by
 have hc:=fun c=>c13_eq n k c f.kind f.prop f.kids hk hl hn K
 unfold i_formulaOK.main
 simp only[hc]
 by_cases h1:f.kind=1
 ·rw[decide_eq_true h1,cond_true,head_eq (by rw[h1];rfl),ok_parts_eq]
 by_cases h2:f.kind=2
 ·rw[decide_eq_false h1,decide_eq_true h2,cond_false,cond_true,head_eq (by rw[h2];rfl),ok_parts_eq]
 by_cases h3:f.kind=3
 ·rw[decide_eq_false h1,decide_eq_false h2,decide_eq_true h3,cond_false,cond_false,cond_true,head_eq (by rw[h3];rfl),ok_parts_eq]
 by_cases h6:f.kind=6
 ·rw[decide_eq_false h1,decide_eq_false h2,decide_eq_false h3,decide_eq_true h6,cond_false,cond_false,cond_false,cond_true,head_eq (by rw[h6];rfl),ok_parts_eq]
 by_cases h4:f.kind=4
 ·rw[decide_eq_false h1,decide_eq_false h2,decide_eq_false h3,decide_eq_false h6,decide_eq_true h4,cond_false,cond_false,cond_false,cond_false,cond_true,head_eq (by rw[h4];rfl),ok_parts_eq]
 by_cases h5:f.kind=5
 ·rw[decide_eq_false h1,decide_eq_false h2,decide_eq_false h3,decide_eq_false h6,decide_eq_false h4,decide_eq_true h5,cond_false,cond_false,cond_false,cond_false,cond_false,cond_true,head_eq (by rw[h5];rfl),ok_parts_eq]
 by_cases h7:f.kind=7
 ·rw[decide_eq_false h1,decide_eq_false h2,decide_eq_false h3,decide_eq_false h6,decide_eq_false h4,decide_eq_false h5,decide_eq_true h7,cond_false,cond_false,cond_false,cond_false,cond_false,cond_false,cond_true,head_eq (by rw[h7];rfl),ok_parts_eq]
 ·rw[decide_eq_false h1,decide_eq_false h2,decide_eq_false h3,decide_eq_false h6,decide_eq_false h4,decide_eq_false h5,decide_eq_false h7,head_no h1 h2 h3 h4 h5 h6 h7];rfl
theorem right_main {R:Type} (k n:Nat) (f:Fm) (hk:∀x∈f.kids,x.size<=k) (hl:f.kids.length<n) (hn:f.kids.length<=4294967296) (K:Bool->Option R):s_l31Right.main ⟨fun x lo hi=>some (decide (lo<=x)&&decide (x<=hi)),gOk k⟩ n f K=K f.ok:=by
 have hc:=fun c=>c13s_eq n k c f.kind f.prop f.kids hk hl hn K
 unfold s_l31Right.main
 simp only[hc]
 by_cases h1:f.kind=1
 ·rw[decide_eq_true h1,cond_true,head_eqs (by rw[h1];rfl),ok_parts_eq]
 by_cases h2:f.kind=2
 ·rw[decide_eq_false h1,decide_eq_true h2,cond_false,cond_true,head_eqs (by rw[h2];rfl),ok_parts_eq]
 by_cases h3:f.kind=3
 ·rw[decide_eq_false h1,decide_eq_false h2,decide_eq_true h3,cond_false,cond_false,cond_true,head_eqs (by rw[h3];rfl),ok_parts_eq]
 by_cases h6:f.kind=6
 ·rw[decide_eq_false h1,decide_eq_false h2,decide_eq_false h3,decide_eq_true h6,cond_false,cond_false,cond_false,cond_true,head_eqs (by rw[h6];rfl),ok_parts_eq]
 by_cases h4:f.kind=4
 ·rw[decide_eq_false h1,decide_eq_false h2,decide_eq_false h3,decide_eq_false h6,decide_eq_true h4,cond_false,cond_false,cond_false,cond_false,cond_true,head_eqs (by rw[h4];rfl),ok_parts_eq]
 by_cases h5:f.kind=5
 ·rw[decide_eq_false h1,decide_eq_false h2,decide_eq_false h3,decide_eq_false h6,decide_eq_false h4,decide_eq_true h5,cond_false,cond_false,cond_false,cond_false,cond_false,cond_true,head_eqs (by rw[h5];rfl),ok_parts_eq]
 by_cases h7:f.kind=7
 ·rw[decide_eq_false h1,decide_eq_false h2,decide_eq_false h3,decide_eq_false h6,decide_eq_false h4,decide_eq_false h5,decide_eq_true h7,cond_false,cond_false,cond_false,cond_false,cond_false,cond_false,cond_true,head_eqs (by rw[h7];rfl),ok_parts_eq]
 ·rw[decide_eq_false h1,decide_eq_false h2,decide_eq_false h3,decide_eq_false h6,decide_eq_false h4,decide_eq_false h5,decide_eq_false h7,head_no h1 h2 h3 h4 h5 h6 h7];rfl
theorem gOk_zero :gOk 0=fun _=>none:=by
 funext f
 unfold gOk
 rw[if_neg (by rw[Fm.size_eq];omega)]
theorem formulaOK_ok :∀k,k<=4294967296->EntOK Tryd.prog (i_formulaOK.ent (gOk k))
 | 0, _ => by
  rw[gOk_zero]
  intro R xs H K r h
  simp only[i_formulaOK.ent]at h
  split at h<;>cases h
 | k + 1, hk => i_formulaOK.ok (G := ⟨gOk k⟩) ⟨formulaOK_ok k (by omega), trivial⟩ fun f r h => by
  unfold gOk at h
  split at h
  ·rename_i hs
   cases h
   have h2:=len_size f
   exact⟨f.kids.length+1,ok_main k _ f (fun x hx=>by have:=size_mem hx;omega) (by omega) (by omega) _⟩
  ·cases h
theorem l1In_ok :EntOK Tryd.prog (s_l1In.ent fun x lo hi=>some (decide (lo<=x)&&decide (x<=hi))):=s_l1In.ok (G:=⟨()⟩) trivial fun x lo hi r h=>by
 cases h
 refine⟨1,?_⟩
 unfold s_l1In.main
 cases decide (lo<=x)<;>rfl
theorem l31Right_ok :∀k,k<=4294967296->EntOK Tryd.prog (s_l31Right.ent (gOk k))
 | 0, _ => by
  rw[gOk_zero]
  intro R xs H K r h
  simp only[s_l31Right.ent]at h
  split at h<;>cases h
 | k + 1, hk => s_l31Right.ok (G := ⟨fun x lo hi => some (decide (lo ≤ x) && decide (x ≤ hi)), gOk k⟩) ⟨l1In_ok, l31Right_ok k (by omega), trivial⟩ fun f r h => by
  unfold gOk at h
  split at h
  ·rename_i hs
   cases h
   have h2:=len_size f
   exact⟨f.kids.length+1,right_main k _ f (fun x hx=>by have:=size_mem hx;omega) (by omega) (by omega) _⟩
  ·cases h
end Go.Proofs.YtjafncnjefnloaaDoor.Den

namespace Go.Proofs.YtjafncnjefnloaaDoor.Den
open Go.RowKit

-- strings of bytes
theorem push_fold {g:Int->UInt8}:∀(l:List Int) (acc:ByteArray),(l.foldl (fun r n=>r.push (g n)) acc).data.toList=acc.data.toList++l.map g
 |[],acc=>by simp
 | x :: l, acc => by
  rw[List.foldl_cons,push_fold l]
  simp[ByteArray.push]
theorem sOf_list (l:List Int):(sOf l).data.toList=l.map fun n=>UInt8.ofNat n.toNat:=by
 unfold sOf
 rw[push_fold]
 rfl
theorem ofS_back (s:ByteArray):(ofS s).map (fun n=>UInt8.ofNat n.toNat)=s.data.toList:=by
 unfold ofS
 rw[List.map_map]
 conv=>rhs;rw[<-List.map_id s.data.toList]
 refine List.map_congr_left fun b _=> ?_
 simp
theorem ba_ext {a b:ByteArray} (h:a.data.toList=b.data.toList):a=b:=by
 cases a with
 | mk a => cases b with
  |mk b=>congr 1;exact Array.toList_inj.1 h
theorem ba_app (a b:ByteArray):(a++b).data.toList=a.data.toList++b.data.toList:=by simp
theorem ba_size (a:ByteArray):a.size=a.data.toList.length:=by cases a;rfl
theorem ofS_len (s:ByteArray):(ofS s).length=s.size:=by unfold ofS;rw[List.length_map,ba_size]
theorem sOf_ofS (s:ByteArray):sOf (ofS s)=s:=ba_ext (by rw[sOf_list,ofS_back])
theorem sOf_app (a b:List Int):sOf (a++b)=sOf a++sOf b:=ba_ext (by rw[ba_app,sOf_list,sOf_list,sOf_list,List.map_append])
theorem app_size (a b:ByteArray):(a++b).size=a.size+b.size:=by rw[ba_size,ba_app,List.length_append,<-ba_size,<-ba_size]
theorem sCat_eq {a b:ByteArray} (h:a.size+b.size<=1099511627776):sCat a b=some (a++b):=by
 unfold sCat
 rw[decide_eq_true h];rfl
theorem joinB_one (a sep:ByteArray):joinB [a] sep=a:=ba_ext (by simp[joinB,Lib.join_one])
theorem joinB_two (a b sep:ByteArray):joinB [a,b] sep=a++sep++b:=ba_ext (by
 rw[ba_app,ba_app]
 simp[joinB,Lib.join,List.intercalate])
theorem joinF_eq {xs:List ByteArray} {sep:ByteArray} (h1:xs.length<=140737488355328) (h2:(joinB xs sep).size<=140737488355328):joinF xs sep=some (joinB xs sep):=by
 unfold joinF
 rw[if_pos ⟨h1,by rw[ba_size]at h2;exact h2⟩]

-- the texts
def sep2 :ByteArray:=ByteArray.mk #[44,32]
def word (k:Int):ByteArray:=if k=3 then ByteArray.mk #[110,111,116]else if k=4 then ByteArray.mk #[97,110,100]else if k=5 then ByteArray.mk #[111,114]else if k=6 then ByteArray.mk #[110,101,120,116]else ByteArray.mk #[117,110,116,105,108]
def numB (q:Int):ByteArray:=⟨(Lib.decDigits q.toNat).toArray⟩
theorem numB_eq {q:Int} (h:0<=q/\q<=7):numB q=⟨#[UInt8.ofNat (48+q.toNat)]⟩:=by
 unfold numB
 rw[Lib.decDigits,dif_pos (by omega)]
theorem word_size (k:Int):(word k).size<=5:=by
 unfold word
 split
 ·decide
 split
 ·decide
 split
 ·decide
 split
 ·decide
 ·decide
def Fm.text (f:Fm):ByteArray:=
 match f with
 |⟨k,q,kids⟩=>if k=1 then ByteArray.mk #[116,114,117,101]else if k=2 then ByteArray.mk #[112]++numB q else word k++ByteArray.mk #[40]++joinB (kids.attach.map fun⟨x,_⟩=>Fm.text x) sep2++ByteArray.mk #[41]
termination_by f
decreasing_by
 rename_i hx
 have:=List.sizeOf_lt_of_mem hx
 simp only[Fm.mk.sizeOf_spec]
 omega
theorem text_eq (f:Fm):Fm.text f=if f.kind=1 then ByteArray.mk #[116,114,117,101]else if f.kind=2 then ByteArray.mk #[112]++numB f.prop else word f.kind++ByteArray.mk #[40]++joinB (f.kids.map Fm.text) sep2++ByteArray.mk #[41]:=by
 obtain⟨k,q,kids⟩:=f
 rw[Fm.text]
 have:(kids.attach.map fun(x:{x // x∈kids})=>match x with|⟨x,_⟩=>Fm.text x)=kids.map Fm.text:=by
  conv=>rhs;rw[<-List.attach_map_subtype_val kids,List.map_map]
  rfl
 rw[this]
theorem ok_cases {f:Fm} (h:f.ok=true):(f.kind=1/\f.kids=[])\/(f.kind=2/\f.kids=[]/\0<=f.prop/\f.prop<=7)\/((f.kind=3\/f.kind=6)/\∃a,f.kids=[a]/\a.ok=true)\/((f.kind=4\/f.kind=5\/f.kind=7)/\∃a b,f.kids=[a,b]/\a.ok=true/\b.ok=true):=by
 rw[ok_parts_eq,Bool.and_eq_true,decide_eq_true_eq]at h
 obtain⟨⟨h1,h2,h3,h4⟩,h5⟩:=h
 rw[List.all_eq_true]at h5
 unfold arity at h1
 by_cases c1:f.kind=1\/f.kind=2
 ·rw[if_pos c1]at h1
  have:f.kids=[]:=List.eq_nil_of_length_eq_zero (by omega)
  rcases c1 with c|c
  ·exact .inl ⟨c,this⟩
  ·exact .inr (.inl ⟨c,this,h2,h3⟩)
 ·rw [if_neg c1] at h1
  by_cases c2:f.kind=3\/f.kind=6
  ·rw[if_pos c2]at h1
   refine .inr (.inr (.inl ⟨c2,?_⟩))
   match hk:f.kids,h1 with
   |[a],_=>exact⟨a,rfl,h5 a (by rw[hk];simp)⟩
  ·rw[if_neg c2]at h1
   by_cases c3:f.kind=4\/f.kind=5\/f.kind=7
   ·rw[if_pos c3]at h1
    refine .inr (.inr (.inr ⟨c3,?_⟩))
    match hk:f.kids,h1 with
    |[a,b],_=>exact⟨a,b,rfl,h5 a (by rw[hk];simp),h5 b (by rw[hk];simp)⟩
   ·rw[if_neg c3]at h1
    omega
theorem text_size :∀(n:Nat) (f:Fm),f.size<=n->f.ok=true->(Fm.text f).size<=16*f.size:=by
 intro n
 induction n with
 |zero=>intro f h;rw[Fm.size_eq]at h;omega
 | succ n ih =>
  intro f hn hf
  have hw:=word_size f.kind
  have s1:(ByteArray.mk #[40]).size=1:=rfl
  have s2:(ByteArray.mk #[41]).size=1:=rfl
  have s3:sep2.size=2:=rfl
  have hs:=Fm.size_eq f
  rw[text_eq]
  rcases ok_cases hf with⟨c,_⟩|⟨c,_,q0,q1⟩|⟨c,a,hk,ha⟩|⟨c,a,b,hk,ha,hb⟩
  ·rw[if_pos c]
   show 4<=_
   omega
  ·rw[if_neg (by omega),if_pos c,app_size,numB_eq ⟨q0,q1⟩]
   show 1+1<=_
   omega
  ·rw[if_neg (by omega),if_neg (by omega),hk]
   rw[hk]at hs
   simp only[List.map_cons,List.map_nil,List.sum_cons,List.sum_nil]at hs ⊢
   rw[joinB_one,app_size,app_size,app_size,s1,s2]
   have:=ih a (by omega) ha
   omega
  ·rw[if_neg (by omega),if_neg (by omega),hk]
   rw[hk]at hs
   simp only[List.map_cons,List.map_nil,List.sum_cons,List.sum_nil]at hs ⊢
   rw[joinB_two,app_size,app_size,app_size,app_size,app_size,s1,s2,s3]
   have:=ih a (by omega) ha
   have:=ih b (by omega) hb
   omega
end Go.Proofs.YtjafncnjefnloaaDoor.Den

namespace Go.Proofs.YtjafncnjefnloaaDoor.Den
open Go.RowKit
abbrev gText (k:Nat):Fm->Option ByteArray:=fun f=>if f.size<=k/\f.size<=13/\f.ok=true then some (Fm.text f)else none
abbrev gNum :Int->Option ByteArray:=fun q=>if 0<=q/\q<=7 then some (numB q)else none
theorem i_FormatInt_ok :EntOK Tryd.prog (i_FormatInt.ent gNum):=i_FormatInt.ok (G:=⟨itoaF⟩) ⟨strconv_Itoa_ok,trivial⟩ fun q r h=>by
 unfold gNum at h
 split at h
 ·rename_i hq
  cases h
  refine⟨1,?_⟩
  unfold i_FormatInt.main
  show Option.bind (itoaF q) _=_
  unfold itoaF
  rw[if_pos (by omega)]
  rfl
 ·cases h
theorem s_FormatInt_ok :EntOK Tryd.prog (s_FormatInt.ent gNum):=s_FormatInt.ok (G:=⟨()⟩) trivial fun q r h=>by
 unfold gNum at h
 split at h
 ·rename_i hq
  cases h
  refine⟨9,?_⟩
  rw[numB_eq hq]
  have hc:q=0\/q=1\/q=2\/q=3\/q=4\/q=5\/q=6\/q=7:=by omega
  rcases hc with rfl|rfl|rfl|rfl|rfl|rfl|rfl|rfl<;>(refine Eq.trans (b:=some (AT.one (.s _),[])) ?_ rfl;kernel_rfl)
 ·cases h
def smallJ :List ByteArray->Bool
 |[a]=>decide (a.size<=1000)
 |[a,b]=>decide (a.size<=1000)&&decide (b.size<=1000)
 |_=>false
theorem smallJ_cases :∀{xs:List ByteArray},smallJ xs=true->(∃a,xs=[a]/\a.size<=1000)\/∃a b,xs=[a,b]/\a.size<=1000/\b.size<=1000
 |[a],h=>.inl ⟨a,rfl,of_decide_eq_true h⟩
 | [a, b], h => by
  simp only[smallJ,Bool.and_eq_true,decide_eq_true_eq]at h
  exact .inr ⟨a,b,rfl,h⟩
abbrev gJoin :List ByteArray->ByteArray->Option ByteArray:=fun xs sep=>if sep=sep2/\smallJ xs=true then some (joinB xs sep)else none
section
variable {R : Type}
theorem c7_eq {n:Nat} {xs:List ByteArray} {sep e:ByteArray} {i:Int} {h:List Int} (hx:ix xs i=some e) (hl:h.length+e.size<=1048576) (k0:ByteArray->Option R) (k1:List ByteArray->ByteArray->Int->List Int->Option R):s_Join.c7 ⟨()⟩ n xs sep i h k0 k1=k1 xs sep i (h++ofS e):=by
 unfold s_Join.c7
 have e1:(List.append h (ofS e))=h++ofS e:=rfl
 rw[hx,Option.bind_some,e1,lim_eq (by rw[List.length_append,ofS_len];omega),Option.bind_some,decide_eq_false (by rw[List.length_append,ofS_len];omega),cond_false]
theorem join_one_main (a sep:ByteArray) (ha:a.size<=1000) (K:ByteArray->Option R):s_Join.main ⟨()⟩ 4 [a] sep K=K a:=by
 show s_Join.b3 ⟨()⟩ 4 [a] sep 0 [] (fun y0 y1 y2 y3=>s_Join.l3 ⟨()⟩ 4 3 y0 y1 y2 y3 (fun t4=>K t4) (fun h0=>K (sOf h0))) (fun t4=>K t4) (fun h0=>K (sOf h0))=_
 unfold s_Join.b3
 rw[decide_eq_true (by simp),cond_true,decide_eq_false (by omega),cond_false,c7_eq (e:=a) rfl (by simp;omega),List.nil_append]
 show s_Join.b3 ⟨()⟩ 4 [a] sep (wr (0+1)) (ofS a) (fun y0 y1 y2 y3=>s_Join.l3 ⟨()⟩ 4 2 y0 y1 y2 y3 (fun t4=>K t4) (fun h0=>K (sOf h0))) (fun t4=>K t4) (fun h0=>K (sOf h0))=_
 unfold s_Join.b3
 rw[wr_in (by omega),decide_eq_false (by simp),cond_false]
 show K (sOf (ofS a))=_
 rw[sOf_ofS]
theorem join_two_main (a b sep:ByteArray) (ha:a.size<=1000) (hb:b.size<=1000) (hs:sep.size<=1000) (K:ByteArray->Option R):s_Join.main ⟨()⟩ 4 [a,b] sep K=K (a++sep++b):=by
 show s_Join.b3 ⟨()⟩ 4 [a,b] sep 0 [] (fun y0 y1 y2 y3=>s_Join.l3 ⟨()⟩ 4 3 y0 y1 y2 y3 (fun t4=>K t4) (fun h0=>K (sOf h0))) (fun t4=>K t4) (fun h0=>K (sOf h0))=_
 unfold s_Join.b3
 rw[decide_eq_true (by simp),cond_true,decide_eq_false (by omega),cond_false,c7_eq (e:=a) rfl (by simp;omega),List.nil_append]
 show s_Join.b3 ⟨()⟩ 4 [a,b] sep (wr (0+1)) (ofS a) (fun y0 y1 y2 y3=>s_Join.l3 ⟨()⟩ 4 2 y0 y1 y2 y3 (fun t4=>K t4) (fun h0=>K (sOf h0))) (fun t4=>K t4) (fun h0=>K (sOf h0))=_
 unfold s_Join.b3
 have e1:(List.append (ofS a) (ofS sep))=ofS a++ofS sep:=rfl
 rw[wr_in (x:=0+1) (by omega),decide_eq_true (by simp),cond_true,decide_eq_true (by omega),cond_true,e1,lim_eq (by rw[List.length_append,ofS_len,ofS_len];omega),Option.bind_some,
  c7_eq (e:=b) rfl (by rw[List.length_append,ofS_len,ofS_len];omega)]
 show s_Join.b3 ⟨()⟩ 4 [a,b] sep (wr (0+1+1)) (ofS a++ofS sep++ofS b) (fun y0 y1 y2 y3=>s_Join.l3 ⟨()⟩ 4 1 y0 y1 y2 y3 (fun t4=>K t4) (fun h0=>K (sOf h0))) (fun t4=>K t4) (fun h0=>K (sOf h0))=_
 unfold s_Join.b3
 rw[wr_in (x:=0+1+1) (by omega),decide_eq_false (by simp),cond_false]
 show K (sOf (ofS a++ofS sep++ofS b))=_
 rw[sOf_app,sOf_app,sOf_ofS,sOf_ofS,sOf_ofS]
end
theorem s_Join_ok :EntOK Tryd.prog (s_Join.ent gJoin):=s_Join.ok (G:=⟨()⟩) trivial fun xs sep r h=>by
 unfold gJoin at h
 split at h
 ·rename_i hc
  cases h
  obtain⟨rfl,hc⟩:=hc
  obtain⟨a,rfl,ha⟩|⟨a,b,rfl,ha,hb⟩:=smallJ_cases hc
  ·exact⟨4,by rw[join_one_main a sep2 ha,joinB_one]⟩
  ·exact⟨4,by rw[join_two_main a b sep2 ha hb (by decide),joinB_two]⟩
 ·cases h
theorem kids_join {f:Fm} (h:f.ok=true) (hs:f.size<=13) (h1:f.kind≠1) (h2:f.kind≠2):gJoin (f.kids.map Fm.text) sep2=some (joinB (f.kids.map Fm.text) sep2)/\joinF (f.kids.map Fm.text) sep2=some (joinB (f.kids.map Fm.text) sep2)/\(joinB (f.kids.map Fm.text) sep2).size<=500/\1<=f.kids.length/\f.kids.length<=2/\3<=f.kind/\f.kind<=7/\∀x∈f.kids,x.ok=true:=by
 have hz:=Fm.size_eq f
 rcases ok_cases h with⟨c,_⟩|⟨c,_,q0,q1⟩|⟨c,a,hk,ha⟩|⟨c,a,b,hk,ha,hb⟩
 ·exact absurd c h1
 ·exact absurd c h2
 ·rw[hk]at hz
  simp only[List.map_cons,List.map_nil,List.sum_cons,List.sum_nil]at hz
  have:=text_size 13 a (by omega) ha
  have hj:(joinB [Fm.text a] sep2).size<=500:=by rw[joinB_one];omega
  rw[hk]
  simp only[List.map_cons,List.map_nil]
  exact⟨if_pos ⟨rfl,decide_eq_true (by omega)⟩,joinF_eq (by simp) (by omega),hj,by simp,by simp,by omega,by omega,fun x hx=>by rw[List.mem_singleton.1 hx];exact ha⟩
 ·rw[hk]at hz
  simp only[List.map_cons,List.map_nil,List.sum_cons,List.sum_nil]at hz
  have:=text_size 13 a (by omega) ha
  have:=text_size 13 b (by omega) hb
  have s3:sep2.size=2:=rfl
  have hj:(joinB [Fm.text a,Fm.text b] sep2).size<=500:=by rw[joinB_two,app_size,app_size];omega
  rw[hk]
  simp only[List.map_cons,List.map_nil]
  exact⟨if_pos ⟨rfl,by simp only[smallJ,Bool.and_eq_true,decide_eq_true_eq];omega⟩,joinF_eq (by simp) (by omega),hj,by simp,by simp,by omega,by omega,fun x hx=>by
   rcases List.mem_cons.1 hx with e|e
   ·rw[e];exact ha
   ·rw[List.mem_singleton.1 e];exact hb⟩
section
variable {R : Type}
theorem itext_loop (n k:Nat) (gF:Int->Option ByteArray) (gJ:List ByteArray->ByteArray->Option ByteArray) (wd:ByteArray) (kids:List Fm) (hk:∀x∈kids,x.size<=k/\x.size<=13/\x.ok=true) (hl:kids.length<=2) (k0:ByteArray->List ByteArray->Option R):∀m (i:Int) (h0:List ByteArray),0<=i->i<=kids.length->h0.length<=i->(kids.length-i).toNat<m->
  i_formulaText.l19 ⟨gF,gText k,gJ⟩ n m wd kids (kids.length:Int) i h0 k0=k0 wd (h0++(kids.drop i.toNat).map Fm.text):=by
 intro m
 induction m with
 |zero=>intro i h0 _ _ _ hm;omega
 | succ m ih =>
  intro i h0 q0 q1 ql hm
  show i_formulaText.b19 ⟨gF,gText k,gJ⟩ n wd kids (kids.length:Int) i h0 (fun y0 y1 y2 y3 y4=>i_formulaText.l19 ⟨gF,gText k,gJ⟩ n m y0 y1 y2 y3 y4 k0) k0=_
  unfold i_formulaText.b19
  by_cases hi:i<(kids.length:Int)
  ·obtain⟨x,x1,x2,x3,_⟩:=drop_step q0 hi
   rw[x3,List.map_cons,decide_eq_true hi,cond_true,x1,Option.bind_some,Fm.eta]
   show Option.bind (gText k x) _=_
   have e:gText k x=some (Fm.text x):=if_pos (hk x x2)
   rw[e,Option.bind_some,lim_eq (by rw[List.length_append,List.length_singleton];omega),Option.bind_some,wr_in (x:=i+1) (by omega)]
   refine(ih (i+1) _ (by omega) (by omega) (by rw[List.length_append,List.length_singleton];omega) (by omega)).trans ?_
   rw[List.append_assoc];rfl
  ·rw[decide_eq_false hi,cond_false,drop_all hi,List.map_nil,List.append_nil]
theorem stext_loop (n k:Nat) (gF:Int->Option ByteArray) (gJ:List ByteArray->ByteArray->Option ByteArray) (wd:ByteArray) (a b:Int) (kids:List Fm) (hk:∀x∈kids,x.size<=k/\x.size<=13/\x.ok=true) (hl:kids.length<=2) (k0:ByteArray->List ByteArray->Option R):∀m (i:Int) (h0:List ByteArray),0<=i->i<=kids.length->h0.length<=i->(kids.length-i).toNat<m->
  s_l31Text.l8 ⟨gF,gText k,gJ⟩ n m wd i a b kids h0 k0=k0 wd (h0++(kids.drop i.toNat).map Fm.text):=by
 intro m
 induction m with
 |zero=>intro i h0 _ _ _ hm;omega
 | succ m ih =>
  intro i h0 q0 q1 ql hm
  show s_l31Text.b8 ⟨gF,gText k,gJ⟩ n wd i a b kids h0 (fun y0 y1 y2 y3 y4 y5=>s_l31Text.l8 ⟨gF,gText k,gJ⟩ n m y0 y1 y2 y3 y4 y5 k0) k0=_
  unfold s_l31Text.b8
  by_cases hi:i<(kids.length:Int)
  ·obtain⟨x,x1,x2,x3,_⟩:=drop_step q0 hi
   rw[x3,List.map_cons,decide_eq_true hi,cond_true,x1,Option.bind_some,Fm.eta]
   show Option.bind (gText k x) _=_
   have e:gText k x=some (Fm.text x):=if_pos (hk x x2)
   rw[e,Option.bind_some,lim_eq (by rw[List.length_append,List.length_singleton];omega),Option.bind_some,wr_in (x:=i+1) (by omega)]
   refine(ih (i+1) _ (by omega) (by omega) (by rw[List.length_append,List.length_singleton];omega) (by omega)).trans ?_
   rw[List.append_assoc];rfl
  ·rw[decide_eq_false hi,cond_false,drop_all hi,List.map_nil,List.append_nil]
theorem cat4 {w j:ByteArray} (h1:w.size<=5) (h2:j.size<=500) (g:Option ByteArray) (hg:g=some j) (K:ByteArray->Option R):(Option.bind (sCat w (ByteArray.mk #[40])) fun q=>Option.bind g fun r=>Option.bind (sCat q r) fun q2=>Option.bind (sCat q2 (ByteArray.mk #[41])) fun q3=>K q3)=K (w++ByteArray.mk #[40]++j++ByteArray.mk #[41]):=by
 have s1:(ByteArray.mk #[40]).size=1:=rfl
 have s2:(ByteArray.mk #[41]).size=1:=rfl
 rw[sCat_eq (by omega),Option.bind_some,hg,Option.bind_some,sCat_eq (by rw[app_size];omega),Option.bind_some,sCat_eq (by rw[app_size,app_size];omega),Option.bind_some]
theorem c17_eq (n k:Nat) (f:Fm) (wd:ByteArray) (hw:wd=word f.kind) (hf:f.ok=true) (hs:f.size<=13) (hk:∀x∈f.kids,x.size<=k) (h1:f.kind≠1) (h2:f.kind≠2) (hn:2<n) (k0:ByteArray->Option R):i_formulaText.c17 ⟨gNum,gText k,joinF⟩ n wd f.kind f.prop f.kids k0=k0 (Fm.text f):=by
 obtain⟨j1,j2,j3,j4,j5,j6,j7,j8⟩:=kids_join hf hs h1 h2
 unfold i_formulaText.c17
 rw[itext_loop n k gNum joinF wd f.kids (fun x hx=>⟨hk x hx,by have:=size_mem hx;omega,j8 x hx⟩) j5 _ n 0 [] (by omega) (by omega) (by simp) (by omega)]
 simp only[Int.toNat_zero,List.drop_zero,List.nil_append]
 rw[text_eq,if_neg h1,if_neg h2,hw]
 exact cat4 (word_size _) j3 _ j2 k0
theorem itext_main (n k:Nat) (f:Fm) (hf:f.ok=true) (hs:f.size<=13) (hk:∀x∈f.kids,x.size<=k) (hn:2<n) (K:ByteArray->Option R):i_formulaText.main ⟨gNum,gText k,joinF⟩ n f K=K (Fm.text f):=by
 unfold i_formulaText.main
 by_cases h1:f.kind=1
 ·rw[decide_eq_true h1,cond_true,text_eq,if_pos h1]
 rw[decide_eq_false h1,cond_false]
 by_cases h2:f.kind=2
 ·rw[decide_eq_true h2,cond_true,text_eq,if_neg h1,if_pos h2]
  rcases ok_cases hf with⟨c,_⟩|⟨c,_,q0,q1⟩|⟨c,a,hk,ha⟩|⟨c,a,b,hk,ha,hb⟩
  ·omega
  ·show Option.bind (gNum f.prop) _=_
   have e:gNum f.prop=some (numB f.prop):=if_pos ⟨q0,q1⟩
   rw[e,Option.bind_some,sCat_eq,Option.bind_some]
   rw[numB_eq ⟨q0,q1⟩]
   show 1+1<=_
   omega
  ·omega
  ·omega
 rw[decide_eq_false h2,cond_false]
 have hc:=fun wd hw=>c17_eq (R:=R) n k f wd hw hf hs hk h1 h2 hn
 obtain⟨_,_,_,_,_,j6,j7,_⟩:=kids_join hf hs h1 h2
 by_cases h3:f.kind=3
 ·rw[decide_eq_true h3,cond_true,hc _ (by rw[h3];rfl)]
 rw[decide_eq_false h3,cond_false]
 by_cases h4:f.kind=4
 ·rw[decide_eq_true h4,cond_true,hc _ (by rw[h4];rfl)]
 rw[decide_eq_false h4,cond_false]
 by_cases h5:f.kind=5
 ·rw[decide_eq_true h5,cond_true,hc _ (by rw[h5];rfl)]
 rw[decide_eq_false h5,cond_false]
 by_cases h6:f.kind=6
 ·rw[decide_eq_true h6,cond_true,hc _ (by rw[h6];rfl)]
 rw[decide_eq_false h6,cond_false]
 have h7:f.kind=7:=by omega
 rw[decide_eq_true h7,cond_true,hc _ (by rw[h7];rfl)]
theorem stext_main (n k:Nat) (f:Fm) (hf:f.ok=true) (hs:f.size<=13) (hk:∀x∈f.kids,x.size<=k) (hn:2<n) (K:ByteArray->Option R):s_l31Text.main ⟨gNum,gText k,gJoin⟩ n f K=K (Fm.text f):=by
 unfold s_l31Text.main
 by_cases h1:f.kind=1
 ·rw[decide_eq_true h1,cond_true,text_eq,if_pos h1]
 rw[decide_eq_false h1,cond_false]
 by_cases h2:f.kind=2
 ·rw[decide_eq_true h2,cond_true,text_eq,if_neg h1,if_pos h2]
  rcases ok_cases hf with⟨c,_⟩|⟨c,_,q0,q1⟩|⟨c,a,hk,ha⟩|⟨c,a,b,hk,ha,hb⟩
  ·omega
  ·show Option.bind (gNum f.prop) _=_
   have e:gNum f.prop=some (numB f.prop):=if_pos ⟨q0,q1⟩
   rw[e,Option.bind_some,sCat_eq,Option.bind_some]
   rw[numB_eq ⟨q0,q1⟩]
   show 1+1<=_
   omega
  ·omega
  ·omega
 rw[decide_eq_false h2,cond_false]
 obtain⟨j1,j2,j3,j4,j5,j6,j7,j8⟩:=kids_join hf hs h1 h2
 have hx:ix [ByteArray.empty,ByteArray.empty,ByteArray.empty,(ByteArray.mk #[110,111,116]),(ByteArray.mk #[97,110,100]),(ByteArray.mk #[111,114]),(ByteArray.mk #[110,101,120,116]),(ByteArray.mk #[117,110,116,105,108])] f.kind=some (word f.kind):=by
  have hc:f.kind=3\/f.kind=4\/f.kind=5\/f.kind=6\/f.kind=7:=by omega
  rcases hc with e|e|e|e|e<;>(rw[e];rfl)
 rw[hx,Option.bind_some,stext_loop n k gNum gJoin (word f.kind) f.kind f.prop f.kids (fun x hx=>⟨hk x hx,by have:=size_mem hx;omega,j8 x hx⟩) j5 _ n 0 [] (by omega) (by omega) (by simp) (by omega)]
 simp only[Int.toNat_zero,List.drop_zero,List.nil_append]
 rw[text_eq,if_neg h1,if_neg h2]
 exact cat4 (word_size _) j3 _ j1 K
end
theorem gText_zero :gText 0=fun _=>none:=by
 funext f
 unfold gText
 rw[if_neg (by rw[Fm.size_eq];omega)]
theorem formulaText_ok :∀k,EntOK Tryd.prog (i_formulaText.ent (gText k))
 | 0 => by
  rw[gText_zero]
  intro R xs H K r h
  simp only[i_formulaText.ent]at h
  split at h<;>cases h
 | k + 1 => i_formulaText.ok (G := ⟨gNum, gText k, joinF⟩) ⟨i_FormatInt_ok, formulaText_ok k, strings_Join_ok, trivial⟩ fun f r h => by
  unfold gText at h
  split at h
  ·rename_i hs
   cases h
   exact⟨3,itext_main 3 k f hs.2.2 hs.2.1 (fun x hx=>by have:=size_mem hx;omega) (by omega) _⟩
  ·cases h
theorem l31Text_ok :∀k,EntOK Tryd.prog (s_l31Text.ent (gText k))
 | 0 => by
  rw[gText_zero]
  intro R xs H K r h
  simp only[s_l31Text.ent]at h
  split at h<;>cases h
 | k + 1 => s_l31Text.ok (G := ⟨gNum, gText k, gJoin⟩) ⟨s_FormatInt_ok, l31Text_ok k, s_Join_ok, trivial⟩ fun f r h => by
  unfold gText at h
  split at h
  ·rename_i hs
   cases h
   exact⟨3,stext_main 3 k f hs.2.2 hs.2.1 (fun x hx=>by have:=size_mem hx;omega) (by omega) _⟩
  ·cases h
end Go.Proofs.YtjafncnjefnloaaDoor.Den

namespace Go.Proofs.YtjafncnjefnloaaDoor.Den
open Go.RowKit
open Classical
abbrev gIs (k:Nat):Fm->Option Bool:=fun f=>if f.size<=k then some (isFormula f)else none
theorem i_IsFormula_ok (k:Nat) (hk:k<=4294967296):EntOK Tryd.prog (i_IsFormula.ent (gIs k)):=i_IsFormula.ok (G:=⟨gSize k,gOk k⟩) ⟨formulaSize_ok k hk,formulaOK_ok k hk,trivial⟩ fun f r h=>by
 unfold gIs at h
 split at h
 ·rename_i hs
  cases h
  refine⟨1,?_⟩
  unfold i_IsFormula.main
  have e1:gSize k f=some (f.size:Int):=if_pos hs
  have e2:gOk k f=some f.ok:=if_pos hs
  simp only[Fm.eta]
  rw[e1,Option.bind_some,e2]
  unfold isFormula
  by_cases h12:f.size<=12
  ·rw[decide_eq_true (by omega),decide_eq_true h12];rfl
  ·rw[decide_eq_false (by omega),decide_eq_false h12];rfl
 ·cases h
section
variable {R : Type}
theorem left_loop (n k:Nat) (a b:Int) (kids:List Fm) (hk:∀x∈kids,x.size<=k) (hn:kids.length<=4294967296) (k0:Int->Option R):∀m (L i:Int), -1<=L->L<=12->0<=i->i<=kids.length->(kids.length-i).toNat<m->
  s_l31Left.l3 ⟨gLeft k⟩ n m L i a b kids k0=k0 (if L<0 then -1 else if ((wS Fm.size (kids.drop i.toNat):Nat):Int)<=L then L-(wS Fm.size (kids.drop i.toNat):Nat)else -1):=by
 intro m
 induction m with
 |zero=>intro L i _ _ _ _ hm;omega
 | succ m ih =>
  intro L i l0 l1 q0 q1 hm
  show s_l31Left.b3 ⟨gLeft k⟩ n L i a b kids (fun y0 y1 y2 y3 y4=>s_l31Left.l3 ⟨gLeft k⟩ n m y0 y1 y2 y3 y4 k0) k0=_
  unfold s_l31Left.b3
  by_cases hi:i<(kids.length:Int)
  ·rw[decide_eq_true hi,cond_true]
   by_cases hL:0<=L
   ·obtain⟨x,x1,x2,x3,_⟩:=drop_step q0 hi
    rw[decide_eq_true hL,cond_true,x1,Option.bind_some,Fm.eta]
    show Option.bind (gLeft k x L) _=_
    have e:gLeft k x L=some (if (x.size:Int)<=L then L-x.size else -1):=if_pos ⟨hk x x2,hL,l1⟩
    rw[e,Option.bind_some,wr_in (x:=i+1) (by omega)]
    refine(ih _ (i+1) (by split<;>omega) (by split<;>omega) (by omega) (by omega) (by omega)).trans ?_
    congr 1
    rw[x3,wS_cons]
    split<;>split<;>split<;>(try split)<;>omega
   ·rw[decide_eq_false hL,cond_false,if_pos (by omega)]
    congr 1
    omega
  ·rw[decide_eq_false hi,cond_false,drop_all hi,wS_nil]
   congr 1
   split
   ·omega
   ·rw[if_pos (by omega)];omega
end
theorem gLeft_zero :gLeft 0=fun _ _=>none:=by
 funext f l
 unfold gLeft
 rw[if_neg (by rw[Fm.size_eq];omega)]
theorem l31Left_ok :∀k,k<=4294967296->EntOK Tryd.prog (s_l31Left.ent (gLeft k))
 | 0, _ => by
  rw[gLeft_zero]
  intro R xs H K r h
  simp only[s_l31Left.ent]at h
  split at h<;>cases h
 | k + 1, hk => s_l31Left.ok (G := ⟨gLeft k⟩) ⟨l31Left_ok k (by omega), trivial⟩ fun f left r h => by
  unfold gLeft at h
  split at h
  ·rename_i hs
   cases h
   have h2:=len_size f
   refine⟨f.kids.length+1,?_⟩
   unfold s_l31Left.main
   rw[wr_in (by omega),left_loop _ k _ _ f.kids (fun x hx=>by have:=size_mem hx;omega) (by omega) _ _ (left-1) 0 (by omega) (by omega) (by omega) (by omega) (by omega)]
   simp only[Int.toNat_zero,List.drop_zero]
   have:=sizes_eq f
   congr 4
   split<;>split<;>(try split)<;>omega
  ·cases h
theorem s_IsFormula_ok (k:Nat) (hk:k<=4294967296):EntOK Tryd.prog (s_IsFormula.ent (gIs k)):=s_IsFormula.ok (G:=⟨gLeft k,gOk k⟩) ⟨l31Left_ok k hk,l31Right_ok k hk,trivial⟩ fun f r h=>by
 unfold gIs at h
 split at h
 ·rename_i hs
  cases h
  refine⟨1,?_⟩
  unfold s_IsFormula.main
  have e1:gLeft k f 12=some (if (f.size:Int)<=12 then (12:Int)-f.size else (-1:Int)):=if_pos ⟨hs,by omega,by omega⟩
  have e2:gOk k f=some f.ok:=if_pos hs
  simp only[Fm.eta]
  rw[e1,Option.bind_some,e2]
  unfold isFormula
  by_cases h12:f.size<=12
  ·rw[if_pos (by omega),decide_eq_true (by omega),decide_eq_true h12];rfl
  ·rw[if_neg (by omega),decide_eq_false (by omega),decide_eq_false h12];rfl
 ·cases h
theorem isF_parts {f:Fm} (h:isFormula f=true):f.size<=12/\f.ok=true:=by
 unfold isFormula at h
 rw[Bool.and_eq_true,decide_eq_true_eq]at h
 exact h
-- the laws' own functions
section
variable {R : Type}
end
end Go.Proofs.YtjafncnjefnloaaDoor.Den

import Derived.Test.YtjafncnjefnloaaDoorZRowEC14
namespace Go.Proofs.YtjafncnjefnloaaDoor.Den
open Go.RowKit
set_option maxRecDepth 100000
set_option linter.unusedVariables false
namespace s_l1In
structure Gs where
 none_:Unit
noncomputable def ents (_:Gs):List Ent:=[]
noncomputable def main {R:Type} (G:Gs) (n:Nat) (x:Int) (lo:Int) (hi:Int) (K:Bool->Option R):Option R:=
 bif decide (lo<=x)then
  (K (decide (x<=hi)))
 else
  K false
noncomputable def pc (_:Gs) (_:Nat):Pcs:=⟨fun _ _ _ _=>none,fun _ _ _ _=>none,fun _ _ _ _=>none⟩
noncomputable def an:Ann:=⟨15,0,[],[],[6],[],[]⟩
noncomputable abbrev bd:=bodyOf Tryd.f41
noncomputable def Does (G:Gs) (x:Int) (lo:Int) (hi:Int) (r:Bool):Prop:=∃n,main (R:=AT×List Ob) G n x lo hi (fun r0=>some (.one (.b r0),[]))=some (.one (.b r),[])
theorem ok {G:Gs} (hG:AllE Tryd.prog (ents G)) {g:Int->Int->Int->Option (Bool)} (hg:∀x lo hi r,g x lo hi=some r->Does G x lo hi r):EntOK Tryd.prog (ent g):=fun R xs H K r hc=>by
 simp only[ent]at hc
 split at hc
 ·obtain⟨r,j1,j2⟩:=bind_some hc
  obtain⟨n,j3⟩:=hg _ _ _ _ j1
  exact⟨_,_,j2,fnP hG an (pc G n) bd [.tmp 6] Tryd.func41 (.inl rfl) (apl [] trivial) (.trans (by kernel_rfl) j3)⟩
 ·cases hc
end s_l1In
namespace s_l31Left
structure Gs where
 s_l31Left:Fm->Int->Option (Int)
noncomputable def ents (G:Gs):List Ent:=[ent G.s_l31Left]
noncomputable def b3 {R:Type} (G:Gs) (n:Nat) (left:Int) (k:Int) (h0:Int) (h02:Int) (h03:List Fm) (nx:Int->Int->Int->Int->List Fm->Option R) (k0:Int->Option R):Option R:=
 bif decide (k<(List.length h03:Int))then
  (
  bif decide (0<=left)then
   (
   Option.bind (ix h03 k) fun e=>
   Option.bind (G.s_l31Left (Fm.mk (Fm.kind e) (Fm.prop e) (Fm.kids e)) left) fun r=>
   nx r (wr (k+1)) h0 h02 h03
   )
  else
   k0 left
  )
 else
  k0 left
noncomputable def l3 {R:Type} (G:Gs) (n m:Nat) (left:Int) (k:Int) (h0:Int) (h02:Int) (h03:List Fm) (k0:Int->Option R):Option R:=iter (fun(v:Int×Int×Int×Int×List Fm) nx=>b3 G n v.1 v.2.1 v.2.2.1 v.2.2.2.1 v.2.2.2.2 (fun y0 y1 y2 y3 y4=>nx (y0,y1,y2,y3,y4)) k0) m (left,k,h0,h02,h03)
noncomputable def main {R:Type} (G:Gs) (n:Nat) (f:Fm) (left:Int) (K:Int->Option R):Option R:=
 l3 G n n (wr (left-1)) 0 (Fm.kind f) (Fm.prop f) (Fm.kids f)
  (fun left2=>K left2)
noncomputable def dl3 (G:Gs) (n m:Nat) (R:Type) (st:St) (K:Kt R):Option R:=match st with
 |⟨[(1,.one (.i left)),(2,.one (.p 0 0)),(5,.one (.i k))],[.box [.i h0,.i h02,.l (.n 2) h03]]⟩=>l3 G n m left k h0 h02 h03 (fun left=>K (.exit 0) ⟨[(1,.one (.i left))],[]⟩)
 |_=>none
noncomputable def pc (G:Gs) (n:Nat):Pcs:=⟨fun R id st K=>bif Nat.beq id 3 then dl3 G n n R st K else none,fun _ _ _ _=>none,fun _ _ _ _=>none⟩
noncomputable def an:Ann:=⟨27,0,[(3,[1,2,5])],[],[4],[],[]⟩
noncomputable abbrev bd:=bodyOf Tryd.f60
noncomputable abbrev q3:=nthC [1,1,0,1,0,0] bd
theorem pl3 {G:Gs} (hG:AllE Tryd.prog (ents G)) (n:Nat):∀m,PieceOK Tryd.prog an (.loop q3) (dl3 G n m):=lpc hG (pc G n) [1,2,5] ⟨[1],[4],[(0,[1])]⟩ (apl [] trivial) (fun R st K=>by unfold dl3;split<;>rfl) fun m R st K r h=>by unfold dl3 at h;split at h;exact .trans (by kernel_rfl) h;cases h
noncomputable def Does (G:Gs) (f:Fm) (left:Int) (r:Int):Prop:=∃n,main (R:=AT×List Ob) G n f left (fun r0=>some (.one (.i r0),[]))=some (.one (.i r),[])
theorem ok {G:Gs} (hG:AllE Tryd.prog (ents G)) {g:Fm->Int->Option (Int)} (hg:∀f left r,g f left=some r->Does G f left r):EntOK Tryd.prog (ent g):=fun R xs H K r hc=>by
 simp only[ent]at hc
 split at hc
 ·obtain⟨r,j1,j2⟩:=bind_some hc
  obtain⟨n,j3⟩:=hg _ _ _ j1
  exact⟨_,_,j2,fnP hG an (pc G n) bd [.tmp 4] Tryd.func60 (.inl rfl) (apl [(1,3,.loop q3)] ⟨pl3 hG n n,trivial⟩) (.trans (by kernel_rfl) j3)⟩
 ·cases hc
end s_l31Left
namespace s_l31Right
structure Gs where
 s_l1In:Int->Int->Int->Option (Bool)
 s_l31Right:Fm->Option (Bool)
noncomputable def ents (G:Gs):List Ent:=[s_l1In.ent G.s_l1In,ent G.s_l31Right]
noncomputable def b16 {R:Type} (G:Gs) (n:Nat) (i:Int) (h0:Int) (h02:Int) (h03:List Fm) (nx:Int->Int->Int->List Fm->Option R) (k0:Bool->Option R) (k1:Option R):Option R:=
 bif decide (i<(List.length h03:Int))then
  (
  Option.bind (ix h03 i) fun e=>
  Option.bind (G.s_l31Right (Fm.mk (Fm.kind e) (Fm.prop e) (Fm.kids e))) fun r=>
  bif !r then
   (k0 false)
  else
   nx (wr (i+1)) h0 h02 h03
  )
 else
  k1
noncomputable def l16 {R:Type} (G:Gs) (n m:Nat) (i:Int) (h0:Int) (h02:Int) (h03:List Fm) (k0:Bool->Option R) (k1:Option R):Option R:=iter (fun(v:Int×Int×Int×List Fm) nx=>b16 G n v.1 v.2.1 v.2.2.1 v.2.2.2 (fun y0 y1 y2 y3=>nx (y0,y1,y2,y3)) k0 k1) m (i,h0,h02,h03)
noncomputable def c15 {R:Type} (G:Gs) (n:Nat) (h0:Int) (h02:Int) (h03:List Fm) (k0:Bool->Option R):Option R:=
 l16 G n n 0 h0 h02 h03
  (fun t2=>k0 t2)
  (k0 true)
noncomputable def c13 {R:Type} (G:Gs) (n:Nat) (kids:Int) (h0:Int) (h02:Int) (h03:List Fm) (k0:Bool->Option R):Option R:=
 bif decide (h0 = 2) then
  (
  Option.bind (G.s_l1In h02 0 7) fun r=>
  bif !r then
   (k0 false)
  else
   bif !decide (h0 = 2) then
    (
    bif !decide (h02=0)then
     (k0 false)
    else
     bif !decide ((List.length h03:Int)=kids)then
      (k0 false)
     else
      c15 G n h0 h02 h03
       (fun t2=>k0 t2)
    )
   else
    bif !decide ((List.length h03:Int)=kids)then
     (k0 false)
    else
     c15 G n h0 h02 h03
      (fun t22=>k0 t22)
  )
 else
  bif !decide (h0 = 2) then
   (
   bif !decide (h02=0)then
    (k0 false)
   else
    bif !decide ((List.length h03:Int)=kids)then
     (k0 false)
    else
     c15 G n h0 h02 h03
      (fun t23=>k0 t23)
   )
  else
   bif !decide ((List.length h03:Int)=kids)then
    (k0 false)
   else
    c15 G n h0 h02 h03
     (fun t24=>k0 t24)
noncomputable def main {R:Type} (G:Gs) (n:Nat) (f:Fm) (K:Bool->Option R):Option R:=
 bif decide ((Fm.kind f)=1)then
  (
  c13 G n 0 (Fm.kind f) (Fm.prop f) (Fm.kids f)
   (fun t2=>K t2)
  )
 else
  bif decide ((Fm.kind f)=2)then
   (
   c13 G n 0 (Fm.kind f) (Fm.prop f) (Fm.kids f)
    (fun t22=>K t22)
   )
  else
   bif decide ((Fm.kind f)=3)then
    (
    c13 G n 1 (Fm.kind f) (Fm.prop f) (Fm.kids f)
     (fun t23=>K t23)
    )
   else
    bif decide ((Fm.kind f)=6)then
     (
     c13 G n 1 (Fm.kind f) (Fm.prop f) (Fm.kids f)
      (fun t24=>K t24)
     )
    else
     bif decide ((Fm.kind f)=4)then
      (
      c13 G n 2 (Fm.kind f) (Fm.prop f) (Fm.kids f)
       (fun t25=>K t25)
      )
     else
      bif decide ((Fm.kind f)=5)then
       (
       c13 G n 2 (Fm.kind f) (Fm.prop f) (Fm.kids f)
        (fun t26=>K t26)
       )
      else
       bif decide ((Fm.kind f)=7)then
        (
        c13 G n 2 (Fm.kind f) (Fm.prop f) (Fm.kids f)
         (fun t27=>K t27)
        )
       else
        K false
noncomputable def dl16 (G:Gs) (n m:Nat) (R:Type) (st:St) (K:Kt R):Option R:=match st with
 |⟨[(1,.one (.p 0 0)),(4,.one (.i i))],[.box [.i h0,.i h02,.l (.n 2) h03]]⟩=>l16 G n m i h0 h02 h03 (fun t2=>K .ret ⟨[(2,.one (.b t2))],[]⟩) (K (.exit 1) ⟨[],[]⟩)
 |_=>none
noncomputable def dc15 (G:Gs) (n:Nat) (R:Type) (st:St) (K:Kt R):Option R:=match st with
 |⟨[(1,.one (.p 0 0))],[.box [.i h0,.i h02,.l (.n 2) h03]]⟩=>c15 G n h0 h02 h03 (fun t2=>K .ret ⟨[(2,.one (.b t2))],[]⟩)
 |_=>none
noncomputable def dc13 (G:Gs) (n:Nat) (R:Type) (st:St) (K:Kt R):Option R:=match st with
 |⟨[(1,.one (.p 0 0)),(3,.one (.i kids))],[.box [.i h0,.i h02,.l (.n 2) h03]]⟩=>c13 G n kids h0 h02 h03 (fun t2=>K .ret ⟨[(2,.one (.b t2))],[]⟩)
 |_=>none
noncomputable def pc (G:Gs) (n:Nat):Pcs:=⟨fun R id st K=>bif Nat.beq id 16 then dl16 G n n R st K else none,fun R id st K=>bif Nat.beq id 15 then dc15 G n R st K else bif Nat.beq id 13 then dc13 G n R st K else none,fun _ _ _ _=>none⟩
noncomputable def an:Ann:=⟨57,0,[(16,[1,4])],[(15,[1]),(13,[1,3])],[2],[],[]⟩
noncomputable abbrev bd:=bodyOf Tryd.f61
noncomputable abbrev q16:=nthC [1,1,1,1,0,1,0,0] bd
noncomputable abbrev q15:=nthC [1,1,1,1] bd
noncomputable abbrev q13:=nthC [1,1,1] bd
theorem pl16 {G:Gs} (hG:AllE Tryd.prog (ents G)) (n:Nat):∀m,PieceOK Tryd.prog an (.loop q16) (dl16 G n m):=lpc hG (pc G n) [1,4] ⟨[],[2],[(1,[])]⟩ (apl [] trivial) (fun R st K=>by unfold dl16;split<;>rfl) fun m R st K r h=>by unfold dl16 at h;split at h;exact .trans (by kernel_rfl) h;cases h
theorem pc15 {G:Gs} (hG:AllE Tryd.prog (ents G)) {n:Nat}:PieceOK Tryd.prog an q15 (dc15 G n):=cpc hG (pc G n) ⟨[],[2],[]⟩ (apl [(1,16,.loop q16)] ⟨pl16 hG n n,trivial⟩) fun R st K r h=>by unfold dc15 at h;split at h;exact .trans (by kernel_rfl) h;cases h
theorem pc13 {G:Gs} (hG:AllE Tryd.prog (ents G)) {n:Nat}:PieceOK Tryd.prog an q13 (dc13 G n):=cpc hG (pc G n) ⟨[],[2],[]⟩ (apl [(0,15,q15)] ⟨pc15 hG,trivial⟩) fun R st K r h=>by unfold dc13 at h;split at h;exact .trans (by kernel_rfl) h;cases h
noncomputable def Does (G:Gs) (f:Fm) (r:Bool):Prop:=∃n,main (R:=AT×List Ob) G n f (fun r0=>some (.one (.b r0),[]))=some (.one (.b r),[])
theorem ok {G:Gs} (hG:AllE Tryd.prog (ents G)) {g:Fm->Option (Bool)} (hg:∀f r,g f=some r->Does G f r):EntOK Tryd.prog (ent g):=fun R xs H K r hc=>by
 simp only[ent]at hc
 split at hc
 ·obtain⟨r,j1,j2⟩:=bind_some hc
  obtain⟨n,j3⟩:=hg _ _ j1
  exact⟨_,_,j2,fnP hG an (pc G n) bd [.tmp 2] Tryd.func61 (.inl rfl) (apl [(0,13,q13)] ⟨pc13 hG,trivial⟩) (.trans (by kernel_rfl) j3)⟩
 ·cases hc
end s_l31Right
namespace s_IsFormula
structure Gs where
 s_l31Left:Fm->Int->Option (Int)
 s_l31Right:Fm->Option (Bool)
noncomputable def ents (G:Gs):List Ent:=[s_l31Left.ent G.s_l31Left,s_l31Right.ent G.s_l31Right]
noncomputable def main {R:Type} (G:Gs) (n:Nat) (f:Fm) (K:Bool->Option R):Option R:=
 Option.bind (G.s_l31Left (Fm.mk (Fm.kind f) (Fm.prop f) (Fm.kids f)) 12) fun r=>
 bif decide (0<=r)then
  (
  Option.bind (G.s_l31Right (Fm.mk (Fm.kind f) (Fm.prop f) (Fm.kids f))) fun r2=>
  K r2
  )
 else
  K false
noncomputable def pc (_:Gs) (_:Nat):Pcs:=⟨fun _ _ _ _=>none,fun _ _ _ _=>none,fun _ _ _ _=>none⟩
noncomputable def an:Ann:=⟨10,0,[],[],[2],[],[]⟩
noncomputable abbrev bd:=bodyOf Tryd.f30
noncomputable def Does (G:Gs) (f:Fm) (r:Bool):Prop:=∃n,main (R:=AT×List Ob) G n f (fun r0=>some (.one (.b r0),[]))=some (.one (.b r),[])
theorem ok {G:Gs} (hG:AllE Tryd.prog (ents G)) {g:Fm->Option (Bool)} (hg:∀f r,g f=some r->Does G f r):EntOK Tryd.prog (ent g):=fun R xs H K r hc=>by
 simp only[ent]at hc
 split at hc
 ·obtain⟨r,j1,j2⟩:=bind_some hc
  obtain⟨n,j3⟩:=hg _ _ j1
  exact⟨_,_,j2,fnP hG an (pc G n) bd [.tmp 2] Tryd.func30 (.inl rfl) (apl [] trivial) (.trans (by kernel_rfl) j3)⟩
 ·cases hc
end s_IsFormula
namespace s_FormatInt
structure Gs where
 none_:Unit
noncomputable def ents (_:Gs):List Ent:=[]
noncomputable def c9 {R:Type} (G:Gs) (n:Nat) (n1:Int) (below:Bool) (out:ByteArray) (d:Int) (k0:Int->Bool->ByteArray->Option R):Option R:=
 Option.bind (sCat (sOf [IntKind.wrap .u8 (wr (48+d))]) out) fun q=>
 Option.bind (bif decide (0<=n1)&&decide (0<10)then some (n1 / 10)else none) fun q2=>
 k0 q2 below q
noncomputable def b5 {R:Type} (G:Gs) (n:Nat) (n1:Int) (below:Bool) (out:ByteArray) (nx:Int->Bool->ByteArray->Option R) (k0:Bool->ByteArray->Option R):Option R:=
 bif !decide (n1=0)then
  (
  Option.bind (bif decide (0<=n1)&&decide (0<10)then some (n1%10)else none) fun q=>
  bif decide (q<0)then
   (
   c9 G n n1 below out (wr (0-q))
    (fun n12 below2 out2=>nx n12 below2 out2)
   )
  else
   c9 G n n1 below out q
    (fun n13 below3 out3=>nx n13 below3 out3)
  )
 else
  k0 below out
noncomputable def l5 {R:Type} (G:Gs) (n m:Nat) (n1:Int) (below:Bool) (out:ByteArray) (k0:Bool->ByteArray->Option R):Option R:=iter (fun(v:Int×Bool×ByteArray) nx=>b5 G n v.1 v.2.1 v.2.2 (fun y0 y1 y2=>nx (y0,y1,y2)) k0) m (n1,below,out)
noncomputable def main {R:Type} (G:Gs) (n:Nat) (n1:Int) (K:ByteArray->Option R):Option R:=
 bif decide (n1=0)then
  (K (ByteArray.mk #[48]))
 else
  l5 G n n n1 (decide (n1 < 0)) ByteArray.empty
   (fun below out =>
    bif below then
     (
     Option.bind (sCat (ByteArray.mk #[45]) out) fun q=>
     K q
     )
    else
     K out
   )
noncomputable def dc9 (G:Gs) (n:Nat) (R:Type) (st:St) (K:Kt R):Option R:=match st with
 |⟨[(0,.one (.i n1)),(3,.one (.b below)),(4,.one (.s out)),(5,.one (.i d))],[]⟩=>c9 G n n1 below out d (fun n1 below out=>K .normal ⟨[(0,.one (.i n1)),(3,.one (.b below)),(4,.one (.s out))],[]⟩)
 |_=>none
noncomputable def dl5 (G:Gs) (n m:Nat) (R:Type) (st:St) (K:Kt R):Option R:=match st with
 |⟨[(0,.one (.i n1)),(3,.one (.b below)),(4,.one (.s out))],[]⟩=>l5 G n m n1 below out (fun below out=>K (.exit 0) ⟨[(3,.one (.b below)),(4,.one (.s out))],[]⟩)
 |_=>none
noncomputable def pc (G:Gs) (n:Nat):Pcs:=⟨fun R id st K=>bif Nat.beq id 5 then dl5 G n n R st K else none,fun R id st K=>bif Nat.beq id 9 then dc9 G n R st K else none,fun _ _ _ _=>none⟩
noncomputable def an:Ann:=⟨31,0,[(5,[0,3,4])],[(9,[0,3,4,5])],[2],[],[]⟩
noncomputable abbrev bd:=bodyOf Tryd.f116
noncomputable abbrev q9:=nthC [1,1,1,1,0,0,0,1,0,1,1] bd
noncomputable abbrev q5:=nthC [1,1,1,1,0,0,0] bd
theorem pc9 {G:Gs} (hG:AllE Tryd.prog (ents G)) {n:Nat}:PieceOK Tryd.prog an q9 (dc9 G n):=cpc hG (pc G n) ⟨[0,3,4],[2],[(0,[3,4]),(1,[0,3,4])]⟩ (apl [] trivial) fun R st K r h=>by unfold dc9 at h;split at h;exact .trans (by kernel_rfl) h;cases h
theorem pl5 {G:Gs} (hG:AllE Tryd.prog (ents G)) (n:Nat):∀m,PieceOK Tryd.prog an (.loop q5) (dl5 G n m):=lpc hG (pc G n) [0,3,4] ⟨[3,4],[2],[(0,[3,4])]⟩ (apl [(0,9,q9)] ⟨pc9 hG,trivial⟩) (fun R st K=>by unfold dl5;split<;>rfl) fun m R st K r h=>by unfold dl5 at h;split at h;exact .trans (by kernel_rfl) h;cases h
noncomputable def Does (G:Gs) (n1:Int) (r:ByteArray):Prop:=∃n,main (R:=AT×List Ob) G n n1 (fun r0=>some (.one (.s r0),[]))=some (.one (.s r),[])
theorem ok {G:Gs} (hG:AllE Tryd.prog (ents G)) {g:Int->Option (ByteArray)} (hg:∀n1 r,g n1=some r->Does G n1 r):EntOK Tryd.prog (ent g):=fun R xs H K r hc=>by
 simp only[ent]at hc
 split at hc
 ·obtain⟨r,j1,j2⟩:=bind_some hc
  obtain⟨n,j3⟩:=hg _ _ j1
  exact⟨_,_,j2,fnP hG an (pc G n) bd [.tmp 2] Tryd.func116 (.inl rfl) (apl [(1,5,.loop q5)] ⟨pl5 hG n n,trivial⟩) (.trans (by kernel_rfl) j3)⟩
 ·cases hc
end s_FormatInt
namespace s_Join
structure Gs where
 none_:Unit
noncomputable def ents (_:Gs):List Ent:=[]
noncomputable def c7 {R:Type} (G:Gs) (n:Nat) (list:List ByteArray) (by1:ByteArray) (i:Int) (h0:List Int) (k0:ByteArray->Option R) (k1:List ByteArray->ByteArray->Int->List Int->Option R):Option R:=
 Option.bind (ix list i) fun e=>
 Option.bind (lim (List.append h0 (ofS e))) fun zs=>
 bif decide (1048576<(List.length zs:Int))then
  (k0 ByteArray.empty)
 else
  k1 list by1 i zs
noncomputable def b3 {R:Type} (G:Gs) (n:Nat) (list:List ByteArray) (by1:ByteArray) (i:Int) (h0:List Int) (nx:List ByteArray->ByteArray->Int->List Int->Option R) (k0:ByteArray->Option R) (k1:List Int->Option R):Option R:=
 bif decide (i<(List.length list:Int))then
  (
  bif decide (0<i)then
   (
   Option.bind (lim (List.append h0 (ofS by1))) fun zs=>
   c7 G n list by1 i zs
    (fun t4=>k0 t4)
    (fun list2 by12 i2 h02=>nx list2 by12 (wr (i2+1)) h02)
   )
  else
   c7 G n list by1 i h0
    (fun t42=>k0 t42)
    (fun list3 by13 i3 h03=>nx list3 by13 (wr (i3+1)) h03)
  )
 else
  k1 h0
noncomputable def l3 {R:Type} (G:Gs) (n m:Nat) (list:List ByteArray) (by1:ByteArray) (i:Int) (h0:List Int) (k0:ByteArray->Option R) (k1:List Int->Option R):Option R:=iter (fun(v:List ByteArray×ByteArray×Int×List Int) nx=>b3 G n v.1 v.2.1 v.2.2.1 v.2.2.2 (fun y0 y1 y2 y3=>nx (y0,y1,y2,y3)) k0 k1) m (list,by1,i,h0)
noncomputable def main {R:Type} (G:Gs) (n:Nat) (list:List ByteArray) (by1:ByteArray) (K:ByteArray->Option R):Option R:=
 l3 G n n list by1 0 []
  (fun t4=>K t4)
  (fun h0=>K (sOf h0))
noncomputable def dc7 (G:Gs) (n:Nat) (R:Type) (st:St) (K:Kt R):Option R:=match st with
 |⟨[(0,.one (.l .s list)),(1,.one (.s by1)),(5,.one (.o 0)),(6,.one (.i i))],[.row .u 0 h0]⟩=>c7 G n list by1 i h0 (fun t4=>K .ret ⟨[(4,.one (.s t4))],[]⟩) (fun list by1 i h0=>K .normal ⟨[(0,.one (.l .s list)),(1,.one (.s by1)),(5,.one (.o 0)),(6,.one (.i i))],[.row .u 0 h0]⟩)
 |_=>none
noncomputable def dl3 (G:Gs) (n m:Nat) (R:Type) (st:St) (K:Kt R):Option R:=match st with
 |⟨[(0,.one (.l .s list)),(1,.one (.s by1)),(5,.one (.o 0)),(6,.one (.i i))],[.row .u 0 h0]⟩=>l3 G n m list by1 i h0 (fun t4=>K .ret ⟨[(4,.one (.s t4))],[]⟩) (fun h0=>K (.exit 0) ⟨[(5,.one (.o 0))],[.row .u 0 h0]⟩)
 |_=>none
noncomputable def pc (G:Gs) (n:Nat):Pcs:=⟨fun R id st K=>bif Nat.beq id 3 then dl3 G n n R st K else none,fun R id st K=>bif Nat.beq id 7 then dc7 G n R st K else none,fun _ _ _ _=>none⟩
noncomputable def an:Ann:=⟨30,0,[(3,[0,1,5,6])],[(7,[0,1,5,6])],[4],[],[]⟩
noncomputable abbrev bd:=bodyOf Tryd.f117
noncomputable abbrev q7:=nthC [1,1,0,1,0,0,1,0,0,1] bd
noncomputable abbrev q3:=nthC [1,1,0,1,0,0] bd
theorem pc7 {G:Gs} (hG:AllE Tryd.prog (ents G)) {n:Nat}:PieceOK Tryd.prog an q7 (dc7 G n):=cpc hG (pc G n) ⟨[0,1,5,6],[4],[(0,[5]),(1,[0,1,5,6])]⟩ (apl [] trivial) fun R st K r h=>by unfold dc7 at h;split at h;exact .trans (by kernel_rfl) h;cases h
theorem pl3 {G:Gs} (hG:AllE Tryd.prog (ents G)) (n:Nat):∀m,PieceOK Tryd.prog an (.loop q3) (dl3 G n m):=lpc hG (pc G n) [0,1,5,6] ⟨[5],[4],[(0,[5])]⟩ (apl [(0,7,q7)] ⟨pc7 hG,trivial⟩) (fun R st K=>by unfold dl3;split<;>rfl) fun m R st K r h=>by unfold dl3 at h;split at h;exact .trans (by kernel_rfl) h;cases h
noncomputable def Does (G:Gs) (list:List ByteArray) (by1:ByteArray) (r:ByteArray):Prop:=∃n,main (R:=AT×List Ob) G n list by1 (fun r0=>some (.one (.s r0),[]))=some (.one (.s r),[])
theorem ok {G:Gs} (hG:AllE Tryd.prog (ents G)) {g:List ByteArray->ByteArray->Option (ByteArray)} (hg:∀list by1 r,g list by1=some r->Does G list by1 r):EntOK Tryd.prog (ent g):=fun R xs H K r hc=>by
 simp only[ent]at hc
 split at hc
 ·obtain⟨r,j1,j2⟩:=bind_some hc
  obtain⟨n,j3⟩:=hg _ _ _ j1
  exact⟨_,_,j2,fnP hG an (pc G n) bd [.tmp 4] Tryd.func117 (.inl rfl) (apl [(1,3,.loop q3)] ⟨pl3 hG n n,trivial⟩) (.trans (by kernel_rfl) j3)⟩
 ·cases hc
end s_Join
namespace s_l31Text
structure Gs where
 s_FormatInt:Int->Option (ByteArray)
 s_l31Text:Fm->Option (ByteArray)
 s_Join:List ByteArray->ByteArray->Option (ByteArray)
noncomputable def ents (G:Gs):List Ent:=[s_FormatInt.ent G.s_FormatInt,ent G.s_l31Text,s_Join.ent G.s_Join]
noncomputable def b8 {R:Type} (G:Gs) (n:Nat) (word:ByteArray) (i:Int) (h0:Int) (h02:Int) (h03:List Fm) (h1:List ByteArray) (nx:ByteArray->Int->Int->Int->List Fm->List ByteArray->Option R) (k0:ByteArray->List ByteArray->Option R):Option R:=
 bif decide (i<(List.length h03:Int))then
  (
  Option.bind (ix h03 i) fun e=>
  Option.bind (G.s_l31Text (Fm.mk (Fm.kind e) (Fm.prop e) (Fm.kids e))) fun r=>
  Option.bind (lim (h1++[r])) fun zs=>
  nx word (wr (i+1)) h0 h02 h03 zs
  )
 else
  k0 word h1
noncomputable def l8 {R:Type} (G:Gs) (n m:Nat) (word:ByteArray) (i:Int) (h0:Int) (h02:Int) (h03:List Fm) (h1:List ByteArray) (k0:ByteArray->List ByteArray->Option R):Option R:=iter (fun(v:ByteArray×Int×Int×Int×List Fm×List ByteArray) nx=>b8 G n v.1 v.2.1 v.2.2.1 v.2.2.2.1 v.2.2.2.2.1 v.2.2.2.2.2 (fun y0 y1 y2 y3 y4 y5=>nx (y0,y1,y2,y3,y4,y5)) k0) m (word,i,h0,h02,h03,h1)
noncomputable def main {R:Type} (G:Gs) (n:Nat) (f:Fm) (K:ByteArray->Option R):Option R:=
 bif decide ((Fm.kind f)=1)then
  (K (ByteArray.mk #[116,114,117,101]))
 else
  bif decide ((Fm.kind f)=2)then
   (
   Option.bind (G.s_FormatInt (Fm.prop f)) fun r=>
   Option.bind (sCat (ByteArray.mk #[112]) r) fun q=>
   K q
   )
  else
   Option.bind (ix [ByteArray.empty,ByteArray.empty,ByteArray.empty,(ByteArray.mk #[110,111,116]),(ByteArray.mk #[97,110,100]),(ByteArray.mk #[111,114]),(ByteArray.mk #[110,101,120,116]),(ByteArray.mk #[117,110,116,105,108])] (Fm.kind f)) fun e=>
   l8 G n n e 0 (Fm.kind f) (Fm.prop f) (Fm.kids f) []
    (fun word h0 =>
     Option.bind (sCat word (ByteArray.mk #[40])) fun q2=>
     Option.bind (G.s_Join h0 (ByteArray.mk #[44,32])) fun r2=>
     Option.bind (sCat q2 r2) fun q3=>
     Option.bind (sCat q3 (ByteArray.mk #[41])) fun q4=>
     K q4
    )
noncomputable def dl8 (G:Gs) (n m:Nat) (R:Type) (st:St) (K:Kt R):Option R:=match st with
 |⟨[(1,.one (.p 0 0)),(3,.one (.s word)),(4,.one (.o 1)),(5,.one (.i i))],[.box [.i h0,.i h02,.l (.n 2) h03],.row .s 0 h1]⟩=>l8 G n m word i h0 h02 h03 h1 (fun word h0=>K (.exit 0) ⟨[(3,.one (.s word)),(4,.one (.o 0))],[.row .s 0 h0]⟩)
 |_=>none
noncomputable def pc (G:Gs) (n:Nat):Pcs:=⟨fun R id st K=>bif Nat.beq id 8 then dl8 G n n R st K else none,fun _ _ _ _=>none,fun _ _ _ _=>none⟩
noncomputable def an:Ann:=⟨44,0,[(8,[1,3,4,5])],[],[2],[],[]⟩
noncomputable abbrev bd:=bodyOf Tryd.f110
noncomputable abbrev q8:=nthC [1,1,1,1,1,0,1,0,0] bd
theorem pl8 {G:Gs} (hG:AllE Tryd.prog (ents G)) (n:Nat):∀m,PieceOK Tryd.prog an (.loop q8) (dl8 G n m):=lpc hG (pc G n) [1,3,4,5] ⟨[3,4],[2],[(0,[3,4])]⟩ (apl [] trivial) (fun R st K=>by unfold dl8;split<;>rfl) fun m R st K r h=>by unfold dl8 at h;split at h;exact .trans (by kernel_rfl) h;cases h
noncomputable def Does (G:Gs) (f:Fm) (r:ByteArray):Prop:=∃n,main (R:=AT×List Ob) G n f (fun r0=>some (.one (.s r0),[]))=some (.one (.s r),[])
theorem ok {G:Gs} (hG:AllE Tryd.prog (ents G)) {g:Fm->Option (ByteArray)} (hg:∀f r,g f=some r->Does G f r):EntOK Tryd.prog (ent g):=fun R xs H K r hc=>by
 simp only[ent]at hc
 split at hc
 ·obtain⟨r,j1,j2⟩:=bind_some hc
  obtain⟨n,j3⟩:=hg _ _ j1
  exact⟨_,_,j2,fnP hG an (pc G n) bd [.tmp 2] Tryd.func110 (.inl rfl) (apl [(1,8,.loop q8)] ⟨pl8 hG n n,trivial⟩) (.trans (by kernel_rfl) j3)⟩
 ·cases hc
end s_l31Text
end Go.Proofs.YtjafncnjefnloaaDoor.Den

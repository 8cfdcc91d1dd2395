import Derived.Test.YtjafncnjefnloaaDoorZRowEC14
namespace Go.Proofs.YtjafncnjefnloaaDoor.Den
open Go.RowKit
set_option maxRecDepth 100000
set_option linter.unusedVariables false
namespace s_l1HasInt
structure Gs where
 none_:Unit
noncomputable def ents (_:Gs):List Ent:=[]
noncomputable def b2 {R:Type} (G:Gs) (n:Nat) (list:List Int) (x:Int) (i:Int) (nx:Int->Option R) (k0:Bool->Option R) (k1:Option R):Option R:=
 bif decide (i<(List.length list:Int))then
  (
  Option.bind (ix list i) fun e=>
  bif decide (e=x)then
   (k0 true)
  else
   nx (wr (i+1))
  )
 else
  k1
noncomputable def l2 {R:Type} (G:Gs) (n m:Nat) (list:List Int) (x:Int) (i:Int) (k0:Bool->Option R) (k1:Option R):Option R:=iter (fun(v:Int) nx=>b2 G n list x v (fun y0=>nx y0) k0 k1) m i
noncomputable def main {R:Type} (G:Gs) (n:Nat) (list:List Int) (x:Int) (K:Bool->Option R):Option R:=
 l2 G n n list x 0
  (fun t4=>K t4)
  (K false)
noncomputable def dl2 (G:Gs) (n m:Nat) (R:Type) (st:St) (K:Kt R):Option R:=match st with
 |⟨[(0,.one (.l .i list)),(1,.one (.i x)),(5,.one (.i i))],[]⟩=>l2 G n m list x i (fun t4=>K .ret ⟨[(4,.one (.b t4))],[]⟩) (K (.exit 0) ⟨[],[]⟩)
 |_=>none
noncomputable def pc (G:Gs) (n:Nat):Pcs:=⟨fun R id st K=>bif Nat.beq id 2 then dl2 G n n R st K else none,fun _ _ _ _=>none,fun _ _ _ _=>none⟩
noncomputable def an:Ann:=⟨18,0,[(2,[0,1,5])],[],[4],[],[]⟩
noncomputable abbrev bd:=bodyOf Tryd.f65
noncomputable abbrev q2:=nthC [1,0,1,0,0] bd
theorem pl2 {G:Gs} (hG:AllE Tryd.prog (ents G)) (n:Nat):∀m,PieceOK Tryd.prog an (.loop q2) (dl2 G n m):=lpc hG (pc G n) [0,1,5] ⟨[],[4],[(0,[])]⟩ (apl [] trivial) (fun R st K=>by unfold dl2;split<;>rfl) fun m R st K r h=>by unfold dl2 at h;split at h;exact .trans (by kernel_rfl) h;cases h
noncomputable def Does (G:Gs) (list:List Int) (x:Int) (r:Bool):Prop:=∃n,main (R:=AT×List Ob) G n list x (fun r0=>some (.one (.b r0),[]))=some (.one (.b r),[])
theorem ok {G:Gs} (hG:AllE Tryd.prog (ents G)) {g:List Int->Int->Option (Bool)} (hg:∀list x r,g list x=some r->Does G list x r):EntOK Tryd.prog (ent g):=fun R xs H K r hc=>by
 simp only[ent]at hc
 split at hc
 ·obtain⟨r,j1,j2⟩:=bind_some hc
  obtain⟨n,j3⟩:=hg _ _ _ j1
  exact⟨_,_,j2,fnP hG an (pc G n) bd [.tmp 4] Tryd.func65 (.inl rfl) (apl [(1,2,.loop q2)] ⟨pl2 hG n n,trivial⟩) (.trans (by kernel_rfl) j3)⟩
 ·cases hc
end s_l1HasInt
namespace s_l31After
structure Gs where
 none_:Unit
noncomputable def ents (_:Gs):List Ent:=[]
noncomputable def main {R:Type} (G:Gs) (n:Nat) (l:Lasso) (i:Int) (K:Int->Option R):Option R:=
 bif decide ((wr (i+1))<(List.length (Lasso.states l):Int))then
  (K (wr (i+1)))
 else
  K (Lasso.back l)
noncomputable def pc (_:Gs) (_:Nat):Pcs:=⟨fun _ _ _ _=>none,fun _ _ _ _=>none,fun _ _ _ _=>none⟩
noncomputable def an:Ann:=⟨15,0,[],[],[4],[],[]⟩
noncomputable abbrev bd:=bodyOf Tryd.f67
noncomputable def Does (G:Gs) (l:Lasso) (i:Int) (r:Int):Prop:=∃n,main (R:=AT×List Ob) G n l i (fun r0=>some (.one (.i r0),[]))=some (.one (.i r),[])
theorem ok {G:Gs} (hG:AllE Tryd.prog (ents G)) {g:Lasso->Int->Option (Int)} (hg:∀l i r,g l i=some r->Does G l i r):EntOK Tryd.prog (ent g):=fun R xs H K r hc=>by
 simp only[ent]at hc
 split at hc
 ·obtain⟨r,j1,j2⟩:=bind_some hc
  obtain⟨n,j3⟩:=hg _ _ _ j1
  exact⟨_,_,j2,fnP hG an (pc G n) bd [.tmp 4] Tryd.func67 (.inl rfl) (apl [] trivial) (.trans (by kernel_rfl) j3)⟩
 ·cases hc
end s_l31After
namespace s_l31Places
structure Gs where
 s_l31Places:Fm->Lasso->List Int->Option (List Bool)
 s_l2Has:Int->Int->Option (Bool)
 s_l31After:Lasso->Int->Option (Int)
noncomputable def ents (G:Gs):List Ent:=[ent G.s_l31Places,s_l2Has.ent G.s_l2Has,s_l31After.ent G.s_l31After]
noncomputable def b5 {R:Type} (G:Gs) (n:Nat) (labels:List Int) (n1:Int) (h0:Int) (h02:Int) (h03:List Fm) (h1:List Int) (h12:Int) (h2:List Bool) (i:Int) (h3:List (List Bool)) (nx:Int->List (List Bool)->Option R) (k0:List (List Bool)->Option R):Option R:=
 bif decide (i<(List.length h03:Int))then
  (
  Option.bind (ix h03 i) fun e4=>
  Option.bind (G.s_l31Places (Fm.mk (Fm.kind e4) (Fm.prop e4) (Fm.kids e4)) (Lasso.mk h1 h12) labels) fun r4=>
  Option.bind (lim (h3++[r4])) fun zs2=>
  nx (wr (i+1)) zs2
  )
 else
  k0 h3
noncomputable def l5 {R:Type} (G:Gs) (n m:Nat) (labels:List Int) (n1:Int) (h0:Int) (h02:Int) (h03:List Fm) (h1:List Int) (h12:Int) (h2:List Bool) (i:Int) (h3:List (List Bool)) (k0:List (List Bool)->Option R):Option R:=iter (fun(v:Int×List (List Bool)) nx=>b5 G n labels n1 h0 h02 h03 h1 h12 h2 v.1 v.2 (fun y0 y1=>nx (y0,y1)) k0) m (i,h3)
noncomputable def b27 {R:Type} (G:Gs) (n:Nat) (labels:List Int) (n1:Int) (i:Int) (h0:Int) (h02:Int) (h03:List Fm) (h1:List Int) (h12:Int) (h3:List (List Bool)) (at1:Int) (k:Int) (h2:List Bool) (nx:Int->Int->List Bool->Option R) (k0:List Bool->Option R):Option R:=
 bif decide (k<=n1)then
  (
  Option.bind (ix h2 i) fun e=>
  bif !e then
   (
   Option.bind (ix h3 1) fun e2=>
   Option.bind (ix e2 at1) fun e3=>
   Option.bind (ix h2 i) fun e4=>
   Option.bind (ix h3 0) fun e5=>
   Option.bind (ix e5 at1) fun e6=>
   bif !e6 then
    (k0 (List.set h2 (Int.toNat i) e3))
   else
    Option.bind (G.s_l31After (Lasso.mk h1 h12) at1) fun r=>
    nx r (wr (k+1)) (List.set h2 (Int.toNat i) e3)
   )
  else
   k0 h2
  )
 else
  k0 h2
noncomputable def l27 {R:Type} (G:Gs) (n m:Nat) (labels:List Int) (n1:Int) (i:Int) (h0:Int) (h02:Int) (h03:List Fm) (h1:List Int) (h12:Int) (h3:List (List Bool)) (at1:Int) (k:Int) (h2:List Bool) (k0:List Bool->Option R):Option R:=iter (fun(v:Int×Int×List Bool) nx=>b27 G n labels n1 i h0 h02 h03 h1 h12 h3 v.1 v.2.1 v.2.2 (fun y0 y1 y2=>nx (y0,y1,y2)) k0) m (at1,k,h2)
noncomputable def b9 {R:Type} (G:Gs) (n:Nat) (labels:List Int) (n1:Int) (h0:Int) (h02:Int) (h03:List Fm) (h1:List Int) (h12:Int) (h3:List (List Bool)) (i:Int) (h2:List Bool) (nx:Int->List Bool->Option R) (k0:List Bool->Option R):Option R:=
 bif decide (i < n1) then
  (
  bif decide (h0=1)then
   (
   Option.bind (ix h2 i) fun e=>
   nx (wr (i+1)) (List.set h2 (Int.toNat i) true)
   )
  else
   bif decide (h0=2)then
    (
    Option.bind (ix h1 i) fun e9=>
    Option.bind (ix labels e9) fun e11=>
    Option.bind (G.s_l2Has e11 h02) fun r4=>
    Option.bind (ix h2 i) fun e13=>
    nx (wr (i+1)) (List.set h2 (Int.toNat i) r4)
    )
   else
    bif decide (h0=3)then
     (
     Option.bind (ix h3 0) fun e14=>
     Option.bind (ix e14 i) fun e15=>
     Option.bind (ix h2 i) fun e16=>
     nx (wr (i+1)) (List.set h2 (Int.toNat i) (!e15))
     )
    else
     bif decide (h0=4)then
      (
      Option.bind (ix h3 0) fun e17=>
      Option.bind (ix e17 i) fun e18=>
      bif e18 then
       (
       Option.bind (ix h3 1) fun e19=>
       Option.bind (ix e19 i) fun e20=>
       Option.bind (ix h2 i) fun e21=>
       nx (wr (i+1)) (List.set h2 (Int.toNat i) e20)
       )
      else
       Option.bind (ix h2 i) fun e22=>
       nx (wr (i+1)) (List.set h2 (Int.toNat i) false)
      )
     else
      bif decide (h0=5)then
       (
       Option.bind (ix h3 0) fun e23=>
       Option.bind (ix e23 i) fun e24=>
       bif e24 then
        (
        Option.bind (ix h2 i) fun e25=>
        nx (wr (i+1)) (List.set h2 (Int.toNat i) true)
        )
       else
        Option.bind (ix h3 1) fun e26=>
        Option.bind (ix e26 i) fun e27=>
        Option.bind (ix h2 i) fun e28=>
        nx (wr (i+1)) (List.set h2 (Int.toNat i) e27)
       )
      else
       bif decide (h0=6)then
        (
        Option.bind (ix h3 0) fun e36=>
        Option.bind (G.s_l31After (Lasso.mk h1 h12) i) fun r8=>
        Option.bind (ix e36 r8) fun e38=>
        Option.bind (ix h2 i) fun e40=>
        nx (wr (i+1)) (List.set h2 (Int.toNat i) e38)
        )
       else
        bif decide (h0=7)then
         (
         l27 G n n labels n1 i h0 h02 h03 h1 h12 h3 i 0 h2
          (fun h22=>nx (wr (i+1)) h22)
         )
        else
         nx (wr (i+1)) h2
  )
 else
  k0 h2
noncomputable def l9 {R:Type} (G:Gs) (n m:Nat) (labels:List Int) (n1:Int) (h0:Int) (h02:Int) (h03:List Fm) (h1:List Int) (h12:Int) (h3:List (List Bool)) (i:Int) (h2:List Bool) (k0:List Bool->Option R):Option R:=iter (fun(v:Int×List Bool) nx=>b9 G n labels n1 h0 h02 h03 h1 h12 h3 v.1 v.2 (fun y0 y1=>nx (y0,y1)) k0) m (i,h2)
noncomputable def main {R:Type} (G:Gs) (n:Nat) (f:Fm) (l:Lasso) (labels:List Int) (K:List Bool->Option R):Option R:=
 Option.bind (mk (α:=Bool) false (List.length (Lasso.states l):Int)) fun xs=>
 l5 G n n labels (List.length (Lasso.states l) : Int) (Fm.kind f) (Fm.prop f) (Fm.kids f) (Lasso.states l) (Lasso.back l) xs 0 []
  (fun h32 =>
   l9 G n n labels (List.length (Lasso.states l):Int) (Fm.kind f) (Fm.prop f) (Fm.kids f) (Lasso.states l) (Lasso.back l) h32 0 xs
    (fun h04=>K h04)
  )
noncomputable def dl5 (G:Gs) (n m:Nat) (R:Type) (st:St) (K:Kt R):Option R:=match st with
 |⟨[(2,.one (.l .i labels)),(3,.one (.p 0 0)),(4,.one (.p 1 0)),(7,.one (.i n1)),(8,.one (.o 2)),(9,.one (.o 3)),(10,.one (.i i))],[.box [.i h0,.i h02,.l (.n 2) h03],.box [.l .i h1,.i h12],.row .b 0 h2,.row (.sl .b) 0 h3]⟩=>l5 G n m labels n1 h0 h02 h03 h1 h12 h2 i h3 (fun h32=>K (.exit 0) ⟨[(2,.one (.l .i labels)),(3,.one (.p 0 0)),(4,.one (.p 1 0)),(7,.one (.i n1)),(8,.one (.o 2)),(9,.one (.o 3))],[.box [.i h0,.i h02,.l (.n 2) h03],.box [.l .i h1,.i h12],.row .b 0 h2,.row (.sl .b) 0 h32]⟩)
 |_=>none
noncomputable def dl27 (G:Gs) (n m:Nat) (R:Type) (st:St) (K:Kt R):Option R:=match st with
 |⟨[(2,.one (.l .i labels)),(3,.one (.p 0 0)),(4,.one (.p 1 0)),(7,.one (.i n1)),(8,.one (.o 2)),(9,.one (.o 3)),(11,.one (.i i)),(12,.one (.i at1)),(13,.one (.i k))],[.box [.i h0,.i h02,.l (.n 2) h03],.box [.l .i h1,.i h12],.row .b 0 h2,.row (.sl .b) 0 h3]⟩=>l27 G n m labels n1 i h0 h02 h03 h1 h12 h3 at1 k h2 (fun h22=>K (.exit 5) ⟨[(2,.one (.l .i labels)),(3,.one (.p 0 0)),(4,.one (.p 1 0)),(7,.one (.i n1)),(8,.one (.o 2)),(9,.one (.o 3)),(11,.one (.i i))],[.box [.i h0,.i h02,.l (.n 2) h03],.box [.l .i h1,.i h12],.row .b 0 h22,.row (.sl .b) 0 h3]⟩)
 |_=>none
noncomputable def dl9 (G:Gs) (n m:Nat) (R:Type) (st:St) (K:Kt R):Option R:=match st with
 |⟨[(2,.one (.l .i labels)),(3,.one (.p 0 0)),(4,.one (.p 1 0)),(7,.one (.i n1)),(8,.one (.o 2)),(9,.one (.o 3)),(11,.one (.i i))],[.box [.i h0,.i h02,.l (.n 2) h03],.box [.l .i h1,.i h12],.row .b 0 h2,.row (.sl .b) 0 h3]⟩=>l9 G n m labels n1 h0 h02 h03 h1 h12 h3 i h2 (fun h04=>K (.exit 2) ⟨[(8,.one (.o 0))],[.row .b 0 h04]⟩)
 |_=>none
noncomputable def pc (G:Gs) (n:Nat):Pcs:=⟨fun R id st K=>bif Nat.beq id 5 then dl5 G n n R st K else bif Nat.beq id 27 then dl27 G n n R st K else bif Nat.beq id 9 then dl9 G n n R st K else none,fun _ _ _ _=>none,fun _ _ _ _=>none⟩
noncomputable def an:Ann:=⟨164,0,[(5,[2,3,4,7,8,9,10]),(27,[2,3,4,7,8,9,11,12,13]),(9,[2,3,4,7,8,9,11])],[],[6],[(7,⟨[([0,1,2,3,4,5,6,7,8,9,10,11],[10],[])],[10],[],[0,1,2],[]⟩),(15,⟨[([0,1,2,3,4,5,6,7,8,9,10,11,12,13,14],[14],[13])],[14],[],[0,1,3],[]⟩),(23,⟨[([0,1,2,3,4,5,6,7,8,9,10,11],[11],[10])],[11],[],[0,1,3],[]⟩)],[]⟩
noncomputable abbrev bd:=bodyOf Tryd.f80
noncomputable abbrev q5:=nthC [1,1,1,1,0,1,0,0] bd
noncomputable abbrev q27:=nthC [1,1,1,1,1,0,1,0,0,1,0,0,1,0,1,1,1,1,1,1,1,1,1,1,1,1,1,0,1,1,0,0] bd
noncomputable abbrev q9:=nthC [1,1,1,1,1,0,1,0,0] bd
theorem pl5 {G:Gs} (hG:AllE Tryd.prog (ents G)) (n:Nat):∀m,PieceOK Tryd.prog an (.loop q5) (dl5 G n m):=lpc hG (pc G n) [2,3,4,7,8,9,10] ⟨[2,3,4,7,8,9],[6],[(0,[2,3,4,7,8,9])]⟩ (apl [] trivial) (fun R st K=>by unfold dl5;split<;>rfl) fun m R st K r h=>by unfold dl5 at h;split at h;exact .trans (by kernel_rfl) h;cases h
theorem pl27 {G:Gs} (hG:AllE Tryd.prog (ents G)) (n:Nat):∀m,PieceOK Tryd.prog an (.loop q27) (dl27 G n m):=lpc hG (pc G n) [2,3,4,7,8,9,11,12,13] ⟨[2,3,4,7,8,9,11],[6],[(2,[8]),(3,[2,3,4,7,8,9,11]),(4,[2,3,4,7,8,9,11]),(5,[2,3,4,7,8,9,11])]⟩ (apl [] trivial) (fun R st K=>by unfold dl27;split<;>rfl) fun m R st K r h=>by unfold dl27 at h;split at h;exact .trans (by kernel_rfl) h;cases h
theorem pl9 {G:Gs} (hG:AllE Tryd.prog (ents G)) (n:Nat):∀m,PieceOK Tryd.prog an (.loop q9) (dl9 G n m):=lpc hG (pc G n) [2,3,4,7,8,9,11] ⟨[8],[6],[(2,[8])]⟩ (apl [(1,27,.loop q27)] ⟨pl27 hG n n,trivial⟩) (fun R st K=>by unfold dl9;split<;>rfl) fun m R st K r h=>by unfold dl9 at h;split at h;exact .trans (by kernel_rfl) h;cases h
noncomputable def Does (G:Gs) (f:Fm) (l:Lasso) (labels:List Int) (r:List Bool):Prop:=∃n,main (R:=AT×List Ob) G n f l labels (fun r0=>some (.one (.l .b r0),[]))=some (.one (.l .b r),[])
theorem ok {G:Gs} (hG:AllE Tryd.prog (ents G)) {g:Fm->Lasso->List Int->Option (List Bool)} (hg:∀f l labels r,g f l labels=some r->Does G f l labels r):EntOK Tryd.prog (ent g):=fun R xs H K r hc=>by
 simp only[ent]at hc
 split at hc
 ·obtain⟨r,j1,j2⟩:=bind_some hc
  obtain⟨n,j3⟩:=hg _ _ _ _ j1
  exact⟨_,_,j2,fnP hG an (pc G n) bd [.tmp 6] Tryd.func80 (.inl rfl) (apl [(1,5,.loop q5),(1,9,.loop q9)] ⟨pl5 hG n n,⟨pl9 hG n n,trivial⟩⟩) (.trans (by kernel_rfl) j3)⟩
 ·cases hc
end s_l31Places
namespace s_IsGraph
structure Gs where
 s_l1In:Int->Int->Int->Option (Bool)
noncomputable def ents (G:Gs):List Ent:=[s_l1In.ent G.s_l1In]
noncomputable def b7 {R:Type} (G:Gs) (n:Nat) (i:Int) (h0:List Tm) (h02:List (List Int)) (h03:Bool) (k:Int) (nx:Int->Option R) (k0:Bool->Option R) (k1:Option R):Option R:=
 Option.bind (ix h02 i) fun e=>
 bif decide (k < (List.length e : Int)) then
  (
  Option.bind (ix h02 i) fun e3=>
  Option.bind (ix e3 k) fun e5=>
  Option.bind (G.s_l1In e5 0 (wr ((List.length h0:Int)-1))) fun r2=>
  bif !r2 then
   (k0 false)
  else
   bif decide (0<k)then
    (
    Option.bind (ix h02 i) fun e7=>
    Option.bind (ix e7 (wr (k-1))) fun e9=>
    Option.bind (ix h02 i) fun e11=>
    Option.bind (ix e11 k) fun e13=>
    bif decide (e13<=e9)then
     (k0 false)
    else
     nx (wr (k+1))
    )
   else
    nx (wr (k+1))
  )
 else
  k1
noncomputable def l7 {R:Type} (G:Gs) (n m:Nat) (i:Int) (h0:List Tm) (h02:List (List Int)) (h03:Bool) (k:Int) (k0:Bool->Option R) (k1:Option R):Option R:=iter (fun(v:Int) nx=>b7 G n i h0 h02 h03 v (fun y0=>nx y0) k0 k1) m k
noncomputable def b4 {R:Type} (G:Gs) (n:Nat) (h0:List Tm) (h02:List (List Int)) (h03:Bool) (i:Int) (nx:Int->Option R) (k0:Bool->Option R) (k1:Option R):Option R:=
 bif decide (i<(List.length h02:Int))then
  (
  l7 G n n i h0 h02 h03 0
   (fun t2=>k0 t2)
   (nx (wr (i+1)))
  )
 else
  k1
noncomputable def l4 {R:Type} (G:Gs) (n m:Nat) (h0:List Tm) (h02:List (List Int)) (h03:Bool) (i:Int) (k0:Bool->Option R) (k1:Option R):Option R:=iter (fun(v:Int) nx=>b4 G n h0 h02 h03 v (fun y0=>nx y0) k0 k1) m i
noncomputable def main {R:Type} (G:Gs) (n:Nat) (g:Gr) (K:Bool->Option R):Option R:=
 bif decide ((List.length (Gr.states g):Int)<1)then
  (K false)
 else
  bif decide (40<(List.length (Gr.states g):Int))then
   (K false)
  else
   bif !decide ((List.length (Gr.edges g):Int)=(List.length (Gr.states g):Int))then
    (K false)
   else
    l4 G n n (Gr.states g) (Gr.edges g) (Gr.whole g) 0
     (fun t2=>K t2)
     (K true)
noncomputable def dl7 (G:Gs) (n m:Nat) (R:Type) (st:St) (K:Kt R):Option R:=match st with
 |⟨[(1,.one (.p 0 0)),(3,.one (.i i)),(4,.one (.i k))],[.box [.l (.n 1) h0,.l (.sl .i) h02,.b h03]]⟩=>l7 G n m i h0 h02 h03 k (fun t2=>K .ret ⟨[(2,.one (.b t2))],[]⟩) (K (.exit 2) ⟨[(1,.one (.p 0 0)),(3,.one (.i i))],[.box [.l (.n 1) h0,.l (.sl .i) h02,.b h03]]⟩)
 |_=>none
noncomputable def dl4 (G:Gs) (n m:Nat) (R:Type) (st:St) (K:Kt R):Option R:=match st with
 |⟨[(1,.one (.p 0 0)),(3,.one (.i i))],[.box [.l (.n 1) h0,.l (.sl .i) h02,.b h03]]⟩=>l4 G n m h0 h02 h03 i (fun t2=>K .ret ⟨[(2,.one (.b t2))],[]⟩) (K (.exit 0) ⟨[],[]⟩)
 |_=>none
noncomputable def pc (G:Gs) (n:Nat):Pcs:=⟨fun R id st K=>bif Nat.beq id 7 then dl7 G n n R st K else bif Nat.beq id 4 then dl4 G n n R st K else none,fun _ _ _ _=>none,fun _ _ _ _=>none⟩
noncomputable def an:Ann:=⟨79,0,[(7,[1,3,4]),(4,[1,3])],[],[2],[(9,⟨[([0,1,2,3,4,5,6,7,8,9,10,11,12,13,14,15,16,17,18,19,20,21,22,23,24,25,26,27,28,29,30,31,32,33,34,35,36,37],[],[])],[],[],[0],[]⟩)],[]⟩
noncomputable abbrev bd:=bodyOf Tryd.f63
noncomputable abbrev q7:=nthC [1,1,0,1,0,0,1,0,0,1,0,0] bd
noncomputable abbrev q4:=nthC [1,1,0,1,0,0] bd
theorem pl7 {G:Gs} (hG:AllE Tryd.prog (ents G)) (n:Nat):∀m,PieceOK Tryd.prog an (.loop q7) (dl7 G n m):=lpc hG (pc G n) [1,3,4] ⟨[1,3],[2],[(0,[]),(1,[1,3]),(2,[1,3])]⟩ (apl [] trivial) (fun R st K=>by unfold dl7;split<;>rfl) fun m R st K r h=>by unfold dl7 at h;split at h;exact .trans (by kernel_rfl) h;cases h
theorem pl4 {G:Gs} (hG:AllE Tryd.prog (ents G)) (n:Nat):∀m,PieceOK Tryd.prog an (.loop q4) (dl4 G n m):=lpc hG (pc G n) [1,3] ⟨[],[2],[(0,[])]⟩ (apl [(1,7,.loop q7)] ⟨pl7 hG n n,trivial⟩) (fun R st K=>by unfold dl4;split<;>rfl) fun m R st K r h=>by unfold dl4 at h;split at h;exact .trans (by kernel_rfl) h;cases h
noncomputable def Does (G:Gs) (g:Gr) (r:Bool):Prop:=∃n,main (R:=AT×List Ob) G n g (fun r0=>some (.one (.b r0),[]))=some (.one (.b r),[])
theorem ok {G:Gs} (hG:AllE Tryd.prog (ents G)) {g:Gr->Option (Bool)} (hg:∀g_ r,g g_=some r->Does G g_ r):EntOK Tryd.prog (ent g):=fun R xs H K r hc=>by
 simp only[ent]at hc
 split at hc
 ·obtain⟨r,j1,j2⟩:=bind_some hc
  obtain⟨n,j3⟩:=hg _ _ j1
  exact⟨_,_,j2,fnP hG an (pc G n) bd [.tmp 2] Tryd.func63 (.inl rfl) (apl [(1,4,.loop q4)] ⟨pl4 hG n n,trivial⟩) (.trans (by kernel_rfl) j3)⟩
 ·cases hc
end s_IsGraph
namespace s_l31Labels
structure Gs where
 s_l1In:Int->Int->Int->Option (Bool)
noncomputable def ents (G:Gs):List Ent:=[s_l1In.ent G.s_l1In]
noncomputable def b2 {R:Type} (G:Gs) (n:Nat) (labels:List Int) (i:Int) (nx:Int->Option R) (k0:Bool->Option R) (k1:Option R):Option R:=
 bif decide (i<(List.length labels:Int))then
  (
  Option.bind (ix labels i) fun e=>
  Option.bind (G.s_l1In e 0 255) fun r=>
  bif !r then
   (k0 false)
  else
   nx (wr (i+1))
  )
 else
  k1
noncomputable def l2 {R:Type} (G:Gs) (n m:Nat) (labels:List Int) (i:Int) (k0:Bool->Option R) (k1:Option R):Option R:=iter (fun(v:Int) nx=>b2 G n labels v (fun y0=>nx y0) k0 k1) m i
noncomputable def main {R:Type} (G:Gs) (n:Nat) (labels:List Int) (K:Bool->Option R):Option R:=
 l2 G n n labels 0
  (fun t2=>K t2)
  (K true)
noncomputable def dl2 (G:Gs) (n m:Nat) (R:Type) (st:St) (K:Kt R):Option R:=match st with
 |⟨[(0,.one (.l .i labels)),(3,.one (.i i))],[]⟩=>l2 G n m labels i (fun t2=>K .ret ⟨[(2,.one (.b t2))],[]⟩) (K (.exit 0) ⟨[],[]⟩)
 |_=>none
noncomputable def pc (G:Gs) (n:Nat):Pcs:=⟨fun R id st K=>bif Nat.beq id 2 then dl2 G n n R st K else none,fun _ _ _ _=>none,fun _ _ _ _=>none⟩
noncomputable def an:Ann:=⟨16,0,[(2,[0,3])],[],[2],[],[]⟩
noncomputable abbrev bd:=bodyOf Tryd.f78
noncomputable abbrev q2:=nthC [1,0,1,0,0] bd
theorem pl2 {G:Gs} (hG:AllE Tryd.prog (ents G)) (n:Nat):∀m,PieceOK Tryd.prog an (.loop q2) (dl2 G n m):=lpc hG (pc G n) [0,3] ⟨[],[2],[(0,[])]⟩ (apl [] trivial) (fun R st K=>by unfold dl2;split<;>rfl) fun m R st K r h=>by unfold dl2 at h;split at h;exact .trans (by kernel_rfl) h;cases h
noncomputable def Does (G:Gs) (labels:List Int) (r:Bool):Prop:=∃n,main (R:=AT×List Ob) G n labels (fun r0=>some (.one (.b r0),[]))=some (.one (.b r),[])
theorem ok {G:Gs} (hG:AllE Tryd.prog (ents G)) {g:List Int->Option (Bool)} (hg:∀labels r,g labels=some r->Does G labels r):EntOK Tryd.prog (ent g):=fun R xs H K r hc=>by
 simp only[ent]at hc
 split at hc
 ·obtain⟨r,j1,j2⟩:=bind_some hc
  obtain⟨n,j3⟩:=hg _ _ j1
  exact⟨_,_,j2,fnP hG an (pc G n) bd [.tmp 2] Tryd.func78 (.inl rfl) (apl [(1,2,.loop q2)] ⟨pl2 hG n n,trivial⟩) (.trans (by kernel_rfl) j3)⟩
 ·cases hc
end s_l31Labels
namespace s_IsLasso
noncomputable abbrev bd:=bodyOf Tryd.f64
noncomputable abbrev q4:=nthC [1,1,0,1,0,0] bd
end s_IsLasso
namespace s_IsRun
noncomputable abbrev bd:=bodyOf Tryd.f32
noncomputable abbrev q4:=nthC [1,1,0,1,0,0] bd
noncomputable abbrev q9:=nthC [1,1,1,0,1,0,0] bd
end s_IsRun
namespace s_l32Edges
structure Gs where
 none_:Unit
noncomputable def ents (_:Gs):List Ent:=[]
noncomputable def main {R:Type} (G:Gs) (n:Nat) (g:Gr) (i:Int) (K:List Int->Option R):Option R:=
 Option.bind (ix (Gr.edges g) i) fun e=>
 bif decide ((List.length e:Int)=0)then
  (K [i])
 else
  Option.bind (ix (Gr.edges g) i) fun e2=>
  K e2
noncomputable def pc (_:Gs) (_:Nat):Pcs:=⟨fun _ _ _ _=>none,fun _ _ _ _=>none,fun _ _ _ _=>none⟩
noncomputable def an:Ann:=⟨19,0,[],[],[4],[],[]⟩
noncomputable abbrev bd:=bodyOf Tryd.f66
noncomputable def Does (G:Gs) (g:Gr) (i:Int) (r:List Int):Prop:=∃n,main (R:=AT×List Ob) G n g i (fun r0=>some (.one (.l .i r0),[]))=some (.one (.l .i r),[])
theorem ok {G:Gs} (hG:AllE Tryd.prog (ents G)) {g:Gr->Int->Option (List Int)} (hg:∀g_ i r,g g_ i=some r->Does G g_ i r):EntOK Tryd.prog (ent g):=fun R xs H K r hc=>by
 simp only[ent]at hc
 split at hc
 ·obtain⟨r,j1,j2⟩:=bind_some hc
  obtain⟨n,j3⟩:=hg _ _ _ j1
  exact⟨_,_,j2,fnP hG an (pc G n) bd [.tmp 4] Tryd.func66 (.inl rfl) (apl [] trivial) (.trans (by kernel_rfl) j3)⟩
 ·cases hc
end s_l32Edges
namespace s_l32List
structure Gs where
 s_l32List:Fm->List Fm->Option (List Fm)
 s_l31Text:Fm->Option (ByteArray)
noncomputable def ents (G:Gs):List Ent:=[ent G.s_l32List,s_l31Text.ent G.s_l31Text]
noncomputable def b2 {R:Type} (G:Gs) (n:Nat) (h0:Int) (h02:Int) (h03:List Fm) (list:List Fm) (i:Int) (nx:List Fm->Int->Option R) (k0:List Fm->Option R):Option R:=
 bif decide (i<(List.length h03:Int))then
  (
  Option.bind (ix h03 i) fun e=>
  Option.bind (G.s_l32List (Fm.mk (Fm.kind e) (Fm.prop e) (Fm.kids e)) list) fun r=>
  nx r (wr (i+1))
  )
 else
  k0 list
noncomputable def l2 {R:Type} (G:Gs) (n m:Nat) (h0:Int) (h02:Int) (h03:List Fm) (list:List Fm) (i:Int) (k0:List Fm->Option R):Option R:=iter (fun(v:List Fm×Int) nx=>b2 G n h0 h02 h03 v.1 v.2 (fun y0 y1=>nx (y0,y1)) k0) m (list,i)
noncomputable def b6 {R:Type} (G:Gs) (n:Nat) (list:List Fm) (h0:Int) (h02:Int) (h03:List Fm) (i:Int) (nx:Int->Option R) (k0:Option R) (k1:Option R):Option R:=
 bif decide (i<(List.length list:Int))then
  (
  Option.bind (ix list i) fun e2=>
  Option.bind (G.s_l31Text (Fm.mk (Fm.kind e2) (Fm.prop e2) (Fm.kids e2))) fun r2=>
  Option.bind (G.s_l31Text (Fm.mk h0 h02 h03)) fun r4=>
  bif sEq r2 r4 then
   (k0)
  else
   nx (wr (i+1))
  )
 else
  k1
noncomputable def l6 {R:Type} (G:Gs) (n m:Nat) (list:List Fm) (h0:Int) (h02:Int) (h03:List Fm) (i:Int) (k0:Option R) (k1:Option R):Option R:=iter (fun(v:Int) nx=>b6 G n list h0 h02 h03 v (fun y0=>nx y0) k0 k1) m i
noncomputable def main {R:Type} (G:Gs) (n:Nat) (f:Fm) (list:List Fm) (K:List Fm->Option R):Option R:=
 l2 G n n (Fm.kind f) (Fm.prop f) (Fm.kids f) list 0
  (fun list2 =>
   l6 G n n list2 (Fm.kind f) (Fm.prop f) (Fm.kids f) 0
    (K list2)
    (
     Option.bind (lim ([]++list2)) fun zs=>
     Option.bind (lim (zs++[(Fm.mk (Fm.kind f) (Fm.prop f) (Fm.kids f))])) fun zs2=>
     K zs2
    )
  )
noncomputable def dl2 (G:Gs) (n m:Nat) (R:Type) (st:St) (K:Kt R):Option R:=match st with
 |⟨[(1,.one (.l (.n 2) list)),(2,.one (.p 0 0)),(5,.one (.i i))],[.box [.i h0,.i h02,.l (.n 2) h03]]⟩=>l2 G n m h0 h02 h03 list i (fun list2=>K (.exit 0) ⟨[(1,.one (.l (.n 2) list2)),(2,.one (.p 0 0))],[.box [.i h0,.i h02,.l (.n 2) h03]]⟩)
 |_=>none
noncomputable def dl6 (G:Gs) (n m:Nat) (R:Type) (st:St) (K:Kt R):Option R:=match st with
 |⟨[(1,.one (.l (.n 2) list)),(2,.one (.p 0 0)),(6,.one (.i i))],[.box [.i h0,.i h02,.l (.n 2) h03]]⟩=>l6 G n m list h0 h02 h03 i (K .ret ⟨[(4,.one (.l (.n 2) list))],[]⟩) (K (.exit 2) ⟨[(1,.one (.l (.n 2) list)),(2,.one (.p 0 0))],[.box [.i h0,.i h02,.l (.n 2) h03]]⟩)
 |_=>none
noncomputable def pc (G:Gs) (n:Nat):Pcs:=⟨fun R id st K=>bif Nat.beq id 2 then dl2 G n n R st K else bif Nat.beq id 6 then dl6 G n n R st K else none,fun _ _ _ _=>none,fun _ _ _ _=>none⟩
noncomputable def an:Ann:=⟨42,0,[(2,[1,2,5]),(6,[1,2,6])],[],[4],[(8,⟨[([0,1,2,3,4,5,6,7],[],[])],[],[],[0],[]⟩),(10,⟨[([0,1,2,3,4,5,6],[0,2,5],[])],[0,2,5],[],[0],[]⟩)],[]⟩
noncomputable abbrev bd:=bodyOf Tryd.f87
noncomputable abbrev q2:=nthC [1,0,1,0,0] bd
noncomputable abbrev q6:=nthC [1,1,0,1,0,0] bd
theorem pl2 {G:Gs} (hG:AllE Tryd.prog (ents G)) (n:Nat):∀m,PieceOK Tryd.prog an (.loop q2) (dl2 G n m):=lpc hG (pc G n) [1,2,5] ⟨[1,2],[4],[(0,[1,2])]⟩ (apl [] trivial) (fun R st K=>by unfold dl2;split<;>rfl) fun m R st K r h=>by unfold dl2 at h;split at h;exact .trans (by kernel_rfl) h;cases h
theorem pl6 {G:Gs} (hG:AllE Tryd.prog (ents G)) (n:Nat):∀m,PieceOK Tryd.prog an (.loop q6) (dl6 G n m):=lpc hG (pc G n) [1,2,6] ⟨[1,2],[4],[(2,[1,2])]⟩ (apl [] trivial) (fun R st K=>by unfold dl6;split<;>rfl) fun m R st K r h=>by unfold dl6 at h;split at h;exact .trans (by kernel_rfl) h;cases h
noncomputable def Does (G:Gs) (f:Fm) (list:List Fm) (r:List Fm):Prop:=∃n,main (R:=AT×List Ob) G n f list (fun r0=>some (.one (.l (.n 2) r0),[]))=some (.one (.l (.n 2) r),[])
theorem ok {G:Gs} (hG:AllE Tryd.prog (ents G)) {g:Fm->List Fm->Option (List Fm)} (hg:∀f list r,g f list=some r->Does G f list r):EntOK Tryd.prog (ent g):=fun R xs H K r hc=>by
 simp only[ent]at hc
 split at hc
 ·obtain⟨r,j1,j2⟩:=bind_some hc
  obtain⟨n,j3⟩:=hg _ _ _ j1
  exact⟨_,_,j2,fnP hG an (pc G n) bd [.tmp 4] Tryd.func87 (.inl rfl) (apl [(1,2,.loop q2),(1,6,.loop q6)] ⟨pl2 hG n n,⟨pl6 hG n n,trivial⟩⟩) (.trans (by kernel_rfl) j3)⟩
 ·cases hc
end s_l32List
namespace s_l32Temporal
structure Gs where
 s_l32List:Fm->List Fm->Option (List Fm)
noncomputable def ents (G:Gs):List Ent:=[s_l32List.ent G.s_l32List]
noncomputable def b4 {R:Type} (G:Gs) (n:Nat) (list:List Fm) (n1:Int) (i:Int) (nx:Int->Int->Option R) (k0:Int->Option R):Option R:=
 bif decide (i<(List.length list:Int))then
  (
  Option.bind (ix list i) fun e=>
  bif decide (6<=(Fm.kind e))then
   (nx (wr (n1+1)) (wr (i+1)))
  else
   nx n1 (wr (i+1))
  )
 else
  k0 n1
noncomputable def l4 {R:Type} (G:Gs) (n m:Nat) (list:List Fm) (n1:Int) (i:Int) (k0:Int->Option R):Option R:=iter (fun(v:Int×Int) nx=>b4 G n list v.1 v.2 (fun y0 y1=>nx (y0,y1)) k0) m (n1,i)
noncomputable def main {R:Type} (G:Gs) (n:Nat) (f:Fm) (K:Int->Option R):Option R:=
 Option.bind (G.s_l32List (Fm.mk (Fm.kind f) (Fm.prop f) (Fm.kids f)) []) fun r=>
 l4 G n n r 0 0
  (fun n12=>K n12)
noncomputable def dl4 (G:Gs) (n m:Nat) (R:Type) (st:St) (K:Kt R):Option R:=match st with
 |⟨[(3,.one (.i n1)),(4,.one (.l (.n 2) list)),(5,.one (.i i))],[]⟩=>l4 G n m list n1 i (fun n12=>K (.exit 0) ⟨[(3,.one (.i n12))],[]⟩)
 |_=>none
noncomputable def pc (G:Gs) (n:Nat):Pcs:=⟨fun R id st K=>bif Nat.beq id 4 then dl4 G n n R st K else none,fun _ _ _ _=>none,fun _ _ _ _=>none⟩
noncomputable def an:Ann:=⟨23,0,[(4,[3,4,5])],[],[2],[],[]⟩
noncomputable abbrev bd:=bodyOf Tryd.f79
noncomputable abbrev q4:=nthC [1,1,1,0,1,0,0] bd
theorem pl4 {G:Gs} (hG:AllE Tryd.prog (ents G)) (n:Nat):∀m,PieceOK Tryd.prog an (.loop q4) (dl4 G n m):=lpc hG (pc G n) [3,4,5] ⟨[3],[2],[(0,[3])]⟩ (apl [] trivial) (fun R st K=>by unfold dl4;split<;>rfl) fun m R st K r h=>by unfold dl4 at h;split at h;exact .trans (by kernel_rfl) h;cases h
noncomputable def Does (G:Gs) (f:Fm) (r:Int):Prop:=∃n,main (R:=AT×List Ob) G n f (fun r0=>some (.one (.i r0),[]))=some (.one (.i r),[])
theorem ok {G:Gs} (hG:AllE Tryd.prog (ents G)) {g:Fm->Option (Int)} (hg:∀f r,g f=some r->Does G f r):EntOK Tryd.prog (ent g):=fun R xs H K r hc=>by
 simp only[ent]at hc
 split at hc
 ·obtain⟨r,j1,j2⟩:=bind_some hc
  obtain⟨n,j3⟩:=hg _ _ j1
  exact⟨_,_,j2,fnP hG an (pc G n) bd [.tmp 2] Tryd.func79 (.inl rfl) (apl [(1,4,.loop q4)] ⟨pl4 hG n n,trivial⟩) (.trans (by kernel_rfl) j3)⟩
 ·cases hc
end s_l32Temporal
namespace s_l32Right
structure Gs where
 s_IsGraph:Gr->Option (Bool)
 s_l31Labels:List Int->Option (Bool)
 s_IsFormula:Fm->Option (Bool)
 s_l32Temporal:Fm->Option (Int)
noncomputable def ents (G:Gs):List Ent:=[s_IsGraph.ent G.s_IsGraph,s_l31Labels.ent G.s_l31Labels,s_IsFormula.ent G.s_IsFormula,s_l32Temporal.ent G.s_l32Temporal]
noncomputable def main {R:Type} (G:Gs) (n:Nat) (g:Gr) (labels:List Int) (f:Fm) (K:Bool->Option R):Option R:=
 Option.bind (G.s_IsGraph g) fun r=>
 bif r then
  (
  bif decide ((List.length labels:Int)=(List.length (Gr.states g):Int))then
   (
   Option.bind (G.s_l31Labels labels) fun r2=>
   bif r2 then
    (
    Option.bind (G.s_IsFormula (Fm.mk (Fm.kind f) (Fm.prop f) (Fm.kids f))) fun r3=>
    bif r3 then
     (
     Option.bind (G.s_l32Temporal (Fm.mk (Fm.kind f) (Fm.prop f) (Fm.kids f))) fun r4=>
     K (decide (r4<=4))
     )
    else
     K false
    )
   else
    K false
   )
  else
   K false
  )
 else
  K false
noncomputable def pc (_:Gs) (_:Nat):Pcs:=⟨fun _ _ _ _=>none,fun _ _ _ _=>none,fun _ _ _ _=>none⟩
noncomputable def an:Ann:=⟨30,0,[],[],[6],[],[]⟩
noncomputable abbrev bd:=bodyOf Tryd.f40
noncomputable def Does (G:Gs) (g:Gr) (labels:List Int) (f:Fm) (r:Bool):Prop:=∃n,main (R:=AT×List Ob) G n g labels f (fun r0=>some (.one (.b r0),[]))=some (.one (.b r),[])
theorem ok {G:Gs} (hG:AllE Tryd.prog (ents G)) {g:Gr->List Int->Fm->Option (Bool)} (hg:∀g_ labels f r,g g_ labels f=some r->Does G g_ labels f r):EntOK Tryd.prog (ent g):=fun R xs H K r hc=>by
 simp only[ent]at hc
 split at hc
 ·obtain⟨r,j1,j2⟩:=bind_some hc
  obtain⟨n,j3⟩:=hg _ _ _ _ j1
  exact⟨_,_,j2,fnP hG an (pc G n) bd [.tmp 6] Tryd.func40 (.inl rfl) (apl [] trivial) (.trans (by kernel_rfl) j3)⟩
 ·cases hc
end s_l32Right
namespace s_l32Try
structure Gs where
 s_l32Edges:Gr->Int->Option (List Int)
 s_l1HasInt:List Int->Int->Option (Bool)
 s_l31Places:Fm->Lasso->List Int->Option (List Bool)
 s_l32Try:Gr->List Int->Fm->List Int->Int->Option (Lasso×Bool)
noncomputable def ents (G:Gs):List Ent:=[s_l32Edges.ent G.s_l32Edges,s_l1HasInt.ent G.s_l1HasInt,s_l31Places.ent G.s_l31Places,ent G.s_l32Try]
noncomputable def b5 {R:Type} (G:Gs) (n:Nat) (labels:List Int) (path:List Int) (n1:Int) (edges:List Int) (h0:Int) (h02:Int) (h03:List Fm) (h1:Int) (h2:List Int) (back:Int) (nx:Int->Option R) (k0:Bool->Int->Option R) (k1:Option R):Option R:=
 bif decide (back<n1)then
  (
  Option.bind (ix path back) fun e=>
  Option.bind (G.s_l1HasInt edges e) fun r=>
  bif r then
   (
   Option.bind (G.s_l31Places (Fm.mk h0 h02 h03) (Lasso.mk path back) labels) fun r2=>
   Option.bind (ix r2 0) fun e2=>
   bif !e2 then
    (k0 true back)
   else
    nx (wr (back+1))
   )
  else
   nx (wr (back+1))
  )
 else
  k1
noncomputable def l5 {R:Type} (G:Gs) (n m:Nat) (labels:List Int) (path:List Int) (n1:Int) (edges:List Int) (h0:Int) (h02:Int) (h03:List Fm) (h1:Int) (h2:List Int) (back:Int) (k0:Bool->Int->Option R) (k1:Option R):Option R:=iter (fun(v:Int) nx=>b5 G n labels path n1 edges h0 h02 h03 h1 h2 v (fun y0=>nx y0) k0 k1) m back
noncomputable def d14 {R:Type} (G:Gs) (n:Nat) (labels:List Int) (path:List Int) (n1:Int) (edges:List Int) (i:Int) (h0:List Tm) (h02:List (List Int)) (h03:Bool) (h1:Int) (h12:Int) (h13:List Fm) (h2:Int) (h3:List Int) (k0:Bool->List Int->Int->Option R):Option R:=
 Option.bind (lim ([]++path)) fun zs=>
 Option.bind (ix edges i) fun e2=>
 Option.bind (lim (zs++[e2])) fun zs2=>
 Option.bind (G.s_l32Try (Gr.mk h0 h02 h03) labels (Fm.mk h1 h12 h13) zs2 n1) fun r=>
 k0 r.2 (Lasso.states r.1) (Lasso.back r.1)
noncomputable def d14_1 {R:Type} (G:Gs) (n:Nat) (labels:List Int) (path:List Int) (n1:Int) (edges:List Int) (i:Int) (h0:List Tm) (h02:List (List Int)) (h03:Bool) (h1:Int) (h12:Int) (h13:List Fm) (h2:Int) (h3:List Int) (k0:Bool->List Int->Int->Option R):Option R:=
 Option.bind (lim ([]++path)) fun zs=>
 Option.bind (ix edges i) fun e2=>
 Option.bind (lim (zs++[e2])) fun zs2=>
 Option.bind (G.s_l32Try (Gr.mk h0 h02 h03) labels (Fm.mk h1 h12 h13) zs2 n1) fun r=>
 k0 r.2 (Lasso.states r.1) (Lasso.back r.1)
theorem e14_1 {R:Type} (G:Gs) (n:Nat) (labels:List Int) (path:List Int) (n1:Int) (edges:List Int) (i:Int) (h0:List Tm) (h02:List (List Int)) (h03:Bool) (h1:Int) (h12:Int) (h13:List Fm) (h2:Int) (h3:List Int) (k0:Bool->List Int->Int->Option R):d14_1 G n labels path n1 edges i h0 h02 h03 h1 h12 h13 h2 h3 k0=d14 G n labels path n1 edges i h0 h02 h03 h1 h12 h13 h2 h3 k0:=by
 unfold d14_1 d14
 generalize lim ([]++path)=o0
 generalize ix edges i=o1
 cases o0<;>cases o1<;>first|rfl|simp
noncomputable def d14_2 {R:Type} (G:Gs) (n:Nat) (labels:List Int) (path:List Int) (n1:Int) (edges:List Int) (i:Int) (h0:List Tm) (h02:List (List Int)) (h03:Bool) (h1:Int) (h12:Int) (h13:List Fm) (h2:Int) (h3:List Int) (k0:Bool->List Int->Int->Option R):Option R:=
 Option.bind (lim ([]++path)) fun zs=>
 Option.bind (ix edges i) fun e2=>
 Option.bind (lim (zs++[e2])) fun zs2=>
 Option.bind (G.s_l32Try (Gr.mk h0 h02 h03) labels (Fm.mk h1 h12 h13) zs2 n1) fun r=>
 k0 r.2 (Lasso.states r.1) (Lasso.back r.1)
theorem e14_2 {R:Type} (G:Gs) (n:Nat) (labels:List Int) (path:List Int) (n1:Int) (edges:List Int) (i:Int) (h0:List Tm) (h02:List (List Int)) (h03:Bool) (h1:Int) (h12:Int) (h13:List Fm) (h2:Int) (h3:List Int) (k0:Bool->List Int->Int->Option R):d14_2 G n labels path n1 edges i h0 h02 h03 h1 h12 h13 h2 h3 k0=d14 G n labels path n1 edges i h0 h02 h03 h1 h12 h13 h2 h3 k0:=by
 unfold d14_2 d14
 generalize lim ([]++path)=o0
 generalize ix edges i=o1
 cases o0<;>cases o1<;>first|rfl|simp
noncomputable def d14_3 {R:Type} (G:Gs) (n:Nat) (labels:List Int) (path:List Int) (n1:Int) (edges:List Int) (i:Int) (h0:List Tm) (h02:List (List Int)) (h03:Bool) (h1:Int) (h12:Int) (h13:List Fm) (h2:Int) (h3:List Int) (k0:Bool->List Int->Int->Option R):Option R:=
 Option.bind (lim ([]++path)) fun zs=>
 Option.bind (ix edges i) fun e2=>
 Option.bind (lim (zs++[e2])) fun zs2=>
 Option.bind (G.s_l32Try (Gr.mk h0 h02 h03) labels (Fm.mk h1 h12 h13) zs2 n1) fun r=>
 k0 r.2 (Lasso.states r.1) (Lasso.back r.1)
theorem e14_3 {R:Type} (G:Gs) (n:Nat) (labels:List Int) (path:List Int) (n1:Int) (edges:List Int) (i:Int) (h0:List Tm) (h02:List (List Int)) (h03:Bool) (h1:Int) (h12:Int) (h13:List Fm) (h2:Int) (h3:List Int) (k0:Bool->List Int->Int->Option R):d14_3 G n labels path n1 edges i h0 h02 h03 h1 h12 h13 h2 h3 k0=d14 G n labels path n1 edges i h0 h02 h03 h1 h12 h13 h2 h3 k0:=by
 unfold d14_3 d14
 generalize lim ([]++path)=o0
 generalize ix edges i=o1
 cases o0<;>cases o1<;>first|rfl|simp
noncomputable def d14_4 {R:Type} (G:Gs) (n:Nat) (labels:List Int) (path:List Int) (n1:Int) (edges:List Int) (i:Int) (h0:List Tm) (h02:List (List Int)) (h03:Bool) (h1:Int) (h12:Int) (h13:List Fm) (h2:Int) (h3:List Int) (k0:Bool->List Int->Int->Option R):Option R:=
 Option.bind (lim ([]++path)) fun zs=>
 Option.bind (ix edges i) fun e2=>
 Option.bind (lim (zs++[e2])) fun zs2=>
 Option.bind (G.s_l32Try (Gr.mk h0 h02 h03) labels (Fm.mk h1 h12 h13) zs2 n1) fun r=>
 k0 r.2 (Lasso.states r.1) (Lasso.back r.1)
theorem e14_4 {R:Type} (G:Gs) (n:Nat) (labels:List Int) (path:List Int) (n1:Int) (edges:List Int) (i:Int) (h0:List Tm) (h02:List (List Int)) (h03:Bool) (h1:Int) (h12:Int) (h13:List Fm) (h2:Int) (h3:List Int) (k0:Bool->List Int->Int->Option R):d14_4 G n labels path n1 edges i h0 h02 h03 h1 h12 h13 h2 h3 k0=d14 G n labels path n1 edges i h0 h02 h03 h1 h12 h13 h2 h3 k0:=by
 unfold d14_4 d14
 generalize lim ([]++path)=o0
 generalize ix edges i=o1
 cases o0<;>cases o1<;>first|rfl|simp
noncomputable def b12 {R:Type} (G:Gs) (n:Nat) (labels:List Int) (path:List Int) (n1:Int) (edges:List Int) (h0:List Tm) (h02:List (List Int)) (h03:Bool) (h1:Int) (h12:Int) (h13:List Fm) (h2:Int) (h3:List Int) (i:Int) (nx:Int->Option R) (k0:Bool->List Int->Int->Option R) (k1:Option R):Option R:=
 bif decide (i < (List.length edges : Int)) then
  (
  d14 G n labels path n1 edges i h0 h02 h03 h1 h12 h13 h2 h3
   (fun ok h4 h42 =>
    bif ok then
     (k0 true h4 h42)
    else
     nx (wr (i+1))
   )
  )
 else
  k1
noncomputable def l12 {R:Type} (G:Gs) (n m:Nat) (labels:List Int) (path:List Int) (n1:Int) (edges:List Int) (h0:List Tm) (h02:List (List Int)) (h03:Bool) (h1:Int) (h12:Int) (h13:List Fm) (h2:Int) (h3:List Int) (i:Int) (k0:Bool->List Int->Int->Option R) (k1:Option R):Option R:=iter (fun(v:Int) nx=>b12 G n labels path n1 edges h0 h02 h03 h1 h12 h13 h2 h3 v (fun y0=>nx y0) k0 k1) m i
noncomputable def main {R:Type} (G:Gs) (n:Nat) (g:Gr) (labels:List Int) (f:Fm) (path:List Int) (n1:Int) (K:Lasso->Bool->Option R):Option R:=
 Option.bind (ix path (wr ((List.length path:Int)-1))) fun e=>
 Option.bind (G.s_l32Edges g e) fun r=>
 bif decide ((List.length path:Int)=n1)then
  (
  l5 G n n labels path n1 r (Fm.kind f) (Fm.prop f) (Fm.kids f) 0 [] 0
   (fun t11 h05=>K (Lasso.mk path h05) t11)
   (K (Lasso.mk [] 0) false)
  )
 else
  l12 G n n labels path n1 r (Gr.states g) (Gr.edges g) (Gr.whole g) (Fm.kind f) (Fm.prop f) (Fm.kids f) 0 [] 0
   (fun t112 h04 h052=>K (Lasso.mk h04 h052) t112)
   (K (Lasso.mk [] 0) false)
noncomputable def dl5 (G:Gs) (n m:Nat) (R:Type) (st:St) (K:Kt R):Option R:=match st with
 |⟨[(1,.one (.l .i labels)),(3,.one (.l .i path)),(4,.one (.i n1)),(7,.one (.p 0 0)),(10,.one (.p 1 0)),(13,.one (.l .i edges)),(14,.one (.i back))],[.box [.i h0,.i h02,.l (.n 2) h03],.box [.o 2,.i h1],.row .i 0 h2]⟩=>l5 G n m labels path n1 edges h0 h02 h03 h1 h2 back (fun t11 h05=>K .ret ⟨[(10,.one (.p 0 0)),(11,.one (.b t11))],[.box [.l .i path,.i h05]]⟩) (K (.exit 0) ⟨[(10,.one (.p 0 0))],[.box [.o 1,.i h1],.row .i 0 h2]⟩)
 |_=>none
noncomputable def dd14 (G:Gs) (n:Nat) (R:Type) (st:St) (K:Kt R):Option R:=match st with
 |⟨[(1,.one (.l .i labels)),(3,.one (.l .i path)),(4,.one (.i n1)),(5,.one (.p 0 0)),(7,.one (.p 1 0)),(10,.one (.p 2 0)),(13,.one (.l .i edges)),(16,.one (.i i))],[.box [.l (.n 1) h0,.l (.sl .i) h02,.b h03],.box [.i h1,.i h12,.l (.n 2) h13],.box [.o 3,.i h2],.row .i 0 h3]⟩=>d14 G n labels path n1 edges i h0 h02 h03 h1 h12 h13 h2 h3 (fun ok h4 h42=>K .normal ⟨[(1,.one (.l .i labels)),(3,.one (.l .i path)),(4,.one (.i n1)),(5,.one (.p 0 0)),(7,.one (.p 1 0)),(10,.one (.p 2 0)),(13,.one (.l .i edges)),(16,.one (.i i)),(17,.one (.p 4 0)),(18,.one (.b ok))],[.box [.l (.n 1) h0,.l (.sl .i) h02,.b h03],.box [.i h1,.i h12,.l (.n 2) h13],.box [.o 3,.i h2],.row .i 0 h3,.box [.l .i h4,.i h42]]⟩)
 |_=>none
noncomputable def dl12 (G:Gs) (n m:Nat) (R:Type) (st:St) (K:Kt R):Option R:=match st with
 |⟨[(1,.one (.l .i labels)),(3,.one (.l .i path)),(4,.one (.i n1)),(5,.one (.p 0 0)),(7,.one (.p 1 0)),(10,.one (.p 2 0)),(13,.one (.l .i edges)),(16,.one (.i i))],[.box [.l (.n 1) h0,.l (.sl .i) h02,.b h03],.box [.i h1,.i h12,.l (.n 2) h13],.box [.o 3,.i h2],.row .i 0 h3]⟩=>l12 G n m labels path n1 edges h0 h02 h03 h1 h12 h13 h2 h3 i (fun t11 h04 h05=>K .ret ⟨[(10,.one (.p 0 0)),(11,.one (.b t11))],[.box [.l .i h04,.i h05]]⟩) (K (.exit 2) ⟨[(10,.one (.p 0 0))],[.box [.o 1,.i h2],.row .i 0 h3]⟩)
 |_=>none
noncomputable def pc (G:Gs) (n:Nat):Pcs:=⟨fun R id st K=>bif Nat.beq id 5 then dl5 G n n R st K else bif Nat.beq id 12 then dl12 G n n R st K else none,fun _ _ _ _=>none,fun R id st K=>bif Nat.beq id 14 then dd14 G n R st K else none⟩
noncomputable def an:Ann:=⟨83,0,[(5,[1,3,4,7,10,13,14]),(12,[1,3,4,5,7,10,13,16])],[],[10,11],[(14,⟨[([3,4,5,6,7,8,9,10,11,0,1,2,12,13,17,14,15,18,16,19],[3,5,11,13,17,18],[]),([3,4,5,6,7,8,9,10,11,17,0,1,2,12,13,14,15,18,16,19],[3,5,11,17,13,18],[]),([3,4,5,17,6,7,8,9,10,11,0,1,2,12,13,14,15,18,16,19],[3,5,17,11,13,18],[]),([3,17,4,5,6,7,8,9,10,11,0,1,2,12,13,14,15,18,16,19],[3,17,5,11,13,18],[]),([17,3,4,5,6,7,8,9,10,11,0,1,2,12,13,14,15,18,16,19],[17,3,5,11,13,18],[])],[3,5,11,13,17,18],[],[0,1,2,3],[1,3,4,5,7,10,13,16]⟩)],[]⟩
noncomputable abbrev bd:=bodyOf Tryd.f42
noncomputable abbrev q5:=nthC [1,1,1,0,1,0,0,1,0,0] bd
noncomputable abbrev q14:=nthC [1,1,1,1,0,1,0,0,1,0,0,0] bd
noncomputable abbrev q12:=nthC [1,1,1,1,0,1,0,0] bd
theorem pl5 {G:Gs} (hG:AllE Tryd.prog (ents G)) (n:Nat):∀m,PieceOK Tryd.prog an (.loop q5) (dl5 G n m):=lpc hG (pc G n) [1,3,4,7,10,13,14] ⟨[10],[10,11],[(0,[10])]⟩ (apl [] trivial) (fun R st K=>by unfold dl5;split<;>rfl) fun m R st K r h=>by unfold dl5 at h;split at h;exact .trans (by kernel_rfl) h;cases h
theorem s14_0 (G:Gs) (n:Nat) (R:Type) (labels:List Int) (path:List Int) (n1:Int) (edges:List Int) (i:Int) (h0:List Tm) (h02:List (List Int)) (h03:Bool) (h1:Int) (h12:Int) (h13:List Fm) (h2:Int) (h3:List Int) (K:Kt R):(fun st1:St=>drawD tb (orcOf (ents G)) an.nt (opsOf (q14)) (maskH [0,1,2,3] st1.H) [3,4,5,6,7,8,9,10,11,0,1,2,12,13,17,14,15,18,16,19] [3,5,11,13,17,18] [] [] [3,4,5,6,7,8,9,10,11,0,1,2,12,13,17,14,15,18,16,19] st1.L st1.H st1.H fun L H=>outK an.refs ⟨[1,3,4,5,7,10,13,16,17,18],[10,11],[(2,[10]),(3,[1,3,4,5,7,10,13,16])]⟩ K .normal ⟨L,H⟩) (fzIds (slotRows (St.L ⟨[(1,.one (.l .i labels)),(3,.one (.l .i path)),(4,.one (.i n1)),(5,.one (.p 0 0)),(7,.one (.p 1 0)),(10,.one (.p 2 0)),(13,.one (.l .i edges)),(16,.one (.i i))],[.box [.l (.n 1) h0,.l (.sl .i) h02,.b h03],.box [.i h1,.i h12,.l (.n 2) h13],.box [.o 3,.i h2],.row .i 0 h3]⟩) (St.H ⟨[(1,.one (.l .i labels)),(3,.one (.l .i path)),(4,.one (.i n1)),(5,.one (.p 0 0)),(7,.one (.p 1 0)),(10,.one (.p 2 0)),(13,.one (.l .i edges)),(16,.one (.i i))],[.box [.l (.n 1) h0,.l (.sl .i) h02,.b h03],.box [.i h1,.i h12,.l (.n 2) h13],.box [.o 3,.i h2],.row .i 0 h3]⟩) []) ⟨[(1,.one (.l .i labels)),(3,.one (.l .i path)),(4,.one (.i n1)),(5,.one (.p 0 0)),(7,.one (.p 1 0)),(10,.one (.p 2 0)),(13,.one (.l .i edges)),(16,.one (.i i))],[.box [.l (.n 1) h0,.l (.sl .i) h02,.b h03],.box [.i h1,.i h12,.l (.n 2) h13],.box [.o 3,.i h2],.row .i 0 h3]⟩)=dd14 G n R ⟨[(1,.one (.l .i labels)),(3,.one (.l .i path)),(4,.one (.i n1)),(5,.one (.p 0 0)),(7,.one (.p 1 0)),(10,.one (.p 2 0)),(13,.one (.l .i edges)),(16,.one (.i i))],[.box [.l (.n 1) h0,.l (.sl .i) h02,.b h03],.box [.i h1,.i h12,.l (.n 2) h13],.box [.o 3,.i h2],.row .i 0 h3]⟩ K:=by kernel_rfl
theorem s14_1 (G:Gs) (n:Nat) (R:Type) (labels:List Int) (path:List Int) (n1:Int) (edges:List Int) (i:Int) (h0:List Tm) (h02:List (List Int)) (h03:Bool) (h1:Int) (h12:Int) (h13:List Fm) (h2:Int) (h3:List Int) (K:Kt R):(fun st1:St=>drawD tb (orcOf (ents G)) an.nt (opsOf (q14)) (maskH [0,1,2,3] st1.H) [3,4,5,6,7,8,9,10,11,17,0,1,2,12,13,14,15,18,16,19] [3,5,11,17,13,18] [] [] [3,4,5,6,7,8,9,10,11,17,0,1,2,12,13,14,15,18,16,19] st1.L st1.H st1.H fun L H=>outK an.refs ⟨[1,3,4,5,7,10,13,16,17,18],[10,11],[(2,[10]),(3,[1,3,4,5,7,10,13,16])]⟩ K .normal ⟨L,H⟩) (fzIds (slotRows (St.L ⟨[(1,.one (.l .i labels)),(3,.one (.l .i path)),(4,.one (.i n1)),(5,.one (.p 0 0)),(7,.one (.p 1 0)),(10,.one (.p 2 0)),(13,.one (.l .i edges)),(16,.one (.i i))],[.box [.l (.n 1) h0,.l (.sl .i) h02,.b h03],.box [.i h1,.i h12,.l (.n 2) h13],.box [.o 3,.i h2],.row .i 0 h3]⟩) (St.H ⟨[(1,.one (.l .i labels)),(3,.one (.l .i path)),(4,.one (.i n1)),(5,.one (.p 0 0)),(7,.one (.p 1 0)),(10,.one (.p 2 0)),(13,.one (.l .i edges)),(16,.one (.i i))],[.box [.l (.n 1) h0,.l (.sl .i) h02,.b h03],.box [.i h1,.i h12,.l (.n 2) h13],.box [.o 3,.i h2],.row .i 0 h3]⟩) []) ⟨[(1,.one (.l .i labels)),(3,.one (.l .i path)),(4,.one (.i n1)),(5,.one (.p 0 0)),(7,.one (.p 1 0)),(10,.one (.p 2 0)),(13,.one (.l .i edges)),(16,.one (.i i))],[.box [.l (.n 1) h0,.l (.sl .i) h02,.b h03],.box [.i h1,.i h12,.l (.n 2) h13],.box [.o 3,.i h2],.row .i 0 h3]⟩)=d14_1 G n labels path n1 edges i h0 h02 h03 h1 h12 h13 h2 h3 (fun ok h4 h42=>K .normal ⟨[(1,.one (.l .i labels)),(3,.one (.l .i path)),(4,.one (.i n1)),(5,.one (.p 0 0)),(7,.one (.p 1 0)),(10,.one (.p 2 0)),(13,.one (.l .i edges)),(16,.one (.i i)),(17,.one (.p 4 0)),(18,.one (.b ok))],[.box [.l (.n 1) h0,.l (.sl .i) h02,.b h03],.box [.i h1,.i h12,.l (.n 2) h13],.box [.o 3,.i h2],.row .i 0 h3,.box [.l .i h4,.i h42]]⟩):=by kernel_rfl
theorem s14_2 (G:Gs) (n:Nat) (R:Type) (labels:List Int) (path:List Int) (n1:Int) (edges:List Int) (i:Int) (h0:List Tm) (h02:List (List Int)) (h03:Bool) (h1:Int) (h12:Int) (h13:List Fm) (h2:Int) (h3:List Int) (K:Kt R):(fun st1:St=>drawD tb (orcOf (ents G)) an.nt (opsOf (q14)) (maskH [0,1,2,3] st1.H) [3,4,5,17,6,7,8,9,10,11,0,1,2,12,13,14,15,18,16,19] [3,5,17,11,13,18] [] [] [3,4,5,17,6,7,8,9,10,11,0,1,2,12,13,14,15,18,16,19] st1.L st1.H st1.H fun L H=>outK an.refs ⟨[1,3,4,5,7,10,13,16,17,18],[10,11],[(2,[10]),(3,[1,3,4,5,7,10,13,16])]⟩ K .normal ⟨L,H⟩) (fzIds (slotRows (St.L ⟨[(1,.one (.l .i labels)),(3,.one (.l .i path)),(4,.one (.i n1)),(5,.one (.p 0 0)),(7,.one (.p 1 0)),(10,.one (.p 2 0)),(13,.one (.l .i edges)),(16,.one (.i i))],[.box [.l (.n 1) h0,.l (.sl .i) h02,.b h03],.box [.i h1,.i h12,.l (.n 2) h13],.box [.o 3,.i h2],.row .i 0 h3]⟩) (St.H ⟨[(1,.one (.l .i labels)),(3,.one (.l .i path)),(4,.one (.i n1)),(5,.one (.p 0 0)),(7,.one (.p 1 0)),(10,.one (.p 2 0)),(13,.one (.l .i edges)),(16,.one (.i i))],[.box [.l (.n 1) h0,.l (.sl .i) h02,.b h03],.box [.i h1,.i h12,.l (.n 2) h13],.box [.o 3,.i h2],.row .i 0 h3]⟩) []) ⟨[(1,.one (.l .i labels)),(3,.one (.l .i path)),(4,.one (.i n1)),(5,.one (.p 0 0)),(7,.one (.p 1 0)),(10,.one (.p 2 0)),(13,.one (.l .i edges)),(16,.one (.i i))],[.box [.l (.n 1) h0,.l (.sl .i) h02,.b h03],.box [.i h1,.i h12,.l (.n 2) h13],.box [.o 3,.i h2],.row .i 0 h3]⟩)=d14_2 G n labels path n1 edges i h0 h02 h03 h1 h12 h13 h2 h3 (fun ok h4 h42=>K .normal ⟨[(1,.one (.l .i labels)),(3,.one (.l .i path)),(4,.one (.i n1)),(5,.one (.p 0 0)),(7,.one (.p 1 0)),(10,.one (.p 2 0)),(13,.one (.l .i edges)),(16,.one (.i i)),(17,.one (.p 4 0)),(18,.one (.b ok))],[.box [.l (.n 1) h0,.l (.sl .i) h02,.b h03],.box [.i h1,.i h12,.l (.n 2) h13],.box [.o 3,.i h2],.row .i 0 h3,.box [.l .i h4,.i h42]]⟩):=by kernel_rfl
theorem s14_3 (G:Gs) (n:Nat) (R:Type) (labels:List Int) (path:List Int) (n1:Int) (edges:List Int) (i:Int) (h0:List Tm) (h02:List (List Int)) (h03:Bool) (h1:Int) (h12:Int) (h13:List Fm) (h2:Int) (h3:List Int) (K:Kt R):(fun st1:St=>drawD tb (orcOf (ents G)) an.nt (opsOf (q14)) (maskH [0,1,2,3] st1.H) [3,17,4,5,6,7,8,9,10,11,0,1,2,12,13,14,15,18,16,19] [3,17,5,11,13,18] [] [] [3,17,4,5,6,7,8,9,10,11,0,1,2,12,13,14,15,18,16,19] st1.L st1.H st1.H fun L H=>outK an.refs ⟨[1,3,4,5,7,10,13,16,17,18],[10,11],[(2,[10]),(3,[1,3,4,5,7,10,13,16])]⟩ K .normal ⟨L,H⟩) (fzIds (slotRows (St.L ⟨[(1,.one (.l .i labels)),(3,.one (.l .i path)),(4,.one (.i n1)),(5,.one (.p 0 0)),(7,.one (.p 1 0)),(10,.one (.p 2 0)),(13,.one (.l .i edges)),(16,.one (.i i))],[.box [.l (.n 1) h0,.l (.sl .i) h02,.b h03],.box [.i h1,.i h12,.l (.n 2) h13],.box [.o 3,.i h2],.row .i 0 h3]⟩) (St.H ⟨[(1,.one (.l .i labels)),(3,.one (.l .i path)),(4,.one (.i n1)),(5,.one (.p 0 0)),(7,.one (.p 1 0)),(10,.one (.p 2 0)),(13,.one (.l .i edges)),(16,.one (.i i))],[.box [.l (.n 1) h0,.l (.sl .i) h02,.b h03],.box [.i h1,.i h12,.l (.n 2) h13],.box [.o 3,.i h2],.row .i 0 h3]⟩) []) ⟨[(1,.one (.l .i labels)),(3,.one (.l .i path)),(4,.one (.i n1)),(5,.one (.p 0 0)),(7,.one (.p 1 0)),(10,.one (.p 2 0)),(13,.one (.l .i edges)),(16,.one (.i i))],[.box [.l (.n 1) h0,.l (.sl .i) h02,.b h03],.box [.i h1,.i h12,.l (.n 2) h13],.box [.o 3,.i h2],.row .i 0 h3]⟩)=d14_3 G n labels path n1 edges i h0 h02 h03 h1 h12 h13 h2 h3 (fun ok h4 h42=>K .normal ⟨[(1,.one (.l .i labels)),(3,.one (.l .i path)),(4,.one (.i n1)),(5,.one (.p 0 0)),(7,.one (.p 1 0)),(10,.one (.p 2 0)),(13,.one (.l .i edges)),(16,.one (.i i)),(17,.one (.p 4 0)),(18,.one (.b ok))],[.box [.l (.n 1) h0,.l (.sl .i) h02,.b h03],.box [.i h1,.i h12,.l (.n 2) h13],.box [.o 3,.i h2],.row .i 0 h3,.box [.l .i h4,.i h42]]⟩):=by kernel_rfl
theorem s14_4 (G:Gs) (n:Nat) (R:Type) (labels:List Int) (path:List Int) (n1:Int) (edges:List Int) (i:Int) (h0:List Tm) (h02:List (List Int)) (h03:Bool) (h1:Int) (h12:Int) (h13:List Fm) (h2:Int) (h3:List Int) (K:Kt R):(fun st1:St=>drawD tb (orcOf (ents G)) an.nt (opsOf (q14)) (maskH [0,1,2,3] st1.H) [17,3,4,5,6,7,8,9,10,11,0,1,2,12,13,14,15,18,16,19] [17,3,5,11,13,18] [] [] [17,3,4,5,6,7,8,9,10,11,0,1,2,12,13,14,15,18,16,19] st1.L st1.H st1.H fun L H=>outK an.refs ⟨[1,3,4,5,7,10,13,16,17,18],[10,11],[(2,[10]),(3,[1,3,4,5,7,10,13,16])]⟩ K .normal ⟨L,H⟩) (fzIds (slotRows (St.L ⟨[(1,.one (.l .i labels)),(3,.one (.l .i path)),(4,.one (.i n1)),(5,.one (.p 0 0)),(7,.one (.p 1 0)),(10,.one (.p 2 0)),(13,.one (.l .i edges)),(16,.one (.i i))],[.box [.l (.n 1) h0,.l (.sl .i) h02,.b h03],.box [.i h1,.i h12,.l (.n 2) h13],.box [.o 3,.i h2],.row .i 0 h3]⟩) (St.H ⟨[(1,.one (.l .i labels)),(3,.one (.l .i path)),(4,.one (.i n1)),(5,.one (.p 0 0)),(7,.one (.p 1 0)),(10,.one (.p 2 0)),(13,.one (.l .i edges)),(16,.one (.i i))],[.box [.l (.n 1) h0,.l (.sl .i) h02,.b h03],.box [.i h1,.i h12,.l (.n 2) h13],.box [.o 3,.i h2],.row .i 0 h3]⟩) []) ⟨[(1,.one (.l .i labels)),(3,.one (.l .i path)),(4,.one (.i n1)),(5,.one (.p 0 0)),(7,.one (.p 1 0)),(10,.one (.p 2 0)),(13,.one (.l .i edges)),(16,.one (.i i))],[.box [.l (.n 1) h0,.l (.sl .i) h02,.b h03],.box [.i h1,.i h12,.l (.n 2) h13],.box [.o 3,.i h2],.row .i 0 h3]⟩)=d14_4 G n labels path n1 edges i h0 h02 h03 h1 h12 h13 h2 h3 (fun ok h4 h42=>K .normal ⟨[(1,.one (.l .i labels)),(3,.one (.l .i path)),(4,.one (.i n1)),(5,.one (.p 0 0)),(7,.one (.p 1 0)),(10,.one (.p 2 0)),(13,.one (.l .i edges)),(16,.one (.i i)),(17,.one (.p 4 0)),(18,.one (.b ok))],[.box [.l (.n 1) h0,.l (.sl .i) h02,.b h03],.box [.i h1,.i h12,.l (.n 2) h13],.box [.o 3,.i h2],.row .i 0 h3,.box [.l .i h4,.i h42]]⟩):=by kernel_rfl
theorem pd14 {G:Gs} (hG:AllE Tryd.prog (ents G)) {n:Nat}:PieceOK Tryd.prog an (q14) (dd14 G n):=by
 have hc:q14= .region 14 (opsOf (q14)) true:=by kernel_rfl
 rw[hc]
 refine draw_piece mixed tb_ok (orc_ok hG) (o:=⟨[1,3,4,5,7,10,13,16,17,18],[10,11],[(2,[10]),(3,[1,3,4,5,7,10,13,16])]⟩) (d:=⟨[([3,4,5,6,7,8,9,10,11,0,1,2,12,13,17,14,15,18,16,19],[3,5,11,13,17,18],[]),([3,4,5,6,7,8,9,10,11,17,0,1,2,12,13,14,15,18,16,19],[3,5,11,17,13,18],[]),([3,4,5,17,6,7,8,9,10,11,0,1,2,12,13,14,15,18,16,19],[3,5,17,11,13,18],[]),([3,17,4,5,6,7,8,9,10,11,0,1,2,12,13,14,15,18,16,19],[3,17,5,11,13,18],[]),([17,3,4,5,6,7,8,9,10,11,0,1,2,12,13,14,15,18,16,19],[17,3,5,11,13,18],[])],[3,5,11,13,17,18],[],[0,1,2,3],[1,3,4,5,7,10,13,16]⟩) (by kernel_rfl) (fun p hp R st K r h=> ?_)
 have e:=h
 unfold dd14 at e
 split at e
 ·rename_i x0 x1 x2 x3 x4 x5 x6 x7 x8 x9 x10 x11 x12;simp only[List.mem_cons,List.not_mem_nil,or_false]at hp
  rcases hp with rfl|rfl|rfl|rfl|rfl
  ·exact(s14_0 G n R x0 x1 x2 x3 x4 x5 x6 x7 x8 x9 x10 x11 x12 K).trans h
  ·exact((s14_1 G n R x0 x1 x2 x3 x4 x5 x6 x7 x8 x9 x10 x11 x12 K).trans (e14_1 G n  x0 x1 x2 x3 x4 x5 x6 x7 x8 x9 x10 x11 x12 _)).trans h
  ·exact((s14_2 G n R x0 x1 x2 x3 x4 x5 x6 x7 x8 x9 x10 x11 x12 K).trans (e14_2 G n  x0 x1 x2 x3 x4 x5 x6 x7 x8 x9 x10 x11 x12 _)).trans h
  ·exact((s14_3 G n R x0 x1 x2 x3 x4 x5 x6 x7 x8 x9 x10 x11 x12 K).trans (e14_3 G n  x0 x1 x2 x3 x4 x5 x6 x7 x8 x9 x10 x11 x12 _)).trans h
  ·exact((s14_4 G n R x0 x1 x2 x3 x4 x5 x6 x7 x8 x9 x10 x11 x12 K).trans (e14_4 G n  x0 x1 x2 x3 x4 x5 x6 x7 x8 x9 x10 x11 x12 _)).trans h
 ·cases e
theorem pl12 {G:Gs} (hG:AllE Tryd.prog (ents G)) (n:Nat):∀m,PieceOK Tryd.prog an (.loop q12) (dl12 G n m):=lpc hG (pc G n) [1,3,4,5,7,10,13,16] ⟨[10],[10,11],[(2,[10])]⟩ (apl [(2,14,q14)] ⟨pd14 hG,trivial⟩) (fun R st K=>by unfold dl12;split<;>rfl) fun m R st K r h=>by unfold dl12 at h;split at h;exact .trans (by kernel_rfl) h;cases h
noncomputable def Does (G:Gs) (g:Gr) (labels:List Int) (f:Fm) (path:List Int) (n1:Int) (r:Lasso×Bool):Prop:=∃n,main (R:=AT×List Ob) G n g labels f path n1 (fun r0 r1=>some (.tup [.agg [.l .i (Lasso.states r0),.i (Lasso.back r0)],.one (.b r1)],[]))=some (.tup [.agg [.l .i (Lasso.states r.1),.i (Lasso.back r.1)],.one (.b r.2)],[])
theorem ok {G:Gs} (hG:AllE Tryd.prog (ents G)) {g:Gr->List Int->Fm->List Int->Int->Option (Lasso×Bool)} (hg:∀g_ labels f path n1 r,g g_ labels f path n1=some r->Does G g_ labels f path n1 r):EntOK Tryd.prog (ent g):=fun R xs H K r hc=>by
 simp only[ent]at hc
 split at hc
 ·obtain⟨r,j1,j2⟩:=bind_some hc
  obtain⟨n,j3⟩:=hg _ _ _ _ _ _ j1
  exact⟨_,_,j2,fnP hG an (pc G n) bd [.cell 10 33,.tmp 11] Tryd.func42 (.inl rfl) (apl [(1,5,.loop q5),(1,12,.loop q12)] ⟨pl5 hG n n,⟨pl12 hG n n,trivial⟩⟩) (.trans (by kernel_rfl) j3)⟩
 ·cases hc
end s_l32Try
namespace s_CounterRun
structure Gs where
 s_l32Right:Gr->List Int->Fm->Option (Bool)
 s_l1In:Int->Int->Int->Option (Bool)
 s_l32Try:Gr->List Int->Fm->List Int->Int->Option (Lasso×Bool)
noncomputable def ents (G:Gs):List Ent:=[s_l32Right.ent G.s_l32Right,s_l1In.ent G.s_l1In,s_l32Try.ent G.s_l32Try]
noncomputable def b4 {R:Type} (G:Gs) (n:Nat) (labels:List Int) (most:Int) (h0:List Tm) (h02:List (List Int)) (h03:Bool) (h1:Int) (h12:Int) (h13:List Fm) (h2:Int) (h3:List Int) (i:Int) (nx:Int->Option R) (k0:Bool->Int->List Int->Option R) (k1:Option R):Option R:=
 bif decide (i<(List.length h02:Int))then
  (
  Option.bind (ix h02 i) fun e=>
  bif decide (5<(List.length e:Int))then
   (k0 false 0 [])
  else
   nx (wr (i+1))
  )
 else
  k1
noncomputable def l4 {R:Type} (G:Gs) (n m:Nat) (labels:List Int) (most:Int) (h0:List Tm) (h02:List (List Int)) (h03:Bool) (h1:Int) (h12:Int) (h13:List Fm) (h2:Int) (h3:List Int) (i:Int) (k0:Bool->Int->List Int->Option R) (k1:Option R):Option R:=iter (fun(v:Int) nx=>b4 G n labels most h0 h02 h03 h1 h12 h13 h2 h3 v (fun y0=>nx y0) k0 k1) m i
noncomputable def b9 {R:Type} (G:Gs) (n:Nat) (labels:List Int) (most:Int) (h0:List Tm) (h02:List (List Int)) (h03:Bool) (h1:Int) (h12:Int) (h13:List Fm) (h2:Int) (h3:List Int) (n1:Int) (nx:Int->Option R) (k0:Bool->Int->List Int->Option R) (k1:Option R):Option R:=
 bif decide (n1<=most)then
  (
  Option.bind (G.s_l32Try (Gr.mk h0 h02 h03) labels (Fm.mk h1 h12 h13) [0] n1) fun r=>
  bif r.2 then
   (
   Option.bind (lim ([]++(Lasso.states r.1))) fun zs2=>
   k0 true (Lasso.back r.1) zs2
   )
  else
   nx (wr (n1+1))
  )
 else
  k1
noncomputable def l9 {R:Type} (G:Gs) (n m:Nat) (labels:List Int) (most:Int) (h0:List Tm) (h02:List (List Int)) (h03:Bool) (h1:Int) (h12:Int) (h13:List Fm) (h2:Int) (h3:List Int) (n1:Int) (k0:Bool->Int->List Int->Option R) (k1:Option R):Option R:=iter (fun(v:Int) nx=>b9 G n labels most h0 h02 h03 h1 h12 h13 h2 h3 v (fun y0=>nx y0) k0 k1) m n1
noncomputable def main {R:Type} (G:Gs) (n:Nat) (g:Gr) (labels:List Int) (f:Fm) (most:Int) (K:Lasso->Bool->Option R):Option R:=
 Option.bind (G.s_l32Right g labels (Fm.mk (Fm.kind f) (Fm.prop f) (Fm.kids f))) fun r=>
 bif !r then
  (K (Lasso.mk [] 0) false)
 else
  Option.bind (G.s_l1In most 1 7) fun r2=>
  bif !r2 then
   (K (Lasso.mk [] 0) false)
  else
   l4 G n n labels most (Gr.states g) (Gr.edges g) (Gr.whole g) (Fm.kind f) (Fm.prop f) (Fm.kids f) 0 [] 0
    (fun t9 h04 h14=>K (Lasso.mk h14 h04) t9)
    (
     l9 G n n labels most (Gr.states g) (Gr.edges g) (Gr.whole g) (Fm.kind f) (Fm.prop f) (Fm.kids f) 0 [] 1
      (fun t92 h042 h142=>K (Lasso.mk h142 h042) t92)
      (K (Lasso.mk [] 0) false)
    )
noncomputable def dl4 (G:Gs) (n m:Nat) (R:Type) (st:St) (K:Kt R):Option R:=match st with
 |⟨[(1,.one (.l .i labels)),(3,.one (.i most)),(4,.one (.p 0 0)),(6,.one (.p 1 0)),(8,.one (.p 2 0)),(10,.one (.i i))],[.box [.l (.n 1) h0,.l (.sl .i) h02,.b h03],.box [.i h1,.i h12,.l (.n 2) h13],.box [.o 3,.i h2],.row .i 0 h3]⟩=>l4 G n m labels most h0 h02 h03 h1 h12 h13 h2 h3 i (fun t9 h04 h14=>K .ret ⟨[(8,.one (.p 0 0)),(9,.one (.b t9))],[.box [.o 1,.i h04],.row .i 0 h14]⟩) (K (.exit 0) ⟨[(1,.one (.l .i labels)),(3,.one (.i most)),(4,.one (.p 0 0)),(6,.one (.p 1 0)),(8,.one (.p 2 0))],[.box [.l (.n 1) h0,.l (.sl .i) h02,.b h03],.box [.i h1,.i h12,.l (.n 2) h13],.box [.o 3,.i h2],.row .i 0 h3]⟩)
 |_=>none
noncomputable def dl9 (G:Gs) (n m:Nat) (R:Type) (st:St) (K:Kt R):Option R:=match st with
 |⟨[(1,.one (.l .i labels)),(3,.one (.i most)),(4,.one (.p 0 0)),(6,.one (.p 1 0)),(8,.one (.p 2 0)),(11,.one (.i n1))],[.box [.l (.n 1) h0,.l (.sl .i) h02,.b h03],.box [.i h1,.i h12,.l (.n 2) h13],.box [.o 3,.i h2],.row .i 0 h3]⟩=>l9 G n m labels most h0 h02 h03 h1 h12 h13 h2 h3 n1 (fun t9 h04 h14=>K .ret ⟨[(8,.one (.p 0 0)),(9,.one (.b t9))],[.box [.o 1,.i h04],.row .i 0 h14]⟩) (K (.exit 2) ⟨[(8,.one (.p 0 0))],[.box [.o 1,.i h2],.row .i 0 h3]⟩)
 |_=>none
noncomputable def pc (G:Gs) (n:Nat):Pcs:=⟨fun R id st K=>bif Nat.beq id 4 then dl4 G n n R st K else bif Nat.beq id 9 then dl9 G n n R st K else none,fun _ _ _ _=>none,fun _ _ _ _=>none⟩
noncomputable def an:Ann:=⟨63,0,[(4,[1,3,4,6,8,10]),(9,[1,3,4,6,8,11])],[],[8,9],[(13,⟨[([0,1,2,3,4,5,6,7,8],[0,3,7],[])],[0,3,7],[],[0,1,3,5],[]⟩)],[]⟩
noncomputable abbrev bd:=bodyOf Tryd.f10
noncomputable abbrev q4:=nthC [1,1,0,1,0,0] bd
noncomputable abbrev q9:=nthC [1,1,1,0,1,0,0] bd
theorem pl4 {G:Gs} (hG:AllE Tryd.prog (ents G)) (n:Nat):∀m,PieceOK Tryd.prog an (.loop q4) (dl4 G n m):=lpc hG (pc G n) [1,3,4,6,8,10] ⟨[1,3,4,6,8],[8,9],[(0,[1,3,4,6,8])]⟩ (apl [] trivial) (fun R st K=>by unfold dl4;split<;>rfl) fun m R st K r h=>by unfold dl4 at h;split at h;exact .trans (by kernel_rfl) h;cases h
theorem pl9 {G:Gs} (hG:AllE Tryd.prog (ents G)) (n:Nat):∀m,PieceOK Tryd.prog an (.loop q9) (dl9 G n m):=lpc hG (pc G n) [1,3,4,6,8,11] ⟨[8],[8,9],[(2,[8])]⟩ (apl [] trivial) (fun R st K=>by unfold dl9;split<;>rfl) fun m R st K r h=>by unfold dl9 at h;split at h;exact .trans (by kernel_rfl) h;cases h
noncomputable def Does (G:Gs) (g:Gr) (labels:List Int) (f:Fm) (most:Int) (r:Lasso×Bool):Prop:=∃n,main (R:=AT×List Ob) G n g labels f most (fun r0 r1=>some (.tup [.agg [.l .i (Lasso.states r0),.i (Lasso.back r0)],.one (.b r1)],[]))=some (.tup [.agg [.l .i (Lasso.states r.1),.i (Lasso.back r.1)],.one (.b r.2)],[])
theorem ok {G:Gs} (hG:AllE Tryd.prog (ents G)) {g:Gr->List Int->Fm->Int->Option (Lasso×Bool)} (hg:∀g_ labels f most r,g g_ labels f most=some r->Does G g_ labels f most r):EntOK Tryd.prog (ent g):=fun R xs H K r hc=>by
 simp only[ent]at hc
 split at hc
 ·obtain⟨r,j1,j2⟩:=bind_some hc
  obtain⟨n,j3⟩:=hg _ _ _ _ _ j1
  exact⟨_,_,j2,fnP hG an (pc G n) bd [.cell 8 33,.tmp 9] Tryd.func10 (.inl rfl) (apl [(1,4,.loop q4),(1,9,.loop q9)] ⟨pl4 hG n n,⟨pl9 hG n n,trivial⟩⟩) (.trans (by kernel_rfl) j3)⟩
 ·cases hc
end s_CounterRun
end Go.Proofs.YtjafncnjefnloaaDoor.Den

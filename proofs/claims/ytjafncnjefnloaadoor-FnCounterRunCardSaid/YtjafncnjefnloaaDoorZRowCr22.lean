/-
  Texts that the claim rests on, merged: PS3, TP, Val.
-/
import Derived.Test.YtjafncnjefnloaaDoorZRowCr11
import Derived.Test.YtjafncnjefnloaaDoorZRowCr16
import Derived.Test.YtjafncnjefnloaaDoorZRowCr18
import Derived.Test.YtjafncnjefnloaaDoorZRowCr19
import Derived.Test.YtjafncnjefnloaaDoorZRowCr20
import Derived.Test.YtjafncnjefnloaaDoorZRowCr21

namespace Go.Proofs.YtjafncnjefnloaaDoor.Den
open Go.RowKit
set_option maxRecDepth 100000
set_option linter.unusedVariables false
namespace s_l32At
structure Gs where
 s_l31Text:Fm->Option (ByteArray)
noncomputable def ents (G:Gs):List Ent:=[s_l31Text.ent G.s_l31Text]
noncomputable def b2 {R:Type} (G:Gs) (n:Nat) (list:List Fm) (h0:Int) (h02:Int) (h03:List Fm) (i:Int) (nx:Int->Option R) (k0:Int->Option R) (k1:Option R):Option R:=
 bif decide (i<(List.length list:Int))then
  (
  Option.bind (ix list i) fun e2=>
  Option.bind (G.s_l31Text (Fm.mk (Fm.kind e2) (Fm.prop e2) (Fm.kids e2))) fun r2=>
  Option.bind (G.s_l31Text (Fm.mk h0 h02 h03)) fun r4=>
  bif sEq r2 r4 then
   (k0 i)
  else
   nx (wr (i+1))
  )
 else
  k1
noncomputable def l2 {R:Type} (G:Gs) (n m:Nat) (list:List Fm) (h0:Int) (h02:Int) (h03:List Fm) (i:Int) (k0:Int->Option R) (k1:Option R):Option R:=iter (fun(v:Int) nx=>b2 G n list h0 h02 h03 v (fun y0=>nx y0) k0 k1) m i
noncomputable def main {R:Type} (G:Gs) (n:Nat) (list:List Fm) (f:Fm) (K:Int->Option R):Option R:=
 l2 G n n list (Fm.kind f) (Fm.prop f) (Fm.kids f) 0
  (fun t4=>K t4)
  (K (-1))
noncomputable def dl2 (G:Gs) (n m:Nat) (R:Type) (st:St) (K:Kt R):Option R:=match st with
 |⟨[(0,.one (.l (.n 2) list)),(3,.one (.p 0 0)),(5,.one (.i i))],[.box [.i h0,.i h02,.l (.n 2) h03]]⟩=>l2 G n m list h0 h02 h03 i (fun t4=>K .ret ⟨[(4,.one (.i t4))],[]⟩) (K (.exit 0) ⟨[],[]⟩)
 |_=>none
noncomputable def pc (G:Gs) (n:Nat):Pcs:=⟨fun R id st K=>bif Nat.beq id 2 then dl2 G n n R st K else none,fun _ _ _ _=>none,fun _ _ _ _=>none⟩
noncomputable def an:Ann:=⟨21,0,[(2,[0,3,5])],[],[4],[(4,⟨[([0,1,2,3,4,5,6,7],[],[])],[],[],[0],[]⟩)],[]⟩
noncomputable abbrev bd:=bodyOf Tryd.f88
noncomputable abbrev q2:=nthC [1,0,1,0,0] bd
theorem pl2 {G:Gs} (hG:AllE Tryd.prog (ents G)) (n:Nat):∀m,PieceOK Tryd.prog an (.loop q2) (dl2 G n m):=lpc hG (pc G n) [0,3,5] ⟨[],[4],[(0,[])]⟩ (apl [] trivial) (fun R st K=>by unfold dl2;split<;>rfl) fun m R st K r h=>by unfold dl2 at h;split at h;exact .trans (by kernel_rfl) h;cases h
noncomputable def Does (G:Gs) (list:List Fm) (f:Fm) (r:Int):Prop:=∃n,main (R:=AT×List Ob) G n list f (fun r0=>some (.one (.i r0),[]))=some (.one (.i r),[])
theorem ok {G:Gs} (hG:AllE Tryd.prog (ents G)) {g:List Fm->Fm->Option (Int)} (hg:∀list f r,g list f=some r->Does G list f r):EntOK Tryd.prog (ent g):=fun R xs H K r hc=>by
 simp only[ent]at hc
 split at hc
 ·obtain⟨r,j1,j2⟩:=bind_some hc
  obtain⟨n,j3⟩:=hg _ _ _ j1
  exact⟨_,_,j2,fnP hG an (pc G n) bd [.tmp 4] Tryd.func88 (.inl rfl) (apl [(1,2,.loop q2)] ⟨pl2 hG n n,trivial⟩) (.trans (by kernel_rfl) j3)⟩
 ·cases hc
end s_l32At
namespace s_l32Kids
structure Gs where
 s_l32At:List Fm->Fm->Option (Int)
noncomputable def ents (G:Gs):List Ent:=[s_l32At.ent G.s_l32At]
noncomputable def b7 {R:Type} (G:Gs) (n:Nat) (list:List Fm) (i:Int) (h0:List (List Int)) (j:Int) (h1:List Int) (nx:Int->List Int->Option R) (k0:List Int->Option R):Option R:=
 Option.bind (ix list i) fun e=>
 bif decide (j<(List.length (Fm.kids e):Int))then
  (
  Option.bind (ix list i) fun e2=>
  Option.bind (ix (Fm.kids e2) j) fun e3=>
  Option.bind (G.s_l32At list (Fm.mk (Fm.kind e3) (Fm.prop e3) (Fm.kids e3))) fun r=>
  Option.bind (lim (h1++[r])) fun zs=>
  nx (wr (j+1)) zs
  )
 else
  k0 h1
noncomputable def l7 {R:Type} (G:Gs) (n m:Nat) (list:List Fm) (i:Int) (h0:List (List Int)) (j:Int) (h1:List Int) (k0:List Int->Option R):Option R:=iter (fun(v:Int×List Int) nx=>b7 G n list i h0 v.1 v.2 (fun y0 y1=>nx (y0,y1)) k0) m (j,h1)
noncomputable def b3 {R:Type} (G:Gs) (n:Nat) (list:List Fm) (i:Int) (h0:List (List Int)) (nx:Int->List (List Int)->Option R) (k0:List (List Int)->Option R):Option R:=
 bif decide (i<(List.length list:Int))then
  (
  l7 G n n list i h0 0 []
   (fun h12 =>
    Option.bind (lim (h0++[h12])) fun zs=>
    nx (wr (i+1)) zs
   )
  )
 else
  k0 h0
noncomputable def l3 {R:Type} (G:Gs) (n m:Nat) (list:List Fm) (i:Int) (h0:List (List Int)) (k0:List (List Int)->Option R):Option R:=iter (fun(v:Int×List (List Int)) nx=>b3 G n list v.1 v.2 (fun y0 y1=>nx (y0,y1)) k0) m (i,h0)
noncomputable def main {R:Type} (G:Gs) (n:Nat) (list:List Fm) (K:List (List Int)->Option R):Option R:=
 l3 G n n list 0 []
  (fun h02=>K h02)
noncomputable def dl7 (G:Gs) (n m:Nat) (R:Type) (st:St) (K:Kt R):Option R:=match st with
 |⟨[(0,.one (.l (.n 2) list)),(3,.one (.o 0)),(4,.one (.i i)),(5,.one (.o 1)),(6,.one (.i j))],[.row (.sl .i) 0 h0,.row .i 0 h1]⟩=>l7 G n m list i h0 j h1 (fun h12=>K (.exit 2) ⟨[(0,.one (.l (.n 2) list)),(3,.one (.o 0)),(4,.one (.i i)),(5,.one (.o 1))],[.row (.sl .i) 0 h0,.row .i 0 h12]⟩)
 |_=>none
noncomputable def dl3 (G:Gs) (n m:Nat) (R:Type) (st:St) (K:Kt R):Option R:=match st with
 |⟨[(0,.one (.l (.n 2) list)),(3,.one (.o 0)),(4,.one (.i i))],[.row (.sl .i) 0 h0]⟩=>l3 G n m list i h0 (fun h02=>K (.exit 0) ⟨[(3,.one (.o 0))],[.row (.sl .i) 0 h02]⟩)
 |_=>none
noncomputable def pc (G:Gs) (n:Nat):Pcs:=⟨fun R id st K=>bif Nat.beq id 7 then dl7 G n n R st K else bif Nat.beq id 3 then dl3 G n n R st K else none,fun _ _ _ _=>none,fun _ _ _ _=>none⟩
noncomputable def an:Ann:=⟨43,0,[(7,[0,3,4,5,6]),(3,[0,3,4])],[],[2],[],[]⟩
noncomputable abbrev bd:=bodyOf Tryd.f89
noncomputable abbrev q7:=nthC [1,1,0,1,0,0,1,0,0,1,0,1,0,0] bd
noncomputable abbrev q3:=nthC [1,1,0,1,0,0] bd
theorem pl7 {G:Gs} (hG:AllE Tryd.prog (ents G)) (n:Nat):∀m,PieceOK Tryd.prog an (.loop q7) (dl7 G n m):=lpc hG (pc G n) [0,3,4,5,6] ⟨[0,3,4,5],[2],[(0,[3]),(1,[0,3,4]),(2,[0,3,4,5])]⟩ (apl [] trivial) (fun R st K=>by unfold dl7;split<;>rfl) fun m R st K r h=>by unfold dl7 at h;split at h;exact .trans (by kernel_rfl) h;cases h
theorem pl3 {G:Gs} (hG:AllE Tryd.prog (ents G)) (n:Nat):∀m,PieceOK Tryd.prog an (.loop q3) (dl3 G n m):=lpc hG (pc G n) [0,3,4] ⟨[3],[2],[(0,[3])]⟩ (apl [(1,7,.loop q7)] ⟨pl7 hG n n,trivial⟩) (fun R st K=>by unfold dl3;split<;>rfl) fun m R st K r h=>by unfold dl3 at h;split at h;exact .trans (by kernel_rfl) h;cases h
noncomputable def Does (G:Gs) (list:List Fm) (r:List (List Int)):Prop:=∃n,main (R:=AT×List Ob) G n list (fun r0=>some (.one (.l (.sl .i) r0),[]))=some (.one (.l (.sl .i) r),[])
theorem ok {G:Gs} (hG:AllE Tryd.prog (ents G)) {g:List Fm->Option (List (List Int))} (hg:∀list r,g list=some r->Does G list r):EntOK Tryd.prog (ent g):=fun R xs H K r hc=>by
 simp only[ent]at hc
 split at hc
 ·obtain⟨r,j1,j2⟩:=bind_some hc
  obtain⟨n,j3⟩:=hg _ _ j1
  exact⟨_,_,j2,fnP hG an (pc G n) bd [.tmp 2] Tryd.func89 (.inl rfl) (apl [(1,3,.loop q3)] ⟨pl3 hG n n,trivial⟩) (.trans (by kernel_rfl) j3)⟩
 ·cases hc
end s_l32Kids
namespace s_l2Bit
structure Gs where
 none_:Unit
noncomputable def ents (_:Gs):List Ent:=[]
noncomputable def main {R:Type} (G:Gs) (n:Nat) (k:Int) (K:Int->Option R):Option R:=
 Option.bind (bif decide (0<=(IntKind.wrap .u64 k))then some (Abs.bitsI .shl .i64 1 (IntKind.wrap .u64 k))else none) fun q=>
 K q
noncomputable def pc (_:Gs) (_:Nat):Pcs:=⟨fun _ _ _ _=>none,fun _ _ _ _=>none,fun _ _ _ _=>none⟩
noncomputable def an:Ann:=⟨6,0,[],[],[2],[],[]⟩
noncomputable abbrev bd:=bodyOf Tryd.f111
noncomputable def Does (G:Gs) (k:Int) (r:Int):Prop:=∃n,main (R:=AT×List Ob) G n k (fun r0=>some (.one (.i r0),[]))=some (.one (.i r),[])
theorem ok {G:Gs} (hG:AllE Tryd.prog (ents G)) {g:Int->Option (Int)} (hg:∀k r,g k=some r->Does G k r):EntOK Tryd.prog (ent g):=fun R xs H K r hc=>by
 simp only[ent]at hc
 split at hc
 ·obtain⟨r,j1,j2⟩:=bind_some hc
  obtain⟨n,j3⟩:=hg _ _ j1
  exact⟨_,_,j2,fnP hG an (pc G n) bd [.tmp 2] Tryd.func111 (.inl rfl) (apl [] trivial) (.trans (by kernel_rfl) j3)⟩
 ·cases hc
end s_l2Bit
namespace s_l2Has
structure Gs where
 none_:Unit
noncomputable def ents (_:Gs):List Ent:=[]
noncomputable def main {R:Type} (G:Gs) (n:Nat) (set1:Int) (k:Int) (K:Bool->Option R):Option R:=
 bif decide (0<=k)then
  (
  bif decide (k<16)then
   (
   Option.bind (bif decide (0<=(IntKind.wrap .u64 k))then some (Abs.bitsI .shr .i64 set1 (IntKind.wrap .u64 k))else none) fun q=>
   K (decide ((Abs.bitsI .and .i64 q 1)=1))
   )
  else
   K false
  )
 else
  K false
noncomputable def pc (_:Gs) (_:Nat):Pcs:=⟨fun _ _ _ _=>none,fun _ _ _ _=>none,fun _ _ _ _=>none⟩
noncomputable def an:Ann:=⟨19,0,[],[],[4],[],[]⟩
noncomputable abbrev bd:=bodyOf Tryd.f91
noncomputable def Does (G:Gs) (set1:Int) (k:Int) (r:Bool):Prop:=∃n,main (R:=AT×List Ob) G n set1 k (fun r0=>some (.one (.b r0),[]))=some (.one (.b r),[])
theorem ok {G:Gs} (hG:AllE Tryd.prog (ents G)) {g:Int->Int->Option (Bool)} (hg:∀set1 k r,g set1 k=some r->Does G set1 k r):EntOK Tryd.prog (ent g):=fun R xs H K r hc=>by
 simp only[ent]at hc
 split at hc
 ·obtain⟨r,j1,j2⟩:=bind_some hc
  obtain⟨n,j3⟩:=hg _ _ _ j1
  exact⟨_,_,j2,fnP hG an (pc G n) bd [.tmp 4] Tryd.func91 (.inl rfl) (apl [] trivial) (.trans (by kernel_rfl) j3)⟩
 ·cases hc
end s_l2Has
namespace s_l32Atoms
structure Gs where
 s_l2Bit:Int->Option (Int)
 s_l2Has:Int->Int->Option (Bool)
noncomputable def ents (G:Gs):List Ent:=[s_l2Bit.ent G.s_l2Bit,s_l2Has.ent G.s_l2Has]
noncomputable def b3 {R:Type} (G:Gs) (n:Nat) (list:List Fm) (places:List (List Int)) (label:Int) (i:Int) (h0:List Int) (nx:Int->List Int->Option R) (k0:List Int->Option R):Option R:=
 bif decide (i<(List.length list:Int))then
  (
  Option.bind (ix list i) fun e=>
  bif decide (6<=(Fm.kind e))then
   (
   Option.bind (lim (h0++[i])) fun zs=>
   nx (wr (i+1)) zs
   )
  else
   nx (wr (i+1)) h0
  )
 else
  k0 h0
noncomputable def l3 {R:Type} (G:Gs) (n m:Nat) (list:List Fm) (places:List (List Int)) (label:Int) (i:Int) (h0:List Int) (k0:List Int->Option R):Option R:=iter (fun(v:Int×List Int) nx=>b3 G n list places label v.1 v.2 (fun y0 y1=>nx (y0,y1)) k0) m (i,h0)
noncomputable def b19 {R:Type} (G:Gs) (n:Nat) (list:List Fm) (places:List (List Int)) (label:Int) (k:Int) (set1:Int) (ok:Bool) (i:Int) (h0:List Int) (h1:List Int) (h2:Int) (h22:Int) (h23:List Fm) (j:Int) (h3:List Bool) (nx:Int->List Bool->Option R) (k0:List Bool->Option R):Option R:=
 bif decide (j<(List.length h23:Int))then
  (
  Option.bind (ix places i) fun e=>
  Option.bind (ix e j) fun e2=>
  Option.bind (G.s_l2Has set1 e2) fun r=>
  Option.bind (lim (h3++[r])) fun zs=>
  nx (wr (j+1)) zs
  )
 else
  k0 h3
noncomputable def l19 {R:Type} (G:Gs) (n m:Nat) (list:List Fm) (places:List (List Int)) (label:Int) (k:Int) (set1:Int) (ok:Bool) (i:Int) (h0:List Int) (h1:List Int) (h2:Int) (h22:Int) (h23:List Fm) (j:Int) (h3:List Bool) (k0:List Bool->Option R):Option R:=iter (fun(v:Int×List Bool) nx=>b19 G n list places label k set1 ok i h0 h1 h2 h22 h23 v.1 v.2 (fun y0 y1=>nx (y0,y1)) k0) m (j,h3)
noncomputable def c40 {R:Type} (G:Gs) (n:Nat) (list:List Fm) (places:List (List Int)) (label:Int) (k:Int) (set1:Int) (ok:Bool) (i:Int) (holds:Bool) (h0:List Int) (h1:List Int) (k0:Int->Option R):Option R:=
 bif holds then
  (
  Option.bind (G.s_l2Bit i) fun r=>
  k0 (Abs.bitsI .or .i64 set1 r)
  )
 else
  k0 set1
noncomputable def b25 {R:Type} (G:Gs) (n:Nat) (list:List Fm) (places:List (List Int)) (label:Int) (k:Int) (set1:Int) (ok:Bool) (i:Int) (h0:List Int) (h1:List Int) (h2:Int) (h22:Int) (h23:List Fm) (h3:List Bool) (holds:Bool) (j:Int) (nx:Bool->Int->Option R) (k0:Bool->Option R):Option R:=
 bif decide (j<(List.length h0:Int))then
  (
  bif holds then
   (nx true (wr (j+1)))
  else
   Option.bind (ix h0 j) fun e=>
   bif decide (e=i)then
    (
    Option.bind (G.s_l2Has k j) fun r=>
    nx r (wr (j+1))
    )
   else
    nx false (wr (j+1))
  )
 else
  k0 holds
noncomputable def l25 {R:Type} (G:Gs) (n m:Nat) (list:List Fm) (places:List (List Int)) (label:Int) (k:Int) (set1:Int) (ok:Bool) (i:Int) (h0:List Int) (h1:List Int) (h2:Int) (h22:Int) (h23:List Fm) (h3:List Bool) (holds:Bool) (j:Int) (k0:Bool->Option R):Option R:=iter (fun(v:Bool×Int) nx=>b25 G n list places label k set1 ok i h0 h1 h2 h22 h23 h3 v.1 v.2 (fun y0 y1=>nx (y0,y1)) k0) m (holds,j)
noncomputable def b14 {R : Type} (G : Gs) (n : Nat) (list : List Fm) (places : List (List Int)) (label : Int) (k : Int) (h0 : List Int) (h1 : List Int) (set1 : Int) (ok : Bool) (i : Int) (nx : Int → Bool → Int → Option R) (k0 : Int → Bool → Option R) : Option R :=
 bif decide (i < (List.length list : Int)) then
  (
  Option.bind (ix list i) fun e=>
  l19 G n n list places label k set1 ok i h0 h1 (Fm.kind e) (Fm.prop e) (Fm.kids e) 0 []
   (fun h32 =>
    bif decide ((Fm.kind e)=1)then
     (
     c40 G n list places label k set1 ok i true h0 h1
      (fun set12=>nx set12 ok (wr (i+1)))
     )
    else
     bif decide ((Fm.kind e)=2)then
      (
      Option.bind (G.s_l2Has label (Fm.prop e)) fun r=>
      c40 G n list places label k set1 ok i r h0 h1
       (fun set122=>nx set122 ok (wr (i+1)))
      )
     else
      bif decide ((Fm.kind e)=3)then
       (
       Option.bind (ix h32 0) fun e2=>
       c40 G n list places label k set1 ok i (!e2) h0 h1
        (fun set123=>nx set123 ok (wr (i+1)))
       )
      else
       bif decide ((Fm.kind e)=4)then
        (
        Option.bind (ix h32 0) fun e3=>
        bif e3 then
         (
         Option.bind (ix h32 1) fun e4=>
         c40 G n list places label k set1 ok i e4 h0 h1
          (fun set124=>nx set124 ok (wr (i+1)))
         )
        else
         c40 G n list places label k set1 ok i false h0 h1
          (fun set125=>nx set125 ok (wr (i+1)))
        )
       else
        bif decide ((Fm.kind e)=5)then
         (
         Option.bind (ix h32 0) fun e5=>
         bif e5 then
          (
          c40 G n list places label k set1 ok i true h0 h1
           (fun set126=>nx set126 ok (wr (i+1)))
          )
         else
          Option.bind (ix h32 1) fun e6=>
          c40 G n list places label k set1 ok i e6 h0 h1
           (fun set127=>nx set127 ok (wr (i+1)))
         )
        else
         l25 G n n list places label k set1 ok i h0 h1 (Fm.kind e) (Fm.prop e) (Fm.kids e) h32 false 0
          (fun holds2 =>
           bif decide ((Fm.kind e) = 7) then
            (
            bif ok then
             (
             bif holds2 then
              (
              bif !holds2 then
               (
               c40 G n list places label k set1 true i holds2 h0 h1
                (fun set128=>nx set128 true (wr (i+1)))
               )
              else
               Option.bind (ix h32 1) fun e7=>
               bif e7 then
                (
                c40 G n list places label k set1 true i holds2 h0 h1
                 (fun set129=>nx set129 true (wr (i+1)))
                )
               else
                Option.bind (ix h32 0) fun e8=>
                c40 G n list places label k set1 e8 i holds2 h0 h1
                 (fun set1210=>nx set1210 e8 (wr (i+1)))
              )
             else
              Option.bind (ix h32 1) fun e9=>
              bif !e9 then
               (
               bif !holds2 then
                (
                c40 G n list places label k set1 true i holds2 h0 h1
                 (fun set1211=>nx set1211 true (wr (i+1)))
                )
               else
                Option.bind (ix h32 1) fun e10=>
                bif e10 then
                 (
                 c40 G n list places label k set1 true i holds2 h0 h1
                  (fun set1212=>nx set1212 true (wr (i+1)))
                 )
                else
                 Option.bind (ix h32 0) fun e11=>
                 c40 G n list places label k set1 e11 i holds2 h0 h1
                  (fun set1213=>nx set1213 e11 (wr (i+1)))
               )
              else
               c40 G n list places label k set1 false i holds2 h0 h1
                (fun set1214=>nx set1214 false (wr (i+1)))
             )
            else
             c40 G n list places label k set1 false i holds2 h0 h1
              (fun set1215=>nx set1215 false (wr (i+1)))
            )
           else
            c40 G n list places label k set1 ok i holds2 h0 h1
             (fun set1216=>nx set1216 ok (wr (i+1)))
          )
   )
  )
 else
  k0 set1 ok
noncomputable def l14 {R:Type} (G:Gs) (n m:Nat) (list:List Fm) (places:List (List Int)) (label:Int) (k:Int) (h0:List Int) (h1:List Int) (set1:Int) (ok:Bool) (i:Int) (k0:Int->Bool->Option R):Option R:=iter (fun(v:Int×Bool×Int) nx=>b14 G n list places label k h0 h1 v.1 v.2.1 v.2.2 (fun y0 y1 y2=>nx (y0,y1,y2)) k0) m (set1,ok,i)
noncomputable def b9 {R:Type} (G:Gs) (n:Nat) (list:List Fm) (places:List (List Int)) (label:Int) (h0:List Int) (k:Int) (h1:List Int) (nx:Int->List Int->Option R) (k0:List Int->Option R):Option R:=
 Option.bind (G.s_l2Bit (List.length h0:Int)) fun r=>
 bif decide (k < r) then
  (
  l14 G n n list places label k h0 h1 0 true 0
   (fun set12 ok2 =>
    bif ok2 then
     (
     Option.bind (lim (h1++[set12])) fun zs=>
     nx (wr (k+1)) zs
     )
    else
     nx (wr (k+1)) h1
   )
  )
 else
  k0 h1
noncomputable def l9 {R:Type} (G:Gs) (n m:Nat) (list:List Fm) (places:List (List Int)) (label:Int) (h0:List Int) (k:Int) (h1:List Int) (k0:List Int->Option R):Option R:=iter (fun(v:Int×List Int) nx=>b9 G n list places label h0 v.1 v.2 (fun y0 y1=>nx (y0,y1)) k0) m (k,h1)
noncomputable def main {R:Type} (G:Gs) (n:Nat) (list:List Fm) (places:List (List Int)) (label:Int) (K:List Int->Option R):Option R:=
 l3 G n n list places label 0 []
  (fun h02 =>
   l9 G n n list places label h02 0 []
    (fun h022=>K h022)
  )
noncomputable def dl3 (G:Gs) (n m:Nat) (R:Type) (st:St) (K:Kt R):Option R:=match st with
 |⟨[(0,.one (.l (.n 2) list)),(1,.one (.l (.sl .i) places)),(2,.one (.i label)),(7,.one (.o 0)),(8,.one (.i i))],[.row .i 0 h0]⟩=>l3 G n m list places label i h0 (fun h02=>K (.exit 0) ⟨[(0,.one (.l (.n 2) list)),(1,.one (.l (.sl .i) places)),(2,.one (.i label)),(7,.one (.o 0))],[.row .i 0 h02]⟩)
 |_=>none
noncomputable def dl19 (G:Gs) (n m:Nat) (R:Type) (st:St) (K:Kt R):Option R:=match st with
 |⟨[(0,.one (.l (.n 2) list)),(1,.one (.l (.sl .i) places)),(2,.one (.i label)),(7,.one (.o 0)),(9,.one (.o 1)),(10,.one (.i k)),(11,.one (.i set1)),(12,.one (.b ok)),(13,.one (.i i)),(14,.one (.p 2 0)),(15,.one (.o 3)),(16,.one (.i j))],[.row .i 0 h0,.row .i 0 h1,.box [.i h2,.i h22,.l (.n 2) h23],.row .b 0 h3]⟩=>l19 G n m list places label k set1 ok i h0 h1 h2 h22 h23 j h3 (fun h32=>K (.exit 6) ⟨[(0,.one (.l (.n 2) list)),(1,.one (.l (.sl .i) places)),(2,.one (.i label)),(7,.one (.o 0)),(9,.one (.o 1)),(10,.one (.i k)),(11,.one (.i set1)),(12,.one (.b ok)),(13,.one (.i i)),(14,.one (.p 2 0)),(15,.one (.o 3))],[.row .i 0 h0,.row .i 0 h1,.box [.i h2,.i h22,.l (.n 2) h23],.row .b 0 h32]⟩)
 |_=>none
noncomputable def dc40 (G:Gs) (n:Nat) (R:Type) (st:St) (K:Kt R):Option R:=match st with
 |⟨[(0,.one (.l (.n 2) list)),(1,.one (.l (.sl .i) places)),(2,.one (.i label)),(7,.one (.o 0)),(9,.one (.o 1)),(10,.one (.i k)),(11,.one (.i set1)),(12,.one (.b ok)),(13,.one (.i i)),(17,.one (.b holds))],[.row .i 0 h0,.row .i 0 h1]⟩=>c40 G n list places label k set1 ok i holds h0 h1 (fun set12=>K .normal ⟨[(0,.one (.l (.n 2) list)),(1,.one (.l (.sl .i) places)),(2,.one (.i label)),(7,.one (.o 0)),(9,.one (.o 1)),(10,.one (.i k)),(11,.one (.i set12)),(12,.one (.b ok)),(13,.one (.i i))],[.row .i 0 h0,.row .i 0 h1]⟩)
 |_=>none
noncomputable def dl25 (G:Gs) (n m:Nat) (R:Type) (st:St) (K:Kt R):Option R:=match st with
 |⟨[(0,.one (.l (.n 2) list)),(1,.one (.l (.sl .i) places)),(2,.one (.i label)),(7,.one (.o 0)),(9,.one (.o 1)),(10,.one (.i k)),(11,.one (.i set1)),(12,.one (.b ok)),(13,.one (.i i)),(14,.one (.p 2 0)),(15,.one (.o 3)),(17,.one (.b holds)),(18,.one (.i j))],[.row .i 0 h0,.row .i 0 h1,.box [.i h2,.i h22,.l (.n 2) h23],.row .b 0 h3]⟩=>l25 G n m list places label k set1 ok i h0 h1 h2 h22 h23 h3 holds j (fun holds2=>K (.exit 9) ⟨[(0,.one (.l (.n 2) list)),(1,.one (.l (.sl .i) places)),(2,.one (.i label)),(7,.one (.o 0)),(9,.one (.o 1)),(10,.one (.i k)),(11,.one (.i set1)),(12,.one (.b ok)),(13,.one (.i i)),(14,.one (.p 2 0)),(15,.one (.o 3)),(17,.one (.b holds2))],[.row .i 0 h0,.row .i 0 h1,.box [.i h2,.i h22,.l (.n 2) h23],.row .b 0 h3]⟩)
 |_=>none
noncomputable def dl14 (G:Gs) (n m:Nat) (R:Type) (st:St) (K:Kt R):Option R:=match st with
 |⟨[(0,.one (.l (.n 2) list)),(1,.one (.l (.sl .i) places)),(2,.one (.i label)),(7,.one (.o 0)),(9,.one (.o 1)),(10,.one (.i k)),(11,.one (.i set1)),(12,.one (.b ok)),(13,.one (.i i))],[.row .i 0 h0,.row .i 0 h1]⟩=>l14 G n m list places label k h0 h1 set1 ok i (fun set12 ok2=>K (.exit 4) ⟨[(0,.one (.l (.n 2) list)),(1,.one (.l (.sl .i) places)),(2,.one (.i label)),(7,.one (.o 0)),(9,.one (.o 1)),(10,.one (.i k)),(11,.one (.i set12)),(12,.one (.b ok2))],[.row .i 0 h0,.row .i 0 h1]⟩)
 |_=>none
noncomputable def dl9 (G:Gs) (n m:Nat) (R:Type) (st:St) (K:Kt R):Option R:=match st with
 |⟨[(0,.one (.l (.n 2) list)),(1,.one (.l (.sl .i) places)),(2,.one (.i label)),(7,.one (.o 0)),(9,.one (.o 1)),(10,.one (.i k))],[.row .i 0 h0,.row .i 0 h1]⟩=>l9 G n m list places label h0 k h1 (fun h02=>K (.exit 2) ⟨[(9,.one (.o 0))],[.row .i 0 h02]⟩)
 |_=>none
noncomputable def pc (G:Gs) (n:Nat):Pcs:=⟨fun R id st K=>bif Nat.beq id 3 then dl3 G n n R st K else bif Nat.beq id 19 then dl19 G n n R st K else bif Nat.beq id 25 then dl25 G n n R st K else bif Nat.beq id 14 then dl14 G n n R st K else bif Nat.beq id 9 then dl9 G n n R st K else none,fun R id st K=>bif Nat.beq id 40 then dc40 G n R st K else none,fun _ _ _ _=>none⟩
noncomputable def an:Ann:=⟨168,0,[(3,[0,1,2,7,8]),(19,[0,1,2,7,9,10,11,12,13,14,15,16]),(25,[0,1,2,7,9,10,11,12,13,14,15,17,18]),(14,[0,1,2,7,9,10,11,12,13]),(9,[0,1,2,7,9,10])],[(40,[0,1,2,7,9,10,11,12,13,17])],[6],[],[]⟩
noncomputable abbrev bd:=bodyOf Tryd.f90
noncomputable abbrev q3:=nthC [1,1,0,1,0,0] bd
noncomputable abbrev q19:=nthC [1,1,1,1,0,1,0,0,1,0,0,1,1,0,1,0,0,1,0,0,1,1,0,1,0,0] bd
noncomputable abbrev q40:=nthC [1,1,1,1,0,1,0,0,1,0,0,1,1,0,1,0,0,1,0,0,1,1,1,1,1] bd
noncomputable abbrev q25:=nthC [1,1,1,1,0,1,0,0,1,0,0,1,1,0,1,0,0,1,0,0,1,1,1,1,0,1,0,1,1,1,1,1,1,1,1,1,1,0,1,0,0] bd
noncomputable abbrev q14:=nthC [1,1,1,1,0,1,0,0,1,0,0,1,1,0,1,0,0] bd
noncomputable abbrev q9:=nthC [1,1,1,1,0,1,0,0] bd
theorem pl3 {G:Gs} (hG:AllE Tryd.prog (ents G)) (n:Nat):∀m,PieceOK Tryd.prog an (.loop q3) (dl3 G n m):=lpc hG (pc G n) [0,1,2,7,8] ⟨[0,1,2,7],[6],[(0,[0,1,2,7])]⟩ (apl [] trivial) (fun R st K=>by unfold dl3;split<;>rfl) fun m R st K r h=>by unfold dl3 at h;split at h;exact .trans (by kernel_rfl) h;cases h
theorem pl19 {G:Gs} (hG:AllE Tryd.prog (ents G)) (n:Nat):∀m,PieceOK Tryd.prog an (.loop q19) (dl19 G n m):=lpc hG (pc G n) [0,1,2,7,9,10,11,12,13,14,15,16] ⟨[0,1,2,7,9,10,11,12,13,14,15],[6],[(2,[9]),(3,[0,1,2,7,9,10]),(4,[0,1,2,7,9,10,11,12]),(5,[0,1,2,7,9,10,11,12,13]),(6,[0,1,2,7,9,10,11,12,13,14,15])]⟩ (apl [] trivial) (fun R st K=>by unfold dl19;split<;>rfl) fun m R st K r h=>by unfold dl19 at h;split at h;exact .trans (by kernel_rfl) h;cases h
theorem pc40 {G:Gs} (hG:AllE Tryd.prog (ents G)) {n:Nat}:PieceOK Tryd.prog an q40 (dc40 G n):=cpc hG (pc G n) ⟨[0,1,2,7,9,10,11,12,13],[6],[(2,[9]),(3,[0,1,2,7,9,10]),(4,[0,1,2,7,9,10,11,12]),(5,[0,1,2,7,9,10,11,12,13])]⟩ (apl [] trivial) fun R st K r h=>by unfold dc40 at h;split at h;exact .trans (by kernel_rfl) h;cases h
theorem pl25 {G:Gs} (hG:AllE Tryd.prog (ents G)) (n:Nat):∀m,PieceOK Tryd.prog an (.loop q25) (dl25 G n m):=lpc hG (pc G n) [0,1,2,7,9,10,11,12,13,14,15,17,18] ⟨[0,1,2,7,9,10,11,12,13,14,15,17],[6],[(2,[9]),(3,[0,1,2,7,9,10]),(4,[0,1,2,7,9,10,11,12]),(5,[0,1,2,7,9,10,11,12,13]),(8,[0,1,2,7,9,10,11,12,13,17]),(9,[0,1,2,7,9,10,11,12,13,14,15,17])]⟩ (apl [] trivial) (fun R st K=>by unfold dl25;split<;>rfl) fun m R st K r h=>by unfold dl25 at h;split at h;exact .trans (by kernel_rfl) h;cases h
theorem pl14 {G:Gs} (hG:AllE Tryd.prog (ents G)) (n:Nat):∀m,PieceOK Tryd.prog an (.loop q14) (dl14 G n m):=lpc hG (pc G n) [0,1,2,7,9,10,11,12,13] ⟨[0,1,2,7,9,10,11,12],[6],[(2,[9]),(3,[0,1,2,7,9,10]),(4,[0,1,2,7,9,10,11,12])]⟩ (apl [(1,19,.loop q19),(1,25,.loop q25),(0,40,q40)] ⟨pl19 hG n n,⟨pl25 hG n n,⟨pc40 hG,trivial⟩⟩⟩) (fun R st K=>by unfold dl14;split<;>rfl) fun m R st K r h=>by unfold dl14 at h;split at h;exact .trans (by kernel_rfl) h;cases h
theorem pl9 {G:Gs} (hG:AllE Tryd.prog (ents G)) (n:Nat):∀m,PieceOK Tryd.prog an (.loop q9) (dl9 G n m):=lpc hG (pc G n) [0,1,2,7,9,10] ⟨[9],[6],[(2,[9])]⟩ (apl [(1,14,.loop q14)] ⟨pl14 hG n n,trivial⟩) (fun R st K=>by unfold dl9;split<;>rfl) fun m R st K r h=>by unfold dl9 at h;split at h;exact .trans (by kernel_rfl) h;cases h
noncomputable def Does (G:Gs) (list:List Fm) (places:List (List Int)) (label:Int) (r:List Int):Prop:=∃n,main (R:=AT×List Ob) G n list places label (fun r0=>some (.one (.l .i r0),[]))=some (.one (.l .i r),[])
theorem ok {G:Gs} (hG:AllE Tryd.prog (ents G)) {g:List Fm->List (List Int)->Int->Option (List Int)} (hg:∀list places label r,g list places label=some r->Does G list places label r):EntOK Tryd.prog (ent g):=fun R xs H K r hc=>by
 simp only[ent]at hc
 split at hc
 ·obtain⟨r,j1,j2⟩:=bind_some hc
  obtain⟨n,j3⟩:=hg _ _ _ _ j1
  exact⟨_,_,j2,fnP hG an (pc G n) bd [.tmp 6] Tryd.func90 (.inl rfl) (apl [(1,3,.loop q3),(1,9,.loop q9)] ⟨pl3 hG n n,⟨pl9 hG n n,trivial⟩⟩) (.trans (by kernel_rfl) j3)⟩
 ·cases hc
end s_l32Atoms
namespace s_l32Step
structure Gs where
 s_l2Has:Int->Int->Option (Bool)
noncomputable def ents (G:Gs):List Ent:=[s_l2Has.ent G.s_l2Has]
noncomputable def c7 {R:Type} (G:Gs) (n:Nat) (list:List Fm) (places:List (List Int)) (a:Int) (b:Int) (i:Int) (h0:Int) (h02:Int) (h03:List Fm) (k0:Bool->Option R) (k1:Option R):Option R:=
 bif decide (h0 = 7) then
  (
  Option.bind (G.s_l2Has a i) fun r2=>
  Option.bind (ix places i) fun e2=>
  Option.bind (ix e2 1) fun e4=>
  Option.bind (G.s_l2Has a e4) fun r4=>
  bif r4 then
   (
   bif !(r2==true)then
    (k0 false)
   else
    k1
   )
  else
   Option.bind (ix places i) fun e6=>
   Option.bind (ix e6 0) fun e8=>
   Option.bind (G.s_l2Has a e8) fun r6=>
   bif r6 then
    (
    Option.bind (G.s_l2Has b i) fun r8=>
    bif !(r2==r8)then
     (k0 false)
    else
     k1
    )
   else
    bif !(r2==false)then
     (k0 false)
    else
     k1
  )
 else
  k1
noncomputable def b2 {R:Type} (G:Gs) (n:Nat) (list:List Fm) (places:List (List Int)) (a:Int) (b:Int) (i:Int) (nx:Int->Option R) (k0:Bool->Option R) (k1:Option R):Option R:=
 bif decide (i < (List.length list : Int)) then
  (
  Option.bind (ix list i) fun e=>
  bif decide ((Fm.kind e)=6)then
   (
   Option.bind (G.s_l2Has a i) fun r2=>
   Option.bind (ix places i) fun e3=>
   Option.bind (ix e3 0) fun e5=>
   Option.bind (G.s_l2Has b e5) fun r4=>
   bif !(r2==r4)then
    (k0 false)
   else
    c7 G n list places a b i (Fm.kind e) (Fm.prop e) (Fm.kids e)
     (fun t8=>k0 t8)
     (nx (wr (i+1)))
   )
  else
   c7 G n list places a b i (Fm.kind e) (Fm.prop e) (Fm.kids e)
    (fun t82=>k0 t82)
    (nx (wr (i+1)))
  )
 else
  k1
noncomputable def l2 {R:Type} (G:Gs) (n m:Nat) (list:List Fm) (places:List (List Int)) (a:Int) (b:Int) (i:Int) (k0:Bool->Option R) (k1:Option R):Option R:=iter (fun(v:Int) nx=>b2 G n list places a b v (fun y0=>nx y0) k0 k1) m i
noncomputable def main {R:Type} (G:Gs) (n:Nat) (list:List Fm) (places:List (List Int)) (a:Int) (b:Int) (K:Bool->Option R):Option R:=
 l2 G n n list places a b 0
  (fun t8=>K t8)
  (K true)
noncomputable def dc7 (G:Gs) (n:Nat) (R:Type) (st:St) (K:Kt R):Option R:=match st with
 |⟨[(0,.one (.l (.n 2) list)),(1,.one (.l (.sl .i) places)),(2,.one (.i a)),(3,.one (.i b)),(9,.one (.i i)),(10,.one (.p 0 0))],[.box [.i h0,.i h02,.l (.n 2) h03]]⟩=>c7 G n list places a b i h0 h02 h03 (fun t8=>K .ret ⟨[(8,.one (.b t8))],[]⟩) (K .normal ⟨[(0,.one (.l (.n 2) list)),(1,.one (.l (.sl .i) places)),(2,.one (.i a)),(3,.one (.i b)),(9,.one (.i i))],[]⟩)
 |_=>none
noncomputable def dl2 (G:Gs) (n m:Nat) (R:Type) (st:St) (K:Kt R):Option R:=match st with
 |⟨[(0,.one (.l (.n 2) list)),(1,.one (.l (.sl .i) places)),(2,.one (.i a)),(3,.one (.i b)),(9,.one (.i i))],[]⟩=>l2 G n m list places a b i (fun t8=>K .ret ⟨[(8,.one (.b t8))],[]⟩) (K (.exit 0) ⟨[],[]⟩)
 |_=>none
noncomputable def pc (G:Gs) (n:Nat):Pcs:=⟨fun R id st K=>bif Nat.beq id 2 then dl2 G n n R st K else none,fun R id st K=>bif Nat.beq id 7 then dc7 G n R st K else none,fun _ _ _ _=>none⟩
noncomputable def an:Ann:=⟨70,0,[(2,[0,1,2,3,9])],[(7,[0,1,2,3,9,10])],[8],[(5,⟨[([0,1,2,3,4,5,6,7,8,9,10,11,12,13,14,15,16],[],[])],[],[],[0],[]⟩),(7,⟨[([0,1,2,3,4,5,6,7,8,9,10,11,12,13,14,15,16,17,18,19,20,21,22,23,24,25,26,27,28,29,30,31],[],[])],[],[],[0],[]⟩)],[]⟩
noncomputable abbrev bd:=bodyOf Tryd.f92
noncomputable abbrev q7:=nthC [1,0,1,0,0,1,0,0,1,1] bd
noncomputable abbrev q2:=nthC [1,0,1,0,0] bd
theorem pc7 {G:Gs} (hG:AllE Tryd.prog (ents G)) {n:Nat}:PieceOK Tryd.prog an q7 (dc7 G n):=cpc hG (pc G n) ⟨[0,1,2,3,9],[8],[(0,[]),(1,[0,1,2,3,9])]⟩ (apl [] trivial) fun R st K r h=>by unfold dc7 at h;split at h;exact .trans (by kernel_rfl) h;cases h
theorem pl2 {G:Gs} (hG:AllE Tryd.prog (ents G)) (n:Nat):∀m,PieceOK Tryd.prog an (.loop q2) (dl2 G n m):=lpc hG (pc G n) [0,1,2,3,9] ⟨[],[8],[(0,[])]⟩ (apl [(0,7,q7)] ⟨pc7 hG,trivial⟩) (fun R st K=>by unfold dl2;split<;>rfl) fun m R st K r h=>by unfold dl2 at h;split at h;exact .trans (by kernel_rfl) h;cases h
noncomputable def Does (G:Gs) (list:List Fm) (places:List (List Int)) (a:Int) (b:Int) (r:Bool):Prop:=∃n,main (R:=AT×List Ob) G n list places a b (fun r0=>some (.one (.b r0),[]))=some (.one (.b r),[])
theorem ok {G:Gs} (hG:AllE Tryd.prog (ents G)) {g:List Fm->List (List Int)->Int->Int->Option (Bool)} (hg:∀list places a b r,g list places a b=some r->Does G list places a b r):EntOK Tryd.prog (ent g):=fun R xs H K r hc=>by
 simp only[ent]at hc
 split at hc
 ·obtain⟨r,j1,j2⟩:=bind_some hc
  obtain⟨n,j3⟩:=hg _ _ _ _ _ j1
  exact⟨_,_,j2,fnP hG an (pc G n) bd [.tmp 8] Tryd.func92 (.inl rfl) (apl [(1,2,.loop q2)] ⟨pl2 hG n n,trivial⟩) (.trans (by kernel_rfl) j3)⟩
 ·cases hc
end s_l32Step
namespace s_l32Reach
structure Gs where
 none_:Unit
noncomputable def b7 {R:Type} (G:Gs) (n:Nat) (next1:List (List Int)) (i:Int) (k:Int) (h0:List Bool) (h1:List Int) (nx:Int->List Bool->List Int->Option R) (k0:List Bool->List Int->Option R):Option R:=
 Option.bind (ix h1 i) fun e=>
 Option.bind (ix next1 e) fun e2=>
 bif decide (k<(List.length e2:Int))then
  (
  Option.bind (ix h1 i) fun e3=>
  Option.bind (ix next1 e3) fun e4=>
  Option.bind (ix e4 k) fun e5=>
  Option.bind (ix h0 e5) fun e6=>
  bif !e6 then
   (
   Option.bind (ix h0 e5) fun e7=>
   Option.bind (lim (h1++[e5])) fun zs=>
   nx (wr (k+1)) (List.set h0 (Int.toNat e5) true) zs
   )
  else
   nx (wr (k+1)) h0 h1
  )
 else
  k0 h0 h1
noncomputable def l7 {R:Type} (G:Gs) (n m:Nat) (next1:List (List Int)) (i:Int) (k:Int) (h0:List Bool) (h1:List Int) (k0:List Bool->List Int->Option R):Option R:=iter (fun(v:Int×List Bool×List Int) nx=>b7 G n next1 i v.1 v.2.1 v.2.2 (fun y0 y1 y2=>nx (y0,y1,y2)) k0) m (k,h0,h1)
noncomputable def b4 {R:Type} (G:Gs) (n:Nat) (next1:List (List Int)) (i:Int) (h0:List Bool) (h1:List Int) (nx:Int->List Bool->List Int->Option R) (k0:List Bool->Option R):Option R:=
 bif decide (i<(List.length h1:Int))then
  (
  l7 G n n next1 i 0 h0 h1
   (fun h02 h12=>nx (wr (i+1)) h02 h12)
  )
 else
  k0 h0
noncomputable def l4 {R:Type} (G:Gs) (n m:Nat) (next1:List (List Int)) (i:Int) (h0:List Bool) (h1:List Int) (k0:List Bool->Option R):Option R:=iter (fun(v:Int×List Bool×List Int) nx=>b4 G n next1 v.1 v.2.1 v.2.2 (fun y0 y1 y2=>nx (y0,y1,y2)) k0) m (i,h0,h1)
noncomputable def dl7 (G:Gs) (n m:Nat) (R:Type) (st:St) (K:Kt R):Option R:=match st with
 |⟨[(0,.one (.l (.sl .i) next1)),(5,.one (.o 0)),(6,.one (.o 1)),(7,.one (.i i)),(8,.one (.i k))],[.row .b 0 h0,.row .i 0 h1]⟩=>l7 G n m next1 i k h0 h1 (fun h02 h12=>K (.exit 2) ⟨[(0,.one (.l (.sl .i) next1)),(5,.one (.o 0)),(6,.one (.o 1)),(7,.one (.i i))],[.row .b 0 h02,.row .i 0 h12]⟩)
 |_=>none
noncomputable def dl4 (G:Gs) (n m:Nat) (R:Type) (st:St) (K:Kt R):Option R:=match st with
 |⟨[(0,.one (.l (.sl .i) next1)),(5,.one (.o 0)),(6,.one (.o 1)),(7,.one (.i i))],[.row .b 0 h0,.row .i 0 h1]⟩=>l4 G n m next1 i h0 h1 (fun h02=>K (.exit 0) ⟨[(5,.one (.o 0))],[.row .b 0 h02]⟩)
 |_=>none
noncomputable abbrev bd:=bodyOf Tryd.f93
noncomputable abbrev q7:=nthC [1,1,1,0,1,0,0,1,0,0,1,0,0] bd
noncomputable abbrev q4:=nthC [1,1,1,0,1,0,0] bd
end s_l32Reach
namespace s_l32Reach_o
structure Gs where
 none_:Unit
noncomputable def ents (_:Gs):List Ent:=[]
noncomputable def b7 {R:Type} (G:Gs) (n:Nat) (next1:List (List Int)) (i:Int) (k:Int) (h0:List Bool) (h1:List Int) (nx:Int->List Bool->List Int->Option R) (k0:List Bool->List Int->Option R):Option R:=
 Option.bind (ix h1 i) fun e=>
 Option.bind (ix next1 e) fun e2=>
 bif decide (k<(List.length e2:Int))then
  (
  Option.bind (ix h1 i) fun e3=>
  Option.bind (ix next1 e3) fun e4=>
  Option.bind (ix e4 k) fun e5=>
  Option.bind (ix h0 e5) fun e6=>
  bif !e6 then
   (
   Option.bind (ix h0 e5) fun e7=>
   Option.bind (lim (h1++[e5])) fun zs=>
   nx (wr (k+1)) (List.set h0 (Int.toNat e5) true) zs
   )
  else
   nx (wr (k+1)) h0 h1
  )
 else
  k0 h0 h1
noncomputable def l7 {R:Type} (G:Gs) (n m:Nat) (next1:List (List Int)) (i:Int) (k:Int) (h0:List Bool) (h1:List Int) (k0:List Bool->List Int->Option R):Option R:=iter (fun(v:Int×List Bool×List Int) nx=>b7 G n next1 i v.1 v.2.1 v.2.2 (fun y0 y1 y2=>nx (y0,y1,y2)) k0) m (k,h0,h1)
noncomputable def b4 {R:Type} (G:Gs) (n:Nat) (next1:List (List Int)) (i:Int) (h0:List Bool) (h1:List Int) (nx:Int->List Bool->List Int->Option R) (k0:List Bool->Option R):Option R:=
 bif decide (i<(List.length h1:Int))then
  (
  l7 G n n next1 i 0 h0 h1
   (fun h02 h12=>nx (wr (i+1)) h02 h12)
  )
 else
  k0 h0
noncomputable def l4 {R:Type} (G:Gs) (n m:Nat) (next1:List (List Int)) (i:Int) (h0:List Bool) (h1:List Int) (k0:List Bool->Option R):Option R:=iter (fun(v:Int×List Bool×List Int) nx=>b4 G n next1 v.1 v.2.1 v.2.2 (fun y0 y1 y2=>nx (y0,y1,y2)) k0) m (i,h0,h1)
noncomputable def main {R:Type} (G:Gs) (n:Nat) (next1:List (List Int)) (from1:List Int) (K:List Bool->Option R):Option R:=
 Option.bind (mk (α:=Bool) false (List.length next1:Int)) fun xs=>
 Option.bind (lim ([]++from1)) fun zs=>
 l4 G n n next1 0 xs zs
  (fun h02=>K h02)
noncomputable def dl7 (G:Gs) (n m:Nat) (R:Type) (st:St) (K:Kt R):Option R:=match st with
 |⟨[(0,.one (.l (.sl .i) next1)),(5,.one (.o 0)),(6,.one (.o 1)),(7,.one (.i i)),(8,.one (.i k))],[.row .b 0 h0,.row .i 0 h1]⟩=>l7 G n m next1 i k h0 h1 (fun h02 h12=>K (.exit 2) ⟨[(0,.one (.l (.sl .i) next1)),(5,.one (.o 0)),(6,.one (.o 1)),(7,.one (.i i))],[.row .b 0 h02,.row .i 0 h12]⟩)
 |_=>none
noncomputable def dl4 (G:Gs) (n m:Nat) (R:Type) (st:St) (K:Kt R):Option R:=match st with
 |⟨[(0,.one (.l (.sl .i) next1)),(5,.one (.o 0)),(6,.one (.o 1)),(7,.one (.i i))],[.row .b 0 h0,.row .i 0 h1]⟩=>l4 G n m next1 i h0 h1 (fun h02=>K (.exit 0) ⟨[(5,.one (.o 0))],[.row .b 0 h02]⟩)
 |_=>none
noncomputable def pc (G:Gs) (n:Nat):Pcs:=⟨fun R id st K=>bif Nat.beq id 7 then dl7 G n n R st K else bif Nat.beq id 4 then dl4 G n n R st K else none,fun _ _ _ _=>none,fun _ _ _ _=>none⟩
noncomputable def an:Ann:=⟨57,0,[(7,[0,5,6,7,8]),(4,[0,5,6,7])],[],[4],[],[]⟩
noncomputable abbrev bd:=bodyOf Tryd.f93
noncomputable abbrev q7:=nthC [1,1,1,0,1,0,0,1,0,0,1,0,0] bd
noncomputable abbrev q4:=nthC [1,1,1,0,1,0,0] bd
theorem pl7 {G:Gs} (hG:AllE Tryd.prog (ents G)) (n:Nat):∀m,PieceOK Tryd.prog an (.loop q7) (dl7 G n m):=lpc hG (pc G n) [0,5,6,7,8] ⟨[0,5,6,7],[4],[(0,[5]),(1,[0,5,6,7]),(2,[0,5,6,7])]⟩ (apl [] trivial) (fun R st K=>by unfold dl7;split<;>rfl) fun m R st K r h=>by unfold dl7 at h;split at h;exact .trans (by kernel_rfl) h;cases h
theorem pl4 {G:Gs} (hG:AllE Tryd.prog (ents G)) (n:Nat):∀m,PieceOK Tryd.prog an (.loop q4) (dl4 G n m):=lpc hG (pc G n) [0,5,6,7] ⟨[5],[4],[(0,[5])]⟩ (apl [(1,7,.loop q7)] ⟨pl7 hG n n,trivial⟩) (fun R st K=>by unfold dl4;split<;>rfl) fun m R st K r h=>by unfold dl4 at h;split at h;exact .trans (by kernel_rfl) h;cases h
noncomputable def Does (G:Gs) (next1:List (List Int)) (from1:List Int) (r:List Bool):Prop:=∃n,main (R:=AT×List Ob) G n next1 from1 (fun r0=>some (.one (.o 0),[.row .b 0 r0]))=some (.one (.o 0),[.row .b 0 r])
theorem ok {G:Gs} (hG:AllE Tryd.prog (ents G)) {g:List (List Int)->List Int->Option (List Bool)} (hg:∀next1 from1 r,g next1 from1=some r->Does G next1 from1 r):EntOK Tryd.prog (ent g):=fun R xs H K r hc=>by
 simp only[ent]at hc
 split at hc
 ·obtain⟨r,j1,j2⟩:=bind_some hc
  obtain⟨n,j3⟩:=hg _ _ _ j1
  exact⟨_,_,j2,fnP hG an (pc G n) bd [.tmp 4] Tryd.func93 (.inr rfl) (apl [(1,4,.loop q4)] ⟨pl4 hG n n,trivial⟩) (.trans (by kernel_rfl) j3)⟩
 ·cases hc
end s_l32Reach_o
namespace s_l32Fair
structure Gs where
 s_l2Has:Int->Int->Option (Bool)
noncomputable def ents (G:Gs):List Ent:=[s_l2Has.ent G.s_l2Has]
noncomputable def c12 {R:Type} (G:Gs) (n:Nat) (nodes:List Nd) (far:List (List Bool)) (list:List Fm) (places:List (List Int)) (k:Int) (i:Int) (j:Int) (good:Bool) (k0:Bool->Option R):Option R:=
 bif good then
  (
  Option.bind (ix far k) fun e=>
  Option.bind (ix e j) fun e2=>
  bif e2 then
   (
   Option.bind (ix far j) fun e3=>
   Option.bind (ix e3 k) fun e4=>
   k0 e4
   )
  else
   k0 false
  )
 else
  k0 false
noncomputable def b9 {R:Type} (G:Gs) (n:Nat) (nodes:List Nd) (far:List (List Bool)) (list:List Fm) (places:List (List Int)) (k:Int) (i:Int) (met:Bool) (j:Int) (nx:Bool->Int->Option R) (k0:Bool->Option R):Option R:=
 bif decide (j < (List.length nodes : Int)) then
  (
  bif !met then
   (
   Option.bind (ix nodes j) fun e2=>
   Option.bind (G.s_l2Has (Nd.set e2) i) fun r2=>
   bif !r2 then
    (
    c12 G n nodes far list places k i j true
     (fun met2=>nx met2 (wr (j+1)))
    )
   else
    Option.bind (ix nodes j) fun e4=>
    Option.bind (ix places i) fun e6=>
    Option.bind (ix e6 1) fun e8=>
    Option.bind (G.s_l2Has (Nd.set e4) e8) fun r4=>
    c12 G n nodes far list places k i j r4
     (fun met3=>nx met3 (wr (j+1)))
   )
  else
   k0 met
  )
 else
  k0 met
noncomputable def l9 {R:Type} (G:Gs) (n m:Nat) (nodes:List Nd) (far:List (List Bool)) (list:List Fm) (places:List (List Int)) (k:Int) (i:Int) (met:Bool) (j:Int) (k0:Bool->Option R):Option R:=iter (fun(v:Bool×Int) nx=>b9 G n nodes far list places k i v.1 v.2 (fun y0 y1=>nx (y0,y1)) k0) m (met,j)
noncomputable def b4 {R:Type} (G:Gs) (n:Nat) (nodes:List Nd) (far:List (List Bool)) (list:List Fm) (places:List (List Int)) (k:Int) (i:Int) (nx:Int->Option R) (k0:Bool->Option R) (k1:Option R):Option R:=
 bif decide (i < (List.length list : Int)) then
  (
  Option.bind (ix list i) fun e=>
  bif !decide ((Fm.kind e)=7)then
   (nx (wr (i+1)))
  else
   l9 G n n nodes far list places k i false 0
    (fun met2 =>
     bif !met2 then
      (k0 false)
     else
      nx (wr (i+1))
    )
  )
 else
  k1
noncomputable def l4 {R:Type} (G:Gs) (n m:Nat) (nodes:List Nd) (far:List (List Bool)) (list:List Fm) (places:List (List Int)) (k:Int) (i:Int) (k0:Bool->Option R) (k1:Option R):Option R:=iter (fun(v:Int) nx=>b4 G n nodes far list places k v (fun y0=>nx y0) k0 k1) m i
noncomputable def main {R:Type} (G:Gs) (n:Nat) (nodes:List Nd) (far:List (List Bool)) (list:List Fm) (places:List (List Int)) (k:Int) (K:Bool->Option R):Option R:=
 Option.bind (ix far k) fun e=>
 Option.bind (ix e k) fun e2=>
 bif !e2 then
  (K false)
 else
  l4 G n n nodes far list places k 0
   (fun t10=>K t10)
   (K true)
noncomputable def dc12 (G:Gs) (n:Nat) (R:Type) (st:St) (K:Kt R):Option R:=match st with
 |⟨[(0,.one (.l (.n 4) nodes)),(1,.one (.l (.sl .b) far)),(2,.one (.l (.n 2) list)),(3,.one (.l (.sl .i) places)),(4,.one (.i k)),(11,.one (.i i)),(13,.one (.i j)),(14,.one (.b good))],[]⟩=>c12 G n nodes far list places k i j good (fun met=>K .normal ⟨[(0,.one (.l (.n 4) nodes)),(1,.one (.l (.sl .b) far)),(2,.one (.l (.n 2) list)),(3,.one (.l (.sl .i) places)),(4,.one (.i k)),(11,.one (.i i)),(12,.one (.b met)),(13,.one (.i j))],[]⟩)
 |_=>none
noncomputable def dl9 (G:Gs) (n m:Nat) (R:Type) (st:St) (K:Kt R):Option R:=match st with
 |⟨[(0,.one (.l (.n 4) nodes)),(1,.one (.l (.sl .b) far)),(2,.one (.l (.n 2) list)),(3,.one (.l (.sl .i) places)),(4,.one (.i k)),(11,.one (.i i)),(12,.one (.b met)),(13,.one (.i j))],[]⟩=>l9 G n m nodes far list places k i met j (fun met2=>K (.exit 2) ⟨[(0,.one (.l (.n 4) nodes)),(1,.one (.l (.sl .b) far)),(2,.one (.l (.n 2) list)),(3,.one (.l (.sl .i) places)),(4,.one (.i k)),(11,.one (.i i)),(12,.one (.b met2))],[]⟩)
 |_=>none
noncomputable def dl4 (G:Gs) (n m:Nat) (R:Type) (st:St) (K:Kt R):Option R:=match st with
 |⟨[(0,.one (.l (.n 4) nodes)),(1,.one (.l (.sl .b) far)),(2,.one (.l (.n 2) list)),(3,.one (.l (.sl .i) places)),(4,.one (.i k)),(11,.one (.i i))],[]⟩=>l4 G n m nodes far list places k i (fun t10=>K .ret ⟨[(10,.one (.b t10))],[]⟩) (K (.exit 0) ⟨[],[]⟩)
 |_=>none
noncomputable def pc (G:Gs) (n:Nat):Pcs:=⟨fun R id st K=>bif Nat.beq id 9 then dl9 G n n R st K else bif Nat.beq id 4 then dl4 G n n R st K else none,fun R id st K=>bif Nat.beq id 12 then dc12 G n R st K else none,fun _ _ _ _=>none⟩
noncomputable def an:Ann:=⟨88,0,[(9,[0,1,2,3,4,11,12,13]),(4,[0,1,2,3,4,11])],[(12,[0,1,2,3,4,11,13,14])],[10],[(11,⟨[([0,1,2,3,4,5,6,7,8,9,10,11,12,13,14,15,16,17,18,19,20,21,22],[],[])],[],[],[],[]⟩)],[]⟩
noncomputable abbrev bd:=bodyOf Tryd.f94
noncomputable abbrev q12:=nthC [1,1,0,1,0,0,1,0,0,1,1,0,1,0,0,1,0,0,1] bd
noncomputable abbrev q9:=nthC [1,1,0,1,0,0,1,0,0,1,1,0,1,0,0] bd
noncomputable abbrev q4:=nthC [1,1,0,1,0,0] bd
theorem pc12 {G:Gs} (hG:AllE Tryd.prog (ents G)) {n:Nat}:PieceOK Tryd.prog an q12 (dc12 G n):=cpc hG (pc G n) ⟨[0,1,2,3,4,11,12,13],[10],[(0,[]),(1,[0,1,2,3,4,11]),(2,[0,1,2,3,4,11,12]),(3,[0,1,2,3,4,11,12,13])]⟩ (apl [] trivial) fun R st K r h=>by unfold dc12 at h;split at h;exact .trans (by kernel_rfl) h;cases h
theorem pl9 {G:Gs} (hG:AllE Tryd.prog (ents G)) (n:Nat):∀m,PieceOK Tryd.prog an (.loop q9) (dl9 G n m):=lpc hG (pc G n) [0,1,2,3,4,11,12,13] ⟨[0,1,2,3,4,11,12],[10],[(0,[]),(1,[0,1,2,3,4,11]),(2,[0,1,2,3,4,11,12])]⟩ (apl [(0,12,q12)] ⟨pc12 hG,trivial⟩) (fun R st K=>by unfold dl9;split<;>rfl) fun m R st K r h=>by unfold dl9 at h;split at h;exact .trans (by kernel_rfl) h;cases h
theorem pl4 {G:Gs} (hG:AllE Tryd.prog (ents G)) (n:Nat):∀m,PieceOK Tryd.prog an (.loop q4) (dl4 G n m):=lpc hG (pc G n) [0,1,2,3,4,11] ⟨[],[10],[(0,[])]⟩ (apl [(1,9,.loop q9)] ⟨pl9 hG n n,trivial⟩) (fun R st K=>by unfold dl4;split<;>rfl) fun m R st K r h=>by unfold dl4 at h;split at h;exact .trans (by kernel_rfl) h;cases h
noncomputable def Does (G:Gs) (nodes:List Nd) (far:List (List Bool)) (list:List Fm) (places:List (List Int)) (k:Int) (r:Bool):Prop:=∃n,main (R:=AT×List Ob) G n nodes far list places k (fun r0=>some (.one (.b r0),[]))=some (.one (.b r),[])
theorem ok {G:Gs} (hG:AllE Tryd.prog (ents G)) {g:List Nd->List (List Bool)->List Fm->List (List Int)->Int->Option (Bool)} (hg:∀nodes far list places k r,g nodes far list places k=some r->Does G nodes far list places k r):EntOK Tryd.prog (ent g):=fun R xs H K r hc=>by
 simp only[ent]at hc
 split at hc
 ·obtain⟨r,j1,j2⟩:=bind_some hc
  obtain⟨n,j3⟩:=hg _ _ _ _ _ _ j1
  exact⟨_,_,j2,fnP hG an (pc G n) bd [.tmp 10] Tryd.func94 (.inl rfl) (apl [(1,4,.loop q4)] ⟨pl4 hG n n,trivial⟩) (.trans (by kernel_rfl) j3)⟩
 ·cases hc
end s_l32Fair
namespace s_l32Runs
structure Gs where
 s_l32List:Fm->List Fm->Option (List Fm)
 s_l32At:List Fm->Fm->Option (Int)
 s_l32Kids:List Fm->Option (List (List Int))
 s_l32Atoms:List Fm->List (List Int)->Int->Option (List Int)
 s_l2Has:Int->Int->Option (Bool)
 s_l32Edges:Gr->Int->Option (List Int)
 s_l1HasInt:List Int->Int->Option (Bool)
 s_l32Step:List Fm->List (List Int)->Int->Int->Option (Bool)
 s_l32Reach_o:List (List Int)->List Int->Option (List Bool)
 s_l32Fair:List Nd->List (List Bool)->List Fm->List (List Int)->Int->Option (Bool)
noncomputable def ents (G:Gs):List Ent:=[s_l32List.ent G.s_l32List,s_l32At.ent G.s_l32At,s_l32Kids.ent G.s_l32Kids,s_l32Atoms.ent G.s_l32Atoms,s_l2Has.ent G.s_l2Has,s_l32Edges.ent G.s_l32Edges,s_l1HasInt.ent G.s_l1HasInt,s_l32Step.ent G.s_l32Step,s_l32Reach_o.ent G.s_l32Reach_o,s_l32Fair.ent G.s_l32Fair]
noncomputable def c15 {R:Type} (G:Gs) (n:Nat) (labels:List Int) (list:List Fm) (top:Int) (places:List (List Int)) (i:Int) (sets:List Int) (k:Int) (h0:List Tm) (h02:List (List Int)) (h03:Bool) (h1:List Nd) (h2:List Int) (k0:List Nd->Option R):Option R:=
 Option.bind (ix sets k) fun e=>
 Option.bind (lim (h1++[(Nd.mk i e)])) fun zs=>
 k0 zs
noncomputable def b11 {R:Type} (G:Gs) (n:Nat) (labels:List Int) (list:List Fm) (top:Int) (places:List (List Int)) (i:Int) (sets:List Int) (h0:List Tm) (h02:List (List Int)) (h03:Bool) (k:Int) (h1:List Nd) (h2:List Int) (nx:Int->List Nd->List Int->Option R) (k0:List Nd->List Int->Option R):Option R:=
 bif decide (k < (List.length sets : Int)) then
  (
  bif decide (i=0)then
   (
   Option.bind (ix sets k) fun e=>
   Option.bind (G.s_l2Has e top) fun r=>
   bif r then
    (
    Option.bind (lim (h2++[(List.length h1:Int)])) fun zs=>
    c15 G n labels list top places i sets k h0 h02 h03 h1 zs
     (fun h12=>nx (wr (k+1)) h12 zs)
    )
   else
    c15 G n labels list top places i sets k h0 h02 h03 h1 h2
     (fun h122=>nx (wr (k+1)) h122 h2)
   )
  else
   c15 G n labels list top places i sets k h0 h02 h03 h1 h2
    (fun h123=>nx (wr (k+1)) h123 h2)
  )
 else
  k0 h1 h2
noncomputable def l11 {R:Type} (G:Gs) (n m:Nat) (labels:List Int) (list:List Fm) (top:Int) (places:List (List Int)) (i:Int) (sets:List Int) (h0:List Tm) (h02:List (List Int)) (h03:Bool) (k:Int) (h1:List Nd) (h2:List Int) (k0:List Nd->List Int->Option R):Option R:=iter (fun(v:Int×List Nd×List Int) nx=>b11 G n labels list top places i sets h0 h02 h03 v.1 v.2.1 v.2.2 (fun y0 y1 y2=>nx (y0,y1,y2)) k0) m (k,h1,h2)
noncomputable def b7 {R:Type} (G:Gs) (n:Nat) (labels:List Int) (list:List Fm) (top:Int) (places:List (List Int)) (h0:List Tm) (h02:List (List Int)) (h03:Bool) (i:Int) (h1:List Nd) (h2:List Int) (nx:Int->List Nd->List Int->Option R) (k0:List Nd->List Int->Option R):Option R:=
 bif decide (i<(List.length h0:Int))then
  (
  Option.bind (ix labels i) fun e=>
  Option.bind (G.s_l32Atoms list places e) fun r=>
  l11 G n n labels list top places i r h0 h02 h03 0 h1 h2
   (fun h12 h22=>nx (wr (i+1)) h12 h22)
  )
 else
  k0 h1 h2
noncomputable def l7 {R:Type} (G:Gs) (n m:Nat) (labels:List Int) (list:List Fm) (top:Int) (places:List (List Int)) (h0:List Tm) (h02:List (List Int)) (h03:Bool) (i:Int) (h1:List Nd) (h2:List Int) (k0:List Nd->List Int->Option R):Option R:=iter (fun(v:Int×List Nd×List Int) nx=>b7 G n labels list top places h0 h02 h03 v.1 v.2.1 v.2.2 (fun y0 y1 y2=>nx (y0,y1,y2)) k0) m (i,h1,h2)
noncomputable def b22 {R:Type} (G:Gs) (n:Nat) (list:List Fm) (places:List (List Int)) (i:Int) (edges:List Int) (h0:List Tm) (h02:List (List Int)) (h03:Bool) (h1:List Nd) (h2:List Int) (k:Int) (h3:List (List Int)) (nx:Int->List (List Int)->Option R) (k0:List (List Int)->Option R):Option R:=
 bif decide (k<(List.length h1:Int))then
  (
  Option.bind (ix h1 k) fun e2=>
  Option.bind (G.s_l1HasInt edges (Nd.state e2)) fun r2=>
  bif r2 then
   (
   Option.bind (ix h1 i) fun e4=>
   Option.bind (ix h1 k) fun e6=>
   Option.bind (G.s_l32Step list places (Nd.set e4) (Nd.set e6)) fun r4=>
   bif r4 then
    (
    Option.bind (ix h3 i) fun _e=>
    Option.bind (h3[(Int.toNat i)]?) fun ys=>
    Option.bind (lim (ys++[k])) fun zs=>
    Option.bind (ix h3 i) fun _e2=>
    Option.bind (eqN (Int.toNat i) (Int.toNat i) (List.length h3)) fun _u=>
    nx (wr (k+1)) (List.set h3 (Int.toNat i) zs)
    )
   else
    nx (wr (k+1)) h3
   )
  else
   nx (wr (k+1)) h3
  )
 else
  k0 h3
noncomputable def l22 {R:Type} (G:Gs) (n m:Nat) (list:List Fm) (places:List (List Int)) (i:Int) (edges:List Int) (h0:List Tm) (h02:List (List Int)) (h03:Bool) (h1:List Nd) (h2:List Int) (k:Int) (h3:List (List Int)) (k0:List (List Int)->Option R):Option R:=iter (fun(v:Int×List (List Int)) nx=>b22 G n list places i edges h0 h02 h03 h1 h2 v.1 v.2 (fun y0 y1=>nx (y0,y1)) k0) m (k,h3)
noncomputable def b18 {R:Type} (G:Gs) (n:Nat) (list:List Fm) (places:List (List Int)) (h0:List Tm) (h02:List (List Int)) (h03:Bool) (h1:List Nd) (h2:List Int) (i:Int) (h3:List (List Int)) (nx:Int->List (List Int)->Option R) (k0:List (List Int)->Option R):Option R:=
 bif decide (i<(List.length h1:Int))then
  (
  Option.bind (ix h1 i) fun e2=>
  Option.bind (G.s_l32Edges (Gr.mk h0 h02 h03) (Nd.state e2)) fun r2=>
  l22 G n n list places i r2 h0 h02 h03 h1 h2 0 h3
   (fun h32=>nx (wr (i+1)) h32)
  )
 else
  k0 h3
noncomputable def l18 {R:Type} (G:Gs) (n m:Nat) (list:List Fm) (places:List (List Int)) (h0:List Tm) (h02:List (List Int)) (h03:Bool) (h1:List Nd) (h2:List Int) (i:Int) (h3:List (List Int)) (k0:List (List Int)->Option R):Option R:=iter (fun(v:Int×List (List Int)) nx=>b18 G n list places h0 h02 h03 h1 h2 v.1 v.2 (fun y0 y1=>nx (y0,y1)) k0) m (i,h3)
noncomputable def b28 {R:Type} (G:Gs) (n:Nat) (list:List Fm) (places:List (List Int)) (first:List Int) (next1:List (List Int)) (h0:List Nd) (i:Int) (h1:List Bool) (nx:Int->List Bool->Option R) (k0:List Bool->Option R):Option R:=
 bif decide (i<(List.length first:Int))then
  (
  Option.bind (ix first i) fun e=>
  Option.bind (ix h1 e) fun e2=>
  nx (wr (i+1)) (List.set h1 (Int.toNat e) true)
  )
 else
  k0 h1
noncomputable def l28 {R:Type} (G:Gs) (n m:Nat) (list:List Fm) (places:List (List Int)) (first:List Int) (next1:List (List Int)) (h0:List Nd) (i:Int) (h1:List Bool) (k0:List Bool->Option R):Option R:=iter (fun(v:Int×List Bool) nx=>b28 G n list places first next1 h0 v.1 v.2 (fun y0 y1=>nx (y0,y1)) k0) m (i,h1)
noncomputable def b33 {R:Type} (G:Gs) (n:Nat) (list:List Fm) (places:List (List Int)) (next1:List (List Int)) (h0:List Nd) (h1:List Bool) (i:Int) (h2:List (List Bool)) (nx:Int->List (List Bool)->Option R) (k0:List (List Bool)->Option R):Option R:=
 bif decide (i<(List.length h0:Int))then
  (
  Option.bind (G.s_l32Reach_o next1 [i]) fun r=>
  Option.bind (lim (h2++[r])) fun zs=>
  nx (wr (i+1)) zs
  )
 else
  k0 h2
noncomputable def l33 {R:Type} (G:Gs) (n m:Nat) (list:List Fm) (places:List (List Int)) (next1:List (List Int)) (h0:List Nd) (h1:List Bool) (i:Int) (h2:List (List Bool)) (k0:List (List Bool)->Option R):Option R:=iter (fun(v:Int×List (List Bool)) nx=>b33 G n list places next1 h0 h1 v.1 v.2 (fun y0 y1=>nx (y0,y1)) k0) m (i,h2)
noncomputable def b37 {R:Type} (G:Gs) (n:Nat) (list:List Fm) (places:List (List Int)) (h0:List Nd) (h1:List Bool) (h2:List (List Bool)) (i:Int) (nx:Int->Option R) (k0:Bool->Option R) (k1:Option R):Option R:=
 bif decide (i<(List.length h0:Int))then
  (
  Option.bind (ix h1 i) fun e=>
  bif e then
   (
   Option.bind (G.s_l32Fair h0 h2 list places i) fun r=>
   bif r then
    (k0 true)
   else
    nx (wr (i+1))
   )
  else
   nx (wr (i+1))
  )
 else
  k1
noncomputable def l37 {R:Type} (G:Gs) (n m:Nat) (list:List Fm) (places:List (List Int)) (h0:List Nd) (h1:List Bool) (h2:List (List Bool)) (i:Int) (k0:Bool->Option R) (k1:Option R):Option R:=iter (fun(v:Int) nx=>b37 G n list places h0 h1 h2 v (fun y0=>nx y0) k0 k1) m i
noncomputable def main {R:Type} (G:Gs) (n:Nat) (g:Gr) (labels:List Int) (f:Fm) (K:Bool->Option R):Option R:=
 Option.bind (G.s_l32List (Fm.mk (Fm.kind f) (Fm.prop f) (Fm.kids f)) []) fun r=>
 Option.bind (G.s_l32At r (Fm.mk (Fm.kind f) (Fm.prop f) (Fm.kids f))) fun r2=>
 Option.bind (G.s_l32Kids r) fun r3=>
 l7 G n n labels r r2 r3 (Gr.states g) (Gr.edges g) (Gr.whole g) 0 [] []
  (fun h12 h22 =>
   Option.bind (mk (α:=List Int) [] (List.length h12:Int)) fun xss=>
   l18 G n n r r3 (Gr.states g) (Gr.edges g) (Gr.whole g) h12 h22 0 xss
    (fun h222 =>
     Option.bind (G.s_l32Reach_o h222 h22) fun r4=>
     l28 G n n r r3 h22 h222 h12 0 r4
      (fun h122 =>
       l33 G n n r r3 h222 h12 h122 0 []
        (fun h223 =>
         l37 G n n r r3 h12 h122 h223 0
          (fun t6=>K t6)
          (K false)
        )
      )
    )
  )
noncomputable def dc15 (G:Gs) (n:Nat) (R:Type) (st:St) (K:Kt R):Option R:=match st with
 |⟨[(1,.one (.l .i labels)),(3,.one (.p 0 0)),(7,.one (.l (.n 2) list)),(8,.one (.i top)),(9,.one (.l (.sl .i) places)),(10,.one (.o 1)),(11,.one (.o 2)),(12,.one (.i i)),(13,.one (.l .i sets)),(14,.one (.i k))],[.box [.l (.n 1) h0,.l (.sl .i) h02,.b h03],.row (.n 4) 0 h1,.row .i 0 h2]⟩=>c15 G n labels list top places i sets k h0 h02 h03 h1 h2 (fun h12=>K .normal ⟨[(1,.one (.l .i labels)),(3,.one (.p 0 0)),(7,.one (.l (.n 2) list)),(8,.one (.i top)),(9,.one (.l (.sl .i) places)),(10,.one (.o 1)),(11,.one (.o 2)),(12,.one (.i i)),(13,.one (.l .i sets)),(14,.one (.i k))],[.box [.l (.n 1) h0,.l (.sl .i) h02,.b h03],.row (.n 4) 0 h12,.row .i 0 h2]⟩)
 |_=>none
noncomputable def dl11 (G:Gs) (n m:Nat) (R:Type) (st:St) (K:Kt R):Option R:=match st with
 |⟨[(1,.one (.l .i labels)),(3,.one (.p 0 0)),(7,.one (.l (.n 2) list)),(8,.one (.i top)),(9,.one (.l (.sl .i) places)),(10,.one (.o 1)),(11,.one (.o 2)),(12,.one (.i i)),(13,.one (.l .i sets)),(14,.one (.i k))],[.box [.l (.n 1) h0,.l (.sl .i) h02,.b h03],.row (.n 4) 0 h1,.row .i 0 h2]⟩=>l11 G n m labels list top places i sets h0 h02 h03 k h1 h2 (fun h12 h22=>K (.exit 2) ⟨[(1,.one (.l .i labels)),(3,.one (.p 0 0)),(7,.one (.l (.n 2) list)),(8,.one (.i top)),(9,.one (.l (.sl .i) places)),(10,.one (.o 1)),(11,.one (.o 2)),(12,.one (.i i))],[.box [.l (.n 1) h0,.l (.sl .i) h02,.b h03],.row (.n 4) 0 h12,.row .i 0 h22]⟩)
 |_=>none
noncomputable def dl7 (G:Gs) (n m:Nat) (R:Type) (st:St) (K:Kt R):Option R:=match st with
 |⟨[(1,.one (.l .i labels)),(3,.one (.p 0 0)),(7,.one (.l (.n 2) list)),(8,.one (.i top)),(9,.one (.l (.sl .i) places)),(10,.one (.o 1)),(11,.one (.o 2)),(12,.one (.i i))],[.box [.l (.n 1) h0,.l (.sl .i) h02,.b h03],.row (.n 4) 0 h1,.row .i 0 h2]⟩=>l7 G n m labels list top places h0 h02 h03 i h1 h2 (fun h12 h22=>K (.exit 0) ⟨[(3,.one (.p 0 0)),(7,.one (.l (.n 2) list)),(9,.one (.l (.sl .i) places)),(10,.one (.o 1)),(11,.one (.o 2))],[.box [.l (.n 1) h0,.l (.sl .i) h02,.b h03],.row (.n 4) 0 h12,.row .i 0 h22]⟩)
 |_=>none
noncomputable def dl22 (G:Gs) (n m:Nat) (R:Type) (st:St) (K:Kt R):Option R:=match st with
 |⟨[(3,.one (.p 0 0)),(7,.one (.l (.n 2) list)),(9,.one (.l (.sl .i) places)),(10,.one (.o 1)),(11,.one (.o 2)),(15,.one (.o 3)),(16,.one (.i i)),(17,.one (.l .i edges)),(18,.one (.i k))],[.box [.l (.n 1) h0,.l (.sl .i) h02,.b h03],.row (.n 4) 0 h1,.row .i 0 h2,.rows .i h3 none]⟩=>l22 G n m list places i edges h0 h02 h03 h1 h2 k h3 (fun h32=>K (.exit 6) ⟨[(3,.one (.p 0 0)),(7,.one (.l (.n 2) list)),(9,.one (.l (.sl .i) places)),(10,.one (.o 1)),(11,.one (.o 2)),(15,.one (.o 3)),(16,.one (.i i))],[.box [.l (.n 1) h0,.l (.sl .i) h02,.b h03],.row (.n 4) 0 h1,.row .i 0 h2,.rows .i h32 none]⟩)
 |_=>none
noncomputable def dl18 (G:Gs) (n m:Nat) (R:Type) (st:St) (K:Kt R):Option R:=match st with
 |⟨[(3,.one (.p 0 0)),(7,.one (.l (.n 2) list)),(9,.one (.l (.sl .i) places)),(10,.one (.o 1)),(11,.one (.o 2)),(15,.one (.o 3)),(16,.one (.i i))],[.box [.l (.n 1) h0,.l (.sl .i) h02,.b h03],.row (.n 4) 0 h1,.row .i 0 h2,.rows .i h3 none]⟩=>l18 G n m list places h0 h02 h03 h1 h2 i h3 (fun h22=>K (.exit 4) ⟨[(7,.one (.l (.n 2) list)),(9,.one (.l (.sl .i) places)),(10,.one (.o 0)),(11,.one (.o 1)),(15,.one (.o 2))],[.row (.n 4) 0 h1,.row .i 0 h2,.rows .i h22 none]⟩)
 |_=>none
noncomputable def dl28 (G:Gs) (n m:Nat) (R:Type) (st:St) (K:Kt R):Option R:=match st with
 |⟨[(7,.one (.l (.n 2) list)),(9,.one (.l (.sl .i) places)),(10,.one (.o 0)),(11,.one (.l .i first)),(15,.one (.l (.sl .i) next1)),(19,.one (.o 1)),(20,.one (.i i))],[.row (.n 4) 0 h0,.row .b 0 h1]⟩=>l28 G n m list places first next1 h0 i h1 (fun h12=>K (.exit 8) ⟨[(7,.one (.l (.n 2) list)),(9,.one (.l (.sl .i) places)),(10,.one (.o 0)),(15,.one (.l (.sl .i) next1)),(19,.one (.o 1))],[.row (.n 4) 0 h0,.row .b 0 h12]⟩)
 |_=>none
noncomputable def dl33 (G:Gs) (n m:Nat) (R:Type) (st:St) (K:Kt R):Option R:=match st with
 |⟨[(7,.one (.l (.n 2) list)),(9,.one (.l (.sl .i) places)),(10,.one (.o 0)),(15,.one (.l (.sl .i) next1)),(19,.one (.o 1)),(21,.one (.o 2)),(22,.one (.i i))],[.row (.n 4) 0 h0,.row .b 0 h1,.row (.sl .b) 0 h2]⟩=>l33 G n m list places next1 h0 h1 i h2 (fun h22=>K (.exit 10) ⟨[(7,.one (.l (.n 2) list)),(9,.one (.l (.sl .i) places)),(10,.one (.o 0)),(19,.one (.o 1)),(21,.one (.o 2))],[.row (.n 4) 0 h0,.row .b 0 h1,.row (.sl .b) 0 h22]⟩)
 |_=>none
noncomputable def dl37 (G:Gs) (n m:Nat) (R:Type) (st:St) (K:Kt R):Option R:=match st with
 |⟨[(7,.one (.l (.n 2) list)),(9,.one (.l (.sl .i) places)),(10,.one (.o 0)),(19,.one (.o 1)),(21,.one (.o 2)),(23,.one (.i i))],[.row (.n 4) 0 h0,.row .b 0 h1,.row (.sl .b) 0 h2]⟩=>l37 G n m list places h0 h1 h2 i (fun t6=>K .ret ⟨[(6,.one (.b t6))],[]⟩) (K (.exit 12) ⟨[],[]⟩)
 |_=>none
noncomputable def pc (G:Gs) (n:Nat):Pcs:=⟨fun R id st K=>bif Nat.beq id 11 then dl11 G n n R st K else bif Nat.beq id 7 then dl7 G n n R st K else bif Nat.beq id 22 then dl22 G n n R st K else bif Nat.beq id 18 then dl18 G n n R st K else bif Nat.beq id 28 then dl28 G n n R st K else bif Nat.beq id 33 then dl33 G n n R st K else bif Nat.beq id 37 then dl37 G n n R st K else none,fun R id st K=>bif Nat.beq id 15 then dc15 G n R st K else none,fun _ _ _ _=>none⟩
noncomputable def an:Ann:=⟨178,0,[(11,[1,3,7,8,9,10,11,12,13,14]),(7,[1,3,7,8,9,10,11,12]),(22,[3,7,9,10,11,15,16,17,18]),(18,[3,7,9,10,11,15,16]),(28,[7,9,10,11,15,19,20]),(33,[7,9,10,15,19,21,22]),(37,[7,9,10,19,21,23])],[(15,[1,3,7,8,9,10,11,12,13,14])],[6],[(20,⟨[([0,1,2,3,4,5,6,7],[],[])],[],[],[0,1,2,3],[]⟩),(24,⟨[([0,1,2,3,4,5,6,7,8,9,10,11,12,13,14,15,16,17,18,19,20,21],[],[])],[],[],[0,1,2,3],[]⟩)],[79]⟩
noncomputable abbrev bd:=bodyOf Tryd.f55
noncomputable abbrev q15:=nthC [1,1,1,1,1,1,0,1,0,0,1,0,0,1,1,0,0,1,0,0,1] bd
noncomputable abbrev q11:=nthC [1,1,1,1,1,1,0,1,0,0,1,0,0,1,1,0,0] bd
noncomputable abbrev q7:=nthC [1,1,1,1,1,1,0,1,0,0] bd
noncomputable abbrev q22:=nthC [1,1,1,1,1,1,1,1,0,1,0,0,1,0,0,1,1,0,0] bd
noncomputable abbrev q18:=nthC [1,1,1,1,1,1,1,1,0,1,0,0] bd
noncomputable abbrev q28:=nthC [1,1,1,1,1,1,1,1,1,1,0,1,0,0] bd
noncomputable abbrev q33:=nthC [1,1,1,1,1,1,1,1,1,1,1,1,0,1,0,0] bd
noncomputable abbrev q37:=nthC [1,1,1,1,1,1,1,1,1,1,1,1,1,0,1,0,0] bd
theorem pc15 {G:Gs} (hG:AllE Tryd.prog (ents G)) {n:Nat}:PieceOK Tryd.prog an q15 (dc15 G n):=cpc hG (pc G n) ⟨[1,3,7,8,9,10,11,12,13,14],[6],[(0,[3,7,9,10,11]),(1,[1,3,7,8,9,10,11,12]),(2,[1,3,7,8,9,10,11,12]),(3,[1,3,7,8,9,10,11,12,13,14])]⟩ (apl [] trivial) fun R st K r h=>by unfold dc15 at h;split at h;exact .trans (by kernel_rfl) h;cases h
theorem pl11 {G:Gs} (hG:AllE Tryd.prog (ents G)) (n:Nat):∀m,PieceOK Tryd.prog an (.loop q11) (dl11 G n m):=lpc hG (pc G n) [1,3,7,8,9,10,11,12,13,14] ⟨[1,3,7,8,9,10,11,12],[6],[(0,[3,7,9,10,11]),(1,[1,3,7,8,9,10,11,12]),(2,[1,3,7,8,9,10,11,12])]⟩ (apl [(0,15,q15)] ⟨pc15 hG,trivial⟩) (fun R st K=>by unfold dl11;split<;>rfl) fun m R st K r h=>by unfold dl11 at h;split at h;exact .trans (by kernel_rfl) h;cases h
theorem pl7 {G:Gs} (hG:AllE Tryd.prog (ents G)) (n:Nat):∀m,PieceOK Tryd.prog an (.loop q7) (dl7 G n m):=lpc hG (pc G n) [1,3,7,8,9,10,11,12] ⟨[3,7,9,10,11],[6],[(0,[3,7,9,10,11])]⟩ (apl [(1,11,.loop q11)] ⟨pl11 hG n n,trivial⟩) (fun R st K=>by unfold dl7;split<;>rfl) fun m R st K r h=>by unfold dl7 at h;split at h;exact .trans (by kernel_rfl) h;cases h
theorem pl22 {G:Gs} (hG:AllE Tryd.prog (ents G)) (n:Nat):∀m,PieceOK Tryd.prog an (.loop q22) (dl22 G n m):=lpc hG (pc G n) [3,7,9,10,11,15,16,17,18] ⟨[3,7,9,10,11,15,16],[6],[(4,[7,9,10,11,15]),(5,[3,7,9,10,11,15,16]),(6,[3,7,9,10,11,15,16])]⟩ (apl [] trivial) (fun R st K=>by unfold dl22;split<;>rfl) fun m R st K r h=>by unfold dl22 at h;split at h;exact .trans (by kernel_rfl) h;cases h
theorem pl18 {G:Gs} (hG:AllE Tryd.prog (ents G)) (n:Nat):∀m,PieceOK Tryd.prog an (.loop q18) (dl18 G n m):=lpc hG (pc G n) [3,7,9,10,11,15,16] ⟨[7,9,10,11,15],[6],[(4,[7,9,10,11,15])]⟩ (apl [(1,22,.loop q22)] ⟨pl22 hG n n,trivial⟩) (fun R st K=>by unfold dl18;split<;>rfl) fun m R st K r h=>by unfold dl18 at h;split at h;exact .trans (by kernel_rfl) h;cases h
theorem pl28 {G:Gs} (hG:AllE Tryd.prog (ents G)) (n:Nat):∀m,PieceOK Tryd.prog an (.loop q28) (dl28 G n m):=lpc hG (pc G n) [7,9,10,11,15,19,20] ⟨[7,9,10,15,19],[6],[(8,[7,9,10,15,19])]⟩ (apl [] trivial) (fun R st K=>by unfold dl28;split<;>rfl) fun m R st K r h=>by unfold dl28 at h;split at h;exact .trans (by kernel_rfl) h;cases h
theorem pl33 {G:Gs} (hG:AllE Tryd.prog (ents G)) (n:Nat):∀m,PieceOK Tryd.prog an (.loop q33) (dl33 G n m):=lpc hG (pc G n) [7,9,10,15,19,21,22] ⟨[7,9,10,19,21],[6],[(10,[7,9,10,19,21])]⟩ (apl [] trivial) (fun R st K=>by unfold dl33;split<;>rfl) fun m R st K r h=>by unfold dl33 at h;split at h;exact .trans (by kernel_rfl) h;cases h
theorem pl37 {G:Gs} (hG:AllE Tryd.prog (ents G)) (n:Nat):∀m,PieceOK Tryd.prog an (.loop q37) (dl37 G n m):=lpc hG (pc G n) [7,9,10,19,21,23] ⟨[],[6],[(12,[])]⟩ (apl [] trivial) (fun R st K=>by unfold dl37;split<;>rfl) fun m R st K r h=>by unfold dl37 at h;split at h;exact .trans (by kernel_rfl) h;cases h
noncomputable def Does (G:Gs) (g:Gr) (labels:List Int) (f:Fm) (r:Bool):Prop:=∃n,main (R:=AT×List Ob) G n g labels f (fun r0=>some (.one (.b r0),[]))=some (.one (.b r),[])
theorem ok {G:Gs} (hG:AllE Tryd.prog (ents G)) {g:Gr->List Int->Fm->Option (Bool)} (hg:∀g_ labels f r,g g_ labels f=some r->Does G g_ labels f r):EntOK Tryd.prog (ent g):=fun R xs H K r hc=>by
 simp only[ent]at hc
 split at hc
 ·obtain⟨r,j1,j2⟩:=bind_some hc
  obtain⟨n,j3⟩:=hg _ _ _ _ j1
  exact⟨_,_,j2,fnP hG an (pc G n) bd [.tmp 6] Tryd.func55 (.inl rfl) (apl [(1,7,.loop q7),(1,18,.loop q18),(1,28,.loop q28),(1,33,.loop q33),(1,37,.loop q37)] ⟨pl7 hG n n,⟨pl18 hG n n,⟨pl28 hG n n,⟨pl33 hG n n,⟨pl37 hG n n,trivial⟩⟩⟩⟩⟩) (.trans (by kernel_rfl) j3)⟩
 ·cases hc
end s_l32Runs
namespace s_AllRunsHold
structure Gs where
 s_l32Right:Gr->List Int->Fm->Option (Bool)
 s_l32Runs:Gr->List Int->Fm->Option (Bool)
noncomputable def ents (G:Gs):List Ent:=[s_l32Right.ent G.s_l32Right,s_l32Runs.ent G.s_l32Runs]
noncomputable def main {R:Type} (G:Gs) (n:Nat) (g:Gr) (labels:List Int) (f:Fm) (K:Bool->Bool->Option R):Option R:=
 Option.bind (G.s_l32Right g labels (Fm.mk (Fm.kind f) (Fm.prop f) (Fm.kids f))) fun r=>
 bif !r then
  (K false false)
 else
  Option.bind (G.s_l32Runs g labels (Fm.mk 3 0 [(Fm.mk (Fm.kind f) (Fm.prop f) (Fm.kids f))])) fun r2=>
  K (!r2) true
noncomputable def pc (_:Gs) (_:Nat):Pcs:=⟨fun _ _ _ _=>none,fun _ _ _ _=>none,fun _ _ _ _=>none⟩
noncomputable def an:Ann:=⟨20,0,[],[],[6,7],[],[]⟩
noncomputable abbrev bd:=bodyOf Tryd.f24
noncomputable def Does (G:Gs) (g:Gr) (labels:List Int) (f:Fm) (r:Bool×Bool):Prop:=∃n,main (R:=AT×List Ob) G n g labels f (fun r0 r1=>some (.tup [.one (.b r0),.one (.b r1)],[]))=some (.tup [.one (.b r.1),.one (.b r.2)],[])
theorem ok {G:Gs} (hG:AllE Tryd.prog (ents G)) {g:Gr->List Int->Fm->Option (Bool×Bool)} (hg:∀g_ labels f r,g g_ labels f=some r->Does G g_ labels f r):EntOK Tryd.prog (ent g):=fun R xs H K r hc=>by
 simp only[ent]at hc
 split at hc
 ·obtain⟨r,j1,j2⟩:=bind_some hc
  obtain⟨n,j3⟩:=hg _ _ _ _ j1
  exact⟨_,_,j2,fnP hG an (pc G n) bd [.tmp 6,.tmp 7] Tryd.func24 (.inl rfl) (apl [] trivial) (.trans (by kernel_rfl) j3)⟩
 ·cases hc
end s_AllRunsHold
namespace s_SomeRunHolds
noncomputable abbrev bd:=bodyOf Tryd.f26
end s_SomeRunHolds
end Go.Proofs.YtjafncnjefnloaaDoor.Den

namespace Go.Proofs.YtjafncnjefnloaaDoor.Den
open Go.RowKit
open Classical
def goodF (f:Fm):Prop:=f.size<=13/\f.ok=true
theorem ok_kids {f x:Fm} (h:f.ok=true) (hx:x∈f.kids):x.ok=true:=by
 rw[ok_parts_eq,Bool.and_eq_true]at h
 exact List.all_eq_true.1 h.2 x hx
theorem goodF.kid {f x:Fm} (h:goodF f) (hx:x∈f.kids):goodF x:=⟨by have:=size_mem hx;have:=h.1;omega,ok_kids h.2 hx⟩
theorem text_same {f g:Fm} (hf:goodF f) (hg:goodF g):sEq (Fm.text f) (Fm.text g)=decide (f=g):=by
 unfold sEq
 refine decide_eq_decide.2 ⟨fun e=>text_eq_inj hf.2 hg.2 e,fun e=>by rw[e]⟩
theorem gText_good {f:Fm} (h:goodF f):gText 13 f=some (Fm.text f):=if_pos ⟨h.1,h.1,h.2⟩
noncomputable def gF1:Fm->Fm->Option Bool:=fun h c=>if goodF h/\goodF c then some (decide (h=c))else none
theorem f1_ok :EntOK Tryd.prog (i_temporalParts_f1.ent gF1):=i_temporalParts_f1.ok (G:=⟨gText 13⟩) ⟨formulaText_ok 13,trivial⟩ fun h c r hr=>by
 unfold gF1 at hr
 split at hr
 ·rename_i hg
  cases hr
  refine⟨1,?_⟩
  unfold i_temporalParts_f1.main
  simp only[Fm.eta]
  rw[gText_good hg.1,Option.bind_some,gText_good hg.2,Option.bind_some,text_same hg.1 hg.2]
 ·cases hr
noncomputable def idxF (f:Fm):List Fm->Nat->Int
 |[],_=> -1
 |x::xs,i=>if x=f then (i:Int)else idxF f xs (i+1)
theorem idxF_sign (f:Fm):∀(xs:List Fm) (i:Nat),decide (0<=idxF f xs i)=decide (f∈xs)
 |[],i=>by simp[idxF]
 | x :: xs, i => by
  unfold idxF
  split
  ·rename_i h;subst h;simp
  ·rename_i h
   rw[idxF_sign f xs (i+1)]
   refine decide_eq_decide.2 ⟨fun h=>List.mem_cons_of_mem _ h,fun hm=> ?_⟩
   rcases List.mem_cons.1 hm with e|hm
   ·exact absurd e.symm h
   ·exact hm
def goods (xs:List Fm):Prop:=(∀x∈xs,goodF x)/\xs.length<=1000
noncomputable def gIx:List Fm->Fm->Option Int:=fun s f=>if goods s/\goodF f then some (idxF f s 0)else none
theorem seek_idx {R:Type} (f:Fm) (k0:Int->Option R):∀(xs:List Fm) (i:Nat),seek (fun x=>decide (x=f)) (fun _ (i:Nat)=>k0 i) (k0 (-1)) xs i=k0 (idxF f xs i)
 |[],i=>rfl
 | x :: xs, i => by
  show cond (decide (x=f)) _ _=_
  unfold idxF
  by_cases h:x=f
  ·rw[decide_eq_true h,cond_true,if_pos h]
  ·rw[decide_eq_false h,cond_false,if_neg h];exact seek_idx f k0 xs (i+1)
theorem ix_main {R:Type} (s:List Fm) (f:Fm) (hg:goods s/\goodF f) (K:Int->Option R):slices_IndexFunc_tp.main ⟨gF1⟩ (s.length+1) s f K=K (idxF f s 0):=by
 unfold slices_IndexFunc_tp.main slices_IndexFunc_tp.l2
 refine(count0 s.length (fun t nx=>slices_IndexFunc_tp.b2 ⟨gF1⟩ (s.length+1) s f (s.length:Int) t nx (fun t4=>K t4) (K (-1))) (fun i=>seek (fun x=>decide (x=f)) (fun _ (i:Nat)=>K (i:Int)) (K (-1)) (s.drop i) i) (fun nx=> ?_) (fun i nx hi hnx=> ?_) (s.length+1) 0 (by omega) (by omega)).trans ?_
 ·unfold slices_IndexFunc_tp.b2
  rw[nlt_nat (by omega),cond_false,drop_nat];rfl
 ·obtain⟨x,hx,hm⟩:=get_lt hi
  unfold slices_IndexFunc_tp.b2
  simp only[Fm.eta]
  rw[lt_nat hi,cond_true,ix_get hx,Option.bind_some,show gF1 x f=some _ from if_pos ⟨hg.1.1 x hm,hg.2⟩,Option.bind_some,wr_one (by have:=hg.1.2;omega),hnx,seek_drop hx]
 ·rw[List.drop_zero]
  exact seek_idx f K s 0
theorem ix_ok :EntOK Tryd.prog (slices_IndexFunc_tp.ent gIx):=slices_IndexFunc_tp.ok (G:=⟨gF1⟩) ⟨f1_ok,trivial⟩ fun s f r hr=>by
 unfold gIx at hr
 split at hr
 ·rename_i hg
  cases hr
  exact⟨s.length+1,ix_main s f hg _⟩
 ·cases hr
noncomputable def gHasF:List Fm->Fm->Option Bool:=fun s f=>if goods s/\goodF f then some (decide (f∈s))else none
theorem has_ok :EntOK Tryd.prog (slices_ContainsFunc_tp.ent gHasF):=slices_ContainsFunc_tp.ok (G:=⟨gIx⟩) ⟨ix_ok,trivial⟩ fun s f r hr=>by
 unfold gHasF at hr
 split at hr
 ·rename_i hg
  cases hr
  refine⟨1,?_⟩
  unfold slices_ContainsFunc_tp.main
  simp only[Fm.eta]
  rw[show gIx s f=some _ from if_pos hg,Option.bind_some,idxF_sign]
 ·cases hr
noncomputable def add6 (f:Fm) (acc:List Fm):List Fm:=if (f.kind=6\/f.kind=7)/\f∉acc then acc++[f]else acc
noncomputable def addF (f:Fm) (acc:List Fm):List Fm:=if f∈acc then acc else acc++[f]
noncomputable def temps:Nat->Fm->List Fm->List Fm
 |0,_,acc=>acc
 |k+1,f,acc=>add6 f (f.kids.foldl (fun a x=>temps k x a) acc)
noncomputable def parts:Nat->Fm->List Fm->List Fm
 |0,_,acc=>acc
 |k+1,f,acc=>addF f (f.kids.foldl (fun a x=>parts k x a) acc)
theorem fold_grow {step:List Fm->Fm->List Fm}:∀(xs:List Fm) (acc:List Fm),(∀x∈xs,∀a,(step a x).length<=a.length+x.size/\((∀y∈a,goodF y)->∀y∈step a x,goodF y))->
  (xs.foldl step acc).length<=acc.length+wS Fm.size xs/\((∀y∈acc,goodF y)->∀y∈xs.foldl step acc,goodF y)
 |[],acc,_=>⟨by simp[wS],fun h=>h⟩
 | x :: xs, acc, h => by
  obtain⟨h1,h2⟩:=h x (by simp) acc
  obtain⟨i1,i2⟩:=fold_grow xs (step acc x) (fun y hy=>h y (by simp[hy]))
  rw[List.foldl_cons,wS_cons]
  exact⟨by omega,fun hg=>i2 (h2 hg)⟩
theorem temps_grow :∀(k:Nat) (f:Fm) (acc:List Fm),goodF f->(temps k f acc).length<=acc.length+f.size/\((∀y∈acc,goodF y)->∀y∈temps k f acc,goodF y)
 |0,f,acc,_=>⟨by simp[temps],fun h=>h⟩
 | k + 1, f, acc, hf => by
  obtain⟨h1,h2⟩:=fold_grow (step:=fun a x=>temps k x a) f.kids acc (fun x hx a=>temps_grow k x a (hf.kid hx))
  have hs:=sizes_eq f
  unfold temps add6
  split
  ·refine⟨by simp;omega,fun hg y hy=> ?_⟩
   rcases List.mem_append.1 hy with hy|hy
   ·exact h2 hg y hy
   ·simp at hy;subst hy;exact hf
  ·exact⟨by omega,h2⟩
theorem parts_grow :∀(k:Nat) (f:Fm) (acc:List Fm),goodF f->(parts k f acc).length<=acc.length+f.size/\((∀y∈acc,goodF y)->∀y∈parts k f acc,goodF y)
 |0,f,acc,_=>⟨by simp[parts],fun h=>h⟩
 | k + 1, f, acc, hf => by
  obtain⟨h1,h2⟩:=fold_grow (step:=fun a x=>parts k x a) f.kids acc (fun x hx a=>parts_grow k x a (hf.kid hx))
  have hs:=sizes_eq f
  unfold parts addF
  split
  ·exact⟨by omega,h2⟩
  ·refine⟨by simp;omega,fun hg y hy=> ?_⟩
   rcases List.mem_append.1 hy with hy|hy
   ·exact h2 hg y hy
   ·simp at hy;subst hy;exact hf
def PreT (k:Nat) (f:Fm) (acc:List Fm):Prop:=f.size<=k/\goodF f/\(∀y∈acc,goodF y)/\acc.length+f.size<=1000
noncomputable def gTemps (k:Nat):Fm->List Fm->Option (List Fm):=fun f acc=>if PreT k f acc then some (temps k f acc)else none
noncomputable def gParts (k:Nat):Fm->List Fm->Option (List Fm):=fun f acc=>if PreT k f acc then some (parts k f acc)else none
theorem wS_app {A:Type} {f:A->Nat} (a b:List A):wS f (a++b)=wS f a+wS f b:=by simp[wS]
theorem mid_pre {step:List Fm->Fm->List Fm} {k:Nat} {f:Fm} {acc:List Fm} (h:PreT (k+1) f acc) (hst:∀x∈f.kids,∀a,(step a x).length<=a.length+x.size/\((∀y∈a,goodF y)->∀y∈step a x,goodF y)) {i:Nat} {x:Fm} (hx:f.kids[i]? =some x):PreT k x ((f.kids.take i).foldl step acc):=by
 obtain⟨hlt,rfl⟩:=List.getElem?_eq_some_iff.1 hx
 have hm:=List.getElem_mem hlt
 obtain⟨h1,h2⟩:=fold_grow (f.kids.take i) acc (fun x hx a=>hst x (List.mem_of_mem_take hx) a)
 have hs:=sizes_eq f
 have hsm:=size_mem hm
 have e:wS Fm.size f.kids=wS Fm.size (f.kids.take i)+wS Fm.size (f.kids.drop i):=by
  conv=>lhs;rw[<-List.take_append_drop i f.kids]
  exact wS_app _ _
 rw[List.drop_eq_getElem_cons hlt,wS_cons]at e
 obtain⟨q1,q2,q3,q4⟩:=h
 exact⟨by omega,q2.kid hm,h2 q3,by omega⟩
theorem end_pre {step:List Fm->Fm->List Fm} {k:Nat} {f:Fm} {acc:List Fm} (h:PreT (k+1) f acc) (hst:∀x∈f.kids,∀a,(step a x).length<=a.length+x.size/\((∀y∈a,goodF y)->∀y∈step a x,goodF y)):goods (f.kids.foldl step acc)/\(f.kids.foldl step acc).length<1000:=by
 obtain⟨h1,h2⟩:=fold_grow f.kids acc hst
 have hs:=sizes_eq f
 obtain⟨q1,q2,q3,q4⟩:=h
 exact⟨⟨h2 q3,by omega⟩,by omega⟩
theorem temps_main {R:Type} (k:Nat) (f:Fm) (acc:List Fm) (h:PreT (k+1) f acc) (K:List Fm->Option R):i_temporalParts_o.main ⟨gTemps k,gHasF⟩ (f.kids.length+1) f acc K=K (temps (k+1) f acc):=by
 have hst:∀x∈f.kids,∀a,((fun a x=>temps k x a) a x).length<=a.length+x.size/\((∀y∈a,goodF y)->∀y∈(fun a x=>temps k x a) a x,goodF y):=fun x hx a=>temps_grow k x a (h.2.1.kid hx)
 unfold i_temporalParts_o.main i_temporalParts_o.l2
 refine(count f.kids.length (fun t a nx=>i_temporalParts_o.b2 ⟨gTemps k,gHasF⟩ (f.kids.length+1) f.kids (f.kids.length:Int) f.kind f.prop f.kids t a nx _) (fun i a=>a=(f.kids.take i).foldl (fun a x=>temps k x a) acc) (fun _ _=>K (temps (k+1) f acc)) (fun a nx ha=> ?_) (fun i a nx hi ha hnx=> ?_) (f.kids.length+1) 0 acc (by simp) (by omega) (by omega))
 ·subst ha
  unfold i_temporalParts_o.b2
  rw[nlt_nat (by omega),cond_false,take_all]
  obtain⟨h1,h2⟩:=end_pre h hst
  have e1:gHasF (f.kids.foldl (fun a x=>temps k x a) acc) f=some _:=if_pos ⟨h1,h.2.1⟩
  have e2:temps (k+1) f acc=add6 f (f.kids.foldl (fun a x=>temps k x a) acc):=rfl
  rw[e2]
  generalize f.kids.foldl (fun a x=>temps k x a) acc=L at*
  simp only[Fm.eta,i_temporalParts_o.c8]
  have e3:lim (L++[f])=some (L++[f]):=lim_eq (by simp;omega)
  rw[e1,e3]
  unfold add6
  by_cases h6:f.kind=6
  ·rw[decide_eq_true h6,cond_true,Option.bind_some]
   by_cases hm:f∈L
   ·rw[decide_eq_true hm,if_neg (fun q=>q.2 hm)];rfl
   ·rw[decide_eq_false hm,if_pos ⟨.inl h6,hm⟩];rfl
  ·by_cases h7:f.kind=7
   ·rw[decide_eq_false h6,decide_eq_true h7,cond_false,cond_true,Option.bind_some]
    by_cases hm:f∈L
    ·rw[decide_eq_true hm,if_neg (fun q=>q.2 hm)];rfl
    ·rw[decide_eq_false hm,if_pos ⟨.inr h7,hm⟩];rfl
   ·rw[decide_eq_false h6,decide_eq_false h7,if_neg (fun q=>q.1.elim h6 h7)];rfl
 ·subst ha
  obtain⟨x,hx,hm⟩:=get_lt hi
  have hp:=mid_pre h hst hx
  unfold i_temporalParts_o.b2
  simp only[Fm.eta]
  have hl:f.kids.length<=1000:=by have:=len_size f;have:=h.1;have:=h.2.1.1;omega
  rw[lt_nat hi,cond_true,ix_get hx,Option.bind_some,show gTemps k x _=some _ from if_pos hp,Option.bind_some,wr_one (by omega)]
  exact hnx _ (fold_take (f:=fun a x=>temps k x a) hx).symm
theorem gTemps_zero :gTemps 0=fun _ _=>none:=by
 funext f acc
 exact if_neg fun q=>by have:=q.1;rw[Fm.size_eq]at this;omega
theorem temps_ok :∀k,EntOK Tryd.prog (i_temporalParts_o.ent (gTemps k))
 | 0 => by
  rw[gTemps_zero]
  intro R xs H K r h
  simp only[i_temporalParts_o.ent]at h
  split at h<;>cases h
 | k + 1 => i_temporalParts_o.ok (G := ⟨gTemps k, gHasF⟩) ⟨temps_ok k, has_ok, trivial⟩ fun f acc r h => by
  unfold gTemps at h
  split at h
  ·rename_i hp
   cases h
   exact⟨f.kids.length+1,temps_main k f acc hp _⟩
  ·cases h
end Go.Proofs.YtjafncnjefnloaaDoor.Den

namespace Go.Proofs.YtjafncnjefnloaaDoor.Den
open Go.RowKit
open Classical
def kidv (g:Fm->Bool) (xs:List Fm) (j:Nat):Bool:=match xs[j]? with|some x=>g x|none=>false
def valK (lab:Nat) (tv:Fm->Bool):Nat->Fm->Bool
 |0,_=>false
 |k+1,f=>if f.kind=1 then true else if f.kind=2 then lab.testBit f.prop.toNat else if f.kind=3 then !kidv (valK lab tv k) f.kids 0 else if f.kind=4 then kidv (valK lab tv k) f.kids 0&&kidv (valK lab tv k) f.kids 1 else if f.kind=5 then kidv (valK lab tv k) f.kids 0||kidv (valK lab tv k) f.kids 1 else tv f
def val (lab:Nat) (tv:Fm->Bool) (f:Fm):Bool:=valK lab tv f.size f
theorem kidv_congr {g g':Fm->Bool} {xs:List Fm} {j:Nat} (h:∀x∈xs,g x=g' x):kidv g xs j=kidv g' xs j:=by
 unfold kidv
 split
 ·rename_i x hx;exact h x (List.mem_of_getElem? hx)
 ·rfl
theorem valK_same (lab:Nat) (tv:Fm->Bool):∀(k k':Nat) (f:Fm),f.size<=k->f.size<=k'->valK lab tv k f=valK lab tv k' f
 |0,_,f,h,_=>by rw[Fm.size_eq]at h;omega
 |_,0,f,_,h=>by rw[Fm.size_eq]at h;omega
 | k + 1, k' + 1, f, h, h' => by
  have e:∀j,kidv (valK lab tv k) f.kids j=kidv (valK lab tv k') f.kids j:=fun j=>kidv_congr fun x hx=>valK_same lab tv k k' x (by have:=size_mem hx;omega) (by have:=size_mem hx;omega)
  unfold valK
  simp only[e]
theorem val_fuel {lab:Nat} {tv:Fm->Bool} {k:Nat} {f:Fm} (h:f.size<=k):valK lab tv k f=val lab tv f:=valK_same lab tv _ _ f h (Nat.le_refl _)
theorem val_eq (lab:Nat) (tv:Fm->Bool) (f:Fm):val lab tv f=if f.kind=1 then true else if f.kind=2 then lab.testBit f.prop.toNat else if f.kind=3 then !kidv (val lab tv) f.kids 0 else if f.kind=4 then kidv (val lab tv) f.kids 0&&kidv (val lab tv) f.kids 1 else if f.kind=5 then kidv (val lab tv) f.kids 0||kidv (val lab tv) f.kids 1 else tv f:=by
 have e:∀j,kidv (valK lab tv f.size) f.kids j=kidv (val lab tv) f.kids j:=fun j=>kidv_congr fun x hx=>val_fuel (by have:=size_mem hx;omega)
 rw[<-val_fuel (Nat.le_succ f.size)]
 unfold valK
 simp only[e]
theorem kidv_zero {g:Fm->Bool} {x:Fm} {xs:List Fm}:kidv g (x::xs) 0=g x:=rfl
theorem kidv_one {g:Fm->Bool} {x y:Fm} {xs:List Fm}:kidv g (x::y::xs) 1=g y:=rfl
theorem shl_some {k:Nat} (hk:k<63):(bif decide (0<=(k:Int))then some (Abs.bitsI .shl .i64 1 (k:Int))else none)=some ((2^k:Nat):Int):=by
 rw[decide_eq_true (by omega),cond_true,shl1_nat hk]
theorem bit_bind {R:Type} {a k:Nat} (ha:a<9223372036854775808) (hk:k<63) (K:Bool->Option R):(Option.bind (bif decide (0<=(k:Int))then some (Abs.bitsI .shl .i64 1 (k:Int))else none) fun q=>K (!decide (Abs.bitsI .and .i64 (a:Int) q=0)))=K (a.testBit k):=by
 rw[shl_some hk,Option.bind_some,bit_and ha hk,Bool.not_not]
noncomputable def posF (T:List Fm) (f:Fm):Nat:=(idxF f T 0).toNat
noncomputable def idxMapFrom:List Fm->Nat->List (ByteArray×Int)->List (ByteArray×Int)
 |[],_,acc=>acc
 |x::xs,i,acc=>idxMapFrom xs (i+1) ((Fm.text x,(i:Int))::acc)
noncomputable def tvF (T:List Fm) (set:Nat):Fm->Bool:=fun f=>set.testBit (posF T f)
theorem idxF_lt (f:Fm):∀(xs:List Fm) (i:Nat),idxF f xs i= -1\/((i:Int)<=idxF f xs i/\idxF f xs i<(i+xs.length:Nat))
 |[],i=>.inl rfl
 | x :: xs, i => by
  unfold idxF
  split
  ·exact .inr ⟨Int.le_refl _,by simp;omega⟩
  ·rcases idxF_lt f xs (i+1)with h|⟨h1,h2⟩
   ·exact .inl h
   ·exact .inr ⟨by omega,by simp at*;omega⟩
theorem posF_lt {T:List Fm} {f:Fm} {n:Nat} (h:T.length<=n) (h0:0<n):posF T f<n:=by
 unfold posF
 rcases idxF_lt f T 0 with e|e<;>omega
theorem posF_self {T:List Fm} (hd:T.Nodup) {i:Nat} {f:Fm} (h:T[i]? =some f):posF T f=i:=by
 have key:∀(xs:List Fm) (j i:Nat),xs.Nodup->xs[i]? =some f->idxF f xs j=((j+i:Nat):Int):=by
  intro xs
  induction xs with
  |nil=>intro j i _ h;simp at h
  | cons x xs ih =>
   intro j i hd h
   unfold idxF
   cases i with
   | zero =>
    simp only[List.getElem?_cons_zero,Option.some.injEq]at h
    rw[if_pos h];rfl
   | succ i =>
    simp only[List.getElem?_cons_succ]at h
    have hne:x≠f:=fun e=>by subst e;exact(List.nodup_cons.1 hd).1 (List.mem_of_getElem? h)
    rw[if_neg hne,ih (j+1) i (List.nodup_cons.1 hd).2 h]
    congr 1;omega
 unfold posF
 rw[key T 0 i hd h];omega
theorem idxF_cons (f x:Fm) (xs:List Fm) (i:Nat):idxF f (x::xs) i=if x=f then (i:Int)else idxF f xs (i+1):=rfl
theorem mget_from (f:Fm) (hf:goodF f):∀(xs:List Fm) (i:Nat) (acc:List (ByteArray×Int)),(∀x∈xs,goodF x)->xs.Nodup->mget (idxMapFrom xs i acc) (Fm.text f)=if f∈xs then some (idxF f xs i)else mget acc (Fm.text f)
 |[],i,acc,_,_=>by simp[idxMapFrom]
 | x :: xs, i, acc, hg, hd => by
  unfold idxMapFrom
  obtain⟨hn,hd⟩:=List.nodup_cons.1 hd
  rw[mget_from f hf xs (i+1) _ (fun y hy=>hg y (by simp[hy])) hd]
  rw[idxF_cons]
  by_cases e:x=f
  ·subst e
   rw[if_neg hn,if_pos (by simp),if_pos rfl]
   simp[mget]
  ·rw[if_neg e]
   have hne:Fm.text x≠Fm.text f:=fun q=>e (text_eq_inj (hg x (by simp)).2 hf.2 q)
   by_cases hm:f∈xs
   ·rw[if_pos hm,if_pos (by simp[hm])]
   ·rw[if_neg hm,if_neg (by simp[hm,Ne.symm e])]
    simp[mget,hne]
theorem mval_idx {T:List Fm} {f:Fm} (hf:goodF f) (hg:∀x∈T,goodF x) (hd:T.Nodup):mval (idxMapFrom T 0 []) (Fm.text f) 0=(posF T f:Int):=by
 unfold mval
 rw[mget_from f hf T 0 [] hg hd]
 by_cases h:f∈T
 ·rw[if_pos h]
  have:=idxF_sign f T 0
  rw[decide_eq_true h,decide_eq_true_eq]at this
  show idxF f T 0=_
  unfold posF;omega
 ·rw[if_neg h]
  have:=idxF_sign f T 0
  rw[decide_eq_false h,decide_eq_false_iff_not]at this
  unfold posF mget
  show (0:Int)=_
  omega
end Go.Proofs.YtjafncnjefnloaaDoor.Den

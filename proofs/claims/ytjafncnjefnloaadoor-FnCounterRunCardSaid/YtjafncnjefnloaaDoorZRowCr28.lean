/-
  Texts that the claim rests on, merged: PA, PDraw, PDrawM.
-/
import Derived.Test.YtjafncnjefnloaaDoorZRowCr11
import Derived.Test.YtjafncnjefnloaaDoorZRowCr13

namespace Go.Proofs.YtjafncnjefnloaaDoor.Den
open Go.RowKit
set_option maxRecDepth 100000
set_option linter.unusedVariables false
namespace s_l1Byte
structure Gs where
 none_:Unit
noncomputable def ents (_:Gs):List Ent:=[]
noncomputable def main {R:Type} (G:Gs) (n:Nat) (c:Cur) (K:Int->Cur->Option R):Option R:=
 Option.bind (bif decide (0<=33)then some (Abs.bitsI .shr .i64 (wr ((wr ((Cur.h c)*6364136223846793005))+1442695040888963407)) 33)else none) fun q2=>
 Option.bind (bif decide (0<=45)then some (Abs.bitsI .shr .i64 (wr ((wr ((Cur.h c)*6364136223846793005))+1442695040888963407)) 45)else none) fun q4=>
 bif decide ((Cur.i c)<(List.length (Cur.b c):Int))then
  (
  Option.bind (ix (Cur.b c) (Cur.i c)) fun e2=>
  K (Abs.bitsI .and .i64 (wr ((Abs.bitsI .and .i64 (Abs.bitsI .xor .i64 q2 q4) 255)+e2)) 255) (Cur.mk (Cur.b c) (wr ((Cur.i c)+1)) (wr ((wr ((Cur.h c)*6364136223846793005))+1442695040888963407)))
  )
 else
  K (Abs.bitsI .and .i64 (Abs.bitsI .xor .i64 q2 q4) 255) (Cur.mk (Cur.b c) (Cur.i c) (wr ((wr ((Cur.h c)*6364136223846793005))+1442695040888963407)))
noncomputable def pc (_:Gs) (_:Nat):Pcs:=⟨fun _ _ _ _=>none,fun _ _ _ _=>none,fun _ _ _ _=>none⟩
noncomputable def an:Ann:=⟨58,1,[],[],[2],[(2,⟨[([0,1,2,3,4,5,6,7,8,9,10,11,12],[],[])],[],[],[0],[]⟩),(3,⟨[([0,1,2,3,4,5,6,7,8,9],[],[])],[],[],[0],[]⟩),(4,⟨[([0,1,2,3,4,5,6,7,8,9,10,11,12,13,14],[],[])],[],[],[0],[]⟩)],[]⟩
noncomputable abbrev bd:=bodyOf Tryd.f114
noncomputable def Does (G:Gs) (c:Cur) (r:Int×Cur):Prop:=∃n,main (R:=AT×List Ob) G n c (fun r0 r1=>some (.one (.i r0),[.box [.l .u (Cur.b r1),.i (Cur.i r1),.i (Cur.h r1)]]))=some (.one (.i r.1),[.box [.l .u (Cur.b r.2),.i (Cur.i r.2),.i (Cur.h r.2)]])
theorem ok {G:Gs} (hG:AllE Tryd.prog (ents G)) {g:Cur->Option (Int×Cur)} (hg:∀c r,g c=some r->Does G c r):EntOK Tryd.prog (ent g):=fun R xs H K r hc=>by
 simp only[ent]at hc
 split at hc
 ·obtain⟨r,j1,j2⟩:=bind_some hc
  obtain⟨n,j3⟩:=hg _ _ j1
  exact⟨_,_,j2,fnP hG an (pc G n) bd [.tmp 2] Tryd.func114 (.inl rfl) (apl [] trivial) (.trans (by kernel_rfl) j3)⟩
 ·cases hc
end s_l1Byte
namespace s_l1Below
structure Gs where
 s_l1Byte:Cur->Option (Int×Cur)
noncomputable def ents (G:Gs):List Ent:=[s_l1Byte.ent G.s_l1Byte]
noncomputable def main {R:Type} (G:Gs) (n:Nat) (c:Cur) (n1:Int) (K:Int->Cur->Option R):Option R:=
 bif decide (n1<=0)then
  (K 0 c)
 else
  bif decide (n1<=256)then
   (
   Option.bind (G.s_l1Byte c) fun r=>
   Option.bind (bif decide (0<=r.1)&&decide (0<n1)then some (r.1%n1)else none) fun q=>
   K q r.2
   )
  else
   Option.bind (G.s_l1Byte c) fun r2=>
   Option.bind (G.s_l1Byte r2.2) fun r3=>
   Option.bind (G.s_l1Byte r3.2) fun r4=>
   Option.bind (G.s_l1Byte r4.2) fun r5=>
   Option.bind (bif decide (0<=(wr ((wr ((wr ((wr (r2.1*16777216))+(wr (r3.1*65536))))+(wr (r4.1*256))))+r5.1)))&&decide (0<n1)then some ((wr ((wr ((wr ((wr (r2.1*16777216))+(wr (r3.1*65536))))+(wr (r4.1*256))))+r5.1))%n1)else none) fun q2=>
   K q2 r5.2
noncomputable def pc (_:Gs) (_:Nat):Pcs:=⟨fun _ _ _ _=>none,fun _ _ _ _=>none,fun _ _ _ _=>none⟩
noncomputable def an:Ann:=⟨37,1,[],[],[4],[],[]⟩
noncomputable abbrev bd:=bodyOf Tryd.f100
noncomputable def Does (G:Gs) (c:Cur) (n1:Int) (r:Int×Cur):Prop:=∃n,main (R:=AT×List Ob) G n c n1 (fun r0 r1=>some (.one (.i r0),[.box [.l .u (Cur.b r1),.i (Cur.i r1),.i (Cur.h r1)]]))=some (.one (.i r.1),[.box [.l .u (Cur.b r.2),.i (Cur.i r.2),.i (Cur.h r.2)]])
theorem ok {G:Gs} (hG:AllE Tryd.prog (ents G)) {g:Cur->Int->Option (Int×Cur)} (hg:∀c n1 r,g c n1=some r->Does G c n1 r):EntOK Tryd.prog (ent g):=fun R xs H K r hc=>by
 simp only[ent]at hc
 split at hc
 ·obtain⟨r,j1,j2⟩:=bind_some hc
  obtain⟨n,j3⟩:=hg _ _ _ j1
  exact⟨_,_,j2,fnP hG an (pc G n) bd [.tmp 4] Tryd.func100 (.inl rfl) (apl [] trivial) (.trans (by kernel_rfl) j3)⟩
 ·cases hc
end s_l1Below
namespace s_l1Once
structure Gs where
 s_l1Below:Cur->Int->Option (Int×Cur)
noncomputable def ents (G:Gs):List Ent:=[s_l1Below.ent G.s_l1Below]
noncomputable def main {R:Type} (G:Gs) (n:Nat) (c:Cur) (n1:Int) (K:Bool->Cur->Option R):Option R:=
 Option.bind (G.s_l1Below c n1) fun r=>
 K (decide (r.1=0)) r.2
noncomputable def pc (_:Gs) (_:Nat):Pcs:=⟨fun _ _ _ _=>none,fun _ _ _ _=>none,fun _ _ _ _=>none⟩
noncomputable def an:Ann:=⟨9,1,[],[],[4],[],[]⟩
noncomputable abbrev bd:=bodyOf Tryd.f101
noncomputable def Does (G:Gs) (c:Cur) (n1:Int) (r:Bool×Cur):Prop:=∃n,main (R:=AT×List Ob) G n c n1 (fun r0 r1=>some (.one (.b r0),[.box [.l .u (Cur.b r1),.i (Cur.i r1),.i (Cur.h r1)]]))=some (.one (.b r.1),[.box [.l .u (Cur.b r.2),.i (Cur.i r.2),.i (Cur.h r.2)]])
theorem ok {G:Gs} (hG:AllE Tryd.prog (ents G)) {g:Cur->Int->Option (Bool×Cur)} (hg:∀c n1 r,g c n1=some r->Does G c n1 r):EntOK Tryd.prog (ent g):=fun R xs H K r hc=>by
 simp only[ent]at hc
 split at hc
 ·obtain⟨r,j1,j2⟩:=bind_some hc
  obtain⟨n,j3⟩:=hg _ _ _ j1
  exact⟨_,_,j2,fnP hG an (pc G n) bd [.tmp 4] Tryd.func101 (.inl rfl) (apl [] trivial) (.trans (by kernel_rfl) j3)⟩
 ·cases hc
end s_l1Once
namespace s_l1New
structure Gs where
 none_:Unit
noncomputable def ents (_:Gs):List Ent:=[]
noncomputable def b3 {R:Type} (G:Gs) (n:Nat) (code:List Int) (h:Int) (i:Int) (nx:List Int->Int->Int->Option R) (k0:List Int->Int->Option R):Option R:=
 bif decide (i<(List.length code:Int))then
  (
  bif decide (i<4000)then
   (
   Option.bind (ix code i) fun e=>
   nx code (Abs.bitsI .and .i64 (wr ((wr ((wr (h*131))+e))+7)) 1073741823) (wr (i+1))
   )
  else
   k0 code h
  )
 else
  k0 code h
noncomputable def l3 {R:Type} (G:Gs) (n m:Nat) (code:List Int) (h:Int) (i:Int) (k0:List Int->Int->Option R):Option R:=iter (fun(v:List Int×Int×Int) nx=>b3 G n v.1 v.2.1 v.2.2 (fun y0 y1 y2=>nx (y0,y1,y2)) k0) m (code,h,i)
noncomputable def main {R:Type} (G:Gs) (n:Nat) (code:List Int) (K:Cur->Option R):Option R:=
 l3 G n n code (wr (124929+(List.length code:Int))) 0
  (fun code2 h=>K (Cur.mk code2 0 h))
noncomputable def dl3 (G:Gs) (n m:Nat) (R:Type) (st:St) (K:Kt R):Option R:=match st with
 |⟨[(0,.one (.l .u code)),(3,.one (.i h)),(4,.one (.i i))],[]⟩=>l3 G n m code h i (fun code h=>K (.exit 0) ⟨[(0,.one (.l .u code)),(3,.one (.i h))],[]⟩)
 |_=>none
noncomputable def pc (G:Gs) (n:Nat):Pcs:=⟨fun R id st K=>bif Nat.beq id 3 then dl3 G n n R st K else none,fun _ _ _ _=>none,fun _ _ _ _=>none⟩
noncomputable def an:Ann:=⟨32,0,[(3,[0,3,4])],[],[2],[],[]⟩
noncomputable abbrev bd:=bodyOf Tryd.f57
noncomputable abbrev q3:=nthC [1,1,0,1,0,0] bd
theorem pl3 {G:Gs} (hG:AllE Tryd.prog (ents G)) (n:Nat):∀m,PieceOK Tryd.prog an (.loop q3) (dl3 G n m):=lpc hG (pc G n) [0,3,4] ⟨[0,3],[2],[(0,[0,3])]⟩ (apl [] trivial) (fun R st K=>by unfold dl3;split<;>rfl) fun m R st K r h=>by unfold dl3 at h;split at h;exact .trans (by kernel_rfl) h;cases h
noncomputable def Does (G:Gs) (code:List Int) (r:Cur):Prop:=∃n,main (R:=AT×List Ob) G n code (fun r0=>some (.one (.p 0 0),[.box [.l .u (Cur.b r0),.i (Cur.i r0),.i (Cur.h r0)]]))=some (.one (.p 0 0),[.box [.l .u (Cur.b r),.i (Cur.i r),.i (Cur.h r)]])
theorem ok {G:Gs} (hG:AllE Tryd.prog (ents G)) {g:List Int->Option (Cur)} (hg:∀code r,g code=some r->Does G code r):EntOK Tryd.prog (ent g):=fun R xs H K r hc=>by
 simp only[ent]at hc
 split at hc
 ·obtain⟨r,j1,j2⟩:=bind_some hc
  obtain⟨n,j3⟩:=hg _ _ j1
  exact⟨_,_,j2,fnP hG an (pc G n) bd [.tmp 2] Tryd.func57 (.inr rfl) (apl [(1,3,.loop q3)] ⟨pl3 hG n n,trivial⟩) (.trans (by kernel_rfl) j3)⟩
 ·cases hc
end s_l1New
namespace s_l1PickInt
structure Gs where
 s_l1Below:Cur->Int->Option (Int×Cur)
noncomputable def ents (G:Gs):List Ent:=[s_l1Below.ent G.s_l1Below]
noncomputable def main {R:Type} (G:Gs) (n:Nat) (c:Cur) (list:List Int) (K:Int->Cur->Option R):Option R:=
 Option.bind (G.s_l1Below c (List.length list:Int)) fun r=>
 Option.bind (ix list r.1) fun e=>
 K e r.2
noncomputable def pc (_:Gs) (_:Nat):Pcs:=⟨fun _ _ _ _=>none,fun _ _ _ _=>none,fun _ _ _ _=>none⟩
noncomputable def an:Ann:=⟨12,1,[],[],[4],[],[]⟩
noncomputable abbrev bd:=bodyOf Tryd.f75
noncomputable def Does (G:Gs) (c:Cur) (list:List Int) (r:Int×Cur):Prop:=∃n,main (R:=AT×List Ob) G n c list (fun r0 r1=>some (.one (.i r0),[.box [.l .u (Cur.b r1),.i (Cur.i r1),.i (Cur.h r1)]]))=some (.one (.i r.1),[.box [.l .u (Cur.b r.2),.i (Cur.i r.2),.i (Cur.h r.2)]])
theorem ok {G:Gs} (hG:AllE Tryd.prog (ents G)) {g:Cur->List Int->Option (Int×Cur)} (hg:∀c list r,g c list=some r->Does G c list r):EntOK Tryd.prog (ent g):=fun R xs H K r hc=>by
 simp only[ent]at hc
 split at hc
 ·obtain⟨r,j1,j2⟩:=bind_some hc
  obtain⟨n,j3⟩:=hg _ _ _ j1
  exact⟨_,_,j2,fnP hG an (pc G n) bd [.tmp 4] Tryd.func75 (.inl rfl) (apl [] trivial) (.trans (by kernel_rfl) j3)⟩
 ·cases hc
end s_l1PickInt
namespace s_l31Marks_o
structure Gs where
 s_l1Below:Cur->Int->Option (Int×Cur)
noncomputable def ents (G:Gs):List Ent:=[s_l1Below.ent G.s_l1Below]
noncomputable def b3 {R:Type} (G:Gs) (n:Nat) (n1:Int) (i:Int) (h0:List Int) (h02:Int) (h03:Int) (h1:List Int) (nx:Int->Int->List Int->Int->Int->List Int->Option R) (k0:List Int->Int->Int->List Int->Option R):Option R:=
 bif decide (i<n1)then
  (
  Option.bind (G.s_l1Below (Cur.mk h0 h02 h03) 8) fun r=>
  Option.bind (lim (h1++[r.1])) fun zs=>
  nx n1 (wr (i+1)) (Cur.b r.2) (Cur.i r.2) (Cur.h r.2) zs
  )
 else
  k0 h0 h02 h03 h1
noncomputable def l3 {R:Type} (G:Gs) (n m:Nat) (n1:Int) (i:Int) (h0:List Int) (h02:Int) (h03:Int) (h1:List Int) (k0:List Int->Int->Int->List Int->Option R):Option R:=iter (fun(v:Int×Int×List Int×Int×Int×List Int) nx=>b3 G n v.1 v.2.1 v.2.2.1 v.2.2.2.1 v.2.2.2.2.1 v.2.2.2.2.2 (fun y0 y1 y2 y3 y4 y5=>nx (y0,y1,y2,y3,y4,y5)) k0) m (n1,i,h0,h02,h03,h1)
noncomputable def main {R:Type} (G:Gs) (n:Nat) (c:Cur) (n1:Int) (K:List Int->Cur->Option R):Option R:=
 l3 G n n n1 0 (Cur.b c) (Cur.i c) (Cur.h c) []
  (fun h0 h02 h03 h1=>K h1 (Cur.mk h0 h02 h03))
noncomputable def dl3 (G:Gs) (n m:Nat) (R:Type) (st:St) (K:Kt R):Option R:=match st with
 |⟨[(0,.one (.p 0 0)),(1,.one (.i n1)),(5,.one (.o 1)),(6,.one (.i i))],[.box [.l .u h0,.i h02,.i h03],.row .i 0 h1]⟩=>l3 G n m n1 i h0 h02 h03 h1 (fun h0 h02 h03 h1=>K (.exit 0) ⟨[(5,.one (.o 1))],[.box [.l .u h0,.i h02,.i h03],.row .i 0 h1]⟩)
 |_=>none
noncomputable def pc (G:Gs) (n:Nat):Pcs:=⟨fun R id st K=>bif Nat.beq id 3 then dl3 G n n R st K else none,fun _ _ _ _=>none,fun _ _ _ _=>none⟩
noncomputable def an:Ann:=⟨19,1,[(3,[0,1,5,6])],[],[4],[],[]⟩
noncomputable abbrev bd:=bodyOf Tryd.f102
noncomputable abbrev q3:=nthC [1,1,0,1,0,0] bd
theorem pl3 {G:Gs} (hG:AllE Tryd.prog (ents G)) (n:Nat):∀m,PieceOK Tryd.prog an (.loop q3) (dl3 G n m):=lpc hG (pc G n) [0,1,5,6] ⟨[5],[4],[(0,[5])]⟩ (apl [] trivial) (fun R st K=>by unfold dl3;split<;>rfl) fun m R st K r h=>by unfold dl3 at h;split at h;exact .trans (by kernel_rfl) h;cases h
noncomputable def Does (G:Gs) (c:Cur) (n1:Int) (r:List Int×Cur):Prop:=∃n,main (R:=AT×List Ob) G n c n1 (fun r0 r1=>some (.one (.o 1),[.box [.l .u (Cur.b r1),.i (Cur.i r1),.i (Cur.h r1)],.row .i 0 r0]))=some (.one (.o 1),[.box [.l .u (Cur.b r.2),.i (Cur.i r.2),.i (Cur.h r.2)],.row .i 0 r.1])
theorem ok {G:Gs} (hG:AllE Tryd.prog (ents G)) {g:Cur->Int->Option (List Int×Cur)} (hg:∀c n1 r,g c n1=some r->Does G c n1 r):EntOK Tryd.prog (ent g):=fun R xs H K r hc=>by
 simp only[ent]at hc
 split at hc
 ·obtain⟨r,j1,j2⟩:=bind_some hc
  obtain⟨n,j3⟩:=hg _ _ _ j1
  exact⟨_,_,j2,fnP hG an (pc G n) bd [.tmp 4] Tryd.func102 (.inr rfl) (apl [(1,3,.loop q3)] ⟨pl3 hG n n,trivial⟩) (.trans (by kernel_rfl) j3)⟩
 ·cases hc
end s_l31Marks_o
namespace s_l31Draw
structure Gs where
 s_l1Below:Cur->Int->Option (Int×Cur)
 s_l1Once:Cur->Int->Option (Bool×Cur)
 s_l31Draw:Cur->Int->Option (Fm×Cur)
noncomputable def ents (G:Gs):List Ent:=[s_l1Below.ent G.s_l1Below,s_l1Once.ent G.s_l1Once,ent G.s_l31Draw]
noncomputable def c3 {R:Type} (G:Gs) (n:Nat) (h0:List Int) (h02:Int) (h03:Int) (h1:Int) (h12:Int) (h2:List Fm) (k0:List Int->Int->Int->Int->Int->List Fm->Option R):Option R:=
 Option.bind (G.s_l1Once (Cur.mk h0 h02 h03) 6) fun r=>
 bif r.1 then
  (k0 (Cur.b r.2) (Cur.i r.2) (Cur.h r.2) 1 0 [])
 else
  Option.bind (G.s_l1Below r.2 3) fun r2=>
  k0 (Cur.b r2.2) (Cur.i r2.2) (Cur.h r2.2) 2 r2.1 []
noncomputable def c8 {R:Type} (G:Gs) (n:Nat) (d:Int) (h0:List Int) (h02:Int) (h03:Int) (h1:Int) (h12:Int) (h2:List Fm) (h3:Int) (h32:Int) (h4:List Fm) (k0:List Int->Int->Int->Int->Int->List Fm->Int->Int->List Fm->Option R):Option R:=
 Option.bind (G.s_l31Draw (Cur.mk h0 h02 h03) (wr (d-1))) fun r2=>
 Option.bind (lim (h4++[(Fm.mk (Fm.kind r2.1) (Fm.prop r2.1) (Fm.kids r2.1))])) fun zs2=>
 k0 (Cur.b r2.2) (Cur.i r2.2) (Cur.h r2.2) h1 h12 h2 h3 h32 zs2
noncomputable def main {R:Type} (G:Gs) (n:Nat) (c:Cur) (d:Int) (K:Fm->Cur->Option R):Option R:=
 Option.bind (G.s_l1Below c 7) fun r=>
 bif decide (d<=0)then
  (
  c3 G n (Cur.b r.2) (Cur.i r.2) (Cur.h r.2) 0 0 []
   (fun h0 h02 h03 h1 h12 h2=>K (Fm.mk h1 h12 h2) (Cur.mk h0 h02 h03))
  )
 else
  bif decide ((wr (1+r.1))<=2)then
   (
   c3 G n (Cur.b r.2) (Cur.i r.2) (Cur.h r.2) 0 0 []
    (fun h04 h022 h032 h13 h122 h22=>K (Fm.mk h13 h122 h22) (Cur.mk h04 h022 h032))
   )
  else
   Option.bind (G.s_l31Draw r.2 (wr (d-1))) fun r2=>
   bif decide ((wr (1+r.1))=4)then
    (
    c8 G n d (Cur.b r2.2) (Cur.i r2.2) (Cur.h r2.2) 0 0 [] (wr (1+r.1)) 0 [(Fm.mk (Fm.kind r2.1) (Fm.prop r2.1) (Fm.kids r2.1))]
     (fun h05 h023 h033 h14 h123 h23 h3 h32 h4=>K (Fm.mk h3 h32 h4) (Cur.mk h05 h023 h033))
    )
   else
    bif decide ((wr (1+r.1))=5)then
     (
     c8 G n d (Cur.b r2.2) (Cur.i r2.2) (Cur.h r2.2) 0 0 [] (wr (1+r.1)) 0 [(Fm.mk (Fm.kind r2.1) (Fm.prop r2.1) (Fm.kids r2.1))]
      (fun h06 h024 h034 h15 h124 h24 h33 h322 h42=>K (Fm.mk h33 h322 h42) (Cur.mk h06 h024 h034))
     )
    else
     bif decide ((wr (1+r.1))=7)then
      (
      c8 G n d (Cur.b r2.2) (Cur.i r2.2) (Cur.h r2.2) 0 0 [] (wr (1+r.1)) 0 [(Fm.mk (Fm.kind r2.1) (Fm.prop r2.1) (Fm.kids r2.1))]
       (fun h07 h025 h035 h16 h125 h25 h34 h323 h43=>K (Fm.mk h34 h323 h43) (Cur.mk h07 h025 h035))
      )
     else
      K (Fm.mk (wr (1+r.1)) 0 [(Fm.mk (Fm.kind r2.1) (Fm.prop r2.1) (Fm.kids r2.1))]) r2.2
noncomputable def dc3 (G:Gs) (n:Nat) (R:Type) (st:St) (K:Kt R):Option R:=match st with
 |⟨[(0,.one (.p 0 0)),(4,.one (.p 1 0))],[.box [.l .u h0,.i h02,.i h03],.box [.i h1,.i h12,.o 2],.row (.n 2) 0 h2]⟩=>c3 G n h0 h02 h03 h1 h12 h2 (fun h0 h02 h03 h1 h12 h2=>K .ret ⟨[(4,.one (.p 1 0))],[.box [.l .u h0,.i h02,.i h03],.box [.i h1,.i h12,.o 2],.row (.n 2) 0 h2]⟩)
 |_=>none
noncomputable def dc8 (G:Gs) (n:Nat) (R:Type) (st:St) (K:Kt R):Option R:=match st with
 |⟨[(0,.one (.p 0 0)),(1,.one (.i d)),(4,.one (.p 1 0)),(6,.one (.p 3 0))],[.box [.l .u h0,.i h02,.i h03],.box [.i h1,.i h12,.o 2],.row (.n 2) 0 h2,.box [.i h3,.i h32,.o 4],.row (.n 2) 0 h4]⟩=>c8 G n d h0 h02 h03 h1 h12 h2 h3 h32 h4 (fun h0 h02 h03 h1 h12 h2 h3 h32 h4=>K .normal ⟨[(4,.one (.p 1 0)),(6,.one (.p 3 0))],[.box [.l .u h0,.i h02,.i h03],.box [.i h1,.i h12,.o 2],.row (.n 2) 0 h2,.box [.i h3,.i h32,.o 4],.row (.n 2) 0 h4]⟩)
 |_=>none
noncomputable def pc (G:Gs) (n:Nat):Pcs:=⟨fun _ _ _ _=>none,fun R id st K=>bif Nat.beq id 3 then dc3 G n R st K else bif Nat.beq id 8 then dc8 G n R st K else none,fun _ _ _ _=>none⟩
noncomputable def an:Ann:=⟨49,1,[],[(3,[0,4]),(8,[0,1,4,6])],[4],[(8,⟨[([2,3,4,5,0,1,6,7,8,9],[5,7,9],[1])],[5,7,9],[],[1,2],[]⟩)],[]⟩
noncomputable abbrev bd:=bodyOf Tryd.f103
noncomputable abbrev q3:=nthC [1,1,0,1,0] bd
noncomputable abbrev q8:=nthC [1,1,1,1,0,1,0] bd
theorem pc3 {G:Gs} (hG:AllE Tryd.prog (ents G)) {n:Nat}:PieceOK Tryd.prog an q3 (dc3 G n):=cpc hG (pc G n) ⟨[0,1,4,5],[4],[]⟩ (apl [] trivial) fun R st K r h=>by unfold dc3 at h;split at h;exact .trans (by kernel_rfl) h;cases h
theorem pc8 {G:Gs} (hG:AllE Tryd.prog (ents G)) {n:Nat}:PieceOK Tryd.prog an q8 (dc8 G n):=cpc hG (pc G n) ⟨[4,6],[4],[]⟩ (apl [] trivial) fun R st K r h=>by unfold dc8 at h;split at h;exact .trans (by kernel_rfl) h;cases h
noncomputable def Does (G:Gs) (c:Cur) (d:Int) (r:Fm×Cur):Prop:=∃n,main (R:=AT×List Ob) G n c d (fun r0 r1=>some (.agg [.i (Fm.kind r0),.i (Fm.prop r0),.l (.n 2) (Fm.kids r0)],[.box [.l .u (Cur.b r1),.i (Cur.i r1),.i (Cur.h r1)]]))=some (.agg [.i (Fm.kind r.1),.i (Fm.prop r.1),.l (.n 2) (Fm.kids r.1)],[.box [.l .u (Cur.b r.2),.i (Cur.i r.2),.i (Cur.h r.2)]])
theorem ok {G:Gs} (hG:AllE Tryd.prog (ents G)) {g:Cur->Int->Option (Fm×Cur)} (hg:∀c d r,g c d=some r->Does G c d r):EntOK Tryd.prog (ent g):=fun R xs H K r hc=>by
 simp only[ent]at hc
 split at hc
 ·obtain⟨r,j1,j2⟩:=bind_some hc
  obtain⟨n,j3⟩:=hg _ _ _ j1
  exact⟨_,_,j2,fnP hG an (pc G n) bd [.cell 4 43] Tryd.func103 (.inl rfl) (apl [(0,3,q3),(0,8,q8)] ⟨pc3 hG,⟨pc8 hG,trivial⟩⟩) (.trans (by kernel_rfl) j3)⟩
 ·cases hc
end s_l31Draw
namespace s_l31Draw_o
structure Gs where
 s_l1Below:Cur->Int->Option (Int×Cur)
 s_l1Once:Cur->Int->Option (Bool×Cur)
 s_l31Draw:Cur->Int->Option (Fm×Cur)
noncomputable def ents (G:Gs):List Ent:=[s_l1Below.ent G.s_l1Below,s_l1Once.ent G.s_l1Once,s_l31Draw.ent G.s_l31Draw]
noncomputable def c3 {R:Type} (G:Gs) (n:Nat) (h0:List Int) (h02:Int) (h03:Int) (h1:Int) (h12:Int) (h2:List Fm) (k0:List Int->Int->Int->Int->Int->List Fm->Option R):Option R:=
 Option.bind (G.s_l1Once (Cur.mk h0 h02 h03) 6) fun r=>
 bif r.1 then
  (k0 (Cur.b r.2) (Cur.i r.2) (Cur.h r.2) 1 0 [])
 else
  Option.bind (G.s_l1Below r.2 3) fun r2=>
  k0 (Cur.b r2.2) (Cur.i r2.2) (Cur.h r2.2) 2 r2.1 []
noncomputable def c8 {R:Type} (G:Gs) (n:Nat) (d:Int) (h0:List Int) (h02:Int) (h03:Int) (h1:Int) (h12:Int) (h2:List Fm) (h3:Int) (h32:Int) (h4:List Fm) (k0:List Int->Int->Int->Int->Int->List Fm->Int->Int->List Fm->Option R):Option R:=
 Option.bind (G.s_l31Draw (Cur.mk h0 h02 h03) (wr (d-1))) fun r2=>
 Option.bind (lim (h4++[(Fm.mk (Fm.kind r2.1) (Fm.prop r2.1) (Fm.kids r2.1))])) fun zs2=>
 k0 (Cur.b r2.2) (Cur.i r2.2) (Cur.h r2.2) h1 h12 h2 h3 h32 zs2
noncomputable def main {R:Type} (G:Gs) (n:Nat) (c:Cur) (d:Int) (K:Fm->Cur->Option R):Option R:=
 Option.bind (G.s_l1Below c 7) fun r=>
 bif decide (d<=0)then
  (
  c3 G n (Cur.b r.2) (Cur.i r.2) (Cur.h r.2) 0 0 []
   (fun h0 h02 h03 h1 h12 h2=>K (Fm.mk h1 h12 h2) (Cur.mk h0 h02 h03))
  )
 else
  bif decide ((wr (1+r.1))<=2)then
   (
   c3 G n (Cur.b r.2) (Cur.i r.2) (Cur.h r.2) 0 0 []
    (fun h04 h022 h032 h13 h122 h22=>K (Fm.mk h13 h122 h22) (Cur.mk h04 h022 h032))
   )
  else
   Option.bind (G.s_l31Draw r.2 (wr (d-1))) fun r2=>
   bif decide ((wr (1+r.1))=4)then
    (
    c8 G n d (Cur.b r2.2) (Cur.i r2.2) (Cur.h r2.2) 0 0 [] (wr (1+r.1)) 0 [(Fm.mk (Fm.kind r2.1) (Fm.prop r2.1) (Fm.kids r2.1))]
     (fun h05 h023 h033 h14 h123 h23 h3 h32 h4=>K (Fm.mk h3 h32 h4) (Cur.mk h05 h023 h033))
    )
   else
    bif decide ((wr (1+r.1))=5)then
     (
     c8 G n d (Cur.b r2.2) (Cur.i r2.2) (Cur.h r2.2) 0 0 [] (wr (1+r.1)) 0 [(Fm.mk (Fm.kind r2.1) (Fm.prop r2.1) (Fm.kids r2.1))]
      (fun h06 h024 h034 h15 h124 h24 h33 h322 h42=>K (Fm.mk h33 h322 h42) (Cur.mk h06 h024 h034))
     )
    else
     bif decide ((wr (1+r.1))=7)then
      (
      c8 G n d (Cur.b r2.2) (Cur.i r2.2) (Cur.h r2.2) 0 0 [] (wr (1+r.1)) 0 [(Fm.mk (Fm.kind r2.1) (Fm.prop r2.1) (Fm.kids r2.1))]
       (fun h07 h025 h035 h16 h125 h25 h34 h323 h43=>K (Fm.mk h34 h323 h43) (Cur.mk h07 h025 h035))
      )
     else
      K (Fm.mk (wr (1+r.1)) 0 [(Fm.mk (Fm.kind r2.1) (Fm.prop r2.1) (Fm.kids r2.1))]) r2.2
noncomputable def dc3 (G:Gs) (n:Nat) (R:Type) (st:St) (K:Kt R):Option R:=match st with
 |⟨[(0,.one (.p 0 0)),(4,.one (.p 1 0))],[.box [.l .u h0,.i h02,.i h03],.box [.i h1,.i h12,.o 2],.row (.n 2) 0 h2]⟩=>c3 G n h0 h02 h03 h1 h12 h2 (fun h0 h02 h03 h1 h12 h2=>K .ret ⟨[(4,.one (.p 1 0))],[.box [.l .u h0,.i h02,.i h03],.box [.i h1,.i h12,.o 2],.row (.n 2) 0 h2]⟩)
 |_=>none
noncomputable def dc8 (G:Gs) (n:Nat) (R:Type) (st:St) (K:Kt R):Option R:=match st with
 |⟨[(0,.one (.p 0 0)),(1,.one (.i d)),(4,.one (.p 1 0)),(6,.one (.p 3 0))],[.box [.l .u h0,.i h02,.i h03],.box [.i h1,.i h12,.o 2],.row (.n 2) 0 h2,.box [.i h3,.i h32,.o 4],.row (.n 2) 0 h4]⟩=>c8 G n d h0 h02 h03 h1 h12 h2 h3 h32 h4 (fun h0 h02 h03 h1 h12 h2 h3 h32 h4=>K .normal ⟨[(4,.one (.p 1 0)),(6,.one (.p 3 0))],[.box [.l .u h0,.i h02,.i h03],.box [.i h1,.i h12,.o 2],.row (.n 2) 0 h2,.box [.i h3,.i h32,.o 4],.row (.n 2) 0 h4]⟩)
 |_=>none
noncomputable def pc (G:Gs) (n:Nat):Pcs:=⟨fun _ _ _ _=>none,fun R id st K=>bif Nat.beq id 3 then dc3 G n R st K else bif Nat.beq id 8 then dc8 G n R st K else none,fun _ _ _ _=>none⟩
noncomputable def an:Ann:=⟨49,1,[],[(3,[0,4]),(8,[0,1,4,6])],[4],[(8,⟨[([2,3,4,5,0,1,6,7,8,9],[5,7,9],[1])],[5,7,9],[],[1,2],[]⟩)],[]⟩
noncomputable abbrev bd:=bodyOf Tryd.f103
noncomputable abbrev q3:=nthC [1,1,0,1,0] bd
noncomputable abbrev q8:=nthC [1,1,1,1,0,1,0] bd
theorem pc3 {G:Gs} (hG:AllE Tryd.prog (ents G)) {n:Nat}:PieceOK Tryd.prog an q3 (dc3 G n):=cpc hG (pc G n) ⟨[0,1,4,5],[4],[]⟩ (apl [] trivial) fun R st K r h=>by unfold dc3 at h;split at h;exact .trans (by kernel_rfl) h;cases h
theorem pc8 {G:Gs} (hG:AllE Tryd.prog (ents G)) {n:Nat}:PieceOK Tryd.prog an q8 (dc8 G n):=cpc hG (pc G n) ⟨[4,6],[4],[]⟩ (apl [] trivial) fun R st K r h=>by unfold dc8 at h;split at h;exact .trans (by kernel_rfl) h;cases h
noncomputable def Does (G:Gs) (c:Cur) (d:Int) (r:Fm×Cur):Prop:=∃n,main (R:=AT×List Ob) G n c d (fun r0 r1=>some (.agg [.i (Fm.kind r0),.i (Fm.prop r0),.o 1],[.box [.l .u (Cur.b r1),.i (Cur.i r1),.i (Cur.h r1)],.row (.n 2) 0 (Fm.kids r0)]))=some (.agg [.i (Fm.kind r.1),.i (Fm.prop r.1),.o 1],[.box [.l .u (Cur.b r.2),.i (Cur.i r.2),.i (Cur.h r.2)],.row (.n 2) 0 (Fm.kids r.1)])
theorem ok {G:Gs} (hG:AllE Tryd.prog (ents G)) {g:Cur->Int->Option (Fm×Cur)} (hg:∀c d r,g c d=some r->Does G c d r):EntOK Tryd.prog (ent g):=fun R xs H K r hc=>by
 simp only[ent]at hc
 split at hc
 ·obtain⟨r,j1,j2⟩:=bind_some hc
  obtain⟨n,j3⟩:=hg _ _ _ j1
  exact⟨_,_,j2,fnP hG an (pc G n) bd [.cell 4 43] Tryd.func103 (.inr rfl) (apl [(0,3,q3),(0,8,q8)] ⟨pc3 hG,⟨pc8 hG,trivial⟩⟩) (.trans (by kernel_rfl) j3)⟩
 ·cases hc
end s_l31Draw_o
namespace s_l31Bent
structure Gs where
 s_l31Draw_o:Cur->Int->Option (Fm×Cur)
 s_l1Below:Cur->Int->Option (Int×Cur)
noncomputable def ents (G:Gs):List Ent:=[s_l31Draw_o.ent G.s_l31Draw_o,s_l1Below.ent G.s_l1Below]
noncomputable def main {R:Type} (G:Gs) (n:Nat) (c:Cur) (K:Fm->Cur->Option R):Option R:=
 Option.bind (G.s_l31Draw_o c 3) fun r=>
 Option.bind (G.s_l1Below r.2 14) fun r2=>
 bif decide (r2.1=0)then
  (K (Fm.mk (Fm.kind r.1) 8 (Fm.kids r.1)) r2.2)
 else
  bif decide (r2.1=1)then
   (
   Option.bind (lim ((Fm.kids r.1)++[(Fm.mk 1 0 [])])) fun zs=>
   K (Fm.mk (Fm.kind r.1) (Fm.prop r.1) zs) r2.2
   )
  else
   bif decide (r2.1=2)then
    (
    Option.bind (G.s_l1Below r2.2 10) fun r3=>
    K (Fm.mk (wr (r3.1-1)) (Fm.prop r.1) (Fm.kids r.1)) r3.2
    )
   else
    K (Fm.mk (Fm.kind r.1) (Fm.prop r.1) (Fm.kids r.1)) r2.2
noncomputable def pc (_:Gs) (_:Nat):Pcs:=⟨fun _ _ _ _=>none,fun _ _ _ _=>none,fun _ _ _ _=>none⟩
noncomputable def an:Ann:=⟨26,1,[],[],[2],[],[]⟩
noncomputable abbrev bd:=bodyOf Tryd.f59
noncomputable def Does (G:Gs) (c:Cur) (r:Fm×Cur):Prop:=∃n,main (R:=AT×List Ob) G n c (fun r0 r1=>some (.agg [.i (Fm.kind r0),.i (Fm.prop r0),.l (.n 2) (Fm.kids r0)],[.box [.l .u (Cur.b r1),.i (Cur.i r1),.i (Cur.h r1)]]))=some (.agg [.i (Fm.kind r.1),.i (Fm.prop r.1),.l (.n 2) (Fm.kids r.1)],[.box [.l .u (Cur.b r.2),.i (Cur.i r.2),.i (Cur.h r.2)]])
theorem ok {G:Gs} (hG:AllE Tryd.prog (ents G)) {g:Cur->Option (Fm×Cur)} (hg:∀c r,g c=some r->Does G c r):EntOK Tryd.prog (ent g):=fun R xs H K r hc=>by
 simp only[ent]at hc
 split at hc
 ·obtain⟨r,j1,j2⟩:=bind_some hc
  obtain⟨n,j3⟩:=hg _ _ j1
  exact⟨_,_,j2,fnP hG an (pc G n) bd [.cell 2 43] Tryd.func59 (.inl rfl) (apl [] trivial) (.trans (by kernel_rfl) j3)⟩
 ·cases hc
end s_l31Bent
namespace s_l32Graph
structure Gs where
 s_l1Below:Cur->Int->Option (Int×Cur)
 s_l1Once:Cur->Int->Option (Bool×Cur)
 s_l31Marks_o:Cur->Int->Option (List Int×Cur)
noncomputable def ents (G:Gs):List Ent:=[s_l1Below.ent G.s_l1Below,s_l1Once.ent G.s_l1Once,s_l31Marks_o.ent G.s_l31Marks_o]
noncomputable def b9 {R:Type} (G:Gs) (n:Nat) (n1:Int) (i:Int) (h1:Bool) (h2:List Tm) (h3:List (List Int)) (h4:Bool) (h5:List Tm) (h6:List (List Int)) (k:Int) (h0:List Int) (h02:Int) (h03:Int) (h7:List Int) (nx:Int->List Int->Int->Int->List Int->Option R) (k0:List Int->Int->Int->List Int->Option R):Option R:=
 bif decide (k<n1)then
  (
  Option.bind (G.s_l1Once (Cur.mk h0 h02 h03) 2) fun r=>
  bif r.1 then
   (
   Option.bind (lim (h7++[k])) fun zs=>
   nx (wr (k+1)) (Cur.b r.2) (Cur.i r.2) (Cur.h r.2) zs
   )
  else
   nx (wr (k+1)) (Cur.b r.2) (Cur.i r.2) (Cur.h r.2) h7
  )
 else
  k0 h0 h02 h03 h7
noncomputable def l9 {R:Type} (G:Gs) (n m:Nat) (n1:Int) (i:Int) (h1:Bool) (h2:List Tm) (h3:List (List Int)) (h4:Bool) (h5:List Tm) (h6:List (List Int)) (k:Int) (h0:List Int) (h02:Int) (h03:Int) (h7:List Int) (k0:List Int->Int->Int->List Int->Option R):Option R:=iter (fun(v:Int×List Int×Int×Int×List Int) nx=>b9 G n n1 i h1 h2 h3 h4 h5 h6 v.1 v.2.1 v.2.2.1 v.2.2.2.1 v.2.2.2.2 (fun y0 y1 y2 y3 y4=>nx (y0,y1,y2,y3,y4)) k0) m (k,h0,h02,h03,h7)
noncomputable def b4 {R:Type} (G:Gs) (n:Nat) (n1:Int) (h1:Bool) (h2:List Tm) (h3:List (List Int)) (h4:Bool) (i:Int) (h0:List Int) (h02:Int) (h03:Int) (h5:List Tm) (h6:List (List Int)) (nx:Int->List Int->Int->Int->List Tm->List (List Int)->Option R) (k0:List Int->Int->Int->List Tm->List (List Int)->Option R):Option R:=
 bif decide (i<n1)then
  (
  Option.bind (lim (h5++[(Tm.mk i ByteArray.empty 0 [])])) fun zs=>
  l9 G n n n1 i h1 h2 h3 h4 zs h6 0 h0 h02 h03 []
   (fun h04 h05 h06 h72 =>
    Option.bind (lim (h6++[h72])) fun zs2=>
    nx (wr (i+1)) h04 h05 h06 zs zs2
   )
  )
 else
  k0 h0 h02 h03 h5 h6
noncomputable def l4 {R:Type} (G:Gs) (n m:Nat) (n1:Int) (h1:Bool) (h2:List Tm) (h3:List (List Int)) (h4:Bool) (i:Int) (h0:List Int) (h02:Int) (h03:Int) (h5:List Tm) (h6:List (List Int)) (k0:List Int->Int->Int->List Tm->List (List Int)->Option R):Option R:=iter (fun(v:Int×List Int×Int×Int×List Tm×List (List Int)) nx=>b4 G n n1 h1 h2 h3 h4 v.1 v.2.1 v.2.2.1 v.2.2.2.1 v.2.2.2.2.1 v.2.2.2.2.2 (fun y0 y1 y2 y3 y4 y5=>nx (y0,y1,y2,y3,y4,y5)) k0) m (i,h0,h02,h03,h5,h6)
noncomputable def main {R:Type} (G:Gs) (n:Nat) (c:Cur) (K:Gr->List Int->Cur->Option R):Option R:=
 Option.bind (G.s_l1Below c 4) fun r=>
 l4 G n n (wr (1 + r.1)) false [] [] true 0 (Cur.b r.2) (Cur.i r.2) (Cur.h r.2) [] []
  (fun h04 h05 h06 h52 h62 =>
   Option.bind (G.s_l31Marks_o (Cur.mk h04 h05 h06) (wr (1+r.1))) fun r2=>
   Option.bind (G.s_l1Once r2.2 20) fun r3=>
   bif r3.1 then
    (
    Option.bind (lim (r2.1++[0])) fun zs=>
    K (Gr.mk h52 h62 true) zs r3.2
    )
   else
    K (Gr.mk h52 h62 true) r2.1 r3.2
  )
noncomputable def dl9 (G:Gs) (n m:Nat) (R:Type) (st:St) (K:Kt R):Option R:=match st with
 |⟨[(0,.one (.p 0 0)),(2,.one (.p 1 0)),(4,.one (.i n1)),(5,.one (.p 4 0)),(6,.one (.i i)),(7,.one (.o 7)),(8,.one (.i k))],[.box [.l .u h0,.i h02,.i h03],.box [.o 2,.o 3,.b h1],.row (.n 1) 0 h2,.row (.sl .i) 0 h3,.box [.o 5,.o 6,.b h4],.row (.n 1) 0 h5,.row (.sl .i) 0 h6,.row .i 0 h7]⟩=>l9 G n m n1 i h1 h2 h3 h4 h5 h6 k h0 h02 h03 h7 (fun h04 h05 h06 h72=>K (.exit 2) ⟨[(0,.one (.p 0 0)),(2,.one (.p 1 0)),(4,.one (.i n1)),(5,.one (.p 4 0)),(6,.one (.i i)),(7,.one (.o 7))],[.box [.l .u h04,.i h05,.i h06],.box [.o 2,.o 3,.b h1],.row (.n 1) 0 h2,.row (.sl .i) 0 h3,.box [.o 5,.o 6,.b h4],.row (.n 1) 0 h5,.row (.sl .i) 0 h6,.row .i 0 h72]⟩)
 |_=>none
noncomputable def dl4 (G:Gs) (n m:Nat) (R:Type) (st:St) (K:Kt R):Option R:=match st with
 |⟨[(0,.one (.p 0 0)),(2,.one (.p 1 0)),(4,.one (.i n1)),(5,.one (.p 4 0)),(6,.one (.i i))],[.box [.l .u h0,.i h02,.i h03],.box [.o 2,.o 3,.b h1],.row (.n 1) 0 h2,.row (.sl .i) 0 h3,.box [.o 5,.o 6,.b h4],.row (.n 1) 0 h5,.row (.sl .i) 0 h6]⟩=>l4 G n m n1 h1 h2 h3 h4 i h0 h02 h03 h5 h6 (fun h04 h05 h06 h52 h62=>K (.exit 0) ⟨[(0,.one (.p 0 0)),(2,.one (.p 1 0)),(4,.one (.i n1)),(5,.one (.p 4 0))],[.box [.l .u h04,.i h05,.i h06],.box [.o 2,.o 3,.b h1],.row (.n 1) 0 h2,.row (.sl .i) 0 h3,.box [.o 5,.o 6,.b h4],.row (.n 1) 0 h52,.row (.sl .i) 0 h62]⟩)
 |_=>none
noncomputable def pc (G:Gs) (n:Nat):Pcs:=⟨fun R id st K=>bif Nat.beq id 9 then dl9 G n n R st K else bif Nat.beq id 4 then dl4 G n n R st K else none,fun _ _ _ _=>none,fun _ _ _ _=>none⟩
noncomputable def an:Ann:=⟨54,1,[(9,[0,2,4,5,6,7,8]),(4,[0,2,4,5,6])],[],[2,3],[],[]⟩
noncomputable abbrev bd:=bodyOf Tryd.f58
noncomputable abbrev q9:=nthC [1,1,1,0,1,0,0,1,0,0,1,1,0,1,0,0] bd
noncomputable abbrev q4:=nthC [1,1,1,0,1,0,0] bd
theorem pl9 {G:Gs} (hG:AllE Tryd.prog (ents G)) (n:Nat):∀m,PieceOK Tryd.prog an (.loop q9) (dl9 G n m):=lpc hG (pc G n) [0,2,4,5,6,7,8] ⟨[0,2,4,5,6,7],[2,3],[(0,[0,2,4,5]),(1,[0,2,4,5,6]),(2,[0,2,4,5,6,7])]⟩ (apl [] trivial) (fun R st K=>by unfold dl9;split<;>rfl) fun m R st K r h=>by unfold dl9 at h;split at h;exact .trans (by kernel_rfl) h;cases h
theorem pl4 {G:Gs} (hG:AllE Tryd.prog (ents G)) (n:Nat):∀m,PieceOK Tryd.prog an (.loop q4) (dl4 G n m):=lpc hG (pc G n) [0,2,4,5,6] ⟨[0,2,4,5],[2,3],[(0,[0,2,4,5])]⟩ (apl [(1,9,.loop q9)] ⟨pl9 hG n n,trivial⟩) (fun R st K=>by unfold dl4;split<;>rfl) fun m R st K r h=>by unfold dl4 at h;split at h;exact .trans (by kernel_rfl) h;cases h
noncomputable def Does (G:Gs) (c:Cur) (r:Gr×List Int×Cur):Prop:=∃n,main (R:=AT×List Ob) G n c (fun r0 r1 r2=>some (.tup [.agg [.l (.n 1) (Gr.states r0),.l (.sl .i) (Gr.edges r0),.b (Gr.whole r0)],.one (.l .i r1)],[.box [.l .u (Cur.b r2),.i (Cur.i r2),.i (Cur.h r2)]]))=some (.tup [.agg [.l (.n 1) (Gr.states r.1),.l (.sl .i) (Gr.edges r.1),.b (Gr.whole r.1)],.one (.l .i r.2.1)],[.box [.l .u (Cur.b r.2.2),.i (Cur.i r.2.2),.i (Cur.h r.2.2)]])
theorem ok {G:Gs} (hG:AllE Tryd.prog (ents G)) {g:Cur->Option (Gr×List Int×Cur)} (hg:∀c r,g c=some r->Does G c r):EntOK Tryd.prog (ent g):=fun R xs H K r hc=>by
 simp only[ent]at hc
 split at hc
 ·obtain⟨r,j1,j2⟩:=bind_some hc
  obtain⟨n,j3⟩:=hg _ _ j1
  exact⟨_,_,j2,fnP hG an (pc G n) bd [.cell 2 38,.tmp 3] Tryd.func58 (.inl rfl) (apl [(1,4,.loop q4)] ⟨pl4 hG n n,trivial⟩) (.trans (by kernel_rfl) j3)⟩
 ·cases hc
end s_l32Graph
namespace s_DrawAllRunsHold
noncomputable abbrev bd:=bodyOf Tryd.f29
end s_DrawAllRunsHold
namespace s_DrawCounterRun
structure Gs where
 s_l1New:List Int->Option (Cur)
 s_l32Graph:Cur->Option (Gr×List Int×Cur)
 s_l31Bent:Cur->Option (Fm×Cur)
 s_l1PickInt:Cur->List Int->Option (Int×Cur)
noncomputable def ents (G:Gs):List Ent:=[s_l1New.ent G.s_l1New,s_l32Graph.ent G.s_l32Graph,s_l31Bent.ent G.s_l31Bent,s_l1PickInt.ent G.s_l1PickInt]
noncomputable def main {R:Type} (G:Gs) (n:Nat) (code:List Int) (K:Gr->List Int->Fm->Int->Option R):Option R:=
 Option.bind (G.s_l1New code) fun r=>
 Option.bind (G.s_l32Graph r) fun r2=>
 Option.bind (G.s_l31Bent r2.2.2) fun r5=>
 Option.bind (G.s_l1PickInt r5.2 [0,1,3,5,6,8]) fun r6=>
 K r2.1 r2.2.1 (Fm.mk (Fm.kind r5.1) (Fm.prop r5.1) (Fm.kids r5.1)) r6.1
noncomputable def pc (_:Gs) (_:Nat):Pcs:=⟨fun _ _ _ _=>none,fun _ _ _ _=>none,fun _ _ _ _=>none⟩
noncomputable def an:Ann:=⟨23,0,[],[],[2,3,4,5],[(3,⟨[([2,3,4,5,6,0,7,1,8,9,10],[3,6,7,9],[])],[3,6,7,9],[],[3],[]⟩)],[]⟩
noncomputable abbrev bd:=bodyOf Tryd.f35
noncomputable def Does (G:Gs) (code:List Int) (r:Gr×List Int×Fm×Int):Prop:=∃n,main (R:=AT×List Ob) G n code (fun r0 r1 r2 r3=>some (.tup [.agg [.l (.n 1) (Gr.states r0),.l (.sl .i) (Gr.edges r0),.b (Gr.whole r0)],.one (.l .i r1),.agg [.i (Fm.kind r2),.i (Fm.prop r2),.l (.n 2) (Fm.kids r2)],.one (.i r3)],[]))=some (.tup [.agg [.l (.n 1) (Gr.states r.1),.l (.sl .i) (Gr.edges r.1),.b (Gr.whole r.1)],.one (.l .i r.2.1),.agg [.i (Fm.kind r.2.2.1),.i (Fm.prop r.2.2.1),.l (.n 2) (Fm.kids r.2.2.1)],.one (.i r.2.2.2)],[])
theorem ok {G:Gs} (hG:AllE Tryd.prog (ents G)) {g:List Int->Option (Gr×List Int×Fm×Int)} (hg:∀code r,g code=some r->Does G code r):EntOK Tryd.prog (ent g):=fun R xs H K r hc=>by
 simp only[ent]at hc
 split at hc
 ·obtain⟨r,j1,j2⟩:=bind_some hc
  obtain⟨n,j3⟩:=hg _ _ j1
  exact⟨_,_,j2,fnP hG an (pc G n) bd [.cell 2 38,.tmp 3,.cell 4 43,.tmp 5] Tryd.func35 (.inl rfl) (apl [] trivial) (.trans (by kernel_rfl) j3)⟩
 ·cases hc
end s_DrawCounterRun
end Go.Proofs.YtjafncnjefnloaaDoor.Den

namespace Go.Proofs.YtjafncnjefnloaaDoor.Den
open Go.RowKit
def Inv (c:Cur):Prop:=0<=c.i/\c.i<=c.b.length/\c.b.length<=1099511627776
theorem byte_main (c:Cur) (hc:Inv c):∃x c',(∀(R:Type) (K:Int->Cur->Option R),s_l1Byte.main ⟨()⟩ 1 c K=K x c')/\0<=x/\x<=255/\Inv c':=by
 obtain⟨h0,h1,h2⟩:=hc
 by_cases hlt:c.i<c.b.length
 ·obtain⟨e,he,_⟩:=ix_in h0 hlt
  refine⟨_,_,fun R K=>by simp only[s_l1Byte.main,hlt,he,decide_true,cond_true,Option.bind_some];rfl,(and255 _).1,(and255 _).2,?_⟩
  refine⟨?_,?_,h2⟩<;>simp only<;>rw[wr_in (by omega)]<;>omega
 ·refine⟨_,_,fun R K=>by simp only[s_l1Byte.main,hlt,decide_false,cond_false];rfl,(and255 _).1,(and255 _).2,?_⟩
  exact⟨h0,h1,h2⟩
def ByteP (g:Cur->Option (Int×Cur)):Prop:=∀c,Inv c->∃r,g c=some r/\(0<=r.1/\r.1<=255/\Inv r.2)
theorem byte_ex :∃g,EntOK Tryd.prog (s_l1Byte.ent g)/\ByteP g:=by_pick (fun g hg=>s_l1Byte.ok (G:=⟨()⟩) trivial hg) fun c hc=>
 let⟨x,c',h1,h2⟩:=byte_main c hc
 ⟨(x,c'),⟨1,h1 _ _⟩,h2⟩
def BelowP (g:Cur->Int->Option (Int×Cur)):Prop:=∀c n,(Inv c/\n<=256)->∃r,g c n=some r/\(0<=r.1/\(0<n->r.1<n)/\r.1<=255/\Inv r.2)
theorem below_ex {gB:Cur->Option (Int×Cur)} (eB:EntOK Tryd.prog (s_l1Byte.ent gB)) (hB:ByteP gB):∃g,EntOK Tryd.prog (s_l1Below.ent g)/\BelowP g:=
 by_pick2 (fun g hg=>s_l1Below.ok (G:=⟨gB⟩) ⟨eB,trivial⟩ hg) fun c n ⟨hc,hn⟩=>by
  by_cases h0:n<=0
  ·exact⟨(0,c),⟨1,by simp[s_l1Below.main,h0]⟩,by simp,fun h=>by omega,by simp,hc⟩
  ·obtain⟨r,e,h1,h2,h3⟩:=hB c hc
   have hp:0<n:=by omega
   have hm:r.1%n<=r.1:=by
    rcases Int.lt_or_le r.1 n with h|h
    ·rw[Int.emod_eq_of_lt h1 h];exact Int.le_refl _
    ·exact Int.le_trans (Int.le_of_lt (Int.emod_lt_of_pos _ hp)) h
   exact⟨(r.1%n,r.2),⟨1,by simp[s_l1Below.main,h0,hn,e,h1,hp]⟩,Int.emod_nonneg _ (by omega),fun _=>Int.emod_lt_of_pos _ hp,Int.le_trans hm h2,h3⟩
def OnceP (g:Cur->Int->Option (Bool×Cur)):Prop:=∀c n,(Inv c/\n<=256)->∃r,g c n=some r/\Inv r.2
theorem once_ex {gL:Cur->Int->Option (Int×Cur)} (eL:EntOK Tryd.prog (s_l1Below.ent gL)) (hL:BelowP gL):∃g,EntOK Tryd.prog (s_l1Once.ent g)/\OnceP g:=
 by_pick2 (fun g hg=>s_l1Once.ok (G:=⟨gL⟩) ⟨eL,trivial⟩ hg) fun c n hc=>by
  obtain⟨r,e,_,_,_,h3⟩:=hL c n hc
  exact⟨(decide (r.1=0),r.2),⟨1,by simp[s_l1Once.main,e]⟩,h3⟩
def NewP (g:List Int->Option Cur):Prop:=∀code,code.length<=1048576->∃c,g code=some c/\Inv c
theorem new_loop {R:Type} (G:s_l1New.Gs) (n:Nat) (code:List Int) (hl:code.length<=1048576) (k:List Int->Int->Option R):∀m (h i:Int),0<=i->i<=code.length->(code.length-i).toNat<m->∃h',s_l1New.l3 G n m code h i k=k code h':=by
 intro m
 induction m with
 |zero=>intro h i _ _ hm;omega
 | succ m ih =>
  intro h i h0 h1 hm
  show ∃h',s_l1New.b3 G n code h i (fun y0 y1 y2=>s_l1New.l3 G n m y0 y1 y2 k) k=k code h'
  unfold s_l1New.b3
  by_cases hi:i<code.length
  ·by_cases h4:i<4000
   ·obtain⟨e,he,_⟩:=ix_in h0 hi
    simp only[hi,h4,decide_true,cond_true,he,Option.bind_some]
    rw[wr_in (x:=i+1) (by omega)]
    exact ih _ (i+1) (by omega) (by omega) (by omega)
   ·exact⟨h,by simp[hi,h4]⟩
  ·exact⟨h,by simp[hi]⟩
theorem new_ex :∃g,EntOK Tryd.prog (s_l1New.ent g)/\NewP g:=by_pick (fun g hg=>s_l1New.ok (G:=⟨()⟩) trivial hg) fun code hl=>by
 obtain⟨h',hh⟩:=new_loop ⟨()⟩ (code.length+1) code hl (fun code2 h=>some (AT.one (.p 0 0),[Ob.box (explode (.n 12) (Cur.mk code2 0 h))])) (code.length+1) (wr (124929+(List.length code:Int))) 0 (by omega) (by omega) (by omega)
 exact⟨Cur.mk code 0 h',⟨code.length+1,hh⟩,by simp,by simp,by simp;omega⟩
def drawN :Nat->Nat
 |0=>0
 |d+1=>2+2*drawN d
def DrawP (d:Int) (g:Cur->Int->Option (Fm×Cur)):Prop:=∀c,Inv c->∃r,g c d=some r/\(r.1.total<=drawN d.toNat/\Inv r.2)
theorem total0 (k q:Int):Fm.total ⟨k,q,[]⟩=0:=by rw[Fm.total_eq];rfl
theorem total1 (k q:Int) (f:Fm):Fm.total ⟨k,q,[f]⟩=1+f.total:=by rw[Fm.total_eq];simp[totals]
theorem total2 (k q:Int) (f g:Fm):Fm.total ⟨k,q,[f,g]⟩=2+f.total+g.total:=by rw[Fm.total_eq];simp[totals];omega
section
variable {gL : Cur → Int → Option (Int × Cur)} {gO : Cur → Int → Option (Bool × Cur)} {gD : Cur → Int → Option (Fm × Cur)}
theorem leaf {R:Type} (hL:BelowP gL) (hO:OnceP gO) (n:Nat) (c:Cur) (hc:Inv c) (a b:Int) (l:List Fm):∃c' x y,(∀(R:Type) (k:List Int->Int->Int->Int->Int->List Fm->Option R),s_l31Draw.c3 ⟨gL,gO,gD⟩ n c.b c.i c.h a b l k=k c'.b c'.i c'.h x y [])/\Inv c':=by
 unfold s_l31Draw.c3
 obtain⟨r,e,h1⟩:=hO c 6 ⟨hc,by omega⟩
 simp only[Cur.eta,e,Option.bind_some]
 cases r.1 with
 |true=>exact⟨r.2,1,0,fun _ _=>rfl,h1⟩
 | false =>
  obtain⟨r2,e2,_,_,_,h2⟩:=hL r.2 3 ⟨h1,by omega⟩
  exact⟨r2.2,2,r2.1,fun _ _=>by simp[e2],h2⟩
theorem draw_main (hL:BelowP gL) (hO:OnceP gO) (n:Nat) (c:Cur) (hc:Inv c) (d:Int) (hd: -1000<=d/\d<=1000) (hD:0<d->DrawP (d-1) gD):∃f c',(∀(R:Type) (K:Fm->Cur->Option R),s_l31Draw.main ⟨gL,gO,gD⟩ n c d K=K f c')/\f.total<=drawN d.toNat/\Inv c':=by
 unfold s_l31Draw.main
 obtain⟨r,e,b0,b1,_,h1⟩:=hL c 7 ⟨hc,by omega⟩
 have b1:=b1 (by omega)
 obtain⟨cl,x,y,kl,il⟩:=leaf (R:=Unit) (gD:=gD) hL hO n r.2 h1 0 0 []
 have ek:wr (1+r.1)=1+r.1:=wr_in (by omega)
 simp only[e,Option.bind_some,ek]
 by_cases h0:d<=0
 ·exact⟨⟨x,y,[]⟩,cl,fun R K=>by simp[h0,kl],by rw[total0];omega,il⟩
 by_cases h2:1+r.1<=2
 ·exact⟨⟨x,y,[]⟩,cl,fun R K=>by simp[h0,h2,kl],by rw[total0];omega,il⟩
 have ed:wr (d-1)=d-1:=wr_in (by omega)
 have en:drawN d.toNat=2+2*drawN (d-1).toNat:=by
  rw[show d.toNat=(d-1).toNat+1 by omega];rfl
 obtain⟨r2,e2,t2,i2⟩:=hD (by omega) r.2 h1
 have two:∀(a b:Int) (l:List Fm) (h3 h32:Int),∃f c',(∀(R:Type) (k:List Int->Int->Int->Int->Int->List Fm->Int->Int->List Fm->Option R),s_l31Draw.c8 ⟨gL,gO,gD⟩ n d r2.2.b r2.2.i r2.2.h a b l h3 h32 [r2.1] k=k c'.b c'.i c'.h a b l h3 h32 [r2.1,f])/\f.total<=drawN (d-1).toNat/\Inv c':=fun a b l h3 h32=>by
  obtain⟨r3,e3,t3,i3⟩:=hD (by omega) r2.2 i2
  exact⟨r3.1,r3.2,fun R k=>by simp[s_l31Draw.c8,ed,e3,lim_eq],t3,i3⟩
 obtain⟨f3,c3,k3,t3,i3⟩:=two 0 0 [] (1+r.1) 0
 simp only[h0,h2,decide_false,cond_false,ed,e2,Option.bind_some,Fm.eta]
 by_cases h4:1+r.1=4
 ·exact⟨⟨1+r.1,0,[r2.1,f3]⟩,c3,fun R K=>by simp only[h4,decide_true,cond_true];rw[h4]at k3;rw[k3],by rw[total2];omega,i3⟩
 by_cases h5:1+r.1=5
 ·exact⟨⟨1+r.1,0,[r2.1,f3]⟩,c3,fun R K=>by simp only[h4,h5,decide_true,decide_false,cond_true,cond_false];rw[h5]at k3;simp only[show decide ((5:Int)=4)=false from rfl,cond_false];rw[k3],by rw[total2];omega,i3⟩
 by_cases h7:1+r.1=7
 ·exact⟨⟨1+r.1,0,[r2.1,f3]⟩,c3,fun R K=>by rw[h7]at k3;simp only[h7,show decide ((7:Int)=4)=false from rfl,show decide ((7:Int)=5)=false from rfl,decide_true,cond_true,cond_false];rw[k3],by rw[total2];omega,i3⟩
 ·exact⟨⟨1+r.1,0,[r2.1]⟩,r2.2,fun R K=>by simp only[h4,h5,h7,decide_false,cond_false],by rw[total1];omega,i2⟩
theorem leafO {R:Type} (hL:BelowP gL) (hO:OnceP gO) (n:Nat) (c:Cur) (hc:Inv c) (a b:Int) (l:List Fm):∃c' x y,(∀(R:Type) (k:List Int->Int->Int->Int->Int->List Fm->Option R),s_l31Draw_o.c3 ⟨gL,gO,gD⟩ n c.b c.i c.h a b l k=k c'.b c'.i c'.h x y [])/\Inv c':=by
 unfold s_l31Draw_o.c3
 obtain⟨r,e,h1⟩:=hO c 6 ⟨hc,by omega⟩
 simp only[Cur.eta,e,Option.bind_some]
 cases r.1 with
 |true=>exact⟨r.2,1,0,fun _ _=>rfl,h1⟩
 | false =>
  obtain⟨r2,e2,_,_,_,h2⟩:=hL r.2 3 ⟨h1,by omega⟩
  exact⟨r2.2,2,r2.1,fun _ _=>by simp[e2],h2⟩
theorem drawO_main (hL:BelowP gL) (hO:OnceP gO) (n:Nat) (c:Cur) (hc:Inv c) (d:Int) (hd: -1000<=d/\d<=1000) (hD:0<d->DrawP (d-1) gD):∃f c',(∀(R:Type) (K:Fm->Cur->Option R),s_l31Draw_o.main ⟨gL,gO,gD⟩ n c d K=K f c')/\f.total<=drawN d.toNat/\Inv c':=by
 unfold s_l31Draw_o.main
 obtain⟨r,e,b0,b1,_,h1⟩:=hL c 7 ⟨hc,by omega⟩
 have b1:=b1 (by omega)
 obtain⟨cl,x,y,kl,il⟩:=leafO (R:=Unit) (gD:=gD) hL hO n r.2 h1 0 0 []
 have ek:wr (1+r.1)=1+r.1:=wr_in (by omega)
 simp only[e,Option.bind_some,ek]
 by_cases h0:d<=0
 ·exact⟨⟨x,y,[]⟩,cl,fun R K=>by simp[h0,kl],by rw[total0];omega,il⟩
 by_cases h2:1+r.1<=2
 ·exact⟨⟨x,y,[]⟩,cl,fun R K=>by simp[h0,h2,kl],by rw[total0];omega,il⟩
 have ed:wr (d-1)=d-1:=wr_in (by omega)
 have en:drawN d.toNat=2+2*drawN (d-1).toNat:=by
  rw[show d.toNat=(d-1).toNat+1 by omega];rfl
 obtain⟨r2,e2,t2,i2⟩:=hD (by omega) r.2 h1
 have two:∀(a b:Int) (l:List Fm) (h3 h32:Int),∃f c',(∀(R:Type) (k:List Int->Int->Int->Int->Int->List Fm->Int->Int->List Fm->Option R),s_l31Draw_o.c8 ⟨gL,gO,gD⟩ n d r2.2.b r2.2.i r2.2.h a b l h3 h32 [r2.1] k=k c'.b c'.i c'.h a b l h3 h32 [r2.1,f])/\f.total<=drawN (d-1).toNat/\Inv c':=fun a b l h3 h32=>by
  obtain⟨r3,e3,t3,i3⟩:=hD (by omega) r2.2 i2
  exact⟨r3.1,r3.2,fun R k=>by simp[s_l31Draw_o.c8,ed,e3,lim_eq],t3,i3⟩
 obtain⟨f3,c3,k3,t3,i3⟩:=two 0 0 [] (1+r.1) 0
 simp only[h0,h2,decide_false,cond_false,ed,e2,Option.bind_some,Fm.eta]
 by_cases h4:1+r.1=4
 ·exact⟨⟨1+r.1,0,[r2.1,f3]⟩,c3,fun R K=>by simp only[h4,decide_true,cond_true];rw[h4]at k3;rw[k3],by rw[total2];omega,i3⟩
 by_cases h5:1+r.1=5
 ·exact⟨⟨1+r.1,0,[r2.1,f3]⟩,c3,fun R K=>by simp only[h4,h5,decide_true,decide_false,cond_true,cond_false];rw[h5]at k3;simp only[show decide ((5:Int)=4)=false from rfl,cond_false];rw[k3],by rw[total2];omega,i3⟩
 by_cases h7:1+r.1=7
 ·exact⟨⟨1+r.1,0,[r2.1,f3]⟩,c3,fun R K=>by rw[h7]at k3;simp only[h7,show decide ((7:Int)=4)=false from rfl,show decide ((7:Int)=5)=false from rfl,decide_true,cond_true,cond_false];rw[k3],by rw[total2];omega,i3⟩
 ·exact⟨⟨1+r.1,0,[r2.1]⟩,r2.2,fun R K=>by simp only[h4,h5,h7,decide_false,cond_false],by rw[total1];omega,i2⟩
theorem draw_none :EntOK Tryd.prog (s_l31Draw.ent fun _ _=>none):=fun R xs H K r h=>by
 simp only[s_l31Draw.ent]at h
 split at h<;>cases h
theorem draws_ex (hL:BelowP gL) (hO:OnceP gO) (eL:EntOK Tryd.prog (s_l1Below.ent gL)) (eO:EntOK Tryd.prog (s_l1Once.ent gO)):∀k:Nat,k<=100->∃g,EntOK Tryd.prog (s_l31Draw.ent g)/\∀c (d:Int),(Inv c/\0<=d/\d<=(k:Int))->∃r,g c d=some r/\(r.1.total<=drawN d.toNat/\Inv r.2)
 | 0, _ => by_pick2 (fun g hg => s_l31Draw.ok (G := ⟨gL, gO, fun _ _ => none⟩) ⟨eL, eO, draw_none, trivial⟩ hg) fun c d ⟨hc, h0, h1⟩ => by
   obtain⟨f,c',e,h2,h3⟩:=draw_main (gD:=fun _ _=>none) hL hO 1 c hc d (by omega) (fun h=>by omega)
   exact⟨(f,c'),⟨1,e _ _⟩,h2,h3⟩
 | k + 1, hk => by
  obtain⟨gD,eD,hD⟩:=draws_ex hL hO eL eO k (by omega)
  exact by_pick2 (fun g hg=>s_l31Draw.ok (G:=⟨gL,gO,gD⟩) ⟨eL,eO,eD,trivial⟩ hg) fun c d ⟨hc,h0,h1⟩=>by
   obtain⟨f,c',e,h2,h3⟩:=draw_main (gD:=gD) hL hO 1 c hc d (by omega) (fun h c hc=>hD c (d-1) ⟨hc,by omega,by omega⟩)
   exact⟨(f,c'),⟨1,e _ _⟩,h2,h3⟩
theorem drawO_ex (hL:BelowP gL) (hO:OnceP gO) (eL:EntOK Tryd.prog (s_l1Below.ent gL)) (eO:EntOK Tryd.prog (s_l1Once.ent gO)):∃g,EntOK Tryd.prog (s_l31Draw_o.ent g)/\∀c d,(Inv c/\0<=d/\d<=3)->∃r,g c d=some r/\(r.1.total<=drawN d.toNat/\Inv r.2):=by
 obtain⟨gD,eD,hD⟩:=draws_ex hL hO eL eO 3 (by omega)
 exact by_pick2 (fun g hg=>s_l31Draw_o.ok (G:=⟨gL,gO,gD⟩) ⟨eL,eO,eD,trivial⟩ hg) fun c d ⟨hc,h0,h1⟩=>by
  obtain⟨f,c',e,h2,h3⟩:=drawO_main (gD:=gD) hL hO 1 c hc d (by omega) (fun h c hc=>hD c (d-1) ⟨hc,by omega,by omega⟩)
  exact⟨(f,c'),⟨1,e _ _⟩,h2,h3⟩
def BentP (g:Cur->Option (Fm×Cur)):Prop:=∀c,Inv c->∃r,g c=some r/\(r.1.total<=20/\Inv r.2)
theorem totals_app (a b:List Fm):totals (a++b)=totals a+totals b:=by simp[totals];omega
theorem bent_ex {gE:Cur->Int->Option (Fm×Cur)} (hL:BelowP gL) (eL:EntOK Tryd.prog (s_l1Below.ent gL)) (eE:EntOK Tryd.prog (s_l31Draw_o.ent gE)) (hE:∀c d,(Inv c/\0<=d/\d<=3)->∃r,gE c d=some r/\(r.1.total<=drawN d.toNat/\Inv r.2)):∃g,EntOK Tryd.prog (s_l31Bent.ent g)/\BentP g:=
 by_pick (fun g hg=>s_l31Bent.ok (G:=⟨gE,gL⟩) ⟨eE,eL,trivial⟩ hg) fun c hc=>by
  obtain⟨r,e,t1,i1⟩:=hE c 3 ⟨hc,by omega,by omega⟩
  obtain⟨r2,e2,b0,b1,_,i2⟩:=hL r.2 14 ⟨i1,by omega⟩
  have t1:r.1.total<=14:=t1
  have te:=Fm.total_eq r.1
  have key:∃f c',(∀(R:Type) (K:Fm->Cur->Option R),s_l31Bent.main ⟨gE,gL⟩ 1 c K=K f c')/\f.total<=20/\Inv c':=by
   unfold s_l31Bent.main
   simp only[e,e2,Option.bind_some]
   by_cases h0:r2.1=0
   ·exact⟨⟨r.1.kind,8,r.1.kids⟩,r2.2,fun R K=>by simp[h0],by rw[Fm.total_eq];show totals r.1.kids<=20;omega,i2⟩
   by_cases h1:r2.1=1
   ·have hk:r.1.kids.length<=14:=by
     have:r.1.kids.length<=totals r.1.kids:=by simp[totals]
     omega
    have ht:totals [(⟨1,0,[]⟩:Fm)]=1:=by simp[totals,total0]
    refine⟨⟨r.1.kind,r.1.prop,r.1.kids++[⟨1,0,[]⟩]⟩,r2.2,fun R K=>by simp only[h1];rw[lim_eq (by simp;omega)];rfl,?_,i2⟩
    rw[Fm.total_eq]
    show totals (r.1.kids++_)<=20
    rw[totals_app]
    omega
   by_cases h3:r2.1=2
   ·obtain⟨r3,e3,_,_,_,i3⟩:=hL r2.2 10 ⟨i2,by omega⟩
    exact⟨⟨wr (r3.1-1),r.1.prop,r.1.kids⟩,r3.2,fun R K=>by simp[h3,e3],by rw[Fm.total_eq];show totals r.1.kids<=20;omega,i3⟩
   ·exact⟨r.1,r2.2,fun R K=>by simp[h0,h1,h3],by omega,i2⟩
  obtain⟨f,c',k1,k2,k3⟩:=key
  exact⟨(f,c'),⟨1,k1 _ _⟩,k2,k3⟩
end
end Go.Proofs.YtjafncnjefnloaaDoor.Den

namespace Go.Proofs.YtjafncnjefnloaaDoor.Den
open Go.RowKit
def MarksP (g:Cur->Int->Option (List Int×Cur)):Prop:=∀c n,(Inv c/\0<=n/\n<=256)->∃r,g c n=some r/\(r.1.length=n/\(∀x∈r.1,0<=x/\x<=255)/\Inv r.2)
theorem marks_loop {R:Type} {gL:Cur->Int->Option (Int×Cur)} (hL:BelowP gL) (n:Nat) (N:Int) (hN:N<=256) (k:List Int->Int->Int->List Int->Option R):∀m (i:Int) (c:Cur) (xs:List Int),0<=i->i<=N->Inv c->xs.length=i->(∀x∈xs,0<=x/\x<=255)->(N-i).toNat<m->
  ∃c' ys,s_l31Marks_o.l3 ⟨gL⟩ n m N i c.b c.i c.h xs k=k c'.b c'.i c'.h ys/\Inv c'/\ys.length=N/\∀x∈ys,0<=x/\x<=255:=by
 intro m
 induction m with
 |zero=>intro i c xs _ _ _ _ _ hm;omega
 | succ m ih =>
  intro i c xs h0 h1 hc hx hr hm
  show ∃c' ys,s_l31Marks_o.b3 ⟨gL⟩ n N i c.b c.i c.h xs (fun y0 y1 y2 y3 y4 y5=>s_l31Marks_o.l3 ⟨gL⟩ n m y0 y1 y2 y3 y4 y5 k) k=_/\_
  unfold s_l31Marks_o.b3
  by_cases hi:i<N
  ·obtain⟨r,e,q0,_,q1,h3⟩:=hL c 8 ⟨hc,by omega⟩
   simp only[hi,decide_true,cond_true,Cur.eta,e,Option.bind_some]
   rw[lim_eq (by simp;omega),wr_in (x:=i+1) (by omega)]
   exact ih (i+1) r.2 (xs++[r.1]) (by omega) (by omega) h3 (by simp;omega) (fun x hx=>by rcases List.mem_append.1 hx with h|h;exact hr x h;simp at h;subst h;exact⟨q0,q1⟩) (by omega)
  ·exact⟨c,xs,by simp[hi],hc,by omega,hr⟩
theorem marks_ex {gL:Cur->Int->Option (Int×Cur)} (eL:EntOK Tryd.prog (s_l1Below.ent gL)) (hL:BelowP gL):∃g,EntOK Tryd.prog (s_l31Marks_o.ent g)/\MarksP g:=
 by_pick2 (fun g hg=>s_l31Marks_o.ok (G:=⟨gL⟩) ⟨eL,trivial⟩ hg) fun c n ⟨hc,h0,h1⟩=>by
  obtain⟨c',ys,e,h2,h3,h4⟩:=marks_loop hL 1000 n h1 (fun h0 h02 h03 h1=>some (AT.one (.o 1),[Ob.box (explode (.n 12) (Cur.mk h0 h02 h03)),Ob.row .i 0 h1])) 1000 0 c [] (by omega) h0 hc rfl (fun x hx=>by simp at hx) (by omega)
  exact⟨(ys,c'),⟨1000,e⟩,h3,h4,h2⟩
end Go.Proofs.YtjafncnjefnloaaDoor.Den

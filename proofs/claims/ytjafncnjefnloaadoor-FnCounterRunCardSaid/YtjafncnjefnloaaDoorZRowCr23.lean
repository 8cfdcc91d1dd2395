/-
  Texts that the claim rests on, merged: PI4, Gr.
-/
import Derived.Test.YtjafncnjefnloaaDoorZRowCr11
import Derived.Test.YtjafncnjefnloaaDoorZRowCr22

namespace Go.Proofs.YtjafncnjefnloaaDoor.Den
open Go.RowKit
set_option maxRecDepth 100000
set_option linter.unusedVariables false
namespace i_tableau_holds
structure Gs where
 i_tableau_holds:List Tm->List (List Int)->Bool->List Int->List Fm->(List (ByteArray×Int))->Fm->Int->Int->Option (Bool×List (ByteArray×Int))
 i_formulaText:Fm->Option (ByteArray)
noncomputable def ents (G:Gs):List Ent:=[ent G.i_tableau_holds,i_formulaText.ent G.i_formulaText]
noncomputable def main {R:Type} (G:Gs) (n:Nat) (t_g_States:List Tm) (t_g_Edges:List (List Int)) (t_g_Whole:Bool) (t_labels:List Int) (t_parts:List Fm) (t_index:List (ByteArray×Int)) (f:Fm) (state:Int) (set1:Int) (K:Bool->(List (ByteArray×Int))->Option R):Option R:=
 bif decide ((Fm.kind f)=1)then
  (K true t_index)
 else
  bif decide ((Fm.kind f)=2)then
   (
   Option.bind (ix t_labels state) fun e2=>
   Option.bind (bif decide (0<=(Fm.prop f))then some (Abs.bitsI .shl .i64 1 (Fm.prop f))else none) fun q2=>
   K (!decide ((Abs.bitsI .and .i64 e2 q2)=0)) t_index
   )
  else
   bif decide ((Fm.kind f)=3)then
    (
    Option.bind (ix (Fm.kids f) 0) fun e3=>
    Option.bind (G.i_tableau_holds t_g_States t_g_Edges t_g_Whole t_labels t_parts t_index (Fm.mk (Fm.kind e3) (Fm.prop e3) (Fm.kids e3)) state set1) fun r=>
    K (!r.1) r.2
    )
   else
    bif decide ((Fm.kind f)=4)then
     (
     Option.bind (ix (Fm.kids f) 0) fun e4=>
     Option.bind (G.i_tableau_holds t_g_States t_g_Edges t_g_Whole t_labels t_parts t_index (Fm.mk (Fm.kind e4) (Fm.prop e4) (Fm.kids e4)) state set1) fun r2=>
     bif r2.1 then
      (
      Option.bind (ix (Fm.kids f) 1) fun e5=>
      Option.bind (G.i_tableau_holds t_g_States t_g_Edges t_g_Whole t_labels t_parts r2.2 (Fm.mk (Fm.kind e5) (Fm.prop e5) (Fm.kids e5)) state set1) fun r3=>
      K r3.1 r3.2
      )
     else
      K false r2.2
     )
    else
     bif decide ((Fm.kind f)=5)then
      (
      Option.bind (ix (Fm.kids f) 0) fun e6=>
      Option.bind (G.i_tableau_holds t_g_States t_g_Edges t_g_Whole t_labels t_parts t_index (Fm.mk (Fm.kind e6) (Fm.prop e6) (Fm.kids e6)) state set1) fun r4=>
      bif r4.1 then
       (K true r4.2)
      else
       Option.bind (ix (Fm.kids f) 1) fun e7=>
       Option.bind (G.i_tableau_holds t_g_States t_g_Edges t_g_Whole t_labels t_parts r4.2 (Fm.mk (Fm.kind e7) (Fm.prop e7) (Fm.kids e7)) state set1) fun r5=>
       K r5.1 r5.2
      )
     else
      Option.bind (G.i_formulaText (Fm.mk (Fm.kind f) (Fm.prop f) (Fm.kids f))) fun r7=>
      Option.bind (bif decide (0<=(mval t_index r7 0))then some (Abs.bitsI .shl .i64 1 (mval t_index r7 0))else none) fun q4=>
      K (!decide ((Abs.bitsI .and .i64 set1 q4)=0)) t_index
noncomputable def pc (_:Gs) (_:Nat):Pcs:=⟨fun _ _ _ _=>none,fun _ _ _ _=>none,fun _ _ _ _=>none⟩
noncomputable def an:Ann:=⟨89,2,[],[],[8],[(5,⟨[([0,1,2,3,4,5,6,7,8,9,10,11,12],[],[])],[],[],[0,1,2],[]⟩),(12,⟨[([0,1,2,3,4,5,6,7,8,9,10,11],[],[])],[],[],[0,1,2],[]⟩)],[]⟩
noncomputable abbrev bd:=bodyOf Tryd.f97
noncomputable def Does (G:Gs) (t_g_States:List Tm) (t_g_Edges:List (List Int)) (t_g_Whole:Bool) (t_labels:List Int) (t_parts:List Fm) (t_index:List (ByteArray×Int)) (f:Fm) (state:Int) (set1:Int) (r:Bool×List (ByteArray×Int)):Prop:=∃n,main (R:=AT×List Ob) G n t_g_States t_g_Edges t_g_Whole t_labels t_parts t_index f state set1 (fun r0 r1=>some (.one (.b r0),[.box [.l (.n 1) t_g_States,.l (.sl .i) t_g_Edges,.b t_g_Whole,.l .i t_labels,.l (.n 2) t_parts,.m 1],.map .i r1]))=some (.one (.b r.1),[.box [.l (.n 1) t_g_States,.l (.sl .i) t_g_Edges,.b t_g_Whole,.l .i t_labels,.l (.n 2) t_parts,.m 1],.map .i r.2])
theorem ok {G:Gs} (hG:AllE Tryd.prog (ents G)) {g:List Tm->List (List Int)->Bool->List Int->List Fm->(List (ByteArray×Int))->Fm->Int->Int->Option (Bool×List (ByteArray×Int))} (hg:∀t_g_States t_g_Edges t_g_Whole t_labels t_parts t_index f state set1 r,g t_g_States t_g_Edges t_g_Whole t_labels t_parts t_index f state set1=some r->Does G t_g_States t_g_Edges t_g_Whole t_labels t_parts t_index f state set1 r):EntOK Tryd.prog (ent g):=fun R xs H K r hc=>by
 simp only[ent]at hc
 split at hc
 ·obtain⟨r,j1,j2⟩:=bind_some hc
  obtain⟨n,j3⟩:=hg _ _ _ _ _ _ _ _ _ _ j1
  exact⟨_,_,j2,fnP hG an (pc G n) bd [.tmp 8] Tryd.func97 (.inl rfl) (apl [] trivial) (.trans (by kernel_rfl) j3)⟩
 ·cases hc
end i_tableau_holds
namespace i_tableau_follows
structure Gs where
 i_tableau_holds:List Tm->List (List Int)->Bool->List Int->List Fm->(List (ByteArray×Int))->Fm->Int->Int->Option (Bool×List (ByteArray×Int))
noncomputable def ents (G:Gs):List Ent:=[i_tableau_holds.ent G.i_tableau_holds]
noncomputable def c8 {R:Type} (G:Gs) (n:Nat) (t_g_States:List Tm) (t_g_Edges:List (List Int)) (t_g_Whole:Bool) (t_labels:List Int) (t_parts:List Fm) (state:Int) (set1:Int) (next1:Int) (later:Int) (i:Int) (due:Bool) (t17:List Fm) (t18:Int) (t19:Int) (h1:List (ByteArray×Int)) (k0:Bool->Option R) (k1:Option R):Option R:=
 Option.bind (bif decide (0<=i)then some (Abs.bitsI .shl .i64 1 i)else none) fun q=>
 bif !(due==(!decide ((Abs.bitsI .and .i64 set1 q)=0)))then
  (k0 false)
 else
  k1
noncomputable def b2 {R:Type} (G:Gs) (n:Nat) (t_g_States:List Tm) (t_g_Edges:List (List Int)) (t_g_Whole:Bool) (t_labels:List Int) (t_parts:List Fm) (state:Int) (set1:Int) (next1:Int) (later:Int) (t17:List Fm) (t18:Int) (t19:Int) (h1:List (ByteArray×Int)) (nx:Int->(List (ByteArray×Int))->Option R) (k0:Bool->(List (ByteArray×Int))->Option R) (k1:(List (ByteArray×Int))->Option R):Option R:=
 bif decide (t19 < t18) then
  (
  Option.bind (ix t17 t19) fun e=>
  bif decide ((Fm.kind e)=6)then
   (
   Option.bind (ix (Fm.kids e) 0) fun e2=>
   Option.bind (G.i_tableau_holds t_g_States t_g_Edges t_g_Whole t_labels t_parts h1 (Fm.mk (Fm.kind e2) (Fm.prop e2) (Fm.kids e2)) next1 later) fun r=>
   c8 G n t_g_States t_g_Edges t_g_Whole t_labels t_parts state set1 next1 later t19 r.1 t17 t18 t19 r.2
    (fun t10=>k0 t10 r.2)
    (nx (wr (t19+1)) r.2)
   )
  else
   Option.bind (ix (Fm.kids e) 1) fun e3=>
   Option.bind (G.i_tableau_holds t_g_States t_g_Edges t_g_Whole t_labels t_parts h1 (Fm.mk (Fm.kind e3) (Fm.prop e3) (Fm.kids e3)) state set1) fun r2=>
   bif r2.1 then
    (
    c8 G n t_g_States t_g_Edges t_g_Whole t_labels t_parts state set1 next1 later t19 true t17 t18 t19 r2.2
     (fun t102=>k0 t102 r2.2)
     (nx (wr (t19+1)) r2.2)
    )
   else
    Option.bind (ix (Fm.kids e) 0) fun e4=>
    Option.bind (G.i_tableau_holds t_g_States t_g_Edges t_g_Whole t_labels t_parts r2.2 (Fm.mk (Fm.kind e4) (Fm.prop e4) (Fm.kids e4)) state set1) fun r3=>
    bif r3.1 then
     (
     Option.bind (bif decide (0<=t19)then some (Abs.bitsI .shl .i64 1 t19)else none) fun q=>
     c8 G n t_g_States t_g_Edges t_g_Whole t_labels t_parts state set1 next1 later t19 (!decide ((Abs.bitsI .and .i64 later q)=0)) t17 t18 t19 r3.2
      (fun t103=>k0 t103 r3.2)
      (nx (wr (t19+1)) r3.2)
     )
    else
     c8 G n t_g_States t_g_Edges t_g_Whole t_labels t_parts state set1 next1 later t19 false t17 t18 t19 r3.2
      (fun t104=>k0 t104 r3.2)
      (nx (wr (t19+1)) r3.2)
  )
 else
  k1 h1
noncomputable def l2 {R:Type} (G:Gs) (n m:Nat) (t_g_States:List Tm) (t_g_Edges:List (List Int)) (t_g_Whole:Bool) (t_labels:List Int) (t_parts:List Fm) (state:Int) (set1:Int) (next1:Int) (later:Int) (t17:List Fm) (t18:Int) (t19:Int) (h1:List (ByteArray×Int)) (k0:Bool->(List (ByteArray×Int))->Option R) (k1:(List (ByteArray×Int))->Option R):Option R:=iter (fun(v:Int×(List (ByteArray×Int))) nx=>b2 G n t_g_States t_g_Edges t_g_Whole t_labels t_parts state set1 next1 later t17 t18 v.1 v.2 (fun y0 y1=>nx (y0,y1)) k0 k1) m (t19,h1)
noncomputable def main {R:Type} (G:Gs) (n:Nat) (t_g_States:List Tm) (t_g_Edges:List (List Int)) (t_g_Whole:Bool) (t_labels:List Int) (t_parts:List Fm) (t_index:List (ByteArray×Int)) (state:Int) (set1:Int) (next1:Int) (later:Int) (K:Bool->(List (ByteArray×Int))->Option R):Option R:=
 l2 G n n t_g_States t_g_Edges t_g_Whole t_labels t_parts state set1 next1 later t_parts (List.length t_parts:Int) 0 t_index
  (fun t10 h12=>K t10 h12)
  (fun h122=>K true h122)
noncomputable def dc8 (G:Gs) (n:Nat) (R:Type) (st:St) (K:Kt R):Option R:=match st with
 |⟨[(0,.one (.p 0 0)),(1,.one (.i state)),(2,.one (.i set1)),(3,.one (.i next1)),(4,.one (.i later)),(11,.one (.i i)),(13,.one (.b due)),(17,.one (.l (.n 2) t17)),(18,.one (.i t18)),(19,.one (.i t19))],[.box [.l (.n 1) t_g_States,.l (.sl .i) t_g_Edges,.b t_g_Whole,.l .i t_labels,.l (.n 2) t_parts,.m 1],.map .i h1]⟩=>c8 G n t_g_States t_g_Edges t_g_Whole t_labels t_parts state set1 next1 later i due t17 t18 t19 h1 (fun t10=>K .ret ⟨[(10,.one (.b t10))],[.box [.l (.n 1) t_g_States,.l (.sl .i) t_g_Edges,.b t_g_Whole,.l .i t_labels,.l (.n 2) t_parts,.m 1],.map .i h1]⟩) (K .normal ⟨[(0,.one (.p 0 0)),(1,.one (.i state)),(2,.one (.i set1)),(3,.one (.i next1)),(4,.one (.i later)),(17,.one (.l (.n 2) t17)),(18,.one (.i t18)),(19,.one (.i t19))],[.box [.l (.n 1) t_g_States,.l (.sl .i) t_g_Edges,.b t_g_Whole,.l .i t_labels,.l (.n 2) t_parts,.m 1],.map .i h1]⟩)
 |_=>none
noncomputable def dl2 (G:Gs) (n m:Nat) (R:Type) (st:St) (K:Kt R):Option R:=match st with
 |⟨[(0,.one (.p 0 0)),(1,.one (.i state)),(2,.one (.i set1)),(3,.one (.i next1)),(4,.one (.i later)),(17,.one (.l (.n 2) t17)),(18,.one (.i t18)),(19,.one (.i t19))],[.box [.l (.n 1) t_g_States,.l (.sl .i) t_g_Edges,.b t_g_Whole,.l .i t_labels,.l (.n 2) t_parts,.m 1],.map .i h1]⟩=>l2 G n m t_g_States t_g_Edges t_g_Whole t_labels t_parts state set1 next1 later t17 t18 t19 h1 (fun t10 h12=>K .ret ⟨[(10,.one (.b t10))],[.box [.l (.n 1) t_g_States,.l (.sl .i) t_g_Edges,.b t_g_Whole,.l .i t_labels,.l (.n 2) t_parts,.m 1],.map .i h12]⟩) (fun h12=>K (.exit 0) ⟨[],[.box [.l (.n 1) t_g_States,.l (.sl .i) t_g_Edges,.b t_g_Whole,.l .i t_labels,.l (.n 2) t_parts,.m 1],.map .i h12]⟩)
 |_=>none
noncomputable def pc (G:Gs) (n:Nat):Pcs:=⟨fun R id st K=>bif Nat.beq id 2 then dl2 G n n R st K else none,fun R id st K=>bif Nat.beq id 8 then dc8 G n R st K else none,fun _ _ _ _=>none⟩
noncomputable def an:Ann:=⟨68,2,[(2,[0,1,2,3,4,17,18,19])],[(8,[0,1,2,3,4,11,13,17,18,19])],[10],[],[]⟩
noncomputable abbrev bd:=bodyOf Tryd.f96
noncomputable abbrev q8:=nthC [1,0,1,0,0,1,1,0,0,1,1,1] bd
noncomputable abbrev q2:=nthC [1,0,1,0,0] bd
theorem pc8 {G:Gs} (hG:AllE Tryd.prog (ents G)) {n:Nat}:PieceOK Tryd.prog an q8 (dc8 G n):=cpc hG (pc G n) ⟨[0,1,2,3,4,17,18,19],[10],[(0,[]),(1,[0,1,2,3,4,17,18,19])]⟩ (apl [] trivial) fun R st K r h=>by unfold dc8 at h;split at h;exact .trans (by kernel_rfl) h;cases h
theorem pl2 {G:Gs} (hG:AllE Tryd.prog (ents G)) (n:Nat):∀m,PieceOK Tryd.prog an (.loop q2) (dl2 G n m):=lpc hG (pc G n) [0,1,2,3,4,17,18,19] ⟨[],[10],[(0,[])]⟩ (apl [(0,8,q8)] ⟨pc8 hG,trivial⟩) (fun R st K=>by unfold dl2;split<;>rfl) fun m R st K r h=>by unfold dl2 at h;split at h;exact .trans (by kernel_rfl) h;cases h
noncomputable def Does (G:Gs) (t_g_States:List Tm) (t_g_Edges:List (List Int)) (t_g_Whole:Bool) (t_labels:List Int) (t_parts:List Fm) (t_index:List (ByteArray×Int)) (state:Int) (set1:Int) (next1:Int) (later:Int) (r:Bool×List (ByteArray×Int)):Prop:=∃n,main (R:=AT×List Ob) G n t_g_States t_g_Edges t_g_Whole t_labels t_parts t_index state set1 next1 later (fun r0 r1=>some (.one (.b r0),[.box [.l (.n 1) t_g_States,.l (.sl .i) t_g_Edges,.b t_g_Whole,.l .i t_labels,.l (.n 2) t_parts,.m 1],.map .i r1]))=some (.one (.b r.1),[.box [.l (.n 1) t_g_States,.l (.sl .i) t_g_Edges,.b t_g_Whole,.l .i t_labels,.l (.n 2) t_parts,.m 1],.map .i r.2])
theorem ok {G:Gs} (hG:AllE Tryd.prog (ents G)) {g:List Tm->List (List Int)->Bool->List Int->List Fm->(List (ByteArray×Int))->Int->Int->Int->Int->Option (Bool×List (ByteArray×Int))} (hg:∀t_g_States t_g_Edges t_g_Whole t_labels t_parts t_index state set1 next1 later r,g t_g_States t_g_Edges t_g_Whole t_labels t_parts t_index state set1 next1 later=some r->Does G t_g_States t_g_Edges t_g_Whole t_labels t_parts t_index state set1 next1 later r):EntOK Tryd.prog (ent g):=fun R xs H K r hc=>by
 simp only[ent]at hc
 split at hc
 ·obtain⟨r,j1,j2⟩:=bind_some hc
  obtain⟨n,j3⟩:=hg _ _ _ _ _ _ _ _ _ _ _ j1
  exact⟨_,_,j2,fnP hG an (pc G n) bd [.tmp 10] Tryd.func96 (.inl rfl) (apl [(1,2,.loop q2)] ⟨pl2 hG n n,trivial⟩) (.trans (by kernel_rfl) j3)⟩
 ·cases hc
end i_tableau_follows
namespace i_spread
structure Gs where
 i_spread:List (List Int)->Int->List Bool->Option (List Bool)
noncomputable def ents (G:Gs):List Ent:=[ent G.i_spread]
noncomputable def b3 {R:Type} (G:Gs) (n:Nat) (edges:List (List Int)) (t18:List Int) (t19:Int) (t20:Int) (h0:List Bool) (nx:Int->List Bool->Option R) (k0:List Bool->Option R):Option R:=
 bif decide (t20<t19)then
  (
  Option.bind (ix t18 t20) fun e=>
  Option.bind (G.i_spread edges e h0) fun r=>
  nx (wr (t20+1)) r
  )
 else
  k0 h0
noncomputable def l3 {R:Type} (G:Gs) (n m:Nat) (edges:List (List Int)) (t18:List Int) (t19:Int) (t20:Int) (h0:List Bool) (k0:List Bool->Option R):Option R:=iter (fun(v:Int×List Bool) nx=>b3 G n edges t18 t19 v.1 v.2 (fun y0 y1=>nx (y0,y1)) k0) m (t20,h0)
noncomputable def main {R:Type} (G:Gs) (n:Nat) (edges:List (List Int)) (node:Int) (reached:List Bool) (K:List Bool->Option R):Option R:=
 Option.bind (ix reached node) fun e=>
 bif e then
  (K reached)
 else
  Option.bind (ix reached node) fun e2=>
  Option.bind (ix edges node) fun e3=>
  l3 G n n edges e3 (List.length e3:Int) 0 (List.set reached (Int.toNat node) true)
   (fun h02=>K h02)
noncomputable def dl3 (G:Gs) (n m:Nat) (R:Type) (st:St) (K:Kt R):Option R:=match st with
 |⟨[(0,.one (.l (.sl .i) edges)),(2,.one (.o 0)),(18,.one (.l .i t18)),(19,.one (.i t19)),(20,.one (.i t20))],[.row .b 0 h0]⟩=>l3 G n m edges t18 t19 t20 h0 (fun h02=>K (.exit 0) ⟨[],[.row .b 0 h02]⟩)
 |_=>none
noncomputable def pc (G:Gs) (n:Nat):Pcs:=⟨fun R id st K=>bif Nat.beq id 3 then dl3 G n n R st K else none,fun _ _ _ _=>none,fun _ _ _ _=>none⟩
noncomputable def an:Ann:=⟨29,1,[(3,[0,2,18,19,20])],[],[],[],[]⟩
noncomputable abbrev bd:=bodyOf Tryd.f98
noncomputable abbrev q3:=nthC [1,1,1,0,0] bd
theorem pl3 {G:Gs} (hG:AllE Tryd.prog (ents G)) (n:Nat):∀m,PieceOK Tryd.prog an (.loop q3) (dl3 G n m):=lpc hG (pc G n) [0,2,18,19,20] ⟨[],[],[(0,[])]⟩ (apl [] trivial) (fun R st K=>by unfold dl3;split<;>rfl) fun m R st K r h=>by unfold dl3 at h;split at h;exact .trans (by kernel_rfl) h;cases h
noncomputable def Does (G:Gs) (edges:List (List Int)) (node:Int) (reached:List Bool) (r:List Bool):Prop:=∃n,main (R:=AT×List Ob) G n edges node reached (fun r0=>some (.tup [],[.row .b 0 r0]))=some (.tup [],[.row .b 0 r])
theorem ok {G:Gs} (hG:AllE Tryd.prog (ents G)) {g:List (List Int)->Int->List Bool->Option (List Bool)} (hg:∀edges node reached r,g edges node reached=some r->Does G edges node reached r):EntOK Tryd.prog (ent g):=fun R xs H K r hc=>by
 simp only[ent]at hc
 split at hc
 ·obtain⟨r,j1,j2⟩:=bind_some hc
  obtain⟨n,j3⟩:=hg _ _ _ _ j1
  exact⟨_,_,j2,fnP hG an (pc G n) bd [] Tryd.func98 (.inl rfl) (apl [(1,3,.loop q3)] ⟨pl3 hG n n,trivial⟩) (.trans (by kernel_rfl) j3)⟩
 ·cases hc
end i_spread
namespace i_tableau_fair
structure Gs where
 i_spread:List (List Int)->Int->List Bool->Option (List Bool)
 i_tableau_holds:List Tm->List (List Int)->Bool->List Int->List Fm->(List (ByteArray×Int))->Fm->Int->Int->Option (Bool×List (ByteArray×Int))
noncomputable def ents (G:Gs):List Ent:=[i_spread.ent G.i_spread,i_tableau_holds.ent G.i_tableau_holds]
noncomputable def b3 {R:Type} (G:Gs) (n:Nat) (t_g_States:List Tm) (t_g_Edges:List (List Int)) (t_g_Whole:Bool) (t_labels:List Int) (t_parts:List Fm) (edges:List (List Int)) (node:Int) (sets:Int) (t28:List Int) (t29:Int) (h1:List (ByteArray×Int)) (t30:Int) (h2:List Bool) (nx:Int->List Bool->Option R) (k0:List Bool->Option R):Option R:=
 bif decide (t30<t29)then
  (
  Option.bind (ix t28 t30) fun e=>
  Option.bind (G.i_spread edges e h2) fun r=>
  nx (wr (t30+1)) r
  )
 else
  k0 h2
noncomputable def l3 {R:Type} (G:Gs) (n m:Nat) (t_g_States:List Tm) (t_g_Edges:List (List Int)) (t_g_Whole:Bool) (t_labels:List Int) (t_parts:List Fm) (edges:List (List Int)) (node:Int) (sets:Int) (t28:List Int) (t29:Int) (h1:List (ByteArray×Int)) (t30:Int) (h2:List Bool) (k0:List Bool->Option R):Option R:=iter (fun(v:Int×List Bool) nx=>b3 G n t_g_States t_g_Edges t_g_Whole t_labels t_parts edges node sets t28 t29 h1 v.1 v.2 (fun y0 y1=>nx (y0,y1)) k0) m (t30,h2)
noncomputable def b14 {R:Type} (G:Gs) (n:Nat) (t_g_States:List Tm) (t_g_Edges:List (List Int)) (t_g_Whole:Bool) (t_labels:List Int) (t_parts:List Fm) (edges:List (List Int)) (node:Int) (sets:Int) (i:Int) (t47:List (List Int)) (t48:Int) (t49:Int) (t54:List Int) (t55:Int) (h1:List (ByteArray×Int)) (h2:List Bool) (t56:Int) (h3:List (List Int)) (nx:Int->List (List Int)->Option R) (k0:List (List Int)->Option R):Option R:=
 bif decide (t56<t55)then
  (
  Option.bind (ix t54 t56) fun e=>
  Option.bind (ix h3 e) fun _e=>
  Option.bind (h3[(Int.toNat e)]?) fun ys=>
  Option.bind (lim (ys++[i])) fun zs=>
  Option.bind (ix h3 e) fun _e2=>
  Option.bind (eqN (Int.toNat e) (Int.toNat e) (List.length h3)) fun _u=>
  nx (wr (t56+1)) (List.set h3 (Int.toNat e) zs)
  )
 else
  k0 h3
noncomputable def l14 {R:Type} (G:Gs) (n m:Nat) (t_g_States:List Tm) (t_g_Edges:List (List Int)) (t_g_Whole:Bool) (t_labels:List Int) (t_parts:List Fm) (edges:List (List Int)) (node:Int) (sets:Int) (i:Int) (t47:List (List Int)) (t48:Int) (t49:Int) (t54:List Int) (t55:Int) (h1:List (ByteArray×Int)) (h2:List Bool) (t56:Int) (h3:List (List Int)) (k0:List (List Int)->Option R):Option R:=iter (fun(v:Int×List (List Int)) nx=>b14 G n t_g_States t_g_Edges t_g_Whole t_labels t_parts edges node sets i t47 t48 t49 t54 t55 h1 h2 v.1 v.2 (fun y0 y1=>nx (y0,y1)) k0) m (t56,h3)
noncomputable def b11 {R:Type} (G:Gs) (n:Nat) (t_g_States:List Tm) (t_g_Edges:List (List Int)) (t_g_Whole:Bool) (t_labels:List Int) (t_parts:List Fm) (edges:List (List Int)) (node:Int) (sets:Int) (t47:List (List Int)) (t48:Int) (h1:List (ByteArray×Int)) (h2:List Bool) (t49:Int) (h3:List (List Int)) (nx:Int->List (List Int)->Option R) (k0:List (List Int)->Option R):Option R:=
 bif decide (t49<t48)then
  (
  Option.bind (ix t47 t49) fun e=>
  l14 G n n t_g_States t_g_Edges t_g_Whole t_labels t_parts edges node sets t49 t47 t48 t49 e (List.length e:Int) h1 h2 0 h3
   (fun h32=>nx (wr (t49+1)) h32)
  )
 else
  k0 h3
noncomputable def l11 {R:Type} (G:Gs) (n m:Nat) (t_g_States:List Tm) (t_g_Edges:List (List Int)) (t_g_Whole:Bool) (t_labels:List Int) (t_parts:List Fm) (edges:List (List Int)) (node:Int) (sets:Int) (t47:List (List Int)) (t48:Int) (h1:List (ByteArray×Int)) (h2:List Bool) (t49:Int) (h3:List (List Int)) (k0:List (List Int)->Option R):Option R:=iter (fun(v:Int×List (List Int)) nx=>b11 G n t_g_States t_g_Edges t_g_Whole t_labels t_parts edges node sets t47 t48 h1 h2 v.1 v.2 (fun y0 y1=>nx (y0,y1)) k0) m (t49,h3)
noncomputable def b27 {R:Type} (G:Gs) (n:Nat) (t_g_States:List Tm) (t_g_Edges:List (List Int)) (t_g_Whole:Bool) (t_labels:List Int) (t_parts:List Fm) (edges:List (List Int)) (sets:Int) (i:Int) (t82:List Fm) (t83:Int) (t84:Int) (t93:Int) (h2:List Bool) (h3:List Bool) (h4:Int) (h42:Int) (h43:List Fm) (met:Bool) (t94:Int) (h1:List (ByteArray×Int)) (nx:Bool->Int->(List (ByteArray×Int))->Option R) (k0:Bool->(List (ByteArray×Int))->Option R):Option R:=
 bif decide (t94 < t93) then
  (
  Option.bind (ix h2 t94) fun e=>
  bif e then
   (
   Option.bind (ix h3 t94) fun e2=>
   bif e2 then
    (
    bif met then
     (nx true (wr (t94+1)) h1)
    else
     Option.bind (bif decide (0<=t94)&&decide (0<sets)then some (t94%sets)else none) fun q10=>
     Option.bind (bif decide (0<=i)then some (Abs.bitsI .shl .i64 1 i)else none) fun q12=>
     bif decide ((Abs.bitsI .and .i64 q10 q12)=0)then
      (nx true (wr (t94+1)) h1)
     else
      Option.bind (ix h43 1) fun e6=>
      Option.bind (bif decide (0<=t94)&&decide (0<sets)then some (t94 / sets)else none) fun q14=>
      Option.bind (bif decide (0<=t94)&&decide (0<sets)then some (t94%sets)else none) fun q16=>
      Option.bind (G.i_tableau_holds t_g_States t_g_Edges t_g_Whole t_labels t_parts h1 (Fm.mk (Fm.kind e6) (Fm.prop e6) (Fm.kids e6)) q14 q16) fun r2=>
      nx r2.1 (wr (t94+1)) r2.2
    )
   else
    nx met (wr (t94+1)) h1
   )
  else
   nx met (wr (t94+1)) h1
  )
 else
  k0 met h1
noncomputable def l27 {R:Type} (G:Gs) (n m:Nat) (t_g_States:List Tm) (t_g_Edges:List (List Int)) (t_g_Whole:Bool) (t_labels:List Int) (t_parts:List Fm) (edges:List (List Int)) (sets:Int) (i:Int) (t82:List Fm) (t83:Int) (t84:Int) (t93:Int) (h2:List Bool) (h3:List Bool) (h4:Int) (h42:Int) (h43:List Fm) (met:Bool) (t94:Int) (h1:List (ByteArray×Int)) (k0:Bool->(List (ByteArray×Int))->Option R):Option R:=iter (fun(v:Bool×Int×(List (ByteArray×Int))) nx=>b27 G n t_g_States t_g_Edges t_g_Whole t_labels t_parts edges sets i t82 t83 t84 t93 h2 h3 h4 h42 h43 v.1 v.2.1 v.2.2 (fun y0 y1 y2=>nx (y0,y1,y2)) k0) m (met,t94,h1)
noncomputable def b22 {R:Type} (G:Gs) (n:Nat) (t_g_States:List Tm) (t_g_Edges:List (List Int)) (t_g_Whole:Bool) (t_labels:List Int) (t_parts:List Fm) (edges:List (List Int)) (sets:Int) (t82:List Fm) (t83:Int) (h2:List Bool) (h3:List Bool) (t84:Int) (h1:List (ByteArray×Int)) (nx:Int->(List (ByteArray×Int))->Option R) (k0:Bool->(List (ByteArray×Int))->Option R) (k1:(List (ByteArray×Int))->Option R):Option R:=
 bif decide (t84 < t83) then
  (
  Option.bind (ix t82 t84) fun e=>
  bif !decide ((Fm.kind e)=7)then
   (nx (wr (t84+1)) h1)
  else
   l27 G n n t_g_States t_g_Edges t_g_Whole t_labels t_parts edges sets t84 t82 t83 t84 (List.length edges:Int) h2 h3 (Fm.kind e) (Fm.prop e) (Fm.kids e) false 0 h1
    (fun met2 h12 =>
     bif !met2 then
      (k0 false h12)
     else
      nx (wr (t84+1)) h12
    )
  )
 else
  k1 h1
noncomputable def l22 {R:Type} (G:Gs) (n m:Nat) (t_g_States:List Tm) (t_g_Edges:List (List Int)) (t_g_Whole:Bool) (t_labels:List Int) (t_parts:List Fm) (edges:List (List Int)) (sets:Int) (t82:List Fm) (t83:Int) (h2:List Bool) (h3:List Bool) (t84:Int) (h1:List (ByteArray×Int)) (k0:Bool->(List (ByteArray×Int))->Option R) (k1:(List (ByteArray×Int))->Option R):Option R:=iter (fun(v:Int×(List (ByteArray×Int))) nx=>b22 G n t_g_States t_g_Edges t_g_Whole t_labels t_parts edges sets t82 t83 h2 h3 v.1 v.2 (fun y0 y1=>nx (y0,y1)) k0 k1) m (t84,h1)
noncomputable def main {R:Type} (G:Gs) (n:Nat) (t_g_States:List Tm) (t_g_Edges:List (List Int)) (t_g_Whole:Bool) (t_labels:List Int) (t_parts:List Fm) (t_index:List (ByteArray×Int)) (edges:List (List Int)) (node:Int) (sets:Int) (K:Bool->(List (ByteArray×Int))->Option R):Option R:=
 Option.bind (mk (α:=Bool) false (List.length edges:Int)) fun xs=>
 Option.bind (ix edges node) fun e=>
 l3 G n n t_g_States t_g_Edges t_g_Whole t_labels t_parts edges node sets e (List.length e : Int) t_index 0 xs
  (fun h22 =>
   Option.bind (ix h22 node) fun e2=>
   bif !e2 then
    (K false t_index)
   else
    Option.bind (mk (α:=List Int) [] (List.length edges:Int)) fun xss=>
    l11 G n n t_g_States t_g_Edges t_g_Whole t_labels t_parts edges node sets edges (List.length edges:Int) t_index h22 0 xss
     (fun h32 =>
      Option.bind (mk (α:=Bool) false (List.length edges:Int)) fun xs2=>
      Option.bind (G.i_spread h32 node xs2) fun r=>
      l22 G n n t_g_States t_g_Edges t_g_Whole t_labels t_parts edges sets t_parts (List.length t_parts:Int) h22 r 0 t_index
       (fun t8 h12=>K t8 h12)
       (fun h122=>K true h122)
     )
  )
noncomputable def dl3 (G:Gs) (n m:Nat) (R:Type) (st:St) (K:Kt R):Option R:=match st with
 |⟨[(0,.one (.p 0 0)),(1,.one (.l (.sl .i) edges)),(2,.one (.i node)),(3,.one (.i sets)),(9,.one (.o 2)),(28,.one (.l .i t28)),(29,.one (.i t29)),(30,.one (.i t30))],[.box [.l (.n 1) t_g_States,.l (.sl .i) t_g_Edges,.b t_g_Whole,.l .i t_labels,.l (.n 2) t_parts,.m 1],.map .i h1,.row .b 0 h2]⟩=>l3 G n m t_g_States t_g_Edges t_g_Whole t_labels t_parts edges node sets t28 t29 h1 t30 h2 (fun h22=>K (.exit 0) ⟨[(0,.one (.p 0 0)),(1,.one (.l (.sl .i) edges)),(2,.one (.i node)),(3,.one (.i sets)),(9,.one (.o 2))],[.box [.l (.n 1) t_g_States,.l (.sl .i) t_g_Edges,.b t_g_Whole,.l .i t_labels,.l (.n 2) t_parts,.m 1],.map .i h1,.row .b 0 h22]⟩)
 |_=>none
noncomputable def dl14 (G:Gs) (n m:Nat) (R:Type) (st:St) (K:Kt R):Option R:=match st with
 |⟨[(0,.one (.p 0 0)),(1,.one (.l (.sl .i) edges)),(2,.one (.i node)),(3,.one (.i sets)),(9,.one (.o 2)),(12,.one (.o 3)),(13,.one (.i i)),(47,.one (.l (.sl .i) t47)),(48,.one (.i t48)),(49,.one (.i t49)),(54,.one (.l .i t54)),(55,.one (.i t55)),(56,.one (.i t56))],[.box [.l (.n 1) t_g_States,.l (.sl .i) t_g_Edges,.b t_g_Whole,.l .i t_labels,.l (.n 2) t_parts,.m 1],.map .i h1,.row .b 0 h2,.rows .i h3 none]⟩=>l14 G n m t_g_States t_g_Edges t_g_Whole t_labels t_parts edges node sets i t47 t48 t49 t54 t55 h1 h2 t56 h3 (fun h32=>K (.exit 4) ⟨[(0,.one (.p 0 0)),(1,.one (.l (.sl .i) edges)),(2,.one (.i node)),(3,.one (.i sets)),(9,.one (.o 2)),(12,.one (.o 3)),(47,.one (.l (.sl .i) t47)),(48,.one (.i t48)),(49,.one (.i t49))],[.box [.l (.n 1) t_g_States,.l (.sl .i) t_g_Edges,.b t_g_Whole,.l .i t_labels,.l (.n 2) t_parts,.m 1],.map .i h1,.row .b 0 h2,.rows .i h32 none]⟩)
 |_=>none
noncomputable def dl11 (G:Gs) (n m:Nat) (R:Type) (st:St) (K:Kt R):Option R:=match st with
 |⟨[(0,.one (.p 0 0)),(1,.one (.l (.sl .i) edges)),(2,.one (.i node)),(3,.one (.i sets)),(9,.one (.o 2)),(12,.one (.o 3)),(47,.one (.l (.sl .i) t47)),(48,.one (.i t48)),(49,.one (.i t49))],[.box [.l (.n 1) t_g_States,.l (.sl .i) t_g_Edges,.b t_g_Whole,.l .i t_labels,.l (.n 2) t_parts,.m 1],.map .i h1,.row .b 0 h2,.rows .i h3 none]⟩=>l11 G n m t_g_States t_g_Edges t_g_Whole t_labels t_parts edges node sets t47 t48 h1 h2 t49 h3 (fun h32=>K (.exit 2) ⟨[(0,.one (.p 0 0)),(1,.one (.l (.sl .i) edges)),(2,.one (.i node)),(3,.one (.i sets)),(9,.one (.o 2)),(12,.one (.o 3))],[.box [.l (.n 1) t_g_States,.l (.sl .i) t_g_Edges,.b t_g_Whole,.l .i t_labels,.l (.n 2) t_parts,.m 1],.map .i h1,.row .b 0 h2,.rows .i h32 none]⟩)
 |_=>none
noncomputable def dl27 (G:Gs) (n m:Nat) (R:Type) (st:St) (K:Kt R):Option R:=match st with
 |⟨[(0,.one (.p 0 0)),(1,.one (.l (.sl .i) edges)),(3,.one (.i sets)),(9,.one (.o 2)),(17,.one (.o 3)),(18,.one (.i i)),(19,.one (.p 4 0)),(20,.one (.b met)),(82,.one (.l (.n 2) t82)),(83,.one (.i t83)),(84,.one (.i t84)),(93,.one (.i t93)),(94,.one (.i t94))],[.box [.l (.n 1) t_g_States,.l (.sl .i) t_g_Edges,.b t_g_Whole,.l .i t_labels,.l (.n 2) t_parts,.m 1],.map .i h1,.row .b 0 h2,.row .b 0 h3,.box [.i h4,.i h42,.l (.n 2) h43]]⟩=>l27 G n m t_g_States t_g_Edges t_g_Whole t_labels t_parts edges sets i t82 t83 t84 t93 h2 h3 h4 h42 h43 met t94 h1 (fun met2 h12=>K (.exit 8) ⟨[(0,.one (.p 0 0)),(1,.one (.l (.sl .i) edges)),(3,.one (.i sets)),(9,.one (.o 2)),(17,.one (.o 3)),(20,.one (.b met2)),(82,.one (.l (.n 2) t82)),(83,.one (.i t83)),(84,.one (.i t84))],[.box [.l (.n 1) t_g_States,.l (.sl .i) t_g_Edges,.b t_g_Whole,.l .i t_labels,.l (.n 2) t_parts,.m 1],.map .i h12,.row .b 0 h2,.row .b 0 h3]⟩)
 |_=>none
noncomputable def dl22 (G:Gs) (n m:Nat) (R:Type) (st:St) (K:Kt R):Option R:=match st with
 |⟨[(0,.one (.p 0 0)),(1,.one (.l (.sl .i) edges)),(3,.one (.i sets)),(9,.one (.o 2)),(17,.one (.o 3)),(82,.one (.l (.n 2) t82)),(83,.one (.i t83)),(84,.one (.i t84))],[.box [.l (.n 1) t_g_States,.l (.sl .i) t_g_Edges,.b t_g_Whole,.l .i t_labels,.l (.n 2) t_parts,.m 1],.map .i h1,.row .b 0 h2,.row .b 0 h3]⟩=>l22 G n m t_g_States t_g_Edges t_g_Whole t_labels t_parts edges sets t82 t83 h2 h3 t84 h1 (fun t8 h12=>K .ret ⟨[(8,.one (.b t8))],[.box [.l (.n 1) t_g_States,.l (.sl .i) t_g_Edges,.b t_g_Whole,.l .i t_labels,.l (.n 2) t_parts,.m 1],.map .i h12]⟩) (fun h12=>K (.exit 6) ⟨[],[.box [.l (.n 1) t_g_States,.l (.sl .i) t_g_Edges,.b t_g_Whole,.l .i t_labels,.l (.n 2) t_parts,.m 1],.map .i h12]⟩)
 |_=>none
noncomputable def pc (G:Gs) (n:Nat):Pcs:=⟨fun R id st K=>bif Nat.beq id 3 then dl3 G n n R st K else bif Nat.beq id 14 then dl14 G n n R st K else bif Nat.beq id 11 then dl11 G n n R st K else bif Nat.beq id 27 then dl27 G n n R st K else bif Nat.beq id 22 then dl22 G n n R st K else none,fun _ _ _ _=>none,fun _ _ _ _=>none⟩
noncomputable def an:Ann:=⟨135,2,[(3,[0,1,2,3,9,28,29,30]),(14,[0,1,2,3,9,12,13,47,48,49,54,55,56]),(11,[0,1,2,3,9,12,47,48,49]),(27,[0,1,3,9,17,18,19,20,82,83,84,93,94]),(22,[0,1,3,9,17,82,83,84])],[],[8],[(30,⟨[([0,1,2,3,4,5,6,7,8,9,10,11,12,13,14,15,16,17,18,19,20,21,22,23,24],[22],[])],[22],[],[2,3,4],[]⟩)],[46]⟩
noncomputable abbrev bd:=bodyOf Tryd.f99
noncomputable abbrev q3:=nthC [1,1,0,1,0,0] bd
noncomputable abbrev q14:=nthC [1,1,1,1,1,0,1,0,0,1,1,0,0,1,1,0,0] bd
noncomputable abbrev q11:=nthC [1,1,1,1,1,0,1,0,0] bd
noncomputable abbrev q27:=nthC [1,1,1,1,1,1,1,1,0,1,0,0,1,1,0,0,1,1,1,0,1,0,0] bd
noncomputable abbrev q22:=nthC [1,1,1,1,1,1,1,1,0,1,0,0] bd
theorem pl3 {G:Gs} (hG:AllE Tryd.prog (ents G)) (n:Nat):∀m,PieceOK Tryd.prog an (.loop q3) (dl3 G n m):=lpc hG (pc G n) [0,1,2,3,9,28,29,30] ⟨[0,1,2,3,9],[8],[(0,[0,1,2,3,9])]⟩ (apl [] trivial) (fun R st K=>by unfold dl3;split<;>rfl) fun m R st K r h=>by unfold dl3 at h;split at h;exact .trans (by kernel_rfl) h;cases h
theorem pl14 {G:Gs} (hG:AllE Tryd.prog (ents G)) (n:Nat):∀m,PieceOK Tryd.prog an (.loop q14) (dl14 G n m):=lpc hG (pc G n) [0,1,2,3,9,12,13,47,48,49,54,55,56] ⟨[0,1,2,3,9,12,47,48,49],[8],[(2,[0,1,2,3,9,12]),(3,[0,1,2,3,9,12,47,48,49]),(4,[0,1,2,3,9,12,47,48,49])]⟩ (apl [] trivial) (fun R st K=>by unfold dl14;split<;>rfl) fun m R st K r h=>by unfold dl14 at h;split at h;exact .trans (by kernel_rfl) h;cases h
theorem pl11 {G:Gs} (hG:AllE Tryd.prog (ents G)) (n:Nat):∀m,PieceOK Tryd.prog an (.loop q11) (dl11 G n m):=lpc hG (pc G n) [0,1,2,3,9,12,47,48,49] ⟨[0,1,2,3,9,12],[8],[(2,[0,1,2,3,9,12])]⟩ (apl [(1,14,.loop q14)] ⟨pl14 hG n n,trivial⟩) (fun R st K=>by unfold dl11;split<;>rfl) fun m R st K r h=>by unfold dl11 at h;split at h;exact .trans (by kernel_rfl) h;cases h
theorem pl27 {G:Gs} (hG:AllE Tryd.prog (ents G)) (n:Nat):∀m,PieceOK Tryd.prog an (.loop q27) (dl27 G n m):=lpc hG (pc G n) [0,1,3,9,17,18,19,20,82,83,84,93,94] ⟨[0,1,3,9,17,20,82,83,84],[8],[(6,[]),(7,[0,1,3,9,17,82,83,84]),(8,[0,1,3,9,17,20,82,83,84])]⟩ (apl [] trivial) (fun R st K=>by unfold dl27;split<;>rfl) fun m R st K r h=>by unfold dl27 at h;split at h;exact .trans (by kernel_rfl) h;cases h
theorem pl22 {G:Gs} (hG:AllE Tryd.prog (ents G)) (n:Nat):∀m,PieceOK Tryd.prog an (.loop q22) (dl22 G n m):=lpc hG (pc G n) [0,1,3,9,17,82,83,84] ⟨[],[8],[(6,[])]⟩ (apl [(1,27,.loop q27)] ⟨pl27 hG n n,trivial⟩) (fun R st K=>by unfold dl22;split<;>rfl) fun m R st K r h=>by unfold dl22 at h;split at h;exact .trans (by kernel_rfl) h;cases h
noncomputable def Does (G:Gs) (t_g_States:List Tm) (t_g_Edges:List (List Int)) (t_g_Whole:Bool) (t_labels:List Int) (t_parts:List Fm) (t_index:List (ByteArray×Int)) (edges:List (List Int)) (node:Int) (sets:Int) (r:Bool×List (ByteArray×Int)):Prop:=∃n,main (R:=AT×List Ob) G n t_g_States t_g_Edges t_g_Whole t_labels t_parts t_index edges node sets (fun r0 r1=>some (.one (.b r0),[.box [.l (.n 1) t_g_States,.l (.sl .i) t_g_Edges,.b t_g_Whole,.l .i t_labels,.l (.n 2) t_parts,.m 1],.map .i r1]))=some (.one (.b r.1),[.box [.l (.n 1) t_g_States,.l (.sl .i) t_g_Edges,.b t_g_Whole,.l .i t_labels,.l (.n 2) t_parts,.m 1],.map .i r.2])
theorem ok {G:Gs} (hG:AllE Tryd.prog (ents G)) {g:List Tm->List (List Int)->Bool->List Int->List Fm->(List (ByteArray×Int))->List (List Int)->Int->Int->Option (Bool×List (ByteArray×Int))} (hg:∀t_g_States t_g_Edges t_g_Whole t_labels t_parts t_index edges node sets r,g t_g_States t_g_Edges t_g_Whole t_labels t_parts t_index edges node sets=some r->Does G t_g_States t_g_Edges t_g_Whole t_labels t_parts t_index edges node sets r):EntOK Tryd.prog (ent g):=fun R xs H K r hc=>by
 simp only[ent]at hc
 split at hc
 ·obtain⟨r,j1,j2⟩:=bind_some hc
  obtain⟨n,j3⟩:=hg _ _ _ _ _ _ _ _ _ _ j1
  exact⟨_,_,j2,fnP hG an (pc G n) bd [.tmp 8] Tryd.func99 (.inl rfl) (apl [(1,3,.loop q3),(1,11,.loop q11),(1,22,.loop q22)] ⟨pl3 hG n n,⟨pl11 hG n n,⟨pl22 hG n n,trivial⟩⟩⟩) (.trans (by kernel_rfl) j3)⟩
 ·cases hc
end i_tableau_fair
namespace i_someRun
structure Gs where
 i_temporalParts:Fm->List Fm->Option (List Fm)
 i_formulaText:Fm->Option (ByteArray)
 i_followers:Gr->Int->Option (List Int)
 i_tableau_follows:List Tm->List (List Int)->Bool->List Int->List Fm->(List (ByteArray×Int))->Int->Int->Int->Int->Option (Bool×List (ByteArray×Int))
 i_tableau_holds:List Tm->List (List Int)->Bool->List Int->List Fm->(List (ByteArray×Int))->Fm->Int->Int->Option (Bool×List (ByteArray×Int))
 i_spread:List (List Int)->Int->List Bool->Option (List Bool)
 i_tableau_fair:List Tm->List (List Int)->Bool->List Int->List Fm->(List (ByteArray×Int))->List (List Int)->Int->Int->Option (Bool×List (ByteArray×Int))
noncomputable def ents (G:Gs):List Ent:=[i_temporalParts.ent G.i_temporalParts,i_formulaText.ent G.i_formulaText,i_followers.ent G.i_followers,i_tableau_follows.ent G.i_tableau_follows,i_tableau_holds.ent G.i_tableau_holds,i_spread.ent G.i_spread,i_tableau_fair.ent G.i_tableau_fair]
noncomputable def d1 {R:Type} (G:Gs) (n:Nat) (labels:List Int) (h0:List Tm) (h02:List (List Int)) (h03:Bool) (h1:Int) (h12:Int) (h13:List Fm) (k0:List Fm->(List (ByteArray×Int))->Option R):Option R:=
 Option.bind (G.i_temporalParts (Fm.mk h1 h12 h13) []) fun r=>
 k0 r []
noncomputable def d1_1 {R:Type} (G:Gs) (n:Nat) (labels:List Int) (h0:List Tm) (h02:List (List Int)) (h03:Bool) (h1:Int) (h12:Int) (h13:List Fm) (k0:List Fm->(List (ByteArray×Int))->Option R):Option R:=
 Option.bind (G.i_temporalParts (Fm.mk h1 h12 h13) []) fun r=>
 k0 r []
theorem e1_1 {R:Type} (G:Gs) (n:Nat) (labels:List Int) (h0:List Tm) (h02:List (List Int)) (h03:Bool) (h1:Int) (h12:Int) (h13:List Fm) (k0:List Fm->(List (ByteArray×Int))->Option R):d1_1 G n labels h0 h02 h03 h1 h12 h13 k0=d1 G n labels h0 h02 h03 h1 h12 h13 k0:=by
 unfold d1_1 d1
 generalize G.i_temporalParts (Fm.mk h1 h12 h13) []=o0
 cases o0<;>first|rfl|simp
noncomputable def b3 {R:Type} (G:Gs) (n:Nat) (t31:List Fm) (t32:Int) (h0:List Tm) (h02:List (List Int)) (h03:Bool) (h1:Int) (h12:Int) (h13:List Fm) (h2:List Tm) (h22:List (List Int)) (h23:Bool) (h24:List Int) (h25:List Fm) (t33:Int) (h3:List (ByteArray×Int)) (nx:Int->(List (ByteArray×Int))->Option R) (k0:(List (ByteArray×Int))->Option R):Option R:=
 bif decide (t33<t32)then
  (
  Option.bind (ix t31 t33) fun e=>
  Option.bind (G.i_formulaText (Fm.mk (Fm.kind e) (Fm.prop e) (Fm.kids e))) fun r4=>
  nx (wr (t33+1)) ((r4,t33)::h3)
  )
 else
  k0 h3
noncomputable def l3 {R:Type} (G:Gs) (n m:Nat) (t31:List Fm) (t32:Int) (h0:List Tm) (h02:List (List Int)) (h03:Bool) (h1:Int) (h12:Int) (h13:List Fm) (h2:List Tm) (h22:List (List Int)) (h23:Bool) (h24:List Int) (h25:List Fm) (t33:Int) (h3:List (ByteArray×Int)) (k0:(List (ByteArray×Int))->Option R):Option R:=iter (fun(v:Int×(List (ByteArray×Int))) nx=>b3 G n t31 t32 h0 h02 h03 h1 h12 h13 h2 h22 h23 h24 h25 v.1 v.2 (fun y0 y1=>nx (y0,y1)) k0) m (t33,h3)
noncomputable def b19 {R:Type} (G:Gs) (n:Nat) (sets:Int) (state:Int) (set1:Int) (next1:Int) (t60:Int) (t61:Int) (t64:Int) (t65:Int) (t70:List Int) (t71:Int) (t72:Int) (t76:Int) (h0:List Tm) (h02:List (List Int)) (h03:Bool) (h1:Int) (h12:Int) (h13:List Fm) (h2:List Tm) (h22:List (List Int)) (h23:Bool) (h24:List Int) (h25:List Fm) (t77:Int) (h3:List (ByteArray×Int)) (h4:List (List Int)) (nx:Int->(List (ByteArray×Int))->List (List Int)->Option R) (k0:(List (ByteArray×Int))->List (List Int)->Option R):Option R:=
 bif decide (t77<t76)then
  (
  Option.bind (G.i_tableau_follows h2 h22 h23 h24 h25 h3 state set1 next1 t77) fun r=>
  bif r.1 then
   (
   Option.bind (ix h4 (wr ((wr (state*sets))+set1))) fun _e=>
   Option.bind (h4[(Int.toNat (wr ((wr (state*sets))+set1)))]?) fun ys=>
   Option.bind (lim (ys++[wr ((wr (next1*sets))+t77)])) fun zs=>
   Option.bind (ix h4 (wr ((wr (state*sets))+set1))) fun _e2=>
   Option.bind (eqN (Int.toNat (wr ((wr (state*sets))+set1))) (Int.toNat (wr ((wr (state*sets))+set1))) (List.length h4)) fun _u=>
   nx (wr (t77+1)) r.2 (List.set h4 (Int.toNat (wr ((wr (state*sets))+set1))) zs)
   )
  else
   nx (wr (t77+1)) r.2 h4
  )
 else
  k0 h3 h4
noncomputable def l19 {R:Type} (G:Gs) (n m:Nat) (sets:Int) (state:Int) (set1:Int) (next1:Int) (t60:Int) (t61:Int) (t64:Int) (t65:Int) (t70:List Int) (t71:Int) (t72:Int) (t76:Int) (h0:List Tm) (h02:List (List Int)) (h03:Bool) (h1:Int) (h12:Int) (h13:List Fm) (h2:List Tm) (h22:List (List Int)) (h23:Bool) (h24:List Int) (h25:List Fm) (t77:Int) (h3:List (ByteArray×Int)) (h4:List (List Int)) (k0:(List (ByteArray×Int))->List (List Int)->Option R):Option R:=iter (fun(v:Int×(List (ByteArray×Int))×List (List Int)) nx=>b19 G n sets state set1 next1 t60 t61 t64 t65 t70 t71 t72 t76 h0 h02 h03 h1 h12 h13 h2 h22 h23 h24 h25 v.1 v.2.1 v.2.2 (fun y0 y1 y2=>nx (y0,y1,y2)) k0) m (t77,h3,h4)
noncomputable def b16 {R:Type} (G:Gs) (n:Nat) (sets:Int) (state:Int) (set1:Int) (t60:Int) (t61:Int) (t64:Int) (t65:Int) (t70:List Int) (t71:Int) (h0:List Tm) (h02:List (List Int)) (h03:Bool) (h1:Int) (h12:Int) (h13:List Fm) (h2:List Tm) (h22:List (List Int)) (h23:Bool) (h24:List Int) (h25:List Fm) (t72:Int) (h3:List (ByteArray×Int)) (h4:List (List Int)) (nx:Int->(List (ByteArray×Int))->List (List Int)->Option R) (k0:(List (ByteArray×Int))->List (List Int)->Option R):Option R:=
 bif decide (t72<t71)then
  (
  Option.bind (ix t70 t72) fun e=>
  l19 G n n sets state set1 e t60 t61 t64 t65 t70 t71 t72 sets h0 h02 h03 h1 h12 h13 h2 h22 h23 h24 h25 0 h3 h4
   (fun h32 h42=>nx (wr (t72+1)) h32 h42)
  )
 else
  k0 h3 h4
noncomputable def l16 {R:Type} (G:Gs) (n m:Nat) (sets:Int) (state:Int) (set1:Int) (t60:Int) (t61:Int) (t64:Int) (t65:Int) (t70:List Int) (t71:Int) (h0:List Tm) (h02:List (List Int)) (h03:Bool) (h1:Int) (h12:Int) (h13:List Fm) (h2:List Tm) (h22:List (List Int)) (h23:Bool) (h24:List Int) (h25:List Fm) (t72:Int) (h3:List (ByteArray×Int)) (h4:List (List Int)) (k0:(List (ByteArray×Int))->List (List Int)->Option R):Option R:=iter (fun(v:Int×(List (ByteArray×Int))×List (List Int)) nx=>b16 G n sets state set1 t60 t61 t64 t65 t70 t71 h0 h02 h03 h1 h12 h13 h2 h22 h23 h24 h25 v.1 v.2.1 v.2.2 (fun y0 y1 y2=>nx (y0,y1,y2)) k0) m (t72,h3,h4)
noncomputable def b13 {R:Type} (G:Gs) (n:Nat) (sets:Int) (state:Int) (t60:Int) (t61:Int) (t64:Int) (h0:List Tm) (h02:List (List Int)) (h03:Bool) (h1:Int) (h12:Int) (h13:List Fm) (h2:List Tm) (h22:List (List Int)) (h23:Bool) (h24:List Int) (h25:List Fm) (t65:Int) (h3:List (ByteArray×Int)) (h4:List (List Int)) (nx:Int->(List (ByteArray×Int))->List (List Int)->Option R) (k0:(List (ByteArray×Int))->List (List Int)->Option R):Option R:=
 bif decide (t65<t64)then
  (
  Option.bind (G.i_followers (Gr.mk h0 h02 h03) state) fun r=>
  l16 G n n sets state t65 t60 t61 t64 t65 r (List.length r:Int) h0 h02 h03 h1 h12 h13 h2 h22 h23 h24 h25 0 h3 h4
   (fun h32 h42=>nx (wr (t65+1)) h32 h42)
  )
 else
  k0 h3 h4
noncomputable def l13 {R:Type} (G:Gs) (n m:Nat) (sets:Int) (state:Int) (t60:Int) (t61:Int) (t64:Int) (h0:List Tm) (h02:List (List Int)) (h03:Bool) (h1:Int) (h12:Int) (h13:List Fm) (h2:List Tm) (h22:List (List Int)) (h23:Bool) (h24:List Int) (h25:List Fm) (t65:Int) (h3:List (ByteArray×Int)) (h4:List (List Int)) (k0:(List (ByteArray×Int))->List (List Int)->Option R):Option R:=iter (fun(v:Int×(List (ByteArray×Int))×List (List Int)) nx=>b13 G n sets state t60 t61 t64 h0 h02 h03 h1 h12 h13 h2 h22 h23 h24 h25 v.1 v.2.1 v.2.2 (fun y0 y1 y2=>nx (y0,y1,y2)) k0) m (t65,h3,h4)
noncomputable def b10 {R:Type} (G:Gs) (n:Nat) (sets:Int) (t60:Int) (h0:List Tm) (h02:List (List Int)) (h03:Bool) (h1:Int) (h12:Int) (h13:List Fm) (h2:List Tm) (h22:List (List Int)) (h23:Bool) (h24:List Int) (h25:List Fm) (t61:Int) (h3:List (ByteArray×Int)) (h4:List (List Int)) (nx:Int->(List (ByteArray×Int))->List (List Int)->Option R) (k0:(List (ByteArray×Int))->List (List Int)->Option R):Option R:=
 bif decide (t61<t60)then
  (
  l13 G n n sets t61 t60 t61 sets h0 h02 h03 h1 h12 h13 h2 h22 h23 h24 h25 0 h3 h4
   (fun h32 h42=>nx (wr (t61+1)) h32 h42)
  )
 else
  k0 h3 h4
noncomputable def l10 {R:Type} (G:Gs) (n m:Nat) (sets:Int) (t60:Int) (h0:List Tm) (h02:List (List Int)) (h03:Bool) (h1:Int) (h12:Int) (h13:List Fm) (h2:List Tm) (h22:List (List Int)) (h23:Bool) (h24:List Int) (h25:List Fm) (t61:Int) (h3:List (ByteArray×Int)) (h4:List (List Int)) (k0:(List (ByteArray×Int))->List (List Int)->Option R):Option R:=iter (fun(v:Int×(List (ByteArray×Int))×List (List Int)) nx=>b10 G n sets t60 h0 h02 h03 h1 h12 h13 h2 h22 h23 h24 h25 v.1 v.2.1 v.2.2 (fun y0 y1 y2=>nx (y0,y1,y2)) k0) m (t61,h3,h4)
noncomputable def b29 {R:Type} (G:Gs) (n:Nat) (sets:Int) (edges:List (List Int)) (t115:Int) (h0:Int) (h02:Int) (h03:List Fm) (h1:List Tm) (h12:List (List Int)) (h13:Bool) (h14:List Int) (h15:List Fm) (t116:Int) (h2:List (ByteArray×Int)) (h3:List Bool) (nx:Int->(List (ByteArray×Int))->List Bool->Option R) (k0:(List (ByteArray×Int))->List Bool->Option R):Option R:=
 bif decide (t116<t115)then
  (
  Option.bind (G.i_tableau_holds h1 h12 h13 h14 h15 h2 (Fm.mk h0 h02 h03) 0 t116) fun r=>
  bif r.1 then
   (
   Option.bind (G.i_spread edges t116 h3) fun r2=>
   nx (wr (t116+1)) r.2 r2
   )
  else
   nx (wr (t116+1)) r.2 h3
  )
 else
  k0 h2 h3
noncomputable def l29 {R:Type} (G:Gs) (n m:Nat) (sets:Int) (edges:List (List Int)) (t115:Int) (h0:Int) (h02:Int) (h03:List Fm) (h1:List Tm) (h12:List (List Int)) (h13:Bool) (h14:List Int) (h15:List Fm) (t116:Int) (h2:List (ByteArray×Int)) (h3:List Bool) (k0:(List (ByteArray×Int))->List Bool->Option R):Option R:=iter (fun(v:Int×(List (ByteArray×Int))×List Bool) nx=>b29 G n sets edges t115 h0 h02 h03 h1 h12 h13 h14 h15 v.1 v.2.1 v.2.2 (fun y0 y1 y2=>nx (y0,y1,y2)) k0) m (t116,h2,h3)
noncomputable def b35 {R:Type} (G:Gs) (n:Nat) (sets:Int) (edges:List (List Int)) (t129:Int) (h0:List Tm) (h02:List (List Int)) (h03:Bool) (h04:List Int) (h05:List Fm) (h2:List Bool) (t130:Int) (h1:List (ByteArray×Int)) (nx:Int->(List (ByteArray×Int))->Option R) (k0:Bool->Option R) (k1:Option R):Option R:=
 bif decide (t130<t129)then
  (
  Option.bind (ix h2 t130) fun e=>
  bif e then
   (
   Option.bind (G.i_tableau_fair h0 h02 h03 h04 h05 h1 edges t130 sets) fun r=>
   bif r.1 then
    (k0 true)
   else
    nx (wr (t130+1)) r.2
   )
  else
   nx (wr (t130+1)) h1
  )
 else
  k1
noncomputable def l35 {R:Type} (G:Gs) (n m:Nat) (sets:Int) (edges:List (List Int)) (t129:Int) (h0:List Tm) (h02:List (List Int)) (h03:Bool) (h04:List Int) (h05:List Fm) (h2:List Bool) (t130:Int) (h1:List (ByteArray×Int)) (k0:Bool->Option R) (k1:Option R):Option R:=iter (fun(v:Int×(List (ByteArray×Int))) nx=>b35 G n sets edges t129 h0 h02 h03 h04 h05 h2 v.1 v.2 (fun y0 y1=>nx (y0,y1)) k0 k1) m (t130,h1)
noncomputable def main {R:Type} (G:Gs) (n:Nat) (g:Gr) (labels:List Int) (f:Fm) (K:Bool->Option R):Option R:=
 d1 G n labels (Gr.states g) (Gr.edges g) (Gr.whole g) (Fm.kind f) (Fm.prop f) (Fm.kids f)
  (fun h25 h3 =>
   l3 G n n h25 (List.length h25 : Int) (Gr.states g) (Gr.edges g) (Gr.whole g) (Fm.kind f) (Fm.prop f) (Fm.kids f) (Gr.states g) (Gr.edges g) (Gr.whole g) labels h25 0 h3
    (fun h32 =>
     Option.bind (bif decide (0<=(List.length h25:Int))then some (Abs.bitsI .shl .i64 1 (List.length h25:Int))else none) fun q=>
     Option.bind (mk (α:=List Int) [] (wr ((List.length (Gr.states g):Int)*q))) fun xss=>
     l10 G n n q (List.length (Gr.states g) : Int) (Gr.states g) (Gr.edges g) (Gr.whole g) (Fm.kind f) (Fm.prop f) (Fm.kids f) (Gr.states g) (Gr.edges g) (Gr.whole g) labels h25 0 h32 xss
      (fun h26 h322 =>
       Option.bind (mk (α:=Bool) false (List.length h322:Int)) fun xs=>
       l29 G n n q h322 q (Fm.kind f) (Fm.prop f) (Fm.kids f) (Gr.states g) (Gr.edges g) (Gr.whole g) labels h25 0 h26 xs
        (fun h16 h22 =>
         l35 G n n q h322 (List.length h22:Int) (Gr.states g) (Gr.edges g) (Gr.whole g) labels h25 h22 0 h16
          (fun t6=>K t6)
          (K false)
        )
      )
    )
  )
noncomputable def dd1 (G:Gs) (n:Nat) (R:Type) (st:St) (K:Kt R):Option R:=match st with
 |⟨[(1,.one (.l .i labels)),(3,.one (.p 0 0)),(5,.one (.p 1 0))],[.box [.l (.n 1) h0,.l (.sl .i) h02,.b h03],.box [.i h1,.i h12,.l (.n 2) h13]]⟩=>d1 G n labels h0 h02 h03 h1 h12 h13 (fun h25 h3=>K .normal ⟨[(3,.one (.p 0 0)),(5,.one (.p 1 0)),(7,.one (.p 2 0))],[.box [.l (.n 1) h0,.l (.sl .i) h02,.b h03],.box [.i h1,.i h12,.l (.n 2) h13],.box [.l (.n 1) h0,.l (.sl .i) h02,.b h03,.l .i labels,.l (.n 2) h25,.m 3],.map .i h3]⟩)
 |_=>none
noncomputable def dl3 (G:Gs) (n m:Nat) (R:Type) (st:St) (K:Kt R):Option R:=match st with
 |⟨[(3,.one (.p 0 0)),(5,.one (.p 1 0)),(7,.one (.p 2 0)),(31,.one (.l (.n 2) t31)),(32,.one (.i t32)),(33,.one (.i t33))],[.box [.l (.n 1) h0,.l (.sl .i) h02,.b h03],.box [.i h1,.i h12,.l (.n 2) h13],.box [.l (.n 1) h2,.l (.sl .i) h22,.b h23,.l .i h24,.l (.n 2) h25,.m 3],.map .i h3]⟩=>l3 G n m t31 t32 h0 h02 h03 h1 h12 h13 h2 h22 h23 h24 h25 t33 h3 (fun h32=>K (.exit 0) ⟨[(3,.one (.p 0 0)),(5,.one (.p 1 0)),(7,.one (.p 2 0))],[.box [.l (.n 1) h0,.l (.sl .i) h02,.b h03],.box [.i h1,.i h12,.l (.n 2) h13],.box [.l (.n 1) h2,.l (.sl .i) h22,.b h23,.l .i h24,.l (.n 2) h25,.m 3],.map .i h32]⟩)
 |_=>none
noncomputable def dl19 (G:Gs) (n m:Nat) (R:Type) (st:St) (K:Kt R):Option R:=match st with
 |⟨[(3,.one (.p 0 0)),(5,.one (.p 1 0)),(7,.one (.p 2 0)),(10,.one (.i sets)),(11,.one (.o 4)),(12,.one (.i state)),(13,.one (.i set1)),(15,.one (.i next1)),(60,.one (.i t60)),(61,.one (.i t61)),(64,.one (.i t64)),(65,.one (.i t65)),(70,.one (.l .i t70)),(71,.one (.i t71)),(72,.one (.i t72)),(76,.one (.i t76)),(77,.one (.i t77))],[.box [.l (.n 1) h0,.l (.sl .i) h02,.b h03],.box [.i h1,.i h12,.l (.n 2) h13],.box [.l (.n 1) h2,.l (.sl .i) h22,.b h23,.l .i h24,.l (.n 2) h25,.m 3],.map .i h3,.rows .i h4 none]⟩=>l19 G n m sets state set1 next1 t60 t61 t64 t65 t70 t71 t72 t76 h0 h02 h03 h1 h12 h13 h2 h22 h23 h24 h25 t77 h3 h4 (fun h32 h42=>K (.exit 8) ⟨[(3,.one (.p 0 0)),(5,.one (.p 1 0)),(7,.one (.p 2 0)),(10,.one (.i sets)),(11,.one (.o 4)),(12,.one (.i state)),(13,.one (.i set1)),(60,.one (.i t60)),(61,.one (.i t61)),(64,.one (.i t64)),(65,.one (.i t65)),(70,.one (.l .i t70)),(71,.one (.i t71)),(72,.one (.i t72))],[.box [.l (.n 1) h0,.l (.sl .i) h02,.b h03],.box [.i h1,.i h12,.l (.n 2) h13],.box [.l (.n 1) h2,.l (.sl .i) h22,.b h23,.l .i h24,.l (.n 2) h25,.m 3],.map .i h32,.rows .i h42 none]⟩)
 |_=>none
noncomputable def dl16 (G:Gs) (n m:Nat) (R:Type) (st:St) (K:Kt R):Option R:=match st with
 |⟨[(3,.one (.p 0 0)),(5,.one (.p 1 0)),(7,.one (.p 2 0)),(10,.one (.i sets)),(11,.one (.o 4)),(12,.one (.i state)),(13,.one (.i set1)),(60,.one (.i t60)),(61,.one (.i t61)),(64,.one (.i t64)),(65,.one (.i t65)),(70,.one (.l .i t70)),(71,.one (.i t71)),(72,.one (.i t72))],[.box [.l (.n 1) h0,.l (.sl .i) h02,.b h03],.box [.i h1,.i h12,.l (.n 2) h13],.box [.l (.n 1) h2,.l (.sl .i) h22,.b h23,.l .i h24,.l (.n 2) h25,.m 3],.map .i h3,.rows .i h4 none]⟩=>l16 G n m sets state set1 t60 t61 t64 t65 t70 t71 h0 h02 h03 h1 h12 h13 h2 h22 h23 h24 h25 t72 h3 h4 (fun h32 h42=>K (.exit 6) ⟨[(3,.one (.p 0 0)),(5,.one (.p 1 0)),(7,.one (.p 2 0)),(10,.one (.i sets)),(11,.one (.o 4)),(12,.one (.i state)),(60,.one (.i t60)),(61,.one (.i t61)),(64,.one (.i t64)),(65,.one (.i t65))],[.box [.l (.n 1) h0,.l (.sl .i) h02,.b h03],.box [.i h1,.i h12,.l (.n 2) h13],.box [.l (.n 1) h2,.l (.sl .i) h22,.b h23,.l .i h24,.l (.n 2) h25,.m 3],.map .i h32,.rows .i h42 none]⟩)
 |_=>none
noncomputable def dl13 (G:Gs) (n m:Nat) (R:Type) (st:St) (K:Kt R):Option R:=match st with
 |⟨[(3,.one (.p 0 0)),(5,.one (.p 1 0)),(7,.one (.p 2 0)),(10,.one (.i sets)),(11,.one (.o 4)),(12,.one (.i state)),(60,.one (.i t60)),(61,.one (.i t61)),(64,.one (.i t64)),(65,.one (.i t65))],[.box [.l (.n 1) h0,.l (.sl .i) h02,.b h03],.box [.i h1,.i h12,.l (.n 2) h13],.box [.l (.n 1) h2,.l (.sl .i) h22,.b h23,.l .i h24,.l (.n 2) h25,.m 3],.map .i h3,.rows .i h4 none]⟩=>l13 G n m sets state t60 t61 t64 h0 h02 h03 h1 h12 h13 h2 h22 h23 h24 h25 t65 h3 h4 (fun h32 h42=>K (.exit 4) ⟨[(3,.one (.p 0 0)),(5,.one (.p 1 0)),(7,.one (.p 2 0)),(10,.one (.i sets)),(11,.one (.o 4)),(60,.one (.i t60)),(61,.one (.i t61))],[.box [.l (.n 1) h0,.l (.sl .i) h02,.b h03],.box [.i h1,.i h12,.l (.n 2) h13],.box [.l (.n 1) h2,.l (.sl .i) h22,.b h23,.l .i h24,.l (.n 2) h25,.m 3],.map .i h32,.rows .i h42 none]⟩)
 |_=>none
noncomputable def dl10 (G:Gs) (n m:Nat) (R:Type) (st:St) (K:Kt R):Option R:=match st with
 |⟨[(3,.one (.p 0 0)),(5,.one (.p 1 0)),(7,.one (.p 2 0)),(10,.one (.i sets)),(11,.one (.o 4)),(60,.one (.i t60)),(61,.one (.i t61))],[.box [.l (.n 1) h0,.l (.sl .i) h02,.b h03],.box [.i h1,.i h12,.l (.n 2) h13],.box [.l (.n 1) h2,.l (.sl .i) h22,.b h23,.l .i h24,.l (.n 2) h25,.m 3],.map .i h3,.rows .i h4 none]⟩=>l10 G n m sets t60 h0 h02 h03 h1 h12 h13 h2 h22 h23 h24 h25 t61 h3 h4 (fun h26 h32=>K (.exit 2) ⟨[(5,.one (.p 0 0)),(7,.one (.p 1 0)),(10,.one (.i sets)),(11,.one (.o 3))],[.box [.i h1,.i h12,.l (.n 2) h13],.box [.l (.n 1) h2,.l (.sl .i) h22,.b h23,.l .i h24,.l (.n 2) h25,.m 2],.map .i h26,.rows .i h32 none]⟩)
 |_=>none
noncomputable def dl29 (G:Gs) (n m:Nat) (R:Type) (st:St) (K:Kt R):Option R:=match st with
 |⟨[(5,.one (.p 0 0)),(7,.one (.p 1 0)),(10,.one (.i sets)),(11,.one (.l (.sl .i) edges)),(17,.one (.o 3)),(115,.one (.i t115)),(116,.one (.i t116))],[.box [.i h0,.i h02,.l (.n 2) h03],.box [.l (.n 1) h1,.l (.sl .i) h12,.b h13,.l .i h14,.l (.n 2) h15,.m 2],.map .i h2,.row .b 0 h3]⟩=>l29 G n m sets edges t115 h0 h02 h03 h1 h12 h13 h14 h15 t116 h2 h3 (fun h16 h22=>K (.exit 10) ⟨[(7,.one (.p 0 0)),(10,.one (.i sets)),(11,.one (.l (.sl .i) edges)),(17,.one (.o 2))],[.box [.l (.n 1) h1,.l (.sl .i) h12,.b h13,.l .i h14,.l (.n 2) h15,.m 1],.map .i h16,.row .b 0 h22]⟩)
 |_=>none
noncomputable def dl35 (G:Gs) (n m:Nat) (R:Type) (st:St) (K:Kt R):Option R:=match st with
 |⟨[(7,.one (.p 0 0)),(10,.one (.i sets)),(11,.one (.l (.sl .i) edges)),(128,.one (.o 2)),(129,.one (.i t129)),(130,.one (.i t130))],[.box [.l (.n 1) h0,.l (.sl .i) h02,.b h03,.l .i h04,.l (.n 2) h05,.m 1],.map .i h1,.row .b 0 h2]⟩=>l35 G n m sets edges t129 h0 h02 h03 h04 h05 h2 t130 h1 (fun t6=>K .ret ⟨[(6,.one (.b t6))],[]⟩) (K (.exit 12) ⟨[],[]⟩)
 |_=>none
noncomputable def pc (G:Gs) (n:Nat):Pcs:=⟨fun R id st K=>bif Nat.beq id 3 then dl3 G n n R st K else bif Nat.beq id 19 then dl19 G n n R st K else bif Nat.beq id 16 then dl16 G n n R st K else bif Nat.beq id 13 then dl13 G n n R st K else bif Nat.beq id 10 then dl10 G n n R st K else bif Nat.beq id 29 then dl29 G n n R st K else bif Nat.beq id 35 then dl35 G n n R st K else none,fun _ _ _ _=>none,fun R id st K=>bif Nat.beq id 1 then dd1 G n R st K else none⟩
noncomputable def an:Ann:=⟨144,0,[(3,[3,5,7,31,32,33]),(19,[3,5,7,10,11,12,13,15,60,61,64,65,70,71,72,76,77]),(16,[3,5,7,10,11,12,13,60,61,64,65,70,71,72]),(13,[3,5,7,10,11,12,60,61,64,65]),(10,[3,5,7,10,11,60,61]),(29,[5,7,10,11,17,115,116]),(35,[7,10,11,128,129,130])],[],[6],[(1,⟨[([2,3,4,0,1,5,6,7],[3,4,6],[]),([4,2,3,0,1,5,6,7],[4,3,6],[])],[3,4,6],[],[0,1],[1,3,5]⟩),(5,⟨[([0,1,2,3,4,5,6,7],[7],[])],[7],[],[0,1,2,4],[]⟩)],[57,112]⟩
noncomputable abbrev bd:=bodyOf Tryd.f56
noncomputable abbrev q1:=nthC [1,0] bd
noncomputable abbrev q3:=nthC [1,1,0,1,0,0] bd
noncomputable abbrev q19:=nthC [1,1,1,1,1,0,1,0,0,1,1,0,0,1,1,0,0,1,1,0,0,1,1,0,0,1,1,0,0,1,1,0,0] bd
noncomputable abbrev q16:=nthC [1,1,1,1,1,0,1,0,0,1,1,0,0,1,1,0,0,1,1,0,0,1,1,0,0] bd
noncomputable abbrev q13:=nthC [1,1,1,1,1,0,1,0,0,1,1,0,0,1,1,0,0] bd
noncomputable abbrev q10:=nthC [1,1,1,1,1,0,1,0,0] bd
noncomputable abbrev q29:=nthC [1,1,1,1,1,1,1,0,1,0,0] bd
noncomputable abbrev q35:=nthC [1,1,1,1,1,1,1,1,0,1,0,0] bd
theorem s1_0 (G:Gs) (n:Nat) (R:Type) (labels:List Int) (h0:List Tm) (h02:List (List Int)) (h03:Bool) (h1:Int) (h12:Int) (h13:List Fm) (K:Kt R):(fun st1:St=>drawD tb (orcOf (ents G)) an.nt (opsOf (q1)) (maskH [0,1] st1.H) [2,3,4,0,1,5,6,7] [3,4,6] [] [] [2,3,4,0,1,5,6,7] st1.L st1.H st1.H fun L H=>outK an.refs ⟨[3,5,7],[6],[]⟩ K .normal ⟨L,H⟩) (fzIds (slotRows (St.L ⟨[(1,.one (.l .i labels)),(3,.one (.p 0 0)),(5,.one (.p 1 0))],[.box [.l (.n 1) h0,.l (.sl .i) h02,.b h03],.box [.i h1,.i h12,.l (.n 2) h13]]⟩) (St.H ⟨[(1,.one (.l .i labels)),(3,.one (.p 0 0)),(5,.one (.p 1 0))],[.box [.l (.n 1) h0,.l (.sl .i) h02,.b h03],.box [.i h1,.i h12,.l (.n 2) h13]]⟩) []) ⟨[(1,.one (.l .i labels)),(3,.one (.p 0 0)),(5,.one (.p 1 0))],[.box [.l (.n 1) h0,.l (.sl .i) h02,.b h03],.box [.i h1,.i h12,.l (.n 2) h13]]⟩)=dd1 G n R ⟨[(1,.one (.l .i labels)),(3,.one (.p 0 0)),(5,.one (.p 1 0))],[.box [.l (.n 1) h0,.l (.sl .i) h02,.b h03],.box [.i h1,.i h12,.l (.n 2) h13]]⟩ K:=by kernel_rfl
theorem s1_1 (G:Gs) (n:Nat) (R:Type) (labels:List Int) (h0:List Tm) (h02:List (List Int)) (h03:Bool) (h1:Int) (h12:Int) (h13:List Fm) (K:Kt R):(fun st1:St=>drawD tb (orcOf (ents G)) an.nt (opsOf (q1)) (maskH [0,1] st1.H) [4,2,3,0,1,5,6,7] [4,3,6] [] [] [4,2,3,0,1,5,6,7] st1.L st1.H st1.H fun L H=>outK an.refs ⟨[3,5,7],[6],[]⟩ K .normal ⟨L,H⟩) (fzIds (slotRows (St.L ⟨[(1,.one (.l .i labels)),(3,.one (.p 0 0)),(5,.one (.p 1 0))],[.box [.l (.n 1) h0,.l (.sl .i) h02,.b h03],.box [.i h1,.i h12,.l (.n 2) h13]]⟩) (St.H ⟨[(1,.one (.l .i labels)),(3,.one (.p 0 0)),(5,.one (.p 1 0))],[.box [.l (.n 1) h0,.l (.sl .i) h02,.b h03],.box [.i h1,.i h12,.l (.n 2) h13]]⟩) []) ⟨[(1,.one (.l .i labels)),(3,.one (.p 0 0)),(5,.one (.p 1 0))],[.box [.l (.n 1) h0,.l (.sl .i) h02,.b h03],.box [.i h1,.i h12,.l (.n 2) h13]]⟩)=d1_1 G n labels h0 h02 h03 h1 h12 h13 (fun h25 h3=>K .normal ⟨[(3,.one (.p 0 0)),(5,.one (.p 1 0)),(7,.one (.p 2 0))],[.box [.l (.n 1) h0,.l (.sl .i) h02,.b h03],.box [.i h1,.i h12,.l (.n 2) h13],.box [.l (.n 1) h0,.l (.sl .i) h02,.b h03,.l .i labels,.l (.n 2) h25,.m 3],.map .i h3]⟩):=by kernel_rfl
theorem pd1 {G:Gs} (hG:AllE Tryd.prog (ents G)) {n:Nat}:PieceOK Tryd.prog an (q1) (dd1 G n):=by
 have hc:q1= .region 1 (opsOf (q1)) true:=by kernel_rfl
 rw[hc]
 refine draw_piece mixed tb_ok (orc_ok hG) (o:=⟨[3,5,7],[6],[]⟩) (d:=⟨[([2,3,4,0,1,5,6,7],[3,4,6],[]),([4,2,3,0,1,5,6,7],[4,3,6],[])],[3,4,6],[],[0,1],[1,3,5]⟩) (by kernel_rfl) (fun p hp R st K r h=> ?_)
 have e:=h
 unfold dd1 at e
 split at e
 ·rename_i x0 x1 x2 x3 x4 x5 x6;simp only[List.mem_cons,List.not_mem_nil,or_false]at hp
  rcases hp with rfl|rfl
  ·exact(s1_0 G n R x0 x1 x2 x3 x4 x5 x6 K).trans h
  ·exact((s1_1 G n R x0 x1 x2 x3 x4 x5 x6 K).trans (e1_1 G n  x0 x1 x2 x3 x4 x5 x6 _)).trans h
 ·cases e
theorem pl3 {G:Gs} (hG:AllE Tryd.prog (ents G)) (n:Nat):∀m,PieceOK Tryd.prog an (.loop q3) (dl3 G n m):=lpc hG (pc G n) [3,5,7,31,32,33] ⟨[3,5,7],[6],[(0,[3,5,7])]⟩ (apl [] trivial) (fun R st K=>by unfold dl3;split<;>rfl) fun m R st K r h=>by unfold dl3 at h;split at h;exact .trans (by kernel_rfl) h;cases h
theorem pl19 {G:Gs} (hG:AllE Tryd.prog (ents G)) (n:Nat):∀m,PieceOK Tryd.prog an (.loop q19) (dl19 G n m):=lpc hG (pc G n) [3,5,7,10,11,12,13,15,60,61,64,65,70,71,72,76,77] ⟨[3,5,7,10,11,12,13,60,61,64,65,70,71,72],[6],[(2,[5,7,10,11]),(3,[3,5,7,10,11,60,61]),(4,[3,5,7,10,11,60,61]),(5,[3,5,7,10,11,12,60,61,64,65]),(6,[3,5,7,10,11,12,60,61,64,65]),(7,[3,5,7,10,11,12,13,60,61,64,65,70,71,72]),(8,[3,5,7,10,11,12,13,60,61,64,65,70,71,72])]⟩ (apl [] trivial) (fun R st K=>by unfold dl19;split<;>rfl) fun m R st K r h=>by unfold dl19 at h;split at h;exact .trans (by kernel_rfl) h;cases h
theorem pl16 {G:Gs} (hG:AllE Tryd.prog (ents G)) (n:Nat):∀m,PieceOK Tryd.prog an (.loop q16) (dl16 G n m):=lpc hG (pc G n) [3,5,7,10,11,12,13,60,61,64,65,70,71,72] ⟨[3,5,7,10,11,12,60,61,64,65],[6],[(2,[5,7,10,11]),(3,[3,5,7,10,11,60,61]),(4,[3,5,7,10,11,60,61]),(5,[3,5,7,10,11,12,60,61,64,65]),(6,[3,5,7,10,11,12,60,61,64,65])]⟩ (apl [(1,19,.loop q19)] ⟨pl19 hG n n,trivial⟩) (fun R st K=>by unfold dl16;split<;>rfl) fun m R st K r h=>by unfold dl16 at h;split at h;exact .trans (by kernel_rfl) h;cases h
theorem pl13 {G:Gs} (hG:AllE Tryd.prog (ents G)) (n:Nat):∀m,PieceOK Tryd.prog an (.loop q13) (dl13 G n m):=lpc hG (pc G n) [3,5,7,10,11,12,60,61,64,65] ⟨[3,5,7,10,11,60,61],[6],[(2,[5,7,10,11]),(3,[3,5,7,10,11,60,61]),(4,[3,5,7,10,11,60,61])]⟩ (apl [(1,16,.loop q16)] ⟨pl16 hG n n,trivial⟩) (fun R st K=>by unfold dl13;split<;>rfl) fun m R st K r h=>by unfold dl13 at h;split at h;exact .trans (by kernel_rfl) h;cases h
theorem pl10 {G:Gs} (hG:AllE Tryd.prog (ents G)) (n:Nat):∀m,PieceOK Tryd.prog an (.loop q10) (dl10 G n m):=lpc hG (pc G n) [3,5,7,10,11,60,61] ⟨[5,7,10,11],[6],[(2,[5,7,10,11])]⟩ (apl [(1,13,.loop q13)] ⟨pl13 hG n n,trivial⟩) (fun R st K=>by unfold dl10;split<;>rfl) fun m R st K r h=>by unfold dl10 at h;split at h;exact .trans (by kernel_rfl) h;cases h
theorem pl29 {G:Gs} (hG:AllE Tryd.prog (ents G)) (n:Nat):∀m,PieceOK Tryd.prog an (.loop q29) (dl29 G n m):=lpc hG (pc G n) [5,7,10,11,17,115,116] ⟨[7,10,11,17],[6],[(10,[7,10,11,17])]⟩ (apl [] trivial) (fun R st K=>by unfold dl29;split<;>rfl) fun m R st K r h=>by unfold dl29 at h;split at h;exact .trans (by kernel_rfl) h;cases h
theorem pl35 {G:Gs} (hG:AllE Tryd.prog (ents G)) (n:Nat):∀m,PieceOK Tryd.prog an (.loop q35) (dl35 G n m):=lpc hG (pc G n) [7,10,11,128,129,130] ⟨[],[6],[(12,[])]⟩ (apl [] trivial) (fun R st K=>by unfold dl35;split<;>rfl) fun m R st K r h=>by unfold dl35 at h;split at h;exact .trans (by kernel_rfl) h;cases h
noncomputable def Does (G:Gs) (g:Gr) (labels:List Int) (f:Fm) (r:Bool):Prop:=∃n,main (R:=AT×List Ob) G n g labels f (fun r0=>some (.one (.b r0),[]))=some (.one (.b r),[])
theorem ok {G:Gs} (hG:AllE Tryd.prog (ents G)) {g:Gr->List Int->Fm->Option (Bool)} (hg:∀g_ labels f r,g g_ labels f=some r->Does G g_ labels f r):EntOK Tryd.prog (ent g):=fun R xs H K r hc=>by
 simp only[ent]at hc
 split at hc
 ·obtain⟨r,j1,j2⟩:=bind_some hc
  obtain⟨n,j3⟩:=hg _ _ _ _ j1
  exact⟨_,_,j2,fnP hG an (pc G n) bd [.tmp 6] Tryd.func56 (.inl rfl) (apl [(2,1,q1),(1,3,.loop q3),(1,10,.loop q10),(1,29,.loop q29),(1,35,.loop q35)] ⟨pd1 hG,⟨pl3 hG n n,⟨pl10 hG n n,⟨pl29 hG n n,⟨pl35 hG n n,trivial⟩⟩⟩⟩⟩) (.trans (by kernel_rfl) j3)⟩
 ·cases hc
end i_someRun
namespace i_AllRunsHold
structure Gs where
 i_checkable:Gr->List Int->Fm->Option (Bool)
 i_someRun:Gr->List Int->Fm->Option (Bool)
noncomputable def ents (G:Gs):List Ent:=[i_checkable.ent G.i_checkable,i_someRun.ent G.i_someRun]
noncomputable def main {R:Type} (G:Gs) (n:Nat) (g:Gr) (labels:List Int) (f:Fm) (K:Bool->Bool->Option R):Option R:=
 Option.bind (G.i_checkable g labels (Fm.mk (Fm.kind f) (Fm.prop f) (Fm.kids f))) fun r=>
 bif !r then
  (K false false)
 else
  Option.bind (G.i_someRun g labels (Fm.mk 3 0 [(Fm.mk (Fm.kind f) (Fm.prop f) (Fm.kids f))])) fun r2=>
  K (!r2) true
noncomputable def pc (_:Gs) (_:Nat):Pcs:=⟨fun _ _ _ _=>none,fun _ _ _ _=>none,fun _ _ _ _=>none⟩
noncomputable def an:Ann:=⟨20,0,[],[],[6,7],[],[]⟩
noncomputable abbrev bd:=bodyOf Tryd.f25
noncomputable def Does (G:Gs) (g:Gr) (labels:List Int) (f:Fm) (r:Bool×Bool):Prop:=∃n,main (R:=AT×List Ob) G n g labels f (fun r0 r1=>some (.tup [.one (.b r0),.one (.b r1)],[]))=some (.tup [.one (.b r.1),.one (.b r.2)],[])
theorem ok {G:Gs} (hG:AllE Tryd.prog (ents G)) {g:Gr->List Int->Fm->Option (Bool×Bool)} (hg:∀g_ labels f r,g g_ labels f=some r->Does G g_ labels f r):EntOK Tryd.prog (ent g):=fun R xs H K r hc=>by
 simp only[ent]at hc
 split at hc
 ·obtain⟨r,j1,j2⟩:=bind_some hc
  obtain⟨n,j3⟩:=hg _ _ _ _ j1
  exact⟨_,_,j2,fnP hG an (pc G n) bd [.tmp 6,.tmp 7] Tryd.func25 (.inl rfl) (apl [] trivial) (.trans (by kernel_rfl) j3)⟩
 ·cases hc
end i_AllRunsHold
namespace i_SomeRunHolds
noncomputable abbrev bd:=bodyOf Tryd.f27
end i_SomeRunHolds
end Go.Proofs.YtjafncnjefnloaaDoor.Den

namespace Go.Proofs.YtjafncnjefnloaaDoor.Den
open Go.RowKit
open Classical
inductive Star {α:Type} (E:α->α->Prop):α->α->Prop
 |refl (a:α):Star E a a
 |step {a b c:α}:E a b->Star E b c->Star E a c
def Plus {α:Type} (E:α->α->Prop) (a c:α):Prop:=∃b,E a b/\Star E b c
theorem Star.trans {α:Type} {E:α->α->Prop} {a b c:α} (h:Star E a b) (h':Star E b c):Star E a c:=by
 induction h with
 |refl=>exact h'
 |step e _ ih=>exact .step e (ih h')
theorem Star.one {α:Type} {E:α->α->Prop} {a b:α} (h:E a b):Star E a b:=.step h (.refl _)
theorem Plus.star {α:Type} {E:α->α->Prop} {a b:α} (h:Plus E a b):Star E a b:=h.elim fun _ ⟨h1,h2⟩=>.step h1 h2
theorem Plus.star_right {α:Type} {E:α->α->Prop} {a b c:α} (h:Plus E a b) (h':Star E b c):Plus E a c:=h.elim fun x ⟨h1,h2⟩=>⟨x,h1,h2.trans h'⟩
theorem Star.plus {α:Type} {E:α->α->Prop} {a b c:α} (h:Star E a b) (h':Plus E b c):Plus E a c:=by
 cases h with
 |refl=>exact h'
 |step e r=>exact⟨_,e,r.trans h'.star⟩
theorem Star.cases_plus {α:Type} {E:α->α->Prop} {a b:α} (h:Star E a b):a=b\/Plus E a b:=by
 cases h with
 |refl=>exact .inl rfl
 |step e r=>exact .inr ⟨_,e,r⟩
theorem Star.inv {α:Type} {E:α->α->Prop} {S:α->Prop} (hS:∀a b,S a->E a b->S b) {a b:α} (h:Star E a b) (ha:S a):S b:=by
 induction h with
 |refl=>exact ha
 |step e _ ih=>exact ih (hS _ _ ha e)
theorem Star.tail {α:Type} {E:α->α->Prop} {a b c:α} (h:Star E a b) (e:E b c):Plus E a c:=h.plus ⟨c,e,.refl _⟩
theorem Star.rev {α:Type} {E:α->α->Prop} {a b:α} (h:Star E a b):Star (fun x y=>E y x) b a:=by
 induction h with
 |refl=>exact .refl _
 |step e _ ih=>exact ih.trans (.one e)
def edge (es:List (List Int)) (a b:Nat):Prop:=∃row,es[a]? =some row/\(b:Int)∈row
def goodE (es:List (List Int)):Prop:=es.length<=1000/\∀row∈es,row.length<=1000000/\∀x∈row,0<=x/\x<es.length
theorem edge_lt {es:List (List Int)} (h:goodE es) {a b:Nat} (e:edge es a b):a<es.length/\b<es.length:=by
 obtain⟨row,h1,h2⟩:=e
 obtain⟨hlt,_⟩:=List.getElem?_eq_some_iff.1 h1
 exact⟨hlt,by have:=((h.2 row (List.mem_of_getElem? h1)).2 _ h2).2;omega⟩
def mkd (m:List Bool) (j:Nat):Prop:=m[j]? =some true
theorem mkd_set {m:List Bool} {v:Nat} (hv:v<m.length) (j:Nat):mkd (m.set v true) j↔j=v\/mkd m j:=by
 unfold mkd
 rw[List.getElem?_set]
 by_cases e:v=j
 ·subst e;simp[hv]
 ·simp[e,Ne.symm e]
theorem mkd_rep {n j:Nat}:¬mkd (List.replicate n false) j:=by
 unfold mkd
 rw[List.getElem?_replicate]
 split<;>simp
theorem mkd_ix {m:List Bool} {j:Nat} (hj:j<m.length):ix m (j:Int)=some (decide (mkd m j)):=by
 obtain⟨b,hb,_⟩:=get_lt hj
 rw[ix_get hb]
 unfold mkd
 rw[hb]
 cases b<;>simp
theorem cnt_mono :∀{m m':List Bool},m'.length=m.length->(∀j,mkd m j->mkd m' j)->m'.count false<=m.count false
 |[],[],_,_=>Nat.le_refl _
 |[],_::_,h,_=>by cases h
 |_::_,[],h,_=>by cases h
 | a :: m, b :: m', h, hm => by
  have h1:=cnt_mono (m:=m) (m':=m') (by simpa using h) fun j hj=>hm (j+1) hj
  have h0:=hm 0
  rw[List.count_cons,List.count_cons]
  cases a<;>cases b<;>simp[mkd]at h0 ⊢<;>omega
theorem cnt_set :∀{m:List Bool} {v:Nat},m[v]? =some false->(m.set v true).count false+1=m.count false
 |a::m,0,h=>by simp at h;subst h;simp
 | a :: m, v + 1, h => by
  have:=cnt_set (m:=m) (v:=v) (by simpa using h)
  rw[List.set_cons_succ,List.count_cons,List.count_cons]
  omega
 |[],_,h=>by simp at h
noncomputable def spreadF (es:List (List Int)):Nat->Nat->List Bool->List Bool
 |0,_,m=>m
 |k+1,v,m=>if mkd m v then m else (es[v]?.getD []).foldl (fun m w=>spreadF es k w.toNat m) (m.set v true)
structure Grown (es:List (List Int)) (S:Nat->Prop) (m m':List Bool):Prop where
 len:m'.length=m.length
 mono:∀j,mkd m j->mkd m' j
 hit:∀v,S v->mkd m' v
 new:∀j,mkd m' j->mkd m j\/∃v,S v/\Star (edge es) v j
 closed:∀j,mkd m' j->mkd m j\/∀w,edge es j w->mkd m' w
theorem Grown.cnt {es:List (List Int)} {S:Nat->Prop} {m m':List Bool} (h:Grown es S m m'):m'.count false<=m.count false:=cnt_mono h.len h.mono
theorem post_fold {es:List (List Int)} {k n:Nat} (hk:∀(v:Nat) (m:List Bool),v<n->m.length=n->m.count false<k->Grown es (·=v) m (spreadF es k v m)):
  ∀(ws:List Int) (m:List Bool),(∀x∈ws,0<=x/\x<n)->m.length=n->m.count false<k->Grown es (fun v=>(v:Int)∈ws) m (ws.foldl (fun m w=>spreadF es k w.toNat m) m)
 |[],m,_,_,_=>⟨rfl,fun _ h=>h,fun _ h=>by simp at h,fun _ h=>.inl h,fun _ h=>.inl h⟩
 | x :: ws, m, hw, hl, hc => by
  have hx:=hw x (by simp)
  have p:=hk x.toNat m (by omega) hl hc
  have q:=post_fold hk ws _ (fun y hy=>hw y (by simp[hy])) (p.len.trans hl) (Nat.lt_of_le_of_lt p.cnt hc)
  refine⟨q.len.trans p.len,fun j h=>q.mono j (p.mono j h),fun v hv=> ?_,fun j h=> ?_,fun j h=> ?_⟩
  ·rcases List.mem_cons.1 hv with e|hv
   ·exact q.mono _ (p.hit v (by omega))
   ·exact q.hit v hv
  ·rcases q.new j h with h|⟨v,h1,h2⟩
   ·rcases p.new j h with h|⟨v,rfl,h2⟩
    ·exact .inl h
    ·exact .inr ⟨_,by simp[Int.toNat_of_nonneg hx.1],h2⟩
   ·exact .inr ⟨v,List.mem_cons_of_mem _ h1,h2⟩
  ·rcases q.closed j h with h|h
   ·rcases p.closed j h with h|h
    ·exact .inl h
    ·exact .inr fun w e=>q.mono w (h w e)
   ·exact .inr h
theorem spread_post {es:List (List Int)} (he:goodE es):∀(k v:Nat) (m:List Bool),v<es.length->m.length=es.length->m.count false<k->Grown es (·=v) m (spreadF es k v m)
 |0,_,_,_,_,h=>absurd h (Nat.not_lt_zero _)
 | k + 1, v, m, hv, hl, hc => by
  unfold spreadF
  split
  ·rename_i hm
   exact⟨rfl,fun _ h=>h,fun w e=>by subst e;exact hm,fun _ h=>.inl h,fun _ h=>.inl h⟩
  ·rename_i hm
   have hf:m[v]? =some false:=by
    obtain⟨b,hb,_⟩:=get_lt (xs:=m) (i:=v) (by omega)
    cases b
    ·exact hb
    ·exact absurd hb hm
   have hcs:=cnt_set hf
   obtain⟨row,hr,hrm⟩:=get_lt hv
   have hes:=(he.2 row hrm).2
   rw[hr,Option.getD_some]
   have q:=post_fold (es:=es) (k:=k) (n:=es.length) (fun v m h1 h2 h3=>spread_post he k v m h1 h2 h3) row (m.set v true) hes (by simp;omega) (by omega)
   have hset:=fun j=>mkd_set (m:=m) (v:=v) (by omega) j
   refine⟨by rw[q.len];simp,fun j h=>q.mono j ((hset j).2 (.inr h)),fun w e=>by subst e;exact q.mono _ ((hset _).2 (.inl rfl)),fun j h=> ?_,fun j h=> ?_⟩
   ·rcases q.new j h with h|⟨w,h1,h2⟩
    ·rcases(hset j).1 h with h|h
     ·subst h;exact .inr ⟨_,rfl,.refl _⟩
     ·exact .inl h
    ·exact .inr ⟨v,rfl,.step ⟨row,hr,h1⟩ h2⟩
   ·rcases q.closed j h with h|h
    ·rcases(hset j).1 h with h|h
     ·subst h
      refine .inr fun w ⟨row',e1,e2⟩=>q.hit w ?_
      rw[hr]at e1;cases e1;exact e2
     ·exact .inl h
    ·exact .inr h
def closedM (es:List (List Int)) (m:List Bool):Prop:=∀j,mkd m j->∀w,edge es j w->mkd m w
theorem Grown.shut {es:List (List Int)} {S:Nat->Prop} {m m':List Bool} (h:Grown es S m m') (hc:closedM es m):closedM es m':=fun j hj w e=>by
 rcases h.closed j hj with h'|h'
 ·exact h.mono w (hc j h' w e)
 ·exact h' w e
theorem Grown.iff {es:List (List Int)} {S:Nat->Prop} {m m':List Bool} (h:Grown es S m m') (hc:closedM es m) (j:Nat):mkd m' j↔mkd m j\/∃v,S v/\Star (edge es) v j:=by
 refine⟨h.new j,fun q=> ?_⟩
 rcases q with q|⟨v,q1,q2⟩
 ·exact h.mono j q
 ·exact q2.inv (fun a b ha e=>h.shut hc a ha b e) (h.hit v q1)
theorem closed_rep {es:List (List Int)} {n:Nat}:closedM es (List.replicate n false):=fun _ h=>absurd h mkd_rep
theorem cnt_len (m:List Bool):m.count false<=m.length:=List.count_le_length
def PreS (k:Nat) (es:List (List Int)) (v:Int) (m:List Bool):Prop:=goodE es/\m.length=es.length/\(0<=v/\v<es.length)/\m.count false<k
noncomputable def gSpread (k:Nat):List (List Int)->Int->List Bool->Option (List Bool):=fun es v m=>if PreS k es v m then some (spreadF es k v.toNat m)else none
theorem gSpread_zero :gSpread 0=fun _ _ _=>none:=by
 funext es v m
 exact if_neg fun q=>Nat.not_lt_zero _ q.2.2.2
theorem spread_main {R:Type} (k:Nat) (es:List (List Int)) (v:Nat) (m:List Bool) (h:PreS (k+1) es (v:Int) m) (K:List Bool->Option R):i_spread.main ⟨gSpread k⟩ 1000001 es v m K=K (spreadF es (k+1) v m):=by
 obtain⟨he,hl,⟨_,hv⟩,hc⟩:=h
 have hv:v<es.length:=by omega
 obtain⟨row,hr,hrm⟩:=get_lt hv
 have hes:=he.2 row hrm
 unfold i_spread.main
 rw[mkd_ix (by omega),Option.bind_some]
 unfold spreadF
 by_cases hm:mkd m v
 ·rw[decide_eq_true hm,cond_true,if_pos hm]
 ·have hf:m[v]? =some false:=by
   obtain⟨b,hb,_⟩:=get_lt (xs:=m) (i:=v) (by omega)
   cases b
   ·exact hb
   ·exact absurd hb hm
  have hcs:=cnt_set hf
  rw[decide_eq_false hm,cond_false,if_neg hm,Option.bind_some,ix_get hr,Option.bind_some,hr,Option.getD_some,Int.toNat_natCast]
  unfold i_spread.l3
  have key:=fun(ws:List Int) (hw:∀x∈ws,0<=x/\x<(es.length:Int))=>post_fold (es:=es) (k:=k) (n:=es.length) (fun v m h1 h2 h3=>spread_post he k v m h1 h2 h3) ws (m.set v true) hw (by simp;omega) (by omega)
  refine(count row.length (fun t a nx=>i_spread.b3 ⟨gSpread k⟩ 1000001 es row (row.length:Int) t a nx (fun z=>K z)) (fun i a=>a=(row.take i).foldl (fun m w=>spreadF es k w.toNat m) (m.set v true)) (fun _ _=>K (row.foldl (fun m w=>spreadF es k w.toNat m) (m.set v true))) (fun a nx ha=> ?_) (fun i a nx hi ha hnx=> ?_) 1000001 0 _ rfl (by omega) (by omega))
  ·unfold i_spread.b3
   rw[nlt_nat (by omega),cond_false,ha,take_all]
  ·subst ha
   obtain⟨x,hx,hxm⟩:=get_lt hi
   have hp:=key (row.take i) (fun y hy=>hes.2 y (List.mem_of_mem_take hy))
   unfold i_spread.b3
   dsimp only
   rw[lt_nat hi,cond_true,ix_get hx,Option.bind_some,show gSpread k es x _=some _ from if_pos ⟨he,by rw[hp.len];simp;omega,hes.2 x hxm,Nat.lt_of_le_of_lt hp.cnt (by omega)⟩,Option.bind_some,wr_one (by omega)]
   exact hnx _ (fold_take (f:=fun m w=>spreadF es k w.toNat m) hx).symm
theorem spread_ok :∀k,EntOK Tryd.prog (i_spread.ent (gSpread k))
 | 0 => by
  rw[gSpread_zero]
  intro R xs H K r h
  simp only[i_spread.ent]at h
  split at h<;>cases h
 | k + 1 => i_spread.ok (G := ⟨gSpread k⟩) ⟨spread_ok k, trivial⟩ fun es v m r h => by
  unfold gSpread at h
  split at h
  ·rename_i hp
   cases h
   obtain⟨p1,p2,⟨p3,p4⟩,p5⟩:=hp
   obtain⟨a,rfl⟩:=Int.eq_ofNat_of_zero_le p3
   exact⟨1000001,spread_main k es a m ⟨p1,p2,⟨p3,p4⟩,p5⟩ _⟩
  ·cases h
end Go.Proofs.YtjafncnjefnloaaDoor.Den

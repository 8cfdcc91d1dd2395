import Derived.Test.YtjafncnjefnloaaDoorZRowEC14
namespace Go.Proofs.YtjafncnjefnloaaDoor.Den
open Go.RowKit
set_option maxRecDepth 100000
set_option linter.unusedVariables false
namespace i_formulaSize
structure Gs where
 i_formulaSize:Fm->Option (Int)
noncomputable def ents (G:Gs):List Ent:=[ent G.i_formulaSize]
noncomputable def b3 {R:Type} (G:Gs) (n:Nat) (n1:Int) (t7:List Fm) (t8:Int) (t9:Int) (nx:Int->List Fm->Int->Int->Option R) (k0:Int->Option R):Option R:=
 bif decide (t9<t8)then
  (
  Option.bind (ix t7 t9) fun e=>
  Option.bind (G.i_formulaSize (Fm.mk (Fm.kind e) (Fm.prop e) (Fm.kids e))) fun r=>
  nx (wr (n1+r)) t7 t8 (wr (t9+1))
  )
 else
  k0 n1
noncomputable def l3 {R:Type} (G:Gs) (n m:Nat) (n1:Int) (t7:List Fm) (t8:Int) (t9:Int) (k0:Int->Option R):Option R:=iter (fun(v:Int×List Fm×Int×Int) nx=>b3 G n v.1 v.2.1 v.2.2.1 v.2.2.2 (fun y0 y1 y2 y3=>nx (y0,y1,y2,y3)) k0) m (n1,t7,t8,t9)
noncomputable def main {R:Type} (G:Gs) (n:Nat) (f:Fm) (K:Int->Option R):Option R:=
 l3 G n n 1 (Fm.kids f) (List.length (Fm.kids f):Int) 0
  (fun n1=>K n1)
noncomputable def dl3 (G:Gs) (n m:Nat) (R:Type) (st:St) (K:Kt R):Option R:=match st with
 |⟨[(3,.one (.i n1)),(7,.one (.l (.n 2) t7)),(8,.one (.i t8)),(9,.one (.i t9))],[]⟩=>l3 G n m n1 t7 t8 t9 (fun n1=>K (.exit 0) ⟨[(3,.one (.i n1))],[]⟩)
 |_=>none
noncomputable def pc (G:Gs) (n:Nat):Pcs:=⟨fun R id st K=>bif Nat.beq id 3 then dl3 G n n R st K else none,fun _ _ _ _=>none,fun _ _ _ _=>none⟩
noncomputable def an:Ann:=⟨19,0,[(3,[3,7,8,9])],[],[2],[],[]⟩
noncomputable abbrev bd:=bodyOf Tryd.f104
noncomputable abbrev q3:=nthC [1,1,0,1,0,0] bd
theorem pl3 {G:Gs} (hG:AllE Tryd.prog (ents G)) (n:Nat):∀m,PieceOK Tryd.prog an (.loop q3) (dl3 G n m):=lpc hG (pc G n) [3,7,8,9] ⟨[3],[2],[(0,[3])]⟩ (apl [] trivial) (fun R st K=>by unfold dl3;split<;>rfl) fun m R st K r h=>by unfold dl3 at h;split at h;exact .trans (by kernel_rfl) h;cases h
noncomputable def Does (G:Gs) (f:Fm) (r:Int):Prop:=∃n,main (R:=AT×List Ob) G n f (fun r0=>some (.one (.i r0),[]))=some (.one (.i r),[])
theorem ok {G:Gs} (hG:AllE Tryd.prog (ents G)) {g:Fm->Option (Int)} (hg:∀f r,g f=some r->Does G f r):EntOK Tryd.prog (ent g):=fun R xs H K r hc=>by
 simp only[ent]at hc
 split at hc
 ·obtain⟨r,j1,j2⟩:=bind_some hc
  obtain⟨n,j3⟩:=hg _ _ j1
  exact⟨_,_,j2,fnP hG an (pc G n) bd [.tmp 2] Tryd.func104 (.inl rfl) (apl [(1,3,.loop q3)] ⟨pl3 hG n n,trivial⟩) (.trans (by kernel_rfl) j3)⟩
 ·cases hc
end i_formulaSize
namespace i_formulaOK
structure Gs where
 i_formulaOK:Fm->Option (Bool)
noncomputable def ents (G:Gs):List Ent:=[ent G.i_formulaOK]
noncomputable def b16 {R:Type} (G:Gs) (n:Nat) (t44:List Fm) (t45:Int) (t46:Int) (nx:List Fm->Int->Int->Option R) (k0:Bool->Option R) (k1:Option R):Option R:=
 bif decide (t46<t45)then
  (
  Option.bind (ix t44 t46) fun e=>
  Option.bind (G.i_formulaOK (Fm.mk (Fm.kind e) (Fm.prop e) (Fm.kids e))) fun r=>
  bif !r then
   (k0 false)
  else
   nx t44 t45 (wr (t46+1))
  )
 else
  k1
noncomputable def l16 {R:Type} (G:Gs) (n m:Nat) (t44:List Fm) (t45:Int) (t46:Int) (k0:Bool->Option R) (k1:Option R):Option R:=iter (fun(v:List Fm×Int×Int) nx=>b16 G n v.1 v.2.1 v.2.2 (fun y0 y1 y2=>nx (y0,y1,y2)) k0 k1) m (t44,t45,t46)
noncomputable def c15 {R:Type} (G:Gs) (n:Nat) (h0:Int) (h02:Int) (h03:List Fm) (k0:Bool->Option R):Option R:=
 l16 G n n h03 (List.length h03:Int) 0
  (fun t2=>k0 t2)
  (k0 true)
noncomputable def c13 {R:Type} (G:Gs) (n:Nat) (kids:Int) (h0:Int) (h02:Int) (h03:List Fm) (k0:Bool->Option R):Option R:=
 bif !decide ((List.length h03:Int)=kids)then
  (k0 false)
 else
  bif decide (h02<0)then
   (k0 false)
  else
   bif decide (7<h02)then
    (k0 false)
   else
    bif !decide (h0=2)then
     (
     bif !decide (h02=0)then
      (k0 false)
     else
      c15 G n h0 h02 h03
       (fun t2=>k0 t2)
     )
    else
     c15 G n h0 h02 h03
      (fun t22=>k0 t22)
noncomputable def main {R:Type} (G:Gs) (n:Nat) (f:Fm) (K:Bool->Option R):Option R:=
 bif decide ((Fm.kind f)=1)then
  (
  c13 G n 0 (Fm.kind f) (Fm.prop f) (Fm.kids f)
   (fun t2=>K t2)
  )
 else
  bif decide ((Fm.kind f)=2)then
   (
   c13 G n 0 (Fm.kind f) (Fm.prop f) (Fm.kids f)
    (fun t22=>K t22)
   )
  else
   bif decide ((Fm.kind f)=3)then
    (
    c13 G n 1 (Fm.kind f) (Fm.prop f) (Fm.kids f)
     (fun t23=>K t23)
    )
   else
    bif decide ((Fm.kind f)=6)then
     (
     c13 G n 1 (Fm.kind f) (Fm.prop f) (Fm.kids f)
      (fun t24=>K t24)
     )
    else
     bif decide ((Fm.kind f)=4)then
      (
      c13 G n 2 (Fm.kind f) (Fm.prop f) (Fm.kids f)
       (fun t25=>K t25)
      )
     else
      bif decide ((Fm.kind f)=5)then
       (
       c13 G n 2 (Fm.kind f) (Fm.prop f) (Fm.kids f)
        (fun t26=>K t26)
       )
      else
       bif decide ((Fm.kind f)=7)then
        (
        c13 G n 2 (Fm.kind f) (Fm.prop f) (Fm.kids f)
         (fun t27=>K t27)
        )
       else
        K false
noncomputable def dl16 (G:Gs) (n m:Nat) (R:Type) (st:St) (K:Kt R):Option R:=match st with
 |⟨[(44,.one (.l (.n 2) t44)),(45,.one (.i t45)),(46,.one (.i t46))],[]⟩=>l16 G n m t44 t45 t46 (fun t2=>K .ret ⟨[(2,.one (.b t2))],[]⟩) (K (.exit 1) ⟨[],[]⟩)
 |_=>none
noncomputable def dc15 (G:Gs) (n:Nat) (R:Type) (st:St) (K:Kt R):Option R:=match st with
 |⟨[(1,.one (.p 0 0))],[.box [.i h0,.i h02,.l (.n 2) h03]]⟩=>c15 G n h0 h02 h03 (fun t2=>K .ret ⟨[(2,.one (.b t2))],[]⟩)
 |_=>none
noncomputable def dc13 (G:Gs) (n:Nat) (R:Type) (st:St) (K:Kt R):Option R:=match st with
 |⟨[(1,.one (.p 0 0)),(3,.one (.i kids))],[.box [.i h0,.i h02,.l (.n 2) h03]]⟩=>c13 G n kids h0 h02 h03 (fun t2=>K .ret ⟨[(2,.one (.b t2))],[]⟩)
 |_=>none
noncomputable def pc (G:Gs) (n:Nat):Pcs:=⟨fun R id st K=>bif Nat.beq id 16 then dl16 G n n R st K else none,fun R id st K=>bif Nat.beq id 15 then dc15 G n R st K else bif Nat.beq id 13 then dc13 G n R st K else none,fun _ _ _ _=>none⟩
noncomputable def an:Ann:=⟨54,0,[(16,[44,45,46])],[(15,[1]),(13,[1,3])],[2],[],[]⟩
noncomputable abbrev bd:=bodyOf Tryd.f105
noncomputable abbrev q16:=nthC [1,1,1,1,0,1,0,0] bd
noncomputable abbrev q15:=nthC [1,1,1,1] bd
noncomputable abbrev q13:=nthC [1,1,1] bd
theorem pl16 {G:Gs} (hG:AllE Tryd.prog (ents G)) (n:Nat):∀m,PieceOK Tryd.prog an (.loop q16) (dl16 G n m):=lpc hG (pc G n) [44,45,46] ⟨[],[2],[(1,[])]⟩ (apl [] trivial) (fun R st K=>by unfold dl16;split<;>rfl) fun m R st K r h=>by unfold dl16 at h;split at h;exact .trans (by kernel_rfl) h;cases h
theorem pc15 {G:Gs} (hG:AllE Tryd.prog (ents G)) {n:Nat}:PieceOK Tryd.prog an q15 (dc15 G n):=cpc hG (pc G n) ⟨[],[2],[]⟩ (apl [(1,16,.loop q16)] ⟨pl16 hG n n,trivial⟩) fun R st K r h=>by unfold dc15 at h;split at h;exact .trans (by kernel_rfl) h;cases h
theorem pc13 {G:Gs} (hG:AllE Tryd.prog (ents G)) {n:Nat}:PieceOK Tryd.prog an q13 (dc13 G n):=cpc hG (pc G n) ⟨[],[2],[]⟩ (apl [(0,15,q15)] ⟨pc15 hG,trivial⟩) fun R st K r h=>by unfold dc13 at h;split at h;exact .trans (by kernel_rfl) h;cases h
noncomputable def Does (G:Gs) (f:Fm) (r:Bool):Prop:=∃n,main (R:=AT×List Ob) G n f (fun r0=>some (.one (.b r0),[]))=some (.one (.b r),[])
theorem ok {G:Gs} (hG:AllE Tryd.prog (ents G)) {g:Fm->Option (Bool)} (hg:∀f r,g f=some r->Does G f r):EntOK Tryd.prog (ent g):=fun R xs H K r hc=>by
 simp only[ent]at hc
 split at hc
 ·obtain⟨r,j1,j2⟩:=bind_some hc
  obtain⟨n,j3⟩:=hg _ _ j1
  exact⟨_,_,j2,fnP hG an (pc G n) bd [.tmp 2] Tryd.func105 (.inl rfl) (apl [(0,13,q13)] ⟨pc13 hG,trivial⟩) (.trans (by kernel_rfl) j3)⟩
 ·cases hc
end i_formulaOK
namespace i_IsFormula
structure Gs where
 i_formulaSize:Fm->Option (Int)
 i_formulaOK:Fm->Option (Bool)
noncomputable def ents (G:Gs):List Ent:=[i_formulaSize.ent G.i_formulaSize,i_formulaOK.ent G.i_formulaOK]
noncomputable def main {R:Type} (G:Gs) (n:Nat) (f:Fm) (K:Bool->Option R):Option R:=
 Option.bind (G.i_formulaSize (Fm.mk (Fm.kind f) (Fm.prop f) (Fm.kids f))) fun r=>
 bif decide (r<=12)then
  (
  Option.bind (G.i_formulaOK (Fm.mk (Fm.kind f) (Fm.prop f) (Fm.kids f))) fun r2=>
  K r2
  )
 else
  K false
noncomputable def pc (_:Gs) (_:Nat):Pcs:=⟨fun _ _ _ _=>none,fun _ _ _ _=>none,fun _ _ _ _=>none⟩
noncomputable def an:Ann:=⟨10,0,[],[],[2],[],[]⟩
noncomputable abbrev bd:=bodyOf Tryd.f68
noncomputable def Does (G:Gs) (f:Fm) (r:Bool):Prop:=∃n,main (R:=AT×List Ob) G n f (fun r0=>some (.one (.b r0),[]))=some (.one (.b r),[])
theorem ok {G:Gs} (hG:AllE Tryd.prog (ents G)) {g:Fm->Option (Bool)} (hg:∀f r,g f=some r->Does G f r):EntOK Tryd.prog (ent g):=fun R xs H K r hc=>by
 simp only[ent]at hc
 split at hc
 ·obtain⟨r,j1,j2⟩:=bind_some hc
  obtain⟨n,j3⟩:=hg _ _ j1
  exact⟨_,_,j2,fnP hG an (pc G n) bd [.tmp 2] Tryd.func68 (.inl rfl) (apl [] trivial) (.trans (by kernel_rfl) j3)⟩
 ·cases hc
end i_IsFormula
namespace i_FormatInt
structure Gs where
 strconv_Itoa:Int->Option (ByteArray)
noncomputable def ents (G:Gs):List Ent:=[strconv_Itoa.ent G.strconv_Itoa]
noncomputable def main {R:Type} (G:Gs) (n:Nat) (n1:Int) (K:ByteArray->Option R):Option R:=
 Option.bind (G.strconv_Itoa n1) fun r=>
 K r
noncomputable def pc (_:Gs) (_:Nat):Pcs:=⟨fun _ _ _ _=>none,fun _ _ _ _=>none,fun _ _ _ _=>none⟩
noncomputable def an:Ann:=⟨5,0,[],[],[2],[],[]⟩
noncomputable abbrev bd:=bodyOf Tryd.f112
noncomputable def Does (G:Gs) (n1:Int) (r:ByteArray):Prop:=∃n,main (R:=AT×List Ob) G n n1 (fun r0=>some (.one (.s r0),[]))=some (.one (.s r),[])
theorem ok {G:Gs} (hG:AllE Tryd.prog (ents G)) {g:Int->Option (ByteArray)} (hg:∀n1 r,g n1=some r->Does G n1 r):EntOK Tryd.prog (ent g):=fun R xs H K r hc=>by
 simp only[ent]at hc
 split at hc
 ·obtain⟨r,j1,j2⟩:=bind_some hc
  obtain⟨n,j3⟩:=hg _ _ j1
  exact⟨_,_,j2,fnP hG an (pc G n) bd [.tmp 2] Tryd.func112 (.inl rfl) (apl [] trivial) (.trans (by kernel_rfl) j3)⟩
 ·cases hc
end i_FormatInt
namespace i_formulaText
structure Gs where
 i_FormatInt:Int->Option (ByteArray)
 i_formulaText:Fm->Option (ByteArray)
 strings_Join:List ByteArray->ByteArray->Option (ByteArray)
noncomputable def ents (G:Gs):List Ent:=[i_FormatInt.ent G.i_FormatInt,ent G.i_formulaText,strings_Join.ent G.strings_Join]
noncomputable def b19 {R:Type} (G:Gs) (n:Nat) (word:ByteArray) (t29:List Fm) (t30:Int) (t31:Int) (h0:List ByteArray) (nx:ByteArray->List Fm->Int->Int->List ByteArray->Option R) (k0:ByteArray->List ByteArray->Option R):Option R:=
 bif decide (t31<t30)then
  (
  Option.bind (ix t29 t31) fun e=>
  Option.bind (G.i_formulaText (Fm.mk (Fm.kind e) (Fm.prop e) (Fm.kids e))) fun r=>
  Option.bind (lim (h0++[r])) fun zs=>
  nx word t29 t30 (wr (t31+1)) zs
  )
 else
  k0 word h0
noncomputable def l19 {R:Type} (G:Gs) (n m:Nat) (word:ByteArray) (t29:List Fm) (t30:Int) (t31:Int) (h0:List ByteArray) (k0:ByteArray->List ByteArray->Option R):Option R:=iter (fun(v:ByteArray×List Fm×Int×Int×List ByteArray) nx=>b19 G n v.1 v.2.1 v.2.2.1 v.2.2.2.1 v.2.2.2.2 (fun y0 y1 y2 y3 y4=>nx (y0,y1,y2,y3,y4)) k0) m (word,t29,t30,t31,h0)
noncomputable def c17 {R:Type} (G:Gs) (n:Nat) (word:ByteArray) (h0:Int) (h02:Int) (h03:List Fm) (k0:ByteArray->Option R):Option R:=
 l19 G n n word h03 (List.length h03:Int) 0 []
  (fun word2 h04 =>
   Option.bind (sCat word2 (ByteArray.mk #[40])) fun q=>
   Option.bind (G.strings_Join h04 (ByteArray.mk #[44,32])) fun r=>
   Option.bind (sCat q r) fun q2=>
   Option.bind (sCat q2 (ByteArray.mk #[41])) fun q3=>
   k0 q3
  )
noncomputable def main {R:Type} (G:Gs) (n:Nat) (f:Fm) (K:ByteArray->Option R):Option R:=
 bif decide ((Fm.kind f)=1)then
  (K (ByteArray.mk #[116,114,117,101]))
 else
  bif decide ((Fm.kind f)=2)then
   (
   Option.bind (G.i_FormatInt (Fm.prop f)) fun r=>
   Option.bind (sCat (ByteArray.mk #[112]) r) fun q=>
   K q
   )
  else
   bif decide ((Fm.kind f)=3)then
    (
    c17 G n (ByteArray.mk #[110,111,116]) (Fm.kind f) (Fm.prop f) (Fm.kids f)
     (fun t2=>K t2)
    )
   else
    bif decide ((Fm.kind f)=4)then
     (
     c17 G n (ByteArray.mk #[97,110,100]) (Fm.kind f) (Fm.prop f) (Fm.kids f)
      (fun t22=>K t22)
     )
    else
     bif decide ((Fm.kind f)=5)then
      (
      c17 G n (ByteArray.mk #[111,114]) (Fm.kind f) (Fm.prop f) (Fm.kids f)
       (fun t23=>K t23)
      )
     else
      bif decide ((Fm.kind f)=6)then
       (
       c17 G n (ByteArray.mk #[110,101,120,116]) (Fm.kind f) (Fm.prop f) (Fm.kids f)
        (fun t24=>K t24)
       )
      else
       bif decide ((Fm.kind f)=7)then
        (
        c17 G n (ByteArray.mk #[117,110,116,105,108]) (Fm.kind f) (Fm.prop f) (Fm.kids f)
         (fun t25=>K t25)
        )
       else
        c17 G n ByteArray.empty (Fm.kind f) (Fm.prop f) (Fm.kids f)
         (fun t26=>K t26)
noncomputable def dl19 (G:Gs) (n m:Nat) (R:Type) (st:St) (K:Kt R):Option R:=match st with
 |⟨[(3,.one (.s word)),(4,.one (.o 0)),(29,.one (.l (.n 2) t29)),(30,.one (.i t30)),(31,.one (.i t31))],[.row .s 0 h0]⟩=>l19 G n m word t29 t30 t31 h0 (fun word h0=>K (.exit 1) ⟨[(3,.one (.s word)),(4,.one (.o 0))],[.row .s 0 h0]⟩)
 |_=>none
noncomputable def dc17 (G:Gs) (n:Nat) (R:Type) (st:St) (K:Kt R):Option R:=match st with
 |⟨[(1,.one (.p 0 0)),(3,.one (.s word))],[.box [.i h0,.i h02,.l (.n 2) h03]]⟩=>c17 G n word h0 h02 h03 (fun t2=>K .ret ⟨[(2,.one (.s t2))],[]⟩)
 |_=>none
noncomputable def pc (G:Gs) (n:Nat):Pcs:=⟨fun R id st K=>bif Nat.beq id 19 then dl19 G n n R st K else none,fun R id st K=>bif Nat.beq id 17 then dc17 G n R st K else none,fun _ _ _ _=>none⟩
noncomputable def an:Ann:=⟨47,0,[(19,[3,4,29,30,31])],[(17,[1,3])],[2],[],[]⟩
noncomputable abbrev bd:=bodyOf Tryd.f95
noncomputable abbrev q19:=nthC [1,1,1,1,0,1,0,0] bd
noncomputable abbrev q17:=nthC [1,1,1] bd
theorem pl19 {G:Gs} (hG:AllE Tryd.prog (ents G)) (n:Nat):∀m,PieceOK Tryd.prog an (.loop q19) (dl19 G n m):=lpc hG (pc G n) [3,4,29,30,31] ⟨[3,4],[2],[(1,[3,4])]⟩ (apl [] trivial) (fun R st K=>by unfold dl19;split<;>rfl) fun m R st K r h=>by unfold dl19 at h;split at h;exact .trans (by kernel_rfl) h;cases h
theorem pc17 {G:Gs} (hG:AllE Tryd.prog (ents G)) {n:Nat}:PieceOK Tryd.prog an q17 (dc17 G n):=cpc hG (pc G n) ⟨[],[2],[]⟩ (apl [(1,19,.loop q19)] ⟨pl19 hG n n,trivial⟩) fun R st K r h=>by unfold dc17 at h;split at h;exact .trans (by kernel_rfl) h;cases h
noncomputable def Does (G:Gs) (f:Fm) (r:ByteArray):Prop:=∃n,main (R:=AT×List Ob) G n f (fun r0=>some (.one (.s r0),[]))=some (.one (.s r),[])
theorem ok {G:Gs} (hG:AllE Tryd.prog (ents G)) {g:Fm->Option (ByteArray)} (hg:∀f r,g f=some r->Does G f r):EntOK Tryd.prog (ent g):=fun R xs H K r hc=>by
 simp only[ent]at hc
 split at hc
 ·obtain⟨r,j1,j2⟩:=bind_some hc
  obtain⟨n,j3⟩:=hg _ _ j1
  exact⟨_,_,j2,fnP hG an (pc G n) bd [.tmp 2] Tryd.func95 (.inl rfl) (apl [(0,17,q17)] ⟨pc17 hG,trivial⟩) (.trans (by kernel_rfl) j3)⟩
 ·cases hc
end i_formulaText
end Go.Proofs.YtjafncnjefnloaaDoor.Den

/-
  Texts that the claim rests on, merged: EqSz, LawPT, SgA.
-/
import Derived.Deep.RegionHeld3
import Derived.Deep.CutRange
import Derived.Test.YtfdkldmkbibknaaGreatZRowPT27
import Derived.Test.YtfdkldmkbibknaaGreatZRowPT28
import Derived.Test.YtfdkldmkbibknaaGreatZRowPT29

namespace Go.Proofs.YtfdkldmkbibknaaGreat
open Go.RowKit
open Den (Sb So Dc Opr Sg)
def SzR (left:Int) (n:Nat) (r:Int):Prop:=r= -1\/(0<=r/\(n:Int)+r<=left)
theorem sumAll {α:Type} (f:α->Nat) (xs:List α):sumOf f xs xs.length=(xs.map f).sum:=by unfold sumOf;rw[List.take_length]
theorem szIntS_any (xs:List Int) (left:Int) (w:World) (S:Nat->Prop) (v:Value) (h:At w S (ints xs) v) (h0:0<=left) (h1:left<=1048576):
  Calls Tryz.prog 146 #[v,.int .i64 left] w λe w'=>∃r,e= .returned (.int .i64 r)/\SzR left xs.length r/\Below w.heap.size w w':=by
 obtain⟨A,c,rfl,hn,hc⟩:=ints_slice h
 by_cases hneg:left-xs.length<0
 ·go_enter Tryz.func146,Tryz.ntmps146
  go_wp2_with fail
  go_ret
  exact⟨_,rfl,.inl rfl,Below.refl _ _⟩
 ·go_enter Tryz.func146,Tryz.ntmps146
  go_wp2_with fail
  go_ret
  exact⟨_,rfl,.inr ⟨by omega,by omega⟩,Below.refl _ _⟩
theorem szSubS_any (xs:List Sb) (left:Int) (w:World) (S:Nat->Prop) (v:Value) (h:At w S (subs xs) v) (h0:0<=left) (h1:left<=1048576):
  Calls Tryz.prog 44 #[v,.int .i64 left] w λe w'=>∃r,e= .returned (.int .i64 r)/\SzR left xs.length r/\Below w.heap.size w w':=by
 obtain⟨A,c,rfl,hn,hc⟩:=rowOf_slice h
 by_cases hneg:left-xs.length<0
 ·go_enter Tryz.func44,Tryz.ntmps44
  go_wp2_with fail
  go_ret
  exact⟨_,rfl,.inl rfl,Below.refl _ _⟩
 ·go_enter Tryz.func44,Tryz.ntmps44
  go_wp2_with fail
  go_ret
  exact⟨_,rfl,.inr ⟨by omega,by omega⟩,Below.refl _ _⟩
set_option maxHeartbeats 1000000 in
theorem szStringS_any (xs:List ByteArray) (left:Int) (w:World) (S:Nat->Prop) (v:Value) (h:At w S (strs xs) v) (h0:0<=left) (h1:left<=1048576):
  Calls Tryz.prog 43 #[v,.int .i64 left] w λe w'=>∃r,e= .returned (.int .i64 r)/\SzR left xs.length r/\Below w.heap.size w w':=by
 obtain⟨A,c,rfl,hn,hc⟩:=rowOf_slice h
 by_cases hneg:left-xs.length<0
 ·go_enter Tryz.func43,Tryz.ntmps43
  go_wp2_with fail
  go_ret
  exact⟨_,rfl,.inl rfl,Below.refl _ _⟩
 ·go_enter Tryz.func43,Tryz.ntmps43
  go_wp2_with fail
  go_loopw [1,5] (λl i wr=>∃(k:Nat) (r:Int),k<=xs.length/\i= .int .i64 k/\l= .int .i64 r/\0<=r/\((xs.length+sumOf (λ_=>0) xs k:Nat):Int)+r<=left/\Below w.heap.size w wr) (λ_ i _=>xs.length-(intOf i).toNat)
  case atStart=>exact⟨0,_,Nat.zero_le _,rfl,rfl,by omega,by rw[sumOf_zero];omega,Below.refl _ _⟩
  case round=>
   obtain⟨k,r,hk,rfl,rfl,hr,hle,hb⟩:=hrel
   by_cases hlt:k<xs.length
   ·obtain⟨b,off,x,rfl,_,hlb,hc1,hx,HX⟩:=strs_get (h.below hb) hlt
    have HS:=Lib.hid (sumOf_succ (f:=(λ_=>0)) HX.out)
    have hz:=hb.size
    have hx2:x.size<=9223372036854775807:=by simp only[maxLen]at hx;omega
    by_cases hng:r-x.size<0
    ·go_wp2_with fail
     go_ret
     exact⟨_,rfl,.inl rfl,hb⟩
    ·go_wp2_with fail
     go_roundw
     case rel=>exact⟨k+1,_,by omega,by go_num,rfl,by omega,by have:=HS.out;omega,hb⟩
     case measure=>simp[intOf];omega
   ·go_wp2_with fail
    go_ret
    obtain rfl:k=xs.length:=by omega
    exact⟨_,rfl,.inr ⟨hr,by omega⟩,hb⟩
theorem szDecl_any (x:Dc) (left:Int) (w:World) (S:Nat->Prop) (v:Value) (h:At w S (ints (Dc.args x)) v) (h0:0<=left) (h1:left<=1048576):
  Calls Tryz.prog 130 #[.agg #[v,.int .i64 (Dc.result x)],.int .i64 left] w λe w'=>∃r,e= .returned (.int .i64 r)/\SzR left (dcW x) r/\Below w.heap.size w w':=by
 obtain⟨A,c,rfl,hn,hc⟩:=ints_slice h
 go_enter Tryz.func130,Tryz.ntmps130
 go_wp2_with fail
 refine(szIntS_any (Dc.args x) left _ S _ (h.alloc _) h0 h1).mono ?_
 rintro e w1 ⟨r1,rfl,hs,hb1⟩
 rcases hs with rfl|⟨hs0,hs1⟩
 ·go_wp2_with fail
  go_ret
  exact⟨_,rfl,.inl rfl,by repeat with_reducible (first|exact Below.refl _ _|refine Below.setCell ?_ (by first|omega|(simp<;>omega)) _|refine Below.drew ?_|refine below_drewN ?_ _|refine Below.alloc ?_ (by first|omega|(simp<;>omega)) _|refine Below.trans ?_ (Below.mono (by assumption) (by first|omega|(simp<;>omega))))⟩
 ·have hng:decide (r1<0)=false:=dF (by omega)
  go_wp2_with fail
  go_ret
  exact⟨_,rfl,.inr ⟨hs0,hs1⟩,by repeat with_reducible (first|exact Below.refl _ _|refine Below.setCell ?_ (by first|omega|(simp<;>omega)) _|refine Below.drew ?_|refine below_drewN ?_ _|refine Below.alloc ?_ (by first|omega|(simp<;>omega)) _|refine Below.trans ?_ (Below.mono (by assumption) (by first|omega|(simp<;>omega))))⟩
set_option maxHeartbeats 1000000 in
theorem szDeclS_any (xs:List Dc) (left:Int) (w:World) (S:Nat->Prop) (v:Value) (h:At w S (decs xs) v) (h0:0<=left) (h1:left<=1048576):
  Calls Tryz.prog 89 #[v,.int .i64 left] w λe w'=>∃r,e= .returned (.int .i64 r)/\SzR left (dcsW xs) r/\Below w.heap.size w w':=by
 obtain⟨A,c,rfl,hn,hc⟩:=rowOf_slice h
 unfold dcsW
 by_cases hneg:left-xs.length<0
 ·go_enter Tryz.func89,Tryz.ntmps89
  go_wp2_with fail
  go_ret
  exact⟨_,rfl,.inl rfl,Below.refl _ _⟩
 ·go_enter Tryz.func89,Tryz.ntmps89
  go_wp2_with fail
  go_loopw [1,5] (λl i wr=>∃(k:Nat) (r:Int),k<=xs.length/\i= .int .i64 k/\l= .int .i64 r/\0<=r/\((xs.length+sumOf dcW xs k:Nat):Int)+r<=left/\Below w.heap.size w wr) (λ_ i _=>xs.length-(intOf i).toNat)
  case atStart=>exact⟨0,_,Nat.zero_le _,rfl,rfl,by omega,by rw[sumOf_zero];omega,Below.refl _ _⟩
  case round=>
   obtain⟨k,r,hk,rfl,rfl,hr,hle,hb⟩:=hrel
   by_cases hlt:k<xs.length
   ·obtain⟨b,off,x,u,rfl,_,hlb,hc1,hu,hc2,hx1,HX⟩:=decs_get (h.below hb) hlt
    have HS:=Lib.hid (sumOf_succ (f:=dcW) HX.out)
    have hz:=hb.size
    obtain⟨Au,cu,rfl,hnu,hcu⟩:=ints_slice hu
    go_wp2_with fail
    refine(szDecl_any x r _ S _ hu (by omega) (by omega)).mono ?_
    rintro e w1 ⟨r1,rfl,hs,hb1⟩
    rcases hs with rfl|⟨hs0,hs1⟩
    ·go_wp2_with fail
     go_ret
     exact⟨_,rfl,.inl rfl,by repeat with_reducible (first|exact Below.refl _ _|refine Below.setCell ?_ (by first|omega|(simp<;>omega)) _|refine Below.drew ?_|refine below_drewN ?_ _|refine Below.alloc ?_ (by first|omega|(simp<;>omega)) _|refine Below.trans ?_ (Below.mono (by assumption) (by first|omega|(simp<;>omega))))⟩
    ·have hng:decide (r1<0)=false:=dF (by omega)
     go_wp2_with fail
     go_roundw
     case rel=>exact⟨k+1,r1,by omega,by go_num,rfl,hs0,by have:=HS.out;omega,by repeat with_reducible (first|exact Below.refl _ _|refine Below.setCell ?_ (by first|omega|(simp<;>omega)) _|refine Below.drew ?_|refine below_drewN ?_ _|refine Below.alloc ?_ (by first|omega|(simp<;>omega)) _|refine Below.trans ?_ (Below.mono (by assumption) (by first|omega|(simp<;>omega))))⟩
     case measure=>simp[intOf];omega
   ·go_wp2_with fail
    go_ret
    obtain rfl:k=xs.length:=by omega
    rw[sumAll]at hle
    exact⟨_,rfl,.inr ⟨hr,hle⟩,hb⟩
theorem szOp_any (x:Opr) (left:Int) (w:World) (S:Nat->Prop) (v:Value) (h:At w S (decs (Opr.decls x)) v) (hx:(Opr.name x).size<=maxLen) (h0:0<=left) (h1:left<=1048576):
  Calls Tryz.prog 45 #[.agg #[.string (Opr.name x),v,.bool (Opr.assoc x),.bool (Opr.comm x),.int .i64 (Opr.unit x)],.int .i64 left] w λe w'=>∃r,e= .returned (.int .i64 r)/\SzR left (opW x) r/\Below w.heap.size w w':=by
 obtain⟨A,c,rfl,hn,hc⟩:=rowOf_slice h
 have hx2:(Opr.name x).size<=9223372036854775807:=by simp only[maxLen]at hx;omega
 by_cases hneg:left-(Opr.name x).size<0
 ·go_enter Tryz.func45,Tryz.ntmps45
  go_wp2_with fail
  go_ret
  exact⟨_,rfl,.inl rfl,by repeat with_reducible (first|exact Below.refl _ _|refine Below.setCell ?_ (by first|omega|(simp<;>omega)) _|refine Below.drew ?_|refine below_drewN ?_ _|refine Below.alloc ?_ (by first|omega|(simp<;>omega)) _|refine Below.trans ?_ (Below.mono (by assumption) (by first|omega|(simp<;>omega))))⟩
 ·go_enter Tryz.func45,Tryz.ntmps45
  go_wp2_with fail
  refine(szDeclS_any (Opr.decls x) _ _ S _ (h.alloc _) (by omega) (by omega)).mono ?_
  rintro e w1 ⟨r1,rfl,hs,hb1⟩
  rcases hs with rfl|⟨hs0,hs1⟩
  ·go_wp2_with fail
   go_ret
   exact⟨_,rfl,.inl rfl,by repeat with_reducible (first|exact Below.refl _ _|refine Below.setCell ?_ (by first|omega|(simp<;>omega)) _|refine Below.drew ?_|refine below_drewN ?_ _|refine Below.alloc ?_ (by first|omega|(simp<;>omega)) _|refine Below.trans ?_ (Below.mono (by assumption) (by first|omega|(simp<;>omega))))⟩
  ·have hng:decide (r1<0)=false:=dF (by omega)
   go_wp2_with fail
   go_ret
   exact⟨_,rfl,.inr ⟨hs0,by show ((dcsW (Opr.decls x):Nat):Int)+r1<=left;omega⟩,by repeat with_reducible (first|exact Below.refl _ _|refine Below.setCell ?_ (by first|omega|(simp<;>omega)) _|refine Below.drew ?_|refine below_drewN ?_ _|refine Below.alloc ?_ (by first|omega|(simp<;>omega)) _|refine Below.trans ?_ (Below.mono (by assumption) (by first|omega|(simp<;>omega))))⟩
set_option maxHeartbeats 1000000 in
theorem szOpS_any (xs:List Opr) (left:Int) (w:World) (S:Nat->Prop) (v:Value) (h:At w S (oprs xs) v) (h0:0<=left) (h1:left<=1048576):
  Calls Tryz.prog 20 #[v,.int .i64 left] w λe w'=>∃r,e= .returned (.int .i64 r)/\SzR left (opsW xs) r/\Below w.heap.size w w':=by
 obtain⟨A,c,rfl,hn,hc⟩:=rowOf_slice h
 unfold opsW
 by_cases hneg:left-xs.length<0
 ·go_enter Tryz.func20,Tryz.ntmps20
  go_wp2_with fail
  go_ret
  exact⟨_,rfl,.inl rfl,Below.refl _ _⟩
 ·go_enter Tryz.func20,Tryz.ntmps20
  go_wp2_with fail
  go_loopw [1,5] (λl i wr=>∃(k:Nat) (r:Int),k<=xs.length/\i= .int .i64 k/\l= .int .i64 r/\0<=r/\((xs.length+sumOf opW xs k:Nat):Int)+r<=left/\Below w.heap.size w wr) (λ_ i _=>xs.length-(intOf i).toNat)
  case atStart=>exact⟨0,_,Nat.zero_le _,rfl,rfl,by omega,by rw[sumOf_zero];omega,Below.refl _ _⟩
  case round=>
   obtain⟨k,r,hk,rfl,rfl,hr,hle,hb⟩:=hrel
   by_cases hlt:k<xs.length
   ·obtain⟨b,off,x,u,rfl,_,hlb,hc1,hc2,hu,hc3,hc4,hc5,hx1,HX⟩:=oprs_get (h.below hb) hlt
    have HS:=Lib.hid (sumOf_succ (f:=opW) HX.out)
    have hz:=hb.size
    obtain⟨Au,cu,rfl,hnu,hcu⟩:=rowOf_slice hu
    go_wp2_with fail
    refine(szOp_any x r _ S _ hu hx1.1 (by omega) (by omega)).mono ?_
    rintro e w1 ⟨r1,rfl,hs,hb1⟩
    rcases hs with rfl|⟨hs0,hs1⟩
    ·go_wp2_with fail
     go_ret
     exact⟨_,rfl,.inl rfl,by repeat with_reducible (first|exact Below.refl _ _|refine Below.setCell ?_ (by first|omega|(simp<;>omega)) _|refine Below.drew ?_|refine below_drewN ?_ _|refine Below.alloc ?_ (by first|omega|(simp<;>omega)) _|refine Below.trans ?_ (Below.mono (by assumption) (by first|omega|(simp<;>omega))))⟩
    ·have hng:decide (r1<0)=false:=dF (by omega)
     go_wp2_with fail
     go_roundw
     case rel=>exact⟨k+1,r1,by omega,by go_num,rfl,hs0,by have:=HS.out;omega,by repeat with_reducible (first|exact Below.refl _ _|refine Below.setCell ?_ (by first|omega|(simp<;>omega)) _|refine Below.drew ?_|refine below_drewN ?_ _|refine Below.alloc ?_ (by first|omega|(simp<;>omega)) _|refine Below.trans ?_ (Below.mono (by assumption) (by first|omega|(simp<;>omega))))⟩
     case measure=>simp[intOf];omega
   ·go_wp2_with fail
    go_ret
    obtain rfl:k=xs.length:=by omega
    rw[sumAll]at hle
    exact⟨_,rfl,.inr ⟨hr,hle⟩,hb⟩
theorem szSorts_any (x:So) (left:Int) (w:World) (S:Nat->Prop) (v u:Value) (h:At w S (strs (So.names x)) v) (k:At w S (subs (So.subs x)) u) (h0:0<=left) (h1:left<=1048576):
  Calls Tryz.prog 19 #[.agg #[v,u],.int .i64 left] w λe w'=>∃r,e= .returned (.int .i64 r)/\SzR left ((So.names x).length+(So.subs x).length) r/\Below w.heap.size w w':=by
 obtain⟨A,c,rfl,hn,hc⟩:=rowOf_slice h
 obtain⟨B,d,rfl,hm,hd⟩:=rowOf_slice k
 have B0:=Blk.new w 25 #[.slice A (So.names x).length c,.slice B (So.subs x).length d]
 have HK:=Lib.hid (k.alloc (.cells #[.slice A (So.names x).length c,.slice B (So.subs x).length d] 25))
 go_enter Tryz.func19,Tryz.ntmps19
 go_wp2_with fail
 refine(szStringS_any (So.names x) left _ S _ (h.alloc _) h0 h1).mono ?_
 rintro e w1 ⟨r1,rfl,hs,hb1⟩
 obtain⟨q1,q2⟩:=(B0.next hb1).c2
 rcases hs with rfl|⟨hs0,hs1⟩
 ·go_wp2_with fail
  go_ret
  exact⟨_,rfl,.inl rfl,by repeat with_reducible (first|exact Below.refl _ _|refine Below.setCell ?_ (by first|omega|(simp<;>omega)) _|refine Below.drew ?_|refine below_drewN ?_ _|refine Below.alloc ?_ (by first|omega|(simp<;>omega)) _|refine Below.trans ?_ (Below.mono (by assumption) (by first|omega|(simp<;>omega))))⟩
 ·have hng:decide (r1<0)=false:=dF (by omega)
  go_wp2_with fail
  refine(szSubS_any (So.subs x) _ _ S _ (HK.out.below hb1) hs0 (by omega)).mono ?_
  rintro e w2 ⟨r2,rfl,hs,hb2⟩
  have bel1:Below w.heap.size w w1:=by repeat with_reducible (first|exact Below.refl _ _|refine Below.setCell ?_ (by first|omega|(simp<;>omega)) _|refine Below.drew ?_|refine below_drewN ?_ _|refine Below.alloc ?_ (by first|omega|(simp<;>omega)) _|refine Below.trans ?_ (Below.mono (by assumption) (by first|omega|(simp<;>omega))))
  have bel:=bel1.trans (hb2.mono bel1.size)
  rcases hs with rfl|⟨hs2,hs3⟩
  ·go_wp2_with fail
   go_ret
   exact⟨_,rfl,.inl rfl,bel⟩
  ·have hng:decide (r2<0)=false:=dF (by omega)
   go_wp2_with fail
   go_ret
   exact⟨_,rfl,.inr ⟨hs2,by omega⟩,bel⟩
theorem szSignature_any (x:Sg) (left:Int) (w:World) (S:Nat->Prop) (v u z:Value) (h:At w S (strs (So.names (Sg.sorts x))) v) (k:At w S (subs (So.subs (Sg.sorts x))) u) (l:At w S (oprs (Sg.ops x)) z) (h0:0<=left) (h1:left<=1048576):
  Calls Tryz.prog 5 #[.agg #[v,u,z],.int .i64 left] w λe w'=>∃r,e= .returned (.int .i64 r)/\SzR left (sgW x) r/\Below w.heap.size w w':=by
 obtain⟨A,c,rfl,hn,hc⟩:=rowOf_slice h
 obtain⟨B,d,rfl,hm,hd⟩:=rowOf_slice k
 obtain⟨C,f,rfl,hp,hf⟩:=rowOf_slice l
 have B0:=Blk.new w 28 #[.slice A (So.names (Sg.sorts x)).length c,.slice B (So.subs (Sg.sorts x)).length d,.slice C (Sg.ops x).length f]
 have HL:=Lib.hid (l.alloc (.cells #[.slice A (So.names (Sg.sorts x)).length c,.slice B (So.subs (Sg.sorts x)).length d,.slice C (Sg.ops x).length f] 28))
 go_enter Tryz.func5,Tryz.ntmps5
 go_wp2_with fail
 refine(szSorts_any (Sg.sorts x) left _ S _ _ (h.alloc _) (k.alloc _) h0 h1).mono ?_
 rintro e w1 ⟨r1,rfl,hs,hb1⟩
 obtain⟨q1,q2,q3⟩:=(B0.next hb1).c3
 rcases hs with rfl|⟨hs0,hs1⟩
 ·go_wp2_with fail
  go_ret
  exact⟨_,rfl,.inl rfl,by repeat with_reducible (first|exact Below.refl _ _|refine Below.setCell ?_ (by first|omega|(simp<;>omega)) _|refine Below.drew ?_|refine below_drewN ?_ _|refine Below.alloc ?_ (by first|omega|(simp<;>omega)) _|refine Below.trans ?_ (Below.mono (by assumption) (by first|omega|(simp<;>omega))))⟩
 ·have hng:decide (r1<0)=false:=dF (by omega)
  go_wp2_with fail
  refine(szOpS_any (Sg.ops x) _ _ S _ (HL.out.below hb1) hs0 (by omega)).mono ?_
  rintro e w2 ⟨r2,rfl,hs,hb2⟩
  have bel1:Below w.heap.size w w1:=by repeat with_reducible (first|exact Below.refl _ _|refine Below.setCell ?_ (by first|omega|(simp<;>omega)) _|refine Below.drew ?_|refine below_drewN ?_ _|refine Below.alloc ?_ (by first|omega|(simp<;>omega)) _|refine Below.trans ?_ (Below.mono (by assumption) (by first|omega|(simp<;>omega))))
  have bel:=bel1.trans (hb2.mono bel1.size)
  rcases hs with rfl|⟨hs2,hs3⟩
  ·go_wp2_with fail
   go_ret
   exact⟨_,rfl,.inl rfl,bel⟩
  ·have hng:decide (r2<0)=false:=dF (by omega)
   go_wp2_with fail
   go_ret
   exact⟨_,rfl,.inr ⟨hs2,by unfold sgW;omega⟩,bel⟩
set_option maxHeartbeats 400000 in
theorem eqIntS_any (xs:List Int) (w:World) (v u:Value) (h:At w Any (ints xs) v) (g:At w Any (ints xs) u):
  Calls Tryz.prog 152 #[v,u] w λe w'=>e= .returned (.bool true)/\Below w.heap.size w w':=by
 obtain⟨A,c,rfl,hn,hc⟩:=ints_slice h
 obtain⟨A',c',rfl,hn',hc'⟩:=ints_slice g
 have hl':((xs.length:Int) !=(xs.length:Int))=false:=by simp
 go_enter Tryz.func152,Tryz.ntmps152
 go_wp2_with fail
 go_loopw [5] (λi wr=>∃k:Nat,k<=xs.length/\i= .int .i64 k/\Below w.heap.size w wr) (λi _=>xs.length-(intOf i).toNat)
 case atStart=>exact⟨0,Nat.zero_le _,rfl,Below.refl _ _⟩
 case round=>
  obtain⟨k,hk,rfl,hb⟩:=hrel
  by_cases hlt:k<xs.length
  ·obtain⟨b,off,x,rfl,_,hlb,hc1,HX,_⟩:=ints_get (h.below hb) hlt
   obtain⟨b',off',y,rfl,_,hlb',hc2,HY,_⟩:=ints_get (g.below hb) hlt
   obtain rfl:x=y:=by have e1:=HX.out;have e2:=HY.out;rw[e1]at e2;injection e2
   have hi1:(k:Int)<(xs.length:Int):=by omega
   have he':(x !=x)=false:=by simp
   clear HX HY
   go_wp2
   go_quiet (fail)
   go_wp2
   go_roundw
   case rel=>exact⟨k+1,by omega,by go_num,below_drewN hb _⟩
   case measure=>simp[intOf];omega
  ·go_wp2_with fail
   go_ret
   exact⟨rfl,hb⟩
set_option maxHeartbeats 400000 in
theorem eqStringS_any (xs:List ByteArray) (w:World) (v u:Value) (h:At w Any (strs xs) v) (g:At w Any (strs xs) u):
  Calls Tryz.prog 69 #[v,u] w λe w'=>e= .returned (.bool true)/\Below w.heap.size w w':=by
 obtain⟨A,c,rfl,hn,hc⟩:=rowOf_slice h
 obtain⟨A',c',rfl,hn',hc'⟩:=rowOf_slice g
 have hl':((xs.length:Int) !=(xs.length:Int))=false:=by simp
 go_enter Tryz.func69,Tryz.ntmps69
 go_wp2_with fail
 go_loopw [5] (λi wr=>∃k:Nat,k<=xs.length/\i= .int .i64 k/\Below w.heap.size w wr) (λi _=>xs.length-(intOf i).toNat)
 case atStart=>exact⟨0,Nat.zero_le _,rfl,Below.refl _ _⟩
 case round=>
  obtain⟨k,hk,rfl,hb⟩:=hrel
  by_cases hlt:k<xs.length
  ·obtain⟨b,off,x,rfl,_,hlb,hc1,_,HX⟩:=strs_get (h.below hb) hlt
   obtain⟨b',off',y,rfl,_,hlb',hc2,_,HY⟩:=strs_get (g.below hb) hlt
   obtain rfl:x=y:=by have e1:=HX.out;have e2:=HY.out;rw[e1]at e2;injection e2
   have hi1:(k:Int)<(xs.length:Int):=by omega
   have he':=bne_text x
   clear HX HY
   go_wp2
   go_quiet (fail)
   go_wp2
   go_roundw
   case rel=>exact⟨k+1,by omega,by go_num,below_drewN hb _⟩
   case measure=>simp[intOf];omega
  ·go_wp2_with fail
   go_ret
   exact⟨rfl,hb⟩
theorem eqSub_any (x:Sb) (w:World):Calls Tryz.prog 118 #[.agg #[.int .i64 (Sb.low x),.int .i64 (Sb.high x)],.agg #[.int .i64 (Sb.low x),.int .i64 (Sb.high x)]] w λe w'=>e= .returned (.bool true)/\Below w.heap.size w w':=by
 have e1:(Sb.low x !=Sb.low x)=false:=by simp
 have e2:(Sb.high x !=Sb.high x)=false:=by simp
 go_enter Tryz.func118,Tryz.ntmps118
 go_wp2_with fail
 go_ret
 exact⟨rfl,by repeat with_reducible (first|exact Below.refl _ _|refine Below.setCell ?_ (by first|omega|(simp<;>omega)) _|refine Below.drew ?_|refine below_drewN ?_ _|refine Below.alloc ?_ (by first|omega|(simp<;>omega)) _|refine Below.trans ?_ (Below.mono (by assumption) (by first|omega|(simp<;>omega))))⟩
set_option maxHeartbeats 1000000 in
theorem eqSubS_any (xs:List Sb) (w:World) (v u:Value) (h:At w Any (subs xs) v) (g:At w Any (subs xs) u):
  Calls Tryz.prog 70 #[v,u] w λe w'=>e= .returned (.bool true)/\Below w.heap.size w w':=by
 obtain⟨A,c,rfl,hn,hc⟩:=rowOf_slice h
 obtain⟨A',c',rfl,hn',hc'⟩:=rowOf_slice g
 have hl':((xs.length:Int) !=(xs.length:Int))=false:=by simp
 go_enter Tryz.func70,Tryz.ntmps70
 go_wp2_with fail
 go_loopw [5] (λi wr=>∃k:Nat,k<=xs.length/\i= .int .i64 k/\Below w.heap.size w wr) (λi _=>xs.length-(intOf i).toNat)
 case atStart=>exact⟨0,Nat.zero_le _,rfl,Below.refl _ _⟩
 case round=>
  obtain⟨k,hk,rfl,hb⟩:=hrel
  by_cases hlt:k<xs.length
  ·obtain⟨b,off,x,rfl,_,hlb,c0,c1,_,HX⟩:=subs_get (h.below hb) hlt
   obtain⟨b',off',y,rfl,_,hlb',d0,d1,_,HY⟩:=subs_get (g.below hb) hlt
   obtain rfl:x=y:=by have e1:=HX.out;have e2:=HY.out;rw[e1]at e2;injection e2
   have hi1:(k:Int)<(xs.length:Int):=by omega
   have hz:=hb.size
   clear HX HY
   go_wp2_with fail
   go_region_held3 (λw'=>w'.cell? ⟨b,off+k*2,none⟩=some (.int .i64 (Sb.low x))/\w'.cell? ⟨b,off+k*2+1,none⟩=some (.int .i64 (Sb.high x))/\w'.cell? ⟨b',off'+k*2,none⟩=some (.int .i64 (Sb.low x))/\w'.cell? ⟨b',off'+k*2+1,none⟩=some (.int .i64 (Sb.high x))) (go_keep)
    (first|(go_at_call 118;refine(eqSub_any x _).mono ?_;rintro e w1 ⟨rfl,hb1⟩;have q0:=(hb1.cell (p:=⟨b,off+k*2,none⟩) hlb).trans c0;have q1:=(hb1.cell (p:=⟨b,off+k*2+1,none⟩) hlb).trans c1;have p0:=(hb1.cell (p:=⟨b',off'+k*2,none⟩) hlb').trans d0;have p1:=(hb1.cell (p:=⟨b',off'+k*2+1,none⟩) hlb').trans d1))
   go_wp2_with fail
   go_roundw
   case rel=>exact⟨k+1,by omega,by go_num,by repeat with_reducible (first|exact Below.refl _ _|refine Below.setCell ?_ (by first|omega|(simp<;>omega)) _|refine Below.drew ?_|refine below_drewN ?_ _|refine Below.alloc ?_ (by first|omega|(simp<;>omega)) _|refine Below.trans ?_ (Below.mono (by assumption) (by first|omega|(simp<;>omega))))⟩
   case measure=>simp[intOf];omega
  ·go_wp2_with fail
   go_ret
   exact⟨rfl,hb⟩
theorem eqDecl_any (x:Dc) (w:World) (v u:Value) (h:At w Any (ints (Dc.args x)) v) (g:At w Any (ints (Dc.args x)) u):Calls Tryz.prog 140 #[.agg #[v,.int .i64 (Dc.result x)],.agg #[u,.int .i64 (Dc.result x)]] w λe w'=>e= .returned (.bool true)/\Below w.heap.size w w':=by
 obtain⟨A,c,rfl,hn,hc⟩:=ints_slice h
 obtain⟨A',c',rfl,hn',hc'⟩:=ints_slice g
 have e1:(Dc.result x !=Dc.result x)=false:=by simp
 go_enter Tryz.func140,Tryz.ntmps140
 go_wp2_with fail
 refine(eqIntS_any (Dc.args x) _ _ _ ((h.alloc _).alloc _) ((g.alloc _).alloc _)).mono ?_
 rintro e w1 ⟨rfl,hb1⟩
 obtain⟨hc1,hf1⟩:=bcell hb1
 go_wp2_with fail
 go_ret
 exact⟨rfl,by repeat with_reducible (first|exact Below.refl _ _|refine Below.setCell ?_ (by first|omega|(simp<;>omega)) _|refine Below.drew ?_|refine below_drewN ?_ _|refine Below.alloc ?_ (by first|omega|(simp<;>omega)) _|refine Below.trans ?_ (Below.mono (by assumption) (by first|omega|(simp<;>omega))))⟩
set_option maxHeartbeats 1000000 in
theorem eqDeclS_any (xs:List Dc) (w:World) (v u:Value) (h:At w Any (decs xs) v) (g:At w Any (decs xs) u):
  Calls Tryz.prog 119 #[v,u] w λe w'=>e= .returned (.bool true)/\Below w.heap.size w w':=by
 obtain⟨A,c,rfl,hn,hc⟩:=rowOf_slice h
 obtain⟨A',c',rfl,hn',hc'⟩:=rowOf_slice g
 have hl':((xs.length:Int) !=(xs.length:Int))=false:=by simp
 go_enter Tryz.func119,Tryz.ntmps119
 go_wp2_with fail
 go_loopw [5] (λi wr=>∃k:Nat,k<=xs.length/\i= .int .i64 k/\Below w.heap.size w wr) (λi _=>xs.length-(intOf i).toNat)
 case atStart=>exact⟨0,Nat.zero_le _,rfl,Below.refl _ _⟩
 case round=>
  obtain⟨k,hk,rfl,hb⟩:=hrel
  by_cases hlt:k<xs.length
  ·obtain⟨b,off,x,z,rfl,_,hlb,c0,hu,c1,_,HX⟩:=decs_get (h.below hb) hlt
   obtain⟨b',off',y,z',rfl,_,hlb',d0,hu',d1,_,HY⟩:=decs_get (g.below hb) hlt
   obtain rfl:x=y:=by have e1:=HX.out;have e2:=HY.out;rw[e1]at e2;injection e2
   have hi1:(k:Int)<(xs.length:Int):=by omega
   have hz:=hb.size
   clear HX HY
   go_wp2_with fail
   go_region_held3 (λw'=>w'.cell? ⟨b,off+k*2,none⟩=some (z)/\w'.cell? ⟨b,off+k*2+1,none⟩=some (.int .i64 (Dc.result x))/\w'.cell? ⟨b',off'+k*2,none⟩=some (z')/\w'.cell? ⟨b',off'+k*2+1,none⟩=some (.int .i64 (Dc.result x))) (go_keep)
    (first|(go_at_call 140;refine(eqDecl_any x _ _ _ hu.drew hu'.drew).mono ?_;rintro e w1 ⟨rfl,hb1⟩;have q0:=(hb1.cell (p:=⟨b,off+k*2,none⟩) hlb).trans c0;have q1:=(hb1.cell (p:=⟨b,off+k*2+1,none⟩) hlb).trans c1;have p0:=(hb1.cell (p:=⟨b',off'+k*2,none⟩) hlb').trans d0;have p1:=(hb1.cell (p:=⟨b',off'+k*2+1,none⟩) hlb').trans d1))
   go_wp2_with fail
   go_roundw
   case rel=>exact⟨k+1,by omega,by go_num,by repeat with_reducible (first|exact Below.refl _ _|refine Below.setCell ?_ (by first|omega|(simp<;>omega)) _|refine Below.drew ?_|refine below_drewN ?_ _|refine Below.alloc ?_ (by first|omega|(simp<;>omega)) _|refine Below.trans ?_ (Below.mono (by assumption) (by first|omega|(simp<;>omega))))⟩
   case measure=>simp[intOf];omega
  ·go_wp2_with fail
   go_ret
   exact⟨rfl,hb⟩
set_option maxHeartbeats 400000 in
theorem eqOp_any (x:Opr) (w:World) (v u:Value) (h:At w Any (decs (Opr.decls x)) v) (g:At w Any (decs (Opr.decls x)) u):Calls Tryz.prog 71 #[.agg #[.string (Opr.name x),v,.bool (Opr.assoc x),.bool (Opr.comm x),.int .i64 (Opr.unit x)],.agg #[.string (Opr.name x),u,.bool (Opr.assoc x),.bool (Opr.comm x),.int .i64 (Opr.unit x)]] w λe w'=>e= .returned (.bool true)/\Below w.heap.size w w':=by
 obtain⟨A,c,rfl,hn,hc⟩:=rowOf_slice h
 obtain⟨A',c',rfl,hn',hc'⟩:=rowOf_slice g
 have e1:=bne_text (Opr.name x)
 have e2:(Opr.assoc x !=Opr.assoc x)=false:=by simp
 have e3:(Opr.comm x !=Opr.comm x)=false:=by simp
 have e4:(Opr.unit x !=Opr.unit x)=false:=by simp
 go_enter Tryz.func71,Tryz.ntmps71
 go_wp2_with fail
 refine(eqDeclS_any (Opr.decls x) _ _ _ ((h.alloc _).alloc _) ((g.alloc _).alloc _)).mono ?_
 rintro e w1 ⟨rfl,hb1⟩
 obtain⟨hc1,hf1⟩:=bcell hb1
 go_wp2_with fail
 go_ret
 exact⟨rfl,by repeat with_reducible (first|exact Below.refl _ _|refine Below.setCell ?_ (by first|omega|(simp<;>omega)) _|refine Below.drew ?_|refine below_drewN ?_ _|refine Below.alloc ?_ (by first|omega|(simp<;>omega)) _|refine Below.trans ?_ (Below.mono (by assumption) (by first|omega|(simp<;>omega))))⟩
set_option maxHeartbeats 1000000 in
theorem eqOpS_any (xs:List Opr) (w:World) (v u:Value) (h:At w Any (oprs xs) v) (g:At w Any (oprs xs) u):
  Calls Tryz.prog 32 #[v,u] w λe w'=>e= .returned (.bool true)/\Below w.heap.size w w':=by
 obtain⟨A,c,rfl,hn,hc⟩:=rowOf_slice h
 obtain⟨A',c',rfl,hn',hc'⟩:=rowOf_slice g
 have hl':((xs.length:Int) !=(xs.length:Int))=false:=by simp
 go_enter Tryz.func32,Tryz.ntmps32
 go_wp2_with fail
 go_loopw [5] (λi wr=>∃k:Nat,k<=xs.length/\i= .int .i64 k/\Below w.heap.size w wr) (λi _=>xs.length-(intOf i).toNat)
 case atStart=>exact⟨0,Nat.zero_le _,rfl,Below.refl _ _⟩
 case round=>
  obtain⟨k,hk,rfl,hb⟩:=hrel
  by_cases hlt:k<xs.length
  ·obtain⟨b,off,x,z,rfl,_,hlb,c0,c1,hu,c2,c3,c4,_,HX⟩:=oprs_get (h.below hb) hlt
   obtain⟨b',off',y,z',rfl,_,hlb',d0,d1,hu',d2,d3,d4,_,HY⟩:=oprs_get (g.below hb) hlt
   obtain rfl:x=y:=by have e1:=HX.out;have e2:=HY.out;rw[e1]at e2;injection e2
   have hi1:(k:Int)<(xs.length:Int):=by omega
   have hz:=hb.size
   clear HX HY
   go_wp2_with fail
   go_region_held3 (λw'=>w'.cell? ⟨b,off+k*5,none⟩=some (.string (Opr.name x))/\w'.cell? ⟨b,off+k*5+1,none⟩=some (z)/\w'.cell? ⟨b,off+k*5+2,none⟩=some (.bool (Opr.assoc x))/\w'.cell? ⟨b,off+k*5+3,none⟩=some (.bool (Opr.comm x))/\w'.cell? ⟨b,off+k*5+4,none⟩=some (.int .i64 (Opr.unit x))/\w'.cell? ⟨b',off'+k*5,none⟩=some (.string (Opr.name x))/\w'.cell? ⟨b',off'+k*5+1,none⟩=some (z')/\w'.cell? ⟨b',off'+k*5+2,none⟩=some (.bool (Opr.assoc x))/\w'.cell? ⟨b',off'+k*5+3,none⟩=some (.bool (Opr.comm x))/\w'.cell? ⟨b',off'+k*5+4,none⟩=some (.int .i64 (Opr.unit x))) (go_keep)
    (first|(go_at_call 71;refine(eqOp_any x _ _ _ hu.drew hu'.drew).mono ?_;rintro e w1 ⟨rfl,hb1⟩;have q0:=(hb1.cell (p:=⟨b,off+k*5,none⟩) hlb).trans c0;have q1:=(hb1.cell (p:=⟨b,off+k*5+1,none⟩) hlb).trans c1;have q2:=(hb1.cell (p:=⟨b,off+k*5+2,none⟩) hlb).trans c2;have q3:=(hb1.cell (p:=⟨b,off+k*5+3,none⟩) hlb).trans c3;have q4:=(hb1.cell (p:=⟨b,off+k*5+4,none⟩) hlb).trans c4;have p0:=(hb1.cell (p:=⟨b',off'+k*5,none⟩) hlb').trans d0;have p1:=(hb1.cell (p:=⟨b',off'+k*5+1,none⟩) hlb').trans d1;have p2:=(hb1.cell (p:=⟨b',off'+k*5+2,none⟩) hlb').trans d2;have p3:=(hb1.cell (p:=⟨b',off'+k*5+3,none⟩) hlb').trans d3;have p4:=(hb1.cell (p:=⟨b',off'+k*5+4,none⟩) hlb').trans d4))
   go_wp2_with fail
   go_roundw
   case rel=>exact⟨k+1,by omega,by go_num,by repeat with_reducible (first|exact Below.refl _ _|refine Below.setCell ?_ (by first|omega|(simp<;>omega)) _|refine Below.drew ?_|refine below_drewN ?_ _|refine Below.alloc ?_ (by first|omega|(simp<;>omega)) _|refine Below.trans ?_ (Below.mono (by assumption) (by first|omega|(simp<;>omega))))⟩
   case measure=>simp[intOf];omega
  ·go_wp2_with fail
   go_ret
   exact⟨rfl,hb⟩
theorem eqSorts_any (x:So) (w:World) (v u v' u':Value) (h:At w Any (strs (So.names x)) v) (k:At w Any (subs (So.subs x)) u) (h':At w Any (strs (So.names x)) v') (k':At w Any (subs (So.subs x)) u'):Calls Tryz.prog 31 #[.agg #[v,u],.agg #[v',u']] w λe w'=>e= .returned (.bool true)/\Below w.heap.size w w':=by
 obtain⟨A,c,rfl,hn,hc⟩:=rowOf_slice h
 obtain⟨B,d,rfl,hm,hd⟩:=rowOf_slice k
 obtain⟨A',c',rfl,hn',hc'⟩:=rowOf_slice h'
 obtain⟨B',d',rfl,hm',hd'⟩:=rowOf_slice k'
 have HK:=Lib.hid ((k.alloc (.cells #[.slice A (So.names x).length c,.slice B (So.subs x).length d] 37)).alloc (.cells #[.slice A' (So.names x).length c',.slice B' (So.subs x).length d'] 37))
 have HK':=Lib.hid ((k'.alloc (.cells #[.slice A (So.names x).length c,.slice B (So.subs x).length d] 37)).alloc (.cells #[.slice A' (So.names x).length c',.slice B' (So.subs x).length d'] 37))
 go_enter Tryz.func31,Tryz.ntmps31
 go_wp2_with fail
 refine(eqStringS_any (So.names x) _ _ _ ((h.alloc _).alloc _) ((h'.alloc _).alloc _)).mono ?_
 rintro e w1 ⟨rfl,hb1⟩
 obtain⟨hc1,hf1⟩:=bcell hb1
 have bel1:Below w.heap.size w w1:=by repeat with_reducible (first|exact Below.refl _ _|refine Below.setCell ?_ (by first|omega|(simp<;>omega)) _|refine Below.drew ?_|refine below_drewN ?_ _|refine Below.alloc ?_ (by first|omega|(simp<;>omega)) _|refine Below.trans ?_ (Below.mono (by assumption) (by first|omega|(simp<;>omega))))
 go_wp2_with fail
 refine(eqSubS_any (So.subs x) _ _ _ (HK.out.below hb1) (HK'.out.below hb1)).mono ?_
 rintro e w2 ⟨rfl,hb2⟩
 have bel:=bel1.trans (hb2.mono bel1.size)
 go_wp2_with fail
 go_ret
 exact⟨rfl,bel⟩
set_option maxHeartbeats 400000 in
theorem eqSignature_any (x:Sg) (w:World) (v u z v' u' z':Value) (h:At w Any (strs (So.names (Sg.sorts x))) v) (k:At w Any (subs (So.subs (Sg.sorts x))) u) (l:At w Any (oprs (Sg.ops x)) z)
  (h':At w Any (strs (So.names (Sg.sorts x))) v') (k':At w Any (subs (So.subs (Sg.sorts x))) u') (l':At w Any (oprs (Sg.ops x)) z'):Calls Tryz.prog 10 #[.agg #[v,u,z],.agg #[v',u',z']] w λe w'=>e= .returned (.bool true)/\Below w.heap.size w w':=by
 obtain⟨A,c,rfl,hn,hc⟩:=rowOf_slice h
 obtain⟨B,d,rfl,hm,hd⟩:=rowOf_slice k
 obtain⟨C,f,rfl,hp,hf⟩:=rowOf_slice l
 obtain⟨A',c',rfl,hn',hc'⟩:=rowOf_slice h'
 obtain⟨B',d',rfl,hm',hd'⟩:=rowOf_slice k'
 obtain⟨C',f',rfl,hp',hf'⟩:=rowOf_slice l'
 obtain⟨o1,ho1⟩:∃o,o=Obj.cells #[.slice A (So.names (Sg.sorts x)).length c,.slice B (So.subs (Sg.sorts x)).length d,.slice C (Sg.ops x).length f] 40:=⟨_,rfl⟩
 obtain⟨o2,ho2⟩:∃o,o=Obj.cells #[.slice A' (So.names (Sg.sorts x)).length c',.slice B' (So.subs (Sg.sorts x)).length d',.slice C' (Sg.ops x).length f'] 40:=⟨_,rfl⟩
 have HL:=Lib.hid ((l.alloc o1).alloc o2)
 have HL':=Lib.hid ((l'.alloc o1).alloc o2)
 rw[ho1,ho2]at HL HL'
 clear ho1 ho2
 go_enter Tryz.func10,Tryz.ntmps10
 go_wp2_with fail
 refine(eqSorts_any (Sg.sorts x) _ _ _ _ _ ((h.alloc _).alloc _) ((k.alloc _).alloc _) ((h'.alloc _).alloc _) ((k'.alloc _).alloc _)).mono ?_
 rintro e w1 ⟨rfl,hb1⟩
 obtain⟨hc1,hf1⟩:=bcell hb1
 have bel1:Below w.heap.size w w1:=by repeat with_reducible (first|exact Below.refl _ _|refine Below.setCell ?_ (by first|omega|(simp<;>omega)) _|refine Below.drew ?_|refine below_drewN ?_ _|refine Below.alloc ?_ (by first|omega|(simp<;>omega)) _|refine Below.trans ?_ (Below.mono (by assumption) (by first|omega|(simp<;>omega))))
 go_wp2_with fail
 refine(eqOpS_any (Sg.ops x) _ _ _ (HL.out.below hb1) (HL'.out.below hb1)).mono ?_
 rintro e w2 ⟨rfl,hb2⟩
 have bel:=bel1.trans (hb2.mono bel1.size)
 go_wp2_with fail
 go_ret
 exact⟨rfl,bel⟩
structure SgAt (w:World) (S:Nat->Prop) (s:Sg) (v u z:Value):Prop where
 n:At w S (strs (So.names (Sg.sorts s))) v
 b:At w S (subs (So.subs (Sg.sorts s))) u
 o:At w S (oprs (Sg.ops s)) z
section
variable {w w' : World} {S S' : Nat → Prop} {s : Sg} {v u z : Value}
theorem SgAt.below (h:SgAt w S s v u z) (hb:Below w.heap.size w w'):SgAt w' S s v u z:=⟨h.n.below hb,h.b.below hb,h.o.below hb⟩
theorem SgAt.like (h:SgAt w S s v u z) (hL:Like S' w w') (hd:∀b,S b->¬S' b):SgAt w' S s v u z:=⟨h.n.like hL hd,h.b.like hL hd,h.o.like hL hd⟩
theorem SgAt.mono (h:SgAt w S s v u z) (hS:∀b,S b->b<w.heap.size->S' b):SgAt w S' s v u z:=⟨h.n.mono hS,h.b.mono hS,h.o.mono hS⟩
theorem SgAt.any (h:SgAt w S s v u z):SgAt w Any s v u z:=h.mono λ_ _ _=>trivial
theorem SgAt.old (h:SgAt w S s v u z):SgAt w (Old w) s v u z:=h.mono λ_ _ h=>h
end
structure MA (s:Sg) (v u z:Value) (w W:World):Prop where
 bel:Below w.heap.size w W
 lo:w.heap.size+1<=W.heap.size
 gB:Blk W w.heap.size 28 #[v,u,z]
 at_:SgAt W (Old w) s v u z
section
variable {s : Sg} {v u z : Value} {w W W' : World} {S : Nat → Prop}
theorem MA.next (h:MA s v u z w W) (hb:Below W.heap.size W W'):MA s v u z w W':=⟨h.bel.trans (hb.mono h.bel.size),Nat.le_trans h.lo hb.size,h.gB.next hb,h.at_.below hb⟩
theorem MA.alloc (h:MA s v u z w W) (o:Obj):MA s v u z w (W.alloc o):=h.next ((Below.refl _ _).alloc (Nat.le_refl _) _)
theorem MA.drew (h:MA s v u z w W):MA s v u z w W.drew:=h.next (Below.refl _ _).drew
theorem MA.like (h:MA s v u z w W) (hL:Like S W W') (hS:∀b,S b->w.heap.size+1<=b):MA s v u z w W':=
 ⟨h.bel.trans (hL.below (Nat.le_trans (by omega) h.lo) λb hb=>by have:=hS b hb;omega),Nat.le_trans h.lo hL.size,hL.blk h.gB λq=>by have:=hS _ q;omega,h.at_.like hL λb hb hs=>by have:=hS b hs;simp only[Old]at hb;omega⟩
end
structure MS (t:Tm) (sv:Value) (p B:Nat) (W:World):Prop where
 gB:Blk W p 32 #[.int .i64 t.op,.string t.name,.int .i64 t.sort,sv]
 at_:At W (λb=>b<B) (terms t.args) sv
section
variable {t : Tm} {sv : Value} {p B : Nat} {W W' : World} {S : Nat → Prop}
theorem MS.next (h:MS t sv p B W) (hb:Below W.heap.size W W'):MS t sv p B W':=⟨h.gB.next hb,h.at_.below hb⟩
theorem MS.alloc (h:MS t sv p B W) (o:Obj):MS t sv p B (W.alloc o):=h.next ((Below.refl _ _).alloc (Nat.le_refl _) _)
theorem MS.drew (h:MS t sv p B W):MS t sv p B W.drew:=h.next (Below.refl _ _).drew
theorem MS.like (h:MS t sv p B W) (hL:Like S W W') (hp:¬S p) (hS:∀b,S b->B<=b):MS t sv p B W':=⟨hL.blk h.gB hp,h.at_.like hL λb hb hs=>by have:=hS b hs;omega⟩
end
structure MG (t:Tm) (sv:Value) (p B:Nat) (T:Nat->Prop) (W:World):Prop where
 gB:Blk W p 32 #[.int .i64 t.op,.string t.name,.int .i64 t.sort,sv]
 from_:∀b,T b->B<=b/\b<p
 soft:Soft T W
 sep:SepT W t.args T sv
section
variable {t : Tm} {sv : Value} {p B : Nat} {W W' : World} {S T : Nat → Prop}
theorem MG.next (h:MG t sv p B T W) (hb:Below W.heap.size W W'):MG t sv p B T W':=⟨h.gB.next hb,h.from_,h.soft.like (Like.of_below (S:=T) hb),h.sep.nx hb λx hx=>(h.soft x hx).1⟩
theorem MG.drew (h:MG t sv p B T W):MG t sv p B T W.drew:=h.next (Below.refl _ _).drew
theorem MG.like (h:MG t sv p B T W) (hL:Like S W W') (hp:B<=p) (hS:∀b,S b->b<B):MG t sv p B T W':=⟨hL.blk h.gB λq=>by have:=hS _ q;omega,h.from_,h.soft.like hL,h.sep.like hL λx hx=>⟨(h.soft x hx).1,λq=>by have:=hS _ q;have:=(h.from_ x hx).1;omega⟩⟩
end
structure MX (s:Sg) (p:Nat) (v u z:Value) (S:Nat->Prop) (W:World):Prop where
 gB:Blk W p 40 #[v,u,z]
 soft:Soft S W
 at_:SgAt W S s v u z
section
variable {s : Sg} {p : Nat} {v u z : Value} {W W' : World} {S : Nat → Prop}
theorem MX.next (h:MX s p v u z S W) (hb:Below W.heap.size W W'):MX s p v u z S W':=⟨h.gB.next hb,h.soft.like (Like.of_below (S:=S) hb),h.at_.below hb⟩
theorem MX.drew (h:MX s p v u z S W):MX s p v u z S W.drew:=h.next (Below.refl _ _).drew
theorem MX.alloc (h:MX s p v u z S W) (o:Obj):MX s p v u z S (W.alloc o):=h.next ((Below.refl _ _).alloc (Nat.le_refl _) _)
end
theorem MS.c4 {W:World} {p:Nat} {t:TypeId} {a b c d:Value} (h:Blk W p t #[a,b,c,d]):W.cell? ⟨p,0,none⟩=some a/\W.cell? ⟨p,1,none⟩=some b/\W.cell? ⟨p,2,none⟩=some c/\W.cell? ⟨p,3,none⟩=some d:=⟨h.cell 0,h.cell 1,h.cell 2,h.cell 3⟩
def SpecC (s:Sg) (x:ByteArray) (t:Tm) (ok:Bool):Prop:=∀(w:World) (v u z:Value),SgAt w Any s v u z->
  Calls Tryz.prog 6 #[.agg #[v,u,z],.string x] w λe w'=>∃sv,e= .returned (.tuple #[.agg #[.int .i64 t.op,.string t.name,.int .i64 t.sort,sv],.bool ok])/\At w' Any (terms t.args) sv/\t.fits/\Below w.heap.size w w'
def ImplC (s:Sg) (x:ByteArray) (t:Tm) (ok:Bool):Prop:=∀(w:World) (v u z:Value),SgAt w Any s v u z->
  Calls Tryz.prog 8 #[.agg #[v,u,z],.string x] w λe w'=>∃sv T,e= .returned (.tuple #[.agg #[.int .i64 t.op,.string t.name,.int .i64 t.sort,sv],.bool ok])/\(∀x,T x->w.heap.size<=x)/\Soft T w'/\SepT w' t.args T sv/\Below w.heap.size w w'
set_option maxRecDepth 100000 in
set_option maxHeartbeats 8000000 in
theorem fnExactParseTerm_any (s:Sg) (x:ByteArray) (t:Tm) (ok:Bool) (hS:SpecC s x t ok) (hI:ImplC s x t ok) (htot:t.total<=780)
  (w:World) (v u z:Value) (h:SgAt w Any s v u z) (hx:x.size<=maxLen):
  Calls Tryz.prog 3 #[.agg #[v,u,z],.string x] w λe w'=>e= .returned (.bool true)/\Below w.heap.size w w':=by
 obtain⟨A,c,rfl,hn,hc⟩:=rowOf_slice h.n
 obtain⟨E,d,rfl,hm,hd⟩:=rowOf_slice h.b
 obtain⟨F,f,rfl,hp,hf⟩:=rowOf_slice h.o
 have hA0:Hid (MA s (.slice A (So.names (Sg.sorts s)).length c) (.slice E (So.subs (Sg.sorts s)).length d) (.slice F (Sg.ops s).length f) w (w.alloc (.cells #[.slice A (So.names (Sg.sorts s)).length c,.slice E (So.subs (Sg.sorts s)).length d,.slice F (Sg.ops s).length f] 28))):=
  Lib.hid ⟨(Below.refl _ _).alloc (Nat.le_refl _) _,by simp,Blk.new _ _ _,h.old.below ((Below.refl _ _).alloc (Nat.le_refl _) _)⟩
 have HSp:=Lib.hid hS
 have HIm:=Lib.hid hI
 have hxs:x.size<=9223372036854775807:=by simp only[maxLen]at hx;omega
 clear h hS hI
 by_cases hx1:(1048576:Int)<x.size
 ·have hxx:decide ((1048576:Int)<x.size)=true:=by simp;omega
  go_enter Tryz.func3,Tryz.ntmps3
  go_wp2_with fail
  go_ret
  exact⟨rfl,hA0.out.bel⟩
 have hbq:(ok !=ok)=false:=by cases ok<;>rfl
 have hsm:=sgM_le s
 go_enter Tryz.func3,Tryz.ntmps3
 go_wp2_with fail
 refine(szSignature_any s 1048576 _ _ _ _ _ hA0.out.at_.n hA0.out.at_.b hA0.out.at_.o (by omega) (by omega)).mono ?_
 rintro e w1 ⟨r1,rfl,hs,hb1⟩
 rcases hs with rfl|⟨hs0,hs1⟩
 ·have a:=Lib.hid (hA0.out.next hb1)
  go_wp2_with fail
  go_ret
  exact⟨rfl,a.out.bel⟩
 ·have hsg:sgW s<=1048576:=by omega
  have hneg:decide (r1<0)=false:=dF (by omega)
  have a:=Lib.hid (hA0.out.next hb1)
  clear hA0 hb1
  obtain⟨_,_,_⟩:=a.out.gB.c3
  go_wp2_with fail
  refine(toSignature_so s _ _ _ _ _ a.out.at_.n a.out.at_.b a.out.at_.o hsg).mono ?_
  rintro e w2 ⟨v2,u2,z2,rfl,n2,b2,o2,hb2,un2⟩
  obtain⟨A2,c2,rfl,_,_⟩:=rowOf_slice n2
  obtain⟨E2,d2,rfl,_,_⟩:=rowOf_slice b2
  obtain⟨F2,f2,rfl,_,_⟩:=rowOf_slice o2
  have a:=Lib.hid (a.out.next hb2)
  go_wp2_with fail
  refine(HSp.out _ _ _ _ ⟨n2.any,b2.any,o2.any⟩).mono ?_
  rintro e wc ⟨sv,rfl,sa,tf,hbc⟩
  obtain⟨L2,e2,rfl,_,_⟩:=terms_slice sa
  have a:=Lib.hid ((a.out.next hbc).alloc (.cells #[.int .i64 t.op,.string t.name,.int .i64 t.sort,(.slice L2 t.args.length e2)] 32))
  have s0:Hid (MS t (.slice L2 t.args.length e2) wc.heap.size wc.heap.size (wc.alloc (.cells #[.int .i64 t.op,.string t.name,.int .i64 t.sort,(.slice L2 t.args.length e2)] 32))):=Lib.hid ⟨Blk.new _ _ _,sa.old.alloc _⟩
  have TF:=Lib.hid tf
  have lo:=a.out.lo
  simp only[World.size_alloc]at lo
  clear n2 b2 o2 un2 sa tf
  obtain⟨_,_,_⟩:=a.out.gB.c3
  go_wp2_with fail
  refine(toSignature_so s _ _ _ _ _ a.out.at_.n a.out.at_.b a.out.at_.o hsg).mono ?_
  rintro e w3 ⟨v3,u3,z3,rfl,n3,b3,o3,hb3,un3⟩
  obtain⟨A3,c3,rfl,_,_⟩:=rowOf_slice n3
  obtain⟨E3,d3,rfl,_,_⟩:=rowOf_slice b3
  obtain⟨F3,f3,rfl,_,_⟩:=rowOf_slice o3
  have z3:=hb3.size
  simp only[World.size_alloc]at z3
  have x0:Hid (MX s w3.heap.size (.slice A3 (So.names (Sg.sorts s)).length c3) (.slice E3 (So.subs (Sg.sorts s)).length d3) (.slice F3 (Sg.ops s).length f3) (λb=>wc.heap.size+1<=b/\b<w3.heap.size) (w3.alloc (.cells #[.slice A3 (So.names (Sg.sorts s)).length c3,.slice E3 (So.subs (Sg.sorts s)).length d3,.slice F3 (Sg.ops s).length f3] 40))):=
   Lib.hid ⟨Blk.new _ _ _,(un3.alloc _ _).soft λb hb=>⟨by rw[World.size_alloc];exact hb.1,by rw[World.size_alloc];omega⟩,(SgAt.mono (S:=From (wc.alloc (.cells #[.int .i64 t.op,.string t.name,.int .i64 t.sort,(.slice L2 t.args.length e2)] 32)).heap.size) ⟨n3,b3,o3⟩ λb hb hlt=>⟨by have hb:_<=b:=hb;rw[World.size_alloc]at hb;exact hb,hlt⟩).below ((Below.refl _ _).alloc (Nat.le_refl _) _)⟩
  have a:=Lib.hid ((a.out.next hb3).alloc (.cells #[.slice A3 (So.names (Sg.sorts s)).length c3,.slice E3 (So.subs (Sg.sorts s)).length d3,.slice F3 (Sg.ops s).length f3] 40))
  have s0:=Lib.hid ((s0.out.next hb3).alloc (.cells #[.slice A3 (So.names (Sg.sorts s)).length c3,.slice E3 (So.subs (Sg.sorts s)).length d3,.slice F3 (Sg.ops s).length f3] 40))
  clear n3 b3 o3 un3
  obtain⟨_,_,_⟩:=x0.out.gB.c3
  go_wp2_with fail
  refine(HIm.out _ _ _ _ x0.out.at_.any).mono ?_
  rintro e w6 ⟨gv,T,rfl,hT,hTs,hg,hb6⟩
  obtain⟨L7,d7,rfl,hnl7,hcl7⟩:=terms_slice hg.at_
  have z6:=hb6.size
  simp only[World.size_alloc]at z6 hT
  have gg:Hid (MG t (.slice L7 t.args.length d7) w6.heap.size (w3.heap.size+1) T (w6.alloc (.cells #[.int .i64 t.op,.string t.name,.int .i64 t.sort,(.slice L7 t.args.length d7)] 32))):=Lib.hid ⟨Blk.new _ _ _,λb hb=>⟨hT b hb,(hTs b hb).1⟩,hTs.alloc _,hg.nx ((Below.refl _ _).alloc (Nat.le_refl _) _) λx hx=>(hTs x hx).1⟩
  have a:=Lib.hid ((a.out.next hb6).alloc (.cells #[.int .i64 t.op,.string t.name,.int .i64 t.sort,(.slice L7 t.args.length d7)] 32))
  have s0:=Lib.hid ((s0.out.next hb6).alloc (.cells #[.int .i64 t.op,.string t.name,.int .i64 t.sort,(.slice L7 t.args.length d7)] 32))
  have x0:=Lib.hid ((x0.out.next hb6).alloc (.cells #[.int .i64 t.op,.string t.name,.int .i64 t.sort,(.slice L7 t.args.length d7)] 32))
  clear hg hT hTs
  obtain⟨_,_,_,_⟩:=MS.c4 s0.out.gB
  obtain⟨_,_,_,_⟩:=MS.c4 gg.out.gB
  go_wp2_with fail
  refine(Den.eqTerm_m gg.out.sep.at_.any s0.out.at_.any TF.out (by omega)).mono ?_
  rintro e w7 ⟨rfl,hb7⟩
  have a:=Lib.hid (a.out.next hb7)
  have s0:=Lib.hid (s0.out.next hb7)
  have x0:=Lib.hid (x0.out.next hb7)
  have gg:=Lib.hid (gg.out.next hb7)
  go_upto_region 12 with fail
  have a:=Lib.hid a.out.drew
  have s0:=Lib.hid s0.out.drew
  have x0:=Lib.hid x0.out.drew
  have gg:=Lib.hid gg.out.drew
  obtain⟨q1,q2,q3⟩:=x0.out.gB.c3
  obtain⟨q4,q5,q6⟩:=a.out.gB.c3
  go_region_held3 (λw'=>w'.cell? ⟨w3.heap.size,0,none⟩=some (.slice A3 (So.names (Sg.sorts s)).length c3)/\w'.cell? ⟨w3.heap.size,1,none⟩=some (.slice E3 (So.subs (Sg.sorts s)).length d3)/\w'.cell? ⟨w3.heap.size,2,none⟩=some (.slice F3 (Sg.ops s).length f3)/\
    w'.cell? ⟨w.heap.size,0,none⟩=some (.slice A (So.names (Sg.sorts s)).length c)/\w'.cell? ⟨w.heap.size,1,none⟩=some (.slice E (So.subs (Sg.sorts s)).length d)/\w'.cell? ⟨w.heap.size,2,none⟩=some (.slice F (Sg.ops s).length f)) (go_keep)
   (first|(go_at_call 7;refine(toSignature_so s _ (Old w) _ _ _ ?_ ?_ ?_ hsg).mono ?_;(exact a.out.at_.n);(exact a.out.at_.b);(exact a.out.at_.o);rintro e w8 ⟨v8,u8,z8,rfl,n8,b8,o8,hb8,_⟩;obtain⟨A8,c8,rfl,_,_⟩:=rowOf_slice n8;obtain⟨E8,d8,rfl,_,_⟩:=rowOf_slice b8;obtain⟨F8,f8,rfl,_,_⟩:=rowOf_slice o8;have a:=Lib.hid (a.out.next hb8);have s0:=Lib.hid (s0.out.next hb8);have x0:=Lib.hid (x0.out.next hb8);have gg:=Lib.hid (gg.out.next hb8);obtain⟨q1,q2,q3⟩:=x0.out.gB.c3;obtain⟨q4,q5,q6⟩:=a.out.gB.c3)|(go_at_call 10;refine(eqSignature_any s _ _ _ _ _ _ _ ?_ ?_ ?_ ?_ ?_ ?_).mono ?_;(exact x0.out.at_.any.n);(exact x0.out.at_.any.b);(exact x0.out.at_.any.o);(exact n8.any);(exact b8.any);(exact o8.any);rintro e w9 ⟨rfl,hb9⟩;have a:=Lib.hid (a.out.next hb9);have s0:=Lib.hid (s0.out.next hb9);have x0:=Lib.hid (x0.out.next hb9);have gg:=Lib.hid (gg.out.next hb9);obtain⟨q1,q2,q3⟩:=x0.out.gB.c3;obtain⟨q4,q5,q6⟩:=a.out.gB.c3))
  clear n8 b8 o8 hb8 hb9
  go_wp2_with fail
  refine(markSignature_any s 1 _ _ _ _ _ x0.out.at_.n.shape x0.out.at_.b.shape x0.out.at_.o.shape x0.out.soft (by omega) (by omega)).mono ?_
  rintro e w14 ⟨k1,rfl,hk1,hk2,hL1⟩
  have a:=Lib.hid (a.out.like hL1 λb hb=>by omega)
  have s0:=Lib.hid (s0.out.like hL1 (by omega) λb hb=>by omega)
  have gg:=Lib.hid (gg.out.like hL1 (by omega) λb hb=>by omega)
  clear x0 hL1
  have hk5:0<=k1:=by omega
  have hk6:decide (k1<0)=false:=by simp;omega
  obtain⟨_,_,_,_⟩:=MS.c4 s0.out.gB
  obtain⟨_,_,_,_⟩:=MS.c4 gg.out.gB
  go_wp2_with fail
  refine(Den.eqTerm_m gg.out.sep.at_.any s0.out.at_.any TF.out (by omega)).mono ?_
  rintro e w17 ⟨rfl,hb17⟩
  have a:=Lib.hid (a.out.next hb17)
  have s0:=Lib.hid (s0.out.next hb17)
  have gg:=Lib.hid (gg.out.next hb17)
  obtain⟨_,_,_,_⟩:=MS.c4 gg.out.gB
  go_wp2_with fail
  have htt:=Tm.total_eq t
  refine(markTerm_sep t _ _ _ 1 gg.out.sep gg.out.soft (by omega) (by omega)).mono ?_
  rintro e w18 ⟨rfl,hL4,hm4⟩
  have a:=Lib.hid (a.out.like hL4 λb hb=>by have:=(gg.out.from_ b hb).1;omega)
  have s0:=Lib.hid (s0.out.like hL4 (λq=>by have:=(gg.out.from_ _ q).1;omega) λb hb=>by have:=(gg.out.from_ b hb).1;omega)
  have GB:=Lib.hid (hL4.blk gg.out.gB λq=>by have:=(gg.out.from_ _ q).2;omega)
  have HM:=Lib.hid hm4.at_
  clear gg hL4 hm4
  have hml:=mkL_le t.args 1
  have hml2:=mkTs_len t.args 1
  obtain⟨m,hm0⟩:∃m,m=(mkTs 1 t.args).2:=⟨_,rfl⟩
  rw[<-hm0]at hml ⊢
  have HMM:=Lib.hid hm0
  clear hm0
  have hne:(m !=m)=false:=by simp
  have hge:decide (m<0)=false:=by simp;omega
  obtain⟨_,_,_,_⟩:=MS.c4 GB.out
  go_wp2_with fail
  refine(heldTerm_any t _ _ _ _ _ _ 1 HM.out (by omega) (by omega)).mono ?_
  rintro e w19 ⟨rfl,hb19⟩
  rw[<-HMM.out]
  have a:=Lib.hid (a.out.next hb19)
  have s0:=Lib.hid (s0.out.next hb19)
  have GB:=Lib.hid (GB.out.next hb19)
  have HM:=Lib.hid (HM.out.below hb19)
  obtain⟨_,_,_⟩:=a.out.gB.c3
  go_wp2_with fail
  refine(toSignature_so s _ _ _ _ _ a.out.at_.n a.out.at_.b a.out.at_.o hsg).mono ?_
  rintro e w20 ⟨v20,u20,z20,rfl,n20,b20,o20,hb20,_⟩
  obtain⟨A20,c20,rfl,_,_⟩:=rowOf_slice n20
  obtain⟨E20,d20,rfl,_,_⟩:=rowOf_slice b20
  obtain⟨F20,f20,rfl,_,_⟩:=rowOf_slice o20
  go_wp2_with fail
  refine(HIm.out _ _ _ _ ⟨n20.any,b20.any,o20.any⟩).mono ?_
  rintro e w21 ⟨gv2,T2,rfl,_,_,hg2,hb21⟩
  obtain⟨L21,d21,rfl,_,_⟩:=terms_slice hg2.at_
  have a:=Lib.hid (((a.out.next hb20).next hb21).alloc (.cells #[.int .i64 t.op,.string t.name,.int .i64 t.sort,(.slice L21 t.args.length d21)] 32))
  have s0:=Lib.hid (((s0.out.next hb20).next hb21).alloc (.cells #[.int .i64 t.op,.string t.name,.int .i64 t.sort,(.slice L21 t.args.length d21)] 32))
  have GB:=Lib.hid (((GB.out.next hb20).next hb21).alloc (.cells #[.int .i64 t.op,.string t.name,.int .i64 t.sort,(.slice L21 t.args.length d21)] 32))
  have HM:=Lib.hid (((HM.out.below hb20).below hb21).alloc (.cells #[.int .i64 t.op,.string t.name,.int .i64 t.sort,(.slice L21 t.args.length d21)] 32))
  have HG:=Lib.hid (hg2.at_.any.alloc (.cells #[.int .i64 t.op,.string t.name,.int .i64 t.sort,(.slice L21 t.args.length d21)] 32))
  clear n20 b20 o20 hg2
  obtain⟨_,_,_,_⟩:=MS.c4 s0.out.gB
  go_wp2_with fail
  refine(Den.eqTerm_m HG.out s0.out.at_.any TF.out (by omega)).mono ?_
  rintro e w22 ⟨rfl,hb22⟩
  have a:=Lib.hid (a.out.next hb22)
  have GB:=Lib.hid (GB.out.next hb22)
  have HM:=Lib.hid (HM.out.below hb22)
  obtain⟨_,_,_,_⟩:=MS.c4 GB.out
  go_wp2_with fail
  refine(heldTerm_any t _ _ _ _ _ _ 1 HM.out (by omega) (by omega)).mono ?_
  rintro e w23 ⟨rfl,hb23⟩
  rw[<-HMM.out]
  have a:=Lib.hid (a.out.next hb23)
  go_wp2_with fail
  go_ret
  exact⟨rfl,a.out.bel⟩
end Go.Proofs.YtfdkldmkbibknaaGreat
namespace Go.Proofs.YtfdkldmkbibknaaGreat.Den
open Go.ChangeShapes Go.WideShapes Go.ChangeAt Go.RowKit Go.Deep Go.Joins
open Abs (V AV VRs VR AR ARs Inf Fn)
section
variable {J : Nat → Prop} {w : World}
theorem list_at {T:Ty} (hp:0<szT T) (f:I T->List D) (hf:∀x,(f x).length=szT T) {xs:List (I T)} {v:V} {c:Value} (h1:FR (.l T xs) v) (h2:VR J w [] v c)
  (he:∀x∈xs,∀(j:Nat) (d:D) (a:C) (v:V) (u:Value),(f x)[j]? =some d->(explode T x)[j]? =some a->FR a v->VR J w [] v u->At w J d u):At w J (rowOf f xs) c:=by
 obtain⟨es,rfl,hl,hs',hr⟩:∃es,v= .imm (szT T) es/\es.length=xs.length/\(∀e∈es,e.length=szT T)/\∀(m:Nat) (h1:m<xs.length) (h2:m<es.length) (j:Nat) (h3:j<(explode T xs[m]).length) (h4:j<es[m].length),FR (explode T xs[m])[j] es[m][j]:=by
  cases h1 with
  |l hp hl hs hr=>exact⟨_,rfl,hl,hs,hr⟩
 generalize hz:szT T=s at*
 cases h2 with
 | imm0 hc =>
  obtain rfl:=nZ hl.symm
  exact rowOf_mk s hf hp (Nat.zero_le _) hc λh=>by simp at h
 | @imm _ _ b off cap _ g hs hc hm hI hcell hrv=>
  rw[hl]
  refine rowOf_mk s hf hp (by omega) hm λ_=>⟨b,off,rfl,hI,λk x hx j d hd=> ?_⟩
  obtain⟨hk,hxe⟩:=gI.1 hx
  have hk':k<es.length:=by omega
  have hj:j<s:=by have:=(gI.1 hd).1;rw[hf]at this;exact this
  have h4:es[k].length=s:=hs' _ (gM hk')
  have hj3:j<(explode T xs[k]).length:=by rw[explode_len T (by omega),hz];exact hj
  have hj4:j<es[k].length:=by omega
  subst hxe
  exact⟨g k j,hcell k j hk' hj,he _ (gM hk) j d _ _ _ hd (gE hj3) (hr k hk hk' j hj3 hj4) (hrv k hk' j hj4)⟩
theorem at_i {x:Int} {v:V} {u:Value} (h1:FR (.i x) v) (h2:VR J w [] v u):At w J (.lit (.int .i64 x)) u:=by
 cases h1
 cases h2 with
 |lit h=>exact at_lit.2 ⟨rfl,h⟩
theorem at_b {x:Bool} {v:V} {u:Value} (h1:FR (.b x) v) (h2:VR J w [] v u):At w J (.lit (.bool x)) u:=by
 cases h1
 cases h2 with
 |lit h=>exact at_lit.2 ⟨rfl,trivial⟩
theorem at_s {x:ByteArray} {v:V} {u:Value} (h1:FR (.s x) v) (h2:VR J w [] v u):At w J (.lit (.string x)) u:=by
 cases h1
 cases h2 with
 |lit h=>exact at_lit.2 ⟨rfl,h⟩
theorem ints_at_ {xs:List Int} {v:V} {u:Value} (h1:FR (.l .i xs) v) (h2:VR J w [] v u):At w J (ints xs) u:=res_ints (ρ:=[]) (H:=[]) (.fl h1) h2
theorem strs_at_ {xs:List ByteArray} {v:V} {u:Value} (h1:FR (.l .s xs) v) (h2:VR J w [] v u):At w J (strs xs) u:=
 list_at (T:=.s) (by decide) strC (λ_=>rfl) h1 h2 λx _ j d a v u hd ha hf hv=>by
  match j,hd,ha with
  |0,hd,ha=>cases hd;cases ha;exact at_s hf hv
theorem subs_at_ {xs:List Sb} {v:V} {u:Value} (h1:FR (.l (.n 5) xs) v) (h2:VR J w [] v u):At w J (subs xs) u:=
 list_at (T:=.n 5) (by decide) subC (λ_=>rfl) h1 h2 λx _ j d a v u hd ha hf hv=>by
  match j,hd,ha with
  |0,hd,ha=>cases hd;cases ha;exact at_i hf hv
  |1,hd,ha=>cases hd;cases ha;exact at_i hf hv
theorem decs_at_ {xs:List Dc} {v:V} {u:Value} (h1:FR (.l (.n 7) xs) v) (h2:VR J w [] v u):At w J (decs xs) u:=
 list_at (T:=.n 7) (by decide) decC (λ_=>rfl) h1 h2 λx _ j d a v u hd ha hf hv=>by
  match j,hd,ha with
  |0,hd,ha=>cases hd;cases ha;exact ints_at_ hf hv
  |1,hd,ha=>cases hd;cases ha;exact at_i hf hv
theorem oprs_at_ {xs:List Opr} {v:V} {u:Value} (h1:FR (.l (.n 8) xs) v) (h2:VR J w [] v u):At w J (oprs xs) u:=
 list_at (T:=.n 8) (by decide) oprC (λ_=>rfl) h1 h2 λx _ j d a v u hd ha hf hv=>by
  match j,hd,ha with
  |0,hd,ha=>cases hd;cases ha;exact at_s hf hv
  |1,hd,ha=>cases hd;cases ha;exact decs_at_ hf hv
  |2,hd,ha=>cases hd;cases ha;exact at_b hf hv
  |3,hd,ha=>cases hd;cases ha;exact at_b hf hv
  |4,hd,ha=>cases hd;cases ha;exact at_i hf hv
theorem lies_sig {v:Value} (hl:Lies w (.n 9) v.cells.toList) (hv:∃cs,v= .agg cs):∃(s:Sg) (a b c:Value),v= .agg #[a,b,c]/\SgAt w Any s a b c:=by
 obtain⟨cs,rfl⟩:=hv
 obtain⟨d,vs,h1,h2⟩:=hl
 have h1:FRs [.l .s (So.names (Sg.sorts d)),.l (.n 5) (So.subs (Sg.sorts d)),.l (.n 8) (Sg.ops d)] vs:=h1
 obtain⟨l1,l2⟩:=h1
 obtain⟨g1,g2⟩:=h2
 match vs,l1 with
 | [x, y, z], _ =>
  rcases cs with⟨l⟩
  match l,g1 with
  | [a, b, c], _ =>
   obtain⟨a',a1,a2⟩:=g2 0 (by simp)
   obtain⟨b',b1,b2⟩:=g2 1 (by simp)
   obtain⟨c',c1,c2⟩:=g2 2 (by simp)
   cases a1
   cases b1
   cases c1
   exact⟨d,a,b,c,rfl,(strs_at_ (l2 0 (by simp) (by simp)) a2).any,(subs_at_ (l2 1 (by simp) (by simp)) b2).any,(oprs_at_ (l2 2 (by simp) (by simp)) c2).any⟩
end
end Go.Proofs.YtfdkldmkbibknaaGreat.Den

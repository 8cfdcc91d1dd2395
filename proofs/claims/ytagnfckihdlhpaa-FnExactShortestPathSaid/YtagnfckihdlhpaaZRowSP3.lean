/-
  Texts that the claim rests on, merged: Ints, LasEq, TermSz, TermTo, TermEq, Graph.
-/
import Derived.Test.YtagnfckihdlhpaaChecked
import Derived.WalkSpells
import Derived.WalkLawsBesides
import Derived.Deep.OwnRows
import Derived.Deep.QuietTactic
import Derived.BigQuiet
import Derived.Deep.RegionHeld3
import Derived.Deep.DeepFit
import Derived.Test.YtagnfckihdlhpaaZRowSP1

namespace Go.Proofs.Ytagnfckihdlhpaa
open Go.RowKit
theorem ret_int {k:IntKind} {a b:Int} (h:a=b):Ending.returned (.int k a)= .returned (.int k b):=by rw[h]
def took (left n:Int):Int:=if left-n<0 then -1 else left-n
set_option maxHeartbeats 400000 in
theorem szIntS_any (xs:List Int) (left:Int) (w:World) (S:Nat->Prop) (v:Value) (h:At w S (ints xs) v) (h0: -1<=left) (h1:left<=1048576):
  Calls Try.prog 38 #[v,.int .i64 left] w fun e w'=>e= .returned (.int .i64 (took left xs.length))/\w=w':=by
 obtain⟨A,c,rfl,hn,hc⟩:=ints_slice h
 go_enter Try.func38,Try.ntmps38
 go_wp2
 all_goals go_ret
 ·exact⟨ret_int (by unfold took;rw[if_pos (by omega)]),rfl⟩
 ·exact⟨ret_int (by unfold took;rw[if_neg (by omega)]),rfl⟩
theorem Try.info3 :(Try.prog.info? 3).map (fun i=>(i.zero,i.size,i.bytes))=some (some (.int .i64 0),1,8):=by kernel_rfl
theorem take_eq_succ {α:Type} {xs ys:List α} {k:Nat} {x y:α} (hx:xs[k]? =some x) (hy:ys[k]? =some y) (h:xs.take k=ys.take k) (e:x=y):xs.take (k+1)=ys.take (k+1):=by
 obtain⟨h1,rfl⟩:=List.getElem?_eq_some_iff.1 hx
 obtain⟨h2,rfl⟩:=List.getElem?_eq_some_iff.1 hy
 rw[List.take_succ_eq_append_getElem h1,List.take_succ_eq_append_getElem h2,h,e]
set_option maxHeartbeats 400000 in
theorem eqIntS_any (xs ys:List Int) (w:World) (S T:Nat->Prop) (v u:Value) (h:At w S (ints xs) v) (g:At w T (ints ys) u):
  Calls Try.prog 32 #[v,u] w fun e w'=>e= .returned (.bool (decide (xs=ys)))/\Below w.heap.size w w':=by
 obtain⟨A,c,rfl,hn,hc⟩:=ints_slice h
 obtain⟨A',c',rfl,hn',hc'⟩:=ints_slice g
 by_cases hl:xs.length=ys.length
 ·have hl':((xs.length:Int) !=(ys.length:Int))=false:=by simp[hl]
  have HL:=Lib.hid hl
  clear hl
  go_enter Try.func32,Try.ntmps32
  go_wp2
  go_loopw [5] (fun i wr=>∃k:Nat,k<=xs.length/\i= .int .i64 k/\xs.take k=ys.take k/\Below w.heap.size w wr) (fun i _=>xs.length-(intOf i).toNat)
  case atStart=>exact⟨0,Nat.zero_le _,rfl,rfl,Below.refl _ _⟩
  case round=>
   obtain⟨k,hk,rfl,hd,hb⟩:=hrel
   have HD:=Lib.hid hd
   clear hd
   by_cases hlt:k<xs.length
   ·have hlt':k<ys.length:=by rw[<-HL.out];exact hlt
    obtain⟨b,off,x,rfl,_,hlb,hc1,HX,_⟩:=ints_get (h.below hb) hlt
    obtain⟨b',off',y,rfl,_,hlb',hc2,HY,_⟩:=ints_get (g.below hb) hlt'
    have hi1:(k:Int)<(xs.length:Int):=by omega
    have hi2:(k:Int)<(ys.length:Int):=by omega
    by_cases he:x=y
    ·subst he
     have he':(x !=x)=false:=by simp
     go_wp2
     go_quiet (fail)
     go_wp2
     go_roundw
     case rel=>exact⟨k+1,by omega,by go_num,take_eq_succ HX.out HY.out HD.out rfl,below_drewN hb _⟩
     case measure=>simp[intOf];omega
    ·have he':(x !=y)=true:=by simpa using he
     have HE:=Lib.hid he
     clear he
     go_wp2
     go_quiet (fail)
     go_wp2
     go_ret
     refine⟨?_,below_drewN hb _⟩
     have:¬xs=ys:=fun e=>HE.out (by have:=HX.out;have:=HY.out;simp_all)
     simp[this]
   ·go_wp2
    go_ret
    refine⟨?_,hb⟩
    have hx:=HD.out
    rw[List.take_of_length_le (by omega),List.take_of_length_le (by have:=HL.out;omega)]at hx
    simp[hx]
 ·have hl':((xs.length:Int) !=(ys.length:Int))=true:=by rw[bne_iff_ne];omega
  have HL:=Lib.hid hl
  clear hl
  go_enter Try.func32,Try.ntmps32
  go_wp2
  go_ret
  have:¬xs=ys:=fun e=>HL.out (by rw[e])
  exact⟨by simp[this],Below.refl _ _⟩
end Go.Proofs.Ytagnfckihdlhpaa

namespace Go.Proofs.Ytagnfckihdlhpaa
open Go.RowKit
theorem took_neg {left n:Int} (h:took left n<0):took left n= -1:=by
 unfold took at h ⊢
 split at h<;>simp_all<;>omega
theorem took_range {left n:Int} (h1:left<=1048576) (hn:0<=n): -1<=took left n/\took left n<=1048576:=by
 unfold took
 split<;>omega
end Go.Proofs.Ytagnfckihdlhpaa

namespace Go.Proofs.Ytagnfckihdlhpaa
open Go.RowKit
theorem took_took {left a b:Int} (h:0<=took left a):took (took left a) b=took left (a+b):=by
 have h1:¬left-a<0:=fun hn=>by unfold took at h;rw[if_pos hn]at h;omega
 have e:took left a=left-a:=by unfold took;rw[if_neg h1]
 rw[e]
 unfold took
 split
 ·rw[if_pos (by omega)]
 ·rw[if_neg (by omega)];omega
theorem took_more {left a b:Int} (hb:0<=b) (h:took left a<0):took left (a+b)= -1:=by
 unfold took at h ⊢
 split at h
 ·rw[if_pos (by omega)]
 ·omega
def SzT (t:Tm):Prop:=∀(left:Int) (w:World) (S:Nat->Prop) (v:Value),t.fits->At w S (terms t.args) v-> -1<=left->left<=1048576->
  Calls Try.prog 71 #[.agg #[.int .i64 t.op,.string t.name,.int .i64 t.sort,v],.int .i64 left] w fun e w'=>e= .returned (.int .i64 (took left t.total))/\Below w.heap.size w w'
set_option maxHeartbeats 1000000 in
theorem szTermS_of (ts:List Tm) (ih:∀x∈ts,SzT x) (left:Int) (w:World) (S:Nat->Prop) (v:Value) (h:At w S (terms ts) v) (h0: -1<=left) (h1:left<=1048576):
  Calls Try.prog 47 #[v,.int .i64 left] w fun e w'=>e= .returned (.int .i64 (took left (tmTotals ts)))/\Below w.heap.size w w':=by
 obtain⟨A,c,rfl,hn,hc⟩:=terms_slice h
 have IH:=Lib.hid ih
 clear ih
 by_cases hneg:left-ts.length<0
 ·have HT:Hid (took left (tmTotals ts)= -1):=by
   show took left (tmTotals ts)= -1
   unfold took tmTotals
   rw[if_pos (by omega)]
  go_enter Try.func47,Try.ntmps47
  go_wp2_with fail
  go_ret
  exact⟨ret_int HT.out.symm,Below.refl _ _⟩
 ·go_enter Try.func47,Try.ntmps47
  go_wp2_with fail
  go_loopw [1,5] (fun l i wr=>∃k:Nat,k<=ts.length/\i= .int .i64 k/\0<=left-ts.length-sumOf Tm.total ts k/\l= .int .i64 (left-ts.length-sumOf Tm.total ts k)/\Below w.heap.size w wr) (fun _ i _=>ts.length-(intOf i).toNat)
  case atStart=>exact⟨0,Nat.zero_le _,rfl,by rw[sumOf_zero];omega,by rw[sumOf_zero];simp,Below.refl _ _⟩
  case round=>
   obtain⟨k,hk,rfl,hge,rfl,hb⟩:=hrel
   by_cases hlt:k<ts.length
   ·obtain⟨b,off,t,u,rfl,_,hlb,hc1,hc2,hc3,hc4,hu,HX,hfit⟩:=terms_get (h.below hb) hlt
    have hmem:=List.mem_of_getElem? HX.out
    have HS:=Lib.hid (sumOf_succ (f:=Tm.total) HX.out)
    have hle:=sumOf_le Tm.total ts (k+1)
    have hz:=hb.size
    have HF:=Lib.hid hfit
    clear hfit
    by_cases hng:left-ts.length-sumOf Tm.total ts k-t.total<0
    ·have hng':took (left-ts.length-sumOf Tm.total ts k) t.total<0:=by unfold took;rw[if_pos hng];omega
     have HT:Hid (took left (tmTotals ts)= -1):=by
      show took left (tmTotals ts)= -1
      have:=HS.out
      unfold took tmTotals
      rw[if_pos (by omega)]
     go_wp2_with fail
     refine(IH.out t hmem _ _ S _ HF.out hu (by omega) (by omega)).mono ?_
     rintro e w1 ⟨rfl,hb1⟩
     go_wp2_with fail
     go_ret
     refine⟨ret_int HT.out.symm,?_⟩
     repeat (first|with_reducible exact Below.refl _ _|with_reducible refine Below.setCell ?_ (by first|omega|(simp<;>omega)) _|with_reducible refine Below.drew ?_|with_reducible refine below_drewN ?_ _|with_reducible refine Below.alloc ?_ (by first|omega|(simp<;>omega)) _|with_reducible refine Below.trans ?_ (Below.mono (by assumption) (by first|omega|(simp<;>omega))))
    ·have hng':0<=took (left-ts.length-sumOf Tm.total ts k) t.total:=by unfold took;rw[if_neg hng];omega
     have HT:Hid (took (left-ts.length-sumOf Tm.total ts k) t.total=left-ts.length-sumOf Tm.total ts (k+1)):=by
      show took (left-ts.length-sumOf Tm.total ts k) t.total=_
      have:=HS.out
      unfold took
      rw[if_neg hng]
      omega
     go_wp2_with fail
     refine(IH.out t hmem _ _ S _ HF.out hu (by omega) (by omega)).mono ?_
     rintro e w1 ⟨rfl,hb1⟩
     go_wp2_with fail
     go_roundw
     case rel=>exact⟨k+1,by omega,by go_num,by have:=HT.out;omega,by rw[HT.out],by repeat (first|with_reducible exact Below.refl _ _|with_reducible refine Below.setCell ?_ (by first|omega|(simp<;>omega)) _|with_reducible refine Below.drew ?_|with_reducible refine below_drewN ?_ _|with_reducible refine Below.alloc ?_ (by first|omega|(simp<;>omega)) _|with_reducible refine Below.trans ?_ (Below.mono (by assumption) (by first|omega|(simp<;>omega))))⟩
     case measure=>simp[intOf];omega
   ·have hk':k=ts.length:=by omega
    have HT:Hid (took left (tmTotals ts)=left-ts.length-sumOf Tm.total ts k):=by
     show took left (tmTotals ts)=left-ts.length-sumOf Tm.total ts k
     rw[hk']at hge ⊢
     rw[sumOf_all]at hge ⊢
     unfold took tmTotals
     rw[if_neg (by omega)]
     omega
    clear hk'
    go_wp2_with fail
    go_ret
    exact⟨ret_int HT.out.symm,hb⟩
set_option maxHeartbeats 400000 in
theorem szTerm_any (t:Tm):SzT t:=by
 induction t using Tm.induct with
 | h o n s args ih =>
  intro left w S v hfit h h0 h1
  have IH:=Lib.hid ih
  clear ih
  obtain⟨A,c,rfl,hn,hc⟩:=terms_slice h
  have hns:n.size<=9223372036854775807:=hfit.2.2.1
  clear hfit
  have HT:Hid (Tm.total ⟨o,n,s,args⟩=n.size+tmTotals args):=Tm.total_eq _
  by_cases hneg:left-n.size<0
  ·have HR:Hid (took left (Tm.total ⟨o,n,s,args⟩)= -1):=by
    show took left (Tm.total ⟨o,n,s,args⟩)= -1
    have:=HT.out
    unfold took
    rw[if_pos (by omega)]
   go_enter Try.func71,Try.ntmps71
   go_wp2_with fail
   go_ret
   exact⟨ret_int HR.out.symm,by repeat (first|with_reducible exact Below.refl _ _|with_reducible refine Below.setCell ?_ (by first|omega|(simp<;>omega)) _|with_reducible refine Below.drew ?_|with_reducible refine below_drewN ?_ _|with_reducible refine Below.alloc ?_ (by first|omega|(simp<;>omega)) _|with_reducible refine Below.trans ?_ (Below.mono (by assumption) (by first|omega|(simp<;>omega))))⟩
  ·have HR:Hid (took left (Tm.total ⟨o,n,s,args⟩)=took (left-n.size) (tmTotals args)):=by
    show took left (Tm.total ⟨o,n,s,args⟩)=took (left-n.size) (tmTotals args)
    have:=HT.out
    unfold took
    split
    ·rw[if_pos (by omega)]
    ·rw[if_neg (by omega)];omega
   go_enter Try.func71,Try.ntmps71
   go_wp2_with fail
   refine(szTermS_of args IH.out _ _ S _ (h.alloc _) (by omega) (by omega)).mono ?_
   rintro e w1 ⟨rfl,hb1⟩
   go_wp2_with fail
   all_goals go_ret
   ·exact⟨ret_int (by rw[HR.out];exact(took_neg ‹_›).symm),by repeat (first|with_reducible exact Below.refl _ _|with_reducible refine Below.setCell ?_ (by first|omega|(simp<;>omega)) _|with_reducible refine Below.drew ?_|with_reducible refine below_drewN ?_ _|with_reducible refine Below.alloc ?_ (by first|omega|(simp<;>omega)) _|with_reducible refine Below.trans ?_ (Below.mono (by assumption) (by first|omega|(simp<;>omega))))⟩
   ·exact⟨ret_int (by rw[HR.out]),by repeat (first|with_reducible exact Below.refl _ _|with_reducible refine Below.setCell ?_ (by first|omega|(simp<;>omega)) _|with_reducible refine Below.drew ?_|with_reducible refine below_drewN ?_ _|with_reducible refine Below.alloc ?_ (by first|omega|(simp<;>omega)) _|with_reducible refine Below.trans ?_ (Below.mono (by assumption) (by first|omega|(simp<;>omega))))⟩
theorem szTermS_any (ts:List Tm) (left:Int) (w:World) (S:Nat->Prop) (v:Value) (h:At w S (terms ts) v) (h0: -1<=left) (h1:left<=1048576):
  Calls Try.prog 47 #[v,.int .i64 left] w fun e w'=>e= .returned (.int .i64 (took left (tmTotals ts)))/\Below w.heap.size w w':=
 szTermS_of ts (fun x _=>szTerm_any x) left w S v h h0 h1
set_option maxHeartbeats 1000000 in
theorem szIntSS_any (xss:List (List Int)) (left:Int) (w:World) (S:Nat->Prop) (v:Value) (h:At w S (rows xss) v) (h0: -1<=left) (h1:left<=1048576):
  Calls Try.prog 48 #[v,.int .i64 left] w fun e w'=>e= .returned (.int .i64 (took left (rowTotals xss)))/\Below w.heap.size w w':=by
 obtain⟨A,c,rfl,hn,hc⟩:=rows_slice h
 by_cases hneg:left-xss.length<0
 ·have HT:Hid (took left (rowTotals xss)= -1):=by
   show took left (rowTotals xss)= -1
   unfold took rowTotals
   rw[if_pos (by omega)]
  go_enter Try.func48,Try.ntmps48
  go_wp2_with fail
  go_ret
  exact⟨ret_int HT.out.symm,Below.refl _ _⟩
 ·go_enter Try.func48,Try.ntmps48
  go_wp2_with fail
  go_loopw [1,5] (fun l i wr=>∃k:Nat,k<=xss.length/\i= .int .i64 k/\0<=left-xss.length-sumOf List.length xss k/\l= .int .i64 (left-xss.length-sumOf List.length xss k)/\Below w.heap.size w wr) (fun _ i _=>xss.length-(intOf i).toNat)
  case atStart=>exact⟨0,Nat.zero_le _,rfl,by rw[sumOf_zero];omega,by rw[sumOf_zero];simp,Below.refl _ _⟩
  case round=>
   obtain⟨k,hk,rfl,hge,rfl,hb⟩:=hrel
   by_cases hlt:k<xss.length
   ·obtain⟨b,off,xs,u,rfl,_,hlb,hc1,hu,HX⟩:=rows_get (h.below hb) hlt
    obtain⟨Au,cu,rfl,hnu,hcu⟩:=ints_slice hu
    have HS:=Lib.hid (sumOf_succ (f:=List.length) HX.out)
    have hle:=sumOf_le List.length xss (k+1)
    have hz:=hb.size
    by_cases hng:left-xss.length-sumOf List.length xss k-xs.length<0
    ·have hng':took (left-xss.length-sumOf List.length xss k) xs.length<0:=by unfold took;rw[if_pos hng];omega
     have HT:Hid (took left (rowTotals xss)= -1):=by
      show took left (rowTotals xss)= -1
      have:=HS.out
      unfold took rowTotals
      rw[if_pos (by omega)]
     go_wp2_with fail
     refine(szIntS_any xs _ _ S _ hu (by omega) (by omega)).mono ?_
     rintro e w1 ⟨rfl,rfl⟩
     go_wp2_with fail
     go_ret
     refine⟨ret_int HT.out.symm,hb⟩
    ·have hng':0<=took (left-xss.length-sumOf List.length xss k) xs.length:=by unfold took;rw[if_neg hng];omega
     have HT:Hid (took (left-xss.length-sumOf List.length xss k) xs.length=left-xss.length-sumOf List.length xss (k+1)):=by
      show took (left-xss.length-sumOf List.length xss k) xs.length=_
      have:=HS.out
      unfold took
      rw[if_neg hng]
      omega
     go_wp2_with fail
     refine(szIntS_any xs _ _ S _ hu (by omega) (by omega)).mono ?_
     rintro e w1 ⟨rfl,rfl⟩
     go_wp2_with fail
     go_roundw
     case rel=>exact⟨k+1,by omega,by go_num,by have:=HT.out;omega,by rw[HT.out],hb⟩
     case measure=>simp[intOf];omega
   ·have hk':k=xss.length:=by omega
    have HT:Hid (took left (rowTotals xss)=left-xss.length-sumOf List.length xss k):=by
     show took left (rowTotals xss)=left-xss.length-sumOf List.length xss k
     rw[hk']at hge ⊢
     rw[sumOf_all]at hge ⊢
     unfold took rowTotals
     rw[if_neg (by omega)]
     omega
    clear hk'
    go_wp2_with fail
    go_ret
    exact⟨ret_int HT.out.symm,hb⟩
end Go.Proofs.Ytagnfckihdlhpaa

namespace Go.Proofs.Ytagnfckihdlhpaa
open Go.RowKit
theorem Try.infoTerm :(Try.prog.info? 100).map (fun i=>(i.zero,i.size,i.bytes))=some (some (.agg #[.int .i64 0,.string ⟨#[]⟩,.int .i64 0,.slice none 0 0]),4,56):=by kernel_rfl
theorem Try.infoInts :(Try.prog.info? 22).map (fun i=>(i.zero,i.size,i.bytes))=some (some (.slice none 0 0),1,24):=by kernel_rfl
def ToRowT (w:World) (B:Nat) (ts:List Tm) (k:Nat) (cs:Array Value):Prop:=
 cs.size=ts.length*4/\∀(j:Nat) (t:Tm),j<k->ts[j]? =some t->∃v,cs[j*4]? =some (.int .i64 t.op)/\cs[j*4+1]? =some (.string t.name)/\cs[j*4+2]? =some (.int .i64 t.sort)/\cs[j*4+3]? =some v/\At w (From B) (terms t.args) v
theorem ToRowT.step {w w1:World} {B:Nat} {ts:List Tm} {k:Nat} {cs:Array Value} {t:Tm} {u:Value} (h:ToRowT w B ts k cs) (hb:Below w.heap.size w w1) (ht:ts[k]? =some t) (ha:At w1 (From B) (terms t.args) u) {p0 p1 p2 p3:Addr} {u0 u1 u2 u3:Value}
  (q0:p0.block<B) (q1:p1.block<B) (q2:p2.block<B) (q3:p3.block<B):
  ToRowT ((((w1.setCell p0 u0).setCell p1 u1).setCell p2 u2).setCell p3 u3) B ts (k+1) ((((cs.setIfInBounds (k*4) (.int .i64 t.op)).setIfInBounds (k*4+1) (.string t.name)).setIfInBounds (k*4+2) (.int .i64 t.sort)).setIfInBounds (k*4+3) u):=by
 obtain⟨h1,h2⟩:=h
 have hk:k<ts.length:=(List.getElem?_eq_some_iff.1 ht).1
 have keep:∀{d:D} {v:Value},At w1 (From B) d v->At ((((w1.setCell p0 u0).setCell p1 u1).setCell p2 u2).setCell p3 u3) (From B) d v:=fun h=>
  (((h.setCell (by simp[From];omega) _).setCell (by simp[From];omega) _).setCell (by simp[From];omega) _).setCell (by simp[From];omega) _
 refine⟨by simpa using h1,fun j g hj hg=> ?_⟩
 by_cases e:j=k
 ·subst e
  rw[ht]at hg
  obtain rfl:t=g:=by injection hg
  refine⟨u,?_,?_,?_,?_,keep ha⟩<;>simp[Array.getElem?_setIfInBounds,h1]<;>omega
 ·obtain⟨v,e0,e1,e2,e3,hat⟩:=h2 j g (by omega) hg
  refine⟨v,?_,?_,?_,?_,keep (hat.below hb)⟩
  ·rw[Array.getElem?_setIfInBounds_ne (by omega),Array.getElem?_setIfInBounds_ne (by omega),Array.getElem?_setIfInBounds_ne (by omega),Array.getElem?_setIfInBounds_ne (by omega)];exact e0
  ·rw[Array.getElem?_setIfInBounds_ne (by omega),Array.getElem?_setIfInBounds_ne (by omega),Array.getElem?_setIfInBounds_ne (by omega),Array.getElem?_setIfInBounds_ne (by omega)];exact e1
  ·rw[Array.getElem?_setIfInBounds_ne (by omega),Array.getElem?_setIfInBounds_ne (by omega),Array.getElem?_setIfInBounds_ne (by omega),Array.getElem?_setIfInBounds_ne (by omega)];exact e2
  ·rw[Array.getElem?_setIfInBounds_ne (by omega),Array.getElem?_setIfInBounds_ne (by omega),Array.getElem?_setIfInBounds_ne (by omega),Array.getElem?_setIfInBounds_ne (by omega)];exact e3
theorem terms_fits {w:World} {S:Nat->Prop} {ts:List Tm} {v:Value} (h:At w S (terms ts) v) {k:Nat} {t:Tm} (hk:ts[k]? =some t):t.fits:=by
 obtain⟨A,c,rfl,_⟩:=terms_slice h
 obtain⟨_,_,g,_,_,_,_,_,_,_,_,_,hg,hf⟩:=terms_get h (List.getElem?_eq_some_iff.1 hk).1
 have hg':=hg.out
 rw[hk]at hg'
 obtain rfl:t=g:=by injection hg'
 exact hf
def ToRowI (w:World) (B:Nat) (xss:List (List Int)) (k:Nat) (cs:Array Value):Prop:=
 cs.size=xss.length/\∀(j:Nat) (xs:List Int),j<k->xss[j]? =some xs->∃v,cs[j]? =some v/\At w (From B) (ints xs) v
theorem ToRowI.step {w w1:World} {B:Nat} {xss:List (List Int)} {k:Nat} {cs:Array Value} {xs:List Int} {u:Value} (h:ToRowI w B xss k cs) (hb:Below w.heap.size w w1) (ht:xss[k]? =some xs) (ha:At w1 (From B) (ints xs) u) {p0:Addr} {u0:Value}
  (q0:p0.block<B):ToRowI (w1.setCell p0 u0) B xss (k+1) (cs.setIfInBounds k u):=by
 obtain⟨h1,h2⟩:=h
 have hk:k<xss.length:=(List.getElem?_eq_some_iff.1 ht).1
 refine⟨by simpa using h1,fun j g hj hg=> ?_⟩
 by_cases e:j=k
 ·subst e
  rw[ht]at hg
  obtain rfl:xs=g:=by injection hg
  exact⟨u,by simp[h1,hk],ha.setCell (by simp[From];omega) _⟩
 ·obtain⟨v,e0,hat⟩:=h2 j g (by omega) hg
  exact⟨v,by rw[Array.getElem?_setIfInBounds_ne (by omega)];exact e0,(hat.below hb).setCell (by simp[From];omega) _⟩
end Go.Proofs.Ytagnfckihdlhpaa

namespace Go.Proofs.Ytagnfckihdlhpaa
open Go.RowKit
def EqT (t:Tm):Prop:=∀(w:World) (v u:Value),At w Any (terms t.args) v->At w Any (terms t.args) u->
  Calls Try.prog 73 #[.agg #[.int .i64 t.op,.string t.name,.int .i64 t.sort,v],.agg #[.int .i64 t.op,.string t.name,.int .i64 t.sort,u]] w fun e w'=>e= .returned (.bool true)/\Below w.heap.size w w'
set_option maxHeartbeats 1000000 in
theorem eqTermS_of (ts:List Tm) (ih:∀x∈ts,EqT x) (w:World) (v u:Value) (h:At w Any (terms ts) v) (g:At w Any (terms ts) u):
  Calls Try.prog 51 #[v,u] w fun e w'=>e= .returned (.bool true)/\Below w.heap.size w w':=by
 obtain⟨A,c,rfl,hn,hc⟩:=terms_slice h
 obtain⟨A',c',rfl,hn',hc'⟩:=terms_slice g
 have IH:=Lib.hid ih
 clear ih
 have hl':((ts.length:Int) !=(ts.length:Int))=false:=by simp
 go_enter Try.func51,Try.ntmps51
 go_wp2_with fail
 go_loopw [5] (fun i wr=>∃k:Nat,k<=ts.length/\i= .int .i64 k/\Below w.heap.size w wr) (fun i _=>ts.length-(intOf i).toNat)
 case atStart=>exact⟨0,Nat.zero_le _,rfl,Below.refl _ _⟩
 case round=>
  obtain⟨k,hk,rfl,hb⟩:=hrel
  by_cases hlt:k<ts.length
  ·obtain⟨b,off,t,x,rfl,_,hlb,c1,c2,c3,c4,hx,HX,_⟩:=terms_get (h.below hb) hlt
   obtain⟨b',off',t',x',rfl,_,hlb',c1',c2',c3',c4',hx',HX',_⟩:=terms_get (g.below hb) hlt
   have hff:t'=t:=by have e1:=HX.out;have e2:=HX'.out;rw[e1]at e2;injection e2 with e2;exact e2.symm
   subst hff
   have hmem:=List.mem_of_getElem? HX.out
   have hi1:(k:Int)<(ts.length:Int):=by omega
   have hz:=hb.size
   clear HX HX'
   go_wp2_with fail
   go_region_held3 (fun w'=>w'.cell? ⟨b,off+k*4,none⟩=some (.int .i64 t'.op)/\w'.cell? ⟨b,off+k*4+1,none⟩=some (.string t'.name)/\w'.cell? ⟨b,off+k*4+2,none⟩=some (.int .i64 t'.sort)/\w'.cell? ⟨b,off+k*4+3,none⟩=some x/\
     w'.cell? ⟨b',off'+k*4,none⟩=some (.int .i64 t'.op)/\w'.cell? ⟨b',off'+k*4+1,none⟩=some (.string t'.name)/\w'.cell? ⟨b',off'+k*4+2,none⟩=some (.int .i64 t'.sort)/\w'.cell? ⟨b',off'+k*4+3,none⟩=some x') (go_keep)
    (first|(go_at_call 73;refine(IH.out t' hmem _ _ _ ?_ ?_).mono ?_;(exact hx.drew);(exact hx'.drew);rintro e w1 ⟨rfl,hb1⟩;have q1:=(hb1.cell (p:=⟨b,off+k*4,none⟩) hlb).trans c1;have q2:=(hb1.cell (p:=⟨b,off+k*4+1,none⟩) hlb).trans c2;have q3:=(hb1.cell (p:=⟨b,off+k*4+2,none⟩) hlb).trans c3;have q3':=(hb1.cell (p:=⟨b,off+k*4+3,none⟩) hlb).trans c4;have q4:=(hb1.cell (p:=⟨b',off'+k*4,none⟩) hlb').trans c1';have q5:=(hb1.cell (p:=⟨b',off'+k*4+1,none⟩) hlb').trans c2';have q6:=(hb1.cell (p:=⟨b',off'+k*4+2,none⟩) hlb').trans c3';have q7:=(hb1.cell (p:=⟨b',off'+k*4+3,none⟩) hlb').trans c4'))
   go_wp2_with fail
   go_roundw
   case rel=>exact⟨k+1,by omega,by go_num,by repeat (first|with_reducible exact Below.refl _ _|with_reducible refine Below.setCell ?_ (by first|omega|(simp<;>omega)) _|with_reducible refine Below.drew ?_|with_reducible refine below_drewN ?_ _|with_reducible refine Below.alloc ?_ (by first|omega|(simp<;>omega)) _|with_reducible refine Below.trans ?_ (Below.mono (by assumption) (by first|omega|(simp<;>omega))))⟩
   case measure=>simp[intOf];omega
  ·go_wp2_with fail
   go_ret
   exact⟨rfl,hb⟩
set_option maxHeartbeats 400000 in
theorem eqTerm_any (t:Tm):EqT t:=by
 induction t using Tm.induct with
 | h o n s args ih =>
  intro w v u h g
  have IH:=Lib.hid ih
  clear ih
  obtain⟨A,c,rfl,hn,hc⟩:=terms_slice h
  obtain⟨A',c',rfl,hn',hc'⟩:=terms_slice g
  have e1:(o !=o)=false:=by simp
  have e2:(s !=s)=false:=by simp
  have e4:(n.toList !=n.toList)=false:=by simp
  go_enter Try.func73,Try.ntmps73
  go_wp2_with fail
  refine(eqTermS_of args IH.out _ _ _ ((h.alloc _).alloc _) ((g.alloc _).alloc _)).mono ?_
  rintro e w1 ⟨rfl,hb1⟩
  go_wp2_with fail
  go_ret
  exact⟨rfl,by repeat (first|with_reducible exact Below.refl _ _|with_reducible refine Below.setCell ?_ (by first|omega|(simp<;>omega)) _|with_reducible refine Below.drew ?_|with_reducible refine below_drewN ?_ _|with_reducible refine Below.alloc ?_ (by first|omega|(simp<;>omega)) _|with_reducible refine Below.trans ?_ (Below.mono (by assumption) (by first|omega|(simp<;>omega))))⟩
theorem eqTermS_any (ts:List Tm) (w:World) (v u:Value) (h:At w Any (terms ts) v) (g:At w Any (terms ts) u):
  Calls Try.prog 51 #[v,u] w fun e w'=>e= .returned (.bool true)/\Below w.heap.size w w':=eqTermS_of ts (fun x _=>eqTerm_any x) w v u h g
set_option maxHeartbeats 1000000 in
theorem eqIntSS_any (xss:List (List Int)) (w:World) (v u:Value) (h:At w Any (rows xss) v) (g:At w Any (rows xss) u):
  Calls Try.prog 52 #[v,u] w fun e w'=>e= .returned (.bool true)/\Below w.heap.size w w':=by
 obtain⟨A,c,rfl,hn,hc⟩:=rows_slice h
 obtain⟨A',c',rfl,hn',hc'⟩:=rows_slice g
 have hl':((xss.length:Int) !=(xss.length:Int))=false:=by simp
 go_enter Try.func52,Try.ntmps52
 go_wp2_with fail
 go_loopw [5] (fun i wr=>∃k:Nat,k<=xss.length/\i= .int .i64 k/\Below w.heap.size w wr) (fun i _=>xss.length-(intOf i).toNat)
 case atStart=>exact⟨0,Nat.zero_le _,rfl,Below.refl _ _⟩
 case round=>
  obtain⟨k,hk,rfl,hb⟩:=hrel
  by_cases hlt:k<xss.length
  ·obtain⟨b,off,xs,x,rfl,_,hlb,c1,hx,HX⟩:=rows_get (h.below hb) hlt
   obtain⟨b',off',xs',x',rfl,_,hlb',c1',hx',HX'⟩:=rows_get (g.below hb) hlt
   have hff:xs'=xs:=by have e1:=HX.out;have e2:=HX'.out;rw[e1]at e2;injection e2 with e2;exact e2.symm
   subst hff
   obtain⟨Au,cu,rfl,hnu,hcu⟩:=ints_slice hx
   obtain⟨Au',cu',rfl,hnu',hcu'⟩:=ints_slice hx'
   have hi1:(k:Int)<(xss.length:Int):=by omega
   have hz:=hb.size
   clear HX HX'
   go_wp2_with fail
   go_region_held3 (fun w'=>w'.cell? ⟨b,off+k,none⟩=some (.slice Au xs'.length cu)/\w'.cell? ⟨b',off'+k,none⟩=some (.slice Au' xs'.length cu')) (go_keep)
    (first|(go_at_call 32;refine(eqIntS_any xs' xs' _ Any Any _ _ ?_ ?_).mono ?_;(exact hx.drew);(exact hx'.drew);rintro e w1 ⟨rfl,hb1⟩;have q1:=(hb1.cell (p:=⟨b,off+k,none⟩) hlb).trans c1;have q4:=(hb1.cell (p:=⟨b',off'+k,none⟩) hlb').trans c1'))
   go_wp2_with fail
   go_roundw
   case rel=>exact⟨k+1,by omega,by go_num,by repeat (first|with_reducible exact Below.refl _ _|with_reducible refine Below.setCell ?_ (by first|omega|(simp<;>omega)) _|with_reducible refine Below.drew ?_|with_reducible refine below_drewN ?_ _|with_reducible refine Below.alloc ?_ (by first|omega|(simp<;>omega)) _|with_reducible refine Below.trans ?_ (Below.mono (by assumption) (by first|omega|(simp<;>omega))))⟩
   case measure=>simp[intOf];omega
  ·go_wp2_with fail
   go_ret
   exact⟨rfl,hb⟩
end Go.Proofs.Ytagnfckihdlhpaa

namespace Go.Proofs.Ytagnfckihdlhpaa
open Go.RowKit
structure Gr where
 states:List Tm
 edges:List (List Int)
 whole:Bool
def Gr.total (g:Gr):Nat:=tmTotals g.states+rowTotals g.edges
set_option maxHeartbeats 400000 in
theorem szGraph_any (g:Gr) (left:Int) (w:World) (v u:Value) (h:At w Any (terms g.states) v) (h':At w Any (rows g.edges) u) (h0: -1<=left) (h1:left<=1048576):
  Calls Try.prog 20 #[.agg #[v,u,.bool g.whole],.int .i64 left] w fun e w'=>e= .returned (.int .i64 (took left g.total))/\Below w.heap.size w w':=by
 obtain⟨A,c,rfl,hn,hc⟩:=terms_slice h
 obtain⟨A',c',rfl,hn',hc'⟩:=rows_slice h'
 have hB0:=Blk.new w 45 #[.slice A g.states.length c,.slice A' g.edges.length c',.bool g.whole]
 by_cases hneg:took left (tmTotals g.states)<0
 ·have HR:Hid (took left g.total= -1):=by
   show took left g.total= -1
   unfold Gr.total
   rw[Int.natCast_add]
   exact took_more (by omega) hneg
  go_enter Try.func20,Try.ntmps20
  go_wp2_with fail
  refine(szTermS_any _ _ _ Any _ (h.alloc _) (by omega) (by omega)).mono ?_
  rintro e w1 ⟨rfl,hb1⟩
  go_wp2_with fail
  go_ret
  exact⟨ret_int HR.out.symm,by repeat (first|with_reducible exact Below.refl _ _|with_reducible refine Below.setCell ?_ (by first|omega|(simp<;>omega)) _|with_reducible refine Below.drew ?_|with_reducible refine below_drewN ?_ _|with_reducible refine Below.alloc ?_ (by first|omega|(simp<;>omega)) _|with_reducible refine Below.trans ?_ (Below.mono (by assumption) (by first|omega|(simp<;>omega))))⟩
 ·have hr:=took_range (left:=left) (n:=tmTotals g.states) h1 (by omega)
  have HR:Hid (took left g.total=took (took left (tmTotals g.states)) (rowTotals g.edges)):=by
   show took left g.total=_
   unfold Gr.total
   rw[Int.natCast_add]
   exact(took_took (by omega)).symm
  go_enter Try.func20,Try.ntmps20
  go_wp2_with fail
  refine(szTermS_any _ _ _ Any _ (h.alloc _) (by omega) (by omega)).mono ?_
  rintro e w1 ⟨rfl,hb1⟩
  have h2:=(h'.alloc _).below hb1
  have hB1:=hB0.next hb1
  obtain⟨_,_,_⟩:=hB1.c3
  go_wp2_with fail
  refine(szIntSS_any _ _ _ Any _ h2 (by omega) (by omega)).mono ?_
  rintro e w2 ⟨rfl,hb2⟩
  have z:=hb1.size
  simp at z
  go_wp2_with fail
  all_goals go_ret
  ·exact⟨ret_int (by rw[HR.out];exact(took_neg ‹_›).symm),by repeat (first|with_reducible exact Below.refl _ _|with_reducible refine Below.setCell ?_ (by first|omega|(simp<;>omega)) _|with_reducible refine Below.drew ?_|with_reducible refine below_drewN ?_ _|with_reducible refine Below.alloc ?_ (by first|omega|(simp<;>omega)) _|with_reducible refine Below.trans ?_ (Below.mono (by assumption) (by first|omega|(simp<;>omega))))⟩
  ·exact⟨ret_int HR.out.symm,by repeat (first|with_reducible exact Below.refl _ _|with_reducible refine Below.setCell ?_ (by first|omega|(simp<;>omega)) _|with_reducible refine Below.drew ?_|with_reducible refine below_drewN ?_ _|with_reducible refine Below.alloc ?_ (by first|omega|(simp<;>omega)) _|with_reducible refine Below.trans ?_ (Below.mono (by assumption) (by first|omega|(simp<;>omega))))⟩
set_option maxHeartbeats 400000 in
theorem eqGraph_any (g:Gr) (w:World) (v u v' u':Value) (h:At w Any (terms g.states) v) (k:At w Any (rows g.edges) u) (h':At w Any (terms g.states) v') (k':At w Any (rows g.edges) u'):
  Calls Try.prog 24 #[.agg #[v,u,.bool g.whole],.agg #[v',u',.bool g.whole]] w fun e w'=>e= .returned (.bool true)/\Below w.heap.size w w':=by
 obtain⟨A1,c1,rfl,_⟩:=terms_slice h
 obtain⟨A2,c2,rfl,_⟩:=rows_slice k
 obtain⟨A3,c3,rfl,_⟩:=terms_slice h'
 obtain⟨A4,c4,rfl,_⟩:=rows_slice k'
 have hB0:=(Blk.new w 50 #[.slice A1 g.states.length c1,.slice A2 g.edges.length c2,.bool g.whole]).alloc (.cells #[.slice A3 g.states.length c3,.slice A4 g.edges.length c4,.bool g.whole] 50)
 have hC0:=Blk.new (w.alloc (.cells #[.slice A1 g.states.length c1,.slice A2 g.edges.length c2,.bool g.whole] 50)) 50 #[.slice A3 g.states.length c3,.slice A4 g.edges.length c4,.bool g.whole]
 rw[World.size_alloc]at hC0
 have e1:(g.whole !=g.whole)=false:=by simp
 go_enter Try.func24,Try.ntmps24
 go_wp2_with fail
 refine(eqTermS_any _ _ _ _ ((h.alloc _).alloc _) ((h'.alloc _).alloc _)).mono ?_
 rintro e w1 ⟨rfl,hb1⟩
 have z:=hb1.size
 simp at z
 have hB1:=hB0.next hb1
 have hC1:=hC0.next hb1
 obtain⟨_,_,_⟩:=hB1.c3
 obtain⟨_,_,_⟩:=hC1.c3
 have k1:=((k.alloc _).alloc _).below hb1
 have k2:=((k'.alloc _).alloc _).below hb1
 go_wp2_with fail
 refine(eqIntSS_any _ _ _ _ k1 k2).mono ?_
 rintro e w2 ⟨rfl,hb2⟩
 have hB2:=hB1.next hb2
 have hC2:=hC1.next hb2
 obtain⟨_,_,_⟩:=hB2.c3
 obtain⟨_,_,_⟩:=hC2.c3
 go_wp2_with fail
 go_ret
 exact⟨rfl,by repeat (first|with_reducible exact Below.refl _ _|with_reducible refine Below.setCell ?_ (by first|omega|(simp<;>omega)) _|with_reducible refine Below.drew ?_|with_reducible refine below_drewN ?_ _|with_reducible refine Below.alloc ?_ (by first|omega|(simp<;>omega)) _|with_reducible refine Below.trans ?_ (Below.mono (by assumption) (by first|omega|(simp<;>omega))))⟩
end Go.Proofs.Ytagnfckihdlhpaa

/-
  Texts that the claim rests on, merged: SgTo, SgMk.
-/
import Derived.Test.YtfdkldmkbibknaaGreatChecked
import Derived.WalkSpells
import Derived.WalkLawsBesides
import Derived.Deep.OwnRows
import Derived.Deep.QuietTactic
import Derived.BigQuiet
import Derived.Test.YtfdkldmkbibknaaGreatZRowPT26
import Derived.Test.YtfdkldmkbibknaaGreatZRowPT27

namespace Go.Proofs.YtfdkldmkbibknaaGreat
open Go.RowKit
open Den (Sb So Dc Opr Sg)
theorem Tryz.info3 :(Tryz.prog.info? 3).map (λi=>(i.zero,i.size,i.bytes))=some (some (.int .i64 0),1,8):=by kernel_rfl
theorem Tryz.infoStr :(Tryz.prog.info? 9).map (λi=>(i.zero,i.size,i.bytes))=some (some (.string ⟨#[]⟩),1,16):=by kernel_rfl
theorem Tryz.infoSub :(Tryz.prog.info? 134).map (λi=>(i.zero,i.size,i.bytes))=some (some (.agg #[.int .i64 0,.int .i64 0]),2,16):=by kernel_rfl
theorem Tryz.infoDec :(Tryz.prog.info? 138).map (λi=>(i.zero,i.size,i.bytes))=some (some (.agg #[.slice none 0 0,.int .i64 0]),2,32):=by kernel_rfl
theorem Tryz.infoOpr :(Tryz.prog.info? 89).map (λi=>(i.zero,i.size,i.bytes))=some (some (.agg #[.string ⟨#[]⟩,.slice none 0 0,.bool false,.bool false,.int .i64 0]),5,56):=by kernel_rfl
set_option maxHeartbeats 400000 in
theorem toIntS_so (xs:List Int) (w:World) (S:Nat->Prop) (v:Value) (h:At w S (ints xs) v) (h1:xs.length<=1048576):
  Calls Tryz.prog 147 #[v] w λe w'=>∃v',e= .returned v'/\At w' (From w.heap.size) (ints xs) v'/\Below w.heap.size w w'/\Unf w w':=by
 obtain⟨A,c,rfl,hn,hc⟩:=ints_slice h
 have hmk:=run_make_row' (P:=Tryz.prog) 101 3 (.int .i64 0) 8 Tryz.underlying101 Tryz.info3 rfl .i64 .i64 xs.length (by omega) (by omega)
 go_enter Tryz.func147,Tryz.ntmps147
 go_wp2
 go_loopw [4] (λi wr=>∃(k:Nat) (cs:Array Value),k<=xs.length/\i= .int .i64 k/\Blk wr w.heap.size 3 cs/\cs.size=xs.length/\(∀j,j<k->cs[j]? =some (.int .i64 (xs.getD j 0)))/\Below w.heap.size w wr/\Unf w wr)
  (λi _=>xs.length-(intOf i).toNat)
 case atStart=>exact⟨0,_,Nat.zero_le _,rfl,Blk.new _ _ _,by simp[madeCells],λj hj=>by omega,(Below.refl _ _).alloc (Nat.le_refl _) _,by repeat with_reducible (first|exact Unf.refl _|assumption|refine Unf.setCell ?_ _ _|refine Unf.drew ?_|refine Unf.drewN ?_ _|refine Unf.alloc ?_ _ _|refine Unf.trans ?_ (by assumption))⟩
 case round=>
  obtain⟨k,cs,hk,rfl,hblk,hsz,hdone,hb,un⟩:=hrel
  by_cases hlt:k<xs.length
  ·obtain⟨b,off,rfl,_,hlb,hcell⟩:=ints_at h (by omega)
   obtain⟨hc1,hwf⟩:=hcell k hlt
   have hc2:wr.cell? ⟨b,off+k,none⟩=some (.int .i64 (xs.getD k 0)):=(hb.cell (p:=⟨b,off+k,none⟩) hlb).trans hc1
   have hc3:∃u,wr.cell? ⟨w.heap.size,k,none⟩=some u:=⟨cs[k]'(by omega),by rw[hblk.cell];simp[hsz,hlt]⟩
   obtain⟨u,hc3⟩:=hc3
   have hfz:=hblk.frozen k
   have HS:=Lib.hid hsz
   have HD:=Lib.hid hdone
   have HB:=Lib.hid hblk
   clear hsz hdone hcell hc1 hblk hmk
   go_wp2
   go_roundw
   case rel=>
    refine⟨k+1,_,by omega,by go_num,HB.out.set_ k _,by simpa using HS.out,λj hj=> ?_,hb.setCell (by simp) _,by repeat with_reducible (first|exact Unf.refl _|assumption|refine Unf.setCell ?_ _ _|refine Unf.drew ?_|refine Unf.drewN ?_ _|refine Unf.alloc ?_ _ _|refine Unf.trans ?_ (by assumption))⟩
    by_cases hjk:j=k
    ·subst hjk;simp[HS.out,hlt]
    ·rw[Array.getElem?_setIfInBounds_ne (by omega)];exact HD.out j (by omega)
   case measure=>simp[intOf];omega
  ·have HS:=Lib.hid hsz
   have HD:=Lib.hid hdone
   have HB:=Lib.hid hblk
   clear hsz hdone hblk hmk
   go_wp2
   go_ret
   refine⟨_,rfl,ints_mk (Nat.le_refl _) (by omega) λ_=>⟨w.heap.size,0,rfl,Nat.le_refl _,λj hj=>⟨?_,?_⟩⟩,hb,un⟩
   ·rw[HB.out.cell];simpa using HD.out j (by omega)
   ·obtain⟨b,off,_,_,_,hcell⟩:=ints_at h (by omega)
    exact(hcell j hj).2
set_option maxHeartbeats 1000000 in
theorem toStringS_so (xs:List ByteArray) (w:World) (S:Nat->Prop) (v:Value) (h:At w S (rowOf strC xs) v) (h1:xs.length<=1048576):
  Calls Tryz.prog 56 #[v] w λe w'=>∃v',e= .returned v'/\At w' (From w.heap.size) (rowOf strC xs) v'/\Below w.heap.size w w'/\Unf w w':=by
 obtain⟨A,c,rfl,hn,hc⟩:=rowOf_slice h
 have hlen:xs.length<=1048576:=h1
 have hmk:=run_make_row' (P:=Tryz.prog) 22 9 _ 16 Tryz.underlying22 Tryz.infoStr rfl .i64 .i64 xs.length (by omega) (by omega)
 go_enter Tryz.func56,Tryz.ntmps56
 go_wp2_with fail
 go_loopw [4] (λi wr=>∃(k:Nat) (cs:Array Value),k<=xs.length/\i= .int .i64 k/\Blk wr w.heap.size 9 cs/\RowTo strC 1 wr (w.heap.size+1) xs k cs/\Below w.heap.size w wr/\Unf w wr)
  (λi _=>xs.length-(intOf i).toNat)
 case atStart=>exact⟨0,_,Nat.zero_le _,rfl,Blk.new _ _ _,⟨by simp[madeCells],λj _ hj=>by omega⟩,(Below.refl _ _).alloc (Nat.le_refl _) _,by repeat with_reducible (first|exact Unf.refl _|assumption|refine Unf.setCell ?_ _ _|refine Unf.drew ?_|refine Unf.drewN ?_ _|refine Unf.alloc ?_ _ _|refine Unf.trans ?_ (by assumption))⟩
 case round =>
  obtain⟨k,cs,hk,rfl,hblk,hrow,hb,un⟩:=hrel
  have HB:=Lib.hid hblk
  have HR:=Lib.hid hrow
  clear hblk hrow hmk
  by_cases hlt:k<xs.length
  ·obtain⟨b,off,x,rfl,_,hlb,hc1,hx1,HX⟩:=strs_get (h.below hb) hlt
   have hbs:=HB.out.lt
   have hmem:=mG HX.out
   have hsz:=HR.out.1
   obtain⟨d0,e0⟩:∃d,wr.cell? ⟨w.heap.size,k,none⟩=some d:=⟨_,(HB.out.cell _).trans (gA (by omega))⟩
   have f0:=HB.out.frozen (k)
   clear hsz
   go_wp2_with fail
   go_roundw
   case rel=>
    have hz:=HR.out.1
    have hz1:k*1+1<=cs.size:=by omega
    refine⟨k+1,_,by omega,by go_num,(HB.out.set_ _ _),HR.out.step (λ_=>rfl) HX.out (λd v h=>((h).setCell (by simp[From]) _)) (by simp) (λm hm=> ?_) (λi d hd=> ?_),by repeat with_reducible (first|exact Below.refl _ _|refine Below.setCell ?_ (by first|omega|(simp<;>omega)) _|refine Below.drew ?_|refine below_drewN ?_ _|refine Below.alloc ?_ (by first|omega|(simp<;>omega)) _|refine Below.trans ?_ (Below.mono (by assumption) (by first|omega|(simp<;>omega)))),by repeat with_reducible (first|exact Unf.refl _|assumption|refine Unf.setCell ?_ _ _|refine Unf.drew ?_|refine Unf.drewN ?_ _|refine Unf.alloc ?_ _ _|refine Unf.trans ?_ (by assumption))⟩
    ·rw[Array.getElem?_setIfInBounds_ne (by omega)]
    ·have hi:i=0:=by
      have h5:i<1:=(gI.1 hd).1
      omega
     obtain rfl:=hi
     ·cases hd
      exact⟨_,by simp[Array.getElem?_setIfInBounds];omega,at_lit.2 ⟨rfl,hx1⟩⟩
   case measure=>simp[intOf];omega
  ·go_wp2_with fail
   go_ret
   obtain rfl:k=xs.length:=by omega
   exact⟨_,rfl,HR.out.done (λ_=>rfl) (by omega) HB.out (λb hb=>by simp only[From]at hb ⊢;omega) hlen,hb,un⟩
theorem toSub_so (x:Sb) (w:World):Calls Tryz.prog 102 #[.agg #[.int .i64 (Sb.low x),.int .i64 (Sb.high x)]] w λe w'=>e= .returned (.agg #[.int .i64 (Sb.low x),.int .i64 (Sb.high x)])/\Below w.heap.size w w'/\Unf w w':=by
 go_enter Tryz.func102,Tryz.ntmps102
 go_wp2_with fail
 refine bodyPost_ret (v:=.agg #[.int .i64 (Sb.low x),.int .i64 (Sb.high x)]) (by simp[results,Tryz.results102,go_sem]) rfl ⟨rfl,?_,?_⟩
 ·repeat with_reducible (first|exact Below.refl _ _|refine Below.setCell ?_ (by first|omega|(simp<;>omega)) _|refine Below.drew ?_|refine below_drewN ?_ _|refine Below.alloc ?_ (by first|omega|(simp<;>omega)) _|refine Below.trans ?_ (Below.mono (by assumption) (by first|omega|(simp<;>omega))))
 ·repeat with_reducible (first|exact Unf.refl _|assumption|refine Unf.setCell ?_ _ _|refine Unf.drew ?_|refine Unf.drewN ?_ _|refine Unf.alloc ?_ _ _|refine Unf.trans ?_ (by assumption))
set_option maxHeartbeats 1000000 in
theorem toSubS_so (xs:List Sb) (w:World) (S:Nat->Prop) (v:Value) (h:At w S (rowOf subC xs) v) (h1:xs.length<=1048576):
  Calls Tryz.prog 57 #[v] w λe w'=>∃v',e= .returned v'/\At w' (From w.heap.size) (rowOf subC xs) v'/\Below w.heap.size w w'/\Unf w w':=by
 obtain⟨A,c,rfl,hn,hc⟩:=rowOf_slice h
 have hlen:xs.length<=1048576:=h1
 have hmk:=make_rowN (P:=Tryz.prog) 35 134 _ 2 16 Tryz.underlying35 Tryz.infoSub xs.length (by omega) (by omega)
 go_enter Tryz.func57,Tryz.ntmps57
 go_wp2_with fail
 go_loopw [4] (λi wr=>∃(k:Nat) (cs:Array Value),k<=xs.length/\i= .int .i64 k/\Blk wr w.heap.size 134 cs/\RowTo subC 2 wr (w.heap.size+1) xs k cs/\Below w.heap.size w wr/\Unf w wr)
  (λi _=>xs.length-(intOf i).toNat)
 case atStart=>exact⟨0,_,Nat.zero_le _,rfl,Blk.new _ _ _,⟨by simp[madeCells],λj _ hj=>by omega⟩,(Below.refl _ _).alloc (Nat.le_refl _) _,by repeat with_reducible (first|exact Unf.refl _|assumption|refine Unf.setCell ?_ _ _|refine Unf.drew ?_|refine Unf.drewN ?_ _|refine Unf.alloc ?_ _ _|refine Unf.trans ?_ (by assumption))⟩
 case round =>
  obtain⟨k,cs,hk,rfl,hblk,hrow,hb,un⟩:=hrel
  have HB:=Lib.hid hblk
  have HR:=Lib.hid hrow
  clear hblk hrow hmk
  by_cases hlt:k<xs.length
  ·obtain⟨b,off,x,rfl,_,hlb,hc1,hc2,hx1,HX⟩:=subs_get (h.below hb) hlt
   have hbs:=HB.out.lt
   have hmem:=mG HX.out
   go_wp2_with fail
   refine(toSub_so x _).mono ?_
   rintro e w1 ⟨rfl,hb1,un1⟩
   have HB1:=Lib.hid (HB.out.next hb1)
   have hsz:=HR.out.1
   obtain⟨d0,e0⟩:∃d,w1.cell? ⟨w.heap.size,k*2,none⟩=some d:=⟨_,(HB1.out.cell _).trans (gA (by omega))⟩
   obtain⟨d1,e1⟩:∃d,w1.cell? ⟨w.heap.size,k*2+1,none⟩=some d:=⟨_,(HB1.out.cell _).trans (gA (by omega))⟩
   have f0:=HB1.out.frozen (k*2)
   have f1:=HB1.out.frozen (k*2+1)
   clear hsz
   go_wp2_with fail
   go_roundw
   case rel=>
    have hz:=HR.out.1
    have hz1:k*2+2<=cs.size:=by omega
    refine⟨k+1,_,by omega,by go_num,((HB1.out.set_ _ _).set_ _ _),HR.out.step (λ_=>rfl) HX.out (λd v h=>(((h.below hb1).setCell (by simp[From]) _).setCell (by simp[From]) _)) (by simp) (λm hm=> ?_) (λi d hd=> ?_),by repeat with_reducible (first|exact Below.refl _ _|refine Below.setCell ?_ (by first|omega|(simp<;>omega)) _|refine Below.drew ?_|refine below_drewN ?_ _|refine Below.alloc ?_ (by first|omega|(simp<;>omega)) _|refine Below.trans ?_ (Below.mono (by assumption) (by first|omega|(simp<;>omega)))),by repeat with_reducible (first|exact Unf.refl _|assumption|refine Unf.setCell ?_ _ _|refine Unf.drew ?_|refine Unf.drewN ?_ _|refine Unf.alloc ?_ _ _|refine Unf.trans ?_ (by assumption))⟩
    ·rw[Array.getElem?_setIfInBounds_ne (by omega),Array.getElem?_setIfInBounds_ne (by omega)]
    ·have hi:i=0\/i=1:=by
      have h5:i<2:=(gI.1 hd).1
      omega
     rcases hi with rfl|rfl
     ·cases hd
      exact⟨_,by simp[Array.getElem?_setIfInBounds];omega,at_lit.2 ⟨rfl,hx1.1⟩⟩
     ·cases hd
      exact⟨_,by simp[Array.getElem?_setIfInBounds];omega,at_lit.2 ⟨rfl,hx1.2⟩⟩
   case measure=>simp[intOf];omega
  ·go_wp2_with fail
   go_ret
   obtain rfl:k=xs.length:=by omega
   exact⟨_,rfl,HR.out.done (λ_=>rfl) (by omega) HB.out (λb hb=>by simp only[From]at hb ⊢;omega) hlen,hb,un⟩
def dcW (x:Dc):Nat:=(Dc.args x).length
set_option maxHeartbeats 400000 in
theorem toDecl_so (x:Dc) (w:World) (S:Nat->Prop) (v:Value) (h:At w S (ints (Dc.args x)) v) (h1:dcW x<=1048576):Calls Tryz.prog 133 #[.agg #[v,.int .i64 (Dc.result x)]] w λe w'=>∃v',e= .returned (.agg #[v',.int .i64 (Dc.result x)])/\At w' (From w.heap.size) (ints (Dc.args x)) v'/\Below w.heap.size w w'/\Unf w w':=by
 obtain⟨A,c,rfl,hn,hc⟩:=ints_slice h
 unfold dcW at h1
 go_enter Tryz.func133,Tryz.ntmps133
 go_wp2_with fail
 refine(toIntS_so (Dc.args x) _ S _ (((h.alloc _).alloc _).alloc _) (by omega)).mono ?_
 rintro e w1 ⟨v',rfl,ha,hb,un1⟩
 obtain⟨A',c',rfl,hn',hc'⟩:=ints_slice ha
 obtain⟨hc1,hf1⟩:=bcell hb
 go_wp2_with fail
 refine bodyPost_ret (v:=.agg #[.slice A' (Dc.args x).length c',.int .i64 (Dc.result x)]) (by simp[results,Tryz.results133,go_sem,hc1]) rfl ⟨_,rfl,?_,?_,?_⟩
 ·refine At.mono ((((ha.setCell ?_ _).setCell ?_ _).setCell ?_ _).setCell ?_ _) ?_<;>simp[From]<;>omega
 ·repeat with_reducible (first|exact Below.refl _ _|refine Below.setCell ?_ (by first|omega|(simp<;>omega)) _|refine Below.drew ?_|refine below_drewN ?_ _|refine Below.alloc ?_ (by first|omega|(simp<;>omega)) _|refine Below.trans ?_ (Below.mono (by assumption) (by first|omega|(simp<;>omega))))
 ·repeat with_reducible (first|exact Unf.refl _|assumption|refine Unf.setCell ?_ _ _|refine Unf.drew ?_|refine Unf.drewN ?_ _|refine Unf.alloc ?_ _ _|refine Unf.trans ?_ (by assumption))
def dcsW (xs:List Dc):Nat:=xs.length+(xs.map dcW).sum
set_option maxHeartbeats 1000000 in
theorem toDeclS_so (xs:List Dc) (w:World) (S:Nat->Prop) (v:Value) (h:At w S (rowOf decC xs) v) (h1:dcsW xs<=1048576):
  Calls Tryz.prog 103 #[v] w λe w'=>∃v',e= .returned v'/\At w' (From w.heap.size) (rowOf decC xs) v'/\Below w.heap.size w w'/\Unf w w':=by
 obtain⟨A,c,rfl,hn,hc⟩:=rowOf_slice h
 have hlen:xs.length<=1048576:=by unfold dcsW at h1;omega
 have hmk:=make_rowN (P:=Tryz.prog) 87 138 _ 2 32 Tryz.underlying87 Tryz.infoDec xs.length (by omega) (by omega)
 go_enter Tryz.func103,Tryz.ntmps103
 go_wp2_with fail
 go_loopw [4] (λi wr=>∃(k:Nat) (cs:Array Value),k<=xs.length/\i= .int .i64 k/\Blk wr w.heap.size 138 cs/\RowTo decC 2 wr (w.heap.size+1) xs k cs/\Below w.heap.size w wr/\Unf w wr)
  (λi _=>xs.length-(intOf i).toNat)
 case atStart=>exact⟨0,_,Nat.zero_le _,rfl,Blk.new _ _ _,⟨by simp[madeCells],λj _ hj=>by omega⟩,(Below.refl _ _).alloc (Nat.le_refl _) _,by repeat with_reducible (first|exact Unf.refl _|assumption|refine Unf.setCell ?_ _ _|refine Unf.drew ?_|refine Unf.drewN ?_ _|refine Unf.alloc ?_ _ _|refine Unf.trans ?_ (by assumption))⟩
 case round =>
  obtain⟨k,cs,hk,rfl,hblk,hrow,hb,un⟩:=hrel
  have HB:=Lib.hid hblk
  have HR:=Lib.hid hrow
  clear hblk hrow hmk
  by_cases hlt:k<xs.length
  ·obtain⟨b,off,x,u,rfl,_,hlb,hc1,hu,hc2,hx1,HX⟩:=decs_get (h.below hb) hlt
   have hbs:=HB.out.lt
   have hmem:=mG HX.out
   obtain⟨Au,cu,rfl,hnu,hcu⟩:=ints_slice hu
   have hle:dcW x<=1048576:=by have:=le_sum_of_mem (f:=dcW) hmem;unfold dcsW at h1;omega
   go_wp2_with fail
   refine(toDecl_so x _ S _ hu hle).mono ?_
   rintro e w1 ⟨v',rfl,ha,hb1,un1⟩
   obtain⟨A',c',rfl,hn',hc'⟩:=ints_slice ha
   have HB1:=Lib.hid (HB.out.next hb1)
   have hsz:=HR.out.1
   obtain⟨d0,e0⟩:∃d,w1.cell? ⟨w.heap.size,k*2,none⟩=some d:=⟨_,(HB1.out.cell _).trans (gA (by omega))⟩
   obtain⟨d1,e1⟩:∃d,w1.cell? ⟨w.heap.size,k*2+1,none⟩=some d:=⟨_,(HB1.out.cell _).trans (gA (by omega))⟩
   have f0:=HB1.out.frozen (k*2)
   have f1:=HB1.out.frozen (k*2+1)
   clear hsz
   go_wp2_with fail
   go_roundw
   case rel=>
    have hz:=HR.out.1
    have hz1:k*2+2<=cs.size:=by omega
    refine⟨k+1,_,by omega,by go_num,((HB1.out.set_ _ _).set_ _ _),HR.out.step (λ_=>rfl) HX.out (λd v h=>(((h.below hb1).setCell (by simp[From]) _).setCell (by simp[From]) _)) (by simp) (λm hm=> ?_) (λi d hd=> ?_),by repeat with_reducible (first|exact Below.refl _ _|refine Below.setCell ?_ (by first|omega|(simp<;>omega)) _|refine Below.drew ?_|refine below_drewN ?_ _|refine Below.alloc ?_ (by first|omega|(simp<;>omega)) _|refine Below.trans ?_ (Below.mono (by assumption) (by first|omega|(simp<;>omega)))),by repeat with_reducible (first|exact Unf.refl _|assumption|refine Unf.setCell ?_ _ _|refine Unf.drew ?_|refine Unf.drewN ?_ _|refine Unf.alloc ?_ _ _|refine Unf.trans ?_ (by assumption))⟩
    ·rw[Array.getElem?_setIfInBounds_ne (by omega),Array.getElem?_setIfInBounds_ne (by omega)]
    ·have hi:i=0\/i=1:=by
      have h5:i<2:=(gI.1 hd).1
      omega
     rcases hi with rfl|rfl
     ·cases hd
      exact⟨_,by simp[Array.getElem?_setIfInBounds];omega,(((ha.mono (by simp only[From];omega)).setCell (by simp[From]) _).setCell (by simp[From]) _)⟩
     ·cases hd
      exact⟨_,by simp[Array.getElem?_setIfInBounds];omega,at_lit.2 ⟨rfl,hx1⟩⟩
   case measure=>simp[intOf];omega
  ·go_wp2_with fail
   go_ret
   obtain rfl:k=xs.length:=by omega
   exact⟨_,rfl,HR.out.done (λ_=>rfl) (by omega) HB.out (λb hb=>by simp only[From]at hb ⊢;omega) hlen,hb,un⟩
def opW (x:Opr):Nat:=dcsW (Opr.decls x)
set_option maxHeartbeats 400000 in
theorem toOp_so (x:Opr) (w:World) (S:Nat->Prop) (v:Value) (h:At w S (decs (Opr.decls x)) v) (h1:opW x<=1048576):Calls Tryz.prog 58 #[.agg #[.string (Opr.name x),v,.bool (Opr.assoc x),.bool (Opr.comm x),.int .i64 (Opr.unit x)]] w λe w'=>∃v',e= .returned (.agg #[.string (Opr.name x),v',.bool (Opr.assoc x),.bool (Opr.comm x),.int .i64 (Opr.unit x)])/\At w' (From w.heap.size) (decs (Opr.decls x)) v'/\Below w.heap.size w w'/\Unf w w':=by
 obtain⟨A,c,rfl,hn,hc⟩:=rowOf_slice h
 unfold opW at h1
 go_enter Tryz.func58,Tryz.ntmps58
 go_wp2_with fail
 refine(toDeclS_so (Opr.decls x) _ S _ (by repeat (first|exact h|refine At.alloc ?_ _|refine At.setCell ?_ (by simp[Any]) _)) (by omega)).mono ?_
 rintro e w1 ⟨v',rfl,ha,hb,un1⟩
 obtain⟨A',c',rfl,hn',hc'⟩:=rowOf_slice ha
 obtain⟨hc1,hf1⟩:=bcell hb
 go_wp2_with fail
 refine bodyPost_ret (v:=.agg #[.string (Opr.name x),.slice A' (Opr.decls x).length c',.bool (Opr.assoc x),.bool (Opr.comm x),.int .i64 (Opr.unit x)]) (by simp[results,Tryz.results58,go_sem,hc1]) rfl ⟨_,rfl,?_,?_,?_⟩
 ·refine At.mono (((((((((ha.setCell ?_ _).setCell ?_ _).setCell ?_ _).setCell ?_ _).setCell ?_ _).setCell ?_ _).setCell ?_ _).setCell ?_ _).setCell ?_ _) ?_<;>simp[From]<;>omega
 ·repeat with_reducible (first|exact Below.refl _ _|refine Below.setCell ?_ (by first|omega|(simp<;>omega)) _|refine Below.drew ?_|refine below_drewN ?_ _|refine Below.alloc ?_ (by first|omega|(simp<;>omega)) _|refine Below.trans ?_ (Below.mono (by assumption) (by first|omega|(simp<;>omega))))
 ·repeat with_reducible (first|exact Unf.refl _|assumption|refine Unf.setCell ?_ _ _|refine Unf.drew ?_|refine Unf.drewN ?_ _|refine Unf.alloc ?_ _ _|refine Unf.trans ?_ (by assumption))
def opsW (xs:List Opr):Nat:=xs.length+(xs.map opW).sum
set_option maxHeartbeats 1000000 in
theorem toOpS_so (xs:List Opr) (w:World) (S:Nat->Prop) (v:Value) (h:At w S (rowOf oprC xs) v) (h1:opsW xs<=1048576):
  Calls Tryz.prog 25 #[v] w λe w'=>∃v',e= .returned v'/\At w' (From w.heap.size) (rowOf oprC xs) v'/\Below w.heap.size w w'/\Unf w w':=by
 obtain⟨A,c,rfl,hn,hc⟩:=rowOf_slice h
 have hlen:xs.length<=1048576:=by unfold opsW at h1;omega
 have hmk:=make_rowN (P:=Tryz.prog) 38 89 _ 5 56 Tryz.underlying38 Tryz.infoOpr xs.length (by omega) (by omega)
 go_enter Tryz.func25,Tryz.ntmps25
 go_wp2_with fail
 go_loopw [4] (λi wr=>∃(k:Nat) (cs:Array Value),k<=xs.length/\i= .int .i64 k/\Blk wr w.heap.size 89 cs/\RowTo oprC 5 wr (w.heap.size+1) xs k cs/\Below w.heap.size w wr/\Unf w wr)
  (λi _=>xs.length-(intOf i).toNat)
 case atStart=>exact⟨0,_,Nat.zero_le _,rfl,Blk.new _ _ _,⟨by simp[madeCells],λj _ hj=>by omega⟩,(Below.refl _ _).alloc (Nat.le_refl _) _,by repeat with_reducible (first|exact Unf.refl _|assumption|refine Unf.setCell ?_ _ _|refine Unf.drew ?_|refine Unf.drewN ?_ _|refine Unf.alloc ?_ _ _|refine Unf.trans ?_ (by assumption))⟩
 case round =>
  obtain⟨k,cs,hk,rfl,hblk,hrow,hb,un⟩:=hrel
  have HB:=Lib.hid hblk
  have HR:=Lib.hid hrow
  clear hblk hrow hmk
  by_cases hlt:k<xs.length
  ·obtain⟨b,off,x,u,rfl,_,hlb,hc1,hc2,hu,hc3,hc4,hc5,hx1,HX⟩:=oprs_get (h.below hb) hlt
   have hbs:=HB.out.lt
   have hmem:=mG HX.out
   obtain⟨Au,cu,rfl,hnu,hcu⟩:=rowOf_slice hu
   have hle:opW x<=1048576:=by have:=le_sum_of_mem (f:=opW) hmem;unfold opsW at h1;omega
   go_wp2_with fail
   refine(toOp_so x _ S _ hu hle).mono ?_
   rintro e w1 ⟨v',rfl,ha,hb1,un1⟩
   obtain⟨A',c',rfl,hn',hc'⟩:=rowOf_slice ha
   have HB1:=Lib.hid (HB.out.next hb1)
   have hsz:=HR.out.1
   obtain⟨d0,e0⟩:∃d,w1.cell? ⟨w.heap.size,k*5,none⟩=some d:=⟨_,(HB1.out.cell _).trans (gA (by omega))⟩
   obtain⟨d1,e1⟩:∃d,w1.cell? ⟨w.heap.size,k*5+1,none⟩=some d:=⟨_,(HB1.out.cell _).trans (gA (by omega))⟩
   obtain⟨d2,e2⟩:∃d,w1.cell? ⟨w.heap.size,k*5+2,none⟩=some d:=⟨_,(HB1.out.cell _).trans (gA (by omega))⟩
   obtain⟨d3,e3⟩:∃d,w1.cell? ⟨w.heap.size,k*5+3,none⟩=some d:=⟨_,(HB1.out.cell _).trans (gA (by omega))⟩
   obtain⟨d4,e4⟩:∃d,w1.cell? ⟨w.heap.size,k*5+4,none⟩=some d:=⟨_,(HB1.out.cell _).trans (gA (by omega))⟩
   have f0:=HB1.out.frozen (k*5)
   have f1:=HB1.out.frozen (k*5+1)
   have f2:=HB1.out.frozen (k*5+2)
   have f3:=HB1.out.frozen (k*5+3)
   have f4:=HB1.out.frozen (k*5+4)
   clear hsz
   go_wp2_with fail
   go_roundw
   case rel=>
    have hz:=HR.out.1
    have hz1:k*5+5<=cs.size:=by omega
    refine⟨k+1,_,by omega,by go_num,(((((HB1.out.set_ _ _).set_ _ _).set_ _ _).set_ _ _).set_ _ _),HR.out.step (λ_=>rfl) HX.out (λd v h=>((((((h.below hb1).setCell (by simp[From]) _).setCell (by simp[From]) _).setCell (by simp[From]) _).setCell (by simp[From]) _).setCell (by simp[From]) _)) (by simp) (λm hm=> ?_) (λi d hd=> ?_),by repeat with_reducible (first|exact Below.refl _ _|refine Below.setCell ?_ (by first|omega|(simp<;>omega)) _|refine Below.drew ?_|refine below_drewN ?_ _|refine Below.alloc ?_ (by first|omega|(simp<;>omega)) _|refine Below.trans ?_ (Below.mono (by assumption) (by first|omega|(simp<;>omega)))),by repeat with_reducible (first|exact Unf.refl _|assumption|refine Unf.setCell ?_ _ _|refine Unf.drew ?_|refine Unf.drewN ?_ _|refine Unf.alloc ?_ _ _|refine Unf.trans ?_ (by assumption))⟩
    ·rw[Array.getElem?_setIfInBounds_ne (by omega),Array.getElem?_setIfInBounds_ne (by omega),Array.getElem?_setIfInBounds_ne (by omega),Array.getElem?_setIfInBounds_ne (by omega),Array.getElem?_setIfInBounds_ne (by omega)]
    ·have hi:i=0\/i=1\/i=2\/i=3\/i=4:=by
      have h5:i<5:=(gI.1 hd).1
      omega
     rcases hi with rfl|rfl|rfl|rfl|rfl
     ·cases hd
      exact⟨_,by simp[Array.getElem?_setIfInBounds];omega,at_lit.2 ⟨rfl,hx1.1⟩⟩
     ·cases hd
      exact⟨_,by simp[Array.getElem?_setIfInBounds];omega,((((((ha.mono (by simp only[From];omega)).setCell (by simp[From]) _).setCell (by simp[From]) _).setCell (by simp[From]) _).setCell (by simp[From]) _).setCell (by simp[From]) _)⟩
     ·cases hd
      exact⟨_,by simp[Array.getElem?_setIfInBounds];omega,at_lit.2 ⟨rfl,trivial⟩⟩
     ·cases hd
      exact⟨_,by simp[Array.getElem?_setIfInBounds];omega,at_lit.2 ⟨rfl,trivial⟩⟩
     ·cases hd
      exact⟨_,by simp[Array.getElem?_setIfInBounds];omega,at_lit.2 ⟨rfl,hx1.2⟩⟩
   case measure=>simp[intOf];omega
  ·go_wp2_with fail
   go_ret
   obtain rfl:k=xs.length:=by omega
   exact⟨_,rfl,HR.out.done (λ_=>rfl) (by omega) HB.out (λb hb=>by simp only[From]at hb ⊢;omega) hlen,hb,un⟩
def sgW (s:Sg):Nat:=(So.names (Sg.sorts s)).length+(So.subs (Sg.sorts s)).length+opsW (Sg.ops s)
theorem Blk.oth {w:World} {g b o:Nat} {t:TypeId} {cs:Array Value} {u:Value} (h:Blk w g t cs) (hb:g≠b):Blk (w.setCell ⟨b,o,none⟩ u) g t cs:=(Below.heap_setCell w ⟨b,o,none⟩ u g hb).trans h
set_option maxHeartbeats 400000 in
theorem toSorts_so (x:So) (w:World) (S:Nat->Prop) (v u:Value) (h:At w S (strs (So.names x)) v) (k:At w S (subs (So.subs x)) u) (h1:(So.names x).length<=1048576) (h2:(So.subs x).length<=1048576):
  Calls Tryz.prog 24 #[.agg #[v,u]] w λe w'=>∃v' u',e= .returned (.agg #[v',u'])/\At w' (From w.heap.size) (strs (So.names x)) v'/\At w' (From w.heap.size) (subs (So.subs x)) u'/\Below w.heap.size w w'/\Unf w w':=by
 obtain⟨A,c,rfl,hn,hc⟩:=rowOf_slice h
 obtain⟨B,d,rfl,hm,hd⟩:=rowOf_slice k
 obtain⟨p,ep⟩:∃o,o=Obj.cells #[.slice A (So.names x).length c,.slice B (So.subs x).length d] 25:=⟨_,rfl⟩
 obtain⟨q,eq⟩:∃o,o=Obj.cells #[.slice none 0 0,.slice none 0 0] 37:=⟨_,rfl⟩
 have HH:=Lib.hid (((h.alloc p).alloc q).alloc q)
 have HK:=Lib.hid (((k.old.alloc p).alloc q).alloc q)
 have B0:=Lib.hid (((Blk.new w 25 #[.slice A (So.names x).length c,.slice B (So.subs x).length d]).alloc q).alloc q)
 have B1:=Lib.hid ((Blk.new (w.alloc p) 37 #[.slice none 0 0,.slice none 0 0]).alloc q)
 have B2:=Lib.hid (Blk.new ((w.alloc p).alloc q) 37 #[.slice none 0 0,.slice none 0 0])
 rw[ep,eq]at HH HK B1 B2
 rw[eq]at B0
 simp only[World.size_alloc]at B1 B2
 clear h k ep eq
 go_enter Tryz.func24,Tryz.ntmps24
 go_wp2_with fail
 refine(toStringS_so (So.names x) _ S _ HH.out h1).mono ?_
 rintro e w1 ⟨v',rfl,ha,hb,un1⟩
 obtain⟨A',c',rfl,hn',hc'⟩:=rowOf_slice ha
 have B0:=Lib.hid (B0.out.next hb)
 have B1:=Lib.hid (B1.out.next hb)
 have B2:=Lib.hid (B2.out.next hb)
 have hz:=hb.size
 simp only[World.size_alloc]at hz
 have HA:=Lib.hid (ha.setCell (p:=⟨w.heap.size+1+1,0,none⟩) (by simp[From]) (.slice A' (So.names x).length c'))
 have HK:=Lib.hid ((HK.out.below hb).setCell (p:=⟨w.heap.size+1+1,0,none⟩) (by simp[Old];omega) (.slice A' (So.names x).length c'))
 obtain⟨q1,q2⟩:=B0.out.c2
 obtain⟨q3,q4⟩:=B2.out.c2
 have f3:=B2.out.frozen 0
 clear ha
 go_wp2_with fail
 clear q1 q2 q3 q4 f3
 refine(toSubS_so (So.subs x) _ _ _ HK.out h2).mono ?_
 rintro e w2 ⟨u',rfl,ha2,hb2,un2⟩
 obtain⟨B',d',rfl,hm',hd'⟩:=rowOf_slice ha2
 have B1:=Lib.hid ((B1.out.oth (by omega)).next hb2)
 have B2:=Lib.hid ((show Blk _ (w.heap.size+1+1) 37 #[.slice A' (So.names x).length c',.slice none 0 0]from B2.out.set_ 0 _).next hb2)
 have HA:=Lib.hid (HA.out.below hb2)
 have HA2:=Lib.hid ha2
 have hz2:=hb2.size
 simp only[World.size_setCell]at hz2
 obtain⟨q1,q2⟩:=B1.out.c2
 obtain⟨q3,q4⟩:=B2.out.c2
 have f3:=B2.out.frozen 1
 have f4:=B1.out.frozen 0
 have f5:=B1.out.frozen 1
 clear ha2 HK HH
 go_wp2_with fail
 refine bodyPost_ret (v:=.agg #[.slice A' (So.names x).length c',.slice B' (So.subs x).length d']) (by simp[results,Tryz.results24,go_sem,q1,q2]) rfl ⟨_,_,rfl,?_,?_,?_,?_⟩
 ·refine At.mono (((HA.out.setCell ?_ _).setCell ?_ _).setCell ?_ _) ?_<;>simp[From]<;>omega
 ·refine At.mono (((HA2.out.setCell ?_ _).setCell ?_ _).setCell ?_ _) ?_<;>simp[From]<;>omega
 ·repeat with_reducible (first|exact Below.refl _ _|refine Below.setCell ?_ (by first|omega|(simp<;>omega)) _|refine Below.drew ?_|refine below_drewN ?_ _|refine Below.alloc ?_ (by first|omega|(simp<;>omega)) _|refine Below.trans ?_ (Below.mono (by assumption) (by first|omega|(simp<;>omega))))
 ·repeat with_reducible (first|exact Unf.refl _|assumption|refine Unf.setCell ?_ _ _|refine Unf.drew ?_|refine Unf.drewN ?_ _|refine Unf.alloc ?_ _ _|refine Unf.trans ?_ (by assumption))
set_option maxHeartbeats 400000 in
theorem toSignature_so (x:Sg) (w:World) (S:Nat->Prop) (v u z:Value) (h:At w S (strs (So.names (Sg.sorts x))) v) (k:At w S (subs (So.subs (Sg.sorts x))) u) (l:At w S (oprs (Sg.ops x)) z) (h1:sgW x<=1048576):
  Calls Tryz.prog 7 #[.agg #[v,u,z]] w λe w'=>∃v' u' z',e= .returned (.agg #[v',u',z'])/\At w' (From w.heap.size) (strs (So.names (Sg.sorts x))) v'/\At w' (From w.heap.size) (subs (So.subs (Sg.sorts x))) u'/\At w' (From w.heap.size) (oprs (Sg.ops x)) z'/\Below w.heap.size w w'/\Unf w w':=by
 obtain⟨A,c,rfl,hn,hc⟩:=rowOf_slice h
 obtain⟨B,d,rfl,hm,hd⟩:=rowOf_slice k
 obtain⟨C,f,rfl,hp,hf⟩:=rowOf_slice l
 unfold sgW at h1
 obtain⟨p,ep⟩:∃o,o=Obj.cells #[.slice A (So.names (Sg.sorts x)).length c,.slice B (So.subs (Sg.sorts x)).length d,.slice C (Sg.ops x).length f] 28:=⟨_,rfl⟩
 obtain⟨q,eq⟩:∃o,o=Obj.cells #[.slice none 0 0,.slice none 0 0,.slice none 0 0] 40:=⟨_,rfl⟩
 have HH:=Lib.hid (((h.alloc p).alloc q).alloc q)
 have HK:=Lib.hid (((k.alloc p).alloc q).alloc q)
 have HL:=Lib.hid (((l.old.alloc p).alloc q).alloc q)
 have B0:=Lib.hid (((Blk.new w 28 #[.slice A (So.names (Sg.sorts x)).length c,.slice B (So.subs (Sg.sorts x)).length d,.slice C (Sg.ops x).length f]).alloc q).alloc q)
 have B1:=Lib.hid ((Blk.new (w.alloc p) 40 #[.slice none 0 0,.slice none 0 0,.slice none 0 0]).alloc q)
 have B2:=Lib.hid (Blk.new ((w.alloc p).alloc q) 40 #[.slice none 0 0,.slice none 0 0,.slice none 0 0])
 rw[ep,eq]at HH HK HL B1 B2
 rw[eq]at B0
 simp only[World.size_alloc]at B1 B2
 clear h k l ep eq
 go_enter Tryz.func7,Tryz.ntmps7
 go_wp2_with fail
 refine(toSorts_so (Sg.sorts x) _ S _ _ HH.out HK.out (by omega) (by omega)).mono ?_
 rintro e w1 ⟨v',u',rfl,ha,ha2,hb,un1⟩
 obtain⟨A',c',rfl,hn',hc'⟩:=rowOf_slice ha
 obtain⟨B',d',rfl,hm',hd'⟩:=rowOf_slice ha2
 have B0:=Lib.hid (B0.out.next hb)
 have B1:=Lib.hid (B1.out.next hb)
 have B2:=Lib.hid (B2.out.next hb)
 have hz:=hb.size
 simp only[World.size_alloc]at hz
 have HA:=Lib.hid ((ha.setCell (p:=⟨w.heap.size+1+1,0,none⟩) (by simp[From]) (.slice A' (So.names (Sg.sorts x)).length c')).setCell (p:=⟨w.heap.size+1+1,1,none⟩) (by simp[From]) (.slice B' (So.subs (Sg.sorts x)).length d'))
 have HA2:=Lib.hid ((ha2.setCell (p:=⟨w.heap.size+1+1,0,none⟩) (by simp[From]) (.slice A' (So.names (Sg.sorts x)).length c')).setCell (p:=⟨w.heap.size+1+1,1,none⟩) (by simp[From]) (.slice B' (So.subs (Sg.sorts x)).length d'))
 have HL:=Lib.hid (((HL.out.below hb).setCell (p:=⟨w.heap.size+1+1,0,none⟩) (by simp[Old];omega) (.slice A' (So.names (Sg.sorts x)).length c')).setCell (p:=⟨w.heap.size+1+1,1,none⟩) (by simp[Old];omega) (.slice B' (So.subs (Sg.sorts x)).length d'))
 obtain⟨q1,q2,q5⟩:=B0.out.c3
 obtain⟨q3,q4,q6⟩:=B2.out.c3
 have f3:=B2.out.frozen 0
 have f4:=B2.out.frozen 1
 clear ha ha2
 go_wp2_with fail
 clear q1 q2 q3 q4 q5 q6 f3 f4
 refine(toOpS_so (Sg.ops x) _ _ _ HL.out (by omega)).mono ?_
 rintro e w2 ⟨z',rfl,ha3,hb2,un2⟩
 obtain⟨C',f',rfl,hp',hf'⟩:=rowOf_slice ha3
 have B1:=Lib.hid (((B1.out.oth (by omega)).oth (by omega)).next hb2)
 have B2:=Lib.hid ((show Blk _ (w.heap.size+1+1) 40 #[.slice A' (So.names (Sg.sorts x)).length c',.slice B' (So.subs (Sg.sorts x)).length d',.slice none 0 0]from (B2.out.set_ 0 _).set_ 1 _).next hb2)
 have HA:=Lib.hid (HA.out.below hb2)
 have HA2:=Lib.hid (HA2.out.below hb2)
 have HA3:=Lib.hid ha3
 have hz2:=hb2.size
 simp only[World.size_setCell]at hz2
 obtain⟨q1,q2,q5⟩:=B1.out.c3
 obtain⟨q3,q4,q6⟩:=B2.out.c3
 have f3:=B2.out.frozen 2
 have f4:=B1.out.frozen 0
 have f5:=B1.out.frozen 1
 have f6:=B1.out.frozen 2
 clear ha3 HK HH HL
 go_wp2_with fail
 refine bodyPost_ret (v:=.agg #[.slice A' (So.names (Sg.sorts x)).length c',.slice B' (So.subs (Sg.sorts x)).length d',.slice C' (Sg.ops x).length f']) (by simp[results,Tryz.results7,go_sem,q1,q2,q5]) rfl ⟨_,_,_,rfl,?_,?_,?_,?_,?_⟩
 ·refine At.mono ((((HA.out.setCell ?_ _).setCell ?_ _).setCell ?_ _).setCell ?_ _) ?_<;>simp[From]<;>omega
 ·refine At.mono ((((HA2.out.setCell ?_ _).setCell ?_ _).setCell ?_ _).setCell ?_ _) ?_<;>simp[From]<;>omega
 ·refine At.mono ((((HA3.out.setCell ?_ _).setCell ?_ _).setCell ?_ _).setCell ?_ _) ?_<;>simp[From]<;>omega
 ·repeat with_reducible (first|exact Below.refl _ _|refine Below.setCell ?_ (by first|omega|(simp<;>omega)) _|refine Below.drew ?_|refine below_drewN ?_ _|refine Below.alloc ?_ (by first|omega|(simp<;>omega)) _|refine Below.trans ?_ (Below.mono (by assumption) (by first|omega|(simp<;>omega))))
 ·repeat with_reducible (first|exact Unf.refl _|assumption|refine Unf.setCell ?_ _ _|refine Unf.drew ?_|refine Unf.drewN ?_ _|refine Unf.alloc ?_ _ _|refine Unf.trans ?_ (by assumption))
set_option maxHeartbeats 400000 in
theorem markIntS_any (xs:List Int) (k:Int) (w:World) (S:Nat->Prop) (v:Value) (h:AtS w S (ints xs) v) (hs:Soft S w) (h0:0<=k) (h1:k+xs.length<=1073741824):
  Calls Tryz.prog 120 #[v,.int .i64 k] w λe w'=>e= .returned (.int .i64 (k+xs.length))/\Like S w w':=by
 obtain⟨A,c,rfl,hn,hc⟩:=AtS.slice h
 go_enter Tryz.func120,Tryz.ntmps120
 go_wp2
 go_loopw [1,5] (λkk i wr=>∃j:Nat,j<=xs.length/\i= .int .i64 j/\kk= .int .i64 (k+j)/\Like S w wr) (λ_ i _=>xs.length-(intOf i).toNat)
 case atStart=>exact⟨0,Nat.zero_le _,rfl,by simp,Like.refl _ _⟩
 case round=>
  obtain⟨j,hj,rfl,rfl,hL⟩:=hrel
  by_cases hlt:j<xs.length
  ·obtain⟨b,off,x,rfl,hb,hlb,hc1⟩:=ints_getS (h.next hL) hlt
   have f0:=(hs.like hL b hb).2 (off+j)
   have HC:=Lib.hid hc1
   go_wp2
   go_roundw
   case rel=>exact⟨j+1,by omega,by go_num,by go_num,hL.set HC.out (kin.int _ _ (WalkArith.wf_i64 ⟨by omega,by omega⟩)) hb⟩
   case measure=>simp[intOf];omega
  ·go_wp2
   go_ret
   obtain rfl:j=xs.length:=by omega
   exact⟨rfl,hL⟩
theorem kinU {u v:Value} {w:World} {S:Nat->Prop} (h:AtS w S (.lit u) v):kin u v:=(atS_lit.1 h).1
theorem strs_getS {w:World} {S:Nat->Prop} {xs:List ByteArray} {A:Option Addr} {n c k:Nat} (h:AtS w S (strs xs) (.slice A n c)) (hk:k<xs.length):
  ∃b off x,A=some ⟨b,off,none⟩/\S b/\b<w.heap.size/\w.cell? ⟨b,off+k,none⟩=some (.string x):=by
 obtain⟨b,off,x,e,hs,hl,hx,hc⟩:=rowOf_getS 1 (λ_=>rfl) h (by omega) hk
 obtain⟨u,u1,u2⟩:=hc 0 _ rfl
 obtain⟨y,rfl⟩:=(kinU u2).eqStr
 rw[show off+(k*1+0)=off+k by omega]at u1
 exact⟨b,off,y,e,hs,hl,u1⟩
theorem subs_getS {w:World} {S:Nat->Prop} {xs:List Sb} {A:Option Addr} {n c k:Nat} (h:AtS w S (subs xs) (.slice A n c)) (hk:k<xs.length):
  ∃b off x y,A=some ⟨b,off,none⟩/\S b/\b<w.heap.size/\w.cell? ⟨b,off+k*2,none⟩=some (.int .i64 x)/\w.cell? ⟨b,off+k*2+1,none⟩=some (.int .i64 y):=by
 obtain⟨b,off,x,e,hs,hl,hx,hc⟩:=rowOf_getS 2 (λ_=>rfl) h (by omega) hk
 obtain⟨u,u1,u2⟩:=hc 0 _ rfl
 obtain⟨v,v1,v2⟩:=hc 1 _ rfl
 obtain⟨y,rfl⟩:=(kinU u2).eqInt
 obtain⟨z,rfl⟩:=(kinU v2).eqInt
 exact⟨b,off,y,z,e,hs,hl,u1,v1⟩
theorem decs_getS {w:World} {S:Nat->Prop} {xs:List Dc} {A:Option Addr} {n c k:Nat} (h:AtS w S (decs xs) (.slice A n c)) (hk:k<xs.length):
  ∃b off x y u,A=some ⟨b,off,none⟩/\S b/\b<w.heap.size/\w.cell? ⟨b,off+k*2,none⟩=some u/\AtS w S (ints (Dc.args x)) u/\w.cell? ⟨b,off+k*2+1,none⟩=some (.int .i64 y)/\Hid (xs[k]? =some x):=by
 obtain⟨b,off,x,e,hs,hl,hx,hc⟩:=rowOf_getS 2 (λ_=>rfl) h (by omega) hk
 obtain⟨u,u1,u2⟩:=hc 0 _ rfl
 obtain⟨v,v1,v2⟩:=hc 1 _ rfl
 obtain⟨z,rfl⟩:=(kinU v2).eqInt
 exact⟨b,off,x,z,u,e,hs,hl,u1,u2,v1,hx⟩
theorem oprs_getS {w:World} {S:Nat->Prop} {xs:List Opr} {A:Option Addr} {n c k:Nat} (h:AtS w S (oprs xs) (.slice A n c)) (hk:k<xs.length):
  ∃ b off x nm u p q z, A = some ⟨b, off, none⟩ ∧ S b ∧ b < w.heap.size ∧ w.cell? ⟨b, off + k * 5, none⟩ = some (.string nm) ∧ w.cell? ⟨b, off + k * 5 + 1, none⟩ = some u ∧ AtS w S (decs (Opr.decls x)) u ∧ w.cell? ⟨b, off + k * 5 + 2, none⟩ = some (.bool p) ∧
   w.cell? ⟨b,off+k*5+3,none⟩=some (.bool q)/\w.cell? ⟨b,off+k*5+4,none⟩=some (.int .i64 z)/\Hid (xs[k]? =some x):=by
 obtain⟨b,off,x,e,hs,hl,hx,hc⟩:=rowOf_getS 5 (λ_=>rfl) h (by omega) hk
 obtain⟨u0,p0,q0⟩:=hc 0 _ rfl
 obtain⟨u1,p1,q1⟩:=hc 1 _ rfl
 obtain⟨u2,p2,q2⟩:=hc 2 _ rfl
 obtain⟨u3,p3,q3⟩:=hc 3 _ rfl
 obtain⟨u4,p4,q4⟩:=hc 4 _ rfl
 obtain⟨_,rfl⟩:=(kinU q0).eqStr
 obtain⟨_,rfl⟩:=(kinU q2).eqBool
 obtain⟨_,rfl⟩:=(kinU q3).eqBool
 obtain⟨_,rfl⟩:=(kinU q4).eqInt
 exact⟨b,off,x,_,u1,_,_,_,e,hs,hl,p0,p1,q1,p2,p3,p4,hx⟩
theorem Like.cBool {S:Nat->Prop} {w w':World} (h:Like S w w') {b o:Nat} {x:Bool} (hc:w.cell? ⟨b,o,none⟩=some (.bool x)):∃y,w'.cell? ⟨b,o,none⟩=some (.bool y):=by
 obtain⟨u,h1,h2⟩:=h.kin _ _ _ hc
 obtain⟨y,rfl⟩:=h2.eqBool
 exact⟨y,h1⟩
set_option maxHeartbeats 400000 in
theorem markStringS_any (xs:List ByteArray) (k:Int) (w:World) (S:Nat->Prop) (v:Value) (h:AtS w S (strs xs) v) (hs:Soft S w) (h0:0<=k) (h1:k+xs.length<=1073741824):
  Calls Tryz.prog 72 #[v,.int .i64 k] w λe w'=>e= .returned (.int .i64 (k+xs.length))/\Like S w w':=by
 obtain⟨A,c,rfl,hn,hc⟩:=AtS.slice h
 have HS:=Lib.hid hs
 clear hs
 go_enter Tryz.func72,Tryz.ntmps72
 go_wp2_with fail
 go_loopw [1,5] (λkk i wr=>∃j:Nat,j<=xs.length/\i= .int .i64 j/\kk= .int .i64 (k+j)/\Like S w wr) (λ_ i _=>xs.length-(intOf i).toNat)
 case atStart=>exact⟨0,Nat.zero_le _,rfl,by simp,Like.refl _ _⟩
 case round=>
  obtain⟨j,hj,rfl,rfl,hL⟩:=hrel
  by_cases hlt:j<xs.length
  ·obtain⟨b,off,x,rfl,hb,hlb,hc1⟩:=strs_getS (h.next hL) hlt
   go_wp2_with fail
   refine(markText_any (k+j) _ (by omega) (by omega)).mono ?_
   rintro e w1 ⟨s1,rfl,hs1,hb1⟩
   have L1:=Lib.hid (hL.next hb1)
   obtain⟨t2,d2⟩:=(Like.of_below (S:=S) hb1).cStr hc1
   have HD:=Lib.hid d2
   have f0:=(HS.out.like L1.out b hb).2 (off+j)
   clear hc1
   go_wp2_with fail
   go_roundw
   case rel=>exact⟨j+1,by omega,by go_num,by go_num,L1.out.set HD.out (kin.str _ _ hs1) hb⟩
   case measure=>simp[intOf];omega
  ·go_wp2_with fail
   go_ret
   obtain rfl:j=xs.length:=by omega
   exact⟨rfl,hL⟩
set_option maxHeartbeats 400000 in
theorem markSubS_any (xs:List Sb) (k:Int) (w:World) (S:Nat->Prop) (v:Value) (h:AtS w S (subs xs) v) (hs:Soft S w) (h0:0<=k) (h1:k+2*xs.length<=1073741824):
  Calls Tryz.prog 73 #[v,.int .i64 k] w λe w'=>e= .returned (.int .i64 (k+2*xs.length))/\Like S w w':=by
 obtain⟨A,c,rfl,hn,hc⟩:=AtS.slice h
 have HS:=Lib.hid hs
 clear hs
 go_enter Tryz.func73,Tryz.ntmps73
 go_wp2_with fail
 go_loopw [1,5] (λkk i wr=>∃j:Nat,j<=xs.length/\i= .int .i64 j/\kk= .int .i64 (k+2*j)/\Like S w wr) (λ_ i _=>xs.length-(intOf i).toNat)
 case atStart=>exact⟨0,Nat.zero_le _,rfl,by simp,Like.refl _ _⟩
 case round=>
  obtain⟨j,hj,rfl,rfl,hL⟩:=hrel
  by_cases hlt:j<xs.length
  ·obtain⟨b,off,x,y,rfl,hb,hlb,hc1,hc2⟩:=subs_getS (h.next hL) hlt
   have f0:=(HS.out.like hL b hb).2 (off+j*2)
   have f1:=(HS.out.like hL b hb).2 (off+j*2+1)
   have L1:=Lib.hid (hL.set hc1 (kin.int _ (k+2*j) (WalkArith.wf_i64 ⟨by omega,by omega⟩)) hb)
   have HD:=Lib.hid ((World.cell?_setCell_other wr ⟨b,off+j*2,none⟩ ⟨b,off+j*2+1,none⟩ (.int .i64 (k+2*j)) (by simp)).trans hc2)
   go_wp2_with fail
   go_roundw
   case rel=>exact⟨j+1,by omega,by go_num,by go_num,L1.out.set HD.out (kin.int _ _ (WalkArith.wf_i64 ⟨by omega,by omega⟩)) hb⟩
   case measure=>simp[intOf];omega
  ·go_wp2_with fail
   go_ret
   obtain rfl:j=xs.length:=by omega
   exact⟨rfl,hL⟩
set_option maxHeartbeats 400000 in
theorem markSorts_any (x:So) (k:Int) (w:World) (S:Nat->Prop) (v u:Value) (h:AtS w S (strs (So.names x)) v) (g:AtS w S (subs (So.subs x)) u) (hs:Soft S w) (h0:0<=k) (h1:k+(So.names x).length+2*(So.subs x).length<=1073741824):
  Calls Tryz.prog 33 #[.agg #[v,u],.int .i64 k] w λe w'=>e= .returned (.int .i64 (k+(So.names x).length+2*(So.subs x).length))/\Like S w w':=by
 obtain⟨A,c,rfl,hn,hc⟩:=AtS.slice h
 obtain⟨B,d,rfl,hm,hd⟩:=AtS.slice g
 obtain⟨p,ep⟩:∃o,o=Obj.cells #[.slice A (So.names x).length c,.slice B (So.subs x).length d] 37:=⟨_,rfl⟩
 have HS:=Lib.hid (hs.alloc p)
 have H1:=Lib.hid (h.alloc p)
 have H2:=Lib.hid (g.alloc p)
 rw[ep]at HS H1 H2
 clear ep
 have B0:=Lib.hid (Blk.new w 37 #[.slice A (So.names x).length c,.slice B (So.subs x).length d])
 have nS:¬S w.heap.size:=λq=>by have:=(hs _ q).1;omega
 clear hs h g
 go_enter Tryz.func33,Tryz.ntmps33
 go_wp2_with fail
 refine(markStringS_any (So.names x) k _ S _ H1.out HS.out h0 (by omega)).mono ?_
 rintro e w1 ⟨rfl,L1⟩
 obtain⟨q1,q2⟩:=(L1.blk B0.out nS).c2
 have H2:=Lib.hid (H2.out.next L1)
 have HS:=Lib.hid (HS.out.like L1)
 have HL:=Lib.hid (Like.front _ L1)
 clear L1
 go_wp2_with fail
 refine(markSubS_any (So.subs x) _ _ S _ H2.out HS.out (by omega) (by omega)).mono ?_
 rintro e w2 ⟨rfl,L2⟩
 have HL:=Lib.hid (HL.out.trans L2)
 clear L2
 go_wp2_with fail
 go_ret
 exact⟨rfl,HL.out⟩
def dcM (x:Dc):Nat:=1+(Dc.args x).length
def dcsM (xs:List Dc):Nat:=xs.length+(xs.map dcM).sum
def opM (x:Opr):Nat:=4+dcsM (Opr.decls x)
def opsM (xs:List Opr):Nat:=xs.length+(xs.map opM).sum
theorem dcsM_le (xs:List Dc):dcsM xs<=2*dcsW xs:=by
 unfold dcsM dcsW
 induction xs with
 |nil=>simp
 | cons x l ih =>
  have h1:dcM x=1+(Dc.args x).length:=rfl
  have h2:dcW x=(Dc.args x).length:=rfl
  simp only[List.length_cons,List.map_cons,List.sum_cons]
  omega
theorem opsM_le (xs:List Opr):opsM xs<=5*opsW xs:=by
 unfold opsM opsW
 induction xs with
 |nil=>simp
 | cons x l ih =>
  have h1:opM x=4+dcsM (Opr.decls x):=rfl
  have h2:opW x=dcsW (Opr.decls x):=rfl
  have h3:=dcsM_le (Opr.decls x)
  simp only[List.length_cons,List.map_cons,List.sum_cons]
  omega
set_option maxHeartbeats 400000 in
theorem markDeclS_any (xs:List Dc) (k:Int) (w:World) (S:Nat->Prop) (v:Value) (h:AtS w S (decs xs) v) (hs:Soft S w) (h0:0<=k) (h1:k+dcsM xs<=1073741824):
  Calls Tryz.prog 75 #[v,.int .i64 k] w λe w'=>∃k':Int,e= .returned (.int .i64 k')/\k<=k'/\k'<=k+dcsM xs/\Like S w w':=by
 obtain⟨A,c,rfl,hn,hc⟩:=AtS.slice h
 unfold dcsM at h1 ⊢
 have HS:=Lib.hid hs
 clear hs
 go_enter Tryz.func75,Tryz.ntmps75
 go_wp2_with fail
 go_loopw [1,5] (λl i wr=>∃(j:Nat) (kk:Int),j<=xs.length/\i= .int .i64 j/\l= .int .i64 kk/\k<=kk/\kk<=k+sumOf dcM xs j/\Like S w wr) (λ_ i _=>xs.length-(intOf i).toNat)
 case atStart=>exact⟨0,k,Nat.zero_le _,rfl,rfl,Int.le_refl _,by rw[sumOf_zero];omega,Like.refl _ _⟩
 case round=>
  obtain⟨j,kk,hj,rfl,rfl,hk1,hk2,hL⟩:=hrel
  have hle:=sumOf_le dcM xs j
  by_cases hlt:j<xs.length
  ·obtain⟨b,off,x,y,u,rfl,hb,hlb,hc1,hu,hc2,HX⟩:=decs_getS (h.next hL) hlt
   obtain⟨A',c',rfl,hn',hc'⟩:=AtS.slice hu
   have hq:=sumOf_succ (f:=dcM) HX.out
   have hle1:=sumOf_le dcM xs (j+1)
   have hd:dcM x=1+(Dc.args x).length:=rfl
   have HQ:=Lib.hid hq
   have HC:=Lib.hid hc2
   clear hc2
   go_wp2_with fail
   refine(markIntS_any (Dc.args x) kk _ S _ hu (HS.out.like hL) (by omega) (by omega)).mono ?_
   rintro e w1 ⟨rfl,L1⟩
   obtain⟨t2,d2⟩:=L1.cInt HC.out
   have f0:=((HS.out.like hL).like L1 b hb).2 (off+j*2+1)
   have HL:=Lib.hid ((hL.trans L1).set d2 (kin.int t2 (kk+(Dc.args x).length) (WalkArith.wf_i64 ⟨by omega,by omega⟩)) hb)
   clear L1
   go_wp2_with fail
   go_roundw
   case rel=>exact⟨j+1,kk+(Dc.args x).length+1,by omega,by go_num,rfl,by omega,by omega,HL.out⟩
   case measure=>simp[intOf];omega
  ·go_wp2_with fail
   go_ret
   exact⟨kk,rfl,hk1,by omega,hL⟩
set_option maxHeartbeats 2000000 in
theorem markOpS_any (xs:List Opr) (k:Int) (w:World) (S:Nat->Prop) (v:Value) (h:AtS w S (oprs xs) v) (hs:Soft S w) (h0:0<=k) (h1:k+opsM xs<=1073741824):
  Calls Tryz.prog 34 #[v,.int .i64 k] w λe w'=>∃k':Int,e= .returned (.int .i64 k')/\k<=k'/\k'<=k+opsM xs/\Like S w w':=by
 obtain⟨A,c,rfl,hn,hc⟩:=AtS.slice h
 unfold opsM at h1 ⊢
 have HS:=Lib.hid hs
 clear hs
 go_enter Tryz.func34,Tryz.ntmps34
 go_wp2_with fail
 go_loopw [1,5] (λl i wr=>∃(j:Nat) (kk:Int),j<=xs.length/\i= .int .i64 j/\l= .int .i64 kk/\k<=kk/\kk<=k+sumOf opM xs j/\Like S w wr) (λ_ i _=>xs.length-(intOf i).toNat)
 case atStart=>exact⟨0,k,Nat.zero_le _,rfl,rfl,Int.le_refl _,by rw[sumOf_zero];omega,Like.refl _ _⟩
 case round=>
  obtain⟨j,kk,hj,rfl,rfl,hk1,hk2,hL⟩:=hrel
  have hle:=sumOf_le opM xs j
  by_cases hlt:j<xs.length
  ·obtain⟨b,off,x,nm,u,p,q,z,rfl,hb,hlb,hc1,hc2,hu,hc3,hc4,hc5,HX⟩:=oprs_getS (h.next hL) hlt
   obtain⟨A',c',rfl,hn',hc'⟩:=AtS.slice hu
   have hq:=sumOf_succ (f:=opM) HX.out
   have hle1:=sumOf_le opM xs (j+1)
   have hd:opM x=4+dcsM (Opr.decls x):=rfl
   have HQ:=Lib.hid hq
   have HC1:=Lib.hid hc1
   have HC2:=Lib.hid hc2
   have HC3:=Lib.hid hc3
   have HC4:=Lib.hid hc4
   have HC5:=Lib.hid hc5
   clear hc1 hc2 hc3 hc4 hc5
   go_wp2_with fail
   refine(markText_any kk _ (by omega) (by omega)).mono ?_
   rintro e w1 ⟨s1,rfl,hs1,hb1⟩
   have L1:Hid (Like S wr w1):=Lib.hid (Like.of_below hb1)
   obtain⟨t1,d1⟩:=L1.out.cStr HC1.out
   have f0:=((HS.out.like hL).like L1.out b hb).2 (off+j*5)
   have L2:=Lib.hid (L1.out.set d1 (kin.str t1 s1 hs1) hb)
   have d2:=L2.out.cSlice HC2.out
   go_wp2_with fail
   clear d1 d2 f0
   refine(markDeclS_any (Opr.decls x) _ _ S _ (hu.next L2.out) ((HS.out.like hL).like L2.out) (by omega) (by omega)).mono ?_
   rintro e w3 ⟨k3,rfl,hk3,hk4,L3⟩
   have L3:=Lib.hid (L2.out.trans L3)
   obtain⟨t3,d3⟩:=L3.out.cBool HC3.out
   obtain⟨t4,d4⟩:=L3.out.cBool HC4.out
   obtain⟨t5,d5⟩:=L3.out.cInt HC5.out
   have hf:=((HS.out.like hL).like L3.out b hb).2
   have f2:=hf (off+j*5+2)
   have f3:=hf (off+j*5+3)
   have f4:=hf (off+j*5+4)
   clear hf
   have L4:=Lib.hid (L3.out.set d3 (kin.bool t3 (k3%3==0)) hb)
   have D4:=Lib.hid ((World.cell?_setCell_other w3 ⟨b,off+j*5+2,none⟩ ⟨b,off+j*5+3,none⟩ (.bool (k3%3==0)) (by simp)).trans d4)
   have L5:=Lib.hid (L4.out.set D4.out (kin.bool t4 ((k3+1)%3==0)) hb)
   have D5:=Lib.hid ((World.cell?_setCell_other (w3.setCell ⟨b,off+j*5+2,none⟩ (.bool (k3%3==0))) ⟨b,off+j*5+3,none⟩ ⟨b,off+j*5+4,none⟩ (.bool ((k3+1)%3==0)) (by simp)).trans ((World.cell?_setCell_other w3 ⟨b,off+j*5+2,none⟩ ⟨b,off+j*5+4,none⟩ (.bool (k3%3==0)) (by simp)).trans d5))
   have L6:=Lib.hid (L5.out.set D5.out (kin.int t5 (k3+1+1) (WalkArith.wf_i64 ⟨by omega,by omega⟩)) hb)
   clear L3 L4 L5 D4 D5
   go_wp2_with fail
   go_roundw
   case rel=>
    have hqo:=HQ.out
    exact⟨j+1,_,by omega,by go_num,rfl,by omega,by omega,hL.trans L6.out⟩
   case measure=>simp[intOf];omega
  ·go_wp2_with fail
   go_ret
   exact⟨kk,rfl,hk1,by omega,hL⟩
def sgM (s:Sg):Nat:=(So.names (Sg.sorts s)).length+2*(So.subs (Sg.sorts s)).length+opsM (Sg.ops s)
theorem sgM_le (s:Sg):sgM s<=5*sgW s:=by
 have:=opsM_le (Sg.ops s)
 unfold sgM sgW
 omega
set_option maxHeartbeats 400000 in
theorem markSignature_any (x:Sg) (k:Int) (w:World) (S:Nat->Prop) (v u z:Value) (h:AtS w S (strs (So.names (Sg.sorts x))) v) (g:AtS w S (subs (So.subs (Sg.sorts x))) u) (l:AtS w S (oprs (Sg.ops x)) z) (hs:Soft S w) (h0:0<=k) (h1:k+sgM x<=1073741824):
  Calls Tryz.prog 11 #[.agg #[v,u,z],.int .i64 k] w λe w'=>∃k':Int,e= .returned (.int .i64 k')/\k<=k'/\k'<=k+sgM x/\Like S w w':=by
 obtain⟨A,c,rfl,hn,hc⟩:=AtS.slice h
 obtain⟨B,d,rfl,hm,hd⟩:=AtS.slice g
 obtain⟨C,f,rfl,hp,hf⟩:=AtS.slice l
 unfold sgM at h1 ⊢
 obtain⟨p,ep⟩:∃o,o=Obj.cells #[.slice A (So.names (Sg.sorts x)).length c,.slice B (So.subs (Sg.sorts x)).length d,.slice C (Sg.ops x).length f] 40:=⟨_,rfl⟩
 have HS:=Lib.hid (hs.alloc p)
 have H1:=Lib.hid (h.alloc p)
 have H2:=Lib.hid (g.alloc p)
 have H3:=Lib.hid (l.alloc p)
 rw[ep]at HS H1 H2 H3
 clear ep
 have B0:=Lib.hid (Blk.new w 40 #[.slice A (So.names (Sg.sorts x)).length c,.slice B (So.subs (Sg.sorts x)).length d,.slice C (Sg.ops x).length f])
 have nS:¬S w.heap.size:=λq=>by have:=(hs _ q).1;omega
 clear hs h g l
 go_enter Tryz.func11,Tryz.ntmps11
 go_wp2_with fail
 refine(markSorts_any (Sg.sorts x) k _ S _ _ H1.out H2.out HS.out h0 (by omega)).mono ?_
 rintro e w1 ⟨rfl,L1⟩
 obtain⟨q1,q2,q3⟩:=(L1.blk B0.out nS).c3
 have H3:=Lib.hid (H3.out.next L1)
 have HS:=Lib.hid (HS.out.like L1)
 have HL:=Lib.hid (Like.front _ L1)
 clear L1
 go_wp2_with fail
 refine(markOpS_any (Sg.ops x) _ _ S _ H3.out HS.out (by omega) (by omega)).mono ?_
 rintro e w2 ⟨k2,rfl,hk1,hk2,L2⟩
 have HL:=Lib.hid (HL.out.trans L2)
 clear L2
 go_wp2_with fail
 go_ret
 exact⟨_,rfl,by omega,by omega,HL.out⟩
end Go.Proofs.YtfdkldmkbibknaaGreat

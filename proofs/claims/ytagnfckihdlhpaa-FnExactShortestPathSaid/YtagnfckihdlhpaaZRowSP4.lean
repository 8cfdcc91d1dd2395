/-
  Texts that the claim rests on, merged: FormSz, FormTo, To.
-/
import Derived.Test.YtagnfckihdlhpaaZRowSP2
import Derived.Test.YtagnfckihdlhpaaZRowSP3

namespace Go.Proofs.Ytagnfckihdlhpaa
open Go.RowKit
end Go.Proofs.Ytagnfckihdlhpaa

namespace Go.Proofs.Ytagnfckihdlhpaa
open Go.RowKit
end Go.Proofs.Ytagnfckihdlhpaa

namespace Go.Proofs.Ytagnfckihdlhpaa
open Go.RowKit
set_option maxHeartbeats 400000 in
theorem toIntS_so (xs:List Int) (w:World) (S:Nat->Prop) (v:Value) (h:At w S (ints xs) v) (h1:xs.length<=1048576):
  Calls Try.prog 31 #[v] w fun e w'=>∃v',e= .returned v'/\At w' (From w.heap.size) (ints xs) v'/\Below w.heap.size w w'/\Unf w w':=by
 obtain⟨A,c,rfl,hn,hc⟩:=ints_slice h
 have hmk:=run_make_row' (P:=Try.prog) 22 3 (.int .i64 0) 8 Try.underlying22 Try.info3 rfl .i64 .i64 xs.length (by omega) (by omega)
 go_enter Try.func31,Try.ntmps31
 go_wp2
 go_loopw [4] (fun i wr=>∃(k:Nat) (cs:Array Value),k<=xs.length/\i= .int .i64 k/\Blk wr w.heap.size 3 cs/\cs.size=xs.length/\(∀j,j<k->cs[j]? =some (.int .i64 (xs.getD j 0)))/\Below w.heap.size w wr/\Unf w wr)
  (fun i _=>xs.length-(intOf i).toNat)
 case atStart=>exact⟨0,_,Nat.zero_le _,rfl,Blk.new _ _ _,by simp[madeCells],fun j hj=>by omega,(Below.refl _ _).alloc (Nat.le_refl _) _,by repeat (first|with_reducible exact Unf.refl _|with_reducible assumption|with_reducible refine Unf.setCell ?_ _ _|with_reducible refine Unf.drew ?_|with_reducible refine Unf.drewN ?_ _|with_reducible refine Unf.alloc ?_ _ _|with_reducible refine Unf.trans ?_ (by assumption))⟩
 case round=>
  obtain⟨k,cs,hk,rfl,hblk,hsz,hdone,hb,un⟩:=hrel
  by_cases hlt:k<xs.length
  ·obtain⟨b,off,rfl,_,hlb,hcell⟩:=ints_at h (by omega)
   obtain⟨hc1,hwf⟩:=hcell k hlt
   have hc2:wr.cell? ⟨b,off+k,none⟩=some (.int .i64 (xs.getD k 0)):=(hb.cell (p:=⟨b,off+k,none⟩) hlb).trans hc1
   have hc3:∃u,wr.cell? ⟨w.heap.size,k,none⟩=some u:=⟨cs[k]'(by omega),by rw[hblk.cell];simp[hsz,hlt]⟩
   obtain⟨u,hc3⟩:=hc3
   have hfz:=hblk.frozen k
   have HS:=Lib.hid hsz
   have HD:=Lib.hid hdone
   have HB:=Lib.hid hblk
   clear hsz hdone hcell hc1 hblk hmk
   go_wp2
   go_roundw
   case rel=>
    refine⟨k+1,_,by omega,by go_num,HB.out.set_ k _,by simpa using HS.out,fun j hj=> ?_,hb.setCell (by simp) _,by repeat (first|with_reducible exact Unf.refl _|with_reducible assumption|with_reducible refine Unf.setCell ?_ _ _|with_reducible refine Unf.drew ?_|with_reducible refine Unf.drewN ?_ _|with_reducible refine Unf.alloc ?_ _ _|with_reducible refine Unf.trans ?_ (by assumption))⟩
    by_cases hjk:j=k
    ·subst hjk;simp[HS.out,hlt]
    ·rw[Array.getElem?_setIfInBounds_ne (by omega)];exact HD.out j (by omega)
   case measure=>simp[intOf];omega
  ·have HS:=Lib.hid hsz
   have HD:=Lib.hid hdone
   have HB:=Lib.hid hblk
   clear hsz hdone hblk hmk
   go_wp2
   go_ret
   refine⟨_,rfl,ints_mk (Nat.le_refl _) (by omega) fun _=>⟨w.heap.size,0,rfl,Nat.le_refl _,fun j hj=>⟨?_,?_⟩⟩,hb,un⟩
   ·rw[HB.out.cell];simpa using HD.out j (by omega)
   ·obtain⟨b,off,_,_,_,hcell⟩:=ints_at h (by omega)
    exact(hcell j hj).2
set_option maxHeartbeats 1000000 in
theorem toIntSS_so (xss:List (List Int)) (w:World) (S:Nat->Prop) (v:Value) (h:At w S (rows xss) v) (h1:rowTotals xss<=1048576):
  Calls Try.prog 50 #[v] w fun e w'=>∃v',e= .returned v'/\At w' (From w.heap.size) (rows xss) v'/\Below w.heap.size w w'/\Unf w w':=by
 obtain⟨A,c,rfl,hn,hc⟩:=rows_slice h
 unfold rowTotals at h1
 have hmk:=run_make_row' (P:=Try.prog) 43 22 _ 24 Try.underlying43 Try.infoInts rfl .i64 .i64 xss.length (by omega) (by omega)
 go_enter Try.func50,Try.ntmps50
 go_wp2_with fail
 go_loopw [4] (fun i wr=>∃(k:Nat) (cs:Array Value),k<=xss.length/\i= .int .i64 k/\Blk wr w.heap.size 22 cs/\ToRowI wr (w.heap.size+1) xss k cs/\Below w.heap.size w wr/\Unf w wr)
  (fun i _=>xss.length-(intOf i).toNat)
 case atStart=>exact⟨0,_,Nat.zero_le _,rfl,Blk.new _ _ _,⟨made_size _ _,fun j _ hj=>by omega⟩,(Below.refl _ _).alloc (Nat.le_refl _) _,by repeat (first|with_reducible exact Unf.refl _|with_reducible assumption|with_reducible refine Unf.setCell ?_ _ _|with_reducible refine Unf.drew ?_|with_reducible refine Unf.drewN ?_ _|with_reducible refine Unf.alloc ?_ _ _|with_reducible refine Unf.trans ?_ (by assumption))⟩
 case round=>
  obtain⟨k,cs,hk,rfl,hblk,hrow,hb,un⟩:=hrel
  have HB:=Lib.hid hblk
  have HR:=Lib.hid hrow
  clear hblk hrow hmk
  by_cases hlt:k<xss.length
  ·obtain⟨b,off,xs,u,rfl,_,hlb,hc1,hu,HX⟩:=rows_get (h.below hb) hlt
   obtain⟨Au,cu,rfl,hnu,hcu⟩:=ints_slice hu
   have hle:=le_sum_of_mem (f:=List.length) (List.mem_of_getElem? HX.out)
   have hbs:=HB.out.lt
   go_wp2_with fail
   refine(toIntS_so xs _ S _ hu (by omega)).mono ?_
   rintro e w1 ⟨v',rfl,ha,hb1,un1⟩
   obtain⟨A',c',rfl,hn',hc'⟩:=ints_slice ha
   have HB1:=Lib.hid (HB.out.next hb1)
   have hsz:=HR.out.1
   obtain⟨d0,e0⟩:∃d,w1.cell? ⟨w.heap.size,k,none⟩=some d:=⟨_,(HB1.out.cell _).trans (Array.getElem?_eq_getElem (by omega))⟩
   have f0:=HB1.out.frozen k
   clear hsz
   go_wp2_with fail
   go_roundw
   case rel=>exact⟨k+1,_,by omega,by go_num,HB1.out.set_ _ _,HR.out.step hb1 HX.out (ha.mono (by simp only[From];omega)) (by simp),by repeat (first|with_reducible exact Below.refl _ _|with_reducible refine Below.setCell ?_ (by first|omega|(simp<;>omega)) _|with_reducible refine Below.drew ?_|with_reducible refine below_drewN ?_ _|with_reducible refine Below.alloc ?_ (by first|omega|(simp<;>omega)) _|with_reducible refine Below.trans ?_ (Below.mono (by assumption) (by first|omega|(simp<;>omega)))),by repeat (first|with_reducible exact Unf.refl _|with_reducible assumption|with_reducible refine Unf.setCell ?_ _ _|with_reducible refine Unf.drew ?_|with_reducible refine Unf.drewN ?_ _|with_reducible refine Unf.alloc ?_ _ _|with_reducible refine Unf.trans ?_ (by assumption))⟩
   case measure=>simp[intOf];omega
  ·go_wp2_with fail
   go_ret
   refine⟨_,rfl,rows_mk (Nat.le_refl _) (by omega) fun _=>⟨w.heap.size,0,rfl,Nat.le_refl _,fun j xs hj=> ?_⟩,hb,un⟩
   obtain⟨v,e0,hat⟩:=HR.out.2 j xs (by have:=(List.getElem?_eq_some_iff.1 hj).1;omega) hj
   exact⟨v,by rw[Nat.zero_add,HB.out.cell];exact e0,hat.mono (by simp only[From];omega)⟩
def ToTU (t:Tm):Prop:=∀(w:World) (S:Nat->Prop) (v:Value),At w S (terms t.args) v->t.total<=1048576->
  Calls Try.prog 72 #[.agg #[.int .i64 t.op,.string t.name,.int .i64 t.sort,v]] w fun e w'=>∃v',e= .returned (.agg #[.int .i64 t.op,.string t.name,.int .i64 t.sort,v'])/\At w' (From w.heap.size) (terms t.args) v'/\Below w.heap.size w w'/\Unf w w'
set_option maxHeartbeats 1000000 in
theorem toTermS_ofU (ts:List Tm) (ih:∀x∈ts,ToTU x) (w:World) (S:Nat->Prop) (v:Value) (h:At w S (terms ts) v) (h1:tmTotals ts<=1048576):
  Calls Try.prog 49 #[v] w fun e w'=>∃v',e= .returned v'/\At w' (From w.heap.size) (terms ts) v'/\Below w.heap.size w w'/\Unf w w':=by
 obtain⟨A,c,rfl,hn,hc⟩:=terms_slice h
 have IH:=Lib.hid ih
 clear ih
 unfold tmTotals at h1
 have hmk:=make_rowN (P:=Try.prog) 48 100 _ 4 56 Try.underlying48 Try.infoTerm ts.length (by omega) (by omega)
 go_enter Try.func49,Try.ntmps49
 go_wp2_with fail
 go_loopw [4] (fun i wr=>∃(k:Nat) (cs:Array Value),k<=ts.length/\i= .int .i64 k/\Blk wr w.heap.size 100 cs/\ToRowT wr (w.heap.size+1) ts k cs/\Below w.heap.size w wr/\Unf w wr)
  (fun i _=>ts.length-(intOf i).toNat)
 case atStart=>exact⟨0,_,Nat.zero_le _,rfl,Blk.new _ _ _,⟨made_size _ _,fun j _ hj=>by omega⟩,(Below.refl _ _).alloc (Nat.le_refl _) _,by repeat (first|with_reducible exact Unf.refl _|with_reducible assumption|with_reducible refine Unf.setCell ?_ _ _|with_reducible refine Unf.drew ?_|with_reducible refine Unf.drewN ?_ _|with_reducible refine Unf.alloc ?_ _ _|with_reducible refine Unf.trans ?_ (by assumption))⟩
 case round=>
  obtain⟨k,cs,hk,rfl,hblk,hrow,hb,un⟩:=hrel
  have HB:=Lib.hid hblk
  have HR:=Lib.hid hrow
  clear hblk hrow hmk
  by_cases hlt:k<ts.length
  ·obtain⟨b,off,t,u,rfl,_,hlb,hc1,hc2,hc3,hc4,hu,HX,_⟩:=terms_get (h.below hb) hlt
   have hmem:=List.mem_of_getElem? HX.out
   have hle:=le_sum_of_mem (f:=Tm.total) hmem
   have hbs:=HB.out.lt
   go_wp2_with fail
   refine(IH.out t hmem _ S _ hu (by omega)).mono ?_
   rintro e w1 ⟨v',rfl,ha,hb1,un1⟩
   obtain⟨A',c',rfl,hn',hc'⟩:=terms_slice ha
   have HB1:=Lib.hid (HB.out.next hb1)
   have hsz:=HR.out.1
   obtain⟨d0,e0⟩:∃d,w1.cell? ⟨w.heap.size,k*4,none⟩=some d:=⟨_,(HB1.out.cell _).trans (Array.getElem?_eq_getElem (by omega))⟩
   obtain⟨d1,e1⟩:∃d,w1.cell? ⟨w.heap.size,k*4+1,none⟩=some d:=⟨_,(HB1.out.cell _).trans (Array.getElem?_eq_getElem (by omega))⟩
   obtain⟨d2,e2⟩:∃d,w1.cell? ⟨w.heap.size,k*4+2,none⟩=some d:=⟨_,(HB1.out.cell _).trans (Array.getElem?_eq_getElem (by omega))⟩
   obtain⟨d3,e3⟩:∃d,w1.cell? ⟨w.heap.size,k*4+3,none⟩=some d:=⟨_,(HB1.out.cell _).trans (Array.getElem?_eq_getElem (by omega))⟩
   have f0:=HB1.out.frozen (k*4)
   have f1:=HB1.out.frozen (k*4+1)
   have f2:=HB1.out.frozen (k*4+2)
   have f3:=HB1.out.frozen (k*4+3)
   clear hsz
   go_wp2_with fail
   go_roundw
   case rel=>exact⟨k+1,_,by omega,by go_num,(((HB1.out.set_ _ _).set_ _ _).set_ _ _).set_ _ _,HR.out.step hb1 HX.out (ha.mono (by simp only[From];omega)) (by simp) (by simp) (by simp) (by simp),by repeat (first|with_reducible exact Below.refl _ _|with_reducible refine Below.setCell ?_ (by first|omega|(simp<;>omega)) _|with_reducible refine Below.drew ?_|with_reducible refine below_drewN ?_ _|with_reducible refine Below.alloc ?_ (by first|omega|(simp<;>omega)) _|with_reducible refine Below.trans ?_ (Below.mono (by assumption) (by first|omega|(simp<;>omega)))),by repeat (first|with_reducible exact Unf.refl _|with_reducible assumption|with_reducible refine Unf.setCell ?_ _ _|with_reducible refine Unf.drew ?_|with_reducible refine Unf.drewN ?_ _|with_reducible refine Unf.alloc ?_ _ _|with_reducible refine Unf.trans ?_ (by assumption))⟩
   case measure=>simp[intOf];omega
  ·go_wp2_with fail
   go_ret
   refine⟨_,rfl,terms_mk (Nat.le_refl _) (by omega) fun _=>⟨w.heap.size,0,rfl,Nat.le_refl _,fun j t hj=> ?_⟩,hb,un⟩
   obtain⟨v,e0,e1,e2,e3,hat⟩:=HR.out.2 j t (by have:=(List.getElem?_eq_some_iff.1 hj).1;omega) hj
   refine⟨v,?_,?_,?_,?_,hat.mono (by simp only[From];omega),terms_fits h hj⟩
   ·rw[Nat.zero_add,HB.out.cell];exact e0
   ·rw[Nat.zero_add,HB.out.cell];exact e1
   ·rw[Nat.zero_add,HB.out.cell];exact e2
   ·rw[Nat.zero_add,HB.out.cell];exact e3
set_option maxHeartbeats 400000 in
theorem toTerm_so (t:Tm):ToTU t:=by
 induction t using Tm.induct with
 | h o n s args ih =>
  intro w S v h h1
  rw[Tm.total_eq]at h1
  have IH:=Lib.hid ih
  clear ih
  obtain⟨A,c,rfl,hn,hc⟩:=terms_slice h
  go_enter Try.func72,Try.ntmps72
  go_wp2_with fail
  refine(toTermS_ofU args IH.out _ S _ (((h.alloc _).alloc _).alloc _) (by omega)).mono ?_
  rintro e w1 ⟨v',rfl,ha,hb,un1⟩
  obtain⟨A',c',rfl,hn',hc'⟩:=terms_slice ha
  obtain⟨hc1,hf1⟩:=bcell hb
  go_wp2_with fail
  refine bodyPost_ret (v:=.agg #[.int .i64 o,.string n,.int .i64 s,.slice A' args.length c']) (by simp[results,Try.results72,go_sem,hc1]) rfl ⟨_,rfl,?_,?_,?_⟩
  ·refine At.mono (((((ha.setCell ?_ _).setCell ?_ _).setCell ?_ _).setCell ?_ _).setCell ?_ _) ?_<;>simp[From]<;>omega
  ·repeat (first|with_reducible exact Below.refl _ _|with_reducible refine Below.setCell ?_ (by first|omega|(simp<;>omega)) _|with_reducible refine Below.drew ?_|with_reducible refine below_drewN ?_ _|with_reducible refine Below.alloc ?_ (by first|omega|(simp<;>omega)) _|with_reducible refine Below.trans ?_ (Below.mono (by assumption) (by first|omega|(simp<;>omega))))
  ·repeat (first|with_reducible exact Unf.refl _|with_reducible assumption|with_reducible refine Unf.setCell ?_ _ _|with_reducible refine Unf.drew ?_|with_reducible refine Unf.drewN ?_ _|with_reducible refine Unf.alloc ?_ _ _|with_reducible refine Unf.trans ?_ (by assumption))
theorem toTermS_so (ts:List Tm) (w:World) (S:Nat->Prop) (v:Value) (h:At w S (terms ts) v) (h1:tmTotals ts<=1048576):
  Calls Try.prog 49 #[v] w fun e w'=>∃v',e= .returned v'/\At w' (From w.heap.size) (terms ts) v'/\Below w.heap.size w w'/\Unf w w':=
 toTermS_ofU ts (fun x _=>toTerm_so x) w S v h h1
set_option maxHeartbeats 400000 in
theorem toGraph_so (g:Gr) (w:World) (v u:Value) (h:At w Any (terms g.states) v) (h':At w Any (rows g.edges) u) (h1:g.total<=1048576):
  Calls Try.prog 22 #[.agg #[v,u,.bool g.whole]] w fun e w'=>∃v' u',e= .returned (.agg #[v',u',.bool g.whole])/\At w' (From w.heap.size) (terms g.states) v'/\At w' (From w.heap.size) (rows g.edges) u'/\Below w.heap.size w w'/\Unf w w':=by
 obtain⟨A,c,rfl,hn,hc⟩:=terms_slice h
 obtain⟨A',c',rfl,hn',hc'⟩:=rows_slice h'
 unfold Gr.total at h1
 have o':=h'.old
 have hB0:=((Blk.new w 45 #[.slice A g.states.length c,.slice A' g.edges.length c',.bool g.whole]).alloc (.cells #[.slice none 0 0,.slice none 0 0,.bool false] 50)).alloc (.cells #[.slice none 0 0,.slice none 0 0,.bool false] 50)
 have hR0:=(Blk.new (w.alloc (.cells #[.slice A g.states.length c,.slice A' g.edges.length c',.bool g.whole] 45)) 50 #[.slice none 0 0,.slice none 0 0,.bool false]).alloc (.cells #[.slice none 0 0,.slice none 0 0,.bool false] 50)
 have hO0:=Blk.new ((w.alloc (.cells #[.slice A g.states.length c,.slice A' g.edges.length c',.bool g.whole] 45)).alloc (.cells #[.slice none 0 0,.slice none 0 0,.bool false] 50)) 50 #[.slice none 0 0,.slice none 0 0,.bool false]
 rw[World.size_alloc]at hR0
 rw[World.size_alloc,World.size_alloc]at hO0
 go_enter Try.func22,Try.ntmps22
 go_wp2_with fail
 refine(toTermS_so _ _ Any _ (((h.alloc _).alloc _).alloc _) (by omega)).mono ?_
 rintro e w1 ⟨v1,rfl,ha1,hb1,un1⟩
 obtain⟨A1,c1,rfl,hn1,hcc1⟩:=terms_slice ha1
 have z:=hb1.size
 simp at z
 have hB1:=hB0.next hb1
 have hR1:=hR0.next hb1
 have hO1:=hO0.next hb1
 have h2:=((((o'.alloc _).alloc _).alloc _).below hb1).setCell (p:=⟨w.heap.size+1+1,0,none⟩) (by simp only[Old];omega) (.slice A1 g.states.length c1)
 have hB2:=hB1.far (p:=⟨w.heap.size+1+1,0,none⟩) (by simp only;omega) (.slice A1 g.states.length c1)
 have hR2:=hR1.far (p:=⟨w.heap.size+1+1,0,none⟩) (by simp only;omega) (.slice A1 g.states.length c1)
 have hO2:Blk (w1.setCell ⟨w.heap.size+1+1,0,none⟩ (.slice A1 g.states.length c1)) (w.heap.size+1+1) 50 #[.slice A1 g.states.length c1,.slice none 0 0,.bool false]:=hO1.set_ 0 _
 have ha2:=ha1.setCell (p:=⟨w.heap.size+1+1,0,none⟩) (by simp[From]) (.slice A1 g.states.length c1)
 obtain⟨_,_,_⟩:=hB1.c3
 obtain⟨_,_,_⟩:=hO1.c3
 have f0:=hO1.frozen 0
 go_wp2_with fail
 refine(toIntSS_so _ _ _ _ h2 (by omega)).mono ?_
 rintro e w3 ⟨v3,rfl,ha3,hb3,un3⟩
 obtain⟨A3,c3,rfl,hn3,hcc3⟩:=rows_slice ha3
 have z3:=hb3.size
 simp at z3
 have hB3:=hB2.next hb3
 have hR3:=hR2.next hb3
 have hO3:=hO2.next hb3
 have ha4:=ha2.below hb3
 obtain⟨_,_,_⟩:=hB3.c3
 obtain⟨r0,r1,r2⟩:=hR3.c3
 obtain⟨_,_,_⟩:=hO3.c3
 have f30:=hO3.frozen 1
 have f31:=hO3.frozen 2
 have f32:=hR3.frozen 0
 have f33:=hR3.frozen 1
 have f34:=hR3.frozen 2
 go_wp2_with fail
 refine bodyPost_ret (v:=.agg #[.slice A1 g.states.length c1,.slice A3 g.edges.length c3,.bool g.whole]) (by simp[results,Try.results22,go_sem,r0,r1,r2]) rfl ⟨_,_,rfl,?_,?_,?_,?_⟩
 ·refine At.mono (((((ha4.setCell ?_ _).setCell ?_ _).setCell ?_ _).setCell ?_ _).setCell ?_ _) ?_<;>simp[From]<;>omega
 ·refine At.mono (((((ha3.setCell ?_ _).setCell ?_ _).setCell ?_ _).setCell ?_ _).setCell ?_ _) ?_<;>simp[From]<;>omega
 ·repeat (first|with_reducible exact Below.refl _ _|with_reducible refine Below.setCell ?_ (by first|omega|(simp<;>omega)) _|with_reducible refine Below.drew ?_|with_reducible refine below_drewN ?_ _|with_reducible refine Below.alloc ?_ (by first|omega|(simp<;>omega)) _|with_reducible refine Below.trans ?_ (Below.mono (by assumption) (by first|omega|(simp<;>omega))))
 ·repeat (first|with_reducible exact Unf.refl _|with_reducible assumption|with_reducible refine Unf.setCell ?_ _ _|with_reducible refine Unf.drew ?_|with_reducible refine Unf.drewN ?_ _|with_reducible refine Unf.alloc ?_ _ _|with_reducible refine Unf.trans ?_ (by assumption))
end Go.Proofs.Ytagnfckihdlhpaa

/-
  Texts that the claim rests on, merged: Pick, Wrap0, Args, MarkT, MarkI.
-/
import Derived.Test.YtagnfckihdlhpaaZRowSP2
import Derived.Test.YtagnfckihdlhpaaZRowSP3
import Derived.Test.YtagnfckihdlhpaaZRowSP15
import Derived.Test.YtagnfckihdlhpaaZRowSP16

namespace Go.Proofs.Ytagnfckihdlhpaa.Den
open Go.RowKit
theorem wr_in {x:Int} (h: -9223372036854775808<=x/\x<=9223372036854775807):wr x=x:=Abs.wrap_in h.1 h.2
theorem ix_nat {α:Type} {xs:List α} {k:Nat}:ix xs (k:Int)=xs[k]? :=by simp[ix]
theorem lim_eq {α:Type} {xs:List α} (h:xs.length<=4294967296):lim xs=some xs:=by unfold lim;rw[Nat.ble_eq_true_of_le h];rfl
@[simp] theorem Fm.eta (f : Fm) : Fm.mk f.kind f.prop f.kids = f := by cases f; rfl
@[simp] theorem Cur.eta (c : Cur) : Cur.mk c.b c.i c.h = c := rfl
end Go.Proofs.Ytagnfckihdlhpaa.Den

namespace Go.Proofs.Ytagnfckihdlhpaa.Den
open Go.RowKit
open Abs (V AV)
end Go.Proofs.Ytagnfckihdlhpaa.Den

namespace Go.Proofs.Ytagnfckihdlhpaa.Den
open Go.RowKit
open Abs (V AV VRs VR)
theorem atrs_nil {ρ:Rho} {H:List Ob}:ATRs ρ H [] []:=⟨rfl,fun j h=>by simp at h⟩
theorem atrs_cons {ρ:Rho} {H:List Ob} {x:AT} {xs:List AT} {a:AV} {bs:List AV} (h:ATR ρ H x a) (k:ATRs ρ H xs bs):ATRs ρ H (x::xs) (a::bs):=by
 refine⟨by have:=k.1;simpa using this,fun j h1 h2=> ?_⟩
 cases j with
 |zero=>exact h
 |succ j=>exact k.2 j (by simpa using h1) (by simpa using h2)
end Go.Proofs.Ytagnfckihdlhpaa.Den

namespace Go.Proofs.Ytagnfckihdlhpaa.Den
open Go.RowKit
open Classical
theorem app_sizeM (a b:ByteArray):(a++b).size=a.size+b.size:=by simp
theorem sCat_eqM {a b:ByteArray} (h:a.size+b.size<=1099511627776):sCat a b=some (a++b):=by
 unfold sCat
 rw[decide_eq_true h];rfl
noncomputable def digs:Nat->Int->ByteArray->ByteArray
 |0,_,out=>out
 |m+1,k,out=>if 0<k then digs m (k / 10) (sOf [IntKind.wrap .u8 (wr (48+k%10))]++out)else out
theorem sOf_one (x:Int):(sOf [x]).size=1:=rfl
theorem digs_size :∀(m:Nat) (k:Int) (out:ByteArray),(digs m k out).size<=out.size+m
 |0,_,_=>Nat.le_refl _
 | m + 1, k, out => by
  unfold digs
  split
  ·have:=digs_size m (k / 10) (sOf [IntKind.wrap .u8 (wr (48+k%10))]++out)
   rw[app_sizeM,sOf_one]at this
   omega
  ·omega
theorem mark_loop {R:Type} (k0:ByteArray->Option R):∀(m:Nat) (k:Int) (out:ByteArray),0<=k->k<2^m->out.size+m<=1000->l_markText.l4 ⟨()⟩ 100 (m+1) k out k0=k0 (digs m k out)
 | 0, k, out, h0, h1, h2 => by
  show l_markText.b4 ⟨()⟩ 100 k out _ k0=_
  unfold l_markText.b4
  rw[decide_eq_false (by omega),cond_false];rfl
 | m + 1, k, out, h0, h1, h2 => by
  show l_markText.b4 ⟨()⟩ 100 k out (fun y0 y1=>l_markText.l4 ⟨()⟩ 100 (m+1) y0 y1 k0) k0=_
  unfold l_markText.b4 digs
  by_cases c:0<k
  ·rw[decide_eq_true c,cond_true,if_pos c,decide_eq_true h0,Bool.true_and,decide_eq_true (by omega),cond_true,cond_true,Option.bind_some,sCat_eqM (by rw[sOf_one];omega),Option.bind_some,Option.bind_some]
   exact mark_loop k0 m (k / 10) _ (by omega) (by rw[Int.pow_succ]at h1;omega) (by rw[app_sizeM,sOf_one];omega)
  ·rw[decide_eq_false c,cond_false,if_neg c]
noncomputable def markT (k:Int):ByteArray:=if k<=0 then ByteArray.mk #[109,48]else ByteArray.mk #[109]++digs 99 k ByteArray.empty
theorem mark_main {R : Type} (k : Int) (h0 : 0 ≤ k) (h1 : k ≤ 4611686018427387904) (K : ByteArray → Option R) : l_markText.main ⟨()⟩ 100 k K = K (markT k) := by
 unfold l_markText.main markT
 by_cases hk:k<=0
 ·rw[decide_eq_true hk,cond_true,if_pos hk]
 ·have hs:=digs_size 99 k ByteArray.empty
  have h5:(ByteArray.mk #[109]).size=1:=rfl
  have h6:ByteArray.empty.size=0:=rfl
  rw [decide_eq_false hk, cond_false, if_neg hk, mark_loop _ 99 k _ h0 (by have : (2 : Int) ^ 99 = 633825300114114700748351602688 := by decide
                                                                           omega) (by rw[h6];omega),sCat_eqM (by rw[h5];omega),Option.bind_some]
noncomputable def gMark:Int->Option ByteArray:=fun k=>if 0<=k/\k<=4611686018427387904 then some (markT k)else none
theorem mark_ok :EntOK Try.prog (l_markText.ent gMark):=l_markText.ok (G:=⟨()⟩) trivial fun k r h=>by
 unfold gMark at h
 split at h
 ·rename_i hp
  cases h
  exact⟨100,mark_main k hp.1 hp.2 _⟩
 ·cases h
end Go.Proofs.Ytagnfckihdlhpaa.Den
namespace Go.Proofs.Ytagnfckihdlhpaa
open Go.RowKit
theorem markText_any (k:Int) (w:World) (h0:0<=k) (h1:k<=4611686018427387904):
  Calls Try.prog 81 #[.int .i64 k] w fun e w'=>∃s:ByteArray,e= .returned (.string s)/\s.size<=maxLen/\Below w.heap.size w w':=by
 have hcfn:Den.CFn Try.prog 81 [.one (.i k)] [] (.one (.s (Den.markT k))) []:=by
  obtain⟨v,H',e,q⟩:=Den.mark_ok (Den.AT×List Den.Ob) [.one (.i k)] [] (fun v H'=>some (v,H')) _ (congrArg (fun o:Option ByteArray=>o.bind fun r=>some (Den.AT.one (.s r),([]:List Den.Ob))) (show Den.gMark k=some _ from if_pos ⟨h0,h1⟩))
  cases e
  exact q
 obtain⟨y,t0,a0⟩:=Den.arg_int (w:=w) (J:=fun b=>b<w.heap.size) (WalkArith.wf_i64 (show -9223372036854775808<=k/\k<=9223372036854775807 by omega))
 refine(Den.calls_cfn hcfn (fun _ h=>h) (Den.atrs_cons t0 Den.atrs_nil) (Den.ars_cons a0 Den.ars_nil)).mono fun e w' ⟨r,h',ι',I',c,ρ',e1,q1,_,D,hb⟩=> ?_
 obtain⟨v,v1,v2⟩:=Den.res_one q1 D.res
 obtain⟨rfl,hs⟩:=Den.res_str v1 v2
 exact⟨_,e1,hs,hb⟩
end Go.Proofs.Ytagnfckihdlhpaa

namespace Go.Proofs.Ytagnfckihdlhpaa
open Go.RowKit
theorem Like.cInt {S:Nat->Prop} {w w':World} (h:Like S w w') {b o:Nat} {x:Int} (hc:w.cell? ⟨b,o,none⟩=some (.int .i64 x)):∃y,w'.cell? ⟨b,o,none⟩=some (.int .i64 y):=by
 obtain⟨u,h1,h2⟩:=h.kin _ _ _ hc
 obtain⟨y,rfl⟩:=h2.eqInt
 exact⟨y,h1⟩
theorem Like.cStr {S:Nat->Prop} {w w':World} (h:Like S w w') {b o:Nat} {s:ByteArray} (hc:w.cell? ⟨b,o,none⟩=some (.string s)):∃t,w'.cell? ⟨b,o,none⟩=some (.string t):=by
 obtain⟨u,h1,h2⟩:=h.kin _ _ _ hc
 obtain⟨y,rfl⟩:=h2.eqStr
 exact⟨y,h1⟩
theorem Like.cSlice {S:Nat->Prop} {w w':World} (h:Like S w w') {b o n c:Nat} {A:Option Addr} (hc:w.cell? ⟨b,o,none⟩=some (.slice A n c)):w'.cell? ⟨b,o,none⟩=some (.slice A n c):=by
 obtain⟨u,h1,h2⟩:=h.kin _ _ _ hc
 rw[h2.eqSlice]at h1
 exact h1
set_option maxHeartbeats 400000 in
theorem markIntS_any (xs:List Int) (k:Int) (w:World) (S:Nat->Prop) (v:Value) (h:AtS w S (ints xs) v) (hs:Soft S w) (h0:0<=k) (h1:k+xs.length<=1073741824):
  Calls Try.prog 36 #[v,.int .i64 k] w fun e w'=>e= .returned (.int .i64 (k+xs.length))/\Like S w w':=by
 obtain⟨A,c,rfl,hn,hc⟩:=AtS.slice h
 go_enter Try.func36,Try.ntmps36
 go_wp2
 go_loopw [1,5] (fun kk i wr=>∃j:Nat,j<=xs.length/\i= .int .i64 j/\kk= .int .i64 (k+j)/\Like S w wr) (fun _ i _=>xs.length-(intOf i).toNat)
 case atStart=>exact⟨0,Nat.zero_le _,rfl,by simp,Like.refl _ _⟩
 case round=>
  obtain⟨j,hj,rfl,rfl,hL⟩:=hrel
  by_cases hlt:j<xs.length
  ·obtain⟨b,off,x,rfl,hb,hlb,hc1⟩:=ints_getS (h.next hL) hlt
   have f0:=(hs.like hL b hb).2 (off+j)
   have HC:=Lib.hid hc1
   go_wp2
   go_roundw
   case rel=>exact⟨j+1,by omega,by go_num,by go_num,hL.set HC.out (kin.int _ _ (WalkArith.wf_i64 ⟨by omega,by omega⟩)) hb⟩
   case measure=>simp[intOf];omega
  ·go_wp2
   go_ret
   obtain rfl:j=xs.length:=by omega
   exact⟨rfl,hL⟩
set_option maxHeartbeats 400000 in
theorem markIntSS_any (xss:List (List Int)) (k:Int) (w:World) (S:Nat->Prop) (v:Value) (h:AtS w S (rows xss) v) (hs:Soft S w) (h0:0<=k) (h1:k+rowTotals xss<=1073741824):
  Calls Try.prog 70 #[v,.int .i64 k] w fun e w'=>∃k':Int,e= .returned (.int .i64 k')/\k<=k'/\k'<=k+rowTotals xss/\Like S w w':=by
 obtain⟨A,c,rfl,hn,hc⟩:=AtS.slice h
 unfold rowTotals at h1 ⊢
 have HS:=Lib.hid hs
 clear hs
 go_enter Try.func70,Try.ntmps70
 go_wp2_with fail
 go_loopw [1,5] (fun l i wr=>∃(j:Nat) (kk:Int),j<=xss.length/\i= .int .i64 j/\l= .int .i64 kk/\k<=kk/\kk<=k+sumOf List.length xss j/\Like S w wr) (fun _ i _=>xss.length-(intOf i).toNat)
 case atStart=>exact⟨0,k,Nat.zero_le _,rfl,rfl,Int.le_refl _,by rw[sumOf_zero];omega,Like.refl _ _⟩
 case round=>
  obtain⟨j,kk,hj,rfl,rfl,hk1,hk2,hL⟩:=hrel
  have hle:=sumOf_le List.length xss j
  by_cases hlt:j<xss.length
  ·obtain⟨b,off,xs,u,rfl,hb,hlb,hc1,hu,HX⟩:=rows_getS (h.next hL) hlt
   obtain⟨A',c',rfl,hn',hc'⟩:=AtS.slice hu
   have HS1:=Lib.hid (sumOf_succ (f:=List.length) HX.out)
   have hle1:=sumOf_le List.length xss (j+1)
   have hq:=HS1.out
   go_wp2_with fail
   refine(markIntS_any xs kk _ S _ hu (HS.out.like hL) (by omega) (by omega)).mono ?_
   rintro e w1 ⟨rfl,hL1⟩
   go_wp2_with fail
   go_roundw
   case rel=>exact⟨j+1,kk+xs.length,by omega,by go_num,rfl,by omega,by omega,hL.trans hL1⟩
   case measure=>simp[intOf];omega
  ·go_wp2_with fail
   go_ret
   exact⟨kk,rfl,hk1,by omega,hL⟩
def MkT (t:Tm):Prop:=∀(w:World) (S:Nat->Prop) (v:Value) (k:Int),AtS w S (terms t.args) v->Soft S w->0<=k->k+3*tmTotals t.args<=1073741824->
  Calls Try.prog 69 #[v,.int .i64 k] w fun e w'=>∃k':Int,e= .returned (.int .i64 k')/\k<=k'/\k'<=k+3*tmTotals t.args/\Like S w w'
set_option maxHeartbeats 2000000 in
theorem markTermS_of (ts:List Tm) (ih:∀x∈ts,MkT x) (w:World) (S:Nat->Prop) (v:Value) (k:Int) (h:AtS w S (terms ts) v) (hs:Soft S w) (h0:0<=k) (h1:k+3*tmTotals ts<=1073741824):
  Calls Try.prog 69 #[v,.int .i64 k] w fun e w'=>∃k':Int,e= .returned (.int .i64 k')/\k<=k'/\k'<=k+3*tmTotals ts/\Like S w w':=by
 obtain⟨A,c,rfl,hn,hc⟩:=AtS.slice h
 unfold tmTotals at h1 ⊢
 have IH:=Lib.hid ih
 have HS:=Lib.hid hs
 clear ih hs
 go_enter Try.func69,Try.ntmps69
 go_wp2_with fail
 go_loopw [1,5] (fun l i wr=>∃(j:Nat) (kk:Int),j<=ts.length/\i= .int .i64 j/\l= .int .i64 kk/\k<=kk/\kk<=k+3*(j+sumOf Tm.total ts j:Nat)/\Like S w wr) (fun _ i _=>ts.length-(intOf i).toNat)
 case atStart=>exact⟨0,k,Nat.zero_le _,rfl,rfl,Int.le_refl _,by rw[sumOf_zero];omega,Like.refl _ _⟩
 case round=>
  obtain⟨j,kk,hj,rfl,rfl,hk1,hk2,hL⟩:=hrel
  have hle:=sumOf_le Tm.total ts j
  by_cases hlt:j<ts.length
  ·obtain⟨b,off,t,x,s,y,u,rfl,hb,hlb,hc1,hc2,hc3,hc4,hu,HX⟩:=terms_getS (h.next hL) hlt
   obtain⟨A',c',rfl,hn',hc'⟩:=AtS.slice hu
   have hmem:=List.mem_of_getElem? HX.out
   have HS1:=Lib.hid (sumOf_succ (f:=Tm.total) HX.out)
   have hle1:=sumOf_le Tm.total ts (j+1)
   have hq:=HS1.out
   have ht:=Tm.total_eq t
   have hf:=(HS.out.like hL b hb).2
   have f0:=hf (off+j*4)
   have f1:=hf (off+j*4+1)
   have f2:=hf (off+j*4+2)
   have L0:=Lib.hid (Like.setCell_ (S:=S) hc1 (kin.int x kk (WalkArith.wf_i64 ⟨by omega,by omega⟩)) hb)
   clear hf
   go_wp2_with fail
   refine(markText_any (kk+1) _ (by omega) (by omega)).mono ?_
   rintro e w1 ⟨s1,rfl,hs1,hb1⟩
   have L1:=Lib.hid (L0.out.next hb1)
   obtain⟨t2,d2⟩:=L1.out.cStr hc2
   obtain⟨t3,d3⟩:=L1.out.cInt hc3
   have d4:=L1.out.cSlice hc4
   have hf1:=((HS.out.like hL).like L1.out b hb).2
   have g1:=hf1 (off+j*4+1)
   have g2:=hf1 (off+j*4+2)
   clear hf1 f0 f1 f2 hc1 hc2 hc3 hc4
   have L2:=Lib.hid (L1.out.set d2 (kin.str t2 s1 hs1) hb)
   have d3':(w1.setCell ⟨b,off+j*4+1,none⟩ (.string s1)).cell? ⟨b,off+j*4+2,none⟩=some (.int .i64 t3):=by
    rw[World.cell?_setCell_other _ _ _ _ (by simp)];exact d3
   have L3:=Lib.hid (L2.out.set d3' (kin.int t3 (kk+1+1) (WalkArith.wf_i64 ⟨by omega,by omega⟩)) hb)
   go_wp2_with fail
   refine(IH.out t hmem _ S _ _ (hu.next L3.out) ((HS.out.like hL).like L3.out) (by omega) (by omega)).mono ?_
   rintro e w3 ⟨k3,rfl,hk3,hk4,hL3⟩
   go_wp2_with fail
   go_roundw
   case rel=>exact⟨j+1,k3,by omega,by go_num,rfl,by omega,by omega,(hL.trans L3.out).trans hL3⟩
   case measure=>simp[intOf];omega
  ·go_wp2_with fail
   go_ret
   exact⟨kk,rfl,hk1,by omega,hL⟩
theorem markTm_any (t:Tm):MkT t:=by
 induction t using Tm.induct with
 |h o n s args ih=>exact fun w S v k h hs h0 h1=>markTermS_of args ih w S v k h hs h0 h1
theorem markTermS_any (ts:List Tm) (w:World) (S:Nat->Prop) (v:Value) (k:Int) (h:AtS w S (terms ts) v) (hs:Soft S w) (h0:0<=k) (h1:k+3*tmTotals ts<=1073741824):
  Calls Try.prog 69 #[v,.int .i64 k] w fun e w'=>∃k':Int,e= .returned (.int .i64 k')/\k<=k'/\k'<=k+3*tmTotals ts/\Like S w w':=markTermS_of ts (fun x _=>markTm_any x) w S v k h hs h0 h1
theorem Soft.alloc {S:Nat->Prop} {w:World} (h:Soft S w) (o:Obj):Soft S (w.alloc o):=h.like (Like.of_below (S:=S) ((Below.refl _ _).alloc (Nat.le_refl _) _))
theorem AtS.alloc {S:Nat->Prop} {w:World} {d:D} {v:Value} (h:AtS w S d v) (o:Obj):AtS (w.alloc o) S d v:=h.next (Like.of_below (S:=S) ((Below.refl _ _).alloc (Nat.le_refl _) _))
theorem Like.front {S:Nat->Prop} {w w':World} (o:Obj) (h:Like S (w.alloc o) w'):Like S w w':=(Like.of_below (S:=S) ((Below.refl _ _).alloc (Nat.le_refl _) _)).trans h
theorem Like.blk {S:Nat->Prop} {w w':World} (h:Like S w w') {g:Nat} {t:TypeId} {cs:Array Value} (hb:Blk w g t cs) (hg:¬S g):Blk w' g t cs:=(h.block g hb.lt hg).trans hb
set_option maxHeartbeats 400000 in
theorem markGraph_any (g:Gr) (w:World) (S:Nat->Prop) (v u:Value) (k:Int) (h:AtS w S (terms g.states) v) (h':AtS w S (rows g.edges) u) (hs:Soft S w) (h0:0<=k) (h1:k+3*g.total<=1073741824):
  Calls Try.prog 35 #[.agg #[v,u,.bool g.whole],.int .i64 k] w fun e w'=>∃k':Int,e= .returned (.int .i64 k')/\k<=k'/\k'<=k+3*g.total/\Like S w w':=by
 obtain⟨A,c,rfl,hn,hc⟩:=AtS.slice h
 obtain⟨A',c',rfl,hn',hc'⟩:=AtS.slice h'
 unfold Gr.total at h1 ⊢
 have hB0:=Blk.new w 50 #[.slice A g.states.length c,.slice A' g.edges.length c',.bool g.whole]
 go_enter Try.func35,Try.ntmps35
 go_wp2_with fail
 refine(markTermS_any _ _ S _ k (h.alloc _) (hs.alloc _) h0 (by omega)).mono ?_
 rintro e w1 ⟨k1,rfl,q1,q2,hL⟩
 have hB1:=hL.blk hB0 fun q=>by have:=(hs _ q).1;omega
 obtain⟨_,_,_⟩:=hB1.c3
 go_wp2_with fail
 refine(markIntSS_any _ _ _ S _ ((h'.alloc _).next hL) ((hs.alloc _).like hL) (by omega) (by omega)).mono ?_
 rintro e w2 ⟨k2,rfl,q3,q4,hL2⟩
 go_wp2_with fail
 go_ret
 exact⟨k2,rfl,by omega,by omega,(hL.trans hL2).front⟩
def marks (k:Int) (n:Nat):List Int:=(List.range n).map fun(j:Nat)=>k+(j:Int)
set_option maxHeartbeats 400000 in
theorem markRow_any (xs:List Int) (k:Int) (w:World) (S:Nat->Prop) (v:Value) (h:At w S (ints xs) v) (hs:Soft S w) (h0:0<=k) (h1:k+xs.length<=1073741824):
  Calls Try.prog 36 #[v,.int .i64 k] w fun e w'=>e= .returned (.int .i64 (k+xs.length))/\Like S w w'/\At w' S (ints (marks k xs.length)) v:=by
 obtain⟨A,c,rfl,hn,hc⟩:=ints_slice h
 have HH:=Lib.hid h.shape
 go_enter Try.func36,Try.ntmps36
 go_wp2
 go_loopw [1,5] (fun kk i wr=>∃j:Nat,j<=xs.length/\i= .int .i64 j/\kk= .int .i64 (k+j)/\Like S w wr/\∀b off,A=some ⟨b,off,none⟩->∀m,m<j->wr.cell? ⟨b,off+m,none⟩=some (.int .i64 (k+m))) (fun _ i _=>xs.length-(intOf i).toNat)
 case atStart=>exact⟨0,Nat.zero_le _,rfl,by simp,Like.refl _ _,fun _ _ _ m hm=>by omega⟩
 case round=>
  obtain⟨j,hj,rfl,rfl,hL,hd⟩:=hrel
  have HD:=Lib.hid hd
  clear hd
  by_cases hlt:j<xs.length
  ·obtain⟨b,off,x,rfl,hb,hlb,hc1⟩:=ints_getS (HH.out.next hL) hlt
   have f0:=(hs.like hL b hb).2 (off+j)
   have HC:=Lib.hid hc1
   go_wp2
   go_roundw
   case rel=>
    refine⟨j+1,by omega,by go_num,by go_num,hL.set HC.out (kin.int _ _ (WalkArith.wf_i64 ⟨by omega,by omega⟩)) hb,fun b' off' e m hm=> ?_⟩
    cases e
    by_cases hmj:m=j
    ·subst hmj
     exact World.cell?_setCell_same _ _ _ HC.out
    ·rw[World.cell?_setCell_other _ _ _ _ (by intro e;injection e;omega)]
     exact HD.out _ _ rfl m (by omega)
   case measure=>simp[intOf];omega
  ·go_wp2
   go_ret
   obtain rfl:j=xs.length:=by omega
   refine⟨rfl,hL,?_⟩
   have hml:(marks k xs.length).length=xs.length:=by simp[marks]
   have:=ints_mk (w:=wr) (S:=S) (xs:=marks k xs.length) (A:=A) (c:=c) (by omega) (by omega) fun hp=> ?_
   ·rw[hml]at this;exact this
   ·obtain⟨b,off,rfl,hb,_⟩:=ints_at h (by omega)
    refine⟨b,off,rfl,hb,fun m hm=> ?_⟩
    have e1:(marks k xs.length).getD m 0=k+m:=by simp[marks,List.getD,show m<xs.length by omega]
    rw[e1]
    exact⟨HD.out _ _ rfl m (by omega),WalkArith.wf_i64 ⟨by omega,by omega⟩⟩
set_option maxHeartbeats 400000 in
theorem heldIntS_any (n:Nat) (k:Int) (w:World) (S:Nat->Prop) (v:Value) (h:At w S (ints (marks k n)) v) (h0:0<=k) (h1:k+n<=1073741824):
  Calls Try.prog 37 #[v,.int .i64 k] w fun e w'=>e= .returned (.int .i64 (k+n))/\Below w.heap.size w w':=by
 obtain⟨A,c,rfl,hn,hc⟩:=ints_slice h
 have hml:(marks k n).length=n:=by simp[marks]
 rw[hml]at hn h ⊢
 go_enter Try.func37,Try.ntmps37
 go_wp2
 go_loopw [1,5] (fun kk i wr=>∃j:Nat,j<=n/\i= .int .i64 j/\kk= .int .i64 (k+j)/\Below w.heap.size w wr) (fun _ i _=>n-(intOf i).toNat)
 case atStart=>exact⟨0,Nat.zero_le _,rfl,by simp,Below.refl _ _⟩
 case round=>
  obtain⟨j,hj,rfl,rfl,hb⟩:=hrel
  by_cases hlt:j<n
  ·obtain⟨b,off,x,rfl,_,hlb,hc1,HX,_⟩:=ints_get (k:=j) (h.below hb) (by omega)
   obtain rfl:x=k+j:=by
    have:=HX.out
    simp[marks,show j<n by omega]at this
    exact this.symm
   have hne:(k+(j:Int) !=k+(j:Int))=false:=by simp
   go_wp2
   go_roundw
   case rel=>exact⟨j+1,by omega,by go_num,by go_num,hb⟩
   case measure=>simp[intOf];omega
  ·go_wp2
   go_ret
   obtain rfl:j=n:=by omega
   exact⟨rfl,hb⟩
end Go.Proofs.Ytagnfckihdlhpaa

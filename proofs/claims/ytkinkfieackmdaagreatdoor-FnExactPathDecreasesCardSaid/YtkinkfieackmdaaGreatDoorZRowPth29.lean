/-
  Texts that the claim rests on, merged: Ints, CmpX, Lf, LfC, Del, DelC, Pth2, Pth3.
-/
import Derived.Test.YtkinkfieackmdaaGreatDoorChecked
import Derived.WalkSpells
import Derived.WalkLawsBesides
import Derived.Deep.OwnRows
import Derived.Deep.QuietTactic
import Derived.BigQuiet
import Derived.Sort.Grow
import Derived.Deep.RegionHeld3
import Derived.RegionCalls
import Derived.Lib.SliceRun
import Derived.Lib.SlicesS
import Derived.Lib.Walk
import Derived.Sort.WalkB12
import Derived.Deep.LoopGhost
import Derived.Deep.RegionLaw
import Derived.Test.YtkinkfieackmdaaGreatDoorZRowPth1
import Derived.Test.YtkinkfieackmdaaGreatDoorZRowPth23
import Derived.Test.YtkinkfieackmdaaGreatDoorZRowPth26
import Derived.Test.YtkinkfieackmdaaGreatDoorZRowPth28

namespace Go.Proofs.YtkinkfieackmdaaGreatDoor
open Go.RowKit
def Lay (w w':World):Prop:=∃(q:Nat) (os:Array Obj),w'=Go.Sort.grow (w.drewN q) os
theorem Lay.refl (w:World):Lay w w:=⟨0,#[],by rw[Go.Sort.grow_empty];rfl⟩
theorem Lay.alloc {w w':World} (h:Lay w w') (o:Obj):Lay w (w'.alloc o):=by
 obtain⟨q,os,rfl⟩:=h;exact⟨q,os++ #[o],by rw[Go.Sort.alloc_eq_grow,Go.Sort.grow_grow]⟩
theorem Lay.drew {w w':World} (h:Lay w w'):Lay w w'.drew:=by
 obtain⟨q,os,rfl⟩:=h;exact⟨q+1,os,rfl⟩
theorem Lay.trans {a b c:World} (h:Lay a b) (k:Lay b c):Lay a c:=by
 obtain⟨q,os,rfl⟩:=h;obtain⟨r,us,rfl⟩:=k;refine⟨q+r,os++us,?_⟩;show Go.Sort.grow (Go.Sort.grow ((a.drewN q).drewN r) os) us=_;rw[Go.Sort.grow_grow]
 congr 1
 simp[World.drewN,Nat.add_assoc]
set_option maxHeartbeats 1000000 in
theorem AG (a b:Int) (w:World):Calls Tryz.prog 141 #[.int .i64 a,.int .i64 b] w λe w'=>e= .returned (.int .i64 (Den.aS a b))/\w'=w:=by
 go_enter Tryz.func141,Tryz.ntmps141
 go_wp2_with (go_in)
 all_goals go_ret
 all_goals refine⟨?_,rfl⟩
 ·rw[show Den.aS a b= -1 by unfold Den.aS;rw[if_neg (by omega),if_pos (by omega)]];rfl
 ·rw[show Den.aS a b=1 by unfold Den.aS;rw[if_neg (by omega),if_neg (by omega)]];rfl
 ·rw[show Den.aS a b=0 by unfold Den.aS;rw[if_pos (by omega)]];rfl
def or3 (a b c:Int):Int:=if a=0 then (if b=0 then c else b)else a
set_option maxHeartbeats 1000000 in
theorem CU (a b c:Int) (B cap:Nat) (w:World) (h0:w.cell? ⟨B,0,none⟩=some (.int .i64 a)) (h1:w.cell? ⟨B,1,none⟩=some (.int .i64 b)) (h2:w.cell? ⟨B,2,none⟩=some (.int .i64 c)):
  Calls Tryz.prog 140 #[.slice (some ⟨B,0,none⟩) 3 cap] w λe w'=>e= .returned (.int .i64 (or3 a b c))/\w'=w:=by
 have hc:∀k,k<3->w.cell? ⟨B,0+k,none⟩=some (.int .i64 ([a,b,c].getD k 0)):=λk hk=>by
  match k,hk with
  |0,_=>exact h0
  |1,_=>exact h1
  |2,_=>exact h2
 have hl:∀n:Nat,n<3->0+n*1=0+n:=λn _=>by omega
 go_enter Tryz.func140,Tryz.ntmps140
 go_wp2
 go_loop [8] (λi=>∃k:Nat,k<=3/\i= .int .i64 k/\∀j,j<k->[a,b,c].getD j 0=0) (λi=>3-(intOf i).toNat)
 case atStart=>exact⟨0,by omega,rfl,λj hj=>by omega⟩
 case round =>
  obtain⟨k,hk,rfl,hz⟩:=hrel;by_cases hlt:k<3
  ·have c1:=hc k hlt;rw[Nat.zero_add]at c1;have hv:k=0\/k=1\/k=2:=by omega
   generalize hg:[a,b,c].getD k 0=v at c1
   go_wp2
   ·go_ret
    have hv0:v≠0:=by simpa using ‹(v !=0)=true›
    have e:or3 a b c=v:=by
     unfold or3;rcases hv with rfl|rfl|rfl
     ·have:a=v:=hg;rw[if_neg (by omega)];exact this
     ·have:b=v:=hg;have:a=0:=hz 0 (by omega);rw[if_pos (by omega),if_neg (by omega)];omega
     ·have:c=v:=hg;have:a=0:=hz 0 (by omega);have:b=0:=hz 1 (by omega);rw[if_pos (by omega),if_pos (by omega)];omega
    rw[e];exact⟨rfl,rfl⟩
   ·go_round
    case rel=>
     refine⟨k+1,by omega,by go_num,λj hj=> ?_⟩;by_cases hjk:j=k
     ·subst hjk;rw[hg];simpa using ‹(v !=0)=false›
     ·exact hz j (by omega)
    case measure=>simp[intOf];omega
  ·have hk3:k=3:=by omega
   subst hk3;have z0:a=0:=hz 0 (by omega);have z1:b=0:=hz 1 (by omega);have z2:c=0:=hz 2 (by omega);clear hz;subst z0 z1 z2
   go_wp2
   go_ret
   exact⟨rfl,rfl⟩
set_option maxHeartbeats 1000000 in
theorem za (A B:Option Addr) (c d:Nat) (g:Value) (w:World):Calls Tryz.prog 143 #[.slice A 0 c,.slice B 0 d,g] w λe w'=>e= .returned (.int .i64 0)/\w'=w:=by
 go_enter Tryz.func143,Tryz.ntmps143
 go_wp2
 go_loop [13] (λi=>i= .int .i64 0) (λ_=>0)
 case atStart=>rfl
 case round=>
  subst hrel
  go_wp2
  go_ret
  exact⟨rfl,rfl⟩
set_option maxHeartbeats 4000000 in
theorem Dk (o1 s1 o2 s2:Int) (n1 n2:ByteArray) (A B:Option Addr) (c d:Nat) (w:World):Calls Tryz.prog 114 #[.agg #[.int .i64 o1,.string n1,.int .i64 s1,.slice A 0 c],.agg #[.int .i64 o2,.string n2,.int .i64 s2,.slice B 0 d]] w λe w'=>e= .returned (.int .i64 (Den.aQ ⟨o1,n1,s1,[]⟩ ⟨o2,n2,s2,[]⟩))/\Lay w w':=by
 have ht:Den.aQ ⟨o1,n1,s1,[]⟩ ⟨o2,n2,s2,[]⟩=or3 (Den.aS o1 o2) (Den.bB n1 n2) (Den.aS s1 s2):=by
  rw[Den.dU];unfold Den.iv or3;show (if Den.aS o1 o2=0 then (if Den.bB n1 n2=0 then (if Den.aS s1 s2=0 then (0:Int)else Den.aS s1 s2)else Den.bB n1 n2)else Den.aS o1 o2)=_;by_cases h1:Den.aS o1 o2=0
  ·rw[if_pos h1,if_pos h1];by_cases h2:Den.bB   n1 n2=0
   ·rw[if_pos h2,if_pos h2];split
    ·rename_i h3;exact h3.symm
    ·rfl
   ·rw[if_neg h2,if_neg h2]
  ·rw[if_neg h1,if_neg h1]
 rw[ht,<-Den.fm];clear ht;have hB1:=Blk.new w 56 #[.int .i64 o1,.string n1,.int .i64 s1,.slice A 0 c];have hB4:=Blk.new ((w.alloc (.cells #[.int .i64 o1,.string n1,.int .i64 s1,.slice A 0 c] 56)).alloc (.cells #[.int .i64 o2,.string n2,.int .i64 s2,.slice B 0 d] 56)) 3 #[.int .i64 (Den.aS o1 o2),.int .i64 (Lib.compareBytes n1.data.toList n2.data.toList),.int .i64 (Den.aS s1 s2)];have hor:=CU (Den.aS o1 o2) (Lib.compareBytes n1.data.toList n2.data.toList) (Den.aS s1 s2) (w.heap.size+1+1) 3 (((w.alloc (.cells #[.int .i64 o1,.string n1,.int .i64 s1,.slice A 0 c] 56)).alloc (.cells #[.int .i64 o2,.string n2,.int .i64 s2,.slice B 0 d] 56)).alloc (.cells #[.int .i64 (Den.aS o1 o2),.int .i64 (Lib.compareBytes n1.data.toList n2.data.toList),.int .i64 (Den.aS s1 s2)] 3)).drew (by simpa using hB4.c3.1) (by simpa using hB4.c3.2.1) (by simpa using hB4.c3.2.2);clear hB4
 go_enter Tryz.func114,Tryz.ntmps114
 have hB2:=(hB1.alloc (.cells #[.int .i64 o2,.string n2,.int .i64 s2,.slice B 0 d] 56));have hB3:=Blk.new (w.alloc (.cells #[.int .i64 o1,.string n1,.int .i64 s1,.slice A 0 c] 56)) 56 #[.int .i64 o2,.string n2,.int .i64 s2,.slice B 0 d];obtain⟨p0,p1,p2,p3⟩:=hB2.c4;obtain⟨q0,q1,q2,q3⟩:=hB3.c4
 go_wp2_with fail
 go_region_held3 (λw'=>w'.cell? ⟨w.heap.size,0,none⟩=some (.int .i64 o1)/\w'.cell? ⟨w.heap.size,1,none⟩=some (.string n1)/\w'.cell? ⟨w.heap.size,2,none⟩=some (.int .i64 s1)/\w'.cell? ⟨w.heap.size+1,0,none⟩=some (.int .i64 o2)/\w'.cell? ⟨w.heap.size+1,1,none⟩=some (.string n2)/\w'.cell? ⟨w.heap.size+1,2,none⟩=some (.int .i64 s2)) (go_keep) (first|(go_at_call 141;refine(AG _ _ _).mono ?_;rintro e w' ⟨rfl,rfl⟩)|(go_at_call 142;refine(Tryz.strings_Compare _ _ _).mono ?_;rintro e w' ⟨rfl,rfl⟩)|(go_at_call 140;refine hor.mono ?_;rintro e w' ⟨rfl,rfl⟩))
 have hp:=(hB2.alloc (.cells #[.int .i64 (Den.aS o1 o2),.int .i64 (Lib.compareBytes n1.data.toList n2.data.toList),.int .i64 (Den.aS s1 s2)] 3)).c4.2.2.2;have hq:=(hB3.alloc (.cells #[.int .i64 (Den.aS o1 o2),.int .i64 (Lib.compareBytes n1.data.toList n2.data.toList),.int .i64 (Den.aS s1 s2)] 3)).c4.2.2.2;clear hB1 hB2 hB3 p0 p1 p2 p3 q0 q1 q2 q3;have hlay:Lay w ((((w.alloc (.cells #[.int .i64 o1,.string n1,.int .i64 s1,.slice A 0 c] 56)).alloc (.cells #[.int .i64 o2,.string n2,.int .i64 s2,.slice B 0 d] 56)).alloc (.cells #[.int .i64 (Den.aS o1 o2),.int .i64 (Lib.compareBytes n1.data.toList n2.data.toList),.int .i64 (Den.aS s1 s2)] 3)).drew):=((((Lay.refl w).alloc _).alloc _).alloc _).drew;by_cases hv:or3 (Den.aS o1 o2) (Lib.compareBytes n1.data.toList n2.data.toList) (Den.aS s1 s2)=0
 ·rw[hv]
  go_wp2_with (go_at_call 143;refine(za _ _ _ _ _ _).mono ?_;rintro e w' ⟨rfl,rfl⟩)
  go_ret
  exact⟨by rw[hv];rfl,hlay⟩
 ·have hv':(or3 (Den.aS   o1 o2) (Lib.compareBytes n1.data.toList n2.data.toList) (Den.aS   s1 s2) !=0)=true:=by simpa using hv
  go_wp2_with fail
  go_ret
  exact⟨rfl,hlay⟩
structure Lf where
 op:Int
 name:ByteArray
 sort:Int
 A:Option Addr
 c:Nat
instance : Inhabited Lf := ⟨⟨0, ByteArray.empty, 0, none, 0⟩⟩
def Lf.enc (x:Lf):List Value:=[.int .i64 x.op,.string x.name,.int .i64 x.sort,.slice x.A 0 x.c]
def Lf.tm (x:Lf):Tm:=⟨x.op,x.name,x.sort,[]⟩
abbrev Lf.v (x:Lf):Value:=.agg #[.int .i64 x.op,.string x.name,.int .i64 x.sort,.slice x.A 0 x.c]
theorem vy (x y:Lf) (w:World):Calls Tryz.prog 114 #[x.v,y.v] w λe w'=>e= .returned (.int .i64 (Den.aQ x.tm y.tm))/\Lay w w':=Dk _ _ _ _ _ _ _ _ _ _ w
def Lf.same (x y:Lf):Bool:=decide (Den.aQ x.tm y.tm=0)
set_option maxHeartbeats 1000000 in
theorem qN (x y:Lf) (w:World):Calls Tryz.prog 77 #[x.v,y.v] w λe w'=>e= .returned (.bool (x.same y))/\Lay w w':=by
 have hB:=Blk.new w 56 #[.int .i64 x.op,.string x.name,.int .i64 x.sort,.slice x.A 0 x.c];have hB1:=hB.alloc (.cells #[.int .i64 y.op,.string y.name,.int .i64 y.sort,.slice y.A 0 y.c] 56);have hB2:=Blk.new (w.alloc (.cells #[.int .i64 x.op,.string x.name,.int .i64 x.sort,.slice x.A 0 x.c] 56)) 56 #[.int .i64 y.op,.string y.name,.int .i64 y.sort,.slice y.A 0 y.c];obtain⟨p0,p1,p2,p3⟩:=hB1.c4;obtain⟨q0,q1,q2,q3⟩:=hB2.c4;have hc:=vy x y ((w.alloc (.cells #[.int .i64 x.op,.string x.name,.int .i64 x.sort,.slice x.A 0 x.c] 56)).alloc (.cells #[.int .i64 y.op,.string y.name,.int .i64 y.sort,.slice y.A 0 y.c] 56));have hl:Lay w ((w.alloc (.cells #[.int .i64 x.op,.string x.name,.int .i64 x.sort,.slice x.A 0 x.c] 56)).alloc (.cells #[.int .i64 y.op,.string y.name,.int .i64 y.sort,.slice y.A 0 y.c] 56)):=((Lay.refl w).alloc _).alloc _
 go_enter Tryz.func77,Tryz.ntmps77
 go_wp2_with (go_at_call 114;refine hc.mono ?_;rintro e w' ⟨rfl,hw⟩)
 go_ret
 exact⟨rfl,hl.trans hw⟩
def cmL (p:Lf):List Lf->List Lf
 |[]=>[]
 |y::ys=>if y.same p=true then cmL y ys else y::cmL y ys
def dD :List Lf->List Lf
 |[]=>[]
 |x::xs=>x::cmL x xs
theorem sY :∀(xs:List Lf) (p y:Lf),cmL p (xs++[y])=if y.same ((p::xs).getLast?.getD p)=true then cmL p xs else cmL p xs++[y]
 | [], p, y => by
  show (if y.same p=true then []else [y])=_;show _=if y.same p=true then []else [y];rfl
 | x :: xs, p, y => by
  have e:((p::x::xs).getLast?.getD p)=((x::xs).getLast?.getD x):=by simp[List.getLast?_cons]
  show (if x.same p=true then cmL x (xs++[y])else x::cmL x (xs++[y]))=if y.same ((p::x::xs).getLast?.getD p)=true then (if x.same p=true then cmL x xs else x::cmL x xs)else (if x.same p=true then cmL x xs else x::cmL x xs)++[y];rw[sY xs x y,e];split<;>split<;>rfl
theorem jW {d:List Lf} {r:Nat} {x y:Lf} (h0:d[r]? =some y) (h1:d[r+1]? =some x):dD (d.take (r+2))=if x.same y=true then dD (d.take (r+1))else dD (d.take (r+1))++[x]:=by
 rw[Den.ru h1];cases d with
 |nil=>simp at h0
 | cons z zs =>
  show z::cmL z (zs.take r++[x])=if x.same y=true then z::cmL z (zs.take r)else z::cmL z (zs.take r)++[x];rw[sY];have e:((z::zs.take r).getLast?.getD z)=y:=by
   have:(z::zs.take r).getLast? =some y:=by
    rw[<-List.take_succ_cons,List.getLast?_take,if_neg (by omega),Nat.add_sub_cancel,h0];rfl
   rw[this];rfl
  rw[e];split<;>rfl
theorem Co :∀(xs:List Lf) (p:Lf),(cmL p xs).length<=xs.length
 |[],_=>Nat.le_refl _
 | y :: ys, p => by
  unfold cmL;have:=Co ys y;split<;>simp only[List.length_cons]<;>omega
theorem vu :∀(xs:List Lf) (p:Lf),p.tm::(cmL p xs).map Lf.tm=Den.dQ (p.tm::xs.map Lf.tm)
 |[],p=>by show [p.tm]=Den.dQ [p.tm];unfold Den.dQ;rfl
 | y :: ys, p => by
  have ih:=vu ys y;show p.tm::(if y.same p=true then cmL y ys else y::cmL y ys).map Lf.tm=Den.dQ (p.tm::y.tm::ys.map Lf.tm)
  conv=>rhs;unfold Den.dQ
  unfold Lf.same;by_cases h:Den.aQ y.tm p.tm=0
  ·have e:=Den.z03 h;rw[dT h,if_pos rfl,if_pos h,<-e];exact ih
  ·rw[dF h,if_neg (by decide),if_neg h,List.map_cons,ih]
theorem Bw (d:List Lf):(dD d).map Lf.tm=Den.dQ (d.map Lf.tm):=by
 cases d with
 |nil=>show []=Den.dQ [];unfold Den.dQ;rfl
 |cons x xs=>exact vu xs x
theorem iH {P:Program} (w:World) (t e ty:TypeId) (z:Value) (ht:P.underlying t=some (.slice e)) (hv:∀w,(zeroValue e).run P w= .ok z w) (hz:∀v∈z.cells.toList,v.oneCell'=true) (b o n c:Nat) (hn:0<n)
  (hc:∀j,j<n*z.cells.size->(w.cell? ⟨b,o+j,none⟩).isSome=true) (hf:∀j,j<n*z.cells.size->w.frozen? ⟨b,o+j,none⟩=false):
  (Builtin.clear_ #[t] ty #[.slice (some ⟨b,o,none⟩) n c]).run P w= .ok (.tuple #[]) (w.setCells b o (Builtin.zeroCells z.cells n).toList):=by
 have hlen:(Builtin.zeroCells z.cells n).toList.length=n*z.cells.size:=by simp[Builtin.zeroCells]
 have hst:=run_storeCells_cells (P:=P) b o (Builtin.zeroCells z.cells n).toList 0 w (by rw[hlen];simpa using hc) (by rw[hlen];simpa using hf) (by
  intro v hv';simp only[Builtin.zeroCells,Array.toList_map,List.mem_map]at hv';obtain⟨i,hi,rfl⟩:=hv';have hi':i<n*z.cells.size:=by simpa using hi
  have hp:0<z.cells.size:=by
   rcases Nat.eq_zero_or_pos z.cells.size with h|h
   ·rw[h]at hi';omega
   ·exact h
  have hm:=Nat.mod_lt i hp;rw[getElem!_pos z.cells _ hm];exact hz _ (by simp))
 simp only[Nat.add_zero]at hst;obtain⟨m,rfl⟩:∃m,n=m+1:=⟨n-1,by omega⟩;simp[Builtin.clear_,run_underlying ht,hv,hst]
structure Chg (blk:Nat) (w w':World):Prop where
 os:w'.os=w.os
 tape:w'.tape=w.tape
 output:w'.output=w.output
 size:w.heap.size<=w'.heap.size
 block:∀b,b<w.heap.size->b≠blk->w'.heap[b]? =w.heap[b]?
theorem Chg.refl (blk:Nat) (w:World):Chg blk w w:=⟨rfl,rfl,rfl,Nat.le_refl _,λ_ _ _=>rfl⟩
theorem Chg.trans {blk:Nat} {a b c:World} (h:Chg blk a b) (k:Chg blk b c):Chg blk a c:=
 ⟨k.os.trans h.os,k.tape.trans h.tape,k.output.trans h.output,Nat.le_trans h.size k.size,λi hi hne=>(k.block i (Nat.lt_of_lt_of_le hi h.size) hne).trans (h.block i hi hne)⟩
theorem Lay.heap {w w':World} (h:Lay w w'):w.heap.size<=w'.heap.size/\∀b,b<w.heap.size->w'.heap[b]? =w.heap[b]? :=by
 obtain⟨q,os,rfl⟩:=h;refine⟨by show w.heap.size<=(w.heap++os).size;simp,λb hb=> ?_⟩;show (w.heap++os)[b]? =_;exact Array.getElem?_append_left hb
theorem Lay.chg {blk:Nat} {w w':World} (h:Lay w w'):Chg blk w w':=by
 obtain⟨h1,h2⟩:=h.heap;obtain⟨q,os,rfl⟩:=h;exact⟨rfl,rfl,rfl,h1,λb hb _=>h2 b hb⟩
theorem yV {blk:Nat} {w w':World} (h:Chg blk w w'):Chg blk w w'.drew:=⟨h.os,h.tape,h.output,h.size,h.block⟩
theorem sx (b:Nat):∀(vs:List Value) (o:Nat) (w:World),(w.setCells b o vs).os=w.os/\(w.setCells b o vs).tape=w.tape/\(w.setCells b o vs).output=w.output/\(w.setCells b o vs).heap.size=w.heap.size/\∀i,i≠b->(w.setCells b o vs).heap[i]? =w.heap[i]?
 |[],_,_=>⟨rfl,rfl,rfl,rfl,λ_ _=>rfl⟩
 | v :: r, o, w => by
  obtain⟨h1,h2,h3,h4,h5⟩:=sx b r (o+1) (w.setCell ⟨b,o,none⟩ v);exact⟨h1,h2,h3,h4.trans (by simp[World.setCell]),λi hi=>(h5 i hi).trans (Below.heap_setCell w ⟨b,o,none⟩ v i (λe=>hi (by simpa using e)))⟩
theorem jN (b:Nat):∀(vs:List Value) (o:Nat) (w:World) (cur:Array Value) (t:TypeId) (fr:Nat×Nat),w.heap[b]? =some (.cells cur t fr)->∃cur',(w.setCells b o vs).heap[b]? =some (.cells cur' t fr)/\cur'.size=cur.size
 |[],_,_,cur,_,_,h=>⟨cur,h,rfl⟩
 | v :: r, o, w, cur, t, fr, h => by
  have h1:(w.setCell ⟨b,o,none⟩ v).heap[b]? =some (.cells (cur.setIfInBounds o v) t fr):=by simp[World.setCell,Array.getElem?_modify,h]
  obtain⟨cur',h2,h3⟩:=jN b r (o+1) _ _ _ _ h1;exact⟨cur',h2,by rw[h3];simp⟩
theorem lG (b o:Nat) (vs:List Value) (w:World):Chg b w (w.setCells b o vs):=by
 obtain⟨h1,h2,h3,h4,h5⟩:=sx b vs o w;exact⟨h1,h2,h3,by omega,λi _ hne=>h5 i hne⟩
theorem cN {w:World} {b:Nat} {cur:Array Value} {t:TypeId} {fr:Nat×Nat} (h:w.heap[b]? =some (.cells cur t fr)) (j:Nat):w.cell? ⟨b,j,none⟩=cur[j]? :=by simp[World.cell?,h]
theorem cE {w:World} {g:Nat} {o:Obj} (h:w.heap[g]? =some o):g<w.heap.size:=by
 rcases Nat.lt_or_ge g w.heap.size with q|q
 ·exact q
 ·rw[Array.getElem?_eq_none q]at h;cases h
def At4 (w:World) (b o:Nat) (x:Lf):Prop:=w.cell? ⟨b,o,none⟩=some (.int .i64 x.op)/\w.cell? ⟨b,o+1,none⟩=some (.string x.name)/\w.cell? ⟨b,o+2,none⟩=some (.int .i64 x.sort)/\w.cell? ⟨b,o+3,none⟩=some (.slice x.A 0 x.c)
theorem At4.same {w w':World} {b o:Nat} {x:Lf} (h:At4 w b o x) (hk:∀j,o<=j->j<o+4->w'.cell? ⟨b,j,none⟩=w.cell? ⟨b,j,none⟩):At4 w' b o x:=
 ⟨(hk _ (by omega) (by omega)).trans h.1,(hk _ (by omega) (by omega)).trans h.2.1,(hk _ (by omega) (by omega)).trans h.2.2.1,(hk _ (by omega) (by omega)).trans h.2.2.2⟩
theorem Lay.cell {w w':World} (h:Lay w w') {b:Nat} (hb:b<w.heap.size) (j:Nat):w'.cell? ⟨b,j,none⟩=w.cell? ⟨b,j,none⟩:=by simp only[World.cell?];rw[h.heap.2 b hb]
structure Rw (w:World) (blk:Nat) (t:TypeId) (n off:Nat) (d:List Lf):Prop where
 heap:∃cur,w.heap[blk]? =some (.cells cur t (0,0))/\cur.size=n
 fit:off+d.length*4<=n
 at_:∀k x,d[k]? =some x->At4 w blk (off+k*4) x
section
variable {w w' : World} {blk n off : Nat} {t : TypeId} {d : List Lf}
theorem Rw.lt (h:Rw w blk t n off d):blk<w.heap.size:=by obtain⟨cur,h1,_⟩:=h.heap;exact cE h1
theorem Rw.lay (h:Rw w blk t n off d) (k:Lay w w'):Rw w' blk t n off d:=by
 have hlt:=h.lt;obtain⟨cur,h1,h2⟩:=h.heap;exact⟨⟨cur,(k.heap.2 blk hlt).trans h1,h2⟩,h.fit,λi x hx=>(h.at_ i x hx).same λj _ _=>k.cell hlt j⟩
theorem Rw.some (h:Rw w blk t n off d) {j:Nat} (hj:j<n):(w.cell? ⟨blk,j,none⟩).isSome=true/\w.frozen? ⟨blk,j,none⟩=false:=by
 obtain⟨cur,h1,h2⟩:=h.heap;refine⟨?_,by simp[World.frozen?,h1]⟩;rw[cN h1,gA (by omega)];rfl
theorem Rw.take (h:Rw w blk t n off d) (k:Nat):Rw w blk t n off (d.take k):=by
 refine⟨h.heap,?_,λi x hx=>h.at_ i x ?_⟩
 ·have:=h.fit;rw[List.length_take];omega
 ·rw[List.getElem?_take]at hx;split at hx
  ·exact hx
  ·cases hx
theorem Rw.out (h:Rw w blk t n off d) {o:Nat} {vs:List Value} (ho:off+d.length*4<=o):Rw (w.setCells blk o vs) blk t n off d:=by
 obtain⟨cur,h1,h2⟩:=h.heap;obtain⟨cur',h3,h4⟩:=jN blk vs o w cur t (0,0) h1;refine⟨⟨cur',h3,h4.trans h2⟩,h.fit,λi x hx=>(h.at_ i x hx).same λj j1 j2=> ?_⟩;have:=(gI.1 hx).1;exact World.cell?_setCells_out blk vs o w _ (λ_ _=>.inl (by show j<o;omega))
theorem Rw.set (h:Rw w blk t n off d) {k:Nat} (hk:k<d.length) (x:Lf):Rw (w.setCells blk (off+k*4) x.enc) blk t n off (d.set k x):=by
 obtain⟨cur,h1,h2⟩:=h.heap;have hf:=h.fit;obtain⟨cur',h3,h4⟩:=jN blk x.enc (off+k*4) w cur t (0,0) h1;refine⟨⟨cur',h3,h4.trans h2⟩,by simpa using h.fit,λi y hy=> ?_⟩;by_cases e:k=i
 ·subst e;rw[sS hk]at hy;cases hy;have hin:=World.cell?_setCells_in blk x.enc (off+k*4) w (λj hj=>(h.some (by have:j<4:=hj;omega)).1);exact⟨hin 0 (show 0<4 by omega),hin 1 (show 1<4 by omega),hin 2 (show 2<4 by omega),hin 3 (show 3<4 by omega)⟩
 ·rw[sN e]at hy;refine(h.at_ i y hy).same λj j1 j2=> ?_;refine World.cell?_setCells_out blk x.enc (off+k*4) w _ (λ_ _=> ?_);have hlen:x.enc.length=4:=rfl;rw[hlen];show j<off+k*4\/off+k*4+4<=j;omega
end
theorem jg {d:List Lf} {k:Nat} (h:k<d.length):∃x,d[k]? =some x:=⟨d[k],List.getElem?_eq_getElem h⟩
set_option maxHeartbeats 4000000 in
theorem rI          {blk n off cap : Nat} {t : TypeId} (d : List Lf) (w : World) (h : Rw w blk t n off d) (hcap : d.length ≤ cap) (hlen : d.length ≤ 4611686018427387904) (h2 : 2 ≤ d.length) :
  Calls Tryz.prog 139 #[.slice (some ⟨blk,off,none⟩) d.length cap,.func (.func 77) #[] #[]] w λe w'=>e= .returned (.slice (some ⟨blk,off,none⟩) (dD d).length cap)/\Rw w' blk t n off (dD d)/\Chg blk w w':=by
 have HR:Aside (Rw w blk t n off d):=h;clear h;have n2:¬d.length<2:=by omega
 go_enter Tryz.func139,Tryz.ntmps139
 go_wp2_with fail
 go_loopg [5] d.length (λg s5 wr=>∃k:Nat,1<=k/\k<=d.length/\d.length-k<=g/\s5= .int .i64 k/\dD (d.take k)=d.take k/\Rw wr blk t n off d/\Chg blk w wr)
 case atStart=>
  refine⟨1,Nat.le_refl _,by omega,by omega,rfl,?_,HR.out,Chg.refl _ _⟩;cases d with
  |nil=>rfl
  |cons x xs=>rfl
 case round =>
  obtain⟨k,hk1,hk,hg,rfl,hcm,hrw,hch⟩:=hrel;by_cases hlt:k<d.length
  ·obtain ⟨x, hx⟩ := jg      hlt;obtain⟨m,rfl⟩:∃m,k=m+1:=⟨k-1,by omega⟩;obtain⟨y,hy⟩:=jg      (d:=d) (k:=m) (by omega);have iw:IntKind.i64.wrap (m:Int)=(m:Int):=Den.aI    (by omega);have i1:(m:Int)<(d.length:Int):=by omega
   have i2:(m:Int)<=9223372036854775807:=by omega
   have i4:(m:Int)+1<(d.length:Int):=by omega
   have i5:(0:Int)<=(m:Int)+1:=by omega
   obtain⟨c0,c1,c2,c3⟩:=hrw.at_ (m+1) x hx;obtain⟨p0,p1,p2,p3⟩:=hrw.at_ m y hy;have HW:Aside (Rw wr blk t n off d):=hrw;have HC:Aside (Chg blk w wr):=hch;have HM:Aside (dD (d.take (m+1))=d.take (m+1)):=hcm;have HX:Aside (d[m+1]? =some x):=hx;have HY:Aside (d[m]? =some y):=hy;clear hrw hch hcm hx hy
   go_wp2_with fail
   go_region_held3 (λw'=>w'.cell? ⟨blk,off+(m+1)*4,none⟩=some (.int .i64 x.op)/\w'.cell? ⟨blk,off+(m+1)*4+1,none⟩=some (.string x.name)/\w'.cell? ⟨blk,off+(m+1)*4+2,none⟩=some (.int .i64 x.sort)/\w'.cell? ⟨blk,off+(m+1)*4+3,none⟩=some (.slice x.A 0 x.c)/\w'.cell? ⟨blk,off+m*4,none⟩=some (.int .i64 y.op)/\w'.cell? ⟨blk,off+m*4+1,none⟩=some (.string y.name)/\w'.cell? ⟨blk,off+m*4+2,none⟩=some (.int .i64 y.sort)/\w'.cell? ⟨blk,off+m*4+3,none⟩=some (.slice y.A 0 y.c)) (go_keep) (first|(go_at_call 77;refine(qN x y _).mono ?_;rintro e w' ⟨rfl,hw0⟩;have hw:=(Lay.refl wr).drew.trans hw0;obtain⟨c0,c1,c2,c3⟩:=(HW.out.lay hw).at_ _ _ HX.out;obtain⟨p0,p1,p2,p3⟩:=(HW.out.lay hw).at_ _ _ HY.out))
   have HW2:Aside (Rw w' blk t n off d):=HW.out.lay hw;have HC2:Aside (Chg blk w w'):=HC.out.trans hw.chg;clear c0 c1 c2 c3 p0 p1 p2 p3 hw0 hw HW HC;clear iw i1 i2 i4 i5;cases hs:x.same y with
   | false =>
    go_wp2_with fail
    go_roundg (d.length-(m+1+1))
    case measure=>omega
    case rel=>
     refine⟨m+1+1,by omega,by omega,Nat.le_refl _,by go_num,?_,HW2.out,HC2.out⟩;rw[jW HY.out HX.out,hs,if_neg (by decide),HM.out,<-Den.ru HX.out]
   | true =>
    have hm:(dD (d.take (m+2))).length=m+1/\dD (d.take (m+2))=d.take (m+1):=by
     rw[jW HY.out HX.out,hs,if_pos rfl,HM.out];exact⟨by rw[List.length_take];omega,rfl⟩
    have HM2:Aside ((dD (d.take (m+2))).length=m+1/\dD (d.take (m+2))=d.take (m+1)):=hm;clear hm
    go_wp2_with fail
    go_loopg [5,7] d.length (λg s5 s7 wr=>∃(kk k2:Nat) (e:List Lf),s5= .int .i64 kk/\s7= .int .i64 k2/\1<=k2/\m+1+k2<=d.length/\d.length-(m+1+k2)<=g/\e.length=d.length/\kk=(dD (d.take (m+1+k2))).length/\kk<=m+k2/\e.take kk=dD (d.take (m+1+k2))/\(∀i,kk<=i->e[i]? =d[i]?)/\Rw wr blk t n off e/\Chg blk w wr)
    case atStart=>exact⟨m+1,1,d,rfl,rfl,Nat.le_refl _,by omega,by omega,rfl,HM2.out.1.symm,by omega,HM2.out.2.symm,λ_ _=>rfl,HW2.out,HC2.out⟩
    case round =>
     obtain⟨kk,k2,e,rfl,rfl,h1,hle,hg2,hel,hkk,hkle,htk,hhi,hrw,hch⟩:=hrel;by_cases hlt2:m+1+k2<d.length
     ·obtain⟨j,rfl⟩:∃j,k2=j+1:=⟨k2-1,by omega⟩;obtain⟨u,hu⟩:=jg      hlt2;obtain⟨v,hv⟩:=jg      (d:=d) (k:=m+1+j) (by omega);have hu2:=(hhi (m+1+(j+1)) (by omega)).trans hu;have hv2:=(hhi (m+1+j) (by omega)).trans hv;have at1:=hrw.at_ _ _ hu2;have at2:=hrw.at_ _ _ hv2;rw[show off+(m+1+(j+1))*4=off+(m+1)*4+(j+1)*4 by omega]at at1;rw[show off+(m+1+j)*4=off+(m+1)*4+j*4 by omega]at at2;obtain⟨c0,c1,c2,c3⟩:=at1;obtain⟨p0,p1,p2,p3⟩:=at2;have HW:Aside (Rw wr blk t n off e):=hrw;have HC:Aside (Chg blk w wr):=hch;have HH:Aside (∀i,kk<=i->e[i]? =d[i]?):=hhi;have HT:Aside (e.take kk=dD   (d.take (m+1+(j+1)))):=htk;have HK:Aside (kk=(dD   (d.take (m+1+(j+1)))).length):=hkk;have HU:Aside (d[m+1+(j+1)]? =some u/\d[m+1+j]? =some v/\e[m+1+(j+1)]? =some u/\e[m+1+j]? =some v):=⟨hu,hv,hu2,hv2⟩;clear hrw hch hhi htk hkk hu hv hu2 hv2;have iw:IntKind.i64.wrap (j:Int)=(j:Int):=Den.aI    (by omega);have i1:(j:Int)<((d.length-(m+1):Nat):Int):=by omega
      have i2:(j:Int)<=9223372036854775807:=by omega
      have i3:(j:Int)+1<((d.length-(m+1):Nat):Int):=by omega
      have i4:(0:Int)<=(j:Int)+1:=by omega
      go_wp2_with fail
      go_region_held3 (λw'=>w'.cell? ⟨blk,off+(m+1)*4+(j+1)*4,none⟩=some (.int .i64 u.op)/\w'.cell? ⟨blk,off+(m+1)*4+(j+1)*4+1,none⟩=some (.string u.name)/\w'.cell? ⟨blk,off+(m+1)*4+(j+1)*4+2,none⟩=some (.int .i64 u.sort)/\w'.cell? ⟨blk,off+(m+1)*4+(j+1)*4+3,none⟩=some (.slice u.A 0 u.c)/\w'.cell? ⟨blk,off+(m+1)*4+j*4,none⟩=some (.int .i64 v.op)/\w'.cell? ⟨blk,off+(m+1)*4+j*4+1,none⟩=some (.string v.name)/\w'.cell? ⟨blk,off+(m+1)*4+j*4+2,none⟩=some (.int .i64 v.sort)/\w'.cell? ⟨blk,off+(m+1)*4+j*4+3,none⟩=some (.slice v.A 0 v.c)) (go_keep) (first|(go_at_call 77;refine(qN u v _).mono ?_;rintro e w2 ⟨rfl,hw0⟩;have hw:=(Lay.refl wr).drew.trans hw0;obtain⟨c0,c1,c2,c3⟩:=(show At4 w2 blk (off+(m+1)*4+(j+1)*4) u from (by have q:=(HW.out.lay hw).at_ _ _ HU.out.2.2.1;rw[show off+(m+1+(j+1))*4=off+(m+1)*4+(j+1)*4 by omega]at q;exact q));obtain⟨p0,p1,p2,p3⟩:=(show At4 w2 blk (off+(m+1)*4+j*4) v from (by have q:=(HW.out.lay hw).at_ _ _ HU.out.2.2.2;rw[show off+(m+1+j)*4=off+(m+1)*4+j*4 by omega]at q;exact q))))
      have HW2:Aside (Rw w2 blk t n off e):=HW.out.lay hw;have HC2:Aside (Chg blk w w2):=HC.out.trans hw.chg;clear p0 p1 p2 p3 hw0 hw HW HC;have HN:Aside (dD (d.take (m+1+(j+1+1)))=if u.same v=true then dD (d.take (m+1+(j+1)))else dD (d.take (m+1+(j+1)))++[u]):=jW HU.out.2.1 HU.out.1;cases hs:u.same v with
      | true =>
       go_wp2_with fail
       go_roundg (d.length-(m+1+(j+1+1)))
       case measure=>omega
       case rel=>
        have hn:=HN.out;rw[hs,if_pos rfl]at hn;exact⟨kk,j+1+1,e,rfl,by go_num,by omega,by omega,Nat.le_refl _,hel,by rw[hn];exact HK.out,by omega,by rw[hn];exact HT.out,HH.out,HW2.out,HC2.out⟩
      | false =>
       have hkl:kk<e.length:=by omega
       obtain⟨z,hz⟩:=jg hkl;obtain⟨z0,z1,z2,z3⟩:=HW2.out.at_ kk z hz;have hfit:=HW2.out.fit;have f0:=(HW2.out.some (j:=off+kk*4) (by omega)).2;have f1:=(HW2.out.some (j:=off+kk*4+1) (by omega)).2;have f2:=(HW2.out.some (j:=off+kk*4+2) (by omega)).2;have f3:=(HW2.out.some (j:=off+kk*4+3) (by omega)).2;have hkd:(kk:Int)<(d.length:Int):=by omega
       clear hfit hz
       go_wp2_with fail
       go_roundg (d.length-(m+1+(j+1+1)))
       case measure=>omega
       case rel=>
        have hn:=HN.out;rw[hs,if_neg (by decide)]at hn;have hK:=HK.out;refine⟨kk+1,j+1+1,e.set kk u,by go_num,by go_num,by omega,by omega,Nat.le_refl _,by simpa using hel,by rw[hn,List.length_append,<-hK];rfl,by omega,?_,λi hi=> ?_,HW2.out.set hkl u,HC2.out.trans (lG blk (off+kk*4) u.enc w2)⟩
        ·rw[hn,<-HT.out,List.take_add_one,sS hkl,List.take_set_of_le (Nat.le_refl _)];rfl
        ·rw[sN (by omega)];exact HH.out i (by omega)
     ·have hend:m+1+k2=d.length:=by omega
      have hcl:∀ty,(Builtin.clear_ #[54] ty #[.slice (some ⟨blk,off+kk*4,none⟩) (d.length-kk) (cap-kk)]).run Tryz.prog wr= .ok (.tuple #[]) (wr.setCells blk (off+kk*4) (Builtin.zeroCells (Value.cells (.agg #[.int .i64 0,.string ByteArray.empty,.int .i64 0,.slice none 0 0])) (d.length-kk)).toList):=λty=>by
       refine iH wr _ _ ty (.agg #[.int .i64 0,.string ByteArray.empty,.int .i64 0,.slice none 0 0]) Tryz.underlying54 Tryz.zeroValue56 (λv hv=> ?_) blk (off+kk*4) _ _ (by omega) (λj hj=> ?_) (λj hj=> ?_)
       ·simp[Value.cells]at hv;rcases hv with rfl|rfl|rfl|rfl<;>rfl
       ·have hj':j<(d.length-kk)*4:=hj;have:=hrw.fit;exact(hrw.some (by omega)).1
       ·have hj':j<(d.length-kk)*4:=hj;have:=hrw.fit;exact(hrw.some (by omega)).2
      have HW:Aside (Rw wr blk t n off e):=hrw;have HC:Aside (Chg blk w wr):=hch;have HT:Aside (e.take kk=dD d):=by rw[hend,List.take_length]at htk;exact htk
      have HK:Aside (kk=(dD d).length):=by rw[hend,List.take_length]at hkk;exact hkk
      clear hrw hch htk hkk hhi;have i1:(kk:Int)<(d.length:Int):=by omega
      go_wp2_with fail
      go_ret
      rw[<-HK.out];refine⟨rfl,?_,?_⟩
      ·rw[<-HT.out];refine(HW.out.take kk).out ?_;rw[List.length_take];omega
      ·exact HC.out.trans (lG _ _ _ _)
  ·have:k=d.length:=by omega
   subst this;have e:dD d=d:=by rw[List.take_length]at hcm;exact hcm
   have HW:Aside (Rw wr blk t n off d):=hrw;clear hcm hrw
   go_wp2_with fail
   go_ret
   rw[e];exact⟨rfl,HW.out,hch⟩
set_option maxHeartbeats 4000000 in
set_option maxRecDepth 100000 in
theorem uZ {blk off n cap i j:Nat} {t:TypeId} {cur:Array Value} (w:World) (hw:w.heap[blk]? =some (.cells cur t (0,0))) (hj:j=i+1) (hi:i<n) (hc:n<=cap) (hsz:off+cap*4<=cur.size) (h1:∀k,k<n*4->∀v,cur[off+k]? =some v->v.oneCell'=true):
  Calls Tryz.prog 119 #[.slice (some ⟨blk,off,none⟩) n cap,.int .i64 i,.int .i64 j] w λe w'=>e= .returned (.slice (some ⟨blk,off,none⟩) (n-1) cap)/\Chg blk w w'/\
   ∃cur',w'.heap[blk]? =some (.cells cur' t (0,0))/\cur'.size=cur.size/\(∀k,k<i*4->cur'[off+k]? =cur[off+k]?)/\∀k,i*4<=k->k<(n-1)*4->cur'[off+k]? =cur[off+(k+4)]? :=by
 have hwd:w.drew.heap[blk]? =some (.cells cur t (0,0)):=hw;have cell0:∀k,w.drew.cell? ⟨blk,k,none⟩=cur[k]? :=cN hwd;have frz0:∀k,w.drew.frozen? ⟨blk,k,none⟩=false:=λk=>by simp[World.frozen?,hwd]
 obtain⟨news,hnews⟩:∃news,news=(cur.toList.drop (off+j*4)).take ((n-j)*4):=⟨_,rfl⟩;have hlen:news.length=(n-j)*4:=by rw[hnews];simp;omega
 have hget:∀k,k<(n-j)*4->news[k]? =cur[off+j*4+k]? :=λk hk=>by
  rw[hnews,List.getElem?_take_of_lt hk,List.getElem?_drop];simp
 obtain⟨A,hA,hsrc⟩:∃A:Addr,(if cap=j then some (⟨blk,off,none⟩:Addr)else some ⟨blk,off+j*4,none⟩)=some A/\Hid (∀k u,news[k]? =some u->w.drew.cell? (A.add k)=some u):=by
  by_cases h:cap=j
  ·refine⟨⟨blk,off,none⟩,by simp[h],λk u hu=> ?_⟩;have h0:news.length=0:=by rw[hlen];omega
   rw[List.length_eq_zero_iff.1 h0]at hu;simp at hu
  ·refine⟨⟨blk,off+j*4,none⟩,by simp[h],λk u hu=> ?_⟩;have hk:k<(n-j)*4:=by
    have:=(gI.1 hu).1
    rwa [hlen]at this
   rw[Addr.add_lit,cell0,<-hget k hk,hu]
 have s1:Hid (news.length=(n-j)*4):=hlen;have s2:Hid (∀u∈news,u.oneCell'=true):=λu hu=>by
  obtain⟨k,hk,e⟩:=List.getElem_of_mem hu;rw[hlen]at hk;refine h1 (j*4+k) (by omega) u ?_;rw[<-Nat.add_assoc,<-hget k hk,<-e];exact List.getElem?_eq_getElem _
 have s3:Hid (∀k,k<news.length->(w.drew.cell? ⟨blk,off+i*4+k,none⟩).isSome=true/\w.drew.frozen? ⟨blk,off+i*4+k,none⟩=false):=λk hk=>by
  rw[hlen]at hk;refine⟨?_,frz0 _⟩;rw[cell0,gA (by omega)];rfl
 obtain⟨W1,hW1⟩:∃W1,W1=w.drew.setCells blk (off+i*4) news:=⟨_,rfl⟩;obtain⟨cur1,hc1,hc1s⟩:=jN blk news (off+i*4) w.drew cur t (0,0) hwd;rw[<-hW1]at hc1;have in1:∀k,k<(n-j)*4->cur1[off+i*4+k]? =cur[off+j*4+k]? :=λk hk=>by
  rw[<-cN hc1,hW1,World.cell?_setCells_in blk news (off+i*4) w.drew (λm hm=>(s3.out m hm).1) k (by rw[hlen];exact hk),<-hget k hk];exact(List.getElem?_eq_getElem _).symm
 have out1:∀k,k<i*4\/(i+(n-j))*4<=k->cur1[off+k]? =cur[off+k]? :=λk hk=>by
  rw[<-cN hc1,hW1,World.cell?_setCells_out blk news (off+i*4) w.drew _ (λ_ _=>by simp;omega),cell0]
 obtain⟨zs,hzs⟩:∃zs,zs=(Builtin.zeroCells (Value.agg #[.int .i64 0,.string ⟨#[]⟩,.int .i64 0,.slice none 0 0]).cells (n-(i+(n-j)))).toList:=⟨_,rfl⟩;have hzl:zs.length=4:=by rw[hzs];simp[size_zeroCells,Value.cells];omega
 have hcl:∀ty,(Builtin.clear_ #[54] ty #[.slice (some ⟨blk,off+(i+(n-j))*4,none⟩) (n-(i+(n-j))) (cap-(i+(n-j)))]).run Tryz.prog W1= .ok (.tuple #[]) (W1.setCells blk (off+(i+(n-j))*4) zs):=λty=>by
  rw[hzs];refine iH W1 _ 56 ty _ (by kernel_rfl) (λ_=>Tryz.zeroValue56 _) ?_ blk _ _ _ (by omega) (λk hk=> ?_) (λk _=>by simp[World.frozen?,hc1])
  ·intro v hv;simp[Value.cells]at hv;rcases hv with rfl|rfl|rfl|rfl<;>rfl
  ·have:k<4:=by simp[Value.cells]at hk;omega
   rw[cN hc1,gA (by omega)];rfl
 have X:Aside (∀k,k<(n-j)*4->cur1[off+i*4+k]? =cur[off+j*4+k]?):=in1;have Y:Aside (∀k,k<i*4\/(i+(n-j))*4<=k->cur1[off+k]? =cur[off+k]?):=out1;have Z:Aside (W1.heap[blk]? =some (.cells cur1 t (0,0))/\cur1.size=cur.size):=⟨hc1,hc1s⟩;have hW:Hid (W1=w.drew.setCells blk (off+i*4) news):=hW1;have ZL:Aside (zs.length=4):=hzl;have hic:i<=cap:=by omega
 have hjc:j<=cap:=by omega
 have hlt:i<j:=by omega
 have hjn:j<=n:=by omega
 obtain⟨i0,hi0,hz1⟩:∃i0,Tryz.prog.info? 56=some i0/\i0.size=4:=by
  have e:(Tryz.prog.info? 56).map (λi=>i.size)=some 4:=by kernel_rfl
  exact Option.map_eq_some_iff.1 e
 have HJ:Aside (j=i+1/\i<n):=⟨hj,hi⟩;clear hW1 in1 out1 hc1 hc1s hzs hzl hnews hlen hget cell0 frz0 hwd h1 hw hj hi
 go_enter Tryz.func119,Tryz.ntmps119
 go_wp2_with fail
 have t22:Tryz.prog.underlying 54=some (.slice 56):=by kernel_rfl
 go_region_law (refine step_append_room rfl (.tmp 22) (.tmp 25) 54 rfl 56 i0 4 t22 hi0 hz1 blk off i cap (by simp[Act.eval,Act.put]) A (n-j) (cap-j) news (by simp[Act.eval,Act.put]) s1.out hsrc.out s2.out (by omega) s3.out ?_;rw[<-hW.out])
 go_wp2
 go_ret
 obtain⟨hj,hi⟩:=HJ.out;obtain⟨hc1,hc1s⟩:=Z.out;obtain⟨cur2,hc2,hc2s⟩:=jN blk zs (off+(i+(n-j))*4) W1 cur1 t (0,0) hc1;have hch:Chg blk w W1:=by rw[hW.out];exact(yV (Chg.refl blk w)).trans (lG _ _ _ _)
 have out2:∀k,k<(n-1)*4->cur2[off+k]? =cur1[off+k]? :=λk hk=>by
  rw[<-cN hc2,<-cN hc1];exact World.cell?_setCells_out blk zs (off+(i+(n-j))*4) W1 _ (λ_ _=>by simp;omega)
 refine⟨by rw[show n-1=i+(n-j) by omega];rfl,hch.trans (lG _ _ _ _),cur2,hc2,by omega,λk hk=> ?_,λk hk hk2=> ?_⟩
 ·rw[out2 k (by omega),Y.out k (.inl hk)]
 ·rw[out2 k hk2,show off+k=off+i*4+(k-i*4) by omega,X.out (k-i*4) (by omega)]
  congr 1
  omega
end Go.Proofs.YtkinkfieackmdaaGreatDoor
namespace Go.Proofs.YtkinkfieackmdaaGreatDoor.Abs
open Go.RowKit
theorem xw        {P : Program} {f : FuncId} {h : ag}   {a len len' s : Nat} {es es' : List (List V)} {xs : List AV} (hc : callable P f) (ha : h[a]? = some (some (.row s es)))
  (hh:∀(w:World) (I:Nat->Prop) (ι:List Inf) (cs:Array Value) (inf:Inf),HR ι I w h->(∀b,I b->b<w.heap.size)->ι[a]? =some inf->ARs ι I w (.one (.own a 0 len)::xs) cs->Calls P f cs w λe w'=>∃u,e= .returned u/\Chg inf.block w w'/\(Keeps I I w w'->VR I w' ι (.own a 0 len') u/\OR ι I w' inf (.row s es'))):
  Fn P f (.one (.own a 0 len)::xs) h (λr h'=>r= .one (.own a 0 len')/\h'=h.set a (some (.row s es'))):=
 ⟨hc, fun w I ι cs hH hI hA => by
  have hal:a<h.length:=(gI.1 ha).1;obtain⟨inf,hi⟩:∃inf,ι[a]? =some inf:=⟨_,List.getElem?_eq_getElem (by rw[<-hH.len];exact hal)⟩;have hblk:inf.block<w.heap.size:=by
   obtain⟨cur,t,e,_⟩:=hH.obj a _ inf ha hi;exact cE e
  have hoff:=hH.off a _ inf ha hi
  have blk:∀{id:Nat} {o:Ob} {inf':Inf},h[id]? =some (some o)->ι[id]? =some inf'->inf'.block<w.heap.size:=λ{id o inf'} q1 q2=>by
   have ho:=hH.obj id o inf' q1 q2;cases o with
   |row s es=>obtain⟨cur,t,e,_⟩:=ho;exact cE e
   |map kvs=>obtain⟨cur,t,e,_⟩:=ho;exact cE e
  have old:∀{id:Nat} {o:Ob} {inf':Inf},(h.set a (some (.row s es')))[id]? =some (some o)->ι[id]? =some inf'->∃o',h[id]? =some (some o')/\((id=a/\inf'=inf/\o= .row s es')\/(o'=o/\inf'.block≠inf.block)):=λ{id o inf'} q1 q2=>by
   by_cases e:id=a
   ·subst e;rw[sS hal]at q1;rw[hi]at q2;exact⟨_,ha,.inl ⟨rfl,(Option.some.inj q2).symm,(Option.some.inj (Option.some.inj q1)).symm⟩⟩
   ·rw[sN (λq=>e q.symm)]at q1;exact⟨o,q1,.inr ⟨rfl,λq=>e (hH.inj id a o _ inf' inf q1 ha q2 hi q)⟩⟩
  refine(hh w I ι cs inf hH hI hi hA).mono λ_ w' ⟨u,e1,hb,hv⟩=> ?_;have kI:Keeps I I w w':=⟨λ_ q=>q,λb o q=>by
   simp only[World.cell?];rw[hb.block b (hI b q) λe=>hoff (e▸q)]⟩
  obtain⟨hv,ho⟩:=hv kI;exact⟨_,_,ι,I,u,⟨rfl,rfl⟩,e1,
  { res := .one hv
    heap :=
      { len := by rw [List.length_set]; exact hH.len
        obj:=λid o inf' q1 q2=>by
          obtain⟨o',q3,⟨_,rfl,rfl⟩|⟨rfl,q4⟩⟩:=old q1 q2
          · exact ho
          · exact(hH.obj id _ inf' q3 q2).keep (Grows.refl _) kI (hb.block _ (blk q3 q2) q4)
        off:=λid o inf' q1 q2 q=>by
          obtain⟨o',q3,_⟩:=old q1 q2;exact hH.off id _ inf' q3 q2 q
        inj:=λid id' o o' inf1 inf2 q1 q2 q3 q4 e=>by
          obtain⟨_,r1,_⟩:=old q1 q3;obtain⟨_,r2,_⟩:=old q2 q4;exact hH.inj id id' _ _ inf1 inf2 r1 r2 q3 q4 e}
    imm:=λb q=>Nat.lt_of_lt_of_le (hI b q) hb.size
    immlo:=λb q=>.inl q
    pre:=Grows.refl _
    os:=hb.os
    tape:=hb.tape
    output:=hb.output
    grown:=hb.size
    frame:=λb hlt hn=>hb.block b hlt λe=>hn ⟨a,_,inf,ha,hi,e.symm⟩
    mine:=λid o inf' q1 q2=>by
      obtain⟨o',q3,_⟩:=old q1 q2;exact .inl ⟨id,o',inf',q3,q2,rfl⟩}⟩⟩
end Go.Proofs.YtkinkfieackmdaaGreatDoor.Abs
namespace Go.Proofs.YtkinkfieackmdaaGreatDoor.Den
open Go.RowKit
open Abs (V AV VR AR Inf OR HR)
theorem yn {α:Type} {l:List α} {i k:Nat} (hi:i<l.length):(l.take i++l.drop (i+1))[k]? =if k<i then l[k]? else l[k+1]? :=by
 split
 ·rename_i h;rw[aL (by rw[List.length_take];omega),List.getElem?_take_of_lt h]
 ·rename_i h;rw[aR (by rw[List.length_take];omega),List.length_take,Nat.min_eq_left (by omega),List.getElem?_drop]
  congr 1
  omega
theorem fD {α:Type} {l:List α} {i:Nat} (hi:i<l.length):(l.take i++l.drop (i+1)).length=l.length-1:=by
 rw[List.length_append,List.length_take,List.length_drop];omega
theorem zx {T:Ty} {l:List (I T)} {es:List (List V)} {i:Nat} (hp:0<szT T) (h:FR (.l T l) (.imm (szT T) es)):FR (.l T (l.take i++l.drop (i+1))) (.imm (szT T) (es.take i++es.drop (i+1))):=by
 have hl:es.length=l.length:=by cases h with|l _ hl _ _=>exact hl
 have a:=(FR.sub h 0 i).frl;have b:=(FR.sub h (i+1) l.length).frl;rw[List.drop_zero,List.drop_zero]at a;rw[List.take_length,<-hl,List.take_length]at b;exact(a.app b).fr hp
set_option maxHeartbeats 1000000 in
theorem B3      (l : List Tm) (i j : Nat) (hj : j = i + 1) (hi : i < l.length) : CFn Tryz.prog 119 [.one (.o 0), .one (.i (i : Int)), .one (.i (j : Int))] [.row (.n 1) 0 l] (.one (.o 1)) [.gone, .row (.n 1) 0 (l.take i ++ l.drop (i + 1))] := fun ρ hp avs hH hA => by
 have hcal:Abs.callable Tryz.prog 119:=⟨Tryz.f119,Tryz.func119,by kernel_rfl,by kernel_rfl⟩;obtain⟨hA1,hA2⟩:=hA
 match avs,hA1 with
 | [x0, x1, x2], _ =>
  have k0:=hA2 0 (by simp) (by simp);have k1:=hA2 1 (by simp) (by simp);have k2:=hA2 2 (by simp) (by simp);simp only[List.getElem_cons_zero,List.getElem_cons_succ]at k0 k1 k2;obtain⟨v0,rfl,w0⟩:=k0.one';obtain⟨v1,rfl,w1⟩:=k1.one';obtain⟨v2,rfl,w2⟩:=k2.one';cases w1.int;cases w2.int;have H0:([Ob.row (.n 1) 0 l]:List Ob)[0]? =some (.row (.n 1) 0 l):=rfl;obtain⟨y0,rfl⟩:∃y0,ρ=[y0]:=by
   have:=hH.len
   match ρ,this with
   |[y0],_=>exact⟨y0,rfl⟩
  rcases w0.own H0 with⟨a,rfl,p0⟩|⟨rfl,p0⟩
  ·obtain ⟨es, r0, f0⟩ := hH.at_ p0 H0;have hla:a<hp.length:=hH.lt _ _ p0;simp at p0;subst p0;have hes:es.length=l.length:=by cases f0 with|l _ hl _ _=>exact hl
   have f1:=zx (T:=.n 1) (i:=i) (by decide) f0;have one:∀m,live [Ob.gone,.row (.n 1) 0 (l.take i++l.drop (i+1))] m->m=1:=λm ⟨x,z1,z2⟩=>by
    match m,z1 with
    |0,z1=>simp at z1;subst z1;simp at z2
    |1,_=>rfl
    |m+2,z1=>simp at z1
   refine (Abs.xw        (len' := (l.take i ++ l.drop (i + 1)).length) (es' := es.take i ++ es.drop (i + 1)) hcal r0 fun w I ι cs inf hR hI hinf hAr => ?_).mono fun r h' ⟨q1, q2⟩ => by
    subst q1 q2;exact⟨[some a,some a],.one (.o (id:=1) (T:=.n 1) (n:=0) rfl rfl),
    { len := rfl
      row := fun id n T ys q => by
        match id,q with
        |0,q=>simp at q
        | 1, q =>
          have q:=Option.some.inj (show some (Ob.row (.n 1) 0 (l.take i++l.drop (i+1)))=some (.row T n ys)from q);cases q;exact .inl ⟨a,_,rfl,sS hla,f1⟩
        |id+2,q=>simp at q
      box:=λid cs q=>by
        match id,q with
        |0,q=>simp at q
        |1,q=>simp at q
        |id+2,q=>simp at q
      map:=λid T kvs q=>by
        match id,q with
        |0,q=>simp at q
        |1,q=>simp at q
        |id+2,q=>simp at q
      inj:=λm k b _ _ l1 l2=>by rw[one m l1,one k l2]
      lt := fun m b q => by
        rw[List.length_set]
        match m,q with
        |0,q=>simp at q;subst q;exact hla
        |1,q=>simp at q;subst q;exact hla
        |m+2,q=>simp at q},
    { len := by show hp.length ≤ _; rw [List.length_set]; exact Nat.le_refl _
      old:=λid b z1 z2 z3=>by
        have:=one id z2;subst this;exact⟨0,z1,⟨_,rfl,rfl⟩⟩
      same:=λb hb z=>sN λe=>z 0 (by subst e;rfl) ⟨_,rfl,rfl⟩
      rho:=λid x q=>by
        match id,q with
        |0,q=>exact q
        |id+1,q=>simp at q
      ob := fun id x q => by
        match id,q with
        |0,q=>exact⟨.gone,rfl,.inl rfl⟩
        |id+1,q=>simp at q}⟩
   obtain⟨hc1,hc2⟩:=hAr;obtain⟨c0,d0,e0⟩:=hc2 0 (by simp);obtain⟨c1,d1,e1⟩:=hc2 1 (by simp);obtain⟨c2,d2,e2⟩:=hc2 2 (by simp);obtain rfl:cs= #[c0,c1,c2]:=by
    rcases cs with⟨z⟩
    match z,hc1 with
    | [x, y, u], _ =>
     simp at d0 d1 d2;subst d0 d1 d2;rfl
   simp only[List.getElem_cons_zero,List.getElem_cons_succ]at e0 e1 e2;cases e0 with
   |one e0=>
   cases e1 with
   |one e1=>
   cases e2 with
   |one e2=>
   cases e1 with
   |lit _=>
   cases e2 with
   |lit _=>
   obtain⟨cur,t,o1,o2,o3,o4,o5,o6,o7⟩:=hR.obj a _ inf r0 hinf;have o2:inf.size=4:=o2;have o3:cur.size=inf.base+inf.cap*4:=o3;have o7:∀(k:Nat) (hk:k<es.length) (j:Nat) (hj:j<es[k].length),∃u,cur[inf.base+(k*4+j)]? =some u/\VR I w ι es[k][j] u:=o7;have o6:∀e∈es,e.length=4:=o6;have hs:∃c,c0= .slice (some ⟨inf.block,inf.base,none⟩) l.length c/\l.length<=c/\c=inf.cap/\c<=9223372036854775807:=by
    obtain⟨m,hm⟩:∃m,m=List.length (α:=Den.I (Ty.n 1)) l:=⟨_,rfl⟩;have hm':m=l.length:=hm;rw[<-hm]at e0;rw[<-hm'];cases e0 with
    | @own _ _ _ _ c inf' hi' hl' hcp hm2=>
     rw[hinf]at hi';cases hi';exact⟨c,by rw[Nat.zero_mul,Nat.add_zero],hl',by omega,hm2⟩
    |own0 _ _=>omega
   obtain⟨c,rfl,hc,hcc,hm⟩:=hs;refine(uZ w o1 hj hi hc (by omega) λk hk v hv=> ?_).mono λe w' ⟨z1,z2,cur',z3,z4,z5,z6⟩=>⟨_,z1,z2,λkI=>⟨?_,?_⟩⟩
   ·have hk4:k / 4<es.length:=by omega
    obtain⟨u,u1,u2⟩:=o7 (k / 4) hk4 (k%4) (by rw[o6 _ (gM hk4)];omega);rw[show k / 4*4+k%4=k by omega,hv]at u1;cases u1;exact u2.plain.1
   ·rw[fD hi];have q:=VR.own (I:=I) (w:=w') (ι:=ι) (id:=a) (off:=0) (len:=l.length-1) (c:=c) hinf (by omega) (by omega) hm;simpa using q
   ·refine⟨cur',t,z3,o2,by rw[z4];exact o3,o4,by rw[fD        (by omega)];omega,λe he=> ?_,λk hk m hm=> ?_⟩
    ·rcases List.mem_append.1 he with he|he
     ·exact o6 e (List.mem_of_mem_take he)
     ·exact o6 e (List.mem_of_mem_drop he)
    ·rw [fD        (by omega)] at hk;have hg:=yn        (l:=es) (k:=k) (show i<es.length by omega);rw[List.getElem?_eq_getElem (by rw[fD        (by omega)];exact hk)]at hg;show ∃u,cur'[inf.base+(k*4+m)]? =some u/\_;have hm4:m<4:=by
      have:=o6 (es.take i++es.drop (i+1))[k] (by
       rcases List.mem_append.1 (gM (l:=es.take i++es.drop (i+1)) (n:=k) (by rw[fD (by omega)];exact hk))with he|he
       ·exact List.mem_of_mem_take he
       ·exact List.mem_of_mem_drop he)
      omega
     split at hg
     ·rename_i hki;rw[List.getElem?_eq_getElem (by omega)]at hg;have hg:=Option.some.inj hg;obtain⟨u,u1,u2⟩:=o7 k (by omega) m (by rw[o6 _ (gM _)];exact hm4);refine⟨u,by rw[z5 _ (by omega)];exact u1,?_⟩;simp only[hg];exact u2.keep (Abs.Grows.refl _) kI
     ·rename_i hki;rw[List.getElem?_eq_getElem (by omega)]at hg;have hg:=Option.some.inj hg;obtain⟨u,u1,u2⟩:=o7 (k+1) (by omega) m (by rw[o6 _ (gM _)];exact hm4);refine⟨u,by rw[z6 _ (by omega) (by omega),<-u1];congr 2;omega,?_⟩;simp only[hg];exact u2.keep (Abs.Grows.refl _) kI
  ·exfalso;rcases hH.row 0 _ _ _ H0 with⟨a',es,h7,_⟩|⟨_,h7,_⟩
   ·rw[p0]at h7;cases h7
   ·have h7:l=[]:=h7;subst h7;simp at hi
noncomputable def qa:List Tm->Int->Int->Option (List Tm):=λl i j=>if 0<=i/\j=i+1/\i<l.length then some (l.take i.toNat++l.drop (i.toNat+1))else none
theorem xD :EO (z56.ent qa):=λR xs H K r hc=>by
 simp only[z56.ent]at hc;split at hc
 ·rename_i i j l;obtain⟨r,q1,q2⟩:=bind_some hc;unfold qa   at q1;split at q1
  ·rename_i hl;cases q1;obtain⟨m,rfl⟩:∃m:Nat,i=(m:Int):=⟨i.toNat,by omega⟩;obtain⟨k,rfl⟩:∃k:Nat,j=(k:Int):=⟨j.toNat,by omega⟩;exact⟨_,_,q2,B3 l m k (by omega) (by omega)⟩
  ·cases q1
 ·cases hc
end Go.Proofs.YtkinkfieackmdaaGreatDoor.Den
namespace Go.Proofs.YtkinkfieackmdaaGreatDoor.Den
open Go.RowKit
open Classical
noncomputable def qx:List Tm->Tm->Nat->Int
 |[],_,_=> -1
 |u::us,t,i=>if t=u then (i:Int)else qx us t (i+1)
theorem vO {t:Tm}:∀{l:List Tm},t∉l->erT l t=l
 |[],_=>rfl
 | u :: us, h => by
  simp only[List.mem_cons,not_or]at h;unfold erT;rw[if_neg λe=>h.1 e.symm,vO h.2]
theorem vB (t:Tm):∀(l:List Tm) (i:Nat),(qx l t i= -1/\t∉l)\/∃p:Nat,qx l t i=((i+p:Nat):Int)/\p<l.length/\t∈l/\l.take p++l.drop (p+1)=erT l t
 |[],_=>.inl ⟨rfl,by simp⟩
 | u :: us, i => by
  unfold qx erT;by_cases h:t=u
  ·rw[if_pos h,if_pos h.symm];exact .inr ⟨0,rfl,by simp,by simp[h],rfl⟩
  ·rw[if_neg h,if_neg λe=>h e.symm];rcases vB      t us (i+1)with⟨h1,h2⟩|⟨p,h1,h2,h3,h4⟩
   ·exact .inl ⟨h1,by simp[h,h2]⟩
   ·refine .inr ⟨p+1,by rw[h1];congr 1;omega,by simp;omega,by simp[h3],?_⟩;rw[List.take_succ_cons,List.drop_succ_cons,List.cons_append,h4]
noncomputable def gF1:Tm->Tm->Option Bool:=λu t=>if t.total<4294967296 then some (decide (t=u))else none
theorem FA :EO (z1l.ent gF1):=z1l.ok (G:=⟨bf 4294967296⟩) ⟨z1o _ (Nat.le_refl _),trivial⟩ λu t r h=>by
 unfold gF1 at h;split at h
 ·rename_i hs;cases h;refine⟨1,?_⟩;unfold z1l.main;rw[Tm.eta,Tm.eta];show Option.bind (bf 4294967296 t u) _=_;rw[show bf 4294967296 t u=some (decide (aQ t u=0))from if_pos hs,bS,cQ]
 ·cases h
noncomputable def sH:List Tm->Tm->Option Int:=λl t=>if t.total<4294967296/\l.length<4294967296 then some (qx l t 0)else none
noncomputable abbrev GIxE:z5b.Gs:=⟨gF1⟩
theorem FD :EO (z5b.ent sH):=z5b.ok (G:=GIxE) ⟨FA,trivial⟩ λvs t r h=>by
 unfold sH at h;split at h
 ·rename_i hs;obtain⟨ht,hl⟩:=hs;have hl:List.length (α:=Tm) vs<4294967296:=hl;cases h;refine⟨List.length (α:=Tm) vs+1,?_⟩;unfold z5b.main;refine(jf     (List.length (α:=Tm) vs) (λi nx=>z5b.b2 GIxE _ vs t (List.length (α:=Tm) vs:Int) i nx _ _) (λi=>some (AT.one (.i (qx   (List.drop (α:=Tm) i vs) t i)),[.row (.n 1) 0 vs,.box [.i t.op,.s t.name,.i t.sort,.l (.n 1) t.args]])) (λnx=> ?_) (λi nx hi e=> ?_) _ 0 (by omega) (by omega)).trans ?_
  ·unfold z5b.b2;rw[aq (Nat.lt_irrefl _),cF,aK];rfl
  ·obtain⟨u,u1,_⟩:=aV     hi;unfold z5b.b2;rw[aH     hi,cT,aD     u1,bS,Tm.eta,Tm.eta,aO     (by omega),e,aE       u1];show Option.bind (gF1 u t) _=_;rw[show gF1 u t=some (decide (t=u))from if_pos ht,bS]
   conv=>rhs;unfold qx
   by_cases hc:t=u
   ·rw[dT hc,cT,if_pos hc]
   ·rw[dF hc,cF,if_neg hc]
  ·rw[List.drop_zero]
 ·cases h
section
variable {k : Nat} {g : GQ} (eg : EO (z1j.ent g)) (hg : wJ k g)
include eg hg
noncomputable abbrev gF2 (g:GQ):Tm->List Int->List Int->List Int->List ByteArray->List Sb->List Opr->Mp->List Int->Km->Tm->Option (Bool×Mp×Km):=λt d c e nm sb ops mp rank kn u=>g d c e nm sb ops mp rank kn t u
omit hg in
theorem FH :EO (z1m.ent (gF2 g)):=z1m.ok (G:=⟨g⟩) ⟨eg,trivial⟩ λt d c e nm sb ops mp rank kn u r h=>by
 refine⟨1,?_⟩;unfold z1m.main;rw[Tm.eta,Tm.eta];show Option.bind (g d c e nm sb ops mp rank kn t u) _=_;rw[show g d c e nm sb ops mp rank kn t u=some r from h,bS]
def DQ (k:Nat) (l:List Tm) (nm:List ByteArray) (sb:List Sb) (ops:List Opr) (rank:List Int) (kn:Km) (u:Tm):Prop:=Ctx ⟨⟨nm,sb⟩,ops⟩ rank/\(∀t∈l,Good ⟨⟨nm,sb⟩,ops⟩ t/\t.total+u.total<k)/\Good ⟨⟨nm,sb⟩,ops⟩ u/\l.length<=1024/\cW ops rank kn
theorem Fa :∃gi:List Tm->List Int->List Int->List Int->List ByteArray->List Sb->List Opr->Mp->List Int->Km->Tm->Option (Int×Mp×Km),EO (z5c.ent gi)/\
  ∀l d c e nm sb ops mp rank kn u,DQ k l nm sb ops rank kn u->∃r,gi l d c e nm sb ops mp rank kn u=some r/\∃kn' p,cW ops rank kn'/\r=(p,mp,kn')/\decide (0<=p)=l.any λt=>gtF ops rank t u:=
 fJ        (E:=λgi=>EO (z5c.ent gi)) (λgi h=>z5c.ok (G:=⟨gF2 g⟩) ⟨FH    eg,trivial⟩ h)
  fun l d c e nm sb ops mp rank kn u ⟨hC, hl, gu, hn, hkn⟩ => by
   have key:∀(K:Int->Mp->Km->Option (AT×List Ob)),∃s':Mp×Km,(s'.1=mp/\cW ops rank s'.2)/\((l.any (λt=>gtF ops rank t u)=true/\∃j:Nat,z5c.main ⟨gF2 g⟩ (List.length (α:=Tm) l+1) l d c e nm sb ops mp rank kn u K=K (j:Int) s'.1 s'.2)\/(l.any (λt=>gtF ops rank t u)=false/\z5c.main ⟨gF2 g⟩ (List.length (α:=Tm) l+1) l d c e nm sb ops mp rank kn u K=K (-1) s'.1 s'.2)):=λK=>by
    have:=ia (σ:=Mp×Km) l (λt=>gtF ops rank t u) (λs=>s.1=mp/\cW ops rank s.2) (λi s nx=>z5c.b2 ⟨gF2 g⟩ (List.length (α:=Tm) l+1) l rank d c e nm sb ops u (List.length (α:=Tm) l:Int) i s.1 s.2 (λy0 y1 y2=>nx y0 (y1,y2)) (λt4 h3 h4=>K t4 h3 h4) (λh3 h4=>K (-1) h3 h4)) (λj s=>K (j:Int) s.1 s.2) (λs=>K (-1) s.1 s.2) (λs nx _=> ?_) (λi x s nx hx hq=> ?_) (List.length (α:=Tm) l+1) 0 (mp,kn) ⟨rfl,hkn⟩ (by omega) (by omega)
    ·rw[List.drop_zero]at this;exact this
    ·unfold z5c.b2;rw[aq (Nat.lt_irrefl _),cF]
    ·obtain⟨s1,s2⟩:=s;obtain⟨rfl,hkn1⟩:s1=mp/\cW   ops rank s2:=hq;have hm:=mG hx;obtain⟨gx,tx⟩:=hl x hm;obtain⟨kn',hk',e1⟩:=hg d c e nm sb ops s1 rank s2 x u hC gx gu tx hkn1;have hil:i<List.length (α:=Tm) l:=(gI.1 hx).1;refine⟨(s1,kn'),⟨rfl,hk'⟩,?_⟩;unfold z5c.b2;simp only[aH     hil,cT,aD     hx,bS,Tm.eta,aO     (show i<4294967296 by omega)];rw[show gF2 g x d c e nm sb ops s1 rank s2 u=some (gtF ops rank x u,s1,kn')from e1,bS];cases gtF ops rank x u with
     |true=>exact .inl ⟨rfl,rfl⟩
     |false=>exact .inr ⟨rfl,rfl⟩
   obtain⟨⟨s1,s2⟩,⟨rfl,q⟩,⟨h1,j,h2⟩|⟨h1,h2⟩⟩:=key _
   ·exact⟨((j:Int),s1,s2),⟨_,h2⟩,s2,j,q,rfl,by rw[h1,dT (by omega)]⟩
   ·exact⟨((-1:Int),s1,s2),⟨_,h2⟩,s2, -1,q,rfl,by rw[h1,dF (by omega)]⟩
theorem E4 :∃gc:List Tm->List Int->List Int->List Int->List ByteArray->List Sb->List Opr->Mp->List Int->Km->Tm->Option (Bool×Mp×Km),EO (z51.ent gc)/\
  ∀l d c e nm sb ops mp rank kn u,DQ k l nm sb ops rank kn u->∃kn',cW ops rank kn'/\gc l d c e nm sb ops mp rank kn u=some (l.any (λt=>gtF ops rank t u),mp,kn'):=by
 obtain⟨gi,ei,hi⟩:=Fa eg hg
 obtain⟨gc,ec,hc⟩:=fJ (P:=λl d c e nm sb ops mp rank kn u=>DQ k l nm sb ops rank kn u) (Post:=λl d c e nm sb ops mp rank kn u r=>Ans ops rank mp (l.any λt=>gtF ops rank t u) r) (E:=λgc=>EO (z51.ent gc)) (λgc h=>z51.ok (G:=⟨gi⟩) ⟨ei,trivial⟩ h)
  fun l d c e nm sb ops mp rank kn u hp => by
   obtain⟨r,e1,kn',p,h1,rfl,h2⟩:=hi l d c e nm sb ops mp rank kn u hp;refine⟨(l.any (λt=>gtF ops rank t u),mp,kn'),⟨1,?_⟩,kn',h1,rfl⟩;unfold z51.main;rw[Tm.eta];show Option.bind (gi l d c e nm sb ops mp rank kn u) _=_;rw[e1,bS,<-h2]
 refine⟨gc,ec,λl d c e nm sb ops mp rank kn u hp=> ?_⟩;obtain⟨r,h1,kn',h2,rfl⟩:=hc l d c e nm sb ops mp rank kn u hp;exact⟨kn',h2,h1⟩
end
theorem oI (a b:List Tm):(cz a b).length<=a.length:=by
 induction a generalizing b with
 |nil=>exact Nat.le_refl _
 | cons t a ih =>
  unfold cz;split
  ·exact Nat.le_succ_of_le (ih _)
  ·exact Nat.succ_le_succ (ih _)
theorem yC (a b:List Tm):(aP a b).length<=a.length:=by rw[<-gR];exact oI a b
theorem yS (l:List Tm) (t:Tm):(erT l t).length<=l.length:=by
 induction l with
 |nil=>exact Nat.le_refl _
 | cons x xs ih =>
  unfold erT;split
  ·simp
  ·simp;exact ih
theorem Bx {R:Type} (gc:List Tm->List Int->List Int->List Int->List ByteArray->List Sb->List Opr->Mp->List Int->Km->Tm->Option (Bool×Mp×Km)) (n:Nat) (d c e:List Int) (nm:List ByteArray) (sb:List Sb) (ops:List Opr) (mp:Mp) (kn:Km) (rank:List Int) (a b:List Tm) (ha:∀x∈a,x.total<4294967296) (hal:a.length<=1024) (hbl:b.length<=1024) (hn:a.length<n) (k0:List Tm->List Tm->Option R):
  z1k.l4 ⟨qr,sH,qa,gc⟩ n n d c e nm sb ops a (a.length:Int) mp kn rank 0 b [] k0=k0 (aP b a) (cz a b):=by
 refine(vX (A:=List Tm×List Tm) a.length (λi s nx=>z1k.b4 ⟨qr,sH,qa,gc⟩ n d c e nm sb ops a (a.length:Int) mp kn rank i s.1 s.2 (λy0 y1 y2=>nx y0 (y1,y2)) k0) (λi s=>s.1.length<=1024/\s.2.length<=i) (λi s=>k0 (aP s.1 (a.drop i)) (s.2++cz (a.drop i) s.1)) (λs nx _=> ?_) (λi s nx hi hq q=> ?_) n 0 (b,[]) ⟨hbl,Nat.le_refl _⟩ (by omega) (by omega)).trans ?_
 ·unfold z1k.b4;rw[aq (Nat.lt_irrefl _),cF,aK];show _=k0 s.1 (s.2++[]);rw[List.append_nil]
 ·obtain⟨h,z⟩:=s;obtain⟨q1,q2⟩:h.length<=1024/\z.length<=i:=hq;obtain⟨t,t1,t2⟩:=aV     hi;unfold z1k.b4;simp only[aH     hi,cT,aD     t1,bS,Tm.eta,aO     (show i<4294967296 by omega)];rw[show sH   h t=some (qx   h t 0)from if_pos ⟨ha t t2,by omega⟩,bS,aE       t1];show _=k0 ((a.drop (i+1)).foldl erT (erT h t)) (z++cz    (t::a.drop (i+1)) h)
  conv=>rhs;unfold cz
  rcases vB t h 0 with⟨p1,p2⟩|⟨p,p1,p2,p3,p4⟩
  ·rw[p1,dF (by omega),cF,if_neg p2,vO p2,cj (by simp;omega),bS,q (h,z++[t]) ⟨q1,by simp;omega⟩];show k0 _ (z++[t]++cz _ _)=_;rw[List.append_assoc];rfl
  ·rw[p1,Nat.zero_add,dT (by omega),cT,if_pos p3,aO (by omega)];show Option.bind (qa h (p:Int) ((p+1:Nat):Int)) _=_;rw[show qa h (p:Int) ((p+1:Nat):Int)=some (h.take p++h.drop (p+1))from if_pos ⟨by omega,by omega,by omega⟩,bS,p4];exact q (erT h t,z) ⟨Nat.le_trans (yS h t) q1,by show z.length<=i+1;omega⟩
 ·rw[List.drop_zero];rfl
theorem Ah {k:Nat} {g:GQ} (eg:EO (z1j.ent g)) (hg:wJ k g):∃gl,EO (z1k.ent gl)/\Fp k gl:=by
 obtain⟨gc,ec,hc⟩:=E4 eg hg
 obtain⟨gl,el,hl⟩:=fJ (E:=λgl=>EO (z1k.ent gl)) (P:=λd c e nm sb ops mp rank kn a b=>Ctx ⟨⟨nm,sb⟩,ops⟩ rank/\(∀x∈a,Good ⟨⟨nm,sb⟩,ops⟩ x/\x.total<100000000)/\(∀y∈b,Good ⟨⟨nm,sb⟩,ops⟩ y/\y.total<100000000)/\a.length<=1024/\b.length<=1024/\b≠[]/\(∀x∈a,∀y∈b,x.total+y.total<k)/\cW ops rank kn) (Post:=λd c e nm sb ops mp rank kn a b r=>Ans ops rank mp (dc (gtF ops rank) a b) r)
  (λgl h=>z1k.ok (G:=⟨qr,sH,qa,gc⟩) ⟨w6,FD,xD,ec,trivial⟩ h)
  fun d c e nm sb ops mp rank kn a b ⟨hC, ha, hb, hal, hbl, hb0, hab, hkn⟩ => by
   have hal:List.length (α:=Tm) a<=1024:=hal;have hbl:List.length (α:=Tm) b<=1024:=hbl;have hrl:=yC b a;have hdl:=oI a b;obtain⟨n,hn⟩:∃n,n=List.length (α:=Tm) a+List.length (α:=Tm) b+1:=⟨_,rfl⟩;have key:∀(K:Bool->Mp->Km->Option (AT×List Ob)),∃s':Mp×Km,(s'.1=mp/\cW ops rank s'.2)/\z1k.main ⟨qr,sH,qa,gc⟩ n d c e nm sb ops mp rank kn a b K=K (dc (gtF ops rank) a b) s'.1 s'.2:=λK=>by
    have:=ia (σ:=Mp×Km) (aP b a) (λu=> !(cz a b).any λt=>gtF ops rank t u) (λs=>s.1=mp/\cW ops rank s.2) (λi s nx=>z1k.b12 ⟨qr,sH,qa,gc⟩ n d c e nm sb ops (List.length (α:=Tm) (aP b a):Int) rank (cz a b) (aP b a) i s.1 s.2 (λy0 y1 y2=>nx y0 (y1,y2)) (λt6 h12 h22=>K t6 h12 h22) (λh122 h222=>K (decide (0<(List.length (α:=Tm) (cz a b):Int))) h122 h222)) (λ_ s=>K false s.1 s.2) (λs=>K (decide (0<(List.length (α:=Tm) (cz a b):Int))) s.1 s.2) (λs nx _=> ?_) (λi u s nx hx hq=> ?_) n 0 (mp,kn) ⟨rfl,hkn⟩ (by omega) (by omega)
    ·obtain⟨s',q',h⟩:=this;refine⟨s',q',?_⟩;unfold z1k.main;show Option.bind (qr   b) _=_;rw[show qr   b=some b from if_pos ⟨hb0,hbl⟩,bS];refine(Bx       gc n d c e nm sb ops mp kn rank a b (λx hx=>by have:=(ha x hx).2;omega) hal hbl (by omega) _).trans ?_;rw[List.drop_zero]at h;unfold dc;rw[<-gR          a b];have hall:((aP    b a).all λu=>(cz    a b).any λt=>gtF ops rank t u)= !((aP    b a).any λu=> !(cz    a b).any λt=>gtF ops rank t u):=by rw[List.all_eq_not_any_not]
     rw[hall];rcases h with⟨h1,_,h2⟩|⟨h1,h2⟩
     ·rw[h1,Bool.not_true,Bool.false_and];exact h2
     ·rw[h1,Bool.not_false,Bool.true_and,show decide (0<(cz a b).length)=decide (0<((cz a b).length:Int))from decide_eq_decide.2 (by omega)];exact h2
    ·unfold z1k.b12;rw[aq (Nat.lt_irrefl _),cF]
    ·obtain⟨s1,s2⟩:=s;obtain⟨rfl,hkn1⟩:s1=mp/\cW   ops rank s2:=hq;have hm:=cK        (mG hx);have hil:i<List.length (α:=Tm) (aP    b a):=(gI.1 hx).1;obtain⟨kn',hk',e1⟩:=hc (cz    a b) d c e nm sb ops s1 rank s2 u ⟨hC,λt ht=>by
      rw[gR]at ht;exact⟨(ha t (cK ht)).1,hab t (cK ht) u hm⟩,(hb u hm).1,by omega,hkn1⟩
     refine⟨(s1,kn'),⟨rfl,hk'⟩,?_⟩;unfold z1k.b12;simp only[aH hil,cT,aD hx,bS,Tm.eta,aO (show i<4294967296 by omega)];rw[e1,bS];cases (cz a b).any λt=>gtF ops rank t u with
     |true=>exact .inr ⟨rfl,rfl⟩
     |false=>exact .inl ⟨rfl,rfl⟩
   obtain⟨⟨s1,s2⟩,⟨rfl,q⟩,h⟩:=key _;exact⟨(dc (gtF ops rank) a b,s1,s2),⟨_,h⟩,s2,q,rfl⟩
 refine⟨gl,el,λd c e nm sb ops mp rank kn a b hC ha hb hal hbl hb0 hab hkn=> ?_⟩;obtain⟨r,h1,kn',h2,rfl⟩:=hl d c e nm sb ops mp rank kn a b ⟨hC,ha,hb,hal,hbl,hb0,hab,hkn⟩;exact⟨kn',h2,h1⟩
noncomputable abbrev GCm (g:GQ) (gl:LQ'):z1i.Gs:={z1n:=bf 4294967296,z1j:=g,z1k:=gl}
def SQ (ops:List Opr) (rank:List Int) (mp:Mp) (s:Mp×Km):Prop:=s.1=mp/\cW ops rank s.2
section
variable {R : Type} {k : Nat} {g : GQ} (hg : wJ k g) {gl : LQ'} (hl : Fp k gl) {nm : List ByteArray} {sb : List Sb} {ops : List Opr} {rank : List Int} (hC : Ctx ⟨⟨nm, sb⟩, ops⟩ rank) {a b : Tm} (ga : Good ⟨⟨nm, sb⟩, ops⟩ a) (gb : Good ⟨⟨nm, sb⟩, ops⟩ b) (ht : a.total + b.total < k + 1) (hk : k ≤ 100000000) (d c e : List Int) (mp : Mp)
include hg hC ga gb ht hk
theorem C9 (n:Nat) (hlen:a.args.length=b.args.length) (s:Mp×Km) (hs:SQ ops rank mp s) (K:Bool->Mp->Km->Option R):∀m (i:Nat),i<=a.args.length->a.args.length-i<m->
  ∃s',SQ ops rank mp s'/\z1i.l20 (GCm g gl) n m d c e nm sb ops a.args (a.args.length:Int) s.1 s.2 rank b.op b.name b.sort b.args (i:Int) K (K false s.1 s.2)=K (gQ (gtF ops rank) (a.args.drop i) (b.args.drop i)) s'.1 s'.2:=by
 have hla:=bm a.args;have hta:=az a;intro m
 induction m with
 |zero=>intro i _ hm;omega
 | succ m ih =>
  intro i hi hm;show ∃s',_/\z1i.b20 (GCm g gl) n d c e nm sb ops a.args (a.args.length:Int) s.1 s.2 rank b.op b.name b.sort b.args (i:Int) (λy0=>z1i.l20 (GCm g gl) n m d c e nm sb ops a.args (a.args.length:Int) s.1 s.2 rank b.op b.name b.sort b.args y0 K (K false s.1 s.2)) K (K false s.1 s.2)=_;unfold z1i.b20;by_cases hlt:i<a.args.length
  ·obtain⟨x,x1,x2⟩:=aV     hlt;obtain⟨y,y1,y2⟩:=aV     (xs:=b.args) (show i<b.args.length by omega);have hx:=ac        x2;have hy:=ac        y2;simp only[aH     hlt,cT,aD     x1,aD     y1,bS,Tm.eta,aO     (show i<4294967296 by omega)];rw[show bf    4294967296 x y=some (decide (aQ   x y=0))from if_pos (by omega),bS,cQ      ,aE       x1,aE       y1]
   conv=>enter [1,s',2,2];unfold gQ
   by_cases hxy:x=y
   ·rw[dT hxy,if_pos hxy,Bool.not_true,cF];exact ih (i+1) hlt (by omega)
   ·rw[dF hxy,if_neg hxy,Bool.not_false,cT];obtain⟨kn',hk',e1⟩:=hg d c e nm sb ops s.1 rank s.2 x y hC (ga.args x x2) (gb.args y y2) (by omega) hs.2;refine⟨(s.1,kn'),⟨hs.1,hk'⟩,?_⟩;unfold z1i.c23;simp only[aD y1,bS,Tm.eta];rw[e1,bS]
  ·obtain rfl:i=a.args.length:=by omega
   refine⟨s,hs,?_⟩;rw[aq (Nat.lt_irrefl _),cF,aK];rfl
include hl
theorem Fj (n:Nat) (hn:a.args.length+b.args.length<n) (ha0:¬a.op<0) (hb0:¬b.op<0) (s:Mp×Km) (hs:SQ ops rank mp s) (K:Bool->Mp->Km->Option R):
  ∃s',SQ ops rank mp s'/\z1i.c9 (GCm g gl) n d c e nm sb ops s.1 s.2 rank a.op a.name a.sort a.args b.op b.name b.sort b.args K=K (b.args.all (gtF ops rank a)&&(if a.op≠b.op then true else if jK ops a.op=true then dc (gtF ops rank) a.args b.args else gQ (gtF ops rank) a.args b.args)) s'.1 s'.2:=by
 have hla:=bm a.args;have hta:=az a;have hlb:=bm b.args;have htb:=az b;have na:a.op≠ -1:=λq=>ha0 (by omega);have nb:b.op≠ -1:=λq=>hb0 (by omega);obtain⟨o,ho,har⟩:=eS ga na;obtain⟨o',ho',har'⟩:=eS gb nb;have ho:ix ops a.op=some o:=ho;have ho':ix ops b.op=some o':=ho';have hom:=(bG ho).1;have hom':=(bG ho').1;rw[hC.free o hom,if_neg (by decide)]at har;rw[hC.free o' hom',if_neg (by decide)]at har';have hok:=iX hC.sig hom;have hok':=iX hC.sig hom';have f1:=hok.fa;have f2:=hok'.fa;unfold z1i.c9
 have := ia      (σ := Mp × Km) b.args (fun u => !gtF ops rank a u) (SQ ops rank mp) (fun i s nx => z1i.b10                 (GCm g gl) n d c e nm sb ops b.args (b.args.length : Int) rank a.op a.name a.sort a.args b.op b.name b.sort b.args i s.1 s.2 (fun y0 y1 y2 => nx y0 (y1, y2)) (fun t6 h12 h22 => K t6 h12 h22) (fun h122 h222 =>
   bif !decide (a.op=b.op)then
    (K true h122 h222)
   else
    Option.bind (ix ops a.op) λe2=>
    bif (Opr.comm e2)then
     (
     Option.bind (gl d c e nm sb ops h122 rank h222 a.args b.args) λr=>
     K r.1 r.2.1 r.2.2
     )
    else
     z1i.l20 (GCm g gl) n n d c e nm sb ops a.args (List.length a.args:Int) h122 h222 rank b.op b.name b.sort b.args 0
      (λt62 h123 h223=>K t62 h123 h223)
      (K false h122 h222))) (λ_ s=>K false s.1 s.2) (λs=>
   bif !decide (a.op=b.op)then
    (K true s.1 s.2)
   else
    Option.bind (ix ops a.op) λe2=>
    bif (Opr.comm e2)then
     (
     Option.bind (gl d c e nm sb ops s.1 rank s.2 a.args b.args) λr=>
     K r.1 r.2.1 r.2.2
     )
    else
     z1i.l20 (GCm g gl) n n d c e nm sb ops a.args (List.length a.args:Int) s.1 s.2 rank b.op b.name b.sort b.args 0
      (λt62 h123 h223=>K t62 h123 h223)
      (K false s.1 s.2)) (λs nx _=> ?_) (λi u s nx hx hq=> ?_) n 0 s hs (by omega) (by omega)
 ·obtain⟨s',q',h⟩:=this;rw[List.drop_zero]at h;have hall:b.args.all (gtF ops rank a)= !(b.args.any λu=> !gtF ops rank a u):=by rw[List.all_eq_not_any_not]
  rw[hall];rcases h with⟨h1,_,h2⟩|⟨h1,h2⟩
  ·exact⟨s',q',by rw[h1,Bool.not_true,Bool.false_and];exact h2⟩
  ·rw [h1, Bool.not_false, Bool.true_and];by_cases eo:a.op=b.op
   ·rw[if_neg (by simp[eo])];rw[<-eo,ho]at ho';cases ho';have ec:jK    ops a.op=o.comm:=by unfold jK;rw[ho   ]
    have hlen:a.args.length=b.args.length:=by omega
    rw[ec];cases hcm:o.comm with
    | true =>
     have h2l:=hok.two (.inr (.inl hcm));obtain⟨kn',hk',e1⟩:=hl d c e nm sb ops s'.1 rank s'.2 a.args b.args hC (λx hx=>⟨ga.args x hx,by have:=ac hx;omega⟩) (λy hy=>⟨gb.args y hy,by have:=ac hy;omega⟩) (by omega) (by omega) (λq=>by rw[q]at har';simp at har';omega) (λx hx y hy=>by have:=ac hx;have:=ac hy;omega) q'.2;refine⟨(s'.1,kn'),⟨q'.1,hk'⟩,h2.trans ?_⟩;show cond (!decide (a.op=b.op)) _ _=_;rw[if_pos rfl,dT eo,Bool.not_true,cF,ho,bS,hcm,cT];rw[e1,bS]
    | false =>
     obtain⟨s2,q2,e1⟩:=C9 hg hC ga gb ht hk d c e mp (gl:=gl) n hlen s' q' K n 0 (by omega) (by omega);refine⟨s2,q2,h2.trans ?_⟩;show cond (!decide (a.op=b.op)) _ _=_;rw[if_neg (by decide),dT eo,Bool.not_true,cF,ho,bS,hcm,cF];exact e1
   ·rw[if_pos eo];refine⟨s',q',h2.trans ?_⟩;show cond (!decide (a.op=b.op)) _ _=_;rw[dF eo,Bool.not_false,cT]
 ·unfold z1i.b10;rw[aq (Nat.lt_irrefl _),cF]
 ·obtain⟨s1,s2⟩:=s;obtain⟨rfl,hkn1⟩:s1=mp/\cW   ops rank s2:=hq;have hm:=mG hx;have hut:=ac        hm;have hil:i<b.args.length:=(gI.1 hx).1;obtain⟨kn',hk',e1⟩:=hg d c e nm sb ops s1 rank s2 a u hC ga (gb.args u hm) (by omega) hkn1;refine⟨(s1,kn'),⟨rfl,hk'⟩,?_⟩;unfold z1i.b10;simp only[aH     hil,cT,aD     hx,bS,Tm.eta,aO     (show i<4294967296 by omega)];rw[e1,bS];cases gtF ops rank a u with
  |true=>exact .inr ⟨rfl,rfl⟩
  |false=>exact .inl ⟨rfl,rfl⟩
theorem Ei (ha0:¬a.op<0) (hb0:¬b.op<0) (kn:Km) (hkn:cW ops rank kn) (K:Bool->Mp->Km->Option R):
  ∃s',SQ ops rank mp s'/\z1i.main (GCm g gl) (a.args.length+b.args.length+1) d c e nm sb ops mp rank kn a b K=K (eY ops rank (gtF ops rank) a b) s'.1 s'.2:=by
 have hla:=bm a.args;have hta:=az a;have na:a.op≠ -1:=λq=>ha0 (by omega);have nb:b.op≠ -1:=λq=>hb0 (by omega);obtain⟨o,ho,_⟩:=eS ga na;obtain⟨o',ho',_⟩:=eS gb nb;obtain⟨_,a0,a1⟩:=bG ho;obtain⟨_,b0,b1⟩:=bG ho';have hr:=hC.rank;obtain⟨n,hn⟩:∃n,n=a.args.length+b.args.length+1:=⟨_,rfl⟩;rw[<-hn];unfold z1i.main
 have := ia      (σ := Mp × Km) a.args (fun t => decide (t = b) || gtF ops rank t b) (SQ ops rank mp) (fun i s nx => z1i.b2                 (GCm g gl) n d c e nm sb ops a.args (a.args.length : Int) rank a.op a.name a.sort a.args b.op b.name b.sort b.args i s.1 s.2 (fun y0 y1 y2 => nx y0 (y1, y2)) (fun t6 h12 h22 => K t6 h12 h22) (fun h122 h222 =>
   bif !decide (a.op=b.op)then
    (
    Option.bind (ix rank a.op) λe2=>
    Option.bind (ix rank b.op) λe4=>
    bif decide (e2<=e4)then
     (K false h122 h222)
    else
     z1i.c9 (GCm g gl) n d c e nm sb ops h122 h222 rank a.op a.name a.sort a.args b.op b.name b.sort b.args
      (λt62 h123 h223=>K t62 h123 h223)
    )
   else
    z1i.c9 (GCm g gl) n d c e nm sb ops h122 h222 rank a.op a.name a.sort a.args b.op b.name b.sort b.args
     (λt63 h124 h224=>K t63 h124 h224))) (λ_ s=>K true s.1 s.2) (λs=>
   bif !decide (a.op=b.op)then
    (
    Option.bind (ix rank a.op) λe2=>
    Option.bind (ix rank b.op) λe4=>
    bif decide (e2<=e4)then
     (K false s.1 s.2)
    else
     z1i.c9 (GCm g gl) n d c e nm sb ops s.1 s.2 rank a.op a.name a.sort a.args b.op b.name b.sort b.args
      (λt62 h123 h223=>K t62 h123 h223)
    )
   else
    z1i.c9 (GCm g gl) n d c e nm sb ops s.1 s.2 rank a.op a.name a.sort a.args b.op b.name b.sort b.args
     (λt63 h124 h224=>K t63 h124 h224)) (λs nx _=> ?_) (λi u s nx hx hq=> ?_) n 0 (mp,kn) ⟨rfl,hkn⟩ (by omega) (by omega)
 ·obtain⟨s',q',h⟩:=this;rw[List.drop_zero]at h;unfold eY;rcases    h with⟨h1,_,h2⟩|⟨h1,h2⟩
  ·exact⟨s',q',by rw[h1,Bool.true_or];exact h2⟩
  ·rw [h1, Bool.false_or];obtain⟨s2,q2,e2⟩:=Fj     hg hl hC ga gb ht hk d c e mp n (by omega) ha0 hb0 s' q' K;by_cases eo:a.op=b.op
   ·rw[if_neg (c:=a.op≠b.op/\ap rank a.op<=ap rank b.op) λz=>z.1 eo];refine⟨s2,q2,h2.trans ?_⟩;show cond (!decide (a.op=b.op)) _ _=_;rw[dT eo,Bool.not_true,cF];exact e2
   ·by_cases hle:ap   rank a.op<=ap   rank b.op
    ·rw[if_pos ⟨eo,hle⟩];refine⟨s',q',h2.trans ?_⟩;show cond (!decide (a.op=b.op)) _ _=_;rw[dF eo,Bool.not_false,cT,aA (l:=rank) a0 (by omega),bS,aA (l:=rank) b0 (by omega),bS,dT hle,cT]
    ·rw[if_neg (c:=a.op≠b.op/\ap rank a.op<=ap rank b.op) λz=>hle z.2];refine⟨s2,q2,h2.trans ?_⟩;show cond (!decide (a.op=b.op)) _ _=_;rw[dF eo,Bool.not_false,cT,aA (l:=rank) a0 (by omega),bS,aA (l:=rank) b0 (by omega),bS,dF hle,cF];exact e2
 ·unfold z1i.b2;rw[aq (Nat.lt_irrefl _),cF]
 ·obtain⟨s1,s2⟩:=s;obtain⟨rfl,hkn1⟩:s1=mp/\cW   ops rank s2:=hq;have hm:=mG hx;have hut:=ac        hm;have hil:i<a.args.length:=(gI.1 hx).1;unfold z1i.b2;simp only[aH     hil,cT,aD     hx,bS,Tm.eta,aO     (show i<4294967296 by omega)];rw[show bf    4294967296 u b=some (decide (aQ   u b=0))from if_pos (by omega),bS,cQ      ];by_cases eu:u=b
  ·rw[dT eu];exact⟨(s1,s2),⟨rfl,hkn1⟩,.inl ⟨rfl,rfl⟩⟩
  ·obtain⟨kn',hk',e1⟩:=hg d c e nm sb ops s1 rank s2 u b hC (ga.args u hm) gb (by omega) hkn1;refine⟨(s1,kn'),⟨rfl,hk'⟩,?_⟩;rw[dF eu,cF,e1,bS,Bool.false_or];cases gtF ops rank u b with
   |true=>exact .inl ⟨rfl,rfl⟩
   |false=>exact .inr ⟨rfl,rfl⟩
end
theorem uC {k:Nat} (hk:k<=100000000) {g:GQ} (eg:EO (z1j.ent g)) (hg:wJ k g) {gl:LQ'} (el:EO (z1k.ent gl)) (hl:Fp k gl):∃gc,EO (z1i.ent gc)/\CmOK (k+1) gc:=by
 obtain⟨gc,ec,hc⟩:=fJ (E:=λgc=>EO (z1i.ent gc)) (P:=λd c e nm sb ops mp rank kn a b=>Ctx ⟨⟨nm,sb⟩,ops⟩ rank/\Good ⟨⟨nm,sb⟩,ops⟩ a/\Good ⟨⟨nm,sb⟩,ops⟩ b/\¬a.op<0/\¬b.op<0/\a.total+b.total<k+1/\cW ops rank kn) (Post:=λd c e nm sb ops mp rank kn a b r=>Ans ops rank mp (eY ops rank (gtF ops rank) a b) r)
  (λgc h=>z1i.ok (G:=GCm g gl) ⟨z1o _ (Nat.le_refl _),eg,el,trivial⟩ h)
  fun d c e nm sb ops mp rank kn a b ⟨hC, ga, gb, ha0, hb0, ht, hkn⟩ => by
   obtain⟨⟨s1,s2⟩,⟨rfl,q⟩,h⟩:=Ei hg hl hC ga gb ht hk d c e mp ha0 hb0 kn hkn _;exact⟨(eY ops rank (gtF ops rank) a b,s1,s2),⟨_,h⟩,s2,q,rfl⟩
 refine⟨gc,ec,λd c e nm sb ops mp rank kn a b hC ga gb ha0 hb0 ht hkn=> ?_⟩;obtain⟨r,h1,kn',h2,rfl⟩:=hc d c e nm sb ops mp rank kn a b ⟨hC,ga,gb,ha0,hb0,ht,hkn⟩;exact⟨kn',h2,h1⟩
theorem ss :∀k,k<=100000000->∃g,EO (z1j.ent g)/\wJ k g
 | 0, _ => ⟨fun _ _ _ _ _ _ _ _ _ _ _ => none, (fun R xs H K r h => by
  simp only[z1j.ent]at h;split at h<;>cases h),λ_ _ _ _ _ _ _ _ _ _ _ _ _ _ h=>absurd h (Nat.not_lt_zero _)⟩
 | k + 1, hk => by
  obtain⟨g,eg,hg⟩:=ss k (by omega);obtain⟨gl,el,hl⟩:=Ah eg hg;obtain⟨gc,ec,hc⟩:=uC (by omega) eg hg el hl;exact tn hk ec hc
end Go.Proofs.YtkinkfieackmdaaGreatDoor.Den

/-
  Texts that the claim rests on, merged: Ints, CmpX, Lf, LfC.
-/
import Derived.Test.YtkinkfieackmdaaGreatChecked
import Derived.WalkSpells
import Derived.WalkLawsBesides
import Derived.Deep.OwnRows
import Derived.Deep.QuietTactic
import Derived.BigQuiet
import Derived.Sort.Grow
import Derived.Deep.RegionHeld3
import Derived.RegionCalls
import Derived.Lib.SliceRun
import Derived.Lib.SlicesS
import Derived.Lib.Walk
import Derived.Sort.WalkB12
import Derived.Deep.LoopGhost
import Derived.Test.YtkinkfieackmdaaGreatZRowStr1
import Derived.Test.YtkinkfieackmdaaGreatZRowStr28

namespace Go.Proofs.YtkinkfieackmdaaGreat
open Go.RowKit
def Lay (w w':World):Prop:=∃(q:Nat) (os:Array Obj),w'=Go.Sort.grow (w.drewN q) os
theorem Lay.refl (w:World):Lay w w:=⟨0,#[],by rw[Go.Sort.grow_empty];rfl⟩
theorem Lay.alloc {w w':World} (h:Lay w w') (o:Obj):Lay w (w'.alloc o):=by
 obtain⟨q,os,rfl⟩:=h
 exact⟨q,os++ #[o],by rw[Go.Sort.alloc_eq_grow,Go.Sort.grow_grow]⟩
theorem Lay.drew {w w':World} (h:Lay w w'):Lay w w'.drew:=by
 obtain⟨q,os,rfl⟩:=h
 exact⟨q+1,os,rfl⟩
theorem Lay.trans {a b c:World} (h:Lay a b) (k:Lay b c):Lay a c:=by
 obtain⟨q,os,rfl⟩:=h
 obtain⟨r,us,rfl⟩:=k
 refine⟨q+r,os++us,?_⟩
 show Go.Sort.grow (Go.Sort.grow ((a.drewN q).drewN r) os) us=_
 rw[Go.Sort.grow_grow]
 congr 1
 simp[World.drewN,Nat.add_assoc]
set_option maxHeartbeats 1000000 in
theorem cmpInt_x (a b:Int) (w:World):Calls Tryz.prog 158 #[.int .i64 a,.int .i64 b] w λe w'=>e= .returned (.int .i64 (Den.cmpI a b))/\w'=w:=by
 go_enter Tryz.func158,Tryz.ntmps158
 go_wp2_with (go_in)
 all_goals go_ret
 all_goals refine⟨?_,rfl⟩
 ·rw[show Den.cmpI a b= -1 by unfold Den.cmpI;rw[if_neg (by omega),if_pos (by omega)]];rfl
 ·rw[show Den.cmpI a b=1 by unfold Den.cmpI;rw[if_neg (by omega),if_neg (by omega)]];rfl
 ·rw[show Den.cmpI a b=0 by unfold Den.cmpI;rw[if_pos (by omega)]];rfl
def or3 (a b c:Int):Int:=if a=0 then (if b=0 then c else b)else a
set_option maxHeartbeats 1000000 in
theorem cmpOr_x (a b c:Int) (B cap:Nat) (w:World) (h0:w.cell? ⟨B,0,none⟩=some (.int .i64 a)) (h1:w.cell? ⟨B,1,none⟩=some (.int .i64 b)) (h2:w.cell? ⟨B,2,none⟩=some (.int .i64 c)):
  Calls Tryz.prog 157 #[.slice (some ⟨B,0,none⟩) 3 cap] w λe w'=>e= .returned (.int .i64 (or3 a b c))/\w'=w:=by
 have hc:∀k,k<3->w.cell? ⟨B,0+k,none⟩=some (.int .i64 ([a,b,c].getD k 0)):=λk hk=>by
  match k,hk with
  |0,_=>exact h0
  |1,_=>exact h1
  |2,_=>exact h2
 have hl:∀n:Nat,n<3->0+n*1=0+n:=λn _=>by omega
 go_enter Tryz.func157,Tryz.ntmps157
 go_wp2
 go_loop [8] (λi=>∃k:Nat,k<=3/\i= .int .i64 k/\∀j,j<k->[a,b,c].getD j 0=0) (λi=>3-(intOf i).toNat)
 case atStart=>exact⟨0,by omega,rfl,λj hj=>by omega⟩
 case round =>
  obtain⟨k,hk,rfl,hz⟩:=hrel
  by_cases hlt:k<3
  ·have c1:=hc k hlt
   rw[Nat.zero_add]at c1
   have hv:k=0\/k=1\/k=2:=by omega
   generalize hg:[a,b,c].getD k 0=v at c1
   go_wp2
   ·go_ret
    have hv0:v≠0:=by simpa using ‹(v !=0)=true›
    have e:or3 a b c=v:=by
     unfold or3
     rcases hv with rfl|rfl|rfl
     ·have:a=v:=hg
      rw[if_neg (by omega)];exact this
     ·have:b=v:=hg
      have:a=0:=hz 0 (by omega)
      rw[if_pos (by omega),if_neg (by omega)];omega
     ·have:c=v:=hg
      have:a=0:=hz 0 (by omega)
      have:b=0:=hz 1 (by omega)
      rw[if_pos (by omega),if_pos (by omega)];omega
    rw[e]
    exact⟨rfl,rfl⟩
   ·go_round
    case rel=>
     refine⟨k+1,by omega,by go_num,λj hj=> ?_⟩
     by_cases hjk:j=k
     ·subst hjk;rw[hg];simpa using ‹(v !=0)=false›
     ·exact hz j (by omega)
    case measure=>simp[intOf];omega
  ·have hk3:k=3:=by omega
   subst hk3
   have z0:a=0:=hz 0 (by omega)
   have z1:b=0:=hz 1 (by omega)
   have z2:c=0:=hz 2 (by omega)
   clear hz
   subst z0 z1 z2
   go_wp2
   go_ret
   exact⟨rfl,rfl⟩
set_option maxHeartbeats 1000000 in
theorem cmpNil_x (A B:Option Addr) (c d:Nat) (g:Value) (w:World):Calls Tryz.prog 160 #[.slice A 0 c,.slice B 0 d,g] w λe w'=>e= .returned (.int .i64 0)/\w'=w:=by
 go_enter Tryz.func160,Tryz.ntmps160
 go_wp2
 go_loop [13] (λi=>i= .int .i64 0) (λ_=>0)
 case atStart=>rfl
 case round=>
  subst hrel
  go_wp2
  go_ret
  exact⟨rfl,rfl⟩
set_option maxHeartbeats 4000000 in
theorem cmpTm_x (o1 s1 o2 s2:Int) (n1 n2:ByteArray) (A B:Option Addr) (c d:Nat) (w:World):Calls Tryz.prog 120 #[.agg #[.int .i64 o1,.string n1,.int .i64 s1,.slice A 0 c],.agg #[.int .i64 o2,.string n2,.int .i64 s2,.slice B 0 d]] w λe w'=>e= .returned (.int .i64 (Den.cmpT ⟨o1,n1,s1,[]⟩ ⟨o2,n2,s2,[]⟩))/\Lay w w':=by
 have ht:Den.cmpT ⟨o1,n1,s1,[]⟩ ⟨o2,n2,s2,[]⟩=or3 (Den.cmpI o1 o2) (Den.cmpB n1 n2) (Den.cmpI s1 s2):=by
  rw[Den.cmpT_eq]
  unfold Den.cmpN or3
  show (if Den.cmpI o1 o2=0 then (if Den.cmpB n1 n2=0 then (if Den.cmpI s1 s2=0 then (0:Int)else Den.cmpI s1 s2)else Den.cmpB n1 n2)else Den.cmpI o1 o2)=_
  by_cases h1:Den.cmpI o1 o2=0
  ·rw[if_pos h1,if_pos h1]
   by_cases h2:Den.cmpB n1 n2=0
   ·rw[if_pos h2,if_pos h2]
    split
    ·rename_i h3;exact h3.symm
    ·rfl
   ·rw[if_neg h2,if_neg h2]
  ·rw[if_neg h1,if_neg h1]
 rw[ht,<-Den.compareBytes_cmpB]
 clear ht
 have hB1:=Blk.new w 53 #[.int .i64 o1,.string n1,.int .i64 s1,.slice A 0 c]
 have hB4:=Blk.new ((w.alloc (.cells #[.int .i64 o1,.string n1,.int .i64 s1,.slice A 0 c] 53)).alloc (.cells #[.int .i64 o2,.string n2,.int .i64 s2,.slice B 0 d] 53)) 3 #[.int .i64 (Den.cmpI o1 o2),.int .i64 (Lib.compareBytes n1.data.toList n2.data.toList),.int .i64 (Den.cmpI s1 s2)]
 have hor:=cmpOr_x (Den.cmpI o1 o2) (Lib.compareBytes n1.data.toList n2.data.toList) (Den.cmpI s1 s2) (w.heap.size+1+1) 3 (((w.alloc (.cells #[.int .i64 o1,.string n1,.int .i64 s1,.slice A 0 c] 53)).alloc (.cells #[.int .i64 o2,.string n2,.int .i64 s2,.slice B 0 d] 53)).alloc (.cells #[.int .i64 (Den.cmpI o1 o2),.int .i64 (Lib.compareBytes n1.data.toList n2.data.toList),.int .i64 (Den.cmpI s1 s2)] 3)).drew (by simpa using hB4.c3.1) (by simpa using hB4.c3.2.1) (by simpa using hB4.c3.2.2)
 clear hB4
 go_enter Tryz.func120,Tryz.ntmps120
 have hB2:=(hB1.alloc (.cells #[.int .i64 o2,.string n2,.int .i64 s2,.slice B 0 d] 53))
 have hB3:=Blk.new (w.alloc (.cells #[.int .i64 o1,.string n1,.int .i64 s1,.slice A 0 c] 53)) 53 #[.int .i64 o2,.string n2,.int .i64 s2,.slice B 0 d]
 obtain⟨p0,p1,p2,p3⟩:=hB2.c4
 obtain⟨q0,q1,q2,q3⟩:=hB3.c4
 go_wp2_with fail
 go_region_held3 (λw'=>w'.cell? ⟨w.heap.size,0,none⟩=some (.int .i64 o1)/\w'.cell? ⟨w.heap.size,1,none⟩=some (.string n1)/\w'.cell? ⟨w.heap.size,2,none⟩=some (.int .i64 s1)/\w'.cell? ⟨w.heap.size+1,0,none⟩=some (.int .i64 o2)/\w'.cell? ⟨w.heap.size+1,1,none⟩=some (.string n2)/\w'.cell? ⟨w.heap.size+1,2,none⟩=some (.int .i64 s2)) (go_keep) (first|(go_at_call 158;refine(cmpInt_x _ _ _).mono ?_;rintro e w' ⟨rfl,rfl⟩)|(go_at_call 159;refine(Tryz.strings_Compare _ _ _).mono ?_;rintro e w' ⟨rfl,rfl⟩)|(go_at_call 157;refine hor.mono ?_;rintro e w' ⟨rfl,rfl⟩))
 have hp:=(hB2.alloc (.cells #[.int .i64 (Den.cmpI o1 o2),.int .i64 (Lib.compareBytes n1.data.toList n2.data.toList),.int .i64 (Den.cmpI s1 s2)] 3)).c4.2.2.2
 have hq:=(hB3.alloc (.cells #[.int .i64 (Den.cmpI o1 o2),.int .i64 (Lib.compareBytes n1.data.toList n2.data.toList),.int .i64 (Den.cmpI s1 s2)] 3)).c4.2.2.2
 clear hB1 hB2 hB3 p0 p1 p2 p3 q0 q1 q2 q3
 have hlay:Lay w ((((w.alloc (.cells #[.int .i64 o1,.string n1,.int .i64 s1,.slice A 0 c] 53)).alloc (.cells #[.int .i64 o2,.string n2,.int .i64 s2,.slice B 0 d] 53)).alloc (.cells #[.int .i64 (Den.cmpI o1 o2),.int .i64 (Lib.compareBytes n1.data.toList n2.data.toList),.int .i64 (Den.cmpI s1 s2)] 3)).drew):=((((Lay.refl w).alloc _).alloc _).alloc _).drew
 by_cases hv:or3 (Den.cmpI o1 o2) (Lib.compareBytes n1.data.toList n2.data.toList) (Den.cmpI s1 s2)=0
 ·rw[hv]
  go_wp2_with (go_at_call 160;refine(cmpNil_x _ _ _ _ _ _).mono ?_;rintro e w' ⟨rfl,rfl⟩)
  go_ret
  exact⟨by rw[hv];rfl,hlay⟩
 ·have hv':(or3 (Den.cmpI o1 o2) (Lib.compareBytes n1.data.toList n2.data.toList) (Den.cmpI s1 s2) !=0)=true:=by simpa using hv
  go_wp2_with fail
  go_ret
  exact⟨rfl,hlay⟩
structure Lf where
 op:Int
 name:ByteArray
 sort:Int
 A:Option Addr
 c:Nat
instance : Inhabited Lf := ⟨⟨0, ByteArray.empty, 0, none, 0⟩⟩
def Lf.enc (x:Lf):List Value:=[.int .i64 x.op,.string x.name,.int .i64 x.sort,.slice x.A 0 x.c]
def Lf.tm (x:Lf):Tm:=⟨x.op,x.name,x.sort,[]⟩
abbrev Lf.v (x:Lf):Value:=.agg #[.int .i64 x.op,.string x.name,.int .i64 x.sort,.slice x.A 0 x.c]
theorem cmpLf_x (x y:Lf) (w:World):Calls Tryz.prog 120 #[x.v,y.v] w λe w'=>e= .returned (.int .i64 (Den.cmpT x.tm y.tm))/\Lay w w':=cmpTm_x _ _ _ _ _ _ _ _ _ _ w
def Lf.same (x y:Lf):Bool:=decide (Den.cmpT x.tm y.tm=0)
set_option maxHeartbeats 1000000 in
theorem sameLf_x (x y:Lf) (w:World):Calls Tryz.prog 71 #[x.v,y.v] w λe w'=>e= .returned (.bool (x.same y))/\Lay w w':=by
 have hB:=Blk.new w 53 #[.int .i64 x.op,.string x.name,.int .i64 x.sort,.slice x.A 0 x.c]
 have hB1:=hB.alloc (.cells #[.int .i64 y.op,.string y.name,.int .i64 y.sort,.slice y.A 0 y.c] 53)
 have hB2:=Blk.new (w.alloc (.cells #[.int .i64 x.op,.string x.name,.int .i64 x.sort,.slice x.A 0 x.c] 53)) 53 #[.int .i64 y.op,.string y.name,.int .i64 y.sort,.slice y.A 0 y.c]
 obtain⟨p0,p1,p2,p3⟩:=hB1.c4
 obtain⟨q0,q1,q2,q3⟩:=hB2.c4
 have hc:=cmpLf_x x y ((w.alloc (.cells #[.int .i64 x.op,.string x.name,.int .i64 x.sort,.slice x.A 0 x.c] 53)).alloc (.cells #[.int .i64 y.op,.string y.name,.int .i64 y.sort,.slice y.A 0 y.c] 53))
 have hl:Lay w ((w.alloc (.cells #[.int .i64 x.op,.string x.name,.int .i64 x.sort,.slice x.A 0 x.c] 53)).alloc (.cells #[.int .i64 y.op,.string y.name,.int .i64 y.sort,.slice y.A 0 y.c] 53)):=((Lay.refl w).alloc _).alloc _
 go_enter Tryz.func71,Tryz.ntmps71
 go_wp2_with (go_at_call 120;refine hc.mono ?_;rintro e w' ⟨rfl,hw⟩)
 go_ret
 exact⟨rfl,hl.trans hw⟩
def cmL (p:Lf):List Lf->List Lf
 |[]=>[]
 |y::ys=>if y.same p=true then cmL y ys else y::cmL y ys
def cmLf :List Lf->List Lf
 |[]=>[]
 |x::xs=>x::cmL x xs
theorem cmL_snoc :∀(xs:List Lf) (p y:Lf),cmL p (xs++[y])=if y.same ((p::xs).getLast?.getD p)=true then cmL p xs else cmL p xs++[y]
 | [], p, y => by
  show (if y.same p=true then []else [y])=_
  show _=if y.same p=true then []else [y]
  rfl
 | x :: xs, p, y => by
  have e:((p::x::xs).getLast?.getD p)=((x::xs).getLast?.getD x):=by simp[List.getLast?_cons]
  show (if x.same p=true then cmL x (xs++[y])else x::cmL x (xs++[y]))=if y.same ((p::x::xs).getLast?.getD p)=true then (if x.same p=true then cmL x xs else x::cmL x xs)else (if x.same p=true then cmL x xs else x::cmL x xs)++[y]
  rw[cmL_snoc xs x y,e]
  split<;>split<;>rfl
theorem cmLf_take {d:List Lf} {r:Nat} {x y:Lf} (h0:d[r]? =some y) (h1:d[r+1]? =some x):cmLf (d.take (r+2))=if x.same y=true then cmLf (d.take (r+1))else cmLf (d.take (r+1))++[x]:=by
 rw[Den.take_get h1]
 cases d with
 |nil=>simp at h0
 | cons z zs =>
  show z::cmL z (zs.take r++[x])=if x.same y=true then z::cmL z (zs.take r)else z::cmL z (zs.take r)++[x]
  rw[cmL_snoc]
  have e:((z::zs.take r).getLast?.getD z)=y:=by
   have:(z::zs.take r).getLast? =some y:=by
    rw[<-List.take_succ_cons,List.getLast?_take,if_neg (by omega),Nat.add_sub_cancel,h0];rfl
   rw[this];rfl
  rw[e]
  split<;>rfl
theorem cmL_len :∀(xs:List Lf) (p:Lf),(cmL p xs).length<=xs.length
 |[],_=>Nat.le_refl _
 | y :: ys, p => by
  unfold cmL
  have:=cmL_len ys y
  split<;>simp only[List.length_cons]<;>omega
theorem cmL_map :∀(xs:List Lf) (p:Lf),p.tm::(cmL p xs).map Lf.tm=Den.cmpct (p.tm::xs.map Lf.tm)
 |[],p=>by show [p.tm]=Den.cmpct [p.tm];unfold Den.cmpct;rfl
 | y :: ys, p => by
  have ih:=cmL_map ys y
  show p.tm::(if y.same p=true then cmL y ys else y::cmL y ys).map Lf.tm=Den.cmpct (p.tm::y.tm::ys.map Lf.tm)
  conv=>rhs;unfold Den.cmpct
  unfold Lf.same
  by_cases h:Den.cmpT y.tm p.tm=0
  ·have e:=Den.z03 h
   rw[dT h,if_pos rfl,if_pos h,<-e]
   exact ih
  ·rw[dF h,if_neg (by decide),if_neg h,List.map_cons,ih]
theorem cmLf_map (d:List Lf):(cmLf d).map Lf.tm=Den.cmpct (d.map Lf.tm):=by
 cases d with
 |nil=>show []=Den.cmpct [];unfold Den.cmpct;rfl
 |cons x xs=>exact cmL_map xs x
theorem run_clear_row {P:Program} (w:World) (t e ty:TypeId) (z:Value) (ht:P.underlying t=some (.slice e)) (hv:∀w,(zeroValue e).run P w= .ok z w) (hz:∀v∈z.cells.toList,v.oneCell'=true) (b o n c:Nat) (hn:0<n)
  (hc:∀j,j<n*z.cells.size->(w.cell? ⟨b,o+j,none⟩).isSome=true) (hf:∀j,j<n*z.cells.size->w.frozen? ⟨b,o+j,none⟩=false):
  (Builtin.clear_ #[t] ty #[.slice (some ⟨b,o,none⟩) n c]).run P w= .ok (.tuple #[]) (w.setCells b o (Builtin.zeroCells z.cells n).toList):=by
 have hlen:(Builtin.zeroCells z.cells n).toList.length=n*z.cells.size:=by simp[Builtin.zeroCells]
 have hst:=run_storeCells_cells (P:=P) b o (Builtin.zeroCells z.cells n).toList 0 w (by rw[hlen];simpa using hc) (by rw[hlen];simpa using hf) (by
  intro v hv'
  simp only[Builtin.zeroCells,Array.toList_map,List.mem_map]at hv'
  obtain⟨i,hi,rfl⟩:=hv'
  have hi':i<n*z.cells.size:=by simpa using hi
  have hp:0<z.cells.size:=by
   rcases Nat.eq_zero_or_pos z.cells.size with h|h
   ·rw[h]at hi';omega
   ·exact h
  have hm:=Nat.mod_lt i hp
  rw[getElem!_pos z.cells _ hm]
  exact hz _ (by simp))
 simp only[Nat.add_zero]at hst
 obtain⟨m,rfl⟩:∃m,n=m+1:=⟨n-1,by omega⟩
 simp[Builtin.clear_,run_underlying ht,hv,hst]
structure Chg (blk:Nat) (w w':World):Prop where
 os:w'.os=w.os
 tape:w'.tape=w.tape
 output:w'.output=w.output
 size:w.heap.size<=w'.heap.size
 block:∀b,b<w.heap.size->b≠blk->w'.heap[b]? =w.heap[b]?
theorem Chg.refl (blk:Nat) (w:World):Chg blk w w:=⟨rfl,rfl,rfl,Nat.le_refl _,λ_ _ _=>rfl⟩
theorem Chg.trans {blk:Nat} {a b c:World} (h:Chg blk a b) (k:Chg blk b c):Chg blk a c:=
 ⟨k.os.trans h.os,k.tape.trans h.tape,k.output.trans h.output,Nat.le_trans h.size k.size,λi hi hne=>(k.block i (Nat.lt_of_lt_of_le hi h.size) hne).trans (h.block i hi hne)⟩
theorem Lay.heap {w w':World} (h:Lay w w'):w.heap.size<=w'.heap.size/\∀b,b<w.heap.size->w'.heap[b]? =w.heap[b]? :=by
 obtain⟨q,os,rfl⟩:=h
 refine⟨by show w.heap.size<=(w.heap++os).size;simp,λb hb=> ?_⟩
 show (w.heap++os)[b]? =_
 exact Array.getElem?_append_left hb
theorem Lay.chg {blk:Nat} {w w':World} (h:Lay w w'):Chg blk w w':=by
 obtain⟨h1,h2⟩:=h.heap
 obtain⟨q,os,rfl⟩:=h
 exact⟨rfl,rfl,rfl,h1,λb hb _=>h2 b hb⟩
theorem set_rest (b:Nat):∀(vs:List Value) (o:Nat) (w:World),(w.setCells b o vs).os=w.os/\(w.setCells b o vs).tape=w.tape/\(w.setCells b o vs).output=w.output/\(w.setCells b o vs).heap.size=w.heap.size/\∀i,i≠b->(w.setCells b o vs).heap[i]? =w.heap[i]?
 |[],_,_=>⟨rfl,rfl,rfl,rfl,λ_ _=>rfl⟩
 | v :: r, o, w => by
  obtain⟨h1,h2,h3,h4,h5⟩:=set_rest b r (o+1) (w.setCell ⟨b,o,none⟩ v)
  exact⟨h1,h2,h3,h4.trans (by simp[World.setCell]),λi hi=>(h5 i hi).trans (Below.heap_setCell w ⟨b,o,none⟩ v i (λe=>hi (by simpa using e)))⟩
theorem set_row (b:Nat):∀(vs:List Value) (o:Nat) (w:World) (cur:Array Value) (t:TypeId) (fr:Nat×Nat),w.heap[b]? =some (.cells cur t fr)->∃cur',(w.setCells b o vs).heap[b]? =some (.cells cur' t fr)/\cur'.size=cur.size
 |[],_,_,cur,_,_,h=>⟨cur,h,rfl⟩
 | v :: r, o, w, cur, t, fr, h => by
  have h1:(w.setCell ⟨b,o,none⟩ v).heap[b]? =some (.cells (cur.setIfInBounds o v) t fr):=by simp[World.setCell,Array.getElem?_modify,h]
  obtain⟨cur',h2,h3⟩:=set_row b r (o+1) _ _ _ _ h1
  exact⟨cur',h2,by rw[h3];simp⟩
theorem chg_set (b o:Nat) (vs:List Value) (w:World):Chg b w (w.setCells b o vs):=by
 obtain⟨h1,h2,h3,h4,h5⟩:=set_rest b vs o w
 exact⟨h1,h2,h3,by omega,λi _ hne=>h5 i hne⟩
theorem cell_of {w:World} {b:Nat} {cur:Array Value} {t:TypeId} {fr:Nat×Nat} (h:w.heap[b]? =some (.cells cur t fr)) (j:Nat):w.cell? ⟨b,j,none⟩=cur[j]? :=by simp[World.cell?,h]
theorem lt_of_heap {w:World} {g:Nat} {o:Obj} (h:w.heap[g]? =some o):g<w.heap.size:=by
 rcases Nat.lt_or_ge g w.heap.size with q|q
 ·exact q
 ·rw[Array.getElem?_eq_none q]at h;cases h
def At4 (w:World) (b o:Nat) (x:Lf):Prop:=w.cell? ⟨b,o,none⟩=some (.int .i64 x.op)/\w.cell? ⟨b,o+1,none⟩=some (.string x.name)/\w.cell? ⟨b,o+2,none⟩=some (.int .i64 x.sort)/\w.cell? ⟨b,o+3,none⟩=some (.slice x.A 0 x.c)
theorem At4.same {w w':World} {b o:Nat} {x:Lf} (h:At4 w b o x) (hk:∀j,o<=j->j<o+4->w'.cell? ⟨b,j,none⟩=w.cell? ⟨b,j,none⟩):At4 w' b o x:=
 ⟨(hk _ (by omega) (by omega)).trans h.1,(hk _ (by omega) (by omega)).trans h.2.1,(hk _ (by omega) (by omega)).trans h.2.2.1,(hk _ (by omega) (by omega)).trans h.2.2.2⟩
theorem Lay.cell {w w':World} (h:Lay w w') {b:Nat} (hb:b<w.heap.size) (j:Nat):w'.cell? ⟨b,j,none⟩=w.cell? ⟨b,j,none⟩:=by simp only[World.cell?];rw[h.heap.2 b hb]
structure Rw (w:World) (blk:Nat) (t:TypeId) (n off:Nat) (d:List Lf):Prop where
 heap:∃cur,w.heap[blk]? =some (.cells cur t (0,0))/\cur.size=n
 fit:off+d.length*4<=n
 at_:∀k x,d[k]? =some x->At4 w blk (off+k*4) x
section
variable {w w' : World} {blk n off : Nat} {t : TypeId} {d : List Lf}
theorem Rw.lt (h:Rw w blk t n off d):blk<w.heap.size:=by obtain⟨cur,h1,_⟩:=h.heap;exact lt_of_heap h1
theorem Rw.lay (h:Rw w blk t n off d) (k:Lay w w'):Rw w' blk t n off d:=by
 have hlt:=h.lt
 obtain⟨cur,h1,h2⟩:=h.heap
 exact⟨⟨cur,(k.heap.2 blk hlt).trans h1,h2⟩,h.fit,λi x hx=>(h.at_ i x hx).same λj _ _=>k.cell hlt j⟩
theorem Rw.some (h:Rw w blk t n off d) {j:Nat} (hj:j<n):(w.cell? ⟨blk,j,none⟩).isSome=true/\w.frozen? ⟨blk,j,none⟩=false:=by
 obtain⟨cur,h1,h2⟩:=h.heap
 refine⟨?_,by simp[World.frozen?,h1]⟩
 rw[cell_of h1,gA (by omega)];rfl
theorem Rw.take (h:Rw w blk t n off d) (k:Nat):Rw w blk t n off (d.take k):=by
 refine⟨h.heap,?_,λi x hx=>h.at_ i x ?_⟩
 ·have:=h.fit
  rw[List.length_take]
  omega
 ·rw[List.getElem?_take]at hx
  split at hx
  ·exact hx
  ·cases hx
theorem Rw.out (h:Rw w blk t n off d) {o:Nat} {vs:List Value} (ho:off+d.length*4<=o):Rw (w.setCells blk o vs) blk t n off d:=by
 obtain⟨cur,h1,h2⟩:=h.heap
 obtain⟨cur',h3,h4⟩:=set_row blk vs o w cur t (0,0) h1
 refine⟨⟨cur',h3,h4.trans h2⟩,h.fit,λi x hx=>(h.at_ i x hx).same λj j1 j2=> ?_⟩
 have:=(gI.1 hx).1
 exact World.cell?_setCells_out blk vs o w _ (λ_ _=>.inl (by show j<o;omega))
theorem Rw.set (h:Rw w blk t n off d) {k:Nat} (hk:k<d.length) (x:Lf):Rw (w.setCells blk (off+k*4) x.enc) blk t n off (d.set k x):=by
 obtain⟨cur,h1,h2⟩:=h.heap
 have hf:=h.fit
 obtain⟨cur',h3,h4⟩:=set_row blk x.enc (off+k*4) w cur t (0,0) h1
 refine⟨⟨cur',h3,h4.trans h2⟩,by simpa using h.fit,λi y hy=> ?_⟩
 by_cases e:k=i
 ·subst e
  rw[sS hk]at hy
  cases hy
  have hin:=World.cell?_setCells_in blk x.enc (off+k*4) w (λj hj=>(h.some (by have:j<4:=hj;omega)).1)
  exact⟨hin 0 (show 0<4 by omega),hin 1 (show 1<4 by omega),hin 2 (show 2<4 by omega),hin 3 (show 3<4 by omega)⟩
 ·rw[sN e]at hy
  refine(h.at_ i y hy).same λj j1 j2=> ?_
  refine World.cell?_setCells_out blk x.enc (off+k*4) w _ (λ_ _=> ?_)
  have hlen:x.enc.length=4:=rfl
  rw[hlen]
  show j<off+k*4\/off+k*4+4<=j
  omega
end
theorem getD_eq {d:List Lf} {k:Nat} (h:k<d.length):∃x,d[k]? =some x:=⟨d[k],List.getElem?_eq_getElem h⟩
set_option maxHeartbeats 4000000 in
theorem compact_run {blk n off cap : Nat} {t : TypeId} (d : List Lf) (w : World) (h : Rw w blk t n off d) (hcap : d.length ≤ cap) (hlen : d.length ≤ 4611686018427387904) (h2 : 2 ≤ d.length) :
  Calls Tryz.prog 156 #[.slice (some ⟨blk,off,none⟩) d.length cap,.func (.func 71) #[] #[]] w λe w'=>e= .returned (.slice (some ⟨blk,off,none⟩) (cmLf d).length cap)/\Rw w' blk t n off (cmLf d)/\Chg blk w w':=by
 have HR:Aside (Rw w blk t n off d):=h
 clear h
 have n2:¬d.length<2:=by omega
 go_enter Tryz.func156,Tryz.ntmps156
 go_wp2_with fail
 go_loopg [5] d.length (λg s5 wr=>∃k:Nat,1<=k/\k<=d.length/\d.length-k<=g/\s5= .int .i64 k/\cmLf (d.take k)=d.take k/\Rw wr blk t n off d/\Chg blk w wr)
 case atStart=>
  refine⟨1,Nat.le_refl _,by omega,by omega,rfl,?_,HR.out,Chg.refl _ _⟩
  cases d with
  |nil=>rfl
  |cons x xs=>rfl
 case round =>
  obtain⟨k,hk1,hk,hg,rfl,hcm,hrw,hch⟩:=hrel
  by_cases hlt:k<d.length
  ·obtain ⟨x, hx⟩ := getD_eq hlt
   obtain⟨m,rfl⟩:∃m,k=m+1:=⟨k-1,by omega⟩
   obtain⟨y,hy⟩:=getD_eq (d:=d) (k:=m) (by omega)
   have iw:IntKind.i64.wrap (m:Int)=(m:Int):=Den.wr_in (by omega)
   have i1:(m:Int)<(d.length:Int):=by omega
   have i2:(m:Int)<=9223372036854775807:=by omega
   have i4:(m:Int)+1<(d.length:Int):=by omega
   have i5:(0:Int)<=(m:Int)+1:=by omega
   obtain⟨c0,c1,c2,c3⟩:=hrw.at_ (m+1) x hx
   obtain⟨p0,p1,p2,p3⟩:=hrw.at_ m y hy
   have HW:Aside (Rw wr blk t n off d):=hrw
   have HC:Aside (Chg blk w wr):=hch
   have HM:Aside (cmLf (d.take (m+1))=d.take (m+1)):=hcm
   have HX:Aside (d[m+1]? =some x):=hx
   have HY:Aside (d[m]? =some y):=hy
   clear hrw hch hcm hx hy
   go_wp2_with fail
   go_region_held3 (λw'=>w'.cell? ⟨blk,off+(m+1)*4,none⟩=some (.int .i64 x.op)/\w'.cell? ⟨blk,off+(m+1)*4+1,none⟩=some (.string x.name)/\w'.cell? ⟨blk,off+(m+1)*4+2,none⟩=some (.int .i64 x.sort)/\w'.cell? ⟨blk,off+(m+1)*4+3,none⟩=some (.slice x.A 0 x.c)/\w'.cell? ⟨blk,off+m*4,none⟩=some (.int .i64 y.op)/\w'.cell? ⟨blk,off+m*4+1,none⟩=some (.string y.name)/\w'.cell? ⟨blk,off+m*4+2,none⟩=some (.int .i64 y.sort)/\w'.cell? ⟨blk,off+m*4+3,none⟩=some (.slice y.A 0 y.c)) (go_keep) (first|(go_at_call 71;refine(sameLf_x x y _).mono ?_;rintro e w' ⟨rfl,hw0⟩;have hw:=(Lay.refl wr).drew.trans hw0;obtain⟨c0,c1,c2,c3⟩:=(HW.out.lay hw).at_ _ _ HX.out;obtain⟨p0,p1,p2,p3⟩:=(HW.out.lay hw).at_ _ _ HY.out))
   have HW2:Aside (Rw w' blk t n off d):=HW.out.lay hw
   have HC2:Aside (Chg blk w w'):=HC.out.trans hw.chg
   clear c0 c1 c2 c3 p0 p1 p2 p3 hw0 hw HW HC
   clear iw i1 i2 i4 i5
   cases hs:x.same y with
   | false =>
    go_wp2_with fail
    go_roundg (d.length-(m+1+1))
    case measure=>omega
    case rel=>
     refine⟨m+1+1,by omega,by omega,Nat.le_refl _,by go_num,?_,HW2.out,HC2.out⟩
     rw[cmLf_take HY.out HX.out,hs,if_neg (by decide),HM.out,<-Den.take_get HX.out]
   | true =>
    have hm:(cmLf (d.take (m+2))).length=m+1/\cmLf (d.take (m+2))=d.take (m+1):=by
     rw[cmLf_take HY.out HX.out,hs,if_pos rfl,HM.out]
     exact⟨by rw[List.length_take];omega,rfl⟩
    have HM2:Aside ((cmLf (d.take (m+2))).length=m+1/\cmLf (d.take (m+2))=d.take (m+1)):=hm
    clear hm
    go_wp2_with fail
    go_loopg [5,7] d.length (λg s5 s7 wr=>∃(kk k2:Nat) (e:List Lf),s5= .int .i64 kk/\s7= .int .i64 k2/\1<=k2/\m+1+k2<=d.length/\d.length-(m+1+k2)<=g/\e.length=d.length/\kk=(cmLf (d.take (m+1+k2))).length/\kk<=m+k2/\e.take kk=cmLf (d.take (m+1+k2))/\(∀i,kk<=i->e[i]? =d[i]?)/\Rw wr blk t n off e/\Chg blk w wr)
    case atStart=>exact⟨m+1,1,d,rfl,rfl,Nat.le_refl _,by omega,by omega,rfl,HM2.out.1.symm,by omega,HM2.out.2.symm,λ_ _=>rfl,HW2.out,HC2.out⟩
    case round =>
     obtain⟨kk,k2,e,rfl,rfl,h1,hle,hg2,hel,hkk,hkle,htk,hhi,hrw,hch⟩:=hrel
     by_cases hlt2:m+1+k2<d.length
     ·obtain⟨j,rfl⟩:∃j,k2=j+1:=⟨k2-1,by omega⟩
      obtain⟨u,hu⟩:=getD_eq hlt2
      obtain⟨v,hv⟩:=getD_eq (d:=d) (k:=m+1+j) (by omega)
      have hu2:=(hhi (m+1+(j+1)) (by omega)).trans hu
      have hv2:=(hhi (m+1+j) (by omega)).trans hv
      have at1:=hrw.at_ _ _ hu2
      have at2:=hrw.at_ _ _ hv2
      rw[show off+(m+1+(j+1))*4=off+(m+1)*4+(j+1)*4 by omega]at at1
      rw[show off+(m+1+j)*4=off+(m+1)*4+j*4 by omega]at at2
      obtain⟨c0,c1,c2,c3⟩:=at1
      obtain⟨p0,p1,p2,p3⟩:=at2
      have HW:Aside (Rw wr blk t n off e):=hrw
      have HC:Aside (Chg blk w wr):=hch
      have HH:Aside (∀i,kk<=i->e[i]? =d[i]?):=hhi
      have HT:Aside (e.take kk=cmLf (d.take (m+1+(j+1)))):=htk
      have HK:Aside (kk=(cmLf (d.take (m+1+(j+1)))).length):=hkk
      have HU:Aside (d[m+1+(j+1)]? =some u/\d[m+1+j]? =some v/\e[m+1+(j+1)]? =some u/\e[m+1+j]? =some v):=⟨hu,hv,hu2,hv2⟩
      clear hrw hch hhi htk hkk hu hv hu2 hv2
      have iw:IntKind.i64.wrap (j:Int)=(j:Int):=Den.wr_in (by omega)
      have i1:(j:Int)<((d.length-(m+1):Nat):Int):=by omega
      have i2:(j:Int)<=9223372036854775807:=by omega
      have i3:(j:Int)+1<((d.length-(m+1):Nat):Int):=by omega
      have i4:(0:Int)<=(j:Int)+1:=by omega
      go_wp2_with fail
      go_region_held3 (λw'=>w'.cell? ⟨blk,off+(m+1)*4+(j+1)*4,none⟩=some (.int .i64 u.op)/\w'.cell? ⟨blk,off+(m+1)*4+(j+1)*4+1,none⟩=some (.string u.name)/\w'.cell? ⟨blk,off+(m+1)*4+(j+1)*4+2,none⟩=some (.int .i64 u.sort)/\w'.cell? ⟨blk,off+(m+1)*4+(j+1)*4+3,none⟩=some (.slice u.A 0 u.c)/\w'.cell? ⟨blk,off+(m+1)*4+j*4,none⟩=some (.int .i64 v.op)/\w'.cell? ⟨blk,off+(m+1)*4+j*4+1,none⟩=some (.string v.name)/\w'.cell? ⟨blk,off+(m+1)*4+j*4+2,none⟩=some (.int .i64 v.sort)/\w'.cell? ⟨blk,off+(m+1)*4+j*4+3,none⟩=some (.slice v.A 0 v.c)) (go_keep) (first|(go_at_call 71;refine(sameLf_x u v _).mono ?_;rintro e w2 ⟨rfl,hw0⟩;have hw:=(Lay.refl wr).drew.trans hw0;obtain⟨c0,c1,c2,c3⟩:=(show At4 w2 blk (off+(m+1)*4+(j+1)*4) u from (by have q:=(HW.out.lay hw).at_ _ _ HU.out.2.2.1;rw[show off+(m+1+(j+1))*4=off+(m+1)*4+(j+1)*4 by omega]at q;exact q));obtain⟨p0,p1,p2,p3⟩:=(show At4 w2 blk (off+(m+1)*4+j*4) v from (by have q:=(HW.out.lay hw).at_ _ _ HU.out.2.2.2;rw[show off+(m+1+j)*4=off+(m+1)*4+j*4 by omega]at q;exact q))))
      have HW2:Aside (Rw w2 blk t n off e):=HW.out.lay hw
      have HC2:Aside (Chg blk w w2):=HC.out.trans hw.chg
      clear p0 p1 p2 p3 hw0 hw HW HC
      have HN:Aside (cmLf (d.take (m+1+(j+1+1)))=if u.same v=true then cmLf (d.take (m+1+(j+1)))else cmLf (d.take (m+1+(j+1)))++[u]):=cmLf_take HU.out.2.1 HU.out.1
      cases hs:u.same v with
      | true =>
       go_wp2_with fail
       go_roundg (d.length-(m+1+(j+1+1)))
       case measure=>omega
       case rel=>
        have hn:=HN.out
        rw[hs,if_pos rfl]at hn
        exact⟨kk,j+1+1,e,rfl,by go_num,by omega,by omega,Nat.le_refl _,hel,by rw[hn];exact HK.out,by omega,by rw[hn];exact HT.out,HH.out,HW2.out,HC2.out⟩
      | false =>
       have hkl:kk<e.length:=by omega
       obtain⟨z,hz⟩:=getD_eq hkl
       obtain⟨z0,z1,z2,z3⟩:=HW2.out.at_ kk z hz
       have hfit:=HW2.out.fit
       have f0:=(HW2.out.some (j:=off+kk*4) (by omega)).2
       have f1:=(HW2.out.some (j:=off+kk*4+1) (by omega)).2
       have f2:=(HW2.out.some (j:=off+kk*4+2) (by omega)).2
       have f3:=(HW2.out.some (j:=off+kk*4+3) (by omega)).2
       have hkd:(kk:Int)<(d.length:Int):=by omega
       clear hfit hz
       go_wp2_with fail
       go_roundg (d.length-(m+1+(j+1+1)))
       case measure=>omega
       case rel=>
        have hn:=HN.out
        rw[hs,if_neg (by decide)]at hn
        have hK:=HK.out
        refine⟨kk+1,j+1+1,e.set kk u,by go_num,by go_num,by omega,by omega,Nat.le_refl _,by simpa using hel,by rw[hn,List.length_append,<-hK];rfl,by omega,?_,λi hi=> ?_,HW2.out.set hkl u,HC2.out.trans (chg_set blk (off+kk*4) u.enc w2)⟩
        ·rw[hn,<-HT.out,List.take_add_one,sS hkl,List.take_set_of_le (Nat.le_refl _)];rfl
        ·rw[sN (by omega)]
         exact HH.out i (by omega)
     ·have hend:m+1+k2=d.length:=by omega
      have hcl:∀ty,(Builtin.clear_ #[51] ty #[.slice (some ⟨blk,off+kk*4,none⟩) (d.length-kk) (cap-kk)]).run Tryz.prog wr= .ok (.tuple #[]) (wr.setCells blk (off+kk*4) (Builtin.zeroCells (Value.cells (.agg #[.int .i64 0,.string ByteArray.empty,.int .i64 0,.slice none 0 0])) (d.length-kk)).toList):=λty=>by
       refine run_clear_row wr _ _ ty (.agg #[.int .i64 0,.string ByteArray.empty,.int .i64 0,.slice none 0 0]) Tryz.underlying51 Tryz.zeroValue53 (λv hv=> ?_) blk (off+kk*4) _ _ (by omega) (λj hj=> ?_) (λj hj=> ?_)
       ·simp[Value.cells]at hv
        rcases hv with rfl|rfl|rfl|rfl<;>rfl
       ·have hj':j<(d.length-kk)*4:=hj
        have:=hrw.fit
        exact(hrw.some (by omega)).1
       ·have hj':j<(d.length-kk)*4:=hj
        have:=hrw.fit
        exact(hrw.some (by omega)).2
      have HW:Aside (Rw wr blk t n off e):=hrw
      have HC:Aside (Chg blk w wr):=hch
      have HT:Aside (e.take kk=cmLf d):=by rw[hend,List.take_length]at htk;exact htk
      have HK:Aside (kk=(cmLf d).length):=by rw[hend,List.take_length]at hkk;exact hkk
      clear hrw hch htk hkk hhi
      have i1:(kk:Int)<(d.length:Int):=by omega
      go_wp2_with fail
      go_ret
      rw[<-HK.out]
      refine⟨rfl,?_,?_⟩
      ·rw[<-HT.out]
       refine(HW.out.take kk).out ?_
       rw[List.length_take];omega
      ·exact HC.out.trans (chg_set _ _ _ _)
  ·have:k=d.length:=by omega
   subst this
   have e:cmLf d=d:=by rw[List.take_length]at hcm;exact hcm
   have HW:Aside (Rw wr blk t n off d):=hrw
   clear hcm hrw
   go_wp2_with fail
   go_ret
   rw[e]
   exact⟨rfl,HW.out,hch⟩
end Go.Proofs.YtkinkfieackmdaaGreat

/-
  Texts that the claim rests on, merged: Shelf, Ins, ShM, LawSP.
-/
import Derived.Shelf.Spec.SlicesInsertGrow
import Derived.Test.YtagnfckihdlhpaaProg
import Derived.Deep.RegionHeld3
import Derived.Deep.CutRange
import Derived.Test.YtagnfckihdlhpaaZRowSP3
import Derived.Test.YtagnfckihdlhpaaZRowSP4
import Derived.Test.YtagnfckihdlhpaaZRowSP15
import Derived.Test.YtagnfckihdlhpaaZRowSP17
import Derived.Test.YtagnfckihdlhpaaZRowSP22

namespace Go.Proofs
open Go.Shelf
def Try.laysNm221_ren :Go.Shelf.Ren:=⟨fun|21=>68|27=>79|28=>80|35=>82|39=>83|n=>n,fun|22=>22|3=>3|4=>4|0=>0|n=>n,fun|n=>n⟩
theorem Try.laysNm221 :Go.Proofs.Lays2.n21 Try.prog Try.laysNm221_ren:={
 mixed:=by kernel_rfl
 f21:=Try.func68.trans (congrArg some (by kernel_rfl))
 f27:=Try.func79.trans (congrArg some (by kernel_rfl))
 f28:=Try.func80.trans (congrArg some (by kernel_rfl))
 f35:=Try.func82.trans (congrArg some (by kernel_rfl))
 f39:=Try.func83.trans (congrArg some (by kernel_rfl))
 t0:=Try.underlying0
 a0:=Try.isAgg0
 z0:=Try.sizeOf0
 v0:=Try.zeroValue0
 t3:=Try.underlying3
 a3:=Try.isAgg3
 z3:=Try.sizeOf3
 v3:=Try.zeroValue3
 t4:=Try.underlying4
 a4:=Try.isAgg4
 z4:=Try.sizeOf4
 v4:=Try.zeroValue4
 t22:=Try.underlying22
 a22:=Try.isAgg22
 z22:=Try.sizeOf22
 v22:=Try.zeroValue22
 i3:=by kernel_rfl}
open Go.RowKit Go.Lib in
theorem Try.slices_Insert_int_shift (b off n c i vb voff m vc:Nat) (cs vs:List Value) (w:World) (hi:i<n) (hm:0<m) (hroom:n+m<=c) (hc63:c<=9223372036854775807) (hvb:vb≠b)
  (hcl:cs.length=n) (hvl:vs.length=m)
  (hcs:∀j v,cs[j]? =some v->w.cell? ⟨b,off+j,none⟩=some v) (hsp:∀j,j<n+m->(w.cell? ⟨b,off+j,none⟩).isSome=true) (hfz:∀j,j<n+m->w.frozen? ⟨b,off+j,none⟩=false)
  (hvs:∀j v,vs[j]? =some v->w.cell? ⟨vb,voff+j,none⟩=some v) (h1c:∀v∈cs,v.oneCell'=true) (h1v:∀v∈vs,v.oneCell'=true)
  (tA tB:TypeId) (kA kB:Nat) (hsa:w.shape? vb=some (tA,kA)) (hsb:w.shape? b=some (tB,kB)) (hkB:kB≠0) (hfa:w.frozen? ⟨vb,voff,none⟩=false) (hfe:w.frozen? ⟨vb,kA,none⟩=false):
  Calls Try.prog 68 #[.slice (some ⟨b,off,none⟩) n c,.int .i64 i,.slice (some ⟨vb,voff,none⟩) m vc] w fun e w'=>
   e= .returned (.slice (some ⟨b,off,none⟩) (n+m) c)/\w'=(w.drew.setCells b (off+(i+m)) (cs.drop i)).setCells b (off+i) vs:=Any2.slices_Insert_int_shift Try.laysNm221 b off n c i vb voff m vc cs vs w hi hm hroom hc63 hvb hcl hvl hcs hsp hfz hvs h1c h1v tA tB kA kB hsa hsb hkB hfa hfe
open Go.RowKit Go.Lib in
theorem Try.slices_Insert_int_grow (b off n c i vb voff m vc:Nat) (cs vs:List Value) (w:World) (hi:i<n) (hm:0<m) (hnc:n<=c) (hroom:c<n+m) (hbig:(n+m)*8<=140737488355328)
  (hcl:cs.length=n) (hvl:vs.length=m)
  (hcs:∀j v,cs[j]? =some v->w.cell? ⟨b,off+j,none⟩=some v)
  (hvs:∀j v,vs[j]? =some v->w.cell? ⟨vb,voff+j,none⟩=some v) (h1c:∀v∈cs,v.oneCell'=true) (h1v:∀v∈vs,v.oneCell'=true):
  Calls Try.prog 68 #[.slice (some ⟨b,off,none⟩) n c,.int .i64 i,.slice (some ⟨vb,voff,none⟩) m vc] w fun e w'=>
   e= .returned (.slice (some ⟨w.heap.size,0,none⟩) (n+m) (grownCap w (n+m) c 3))/\
   w'=(((w.alloc (.cells ((cs.take i).toArray++Builtin.zeroCells (Value.int .i64 0).cells (n+m-i)++Builtin.zeroCells (Value.int .i64 0).cells (grownCap w (n+m) c 3-(n+m))) 3)).drew.setCells w.heap.size i vs).drew).setCells w.heap.size (i+m) (cs.drop i):=Any2.slices_Insert_int_grow Try.laysNm221 b off n c i vb voff m vc cs vs w hi hm hnc hroom hbig hcl hvl hcs hvs h1c h1v
end Go.Proofs

namespace Go.Proofs.Ytagnfckihdlhpaa
open Go.RowKit
theorem setCells_rest (b:Nat):∀(vs:List Value) (o:Nat) (w:World),(w.setCells b o vs).os=w.os/\(w.setCells b o vs).tape=w.tape/\(w.setCells b o vs).output=w.output/\(w.setCells b o vs).heap.size=w.heap.size/\∀i,i≠b->(w.setCells b o vs).heap[i]? =w.heap[i]?
 |[],_,_=>⟨rfl,rfl,rfl,rfl,fun _ _=>rfl⟩
 | v :: r, o, w => by
  obtain⟨h1,h2,h3,h4,h5⟩:=setCells_rest b r (o+1) (w.setCell ⟨b,o,none⟩ v)
  exact⟨h1,h2,h3,h4.trans (by simp[World.setCell]),fun i hi=>(h5 i hi).trans (Below.heap_setCell w ⟨b,o,none⟩ v i (fun e=>hi (by simpa using e)))⟩
theorem setCells_row (b:Nat):∀(vs:List Value) (o:Nat) (w:World) (cur:Array Value) (t:TypeId) (fr:Nat×Nat),w.heap[b]? =some (.cells cur t fr)->∃cur',(w.setCells b o vs).heap[b]? =some (.cells cur' t fr)/\cur'.size=cur.size
 |[],_,_,cur,_,_,h=>⟨cur,h,rfl⟩
 | v :: r, o, w, cur, t, fr, h => by
  have h1:(w.setCell ⟨b,o,none⟩ v).heap[b]? =some (.cells (cur.setIfInBounds o v) t fr):=by simp[World.setCell,Array.getElem?_modify,h]
  obtain⟨cur',h2,h3⟩:=setCells_row b r (o+1) _ _ _ _ h1
  exact⟨cur',h2,by rw[h3];simp⟩
theorem cell_at {w:World} {b:Nat} {cur:Array Value} {t:TypeId} {fr:Nat×Nat} (h:w.heap[b]? =some (.cells cur t fr)) (j:Nat):w.cell? ⟨b,j,none⟩=cur[j]? :=by simp[World.cell?,h]
theorem ins_run {b off c vb voff vc:Nat} {h:List Int} {v:Int} {w:World} {cur0 cur1:Array Value} {t0 t1:TypeId} (hb:w.heap[b]? =some (.cells cur0 t0 (0,0))) (hv:w.heap[vb]? =some (.cells cur1 t1 (0,0))) (hne:vb≠b) (hn:0<h.length) (hl:h.length<=1000)
  (hc:h.length<=c) (hcm:c<=9223372036854775807) (hsz:cur0.size=off+c) (hcell:∀j,j<h.length->cur0[off+j]? =some (.int .i64 (h.getD j 0))) (hvc:cur1[voff]? =some (.int .i64 v)):
  Calls Try.prog 68 #[.slice (some ⟨b,off,none⟩) h.length c,.int .i64 0,.slice (some ⟨vb,voff,none⟩) 1 vc] w fun e w'=>∃g o cap cur t,e= .returned (.slice (some ⟨g,o,none⟩) (h.length+1) cap)/\(g=b\/w.heap.size<=g)/\w'.heap[g]? =some (.cells cur t (0,0))/\cur.size=o+cap/\
   h.length+1<=cap/\cap<=9223372036854775807/\(∀j,j<h.length+1->cur[o+j]? =some (.int .i64 ((v::h).getD j 0)))/\w'.os=w.os/\w'.tape=w.tape/\w'.output=w.output/\w.heap.size<=w'.heap.size/\∀i,i<w.heap.size->i≠b->w'.heap[i]? =w.heap[i]? :=by
 have lt:∀{g:Nat} {o:Obj},w.heap[g]? =some o->g<w.heap.size:=fun {g o} h=>by
  rcases Nat.lt_or_ge g w.heap.size with q|q
  ·exact q
  ·rw[Array.getElem?_eq_none q]at h;cases h
 have hblt:=lt hb
 have hcs:∀j u,(h.map fun x=>Value.int .i64 x)[j]? =some u->w.cell? ⟨b,off+j,none⟩=some u:=fun j u hj=>by
  obtain⟨hj1,hj2⟩:=List.getElem?_eq_some_iff.1 hj
  have hj3:j<h.length:=by simpa using hj1
  rw[cell_at hb,hcell j hj3,<-hj2]
  simp[List.getD,hj3]
 have hvs:∀j u,[Value.int .i64 v][j]? =some u->w.cell? ⟨vb,voff+j,none⟩=some u:=fun j u hj=>by
  have:j=0:=by
   have:=(List.getElem?_eq_some_iff.1 hj).1
   simp at this;exact this
  subst this
  simp at hj
  subst hj
  rw[cell_at hv];exact hvc
 have h1c:∀u∈(h.map fun x=>Value.int .i64 x),u.oneCell'=true:=fun u hu=>by obtain⟨x,_,rfl⟩:=List.mem_map.1 hu;rfl
 have h1v:∀u∈[Value.int .i64 v],u.oneCell'=true:=fun u hu=>by simp at hu;subst hu;rfl
 -- what the cells are in the end
 have fin:∀(w2:World) (g o:Nat) (cur:Array Value) (t:TypeId),(∀j,j<h.length->(w2.cell? ⟨g,o+1+j,none⟩)=some (.int .i64 (h.getD j 0)))->w2.cell? ⟨g,o,none⟩=some (.int .i64 v)->w2.heap[g]? =some (.cells cur t (0,0))->∀j,j<h.length+1->cur[o+j]? =some (.int .i64 ((v::h).getD j 0)):=fun w2 g o cur t k1 k2 k3 j hj=>by
  rw[<-cell_at k3]
  cases j with
  |zero=>simpa using k2
  | succ j =>
   have:=k1 j (by omega)
   rw[show o+(j+1)=o+1+j by omega,this];rfl
 by_cases hroom:h.length+1<=c
 ·have hfz:∀j,w.frozen? ⟨b,j,none⟩=false:=fun j=>by simp[World.frozen?,hb]
  have hfv:∀j,w.frozen? ⟨vb,j,none⟩=false:=fun j=>by simp[World.frozen?,hv]
  refine(Try.slices_Insert_int_shift b off h.length c 0 vb voff 1 vc (h.map fun x=>Value.int .i64 x) [.int .i64 v] w hn (by omega) hroom hcm hne (by simp) rfl hcs (fun j hj=> ?_) (fun j _=>hfz _) hvs h1c h1v t1 t0 cur1.size cur0.size (by simp[World.shape?,hv]) (by simp[World.shape?,hb]) (by omega) (hfv _) (hfv _)).mono fun e w' ⟨e1,e2⟩=> ?_
  ·rw[cell_at hb,Array.getElem?_eq_getElem (by omega)]
   rfl
  subst e2
  simp only[List.drop_zero,Nat.zero_add,Nat.add_zero]at*
  obtain⟨m1,m2,m3⟩:=setCells_row b (h.map fun x=>Value.int .i64 x) (off+1) w.drew cur0 t0 (0,0) hb
  obtain⟨r1,r2,r3⟩:=setCells_row b [.int .i64 v] off _ _ _ _ m2
  obtain⟨p1,p2,p3,p4,p5⟩:=setCells_rest b (h.map fun x=>Value.int .i64 x) (off+1) w.drew
  obtain⟨s1,s2,s3,s4,s5⟩:=setCells_rest b [.int .i64 v] off (w.drew.setCells b (off+1) (h.map fun x=>Value.int .i64 x))
  have some0:∀j,j<h.length+1->(w.drew.cell? ⟨b,off+j,none⟩).isSome=true:=fun j hj=>by
   show (w.cell? ⟨b,off+j,none⟩).isSome=true
   rw[cell_at hb,Array.getElem?_eq_getElem (by omega)];rfl
  have in1:∀j,j<h.length->(w.drew.setCells b (off+1) (h.map fun x=>Value.int .i64 x)).cell? ⟨b,off+1+j,none⟩=some (.int .i64 (h.getD j 0)):=fun j hj=>by
   rw[World.cell?_setCells_in b _ (off+1) w.drew (fun k hk=>by have:=some0 (k+1) (by simp at hk;omega);rwa [show off+(k+1)=off+1+k by omega]at this) j (by simpa using hj)]
   simp[List.getD,hj]
  refine⟨b,off,c,r1,t0,e1,.inl rfl,r2,by rw[r3,m3,hsz],hroom,hcm,fin _ b off r1 t0 (fun j hj=> ?_) ?_ r2,s1.trans p1,s2.trans p2,s3.trans p3,by rw[s4,p4];exact Nat.le_refl _,fun i _ hi=>(s5 i hi).trans (p5 i hi)⟩
  ·rw[World.cell?_setCells_out b [.int .i64 v] off _ _ (fun _ _=>.inr (by simp<;>omega))]
   exact in1 j hj
  ·have q:=World.cell?_setCells_in b [.int .i64 v] off (w.drew.setCells b (off+1) (h.map fun x=>Value.int .i64 x)) (fun k hk=>by
    have:k=0:=by simp at hk;exact hk
    subst this
    rw[World.cell?_setCells_out b _ (off+1) w.drew _ (fun _ _=>.inl (by simp))]
    exact some0 0 (by omega)) 0 (by simp)
   simpa using q
 ·refine(Try.slices_Insert_int_grow b off h.length c 0 vb voff 1 vc (h.map fun x=>Value.int .i64 x) [.int .i64 v] w hn (by omega) hc (by omega) (by omega) (by simp) rfl hcs hvs h1c h1v).mono fun e w' ⟨e1,e2⟩=> ?_
  have hc':c=h.length:=by omega
  obtain⟨gc,hgc⟩:∃gc,gc=grownCap w (h.length+1) c 3:=⟨_,rfl⟩
  rw[<-hgc]at e1 e2
  have hg1:h.length+1<=gc:=hgc▸grownCap_ge w _ _ _
  have hg2:gc<=9223372036854775807:=by
   have:=grownCap_le_maxLen w (h.length+1) c 3 (by unfold maxLen;omega)
   unfold maxLen at this
   omega
  generalize harr:(((h.map fun x=>Value.int .i64 x).take 0).toArray++Builtin.zeroCells (Value.int .i64 0).cells (h.length+1-0)++Builtin.zeroCells (Value.int .i64 0).cells (gc-(h.length+1)))=arr at e2
  have hasz:arr.size=gc:=by
   rw[<-harr]
   simp[size_zeroCells,Value.cells]
   omega
  clear harr
  have w1:(w.alloc (.cells arr 3)).drew.heap[w.heap.size]? =some (.cells arr 3 (0,0)):=heap_alloc_new w _
  subst e2
  simp only[List.drop_zero,Nat.zero_add]at*
  obtain⟨m1,m2,m3⟩:=setCells_row w.heap.size [.int .i64 v] 0 _ _ _ _ w1
  obtain⟨r1,r2,r3⟩:=setCells_row w.heap.size (h.map fun x=>Value.int .i64 x) 1 ((w.alloc (.cells arr 3)).drew.setCells w.heap.size 0 [.int .i64 v]).drew _ _ _ m2
  obtain⟨p1,p2,p3,p4,p5⟩:=setCells_rest w.heap.size [.int .i64 v] 0 (w.alloc (.cells arr 3)).drew
  obtain⟨s1,s2,s3,s4,s5⟩:=setCells_rest w.heap.size (h.map fun x=>Value.int .i64 x) 1 ((w.alloc (.cells arr 3)).drew.setCells w.heap.size 0 [.int .i64 v]).drew
  have hb1:Below w.heap.size w (w.alloc (.cells arr 3)):=(Below.refl _ _).alloc (Nat.le_refl _) _
  have in0:(((w.alloc (.cells arr 3)).drew.setCells w.heap.size 0 [.int .i64 v]).drew).cell? ⟨w.heap.size,0,none⟩=some (.int .i64 v):=by
   have q:=World.cell?_setCells_in w.heap.size [.int .i64 v] 0 (w.alloc (.cells arr 3)).drew (fun k hk=>by
    have:k=0:=by simp at hk;exact hk
    subst this
    rw[cell_at w1,Array.getElem?_eq_getElem (by omega)];rfl) 0 (by simp)
   simpa using q
  refine⟨w.heap.size,0,gc,r1,_,e1,.inr (Nat.le_refl _),r2,by rw[r3,m3,hasz];omega,hg1,hg2,fin _ w.heap.size 0 r1 _ (fun j hj=> ?_) ?_ r2,s1.trans (p1.trans hb1.os),s2.trans (p2.trans hb1.tape),s3.trans (p3.trans hb1.output),?_,fun i hi _=>(s5 i (by omega)).trans ((p5 i (by omega)).trans (hb1.block i hi))⟩
  ·have q:=World.cell?_setCells_in w.heap.size (h.map fun x=>Value.int .i64 x) 1 ((w.alloc (.cells arr 3)).drew.setCells w.heap.size 0 [.int .i64 v]).drew (fun k hk=>by
    rw[cell_at (w:=((w.alloc (.cells arr 3)).drew.setCells w.heap.size 0 [.int .i64 v]).drew) m2,Array.getElem?_eq_getElem (by simp at hk;omega)];rfl) j (by simpa using hj)
   rw[Nat.zero_add,q]
   simp[List.getD,hj]
  ·rw[World.cell?_setCells_out w.heap.size _ 1 _ _ (fun _ _=>.inl (by simp))]
   exact in0
  ·have h1:=hb1.size
   have h2:((w.alloc (.cells arr 3)).drew).heap.size=(w.alloc (.cells arr 3)).heap.size:=rfl
   have h3:(((w.alloc (.cells arr 3)).drew.setCells w.heap.size 0 [.int .i64 v]).drew).heap.size=((w.alloc (.cells arr 3)).drew.setCells w.heap.size 0 [.int .i64 v]).heap.size:=rfl
   omega
end Go.Proofs.Ytagnfckihdlhpaa
namespace Go.Proofs.Ytagnfckihdlhpaa.Den
open Go.RowKit
open Abs (V AV VR AR Inf OR HR Grows Keeps)
theorem own_slice {I:Nat->Prop} {w:World} {ι:List Inf} {a n:Nat} {c:Value} (h:VR I w ι (.own a 0 n) c) (hn:0<n):∃inf cap,ι[a]? =some inf/\c= .slice (some ⟨inf.block,inf.base+0*inf.size,none⟩) n cap/\n<=cap/\inf.cap=cap/\cap<=9223372036854775807:=by
 obtain⟨m,hm⟩:∃m,m=n:=⟨_,rfl⟩
 rw[<-hm]at h
 cases h with
 | @own _ _ _ _ cap inf hi hl hcap hmx=>exact⟨inf,cap,hi,by rw[hm],by omega,by omega,hmx⟩
 |own0 hi hcap=>omega
theorem ints_es (xs:List Int):∃es:List (List V),es.length=xs.length/\(∀e∈es,e.length=1)/\(∀(k:Nat) (hk:k<es.length),es[k]=[V.lit (.int .i64 (xs.getD k 0))])/\FR (.l .i xs) (.imm (szT .i) es):=by
 have h1:(xs.map fun x=>[V.lit (.int .i64 x)]).length=xs.length:=by simp
 have h2:∀e∈(xs.map fun x=>[V.lit (.int .i64 x)]),e.length=1:=fun e he=>by obtain⟨x,_,rfl⟩:=List.mem_map.1 he;rfl
 refine⟨xs.map fun x=>[V.lit (.int .i64 x)],h1,h2,fun k hk=> ?_,.l (by decide) h1 h2 fun m m1 m2 j j1 j2=> ?_⟩
 ·have hk':k<xs.length:=by simpa using hk
  simp[List.getD,hk']
 ·have hm:=h2 _ (List.getElem_mem m2)
  have:j=0:=by omega
  subst this
  simp only[List.getElem_map,List.getElem_cons_zero]
  exact .i
set_option maxHeartbeats 1000000 in
theorem ins_cfn (h:List Int) (v:Int) (h0:h≠[]) (hl:h.length<=1000):CFn Try.prog 68 [.one (.o 0),.one (.i 0),.one (.o 1)] [.row .i 0 h,.row .i 0 [v]] (.one (.o 2)) [.gone,.gone,.row .i 0 (v::h)]:=fun ρ hp avs hH hA=>by
 have hn:0<h.length:=List.length_pos_iff.2 h0
 obtain⟨hA1,hA2⟩:=hA
 match avs,hA1 with
 | [x0, x1, x2], _ =>
  have k0:=hA2 0 (by simp) (by simp)
  have k1:=hA2 1 (by simp) (by simp)
  have k2:=hA2 2 (by simp) (by simp)
  simp only[List.getElem_cons_zero,List.getElem_cons_succ]at k0 k1 k2
  obtain⟨v0,rfl,w0⟩:=k0.one'
  obtain⟨v1,rfl,w1⟩:=k1.one'
  obtain⟨v2,rfl,w2⟩:=k2.one'
  cases w1.int
  have H0:([Ob.row .i 0 h,.row .i 0 [v]]:List Ob)[0]? =some (.row .i 0 h):=rfl
  have H1:([Ob.row .i 0 h,.row .i 0 [v]]:List Ob)[1]? =some (.row .i 0 [v]):=rfl
  obtain⟨a0,rfl,p0⟩:∃a,v0= .own a 0 (List.length (α:=Int) h)/\ρ[0]? =some (some a):=by
   rcases w0.own H0 with⟨a,e1,e2⟩|⟨_,e2⟩
   ·exact⟨a,e1,e2⟩
   ·rcases hH.row 0 _ _ _ H0 with⟨a',es,h7,_⟩|⟨_,h7,_⟩
    ·rw[e2]at h7;cases h7
    ·exact absurd h7 h0
  obtain⟨a1,rfl,p1⟩:∃a,v2= .own a 0 1/\ρ[1]? =some (some a):=by
   rcases w2.own H1 with⟨a,e1,e2⟩|⟨_,e2⟩
   ·exact⟨a,e1,e2⟩
   ·rcases hH.row 1 _ _ _ H1 with⟨a',es,h7,_⟩|⟨_,h7,_⟩
    ·rw[e2]at h7;cases h7
    ·cases h7
  obtain⟨es0,r0,f0⟩:=hH.at_ p0 H0
  obtain⟨es1,r1,f1⟩:=hH.at_ p1 H1
  have hne:a0≠a1:=fun e=>by
   subst e
   have:=hH.inj 0 1 a0 p0 p1 ⟨_,rfl,rfl⟩ ⟨_,rfl,rfl⟩
   omega
  obtain⟨l0,q0⟩:=ints_of f0
  obtain⟨l1,q1⟩:=ints_of f1
  have hl0:a0<hp.length:=hH.lt _ _ p0
  have hl1:a1<hp.length:=hH.lt _ _ p1
  obtain⟨y0,y1,hρ⟩:∃y0 y1,ρ=[y0,y1]:=by
   have:=hH.len
   match ρ,this with
   |[y0,y1],_=>exact⟨y0,y1,rfl⟩
  subst hρ
  simp at p0 p1
  subst p0 p1
  -- the new row
  obtain⟨es,hesl,hes1,hesk,hfr⟩:=ints_es (v::h)
  have hesl:es.length=h.length+1:=hesl
  refine⟨⟨Try.f68,Try.func68,by kernel_rfl,by kernel_rfl⟩,fun w I ι cs hR hI hAr=> ?_⟩
  obtain⟨hc1,hc2⟩:=hAr
  obtain⟨c0,d0,e0⟩:=hc2 0 (by simp)
  obtain⟨c1,d1,e1⟩:=hc2 1 (by simp)
  obtain⟨c2,d2,e2⟩:=hc2 2 (by simp)
  obtain rfl:cs= #[c0,c1,c2]:=by
   rcases cs with⟨l⟩
   match l,hc1 with
   | [x, y, z], _ =>
    simp at d0 d1 d2
    subst d0 d1 d2
    rfl
  clear d0 d1 d2 hc1 hc2
  simp only[List.getElem_cons_zero,List.getElem_cons_succ]at e0 e1 e2
  cases e0 with
  |one e0=>
  cases e1 with
  |one e1=>
  cases e2 with
  |one e2=>
  cases e1 with
  |lit _=>
  obtain⟨inf0,cap0,i0,rfl,g1,g2,g3⟩:=own_slice e0 hn
  obtain⟨inf1,cap1,i1,rfl,_,_,_⟩:=own_slice e2 (by omega)
  obtain⟨cur0,t0,b1,b2,b3,b4,b5,b6,b7⟩:=hR.obj a0 _ inf0 r0 i0
  obtain⟨cur1,t1,n1,n2,n3,n4,n5,n6,n7⟩:=hR.obj a1 _ inf1 r1 i1
  have hbne:inf1.block≠inf0.block:=fun e=>hne (hR.inj a0 a1 _ _ inf0 inf1 r0 r1 i0 i1 e.symm)
  have hsz1:szT Ty.i=1:=rfl
  have cell0:∀j,j<h.length->cur0[inf0.base+0*inf0.size+j]? =some (.int .i64 (h.getD j 0))/\Abs.okLit (.int .i64 (h.getD j 0)):=fun j hj=>by
   obtain⟨e,z1,z2⟩:=q0 j hj
   obtain⟨z3,z4⟩:=List.getElem?_eq_some_iff.1 z1
   obtain⟨u,u1,u2⟩:=b7 j z3 0 (by rw[z4,z2];simp)
   simp only[z4,z2,List.getElem_cons_zero]at u2
   cases u2 with
   | lit ok =>
    rw[hsz1]at u1
    exact⟨by simpa using u1,ok⟩
  have cell1:cur1[inf1.base+0*inf1.size]? =some (.int .i64 v)/\Abs.okLit (.int .i64 v):=by
   obtain⟨e,z1,z2⟩:=q1 0 (show 0<1 by omega)
   obtain⟨z3,z4⟩:=List.getElem?_eq_some_iff.1 z1
   obtain⟨u,u1,u2⟩:=n7 0 z3 0 (by rw[z4,z2];simp)
   simp only[z4,z2,List.getElem_cons_zero]at u2
   cases u2 with
   | lit ok =>
    have e:inf1.base+(0*szT Ty.i+0)=inf1.base+0*inf1.size:=by simp
    rw[e]at u1
    exact⟨u1,ok⟩
  refine(ins_run (b:=inf0.block) (off:=inf0.base+0*inf0.size) (c:=cap0) (vb:=inf1.block) (voff:=inf1.base+0*inf1.size) (vc:=cap1) (h:=h) (v:=v) b1 n1 hbne hn hl g1 g3 (by rw[b3,hsz1];omega) (fun j hj=>(cell0 j hj).1) cell1.1).mono ?_
  rintro e w' ⟨g,o,cap,cur,t,rfl,hg,hh,hsz,hc,hcm,hcell,os,tp,op,hgr,hfr2⟩
  have hp0:(hp.set a0 none).set a1 none=(hp.set a0 none).set a1 none:=rfl
  have lenI:=hR.len
  have lookNew:(((hp.set a0 none).set a1 none)++[some (Abs.Ob.row 1 es)])[hp.length]? =some (some (.row 1 es)):=by
   rw[List.getElem?_append_right (by simp)];simp
  have inew:(ι++[(⟨g,o,cap,1⟩:Inf)])[hp.length]? =some ⟨g,o,cap,1⟩:=by rw[lenI];simp
  have split:∀{id:Nat} {x:Abs.Ob} {inf:Inf},(((hp.set a0 none).set a1 none)++[some (Abs.Ob.row 1 es)])[id]? =some (some x)->(ι++[(⟨g,o,cap,1⟩:Inf)])[id]? =some inf->(hp[id]? =some (some x)/\ι[id]? =some inf/\id≠a0/\id≠a1)\/(id=hp.length/\x= .row 1 es/\inf=⟨g,o,cap,1⟩):=fun {id x inf} u1 u2=>by
   rcases Nat.lt_or_ge id hp.length with hlt|hge
   ·rw [List.getElem?_append_left (by simpa using hlt)] at u1
    rw[List.getElem?_append_left (by omega)]at u2
    by_cases c1:id=a1
    ·subst c1;rw[List.getElem?_set_self (by simpa using hlt)]at u1;cases u1
    ·rw[List.getElem?_set_ne (fun e=>c1 e.symm)]at u1
     by_cases c0:id=a0
     ·subst c0;rw[List.getElem?_set_self hlt]at u1;cases u1
     ·rw[List.getElem?_set_ne (fun e=>c0 e.symm)]at u1
      exact .inl ⟨u1,u2,c0,c1⟩
   ·have hid:id=hp.length:=by
     have:=(List.getElem?_eq_some_iff.1 u1).1
     simp at this
     omega
    subst hid
    rw[lookNew]at u1
    rw[inew]at u2
    cases u1
    cases u2
    exact .inr ⟨rfl,rfl,rfl⟩
  have blk:∀{id:Nat} {x:Abs.Ob} {inf:Inf},hp[id]? =some (some x)->ι[id]? =some inf->inf.block<w.heap.size:=fun a b=>hR.blk a b
  -- blocks of other objects are as they were
  have same:∀{id:Nat} {x:Abs.Ob} {inf:Inf},hp[id]? =some (some x)->ι[id]? =some inf->id≠a0->w'.heap[inf.block]? =w.heap[inf.block]? :=fun {id x inf} u1 u2 c=>hfr2 _ (blk u1 u2) fun e=>c (hR.inj id a0 _ _ inf inf0 u1 r0 u2 i0 e)
  have kI:Keeps I I w w':=⟨fun _ q=>q,fun b o q=>by
   simp only[World.cell?]
   rw[hfr2 b (hI b q) fun e=>hR.off a0 _ inf0 r0 i0 (e▸q)]⟩
  have hgI:¬I g:=fun q=>by
   rcases hg with rfl|hg
   ·exact hR.off a0 _ inf0 r0 i0 q
   ·have:=hI g q;omega
  refine⟨.one (.own hp.length 0 (h.length+1)),((hp.set a0 none).set a1 none)++[some (.row 1 es)],ι++[⟨g,o,cap,1⟩],I,_,⟨[some a0,some a1,some hp.length],?_,?_,?_⟩,rfl,?_⟩
  ·exact .one (.o (id:=2) (T:=.i) (n:=0) (xs:=v::h) rfl rfl)
  ·exact
   { len := rfl
     row := fun id n T ys q => by
       match id,q with
       |0,q=>simp at q
       |1,q=>simp at q
       | 2, q =>
         have q:=Option.some.inj (show some (Ob.row .i 0 (v::h))=some (.row T n ys)from q)
         cases q
         exact .inl ⟨hp.length,es,rfl,lookNew,hfr⟩
       |id+3,q=>simp at q
     box:=fun id cs q=>by
       match id,q with
       |0,q=>simp at q
       |1,q=>simp at q
       |2,q=>simp at q
       |id+3,q=>simp at q
     map:=fun id T kvs q=>by
       match id,q with
       |0,q=>simp at q
       |1,q=>simp at q
       |2,q=>simp at q
       |id+3,q=>simp at q
     inj := fun i j a _ _ l1 l2 => by
       have two:∀i,live [Ob.gone,.gone,.row .i 0 (v::h)] i->i=2:=fun i ⟨x,z1,z2⟩=>by
         match i,z1 with
         |0,z1=>simp at z1;subst z1;simp at z2
         |1,z1=>simp at z1;subst z1;simp at z2
         |2,_=>rfl
         |i+3,z1=>simp at z1
       rw[two i l1,two j l2]
     lt := fun i a q => by
       match i,q with
       |0,q=>simp at q;subst q;simp;omega
       |1,q=>simp at q;subst q;simp;omega
       |2,q=>simp at q;subst q;simp
       |i+3,q=>simp at q}
  ·exact
   { len := by simp
     old:=fun id a z1 z2 z3=>by
       match id,z1 with
       |0,z1=>obtain⟨x,x1,x2⟩:=z2;simp at x1;subst x1;simp at x2
       |1,z1=>obtain⟨x,x1,x2⟩:=z2;simp at x1;subst x1;simp at x2
       |2,z1=>simp at z1;subst z1;simp at z3
       |id+3,z1=>simp at z1
     same:=fun a ha z=>by
       have c0:a≠a0:=fun e=>z 0 (by subst e;rfl) ⟨_,rfl,rfl⟩
       have c1:a≠a1:=fun e=>z 1 (by subst e;rfl) ⟨_,rfl,rfl⟩
       rw[List.getElem?_append_left (by simpa using ha),List.getElem?_set_ne (fun e=>c1 e.symm),List.getElem?_set_ne (fun e=>c0 e.symm)]
     rho:=fun id x q=>by
       match id,q with
       |0,q=>exact q
       |1,q=>exact q
       |id+2,q=>simp at q
     ob := fun id x q => by
       match id,q with
       |0,q=>exact⟨.gone,rfl,.inl rfl⟩
       |1,q=>exact⟨.gone,rfl,.inl rfl⟩
       |id+2,q=>simp at q}
  ·exact
   { res := .one (by
       have q:=VR.own (I:=I) (w:=w') (ι:=ι++[(⟨g,o,cap,1⟩:Inf)]) (id:=hp.length) (off:=0) (len:=h.length+1) (c:=cap) inew hc (by simp) hcm
       simpa using q)
     heap :=
       { len := by simp [lenI]
         obj := fun id x inf u1 u2 => by
           rcases split u1 u2 with⟨u1,u2,c0,c1⟩|⟨_,rfl,rfl⟩
           · exact(hR.obj id x inf u1 u2).keep (Grows.app _ _) kI (same u1 u2 c0)
           · refine⟨cur,t,hh,rfl,by simpa using hsz,hcm,by rw[hesl];exact hc,hes1,fun k hk j hj=> ?_⟩
             have hkk:k<h.length+1:=by rw[<-hesl];exact hk
             have hj0:j=0:=by have:=hes1 _ (List.getElem_mem hk);omega
             subst hj0
             refine⟨_,by simpa using hcell k hkk,?_⟩
             simp only[hesk k hk,List.getElem_cons_zero]
             cases k with
             |zero=>exact .lit cell1.2
             |succ k=>exact .lit (cell0 k (by omega)).2
         off:=fun id x inf u1 u2 q=>by
           rcases split u1 u2 with⟨u1,u2,_,_⟩|⟨_,rfl,rfl⟩
           · exact hR.off id x inf u1 u2 q
           · exact hgI q
         inj := fun id id' x x' inf inf' u1 u2 u3 u4 e => by
           rcases split u1 u3 with⟨z1,z2,z3,z4⟩|⟨rfl,rfl,rfl⟩<;>rcases split u2 u4 with⟨z5,z6,z7,z8⟩|⟨rfl,rfl,rfl⟩
           · exact hR.inj id id' x x' inf inf' z1 z5 z2 z6 e
           · exfalso
             simp only at e
             rcases hg with rfl|hg
             · exact z3 (hR.inj id a0 _ _ inf inf0 z1 r0 z2 i0 e)
             · have:=blk z1 z2;omega
           · exfalso
             simp only at e
             rcases hg with rfl|hg
             · exact z7 (hR.inj id' a0 _ _ inf' inf0 z5 r0 z6 i0 e.symm)
             · have:=blk z5 z6;omega
           · rfl}
     imm:=fun b q=>Nat.lt_of_lt_of_le (hI b q) hgr
     immlo:=fun _ q=>.inl q
     pre:=Grows.app _ _
     os:=os
     tape:=tp
     output:=op
     grown:=hgr
     frame:=fun b hlt hnp=>hfr2 b hlt fun e=>hnp ⟨a0,_,inf0,r0,i0,e.symm⟩
     mine := fun id x inf u1 u2 => by
       rcases split u1 u2 with⟨u1,u2,_,_⟩|⟨_,rfl,rfl⟩
       · exact .inl ⟨id,x,inf,u1,u2,rfl⟩
       · rcases hg with rfl|hg
         · exact .inl ⟨a0,_,inf0,r0,i0,rfl⟩
         · exact .inr hg}
theorem ins_ok :EntOK Try.prog (slices_Insert_intint_o.ent gIns):=fun R xs H K r hc=>by
 simp only[slices_Insert_intint_o.ent]at hc
 split at hc
 ·rename_i a b c
  obtain⟨r,q1,q2⟩:=bind_some hc
  unfold gIns at q1
  split at q1
  ·rename_i hp
   obtain⟨rfl,h2,h3,h4⟩:=hp
   cases q1
   obtain⟨v,rfl⟩:=List.length_eq_one_iff.1 h4
   exact⟨_,_,q2,ins_cfn _ v h2 h3⟩
  ·cases q1
 ·cases hc
theorem shO_ok :EntOK Try.prog (i_ShortestPath_o.ent gSh):=shI_ok ins_ok
end Go.Proofs.Ytagnfckihdlhpaa.Den

namespace Go.Proofs.Ytagnfckihdlhpaa.Den
open Go.RowKit
open Classical
theorem wayB_len (f:List Int):∀(m:Nat) (p:List Int),(wayB f m p).length<=p.length+m
 |0,p=>by simp[wayB]
 |m+1,[]=>by simp[wayB]
 | m + 1, x :: r => by
  unfold wayB
  simp only
  split
  ·simp<;>omega
  ·have:=wayB_len f m (f.getD x.toNat 0::x::r)
   simp at this ⊢
   omega
theorem shF_len (g:Gr) (goal:Int):(shF g goal).1.length<=101:=by
 unfold shF
 split
 ·have:=wayB_len (bfs g 100 0 (List.replicate g.states.length 0,[0])).1 100 [goal]
  simp at this ⊢
  omega
 ·simp
theorem smallG_at {g:Gr} (h1:tmTotals g.states+rowTotals g.edges<=1048576):smallG g:=by
 unfold tmTotals rowTotals at h1
 refine⟨by omega,by omega,fun row hr=> ?_⟩
 have:=le_sum_of_mem (f:=List.length) hr
 omega
theorem gSh_small {g:Gr} {goal:Int} (h:smallG g):gSh g goal=some (shF g goal):=if_pos h
theorem ars_nilJ {J:Nat->Prop} {w:World}:Abs.ARs [] J w [] #[]:=⟨rfl,fun j h=>by simp at h⟩
theorem ars_consJ {J:Nat->Prop} {w:World} {av:Abs.AV} {avs:List Abs.AV} {v:Value} {vs:List Value} (h:Abs.AR [] J w av v) (k:Abs.ARs [] J w avs vs.toArray):Abs.ARs [] J w (av::avs) (v::vs).toArray:=by
 refine⟨by have:=k.1;simpa using this,fun j hj=> ?_⟩
 cases j with
 |zero=>exact⟨v,by simp,h⟩
 | succ j =>
  obtain⟨c,c1,c2⟩:=k.2 j (by simpa using hj)
  exact⟨c,by simpa using c1,c2⟩
section
variable {g : Gr} {goal : Int} (hsm : smallG g) {w : World} {J : Nat → Prop} (hJ : ∀ b, J b → b < w.heap.size) {v u : Value} (h : At w J (terms g.states) v) (k : At w J (rows g.edges) u) (hm : (Lit.int .i64 goal).wf = true)
include hsm hJ h k hm
theorem spec_sh :Calls Try.prog 33 #[.agg #[v,u,.bool g.whole],.int .i64 goal] w fun e w'=>∃sv,e= .returned (.tuple #[sv,.bool (shF g goal).2])/\At w' Any (ints (shF g goal).1) sv/\Below w.heap.size w w':=by
 have hcfn:CFn Try.prog 33 [.agg [.l (.n 1) g.states,.l (.sl .i) g.edges,.b g.whole],.one (.i goal)] [] (.tup [.one (.l .i (shF g goal).1),.one (.b (shF g goal).2)]) []:=by
  obtain⟨v,H',e,q⟩:=shS_ok (AT×List Ob) [.agg [.l (.n 1) g.states,.l (.sl .i) g.edges,.b g.whole],.one (.i goal)] [] (fun v H'=>some (v,H')) _ (congrArg (fun o:Option (List Int×Bool)=>o.bind fun r=>some (AT.tup [.one (.l .i r.1),.one (.b r.2)],([]:List Ob))) (show gSh ⟨g.states,g.edges,g.whole⟩ goal=some (shF g goal)from gSh_small hsm))
  cases e
  exact q
 obtain⟨v1,t1,a1⟩:=arg_graph (fun b hb _=>hb) h k
 obtain⟨v4,t4,a4⟩:=arg_int (w:=w) (J:=J) hm
 refine(calls_cfn hcfn hJ (atrs_cons t1 (atrs_cons t4 atrs_nil)) (ars_consJ a1 (ars_consJ a4 ars_nilJ))).mono fun e w' ⟨r,h',ι',I',c,ρ',e1,q1,_,D,hb⟩=> ?_
 obtain⟨r1,r2,c1,c2,rfl,y1,y2,y3,y4⟩:=res_tup2 q1 D.res
 obtain⟨x1,p1,p2⟩:=res_one y1 y2
 obtain⟨x3,p5,p6⟩:=res_one y3 y4
 obtain rfl:=res_bool p5 p6
 exact⟨_,e1,(res_ints p1 p2).any,hb⟩
theorem impl_sh :Calls Try.prog 34 #[.agg #[v,u,.bool g.whole],.int .i64 goal] w fun e w'=>∃sv S,e= .returned (.tuple #[sv,.bool (shF g goal).2])/\(∀b,S b->w.heap.size<=b)/\Soft S w'/\At w' S (ints (shF g goal).1) sv/\Below w.heap.size w w':=by
 have hcfn:CFn Try.prog 34 [.agg [.l (.n 1) g.states,.l (.sl .i) g.edges,.b g.whole],.one (.i goal)] [] (.tup [.one (.o 0),.one (.b (shF g goal).2)]) [.row .i 0 (shF g goal).1]:=by
  obtain⟨v,H',e,q⟩:=shO_ok (AT×List Ob) [.agg [.l (.n 1) g.states,.l (.sl .i) g.edges,.b g.whole],.one (.i goal)] [] (fun v H'=>some (v,H')) _ (congrArg (fun o:Option (List Int×Bool)=>o.bind fun r=>some (AT.tup [.one (.o 0),.one (.b r.2)],[Ob.row .i 0 r.1])) (show gSh ⟨g.states,g.edges,g.whole⟩ goal=some (shF g goal)from gSh_small hsm))
  cases e
  exact q
 obtain⟨v1,t1,a1⟩:=arg_graph (fun b hb _=>hb) h k
 obtain⟨v4,t4,a4⟩:=arg_int (w:=w) (J:=J) hm
 refine(calls_cfn hcfn hJ (atrs_cons t1 (atrs_cons t4 atrs_nil)) (ars_consJ a1 (ars_consJ a4 ars_nilJ))).mono fun e w' ⟨r,h',ι',I',c,ρ',e1,q1,q2,D,hb⟩=> ?_
 obtain⟨r1,r2,c1,c2,rfl,y1,y2,y3,y4⟩:=res_tup2 q1 D.res
 obtain⟨x1,p1,p2⟩:=res_one y1 y2
 obtain⟨x3,p5,p6⟩:=res_one y3 y4
 obtain rfl:=res_bool p5 p6
 obtain⟨S,s1,s2,s3⟩:=res_own (B:=w.heap.size) rfl q2 D.heap (fun id o inf k1 k2=>(D.mine id o inf k1 k2).elim (fun q=>(Abs.noPass _ q).elim) fun q=>q) p1 p2
 exact⟨_,S,e1,s1,s2,s3,hb⟩
end
end Go.Proofs.Ytagnfckihdlhpaa.Den

namespace Go.Proofs.Ytagnfckihdlhpaa
open Go.RowKit
structure MA (g:Gr) (gv ge:Value) (w W:World):Prop where
 bel:Below w.heap.size w W
 lo:w.heap.size+1<=W.heap.size
 gB:Blk W w.heap.size 45 #[gv,ge,.bool g.whole]
 g1:At W (Old w) (terms g.states) gv
 g2:At W (Old w) (rows g.edges) ge
section
variable {g : Gr} {gv ge : Value} {w W W' : World} {S : Nat → Prop}
theorem MA.next (h:MA g gv ge w W) (hb:Below W.heap.size W W'):MA g gv ge w W':=⟨h.bel.trans (hb.mono h.bel.size),Nat.le_trans h.lo hb.size,h.gB.next hb,h.g1.below hb,h.g2.below hb⟩
theorem MA.alloc (h:MA g gv ge w W) (o:Obj):MA g gv ge w (W.alloc o):=h.next ((Below.refl _ _).alloc (Nat.le_refl _) _)
theorem MA.drew (h:MA g gv ge w W):MA g gv ge w W.drew:=h.next (Below.refl _ _).drew
theorem MA.like (h:MA g gv ge w W) (hL:Like S W W') (hS:∀b,S b->w.heap.size+1<=b):MA g gv ge w W':=
 have d:∀b,Old w b->¬S b:=fun b hb hs=>by have:=hS b hs;simp only[Old]at hb;omega
 ⟨h.bel.trans (hL.below (Nat.le_trans (by omega) h.lo) fun b hb=>by have:=hS b hb;omega),Nat.le_trans h.lo hL.size,hL.blk h.gB fun q=>by have:=hS _ q;omega,h.g1.like hL d,h.g2.like hL d⟩
end
structure MS (xs:List Int) (sv:Value) (B:Nat) (W:World):Prop where
 le:B<=W.heap.size
 at_:At W (fun b=>b<B) (ints xs) sv
section
variable {xs : List Int} {B : Nat} {sv : Value} {W W' : World} {S : Nat → Prop}
theorem MS.next (h:MS xs sv B W) (hb:Below W.heap.size W W'):MS xs sv B W':=⟨Nat.le_trans h.le hb.size,h.at_.below hb⟩
theorem MS.alloc (h:MS xs sv B W) (o:Obj):MS xs sv B (W.alloc o):=h.next ((Below.refl _ _).alloc (Nat.le_refl _) _)
theorem MS.drew (h:MS xs sv B W):MS xs sv B W.drew:=h.next (Below.refl _ _).drew
theorem MS.like (h:MS xs sv B W) (hL:Like S W W') (hS:∀b,S b->B<=b):MS xs sv B W':=⟨Nat.le_trans h.le hL.size,h.at_.like hL fun b hb hs=>by have:=hS b hs;omega⟩
end
structure MG (xs:List Int) (sv:Value) (B:Nat) (T:Nat->Prop) (W:World):Prop where
 from_:∀b,T b->B<=b
 soft:Soft T W
 at_:At W T (ints xs) sv
section
variable {xs : List Int} {B : Nat} {sv : Value} {W W' : World} {S T : Nat → Prop}
theorem MG.next (h:MG xs sv B T W) (hb:Below W.heap.size W W'):MG xs sv B T W':=⟨h.from_,h.soft.like (Like.of_below (S:=T) hb),h.at_.below hb⟩
theorem MG.drew (h:MG xs sv B T W):MG xs sv B T W.drew:=h.next (Below.refl _ _).drew
theorem MG.like (h:MG xs sv B T W) (hL:Like S W W') (hS:∀b,S b->b<B):MG xs sv B T W':=⟨h.from_,h.soft.like hL,h.at_.like hL fun b hb hs=>by have:=hS b hs;have:=h.from_ b hb;omega⟩
end
structure MX (g:Gr) (p:Nat) (x1 x2:Value) (S:Nat->Prop) (W:World):Prop where
 gB:Blk W p 50 #[x1,x2,.bool g.whole]
 hp:¬S p
 soft:Soft S W
 a1:At W S (terms g.states) x1
 a2:At W S (rows g.edges) x2
section
variable {g : Gr} {p : Nat} {x1 x2 : Value} {W W' : World} {S : Nat → Prop}
theorem MX.next (h:MX g p x1 x2 S W) (hb:Below W.heap.size W W'):MX g p x1 x2 S W':=⟨h.gB.next hb,h.hp,h.soft.like (Like.of_below (S:=S) hb),h.a1.below hb,h.a2.below hb⟩
theorem MX.drew (h:MX g p x1 x2 S W):MX g p x1 x2 S W.drew:=h.next (Below.refl _ _).drew
end
def SpecC (g:Gr) (goal:Int) (xs:List Int) (ok:Bool):Prop:=∀(w:World) (v u:Value),At w Any (terms g.states) v->At w Any (rows g.edges) u->
  Calls Try.prog 33 #[.agg #[v,u,.bool g.whole],.int .i64 goal] w fun e w'=>∃sv,e= .returned (.tuple #[sv,.bool ok])/\At w' Any (ints xs) sv/\Below w.heap.size w w'
def ImplC (g:Gr) (goal:Int) (xs:List Int) (ok:Bool):Prop:=∀(w:World) (v u:Value),At w Any (terms g.states) v->At w Any (rows g.edges) u->
  Calls Try.prog 34 #[.agg #[v,u,.bool g.whole],.int .i64 goal] w fun e w'=>∃sv S,e= .returned (.tuple #[sv,.bool ok])/\(∀b,S b->w.heap.size<=b)/\Soft S w'/\At w' S (ints xs) sv/\Below w.heap.size w w'
set_option maxRecDepth 100000 in
set_option maxHeartbeats 8000000 in
theorem fnExactShortestPath_any (g:Gr) (goal:Int) (xs:List Int) (ok:Bool) (hS:g.total<=1048576->SpecC g goal xs ok/\ImplC g goal xs ok) (hxs:xs.length<=1000)
  (w:World) (v u:Value) (h:At w Any (terms g.states) v) (k:At w Any (rows g.edges) u):
  Calls Try.prog 9 #[.agg #[v,u,.bool g.whole],.int .i64 goal] w fun e w'=>e= .returned (.bool true)/\Below w.heap.size w w':=by
 obtain⟨A,c,rfl,hn,hc⟩:=terms_slice h
 obtain⟨E,d,rfl,hm,hd⟩:=rows_slice k
 have hA0:Hid (MA g (.slice A g.states.length c) (.slice E g.edges.length d) w (w.alloc (.cells #[.slice A g.states.length c,.slice E g.edges.length d,.bool g.whole] 45))):=
  Lib.hid ⟨(Below.refl _ _).alloc (Nat.le_refl _) _,by simp,Blk.new _ _ _,h.old.alloc _,k.old.alloc _⟩
 clear h k
 by_cases hle:g.total<=1048576
 ·have ht:0<=took 1048576 g.total:=by unfold took;split<;>omega
  obtain⟨hs,hi⟩:=hS hle
  have HSp:=Lib.hid hs
  have HIm:=Lib.hid hi
  clear hs hi hS
  go_enter Try.func9,Try.ntmps9
  go_wp2_with fail
  refine(szGraph_any g _ _ _ _ hA0.out.g1.any hA0.out.g2.any (by omega) (by omega)).mono ?_
  rintro e w1 ⟨rfl,hb1⟩
  have a:=Lib.hid (hA0.out.next hb1)
  clear hA0 hb1
  obtain⟨_,_,_⟩:=a.out.gB.c3
  go_wp2_with fail
  refine(toGraph_so g _ _ _ a.out.g1.any a.out.g2.any hle).mono ?_
  rintro e w2 ⟨v2,u2,rfl,xa2,xk2,hb2,_⟩
  obtain⟨A2,c2,rfl,_,_⟩:=terms_slice xa2
  obtain⟨E2,d2,rfl,_,_⟩:=rows_slice xk2
  have a:=Lib.hid (a.out.next hb2)
  go_wp2_with fail
  refine(HSp.out _ _ _ xa2.any xk2.any).mono ?_
  rintro e wc ⟨sv,rfl,sa,hbc⟩
  obtain⟨L2,e2,rfl,_,_⟩:=ints_slice sa
  have a:=Lib.hid (a.out.next hbc)
  have s:Hid (MS xs (.slice L2 xs.length e2) wc.heap.size wc):=Lib.hid ⟨Nat.le_refl _,sa.old⟩
  have lo:=a.out.lo
  clear xa2 xk2 sa
  obtain⟨_,_,_⟩:=a.out.gB.c3
  go_wp2_with fail
  refine(toGraph_so g _ _ _ a.out.g1.any a.out.g2.any hle).mono ?_
  rintro e w3 ⟨v3,u3,rfl,xa3,xk3,hb3,un3⟩
  obtain⟨A3,c3,rfl,hn3,hcc3⟩:=terms_slice xa3
  obtain⟨E3,d3,rfl,hm3,hd3⟩:=rows_slice xk3
  have z3:=hb3.size
  have x:Hid (MX g w3.heap.size (.slice A3 g.states.length c3) (.slice E3 g.edges.length d3) (fun b=>wc.heap.size<=b/\b<w3.heap.size) (w3.alloc (.cells #[.slice A3 g.states.length c3,.slice E3 g.edges.length d3,.bool g.whole] 50))):=
   Lib.hid ⟨Blk.new _ _ _,by simp,(un3.alloc _ _).soft fun b hb=>⟨hb.1,by simp;omega⟩,(xa3.mono fun b hb hlt=>⟨hb,hlt⟩).alloc _,(xk3.mono fun b hb hlt=>⟨hb,hlt⟩).alloc _⟩
  have a:=Lib.hid ((a.out.next hb3).alloc (.cells #[.slice A3 g.states.length c3,.slice E3 g.edges.length d3,.bool g.whole] 50))
  have s:=Lib.hid ((s.out.next hb3).alloc (.cells #[.slice A3 g.states.length c3,.slice E3 g.edges.length d3,.bool g.whole] 50))
  clear xa3 xk3 un3
  obtain⟨_,_,_⟩:=x.out.gB.c3
  go_wp2_with fail
  refine(HIm.out _ _ _ x.out.a1.any x.out.a2.any).mono ?_
  rintro e w6 ⟨gv,T,rfl,hT,hTs,hg,hb6⟩
  obtain⟨L7,d7,rfl,hnl7,hcl7⟩:=ints_slice hg
  have z6:=hb6.size
  simp only[World.size_alloc]at z6 hT
  have gg:Hid (MG xs (.slice L7 xs.length d7) (w3.heap.size+1) T w6):=Lib.hid ⟨hT,hTs,hg⟩
  have a:=Lib.hid (a.out.next hb6)
  have s:=Lib.hid (s.out.next hb6)
  have x:=Lib.hid (x.out.next hb6)
  clear hg hT hTs
  go_wp2_with fail
  refine(eqIntS_any xs xs _ _ _ _ _ gg.out.at_ s.out.at_).mono ?_
  rintro e w7 ⟨rfl,hb7⟩
  have hdt:decide (xs=xs)=true:=by simp
  have hbq:(ok !=ok)=false:=by cases ok<;>rfl
  have a:=Lib.hid (a.out.next hb7)
  have s:=Lib.hid (s.out.next hb7)
  have x:=Lib.hid (x.out.next hb7)
  have gg:=Lib.hid (gg.out.next hb7)
  go_upto_region 10 with fail
  have a:=Lib.hid a.out.drew
  have s:=Lib.hid s.out.drew
  have x:=Lib.hid x.out.drew
  have gg:=Lib.hid gg.out.drew
  obtain⟨q1,q2,q3⟩:=x.out.gB.c3
  obtain⟨q4,q5,q6⟩:=a.out.gB.c3
  go_region_held3 (fun w'=>w'.cell? ⟨w3.heap.size,0,none⟩=some (.slice A3 g.states.length c3)/\w'.cell? ⟨w3.heap.size,1,none⟩=some (.slice E3 g.edges.length d3)/\w'.cell? ⟨w3.heap.size,2,none⟩=some (.bool g.whole)/\
    w'.cell? ⟨w.heap.size,0,none⟩=some (.slice A g.states.length c)/\w'.cell? ⟨w.heap.size,1,none⟩=some (.slice E g.edges.length d)/\w'.cell? ⟨w.heap.size,2,none⟩=some (.bool g.whole)) (go_keep)
   (first|(go_at_call 22;refine(toGraph_so g _ _ _ ?_ ?_ hle).mono ?_;(exact a.out.g1.any);(exact a.out.g2.any);rintro e w8 ⟨v8,u8,rfl,ha8,hk8,hb8,_⟩;obtain⟨A8,c8,rfl,_,_⟩:=terms_slice ha8;obtain⟨E8,d8,rfl,_,_⟩:=rows_slice hk8;have a:=Lib.hid (a.out.next hb8);have s:=Lib.hid (s.out.next hb8);have x:=Lib.hid (x.out.next hb8);have gg:=Lib.hid (gg.out.next hb8);obtain⟨q1,q2,q3⟩:=x.out.gB.c3;obtain⟨q4,q5,q6⟩:=a.out.gB.c3)|(go_at_call 24;refine(eqGraph_any g _ _ _ _ _ ?_ ?_ ?_ ?_).mono ?_;(exact x.out.a1.any);(exact x.out.a2.any);(exact ha8.any);(exact hk8.any);rintro e w9 ⟨rfl,hb9⟩;have a:=Lib.hid (a.out.next hb9);have s:=Lib.hid (s.out.next hb9);have x:=Lib.hid (x.out.next hb9);have gg:=Lib.hid (gg.out.next hb9);obtain⟨q1,q2,q3⟩:=x.out.gB.c3;obtain⟨q4,q5,q6⟩:=a.out.gB.c3))
  clear ha8 hk8 hb8 hb9
  go_wp2_with fail
  refine(markGraph_any g _ _ _ _ 1 x.out.a1.shape x.out.a2.shape x.out.soft (by omega) (by omega)).mono ?_
  rintro e w14 ⟨k1,rfl,hk1,hk2,hL1⟩
  have a:=Lib.hid (a.out.like hL1 fun b hb=>by omega)
  have s:=Lib.hid (s.out.like hL1 fun b hb=>by omega)
  have gg:=Lib.hid (gg.out.like hL1 fun b hb=>by omega)
  clear x hL1
  have hk5:0<=k1:=by omega
  have hk6:decide (k1<0)=false:=by simp;omega
  go_wp2_with fail
  refine(eqIntS_any xs xs _ _ _ _ _ gg.out.at_ s.out.at_).mono ?_
  rintro e w17 ⟨rfl,hb17⟩
  have a:=Lib.hid (a.out.next hb17)
  have s:=Lib.hid (s.out.next hb17)
  have gg:=Lib.hid (gg.out.next hb17)
  go_wp2_with fail
  refine(markRow_any xs 1 _ _ _ gg.out.at_ gg.out.soft (by omega) (by omega)).mono ?_
  rintro e w18 ⟨rfl,hL4,hm4⟩
  have a:=Lib.hid (a.out.like hL4 fun b hb=>by have:=gg.out.from_ b hb;omega)
  have s:=Lib.hid (s.out.like hL4 fun b hb=>by have:=gg.out.from_ b hb;omega)
  have HM:=Lib.hid hm4
  clear gg hL4 hm4
  go_wp2_with fail
  refine(heldIntS_any xs.length 1 _ _ _ HM.out (by omega) (by omega)).mono ?_
  rintro e w19 ⟨rfl,hb19⟩
  have a:=Lib.hid (a.out.next hb19)
  have s:=Lib.hid (s.out.next hb19)
  have HM:=Lib.hid (HM.out.below hb19)
  have hne:((1:Int)+(xs.length:Int) !=1+(xs.length:Int))=false:=by simp
  have hge:decide ((1:Int)+(xs.length:Int)<0)=false:=by simp;omega
  obtain⟨_,_,_⟩:=a.out.gB.c3
  go_wp2_with fail
  refine(toGraph_so g _ _ _ a.out.g1.any a.out.g2.any hle).mono ?_
  rintro e w20 ⟨v20,u20,rfl,xa20,xk20,hb20,_⟩
  obtain⟨A20,c20,rfl,_,_⟩:=terms_slice xa20
  obtain⟨E20,d20,rfl,_,_⟩:=rows_slice xk20
  go_wp2_with fail
  refine(HIm.out _ _ _ xa20.any xk20.any).mono ?_
  rintro e w21 ⟨gv2,T2,rfl,_,_,hg2,hb21⟩
  obtain⟨L21,d21,rfl,_,_⟩:=ints_slice hg2
  have a:=Lib.hid ((a.out.next hb20).next hb21)
  have s:=Lib.hid ((s.out.next hb20).next hb21)
  have HM:=Lib.hid ((HM.out.below hb20).below hb21)
  go_wp2_with fail
  refine(eqIntS_any xs xs _ _ _ _ _ hg2 s.out.at_).mono ?_
  rintro e w22 ⟨rfl,hb22⟩
  have a:=Lib.hid (a.out.next hb22)
  have HM:=Lib.hid (HM.out.below hb22)
  go_wp2_with fail
  refine(heldIntS_any xs.length 1 _ _ _ HM.out (by omega) (by omega)).mono ?_
  rintro e w23 ⟨rfl,hb23⟩
  have a:=Lib.hid (a.out.next hb23)
  go_wp2_with fail
  go_ret
  exact⟨rfl,a.out.bel⟩
 ·have ht:took 1048576 g.total<0:=by unfold took;split<;>omega
  go_enter Try.func9,Try.ntmps9
  go_wp2_with fail
  refine(szGraph_any g _ _ _ _ hA0.out.g1.any hA0.out.g2.any (by omega) (by omega)).mono ?_
  rintro e w1 ⟨rfl,hb1⟩
  have a:=Lib.hid (hA0.out.next hb1)
  go_wp2_with fail
  go_ret
  exact⟨rfl,a.out.bel⟩
end Go.Proofs.Ytagnfckihdlhpaa

/-
  Texts that the claim rests on, merged: ShelfG, Grw.
-/
import Derived.Shelf.Spec.SlicesGrow
import Derived.Test.YtkinkfieackmdaaGreatDoorProg
import Derived.Test.YtkinkfieackmdaaGreatDoorZRowPth31
import Derived.Test.YtkinkfieackmdaaGreatDoorZRowPth32

namespace Go.Proofs
open Go.Shelf
def Tryz.growT_ren :Go.Shelf.Ren:=⟨λ|4=>72|n=>n,λ|22=>41|25=>59|3=>3|4=>4|9=>9|20=>20|0=>0|n=>n,λ|n=>n⟩
theorem Tryz.growT :Go.Proofs.Lays8.n4 Tryz.prog Tryz.growT_ren:={
 mixed:=by kernel_rfl
 f4:=⟨Tryz.f72.name,by decide,Tryz.func72.trans (congrArg some (by kernel_rfl))⟩
 t0:=Tryz.underlying0
 a0:=Tryz.isAgg0
 z0:=Tryz.sizeOf0
 v0:=Tryz.zeroValue0
 t3:=Tryz.underlying3
 a3:=Tryz.isAgg3
 z3:=Tryz.sizeOf3
 v3:=Tryz.zeroValue3
 t4:=Tryz.underlying4
 a4:=Tryz.isAgg4
 z4:=Tryz.sizeOf4
 v4:=Tryz.zeroValue4
 t9:=Tryz.underlying9
 a9:=Tryz.isAgg9
 z9:=Tryz.sizeOf9
 v9:=Tryz.zeroValue9
 t20:=Tryz.underlying20
 a20:=Tryz.isAgg20
 z20:=Tryz.sizeOf20
 v20:=Tryz.zeroValue20
 t22:=Tryz.underlying41
 a22:=Tryz.isAgg41
 z22:=Tryz.sizeOf41
 v22:=Tryz.zeroValue41}
open Go.RowKit Go.Lib in
theorem Tryz.slices_Grow_room (base:Option Addr) (l c n:Nat) (w:World) (hlc:l<=c) (hc63:c<=9223372036854775807) (hn63:n<=9223372036854775807) (hroom:l+n<=c):
  Calls Tryz.prog 72 #[.slice base l c,.int .i64 n] w λe w'=>e= .returned (.slice base l c)/\w'=w:=Any8.slices_Grow_room Tryz.growT base l c n w hlc hc63 hn63 hroom
open Go.RowKit Go.Lib in
theorem Tryz.slices_Grow_grow (i0:TypeInfo) (z:Value) (hi0:Tryz.prog.info? 59=some i0) (hz0:i0.zero=some z) (hs0:0<i0.size)
  (base:Option Addr) (l c n:Nat) (cs:List Value) (w:World) (hlc:l<=c) (hroom:c<l+n) (hbig:(l+n)*i0.bytes<=140737488355328) (h63:l+n<=4611686018427387904)
  (hcl:cs.length=c*i0.size) (hnil:base=none->c=0) (hcs:∀a,base=some a->∀j v,cs[j]? =some v->w.cell? (a.add j)=some v):
  Calls Tryz.prog 72 #[.slice base l c,.int .i64 n] w λe w'=>
   e= .returned (.slice (some ⟨w.heap.size,0,none⟩) l (grownCap w (l+n) c 59))/\
   w'=w.drew.alloc (.cells (cs.toArray++Builtin.zeroCells z.cells (l+n-c)++Builtin.zeroCells z.cells (grownCap w (l+n) c 59-(l+n))) 59):=Any8.slices_Grow_grow Tryz.growT i0 z hi0 hz0 hs0 base l c n cs w hlc hroom hbig h63 hcl hnil hcs
end Go.Proofs
namespace Go.Proofs.YtkinkfieackmdaaGreatDoor.Den
open Go.RowKit
open Classical
open Abs (V AV VR AR Inf OR HR Grows Keeps)
theorem qX       {P:Program} {f:FuncId} {avs:List AV} {h:Abs.ag}   {s:Nat} {r0:AV} (hc:Abs.callable P f)
  (hh : ∀ (w : World) (I : Nat → Prop) (ι : List Inf) (cs : Array Value), HR ι I w h → Abs.ARs ι I w avs cs → Calls P f cs w fun e w' => (∃ u, e = .returned u ∧ w' = w ∧ AR ι I w r0 u) ∨ ∃ cap cur t, e = .returned (.slice (some ⟨w.heap.size, 0, none⟩) 0 cap) ∧
   w'.heap[w.heap.size]? =some (.cells cur t (0,0))/\cur.size=cap*s/\cap<=9223372036854775807/\Below w.heap.size w w'):
  Abs.Fn P f avs h (λr h'=>(r=r0/\h'=h)\/(r= .one (.own h.length 0 0)/\h'=h++[some (.row s [])])):=
 ⟨hc, fun w I ι cs hH hI hA => by
  refine(hh w I ι cs hH hA).mono ?_;rintro e w' (⟨u,e1,e2,hu⟩|⟨cap,cur,t,e1,hh,hsz,hcm,hb⟩)
  ·subst e2
   exact⟨_,_,ι,I,u,.inl ⟨rfl,rfl⟩,e1,
    { res := hu
      heap:=hH
      imm:=hI
      immlo:=λ_ q=>.inl q
      pre:=Grows.refl _
      os:=rfl
      tape:=rfl
      output:=rfl
      grown:=Nat.le_refl _
      frame:=λ_ _ _=>rfl
      mine:=λid o inf q1 q2=>.inl ⟨id,o,inf,q1,q2,rfl⟩}⟩
  have lenI:=hH.len;have lookNew:(h++[some (Abs.Ob.row s [])])[h.length]? =some (some (.row s [])):=by
   rw[aR (by omega)];simp
  have inew:(ι++[(⟨w.heap.size,0,cap,s⟩:Inf)])[h.length]? =some ⟨w.heap.size,0,cap,s⟩:=by rw[lenI];simp
  have split:∀{id:Nat} {x:Abs.Ob} {inf:Inf},(h++[some (Abs.Ob.row s [])])[id]? =some (some x)->(ι++[(⟨w.heap.size,0,cap,s⟩:Inf)])[id]? =some inf->(h[id]? =some (some x)/\ι[id]? =some inf)\/(id=h.length/\x= .row s []/\inf=⟨w.heap.size,0,cap,s⟩):=λ{id x inf} u1 u2=>by
   rcases Nat.lt_or_ge id h.length with hlt|hge
   ·rw[aL (by omega)]at u1 u2;exact .inl ⟨u1,u2⟩
   ·have hid:id=h.length:=by
     have:=(gI.1 u1).1;simp at this;omega
    subst hid;rw[lookNew]at u1;rw[inew]at u2;cases u1;cases u2;exact .inr ⟨rfl,rfl,rfl⟩
  have blk:∀{id:Nat} {x:Abs.Ob} {inf:Inf},h[id]? =some (some x)->ι[id]? =some inf->inf.block<w.heap.size:=λa b=>hH.blk a b;have kI:Keeps I I w w':=⟨λ_ q=>q,λb o q=>by
   simp only[World.cell?];rw[hb.block b (hI b q)]⟩
  refine ⟨_, _, ι ++ [⟨w.heap.size, 0, cap, s⟩], I, _, .inr ⟨rfl, rfl⟩, e1,
   { res := .one (by
       have q:=VR.own (I:=I) (w:=w') (ι:=ι++[(⟨w.heap.size,0,cap,s⟩:Inf)]) (id:=h.length) (off:=0) (len:=0) (c:=cap) inew (by omega) (by simp) hcm;simpa using q)
     heap :=
       { len := by simp [lenI]
         obj:=λid x inf u1 u2=>by
           rcases split u1 u2 with⟨u1,u2⟩|⟨_,rfl,rfl⟩
           · exact(hH.obj id x inf u1 u2).keep (Grows.app _ _) kI (hb.block _ (blk u1 u2))
           · exact⟨cur,t,hh,rfl,by simpa using hsz,hcm,by simp,by simp,λk hk=>by simp at hk⟩
         off:=λid x inf u1 u2 q=>by
           rcases split u1 u2 with⟨u1,u2⟩|⟨_,rfl,rfl⟩
           · exact hH.off id x inf u1 u2 q
           · exact Nat.lt_irrefl _ (hI _ q)
         inj := fun id id' x x' inf inf' u1 u2 u3 u4 e => by
           rcases split u1 u3 with⟨z1,z2⟩|⟨rfl,rfl,rfl⟩<;>rcases split u2 u4 with⟨z5,z6⟩|⟨rfl,rfl,rfl⟩
           · exact hH.inj id id' x x' inf inf' z1 z5 z2 z6 e
           · have:=blk z1 z2
             simp only at e;omega
           · have:=blk z5 z6
             simp only at e;omega
           · rfl}
     imm:=λb q=>Nat.lt_of_lt_of_le (hI b q) hb.size
     immlo:=λ_ q=>.inl q
     pre:=Grows.app _ _
     os:=hb.os
     tape:=hb.tape
     output:=hb.output
     grown:=hb.size
     frame:=λb hlt _=>hb.block b hlt
     mine:=λid x inf u1 u2=>by
       rcases split u1 u2 with⟨u1,u2⟩|⟨_,rfl,rfl⟩
       · exact .inl ⟨id,x,inf,u1,u2,rfl⟩
       · exact .inr (Nat.le_refl _)}⟩⟩
theorem Tryz.infoEqn :(Tryz.prog.info? 59).map (λi=>(i.zero,i.size,i.bytes))=some (some (.agg #[.int .i64 0,.string ⟨#[]⟩,.int .i64 0,.slice none 0 0,.int .i64 0,.string ⟨#[]⟩,.int .i64 0,.slice none 0 0,.slice none 0 0]),9,136):=by kernel_rfl
theorem sK (base:Option Addr) (c n:Nat) (cs:List Value) (w:World) (hroom:c<n) (hn:n<=1024) (hcl:cs.length=c*9) (hnil:base=none->c=0) (hcs:∀a,base=some a->∀j v,cs[j]? =some v->w.cell? (a.add j)=some v):
  Calls Tryz.prog 72 #[.slice base 0 c,.int .i64 (n:Int)] w λe w'=>∃cap cur t,e= .returned (.slice (some ⟨w.heap.size,0,none⟩) 0 cap)/\w'.heap[w.heap.size]? =some (.cells cur t (0,0))/\cur.size=cap*9/\cap<=9223372036854775807/\Below w.heap.size w w':=by
 obtain⟨i0,e1,e2⟩:=Option.map_eq_some_iff.1 Tryz.infoEqn;have e2a:i0.zero=_:=congrArg (λz=>z.1) e2;have e2b:i0.size=9:=congrArg (λz=>z.2.1) e2;have e2c:i0.bytes=136:=congrArg (λz=>z.2.2) e2;simp only at e2a;refine(Tryz.slices_Grow_grow i0 _ e1 e2a (by omega) base 0 c n cs w (by omega) (by omega) (by rw[e2c];omega) (by omega) (by rw[e2b];exact hcl) hnil hcs).mono ?_;rintro e w' ⟨q1,q2⟩;have hg1:0+n<=grownCap w (0+n) c 59:=grownCap_ge w _ _ _;have hg2:grownCap w (0+n) c 59<=maxLen:=grownCap_le_maxLen w (0+n) c 59 (by unfold maxLen;omega);generalize grownCap w (0+n) c 59=G at q1 q2 hg1 hg2;obtain⟨arr,harr⟩:∃arr,arr=cs.toArray++Builtin.zeroCells (Value.agg #[.int .i64 0,.string ⟨#[]⟩,.int .i64 0,.slice none 0 0,.int .i64 0,.string ⟨#[]⟩,.int .i64 0,.slice none 0 0,.slice none 0 0]).cells (0+n-c)++Builtin.zeroCells (Value.agg #[.int .i64 0,.string ⟨#[]⟩,.int .i64 0,.slice none 0 0,.int .i64 0,.string ⟨#[]⟩,.int .i64 0,.slice none 0 0,.slice none 0 0]).cells (G-(0+n)):=⟨_,rfl⟩;have hasz:arr.size=G*9:=by
  rw[harr];simp[size_zeroCells,Value.cells,hcl];omega
 rw[<-harr]at q2;subst q2;exact⟨G,arr,59,q1,heap_alloc_new w.drew _,hasz,by unfold maxLen at hg2;omega,(Below.refl w.heap.size w).drew.alloc (Nat.le_refl _) _⟩
theorem sJ (base:Option Addr) (c n:Nat) (w:World) (hroom:n<=c) (hc:c<=9223372036854775807):
  Calls Tryz.prog 72 #[.slice base 0 c,.int .i64 (n:Int)] w λe w'=>e= .returned (.slice base 0 c)/\w'=w:=
 Tryz.slices_Grow_room base 0 c n w (by omega) hc (by omega) (by omega)
theorem Cy (n:Nat) (hn:n<=1024):CFn Tryz.prog 72 [.one (.o 0),.one (.i (n:Int))] [.row (.n 14) 0 []] (.one (.o 1)) [.gone,.row (.n 14) 0 []]:=λρ hp avs hH hA=>by
 have hcal:Abs.callable Tryz.prog 72:=⟨Tryz.f72,Tryz.func72,by kernel_rfl,by kernel_rfl⟩;have hs9:szT (Ty.n 14)=9:=rfl;obtain⟨hA1,hA2⟩:=hA
 match avs,hA1 with
 | [x0, x1], _ =>
  have k0:=hA2 0 (by simp) (by simp);have k1:=hA2 1 (by simp) (by simp);simp only[List.getElem_cons_zero,List.getElem_cons_succ]at k0 k1;obtain⟨v0,rfl,w0⟩:=k0.one';obtain⟨v1,rfl,w1⟩:=k1.one';cases w1.int;have H0:([Ob.row (.n 14) 0 []]:List Ob)[0]? =some (.row (.n 14) 0 []):=rfl;obtain⟨y0,rfl⟩:∃y0,ρ=[y0]:=by
   have:=hH.len
   match ρ,this with
   |[y0],_=>exact⟨y0,rfl⟩
  have hev:∀(id:Nat) (x:Ob),([Ob.row (.n 14) 0 []]:List Ob)[id]? =some x->∃y,([Ob.gone,.row (.n 14) 0 []]:List Ob)[id]? =some y/\evo0 x y:=λid x q=>by
   match id,q with
   |0,q=>exact⟨.gone,rfl,.inl rfl⟩
   |id+1,q=>simp at q
  have one:∀i,live [Ob.gone,.row (.n 14) 0 []] i->i=1:=λi ⟨x,z1,z2⟩=>by
   match i,z1 with
   |0,z1=>simp at z1;subst z1;simp at z2
   |1,_=>rfl
   |i+2,z1=>simp at z1
  -- what the new objects are
  have fin : ∀ (y1 : Option Nat) (h' : Abs.ag  ), (∀ a, y0 = some a → a < h'.length) → (∀ a, y1 = some a → h'[a]? = some (some (.row 9 []))) → HpR [y0, y1] [Ob.gone, .row (.n 14) 0 []] h' := fun y1 h' q1 q2 =>
   { len := rfl
     row := fun id n T ys q => by
       match id,q with
       |0,q=>simp at q
       | 1, q =>
         have q:=Option.some.inj (show some (Ob.row (.n 14) 0 [])=some (.row T n ys)from q);cases q;cases y1 with
         |none=>exact .inr ⟨rfl,rfl,by decide⟩
         |some a=>exact .inl ⟨a,[],rfl,q2 a rfl,FR.nil_ (T:=.n 14) (by decide)⟩
       |id+2,q=>simp at q
     box:=λid cs q=>by
       match id,q with
       |0,q=>simp at q
       |1,q=>simp at q
       |id+2,q=>simp at q
     map:=λid T kvs q=>by
       match id,q with
       |0,q=>simp at q
       |1,q=>simp at q
       |id+2,q=>simp at q
     inj:=λi j a _ _ l1 l2=>by rw[one i l1,one j l2]
     lt := fun i a q => by
       match i,q with
       |0,q=>exact q1 a (by simpa using q)
       |1,q=>exact(gI.1 (q2 a (by simpa using q))).1
       |i+2,q=>simp at q}
  have frm : ∀ (y1 : Option Nat) (h' : Abs.ag  ), hp.length ≤ h'.length → (∀ a, a < hp.length → h'[a]? = hp[a]?) → (∀ a, y1 = some a → a < hp.length → y0 = some a) → Fr ⟨hp, [y0], [Ob.row (.n 14) 0 []]⟩ [y0, y1] [Ob.gone, .row (.n 14) 0 []] h' := fun y1 h' q1 q2 q3 =>
   { len := q1
     old:=λid a z1 z2 z3=>by
       have:=one id z2;subst this;exact⟨0,by have:=q3 a (by simpa using z1) z3;subst this;rfl,⟨_,rfl,rfl⟩⟩
     same:=λa ha _=>q2 a ha
     rho:=λid x q=>by
       match id,q with
       |0,q=>exact q
       |id+1,q=>simp at q
     ob:=hev}
  have two:∀{w:World} {I:Nat->Prop} {ι:List Inf} {cs:Array Value},Abs.ARs ι I w [.one v0,.one (.lit (.int .i64 (n:Int)))] cs->∃c0,cs= #[c0,.int .i64 (n:Int)]/\VR I w ι v0 c0:=λ{w I ι cs} hAr=>by
   obtain⟨hc1,hc2⟩:=hAr;obtain⟨c0,d0,e0⟩:=hc2 0 (by simp);obtain⟨c1,d1,e1⟩:=hc2 1 (by simp);obtain rfl:cs= #[c0,c1]:=by
    rcases cs with⟨l⟩
    match l,hc1 with
    | [x, y], _ =>
     simp at d0 d1;subst d0 d1;rfl
   simp only[List.getElem_cons_zero,List.getElem_cons_succ]at e0 e1;cases e0 with
   |one e0=>
   cases e1 with
   |one e1=>
   cases e1 with
   |lit _=>exact⟨c0,rfl,e0⟩
  rcases w0.own H0 with⟨a,rfl,p0⟩|⟨rfl,p0⟩
  ·obtain⟨es,r0,f0⟩:=hH.at_ p0 H0;have hla:a<hp.length:=hH.lt _ _ p0;simp at p0;subst p0;have hes:es=[]:=by
    cases f0 with
    |l _ hl _ _=>exact nZ hl
   subst hes;refine(qX (s:=9) (r0:=.one (.own a 0 0)) hcal λw I ι cs hR hAr=> ?_).mono λr h' q=> ?_
   ·obtain⟨c0,rfl,e0⟩:=two hAr;have hinf:∃inf:Inf,∃off c,ι[a]? =some inf/\c0= .slice (some ⟨inf.block,off,none⟩) 0 c/\c<=9223372036854775807/\(0<c->off=inf.base/\c=inf.cap):=by
     have e0:VR I w ι (.own a 0 0) c0:=e0;cases e0 with
     | @own _ _ _ _ c inf hi hl hcap hm=>exact⟨inf,_,c,hi,rfl,hm,λ_=>⟨by simp,by omega⟩⟩
     | @own0 _ _ _ o inf hi hcap=>exact⟨inf,o,0,hi,rfl,by omega,λh=>by omega⟩
    obtain⟨inf,off,c,hi,rfl,hm,hpos⟩:=hinf;by_cases hroom:n<=c
    ·exact(sJ _ c n w hroom hm).mono λe w' ⟨q1,q2⟩=>.inl ⟨_,q1,q2,.one e0⟩
    ·obtain⟨cur,t,h1,h2,h3,_⟩:=hR.obj a _ inf r0 hi;refine(sK       (some ⟨inf.block,off,none⟩) c n ((cur.toList.drop off).take (c*9)) w (by omega) hn ?_ (λe=>by cases e) λad e j v hj=> ?_).mono λe w' q=>.inr q
     ·rcases Nat.eq_zero_or_pos c with h0|h0
      ·subst h0;simp
      ·obtain⟨o1,o2⟩:=hpos h0;rw[hs9]at h3;simp;omega
     ·cases e;obtain⟨hj1,hj2⟩:=gI.1 hj;rw[List.getElem?_take_of_lt (by simp at hj1;omega),List.getElem?_drop]at hj;have ea:(⟨inf.block,off,none⟩:Addr).add j=⟨inf.block,off+j,none⟩:=by
       unfold Addr.add;by_cases h0:j=0
       ·subst h0;simp
       ·simp[h0]
      rw[ea];simp only[World.cell?,h1];simpa using hj
   ·rcases q with⟨rfl,rfl⟩|⟨rfl,rfl⟩
    ·exact⟨[some a,some a],.one (.o (id:=1) (T:=.n 14) (n:=0) (xs:=[]) rfl rfl),fin _ _ (λb e=>by cases e;exact hla) (λb e=>by cases e;exact r0),frm _ _ (Nat.le_refl _) (λ_ _=>rfl) λb e _=>e⟩
    ·exact⟨[some a,some hp.length],.one (.o (id:=1) (T:=.n 14) (n:=0) (xs:=[]) rfl rfl),fin _ _ (λb e=>by cases e;simp;omega) (λb e=>by cases e;simp),frm _ _ (by simp) (λb hb=>aL hb) λb e hb=>by cases e;omega⟩
  ·simp at p0;subst p0;refine(qX       (s:=9) (r0:=.one (.lit (.slice none 0 0))) hcal λw I ι cs hR hAr=> ?_).mono λr h' q=> ?_
   ·obtain⟨c0,rfl,e0⟩:=two hAr;have e1:VR I w ι (.lit (.slice none 0 0)) c0:=e0;cases e1 with
    |lit ok=>
    by_cases hroom:n<=0
    ·exact(sJ _ 0 n w hroom (by omega)).mono λe w' ⟨q1,q2⟩=>.inl ⟨_,q1,q2,.one e0⟩
    ·exact(sK none 0 n [] w (by omega) hn rfl (λ_=>rfl) (λad e=>by cases e)).mono λe w' q=>.inr q
   ·rcases q with⟨rfl,rfl⟩|⟨rfl,rfl⟩
    ·exact⟨[none,none],.one (.oN (id:=1) (T:=.n 14) (n:=0) (xs:=[]) rfl rfl),fin _ _ (λb e=>by cases e) (λb e=>by cases e),frm _ _ (Nat.le_refl _) (λ_ _=>rfl) λb e _=>by cases e⟩
    ·exact⟨[none,some hp.length],.one (.o (id:=1) (T:=.n 14) (n:=0) (xs:=[]) rfl rfl),fin _ _ (λb e=>by cases e) (λb e=>by cases e;simp),frm _ _ (by simp) (λb hb=>aL hb) λb e hb=>by cases e;omega⟩
noncomputable def iz:List Eqn->Int->Option (List Eqn):=λh n=>if h=[]/\0<=n/\n<=1024 then some []else none
theorem CD :EO (z59.ent iz):=λR xs H K r hc=>by
 simp only[z59.ent]at hc;split at hc
 ·obtain⟨r,q1,q2⟩:=bind_some hc;unfold iz   at q1;split at q1
  ·rename_i a h hp;obtain⟨rfl,h2,h3⟩:=hp;cases q1;obtain⟨n,rfl⟩:=Int.eq_ofNat_of_zero_le h2;exact⟨_,_,q2,Cy n (by omega)⟩
  ·cases q1
 ·cases hc
noncomputable def zB:List (List Eqn)->Option (List Eqn):=λl=>match l with
 |[a,b]=>if a.length<=16/\b.length<=16 then some (a++b)else none
 |_=>none
theorem wP :EO (z4z.ent zB):=z4z.ok (G:=⟨iz⟩) ⟨CD,trivial⟩ λl r h=>by
 unfold zB at h;split at h
 ·rename_i a b;split at h
  ·rename_i hs;obtain⟨ha,hb⟩:=hs;cases h;refine⟨3,?_⟩;have e0:ix [a,b] 0=some a:=rfl;have e1:ix [a,b] 1=some b:=rfl;have s3:∀(m:Nat) (size i:Int) (k0:Int->Option (AT×List Ob)),z4z.l3 ⟨iz⟩   3 (m+1) [a,b] [a,b] 2 size i k0=z4z.b3 ⟨iz⟩   3 [a,b] [a,b] 2 size i (λy0 y1=>z4z.l3 ⟨iz⟩   3 m [a,b] [a,b] 2 y0 y1 k0) k0:=λ_ _ _ _=>rfl;have s11:∀(m:Nat) (i:Int) (l:List Eqn) (k0:List Eqn->Option (AT×List Ob)),z4z.l11 ⟨iz⟩   3 (m+1) [a,b] 2 i l k0=z4z.b11 ⟨iz⟩   3 [a,b] 2 i l (λy0 y1=>z4z.l11 ⟨iz⟩   3 m [a,b] 2 y0 y1 k0) k0:=λ_ _ _ _=>rfl;have b3t:∀(size i:Int) (e:List Eqn) (nx:Int->Int->Option (AT×List Ob)) (k0:Int->Option (AT×List Ob)),ix [a,b] i=some e->decide (i<2)=true->0<=size+(e.length:Int)->size+(e.length:Int)<1000->z4z.b3 ⟨iz⟩   3 [a,b] [a,b] 2 size i nx k0=nx (size+(e.length:Int)) (wr (i+1)):=λsize i e nx k0 q1 q2 q3 q4=>by
    unfold z4z.b3;have qw:wr (size+(List.length (α:=Eqn) e:Int))=size+(List.length (α:=Eqn) e:Int):=aI (by omega);rw[q2,cT,q1,bS,qw,dF (by omega),cF]
   have b11t:∀(i:Int) (l e:List Eqn) (nx:Int->List Eqn->Option (AT×List Ob)) (k0:List Eqn->Option (AT×List Ob)),ix [a,b] i=some e->decide (i<2)=true->(l++e).length<1000->z4z.b11 ⟨iz⟩ 3 [a,b] 2 i l nx k0=nx (wr (i+1)) (l++e):=λi l e nx k0 q1 q2 q3=>by
    unfold z4z.b11;have ql:lim (l++e)=some (l++e):=cj (by omega);rw[q2,cT,q1,bS,ql,bS]
   have main:∀K:List Eqn->Option (AT×List Ob),z4z.main ⟨iz⟩ 3 [a,b] K=K (a++b):=λK=>by
    show z4z.l3 ⟨iz⟩ 3 3 [a,b] [a,b] 2 0 0 (λsize2=>Option.bind (iz [] size2) λr=>z4z.l11 ⟨iz⟩ 3 3 [a,b] 2 0 r (λh02=>K h02))=_;rw[s3 2,b3t 0 0 a _ _ e0 rfl (by omega) (by omega),show wr ((0:Int)+1)=1 from rfl,s3 1,b3t _ 1 b _ _ e1 rfl (by omega) (by omega),show wr ((1:Int)+1)=2 from rfl,s3 0];unfold z4z.b3;rw[show decide ((2:Int)<2)=false from rfl,cF];dsimp only;rw[show iz [] ((0:Int)+(a.length:Int)+(b.length:Int))=some []from if_pos ⟨rfl,by omega,by omega⟩,bS,s11 2,b11t 0 [] a _ _ e0 rfl (by simp;omega),show wr ((0:Int)+1)=1 from rfl,s11 1,b11t 1 _ b _ _ e1 rfl (by simp;omega),show wr ((1:Int)+1)=2 from rfl,s11 0];unfold z4z.b11;rw[show decide ((2:Int)<2)=false from rfl,cF,List.nil_append]
   exact main _
  ·cases h
 ·cases h
noncomputable def pf:List Int->List Int->List Int->List ByteArray->List Sb->List Opr->Mp->Md->Option (Bool×Mp):=λab _ kd nm sb ops m x=>if Alg kd nm sb ops/\ab.length=nm.length/\SmM x/\x.sig=⟨⟨nm,sb⟩,ops⟩then some (lp x,m)else none
noncomputable abbrev GHE:z0x.Gs:=⟨zB,zY⟩
theorem wG {R:Type} {kd ab be:List Int} {nm:List ByteArray} {sb:List Sb} {ops:List Opr} (hA:Alg kd nm sb ops) (hab:ab.length=nm.length) (m:Mp) (x:Md) (hx:SmM x) (hsg:x.sig=⟨⟨nm,sb⟩,ops⟩) (K:Bool->Mp->Option R):
  z0x.main GHE 33 ab be kd nm sb ops m x K=K (lp x) m:=by
 obtain⟨h1,h2⟩:=hx;unfold z0x.main lp;rw[iT,iT];cases l1:decide ((x.eqs.length:Int)<=16)with
 |false=>rfl
 | true =>
  rw[Bool.not_true,cF,Bool.true_and];cases l2:decide ((x.rules.length:Int)<=16)with
  |false=>rfl
  | true =>
   have l1:=of_decide_eq_true l1;have l2:=of_decide_eq_true l2;rw[Bool.not_true,cF,Bool.true_and];show Option.bind (zB [x.eqs,x.rules]) _=_;rw[show zB [x.eqs,x.rules]=some (x.eqs++x.rules)from if_pos ⟨by omega,by omega⟩,bS];refine(all1 (x.eqs++x.rules) (fV x.sig) m (λi h1 nx=>z0x.b4 GHE 33 ab be kd nm sb ops (x.eqs++x.rules) ((x.eqs++x.rules).length:Int) i h1 nx (λt4 h12=>K t4 h12) (λh122=>K true h122)) (K false m) (K true m) (λnx=> ?_) (λi e nx hi=> ?_) 33 0 (by omega) (by simp;omega)).trans ?_
   ·unfold z0x.b4;rw[aq (Nat.lt_irrefl _),cF]
   ·have hil:i<(x.eqs++x.rules).length:=(gI.1 hi).1;have hm:SmE e:=by
     rcases List.mem_append.1 (mG hi)with h|h
     ·exact h1 e h
     ·exact h2 e h
    unfold z0x.b4;rw[aH hil,cT,aD hi,bS,Tm.eta,Tm.eta,Eqn.eta];show Option.bind (zY ab be kd nm sb ops m e) _=_;rw[show zY ab be kd nm sb ops m e=some (fV ⟨⟨nm,sb⟩,ops⟩ e,m)from if_pos ⟨hA,hab,hm⟩,bS,aO (by simp at hil;omega),<-hsg];cases fV x.sig e<;>rfl
   ·rw[List.drop_zero];cases (x.eqs++x.rules).all (fV x.sig)<;>rfl
theorem lq :EO (z0x.ent pf):=z0x.ok (G:=GHE) ⟨wP,od,trivial⟩ λab be kd nm sb ops m x r h=>by
 unfold pf at h;split at h
 ·rename_i hs;obtain⟨hA,hab,hx,hsg⟩:=hs;cases h;exact⟨33,(wG hA hab m x hx hsg _).trans rfl⟩
 ·cases h
end Go.Proofs.YtkinkfieackmdaaGreatDoor.Den

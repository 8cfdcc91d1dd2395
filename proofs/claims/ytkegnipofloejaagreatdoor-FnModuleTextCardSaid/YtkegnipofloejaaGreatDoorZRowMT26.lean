/- merged -/
import Derived.Shelf.Spec.SlicesGrow
import Derived.Test.YtkegnipofloejaaGreatDoorZRowMT22

namespace Go.Proofs
open Go.Shelf
def Tryz.growT_ren :Go.Shelf.Ren:=⟨λ|4=>58|n=>n,λ|22=>31|25=>58|3=>3|4=>4|9=>9|20=>20|0=>0|n=>n,λ|n=>n⟩
theorem Tryz.growT :Go.Proofs.Lays8.n4 Tryz.prog Tryz.growT_ren:={
 mixed:=by kernel_rfl
 f4:=⟨Tryz.f58.name,by decide,Tryz.func58.trans (congrArg some (by kernel_rfl))⟩
 t0:=Tryz.underlying0
 a0:=Tryz.isAgg0
 z0:=Tryz.sizeOf0
 v0:=Tryz.zeroValue0
 t3:=Tryz.underlying3
 a3:=Tryz.isAgg3
 z3:=Tryz.sizeOf3
 v3:=Tryz.zeroValue3
 t4:=Tryz.underlying4
 a4:=Tryz.isAgg4
 z4:=Tryz.sizeOf4
 v4:=Tryz.zeroValue4
 t9:=Tryz.underlying9
 a9:=Tryz.isAgg9
 z9:=Tryz.sizeOf9
 v9:=Tryz.zeroValue9
 t20:=Tryz.underlying20
 a20:=Tryz.isAgg20
 z20:=Tryz.sizeOf20
 v20:=Tryz.zeroValue20
 t22:=Tryz.underlying31
 a22:=Tryz.isAgg31
 z22:=Tryz.sizeOf31
 v22:=Tryz.zeroValue31}
open Go.RowKit Go.Lib in
theorem Tryz.slices_Grow_room(base:Option Addr)(l c n:Nat)(w:World)(hlc:l<=c)(hc63:c<=9223372036854775807)(hn63:n<=9223372036854775807)(hroom:l+n<=c):
  Calls Tryz.prog 58 #[.slice base l c,.int .i64 n] w λe w'=>e= .returned (.slice base l c)/\w'=w:=Any8.slices_Grow_room Tryz.growT base l c n w hlc hc63 hn63 hroom
open Go.RowKit Go.Lib in
theorem Tryz.slices_Grow_grow(i0:TypeInfo)(z:Value)(hi0:Tryz.prog.info? 58=some i0)(hz0:i0.zero=some z)(hs0:0<i0.size)
  (base:Option Addr) (l c n:Nat) (cs:List Value) (w:World) (hlc:l<=c) (hroom:c<l+n) (hbig:(l+n)*i0.bytes<=140737488355328) (h63:l+n<=4611686018427387904)
  (hcl:cs.length=c*i0.size) (hnil:base=none->c=0) (hcs:∀a,base=some a->∀j v,cs[j]? =some v->w.cell? (a.add j)=some v):
  Calls Tryz.prog 58 #[.slice base l c,.int .i64 n] w λe w'=>
   e= .returned (.slice (some ⟨w.heap.size,0,none⟩) l (grownCap w (l+n) c 58))/\
   w'=w.drew.alloc (.cells (cs.toArray++Builtin.zeroCells z.cells (l+n-c)++Builtin.zeroCells z.cells (grownCap w (l+n) c 58-(l+n))) 58):=Any8.slices_Grow_grow Tryz.growT i0 z hi0 hz0 hs0 base l c n cs w hlc hroom hbig h63 hcl hnil hcs
end Go.Proofs
namespace Go.Proofs.YtkegnipofloejaaGreatDoor.Den
open Go.RowKit
open Classical
open Abs (V AV VR AR Inf OR HR bj cu)
theorem xv{P:Program}{f:FuncId}{avs:Td AV}{h:Abs.au}{s:Nat}{r0:AV}(hc:Abs.dI P f)
  (E:∀[Zb] (w:World) (I:Nat->Prop) (ι:Td Inf) (cs:Array Value),HR ι I w h->Abs.ARs ι I w avs cs->Calls P f cs w fun e w'=>(∃u,e= .returned u/\w'=w/\AR ι I w r0 u)\/∃cap cur t,e= .returned (.slice (some ⟨w.heap.size,0,none⟩) 0 cap)/\
   w'.heap[w.heap.size]?=some (.cells cur t (0,0))/\cur.size=cap*s/\cap<=9223372036854775807/\Below w.heap.size w w'):
  Abs.Fn P f avs h (λr h'=>(r=r0/\h'=h)\/(r= .one (.own h.length 0 0)/\h'=h++[some (.row s [])])):=
 ⟨hc, fun w I ι cs _ j D hA=>by
  refine(E w I ι cs j hA).mono ?_;rintro e w' (⟨u,e1,e2,K⟩|⟨cap,cur,t,e1,E,F,B,v⟩)
  .subst e2
   exact⟨_,_,ι,I,u,.inl ⟨rfl,rfl⟩,e1,
    { res:=K
      heap:=j
      imm:=D
      cw:=λ_ q=>.inl q
      pre:=bj.refl _
      os:=rfl
      tape:=rfl
      output:=rfl
      grown:=O3 _
      frame:=λ_ _ _=>rfl
      cA:=λid o inf q1 q2=>.inl ⟨id,o,inf,q1,q2,rfl⟩}⟩
  have y:=j.len;have d:(h++[some (Abs.Ob.row s [])])[h.length]? =some (some (.row s [])):=by
   rw[aR A0];simp
  have A:(ι++[(⟨w.heap.size,0,cap,s⟩:Inf)])[h.length]? =some ⟨w.heap.size,0,cap,s⟩:=by rw[y];simp
  have split:∀{id:Nat}{x:Abs.Ob}{inf:Inf},(h++[some (Abs.Ob.row s [])])[id]? =some (some x)->(ι++[(⟨w.heap.size,0,cap,s⟩:Inf)])[id]? =some inf->(h[id]? =some (some x)/\ι[id]? =some inf)\/(id=h.length/\x= .row s []/\inf=⟨w.heap.size,0,cap,s⟩):=λ{id x inf} u1 u2=>by
   rcases Pq id h.length with C|hge
   .rw[aL A0]at u1 u2;exact .inl ⟨u1,u2⟩
   .have hid:id=h.length:=by
     have:=(gI.1 u1).1;simp at this;omega
    subst hid;rw[d]at u1;rw[A]at u2;cases u1;cases u2;exact .inr ⟨rfl,rfl,rfl⟩
  have blk:∀{id:Nat}{x:Abs.Ob}{inf:Inf},h[id]? =some (some x)->ι[id]? =some inf->inf.block<w.heap.size:=λa b=>j.blk a b;have L:cu I I w w':=⟨λ_ q=>q,λb q=>by
   rw[v.block b (D b q)]⟩
  refine ⟨_, _, ι++[⟨w.heap.size,0,cap,s⟩],I,_,.inr ⟨rfl,rfl⟩,e1,
   { res := .one (by
       have q:=VR.own (I:=I) (w:=w') (ι:=ι++[(⟨w.heap.size,0,cap,s⟩:Inf)]) (id:=h.length) (off:=0) (len:=0) (c:=cap) A A0 A1 B;simpa using q)
     heap :=
       { len := by simp[y]
         obj:=λid x inf u1 u2=>by
           rcases split u1 u2 with⟨u1,u2⟩|⟨_,rfl,rfl⟩
           · exact(j.obj id x inf u1 u2).aH (bj.app _ _) L (v.block _ (blk u1 u2))
           · exact⟨cur,t,E,rfl,Rz,B,A1,A1,λk hk=>by simp at hk⟩
         off:=λid x inf u1 u2 q=>by
           rcases split u1 u2 with⟨u1,u2⟩|⟨_,rfl,rfl⟩
           · exact j.off id x inf u1 u2 q
           · exact Pc _ (D _ q)
         inj := fun id id' x M inf inf' u1 u2 u3 u4 e=>by
           rcases split u1 u3 with⟨G,H⟩|⟨rfl,rfl,rfl⟩<;>rcases split u2 u4 with⟨z5,J⟩|⟨rfl,rfl,rfl⟩
           · exact j.inj id id' x M inf inf' G z5 H J e
           · have:=blk G H
             simp only at e;omega
           · have:=blk z5 J
             simp only at e;omega
           · rfl
         sub:=j.sub}
     imm:=λb q=>PD (D b q) v.size
     cw:=λ_ q=>.inl q
     pre:=bj.app _ _
     os:=v.os
     tape:=v.tape
     output:=v.output
     grown:=v.size
     frame:=λb C _=>v.block b C
     cA:=λid x inf u1 u2=>by
       rcases split u1 u2 with⟨u1,u2⟩|⟨_,rfl,rfl⟩
       · exact .inl ⟨id,x,inf,u1,u2,rfl⟩
       · exact .inr (O3 _)}⟩⟩
theorem Tryz.infoEqn:(Tryz.prog.info? 58).map (λi=>(i.zero,i.size,i.bytes))=some (some (.agg #[.int .i64 0,.string ⟨#[]⟩,.int .i64 0,.slice none 0 0,.int .i64 0,.string ⟨#[]⟩,.int .i64 0,.slice none 0 0,.slice none 0 0]),9,136):=D1
theorem zr(base:Y Addr)(c n:Nat)(cs:Td Value)(w:World)(E:c<n)(K:n<=1024)(h:cs.length=c*9)(y:base=none->c=0)(F:∀a,base=some a->∀j v,cs[j]? =some v->w.cell? (a.add j)=some v):
  Calls Tryz.prog 58 #[.slice base 0 c,.int .i64 (n:Int)] w λe w'=>∃cap cur t,e= .returned (.slice (some ⟨w.heap.size,0,none⟩) 0 cap)/\w'.heap[w.heap.size]? =some (.cells cur t (0,0))/\cur.size=cap*9/\cap<=9223372036854775807/\Below w.heap.size w w':=by
 obtain⟨D,e1,e2⟩:=Option.map_eq_some_iff.1 Tryz.infoEqn;have A:D.zero=_:=congrArg (λz=>z.1) e2;have H:D.size=9:=congrArg (λz=>z.2.1) e2;have I:D.bytes=136:=congrArg (λz=>z.2.2) e2;simp only at A;refine(Tryz.slices_Grow_grow D _ e1 A A0 base 0 c n cs w A0 A0 (by rw[I];omega) A0 (by rw[H];exact h) y F).mono ?_;rintro e w' ⟨q1,q2⟩;have J:0+n<=grownCap w (0+n) c 58:=grownCap_ge w _ _ _;have B:grownCap w (0+n) c 58<=maxLen:=grownCap_le_maxLen w (0+n) c 58 Rt;generalize grownCap w (0+n) c 58=G at q1 q2 J B;obtain⟨arr,d⟩:∃arr,arr=cs.toArray++Builtin.zeroCells (Value.agg #[.int .i64 0,.string ⟨#[]⟩,.int .i64 0,.slice none 0 0,.int .i64 0,.string ⟨#[]⟩,.int .i64 0,.slice none 0 0,.slice none 0 0]).cells (0+n-c)++Builtin.zeroCells (Value.agg #[.int .i64 0,.string ⟨#[]⟩,.int .i64 0,.slice none 0 0,.int .i64 0,.string ⟨#[]⟩,.int .i64 0,.slice none 0 0,.slice none 0 0]).cells (G-(0+n)):=⟨_,rfl⟩;have C:arr.size=G*9:=by
  rw[d];simp[size_zeroCells,Value.cells,h];omega
 rw[<-d]at q2;subst q2;exact⟨G,arr,58,q1,heap_alloc_new w.drew _,C,by unfold maxLen at B;omega,(Below.refl w.heap.size w).drew.alloc (O3 _) _⟩
theorem yq(base:Y Addr)(c n:Nat)(w:World)(d:n<=c)(hc:c<=9223372036854775807):
  Calls Tryz.prog 58 #[.slice base 0 c,.int .i64 (n:Int)] w λe w'=>e= .returned (.slice base 0 c)/\w'=w:=
 Tryz.slices_Grow_room base 0 c n w A0 hc A0 A0
theorem Kv(n:Nat)(hn:n<=1024):CFn Tryz.prog 58 [.one (.o 0),.one (.i (n:Int))] [.row (.n 14) 0 []] (.one (.o 1)) [.aQ,.row (.n 14) 0 []]:=λρ hp avs P hA=>by
 have E:Abs.dI Tryz.prog 58:=⟨Tryz.f58,Tryz.func58,D1,D1⟩;have Q:szT (Ty.n 14)=9:=rfl;obtain⟨hA1,hA2⟩:=hA
 match avs,hA1 with
 | [x0, x1], _=>
  have k0:=hA2 0 A1 A1;have k1:=hA2 1 A1 A1;simp only[OY,PG]at k0 k1;obtain⟨v0,rfl,w0⟩:=k0.bi;obtain⟨v1,rfl,w1⟩:=k1.bi;cases w1.int;have H0:([Ob.row (.n 14) 0 []]:Td Ob)[0]? =some (.row (.n 14) 0 []):=rfl;obtain⟨C,rfl⟩:∃C,ρ=[C]:=by
   have:=P.len
   match ρ,this with
   |[C],_=>exact⟨C,rfl⟩
  have R:∀(id:Nat)(x:Ob),([Ob.row (.n 14) 0 []]:Td Ob)[id]? =some x->∃y,([Ob.aQ,.row (.n 14) 0 []]:Td Ob)[id]? =some y/\fG x y:=λid x q=>by
   match id,q with
   |0,q=>exact⟨.aQ,rfl,.inl rfl⟩
   |id+1,q=>simp at q
  have one:∀i,live [Ob.aQ,.row (.n 14) 0 []] i->i=1:=λi ⟨x,F,S⟩=>by
   match i,F with
   |0,F=>simp at F;subst F;simp at S
   |1,_=>rfl
   |i+2,F=>simp at F
  -- what the new J are
  have fin:∀(G:Y Nat) (h':Abs.au),(∀a,C=some a->a<h'.length)->(∀a,G=some a->h'[a]? =some (some (.row 9 [])))->HpR [C,G] [Ob.aQ,.row (.n 14) 0 []] h':=fun G h' q1 q2=>
   { len := rfl
     row := fun id n T ys q=>by
       match id,q with
       |0,q=>simp at q
       | 1, q=>
         have q:=Pf (show some (Ob.row (.n 14) 0 [])=some (.row T n ys)from q);cases q;cases G with
         |none=>exact .inr ⟨rfl,rfl,A3⟩
         |some a=>exact .inl ⟨a,[],rfl,q2 a rfl,FR.fj (T:=.n 14) A3⟩
       |id+2,q=>simp at q
     box:=λid cs q=>by
       match id,q with
       |0,q=>simp at q
       |1,q=>simp at q
       |id+2,q=>simp at q
     map:=λid T kvs q=>by
       match id,q with
       |0,q=>simp at q
       |1,q=>simp at q
       |id+2,q=>simp at q
     inj:=λi j a _ _ l1 l2=>by rw[one i l1,one j l2]
     lt:=fun i a q=>by
       match i,q with
       |0,q=>exact q1 a (by simpa using q)
       |1,q=>exact(gI.1 (q2 a (by simpa using q))).1
       |i+2,q=>simp at q}
  have D:∀(G:Y Nat) (h':Abs.au),hp.length<=h'.length->(∀a,a<hp.length->h'[a]? =hp[a]?)->(∀a,G=some a->a<hp.length->C=some a)->Fr ⟨hp,[C],[Ob.row (.n 14) 0 []]⟩ [C,G] [Ob.aQ,.row (.n 14) 0 []] h':=fun G h' q1 q2 q3=>
   { len:=q1
     old:=λid a F S z3=>by
       have:=one id S;subst this;exact⟨0,by have:=q3 a Rz z3;subst this;rfl,⟨_,rfl,rfl⟩⟩
     same:=λa ha _=>q2 a ha
     rho:=λid x q=>by
       match id,q with
       |0,q=>exact q
       |id+1,q=>simp at q
     ob:=R}
  have two:∀[Zb]{w:World}{I:Nat->Prop}{ι:Td Inf}{cs:Array Value},Abs.ARs ι I w [.one v0,.one (.lit (.int .i64 (n:Int)))] cs->∃c0,cs= #[c0,.int .i64 (n:Int)]/\VR I w ι v0 c0:=λ[Zb] {w I ι cs} B=>by
   obtain⟨U,K⟩:=B;obtain⟨c0,d0,A⟩:=K 0 A1;obtain⟨c1,d1,e1⟩:=K 1 A1;obtain rfl:cs= #[c0,c1]:=by
    rcases cs with⟨l⟩
    match l,U with
    | [x,y],_=>
     simp at d0 d1;subst d0 d1;rfl
   simp only[OY,PG]at A e1;cases A with
   |one A=>
   cases e1 with
   |one e1=>
   cases e1 with
   |lit _=>exact⟨c0,rfl,A⟩
  rcases w0.own H0 with⟨a,rfl,H⟩|⟨rfl,H⟩
  .obtain⟨es,r0,f0⟩:=P.at_ H H0;have V:a<hp.length:=P.lt _ _ H;simp at H;subst H;have W:es=[]:=by
    cases f0 with
    |l _ hl _ _=>exact nZ hl
   subst W;refine(xv (s:=9) (r0:=.one (.own a 0 0)) E λw I ι cs hR B=> ?_).mono λr h' q=> ?_
   .obtain⟨c0,rfl,A⟩:=two B;have L:∃inf:Inf,∃off c,ι[a]? =some inf/\c0= .slice (some ⟨inf.block,off,none⟩) 0 c/\c<=9223372036854775807/\(0<c->off=inf.base/\c=inf.cap):=by
     have A:VR I w ι (.own a 0 0) c0:=A;cases A with
     | @own _ _ _ _ c inf hi hl M hm=>exact⟨inf,_,c,hi,rfl,hm,λ_=>⟨A1,A0⟩⟩
     | @hU _ _ _ o inf hi M=>exact⟨inf,o,0,hi,rfl,A0,λh=>A0⟩
    obtain⟨inf,off,c,hi,rfl,hm,N⟩:=L;by_cases d:n<=c
    .exact(yq _ c n w d hm).mono λe w' ⟨q1,q2⟩=>.inl ⟨_,q1,q2,.one A⟩
    .obtain⟨cur,t,h1,h2,h3,_⟩:=hR.obj a _ inf r0 hi;refine(zr (some ⟨inf.block,off,none⟩) c n ((cur.toList.drop off).take (c*9)) w A0 hn ?_ (λe=>E0) λad e j v X=> ?_).mono λe w' q=>.inr q
     .rcases Qd c with h0|h0
      .subst h0;simp
      .obtain⟨o1,o2⟩:=N h0;rw[Q]at h3;simp;omega
     .cases e;obtain⟨Z,hj2⟩:=gI.1 X;rw[Q8 (by simp at Z;omega),Qe]at X;have ea:(⟨inf.block,off,none⟩:Addr).add j=⟨inf.block,off+j,none⟩:=by
       unfold Addr.add;by_cases h0:j=0
       .subst h0;simp
       .simp[h0]
      rw[ea];simp only[World.cell?,h1];simpa using X
   .rcases q with⟨rfl,rfl⟩|⟨rfl,rfl⟩
    .exact⟨[some a,some a],.one (.o (id:=1) (T:=.n 14) (n:=0) (xs:=[]) rfl rfl),fin _ _ (λb e=>by cases e;exact V) (λb e=>by cases e;exact r0),D _ _ (O3 _) (λ_ _=>rfl) λb e _=>e⟩
    .exact⟨[some a,some hp.length],.one (.o (id:=1) (T:=.n 14) (n:=0) (xs:=[]) rfl rfl),fin _ _ (λb e=>by cases e;simp;omega) (λb e=>by cases e;simp),D _ _ A1 (λb O=>aL O) λb e O=>by cases e;omega⟩
  .simp at H;subst H;refine(xv (s:=9) (r0:=.one (.lit (.slice none 0 0))) E λw I ι cs hR B=> ?_).mono λr h' q=> ?_
   .obtain⟨c0,rfl,A⟩:=two B;have e1:VR I w ι (.lit (.slice none 0 0)) c0:=A;cases e1 with
    |lit ok=>
    by_cases d:n<=0
    .exact(yq _ 0 n w d A0).mono λe w' ⟨q1,q2⟩=>.inl ⟨_,q1,q2,.one A⟩
    .exact(zr none 0 n [] w A0 hn rfl (λ_=>rfl) (λad e=>E0)).mono λe w' q=>.inr q
   .rcases q with⟨rfl,rfl⟩|⟨rfl,rfl⟩
    .exact⟨[none,none],.one (.oN (id:=1) (T:=.n 14) (n:=0) (xs:=[]) rfl rfl),fin _ _ (λb e=>E0) (λb e=>E0),D _ _ (O3 _) (λ_ _=>rfl) λb e _=>E0⟩
    .exact⟨[none,some hp.length],.one (.o (id:=1) (T:=.n 14) (n:=0) (xs:=[]) rfl rfl),fin _ _ (λb e=>E0) (λb e=>by cases e;simp),D _ _ A1 (λb O=>aL O) λb e O=>by cases e;omega⟩
noncomputable def mJ:Td Eqn->Int->Y (Td Eqn):=λh n=>if h=[]/\0<=n/\n<=1024 then some []else none
theorem IT:aj (z4s.ent mJ):=λR xs H K r hc=>by
 simp only[z4s.ent]at hc;split at hc
 .obtain⟨r,q1,q2⟩:=bb hc;unfold mJ at q1;split at q1
  .rename_i a h hp;obtain⟨rfl,h2,d⟩:=hp;cases q1;obtain⟨n,rfl⟩:=Po h2;exact⟨_,_,q2,Kv n A0⟩
  .cases q1
 .cases hc
noncomputable def FB:Td (Td Eqn)->Y (Td Eqn):=λl=>match l with
 |[a,b]=>if a.length<=16/\b.length<=16 then some (a++b)else none
 |_=>none
theorem C9:aj (z4m.ent FB):=z4m.ok (G:=⟨mJ⟩) ⟨IT,trivial⟩ λl r h=>by
 unfold FB at h;split at h
 .rename_i a b;split at h
  .rename_i hs;obtain⟨I,J⟩:=hs;cases h;refine⟨3,?_⟩;have E:ix [a,b] 0=some a:=rfl;have e1:ix [a,b] 1=some b:=rfl;have A:∀(m:Nat)(size i:Int)(d:Int->Y (AT×Td Ob)),z4m.l3 ⟨mJ⟩ 3 (m+1) [a,b] [a,b] 2 size i d=z4m.b3 ⟨mJ⟩ 3 [a,b] [a,b] 2 size i (λB C=>z4m.l3 ⟨mJ⟩ 3 m [a,b] [a,b] 2 B C d) d:=λ_ _ _ _=>rfl;have t:∀(m:Nat)(i:Int)(l:Td Eqn)(d:Td Eqn->Y (AT×Td Ob)),z4m.l11 ⟨mJ⟩ 3 (m+1) [a,b] 2 i l d=z4m.b11 ⟨mJ⟩ 3 [a,b] 2 i l (λB C=>z4m.l11 ⟨mJ⟩ 3 m [a,b] 2 B C d) d:=λ_ _ _ _=>rfl;have y:∀(size i:Int)(e:Td Eqn)(v:Int->Int->Y (AT×Td Ob))(d:Int->Y (AT×Td Ob)),ix [a,b] i=some e->decide (i<2)=true->0<=size+(e.length:Int)->size+(e.length:Int)<1000->z4m.b3 ⟨mJ⟩ 3 [a,b] [a,b] 2 size i v d=v (size+(e.length:Int)) (wr (i+1)):=λsize i e v d q1 q2 q3 q4=>by
    unfold z4m.b3;have F:wr (size+(List.length (α:=Eqn) e:Int))=size+(List.length (α:=Eqn) e:Int):=aX A0;rw[q2,cT,q1,bS,F,dF A0,cF]
   have j:∀(i:Int)(l e:Td Eqn)(v:Int->Td Eqn->Y (AT×Td Ob))(d:Td Eqn->Y (AT×Td Ob)),ix [a,b] i=some e->decide (i<2)=true->(l++e).length<1000->z4m.b11 ⟨mJ⟩ 3 [a,b] 2 i l v d=v (wr (i+1)) (l++e):=λi l e v d q1 q2 q3=>by
    unfold z4m.b11;have H:lim (l++e)=some (l++e):=cV A0;rw[q2,cT,q1,bS,H,bS]
   have aq:∀K:Td Eqn->Y (AT×Td Ob),z4m.aq ⟨mJ⟩ 3 [a,b] K=K (a++b):=λK=>by
    show z4m.l3 ⟨mJ⟩ 3 3 [a,b] [a,b] 2 0 0 (λw=>Option.bind (mJ [] w) λr=>z4m.l11 ⟨mJ⟩ 3 3 [a,b] 2 0 r (λD=>K D))=_;rw[A 2,y 0 0 a _ _ E rfl A0 A0,show wr ((0:Int)+1)=1 from rfl,A 1,y _ 1 b _ _ e1 rfl A0 A0,show wr ((1:Int)+1)=2 from rfl,A 0];unfold z4m.b3;rw[show decide ((2:Int)<2)=false from rfl,cF];dsimp only;rw[show mJ [] ((0:Int)+(a.length:Int)+(b.length:Int))=some []from mt ⟨rfl,A0,A0⟩,bS,t 2,j 0 [] a _ _ E rfl A4,show wr ((0:Int)+1)=1 from rfl,t 1,j 1 _ b _ _ e1 rfl A4,show wr ((1:Int)+1)=2 from rfl,t 0];unfold z4m.b11;rw[show decide ((2:Int)<2)=false from rfl,cF,Pm]
   exact aq _
  .cases h
 .cases h
noncomputable def j4:Td Int->Td Int->Td Int->Td Z->Td Sb->Td Opr->Mp->Md->Y (Bool×Mp):=λab _ kd nm sb ops m x=>if Alg kd nm sb ops/\ab.length=nm.length/\SmM x/\x.sig=⟨⟨nm,sb⟩,ops⟩then some (mI x,m)else none
noncomputable abbrev GHE:z11.Gs:=⟨FB,yY⟩
theorem Ee{R:Type}{kd ab be:Td Int}{nm:Td Z}{sb:Td Sb}{ops:Td Opr}(hA:Alg kd nm sb ops)(hab:ab.length=nm.length)(m:Mp)(x:Md)(y:SmM x)(t:x.sig=⟨⟨nm,sb⟩,ops⟩)(K:Bool->Mp->Y R):
  z11.aq GHE 33 ab be kd nm sb ops m x K=K (mI x) m:=by
 obtain⟨h1,h2⟩:=y;unfold z11.aq mI;rw[nz,nz];cases l1:decide ((x.eqs.length:Int)<=16)with
 |false=>rfl
 | true=>
  rw[O4,cF,O7];cases l2:decide ((x.rules.length:Int)<=16)with
  |false=>rfl
  | true=>
   have l1:=ON l1;have l2:=ON l2;rw[O4,cF,O7];show Option.bind (FB [x.eqs,x.rules]) _=_;rw[show FB [x.eqs,x.rules]=some (x.eqs++x.rules)from mt ⟨A0,A0⟩,bS];refine(all1 (x.eqs++x.rules) (eJ x.sig) m (λi h1 v=>z11.b4 GHE 33 ab be kd nm sb ops (x.eqs++x.rules) ((x.eqs++x.rules).length:Int) i h1 v (λt4 w=>K t4 w) (λd=>K true d)) (K false m) (K true m) (λv=> ?_) (λi e v hi=> ?_) 33 0 A0 A4).trans ?_
   .unfold z11.b4;rw[bh (Pc _),cF]
   .have j:i<(x.eqs++x.rules).length:=(gI.1 hi).1;have hm:SmE e:=by
     rcases List.mem_append.1 (mG hi)with h|h
     .exact h1 e h
     .exact h2 e h
    unfold z11.b4;rw[bt j,cT,aW hi,bS,Tm.eta,Tm.eta,Eqn.eta];show Option.bind (yY ab be kd nm sb ops m e) _=_;rw[show yY ab be kd nm sb ops m e=some (eJ ⟨⟨nm,sb⟩,ops⟩ e,m)from mt ⟨hA,hab,hm⟩,bS,bw (by simp at j;omega),<-t];cases eJ x.sig e<;>rfl
   .rw[OQ];cases (x.eqs++x.rules).all (eJ x.sig)<;>rfl
theorem kW:aj (z11.ent j4):=z11.ok (G:=GHE) ⟨C9,mW,trivial⟩ λab be kd nm sb ops m x r h=>by
 unfold j4 at h;split at h
 .rename_i hs;obtain⟨hA,hab,j,d⟩:=hs;cases h;exact⟨33,(Ee hA hab m x j d _).trans rfl⟩
 .cases h
end Go.Proofs.YtkegnipofloejaaGreatDoor.Den

/- merged -/
import Derived.Deep.Upon
import Derived.Test.YtkegnipofloejaaGreatDoorZRowMT1
import Derived.Test.YtkegnipofloejaaGreatDoorZRowMT3
import Derived.Test.YtkegnipofloejaaGreatDoorZRowMT4
import Derived.Test.YtkegnipofloejaaGreatDoorZRowMT5

namespace Go.Proofs.YtkegnipofloejaaGreatDoor.Abs
open Go.RowKit
structure MpI where
 key:Nat
 val:Nat
 zero:List Value
def okZ(z:Value):Bool:=match z with
 | .agg cs=>cs.size !=1
 |_=>true
def yV(P:Program)(t:TypeId):Y MpI:=match P.underlying t with
 | some (.map k e)=>match P.underlying k,(P.info? e).bind (·.zero)with
  |some .string,some z=>if okZ z then some ⟨k,e,z.cells.toList⟩else none
  |_,_=>none
 |_=>none
theorem uD{P:Program}{t:TypeId}{m:MpI}(h:yV P t=some m):P.underlying t=some (.map m.key m.val)/\P.underlying m.key=some .string/\∃i z,P.info? m.val=some i/\i.zero=some z/\okZ z=true/\m.zero=z.cells.toList:=by
 unfold yV at h;split at h
 .rename_i k e h1;split at h
  .rename_i z h2 d;split at h
   .rename_i h4;cases h;obtain⟨i,j,v⟩:=Option.bind_eq_some_iff.1 d;exact⟨h1,h2,i,z,j,v,h4,rfl⟩
   .cases h
  .cases h
 .cases h
def zo:Td V->AV
 |[v]=>.one v
 |vs=>.agg vs
theorem uZ{c:Value}(h:c.cells.size≠1):c= .agg c.cells:=by cases c<;>first|rfl|exact absurd rfl h
theorem BF{ι:Td Inf}{I:Nat->Prop}{w:World}{c:Value}{vs:Td V}{f:Nat->Value}(y:vs.length=1->c=f 0)(d:c.cells.size=vs.length)(t:∀j,j<vs.length->c.cells[j]? =some (f j))(h:∀(j:Nat)(A:j<vs.length),VR I w ι vs[j] (f j)):AR ι I w (zo vs) c:=by
 match vs,y,d,t,h with
 |[v],y,d,t,h=>rw[y rfl];exact .one (h 0 A1)
 | [],y,d,t,h=>
  rw[uZ (c:=c) (by simp at d;simp[d])];exact .agg d t h
 | a::b::l,y,d,t,h=>
  rw[uZ (c:=c) (by simp at d;simp[d])];exact .agg d t h
section
variable {E : Cx} {L : Env} {h : au} {ι : Td Inf} {I : Nat → Prop} {a : Act} {w : World}
theorem Rel.newOb(r:Rel E L h ι I a w)(x:Obj)(o:Ob)(inf:Inf)(j:inf.block=w.heap.size)(A:OR (ι++[inf]) I (w.alloc x) inf o):Rel E L (h++[some o]) (ι++[inf]) I a (w.alloc x):=by
 have hk:=r.ry x;have B:=bj.app ι [inf];have blk:∀(id:Nat)(o:Ob)(inf:Inf),h[id]? =some (some o)->ι[id]? =some inf->inf.block<w.heap.size:=λid o inf x y=>by
  have:=r.heap.obj id o inf x y;cases o with
  |row s es=>exact SH
  |map kvs=>obtain⟨en,P,h1,_⟩:=this;exact SP
 have d:∀(i:Nat)(q:Ob)(f:Inf),(h++[some o])[i]? =some (some q)->(ι++[inf])[i]? =some f->
   (h[i]?=some (some q)/\ι[i]? =some f/\i<h.length)\/(i=h.length/\q=o/\f=inf):=λi q f x y=>by
  rcases iZ x with⟨lt,C⟩|⟨rfl,C⟩
  .rcases iZ y with⟨_,D⟩|⟨e,_⟩
   .grind
   .exact T4
  .rcases iZ y with⟨lt,_⟩|⟨_,D⟩
   .exact T4
   .grind
 exact
 { bc    := fun t v J=>let⟨c,x,y⟩:=r.bc t v J;⟨c,x,y.aH B hk⟩
   heap := by
     refine⟨QK,λid q f x y=> ?_,λid q f x y=> ?_,λid id' q F f G x C y D e=> ?_,r.heap.sub⟩
     · rcases d id q f x y with⟨x,y,_⟩|⟨rfl,rfl,rfl⟩
       · exact(r.heap.obj id q f x y).aH B hk (heap_alloc_old w _ (blk id q f x y))
       · exact A
     · rcases d id q f x y with⟨x,y,_⟩|⟨rfl,rfl,rfl⟩
       · exact r.heap.off id q f x y
       · intro H
         rw[j]at H;have:=r.imm _ H;omega
     · rcases d id q f x y with⟨K,M,l1⟩|⟨e1,e2,e3⟩
       · rcases d id' F G C D with⟨N,O,_⟩|⟨Q,R,S⟩
         · exact r.heap.inj id id' q F f G K N M O e
         · grind
       · grind
   imm:=λb j=>by have:=r.imm b j;simp;omega
   cw:=r.cw
   pre:=r.pre.trans B
   os:=r.os
   tape:=r.tape
   output:=r.output
   grown:=by have:=r.grown;simp;omega
   frame:=λb x y=>QT
   cA:=λid q f x y=>by
     rcases d id q f x y with⟨x,y,_⟩|⟨rfl,rfl,rfl⟩
     · exact r.cA id q f x y
     · rw[j];exact .inr r.grown
   defers:=r.defers
   size:=r.size}
theorem Rel.setOb(r:Rel E L h ι I a w){id:Nat}{o o':Ob}{inf:Inf}{w':World}(ho:h[id]? =some (some o))(A:ι[id]? =some inf)
  (d:∀b,b≠inf.block->w'.heap[b]?=w.heap[b]?) (J:w'.os=w.os) (B:w'.tape=w.tape) (C:w'.output=w.output) (D:w'.heap.size=w.heap.size) (Q:OR ι I w' inf o'):Rel E L (h.set id (some o')) ι I a w':=by
 have F:=r.heap.off id _ inf ho A;have hk:cu I I w w':=⟨λ_ h=>h,λb K=>by rw[d b (λe=>F (e▸K))]⟩;exact
 { bc    := fun t v R=>let⟨c,x,y⟩:=r.bc t v R;⟨c,x,y.aH (bj.refl _) hk⟩
   heap := by
     refine⟨QK,λi o f x y=> ?_,λi o f x y=> ?_,λi S o o' f M x P y N e=> ?_,r.heap.sub⟩
     · rcases cD x with⟨rfl,x,_⟩|⟨j,x⟩
       · grind
       · exact(r.heap.obj i o f x y).aH (bj.refl _) hk (d _ λe=>j (r.heap.inj i id o _ f inf x ho y A e))
     · rcases cD x with⟨rfl,x,_⟩|⟨j,x⟩
       · grind
       · exact r.heap.off i o f x y
     · rcases cD x with⟨e1,O,_⟩|⟨j,O⟩
       · rcases cD P with⟨e2,G,_⟩|⟨H,G⟩
         · rw[e1,e2]
         · subst e1;exact r.heap.inj _ _ _ _ f M ho G y N e
       · rcases cD P with⟨e2,G,_⟩|⟨H,G⟩
         · subst e2;exact r.heap.inj _ _ _ _ f M O ho y N e
         · exact r.heap.inj _ _ _ _ f M O G y N e
   imm:=λb K=>by rw[D];exact r.imm b K
   cw:=r.cw
   pre:=r.pre
   os:=J.trans r.os
   tape:=B.trans r.tape
   output:=C.trans r.output
   grown:=by rw[D];exact r.grown
   frame:=λb x y=>by
     rw[d b (λe=> ?_)]
     · exact r.frame b x y
     · rcases r.cA id _ inf ho A with hp|hp
       · grind
       · omega
   cA:=λi o f x y=>by
     rcases cD x with⟨rfl,x,_⟩|⟨j,x⟩
     · exact r.cA i _ f ho y
     · exact r.cA i o f x y
   defers:=r.defers
   size:=r.size}
theorem Rel.mapAt(r:Rel E L h ι I a w){id:Nat}{kvs:Td (Z×Td V)}(ho:h[id]? =some (some (.map kvs))):∃inf,ι[id]? =some inf/\OR ι I w inf (.map kvs):=by
 have d:id<ι.length:=by rw[<-r.heap.len];exact(gI.1 ho).1
 have hi:=O0 d;exact⟨_,hi,r.heap.obj id _ _ ho hi⟩
theorem VR.mapId{id:Nat}{c:Value}(h:VR I w ι (.mp id) c):∃inf,ι[id]? =some inf/\c= .map (some inf.block):=by cases h with|mp hi=>exact⟨_,hi,rfl⟩
end
theorem Lo{en:Array MapEntry}{kvs:Td (Z×Td V)}(h:∀e∈en,∃s,e.key= .string s/\(iT kvs s).isSome):∀x∈en.toList,MapKept.IsKey .string x.key:=λx d=>by
 obtain⟨s,e,_⟩:=h x (Array.mem_toList_iff.1 d);rw[e];trivial
section
variable {P : Program} {E : Cx} {K : Env → au → Prop} {L : Env} {h : au} {d : Nat} {ty : TypeId} {pos : String} {af : Array Edge} {gd : Y (Nat × Bool)}
section
variable {t:TypeId}{m:MpI}{kvs:Td (Z×Td V)}{us vs:Td V}{x y:Operand}{id:Nat}{s:Z}
theorem zH(j:d<E.n)(hk:K ((d,.one (.mp h.length))::L) (h++[some (.map [])])):ar P ⟨some d,.makeMap t none,ty,pos,af,gd⟩ E K L h:=
 jM rfl j (λLf ι I a w rF r=>by
  refine⟨.map (some w.heap.size),w.alloc (.map #[] 0),_,I,?_,rF.newOb _ (.map []) ⟨w.heap.size,0,0,0⟩ rfl ⟨#[],0,heap_alloc_new w _,O3 _,λs vs hs=>by simp[iT]at hs,λe he=>by simp at he,List.Pairwise.nil⟩,?_⟩
  .simp[execOp,Instr.makeMap]
  .refine .one (.mp (inf:=⟨w.heap.size,0,0,0⟩) ?_);rw[r.heap.len];simp) hk
theorem sc(hm:yV P t=some m){ι:Td Inf}{I:Nat->Prop}{w:World}{inf:Inf}(E:OR ι I w inf (.map kvs))(J:VRs ι I w us m.zero)(s:Z)(ok:Bool):
  ∃c,AR ι I w (zo (match iT kvs s with|some vs=>vs|none=>us)) c/\(Instr.lookup t (.map (some inf.block)) (.string s) ok).run P w= .ok (if ok then .tuple #[c,.bool (iT kvs s).isSome]else c) w:=by
 obtain⟨m1,F,i,z,O,Q,R,S⟩:=uD hm;obtain⟨en,clock,h1,h2,K,h4,L⟩:=E;have B:∀e,(Instr.checkKey e 10000 m.key (.string s)).run P w= .ok () w:=λe=>MapKept.run_checkKey F (k:=.string s) trivial e 9999;rcases MapKept.findNow_spec (d:=.string) (k:=.string s) trivial en.toList 0 (Lo h4)with⟨k1,v⟩|⟨j,e,k1,v,G⟩
 .have y:iT kvs s=none:=by
   cases D:iT kvs s with
   |none=>rfl
   | some vs=>
    obtain⟨e,he,hk,_⟩:=K s vs D;exact absurd hk (v e (Array.mem_toList_iff.2 he))
  rw[y];refine⟨z,?_,?_⟩
  .have hl:z.cells.size=us.length:=by rw[<-J.1,S];simp
   show AR ι I w (zo us) z;refine BF (f:=λj=>z.cells.getD j undef) (λe1=> ?_) hl (λj M=> ?_) (λj M=> ?_)
   .have hs:z.cells.size=1:=by rw[hl,e1]
    cases z<;>first|rfl|(simp[okZ,Value.cells]at R hs;omega)
   .simp_all
   .obtain⟨u,u1,u2⟩:=J.2 j M;have h:j<z.cells.size:=A0
    have e2:u=z.cells.getD j undef:=by simp_all
    rw[<-e2];exact u2
  .simp[Instr.lookup,run_underlying m1,MapKept.run_getObj_map h1,B,MapKept.run_findKey F k1,zeroValue,typeInfo,O,Q]
 .have C:e∈en:=Array.mem_toList_iff.1 (mG v);obtain⟨s',e1,e2⟩:=h4 e C;rw[G]at e1;cases e1;cases D:iT kvs s with
  |none=>rw[D]at e2;cases e2
  | some vs=>
   obtain⟨N,he,hk,f,T,U,W,X⟩:=K s vs D;have:N=e:=by
    obtain⟨H,h⟩:=List.mem_iff_getElem?.1 (Array.mem_toList_iff.2 he);rcases Nat.lt_trichotomy j H with A|heq|A
    .have:=List.pairwise_iff_getElem.1 L j H (gI.1 v).1 (gI.1 h).1 A s;rw[(gI.1 v).2,(gI.1 h).2]at this;exact absurd hk (this G)
    .grind
    .have:=List.pairwise_iff_getElem.1 L H j (gI.1 h).1 (gI.1 v).1 A s;rw[(gI.1 v).2,(gI.1 h).2]at this;exact absurd G (this hk)
   subst this;refine⟨N.val,BF T U W X,?_⟩;simp[Instr.lookup,run_underlying m1,MapKept.run_getObj_map h1,B,MapKept.run_findKey F k1]
theorem Dv(hm:yV P t=some m)(v:ev L x=some (.one (.mp id)))(A:ev L y=some (.one (.lit (.string s))))(ho:h[id]? =some (some (.map kvs)))(B:∀ι I w,VRs ι I w us m.zero)(C:d<E.n)
  (hk:K ((d,zo (match iT kvs s with|some vs=>vs|none=>us))::L) h):ar P ⟨some d,.lookup t x y false,ty,pos,af,gd⟩ E K L h:=
 bO rfl C (λι I a w r=>by
  obtain⟨inf,D,F⟩:=r.mapAt ho;have G:=(r.ev v).bi;obtain⟨inf',j,H⟩:=VR.mapId G;rw[D]at j;cases j;obtain⟨e2,_⟩:=(r.ev A).lit;obtain⟨c,c1,c2⟩:=sc hm F (B ι I w) s false;exact⟨c,by simp[execOp,H,e2,c2],c1⟩) hk
theorem w5(hm:yV P t=some m)(B:ev L x=some (.one (.mp id)))(C:ev L y=some (.one (.lit (.string s))))(ho:h[id]? =some (some (.map kvs)))(D:∀ι I w,VRs ι I w us m.zero)(F:d<E.n)
  (hk:K ((d,.tup [zo (match iT kvs s with|some vs=>vs|none=>us),.one (.lit (.bool (iT kvs s).isSome))])::L) h):ar P ⟨some d,.lookup t x y true,ty,pos,af,gd⟩ E K L h:=
 bO rfl F (λι I a w r=>by
  obtain⟨inf,G,H⟩:=r.mapAt ho;have J:=(r.ev B).bi;obtain⟨inf',v,M⟩:=VR.mapId J;rw[G]at v;cases v;obtain⟨e2,_⟩:=(r.ev C).lit;obtain⟨c,c1,c2⟩:=sc hm H (D ι I w) s true;refine⟨_,by simp only[execOp,M,e2,Sem.run_bind,c2,Result.andThen_ok,Sem.run_pure];rfl,.tup (f:=λj=>if j=0 then c else .bool (iT kvs s).isSome) rfl (λj A=> ?_) (λj A=> ?_)⟩
  .grind
  .match j,A with
   |0,_=>exact c1
   |1,_=>exact .one (.lit trivial)) hk
theorem vx{z:Operand}(hm:yV P t=some m)(hx:ev L x=some (.one (.mp id)))(hy:ev L y=some (.one (.lit (.string s))))(hv:ev L z=some (zo vs))(hus:vs.length=us.length)(N:∀(j:Nat)(h1:j<vs.length)(h2:j<us.length) I w ι u,VR I w ι vs[j] u->VR I w ι us[j] u)(ho:h[id]? =some (some (.map kvs)))
  (hk:K L (h.set id (some (.map ((s,us)::kvs))))):ar P ⟨none,.mapUpdate t x y z,ty,pos,af,gd⟩ E K L h:=by
 refine⟨λLf ι I a w rF=> ?_⟩;have r:=rF.low;obtain⟨m1,m2,i,z',m3,m4,m5,m6⟩:=uD hm;obtain⟨inf,i1,i2⟩:=r.mapAt ho;have hv0:=(r.ev hx).bi;obtain⟨inf',j1,j2⟩:=VR.mapId hv0;rw[i1]at j1;cases j1;obtain⟨e2,_⟩:=(r.ev hy).lit;obtain⟨en,clock,h1,h2,h3,h4,h5⟩:=i2;have O:∀e,(Instr.checkKey e 10000 m.key (.string s)).run P w= .ok () w:=λe=>MapKept.run_checkKey m2 (k:=.string s) trivial e 9999
 -- the new value
 have Q:∃f:Nat->Value,(vs.length=1->a.eval z=f 0)/\(a.eval z).cells.size=vs.length/\(∀j,j<vs.length->(a.eval z).cells[j]? =some (f j))/\∀(j:Nat)(D:j<vs.length),VR I w ι vs[j] (f j):=by
  have J:=r.ev hv
  have agg:∀{us:Td V}{c:Value},us.length≠1->AR ι I w (.agg us) c->∃f:Nat->Value,(us.length=1->c=f 0)/\c.cells.size=us.length/\(∀j,j<us.length->c.cells[j]? =some (f j))/\∀(j:Nat)(D:j<us.length),VR I w ι us[j] (f j):=λh1 h2=>by
   cases h2 with|agg hl hcs hr=>exact⟨_,λe=>absurd e h1,hl,hcs,hr⟩
  clear hus N hv
  match vs,J with
  |[],J=>exact agg A1 J
  | [v], J=>
   have R:=J.bi;refine⟨λ_=>a.eval z,λ_=>rfl,by rw[R.plain.2];rfl,λj D=> ?_,λj D=> ?_⟩
   .have:j=0:=by simp at D;omega
    subst this;rw[R.plain.2];rfl
   .grind
  |_::_::_,J=>exact agg A1 J
 obtain⟨f,f0,f1,f2,f3⟩:=Q
 replace f0:us.length=1->a.eval z=f 0:=λe=>f0 A0
 replace f1:(a.eval z).cells.size=us.length:=A0
 replace f2:∀j,j<us.length->(a.eval z).cells[j]? =some (f j):=λj D=>f2 j A0
 replace f3:∀(j:Nat)(D:j<us.length),VR I w ι us[j] (f j):=λj D=>N j A0 D I w ι _ (f3 j A0)
 have hblt:inf.block<w.heap.size:=(Array.getElem?_eq_some_iff.1 h1).1
 have key:∃B A,(Instr.mapUpdate t (.map (some inf.block)) (.string s) (a.eval z)).run P w= .ok () {w with heap:=w.heap.setIfInBounds inf.block (.map B A)}/\B.size<=en.size+1/\
   (∃e∈B,e.key= .string s/\e.val=a.eval z)/\(∀e∈en,e.key≠.string s->e∈B)/\(∀e∈B,e.key= .string s\/e∈en)/\B.toList.Pairwise (λx y=>∀s,x.key= .string s->y.key≠.string s):=by
  rcases MapKept.findNow_spec (d:=.string) (k:=.string s) trivial en.toList 0 (Lo h4)with⟨k1,S⟩|⟨j,e,k1,S,k3⟩
  .refine⟨en.push {key:=.string s,val:=a.eval z,born:=clock},clock+1,?_,A1,⟨_,Array.mem_push_self,rfl,rfl⟩,λe he _=>Array.mem_push_of_mem _ he,λe he=> ?_,?_⟩
   .simp[Instr.mapUpdate,run_underlying m1,MapKept.run_getObj_map h1,O,MapKept.run_findKey m2 k1,MapKept.run_setObj_map _ h1]
   .grind
   .grind
  .have D:j<en.size:=by simpa using (gI.1 S).1
   have hej:en[j]? =some e:=by simpa using S
   have C:(en.modify j λe=>{e with key:=.string s,val:=a.eval z}).toList=en.toList.set j {e with key:=.string s,val:=a.eval z}:=by
    apply List.ext_getElem?;intro q;rw[Ql,Qm,List.getElem?_set];by_cases M:j=q
    .grind
    .simp[M]
   refine⟨en.modify j λe=>{e with key:=.string s,val:=a.eval z},clock,?_,A1,⟨{e with key:=.string s,val:=a.eval z},?_,rfl,rfl⟩,λe' he hne=> ?_,λe' he=> ?_,?_⟩
   .have hst:(Instr.keyThatStays (.string s) (.string s)).run P w= .ok (.string s) w:=by
     have:Instr.sameBits 10000 (.string s) (.string s)=true:=by simp[Instr.sameBits,MapKept.bytes_beq]
     simp[Instr.keyThatStays,this]
    simp only[Instr.mapUpdate,Sem.run_bind,run_underlying m1,MapKept.run_getObj_map h1,O,MapKept.run_findKey m2 k1,Result.andThen_ok,Pp,hej,Pg,PN,k3,hst,MapKept.run_setObj_map _ h1]
   .rw[<-Array.mem_toList_iff,C];exact List.mem_set (by rw[PL];exact D) _
   .rw[<-Array.mem_toList_iff,C];obtain⟨q,M⟩:=List.mem_iff_getElem?.1 (Array.mem_toList_iff.2 he);refine List.mem_iff_getElem?.2 ⟨q,?_⟩;rw[sN (λe1=> ?_)]
    .exact M
    .grind
   .rw[<-Array.mem_toList_iff,C]at he;rcases PH he with h|h
    .grind
    .grind
   .rw[C];have G:∀q:Nat,((en.toList.set j {e with key:=.string s,val:=a.eval z})[q]?).map (·.key)=(en.toList[q]?).map (·.key):=λq=>G1
    rw[List.pairwise_iff_getElem];intro p q hp M hlt s' F;have T:p<en.toList.length:=by simpa using hp
    have U:q<en.toList.length:=by simpa using M
    have a1:=G p;have a2:=G q;rw[O0 hp,O0 T]at a1;rw[O0 M,O0 U]at a2;simp only[Pg,OW]at a1 a2;rw[a2];exact List.pairwise_iff_getElem.1 h5 p q T U hlt s' (a1▸F)
 obtain⟨B,A,W,g1,⟨en0,g2,g3,g4⟩,g5,g6,g7⟩:=key
 have hex:(execOp a.eval ⟨none,.mapUpdate t x y z,ty,pos,af,gd⟩).run P w= .ok .skip {w with heap:=w.heap.setIfInBounds inf.block (.map B A)}:=by
  simp[execOp,j2,e2,W]
 have H:=MapKept.heap_set (o':=.map B A) h1;unfold Oper.wp;rw[hex,Oper.upon_skip];have X:=rF.heap.off id _ inf ho i1;have Y:cu I I w {w with heap:=w.heap.setIfInBounds inf.block (.map B A)}:=⟨λ_ h=>h,λb hb=>by rw[H.2 b (λe=>X (e▸hb))]⟩;refine⟨L,_,ι,I,hk,rF.setOb ho i1 (λb hb=>H.2 b hb) rfl rfl rfl A1 ⟨B,A,H.1,A4,λs' vs' F=> ?_,λe he=> ?_,g7⟩⟩
 .simp only[iT]at F;split at F
  .rename_i e1;cases F;subst e1;refine⟨en0,g2,g3,f,?_,?_,?_,λj D=>(f3 j D).aH (bj.refl _) Y⟩<;>rw[g4]<;>assumption
  .rename_i e1;obtain⟨e,he,hk2,f',l0,l1,l2,l3⟩:=h3 s' vs' F;exact⟨e,g5 e he (λe2=>e1 (by rw[hk2]at e2;cases e2;rfl)),hk2,f',l0,l1,l2,λj D=>(l3 j D).aH (bj.refl _) Y⟩
 .rcases g6 e he with h|h
  .exact⟨s,h,by simp[iT]⟩
  .obtain⟨s',k1,S⟩:=h4 e h;refine⟨s',k1,?_⟩;simp only[iT];split
   .rfl
   .exact S
theorem dD{f:FuncId}{xs:Td Operand}{avs:Td AV}(v:evs L xs=some avs)(y:avs=vs.map AV.one)(A:d<E.n)(hk:K ((d,.one (.clo (.func f) vs))::L) h):ar P ⟨some d,.makeFunc (.func f) #[] xs.toArray,ty,pos,af,gd⟩ E K L h:=
 bO rfl A (λι I a w r=>by
  have hA:=r.evs v;subst y;refine⟨.func (.func f) #[] (xs.map a.eval).toArray,by simp[execOp,Instr.makeFunc],.one (.clo (f:=λj=>(xs.map a.eval).toArray.getD j undef) ?_ (λj t=> ?_) (λj t=> ?_))⟩
  .have:=hA.1;simpa using this
  .have:=hA.1;simp at this;simp[(A0:j<xs.length)]
  .obtain⟨c,c1,c2⟩:=hA.2 j QD;rw[P5]at c2;have:(xs.map a.eval).toArray.getD j undef=c:=by rw[Pa,c1];rfl
   rw[this];exact c2.bi) hk
end
end
end Go.Proofs.YtkegnipofloejaaGreatDoor.Abs
namespace Go.Proofs.YtkegnipofloejaaGreatDoor.Den
open Go.RowKit
section
inductive AT where
 |one (c:C)
 |agg (cs:List C)
 |tup (xs:List AT)
instance : Inhabited AT := ⟨.tup []⟩
inductive Ob where
 |row (T:Ty) (n:Nat) (xs:List (I T))
 |box (cs:List C)
 |map (T:Ty) (kvs:List (Z×I T))
 |aQ
 |rows (T:Ty) (xss:List (List (I T))) (ho:Y Nat)
@[simp] def Ob.dead : Ob → Bool
 | .aQ=>true
 | .rows _ _ _=>true
 |_=>false
def Ob.fA:Ob->Bool
 | .rows _ _ _=>true
 |_=>false
structure St where
 L:List (Nat×AT)
 H:List Ob
structure TI where
 size:Nat
 agg:Bool
 zero:List C
 fields:List (Nat×Nat×Nat)
 elem:Y Ty
 str:Bool
 i64:Bool
 bool:Bool
 kd:Y IntKind
 map:Y Ty
abbrev Kt(R:Type):=Exit->St->Y R
structure Orc where
 mode:Nat->Nat
 arg:Nat->Nat->Nat
 call:(R:Type)->Nat->List AT->List Ob->(AT->List Ob->Y R)->Y R
def sD(v:Value):Y C:=bif Abs.da v then (match v with
 | .bool b=>some (.b b)
 | .int .i64 n=>some (.i n)
 | .int k n=>some (.k k n)
 | .string s=>some (.s s)
 | .slice none 0 0=>some .zs
 | .pointer none=>some .z
 | .map none=>some .z
 | .nilFunc=>some .z
 |_=>none)else none
def qT:Td Value->Y (Td C)
 |[]=>some []
 | v::vs=>match sD v,qT vs with
  |some c,some cs=>some (c::cs)
  |_,_=>none
def Ha:Value->Y AT
 | .agg cs=>(qT cs.toList).map .agg
 |v=>(sD v).map .one
def ev(L:Td (Nat×AT)):Operand->Y AT
 | .tmp t=>L.lookup t
 | .const v=>Ha v
 | .func f=>some (.one (.f f []))
 |_=>none
def evs(L:Td (Nat×AT)):Td Operand->Y (Td AT)
 |[]=>some []
 | x::xs=>match ev L x,evs L xs with
  |some v,some vs=>some (v::vs)
  |_,_=>none
section
variable {α:Type}
def ix(xs:Td α)(i:Int):Y α:=bif decide (0<=i)then xs[i.toNat]? else none
def lim(xs:Td α):Y (Td α):=bif Nat.ble xs.length 4294967296 then some xs else none
def mk(x:α)(n:Int):Y (Td α):=bif decide (0<=n)&&decide (n<=4294967296)then some (List.replicate n.toNat x)else none
def sub(xs:Td α)(lo hi:Int):Y (Td α):=bif decide (0<=lo)&&decide (lo<=hi)&&decide (hi<=(xs.length:Int))then some ((xs.take hi.toNat).drop lo.toNat)else none
def sIx(s:Z)(i:Int):Y Int:=bif decide (0<=i)then (match s[i.toNat]? with|some b=>some (b.toNat:Int)|none=>none)else none
def Ac(s:Z)(lo hi:Int):Y Z:=bif decide (0<=lo)&&decide (lo<=hi)&&decide (hi<=(s.size:Int))then some (s.extract lo.toNat hi.toNat)else none
def dL(a b:Z):Y Z:=bif decide (a.size+b.size<=1099511627776)then some (a++b)else none
def sOf(xs:Td Int):Z:=xs.foldl (λr n=>r.push (UInt8.ofNat n.toNat)) ByteArray.empty
def ofS(s:Z):Td Int:=s.data.toList.map λb=>(b.toNat:Int)
def sEq(a b:Z):Bool:=decide (a=b)
def C5{α:Type}:Td (Z×α)->Z->Y α
 |[],_=>none
 |(a,b)::rest,s=>if a=s then some b else C5 rest s
def xG(kvs:Td (Z×α))(s:Z)(z:α):α:=match C5 kvs s with|some x=>x|none=>z
def Jn(kvs:Td (Z×α))(s:Z):Bool:=(C5 kvs s).isSome
def pX(n a b:Int):Y Unit:=bif decide (a=n)&&decide (b=n)then some ()else none
def kQ(a b:Int):Int:=if b<a then b else a
def qS(a b:Int):Int:=if a<b then b else a
def N2(xs ys:Td α):Y (Td α):=match ys with
 |[]=>none
 |_::_=>lim (xs++ys)
def El:Td C->AT
 |[c]=>.one c
 |cs=>.agg cs
def Ja:IntKind->Int->C
 | .i64,a=>.i (IntKind.i64.wrap a)
 |k,a=>.k k (k.wrap a)
def ld(agg:Bool)(size:Nat)(cs:Td C):Y AT:=
 if agg then (if Nat.ble size cs.length then some (.agg (cs.take size))else none)else cs.head?.map .one
def cells:AT->Y (Td C)
 | .one c=>some [c]
 | .agg cs=>some cs
 |_=>none
def bB(cs:Td C)(off:Nat)(vs:Td C):Td C:=cs.take off++(vs++cs.drop (off+vs.length))
def C.fz(id:Nat)(T:Ty)(xs:Td (I T)):C->C
 | .o j=>if Nat.beq j id then .l T xs else .o j
 |c=>c
def AT.fz(id:Nat)(T:Ty)(xs:Td (I T)):AT->AT
 | .one c=>.one (c.fz id T xs)
 | .agg cs=>.agg (cs.map (C.fz id T xs))
 | .tup ys=>.tup ys
def Ob.fz(id:Nat)(T:Ty)(xs:Td (I T)):Ob->Ob
 | .box cs=>.box (cs.map (C.fz id T xs))
 |o=>o
def St.fz(id:Nat)(T:Ty)(xs:Td (I T))(st:St):St:=⟨st.L.map λp=>(p.1,p.2.fz id T xs),(st.H.set id .aQ).map (Ob.fz id T xs)⟩
def cR:Td Nat->St->St
 |[],st=>st
 | id::ids,st=>match st.H[id]? with
  |some (.row T _ xs)=>cR ids (st.fz id T xs)
  |some (.rows T xss none)=>cR ids (st.fz id (.sl T) xss)
  |_=>cR ids st
def pZ(H:Td Ob):C->Y C
 | .lc T xs=>some (.l T xs)
 | .nil T=>some (.l T [])
 | .o id=>match H[id]? with
  |some (.row T _ xs)=>some (.l T xs)
  |_=>none
 | .i x=>some (.i x)
 | .k kd x=>some (.k kd x)
 | .b x=>some (.b x)
 | .s x=>some (.s x)
 | .l T xs=>some (.l T xs)
 | .zs=>some .zs
 |_=>none
def gb(H:Td Ob):Td C->Y (Td C)
 |[]=>some []
 | c::cs=>match pZ H c,gb H cs with
  |some d,some h=>some (d::h)
  |_,_=>none
def jz(H:Td Ob):AT->Y AT
 | .one c=>(pZ H c).map .one
 | .agg cs=>(gb H cs).map .agg
 | .tup _=>none
def eH(H:Td Ob):Td AT->Y (Td AT)
 |[]=>some []
 | c::cs=>match jz H c,eH H cs with
  |some d,some h=>some (d::h)
  |_,_=>none
def fL:C->Bool
 | .i _| .k _ _| .b _| .s _| .l _ _=>true
 |_=>false
def AT.flat:AT->Bool
 | .one c=>fL c
 | .agg cs=>cs.all fL
 | .tup xs=>flatA xs
where flatA:Td AT->Bool
 |[]=>true
 |x::xs=>x.flat&&flatA xs
def iX:C->Bool
 | .i _| .k _ _| .b _| .s _=>true
 |_=>false
def AT.iX:AT->Bool
 | .one c=>Den.iX c
 | .agg cs=>cs.all Den.iX
 | .tup xs=>scals xs
where scals:Td AT->Bool
 |[]=>true
 |x::xs=>x.iX&&scals xs
end
variable {R : Type}
def Km(op:BinOp)(a b:C):Y C:=match a,b with
 | .i x,.i y=>match op with
  | .add=>some (.i (IntKind.i64.wrap (x+y)))
  | .sub=>some (.i (IntKind.i64.wrap (x-y)))
  | .mul=>some (.i (IntKind.i64.wrap (x*y)))
  | .lss=>some (.b (decide (x<y)))
  | .leq=>some (.b (decide (x<=y)))
  | .gtr=>some (.b (decide (y<x)))
  | .geq=>some (.b (decide (y<=x)))
  | .eql=>some (.b (decide (x=y)))
  | .neq=>some (.b (!decide (x=y)))
  | .and=>some (.i (Abs.bz .and .i64 x y))
  | .or=>some (.i (Abs.bz .or .i64 x y))
  | .xor=>some (.i (Abs.bz .xor .i64 x y))
  | .andNot=>some (.i (Abs.bz .andNot .i64 x y))
  |_=>none
 | .b x,.b y=>match op with
  | .eql=>some (.b (x==y))
  | .neq=>some (.b (!(x==y)))
  |_=>none
 | .s x,.s y=>match op with
  | .eql=>some (.b (sEq x y))
  | .neq=>some (.b (!sEq x y))
  | .lss=>some (.b (Abs.fk x y))
  | .leq=>some (.b (Abs.fk x y||sEq x y))
  | .gtr=>some (.b (!(Abs.fk x y||sEq x y)))
  | .geq=>some (.b (!Abs.fk x y))
  |_=>none
 | .k kd x,.k d y=>match decide (kd=d)with
  | true=>match op with
   | .add=>some (.k kd (Abs.sp .add kd x y))
   | .sub=>some (.k kd (Abs.sp .sub kd x y))
   | .mul=>some (.k kd (Abs.sp .mul kd x y))
   | .lss=>some (.b (decide (x<y)))
   | .leq=>some (.b (decide (x<=y)))
   | .gtr=>some (.b (decide (y<x)))
   | .geq=>some (.b (decide (y<=x)))
   | .eql=>some (.b (decide (x=y)))
   | .neq=>some (.b (!decide (x=y)))
   | .and=>some (.k kd (Abs.bz .and kd x y))
   | .or=>some (.k kd (Abs.bz .or kd x y))
   | .xor=>some (.k kd (Abs.bz .xor kd x y))
   | .andNot=>some (.k kd (Abs.bz .andNot kd x y))
   |_=>none
  |false=>none
 |_,_=>none
inductive Pl(X:Type) where
 |no
 |ret (x:X)
 |opt {α:Type} (m:Y α) (f:α->Y X)
def Pl.run{X:Type}(p:Pl X)(K:X->Y R):Y R:=match p with
 | .no=>none
 | .ret x=>K x
 | .opt m f=>m.bind λa=>match f a with
  |some x=>K x
  |none=>none
def KC(op:BinOp)(a b:C)(K:C->Y R):Y R:=match op,a,b with
 | .quo,.i x,.i y=>bif decide (0<=x)&&decide (0<y)then K (.i (x / y))else none
 | .rem,.i x,.i y=>bif decide (0<=x)&&decide (0<y)then K (.i (x%y))else none
 | .shl,.i x,.i y=>bif decide (0<=y)then K (.i (Abs.bz .shl .i64 x y))else none
 | .shr,.i x,.i y=>bif decide (0<=y)then K (.i (Abs.bz .shr .i64 x y))else none
 | .shl,.i x,.k _ y=>bif decide (0<=y)then K (.i (Abs.bz .shl .i64 x y))else none
 | .shr,.i x,.k _ y=>bif decide (0<=y)then K (.i (Abs.bz .shr .i64 x y))else none
 | .add,.s x,.s y=>bif decide (x.size+y.size<=1099511627776)then K (.s (x++y))else none
 | .shr,.k .u64 x,.k _ y=>bif decide (0<=y)then K (.k .u64 (Abs.bz .shr .u64 x y))else none
 | .shr,.k .u64 x,.i y=>bif decide (0<=y)then K (.k .u64 (Abs.bz .shr .u64 x y))else none
 | _,_,_=>match Km op a b with
  |some c=>K c
  |none=>none
def Kw(op:BinOp)(a b:C):Pl AT:=match op,a,b with
 | .quo,.i x,.i y=>.opt (bif decide (0<=x)&&decide (0<y)then some (x / y)else none) λq=>some (.one (.i q))
 | .rem,.i x,.i y=>.opt (bif decide (0<=x)&&decide (0<y)then some (x%y)else none) λq=>some (.one (.i q))
 | .shl,.i x,.i y=>.opt (bif decide (0<=y)then some (Abs.bz .shl .i64 x y)else none) λq=>some (.one (.i q))
 | .shr,.i x,.i y=>.opt (bif decide (0<=y)then some (Abs.bz .shr .i64 x y)else none) λq=>some (.one (.i q))
 | .shl,.i x,.k _ y=>.opt (bif decide (0<=y)then some (Abs.bz .shl .i64 x y)else none) λq=>some (.one (.i q))
 | .shr,.i x,.k _ y=>.opt (bif decide (0<=y)then some (Abs.bz .shr .i64 x y)else none) λq=>some (.one (.i q))
 | .add,.s x,.s y=>.opt (dL x y) λq=>some (.one (.s q))
 | .shr,.k .u64 x,.k _ y=>.opt (bif decide (0<=y)then some (Abs.bz .shr .u64 x y)else none) λq=>some (.one (.k .u64 q))
 | .shr,.k .u64 x,.i y=>.opt (bif decide (0<=y)then some (Abs.bz .shr .u64 x y)else none) λq=>some (.one (.k .u64 q))
 | _,_,_=>match Km op a b with
  |some c=>.ret (.one c)
  |none=>.no
def zW(H:Td Ob):C->Y Int
 | .l _ xs=>some (xs.length:Int)
 | .lc _ xs=>some (xs.length:Int)
 | .nil _=>some 0
 | .zs=>some 0
 | .o id=>match H[id]? with
  |some (.row _ _ xs)=>some (xs.length:Int)
  |some (.rows _ xss _)=>some (xss.length:Int)
  |_=>none
 |_=>none
def kV{T d:Ty}(xs:Td (I d)):Y (Td (I T)):=if h:d=T then some (h▸xs)else none
def kB(H:Td Ob)(T:Ty)(c:C):Y (Td (I T)):=match pZ H c with
 |some (.l _ xs)=>kV xs
 |_=>none
def xU(place:Nat->Y (Nat×Nat))(cs:Td C):Td (Nat×Td C)->Y (Td C)
 |[]=>some cs
 | (i,vs)::rest=>match place i with
  |some (off,size)=>if Nat.beq vs.length size&&Nat.ble (off+vs.length) cs.length then xU place (bB cs off vs) rest else none
  |none=>none
def cH(L:Td (Nat×AT)):Td (Nat×Operand)->Y (Td (Nat×Td C))
 |[]=>some []
 | (i,x)::rest=>match (ev L x).bind cells,cH L rest with
  |some vs,some d=>some ((i,vs)::d)
  |_,_=>none
def qO:Td C->Td C->Td C
 | .l T _::d,.zs::cs=>.nil T::qO d cs
 |_::d,c::cs=>c::qO d cs
 |_,cs=>cs
def gS(T:Ty)(z:I T):(len k:Nat)->Td (Nat×Td C)->Y (Td (I T))
 |0,_,[]=>some []
 |0,_,_::_=>none
 | n + 1,k,d=>match d with
  | (j, cs)::rest=>if Nat.beq j k then
    (match gb [] (qO (aC T z) cs)with
    | some h=>match jJ T h,gS T z n (k+1) rest with
     |some x,some xs=>some (x::xs)
     |_,_=>none
    |none=>none)
   else (match gS T z n (k+1) d with
    |some xs=>some (z::xs)
    |none=>none)
  | []=>match gS T z n (k+1) []with
   |some xs=>some (z::xs)
   |none=>none
def BL{T d:Ty}(xs:Td (Z×I d)):Y (Td (Z×I T)):=if h:d=T then some (h▸xs)else none
def ones:Td AT->Y (Td C)
 |[]=>some []
 | .one c::xs=>match ones xs with
  |some cs=>some (c::cs)
  |none=>none
 |_::_=>none
def wE(tb:Nat->Y TI)(op:Go.Op)(L:Td (Nat×AT))(H:Td Ob):Pl AT:=match op with
 | .index t x y=>match (tb t).map (·.str),ev L x,ev L y with
  |some true,some (.one (.s s)),some (.one (.i i))=>.opt (sIx s i) λb=>some (.one (.k .u8 b))
  |_,_,_=>.no
 | .slice t x lo hi none=>match (tb t).map (·.str),ev L x with
  | some true,some (.one (.s s))=>match (match lo with|some y=>ev L y|none=>some (.one (.i 0))),(match hi with|some y=>ev L y|none=>some (.one (.i s.size)))with
   |some (.one (.i a)),some (.one (.i b))=>.opt (Ac s a b) λq=>some (.one (.s q))
   |_,_=>.no
  |_,_=>.no
 | .slice t x none (some hi) (some d)=>match (tb t).bind (·.elem),ev L x,ev L hi,ev L d with
  |some h,some (.one (.l T xs)),some (.one (.i a)),some (.one (.i b))=>if Nat.beq (szT h) (szT T)then .opt (pX xs.length a b) λ_=>some (.one (.lc T xs))else .no
  |some _,some (.one (.nil T)),some (.one (.i a)),some (.one (.i b))=>.opt (pX 0 a b) λ_=>some (.one (.nil T))
  |_,_,_,_=>.no
 | .convert j t x=>match tb j,(tb t).bind (·.kd),ev L x with
  |some _,some kd,some (.one (.i a))=>.ret (.one (Ja kd a))
  |some _,some kd,some (.one (.k _ a))=>.ret (.one (Ja kd a))
  | some v,none,some (.one (.l .u xs))=>match v.elem,(tb t).map (·.str)with
   |some .u,some true=>.ret (.one (.s (sOf xs)))
   |_,_=>.no
  |_,_,_=>.no
 | .unOp .neg _ x=>match ev L x with
  |some (.one (.i a))=>.ret (.one (.i (IntKind.i64.wrap (0-a))))
  |some (.one (.k kd a))=>.ret (.one (.k kd (kd.wrap (0-a))))
  |_=>.no
 | .call ⟨.builtin .min,ae,_⟩=>match ae.toList with
  | [x,y]=>match ev L x,ev L y with
   |some (.one (.i a)),some (.one (.i b))=>.ret (.one (.i (kQ a b)))
   |_,_=>.no
  |_=>.no
 | .call ⟨.builtin .max,ae,_⟩=>match ae.toList with
  | [x,y]=>match ev L x,ev L y with
   |some (.one (.i a)),some (.one (.i b))=>.ret (.one (.i (qS a b)))
   |_,_=>.no
  |_=>.no
 | .lookup t m k ok=>match (tb t).bind (·.map),ev L m,ev L k with
  | some T,some (.one (.m id)),some (.one (.s s))=>match H[id]?,jU T with
   | some (.map _ kvs),some z=>match BL (T:=T) kvs with
    | some kvs=>match ok with
     |false=>.ret (El (aC T (xG kvs s z)))
     |true=>.ret (.tup [El (aC T (xG kvs s z)),.one (.b (Jn kvs s))])
    |none=>.no
   |_,_=>.no
  |_,_,_=>.no
 | .makeFunc (.func f) first caps=>match first.toList,evs L caps.toList with
  | [],some xs=>match ones xs with
   |some cs=>.ret (.one (.f f cs))
   |none=>.no
  |_,_=>.no
 |_=>.no
def C1(tb:Nat->Y TI)(o:Oper)(L:Td (Nat×AT))(H:Td Ob):Pl AT:=
 match o.op with
 | .move x| .assign x=>match ev L x with
  | some (.one .zs)=>match (tb o.type).bind (·.elem)with
   |some T=>.ret (.one (.nil T))
   |none=>.no
  |some v=>.ret v
  |none=>.no
 | .pick c a b=>match ev L c with
  | some (.one (.b p))=>match p with
   | true=>match ev L a with
    |some A=>.ret A
    |none=>.no
   | false=>match ev L b with
    |some B=>.ret B
    |none=>.no
  |_=>.no
 | .build t parts=>match tb t,cH L parts.toList with
  | some d,some C=>match d.fields,xU (fun k=>(d.fields[k]?).map fun f=>(f.1,f.2.2)) d.zero C with
   |_::_,some cs=>.ret (.agg cs)
   |_,_=>.no
  |_,_=>.no
 | .fieldAddr t x f=>match tb t,ev L x with
  | some d,some (.one (.p id off))=>match d.fields[f]? with
   |some (fo,_)=>.ret (.one (.p id (off+fo)))
   |none=>.no
  | some d,some (.one (.q T y off))=>match d.fields[f]? with
   |some (fo,_)=>.ret (.one (.q T y (off+fo)))
   |none=>.no
  | some d,some (.one (.e id k n T y off))=>match H[id]?,d.fields[f]? with
   |some (.row _ _ _),some (fo,_)=>.ret (.one (.e id k n T y (off+fo)))
   |_,_=>.no
  |_,_=>.no
 | .field t x f=>match tb t,ev L x with
  | some d,some (.agg cs)=>match d.fields[f]? with
   | some (fo,ft,_)=>match tb ft with
    | some w=>match ld w.agg w.size (cs.drop fo)with
     |some v=>.ret v
     |none=>.no
    |none=>.no
   |none=>.no
  |_,_=>.no
 | .load t x=>match tb t,ev L x with
  | some d,some (.one (.p id off))=>match H[id]? with
   | some (.box cs)=>match ld d.agg d.size (cs.drop off)with
    |some v=>.ret v
    |none=>.no
   |_=>.no
  | some d,some (.one (.q T y off))=>match ld d.agg d.size ((aC T y).drop off)with
   |some v=>.ret v
   |none=>.no
  | some d,some (.one (.e id k n T y off))=>match H[id]? with
   | some (.row _ n' xs)=>if Nat.beq n n' then (match ld d.agg d.size ((aC T y).drop off)with
     |some v=>.ret v
     |none=>.no)
    else (match kV (T:=T) xs with
     |some xs=>Pl.opt xs[k]? λD=>ld d.agg d.size ((aC T D).drop off)
     |none=>.no)
   |_=>.no
  |_,_=>.no
 | .indexAddr t x y=>match (tb t).bind (·.elem),ev L x,ev L y with
  |some h,some (.one (.l T xs)),some (.one (.i i))=>if Nat.beq (szT h) (szT T)then Pl.opt (ix xs i) (λe=>some (.one (.q T e 0)))else .no
  | some h,some (.one (.o id)),some (.one (.i i))=>match H[id]? with
   |some (.row T n xs)=>if Nat.beq (szT h) (szT T)then Pl.opt (ix xs i) (λe=>some (.one (.e id i.toNat n T e 0)))else .no
   |_=>.no
  |_,_,_=>.no
 | .slice t x lo hi none=>match (tb t).bind (·.elem),ev L x with
  | some h,some (.one (.l T xs))=>if Nat.beq (szT h) (szT T)then match (match lo with|some y=>ev L y|none=>some (.one (.i 0))),(match hi with|some y=>ev L y|none=>some (.one (.i xs.length)))with
   |some (.one (.i a)),some (.one (.i b))=>Pl.opt (sub xs a b) λys=>some (.one (.l T ys))
   |_,_=>.no
   else .no
  |_,_=>wE tb o.op L H
 | .nilCheck x=>match ev L x with
  |some (.one (.p id off))=>.ret (.one (.p id off))
  |some (.one (.q T y off))=>.ret (.one (.q T y off))
  |_=>.no
 | .binOp op t x y _=>match ev L x,ev L y with
  | some (.one a),some (.one b)=>match a with
   | .b _=>match (tb t).map (·.bool)with
    |some true=>Kw op a b
    |_=>.no
   |_=>Kw op a b
  |_,_=>.no
 | .unOp .not _ x=>match ev L x with
  |some (.one (.b p))=>.ret (.one (.b (!p)))
  |_=>.no
 | .extract x j=>match ev L x with
  | some (.tup xs)=>match xs[j]? with
   |some v=>.ret v
   |none=>.no
  |_=>.no
 | .convert E t x=>match tb E,tb t,ev L x with
  | some _,some d,some (.one (.k .u8 a))=>match d.i64 with
   |true=>.ret (.one (.i a))
   |false=>wE tb o.op L H
  |_,_,_=>wE tb o.op L H
 | .call ⟨.builtin .len,ae,tys⟩=>match ae.toList,tys.toList with
  | [x], [t]=>match tb t,ev L x with
   | some d,some (.one (.s s))=>match d.str with
    |true=>.ret (.one (.i (s.size:Int)))
    |false=>.no
   | some d,some (.one c)=>match d.elem,zW H c with
    |some _,some n=>.ret (.one (.i n))
    |_,_=>.no
   |_,_=>.no
  |_,_=>.no
 |op=>wE tb op L H
def kind:Go.Op->Nat
 | .alloc _| .box _ _| .buildSlice _ _ _| .makeSlice _ _ _| .makeMap _ _=>1
 | .call ⟨.builtin .append,_,_⟩=>1
 | .call ⟨.value _,_,_⟩=>2
 |_=>0
def wt:Operand->Operand->Bool
 | .tmp a,.tmp b=>Nat.beq a b
 | .const (.int .i64 a),.const (.int .i64 b)=>decide (a=b)
 |_,_=>false
def zG(tb:Nat->Y TI)(op:Go.Op)(L:Td (Nat×AT))(H:Td Ob):Pl (AT×Td Ob):=match op with
 | .makeMap t none=>match (tb t).bind (·.map)with
  |some T=>.ret (.one (.m H.length),H++[.map T []])
  |none=>.no
 | .call ⟨.builtin .append,ae,tys⟩=>match ae.toList,tys.toList with
  | [x, y],[t,tx]=>match (tb t).bind (·.elem),ev L x,ev L y with
   | some T,some (.one (.lc _ xs)),some (.one d)=>match (tb tx).bind (·.elem),kV (T:=T) xs,kB H T d with
    |some _,some xs,some ys=>Pl.opt (N2 xs ys) λzs=>some (.one (.o H.length),H++[.row T 0 zs])
    |_,_,_=>.no
   | some .u,some (.one (.o id)),some (.one (.s s))=>match (tb tx).map (·.str),H[id]? with
    |some true,some (.row .u _ xs)=>Pl.opt (lim (α:=Int) (List.append (α:=Int) xs (ofS s))) λzs=>some (.one (.o H.length),(H.set id .aQ)++[.row .u 0 zs])
    |_,_=>.no
   | some .u,some (.one (.nil _)),some (.one (.s s))=>match (tb tx).map (·.str)with
    |some true=>Pl.opt (lim (ofS s)) λzs=>some (.one (.o H.length),H++[.row .u 0 zs])
    |_=>.no
   |_,_,_=>.no
  |_,_=>.no
 |_=>.no
def F5(tb:Nat->Y TI)(o:Oper)(L:Td (Nat×AT))(H:Td Ob):Pl (AT×Td Ob):=
 match o.op with
 | .alloc t=>match tb t with
  |some d=>.ret (.one (.p H.length 0),H++[.box d.zero])
  |none=>.no
 | .box _ x=>match (ev L x).bind cells with
  |some cs=>.ret (.one (.p H.length 0),H++[.box cs])
  |none=>.no
 | .buildSlice t len parts=>match (tb t).bind (·.elem),cH L parts.toList with
  | some T,some h=>match jU T with
   | some z=>match gS T z len 0 h,Nat.ble (len*szT T) 16777216 with
    |some xs,true=>.ret (.one (.o H.length),H++[.row T 0 xs])
    |_,_=>.no
   |none=>.no
  |_,_=>.no
 | .makeSlice t x y=>match (tb t).bind (·.elem),ev L x,wt x y with
  | some T,some (.one (.i n)),true=>match jU T with
   |some z=>Pl.opt (mk z n) λxs=>some (.one (.o H.length),H++[.row T 0 xs])
   |none=>.no
  |_,_,_=>.no
 | .call ⟨.builtin .append,ae,tys⟩=>match ae.toList,tys.toList with
  | [x, y],[t,tx]=>match (tb t).bind (·.elem),(tb tx).bind (·.elem),ev L x,ev L y with
   | some T,some _,some (.one j),some (.one v)=>match kB H T v with
    | some ys=>match j with
     | .o id=>match H[id]? with
      | some (.row _ _ xs)=>match kV (T:=T) xs with
       |some xs=>Pl.opt (lim (xs++ys)) λzs=>some (.one (.o H.length),(H.set id .aQ)++[.row T 0 zs])
       |none=>.no
      |_=>.no
     | .nil _=>Pl.opt (lim ys) λzs=>some (.one (.o H.length),H++[.row T 0 zs])
     |_=>zG tb o.op L H
    |none=>.no
   |_,_,_,_=>zG tb o.op L H
  |_,_=>.no
 |op=>zG tb op L H
def C.ids:C->Td Nat
 | .o id=>[id]
 | .p id _=>[id]
 | .m id=>[id]
 | .f _ caps=>capIds caps
 |_=>[]
where capIds:Td C->Td Nat
 |[]=>[]
 |c::cs=>c.ids++capIds cs
def AT.ids:AT->Td Nat
 | .one c=>c.ids
 | .agg cs=>cs.flatMap C.ids
 | .tup xs=>idsA xs
where idsA:Td AT->Td Nat
 |[]=>[]
 |x::xs=>x.ids++idsA xs
def nR(H:Td Ob):Nat->Td Nat->Td Nat->Td Nat
 |0,_,acc=>acc
 |_,[],acc=>acc
 | n+1,id::rest,acc=>if acc.contains id then nR H n rest acc else
  match H[id]? with
  |some (.box cs)=>nR H n (cs.flatMap C.ids++rest) (acc++[id])
  |_=>nR H n rest (acc++[id])
def pos:Td Nat->Nat->Y Nat
 |[],_=>none
 | k::d,id=>if Nat.beq k id then some 0 else match pos d id with
  |some j=>some (j+1)
  |none=>none
def C.mv(g:Nat->Y Nat):C->Y C
 | .o id=>match g id with
  |some j=>some (.o j)
  |none=>none
 | .p id off=>match g id with
  |some j=>some (.p j off)
  |none=>none
 | .m id=>match g id with
  |some j=>some (.m j)
  |none=>none
 | .e _ _ _ _ _ _=>none
 | .r _ _=>none
 | .f fn caps=>match mvK g caps with
  |some d=>some (.f fn d)
  |none=>none
 |c=>some c
where mvK (g:Nat->Y Nat):Td C->Y (Td C)
 |[]=>some []
 | c::cs=>match c.mv g,mvK g cs with
  |some d,some ds=>some (d::ds)
  |_,_=>none
def mvs(g:Nat->Y Nat):Td C->Y (Td C)
 |[]=>some []
 | c::cs=>match c.mv g,mvs g cs with
  |some d,some h=>some (d::h)
  |_,_=>none
def AT.mv(g:Nat->Y Nat):AT->Y AT
 | .one c=>match c.mv g with
  |some d=>some (.one d)
  |none=>none
 | .agg cs=>match mvs g cs with
  |some h=>some (.agg h)
  |none=>none
 | .tup xs=>match mvA g xs with
  |some ys=>some (.tup ys)
  |none=>none
where mvA (g:Nat->Y Nat):Td AT->Y (Td AT)
 |[]=>some []
 | x::xs=>match x.mv g,mvA g xs with
  |some y,some ys=>some (y::ys)
  |_,_=>none
def Ob.mv(g:Nat->Y Nat):Ob->Y Ob
 | .box cs=>match mvs g cs with
  |some d=>some (.box d)
  |none=>none
 |o=>some o
def obs(g:Nat->Y Nat):Td Ob->Y (Td Ob)
 |[]=>some []
 | x::xs=>match x.mv g,obs g xs with
  |some y,some ys=>some (y::ys)
  |_,_=>none
def vQ(H:Td Ob):Td Nat->Y (Td Ob)
 |[]=>some []
 | id::ids=>match H[id]?,vQ H ids with
  |some x,some xs=>some (x::xs)
  |_,_=>none
def Ob.anew:Ob->Ob
 | .row T _ xs=>.row T 0 xs
 |o=>o
def mX(aH:Td Nat)(H:Td Ob):Y (Td Ob):=match vQ H aH with
 | some xs=>match obs (pos aH) xs with
  |some ys=>some (ys.map Ob.anew)
  |none=>none
 |none=>none
def eqL:Td Nat->Td Nat->Bool
 |[],[]=>true
 |x::xs,y::ys=>Nat.beq x y&&eqL xs ys
 |_,_=>false
def iA:Td Nat->Bool
 |[]=>true
 |x::xs=> !xs.contains x&&iA xs
def Ob.bump(old new:Ob):Ob:=match new with
 | .row T _ xs=>(match old with
  | .row _ n _=>.row T (n+1) xs
  |_=>.row T 0 xs)
 |y=>y
def cQ:Td Ob->Td Nat->Td Ob->Td Ob
 | H,id::ids,x::xs=>cQ (match H[id]? with
  |some o=>H.set id (o.bump x)
  |none=>H) ids xs
 |H,_,_=>H
def back(aH:Td Nat)(n:Nat)(j:Nat):Y Nat:=if Nat.blt j aH.length then aH[j]? else some (n+(j-aH.length))
def lh(O:Orc)(f:Nat):Nat->Td AT->Td Ob->Y (Td AT×Td Ob)
 |_,[],H=>some ([],H)
 | j, x::xs,H=>match O.arg f j with
  | 0=>match jz [] x,lh O f (j+1) xs H with
   |some y,some (ys,H')=>some (y::ys,H')
   |_,_=>none
  | _+1=>match x with
   | .one (.nil T)=>match lh O f (j+1) xs (H++[.row T 0 []])with
    |some (ys,H')=>some (.one (.o H.length)::ys,H')
    |none=>none
   | _=>match lh O f (j+1) xs H with
    |some (ys,H')=>some (x::ys,H')
    |none=>none
def AW(xs:Td AT):Td Nat:=xs.flatMap λx=>match cells x with
 | some cs=>cs.flatMap fun c=>match c with
  | .o id=>[id]
  |_=>[]
 |none=>[]
def gJ:Td Nat->Td AT->Td Ob->Td AT×Td Ob
 |[],xs,H=>(xs,H)
 | id::ids,xs,H=>match H[id]? with
  |some (.row T _ ys)=>gJ ids (xs.map (AT.fz id T ys)) (H.set id .aQ)
  |_=>gJ ids xs H
def Gy(O:Orc)(f:Nat)(xs:Td AT)(H:Td Ob)(K:AT->Td Ob->Y R):Y R:=match O.mode f with
 | 0=>match eH H xs with
  | some ys=>O.call R f ys [] fun v _=>match v.iX with
   |true=>K v H
   |false=>none
  |none=>none
 | 1 => match eH [] xs with
  | some ys=>O.call R f ys [] fun v _=>match v.flat with
   |true=>K v H
   |false=>none
  | none=>match AW xs with
   |[]=>none
   | id::ids=>let q:=gJ (id::ids) xs H
    match eH [] q.1 with
    | some ys=>O.call R f ys [] fun v _=>match v.flat with
     |true=>K v q.2
     |false=>none
    |none=>none
 | 2=>match lh O f 0 xs H with
  | some (ys,d)=>let aH:=nR d 1000 (AT.ids.idsA ys) []
   match iA aH,mX aH d,AT.mv.mvA (pos aH) ys with
   | true,some t,some zs=>O.call R f zs t fun v h=>match Nat.ble aH.length h.length,obs (back aH d.length) h,v.mv (back aH d.length)with
    |true,some j,some u=>K u (cQ d aH j++j.drop aH.length)
    |_,_,_=>none
   |_,_,_=>none
  |none=>none
 |_+3=>none
def Ay(tb:Nat->Y TI)(t:Nat):AT->AT
 | .one .zs=>match (tb t).bind (·.elem)with
  |some T=>.one (.nil T)
  |none=>.one .zs
 |x=>x
def dN(tb:Nat->Y TI):Td Nat->Td AT->Td AT
 |t::d,x::xs=>Ay tb t x::dN tb d xs
 |_,xs=>xs
def xn(tb:Nat->Y TI)(O:Orc)(o:Oper)(L:Td (Nat×AT))(H:Td Ob)(K:AT->Td Ob->Y R):Y R:=
 match o.op with
 | .call ⟨.value x,ae,tys⟩=>match ev L x,evs L ae.toList with
  |some (.one (.f f caps)),some xs=>Gy O f (dN tb tys.toList xs++caps.map .one) H K
  |_,_=>none
 |_=>none
def opD(tb:Nat->Y TI)(O:Orc)(o:Oper)(L:Td (Nat×AT))(H:Td Ob)(K:AT->Td Ob->Y R):Y R:=
 match kind o.op with
 |0=>(C1 tb o L H).run λv=>K v H
 |1=>(F5 tb o L H).run λq=>K q.1 q.2
 |_=>xn tb O o L H K
def opX(tb:Nat->Y TI)(op:Go.Op)(L:Td (Nat×AT))(H:Td Ob):Pl (Td Ob):=match op with
 | .mapUpdate t m k x=>match (tb t).bind (·.map),ev L m,ev L k,(ev L x).bind cells with
  | some T,some (.one (.m id)),some (.one (.s s)),some vs=>match H[id]?,gb [] vs with
   | some (.map _ kvs),some d=>match BL (T:=T) kvs,jJ T d,ev L x with
    |some kvs,some y,some (.one _)=>if Nat.beq (szT T) 1 then .ret (H.set id (.map T ((s,y)::kvs)))else .no
    |some kvs,some y,some (.agg _)=>if Nat.beq (szT T) 1 then .no else .ret (H.set id (.map T ((s,y)::kvs)))
    |_,_,_=>.no
   |_,_=>.no
  |_,_,_,_=>.no
 |_=>.no
def opN(tb:Nat->Y TI)(o:Oper)(L:Td (Nat×AT))(H:Td Ob):Pl (Td Ob):=
 match o.op with
 | .store t x y=>match tb t,ev L x,(ev L y).bind cells with
  | some d,some (.one (.p id off)),some vs=>match H[id]? with
   |some (.box cs)=>if Nat.beq d.size vs.length&&Nat.ble (off+vs.length) cs.length then .ret (H.set id (.box (bB cs off vs)))else .no
   |_=>.no
  | some d,some (.one (.e id k n T e off)),some vs=>match gb [] (qO ((aC T e).drop off) vs)with
   | some h=>match H[id]? with
    | some (.row _ n' xs)=>match kV (T:=T) xs with
     | some xs=>if Nat.beq d.size vs.length&&Nat.ble (off+vs.length) (szT T)&&Nat.blt 0 (szT T)then
      (if Nat.beq n n' then (match jJ T (bB (aC T e) off h)with
        |some x=>.ret (H.set id (.row T (n'+1) (xs.set k x)))
        |none=>.no)
       else Pl.opt xs[k]? λj=>match jJ T (bB (aC T j) off h)with
        |some x=>some (H.set id (.row T (n'+1) (xs.set k x)))
        |none=>none)
      else .no
     |none=>.no
    |_=>.no
   |none=>.no
  |_,_,_=>.no
 |op=>opX tb op L H
def one(tb:Nat->Y TI)(O:Orc)(nt:Nat)(o:Oper)(L:Td (Nat×AT))(H:Td Ob)(K:AT->Td Ob->Y R):Y R:=match o.dst with
 |some d=>if Nat.blt d nt then opD tb O o L H K else none
 |none=>(opN tb o L H).run λH'=>K (.tup []) H'
def kU(dst:Y Nat)(v:AT)(L:Td (Nat×AT)):Td (Nat×AT):=match dst with
 |some d=>(d,v)::L
 |none=>L
def gsl(ops:Td Oper)(j:Nat):Y Nat:=match ops[j]? with
 |some o=>o.dst
 |none=>none
def pu(nt:Nat)(ops:Td Oper)(o:Oper)(t L:Td (Nat×AT))(run skip:Td (Nat×AT)->Y R):Y R:=match o.guard with
 |none=>run L
 | some (j,h)=>match gsl ops j,o.dst with
  | some d,some v=>if Nat.blt v nt then match t.lookup d with
   | some (.one (.b p))=>match h with
    |true=>bif p then run ((d,.one (.b true))::L)else skip ((d,.one (.b false))::L)
    |false=>bif p then skip ((d,.one (.b true))::L)else run ((d,.one (.b false))::L)
   |some (.tup [])=>skip L
   |_=>none
   else none
  |_,_=>none
def ML(tb:Nat->Y TI)(o:Oper)(L:Td (Nat×AT)):Pl AT:=
 match o.op with
 | .buildSlice t len parts=>match (tb t).bind (·.elem),cH L parts.toList with
  | some T,some d=>match jU T with
   | some z=>match gS T z len 0 d,Nat.ble (len*szT T) 16777216 with
    |some xs,true=>.ret (.one (.l T xs))
    |_,_=>.no
   |none=>.no
  |_,_=>.no
 |_=>.no
def GH(tb:Nat->Y TI)(nt:Nat)(o:Oper)(L:Td (Nat×AT))(K:AT->Y R):Y R:=match o.dst with
 |some d=>if Nat.blt d nt then (ML tb o L).run K else none
 |none=>none
def C.rows:C->Td Nat
 | .o id=>[id]
 |_=>[]
def nG(L:Td (Nat×AT))(x:Operand):Td Nat:=match (ev L x).bind cells with
 |some cs=>cs.flatMap C.rows
 |none=>[]
def sa(O:Orc)(f:Nat):Nat->Td AT->Td Nat
 |_,[]=>[]
 | j, x::xs=>match O.arg f j with
  | 0=>(match cells x with
   |some cs=>cs.flatMap C.rows
   |none=>[])++sa O f (j+1) xs
  |_+1=>sa O f (j+1) xs
def vV(O:Orc)(im:Td Nat)(o:Oper)(L:Td (Nat×AT)):Td Nat:=match o.op with
 | .move x=>match o.dst with
  |some d=>if im.contains d then nG L x else []
  |none=>[]
 | .buildSlice _ _ parts=>parts.toList.flatMap λp=>nG L p.2
 | .slice _ x _ _ _=>match o.dst with
  |some d=>if im.contains d then []else nG L x
  |none=>nG L x
 | .convert _ _ x=>nG L x
 | .mapUpdate _ _ _ x=>nG L x
 | .store _ x y=>match ev L x with
  |some (.one (.e _ _ _ _ _ _))=>nG L y
  |_=>[]
 | .call ⟨.value x,ae,_⟩=>match ev L x,evs L ae.toList with
  | some (.one (.f f caps)),some xs=>match O.mode f with
   |0=>[]
   | 1=>(xs++caps.map AT.one).flatMap fun x=>match cells x with
    |some cs=>cs.flatMap C.rows
    |none=>[]
   |_+2=>sa O f 0 (xs++caps.map AT.one)
  |_,_=>[]
 |_=>[]
def prep(O:Orc)(im:Td Nat)(o:Oper)(st:St):St:=cR (vV O im o st.L) st
def rL(tb:Nat->Y TI)(O:Orc)(o:Oper)(L:Td (Nat×AT)):Bool:=match o.dst with
 |none=>false
 | some _=>match o.op with
  | .call ⟨.value x,ae,tys⟩=>match ev L x,evs L ae.toList with
   | some (.one (.f f caps)),some xs=>match O.mode f with
    |0=>true
    |1=>(AW (dN tb tys.toList xs++caps.map .one)).isEmpty
    |_=>false
   |_,_=>false
  |op=>Nat.beq (kind op) 0
def eK(tb:Nat->Y TI)(O:Orc)(o:Oper)(L:Td (Nat×AT))(H:Td Ob):Td Nat:=match o.op with
 | .store _ x _=>match ev L x with
  |some (.one (.p id _))=>[id]
  |some (.one (.e id _ _ _ _ _))=>[id]
  |_=>[]
 | .mapUpdate _ m _ _=>match ev L m with
  |some (.one (.m id))=>[id]
  |_=>[]
 | .call ⟨.builtin .append,ae,_⟩=>match ae.toList with
  | x::_=>match ev L x with
   |some (.one (.o id))=>[id]
   |_=>[]
  |[]=>[]
 | .call ⟨.value x,ae,tys⟩=>match ev L x,evs L ae.toList with
  | some (.one (.f f caps)),some xs=>match O.mode f with
   |0=>[]
   |1=>AW (dN tb tys.toList xs++caps.map .one)
   | _+2=>match lh O f 0 (dN tb tys.toList xs++caps.map .one) H with
    |some (ys,d)=>nR d 1000 (AT.ids.idsA ys) []
    |none=>[]
  |_,_=>[]
 |_=>[]
def Ip{α:Type}(xs:Td α)(i:Int):Y (Td α):=bif decide (0<i)&&decide (i<=(xs.length:Int))then some (xs.drop i.toNat)else none
def uS{α:Type}(xs:Td α)(i:Int):Y (Td α):=bif decide (0<=i)&&decide (i<=(xs.length:Int))then some (xs.take i.toNat)else none
def lQ(tb:Nat->Y TI)(im:Td Nat)(o:Oper)(L:Td (Nat×AT))(H:Td Ob):Y (Nat×Pl (AT×Td Ob)):=match o.op,o.dst with
 | .slice t x (some y) none none,some d=>if im.contains d then (match ev L x with
  | some (.one (.o id))=>some (id,match (tb t).bind (·.elem),H[id]?,ev L y with
   | some T,some (.row _ _ xs),some (.one (.i i))=>match kV (T:=T) xs with
    |some xs=>Pl.opt (Ip xs i) λys=>some (.one (.o H.length),(H.set id .aQ)++[.row T 0 ys])
    |none=>.no
   |_,_,_=>.no)
  |_=>none)else none
 | .slice t x none (some y) none,some d=>if im.contains d then (match ev L x with
  | some (.one (.o id))=>some (id,match (tb t).bind (·.elem),H[id]?,ev L y with
   | some T,some (.row _ _ xs),some (.one (.i i))=>match kV (T:=T) xs with
    |some xs=>Pl.opt (uS xs i) λys=>some (.one (.o H.length),(H.set id .aQ)++[.row T 0 ys])
    |none=>.no
   |_,_,_=>.no)
  |_=>none)else none
 |_,_=>none
def lO(tb:Nat->Y TI)(O:Orc)(im:Td Nat)(o:Oper)(L:Td (Nat×AT))(H:Td Ob):Td Nat:=match lQ tb im o L H with
 |some q=>[q.1]
 |none=>eK tb O o L H
def HA:C->C
 | .nil T=>.l T []
 |c=>c
def JF:AT->AT
 | .one c=>.one (HA c)
 | .agg cs=>.agg (cs.map HA)
 | .tup xs=>.tup xs
def JG:Go.Op->Bool
 | .build _ _=>true
 |_=>false
def KQ(tb:Nat->Y TI)(O:Orc)(nt:Nat)(im:Td Nat)(o:Oper)(L:Td (Nat×AT))(H:Td Ob)(K:AT->Td Ob->Y R):Y R:=match o.dst with
 | some d=>if im.contains d&&Nat.beq (kind o.op) 1 then GH tb nt o L (fun v=>K v H)else if im.contains d&&JG o.op then one tb O nt o L H (fun v H'=>K (JF v) H')else match lQ tb im o L H with
  |some q=>if Nat.blt d nt then q.2.run (λq=>K q.1 q.2)else none
  |none=>one tb O nt o L H K
 |none=>one tb O nt o L H K
def Ni(_:Nat->Y TI)(_:Td Nat)(_:Oper)(_:Td (Nat×AT))(_:Td Ob):Y (Pl (AT×Td Ob)):=none
def okX(H:Td Ob)(ids:Td Nat)(H':Td Ob):Bool:=ids.all (λid=>(match H'[id]? with
 |some o=> !o.fA
 |none=>true))&&(H'.drop H.length).all (λo=> !o.fA)
def D6(tb:Nat->Y TI)(O:Orc)(nt:Nat)(im:Td Nat)(o:Oper)(L:Td (Nat×AT))(H:Td Ob)(K:AT->Td Ob->Y R):Y R:=match Ni tb im o L H with
 | some p=>match o.dst with
  |some d=>if Nat.blt d nt then p.run (λq=>K q.1 q.2)else none
  |none=>p.run λq=>K q.1 q.2
 |none=>KQ tb O nt im o L H λv H'=>if okX H (lO tb O im o L H) H' then K v H' else none
def Lt(O:Orc)(f:Nat)(xs:Td AT)(H:Td Ob)(K:AT->Td Ob->Y R):Y R:=match lh O f 0 xs H with
 | some (ys,d)=>let aH:=nR d 1000 (AT.ids.idsA ys) []
  match iA aH,mX aH d,AT.mv.mvA (pos aH) ys with
  | true,some t,some zs=>O.call R f zs t fun v h=>match Nat.ble aH.length h.length,obs (back aH d.length) h,v.mv (back aH d.length)with
   |true,some j,some u=>K u (cQ d aH j++j.drop aH.length)
   |_,_,_=>none
  |_,_,_=>none
 |none=>none
def NG(tb:Nat->Y TI)(O:Orc)(nt:Nat)(im:Td Nat)(o:Oper)(L:Td (Nat×AT))(H:Td Ob)(K:AT->Td Ob->Y R):Y R:=match o.op,o.dst with
 | .call ⟨.value x,ae,tys⟩,some d=>match ev L x,evs L ae.toList with
  |some (.one (.f f caps)),some xs=>bif Nat.beq (O.mode f) 3 then (if Nat.blt d nt then Lt O f (dN tb tys.toList xs++caps.map .one) H λv H'=>if okX H (eK tb O o L H) H' then K v H' else none else none)else D6 tb O nt im o L H K
  |_,_=>D6 tb O nt im o L H K
 |_,_=>D6 tb O nt im o L H K
def uc{α:Type}(xs ys:Td α)(i:Int):Y (Td α):=bif decide (0<=i)&&decide (i<=(xs.length:Int))then lim (ys++xs.drop i.toNat)else none
def Ft(tb:Nat->Y TI)(nt:Nat)(im:Td Nat)(o:Oper)(rest:Td Oper)(L:Td (Nat×AT))(H:Td Ob):Y (Pl (Td (Nat×AT)×Td Ob)):=match o.op with
 | .slice t x (some y) none none=>match o.dst,o.guard,rest with
  | some j,none,v::_=>if im.contains j then (match v.op,v.dst,v.guard with
   | .call ⟨.builtin .append,ae,tys⟩,some d2,none=>match ae.toList,tys.toList with
    | [.tmp z,.tmp d],[C,D]=>if Nat.beq d j&& !Nat.beq z j&&Nat.blt j nt&&Nat.blt d2 nt then (match ev L x,ev L y,L.lookup z with
     | some (.one (.o id)),some (.one (.i i)),some (.one (.o h))=>some (match tb t,tb C,tb D,H[id]?,H[h]?,Nat.beq id h with
      | some E,some w,some A,some (.row _ _ xs),some (.row _ _ ys),false=>match E.elem,w.elem,A.elem with
       | some T,some B,some _=>match kV (T:=T) xs,kV (T:=B) ys with
        | some xs,some ys=>match kV (T:=B) xs with
         |some xs=>Pl.opt (uc xs ys i) λzs=>some ((d2,.one (.o H.length))::(j,.one (.o h))::L,(H.set h .aQ)++[.row B 0 zs])
         |none=>.no
        |_,_=>.no
       |_,_,_=>.no
      |_,_,_,_,_,_=>.no)
     |_,_,_=>none)else none
    |_,_=>none
   |_,_,_=>none)else none
  |_,_,_=>none
 |_=>none
def Ew(tb:Nat->Y TI)(O:Orc)(nt:Nat)(im:Td Nat)(ops:Td Oper):Td Oper->St->(St->Y R)->Y R
 |[],st,K=>K st
 | o::rest,st,K=>let d:=prep O im o st
  match Ft tb nt im o rest d.L d.H with
  | some p=>match rest with
   |_::h=>p.run λq=>Ew tb O nt im ops h ⟨q.1,q.2⟩ K
   |[]=>none
  |none=>pu nt ops o d.L d.L (λL=>NG tb O nt im o L d.H λv H'=>Ew tb O nt im ops rest ⟨kU o.dst v L,H'⟩ K) (λL=>Ew tb O nt im ops rest ⟨kU o.dst (.tup []) L,d.H⟩ K)
def fe(vis:Td Nat)(H:Td Ob):Td Ob:=H.mapIdx λi o=>if vis.contains i then o else .aQ
def Au(d:Td Ob)(id:Nat):Bool:=match d[id]? with
 |none=>true
 |some .aQ=>true
 |_=>false
def yw(ids:Td Nat)(H:Td Ob):Td Ob:=H.mapIdx λi o=>if ids.contains i then .aQ else o
def dW(tb:Nat->Y TI)(O:Orc)(nt:Nat)(im:Td Nat)(ops:Array Oper)(t:Td Ob)(π ch rd:Td Nat):Td Nat->Td Nat->Td (Nat×AT)->Td Ob->Td Ob->(Td (Nat×AT)->Td Ob->Y R)->Y R
 |_,[],L,_,H,K=>K L H
 | done, i::rest,L,h,H,K=>match ops[i]? with
  |none=>none
  | some o=>let d:=Draw.sel L (o.looksAt ops)
   let next:=λL v h H'=>dW tb O nt im ops t π ch rd (i::done) rest (kU o.dst v L) h H' K
   if ch.contains i then pu nt ops.toList o d L (λL=>if (lO tb O im o d H).all (Au t)then KQ tb O nt im o d H (λv H'=>if okX H (lO tb O im o d H) H' then next L v (yw (lO tb O im o d H) h) H' else none)else none) (λL=>next L (.tup []) h H)
   else
    (if rd.contains i then
     pu nt ops.toList o d L (λL=>if Nat.beq (kind o.op) 1 then GH tb nt o d λv=>next L v h H
      else if rL tb O o d then one tb O nt o d (if Nat.ble (Abs.cnt ch done) (Abs.cnt ch (π.filter λj=>Abs.cO ops j i))then H else h) λv _=>next L v h H else none) (λL=>next L (.tup []) h H)
    else pu nt ops.toList o d L (λL=>if Nat.beq (kind o.op) 1 then GH tb nt o d λv=>next L v h H
      else if rL tb O o d then one tb O nt o d t λv _=>next L v h H else none) (λL=>next L (.tup []) h H))
def jf:Td C->Td Ob->Td C×Td Ob
 |[],H=>([],H)
 | c::cs,H=>match c with
  | .nil T=>let r:=jf cs (H++[.row T 0 []]);(.o H.length::r.1,r.2)
  |c=>let r:=jf cs H;(c::r.1,r.2)
def yZ:AT->Td Ob->AT×Td Ob
 | .one c,H=>match c with
  | .nil T=>(.one (.o H.length),H++[.row T 0 []])
  |c=>(.one c,H)
 | .agg cs,H=>let r:=jf cs H;(.agg r.1,r.2)
 | .tup xs,H=>(.tup xs,H)
def wz:Td (Nat×AT)->Td Ob->Td (Nat×AT)×Td Ob
 |[],H=>([],H)
 |(t,v)::L,H=>let r:=yZ v H;let q:=wz L r.2;((t,r.1)::q.1,q.2)
def yj:Nat->Td Ob->Td Ob
 |0,H=>H
 | n+1,H=>match H[n]? with
  |some (.box cs)=>let r:=jf cs H;yj n (r.2.set n (.box r.1))
  |_=>yj n H
def bc(L:Td (Nat×AT)):Td Nat->Td (Nat×AT)
 |[]=>[]
 | t::d=>match L.lookup t with
  |some v=>(t,v)::bc L d
  |none=>bc L d
def mvL(g:Nat->Y Nat):Td (Nat×AT)->Y (Td (Nat×AT))
 |[]=>some []
 | (t,v)::L=>match v.mv g,mvL g L with
  |some u,some L'=>some ((t,u)::L')
  |_,_=>none
def Nl(id:Nat)(q:Td AT×Td Ob):Y (Td AT×Td Ob):=match q.2[id]? with
 | some x=>let g:=fun j=>if Nat.beq j id then some q.2.length else some j
  match obs g (q.2.set id .aQ++[x]),AT.mv.mvA g q.1 with
  |some H',some d=>some (d,H')
  |_,_=>none
 |none=>none
def Av:Td Nat->Td AT×Td Ob->Y (Td AT×Td Ob)
 |[],q=>some q
 | id::ids,q=>match Nl id q with
  |some d=>Av ids d
  |none=>none
def eM(r:Nat)(lv:Td Nat)(st:St)(K:St->Y R):Y R:=
 let q:=wz (bc st.L lv) (yj st.H.length st.H)
 let aH:=List.range r++(nR q.2 1000 (List.range r++q.1.flatMap λp=>p.2.ids) []).filter λi=>Nat.ble r i
 match iA aH&&eqL (aH.take r) (List.range r),mX aH q.2,mvL (pos aH) q.1 with
 |true,some H',some L'=>K ⟨L',H'⟩
 |_,_,_=>none
structure Dw where
 s6:List (List Nat×List Nat×List Nat)
 cs:List Nat
 fz:List Nat
 vis:List Nat
 lv:List Nat
structure Ann where
 nt:Nat
 refs:Nat
 loops:List (Nat×List Nat)
 cuts:List (Nat×List Nat)
 ret:List Nat
 iK:List (Nat×Dw)
 im:List Nat
structure Pcs where
 loop:(R:Type)->Nat->St->Kt R->Y R
 cut:(R:Type)->Nat->St->Kt R->Y R
 draw:(R:Type)->Nat->St->Kt R->Y R
def Pcs.at_(pc:Pcs)(k:Nat)(R:Type)(id:Nat):St->Kt R->Y R:=match k with
 |0=>pc.cut R id
 |1=>pc.loop R id
 |_=>pc.draw R id
def gq:Code->Nat
 | .region id _ _=>id
 | .seq a _=>gq a
 | .block _ a=>gq a
 | .loop a=>gq a
 |_=>100000
def yh(next:St->Y R)(K:Kt R):Kt R
 | .normal,st=>next st
 |e,st=>K e st
def GZ(id:Nat)(K:Kt R):Kt R
 | .exit id',st=>if Nat.beq id' id then K .normal st else K (.exit id') st
 |e,st=>K e st
structure rU where
 n:List Nat
 r:List Nat
 x:List (Nat×List Nat)
def rU.of(o:rU):Exit->Td Nat
 | .normal=>o.n
 | .ret=>o.r
 | .exit id=>match o.x.lookup id with
  |some l=>l
  |none=>[]
 |_=>[]
def jd(r:Nat)(o:rU)(K:Kt R):Kt R:=λe st=>eM r (o.of e) st (K e)
def pn(r:Nat)(lv:Td Nat)(o:rU)(next:St->Y R)(K:Kt R):Kt R:=yh (λst=>eM r lv st next) (jd r o K)
def Nc(H:Td Ob):C->Td Nat
 | .o id=>[id]
 | .p id _=>match H[id]? with
  |some (.box cs)=>cs.flatMap C.rows
  |_=>[]
 |_=>[]
def bE(L:Td (Nat×AT))(H:Td Ob):Td Nat->Td Nat
 |[]=>[]
 | t::d=>(match (L.lookup t).bind cells with
  |some cs=>cs.flatMap (Nc H)
  |none=>[])++bE L H d
def xl(c:Operand)(b:Bool)(st:St):St:=match c with
 | .tmp t=>⟨(t,.one (.b b))::st.L,st.H⟩
 |_=>st
def den(tb:Nat->Y TI)(O:Orc)(pc:Pcs)(an:Ann):Code->St->Kt R->Y R
 | .skip,st,K=>K .normal st
 | .ret,st,K=>K .ret st
 | .exit id,st,K=>K (.exit id) st
 | .seq a b,st,K=>den tb O pc an a st (yh (λt=>match an.cuts.lookup (gq b)with
  |some lv=>eM an.refs lv t λh=>pc.cut R (gq b) h K
  |none=>den tb O pc an b t K) K)
 | .block id a,st,K=>den tb O pc an a st (GZ id K)
 | .cond c a b,st,K=>match ev st.L c with
  | some (.one (.b p))=>bif p then (match an.cuts.lookup (gq a)with
    |some lv=>eM an.refs lv (xl c true st) λh=>pc.cut R (gq a) h K
    |none=>den tb O pc an a (xl c true st) K)
   else (match an.cuts.lookup (gq b)with
    |some lv=>eM an.refs lv (xl c false st) λh=>pc.cut R (gq b) h K
    |none=>den tb O pc an b (xl c false st) K)
  |_=>none
 | .loop a,st,K=>match an.loops.lookup (gq a)with
  |some lv=>eM an.refs lv st λh=>pc.loop R (gq a) h K
  |none=>none
 | .region _ ops false,st,K=>Ew tb O an.nt an.im ops.toList ops.toList st (K .normal)
 | .region id ops true,st,K=>match an.iK.lookup id with
  | some d=>match d.s6 with
   |[]=>none
   | [(π, ch,rd)]=>if Abs.lU ops π ch rd then
     let j:=cR (bE st.L st.H d.fz) st
     dW tb O an.nt an.im ops (fe d.vis j.H) π ch rd [] π j.L j.H j.H λL H=>K .normal ⟨L,H⟩
    else none
   |_::_::_=>eM an.refs d.lv st λh=>pc.draw R id h K
  |none=>none
 |_,_,_=>none
def cU(an:Ann):Code->Td (Nat×Nat×Code)
 | .seq a b=>cU an a++(match an.cuts.lookup (gq b)with
  |some _=>[(0,gq b,b)]
  |none=>cU an b)
 | .block _ a=>cU an a
 | .cond _ a b=>(match an.cuts.lookup (gq a)with
  |some _=>[(0,gq a,a)]
  |none=>cU an a)++(match an.cuts.lookup (gq b)with
  |some _=>[(0,gq b,b)]
  |none=>cU an b)
 | .loop a=>[(1,gq a,.loop a)]
 | .region id ops true=>match an.iK.lookup id with
  | some d=>match d.s6 with
   |_::_::_=>[(2,id,.region id ops true)]
   |_=>[]
  |none=>[]
 |_=>[]
def aN:Td Nat->Code->Code
 |[],c=>c
 |0::l,.seq a _=>aN l a
 |1::l,.seq _ b=>aN l b
 |_::l,.block _ a=>aN l a
 |_::l,.loop a=>aN l a
 |0::l,.cond _ a _=>aN l a
 |_::l,.cond _ _ b=>aN l b
 |_,_=>.skip
def aK(f:Func):Code:=f.body.getD .skip
def fq:Code->Array Oper
 | .region _ ops _=>ops
 |_=> #[]
structure Ent where
 f:Nat
 mode:Nat
 arg:List Nat
 call:(R:Type)->List AT->List Ob->(AT->List Ob->Y R)->Y R
def uk:Td Ent->Nat->Y Ent
 |[],_=>none
 |e::l,f=>bif Nat.beq e.f f then some e else uk l f
def de(l:Td Ent):Orc where
 mode:=λf=>match uk l f with
  |some e=>e.mode
  |none=>1
 arg:=λf j=>match uk l f with
  |some e=>e.arg.getD j 0
  |none=>0
 call:=λR f xs H K=>match uk l f with
  |some e=>e.call R xs H K
  |none=>none
abbrev wr(x:Int):Int:=IntKind.i64.wrap x
def aY{V R:Type}(body:V->(V->Y R)->Y R):Nat->V->Y R
 |0,_=>none
 |n+1,v=>body v (aY body n)
theorem uO{V R:Type}{body:V->(V->Y R)->Y R}(Q:V->Prop)(μ:V->Nat)(f:V->Y R)(h:∀v t,Q v->(∀d,Q d->μ d<μ v->t d=f d)->body v t=f v):∀n v,Q v->μ v<n->aY body n v=f v
 |0,_,_,w=>absurd w (OM _)
 |n+1,v,y,w=>h v _ y λd j A=>uO Q μ f h n d j A0
end
section
open Abs (V AV Env au)
inductive FR:C->V->Prop
 |i {x:Int}:FR (.i x) (.lit (.int .i64 x))
 |k {kd:IntKind} {x:Int}:FR (.k kd x) (.lit (.int kd x))
 |b {x:Bool}:FR (.b x) (.lit (.bool x))
 |s {x:Z}:FR (.s x) (.lit (.string x))
 | l {T:Ty} {xs:List (I T)} {es:List (List V)} (hp:0<szT T) (hl:es.length=xs.length) (hs:∀e∈es,e.length=szT T)
   (hr:∀(m:Nat)(h1:m<xs.length)(h2:m<es.length)(j:Nat)(h3:j<(aC T xs[m]).length)(h4:j<es[m].length),FR (aC T xs[m])[j] es[m][j]):FR (.l T xs) (.imm (szT T) es)
def FRs(cs:Td C)(vs:Td V):Prop:=cs.length=vs.length/\∀(j:Nat)(h1:j<cs.length)(h2:j<vs.length),FR cs[j] vs[j]
abbrev Rho:=Td (Y Nat)
inductive CR(ρ:Rho)(H:List Ob):C->V->Prop
 |fl {c:C} {v:V} (h:FR c v):CR ρ H c v
 |lc {T:Ty} {xs:List (I T)} {es:List (List V)} (h:FR (.l T xs) (.imm (szT T) es)):CR ρ H (.lc T xs) (.di (szT T) es)
 |nil {T:Ty} (hp:0<szT T):CR ρ H (.nil T) (.lit (.slice none 0 0))
 |o {id a n:Nat} {T:Ty} {xs:List (I T)} (h1:ρ[id]? =some (some a)) (h2:H[id]? =some (.row T n xs)):CR ρ H (.o id) (.own a 0 xs.length)
 |oN {id n:Nat} {T:Ty} {xs:List (I T)} (h1:ρ[id]? =some none) (h2:H[id]? =some (.row T n xs)):CR ρ H (.o id) (.lit (.slice none 0 0))
 |oG {id:Nat} {v:V} (h:H[id]? =some .aQ):CR ρ H (.o id) v
 |oR {id a:Nat} {T:Ty} {xss:List (List (I T))} {ho:Y Nat} (h1:ρ[id]? =some (some a)) (h2:H[id]? =some (.rows T xss ho)):CR ρ H (.o id) (.own a 0 xss.length)
 |r {id a k:Nat} (h1:ρ[id]? =some (some a)):CR ρ H (.r id k) (.ptr a k 0)
 |p {id a off:Nat} (h1:ρ[id]? =some (some a)):CR ρ H (.p id off) (.ptr a 0 off)
 |e {id a m n n' off:Nat} {T:Ty} {x:I T} {xs:List (I T)} (h1:ρ[id]? =some (some a)) (h2:H[id]? =some (.row T n' xs)) (h3:m<xs.length) (h4:n<=n') (h5:n=n'->xs[m]? =some x):CR ρ H (.e id m n T x off) (.ptr a m off)
 |eG {id m n off:Nat} {T:Ty} {x:I T} {v:V} (h:H[id]? =some .aQ):CR ρ H (.e id m n T x off) v
 |q {T:Ty} {x:I T} {off:Nat} {vs:List V} (h:FRs (aC T x) vs):CR ρ H (.q T x off) (.iW (szT T) (vs.drop off))
 |f {fn:Nat} {caps:List C} {vs:List V} (hl:caps.length=vs.length) (hr:∀(j:Nat)(h1:j<caps.length)(h2:j<vs.length),CR ρ H caps[j] vs[j]):CR ρ H (.f fn caps) (.clo (.func fn) vs)
 |m {id a:Nat} (h1:ρ[id]? =some (some a)):CR ρ H (.m id) (.mp a)
 |zs:CR ρ H .zs (.lit (.slice none 0 0))
 |zP:CR ρ H .z (.lit (.pointer none))
 |zM:CR ρ H .z (.lit (.map none))
 |zF:CR ρ H .z (.lit .nilFunc)
def CRs(ρ:Rho)(H:Td Ob)(cs:Td C)(vs:Td V):Prop:=cs.length=vs.length/\∀(j:Nat)(h1:j<cs.length)(h2:j<vs.length),CR ρ H cs[j] vs[j]
inductive ATR(ρ:Rho)(H:List Ob):AT->AV->Prop
 |one {c:C} {v:V} (h:CR ρ H c v):ATR ρ H (.one c) (.one v)
 |agg {cs:List C} {vs:List V} (h:CRs ρ H cs vs):ATR ρ H (.agg cs) (.agg vs)
 |tup {xs:List AT} {ys:List AV} (hl:xs.length=ys.length) (h:∀(j:Nat)(h1:j<xs.length)(h2:j<ys.length),ATR ρ H xs[j] ys[j]):ATR ρ H (.tup xs) (.tup ys)
def cj(ρ:Rho)(H:Td Ob)(D:Td (Nat×AT))(L:Env):Prop:=∀t v,D.lookup t=some v->∃d,L.lookup t=some d/\ATR ρ H v d
def live(H:Td Ob)(id:Nat):Prop:=∃x,H[id]? =some x/\x.dead=false
structure HpR(ρ:Rho)(H:List Ob)(h:au):Prop where
 len:ρ.length=H.length
 row:∀(id n:Nat)(T:Ty)(xs:List (I T)),H[id]? =some (.row T n xs)->(∃a es,ρ[id]? =some (some a)/\h[a]? =some (some (.row (szT T) es))/\FR (.l T xs) (.imm (szT T) es))\/(ρ[id]? =some none/\xs=[]/\0<szT T)
 box:∀(id:Nat)(cs:List C),H[id]? =some (.box cs)->∃a vs,ρ[id]? =some (some a)/\h[a]? =some (some (.row vs.length [vs]))/\CRs ρ H cs vs
 map:∀(id:Nat)(T:Ty)(kvs:List (Z×I T)),H[id]? =some (.map T kvs)->∃a ws,ρ[id]? =some (some a)/\h[a]? =some (some (.map ws))/\kvs.length=ws.length/\0<szT T/\∀(j:Nat)(h1:j<kvs.length)(h2:j<ws.length),kvs[j].1=ws[j].1/\FRs (aC T kvs[j].2) ws[j].2
 inj:∀(i j a:Nat),ρ[i]? =some (some a)->ρ[j]? =some (some a)->live H i->live H j->i=j
 lt:∀(i a:Nat),ρ[i]? =some (some a)->a<h.length
def evoR(x y:Ob):Prop:=∃T xss ho,x= .rows T xss ho/\∃j d h,y= .rows j d h/\xss.length=d.length
def evo(x y:Ob):Prop:=y= .aQ\/(∃T n xs n' d,x= .row T n xs/\y= .row T n' d/\xs.length=d.length/\n<=n'/\(n=n'->xs=d))\/(∃cs j,x= .box cs/\y= .box j)\/(∃T kvs h,x= .map T kvs/\y= .map T h)\/evoR x y
theorem evo.refl(x:Ob):evo x x:=by
 cases x with
 |row T n xs=>exact .inr (.inl ⟨T,n,xs,n,xs,rfl,rfl,rfl,O3 _,λ_=>rfl⟩)
 |box cs=>exact SS
 |map T kvs=>exact SL
 |aQ=>exact Ta
 |rows T xss ho=>exact .inr (.inr (.inr (.inr ⟨_,_,_,rfl,_,_,_,rfl,rfl⟩)))
section
variable {y x z:Ob}{T:Ty}{n id:Nat}{ho:Y Nat}{H H':Td Ob}{c:C}{cs a:Td C}{vs:Td V}{L:Env}{es:Td (Td V)}
theorem evo.gone'(h:evo .aQ y):y= .aQ:=by
 rcases h with h|⟨_,_,_,_,_,h,_⟩|⟨_,_,h,_⟩|⟨_,_,_,h,_⟩|⟨_,_,_,h,_⟩
 .exact h
 all_goals cases h
theorem evo.row'{xs:Td (I T)}(h:evo (.row T n xs) y):y= .aQ\/∃n' d,y= .row T n' d/\xs.length=d.length/\n<=n'/\(n=n'->xs=d):=by
 rcases h with h|⟨_,_,_,n',d,h,h2,j,h4,t⟩|⟨_,_,h,_⟩|⟨_,_,_,h,_⟩|⟨_,_,_,h,_⟩
 .exact .inl h
 .grind
 all_goals cases h
theorem evo.rows'{xss:Td (Td (I T))}(h:evo (.rows T xss ho) y):y= .aQ\/∃t d j,y= .rows t d j/\xss.length=d.length:=by
 rcases h with h|⟨_,_,_,_,_,h,_⟩|⟨_,_,h,_⟩|⟨_,_,_,h,_⟩|⟨_,_,_,h,h2⟩
 .exact .inl h
 .cases h
 .cases h
 .cases h
 .grind
theorem evo.trans(h:evo x y)(k:evo y z):evo x z:=by
 rcases h with rfl|⟨T,n,xs,n',w,rfl,rfl,h1,h2,A⟩|⟨cs,F,rfl,rfl⟩|⟨T,p,q,rfl,rfl⟩|⟨T,xss,ho,rfl,G,t,B,rfl,H⟩
 .rw[k.gone'];exact Ta
 .rcases k.row' with rfl|⟨C,xs2,rfl,k1,v,D⟩
  .exact Ta
  .exact .inr (.inl ⟨T,n,xs,C,xs2,rfl,rfl,A0,A0,λe=>by rw[A A0,D A0]⟩)
 .rcases k with k|⟨_,_,_,_,_,k,_⟩|⟨_,es,_,k⟩|⟨_,_,_,k,_⟩|⟨_,_,_,k,_⟩
  .exact .inl k
  .cases k
  .exact .inr (.inr (.inl ⟨cs,es,rfl,k⟩))
  .cases k
  .cases k
 .rcases k with k|⟨_,_,_,_,_,k,_⟩|⟨_,_,k,_⟩|⟨_,_,r,k,v⟩|⟨_,_,_,k,_⟩
  .exact .inl k
  .cases k
  .cases k
  .cases k;exact .inr (.inr (.inr (.inl ⟨T,p,r,rfl,v⟩)))
  .cases k
 .rcases k.rows' with rfl|⟨E,d,j,rfl,I⟩
  .exact Ta
  .exact .inr (.inr (.inr (.inr ⟨T,xss,ho,rfl,E,d,j,rfl,A0⟩)))
structure Ev(ρ:Rho)(H:List Ob)(ρ':Rho)(H':List Ob):Prop where
 rho:∀(id:Nat)(x:Y Nat),ρ[id]? =some x->ρ'[id]? =some x
 ob:∀(id:Nat)(x:Ob),H[id]?=some x->∃y,H'[id]? =some y/\evo x y
theorem Ev.refl(ρ:Rho)(H:Td Ob):Ev ρ H ρ H:=⟨λ_ _ h=>h,λ_ x h=>⟨x,h,evo.refl x⟩⟩
variable{ρ ρ':Rho}
theorem CR.mono(e:Ev ρ H ρ' H'){v:V}(h:CR ρ H c v):CR ρ' H' c v:=by
 induction h with
 |fl h=>exact .fl h
 |lc h=>exact .lc h
 |nil h=>exact .nil h
 | o h1 h2=>
  obtain⟨y,d,h4⟩:=e.ob _ _ h2;rcases h4.row' with rfl|⟨n',t,rfl,j,_,_⟩
  .exact .oG d
  .rw[j];exact .o (e.rho _ _ h1) d
 | oN h1 h2=>
  obtain⟨y,d,h4⟩:=e.ob _ _ h2;rcases h4.row' with rfl|⟨n',t,rfl,j,_,_⟩
  .exact .oG d
  .exact .oN (e.rho _ _ h1) d
 | oG h=>
  obtain⟨y,d,h4⟩:=e.ob _ _ h;cases h4.gone';exact .oG d
 | oR h1 h2=>
  obtain⟨y,d,h4⟩:=e.ob _ _ h2;rcases h4.rows' with rfl|⟨G,w,B,rfl,j⟩
  .exact .oG d
  .rw[j];exact .oR (e.rho _ _ h1) d
 |r h1=>exact .r (e.rho _ _ h1)
 |p h1=>exact .p (e.rho _ _ h1)
 | e h1 h2 d h4 j=>
  obtain⟨y,A,D⟩:=e.ob _ _ h2;rcases D.row' with rfl|⟨n',t,rfl,I,J,E⟩
  .exact .eG A
  .refine .e (e.rho _ _ h1) A A0 A0 (λK=> ?_);rw[<-E A0];exact j A0
 | eG h=>
  obtain⟨y,d,h4⟩:=e.ob _ _ h;cases h4.gone';exact .eG d
 |q h=>exact .q h
 |f hl L F=>exact .f hl F
 |m h1=>exact .m (e.rho _ _ h1)
 |zs=>exact .zs
 |zP=>exact .zP
 |zM=>exact .zM
 |zF=>exact .zF
theorem CRs.mono(e:Ev ρ H ρ' H')(h:CRs ρ H cs vs):CRs ρ' H' cs vs:=⟨h.1,λj h1 h2=>(h.2 j h1 h2).mono e⟩
theorem ATR.mono(e:Ev ρ H ρ' H'){v:AT}{d:AV}(h:ATR ρ H v d):ATR ρ' H' v d:=by
 induction h with
 |one h=>exact .one (h.mono e)
 |agg h=>exact .agg (h.mono e)
 |tup hl h j=>exact .tup hl j
theorem cj.mono(e:Ev ρ H ρ' H'){D:Td (Nat×AT)}(h:cj ρ H D L):cj ρ' H' D L:=λt v d=>let⟨j,h1,h2⟩:=h t v d;⟨j,h1,h2.mono e⟩
def fG(x y:Ob):Prop:=y= .aQ\/(∃T n xs n' d,x= .row T n xs/\y= .row T n' d/\xs.length=d.length)\/(∃cs j,x= .box cs/\y= .box j)\/(∃T kvs h,x= .map T kvs/\y= .map T h)\/evoR x y
theorem evo.weak(h:evo x y):fG x y:=by
 rcases h with h|⟨T,n,xs,n',d,h1,h2,j,_⟩|h|h|h
 .exact .inl h
 .exact .inr (.inl ⟨T,n,xs,n',d,h1,h2,j⟩)
 .exact .inr (.inr (.inl h))
 .exact .inr (.inr (.inr (.inl h)))
 .exact .inr (.inr (.inr (.inr h)))
theorem fG.row'{xs:Td (I T)}(h:fG (.row T n xs) y):y= .aQ\/∃n' d,y= .row T n' d/\xs.length=d.length:=by
 rcases h with h|⟨_,_,_,n',d,h,h2,j⟩|⟨_,_,h,_⟩|⟨_,_,_,h,_⟩|⟨_,_,_,h,_⟩
 .exact .inl h
 .grind
 all_goals cases h
theorem fG.rows'{xss:Td (Td (I T))}(h:fG (.rows T xss ho) y):y= .aQ\/∃t d j,y= .rows t d j/\xss.length=d.length:=by
 rcases h with h|⟨_,_,_,_,_,h,_⟩|⟨_,_,h,_⟩|⟨_,_,_,h,_⟩|⟨_,_,_,h,h2⟩
 .exact .inl h
 .cases h
 .cases h
 .cases h
 .grind
theorem fG.box'(h:fG (.box cs) y):y= .aQ\/∃d,y= .box d:=by
 rcases h with h|⟨_,_,_,_,_,h,_⟩|⟨_,d,h,h2⟩|⟨_,_,_,h,_⟩|⟨_,_,_,h,_⟩
 .exact .inl h
 .cases h
 .grind
 .cases h
 .cases h
theorem fG.map'{kvs:Td (Z×I T)}(h:fG (.map T kvs) y):y= .aQ\/∃d:Td (Z×I T),y= .map T d:=by
 rcases h with h|⟨_,_,_,_,_,h,_⟩|⟨_,_,h,_⟩|⟨_,_,j,h,h2⟩|⟨_,_,_,h,_⟩
 .exact .inl h
 .cases h
 .cases h
 .grind
 .cases h
theorem fG.trans(h:fG x y)(k:fG y z):fG x z:=by
 cases x with
 | aQ=>
  have:y= .aQ:=by
   rcases h with h|⟨_,_,_,_,_,h,_⟩|⟨_,_,h,_⟩|⟨_,_,_,h,_⟩|⟨_,_,_,h,_⟩
   .exact h
   all_goals cases h
  subst this;exact k
 | row T n xs=>
  rcases h.row' with rfl|⟨n',t,rfl,C⟩
  .rcases k with k|⟨_,_,_,_,_,k,_⟩|⟨_,_,k,_⟩|⟨_,_,_,k,_⟩|⟨_,_,_,k,_⟩
   .exact .inl k
   all_goals cases k
  .rcases k.row' with rfl|⟨D,xs2,rfl,v⟩
   .exact Ta
   .exact .inr (.inl ⟨_,_,_,_,_,rfl,rfl,A0⟩)
 | box cs=>
  rcases h.box' with rfl|⟨w,rfl⟩
  .rcases k with k|⟨_,_,_,_,_,k,_⟩|⟨_,_,k,_⟩|⟨_,_,_,k,_⟩|⟨_,_,_,k,_⟩
   .exact .inl k
   all_goals cases k
  .rcases k.box' with rfl|⟨w,rfl⟩
   .exact Ta
   .exact SS
 | map T kvs=>
  rcases h.map' with rfl|⟨E,rfl⟩
  .rcases k with k|⟨_,_,_,_,_,k,_⟩|⟨_,_,k,_⟩|⟨_,_,_,k,_⟩|⟨_,_,_,k,_⟩
   .exact .inl k
   all_goals cases k
  .rcases k.map' with rfl|⟨v,rfl⟩
   .exact Ta
   .exact SL
 | rows T xss ho=>
  rcases h.rows' with rfl|⟨F,d,A,rfl,G⟩
  .rcases k with k|⟨_,_,_,_,_,k,_⟩|⟨_,_,k,_⟩|⟨_,_,_,k,_⟩|⟨_,_,_,k,_⟩
   .exact .inl k
   all_goals cases k
  .rcases k.rows' with rfl|⟨H,j,B,rfl,I⟩
   .exact Ta
   .exact .inr (.inr (.inr (.inr ⟨_,_,_,rfl,_,_,_,rfl,A0⟩)))
theorem evo.old(h:fG x y)(k:evo y z):fG x z:=h.trans k.weak
theorem fG.refl(x:Ob):fG x x:=by
 cases x with
 |row T n xs=>exact .inr (.inl ⟨T,n,xs,n,xs,rfl,rfl,rfl⟩)
 |box cs=>exact SS
 |map T kvs=>exact SL
 |aQ=>exact Ta
 |rows T xss ho=>exact .inr (.inr (.inr (.inr ⟨_,_,_,rfl,_,_,_,rfl,rfl⟩)))
theorem evo.lv(h:evo x y)(d:y.dead=false):x.dead=false:=by
 cases x with
 |aQ=>rw[h.gone']at d;cases d
 | rows T xss ho=>
  rcases h.rows' with rfl|⟨_,_,_,rfl,_⟩<;>cases d
 |_=>rfl
theorem Ev.lv(e:Ev ρ H ρ' H')(hi:id<H.length)(h:live H' id):live H id:=by
 obtain⟨y,h1,h2⟩:=h;have d:=O0 hi;obtain⟨z,h4,j⟩:=e.ob _ _ d;rw[h1]at h4;cases h4;exact⟨_,d,j.lv h2⟩
theorem live.lt(h:live H id):id<H.length:=by
 obtain⟨x,h1,_⟩:=h;exact(gI.1 h1).1
structure In where
 h:au
 ρ:Rho
 H:List Ob
structure Fr(F:In)(ρ:Rho)(H:List Ob)(h:au):Prop where
 len:F.h.length<=h.length
 old:∀(id a:Nat),ρ[id]? =some (some a)->live H id->a<F.h.length->∃id0,F.ρ[id0]? =some (some a)/\live F.H id0
 same:∀(a:Nat),a<F.h.length->(∀(id:Nat),F.ρ[id]?=some (some a)->¬live F.H id)->h[a]? =F.h[a]?
 rho:∀(id:Nat)(x:Y Nat),F.ρ[id]? =some x->ρ[id]? =some x
 ob:∀(id:Nat)(x:Ob),F.H[id]?=some x->∃y,H[id]? =some y/\fG x y
def kL(ρ:Rho)(H:Td Ob)(a:Nat):Prop:=∀(j:Nat),ρ[j]? =some (some a)->¬live H j
def LF(F:In)(a:Nat):Prop:=a<F.h.length->∃d,F.ρ[d]? =some (some a)/\live F.H d
def SubR(h:au)(T:Ty)(xs:Td (I T))(e:Td V):Prop:=(e=[.lit (.slice none 0 0)]/\xs=[])\/∃b es,e=[.own b 0 xs.length]/\h[b]? =some (some (.row (szT T) es))/\FR (.l T xs) (.imm (szT T) es)
structure XAt(F:In)(ρ:Rho)(H:List Ob)(h:au)(id:Nat)(T:Ty)(xss:List (List (I T)))(ho:Y Nat)(a:Nat)(es:List (List V)):Prop where
 rho:ρ[id]?=some (some a)
 aq:h[a]?=some (some (.row 1 es))
 len:es.length=xss.length
 pos:0<szT T
 one:∀e∈es,e.length=1
 nl:kL ρ H a
 old:LF F a
 new:F.H[id]?=none
 sub:∀(k:Nat)(xs:List (I T))(e:List V),ho≠some k->xss[k]? =some xs->es[k]? =some e->SubR h T xs e
 aA:∀(k b n:Nat),ho≠some k->es[k]? =some [.own b 0 n]->b≠a/\b<h.length/\kL ρ H b/\LF F b
 inj:∀(k k' b n n':Nat),ho≠some k->ho≠some k'->es[k]? =some [.own b 0 n]->es[k']? =some [.own b 0 n']->k=k'
def XR(F:In)(ρ:Rho)(H:Td Ob)(h:au):Prop:=∀(id:Nat)(T:Ty)(xss:Td (Td (I T)))(ho:Y Nat),H[id]? =some (.rows T xss ho)->
 (∀(id':Nat)(y:Ob),H[id']?=some y->y.fA=true->id'=id)/\∃a es,XAt F ρ H h id T xss ho a es
structure SR0(F:In)(ρ:Rho)(st:St)(L:Env)(h:au):Prop where
 bc:cj ρ st.H st.L L
 heap:HpR ρ st.H h
 fr:Fr F ρ st.H h
structure SR(F:In)(ρ:Rho)(st:St)(L:Env)(h:au):Prop where
 bc:cj ρ st.H st.L L
 heap:HpR ρ st.H h
 fr:Fr F ρ st.H h
 xr:XR F ρ st.H h
theorem CRs.fj:CRs ρ H [] []:=⟨rfl,λj h=>F1⟩
theorem CRs.cons{v:V}(h:CR ρ H c v)(hs:CRs ρ H cs vs):CRs ρ H (c::cs) (v::vs):=
 ⟨by simp[hs.1],fun j h1 h2=>by
  cases j with
  |zero=>exact h
  |succ j=>exact hs.2 j Hd Hm⟩
theorem CRs.app{b:Td C}{x y:Td V}(h:CRs ρ H a x)(k:CRs ρ H b y):CRs ρ H (a++b) (x++y):=
 ⟨by simp [h.1,k.1],fun j h1 h2=>by
   by_cases t:j<a.length
   · have d:j<x.length:=by rw[<-h.1];exact t
     rw[P0 t,P0 d];exact h.2 j t d
   · have d:¬j<x.length:=by rw[<-h.1];exact t
     rw[P1 A0,P1 A0];have:=k.2 (j-a.length) I2 R0;have e:=h.1;simp only[e]at this ⊢;exact this⟩
theorem CRs.take{x:Td V}(h:CRs ρ H a x)(n:Nat):CRs ρ H (a.take n) (x.take n):=
 ⟨QQ,fun j h1 h2=>by
  simp only[PW];exact h.2 j I2 QM⟩
theorem CRs.drop{x:Td V}(h:CRs ρ H a x)(n:Nat):CRs ρ H (a.drop n) (x.drop n):=
 ⟨QQ,fun j h1 h2=>by
  simp only[Px];exact h.2 (n+j) I2 QM⟩
theorem FRs.cr(h:FRs cs vs):CRs ρ H cs vs:=⟨h.1,λj h1 h2=>.fl (h.2 j h1 h2)⟩
theorem FR.elem{xs:Td (I T)}(h:FR (.l T xs) (.imm (szT T) es)){m:Nat}{x:I T}(d:xs[m]? =some x):∃e,es[m]? =some e/\FRs (aC T x) e:=by
 cases h with
 | l hp hl hs t=>
  obtain⟨h1,rfl⟩:=gI.1 d;have h2:m<es.length:=A0
  refine⟨es[m],O0 h2,?_,λj v h4=>t m h1 h2 j v h4⟩;rw[df T hp,hs _ (gM h2)]
theorem FR.fj(hp:0<szT T):FR (.l T []) (.imm (szT T) []):=.l hp rfl (λe he=>by simp at he) (λm h1=>by simp at h1)
theorem FR.flat{v:V}(h:FR c v):v.flat=true:=by cases h<;>rfl
theorem FR.fZ{xs:Td (I T)}(h:FR (.l T xs) (.imm (szT T) es)):es.all (·.all V.flat)=true:=by
 cases h with
 | l hp hl hs d=>
  rw[aT];intro e he;rw[aT];intro v t;obtain⟨m,hm,rfl⟩:=Pw he;obtain⟨j,w,rfl⟩:=Pw t;have:=hs _ (gM hm);exact(d m A0 hm j (by rw[df T hp];omega) w).flat
theorem uH{u:Value}(h1:sD u=some c):Abs.da u=true/\CR ρ H c (.lit u):=by
 unfold sD at h1;cases d:Abs.da u with
 |false=>rw[d]at h1;simp at h1
 | true=>
  rw[d]at h1;simp only[cT]at h1;refine⟨rfl,?_⟩;split at h1<;>first|(cases h1;done)|cases h1
  .exact .fl .b
  .exact .fl .i
  .exact .fl .k
  .exact .fl .s
  .exact .zs
  .exact .zP
  .exact .zM
  .exact .zF
theorem tI{ρ:Rho}{H:Td Ob}:∀{us:Td Value}{cs:Td C},qT us=some cs->us.all Abs.da=true/\CRs ρ H cs (us.map V.lit)
 |[],_,h=>by cases h;exact⟨rfl,rfl,λj h=>F1⟩
 | u::us,cs,h=>by
  unfold qT at h;split at h
  .rename_i c d h1 h2;cases h;obtain⟨k1,t⟩:=uH (ρ:=ρ) (H:=H) h1;obtain⟨v,w,y⟩:=tI (ρ:=ρ) (H:=H) h2;refine⟨by simp[k1,v],by simp[w],λj g1 A=> ?_⟩;cases j with
   |zero=>exact t
   |succ j=>exact y j Rc (by simpa using A)
  .cases h
theorem bf{D:Td (Nat×AT)}(hs:cj ρ H D L){x:Operand}{v:AT}(h:ev D x=some v):∃w,Abs.ev L x=some w/\ATR ρ H v w:=by
 cases x with
 |tmp t=>exact hs t v h
 | const u=>
  by_cases d:∃cs,u= .agg cs
  .obtain⟨cs,rfl⟩:=d;simp only[ev,Ha,Pb]at h;obtain⟨B,h1,rfl⟩:=h;obtain⟨k1,y⟩:=tI (ρ:=ρ) (H:=H) h1;exact⟨.agg (cs.toList.map V.lit),by simp only[Abs.ev,Abs.ot];rw[mt k1],.agg y⟩
  .have h:(sD u).map .one=some v:=by
    cases u<;>first|exact absurd ⟨_,rfl⟩ d|exact h
   simp only[Pb]at h;obtain⟨c,h1,rfl⟩:=h;obtain⟨A,k⟩:=uH (ρ:=ρ) (H:=H) h1;refine⟨.one (.lit u),?_,.one k⟩;cases u<;>first|exact absurd ⟨_,rfl⟩ d|(simp only[Abs.ev,Abs.ot];rw[mt A])
 | func f=>
  simp only[ev,OW]at h;subst h;exact⟨_,rfl,.one (.f rfl (λj h=>F1))⟩
 |global g=>simp[ev]at h
end
end
section
open Abs (V AV Env au ar)
def zu:Value->C->Bool
 | .int .i64 0,.i 0=>true
 | .int k 0,.k k' 0=>k==k'
 | .bool false,.b false=>true
 | .string s,.s s'=>s.size==0&&s'.size==0
 | .slice none 0 0,.nil T=>Nat.blt 0 (szT T)
 | .pointer none,.z=>true
 | .map none,.z=>true
 | .nilFunc,.z=>true
 |_,_=>false
def pd:Td Value->Td C->Bool
 |[],[]=>true
 |v::vs,c::cs=>zu v c&&pd vs cs
 |_,_=>false
def sB:Value->C->Bool
 | .int .i64 0,.i 0=>true
 | .int .u8 0,.k .u8 0=>true
 | .bool false,.b false=>true
 | .string s,.s s'=>s.size==0&&s'.size==0
 | .slice none 0 0,.l T []=>Nat.blt 0 (szT T)
 |_,_=>false
def g9:Td Value->Td C->Bool
 |[],[]=>true
 |v::vs,c::cs=>sB v c&&g9 vs cs
 |_,_=>false
def M0(i:Abs.TyI)(d:TI):Bool:=
 i.size==d.size&&i.agg==d.agg&&pd i.zero d.zero&&decide (i.fields=d.fields)&&i.fields.all (λf=>Nat.blt 0 f.2.2)&&Nat.blt 0 i.zero.length&&Nat.blt 0 i.size&&
 (!d.str||(match i.desc with| .string=>true|_=>false))&&(!d.i64||(match i.desc with| .int .i64=>true|_=>false))&&(!d.bool||(match i.desc with| .bool=>true|_=>false))&&
 (match d.kd with
 |none=>true
 |some k=>match i.desc with| .int k'=>decide (k'=k)|_=>false)&&
 (match d.elem with
 |none=>true
 | some T=>match i.elem,jU T with
  |some h,some z=>h.size==szT T&&Nat.blt 0 (szT T)&&h.zero.length==h.size&&g9 h.zero (aC T z)&&Nat.ble h.bytes 4096&&Nat.ble h.size 4096
  |_,_=>false)
noncomputable def CJ(P:Program)(t:Nat)(d:TI):Bool:=(match d.map with
 |none=>true
 | some T=>match Abs.yV P t,jU T with
  |some m,some z=>Nat.blt 0 (szT T)&&g9 m.zero (aC T z)
  |_,_=>false)&&
 (match d.elem with
 | some .u=>match P.underlying t with
  | some (.slice e)=>match P.underlying e with
   |some (.int .u8)=>true
   |_=>false
  |_=>false
 |_=>true)
def bQ(P:Program)(tb:Nat->Y TI):Prop:=∀t d,tb t=some d->∃i,Abs.wK P t=some i/\M0 i d=true/\CJ P t d=true
def cZ(P:Program)(o:Oper)(E:Abs.Cx)(ρ:Rho)(H:Td Ob)(L:Env)(h:au)(v:AT):Prop:=∃d,ATR ρ H v d/\ar P o E (λj h2=>j=Abs.bp o.dst d L/\h2=h) L h
structure TyF(P:Program)(t:Nat)(ti:TI)(i:Abs.TyI):Prop where
 tb:Abs.cm P [(t,i)]
 look:List.lookup t [(t,i)]=some i
 size:i.size=ti.size
 agg:i.agg=ti.agg
 zero:pd i.zero ti.zero=true
 ty:Abs.wK P t=some i
 field:∀(f fo ft sz:Nat),ti.fields[f]? =some (fo,ft,sz)->i.fields[f]? =some (fo,ft,sz)/\0<sz
 fields:i.fields=ti.fields
 fpos:i.fields.all (λf=>decide (0<f.2.2))=true
 zne:i.zero≠[]
 str:ti.str=true->i.desc= .string
 i64:ti.i64=true->i.desc= .int .i64
 bool:ti.bool=true->i.desc= .bool
 kd:∀k,ti.kd=some k->i.desc= .int k
 map:∀T,ti.map=some T->∃m z,Abs.yV P t=some m/\jU T=some z/\0<szT T/\g9 m.zero (aC T z)=true
 u8:ti.elem=some .u->∃e,P.underlying t=some (.slice e)/\P.underlying e=some (.int .u8)
 elem:∀T,ti.elem=some T->∃el z,i.elem=some el/\Abs.du [(t,i)] t=some el/\jU T=some z/\el.size=szT T/\0<szT T/\el.zero.length=el.size/\g9 el.zero (aC T z)=true/\Nat.ble el.bytes 4096=true/\Nat.ble el.size 4096=true
theorem bQ.get{P:Program}{tb:Nat->Y TI}(w:bQ P tb){t:Nat}{y:TI}(E:tb t=some y):∃i,TyF P t y i:=by
 obtain⟨i,h1,h2,d⟩:=w t y E;simp only[M0,bA,beq_iff_eq,O8,aT,Q3,Pj]at h2;obtain⟨⟨⟨⟨⟨⟨⟨⟨⟨⟨⟨F,h4⟩,G⟩,B⟩,C⟩,D⟩,_⟩,O⟩,H⟩,I⟩,j⟩,h⟩:=h2;have hl:List.lookup t [(t,i)]=some i:=A1
 refine⟨i,Abs.aV h1 (Abs.oS P),hl,F,h4,G,h1,λf fo ft sz v=> ?_,B,?_,?_,λhs=> ?_,λhs=> ?_,λhs=> ?_,λk hk=> ?_,λT A=> ?_,λJ=> ?_,λT A=> ?_⟩
 .rw[<-B]at v;have:=C _ (mG v);exact⟨v,by simpa [Ps]using this⟩
 .rw[aT];intro f v;have:=C f v;simpa [Ps]using this
 .intro e;rw[e]at D;simp at D
 .grind
 .grind
 .grind
 .rw[hk]at j;simp only at j;split at j
  .grind
  .cases j
 .unfold CJ at d;rw[bA]at d
  replace d:=d.1
  rw[A]at d;simp only at d;split at d
  .simp_all
  .cases d
 .unfold CJ at d;rw[bA]at d
  replace d:=d.2
  rw[J]at d;simp only at d;split at d
  .grind
  .cases d
 .rw[A]at h;simp only at h;split at h
  .rename_i K z he L;simp only[bA,beq_iff_eq]at h;obtain⟨⟨⟨⟨⟨g1,M⟩,g3⟩,g4⟩,N⟩,g6⟩:=h;exact⟨K,z,he,by unfold Abs.du;rw[hl];exact he,L,g1,by simpa [Ps]using M,g3,g4,N,g6⟩
  .cases h
theorem xI{ρ:Rho}{H:Td Ob}{agg:Bool}{size:Nat}{cs:Td C}{vs:Td V}{v:AT}(h:ld agg size cs=some v)(hc:CRs ρ H cs vs):∃j,Abs.oB agg size vs=some j/\ATR ρ H v j:=by
 unfold ld at h;unfold Abs.oB;cases agg with
 | true=>
  simp only[if_true]at h ⊢;split at h
  .rename_i d;have d:size<=cs.length:=O1 d;cases h;rw[mt (by rw[<-hc.1];exact d)];exact⟨_,rfl,.agg (hc.take size)⟩
  .cases h
 | false=>
  simp only[Qz,if_false]at h ⊢;cases cs with
  |nil=>simp at h
  | cons c cs=>
   cases vs with
   |nil=>have:=hc.1;simp at this
   | cons x vs=>
    simp only[List.head?_cons,Pg,OW]at h;subst h;exact⟨_,rfl,.one (hc.2 0 A1 A1)⟩
section
variable {P : Program} {E : Abs.Cx} {ρ : Rho} {H : Td Ob} {D : Td (Nat × AT)} {L : Env} {h : au} {d : Nat} {ty : TypeId} {pos : String} {af : Array Edge} {gd : Y (Nat × Bool)} {R : Type} {K : AT → Y R} {r : R} {tb : Nat → Y TI} {O : Orc}
theorem ATR.bi{c:C}{d:AV}(h:ATR ρ H (.one c) d):∃v,d= .one v/\CR ρ H c v:=by cases h with|one h=>exact⟨_,rfl,h⟩
theorem ATR.agg'{cs:Td C}{d:AV}(h:ATR ρ H (.agg cs) d):∃vs,d= .agg vs/\CRs ρ H cs vs:=by cases h with|agg h=>exact⟨_,rfl,h⟩
theorem CR.int{x:Int}{v:V}(h:CR ρ H (.i x) v):v= .lit (.int .i64 x):=QW
theorem CR.qK{k:IntKind}{x:Int}{v:V}(h:CR ρ H (.k k x) v):v= .lit (.int k x):=QW
theorem CR.bool{x:Bool}{v:V}(h:CR ρ H (.b x) v):v= .lit (.bool x):=QW
theorem CR.str{x:Z}{v:V}(h:CR ρ H (.s x) v):v= .lit (.string x):=QW
section
variable {x:Operand}{T:Ty}{id off m n n' t f fo ft:Nat}{w B:TI}{a i b:Int}{α:Type}{p:Bool}{es:Td (Td V)}{ι:Td Abs.Inf}
theorem CR.list{xs:Td (I T)}{v:V}(h:CR ρ H (.l T xs) v):∃es,v= .imm (szT T) es/\FR (.l T xs) (.imm (szT T) es):=by
 cases h with|fl h=>cases h with|l a b c d=>exact⟨_,rfl,.l a b c d⟩
theorem CR.ptr{v:V}(h:CR ρ H (.p id off) v):∃a,v= .ptr a 0 off/\ρ[id]? =some (some a):=by
 cases h with
 |p h1=>exact⟨_,rfl,h1⟩
 |fl h=>cases h
theorem CR.qptr{x:I T}{v:V}(h:CR ρ H (.q T x off) v):∃vs,v= .iW (szT T) (vs.drop off)/\FRs (aC T x) vs:=by
 cases h with
 |q h1=>exact⟨_,rfl,h1⟩
 |fl h=>cases h
theorem CR.eptr{j:Ty}{x:I T}{ys:Td (I j)}{v:V}(h:CR ρ H (.e id m n T x off) v)(d:H[id]? =some (.row j n' ys)):∃a xs,v= .ptr a m off/\ρ[id]? =some (some a)/\H[id]? =some (.row T n' xs)/\m<xs.length/\n<=n'/\(n=n'->xs[m]? =some x):=by
 cases h with
 |e h1 h2 t h4 w=>rw[h2]at d;cases d;exact⟨_,_,rfl,h1,h2,t,h4,w⟩
 |eG h=>rw[h]at d;cases d
 |fl h=>cases h
theorem CR.own{xs:Td (I T)}{v:V}(h:CR ρ H (.o id) v)(d:H[id]? =some (.row T n xs)):(∃a,v= .own a 0 xs.length/\ρ[id]? =some (some a))\/(v= .lit (.slice none 0 0)/\ρ[id]? =some none):=by
 cases h with
 |o h1 h2=>rw[h2]at d;cases d;exact .inl ⟨_,rfl,h1⟩
 |oN h1 h2=>exact .inr ⟨rfl,h1⟩
 |oG h=>rw[h]at d;cases d
 |oR h1 h2=>rw[h2]at d;cases d
 |fl h=>cases h
theorem CR.ownR{xss:Td (Td (I T))}{ho:Y Nat}{v:V}(h:CR ρ H (.o id) v)(d:H[id]? =some (.rows T xss ho)):∃a,v= .own a 0 xss.length/\ρ[id]? =some (some a):=by
 cases h with
 |o h1 h2=>rw[h2]at d;cases d
 |oN h1 h2=>rw[h2]at d;cases d
 |oG h=>rw[h]at d;cases d
 |oR h1 h2=>rw[h2]at d;cases d;exact⟨_,rfl,h1⟩
 |fl h=>cases h
theorem CW(j:bQ P tb)(hs:cj ρ H D L)(y:d<E.n){sz:Nat}(A:tb t=some w)(B:ev D x=some (.one (.p id off)))(C:w.fields[f]? =some (fo,ft,sz)):
  cZ P ⟨some d,.fieldAddr t x f,ty,pos,af,gd⟩ E ρ H L h (.one (.p id (off+fo))):=by
 obtain⟨i,F⟩:=j.get A;obtain⟨K,h1,h2⟩:=bf hs B;obtain⟨v,rfl,G⟩:=h2.bi;obtain⟨a,rfl,h4⟩:=G.ptr;obtain⟨I,J⟩:=F.field f fo ft sz C;exact⟨_,.one (.p h4),Abs.qe F.tb h1 F.look I J y ⟨rfl,rfl⟩⟩
theorem DV(j:bQ P tb)(hs:cj ρ H D L)(A:d<E.n){sz:Nat}{y:I T}(B:tb t=some w)(C:ev D x=some (.one (.q T y off)))(G:w.fields[f]? =some (fo,ft,sz)):
  cZ P ⟨some d,.fieldAddr t x f,ty,pos,af,gd⟩ E ρ H L h (.one (.q T y (off+fo))):=by
 obtain⟨i,F⟩:=j.get B;obtain⟨N,h1,h2⟩:=bf hs C;obtain⟨v,rfl,J⟩:=h2.bi;obtain⟨vs,rfl,h4⟩:=J.qptr;obtain⟨K,M⟩:=F.field f fo ft sz G;refine⟨_,.one (.q h4),Abs.uJ F.tb h1 F.look K M A ⟨?_,rfl⟩⟩;rw[Qi];rfl
theorem EF(j:bQ P tb)(hs:cj ρ H D L)(B:d<E.n){sz:Nat}{w:Ty}{y:I T}{ys:Td (I w)}{A:TI}(C:tb t=some A)(G:ev D x=some (.one (.e id m n T y off)))(J:H[id]? =some (.row w n' ys))(K:A.fields[f]? =some (fo,ft,sz)):
  cZ P ⟨some d,.fieldAddr t x f,ty,pos,af,gd⟩ E ρ H L h (.one (.e id m n T y (off+fo))):=by
 obtain⟨i,F⟩:=j.get C;obtain⟨U,h1,h2⟩:=bf hs G;obtain⟨v,rfl,M⟩:=h2.bi;obtain⟨a,xs,rfl,h4,N,O,k1,Q⟩:=M.eptr J;obtain⟨R,S⟩:=F.field f fo ft sz K;exact⟨_,.one (.e h4 N O k1 Q),Abs.qe F.tb h1 F.look R S B ⟨rfl,rfl⟩⟩
theorem Iy(j:bQ P tb)(hs:cj ρ H D L)(B:HpR ρ H h)(G:d<E.n){cs:Td C}{v:AT}(I:tb t=some w)(J:ev D x=some (.one (.p id off)))(K:H[id]? =some (.box cs))(hl:ld w.agg w.size (cs.drop off)=some v):
  cZ P ⟨some d,.load t x,ty,pos,af,gd⟩ E ρ H L h v:=by
 obtain⟨i,F⟩:=j.get I;obtain⟨y,h1,h2⟩:=bf hs J;obtain⟨u,rfl,M⟩:=h2.bi;obtain⟨a,rfl,h4⟩:=M.ptr;obtain⟨S,vs,A,N,O⟩:=B.box id cs K;rw[h4]at A;cases A;obtain⟨y,Q,R⟩:=xI hl (O.drop off);exact⟨y,R,Abs.nY F.tb h1 F.look N rfl (by rw[F.size,F.agg];exact Q) G ⟨rfl,rfl⟩⟩
theorem EV(j:bQ P tb)(hs:cj ρ H D L)(B:d<E.n){y:I T}{v:AT}(C:tb t=some w)(G:ev D x=some (.one (.q T y off)))(hl:ld w.agg w.size ((aC T y).drop off)=some v):
  cZ P ⟨some d,.load t x,ty,pos,af,gd⟩ E ρ H L h v:=by
 obtain⟨i,F⟩:=j.get C;obtain⟨A,h1,h2⟩:=bf hs G;obtain⟨u,rfl,J⟩:=h2.bi;obtain⟨vs,rfl,h4⟩:=J.qptr;obtain⟨A,K,M⟩:=xI (ρ:=ρ) (H:=H) hl (h4.cr.drop off);exact⟨A,M,Abs.yL F.tb h1 F.look (by rw[F.size,F.agg];exact K) B ⟨rfl,rfl⟩⟩
theorem HpR.at_(d:HpR ρ H h){a:Nat}{xs:Td (I T)}(h1:ρ[id]? =some (some a))(h2:H[id]? =some (.row T n xs)):∃es,h[a]? =some (some (.row (szT T) es))/\FR (.l T xs) (.imm (szT T) es):=by
 rcases d.row id n T xs h2 with⟨t,es,j,h4,v⟩|⟨j,_⟩
 .grind
 .grind
theorem yn(j:bQ P tb)(hs:cj ρ H D L)(N:HpR ρ H h)(O:d<E.n){y J:I T}{ys:Td (I T)}{v:AT}(Q:tb t=some w)(R:ev D x=some (.one (.e id m n T y off)))(A:H[id]? =some (.row T n' ys))(S:ys[m]? =some J)(hl:ld w.agg w.size ((aC T J).drop off)=some v):
  cZ P ⟨some d,.load t x,ty,pos,af,gd⟩ E ρ H L h v:=by
 obtain⟨i,F⟩:=j.get Q;obtain⟨K,h1,h2⟩:=bf hs R;obtain⟨u,rfl,U⟩:=h2.bi;obtain⟨a,xs,rfl,h4,M,Y,k1,Z⟩:=U.eptr A;rw[A]at M;cases M;obtain⟨es,V,W⟩:=N.at_ h4 A;obtain⟨e,X,B⟩:=W.elem S;obtain⟨K,C,G⟩:=xI (ρ:=ρ) (H:=H) hl (B.cr.drop off);exact⟨K,G,Abs.nY F.tb h1 F.look V X (by rw[F.size,F.agg];exact C) O ⟨rfl,rfl⟩⟩
theorem CG{xs:Td α}{x:α}(h:ix xs i=some x):0<=i/\xs[i.toNat]? =some x:=by
 unfold ix at h;by_cases hi:0<=i
 .grind
 .simp[hi]at h
theorem C3(v:bQ P tb)(hs:cj ρ H D L)(B:d<E.n){A:TI}{y:Operand}{w:Ty}{xs:Td (I T)}{e:I T}(C:tb t=some A)(he:A.elem=some w)(j:szT w=szT T)(G:ev D x=some (.one (.l T xs)))(J:ev D y=some (.one (.i i)))(hi:ix xs i=some e):
  cZ P ⟨some d,.indexAddr t x y,ty,pos,af,gd⟩ E ρ H L h (.one (.q T e 0)):=by
 obtain⟨V,F⟩:=v.get C;obtain⟨W,z,_,g1,_,K,g3,_⟩:=F.elem w he;obtain⟨X,h1,h2⟩:=bf hs G;obtain⟨u,rfl,M⟩:=h2.bi;obtain⟨es,rfl,h4⟩:=M.list;obtain⟨aw,k1,N⟩:=bf hs J;obtain⟨u,rfl,O⟩:=N.bi;cases O.int;obtain⟨Q,R⟩:=CG hi;obtain⟨Y,S,U⟩:=h4.elem R;exact⟨_,.one (.q (off:=0) U),Abs.bX F.tb h1 k1 g1 (K.trans j) (j▸g3) Q S B ⟨rfl,rfl⟩⟩
theorem DE(w:bQ P tb)(hs:cj ρ H D L)(G:HpR ρ H h)(M:d<E.n){J:TI}{y:Operand}{A:Ty}{xs:Td (I T)}{e:I T}(N:tb t=some J)(he:J.elem=some A)(j:szT A=szT T)(O:ev D x=some (.one (.o id)))(v:H[id]? =some (.row T n xs))(Q:ev D y=some (.one (.i i)))(hi:ix xs i=some e):
  cZ P ⟨some d,.indexAddr t x y,ty,pos,af,gd⟩ E ρ H L h (.one (.e id i.toNat n T e 0)):=by
 obtain⟨X,F⟩:=w.get N;obtain⟨Y,z,_,g1,_,R,g3,_⟩:=F.elem A he;obtain⟨Z,h1,h2⟩:=bf hs O;obtain⟨u,rfl,S⟩:=h2.bi;obtain⟨aw,k1,U⟩:=bf hs Q;obtain⟨u,rfl,V⟩:=U.bi;cases V.int;obtain⟨W,K⟩:=CG hi;have B:=(gI.1 K).1;rcases S.own v with⟨a,rfl,h4⟩|⟨_,h4⟩
 .obtain⟨es,C,h8⟩:=G.at_ h4 v;refine⟨_,.one (.e (off:=0) h4 v B (O3 _) (λ_=>K)),Abs.iu F.tb h1 k1 g1 C (R.trans j) (j▸g3) W A0 M ⟨?_,rfl⟩⟩;simp[Abs.bp]
 .rcases G.row id n T xs v with⟨a',es,C,_⟩|⟨_,C⟩
  .grind
  .grind
theorem Cb(hs:cj ρ H D L)(j:d<E.n){c a b:Operand}{v:AT}(hc:ev D c=some (.one (.b p)))(w:ev D (if p then a else b)=some v):cZ P ⟨some d,.pick c a b,ty,pos,af,gd⟩ E ρ H L h v:=by
 obtain⟨aw,k1,y⟩:=bf hs hc;obtain⟨u,rfl,A⟩:=y.bi;cases A.bool;obtain⟨t,h1,h2⟩:=bf hs w;cases p with
 |true=>exact⟨t,h2,Abs.yy k1 rfl h1 j ⟨rfl,rfl⟩⟩
 |false=>exact⟨t,h2,Abs.xx k1 rfl h1 j ⟨rfl,rfl⟩⟩
theorem NK(hs:cj ρ H D L)(j:d<E.n){t:TypeId}(v:ev D x=some (.one (.b p))):cZ P ⟨some d,.unOp .not t x,ty,pos,af,gd⟩ E ρ H L h (.one (.b (!p))):=by
 obtain⟨aw,k1,w⟩:=bf hs v;obtain⟨u,rfl,y⟩:=w.bi;cases y.bool;exact⟨_,.one (.fl .b),Abs.Hs k1 j ⟨rfl,rfl⟩⟩
theorem z7(hs:cj ρ H D L)(t:d<E.n){j:Nat}{xs:Td AT}{v:AT}(w:ev D x=some (.tup xs))(y:xs[j]? =some v):cZ P ⟨some d,.extract x j,ty,pos,af,gd⟩ E ρ H L h v:=by
 obtain⟨aw,k1,A⟩:=bf hs w;cases A with
 | tup hl B=>
  obtain⟨h1,rfl⟩:=gI.1 y;exact⟨_,B j h1 A0,Abs.tC k1 (O0 A0) t ⟨rfl,rfl⟩⟩
theorem Ku(hs:cj ρ H D L)(j:d<E.n)(t:ev D x=some (.one (.p id off))):cZ P ⟨some d,.nilCheck x,ty,pos,af,gd⟩ E ρ H L h (.one (.p id off)):=by
 obtain⟨y,h1,h2⟩:=bf hs t;obtain⟨v,rfl,w⟩:=h2.bi;obtain⟨a,rfl,h4⟩:=w.ptr;exact⟨_,h2,Abs.Cu h1 j ⟨rfl,rfl⟩⟩
theorem Jx(hs:cj ρ H D L)(j:d<E.n){y:I T}(t:ev D x=some (.one (.q T y off))):cZ P ⟨some d,.nilCheck x,ty,pos,af,gd⟩ E ρ H L h (.one (.q T y off)):=by
 obtain⟨A,h1,h2⟩:=bf hs t;obtain⟨v,rfl,w⟩:=h2.bi;obtain⟨vs,rfl,h4⟩:=w.qptr;exact⟨_,h2,Abs.Bl h1 j ⟨rfl,rfl⟩⟩
theorem Ov(y:bQ P tb)(hs:cj ρ H D L)(N:d<E.n){w:Nat}{K:TI}(C:tb w=some B)(O:tb t=some K)(hi:K.i64=true)(Q:ev D x=some (.one (.k .u8 a))):cZ P ⟨some d,.convert w t x,ty,pos,af,gd⟩ E ρ H L h (.one (.i a)):=by
 obtain⟨R,S⟩:=y.get C;obtain⟨i,F⟩:=y.get O;obtain⟨V,h1,h2⟩:=bf hs Q;obtain⟨v,rfl,T⟩:=h2.bi;cases T.qK;have e1:=S.ty;have e2:=F.ty;have M:=F.i64 hi;obtain⟨A,G⟩:∃A,A=R:=⟨_,rfl⟩;obtain⟨j,I⟩:∃j,j=i:=⟨_,rfl⟩;rw[<-G]at e1;rw[<-I]at e2 M;have tbl:Abs.cm P ([(w,A),(t,j)]:Abs.Tbl):=Abs.aV e1 (Abs.aV e2 (Abs.oS P));have l2:∃J,List.lookup t ([(w,A),(t,j)]:Abs.Tbl)=some J/\J.desc= .int .i64:=by
  by_cases e:t=w
  .grind
  .have U:(t==w)=false:=R1
   exact⟨j,by simp[OK,U],M⟩
 obtain⟨J,l3,l4⟩:=l2;exact⟨_,.one (.fl .i),Abs.uG tbl h1 (i:=A) A1 l3 l4 N ⟨rfl,rfl⟩⟩
theorem Jv(j:bQ P tb)(hs:cj ρ H D L)(A:d<E.n){y:TI}{s:Z}(B:tb t=some y)(w:y.str=true)(C:ev D x=some (.one (.s s))):
  cZ P ⟨some d,.call ⟨.builtin .len,#[x],#[t]⟩,ty,pos,af,gd⟩ E ρ H L h (.one (.i s.size)):=by
 obtain⟨i,F⟩:=j.get B;obtain⟨I,h1,h2⟩:=bf hs C;obtain⟨v,rfl,G⟩:=h2.bi;cases G.str;exact⟨_,.one (.fl .i),Abs.Em F.tb h1 F.look (F.str w) A ⟨rfl,rfl⟩⟩
theorem Lb(t:HpR ρ H h){c:C}{v:V}{n:Int}(hc:CR ρ H c v)(hl:zW H c=some n):∃m:Nat,n=m/\Abs.lenV v=some m:=by
 cases c<;>simp only[zW,OW,reduceCtorEq]at hl
 .subst hl;obtain⟨es,rfl,h4⟩:=hc.list;cases h4 with
  |l _ hl _ _=>exact⟨_,rfl,by simp[Abs.lenV,hl]⟩
 .subst hl;cases hc with
  |fl h=>cases h
  |lc h=>cases h with|l _ hl _ _=>exact⟨_,rfl,by simp[Abs.lenV,hl]⟩
 .subst hl;cases hc with
  |fl h=>cases h
  |nil _=>exact⟨0,rfl,rfl⟩
 .split at hl
  .rename_i T n xs d;cases hl;rcases hc.own d with⟨a,rfl,h4⟩|⟨rfl,h4⟩
   .exact⟨_,rfl,rfl⟩
   .rcases t.row _ n T xs d with⟨w,es,j,_⟩|⟨_,j⟩
    .grind
    .obtain⟨j,_⟩:=j;subst j;exact⟨0,rfl,rfl⟩
  .rename_i T xss ho d;cases hl;obtain⟨a,rfl,h4⟩:=hc.ownR d;exact⟨_,rfl,rfl⟩
  .cases hl
 .subst hl;cases hc with
  |fl h=>cases h
  |zs=>exact⟨0,rfl,rfl⟩
theorem LP(j:bQ P tb)(hs:cj ρ H D L)(y:HpR ρ H h)(A:d<E.n){c:C}{n:Int}(B:tb t=some w)(he:w.elem=some T)(G:ev D x=some (.one c))(hl:zW H c=some n):
  cZ P ⟨some d,.call ⟨.builtin .len,#[x],#[t]⟩,ty,pos,af,gd⟩ E ρ H L h (.one (.i n)):=by
 obtain⟨i,F⟩:=j.get B;obtain⟨J,z,_,g1,_⟩:=F.elem T he;obtain⟨K,h1,h2⟩:=bf hs G;obtain⟨v,rfl,I⟩:=h2.bi;obtain⟨m,rfl,h4⟩:=Lb y I hl;exact⟨_,.one (.fl .i),Abs.wy F.tb h1 h4 g1 A ⟨rfl,rfl⟩⟩
theorem FR.sub{xs:Td (I T)}(h:FR (.l T xs) (.imm (szT T) es))(lo hi:Nat):FR (.l T ((xs.take hi).drop lo)) (.imm (szT T) ((es.take hi).drop lo)):=by
 cases h with
 | l hp hl hs t=>
  refine .l hp (by simp[hl]) (λe he=>hs e (O6 (PT he))) (λm h1 h2 j d h4=> ?_);simp only[Px,PW]at d h4 ⊢;exact t (lo+m) I2 QM j d h4
theorem Fq{xs ys:Td α}(h:sub xs a b=some ys):0<=a/\a<=b/\b<=xs.length/\ys=(xs.take b.toNat).drop a.toNat:=by
 unfold sub at h;by_cases hc:(decide (0<=a)&&decide (a<=b)&&decide (b<=(xs.length:Int)))=true
 .grind
 .grind
theorem Hi(G:bQ P tb)(hs:cj ρ H D L)(O:d<E.n){N:TI}{lo hi:Y Operand}{J:Ty}{xs ys:Td (I T)}(Q:tb t=some N)(he:N.elem=some J)(j:szT J=szT T)(R:ev D x=some (.one (.l T xs)))
  (v:(match lo with|some y=>ev D y|none=>some (.one (.i 0)))=some (.one (.i a))) (w:(match hi with|some y=>ev D y|none=>some (.one (.i xs.length)))=some (.one (.i b))) (S:sub xs a b=some ys):
  cZ P ⟨some d,.slice t x lo hi none,ty,pos,af,gd⟩ E ρ H L h (.one (.l T ys)):=by
 obtain⟨W,F⟩:=G.get Q;obtain⟨X,z,_,g1,_,U,g3,_⟩:=F.elem J he;obtain⟨Z,h1,h2⟩:=bf hs R;obtain⟨u,rfl,V⟩:=h2.bi;obtain⟨es,rfl,h4⟩:=V.list;obtain⟨s1,s2,s3,rfl⟩:=Fq S;have bF:es.length=xs.length:=by cases h4 with|l _ hl _ _=>exact hl
 obtain⟨A,rfl⟩:∃A:Nat,a=A:=⟨a.toNat,A0⟩;obtain⟨B,rfl⟩:∃B:Nat,b=B:=⟨b.toNat,A0⟩;refine⟨_,.one (.fl (h4.sub A B)),Abs.iv (lo:=A) (hi:=B) (kl:=.i64) (kh:=.i64) F.tb h1 g1 (U.trans j) (j▸g3) ?_ ?_ A0 A0 O ⟨rfl,rfl⟩⟩
 .cases lo with
  |none=>simp only[OW,AT.one.injEq,C.i.injEq]at v;exact .inl ⟨rfl,A0⟩
  | some y=>
   obtain⟨aw,k1,K⟩:=bf hs v;obtain⟨u,rfl,M⟩:=K.bi;cases M.int;exact .inr ⟨y,rfl,k1⟩
 .cases hi with
  |none=>simp only[OW,AT.one.injEq,C.i.injEq]at w;exact .inl ⟨rfl,A0⟩
  | some y=>
   obtain⟨aw,k1,K⟩:=bf hs w;obtain⟨u,rfl,M⟩:=K.bi;cases M.int;exact .inr ⟨y,rfl,k1⟩
theorem GO{R:Type}{r:R}(hs:cj ρ H D L)(j:d<E.n){op:BinOp}{G J:TypeId}{y:Operand}{a b:C}{K:C->Y R}(O:ev D x=some (.one a))(Q:ev D y=some (.one b))(A:∀p,a= .b p->∃M,tb G=some M/\M.bool=true)(N:bQ P tb)(hk:KC op a b K=some r):
  ∃c,K c=some r/\cZ P ⟨some d,.binOp op G x y J,ty,pos,af,gd⟩ E ρ H L h (.one c):=by
 obtain⟨W,h1,h2⟩:=bf hs O;obtain⟨u,rfl,w⟩:=h2.bi;obtain⟨aw,k1,S⟩:=bf hs Q;obtain⟨T,rfl,v⟩:=S.bi;have I:∀(m n:Int)(k:IntKind),a= .i m->T= .lit (.int k n)->(op= .shl\/op= .shr)->(bif decide (0<=n)then K (.i (Abs.bz op .i64 m n))else none)=some r->∃c,K c=some r/\cZ P ⟨some d,.binOp op G x y J,ty,pos,af,gd⟩ E ρ H L h (.one c):=by
  rintro m n k rfl rfl ho hk;cases w.int;cases hp:decide (0<=n)with
  |false=>rw[hp]at hk;cases hk
  | true=>
   rw[hp]at hk;have B:0<=n:=by simpa using hp
   rcases ho with rfl|rfl
   .exact⟨_,hk,_,.one (.fl .i),Abs.Nw h1 k1 B j ⟨rfl,rfl⟩⟩
   .exact⟨_,hk,_,.one (.fl .i),Abs.FN h1 k1 B j ⟨rfl,rfl⟩⟩
 have plain:∀c,Km op a b=some c->K c=some r->∃c,K c=some r/\cZ P ⟨some d,.binOp op G x y J,ty,pos,af,gd⟩ E ρ H L h (.one c):=by
  intro c t hk;unfold Km at t;split at t
  .rename_i x y;cases w.int;cases v.int;split at t<;>first|(cases t;done)|cases t
   .exact⟨_,hk,_,.one (.fl .i),Abs.oD (op:=.add) rfl h1 k1 j ⟨rfl,rfl⟩⟩
   .exact⟨_,hk,_,.one (.fl .i),Abs.oD (op:=.sub) rfl h1 k1 j ⟨rfl,rfl⟩⟩
   .exact⟨_,hk,_,.one (.fl .i),Abs.oD (op:=.mul) rfl h1 k1 j ⟨rfl,rfl⟩⟩
   .exact SB
   .exact SC
   .exact SD
   .exact SE
   .exact SF
   .exact SG
   .exact⟨_,hk,_,.one (.fl .i),Abs.oJ (op:=.and) rfl h1 k1 j ⟨rfl,rfl⟩⟩
   .exact⟨_,hk,_,.one (.fl .i),Abs.oJ (op:=.or) rfl h1 k1 j ⟨rfl,rfl⟩⟩
   .exact⟨_,hk,_,.one (.fl .i),Abs.oJ (op:=.xor) rfl h1 k1 j ⟨rfl,rfl⟩⟩
   .exact⟨_,hk,_,.one (.fl .i),Abs.oJ (op:=.andNot) rfl h1 k1 j ⟨rfl,rfl⟩⟩
  .rename_i x y;cases w.bool;cases v.bool;obtain⟨M,U,hi⟩:=A x rfl;obtain⟨i,F⟩:=N.get U;split at t<;>first|(cases t;done)|cases t
   .exact⟨_,hk,_,.one (.fl .b),Abs.zJ (op:=.eql) F.tb rfl F.look (F.bool hi) h1 k1 j ⟨rfl,rfl⟩⟩
   .exact⟨_,hk,_,.one (.fl .b),Abs.zJ (op:=.neq) F.tb rfl F.look (F.bool hi) h1 k1 j ⟨rfl,rfl⟩⟩
  .rename_i x y;cases w.str;cases v.str;split at t<;>first|(cases t;done)|cases t
   .exact⟨_,hk,_,.one (.fl .b),Abs.eZ (op:=.eql) rfl h1 k1 j ⟨rfl,rfl⟩⟩
   .exact⟨_,hk,_,.one (.fl .b),Abs.eZ (op:=.neq) rfl h1 k1 j ⟨rfl,rfl⟩⟩
   .exact⟨_,hk,_,.one (.fl .b),Abs.eZ (op:=.lss) rfl h1 k1 j ⟨rfl,rfl⟩⟩
   .exact⟨_,hk,_,.one (.fl .b),Abs.eZ (op:=.leq) rfl h1 k1 j ⟨rfl,rfl⟩⟩
   .exact⟨_,hk,_,.one (.fl .b),Abs.eZ (op:=.gtr) rfl h1 k1 j ⟨rfl,rfl⟩⟩
   .exact⟨_,hk,_,.one (.fl .b),Abs.eZ (op:=.geq) rfl h1 k1 j ⟨rfl,rfl⟩⟩
  .rename_i kd x V y;cases w.qK;cases v.qK;split at t
   .rename_i he;have he:=ON he;subst he;split at t<;>first|(cases t;done)|cases t
    .exact⟨_,hk,_,.one (.fl .k),Abs.qc (op:=.add) rfl h1 k1 j ⟨rfl,rfl⟩⟩
    .exact⟨_,hk,_,.one (.fl .k),Abs.qc (op:=.sub) rfl h1 k1 j ⟨rfl,rfl⟩⟩
    .exact⟨_,hk,_,.one (.fl .k),Abs.qc (op:=.mul) rfl h1 k1 j ⟨rfl,rfl⟩⟩
    .exact SB
    .exact SC
    .exact SD
    .exact SE
    .exact SF
    .exact SG
    .exact⟨_,hk,_,.one (.fl .k),Abs.oe (op:=.and) rfl h1 k1 j ⟨rfl,rfl⟩⟩
    .exact⟨_,hk,_,.one (.fl .k),Abs.oe (op:=.or) rfl h1 k1 j ⟨rfl,rfl⟩⟩
    .exact⟨_,hk,_,.one (.fl .k),Abs.oe (op:=.xor) rfl h1 k1 j ⟨rfl,rfl⟩⟩
    .exact⟨_,hk,_,.one (.fl .k),Abs.oe (op:=.andNot) rfl h1 k1 j ⟨rfl,rfl⟩⟩
   .cases t
  .cases t
 unfold KC at hk;split at hk
 .rename_i x y;cases w.int;cases v.int;cases hp:(decide (0<=x)&&decide (0<y))with
  |false=>rw[hp]at hk;cases hk
  | true=>
   rw[hp]at hk;simp only[bA,O8]at hp;exact⟨_,hk,_,.one (.fl .i),Abs.Mz h1 k1 hp.1 hp.2 j ⟨rfl,rfl⟩⟩
 .rename_i x y;cases w.int;cases v.int;cases hp:(decide (0<=x)&&decide (0<y))with
  |false=>rw[hp]at hk;cases hk
  | true=>
   rw[hp]at hk;simp only[bA,O8]at hp;exact⟨_,hk,_,.one (.fl .i),Abs.MZ h1 k1 hp.1 hp.2 j ⟨rfl,rfl⟩⟩
 .exact I _ _ _ rfl v.int (.inl rfl) hk
 .exact I _ _ _ rfl v.int (.inr rfl) hk
 .exact I _ _ _ rfl v.qK (.inl rfl) hk
 .exact I _ _ _ rfl v.qK (.inr rfl) hk
 .rename_i x y;cases w.str;cases v.str;cases hp:decide (x.size+y.size<=1099511627776)with
  |false=>rw[hp]at hk;cases hk
  | true=>
   rw[hp]at hk;exact⟨_,hk,_,.one (.fl .s),Abs.D3 h1 k1 (ON hp) j ⟨rfl,rfl⟩⟩
 .rename_i x kd y;cases w.qK;cases v.qK;cases hp:decide (0<=y)with
  |false=>rw[hp]at hk;cases hk
  | true=>
   exact Sv
 .rename_i x y;cases w.qK;cases v.int;cases hp:decide (0<=y)with
  |false=>rw[hp]at hk;cases hk
  | true=>
   exact Sv
 .grind
theorem Ax{u:Nat}{i j:Abs.TyI}(h1:Abs.wK P t=some i)(h2:Abs.wK P u=some j):∃T:Abs.Tbl,Abs.cm P T/\T.lookup t=some i/\T.lookup u=some j:=by
 refine⟨[(t,i),(u,j)],Abs.aV h1 (Abs.aV h2 (Abs.oS P)),A1,?_⟩;by_cases e:u=t
 .grind
 .grind
theorem Jz(w:bQ P tb)(hs:cj ρ H D L)(J:d<E.n){sz:Nat}{y:TI}{cs:Td C}{v:AT}(K:tb t=some B)(M:ev D x=some (.agg cs))(N:B.fields[f]? =some (fo,ft,sz))(A:tb ft=some y)(hl:ld y.agg y.size (cs.drop fo)=some v):
  cZ P ⟨some d,.field t x f,ty,pos,af,gd⟩ E ρ H L h v:=by
 obtain⟨i,F⟩:=w.get K;obtain⟨j,G⟩:=w.get A;obtain⟨I,h1,h2⟩:=bf hs M;obtain⟨vs,rfl,O⟩:=h2.agg';obtain⟨Q,V⟩:=F.field f fo ft sz N;obtain⟨I,R,S⟩:=xI hl (O.drop fo);obtain⟨T,g1,U,g3⟩:=Ax F.ty G.ty;exact⟨I,S,Abs.KV g1 h1 U Q g3 (by rw[G.size,G.agg];exact R) J ⟨rfl,rfl⟩⟩
theorem lR{v:AT}{d:AV}{cs:Td C}(h:cells v=some cs)(j:ATR ρ H v d):∃vs,d.cells=some vs/\CRs ρ H cs vs:=by
 cases j with
 |one k=>cases h;exact⟨_,rfl,.cons k .fj⟩
 |agg k=>cases h;exact⟨_,rfl,k⟩
 |tup _ _=>cases h
inductive pA(ρ:Rho)(H:List Ob):List (Nat×List C)->List (Nat×List V)->Prop
 |nil:pA ρ H [] []
 |cons {i:Nat} {cs:List C} {vs:List V} {ps:List (Nat×List C)} {qs:List (Nat×List V)} (h:CRs ρ H cs vs) (k:pA ρ H ps qs):pA ρ H ((i,cs)::ps) ((i,vs)::qs)
theorem nM(hs:cj ρ H D L):∀{parts:Td (Nat×Operand)}{d:Td (Nat×Td C)},cH D parts=some d->∃j,Abs.cH L parts=some j/\pA ρ H d j
 |[],d,h=>by cases h;exact⟨[],rfl,.nil⟩
 | (i, x)::rest,d,h=>by
  simp only[cH]at h;split at h
  .rename_i vs j h1 h2;cases h;cases t:ev D x with
   |none=>rw[t]at h1;cases h1
   | some v=>
    rw[t]at h1;obtain⟨F,k1,w⟩:=bf hs t;obtain⟨us,y,A⟩:=lR h1 w;obtain⟨rs,B,E⟩:=nM hs h2;refine⟨(i,us)::rs,?_,.cons A E⟩;simp only[Abs.cH,k1,bS,y,B]
  .cases h
theorem CRs.bB{cs d:Td C}{vs us:Td V}(h:CRs ρ H cs vs)(k:CRs ρ H d us)(off:Nat):CRs ρ H (bB cs off d) (Abs.bB vs off us):=by
 unfold Den.bB Abs.bB;rw[k.1];exact(h.take off).app (k.app (h.drop _))
theorem KI{place:Nat->Y (Nat×Nat)}{d:Td (Nat×Td C)}{j:Td (Nat×Td V)}(hp:pA ρ H d j):∀{cs:Td C}{vs:Td V}{out:Td C},CRs ρ H cs vs->xU place cs d=some out->∃us,Abs.o7 place vs j=some us/\CRs ρ H out us:=by
 induction hp with
 |nil=>intro cs vs out h k;cases k;exact⟨vs,rfl,h⟩
 | @cons i y us d j hd hp v=>
  intro cs vs out h k;simp only[xU]at k;split at k
  .rename_i off size t;split at k
   .rename_i hc;simp only[bA]at hc;have c1:=OL hc.1;have c2:=O1 hc.2;obtain⟨zs,k1,w⟩:=v (h.bB hd off) k;refine⟨zs,?_,w⟩;simp only[Abs.o7,t];rw[mt]
    .exact k1
    .rw[hd.1]at c1 c2;rw[h.1]at c2;simp[c1];omega
   .cases k
  .cases k
theorem qB(k:IntKind):Abs.da (.int k 0)=true:=by cases k<;>decide
theorem JE{v:Value}{c:C}(h:zu v c=true):Abs.da v=true/\CR ρ H c (.lit v):=by
 unfold zu at h;split at h
 .exact⟨qB _,.fl .i⟩
 .simp only[beq_iff_eq]at h;subst h;exact⟨qB _,.fl .k⟩
 .exact⟨rfl,.fl .b⟩
 .rename_i x y;simp only[bA,beq_iff_eq]at h;have e:x=y:=by simp_all
  subst e;exact⟨by simp[Abs.da,h.1],.fl .s⟩
 .exact⟨rfl,.nil (by simpa [Ps]using h)⟩
 .exact⟨rfl,.zP⟩
 .exact⟨rfl,.zM⟩
 .exact⟨rfl,.zF⟩
 .cases h
theorem sj:∀{vs:Td Value}{cs:Td C},pd vs cs=true->vs.all Abs.da=true/\CRs ρ H cs (vs.map V.lit)
 |[],[],_=>⟨rfl,.fj⟩
 |[],_::_,h=>HC
 |_::_,[],h=>HC
 | v::vs,c::cs,h=>by
  simp only[pd,bA]at h;obtain⟨h1,h2⟩:=sj h.2;have key:=JE (ρ:=ρ) (H:=H) h.1;exact⟨by simp[key.1,h1],.cons key.2 h2⟩
theorem GY(v:bQ P tb)(hs:cj ρ H D L)(A:d<E.n){j:TI}{parts:Td (Nat×Operand)}{y:Td (Nat×Td C)}{cs:Td C}(B:tb t=some j)(hp:cH D parts=some y)(w:j.fields≠[])(G:xU (λk=>(j.fields[k]?).map λf=>(f.1,f.2.2)) j.zero y=some cs):
  cZ P ⟨some d,.build t parts.toArray,ty,pos,af,gd⟩ E ρ H L h (.agg cs):=by
 obtain⟨i,F⟩:=v.get B;obtain⟨M,h1,h2⟩:=nM hs hp;obtain⟨I,J⟩:=sj (ρ:=ρ) (H:=H) F.zero;obtain⟨us,K,h4⟩:=KI h2 J G;exact⟨_,.agg h4,Abs.xQ F.tb h1 F.look I F.zne (by rw[F.fields];exact w) (by rw[F.fields];exact K) F.fpos A ⟨rfl,rfl⟩⟩
theorem VR.immc_imm{I:Nat->Prop}{w:World}{s:Nat}{c:Value}(h:Abs.VR I w ι (.di s es) c):Abs.VR I w ι (.imm s es) c:=by
 cases h with
 |kc=>exact .eE (P6 _)
 |di hs hm j d t v=>exact .imm hs (O3 _) hm j d t v
def NU(E:Abs.Cx)(L:Env)(h:au)(v d:V):Prop:=∀ι I a w,Abs.Rel E L h ι I a w->∀u,Abs.VR I w ι v u->Abs.VR (λb=>b<w.heap.size) w [] d u
theorem gT{v:V}(d:v.flat=true):NU E L h v v:=λ_ _ _ _ r _ j=>(j.free (ι':=[]) d).aH (Abs.bj.refl _) ⟨r.imm,λ_ _=>rfl⟩
theorem Cl(A:HpR ρ H h){c c':C}{v:V}(hp:pZ H c=some c')(hc:CR ρ H c v):∃j,CR [] [] c' j/\j.flat=true/\NU E L h v j:=by
 cases c<;>simp only[pZ,OW,reduceCtorEq]at hp
 .subst hp;cases hc.int;exact⟨_,.fl .i,rfl,gT rfl⟩
 .subst hp;cases hc.qK;exact⟨_,.fl .k,rfl,gT rfl⟩
 .subst hp;cases hc.bool;exact⟨_,.fl .b,rfl,gT rfl⟩
 .subst hp;cases hc.str;exact⟨_,.fl .s,rfl,gT rfl⟩
 .subst hp;obtain⟨es,rfl,h4⟩:=hc.list;exact⟨_,.fl h4,rfl,gT rfl⟩
 .subst hp;cases hc with
  |fl h=>cases h
  |lc k=>exact⟨_,.fl k,rfl,λι I a w r u d=>VR.immc_imm (gT (E:=E) (L:=L) (h:=h) rfl ι I a w r u d)⟩
 .subst hp;cases hc with
  |fl h=>cases h
  |nil k=>exact⟨_,.fl (.fj k),rfl,λι I a w r u d=>RD⟩
 .split at hp
  .rename_i T n xs t;cases hp;rcases hc.own t with⟨a,rfl,h4⟩|⟨rfl,h4⟩
   .obtain⟨es,D,y⟩:=A.at_ h4 t;refine⟨_,.fl y,rfl,λι I F w r u d=> ?_⟩;have hl:es.length=xs.length:=by cases y with|l _ hl _ _=>exact hl
    have:=Abs.VR.lend r D y.fZ A0 d;rw[OQ,Pv A0]at this;exact this
   .rcases A.row _ n T xs t with⟨F,es,B,_⟩|⟨_,B,G⟩
    .grind
    .subst B;exact⟨_,.fl (.fj G),rfl,λι I a w r u d=>RD⟩
  .cases hp
 .subst hp;cases hc with
  |fl h=>cases h
  |zs=>exact⟨_,.zs,rfl,gT rfl⟩
def Lp(E:Abs.Cx)(L:Env)(h:au)(v d:AV):Prop:=∀ι I a w,Abs.Rel E L h ι I a w->∀u,Abs.AR ι I w v u->Abs.AR [] (λb=>b<w.heap.size) w d u
theorem w7(t:HpR ρ H h):∀{cs d:Td C}{vs:Td V},gb H cs=some d->CRs ρ H cs vs->∃us,CRs [] [] d us/\us.all V.flat=true/\vs.length=us.length/\∀(j:Nat)(h1:j<vs.length)(h2:j<us.length),NU E L h vs[j] us[j]
 | [],d,vs,hp,hc=>by
  cases hp;have:=hc.1;cases vs with
  |nil=>exact⟨[],.fj,rfl,rfl,λj h=>F1⟩
  |cons _ _=>simp at this
 | c::cs,d,vs,hp,hc=>by
  simp only[gb]at hp;split at hp
  .rename_i G w h1 h2;cases hp;cases vs with
   |nil=>have:=hc.1;simp at this
   | cons v vs=>
    obtain⟨u,k1,y,A⟩:=Cl (E:=E) (L:=L) t h1 (hc.2 0 A1 A1);obtain⟨us,m1,B,D,F⟩:=w7 t h2 (vs:=vs) ⟨by have:=hc.1;simpa using this,λj a b=>hc.2 (j+1) R4 R5⟩;refine⟨u::us,.cons k1 m1,by simp[y,B],by simp[D],λj a b=> ?_⟩;cases j with
    |zero=>exact A
    |succ j=>exact F j R4 R5
  .cases hp
theorem Hg(F:HpR ρ H h){x y:AT}{G:AV}(hp:jz H x=some y)(t:ATR ρ H x G):∃A,ATR [] [] y A/\A.flat=true/\Lp E L h G A:=by
 cases t with
 | @one c v k=>
  simp only[jz,Pb]at hp;obtain⟨c',h1,rfl⟩:=hp;obtain⟨M,k1,B,C⟩:=Cl (E:=E) (L:=L) F h1 k;exact⟨_,.one k1,B,λι I a w r u d=>by cases d with|one d=>exact .one (C ι I a w r u d)⟩
 | @agg cs vs k=>
  simp only[jz,Pb]at hp;obtain⟨N,h1,rfl⟩:=hp;obtain⟨us,k1,B,C,K⟩:=w7 (E:=E) (L:=L) F h1 k;refine⟨_,.agg k1,B,λι I a w r u d=> ?_⟩;cases d with
  |agg hl D t=>exact .agg (by rw[hl,C]) (λj J=>D j A0) (λj J=>K j A0 J ι I a w r _ (t j A0))
 |tup _ _=>cases hp
theorem AF(hs:cj ρ H D L):∀{ops:Td Operand}{xs:Td AT},evs D ops=some xs->∃avs,Abs.evs L ops=some avs/\xs.length=avs.length/\∀(j:Nat)(h1:j<xs.length)(h2:j<avs.length),ATR ρ H xs[j] avs[j]
 |[],xs,h=>by cases h;exact⟨[],rfl,rfl,λj h=>F1⟩
 | x::ops,xs,h=>by
  simp only[evs]at h;split at h
  .rename_i v vs h1 h2;cases h;obtain⟨d,k1,t⟩:=bf hs h1;obtain⟨avs,w,y,A⟩:=AF hs h2;refine⟨d::avs,by simp only[Abs.evs,k1,w],by simp[y],λj a b=> ?_⟩;cases j with
   |zero=>exact t
   |succ j=>exact A j R4 R5
  .cases h
theorem uE(v:HpR ρ H h):∀{xs ys:Td AT}{avs:Td AV},eH H xs=some ys->xs.length=avs.length->(∀(j:Nat)(h1:j<xs.length)(h2:j<avs.length),ATR ρ H xs[j] avs[j])->
  ∃d,ys.length=d.length/\(∀(j:Nat)(h1:j<ys.length)(h2:j<d.length),ATR [] [] ys[j] d[j])/\Abs.AV.fZ d=true/\avs.length=d.length/\∀(j:Nat)(h1:j<avs.length)(h2:j<d.length),Lp E L h avs[j] d[j]
 | [],ys,avs,hp,hl,t=>by
  cases hp;cases avs with
  |nil=>exact⟨[],rfl,λj h=>F1,rfl,rfl,λj h=>F1⟩
  |cons _ _=>simp at hl
 | x :: xs,ys,avs,hp,hl,t=>by
  simp only[eH]at hp;split at hp
  .rename_i y w h1 h2;cases hp;cases avs with
   |nil=>simp at hl
   | cons F avs=>
    obtain⟨A,k1,B,G⟩:=Hg (E:=E) (L:=L) v h1 (t 0 A1 A1);obtain⟨d,m1,I,C,D,J⟩:=uE v h2 (avs:=avs) QG (λj a b=>t (j+1) R4 R5);refine⟨A::d,by simp[m1],λj a b=> ?_,by simp[Abs.AV.fZ,B,C],by simp[D],λj a b=> ?_⟩
    .grind
    .grind
  .cases hp
theorem Ca{d:Rho}{h:Td Ob}{c:C}{v:V}(hs:iX c=true)(hc:CR d h c v):∃u,v= .lit u:=by
 cases c<;>simp only[iX,reduceCtorEq]at hs
 .exact⟨_,hc.int⟩
 .exact⟨_,hc.qK⟩
 .exact⟨_,hc.bool⟩
 .exact⟨_,hc.str⟩
theorem H9{ι':Td Abs.Inf}{I d:Nat->Prop}{w w':World}{u c:Value}(h:Abs.VR I w ι (.lit u) c):Abs.VR d w' ι' (.lit u) c:=by
 cases h with|lit h=>exact .lit h
theorem pC:∀{xs:Td AT},AT.iX.scals xs=true->∀x∈xs,x.iX=true
 |[],_,x,d=>QR
 | y::xs,h,x,d=>by
  simp only[AT.iX.scals,bA]at h;rcases List.mem_cons.1 d with rfl|d
  .exact h.1
  .exact pC h.2 x d
theorem JK{B:Rho}{G:Td Ob}{v:AT}{C:AV}(h:ATR B G v C)(hs:v.iX=true):∀ι I w ι' A w' c,Abs.AR ι I w C c->Abs.AR ι' A w' C c:=by
 induction h with
 | one k=>
  obtain⟨u,rfl⟩:=Ca (by simpa [AT.iX]using hs) k;intro ι I w ι' A w' c hc;cases hc with|one hc=>exact .one (H9 hc)
 | @agg cs vs k=>
  intro ι I w ι' A w' c hc;have hs:cs.all iX=true:=by simpa [AT.iX]using hs
  cases hc with
  | agg hl d F=>
   refine .agg hl d (λj t=> ?_);have y:j<cs.length:=by rw[k.1];exact t
   obtain⟨u,e⟩:=Ca (aT.1 hs _ (gM y)) (k.2 j y t);have:=F j t;rw[e]at this ⊢;exact H9 this
 | @tup xs ys hl F H=>
  intro ι I w ι' A w' c hc;have hs:=pC (by simpa [AT.iX]using hs:AT.iX.scals xs=true);cases hc with
  |tup D d E=>exact .tup D d (λj t=>H j A0 t (hs _ (gM A0)) _ _ _ _ _ _ _ (E j t))
theorem CR.up{d:Rho}{j:Td Ob}{c:C}{v:V}(t:fL c=true)(h:CR d j c v):CR ρ H c v:=by
 cases c<;>simp only[fL,reduceCtorEq]at t<;>(cases h with|fl h=>exact .fl h)
theorem uQ:∀{xs:Td AT},AT.flat.flatA xs=true->∀x∈xs,x.flat=true
 |[],_,x,d=>QR
 | y::xs,h,x,d=>by
  simp only[AT.flat.flatA,bA]at h;rcases List.mem_cons.1 d with rfl|d
  .exact h.1
  .exact uQ h.2 x d
theorem ATR.up{t:Rho}{y:Td Ob}{v:AT}{w:AV}(h:ATR t y v w)(d:v.flat=true):ATR ρ H v w:=by
 induction h with
 |one k=>exact .one (k.up (by simpa [AT.flat]using d))
 | @agg cs vs k=>
  have d:cs.all fL=true:=by simpa [AT.flat]using d
  exact .agg ⟨k.1,λj h1 h2=>(k.2 j h1 h2).up (aT.1 d _ (gM h1))⟩
 | @tup xs ys hl B A=>
  have d:=uQ (by simpa [AT.flat]using d:AT.flat.flatA xs=true);exact .tup hl (λj h1 h2=>A j h1 h2 (d _ (gM h1)))
theorem yB{c c':C}{v:V}(hp:pZ [] c=some c')(hc:CR ρ H c v):∃d,CR [] [] c' d/\d.flat=true/\∀I w ι u,Abs.VR I w ι v u->Abs.VR I w ι d u:=by
 cases c<;>simp only[pZ,OW,reduceCtorEq,List.getElem?_nil]at hp
 .subst hp;cases hc.int;exact⟨_,.fl .i,rfl,λ_ _ _ _ h=>h⟩
 .subst hp;cases hc.qK;exact⟨_,.fl .k,rfl,λ_ _ _ _ h=>h⟩
 .subst hp;cases hc.bool;exact⟨_,.fl .b,rfl,λ_ _ _ _ h=>h⟩
 .subst hp;cases hc.str;exact⟨_,.fl .s,rfl,λ_ _ _ _ h=>h⟩
 .subst hp;obtain⟨es,rfl,h4⟩:=hc.list;exact⟨_,.fl h4,rfl,λ_ _ _ _ h=>h⟩
 .subst hp;cases hc with
  |fl h=>cases h
  |lc k=>exact⟨_,.fl k,rfl,λ_ _ _ _ h=>VR.immc_imm h⟩
 .subst hp;cases hc with
  |fl h=>cases h
  |nil k=>exact⟨_,.fl (.fj k),rfl,λ_ _ _ _ j=>by cases j;exact .eE (P6 _)⟩
 .subst hp;cases hc with
  |fl h=>cases h
  |zs=>exact⟨_,.zs,rfl,λ_ _ _ _ h=>h⟩
theorem mz:∀{cs d:Td C}{vs:Td V},gb [] cs=some d->CRs ρ H cs vs->∃us,CRs [] [] d us/\us.all V.flat=true/\vs.length=us.length/\∀(j:Nat)(h1:j<vs.length)(h2:j<us.length),∀I w ι u,Abs.VR I w ι vs[j] u->Abs.VR I w ι us[j] u
 | [],d,vs,hp,hc=>by
  cases hp;have:=hc.1;cases vs with
  |nil=>exact⟨[],.fj,rfl,rfl,λj h=>F1⟩
  |cons _ _=>simp at this
 | c::cs,d,vs,hp,hc=>by
  simp only[gb]at hp;split at hp
  .rename_i F t h1 h2;cases hp;cases vs with
   |nil=>have:=hc.1;simp at this
   | cons v vs=>
    obtain⟨u,k1,y,A⟩:=yB h1 (hc.2 0 A1 A1);obtain⟨us,m1,B,D,E⟩:=mz h2 (vs:=vs) ⟨by have:=hc.1;simpa using this,λj a b=>hc.2 (j+1) R4 R5⟩;refine⟨u::us,.cons k1 m1,by simp[y,B],by simp[D],λj a b=> ?_⟩;cases j with
    |zero=>exact A
    |succ j=>exact E j R4 R5
  .cases hp
theorem uq{x y:AT}{D:AV}(hp:jz [] x=some y)(h:ATR ρ H x D):∃t,ATR [] [] y t/\t.flat=true/\∀ι I w u,Abs.AR ι I w D u->Abs.AR ι I w t u:=by
 cases h with
 | @one c v k=>
  simp only[jz,Pb]at hp;obtain⟨c',h1,rfl⟩:=hp;obtain⟨G,k1,A,B⟩:=yB h1 k;exact⟨_,.one k1,A,λι I w u d=>by cases d with|one d=>exact .one (B I w ι u d)⟩
 | @agg cs vs k=>
  simp only[jz,Pb]at hp;obtain⟨J,h1,rfl⟩:=hp;obtain⟨us,k1,A,B,F⟩:=mz h1 k;refine⟨_,.agg k1,A,λι I w u d=> ?_⟩;cases d with
  |agg hl C h=>exact .agg (by rw[hl,B]) (λj E=>C j A0) (λj E=>F j A0 E I w ι _ (h j A0))
 |tup _ _=>cases hp
end
end
def iR(F:In)(H:Td Ob)(ρ:Rho)(dst:Y Nat)(L:Env)(v:AT)(H':Td Ob):Env->au->Prop:=λh h2=>∃ρ' d,h=Abs.bp dst d L/\ATR ρ' H' v d/\HpR ρ' H' h2/\Ev ρ H ρ' H'/\Fr F ρ' H' h2
def eS(P:Program)(o:Oper)(E:Abs.Cx)(F:In)(D:Td (Nat×AT))(H:Td Ob)(v:AT)(H':Td Ob):Prop:=
 ∀ρ L h,cj ρ H D L->HpR ρ H h->Fr F ρ H h->ar P o E (iR F H ρ o.dst L v H') L h
section
variable {P : Program} {E : Abs.Cx} {F : In} {ρ : Rho} {H : Td Ob} {h : au} {L : Env} {o : Oper}
section
variable {K:Env->au->Prop}{α:Type}{x:Ob}{y:Y Abs.Ob}{id i a:Nat}{ρ':Rho}{H' H2:Td Ob}{h':au}
theorem nW{d:Env->au->Prop}(t:ar P o E K L h)(hk:∀j h2,K j h2->d j h2):ar P o E d L h:=
 ⟨λLf ι I a w r=>Abs.jj (λ_ _ ⟨_,_,ι',v,k,y⟩=>⟨_,_,ι',v,hk _ _ k,y⟩) (λ_ _ _ f=>f) (t.get Lf ι I a w r)⟩
theorem oY{t:Env->au->Prop}(y:ar P o E K L h)(hk:∀v h2,K v h2->∃d j,t d j/\∀Lf,Abs.br (v++Lf) h2 (d++Lf) j):ar P o E t L h:=
 ⟨λLf ι I a w r=>Abs.jj (λA w' ⟨_,_,ι',B,k,C⟩=>let⟨d,j,k',D⟩:=hk _ _ k;let⟨F,G⟩:=(D Lf).get E ι' B A w' C;⟨d,j,ι',F,k',G⟩) (λ_ _ _ f=>f) (y.get Lf ι I a w r)⟩
theorem HS{D:Td (Nat×AT)}{v:AT}(d:∀ρ L h,cj ρ H D L->HpR ρ H h->cZ P o E ρ H L h v):eS P o E F D H v H:=λρ L h hs hp j=>by
 obtain⟨t,h1,h2⟩:=d ρ L h hs hp;exact nW h2 λw h2 ⟨e1,e2⟩=>⟨ρ,t,e1,h1,e2▸hp,Ev.refl _ _,e2▸j⟩
theorem dO{l:Td α}{x y:α}(h:(l++[x])[id]? =some y):(id<l.length/\l[id]? =some y)\/(id=l.length/\x=y):=G1
theorem gi{l:Td α}{x y:α}(h:l[id]? =some y):(l++[x])[id]? =some y:=G1
theorem Ev.push(x:Y Nat)(y:Ob):Ev ρ H (ρ++[x]) (H++[y]):=⟨λ_ _ h=>gi h,λ_ x h=>⟨x,gi h,evo.refl x⟩⟩
def obR(ρ:Rho)(H:Td Ob):Ob->Y Abs.Ob->Prop
 | .row T _ xs,y=>∃es,y=some (.row (szT T) es)/\FR (.l T xs) (.imm (szT T) es)
 | .box cs,y=>∃vs:Td V,y=some (.row vs.length [vs])/\CRs ρ H cs vs
 | .map T kvs,y=>∃d,y=some (.map d)/\kvs.length=d.length/\0<szT T/\∀(j:Nat)(h1:j<kvs.length)(h2:j<d.length),kvs[j].1=d[j].1/\FRs (aC T kvs[j].2) d[j].2
 | .aQ,_=>True
 | .rows _ _ _,_=>True
theorem obR.mono{ρ:Rho}{H:Td Ob}(e:Ev ρ H ρ' H')(h:obR ρ H x y):obR ρ' H' x y:=by
 cases x with
 |box cs=>obtain⟨vs,h1,h2⟩:=h;exact⟨vs,h1,h2.mono e⟩
 |row T n xs=>exact h
 |map T kvs=>exact h
 |aQ=>trivial
 |rows T xss ho=>trivial
theorem HpR.mk'{ρ:Rho}{H:Td Ob}{h:au}(len:ρ.length=H.length)(ob:∀(id:Nat)(x:Ob),H[id]? =some x->(∃a y,ρ[id]? =some (some a)/\h[a]? =some y/\obR ρ H x y)\/(ρ[id]? =some none/\∃T n,x= .row T n []/\0<szT T)\/x.dead=true)
  (inj:∀(i j a:Nat),ρ[i]? =some (some a)->ρ[j]? =some (some a)->live H i->live H j->i=j) (lt:∀(i a:Nat),ρ[i]? =some (some a)->a<h.length):HpR ρ H h:=by
 refine⟨len,λid n T xs d=> ?_,λid cs d=> ?_,λid T kvs d=> ?_,inj,lt⟩
 .rcases ob id _ d with⟨a,y,h1,h2,es,rfl,h4⟩|⟨h1,t,n',h2,v⟩|h1
  .grind
  .grind
  .cases h1
 .rcases ob id _ d with⟨a,y,h1,h2,vs,rfl,h4⟩|⟨h1,t,n',h2,v⟩|h1
  .grind
  .cases h2
  .cases h1
 .rcases ob id _ d with⟨a,y,h1,h2,w,rfl,h4⟩|⟨h1,t,n',h2,v⟩|h1
  .grind
  .cases h2
  .cases h1
theorem HpR.ob{ρ:Rho}{H:Td Ob}{h:au}(hp:HpR ρ H h)(j:H[id]? =some x):(∃a y,ρ[id]? =some (some a)/\h[a]? =some y/\obR ρ H x y)\/(ρ[id]? =some none/\∃T n,x= .row T n []/\0<szT T)\/x.dead=true:=by
 cases x with
 | row T n xs=>
  rcases hp.row id n T xs j with⟨a,es,h1,h2,d⟩|⟨h1,rfl,d⟩
  .exact .inl ⟨a,_,h1,h2,es,rfl,d⟩
  .grind
 |box cs=>obtain⟨a,vs,h1,h2,d⟩:=hp.box id cs j;exact .inl ⟨a,_,h1,h2,vs,rfl,d⟩
 |map T kvs=>obtain⟨a,t,h1,h2,d⟩:=hp.map id T kvs j;exact .inl ⟨a,_,h1,h2,t,rfl,d⟩
 |aQ=>exact .inr (.inr rfl)
 |rows T xss ho=>exact .inr (.inr rfl)
theorem pz{H:Td Ob}(h:live (H++[x]) i)(hi:i<H.length):live H i:=by
 obtain⟨y,h1,h2⟩:=h;rw[aL hi]at h1;exact⟨y,h1,h2⟩
theorem HpR.push(hp:HpR ρ H h)(t:obR (ρ++[some h.length]) (H++[x]) x y):HpR (ρ++[some h.length]) (H++[x]) (h++[y]):=by
 refine HpR.mk' RC (λid z v=> ?_) (λi j a h1 h2 l1 l2=> ?_) (λi a h1=> ?_)
 .rcases dO v with⟨_,h1⟩|⟨rfl,rfl⟩
  .rcases hp.ob h1 with⟨a,w,k1,d,A⟩|⟨k1,d⟩|k1
   .exact .inl ⟨a,w,gi k1,gi d,A.mono (Ev.push _ _)⟩
   .grind
   .grind
  .refine .inl ⟨h.length,y,?_,A1,t⟩;rw[<-hp.len];simp
 .rcases dO h1 with⟨_,k1⟩|⟨e1,k1⟩<;>rcases dO h2 with⟨_,d⟩|⟨e2,d⟩
  .exact hp.inj i j a k1 d (pz l1 Ra) (pz l2 Ra)
  .cases d;have:=hp.lt _ _ k1;omega
  .cases k1;have:=hp.lt _ _ d;omega
  .omega
 .rcases dO h1 with⟨_,k1⟩|⟨e1,k1⟩
  .have:=hp.lt _ _ k1;simp;omega
  .cases k1;simp
theorem HpR.ny(hp:HpR ρ H h){T:Ty}(t:0<szT T):HpR (ρ++[none]) (H++[.row T 0 []]) h:=by
 refine HpR.mk' RC (λid z v=> ?_) (λi j a h1 h2 l1 l2=> ?_) (λi a h1=> ?_)
 .rcases dO v with⟨_,h1⟩|⟨rfl,rfl⟩
  .rcases hp.ob h1 with⟨a,w,k1,d,y⟩|⟨k1,d⟩|k1
   .exact .inl ⟨a,w,gi k1,d,y.mono (Ev.push _ _)⟩
   .grind
   .grind
  .refine .inr (.inl ⟨?_,T,0,rfl,t⟩);rw[<-hp.len];simp
 .rcases dO h1 with⟨_,k1⟩|⟨e1,k1⟩<;>rcases dO h2 with⟨_,d⟩|⟨e2,d⟩<;>first|exact hp.inj i j a k1 d (pz l1 Ra) (pz l2 Ra)|(cases d;done)|(cases k1;done)
 .rcases dO h1 with⟨_,k1⟩|⟨e1,k1⟩
  .exact hp.lt _ _ k1
  .cases k1
theorem jI{l:Td α}{j:Nat}{x y:α}(h:(l.set i x)[j]? =some y):(j=i/\x=y/\i<l.length)\/(j≠i/\l[j]? =some y):=G1
theorem Ev.set{d:Ob}(h0:H[id]? =some d)(he:evo d x):Ev ρ H ρ (H.set id x):=⟨λ_ _ h=>h,λj z t=>by
 by_cases e:j=id
 .grind
 .exact⟨z,by rw[sN (λx=>e x.symm)];exact t,evo.refl z⟩⟩
theorem HpR.set(hp:HpR ρ H h){B:Ob}(d:ρ[id]? =some (some a))(h0:H[id]? =some B)(C:B.dead=false)(he:evo B x)(E:obR ρ (H.set id x) x y):HpR ρ (H.set id x) (h.set a y):=by
 have v:Ev ρ H ρ (H.set id x):=Ev.set h0 he;have w:∀{i:Nat},live (H.set id x) i->live H i:=λ{i} l=>v.lv Rn l
 refine HpR.mk' RC (λj z F=> ?_) (λi j a k1 A l1 l2=>hp.inj i j a k1 A (w l1) (w l2)) (λi b h1=>by rw[PS];exact hp.lt _ _ h1);rcases jI F with⟨rfl,rfl,_⟩|⟨D,h1⟩
 .exact .inl ⟨a,y,d,sS (hp.lt _ _ d),E⟩
 .rcases hp.ob h1 with⟨b,G,k1,A,I⟩|⟨k1,A⟩|k1
  .by_cases t:z.dead=true
   .grind
   have t:z.dead=false:=QD
   refine .inl ⟨b,G,k1,?_,I.mono v⟩;rw[sN (λe=>D (hp.inj _ _ b k1 (by rw[<-e];exact d) ⟨_,h1,t⟩ ⟨_,h0,C⟩))];exact A
  .grind
  .grind
theorem Fr.step(j:Fr F ρ H h)(he:Ev ρ H ρ' H')(hl:h.length<=h'.length)(w:∀(id a:Nat),ρ'[id]? =some (some a)->live H' id->(∃d,ρ[d]? =some (some a)/\live H d)\/h.length<=a)
  (hs:∀(a:Nat),a<h.length->(∀(id:Nat),ρ[id]?=some (some a)->¬live H id)->h'[a]? =h[a]?):Fr F ρ' H' h' where
 len:=P3 j.len hl
 old:=λid a h1 t h2=>by
  rcases w id a h1 t with⟨d,k,l⟩|k
  .exact j.old d a k l h2
  .have:=j.len;omega
 same:=λa h1 h2=>by
  rw[hs a (by have:=j.len;omega) (λid hid l=>let⟨d,k1,v⟩:=j.old id a hid l h1;h2 d k1 v)];exact j.same a h1 h2
 rho:=λid x h1=>he.rho _ _ (j.rho id x h1)
 ob:=λid x h1=>by
  obtain⟨y,k1,v⟩:=j.ob id x h1;obtain⟨z,A,B⟩:=he.ob id y k1;exact⟨z,A,B.old v⟩
theorem Fr.push(hl:ρ.length=H.length)(d:Fr F ρ H h)(x:Ob)(y:Y Abs.Ob):Fr F (ρ++[some h.length]) (H++[x]) (h++[y]):=
 d.step (Ev.push _ _) A1 (λid a h1 l=>by rcases dO h1 with⟨hi,k⟩|⟨_,k⟩;exact .inl ⟨id,k,pz l (by rw[<-hl];exact hi)⟩;cases k;exact .inr (O3 _)) (λa h1 _=>aL h1)
theorem Fr.ny(hl:ρ.length=H.length)(d:Fr F ρ H h)(x:Ob):Fr F (ρ++[none]) (H++[x]) h:=
 d.step (Ev.push _ _) (O3 _) (λid a h1 l=>by rcases dO h1 with⟨hi,k⟩|⟨_,k⟩;exact .inl ⟨id,k,pz l (by rw[<-hl];exact hi)⟩;cases k) (λa h1 _=>rfl)
theorem Fr.set(v:Fr F ρ H h){d:Ob}(j:ρ[id]? =some (some a))(h0:H[id]? =some d)(t:d.dead=false)(he:evo d x):Fr F ρ (H.set id x) (h.set a y):=
 v.step (Ev.set h0 he) A1 (λid a h1 l=>.inl ⟨id,h1,(Ev.set (ρ:=ρ) h0 he).lv Rn l⟩) (λb h1 h2=>sN (λe=>h2 id (by rw[<-e];exact j) ⟨_,h0,t⟩))
theorem Ev.trans{d j:Rho}{t:Td Ob}(a:Ev ρ H d t)(b:Ev d t j H2):Ev ρ H j H2:=⟨λ_ _ h=>b.rho _ _ (a.rho _ _ h),λid x h=>by
 obtain⟨y,k1,v⟩:=a.ob id x h;obtain⟨z,w,A⟩:=b.ob id y k1;exact⟨z,w,v.trans A⟩⟩
theorem Fr.refl(ρ:Rho)(H:Td Ob)(h:au):Fr ⟨h,ρ,H⟩ ρ H h:=⟨O3 _,λid _ h l _=>⟨id,h,l⟩,λ_ _ _=>rfl,λ_ _ h=>h,λ_ x h=>⟨x,h,fG.refl x⟩⟩
theorem Fr.trans(a:Fr F ρ H h)(b:Fr ⟨h,ρ,H⟩ ρ' H' h'):Fr F ρ' H' h' where
 len:=P3 a.len b.len
 old:=λid x h1 h2 t=>by
  obtain⟨d,k1,j⟩:=b.old id x h1 h2 (PD t a.len);exact a.old d x k1 j t
 same:=λx h1 h2=>by
  rw[b.same x (PD h1 a.len) (λid k l=>let⟨d,k1,j⟩:=a.old id x k l h1;h2 d k1 j)];exact a.same x h1 h2
 rho:=λid x h1=>b.rho _ _ (a.rho _ _ h1)
 ob:=λid x h1=>by
  obtain⟨y,k1,j⟩:=a.ob id x h1;obtain⟨z,v,w⟩:=b.ob id y k1;exact⟨z,v,j.trans w⟩
def cq(H H':Td Ob):Prop:=∀(id:Nat)(y:Ob),H'[id]? =some y->y.fA=true->H[id]? =some y
theorem cq.refl(H:Td Ob):cq H H:=λ_ _ h _=>h
theorem cq.trans{d j:Td Ob}(a:cq d H2)(b:cq H2 j):cq d j:=λid y h t=>a id y (b id y h t) t
theorem XR.aH(E:XR F ρ H h)(t:Fr ⟨h,ρ,H⟩ ρ' H' h')(hs:cq H H'):XR F ρ' H' h':=λid T xss ho G=>by
 obtain⟨u,a,es,X⟩:=E id T xss ho (hs id _ G rfl);have nl:∀b,b<h.length->kL ρ H b->kL ρ' H' b:=λb w A j I hl=>by
  obtain⟨B,k1,J⟩:=t.old j b I hl w;exact A B k1 J
 have same:∀b,b<h.length->kL ρ H b->h'[b]? =h[b]? :=λb w A=>t.same b w λid k=>A id k;have C:a<h.length:=(gI.1 X.aq).1;have bF:=t.len;refine⟨λid' y K d=>u id' y (hs id' y K d) d,a,es,t.rho _ _ X.rho,by rw[same a C X.nl];exact X.aq,X.len,X.pos,X.one,nl a C X.nl,X.old,X.new,λk xs e h1 h2 D=> ?_,λk b n h1 h2=> ?_,X.inj⟩
 .rcases X.sub k xs e h1 h2 D with l|⟨b,es',rfl,g1,v⟩
  .exact .inl l
  .obtain⟨_,g3,g4,_⟩:=X.aA k b _ h1 D;exact .inr ⟨b,es',rfl,by rw[same b g3 g4];exact g1,v⟩
 .obtain⟨g1,v,g3,g4⟩:=X.aA k b n h1 h2;exact⟨g1,PD v bF,nl b v g3,g4⟩
theorem XR.none_(h0:∀(id:Nat)(y:Ob),H[id]? =some y->y.fA=false):XR F ρ H h:=λid T xss ho d=>by
 have:=h0 id _ d;cases this
end
end
end
end Go.Proofs.YtkegnipofloejaaGreatDoor.Den
namespace Go.Proofs.YtkegnipofloejaaGreatDoor.Abs
open Go.RowKit
theorem nc{P:Program}{E:Cx}{K:Env->au->Prop}{L:Env}{h:au}{d:Nat}{ty:TypeId}{pos:String}{af:Array Edge}{gd:Y (Nat×Bool)}{tb:Tbl}(C:cm P tb){t tx:TypeId}{x y:Operand}{s:Nat}{B:ElI}(M:ev L x=some (.one (.lit (.slice none 0 0))))(he:du tb t=some B)(G:B.zero≠[])(N:B.zero.length=B.size)(hs:B.size=s)
  (v:o8 P E L h s tx y []) (O:d<E.n) (hk:K ((d,.one (.lit (.slice none 0 0)))::L) h):ar P ⟨some d,.call ⟨.builtin .append,#[x,y],#[t,tx]⟩,ty,pos,af,gd⟩ E K L h:=by
 refine bO rfl O (λι I a w r=> ?_) hk;obtain⟨j,z,g1,R,g3,g4,S⟩:=nq C he G N;obtain⟨u1,u2,_⟩:=bI C he;obtain⟨D,F,H,Q⟩:=v ι I a w r;have J:D=[]:=by have:=H.1;simpa using this
 subst J;have A:Src P j.size tx (a.eval y) 0 [] w:=by rw[g4,hs];exact F
 have hc:=(r.ev M).lit.1;refine⟨.slice none 0 0,?_,.one (.lit trivial)⟩;rw[d7,hc,run_append_nothing w t tx ty B.t j u1 g1 none 0 0 (O3 _) (a.eval y) A];rfl
theorem Rel.imp{E:Cx}{L:Env}{h:au}{ι:Td Inf}{I:Nat->Prop}{a:Act}{w:World}(r:Rel E L h ι I a w){id s:Nat}{es es':Td (Td V)}(ho:h[id]? =some (some (.row s es)))(hl:es.length=es'.length)(hs:∀e∈es',e.length=s)
  (hi:∀(k:Nat)(h1:k<es.length)(h2:k<es'.length)(j:Nat)(g1:j<es[k].length)(N:j<es'[k].length)(I:Nat->Prop)(w:World)(ι:Td Inf)(u:Value),VR I w ι es[k][j] u->VR I w ι es'[k][j] u):Rel E L (h.set id (some (.row s es'))) ι I a w:=
 { r with
   heap := by
     refine⟨QK,λi o f x y=> ?_,λi o f x y=> ?_,λi O o o' f B x G y C e=> ?_,r.heap.sub⟩
     · rcases cD x with⟨rfl,x,_⟩|⟨_,x⟩
       · cases x
         obtain⟨cur,t,h1,h2,H,h4,P,J,K⟩:=r.heap.obj i _ f ho y;refine⟨cur,t,h1,h2,H,h4,A0,hs,λk hk j D=> ?_⟩;have d:k<es.length:=A0
         have v:j<es[k].length:=by rw[J _ (gM d)];rw[hs _ (gM hk)]at D;exact D
         obtain⟨u,k1,M⟩:=K k d j v;exact⟨u,k1,hi k d hk j v D I w ι u M⟩
       · exact r.heap.obj i o f x y
     · rcases cD x with⟨rfl,x,_⟩|⟨_,x⟩
       · exact r.heap.off i _ f ho y
       · exact r.heap.off i o f x y
     · rcases cD x with⟨e1,F,_⟩|⟨_,F⟩
       · rcases cD G with⟨e2,A,_⟩|⟨_,A⟩
         · rw[e1,e2]
         · subst e1;exact r.heap.inj _ _ _ _ f B ho A y C e
       · rcases cD G with⟨e2,A,_⟩|⟨_,A⟩
         · subst e2;exact r.heap.inj _ _ _ _ f B F ho y C e
         · exact r.heap.inj _ _ _ _ f B F A y C e
   cA:=λi o f x y=>by
     rcases cD x with⟨rfl,x,_⟩|⟨_,x⟩
     · exact r.cA i _ f ho y
     · exact r.cA i o f x y}
end Go.Proofs.YtkegnipofloejaaGreatDoor.Abs
namespace Go.Proofs.YtkegnipofloejaaGreatDoor.Den
open Go.RowKit
open Abs (V AV Env au ar)
def Imp(v d:V):Prop:=∀(I:Nat->Prop)(w:World)(ι:Td Abs.Inf)(u:Value),Abs.VR I w ι v u->Abs.VR I w ι d u
theorem Imp.refl(v:V):Imp v v:=λ_ _ _ _ h=>h
def ke(a b:Td V):Prop:=a.length=b.length/\∀(j:Nat)(h1:j<a.length)(h2:j<b.length),Imp a[j] b[j]
theorem ke.refl(a:Td V):ke a a:=⟨rfl,λ_ _ _=>Imp.refl _⟩
inductive jA:List (List V)->List (List V)->Prop
 |nil:jA [] []
 |cons {a b:List V} {aa bs:List (List V)} (h:ke a b) (k:jA aa bs):jA (a::aa) (b::bs)
theorem jA.len{a b:Td (Td V)}(h:jA a b):a.length=b.length:=by induction h with|nil=>rfl|cons _ _ d=>simp[d]
theorem jA.at_{a b:Td (Td V)}(h:jA a b):∀(k:Nat)(h1:k<a.length)(h2:k<b.length),ke a[k] b[k]:=by
 induction h with
 |nil=>intro k h1;simp at h1
 | cons h k d=>
  intro m h1 h2;cases m with
  |zero=>exact h
  |succ m=>exact d m Hd Hm
theorem jA.refl:∀(a:Td (Td V)),jA a a
 |[]=>.nil
 |x::a=>.cons (ke.refl x) (jA.refl a)
section
variable {P : Program} {E : Abs.Cx} {F : In} {ρ : Rho} {H : Td Ob} {D : Td (Nat × AT)} {L : Env} {h : au} {d : Nat} {ty : TypeId} {pos : String} {af : Array Edge} {gd : Y (Nat × Bool)} {tb : Nat → Y TI}
section
variable {s t:Nat}{es:Td (Td V)}{T:Ty}{e:Td V}{c:C}{cs:Td C}{y:Operand}{parts:Td (Nat×Operand)}{α:Type}{n:Int}
theorem br.imp{id:Nat}{es':Td (Td V)}(ho:h[id]? =some (some (.row s es)))(hi:jA es es')(hs:∀e∈es',e.length=s):Abs.br L h L (h.set id (some (.row s es'))):=
 ⟨λ_ _ I _ _ r=>⟨I,r.imp ho hi.len hs (λk h1 h2 j g1 d=>(hi.at_ k h1 h2).2 j g1 d)⟩⟩
inductive FRl(T:Ty):List (I T)->List (List V)->Prop
 |nil:FRl T [] []
 |cons {x:I T} {e:List V} {xs:List (I T)} {es:List (List V)} (h:FRs (aC T x) e) (k:FRl T xs es):FRl T (x::xs) (e::es)
theorem FRl.fr(d:0<szT T){xs:Td (I T)}(h:FRl T xs es):FR (.l T xs) (.imm (szT T) es):=by
 have key:es.length=xs.length/\(∀e∈es,e.length=szT T)/\∀(m:Nat)(h1:m<xs.length)(h2:m<es.length),FRs (aC T xs[m]) es[m]:=by
  induction h with
  |nil=>exact⟨rfl,λe he=>by simp at he,λm h1=>by simp at h1⟩
  | cons h k t=>
   obtain⟨v,w,A⟩:=t;refine⟨by simp[v],λe he=> ?_,λm h1 h2=> ?_⟩
   .rcases List.mem_cons.1 he with rfl|he
    .rw[<-h.1,df T d]
    .exact w e he
   .grind
 exact .l d key.1 key.2.1 (λm h1 h2 j y h4=>(key.2.2 m h1 h2).2 j y h4)
theorem FR.frl{xs:Td (I T)}(h:FR (.l T xs) (.imm (szT T) es)):FRl T xs es:=by
 cases h with
 | l hp hl hs d=>
  have:∀(xs:Td (I T))(es:Td (Td V)),es.length=xs.length->(∀(m:Nat)(h1:m<xs.length)(h2:m<es.length),FRs (aC T xs[m]) es[m])->FRl T xs es:=by
   intro xs
   induction xs with
   |nil=>intro es hl _;cases es with|nil=>exact .nil|cons=>simp at hl
   | cons x xs t=>
    intro es hl h;cases es with
    |nil=>simp at hl
    |cons e es=>exact .cons (h 0 A1 A1) (t es QG (λm h1 h2=>h (m+1) Hd Hm))
  refine this xs es hl (λm h1 h2=>⟨?_,λj v h4=>d m h1 h2 j v h4⟩);rw[df T hp,hs _ (gM h2)]
theorem FRl.app{xs ys:Td (I T)}{ns:Td (Td V)}(h:FRl T xs es)(k:FRl T ys ns):FRl T (xs++ys) (es++ns):=by
 induction h with
 |nil=>exact k
 |cons h _ d=>exact .cons h d
theorem FRl.len{xs:Td (I T)}(h:FRl T xs es):es.length=xs.length:=by induction h with|nil=>rfl|cons _ _ d=>simp[d]
theorem FRl.rep{x:I T}(h:FRs (aC T x) e):∀n,FRl T (List.replicate n x) (List.replicate n e)
 |0=>.nil
 |n+1=>.cons h (FRl.rep h n)
theorem FRl.set{x:I T}(d:FRs (aC T x) e){xs:Td (I T)}(h:FRl T xs es):∀k,FRl T (xs.set k x) (es.set k e):=by
 induction h with
 |nil=>intro k;exact .nil
 | cons h k j=>
  intro m;cases m with
  |zero=>exact .cons d k
  |succ m=>exact .cons h (j m)
theorem kO{v:V}(d:fL c=true)(h:CR [] [] c v):FR c v:=by
 cases c<;>simp only[fL,reduceCtorEq]at d<;>(cases h with|fl h=>exact h)
theorem iS(d:0<szT T)(x:I T):(aC T x).all fL=true:=by
 unfold aC;split<;>rfl
theorem CN{d:Td C}{vs:Td V}(t:0<szT T){x:I T}(hp:gb [] cs=some d)(hi:jJ T d=some x)(hc:CRs ρ H cs vs):∃us,FRs (aC T x) us/\ke vs us:=by
 obtain⟨us,h1,_,v,h4⟩:=mz hp hc;have e:=iD hi;have h:=iS t x;rw[e]at h ⊢;exact⟨us,⟨h1.1,λj k1 w=>kO (aT.1 h _ (gM k1)) (h1.2 j k1 w)⟩,v,h4⟩
theorem DQ{v:Value}(h:sB v c=true):Abs.da v=true/\∃u,FR c u/\Imp (.lit v) u:=by
 unfold sB at h;split at h
 .exact⟨A3,_,.i,Imp.refl _⟩
 .exact⟨A3,_,.k,Imp.refl _⟩
 .exact⟨rfl,_,.b,Imp.refl _⟩
 .rename_i x y;simp only[bA,beq_iff_eq]at h;have e:x=y:=by simp_all
  subst e;exact⟨by simp[Abs.da,h.1],_,.s,Imp.refl _⟩
 .exact⟨rfl,_,FR.fj (by simpa [Ps]using h),λI w ι u d=>RD⟩
 .cases h
theorem jq:∀{vs:Td Value}{cs:Td C},g9 vs cs=true->vs.all Abs.da=true/\∃us,FRs cs us/\ke (vs.map V.lit) us
 |[],[],_=>⟨rfl,[],⟨rfl,λj h=>F1⟩,rfl,λj h=>F1⟩
 |[],_::_,h=>HC
 |_::_,[],h=>HC
 | v::vs,c::cs,h=>by
  simp only[g9,bA]at h;obtain⟨h1,u,y,h4⟩:=DQ h.1;obtain⟨k1,us,t,w⟩:=jq h.2;refine⟨by simp[h1,k1],u::us,⟨by simp[t.1],λj g1 d=> ?_⟩,by simpa using w.1,λj g1 d=> ?_⟩
  .cases j with
   |zero=>exact y
   |succ j=>exact t.2 j Rc QO
  .cases j with
   |zero=>exact h4
   |succ j=>exact w.2 j Rc QO
theorem wk:∀{w cs:Td C}{us vs:Td V},FRs w us->CRs ρ H cs vs->CRs ρ H (qO w cs) vs
 |[],_,_,_,_,h=>h
 | t::w,[],_,_,_,h=>by
  have:qO (t::w) []=[]:=by cases t<;>rfl
  rw[this];exact h
 | t::w,c::cs,us,vs,D,h=>by
  obtain⟨u,us,rfl⟩:∃u E,us=u::E:=by
   cases us with
   |nil=>have:=D.1;simp at this
   |cons u us=>exact⟨u,us,rfl⟩
  obtain⟨v,vs,rfl⟩:∃v F,vs=v::F:=by
   cases vs with
   |nil=>have:=h.1;simp at this
   |cons v vs=>exact⟨v,vs,rfl⟩
  have G:FR t u:=D.2 0 A1 A1;have I:FRs w us:=⟨by have:=D.1;simpa using this,λj g1 y=>D.2 (j+1) Rc Ry⟩;have h0:CR ρ H c v:=h.2 0 A1 A1;have K:CRs ρ H cs vs:=⟨R8,λj g1 y=>h.2 (j+1) Rc Ry⟩;have J:=wk I K
  have cons:∀{d:C},CR ρ H d v->CRs ρ H (d::qO w cs) (v::vs):=λ{d} hd=>⟨by simp[J.1],λj g1 y=>by
   cases j with
   |zero=>exact hd
   |succ j=>exact J.2 j Rc Ry⟩
  unfold qO;split
  .rename_i A B;cases A;cases B;refine cons ?_;have L:v= .lit (.slice none 0 0):=by
    cases h0 with
    |fl h=>cases h
    |zs=>rfl
   rw[L];cases G with
   |l hp _ _ _=>exact .nil hp
  .grind
  .omega
theorem mn{T:Ty}(w:0<szT T){z:I T}{zs j:Td V}(t:FRs (aC T z) j)(d:ke zs j):∀{n k:Nat}{y:Td (Nat×Td C)}{A:Td (Nat×Td V)}{xs:Td (I T)},gS T z n k y=some xs->pA ρ H y A->∀pre:Td (Td V),pre.length=k->
  ∃es es',Abs.nf (szT T) (pre++List.replicate n zs) A=some (pre++es)/\jA es es'/\FRl T xs es'
 | 0,k,y,A,xs,h,hp,pre,_=>by
  cases hp with
  |nil=>simp only[gS,OW]at h;subst h;exact⟨[],[],by simp[Abs.nf],.nil,.nil⟩
  |cons _ _=>simp only[gS]at h;cases h
 | n + 1, k,y,A,xs,h,hp,pre,hk=>by
  have J:zs.length=szT T:=by rw[d.1,<-t.1,df T w]
  cases hp with
  | nil=>
   simp only[gS]at h;split at h
   .rename_i ys B;cases h;obtain⟨es,es',h1,h2,D⟩:=mn w t d B .nil (pre++[zs]) (by simp[hk]);exact Sl
   .cases h
  | @cons i cs vs y A hc E=>
   simp only[gS]at h;split at h
   .rename_i v;have v:i=k:=OL v;subst v;split at h
    .rename_i K hd;split at h
     .rename_i x ys F B;cases h;obtain⟨us,u1,u2⟩:=CN w hd F (wk t hc);have G:vs.length=szT T:=by rw[u2.1,<-u1.1,df T w]
      obtain⟨es,es',h1,h2,D⟩:=mn w t d B E (pre++[vs]) (by simp[hk]);refine⟨vs::es,us::es',?_,.cons u2 h2,.cons u1 D⟩;simp only[Abs.nf];rw[mt (by simp[G,hk])];have:(pre++List.replicate (n+1) zs).set i vs=pre++[vs]++List.replicate n zs:=by
       rw[<-hk,List.replicate_succ,List.set_append_right _ _ (O3 _),Q9];simp
      rw[this,h1];simp
     .cases h
    .cases h
   .split at h
    .rename_i ys B;cases h;obtain⟨es,es',h1,h2,D⟩:=mn w t d B (.cons hc E) (pre++[zs]) (by simp[hk]);exact Sl
    .cases h
theorem Hn(j:bQ P tb)(w:d<E.n){v:TI}(y:tb t=some v):eS P ⟨some d,.alloc t,ty,pos,af,gd⟩ E F D H (.one (.p H.length 0)) (H++[.box v.zero]):=λρ L h hs hp A=>by
 obtain⟨i,G⟩:=j.get y;obtain⟨B,C⟩:=sj (ρ:=ρ++[some h.length]) (H:=H++[.box v.zero]) G.zero;refine Abs.yH G.tb G.look B G.zne w ⟨ρ++[some h.length],_,rfl,.one (.p ?_),hp.push ⟨_,?_,C⟩,Ev.push _ _,A.push hp.len _ _⟩
 .rw[<-hp.len];simp
 .simp
theorem MO(j:d<E.n){t:TypeId}{x:Operand}{v:AT}(w:ev D x=some v)(hc:cells v=some cs):eS P ⟨some d,.box t x,ty,pos,af,gd⟩ E F D H (.one (.p H.length 0)) (H++[.box cs]):=λρ L h hs hp y=>by
 obtain⟨B,h1,h2⟩:=bf hs w;obtain⟨vs,A,h4⟩:=lR hc h2;refine Abs.Gj h1 A j ⟨ρ++[some h.length],_,rfl,.one (.p ?_),hp.push ⟨vs,rfl,h4.mono (Ev.push _ _)⟩,Ev.push _ _,y.push hp.len _ _⟩;rw[<-hp.len];simp
theorem FRl.lens(d:0<szT T){xs:Td (I T)}(h:FRl T xs es):∀e∈es,e.length=szT T:=by
 cases h.fr d with|l _ _ hs _=>exact hs
theorem lW(v:bQ P tb)(J:d<E.n){len:Nat}{y:TI}{z:I T}{A:Td (Nat×Td C)}{xs:Td (I T)}(M:tb t=some y)(he:y.elem=some T)(N:jU T=some z)(hp:cH D parts=some A)(O:gS T z len 0 A=some xs)(Q:Nat.ble (len*szT T) 16777216=true)
  (hs:cj ρ H D L) (h:au):0<szT T/\∃es es',ar P ⟨some d,.buildSlice t len parts.toArray,ty,pos,af,gd⟩ E (λw h2=>w=(d,.one (.own h.length 0 len))::L/\h2=h++[some (.row (szT T) es)]) L h/\jA es es'/\FRl T xs es'/\es'.length=len:=by
 obtain⟨i,G⟩:=v.get M;obtain⟨V,W,X,g1,B,g3,g4,j,g6,Y,Z⟩:=G.elem T he;rw[N]at B;cases B;obtain⟨R,us,S,z3⟩:=jq g6;obtain⟨U,q1,q2⟩:=nM hs hp;obtain⟨es,es',e1,e2,e3⟩:=mn g4 S z3 O q2 [] rfl;simp only[Pm]at e1;have F:=Abs.na (P:=P) (E:=E) (L:=L) (d:=d) (ty:=ty) (pos:=pos) (af:=af) (gd:=gd) (h0:=h) (l:=[]) (n:=h.length) (K:=λw h2=>w=(d,.one (.own h.length 0 len))::L/\h2=h++[some (.row (szT T) es)]) G.tb rfl g1 (by intro e;rw[e]at j;simp at j;omega) j R q1 (by rw[g3];exact e1) (by rw[g3];exact Q) J ⟨rfl,by rw[g3];rfl⟩;rw[OO]at F;refine⟨g4,es,es',F,e2,e3,?_⟩;rw[<-e2.len];obtain⟨_,_,k⟩:=Abs.ou U _ _ (by intro e he;rw[List.mem_replicate]at he;rw[he.2,OV,j,g3]) e1;rw[k];simp
theorem oP(l:Td α)(x y:α):(l++[x]).set l.length y=l++[y]:=by rw[List.set_append_right _ _ (O3 _),Q9];rfl
theorem tN(j:bQ P tb)(B:d<E.n){len:Nat}{w:TI}{z:I T}{A:Td (Nat×Td C)}{xs:Td (I T)}(G:tb t=some w)(he:w.elem=some T)(J:jU T=some z)(hp:cH D parts=some A)(K:gS T z len 0 A=some xs)(M:Nat.ble (len*szT T) 16777216=true):
  eS P ⟨some d,.buildSlice t len parts.toArray,ty,pos,af,gd⟩ E F D H (.one (.o H.length)) (H++[.row T 0 xs]):=λρ L h hs v N=>by
 obtain⟨g4,es,es',O,e2,e3,bF⟩:=lW (P:=P) (E:=E) (d:=d) (ty:=ty) (pos:=pos) (af:=af) (gd:=gd) j B G he J hp K M hs h;refine oY O λR h2 ⟨k1,Q⟩=> ?_;subst k1 Q;refine⟨_,_,⟨ρ++[some h.length],.one (.own h.length 0 len),rfl,.one ?_,v.push (y:=some (.row (szT T) es')) ⟨es',rfl,e3.fr g4⟩,Ev.push _ _,N.push v.len _ _⟩,λLf=> ?_⟩
 .have:=CR.o (ρ:=ρ++[some h.length]) (H:=H++[.row T 0 xs]) (id:=H.length) (a:=h.length) (n:=0) (T:=T) (xs:=xs) (by rw[<-v.len];simp) A1;rw[<-e3.len,bF]at this;exact this
 .have:=br.imp (L:=(d,.one (.own h.length 0 len))::L++Lf) (h:=h++[some (.row (szT T) es)]) (id:=h.length) (s:=szT T) (es:=es) (es':=es') A1 e2 (e3.lens g4);rw[oP]at this;exact this
theorem HpR.junk(hp:HpR ρ H h)(y:Y Abs.Ob):HpR ρ H (h++[y]):=
 HpR.mk' hp.len (λid x d=>by
  rcases hp.ob d with⟨a,z,k1,j,t⟩|k1|k1
  .exact .inl ⟨a,z,k1,gi j,t⟩
  .exact .inr (.inl k1)
  .exact .inr (.inr k1)) hp.inj (λi a h1=>by have:=hp.lt i a h1;simp;omega)
theorem Fr.junk(d:Fr F ρ H h)(y:Y Abs.Ob):Fr F ρ H (h++[y]):=
 d.step (Ev.refl _ _) A1 (λid _ h1 l=>.inl ⟨id,h1,l⟩) (λa h1 _=>aL h1)
theorem EA{d a n:Nat}{L Lf:Env}{h:au}(ho:h[a]? =some (some (.row s es)))(w:es.all (·.all Abs.V.flat)=true)(y:es.length=n):Abs.br ((d,.one (.own a 0 n))::L++Lf) h ((d,.one (.imm s es))::L++Lf) (h.set a none):=by
 have:=Abs.br.freeze (L:=(d,.one (.own a 0 n))::L++Lf) (h:=h) d a (s:=s) (es:=es) (v:=.one (.own a 0 n)) ho w A1 (by simp[Abs.AV.fits,Abs.V.fits,y]);have e:(AV.one (V.own a 0 n)).fz a s es= .one (.imm s es):=by simp[Abs.AV.fz,Abs.V.fz,<-y]
 rw[e]at this;refine this.trans ⟨λ_ _ I _ _ r=>⟨I,r.gj λt x j=> ?_⟩⟩;simp only[Ph,OK]at j ⊢;cases A:t==d with
 |true=>rw[A]at j;exact j
 |false=>rw[A]at j;exact j
theorem zc(j:bQ P tb)(y:d<E.n){len:Nat}{v:TI}{z:I T}{w:Td (Nat×Td C)}{xs:Td (I T)}(A:tb t=some v)(he:v.elem=some T)(B:jU T=some z)(hp:cH D parts=some w)(G:gS T z len 0 w=some xs)(J:Nat.ble (len*szT T) 16777216=true):
  eS P ⟨some d,.buildSlice t len parts.toArray,ty,pos,af,gd⟩ E F D H (.one (.l T xs)) H:=λρ L h hs K M=>by
 obtain⟨g4,es,es',N,e2,e3,bF⟩:=lW (P:=P) (E:=E) (d:=d) (ty:=ty) (pos:=pos) (af:=af) (gd:=gd) j y A he B hp G J hs h;refine oY N λQ h2 ⟨k1,O⟩=> ?_;subst k1 O;refine⟨_,_,⟨ρ,.one (.imm (szT T) es'),rfl,.one (.fl (e3.fr g4)),K.junk none,Ev.refl _ _,M.junk none⟩,λLf=> ?_⟩;have s1:=br.imp (L:=(d,.one (.own h.length 0 len))::L++Lf) (h:=h++[some (.row (szT T) es)]) (id:=h.length) (s:=szT T) (es:=es) (es':=es') A1 e2 (e3.lens g4);rw[oP]at s1;have s2:=EA (d:=d) (L:=L) (Lf:=Lf) (h:=h++[some (.row (szT T) es')]) (a:=h.length) (s:=szT T) (es:=es') A1 (e3.fr g4).fZ bF;rw[oP]at s2;exact s1.trans s2
theorem Dk{x:Operand}(h:wt x y=true)(d:ev D x=some (.one (.i n))):ev D y=some (.one (.i n)):=by
 unfold wt at h;split at h
 .simp_all
 .grind
 .cases h
theorem Jo{x:α}{xs:Td α}(h:mk x n=some xs):0<=n/\n<=4294967296/\xs=List.replicate n.toNat x:=by
 unfold mk at h;by_cases h1:0<=n
 .grind
 .simp[h1]at h
theorem I8(j:bQ P tb)(R:d<E.n){J:TI}{z:I T}{x:Operand}{xs:Td (I T)}(S:tb t=some J)(he:J.elem=some T)(U:jU T=some z)(M:ev D x=some (.one (.i n)))(W:wt x y=true)(hm:mk z n=some xs):
  eS P ⟨some d,.makeSlice t x y,ty,pos,af,gd⟩ E F D H (.one (.o H.length)) (H++[.row T 0 xs]):=λρ L h hs v X=>by
 obtain⟨i,G⟩:=j.get S;obtain⟨w,z',g0,g1,N,g3,g4,A,g6,B,g8⟩:=G.elem T he;rw[U]at N;cases N;obtain⟨Y,us,Z,z3⟩:=jq g6;obtain⟨m1,m2,rfl⟩:=Jo hm;obtain⟨m,rfl⟩:=Po m1;obtain⟨av,a1,a2⟩:=bf hs M;obtain⟨u,rfl,a3⟩:=a2.bi;cases a3.int;obtain⟨av,b1,b2⟩:=bf hs (Dk W M);obtain⟨u,rfl,b3⟩:=b2.bi;cases b3.int;have C:m<=4294967296:=A0
 have B:=O1 B;have O:=Abs.J2 (P:=P) (E:=E) (L:=L) (d:=d) (ty:=ty) (pos:=pos) (af:=af) (gd:=gd) (h0:=h) (l:=[]) (n:=h.length) (m:=m) (K:=λQ h2=>Q=(d,.one (.own h.length 0 m))::L/\h2=h++[some (.row (szT T) (List.replicate m (w.zero.map V.lit)))]) G.tb rfl g1 (by intro e;rw[e]at A;simp at A;omega) A Y a1 b1 (P3 (Nat.mul_le_mul B C) A3) A0 R ⟨rfl,by rw[g3];rfl⟩;rw[OO]at O;have e3:FRl T (List.replicate m z) (List.replicate m us):=FRl.rep Z m;have e2:∀m,jA (List.replicate m (w.zero.map V.lit)) (List.replicate m us):=λm=>by
  induction m with
  |zero=>exact .nil
  |succ m ih=>exact .cons z3 ih
 refine oY O λQ h2 ⟨k1,k2⟩=> ?_;subst k1 k2;refine⟨_,_,⟨ρ++[some h.length],.one (.own h.length 0 m),rfl,.one ?_,v.push (y:=some (.row (szT T) (List.replicate m us))) ⟨_,rfl,e3.fr g4⟩,Ev.push _ _,X.push v.len _ _⟩,λLf=> ?_⟩
 .have:=CR.o (ρ:=ρ++[some h.length]) (H:=H++[.row T 0 (List.replicate (m:Int).toNat z)]) (id:=H.length) (a:=h.length) (n:=0) (T:=T) (xs:=List.replicate (m:Int).toNat z) (by rw[<-v.len];simp) A1;simpa using this
 .have:=br.imp (L:=(d,.one (.own h.length 0 m))::L++Lf) (h:=h++[some (.row (szT T) (List.replicate m (w.zero.map V.lit)))]) (id:=h.length) (s:=szT T) (es:=_) (es':=List.replicate m us) A1 (e2 m) (e3.lens g4);rw[oP]at this;exact this
theorem dE{d:Ty}{xs:Td (I d)}{ys:Td (I T)}(h:kV (T:=T) xs=some ys):∃e:d=T,ys=e▸xs:=by
 unfold kV at h;split at h
 .grind
 .cases h
theorem sE{xs ys:Td α}(h:lim xs=some ys):ys=xs/\xs.length<=4294967296:=by
 unfold lim at h;cases d:Nat.ble xs.length 4294967296 with
 |true=>rw[d]at h;cases h;exact⟨rfl,O1 d⟩
 |false=>rw[d]at h;cases h
theorem Bc(j:HpR ρ H h){v:V}{ys:Td (I T)}(hc:CR ρ H c v)(he:kB H T c=some ys):∃ns,Abs.eA h (szT T) v=some ns/\FRl T ys ns:=by
 unfold kB at he;split at he
 .rename_i A xs hp;obtain⟨e,rfl⟩:=dE he;subst e;cases c<;>simp only[pZ,OW,reduceCtorEq]at hp
  .cases hp;obtain⟨es,rfl,h4⟩:=hc.list;exact⟨es,by simp[Abs.eA],h4.frl⟩
  .cases hp;cases hc with
   |fl h=>cases h
   |lc k=>exact⟨_,by simp[Abs.eA],k.frl⟩
  .cases hp;cases hc with
   |fl h=>cases h
   |nil k=>exact⟨[],rfl,.nil⟩
  .split at hp
   .rename_i B n xs2 d;cases hp;rcases hc.own d with⟨a,rfl,h4⟩|⟨rfl,h4⟩
    .obtain⟨es,y,t⟩:=j.at_ h4 d;have hl:=t.frl.len;exact⟨es,by simp[Abs.eA,y,<-hl],t.frl⟩
    .rcases j.row _ n _ _ d with⟨D,es,w,_⟩|⟨_,w,_⟩
     .grind
     .subst w;exact⟨[],rfl,.nil⟩
   .cases hp
 .cases he
end
end
end Go.Proofs.YtkegnipofloejaaGreatDoor.Den
namespace Go.Proofs.YtkegnipofloejaaGreatDoor.Abs
open Go.RowKit
section
variable {P : Program} {E : Cx} {K : Env → au → Prop} {L : Env} {h : au} {d : Nat} {ty : TypeId} {pos : String} {af : Array Edge} {gd : Y (Nat × Bool)} {tb : Tbl} {ι : Td Inf} {I : Nat → Prop} {w : World}
section
variable {s:Nat}{es:Td (Td V)}{t:TypeId}{parts:Td (Nat×Operand)}
theorem VR.immc_of{A:Y Addr}(h:VR I w ι (.imm s es) (.slice A es.length es.length)):VR I w ι (.di s es) (.slice A es.length es.length):=by
 cases h with
 |eE=>exact .kc
 |imm hs hc hm j d t v=>exact .di hs hm j d t v
theorem VR.imm_of{u:Value}(h:VR I w ι (.di s es) u):VR I w ι (.imm s es) u:=by
 cases h with
 |kc=>exact .eE A0
 |di hs hm j d t v=>exact .imm hs (O3 _) hm j d t v
theorem AC(C:cm P tb){len:Nat}{j:ElI}{F:Td (Nat×Td V)}(he:du tb t=some j)(D:j.zero≠[])(G:j.zero.length=j.size)(hl:j.zero.all da=true)
  (hp:cH L parts=some F) (Y:nf j.size (List.replicate len (j.zero.map V.lit)) F=some es) (Q:Nat.ble (len*j.size) 16777216=true) (H:es.all (·.all V.flat)=true) (Z:d<E.n)
  (hk:K ((d,.one (.di j.size es))::L) (h++[none])):ar P ⟨some d,.buildSlice t len parts.toArray,ty,pos,af,gd⟩ E K L h:=by
 refine jM rfl Z (λLf ι I a w rF r=> ?_) hk;obtain⟨inf,z,g1,g2,g3,g4,g5⟩:=nq C he D G;obtain⟨u1,u2,_⟩:=bI C he;have y:0<j.size:=by rw[<-G];exact List.length_pos_iff.2 D
 obtain⟨k1,R,k3⟩:=ou F _ _ (λe he=>by rw[PU he];simpa using G) Y;obtain⟨v,J,S⟩:=rE r (λi=>some (i*j.size,j.size)) parts F _ (madeCells z.cells (len*j.size)) _ hp (VRs.made g3 G hl len) k1;have bF:es.length=len:=by rw[k3];simp
 have M:v.size=len*j.size:=by have:=S.1;rw[cn R,bF]at this;simpa using this
 have N:¬(16777216<len*j.size):=by have:=O1 Q;omega
 have hm:len<=9223372036854775807:=by have:=O1 Q;have:=Nat.le_mul_of_pos_right len y;omega
 have T:=rF.new v j.t j.size len es M hm A0 R (cs:=v.toList) (rest:=[]) A1 S;have ho:(h++[some (.row j.size es)])[h.length]? =some (some (.row j.size es)):=A1
 have hi:(ι++[(⟨w.heap.size,0,len,j.size⟩:Inf)])[h.length]? =some ⟨w.heap.size,0,len,j.size⟩:=I3
 have hv:VR I (w.alloc (.cells v j.t)) (ι++[⟨w.heap.size,0,len,j.size⟩]) (.own h.length 0 len) (.slice (some ⟨w.heap.size,0,none⟩) len len):=by
  simpa using VR.own (off:=0) (len:=len) (c:=len) hi (O3 _) A1 hm
 have A:=VR.fz T ho hi H hv (λoff U e=>by cases e;omega);have ez:(V.own h.length 0 len).fz h.length j.size es= .imm j.size es:=by
  simp[V.fz,<-bF]
 rw[ez]at A;have W:=T.freeze ho hi;have eh:(h++[some (Ob.row j.size es)]).set h.length none=h++[none]:=A1
 rw[eh]at W;have O:VR (λb=>I b\/b=w.heap.size) (w.alloc (.cells v j.t)) (ι++[⟨w.heap.size,0,len,j.size⟩]) (.di j.size es) (.slice (some ⟨w.heap.size,0,none⟩) len len):=by
  rw[<-bF]at A ⊢;exact A.immc_of
 refine⟨.slice (some ⟨w.heap.size,0,none⟩) len len,w.alloc (.cells v j.t),_,_,?_,W,.one O⟩;by_cases B:len*j.size=0
 .have X:madeCells z.cells (len*j.size)= #[]:=by rw[B];simp[madeCells]
  rw[X]at J;simp[execOp,Instr.buildSlice,run_underlying u1,cg u2 y,B];have e1:Array.map (λ_=>(default:Value)) (Array.range 0)= #[]:=A1
  rw[e1,J];simp[newRow]
 .have X:(Array.range (len*j.size)).map (z.cells[·%z.cells.size]!)=madeCells z.cells (len*j.size):=rfl;simp[execOp,Instr.buildSlice,run_underlying u1,cg u2 y,B,N,zeroValue,typeInfo,g1,g2];have e1:(Array.map (λx=>z.cells[x%z.cells.size]!) (Array.range (len*j.size)))=madeCells z.cells (len*j.size):=rfl;simp only[e1,J];simp[newRow]
theorem dP(j:cm P tb){h0 l:au}{len:Nat}{h:ElI}{y:Td (Nat×Td V)}(he:du tb t=some h)(v:h.zero≠[])(A:h.zero.length=h.size)(hl:h.zero.all da=true)
  (hp:cH L parts=some y) (B:nf h.size (List.replicate len (h.zero.map V.lit)) y=some es) (C:Nat.ble (len*h.size) 16777216=true) (w:es.all (·.all V.flat)=true) (D:d<E.n)
  (hk:K ((d,.one (.di h.size es))::L) (h0++(l++[none]))):ar P ⟨some d,.buildSlice t len parts.toArray,ty,pos,af,gd⟩ E K L (h0++l):=by
 rw[<-O5]at hk;exact AC j he v A hl hp B C w D hk
theorem zN(j:cm P tb){tx:TypeId}{x y:Operand}{D A:ElI}(F:ev L x=some (.one (.lit (.slice none 0 0))))(G:ev L y=some (.one (.lit (.slice none 0 0))))(he:du tb t=some D)(hex:du tb tx=some A)(v:0<D.size)(H:d<E.n)
  (hk:K ((d,.one (.lit (.slice none 0 0)))::L) h):ar P ⟨some d,.call ⟨.builtin .append,#[x,y],#[t,tx]⟩,ty,pos,af,gd⟩ E K L h:=by
 refine jM rfl H (λLf ι I a w rF r=> ?_) hk;obtain⟨u1,u2,_⟩:=bI j he;obtain⟨v1,_⟩:=bI j hex;have B:=(r.ev F).lit.1;have C:=(r.ev G).lit.1;refine⟨_,w,ι,I,?_,rF,.one (.lit trivial)⟩;rw[d7,B,C];simp[Builtin.append_,run_underlying u1,run_underlying v1,cg u2 v,Builtin.lenOf,Builtin.firstCells]
end
end
end Go.Proofs.YtkegnipofloejaaGreatDoor.Abs

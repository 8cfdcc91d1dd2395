import Derived.MapKept
import Derived.Test.YtigoabbppmdfpaaGreatZRowPE2
namespace Go.Proofs.YtigoabbppmdfpaaGreat.Abs
open Go.RowKit
structure MpI where
 key:Nat
 val:Nat
 zero:List Value
def okZ(z:Value):Bool:=match z with
 | .agg cs=>cs.size !=1
 |_=>true
def xU(P:Program)(t:TypeId):Y MpI:=match P.underlying t with
 | some (.map k e)=>match P.underlying k,(P.info? e).bind (·.zero)with
  |some .string,some z=>if okZ z then some ⟨k,e,z.cells.toList⟩else none
  |_,_=>none
 |_=>none
theorem tC{P:Program}{t:TypeId}{m:MpI}(h:xU P t=some m):P.underlying t=some (.map m.key m.val)/\P.underlying m.key=some .string/\∃i z,P.info? m.val=some i/\i.zero=some z/\okZ z=true/\m.zero=z.cells.toList:=by
 unfold xU at h;split at h
 .rename_i k e h1;split at h
  .rename_i z h2 d;split at h
   .rename_i h4;cases h;obtain⟨i,j,v⟩:=Option.bind_eq_some_iff.1 d;exact⟨h1,h2,i,z,j,v,h4,rfl⟩
   .cases h
  .cases h
 .cases h
def wo:RV V->AV
 |[v]=>.one v
 |vs=>.agg vs
theorem tK{c:Value}(h:c.cells.size≠1):c= .agg c.cells:=by cases c<;>first|rfl|exact absurd rfl h
theorem Cy{ι:RV Inf}{I:Nat->Prop}{w:World}{c:Value}{vs:RV V}{f:Nat->Value}(y:vs.length=1->c=f 0)(d:c.cells.size=vs.length)(t:∀j,j<vs.length->c.cells[j]? =some (f j))(h:∀(j:Nat)(A:j<vs.length),VR I w ι vs[j] (f j)):AR ι I w (wo vs) c:=by
 match vs,y,d,t,h with
 |[v],y,d,t,h=>rw[y rfl];exact .one (h 0 C3)
 | [],y,d,t,h=>
  rw[tK (c:=c) (by simp at d;simp[d])];exact .agg d t h
 | a::b::l,y,d,t,h=>
  rw[tK (c:=c) (by simp at d;simp[d])];exact .agg d t h
section
variable {E : Cx} {L : Env} {h : aD} {ι : RV Inf} {I : Nat → Prop} {a : Act} {w : World}
theorem Rel.newOb(r:Rel E L h ι I a w)(x:Obj)(o:Ob)(inf:Inf)(hb:inf.block=w.heap.size)(j:OR (ι++[inf]) I (w.alloc x) inf o):Rel E L (h++[some o]) (ι++[inf]) I a (w.alloc x):=by
 have hk:=r.sy x;have A:=bn.app ι [inf];have blk:∀(id:Nat)(o:Ob)(inf:Inf),h[id]? =some (some o)->ι[id]? =some inf->inf.block<w.heap.size:=λid o inf x y=>by
  have:=r.heap.obj id o inf x y;cases o with
  |row s es=>exact Rl
  |map kvs=>obtain⟨O,P,h1,_⟩:=this;exact Rv
 have d:∀(i:Nat)(q:Ob)(f:Inf),(h++[some o])[i]? =some (some q)->(ι++[inf])[i]? =some f->
   (h[i]?=some (some q)/\ι[i]? =some f/\i<h.length)\/(i=h.length/\q=o/\f=inf):=λi q f x y=>by
  rcases gJ x with⟨lt,B⟩|⟨rfl,B⟩
  .rcases gJ y with⟨_,C⟩|⟨e,_⟩
   .grind
   .exact RK
  .rcases gJ y with⟨lt,_⟩|⟨_,C⟩
   .exact RK
   .grind
 exact
 { aO    := fun t v H=>let⟨c,x,y⟩:=r.aO t v H;⟨c,x,y.aB A hk⟩
   heap := by
     refine⟨PR,λid q f x y=> ?_,λid q f x y=> ?_,λid id' q D f F x B y C e=> ?_,r.heap.sub⟩
     · rcases d id q f x y with⟨x,y,_⟩|⟨rfl,rfl,rfl⟩
       · exact(r.heap.obj id q f x y).aB A hk (heap_alloc_old w _ (blk id q f x y))
       · exact j
     · rcases d id q f x y with⟨x,y,_⟩|⟨rfl,rfl,rfl⟩
       · exact r.heap.off id q f x y
       · intro G
         rw[hb]at G;have:=r.imm _ G;omega
     · rcases d id q f x y with⟨J,K,l1⟩|⟨Q,R,S⟩
       · rcases d id' D F B C with⟨M,N,_⟩|⟨T,U,V⟩
         · exact r.heap.inj id id' q D f F J M K N e
         · grind
       · grind
   imm:=λb hb=>by have:=r.imm b hb;simp;omega
   cY:=r.cY
   pre:=r.pre.trans A
   os:=r.os
   tape:=r.tape
   output:=r.output
   grown:=by have:=r.grown;simp;omega
   frame:=λb x y=>PW
   cc:=λid q f x y=>by
     rcases d id q f x y with⟨x,y,_⟩|⟨rfl,rfl,rfl⟩
     · exact r.cc id q f x y
     · rw[hb];exact .inr r.grown
   defers:=r.defers
   size:=r.size}
theorem Rel.setOb(r:Rel E L h ι I a w){id:Nat}{o o':Ob}{inf:Inf}{w':World}(ho:h[id]? =some (some o))(A:ι[id]? =some inf)
  (d:∀b,b≠inf.block->w'.heap[b]?=w.heap[b]?) (J:w'.os=w.os) (B:w'.tape=w.tape) (C:w'.output=w.output) (D:w'.heap.size=w.heap.size) (R:OR ι I w' inf o'):Rel E L (h.set id (some o')) ι I a w':=by
 have F:=r.heap.off id _ inf ho A;have hk:cB I I w w':=⟨λ_ h=>h,λb hb=>by rw[d b (λe=>F (e▸hb))]⟩;exact
 { aO    := fun t v S=>let⟨c,x,y⟩:=r.aO t v S;⟨c,x,y.aB (bn.refl _) hk⟩
   heap := by
     refine⟨PR,λi o f x y=> ?_,λi o f x y=> ?_,λi T o o' f K x P y M e=> ?_,r.heap.sub⟩
     · rcases cC x with⟨rfl,x,_⟩|⟨j,x⟩
       · grind
       · exact(r.heap.obj i o f x y).aB (bn.refl _) hk (d _ λe=>j (r.heap.inj i id o _ f inf x ho y A e))
     · rcases cC x with⟨rfl,x,_⟩|⟨j,x⟩
       · grind
       · exact r.heap.off i o f x y
     · rcases cC x with⟨Q,N,_⟩|⟨j,N⟩
       · rcases cC P with⟨O,G,_⟩|⟨H,G⟩
         · rw[Q,O]
         · subst Q;exact r.heap.inj _ _ _ _ f K ho G y M e
       · rcases cC P with⟨O,G,_⟩|⟨H,G⟩
         · subst O;exact r.heap.inj _ _ _ _ f K N ho y M e
         · exact r.heap.inj _ _ _ _ f K N G y M e
   imm:=λb hb=>by rw[D];exact r.imm b hb
   cY:=r.cY
   pre:=r.pre
   os:=J.trans r.os
   tape:=B.trans r.tape
   output:=C.trans r.output
   grown:=by rw[D];exact r.grown
   frame:=λb x y=>by
     rw[d b (λe=> ?_)]
     · exact r.frame b x y
     · rcases r.cc id _ inf ho A with hp|hp
       · grind
       · omega
   cc:=λi o f x y=>by
     rcases cC x with⟨rfl,x,_⟩|⟨j,x⟩
     · exact r.cc i _ f ho y
     · exact r.cc i o f x y
   defers:=r.defers
   size:=r.size}
theorem Rel.mapAt(r:Rel E L h ι I a w){id:Nat}{kvs:RV (Z×RV V)}(ho:h[id]? =some (some (.map kvs))):∃inf,ι[id]? =some inf/\OR ι I w inf (.map kvs):=by
 have hlt:id<ι.length:=by rw[<-r.heap.len];exact(gI.1 ho).1
 have hi:=gE hlt;exact⟨_,hi,r.heap.obj id _ _ ho hi⟩
theorem VR.mapId{id:Nat}{c:Value}(h:VR I w ι (.mp id) c):∃inf,ι[id]? =some inf/\c= .map (some inf.block):=by cases h with|mp hi=>exact⟨_,hi,rfl⟩
end
theorem KT{d:Array MapEntry}{kvs:RV (Z×RV V)}(h:∀e∈d,∃s,e.key= .string s/\(gw kvs s).isSome):∀x∈d.toList,MapKept.IsKey .string x.key:=λx hx=>by
 obtain⟨s,e,_⟩:=h x (Array.mem_toList_iff.1 hx);rw[e];trivial
section
variable {P : Program} {E : Cx} {K : Env → aD → Prop} {L : Env} {h : aD} {d : Nat} {ty : TypeId} {pos : String} {af : Array Edge} {gd : Y (Nat × Bool)}
theorem Ah{t:TypeId}(j:d<E.n)(hk:K ((d,.one (.mp h.length))::L) (h++[some (.map [])])):ar P ⟨some d,.makeMap t none,ty,pos,af,gd⟩ E K L h:=
 j8 rfl j (λLf ι I a w rF r=>by
  refine⟨.map (some w.heap.size),w.alloc (.map #[] 0),_,I,?_,rF.newOb _ (.map []) ⟨w.heap.size,0,0,0⟩ rfl ⟨#[],0,heap_alloc_new w _,N4 _,λs vs hs=>by simp[gw]at hs,λe he=>by simp at he,List.Pairwise.nil⟩,?_⟩
  .simp[execOp,Instr.makeMap]
  .refine .one (.mp (inf:=⟨w.heap.size,0,0,0⟩) ?_);rw[r.heap.len];simp) hk
theorem qJ{t:TypeId}{m:MpI}(hm:xU P t=some m){ι:RV Inf}{I:Nat->Prop}{w:World}{inf:Inf}{kvs:RV (Z×RV V)}(F:OR ι I w inf (.map kvs)){us:RV V}(K:VRs ι I w us m.zero)(s:Z)(ok:Bool):
  ∃c,AR ι I w (wo (match gw kvs s with|some vs=>vs|none=>us)) c/\(Instr.lookup t (.map (some inf.block)) (.string s) ok).run P w= .ok (if ok then .tuple #[c,.bool (gw kvs s).isSome]else c) w:=by
 obtain⟨m1,G,i,z,R,S,T,U⟩:=tC hm;obtain⟨L,clock,h1,h2,M,h4,N⟩:=F;have A:∀e,(Instr.checkKey e 10000 m.key (.string s)).run P w= .ok () w:=λe=>MapKept.run_checkKey G (k:=.string s) trivial e 9999;rcases MapKept.findNow_spec (d:=.string) (k:=.string s) trivial L.toList 0 (KT h4)with⟨k1,v⟩|⟨j,e,k1,v,H⟩
 .have y:gw kvs s=none:=by
   cases C:gw kvs s with
   |none=>rfl
   | some vs=>
    obtain⟨e,he,hk,_⟩:=M s vs C;exact absurd hk (v e (Array.mem_toList_iff.2 he))
  rw[y];refine⟨z,?_,?_⟩
  .have hl:z.cells.size=us.length:=by rw[<-K.1,U];simp
   show AR ι I w (wo us) z;refine Cy (f:=λj=>z.cells.getD j undef) (λD=> ?_) hl (λj O=> ?_) (λj O=> ?_)
   .have hs:z.cells.size=1:=by rw[hl,D]
    cases z<;>first|rfl|(simp[okZ,Value.cells]at T hs;omega)
   .simp_all
   .obtain⟨u,u1,u2⟩:=K.2 j O;have h:j<z.cells.size:=A1
    have E:u=z.cells.getD j undef:=by simp_all
    rw[<-E];exact u2
  .simp[Instr.lookup,run_underlying m1,MapKept.run_getObj_map h1,A,MapKept.run_findKey G k1,zeroValue,typeInfo,R,S]
 .have B:e∈L:=Array.mem_toList_iff.1 (mG v);obtain⟨s',D,E⟩:=h4 e B;rw[H]at D;cases D;cases C:gw kvs s with
  |none=>rw[C]at E;cases E
  | some vs=>
   obtain⟨Q,he,hk,f,W,X,Y,f3⟩:=M s vs C;have:Q=e:=by
    obtain⟨J,h⟩:=List.mem_iff_getElem?.1 (Array.mem_toList_iff.2 he);rcases Nat.lt_trichotomy j J with hlt|heq|hlt
    .have:=List.pairwise_iff_getElem.1 N j J (gI.1 v).1 (gI.1 h).1 hlt s;rw[(gI.1 v).2,(gI.1 h).2]at this;exact absurd hk (this H)
    .grind
    .have:=List.pairwise_iff_getElem.1 N J j (gI.1 h).1 (gI.1 v).1 hlt s;rw[(gI.1 v).2,(gI.1 h).2]at this;exact absurd H (this hk)
   subst this;refine⟨Q.val,Cy W X Y f3,?_⟩;simp[Instr.lookup,run_underlying m1,MapKept.run_getObj_map h1,A,MapKept.run_findKey G k1]
theorem Dm{t:TypeId}{m:MpI}{x y:Operand}{id:Nat}{s:Z}{kvs:RV (Z×RV V)}(hm:xU P t=some m)(hx:ev L x=some (.one (.mp id)))(v:ev L y=some (.one (.lit (.string s))))(ho:h[id]? =some (some (.map kvs))){us:RV V}(A:∀ι I w,VRs ι I w us m.zero)(B:d<E.n)
  (hk:K ((d,wo (match gw kvs s with|some vs=>vs|none=>us))::L) h):ar P ⟨some d,.lookup t x y false,ty,pos,af,gd⟩ E K L h:=
 bE rfl B (λι I a w r=>by
  obtain⟨inf,C,D⟩:=r.mapAt ho;have F:=(r.ev hx).aY;obtain⟨inf',j,G⟩:=VR.mapId F;rw[C]at j;cases j;obtain⟨H,_⟩:=(r.ev v).lit;obtain⟨c,c1,c2⟩:=qJ hm D (A ι I w) s false;exact⟨c,by simp[execOp,G,H,c2],c1⟩) hk
theorem yF{t:TypeId}{m:MpI}{x y:Operand}{id:Nat}{s:Z}{kvs:RV (Z×RV V)}(hm:xU P t=some m)(hx:ev L x=some (.one (.mp id)))(B:ev L y=some (.one (.lit (.string s))))(ho:h[id]? =some (some (.map kvs))){us:RV V}(C:∀ι I w,VRs ι I w us m.zero)(D:d<E.n)
  (hk:K ((d,.tup [wo (match gw kvs s with|some vs=>vs|none=>us),.one (.lit (.bool (gw kvs s).isSome))])::L) h):ar P ⟨some d,.lookup t x y true,ty,pos,af,gd⟩ E K L h:=
 bE rfl D (λι I a w r=>by
  obtain⟨inf,F,G⟩:=r.mapAt ho;have H:=(r.ev hx).aY;obtain⟨inf',v,J⟩:=VR.mapId H;rw[F]at v;cases v;obtain⟨M,_⟩:=(r.ev B).lit;obtain⟨c,c1,c2⟩:=qJ hm G (C ι I w) s true;refine⟨_,by simp only[execOp,J,M,Sem.run_bind,c2,Result.andThen_ok,Sem.run_pure];rfl,.tup (f:=λj=>if j=0 then c else .bool (gw kvs s).isSome) rfl (λj A=> ?_) (λj A=> ?_)⟩
  .grind
  .match j,A with
   |0,_=>exact c1
   |1,_=>exact .one (.lit trivial)) hk
theorem vg{t:TypeId}{m:MpI}{x y z:Operand}{id:Nat}{s:Z}{kvs:RV (Z×RV V)}{vs us:RV V}(hm:xU P t=some m)(hx:ev L x=some (.one (.mp id)))(hy:ev L y=some (.one (.lit (.string s))))(hv:ev L z=some (wo vs))(hus:vs.length=us.length)(O:∀(j:Nat)(h1:j<vs.length)(h2:j<us.length) I w ι u,VR I w ι vs[j] u->VR I w ι us[j] u)(ho:h[id]? =some (some (.map kvs)))
  (hk:K L (h.set id (some (.map ((s,us)::kvs))))):ar P ⟨none,.mapUpdate t x y z,ty,pos,af,gd⟩ E K L h:=by
 refine⟨λLf ι I a w rF=> ?_⟩;have r:=rF.low;obtain⟨m1,m2,i,z',m3,m4,m5,m6⟩:=tC hm;obtain⟨inf,i1,i2⟩:=r.mapAt ho;have hv0:=(r.ev hx).aY;obtain⟨inf',j1,j2⟩:=VR.mapId hv0;rw[i1]at j1;cases j1;obtain⟨e2,_⟩:=(r.ev hy).lit;obtain⟨D,clock,h1,h2,h3,h4,h5⟩:=i2;have Q:∀e,(Instr.checkKey e 10000 m.key (.string s)).run P w= .ok () w:=λe=>MapKept.run_checkKey m2 (k:=.string s) trivial e 9999
 -- the new value
 have R:∃f:Nat->Value,(vs.length=1->a.eval z=f 0)/\(a.eval z).cells.size=vs.length/\(∀j,j<vs.length->(a.eval z).cells[j]? =some (f j))/\∀(j:Nat)(F:j<vs.length),VR I w ι vs[j] (f j):=by
  have M:=r.ev hv
  have agg:∀{us:RV V}{c:Value},us.length≠1->AR ι I w (.agg us) c->∃f:Nat->Value,(us.length=1->c=f 0)/\c.cells.size=us.length/\(∀j,j<us.length->c.cells[j]? =some (f j))/\∀(j:Nat)(F:j<us.length),VR I w ι us[j] (f j):=λh1 h2=>by
   cases h2 with|agg hl hcs hr=>exact⟨_,λe=>absurd e h1,hl,hcs,hr⟩
  clear hus O hv
  match vs,M with
  |[],M=>exact agg C3 M
  | [v], M=>
   have S:=M.aY;refine⟨λ_=>a.eval z,λ_=>rfl,by rw[S.plain.2];rfl,λj F=> ?_,λj F=> ?_⟩
   .have:j=0:=by simp at F;omega
    subst this;rw[S.plain.2];rfl
   .grind
  |_::_::_,M=>exact agg C3 M
 obtain⟨f,f0,f1,f2,f3⟩:=R
 replace f0:us.length=1->a.eval z=f 0:=λe=>f0 A1
 replace f1:(a.eval z).cells.size=us.length:=A1
 replace f2:∀j,j<us.length->(a.eval z).cells[j]? =some (f j):=λj F=>f2 j A1
 replace f3:∀(j:Nat)(F:j<us.length),VR I w ι us[j] (f j):=λj F=>O j A1 F I w ι _ (f3 j A1)
 have hblt:inf.block<w.heap.size:=(Array.getElem?_eq_some_iff.1 h1).1
 have key:∃B A,(Instr.mapUpdate t (.map (some inf.block)) (.string s) (a.eval z)).run P w= .ok () {w with heap:=w.heap.setIfInBounds inf.block (.map B A)}/\B.size<=D.size+1/\
   (∃e∈B,e.key= .string s/\e.val=a.eval z)/\(∀e∈D,e.key≠.string s->e∈B)/\(∀e∈B,e.key= .string s\/e∈D)/\B.toList.Pairwise (λx y=>∀s,x.key= .string s->y.key≠.string s):=by
  rcases MapKept.findNow_spec (d:=.string) (k:=.string s) trivial D.toList 0 (KT h4)with⟨k1,T⟩|⟨j,e,k1,T,k3⟩
  .refine⟨D.push {key:=.string s,val:=a.eval z,born:=clock},clock+1,?_,C3,⟨_,Array.mem_push_self,rfl,rfl⟩,λe he _=>Array.mem_push_of_mem _ he,λe he=> ?_,?_⟩
   .simp[Instr.mapUpdate,run_underlying m1,MapKept.run_getObj_map h1,Q,MapKept.run_findKey m2 k1,MapKept.run_setObj_map _ h1]
   .grind
   .grind
  .have F:j<D.size:=by simpa using (gI.1 T).1
   have hej:D[j]? =some e:=by simpa using T
   have C:(D.modify j λe=>{e with key:=.string s,val:=a.eval z}).toList=D.toList.set j {e with key:=.string s,val:=a.eval z}:=by
    apply List.ext_getElem?;intro q;rw[OS,Pe,List.getElem?_set];by_cases N:j=q
    .grind
    .simp[N]
   refine⟨D.modify j λe=>{e with key:=.string s,val:=a.eval z},clock,?_,C3,⟨{e with key:=.string s,val:=a.eval z},?_,rfl,rfl⟩,λe' he hne=> ?_,λe' he=> ?_,?_⟩
   .have hst:(Instr.keyThatStays (.string s) (.string s)).run P w= .ok (.string s) w:=by
     have:Instr.sameBits 10000 (.string s) (.string s)=true:=by simp[Instr.sameBits,MapKept.bytes_beq]
     simp[Instr.keyThatStays,this]
    simp only[Instr.mapUpdate,Sem.run_bind,run_underlying m1,MapKept.run_getObj_map h1,Q,MapKept.run_findKey m2 k1,Result.andThen_ok,Ou,hej,OG,P7,k3,hst,MapKept.run_setObj_map _ h1]
   .rw[<-Array.mem_toList_iff,C];exact List.mem_set (by rw[OM];exact F) _
   .rw[<-Array.mem_toList_iff,C];obtain⟨q,N⟩:=List.mem_iff_getElem?.1 (Array.mem_toList_iff.2 he);refine List.mem_iff_getElem?.2 ⟨q,?_⟩;rw[sN (λe1=> ?_)]
    .exact N
    .grind
   .rw[<-Array.mem_toList_iff,C]at he;rcases OV he with h|h
    .grind
    .grind
   .rw[C];have H:∀q:Nat,((D.toList.set j {e with key:=.string s,val:=a.eval z})[q]?).map (·.key)=(D.toList[q]?).map (·.key):=λq=>Hd
    rw[List.pairwise_iff_getElem];intro p q hp N hlt s' G;have U:p<D.toList.length:=QR
    have W:q<D.toList.length:=by simpa using N
    have a1:=H p;have a2:=H q;rw[gE hp,gE U]at a1;rw[gE N,gE W]at a2;simp only[OG,NQ]at a1 a2;rw[a2];exact List.pairwise_iff_getElem.1 h5 p q U W hlt s' (a1▸G)
 obtain⟨B,A,X,g1,⟨en0,g2,g3,g4⟩,g5,g6,g7⟩:=key
 have hex:(execOp a.eval ⟨none,.mapUpdate t x y z,ty,pos,af,gd⟩).run P w= .ok .skip {w with heap:=w.heap.setIfInBounds inf.block (.map B A)}:=by
  simp[execOp,j2,e2,X]
 have J:=MapKept.heap_set (o':=.map B A) h1;unfold Oper.wp;rw[hex,Oper.upon_skip];have Y:=rF.heap.off id _ inf ho i1;have hk':cB I I w {w with heap:=w.heap.setIfInBounds inf.block (.map B A)}:=⟨λ_ h=>h,λb hb=>by rw[J.2 b (λe=>Y (e▸hb))]⟩;refine⟨L,_,ι,I,hk,rF.setOb ho i1 (λb hb=>J.2 b hb) rfl rfl rfl C3 ⟨B,A,J.1,D5,λs' vs' G=> ?_,λe he=> ?_,g7⟩⟩
 .simp only[gw]at G;split at G
  .rename_i e1;cases G;subst e1;refine⟨en0,g2,g3,f,?_,?_,?_,λj F=>(f3 j F).aB (bn.refl _) hk'⟩<;>rw[g4]<;>assumption
  .rename_i e1;obtain⟨e,he,hk2,f',l0,l1,l2,l3⟩:=h3 s' vs' G;exact⟨e,g5 e he (λe2=>e1 (by rw[hk2]at e2;cases e2;rfl)),hk2,f',l0,l1,l2,λj F=>(l3 j F).aB (bn.refl _) hk'⟩
 .rcases g6 e he with h|h
  .exact⟨s,h,by simp[gw]⟩
  .obtain⟨s',k1,T⟩:=h4 e h;refine⟨s',k1,?_⟩;simp only[gw];split
   .rfl
   .exact T
theorem yo{f:FuncId}{xs:RV Operand}{avs:RV AV}{vs:RV V}(hx:evs L xs=some avs)(v:avs=vs.map AV.one)(y:d<E.n)(hk:K ((d,.one (.clo (.func f) vs))::L) h):ar P ⟨some d,.makeFunc (.func f) #[] xs.toArray,ty,pos,af,gd⟩ E K L h:=
 bE rfl y (λι I a w r=>by
  have hA:=r.evs hx;subst v;refine⟨.func (.func f) #[] (xs.map a.eval).toArray,by simp[execOp,Instr.makeFunc],.one (.clo (f:=λj=>(xs.map a.eval).toArray.getD j undef) ?_ (λj t=> ?_) (λj t=> ?_))⟩
  .have:=hA.1;exact RR
  .have:=hA.1;simp at this;simp[(A1:j<xs.length)]
  .obtain⟨c,c1,c2⟩:=hA.2 j N0;rw[NY]at c2;have:(xs.map a.eval).toArray.getD j undef=c:=by rw[On,c1];rfl
   rw[this];exact c2.aY) hk
end
end Go.Proofs.YtigoabbppmdfpaaGreat.Abs

import Derived.MapKept
import Derived.Test.YtfdkldmkbibknaaGreatZRowTx5
namespace Go.Proofs.YtfdkldmkbibknaaGreat.Abs
open Go.RowKit
section
variable [Zb]
structure MpI where
 key:Nat
 val:Nat
 zero:List Value
def okZ (z:Value):Bool:=match z with
 | .agg cs=>cs.size !=1
 |_=>true
def ss (P:Program) (t:TypeId):Option MpI:=match P.underlying t with
 | some (.map k e) => match P.underlying k, (P.info? e).bind (·.zero) with
  |some .string,some z=>if okZ z then some ⟨k,e,z.cells.toList⟩else none
  |_,_=>none
 |_=>none
omit [Zb]in
theorem pa {P:Program} {t:TypeId} {m:MpI} (h:ss P t=some m):P.underlying t=some (.map m.key m.val)/\P.underlying m.key=some .string/\∃i z,P.info? m.val=some i/\i.zero=some z/\okZ z=true/\m.zero=z.cells.toList:=by
 unfold ss at h;split at h
 ·rename_i k e h1;split at h
  ·rename_i z h2 h3;split at h
   ·rename_i h4;cases h;obtain⟨i,h5,h6⟩:=Option.bind_eq_some_iff.1 h3;exact⟨h1,h2,i,z,h5,h6,h4,rfl⟩
   ·cases h
  ·cases h
 ·cases h
def sv :List V->AV
 |[v]=>.one v
 |vs=>.agg vs
omit [Zb]in
theorem pj {c:Value} (h:c.cells.size≠1):c= .agg c.cells:=by cases c<;>first|rfl|exact absurd rfl h
theorem vf {ι:List Inf} {I:Nat->Prop} {w:World} {c:Value} {vs:List V} {f:Nat->Value} (f0:vs.length=1->c=f 0) (f1:c.cells.size=vs.length) (f2:∀j,j<vs.length->c.cells[j]? =some (f j)) (f3:∀(j:Nat) (hj:j<vs.length),VR I w ι vs[j] (f j)):AR ι I w (sv vs) c:=by
 match vs,f0,f1,f2,f3 with
 |[v],f0,f1,f2,f3=>rw[f0 rfl];exact .one (f3 0 (by simp))
 | [], f0, f1, f2, f3 =>
  rw[pj (c:=c) (by simp at f1;simp[f1])];exact .agg f1 f2 f3
 | a :: b :: l, f0, f1, f2, f3 =>
  rw[pj (c:=c) (by simp at f1;simp[f1])];exact .agg f1 f2 f3
section
variable {E : Cx} {L : Env} {h : ag} {ι : List Inf} {I : Nat → Prop} {a : Act} {w : World}
theorem Rel.newOb (r:Rel E L h ι I a w) (x:Obj) (o:Ob) (inf:Inf) (hb:inf.block=w.heap.size) (hor:OR (ι++[inf]) I (w.alloc x) inf o):Rel E L (h++[some o]) (ι++[inf]) I a (w.alloc x):=by
 have hk:=r.keepsAlloc x;have hg:=Grows.app ι [inf];have blk:∀(id:Nat) (o:Ob) (inf:Inf),h[id]? =some (some o)->ι[id]? =some inf->inf.block<w.heap.size:=λid o inf x y=>by
  have:=r.heap.obj id o inf x y;cases o with
  |row s es=>obtain⟨cur,t,h1,_⟩:=this;exact(Array.getElem?_eq_some_iff.1 h1).1
  |map kvs=>obtain⟨en,cl,h1,_⟩:=this;exact(Array.getElem?_eq_some_iff.1 h1).1
 have hnew:∀(i:Nat) (q:Ob) (f:Inf),(h++[some o])[i]? =some (some q)->(ι++[inf])[i]? =some f->
   (h[i]? =some (some q)/\ι[i]? =some f/\i<h.length)\/(i=h.length/\q=o/\f=inf):=λi q f x y=>by
  rcases eg x with⟨lt,x'⟩|⟨rfl,x'⟩
  ·rcases eg      y with⟨_,y'⟩|⟨e,_⟩
   ·exact .inl ⟨x',y',lt⟩
   ·have:=r.heap.len;omega
  ·rcases eg      y with⟨lt,_⟩|⟨_,y'⟩
   ·have:=r.heap.len;omega
   ·exact .inr ⟨rfl,by cases x';rfl,y'.symm⟩
 exact
 { slots := fun t v hv => let ⟨c, x, y⟩ := r.slots t v hv; ⟨c, x, y.keep hg hk⟩
   heap := by
     refine⟨by simp[r.heap.len],λid q f x y=> ?_,λid q f x y=> ?_,λid id' q q' f f' x x' y y' e=> ?_,r.heap.sub⟩
     · rcases hnew id q f x y with⟨x,y,_⟩|⟨rfl,rfl,rfl⟩
       · exact(r.heap.obj id q f x y).keep hg hk (heap_alloc_old w _ (blk id q f x y))
       · exact hor
     · rcases hnew id q f x y with⟨x,y,_⟩|⟨rfl,rfl,rfl⟩
       · exact r.heap.off id q f x y
       · intro hI
         rw[hb]at hI;have:=r.imm _ hI;omega
     · rcases hnew id q f x y with⟨x1,y1,l1⟩|⟨e1,e2,e3⟩
       · rcases hnew id' q' f' x' y' with⟨x2,y2,_⟩|⟨e4,e5,e6⟩
         · exact r.heap.inj id id' q q' f f' x1 x2 y1 y2 e
         · have:=blk id q f x1 y1
           rw[e,e6,hb]at this;omega
       · rcases hnew id' q' f' x' y' with⟨x2,y2,_⟩|⟨e4,e5,e6⟩
         · have:=blk id' q' f' x2 y2
           rw[<-e,e3,hb]at this;omega
         · rw[e1,e4]
   imm:=λb hb=>by have:=r.imm b hb;simp;omega
   immlo:=r.immlo
   pre:=r.pre.trans hg
   os:=r.os
   tape:=r.tape
   output:=r.output
   grown:=by have:=r.grown;simp;omega
   frame:=λb x y=>by rw[heap_alloc_old w _ (by have:=r.grown;omega)];exact r.frame b x y
   mine:=λid q f x y=>by
     rcases hnew id q f x y with⟨x,y,_⟩|⟨rfl,rfl,rfl⟩
     · exact r.mine id q f x y
     · rw[hb];exact .inr r.grown
   defers:=r.defers
   size:=r.size}
theorem Rel.setOb (r:Rel E L h ι I a w) {id:Nat} {o o':Ob} {inf:Inf} {w':World} (ho:h[id]? =some (some o)) (hι:ι[id]? =some inf)
  (hsame:∀b,b≠inf.block->w'.heap[b]? =w.heap[b]?) (hos:w'.os=w.os) (htape:w'.tape=w.tape) (hout:w'.output=w.output) (hsz:w'.heap.size=w.heap.size) (hor:OR ι I w' inf o'):Rel E L (h.set id (some o')) ι I a w':=by
 have hoff:=r.heap.off id _ inf ho hι;have hk:Keeps I I w w':=⟨λ_ h=>h,λb hb=>by rw[hsame b (λe=>hoff (e▸hb))]⟩;exact
 { slots := fun t v hv => let ⟨c, x, y⟩ := r.slots t v hv; ⟨c, x, y.keep (Grows.refl _) hk⟩
   heap := by
     refine⟨by simp[r.heap.len],λi o f x y=> ?_,λi o f x y=> ?_,λi i' o o' f f' x x' y y' e=> ?_,r.heap.sub⟩
     · rcases aW      x with⟨rfl,x,_⟩|⟨hne,x⟩
       · cases x
         have:f=inf:=by rw[hι]at y;cases y;rfl
         subst this;exact hor
       · exact(r.heap.obj i o f x y).keep (Grows.refl _) hk (hsame _ λe=>hne (r.heap.inj i id o _ f inf x ho y hι e))
     · rcases aW      x with⟨rfl,x,_⟩|⟨hne,x⟩
       · exact r.heap.off i _ f ho y
       · exact r.heap.off i o f x y
     · rcases aW      x with⟨e1,x1,_⟩|⟨hne,x1⟩
       · rcases aW      x' with⟨e2,x2,_⟩|⟨hne',x2⟩
         · rw[e1,e2]
         · subst e1;exact r.heap.inj _ _ _ _ f f' ho x2 y y' e
       · rcases aW      x' with⟨e2,x2,_⟩|⟨hne',x2⟩
         · subst e2;exact r.heap.inj _ _ _ _ f f' x1 ho y y' e
         · exact r.heap.inj _ _ _ _ f f' x1 x2 y y' e
   imm:=λb hb=>by rw[hsz];exact r.imm b hb
   immlo:=r.immlo
   pre:=r.pre
   os:=hos.trans r.os
   tape:=htape.trans r.tape
   output:=hout.trans r.output
   grown:=by rw[hsz];exact r.grown
   frame:=λb x y=>by
     rw[hsame b (λe=> ?_)]
     · exact r.frame b x y
     · rcases r.mine id _ inf ho hι with hp|hp
       · exact y (e▸hp)
       · omega
   mine:=λi o f x y=>by
     rcases aW x with⟨rfl,x,_⟩|⟨hne,x⟩
     · exact r.mine i _ f ho y
     · exact r.mine i o f x y
   defers:=r.defers
   size:=r.size}
theorem Rel.mapAt (r:Rel E L h ι I a w) {id:Nat} {kvs:List (ByteArray×List V)} (ho:h[id]? =some (some (.map kvs))):∃inf,ι[id]? =some inf/\OR ι I w inf (.map kvs):=by
 have hlt:id<ι.length:=by rw[<-r.heap.len];exact(gI.1 ho).1
 have hi:=gE hlt;exact⟨_,hi,r.heap.obj id _ _ ho hi⟩
theorem VR.mapId {id:Nat} {c:Value} (h:VR I w ι (.mp id) c):∃inf,ι[id]? =some inf/\c= .map (some inf.block):=by cases h with|mp hi=>exact⟨_,hi,rfl⟩
end
omit [Zb]in
theorem Dy {en:Array MapEntry} {kvs:List (ByteArray×List V)} (h:∀e∈en,∃s,e.key= .string s/\(ep kvs s).isSome):∀x∈en.toList,MapKept.IsKey .string x.key:=λx hx=>by
 obtain⟨s,e,_⟩:=h x (Array.mem_toList_iff.1 hx);rw[e];trivial
section
variable {P : Program} {E : Cx} {K : Env → ag → Prop} {L : Env} {h : ag} {d : Nat} {ty : TypeId} {pos : String} {af : Array Edge} {gd : Option (Nat × Bool)}
theorem uf {t:TypeId} (hn:d<E.n) (hk:K ((d,.one (.mp h.length))::L) (h++[some (.map [])])):ar P ⟨some d,.makeMap t none,ty,pos,af,gd⟩ E K L h:=
 ig rfl hn (λLf ι I a w rF r=>by
  refine⟨.map (some w.heap.size),w.alloc (.map #[] 0),_,I,?_,rF.newOb _ (.map []) ⟨w.heap.size,0,0,0⟩ rfl ⟨#[],0,heap_alloc_new w _,Nat.le_refl _,λs vs hs=>by simp[ep]at hs,λe he=>by simp at he,List.Pairwise.nil⟩,?_⟩
  ·simp[execOp,Instr.makeMap]
  ·refine .one (.mp (inf:=⟨w.heap.size,0,0,0⟩) ?_);rw[r.heap.len];simp) hk
theorem nu {t:TypeId} {m:MpI} (hm:ss P t=some m) {ι:List Inf} {I:Nat->Prop} {w:World} {inf:Inf} {kvs:List (ByteArray×List V)} (hor:OR ι I w inf (.map kvs)) {us:List V} (hz:VRs ι I w us m.zero) (s:ByteArray) (ok:Bool):
  ∃c,AR ι I w (sv (match ep kvs s with|some vs=>vs|none=>us)) c/\(Instr.lookup t (.map (some inf.block)) (.string s) ok).run P w= .ok (if ok then .tuple #[c,.bool (ep kvs s).isSome]else c) w:=by
 obtain⟨m1,m2,i,z,m3,m4,m5,m6⟩:=pa hm;obtain⟨en,clock,h1,h2,h3,h4,h5⟩:=hor;have hck:∀e,(Instr.checkKey e 10000 m.key (.string s)).run P w= .ok () w:=λe=>MapKept.run_checkKey m2 (k:=.string s) trivial e 9999;rcases MapKept.findNow_spec (d:=.string) (k:=.string s) trivial en.toList 0 (Dy h4)with⟨k1,k2⟩|⟨j,e,k1,k2,k3⟩
 ·have hnone:ep   kvs s=none:=by
   cases hg:ep kvs s with
   |none=>rfl
   | some vs =>
    obtain⟨e,he,hk,_⟩:=h3 s vs hg;exact absurd hk (k2 e (Array.mem_toList_iff.2 he))
  rw[hnone];refine⟨z,?_,?_⟩
  ·have hl:z.cells.size=us.length:=by rw[<-hz.1,m6];simp
   show AR ι I w (sv us) z;refine vf (f:=λj=>z.cells.getD j undef) (λe1=> ?_) hl (λj hj=> ?_) (λj hj=> ?_)
   ·have hs:z.cells.size=1:=by rw[hl,e1]
    cases z<;>first|rfl|(simp[okZ,Value.cells]at m5 hs;omega)
   ·have hj':j<z.cells.size:=by omega
    simp[hj']
   ·obtain⟨u,u1,u2⟩:=hz.2 j hj;have hj':j<z.cells.size:=by omega
    have e2:u=z.cells.getD j undef:=by
     rw[m6]at u1;simp[hj']at u1 ⊢;exact u1.symm
    rw[<-e2];exact u2
  ·simp[Instr.lookup,run_underlying m1,MapKept.run_getObj_map h1,hck,MapKept.run_findKey m2 k1,zeroValue,typeInfo,m3,m4]
 ·have hmem:e∈en:=Array.mem_toList_iff.1 (mG k2);obtain⟨s',e1,e2⟩:=h4 e hmem;rw[k3]at e1;cases e1;cases hg:ep   kvs s with
  |none=>rw[hg]at e2;cases e2
  | some vs =>
   obtain⟨e',he,hk,f,f0,f1,f2,f3⟩:=h3 s vs hg;have:e'=e:=by
    obtain⟨j',hj'⟩:=List.mem_iff_getElem?.1 (Array.mem_toList_iff.2 he);rcases Nat.lt_trichotomy j j' with hlt|heq|hlt
    ·have:=List.pairwise_iff_getElem.1 h5 j j' (gI.1 k2).1 (gI.1 hj').1 hlt s;rw[(gI.1 k2).2,(gI.1 hj').2]at this;exact absurd hk (this k3)
    ·subst heq;rw[k2]at hj';cases hj';rfl
    ·have:=List.pairwise_iff_getElem.1 h5 j' j (gI.1 hj').1 (gI.1 k2).1 hlt s;rw[(gI.1 k2).2,(gI.1 hj').2]at this;exact absurd k3 (this hk)
   subst this;refine⟨e'.val,vf f0 f1 f2 f3,?_⟩;simp[Instr.lookup,run_underlying m1,MapKept.run_getObj_map h1,hck,MapKept.run_findKey m2 k1]
theorem xx {t:TypeId} {m:MpI} {x y:Operand} {id:Nat} {s:ByteArray} {kvs:List (ByteArray×List V)} (hm:ss P t=some m) (hx:ev L x=some (.one (.mp id))) (hy:ev L y=some (.one (.lit (.string s)))) (ho:h[id]? =some (some (.map kvs))) {us:List V} (hz:∀ι I w,VRs ι I w us m.zero) (hn:d<E.n)
  (hk:K ((d,sv (match ep kvs s with|some vs=>vs|none=>us))::L) h):ar P ⟨some d,.lookup t x y false,ty,pos,af,gd⟩ E K L h:=
 aF rfl hn (λι I a w r=>by
  obtain⟨inf,i1,i2⟩:=r.mapAt ho;have hv:=(r.ev hx).one';obtain⟨inf',j1,j2⟩:=VR.mapId hv;rw[i1]at j1;cases j1;obtain⟨e2,_⟩:=(r.ev hy).lit;obtain⟨c,c1,c2⟩:=nu hm i2 (hz ι I w) s false;exact⟨c,by simp[execOp,j2,e2,c2],c1⟩) hk
theorem sg {t:TypeId} {m:MpI} {x y:Operand} {id:Nat} {s:ByteArray} {kvs:List (ByteArray×List V)} (hm:ss P t=some m) (hx:ev L x=some (.one (.mp id))) (hy:ev L y=some (.one (.lit (.string s)))) (ho:h[id]? =some (some (.map kvs))) {us:List V} (hz:∀ι I w,VRs ι I w us m.zero) (hn:d<E.n)
  (hk:K ((d,.tup [sv (match ep kvs s with|some vs=>vs|none=>us),.one (.lit (.bool (ep kvs s).isSome))])::L) h):ar P ⟨some d,.lookup t x y true,ty,pos,af,gd⟩ E K L h:=
 aF rfl hn (λι I a w r=>by
  obtain⟨inf,i1,i2⟩:=r.mapAt ho;have hv:=(r.ev hx).one';obtain⟨inf',j1,j2⟩:=VR.mapId hv;rw[i1]at j1;cases j1;obtain⟨e2,_⟩:=(r.ev hy).lit;obtain⟨c,c1,c2⟩:=nu hm i2 (hz ι I w) s true;refine⟨_,by simp only[execOp,j2,e2,Sem.run_bind,c2,Result.andThen_ok,Sem.run_pure];rfl,.tup (f:=λj=>if j=0 then c else .bool (ep kvs s).isSome) rfl (λj hj=> ?_) (λj hj=> ?_)⟩
  ·match j,hj with
   |0,_=>rfl
   |1,_=>rfl
  ·match j,hj with
   |0,_=>exact c1
   |1,_=>exact .one (.lit trivial)) hk
theorem qM {t:TypeId} {m:MpI} {x y z:Operand} {id:Nat} {s:ByteArray} {kvs:List (ByteArray×List V)} {vs us:List V} (hm:ss P t=some m) (hx:ev L x=some (.one (.mp id))) (hy:ev L y=some (.one (.lit (.string s)))) (hv:ev L z=some (sv vs)) (hus:vs.length=us.length) (hui:∀(j:Nat) (h1:j<vs.length) (h2:j<us.length) I w ι u,VR I w ι vs[j] u->VR I w ι us[j] u) (ho:h[id]? =some (some (.map kvs)))
  (hk:K L (h.set id (some (.map ((s,us)::kvs))))):ar P ⟨none,.mapUpdate t x y z,ty,pos,af,gd⟩ E K L h:=by
 refine⟨λLf ι I a w rF=> ?_⟩;have r:=rF.low;obtain⟨m1,m2,i,z',m3,m4,m5,m6⟩:=pa hm;obtain⟨inf,i1,i2⟩:=r.mapAt ho;have hv0:=(r.ev hx).one';obtain⟨inf',j1,j2⟩:=VR.mapId hv0;rw[i1]at j1;cases j1;obtain⟨e2,_⟩:=(r.ev hy).lit;obtain⟨en,clock,h1,h2,h3,h4,h5⟩:=i2;have hck:∀e,(Instr.checkKey e 10000 m.key (.string s)).run P w= .ok () w:=λe=>MapKept.run_checkKey m2 (k:=.string s) trivial e 9999
 -- the new value
 have hval:∃f:Nat->Value,(vs.length=1->a.eval z=f 0)/\(a.eval z).cells.size=vs.length/\(∀j,j<vs.length->(a.eval z).cells[j]? =some (f j))/\∀(j:Nat) (hj:j<vs.length),VR I w ι vs[j] (f j):=by
  have hz:=r.ev hv
  have agg:∀{us:List V} {c:Value},us.length≠1->AR ι I w (.agg us) c->∃f:Nat->Value,(us.length=1->c=f 0)/\c.cells.size=us.length/\(∀j,j<us.length->c.cells[j]? =some (f j))/\∀(j:Nat) (hj:j<us.length),VR I w ι us[j] (f j):=λh1 h2=>by
   cases h2 with|agg hl hcs hr=>exact⟨_,λe=>absurd e h1,hl,hcs,hr⟩
  clear hus hui hv
  match vs,hz with
  |[],hz=>exact agg (by simp) hz
  | [v], hz =>
   have hz':=hz.one';refine⟨λ_=>a.eval z,λ_=>rfl,by rw[hz'.plain.2];rfl,λj hj=> ?_,λj hj=> ?_⟩
   ·have:j=0:=by simp at hj;omega
    subst this;rw[hz'.plain.2];rfl
   ·have:j=0:=by simp at hj;omega
    subst this;exact hz'
  |_::_::_,hz=>exact agg (by simp) hz
 obtain⟨f,f0,f1,f2,f3⟩:=hval
 replace f0:us.length=1->a.eval z=f 0:=λe=>f0 (by omega)
 replace f1:(a.eval z).cells.size=us.length:=by omega
 replace f2:∀j,j<us.length->(a.eval z).cells[j]? =some (f j):=λj hj=>f2 j (by omega)
 replace f3:∀(j:Nat) (hj:j<us.length),VR I w ι us[j] (f j):=λj hj=>hui j (by omega) hj I w ι _ (f3 j (by omega))
 have hblt:inf.block<w.heap.size:=(Array.getElem?_eq_some_iff.1 h1).1
 have key : ∃ en' clock', (Instr.mapUpdate t (.map (some inf.block)) (.string s) (a.eval z)).run P w = .ok () { w with heap := w.heap.setIfInBounds inf.block (.map en' clock') } ∧ en'.size ≤ en.size + 1 ∧
   (∃e∈en',e.key= .string s/\e.val=a.eval z)/\(∀e∈en,e.key≠.string s->e∈en')/\(∀e∈en',e.key= .string s\/e∈en)/\en'.toList.Pairwise (λx y=>∀s,x.key= .string s->y.key≠.string s):=by
  rcases MapKept.findNow_spec (d:=.string) (k:=.string s) trivial en.toList 0 (Dy h4)with⟨k1,k2⟩|⟨j,e,k1,k2,k3⟩
  ·refine⟨en.push {key:=.string s,val:=a.eval z,born:=clock},clock+1,?_,by simp,⟨_,Array.mem_push_self,rfl,rfl⟩,λe he _=>Array.mem_push_of_mem _ he,λe he=> ?_,?_⟩
   ·simp[Instr.mapUpdate,run_underlying m1,MapKept.run_getObj_map h1,hck,MapKept.run_findKey m2 k1,MapKept.run_setObj_map _ h1]
   ·rcases Array.mem_push.1 he with h|h
    ·exact .inr h
    ·exact .inl (by rw[h])
   ·rw[Array.toList_push,List.pairwise_append];refine⟨h5,by simp,λx hx y hy s' hs'=> ?_⟩;simp at hy;subst hy;intro e;simp only[Value.string.injEq]at e;subst e;exact k2 x hx hs'
  ·have hj:j<en.size:=by simpa using (gI.1 k2).1
   have hej:en[j]? =some e:=by simpa using k2
   have hlist:(en.modify j λe=>{e with key:=.string s,val:=a.eval z}).toList=en.toList.set j {e with key:=.string s,val:=a.eval z}:=by
    apply List.ext_getElem?;intro q;rw[Array.getElem?_toList,Array.getElem?_modify,List.getElem?_set];by_cases hq:j=q
    ·subst hq;have e3:en[j]=e:=by have:=hej;rw[gA hj]at this;exact Option.some.inj this
     simp[hj,e3]
    ·simp[hq]
   refine⟨en.modify j λe=>{e with key:=.string s,val:=a.eval z},clock,?_,by simp,⟨{e with key:=.string s,val:=a.eval z},?_,rfl,rfl⟩,λe' he hne=> ?_,λe' he=> ?_,?_⟩
   ·have hst:(Instr.keyThatStays (.string s) (.string s)).run P w= .ok (.string s) w:=by
     have:Instr.sameBits 10000 (.string s) (.string s)=true:=by simp[Instr.sameBits,MapKept.bytes_beq]
     simp[Instr.keyThatStays,this]
    simp only[Instr.mapUpdate,Sem.run_bind,run_underlying m1,MapKept.run_getObj_map h1,hck,MapKept.run_findKey m2 k1,Result.andThen_ok,Nat.zero_add,hej,Option.map_some,Option.getD_some,k3,hst,MapKept.run_setObj_map _ h1]
   ·rw[<-Array.mem_toList_iff,hlist];exact List.mem_set (by rw[Array.length_toList];exact hj) _
   ·rw[<-Array.mem_toList_iff,hlist];obtain⟨q,hq⟩:=List.mem_iff_getElem?.1 (Array.mem_toList_iff.2 he);refine List.mem_iff_getElem?.2 ⟨q,?_⟩;rw[sN (λe1=> ?_)]
    ·exact hq
    ·subst e1;rw[k2]at hq;cases hq;exact hne k3
   ·rw[<-Array.mem_toList_iff,hlist]at he;rcases List.mem_or_eq_of_mem_set he with h|h
    ·exact .inr (Array.mem_toList_iff.1 h)
    ·exact .inl (by rw[h])
   ·rw [hlist]
    have hkeys:∀q:Nat,((en.toList.set j {e with key:=.string s,val:=a.eval z})[q]?).map (·.key)=(en.toList[q]?).map (·.key):=λq=>by
     rw[List.getElem?_set];split
     ·rename_i hq;subst hq;split
      ·rw[k2];simp[k3]
      ·rename_i hlt;exact absurd (by simpa using hj) hlt
     ·rfl
    rw[List.pairwise_iff_getElem];intro p q hp hq hlt s' hs';have hp':p<en.toList.length:=by simpa using hp
    have hq':q<en.toList.length:=by simpa using hq
    have a1:=hkeys p;have a2:=hkeys q;rw[gE hp,gE hp']at a1;rw[gE hq,gE hq']at a2;simp only[Option.map_some,Option.some.injEq]at a1 a2;rw[a2];exact List.pairwise_iff_getElem.1 h5 p q hp' hq' hlt s' (a1▸hs')
 obtain⟨en',clock',hrun,g1,⟨en0,g2,g3,g4⟩,g5,g6,g7⟩:=key
 have hex:(execOp a.eval ⟨none,.mapUpdate t x y z,ty,pos,af,gd⟩).run P w= .ok .skip {w with heap:=w.heap.setIfInBounds inf.block (.map en' clock')}:=by
  simp[execOp,j2,e2,hrun]
 have hset:=MapKept.heap_set (o':=.map en' clock') h1;unfold Oper.wp;rw[hex,Oper.upon_skip];have hoff:=rF.heap.off id _ inf ho i1;have hk':Keeps I I w {w with heap:=w.heap.setIfInBounds inf.block (.map en' clock')}:=⟨λ_ h=>h,λb hb=>by rw[hset.2 b (λe=>hoff (e▸hb))]⟩;refine⟨L,_,ι,I,hk,rF.setOb ho i1 (λb hb=>hset.2 b hb) rfl rfl rfl (by simp) ⟨en',clock',hset.1,by simp;omega,λs' vs' hs'=> ?_,λe he=> ?_,g7⟩⟩
 ·simp only[ep  ]at hs';split at hs'
  ·rename_i e1;cases hs';subst e1;refine⟨en0,g2,g3,f,?_,?_,?_,λj hj=>(f3 j hj).keep (Grows.refl _) hk'⟩<;>rw[g4]<;>assumption
  ·rename_i e1;obtain⟨e,he,hk2,f',l0,l1,l2,l3⟩:=h3 s' vs' hs';exact⟨e,g5 e he (λe2=>e1 (by rw[hk2]at e2;cases e2;rfl)),hk2,f',l0,l1,l2,λj hj=>(l3 j hj).keep (Grows.refl _) hk'⟩
 ·rcases g6 e he with h|h
  ·exact⟨s,h,by simp[ep]⟩
  ·obtain⟨s',k1,k2⟩:=h4 e h;refine⟨s',k1,?_⟩;simp only[ep  ];split
   ·rfl
   ·exact k2
theorem rE {f:FuncId} {xs:List Operand} {avs:List AV} {vs:List V} (hx:evs L xs=some avs) (hv:avs=vs.map AV.one) (hn:d<E.n) (hk:K ((d,.one (.clo (.func f) vs))::L) h):ar P ⟨some d,.makeFunc (.func f) #[] xs.toArray,ty,pos,af,gd⟩ E K L h:=
 aF rfl hn (λι I a w r=>by
  have hA:=r.evs hx;subst hv;refine⟨.func (.func f) #[] (xs.map a.eval).toArray,by simp[execOp,Instr.makeFunc],.one (.clo (f:=λj=>(xs.map a.eval).toArray.getD j undef) ?_ (λj hj=> ?_) (λj hj=> ?_))⟩
  ·have:=hA.1;simpa using this
  ·have:=hA.1;simp at this;simp[show j<xs.length by omega]
  ·obtain⟨c,c1,c2⟩:=hA.2 j (by simpa using hj);rw[List.getElem_map]at c2;have:(xs.map a.eval).toArray.getD j undef=c:=by rw[Array.getD_eq_getD_getElem?,c1];rfl
   rw[this];exact c2.one') hk
end
end
end Go.Proofs.YtfdkldmkbibknaaGreat.Abs

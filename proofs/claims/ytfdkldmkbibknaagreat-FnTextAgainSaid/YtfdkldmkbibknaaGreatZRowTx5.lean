/-
  Texts that the claim rests on, merged: AbsEff, AbsApp, AbsAppend, AbsRes, DenF, One.
-/
import Derived.Deep.AppendSrc
import Derived.Room.Entries
import Derived.Test.YtfdkldmkbibknaaGreatZRowTx4

namespace Go.Proofs.YtfdkldmkbibknaaGreat.Abs
open Go.RowKit
section
variable [Zb]
section
variable {P : Program} {E : Cx} {K : Env → ag → Prop} {L : Env} {h h' : ag} {d : Nat} {ty : TypeId} {pos : String} {af : Array Edge} {gd : Option (Nat × Bool)} {tb : Tbl} {o : Oper}
theorem ig {v:AV} (hd:o.dst=some d) (hn:d<E.n)
  (hv:∀Lf ι I a w,Rel E (L++Lf) h ι I a w->Rel E L h ι I a w->∃c w' ι' I',(execOp a.eval o).run P w= .ok (.value c) w'/\Rel E (L++Lf) h' ι' I' a w'/\AR ι' I' w' v c) (hk:K ((d,v)::L) h'):ar P o E K L h:=by
 refine⟨λLf ι I a w rF=> ?_⟩;obtain⟨c,w',ι',I',h1,h2,h3⟩:=hv Lf ι I a w rF rF.low;unfold Oper.wp;rw[h1,Oper.upon_value,hd];exact⟨_,h',ι',I',hk,h2.put hn h3⟩
theorem EM {t:TypeId} {x:Operand} {v:AV} {vs:List V} (hx:ev L x=some v) (hv:v.cells=some vs) (hn:d<E.n) (hk:K ((d,.one (.ptr h.length 0 0))::L) (h++[some (.row vs.length [vs])])):ar P ⟨some d,.box t x,ty,pos,af,gd⟩ E K L h:=
 ig rfl hn (λLf ι I a w rF r=>by
  obtain⟨h1,h2,h3⟩:=(r.ev hx).cells hv;refine⟨.pointer (some ⟨w.heap.size,0,none⟩),w.alloc (.cells (a.eval x).cells t),_,I,?_,rF.new _ t vs.length 1 [vs] (by simp[h2]) (by simp) (by simp) (by simp) (rest:=[]) (by simp;rfl) (by simpa using h1),?_⟩
  ·simp[execOp,Instr.box,newVar,newRow]
  ·refine .one ?_;have hi:(ι++[(⟨w.heap.size,0,1,vs.length⟩:Inf)])[h.length]? =some ⟨w.heap.size,0,1,vs.length⟩:=by rw[r.heap.len];simp
   simpa using VR.ptr (k:=0) (o:=0) hi) hk
omit [Zb]in
theorem vd {t:TypeId} {i:TyI} (htb:bE P tb) (ht:tb.lookup t=some i) (hne:i.zero≠[]):∃inf z,P.info? t=some inf/\inf.zero=some z/\z.cells.toList=i.zero:=by
 obtain⟨inf,h1,_,_,_,_,h6,_⟩:=aP (htb t i ht);unfold jC at h6;rw[h1]at h6;cases hz:inf.zero with
 |none=>simp[hz]at h6;exact absurd h6 hne
 |some z=>exact⟨inf,z,h1,hz,by simp[hz]at h6;exact h6.symm⟩
theorem Am (htb:bE P tb) {t:TypeId} {i:TyI} (ht:tb.lookup t=some i) (hz:i.zero.all bJ=true) (hne:i.zero≠[]) (hn:d<E.n) (hk:K ((d,.one (.ptr h.length 0 0))::L) (h++[some (.row i.zero.length [i.zero.map V.lit])])):
  ar P ⟨some d,.alloc t,ty,pos,af,gd⟩ E K L h:=
 ig rfl hn (λLf ι I a w rF r=>by
  obtain⟨inf,z,h1,h2,h3⟩:=vd htb ht hne;have h4:z.cells.size=i.zero.length:=by rw[<-h3];simp
  refine⟨.pointer (some ⟨w.heap.size,0,none⟩),w.alloc (.cells z.cells t),_,I,?_,rF.new _ t i.zero.length 1 [i.zero.map V.lit] (by simp[h4]) (by simp) (by simp) (by simp) (rest:=[]) (by simp;exact h3) (by simpa using VRs.lits hz),?_⟩
  ·simp[execOp,Instr.alloc,zeroValue,typeInfo,h1,h2,newVar,newRow]
  ·refine .one ?_;have hi:(ι++[(⟨w.heap.size,0,1,i.zero.length⟩:Inf)])[h.length]? =some ⟨w.heap.size,0,1,i.zero.length⟩:=by rw[r.heap.len];simp
   simpa using VR.ptr (k:=0) (o:=0) hi) hk
def bo (L:Env):List (Nat×Operand)->Option (List (Nat×List V))
 |[]=>some []
 | (i, x) :: rest => match (ev L x).bind AV.cells, bo L rest with
  |some vs,some ps=>some ((i,vs)::ps)
  |_,_=>none
def splice (cells:List V) (off:Nat) (vs:List V):List V:=cells.take off++(vs++cells.drop (off+vs.length))
def jX (place:Nat->Option (Nat×Nat)) (cells:List V):List (Nat×List V)->Option (List V)
 |[]=>some cells
 | (i, vs) :: rest => match place i with
  |some (off,size)=>if vs.length=size&&off+vs.length<=cells.length then jX place (splice cells off vs) rest else none
  |none=>none
omit [Zb]in
theorem xA (vs:List Value):∀(k off:Nat) (cells:Array Value),off+k+vs.length<=cells.size->
  ((vs.zipIdx k).foldl (λ(cs:Array Value) (p:Value×Nat)=>cs.setIfInBounds (off+p.2) p.1) cells).toList=cells.toList.take (off+k)++(vs++cells.toList.drop (off+k+vs.length)):=by
 induction vs with
 |nil=>intro k off cells h;simp
 | cons v vs ih =>
  intro k off cells h;simp at h;rw[List.zipIdx_cons,List.foldl_cons,ih (k+1) off (cells.setIfInBounds (off+k) v) (by simp;omega)];have hlt:off+k<cells.toList.length:=by simp;omega
  simp only[Array.toList_setIfInBounds];have e1:(cells.toList.set (off+k) v).take (off+(k+1))=cells.toList.take (off+k)++[v]:=by
   rw[<-Nat.add_assoc,List.take_succ_eq_append_getElem (by simp at hlt;simpa using hlt)];simp[List.take_set_of_le]
  have e2:(cells.toList.set (off+k) v).drop (off+(k+1)+vs.length)=cells.toList.drop (off+k+(v::vs).length):=by
   rw[List.drop_set_of_lt (by omega)]
   congr 1
   simp;omega
  rw[e1,e2];simp
theorem rg       {ι : List Inf} {I : Nat → Prop} {a : Act} {w : World} (r : Rel E L h ι I a w) (place : Nat → Option (Nat × Nat)) : ∀ (parts : List (Nat × Operand)) (ps : List (Nat × List V)) (cells : List V) (cs : Array Value) (out : List V),
  bo L parts=some ps->VRs ι I w cells cs.toList->jX place cells ps=some out->∃cs',Instr.fill place cs (parts.map λp=>(p.1,a.eval p.2))=some cs'/\VRs ι I w out cs'.toList:=by
 intro parts
 induction parts with
 | nil =>
  intro ps cells cs out h1 h2 h3;simp[bo]at h1;subst h1;simp[jX]at h3;subst h3;exact⟨cs,by simp[Instr.fill],h2⟩
 | cons p parts ih =>
  obtain⟨i,x⟩:=p;intro ps cells cs out h1 h2 h3;simp only[bo]at h1;cases hx:(ev L x).bind AV.cells with
  |none=>simp[hx]at h1
  | some vs =>
   cases hp:bo L parts with
   |none=>simp[hx,hp]at h1
   | some ps' =>
    simp[hx,hp]at h1;subst h1;simp only[jX]at h3;cases hpl:place i with
    |none=>simp[hpl]at h3
    | some q =>
     obtain⟨off,size⟩:=q;simp only[hpl]at h3;split at h3
     ·rename_i hc;simp at hc;obtain⟨hs,hle⟩:=hc;obtain⟨v,hv,hvs⟩:=Option.bind_eq_some_iff.1 hx;obtain⟨k1,k2,k3⟩:=(r.ev hv).cells hvs;have hsz:cs.size=cells.length:=by have:=h2.1;simpa using this
      have hfold:=xA (a.eval x).cells.toList 0 off cs (by simp[k2];omega);rw[Nat.add_zero]at hfold;have hnew:VRs ι I w (splice cells off vs) ((a.eval x).cells.zipIdx.foldl (λ(cs:Array Value) (p:Value×Nat)=>cs.setIfInBounds (off+p.2) p.1) cs).toList:=by
       have e:((a.eval x).cells.zipIdx.foldl (λ(cs:Array Value) (p:Value×Nat)=>cs.setIfInBounds (off+p.2) p.1) cs).toList=cs.toList.take off++((a.eval x).cells.toList++cs.toList.drop (off+vs.length)):=by
        rw[<-Array.foldl_toList,Array.toList_zipIdx,hfold];simp[k2]
       rw[e];exact(h2.take off).append (k1.append (h2.drop _))
      obtain⟨cs',f1,f2⟩:=ih ps' _ _ out hp hnew h3;refine⟨cs',?_,f2⟩;simp only[List.map_cons,Instr.fill,hpl,k2];have c1:(decide (vs.length≠size)||decide (off+vs.length>cs.size))=false:=by simp[hs];omega
      rw[if_neg (by simpa using c1)];exact f1
     ·cases h3
omit [Zb]in
theorem tZ (w:World) (fs:Array Field) (hs:∀f∈fs.toList,0<cK P f.type):(fs.mapM λf=>Prod.mk f.offset <$> sizeOf f.type:Sem (Array (Nat×Nat))).run P w= .ok (fs.map λf=>(f.offset,cK P f.type)) w:=by
 rw[Array.mapM_eq_mapM_toList];have:∀(l:List Field),(∀f∈l,0<cK P f.type)->(l.mapM λf=>Prod.mk f.offset <$> sizeOf f.type:Sem (List (Nat×Nat))).run P w= .ok (l.map λf=>(f.offset,cK P f.type)) w:=by
  intro l
  induction l with
  |nil=>intro _;simp
  | cons f l ih =>
   intro hl;rw[List.mapM_cons];simp[ba (rfl:cK P f.type=_) (hl f (by simp)),ih (λg hg=>hl g (by simp[hg]))]
 simp[this fs.toList hs];apply Array.ext';simp
theorem Ap (htb:bE P tb) {t:TypeId} {parts:List (Nat×Operand)} {i:TyI} {ps:List (Nat×List V)} {vs:List V} (hp:bo L parts=some ps) (ht:tb.lookup t=some i) (hz:i.zero.all bJ=true) (hne:i.zero≠[]) (hfs:i.fields≠[])
  (hf:jX (λ(k:Nat)=>(i.fields[k]?).map λ(f:Nat×Nat×Nat)=>(f.1,f.2.2)) (i.zero.map V.lit) ps=some vs) (hsz:i.fields.all (λf=>decide (0<f.2.2))=true) (hn:d<E.n) (hk:K ((d,.agg vs)::L) h):ar P ⟨some d,.build t parts.toArray,ty,pos,af,gd⟩ E K L h:=
 aF     rfl hn (λι I a w r=>by
  obtain⟨inf,z,h1,h2,h3⟩:=vd htb ht hne;obtain⟨_,_,g2,_,_,_,_,_,g8⟩:=aP (htb t i ht);cases hd:i.desc with
  | struct fs =>
   rw[hd]at g2 g8;obtain⟨cs',f1,f2⟩:=rg r _ parts ps (i.zero.map V.lit) z.cells vs hp (by rw[h3];exact VRs.lits hz) hf;refine⟨.agg cs',?_,?_⟩
   ·have hpl:=tZ         (P:=P) w fs (λf hf=>by
      have:=aT.1 hsz (f.offset,f.type,cK P f.type) (by rw[g8];exact List.mem_map.2 ⟨f,hf,rfl⟩);simpa using this)
    have hplace:(λ(k:Nat)=>(i.fields[k]?).map λ(f:Nat×Nat×Nat)=>(f.1,f.2.2))=λ(k:Nat)=>Option.map (λf=>(f.offset,cK P f.type)) fs[k]? :=by
     funext k
     rw[g8];simp;rfl
    rw[hplace]at f1;simp[execOp,Instr.build,zeroValue,typeInfo,h1,h2,run_underlying g2,hpl];rw[f1];rfl
   ·refine .agg (f:=λj=>cs'.getD j undef) (by have:=f2.1;simpa using this) (λj hj=> ?_) (λj hj=> ?_)
    ·obtain⟨u,hu,_⟩:=f2.2 j hj;simp at hu;simp[hu]
    ·obtain⟨u,hu,hv⟩:=f2.2 j hj;simp at hu;simp[hu];exact hv
  |_=>rw[hd]at g8;exact absurd g8 hfs) hk
omit [Zb]in
theorem iA {es:List (List V)} {s:Nat} (hs:∀e∈es,e.length=s):∀{k:Nat} {e:List V} {o:Nat} {vs:List V},es[k]? =some e->o+vs.length<=s->(es.set k (splice e o vs)).flatten=splice es.flatten (k*s+o) vs:=by
 induction es with
 |nil=>intro k e o vs hk;simp at hk
 | cons x es ih =>
  intro k e o vs hk ho;have hx:x.length=s:=hs x (by simp);cases k with
  | zero =>
   simp at hk;subst hk;simp only[List.set_cons_zero,List.flatten_cons,splice,Nat.zero_mul,Nat.zero_add];rw[List.take_append_of_le_length (by omega),List.drop_append_of_le_length (by omega)];simp
  | succ k =>
   simp only[List.getElem?_cons_succ]at hk;have:=ih (λy hy=>hs y (by simp[hy])) hk ho;simp only[List.set_cons_succ,List.flatten_cons,this];simp only[splice];have e1:(k+1)*s+o=x.length+(k*s+o):=by rw[Nat.add_mul];omega
   have e2:(k+1)*s+o+vs.length=x.length+(k*s+o+vs.length):=by omega
   rw[e2,e1,List.take_length_add_append,List.drop_length_add_append];simp
omit [Zb]in
theorem nf {cs:List V} {o:Nat} {vs:List V} (h:o+vs.length<=cs.length):(splice cs o vs).length=cs.length:=by simp[splice];omega
theorem rI (htb:bE P tb) {t:TypeId} {x y:Operand} {id k o' s:Nat} {es:List (List V)} {e vs:List V} {v:AV} {i:TyI} (hx:ev L x=some (.one (.ptr id k o'))) (hy:ev L y=some v) (hv:v.cells=some vs) (ht:tb.lookup t=some i) (hsz:i.size=vs.length)
  (ho:h[id]? =some (some (.row s es))) (he:es[k]? =some e) (hle:o'+vs.length<=s) (hk:K L (h.set id (some (.row s (es.set k (splice e o' vs)))))):ar P ⟨none,.store t x y,ty,pos,af,gd⟩ E K L h:=by
 refine⟨λLf ι I a w rF=> ?_⟩;have r:=rF.low;obtain⟨inf,hι,hor,hs2⟩:=r.row ho;obtain⟨k1,k2,k3⟩:=(r.ev hy).cells hv;have hp:=(r.ev hx).one';generalize hc:a.eval x=c at hp;obtain⟨inf',g1,_,g3,_⟩:=aP (htb t i ht);obtain⟨cur,tt,pr,cs,rest,f1,f2,f3,f4,f5,f6,f7,f8,f9,f10⟩:=hor.flat;have hkl:=(gI.1 he).1;have hel:e.length=s:=f6 e (mG he);cases hp with
 | @ptr _ _ _ _ inf2 hi =>
  have:inf2=inf:=by rw[hι]at hi;cases hi;rfl
  subst this;have hvl:(a.eval y).cells.toList.length=vs.length:=by simpa using k2
  have hmul:k*s+s<=es.length*s:=by
   have:(k+1)*s<=es.length*s:=Nat.mul_le_mul_right _ hkl;rw[Nat.add_mul]at this;omega
  have hcur:cur.size=inf2.base+(es.length*s+rest.length):=by rw[<-Array.length_toList,f7];simp[f8,f10]
  have hrun:=run_storeCells_at (P:=P) inf2.block (inf2.base+(k*inf2.size+o')) tt (a.eval y).cells.toList 0 cur w f1 (by rw[hvl,f2];omega) k3;obtain⟨W,hW⟩:∃W,W=w.setRow inf2.block (cur.toList.take (inf2.base+(k*inf2.size+o')+0)++(a.eval y).cells.toList++cur.toList.drop (inf2.base+(k*inf2.size+o')+0+(a.eval y).cells.toList.length)).toArray:=⟨_,rfl⟩;rw[<-hW]at hrun;unfold Oper.wp;have hex:(execOp a.eval ⟨none,.store t x y,ty,pos,af,gd⟩).run P w= .ok .skip W:=by
   have hsize:(a.eval y).cells.size=inf'.size:=by rw[k2,g3,hsz]
   simp[execOp,Instr.storeAt,Instr.sureAddr,hc,storeVar,sizeOf,typeInfo,g1,hsize,hrun]
  rw[hex,Oper.upon_skip,hW];refine⟨L,_,ι,I,hk,?_⟩
  have hnew:=rF.set (s':=s) (es':=es.set k (splice e o' vs)) (cur:=(cur.toList.take (inf2.base+(k*inf2.size+o')+0)++(a.eval y).cells.toList++cur.toList.drop (inf2.base+(k*inf2.size+o')+0+(a.eval y).cells.toList.length)).toArray) (t:=tt)
   (w':=w.setRow inf2.block (cur.toList.take (inf2.base+(k*inf2.size+o')+0)++(a.eval y).cells.toList++cur.toList.drop (inf2.base+(k*inf2.size+o')+0+(a.eval y).cells.toList.length)).toArray)
   (pr:=pr) (cs:=cs.take (k*s+o')++((a.eval y).cells.toList++cs.drop (k*s+o'+vs.length))) (rest:=rest)
   ho hι (setRow_heap w _ cur _ tt _ f1) (λb hb=>setRow_other w _ b _ hb) rfl rfl rfl (by simp) f2 (by
    rw[List.size_toArray,List.length_append,List.length_append,List.length_take,List.length_drop,hvl,Array.length_toList,f2]
    omega) f4 (by simpa using f5) (λx hx=>by
     rcases List.mem_or_eq_of_mem_set hx with h|h
     ·exact f6 x h
     ·rw[h,nf (by omega),hel]) (by
    simp only[f7,f2,hvl,Nat.add_zero];have hpl:pr.length=inf2.base:=f8;have c1:inf2.base+(k*s+o')=pr.length+(k*s+o'):=by omega
    rw[c1,List.take_length_add_append,Nat.add_assoc,List.drop_length_add_append,List.take_append_of_le_length (by omega),List.drop_append_of_le_length (by omega)];simp) f8 (by
    rw[iA f6 he hle];exact(f9.take _).append (k1.append (f9.drop _)))
  exact hnew
end
end
section
variable [Zb]
section
variable {P : Program} {E : Cx} {K : Env → ag → Prop} {L : Env} {h h0 l : ag} {d n : Nat} {ty : TypeId} {pos : String} {af : Array Edge} {gd : Option (Nat × Bool)} {tb : Tbl} {o : Oper}
omit [Zb]in
theorem xZ {z:Array Value} {zs:List Value} {s:Nat} (hz:z.toList=zs) (hs:zs.length=s) (n:Nat):(madeCells z (n*s)).toList=(List.replicate n zs).flatten:=by
 have hzs:z.size=s:=by rw[<-hs,<-hz];simp
 apply List.ext_getElem
 ·rw[bb (s:=s) (λe he=>by rw[List.eq_of_mem_replicate he];exact hs)];simp[madeCells]
 ·intro j h1 h2;have hj:j<n*s:=by simpa [madeCells]using h1
  have hs0:0<s:=by rcases Nat.eq_zero_or_pos s with h|h;(subst h;simp at hj);exact h
  have hk:j / s<n:=Nat.div_lt_of_lt_mul (by rw[Nat.mul_comm];exact hj);have hm:j%s<s:=Nat.mod_lt _ hs0;have e0:j / s*s+j%s=j:=by rw[Nat.mul_comm];exact Nat.div_add_mod j s
  obtain⟨h3,e⟩:=gy (es:=List.replicate n zs) (s:=s) (λe he=>by rw[List.eq_of_mem_replicate he];exact hs) (k:=j / s) (j:=j%s) (by simpa using hk) (by simp[hs];exact hm)
  have e1:(List.replicate n zs).flatten[j]=zs[j%s]'(by rw[hs];exact hm):=by
   have:(List.replicate n zs).flatten[j]=(List.replicate n zs).flatten[j / s*s+j%s]:=by congr 1;exact e0.symm
   rw[this,e];simp
  rw[e1];simp[madeCells,hzs];rw[getElem!_pos z (j%s) (by rw[hzs];exact hm)];subst hz;simp
theorem VRs.made {ι:List Inf} {I:Nat->Prop} {w:World} {z:Array Value} {zs:List Value} {s:Nat} (hz:z.toList=zs) (hs:zs.length=s) (hl:zs.all bJ=true) (n:Nat):VRs ι I w (List.replicate n (zs.map V.lit)).flatten (madeCells z (n*s)).toList:=by
 rw[xZ hz hs];exact VRs.flat (s:=s) (by simp) λk h1 h2=>by simpa using VRs.lits hl
omit [Zb]in
theorem ly (htb:bE P tb) {t:TypeId} {el:ElI} (he:dN tb t=some el) (hne:el.zero≠[]) (hz:el.zero.length=el.size):∃inf z,P.info? el.t=some inf/\inf.zero=some z/\z.cells.toList=el.zero/\inf.size=el.size/\inf.bytes=el.bytes:=by
 obtain⟨_,u2,u3,u4⟩:=aH htb he;unfold jC at u4;have hpos:0<el.size:=by rw[<-hz];exact List.length_pos_iff.2 hne
 obtain⟨inf,h1,h2⟩:=ka u2 hpos;rw[h1]at u4 u3;cases hzz:inf.zero with
 |none=>simp[hzz]at u4;exact absurd u4 hne
 |some z=>exact⟨inf,z,h1,hzz,by simpa [hzz]using u4,h2,by simpa using u3⟩
def lU (s:Nat) (es:List (List V)):List (Nat×List V)->Option (List (List V))
 |[]=>some es
 |(i,vs)::rest=>if vs.length=s&&i<es.length then lU s (es.set i vs) rest else none
omit [Zb]in
theorem ny {s:Nat}:∀(ps:List (Nat×List V)) (es es':List (List V)),(∀e∈es,e.length=s)->lU s es ps=some es'->jX (λi=>some (i*s,s)) es.flatten ps=some es'.flatten/\(∀e∈es',e.length=s)/\es'.length=es.length
 |[],es,es',hs,h=>by simp[lU]at h;subst h;exact⟨rfl,hs,rfl⟩
 | (i, vs) :: rest, es, es', hs, h => by
  simp only[lU]at h;split at h
  ·rename_i hc;simp at hc;obtain⟨hv,hi⟩:=hc;have hs':∀e∈es.set i vs,e.length=s:=λe he=>by
    rcases List.mem_or_eq_of_mem_set he with h|h
    ·exact hs e h
    ·rw[h];exact hv
   obtain⟨k1,k2,k3⟩:=ny rest _ _ hs' h;have hge:es[i]? =some es[i]:=gE hi;have hl:es[i].length=s:=hs _ (gM hi);have hsp:=iA hs (o:=0) (vs:=vs) hge (by omega);have e0:splice es[i] 0 vs=vs:=by
    simp only[splice,List.take_zero,List.nil_append,Nat.zero_add];rw[List.drop_eq_nil_of_le (by omega),List.append_nil]
   rw[e0,Nat.add_zero]at hsp;refine⟨?_,k2,by rw[k3];simp⟩;simp only[jX,hv];have:i*s+s<=es.flatten.length:=by
    rw[bb hs];have:=Nat.mul_le_mul_right s hi;rw[Nat.succ_mul]at this;omega
   rw[if_pos (by simpa using this),<-hsp];exact k1
  ·cases h
theorem og (htb:bE P tb) (hn0:h0.length=n) {t:TypeId} {len:Nat} {parts:List (Nat×Operand)} {el:ElI} {ps:List (Nat×List V)} {es:List (List V)} (he:dN tb t=some el) (hne:el.zero≠[]) (hz:el.zero.length=el.size) (hl:el.zero.all bJ=true)
  (hp:bo L parts=some ps) (hf:lU el.size (List.replicate len (el.zero.map V.lit)) ps=some es) (hb:Nat.ble (len*el.size) 16777216=true) (hn:d<E.n)
  (hk:K ((d,.one (.own (n+l.length) 0 len))::L) (h0++(l++[some (.row el.size es)]))):ar P ⟨some d,.buildSlice t len parts.toArray,ty,pos,af,gd⟩ E K L (h0++l):=by
 rw[<-List.append_assoc]at hk;refine ig rfl hn (λLf ι I a w rF r=> ?_) hk;obtain⟨inf,z,g1,g2,g3,g4,g5⟩:=ly htb he hne hz;obtain⟨u1,u2,_⟩:=aH htb he;have hpos:0<el.size:=by rw[<-hz];exact List.length_pos_iff.2 hne
 obtain⟨k1,k2,k3⟩:=ny ps _ _ (λe he=>by rw[List.eq_of_mem_replicate he];simpa using hz) hf;obtain⟨cs',f1,f2⟩:=rg r (λi=>some (i*el.size,el.size)) parts ps _ (madeCells z.cells (len*el.size)) _ hp (VRs.made g3 hz hl len) k1;have hlen:es.length=len:=by rw[k3];simp
 have hcs:cs'.size=len*el.size:=by have:=f2.1;rw[bb k2,hlen]at this;simpa using this
 have hb':¬(16777216<len*el.size):=by have:=Nat.le_of_ble_eq_true hb;omega
 refine⟨.slice (some ⟨w.heap.size,0,none⟩) len len,w.alloc (.cells cs' el.t),_,I,?_,rF.new cs' el.t el.size len es hcs (by have:=Nat.le_of_ble_eq_true hb;have:=Nat.le_mul_of_pos_right len hpos;omega) (by omega) k2 (cs:=cs'.toList) (rest:=[]) (by simp) f2,?_⟩
 ·by_cases h0':len*el.size=0
  ·have e0:madeCells z.cells (len*el.size)= #[]:=by rw[h0'];simp[madeCells]
   rw[e0]at f1;simp[execOp,Instr.buildSlice,run_underlying u1,ba u2 hpos,h0'];have e1:Array.map (λ_=>(default:Value)) (Array.range 0)= #[]:=by simp
   rw[e1,f1];simp[newRow]
  ·have e0:(Array.range (len*el.size)).map (z.cells[·%z.cells.size]!)=madeCells z.cells (len*el.size):=rfl;simp[execOp,Instr.buildSlice,run_underlying u1,ba u2 hpos,h0',hb',zeroValue,typeInfo,g1,g2];have e1:(Array.map (λx=>z.cells[x%z.cells.size]!) (Array.range (len*el.size)))=madeCells z.cells (len*el.size):=rfl;simp only[e1,f1];simp[newRow]
 ·refine .one ?_;have hi:(ι++[(⟨w.heap.size,0,len,el.size⟩:Inf)])[n+l.length]? =some ⟨w.heap.size,0,len,el.size⟩:=by
   have:=r.heap.len;simp at this;have e:n+l.length=ι.length:=by omega
   rw[e];simp
  simpa using VR.own (off:=0) (len:=len) (c:=len) hi (Nat.le_refl _) (by simp) (by have:=Nat.le_of_ble_eq_true hb;have:=Nat.le_mul_of_pos_right len hpos;omega)
theorem Ce (htb:bE P tb) (hn0:h0.length=n) {t:TypeId} {x y:Operand} {kx ky:IntKind} {m:Nat} {el:ElI} (he:dN tb t=some el) (hne:el.zero≠[]) (hz:el.zero.length=el.size) (hl:el.zero.all bJ=true)
  (hx:ev L x=some (.one (.lit (.int kx m)))) (hy:ev L y=some (.one (.lit (.int ky m)))) (hb:el.bytes*m<=281474976710656) (hm:m<=9223372036854775807) (hn:d<E.n)
  (hk:K ((d,.one (.own (n+l.length) 0 m))::L) (h0++(l++[some (.row el.size (List.replicate m (el.zero.map V.lit)))]))):ar P ⟨some d,.makeSlice t x y,ty,pos,af,gd⟩ E K L (h0++l):=by
 rw[<-List.append_assoc]at hk;refine ig rfl hn (λLf ι I a w rF r=> ?_) hk;obtain⟨inf,z,g1,g2,g3,g4,g5⟩:=ly htb he hne hz;obtain⟨u1,u2,_⟩:=aH htb he;have hb':(inf.bytes:Int)*(m:Int)<=281474976710656:=by
  rw[g5];have:((el.bytes*m:Nat):Int)<=281474976710656:=by omega
  rwa [Int.natCast_mul]at this
 have hrun:=run_make (P:=P) w t el.t inf z u1 g1 g2 kx ky m m (by omega) (by omega) hb' (by omega);simp only[Int.toNat_natCast,g4]at hrun;have ls:∀e∈List.replicate m (el.zero.map V.lit),e.length=el.size:=λe he=>by rw[List.eq_of_mem_replicate he];simpa using hz
 refine⟨.slice (some ⟨w.heap.size,0,none⟩) m m,w.alloc (.cells (madeCells z.cells (m*el.size)) el.t),_,I,?_,rF.new _ el.t el.size m (List.replicate m (el.zero.map V.lit)) (by simp[madeCells]) hm (by simp) ls (cs:=(madeCells z.cells (m*el.size)).toList) (rest:=[]) (by simp) (VRs.made g3 hz hl m),?_⟩
 ·simp[execOp,(r.ev hx).lit.1,(r.ev hy).lit.1,hrun]
 ·refine .one ?_;have hi:(ι++[(⟨w.heap.size,0,m,el.size⟩:Inf)])[n+l.length]? =some ⟨w.heap.size,0,m,el.size⟩:=by
   have:=r.heap.len;simp at this;have e:n+l.length=ι.length:=by omega
   rw[e];simp
  simpa using VR.own (off:=0) (len:=m) (c:=m) hi (Nat.le_refl _) (by simp) hm
def fe (h:ag) (s:Nat):V->Option (List (List V))
 | .imm s' es=>if s'=s then some es else none
 | .immc s' es=>if s'=s then some es else none
 | .own id off len=>match h[id]? with
  |some (some (.row s' es))=>if s'=s&&off+len<=es.length then some ((es.drop off).take len)else none
  |_=>none
 | .lit (.slice none 0 0)=>some []
 |_=>none
theorem xI {ι:List Inf} {I:Nat->Prop} {w:World} {vs:List V} {cs:List Value} (h:VRs ι I w vs cs):∀u∈cs,u.oneCell'=true:=λu hu=>by
 obtain⟨j,hj,rfl⟩:=List.getElem_of_mem hu;obtain⟨x,h1,h2⟩:=h.2 j (by rw[<-h.1];exact hj);rw[gE hj]at h1;cases h1;exact h2.plain.1
omit [Zb]in
theorem vk {es:List (List V)} {s:Nat} (hs:∀e∈es,e.length=s) {j:Nat} (hj:j<es.flatten.length):∃(h1:j / s<es.length) (h2:j%s<es[j / s].length),es.flatten[j]=es[j / s][j%s]/\j / s*s+j%s=j/\j%s<s:=by
 have hj':j<es.length*s:=by rw[bb hs]at hj;exact hj
 have hs0:0<s:=by rcases Nat.eq_zero_or_pos s with h|h;(subst h;simp at hj');exact h
 have hk:j / s<es.length:=Nat.div_lt_of_lt_mul (by rw[Nat.mul_comm];exact hj');have hm:j%s<es[j / s].length:=by rw[hs _ (gM hk)];exact Nat.mod_lt _ hs0
 have e0:j / s*s+j%s=j:=by rw[Nat.mul_comm];exact Nat.div_add_mod j s
 obtain⟨_,e⟩:=gy hs hk hm;refine⟨hk,hm,?_,e0,Nat.mod_lt _ hs0⟩;rw[<-e];congr 1;exact e0.symm
theorem mB {ι:List Inf} {I:Nat->Prop} {a:Act} {w:World} (r:Rel E L h ι I a w) {s:Nat} {v:V} {c:Value} {es:List (List V)} (hv:VR I w ι v c) (he:fe h s v=some es):
  ∃A cap cs,c= .slice A es.length cap/\es.length<=cap/\cap<=9223372036854775807/\(∀e∈es,e.length=s)/\VRs ι I w es.flatten cs/\cs.length=es.length*s/\(es=[]\/∃b off,A=some ⟨b,off,none⟩/\∀j u,cs[j]? =some u->w.cell? ⟨b,off+j,none⟩=some u):=by
 have key:∀{es:List (List V)} {b off cap:Nat} {f:Nat->Nat->Value},(∀e∈es,e.length=s)->es.length<=cap->cap<=9223372036854775807->(∀k j,k<es.length->j<s->w.cell? ⟨b,off+(k*s+j),none⟩=some (f k j))->
   (∀(k:Nat) (hk:k<es.length) (j:Nat) (hj:j<es[k].length),VR I w ι es[k][j] (f k j))->
   ∃A cap' cs,Value.slice (some ⟨b,off,none⟩) es.length cap= .slice A es.length cap'/\es.length<=cap'/\cap'<=9223372036854775807/\(∀e∈es,e.length=s)/\VRs ι I w es.flatten cs/\cs.length=es.length*s/\(es=[]\/∃b off,A=some ⟨b,off,none⟩/\∀j u,cs[j]? =some u->w.cell? ⟨b,off+j,none⟩=some u):=by
  intro es b off cap f hs hc hm hcell hr;refine⟨_,cap,(List.range (es.length*s)).map λj=>f (j / s) (j%s),rfl,hc,hm,hs,⟨by rw[bb hs];simp,λj hj=> ?_⟩,by simp,.inr ⟨b,off,rfl,λj u hu=> ?_⟩⟩
  ·obtain⟨h1,h2,e1,e2,h3⟩:=vk      hs hj;have hj':j<es.length*s:=by rw[bb          hs]at hj;exact hj
   refine⟨f (j / s) (j%s),by simp[hj'],?_⟩;rw[e1];exact hr _ h1 _ h2
  ·simp at hu;obtain⟨x,hx,rfl⟩:=hu;have hj:j<es.length*s:=by
    rcases Nat.lt_or_ge j (es.length*s)with h|h
    ·exact h
    ·rw[List.getElem?_eq_none (by simpa using h)]at hx;cases hx
   rw[List.getElem?_range hj]at hx;cases hx;obtain⟨h1,h2,e1,e2,h3⟩:=vk hs (j:=j) (by rw[bb hs];exact hj);have:=hcell (j / s) (j%s) h1 h3;rw[e2]at this;exact this
 unfold fe at he;split at he
 ·rename_i s' es';split at he
  ·rename_i e;cases he;subst e;cases hv with
   |imm0 hc=>exact⟨_,_,[],rfl,Nat.zero_le _,hc,by simp,VRs.nil,by simp,.inl rfl⟩
   |imm hs hc hm hI hcell hr=>exact key hs hc hm hcell (λk hk j hj=>(hr k hk j hj).up)
  ·cases he
 ·rename_i s' es';split at he
  ·rename_i e;cases he;subst e;cases hv with
   |immc0=>exact⟨_,_,[],rfl,Nat.zero_le _,by simp,by simp,VRs.nil,by simp,.inl rfl⟩
   |immc hs hm hI hcell hr=>exact key hs (Nat.le_refl _) hm hcell (λk hk j hj=>(hr k hk j hj).up)
  ·cases he
 ·rename_i id off len;split at he
  ·rename_i s' es' ho;split at he
   ·rename_i hc;simp at hc;obtain⟨rfl,hle⟩:=hc;cases he;obtain⟨inf,hι,hor,hsz⟩:=r.row ho;obtain⟨cur,t,f1,f2,f3,f4,f5,f6,f7⟩:=hor;have hl:((es'.drop off).take len).length=len:=by simp;omega
    have hs:∀e∈(es'.drop off).take len,e.length=s':=λe he=>f6 e (List.mem_of_mem_drop (List.mem_of_mem_take he));have hcell:∀k j,k<((es'.drop off).take len).length->j<s'->w.cell? ⟨inf.block,inf.base+off*s'+(k*s'+j),none⟩=some (cur.getD (inf.base+((off+k)*s'+j)) undef):=λk j hk hj=>by
     rw[hl]at hk;obtain⟨u,hu,_⟩:=f7 (off+k) (by omega) j (by rw[f6 _ (gM _)];exact hj);have e1:inf.base+off*s'+(k*s'+j)=inf.base+((off+k)*s'+j):=by rw[Nat.add_mul];omega
     rw[e1];simp[World.cell?,f1,hu]
    have hr:∀(k:Nat) (hk:k<((es'.drop off).take len).length) (j:Nat) (hj:j<((es'.drop off).take len)[k].length),VR I w ι ((es'.drop off).take len)[k][j] (cur.getD (inf.base+((off+k)*s'+j)) undef):=λk hk j hj=>by
     simp only[List.getElem_take,List.getElem_drop]at hj ⊢;rw[hl]at hk;obtain⟨u,hu,hv⟩:=f7 (off+k) (by omega) j hj;simp[hu];exact hv
    cases hv with
    | @own _ _ _ _ cap inf' hi hll hcap hm=>
     have:inf'=inf:=by rw[hι]at hi;cases hi;rfl
     subst this;have:=key (cap:=cap) hs (by omega) hm hcell hr;rw[hl]at this ⊢;rw[hsz];exact this
    | own0 hi hcap =>
     have e0:(es'.drop off).take 0=[]:=List.take_zero;rw[e0];exact⟨_,_,[],rfl,Nat.le_refl _,by simp,by simp,VRs.nil,by simp,.inl rfl⟩
   ·cases he
  ·cases he
 ·cases he;cases hv with
  |lit h=>exact⟨_,_,[],rfl,Nat.le_refl _,by simp,by simp,VRs.nil,by simp,.inl rfl⟩
 ·cases he
theorem wX {ι:List Inf} {I:Nat->Prop} {a:Act} {w:World} (r:Rel E L h ι I a w) {s:Nat} {v:V} {c:Value} {es:List (List V)} {tx e':TypeId} (hk:P.underlying tx=some (.slice e')) (hv:VR I w ι v c) (he:fe h s v=some es):
  ∃cs,Src P s tx c es.length cs w/\VRs ι I w es.flatten cs/\(∀e∈es,e.length=s):=by
 obtain⟨A,cap,cs,rfl,h1,h2,h3,h4,h5,h6⟩:=mB r hv he;refine⟨cs,?_,h4,h3⟩;cases A with
 | none =>
  rcases h6 with rfl|⟨b,off,hA,_⟩
  ·have:cs=[]:=nZ (by simpa using h5);subst this;exact Src.ofNil w hk cap
  ·cases hA
 | some ad =>
  refine Src.ofSlice w hk ad es.length cap cs h5 (λj u hu=> ?_) (xI h4);rcases h6 with rfl|⟨b,off,hA,h7⟩
  ·have:cs=[]:=nZ (by simpa using h5);subst this;simp at hu
  ·cases hA;rw[bI];exact h7 j u hu
end
end
section
variable [Zb]
section
variable {P : Program} {E : Cx} {K : Env → ag → Prop} {L : Env} {h h0 l : ag} {d n : Nat} {ty : TypeId} {pos : String} {af : Array Edge} {gd : Option (Nat × Bool)} {tb : Tbl} {o : Oper}
omit [Zb]in
theorem lg (I:Nat->Prop) (w:World):Keeps I I w w.drew:=⟨λ_ h=>h,λ_ _=>rfl⟩
omit [Zb]in
theorem rD (w:World) (t tx ty e:TypeId) (i:TypeInfo) (ht:P.underlying t=some (.slice e)) (hi:P.info? e=some i) (b off sLen sCap:Nat) (x:Value) (n:Nat) (news:List Value) (hs:Src P i.size tx x n news w)
  (hroom:sLen+n<=sCap) {cur:Array Value} {tt:TypeId} (hb:w.heap[b]? =some (.cells cur tt (0,0))) (hfit:off+sLen*i.size+news.length<=cur.size):
  (Builtin.append_ #[t, tx] ty #[.slice (some ⟨b, off, none⟩) sLen sCap, x]).run P w = .ok (.slice (some ⟨b, off, none⟩) (sLen + n) sCap)
   (w.setRow b (cur.toList.take (off+sLen*i.size)++news++cur.toList.drop (off+sLen*i.size+news.length)).toArray):=by
 have hst:=run_storeCells_at (P:=P) b (off+sLen*i.size) tt news 0 cur w hb (by simpa using hfit) hs.one;simp only[Nat.add_zero]at hst;rcases hs.kind with⟨e',hk⟩|hk<;>simp[Builtin.append_,run_underlying ht,run_underlying hk,sizeOf,typeInfo,hi,hs.len,hroom,hs.cells,bI,hst]
theorem OR.shift {ι:List Inf} {I:Nat->Prop} {w:World} {inf:Inf} {s off:Nat} {es:List (List V)} (h:OR ι I w inf (.row s es)) (ho:off<=es.length):OR ι I w ⟨inf.block,inf.base+off*s,inf.cap-off,s⟩ (.row s (es.drop off)):=by
 obtain⟨cur,t,h1,h2,h3,h4,h5,h6,h7⟩:=h;refine⟨cur,t,h1,rfl,?_,by show inf.cap-off<=_;omega,by simp;omega,λe he=>h6 e (List.mem_of_mem_drop he),λk hk j hj=> ?_⟩
 ·show cur.size=inf.base+off*s+(inf.cap-off)*s;rw[h3];have:inf.cap*s=off*s+(inf.cap-off)*s:=by rw[<-Nat.add_mul];congr 1;omega
  omega
 ·simp only[List.getElem_drop]at hj ⊢;simp at hk;obtain⟨u,hu,hv⟩:=h7 (off+k) (by omega) j hj;refine⟨u,?_,hv⟩;show cur[inf.base+off*s+(k*s+j)]? =some u;rw[<-hu]
  congr 1
  rw[Nat.add_mul];omega
omit [Zb]in
theorem cM {x y:Operand} {t tx:TypeId} (a:Act) (w:World):(execOp a.eval ⟨some d,.call ⟨.builtin .append,#[x,y],#[t,tx]⟩,ty,pos,af,gd⟩).run P w=((Builtin.append_ #[t,tx] ty #[a.eval x,a.eval y]).run P w).andThen λv w'=>.ok (.value v) w':=by
 simp[execOp,resolve,invoke,builtin]
def lY (P:Program) (E:Cx) (L:Env) (h:ag) (s:Nat) (tx:TypeId) (y:Operand) (ns:List (List V)):Prop:=∀ι I a w,Rel E L h ι I a w->∃news,Src P s tx (a.eval y) ns.length news w/\VRs ι I w ns.flatten news/\(∀e∈ns,e.length=s)
theorem lV (htb:bE P tb) {tx:TypeId} {y:Operand} {s:Nat} {ns:List (List V)} {v:V} {el':ElI} (hex:dN tb tx=some el') (hy:ev L y=some (.one v)) (hv:fe h s v=some ns):lY P E L h s tx y ns:=
 λ_ _ _ _ r=>wX (P:=P) r (aH htb hex).1 (r.ev hy).one' hv
omit [Zb]in
theorem Dq (b:UInt8):dM (.int .u8 b.toNat):=by
 have:=b.toNat_lt;show (Lit.int .u8 b.toNat).wf=true;simp[Lit.wf,IntKind.min,IntKind.max,IntKind.signed,IntKind.bits];omega
def lD (b:ByteArray):List (List V):=b.data.toList.map λc=>[V.lit (.int .u8 c.toNat)]
theorem wo (htb:bE P tb) {tx:TypeId} {y:Operand} {b:ByteArray} {i:TyI} (ht:tb.lookup tx=some i) (hi:i.desc= .string) (hy:ev L y=some (.one (.lit (.string b)))):lY P E L h 1 tx y (lD b):=λι I a w r=>by
 obtain⟨e,_⟩:=(r.ev hy).lit;obtain⟨_,_,h2,_⟩:=aP (htb tx i ht);rw[hi]at h2;have hl:(lD b).length=b.size:=by
  unfold lD;rw[List.length_map,Array.length_toList];rfl
 have hf:(lD b).flatten=(b.data.toList.map λc=>V.lit (.int .u8 c.toNat)):=by
  unfold lD
  induction b.data.toList with
  |nil=>rfl
  |cons c l ih=>simp[ih]
 refine⟨byteCells b,?_,?_,λe he=>by obtain⟨c,_,rfl⟩:=List.mem_map.1 he;rfl⟩
 ·rw[hl,e];exact Src.ofString w h2 b
 ·rw[hf];refine⟨by simp[byteCells],λj hj=> ?_⟩;have hj':j<b.data.toList.length:=by simpa using hj
  refine⟨.int .u8 b.data.toList[j].toNat,by unfold byteCells;rw[List.getElem?_map,gE hj'];rfl,?_⟩;rw[List.getElem_map];refine .lit ?_;exact Dq _
theorem uA (htb:bE P tb) {t tx:TypeId} {x y:Operand} {id off len s:Nat} {es ns:List (List V)} {el:ElI} (hx:ev L x=some (.one (.own id off len))) (he:dN tb t=some el) (hne:el.zero≠[]) (hz:el.zero.length=el.size) (hs:el.size=s)
  (ho:h[id]? =some (some (.row s es))) (hfull:off+len=es.length) (hsrc0:lY P E L h s tx y ns) (hbnd:len+ns.length<=4294967296) (hby:Nat.ble el.bytes 4096=true) (hn:d<E.n)
  (hk:K ((d,.one (.own h.length 0 (len+ns.length)))::L) (h.set id none++[some (.row s (es.drop off++ns))])):ar P ⟨some d,.call ⟨.builtin .append,#[x,y],#[t,tx]⟩,ty,pos,af,gd⟩ E K L h:=by
 refine ig rfl hn (λLf ι I a w rF r=> ?_) hk;have hby:=Nat.le_of_ble_eq_true hby
 obtain⟨inf0,z,g1,g2,g3,g4,g5⟩:=ly htb he hne hz;obtain⟨u1,u2,_⟩:=aH htb he;have hpos:0<s:=by rw[<-hs,<-hz];exact List.length_pos_iff.2 hne
 obtain⟨inf,hι,hor,hsz⟩:=r.row ho;obtain⟨news,hsrc,hnv,hns⟩:=hsrc0 ι I a w r;have hsrc':Src P inf0.size tx (a.eval y) ns.length news w:=by rw[g4,hs];exact hsrc
 have hnl:news.length=ns.length*s:=by rw[hnv.1,bb hns]
 obtain⟨cur,tt,pr,cs,rest,f1,f2,f3,f4,f5,f6,f7,f8,f9,f10⟩:=hor.flat;have hcsz:cur.size=inf.base+(es.length*s+rest.length):=by rw[<-Array.length_toList,f7];simp[f8,f10]
 -- growing
 have grow : ∀ (A : Option Addr) (cap : Nat), a.eval x = .slice A len cap → cap < len + ns.length → (Builtin.firstCells inf0.size len (.slice A len cap)).run P w.drew = .ok (cs.drop (off * s)).toArray w.drew →
   ∃c w' ι' I',(execOp a.eval ⟨some d,.call ⟨.builtin .append,#[x,y],#[t,tx]⟩,ty,pos,af,gd⟩).run P w= .ok (.value c) w'/\Rel E (L++Lf) (h.set id none++[some (.row s (es.drop off++ns))]) ι' I' a w'/\AR ι' I' w' (.one (.own h.length 0 (len+ns.length))) c:=by
  intro A cap hc hlt hold;have hnc:=Room.nextslicecap_le' hlt;have hfit:Builtin.nextslicecap (len+ns.length) cap*inf0.bytes<=281474976710656:=by
   rw[g5];exact Nat.le_trans (Nat.mul_le_mul (Nat.le_trans hnc (Nat.mul_le_mul_left 2 hbnd)) hby) (by decide)
  have hrun:=run_append_grow_src (P:=P) w t tx ty el.t inf0 z u1 g1 g2 A len cap (cs.drop (off*s)) hold (a.eval y) ns.length news hsrc' hlt (by omega) hfit;obtain⟨gc,hgc⟩:∃gc,gc=grownCap w (len+ns.length) cap el.t:=⟨_,rfl⟩;rw[<-hgc]at hrun;have hg1:len+ns.length<=gc:=hgc▸grownCap_ge w _ _ _;have hg2:gc<=9223372036854775807:=by
   have:=grownCap_le_maxLen w (len+ns.length) cap el.t (by unfold maxLen;omega);unfold maxLen at this;omega
  have hzs:z.cells.size=s:=by rw[<-hs,<-hz,<-g3];simp
  have hdl:(cs.drop (off*s)).length=len*s:=by
   rw[List.length_drop,f10,<-hfull,Nat.add_mul];omega
  have hr2:=((rF.kill id).drew).new ((cs.drop (off*s)++news).toArray++Builtin.zeroCells z.cells (gc-(len+ns.length))) el.t s gc (es.drop off++ns) (by
    rw[Array.size_append,size_zeroCells,List.size_toArray,List.length_append,hdl,hnl,hzs,<-Nat.add_mul,<-Nat.add_mul];congr 1;omega) hg2 (by simp;omega) (λe he=>by
    rcases List.mem_append.1 he with he|he
    ·exact f6 e (List.mem_of_mem_drop he)
    ·exact hns e he) (cs:=cs.drop (off*s)++news) (rest:=(Builtin.zeroCells z.cells (gc-(len+ns.length))).toList) (by simp) (by
    have e1:(es.drop off++ns).flatten=es.flatten.drop (off*s)++ns.flatten:=by
     rw[List.flatten_append]
     congr 1
     have h1:es.flatten=(es.take off).flatten++(es.drop off).flatten:=by rw[<-List.flatten_append,List.take_append_drop]
     have h2:(es.take off).flatten.length=off*s:=by
      rw[bb (s:=s) (λe he=>f6 e (List.mem_of_mem_take he)),List.length_take,Nat.min_eq_left (by omega)]
     rw[h1,<-h2];simp
    rw[e1];exact((f9.drop _).append hnv).keep (Grows.refl _) (lg I w))
  refine⟨.slice (some ⟨w.heap.size,0,none⟩) (len+ns.length) gc,_,_,_,?_,hr2,?_⟩
  ·rw[cM,hc,hrun];rfl
  ·refine .one ?_;have hi:(ι++[(⟨w.heap.size,0,gc,s⟩:Inf)])[h.length]? =some ⟨w.heap.size,0,gc,s⟩:=by rw[r.heap.len];simp
   simpa using VR.own (off:=0) (len:=len+ns.length) (c:=gc) hi hg1 (by simp) hg2
 have hvx:=(r.ev hx).one';generalize hc:a.eval x=c at hvx;cases hvx with
 | @own0 _ _ _ oo inf' hi' hcap =>
  have hm0:0<ns.length\/ns.length=0:=by omega
  rcases hm0 with hm0|hm0
  ·exact grow _ _ hc (by omega) (by
    have:cs.drop (off*s)=[]:=by apply List.drop_eq_nil_of_le;rw[f10,<-hfull];simp
    rw[this];exact run_firstCells_some w.drew _ 0 _ 0 0 [] (by simp) (λj v h=>by simp at h))
  ·-- nothing is appended
   have e0:ns=[]:=nZ hm0;subst e0;have:inf'=inf:=by rw[hι]at hi';cases hi';rfl
   subst this;have hn0:news=[]:=nZ (by simpa using hnl);subst hn0;have hrun:(Builtin.append_ #[t,tx] ty #[.slice (some ⟨inf'.block,oo,none⟩) 0 0,a.eval y]).run P w= .ok (.slice (some ⟨inf'.block,oo,none⟩) 0 0) w:=by
    have hl0:=hsrc'.len;have hc0:=hsrc'.cells;simp at hl0 hc0;rcases hsrc'.kind with⟨e',hk⟩|hk<;>simp[Builtin.append_,run_underlying u1,run_underlying hk,sizeOf,typeInfo,g1,hl0,hc0,storeCells]
   have hsh:=hor.shift (off:=off) (by omega);refine⟨_,w,ι++[(⟨inf'.block,inf'.base+off*s,inf'.cap-off,s⟩:Inf)],I,by rw[cM,hc,hrun];rfl,?_,?_⟩
   ·have:=rF.rename (inf':=⟨inf'.block,inf'.base+off*s,inf'.cap-off,s⟩) ho hι rfl hsh;rw[List.append_nil];exact this
   ·have hi:(ι++[(⟨inf'.block,inf'.base+off*s,inf'.cap-off,s⟩:Inf)])[h.length]? =some ⟨inf'.block,inf'.base+off*s,inf'.cap-off,s⟩:=by rw[r.heap.len];simp
    have:=VR.own0 (I:=I) (w:=w) (off:=0) (o:=oo) hi (by show 0=inf'.cap-off;omega);exact .one (by simpa using this)
 | @own _ _ _ _ cap inf' hi' hle hcap hm =>
  have:inf'=inf:=by rw[hι]at hi';cases hi';rfl
  subst this;by_cases hroom:len+ns.length<=cap
  ·have hfit:inf'.base+off*inf'.size+len*inf0.size+news.length<=cur.size:=by
    rw[f3,f2,g4,hs,hnl];have h1:(off+(len+ns.length))*s<=inf'.cap*s:=Nat.mul_le_mul_right _ (by omega);rw[Nat.add_mul,Nat.add_mul]at h1;omega
   have hrun:=rD (P:=P) w t tx ty el.t inf0 u1 g1 inf'.block (inf'.base+off*inf'.size) len cap (a.eval y) ns.length news hsrc' hroom f1 hfit;have hpos2:inf'.base+off*inf'.size+len*inf0.size=pr.length+cs.length:=by
    rw[f8,f10,f2,g4,hs,<-hfull,Nat.add_mul];omega
   rw[hpos2]at hrun
   have hset:=rF.set (s':=s) (es':=es++ns) (cur:=(cur.toList.take (pr.length+cs.length)++news++cur.toList.drop (pr.length+cs.length+news.length)).toArray) (t:=tt) (w':=w.setRow inf'.block (cur.toList.take (pr.length+cs.length)++news++cur.toList.drop (pr.length+cs.length+news.length)).toArray)
    (pr := pr) (cs := cs ++ news) (rest := rest.drop news.length) ho hι (setRow_heap w _ cur _ tt _ f1) (fun b hb => setRow_other w _ b _ hb) rfl rfl rfl (by simp) f2 (by
     have hcl:cur.toList.length=cur.size:=by simp
     rw[List.size_toArray,List.length_append,List.length_append,List.length_take,List.length_drop,hcl];omega) f4 (by simp;omega) (λe he=>by
     rcases List.mem_append.1 he with he|he
     ·exact f6 e he
     ·exact hns e he) (by
     simp only[f7];rw[Nat.add_assoc,List.take_length_add_append,List.drop_length_add_append,List.drop_length_add_append];simp) f8 (by
     rw[List.flatten_append];exact f9.append hnv)
   have ho2:(h.set id (some (.row s (es++ns))))[id]? =some (some (.row s (es++ns))):=by
    rw[sS (gI.1 ho).1]
   have hor2:=hset.heap.obj id _ _ ho2 hι;have hsh:=hor2.shift (off:=off) (by simp;omega);have hfin:=hset.rename (inf':=⟨inf'.block,inf'.base+off*s,inf'.cap-off,s⟩) ho2 hι rfl hsh;rw[List.set_set]at hfin;have e2:(es++ns).drop off=es.drop off++ns:=by rw[List.drop_append_of_le_length (by omega)]
   rw[e2]at hfin;refine⟨_,_,_,I,by rw[cM,hc,hrun];rfl,hfin,?_⟩;have hi:(ι++[(⟨inf'.block,inf'.base+off*s,inf'.cap-off,s⟩:Inf)])[h.length]? =some ⟨inf'.block,inf'.base+off*s,inf'.cap-off,s⟩:=by rw[r.heap.len];simp
   have:=VR.own (I:=I) (w:=w.setRow inf'.block (cur.toList.take (pr.length+cs.length)++news++cur.toList.drop (pr.length+cs.length+news.length)).toArray) (off:=0) (len:=len+ns.length) (c:=cap) hi hroom (by show 0+cap=inf'.cap-off;omega) hm;rw[f2];exact .one (by simpa using this)
  ·refine grow _ _ hc (by omega) ?_;have hdl:(cs.drop (off*s)).length=len*s:=by rw[List.length_drop,f10,<-hfull,Nat.add_mul];omega
   refine run_firstCells_some w.drew _ len _ len cap (cs.drop (off*s)) (by rw[hdl,g4,hs]) (λj u hu=> ?_);rw[bI];rw[List.getElem?_drop]at hu;have hj:off*s+j<cs.length:=(gI.1 hu).1;show w.cell? _=_;simp only[World.cell?,f1];have e1:inf'.base+off*inf'.size+j=pr.length+(off*s+j):=by rw[f8,f2];omega
   simp only[Option.isSome_none,Bool.false_eq_true,if_false];rw[e1,<-Array.getElem?_toList,f7,aR (by omega),Nat.add_sub_cancel_left,aL hj];exact hu
theorem jl (htb:bE P tb) {t tx:TypeId} {x y:Operand} {s:Nat} {ns:List (List V)} {el:ElI} (hx:ev L x=some (.one (.lit (.slice none 0 0)))) (he:dN tb t=some el) (hne:el.zero≠[]) (hz:el.zero.length=el.size) (hs:el.size=s)
  (hsrc0:lY P E L h s tx y ns) (hm0:0<ns.length) (hbnd:ns.length<=4294967296) (hby:Nat.ble el.bytes 4096=true) (hn:d<E.n)
  (hk:K ((d,.one (.own h.length 0 ns.length))::L) (h++[some (.row s ns)])):ar P ⟨some d,.call ⟨.builtin .append,#[x,y],#[t,tx]⟩,ty,pos,af,gd⟩ E K L h:=by
 refine ig rfl hn (λLf ι I a w rF r=> ?_) hk;have hby:=Nat.le_of_ble_eq_true hby
 obtain⟨inf0,z,g1,g2,g3,g4,g5⟩:=ly htb he hne hz;obtain⟨u1,u2,_⟩:=aH htb he;obtain⟨news,hsrc,hnv,hns⟩:=hsrc0 ι I a w r;have hsrc':Src P inf0.size tx (a.eval y) ns.length news w:=by rw[g4,hs];exact hsrc
 have hnl:news.length=ns.length*s:=by rw[hnv.1,bb hns]
 have hc:=(r.ev hx).lit.1;have hnc:=Room.nextslicecap_le' (need:=0+ns.length) (old:=0) (by omega);have hfit:Builtin.nextslicecap (0+ns.length) 0*inf0.bytes<=281474976710656:=by
  rw[g5];exact Nat.le_trans (Nat.mul_le_mul (Nat.le_trans hnc (Nat.mul_le_mul_left 2 (show 0+ns.length<=4294967296 by omega))) hby) (by decide)
 have hrun:=run_append_grow_src (P:=P) w t tx ty el.t inf0 z u1 g1 g2 none 0 0 [] (run_firstCells_none w.drew _ 0 0 0) (a.eval y) ns.length news hsrc' (by omega) (by omega) hfit;obtain⟨gc,hgc⟩:∃gc,gc=grownCap w (0+ns.length) 0 el.t:=⟨_,rfl⟩;rw[<-hgc]at hrun;have hg1:0+ns.length<=gc:=hgc▸grownCap_ge w _ _ _;have hg2:gc<=9223372036854775807:=by
  have:=grownCap_le_maxLen w (0+ns.length) 0 el.t (by unfold maxLen;omega);unfold maxLen at this;omega
 have hzs:z.cells.size=s:=by rw[<-hs,<-hz,<-g3];simp
 have hr2:=(rF.drew).new (([]++news).toArray++Builtin.zeroCells z.cells (gc-(0+ns.length))) el.t s gc ns (by
   rw[Array.size_append,size_zeroCells,List.size_toArray,List.nil_append,hnl,hzs,<-Nat.add_mul];congr 1;omega) hg2 (by omega) hns (cs:=news) (rest:=(Builtin.zeroCells z.cells (gc-(0+ns.length))).toList) (by simp) (hnv.keep (Grows.refl _) (lg I w))
 refine⟨.slice (some ⟨w.heap.size,0,none⟩) (0+ns.length) gc,_,_,_,?_,hr2,?_⟩
 ·rw[cM,hc,hrun];rfl
 ·refine .one ?_;have hi:(ι++[(⟨w.heap.size,0,gc,s⟩:Inf)])[h.length]? =some ⟨w.heap.size,0,gc,s⟩:=by rw[r.heap.len];simp
  simpa using VR.own (off:=0) (len:=ns.length) (c:=gc) hi (by omega) (by simp) hg2
end
section
variable {P : Program} {E : Cx} {K : Env → ag → Prop} {L : Env} {h h0 l : ag} {d n : Nat} {ty : TypeId} {pos : String} {af : Array Edge} {gd : Option (Nat × Bool)} {tb : Tbl} {o : Oper}
end
def V.fz (id s:Nat) (es:List (List V)):V->V
 | .own i off len=>if i=id then .imm s ((es.drop off).take len)else .own i off len
 |v=>v
def AV.fz (id s:Nat) (es:List (List V)):AV->AV
 | .one v=>.one (v.fz id s es)
 | .agg vs=>.agg (vs.map (V.fz id s es))
 |v=>v
section
variable {P : Program} {E : Cx} {L : Env} {h : ag} {ι : List Inf} {I : Nat → Prop} {a : Act} {w : World}
theorem Rel.freeze (r:Rel E L h ι I a w) {id:Nat} {o:Ob} {inf:Inf} (ho:h[id]? =some (some o)) (hι:ι[id]? =some inf):Rel E L (h.set id none) ι (λb=>I b\/b=inf.block) a w:=by
 have hk:Keeps I (λb=>I b\/b=inf.block) w w:=⟨λ_ h=>.inl h,λ_ _=>rfl⟩;have hblk:inf.block<w.heap.size:=by
  have:=r.heap.obj id o inf ho hι;cases o with
  |row s es=>obtain⟨cur,t,h1,_⟩:=this;exact(Array.getElem?_eq_some_iff.1 h1).1
  |map kvs=>obtain⟨en,cl,h1,_⟩:=this;exact(Array.getElem?_eq_some_iff.1 h1).1
 have sub:∀{i:Nat} {x:Ob},(h.set id none)[i]? =some (some x)->h[i]? =some (some x)/\i≠id:=λx=>by
  rcases aW x with⟨_,x,_⟩|⟨e,x⟩
  ·cases x
  ·exact⟨x,e⟩
 exact
 { slots := fun t v hv => let ⟨c, x, y⟩ := r.slots t v hv; ⟨c, x, y.keep (Grows.refl _) hk⟩
   heap:=⟨by simp[r.heap.len],λi x f p q=>(r.heap.obj i x f (sub p).1 q).keep (Grows.refl _) hk rfl,λi x f p q hb=>by
     rcases hb with hb|hb
     · exact r.heap.off i x f (sub p).1 q hb
     · exact(sub p).2 (r.heap.inj i id x o f inf (sub p).1 ho q hι hb),λi i' x x' f f' p p' q q' e=>r.heap.inj i i' x x' f f' (sub p).1 (sub p').1 q q' e,λb c t hb=>.inl (r.heap.sub b c t hb)⟩
   imm:=λb hb=>by
     rcases hb with hb|hb
     · exact r.imm b hb
     · rw[hb];exact hblk
   immlo:=λb hb=>by
     rcases hb with hb|hb
     · exact r.immlo b hb
     · rw[hb];exact .inr (r.mine id o inf ho hι)
   pre:=r.pre
   os:=r.os
   tape:=r.tape
   output:=r.output
   grown:=r.grown
   frame:=r.frame
   mine:=λi x f p q=>r.mine i x f (sub p).1 q
   defers:=r.defers
   size:=r.size}
theorem VR.fz (r:Rel E L h ι I a w) {id s:Nat} {es:List (List V)} {inf:Inf} (ho:h[id]? =some (some (.row s es))) (hι:ι[id]? =some inf) (hfl:es.all (·.all V.flat)=true) {v:V} {c:Value}
  (hv:VR I w ι v c) (hok:∀off len,v= .own id off len->off+len<=es.length):VR (λb=>I b\/b=inf.block) w ι (v.fz id s es) c:=by
 have hk:Keeps I (λb=>I b\/b=inf.block) w w:=⟨λ_ h=>.inl h,λ_ _=>rfl⟩;by_cases hex:∃off len,v= .own id off len
 ·obtain⟨off,len,rfl⟩:=hex;have hle:=hok off len rfl;have he:fe    h s (.own id off len)=some ((es.drop off).take len):=by simp[fe   ,ho,hle]
  have hl:((es.drop off).take len).length=len:=by simp;omega
  obtain⟨cur,t,f1,f2,f3,f4,f5,f6,f7⟩:=r.heap.obj id _ _ ho hι;simp only[V.fz,if_true];cases hv with
  |own0 hi hcap=>rw[List.take_zero];exact .imm0 (by simp)
  | @own _ _ _ _ cap inf' hi hll hcap hm =>
   have:inf'=inf:=by rw[hι]at hi;cases hi;rfl
   subst this
   have:=VR.imm (ι:=ι) (I:=λb=>I b\/b=inf'.block) (w:=w) (s:=s) (b:=inf'.block) (off:=inf'.base+off*inf'.size) (c:=cap) (es:=(es.drop off).take len) (f:=λk j=>cur.getD (inf'.base+((off+k)*s+j)) undef)
    (fun e he => f6 e (List.mem_of_mem_drop (List.mem_of_mem_take he))) (by omega) hm (.inr rfl) (fun k j hk hj => by
     rw[hl]at hk;obtain⟨u,hu,_⟩:=f7 (off+k) (by omega) j (by rw[f6 _ (gM _)];exact hj);have e1:inf'.base+off*inf'.size+(k*s+j)=inf'.base+((off+k)*s+j):=by rw[f2,Nat.add_mul];omega
     rw[e1];simp[World.cell?,f1,hu]) (λk hk j hj=>by
     simp only[List.getElem_take,List.getElem_drop]at hj ⊢;rw[hl]at hk;obtain⟨u,hu,hv⟩:=f7 (off+k) (by omega) j hj;simp[hu];have hfv:=aT.1 (aT.1 hfl _ (gM (show off+k<es.length by omega))) _ (gM hj);exact(VR.free (ι':=[]) hfv hv).keep (Grows.refl _) ⟨λ_ h=>.inl h,λ_ _=>rfl⟩) (.inr λhb=>by
     rw[f1]at hb;exact r.heap.off id _ _ ho hι (r.heap.sub _ _ _ hb))
   rw[hl]at this;exact this
 ·have e:v.fz id s es=v:=by
   cases v with
   | own i off len =>
    simp only[V.fz];rw[if_neg (λe=>hex ⟨off,len,by rw[e]⟩)]
   |_=>rfl
  rw[e];exact hv.keep (Grows.refl _) hk
def V.fits (id n:Nat):V->Bool
 | .own i off len=>if i=id then decide (off+len<=n)else true
 |_=>true
def AV.fits (id n:Nat):AV->Bool
 | .one v=>v.fits id n
 | .agg vs=>vs.all (V.fits id n)
 |_=>true
omit [Zb]in
theorem kf {id n:Nat} {v:V} (h:v.fits id n=true):∀off len,v= .own id off len->off+len<=n:=λoff len e=>by subst e;simpa [V.fits]using h
theorem Rel.freezeSlot (r:Rel E L h ι I a w) {id s t:Nat} {es:List (List V)} {v:AV} (ho:h[id]? =some (some (.row s es))) (hfl:es.all (·.all V.flat)=true) (ht:L.lookup t=some v) (hfit:v.fits id es.length=true):
  ∃I',Rel E ((t,v.fz id s es)::L) (h.set id none) ι I' a w:=by
 obtain⟨inf,hι,_,_⟩:=r.row ho;refine⟨λb=>I b\/b=inf.block,?_⟩;have r':=r.freeze ho hι;obtain⟨c,h1,h2⟩:=r.slots t v ht;have hk:Keeps I (λb=>I b\/b=inf.block) w w:=⟨λ_ h=>.inl h,λ_ _=>rfl⟩;have h3:AR ι (λb=>I b\/b=inf.block) w (v.fz id s es) c:=by
  cases h2 with
  |one hv=>exact .one (VR.fz r ho hι hfl hv (kf (by simpa only[AV.fits]using hfit)))
  | agg hl hcs hr =>
   have hfit':=aT.1 (show _=true by simpa only[AV.fits]using hfit)
   exact .agg (by simpa using hl) (λj hj=>hcs j (by simpa using hj)) (λj hj=>by
    simp only[List.getElem_map];exact VR.fz r ho hι hfl (hr j (by simpa using hj)) (kf (hfit' _ (gM _))))
  |tup hl hcs hr=>exact(AR.tup hl hcs hr).keep (Grows.refl _) hk
  |dead=>exact .dead
 refine {r' with slots:=λu x hx=> ?_};rw[List.lookup_cons]at hx;by_cases e:u=t
 ·subst e;simp at hx;subst hx;exact⟨c,h1,h3⟩
 ·have e':(u==t)=false:=by simpa using e
  rw[e']at hx;exact r'.slots u x hx
theorem Shift.freeze (t id:Nat) {s:Nat} {es:List (List V)} {v:AV} (ho:h[id]? =some (some (.row s es))) (hfl:es.all (·.all V.flat)=true) (ht:L.lookup t=some v) (hfit:v.fits id es.length=true):Shift L h ((t,v.fz id s es)::L) (h.set id none):=
 ⟨λ_ _ _ _ _ r=>r.freezeSlot ho hfl ht hfit⟩
theorem Rel.freezeCell (r:Rel E L h ι I a w) {id m s sm:Nat} {es em:List (List V)} (ho:h[id]? =some (some (.row s es))) (hm:h[m]? =some (some (.row sm em))) (hne:m≠id) (hfl:es.all (·.all V.flat)=true) (hfit:em.all (·.all (V.fits id es.length))=true):
  ∃I',Rel E L ((h.set id none).set m (some (.row sm (em.map (·.map (V.fz id s es)))))) ι I' a w:=by
 obtain⟨inf,hι,_,_⟩:=r.row ho;obtain⟨infm,hιm,horm,_⟩:=r.row hm;refine⟨λb=>I b\/b=inf.block,?_⟩;have r':=r.freeze ho hι;have hm':(h.set id none)[m]? =some (some (.row sm em)):=by rw[sN (λe=>hne e.symm)];exact hm
 obtain⟨cur,t,f1,f2,f3,f4,f5,f6,f7⟩:=horm;refine {r' with heap:=⟨by simp[r.heap.len],λi x f p q=> ?_,λi x f p q=> ?_,λi i' x x' f f' p p' q q' e=> ?_,λb c t hb=>.inl (r.heap.sub b c t hb)⟩,mine:=λi x f p q=> ?_}
 ·rcases aW      p with⟨e,x1,_⟩|⟨e,x1⟩
  ·subst e;cases x1;have:f=infm:=by rw[hιm]at q;cases q;rfl
   subst this;refine⟨cur,t,f1,f2,f3,f4,by simpa using f5,λe he=> ?_,λk hk j hj=> ?_⟩
   ·obtain⟨e0,he0,rfl⟩:=List.mem_map.1 he;simpa using f6 e0 he0
   ·simp only[List.getElem_map,List.length_map]at hk hj ⊢;obtain⟨u,hu,hv⟩:=f7 k hk j hj;have hft:=aT.1 (aT.1 hfit _ (gM hk)) _ (gM hj);exact⟨u,hu,VR.fz r ho hι hfl hv (kf hft)⟩
  ·exact r'.heap.obj i x f x1 q
 ·rcases aW      p with⟨e,x1,_⟩|⟨e,x1⟩
  ·subst e;exact r'.heap.off i _ f hm' q
  ·exact r'.heap.off i x f x1 q
 ·have low:∀{i:Nat} {x:Ob},((h.set id none).set m (some (.row sm (em.map (·.map (V.fz id s es))))))[i]? =some (some x)->∃y,(h.set id none)[i]? =some (some y):=λ{i x} p=>by
   rcases aW p with⟨e,x1,_⟩|⟨e,x1⟩
   ·subst e;exact⟨_,hm'⟩
   ·exact⟨x,x1⟩
  obtain⟨y,hy⟩:=low p;obtain⟨y',hy'⟩:=low p';exact r'.heap.inj i i' y y' f f' hy hy' q q' e
 ·rcases aW      p with⟨e,x1,_⟩|⟨e,x1⟩
  ·subst e;exact r'.mine i _ f hm' q
  ·exact r'.mine i x f x1 q
theorem Shift.freezeCell (id m:Nat) {s sm:Nat} {es em:List (List V)} (ho:h[id]? =some (some (.row s es))) (hm:h[m]? =some (some (.row sm em))) (hne:m≠id) (hfl:es.all (·.all V.flat)=true) (hfit:em.all (·.all (V.fits id es.length))=true):
  Shift L h L ((h.set id none).set m (some (.row sm (em.map (·.map (V.fz id s es)))))):=⟨λ_ _ _ _ _ r=>r.freezeCell ho hm hne hfl hfit⟩
end
section
variable {P : Program} {E : Cx} {K : Env → ag → Prop} {L : Env} {h0 l : ag} {d d2 n : Nat} {ty ty2 : TypeId} {pos pos2 : String} {af af2 : Array Edge} {tb : Tbl} {ops : Array Oper} {rest : List Oper}
end
end
section
variable [Zb]
def rB (tmps:Array Value):ResultVar->Sem Value
 | .tmp t=>pure (tmps.getD t undef)
 | .cell a t=>do loadVar t (←asAddr (tmps.getD a undef))
structure C4 (P:Program) (L:Env) (h:ag) (rv:ResultVar) (v:AV):Prop where
 get:∀E ι I a w,Rel E L h ι I a w->∃c,(rB a.tmps rv).run P w= .ok c w/\AR ι I w v c
inductive ResL (P:Program) (L:Env) (h:ag):List ResultVar->List AV->Prop
 |nil:ResL P L h [] []
 |cons {r:ResultVar} {v:AV} {rs:List ResultVar} {vs:List AV}:C4 P L h r v->ResL P L h rs vs->ResL P L h (r::rs) (v::vs)
theorem ResL.run {P:Program} {L:Env} {h:ag} {rs:List ResultVar} {vs:List AV} (k:ResL P L h rs vs) {E ι I a w} (r:Rel E L h ι I a w):
  ∃cs:List Value,(rs.mapM (rB a.tmps)).run P w= .ok cs w/\cs.length=vs.length/\∀j (hj:j<vs.length),∃c,cs[j]? =some c/\AR ι I w vs[j] c:=by
 induction k with
 |nil=>exact⟨[],by simp,rfl,λj hj=>by simp at hj⟩
 | cons h1 _ ih =>
  obtain⟨c,e1,e2⟩:=h1.get _ _ _ _ _ r;obtain⟨cs,e3,e4,e5⟩:=ih;refine⟨c::cs,by simp[List.mapM_cons,e1,e3],by simp[e4],λj hj=> ?_⟩;cases j with
  |zero=>exact⟨c,rfl,e2⟩
  |succ j=>exact e5 j (by simpa using hj)
theorem yV {P:Program} {L:Env} {h:ag} {t:Nat} {v:AV} (hv:L.lookup t=some v):C4 P L h (.tmp t) v:=
 ⟨fun E ι I a w r => by
  obtain⟨c,h1,h2⟩:=r.slots t v hv;exact⟨c,by simp[rB,h1],h2⟩⟩
theorem xK {P:Program} {L:Env} {h:ag} {tb:Tbl} (htb:bE P tb) {t ty id k o s:Nat} {es:List (List V)} {e:List V} {i:TyI} {v:AV} (hx:L.lookup t=some (.one (.ptr id k o))) (ht:tb.lookup ty=some i) (ho:h[id]? =some (some (.row s es))) (he:es[k]? =some e)
  (hl:pQ i.agg i.size (e.drop o)=some v):C4 P L h (.cell t ty) v:=
 ⟨fun E ι I a w r => by
  obtain⟨inf,hι,hor,hsz⟩:=r.row ho;obtain⟨c,h1,h2⟩:=r.slots t _ hx;have hv:=h2.one';cases hv with
  | @ptr _ _ _ _ inf' hi=>
   have:inf'=inf:=by rw[hι]at hi;cases hi;rfl
   subst this;obtain⟨f,hcell,hr'⟩:=hor.cells he (o:=o);rw[<-hsz]at hcell;obtain⟨c,g1,g2⟩:=nD htb ht hcell hr' hl;refine⟨c,?_,g2⟩;simp[rB,h1,asAddr,g1]⟩
def cD :BinOp->Bool->Bool->Bool
 | .eql,a,b=>a==b
 | .neq,a,b=> !(a==b)
 |_,_,_=>false
theorem Cq {P:Program} {E:Cx} {K:Env->ag->Prop} {L:Env} {h:ag} {d:Nat} {ty:TypeId} {pos:String} {af:Array Edge} {gd:Option (Nat×Bool)} {op:BinOp} {xt yt:TypeId} {x y:Operand} {a b:Bool} (ho:(op== .eql||op== .neq)=true) (hu:P.underlying xt=some .bool)
  (hx:ev L x=some (.one (.lit (.bool a)))) (hy:ev L y=some (.one (.lit (.bool b)))) (hn:d<E.n) (hk:K ((d,.one (.lit (.bool (cD op a b))))::L) h):ar P ⟨some d,.binOp op xt x y yt,ty,pos,af,gd⟩ E K L h:=
 dC (c:=.bool (cD op a b)) hx hy (by simp) (λw=>by
  cases op<;>first
   |(cases ho;done)
   |(have e:=run_equalIn_bool w (Op.maxDepth-1) xt a b hu;rw[show Op.maxDepth-1+1=Op.maxDepth from rfl]at e;simp[binOp,Op.equal,e,cD])) (λ_ _=>trivial) hn hk
theorem AO {P:Program} {E:Cx} {K:Env->ag->Prop} {L:Env} {h:ag} {d:Nat} {ty:TypeId} {pos:String} {af:Array Edge} {gd:Option (Nat×Bool)} {tb:Tbl} (htb:bE P tb) {op:BinOp} {xt yt:TypeId} {x y:Operand} {a b:Bool} {i:TyI} (ho:(op== .eql||op== .neq)=true) (ht:tb.lookup xt=some i) (hd:i.desc= .bool)
  (hx:ev L x=some (.one (.lit (.bool a)))) (hy:ev L y=some (.one (.lit (.bool b)))) (hn:d<E.n) (hk:K ((d,.one (.lit (.bool (cD op a b))))::L) h):ar P ⟨some d,.binOp op xt x y yt,ty,pos,af,gd⟩ E K L h:=by
 obtain⟨_,_,h2,_⟩:=aP (htb xt i ht);exact Cq ho (by rw[h2,hd]) hx hy hn hk
theorem Fi {P:Program} {E:Cx} {Q:Exit->Env->ag->Prop} {L:Env} {h:ag} {c:Operand} {x y:Code} {t:Bool} (hc:ev L c=some (.one (.lit (.bool t)))) (ht:t=true) (hh:aw P x E Q L h):aw P (.cond c x y) E Q L h:=
 qI hc (λ_=>hh) (λe=>by rw[ht]at e;cases e)
theorem D5 {P:Program} {E:Cx} {Q:Exit->Env->ag->Prop} {L:Env} {h:ag} {c:Operand} {x y:Code} {t:Bool} (hc:ev L c=some (.one (.lit (.bool t)))) (ht:t=false) (hh:aw P y E Q L h):aw P (.cond c x y) E Q L h:=
 qI hc (λe=>by rw[ht]at e;cases e) (λ_=>hh)
end
section
variable [Zb]
theorem HR.nil (I:Nat->Prop) (w:World) (hs:∀b c t,Bt b (some (.cells c t (0,0)))->I b):HR [] I w []:=⟨rfl,λ_ _ _ h=>by simp at h,λ_ _ _ h=>by simp at h,λ_ _ _ _ _ _ h=>by simp at h,hs⟩
omit [Zb]in
theorem Bl (b:Nat):¬dt [] [] b:=λ⟨_,_,_,h,_⟩=>by simp at h
theorem HR.blk {ι:List Inf} {I:Nat->Prop} {w:World} {h:ag} (hH:HR ι I w h) {id:Nat} {o:Ob} {inf:Inf} (x:h[id]? =some (some o)) (y:ι[id]? =some inf):inf.block<w.heap.size:=by
 have:=hH.obj id o inf x y;cases o with
 |row s es=>obtain⟨cur,t,h1,_⟩:=this;exact(Array.getElem?_eq_some_iff.1 h1).1
 |map kvs=>obtain⟨en,cl,h1,_⟩:=this;exact(Array.getElem?_eq_some_iff.1 h1).1
theorem VR.lend {E:Cx} {L:Env} {h:ag} {ι:List Inf} {I:Nat->Prop} {a:Act} {w:World} (r:Rel E L h ι I a w) {id off len s:Nat} {es:List (List V)} {c:Value} (ho:h[id]? =some (some (.row s es))) (hfl:es.all (·.all V.flat)=true) (hle:off+len<=es.length)
  (hv:VR I w ι (.own id off len) c):VR (λb=>b<w.heap.size) w [] (.imm s ((es.drop off).take len)) c:=by
 obtain⟨inf,hι⟩:∃inf,ι[id]? =some inf:=by cases hv with|own hi _ _ _=>exact⟨_,hi⟩|own0 hi _=>exact⟨_,hi⟩
 have h1:=VR.fz r ho hι hfl hv (λoff' len' e=>by cases e;exact hle);have h2:(V.own id off len).fz id s es= .imm s ((es.drop off).take len):=by simp[V.fz]
 rw[h2]at h1;refine(h1.free (ι':=[]) rfl).keep (Grows.refl _) ⟨λb hb=> ?_,λ_ _=>rfl⟩;rcases hb with hb|hb
 ·exact r.imm b hb
 ·rw[hb];exact r.heap.blk ho hι
end
abbrev zI (I:Nat->Prop):Zb:=⟨λb x=>I b\/¬∃(c:Array Value) (t:TypeId),x=some (.cells c t (0,0))⟩
theorem VR.toZ (z1 z2:Zb) (hz:∀b x,@Bt z2 b x->@Bt z1 b x) {I:Nat->Prop} {w:World} {ι:List Inf} {v:V} {u:Value} (h: @VR z1 I w ι v u): @VR z2 I w ι v u:=by
 induction h with
 |lit h=>exact .lit h
 |imm0 hc=>exact .imm0 hc
 |imm hs hc hm hI hcell hr hT ih=>exact .imm hs hc hm hI hcell ih (hT.imp id λh k=>h (hz _ _ k))
 |immc0=>exact .immc0
 |immc hs hm hI hcell hr hT ih=>exact .immc hs hm hI hcell ih (hT.imp id λh k=>h (hz _ _ k))
 |own hi hl hcap hm=>exact .own hi hl hcap hm
 |own0 hi hcap=>exact .own0 hi hcap
 |ptr hi=>exact .ptr hi
 |iptr hI hcell hr hT ih=>exact .iptr hI hcell ih (hT.imp id λh k=>h (hz _ _ k))
 |clo hl hcs hr ih=>exact .clo hl hcs ih
 |mp hi=>exact .mp hi
theorem AR.toZ (z1 z2:Zb) (hz:∀b x,@Bt z2 b x->@Bt z1 b x) {I:Nat->Prop} {w:World} {ι:List Inf} {v:AV} {u:Value} (h: @AR z1 ι I w v u): @AR z2 ι I w v u:=by
 induction h with
 |one h=>exact .one (h.toZ z1 z2 hz)
 |agg hl hcs hr=>exact .agg hl hcs (λj hj=>(hr j hj).toZ z1 z2 hz)
 |tup hl hcs hr ih=>exact .tup hl hcs ih
 |dead=>exact .dead
theorem OR.toZ (z1 z2:Zb) (hz:∀b x,@Bt z2 b x->@Bt z1 b x) {I:Nat->Prop} {w:World} {ι:List Inf} {inf:Inf} {o:Ob} (h: @OR z1 ι I w inf o): @OR z2 ι I w inf o:=by
 cases o with
 | row s es =>
  obtain⟨cur,t,h1,h2,h3,h4,h5,h6,h7⟩:=h;exact⟨cur,t,h1,h2,h3,h4,h5,h6,λk hk j hj=>let⟨u,hu,hv⟩:=h7 k hk j hj;⟨u,hu,hv.toZ z1 z2 hz⟩⟩
 | map kvs =>
  obtain⟨en,clock,h1,h2,h3,h4,h5⟩:=h;exact⟨en,clock,h1,h2,λs vs hs=>let⟨e,he,hk,f,f0,f1,f2,f3⟩:=h3 s vs hs;⟨e,he,hk,f,f0,f1,f2,λj hj=>(f3 j hj).toZ z1 z2 hz⟩,h4,h5⟩
def thin (v:V):Prop:=(∃u,v= .lit u)\/∃es,v= .imm 1 es/\∀e∈es,∀x∈e,∃u,x= .lit u
theorem VR.thin (z1 z2:Zb) {I:Nat->Prop} {w:World} {ι:List Inf} {v:V} {u:Value} (ht:Abs.thin v) (h: @VR z1 I w ι v u): @VR z2 I w ι v u:=by
 rcases ht with⟨x,rfl⟩|⟨es,rfl,hl⟩
 ·cases h with|lit h=>exact .lit h
 ·cases h with
  |imm0 hc=>exact .imm0 hc
  | imm hs hc hm hI hcell hr hT =>
   refine .imm hs hc hm hI hcell (λk hk j hj=> ?_) (.inl rfl);have q:=hr k hk j hj;obtain⟨x,e⟩:=hl _ (gM hk) _ (gM hj);rw[e]at q ⊢;cases q with|lit h=>exact .lit h
def only (h:ag) (a:Nat):ag:=h.mapIdx λi o=>if i=a then o else none
def back (h:ag) (a:Nat) (h1:ag):ag:=h1.mapIdx λi o=>if i<h.length/\i≠a then (h[i]?).getD none else o
theorem fN {h:ag} {a i:Nat} {o:Ob} (e:(only h a)[i]? =some (some o)):i=a/\h[i]? =some (some o):=by
 unfold only at e;rw[List.getElem?_mapIdx]at e;cases hi:h[i]? with
 |none=>rw[hi]at e;cases e
 | some x =>
  rw[hi]at e;simp only[Option.map_some,Option.some.injEq]at e;split at e
  ·exact⟨‹_›,by rw[e]⟩
  ·cases e
theorem BC {h:ag} {a:Nat}:(only h a)[a]? =h[a]? :=by
 unfold only;rw[List.getElem?_mapIdx];cases h[a]? <;>simp
theorem iu {h h1:ag} {a i:Nat} {o:Ob} (e:(back h a h1)[i]? =some (some o)):(i<h.length/\i≠a/\h[i]? =some (some o))\/(¬(i<h.length/\i≠a)/\h1[i]? =some (some o)):=by
 unfold back at e;rw[List.getElem?_mapIdx]at e;cases hi:h1[i]? with
 |none=>rw[hi]at e;cases e
 | some x =>
  rw[hi]at e;simp only[Option.map_some,Option.some.injEq]at e;split at e
  ·rename_i hc;refine .inl ⟨hc.1,hc.2,?_⟩;rw[gE hc.1]at e ⊢;simp only[Option.getD_some]at e;rw[e]
  ·exact .inr ⟨‹_›,by rw[e]⟩
theorem E5     {P : Program} {f : FuncId} {fn : Func} {c : Code} {a s : Nat} {vs : List V} {h : ag}   {R : AV → ag   → Prop} (hf : P.funcs[f]? = some fn) (hb : fn.body = some c) (hname : (fn.name == "runtime.NumGoroutine") = false) (hx : 1 ≤ fn.ntmps)
  (ho:h[a]? =some (some (.row s [vs]))) (ht:∀v∈vs,thin v)
  (hh:∀[Zb] (E:Cx),E.n=fn.ntmps->(∀b x,¬Bt b x↔¬E.I0 b/\∃(c:Array Value) (t:TypeId),x=some (.cells c t (0,0)))->(∀b,E.pass b->∃inf,E.ι0[a]? =some inf/\inf.block=b)->aw P c E (zd P fn (only h a) R) (dq 0 [.one (.ptr a 0 0)]) (only h a)):
  Fn P f [.one (.ptr a 0 0)] h (λr h'=>∃h1,R r h1/\h.length<=h1.length/\h'=back h a h1):=by
 refine⟨⟨fn,hf,hname,by simp[hb]⟩,λ{z} w I ι cs hH hI hA=> ?_⟩;have hlen:=hH.len
 have hH': @HR (zI I) ι I w (only h a):=
  @HR.mk (zI I) ι I w (only h a) (by unfold only; rw [List.length_mapIdx]; exact hlen) (fun id o inf x y => by
   obtain⟨rfl,x0⟩:=fN x;have:=hH.obj id o inf x0 y;rw[ho]at x0;cases x0;obtain⟨cur,t,h1,h2,h3,h4,h5,h6,h7⟩:=this;refine⟨cur,t,h1,h2,h3,h4,h5,h6,λk hk j hj=> ?_⟩;obtain⟨u,hu,hv⟩:=h7 k hk j hj;refine⟨u,hu,hv.thin z (zI I) (ht _ ?_)⟩;have:k=0:=by simpa using hk
   subst this;exact gM hj) (λid o inf x y=>hH.off id o inf (fN x).2 y) (λid id' o o' inf inf' x x' y y' e=>hH.inj id id' o o' inf inf' (fN x).2 (fN x').2 y y' e) (λb c t k=>k.elim id λk=>(k ⟨c,t,rfl⟩).elim)
 have hA': @ARs (zI I) ι I w [.one (.ptr a 0 0)] cs:=⟨hA.1,λj hj=>by
  obtain⟨c,h1,h2⟩:=hA.2 j hj;have:j=0:=by simpa using hj
  subst this;refine⟨c,h1,?_⟩;cases h2 with|one h2=>cases h2 with|ptr hi=>exact @AR.one (zI I) ι I w _ _ (@VR.ptr (zI I) I w ι a 0 0 _ hi)⟩
 refine(@lP (zI I) P f fn c [.one (.ptr a 0 0)] (only h a) R hf hb hx w I ι cs hH' hI hA' (@hh (zI I) _ rfl (λb x=>⟨λk=>⟨λq=>k (.inl q),Classical.byContradiction λq=>k (.inr q)⟩,λk q=>q.elim k.1 λq=>q k.2⟩) λb ⟨id,o,inf,x,y,e⟩=>by
  obtain⟨rfl,_⟩:=fN x;exact⟨inf,y,e⟩)).mono ?_
 rintro e w' ⟨r,h1,ι',I',cc,hR,rfl,⟨Dres,⟨Hlen,Hobj,Hoff,Hinj,_⟩,Dimm,Dimmlo,Dpre,Dos,Dtape,Doutput,Dgrown,Dframe,Dmine⟩⟩;have pass:∀b,dt ι (only h a) b->∃o inf,h[a]? =some (some o)/\ι[a]? =some inf/\inf.block=b:=λb ⟨id,o,inf,x,y,e⟩=>by
  obtain⟨rfl,x0⟩:=fN x;exact⟨o,inf,x0,y,e⟩
 have passU:∀b,dt ι (only h a) b->dt ι h b:=λb hb=>by
  obtain⟨o,inf,x,y,e⟩:=pass b hb;exact⟨a,o,inf,x,y,e⟩
 have notI:∀b,I b->¬dt ι (only h a) b:=λb hb hp=>by
  obtain⟨o,inf,x,y,e⟩:=pass b hp;exact hH.off a o inf x y (e▸hb)
 have hl1:h.length<=h1.length:=by
  have e1:=Hlen;rcases Nat.lt_or_ge h1.length h.length with hlt|hge
  ·have hlt':h1.length<ι.length:=by omega
   have:=Dpre _ _ (gE hlt');rw[List.getElem?_eq_none (by omega)]at this;cases this
  ·exact hge
 have hk:Keeps I (λb=>I b\/I' b) w w':=⟨λb hb=>.inl hb,λb hb=>by
  rw[Dframe b (hI b hb) (notI b hb)]⟩
 have hk':Keeps I' (λb=>I b\/I' b) w' w':=⟨λb hb=>.inr hb,λ_ _=>rfl⟩
 have others:∀{id:Nat} {o:Ob} {inf:Inf},id<h.length->id≠a->h[id]? =some (some o)->ι'[id]? =some inf->ι[id]? =some inf/\inf.block<w.heap.size/\¬dt ι (only h a) inf.block:=λ{id o inf} q1 q2 q3 q4=>by
  have hi:=gE (show id<ι.length by omega);have:=Dpre _ _ hi;rw[q4]at this;cases this;have hblk:ι[id].block<w.heap.size:=by
   have:=hH.obj id o _ q3 hi;cases o with
   |row s es=>obtain⟨cur,t,e,_⟩:=this;exact(Array.getElem?_eq_some_iff.1 e).1
   |map kvs=>obtain⟨en,cl,e,_⟩:=this;exact(Array.getElem?_eq_some_iff.1 e).1
  refine⟨hi,hblk,λhp=> ?_⟩;obtain⟨o',inf',x,y,e⟩:=pass _ hp;exact q2 (hH.inj a id o' o inf' _ x q3 y hi e).symm
 have mine:∀{id:Nat} {o:Ob} {inf:Inf},h1[id]? =some (some o)->ι'[id]? =some inf->dt ι (only h a) inf.block\/w.heap.size<=inf.block:=λ{id o inf} x y=>Dmine id o inf x y
 have z2:∀b x,@Bt z b x->@Bt (zI I) b x:=λb x hb=>Classical.byCases (p:=∃(c:Array Value) (t:TypeId),x=some (.cells c t (0,0))) (λ⟨c,t,e⟩=>.inl (hH.sub b c t (e▸hb))) .inr
 refine ⟨r, back h a h1, ι', fun b => I b ∨ I' b, cc, ⟨h1, hR, hl1, rfl⟩, rfl,
  { res := (AR.toZ (zI I) z z2 Dres).keep (Grows.refl _) hk'
    heap :=
      { len := by unfold back; rw [List.length_mapIdx]; exact Hlen
        obj := fun id o inf x y => by
          rcases iu x with⟨q1,q2,q3⟩|⟨_,q3⟩
          · obtain⟨p1,p2,p3⟩:=others q1 q2 q3 y
            exact(hH.obj id o inf q3 p1).keep Dpre hk (Dframe _ p2 p3)
          · exact(OR.toZ (zI I) z z2 (Hobj id o inf q3 y)).keep (Grows.refl _) hk' rfl
        off := fun id o inf x y hb => by
          rcases iu x with⟨q1,q2,q3⟩|⟨_,q3⟩
          · obtain⟨p1,p2,p3⟩:=others q1 q2 q3 y
            rcases hb with hb|hb
            · exact hH.off id o inf q3 p1 hb
            · rcases Dimmlo _ hb with hb|hb|hb
              · exact hH.off id o inf q3 p1 hb
              · exact p3 hb
              · omega
          · rcases hb with hb|hb
            · rcases mine q3 y with hp|hp
              · exact notI _ hb hp
              · have:=hI _ hb;omega
            · exact Hoff id o inf q3 y hb
        inj := fun id id' o o' inf inf' x x' y y' e => by
          rcases iu x with⟨q1,q2,q3⟩|⟨_,q3⟩<;>rcases iu x' with⟨k1,k2,k3⟩|⟨_,k3⟩
          · exact hH.inj id id' o o' inf inf' q3 k3 (others q1 q2 q3 y).1 (others k1 k2 k3 y').1 e
          · obtain⟨_,p2,p3⟩:=others q1 q2 q3 y
            rcases mine k3 y' with hp|hp
            · exact(p3 (e▸hp)).elim
            · omega
          · obtain⟨_,p2,p3⟩:=others k1 k2 k3 y'
            rcases mine q3 y with hp|hp
            · exact(p3 (e▸hp)).elim
            · omega
          · exact Hinj id id' o o' inf inf' q3 k3 y y' e
        sub:=λb c t hb=>.inl (hH.sub b c t hb)}
    imm:=λb hb=>by
      rcases hb with hb|hb
      · have:=hI b hb;have:=Dgrown;omega
      · exact Dimm b hb
    immlo:=λb hb=>by
      rcases hb with hb|hb
      · exact .inl hb
      · rcases Dimmlo b hb with hb|hb|hb
        · exact .inl hb
        · exact .inr (.inl (passU b hb))
        · exact .inr (.inr hb)
    pre:=Dpre
    os:=Dos
    tape:=Dtape
    output:=Doutput
    grown:=Dgrown
    frame:=λb hb hp=>Dframe b hb λk=>hp (passU b k)
    mine:=λid o inf x y=>by
      rcases iu x with⟨q1,q2,q3⟩|⟨_,q3⟩
      · exact .inl ⟨id,o,inf,q3,(others q1 q2 q3 y).1,rfl⟩
      · exact(mine q3 y).imp (passU _) λk=>k}⟩
end Go.Proofs.YtfdkldmkbibknaaGreat.Abs

/- merged -/
import Derived.WalkKit
import Derived.Lib.Hide
import Derived.Deep.AppendSrc
import Derived.Test.YtkegnipofloejaaGreatDoorZRowMT0

namespace Go.Proofs.YtkegnipofloejaaGreatDoor.Abs
open Go.RowKit
abbrev _root_.Go.Proofs.YtkegnipofloejaaGreatDoor.Zb:=Zero (Nat->Y Obj->Prop)
instance noBt : Zb := ⟨fun _ _ => False⟩
abbrev Bt(_:Nat)(_:Option Obj):Prop:=False
inductive V where
 |lit (v:Value)
 |imm (s:Nat) (es:List (List V))
 |di (s:Nat) (es:List (List V))
 |own (id off len:Nat)
 |ptr (id k o:Nat)
 |iW (s:Nat) (cs:List V)
 |clo (fn:Fn) (cap:List V)
 |mp (id:Nat)
inductive AV where
 |one (v:V)
 |agg (vs:List V)
 |tup (xs:List AV)
 |dead
inductive Ob where
 |row (s:Nat) (es:List (List V))
 |map (kvs:List (Z×List V))
def iT:Td (Z×Td V)->Z->Y (Td V)
 |[],_=>none
 |(a,b)::rest,s=>if a=s then some b else iT rest s
structure Inf where
 block:Nat
 base:Nat
 cap:Nat
 size:Nat
abbrev Env:=Td (Nat×AV)
abbrev au:=Td (Y Ob)
def dM:Value->Prop
 | .bool _=>True
 | .int k n=>(Lit.int k n).wf=true
 | .string s=>s.size<=maxLen
 | .slice none 0 0=>True
 | .pointer none=>True
 | .map none=>True
 | .nilFunc=>True
 | .nilIface=>True
 |_=>False
inductive VR(I:Nat->Prop)(w:World):List Inf->V->Value->Prop
 |lit {ι:List Inf} {u:Value} (h:dM u):VR I w ι (.lit u) u
 |eE {ι:List Inf} {s c:Nat} {A:Y Addr} (hc:c<=9223372036854775807):VR I w ι (.imm s []) (.slice A 0 c)
 | imm {ι:List Inf} {s b off c:Nat} {es:List (List V)} {f:Nat->Nat->Value} (hs:∀e∈es,e.length=s) (hc:es.length<=c) (hm:c<=9223372036854775807) (hI:I b)
   (hcell:∀k j,k<es.length->j<s->w.cell? ⟨b,off+(k*s+j),none⟩=some (f k j))
   (hr:∀(k:Nat)(hk:k<es.length)(j:Nat)(hj:j<es[k].length),VR I w [] es[k][j] (f k j)) (hT:s=1\/¬Bt b w.heap[b]?):VR I w ι (.imm s es) (.slice (some ⟨b,off,none⟩) es.length c)
 |kc {ι:List Inf} {s:Nat} {A:Y Addr}:VR I w ι (.di s []) (.slice A 0 0)
 | di {ι:List Inf} {s b off:Nat} {es:List (List V)} {f:Nat->Nat->Value} (hs:∀e∈es,e.length=s) (hm:es.length<=9223372036854775807) (hI:I b)
   (hcell:∀k j,k<es.length->j<s->w.cell? ⟨b,off+(k*s+j),none⟩=some (f k j))
   (hr:∀(k:Nat)(hk:k<es.length)(j:Nat)(hj:j<es[k].length),VR I w [] es[k][j] (f k j)) (hT:s=1\/¬Bt b w.heap[b]?):VR I w ι (.di s es) (.slice (some ⟨b,off,none⟩) es.length es.length)
 | own {ι:List Inf} {id off len c:Nat} {inf:Inf} (hi:ι[id]? =some inf) (hl:len<=c) (hcap:off+c=inf.cap) (hm:c<=9223372036854775807):
   VR I w ι (.own id off len) (.slice (some ⟨inf.block,inf.base+off*inf.size,none⟩) len c)
 |hU {ι:List Inf} {id off o:Nat} {inf:Inf} (hi:ι[id]? =some inf) (hcap:off=inf.cap):VR I w ι (.own id off 0) (.slice (some ⟨inf.block,o,none⟩) 0 0)
 |ptr {ι:List Inf} {id k o:Nat} {inf:Inf} (hi:ι[id]? =some inf):VR I w ι (.ptr id k o) (.pointer (some ⟨inf.block,inf.base+(k*inf.size+o),none⟩))
 | iW {ι:List Inf} {s b off:Nat} {cs:List V} {f:Nat->Value} (hI:I b) (hcell:∀j,j<cs.length->w.cell? ⟨b,off+j,none⟩=some (f j))
   (hr:∀(j:Nat)(hj:j<cs.length),VR I w [] cs[j] (f j)) (hT:s=1\/¬Bt b w.heap[b]?):VR I w ι (.iW s cs) (.pointer (some ⟨b,off,none⟩))
 | clo {ι:List Inf} {fn:Fn} {cap:List V} {cs:Array Value} {f:Nat->Value} (hl:cs.size=cap.length) (hcs:∀j,j<cap.length->cs[j]? =some (f j))
   (hr:∀(j:Nat)(hj:j<cap.length),VR I w ι cap[j] (f j)):VR I w ι (.clo fn cap) (.func fn #[] cs)
 |mp {ι:List Inf} {id:Nat} {inf:Inf} (hi:ι[id]? =some inf):VR I w ι (.mp id) (.map (some inf.block))
inductive AR(ι:List Inf)(I:Nat->Prop)(w:World):AV->Value->Prop
 |one {v:V} {c:Value} (h:VR I w ι v c):AR ι I w (.one v) c
 | agg {vs:List V} {cs:Array Value} {f:Nat->Value} (hl:cs.size=vs.length) (hcs:∀j,j<vs.length->cs[j]? =some (f j))
   (hr:∀j (hj:j<vs.length),VR I w ι vs[j] (f j)):AR ι I w (.agg vs) (.agg cs)
 | tup {xs:List AV} {cs:Array Value} {f:Nat->Value} (hl:cs.size=xs.length) (hcs:∀j,j<xs.length->cs[j]? =some (f j))
   (hr:∀j (hj:j<xs.length),AR ι I w xs[j] (f j)):AR ι I w (.tup xs) (.tuple cs)
 |dead {c:Value}:AR ι I w .dead c
def bj(ι ι':Td Inf):Prop:=∀(id:Nat)(inf:Inf),ι[id]? =some inf->ι'[id]? =some inf
theorem bj.refl(ι:Td Inf):bj ι ι:=λ_ _ h=>h
theorem bj.trans{a b c:Td Inf}(h:bj a b)(k:bj b c):bj a c:=λi x d=>k i x (h i x d)
theorem bj.app(ι l:Td Inf):bj ι (ι++l):=λid inf h=>G1
structure cu(I I':Nat->Prop)(w w':World):Prop where
 imm:∀b,I b->I' b
 heap:∀(b:Nat),I b->w'.heap[b]? =w.heap[b]?
theorem cu.refl(I:Nat->Prop)(w:World):cu I I w w:=⟨λ_ h=>h,λ_ _=>rfl⟩
section
variable {a:Act}{c:Value}{w w':World}
theorem cu.cell{I d:Nat->Prop}(k:cu I d w w')(b o:Nat)(h:I b):w'.cell? ⟨b,o,none⟩=w.cell? ⟨b,o,none⟩:=by
 simp only[World.cell?];rw[k.heap b h]
variable{ι ι':Td Inf}
theorem VR.aH{I G:Nat->Prop}(C:bj ι ι')(hk:cu I G w w'){v:V}(h:VR I w ι v c):VR G w' ι' v c:=by
 induction h generalizing ι' with
 |lit h=>exact .lit h
 |eE hc=>exact .eE hc
 |imm hs hc hm t d E D A=>exact .imm hs hc hm (hk.imm _ t) (λk j h1 h2=>(hk.cell _ _ t).trans (d k j h1 h2)) (λk hk j B=>A k hk j B (bj.refl _)) RA
 |kc=>exact .kc
 |di hs hm t d E D A=>exact .di hs hm (hk.imm _ t) (λk j h1 h2=>(hk.cell _ _ t).trans (d k j h1 h2)) (λk hk j B=>A k hk j B (bj.refl _)) RA
 |own hi hl y hm=>exact .own (C _ _ hi) hl y hm
 |hU hi y=>exact .hU (C _ _ hi) y
 |ptr hi=>exact .ptr (C _ _ hi)
 |iW t d E D A=>exact .iW (hk.imm _ t) (λj h1=>(hk.cell _ _ t).trans (d j h1)) (λj B=>A j B (bj.refl _)) RA
 |clo hl F E A=>exact .clo hl F (λj B=>A j B C)
 |mp hi=>exact .mp (C _ _ hi)
theorem VR.up{I:Nat->Prop}{v:V}(h:VR I w [] v c):VR I w ι v c:=h.aH (λ_ _ h=>F1) (cu.refl _ _)
def V.flat:V->Bool
 | .lit _| .imm _ _| .di _ _| .iW _ _=>true
 | .clo _ []=>true
 |_=>false
theorem VR.free{I:Nat->Prop}{v:V}(y:v.flat=true)(h:VR I w ι v c):VR I w ι' v c:=by
 cases h with
 |lit h=>exact .lit h
 |eE hc=>exact .eE hc
 |imm hs hc hm A d t B=>exact .imm hs hc hm A d t B
 |kc=>exact .kc
 |di hs hm A d t B=>exact .di hs hm A d t B
 |iW A d t B=>exact .iW A d t B
 | @clo _ _ cap _ _ hl D t=>
  cases cap with
  |nil=>exact .clo hl D (λj E=>by simp at E)
  |cons x xs=>simp[V.flat]at y
 |own hi hl C hm=>simp[V.flat]at y
 |hU hi C=>simp[V.flat]at y
 |ptr hi=>simp[V.flat]at y
 |mp hi=>simp[V.flat]at y
theorem AR.aH{I t:Nat->Prop}(y:bj ι ι')(hk:cu I t w w'){v:AV}(h:AR ι I w v c):AR ι' t w' v c:=by
 induction h with
 |one h=>exact .one (h.aH y hk)
 |agg hl d A=>exact .agg hl d (λj B=>(A j B).aH y hk)
 |tup hl d A C=>exact .tup hl d C
 |dead=>exact .dead
def OR(ι:Td Inf)(I:Nat->Prop)(w:World)(inf:Inf):Ob->Prop
 | .row s es=>∃cur t,w.heap[inf.block]? =some (.cells cur t (0,0))/\inf.size=s/\cur.size=inf.base+inf.cap*s/\inf.cap<=9223372036854775807/\es.length<=inf.cap/\(∀e∈es,e.length=s)/\
   ∀(k:Nat)(hk:k<es.length)(j:Nat)(d:j<es[k].length),∃u,cur[inf.base+(k*s+j)]?=some u/\VR I w ι es[k][j] u
 | .map kvs=>∃en clock,w.heap[inf.block]? =some (.map en clock)/\en.size<=kvs.length/\
   (∀s vs,iT kvs s=some vs->∃e∈en,e.key= .string s/\(∃f:Nat->Value,(vs.length=1->e.val=f 0)/\e.val.cells.size=vs.length/\(∀j,j<vs.length->e.val.cells[j]? =some (f j))/\∀j (d:j<vs.length),VR I w ι vs[j] (f j)))/\
   (∀e∈en,∃s,e.key= .string s/\(iT kvs s).isSome)/\en.toList.Pairwise (λx y=>∀s,x.key= .string s->y.key≠.string s)
theorem OR.aH{I C:Nat->Prop}(D:bj ι ι')(hk:cu I C w w'){inf:Inf}{o:Ob}(h:OR ι I w inf o)(E:w'.heap[inf.block]? =w.heap[inf.block]?):OR ι' C w' inf o:=by
 cases o with
 | row s es=>
  obtain⟨cur,t,h1,h2,v,h4,y,F,G⟩:=h;refine⟨cur,t,E.trans h1,h2,v,h4,y,F,λk A j B=> ?_⟩;obtain⟨u,H,J⟩:=G k A j B;exact⟨u,H,J.aH D hk⟩
 | map kvs=>
  obtain⟨en,clock,h1,h2,v,h4,y⟩:=h;refine⟨en,clock,E.trans h1,h2,λs vs hs=> ?_,h4,y⟩;obtain⟨e,he,d,f,K,L,M,N⟩:=v s vs hs;exact⟨e,he,d,f,K,L,M,λj B=>(N j B).aH D hk⟩
structure HR(ι:List Inf)(I:Nat->Prop)(w:World)(h:au):Prop where
 len:h.length=ι.length
 obj:∀(id:Nat)(o:Ob)(inf:Inf),h[id]?=some (some o)->ι[id]? =some inf->OR ι I w inf o
 off:∀(id:Nat)(o:Ob)(inf:Inf),h[id]?=some (some o)->ι[id]? =some inf->¬I inf.block
 inj:∀(id id':Nat)(o o':Ob)(inf inf':Inf),h[id]? =some (some o)->h[id']? =some (some o')->ι[id]? =some inf->ι[id']? =some inf'->inf.block=inf'.block->id=id'
 sub:∀(b:Nat)(c:Array Value)(t:TypeId),Bt b (some (.cells c t (0,0)))->I b
def GV(w:World):Prop:=∃m,w.cell? ⟨0,0,none⟩=some (.int .i64 m)
theorem GV.lt(h:GV w):0<w.heap.size:=by
 obtain⟨m,h⟩:=h;exact World.block_lt_of_cell? w _ h
theorem GV.aH(h:GV w)(hk:w'.heap[0]? =w.heap[0]?):GV w':=by
 obtain⟨m,h⟩:=h;exact⟨m,(World.cell?_of_block hk).trans h⟩
structure Cx where
 w0:World
 pass:Nat->Prop
 ι0:List Inf
 n:Nat
 I0:Nat->Prop
 gv:GV w0/\¬pass 0
structure Rel(E:Cx)(L:Env)(h:au)(ι:List Inf)(I:Nat->Prop)(a:Act)(w:World):Prop where
 bc:∀t v,L.lookup t=some v->∃c,a.tmps[t]? =some c/\AR ι I w v c
 heap:HR ι I w h
 imm:∀b,I b->b<w.heap.size
 cw:∀b,I b->E.I0 b\/E.pass b\/E.w0.heap.size<=b
 pre:bj E.ι0 ι
 os:w.os=E.w0.os
 tape:w.tape=E.w0.tape
 output:w.output=E.w0.output
 grown:E.w0.heap.size<=w.heap.size
 frame:∀b,b<E.w0.heap.size->¬E.pass b->w.heap[b]? =E.w0.heap[b]?
 cA:∀(id:Nat)(o:Ob)(inf:Inf),h[id]?=some (some o)->ι[id]? =some inf->E.pass inf.block\/E.w0.heap.size<=inf.block
 defers:a.defers=[]
 size:a.tmps.size=E.n
def Sub(L L':Env):Prop:=∀t v,L.lookup t=some v->L'.lookup t=some v
variable{E:Cx}
variable{L:Env}
variable{h:au}
theorem Rel.gj{L':Env}{I:Nat->Prop}(r:Rel E L h ι I a w)(hs:Sub L' L):Rel E L' h ι I a w:=
 {r with bc:=λt v d=>r.bc t v (hs t v d)}
theorem Rel.put{I:Nat->Prop}(r:Rel E L h ι I a w){d:Nat}(hd:d<E.n){v:AV}(hc:AR ι I w v c):
  Rel E ((d,v)::L) h ι I (a.put (some d) c) w:=
 { r with
   bc:=λt u j=>by
     rw[OK]at j;by_cases e:t=d
     · subst e
       simp at j;subst j;exact⟨c,by simp[Act.put,r.size,hd],hc⟩
     · have y:(t==d)=false:=by simpa using e
       rw[y]at j;obtain⟨c',h1,h2⟩:=r.bc t u j;exact⟨c',by simp only[Act.put];rw[Qb A0];exact h1,h2⟩
   defers:=r.defers
   size:=by simp[Act.put,r.size]}
def da:Value->Bool
 | .bool _=>true
 | .int k n=>(Lit.int k n).wf
 | .string s=>decide (s.size<=maxLen)
 | .slice none 0 0=>true
 | .pointer none=>true
 | .map none=>true
 | .nilFunc=>true
 | .nilIface=>true
 |_=>false
theorem oL{v:Value}(h:da v=true):dM v:=by
 unfold da at h;unfold dM;split at h<;>simp_all
def ot:Value->Y AV
 | .agg cs=>if cs.toList.all da then some (.agg (cs.toList.map V.lit))else none
 |v=>if da v then some (.one (.lit v))else none
def ev(L:Env):Operand->Y AV
 | .tmp t=>L.lookup t
 | .const v=>ot v
 | .func f=>some (.one (.clo (.func f) []))
 | .global _=>none
theorem zO{I:Nat->Prop}{u:Value}{v:AV}(h:ot u=some v):AR ι I w v u:=by
 unfold ot at h;split at h
 .rename_i cs;split at h
  .rename_i d;cases h;rw[aT]at d;refine .agg (f:=λj=>cs.getD j undef) A1 (λj t=>by simp at t;simp[t]) (λj t=> ?_);have y:j<cs.size:=QD
   simp only[P5,Array.getElem_toList];have:=d cs[j] A1;have e:cs.getD j undef=cs[j]:=by simp[y]
   rw[e];exact .lit (oL this)
  .cases h
 .split at h
  .rename_i A;cases h;exact .one (.lit (oL A))
  .cases h
theorem Rel.ev{E:Cx}{L:Env}{h:au}{ι:Td Inf}{I:Nat->Prop}{a:Act}{w:World}(r:Rel E L h ι I a w){x:Operand}{v:AV}(d:ev L x=some v):AR ι I w v (a.eval x):=by
 cases x with
 | tmp t=>
  obtain⟨c,h1,h2⟩:=r.bc t v d;have:a.eval (.tmp t)=c:=by simp[Act.eval,h1]
  rw[this];exact h2
 |const u=>exact zO d
 | func f=>
  simp[Abs.ev]at d;subst d;exact .one (.clo (f:=λ_=>undef) rfl (λj y=>by simp at y) (λj y=>by simp at y))
 |global g=>simp[Abs.ev]at d
end
def qQ(E:Cx)(Q:Exit->Env->au->Prop):Exit->Act->World->Prop:=λe a w=>∃L h ι I,Q e L h/\Rel E L h ι I a w
theorem CY{E:Cx}{Q Q':Exit->Env->au->Prop}(d:∀e L h,Q e L h->Q' e L h){e:Exit}{a:Act}{w:World}(h:qQ E Q e a w):qQ E Q' e a w:=by
 obtain⟨L,hp,ι,I,q,r⟩:=h;exact⟨L,hp,ι,I,d _ _ _ q,r⟩
structure aw(P:Program)(c:Code)(E:Cx)(Q:Exit->Env->au->Prop)(L:Env)(h:au):Prop where
 get:∀ι I a w,Rel E L h ι I a w->c.wp P (qQ E Q) a w
def qz(next:Env->au->Prop)(Q:Exit->Env->au->Prop):Exit->Env->au->Prop
 | .normal,L,h=>next L h
 |e,L,h=>Q e L h
def ni(id:Nat)(Q:Exit->Env->au->Prop):Exit->Env->au->Prop
 | .exit id',L,h=>if id'=id then Q .normal L h else Q (.exit id') L h
 |e,L,h=>Q e L h
section
variable {P : Program} {E : Cx} {Q Q' : Exit → Env → au → Prop} {L : Env} {h : au}
section
variable {c x y:Code}{L':Env}{id:Nat}
theorem gk(d:∀e L h,Q e L h->Q' e L h)(j:aw P c E Q L h):aw P c E Q' L h:=
 ⟨λι I a w r=>wp_mono (j.get ι I a w r) λ_ _ _=>CY d⟩
theorem cB(hs:Sub L' L)(d:aw P c E Q L' h):aw P c E Q L h:=⟨λι I a w r=>d.get ι I a w (r.gj hs)⟩
theorem fh(d:aw P c E Q L (h++[])):aw P c E Q L h:=by rw[OO]at d;exact d
theorem vU(d:Q .normal L h):aw P .skip E Q L h:=⟨λι I _ _ r=>wp_skip ⟨L,h,ι,I,d,r⟩⟩
theorem AX(d:Q .ret L h):aw P .ret E Q L h:=⟨λι I _ _ r=>wp_ret ⟨L,h,ι,I,d,r⟩⟩
theorem v7(d:Q (.exit id) L h):aw P (.exit id) E Q L h:=⟨λι I _ _ r=>wp_exit ⟨L,h,ι,I,d,r⟩⟩
theorem nQ(t:aw P x E (qz (aw P y E Q) Q) L h):aw P (.seq x y) E Q L h:=by
 refine⟨λι I a w r=> ?_⟩;refine wp_seq (wp_mono (t.get ι I a w r) ?_);rintro e v w' ⟨L',h',ι',d,q,j⟩;cases e with
 |normal=>exact aw.get q ι' d v w' j
 |_=>exact⟨L',h',ι',d,q,j⟩
theorem sL(t:aw P c E (ni id Q) L h):aw P (.block id c) E Q L h:=by
 refine⟨λι I a w r=> ?_⟩;refine wp_block (wp_mono (t.get ι I a w r) ?_);rintro e v w' ⟨L',h',ι',d,q,j⟩;cases e with
 | exit id'=>
  simp only[Exit.inBlock];simp only[ni]at q;split
  .rename_i e;rw[mt e]at q;exact⟨L',h',ι',d,q,j⟩
  .rename_i e;rw[O2 e]at q;exact⟨L',h',ι',d,q,j⟩
 |_=>exact⟨L',h',ι',d,q,j⟩
theorem AR.bool{ι:Td Inf}{I:Nat->Prop}{w:World}{b:Bool}{c:Value}(h:AR ι I w (.one (.lit (.bool b))) c):c= .bool b:=by
 cases h with
 |one h=>cases h with|lit h=>rfl
theorem dX{c:Operand}{t:Bool}(hc:ev L c=some (.one (.lit (.bool t))))(d:t=true->aw P x E Q L h)(j:t=false->aw P y E Q L h):aw P (.cond c x y) E Q L h:=by
 refine⟨λι I a w r=> ?_⟩;exact wp_cond_split (r.ev hc).bool (λe=>(d e).get ι I a w r) (λe=>(j e).get ι I a w r)
theorem oh(Inv:Nat->Env->au->Prop){n:Nat}{L0:Env}(hs:Sub L0 L)(h0:Inv n L0 h)
  (round:∀n L h,Inv n L h->aw P c E (qz (λL' h'=>∃m y,m<n/\Sub y L'/\Inv m y h') Q) L h):aw P (.loop c) E Q L h:=by
 refine⟨λι I a w r=> ?_⟩;intro b k cs
 have key:∀n L h ι I a w,Inv n L h->Rel E L h ι I a w->
   ∃e B w',qQ E Q e B w'/\Arrives P (lone (b.at a (.code c:: .inLoop c::k)) cs w) b k cs e B w':=by
  intro n
  induction n using Nat.strongRecOn with
  | _ n H=>
   intro L h ι I a w J r;obtain⟨e,a₁,w₁,⟨A,h1,j,t,q,v⟩,d⟩:=(round n L h J).get ι I a w r b (.inLoop c::k) cs;cases e with
   | normal=>
    obtain⟨m,K,C,D,F⟩:=q;obtain⟨e₂,a₂,w₂,G₂,d₂⟩:=H m C K h1 j t a₁ w₁ F (v.gj D);exact⟨e₂,a₂,w₂,G₂,.of_steps (Steps.trans d (.one step_inLoop)) d₂⟩
   |exit id=>exact Sw
   |goto l=>exact Sw
   |ret=>exact Sw
   |panic ch=>exact Sw
   |outgrown=>exact Sw
 obtain⟨e,B,w',G,d⟩:=key n L0 h ι I a w h0 (r.gj hs);exact⟨e,B,w',G,.of_steps (.one step_loop) d⟩
theorem aZ(L:Env):Sub [] L:=λt v h=>F1
theorem ag{t:Nat}{v:AV}(h1:L.lookup t=some v)(h2:Sub L' L):Sub ((t,v)::L') L:=by
 intro u x d;rw[OK]at d;by_cases e:u=t
 .grind
 .have h:(u==t)=false:=R1
  rw[h]at d;exact h2 u x d
theorem zp(L:Env):Sub L L:=λ_ _ h=>h
end
end
theorem aD{d n m:Nat}(h:n=m)(hd:Nat.blt d m=true):d<n:=by subst h;exact of_eq_true ((Ps).symm.trans RU)
section
variable {id:Nat}{next:Env->au->Prop}{L:Env}{h:au}{a:Act}{w:World}
theorem fU{Q:Exit->Env->au->Prop}(k:next L h):qz next Q .normal L h:=k
theorem Lm{Q:Exit->Env->au->Prop}(k:Q .ret L h):qz next Q .ret L h:=k
theorem Lh{Q:Exit->Env->au->Prop}(k:Q (.exit id) L h):qz next Q (.exit id) L h:=k
theorem E5{Q:Exit->Env->au->Prop}(k:Q .normal L h):ni id Q .normal L h:=k
theorem H4{Q:Exit->Env->au->Prop}(k:Q .ret L h):ni id Q .ret L h:=k
theorem wc{Q:Exit->Env->au->Prop}(k:Q .normal L h):ni id Q (.exit id) L h:=by simp only[ni,if_true];exact k
theorem rx{Lf:Env}{t:Nat}{v:AV}(h:L.lookup t=some v):(L++Lf).lookup t=some v:=by
 induction L with
 |nil=>simp at h
 | cons p L d=>
  obtain⟨k,x⟩:=p;rw[Ph,OK];rw[OK]at h;split
  .grind
  .grind
theorem K3(L Lf:Env):Sub L (L++Lf):=λ_ _ h=>rx h
theorem Rel.low{E:Cx}{Lf:Env}{ι:Td Inf}{I:Nat->Prop}(r:Rel E (L++Lf) h ι I a w):Rel E L h ι I a w:=r.gj (K3 L Lf)
structure ar(P:Program)(o:Oper)(E:Cx)(K:Env->au->Prop)(L:Env)(h:au):Prop where
 get:∀Lf ι I a w,Rel E (L++Lf) h ι I a w->o.wp P a w (λa' w'=>∃L' h' ι' I',K L' h'/\Rel E (L'++Lf) h' ι' I' a' w') (λ_ _ _=>False)
structure ao(P:Program)(ops:Array Oper)(rest:List Oper)(E:Cx)(K:Env->au->Prop)(L:Env)(h:au):Prop where
 get:∀ι I a w (Q:Exit->Act->World->Prop),(∀a' w',(∃L' h' ι' I',K L' h'/\Rel E L' h' ι' I' a' w')->Q .normal a' w')->Rel E L h ι I a w->wpList P ops Q rest a w
theorem jj{P:Program}{o:Oper}{K t:Act->World->Prop}{Q Q':Exit->Act->World->Prop}(h:∀a w,K a w->t a w)(j:∀e a w,Q e a w->Q' e a w)
  (d:o.wp P a w K Q):o.wp P a w t Q':=by
 unfold Oper.wp at*;generalize (execOp a.eval o).run P w=r at*;cases r with
 | ok n w'=>
  cases n<;>simp only[Oper.upon]at d ⊢<;>
   first
    |exact h _ _ d
    | exact Calls.mono d (fun e A he=>by
      cases e with
      |returned v=>exact h _ _ he
      |panicked c=>exact j _ _ _ he
      |outgrown=>obtain⟨x,y,z⟩:=he;exact⟨x,y,j _ _ _ z⟩)
    |exact Rows.mono d (λ_ _ he=>h _ _ he)
 |halt x w'=>cases x<;>simp only[Oper.upon]at d ⊢<;>first|exact j _ _ _ d|exact d
end
section
variable {P : Program} {E : Cx} {Q : Exit → Env → au → Prop} {K : Env → au → Prop} {L : Env} {h : au} {ops : Array Oper} {rest : Td Oper} {o : Oper}
theorem pQ{id:Nat}{l:Td Oper}(d:ao P l.toArray l E (Q .normal) L h):aw P (.region id l.toArray false) E Q L h:=
 ⟨λι I a w r=>wp_region_lit (d.get ι I a w _ (λ_ _ ⟨L',h',ι',j,k,t⟩=>⟨L',h',ι',j,k,t⟩) r)⟩
theorem fD(d:K L h):ao P ops [] E K L h:=⟨λι I _ _ _ j r=>wpList_nil (j _ _ ⟨L,h,ι,I,d,r⟩)⟩
theorem aI(d:o.guard=none)(j:ar P o E (ao P ops rest E K) L h):ao P ops (o::rest) E K L h:=by
 refine⟨λι I a w Q t r=> ?_⟩;refine wpList_plain d λB hK=> ?_;exact jj (λv w' ⟨L',h',ι',y,k,A⟩=>hK _ _ (k.get ι' y v w' Q t A.low)) (λ_ _ _ f=>f.elim) (j.get [] ι I a w (by rw[OO];exact r))
def bn(ops:Array Oper)(j:Nat):Y Nat:=(ops[j]?).bind (·.dst)
section
variable {j y:Nat}{ι:Td Inf}{a:Act}{w:World}{p t:Bool}
theorem Rel.yields{I:Nat->Prop}(r:Rel E L h ι I a w){d:Nat}(t:bn ops j=some d)(hd:L.lookup d=some (.one (.lit (.bool p)))):yielded ops a.tmps j=some p:=by
 obtain⟨c,h1,h2⟩:=r.bc d _ hd;have:=h2.bool;subst this;unfold yielded;unfold bn at t;rw[t];simp[h1]
theorem AR.none_{I:Nat->Prop}:AR ι I w (.tup []) undef:=.tup (f:=λ_=>undef) rfl (λj d=>QR) (λj d=>QR)
theorem kj{d:Nat}(v:o.guard=some (j,t))(y:bn ops j=some d)(hd:L.lookup d=some (.one (.lit (.bool p))))(hp:p=t)(A:ar P o E (ao P ops rest E K) L h):ao P ops (o::rest) E K L h:=by
 refine⟨λι I a w Q B r=> ?_⟩;refine wpList_step λH hK=> ?_;have C:=r.yields (ops:=ops) y hd;rw[mt (by simp[Region.wanted,v,C,hp])];exact jj (λD w' ⟨L',h',ι',F,k,G⟩=>hK _ _ (k.get ι' F D w' Q B G.low)) (λ_ _ _ f=>f.elim) (A.get [] ι I a w (by rw[OO];exact r))
theorem qY{d:Nat}(A:o.guard=some (j,t))(B:bn ops j=some d)(hd:L.lookup d=some (.one (.lit (.bool p))))(hp:p= !t)(v:o.dst=some y)(C:y<E.n)
  (D:ao P ops rest E K ((y,.tup [])::L) h):ao P ops (o::rest) E K L h:=by
 refine⟨λι I a w Q F r=> ?_⟩;refine wpList_step λH hK=> ?_;have G:=r.yields (ops:=ops) B hd;rw[O2 (by simp[Region.wanted,A,G,hp]),v];exact hK _ _ (D.get ι I _ w Q F (r.put C AR.none_))
theorem Rel.yieldsU{I:Nat->Prop}(r:Rel E L h ι I a w){d:Nat}(t:bn ops j=some d)(hd:L.lookup d=some (.tup [])):yielded ops a.tmps j=none:=by
 obtain⟨c,h1,h2⟩:=r.bc d _ hd;cases h2;unfold yielded;unfold bn at t;rw[t];simp[h1]
theorem tf{d:Nat}(A:o.guard=some (j,t))(B:bn ops j=some d)(hd:L.lookup d=some (.tup []))(v:o.dst=some y)(C:y<E.n)
  (D:ao P ops rest E K ((y,.tup [])::L) h):ao P ops (o::rest) E K L h:=by
 refine⟨λι I a w Q F r=> ?_⟩;refine wpList_step λH hK=> ?_;have G:=r.yieldsU (ops:=ops) B hd;rw[O2 (by simp[Region.wanted,A,G]),v];exact hK _ _ (D.get ι I _ w Q F (r.put C AR.none_))
theorem yE{d:Nat}(A:o.guard=some (j,t))(B:bn ops j=some d)(hd:L.lookup d=some (.one (.lit (.bool p))))(v:o.dst=some y)(C:y<E.n)
  (h1:p=t->ar P o E (ao P ops rest E K) L h) (h2:(p= !t)->ao P ops rest E K ((y,.tup [])::L) h):ao P ops (o::rest) E K L h:=by
 by_cases hp:p=t
 .exact kj A B hd hp (h1 hp)
 .have w:p= !t:=by cases p<;>cases t<;>simp_all
  exact qY A B hd w v C (h2 w)
theorem bO{d:Nat}{v:AV}(hd:o.dst=some d)(j:d<E.n)
  (t:∀ι I a w,Rel E L h ι I a w->∃c,(execOp a.eval o).run P w= .ok (.value c) w/\AR ι I w v c) (hk:K ((d,v)::L) h):ar P o E K L h:=by
 refine⟨λLf ι I a w r=> ?_⟩;obtain⟨c,h1,h2⟩:=t ι I a w r.low;unfold Oper.wp;rw[h1,Oper.upon_value,hd];exact⟨_,h,ι,I,hk,r.put j h2⟩
end
end
def ARs(ι:Td Inf)(I:Nat->Prop)(w:World)(xs:Td AV)(cs:Array Value):Prop:=cs.size=xs.length/\∀(j:Nat)(d:j<xs.length),∃c,cs[j]? =some c/\AR ι I w xs[j] c
def ei(ι:Td Inf)(h:au)(b:Nat):Prop:=∃(id:Nat)(o:Ob)(inf:Inf),h[id]? =some (some o)/\ι[id]? =some inf/\inf.block=b
structure KN(w:World)(I:Nat->Prop)(ι:List Inf)(h:au)(r:AV)(h':au)(ι':List Inf)(I':Nat->Prop)(c:Value)(w':World):Prop where
 res:AR ι' I' w' r c
 heap:HR ι' I' w' h'
 imm:∀b,I' b->b<w'.heap.size
 cw:∀b,I' b->I b\/ei ι h b\/w.heap.size<=b
 pre:bj ι ι'
 os:w'.os=w.os
 tape:w'.tape=w.tape
 output:w'.output=w.output
 grown:w.heap.size<=w'.heap.size
 frame:∀b,b<w.heap.size->¬ei ι h b->w'.heap[b]? =w.heap[b]?
 cA:∀(id:Nat)(o:Ob)(inf:Inf),h'[id]?=some (some o)->ι'[id]? =some inf->ei ι h inf.block\/w.heap.size<=inf.block
def dI(P:Program)(f:FuncId):Prop:=∃fn,P.funcs[f]? =some fn/\(fn.name== "runtime.NumGoroutine")=false/\fn.body.isNone=false
def Fn(P:Program)(f:FuncId)(xs:Td AV)(h:au)(R:AV->au->Prop):Prop:=
 dI P f/\∀[Zb](w:World)(I:Nat->Prop)(ι:Td Inf)(cs:Array Value),GV w/\¬ei ι h 0->HR ι I w h->(∀b,I b->b<w.heap.size)->ARs ι I w xs cs->
  Calls P f cs w λe w'=>∃r h' ι' d c,R r h'/\e= .returned c/\KN w I ι h r h' ι' d c w'
theorem Fn.mono{P:Program}{f:FuncId}{xs:Td AV}{h:au}{R j:AV->au->Prop}(t:Fn P f xs h R)(v:∀r h',R r h'->j r h'):Fn P f xs h j:=
 ⟨t.1,λw I ι cs g a b c=>(t.2 w I ι cs g a b c).mono λ_ _ ⟨r,h',ι',y,c,k,e,d⟩=>⟨r,h',ι',y,c,v _ _ k,e,d⟩⟩
def jr:Nat->Td AV->Env
 |_,[]=>[]
 |k,x::xs=>(k,x)::jr (k+1) xs
theorem mU(xs:Td AV):∀(k t:Nat)(v:AV),(jr k xs).lookup t=some v->k<=t/\xs[t-k]? =some v:=by
 induction xs with
 |nil=>intro k t v h;simp[jr]at h
 | cons x xs d=>
  intro k t v h;simp only[jr,OK]at h;by_cases e:t=k
  .simp_all
  .grind
structure Res(P:Program)(fn:Func)(L:Env)(h:au)(r:AV):Prop where
 get:∀E ι I a w,Rel E L h ι I a w->∃c,(results fn a.tmps).run P w= .ok c w/\AR ι I w r c
theorem fy{P:Program}{fn:Func}{L:Env}{h:au}{t:Nat}{v:AV}(d:fn.results= #[.tmp t])(j:L.lookup t=some v):Res P fn L h v:=
 ⟨fun E ι I a w r=>by
  obtain⟨c,h1,h2⟩:=r.bc t v j;exact⟨c,by simp[results,d,h1],h2⟩⟩
mutual
def AV.flat:AV->Bool
 | .one v=>v.flat
 | .agg vs=>vs.all V.flat
 | .tup xs=>AV.fZ xs
 | .dead=>true
def AV.fZ:Td AV->Bool
 |[]=>true
 |x::xs=>x.flat&&AV.fZ xs
end
section
variable {xs:Td AV}{ι ι' ι0:Td Inf}{w w0:World}{r:AV}{c:Value}{I0:Nat->Prop}{inf:Inf}{o:Ob}{L:Env}{h h2 h0:au}{P:Program}{E:Cx}{K:Env->au->Prop}{fn:Func}{R:AV->au->Prop}{a:Act}{f:FuncId}
theorem AV.flats_mem(h:AV.fZ xs=true):∀x∈xs,x.flat=true:=by
 induction xs with
 |nil=>intro x d;simp at d
 | cons y ys j=>
  simp only[AV.fZ,bA]at h;intro x d;rcases List.mem_cons.1 d with e|e
  .exact e▸h.1
  .grind
theorem AR.free{I:Nat->Prop}(h:AR ι I w r c)(v:r.flat=true):AR ι' I w r c:=by
 induction h with
 |one h=>exact .one (h.free (by simpa [AV.flat]using v))
 |agg hl d y=>exact .agg hl d (λj t=>(y j t).free (aT.1 (by simpa only[AV.flat]using v) _ (gM t)))
 |tup hl d y A=>exact .tup hl d (λj t=>A j t (AV.flats_mem (by simpa only[AV.flat]using v) _ (gM t)))
 |dead=>exact .dead
def Ob.flat:Ob->Bool
 | .row _ es=>es.all (·.all V.flat)
 | .map kvs=>kvs.all (·.2.all V.flat)
def Out(h0:au)(R:AV->au->Prop)(r:AV)(h:au):Prop:=
 R r h\/∃h2 g,h=h2++g/\r.flat=true/\h0.length<=h2.length/\(∀(id:Nat)(o:Ob),h2[id]? =some (some o)->h0[id]? =some (some o)\/o.flat=true)/\R r h2
theorem VR.cut{I:Nat->Prop}{v:V}{c0:Value}(hp:∀(id:Nat)(inf inf':Inf),ι0[id]? =some inf->ι[id]? =some inf'->ι'[id]? =some inf')(h0:VR I0 w0 ι0 v c0)(h:VR I w ι v c):VR I w ι' v c:=by
 induction h generalizing ι0 c0 with
 |lit h=>exact .lit h
 |eE hc=>exact .eE hc
 |imm hs hc hm B d A C D=>exact .imm hs hc hm B d A C
 |kc=>exact .kc
 |di hs hm B d A C D=>exact .di hs hm B d A C
 | own hi hl y hm=>
  cases h0 with
  |own t _ _ _=>exact .own (hp _ _ _ t hi) hl y hm
  |hU t _=>exact .own (hp _ _ _ t hi) hl y hm
 | hU hi y=>
  cases h0 with
  |own t _ _ _=>exact .hU (hp _ _ _ t hi) y
  |hU t _=>exact .hU (hp _ _ _ t hi) y
 |ptr hi=>cases h0 with|ptr t=>exact .ptr (hp _ _ _ t hi)
 |iW B d A C D=>exact .iW B d A C
 |clo hl E A D=>cases h0 with|clo J G F=>exact .clo hl E (λj H=>D j H hp (F j H))
 |mp hi=>cases h0 with|mp t=>exact .mp (hp _ _ _ t hi)
theorem OR.cut{I:Nat->Prop}{d:Inf}(hp:∀(id:Nat)(inf inf':Inf),ι0[id]? =some inf->ι[id]? =some inf'->ι'[id]? =some inf')(h0:OR ι0 I0 w0 d o)(h:OR ι I w inf o):OR ι' I w inf o:=by
 cases o with
 | row s es=>
  obtain⟨cur,t,h1,h2,A,h4,B,C,D⟩:=h;obtain⟨_,_,_,_,_,_,_,_,E⟩:=h0;refine⟨cur,t,h1,h2,A,h4,B,C,λk hk j v=> ?_⟩;obtain⟨u,F,G⟩:=D k hk j v;obtain⟨_,_,gv⟩:=E k hk j v;exact⟨u,F,gv.cut hp G⟩
 | map kvs=>
  obtain⟨en,clock,h1,h2,A,h4,B⟩:=h;obtain⟨_,_,_,_,g3,_⟩:=h0;refine⟨en,clock,h1,h2,λs vs hs=> ?_,h4,B⟩;obtain⟨e,he,y,f,H,J,K,L⟩:=A s vs hs;obtain⟨_,_,_,_,_,_,_,e3⟩:=g3 s vs hs;exact⟨e,he,y,f,H,J,K,λj v=>(e3 j v).cut hp (L j v)⟩
theorem OR.free{I:Nat->Prop}(D:o.flat=true)(h:OR ι I w inf o):OR ι' I w inf o:=by
 cases o with
 | row s es=>
  obtain⟨cur,t,h1,h2,B,h4,C,H,J⟩:=h;refine⟨cur,t,h1,h2,B,h4,C,H,λk hk j v=> ?_⟩;obtain⟨u,K,L⟩:=J k hk j v;have d:(es.all λx=>x.all V.flat)=true:=by simpa only[Ob.flat]using D
  have:=aT.1 (aT.1 d _ (gM hk)) _ (gM v);exact⟨u,K,L.free this⟩
 | map kvs=>
  obtain⟨en,clock,h1,h2,B,h4,C⟩:=h;refine⟨en,clock,h1,h2,λs vs hs=> ?_,h4,C⟩;obtain⟨e,he,y,f,M,E,F,G⟩:=B s vs hs;have A:(s,vs)∈kvs:=by
   clear h1 h2 B h4 C E F G D
   induction kvs with
   |nil=>simp[iT]at hs
   | cons p kvs N=>
    obtain⟨a,b⟩:=p;simp only[iT]at hs;split at hs
    .grind
    .grind
  have d:(kvs.all λx=>x.2.all V.flat)=true:=by simpa only[Ob.flat]using D
  exact⟨e,he,y,f,M,E,F,λj v=>(G j v).free (aT.1 (aT.1 d _ A) _ (gM v))⟩
structure br(L:Env)(h:au)(L2:Env)(h2:au):Prop where
 get:∀E ι I a w,Rel E L h ι I a w->∃I',Rel E L2 h2 ι I' a w
theorem br.refl(L:Env)(h:au):br L h L h:=⟨λ_ _ I _ _ r=>⟨I,r⟩⟩
theorem br.trans{d j:Env}{t:au}(a:br L h d h2)(b:br d h2 j t):br L h j t:=⟨λE ι I x w r=>let⟨v,y⟩:=a.get E ι I x w r;b.get E ι v x w y⟩
theorem dJ{Q:Exit->Env->au->Prop}{d:Env}{c:Code}(s:br L h d h2)(j:aw P c E Q d h2):aw P c E Q L h:=⟨λι I a w r=>let⟨t,v⟩:=s.get E ι I a w r;j.get ι t a w v⟩
theorem IC{d:Env}{ops:Array Oper}{rest:Td Oper}(s:br L h d h2)(j:ao P ops rest E K d h2):ao P ops rest E K L h:=⟨λι I a w Q t r=>let⟨v,y⟩:=s.get E ι I a w r;j.get ι v a w Q t y⟩
def px(P:Program)(fn:Func)(h0:au)(R:AV->au->Prop):Exit->Env->au->Prop
 | .normal,L,h| .ret,L,h=>∃d h2 r,br L h d h2/\Res P fn d h2 r/\Out h0 R r h2
 |_,_,_=>False
theorem pT(k1:Res P fn L h r)(d:Out h0 R r h):px P fn h0 R .ret L h:=⟨L,h,r,.refl _ _,k1,d⟩
theorem retF{d:Env}(s:br L h d h2)(k1:Res P fn d h2 r)(j:Out h0 R r h2):px P fn h0 R .ret L h:=⟨d,h2,r,s,k1,j⟩
theorem Rel.gv{I:Nat->Prop}(r:Rel E L h ι I a w):GV w/\¬ei ι h 0:=
 ⟨E.gv.1.aH (r.frame 0 E.gv.1.lt E.gv.2),fun⟨id,o,inf,x,y,e⟩=>by
  rcases r.cA id o inf x y with hp|hp
  .exact E.gv.2 (e▸hp)
  .have:=E.gv.1.lt;omega⟩
theorem qF{I:Nat->Prop}{n:Nat}{g:GV w/\¬ei ι h 0}{L':Env}{h':au}{d:Nat->Prop}{J:Act}{w':World}(F:HR ι I w h)(rel:Rel ⟨w,ei ι h,ι,n,I,g⟩ L' h' ι' d J w')(h2:AR ι' d w' r c)(t:Out h R r h'):
  ∃r h' ι' d,R r h'/\KN w I ι h r h' ι' d c w':=by
 rcases t with t|⟨j,g,rfl,C,K,v,t⟩
 .exact⟨r,h',ι',d,t,⟨h2,rel.heap,rel.imm,rel.cw,rel.pre,rel.os,rel.tape,rel.output,rel.grown,rel.frame,rel.cA⟩⟩
 .have bF:=rel.heap.len;simp at bF;have up:∀{id:Nat}{o:Ob},j[id]? =some (some o)->(j++g)[id]? =some (some o):=λx=>G1
  have A:∀{id:Nat}{inf:Inf},(ι'.take j.length)[id]? =some inf->ι'[id]? =some inf:=λ{id inf} x=>G1
  have G:=F.len;have hp:∀(id:Nat)(inf inf':Inf),ι[id]? =some inf->ι'[id]? =some inf'->(ι'.take j.length)[id]? =some inf':=λid inf inf' x y=>G1
  refine⟨r,j,ι'.take j.length,d,t,⟨h2.free C,⟨A4,λid o inf x y=> ?_,λid o inf x y=>rel.heap.off id o inf (up x) (A y),λid id' o o' inf inf' x L y M e=>rel.heap.inj id id' o o' inf inf' (up x) (up L) (A y) (A M) e,rel.heap.sub⟩,rel.imm,rel.cw,λid inf x=>hp id inf inf x (rel.pre id inf x),rel.os,rel.tape,rel.output,rel.grown,rel.frame,λid o inf x y=>rel.cA id o inf (up x) (A y)⟩⟩;have B:=rel.heap.obj id o inf (up x) (A y);rcases v id o x with H|D
  .have E:id<ι.length:=by have:=(gI.1 H).1;omega
   exact(F.obj id o _ H (O0 E)).cut hp B
  .exact B.free D
theorem Fn.seal{C:AV->au->Prop}(E:Fn P f xs h R)(hs:∀[Zb] (r:AV) (h':au),R r h'->∃y h2 j,br [(0,r)] h' y h2/\y.lookup 0=some j/\Out h C j h2):Fn P f xs h C:=by
 refine⟨E.1,λw I ι cs F G H hA=>(E.2 w I ι cs F G H hA).mono ?_⟩;rintro e w' ⟨r,h',ι',J,c,K,rfl,D⟩;obtain⟨y,h2,j,L,hl,M⟩:=hs r h' K
 have rel:Rel ⟨w,ei ι h,ι,1,I,F⟩ [(0,r)] h' ι' J {tmps:= #[c],defers:=[]} w':=
  { bc  :=fun t v A=>by
      rw[OK]at A;by_cases e:t=0
      · subst e
        simp at A;subst A;exact⟨c,rfl,D.res⟩
      · grind
    heap:=D.heap
    imm:=D.imm
    cw:=D.cw
    pre:=D.pre
    os:=D.os
    tape:=D.tape
    output:=D.output
    grown:=D.grown
    frame:=D.frame
    cA:=D.cA
    defers:=rfl
    size:=rfl}
 obtain⟨U,d⟩:=L.get _ _ _ _ _ rel;obtain⟨c2,g1,N⟩:=d.bc 0 j hl;have:c2=c:=by simpa using g1.symm
 subst this;obtain⟨O,Q,B,S,k1,T⟩:=qF G d N M;exact⟨O,Q,B,S,c2,k1,rfl,T⟩
theorem yW{c:Code}(J:P.funcs[f]? =some fn)(B:fn.body=some c)(U:xs.length<=fn.ntmps)
  {w:World} {I:Nat->Prop} {ι:Td Inf} {cs:Array Value} (F:HR ι I w h) (K:∀b,I b->b<w.heap.size) (hA:ARs ι I w xs cs) (G:GV w/\¬ei ι h 0) (L:aw P c ⟨w,ei ι h,ι,fn.ntmps,I,G⟩ (px P fn h R) (jr 0 xs) h):
  Calls P f cs w λe w'=>∃r h' ι' d c,R r h'/\e= .returned c/\KN w I ι h r h' ι' d c w':=by
 refine calls_of_wp J B ?_
 let E:Cx:=⟨w,ei ι h,ι,fn.ntmps,I,G⟩
 have C:Rel E (jr 0 xs) h ι I {tmps:=cs++Array.replicate (fn.ntmps-cs.size) undef,defers:=[]} w:=
  { bc:=fun t v M=>by
      obtain⟨_,h2⟩:=mU xs 0 t v M;rw[Nat.sub_zero]at h2;obtain⟨y,rfl⟩:=gI.1 h2;obtain⟨c,N,h4⟩:=hA.2 t y;exact⟨c,by rw[PM (by rw[hA.1];exact y)];exact N,h4⟩
    heap:=F
    imm:=K
    cw:=λ_ B=>.inl B
    pre:=bj.refl _
    os:=rfl
    tape:=rfl
    output:=rfl
    grown:=O3 _
    frame:=λ_ _ _=>rfl
    cA:=λid o inf h1 h2=>.inl ⟨id,o,inf,h1,h2,rfl⟩
    defers:=rfl
    size:=by
      show (cs++Array.replicate (fn.ntmps-cs.size) undef).size=fn.ntmps;have:=hA.1;simp;omega}
 refine wp_mono (L.get ι I _ w C) ?_
 have fin:∀{j:Act}{w':World}{L':Env}{h':au}{ι':Td Inf}{d:Nat->Prop},(∃H h2 r,br L' h' H h2/\Res P fn H h2 r/\Out h R r h2)->Rel E L' h' ι' d j w'->
   j.defers=[]/\∃v,(results fn j.tmps).run P w'= .ok v w'/\∃r h' ι' d c,R r h'/\(Ending.returned v)= .returned c/\KN w I ι h r h' ι' d c w':=by
  rintro j w' L0 O ι' D ⟨L',h',r,Q,C,S⟩ A;obtain⟨d,rel⟩:=Q.get E ι' D j w' A;obtain⟨c,h1,h2⟩:=C.get E ι' d j w' rel;refine⟨rel.defers,c,h1,?_⟩;obtain⟨r,h',ι',d,k1,T⟩:=qF F rel h2 S;exact⟨r,h',ι',d,c,k1,rfl,T⟩
 rintro e j w' ⟨L',h',ι',d,q,rel⟩;cases e with
 |normal=>exact fin q rel
 |ret=>exact fin q rel
 |exit id=>exact q.elim
 |goto l=>exact q.elim
 |panic ch=>exact q.elim
 |outgrown=>exact q.elim
theorem cW{c:Code}(hf:P.funcs[f]? =some fn)(hb:fn.body=some c)(hname:(fn.name== "runtime.NumGoroutine")=false)(hx:xs.length<=fn.ntmps)
  (hh:∀[Zb](E:Cx),E.n=fn.ntmps->aw P c E (px P fn h R) (jr 0 xs) h):Fn P f xs h R:=
 ⟨⟨fn,hf,hname,by simp[hb]⟩,λ_ _ _ _ hg hH hI hA=>yW hf hb hx hH hI hA hg (hh _ rfl)⟩
def evs(L:Env):Td Operand->Y (Td AV)
 |[]=>some []
 | x::xs=>match ev L x,evs L xs with
  |some v,some vs=>some (v::vs)
  |_,_=>none
theorem Rel.evs{E:Cx}{L:Env}{h:au}{ι:Td Inf}{I:Nat->Prop}{a:Act}{w:World}(r:Rel E L h ι I a w):∀{ops:Td Operand}{xs:Td AV},evs L ops=some xs->ARs ι I w xs (ops.map a.eval).toArray:=by
 intro ops
 induction ops with
 |nil=>intro xs h;simp[Abs.evs]at h;subst h;exact⟨rfl,λj t=>by simp at t⟩
 | cons x ops A=>
  intro xs h;simp only[Abs.evs]at h;cases d:Abs.ev L x with
  |none=>simp[d]at h
  | some v=>
   cases y:Abs.evs L ops with
   |none=>simp[d,y]at h
   | some vs=>
    simp[d,y]at h;subst h;obtain⟨h1,h2⟩:=A y;refine⟨by simp at h1;simp[h1],λj t=> ?_⟩;cases j with
    |zero=>exact⟨_,rfl,r.ev d⟩
    | succ j=>
     obtain⟨c,B,h4⟩:=h2 j QD;exact⟨c,RL,h4⟩
theorem zg{o:Oper}{cs:Act->Array Value}{d:Nat}(hd:o.dst=some d)(S:d<E.n)
  (F:∀a w,(∃ι I,Rel E L h ι I a w)->(execOp a.eval o).run P w= .ok (.enter f (cs a)) w) (O:∀ι I a w,Rel E L h ι I a w->ARs ι I w xs (cs a)) (T:Fn P f xs h R) (hk:∀r h',R r h'->K ((d,r)::L) h'):ar P o E K L h:=by
 refine⟨λLf ι I a w r=> ?_⟩;unfold Oper.wp;rw[F a w ⟨ι,I,r.low⟩,Oper.upon_enter];refine(T.2 w I ι (cs a) r.gv r.heap r.imm (O ι I a w r.low)).mono ?_;rintro e w' ⟨v,h',ι',N,c,U,rfl,D⟩;rw[hd];have Q:cu I (λb=>I b\/N b) w w':=⟨λb j=>.inl j,λb j=>by
  rw[D.frame b (r.imm b j) (λ⟨id,o,inf,x,y,e⟩=>r.heap.off id o inf x y (e▸j))]⟩
 have C:cu N (λb=>I b\/N b) w' w':=⟨λb j=>.inr j,λ_ _=>rfl⟩;refine⟨_,h',ι',λb=>I b\/N b,hk v h' U,Rel.put (c:=c) ?_ S (D.res.aH (bj.refl _) C)⟩;exact
 { bc   :=fun t u V=>let⟨c,x,y⟩:=r.bc t u V;⟨c,x,y.aH D.pre Q⟩
   heap := ⟨D.heap.len,fun id o inf x y=>(D.heap.obj id o inf x y).aH (bj.refl _) C rfl,fun id o inf x y j=>by
     rcases j with j|j
     · rcases D.cA id o inf x y with⟨B,G,A,H,J,M⟩|hge
       · exact r.heap.off B G A H J (M▸j)
       · have:=r.imm _ j;omega
     · exact D.heap.off id o inf x y j,D.heap.inj,λb c t j=>.inl (r.heap.sub b c t j)⟩
   imm:=λb j=>by
     rcases j with j|j
     · have:=r.imm b j;have:=D.grown;omega
     · exact D.imm b j
   cw:=λb j=>by
     rcases j with j|j
     · exact r.cw b j
     · rcases D.cw b j with j|⟨B,G,A,H,J,M⟩|j
       · exact r.cw b j
       · rw[<-M];exact .inr (r.cA B G A H J)
       · exact .inr (.inr (P3 r.grown j))
   pre:=r.pre.trans D.pre
   os:=D.os.trans r.os
   tape:=D.tape.trans r.tape
   output:=D.output.trans r.output
   grown:=P3 r.grown D.grown
   frame:=λb x y=>by
     rw [D.frame b QI (fun⟨id,o,inf,W,X,e⟩=>by
       rcases r.cA id o inf W X with hp|hp
       · grind
       · omega)]
     exact r.frame b x y
   cA:=λid o inf x y=>by
     rcases D.cA id o inf x y with⟨B,G,A,H,J,M⟩|hge
     · rw[<-M];exact r.cA B G A H J
     · exact .inr QI
   defers:=r.defers
   size:=r.size}
theorem dI.run(h:dI P f)(ae:Array Value)(w:World):(callFunc f ae).run P w= .ok (.enter f ae) w:=by
 obtain⟨fn,h1,h2,h3⟩:=h;have h2':¬(fn.name= "runtime.NumGoroutine"):=Hm
 have h3':¬(fn.body=none):=by intro e;simp[e]at h3
 simp[callFunc,program,Sem.run,bind,Sem.bind,h1,h2',h3']
theorem BR{d f:Nat}{ae:Td Operand}{tys:Array TypeId}{ty:TypeId}{pos:String}{af:Array Edge}{gd:Y (Nat×Bool)}
  (t:evs L ae=some xs) (v:d<E.n) (j:Fn P f xs h R) (hk:∀r h',R r h'->K ((d,r)::L) h'):ar P ⟨some d,.call ⟨.value (.func f),ae.toArray,tys⟩,ty,pos,af,gd⟩ E K L h:=
 zg (cs:=λa=>(ae.map a.eval).toArray) rfl v (λa w _=>by
  simp[execOp,resolve,Act.eval,Deferred.ofValue,invoke,j.1.run]) (λι I a w r=>r.evs t) j hk
end
theorem AR.lit{ι:Td Inf}{I:Nat->Prop}{w:World}{u c:Value}(h:AR ι I w (.one (.lit u)) c):c=u/\dM u:=by
 cases h with
 |one h=>cases h with|lit h=>exact⟨rfl,h⟩
structure ElI where
 t:Nat
 size:Nat
 bytes:Nat
 zero:List Value
structure TyI where
 desc:TypeDesc
 agg:Bool
 size:Nat
 bytes:Nat
 zero:List Value
 elem:Y ElI
 fields:List (Nat×Nat×Nat)
def fC(P:Program)(t:TypeId):Nat:=((P.info? t).map (·.size)).getD 0
def nh(P:Program)(t:TypeId):Td Value:=match (P.info? t).bind (·.zero)with|some v=>v.cells.toList|none=>[]
def wK(P:Program)(t:TypeId):Y TyI:=
 match P.info? t,P.underlying t with
 | some i,some d=>some {
   desc:=d
   agg:=match d with| .struct _| .array _ _=>true|_=>false
   size:=i.size
   bytes:=i.bytes
   zero:=nh P t
   elem:=match d with| .slice e=>some ⟨e,fC P e,((P.info? e).map (·.bytes)).getD 0,nh P e⟩|_=>none
   fields:=match d with| .struct h=>h.toList.map λf=>(f.offset,f.type,fC P f.type)|_=>[]}
 |_,_=>none
abbrev Tbl:=Td (Nat×TyI)
def cm(P:Program)(tb:Tbl):Prop:=∀t i,tb.lookup t=some i->wK P t=some i
theorem oS(P:Program):cm P []:=λt i h=>F1
section
variable {P:Program}{t:TypeId}
variable{i:TyI}
theorem aV{t:Nat}{tb:Tbl}(h1:wK P t=some i)(h2:cm P tb):cm P ((t,i)::tb):=by
 intro u x d;rw[OK]at d;by_cases e:u=t
 .grind
 .have h:(u==t)=false:=R1
  rw[h]at d;exact h2 u x d
theorem co(h:wK P t=some i):∃inf,P.info? t=some inf/\P.underlying t=some i.desc/\inf.size=i.size/\inf.bytes=i.bytes/\
  (i.agg=match i.desc with| .struct _| .array _ _=>true|_=>false)/\i.zero=nh P t/\
  (i.elem=match i.desc with| .slice e=>some ⟨e,fC P e,((P.info? e).map (·.bytes)).getD 0,nh P e⟩|_=>none)/\
  (i.fields=match i.desc with| .struct j=>j.toList.map λf=>(f.offset,f.type,fC P f.type)|_=>[]):=by
 unfold wK at h;cases h1:P.info? t with
 |none=>simp[h1]at h
 | some inf=>
  cases h2:P.underlying t with
  |none=>simp[h1,h2]at h
  | some d=>
   simp only[h1,h2,OW]at h;subst h;exact⟨inf,rfl,rfl,rfl,rfl,rfl,rfl,rfl,rfl⟩
def du(tb:Tbl)(t:TypeId):Y ElI:=(tb.lookup t).bind (·.elem)
theorem bI{tb:Tbl}(j:cm P tb){d:ElI}(h:du tb t=some d):P.underlying t=some (.slice d.t)/\fC P d.t=d.size/\((P.info? d.t).map (·.bytes)).getD 0=d.bytes/\nh P d.t=d.zero:=by
 unfold du at h;cases hl:tb.lookup t with
 |none=>simp[hl]at h
 | some i=>
  simp only[hl,bS]at h;obtain⟨inf,_,h2,_,_,_,_,v,_⟩:=co (j t i hl);rw[v]at h;split at h
  .grind
  .cases h
theorem oF{n:Nat}(h:fC P t=n)(d:0<n):∃inf,P.info? t=some inf/\inf.size=n:=by
 unfold fC at h;cases hi:P.info? t with
 |none=>simp[hi]at h;omega
 |some inf=>simp[hi]at h;exact⟨inf,rfl,h⟩
end
section
variable {P : Program} {E : Cx} {K : Env → au → Prop} {L : Env} {h : au} {d : Nat} {ty : TypeId} {pos : String} {af : Array Edge} {gd : Y (Nat × Bool)}
section
variable {x c y:Operand}{p:Bool}{op:BinOp}{j t:TypeId}{n a b:Int}{k:IntKind}
theorem Cv{v:AV}(j:ev L x=some v)(t:d<E.n)(hk:K ((d,v)::L) h):ar P ⟨some d,.move x,ty,pos,af,gd⟩ E K L h:=
 bO rfl t (λ_ _ a _ r=>⟨a.eval x,rfl,r.ev j⟩) hk
theorem dK{v:AV}(j:ev L x=some v)(t:d<E.n)(hk:K ((d,v)::L) h):ar P ⟨some d,.assign x,ty,pos,af,gd⟩ E K L h:=
 bO rfl t (λ_ _ a _ r=>⟨a.eval x,rfl,r.ev j⟩) hk
theorem yy{v:AV}(hc:ev L c=some (.one (.lit (.bool p))))(hp:p=true)(j:ev L x=some v)(t:d<E.n)(hk:K ((d,v)::L) h):ar P ⟨some d,.pick c x y,ty,pos,af,gd⟩ E K L h:=
 bO rfl t (λ_ _ a _ r=>⟨a.eval x,R3,r.ev j⟩) hk
theorem xx{v:AV}(hc:ev L c=some (.one (.lit (.bool p))))(hp:p=false)(j:ev L y=some v)(t:d<E.n)(hk:K ((d,v)::L) h):ar P ⟨some d,.pick c x y,ty,pos,af,gd⟩ E K L h:=
 bO rfl t (λ_ _ a _ r=>⟨a.eval y,R3,r.ev j⟩) hk
theorem fB{C:TypeId}{u v c:Value}(D:ev L x=some (.one (.lit u)))(F:ev L y=some (.one (.lit v)))
  (t:¬(u= .nilIface/\v= .nilIface)) (G:∀w,(binOp op j u v).run P w= .ok c w) (hc:dM u->dM v->dM c) (H:d<E.n) (hk:K ((d,.one (.lit c))::L) h):ar P ⟨some d,.binOp op j x y C,ty,pos,af,gd⟩ E K L h:=
 bO rfl H (λ_ _ a w r=>by
  obtain⟨e1,A⟩:=(r.ev D).lit;obtain⟨e2,B⟩:=(r.ev F).lit;refine⟨c,?_,.one (.lit (hc A B))⟩;have I:(eqGuard op j x y u v)= .pure ():=by
   cases u<;>cases v<;>first|exact absurd ⟨rfl,rfl⟩ t|exact A.elim|exact B.elim|(cases op<;>rfl)
  simp only[execOp,e1,e2,I,Sem.run_bind,Sem.run_pure',Result.andThen_ok,G w,Sem.run_pure]) hk
theorem jQ(h1: -9223372036854775808<=n)(h2:n<=9223372036854775807):dM (.int .i64 n):=by
 show (Lit.int .i64 n).wf=true;exact Sy
theorem AA(h:dM (.int .i64 n)): -9223372036854775808<=n/\n<=9223372036854775807:=by
 have h:(Lit.int .i64 n).wf=true:=h;exact Ss
theorem ku(h1: -9223372036854775808<=n)(h2:n<=9223372036854775807):IntKind.i64.wrap n=n:=IntWalk.i64_in _ ⟨h1,h2⟩
theorem MT{v:TypeId}(A:ev L x=some (.one (.lit (.int .i64 a))))(B:ev L y=some (.one (.lit (.int .i64 b))))(j: -9223372036854775808<=a+b/\a+b<=9223372036854775807)(C:d<E.n)
  (hk:K ((d,.one (.lit (.int .i64 (a+b))))::L) h):ar P ⟨some d,.binOp .add t x y v,ty,pos,af,gd⟩ E K L h:=
 fB A B A1 (λw=>by simp[binOp,Op.intArith,ku j.1 j.2]) (λ_ _=>jQ j.1 j.2) C hk
theorem NE{v:TypeId}(A:ev L x=some (.one (.lit (.int .i64 a))))(B:ev L y=some (.one (.lit (.int .i64 b))))(j: -9223372036854775808<=a-b/\a-b<=9223372036854775807)(C:d<E.n)
  (hk:K ((d,.one (.lit (.int .i64 (a-b))))::L) h):ar P ⟨some d,.binOp .sub t x y v,ty,pos,af,gd⟩ E K L h:=
 fB A B A1 (λw=>by simp[binOp,Op.intArith,ku j.1 j.2]) (λ_ _=>jQ j.1 j.2) C hk
def bg:BinOp->Int->Int->Bool
 | .eql,a,b=>decide (a=b)
 | .neq,a,b=> !decide (a=b)
 | .lss,a,b=>decide (a<b)
 | .leq,a,b=>decide (a<=b)
 | .gtr,a,b=>decide (b<a)
 | .geq,a,b=>decide (b<=a)
 |_,_,_=>false
def Lj:BinOp->Bool
 | .eql| .neq| .lss| .leq| .gtr| .geq=>true
 |_=>false
theorem gQ(ho:Lj op=true)(v:ev L x=some (.one (.lit (.int k a))))(A:ev L y=some (.one (.lit (.int k b))))(B:d<E.n)
  (hk:K ((d,.one (.lit (.bool (bg op a b))))::L) h):ar P ⟨some d,.binOp op j x y t,ty,pos,af,gd⟩ E K L h:=
 fB (c:=.bool (bg op a b)) v A A1 (λw=>by cases op<;>first|(cases ho;done)|(simp[binOp,Op.intCmp,bg,bne];try rfl)) (λ_ _=>trivial) B hk
theorem MZ{v:TypeId}(A:ev L x=some (.one (.lit (.int .i64 a))))(B:ev L y=some (.one (.lit (.int .i64 b))))(j:0<=a)(D:0<b)(C:d<E.n)
  (hk:K ((d,.one (.lit (.int .i64 (a%b))))::L) h):ar P ⟨some d,.binOp .rem t x y v,ty,pos,af,gd⟩ E K L h:=
 fB A B A1 (λw=>by
  have:b≠0:=A0
  simp[binOp,Op.intDiv,this,Int.tmod_eq_emod_of_nonneg j]) (λho _=>by
  have h1:=AA ho;have h2:=Int.emod_nonneg a (b:=b) A0;have h4:=Int.emod_add_mul_ediv a b;have F:0<=b*(a / b):=Int.mul_nonneg A0 (Int.ediv_nonneg j A0);exact jQ A0 A0) C hk
theorem Mz{v A:TypeId}(B:ev L x=some (.one (.lit (.int .i64 a))))(C:ev L y=some (.one (.lit (.int .i64 b))))(j:0<=a)(H:0<b)(D:d<E.n)
  (hk:K ((d,.one (.lit (.int .i64 (a / b))))::L) h):ar P ⟨some d,.binOp .quo v x y A,ty,pos,af,gd⟩ E K L h:=
 bO rfl D (λ_ _ F w r=>by
  obtain⟨e1,G⟩:=(r.ev B).lit;obtain⟨e2,I⟩:=(r.ev C).lit;have h1:=AA G;have h2:0<=a / b:=Int.ediv_nonneg j A0;have J:a / b<=a:=Int.ediv_le_self b j;refine⟨_,?_,.one (.lit (jQ (n:=a / b) A0 A0))⟩;have t:b≠0:=A0
  simp[execOp,e1,e2,eqGuard,binOp,Op.intDiv,t,Int.tdiv_eq_ediv_of_nonneg j,ku (n:=a / b) A0 A0]) hk
def bz(op:BinOp)(k:IntKind)(a b:Int):Int:=
 match op with
 | .and=>k.wrap ((BitVec.ofInt k.bits a&&&BitVec.ofInt k.bits b).toNat)
 | .or=>k.wrap ((BitVec.ofInt k.bits a|||BitVec.ofInt k.bits b).toNat)
 | .xor=>k.wrap ((BitVec.ofInt k.bits a^^^BitVec.ofInt k.bits b).toNat)
 | .andNot=>k.wrap ((BitVec.ofInt k.bits a&&& ~~~BitVec.ofInt k.bits b).toNat)
 | .shl=>k.wrap (a*2^min b.toNat k.bits)
 | .shr=>a.fdiv (2^min b.toNat k.bits)
 |_=>0
theorem we(n:Int):dM (.int .i64 (IntKind.i64.wrap n)):=by
 rw[IntKind.wrap_i64];exact jQ A0 A0
theorem oJ(ho:(match op with| .and| .or| .xor| .andNot=>true|_=>false)=true)(v:ev L x=some (.one (.lit (.int .i64 a))))(A:ev L y=some (.one (.lit (.int .i64 b))))(B:d<E.n)
  (hk:K ((d,.one (.lit (.int .i64 (bz op .i64 a b))))::L) h):ar P ⟨some d,.binOp op j x y t,ty,pos,af,gd⟩ E K L h:=
 fB v A A1 (λw=>QX) (λ_ _=>by cases op<;>first|(cases ho;done)|exact we _) B hk
theorem Nw{j t : TypeId}{x y : Operand}{k:IntKind}{a b:Int}(v:ev L x=some (.one (.lit (.int .i64 a))))(A:ev L y=some (.one (.lit (.int k b))))(C:0<=b)(B:d<E.n)
  (hk:K ((d,.one (.lit (.int .i64 (bz .shl .i64 a b))))::L) h):ar P ⟨some d,.binOp .shl j x y t,ty,pos,af,gd⟩ E K L h:=
 fB     v  A  (by simp) (fun w => by have:¬b<0:=by omega
                                     simp only[binOp,Op.shift,this,if_false];rfl) (λ_ _=>we _) B hk
theorem Hs{b:Bool}(t:ev L x=some (.one (.lit (.bool b))))(v:d<E.n)(hk:K ((d,.one (.lit (.bool (!b))))::L) h):ar P ⟨some d,.unOp .not j x,ty,pos,af,gd⟩ E K L h:=
 bO rfl v (λ_ _ a w r=>⟨.bool (!b),by simp[execOp,(r.ev t).bool,Op.unary],.one (.lit trivial)⟩) hk
def AP:BinOp->Int->Int->Int
 | .add,a,b=>IntKind.i64.wrap (a+b)
 | .sub,a,b=>IntKind.i64.wrap (a-b)
 | .mul,a,b=>IntKind.i64.wrap (a*b)
 |_,_,_=>0
theorem oD(ho:(match op with| .add| .sub| .mul=>true|_=>false)=true)(v:ev L x=some (.one (.lit (.int .i64 a))))(A:ev L y=some (.one (.lit (.int .i64 b))))(B:d<E.n)
  (hk:K ((d,.one (.lit (.int .i64 (AP op a b))))::L) h):ar P ⟨some d,.binOp op j x y t,ty,pos,af,gd⟩ E K L h:=
 fB v A A1 (λw=>by cases op<;>first|(cases ho;done)|(simp[binOp,Op.intArith,AP])) (λ_ _=>by cases op<;>first|(cases ho;done)|exact we _) B hk
theorem yr{n:Nat}(h1: -9223372036854775808<=a)(h2:a<=9223372036854775807): -9223372036854775808<=a.fdiv (2^n)/\a.fdiv (2^n)<=9223372036854775807:=by
 have hp:(0:Int)<2^n:=Int.pow_pos A3;rw[Qs _ (Qa hp)];constructor
 .have:=Int.mul_ediv_self_le (x:=a) (k:=2^n) A0;rcases Int.lt_or_le (a / 2^n) (-9223372036854775808)with h|h
  .have j:a / 2^n<0:=A0
   have h4:=Int.lt_mul_ediv_self_add (x:=a) hp;have t:2^n*(a / 2^n)<=1*(a / 2^n):=Int.mul_le_mul_of_nonpos_right A0 A0;rcases Int.lt_or_le a 0 with d|d
   .have:a<=a / 2^n:=by
     rw[Int.le_ediv_iff_mul_le hp];have:a*2^n<=a*1:=Int.mul_le_mul_of_nonpos_left A0 A0;omega
    omega
   .have:=Int.ediv_nonneg d (Qa hp);omega
  .exact h
 .rcases Int.lt_or_le a 0 with d|d
  .have:a / 2^n<0:=Int.ediv_neg_of_neg_of_pos d hp;omega
  .have:=Int.ediv_le_self (2^n) d;omega
theorem FN{j t : TypeId}{x y : Operand}{k:IntKind}{a b:Int}(v:ev L x=some (.one (.lit (.int .i64 a))))(A:ev L y=some (.one (.lit (.int k b))))(D:0<=b)(B:d<E.n)
  (hk:K ((d,.one (.lit (.int .i64 (bz .shr .i64 a b))))::L) h):ar P ⟨some d,.binOp .shr j x y t,ty,pos,af,gd⟩ E K L h:=
 fB     v  A  (by simp) (fun w => by have:¬b<0:=by omega
                                     simp only[binOp,Op.shift,this,if_false];rfl) (λC _=>by
  have h1:=AA C;have:=yr (n:=min b.toNat IntKind.i64.bits) h1.1 h1.2;exact jQ this.1 this.2) B hk
theorem OF(h:dM (.int .u8 n)):0<=n/\n<=255:=by
 have h:(Lit.int .u8 n).wf=true:=h;exact Ss
theorem uG{tb:Tbl}(v:cm P tb){dst:TypeId}{i j:TyI}(A:ev L x=some (.one (.lit (.int .u8 a))))(hs:tb.lookup t=some i)(hd:tb.lookup dst=some j)(B:j.desc= .int .i64)(C:d<E.n)
  (hk:K ((d,.one (.lit (.int .i64 a)))::L) h):ar P ⟨some d,.convert t dst x,ty,pos,af,gd⟩ E K L h:=
 bO rfl C (λ_ _ D w r=>by
  obtain⟨e1,F⟩:=(r.ev A).lit;have G:=OF F;obtain⟨_,_,h2,_⟩:=co (v t i hs);obtain⟨_,_,y,_⟩:=co (v dst j hd);rw[B]at y;refine⟨.int .i64 a,?_,.one (.lit (jQ A0 A0))⟩;simp[execOp,convert,run_underlying h2,run_underlying y,e1,Conv.intToInt,ku (n:=a) A0 A0]) hk
end
end
section
variable {ι : Td Inf} {I : Nat → Prop} {w : World}
section
variable {c:Value}{s n:Nat}{es:Td (Td V)}
theorem AR.bi{v:V}(h:AR ι I w (.one v) c):VR I w ι v c:=by cases h with|one h=>exact h
theorem VR.oE(h:VR I w ι (.imm s es) c):∃A cap,c= .slice A es.length cap/\es.length<=cap/\cap<=9223372036854775807:=by
 cases h with
 |eE hc=>exact⟨_,_,rfl,P6 _,hc⟩
 |imm hs hc hm j d t=>exact⟨_,_,rfl,hc,hm⟩
theorem VR.ownSlice{id off len:Nat}(h:VR I w ι (.own id off len) c):∃A cap,c= .slice A len cap/\len<=cap/\cap<=9223372036854775807:=by
 cases h with
 |own hi hl d hm=>exact⟨_,_,rfl,hl,hm⟩
 |hU hi d=>exact⟨_,_,rfl,O3 _,A0⟩
theorem VR.immAt{A:Y Addr}{cap:Nat}(h:VR I w ι (.imm s es) (.slice A n cap)){k:Nat}{e:Td V}(hk:es[k]? =some e):
  ∃b off,A=some ⟨b,off,none⟩/\n=es.length/\k<n/\VR I w ι (.iW s e) (.pointer (some ⟨b,off+k*s,none⟩)):=by
 obtain⟨d,rfl⟩:=gI.1 hk;cases h with
 |eE hc=>simp at d
 | @imm _ _ b off _ _ f hs hc hm y t B C=>
  refine⟨b,off,rfl,rfl,d,.iW (f:=f k) y (λj v=> ?_) (λj v=>B k d j v) C⟩;have hl:=hs es[k] (gM d);have:=t k j d A0;rw[Pk];exact this
theorem AR.len{v:V}(h:AR ι I w (.one v) c)(j:(∃s es,v= .imm s es/\es.length=n)\/(∃s es,v= .di s es/\es.length=n)\/(∃id off,v= .own id off n)\/(v= .lit (.slice none 0 0)/\n=0)):
  ∃A cap,c= .slice A n cap/\n<=cap/\cap<=9223372036854775807:=by
 rcases j with⟨s,es,rfl,rfl⟩|⟨s,es,rfl,rfl⟩|⟨id,off,rfl⟩|⟨rfl,rfl⟩
 .exact h.bi.oE
 .cases h.bi with
  |kc=>exact⟨_,_,rfl,O3 _,A1⟩
  |di hs hm t d y=>exact⟨_,_,rfl,O3 _,hm⟩
 .exact h.bi.ownSlice
 .cases h.bi with|lit h=>exact⟨_,_,rfl,O3 _,A1⟩
end
end
def lenV:V->Y Nat
 | .imm _ es=>some es.length
 | .di _ es=>some es.length
 | .own _ _ n=>some n
 | .lit (.slice none 0 0)=>some 0
 |_=>none
theorem AR.lenV{ι:Td Inf}{I:Nat->Prop}{w:World}{v:V}{n:Nat}{c:Value}(h:AR ι I w (.one v) c)(d:Abs.lenV v=some n):∃A cap,c= .slice A n cap/\n<=cap/\cap<=9223372036854775807:=by
 refine h.len ?_;unfold Abs.lenV at d;split at d
 .grind
 .grind
 .grind
 .grind
 .cases d
def oB(agg:Bool)(size:Nat)(cs:Td V):Y AV:=
 if agg then (if size<=cs.length then some (.agg (cs.take size))else none)else cs.head?.map .one
section
variable {P : Program} {E : Cx} {K : Env → au → Prop} {L : Env} {h : au} {d : Nat} {ty : TypeId} {pos : String} {af : Array Edge} {gd : Y (Nat × Bool)} {tb : Tbl}
section
variable {t:TypeId}{x y:Operand}{n s k id off b f o ft cap lo hi:Nat}{i:TyI}{es:Td (Td V)}{e cs:Td V}{ι:Td Inf}{w:World}{kl kh:IntKind}{cK:Y Operand}
theorem wy(j:cm P tb){v:V}{y:ElI}(B:ev L x=some (.one v))(C:lenV v=some n)(he:du tb t=some y)(D:d<E.n)(hk:K ((d,.one (.lit (.int .i64 n)))::L) h):
  ar P ⟨some d,.call ⟨.builtin .len,#[x],#[t]⟩,ty,pos,af,gd⟩ E K L h:=
 bO rfl D (λ_ _ a w r=>by
  obtain⟨A,cap,e,h1,h2⟩:=(r.ev B).lenV C;refine⟨.int .i64 n,?_,.one (.lit (jQ A0 A0))⟩;simp[execOp,resolve,invoke,builtin,Builtin.len_,e,run_underlying (bI j he).1,goInt]) hk
theorem Db(j:cm P tb){α:Type}{xs:Td α}{g:α->Td V}{v:ElI}(w:ev L x=some (.one (.imm s (xs.map g))))(he:du tb t=some v)(y:d<E.n)(hk:K ((d,.one (.lit (.int .i64 xs.length)))::L) h):
  ar P ⟨some d,.call ⟨.builtin .len,#[x],#[t]⟩,ty,pos,af,gd⟩ E K L h:=
 wy j w (by simp[lenV]) he y hk
theorem Em(j:cm P tb){s:Z}(v:ev L x=some (.one (.lit (.string s))))(y:tb.lookup t=some i)(hi:i.desc= .string)(A:d<E.n)(hk:K ((d,.one (.lit (.int .i64 s.size)))::L) h):
  ar P ⟨some d,.call ⟨.builtin .len,#[x],#[t]⟩,ty,pos,af,gd⟩ E K L h:=
 bO rfl A (λ_ _ a w r=>by
  obtain⟨e,ho⟩:=(r.ev v).lit;have ho:s.size<=maxLen:=ho;unfold maxLen at ho;obtain⟨_,_,h2,_⟩:=co (j t i y);rw[hi]at h2;refine⟨.int .i64 s.size,?_,.one (.lit (jQ A0 A0))⟩;simp[execOp,resolve,invoke,builtin,Builtin.len_,e,run_underlying h2,goInt]) hk
theorem cg(h:fC P t=n)(d:0<n)(w:World):(sizeOf t).run P w= .ok n w:=by
 obtain⟨inf,h1,h2⟩:=oF h d;simp[sizeOf,typeInfo,h1,h2]
theorem dC(b off n:Nat):(⟨b,off,none⟩:Addr).add n=⟨b,off+n,none⟩:=by
 unfold Addr.add;split
 .grind
 .rfl
theorem bX(v:cm P tb){k:IntKind}{i:Int}{B:ElI}(C:ev L x=some (.one (.imm s es)))(G:ev L y=some (.one (.lit (.int k i))))(he:du tb t=some B)(hs:B.size=s)(D:0<s)
  (hi:0<=i) (H:es[i.toNat]? =some e) (I:d<E.n) (hk:K ((d,.one (.iW s e))::L) h):ar P ⟨some d,.indexAddr t x y,ty,pos,af,gd⟩ E K L h:=
 bO rfl I (λ_ _ a w r=>by
  obtain⟨A,cap,e1,h1,h2⟩:=(r.ev C).bi.oE;have F:=(r.ev C).bi;rw[e1]at F;obtain⟨b,off,rfl,_,J,hp⟩:=F.immAt H;obtain⟨e2,_⟩:=(r.ev G).lit;obtain⟨u1,u2,_⟩:=bI v he;refine⟨_,?_,.one hp⟩;have j:i<es.length:=A0
  simp[execOp,Instr.indexAt,e1,e2,asIntOf,run_underlying u1,hi,j,cg u2 A0,dC,hs]) hk
theorem Rel.row{I:Nat->Prop}{a:Act}(r:Rel E L h ι I a w)(ho:h[id]? =some (some (.row s es))):∃inf,ι[id]? =some inf/\OR ι I w inf (.row s es)/\inf.size=s:=by
 have j:=(gI.1 ho).1;have d:id<ι.length:=by rw[<-r.heap.len];exact j
 have hi:=O0 d;have:=r.heap.obj id _ _ ho hi;refine⟨_,hi,this,?_⟩;obtain⟨_,_,_,h2,_⟩:=this;exact h2
theorem iu(B:cm P tb){len:Nat}{k:IntKind}{i:Int}{F:ElI}(J:ev L x=some (.one (.own id off len)))(M:ev L y=some (.one (.lit (.int k i))))(he:du tb t=some F)
  (ho:h[id]?=some (some (.row s es))) (hs:F.size=s) (G:0<s) (hi:0<=i) (C:i<len) (N:d<E.n) (hk:K ((d,.one (.ptr id (off+i.toNat) 0))::L) h):ar P ⟨some d,.indexAddr t x y,ty,pos,af,gd⟩ E K L h:=
 bO rfl N (λι I a w r=>by
  obtain⟨inf,v,_,D⟩:=r.row ho;obtain⟨e2,_⟩:=(r.ev M).lit;obtain⟨u1,u2,_⟩:=bI B he;have H:=(r.ev J).bi;generalize hc:a.eval x=c at H;cases H with
  |hU j A=>omega
  | @own _ _ _ _ cap inf' j hl A hm=>
   have:inf'=inf:=by rw[v]at j;cases j;rfl
   subst this;refine⟨_,?_,.one (.ptr (k:=off+i.toNat) (o:=0) v)⟩;simp[execOp,Instr.indexAt,hc,e2,asIntOf,run_underlying u1,hi,C,cg u2 A0,dC,hs,D,Pn,Pk]) hk
theorem oV{I:Nat->Prop}(C:cm P tb)(E:tb.lookup t=some i){f:Nat->Value}{v:AV}(y:∀j,j<cs.length->w.cell? ⟨b,off+j,none⟩=some (f j))
  (F:∀(j:Nat)(D:j<cs.length),VR I w ι cs[j] (f j)) (hl:oB i.agg i.size cs=some v):∃c,(loadVar t ⟨b,off,none⟩).run P w= .ok c w/\AR ι I w v c:=by
 obtain⟨inf,h1,h2,G,_,B,_⟩:=co (C t i E);unfold oB at hl;split at hl
 .rename_i h;split at hl
  .rename_i H;cases hl;have A:=run_loadCells (P:=P) w ⟨b,off,none⟩ i.size f (λj D=>by rw[dC];exact y j A0);have d:(isAgg t).run P w= .ok true w:=by
    rw[h]at B;simp[isAgg,run_underlying h2]
    revert B
    cases i.desc<;>simp
   refine⟨.agg ((List.range i.size).map f).toArray,?_,?_⟩
   .simp[loadVar,d,sizeOf,typeInfo,h1,G,A]
   .refine .agg (f:=f) A4 (λj D=> ?_) (λj D=> ?_)
    .grind
    .grind
  .cases hl
 .rename_i h;have h:i.agg=false:=Ro
  cases cs with
  |nil=>simp at hl
  | cons c0 cs=>
   simp at hl;subst hl;have d:(isAgg t).run P w= .ok false w:=by
    rw[h]at B;simp[isAgg,run_underlying h2]
    revert B
    cases i.desc<;>simp
   have h0:=y 0 A1;refine⟨f 0,?_,.one (F 0 A1)⟩;simp[loadVar,d];rw[PF]at h0;simp[h0]
theorem yL(A:cm P tb){v:AV}(C:ev L x=some (.one (.iW s cs)))(D:tb.lookup t=some i)(hl:oB i.agg i.size cs=some v)(F:d<E.n)(hk:K ((d,v)::L) h):ar P ⟨some d,.load t x,ty,pos,af,gd⟩ E K L h:=
 bO rfl F (λι I a w r=>by
  have B:=(r.ev C).bi;generalize hc:a.eval x=c at B;cases B with
  | iW J y G=>
   obtain⟨c,h1,h2⟩:=oV A D y (λj H=>(G j H).up) hl;exact⟨c,Rp,h2⟩) hk
theorem OR.cells{I:Nat->Prop}{inf:Inf}(d:OR ι I w inf (.row s es))(hk:es[k]? =some e):
  ∃f:Nat->Value,(∀j,j<(e.drop o).length->w.cell? ⟨inf.block,inf.base+(k*s+o)+j,none⟩=some (f j))/\∀(j:Nat)(h:j<(e.drop o).length),VR I w ι (e.drop o)[j] (f j):=by
 obtain⟨cur,t,h1,h2,C,h4,D,E,A⟩:=d;obtain⟨v,rfl⟩:=gI.1 hk;refine⟨λj=>cur.getD (inf.base+(k*s+o)+j) undef,λj h=> ?_,λj h=> ?_⟩
 all_goals
  simp at h;obtain⟨u,y,F⟩:=A k v (o+j) A0;have B:inf.base+(k*s+(o+j))=inf.base+(k*s+o)+j:=A0
  rw[B]at y
 .simp[World.cell?,h1,y]
 .simp_all
theorem nY(y:cm P tb){v:AV}(F:ev L x=some (.one (.ptr id k o)))(G:tb.lookup t=some i)(ho:h[id]? =some (some (.row s es)))(he:es[k]? =some e)
  (hl:oB i.agg i.size (e.drop o)=some v) (H:d<E.n) (hk:K ((d,v)::L) h):ar P ⟨some d,.load t x,ty,pos,af,gd⟩ E K L h:=
 bO rfl H (λι I a w r=>by
  obtain⟨inf,A,B,C⟩:=r.row ho;have D:=(r.ev F).bi;generalize hc:a.eval x=c at D;cases D with
  | @ptr _ _ _ _ inf' hi=>
   have:inf'=inf:=by rw[A]at hi;cases hi;rfl
   subst this;obtain⟨f,j,J⟩:=B.cells he (o:=o);rw[<-C]at j;obtain⟨c,h1,h2⟩:=oV y G j J hl;exact⟨c,Rp,h2⟩) hk
theorem uz(j:cm P tb)(y:tb.lookup t=some i){sz:Nat}(d:i.fields[f]? =some (off,ft,sz))(A:0<sz)(w:World):
  (Instr.fieldAt t (.pointer (some ⟨b,o,none⟩)) f).run P w= .ok (.pointer (some ⟨b,o+off,none⟩)) w:=by
 obtain⟨inf,h1,h2,D,_,_,_,_,B⟩:=co (j t i y);rw[B]at d;cases hd:i.desc with
 | struct C=>
  rw[hd]at d h2;simp only[P8]at d;cases h:C[f]? with
  |none=>simp[h]at d
  | some fl=>
   simp[h]at d;obtain⟨rfl,rfl,v⟩:=d;have:¬(sz=0):=A0
   simp[Instr.fieldAt,run_underlying h2,h,Instr.sureAddr,fieldPlace,cg v A,this,dC]
 |_=>rw[hd]at d;simp at d
theorem uJ(y:cm P tb){sz:Nat}(C:ev L x=some (.one (.iW s cs)))(D:tb.lookup t=some i)(F:i.fields[f]? =some (off,ft,sz))(G:0<sz)(H:d<E.n)(hk:K ((d,.one (.iW s (cs.drop off)))::L) h):
  ar P ⟨some d,.fieldAddr t x f,ty,pos,af,gd⟩ E K L h:=
 bO rfl H (λι I a w r=>by
  have B:=(r.ev C).bi;generalize hc:a.eval x=c at B;cases B with
  | @iW _ _ b o _ g J v M N=>
   refine⟨.pointer (some ⟨b,o+off,none⟩),by simp[execOp,hc,uz y D F G],.one (.iW (f:=λj=>g (off+j)) J (λj A=> ?_) (λj A=> ?_) N)⟩
   .simp at A;rw[Pk];exact v (off+j) A0
   .simp at A;rw[Px];exact M (off+j) A0) hk
theorem qe(j:cm P tb){sz:Nat}(y:ev L x=some (.one (.ptr id k o)))(A:tb.lookup t=some i)(B:i.fields[f]? =some (off,ft,sz))(C:0<sz)(D:d<E.n)(hk:K ((d,.one (.ptr id k (o+off)))::L) h):
  ar P ⟨some d,.fieldAddr t x f,ty,pos,af,gd⟩ E K L h:=
 bO rfl D (λι I a w r=>by
  have v:=(r.ev y).bi;generalize hc:a.eval x=c at v;cases v with
  | @ptr _ _ _ _ inf hi=>
   exact⟨_,by simp[execOp,hc,uz j A B C,Pk],.one (.ptr hi)⟩) hk
theorem Cu(t:ev L x=some (.one (.ptr id k o)))(v:d<E.n)(hk:K ((d,.one (.ptr id k o))::L) h):ar P ⟨some d,.nilCheck x,ty,pos,af,gd⟩ E K L h:=
 bO rfl v (λι I a w r=>by
  have j:=(r.ev t).bi;generalize hc:a.eval x=c at j;cases j with
  |ptr hi=>exact⟨_,by simp[execOp,hc],.one (.ptr hi)⟩) hk
theorem Bl(v:ev L x=some (.one (.iW s cs)))(y:d<E.n)(hk:K ((d,.one (.iW s cs))::L) h):ar P ⟨some d,.nilCheck x,ty,pos,af,gd⟩ E K L h:=
 bO rfl y (λι I a w r=>by
  have t:=(r.ev v).bi;generalize hc:a.eval x=c at t;cases t with
  |iW A j B C=>exact⟨_,by simp[execOp,hc],.one (.iW A j B C)⟩) hk
theorem tC{j:Nat}{xs:Td AV}{v:AV}(B:ev L x=some (.tup xs))(C:xs[j]? =some v)(D:d<E.n)(hk:K ((d,v)::L) h):ar P ⟨some d,.extract x j,ty,pos,af,gd⟩ E K L h:=
 bO rfl D (λι I a w r=>by
  have A:=r.ev B;generalize hc:a.eval x=c at A;obtain⟨t,rfl⟩:=gI.1 C;cases A with
  |tup hl y F=>exact⟨_,by simp[execOp,hc,Instr.extract,y j t],F j t⟩) hk
theorem KV(G:cm P tb){sz:Nat}{vs:Td V}{D:TyI}{v:AV}(U:ev L x=some (.agg vs))(W:tb.lookup t=some i)(F:i.fields[f]? =some (off,ft,sz))(N:tb.lookup ft=some D)
  (hl:oB D.agg D.size (vs.drop off)=some v) (X:d<E.n) (hk:K ((d,v)::L) h):ar P ⟨some d,.field t x f,ty,pos,af,gd⟩ E K L h:=
 bO     rfl X (fun ι I a w r=>by
  have R:=r.ev U;generalize hc:a.eval x=c at R;obtain⟨inf,h1,h2,h3,_,_,_,_,Y⟩:=co (G t i W);obtain⟨inf',g1,S,g3,_,M,_⟩:=co (G ft D N);rw[Y]at F;cases hd:i.desc with
  | struct Z=>
   rw[hd]at F h2;simp only[P8]at F;cases C:Z[f]? with
   |none=>simp[C]at F
   | some fl=>
    simp[C]at F;obtain⟨rfl,rfl,hsz⟩:=F;cases R with
    | @agg _ cs g hl' H hr=>
     unfold oB at hl;split at hl
     .rename_i A;split at hl
      .rename_i O;cases hl;have y:(isAgg fl.type).run P w= .ok true w:=by
        rw[A]at M;simp[isAgg,run_underlying S]
        revert M
        cases D.desc<;>simp
       refine⟨.agg (cs.extract fl.offset (fl.offset+D.size)),?_,?_⟩
       .simp[execOp,hc,Instr.field,run_underlying h2,C,asAgg,part,y,sizeOf,typeInfo,g1,g3]
       .simp at O;refine .agg (f:=λj=>g (fl.offset+j)) A4 (λj T=> ?_) (λj T=> ?_)
        .simp at T;rw[Array.getElem?_extract];rw[mt A0];exact H _ A0
        .grind
      .cases hl
     .rename_i A;have A:D.agg=false:=by simpa using A
      cases B:vs.drop fl.offset with
      |nil=>simp[B]at hl
      | cons c0 rest=>
       simp[B]at hl;subst hl;have J:fl.offset<vs.length:=by
        rcases Pq fl.offset vs.length with h|h
        .exact h
        .rw[Pt h]at B;cases B
       have y:(isAgg fl.type).run P w= .ok false w:=by
        rw[A]at M;simp[isAgg,run_underlying S]
        revert M
        cases D.desc<;>simp
       have Q:vs[fl.offset]=c0:=by
        have:=Px (xs:=vs) (i:=fl.offset) (j:=0) (h:=A4);simp[B]at this;exact this.symm
       refine⟨g fl.offset,?_,.one (Q▸hr _ J)⟩;simp[execOp,hc,Instr.field,run_underlying h2,C,asAgg,part,y,H _ J]
  |_=>rw[hd]at F;simp at F) hk
theorem cE(w:World){isS:Bool}{len:Nat}{low cK:Y Value}(h:low=none/\lo=0\/low=some (.int kl lo))(d:cK=none/\hi=len\/cK=some (.int kh hi))(h1:lo<=hi)(h2:hi<=cap):
  (Instr.sliceBounds isS len cap low cK none).run P w= .ok (lo,hi,cap) w:=by
 rcases h with⟨rfl,rfl⟩|rfl<;>rcases d with⟨rfl,rfl⟩|rfl<;>simp[Instr.sliceBounds,Instr.sliceBound,asIntOf,h1,h2]
theorem VR.immSub{I:Nat->Prop}{A:Y Addr}(h:VR I w ι (.imm s es) (.slice A es.length cap))(h1:lo<=hi)(h2:hi<=es.length)(C:es.length<=cap):
  VR I w ι (.imm s ((es.take hi).drop lo)) (.slice (if cap=lo then A else A.map (·.add (lo*s))) (hi-lo) (cap-lo)):=by
 have hl:((es.take hi).drop lo).length=hi-lo:=A4
 by_cases he:hi=lo
 .subst he;have v:(es.take hi).drop hi=[]:=nZ (by rw[hl];omega);rw[v,Q9];cases h with
  |eE hc=>exact .eE A0
  |imm hs hc hm t d y=>exact .eE A0
 .cases h with
  |eE hc=>simp at h2;omega
  | @imm _ _ b off _ _ f hs hc hm t d y B=>
   rw[O2 A0];simp only[Pg,dC];rw[<-hl];refine .imm (f:=λk j=>f (lo+k) j) (λe he=>hs e (O6 (PT he))) (by rw[hl];omega) A0 t (λk j h4 D=> ?_) (λk hk j E=> ?_) B
   .grind
   .grind
theorem iv(B:cm P tb){low:Y Operand}{D:ElI}(F:ev L x=some (.one (.imm s es)))(he:du tb t=some D)(hs:D.size=s)(G:0<s)
  (v:low=none/\lo=0\/∃y,low=some y/\ev L y=some (.one (.lit (.int kl lo)))) (j:cK=none/\hi=es.length\/∃y,cK=some y/\ev L y=some (.one (.lit (.int kh hi)))) (h1:lo<=hi) (h2:hi<=es.length) (J:d<E.n)
  (hk:K ((d,.one (.imm s ((es.take hi).drop lo)))::L) h):ar P ⟨some d,.slice t x low cK none,ty,pos,af,gd⟩ E K L h:=
 bO rfl J (λι I a w r=>by
  obtain⟨A,cap,e1,g1,O⟩:=(r.ev F).bi.oE;have H:=(r.ev F).bi;rw[e1]at H;obtain⟨u1,u2,_⟩:=bI B he;have hl:low.map a.eval=none/\lo=0\/low.map a.eval=some (.int kl lo):=by
   rcases v with⟨rfl,rfl⟩|⟨y,rfl,C⟩
   .grind
   .exact .inr (by simp[(r.ev C).lit.1])
  have M:cK.map a.eval=none/\hi=es.length\/cK.map a.eval=some (.int kh hi):=by
   rcases j with⟨rfl,rfl⟩|⟨y,rfl,C⟩
   .grind
   .exact .inr (by simp[(r.ev C).lit.1])
  have N:=cE (P:=P) w (isS:=true) (len:=es.length) (cap:=cap) hl M h1 A0;refine⟨_,?_,.one (H.immSub h1 h2 g1)⟩;simp[execOp,Instr.sliceAt,Instr.slice,e1,run_underlying u1,N,cg u2 A0,hs]) hk
theorem xw(G:cm P tb){low:Y Operand}{len:Nat}{M:ElI}(R:ev L x=some (.one (.own id off len)))(he:du tb t=some M)(ho:h[id]? =some (some (.row s es)))(hs:M.size=s)(N:0<s)
  (C:low=none/\lo=0\/∃y,low=some y/\ev L y=some (.one (.lit (.int kl lo)))) (B:cK=none/\hi=len\/∃y,cK=some y/\ev L y=some (.one (.lit (.int kh hi)))) (h1:lo<=hi) (h2:hi<=len) (S:d<E.n)
  (hk:K ((d,.one (.own id (off+lo) (hi-lo)))::L) h):ar P ⟨some d,.slice t x low cK none,ty,pos,af,gd⟩ E K L h:=
 bO   rfl S (λι I a w r=>by
  obtain⟨inf,j,_,H⟩:=r.row ho;obtain⟨u1,u2,_⟩:=bI G he;have hl:low.map a.eval=none/\lo=0\/low.map a.eval=some (.int kl lo):=by
   rcases C with⟨rfl,rfl⟩|⟨y,rfl,J⟩
   .grind
   .exact .inr (by simp[(r.ev J).lit.1])
  have O:cK.map a.eval=none/\hi=len\/cK.map a.eval=some (.int kh hi):=by
   rcases B with⟨rfl,rfl⟩|⟨y,rfl,J⟩
   .grind
   .exact .inr (by simp[(r.ev J).lit.1])
  have Q:=(r.ev R).bi;generalize hc:a.eval x=c at Q;cases Q with
  | @hU _ _ _ T inf' v A=>
   have:inf'=inf:=by rw[j]at v;cases v;rfl
   subst this;have e1:lo=0:=A0
   have e2:hi=0:=A0
   subst e1 e2;have F:=cE (P:=P) w (isS:=true) (len:=0) (cap:=0) hl O h1 A0;refine⟨.slice (some ⟨inf'.block,T,none⟩) 0 0,?_,.one (.hU (off:=off+0) j A)⟩;simp[execOp,Instr.sliceAt,Instr.slice,hc,run_underlying u1,F,cg u2 A0,hs]
  | @own _ _ _ _ cap inf' v U A hm=>
   have:inf'=inf:=by rw[j]at v;cases v;rfl
   subst this;have F:=cE (P:=P) w (isS:=true) (len:=len) (cap:=cap) hl O h1 A0;by_cases D:cap=lo
   .refine⟨.slice (some ⟨inf'.block,inf'.base+off*inf'.size,none⟩) (hi-lo) (cap-lo),?_,?_⟩
    .subst D;simp[execOp,Instr.sliceAt,Instr.slice,hc,run_underlying u1,F,cg u2 A0,hs]
    .have e1:hi-lo=0:=A0
     have e2:cap-lo=0:=A0
     rw[e1,e2];exact .one (.hU j A0)
   .refine⟨_,?_,.one (.own (off:=off+lo) (len:=hi-lo) (c:=cap-lo) j A0 A0 A0)⟩;simp[execOp,Instr.sliceAt,Instr.slice,hc,run_underlying u1,F,cg u2 A0,hs,D,dC,H,Pn,Pk]) hk
end
end
def VRs(ι:Td Inf)(I:Nat->Prop)(w:World)(vs:Td V)(cs:Td Value):Prop:=cs.length=vs.length/\∀(j:Nat)(d:j<vs.length),∃u,cs[j]? =some u/\VR I w ι vs[j] u
def AV.cells:AV->Y (Td V)
 | .one v=>some [v]
 | .agg vs=>some vs
 |_=>none
section
variable {ι : Td Inf} {I : Nat → Prop} {w : World}
section
variable {c:Value}{a:Td V}{x:Td Value}{s:Nat}{α:Type}{inf:Inf}
theorem VR.plain{v:V}(h:VR I w ι v c):c.oneCell'=true/\c.cells= #[c]:=by
 cases h with
 |lit h=>cases c<;>first|exact h.elim|exact⟨rfl,rfl⟩
 |_=>exact Tb
theorem AR.cells{v:AV}{vs:Td V}(h:AR ι I w v c)(t:v.cells=some vs):VRs ι I w vs c.cells.toList/\c.cells.size=vs.length/\∀u∈c.cells.toList,u.oneCell'=true:=by
 cases h with
 | one h=>
  simp[AV.cells]at t;subst t;rw[h.plain.2];refine⟨⟨rfl,λj y=> ?_⟩,rfl,λu A=> ?_⟩
  .grind
  .simp at A;subst A;exact h.plain.1
 | @agg _ cs f hl d B=>
  simp[AV.cells]at t;subst t;refine⟨⟨by simpa [Value.cells]using hl,λj y=>⟨f j,by simpa [Value.cells]using d j y,B j y⟩⟩,by simpa [Value.cells]using hl,λu A=> ?_⟩;obtain⟨j,y,rfl⟩:=Pw A;simp[Value.cells]at y;have:=d j A0;have e:f j=cs[j]:=by rw[On y]at this;exact(Pf this).symm
  have:=(B j A0).plain.1;rw[e]at this;simpa [Value.cells]using this
 |tup hl d B=>simp[AV.cells]at t
 |dead=>simp[AV.cells]at t
theorem VRs.append{b:Td V}{y:Td Value}(h:VRs ι I w a x)(k:VRs ι I w b y):VRs ι I w (a++b) (x++y):=by
 refine⟨by simp[h.1,k.1],λj t=> ?_⟩;rcases Pq j a.length with d|hge
 .rw[P0 d,aL (by rw[h.1];exact d)];exact h.2 j d
 .simp at t;rw[P1 hge,aR (by rw[h.1];exact hge),h.1];exact k.2 (j-a.length) A0
theorem VRs.take(h:VRs ι I w a x)(n:Nat):VRs ι I w (a.take n) (x.take n):=by
 refine⟨QQ,λj d=> ?_⟩;simp at d;rw[PW,List.getElem?_take,mt A0];exact h.2 j A0
theorem VRs.drop(h:VRs ι I w a x)(n:Nat):VRs ι I w (a.drop n) (x.drop n):=by
 refine⟨QQ,λj d=> ?_⟩;simp at d;rw[Px,Qe];exact h.2 (n+j) A0
theorem VRs.aH{ι':Td Inf}{d:Nat->Prop}{w':World}(t:bj ι ι')(hk:cu I d w w')(h:VRs ι I w a x):VRs ι' d w' a x:=
 ⟨h.1,λj v=>let⟨u,h1,h2⟩:=h.2 j v;⟨u,h1,h2.aH t hk⟩⟩
theorem VRs.lits{zs:Td Value}(h:zs.all da=true):VRs ι I w (zs.map V.lit) zs:=by
 refine⟨A1,λj d=> ?_⟩;simp at d;refine⟨zs[j],O0 d,?_⟩;rw[P5];exact .lit (oL (aT.1 h _ (gM d)))
theorem VRs.nil:VRs ι I w [] []:=⟨rfl,λj d=>QR⟩
theorem VRs.flat{s:Nat}:∀{es:Td (Td V)}{cs:Td (Td Value)},es.length=cs.length->(∀(k:Nat)(h1:k<es.length)(h2:k<cs.length),VRs ι I w es[k] cs[k])->VRs ι I w es.flatten cs.flatten
 |[],[],_,_=>VRs.nil
 |[],_::_,h,_=>F1
 |_::_,[],h,_=>F1
 | e::es,c::cs,h,hk=>by
  simp only[PX];exact(hk 0 A1 A1).append (VRs.flat (s:=s) Ro λk h1 h2=>hk (k+1) Hd Hm)
theorem kF{es:Td (Td α)}(hs:∀e∈es,e.length=s):∀{k j:Nat}(hk:k<es.length)(d:j<es[k].length),∃h:k*s+j<es.flatten.length,es.flatten[k*s+j]=es[k][j]:=by
 induction es with
 |nil=>intro k j hk;simp at hk
 | cons e es t=>
  intro k j hk d;have he:e.length=s:=hs e A1;cases k with
  | zero=>
   simp at d;refine⟨A4,?_⟩;simp[P0 d]
  | succ k=>
   simp at hk d;obtain⟨h1,h2⟩:=t (λx v=>hs x (by simp[v])) (k:=k) (j:=j) hk d;have e1:(k+1)*s+j=s+(k*s+j):=by rw[Pn];omega
   refine⟨by simp only[PX,OJ,he];omega,?_⟩;simp only[PX];rw[P1 (by rw[e1,he];omega)];simp only[e1,he,PY];simpa using h2
theorem cn{es:Td (Td α)}(hs:∀e∈es,e.length=s):es.flatten.length=es.length*s:=by
 induction es with
 |nil=>simp
 |cons e es d=>rw[PX,OJ,hs e A1,d (λx h=>hs x S0),OP,Pn];omega
theorem OR.mk{es:Td (Td V)}{cur:Array Value}{t:TypeId}(h1:w.heap[inf.block]? =some (.cells cur t (0,0)))(h2:inf.size=s)(y:cur.size=inf.base+inf.cap*s)(h4:inf.cap<=9223372036854775807)(A:es.length<=inf.cap)
  (h:∀e∈es,e.length=s) {pr cs rest:Td Value} (hc:cur.toList=pr++(cs++rest)) (hp:pr.length=inf.base) (v:VRs ι I w es.flatten cs):OR ι I w inf (.row s es):=by
 refine⟨cur,t,h1,h2,y,h4,A,h,λk hk j B=> ?_⟩;obtain⟨d,e⟩:=kF h hk B;obtain⟨u,C,D⟩:=v.2 _ d;refine⟨u,?_,e▸D⟩;rw[<-Ql,hc,aR A0,aL (by rw[v.1];omega)];have E:inf.base+(k*s+j)-pr.length=k*s+j:=A0
 rw[E];exact C
theorem OR.flat{es:Td (Td V)}(h:OR ι I w inf (.row s es)):∃cur t pr cs rest,w.heap[inf.block]? =some (.cells cur t (0,0))/\inf.size=s/\cur.size=inf.base+inf.cap*s/\inf.cap<=9223372036854775807/\es.length<=inf.cap/\(∀e∈es,e.length=s)/\
  cur.toList=pr++(cs++rest)/\pr.length=inf.base/\VRs ι I w es.flatten cs/\cs.length=es.length*s:=by
 obtain⟨cur,t,h1,h2,y,h4,A,d,C⟩:=h;have D:es.length*s<=inf.cap*s:=Qp _ A;have bF:cur.toList.length=inf.base+inf.cap*s:=by simp[y]
 refine⟨cur,t,cur.toList.take inf.base,(cur.toList.drop inf.base).take (es.length*s),(cur.toList.drop inf.base).drop (es.length*s),h1,h2,y,h4,A,d,by rw[PB,PB],by rw[Pd];omega,⟨by rw[Pd,Pi,cn d];omega,λj B=> ?_⟩,by rw[Pd,Pi];omega⟩;have v:j<es.length*s:=by rw[cn d]at B;exact B
 have hs:0<s:=by rcases Qd s with h0|h0;(subst h0;simp at v);exact h0
 have hk:j / s<es.length:=Nat.div_lt_of_lt_mul (by rw[QB];exact v);have hm:j%s<es[j / s].length:=by rw[d _ (gM hk)];exact Nat.mod_lt _ hs
 have E:j / s*s+j%s=j:=Rg
 obtain⟨u,F,G⟩:=C (j / s) hk (j%s) hm;obtain⟨_,e⟩:=kF d hk hm;rw[E]at F;refine⟨u,?_,?_⟩
 .grind
 .grind
end
end
section
variable {E : Cx} {L : Env} {h : au} {ι : Td Inf} {I : Nat → Prop} {a : Act} {w : World}
section
variable {w':World}{id:Nat}{inf:Inf}
theorem Rel.same(r:Rel E L h ι I a w)(d:w'.heap=w.heap)(h1:w'.os=w.os)(h2:w'.tape=w.tape)(j:w'.output=w.output):Rel E L h ι I a w':=by
 have hk:cu I I w w':=⟨λ_ h=>h,λb _=>by rw[d]⟩;exact
 { bc:=fun t v A=>let⟨c,x,y⟩:=r.bc t v A;⟨c,x,y.aH (bj.refl _) hk⟩
   heap:=⟨r.heap.len,λid o inf x y=>(r.heap.obj id o inf x y).aH (bj.refl _) hk (by rw[d]),r.heap.off,r.heap.inj,r.heap.sub⟩
   imm:=λb B=>by rw[d];exact r.imm b B
   cw:=r.cw
   pre:=r.pre
   os:=h1.trans r.os
   tape:=h2.trans r.tape
   output:=j.trans r.output
   grown:=by rw[d];exact r.grown
   frame:=λb x y=>by rw[d];exact r.frame b x y
   cA:=r.cA
   defers:=r.defers
   size:=r.size}
theorem Rel.drew(r:Rel E L h ι I a w):Rel E L h ι I a w.drew:=r.same rfl rfl rfl rfl
theorem iZ{α:Type}{l:Td α}{x y:α}(h:(l++[x])[id]? =some y):(id<l.length/\l[id]? =some y)\/(id=l.length/\x=y):=G1
theorem Rel.ry(r:Rel E L h ι I a w)(o:Obj):cu I I w (w.alloc o):=⟨λ_ h=>h,λb d=>by
 have:=r.imm b d;rw[heap_alloc_old w o this]⟩
theorem Rel.new(r:Rel E L h ι I a w)(cur:Array Value)(t:TypeId)(s cap:Nat)(es:Td (Td V))(F:cur.size=cap*s)(h4:cap<=9223372036854775807)(G:es.length<=cap)(H:∀e∈es,e.length=s){cs rest:Td Value}(hc:cur.toList=cs++rest)
  (D:VRs ι I w es.flatten cs):Rel E L (h++[some (.row s es)]) (ι++[⟨w.heap.size,0,cap,s⟩]) I a (w.alloc (.cells cur t)):=by
 have hk:=r.ry (.cells cur t);have C:=bj.app ι [⟨w.heap.size,0,cap,s⟩];have blk:∀(id:Nat)(o:Ob)(inf:Inf),h[id]? =some (some o)->ι[id]? =some inf->inf.block<w.heap.size:=λid o inf x y=>by
  have:=r.heap.obj id o inf x y;cases o with
  |row s es=>exact SH
  |map kvs=>exact SI
 have d:∀(id:Nat)(o:Ob)(inf:Inf),(h++[some (.row s es)])[id]? =some (some o)->(ι++[⟨w.heap.size,0,cap,s⟩])[id]? =some inf->
   (h[id]?=some (some o)/\ι[id]? =some inf/\id<h.length)\/(id=h.length/\o= .row s es/\inf=⟨w.heap.size,0,cap,s⟩):=λid o inf x y=>by
  rcases iZ x with⟨lt,j⟩|⟨rfl,j⟩
  .rcases iZ y with⟨_,A⟩|⟨e,_⟩
   .grind
   .exact T4
  .rcases iZ y with⟨lt,_⟩|⟨_,A⟩
   .exact T4
   .grind
 exact
 { bc    := fun t v D=>let⟨c,x,y⟩:=r.bc t v D;⟨c,x,y.aH C hk⟩
   heap := by
     refine⟨QK,λid o inf x y=> ?_,λid o inf x y=> ?_,λid id' o o' inf inf' x j y A e=> ?_,r.heap.sub⟩
     · rcases d id o inf x y with⟨x,y,_⟩|⟨rfl,rfl,rfl⟩
       · exact(r.heap.obj id o inf x y).aH C hk (heap_alloc_old w _ (blk id o inf x y))
       · exact OR.mk (pr:=[]) (heap_alloc_new w _) rfl Rz h4 G H hc rfl (D.aH C hk)
     · rcases d id o inf x y with⟨x,y,_⟩|⟨rfl,rfl,rfl⟩
       · exact r.heap.off id o inf x y
       · intro B
         have B:I w.heap.size:=B;have:=r.imm _ B;omega
     · rcases d id o inf x y with⟨x,y,l1⟩|⟨rfl,rfl,rfl⟩
       · rcases d id' o' inf' j A with⟨j,A,_⟩|⟨rfl,rfl,rfl⟩
         · exact r.heap.inj id id' o o' inf inf' x j y A e
         · grind
       · grind
   imm:=λb B=>by have:=r.imm b B;simp;omega
   cw:=r.cw
   pre:=r.pre.trans C
   os:=r.os
   tape:=r.tape
   output:=r.output
   grown:=by have:=r.grown;simp;omega
   frame:=λb x y=>QT
   cA:=λid o inf x y=>by
     rcases d id o inf x y with⟨x,y,_⟩|⟨rfl,rfl,rfl⟩
     · exact r.cA id o inf x y
     · exact .inr r.grown
   defers:=r.defers
   size:=r.size}
theorem cD{l:au}{i:Nat}{o:Y Ob}{x:Ob}(h:(l.set id o)[i]? =some (some x)):(i=id/\o=some x/\id<l.length)\/(i≠id/\l[i]? =some (some x)):=G1
theorem Rel.set(r:Rel E L h ι I a w){s s':Nat}{es es':Td (Td V)}{cur:Array Value}{t:TypeId}(ho:h[id]? =some (some (.row s es)))(j:ι[id]? =some inf)(R:w'.heap[inf.block]? =some (.cells cur t (0,0)))
  (d:∀b,b≠inf.block->w'.heap[b]?=w.heap[b]?) (J:w'.os=w.os) (B:w'.tape=w.tape) (C:w'.output=w.output) (D:w'.heap.size=w.heap.size) (h2:inf.size=s') (S:cur.size=inf.base+inf.cap*s') (h4:inf.cap<=9223372036854775807) (T:es'.length<=inf.cap) (U:∀e∈es',e.length=s')
  {pr cs rest:Td Value} (hc:cur.toList=pr++(cs++rest)) (hp:pr.length=inf.base) (K:VRs ι I w es'.flatten cs):Rel E L (h.set id (some (.row s' es'))) ι I a w':=by
 have F:=r.heap.off id _ inf ho j;have hk:cu I I w w':=⟨λ_ h=>h,λb M=>by rw[d b (λe=>F (e▸M))]⟩;exact
 { bc    := fun t v K=>let⟨c,x,y⟩:=r.bc t v K;⟨c,x,y.aH (bj.refl _) hk⟩
   heap := by
     refine⟨QK,λi o f x y=> ?_,λi o f x y=> ?_,λi W o o' f N x Q y O e=> ?_,r.heap.sub⟩
     · rcases cD x with⟨rfl,x,_⟩|⟨A,x⟩
       · cases x
         have:f=inf:=by rw[j]at y;cases y;rfl
         subst this;exact OR.mk R h2 S h4 T U hc hp (K.aH (bj.refl _) hk)
       · exact(r.heap.obj i o f x y).aH (bj.refl _) hk (d _ λe=>A (r.heap.inj i id o _ f inf x ho y j e))
     · rcases cD x with⟨rfl,x,_⟩|⟨A,x⟩
       · grind
       · exact r.heap.off i o f x y
     · rcases cD x with⟨e1,P,_⟩|⟨A,P⟩
       · rcases cD Q with⟨e2,G,_⟩|⟨H,G⟩
         · rw[e1,e2]
         · subst e1;exact r.heap.inj _ _ _ _ f N ho G y O e
       · rcases cD Q with⟨e2,G,_⟩|⟨H,G⟩
         · subst e2;exact r.heap.inj _ _ _ _ f N P ho y O e
         · exact r.heap.inj _ _ _ _ f N P G y O e
   imm:=λb M=>by rw[D];exact r.imm b M
   cw:=r.cw
   pre:=r.pre
   os:=J.trans r.os
   tape:=B.trans r.tape
   output:=C.trans r.output
   grown:=by rw[D];exact r.grown
   frame:=λb x y=>by
     rw[d b (λe=> ?_)]
     · exact r.frame b x y
     · rcases r.cA id _ inf ho j with hp|hp
       · grind
       · omega
   cA:=λi o f x y=>by
     rcases cD x with⟨rfl,x,_⟩|⟨A,x⟩
     · exact r.cA i _ f ho y
     · exact r.cA i o f x y
   defers:=r.defers
   size:=r.size}
theorem Rel.kill(r:Rel E L h ι I a w)(id:Nat):Rel E L (h.set id none) ι I a w:=
 have sub:∀{i:Nat}{o:Ob},(h.set id none)[i]? =some (some o)->h[i]? =some (some o):=λx=>G1
 { r with
   heap:=⟨QK,λi o f x y=>r.heap.obj i o f (sub x) y,λi o f x y=>r.heap.off i o f (sub x) y,λi d o o' f j x t y v e=>r.heap.inj i d o o' f j (sub x) (sub t) y v e,r.heap.sub⟩
   cA:=λi o f x y=>r.cA i o f (sub x) y}
theorem Rel.rename(r:Rel E L h ι I a w){o o':Ob}{inf':Inf}(ho:h[id]? =some (some o))(j:ι[id]? =some inf)(B:inf'.block=inf.block)(K:OR ι I w inf' o'):Rel E L (h.set id none++[some o']) (ι++[inf']) I a w:=by
 have hk:=cu.refl I w;have C:=bj.app ι [inf'];have hl:=(gI.1 ho).1
 have d:∀(i:Nat)(x:Ob)(f:Inf),(h.set id none++[some o'])[i]? =some (some x)->(ι++[inf'])[i]? =some f->
   (h[i]?=some (some x)/\ι[i]? =some f/\i<h.length/\i≠id)\/(i=h.length/\x=o'/\f=inf'):=λi x f p q=>by
  rcases iZ p with⟨lt,D⟩|⟨rfl,D⟩
  .simp at lt;rcases iZ q with⟨_,F⟩|⟨e,_⟩
   .grind
   .exact T4
  .simp at q;rcases iZ q with⟨lt,_⟩|⟨_,F⟩
   .exact T4
   .grind
 exact
 { r with
   bc:=λt v O=>let⟨c,x,y⟩:=r.bc t v O;⟨c,x,y.aH C hk⟩
   heap := by
     refine⟨QK,λi x f p q=> ?_,λi x f p q=> ?_,λi G x H f J p D q F e=> ?_,r.heap.sub⟩
     · rcases d i x f p q with⟨p,q,_⟩|⟨rfl,rfl,rfl⟩
       · exact(r.heap.obj i x f p q).aH C hk rfl
       · exact K.aH C hk rfl
     · rcases d i x f p q with⟨p,q,_⟩|⟨rfl,rfl,rfl⟩
       · exact r.heap.off i x f p q
       · rw[B];exact r.heap.off id _ _ ho j
     · rcases d i x f p q with⟨N,q1,_,ne⟩|⟨e1,e2,e3⟩
       · rcases d G H J D F with⟨M,q2,_,A⟩|⟨e1,e2,e3⟩
         · exact r.heap.inj i G x H f J N M q1 q2 e
         · exact absurd (r.heap.inj i id x _ f _ N ho q1 j (by rw[e,e3,B])) ne
       · rcases d G H J D F with⟨M,q2,_,A⟩|⟨P,Q,R⟩
         · exact absurd (r.heap.inj G id H _ J _ M ho q2 j (by rw[<-e,e3,B])) A
         · rw[e1,P]
   pre:=r.pre.trans C
   cA:=λi x f p q=>by
     rcases d i x f p q with⟨p,q,_⟩|⟨rfl,rfl,rfl⟩
     · exact r.cA i x f p q
     · rw[B];exact r.cA id _ _ ho j}
end
end
def bp:Y Nat->AV->Env->Env
 |some d,v,L=>(d,v)::L
 |none,_,L=>L
def sel(L:Env):Td Nat->Env
 |[]=>[]
 | t::d=>match L.lookup t with
  |some v=>(t,v)::sel L d
  |none=>sel L d
section
variable {L Lg:Env}{j t i:Nat}{P:Program}{ops:Array Oper}{E:Cx}{o:Oper}{h:au}{ch l rd π:Td Nat}{X:Nat->Prop}{val:Nat->AV}{hs:Td au}{p:Nat->Bool}
theorem sel_sub{L':Env}{j:Td Nat}(h:∀t∈j,L'.lookup t=L.lookup t):Sub (sel L j) L':=by
 induction j with
 |nil=>exact aZ _
 | cons t j w=>
  have d:=w λu y=>h u (by simp[y]);simp only[sel];split
  .rename_i v A;exact ag ((h t A1).trans A) d
  .exact d
inductive OT(P:Program)(ops:Array Oper)(E:Cx)(o:Oper)(L:Env)(v:AV)(h h':au):Prop
 |run (hg:o.guard=none) (hr:ar P o E (λL2 h2=>L2=bp o.dst v L/\h2=h') L h):OT P ops E o L v h h'
 |runG {j d:Nat} {p want:Bool} (hg:o.guard=some (j,want)) (hj:bn ops j=some d) (hd:L.lookup d=some (.one (.lit (.bool p)))) (hp:p=want) (hr:ar P o E (λL2 h2=>L2=bp o.dst v L/\h2=h') L h):OT P ops E o L v h h'
 |skip {j d d':Nat} {p want:Bool} (hg:o.guard=some (j,want)) (hj:bn ops j=some d) (hd:L.lookup d=some (.one (.lit (.bool p)))) (hp:p= !want) (hdst:o.dst=some d') (hn:d'<E.n) (hv:v= .tup []) (hh:h'=h):OT P ops E o L v h h'
 |skipU {j d d':Nat} {want:Bool} (hg:o.guard=some (j,want)) (hj:bn ops j=some d) (hd:L.lookup d=some (.tup [])) (hdst:o.dst=some d') (hn:d'<E.n) (hv:v= .tup []) (hh:h'=h):OT P ops E o L v h h'
theorem yD{Lf:Env}(h:L.lookup t=none):(L++Lf).lookup t=Lf.lookup t:=by
 induction L with
 |nil=>rfl
 | cons p L d=>
  obtain⟨k,z⟩:=p;rw[OK]at h;rw[Ph,OK];split
  .grind
  .grind
theorem nN(hs:Sub L Lg)(t:Nat):(L++Lg).lookup t=Lg.lookup t:=by
 cases hl:L.lookup t with
 |some y=>rw[rx hl,hs t y hl]
 |none=>exact yD hl
theorem ue{dst:Y Nat}{v:AV}(hs:Sub L Lg):Sub (bp dst v Lg) (bp dst v L++Lg):=by
 intro t x h;cases dst with
 |none=>show (L++Lg).lookup t=_;rw[nN hs];exact h
 | some d=>
  simp only[bp,Ph,OK]at h ⊢;split
  .grind
  .rename_i e;rw[e]at h;rw[nN hs];exact h
theorem OT.sound{v:AV}{h':au}(O:OT P ops E o L v h h')(hs:Sub L Lg)(ho:ops[i]? =some o){ι:Td Inf}{I:Nat->Prop}{a:Act}{w:World}(r:Rel E Lg h ι I a w)
  {Q:Exit->Act->World->Prop} {K:Act->World->Prop} (hk:∀ι' A y w',Rel E (bp o.dst v Lg) h' ι' A y w'->K y w'):wpOp P ops Q i K a w:=by
 have M:Rel E (L++Lg) h ι I a w:=r.gj (λt x N=>by rw[nN hs]at N;exact N);unfold wpOp;rw[ho];simp only[];cases O with
 | run j D=>
  rw[mt (by simp[Region.wanted,j])];exact S5
 | runG j B hd hp D=>
  have C:=r.yields (ops:=ops) B (hs _ _ hd);rw[mt (by simp[Region.wanted,j,C,hp])];exact S5
 | skip j B hd hp d G H J=>
  have C:=r.yields (ops:=ops) B (hs _ _ hd);rw[O2 (by simp[Region.wanted,j,C,hp]),d];subst H J;rw[d]at hk;exact hk ι I _ w (r.put G AR.none_)
 | skipU j B hd d G H J=>
  have C:=r.yieldsU (ops:=ops) B (hs _ _ hd);rw[O2 (by simp[Region.wanted,j,C]),d];subst H J;rw[d]at hk;exact hk ι I _ w (r.put G AR.none_)
def aG(ops:Array Oper)(val:Nat->AV):Td Nat->Env->Env
 |[],L=>L
 |i::r,L=>aG ops val r (bp (bn ops i) (val i) L)
def cnt(ch:Td Nat)(l:Td Nat):Nat:=l.countP ch.contains
theorem gt(h:ch.contains i=false):cnt ch (i::l)=cnt ch l:=by unfold cnt;rw[List.countP_cons,h];simp
theorem mQ(h:ch.contains i=true):cnt ch (i::l)=cnt ch l+1:=by unfold cnt;rw[List.countP_cons,h];simp
theorem dp(ch a b:Td Nat):cnt ch (a++b)=cnt ch a+cnt ch b:=by simp[cnt]
def dU(o:Oper):Td Nat:=o.after.toList.filterMap λe=>if Region.binds .any e then some e.on else none
def MR:Td Oper->Td Nat->Td Nat
 |[],acc=>acc
 |o::rest,acc=>MR rest (acc++[(dU o).foldl (λm j=>m|||2^j|||acc.getD j 0) 0])
def cO(ops:Array Oper)(j i:Nat):Bool:=((MR ops.toList []).getD i 0).testBit j
def iV(ops:Array Oper)(i j:Nat):Bool:=
 match ops[i]?,ops[j]? with
 |some x,some y=> !x.apart ops y
 |_,_=>true
def cS(f:Nat->Nat->Bool):Td Nat->Bool
 |[]=>true
 |i::r=>r.all (f i)&&cS f r
def lU(ops:Array Oper)(π ch rd:Td Nat):Bool:=
 decide (π.length<=ops.size)&&(List.range ops.size).all π.contains&&π.all (λi=>decide (i<ops.size)&&(((ops[i]?).map dU).getD []).all (λj=>decide (j<ops.size)&&j !=i))&&
 cS (λi j=>i !=j&&(!iV ops i j||cO ops i j)&&(!(ch.contains i&&ch.contains j)||cO ops i j)&&(!(rd.contains i&&ch.contains j)||cO ops i j)&& !(((ops[i]?).map dU).getD []).contains j) π
theorem nb{f:Nat->Nat->Bool}{pre post:Td Nat}(h:cS f (pre++i::post)=true):(∀k∈pre,f k i=true)/\(∀j∈post,f i j=true):=by
 induction pre with
 | nil=>
  simp only[Pm,cS,bA]at h;exact⟨A1,λj d=>aT.1 h.1 j d⟩
 | cons k pre t=>
  simp only[Ph,cS,bA]at h;obtain⟨h1,h2⟩:=t h.2;refine⟨λx v=> ?_,h2⟩;rcases List.mem_cons.1 v with e|e
  .grind
  .exact h1 x e
theorem rG(acc:Td Nat)(j:Nat):∀(l:Td Nat)(m:Nat),(l.foldl (λm k=>m|||2^k|||acc.getD k 0) m).testBit j=true->m.testBit j=true\/∃k∈l,k=j\/(acc.getD k 0).testBit j=true
 |[],m,h=>.inl h
 | k::l,m,h=>by
  rcases rG acc j l _ h with h|⟨x,t,d⟩
  .grind
  .grind
theorem u5{X:Nat->Prop}:∀(l:Td Oper)(done:Td Oper)(acc:Td Nat),acc.length=done.length->
  (∀i o,done[i]? =some o->(∀j∈dU o,X j)->∀j,(acc.getD i 0).testBit j=true->X j)->(∀i o,(done++l)[i]? =some o->X i->∀j∈dU o,X j)->
  ∀i o,(done++l)[i]? =some o->(∀j∈dU o,X j)->∀j,((MR l acc).getD i 0).testBit j=true->X j
 |[],done,acc,_,h,_,i,o,ho,hd,j,v=>h i o (by simpa using ho) hd j v
 | x::l,done,acc,hl,h,C,i,o,ho,hd,j,v=>by
  refine u5 l (done++[x]) (acc++[(dU x).foldl (λm j=>m|||2^j|||acc.getD j 0) 0]) (by simp[hl]) ?_ (by simpa using C) i o (by simpa using ho) hd j v;intro w o' d y B t;rcases Pq w done.length with A|hge
  .rw[aL A]at d;rw[List.getD_eq_getElem?_getD,aL A0,<-List.getD_eq_getElem?_getD]at t;exact h w o' d y B t
  .rw[aR hge]at d;have e:w=done.length:=G1
   subst e;simp at d;subst d;have e2:(acc++[(dU x).foldl (λm j=>m|||2^j|||acc.getD j 0) 0]).getD done.length 0=(dU x).foldl (λm j=>m|||2^j|||acc.getD j 0) 0:=G1
   rw[e2]at t;rcases rG acc B _ _ t with h0|⟨k,hk,D⟩
   .simp at h0
   .grind
theorem fN(d:∀(i:Nat)(o:Oper),ops[i]? =some o->X i->∀j∈dU o,X j)(ho:ops[i]? =some o)(hd:∀j∈dU o,X j)(h:cO ops j i=true):X j:=
 u5 ops.toList [] [] rfl (λi o h=>F1) (λi o h=>d i o Ro) i o (by simpa using ho) hd j h
inductive DR(P:Program)(ops:Array Oper)(E:Cx)(ch rd π:List Nat):List Nat->Env->List au->Env->List au->Prop
 |nil (L:Env) (hs:List au):DR P ops E ch rd π [] L hs L hs
 |pure {i:Nat} {rest:List Nat} {L Lf:Env} {hs hf:List au} {o:Oper} {v:AV} (ho:ops[i]? =some o) (hc:ch.contains i=false) (ht:∀h,OT P ops E o (sel L (o.looksAt ops)) v h h) (k:DR P ops E ch rd π rest (bp o.dst v L) hs Lf hf):DR P ops E ch rd π (i::rest) L hs Lf hf
 | read {i:Nat} {rest:List Nat} {L Lf:Env} {hs hf:List au} {o:Oper} {v:AV} (ho:ops[i]? =some o) (hc:ch.contains i=false) (hr:rd.contains i=true) (ht:∀h∈hs.take (hs.length-cnt ch (π.filter fun j=>cO ops j i)),OT P ops E o (sel L (o.looksAt ops)) v h h)
   (k:DR P ops E ch rd π rest (bp o.dst v L) hs Lf hf):DR P ops E ch rd π (i::rest) L hs Lf hf
 | chain {i:Nat} {rest:List Nat} {L Lf:Env} {h h':au} {hs hf:List au} {o:Oper} {v:AV} (ho:ops[i]? =some o) (hc:ch.contains i=true) (ht:OT P ops E o (sel L (o.looksAt ops)) v h h') (k:DR P ops E ch rd π rest (bp o.dst v L) (h'::h::hs) Lf hf):
   DR P ops E ch rd π (i::rest) L (h::hs) Lf hf
def Fu(P:Program)(ops:Array Oper)(E:Cx)(ch rd π:Td Nat)(d:Td au)(c:Nat)(L:Env)(v:AV)(i:Nat):Prop:=
 ∃ o, ops[i]? =some o/\
  ((ch.contains i=true/\∃h h',d[c]? =some h/\d[c+1]? =some h'/\OT P ops E o (sel L (o.looksAt ops)) v h h')\/
   (ch.contains i=false/\rd.contains i=true/\∀c' h,cnt ch (π.filter λj=>cO ops j i)<=c'->c'<=c->d[c']? =some h->OT P ops E o (sel L (o.looksAt ops)) v h h)\/
   (ch.contains i=false/\∀h,OT P ops E o (sel L (o.looksAt ops)) v h h))
theorem bT{ops:Array Oper}{val d:Nat->AV}:∀{l:Td Nat}{L:Env},(∀i∈l,val i=d i)->aG ops val l L=aG ops d l L
 |[],_,_=>rfl
 | i::l,L,h=>by
  simp only[aG];rw[h i A1];exact bT λj t=>h j RG
theorem DR.spec{σ:Td Nat}{Lf:Env}{G:Td au}(d:DR P ops E ch rd π σ L hs Lf G)(w:cS (λi j=>i !=j) σ=true)(F:hs≠[]):
  ∃val:Nat->AV,Lf=aG ops val σ L/\(∃D,G=D++hs/\D.length=cnt ch σ)/\∀pre i post,σ=pre++i::post->Fu P ops E ch rd π G.reverse (hs.length-1+cnt ch pre) (aG ops val pre L) (val i) i:=by
 induction d with
 |nil L hs=>exact⟨λ_=>.dead,rfl,⟨[],rfl,rfl⟩,λpre i post e=>by simp at e⟩
 | @pure i rest L Lf hs G o v ho hc H k I=>
  simp only[cS,bA]at w;obtain⟨val,h1,⟨D,h2,B⟩,J⟩:=I w.2 F;have t:∀j∈rest,j≠i:=λj y e=>HW
  refine⟨λj=>if j=i then v else val j,?_,⟨D,h2,by rw[B,gt hc]⟩,λpre j post e=> ?_⟩
  .simp only[aG,if_true];rw[h1];have:bn ops i=o.dst:=QN
   exact SZ
  .cases pre with
   | nil=>
    simp at e;obtain⟨rfl,_⟩:=e;exact⟨o,ho,.inr (.inr ⟨hc,by simpa [aG]using H⟩)⟩
   | cons x pre=>
    simp at e;obtain⟨rfl,e⟩:=e;have A:j∈rest:=QJ
    have:=J pre j post e;have e1:cnt ch (i::pre)=cnt ch pre:=gt hc;have e2:aG ops (λj=>if j=i then v else val j) (i::pre) L=aG ops val pre (bp o.dst v L):=by
     simp only[aG,if_true];have:bn ops i=o.dst:=QN
     exact T0
    exact Sk
 | @read i rest L Lf hs G o v ho hc K H k I=>
  simp only[cS,bA]at w;obtain⟨val,h1,⟨D,h2,B⟩,J⟩:=I w.2 F;have t:∀j∈rest,j≠i:=λj y e=>HW
  refine⟨λj=>if j=i then v else val j,?_,⟨D,h2,by rw[B,gt hc]⟩,λpre j post e=> ?_⟩
  .simp only[aG,if_true];rw[h1];have:bn ops i=o.dst:=QN
   exact SZ
  .cases pre with
   | nil=>
    simp at e;obtain⟨rfl,_⟩:=e;refine⟨o,ho,.inr (.inl ⟨hc,K,λc' h N M C=> ?_⟩)⟩;simp only[aG,if_true];refine H h ?_;simp[cnt]at M;rw[h2,List.reverse_append]at C;have hp:0<hs.length:=List.length_pos_iff.2 F;rw[aL A4,Qk A0]at C;rw[List.mem_take_iff_getElem];obtain⟨O,e⟩:=gI.1 C;exact⟨hs.length-1-c',A0,e⟩
   | cons x pre=>
    simp at e;obtain⟨rfl,e⟩:=e;have A:j∈rest:=QJ
    have:=J pre j post e;have e1:cnt ch (i::pre)=cnt ch pre:=gt hc;have e2:aG ops (λj=>if j=i then v else val j) (i::pre) L=aG ops val pre (bp o.dst v L):=by
     simp only[aG,if_true];have:bn ops i=o.dst:=QN
     exact T0
    exact Sk
 | @chain i rest L Lf h h' hs G o v ho hc H k I=>
  simp only[cS,bA]at w;obtain⟨val,h1,⟨D,h2,B⟩,J⟩:=I w.2 A1;have t:∀j∈rest,j≠i:=λj y e=>HW
  refine⟨λj=>if j=i then v else val j,?_,⟨D++[h'],by rw[h2];simp,by rw[mQ hc];simp[B]⟩,λpre j post e=> ?_⟩
  .simp only[aG,if_true];rw[h1];have:bn ops i=o.dst:=QN
   exact SZ
  .cases pre with
   | nil=>
    simp at e;obtain⟨rfl,_⟩:=e;refine⟨o,ho,.inl ⟨hc,h,h',?_,?_,by simpa [aG]using H⟩⟩
    .rw[h2];simp[cnt]
    .rw[h2];simp[cnt]
   | cons x pre=>
    simp at e;obtain⟨rfl,e⟩:=e;have A:j∈rest:=QJ
    have:=J pre j post e;have e1:(h::hs).length-1+cnt ch (i::pre)=(h'::h::hs).length-1+cnt ch pre:=by rw[mQ hc];simp;omega
    have e2:aG ops (λj=>if j=i then v else val j) (i::pre) L=aG ops val pre (bp o.dst v L):=by
     simp only[aG,if_true];have:bn ops i=o.dst:=QN
     exact T0
    exact Sk
def aU(ops:Array Oper)(t:Nat)(i:Nat):Bool:=bn ops i==some t
theorem bG(ops:Array Oper)(val:Nat->AV)(t:Nat):∀(l:Td Nat)(L L':Env),L.lookup t=L'.lookup t->(aG ops val l L).lookup t=(aG ops val (l.filter (aU ops t)) L').lookup t
 |[],L,L',h=>h
 | i::l,L,L',h=>by
  simp only[aG,P2];cases j:bn ops i with
  | none=>
   have:aU ops t i=false:=by simp[aU,j]
   rw[this];exact bG ops val t l _ L' h
  | some d=>
   by_cases e:d=t
   .subst e;have:aU ops d i=true:=by simp[aU,j]
    exact Sx
   .have:aU ops t i=false:=by simp[aU,j,e]
    rw[this];refine bG ops val t l _ L' ?_;simp only[bp,OK];have v:(t==d)=false:=by simpa using λx=>e x.symm
    rw[v];exact h
theorem dy{d:Td Nat}(h:l.filter (aU ops t)=d.filter (aU ops t)):(aG ops val l L).lookup t=(aG ops val d L).lookup t:=by
 rw[bG ops val t l L L rfl,bG ops val t d L L rfl,h]
theorem fE(ops:Array Oper)(val:Nat->AV):∀(a b:Td Nat)(L:Env),aG ops val (a++b) L=aG ops val b (aG ops val a L)
 |[],_,_=>rfl
 |_::a,b,_=>fE ops val a b _
theorem cC{x y:Oper}(t:ops[i]? =some x)(v:ops[j]? =some y)(h:iV ops i j=false):(∀d,x.dst=some d->d∉y.looksAt ops/\y.dst≠some d)/\(∀d,y.dst=some d->d∉x.looksAt ops):=by
 simp only[iV,t,v,Bool.not_eq_false']at h;obtain⟨h1,h2,w⟩:=Oper.apart_spec h;exact⟨λd hd=>⟨h1 d hd,h2 d hd⟩,w⟩
theorem dd{α:Type}{p q:α->Bool}{l:Td α}(h:∀x∈l,p x=true->q x=false):(l.filter p).filter q=[]:=by
 rw[List.filter_eq_nil_iff];intro x d;obtain⟨h1,h2⟩:=List.mem_filter.1 d;simp[h x h1 h2]
theorem fw{q:Nat->Bool}(h:∀x∈l,p x=true->q x=true):cnt ch (l.filter p)<=cnt ch (l.filter q):=by
 unfold cnt;rw[List.countP_filter,List.countP_filter];exact List.countP_mono_left λx d j=>G1
theorem fp(h:∀x∈l,p x=true->ch.contains x=false):cnt ch (l.filter p)=0:=by
 unfold cnt;rw[List.countP_eq_zero];intro x d;obtain⟨h1,h2⟩:=List.mem_filter.1 d;simp only[h x h1 h2]
 decide
theorem mc(h:∀x∈l,ch.contains x=true->p x=true):cnt ch (l.filter p)=cnt ch l:=by
 unfold cnt;rw[List.countP_filter];apply List.countP_congr;intro x d;constructor
 .grind
 .grind
structure Plan(ops:Array Oper)(π ch rd:List Nat):Prop where
 len:π.length<=ops.size
 all:∀i,i<ops.size->i∈π
 lt:∀i∈π,i<ops.size
 edge:∀i∈π,∀(o:Oper),ops[i]?=some o->∀j∈dU o,j<ops.size/\j≠i
 nd:cS (λi j=>i !=j) π=true
 pair:∀pre i post,π=pre++i::post->∀j∈post,i≠j/\(iV ops i j=true->cO ops i j=true)/\(ch.contains i=true->ch.contains j=true->cO ops i j=true)/\(rd.contains i=true->ch.contains j=true->cO ops i j=true)/\∀(o:Oper),ops[i]? =some o->j∉dU o
theorem lF(hp:lU ops π ch rd=true):Plan ops π ch rd:=by
 simp only[lU,bA]at hp;obtain⟨⟨⟨bF,h⟩,v⟩,d⟩:=hp;refine⟨by simpa using bF,λi hi=> ?_,λi hi=> ?_,λi hi o ho j t=> ?_,?_,λpre i post e j t=> ?_⟩
 .simp_all
 .grind
 .grind
 .clear h v bF
  induction π with
  |nil=>rfl
  | cons x l y=>
   exact S9
 .exact S2
theorem Cp{Q:Exit->Env->au->Prop}{Lf:Env}{hl:au}{id:Nat}(hm:P.follows .mixedOrders=true)(π ch rd:Td Nat)(hp:lU ops π ch rd=true)
  (d:DR P ops E ch rd π π L [h] Lf (hl::hs)) (hq:Q .normal Lf hl):aw P (.region id ops true) E Q L h:=by
 refine⟨λι I a w r=> ?_⟩;have T:=lF hp;obtain⟨val,hLf,⟨nw,hnw,hnwl⟩,hkn⟩:=d.spec T.nd A1;have hrev:(hl::hs).length=cnt ch π+1:=RB
 have Z:(hl::hs).reverse[cnt ch π]? =some hl:=by
  rw[Qk A0];have:(hl::hs).length-1-cnt ch π=0:=A0
  rw[this];rfl
 have U:(hl::hs).reverse[0]? =some h:=by rw[hnw];simp
 have hHlen:(hl::hs).reverse.length=cnt ch π+1:=by rw[List.length_reverse];exact hrev
 obtain⟨H,hH⟩:∃H,H=(hl::hs).reverse:=⟨_,rfl⟩;rw[<-hH]at hkn Z U hHlen;simp only[PP,Q9,Pp]at hkn;refine wp_region_any hm ?_;have getF:∀(v:Array Bool)(i:Nat),v.size=ops.size->i<ops.size->v.getD i true=v.getD i false:=λv i A hi=>by
  simp[Array.getD,A,hi]
 have V:∀(v:Array Bool)(i:Nat),v.size=ops.size->i∈Region.ready .any ops v->i<ops.size/\v.getD i false=false/\∀(o:Oper),ops[i]? =some o->∀j∈dU o,v.getD j false=true:=λv i A hi=>by
  unfold Region.ready at hi;obtain⟨h1,h2⟩:=List.mem_filter.1 hi;have h1:=List.mem_range.1 h1;simp only[bA,Pj]at h2;refine⟨h1,by rw[<-getF v i A h1];exact h2.1,λo ho j C=> ?_⟩;rw[ho]at h2;simp only[Pg,PN]at h2;unfold dU at C;obtain⟨ed,hed,hif⟩:=List.mem_filterMap.1 C;split at hif
  .exact Sn
  .cases hif
 have readyE:∀(v:Array Bool)(i:Nat)(o:Oper),v.size=ops.size->ops[i]? =some o->v.getD i false=false->(∀j∈dU o,v.getD j false=true)->i∈Region.ready .any ops v:=λv i o A ho K hd=>by
  have Y:=(Array.getElem?_eq_some_iff.1 ho).1;unfold Region.ready;refine List.mem_filter.2 ⟨List.mem_range.2 Y,?_⟩;rw[getF v i A Y,K,ho];simp only[OS,O7,Pg,PN];rw[Array.all_eq_true'];intro ed hed;cases hb:Region.binds .any ed with
  |false=>simp
  | true=>
   simp only[O4,Bool.false_or];exact hd ed.on QL
 have fin:∀(v:Array Bool) (a:Act) (w:World) (ι:Td Inf) (I:Nat->Prop) (hc:au),v.size=ops.size->
   H[cnt ch (π.filter λi=>v.getD i false)]? =some hc->Rel E (aG ops val (π.filter λi=>v.getD i false) L) hc ι I a w->Region.ready .any ops v=[]->qQ E Q .normal a w:=by
  intro v a w ι I hc A B r hready;have hallX:∀(n:Nat) (pre post:Td Nat),pre.length=n->π=pre++post->∀i∈pre,v.getD i false=true:=by
   intro n
   induction n with
   |zero=>intro pre post hl0 _ i hi;rw[nZ hl0]at hi;simp at hi
   | succ n ih=>
    intro pre' post hl0 e i hi;obtain⟨pre,x,rfl⟩:∃pre x,pre'=pre++[x]:=by
     rcases Q4 pre' with h0|⟨l,x,h0⟩
     .subst h0;simp at hl0
     .exact⟨l,x,by simpa using h0⟩
    have e':π=pre++x::post:=QJ
    have hpre:=ih pre (x::post) RI e';rcases List.mem_append.1 hi with hi|hi
    .exact hpre i hi
    .simp at hi;subst hi;have W:i∈π:=by rw[e'];simp
     have hxlt:=T.lt i W;cases K:v.getD i false with
     |true=>rfl
     | false=>
      exfalso;have ho:=On hxlt;have:i∈Region.ready .any ops v:=readyE v i _ A ho K λj C=>by
       obtain⟨j1,j2⟩:=T.edge i W _ ho j C;have hjm:=T.all j j1;rw[e']at hjm;rcases List.mem_append.1 hjm with hjm|hjm
       .exact hpre j hjm
       .rcases List.mem_cons.1 hjm with hjm|hjm
        .exact absurd hjm j2
        .exact absurd C ((T.pair pre i post e' j hjm).2.2.2.2 _ ho)
      rw[hready]at this;cases this
  have e:π.filter (λi=>v.getD i false)=π:=List.filter_eq_self.2 (hallX π.length π [] rfl A1);rw[e]at B r;rw[Z]at B;cases B;exact⟨Lf,hl,ι,I,hq,RQ⟩
 have key:∀(eI:Nat) (v:Array Bool) (a:Act) (w:World) (ι:Td Inf) (I:Nat->Prop) (hc:au),v.size=ops.size->
   (∀(i:Nat)(o:Oper),ops[i]?=some o->v.getD i false=true->∀j∈dU o,v.getD j false=true)->
   H[cnt ch (π.filter λi=>v.getD i false)]? =some hc->
   (π.filter λi=> !v.getD i false).length<=eI->
   Rel E (aG ops val (π.filter λi=>v.getD i false) L) hc ι I a w->wpAny P .any ops (qQ E Q) eI v a w:=by
  intro eI
  induction eI with
  | zero=>
   intro v a w ι I hc A hcl B hfu r;have hnil:Region.ready .any ops v=[]:=by
    cases hr:Region.ready .any ops v with
    |nil=>rfl
    | cons i l=>
     exfalso;obtain⟨h1,h2,_⟩:=V v i A (by rw[hr];simp);have:i∈π.filter λi=> !v.getD i false:=List.mem_filter.2 ⟨T.all i h1,by rw[h2];rfl⟩;have:=Qg this;omega
   exact⟨hnil,fin v a w ι I hc A B r hnil⟩
  | succ eI ih=>
   intro v a w ι I hc A hcl B hfu r;refine⟨fin v a w ι I hc A B r,λi hi=> ?_⟩;obtain⟨Y,K,hdirs⟩:=V v i A hi;have ho:=On Y;have W:=T.all i Y;obtain⟨pre,post,e⟩:=P9 W;have befX:∀{j},cO ops j i=true->v.getD j false=true:=λhb=>fN (X:=λj=>v.getD j false=true) hcl ho (hdirs _ ho) hb
   have noB:∀{j},v.getD j false=true->cO ops i j=true->False:=λ{j} C hb=>by
    rcases Pq j ops.size with hjl|hjl
    .have D:=On hjl;have:=fN (X:=λj=>v.getD j false=true) hcl D (hcl j _ D C) hb;rw[K]at this;cases this
    .rw[Pa,Pu A0]at C;cases C
   have G:∀k∈pre,k≠i/\(iV ops k i=true->cO ops k i=true)/\(ch.contains k=true->ch.contains i=true->cO ops k i=true):=λk hk=>by
    obtain⟨p1,p2,e2⟩:=P9 hk;have:=T.pair p1 k (p2++i::post) Rj i A1;exact SX
   have y:=T.pair pre i post e
   -- the filters
   have fX:π.filter (λi=>v.getD i false)=pre.filter (λi=>v.getD i false)++post.filter (λi=>v.getD i false):=by
    rw[e,OU,P2,K];simp
   have F:∀j,(v.setIfInBounds i true).getD j false=if j=i then true else v.getD j false:=λj=>by
    rw[Pa,Pa];by_cases ej:j=i
    .subst ej;simp[A,Y]
    .rw[Qb (λx=>ej x.symm),O2 ej]
   have fX':π.filter (λj=>(v.setIfInBounds i true).getD j false)=pre.filter (λi=>v.getD i false)++i::post.filter (λi=>v.getD i false):=by
    rw[e,OU,P2];have a1:pre.filter (λj=>(v.setIfInBounds i true).getD j false)=pre.filter (λi=>v.getD i false):=OZ λk hk=>by rw[F,O2 (G k hk).1]
    have a2:post.filter (λj=>(v.setIfInBounds i true).getD j false)=post.filter (λi=>v.getD i false):=OZ λk hk=>by rw[F,O2 (λx=>(y k hk).1 x.symm)]
    rw[a1,a2,F,mt rfl];simp
   have cX:cnt ch (π.filter λi=>v.getD i false)=cnt ch (pre.filter λi=>v.getD i false)+cnt ch (post.filter λi=>v.getD i false):=by rw[fX,dp]
   obtain⟨o,M,hk⟩:=hkn pre i post e;have eo:o=ops[i]:=by rw[ho]at M;cases M;rfl
   -- the N sees what it saw
   have hsel:Sub (sel (aG ops val pre L) (o.looksAt ops)) (aG ops val (π.filter λi=>v.getD i false) L):=sel_sub λt ht=>by
    refine dy ?_;rw[fX,OU];have b1:(post.filter λi=>v.getD i false).filter (aU ops t)=[]:=dd λj C O=>by
     cases hw:aU ops t j with
     |false=>rfl
     | true=>
      exfalso;have hjl:=T.lt j RX;have D:=On hjl;have hdj:ops[j].dst=some t:=Rk
      cases J:iV ops i j with
      |true=>exact noB O ((y j C).2.1 J)
      |false=>exact(cC M D J).2 t hdj ht
    have b2:(pre.filter λi=>v.getD i false).filter (aU ops t)=pre.filter (aU ops t):=by
     rw[QA];refine OZ λk hk=> ?_;cases hw:aU ops t k with
     |false=>simp
     | true=>
      simp only[O7];have hkl:=T.lt k RR;have hok:=On hkl;have hdk:ops[k].dst=some t:=Rb
      cases J:iV ops k i with
      |true=>exact befX ((G k hk).2.1 J)
      |false=>exact absurd ht ((cC hok M J).1 t hdk).1
    rw[b1,b2,OO]
   -- what stands behind it
   have hsub:Sub (aG ops val (π.filter λj=>(v.setIfInBounds i true).getD j false) L) (bp o.dst (val i) (aG ops val (π.filter λi=>v.getD i false) L)):=λt x hx=>by
    rw[fX']at hx;have hgs:bn ops i=o.dst:=by simp[bn,M]
    by_cases hd:o.dst=some t
    .rw [hd];simp only[bp,OK,beq_self_eq_true];rw[fE]at hx;simp only[aG]at hx;rw[hgs,hd]at hx;have b1:(post.filter λi=>v.getD i false).filter (aU ops t)=[]:=dd λj C O=>by
      cases hw:aU ops t j with
      |false=>rfl
      | true=>
       exfalso;have hjl:=T.lt j RX;have D:=On hjl;have hdj:ops[j].dst=some t:=Rk
       cases J:iV ops i j with
       |true=>exact noB O ((y j C).2.1 J)
       |false=>exact((cC M D J).1 t hd).2 hdj
     rw[bG ops val t _ _ _ rfl,b1]at hx;simpa [aG,bp]using hx
    .have hw:aU ops t i=false:=RY
     have e1:(aG ops val (pre.filter (λi=>v.getD i false)++i::post.filter (λi=>v.getD i false)) L).lookup t=(aG ops val (π.filter λi=>v.getD i false) L).lookup t:=by
      refine dy ?_;rw[fX,OU,OU,P2,hw];simp
     rw[e1]at hx;cases hdd:o.dst with
     |none=>exact hx
     | some d=>
      simp only[bp,OK];have:(t==d)=false:=QS
      rw[this];exact hx
   have next:∀hc',H[cnt ch (π.filter λj=>(v.setIfInBounds i true).getD j false)]? =some hc'->OT P ops E o (sel (aG ops val pre L) (o.looksAt ops)) (val i) hc hc'->wpOp P ops (qQ E Q) i (wpAny P .any ops (qQ E Q) eI (v.setIfInBounds i true)) a w:=by
    intro hc' hcH' R;refine R.sound hsel M r λι' I' a' w' r'=> ?_;refine ih _ a' w' ι' I' hc' RT (λj oj D C k hkd=> ?_) hcH' ?_ (r'.gj hsub)
    .rw [F]at C ⊢;by_cases ek:k=i
     .rw[mt ek]
     .rw[O2 ek];by_cases ej:j=i
      .subst ej;exact hdirs oj D k hkd
      .rw[O2 ej]at C;exact hcl j oj D C k hkd
    .have hsplit:(π.filter λj=> !(v.setIfInBounds i true).getD j false).length+1=(π.filter λj=> !v.getD j false).length:=by
      rw[e,OU,OU,P2,P2,K,F,mt rfl];have a1:pre.filter (λj=> !(v.setIfInBounds i true).getD j false)=pre.filter (λi=> !v.getD i false):=OZ λk hk=>by rw[F,O2 (G k hk).1]
      have a2:post.filter (λj=> !(v.setIfInBounds i true).getD j false)=post.filter (λi=> !v.getD i false):=OZ λk hk=>by rw[F,O2 (λx=>(y k hk).1 x.symm)]
      rw[a1,a2];simp;omega
     omega
   rcases hk with⟨S,h1,h2,g1,g2,R⟩|⟨S,hrd,R⟩|⟨S,R⟩
   ·-- a chain N
    have c1:cnt ch (pre.filter λi=>v.getD i false)=cnt ch pre:=mc λk hk hkc=>befX ((G k hk).2.2 hkc S);have c2:cnt ch (post.filter λi=>v.getD i false)=0:=fp λj C O=>by
     cases hcj:ch.contains j with
     |false=>rfl
     |true=>exact(noB O ((y j C).2.2.1 S hcj)).elim
    have ehc:h1=hc:=by rw[cX,c1,c2,PF,g1]at B;cases B;rfl
    subst ehc;refine next h2 ?_ R
    rw[fX',dp,mQ S,c1,c2];exact g2
   ·-- a reader
    have c2:cnt ch (post.filter λi=>v.getD i false)=0:=fp λj C O=>by
     cases hcj:ch.contains j with
     |false=>rfl
     |true=>exact(noB O ((y j C).2.2.2.1 hrd hcj)).elim
    have c1:cnt ch (pre.filter λi=>v.getD i false)<=cnt ch pre:=by
     have:=fw (ch:=ch) (l:=pre) (p:=λi=>v.getD i false) (q:=λ_=>true) (λ_ _ _=>rfl)
     rwa [List.filter_eq_self.2 (λ_ _=>rfl)]at this
    have c0:cnt ch (π.filter λj=>cO ops j i)<=cnt ch (π.filter λi=>v.getD i false):=fw λj _ hb=>befX hb;refine next hc ?_ (R _ hc c0 RJ B)
    rw[fX',dp,gt S,<-cX];exact B
   .refine next hc ?_ (R hc)
    rw[fX',dp,gt S,<-cX];exact B
 have e0:π.filter (λi=>(Array.replicate ops.size false).getD i false)=[]:=by
  rw[List.filter_eq_nil_iff];intro i hi;simp[Array.getD,T.lt i hi]
 refine key ops.size (Array.replicate ops.size false) a _ ι I h A1 (λi o ho hi=> ?_) (by rw[e0];exact U) ?_ (by rw[e0];exact r.same rfl rfl rfl rfl)
 .have:=(Array.getElem?_eq_some_iff.1 ho).1;simp[Array.getD,this]at hi
 .exact P3 (List.length_filter_le _ _) T.len
structure dq(P:Program)(ops:Array Oper)(E:Cx)(π σ:List Nat)(L:Env)(h:au)(K:Env->au->Prop):Prop where
 get:∃Lf,DR P ops E [] π π σ L [h] Lf [h]/\K Lf h
structure dw(P:Program)(ops:Array Oper)(E:Cx)(ch rd π σ:List Nat)(L:Env)(hs:List au)(K:Env->au->Prop):Prop where
 get:∃Lf hl hs',DR P ops E ch rd π σ L hs Lf (hl::hs')/\K Lf hl
end
section
variable {P : Program} {E : Cx} {Q : Exit → Env → au → Prop} {K : Env → au → Prop} {L : Env} {h : au} {hs : Td au} {ops : Array Oper} {π σ ch rd : Td Nat} {i : Nat} {o : Oper} {v : AV}
theorem sF{id:Nat}(hm:P.follows .mixedOrders=true)(π:Td Nat)(hp:lU ops π [] π=true)(d:dq P ops E π π L h (Q .normal)):aw P (.region id ops true) E Q L h:=by
 obtain⟨Lf,d,k⟩:=d.get;exact Cp hm π [] π hp d k
theorem dz{id:Nat}(hm:P.follows .mixedOrders=true)(π ch rd:Td Nat)(hp:lU ops π ch rd=true)(d:dw P ops E ch rd π π L [h] (Q .normal)):aw P (.region id ops true) E Q L h:=by
 obtain⟨Lf,hl,j,d,k⟩:=d.get;exact Cp hm π ch rd hp d k
theorem NN(k:K L h):dq P ops E π [] L h K:=⟨L,.nil _ _,k⟩
theorem Hz(ho:ops[i]? =some o)(hi:π.contains i=true)(t:OT P ops E o (sel L (o.looksAt ops)) v h h)(k:dq P ops E π σ (bp o.dst v L) h K):dq P ops E π (i::σ) L h K:=by
 obtain⟨Lf,d,k⟩:=k.get;refine⟨Lf,.read ho rfl hi (λh' j=> ?_) d,k⟩;have:=O6 j;simp at this;subst this;exact t
theorem vN(ho:ops[i]? =some o)(hi:π.contains i=true)(d:o.guard=none)(j:ar P o E (λt h2=>t=bp o.dst v (sel L (o.looksAt ops))/\h2=h) (sel L (o.looksAt ops)) h)(k:dq P ops E π σ (bp o.dst v L) h K):dq P ops E π (i::σ) L h K:=
 Hz ho hi (.run d j) k
theorem oQ{j d:Nat}{p t:Bool}(ho:ops[i]? =some o)(hi:π.contains i=true)(w:o.guard=some (j,t))(y:bn ops j=some d)(hd:(sel L (o.looksAt ops)).lookup d=some (.one (.lit (.bool p))))(hp:p=t)
  (A:ar P o E (λB h2=>B=bp o.dst v (sel L (o.looksAt ops))/\h2=h) (sel L (o.looksAt ops)) h) (k:dq P ops E π σ (bp o.dst v L) h K):dq P ops E π (i::σ) L h K:=
 Hz ho hi (.runG w y hd hp A) k
theorem Jd{j d w:Nat}{p t:Bool}(ho:ops[i]? =some o)(hi:π.contains i=true)(y:o.guard=some (j,t))(A:bn ops j=some d)(hd:(sel L (o.looksAt ops)).lookup d=some (.one (.lit (.bool p))))(hp:p= !t)(v:o.dst=some w)(B:w<E.n)
  (k:dq P ops E π σ ((w,.tup [])::L) h K):dq P ops E π (i::σ) L h K:=
 Hz ho hi (.skip y A hd hp v B rfl rfl) (by rw[v];exact k)
theorem dQ(k:K L h):dw P ops E ch rd π [] L (h::hs) K:=⟨L,h,hs,.nil _ _,k⟩
theorem kM(ho:ops[i]? =some o)(hc:ch.contains i=false)(t:o.guard=none)(w:∀h,ar P o E (λy h2=>y=bp o.dst v (sel L (o.looksAt ops))/\h2=h) (sel L (o.looksAt ops)) h)(k:dw P ops E ch rd π σ (bp o.dst v L) hs K):dw P ops E ch rd π (i::σ) L hs K:=by
 obtain⟨Lf,hl,j,d,k⟩:=k.get;exact⟨Lf,hl,j,.pure ho hc (λh=>.run t (w h)) d,k⟩
theorem bK(ho:ops[i]? =some o)(hc:ch.contains i=false)(t:rd.contains i=true)(y:o.guard=none)
  (A:∀h∈hs.take (hs.length-cnt ch (π.filter λj=>cO ops j i)),ar P o E (λB h2=>B=bp o.dst v (sel L (o.looksAt ops))/\h2=h) (sel L (o.looksAt ops)) h) (k:dw P ops E ch rd π σ (bp o.dst v L) hs K):dw P ops E ch rd π (i::σ) L hs K:=by
 obtain⟨Lf,hl,w,d,k⟩:=k.get;exact⟨Lf,hl,w,.read ho hc t (λh C=>.run y (A h C)) d,k⟩
theorem aS{h':au}(ho:ops[i]? =some o)(hc:ch.contains i=true)(t:o.guard=none)(w:ar P o E (λy h2=>y=bp o.dst v (sel L (o.looksAt ops))/\h2=h') (sel L (o.looksAt ops)) h)(k:dw P ops E ch rd π σ (bp o.dst v L) (h'::h::hs) K):
  dw P ops E ch rd π (i::σ) L (h::hs) K:=by
 obtain⟨Lf,hl,j,d,k⟩:=k.get;exact⟨Lf,hl,j,.chain ho hc (.run t w) d,k⟩
end
section
variable {P : Program} {E : Cx} {K : Env → au → Prop} {L : Env} {h h' : au} {d : Nat} {ty : TypeId} {pos : String} {af : Array Edge} {gd : Y (Nat × Bool)} {tb : Tbl} {o : Oper}
theorem jM{v:AV}(hd:o.dst=some d)(t:d<E.n)
  (y:∀Lf ι I a w,Rel E (L++Lf) h ι I a w->Rel E L h ι I a w->∃c w' ι' j,(execOp a.eval o).run P w= .ok (.value c) w'/\Rel E (L++Lf) h' ι' j a w'/\AR ι' j w' v c) (hk:K ((d,v)::L) h'):ar P o E K L h:=by
 refine⟨λLf ι I a w rF=> ?_⟩;obtain⟨c,w',ι',j,h1,h2,A⟩:=y Lf ι I a w rF rF.low;unfold Oper.wp;rw[h1,Oper.upon_value,hd];exact⟨_,h',ι',j,hk,h2.put t A⟩
section
variable {t:TypeId}{x:Operand}{vs:Td V}{i:TyI}{es:Td (Td V)}{s:Nat}
theorem Gj{v:AV}(j:ev L x=some v)(y:v.cells=some vs)(A:d<E.n)(hk:K ((d,.one (.ptr h.length 0 0))::L) (h++[some (.row vs.length [vs])])):ar P ⟨some d,.box t x,ty,pos,af,gd⟩ E K L h:=
 jM rfl A (λLf ι I a w rF r=>by
  obtain⟨h1,h2,B⟩:=(r.ev j).cells y;refine⟨.pointer (some ⟨w.heap.size,0,none⟩),w.alloc (.cells (a.eval x).cells t),_,I,?_,rF.new _ t vs.length 1 [vs] (by simp[h2]) A1 A1 A1 (rest:=[]) (by simp;rfl) Hd,?_⟩
  .simp[execOp,Instr.box,newVar,newRow]
  .refine .one ?_;have hi:(ι++[(⟨w.heap.size,0,1,vs.length⟩:Inf)])[h.length]? =some ⟨w.heap.size,0,1,vs.length⟩:=I3
   simpa using VR.ptr (k:=0) (o:=0) hi) hk
theorem BS(h:cm P tb)(w:tb.lookup t=some i)(j:i.zero≠[]):∃inf z,P.info? t=some inf/\inf.zero=some z/\z.cells.toList=i.zero:=by
 obtain⟨inf,h1,_,_,_,_,d,_⟩:=co (h t i w);unfold nh at d;rw[h1]at d;cases v:inf.zero with
 |none=>simp[v]at d;exact absurd d j
 |some z=>exact⟨inf,z,h1,v,by simp[v]at d;exact d.symm⟩
theorem yH(j:cm P tb)(A:tb.lookup t=some i)(B:i.zero.all da=true)(v:i.zero≠[])(C:d<E.n)(hk:K ((d,.one (.ptr h.length 0 0))::L) (h++[some (.row i.zero.length [i.zero.map V.lit])])):
  ar P ⟨some d,.alloc t,ty,pos,af,gd⟩ E K L h:=
 jM rfl C (λLf ι I a w rF r=>by
  obtain⟨inf,z,h1,h2,y⟩:=BS j A v;have h4:z.cells.size=i.zero.length:=by rw[<-y];simp
  refine⟨.pointer (some ⟨w.heap.size,0,none⟩),w.alloc (.cells z.cells t),_,I,?_,rF.new _ t i.zero.length 1 [i.zero.map V.lit] (by simp[h4]) A1 A1 A1 (rest:=[]) (by simp;exact y) (by simpa using VRs.lits B),?_⟩
  .simp[execOp,Instr.alloc,zeroValue,typeInfo,h1,h2,newVar,newRow]
  .refine .one ?_;have hi:(ι++[(⟨w.heap.size,0,1,i.zero.length⟩:Inf)])[h.length]? =some ⟨w.heap.size,0,1,i.zero.length⟩:=I3
   simpa using VR.ptr (k:=0) (o:=0) hi) hk
def cH(L:Env):Td (Nat×Operand)->Y (Td (Nat×Td V))
 |[]=>some []
 | (i,x)::rest=>match (ev L x).bind AV.cells,cH L rest with
  |some vs,some d=>some ((i,vs)::d)
  |_,_=>none
def bB(cells:Td V)(off:Nat)(vs:Td V):Td V:=cells.take off++(vs++cells.drop (off+vs.length))
def o7(place:Nat->Y (Nat×Nat))(cells:Td V):Td (Nat×Td V)->Y (Td V)
 |[]=>some cells
 | (i,vs)::rest=>match place i with
  |some (off,size)=>if vs.length=size&&off+vs.length<=cells.length then o7 place (bB cells off vs) rest else none
  |none=>none
theorem Dj(vs:Td Value):∀(k off:Nat)(cells:Array Value),off+k+vs.length<=cells.size->
  ((vs.zipIdx k).foldl (λ(cs:Array Value)(p:Value×Nat)=>cs.setIfInBounds (off+p.2) p.1) cells).toList=cells.toList.take (off+k)++(vs++cells.toList.drop (off+k+vs.length)):=by
 induction vs with
 |nil=>intro k off cells h;simp
 | cons v vs j=>
  intro k off cells h;simp at h;rw[List.zipIdx_cons,PI,j (k+1) off (cells.setIfInBounds (off+k) v) A4];have d:off+k<cells.toList.length:=A4
  simp only[Array.toList_setIfInBounds];have e1:(cells.toList.set (off+k) v).take (off+(k+1))=cells.toList.take (off+k)++[v]:=by
   rw[<-Pk,PE (by simp at d;simpa using d)];simp[List.take_set_of_le]
  have e2:(cells.toList.set (off+k) v).drop (off+(k+1)+vs.length)=cells.toList.drop (off+k+(v::vs).length):=by
   rw[List.drop_set_of_lt A0]
   congr 1
   simp;omega
  rw[e1,e2];simp
theorem rE{ι:Td Inf}{I:Nat->Prop}{a:Act}{w:World}(r:Rel E L h ι I a w)(place:Nat->Y (Nat×Nat)):∀(parts:Td (Nat×Operand)) (B:Td (Nat×Td V)) (cells:Td V) (cs:Array Value) (out:Td V),
  cH L parts=some B->VRs ι I w cells cs.toList->o7 place cells B=some out->∃j,Instr.fill place cs (parts.map λp=>(p.1,a.eval p.2))=some j/\VRs ι I w out j.toList:=by
 intro parts
 induction parts with
 | nil=>
  intro B cells cs out h1 h2 t;simp[cH]at h1;subst h1;simp[o7]at t;subst t;exact⟨cs,by simp[Instr.fill],h2⟩
 | cons p parts H=>
  obtain⟨i,x⟩:=p;intro B cells cs out h1 h2 t;simp only[cH]at h1;cases C:(ev L x).bind AV.cells with
  |none=>simp[C]at h1
  | some vs=>
   cases hp:cH L parts with
   |none=>simp[C,hp]at h1
   | some D=>
    simp[C,hp]at h1;subst h1;simp only[o7]at t;cases y:place i with
    |none=>simp[y]at t
    | some q=>
     obtain⟨off,size⟩:=q;simp only[y]at t;split at t
     .rename_i hc;simp at hc;obtain⟨hs,J⟩:=hc;obtain⟨v,K,F⟩:=Option.bind_eq_some_iff.1 C;obtain⟨k1,G,P⟩:=(r.ev K).cells F;have M:cs.size=cells.length:=by have:=h2.1;simpa using this
      have d:=Dj (a.eval x).cells.toList 0 off cs (by simp[G];omega);rw[PF]at d;have A:VRs ι I w (bB cells off vs) ((a.eval x).cells.zipIdx.foldl (λ(cs:Array Value)(p:Value×Nat)=>cs.setIfInBounds (off+p.2) p.1) cs).toList:=by
       have e:((a.eval x).cells.zipIdx.foldl (λ(cs:Array Value)(p:Value×Nat)=>cs.setIfInBounds (off+p.2) p.1) cs).toList=cs.toList.take off++((a.eval x).cells.toList++cs.toList.drop (off+vs.length)):=by
        rw[<-Array.foldl_toList,Array.toList_zipIdx,d];simp[G]
       rw[e];exact(h2.take off).append (k1.append (h2.drop _))
      obtain⟨j,N,O⟩:=H D _ _ out hp A t;refine⟨j,?_,O⟩;simp only[Pz,Instr.fill,y,G];have c1:(decide (vs.length≠size)||decide (off+vs.length>cs.size))=false:=by simp[hs];omega
      rw[O2 (by simpa using c1)];exact N
     .cases t
theorem Ba(w:World)(d:Array Field)(hs:∀f∈d.toList,0<fC P f.type):(d.mapM λf=>Prod.mk f.offset <$> sizeOf f.type:Sem (Array (Nat×Nat))).run P w= .ok (d.map λf=>(f.offset,fC P f.type)) w:=by
 rw[Array.mapM_eq_mapM_toList];have:∀(l:Td Field),(∀f∈l,0<fC P f.type)->(l.mapM λf=>Prod.mk f.offset <$> sizeOf f.type:Sem (Td (Nat×Nat))).run P w= .ok (l.map λf=>(f.offset,fC P f.type)) w:=by
  intro l
  induction l with
  |nil=>intro _;simp
  | cons f l h=>
   intro hl;rw[List.mapM_cons];simp[cg (rfl:fC P f.type=_) (hl f A1),h (λg j=>hl g (by simp[j]))]
 simp[this d.toList hs];apply Array.ext';simp
theorem xQ(y:cm P tb){parts:Td (Nat×Operand)}{D:Td (Nat×Td V)}(hp:cH L parts=some D)(Q:tb.lookup t=some i)(U:i.zero.all da=true)(F:i.zero≠[])(G:i.fields≠[])
  (H:o7 (λ(k:Nat)=>(i.fields[k]?).map λ(f:Nat×Nat×Nat)=>(f.1,f.2.2)) (i.zero.map V.lit) D=some vs) (J:i.fields.all (λf=>decide (0<f.2.2))=true) (W:d<E.n) (hk:K ((d,.agg vs)::L) h):ar P ⟨some d,.build t parts.toArray,ty,pos,af,gd⟩ E K L h:=
 bO    rfl W (λι I a w r=>by
  obtain⟨inf,z,h1,h2,X⟩:=BS y Q F;obtain⟨_,_,R,_,_,_,_,_,C⟩:=co (y t i Q);cases hd:i.desc with
  | struct S=>
   rw[hd]at R C;obtain⟨A,T,M⟩:=rE r _ parts D (i.zero.map V.lit) z.cells vs hp (by rw[X];exact VRs.lits U) H;refine⟨.agg A,?_,?_⟩
   .have N:=Ba (P:=P) w S (λf H=>by
      have:=aT.1 J (f.offset,f.type,fC P f.type) (by rw[C];exact List.mem_map.2 ⟨f,H,rfl⟩);simpa using this)
    have v:(λ(k:Nat)=>(i.fields[k]?).map λ(f:Nat×Nat×Nat)=>(f.1,f.2.2))=λ(k:Nat)=>Option.map (λf=>(f.offset,fC P f.type)) S[k]? :=G1
    rw[v]at T;simp[execOp,Instr.build,zeroValue,typeInfo,h1,h2,run_underlying R,N];rw[T];rfl
   .refine .agg (f:=λj=>A.getD j undef) (by have:=M.1;simpa using this) (λj O=> ?_) (λj O=> ?_)
    .obtain⟨u,B,_⟩:=M.2 j O;simp at B;simp[B]
    .obtain⟨u,B,Y⟩:=M.2 j O;simp at B;simp[B];exact Y
  |_=>rw[hd]at C;exact absurd C G) hk
theorem lY(hs:∀e∈es,e.length=s):∀{k:Nat}{e:Td V}{o:Nat}{vs:Td V},es[k]? =some e->o+vs.length<=s->(es.set k (bB e o vs)).flatten=bB es.flatten (k*s+o) vs:=by
 induction es with
 |nil=>intro k e o vs hk;simp at hk
 | cons x es d=>
  intro k e o vs hk ho;have j:x.length=s:=hs x A1;cases k with
  | zero=>
   simp at hk;subst hk;simp only[List.set_cons_zero,PX,bB,Nat.zero_mul,Pp];rw[List.take_append_of_le_length A0,Qh A0];simp
  | succ k=>
   simp only[List.getElem?_cons_succ]at hk;have:=d (λy h=>hs y S0) hk ho;simp only[List.set_cons_succ,PX,this];simp only[bB];have e1:(k+1)*s+o=x.length+(k*s+o):=by rw[Pn];omega
   have e2:(k+1)*s+o+vs.length=x.length+(k*s+o+vs.length):=A0
   rw[e2,e1,Qn,Q2];simp
theorem rY{cs:Td V}{o:Nat}(h:o+vs.length<=cs.length):(bB cs o vs).length=cs.length:=by simp[bB];omega
theorem oU(G:cm P tb){y:Operand}{id k o':Nat}{e:Td V}{v:AV}(H:ev L x=some (.one (.ptr id k o')))(hy:ev L y=some v)(hv:v.cells=some vs)(ht:tb.lookup t=some i)(J:i.size=vs.length)
  (ho:h[id]?=some (some (.row s es))) (he:es[k]? =some e) (M:o'+vs.length<=s) (hk:K L (h.set id (some (.row s (es.set k (bB e o' vs)))))):ar P ⟨none,.store t x y,ty,pos,af,gd⟩ E K L h:=by
 refine⟨λLf ι I a w rF=> ?_⟩;have r:=rF.low;obtain⟨inf,C,N,hs2⟩:=r.row ho;obtain⟨k1,U,k3⟩:=(r.ev hy).cells hv;have hp:=(r.ev H).bi;generalize hc:a.eval x=c at hp;obtain⟨inf',g1,_,g3,_⟩:=co (G t i ht);obtain⟨cur,O,pr,cs,rest,X,F,f3,f4,f5,f6,Y,Q,Z,R⟩:=N.flat;have S:=(gI.1 he).1;have T:e.length=s:=f6 e (mG he);cases hp with
 | @ptr _ _ _ _ d hi=>
  have:d=inf:=by rw[C]at hi;cases hi;rfl
  subst this;have A:(a.eval y).cells.toList.length=vs.length:=by simpa using U
  have hmul:k*s+s<=es.length*s:=by
   have:(k+1)*s<=es.length*s:=Qp _ S;rw[Pn]at this;omega
  have hcur:cur.size=d.base+(es.length*s+rest.length):=by rw[<-PL,Y];simp[Q,R]
  have j:=run_storeCells_at (P:=P) d.block (d.base+(k*d.size+o')) O (a.eval y).cells.toList 0 cur w X (by rw[A,F];omega) k3;obtain⟨W,hW⟩:∃W,W=w.setRow d.block (cur.toList.take (d.base+(k*d.size+o')+0)++(a.eval y).cells.toList++cur.toList.drop (d.base+(k*d.size+o')+0+(a.eval y).cells.toList.length)).toArray:=⟨_,rfl⟩;rw[<-hW]at j;unfold Oper.wp;have hex:(execOp a.eval ⟨none,.store t x y,ty,pos,af,gd⟩).run P w= .ok .skip W:=by
   have B:(a.eval y).cells.size=inf'.size:=by rw[U,g3,J]
   simp[execOp,Instr.storeAt,Instr.sureAddr,hc,storeVar,sizeOf,typeInfo,g1,B,j]
  rw[hex,Oper.upon_skip,hW];refine⟨L,_,ι,I,hk,?_⟩
  have D:=rF.set (s':=s) (es':=es.set k (bB e o' vs)) (cur:=(cur.toList.take (d.base+(k*d.size+o')+0)++(a.eval y).cells.toList++cur.toList.drop (d.base+(k*d.size+o')+0+(a.eval y).cells.toList.length)).toArray) (t:=O)
   (w':=w.setRow d.block (cur.toList.take (d.base+(k*d.size+o')+0)++(a.eval y).cells.toList++cur.toList.drop (d.base+(k*d.size+o')+0+(a.eval y).cells.toList.length)).toArray)
   (pr:=pr) (cs:=cs.take (k*s+o')++((a.eval y).cells.toList++cs.drop (k*s+o'+vs.length))) (rest:=rest)
   ho C (setRow_heap w _ cur _ O _ X) (λb hb=>setRow_other w _ b _ hb) rfl rfl rfl A1 F (by
    rw[Q5,OJ,OJ,Pd,Pi,A,PL,F]
    omega) f4 (by simpa using f5) (λx H=>by
     rcases PH H with h|h
     .exact f6 x h
     .rw[h,rY A0,T]) (by
    simp only[Y,F,A,PF];have hpl:pr.length=d.base:=Q;have c1:d.base+(k*s+o')=pr.length+(k*s+o'):=A0
    rw[c1,Qn,Pk,Q2,List.take_append_of_le_length A0,Qh A0];simp) Q (by
    rw[lY f6 he M];exact(Z.take _).append (k1.append (Z.drop _)))
  exact D
end
end
section
variable {P : Program} {E : Cx} {K : Env → au → Prop} {L : Env} {h h0 l : au} {d n : Nat} {ty : TypeId} {pos : String} {af : Array Edge} {gd : Y (Nat × Bool)} {tb : Tbl} {o : Oper}
section
variable {z:Array Value}{zs:Td Value}{s:Nat}{ι:Td Inf}{w:World}{t:TypeId}{es:Td (Td V)}{a:Act}{c:Value}
theorem Do(v:z.toList=zs)(hs:zs.length=s)(n:Nat):(madeCells z (n*s)).toList=(List.replicate n zs).flatten:=by
 have d:z.size=s:=by rw[<-hs,<-v];simp
 apply Qq
 .rw[cn (s:=s) (λe he=>by rw[PU he];exact hs)];simp[madeCells]
 .intro j h1 h2;have w:j<n*s:=by simpa [madeCells]using h1
  have t:0<s:=by rcases Qd s with h|h;(subst h;simp at w);exact h
  have hk:j / s<n:=Nat.div_lt_of_lt_mul (by rw[QB];exact w);have hm:j%s<s:=Nat.mod_lt _ t;have y:j / s*s+j%s=j:=Rg
  obtain⟨A,e⟩:=kF (es:=List.replicate n zs) (s:=s) (λe he=>by rw[PU he];exact hs) (k:=j / s) (j:=j%s) (by simpa using hk) (by simp[hs];exact hm);have e1:(List.replicate n zs).flatten[j]=zs[j%s]'(by rw[hs];exact hm):=G1
  rw[e1];simp[madeCells,d];rw[getElem!_pos z (j%s) (by rw[d];exact hm)];subst v;simp
theorem VRs.made{I:Nat->Prop}(d:z.toList=zs)(hs:zs.length=s)(hl:zs.all da=true)(n:Nat):VRs ι I w (List.replicate n (zs.map V.lit)).flatten (madeCells z (n*s)).toList:=by
 rw[Do d hs];exact VRs.flat (s:=s) A1 λk h1 h2=>by simpa using VRs.lits hl
theorem nq(w:cm P tb){d:ElI}(he:du tb t=some d)(j:d.zero≠[])(y:d.zero.length=d.size):∃inf z,P.info? d.t=some inf/\inf.zero=some z/\z.cells.toList=d.zero/\inf.size=d.size/\inf.bytes=d.bytes:=by
 obtain⟨_,u2,u3,u4⟩:=bI w he;unfold nh at u4;have v:0<d.size:=by rw[<-y];exact List.length_pos_iff.2 j
 obtain⟨inf,h1,h2⟩:=oF u2 v;rw[h1]at u4 u3;cases h:inf.zero with
 |none=>simp[h]at u4;exact absurd u4 j
 |some z=>exact⟨inf,z,h1,h,by simpa [h]using u4,h2,by simpa using u3⟩
def nf(s:Nat)(es:Td (Td V)):Td (Nat×Td V)->Y (Td (Td V))
 |[]=>some es
 |(i,vs)::rest=>if vs.length=s&&i<es.length then nf s (es.set i vs) rest else none
theorem ou{s:Nat}:∀(t:Td (Nat×Td V))(es es':Td (Td V)),(∀e∈es,e.length=s)->nf s es t=some es'->o7 (λi=>some (i*s,s)) es.flatten t=some es'.flatten/\(∀e∈es',e.length=s)/\es'.length=es.length
 |[],es,es',hs,h=>by simp[nf]at h;subst h;exact⟨rfl,hs,rfl⟩
 | (i, vs)::rest,es,es',hs,h=>by
  simp only[nf]at h;split at h
  .rename_i hc;simp at hc;obtain⟨v,hi⟩:=hc;have j:∀e∈es.set i vs,e.length=s:=λe he=>G1
   obtain⟨k1,w,y⟩:=ou rest _ _ j h;have hge:es[i]? =some es[i]:=O0 hi;have hl:es[i].length=s:=hs _ (gM hi);have d:=lY hs (o:=0) (vs:=vs) hge A0;have A:bB es[i] 0 vs=vs:=by
    simp only[bB,List.take_zero,Pm,Pp];rw[Pt A0,OO]
   rw[A,PF]at d;refine⟨?_,w,by rw[y];simp⟩;simp only[o7,v];have:i*s+s<=es.flatten.length:=by
    rw[cn hs];have:=Qp s hi;rw[Nat.succ_mul]at this;omega
   rw[mt (by simpa using this),<-d];exact k1
  .cases h
theorem na(A:cm P tb)(Q:h0.length=n){len:Nat}{parts:Td (Nat×Operand)}{h:ElI}{C:Td (Nat×Td V)}(he:du tb t=some h)(B:h.zero≠[])(D:h.zero.length=h.size)(hl:h.zero.all da=true)
  (hp:cH L parts=some C) (R:nf h.size (List.replicate len (h.zero.map V.lit)) C=some es) (F:Nat.ble (len*h.size) 16777216=true) (S:d<E.n)
  (hk:K ((d,.one (.own (n+l.length) 0 len))::L) (h0++(l++[some (.row h.size es)]))):ar P ⟨some d,.buildSlice t len parts.toArray,ty,pos,af,gd⟩ E K L (h0++l):=by
 rw[<-O5]at hk;refine jM rfl S (λLf ι I a w rF r=> ?_) hk;obtain⟨inf,z,g1,T,g3,g4,W⟩:=nq A he B D;obtain⟨u1,u2,_⟩:=bI A he;have j:0<h.size:=by rw[<-D];exact List.length_pos_iff.2 B
 obtain⟨k1,M,U⟩:=ou C _ _ (λe he=>by rw[PU he];simpa using D) R;obtain⟨v,G,N⟩:=rE r (λi=>some (i*h.size,h.size)) parts C _ (madeCells z.cells (len*h.size)) _ hp (VRs.made g3 D hl len) k1;have bF:es.length=len:=by rw[U];simp
 have H:v.size=len*h.size:=by have:=N.1;rw[cn M,bF]at this;simpa using this
 have J:¬(16777216<len*h.size):=by have:=O1 F;omega
 refine⟨.slice (some ⟨w.heap.size,0,none⟩) len len,w.alloc (.cells v h.t),_,I,?_,rF.new v h.t h.size len es H R7 A0 M (cs:=v.toList) (rest:=[]) A1 N,?_⟩
 .by_cases y:len*h.size=0
  .have O:madeCells z.cells (len*h.size)= #[]:=by rw[y];simp[madeCells]
   rw[O]at G;simp[execOp,Instr.buildSlice,run_underlying u1,cg u2 j,y];have e1:Array.map (λ_=>(default:Value)) (Array.range 0)= #[]:=A1
   rw[e1,G];simp[newRow]
  .have O:(Array.range (len*h.size)).map (z.cells[·%z.cells.size]!)=madeCells z.cells (len*h.size):=rfl;simp[execOp,Instr.buildSlice,run_underlying u1,cg u2 j,y,J,zeroValue,typeInfo,g1,T];have e1:(Array.map (λx=>z.cells[x%z.cells.size]!) (Array.range (len*h.size)))=madeCells z.cells (len*h.size):=rfl;simp only[e1,G];simp[newRow]
 .refine .one ?_;have hi:(ι++[(⟨w.heap.size,0,len,h.size⟩:Inf)])[n+l.length]? =some ⟨w.heap.size,0,len,h.size⟩:=by
   have:=r.heap.len;simp at this;have e:n+l.length=ι.length:=A0
   rw[e];simp
  simpa using VR.own (off:=0) (len:=len) (c:=len) hi (O3 _) A1 R7
theorem J2(v:cm P tb)(G:h0.length=n){x y:Operand}{D F:IntKind}{m:Nat}{h:ElI}(he:du tb t=some h)(A:h.zero≠[])(B:h.zero.length=h.size)(hl:h.zero.all da=true)
  (H:ev L x=some (.one (.lit (.int D m)))) (J:ev L y=some (.one (.lit (.int F m)))) (O:h.bytes*m<=281474976710656) (hm:m<=9223372036854775807) (M:d<E.n)
  (hk:K ((d,.one (.own (n+l.length) 0 m))::L) (h0++(l++[some (.row h.size (List.replicate m (h.zero.map V.lit)))]))):ar P ⟨some d,.makeSlice t x y,ty,pos,af,gd⟩ E K L (h0++l):=by
 rw[<-O5]at hk;refine jM rfl M (λLf ι I a w rF r=> ?_) hk;obtain⟨inf,z,g1,N,g3,g4,Q⟩:=nq v he A B;obtain⟨u1,u2,_⟩:=bI v he;have C:(inf.bytes:Int)*(m:Int)<=281474976710656:=G1
 have j:=run_make (P:=P) w t h.t inf z u1 g1 N D F m m A0 A0 C A0;simp only[P7,g4]at j;have ls:∀e∈List.replicate m (h.zero.map V.lit),e.length=h.size:=λe he=>by rw[PU he];simpa using B
 refine⟨.slice (some ⟨w.heap.size,0,none⟩) m m,w.alloc (.cells (madeCells z.cells (m*h.size)) h.t),_,I,?_,rF.new _ h.t h.size m (List.replicate m (h.zero.map V.lit)) (by simp[madeCells]) hm A1 ls (cs:=(madeCells z.cells (m*h.size)).toList) (rest:=[]) A1 (VRs.made g3 B hl m),?_⟩
 .simp[execOp,(r.ev H).lit.1,(r.ev J).lit.1,j]
 .refine .one ?_;have hi:(ι++[(⟨w.heap.size,0,m,h.size⟩:Inf)])[n+l.length]? =some ⟨w.heap.size,0,m,h.size⟩:=by
   have:=r.heap.len;simp at this;have e:n+l.length=ι.length:=A0
   rw[e];simp
  simpa using VR.own (off:=0) (len:=m) (c:=m) hi (O3 _) A1 hm
def eA(h:au)(s:Nat):V->Y (Td (Td V))
 | .imm s' es=>if s'=s then some es else none
 | .di s' es=>if s'=s then some es else none
 | .own id off len=>match h[id]? with
  |some (some (.row s' es))=>if s'=s&&off+len<=es.length then some ((es.drop off).take len)else none
  |_=>none
 | .lit (.slice none 0 0)=>some []
 |_=>none
theorem DW{I:Nat->Prop}{vs:Td V}{cs:Td Value}(h:VRs ι I w vs cs):∀u∈cs,u.oneCell'=true:=λu t=>by
 obtain⟨j,d,rfl⟩:=Pw t;obtain⟨x,h1,h2⟩:=h.2 j (by rw[<-h.1];exact d);rw[O0 d]at h1;cases h1;exact h2.plain.1
theorem BN(hs:∀e∈es,e.length=s){j:Nat}(v:j<es.flatten.length):∃(h1:j / s<es.length)(h2:j%s<es[j / s].length),es.flatten[j]=es[j / s][j%s]/\j / s*s+j%s=j/\j%s<s:=by
 have d:j<es.length*s:=by rw[cn hs]at v;exact v
 have t:0<s:=by rcases Qd s with h|h;(subst h;simp at d);exact h
 have hk:j / s<es.length:=Nat.div_lt_of_lt_mul (by rw[QB];exact d);have hm:j%s<es[j / s].length:=by rw[hs _ (gM hk)];exact Nat.mod_lt _ t
 have w:j / s*s+j%s=j:=Rg
 obtain⟨_,e⟩:=kF hs hk hm;refine⟨hk,hm,?_,w,Nat.mod_lt _ t⟩;rw[<-e];congr 1;exact w.symm
theorem se{I:Nat->Prop}(r:Rel E L h ι I a w){v:V}(D:VR I w ι v c)(he:eA h s v=some es):
  ∃A cap cs,c= .slice A es.length cap/\es.length<=cap/\cap<=9223372036854775807/\(∀e∈es,e.length=s)/\VRs ι I w es.flatten cs/\cs.length=es.length*s/\(es=[]\/∃b off,A=some ⟨b,off,none⟩/\∀j u,cs[j]? =some u->w.cell? ⟨b,off+j,none⟩=some u):=by
 have key:∀{es:Td (Td V)}{b off cap:Nat}{f:Nat->Nat->Value},(∀e∈es,e.length=s)->es.length<=cap->cap<=9223372036854775807->(∀k j,k<es.length->j<s->w.cell? ⟨b,off+(k*s+j),none⟩=some (f k j))->
   (∀(k:Nat)(hk:k<es.length)(j:Nat)(y:j<es[k].length),VR I w ι es[k][j] (f k j))->
   ∃A B cs,Value.slice (some ⟨b,off,none⟩) es.length cap= .slice A es.length B/\es.length<=B/\B<=9223372036854775807/\(∀e∈es,e.length=s)/\VRs ι I w es.flatten cs/\cs.length=es.length*s/\(es=[]\/∃b off,A=some ⟨b,off,none⟩/\∀j u,cs[j]? =some u->w.cell? ⟨b,off+j,none⟩=some u):=by
  intro es b off cap f hs hc hm d C;refine⟨_,cap,(List.range (es.length*s)).map λj=>f (j / s) (j%s),rfl,hc,hm,hs,⟨by rw[cn hs];simp,λj y=> ?_⟩,A1,.inr ⟨b,off,rfl,λj u F=> ?_⟩⟩
  .obtain⟨h1,h2,e1,e2,N⟩:=BN hs y;have H:j<es.length*s:=by rw[cn hs]at y;exact y
   refine⟨f (j / s) (j%s),by simp[H],?_⟩;rw[e1];exact C _ h1 _ h2
  .simp at F;obtain⟨x,O,rfl⟩:=F;have y:j<es.length*s:=G1
   rw[List.getElem?_range y]at O;cases O;obtain⟨h1,h2,e1,e2,N⟩:=BN hs (j:=j) (by rw[cn hs];exact y);have:=d (j / s) (j%s) h1 N;rw[e2]at this;exact this
 unfold eA at he;split at he
 .rename_i s' es';split at he
  .rename_i e;cases he;subst e;cases D with
   |eE hc=>exact⟨_,_,[],rfl,P6 _,hc,A1,VRs.nil,A1,.inl rfl⟩
   |imm hs hc hm Q d C=>exact key hs hc hm d (λk hk j y=>(C k hk j y).up)
  .cases he
 .rename_i s' es';split at he
  .rename_i e;cases he;subst e;cases D with
   |kc=>exact⟨_,_,[],rfl,P6 _,A1,A1,VRs.nil,A1,.inl rfl⟩
   |di hs hm Q d C=>exact key hs (O3 _) hm d (λk hk j y=>(C k hk j y).up)
  .cases he
 .rename_i id off len;split at he
  .rename_i s' es' ho;split at he
   .rename_i hc;simp at hc;obtain⟨rfl,R⟩:=hc;cases he;obtain⟨inf,J,K,M⟩:=r.row ho;obtain⟨cur,t,S,W,X,f4,Y,f6,P⟩:=K;have hl:((es'.drop off).take len).length=len:=A4
    have hs:∀e∈(es'.drop off).take len,e.length=s':=λe he=>f6 e (PT (O6 he));have d:∀k j,k<((es'.drop off).take len).length->j<s'->w.cell? ⟨inf.block,inf.base+off*s'+(k*s'+j),none⟩=some (cur.getD (inf.base+((off+k)*s'+j)) undef):=λk j hk y=>by
     rw[hl]at hk;obtain⟨u,F,_⟩:=P (off+k) A0 j (by rw[f6 _ (gM _)];exact y);have e1:inf.base+off*s'+(k*s'+j)=inf.base+((off+k)*s'+j):=by rw[Pn];omega
     rw[e1];simp[World.cell?,S,F]
    have C:∀(k:Nat)(hk:k<((es'.drop off).take len).length)(j:Nat)(y:j<((es'.drop off).take len)[k].length),VR I w ι ((es'.drop off).take len)[k][j] (cur.getD (inf.base+((off+k)*s'+j)) undef):=λk hk j y=>by
     simp only[PW,Px]at y ⊢;rw[hl]at hk;obtain⟨u,F,D⟩:=P (off+k) A0 j y;simp[F];exact D
    cases D with
    | @own _ _ _ _ cap inf' hi T G hm=>
     have:inf'=inf:=by rw[J]at hi;cases hi;rfl
     subst this;have:=key (cap:=cap) hs A0 hm d C;rw[hl]at this ⊢;rw[M];exact this
    | hU hi G=>
     have U:(es'.drop off).take 0=[]:=List.take_zero;rw[U];exact⟨_,_,[],rfl,O3 _,A1,A1,VRs.nil,A1,.inl rfl⟩
   .cases he
  .cases he
 .cases he;cases D with
  |lit h=>exact⟨_,_,[],rfl,O3 _,A1,A1,VRs.nil,A1,.inl rfl⟩
 .cases he
theorem Ec{I:Nat->Prop}(r:Rel E L h ι I a w){v:V}{tx y:TypeId}(hk:P.underlying tx=some (.slice y))(B:VR I w ι v c)(he:eA h s v=some es):
  ∃cs,Src P s tx c es.length cs w/\VRs ι I w es.flatten cs/\(∀e∈es,e.length=s):=by
 obtain⟨A,cap,cs,rfl,h1,h2,C,h4,d,t⟩:=se r B he;refine⟨cs,?_,h4,C⟩;cases A with
 | none=>
  rcases t with rfl|⟨b,off,hA,_⟩
  .have:cs=[]:=nZ QO;subst this;exact Src.ofNil w hk cap
  .cases hA
 | some D=>
  refine Src.ofSlice w hk D es.length cap cs d (λj u F=> ?_) (DW h4);rcases t with rfl|⟨b,off,hA,G⟩
  .grind
  .cases hA;rw[dC];exact G j u F
end
end
end Go.Proofs.YtkegnipofloejaaGreatDoor.Abs
namespace Go.Proofs.YtkegnipofloejaaGreatDoor.Draw
open Go.RowKit
open Abs (bn cnt gt mQ dp dU cO iV cS lU fN aU cC dd fw fp mc Plan lF)
section
variable {β γ : Type}
def bp:Y Nat->β->Td (Nat×β)->Td (Nat×β)
 |some d,v,L=>(d,v)::L
 |none,_,L=>L
def sel(L:Td (Nat×β)):Td Nat->Td (Nat×β)
 |[]=>[]
 | t::d=>match L.lookup t with
  |some v=>(t,v)::sel L d
  |none=>sel L d
def Sub(L L':Td (Nat×β)):Prop:=∀t v,L.lookup t=some v->L'.lookup t=some v
theorem ag{t:Nat}{v:β}{L L':Td (Nat×β)}(h1:L.lookup t=some v)(h2:Sub L' L):Sub ((t,v)::L') L:=by
 intro u x d;rw[OK]at d;by_cases e:u=t
 .grind
 .have:(u==t)=false:=R1
  rw[this]at d;exact h2 u x d
theorem sel_sub{L L':Td (Nat×β)}{j:Td Nat}(h:∀t∈j,L'.lookup t=L.lookup t):Sub (sel L j) L':=by
 induction j with
 |nil=>intro t v h;simp[sel]at h
 | cons t j w=>
  have d:=w λu y=>h u (by simp[y]);simp only[sel];split
  .rename_i v A;exact ag ((h t A1).trans A) d
  .exact d
structure Sys(P:Program)(ops:Array Oper)(β γ:Type) where
 Rel:List (Nat×β)->γ->Act->World->Prop
 OT:Oper->List (Nat×β)->β->γ->γ->Prop
 gj:∀{L L':List (Nat×β)}{h:γ}{a:Act}{w:World},Rel L h a w->Sub L' L->Rel L' h a w
 same:∀{L:List (Nat×β)}{h:γ}{a:Act}{w w':World},Rel L h a w->w'.heap=w.heap->w'.os=w.os->w'.tape=w.tape->w'.output=w.output->Rel L h a w'
 sound:∀{o:Oper}{L Lg:List (Nat×β)}{v:β}{h h':γ}{i:Nat}{a:Act}{w:World}{Q:Exit->Act->World->Prop}{K:Act->World->Prop},
  OT o L v h h'->Sub L Lg->ops[i]? =some o->Rel Lg h a w->(∀a' w',Rel (bp o.dst v Lg) h' a' w'->K a' w')->wpOp P ops Q i K a w
section
variable {P : Program} {ops : Array Oper}
def aG(ops:Array Oper)(val:Nat->β):Td Nat->Td (Nat×β)->Td (Nat×β)
 |[],L=>L
 |i::r,L=>aG ops val r (bp (bn ops i) (val i) L)
inductive DR{P:Program}{ops:Array Oper}(S:Sys P ops β γ)(ch rd π:List Nat):List Nat->List (Nat×β)->List γ->List (Nat×β)->List γ->Prop
 |nil (L:List (Nat×β)) (hs:List γ):DR S ch rd π [] L hs L hs
 |pure {i:Nat} {rest:List Nat} {L Lf:List (Nat×β)} {hs hf:List γ} {o:Oper} {v:β} (ho:ops[i]? =some o) (hc:ch.contains i=false) (ht:∀h,S.OT o (sel L (o.looksAt ops)) v h h) (k:DR S ch rd π rest (bp o.dst v L) hs Lf hf):DR S ch rd π (i::rest) L hs Lf hf
 | read {i:Nat} {rest:List Nat} {L Lf:List (Nat×β)} {hs hf:List γ} {o:Oper} {v:β} (ho:ops[i]? =some o) (hc:ch.contains i=false) (hr:rd.contains i=true) (ht:∀h∈hs.take (hs.length-cnt ch (π.filter fun j=>cO ops j i)),S.OT o (sel L (o.looksAt ops)) v h h)
   (k:DR S ch rd π rest (bp o.dst v L) hs Lf hf):DR S ch rd π (i::rest) L hs Lf hf
 | chain {i:Nat} {rest:List Nat} {L Lf:List (Nat×β)} {h h':γ} {hs hf:List γ} {o:Oper} {v:β} (ho:ops[i]? =some o) (hc:ch.contains i=true) (ht:S.OT o (sel L (o.looksAt ops)) v h h') (k:DR S ch rd π rest (bp o.dst v L) (h'::h::hs) Lf hf):
   DR S ch rd π (i::rest) L (h::hs) Lf hf
def Fu(S:Sys P ops β γ)(ch rd π:Td Nat)(d:Td γ)(c:Nat)(L:Td (Nat×β))(v:β)(i:Nat):Prop:=
 ∃ o, ops[i]? =some o/\
  ((ch.contains i=true/\∃h h',d[c]? =some h/\d[c+1]? =some h'/\S.OT o (sel L (o.looksAt ops)) v h h')\/
   (ch.contains i=false/\rd.contains i=true/\∀c' h,cnt ch (π.filter λj=>cO ops j i)<=c'->c'<=c->d[c']? =some h->S.OT o (sel L (o.looksAt ops)) v h h)\/
   (ch.contains i=false/\∀h,S.OT o (sel L (o.looksAt ops)) v h h))
theorem bT{ops:Array Oper}{val d:Nat->β}:∀{l:Td Nat}{L:Td (Nat×β)},(∀i∈l,val i=d i)->aG ops val l L=aG ops d l L
 |[],_,_=>rfl
 | i::l,L,h=>by
  simp only[aG];rw[h i A1];exact bT λj t=>h j RG
theorem DR.spec[Inhabited β]{S:Sys P ops β γ}{ch rd π:Td Nat}{σ:Td Nat}{L Lf:Td (Nat×β)}{hs F:Td γ}(d:DR S ch rd π σ L hs Lf F)(w:cS (λi j=>i !=j) σ=true)(E:hs≠[]):
  ∃val:Nat->β,Lf=aG ops val σ L/\(∃D,F=D++hs/\D.length=cnt ch σ)/\∀pre i post,σ=pre++i::post->Fu S ch rd π F.reverse (hs.length-1+cnt ch pre) (aG ops val pre L) (val i) i:=by
 induction d with
 |nil L hs=>exact⟨λ_=>default,rfl,⟨[],rfl,rfl⟩,λpre i post e=>by simp at e⟩
 | @pure i rest L Lf hs F o v ho hc G k H=>
  simp only[cS,bA]at w;obtain⟨val,h1,⟨D,h2,B⟩,I⟩:=H w.2 E;have t:∀j∈rest,j≠i:=λj y e=>HW
  refine⟨λj=>if j=i then v else val j,?_,⟨D,h2,by rw[B,gt hc]⟩,λpre j post e=> ?_⟩
  .simp only[aG,if_true];rw[h1];have:bn ops i=o.dst:=QN
   exact SZ
  .cases pre with
   | nil=>
    simp at e;obtain⟨rfl,_⟩:=e;exact⟨o,ho,.inr (.inr ⟨hc,by simpa [aG]using G⟩)⟩
   | cons x pre=>
    simp at e;obtain⟨rfl,e⟩:=e;have A:j∈rest:=QJ
    have:=I pre j post e;have e1:cnt ch (i::pre)=cnt ch pre:=gt hc;have e2:aG ops (λj=>if j=i then v else val j) (i::pre) L=aG ops val pre (bp o.dst v L):=by
     simp only[aG,if_true];have:bn ops i=o.dst:=QN
     exact T0
    exact Sk
 | @read i rest L Lf hs F o v ho hc J G k H=>
  simp only[cS,bA]at w;obtain⟨val,h1,⟨D,h2,B⟩,I⟩:=H w.2 E;have t:∀j∈rest,j≠i:=λj y e=>HW
  refine⟨λj=>if j=i then v else val j,?_,⟨D,h2,by rw[B,gt hc]⟩,λpre j post e=> ?_⟩
  .simp only[aG,if_true];rw[h1];have:bn ops i=o.dst:=QN
   exact SZ
  .cases pre with
   | nil=>
    simp at e;obtain⟨rfl,_⟩:=e;refine⟨o,ho,.inr (.inl ⟨hc,J,λc' h M K C=> ?_⟩)⟩;simp only[aG,if_true];refine G h ?_;simp[cnt]at K;rw[h2,List.reverse_append]at C;have hp:0<hs.length:=List.length_pos_iff.2 E;rw[aL A4,Qk A0]at C;rw[List.mem_take_iff_getElem];obtain⟨N,e⟩:=gI.1 C;exact⟨hs.length-1-c',A0,e⟩
   | cons x pre=>
    simp at e;obtain⟨rfl,e⟩:=e;have A:j∈rest:=QJ
    have:=I pre j post e;have e1:cnt ch (i::pre)=cnt ch pre:=gt hc;have e2:aG ops (λj=>if j=i then v else val j) (i::pre) L=aG ops val pre (bp o.dst v L):=by
     simp only[aG,if_true];have:bn ops i=o.dst:=QN
     exact T0
    exact Sk
 | @chain i rest L Lf h h' hs F o v ho hc G k H=>
  simp only[cS,bA]at w;obtain⟨val,h1,⟨D,h2,B⟩,I⟩:=H w.2 A1;have t:∀j∈rest,j≠i:=λj y e=>HW
  refine⟨λj=>if j=i then v else val j,?_,⟨D++[h'],by rw[h2];simp,by rw[mQ hc];simp[B]⟩,λpre j post e=> ?_⟩
  .simp only[aG,if_true];rw[h1];have:bn ops i=o.dst:=QN
   exact SZ
  .cases pre with
   | nil=>
    simp at e;obtain⟨rfl,_⟩:=e;refine⟨o,ho,.inl ⟨hc,h,h',?_,?_,by simpa [aG]using G⟩⟩
    .rw[h2];simp[cnt]
    .rw[h2];simp[cnt]
   | cons x pre=>
    simp at e;obtain⟨rfl,e⟩:=e;have A:j∈rest:=QJ
    have:=I pre j post e;have e1:(h::hs).length-1+cnt ch (i::pre)=(h'::h::hs).length-1+cnt ch pre:=by rw[mQ hc];simp;omega
    have e2:aG ops (λj=>if j=i then v else val j) (i::pre) L=aG ops val pre (bp o.dst v L):=by
     simp only[aG,if_true];have:bn ops i=o.dst:=QN
     exact T0
    exact Sk
theorem bG(ops:Array Oper)(val:Nat->β)(t:Nat):∀(l:Td Nat)(L L':Td (Nat×β)),L.lookup t=L'.lookup t->(aG ops val l L).lookup t=(aG ops val (l.filter (aU ops t)) L').lookup t
 |[],L,L',h=>h
 | i::l,L,L',h=>by
  simp only[aG,P2];cases j:bn ops i with
  | none=>
   have:aU ops t i=false:=by simp[aU,j]
   rw[this];exact bG ops val t l _ L' h
  | some d=>
   by_cases e:d=t
   .subst e;have:aU ops d i=true:=by simp[aU,j]
    exact Sx
   .have:aU ops t i=false:=by simp[aU,j,e]
    rw[this];refine bG ops val t l _ L' ?_;simp only[bp,OK];have v:(t==d)=false:=by simpa using λx=>e x.symm
    rw[v];exact h
theorem dy{ops:Array Oper}{val:Nat->β}{t:Nat}{l d:Td Nat}{L:Td (Nat×β)}(h:l.filter (aU ops t)=d.filter (aU ops t)):(aG ops val l L).lookup t=(aG ops val d L).lookup t:=by
 rw[bG ops val t l L L rfl,bG ops val t d L L rfl,h]
theorem fE(ops:Array Oper)(val:Nat->β):∀(a b:Td Nat)(L:Td (Nat×β)),aG ops val (a++b) L=aG ops val b (aG ops val a L)
 |[],_,_=>rfl
 |_::a,b,_=>fE ops val a b _
theorem draw[Inhabited β]{S:Sys P ops β γ}{Q:Exit->Act->World->Prop}{L Lf:Td (Nat×β)}{h hl:γ}{hs:Td γ}{id:Nat}(hm:P.follows .mixedOrders=true)(π ch rd:Td Nat)(hp:lU ops π ch rd=true)
  (d:DR S ch rd π π L [h] Lf (hl::hs)) (hq:∀a w,S.Rel Lf hl a w->Q .normal a w) {a:Act} {w:World} (r:S.Rel L h a w):(Code.region id ops true).wp P Q a w:=by
 have R:=lF hp;obtain⟨val,hLf,⟨nw,hnw,hnwl⟩,hkn⟩:=d.spec R.nd A1;have hrev:(hl::hs).length=cnt ch π+1:=RB
 have Y:(hl::hs).reverse[cnt ch π]? =some hl:=by
  rw[Qk A0];have:(hl::hs).length-1-cnt ch π=0:=A0
  rw[this];rfl
 have T:(hl::hs).reverse[0]? =some h:=by rw[hnw];simp
 have hHlen:(hl::hs).reverse.length=cnt ch π+1:=by rw[List.length_reverse];exact hrev
 obtain⟨H,hH⟩:∃H,H=(hl::hs).reverse:=⟨_,rfl⟩;rw[<-hH]at hkn Y T hHlen;simp only[PP,Q9,Pp]at hkn;refine wp_region_any hm ?_;have getF:∀(v:Array Bool)(i:Nat),v.size=ops.size->i<ops.size->v.getD i true=v.getD i false:=λv i A hi=>by
  simp[Array.getD,A,hi]
 have U:∀(v:Array Bool)(i:Nat),v.size=ops.size->i∈Region.ready .any ops v->i<ops.size/\v.getD i false=false/\∀(o:Oper),ops[i]? =some o->∀j∈dU o,v.getD j false=true:=λv i A hi=>by
  unfold Region.ready at hi;obtain⟨h1,h2⟩:=List.mem_filter.1 hi;have h1:=List.mem_range.1 h1;simp only[bA,Pj]at h2;refine⟨h1,by rw[<-getF v i A h1];exact h2.1,λo ho j C=> ?_⟩;rw[ho]at h2;simp only[Pg,PN]at h2;unfold dU at C;obtain⟨ed,hed,hif⟩:=List.mem_filterMap.1 C;split at hif
  .exact Sn
  .cases hif
 have readyE:∀(v:Array Bool)(i:Nat)(o:Oper),v.size=ops.size->ops[i]? =some o->v.getD i false=false->(∀j∈dU o,v.getD j false=true)->i∈Region.ready .any ops v:=λv i o A ho I hd=>by
  have W:=(Array.getElem?_eq_some_iff.1 ho).1;unfold Region.ready;refine List.mem_filter.2 ⟨List.mem_range.2 W,?_⟩;rw[getF v i A W,I,ho];simp only[OS,O7,Pg,PN];rw[Array.all_eq_true'];intro ed hed;cases hb:Region.binds .any ed with
  |false=>simp
  | true=>
   simp only[O4,Bool.false_or];exact hd ed.on QL
 have fin:∀(v:Array Bool) (a:Act) (w:World) (hc:γ),v.size=ops.size->
   H[cnt ch (π.filter λi=>v.getD i false)]? =some hc->S.Rel (aG ops val (π.filter λi=>v.getD i false) L) hc a w->Region.ready .any ops v=[]->Q .normal a w:=by
  intro v a w hc A B r hready;have hallX:∀(n:Nat) (pre post:Td Nat),pre.length=n->π=pre++post->∀i∈pre,v.getD i false=true:=by
   intro n
   induction n with
   |zero=>intro pre post hl0 _ i hi;rw[nZ hl0]at hi;simp at hi
   | succ n ih=>
    intro pre' post hl0 e i hi;obtain⟨pre,x,rfl⟩:∃pre x,pre'=pre++[x]:=by
     rcases Q4 pre' with h0|⟨l,x,h0⟩
     .subst h0;simp at hl0
     .exact⟨l,x,by simpa using h0⟩
    have e':π=pre++x::post:=QJ
    have hpre:=ih pre (x::post) RI e';rcases List.mem_append.1 hi with hi|hi
    .exact hpre i hi
    .simp at hi;subst hi;have V:i∈π:=by rw[e'];simp
     have hxlt:=R.lt i V;cases I:v.getD i false with
     |true=>rfl
     | false=>
      exfalso;have ho:=On hxlt;have:i∈Region.ready .any ops v:=readyE v i _ A ho I λj C=>by
       obtain⟨j1,j2⟩:=R.edge i V _ ho j C;have hjm:=R.all j j1;rw[e']at hjm;rcases List.mem_append.1 hjm with hjm|hjm
       .exact hpre j hjm
       .rcases List.mem_cons.1 hjm with hjm|hjm
        .exact absurd hjm j2
        .exact absurd C ((R.pair pre i post e' j hjm).2.2.2.2 _ ho)
      rw[hready]at this;cases this
  have e:π.filter (λi=>v.getD i false)=π:=List.filter_eq_self.2 (hallX π.length π [] rfl A1);rw[e]at B r;rw[Y]at B;cases B;exact hq _ _ RQ
 have key:∀(eI:Nat) (v:Array Bool) (a:Act) (w:World) (hc:γ),v.size=ops.size->
   (∀(i:Nat)(o:Oper),ops[i]?=some o->v.getD i false=true->∀j∈dU o,v.getD j false=true)->
   H[cnt ch (π.filter λi=>v.getD i false)]? =some hc->
   (π.filter λi=> !v.getD i false).length<=eI->
   S.Rel (aG ops val (π.filter λi=>v.getD i false) L) hc a w->wpAny P .any ops Q eI v a w:=by
  intro eI
  induction eI with
  | zero=>
   intro v a w hc A Z B hfu r;have hnil:Region.ready .any ops v=[]:=by
    cases hr:Region.ready .any ops v with
    |nil=>rfl
    | cons i l=>
     exfalso;obtain⟨h1,h2,_⟩:=U v i A (by rw[hr];simp);have:i∈π.filter λi=> !v.getD i false:=List.mem_filter.2 ⟨R.all i h1,by rw[h2];rfl⟩;have:=Qg this;omega
   exact⟨hnil,fin v a w hc A B r hnil⟩
  | succ eI ih=>
   intro v a w hc A Z B hfu r;refine⟨fin v a w hc A B r,λi hi=> ?_⟩;obtain⟨W,I,hdirs⟩:=U v i A hi;have ho:=On W;have V:=R.all i W;obtain⟨pre,post,e⟩:=P9 V;have befX:∀{j},cO ops j i=true->v.getD j false=true:=λhb=>fN (X:=λj=>v.getD j false=true) Z ho (hdirs _ ho) hb
   have noB:∀{j},v.getD j false=true->cO ops i j=true->False:=λ{j} C hb=>by
    rcases Pq j ops.size with hjl|hjl
    .have D:=On hjl;have:=fN (X:=λj=>v.getD j false=true) Z D (Z j _ D C) hb;rw[I]at this;cases this
    .rw[Pa,Pu A0]at C;cases C
   have F:∀k∈pre,k≠i/\(iV ops k i=true->cO ops k i=true)/\(ch.contains k=true->ch.contains i=true->cO ops k i=true):=λk hk=>by
    obtain⟨p1,p2,e2⟩:=P9 hk;have:=R.pair p1 k (p2++i::post) Rj i A1;exact SX
   have y:=R.pair pre i post e
   -- the filters
   have fX:π.filter (λi=>v.getD i false)=pre.filter (λi=>v.getD i false)++post.filter (λi=>v.getD i false):=by
    rw[e,OU,P2,I];simp
   have E:∀j,(v.setIfInBounds i true).getD j false=if j=i then true else v.getD j false:=λj=>by
    rw[Pa,Pa];by_cases ej:j=i
    .subst ej;simp[A,W]
    .rw[Qb (λx=>ej x.symm),O2 ej]
   have fX':π.filter (λj=>(v.setIfInBounds i true).getD j false)=pre.filter (λi=>v.getD i false)++i::post.filter (λi=>v.getD i false):=by
    rw[e,OU,P2];have a1:pre.filter (λj=>(v.setIfInBounds i true).getD j false)=pre.filter (λi=>v.getD i false):=OZ λk hk=>by rw[E,O2 (F k hk).1]
    have a2:post.filter (λj=>(v.setIfInBounds i true).getD j false)=post.filter (λi=>v.getD i false):=OZ λk hk=>by rw[E,O2 (λx=>(y k hk).1 x.symm)]
    rw[a1,a2,E,mt rfl];simp
   have cX:cnt ch (π.filter λi=>v.getD i false)=cnt ch (pre.filter λi=>v.getD i false)+cnt ch (post.filter λi=>v.getD i false):=by rw[fX,dp]
   obtain⟨o,J,hk⟩:=hkn pre i post e;have eo:o=ops[i]:=by rw[ho]at J;cases J;rfl
   -- the K sees what it saw
   have hsel:Sub (sel (aG ops val pre L) (o.looksAt ops)) (aG ops val (π.filter λi=>v.getD i false) L):=sel_sub λt ht=>by
    refine dy ?_;rw[fX,OU];have b1:(post.filter λi=>v.getD i false).filter (aU ops t)=[]:=dd λj C M=>by
     cases hw:aU ops t j with
     |false=>rfl
     | true=>
      exfalso;have hjl:=R.lt j RX;have D:=On hjl;have hdj:ops[j].dst=some t:=Rk
      cases G:iV ops i j with
      |true=>exact noB M ((y j C).2.1 G)
      |false=>exact(cC J D G).2 t hdj ht
    have b2:(pre.filter λi=>v.getD i false).filter (aU ops t)=pre.filter (aU ops t):=by
     rw[QA];refine OZ λk hk=> ?_;cases hw:aU ops t k with
     |false=>simp
     | true=>
      simp only[O7];have hkl:=R.lt k RR;have hok:=On hkl;have hdk:ops[k].dst=some t:=Rb
      cases G:iV ops k i with
      |true=>exact befX ((F k hk).2.1 G)
      |false=>exact absurd ht ((cC hok J G).1 t hdk).1
    rw[b1,b2,OO]
   -- what stands behind it
   have hsub:Sub (aG ops val (π.filter λj=>(v.setIfInBounds i true).getD j false) L) (bp o.dst (val i) (aG ops val (π.filter λi=>v.getD i false) L)):=λt x hx=>by
    rw[fX']at hx;have hgs:bn ops i=o.dst:=by simp[bn,J]
    by_cases hd:o.dst=some t
    .rw [hd];simp only[bp,OK,beq_self_eq_true];rw[fE]at hx;simp only[aG]at hx;rw[hgs,hd]at hx;have b1:(post.filter λi=>v.getD i false).filter (aU ops t)=[]:=dd λj C M=>by
      cases hw:aU ops t j with
      |false=>rfl
      | true=>
       exfalso;have hjl:=R.lt j RX;have D:=On hjl;have hdj:ops[j].dst=some t:=Rk
       cases G:iV ops i j with
       |true=>exact noB M ((y j C).2.1 G)
       |false=>exact((cC J D G).1 t hd).2 hdj
     rw[bG ops val t _ _ _ rfl,b1]at hx;simpa [aG,bp]using hx
    .have hw:aU ops t i=false:=RY
     have e1:(aG ops val (pre.filter (λi=>v.getD i false)++i::post.filter (λi=>v.getD i false)) L).lookup t=(aG ops val (π.filter λi=>v.getD i false) L).lookup t:=by
      refine dy ?_;rw[fX,OU,OU,P2,hw];simp
     rw[e1]at hx;cases hdd:o.dst with
     |none=>exact hx
     | some d=>
      simp only[bp,OK];have:(t==d)=false:=QS
      rw[this];exact hx
   have next:∀hc',H[cnt ch (π.filter λj=>(v.setIfInBounds i true).getD j false)]? =some hc'->S.OT o (sel (aG ops val pre L) (o.looksAt ops)) (val i) hc hc'->wpOp P ops Q i (wpAny P .any ops Q eI (v.setIfInBounds i true)) a w:=by
    intro hc' hcH' N;refine S.sound N hsel J r λa' w' r'=> ?_;refine ih _ a' w' hc' RT (λj oj D C k hkd=> ?_) hcH' ?_ (S.gj r' hsub)
    .rw [E]at C ⊢;by_cases ek:k=i
     .rw[mt ek]
     .rw[O2 ek];by_cases ej:j=i
      .subst ej;exact hdirs oj D k hkd
      .rw[O2 ej]at C;exact Z j oj D C k hkd
    .have hsplit:(π.filter λj=> !(v.setIfInBounds i true).getD j false).length+1=(π.filter λj=> !v.getD j false).length:=by
      rw[e,OU,OU,P2,P2,I,E,mt rfl];have a1:pre.filter (λj=> !(v.setIfInBounds i true).getD j false)=pre.filter (λi=> !v.getD i false):=OZ λk hk=>by rw[E,O2 (F k hk).1]
      have a2:post.filter (λj=> !(v.setIfInBounds i true).getD j false)=post.filter (λi=> !v.getD i false):=OZ λk hk=>by rw[E,O2 (λx=>(y k hk).1 x.symm)]
      rw[a1,a2];simp;omega
     omega
   rcases hk with⟨O,h1,h2,g1,g2,N⟩|⟨O,hrd,N⟩|⟨O,N⟩
   ·-- a chain K
    have c1:cnt ch (pre.filter λi=>v.getD i false)=cnt ch pre:=mc λk hk hkc=>befX ((F k hk).2.2 hkc O);have c2:cnt ch (post.filter λi=>v.getD i false)=0:=fp λj C M=>by
     cases hcj:ch.contains j with
     |false=>rfl
     |true=>exact(noB M ((y j C).2.2.1 O hcj)).elim
    have ehc:h1=hc:=by rw[cX,c1,c2,PF,g1]at B;cases B;rfl
    subst ehc;refine next h2 ?_ N
    rw[fX',dp,mQ O,c1,c2];exact g2
   ·-- a reader
    have c2:cnt ch (post.filter λi=>v.getD i false)=0:=fp λj C M=>by
     cases hcj:ch.contains j with
     |false=>rfl
     |true=>exact(noB M ((y j C).2.2.2.1 hrd hcj)).elim
    have c1:cnt ch (pre.filter λi=>v.getD i false)<=cnt ch pre:=by
     have:=fw (ch:=ch) (l:=pre) (p:=λi=>v.getD i false) (q:=λ_=>true) (λ_ _ _=>rfl)
     rwa [List.filter_eq_self.2 (λ_ _=>rfl)]at this
    have c0:cnt ch (π.filter λj=>cO ops j i)<=cnt ch (π.filter λi=>v.getD i false):=fw λj _ hb=>befX hb;refine next hc ?_ (N _ hc c0 RJ B)
    rw[fX',dp,gt O,<-cX];exact B
   .refine next hc ?_ (N hc)
    rw[fX',dp,gt O,<-cX];exact B
 have e0:π.filter (λi=>(Array.replicate ops.size false).getD i false)=[]:=by
  rw[List.filter_eq_nil_iff];intro i hi;simp[Array.getD,R.lt i hi]
 refine key ops.size (Array.replicate ops.size false) a _ h A1 (λi o ho hi=> ?_) (by rw[e0];exact T) ?_ (by rw[e0];exact S.same r rfl rfl rfl rfl)
 .have:=(Array.getElem?_eq_some_iff.1 ho).1;simp[Array.getD,this]at hi
 .exact P3 (List.length_filter_le _ _) R.len
end
end
end Go.Proofs.YtkegnipofloejaaGreatDoor.Draw

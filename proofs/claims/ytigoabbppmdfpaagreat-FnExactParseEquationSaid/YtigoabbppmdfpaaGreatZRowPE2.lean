/- merged -/
import Derived.WalkKit
import Derived.Lib.Hide
import Derived.Orders
import Derived.Deep.AppendSrc
import Derived.Room.Entries
import Derived.Test.YtigoabbppmdfpaaGreatZRowPE0

namespace Go.Proofs.YtigoabbppmdfpaaGreat.Abs
open Go.RowKit
abbrev _root_.Go.Proofs.YtigoabbppmdfpaaGreat.Zb:=Zero (Nat->Y Obj->Prop)
instance noBt : Zb := ⟨fun _ _ => False⟩
abbrev Bt(_:Nat)(_:Option Obj):Prop:=False
inductive V where
 |lit (v:Value)
 |imm (s:Nat) (es:List (List V))
 |gk (s:Nat) (es:List (List V))
 |own (id off len:Nat)
 |ptr (id k o:Nat)
 |gy (s:Nat) (cs:List V)
 |clo (fn:Fn) (cap:List V)
 |mp (id:Nat)
inductive AV where
 |one (v:V)
 |agg (vs:List V)
 |tup (xs:List AV)
 |dead
inductive Ob where
 |row (s:Nat) (es:List (List V))
 |map (kvs:List (Z×List V))
def gw:RV (Z×RV V)->Z->Y (RV V)
 |[],_=>none
 |(a,b)::rest,s=>if a=s then some b else gw rest s
structure Inf where
 block:Nat
 base:Nat
 cap:Nat
 size:Nat
abbrev Env:=RV (Nat×AV)
abbrev aD:=RV (Y Ob)
def cq:Value->Prop
 | .bool _=>True
 | .int k n=>(Lit.int k n).wf=true
 | .string s=>s.size<=maxLen
 | .slice none 0 0=>True
 | .pointer none=>True
 | .map none=>True
 | .nilFunc=>True
 | .nilIface=>True
 |_=>False
inductive VR(I:Nat->Prop)(w:World):List Inf->V->Value->Prop
 |lit {ι:List Inf} {u:Value} (h:cq u):VR I w ι (.lit u) u
 |dC {ι:List Inf} {s c:Nat} {A:Y Addr} (hc:c<=9223372036854775807):VR I w ι (.imm s []) (.slice A 0 c)
 | imm {ι:List Inf} {s b off c:Nat} {es:List (List V)} {f:Nat->Nat->Value} (hs:∀e∈es,e.length=s) (hc:es.length<=c) (hm:c<=9223372036854775807) (hI:I b)
   (hcell:∀k j,k<es.length->j<s->w.cell? ⟨b,off+(k*s+j),none⟩=some (f k j))
   (hr:∀(k:Nat)(hk:k<es.length)(j:Nat)(hj:j<es[k].length),VR I w [] es[k][j] (f k j)) (hT:s=1\/¬Bt b w.heap[b]?):VR I w ι (.imm s es) (.slice (some ⟨b,off,none⟩) es.length c)
 |kA {ι:List Inf} {s:Nat} {A:Y Addr}:VR I w ι (.gk s []) (.slice A 0 0)
 | gk {ι:List Inf} {s b off:Nat} {es:List (List V)} {f:Nat->Nat->Value} (hs:∀e∈es,e.length=s) (hm:es.length<=9223372036854775807) (hI:I b)
   (hcell:∀k j,k<es.length->j<s->w.cell? ⟨b,off+(k*s+j),none⟩=some (f k j))
   (hr:∀(k:Nat)(hk:k<es.length)(j:Nat)(hj:j<es[k].length),VR I w [] es[k][j] (f k j)) (hT:s=1\/¬Bt b w.heap[b]?):VR I w ι (.gk s es) (.slice (some ⟨b,off,none⟩) es.length es.length)
 | own {ι:List Inf} {id off len c:Nat} {inf:Inf} (hi:ι[id]? =some inf) (hl:len<=c) (hcap:off+c=inf.cap) (hm:c<=9223372036854775807):
   VR I w ι (.own id off len) (.slice (some ⟨inf.block,inf.base+off*inf.size,none⟩) len c)
 |fT {ι:List Inf} {id off o:Nat} {inf:Inf} (hi:ι[id]? =some inf) (hcap:off=inf.cap):VR I w ι (.own id off 0) (.slice (some ⟨inf.block,o,none⟩) 0 0)
 |ptr {ι:List Inf} {id k o:Nat} {inf:Inf} (hi:ι[id]? =some inf):VR I w ι (.ptr id k o) (.pointer (some ⟨inf.block,inf.base+(k*inf.size+o),none⟩))
 | gy {ι:List Inf} {s b off:Nat} {cs:List V} {f:Nat->Value} (hI:I b) (hcell:∀j,j<cs.length->w.cell? ⟨b,off+j,none⟩=some (f j))
   (hr:∀(j:Nat)(hj:j<cs.length),VR I w [] cs[j] (f j)) (hT:s=1\/¬Bt b w.heap[b]?):VR I w ι (.gy s cs) (.pointer (some ⟨b,off,none⟩))
 | clo {ι:List Inf} {fn:Fn} {cap:List V} {cs:Array Value} {f:Nat->Value} (hl:cs.size=cap.length) (hcs:∀j,j<cap.length->cs[j]? =some (f j))
   (hr:∀(j:Nat)(hj:j<cap.length),VR I w ι cap[j] (f j)):VR I w ι (.clo fn cap) (.func fn #[] cs)
 |mp {ι:List Inf} {id:Nat} {inf:Inf} (hi:ι[id]? =some inf):VR I w ι (.mp id) (.map (some inf.block))
inductive AR(ι:List Inf)(I:Nat->Prop)(w:World):AV->Value->Prop
 |one {v:V} {c:Value} (h:VR I w ι v c):AR ι I w (.one v) c
 | agg {vs:List V} {cs:Array Value} {f:Nat->Value} (hl:cs.size=vs.length) (hcs:∀j,j<vs.length->cs[j]? =some (f j))
   (hr:∀j (hj:j<vs.length),VR I w ι vs[j] (f j)):AR ι I w (.agg vs) (.agg cs)
 | tup {xs:List AV} {cs:Array Value} {f:Nat->Value} (hl:cs.size=xs.length) (hcs:∀j,j<xs.length->cs[j]? =some (f j))
   (hr:∀j (hj:j<xs.length),AR ι I w xs[j] (f j)):AR ι I w (.tup xs) (.tuple cs)
 |dead {c:Value}:AR ι I w .dead c
def bn(ι ι':RV Inf):Prop:=∀(id:Nat)(inf:Inf),ι[id]? =some inf->ι'[id]? =some inf
theorem bn.refl(ι:RV Inf):bn ι ι:=λ_ _ h=>h
theorem bn.trans{a b c:RV Inf}(h:bn a b)(k:bn b c):bn a c:=λi x hx=>k i x (h i x hx)
theorem bn.app(ι l:RV Inf):bn ι (ι++l):=λid inf h=>Hd
structure cB(I I':Nat->Prop)(w w':World):Prop where
 imm:∀b,I b->I' b
 heap:∀(b:Nat),I b->w'.heap[b]? =w.heap[b]?
theorem cB.refl(I:Nat->Prop)(w:World):cB I I w w:=⟨λ_ h=>h,λ_ _=>rfl⟩
theorem cB.cell{I d:Nat->Prop}{w w':World}(k:cB I d w w')(b o:Nat)(hb:I b):w'.cell? ⟨b,o,none⟩=w.cell? ⟨b,o,none⟩:=by
 simp only[World.cell?];rw[k.heap b hb]
theorem VR.aB{ι ι':RV Inf}{I F:Nat->Prop}{w w':World}(C:bn ι ι')(hk:cB I F w w'){v:V}{c:Value}(h:VR I w ι v c):VR F w' ι' v c:=by
 induction h generalizing ι' with
 |lit h=>exact .lit h
 |dC hc=>exact .dC hc
 |imm hs hc hm t d hr D A=>exact .imm hs hc hm (hk.imm _ t) (λk j h1 h2=>(hk.cell _ _ t).trans (d k j h1 h2)) (λk hk j B=>A k hk j B (bn.refl _)) QB
 |kA=>exact .kA
 |gk hs hm t d hr D A=>exact .gk hs hm (hk.imm _ t) (λk j h1 h2=>(hk.cell _ _ t).trans (d k j h1 h2)) (λk hk j B=>A k hk j B (bn.refl _)) QB
 |own hi hl y hm=>exact .own (C _ _ hi) hl y hm
 |fT hi y=>exact .fT (C _ _ hi) y
 |ptr hi=>exact .ptr (C _ _ hi)
 |gy t d hr D A=>exact .gy (hk.imm _ t) (λj h1=>(hk.cell _ _ t).trans (d j h1)) (λj B=>A j B (bn.refl _)) QB
 |clo hl E hr A=>exact .clo hl E (λj B=>A j B C)
 |mp hi=>exact .mp (C _ _ hi)
theorem VR.up{ι:RV Inf}{I:Nat->Prop}{w:World}{v:V}{c:Value}(h:VR I w [] v c):VR I w ι v c:=h.aB (λ_ _ h=>H0) (cB.refl _ _)
def V.flat:V->Bool
 | .lit _| .imm _ _| .gk _ _| .gy _ _=>true
 | .clo _ []=>true
 |_=>false
theorem VR.free{ι ι':RV Inf}{I:Nat->Prop}{w:World}{v:V}{c:Value}(t:v.flat=true)(h:VR I w ι v c):VR I w ι' v c:=by
 cases h with
 |lit h=>exact .lit h
 |dC hc=>exact .dC hc
 |imm hs hc hm y d hr A=>exact .imm hs hc hm y d hr A
 |kA=>exact .kA
 |gk hs hm y d hr A=>exact .gk hs hm y d hr A
 |gy y d hr A=>exact .gy y d hr A
 | @clo _ _ cap _ _ hl C hr=>
  cases cap with
  |nil=>exact .clo hl C (λj D=>by simp at D)
  |cons x xs=>simp[V.flat]at t
 |own hi hl B hm=>simp[V.flat]at t
 |fT hi B=>simp[V.flat]at t
 |ptr hi=>simp[V.flat]at t
 |mp hi=>simp[V.flat]at t
theorem AR.aB{ι ι':RV Inf}{I t:Nat->Prop}{w w':World}(y:bn ι ι')(hk:cB I t w w'){v:AV}{c:Value}(h:AR ι I w v c):AR ι' t w' v c:=by
 induction h with
 |one h=>exact .one (h.aB y hk)
 |agg hl d hr=>exact .agg hl d (λj A=>(hr j A).aB y hk)
 |tup hl d hr B=>exact .tup hl d B
 |dead=>exact .dead
def OR(ι:RV Inf)(I:Nat->Prop)(w:World)(inf:Inf):Ob->Prop
 | .row s es=>∃cur t,w.heap[inf.block]? =some (.cells cur t (0,0))/\inf.size=s/\cur.size=inf.base+inf.cap*s/\inf.cap<=9223372036854775807/\es.length<=inf.cap/\(∀e∈es,e.length=s)/\
   ∀(k:Nat)(hk:k<es.length)(j:Nat)(h:j<es[k].length),∃u,cur[inf.base+(k*s+j)]?=some u/\VR I w ι es[k][j] u
 | .map kvs=>∃d clock,w.heap[inf.block]? =some (.map d clock)/\d.size<=kvs.length/\
   (∀s vs,gw kvs s=some vs->∃e∈d,e.key= .string s/\(∃f:Nat->Value,(vs.length=1->e.val=f 0)/\e.val.cells.size=vs.length/\(∀j,j<vs.length->e.val.cells[j]? =some (f j))/\∀j (h:j<vs.length),VR I w ι vs[j] (f j)))/\
   (∀e∈d,∃s,e.key= .string s/\(gw kvs s).isSome)/\d.toList.Pairwise (λx y=>∀s,x.key= .string s->y.key≠.string s)
theorem OR.aB{ι ι':RV Inf}{I C:Nat->Prop}{w w':World}(D:bn ι ι')(hk:cB I C w w'){inf:Inf}{o:Ob}(h:OR ι I w inf o)(hb:w'.heap[inf.block]? =w.heap[inf.block]?):OR ι' C w' inf o:=by
 cases o with
 | row s es=>
  obtain⟨cur,t,h1,h2,v,h4,y,E,F⟩:=h;refine⟨cur,t,hb.trans h1,h2,v,h4,y,E,λk A j B=> ?_⟩;obtain⟨u,G,H⟩:=F k A j B;exact⟨u,G,H.aB D hk⟩
 | map kvs=>
  obtain⟨J,clock,h1,h2,v,h4,y⟩:=h;refine⟨J,clock,hb.trans h1,h2,λs vs hs=> ?_,h4,y⟩;obtain⟨e,he,d,f,K,L,M,N⟩:=v s vs hs;exact⟨e,he,d,f,K,L,M,λj B=>(N j B).aB D hk⟩
structure HR(ι:List Inf)(I:Nat->Prop)(w:World)(h:aD):Prop where
 len:h.length=ι.length
 obj:∀(id:Nat)(o:Ob)(inf:Inf),h[id]?=some (some o)->ι[id]? =some inf->OR ι I w inf o
 off:∀(id:Nat)(o:Ob)(inf:Inf),h[id]?=some (some o)->ι[id]? =some inf->¬I inf.block
 inj:∀(id id':Nat)(o o':Ob)(inf inf':Inf),h[id]? =some (some o)->h[id']? =some (some o')->ι[id]? =some inf->ι[id']? =some inf'->inf.block=inf'.block->id=id'
 sub:∀(b:Nat)(c:Array Value)(t:TypeId),Bt b (some (.cells c t (0,0)))->I b
structure Cx where
 w0:World
 pass:Nat->Prop
 ι0:List Inf
 n:Nat
 I0:Nat->Prop
structure Rel(E:Cx)(L:Env)(h:aD)(ι:List Inf)(I:Nat->Prop)(a:Act)(w:World):Prop where
 aO:∀t v,L.lookup t=some v->∃c,a.tmps[t]? =some c/\AR ι I w v c
 heap:HR ι I w h
 imm:∀b,I b->b<w.heap.size
 cY:∀b,I b->E.I0 b\/E.pass b\/E.w0.heap.size<=b
 pre:bn E.ι0 ι
 os:w.os=E.w0.os
 tape:w.tape=E.w0.tape
 output:w.output=E.w0.output
 grown:E.w0.heap.size<=w.heap.size
 frame:∀b,b<E.w0.heap.size->¬E.pass b->w.heap[b]? =E.w0.heap[b]?
 cc:∀(id:Nat)(o:Ob)(inf:Inf),h[id]?=some (some o)->ι[id]? =some inf->E.pass inf.block\/E.w0.heap.size<=inf.block
 defers:a.defers=[]
 size:a.tmps.size=E.n
def Sub(L L':Env):Prop:=∀t v,L.lookup t=some v->L'.lookup t=some v
theorem Rel.j4{E:Cx}{L L':Env}{h:aD}{ι:RV Inf}{I:Nat->Prop}{a:Act}{w:World}(r:Rel E L h ι I a w)(hs:Sub L' L):Rel E L' h ι I a w:=
 {r with aO:=λt v d=>r.aO t v (hs t v d)}
theorem Rel.put{E:Cx}{L:Env}{h:aD}{ι:RV Inf}{I:Nat->Prop}{a:Act}{w:World}(r:Rel E L h ι I a w){d:Nat}(hd:d<E.n){v:AV}{c:Value}(hc:AR ι I w v c):
  Rel E ((d,v)::L) h ι I (a.put (some d) c) w:=
 { r with
   aO:=λt u j=>by
     rw[NT]at j;by_cases e:t=d
     · subst e
       simp at j;subst j;exact⟨c,by simp[Act.put,r.size,hd],hc⟩
     · have y:(t==d)=false:=by simpa using e
       rw[y]at j;obtain⟨A,h1,h2⟩:=r.aO t u j;exact⟨A,by simp only[Act.put];rw[O8 A1];exact h1,h2⟩
   defers:=r.defers
   size:=by simp[Act.put,r.size]}
def de:Value->Bool
 | .bool _=>true
 | .int k n=>(Lit.int k n).wf
 | .string s=>decide (s.size<=maxLen)
 | .slice none 0 0=>true
 | .pointer none=>true
 | .map none=>true
 | .nilFunc=>true
 | .nilIface=>true
 |_=>false
theorem mM{v:Value}(h:de v=true):cq v:=by
 unfold de at h;unfold cq;split at h<;>simp_all
def nC:Value->Y AV
 | .agg cs=>if cs.toList.all de then some (.agg (cs.toList.map V.lit))else none
 |v=>if de v then some (.one (.lit v))else none
def ev(L:Env):Operand->Y AV
 | .tmp t=>L.lookup t
 | .const v=>nC v
 | .func f=>some (.one (.clo (.func f) []))
 | .global _=>none
theorem zI{ι:RV Inf}{I:Nat->Prop}{w:World}{u:Value}{v:AV}(h:nC u=some v):AR ι I w v u:=by
 unfold nC at h;split at h
 .rename_i cs;split at h
  .rename_i d;cases h;rw[aT]at d;refine .agg (f:=λj=>cs.getD j undef) C3 (λj t=>by simp at t;simp[t]) (λj t=> ?_);have y:j<cs.size:=N0
   simp only[NY,Array.getElem_toList];have:=d cs[j] C3;have e:cs.getD j undef=cs[j]:=by simp[y]
   rw[e];exact .lit (mM this)
  .cases h
 .split at h
  .rename_i A;cases h;exact .one (.lit (mM A))
  .cases h
theorem Rel.ev{E:Cx}{L:Env}{h:aD}{ι:RV Inf}{I:Nat->Prop}{a:Act}{w:World}(r:Rel E L h ι I a w){x:Operand}{v:AV}(d:ev L x=some v):AR ι I w v (a.eval x):=by
 cases x with
 | tmp t=>
  obtain⟨c,h1,h2⟩:=r.aO t v d;have:a.eval (.tmp t)=c:=by simp[Act.eval,h1]
  rw[this];exact h2
 |const u=>exact zI d
 | func f=>
  simp[Abs.ev]at d;subst d;exact .one (.clo (f:=λ_=>undef) rfl (λj y=>by simp at y) (λj y=>by simp at y))
 |global g=>simp[Abs.ev]at d
def Ke(E:Cx)(Q:Exit->Env->aD->Prop):Exit->Act->World->Prop:=λe a w=>∃L h ι I,Q e L h/\Rel E L h ι I a w
theorem DV{E:Cx}{Q Q':Exit->Env->aD->Prop}(d:∀e L h,Q e L h->Q' e L h){e:Exit}{a:Act}{w:World}(h:Ke E Q e a w):Ke E Q' e a w:=by
 obtain⟨L,hp,ι,I,q,r⟩:=h;exact⟨L,hp,ι,I,d _ _ _ q,r⟩
structure aw(P:Program)(c:Code)(E:Cx)(Q:Exit->Env->aD->Prop)(L:Env)(h:aD):Prop where
 get:∀ι I a w,Rel E L h ι I a w->c.wp P (Ke E Q) a w
def EY(next:Env->aD->Prop)(Q:Exit->Env->aD->Prop):Exit->Env->aD->Prop
 | .normal,L,h=>next L h
 |e,L,h=>Q e L h
def zj(id:Nat)(Q:Exit->Env->aD->Prop):Exit->Env->aD->Prop
 | .exit id',L,h=>if id'=id then Q .normal L h else Q (.exit id') L h
 |e,L,h=>Q e L h
section
variable {P : Program} {E : Cx} {Q Q' : Exit → Env → aD → Prop} {L : Env} {h : aD}
theorem nc{c:Code}(d:∀e L h,Q e L h->Q' e L h)(j:aw P c E Q L h):aw P c E Q' L h:=
 ⟨λι I a w r=>wp_mono (j.get ι I a w r) λ_ _ _=>DV d⟩
theorem JX(d:Q .normal L h):aw P .skip E Q L h:=⟨λι I _ _ r=>wp_skip ⟨L,h,ι,I,d,r⟩⟩
theorem L8(d:Q .ret L h):aw P .ret E Q L h:=⟨λι I _ _ r=>wp_ret ⟨L,h,ι,I,d,r⟩⟩
theorem JA{id:Nat}(d:Q (.exit id) L h):aw P (.exit id) E Q L h:=⟨λι I _ _ r=>wp_exit ⟨L,h,ι,I,d,r⟩⟩
theorem MC{x y:Code}(t:aw P x E (EY (aw P y E Q) Q) L h):aw P (.seq x y) E Q L h:=by
 refine⟨λι I a w r=> ?_⟩;refine wp_seq (wp_mono (t.get ι I a w r) ?_);rintro e v w' ⟨L',h',ι',d,q,j⟩;cases e with
 |normal=>exact aw.get q ι' d v w' j
 |_=>exact⟨L',h',ι',d,q,j⟩
theorem FM{id:Nat}{c:Code}(t:aw P c E (zj id Q) L h):aw P (.block id c) E Q L h:=by
 refine⟨λι I a w r=> ?_⟩;refine wp_block (wp_mono (t.get ι I a w r) ?_);rintro e v w' ⟨L',h',ι',d,q,j⟩;cases e with
 | exit id'=>
  simp only[Exit.inBlock];simp only[zj]at q;split
  .rename_i e;rw[N1 e]at q;exact⟨L',h',ι',d,q,j⟩
  .rename_i e;rw[N3 e]at q;exact⟨L',h',ι',d,q,j⟩
 |_=>exact⟨L',h',ι',d,q,j⟩
theorem AR.bool{ι:RV Inf}{I:Nat->Prop}{w:World}{b:Bool}{c:Value}(h:AR ι I w (.one (.lit (.bool b))) c):c= .bool b:=by
 cases h with
 |one h=>cases h with|lit h=>rfl
theorem IN{c:Operand}{x y:Code}{t:Bool}(hc:ev L c=some (.one (.lit (.bool t))))(ht:t=true->aw P x E Q L h)(d:t=false->aw P y E Q L h):aw P (.cond c x y) E Q L h:=by
 refine⟨λι I a w r=> ?_⟩;exact wp_cond_split (r.ev hc).bool (λe=>(ht e).get ι I a w r) (λe=>(d e).get ι I a w r)
theorem Ji{c:Code}(Inv:Nat->Env->aD->Prop){n:Nat}{B:Env}(hs:Sub B L)(h0:Inv n B h)
  (round:∀n L h,Inv n L h->aw P c E (EY (λL' h'=>∃m y,m<n/\Sub y L'/\Inv m y h') Q) L h):aw P (.loop c) E Q L h:=by
 refine⟨λι I a w r=> ?_⟩;intro b k cs
 have key:∀n L h ι I a w,Inv n L h->Rel E L h ι I a w->
   ∃e A w',Ke E Q e A w'/\Arrives P (lone (b.at a (.code c:: .inLoop c::k)) cs w) b k cs e A w':=by
  intro n
  induction n using Nat.strongRecOn with
  | _ n G=>
   intro L h ι I a w H r;obtain⟨e,a₁,w₁,⟨L1,h1,j,t,q,v⟩,d⟩:=(round n L h H).get ι I a w r b (.inLoop c::k) cs;cases e with
   | normal=>
    obtain⟨m,L2,hlt,C,D⟩:=q;obtain⟨e₂,a₂,w₂,F₂,d₂⟩:=G m hlt L2 h1 j t a₁ w₁ D (v.j4 C);exact⟨e₂,a₂,w₂,F₂,.of_steps (Steps.trans d (.one step_inLoop)) d₂⟩
   |exit id=>exact Ra
   |goto l=>exact Ra
   |ret=>exact Ra
   |panic ch=>exact Ra
   |outgrown=>exact Ra
 obtain⟨e,A,w',F,d⟩:=key n B h ι I a w h0 (r.j4 hs);exact⟨e,A,w',F,.of_steps (.one step_loop) d⟩
theorem xx(L:Env):Sub L L:=λ_ _ h=>h
end
theorem zA{L Lf:Env}{t:Nat}{v:AV}(h:L.lookup t=some v):(L++Lf).lookup t=some v:=by
 induction L with
 |nil=>simp at h
 | cons p L d=>
  obtain⟨k,x⟩:=p;rw[Pn,NT];rw[NT]at h;split
  .grind
  .grind
theorem JL(L Lf:Env):Sub L (L++Lf):=λ_ _ h=>zA h
theorem Rel.low{E:Cx}{L Lf:Env}{h:aD}{ι:RV Inf}{I:Nat->Prop}{a:Act}{w:World}(r:Rel E (L++Lf) h ι I a w):Rel E L h ι I a w:=r.j4 (JL L Lf)
structure ar(P:Program)(o:Oper)(E:Cx)(K:Env->aD->Prop)(L:Env)(h:aD):Prop where
 get:∀Lf ι I a w,Rel E (L++Lf) h ι I a w->o.wp P a w (λa' w'=>∃L' h' ι' I',K L' h'/\Rel E (L'++Lf) h' ι' I' a' w') (λ_ _ _=>False)
structure ao(P:Program)(ops:Array Oper)(rest:List Oper)(E:Cx)(K:Env->aD->Prop)(L:Env)(h:aD):Prop where
 get:∀ι I a w (Q:Exit->Act->World->Prop),(∀a' w',(∃L' h' ι' I',K L' h'/\Rel E L' h' ι' I' a' w')->Q .normal a' w')->Rel E L h ι I a w->wpList P ops Q rest a w
theorem kD{P:Program}{o:Oper}{a:Act}{w:World}{K t:Act->World->Prop}{Q Q':Exit->Act->World->Prop}(h:∀a w,K a w->t a w)(j:∀e a w,Q e a w->Q' e a w)
  (d:o.wp P a w K Q):o.wp P a w t Q':=by
 unfold Oper.wp at*;generalize (execOp a.eval o).run P w=r at*;cases r with
 | ok n w'=>
  cases n<;>simp only[Oper.upon]at d ⊢<;>
   first
    |exact h _ _ d
    | exact Calls.mono d (fun e A he=>by
      cases e with
      |returned v=>exact h _ _ he
      |panicked c=>exact j _ _ _ he
      |outgrown=>obtain⟨x,y,z⟩:=he;exact⟨x,y,j _ _ _ z⟩)
    |exact Rows.mono d (λ_ _ he=>h _ _ he)
 |halt x w'=>cases x<;>simp only[Oper.upon]at d ⊢<;>first|exact j _ _ _ d|exact d
section
variable {P : Program} {E : Cx} {Q : Exit → Env → aD → Prop} {K : Env → aD → Prop} {L : Env} {h : aD} {ops : Array Oper} {rest : RV Oper} {o : Oper}
theorem CM{id:Nat}{l:RV Oper}(d:ao P l.toArray l E (Q .normal) L h):aw P (.region id l.toArray false) E Q L h:=
 ⟨λι I a w r=>wp_region_lit (d.get ι I a w _ (λ_ _ ⟨L',h',ι',j,k,t⟩=>⟨L',h',ι',j,k,t⟩) r)⟩
theorem LN(d:K L h):ao P ops [] E K L h:=⟨λι I _ _ _ j r=>wpList_nil (j _ _ ⟨L,h,ι,I,d,r⟩)⟩
theorem vi(d:o.guard=none)(j:ar P o E (ao P ops rest E K) L h):ao P ops (o::rest) E K L h:=by
 refine⟨λι I a w Q t r=> ?_⟩;refine wpList_plain d λB hK=> ?_;exact kD (λv w' ⟨L',h',ι',y,k,A⟩=>hK _ _ (k.get ι' y v w' Q t A.low)) (λ_ _ _ f=>f.elim) (j.get [] ι I a w (by rw[Ok];exact r))
def cn(ops:Array Oper)(j:Nat):Y Nat:=(ops[j]?).bind (·.dst)
theorem Rel.yields{ι:RV Inf}{I:Nat->Prop}{a:Act}{w:World}(r:Rel E L h ι I a w){j d:Nat}{p:Bool}(t:cn ops j=some d)(hd:L.lookup d=some (.one (.lit (.bool p)))):yielded ops a.tmps j=some p:=by
 obtain⟨c,h1,h2⟩:=r.aO d _ hd;have:=h2.bool;subst this;unfold yielded;unfold cn at t;rw[t];simp[h1]
theorem AR.none_{ι:RV Inf}{I:Nat->Prop}{w:World}:AR ι I w (.tup []) undef:=.tup (f:=λ_=>undef) rfl (λj d=>QV) (λj d=>QV)
theorem Na{j d:Nat}{p t:Bool}(v:o.guard=some (j,t))(y:cn ops j=some d)(hd:L.lookup d=some (.one (.lit (.bool p))))(hp:p=t)(A:ar P o E (ao P ops rest E K) L h):ao P ops (o::rest) E K L h:=by
 refine⟨λι I a w Q B r=> ?_⟩;refine wpList_step λH hK=> ?_;have C:=r.yields (ops:=ops) y hd;rw[N1 (by simp[Region.wanted,v,C,hp])];exact kD (λD w' ⟨L',h',ι',F,k,G⟩=>hK _ _ (k.get ι' F D w' Q B G.low)) (λ_ _ _ f=>f.elim) (A.get [] ι I a w (by rw[Ok];exact r))
theorem J9{j d y:Nat}{p t:Bool}(A:o.guard=some (j,t))(B:cn ops j=some d)(hd:L.lookup d=some (.one (.lit (.bool p))))(hp:p= !t)(v:o.dst=some y)(C:y<E.n)
  (D:ao P ops rest E K ((y,.tup [])::L) h):ao P ops (o::rest) E K L h:=by
 refine⟨λι I a w Q F r=> ?_⟩;refine wpList_step λH hK=> ?_;have G:=r.yields (ops:=ops) B hd;rw[N3 (by simp[Region.wanted,A,G,hp]),v];exact hK _ _ (D.get ι I _ w Q F (r.put C AR.none_))
theorem Rel.yieldsU{ι:RV Inf}{I:Nat->Prop}{a:Act}{w:World}(r:Rel E L h ι I a w){j d:Nat}(t:cn ops j=some d)(hd:L.lookup d=some (.tup [])):yielded ops a.tmps j=none:=by
 obtain⟨c,h1,h2⟩:=r.aO d _ hd;cases h2;unfold yielded;unfold cn at t;rw[t];simp[h1]
theorem Hj{j d y:Nat}{t:Bool}(A:o.guard=some (j,t))(B:cn ops j=some d)(hd:L.lookup d=some (.tup []))(v:o.dst=some y)(C:y<E.n)
  (D:ao P ops rest E K ((y,.tup [])::L) h):ao P ops (o::rest) E K L h:=by
 refine⟨λι I a w Q F r=> ?_⟩;refine wpList_step λH hK=> ?_;have G:=r.yieldsU (ops:=ops) B hd;rw[N3 (by simp[Region.wanted,A,G]),v];exact hK _ _ (D.get ι I _ w Q F (r.put C AR.none_))
theorem bE{d:Nat}{v:AV}(hd:o.dst=some d)(j:d<E.n)
  (t:∀ι I a w,Rel E L h ι I a w->∃c,(execOp a.eval o).run P w= .ok (.value c) w/\AR ι I w v c) (hk:K ((d,v)::L) h):ar P o E K L h:=by
 refine⟨λLf ι I a w r=> ?_⟩;obtain⟨c,h1,h2⟩:=t ι I a w r.low;unfold Oper.wp;rw[h1,Oper.upon_value,hd];exact⟨_,h,ι,I,hk,r.put j h2⟩
end
def ARs(ι:RV Inf)(I:Nat->Prop)(w:World)(xs:RV AV)(cs:Array Value):Prop:=cs.size=xs.length/\∀(j:Nat)(d:j<xs.length),∃c,cs[j]? =some c/\AR ι I w xs[j] c
def gq(ι:RV Inf)(h:aD)(b:Nat):Prop:=∃(id:Nat)(o:Ob)(inf:Inf),h[id]? =some (some o)/\ι[id]? =some inf/\inf.block=b
structure Ih(w:World)(I:Nat->Prop)(ι:List Inf)(h:aD)(r:AV)(h':aD)(ι':List Inf)(I':Nat->Prop)(c:Value)(w':World):Prop where
 res:AR ι' I' w' r c
 heap:HR ι' I' w' h'
 imm:∀b,I' b->b<w'.heap.size
 cY:∀b,I' b->I b\/gq ι h b\/w.heap.size<=b
 pre:bn ι ι'
 os:w'.os=w.os
 tape:w'.tape=w.tape
 output:w'.output=w.output
 grown:w.heap.size<=w'.heap.size
 frame:∀b,b<w.heap.size->¬gq ι h b->w'.heap[b]? =w.heap[b]?
 cc:∀(id:Nat)(o:Ob)(inf:Inf),h'[id]?=some (some o)->ι'[id]? =some inf->gq ι h inf.block\/w.heap.size<=inf.block
def ga(P:Program)(f:FuncId):Prop:=∃fn,P.funcs[f]? =some fn/\(fn.name== "runtime.NumGoroutine")=false/\fn.body.isNone=false
def Fn(P:Program)(f:FuncId)(xs:RV AV)(h:aD)(R:AV->aD->Prop):Prop:=
 ga P f/\∀[Zb](w:World)(I:Nat->Prop)(ι:RV Inf)(cs:Array Value),HR ι I w h->(∀b,I b->b<w.heap.size)->ARs ι I w xs cs->
  Calls P f cs w λe w'=>∃r h' ι' d c,R r h'/\e= .returned c/\Ih w I ι h r h' ι' d c w'
theorem Fn.mono{P:Program}{f:FuncId}{xs:RV AV}{h:aD}{R j:AV->aD->Prop}(t:Fn P f xs h R)(hr:∀r h',R r h'->j r h'):Fn P f xs h j:=
 ⟨t.1,λw I ι cs a b c=>(t.2 w I ι cs a b c).mono λ_ _ ⟨r,h',ι',v,c,k,e,d⟩=>⟨r,h',ι',v,c,hr _ _ k,e,d⟩⟩
def fy:Nat->RV AV->Env
 |_,[]=>[]
 |k,x::xs=>(k,x)::fy (k+1) xs
theorem iR(xs:RV AV):∀(k t:Nat)(v:AV),(fy k xs).lookup t=some v->k<=t/\xs[t-k]? =some v:=by
 induction xs with
 |nil=>intro k t v h;simp[fy]at h
 | cons x xs d=>
  intro k t v h;simp only[fy,NT]at h;by_cases e:t=k
  .simp_all
  .grind
structure Res(P:Program)(fn:Func)(L:Env)(h:aD)(r:AV):Prop where
 get:∀E ι I a w,Rel E L h ι I a w->∃c,(results fn a.tmps).run P w= .ok c w/\AR ι I w r c
mutual
def AV.flat:AV->Bool
 | .one v=>v.flat
 | .agg vs=>vs.all V.flat
 | .tup xs=>AV.iK xs
 | .dead=>true
def AV.iK:RV AV->Bool
 |[]=>true
 |x::xs=>x.flat&&AV.iK xs
end
theorem AV.flats_mem{xs:RV AV}(h:AV.iK xs=true):∀x∈xs,x.flat=true:=by
 induction xs with
 |nil=>intro x hx;simp at hx
 | cons y ys d=>
  simp only[AV.iK,bA]at h;intro x hx;rcases List.mem_cons.1 hx with e|e
  .exact e▸h.1
  .grind
theorem AR.free{ι ι':RV Inf}{I:Nat->Prop}{w:World}{r:AV}{c:Value}(h:AR ι I w r c)(v:r.flat=true):AR ι' I w r c:=by
 induction h with
 |one h=>exact .one (h.free (by simpa [AV.flat]using v))
 |agg hl d hr=>exact .agg hl d (λj t=>(hr j t).free (aT.1 (by simpa only[AV.flat]using v) _ (gM t)))
 |tup hl d hr y=>exact .tup hl d (λj t=>y j t (AV.flats_mem (by simpa only[AV.flat]using v) _ (gM t)))
 |dead=>exact .dead
def Ob.flat:Ob->Bool
 | .row _ es=>es.all (·.all V.flat)
 | .map kvs=>kvs.all (·.2.all V.flat)
def Out(h0:aD)(R:AV->aD->Prop)(r:AV)(h:aD):Prop:=
 R r h\/∃h2 g,h=h2++g/\r.flat=true/\h0.length<=h2.length/\(∀(id:Nat)(o:Ob),h2[id]? =some (some o)->h0[id]? =some (some o)\/o.flat=true)/\R r h2
theorem VR.cut{ι0 ι ι':RV Inf}{I0 I:Nat->Prop}{w0 w:World}{v:V}{F c:Value}(hp:∀(id:Nat)(inf inf':Inf),ι0[id]? =some inf->ι[id]? =some inf'->ι'[id]? =some inf')(h0:VR I0 w0 ι0 v F)(h:VR I w ι v c):VR I w ι' v c:=by
 induction h generalizing ι0 F with
 |lit h=>exact .lit h
 |dC hc=>exact .dC hc
 |imm hs hc hm A d hr B C=>exact .imm hs hc hm A d hr B
 |kA=>exact .kA
 |gk hs hm A d hr B C=>exact .gk hs hm A d hr B
 | own hi hl y hm=>
  cases h0 with
  |own t _ _ _=>exact .own (hp _ _ _ t hi) hl y hm
  |fT t _=>exact .own (hp _ _ _ t hi) hl y hm
 | fT hi y=>
  cases h0 with
  |own t _ _ _=>exact .fT (hp _ _ _ t hi) y
  |fT t _=>exact .fT (hp _ _ _ t hi) y
 |ptr hi=>cases h0 with|ptr t=>exact .ptr (hp _ _ _ t hi)
 |gy A d hr B C=>exact .gy A d hr B
 |clo hl D hr C=>cases h0 with|clo J G E=>exact .clo hl D (λj H=>C j H hp (E j H))
 |mp hi=>cases h0 with|mp t=>exact .mp (hp _ _ _ t hi)
theorem OR.cut{ι0 ι ι':RV Inf}{I0 I:Nat->Prop}{w0 w:World}{d inf:Inf}{o:Ob}(hp:∀(id:Nat)(inf inf':Inf),ι0[id]? =some inf->ι[id]? =some inf'->ι'[id]? =some inf')(h0:OR ι0 I0 w0 d o)(h:OR ι I w inf o):OR ι' I w inf o:=by
 cases o with
 | row s es=>
  obtain⟨cur,t,h1,h2,A,h4,B,C,D⟩:=h;obtain⟨_,_,_,_,_,_,_,_,E⟩:=h0;refine⟨cur,t,h1,h2,A,h4,B,C,λk hk j v=> ?_⟩;obtain⟨u,F,G⟩:=D k hk j v;obtain⟨_,_,H⟩:=E k hk j v;exact⟨u,F,H.cut hp G⟩
 | map kvs=>
  obtain⟨J,clock,h1,h2,A,h4,B⟩:=h;obtain⟨_,_,_,_,K,_⟩:=h0;refine⟨J,clock,h1,h2,λs vs hs=> ?_,h4,B⟩;obtain⟨e,he,y,f,L,M,N,O⟩:=A s vs hs;obtain⟨_,_,_,_,_,_,_,P⟩:=K s vs hs;exact⟨e,he,y,f,L,M,N,λj v=>(P j v).cut hp (O j v)⟩
theorem OR.free{ι ι':RV Inf}{I:Nat->Prop}{w:World}{inf:Inf}{o:Ob}(D:o.flat=true)(h:OR ι I w inf o):OR ι' I w inf o:=by
 cases o with
 | row s es=>
  obtain⟨cur,t,h1,h2,B,h4,C,H,J⟩:=h;refine⟨cur,t,h1,h2,B,h4,C,H,λk hk j v=> ?_⟩;obtain⟨u,K,L⟩:=J k hk j v;have d:(es.all λx=>x.all V.flat)=true:=by simpa only[Ob.flat]using D
  have:=aT.1 (aT.1 d _ (gM hk)) _ (gM v);exact⟨u,K,L.free this⟩
 | map kvs=>
  obtain⟨M,clock,h1,h2,B,h4,C⟩:=h;refine⟨M,clock,h1,h2,λs vs hs=> ?_,h4,C⟩;obtain⟨e,he,y,f,N,E,F,G⟩:=B s vs hs;have A:(s,vs)∈kvs:=by
   clear h1 h2 B h4 C E F G D
   induction kvs with
   |nil=>simp[gw]at hs
   | cons p kvs O=>
    obtain⟨a,b⟩:=p;simp only[gw]at hs;split at hs
    .grind
    .grind
  have d:(kvs.all λx=>x.2.all V.flat)=true:=by simpa only[Ob.flat]using D
  exact⟨e,he,y,f,N,E,F,λj v=>(G j v).free (aT.1 (aT.1 d _ A) _ (gM v))⟩
structure cQ(L:Env)(h:aD)(L2:Env)(h2:aD):Prop where
 get:∀E ι I a w,Rel E L h ι I a w->∃I',Rel E L2 h2 ι I' a w
theorem cQ.refl(L:Env)(h:aD):cQ L h L h:=⟨λ_ _ I _ _ r=>⟨I,r⟩⟩
theorem cQ.trans{L L2 d:Env}{h h2 j:aD}(a:cQ L h L2 h2)(b:cQ L2 h2 d j):cQ L h d j:=⟨λE ι I x w r=>let⟨t,v⟩:=a.get E ι I x w r;b.get E ι t x w v⟩
theorem yp{P:Program}{E:Cx}{Q:Exit->Env->aD->Prop}{L L2:Env}{h h2:aD}{c:Code}(s:cQ L h L2 h2)(d:aw P c E Q L2 h2):aw P c E Q L h:=⟨λι I a w r=>let⟨j,t⟩:=s.get E ι I a w r;d.get ι j a w t⟩
theorem F4{P:Program}{E:Cx}{K:Env->aD->Prop}{L L2:Env}{h h2:aD}{ops:Array Oper}{rest:RV Oper}(s:cQ L h L2 h2)(d:ao P ops rest E K L2 h2):ao P ops rest E K L h:=⟨λι I a w Q j r=>let⟨t,v⟩:=s.get E ι I a w r;d.get ι t a w Q j v⟩
def M8(P:Program)(fn:Func)(h0:aD)(R:AV->aD->Prop):Exit->Env->aD->Prop
 | .normal,L,h| .ret,L,h=>∃L2 h2 r,cQ L h L2 h2/\Res P fn L2 h2 r/\Out h0 R r h2
 |_,_,_=>False
theorem xY{w:World}{I:Nat->Prop}{ι:RV Inf}{h:aD}{n:Nat}{L':Env}{h':aD}{ι':RV Inf}{d:Nat->Prop}{H:Act}{w':World}{r:AV}{c:Value}{R:AV->aD->Prop}(E:HR ι I w h)(rel:Rel ⟨w,gq ι h,ι,n,I⟩ L' h' ι' d H w')(h2:AR ι' d w' r c)(t:Out h R r h'):
  ∃r h' ι' d,R r h'/\Ih w I ι h r h' ι' d c w':=by
 rcases t with t|⟨j,g,rfl,C,J,v,t⟩
 .exact⟨r,h',ι',d,t,⟨h2,rel.heap,rel.imm,rel.cY,rel.pre,rel.os,rel.tape,rel.output,rel.grown,rel.frame,rel.cc⟩⟩
 .have bJ:=rel.heap.len;simp at bJ;have up:∀{id:Nat}{o:Ob},j[id]? =some (some o)->(j++g)[id]? =some (some o):=λx=>Hd
  have A:∀{id:Nat}{inf:Inf},(ι'.take j.length)[id]? =some inf->ι'[id]? =some inf:=λ{id inf} x=>Hd
  have F:=E.len;have hp:∀(id:Nat)(inf inf':Inf),ι[id]? =some inf->ι'[id]? =some inf'->(ι'.take j.length)[id]? =some inf':=λid inf inf' x y=>Hd
  refine⟨r,j,ι'.take j.length,d,t,⟨h2.free C,⟨D5,λid o inf x y=> ?_,λid o inf x y=>rel.heap.off id o inf (up x) (A y),λid id' o o' inf inf' x K y L e=>rel.heap.inj id id' o o' inf inf' (up x) (up K) (A y) (A L) e,rel.heap.sub⟩,rel.imm,rel.cY,λid inf x=>hp id inf inf x (rel.pre id inf x),rel.os,rel.tape,rel.output,rel.grown,rel.frame,λid o inf x y=>rel.cc id o inf (up x) (A y)⟩⟩;have B:=rel.heap.obj id o inf (up x) (A y);rcases v id o x with G|D
  .have hlt:id<ι.length:=by have:=(gI.1 G).1;omega
   exact(E.obj id o _ G (gE hlt)).cut hp B
  .exact B.free D
theorem wI{P:Program}{f:FuncId}{fn:Func}{c:Code}{xs:RV AV}{h:aD}{R:AV->aD->Prop}(D:P.funcs[f]? =some fn)(hb:fn.body=some c)(hx:xs.length<=fn.ntmps)
  {w:World} {I:Nat->Prop} {ι:RV Inf} {cs:Array Value} (C:HR ι I w h) (F:∀b,I b->b<w.heap.size) (hA:ARs ι I w xs cs) (G:aw P c ⟨w,gq ι h,ι,fn.ntmps,I⟩ (M8 P fn h R) (fy 0 xs) h):
  Calls P f cs w λe w'=>∃r h' ι' d c,R r h'/\e= .returned c/\Ih w I ι h r h' ι' d c w':=by
 refine calls_of_wp D hb ?_
 let E:Cx:=⟨w,gq ι h,ι,fn.ntmps,I⟩
 have hr:Rel E (fy 0 xs) h ι I {tmps:=cs++Array.replicate (fn.ntmps-cs.size) undef,defers:=[]} w:=
  { aO:=fun t v H=>by
      obtain⟨_,h2⟩:=iR xs 0 t v H;rw[Nat.sub_zero]at h2;obtain⟨hlt,rfl⟩:=gI.1 h2;obtain⟨c,J,h4⟩:=hA.2 t hlt;exact⟨c,by rw[OC (by rw[hA.1];exact hlt)];exact J,h4⟩
    heap:=C
    imm:=F
    cY:=λ_ hb=>.inl hb
    pre:=bn.refl _
    os:=rfl
    tape:=rfl
    output:=rfl
    grown:=N4 _
    frame:=λ_ _ _=>rfl
    cc:=λid o inf h1 h2=>.inl ⟨id,o,inf,h1,h2,rfl⟩
    defers:=rfl
    size:=by
      show (cs++Array.replicate (fn.ntmps-cs.size) undef).size=fn.ntmps;have:=hA.1;simp;omega}
 refine wp_mono (G.get ι I _ w hr) ?_
 have y:∀{j:Act}{w':World}{L':Env}{h':aD}{ι':RV Inf}{d:Nat->Prop},(∃L2 h2 r,cQ L' h' L2 h2/\Res P fn L2 h2 r/\Out h R r h2)->Rel E L' h' ι' d j w'->
   j.defers=[]/\∃v,(results fn j.tmps).run P w'= .ok v w'/\∃r h' ι' d c,R r h'/\(Ending.returned v)= .returned c/\Ih w I ι h r h' ι' d c w':=by
  rintro j w' O K ι' B ⟨L',h',r,L,hr,M⟩ A;obtain⟨d,rel⟩:=L.get E ι' B j w' A;obtain⟨c,h1,h2⟩:=hr.get E ι' d j w' rel;refine⟨rel.defers,c,h1,?_⟩;obtain⟨r,h',ι',d,k1,N⟩:=xY C rel h2 M;exact⟨r,h',ι',d,c,k1,rfl,N⟩
 rintro e j w' ⟨L',h',ι',d,q,rel⟩;cases e with
 |normal=>exact y q rel
 |ret=>exact y q rel
 |exit id=>exact q.elim
 |goto l=>exact q.elim
 |panic ch=>exact q.elim
 |outgrown=>exact q.elim
theorem Id{P:Program}{f:FuncId}{fn:Func}{c:Code}{xs:RV AV}{h:aD}{R:AV->aD->Prop}(hf:P.funcs[f]? =some fn)(hb:fn.body=some c)(hname:(fn.name== "runtime.NumGoroutine")=false)(hx:xs.length<=fn.ntmps)
  (hh:∀[Zb](E:Cx),E.n=fn.ntmps->aw P c E (M8 P fn h R) (fy 0 xs) h):Fn P f xs h R:=
 ⟨⟨fn,hf,hname,by simp[hb]⟩,λ_ _ _ _ hH hI hA=>wI hf hb hx hH hI hA (hh _ rfl)⟩
def evs(L:Env):RV Operand->Y (RV AV)
 |[]=>some []
 | x::xs=>match ev L x,evs L xs with
  |some v,some vs=>some (v::vs)
  |_,_=>none
theorem Rel.evs{E:Cx}{L:Env}{h:aD}{ι:RV Inf}{I:Nat->Prop}{a:Act}{w:World}(r:Rel E L h ι I a w):∀{ops:RV Operand}{xs:RV AV},evs L ops=some xs->ARs ι I w xs (ops.map a.eval).toArray:=by
 intro ops
 induction ops with
 |nil=>intro xs h;simp[Abs.evs]at h;subst h;exact⟨rfl,λj d=>QV⟩
 | cons x ops t=>
  intro xs h;simp only[Abs.evs]at h;cases hx:Abs.ev L x with
  |none=>simp[hx]at h
  | some v=>
   cases hr:Abs.evs L ops with
   |none=>simp[hx,hr]at h
   | some vs=>
    simp[hx,hr]at h;subst h;obtain⟨h1,h2⟩:=t hr;refine⟨by simp at h1;simp[h1],λj d=> ?_⟩;cases j with
    |zero=>exact⟨_,rfl,r.ev hx⟩
    | succ j=>
     obtain⟨c,y,h4⟩:=h2 j Q1;exact⟨c,by simpa using y,h4⟩
theorem G4{P:Program}{E:Cx}{K:Env->aD->Prop}{L:Env}{h:aD}{f:FuncId}{xs:RV AV}{o:Oper}{cs:Act->Array Value}{d:Nat}{R:AV->aD->Prop}(hd:o.dst=some d)(Q:d<E.n)
  (C:∀a w,(∃ι I,Rel E L h ι I a w)->(execOp a.eval o).run P w= .ok (.enter f (cs a)) w) (N:∀ι I a w,Rel E L h ι I a w->ARs ι I w xs (cs a)) (S:Fn P f xs h R) (hk:∀r h',R r h'->K ((d,r)::L) h'):ar P o E K L h:=by
 refine⟨λLf ι I a w r=> ?_⟩;unfold Oper.wp;rw[C a w ⟨ι,I,r.low⟩,Oper.upon_enter];refine(S.2 w I ι (cs a) r.heap r.imm (N ι I a w r.low)).mono ?_;rintro e w' ⟨v,h',ι',M,c,T,rfl,D⟩;rw[hd];have O:cB I (λb=>I b\/M b) w w':=⟨λb hb=>.inl hb,λb hb=>by
  rw[D.frame b (r.imm b hb) (λ⟨id,o,inf,x,y,e⟩=>r.heap.off id o inf x y (e▸hb))]⟩
 have B:cB M (λb=>I b\/M b) w' w':=⟨λb hb=>.inr hb,λ_ _=>rfl⟩;refine⟨_,h',ι',λb=>I b\/M b,hk v h' T,Rel.put (c:=c) ?_ Q (D.res.aB (bn.refl _) B)⟩;exact
 { aO   :=fun t u U=>let⟨c,x,y⟩:=r.aO t u U;⟨c,x,y.aB D.pre O⟩
   heap := ⟨D.heap.len,fun id o inf x y=>(D.heap.obj id o inf x y).aB (bn.refl _) B rfl,fun id o inf x y hb=>by
     rcases hb with hb|hb
     · rcases D.cc id o inf x y with⟨A,F,j,G,H,J⟩|hge
       · exact r.heap.off A F j G H (J▸hb)
       · have:=r.imm _ hb;omega
     · exact D.heap.off id o inf x y hb,D.heap.inj,λb c t hb=>.inl (r.heap.sub b c t hb)⟩
   imm:=λb hb=>by
     rcases hb with hb|hb
     · have:=r.imm b hb;have:=D.grown;omega
     · exact D.imm b hb
   cY:=λb hb=>by
     rcases hb with hb|hb
     · exact r.cY b hb
     · rcases D.cY b hb with hb|⟨A,F,j,G,H,J⟩|hb
       · exact r.cY b hb
       · rw[<-J];exact .inr (r.cc A F j G H)
       · exact .inr (.inr (NS r.grown hb))
   pre:=r.pre.trans D.pre
   os:=D.os.trans r.os
   tape:=D.tape.trans r.tape
   output:=D.output.trans r.output
   grown:=NS r.grown D.grown
   frame:=λb x y=>by
     rw [D.frame b PQ (fun⟨id,o,inf,V,W,e⟩=>by
       rcases r.cc id o inf V W with hp|hp
       · grind
       · omega)]
     exact r.frame b x y
   cc:=λid o inf x y=>by
     rcases D.cc id o inf x y with⟨A,F,j,G,H,J⟩|hge
     · rw[<-J];exact r.cc A F j G H
     · exact .inr PQ
   defers:=r.defers
   size:=r.size}
theorem ga.run{P:Program}{f:FuncId}(h:ga P f)(ac:Array Value)(w:World):(callFunc f ac).run P w= .ok (.enter f ac) w:=by
 obtain⟨fn,h1,h2,h3⟩:=h;have h2':¬(fn.name= "runtime.NumGoroutine"):=HA
 have h3':¬(fn.body=none):=by intro e;simp[e]at h3
 simp[callFunc,program,Sem.run,bind,Sem.bind,h1,h2',h3']
theorem AR.lit{ι:RV Inf}{I:Nat->Prop}{w:World}{u c:Value}(h:AR ι I w (.one (.lit u)) c):c=u/\cq u:=by
 cases h with
 |one h=>cases h with|lit h=>exact⟨rfl,h⟩
structure ElI where
 t:Nat
 size:Nat
 bytes:Nat
 zero:List Value
structure TyI where
 desc:TypeDesc
 agg:Bool
 size:Nat
 bytes:Nat
 zero:List Value
 elem:Y ElI
 fields:List (Nat×Nat×Nat)
def eH(P:Program)(t:TypeId):Nat:=((P.info? t).map (·.size)).getD 0
def lW(P:Program)(t:TypeId):RV Value:=match (P.info? t).bind (·.zero)with|some v=>v.cells.toList|none=>[]
def uL(P:Program)(t:TypeId):Y TyI:=
 match P.info? t,P.underlying t with
 | some i,some d=>some {
   desc:=d
   agg:=match d with| .struct _| .array _ _=>true|_=>false
   size:=i.size
   bytes:=i.bytes
   zero:=lW P t
   elem:=match d with| .slice e=>some ⟨e,eH P e,((P.info? e).map (·.bytes)).getD 0,lW P e⟩|_=>none
   fields:=match d with| .struct h=>h.toList.map λf=>(f.offset,f.type,eH P f.type)|_=>[]}
 |_,_=>none
abbrev Tbl:=RV (Nat×TyI)
def cV(P:Program)(tb:Tbl):Prop:=∀t i,tb.lookup t=some i->uL P t=some i
theorem qR(P:Program):cV P []:=λt i h=>H0
theorem iZ{P:Program}{t:Nat}{i:TyI}{tb:Tbl}(h1:uL P t=some i)(h2:cV P tb):cV P ((t,i)::tb):=by
 intro u x hx;rw[NT]at hx;by_cases e:u=t
 .grind
 .have d:(u==t)=false:=Qu
  rw[d]at hx;exact h2 u x hx
theorem bV{P:Program}{t:TypeId}{i:TyI}(h:uL P t=some i):∃inf,P.info? t=some inf/\P.underlying t=some i.desc/\inf.size=i.size/\inf.bytes=i.bytes/\
  (i.agg=match i.desc with| .struct _| .array _ _=>true|_=>false)/\i.zero=lW P t/\
  (i.elem=match i.desc with| .slice e=>some ⟨e,eH P e,((P.info? e).map (·.bytes)).getD 0,lW P e⟩|_=>none)/\
  (i.fields=match i.desc with| .struct j=>j.toList.map λf=>(f.offset,f.type,eH P f.type)|_=>[]):=by
 unfold uL at h;cases h1:P.info? t with
 |none=>simp[h1]at h
 | some inf=>
  cases h2:P.underlying t with
  |none=>simp[h1,h2]at h
  | some d=>
   simp only[h1,h2,NQ]at h;subst h;exact⟨inf,rfl,rfl,rfl,rfl,rfl,rfl,rfl,rfl⟩
def gb(tb:Tbl)(t:TypeId):Y ElI:=(tb.lookup t).bind (·.elem)
theorem bL{P:Program}{tb:Tbl}(j:cV P tb){t:TypeId}{d:ElI}(h:gb tb t=some d):P.underlying t=some (.slice d.t)/\eH P d.t=d.size/\((P.info? d.t).map (·.bytes)).getD 0=d.bytes/\lW P d.t=d.zero:=by
 unfold gb at h;cases hl:tb.lookup t with
 |none=>simp[hl]at h
 | some i=>
  simp only[hl,bS]at h;obtain⟨inf,_,h2,_,_,_,_,v,_⟩:=bV (j t i hl);rw[v]at h;split at h
  .grind
  .cases h
theorem mD{P:Program}{t:TypeId}{n:Nat}(h:eH P t=n)(d:0<n):∃inf,P.info? t=some inf/\inf.size=n:=by
 unfold eH at h;cases hi:P.info? t with
 |none=>simp[hi]at h;omega
 |some inf=>simp[hi]at h;exact⟨inf,rfl,h⟩
section
variable {P : Program} {E : Cx} {K : Env → aD → Prop} {L : Env} {h : aD} {d : Nat} {ty : TypeId} {pos : String} {af : Array Edge} {gd : Y (Nat × Bool)}
theorem IV{x:Operand}{v:AV}(hx:ev L x=some v)(j:d<E.n)(hk:K ((d,v)::L) h):ar P ⟨some d,.move x,ty,pos,af,gd⟩ E K L h:=
 bE rfl j (λ_ _ a _ r=>⟨a.eval x,rfl,r.ev hx⟩) hk
theorem CI{x:Operand}{v:AV}(hx:ev L x=some v)(j:d<E.n)(hk:K ((d,v)::L) h):ar P ⟨some d,.assign x,ty,pos,af,gd⟩ E K L h:=
 bE rfl j (λ_ _ a _ r=>⟨a.eval x,rfl,r.ev hx⟩) hk
theorem Gp{c x y:Operand}{v:AV}{p:Bool}(hc:ev L c=some (.one (.lit (.bool p))))(hp:p=true)(hx:ev L x=some v)(j:d<E.n)(hk:K ((d,v)::L) h):ar P ⟨some d,.pick c x y,ty,pos,af,gd⟩ E K L h:=
 bE rfl j (λ_ _ a _ r=>⟨a.eval x,Qa,r.ev hx⟩) hk
theorem Fl{c x y:Operand}{v:AV}{p:Bool}(hc:ev L c=some (.one (.lit (.bool p))))(hp:p=false)(j:ev L y=some v)(t:d<E.n)(hk:K ((d,v)::L) h):ar P ⟨some d,.pick c x y,ty,pos,af,gd⟩ E K L h:=
 bE rfl t (λ_ _ a _ r=>⟨a.eval y,Qa,r.ev j⟩) hk
theorem fB{op:BinOp}{j C:TypeId}{x y:Operand}{u v c:Value}(hx:ev L x=some (.one (.lit u)))(D:ev L y=some (.one (.lit v)))
  (t:¬(u= .nilIface/\v= .nilIface)) (hr:∀w,(binOp op j u v).run P w= .ok c w) (hc:cq u->cq v->cq c) (F:d<E.n) (hk:K ((d,.one (.lit c))::L) h):ar P ⟨some d,.binOp op j x y C,ty,pos,af,gd⟩ E K L h:=
 bE rfl F (λ_ _ a w r=>by
  obtain⟨G,A⟩:=(r.ev hx).lit;obtain⟨H,B⟩:=(r.ev D).lit;refine⟨c,?_,.one (.lit (hc A B))⟩;have I:(eqGuard op j x y u v)= .pure ():=by
   cases u<;>cases v<;>first|exact absurd ⟨rfl,rfl⟩ t|exact A.elim|exact B.elim|(cases op<;>rfl)
  simp only[execOp,G,H,I,Sem.run_bind,Sem.run_pure',Result.andThen_ok,hr w,Sem.run_pure]) hk
theorem wf_i64{n:Int}(h1: -9223372036854775808<=n)(h2:n<=9223372036854775807):cq (.int .i64 n):=by
 show (Lit.int .i64 n).wf=true;exact Rc
theorem zm{n:Int}(h:cq (.int .i64 n)): -9223372036854775808<=n/\n<=9223372036854775807:=by
 have h:(Lit.int .i64 n).wf=true:=h;exact R9
theorem qn{n:Int}(h1: -9223372036854775808<=n)(h2:n<=9223372036854775807):IntKind.i64.wrap n=n:=IntWalk.i64_in _ ⟨h1,h2⟩
def bF:BinOp->Int->Int->Bool
 | .eql,a,b=>decide (a=b)
 | .neq,a,b=> !decide (a=b)
 | .lss,a,b=>decide (a<b)
 | .leq,a,b=>decide (a<=b)
 | .gtr,a,b=>decide (b<a)
 | .geq,a,b=>decide (b<=a)
 |_,_,_=>false
def K7:BinOp->Bool
 | .eql| .neq| .lss| .leq| .gtr| .geq=>true
 |_=>false
theorem gj{op:BinOp}{j t:TypeId}{x y:Operand}{k:IntKind}{a b:Int}(ho:K7 op=true)(hx:ev L x=some (.one (.lit (.int k a))))(v:ev L y=some (.one (.lit (.int k b))))(A:d<E.n)
  (hk:K ((d,.one (.lit (.bool (bF op a b))))::L) h):ar P ⟨some d,.binOp op j x y t,ty,pos,af,gd⟩ E K L h:=
 fB (c:=.bool (bF op a b)) hx v C3 (λw=>by cases op<;>first|(cases ho;done)|(simp[binOp,Op.intCmp,bF,bne];try rfl)) (λ_ _=>trivial) A hk
theorem LC{t v:TypeId}{x y:Operand}{a b:Int}(hx:ev L x=some (.one (.lit (.int .i64 a))))(A:ev L y=some (.one (.lit (.int .i64 b))))(j:0<=a)(hb:0<b)(B:d<E.n)
  (hk:K ((d,.one (.lit (.int .i64 (a%b))))::L) h):ar P ⟨some d,.binOp .rem t x y v,ty,pos,af,gd⟩ E K L h:=
 fB hx A C3 (λw=>by
  have:b≠0:=A1
  simp[binOp,Op.intDiv,this,Int.tmod_eq_emod_of_nonneg j]) (λho _=>by
  have h1:=zm ho;have h2:=Int.emod_nonneg a (b:=b) A1;have h4:=Int.emod_add_mul_ediv a b;have C:0<=b*(a / b):=Int.mul_nonneg A1 (Int.ediv_nonneg j A1);exact wf_i64 A1 A1) B hk
theorem LG{v A:TypeId}{x y:Operand}{a b:Int}(hx:ev L x=some (.one (.lit (.int .i64 a))))(B:ev L y=some (.one (.lit (.int .i64 b))))(j:0<=a)(hb:0<b)(C:d<E.n)
  (hk:K ((d,.one (.lit (.int .i64 (a / b))))::L) h):ar P ⟨some d,.binOp .quo v x y A,ty,pos,af,gd⟩ E K L h:=
 bE rfl C (λ_ _ D w r=>by
  obtain⟨F,G⟩:=(r.ev hx).lit;obtain⟨H,I⟩:=(r.ev B).lit;have h1:=zm G;have h2:0<=a / b:=Int.ediv_nonneg j A1;have J:a / b<=a:=Int.ediv_le_self b j;refine⟨_,?_,.one (.lit (wf_i64 (n:=a / b) A1 A1))⟩;have t:b≠0:=A1
  simp[execOp,F,H,eqGuard,binOp,Op.intDiv,t,Int.tdiv_eq_ediv_of_nonneg j,qn (n:=a / b) A1 A1]) hk
def bi(op:BinOp)(k:IntKind)(a b:Int):Int:=
 match op with
 | .and=>k.wrap ((BitVec.ofInt k.bits a&&&BitVec.ofInt k.bits b).toNat)
 | .or=>k.wrap ((BitVec.ofInt k.bits a|||BitVec.ofInt k.bits b).toNat)
 | .xor=>k.wrap ((BitVec.ofInt k.bits a^^^BitVec.ofInt k.bits b).toNat)
 | .andNot=>k.wrap ((BitVec.ofInt k.bits a&&& ~~~BitVec.ofInt k.bits b).toNat)
 | .shl=>k.wrap (a*2^min b.toNat k.bits)
 | .shr=>a.fdiv (2^min b.toNat k.bits)
 |_=>0
theorem vM(n:Int):cq (.int .i64 (IntKind.i64.wrap n)):=by
 rw[IntKind.wrap_i64];exact wf_i64 A1 A1
theorem qd{op:BinOp}{j t:TypeId}{x y:Operand}{a b:Int}(ho:(match op with| .and| .or| .xor| .andNot=>true|_=>false)=true)(hx:ev L x=some (.one (.lit (.int .i64 a))))(v:ev L y=some (.one (.lit (.int .i64 b))))(A:d<E.n)
  (hk:K ((d,.one (.lit (.int .i64 (bi op .i64 a b))))::L) h):ar P ⟨some d,.binOp op j x y t,ty,pos,af,gd⟩ E K L h:=
 fB hx v C3 (λw=>Q3) (λ_ _=>by cases op<;>first|(cases ho;done)|exact vM _) A hk
theorem Mn{j t : TypeId}{x y : Operand}{k:IntKind}{a b:Int}(hx:ev L x=some (.one (.lit (.int .i64 a))))(v:ev L y=some (.one (.lit (.int k b))))(hb:0<=b)(A:d<E.n)
  (hk:K ((d,.one (.lit (.int .i64 (bi .shl .i64 a b))))::L) h):ar P ⟨some d,.binOp .shl j x y t,ty,pos,af,gd⟩ E K L h:=
 fB     hx v  (by simp) (fun w => by have:¬b<0:=by omega
                                     simp only[binOp,Op.shift,this,if_false];rfl) (λ_ _=>vM _) A hk
theorem LH{j:TypeId}{x:Operand}{b:Bool}(hx:ev L x=some (.one (.lit (.bool b))))(t:d<E.n)(hk:K ((d,.one (.lit (.bool (!b))))::L) h):ar P ⟨some d,.unOp .not j x,ty,pos,af,gd⟩ E K L h:=
 bE rfl t (λ_ _ a w r=>⟨.bool (!b),by simp[execOp,(r.ev hx).bool,Op.unary],.one (.lit trivial)⟩) hk
def Fz:BinOp->Int->Int->Int
 | .add,a,b=>IntKind.i64.wrap (a+b)
 | .sub,a,b=>IntKind.i64.wrap (a-b)
 | .mul,a,b=>IntKind.i64.wrap (a*b)
 |_,_,_=>0
theorem qw{op:BinOp}{j t:TypeId}{x y:Operand}{a b:Int}(ho:(match op with| .add| .sub| .mul=>true|_=>false)=true)(hx:ev L x=some (.one (.lit (.int .i64 a))))(v:ev L y=some (.one (.lit (.int .i64 b))))(A:d<E.n)
  (hk:K ((d,.one (.lit (.int .i64 (Fz op a b))))::L) h):ar P ⟨some d,.binOp op j x y t,ty,pos,af,gd⟩ E K L h:=
 fB hx v C3 (λw=>by cases op<;>first|(cases ho;done)|(simp[binOp,Op.intArith,Fz])) (λ_ _=>by cases op<;>first|(cases ho;done)|exact vM _) A hk
theorem wn{a:Int}{n:Nat}(h1: -9223372036854775808<=a)(h2:a<=9223372036854775807): -9223372036854775808<=a.fdiv (2^n)/\a.fdiv (2^n)<=9223372036854775807:=by
 have hp:(0:Int)<2^n:=Int.pow_pos D2;rw[Ph _ (Pp hp)];constructor
 .have:=Int.mul_ediv_self_le (x:=a) (k:=2^n) A1;rcases Int.lt_or_le (a / 2^n) (-9223372036854775808)with h|h
  .have j:a / 2^n<0:=A1
   have h4:=Int.lt_mul_ediv_self_add (x:=a) hp;have t:2^n*(a / 2^n)<=1*(a / 2^n):=Int.mul_le_mul_of_nonpos_right A1 A1;rcases Int.lt_or_le a 0 with d|d
   .have:a<=a / 2^n:=by
     rw[Int.le_ediv_iff_mul_le hp];have:a*2^n<=a*1:=Int.mul_le_mul_of_nonpos_left A1 A1;omega
    omega
   .have:=Int.ediv_nonneg d (Pp hp);omega
  .exact h
 .rcases Int.lt_or_le a 0 with d|d
  .have:a / 2^n<0:=Int.ediv_neg_of_neg_of_pos d hp;omega
  .have:=Int.ediv_le_self (2^n) d;omega
theorem Lz{j t : TypeId}{x y : Operand}{k:IntKind}{a b:Int}(hx:ev L x=some (.one (.lit (.int .i64 a))))(v:ev L y=some (.one (.lit (.int k b))))(hb:0<=b)(A:d<E.n)
  (hk:K ((d,.one (.lit (.int .i64 (bi .shr .i64 a b))))::L) h):ar P ⟨some d,.binOp .shr j x y t,ty,pos,af,gd⟩ E K L h:=
 fB     hx v  (by simp) (fun w => by have:¬b<0:=by omega
                                     simp only[binOp,Op.shift,this,if_false];rfl) (λB _=>by
  have h1:=zm B;have:=wn (n:=min b.toNat IntKind.i64.bits) h1.1 h1.2;exact wf_i64 this.1 this.2) A hk
theorem Nz{n:Int}(h:cq (.int .u8 n)):0<=n/\n<=255:=by
 have h:(Lit.int .u8 n).wf=true:=h;exact R9
theorem DS{tb:Tbl}(v:cV P tb){t dst:TypeId}{x:Operand}{a:Int}{i j:TyI}(hx:ev L x=some (.one (.lit (.int .u8 a))))(hs:tb.lookup t=some i)(hd:tb.lookup dst=some j)(A:j.desc= .int .i64)(B:d<E.n)
  (hk:K ((d,.one (.lit (.int .i64 a)))::L) h):ar P ⟨some d,.convert t dst x,ty,pos,af,gd⟩ E K L h:=
 bE rfl B (λ_ _ C w r=>by
  obtain⟨D,F⟩:=(r.ev hx).lit;have hr:=Nz F;obtain⟨_,_,h2,_⟩:=bV (v t i hs);obtain⟨_,_,y,_⟩:=bV (v dst j hd);rw[A]at y;refine⟨.int .i64 a,?_,.one (.lit (wf_i64 A1 A1))⟩;simp[execOp,convert,run_underlying h2,run_underlying y,D,Conv.intToInt,qn (n:=a) A1 A1]) hk
end
section
variable {ι : RV Inf} {I : Nat → Prop} {w : World}
theorem AR.aY{v:V}{c:Value}(h:AR ι I w (.one v) c):VR I w ι v c:=by cases h with|one h=>exact h
theorem VR.mA{s:Nat}{es:RV (RV V)}{c:Value}(h:VR I w ι (.imm s es) c):∃A cap,c= .slice A es.length cap/\es.length<=cap/\cap<=9223372036854775807:=by
 cases h with
 |dC hc=>exact⟨_,_,rfl,N9 _,hc⟩
 |imm hs hc hm j d hr=>exact⟨_,_,rfl,hc,hm⟩
theorem VR.ownSlice{id off len:Nat}{c:Value}(h:VR I w ι (.own id off len) c):∃A cap,c= .slice A len cap/\len<=cap/\cap<=9223372036854775807:=by
 cases h with
 |own hi hl d hm=>exact⟨_,_,rfl,hl,hm⟩
 |fT hi d=>exact⟨_,_,rfl,N4 _,A1⟩
theorem VR.immAt{s:Nat}{es:RV (RV V)}{A:Y Addr}{n cap:Nat}(h:VR I w ι (.imm s es) (.slice A n cap)){k:Nat}{e:RV V}(hk:es[k]? =some e):
  ∃b off,A=some ⟨b,off,none⟩/\n=es.length/\k<n/\VR I w ι (.gy s e) (.pointer (some ⟨b,off+k*s,none⟩)):=by
 obtain⟨hlt,rfl⟩:=gI.1 hk;cases h with
 |dC hc=>simp at hlt
 | @imm _ _ b off _ _ f hs hc hm v d hr y=>
  refine⟨b,off,rfl,rfl,hlt,.gy (f:=f k) v (λj t=> ?_) (λj t=>hr k hlt j t) y⟩;have hl:=hs es[k] (gM hlt);have:=d k j hlt A1;rw[Oc];exact this
theorem AR.len{v:V}{n:Nat}{c:Value}(h:AR ι I w (.one v) c)(j:(∃s es,v= .imm s es/\es.length=n)\/(∃s es,v= .gk s es/\es.length=n)\/(∃id off,v= .own id off n)\/(v= .lit (.slice none 0 0)/\n=0)):
  ∃A cap,c= .slice A n cap/\n<=cap/\cap<=9223372036854775807:=by
 rcases j with⟨s,es,rfl,rfl⟩|⟨s,es,rfl,rfl⟩|⟨id,off,rfl⟩|⟨rfl,rfl⟩
 .exact h.aY.mA
 .cases h.aY with
  |kA=>exact⟨_,_,rfl,N4 _,C3⟩
  |gk hs hm t d hr=>exact⟨_,_,rfl,N4 _,hm⟩
 .exact h.aY.ownSlice
 .cases h.aY with|lit h=>exact⟨_,_,rfl,N4 _,C3⟩
end
def lenV:V->Y Nat
 | .imm _ es=>some es.length
 | .gk _ es=>some es.length
 | .own _ _ n=>some n
 | .lit (.slice none 0 0)=>some 0
 |_=>none
theorem AR.lenV{ι:RV Inf}{I:Nat->Prop}{w:World}{v:V}{n:Nat}{c:Value}(h:AR ι I w (.one v) c)(d:Abs.lenV v=some n):∃A cap,c= .slice A n cap/\n<=cap/\cap<=9223372036854775807:=by
 refine h.len ?_;unfold Abs.lenV at d;split at d
 .grind
 .grind
 .grind
 .grind
 .cases d
def uJ(agg:Bool)(size:Nat)(cs:RV V):Y AV:=
 if agg then (if size<=cs.length then some (.agg (cs.take size))else none)else cs.head?.map .one
section
variable {P : Program} {E : Cx} {K : Env → aD → Prop} {L : Env} {h : aD} {d : Nat} {ty : TypeId} {pos : String} {af : Array Edge} {gd : Y (Nat × Bool)} {tb : Tbl}
theorem Lp(j:cV P tb){t:TypeId}{x:Operand}{v:V}{n:Nat}{y:ElI}(hx:ev L x=some (.one v))(B:lenV v=some n)(he:gb tb t=some y)(C:d<E.n)(hk:K ((d,.one (.lit (.int .i64 n)))::L) h):
  ar P ⟨some d,.call ⟨.builtin .len,#[x],#[t]⟩,ty,pos,af,gd⟩ E K L h:=
 bE rfl C (λ_ _ a w r=>by
  obtain⟨A,cap,e,h1,h2⟩:=(r.ev hx).lenV B;refine⟨.int .i64 n,?_,.one (.lit (wf_i64 A1 A1))⟩;simp[execOp,resolve,invoke,builtin,Builtin.len_,e,run_underlying (bL j he).1,goInt]) hk
theorem DY(j:cV P tb){t:TypeId}{x:Operand}{s:Z}{i:TyI}(hx:ev L x=some (.one (.lit (.string s))))(ht:tb.lookup t=some i)(hi:i.desc= .string)(v:d<E.n)(hk:K ((d,.one (.lit (.int .i64 s.size)))::L) h):
  ar P ⟨some d,.call ⟨.builtin .len,#[x],#[t]⟩,ty,pos,af,gd⟩ E K L h:=
 bE rfl v (λ_ _ a w r=>by
  obtain⟨e,ho⟩:=(r.ev hx).lit;have ho:s.size<=maxLen:=ho;unfold maxLen at ho;obtain⟨_,_,h2,_⟩:=bV (j t i ht);rw[hi]at h2;refine⟨.int .i64 s.size,?_,.one (.lit (wf_i64 A1 A1))⟩;simp[execOp,resolve,invoke,builtin,Builtin.len_,e,run_underlying h2,goInt]) hk
theorem cd{t:TypeId}{n:Nat}(h:eH P t=n)(d:0<n)(w:World):(sizeOf t).run P w= .ok n w:=by
 obtain⟨inf,h1,h2⟩:=mD h d;simp[sizeOf,typeInfo,h1,h2]
theorem dd(b off n:Nat):(⟨b,off,none⟩:Addr).add n=⟨b,off+n,none⟩:=by
 unfold Addr.add;split
 .grind
 .rfl
theorem yJ(v:cV P tb){t:TypeId}{x y:Operand}{s:Nat}{es:RV (RV V)}{k:IntKind}{i:Int}{e:RV V}{B:ElI}(hx:ev L x=some (.one (.imm s es)))(F:ev L y=some (.one (.lit (.int k i))))(he:gb tb t=some B)(hs:B.size=s)(hpos:0<s)
  (hi:0<=i) (G:es[i.toNat]? =some e) (H:d<E.n) (hk:K ((d,.one (.gy s e))::L) h):ar P ⟨some d,.indexAddr t x y,ty,pos,af,gd⟩ E K L h:=
 bE rfl H (λ_ _ a w r=>by
  obtain⟨A,cap,C,h1,h2⟩:=(r.ev hx).aY.mA;have D:=(r.ev hx).aY;rw[C]at D;obtain⟨b,off,rfl,_,hlt,hp⟩:=D.immAt G;obtain⟨I,_⟩:=(r.ev F).lit;obtain⟨u1,u2,_⟩:=bL v he;refine⟨_,?_,.one hp⟩;have j:i<es.length:=A1
  simp[execOp,Instr.indexAt,C,I,asIntOf,run_underlying u1,hi,j,cd u2 A1,dd,hs]) hk
theorem Rel.row{ι:RV Inf}{I:Nat->Prop}{a:Act}{w:World}(r:Rel E L h ι I a w){id s:Nat}{es:RV (RV V)}(ho:h[id]? =some (some (.row s es))):∃inf,ι[id]? =some inf/\OR ι I w inf (.row s es)/\inf.size=s:=by
 have hlt:=(gI.1 ho).1;have d:id<ι.length:=by rw[<-r.heap.len];exact hlt
 have hi:=gE d;have:=r.heap.obj id _ _ ho hi;refine⟨_,hi,this,?_⟩;obtain⟨_,_,_,h2,_⟩:=this;exact h2
theorem wL(B:cV P tb){t:TypeId}{x y:Operand}{s id off len:Nat}{es:RV (RV V)}{k:IntKind}{i:Int}{D:ElI}(hx:ev L x=some (.one (.own id off len)))(G:ev L y=some (.one (.lit (.int k i))))(he:gb tb t=some D)
  (ho:h[id]?=some (some (.row s es))) (hs:D.size=s) (hpos:0<s) (hi:0<=i) (hlt:i<len) (H:d<E.n) (hk:K ((d,.one (.ptr id (off+i.toNat) 0))::L) h):ar P ⟨some d,.indexAddr t x y,ty,pos,af,gd⟩ E K L h:=
 bE rfl H (λι I a w r=>by
  obtain⟨inf,v,_,C⟩:=r.row ho;obtain⟨J,_⟩:=(r.ev G).lit;obtain⟨u1,u2,_⟩:=bL B he;have F:=(r.ev hx).aY;generalize hc:a.eval x=c at F;cases F with
  |fT j A=>omega
  | @own _ _ _ _ cap inf' j hl A hm=>
   have:inf'=inf:=by rw[v]at j;cases j;rfl
   subst this;refine⟨_,?_,.one (.ptr (k:=off+i.toNat) (o:=0) v)⟩;simp[execOp,Instr.indexAt,hc,J,asIntOf,run_underlying u1,hi,hlt,cd u2 A1,dd,hs,C,O9,Oc]) hk
theorem rC{ι:RV Inf}{I:Nat->Prop}{w:World}(C:cV P tb){t:TypeId}{i:TyI}(ht:tb.lookup t=some i){b off:Nat}{cs:RV V}{f:Nat->Value}{v:AV}(y:∀j,j<cs.length->w.cell? ⟨b,off+j,none⟩=some (f j))
  (hr:∀(j:Nat)(D:j<cs.length),VR I w ι cs[j] (f j)) (hl:uJ i.agg i.size cs=some v):∃c,(loadVar t ⟨b,off,none⟩).run P w= .ok c w/\AR ι I w v c:=by
 obtain⟨inf,h1,h2,E,_,B,_⟩:=bV (C t i ht);unfold uJ at hl;split at hl
 .rename_i h;split at hl
  .rename_i F;cases hl;have A:=run_loadCells (P:=P) w ⟨b,off,none⟩ i.size f (λj D=>by rw[dd];exact y j A1);have d:(isAgg t).run P w= .ok true w:=by
    rw[h]at B;simp[isAgg,run_underlying h2]
    revert B
    cases i.desc<;>simp
   refine⟨.agg ((List.range i.size).map f).toArray,?_,?_⟩
   .simp[loadVar,d,sizeOf,typeInfo,h1,E,A]
   .refine .agg (f:=f) D5 (λj D=> ?_) (λj D=> ?_)
    .grind
    .grind
  .cases hl
 .rename_i h;have h:i.agg=false:=QS
  cases cs with
  |nil=>simp at hl
  | cons G cs=>
   simp at hl;subst hl;have d:(isAgg t).run P w= .ok false w:=by
    rw[h]at B;simp[isAgg,run_underlying h2]
    revert B
    cases i.desc<;>simp
   have h0:=y 0 C3;refine⟨f 0,?_,.one (hr 0 C3)⟩;simp[loadVar,d];rw[OD]at h0;simp[h0]
theorem Gg(A:cV P tb){t:TypeId}{x:Operand}{s:Nat}{cs:RV V}{i:TyI}{v:AV}(hx:ev L x=some (.one (.gy s cs)))(ht:tb.lookup t=some i)(hl:uJ i.agg i.size cs=some v)(C:d<E.n)(hk:K ((d,v)::L) h):ar P ⟨some d,.load t x,ty,pos,af,gd⟩ E K L h:=
 bE rfl C (λι I a w r=>by
  have B:=(r.ev hx).aY;generalize hc:a.eval x=c at B;cases B with
  | gy F y hr=>
   obtain⟨c,h1,h2⟩:=rC A ht y (λj D=>(hr j D).up) hl;exact⟨c,Qo,h2⟩) hk
theorem OR.cells{ι:RV Inf}{I:Nat->Prop}{w:World}{inf:Inf}{s:Nat}{es:RV (RV V)}(d:OR ι I w inf (.row s es)){k o:Nat}{e:RV V}(hk:es[k]? =some e):
  ∃f:Nat->Value,(∀j,j<(e.drop o).length->w.cell? ⟨inf.block,inf.base+(k*s+o)+j,none⟩=some (f j))/\∀(j:Nat)(h:j<(e.drop o).length),VR I w ι (e.drop o)[j] (f j):=by
 obtain⟨cur,t,h1,h2,B,h4,C,D,y⟩:=d;obtain⟨hlt,rfl⟩:=gI.1 hk;refine⟨λj=>cur.getD (inf.base+(k*s+o)+j) undef,λj h=> ?_,λj h=> ?_⟩
 all_goals
  simp at h;obtain⟨u,v,E⟩:=y k hlt (o+j) A1;have A:inf.base+(k*s+(o+j))=inf.base+(k*s+o)+j:=A1
  rw[A]at v
 .simp[World.cell?,h1,v]
 .simp_all
theorem xD(y:cV P tb){t:TypeId}{x:Operand}{id k o s:Nat}{es:RV (RV V)}{e:RV V}{i:TyI}{v:AV}(hx:ev L x=some (.one (.ptr id k o)))(ht:tb.lookup t=some i)(ho:h[id]? =some (some (.row s es)))(he:es[k]? =some e)
  (hl:uJ i.agg i.size (e.drop o)=some v) (F:d<E.n) (hk:K ((d,v)::L) h):ar P ⟨some d,.load t x,ty,pos,af,gd⟩ E K L h:=
 bE rfl F (λι I a w r=>by
  obtain⟨inf,A,B,C⟩:=r.row ho;have D:=(r.ev hx).aY;generalize hc:a.eval x=c at D;cases D with
  | @ptr _ _ _ _ inf' hi=>
   have:inf'=inf:=by rw[A]at hi;cases hi;rfl
   subst this;obtain⟨f,j,hr⟩:=B.cells he (o:=o);rw[<-C]at j;obtain⟨c,h1,h2⟩:=rC y ht j hr hl;exact⟨c,Qo,h2⟩) hk
theorem ue(j:cV P tb){t:TypeId}{i:TyI}(ht:tb.lookup t=some i){f off ft sz:Nat}(d:i.fields[f]? =some (off,ft,sz))(y:0<sz){b o:Nat}(w:World):
  (Instr.fieldAt t (.pointer (some ⟨b,o,none⟩)) f).run P w= .ok (.pointer (some ⟨b,o+off,none⟩)) w:=by
 obtain⟨inf,h1,h2,C,_,_,_,_,A⟩:=bV (j t i ht);rw[A]at d;cases hd:i.desc with
 | struct B=>
  rw[hd]at d h2;simp only[Oq]at d;cases h:B[f]? with
  |none=>simp[h]at d
  | some fl=>
   simp[h]at d;obtain⟨rfl,rfl,v⟩:=d;have:¬(sz=0):=A1
   simp[Instr.fieldAt,run_underlying h2,h,Instr.sureAddr,fieldPlace,cd v y,this,dd]
 |_=>rw[hd]at d;simp at d
theorem Dv(y:cV P tb){t:TypeId}{x:Operand}{f off ft sz s:Nat}{cs:RV V}{i:TyI}(hx:ev L x=some (.one (.gy s cs)))(ht:tb.lookup t=some i)(C:i.fields[f]? =some (off,ft,sz))(D:0<sz)(F:d<E.n)(hk:K ((d,.one (.gy s (cs.drop off)))::L) h):
  ar P ⟨some d,.fieldAddr t x f,ty,pos,af,gd⟩ E K L h:=
 bE rfl F (λι I a w r=>by
  have B:=(r.ev hx).aY;generalize hc:a.eval x=c at B;cases B with
  | @gy _ _ b o _ g G v hr H=>
   refine⟨.pointer (some ⟨b,o+off,none⟩),by simp[execOp,hc,ue y ht C D],.one (.gy (f:=λj=>g (off+j)) G (λj A=> ?_) (λj A=> ?_) H)⟩
   .simp at A;rw[Oc];exact v (off+j) A1
   .simp at A;rw[Oy];exact hr (off+j) A1) hk
theorem uB(j:cV P tb){t:TypeId}{x:Operand}{f off ft sz id k o:Nat}{i:TyI}(hx:ev L x=some (.one (.ptr id k o)))(ht:tb.lookup t=some i)(y:i.fields[f]? =some (off,ft,sz))(A:0<sz)(B:d<E.n)(hk:K ((d,.one (.ptr id k (o+off)))::L) h):
  ar P ⟨some d,.fieldAddr t x f,ty,pos,af,gd⟩ E K L h:=
 bE rfl B (λι I a w r=>by
  have v:=(r.ev hx).aY;generalize hc:a.eval x=c at v;cases v with
  | @ptr _ _ _ _ inf hi=>
   exact⟨_,by simp[execOp,hc,ue j ht y A,Oc],.one (.ptr hi)⟩) hk
theorem Kv{x:Operand}{id k o:Nat}(hx:ev L x=some (.one (.ptr id k o)))(t:d<E.n)(hk:K ((d,.one (.ptr id k o))::L) h):ar P ⟨some d,.nilCheck x,ty,pos,af,gd⟩ E K L h:=
 bE rfl t (λι I a w r=>by
  have j:=(r.ev hx).aY;generalize hc:a.eval x=c at j;cases j with
  |ptr hi=>exact⟨_,by simp[execOp,hc],.one (.ptr hi)⟩) hk
theorem Jx{x:Operand}{s:Nat}{cs:RV V}(hx:ev L x=some (.one (.gy s cs)))(v:d<E.n)(hk:K ((d,.one (.gy s cs))::L) h):ar P ⟨some d,.nilCheck x,ty,pos,af,gd⟩ E K L h:=
 bE rfl v (λι I a w r=>by
  have t:=(r.ev hx).aY;generalize hc:a.eval x=c at t;cases t with
  |gy y j hr A=>exact⟨_,by simp[execOp,hc],.one (.gy y j hr A)⟩) hk
theorem AJ{x:Operand}{j:Nat}{xs:RV AV}{v:AV}(hx:ev L x=some (.tup xs))(A:xs[j]? =some v)(B:d<E.n)(hk:K ((d,v)::L) h):ar P ⟨some d,.extract x j,ty,pos,af,gd⟩ E K L h:=
 bE rfl B (λι I a w r=>by
  have y:=r.ev hx;generalize hc:a.eval x=c at y;obtain⟨hlt,rfl⟩:=gI.1 A;cases y with
  |tup hl t hr=>exact⟨_,by simp[execOp,hc,Instr.extract,t j hlt],hr j hlt⟩) hk
theorem KL(G:cV P tb){t:TypeId}{x:Operand}{f off ft sz:Nat}{vs:RV V}{i D:TyI}{v:AV}(hx:ev L x=some (.agg vs))(ht:tb.lookup t=some i)(F:i.fields[f]? =some (off,ft,sz))(M:tb.lookup ft=some D)
  (hl:uJ D.agg D.size (vs.drop off)=some v) (T:d<E.n) (hk:K ((d,v)::L) h):ar P ⟨some d,.field t x f,ty,pos,af,gd⟩ E K L h:=
 bE     rfl T (fun ι I a w r=>by
  have Q:=r.ev hx;generalize hc:a.eval x=c at Q;obtain⟨inf,h1,h2,h3,_,_,_,_,U⟩:=bV (G t i ht);obtain⟨inf',g1,R,W,_,J,_⟩:=bV (G ft D M);rw[U]at F;cases hd:i.desc with
  | struct X=>
   rw[hd]at F h2;simp only[Oq]at F;cases C:X[f]? with
   |none=>simp[C]at F
   | some fl=>
    simp[C]at F;obtain⟨rfl,rfl,Y⟩:=F;cases Q with
    | @agg _ cs g Z H hr=>
     unfold uJ at hl;split at hl
     .rename_i A;split at hl
      .rename_i N;cases hl;have y:(isAgg fl.type).run P w= .ok true w:=by
        rw[A]at J;simp[isAgg,run_underlying R]
        revert J
        cases D.desc<;>simp
       refine⟨.agg (cs.extract fl.offset (fl.offset+D.size)),?_,?_⟩
       .simp[execOp,hc,Instr.field,run_underlying h2,C,asAgg,part,y,sizeOf,typeInfo,g1,W]
       .simp at N;refine .agg (f:=λj=>g (fl.offset+j)) D5 (λj S=> ?_) (λj S=> ?_)
        .simp at S;rw[Array.getElem?_extract];rw[N1 A1];exact H _ A1
        .grind
      .cases hl
     .rename_i A;have A:D.agg=false:=by simpa using A
      cases B:vs.drop fl.offset with
      |nil=>simp[B]at hl
      | cons c0 rest=>
       simp[B]at hl;subst hl;have hlt:fl.offset<vs.length:=by
        rcases ON fl.offset vs.length with h|h
        .exact h
        .rw[Oj h]at B;cases B
       have y:(isAgg fl.type).run P w= .ok false w:=by
        rw[A]at J;simp[isAgg,run_underlying R]
        revert J
        cases D.desc<;>simp
       have O:vs[fl.offset]=c0:=by
        have:=Oy (xs:=vs) (i:=fl.offset) (j:=0) (h:=D5);simp[B]at this;exact this.symm
       refine⟨g fl.offset,?_,.one (O▸hr _ hlt)⟩;simp[execOp,hc,Instr.field,run_underlying h2,C,asAgg,part,y,H _ hlt]
  |_=>rw[hd]at F;simp at F) hk
theorem cp(w:World){isS:Bool}{len cap lo hi:Nat}{kl kh:IntKind}{low bK:Y Value}(h:low=none/\lo=0\/low=some (.int kl lo))(d:bK=none/\hi=len\/bK=some (.int kh hi))(h1:lo<=hi)(h2:hi<=cap):
  (Instr.sliceBounds isS len cap low bK none).run P w= .ok (lo,hi,cap) w:=by
 rcases h with⟨rfl,rfl⟩|rfl<;>rcases d with⟨rfl,rfl⟩|rfl<;>simp[Instr.sliceBounds,Instr.sliceBound,asIntOf,h1,h2]
theorem VR.immSub{ι:RV Inf}{I:Nat->Prop}{w:World}{s lo hi cap:Nat}{es:RV (RV V)}{A:Y Addr}(h:VR I w ι (.imm s es) (.slice A es.length cap))(h1:lo<=hi)(h2:hi<=es.length)(B:es.length<=cap):
  VR I w ι (.imm s ((es.take hi).drop lo)) (.slice (if cap=lo then A else A.map (·.add (lo*s))) (hi-lo) (cap-lo)):=by
 have hl:((es.take hi).drop lo).length=hi-lo:=D5
 by_cases he:hi=lo
 .subst he;have v:(es.take hi).drop hi=[]:=nZ (by rw[hl];omega);rw[v,Po];cases h with
  |dC hc=>exact .dC A1
  |imm hs hc hm t d hr=>exact .dC A1
 .cases h with
  |dC hc=>simp at h2;omega
  | @imm _ _ b off _ _ f hs hc hm t d hr y=>
   rw[N3 A1];simp only[OG,dd];rw[<-hl];refine .imm (f:=λk j=>f (lo+k) j) (λe he=>hs e (OK (OX he))) (by rw[hl];omega) A1 t (λk j h4 C=> ?_) (λk hk j D=> ?_) y
   .grind
   .grind
theorem xT(B:cV P tb){t:TypeId}{x:Operand}{low bK:Y Operand}{s lo hi:Nat}{es:RV (RV V)}{kl kh:IntKind}{D:ElI}(hx:ev L x=some (.one (.imm s es)))(he:gb tb t=some D)(hs:D.size=s)(hpos:0<s)
  (v:low=none/\lo=0\/∃y,low=some y/\ev L y=some (.one (.lit (.int kl lo)))) (j:bK=none/\hi=es.length\/∃y,bK=some y/\ev L y=some (.one (.lit (.int kh hi)))) (h1:lo<=hi) (h2:hi<=es.length) (H:d<E.n)
  (hk:K ((d,.one (.imm s ((es.take hi).drop lo)))::L) h):ar P ⟨some d,.slice t x low bK none,ty,pos,af,gd⟩ E K L h:=
 bE rfl H (λι I a w r=>by
  obtain⟨A,cap,F,g1,M⟩:=(r.ev hx).aY.mA;have G:=(r.ev hx).aY;rw[F]at G;obtain⟨u1,u2,_⟩:=bL B he;have hl:low.map a.eval=none/\lo=0\/low.map a.eval=some (.int kl lo):=by
   rcases v with⟨rfl,rfl⟩|⟨y,rfl,C⟩
   .grind
   .exact .inr (by simp[(r.ev C).lit.1])
  have J:bK.map a.eval=none/\hi=es.length\/bK.map a.eval=some (.int kh hi):=by
   rcases j with⟨rfl,rfl⟩|⟨y,rfl,C⟩
   .grind
   .exact .inr (by simp[(r.ev C).lit.1])
  have hb:=cp (P:=P) w (isS:=true) (len:=es.length) (cap:=cap) hl J h1 A1;refine⟨_,?_,.one (G.immSub h1 h2 g1)⟩;simp[execOp,Instr.sliceAt,Instr.slice,F,run_underlying u1,hb,cd u2 A1,hs]) hk
theorem yu(F:cV P tb){t:TypeId}{x:Operand}{low bK:Y Operand}{s id off len lo hi:Nat}{es:RV (RV V)}{kl kh:IntKind}{N:ElI}(hx:ev L x=some (.one (.own id off len)))(he:gb tb t=some N)(ho:h[id]? =some (some (.row s es)))(hs:N.size=s)(hpos:0<s)
  (C:low=none/\lo=0\/∃y,low=some y/\ev L y=some (.one (.lit (.int kl lo)))) (B:bK=none/\hi=len\/∃y,bK=some y/\ev L y=some (.one (.lit (.int kh hi)))) (h1:lo<=hi) (h2:hi<=len) (R:d<E.n)
  (hk:K ((d,.one (.own id (off+lo) (hi-lo)))::L) h):ar P ⟨some d,.slice t x low bK none,ty,pos,af,gd⟩ E K L h:=
 bE   rfl R (λι I a w r=>by
  obtain⟨inf,j,_,G⟩:=r.row ho;obtain⟨u1,u2,_⟩:=bL F he;have hl:low.map a.eval=none/\lo=0\/low.map a.eval=some (.int kl lo):=by
   rcases C with⟨rfl,rfl⟩|⟨y,rfl,H⟩
   .grind
   .exact .inr (by simp[(r.ev H).lit.1])
  have O:bK.map a.eval=none/\hi=len\/bK.map a.eval=some (.int kh hi):=by
   rcases B with⟨rfl,rfl⟩|⟨y,rfl,H⟩
   .grind
   .exact .inr (by simp[(r.ev H).lit.1])
  have Q:=(r.ev hx).aY;generalize hc:a.eval x=c at Q;cases Q with
  | @fT _ _ _ S inf' v A=>
   have:inf'=inf:=by rw[j]at v;cases v;rfl
   subst this;have J:lo=0:=A1
   have M:hi=0:=A1
   subst J M;have hb:=cp (P:=P) w (isS:=true) (len:=0) (cap:=0) hl O h1 A1;refine⟨.slice (some ⟨inf'.block,S,none⟩) 0 0,?_,.one (.fT (off:=off+0) j A)⟩;simp[execOp,Instr.sliceAt,Instr.slice,hc,run_underlying u1,hb,cd u2 A1,hs]
  | @own _ _ _ _ cap inf' v T A hm=>
   have:inf'=inf:=by rw[j]at v;cases v;rfl
   subst this;have hb:=cp (P:=P) w (isS:=true) (len:=len) (cap:=cap) hl O h1 A1;by_cases D:cap=lo
   .refine⟨.slice (some ⟨inf'.block,inf'.base+off*inf'.size,none⟩) (hi-lo) (cap-lo),?_,?_⟩
    .subst D;simp[execOp,Instr.sliceAt,Instr.slice,hc,run_underlying u1,hb,cd u2 A1,hs]
    .have J:hi-lo=0:=A1
     have M:cap-lo=0:=A1
     rw[J,M];exact .one (.fT j A1)
   .refine⟨_,?_,.one (.own (off:=off+lo) (len:=hi-lo) (c:=cap-lo) j A1 A1 A1)⟩;simp[execOp,Instr.sliceAt,Instr.slice,hc,run_underlying u1,hb,cd u2 A1,hs,D,dd,G,O9,Oc]) hk
end
def VRs(ι:RV Inf)(I:Nat->Prop)(w:World)(vs:RV V)(cs:RV Value):Prop:=cs.length=vs.length/\∀(j:Nat)(d:j<vs.length),∃u,cs[j]? =some u/\VR I w ι vs[j] u
def AV.cells:AV->Y (RV V)
 | .one v=>some [v]
 | .agg vs=>some vs
 |_=>none
section
variable {ι : RV Inf} {I : Nat → Prop} {w : World}
theorem VR.plain{v:V}{c:Value}(h:VR I w ι v c):c.oneCell'=true/\c.cells= #[c]:=by
 cases h with
 |lit h=>cases c<;>first|exact h.elim|exact⟨rfl,rfl⟩
 |_=>exact RT
theorem AR.cells{v:AV}{c:Value}{vs:RV V}(h:AR ι I w v c)(t:v.cells=some vs):VRs ι I w vs c.cells.toList/\c.cells.size=vs.length/\∀u∈c.cells.toList,u.oneCell'=true:=by
 cases h with
 | one h=>
  simp[AV.cells]at t;subst t;rw[h.plain.2];refine⟨⟨rfl,λj y=> ?_⟩,rfl,λu A=> ?_⟩
  .grind
  .simp at A;subst A;exact h.plain.1
 | @agg _ cs f hl d hr=>
  simp[AV.cells]at t;subst t;refine⟨⟨by simpa [Value.cells]using hl,λj y=>⟨f j,by simpa [Value.cells]using d j y,hr j y⟩⟩,by simpa [Value.cells]using hl,λu A=> ?_⟩;obtain⟨j,y,rfl⟩:=P6 A;simp[Value.cells]at y;have:=d j A1;have e:f j=cs[j]:=by rw[gA y]at this;exact(Pc this).symm
  have:=(hr j A1).plain.1;rw[e]at this;simpa [Value.cells]using this
 |tup hl d hr=>simp[AV.cells]at t
 |dead=>simp[AV.cells]at t
theorem VRs.append{a b:RV V}{x y:RV Value}(h:VRs ι I w a x)(k:VRs ι I w b y):VRs ι I w (a++b) (x++y):=by
 refine⟨by simp[h.1,k.1],λj d=> ?_⟩;rcases ON j a.length with hlt|hge
 .rw[O4 hlt,aL (by rw[h.1];exact hlt)];exact h.2 j hlt
 .simp at d;rw[O2 hge,aR (by rw[h.1];exact hge),h.1];exact k.2 (j-a.length) A1
theorem VRs.take{a:RV V}{x:RV Value}(h:VRs ι I w a x)(n:Nat):VRs ι I w (a.take n) (x.take n):=by
 refine⟨PY,λj d=> ?_⟩;simp at d;rw[P3,PK,N1 A1];exact h.2 j A1
theorem VRs.drop{a:RV V}{x:RV Value}(h:VRs ι I w a x)(n:Nat):VRs ι I w (a.drop n) (x.drop n):=by
 refine⟨PY,λj d=> ?_⟩;simp at d;rw[Oy,Pv];exact h.2 (n+j) A1
theorem VRs.aB{ι':RV Inf}{d:Nat->Prop}{w':World}(t:bn ι ι')(hk:cB I d w w'){a:RV V}{x:RV Value}(h:VRs ι I w a x):VRs ι' d w' a x:=
 ⟨h.1,λj v=>let⟨u,h1,h2⟩:=h.2 j v;⟨u,h1,h2.aB t hk⟩⟩
theorem VRs.lits{zs:RV Value}(h:zs.all de=true):VRs ι I w (zs.map V.lit) zs:=by
 refine⟨C3,λj d=> ?_⟩;simp at d;refine⟨zs[j],gE d,?_⟩;rw[NY];exact .lit (mM (aT.1 h _ (gM d)))
theorem VRs.nil:VRs ι I w [] []:=⟨rfl,λj d=>QV⟩
theorem VRs.flat{s:Nat}:∀{es:RV (RV V)}{cs:RV (RV Value)},es.length=cs.length->(∀(k:Nat)(h1:k<es.length)(h2:k<cs.length),VRs ι I w es[k] cs[k])->VRs ι I w es.flatten cs.flatten
 |[],[],_,_=>VRs.nil
 |[],_::_,h,_=>H0
 |_::_,[],h,_=>H0
 | e::es,c::cs,h,hk=>by
  simp only[P4];exact(hk 0 C3 C3).append (VRs.flat (s:=s) QS λk h1 h2=>hk (k+1) Hl HA)
theorem jv{α:Type}{es:RV (RV α)}{s:Nat}(hs:∀e∈es,e.length=s):∀{k j:Nat}(hk:k<es.length)(d:j<es[k].length),∃h:k*s+j<es.flatten.length,es.flatten[k*s+j]=es[k][j]:=by
 induction es with
 |nil=>intro k j hk;simp at hk
 | cons e es v=>
  intro k j hk d;have he:e.length=s:=hs e C3;cases k with
  | zero=>
   simp at d;refine⟨D5,?_⟩;simp[O4 d]
  | succ k=>
   simp at hk d;obtain⟨h1,h2⟩:=v (λx hx=>hs x (by simp[hx])) (k:=k) (j:=j) hk d;have t:(k+1)*s+j=s+(k*s+j):=by rw[O9];omega
   refine⟨by simp only[P4,N8,he];omega,?_⟩;simp only[P4];rw[O2 (by rw[t,he];omega)];simp only[t,he,Nat.add_sub_cancel_left];simpa using h2
theorem ce{α:Type}{es:RV (RV α)}{s:Nat}(hs:∀e∈es,e.length=s):es.flatten.length=es.length*s:=by
 induction es with
 |nil=>simp
 |cons e es d=>rw[P4,N8,hs e C3,d (λx hx=>hs x (by simp[hx])),NU,O9];omega
theorem OR.mk{inf:Inf}{s:Nat}{es:RV (RV V)}{cur:Array Value}{t:TypeId}(h1:w.heap[inf.block]? =some (.cells cur t (0,0)))(h2:inf.size=s)(v:cur.size=inf.base+inf.cap*s)(h4:inf.cap<=9223372036854775807)(y:es.length<=inf.cap)
  (d:∀e∈es,e.length=s) {pr cs rest:RV Value} (hc:cur.toList=pr++(cs++rest)) (hp:pr.length=inf.base) (h:VRs ι I w es.flatten cs):OR ι I w inf (.row s es):=by
 refine⟨cur,t,h1,h2,v,h4,y,d,λk hk j A=> ?_⟩;obtain⟨hlt,e⟩:=jv d hk A;obtain⟨u,B,hr⟩:=h.2 _ hlt;refine⟨u,?_,e▸hr⟩;rw[<-OS,hc,aR A1,aL (by rw[h.1];omega)];have C:inf.base+(k*s+j)-pr.length=k*s+j:=A1
 rw[C];exact B
theorem OR.flat{inf:Inf}{s:Nat}{es:RV (RV V)}(h:OR ι I w inf (.row s es)):∃cur t pr cs rest,w.heap[inf.block]? =some (.cells cur t (0,0))/\inf.size=s/\cur.size=inf.base+inf.cap*s/\inf.cap<=9223372036854775807/\es.length<=inf.cap/\(∀e∈es,e.length=s)/\
  cur.toList=pr++(cs++rest)/\pr.length=inf.base/\VRs ι I w es.flatten cs/\cs.length=es.length*s:=by
 obtain⟨cur,t,h1,h2,y,h4,A,d,C⟩:=h;have D:es.length*s<=inf.cap*s:=OZ _ A;have bJ:cur.toList.length=inf.base+inf.cap*s:=by simp[y]
 refine⟨cur,t,cur.toList.take inf.base,(cur.toList.drop inf.base).take (es.length*s),(cur.toList.drop inf.base).drop (es.length*s),h1,h2,y,h4,A,d,by rw[Om,Om],by rw[O0];omega,⟨by rw[O0,Ox,ce d];omega,λj B=> ?_⟩,by rw[O0,Ox];omega⟩;have v:j<es.length*s:=by rw[ce d]at B;exact B
 have hs:0<s:=by rcases P8 s with h0|h0;(subst h0;simp at v);exact h0
 have hk:j / s<es.length:=PD (by rw[P9];exact v);have hm:j%s<es[j / s].length:=by rw[d _ (gM hk)];exact PP _ hs
 have E:j / s*s+j%s=j:=by rw[P9];exact PH j s
 obtain⟨u,F,G⟩:=C (j / s) hk (j%s) hm;obtain⟨_,e⟩:=jv d hk hm;rw[E]at F;refine⟨u,?_,?_⟩
 .grind
 .grind
end
section
variable {E : Cx} {L : Env} {h : aD} {ι : RV Inf} {I : Nat → Prop} {a : Act} {w : World}
theorem Rel.same(r:Rel E L h ι I a w){w':World}(d:w'.heap=w.heap)(h1:w'.os=w.os)(h2:w'.tape=w.tape)(j:w'.output=w.output):Rel E L h ι I a w':=by
 have hk:cB I I w w':=⟨λ_ h=>h,λb _=>by rw[d]⟩;exact
 { aO:=fun t v A=>let⟨c,x,y⟩:=r.aO t v A;⟨c,x,y.aB (bn.refl _) hk⟩
   heap:=⟨r.heap.len,λid o inf x y=>(r.heap.obj id o inf x y).aB (bn.refl _) hk (by rw[d]),r.heap.off,r.heap.inj,r.heap.sub⟩
   imm:=λb hb=>by rw[d];exact r.imm b hb
   cY:=r.cY
   pre:=r.pre
   os:=h1.trans r.os
   tape:=h2.trans r.tape
   output:=j.trans r.output
   grown:=by rw[d];exact r.grown
   frame:=λb x y=>by rw[d];exact r.frame b x y
   cc:=r.cc
   defers:=r.defers
   size:=r.size}
theorem Rel.drew(r:Rel E L h ι I a w):Rel E L h ι I a w.drew:=r.same rfl rfl rfl rfl
theorem gJ{α:Type}{l:RV α}{x y:α}{id:Nat}(h:(l++[x])[id]? =some y):(id<l.length/\l[id]? =some y)\/(id=l.length/\x=y):=Hd
theorem Rel.sy(r:Rel E L h ι I a w)(o:Obj):cB I I w (w.alloc o):=⟨λ_ h=>h,λb hb=>by
 have:=r.imm b hb;rw[heap_alloc_old w o this]⟩
theorem Rel.new(r:Rel E L h ι I a w)(cur:Array Value)(t:TypeId)(s cap:Nat)(es:RV (RV V))(D:cur.size=cap*s)(h4:cap<=9223372036854775807)(F:es.length<=cap)(G:∀e∈es,e.length=s){cs rest:RV Value}(hc:cur.toList=cs++rest)
  (C:VRs ι I w es.flatten cs):Rel E L (h++[some (.row s es)]) (ι++[⟨w.heap.size,0,cap,s⟩]) I a (w.alloc (.cells cur t)):=by
 have hk:=r.sy (.cells cur t);have B:=bn.app ι [⟨w.heap.size,0,cap,s⟩];have blk:∀(id:Nat)(o:Ob)(inf:Inf),h[id]? =some (some o)->ι[id]? =some inf->inf.block<w.heap.size:=λid o inf x y=>by
  have:=r.heap.obj id o inf x y;cases o with
  |row s es=>exact Rl
  |map kvs=>exact Rm
 have d:∀(id:Nat)(o:Ob)(inf:Inf),(h++[some (.row s es)])[id]? =some (some o)->(ι++[⟨w.heap.size,0,cap,s⟩])[id]? =some inf->
   (h[id]?=some (some o)/\ι[id]? =some inf/\id<h.length)\/(id=h.length/\o= .row s es/\inf=⟨w.heap.size,0,cap,s⟩):=λid o inf x y=>by
  rcases gJ x with⟨lt,j⟩|⟨rfl,j⟩
  .rcases gJ y with⟨_,A⟩|⟨e,_⟩
   .grind
   .exact RK
  .rcases gJ y with⟨lt,_⟩|⟨_,A⟩
   .exact RK
   .grind
 exact
 { aO    := fun t v C=>let⟨c,x,y⟩:=r.aO t v C;⟨c,x,y.aB B hk⟩
   heap := by
     refine⟨PR,λid o inf x y=> ?_,λid o inf x y=> ?_,λid id' o o' inf inf' x j y A e=> ?_,r.heap.sub⟩
     · rcases d id o inf x y with⟨x,y,_⟩|⟨rfl,rfl,rfl⟩
       · exact(r.heap.obj id o inf x y).aB B hk (heap_alloc_old w _ (blk id o inf x y))
       · exact OR.mk (pr:=[]) (heap_alloc_new w _) rfl QT h4 F G hc rfl (C.aB B hk)
     · rcases d id o inf x y with⟨x,y,_⟩|⟨rfl,rfl,rfl⟩
       · exact r.heap.off id o inf x y
       · intro hb
         have hb:I w.heap.size:=hb;have:=r.imm _ hb;omega
     · rcases d id o inf x y with⟨x,y,l1⟩|⟨rfl,rfl,rfl⟩
       · rcases d id' o' inf' j A with⟨j,A,_⟩|⟨rfl,rfl,rfl⟩
         · exact r.heap.inj id id' o o' inf inf' x j y A e
         · grind
       · grind
   imm:=λb hb=>by have:=r.imm b hb;simp;omega
   cY:=r.cY
   pre:=r.pre.trans B
   os:=r.os
   tape:=r.tape
   output:=r.output
   grown:=by have:=r.grown;simp;omega
   frame:=λb x y=>PW
   cc:=λid o inf x y=>by
     rcases d id o inf x y with⟨x,y,_⟩|⟨rfl,rfl,rfl⟩
     · exact r.cc id o inf x y
     · exact .inr r.grown
   defers:=r.defers
   size:=r.size}
theorem cC{l:aD}{id i:Nat}{o:Y Ob}{x:Ob}(h:(l.set id o)[i]? =some (some x)):(i=id/\o=some x/\id<l.length)\/(i≠id/\l[i]? =some (some x)):=Hd
theorem Rel.set(r:Rel E L h ι I a w){id s s':Nat}{es es':RV (RV V)}{inf:Inf}{cur:Array Value}{t:TypeId}{w':World}(ho:h[id]? =some (some (.row s es)))(j:ι[id]? =some inf)(S:w'.heap[inf.block]? =some (.cells cur t (0,0)))
  (d:∀b,b≠inf.block->w'.heap[b]?=w.heap[b]?) (J:w'.os=w.os) (B:w'.tape=w.tape) (C:w'.output=w.output) (D:w'.heap.size=w.heap.size) (h2:inf.size=s') (T:cur.size=inf.base+inf.cap*s') (h4:inf.cap<=9223372036854775807) (U:es'.length<=inf.cap) (W:∀e∈es',e.length=s')
  {pr cs rest:RV Value} (hc:cur.toList=pr++(cs++rest)) (hp:pr.length=inf.base) (K:VRs ι I w es'.flatten cs):Rel E L (h.set id (some (.row s' es'))) ι I a w':=by
 have F:=r.heap.off id _ inf ho j;have hk:cB I I w w':=⟨λ_ h=>h,λb hb=>by rw[d b (λe=>F (e▸hb))]⟩;exact
 { aO    := fun t v K=>let⟨c,x,y⟩:=r.aO t v K;⟨c,x,y.aB (bn.refl _) hk⟩
   heap := by
     refine⟨PR,λi o f x y=> ?_,λi o f x y=> ?_,λi X o o' f M x Q y N e=> ?_,r.heap.sub⟩
     · rcases cC x with⟨rfl,x,_⟩|⟨A,x⟩
       · cases x
         have:f=inf:=by rw[j]at y;cases y;rfl
         subst this;exact OR.mk S h2 T h4 U W hc hp (K.aB (bn.refl _) hk)
       · exact(r.heap.obj i o f x y).aB (bn.refl _) hk (d _ λe=>A (r.heap.inj i id o _ f inf x ho y j e))
     · rcases cC x with⟨rfl,x,_⟩|⟨A,x⟩
       · grind
       · exact r.heap.off i o f x y
     · rcases cC x with⟨R,O,_⟩|⟨A,O⟩
       · rcases cC Q with⟨P,G,_⟩|⟨H,G⟩
         · rw[R,P]
         · subst R;exact r.heap.inj _ _ _ _ f M ho G y N e
       · rcases cC Q with⟨P,G,_⟩|⟨H,G⟩
         · subst P;exact r.heap.inj _ _ _ _ f M O ho y N e
         · exact r.heap.inj _ _ _ _ f M O G y N e
   imm:=λb hb=>by rw[D];exact r.imm b hb
   cY:=r.cY
   pre:=r.pre
   os:=J.trans r.os
   tape:=B.trans r.tape
   output:=C.trans r.output
   grown:=by rw[D];exact r.grown
   frame:=λb x y=>by
     rw[d b (λe=> ?_)]
     · exact r.frame b x y
     · rcases r.cc id _ inf ho j with hp|hp
       · grind
       · omega
   cc:=λi o f x y=>by
     rcases cC x with⟨rfl,x,_⟩|⟨A,x⟩
     · exact r.cc i _ f ho y
     · exact r.cc i o f x y
   defers:=r.defers
   size:=r.size}
theorem Rel.kill(r:Rel E L h ι I a w)(id:Nat):Rel E L (h.set id none) ι I a w:=
 have sub:∀{i:Nat}{o:Ob},(h.set id none)[i]? =some (some o)->h[i]? =some (some o):=λx=>Hd
 { r with
   heap:=⟨PR,λi o f x y=>r.heap.obj i o f (sub x) y,λi o f x y=>r.heap.off i o f (sub x) y,λi d o o' f j x t y v e=>r.heap.inj i d o o' f j (sub x) (sub t) y v e,r.heap.sub⟩
   cc:=λi o f x y=>r.cc i o f (sub x) y}
theorem Rel.rename(r:Rel E L h ι I a w){id:Nat}{o o':Ob}{inf inf':Inf}(ho:h[id]? =some (some o))(j:ι[id]? =some inf)(hb:inf'.block=inf.block)(J:OR ι I w inf' o'):Rel E L (h.set id none++[some o']) (ι++[inf']) I a w:=by
 have hk:=cB.refl I w;have B:=bn.app ι [inf'];have hl:=(gI.1 ho).1
 have d:∀(i:Nat)(x:Ob)(f:Inf),(h.set id none++[some o'])[i]? =some (some x)->(ι++[inf'])[i]? =some f->
   (h[i]?=some (some x)/\ι[i]? =some f/\i<h.length/\i≠id)\/(i=h.length/\x=o'/\f=inf'):=λi x f p q=>by
  rcases gJ p with⟨lt,C⟩|⟨rfl,C⟩
  .simp at lt;rcases gJ q with⟨_,D⟩|⟨e,_⟩
   .grind
   .exact RK
  .simp at q;rcases gJ q with⟨lt,_⟩|⟨_,D⟩
   .exact RK
   .grind
 exact
 { r with
   aO:=λt v P=>let⟨c,x,y⟩:=r.aO t v P;⟨c,x,y.aB B hk⟩
   heap := by
     refine⟨PR,λi x f p q=> ?_,λi x f p q=> ?_,λi F x G f H p C q D e=> ?_,r.heap.sub⟩
     · rcases d i x f p q with⟨p,q,_⟩|⟨rfl,rfl,rfl⟩
       · exact(r.heap.obj i x f p q).aB B hk rfl
       · exact J.aB B hk rfl
     · rcases d i x f p q with⟨p,q,_⟩|⟨rfl,rfl,rfl⟩
       · exact r.heap.off i x f p q
       · rw[hb];exact r.heap.off id _ _ ho j
     · rcases d i x f p q with⟨N,q1,_,ne⟩|⟨O,Q,K⟩
       · rcases d F G H C D with⟨M,q2,_,A⟩|⟨O,Q,K⟩
         · exact r.heap.inj i F x G f H N M q1 q2 e
         · exact absurd (r.heap.inj i id x _ f _ N ho q1 j (by rw[e,K,hb])) ne
       · rcases d F G H C D with⟨M,q2,_,A⟩|⟨R,S,T⟩
         · exact absurd (r.heap.inj F id G _ H _ M ho q2 j (by rw[<-e,K,hb])) A
         · rw[O,R]
   pre:=r.pre.trans B
   cc:=λi x f p q=>by
     rcases d i x f p q with⟨p,q,_⟩|⟨rfl,rfl,rfl⟩
     · exact r.cc i x f p q
     · rw[hb];exact r.cc id _ _ ho j}
end
def cK:Y Nat->AV->Env->Env
 |some d,v,L=>(d,v)::L
 |none,_,L=>L
def sel(L:Env):RV Nat->Env
 |[]=>[]
 | t::ts=>match L.lookup t with
  |some v=>(t,v)::sel L ts
  |none=>sel L ts
def cnt(ch:RV Nat)(l:RV Nat):Nat:=l.countP ch.contains
theorem lN{ch l:RV Nat}{i:Nat}(h:ch.contains i=false):cnt ch (i::l)=cnt ch l:=by unfold cnt;rw[List.countP_cons,h];simp
theorem tD{ch l:RV Nat}{i:Nat}(h:ch.contains i=true):cnt ch (i::l)=cnt ch l+1:=by unfold cnt;rw[List.countP_cons,h];simp
theorem fQ(ch a b:RV Nat):cnt ch (a++b)=cnt ch a+cnt ch b:=by simp[cnt]
def eC(o:Oper):RV Nat:=o.after.toList.filterMap λe=>if Region.binds .any e then some e.on else none
def Mf:RV Oper->RV Nat->RV Nat
 |[],acc=>acc
 |o::rest,acc=>Mf rest (acc++[(eC o).foldl (λm j=>m|||2^j|||acc.getD j 0) 0])
def dv(ops:Array Oper)(j i:Nat):Bool:=((Mf ops.toList []).getD i 0).testBit j
def lw(ops:Array Oper)(i j:Nat):Bool:=
 match ops[i]?,ops[j]? with
 |some x,some y=> !x.apart ops y
 |_,_=>true
def dt(f:Nat->Nat->Bool):RV Nat->Bool
 |[]=>true
 |i::r=>r.all (f i)&&dt f r
def su(ops:Array Oper)(π ch rd:RV Nat):Bool:=
 decide (π.length<=ops.size)&&(List.range ops.size).all π.contains&&π.all (λi=>decide (i<ops.size)&&(((ops[i]?).map eC).getD []).all (λj=>decide (j<ops.size)&&j !=i))&&
 dt (λi j=>i !=j&&(!lw ops i j||dv ops i j)&&(!(ch.contains i&&ch.contains j)||dv ops i j)&&(!(rd.contains i&&ch.contains j)||dv ops i j)&& !(((ops[i]?).map eC).getD []).contains j) π
theorem lQ{f:Nat->Nat->Bool}{pre post:RV Nat}{i:Nat}(h:dt f (pre++i::post)=true):(∀k∈pre,f k i=true)/\(∀j∈post,f i j=true):=by
 induction pre with
 | nil=>
  simp only[OL,dt,bA]at h;exact⟨C3,λj d=>aT.1 h.1 j d⟩
 | cons k pre t=>
  simp only[Pn,dt,bA]at h;obtain⟨h1,h2⟩:=t h.2;refine⟨λx hx=> ?_,h2⟩;rcases List.mem_cons.1 hx with e|e
  .grind
  .exact h1 x e
theorem sI(acc:RV Nat)(j:Nat):∀(l:RV Nat)(m:Nat),(l.foldl (λm k=>m|||2^k|||acc.getD k 0) m).testBit j=true->m.testBit j=true\/∃k∈l,k=j\/(acc.getD k 0).testBit j=true
 |[],m,h=>.inl h
 | k::l,m,h=>by
  rcases sI acc j l _ h with h|⟨x,hx,d⟩
  .grind
  .grind
theorem uy{X:Nat->Prop}:∀(l:RV Oper)(done:RV Oper)(acc:RV Nat),acc.length=done.length->
  (∀i o,done[i]? =some o->(∀j∈eC o,X j)->∀j,(acc.getD i 0).testBit j=true->X j)->(∀i o,(done++l)[i]? =some o->X i->∀j∈eC o,X j)->
  ∀i o,(done++l)[i]? =some o->(∀j∈eC o,X j)->∀j,((Mf l acc).getD i 0).testBit j=true->X j
 |[],done,acc,_,h,_,i,o,ho,hd,j,v=>h i o (by simpa using ho) hd j v
 | x::l,done,acc,hl,h,B,i,o,ho,hd,j,v=>by
  refine uy l (done++[x]) (acc++[(eC x).foldl (λm j=>m|||2^j|||acc.getD j 0) 0]) (by simp[hl]) ?_ (by simpa using B) i o (by simpa using ho) hd j v;intro w o' d y A t;rcases ON w done.length with hlt|hge
  .rw[aL hlt]at d;rw[List.getD_eq_getElem?_getD,aL A1,<-List.getD_eq_getElem?_getD]at t;exact h w o' d y A t
  .rw[aR hge]at d;have e:w=done.length:=Hd
   subst e;simp at d;subst d;have C:(acc++[(eC x).foldl (λm j=>m|||2^j|||acc.getD j 0) 0]).getD done.length 0=(eC x).foldl (λm j=>m|||2^j|||acc.getD j 0) 0:=Hd
   rw[C]at t;rcases sI acc A _ _ t with h0|⟨k,hk,D⟩
   .simp at h0
   .grind
theorem iI{ops:Array Oper}{X:Nat->Prop}(d:∀(i:Nat)(o:Oper),ops[i]? =some o->X i->∀j∈eC o,X j){i j:Nat}{o:Oper}(ho:ops[i]? =some o)(hd:∀j∈eC o,X j)(h:dv ops j i=true):X j:=
 uy ops.toList [] [] rfl (λi o h=>H0) (λi o h=>d i o QS) i o (by simpa using ho) hd j h
def bP(ops:Array Oper)(t:Nat)(i:Nat):Bool:=cn ops i==some t
theorem dO{ops:Array Oper}{i j:Nat}{x y:Oper}(hx:ops[i]? =some x)(t:ops[j]? =some y)(h:lw ops i j=false):(∀d,x.dst=some d->d∉y.looksAt ops/\y.dst≠some d)/\(∀d,y.dst=some d->d∉x.looksAt ops):=by
 simp only[lw,hx,t,Bool.not_eq_false']at h;obtain⟨h1,h2,v⟩:=Oper.apart_spec h;exact⟨λd hd=>⟨h1 d hd,h2 d hd⟩,v⟩
theorem eJ{α:Type}{p q:α->Bool}{l:RV α}(h:∀x∈l,p x=true->q x=false):(l.filter p).filter q=[]:=by
 rw[List.filter_eq_nil_iff];intro x hx;obtain⟨h1,h2⟩:=List.mem_filter.1 hx;simp[h x h1 h2]
theorem i6{ch l:RV Nat}{p q:Nat->Bool}(h:∀x∈l,p x=true->q x=true):cnt ch (l.filter p)<=cnt ch (l.filter q):=by
 unfold cnt;rw[List.countP_filter,List.countP_filter];exact List.countP_mono_left λx hx d=>Hd
theorem jh{ch l:RV Nat}{p:Nat->Bool}(h:∀x∈l,p x=true->ch.contains x=false):cnt ch (l.filter p)=0:=by
 unfold cnt;rw[List.countP_eq_zero];intro x hx;obtain⟨h1,h2⟩:=List.mem_filter.1 hx;simp only[h x h1 h2]
 decide
theorem p8{ch l:RV Nat}{p:Nat->Bool}(h:∀x∈l,ch.contains x=true->p x=true):cnt ch (l.filter p)=cnt ch l:=by
 unfold cnt;rw[List.countP_filter];apply List.countP_congr;intro x hx;constructor
 .grind
 .grind
structure Plan(ops:Array Oper)(π ch rd:List Nat):Prop where
 len:π.length<=ops.size
 all:∀i,i<ops.size->i∈π
 lt:∀i∈π,i<ops.size
 edge:∀i∈π,∀(o:Oper),ops[i]?=some o->∀j∈eC o,j<ops.size/\j≠i
 nd:dt (λi j=>i !=j) π=true
 pair:∀pre i post,π=pre++i::post->∀j∈post,i≠j/\(lw ops i j=true->dv ops i j=true)/\(ch.contains i=true->ch.contains j=true->dv ops i j=true)/\(rd.contains i=true->ch.contains j=true->dv ops i j=true)/\∀(o:Oper),ops[i]? =some o->j∉eC o
theorem pG{ops:Array Oper}{π ch rd:RV Nat}(hp:su ops π ch rd=true):Plan ops π ch rd:=by
 simp only[su,bA]at hp;obtain⟨⟨⟨bJ,h⟩,hlt⟩,d⟩:=hp;refine⟨by simpa using bJ,λi hi=> ?_,λi hi=> ?_,λi hi o ho j t=> ?_,?_,λpre i post e j t=> ?_⟩
 .simp_all
 .grind
 .grind
 .clear h hlt bJ
  induction π with
  |nil=>rfl
  | cons x l w=>
   exact R0
 .exact QY
section
variable {P : Program} {E : Cx} {Q : Exit → Env → aD → Prop} {K : Env → aD → Prop} {L : Env} {h : aD} {hs : RV aD} {ops : Array Oper} {π σ ch rd : RV Nat} {i : Nat} {o : Oper} {v : AV}
end
section
variable {P : Program} {E : Cx} {K : Env → aD → Prop} {L : Env} {h h' : aD} {d : Nat} {ty : TypeId} {pos : String} {af : Array Edge} {gd : Y (Nat × Bool)} {tb : Tbl} {o : Oper}
theorem j8{v:AV}(hd:o.dst=some d)(t:d<E.n)
  (y:∀Lf ι I a w,Rel E (L++Lf) h ι I a w->Rel E L h ι I a w->∃c w' ι' j,(execOp a.eval o).run P w= .ok (.value c) w'/\Rel E (L++Lf) h' ι' j a w'/\AR ι' j w' v c) (hk:K ((d,v)::L) h'):ar P o E K L h:=by
 refine⟨λLf ι I a w rF=> ?_⟩;obtain⟨c,w',ι',j,h1,h2,A⟩:=y Lf ι I a w rF rF.low;unfold Oper.wp;rw[h1,Oper.upon_value,hd];exact⟨_,h',ι',j,hk,h2.put t A⟩
theorem Ms{t:TypeId}{x:Operand}{v:AV}{vs:RV V}(hx:ev L x=some v)(j:v.cells=some vs)(y:d<E.n)(hk:K ((d,.one (.ptr h.length 0 0))::L) (h++[some (.row vs.length [vs])])):ar P ⟨some d,.box t x,ty,pos,af,gd⟩ E K L h:=
 j8 rfl y (λLf ι I a w rF r=>by
  obtain⟨h1,h2,A⟩:=(r.ev hx).cells j;refine⟨.pointer (some ⟨w.heap.size,0,none⟩),w.alloc (.cells (a.eval x).cells t),_,I,?_,rF.new _ t vs.length 1 [vs] (by simp[h2]) C3 C3 C3 (rest:=[]) (by simp;rfl) Hl,?_⟩
  .simp[execOp,Instr.box,newVar,newRow]
  .refine .one ?_;have hi:(ι++[(⟨w.heap.size,0,1,vs.length⟩:Inf)])[h.length]? =some ⟨w.heap.size,0,1,vs.length⟩:=Ib
   simpa using VR.ptr (k:=0) (o:=0) hi) hk
theorem Bv{t:TypeId}{i:TyI}(h:cV P tb)(ht:tb.lookup t=some i)(j:i.zero≠[]):∃inf z,P.info? t=some inf/\inf.zero=some z/\z.cells.toList=i.zero:=by
 obtain⟨inf,h1,_,_,_,_,d,_⟩:=bV (h t i ht);unfold lW at d;rw[h1]at d;cases v:inf.zero with
 |none=>simp[v]at d;exact absurd d j
 |some z=>exact⟨inf,z,h1,v,by simp[v]at d;exact d.symm⟩
theorem FU(j:cV P tb){t:TypeId}{i:TyI}(ht:tb.lookup t=some i)(A:i.zero.all de=true)(v:i.zero≠[])(B:d<E.n)(hk:K ((d,.one (.ptr h.length 0 0))::L) (h++[some (.row i.zero.length [i.zero.map V.lit])])):
  ar P ⟨some d,.alloc t,ty,pos,af,gd⟩ E K L h:=
 j8 rfl B (λLf ι I a w rF r=>by
  obtain⟨inf,z,h1,h2,y⟩:=Bv j ht v;have h4:z.cells.size=i.zero.length:=by rw[<-y];simp
  refine⟨.pointer (some ⟨w.heap.size,0,none⟩),w.alloc (.cells z.cells t),_,I,?_,rF.new _ t i.zero.length 1 [i.zero.map V.lit] (by simp[h4]) C3 C3 C3 (rest:=[]) (by simp;exact y) (by simpa using VRs.lits A),?_⟩
  .simp[execOp,Instr.alloc,zeroValue,typeInfo,h1,h2,newVar,newRow]
  .refine .one ?_;have hi:(ι++[(⟨w.heap.size,0,1,i.zero.length⟩:Inf)])[h.length]? =some ⟨w.heap.size,0,1,i.zero.length⟩:=Ib
   simpa using VR.ptr (k:=0) (o:=0) hi) hk
def cE(L:Env):RV (Nat×Operand)->Y (RV (Nat×RV V))
 |[]=>some []
 | (i,x)::rest=>match (ev L x).bind AV.cells,cE L rest with
  |some vs,some d=>some ((i,vs)::d)
  |_,_=>none
def bp(cells:RV V)(off:Nat)(vs:RV V):RV V:=cells.take off++(vs++cells.drop (off+vs.length))
def nV(place:Nat->Y (Nat×Nat))(cells:RV V):RV (Nat×RV V)->Y (RV V)
 |[]=>some cells
 | (i,vs)::rest=>match place i with
  |some (off,size)=>if vs.length=size&&off+vs.length<=cells.length then nV place (bp cells off vs) rest else none
  |none=>none
theorem DZ(vs:RV Value):∀(k off:Nat)(cells:Array Value),off+k+vs.length<=cells.size->
  ((vs.zipIdx k).foldl (λ(cs:Array Value)(p:Value×Nat)=>cs.setIfInBounds (off+p.2) p.1) cells).toList=cells.toList.take (off+k)++(vs++cells.toList.drop (off+k+vs.length)):=by
 induction vs with
 |nil=>intro k off cells h;simp
 | cons v vs d=>
  intro k off cells h;simp at h;rw[List.zipIdx_cons,OA,d (k+1) off (cells.setIfInBounds (off+k) v) D5];have hlt:off+k<cells.toList.length:=D5
  simp only[Array.toList_setIfInBounds];have j:(cells.toList.set (off+k) v).take (off+(k+1))=cells.toList.take (off+k)++[v]:=by
   rw[<-Oc,O7 (by simp at hlt;simpa using hlt)];simp[List.take_set_of_le]
  have t:(cells.toList.set (off+k) v).drop (off+(k+1)+vs.length)=cells.toList.drop (off+k+(v::vs).length):=by
   rw[List.drop_set_of_lt A1]
   congr 1
   simp;omega
  rw[j,t];simp
theorem yz{ι:RV Inf}{I:Nat->Prop}{a:Act}{w:World}(r:Rel E L h ι I a w)(place:Nat->Y (Nat×Nat)):∀(parts:RV (Nat×Operand)) (B:RV (Nat×RV V)) (cells:RV V) (cs:Array Value) (out:RV V),
  cE L parts=some B->VRs ι I w cells cs.toList->nV place cells B=some out->∃j,Instr.fill place cs (parts.map λp=>(p.1,a.eval p.2))=some j/\VRs ι I w out j.toList:=by
 intro parts
 induction parts with
 | nil=>
  intro B cells cs out h1 h2 t;simp[cE]at h1;subst h1;simp[nV]at t;subst t;exact⟨cs,by simp[Instr.fill],h2⟩
 | cons p parts G=>
  obtain⟨i,x⟩:=p;intro B cells cs out h1 h2 t;simp only[cE]at h1;cases hx:(ev L x).bind AV.cells with
  |none=>simp[hx]at h1
  | some vs=>
   cases hp:cE L parts with
   |none=>simp[hx,hp]at h1
   | some C=>
    simp[hx,hp]at h1;subst h1;simp only[nV]at t;cases y:place i with
    |none=>simp[y]at t
    | some q=>
     obtain⟨off,size⟩:=q;simp only[y]at t;split at t
     .rename_i hc;simp at hc;obtain⟨hs,H⟩:=hc;obtain⟨v,J,D⟩:=Option.bind_eq_some_iff.1 hx;obtain⟨k1,F,O⟩:=(r.ev J).cells D;have K:cs.size=cells.length:=by have:=h2.1;simpa using this
      have d:=DZ (a.eval x).cells.toList 0 off cs (by simp[F];omega);rw[OD]at d;have A:VRs ι I w (bp cells off vs) ((a.eval x).cells.zipIdx.foldl (λ(cs:Array Value)(p:Value×Nat)=>cs.setIfInBounds (off+p.2) p.1) cs).toList:=by
       have e:((a.eval x).cells.zipIdx.foldl (λ(cs:Array Value)(p:Value×Nat)=>cs.setIfInBounds (off+p.2) p.1) cs).toList=cs.toList.take off++((a.eval x).cells.toList++cs.toList.drop (off+vs.length)):=by
        rw[<-Array.foldl_toList,Array.toList_zipIdx,d];simp[F]
       rw[e];exact(h2.take off).append (k1.append (h2.drop _))
      obtain⟨j,M,N⟩:=G C _ _ out hp A t;refine⟨j,?_,N⟩;simp only[Ot,Instr.fill,y,F];have c1:(decide (vs.length≠size)||decide (off+vs.length>cs.size))=false:=by simp[hs];omega
      rw[N3 (by simpa using c1)];exact M
     .cases t
theorem zW(w:World)(d:Array Field)(hs:∀f∈d.toList,0<eH P f.type):(d.mapM λf=>Prod.mk f.offset <$> sizeOf f.type:Sem (Array (Nat×Nat))).run P w= .ok (d.map λf=>(f.offset,eH P f.type)) w:=by
 rw[Array.mapM_eq_mapM_toList];have:∀(l:RV Field),(∀f∈l,0<eH P f.type)->(l.mapM λf=>Prod.mk f.offset <$> sizeOf f.type:Sem (RV (Nat×Nat))).run P w= .ok (l.map λf=>(f.offset,eH P f.type)) w:=by
  intro l
  induction l with
  |nil=>intro _;simp
  | cons f l h=>
   intro hl;rw[List.mapM_cons];simp[cd (rfl:eH P f.type=_) (hl f C3),h (λg j=>hl g (by simp[j]))]
 simp[this d.toList hs];apply Array.ext';simp
theorem He(y:cV P tb){t:TypeId}{parts:RV (Nat×Operand)}{i:TyI}{D:RV (Nat×RV V)}{vs:RV V}(hp:cE L parts=some D)(ht:tb.lookup t=some i)(T:i.zero.all de=true)(F:i.zero≠[])(G:i.fields≠[])
  (H:nV (λ(k:Nat)=>(i.fields[k]?).map λ(f:Nat×Nat×Nat)=>(f.1,f.2.2)) (i.zero.map V.lit) D=some vs) (J:i.fields.all (λf=>decide (0<f.2.2))=true) (U:d<E.n) (hk:K ((d,.agg vs)::L) h):ar P ⟨some d,.build t parts.toArray,ty,pos,af,gd⟩ E K L h:=
 bE    rfl U (λι I a w r=>by
  obtain⟨inf,z,h1,h2,W⟩:=Bv y ht F;obtain⟨_,_,Q,_,_,_,_,_,C⟩:=bV (y t i ht);cases hd:i.desc with
  | struct R=>
   rw[hd]at Q C;obtain⟨A,S,M⟩:=yz r _ parts D (i.zero.map V.lit) z.cells vs hp (by rw[W];exact VRs.lits T) H;refine⟨.agg A,?_,?_⟩
   .have N:=zW (P:=P) w R (λf H=>by
      have:=aT.1 J (f.offset,f.type,eH P f.type) (by rw[C];exact List.mem_map.2 ⟨f,H,rfl⟩);simpa using this)
    have v:(λ(k:Nat)=>(i.fields[k]?).map λ(f:Nat×Nat×Nat)=>(f.1,f.2.2))=λ(k:Nat)=>Option.map (λf=>(f.offset,eH P f.type)) R[k]? :=Hd
    rw[v]at S;simp[execOp,Instr.build,zeroValue,typeInfo,h1,h2,run_underlying Q,N];rw[S];rfl
   .refine .agg (f:=λj=>A.getD j undef) (by have:=M.1;simpa using this) (λj O=> ?_) (λj O=> ?_)
    .obtain⟨u,B,_⟩:=M.2 j O;simp at B;simp[B]
    .obtain⟨u,B,X⟩:=M.2 j O;simp at B;simp[B];exact X
  |_=>rw[hd]at C;exact absurd C G) hk
theorem j6{es:RV (RV V)}{s:Nat}(hs:∀e∈es,e.length=s):∀{k:Nat}{e:RV V}{o:Nat}{vs:RV V},es[k]? =some e->o+vs.length<=s->(es.set k (bp e o vs)).flatten=bp es.flatten (k*s+o) vs:=by
 induction es with
 |nil=>intro k e o vs hk;simp at hk
 | cons x es d=>
  intro k e o vs hk ho;have hx:x.length=s:=hs x C3;cases k with
  | zero=>
   simp at hk;subst hk;simp only[List.set_cons_zero,P4,bp,PM,Ou];rw[List.take_append_of_le_length A1,Px A1];simp
  | succ k=>
   simp only[P5]at hk;have:=d (λy h=>hs y (by simp[h])) hk ho;simp only[List.set_cons_succ,P4,this];simp only[bp];have j:(k+1)*s+o=x.length+(k*s+o):=by rw[O9];omega
   have t:(k+1)*s+o+vs.length=x.length+(k*s+o+vs.length):=A1
   rw[t,j,Pz,Pa];simp
theorem sK{cs:RV V}{o:Nat}{vs:RV V}(h:o+vs.length<=cs.length):(bp cs o vs).length=cs.length:=by simp[bp];omega
theorem xO(G:cV P tb){t:TypeId}{x y:Operand}{id k o' s:Nat}{es:RV (RV V)}{e vs:RV V}{v:AV}{i:TyI}(hx:ev L x=some (.one (.ptr id k o')))(hy:ev L y=some v)(hv:v.cells=some vs)(ht:tb.lookup t=some i)(H:i.size=vs.length)
  (ho:h[id]?=some (some (.row s es))) (he:es[k]? =some e) (J:o'+vs.length<=s) (hk:K L (h.set id (some (.row s (es.set k (bp e o' vs)))))):ar P ⟨none,.store t x y,ty,pos,af,gd⟩ E K L h:=by
 refine⟨λLf ι I a w rF=> ?_⟩;have r:=rF.low;obtain⟨inf,C,M,hs2⟩:=r.row ho;obtain⟨k1,T,k3⟩:=(r.ev hy).cells hv;have hp:=(r.ev hx).aY;generalize hc:a.eval x=c at hp;obtain⟨inf',g1,_,g3,_⟩:=bV (G t i ht);obtain⟨cur,N,pr,cs,rest,U,F,f3,f4,f5,f6,X,O,Y,Q⟩:=M.flat;have R:=(gI.1 he).1;have S:e.length=s:=f6 e (mG he);cases hp with
 | @ptr _ _ _ _ d hi=>
  have:d=inf:=by rw[C]at hi;cases hi;rfl
  subst this;have A:(a.eval y).cells.toList.length=vs.length:=by simpa using T
  have Z:k*s+s<=es.length*s:=by
   have:(k+1)*s<=es.length*s:=OZ _ R;rw[O9]at this;omega
  have hcur:cur.size=d.base+(es.length*s+rest.length):=by rw[<-OM,X];simp[O,Q]
  have j:=run_storeCells_at (P:=P) d.block (d.base+(k*d.size+o')) N (a.eval y).cells.toList 0 cur w U (by rw[A,F];omega) k3;obtain⟨W,hW⟩:∃W,W=w.setRow d.block (cur.toList.take (d.base+(k*d.size+o')+0)++(a.eval y).cells.toList++cur.toList.drop (d.base+(k*d.size+o')+0+(a.eval y).cells.toList.length)).toArray:=⟨_,rfl⟩;rw[<-hW]at j;unfold Oper.wp;have hex:(execOp a.eval ⟨none,.store t x y,ty,pos,af,gd⟩).run P w= .ok .skip W:=by
   have B:(a.eval y).cells.size=inf'.size:=by rw[T,g3,H]
   simp[execOp,Instr.storeAt,Instr.sureAddr,hc,storeVar,sizeOf,typeInfo,g1,B,j]
  rw[hex,Oper.upon_skip,hW];refine⟨L,_,ι,I,hk,?_⟩
  have D:=rF.set (s':=s) (es':=es.set k (bp e o' vs)) (cur:=(cur.toList.take (d.base+(k*d.size+o')+0)++(a.eval y).cells.toList++cur.toList.drop (d.base+(k*d.size+o')+0+(a.eval y).cells.toList.length)).toArray) (t:=N)
   (w':=w.setRow d.block (cur.toList.take (d.base+(k*d.size+o')+0)++(a.eval y).cells.toList++cur.toList.drop (d.base+(k*d.size+o')+0+(a.eval y).cells.toList.length)).toArray)
   (pr:=pr) (cs:=cs.take (k*s+o')++((a.eval y).cells.toList++cs.drop (k*s+o'+vs.length))) (rest:=rest)
   ho C (setRow_heap w _ cur _ N _ U) (λb hb=>setRow_other w _ b _ hb) rfl rfl rfl C3 F (by
    rw[Pj,N8,N8,O0,Ox,A,OM,F]
    omega) f4 (by simpa using f5) (λx hx=>by
     rcases OV hx with h|h
     .exact f6 x h
     .rw[h,sK A1,S]) (by
    simp only[X,F,A,OD];have hpl:pr.length=d.base:=O;have c1:d.base+(k*s+o')=pr.length+(k*s+o'):=A1
    rw[c1,Pz,Oc,Pa,List.take_append_of_le_length A1,Px A1];simp) O (by
    rw[j6 f6 he J];exact(Y.take _).append (k1.append (Y.drop _)))
  exact D
end
section
variable {P : Program} {E : Cx} {K : Env → aD → Prop} {L : Env} {h h0 l : aD} {d n : Nat} {ty : TypeId} {pos : String} {af : Array Edge} {gd : Y (Nat × Bool)} {tb : Tbl} {o : Oper}
theorem DK{z:Array Value}{zs:RV Value}{s:Nat}(v:z.toList=zs)(hs:zs.length=s)(n:Nat):(madeCells z (n*s)).toList=(List.replicate n zs).flatten:=by
 have d:z.size=s:=by rw[<-hs,<-v];simp
 apply List.ext_getElem
 .rw[ce (s:=s) (λe he=>by rw[Pq he];exact hs)];simp[madeCells]
 .intro j h1 h2;have w:j<n*s:=by simpa [madeCells]using h1
  have t:0<s:=by rcases P8 s with h|h;(subst h;simp at w);exact h
  have hk:j / s<n:=PD (by rw[P9];exact w);have hm:j%s<s:=PP _ t;have A:j / s*s+j%s=j:=by rw[P9];exact PH j s
  obtain⟨B,e⟩:=jv (es:=List.replicate n zs) (s:=s) (λe he=>by rw[Pq he];exact hs) (k:=j / s) (j:=j%s) QU (by simp[hs];exact hm);have y:(List.replicate n zs).flatten[j]=zs[j%s]'(by rw[hs];exact hm):=Hd
  rw[y];simp[madeCells,d];rw[getElem!_pos z (j%s) (by rw[d];exact hm)];subst v;simp
theorem VRs.made{ι:RV Inf}{I:Nat->Prop}{w:World}{z:Array Value}{zs:RV Value}{s:Nat}(d:z.toList=zs)(hs:zs.length=s)(hl:zs.all de=true)(n:Nat):VRs ι I w (List.replicate n (zs.map V.lit)).flatten (madeCells z (n*s)).toList:=by
 rw[DK d hs];exact VRs.flat (s:=s) C3 λk h1 h2=>by simpa using VRs.lits hl
theorem oO(v:cV P tb){t:TypeId}{d:ElI}(he:gb tb t=some d)(j:d.zero≠[])(w:d.zero.length=d.size):∃inf z,P.info? d.t=some inf/\inf.zero=some z/\z.cells.toList=d.zero/\inf.size=d.size/\inf.bytes=d.bytes:=by
 obtain⟨_,u2,u3,u4⟩:=bL v he;unfold lW at u4;have hpos:0<d.size:=by rw[<-w];exact List.length_pos_iff.2 j
 obtain⟨inf,h1,h2⟩:=mD u2 hpos;rw[h1]at u4 u3;cases h:inf.zero with
 |none=>simp[h]at u4;exact absurd u4 j
 |some z=>exact⟨inf,z,h1,h,by simpa [h]using u4,h2,by simpa using u3⟩
def pz(s:Nat)(es:RV (RV V)):RV (Nat×RV V)->Y (RV (RV V))
 |[]=>some es
 |(i,vs)::rest=>if vs.length=s&&i<es.length then pz s (es.set i vs) rest else none
theorem sj{s:Nat}:∀(t:RV (Nat×RV V))(es es':RV (RV V)),(∀e∈es,e.length=s)->pz s es t=some es'->nV (λi=>some (i*s,s)) es.flatten t=some es'.flatten/\(∀e∈es',e.length=s)/\es'.length=es.length
 |[],es,es',hs,h=>by simp[pz]at h;subst h;exact⟨rfl,hs,rfl⟩
 | (i, vs)::rest,es,es',hs,h=>by
  simp only[pz]at h;split at h
  .rename_i hc;simp at hc;obtain⟨v,hi⟩:=hc;have j:∀e∈es.set i vs,e.length=s:=λe he=>Hd
   obtain⟨k1,w,y⟩:=sj rest _ _ j h;have hge:es[i]? =some es[i]:=gE hi;have hl:es[i].length=s:=hs _ (gM hi);have d:=j6 hs (o:=0) (vs:=vs) hge A1;have A:bp es[i] 0 vs=vs:=by
    simp only[bp,OE,OL,Ou];rw[Oj A1,Ok]
   rw[A,OD]at d;refine⟨?_,w,by rw[y];simp⟩;simp only[nV,v];have:i*s+s<=es.flatten.length:=by
    rw[ce hs];have:=OZ s hi;rw[Nat.succ_mul]at this;omega
   rw[N1 (by simpa using this),<-d];exact k1
  .cases h
theorem sO(y:cV P tb)(O:h0.length=n){t:TypeId}{len:Nat}{parts:RV (Nat×Operand)}{h:ElI}{B:RV (Nat×RV V)}{es:RV (RV V)}(he:gb tb t=some h)(A:h.zero≠[])(C:h.zero.length=h.size)(hl:h.zero.all de=true)
  (hp:cE L parts=some B) (Q:pz h.size (List.replicate len (h.zero.map V.lit)) B=some es) (hb:Nat.ble (len*h.size) 16777216=true) (R:d<E.n)
  (hk:K ((d,.one (.own (n+l.length) 0 len))::L) (h0++(l++[some (.row h.size es)]))):ar P ⟨some d,.buildSlice t len parts.toArray,ty,pos,af,gd⟩ E K L (h0++l):=by
 rw[<-Oo]at hk;refine j8 rfl R (λLf ι I a w rF r=> ?_) hk;obtain⟨inf,z,g1,S,T,W,X⟩:=oO y he A C;obtain⟨u1,u2,_⟩:=bL y he;have hpos:0<h.size:=by rw[<-C];exact List.length_pos_iff.2 A
 obtain⟨k1,J,U⟩:=sj B _ _ (λe he=>by rw[Pq he];simpa using C) Q;obtain⟨j,D,M⟩:=yz r (λi=>some (i*h.size,h.size)) parts B _ (madeCells z.cells (len*h.size)) _ hp (VRs.made T C hl len) k1;have bJ:es.length=len:=by rw[U];simp
 have F:j.size=len*h.size:=by have:=M.1;rw[ce J,bJ]at this;simpa using this
 have G:¬(16777216<len*h.size):=by have:=NX hb;omega
 refine⟨.slice (some ⟨w.heap.size,0,none⟩) len len,w.alloc (.cells j h.t),_,I,?_,rF.new j h.t h.size len es F Q6 A1 J (cs:=j.toList) (rest:=[]) C3 M,?_⟩
 .by_cases v:len*h.size=0
  .have N:madeCells z.cells (len*h.size)= #[]:=by rw[v];simp[madeCells]
   rw[N]at D;simp[execOp,Instr.buildSlice,run_underlying u1,cd u2 hpos,v];have H:Array.map (λ_=>(default:Value)) (Array.range 0)= #[]:=C3
   rw[H,D];simp[newRow]
  .have N:(Array.range (len*h.size)).map (z.cells[·%z.cells.size]!)=madeCells z.cells (len*h.size):=rfl;simp[execOp,Instr.buildSlice,run_underlying u1,cd u2 hpos,v,G,zeroValue,typeInfo,g1,S];have H:(Array.map (λx=>z.cells[x%z.cells.size]!) (Array.range (len*h.size)))=madeCells z.cells (len*h.size):=rfl;simp only[H,D];simp[newRow]
 .refine .one ?_;have hi:(ι++[(⟨w.heap.size,0,len,h.size⟩:Inf)])[n+l.length]? =some ⟨w.heap.size,0,len,h.size⟩:=by
   have:=r.heap.len;simp at this;have e:n+l.length=ι.length:=A1
   rw[e];simp
  simpa using VR.own (off:=0) (len:=len) (c:=len) hi (N4 _) C3 Q6
theorem KJ(v:cV P tb)(G:h0.length=n){t:TypeId}{x y:Operand}{D F:IntKind}{m:Nat}{h:ElI}(he:gb tb t=some h)(A:h.zero≠[])(B:h.zero.length=h.size)(hl:h.zero.all de=true)
  (hx:ev L x=some (.one (.lit (.int D m)))) (H:ev L y=some (.one (.lit (.int F m)))) (hb:h.bytes*m<=281474976710656) (hm:m<=9223372036854775807) (J:d<E.n)
  (hk:K ((d,.one (.own (n+l.length) 0 m))::L) (h0++(l++[some (.row h.size (List.replicate m (h.zero.map V.lit)))]))):ar P ⟨some d,.makeSlice t x y,ty,pos,af,gd⟩ E K L (h0++l):=by
 rw[<-Oo]at hk;refine j8 rfl J (λLf ι I a w rF r=> ?_) hk;obtain⟨inf,z,g1,M,N,O,R⟩:=oO v he A B;obtain⟨u1,u2,_⟩:=bL v he;have C:(inf.bytes:Int)*(m:Int)<=281474976710656:=Hd
 have j:=run_make (P:=P) w t h.t inf z u1 g1 M D F m m A1 A1 C A1;simp only[Or,O]at j;have Q:∀e∈List.replicate m (h.zero.map V.lit),e.length=h.size:=λe he=>by rw[Pq he];simpa using B
 refine⟨.slice (some ⟨w.heap.size,0,none⟩) m m,w.alloc (.cells (madeCells z.cells (m*h.size)) h.t),_,I,?_,rF.new _ h.t h.size m (List.replicate m (h.zero.map V.lit)) Qj hm C3 Q (cs:=(madeCells z.cells (m*h.size)).toList) (rest:=[]) C3 (VRs.made N B hl m),?_⟩
 .simp[execOp,(r.ev hx).lit.1,(r.ev H).lit.1,j]
 .refine .one ?_;have hi:(ι++[(⟨w.heap.size,0,m,h.size⟩:Inf)])[n+l.length]? =some ⟨w.heap.size,0,m,h.size⟩:=by
   have:=r.heap.len;simp at this;have e:n+l.length=ι.length:=A1
   rw[e];simp
  simpa using VR.own (off:=0) (len:=m) (c:=m) hi (N4 _) C3 hm
def gV(h:aD)(s:Nat):V->Y (RV (RV V))
 | .imm s' es=>if s'=s then some es else none
 | .gk s' es=>if s'=s then some es else none
 | .own id off len=>match h[id]? with
  |some (some (.row s' es))=>if s'=s&&off+len<=es.length then some ((es.drop off).take len)else none
  |_=>none
 | .lit (.slice none 0 0)=>some []
 |_=>none
theorem Ej{ι:RV Inf}{I:Nat->Prop}{w:World}{vs:RV V}{cs:RV Value}(h:VRs ι I w vs cs):∀u∈cs,u.oneCell'=true:=λu t=>by
 obtain⟨j,d,rfl⟩:=P6 t;obtain⟨x,h1,h2⟩:=h.2 j (by rw[<-h.1];exact d);rw[gE d]at h1;cases h1;exact h2.plain.1
theorem eO{es:RV (RV V)}{s:Nat}(hs:∀e∈es,e.length=s){j:Nat}(v:j<es.flatten.length):∃(h1:j / s<es.length)(h2:j%s<es[j / s].length),es.flatten[j]=es[j / s][j%s]/\j / s*s+j%s=j/\j%s<s:=by
 have d:j<es.length*s:=by rw[ce hs]at v;exact v
 have t:0<s:=by rcases P8 s with h|h;(subst h;simp at d);exact h
 have hk:j / s<es.length:=PD (by rw[P9];exact d);have hm:j%s<es[j / s].length:=by rw[hs _ (gM hk)];exact PP _ t
 have w:j / s*s+j%s=j:=by rw[P9];exact PH j s
 obtain⟨_,e⟩:=jv hs hk hm;refine⟨hk,hm,?_,w,PP _ t⟩;rw[<-e];congr 1;exact w.symm
theorem sx{ι:RV Inf}{I:Nat->Prop}{a:Act}{w:World}(r:Rel E L h ι I a w){s:Nat}{v:V}{c:Value}{es:RV (RV V)}(C:VR I w ι v c)(he:gV h s v=some es):
  ∃A cap cs,c= .slice A es.length cap/\es.length<=cap/\cap<=9223372036854775807/\(∀e∈es,e.length=s)/\VRs ι I w es.flatten cs/\cs.length=es.length*s/\(es=[]\/∃b off,A=some ⟨b,off,none⟩/\∀j u,cs[j]? =some u->w.cell? ⟨b,off+j,none⟩=some u):=by
 have key:∀{es:RV (RV V)}{b off cap:Nat}{f:Nat->Nat->Value},(∀e∈es,e.length=s)->es.length<=cap->cap<=9223372036854775807->(∀k j,k<es.length->j<s->w.cell? ⟨b,off+(k*s+j),none⟩=some (f k j))->
   (∀(k:Nat)(hk:k<es.length)(j:Nat)(y:j<es[k].length),VR I w ι es[k][j] (f k j))->
   ∃A B cs,Value.slice (some ⟨b,off,none⟩) es.length cap= .slice A es.length B/\es.length<=B/\B<=9223372036854775807/\(∀e∈es,e.length=s)/\VRs ι I w es.flatten cs/\cs.length=es.length*s/\(es=[]\/∃b off,A=some ⟨b,off,none⟩/\∀j u,cs[j]? =some u->w.cell? ⟨b,off+j,none⟩=some u):=by
  intro es b off cap f hs hc hm d hr;refine⟨_,cap,(List.range (es.length*s)).map λj=>f (j / s) (j%s),rfl,hc,hm,hs,⟨by rw[ce hs];simp,λj y=> ?_⟩,C3,.inr ⟨b,off,rfl,λj u D=> ?_⟩⟩
  .obtain⟨h1,h2,G,N,O⟩:=eO hs y;have H:j<es.length*s:=by rw[ce hs]at y;exact y
   refine⟨f (j / s) (j%s),by simp[H],?_⟩;rw[G];exact hr _ h1 _ h2
  .simp at D;obtain⟨x,hx,rfl⟩:=D;have y:j<es.length*s:=Hd
   rw[List.getElem?_range y]at hx;cases hx;obtain⟨h1,h2,G,N,O⟩:=eO hs (j:=j) (by rw[ce hs];exact y);have:=d (j / s) (j%s) h1 O;rw[N]at this;exact this
 unfold gV at he;split at he
 .rename_i s' es';split at he
  .rename_i e;cases he;subst e;cases C with
   |dC hc=>exact⟨_,_,[],rfl,N9 _,hc,C3,VRs.nil,C3,.inl rfl⟩
   |imm hs hc hm Q d hr=>exact key hs hc hm d (λk hk j y=>(hr k hk j y).up)
  .cases he
 .rename_i s' es';split at he
  .rename_i e;cases he;subst e;cases C with
   |kA=>exact⟨_,_,[],rfl,N9 _,C3,C3,VRs.nil,C3,.inl rfl⟩
   |gk hs hm Q d hr=>exact key hs (N4 _) hm d (λk hk j y=>(hr k hk j y).up)
  .cases he
 .rename_i id off len;split at he
  .rename_i s' es' ho;split at he
   .rename_i hc;simp at hc;obtain⟨rfl,R⟩:=hc;cases he;obtain⟨inf,J,K,M⟩:=r.row ho;obtain⟨cur,t,S,W,X,Y,Z,f6,P⟩:=K;have hl:((es'.drop off).take len).length=len:=D5
    have hs:∀e∈(es'.drop off).take len,e.length=s':=λe he=>f6 e (OX (OK he));have d:∀k j,k<((es'.drop off).take len).length->j<s'->w.cell? ⟨inf.block,inf.base+off*s'+(k*s'+j),none⟩=some (cur.getD (inf.base+((off+k)*s'+j)) undef):=λk j hk y=>by
     rw[hl]at hk;obtain⟨u,D,_⟩:=P (off+k) A1 j (by rw[f6 _ (gM _)];exact y);have G:inf.base+off*s'+(k*s'+j)=inf.base+((off+k)*s'+j):=by rw[O9];omega
     rw[G];simp[World.cell?,S,D]
    have hr:∀(k:Nat)(hk:k<((es'.drop off).take len).length)(j:Nat)(y:j<((es'.drop off).take len)[k].length),VR I w ι ((es'.drop off).take len)[k][j] (cur.getD (inf.base+((off+k)*s'+j)) undef):=λk hk j y=>by
     simp only[P3,Oy]at y ⊢;rw[hl]at hk;obtain⟨u,D,C⟩:=P (off+k) A1 j y;simp[D];exact C
    cases C with
    | @own _ _ _ _ cap inf' hi T F hm=>
     have:inf'=inf:=by rw[J]at hi;cases hi;rfl
     subst this;have:=key (cap:=cap) hs A1 hm d hr;rw[hl]at this ⊢;rw[M];exact this
    | fT hi F=>
     have U:(es'.drop off).take 0=[]:=OE;rw[U];exact⟨_,_,[],rfl,N4 _,C3,C3,VRs.nil,C3,.inl rfl⟩
   .cases he
  .cases he
 .cases he;cases C with
  |lit h=>exact⟨_,_,[],rfl,N4 _,C3,C3,VRs.nil,C3,.inl rfl⟩
 .cases he
theorem D8{ι:RV Inf}{I:Nat->Prop}{a:Act}{w:World}(r:Rel E L h ι I a w){s:Nat}{v:V}{c:Value}{es:RV (RV V)}{d B:TypeId}(hk:P.underlying d=some (.slice B))(C:VR I w ι v c)(he:gV h s v=some es):
  ∃cs,Src P s d c es.length cs w/\VRs ι I w es.flatten cs/\(∀e∈es,e.length=s):=by
 obtain⟨A,cap,cs,rfl,h1,h2,D,h4,t,y⟩:=sx r C he;refine⟨cs,?_,h4,D⟩;cases A with
 | none=>
  rcases y with rfl|⟨b,off,hA,_⟩
  .have:cs=[]:=nZ N0;subst this;exact Src.ofNil w hk cap
  .cases hA
 | some F=>
  refine Src.ofSlice w hk F es.length cap cs t (λj u G=> ?_) (Ej h4);rcases y with rfl|⟨b,off,hA,H⟩
  .grind
  .cases hA;rw[dd];exact H j u G
end
section
variable {P : Program} {E : Cx} {K : Env → aD → Prop} {L : Env} {h h0 l : aD} {d n : Nat} {ty : TypeId} {pos : String} {af : Array Edge} {gd : Y (Nat × Bool)} {tb : Tbl} {o : Oper}
theorem oX(I:Nat->Prop)(w:World):cB I I w w.drew:=⟨λ_ h=>h,λ_ _=>rfl⟩
theorem xv(w:World)(t B ty e:TypeId)(i:TypeInfo)(ht:P.underlying t=some (.slice e))(hi:P.info? e=some i)(b off d j:Nat)(x:Value)(n:Nat)(h:RV Value)(hs:Src P i.size B x n h w)
  (v:d+n<=j) {cur:Array Value} {C:TypeId} (hb:w.heap[b]? =some (.cells cur C (0,0))) (y:off+d*i.size+h.length<=cur.size):
  (Builtin.append_ #[t,B] ty #[.slice (some ⟨b,off,none⟩) d j,x]).run P w= .ok (.slice (some ⟨b,off,none⟩) (d+n) j)
   (w.setRow b (cur.toList.take (off+d*i.size)++h++cur.toList.drop (off+d*i.size+h.length)).toArray):=by
 have A:=run_storeCells_at (P:=P) b (off+d*i.size) C h 0 cur w hb (by simpa using y) hs.one;simp only[OD]at A;rcases hs.kind with⟨D,hk⟩|hk<;>simp[Builtin.append_,run_underlying ht,run_underlying hk,sizeOf,typeInfo,hi,hs.len,v,hs.cells,dd,A]
theorem OR.shift{ι:RV Inf}{I:Nat->Prop}{w:World}{inf:Inf}{s off:Nat}{es:RV (RV V)}(h:OR ι I w inf (.row s es))(ho:off<=es.length):OR ι I w ⟨inf.block,inf.base+off*s,inf.cap-off,s⟩ (.row s (es.drop off)):=by
 obtain⟨cur,t,h1,h2,d,h4,y,v,A⟩:=h;refine⟨cur,t,h1,rfl,?_,by show inf.cap-off<=_;omega,D5,λe he=>v e (OX he),λk hk j B=> ?_⟩
 .show cur.size=inf.base+off*s+(inf.cap-off)*s;rw[d];have:inf.cap*s=off*s+(inf.cap-off)*s:=by rw[<-O9];congr 1;omega
  omega
 .grind
theorem eK{x y:Operand}{t h:TypeId}(a:Act)(w:World):(execOp a.eval ⟨some d,.call ⟨.builtin .append,#[x,y],#[t,h]⟩,ty,pos,af,gd⟩).run P w=((Builtin.append_ #[t,h] ty #[a.eval x,a.eval y]).run P w).andThen λv w'=>.ok (.value v) w':=by
 simp[execOp,resolve,invoke,builtin]
def po(P:Program)(E:Cx)(L:Env)(h:aD)(s:Nat)(t:TypeId)(y:Operand)(j:RV (RV V)):Prop:=∀ι I a w,Rel E L h ι I a w->∃d,Src P s t (a.eval y) j.length d w/\VRs ι I w j.flatten d/\(∀e∈j,e.length=s)
theorem pv(d:cV P tb){t:TypeId}{y:Operand}{s:Nat}{w:RV (RV V)}{v:V}{j:ElI}(hex:gb tb t=some j)(A:ev L y=some (.one v))(B:gV h s v=some w):po P E L h s t y w:=
 λ_ _ _ _ r=>D8 (P:=P) r (bL d hex).1 (r.ev A).aY B
theorem JG(b:UInt8):cq (.int .u8 b.toNat):=by
 have:=b.toNat_lt;show (Lit.int .u8 b.toNat).wf=true;exact Rc
def oJ(b:Z):RV (RV V):=b.data.toList.map λc=>[V.lit (.int .u8 c.toNat)]
theorem Ed(d:cV P tb){t:TypeId}{y:Operand}{b:Z}{i:TyI}(ht:tb.lookup t=some i)(hi:i.desc= .string)(A:ev L y=some (.one (.lit (.string b)))):po P E L h 1 t y (oJ b):=λι I a w r=>by
 obtain⟨e,_⟩:=(r.ev A).lit;obtain⟨_,_,h2,_⟩:=bV (d t i ht);rw[hi]at h2;have hl:(oJ b).length=b.size:=by
  unfold oJ;rw[Ol,OM];rfl
 have B:(oJ b).flatten=(b.data.toList.map λc=>V.lit (.int .u8 c.toNat)):=by
  unfold oJ
  induction b.data.toList with
  |nil=>rfl
  |cons c l C=>simp[C]
 refine⟨byteCells b,?_,?_,λe he=>by obtain⟨c,_,rfl⟩:=List.mem_map.1 he;rfl⟩
 .rw[hl,e];exact Src.ofString w h2 b
 .rw[B];refine⟨by simp[byteCells],λj D=> ?_⟩;have v:j<b.data.toList.length:=QT
  refine⟨.int .u8 b.data.toList[j].toNat,by unfold byteCells;rw[Oq,gE v];rfl,?_⟩;rw[NY];refine .lit ?_;exact JG _
theorem Ay(htb:cV P tb){t U:TypeId}{x y:Operand}{id off len s:Nat}{es C:RV (RV V)}{M:ElI}(hx:ev L x=some (.one (.own id off len)))(he:gb tb t=some M)(hne:M.zero≠[])(hz:M.zero.length=M.size)(hs:M.size=s)
  (ho:h[id]?=some (some (.row s es))) (H:off+len=es.length) (W:po P E L h s U y C) (hbnd:len+C.length<=4294967296) (X:Nat.ble M.bytes 4096=true) (hn:d<E.n)
  (hk:K ((d,.one (.own h.length 0 (len+C.length)))::L) (h.set id none++[some (.row s (es.drop off++C))])):ar P ⟨some d,.call ⟨.builtin .append,#[x,y],#[t,U]⟩,ty,pos,af,gd⟩ E K L h:=by
 refine j8 rfl hn (λLf ι I a w rF r=> ?_) hk;have X:=NX X
 obtain⟨D,z,g1,g2,g3,g4,g5⟩:=oO htb he hne hz;obtain⟨u1,u2,_⟩:=bL htb he;have hpos:0<s:=by rw[<-hs,<-hz];exact List.length_pos_iff.2 hne
 obtain⟨inf,J,hor,hsz⟩:=r.row ho;obtain⟨B,hsrc,Z,hns⟩:=W ι I a w r;have F:Src P D.size U (a.eval y) C.length B w:=by rw[g4,hs];exact hsrc
 have hnl:B.length=C.length*s:=by rw[Z.1,ce hns]
 obtain⟨cur,tt,pr,cs,rest,f1,f2,f3,f4,f5,f6,f7,f8,f9,N⟩:=hor.flat;have hcsz:cur.size=inf.base+(es.length*s+rest.length):=by rw[<-OM,f7];simp[f8,N]
 -- growing
 have grow:∀(A:Y Addr) (cap:Nat),a.eval x= .slice A len cap->cap<len+C.length->(Builtin.firstCells D.size len (.slice A len cap)).run P w.drew= .ok (cs.drop (off*s)).toArray w.drew->
   ∃c w' ι' I',(execOp a.eval ⟨some d,.call ⟨.builtin .append,#[x,y],#[t,U]⟩,ty,pos,af,gd⟩).run P w= .ok (.value c) w'/\Rel E (L++Lf) (h.set id none++[some (.row s (es.drop off++C))]) ι' I' a w'/\AR ι' I' w' (.one (.own h.length 0 (len+C.length))) c:=by
  intro A cap hc hlt hold;have hnc:=Room.nextslicecap_le' hlt;have O:Builtin.nextslicecap (len+C.length) cap*D.bytes<=281474976710656:=by
   rw[g5];exact NS (Nat.mul_le_mul (NS hnc (Nat.mul_le_mul_left 2 hbnd)) X) D2
  have G:=run_append_grow_src (P:=P) w t U ty M.t D z u1 g1 g2 A len cap (cs.drop (off*s)) hold (a.eval y) C.length B F hlt A1 O;obtain⟨gc,hgc⟩:∃gc,gc=grownCap w (len+C.length) cap M.t:=⟨_,rfl⟩;rw[<-hgc]at G;have hg1:len+C.length<=gc:=hgc▸grownCap_ge w _ _ _;have hg2:gc<=9223372036854775807:=by
   have:=grownCap_le_maxLen w (len+C.length) cap M.t (by unfold maxLen;omega);unfold maxLen at this;omega
  have hzs:z.cells.size=s:=by rw[<-hs,<-hz,<-g3];simp
  have hdl:(cs.drop (off*s)).length=len*s:=by
   rw[Ox,N,<-H,O9];omega
  have hr2:=((rF.kill id).drew).new ((cs.drop (off*s)++B).toArray++Builtin.zeroCells z.cells (gc-(len+C.length))) M.t s gc (es.drop off++C) (by
    rw[Array.size_append,size_zeroCells,Pj,N8,hdl,hnl,hzs,<-O9,<-O9];congr 1;omega) hg2 D5 (λe he=>by
    rcases List.mem_append.1 he with he|he
    .exact f6 e (OX he)
    .exact hns e he) (cs:=cs.drop (off*s)++B) (rest:=(Builtin.zeroCells z.cells (gc-(len+C.length))).toList) C3 (by
    have e1:(es.drop off++C).flatten=es.flatten.drop (off*s)++C.flatten:=by
     rw[PF]
     congr 1
     have h1:es.flatten=(es.take off).flatten++(es.drop off).flatten:=by rw[<-PF,Om]
     have h2:(es.take off).flatten.length=off*s:=by
      rw[ce (s:=s) (λe he=>f6 e (OK he)),O0,Nat.min_eq_left A1]
     rw[h1,<-h2];simp
    rw[e1];exact((f9.drop _).append Z).aB (bn.refl _) (oX I w))
  refine⟨.slice (some ⟨w.heap.size,0,none⟩) (len+C.length) gc,_,_,_,?_,hr2,?_⟩
  .rw[eK,hc,G];rfl
  .refine .one ?_;have hi:(ι++[(⟨w.heap.size,0,gc,s⟩:Inf)])[h.length]? =some ⟨w.heap.size,0,gc,s⟩:=Ib
   simpa using VR.own (off:=0) (len:=len+C.length) (c:=gc) hi hg1 C3 hg2
 have hvx:=(r.ev hx).aY;generalize hc:a.eval x=c at hvx;cases hvx with
 | @fT _ _ _ oo inf' Q hcap=>
  have hm0:0<C.length\/C.length=0:=A1
  rcases hm0 with hm0|hm0
  .exact grow _ _ hc A1 (by
    have:cs.drop (off*s)=[]:=by apply Oj;rw[N,<-H];simp
    rw[this];exact run_firstCells_some w.drew _ 0 _ 0 0 [] C3 (λj v h=>H0))
  ·-- nothing is appended
   have e0:C=[]:=nZ hm0;subst e0;have:inf'=inf:=by rw[J]at Q;cases Q;rfl
   subst this;have hn0:B=[]:=nZ (by simpa using hnl);subst hn0;have G:(Builtin.append_ #[t,U] ty #[.slice (some ⟨inf'.block,oo,none⟩) 0 0,a.eval y]).run P w= .ok (.slice (some ⟨inf'.block,oo,none⟩) 0 0) w:=by
    have hl0:=F.len;have hc0:=F.cells;simp at hl0 hc0;rcases F.kind with⟨e',hk⟩|hk<;>simp[Builtin.append_,run_underlying u1,run_underlying hk,sizeOf,typeInfo,g1,hl0,hc0,storeCells]
   have hsh:=hor.shift (off:=off) A1;refine⟨_,w,ι++[(⟨inf'.block,inf'.base+off*s,inf'.cap-off,s⟩:Inf)],I,by rw[eK,hc,G];rfl,?_,?_⟩
   .have:=rF.rename (inf':=⟨inf'.block,inf'.base+off*s,inf'.cap-off,s⟩) ho J rfl hsh;rw[Ok];exact this
   .have hi:(ι++[(⟨inf'.block,inf'.base+off*s,inf'.cap-off,s⟩:Inf)])[h.length]? =some ⟨inf'.block,inf'.base+off*s,inf'.cap-off,s⟩:=Ib
    have:=VR.fT (I:=I) (w:=w) (off:=0) (o:=oo) hi (by show 0=inf'.cap-off;omega);exact .one (by simpa using this)
 | @own _ _ _ _ cap inf' Q hle hcap hm=>
  have:inf'=inf:=by rw[J]at Q;cases Q;rfl
  subst this;by_cases R:len+C.length<=cap
  .have O:inf'.base+off*inf'.size+len*D.size+B.length<=cur.size:=by
    rw[f3,f2,g4,hs,hnl];have h1:(off+(len+C.length))*s<=inf'.cap*s:=OZ _ A1;rw[O9,O9]at h1;omega
   have G:=xv (P:=P) w t U ty M.t D u1 g1 inf'.block (inf'.base+off*inf'.size) len cap (a.eval y) C.length B F R f1 O;have hpos2:inf'.base+off*inf'.size+len*D.size=pr.length+cs.length:=by
    rw[f8,N,f2,g4,hs,<-H,O9];omega
   rw[hpos2]at G
   have T:=rF.set (s':=s) (es':=es++C) (cur:=(cur.toList.take (pr.length+cs.length)++B++cur.toList.drop (pr.length+cs.length+B.length)).toArray) (t:=tt) (w':=w.setRow inf'.block (cur.toList.take (pr.length+cs.length)++B++cur.toList.drop (pr.length+cs.length+B.length)).toArray)
    (pr:=pr) (cs:=cs++B) (rest:=rest.drop B.length) ho J (setRow_heap w _ cur _ tt _ f1) (fun b hb=>setRow_other w _ b _ hb) rfl rfl rfl C3 f2 (by
     have hcl:cur.toList.length=cur.size:=C3
     rw[Pj,N8,N8,O0,Ox,hcl];omega) f4 D5 (λe he=>by
     rcases List.mem_append.1 he with he|he
     .exact f6 e he
     .exact hns e he) (by
     simp only[f7];rw[Oc,Pz,Pa,Pa];simp) f8 (by
     rw[PF];exact f9.append Z)
   have ho2:(h.set id (some (.row s (es++C))))[id]? =some (some (.row s (es++C))):=by
    rw[sS (gI.1 ho).1]
   have hor2:=T.heap.obj id _ _ ho2 J;have hsh:=hor2.shift (off:=off) D5;have S:=T.rename (inf':=⟨inf'.block,inf'.base+off*s,inf'.cap-off,s⟩) ho2 J rfl hsh;rw[List.set_set]at S;have e2:(es++C).drop off=es.drop off++C:=by rw[Px A1]
   rw[e2]at S;refine⟨_,_,_,I,by rw[eK,hc,G];rfl,S,?_⟩;have hi:(ι++[(⟨inf'.block,inf'.base+off*s,inf'.cap-off,s⟩:Inf)])[h.length]? =some ⟨inf'.block,inf'.base+off*s,inf'.cap-off,s⟩:=Ib
   have:=VR.own (I:=I) (w:=w.setRow inf'.block (cur.toList.take (pr.length+cs.length)++B++cur.toList.drop (pr.length+cs.length+B.length)).toArray) (off:=0) (len:=len+C.length) (c:=cap) hi R (by show 0+cap=inf'.cap-off;omega) hm;rw[f2];exact .one (by simpa using this)
  .refine grow _ _ hc A1 ?_;have hdl:(cs.drop (off*s)).length=len*s:=by rw[Ox,N,<-H,O9];omega
   refine run_firstCells_some w.drew _ len _ len cap (cs.drop (off*s)) (by rw[hdl,g4,hs]) (λj u hu=> ?_);rw[dd];rw[Pv]at hu;have hj:off*s+j<cs.length:=(gI.1 hu).1;show w.cell? _=_;simp only[World.cell?,f1];have e1:inf'.base+off*inf'.size+j=pr.length+(off*s+j):=by rw[f8,f2];omega
   simp only[Option.isSome_none,PJ,if_false];rw[e1,<-OS,f7,aR A1,Nat.add_sub_cancel_left,aL hj];exact hu
theorem lJ(H:cV P tb){t S:TypeId}{x y:Operand}{s:Nat}{j:RV (RV V)}{B:ElI}(hx:ev L x=some (.one (.lit (.slice none 0 0))))(he:gb tb t=some B)(T:B.zero≠[])(Z:B.zero.length=B.size)(hs:B.size=s)
  (D:po P E L h s S y j) (hm0:0<j.length) (hbnd:j.length<=4294967296) (F:Nat.ble B.bytes 4096=true) (hn:d<E.n)
  (hk:K ((d,.one (.own h.length 0 j.length))::L) (h++[some (.row s j)])):ar P ⟨some d,.call ⟨.builtin .append,#[x,y],#[t,S]⟩,ty,pos,af,gd⟩ E K L h:=by
 refine j8 rfl hn (λLf ι I a w rF r=> ?_) hk;have F:=NX F
 obtain⟨A,z,g1,g2,g3,g4,g5⟩:=oO H he T Z;obtain⟨u1,u2,_⟩:=bL H he;obtain⟨v,J,M,N⟩:=D ι I a w r;have G:Src P A.size S (a.eval y) j.length v w:=by rw[g4,hs];exact J
 have U:v.length=j.length*s:=by rw[M.1,ce N]
 have hc:=(r.ev hx).lit.1;have W:=Room.nextslicecap_le' (need:=0+j.length) (old:=0) A1;have O:Builtin.nextslicecap (0+j.length) 0*A.bytes<=281474976710656:=by
  rw[g5];exact NS (Nat.mul_le_mul (NS W (Nat.mul_le_mul_left 2 (A1:0+j.length<=4294967296))) F) D2
 have C:=run_append_grow_src (P:=P) w t S ty B.t A z u1 g1 g2 none 0 0 [] (run_firstCells_none w.drew _ 0 0 0) (a.eval y) j.length v G A1 A1 O;obtain⟨gc,Q⟩:∃gc,gc=grownCap w (0+j.length) 0 B.t:=⟨_,rfl⟩;rw[<-Q]at C;have hg1:0+j.length<=gc:=Q▸grownCap_ge w _ _ _;have R:gc<=9223372036854775807:=by
  have:=grownCap_le_maxLen w (0+j.length) 0 B.t (by unfold maxLen;omega);unfold maxLen at this;omega
 have X:z.cells.size=s:=by rw[<-hs,<-Z,<-g3];simp
 have Y:=(rF.drew).new (([]++v).toArray++Builtin.zeroCells z.cells (gc-(0+j.length))) B.t s gc j (by
   rw[Array.size_append,size_zeroCells,Pj,OL,U,X,<-O9];congr 1;omega) R A1 N (cs:=v) (rest:=(Builtin.zeroCells z.cells (gc-(0+j.length))).toList) C3 (M.aB (bn.refl _) (oX I w))
 refine⟨.slice (some ⟨w.heap.size,0,none⟩) (0+j.length) gc,_,_,_,?_,Y,?_⟩
 .rw[eK,hc,C];rfl
 .refine .one ?_;have hi:(ι++[(⟨w.heap.size,0,gc,s⟩:Inf)])[h.length]? =some ⟨w.heap.size,0,gc,s⟩:=Ib
  simpa using VR.own (off:=0) (len:=j.length) (c:=gc) hi A1 C3 R
end
section
variable {P : Program} {E : Cx} {K : Env → aD → Prop} {L : Env} {h h0 l : aD} {d n : Nat} {ty : TypeId} {pos : String} {af : Array Edge} {gd : Y (Nat × Bool)} {tb : Tbl} {o : Oper}
end
def V.fz(id s:Nat)(es:RV (RV V)):V->V
 | .own i off len=>if i=id then .imm s ((es.drop off).take len)else .own i off len
 |v=>v
def AV.fz(id s:Nat)(es:RV (RV V)):AV->AV
 | .one v=>.one (v.fz id s es)
 | .agg vs=>.agg (vs.map (V.fz id s es))
 |v=>v
section
variable {P : Program} {E : Cx} {L : Env} {h : aD} {ι : RV Inf} {I : Nat → Prop} {a : Act} {w : World}
theorem Rel.freeze(r:Rel E L h ι I a w){id:Nat}{o:Ob}{inf:Inf}(ho:h[id]? =some (some o))(d:ι[id]? =some inf):Rel E L (h.set id none) ι (λb=>I b\/b=inf.block) a w:=by
 have hk:cB I (λb=>I b\/b=inf.block) w w:=⟨λ_ h=>.inl h,λ_ _=>rfl⟩;have j:inf.block<w.heap.size:=by
  have:=r.heap.obj id o inf ho d;cases o with
  |row s es=>exact Rl
  |map kvs=>exact Rm
 have sub:∀{i:Nat}{x:Ob},(h.set id none)[i]? =some (some x)->h[i]? =some (some x)/\i≠id:=λx=>Hd
 exact
 { aO :=fun t v A=>let⟨c,x,y⟩:=r.aO t v A;⟨c,x,y.aB (bn.refl _) hk⟩
   heap:=⟨PR,λi x f p q=>(r.heap.obj i x f (sub p).1 q).aB (bn.refl _) hk rfl,λi x f p q hb=>by
     rcases hb with hb|hb
     · exact r.heap.off i x f (sub p).1 q hb
     · exact(sub p).2 (r.heap.inj i id x o f inf (sub p).1 ho q d hb),λi B x C f D p F q G e=>r.heap.inj i B x C f D (sub p).1 (sub F).1 q G e,λb c t hb=>.inl (r.heap.sub b c t hb)⟩
   imm:=λb hb=>by
     rcases hb with hb|hb
     · exact r.imm b hb
     · omega
   cY:=λb hb=>by
     rcases hb with hb|hb
     · exact r.cY b hb
     · rw[hb];exact .inr (r.cc id o inf ho d)
   pre:=r.pre
   os:=r.os
   tape:=r.tape
   output:=r.output
   grown:=r.grown
   frame:=r.frame
   cc:=λi x f p q=>r.cc i x f (sub p).1 q
   defers:=r.defers
   size:=r.size}
theorem VR.fz(r:Rel E L h ι I a w){id s:Nat}{es:RV (RV V)}{inf:Inf}(ho:h[id]? =some (some (.row s es)))(d:ι[id]? =some inf)(C:es.all (·.all V.flat)=true){v:V}{c:Value}
  (B:VR I w ι v c) (D:∀off len,v= .own id off len->off+len<=es.length):VR (λb=>I b\/b=inf.block) w ι (v.fz id s es) c:=by
 have hk:cB I (λb=>I b\/b=inf.block) w w:=⟨λ_ h=>.inl h,λ_ _=>rfl⟩;by_cases hex:∃off len,v= .own id off len
 .obtain⟨off,len,rfl⟩:=hex;have F:=D off len rfl;have he:gV h s (.own id off len)=some ((es.drop off).take len):=by simp[gV,ho,F]
  have hl:((es.drop off).take len).length=len:=D5
  obtain⟨cur,t,J,M,P,Q,R,f6,K⟩:=r.heap.obj id _ _ ho d;simp only[V.fz,if_true];cases B with
  |fT hi y=>rw[OE];exact .dC C3
  | @own _ _ _ _ cap inf' hi N y hm=>
   have:inf'=inf:=by rw[d]at hi;cases hi;rfl
   subst this
   have:=VR.imm (ι:=ι) (I:=λb=>I b\/b=inf'.block) (w:=w) (s:=s) (b:=inf'.block) (off:=inf'.base+off*inf'.size) (c:=cap) (es:=(es.drop off).take len) (f:=λk j=>cur.getD (inf'.base+((off+k)*s+j)) undef)
    (fun e he=>f6 e (OX (OK he))) A1 hm (.inr rfl) (fun k j hk A=>by
     rw[hl]at hk;obtain⟨u,G,_⟩:=K (off+k) A1 j (by rw[f6 _ (gM _)];exact A);have O:inf'.base+off*inf'.size+(k*s+j)=inf'.base+((off+k)*s+j):=by rw[M,O9];omega
     rw[O];simp[World.cell?,J,G]) (λk hk j A=>by
     simp only[P3,Oy]at A ⊢;rw[hl]at hk;obtain⟨u,G,B⟩:=K (off+k) A1 j A;simp[G];have H:=aT.1 (aT.1 C _ (gM (A1:off+k<es.length))) _ (gM A);exact(VR.free (ι':=[]) H B).aB (bn.refl _) ⟨λ_ h=>.inl h,λ_ _=>rfl⟩) (.inr λhb=>by
     rw[J]at hb;exact r.heap.off id _ _ ho d (r.heap.sub _ _ _ hb))
   rw[hl]at this;exact this
 .have e:v.fz id s es=v:=by
   cases v with
   | own i off len=>
    simp only[V.fz];rw[N3 (λe=>hex ⟨off,len,by rw[e]⟩)]
   |_=>rfl
  rw[e];exact B.aB (bn.refl _) hk
def V.fits(id n:Nat):V->Bool
 | .own i off len=>if i=id then decide (off+len<=n)else true
 |_=>true
def AV.fits(id n:Nat):AV->Bool
 | .one v=>v.fits id n
 | .agg vs=>vs.all (V.fits id n)
 |_=>true
theorem m7{id n:Nat}{v:V}(h:v.fits id n=true):∀off len,v= .own id off len->off+len<=n:=λoff len e=>by subst e;simpa [V.fits]using h
theorem Rel.freezeSlot(r:Rel E L h ι I a w){id s t:Nat}{es:RV (RV V)}{v:AV}(ho:h[id]? =some (some (.row s es)))(C:es.all (·.all V.flat)=true)(ht:L.lookup t=some v)(d:v.fits id es.length=true):
  ∃G,Rel E ((t,v.fz id s es)::L) (h.set id none) ι G a w:=by
 obtain⟨inf,y,_,_⟩:=r.row ho;refine⟨λb=>I b\/b=inf.block,?_⟩;have F:=r.freeze ho y;obtain⟨c,h1,h2⟩:=r.aO t v ht;have hk:cB I (λb=>I b\/b=inf.block) w w:=⟨λ_ h=>.inl h,λ_ _=>rfl⟩;have K:AR ι (λb=>I b\/b=inf.block) w (v.fz id s es) c:=by
  cases h2 with
  |one H=>exact .one (VR.fz r ho y C H (m7 (by simpa only[AV.fits]using d)))
  | agg hl A hr=>
   have B:=aT.1 (show _=true by simpa only[AV.fits]using d)
   exact .agg PS (λj D=>A j QT) (λj D=>by
    simp only[NY];exact VR.fz r ho y C (hr j QT) (m7 (B _ (gM _))))
  |tup hl A hr=>exact(AR.tup hl A hr).aB (bn.refl _) hk
  |dead=>exact .dead
 refine {F with aO:=λu x hx=> ?_};rw[NT]at hx;by_cases e:u=t
 .grind
 .have J:(u==t)=false:=Qu
  rw[J]at hx;exact F.aO u x hx
theorem cQ.freeze(t id:Nat){s:Nat}{es:RV (RV V)}{v:AV}(ho:h[id]? =some (some (.row s es)))(j:es.all (·.all V.flat)=true)(ht:L.lookup t=some v)(d:v.fits id es.length=true):cQ L h ((t,v.fz id s es)::L) (h.set id none):=
 ⟨λ_ _ _ _ _ r=>r.freezeSlot ho j ht d⟩
theorem Rel.lY(r:Rel E L h ι I a w){id m s sm:Nat}{es em:RV (RV V)}(ho:h[id]? =some (some (.row s es)))(hm:h[m]? =some (some (.row sm em)))(H:m≠id)(J:es.all (·.all V.flat)=true)(A:em.all (·.all (V.fits id es.length))=true):
  ∃O,Rel E L ((h.set id none).set m (some (.row sm (em.map (·.map (V.fz id s es)))))) ι O a w:=by
 obtain⟨inf,B,_,_⟩:=r.row ho;obtain⟨C,D,F,_⟩:=r.row hm;refine⟨λb=>I b\/b=inf.block,?_⟩;have v:=r.freeze ho B;have G:(h.set id none)[m]? =some (some (.row sm em)):=by rw[sN (λe=>H e.symm)];exact hm
 obtain⟨cur,t,P,Q,R,S,T,f6,U⟩:=F;refine {v with heap:=⟨PR,λi x f p q=> ?_,λi x f p q=> ?_,λi W x x' f X p Y q Z e=> ?_,λb c t hb=>.inl (r.heap.sub b c t hb)⟩,cc:=λi x f p q=> ?_}
 .rcases cC p with⟨e,d,_⟩|⟨e,d⟩
  .subst e;cases d;have:f=C:=by rw[D]at q;cases q;rfl
   subst this;refine⟨cur,t,P,Q,R,S,by simpa using T,λe he=> ?_,λk hk j K=> ?_⟩
   .grind
   .simp only[NY,Ol]at hk K ⊢;obtain⟨u,hu,hv⟩:=U k hk j K;have M:=aT.1 (aT.1 A _ (gM hk)) _ (gM K);exact⟨u,hu,VR.fz r ho B J hv (m7 M)⟩
  .exact v.heap.obj i x f d q
 .rcases cC p with⟨e,d,_⟩|⟨e,d⟩
  .subst e;exact v.heap.off i _ f G q
  .exact v.heap.off i x f d q
 .have low:∀{i:Nat}{x:Ob},((h.set id none).set m (some (.row sm (em.map (·.map (V.fz id s es))))))[i]? =some (some x)->∃y,(h.set id none)[i]? =some (some y):=λ{i x} p=>Hd
  obtain⟨y,hy⟩:=low p;obtain⟨y',N⟩:=low Y;exact v.heap.inj i W y y' f X hy N q Z e
 .rcases cC p with⟨e,d,_⟩|⟨e,d⟩
  .subst e;exact v.cc i _ f G q
  .exact v.cc i x f d q
theorem cQ.lY(id m:Nat){s sm:Nat}{es em:RV (RV V)}(ho:h[id]? =some (some (.row s es)))(hm:h[m]? =some (some (.row sm em)))(j:m≠id)(t:es.all (·.all V.flat)=true)(d:em.all (·.all (V.fits id es.length))=true):
  cQ L h L ((h.set id none).set m (some (.row sm (em.map (·.map (V.fz id s es)))))):=⟨λ_ _ _ _ _ r=>r.lY ho hm j t d⟩
end
section
variable {P : Program} {E : Cx} {K : Env → aD → Prop} {L : Env} {h0 l : aD} {d d2 n : Nat} {ty ty2 : TypeId} {pos pos2 : String} {af af2 : Array Edge} {tb : Tbl} {ops : Array Oper} {rest : RV Oper}
end
def yX(tmps:Array Value):ResultVar->Sem Value
 | .tmp t=>pure (tmps.getD t undef)
 | .cell a t=>do loadVar t (←asAddr (tmps.getD a undef))
structure IS(P:Program)(L:Env)(h:aD)(rv:ResultVar)(v:AV):Prop where
 get:∀E ι I a w,Rel E L h ι I a w->∃c,(yX a.tmps rv).run P w= .ok c w/\AR ι I w v c
inductive ResL(P:Program)(L:Env)(h:aD):List ResultVar->List AV->Prop
 |nil:ResL P L h [] []
 |cons {r:ResultVar} {v:AV} {rs:List ResultVar} {vs:List AV}:IS P L h r v->ResL P L h rs vs->ResL P L h (r::rs) (v::vs)
theorem ResL.run{P:Program}{L:Env}{h:aD}{t:RV ResultVar}{vs:RV AV}(k:ResL P L h t vs){E ι I a w}(r:Rel E L h ι I a w):
  ∃cs:RV Value,(t.mapM (yX a.tmps)).run P w= .ok cs w/\cs.length=vs.length/\∀j (d:j<vs.length),∃c,cs[j]? =some c/\AR ι I w vs[j] c:=by
 induction k with
 |nil=>exact⟨[],C3,rfl,λj d=>QV⟩
 | cons h1 _ v=>
  obtain⟨c,y,A⟩:=h1.get _ _ _ _ _ r;obtain⟨cs,B,C,D⟩:=v;refine⟨c::cs,by simp[List.mapM_cons,y,B],by simp[C],λj d=> ?_⟩;cases j with
  |zero=>exact⟨c,rfl,A⟩
  |succ j=>exact D j Q1
theorem GN{P:Program}{L:Env}{h:aD}{t:Nat}{v:AV}(d:L.lookup t=some v):IS P L h (.tmp t) v:=
 ⟨fun E ι I a w r=>by
  obtain⟨c,h1,h2⟩:=r.aO t v d;exact⟨c,by simp[yX,h1],h2⟩⟩
theorem De{P:Program}{L:Env}{h:aD}{tb:Tbl}(j:cV P tb){t ty id k o s:Nat}{es:RV (RV V)}{e:RV V}{i:TyI}{v:AV}(hx:L.lookup t=some (.one (.ptr id k o)))(ht:tb.lookup ty=some i)(ho:h[id]? =some (some (.row s es)))(he:es[k]? =some e)
  (hl:uJ i.agg i.size (e.drop o)=some v):IS P L h (.cell t ty) v:=
 ⟨fun E ι I a w r=>by
  obtain⟨inf,y,A,B⟩:=r.row ho;obtain⟨c,h1,h2⟩:=r.aO t _ hx;have D:=h2.aY;cases D with
  | @ptr _ _ _ _ inf' hi=>
   have:inf'=inf:=by rw[y]at hi;cases hi;rfl
   subst this;obtain⟨f,d,C⟩:=A.cells he (o:=o);rw[<-B]at d;obtain⟨c,g1,F⟩:=rC j ht d C hl;refine⟨c,?_,F⟩;simp[yX,h1,asAddr,g1]⟩
def cM:BinOp->Bool->Bool->Bool
 | .eql,a,b=>a==b
 | .neq,a,b=> !(a==b)
 |_,_,_=>false
theorem Ja{P:Program}{E:Cx}{K:Env->aD->Prop}{L:Env}{h:aD}{d:Nat}{ty:TypeId}{pos:String}{af:Array Edge}{gd:Y (Nat×Bool)}{op:BinOp}{j t:TypeId}{x y:Operand}{a b:Bool}(ho:(op== .eql||op== .neq)=true)(v:P.underlying j=some .bool)
  (hx:ev L x=some (.one (.lit (.bool a)))) (A:ev L y=some (.one (.lit (.bool b)))) (B:d<E.n) (hk:K ((d,.one (.lit (.bool (cM op a b))))::L) h):ar P ⟨some d,.binOp op j x y t,ty,pos,af,gd⟩ E K L h:=
 fB (c:=.bool (cM op a b)) hx A C3 (λw=>by
  cases op<;>first
   |(cases ho;done)
   |(have e:=run_equalIn_bool w (Op.maxDepth-1) j a b v;rw[show Op.maxDepth-1+1=Op.maxDepth from rfl]at e;simp[binOp,Op.equal,e,cM])) (λ_ _=>trivial) B hk
theorem FH{P:Program}{E:Cx}{K:Env->aD->Prop}{L:Env}{h:aD}{d:Nat}{ty:TypeId}{pos:String}{af:Array Edge}{gd:Y (Nat×Bool)}{tb:Tbl}(j:cV P tb){op:BinOp}{t v:TypeId}{x y:Operand}{a b:Bool}{i:TyI}(ho:(op== .eql||op== .neq)=true)(ht:tb.lookup t=some i)(hd:i.desc= .bool)
  (hx:ev L x=some (.one (.lit (.bool a)))) (w:ev L y=some (.one (.lit (.bool b)))) (A:d<E.n) (hk:K ((d,.one (.lit (.bool (cM op a b))))::L) h):ar P ⟨some d,.binOp op t x y v,ty,pos,af,gd⟩ E K L h:=by
 obtain⟨_,_,h2,_⟩:=bV (j t i ht);exact Ja ho (by rw[h2,hd]) hx w A hk
end Go.Proofs.YtigoabbppmdfpaaGreat.Abs
namespace Go.Proofs.YtigoabbppmdfpaaGreat.Draw
open Go.RowKit
open Abs (cn cnt lN tD fQ eC dv lw dt su iI bP dO eJ i6 jh p8 Plan pG)
section
variable {β γ : Type}
def cK:Y Nat->β->RV (Nat×β)->RV (Nat×β)
 |some d,v,L=>(d,v)::L
 |none,_,L=>L
def sel(L:RV (Nat×β)):RV Nat->RV (Nat×β)
 |[]=>[]
 | t::ts=>match L.lookup t with
  |some v=>(t,v)::sel L ts
  |none=>sel L ts
def Sub(L L':RV (Nat×β)):Prop:=∀t v,L.lookup t=some v->L'.lookup t=some v
theorem FE{t:Nat}{v:β}{L L':RV (Nat×β)}(h1:L.lookup t=some v)(h2:Sub L' L):Sub ((t,v)::L') L:=by
 intro u x hx;rw[NT]at hx;by_cases e:u=t
 .grind
 .have:(u==t)=false:=Qu
  rw[this]at hx;exact h2 u x hx
theorem sel_sub{L L':RV (Nat×β)}{ts:RV Nat}(h:∀t∈ts,L'.lookup t=L.lookup t):Sub (sel L ts) L':=by
 induction ts with
 |nil=>intro t v h;simp[sel]at h
 | cons t ts j=>
  have d:=j λu w=>h u QX;simp only[sel];split
  .rename_i v y;exact FE ((h t C3).trans y) d
  .exact d
structure Sys(P:Program)(ops:Array Oper)(β γ:Type) where
 Rel:List (Nat×β)->γ->Act->World->Prop
 OT:Oper->List (Nat×β)->β->γ->γ->Prop
 j4:∀{L L':List (Nat×β)}{h:γ}{a:Act}{w:World},Rel L h a w->Sub L' L->Rel L' h a w
 same:∀{L:List (Nat×β)}{h:γ}{a:Act}{w w':World},Rel L h a w->w'.heap=w.heap->w'.os=w.os->w'.tape=w.tape->w'.output=w.output->Rel L h a w'
 sound:∀{o:Oper}{L Lg:List (Nat×β)}{v:β}{h h':γ}{i:Nat}{a:Act}{w:World}{Q:Exit->Act->World->Prop}{K:Act->World->Prop},
  OT o L v h h'->Sub L Lg->ops[i]? =some o->Rel Lg h a w->(∀a' w',Rel (cK o.dst v Lg) h' a' w'->K a' w')->wpOp P ops Q i K a w
section
variable {P : Program} {ops : Array Oper}
def ba(ops:Array Oper)(val:Nat->β):RV Nat->RV (Nat×β)->RV (Nat×β)
 |[],L=>L
 |i::r,L=>ba ops val r (cK (cn ops i) (val i) L)
inductive DR{P:Program}{ops:Array Oper}(S:Sys P ops β γ)(ch rd π:List Nat):List Nat->List (Nat×β)->List γ->List (Nat×β)->List γ->Prop
 |nil (L:List (Nat×β)) (hs:List γ):DR S ch rd π [] L hs L hs
 |pure {i:Nat} {rest:List Nat} {L Lf:List (Nat×β)} {hs hf:List γ} {o:Oper} {v:β} (ho:ops[i]? =some o) (hc:ch.contains i=false) (ht:∀h,S.OT o (sel L (o.looksAt ops)) v h h) (k:DR S ch rd π rest (cK o.dst v L) hs Lf hf):DR S ch rd π (i::rest) L hs Lf hf
 | read {i:Nat} {rest:List Nat} {L Lf:List (Nat×β)} {hs hf:List γ} {o:Oper} {v:β} (ho:ops[i]? =some o) (hc:ch.contains i=false) (hr:rd.contains i=true) (ht:∀h∈hs.take (hs.length-cnt ch (π.filter fun j=>dv ops j i)),S.OT o (sel L (o.looksAt ops)) v h h)
   (k:DR S ch rd π rest (cK o.dst v L) hs Lf hf):DR S ch rd π (i::rest) L hs Lf hf
 | chain {i:Nat} {rest:List Nat} {L Lf:List (Nat×β)} {h h':γ} {hs hf:List γ} {o:Oper} {v:β} (ho:ops[i]? =some o) (hc:ch.contains i=true) (ht:S.OT o (sel L (o.looksAt ops)) v h h') (k:DR S ch rd π rest (cK o.dst v L) (h'::h::hs) Lf hf):
   DR S ch rd π (i::rest) L (h::hs) Lf hf
def NC(S:Sys P ops β γ)(ch rd π:RV Nat)(hr:RV γ)(c:Nat)(L:RV (Nat×β))(v:β)(i:Nat):Prop:=
 ∃ o, ops[i]? =some o/\
  ((ch.contains i=true/\∃h h',hr[c]? =some h/\hr[c+1]? =some h'/\S.OT o (sel L (o.looksAt ops)) v h h')\/
   (ch.contains i=false/\rd.contains i=true/\∀d h,cnt ch (π.filter λj=>dv ops j i)<=d->d<=c->hr[d]? =some h->S.OT o (sel L (o.looksAt ops)) v h h)\/
   (ch.contains i=false/\∀h,S.OT o (sel L (o.looksAt ops)) v h h))
theorem dz{ops:Array Oper}{val d:Nat->β}:∀{l:RV Nat}{L:RV (Nat×β)},(∀i∈l,val i=d i)->ba ops val l L=ba ops d l L
 |[],_,_=>rfl
 | i::l,L,h=>by
  simp only[ba];rw[h i C3];exact dz λj t=>h j QM
theorem DR.spec[Inhabited β]{S:Sys P ops β γ}{ch rd π:RV Nat}{σ:RV Nat}{L Lf:RV (Nat×β)}{hs F:RV γ}(d:DR S ch rd π σ L hs Lf F)(w:dt (λi j=>i !=j) σ=true)(E:hs≠[]):
  ∃val:Nat->β,Lf=ba ops val σ L/\(∃D,F=D++hs/\D.length=cnt ch σ)/\∀pre i post,σ=pre++i::post->NC S ch rd π F.reverse (hs.length-1+cnt ch pre) (ba ops val pre L) (val i) i:=by
 induction d with
 |nil L hs=>exact⟨λ_=>default,rfl,⟨[],rfl,rfl⟩,λpre i post e=>by simp at e⟩
 | @pure i rest L Lf hs F o v ho hc ht k G=>
  simp only[dt,bA]at w;obtain⟨val,h1,⟨D,h2,B⟩,H⟩:=G w.2 E;have t:∀j∈rest,j≠i:=λj y e=>Q5
  refine⟨λj=>if j=i then v else val j,?_,⟨D,h2,by rw[B,lN hc]⟩,λpre j post e=> ?_⟩
  .simp only[ba,if_true];rw[h1];have:cn ops i=o.dst:=QH
   exact Ru
  .cases pre with
   | nil=>
    simp at e;obtain⟨rfl,_⟩:=e;exact⟨o,ho,.inr (.inr ⟨hc,by simpa [ba]using ht⟩)⟩
   | cons x pre=>
    simp at e;obtain⟨rfl,e⟩:=e;have A:j∈rest:=Qr
    have:=H pre j post e;have I:cnt ch (i::pre)=cnt ch pre:=lN hc;have J:ba ops (λj=>if j=i then v else val j) (i::pre) L=ba ops val pre (cK o.dst v L):=by
     simp only[ba,if_true];have:cn ops i=o.dst:=QH
     rw[this];exact dz λj y=>Ql
    exact R7
 | @read i rest L Lf hs F o v ho hc M ht k G=>
  simp only[dt,bA]at w;obtain⟨val,h1,⟨D,h2,B⟩,H⟩:=G w.2 E;have t:∀j∈rest,j≠i:=λj y e=>Q5
  refine⟨λj=>if j=i then v else val j,?_,⟨D,h2,by rw[B,lN hc]⟩,λpre j post e=> ?_⟩
  .simp only[ba,if_true];rw[h1];have:cn ops i=o.dst:=QH
   exact Ru
  .cases pre with
   | nil=>
    simp at e;obtain⟨rfl,_⟩:=e;refine⟨o,ho,.inr (.inl ⟨hc,M,λO h Q N C=> ?_⟩)⟩;simp only[ba,if_true];refine ht h ?_;simp[cnt]at N;rw[h2,List.reverse_append]at C;have hp:0<hs.length:=List.length_pos_iff.2 E;rw[aL D5,List.getElem?_reverse A1]at C;rw[List.mem_take_iff_getElem];obtain⟨hlt,e⟩:=gI.1 C;exact⟨hs.length-1-O,A1,e⟩
   | cons x pre=>
    simp at e;obtain⟨rfl,e⟩:=e;have A:j∈rest:=Qr
    have:=H pre j post e;have I:cnt ch (i::pre)=cnt ch pre:=lN hc;have J:ba ops (λj=>if j=i then v else val j) (i::pre) L=ba ops val pre (cK o.dst v L):=by
     simp only[ba,if_true];have:cn ops i=o.dst:=QH
     rw[this];exact dz λj y=>Ql
    exact R7
 | @chain i rest L Lf h h' hs F o v ho hc ht k G=>
  simp only[dt,bA]at w;obtain⟨val,h1,⟨D,h2,B⟩,H⟩:=G w.2 C3;have t:∀j∈rest,j≠i:=λj y e=>Q5
  refine⟨λj=>if j=i then v else val j,?_,⟨D++[h'],by rw[h2];simp,by rw[tD hc];simp[B]⟩,λpre j post e=> ?_⟩
  .simp only[ba,if_true];rw[h1];have:cn ops i=o.dst:=QH
   exact Ru
  .cases pre with
   | nil=>
    simp at e;obtain⟨rfl,_⟩:=e;refine⟨o,ho,.inl ⟨hc,h,h',?_,?_,by simpa [ba]using ht⟩⟩
    .rw[h2];simp[cnt]
    .rw[h2];simp[cnt]
   | cons x pre=>
    simp at e;obtain⟨rfl,e⟩:=e;have A:j∈rest:=Qr
    have:=H pre j post e;have I:(h::hs).length-1+cnt ch (i::pre)=(h'::h::hs).length-1+cnt ch pre:=by rw[tD hc];simp;omega
    have J:ba ops (λj=>if j=i then v else val j) (i::pre) L=ba ops val pre (cK o.dst v L):=by
     simp only[ba,if_true];have:cn ops i=o.dst:=QH
     rw[this];exact dz λj y=>Ql
    exact R7
theorem dh(ops:Array Oper)(val:Nat->β)(t:Nat):∀(l:RV Nat)(L L':RV (Nat×β)),L.lookup t=L'.lookup t->(ba ops val l L).lookup t=(ba ops val (l.filter (bP ops t)) L').lookup t
 |[],L,L',h=>h
 | i::l,L,L',h=>by
  simp only[ba,Og];cases j:cn ops i with
  | none=>
   have:bP ops t i=false:=by simp[bP,j]
   rw[this];exact dh ops val t l _ L' h
  | some d=>
   by_cases e:d=t
   .subst e;have:bP ops d i=true:=by simp[bP,j]
    rw[this];simp only[if_true,ba,j];exact dh ops val d l _ _ (by simp[cK])
   .have:bP ops t i=false:=by simp[bP,j,e]
    rw[this];refine dh ops val t l _ L' ?_;simp only[cK,NT];have v:(t==d)=false:=by simpa using λx=>e x.symm
    rw[v];exact h
theorem iH{ops:Array Oper}{val:Nat->β}{t:Nat}{l l':RV Nat}{L:RV (Nat×β)}(h:l.filter (bP ops t)=l'.filter (bP ops t)):(ba ops val l L).lookup t=(ba ops val l' L).lookup t:=by
 rw[dh ops val t l L L rfl,dh ops val t l' L L rfl,h]
theorem mw(ops:Array Oper)(val:Nat->β):∀(a b:RV Nat)(L:RV (Nat×β)),ba ops val (a++b) L=ba ops val b (ba ops val a L)
 |[],_,_=>rfl
 |_::a,b,_=>mw ops val a b _
theorem draw[Inhabited β]{S:Sys P ops β γ}{Q:Exit->Act->World->Prop}{L Lf:RV (Nat×β)}{h hl:γ}{hs:RV γ}{id:Nat}(hm:P.follows .mixedOrders=true)(π ch rd:RV Nat)(hp:su ops π ch rd=true)
  (d:DR S ch rd π π L [h] Lf (hl::hs)) (hq:∀a w,S.Rel Lf hl a w->Q .normal a w) {a:Act} {w:World} (r:S.Rel L h a w):(Code.region id ops true).wp P Q a w:=by
 have R:=pG hp;obtain⟨val,hLf,⟨nw,hnw,hnwl⟩,hkn⟩:=d.spec R.nd C3;have hrev:(hl::hs).length=cnt ch π+1:=by rw[hnw];simp[hnwl]
 have W:(hl::hs).reverse[cnt ch π]? =some hl:=by
  rw[List.getElem?_reverse A1];have:(hl::hs).length-1-cnt ch π=0:=A1
  rw[this];rfl
 have T:(hl::hs).reverse[0]? =some h:=by rw[hnw];simp
 have hHlen:(hl::hs).reverse.length=cnt ch π+1:=by rw[List.length_reverse];exact hrev
 obtain⟨H,hH⟩:∃H,H=(hl::hs).reverse:=⟨_,rfl⟩;rw[<-hH]at hkn W T hHlen;simp only[OU,Po,Ou]at hkn;refine wp_region_any hm ?_;have getF:∀(v:Array Bool)(i:Nat),v.size=ops.size->i<ops.size->v.getD i true=v.getD i false:=λv i A hi=>by
  simp[Array.getD,A,hi]
 have U:∀(v:Array Bool)(i:Nat),v.size=ops.size->i∈Region.ready .any ops v->i<ops.size/\v.getD i false=false/\∀(o:Oper),ops[i]? =some o->∀j∈eC o,v.getD j false=true:=λv i A hi=>by
  unfold Region.ready at hi;obtain⟨h1,h2⟩:=List.mem_filter.1 hi;have h1:=List.mem_range.1 h1;simp only[bA,OF]at h2;refine⟨h1,by rw[<-getF v i A h1];exact h2.1,λo ho j C=> ?_⟩;rw[ho]at h2;simp only[OG,P7]at h2;unfold eC at C;obtain⟨ed,hed,hif⟩:=List.mem_filterMap.1 C;split at hif
  .rename_i hb;cases hif;have:=Array.all_eq_true'.1 h2.2 ed (by simpa using hed);simpa [hb]using this
  .cases hif
 have readyE:∀(v:Array Bool)(i:Nat)(o:Oper),v.size=ops.size->ops[i]? =some o->v.getD i false=false->(∀j∈eC o,v.getD j false=true)->i∈Region.ready .any ops v:=λv i o A ho I hd=>by
  have hlt:=(Array.getElem?_eq_some_iff.1 ho).1;unfold Region.ready;refine List.mem_filter.2 ⟨List.mem_range.2 hlt,?_⟩;rw[getF v i A hlt,I,ho];simp only[NR,N6,OG,P7];rw[Array.all_eq_true'];intro ed hed;cases hb:Region.binds .any ed with
  |false=>simp
  | true=>
   simp only[N5,PE];exact hd ed.on (by unfold eC;exact List.mem_filterMap.2 ⟨ed,by simpa using hed,by simp[hb]⟩)
 have fin:∀(v:Array Bool) (a:Act) (w:World) (hc:γ),v.size=ops.size->
   H[cnt ch (π.filter λi=>v.getD i false)]? =some hc->S.Rel (ba ops val (π.filter λi=>v.getD i false) L) hc a w->Region.ready .any ops v=[]->Q .normal a w:=by
  intro v a w hc A B r hready;have hallX:∀(n:Nat) (pre post:RV Nat),pre.length=n->π=pre++post->∀i∈pre,v.getD i false=true:=by
   intro n
   induction n with
   |zero=>intro pre post hl0 _ i hi;rw[nZ hl0]at hi;simp at hi
   | succ n ih=>
    intro pre' post hl0 e i hi;obtain⟨pre,x,rfl⟩:∃pre x,pre'=pre++[x]:=by
     rcases List.eq_nil_or_concat pre' with h0|⟨l,x,h0⟩
     .subst h0;simp at hl0
     .exact⟨l,x,by simpa using h0⟩
    have e':π=pre++x::post:=Qr
    have hpre:=ih pre (x::post) (by simpa using hl0) e';rcases List.mem_append.1 hi with hi|hi
    .exact hpre i hi
    .simp at hi;subst hi;have V:i∈π:=by rw[e'];simp
     have hxlt:=R.lt i V;cases I:v.getD i false with
     |true=>rfl
     | false=>
      exfalso;have ho:=gA hxlt;have:i∈Region.ready .any ops v:=readyE v i _ A ho I λj C=>by
       obtain⟨j1,j2⟩:=R.edge i V _ ho j C;have hjm:=R.all j j1;rw[e']at hjm;rcases List.mem_append.1 hjm with hjm|hjm
       .exact hpre j hjm
       .rcases List.mem_cons.1 hjm with hjm|hjm
        .exact absurd hjm j2
        .exact absurd C ((R.pair pre i post e' j hjm).2.2.2.2 _ ho)
      rw[hready]at this;cases this
  have e:π.filter (λi=>v.getD i false)=π:=List.filter_eq_self.2 (hallX π.length π [] rfl C3);rw[e]at B r;rw[W]at B;cases B;exact hq _ _ (by rw[hLf];exact r)
 have key:∀(ei:Nat) (v:Array Bool) (a:Act) (w:World) (hc:γ),v.size=ops.size->
   (∀(i:Nat)(o:Oper),ops[i]?=some o->v.getD i false=true->∀j∈eC o,v.getD j false=true)->
   H[cnt ch (π.filter λi=>v.getD i false)]? =some hc->
   (π.filter λi=> !v.getD i false).length<=ei->
   S.Rel (ba ops val (π.filter λi=>v.getD i false) L) hc a w->wpAny P .any ops Q ei v a w:=by
  intro ei
  induction ei with
  | zero=>
   intro v a w hc A Y B hfu r;have hnil:Region.ready .any ops v=[]:=by
    cases hr:Region.ready .any ops v with
    |nil=>rfl
    | cons i l=>
     exfalso;obtain⟨h1,h2,_⟩:=U v i A (by rw[hr];simp);have:i∈π.filter λi=> !v.getD i false:=List.mem_filter.2 ⟨R.all i h1,by rw[h2];rfl⟩;have:=List.length_pos_of_mem this;omega
   exact⟨hnil,fin v a w hc A B r hnil⟩
  | succ ei ih=>
   intro v a w hc A Y B hfu r;refine⟨fin v a w hc A B r,λi hi=> ?_⟩;obtain⟨hlt,I,Z⟩:=U v i A hi;have ho:=gA hlt;have V:=R.all i hlt;obtain⟨pre,post,e⟩:=Ov V;have befX:∀{j},dv ops j i=true->v.getD j false=true:=λhb=>iI (X:=λj=>v.getD j false=true) Y ho (Z _ ho) hb
   have noB:∀{j},v.getD j false=true->dv ops i j=true->False:=λ{j} C hb=>by
    rcases ON j ops.size with hjl|hjl
    .have D:=gA hjl;have:=iI (X:=λj=>v.getD j false=true) Y D (Y j _ D C) hb;rw[I]at this;cases this
    .rw[On,OP A1]at C;cases C
   have F:∀k∈pre,k≠i/\(lw ops k i=true->dv ops k i=true)/\(ch.contains k=true->ch.contains i=true->dv ops k i=true):=λk hk=>by
    obtain⟨p1,p2,e2⟩:=Ov hk;have:=R.pair p1 k (p2++i::post) (by rw[e,e2];simp) i C3;exact⟨this.1,this.2.1,this.2.2.1⟩
   have y:=R.pair pre i post e
   -- the filters
   have fX:π.filter (λi=>v.getD i false)=pre.filter (λi=>v.getD i false)++post.filter (λi=>v.getD i false):=by
    rw[e,Oe,Og,I];simp
   have E:∀j,(v.setIfInBounds i true).getD j false=if j=i then true else v.getD j false:=λj=>by
    rw[On,On];by_cases ej:j=i
    .subst ej;simp[A,hlt]
    .rw[O8 (λx=>ej x.symm),N3 ej]
   have fX':π.filter (λj=>(v.setIfInBounds i true).getD j false)=pre.filter (λi=>v.getD i false)++i::post.filter (λi=>v.getD i false):=by
    rw[e,Oe,Og];have a1:pre.filter (λj=>(v.setIfInBounds i true).getD j false)=pre.filter (λi=>v.getD i false):=Of λk hk=>by rw[E,N3 (F k hk).1]
    have a2:post.filter (λj=>(v.setIfInBounds i true).getD j false)=post.filter (λi=>v.getD i false):=Of λk hk=>by rw[E,N3 (λx=>(y k hk).1 x.symm)]
    rw[a1,a2,E,N1 rfl];simp
   have cX:cnt ch (π.filter λi=>v.getD i false)=cnt ch (pre.filter λi=>v.getD i false)+cnt ch (post.filter λi=>v.getD i false):=by rw[fX,fQ]
   obtain⟨o,J,hk⟩:=hkn pre i post e;have eo:o=ops[i]:=by rw[ho]at J;cases J;rfl
   -- the K sees what it saw
   have hsel:Sub (sel (ba ops val pre L) (o.looksAt ops)) (ba ops val (π.filter λi=>v.getD i false) L):=sel_sub λt ht=>by
    refine iH ?_;rw[fX,Oe];have b1:(post.filter λi=>v.getD i false).filter (bP ops t)=[]:=eJ λj C M=>by
     cases hw:bP ops t j with
     |false=>rfl
     | true=>
      exfalso;have hjl:=R.lt j (by rw[e];simp[C]);have D:=gA hjl;have hdj:ops[j].dst=some t:=by simpa [bP,cn,D]using hw
      cases G:lw ops i j with
      |true=>exact noB M ((y j C).2.1 G)
      |false=>exact(dO J D G).2 t hdj ht
    have b2:(pre.filter λi=>v.getD i false).filter (bP ops t)=pre.filter (bP ops t):=by
     rw[List.filter_filter];refine Of λk hk=> ?_;cases hw:bP ops t k with
     |false=>simp
     | true=>
      simp only[N6];have hkl:=R.lt k (by rw[e];simp[hk]);have hok:=gA hkl;have hdk:ops[k].dst=some t:=by simpa [bP,cn,hok]using hw
      cases G:lw ops k i with
      |true=>exact befX ((F k hk).2.1 G)
      |false=>exact absurd ht ((dO hok J G).1 t hdk).1
    rw[b1,b2,Ok]
   -- what stands behind it
   have hsub:Sub (ba ops val (π.filter λj=>(v.setIfInBounds i true).getD j false) L) (cK o.dst (val i) (ba ops val (π.filter λi=>v.getD i false) L)):=λt x hx=>by
    rw[fX']at hx;have hgs:cn ops i=o.dst:=by simp[cn,J]
    by_cases hd:o.dst=some t
    .rw [hd];simp only[cK,NT,beq_self_eq_true];rw[mw]at hx;simp only[ba]at hx;rw[hgs,hd]at hx;have b1:(post.filter λi=>v.getD i false).filter (bP ops t)=[]:=eJ λj C M=>by
      cases hw:bP ops t j with
      |false=>rfl
      | true=>
       exfalso;have hjl:=R.lt j (by rw[e];simp[C]);have D:=gA hjl;have hdj:ops[j].dst=some t:=by simpa [bP,cn,D]using hw
       cases G:lw ops i j with
       |true=>exact noB M ((y j C).2.1 G)
       |false=>exact((dO J D G).1 t hd).2 hdj
     rw[dh ops val t _ _ _ rfl,b1]at hx;simpa [ba,cK]using hx
    .have hw:bP ops t i=false:=by simp[bP,hgs,hd]
     have e1:(ba ops val (pre.filter (λi=>v.getD i false)++i::post.filter (λi=>v.getD i false)) L).lookup t=(ba ops val (π.filter λi=>v.getD i false) L).lookup t:=by
      refine iH ?_;rw[fX,Oe,Oe,Og,hw];simp
     rw[e1]at hx;cases hdd:o.dst with
     |none=>exact hx
     | some d=>
      simp only[cK,NT];have:(t==d)=false:=by simpa using λx=>hd (by rw[hdd,x])
      rw[this];exact hx
   have next:∀hc',H[cnt ch (π.filter λj=>(v.setIfInBounds i true).getD j false)]? =some hc'->S.OT o (sel (ba ops val pre L) (o.looksAt ops)) (val i) hc hc'->wpOp P ops Q i (wpAny P .any ops Q ei (v.setIfInBounds i true)) a w:=by
    intro hc' hcH' N;refine S.sound N hsel J r λa' w' r'=> ?_;refine ih _ a' w' hc' (by simp[A]) (λj oj D C k hkd=> ?_) hcH' ?_ (S.j4 r' hsub)
    .rw [E]at C ⊢;by_cases ek:k=i
     .rw[N1 ek]
     .rw[N3 ek];by_cases ej:j=i
      .subst ej;exact Z oj D k hkd
      .rw[N3 ej]at C;exact Y j oj D C k hkd
    .have hsplit:(π.filter λj=> !(v.setIfInBounds i true).getD j false).length+1=(π.filter λj=> !v.getD j false).length:=by
      rw[e,Oe,Oe,Og,Og,I,E,N1 rfl];have a1:pre.filter (λj=> !(v.setIfInBounds i true).getD j false)=pre.filter (λi=> !v.getD i false):=Of λk hk=>by rw[E,N3 (F k hk).1]
      have a2:post.filter (λj=> !(v.setIfInBounds i true).getD j false)=post.filter (λi=> !v.getD i false):=Of λk hk=>by rw[E,N3 (λx=>(y k hk).1 x.symm)]
      rw[a1,a2];simp;omega
     omega
   rcases hk with⟨O,h1,h2,g1,g2,N⟩|⟨O,hrd,N⟩|⟨O,N⟩
   ·-- a chain K
    have c1:cnt ch (pre.filter λi=>v.getD i false)=cnt ch pre:=p8 λk hk hkc=>befX ((F k hk).2.2 hkc O);have c2:cnt ch (post.filter λi=>v.getD i false)=0:=jh λj C M=>by
     cases hcj:ch.contains j with
     |false=>rfl
     |true=>exact(noB M ((y j C).2.2.1 O hcj)).elim
    have ehc:h1=hc:=by rw[cX,c1,c2,OD,g1]at B;cases B;rfl
    subst ehc;refine next h2 ?_ N
    rw[fX',fQ,tD O,c1,c2];exact g2
   ·-- a reader
    have c2:cnt ch (post.filter λi=>v.getD i false)=0:=jh λj C M=>by
     cases hcj:ch.contains j with
     |false=>rfl
     |true=>exact(noB M ((y j C).2.2.2.1 hrd hcj)).elim
    have c1:cnt ch (pre.filter λi=>v.getD i false)<=cnt ch pre:=by
     have:=i6 (ch:=ch) (l:=pre) (p:=λi=>v.getD i false) (q:=λ_=>true) (λ_ _ _=>rfl)
     rwa [List.filter_eq_self.2 (λ_ _=>rfl)]at this
    have c0:cnt ch (π.filter λj=>dv ops j i)<=cnt ch (π.filter λi=>v.getD i false):=i6 λj _ hb=>befX hb;refine next hc ?_ (N _ hc c0 (by rw[cX,c2];omega) B)
    rw[fX',fQ,lN O,<-cX];exact B
   .refine next hc ?_ (N hc)
    rw[fX',fQ,lN O,<-cX];exact B
 have e0:π.filter (λi=>(Array.replicate ops.size false).getD i false)=[]:=by
  rw[List.filter_eq_nil_iff];intro i hi;simp[Array.getD,R.lt i hi]
 refine key ops.size (Array.replicate ops.size false) a _ h C3 (λi o ho hi=> ?_) (by rw[e0];exact T) ?_ (by rw[e0];exact S.same r rfl rfl rfl rfl)
 .have:=(Array.getElem?_eq_some_iff.1 ho).1;simp[Array.getD,this]at hi
 .exact NS (List.length_filter_le _ _) R.len
end
end
end Go.Proofs.YtigoabbppmdfpaaGreat.Draw
namespace Go.Proofs.YtigoabbppmdfpaaGreat.Abs
open Go.RowKit
theorem HR.nil(I:Nat->Prop)(w:World)(hs:∀b c t,Bt b (some (.cells c t (0,0)))->I b):HR [] I w []:=⟨rfl,λ_ _ _ h=>H0,λ_ _ _ h=>H0,λ_ _ _ _ _ _ h=>H0,hs⟩
theorem ou(b:Nat):¬gq [] [] b:=λ⟨_,_,_,h,_⟩=>H0
theorem HR.blk{ι:RV Inf}{I:Nat->Prop}{w:World}{h:aD}(d:HR ι I w h){id:Nat}{o:Ob}{inf:Inf}(x:h[id]? =some (some o))(y:ι[id]? =some inf):inf.block<w.heap.size:=by
 have:=d.obj id o inf x y;cases o with
 |row s es=>exact Rl
 |map kvs=>obtain⟨j,v,h1,_⟩:=this;exact Rv
theorem VR.lend{E:Cx}{L:Env}{h:aD}{ι:RV Inf}{I:Nat->Prop}{a:Act}{w:World}(r:Rel E L h ι I a w){id off len s:Nat}{es:RV (RV V)}{c:Value}(ho:h[id]? =some (some (.row s es)))(j:es.all (·.all V.flat)=true)(t:off+len<=es.length)
  (v:VR I w ι (.own id off len) c):VR (λb=>b<w.heap.size) w [] (.imm s ((es.drop off).take len)) c:=by
 obtain⟨inf,d⟩:∃inf,ι[id]?=some inf:=by cases v with|own hi _ _ _=>exact⟨_,hi⟩|fT hi _=>exact⟨_,hi⟩
 have h1:=VR.fz r ho d j v (λy A e=>by cases e;exact t);have h2:(V.own id off len).fz id s es= .imm s ((es.drop off).take len):=by simp[V.fz]
 rw[h2]at h1;refine(h1.free (ι':=[]) rfl).aB (bn.refl _) ⟨λb hb=> ?_,λ_ _=>rfl⟩;rcases hb with hb|hb
 .exact r.imm b hb
 .rw[hb];exact r.heap.blk ho d
theorem HR.below{ι:RV Inf}{I:Nat->Prop}{w w':World}{h:aD}(d:HR ι I w h)(v:∀b,I b->b<w.heap.size)(hb:Below w.heap.size w w'):HR ι I w' h:=
 have hk:cB I I w w':=⟨λ_ h=>h,λb j=>hb.block b (v b j)⟩
 { len := d.len
   obj := fun id o inf h1 h2=>by
     have ho:=d.obj id o inf h1 h2;have hlt:inf.block<w.heap.size:=by
       cases o with
       | row s es=>
         obtain⟨cur,t,e,_⟩:=ho;rcases ON inf.block w.heap.size with h|h
         · exact h
         · rw[OP h]at e;cases e
       | map kvs=>
         obtain⟨cur,t,e,_⟩:=ho;rcases ON inf.block w.heap.size with h|h
         · exact h
         · rw[OP h]at e;cases e
     exact ho.aB (bn.refl _) hk (hb.block _ hlt)
   off:=d.off
   inj:=d.inj
   sub:=d.sub}
theorem yv{P:Program}{f:FuncId}{xs:RV AV}{h:aD}{u:Value}(hc:ga P f)(t:cq u)
  (v:∀[Zb](w:World)(I:Nat->Prop)(ι:RV Inf)(cs:Array Value),(∀b,I b->b<w.heap.size)->ARs ι I w xs cs->Calls P f cs w λe w'=>e= .returned u/\Below w.heap.size w w'):Fn P f xs h (λr h'=>r= .one (.lit u)/\h'=h):=
 ⟨hc, fun w I ι cs y j hA=>(v w I ι cs j hA).mono fun _ _ ⟨A,hb⟩=>⟨_,_,ι,I,u,⟨rfl,rfl⟩,A,
  { res:=.one (.lit t)
    heap:=y.below j hb
    imm:=λb d=>NV (j b d) hb.size
    cY:=λ_ d=>.inl d
    pre:=bn.refl _
    os:=hb.os
    tape:=hb.tape
    output:=hb.output
    grown:=hb.size
    frame:=λb hlt _=>hb.block b hlt
    cc:=λid o inf h1 h2=>.inl ⟨id,o,inf,h1,h2,rfl⟩}⟩⟩
end Go.Proofs.YtigoabbppmdfpaaGreat.Abs

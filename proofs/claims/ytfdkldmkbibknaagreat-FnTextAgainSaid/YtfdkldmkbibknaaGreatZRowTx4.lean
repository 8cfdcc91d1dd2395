/-
  Texts that the claim rests on, merged: Abs, AbsWp, AbsOps, AbsMem, AbsHeap, AbsDraw, Draw.
-/
import Derived.WalkKit
import Derived.Lib.Hide
import Derived.Orders
import Derived.Test.YtfdkldmkbibknaaGreatZRowTx0

namespace Go.Proofs.YtfdkldmkbibknaaGreat.Abs
open Go.RowKit
abbrev _root_.Go.Proofs.YtfdkldmkbibknaaGreat.Zb :=Zero (Nat->Option Obj->Prop)
instance noBt : Zb := ⟨fun _ _ => False⟩
abbrev Bt [Zb] (b:Nat) (x:Option Obj):Prop:=(Zero.zero:Nat->Option Obj->Prop) b x
section
variable [Zb]
inductive V where
 |lit (v:Value)
 |imm (s:Nat) (es:List (List V))
 |immc (s:Nat) (es:List (List V))
 |own (id off len:Nat)
 |ptr (id k o:Nat)
 |iptr (s:Nat) (cs:List V)
 |clo (fn:Fn) (cap:List V)
 |mp (id:Nat)
inductive AV where
 |one (v:V)
 |agg (vs:List V)
 |tup (xs:List AV)
 |dead
inductive Ob where
 |row (s:Nat) (es:List (List V))
 |map (kvs:List (ByteArray×List V))
def ep :List (ByteArray×List V)->ByteArray->Option (List V)
 |[],_=>none
 |(a,b)::rest,s=>if a=s then some b else ep rest s
structure Inf where
 block:Nat
 base:Nat
 cap:Nat
 size:Nat
abbrev Env :=List (Nat×AV)
abbrev ag :=List (Option Ob)
def dM :Value->Prop
 | .bool _=>True
 | .int k n=>(Lit.int k n).wf=true
 | .string s=>s.size<=maxLen
 | .slice none 0 0=>True
 | .pointer none=>True
 | .map none=>True
 | .nilFunc=>True
 | .nilIface=>True
 |_=>False
inductive VR (I:Nat->Prop) (w:World):List Inf->V->Value->Prop
 |lit {ι:List Inf} {u:Value} (h:dM u):VR I w ι (.lit u) u
 |imm0 {ι:List Inf} {s c:Nat} {A:Option Addr} (hc:c<=9223372036854775807):VR I w ι (.imm s []) (.slice A 0 c)
 | imm {ι : List Inf} {s b off c : Nat} {es : List (List V)} {f : Nat → Nat → Value} (hs : ∀ e ∈ es, e.length = s) (hc : es.length ≤ c) (hm : c ≤ 9223372036854775807) (hI : I b)
   (hcell:∀k j,k<es.length->j<s->w.cell? ⟨b,off+(k*s+j),none⟩=some (f k j))
   (hr:∀(k:Nat) (hk:k<es.length) (j:Nat) (hj:j<es[k].length),VR I w [] es[k][j] (f k j)) (hT:s=1\/¬Bt b w.heap[b]?):VR I w ι (.imm s es) (.slice (some ⟨b,off,none⟩) es.length c)
 |immc0 {ι:List Inf} {s:Nat} {A:Option Addr}:VR I w ι (.immc s []) (.slice A 0 0)
 | immc {ι : List Inf} {s b off : Nat} {es : List (List V)} {f : Nat → Nat → Value} (hs : ∀ e ∈ es, e.length = s) (hm : es.length ≤ 9223372036854775807) (hI : I b)
   (hcell:∀k j,k<es.length->j<s->w.cell? ⟨b,off+(k*s+j),none⟩=some (f k j))
   (hr:∀(k:Nat) (hk:k<es.length) (j:Nat) (hj:j<es[k].length),VR I w [] es[k][j] (f k j)) (hT:s=1\/¬Bt b w.heap[b]?):VR I w ι (.immc s es) (.slice (some ⟨b,off,none⟩) es.length es.length)
 | own {ι : List Inf} {id off len c : Nat} {inf : Inf} (hi : ι[id]? = some inf) (hl : len ≤ c) (hcap : off + c = inf.cap) (hm : c ≤ 9223372036854775807) :
   VR I w ι (.own id off len) (.slice (some ⟨inf.block,inf.base+off*inf.size,none⟩) len c)
 |own0 {ι:List Inf} {id off o:Nat} {inf:Inf} (hi:ι[id]? =some inf) (hcap:off=inf.cap):VR I w ι (.own id off 0) (.slice (some ⟨inf.block,o,none⟩) 0 0)
 |ptr {ι:List Inf} {id k o:Nat} {inf:Inf} (hi:ι[id]? =some inf):VR I w ι (.ptr id k o) (.pointer (some ⟨inf.block,inf.base+(k*inf.size+o),none⟩))
 | iptr {ι : List Inf} {s b off : Nat} {cs : List V} {f : Nat → Value} (hI : I b) (hcell : ∀ j, j < cs.length → w.cell? ⟨b, off + j, none⟩ = some (f j))
   (hr:∀(j:Nat) (hj:j<cs.length),VR I w [] cs[j] (f j)) (hT:s=1\/¬Bt b w.heap[b]?):VR I w ι (.iptr s cs) (.pointer (some ⟨b,off,none⟩))
 | clo {ι : List Inf} {fn : Fn} {cap : List V} {cs : Array Value} {f : Nat → Value} (hl : cs.size = cap.length) (hcs : ∀ j, j < cap.length → cs[j]? = some (f j))
   (hr:∀(j:Nat) (hj:j<cap.length),VR I w ι cap[j] (f j)):VR I w ι (.clo fn cap) (.func fn #[] cs)
 |mp {ι:List Inf} {id:Nat} {inf:Inf} (hi:ι[id]? =some inf):VR I w ι (.mp id) (.map (some inf.block))
inductive AR (ι:List Inf) (I:Nat->Prop) (w:World):AV->Value->Prop
 |one {v:V} {c:Value} (h:VR I w ι v c):AR ι I w (.one v) c
 | agg {vs : List V} {cs : Array Value} {f : Nat → Value} (hl : cs.size = vs.length) (hcs : ∀ j, j < vs.length → cs[j]? = some (f j))
   (hr:∀j (hj:j<vs.length),VR I w ι vs[j] (f j)):AR ι I w (.agg vs) (.agg cs)
 | tup {xs : List AV} {cs : Array Value} {f : Nat → Value} (hl : cs.size = xs.length) (hcs : ∀ j, j < xs.length → cs[j]? = some (f j))
   (hr:∀j (hj:j<xs.length),AR ι I w xs[j] (f j)):AR ι I w (.tup xs) (.tuple cs)
 |dead {c:Value}:AR ι I w .dead c
def Grows (ι ι':List Inf):Prop:=∀(id:Nat) (inf:Inf),ι[id]? =some inf->ι'[id]? =some inf
omit [Zb]in
theorem Grows.refl (ι:List Inf):Grows ι ι:=λ_ _ h=>h
omit [Zb]in
theorem Grows.trans {a b c:List Inf} (h:Grows a b) (k:Grows b c):Grows a c:=λi x hx=>k i x (h i x hx)
omit [Zb]in
theorem Grows.app (ι l:List Inf):Grows ι (ι++l):=λid inf h=>by
 have hlt:=(gI.1 h).1;rw[aL hlt];exact h
structure Keeps (I I':Nat->Prop) (w w':World):Prop where
 imm:∀b,I b->I' b
 heap:∀(b:Nat),I b->w'.heap[b]? =w.heap[b]?
omit [Zb]in
theorem Keeps.refl (I:Nat->Prop) (w:World):Keeps I I w w:=⟨λ_ h=>h,λ_ _=>rfl⟩
omit [Zb]in
theorem Keeps.cell {I I':Nat->Prop} {w w':World} (k:Keeps I I' w w') (b o:Nat) (hb:I b):w'.cell? ⟨b,o,none⟩=w.cell? ⟨b,o,none⟩:=by
 simp only[World.cell?];rw[k.heap b hb]
theorem VR.keep {ι ι':List Inf} {I I':Nat->Prop} {w w':World} (hg:Grows ι ι') (hk:Keeps I I' w w') {v:V} {c:Value} (h:VR I w ι v c):VR I' w' ι' v c:=by
 induction h generalizing ι' with
 |lit h=>exact .lit h
 |imm0 hc=>exact .imm0 hc
 |imm hs hc hm hI hcell hr hT ih=>exact .imm hs hc hm (hk.imm _ hI) (λk j h1 h2=>(hk.cell _ _ hI).trans (hcell k j h1 h2)) (λk hk j hj=>ih k hk j hj (Grows.refl _)) (by rw[hk.heap _ hI];exact hT)
 |immc0=>exact .immc0
 |immc hs hm hI hcell hr hT ih=>exact .immc hs hm (hk.imm _ hI) (λk j h1 h2=>(hk.cell _ _ hI).trans (hcell k j h1 h2)) (λk hk j hj=>ih k hk j hj (Grows.refl _)) (by rw[hk.heap _ hI];exact hT)
 |own hi hl hcap hm=>exact .own (hg _ _ hi) hl hcap hm
 |own0 hi hcap=>exact .own0 (hg _ _ hi) hcap
 |ptr hi=>exact .ptr (hg _ _ hi)
 |iptr hI hcell hr hT ih=>exact .iptr (hk.imm _ hI) (λj h1=>(hk.cell _ _ hI).trans (hcell j h1)) (λj hj=>ih j hj (Grows.refl _)) (by rw[hk.heap _ hI];exact hT)
 |clo hl hcs hr ih=>exact .clo hl hcs (λj hj=>ih j hj hg)
 |mp hi=>exact .mp (hg _ _ hi)
theorem VR.up {ι:List Inf} {I:Nat->Prop} {w:World} {v:V} {c:Value} (h:VR I w [] v c):VR I w ι v c:=h.keep (λ_ _ h=>by simp at h) (Keeps.refl _ _)
def V.flat :V->Bool
 | .lit _| .imm _ _| .immc _ _| .iptr _ _=>true
 | .clo _ []=>true
 |_=>false
theorem VR.free {ι ι':List Inf} {I:Nat->Prop} {w:World} {v:V} {c:Value} (hf:v.flat=true) (h:VR I w ι v c):VR I w ι' v c:=by
 cases h with
 |lit h=>exact .lit h
 |imm0 hc=>exact .imm0 hc
 |imm hs hc hm hI hcell hr hT=>exact .imm hs hc hm hI hcell hr hT
 |immc0=>exact .immc0
 |immc hs hm hI hcell hr hT=>exact .immc hs hm hI hcell hr hT
 |iptr hI hcell hr hT=>exact .iptr hI hcell hr hT
 | @clo _ _ cap _ _ hl hcs hr=>
  cases cap with
  |nil=>exact .clo hl hcs (λj hj=>by simp at hj)
  |cons x xs=>simp[V.flat]at hf
 |own hi hl hcap hm=>simp[V.flat]at hf
 |own0 hi hcap=>simp[V.flat]at hf
 |ptr hi=>simp[V.flat]at hf
 |mp hi=>simp[V.flat]at hf
theorem AR.keep {ι ι':List Inf} {I I':Nat->Prop} {w w':World} (hg:Grows ι ι') (hk:Keeps I I' w w') {v:AV} {c:Value} (h:AR ι I w v c):AR ι' I' w' v c:=by
 induction h with
 |one h=>exact .one (h.keep hg hk)
 |agg hl hcs hr=>exact .agg hl hcs (λj hj=>(hr j hj).keep hg hk)
 |tup hl hcs hr ih=>exact .tup hl hcs ih
 |dead=>exact .dead
def OR (ι:List Inf) (I:Nat->Prop) (w:World) (inf:Inf):Ob->Prop
 | .row s es => ∃ cur t, w.heap[inf.block]? = some (.cells cur t (0, 0)) ∧ inf.size = s ∧ cur.size = inf.base + inf.cap * s ∧ inf.cap ≤ 9223372036854775807 ∧ es.length ≤ inf.cap ∧ (∀ e ∈ es, e.length = s) ∧
   ∀(k:Nat) (hk:k<es.length) (j:Nat) (hj:j<es[k].length),∃u,cur[inf.base+(k*s+j)]? =some u/\VR I w ι es[k][j] u
 | .map kvs => ∃ en clock, w.heap[inf.block]? = some (.map en clock) ∧ en.size ≤ kvs.length ∧
   (∀s vs,ep kvs s=some vs->∃e∈en,e.key= .string s/\(∃f:Nat->Value,(vs.length=1->e.val=f 0)/\e.val.cells.size=vs.length/\(∀j,j<vs.length->e.val.cells[j]? =some (f j))/\∀j (hj:j<vs.length),VR I w ι vs[j] (f j)))/\
   (∀e∈en,∃s,e.key= .string s/\(ep kvs s).isSome)/\en.toList.Pairwise (λx y=>∀s,x.key= .string s->y.key≠.string s)
theorem OR.keep {ι ι':List Inf} {I I':Nat->Prop} {w w':World} (hg:Grows ι ι') (hk:Keeps I I' w w') {inf:Inf} {o:Ob} (h:OR ι I w inf o) (hb:w'.heap[inf.block]? =w.heap[inf.block]?):OR ι' I' w' inf o:=by
 cases o with
 | row s es =>
  obtain⟨cur,t,h1,h2,h3,h4,h5,h6,h7⟩:=h;refine⟨cur,t,hb.trans h1,h2,h3,h4,h5,h6,λk hk' j hj=> ?_⟩;obtain⟨u,hu,hv⟩:=h7 k hk' j hj;exact⟨u,hu,hv.keep hg hk⟩
 | map kvs =>
  obtain⟨en,clock,h1,h2,h3,h4,h5⟩:=h;refine⟨en,clock,hb.trans h1,h2,λs vs hs=> ?_,h4,h5⟩;obtain⟨e,he,hkey,f,f0,f1,f2,f3⟩:=h3 s vs hs;exact⟨e,he,hkey,f,f0,f1,f2,λj hj=>(f3 j hj).keep hg hk⟩
structure HR (ι:List Inf) (I:Nat->Prop) (w:World) (h:ag):Prop where
 len:h.length=ι.length
 obj:∀(id:Nat) (o:Ob) (inf:Inf),h[id]? =some (some o)->ι[id]? =some inf->OR ι I w inf o
 off:∀(id:Nat) (o:Ob) (inf:Inf),h[id]? =some (some o)->ι[id]? =some inf->¬I inf.block
 inj:∀(id id':Nat) (o o':Ob) (inf inf':Inf),h[id]? =some (some o)->h[id']? =some (some o')->ι[id]? =some inf->ι[id']? =some inf'->inf.block=inf'.block->id=id'
 sub:∀(b:Nat) (c:Array Value) (t:TypeId),Bt b (some (.cells c t (0,0)))->I b
structure Cx where
 w0:World
 pass:Nat->Prop
 ι0:List Inf
 n:Nat
 I0:Nat->Prop
structure Rel (E:Cx) (L:Env) (h:ag) (ι:List Inf) (I:Nat->Prop) (a:Act) (w:World):Prop where
 slots:∀t v,L.lookup t=some v->∃c,a.tmps[t]? =some c/\AR ι I w v c
 heap:HR ι I w h
 imm:∀b,I b->b<w.heap.size
 immlo:∀b,I b->E.I0 b\/E.pass b\/E.w0.heap.size<=b
 pre:Grows E.ι0 ι
 os:w.os=E.w0.os
 tape:w.tape=E.w0.tape
 output:w.output=E.w0.output
 grown:E.w0.heap.size<=w.heap.size
 frame:∀b,b<E.w0.heap.size->¬E.pass b->w.heap[b]? =E.w0.heap[b]?
 mine:∀(id:Nat) (o:Ob) (inf:Inf),h[id]? =some (some o)->ι[id]? =some inf->E.pass inf.block\/E.w0.heap.size<=inf.block
 defers:a.defers=[]
 size:a.tmps.size=E.n
def Sub (L L':Env):Prop:=∀t v,L.lookup t=some v->L'.lookup t=some v
theorem Rel.weaken {E:Cx} {L L':Env} {h:ag} {ι:List Inf} {I:Nat->Prop} {a:Act} {w:World} (r:Rel E L h ι I a w) (hs:Sub L' L):Rel E L' h ι I a w:=
 {r with slots:=λt v hv=>r.slots t v (hs t v hv)}
theorem Rel.put {E:Cx} {L:Env} {h:ag} {ι:List Inf} {I:Nat->Prop} {a:Act} {w:World} (r:Rel E L h ι I a w) {d:Nat} (hd:d<E.n) {v:AV} {c:Value} (hc:AR ι I w v c):
  Rel E ((d,v)::L) h ι I (a.put (some d) c) w:=
 { r with
   slots:=λt u hu=>by
     rw[List.lookup_cons]at hu;by_cases e:t=d
     · subst e
       simp at hu;subst hu;exact⟨c,by simp[Act.put,r.size,hd],hc⟩
     · have e':(t==d)=false:=by simpa using e
       rw[e']at hu;obtain⟨c',h1,h2⟩:=r.slots t u hu;exact⟨c',by simp only[Act.put];rw[Array.getElem?_setIfInBounds_ne (by omega)];exact h1,h2⟩
   defers:=r.defers
   size:=by simp[Act.put,r.size]}
def bJ :Value->Bool
 | .bool _=>true
 | .int k n=>(Lit.int k n).wf
 | .string s=>decide (s.size<=maxLen)
 | .slice none 0 0=>true
 | .pointer none=>true
 | .map none=>true
 | .nilFunc=>true
 | .nilIface=>true
 |_=>false
omit [Zb]in
theorem ke {v:Value} (h:bJ v=true):dM v:=by
 unfold bJ at h;unfold dM;split at h<;>simp_all
def kj :Value->Option AV
 | .agg cs=>if cs.toList.all bJ then some (.agg (cs.toList.map V.lit))else none
 |v=>if bJ v then some (.one (.lit v))else none
def ev (L:Env):Operand->Option AV
 | .tmp t=>L.lookup t
 | .const v=>kj v
 | .func f=>some (.one (.clo (.func f) []))
 | .global _=>none
theorem tS {ι:List Inf} {I:Nat->Prop} {w:World} {u:Value} {v:AV} (h:kj u=some v):AR ι I w v u:=by
 unfold kj at h;split at h
 ·rename_i cs;split at h
  ·rename_i hall;cases h;rw[aT]at hall;refine .agg (f:=λj=>cs.getD j undef) (by simp) (λj hj=>by simp at hj;simp[hj]) (λj hj=> ?_);have hj':j<cs.size:=by simpa using hj
   simp only[List.getElem_map,Array.getElem_toList];have:=hall cs[j] (by simp);have e:cs.getD j undef=cs[j]:=by simp[hj']
   rw[e];exact .lit (ke this)
  ·cases h
 ·split at h
  ·rename_i hok;cases h;exact .one (.lit (ke hok))
  ·cases h
theorem Rel.ev {E:Cx} {L:Env} {h:ag} {ι:List Inf} {I:Nat->Prop} {a:Act} {w:World} (r:Rel E L h ι I a w) {x:Operand} {v:AV} (hv:ev L x=some v):AR ι I w v (a.eval x):=by
 cases x with
 | tmp t =>
  obtain⟨c,h1,h2⟩:=r.slots t v hv;have:a.eval (.tmp t)=c:=by simp[Act.eval,h1]
  rw[this];exact h2
 |const u=>exact tS hv
 | func f =>
  simp[Abs.ev]at hv;subst hv;exact .one (.clo (f:=λ_=>undef) rfl (λj hj=>by simp at hj) (λj hj=>by simp at hj))
 |global g=>simp[Abs.ev]at hv
end
section
variable [Zb]
def CF (E:Cx) (Q:Exit->Env->ag->Prop):Exit->Act->World->Prop:=λe a w=>∃L h ι I,Q e L h/\Rel E L h ι I a w
theorem wc {E:Cx} {Q Q':Exit->Env->ag->Prop} (hq:∀e L h,Q e L h->Q' e L h) {e:Exit} {a:Act} {w:World} (h:CF E Q e a w):CF E Q' e a w:=by
 obtain⟨L,hp,ι,I,q,r⟩:=h;exact⟨L,hp,ι,I,hq _ _ _ q,r⟩
structure aw (P:Program) (c:Code) (E:Cx) (Q:Exit->Env->ag->Prop) (L:Env) (h:ag):Prop where
 get:∀ι I a w,Rel E L h ι I a w->c.wp P (CF E Q) a w
def v8 (next:Env->ag->Prop) (Q:Exit->Env->ag->Prop):Exit->Env->ag->Prop
 | .normal,L,h=>next L h
 |e,L,h=>Q e L h
def uq (id:Nat) (Q:Exit->Env->ag->Prop):Exit->Env->ag->Prop
 | .exit id',L,h=>if id'=id then Q .normal L h else Q (.exit id') L h
 |e,L,h=>Q e L h
section
variable {P : Program} {E : Cx} {Q Q' : Exit → Env → ag → Prop} {L : Env} {h : ag}
theorem fw {c:Code} (hq:∀e L h,Q e L h->Q' e L h) (hh:aw P c E Q L h):aw P c E Q' L h:=
 ⟨λι I a w r=>wp_mono (hh.get ι I a w r) λ_ _ _=>wc hq⟩
theorem BN (hh:Q .normal L h):aw P .skip E Q L h:=⟨λι I _ _ r=>wp_skip ⟨L,h,ι,I,hh,r⟩⟩
theorem E1 (hh:Q .ret L h):aw P .ret E Q L h:=⟨λι I _ _ r=>wp_ret ⟨L,h,ι,I,hh,r⟩⟩
theorem Dk {id:Nat} (hh:Q (.exit id) L h):aw P (.exit id) E Q L h:=⟨λι I _ _ r=>wp_exit ⟨L,h,ι,I,hh,r⟩⟩
theorem qL {x y:Code} (hh:aw P x E (v8 (aw P y E Q) Q) L h):aw P (.seq x y) E Q L h:=by
 refine⟨λι I a w r=> ?_⟩;refine wp_seq (wp_mono (hh.get ι I a w r) ?_);rintro e a' w' ⟨L',h',ι',I',q,r'⟩;cases e with
 |normal=>exact aw.get q ι' I' a' w' r'
 |_=>exact⟨L',h',ι',I',q,r'⟩
theorem re {id:Nat} {c:Code} (hh:aw P c E (uq id Q) L h):aw P (.block id c) E Q L h:=by
 refine⟨λι I a w r=> ?_⟩;refine wp_block (wp_mono (hh.get ι I a w r) ?_);rintro e a' w' ⟨L',h',ι',I',q,r'⟩;cases e with
 | exit id' =>
  simp only[Exit.inBlock];simp only[uq]at q;split
  ·rename_i e;rw[if_pos e]at q;exact⟨L',h',ι',I',q,r'⟩
  ·rename_i e;rw[if_neg e]at q;exact⟨L',h',ι',I',q,r'⟩
 |_=>exact⟨L',h',ι',I',q,r'⟩
theorem AR.bool {ι:List Inf} {I:Nat->Prop} {w:World} {b:Bool} {c:Value} (h:AR ι I w (.one (.lit (.bool b))) c):c= .bool b:=by
 cases h with
 |one h=>cases h with|lit h=>rfl
theorem qI {c:Operand} {x y:Code} {t:Bool} (hc:ev L c=some (.one (.lit (.bool t)))) (ht:t=true->aw P x E Q L h) (hf:t=false->aw P y E Q L h):aw P (.cond c x y) E Q L h:=by
 refine⟨λι I a w r=> ?_⟩;exact wp_cond_split (r.ev hc).bool (λe=>(ht e).get ι I a w r) (λe=>(hf e).get ι I a w r)
theorem Dn {c:Code} (Inv:Nat->Env->ag->Prop) {n:Nat} {L0:Env} (hs:Sub L0 L) (h0:Inv n L0 h)
  (round:∀n L h,Inv n L h->aw P c E (v8 (λL' h'=>∃m L'',m<n/\Sub L'' L'/\Inv m L'' h') Q) L h):aw P (.loop c) E Q L h:=by
 refine⟨λι I a w r=> ?_⟩;intro b k cs
 have key:∀n L h ι I a w,Inv n L h->Rel E L h ι I a w->
   ∃e a' w',CF E Q e a' w'/\Arrives P (lone (b.at a (.code c:: .inLoop c::k)) cs w) b k cs e a' w':=by
  intro n
  induction n using Nat.strongRecOn with
  | _ n ih =>
   intro L h ι I a w hI r;obtain⟨e,a₁,w₁,⟨L1,h1,ι1,I1,q,r1⟩,harr⟩:=(round n L h hI).get ι I a w r b (.inLoop c::k) cs;cases e with
   | normal =>
    obtain⟨m,L2,hlt,hs2,hI2⟩:=q;obtain⟨e₂,a₂,w₂,hq₂,harr₂⟩:=ih m hlt L2 h1 ι1 I1 a₁ w₁ hI2 (r1.weaken hs2);exact⟨e₂,a₂,w₂,hq₂,.of_steps (Steps.trans harr (.one step_inLoop)) harr₂⟩
   |exit id=>exact⟨_,a₁,w₁,⟨L1,h1,ι1,I1,q,r1⟩,.pass (x:=.inLoop c) rfl (λ_ _=>.inl (by simp)) harr⟩
   |goto l=>exact⟨_,a₁,w₁,⟨L1,h1,ι1,I1,q,r1⟩,.pass (x:=.inLoop c) rfl (λ_ _=>.inl (by simp)) harr⟩
   |ret=>exact⟨_,a₁,w₁,⟨L1,h1,ι1,I1,q,r1⟩,.pass (x:=.inLoop c) rfl (λ_ _=>.inl (by simp)) harr⟩
   |panic ch=>exact⟨_,a₁,w₁,⟨L1,h1,ι1,I1,q,r1⟩,.pass (x:=.inLoop c) rfl (λ_ _=>.inl (by simp)) harr⟩
   |outgrown=>exact⟨_,a₁,w₁,⟨L1,h1,ι1,I1,q,r1⟩,.pass (x:=.inLoop c) rfl (λ_ _=>.inl (by simp)) harr⟩
 obtain⟨e,a',w',hq,harr⟩:=key n L0 h ι I a w h0 (r.weaken hs);exact⟨e,a',w',hq,.of_steps (.one step_loop) harr⟩
omit [Zb]in
theorem sa (L:Env):Sub L L:=λ_ _ h=>h
end
omit [Zb]in
theorem dv {L Lf:Env} {t:Nat} {v:AV} (h:L.lookup t=some v):(L++Lf).lookup t=some v:=by
 induction L with
 |nil=>simp at h
 | cons p L ih =>
  obtain⟨k,x⟩:=p;rw[List.cons_append,List.lookup_cons];rw[List.lookup_cons]at h;split
  ·rename_i e;rw[e]at h;exact h
  ·rename_i e;rw[e]at h;exact ih h
omit [Zb]in
theorem pF (L Lf:Env):Sub L (L++Lf):=λ_ _ h=>dv h
theorem Rel.low {E:Cx} {L Lf:Env} {h:ag} {ι:List Inf} {I:Nat->Prop} {a:Act} {w:World} (r:Rel E (L++Lf) h ι I a w):Rel E L h ι I a w:=r.weaken (pF L Lf)
structure ar (P:Program) (o:Oper) (E:Cx) (K:Env->ag->Prop) (L:Env) (h:ag):Prop where
 get:∀Lf ι I a w,Rel E (L++Lf) h ι I a w->o.wp P a w (λa' w'=>∃L' h' ι' I',K L' h'/\Rel E (L'++Lf) h' ι' I' a' w') (λ_ _ _=>False)
structure ao (P:Program) (ops:Array Oper) (rest:List Oper) (E:Cx) (K:Env->ag->Prop) (L:Env) (h:ag):Prop where
 get:∀ι I a w (Q:Exit->Act->World->Prop),(∀a' w',(∃L' h' ι' I',K L' h'/\Rel E L' h' ι' I' a' w')->Q .normal a' w')->Rel E L h ι I a w->wpList P ops Q rest a w
omit [Zb]in
theorem iM {P:Program} {o:Oper} {a:Act} {w:World} {K K':Act->World->Prop} {Q Q':Exit->Act->World->Prop} (h:∀a w,K a w->K' a w) (hq:∀e a w,Q e a w->Q' e a w)
  (hh:o.wp P a w K Q):o.wp P a w K' Q':=by
 unfold Oper.wp at*;generalize (execOp a.eval o).run P w=r at*;cases r with
 | ok n w' =>
  cases n<;>simp only[Oper.upon]at hh ⊢<;>
   first
    |exact h _ _ hh
    | exact Calls.mono hh (fun e w'' he => by
      cases e with
      |returned v=>exact h _ _ he
      |panicked c=>exact hq _ _ _ he
      |outgrown=>obtain⟨x,y,z⟩:=he;exact⟨x,y,hq _ _ _ z⟩)
    |exact Rows.mono hh (λ_ _ he=>h _ _ he)
 |halt x w'=>cases x<;>simp only[Oper.upon]at hh ⊢<;>first|exact hq _ _ _ hh|exact hh
section
variable {P : Program} {E : Cx} {Q : Exit → Env → ag → Prop} {K : Env → ag → Prop} {L : Env} {h : ag} {ops : Array Oper} {rest : List Oper} {o : Oper}
theorem wh {id:Nat} {l:List Oper} (hh:ao P l.toArray l E (Q .normal) L h):aw P (.region id l.toArray false) E Q L h:=
 ⟨λι I a w r=>wp_region_lit (hh.get ι I a w _ (λ_ _ ⟨L',h',ι',I',k,r'⟩=>⟨L',h',ι',I',k,r'⟩) r)⟩
theorem Ef (hh:K L h):ao P ops [] E K L h:=⟨λι I _ _ _ hq r=>wpList_nil (hq _ _ ⟨L,h,ι,I,hh,r⟩)⟩
theorem pZ (hg:o.guard=none) (hh:ar P o E (ao P ops rest E K) L h):ao P ops (o::rest) E K L h:=by
 refine⟨λι I a w Q hq r=> ?_⟩;refine wpList_plain hg λK' hK=> ?_;exact iM (λa' w' ⟨L',h',ι',I',k,r'⟩=>hK _ _ (k.get ι' I' a' w' Q hq r'.low)) (λ_ _ _ f=>f.elim) (hh.get [] ι I a w (by rw[List.append_nil];exact r))
def bf (ops:Array Oper) (j:Nat):Option Nat:=(ops[j]?).bind (·.dst)
theorem Rel.yields {ι:List Inf} {I:Nat->Prop} {a:Act} {w:World} (r:Rel E L h ι I a w) {j d:Nat} {p:Bool} (hj:bf ops j=some d) (hd:L.lookup d=some (.one (.lit (.bool p)))):yielded ops a.tmps j=some p:=by
 obtain⟨c,h1,h2⟩:=r.slots d _ hd;have:=h2.bool;subst this;unfold yielded;unfold bf at hj;rw[hj];simp[h1]
theorem AR.none_ {ι:List Inf} {I:Nat->Prop} {w:World}:AR ι I w (.tup []) undef:=.tup (f:=λ_=>undef) rfl (λj hj=>by simp at hj) (λj hj=>by simp at hj)
theorem Fz {j d:Nat} {p want:Bool} (hg:o.guard=some (j,want)) (hj:bf ops j=some d) (hd:L.lookup d=some (.one (.lit (.bool p)))) (hp:p=want) (hh:ar P o E (ao P ops rest E K) L h):ao P ops (o::rest) E K L h:=by
 refine⟨λι I a w Q hq r=> ?_⟩;refine wpList_step λK' hK=> ?_;have hy:=r.yields (ops:=ops) hj hd;rw[if_pos (by simp[Region.wanted,hg,hy,hp])];exact iM (λa' w' ⟨L',h',ι',I',k,r'⟩=>hK _ _ (k.get ι' I' a' w' Q hq r'.low)) (λ_ _ _ f=>f.elim) (hh.get [] ι I a w (by rw[List.append_nil];exact r))
theorem B0 {j d d':Nat} {p want:Bool} (hg:o.guard=some (j,want)) (hj:bf ops j=some d) (hd:L.lookup d=some (.one (.lit (.bool p)))) (hp:p= !want) (hdst:o.dst=some d') (hn:d'<E.n)
  (hh:ao P ops rest E K ((d',.tup [])::L) h):ao P ops (o::rest) E K L h:=by
 refine⟨λι I a w Q hq r=> ?_⟩;refine wpList_step λK' hK=> ?_;have hy:=r.yields (ops:=ops) hj hd;rw[if_neg (by simp[Region.wanted,hg,hy,hp]),hdst];exact hK _ _ (hh.get ι I _ w Q hq (r.put hn AR.none_))
theorem Rel.yieldsU {ι:List Inf} {I:Nat->Prop} {a:Act} {w:World} (r:Rel E L h ι I a w) {j d:Nat} (hj:bf ops j=some d) (hd:L.lookup d=some (.tup [])):yielded ops a.tmps j=none:=by
 obtain⟨c,h1,h2⟩:=r.slots d _ hd;cases h2;unfold yielded;unfold bf at hj;rw[hj];simp[h1]
theorem zQ {j d d':Nat} {want:Bool} (hg:o.guard=some (j,want)) (hj:bf ops j=some d) (hd:L.lookup d=some (.tup [])) (hdst:o.dst=some d') (hn:d'<E.n)
  (hh:ao P ops rest E K ((d',.tup [])::L) h):ao P ops (o::rest) E K L h:=by
 refine⟨λι I a w Q hq r=> ?_⟩;refine wpList_step λK' hK=> ?_;have hy:=r.yieldsU (ops:=ops) hj hd;rw[if_neg (by simp[Region.wanted,hg,hy]),hdst];exact hK _ _ (hh.get ι I _ w Q hq (r.put hn AR.none_))
theorem aF {d:Nat} {v:AV} (hd:o.dst=some d) (hn:d<E.n)
  (hv:∀ι I a w,Rel E L h ι I a w->∃c,(execOp a.eval o).run P w= .ok (.value c) w/\AR ι I w v c) (hk:K ((d,v)::L) h):ar P o E K L h:=by
 refine⟨λLf ι I a w r=> ?_⟩;obtain⟨c,h1,h2⟩:=hv ι I a w r.low;unfold Oper.wp;rw[h1,Oper.upon_value,hd];exact⟨_,h,ι,I,hk,r.put hn h2⟩
end
def ARs (ι:List Inf) (I:Nat->Prop) (w:World) (xs:List AV) (cs:Array Value):Prop:=cs.size=xs.length/\∀(j:Nat) (hj:j<xs.length),∃c,cs[j]? =some c/\AR ι I w xs[j] c
def dt (ι:List Inf) (h:ag) (b:Nat):Prop:=∃(id:Nat) (o:Ob) (inf:Inf),h[id]? =some (some o)/\ι[id]? =some inf/\inf.block=b
structure CL (w:World) (I:Nat->Prop) (ι:List Inf) (h:ag) (r:AV) (h':ag) (ι':List Inf) (I':Nat->Prop) (c:Value) (w':World):Prop where
 res:AR ι' I' w' r c
 heap:HR ι' I' w' h'
 imm:∀b,I' b->b<w'.heap.size
 immlo:∀b,I' b->I b\/dt ι h b\/w.heap.size<=b
 pre:Grows ι ι'
 os:w'.os=w.os
 tape:w'.tape=w.tape
 output:w'.output=w.output
 grown:w.heap.size<=w'.heap.size
 frame:∀b,b<w.heap.size->¬dt ι h b->w'.heap[b]? =w.heap[b]?
 mine:∀(id:Nat) (o:Ob) (inf:Inf),h'[id]? =some (some o)->ι'[id]? =some inf->dt ι h inf.block\/w.heap.size<=inf.block
def callable (P:Program) (f:FuncId):Prop:=∃fn,P.funcs[f]? =some fn/\(fn.name== "runtime.NumGoroutine")=false/\fn.body.isNone=false
def Fn (P:Program) (f:FuncId) (xs:List AV) (h:ag) (R:AV->ag->Prop):Prop:=
 callable P f/\∀[Zb] (w:World) (I:Nat->Prop) (ι:List Inf) (cs:Array Value),HR ι I w h->(∀b,I b->b<w.heap.size)->ARs ι I w xs cs->
  Calls P f cs w λe w'=>∃r h' ι' I' c,R r h'/\e= .returned c/\CL w I ι h r h' ι' I' c w'
omit [Zb]in
theorem Fn.mono {P:Program} {f:FuncId} {xs:List AV} {h:ag} {R R':AV->ag->Prop} (hh:Fn P f xs h R) (hr:∀r h',R r h'->R' r h'):Fn P f xs h R':=
 ⟨hh.1,λw I ι cs a b c=>(hh.2 w I ι cs a b c).mono λ_ _ ⟨r,h',ι',I',c,k,e,d⟩=>⟨r,h',ι',I',c,hr _ _ k,e,d⟩⟩
def dq :Nat->List AV->Env
 |_,[]=>[]
 |k,x::xs=>(k,x)::dq (k+1) xs
omit [Zb]in
theorem jq (xs:List AV):∀(k t:Nat) (v:AV),(dq k xs).lookup t=some v->k<=t/\xs[t-k]? =some v:=by
 induction xs with
 |nil=>intro k t v h;simp[dq]at h
 | cons x xs ih =>
  intro k t v h;simp only[dq,List.lookup_cons]at h;by_cases e:t=k
  ·subst e;simp at h;subst h;simp
  ·have e':(t==k)=false:=by simpa using e
   rw[e']at h;obtain⟨h1,h2⟩:=ih (k+1) t v h;refine⟨by omega,?_⟩;have:t-k=(t-(k+1))+1:=by omega
   rw[this];simpa using h2
structure Res (P:Program) (fn:Func) (L:Env) (h:ag) (r:AV):Prop where
 get:∀E ι I a w,Rel E L h ι I a w->∃c,(results fn a.tmps).run P w= .ok c w/\AR ι I w r c
mutual
def AV.flat :AV->Bool
 | .one v=>v.flat
 | .agg vs=>vs.all V.flat
 | .tup xs=>AV.flats xs
 | .dead=>true
def AV.flats :List AV->Bool
 |[]=>true
 |x::xs=>x.flat&&AV.flats xs
end
omit [Zb]in
theorem AV.flats_mem {xs:List AV} (h:AV.flats xs=true):∀x∈xs,x.flat=true:=by
 induction xs with
 |nil=>intro x hx;simp at hx
 | cons y ys ih =>
  simp only[AV.flats,bA]at h;intro x hx;rcases List.mem_cons.1 hx with e|e
  ·exact e▸h.1
  ·exact ih h.2 x e
theorem AR.free {ι ι':List Inf} {I:Nat->Prop} {w:World} {r:AV} {c:Value} (h:AR ι I w r c) (hf:r.flat=true):AR ι' I w r c:=by
 induction h with
 |one h=>exact .one (h.free (by simpa [AV.flat]using hf))
 |agg hl hcs hr=>exact .agg hl hcs (λj hj=>(hr j hj).free (aT.1 (by simpa only[AV.flat]using hf) _ (gM hj)))
 |tup hl hcs hr ih=>exact .tup hl hcs (λj hj=>ih j hj (AV.flats_mem (by simpa only[AV.flat]using hf) _ (gM hj)))
 |dead=>exact .dead
def Ob.flat :Ob->Bool
 | .row _ es=>es.all (·.all V.flat)
 | .map kvs=>kvs.all (·.2.all V.flat)
def Out (h0:ag) (R:AV->ag->Prop) (r:AV) (h:ag):Prop:=
 R r h\/∃h2 g,h=h2++g/\r.flat=true/\h0.length<=h2.length/\(∀(id:Nat) (o:Ob),h2[id]? =some (some o)->h0[id]? =some (some o)\/o.flat=true)/\R r h2
theorem VR.cut {ι0 ι ι':List Inf} {I0 I:Nat->Prop} {w0 w:World} {v:V} {c0 c:Value} (hp:∀(id:Nat) (inf inf':Inf),ι0[id]? =some inf->ι[id]? =some inf'->ι'[id]? =some inf') (h0:VR I0 w0 ι0 v c0) (h:VR I w ι v c):VR I w ι' v c:=by
 induction h generalizing ι0 c0 with
 |lit h=>exact .lit h
 |imm0 hc=>exact .imm0 hc
 |imm hs hc hm hI hcell hr hT ih=>exact .imm hs hc hm hI hcell hr hT
 |immc0=>exact .immc0
 |immc hs hm hI hcell hr hT ih=>exact .immc hs hm hI hcell hr hT
 | own hi hl hcap hm =>
  cases h0 with
  |own hi0 _ _ _=>exact .own (hp _ _ _ hi0 hi) hl hcap hm
  |own0 hi0 _=>exact .own (hp _ _ _ hi0 hi) hl hcap hm
 | own0 hi hcap =>
  cases h0 with
  |own hi0 _ _ _=>exact .own0 (hp _ _ _ hi0 hi) hcap
  |own0 hi0 _=>exact .own0 (hp _ _ _ hi0 hi) hcap
 |ptr hi=>cases h0 with|ptr hi0=>exact .ptr (hp _ _ _ hi0 hi)
 |iptr hI hcell hr hT ih=>exact .iptr hI hcell hr hT
 |clo hl hcs hr ih=>cases h0 with|clo hl0 hcs0 hr0=>exact .clo hl hcs (λj hj=>ih j hj hp (hr0 j hj))
 |mp hi=>cases h0 with|mp hi0=>exact .mp (hp _ _ _ hi0 hi)
theorem OR.cut {ι0 ι ι':List Inf} {I0 I:Nat->Prop} {w0 w:World} {inf0 inf:Inf} {o:Ob} (hp:∀(id:Nat) (inf inf':Inf),ι0[id]? =some inf->ι[id]? =some inf'->ι'[id]? =some inf') (h0:OR ι0 I0 w0 inf0 o) (h:OR ι I w inf o):OR ι' I w inf o:=by
 cases o with
 | row s es =>
  obtain⟨cur,t,h1,h2,h3,h4,h5,h6,h7⟩:=h;obtain⟨_,_,_,_,_,_,_,_,g7⟩:=h0;refine⟨cur,t,h1,h2,h3,h4,h5,h6,λk hk j hj=> ?_⟩;obtain⟨u,hu,hv⟩:=h7 k hk j hj;obtain⟨_,_,gv⟩:=g7 k hk j hj;exact⟨u,hu,gv.cut hp hv⟩
 | map kvs =>
  obtain⟨en,clock,h1,h2,h3,h4,h5⟩:=h;obtain⟨_,_,_,_,g3,_⟩:=h0;refine⟨en,clock,h1,h2,λs vs hs=> ?_,h4,h5⟩;obtain⟨e,he,hkey,f,f0,f1,f2,f3⟩:=h3 s vs hs;obtain⟨_,_,_,_,_,_,_,e3⟩:=g3 s vs hs;exact⟨e,he,hkey,f,f0,f1,f2,λj hj=>(e3 j hj).cut hp (f3 j hj)⟩
theorem OR.free {ι ι':List Inf} {I:Nat->Prop} {w:World} {inf:Inf} {o:Ob} (hf:o.flat=true) (h:OR ι I w inf o):OR ι' I w inf o:=by
 cases o with
 | row s es =>
  obtain⟨cur,t,h1,h2,h3,h4,h5,h6,h7⟩:=h;refine⟨cur,t,h1,h2,h3,h4,h5,h6,λk hk j hj=> ?_⟩;obtain⟨u,hu,hv⟩:=h7 k hk j hj;have hf':(es.all λx=>x.all V.flat)=true:=by simpa only[Ob.flat]using hf
  have:=aT.1 (aT.1 hf' _ (gM hk)) _ (gM hj);exact⟨u,hu,hv.free this⟩
 | map kvs =>
  obtain⟨en,clock,h1,h2,h3,h4,h5⟩:=h;refine⟨en,clock,h1,h2,λs vs hs=> ?_,h4,h5⟩;obtain⟨e,he,hkey,f,f0,f1,f2,f3⟩:=h3 s vs hs;have hmem:(s,vs)∈kvs:=by
   clear h1 h2 h3 h4 h5 f1 f2 f3 hf
   induction kvs with
   |nil=>simp[ep]at hs
   | cons p kvs ih =>
    obtain⟨a,b⟩:=p;simp only[ep]at hs;split at hs
    ·rename_i e;cases hs;subst e;exact List.mem_cons_self
    ·exact List.mem_cons_of_mem _ (ih hs)
  have hf':(kvs.all λx=>x.2.all V.flat)=true:=by simpa only[Ob.flat]using hf
  exact⟨e,he,hkey,f,f0,f1,f2,λj hj=>(f3 j hj).free (aT.1 (aT.1 hf' _ hmem) _ (gM hj))⟩
structure Shift (L:Env) (h:ag) (L2:Env) (h2:ag):Prop where
 get:∀E ι I a w,Rel E L h ι I a w->∃I',Rel E L2 h2 ι I' a w
theorem Shift.refl (L:Env) (h:ag):Shift L h L h:=⟨λ_ _ I _ _ r=>⟨I,r⟩⟩
theorem Shift.trans {L L2 L3:Env} {h h2 h3:ag} (a:Shift L h L2 h2) (b:Shift L2 h2 L3 h3):Shift L h L3 h3:=⟨λE ι I x w r=>let⟨I',r'⟩:=a.get E ι I x w r;b.get E ι I' x w r'⟩
theorem rc {P:Program} {E:Cx} {Q:Exit->Env->ag->Prop} {L L2:Env} {h h2:ag} {c:Code} (s:Shift L h L2 h2) (hh:aw P c E Q L2 h2):aw P c E Q L h:=⟨λι I a w r=>let⟨I',r'⟩:=s.get E ι I a w r;hh.get ι I' a w r'⟩
theorem zH {P:Program} {E:Cx} {K:Env->ag->Prop} {L L2:Env} {h h2:ag} {ops:Array Oper} {rest:List Oper} (s:Shift L h L2 h2) (hh:ao P ops rest E K L2 h2):ao P ops rest E K L h:=⟨λι I a w Q hq r=>let⟨I',r'⟩:=s.get E ι I a w r;hh.get ι I' a w Q hq r'⟩
def zd (P:Program) (fn:Func) (h0:ag) (R:AV->ag->Prop):Exit->Env->ag->Prop
 | .normal,L,h| .ret,L,h=>∃L2 h2 r,Shift L h L2 h2/\Res P fn L2 h2 r/\Out h0 R r h2
 |_,_,_=>False
theorem sV {w:World} {I:Nat->Prop} {ι:List Inf} {h:ag} {n:Nat} {L':Env} {h':ag} {ι':List Inf} {I':Nat->Prop} {a':Act} {w':World} {r:AV} {c:Value} {R:AV->ag->Prop} (hH:HR ι I w h) (rel:Rel ⟨w,dt ι h,ι,n,I⟩ L' h' ι' I' a' w') (h2:AR ι' I' w' r c) (hR:Out h R r h'):
  ∃r h' ι' I',R r h'/\CL w I ι h r h' ι' I' c w':=by
 rcases hR with hR|⟨hn,g,rfl,hfl,hle,hobj,hR⟩
 ·exact⟨r,h',ι',I',hR,⟨h2,rel.heap,rel.imm,rel.immlo,rel.pre,rel.os,rel.tape,rel.output,rel.grown,rel.frame,rel.mine⟩⟩
 ·have hlen:=rel.heap.len;simp at hlen
  have up:∀{id:Nat} {o:Ob},hn[id]? =some (some o)->(hn++g)[id]? =some (some o):=λx=>by
   rw[aL (gI.1 x).1];exact x
  have tk:∀{id:Nat} {inf:Inf},(ι'.take hn.length)[id]? =some inf->ι'[id]? =some inf:=λ{id inf} x=>by
   rw[List.getElem?_take]at x;split at x
   ·exact x
   ·cases x
  have hι0:=hH.len;have hp:∀(id:Nat) (inf inf':Inf),ι[id]? =some inf->ι'[id]? =some inf'->(ι'.take hn.length)[id]? =some inf':=λid inf inf' x y=>by
   have:=(gI.1 x).1;rw[List.getElem?_take,if_pos (by omega)];exact y
  refine⟨r,hn,ι'.take hn.length,I',hR,⟨h2.free hfl,⟨by simp;omega,λid o inf x y=> ?_,λid o inf x y=>rel.heap.off id o inf (up x) (tk y),λid id' o o' inf inf' x x' y y' e=>rel.heap.inj id id' o o' inf inf' (up x) (up x') (tk y) (tk y') e,rel.heap.sub⟩,rel.imm,rel.immlo,λid inf x=>hp id inf inf x (rel.pre id inf x),rel.os,rel.tape,rel.output,rel.grown,rel.frame,λid o inf x y=>rel.mine id o inf (up x) (tk y)⟩⟩;have hor:=rel.heap.obj id o inf (up x) (tk y);rcases hobj id o x with x0|hf0
  ·have hlt:id<ι.length:=by have:=(gI.1 x0).1;omega
   exact(hH.obj id o _ x0 (gE hlt)).cut hp hor
  ·exact hor.free hf0
theorem lP {P:Program} {f:FuncId} {fn:Func} {c:Code} {xs:List AV} {h:ag} {R:AV->ag->Prop} (hf:P.funcs[f]? =some fn) (hb:fn.body=some c) (hx:xs.length<=fn.ntmps)
  {w:World} {I:Nat->Prop} {ι:List Inf} {cs:Array Value} (hH:HR ι I w h) (hI:∀b,I b->b<w.heap.size) (hA:ARs ι I w xs cs) (hh:aw P c ⟨w,dt ι h,ι,fn.ntmps,I⟩ (zd P fn h R) (dq 0 xs) h):
  Calls P f cs w λe w'=>∃r h' ι' I' c,R r h'/\e= .returned c/\CL w I ι h r h' ι' I' c w':=by
 refine calls_of_wp hf hb ?_
 let E:Cx:=⟨w,dt ι h,ι,fn.ntmps,I⟩
 have hr : Rel E (dq     0 xs) h ι I { tmps := cs ++ Array.replicate (fn.ntmps - cs.size) undef, defers := [] } w :=
  { slots := fun t v hv => by
      obtain⟨_,h2⟩:=jq xs 0 t v hv;rw[Nat.sub_zero]at h2;obtain⟨hlt,rfl⟩:=gI.1 h2;obtain⟨c,h3,h4⟩:=hA.2 t hlt;exact⟨c,by rw[Array.getElem?_append_left (by rw[hA.1];exact hlt)];exact h3,h4⟩
    heap:=hH
    imm:=hI
    immlo:=λ_ hb=>.inl hb
    pre:=Grows.refl _
    os:=rfl
    tape:=rfl
    output:=rfl
    grown:=Nat.le_refl _
    frame:=λ_ _ _=>rfl
    mine:=λid o inf h1 h2=>.inl ⟨id,o,inf,h1,h2,rfl⟩
    defers:=rfl
    size:=by
      show (cs++Array.replicate (fn.ntmps-cs.size) undef).size=fn.ntmps;have:=hA.1;simp;omega}
 refine wp_mono (hh.get ι I _ w hr) ?_
 have fin:∀{a':Act} {w':World} {L':Env} {h':ag} {ι':List Inf} {I':Nat->Prop},(∃L2 h2 r,Shift L' h' L2 h2/\Res P fn L2 h2 r/\Out h R r h2)->Rel E L' h' ι' I' a' w'->
   a'.defers=[]/\∃v,(results fn a'.tmps).run P w'= .ok v w'/\∃r h' ι' I' c,R r h'/\(Ending.returned v)= .returned c/\CL w I ι h r h' ι' I' c w':=by
  rintro a' w' L0 h0' ι' I0' ⟨L',h',r,sh,hr,hR⟩ rel0;obtain⟨I',rel⟩:=sh.get E ι' I0' a' w' rel0;obtain⟨c,h1,h2⟩:=hr.get E ι' I' a' w' rel;refine⟨rel.defers,c,h1,?_⟩;obtain⟨r,h',ι',I',k1,k2⟩:=sV hH rel h2 hR;exact⟨r,h',ι',I',c,k1,rfl,k2⟩
 rintro e a' w' ⟨L',h',ι',I',q,rel⟩;cases e with
 |normal=>exact fin q rel
 |ret=>exact fin q rel
 |exit id=>exact q.elim
 |goto l=>exact q.elim
 |panic ch=>exact q.elim
 |outgrown=>exact q.elim
omit [Zb]in
theorem Bb {P:Program} {f:FuncId} {fn:Func} {c:Code} {xs:List AV} {h:ag} {R:AV->ag->Prop} (hf:P.funcs[f]? =some fn) (hb:fn.body=some c) (hname:(fn.name== "runtime.NumGoroutine")=false) (hx:xs.length<=fn.ntmps)
  (hh:∀[Zb] (E:Cx),E.n=fn.ntmps->aw P c E (zd P fn h R) (dq 0 xs) h):Fn P f xs h R:=
 ⟨⟨fn,hf,hname,by simp[hb]⟩,λ_ _ _ _ hH hI hA=>lP hf hb hx hH hI hA (hh _ rfl)⟩
def evs (L:Env):List Operand->Option (List AV)
 |[]=>some []
 | x :: xs => match ev L x, evs L xs with
  |some v,some vs=>some (v::vs)
  |_,_=>none
theorem Rel.evs {E:Cx} {L:Env} {h:ag} {ι:List Inf} {I:Nat->Prop} {a:Act} {w:World} (r:Rel E L h ι I a w):∀{ops:List Operand} {xs:List AV},evs L ops=some xs->ARs ι I w xs (ops.map a.eval).toArray:=by
 intro ops
 induction ops with
 |nil=>intro xs h;simp[Abs.evs]at h;subst h;exact⟨rfl,λj hj=>by simp at hj⟩
 | cons x ops ih =>
  intro xs h;simp only[Abs.evs]at h;cases hx:Abs.ev L x with
  |none=>simp[hx]at h
  | some v =>
   cases hr:Abs.evs L ops with
   |none=>simp[hx,hr]at h
   | some vs =>
    simp[hx,hr]at h;subst h;obtain⟨h1,h2⟩:=ih hr;refine⟨by simp at h1;simp[h1],λj hj=> ?_⟩;cases j with
    |zero=>exact⟨_,rfl,r.ev hx⟩
    | succ j =>
     obtain⟨c,h3,h4⟩:=h2 j (by simpa using hj);exact⟨c,by simpa using h3,h4⟩
theorem yi {P:Program} {E:Cx} {K:Env->ag->Prop} {L:Env} {h:ag} {f:FuncId} {xs:List AV} {o:Oper} {cs:Act->Array Value} {d:Nat} {R:AV->ag->Prop} (hd:o.dst=some d) (hn:d<E.n)
  (hrun:∀a w,(∃ι I,Rel E L h ι I a w)->(execOp a.eval o).run P w= .ok (.enter f (cs a)) w) (hcs:∀ι I a w,Rel E L h ι I a w->ARs ι I w xs (cs a)) (hf:Fn P f xs h R) (hk:∀r h',R r h'->K ((d,r)::L) h'):ar P o E K L h:=by
 refine⟨λLf ι I a w r=> ?_⟩;unfold Oper.wp;rw[hrun a w ⟨ι,I,r.low⟩,Oper.upon_enter];refine(hf.2 w I ι (cs a) r.heap r.imm (hcs ι I a w r.low)).mono ?_;rintro e w' ⟨v,h',ι',I',c,hR,rfl,D⟩;rw[hd];have hkp:Keeps I (λb=>I b\/I' b) w w':=⟨λb hb=>.inl hb,λb hb=>by
  rw[D.frame b (r.imm b hb) (λ⟨id,o,inf,x,y,e⟩=>r.heap.off id o inf x y (e▸hb))]⟩
 have hkp':Keeps I' (λb=>I b\/I' b) w' w':=⟨λb hb=>.inr hb,λ_ _=>rfl⟩;refine⟨_,h',ι',λb=>I b\/I' b,hk v h' hR,Rel.put (c:=c) ?_ hn (D.res.keep (Grows.refl _) hkp')⟩;exact
 { slots := fun t u hu => let ⟨c, x, y⟩ := r.slots t u hu; ⟨c, x, y.keep D.pre hkp⟩
   heap := ⟨D.heap.len, fun id o inf x y => (D.heap.obj id o inf x y).keep (Grows.refl _) hkp' rfl, fun id o inf x y hb => by
     rcases hb with hb|hb
     · rcases D.mine id o inf x y with⟨id0,o0,inf0,x0,y0,e0⟩|hge
       · exact r.heap.off id0 o0 inf0 x0 y0 (e0▸hb)
       · have:=r.imm _ hb;omega
     · exact D.heap.off id o inf x y hb,D.heap.inj,λb c t hb=>.inl (r.heap.sub b c t hb)⟩
   imm:=λb hb=>by
     rcases hb with hb|hb
     · have:=r.imm b hb;have:=D.grown;omega
     · exact D.imm b hb
   immlo:=λb hb=>by
     rcases hb with hb|hb
     · exact r.immlo b hb
     · rcases D.immlo b hb with hb|⟨id0,o0,inf0,x0,y0,e0⟩|hb
       · exact r.immlo b hb
       · rw[<-e0];exact .inr (r.mine id0 o0 inf0 x0 y0)
       · exact .inr (.inr (Nat.le_trans r.grown hb))
   pre:=r.pre.trans D.pre
   os:=D.os.trans r.os
   tape:=D.tape.trans r.tape
   output:=D.output.trans r.output
   grown:=Nat.le_trans r.grown D.grown
   frame:=λb x y=>by
     rw [D.frame b (by have := r.grown; omega) (fun ⟨id, o, inf, x1, y1, e⟩ => by
       rcases r.mine id o inf x1 y1 with hp|hp
       · exact y (e▸hp)
       · omega)]
     exact r.frame b x y
   mine:=λid o inf x y=>by
     rcases D.mine id o inf x y with⟨id0,o0,inf0,x0,y0,e0⟩|hge
     · rw[<-e0];exact r.mine id0 o0 inf0 x0 y0
     · exact .inr (by have:=r.grown;omega)
   defers:=r.defers
   size:=r.size}
omit [Zb]in
theorem callable.run {P:Program} {f:FuncId} (h:callable P f) (args:Array Value) (w:World):(callFunc f args).run P w= .ok (.enter f args) w:=by
 obtain⟨fn,h1,h2,h3⟩:=h;have h2':¬(fn.name= "runtime.NumGoroutine"):=by simpa using h2
 have h3':¬(fn.body=none):=by intro e;simp[e]at h3
 simp[callFunc,program,Sem.run,bind,Sem.bind,h1,h2',h3']
end
section
variable [Zb]
theorem AR.lit {ι:List Inf} {I:Nat->Prop} {w:World} {u c:Value} (h:AR ι I w (.one (.lit u)) c):c=u/\dM u:=by
 cases h with
 |one h=>cases h with|lit h=>exact⟨rfl,h⟩
structure ElI where
 t:Nat
 size:Nat
 bytes:Nat
 zero:List Value
structure TyI where
 desc:TypeDesc
 agg:Bool
 size:Nat
 bytes:Nat
 zero:List Value
 elem:Option ElI
 fields:List (Nat×Nat×Nat)
def cK (P:Program) (t:TypeId):Nat:=((P.info? t).map (·.size)).getD 0
def jC (P:Program) (t:TypeId):List Value:=match (P.info? t).bind (·.zero)with|some v=>v.cells.toList|none=>[]
def qi (P:Program) (t:TypeId):Option TyI:=
 match P.info? t,P.underlying t with
 | some i, some d => some {
   desc:=d
   agg:=match d with| .struct _| .array _ _=>true|_=>false
   size:=i.size
   bytes:=i.bytes
   zero:=jC P t
   elem:=match d with| .slice e=>some ⟨e,cK P e,((P.info? e).map (·.bytes)).getD 0,jC P e⟩|_=>none
   fields:=match d with| .struct fs=>fs.toList.map λf=>(f.offset,f.type,cK P f.type)|_=>[]}
 |_,_=>none
abbrev Tbl :=List (Nat×TyI)
def bE (P:Program) (tb:Tbl):Prop:=∀t i,tb.lookup t=some i->qi P t=some i
omit [Zb]in
theorem mJ (P:Program):bE P []:=λt i h=>by simp at h
omit [Zb]in
theorem gg {P:Program} {t:Nat} {i:TyI} {tb:Tbl} (h1:qi P t=some i) (h2:bE P tb):bE P ((t,i)::tb):=by
 intro u x hx;rw[List.lookup_cons]at hx;by_cases e:u=t
 ·subst e;simp at hx;subst hx;exact h1
 ·have e':(u==t)=false:=by simpa using e
  rw[e']at hx;exact h2 u x hx
omit [Zb]in
theorem aP {P:Program} {t:TypeId} {i:TyI} (h:qi P t=some i):∃inf,P.info? t=some inf/\P.underlying t=some i.desc/\inf.size=i.size/\inf.bytes=i.bytes/\
  (i.agg=match i.desc with| .struct _| .array _ _=>true|_=>false)/\i.zero=jC P t/\
  (i.elem=match i.desc with| .slice e=>some ⟨e,cK P e,((P.info? e).map (·.bytes)).getD 0,jC P e⟩|_=>none)/\
  (i.fields=match i.desc with| .struct fs=>fs.toList.map λf=>(f.offset,f.type,cK P f.type)|_=>[]):=by
 unfold qi at h;cases h1:P.info? t with
 |none=>simp[h1]at h
 | some inf =>
  cases h2:P.underlying t with
  |none=>simp[h1,h2]at h
  | some d =>
   simp only[h1,h2,Option.some.injEq]at h;subst h;exact⟨inf,rfl,rfl,rfl,rfl,rfl,rfl,rfl,rfl⟩
def dN (tb:Tbl) (t:TypeId):Option ElI:=(tb.lookup t).bind (·.elem)
omit [Zb]in
theorem aH {P:Program} {tb:Tbl} (htb:bE P tb) {t:TypeId} {el:ElI} (h:dN tb t=some el):P.underlying t=some (.slice el.t)/\cK P el.t=el.size/\((P.info? el.t).map (·.bytes)).getD 0=el.bytes/\jC P el.t=el.zero:=by
 unfold dN at h;cases hl:tb.lookup t with
 |none=>simp[hl]at h
 | some i =>
  simp only[hl,bS]at h;obtain⟨inf,_,h2,_,_,_,_,h7,_⟩:=aP (htb t i hl);rw[h7]at h;split at h
  ·rename_i e he;cases h;exact⟨he▸h2,rfl,rfl,rfl⟩
  ·cases h
omit [Zb]in
theorem ka {P:Program} {t:TypeId} {n:Nat} (h:cK P t=n) (hn:0<n):∃inf,P.info? t=some inf/\inf.size=n:=by
 unfold cK at h;cases hi:P.info? t with
 |none=>simp[hi]at h;omega
 |some inf=>simp[hi]at h;exact⟨inf,rfl,h⟩
section
variable {P : Program} {E : Cx} {K : Env → ag → Prop} {L : Env} {h : ag} {d : Nat} {ty : TypeId} {pos : String} {af : Array Edge} {gd : Option (Nat × Bool)}
theorem Ds {x:Operand} {v:AV} (hx:ev L x=some v) (hn:d<E.n) (hk:K ((d,v)::L) h):ar P ⟨some d,.move x,ty,pos,af,gd⟩ E K L h:=
 aF rfl hn (λ_ _ a _ r=>⟨a.eval x,rfl,r.ev hx⟩) hk
theorem xL {x:Operand} {v:AV} (hx:ev L x=some v) (hn:d<E.n) (hk:K ((d,v)::L) h):ar P ⟨some d,.assign x,ty,pos,af,gd⟩ E K L h:=
 aF rfl hn (λ_ _ a _ r=>⟨a.eval x,rfl,r.ev hx⟩) hk
theorem Az {c x y:Operand} {v:AV} {p:Bool} (hc:ev L c=some (.one (.lit (.bool p)))) (hp:p=true) (hx:ev L x=some v) (hn:d<E.n) (hk:K ((d,v)::L) h):ar P ⟨some d,.pick c x y,ty,pos,af,gd⟩ E K L h:=
 aF rfl hn (λ_ _ a _ r=>⟨a.eval x,by simp[execOp,(r.ev hc).bool,hp,asBool,bind,Sem.bind,pure],r.ev hx⟩) hk
theorem Ar {c x y:Operand} {v:AV} {p:Bool} (hc:ev L c=some (.one (.lit (.bool p)))) (hp:p=false) (hy:ev L y=some v) (hn:d<E.n) (hk:K ((d,v)::L) h):ar P ⟨some d,.pick c x y,ty,pos,af,gd⟩ E K L h:=
 aF rfl hn (λ_ _ a _ r=>⟨a.eval y,by simp[execOp,(r.ev hc).bool,hp,asBool,bind,Sem.bind,pure],r.ev hy⟩) hk
theorem dC {op:BinOp} {xt yt:TypeId} {x y:Operand} {u v c:Value} (hx:ev L x=some (.one (.lit u))) (hy:ev L y=some (.one (.lit v)))
  (hnn:¬(u= .nilIface/\v= .nilIface)) (hr:∀w,(binOp op xt u v).run P w= .ok c w) (hc:dM u->dM v->dM c) (hn:d<E.n) (hk:K ((d,.one (.lit c))::L) h):ar P ⟨some d,.binOp op xt x y yt,ty,pos,af,gd⟩ E K L h:=
 aF rfl hn (λ_ _ a w r=>by
  obtain⟨e1,o1⟩:=(r.ev hx).lit;obtain⟨e2,o2⟩:=(r.ev hy).lit;refine⟨c,?_,.one (.lit (hc o1 o2))⟩;have hg:(eqGuard op xt x y u v)= .pure ():=by
   cases u<;>cases v<;>first|exact absurd ⟨rfl,rfl⟩ hnn|exact o1.elim|exact o2.elim|(cases op<;>rfl)
  simp only[execOp,e1,e2,hg,Sem.run_bind,Sem.run_pure',Result.andThen_ok,hr w,Sem.run_pure]) hk
omit [Zb]in
theorem ia {n:Int} (h1: -9223372036854775808<=n) (h2:n<=9223372036854775807):dM (.int .i64 n):=by
 show (Lit.int .i64 n).wf=true;simp[Lit.wf,IntKind.min,IntKind.max,IntKind.signed,IntKind.bits];omega
omit [Zb]in
theorem um {n:Int} (h:dM (.int .i64 n)): -9223372036854775808<=n/\n<=9223372036854775807:=by
 have h:(Lit.int .i64 n).wf=true:=h;simp[Lit.wf,IntKind.min,IntKind.max,IntKind.signed,IntKind.bits]at h;omega
omit [Zb]in
theorem kz {n:Int} (h1: -9223372036854775808<=n) (h2:n<=9223372036854775807):IntKind.i64.wrap n=n:=IntWalk.i64_in _ ⟨h1,h2⟩
def bZ :BinOp->Int->Int->Bool
 | .eql,a,b=>decide (a=b)
 | .neq,a,b=> !decide (a=b)
 | .lss,a,b=>decide (a<b)
 | .leq,a,b=>decide (a<=b)
 | .gtr,a,b=>decide (b<a)
 | .geq,a,b=>decide (b<=a)
 |_,_,_=>false
def DV :BinOp->Bool
 | .eql| .neq| .lss| .leq| .gtr| .geq=>true
 |_=>false
theorem dS {op:BinOp} {xt yt:TypeId} {x y:Operand} {k:IntKind} {a b:Int} (ho:DV op=true) (hx:ev L x=some (.one (.lit (.int k a)))) (hy:ev L y=some (.one (.lit (.int k b)))) (hn:d<E.n)
  (hk:K ((d,.one (.lit (.bool (bZ op a b))))::L) h):ar P ⟨some d,.binOp op xt x y yt,ty,pos,af,gd⟩ E K L h:=
 dC (c:=.bool (bZ op a b)) hx hy (by simp) (λw=>by cases op<;>first|(cases ho;done)|(simp[binOp,Op.intCmp,bZ,bne];try rfl)) (λ_ _=>trivial) hn hk
theorem EW {xt yt:TypeId} {x y:Operand} {a b:Int} (hx:ev L x=some (.one (.lit (.int .i64 a)))) (hy:ev L y=some (.one (.lit (.int .i64 b)))) (ha:0<=a) (hb:0<b) (hn:d<E.n)
  (hk:K ((d,.one (.lit (.int .i64 (a%b))))::L) h):ar P ⟨some d,.binOp .rem xt x y yt,ty,pos,af,gd⟩ E K L h:=
 dC hx hy (by simp) (λw=>by
  have:b≠0:=by omega
  simp[binOp,Op.intDiv,this,Int.tmod_eq_emod_of_nonneg ha]) (λho _=>by
  have h1:=um ho;have h2:=Int.emod_nonneg a (b:=b) (by omega);have h4:=Int.emod_add_mul_ediv a b;have h5:0<=b*(a / b):=Int.mul_nonneg (by omega) (Int.ediv_nonneg ha (by omega));exact ia (by omega) (by omega)) hn hk
theorem Ei {xt yt:TypeId} {x y:Operand} {a b:Int} (hx:ev L x=some (.one (.lit (.int .i64 a)))) (hy:ev L y=some (.one (.lit (.int .i64 b)))) (ha:0<=a) (hb:0<b) (hn:d<E.n)
  (hk:K ((d,.one (.lit (.int .i64 (a / b))))::L) h):ar P ⟨some d,.binOp .quo xt x y yt,ty,pos,af,gd⟩ E K L h:=
 aF rfl hn (λ_ _ act w r=>by
  obtain⟨e1,o1⟩:=(r.ev hx).lit;obtain⟨e2,o2⟩:=(r.ev hy).lit;have h1:=um o1;have h2:0<=a / b:=Int.ediv_nonneg ha (by omega);have h3:a / b<=a:=Int.ediv_le_self b ha;refine⟨_,?_,.one (.lit (ia (n:=a / b) (by omega) (by omega)))⟩;have hb':b≠0:=by omega
  simp[execOp,e1,e2,eqGuard,binOp,Op.intDiv,hb',Int.tdiv_eq_ediv_of_nonneg ha,kz (n:=a / b) (by omega) (by omega)]) hk
def am (op:BinOp) (k:IntKind) (a b:Int):Int:=
 match op with
 | .and=>k.wrap ((BitVec.ofInt k.bits a&&&BitVec.ofInt k.bits b).toNat)
 | .or=>k.wrap ((BitVec.ofInt k.bits a|||BitVec.ofInt k.bits b).toNat)
 | .xor=>k.wrap ((BitVec.ofInt k.bits a^^^BitVec.ofInt k.bits b).toNat)
 | .andNot=>k.wrap ((BitVec.ofInt k.bits a&&& ~~~BitVec.ofInt k.bits b).toNat)
 | .shl=>k.wrap (a*2^min b.toNat k.bits)
 | .shr=>a.fdiv (2^min b.toNat k.bits)
 |_=>0
omit [Zb]in
theorem qA (n:Int):dM (.int .i64 (IntKind.i64.wrap n)):=by
 rw[IntKind.wrap_i64];exact ia (by omega) (by omega)
theorem mj {op:BinOp} {xt yt:TypeId} {x y:Operand} {a b:Int} (ho:(match op with| .and| .or| .xor| .andNot=>true|_=>false)=true) (hx:ev L x=some (.one (.lit (.int .i64 a)))) (hy:ev L y=some (.one (.lit (.int .i64 b)))) (hn:d<E.n)
  (hk:K ((d,.one (.lit (.int .i64 (am op .i64 a b))))::L) h):ar P ⟨some d,.binOp op xt x y yt,ty,pos,af,gd⟩ E K L h:=
 dC hx hy (by simp) (λw=>by cases op<;>first|(cases ho;done)|(simp[binOp,Op.intBits,am])) (λ_ _=>by cases op<;>first|(cases ho;done)|exact qA _) hn hk
theorem EA     {xt yt : TypeId} {x y : Operand} {k : IntKind} {a b : Int} (hx : ev L x = some (.one (.lit (.int .i64 a)))) (hy : ev L y = some (.one (.lit (.int k b)))) (hb : 0 ≤ b) (hn : d < E.n)
  (hk:K ((d,.one (.lit (.int .i64 (am .shl .i64 a b))))::L) h):ar P ⟨some d,.binOp .shl xt x y yt,ty,pos,af,gd⟩ E K L h:=
 dC     hx hy (by simp) (fun w => by have : ¬ b < 0 := by omega
                                     simp only[binOp,Op.shift,this,if_false];rfl) (λ_ _=>qA _) hn hk
theorem E7 {xt:TypeId} {x:Operand} {b:Bool} (hx:ev L x=some (.one (.lit (.bool b)))) (hn:d<E.n) (hk:K ((d,.one (.lit (.bool (!b))))::L) h):ar P ⟨some d,.unOp .not xt x,ty,pos,af,gd⟩ E K L h:=
 aF rfl hn (λ_ _ a w r=>⟨.bool (!b),by simp[execOp,(r.ev hx).bool,Op.unary],.one (.lit trivial)⟩) hk
def yx :BinOp->Int->Int->Int
 | .add,a,b=>IntKind.i64.wrap (a+b)
 | .sub,a,b=>IntKind.i64.wrap (a-b)
 | .mul,a,b=>IntKind.i64.wrap (a*b)
 |_,_,_=>0
theorem nJ {op:BinOp} {xt yt:TypeId} {x y:Operand} {a b:Int} (ho:(match op with| .add| .sub| .mul=>true|_=>false)=true) (hx:ev L x=some (.one (.lit (.int .i64 a)))) (hy:ev L y=some (.one (.lit (.int .i64 b)))) (hn:d<E.n)
  (hk:K ((d,.one (.lit (.int .i64 (yx op a b))))::L) h):ar P ⟨some d,.binOp op xt x y yt,ty,pos,af,gd⟩ E K L h:=
 dC hx hy (by simp) (λw=>by cases op<;>first|(cases ho;done)|(simp[binOp,Op.intArith,yx])) (λ_ _=>by cases op<;>first|(cases ho;done)|exact qA _) hn hk
omit [Zb]in
theorem sq {a:Int} {n:Nat} (h1: -9223372036854775808<=a) (h2:a<=9223372036854775807): -9223372036854775808<=a.fdiv (2^n)/\a.fdiv (2^n)<=9223372036854775807:=by
 have hp:(0:Int)<2^n:=Int.pow_pos (by decide);rw[Int.fdiv_eq_ediv_of_nonneg _ (Int.le_of_lt hp)];constructor
 ·have:=Int.mul_ediv_self_le (x:=a) (k:=2^n) (by omega);rcases Int.lt_or_le (a / 2^n) (-9223372036854775808)with h|h
  ·have h3:a / 2^n<0:=by omega
   have h4:=Int.lt_mul_ediv_self_add (x:=a) hp;have h5:2^n*(a / 2^n)<=1*(a / 2^n):=Int.mul_le_mul_of_nonpos_right (by omega) (by omega);rcases Int.lt_or_le a 0 with ha|ha
   ·have:a<=a / 2^n:=by
     rw[Int.le_ediv_iff_mul_le hp];have:a*2^n<=a*1:=Int.mul_le_mul_of_nonpos_left (by omega) (by omega);omega
    omega
   ·have:=Int.ediv_nonneg ha (Int.le_of_lt hp);omega
  ·exact h
 ·rcases Int.lt_or_le a 0 with ha|ha
  ·have:a / 2^n<0:=Int.ediv_neg_of_neg_of_pos ha hp;omega
  ·have:=Int.ediv_le_self (2^n) ha;omega
theorem Eh     {xt yt : TypeId} {x y : Operand} {k : IntKind} {a b : Int} (hx : ev L x = some (.one (.lit (.int .i64 a)))) (hy : ev L y = some (.one (.lit (.int k b)))) (hb : 0 ≤ b) (hn : d < E.n)
  (hk:K ((d,.one (.lit (.int .i64 (am .shr .i64 a b))))::L) h):ar P ⟨some d,.binOp .shr xt x y yt,ty,pos,af,gd⟩ E K L h:=
 dC     hx hy (by simp) (fun w => by have : ¬ b < 0 := by omega
                                     simp only[binOp,Op.shift,this,if_false];rfl) (λo1 _=>by
  have h1:=um o1;have:=sq (n:=min b.toNat IntKind.i64.bits) h1.1 h1.2;exact ia this.1 this.2) hn hk
omit [Zb]in
theorem F9 {n:Int} (h:dM (.int .u8 n)):0<=n/\n<=255:=by
 have h:(Lit.int .u8 n).wf=true:=h;simp[Lit.wf,IntKind.min,IntKind.max,IntKind.signed,IntKind.bits]at h;omega
theorem wn {tb:Tbl} (htb:bE P tb) {src dst:TypeId} {x:Operand} {a:Int} {i j:TyI} (hx:ev L x=some (.one (.lit (.int .u8 a)))) (hs:tb.lookup src=some i) (hd:tb.lookup dst=some j) (hj:j.desc= .int .i64) (hn:d<E.n)
  (hk:K ((d,.one (.lit (.int .i64 a)))::L) h):ar P ⟨some d,.convert src dst x,ty,pos,af,gd⟩ E K L h:=
 aF rfl hn (λ_ _ act w r=>by
  obtain⟨e1,o1⟩:=(r.ev hx).lit;have hr:=F9 o1;obtain⟨_,_,h2,_⟩:=aP (htb src i hs);obtain⟨_,_,g2,_⟩:=aP (htb dst j hd);rw[hj]at g2;refine⟨.int .i64 a,?_,.one (.lit (ia (by omega) (by omega)))⟩;simp[execOp,convert,run_underlying h2,run_underlying g2,e1,Conv.intToInt,kz (n:=a) (by omega) (by omega)]) hk
end
end
section
variable [Zb]
section
variable {ι : List Inf} {I : Nat → Prop} {w : World}
theorem AR.one' {v:V} {c:Value} (h:AR ι I w (.one v) c):VR I w ι v c:=by cases h with|one h=>exact h
theorem VR.immSlice {s:Nat} {es:List (List V)} {c:Value} (h:VR I w ι (.imm s es) c):∃A cap,c= .slice A es.length cap/\es.length<=cap/\cap<=9223372036854775807:=by
 cases h with
 |imm0 hc=>exact⟨_,_,rfl,Nat.zero_le _,hc⟩
 |imm hs hc hm hI hcell hr=>exact⟨_,_,rfl,hc,hm⟩
theorem VR.ownSlice {id off len:Nat} {c:Value} (h:VR I w ι (.own id off len) c):∃A cap,c= .slice A len cap/\len<=cap/\cap<=9223372036854775807:=by
 cases h with
 |own hi hl hcap hm=>exact⟨_,_,rfl,hl,hm⟩
 |own0 hi hcap=>exact⟨_,_,rfl,Nat.le_refl _,by omega⟩
theorem VR.immAt {s:Nat} {es:List (List V)} {A:Option Addr} {n cap:Nat} (h:VR I w ι (.imm s es) (.slice A n cap)) {k:Nat} {e:List V} (hk:es[k]? =some e):
  ∃b off,A=some ⟨b,off,none⟩/\n=es.length/\k<n/\VR I w ι (.iptr s e) (.pointer (some ⟨b,off+k*s,none⟩)):=by
 obtain⟨hlt,rfl⟩:=gI.1 hk;cases h with
 |imm0 hc=>simp at hlt
 | @imm _ _ b off _ _ f hs hc hm hI hcell hr hT=>
  refine⟨b,off,rfl,rfl,hlt,.iptr (f:=f k) hI (λj hj=> ?_) (λj hj=>hr k hlt j hj) hT⟩;have hl:=hs es[k] (gM hlt);have:=hcell k j hlt (by omega);rw[Nat.add_assoc];exact this
theorem AR.len {v:V} {n:Nat} {c:Value} (h:AR ι I w (.one v) c) (hv:(∃s es,v= .imm s es/\es.length=n)\/(∃s es,v= .immc s es/\es.length=n)\/(∃id off,v= .own id off n)\/(v= .lit (.slice none 0 0)/\n=0)):
  ∃A cap,c= .slice A n cap/\n<=cap/\cap<=9223372036854775807:=by
 rcases hv with⟨s,es,rfl,rfl⟩|⟨s,es,rfl,rfl⟩|⟨id,off,rfl⟩|⟨rfl,rfl⟩
 ·exact h.one'.immSlice
 ·cases h.one' with
  |immc0=>exact⟨_,_,rfl,Nat.le_refl _,by simp⟩
  |immc hs hm hI hcell hr=>exact⟨_,_,rfl,Nat.le_refl _,hm⟩
 ·exact h.one'.ownSlice
 ·cases h.one' with|lit h=>exact⟨_,_,rfl,Nat.le_refl _,by simp⟩
end
def lenV :V->Option Nat
 | .imm _ es=>some es.length
 | .immc _ es=>some es.length
 | .own _ _ n=>some n
 | .lit (.slice none 0 0)=>some 0
 |_=>none
theorem AR.lenV {ι:List Inf} {I:Nat->Prop} {w:World} {v:V} {n:Nat} {c:Value} (h:AR ι I w (.one v) c) (hv:Abs.lenV v=some n):∃A cap,c= .slice A n cap/\n<=cap/\cap<=9223372036854775807:=by
 refine h.len ?_;unfold Abs.lenV at hv;split at hv
 ·rename_i s es;cases hv;exact .inl ⟨s,es,rfl,rfl⟩
 ·rename_i s es;cases hv;exact .inr (.inl ⟨s,es,rfl,rfl⟩)
 ·rename_i id off n';cases hv;exact .inr (.inr (.inl ⟨id,off,rfl⟩))
 ·cases hv;exact .inr (.inr (.inr ⟨rfl,rfl⟩))
 ·cases hv
def pQ (agg:Bool) (size:Nat) (cs:List V):Option AV:=
 if agg then (if size<=cs.length then some (.agg (cs.take size))else none)else cs.head?.map .one
section
variable {P : Program} {E : Cx} {K : Env → ag → Prop} {L : Env} {h : ag} {d : Nat} {ty : TypeId} {pos : String} {af : Array Edge} {gd : Option (Nat × Bool)} {tb : Tbl}
theorem FO (htb:bE P tb) {t:TypeId} {x:Operand} {v:V} {n:Nat} {el:ElI} (hx:ev L x=some (.one v)) (hv:lenV v=some n) (he:dN tb t=some el) (hn:d<E.n) (hk:K ((d,.one (.lit (.int .i64 n)))::L) h):
  ar P ⟨some d,.call ⟨.builtin .len,#[x],#[t]⟩,ty,pos,af,gd⟩ E K L h:=
 aF rfl hn (λ_ _ a w r=>by
  obtain⟨A,cap,e,h1,h2⟩:=(r.ev hx).lenV hv;refine⟨.int .i64 n,?_,.one (.lit (ia (by omega) (by omega)))⟩;simp[execOp,resolve,invoke,builtin,Builtin.len_,e,run_underlying (aH htb he).1,goInt]) hk
theorem xM (htb:bE P tb) {t:TypeId} {x:Operand} {s:ByteArray} {i:TyI} (hx:ev L x=some (.one (.lit (.string s)))) (ht:tb.lookup t=some i) (hi:i.desc= .string) (hn:d<E.n) (hk:K ((d,.one (.lit (.int .i64 s.size)))::L) h):
  ar P ⟨some d,.call ⟨.builtin .len,#[x],#[t]⟩,ty,pos,af,gd⟩ E K L h:=
 aF rfl hn (λ_ _ a w r=>by
  obtain⟨e,ho⟩:=(r.ev hx).lit;have ho:s.size<=maxLen:=ho;unfold maxLen at ho;obtain⟨_,_,h2,_⟩:=aP (htb t i ht);rw[hi]at h2;refine⟨.int .i64 s.size,?_,.one (.lit (ia (by omega) (by omega)))⟩;simp[execOp,resolve,invoke,builtin,Builtin.len_,e,run_underlying h2,goInt]) hk
omit [Zb]in
theorem ba {t:TypeId} {n:Nat} (h:cK P t=n) (hn:0<n) (w:World):(sizeOf t).run P w= .ok n w:=by
 obtain⟨inf,h1,h2⟩:=ka h hn;simp[sizeOf,typeInfo,h1,h2]
omit [Zb]in
theorem bI (b off n:Nat):(⟨b,off,none⟩:Addr).add n=⟨b,off+n,none⟩:=by
 unfold Addr.add;split
 ·rename_i e;subst e;rfl
 ·rfl
theorem qV (htb:bE P tb) {t:TypeId} {x y:Operand} {s:Nat} {es:List (List V)} {k:IntKind} {i:Int} {e:List V} {el:ElI} (hx:ev L x=some (.one (.imm s es))) (hy:ev L y=some (.one (.lit (.int k i)))) (he:dN tb t=some el) (hs:el.size=s) (hpos:0<s)
  (hi:0<=i) (hg:es[i.toNat]? =some e) (hn:d<E.n) (hk:K ((d,.one (.iptr s e))::L) h):ar P ⟨some d,.indexAddr t x y,ty,pos,af,gd⟩ E K L h:=
 aF rfl hn (λ_ _ a w r=>by
  obtain⟨A,cap,e1,h1,h2⟩:=(r.ev hx).one'.immSlice;have hv:=(r.ev hx).one';rw[e1]at hv;obtain⟨b,off,rfl,_,hlt,hp⟩:=hv.immAt hg;obtain⟨e2,_⟩:=(r.ev hy).lit;obtain⟨u1,u2,_⟩:=aH htb he;refine⟨_,?_,.one hp⟩;have hlt':i<es.length:=by omega
  simp[execOp,Instr.indexAt,e1,e2,asIntOf,run_underlying u1,hi,hlt',ba u2 (by omega),bI,hs]) hk
theorem Rel.row {ι:List Inf} {I:Nat->Prop} {a:Act} {w:World} (r:Rel E L h ι I a w) {id s:Nat} {es:List (List V)} (ho:h[id]? =some (some (.row s es))):∃inf,ι[id]? =some inf/\OR ι I w inf (.row s es)/\inf.size=s:=by
 have hlt:=(gI.1 ho).1;have hlt':id<ι.length:=by rw[<-r.heap.len];exact hlt
 have hi:=gE hlt';have:=r.heap.obj id _ _ ho hi;refine⟨_,hi,this,?_⟩;obtain⟨_,_,_,h2,_⟩:=this;exact h2
theorem rX (htb:bE P tb) {t:TypeId} {x y:Operand} {s id off len:Nat} {es:List (List V)} {k:IntKind} {i:Int} {el:ElI} (hx:ev L x=some (.one (.own id off len))) (hy:ev L y=some (.one (.lit (.int k i)))) (he:dN tb t=some el)
  (ho:h[id]? =some (some (.row s es))) (hs:el.size=s) (hpos:0<s) (hi:0<=i) (hlt:i<len) (hn:d<E.n) (hk:K ((d,.one (.ptr id (off+i.toNat) 0))::L) h):ar P ⟨some d,.indexAddr t x y,ty,pos,af,gd⟩ E K L h:=
 aF rfl hn (λι I a w r=>by
  obtain⟨inf,hι,_,hsz⟩:=r.row ho;obtain⟨e2,_⟩:=(r.ev hy).lit;obtain⟨u1,u2,_⟩:=aH htb he;have hv:=(r.ev hx).one';generalize hc:a.eval x=c at hv;cases hv with
  |own0 hi' hcap=>omega
  | @own _ _ _ _ cap inf' hi' hl hcap hm=>
   have:inf'=inf:=by rw[hι]at hi';cases hi';rfl
   subst this;refine⟨_,?_,.one (.ptr (k:=off+i.toNat) (o:=0) hι)⟩;simp[execOp,Instr.indexAt,hc,e2,asIntOf,run_underlying u1,hi,hlt,ba u2 (by omega),bI,hs,hsz,Nat.add_mul,Nat.add_assoc]) hk
theorem nD {ι:List Inf} {I:Nat->Prop} {w:World} (htb:bE P tb) {t:TypeId} {i:TyI} (ht:tb.lookup t=some i) {b off:Nat} {cs:List V} {f:Nat->Value} {v:AV} (hcell:∀j,j<cs.length->w.cell? ⟨b,off+j,none⟩=some (f j))
  (hr:∀(j:Nat) (hj:j<cs.length),VR I w ι cs[j] (f j)) (hl:pQ i.agg i.size cs=some v):∃c,(loadVar t ⟨b,off,none⟩).run P w= .ok c w/\AR ι I w v c:=by
 obtain⟨inf,h1,h2,h3,_,h5,_⟩:=aP (htb t i ht);unfold pQ at hl;split at hl
 ·rename_i hagg;split at hl
  ·rename_i hle;cases hl;have hrun:=run_loadCells (P:=P) w ⟨b,off,none⟩ i.size f (λj hj=>by rw[bI      ];exact hcell j (by omega));have hisagg:(isAgg t).run P w= .ok true w:=by
    rw[hagg]at h5;simp[isAgg,run_underlying h2]
    revert h5
    cases i.desc<;>simp
   refine⟨.agg ((List.range i.size).map f).toArray,?_,?_⟩
   ·simp[loadVar,hisagg,sizeOf,typeInfo,h1,h3,hrun]
   ·refine .agg (f:=f) (by simp;omega) (λj hj=> ?_) (λj hj=> ?_)
    ·simp at hj;simp;exact⟨j,List.getElem?_range (by omega),rfl⟩
    ·simp at hj;rw[List.getElem_take];exact hr j (by omega)
  ·cases hl
 ·rename_i hagg;have hagg:i.agg=false:=by simpa using hagg
  cases cs with
  |nil=>simp at hl
  | cons c0 cs =>
   simp at hl;subst hl;have hisagg:(isAgg t).run P w= .ok false w:=by
    rw[hagg]at h5;simp[isAgg,run_underlying h2]
    revert h5
    cases i.desc<;>simp
   have h0:=hcell 0 (by simp);refine⟨f 0,?_,.one (hr 0 (by simp))⟩;simp[loadVar,hisagg];rw[Nat.add_zero]at h0;simp[h0]
theorem zb (htb:bE P tb) {t:TypeId} {x:Operand} {s:Nat} {cs:List V} {i:TyI} {v:AV} (hx:ev L x=some (.one (.iptr s cs))) (ht:tb.lookup t=some i) (hl:pQ i.agg i.size cs=some v) (hn:d<E.n) (hk:K ((d,v)::L) h):ar P ⟨some d,.load t x,ty,pos,af,gd⟩ E K L h:=
 aF rfl hn (λι I a w r=>by
  have hv:=(r.ev hx).one';generalize hc:a.eval x=c at hv;cases hv with
  | iptr hI hcell hr =>
   obtain⟨c,h1,h2⟩:=nD htb ht hcell (λj hj=>(hr j hj).up) hl;exact⟨c,by simp[execOp,Instr.loadAt,Instr.sureAddr,hc,h1],h2⟩) hk
theorem OR.cells {ι:List Inf} {I:Nat->Prop} {w:World} {inf:Inf} {s:Nat} {es:List (List V)} (hor:OR ι I w inf (.row s es)) {k o:Nat} {e:List V} (hk:es[k]? =some e):
  ∃f:Nat->Value,(∀j,j<(e.drop o).length->w.cell? ⟨inf.block,inf.base+(k*s+o)+j,none⟩=some (f j))/\∀(j:Nat) (hj:j<(e.drop o).length),VR I w ι (e.drop o)[j] (f j):=by
 obtain⟨cur,t,h1,h2,h3,h4,h5,h6,h7⟩:=hor;obtain⟨hlt,rfl⟩:=gI.1 hk;refine⟨λj=>cur.getD (inf.base+(k*s+o)+j) undef,λj hj=> ?_,λj hj=> ?_⟩
 all_goals
  simp at hj;obtain⟨u,hu,hv⟩:=h7 k hlt (o+j) (by omega);have e0:inf.base+(k*s+(o+j))=inf.base+(k*s+o)+j:=by omega
  rw[e0]at hu
 ·simp[World.cell?,h1,hu]
 ·simp[hu];exact hv
theorem sT (htb:bE P tb) {t:TypeId} {x:Operand} {id k o s:Nat} {es:List (List V)} {e:List V} {i:TyI} {v:AV} (hx:ev L x=some (.one (.ptr id k o))) (ht:tb.lookup t=some i) (ho:h[id]? =some (some (.row s es))) (he:es[k]? =some e)
  (hl:pQ i.agg i.size (e.drop o)=some v) (hn:d<E.n) (hk:K ((d,v)::L) h):ar P ⟨some d,.load t x,ty,pos,af,gd⟩ E K L h:=
 aF rfl hn (λι I a w r=>by
  obtain⟨inf,hι,hor,hsz⟩:=r.row ho;have hv:=(r.ev hx).one';generalize hc:a.eval x=c at hv;cases hv with
  | @ptr _ _ _ _ inf' hi=>
   have:inf'=inf:=by rw[hι]at hi;cases hi;rfl
   subst this;obtain⟨f,hcell,hr⟩:=hor.cells he (o:=o);rw[<-hsz]at hcell;obtain⟨c,h1,h2⟩:=nD htb ht hcell hr hl;exact⟨c,by simp[execOp,Instr.loadAt,Instr.sureAddr,hc,h1],h2⟩) hk
omit [Zb]in
theorem pt (htb:bE P tb) {t:TypeId} {i:TyI} (ht:tb.lookup t=some i) {f off ft sz:Nat} (hf:i.fields[f]? =some (off,ft,sz)) (hz:0<sz) {b o:Nat} (w:World):
  (Instr.fieldAt t (.pointer (some ⟨b,o,none⟩)) f).run P w= .ok (.pointer (some ⟨b,o+off,none⟩)) w:=by
 obtain⟨inf,h1,h2,h3,_,_,_,_,h8⟩:=aP (htb t i ht);rw[h8]at hf;cases hd:i.desc with
 | struct fs =>
  rw[hd]at hf h2;simp only[List.getElem?_map]at hf;cases hfs:fs[f]? with
  |none=>simp[hfs]at hf
  | some fl =>
   simp[hfs]at hf;obtain⟨rfl,rfl,hsz⟩:=hf;have:¬(sz=0):=by omega
   simp[Instr.fieldAt,run_underlying h2,hfs,Instr.sureAddr,fieldPlace,ba hsz hz,this,bI]
 |_=>rw[hd]at hf;simp at hf
theorem xo (htb:bE P tb) {t:TypeId} {x:Operand} {f off ft sz s:Nat} {cs:List V} {i:TyI} (hx:ev L x=some (.one (.iptr s cs))) (ht:tb.lookup t=some i) (hf:i.fields[f]? =some (off,ft,sz)) (hz:0<sz) (hn:d<E.n) (hk:K ((d,.one (.iptr s (cs.drop off)))::L) h):
  ar P ⟨some d,.fieldAddr t x f,ty,pos,af,gd⟩ E K L h:=
 aF rfl hn (λι I a w r=>by
  have hv:=(r.ev hx).one';generalize hc:a.eval x=c at hv;cases hv with
  | @iptr _ _ b o _ g hI hcell hr hT =>
   refine⟨.pointer (some ⟨b,o+off,none⟩),by simp[execOp,hc,pt htb ht hf hz],.one (.iptr (f:=λj=>g (off+j)) hI (λj hj=> ?_) (λj hj=> ?_) hT)⟩
   ·simp at hj;rw[Nat.add_assoc];exact hcell (off+j) (by omega)
   ·simp at hj;rw[List.getElem_drop];exact hr (off+j) (by omega)) hk
theorem oT (htb:bE P tb) {t:TypeId} {x:Operand} {f off ft sz id k o:Nat} {i:TyI} (hx:ev L x=some (.one (.ptr id k o))) (ht:tb.lookup t=some i) (hf:i.fields[f]? =some (off,ft,sz)) (hz:0<sz) (hn:d<E.n) (hk:K ((d,.one (.ptr id k (o+off)))::L) h):
  ar P ⟨some d,.fieldAddr t x f,ty,pos,af,gd⟩ E K L h:=
 aF rfl hn (λι I a w r=>by
  have hv:=(r.ev hx).one';generalize hc:a.eval x=c at hv;cases hv with
  | @ptr _ _ _ _ inf hi=>
   exact⟨_,by simp[execOp,hc,pt htb ht hf hz,Nat.add_assoc],.one (.ptr hi)⟩) hk
theorem BO {x:Operand} {id k o:Nat} (hx:ev L x=some (.one (.ptr id k o))) (hn:d<E.n) (hk:K ((d,.one (.ptr id k o))::L) h):ar P ⟨some d,.nilCheck x,ty,pos,af,gd⟩ E K L h:=
 aF rfl hn (λι I a w r=>by
  have hv:=(r.ev hx).one';generalize hc:a.eval x=c at hv;cases hv with
  |ptr hi=>exact⟨_,by simp[execOp,hc],.one (.ptr hi)⟩) hk
theorem BQ {x:Operand} {s:Nat} {cs:List V} (hx:ev L x=some (.one (.iptr s cs))) (hn:d<E.n) (hk:K ((d,.one (.iptr s cs))::L) h):ar P ⟨some d,.nilCheck x,ty,pos,af,gd⟩ E K L h:=
 aF rfl hn (λι I a w r=>by
  have hv:=(r.ev hx).one';generalize hc:a.eval x=c at hv;cases hv with
  |iptr hI hcell hr hT=>exact⟨_,by simp[execOp,hc],.one (.iptr hI hcell hr hT)⟩) hk
theorem uy {x:Operand} {j:Nat} {xs:List AV} {v:AV} (hx:ev L x=some (.tup xs)) (hj:xs[j]? =some v) (hn:d<E.n) (hk:K ((d,v)::L) h):ar P ⟨some d,.extract x j,ty,pos,af,gd⟩ E K L h:=
 aF rfl hn (λι I a w r=>by
  have hv:=r.ev hx;generalize hc:a.eval x=c at hv;obtain⟨hlt,rfl⟩:=gI.1 hj;cases hv with
  |tup hl hcs hr=>exact⟨_,by simp[execOp,hc,Instr.extract,hcs j hlt],hr j hlt⟩) hk
theorem Bs      (htb : bE   P tb) {t : TypeId} {x : Operand} {f off ft sz : Nat} {vs : List V} {i fi : TyI} {v : AV} (hx : ev L x = some (.agg vs)) (ht : tb.lookup t = some i) (hf : i.fields[f]? = some (off, ft, sz)) (hft : tb.lookup ft = some fi)
  (hl:pQ fi.agg fi.size (vs.drop off)=some v) (hn:d<E.n) (hk:K ((d,v)::L) h):ar P ⟨some d,.field t x f,ty,pos,af,gd⟩ E K L h:=
 aF     rfl hn (fun ι I a w r => by
  have hv:=r.ev hx;generalize hc:a.eval x=c at hv;obtain⟨inf,h1,h2,h3,_,_,_,_,h8⟩:=aP (htb t i ht);obtain⟨inf',g1,g2,g3,_,g5,_⟩:=aP (htb ft fi hft);rw[h8]at hf;cases hd:i.desc with
  | struct fs =>
   rw[hd]at hf h2;simp only[List.getElem?_map]at hf;cases hfs:fs[f]? with
   |none=>simp[hfs]at hf
   | some fl =>
    simp[hfs]at hf;obtain⟨rfl,rfl,hsz⟩:=hf;cases hv with
    | @agg _ cs g hl' hcs hr =>
     unfold pQ at hl;split at hl
     ·rename_i hagg;split at hl
      ·rename_i hle;cases hl;have hisagg:(isAgg fl.type).run P w= .ok true w:=by
        rw[hagg]at g5;simp[isAgg,run_underlying g2]
        revert g5
        cases fi.desc<;>simp
       refine⟨.agg (cs.extract fl.offset (fl.offset+fi.size)),?_,?_⟩
       ·simp[execOp,hc,Instr.field,run_underlying h2,hfs,asAgg,part,hisagg,sizeOf,typeInfo,g1,g3]
       ·simp at hle;refine .agg (f:=λj=>g (fl.offset+j)) (by simp;omega) (λj hj=> ?_) (λj hj=> ?_)
        ·simp at hj;rw[Array.getElem?_extract];rw[if_pos (by omega)];exact hcs _ (by omega)
        ·simp at hj;simp only[List.getElem_take,List.getElem_drop];exact hr _ (by omega)
      ·cases hl
     ·rename_i hagg;have hagg:fi.agg=false:=by simpa using hagg
      cases hdr:vs.drop fl.offset with
      |nil=>simp[hdr]at hl
      | cons c0 rest =>
       simp[hdr]at hl;subst hl;have hlt:fl.offset<vs.length:=by
        rcases Nat.lt_or_ge fl.offset vs.length with h|h
        ·exact h
        ·rw[List.drop_eq_nil_of_le h]at hdr;cases hdr
       have hisagg:(isAgg fl.type).run P w= .ok false w:=by
        rw[hagg]at g5;simp[isAgg,run_underlying g2]
        revert g5
        cases fi.desc<;>simp
       have hc0:vs[fl.offset]=c0:=by
        have:=List.getElem_drop (xs:=vs) (i:=fl.offset) (j:=0) (h:=by simp;omega);simp[hdr]at this;exact this.symm
       refine⟨g fl.offset,?_,.one (hc0▸hr _ hlt)⟩;simp[execOp,hc,Instr.field,run_underlying h2,hfs,asAgg,part,hisagg,hcs _ hlt]
  |_=>rw[hd]at hf;simp at hf) hk
omit [Zb]in
theorem bg (w:World) {isS:Bool} {len cap lo hi:Nat} {kl kh:IntKind} {low high:Option Value} (hlow:low=none/\lo=0\/low=some (.int kl lo)) (hhigh:high=none/\hi=len\/high=some (.int kh hi)) (h1:lo<=hi) (h2:hi<=cap):
  (Instr.sliceBounds isS len cap low high none).run P w= .ok (lo,hi,cap) w:=by
 rcases hlow with⟨rfl,rfl⟩|rfl<;>rcases hhigh with⟨rfl,rfl⟩|rfl<;>simp[Instr.sliceBounds,Instr.sliceBound,asIntOf,h1,h2]
theorem VR.immSub {ι:List Inf} {I:Nat->Prop} {w:World} {s lo hi cap:Nat} {es:List (List V)} {A:Option Addr} (h:VR I w ι (.imm s es) (.slice A es.length cap)) (h1:lo<=hi) (h2:hi<=es.length) (h3:es.length<=cap):
  VR I w ι (.imm s ((es.take hi).drop lo)) (.slice (if cap=lo then A else A.map (·.add (lo*s))) (hi-lo) (cap-lo)):=by
 have hl:((es.take hi).drop lo).length=hi-lo:=by simp;omega
 by_cases he:hi=lo
 ·subst he;have e0:(es.take hi).drop hi=[]:=nZ (by rw[hl];omega);rw[e0,Nat.sub_self];cases h with
  |imm0 hc=>exact .imm0 (by omega)
  |imm hs hc hm hI hcell hr=>exact .imm0 (by omega)
 ·cases h with
  |imm0 hc=>simp at h2;omega
  | @imm _ _ b off _ _ f hs hc hm hI hcell hr hT =>
   rw[if_neg (by omega)];simp only[Option.map_some,bI];rw[<-hl];refine .imm (f:=λk j=>f (lo+k) j) (λe he=>hs e (List.mem_of_mem_take (List.mem_of_mem_drop he))) (by rw[hl];omega) (by omega) hI (λk j h4 h5=> ?_) (λk hk j hj=> ?_) hT
   ·rw[hl]at h4;have:=hcell (lo+k) j (by omega) h5;rw[<-this]
    congr 2
    rw[Nat.add_mul];omega
   ·rw[hl]at hk;simp only[List.getElem_drop,List.getElem_take]at hj ⊢;exact hr (lo+k) (by omega) j hj
theorem s5 (htb:bE P tb) {t:TypeId} {x:Operand} {low high:Option Operand} {s lo hi:Nat} {es:List (List V)} {kl kh:IntKind} {el:ElI} (hx:ev L x=some (.one (.imm s es))) (he:dN tb t=some el) (hs:el.size=s) (hpos:0<s)
  (hlow:low=none/\lo=0\/∃y,low=some y/\ev L y=some (.one (.lit (.int kl lo)))) (hhigh:high=none/\hi=es.length\/∃y,high=some y/\ev L y=some (.one (.lit (.int kh hi)))) (h1:lo<=hi) (h2:hi<=es.length) (hn:d<E.n)
  (hk:K ((d,.one (.imm s ((es.take hi).drop lo)))::L) h):ar P ⟨some d,.slice t x low high none,ty,pos,af,gd⟩ E K L h:=
 aF rfl hn (λι I a w r=>by
  obtain⟨A,cap,e1,g1,g2⟩:=(r.ev hx).one'.immSlice;have hv:=(r.ev hx).one';rw[e1]at hv;obtain⟨u1,u2,_⟩:=aH htb he;have hl:low.map a.eval=none/\lo=0\/low.map a.eval=some (.int kl lo):=by
   rcases hlow with⟨rfl,rfl⟩|⟨y,rfl,hy⟩
   ·exact .inl ⟨rfl,rfl⟩
   ·exact .inr (by simp[(r.ev hy).lit.1])
  have hh:high.map a.eval=none/\hi=es.length\/high.map a.eval=some (.int kh hi):=by
   rcases hhigh with⟨rfl,rfl⟩|⟨y,rfl,hy⟩
   ·exact .inl ⟨rfl,rfl⟩
   ·exact .inr (by simp[(r.ev hy).lit.1])
  have hb:=bg (P:=P) w (isS:=true) (len:=es.length) (cap:=cap) hl hh h1 (by omega);refine⟨_,?_,.one (hv.immSub h1 h2 g1)⟩;simp[execOp,Instr.sliceAt,Instr.slice,e1,run_underlying u1,hb,ba u2 (by omega),hs]) hk
theorem rL (htb:bE P tb) {t:TypeId} {x:Operand} {low high:Option Operand} {s id off len lo hi:Nat} {es:List (List V)} {kl kh:IntKind} {el:ElI} (hx:ev L x=some (.one (.own id off len))) (he:dN tb t=some el) (ho:h[id]? =some (some (.row s es))) (hs:el.size=s) (hpos:0<s)
  (hlow:low=none/\lo=0\/∃y,low=some y/\ev L y=some (.one (.lit (.int kl lo)))) (hhigh:high=none/\hi=len\/∃y,high=some y/\ev L y=some (.one (.lit (.int kh hi)))) (h1:lo<=hi) (h2:hi<=len) (hn:d<E.n)
  (hk:K ((d,.one (.own id (off+lo) (hi-lo)))::L) h):ar P ⟨some d,.slice t x low high none,ty,pos,af,gd⟩ E K L h:=
 aF     rfl hn (λι I a w r=>by
  obtain⟨inf,hι,_,hsz⟩:=r.row ho;obtain⟨u1,u2,_⟩:=aH htb he;have hl:low.map a.eval=none/\lo=0\/low.map a.eval=some (.int kl lo):=by
   rcases hlow with⟨rfl,rfl⟩|⟨y,rfl,hy⟩
   ·exact .inl ⟨rfl,rfl⟩
   ·exact .inr (by simp[(r.ev hy).lit.1])
  have hh:high.map a.eval=none/\hi=len\/high.map a.eval=some (.int kh hi):=by
   rcases hhigh with⟨rfl,rfl⟩|⟨y,rfl,hy⟩
   ·exact .inl ⟨rfl,rfl⟩
   ·exact .inr (by simp[(r.ev hy).lit.1])
  have hv:=(r.ev hx).one';generalize hc:a.eval x=c at hv;cases hv with
  | @own0 _ _ _ oo inf' hi' hcap=>
   have:inf'=inf:=by rw[hι]at hi';cases hi';rfl
   subst this;have e1:lo=0:=by omega
   have e2:hi=0:=by omega
   subst e1 e2;have hb:=bg (P:=P) w (isS:=true) (len:=0) (cap:=0) hl hh h1 (by omega);refine⟨.slice (some ⟨inf'.block,oo,none⟩) 0 0,?_,.one (.own0 (off:=off+0) hι hcap)⟩;simp[execOp,Instr.sliceAt,Instr.slice,hc,run_underlying u1,hb,ba u2 (by omega),hs]
  | @own _ _ _ _ cap inf' hi' hle hcap hm =>
   have:inf'=inf:=by rw[hι]at hi';cases hi';rfl
   subst this;have hb:=bg (P:=P) w (isS:=true) (len:=len) (cap:=cap) hl hh h1 (by omega);by_cases hcl:cap=lo
   ·refine⟨.slice (some ⟨inf'.block,inf'.base+off*inf'.size,none⟩) (hi-lo) (cap-lo),?_,?_⟩
    ·subst hcl;simp[execOp,Instr.sliceAt,Instr.slice,hc,run_underlying u1,hb,ba u2 (by omega),hs]
    ·have e1:hi-lo=0:=by omega
     have e2:cap-lo=0:=by omega
     rw[e1,e2];exact .one (.own0 hι (by omega))
   ·refine⟨_,?_,.one (.own (off:=off+lo) (len:=hi-lo) (c:=cap-lo) hι (by omega) (by omega) (by omega))⟩;simp[execOp,Instr.sliceAt,Instr.slice,hc,run_underlying u1,hb,ba u2 (by omega),hs,hcl,bI,hsz,Nat.add_mul,Nat.add_assoc]) hk
end
end
section
variable [Zb]
def VRs (ι:List Inf) (I:Nat->Prop) (w:World) (vs:List V) (cs:List Value):Prop:=cs.length=vs.length/\∀(j:Nat) (hj:j<vs.length),∃u,cs[j]? =some u/\VR I w ι vs[j] u
def AV.cells :AV->Option (List V)
 | .one v=>some [v]
 | .agg vs=>some vs
 |_=>none
section
variable {ι : List Inf} {I : Nat → Prop} {w : World}
theorem VR.plain {v:V} {c:Value} (h:VR I w ι v c):c.oneCell'=true/\c.cells= #[c]:=by
 cases h with
 |lit h=>cases c<;>first|exact h.elim|exact⟨rfl,rfl⟩
 |_=>exact⟨rfl,rfl⟩
theorem AR.cells {v:AV} {c:Value} {vs:List V} (h:AR ι I w v c) (hv:v.cells=some vs):VRs ι I w vs c.cells.toList/\c.cells.size=vs.length/\∀u∈c.cells.toList,u.oneCell'=true:=by
 cases h with
 | one h =>
  simp[AV.cells]at hv;subst hv;rw[h.plain.2];refine⟨⟨rfl,λj hj=> ?_⟩,rfl,λu hu=> ?_⟩
  ·simp at hj;subst hj;exact⟨_,rfl,h⟩
  ·simp at hu;subst hu;exact h.plain.1
 | @agg _ cs f hl hcs hr=>
  simp[AV.cells]at hv;subst hv;refine⟨⟨by simpa [Value.cells]using hl,λj hj=>⟨f j,by simpa [Value.cells]using hcs j hj,hr j hj⟩⟩,by simpa [Value.cells]using hl,λu hu=> ?_⟩;obtain⟨j,hj,rfl⟩:=List.getElem_of_mem hu;simp[Value.cells]at hj;have:=hcs j (by omega);have e:f j=cs[j]:=by rw[gA hj]at this;exact(Option.some.inj this).symm
  have:=(hr j (by omega)).plain.1;rw[e]at this;simpa [Value.cells]using this
 |tup hl hcs hr=>simp[AV.cells]at hv
 |dead=>simp[AV.cells]at hv
theorem VRs.append {a b:List V} {x y:List Value} (h:VRs ι I w a x) (k:VRs ι I w b y):VRs ι I w (a++b) (x++y):=by
 refine⟨by simp[h.1,k.1],λj hj=> ?_⟩;rcases Nat.lt_or_ge j a.length with hlt|hge
 ·rw[List.getElem_append_left hlt,aL (by rw[h.1];exact hlt)];exact h.2 j hlt
 ·simp at hj;rw[List.getElem_append_right hge,aR (by rw[h.1];exact hge),h.1];exact k.2 (j-a.length) (by omega)
theorem VRs.take {a:List V} {x:List Value} (h:VRs ι I w a x) (n:Nat):VRs ι I w (a.take n) (x.take n):=by
 refine⟨by simp[h.1],λj hj=> ?_⟩;simp at hj;rw[List.getElem_take,List.getElem?_take,if_pos (by omega)];exact h.2 j (by omega)
theorem VRs.drop {a:List V} {x:List Value} (h:VRs ι I w a x) (n:Nat):VRs ι I w (a.drop n) (x.drop n):=by
 refine⟨by simp[h.1],λj hj=> ?_⟩;simp at hj;rw[List.getElem_drop,List.getElem?_drop];exact h.2 (n+j) (by omega)
theorem VRs.keep {ι':List Inf} {I':Nat->Prop} {w':World} (hg:Grows ι ι') (hk:Keeps I I' w w') {a:List V} {x:List Value} (h:VRs ι I w a x):VRs ι' I' w' a x:=
 ⟨h.1,λj hj=>let⟨u,h1,h2⟩:=h.2 j hj;⟨u,h1,h2.keep hg hk⟩⟩
theorem VRs.lits {zs:List Value} (h:zs.all bJ=true):VRs ι I w (zs.map V.lit) zs:=by
 refine⟨by simp,λj hj=> ?_⟩;simp at hj;refine⟨zs[j],gE hj,?_⟩;rw[List.getElem_map];exact .lit (ke (aT.1 h _ (gM hj)))
theorem VRs.nil :VRs ι I w [] []:=⟨rfl,λj hj=>by simp at hj⟩
theorem VRs.flat {s:Nat}:∀{es:List (List V)} {cs:List (List Value)},es.length=cs.length->(∀(k:Nat) (h1:k<es.length) (h2:k<cs.length),VRs ι I w es[k] cs[k])->VRs ι I w es.flatten cs.flatten
 |[],[],_,_=>VRs.nil
 |[],_::_,h,_=>by simp at h
 |_::_,[],h,_=>by simp at h
 | e :: es, c :: cs, h, hk => by
  simp only[List.flatten_cons];exact(hk 0 (by simp) (by simp)).append (VRs.flat (s:=s) (by simpa using h) λk h1 h2=>hk (k+1) (by simpa using h1) (by simpa using h2))
omit [Zb]in
theorem gy {α:Type} {es:List (List α)} {s:Nat} (hs:∀e∈es,e.length=s):∀{k j:Nat} (hk:k<es.length) (hj:j<es[k].length),∃h:k*s+j<es.flatten.length,es.flatten[k*s+j]=es[k][j]:=by
 induction es with
 |nil=>intro k j hk;simp at hk
 | cons e es ih =>
  intro k j hk hj;have he:e.length=s:=hs e (by simp);cases k with
  | zero =>
   simp at hj;refine⟨by simp;omega,?_⟩;simp[List.getElem_append_left hj]
  | succ k =>
   simp at hk hj;obtain⟨h1,h2⟩:=ih (λx hx=>hs x (by simp[hx])) (k:=k) (j:=j) hk hj;have e1:(k+1)*s+j=s+(k*s+j):=by rw[Nat.add_mul];omega
   refine⟨by simp only[List.flatten_cons,List.length_append,he];omega,?_⟩;simp only[List.flatten_cons];rw[List.getElem_append_right (by rw[e1,he];omega)];simp only[e1,he,Nat.add_sub_cancel_left];simpa using h2
omit [Zb]in
theorem bb {α:Type} {es:List (List α)} {s:Nat} (hs:∀e∈es,e.length=s):es.flatten.length=es.length*s:=by
 induction es with
 |nil=>simp
 |cons e es ih=>rw[List.flatten_cons,List.length_append,hs e (by simp),ih (λx hx=>hs x (by simp[hx])),List.length_cons,Nat.add_mul];omega
theorem OR.mk {inf:Inf} {s:Nat} {es:List (List V)} {cur:Array Value} {t:TypeId} (h1:w.heap[inf.block]? =some (.cells cur t (0,0))) (h2:inf.size=s) (h3:cur.size=inf.base+inf.cap*s) (h4:inf.cap<=9223372036854775807) (h5:es.length<=inf.cap)
  (h6:∀e∈es,e.length=s) {pr cs rest:List Value} (hc:cur.toList=pr++(cs++rest)) (hp:pr.length=inf.base) (hv:VRs ι I w es.flatten cs):OR ι I w inf (.row s es):=by
 refine⟨cur,t,h1,h2,h3,h4,h5,h6,λk hk j hj=> ?_⟩;obtain⟨hlt,e⟩:=gy h6 hk hj;obtain⟨u,hu,hr⟩:=hv.2 _ hlt;refine⟨u,?_,e▸hr⟩;rw[<-Array.getElem?_toList,hc,aR (by omega),aL (by rw[hv.1];omega)];have e0:inf.base+(k*s+j)-pr.length=k*s+j:=by omega
 rw[e0];exact hu
theorem OR.flat {inf:Inf} {s:Nat} {es:List (List V)} (h:OR ι I w inf (.row s es)):∃cur t pr cs rest,w.heap[inf.block]? =some (.cells cur t (0,0))/\inf.size=s/\cur.size=inf.base+inf.cap*s/\inf.cap<=9223372036854775807/\es.length<=inf.cap/\(∀e∈es,e.length=s)/\
  cur.toList=pr++(cs++rest)/\pr.length=inf.base/\VRs ι I w es.flatten cs/\cs.length=es.length*s:=by
 obtain⟨cur,t,h1,h2,h3,h4,h5,h6,h7⟩:=h;have hle:es.length*s<=inf.cap*s:=Nat.mul_le_mul_right _ h5;have hlen:cur.toList.length=inf.base+inf.cap*s:=by simp[h3]
 refine⟨cur,t,cur.toList.take inf.base,(cur.toList.drop inf.base).take (es.length*s),(cur.toList.drop inf.base).drop (es.length*s),h1,h2,h3,h4,h5,h6,by rw[List.take_append_drop,List.take_append_drop],by rw[List.length_take];omega,⟨by rw[List.length_take,List.length_drop,bb h6];omega,λj hj=> ?_⟩,by rw[List.length_take,List.length_drop];omega⟩;have hj':j<es.length*s:=by rw[bb h6]at hj;exact hj
 have hs:0<s:=by rcases Nat.eq_zero_or_pos s with h0|h0;(subst h0;simp at hj');exact h0
 have hk:j / s<es.length:=Nat.div_lt_of_lt_mul (by rw[Nat.mul_comm];exact hj');have hm:j%s<es[j / s].length:=by rw[h6 _ (gM hk)];exact Nat.mod_lt _ hs
 have e0:j / s*s+j%s=j:=by rw[Nat.mul_comm];exact Nat.div_add_mod j s
 obtain⟨u,hu,hv⟩:=h7 (j / s) hk (j%s) hm;obtain⟨_,e⟩:=gy h6 hk hm;rw[e0]at hu;refine⟨u,?_,?_⟩
 ·rw[List.getElem?_take,if_pos hj',List.getElem?_drop,Array.getElem?_toList];exact hu
 ·have e1:es.flatten[j]=es[j / s][j%s]:=by rw[<-e];congr 1;exact e0.symm
  rw[e1];exact hv
end
section
variable {E : Cx} {L : Env} {h : ag} {ι : List Inf} {I : Nat → Prop} {a : Act} {w : World}
theorem Rel.same (r:Rel E L h ι I a w) {w':World} (hh:w'.heap=w.heap) (h1:w'.os=w.os) (h2:w'.tape=w.tape) (h3:w'.output=w.output):Rel E L h ι I a w':=by
 have hk:Keeps I I w w':=⟨λ_ h=>h,λb _=>by rw[hh]⟩;exact
 { slots := fun t v hv => let ⟨c, x, y⟩ := r.slots t v hv; ⟨c, x, y.keep (Grows.refl _) hk⟩
   heap:=⟨r.heap.len,λid o inf x y=>(r.heap.obj id o inf x y).keep (Grows.refl _) hk (by rw[hh]),r.heap.off,r.heap.inj,r.heap.sub⟩
   imm:=λb hb=>by rw[hh];exact r.imm b hb
   immlo:=r.immlo
   pre:=r.pre
   os:=h1.trans r.os
   tape:=h2.trans r.tape
   output:=h3.trans r.output
   grown:=by rw[hh];exact r.grown
   frame:=λb x y=>by rw[hh];exact r.frame b x y
   mine:=r.mine
   defers:=r.defers
   size:=r.size}
theorem Rel.drew (r:Rel E L h ι I a w):Rel E L h ι I a w.drew:=r.same rfl rfl rfl rfl
omit [Zb]in
theorem eg {α:Type} {l:List α} {x y:α} {id:Nat} (h:(l++[x])[id]? =some y):(id<l.length/\l[id]? =some y)\/(id=l.length/\x=y):=by
 rcases Nat.lt_or_ge id l.length with hlt|hge
 ·rw[aL hlt]at h;exact .inl ⟨hlt,h⟩
 ·rw[aR hge]at h;rcases Nat.eq_zero_or_pos (id-l.length)with h0|h0
  ·rw[h0]at h;simp at h;exact .inr ⟨by omega,h⟩
  ·rw[List.getElem?_eq_none (by simp;omega)]at h;cases h
theorem Rel.keepsAlloc (r:Rel E L h ι I a w) (o:Obj):Keeps I I w (w.alloc o):=⟨λ_ h=>h,λb hb=>by
 have:=r.imm b hb;rw[heap_alloc_old w o this]⟩
theorem Rel.new (r:Rel E L h ι I a w) (cur:Array Value) (t:TypeId) (s cap:Nat) (es:List (List V)) (h3:cur.size=cap*s) (h4:cap<=9223372036854775807) (h5:es.length<=cap) (h6:∀e∈es,e.length=s) {cs rest:List Value} (hc:cur.toList=cs++rest)
  (hv:VRs ι I w es.flatten cs):Rel E L (h++[some (.row s es)]) (ι++[⟨w.heap.size,0,cap,s⟩]) I a (w.alloc (.cells cur t)):=by
 have hk:=r.keepsAlloc (.cells cur t);have hg:=Grows.app ι [⟨w.heap.size,0,cap,s⟩];have blk:∀(id:Nat) (o:Ob) (inf:Inf),h[id]? =some (some o)->ι[id]? =some inf->inf.block<w.heap.size:=λid o inf x y=>by
  have:=r.heap.obj id o inf x y;cases o with
  |row s es=>obtain⟨cur,t,h1,_⟩:=this;exact(Array.getElem?_eq_some_iff.1 h1).1
  |map kvs=>obtain⟨en,cl,h1,_⟩:=this;exact(Array.getElem?_eq_some_iff.1 h1).1
 have hnew:∀(id:Nat) (o:Ob) (inf:Inf),(h++[some (.row s es)])[id]? =some (some o)->(ι++[⟨w.heap.size,0,cap,s⟩])[id]? =some inf->
   (h[id]? =some (some o)/\ι[id]? =some inf/\id<h.length)\/(id=h.length/\o= .row s es/\inf=⟨w.heap.size,0,cap,s⟩):=λid o inf x y=>by
  rcases eg x with⟨lt,x'⟩|⟨rfl,x'⟩
  ·rcases eg      y with⟨_,y'⟩|⟨e,_⟩
   ·exact .inl ⟨x',y',lt⟩
   ·have:=r.heap.len;omega
  ·rcases eg      y with⟨lt,_⟩|⟨_,y'⟩
   ·have:=r.heap.len;omega
   ·exact .inr ⟨rfl,by cases x';rfl,y'.symm⟩
 exact
 { slots := fun t v hv => let ⟨c, x, y⟩ := r.slots t v hv; ⟨c, x, y.keep hg hk⟩
   heap := by
     refine⟨by simp[r.heap.len],λid o inf x y=> ?_,λid o inf x y=> ?_,λid id' o o' inf inf' x x' y y' e=> ?_,r.heap.sub⟩
     · rcases hnew id o inf x y with⟨x,y,_⟩|⟨rfl,rfl,rfl⟩
       · exact(r.heap.obj id o inf x y).keep hg hk (heap_alloc_old w _ (blk id o inf x y))
       · exact OR.mk (pr:=[]) (heap_alloc_new w _) rfl (by simpa using h3) h4 h5 h6 hc rfl (hv.keep hg hk)
     · rcases hnew id o inf x y with⟨x,y,_⟩|⟨rfl,rfl,rfl⟩
       · exact r.heap.off id o inf x y
       · intro hb
         have hb:I w.heap.size:=hb;have:=r.imm _ hb;omega
     · rcases hnew id o inf x y with⟨x,y,l1⟩|⟨rfl,rfl,rfl⟩
       · rcases hnew id' o' inf' x' y' with⟨x',y',_⟩|⟨rfl,rfl,rfl⟩
         · exact r.heap.inj id id' o o' inf inf' x x' y y' e
         · have e:inf.block=w.heap.size:=e
           have:=blk id o inf x y;omega
       · rcases hnew id' o' inf' x' y' with⟨x',y',_⟩|⟨rfl,rfl,rfl⟩
         · have e:w.heap.size=inf'.block:=e
           have:=blk id' o' inf' x' y';omega
         · rfl
   imm:=λb hb=>by have:=r.imm b hb;simp;omega
   immlo:=r.immlo
   pre:=r.pre.trans hg
   os:=r.os
   tape:=r.tape
   output:=r.output
   grown:=by have:=r.grown;simp;omega
   frame:=λb x y=>by rw[heap_alloc_old w _ (by have:=r.grown;omega)];exact r.frame b x y
   mine:=λid o inf x y=>by
     rcases hnew id o inf x y with⟨x,y,_⟩|⟨rfl,rfl,rfl⟩
     · exact r.mine id o inf x y
     · exact .inr r.grown
   defers:=r.defers
   size:=r.size}
omit [Zb]in
theorem aW {l:ag} {id i:Nat} {o:Option Ob} {x:Ob} (h:(l.set id o)[i]? =some (some x)):(i=id/\o=some x/\id<l.length)\/(i≠id/\l[i]? =some (some x)):=by
 rw[List.getElem?_set]at h;split at h
 ·rename_i e;split at h
  ·rename_i hlt;exact .inl ⟨e.symm,by simpa using h,hlt⟩
  ·cases h
 ·rename_i e;exact .inr ⟨λe'=>e e'.symm,h⟩
theorem Rel.set (r:Rel E L h ι I a w) {id s s':Nat} {es es':List (List V)} {inf:Inf} {cur:Array Value} {t:TypeId} {w':World} (ho:h[id]? =some (some (.row s es))) (hι:ι[id]? =some inf) (hw:w'.heap[inf.block]? =some (.cells cur t (0,0)))
  (hsame:∀b,b≠inf.block->w'.heap[b]? =w.heap[b]?) (hos:w'.os=w.os) (htape:w'.tape=w.tape) (hout:w'.output=w.output) (hsz:w'.heap.size=w.heap.size) (h2:inf.size=s') (h3:cur.size=inf.base+inf.cap*s') (h4:inf.cap<=9223372036854775807) (h5:es'.length<=inf.cap) (h6:∀e∈es',e.length=s')
  {pr cs rest:List Value} (hc:cur.toList=pr++(cs++rest)) (hp:pr.length=inf.base) (hv:VRs ι I w es'.flatten cs):Rel E L (h.set id (some (.row s' es'))) ι I a w':=by
 have hoff:=r.heap.off id _ inf ho hι;have hk:Keeps I I w w':=⟨λ_ h=>h,λb hb=>by rw[hsame b (λe=>hoff (e▸hb))]⟩;exact
 { slots := fun t v hv => let ⟨c, x, y⟩ := r.slots t v hv; ⟨c, x, y.keep (Grows.refl _) hk⟩
   heap := by
     refine⟨by simp[r.heap.len],λi o f x y=> ?_,λi o f x y=> ?_,λi i' o o' f f' x x' y y' e=> ?_,r.heap.sub⟩
     · rcases aW      x with⟨rfl,x,_⟩|⟨hne,x⟩
       · cases x
         have:f=inf:=by rw[hι]at y;cases y;rfl
         subst this;exact OR.mk hw h2 h3 h4 h5 h6 hc hp (hv.keep (Grows.refl _) hk)
       · exact(r.heap.obj i o f x y).keep (Grows.refl _) hk (hsame _ λe=>hne (r.heap.inj i id o _ f inf x ho y hι e))
     · rcases aW      x with⟨rfl,x,_⟩|⟨hne,x⟩
       · exact r.heap.off i _ f ho y
       · exact r.heap.off i o f x y
     · rcases aW      x with⟨e1,x1,_⟩|⟨hne,x1⟩
       · rcases aW      x' with⟨e2,x2,_⟩|⟨hne',x2⟩
         · rw[e1,e2]
         · subst e1;exact r.heap.inj _ _ _ _ f f' ho x2 y y' e
       · rcases aW      x' with⟨e2,x2,_⟩|⟨hne',x2⟩
         · subst e2;exact r.heap.inj _ _ _ _ f f' x1 ho y y' e
         · exact r.heap.inj _ _ _ _ f f' x1 x2 y y' e
   imm:=λb hb=>by rw[hsz];exact r.imm b hb
   immlo:=r.immlo
   pre:=r.pre
   os:=hos.trans r.os
   tape:=htape.trans r.tape
   output:=hout.trans r.output
   grown:=by rw[hsz];exact r.grown
   frame:=λb x y=>by
     rw[hsame b (λe=> ?_)]
     · exact r.frame b x y
     · rcases r.mine id _ inf ho hι with hp|hp
       · exact y (e▸hp)
       · omega
   mine:=λi o f x y=>by
     rcases aW x with⟨rfl,x,_⟩|⟨hne,x⟩
     · exact r.mine i _ f ho y
     · exact r.mine i o f x y
   defers:=r.defers
   size:=r.size}
theorem Rel.kill (r:Rel E L h ι I a w) (id:Nat):Rel E L (h.set id none) ι I a w:=
 have sub:∀{i:Nat} {o:Ob},(h.set id none)[i]? =some (some o)->h[i]? =some (some o):=λx=>by
  rcases aW x with⟨_,x,_⟩|⟨_,x⟩
  ·cases x
  ·exact x
 { r with
   heap:=⟨by simp[r.heap.len],λi o f x y=>r.heap.obj i o f (sub x) y,λi o f x y=>r.heap.off i o f (sub x) y,λi i' o o' f f' x x' y y' e=>r.heap.inj i i' o o' f f' (sub x) (sub x') y y' e,r.heap.sub⟩
   mine:=λi o f x y=>r.mine i o f (sub x) y}
theorem Rel.rename (r:Rel E L h ι I a w) {id:Nat} {o o':Ob} {inf inf':Inf} (ho:h[id]? =some (some o)) (hι:ι[id]? =some inf) (hb:inf'.block=inf.block) (hor:OR ι I w inf' o'):Rel E L (h.set id none++[some o']) (ι++[inf']) I a w:=by
 have hk:=Keeps.refl I w;have hg:=Grows.app ι [inf'];have hl:=(gI.1 ho).1
 have hnew:∀(i:Nat) (x:Ob) (f:Inf),(h.set id none++[some o'])[i]? =some (some x)->(ι++[inf'])[i]? =some f->
   (h[i]? =some (some x)/\ι[i]? =some f/\i<h.length/\i≠id)\/(i=h.length/\x=o'/\f=inf'):=λi x f p q=>by
  rcases eg p with⟨lt,p'⟩|⟨rfl,p'⟩
  ·simp at lt;rcases eg      q with⟨_,q'⟩|⟨e,_⟩
   ·rcases aW      p' with⟨_,z,_⟩|⟨hne,z⟩
    ·cases z
    ·exact .inl ⟨z,q',lt,hne⟩
   ·have:=r.heap.len;omega
  ·simp at q;rcases eg      q with⟨lt,_⟩|⟨_,q'⟩
   ·have:=r.heap.len;omega
   ·exact .inr ⟨by simp,by cases p';rfl,q'.symm⟩
 exact
 { r with
   slots:=λt v hv=>let⟨c,x,y⟩:=r.slots t v hv;⟨c,x,y.keep hg hk⟩
   heap := by
     refine⟨by simp[r.heap.len],λi x f p q=> ?_,λi x f p q=> ?_,λi i' x x' f f' p p' q q' e=> ?_,r.heap.sub⟩
     · rcases hnew i x f p q with⟨p,q,_⟩|⟨rfl,rfl,rfl⟩
       · exact(r.heap.obj i x f p q).keep hg hk rfl
       · exact hor.keep hg hk rfl
     · rcases hnew i x f p q with⟨p,q,_⟩|⟨rfl,rfl,rfl⟩
       · exact r.heap.off i x f p q
       · rw[hb];exact r.heap.off id _ _ ho hι
     · rcases hnew i x f p q with⟨p1,q1,_,ne⟩|⟨e1,e2,e3⟩
       · rcases hnew i' x' f' p' q' with⟨p2,q2,_,ne'⟩|⟨e1,e2,e3⟩
         · exact r.heap.inj i i' x x' f f' p1 p2 q1 q2 e
         · exact absurd (r.heap.inj i id x _ f _ p1 ho q1 hι (by rw[e,e3,hb])) ne
       · rcases hnew i' x' f' p' q' with⟨p2,q2,_,ne'⟩|⟨e4,e5,e6⟩
         · exact absurd (r.heap.inj i' id x' _ f' _ p2 ho q2 hι (by rw[<-e,e3,hb])) ne'
         · rw[e1,e4]
   pre:=r.pre.trans hg
   mine:=λi x f p q=>by
     rcases hnew i x f p q with⟨p,q,_⟩|⟨rfl,rfl,rfl⟩
     · exact r.mine i x f p q
     · rw[hb];exact r.mine id _ _ ho hι}
end
end
section
variable [Zb]
def bindD :Option Nat->AV->Env->Env
 |some d,v,L=>(d,v)::L
 |none,_,L=>L
def sel (L:Env):List Nat->Env
 |[]=>[]
 | t :: ts => match L.lookup t with
  |some v=>(t,v)::sel L ts
  |none=>sel L ts
def cnt (ch:List Nat) (l:List Nat):Nat:=l.countP ch.contains
omit [Zb]in
theorem jp {ch l:List Nat} {i:Nat} (h:ch.contains i=false):cnt ch (i::l)=cnt ch l:=by unfold cnt;rw[List.countP_cons,h];simp
omit [Zb]in
theorem oX {ch l:List Nat} {i:Nat} (h:ch.contains i=true):cnt ch (i::l)=cnt ch l+1:=by unfold cnt;rw[List.countP_cons,h];simp
omit [Zb]in
theorem dJ (ch a b:List Nat):cnt ch (a++b)=cnt ch a+cnt ch b:=by simp[cnt]
def cH (o:Oper):List Nat:=o.after.toList.filterMap λe=>if Region.binds .any e then some e.on else none
def ES :List Oper->List Nat->List Nat
 |[],acc=>acc
 |o::rest,acc=>ES rest (acc++[(cH o).foldl (λm j=>m|||2^j|||acc.getD j 0) 0])
def bM (ops:Array Oper) (j i:Nat):Bool:=((ES ops.toList []).getD i 0).testBit j
def jg (ops:Array Oper) (i j:Nat):Bool:=
 match ops[i]?,ops[j]? with
 |some x,some y=> !x.apart ops y
 |_,_=>true
def bN (f:Nat->Nat->Bool):List Nat->Bool
 |[]=>true
 |i::r=>r.all (f i)&&bN f r
def lC (ops:Array Oper) (π ch rd:List Nat):Bool:=
 decide (π.length<=ops.size)&&(List.range ops.size).all π.contains&&π.all (λi=>decide (i<ops.size)&&(((ops[i]?).map cH).getD []).all (λj=>decide (j<ops.size)&&j !=i))&&
 bN (λi j=>i !=j&&(!jg ops i j||bM ops i j)&&(!(ch.contains i&&ch.contains j)||bM ops i j)&&(!(rd.contains i&&ch.contains j)||bM ops i j)&& !(((ops[i]?).map cH).getD []).contains j) π
omit [Zb]in
theorem ji {f:Nat->Nat->Bool} {pre post:List Nat} {i:Nat} (h:bN f (pre++i::post)=true):(∀k∈pre,f k i=true)/\(∀j∈post,f i j=true):=by
 induction pre with
 | nil =>
  simp only[List.nil_append,bN,bA]at h;exact⟨by simp,λj hj=>aT.1 h.1 j hj⟩
 | cons k pre ih =>
  simp only[List.cons_append,bN,bA]at h;obtain⟨h1,h2⟩:=ih h.2;refine⟨λx hx=> ?_,h2⟩;rcases List.mem_cons.1 hx with e|e
  ·subst e;exact aT.1 h.1 i (by simp)
  ·exact h1 x e
omit [Zb]in
theorem mU (acc:List Nat) (j:Nat):∀(l:List Nat) (m:Nat),(l.foldl (λm k=>m|||2^k|||acc.getD k 0) m).testBit j=true->m.testBit j=true\/∃k∈l,k=j\/(acc.getD k 0).testBit j=true
 |[],m,h=>.inl h
 | k :: l, m, h => by
  rcases mU acc j l _ h with h|⟨x,hx,hx'⟩
  ·simp only[Nat.testBit_or,Bool.or_eq_true]at h;rcases h with (h|h)|h
   ·exact .inl h
   ·rw[Nat.testBit_two_pow]at h;exact .inr ⟨k,by simp,.inl (by simpa using h)⟩
   ·exact .inr ⟨k,by simp,.inr h⟩
  ·exact .inr ⟨x,by simp[hx],hx'⟩
omit [Zb]in
theorem oL {X:Nat->Prop}:∀(l:List Oper) (done:List Oper) (acc:List Nat),acc.length=done.length->
  (∀i o,done[i]? =some o->(∀j∈cH o,X j)->∀j,(acc.getD i 0).testBit j=true->X j)->(∀i o,(done++l)[i]? =some o->X i->∀j∈cH o,X j)->
  ∀i o,(done++l)[i]? =some o->(∀j∈cH o,X j)->∀j,((ES l acc).getD i 0).testBit j=true->X j
 |[],done,acc,_,h,_,i,o,ho,hd,j,hj=>h i o (by simpa using ho) hd j hj
 | x :: l, done, acc, hl, h, hX, i, o, ho, hd, j, hj => by
  refine oL l (done++[x]) (acc++[(cH x).foldl (λm j=>m|||2^j|||acc.getD j 0) 0]) (by simp[hl]) ?_ (by simpa using hX) i o (by simpa using ho) hd j hj;intro i' o' ho' hd' j' hj';rcases Nat.lt_or_ge i' done.length with hlt|hge
  ·rw[aL hlt]at ho';rw[List.getD_eq_getElem?_getD,aL (by omega),<-List.getD_eq_getElem?_getD]at hj';exact h i' o' ho' hd' j' hj'
  ·rw [List.getElem?_append_right hge] at ho';have e:i'=done.length:=by
    rcases Nat.eq_zero_or_pos (i'-done.length)with h0|h0
    ·omega
    ·rw[List.getElem?_eq_none (by simp;omega)]at ho';cases ho'
   subst e;simp at ho';subst ho';have e2:(acc++[(cH x).foldl (λm j=>m|||2^j|||acc.getD j 0) 0]).getD done.length 0=(cH x).foldl (λm j=>m|||2^j|||acc.getD j 0) 0:=by
    rw[<-hl];simp[List.getD]
   rw[e2]at hj';rcases mU acc j' _ _ hj' with h0|⟨k,hk,hk'⟩
   ·simp at h0
   ·have hXk:=hd' k hk;rcases hk' with rfl|hk'
    ·exact hXk
    ·-- k is an earlier operation
     have hkl:k<acc.length:=by
      rcases Nat.lt_or_ge k acc.length with h1|h1
      ·exact h1
      ·rw[List.getD_eq_getElem?_getD,List.getElem?_eq_none h1]at hk';simp at hk'
     have hkd:k<done.length:=by omega
     have ok:=gE hkd;exact h k _ ok (hX k _ (by rw[aL hkd];exact ok) hXk) j' hk'
omit [Zb]in
theorem fA {ops:Array Oper} {X:Nat->Prop} (hX:∀(i:Nat) (o:Oper),ops[i]? =some o->X i->∀j∈cH o,X j) {i j:Nat} {o:Oper} (ho:ops[i]? =some o) (hd:∀j∈cH o,X j) (h:bM ops j i=true):X j:=
 oL ops.toList [] [] rfl (λi o h=>by simp at h) (λi o h=>hX i o (by simpa using h)) i o (by simpa using ho) hd j h
def aO (ops:Array Oper) (t:Nat) (i:Nat):Bool:=bf ops i==some t
omit [Zb]in
theorem ci {ops:Array Oper} {i j:Nat} {x y:Oper} (hx:ops[i]? =some x) (hy:ops[j]? =some y) (h:jg ops i j=false):(∀d,x.dst=some d->d∉y.looksAt ops/\y.dst≠some d)/\(∀d,y.dst=some d->d∉x.looksAt ops):=by
 simp only[jg,hx,hy,Bool.not_eq_false']at h;obtain⟨h1,h2,h3⟩:=Oper.apart_spec h;exact⟨λd hd=>⟨h1 d hd,h2 d hd⟩,h3⟩
omit [Zb]in
theorem cN {α:Type} {p q:α->Bool} {l:List α} (h:∀x∈l,p x=true->q x=false):(l.filter p).filter q=[]:=by
 rw[List.filter_eq_nil_iff];intro x hx;obtain⟨h1,h2⟩:=List.mem_filter.1 hx;simp[h x h1 h2]
omit [Zb]in
theorem fW {ch l:List Nat} {p q:Nat->Bool} (h:∀x∈l,p x=true->q x=true):cnt ch (l.filter p)<=cnt ch (l.filter q):=by
 unfold cnt;rw[List.countP_filter,List.countP_filter];exact List.countP_mono_left λx hx hh=>by
  simp only[bA]at hh ⊢;exact⟨hh.1,h x hx hh.2⟩
omit [Zb]in
theorem gh {ch l:List Nat} {p:Nat->Bool} (h:∀x∈l,p x=true->ch.contains x=false):cnt ch (l.filter p)=0:=by
 unfold cnt;rw[List.countP_eq_zero];intro x hx;obtain⟨h1,h2⟩:=List.mem_filter.1 hx;simp only[h x h1 h2]
 decide
omit [Zb]in
theorem mt {ch l:List Nat} {p:Nat->Bool} (h:∀x∈l,ch.contains x=true->p x=true):cnt ch (l.filter p)=cnt ch l:=by
 unfold cnt;rw[List.countP_filter];apply List.countP_congr;intro x hx;constructor
 ·intro hh;simp only[bA]at hh;exact hh.1
 ·intro hh;simp only[bA];exact⟨hh,h x hx hh⟩
structure Plan (ops:Array Oper) (π ch rd:List Nat):Prop where
 len:π.length<=ops.size
 all:∀i,i<ops.size->i∈π
 lt:∀i∈π,i<ops.size
 edge:∀i∈π,∀(o:Oper),ops[i]? =some o->∀j∈cH o,j<ops.size/\j≠i
 nd:bN (λi j=>i !=j) π=true
 pair:∀pre i post,π=pre++i::post->∀j∈post,i≠j/\(jg ops i j=true->bM ops i j=true)/\(ch.contains i=true->ch.contains j=true->bM ops i j=true)/\(rd.contains i=true->ch.contains j=true->bM ops i j=true)/\∀(o:Oper),ops[i]? =some o->j∉cH o
omit [Zb]in
theorem lQ {ops:Array Oper} {π ch rd:List Nat} (hp:lC ops π ch rd=true):Plan ops π ch rd:=by
 simp only[lC,bA]at hp;obtain⟨⟨⟨hlen,hall⟩,hlt⟩,hpairs⟩:=hp;refine⟨by simpa using hlen,λi hi=> ?_,λi hi=> ?_,λi hi o ho j hj=> ?_,?_,λpre i post e j hj=> ?_⟩
 ·have:=aT.1 hall i (by simpa using hi);simpa using this
 ·have:=aT.1 hlt i hi;simp only[bA,decide_eq_true_eq]at this;exact this.1
 ·have:=aT.1 hlt i hi;simp only[bA,decide_eq_true_eq,ho,Option.map_some,Option.getD_some]at this;have:=aT.1 this.2 j hj;simp only[bA,decide_eq_true_eq,bne_iff_ne]at this;exact this
 ·clear hall hlt hlen
  induction π with
  |nil=>rfl
  | cons x l ih =>
   simp only[bN,bA]at hpairs ⊢;refine⟨aT.2 λj hj=> ?_,ih hpairs.2⟩;have:=aT.1 hpairs.1 j hj;simp only[bA]at this;exact this.1.1.1.1
 ·rw[e]at hpairs;have:=(ji hpairs).2 j hj;simp only[bA,Bool.or_eq_true,Bool.not_eq_true',bne_iff_ne,ne_eq]at this;obtain⟨⟨⟨⟨h1,h2⟩,h3⟩,h4⟩,h5⟩:=this;refine⟨h1,λhc=>h2.resolve_left (by rw[hc];decide),λa b=>h3.resolve_left (by rw[a,b];decide),λa b=>h4.resolve_left (by rw[a,b];decide),λo ho hm=> ?_⟩;rw[ho]at h5;simp at h5;exact h5 hm
section
variable {P : Program} {E : Cx} {Q : Exit → Env → ag → Prop} {K : Env → ag → Prop} {L : Env} {h : ag} {hs : List ag} {ops : Array Oper} {π σ ch rd : List Nat} {i : Nat} {o : Oper} {v : AV}
end
end
end Go.Proofs.YtfdkldmkbibknaaGreat.Abs
namespace Go.Proofs.YtfdkldmkbibknaaGreat.Draw
open Go.RowKit
open Abs (bf cnt jp oX dJ cH bM jg bN lC fA aO ci cN fW gh mt Plan lQ)
variable {β γ : Type}
def bindD :Option Nat->β->List (Nat×β)->List (Nat×β)
 |some d,v,L=>(d,v)::L
 |none,_,L=>L
def sel (L:List (Nat×β)):List Nat->List (Nat×β)
 |[]=>[]
 | t :: ts => match L.lookup t with
  |some v=>(t,v)::sel L ts
  |none=>sel L ts
def Sub (L L':List (Nat×β)):Prop:=∀t v,L.lookup t=some v->L'.lookup t=some v
theorem sub_cons {t:Nat} {v:β} {L L':List (Nat×β)} (h1:L.lookup t=some v) (h2:Sub L' L):Sub ((t,v)::L') L:=by
 intro u x hx;rw[List.lookup_cons]at hx;by_cases e:u=t
 ·subst e;simp at hx;subst hx;exact h1
 ·have:(u==t)=false:=by simpa using e
  rw[this]at hx;exact h2 u x hx
theorem sel_sub {L L':List (Nat×β)} {ts:List Nat} (h:∀t∈ts,L'.lookup t=L.lookup t):Sub (sel L ts) L':=by
 induction ts with
 |nil=>intro t v h;simp[sel]at h
 | cons t ts ih =>
  have ih':=ih λu hu=>h u (by simp[hu]);simp only[sel];split
  ·rename_i v hv;exact sub_cons ((h t (by simp)).trans hv) ih'
  ·exact ih'
structure Sys (P:Program) (ops:Array Oper) (β γ:Type) where
 Rel:List (Nat×β)->γ->Act->World->Prop
 OT:Oper->List (Nat×β)->β->γ->γ->Prop
 weaken:∀{L L':List (Nat×β)} {h:γ} {a:Act} {w:World},Rel L h a w->Sub L' L->Rel L' h a w
 same:∀{L:List (Nat×β)} {h:γ} {a:Act} {w w':World},Rel L h a w->w'.heap=w.heap->w'.os=w.os->w'.tape=w.tape->w'.output=w.output->Rel L h a w'
 sound:∀{o:Oper} {L Lg:List (Nat×β)} {v:β} {h h':γ} {i:Nat} {a:Act} {w:World} {Q:Exit->Act->World->Prop} {K:Act->World->Prop},
  OT o L v h h'->Sub L Lg->ops[i]? =some o->Rel Lg h a w->(∀a' w',Rel (bindD o.dst v Lg) h' a' w'->K a' w')->wpOp P ops Q i K a w
section
variable {P : Program} {ops : Array Oper}
def ax (ops:Array Oper) (val:Nat->β):List Nat->List (Nat×β)->List (Nat×β)
 |[],L=>L
 |i::r,L=>ax ops val r (bindD (bf ops i) (val i) L)
inductive DR {P:Program} {ops:Array Oper} (S:Sys P ops β γ) (ch rd π:List Nat):List Nat->List (Nat×β)->List γ->List (Nat×β)->List γ->Prop
 |nil (L:List (Nat×β)) (hs:List γ):DR S ch rd π [] L hs L hs
 |pure {i:Nat} {rest:List Nat} {L Lf:List (Nat×β)} {hs hf:List γ} {o:Oper} {v:β} (ho:ops[i]? =some o) (hc:ch.contains i=false) (ht:∀h,S.OT o (sel L (o.looksAt ops)) v h h) (k:DR S ch rd π rest (bindD o.dst v L) hs Lf hf):DR S ch rd π (i::rest) L hs Lf hf
 | read {i : Nat} {rest : List Nat} {L Lf : List (Nat × β)} {hs hf : List γ} {o : Oper} {v : β} (ho : ops[i]? = some o) (hc : ch.contains i = false) (hr : rd.contains i = true) (ht : ∀ h ∈ hs.take (hs.length - cnt ch (π.filter fun j => bM    ops j i)), S.OT o (sel L (o.looksAt ops)) v h h)
   (k:DR S ch rd π rest (bindD o.dst v L) hs Lf hf):DR S ch rd π (i::rest) L hs Lf hf
 | chain {i : Nat} {rest : List Nat} {L Lf : List (Nat × β)} {h h' : γ} {hs hf : List γ} {o : Oper} {v : β} (ho : ops[i]? = some o) (hc : ch.contains i = true) (ht : S.OT o (sel L (o.looksAt ops)) v h h') (k : DR S ch rd π rest (bindD o.dst v L) (h' :: h :: hs) Lf hf) :
   DR S ch rd π (i::rest) L (h::hs) Lf hf
def Gh (S:Sys P ops β γ) (ch rd π:List Nat) (hr:List γ) (c:Nat) (L:List (Nat×β)) (v:β) (i:Nat):Prop:=
 ∃ o, ops[i]? = some o ∧
  ((ch.contains i = true ∧ ∃ h h', hr[c]? = some h ∧ hr[c + 1]? = some h' ∧ S.OT o (sel L (o.looksAt ops)) v h h') ∨
   (ch.contains i=false/\rd.contains i=true/\∀c' h,cnt ch (π.filter λj=>bM ops j i)<=c'->c'<=c->hr[c']? =some h->S.OT o (sel L (o.looksAt ops)) v h h)\/
   (ch.contains i=false/\∀h,S.OT o (sel L (o.looksAt ops)) v h h))
theorem bU {ops:Array Oper} {val val':Nat->β}:∀{l:List Nat} {L:List (Nat×β)},(∀i∈l,val i=val' i)->ax ops val l L=ax ops val' l L
 |[],_,_=>rfl
 | i :: l, L, h => by
  simp only[ax];rw[h i (by simp)];exact bU λj hj=>h j (by simp[hj])
theorem DR.spec [Inhabited β] {S:Sys P ops β γ} {ch rd π:List Nat} {σ:List Nat} {L Lf:List (Nat×β)} {hs hf:List γ} (d:DR S ch rd π σ L hs Lf hf) (hnd:bN (λi j=>i !=j) σ=true) (hne:hs≠[]):
  ∃val:Nat->β,Lf=ax ops val σ L/\(∃nw,hf=nw++hs/\nw.length=cnt ch σ)/\∀pre i post,σ=pre++i::post->Gh S ch rd π hf.reverse (hs.length-1+cnt ch pre) (ax ops val pre L) (val i) i:=by
 induction d with
 |nil L hs=>exact⟨λ_=>default,rfl,⟨[],rfl,rfl⟩,λpre i post e=>by simp at e⟩
 | @pure i rest L Lf hs hf o v ho hc ht k ih =>
  simp only[bN,bA]at hnd;obtain⟨val,h1,⟨nw,h2,h2'⟩,h3⟩:=ih hnd.2 hne;have hni:∀j∈rest,j≠i:=λj hj e=>by have:=aT.1 hnd.1 j hj;subst e;simp at this
  refine⟨λj=>if j=i then v else val j,?_,⟨nw,h2,by rw[h2',jp hc]⟩,λpre j post e=> ?_⟩
  ·simp only[ax    ,if_true];rw[h1];have:bf    ops i=o.dst:=by simp[bf   ,ho]
   rw[this];exact bU λj hj=>by rw[if_neg (hni j hj)]
  ·cases pre with
   | nil =>
    simp at e;obtain⟨rfl,_⟩:=e;exact⟨o,ho,.inr (.inr ⟨hc,by simpa [ax]using ht⟩)⟩
   | cons x pre =>
    simp at e;obtain⟨rfl,e⟩:=e;have hmem:j∈rest:=by rw[e];simp
    have:=h3 pre j post e;have e1:cnt ch (i::pre)=cnt ch pre:=jp hc;have e2:ax ops (λj=>if j=i then v else val j) (i::pre) L=ax ops val pre (bindD o.dst v L):=by
     simp only[ax,if_true];have:bf ops i=o.dst:=by simp[bf,ho]
     rw[this];exact bU λj hj=>by rw[if_neg (hni j (by rw[e];simp[hj]))]
    have e3:(λj=>if j=i then v else val j) j=val j:=if_neg (hni j hmem);rw[e1,e2,e3];exact this
 | @read i rest L Lf hs hf o v ho hc hrd ht k ih =>
  simp only[bN,bA]at hnd;obtain⟨val,h1,⟨nw,h2,h2'⟩,h3⟩:=ih hnd.2 hne;have hni:∀j∈rest,j≠i:=λj hj e=>by have:=aT.1 hnd.1 j hj;subst e;simp at this
  refine⟨λj=>if j=i then v else val j,?_,⟨nw,h2,by rw[h2',jp hc]⟩,λpre j post e=> ?_⟩
  ·simp only[ax    ,if_true];rw[h1];have:bf    ops i=o.dst:=by simp[bf   ,ho]
   rw[this];exact bU λj hj=>by rw[if_neg (hni j hj)]
  ·cases pre with
   | nil =>
    simp at e;obtain⟨rfl,_⟩:=e;refine⟨o,ho,.inr (.inl ⟨hc,hrd,λc' h hlo hhi hget=> ?_⟩)⟩;simp only[ax,if_true];refine ht h ?_;simp[cnt]at hhi;rw[h2,List.reverse_append]at hget;have hp:0<hs.length:=List.length_pos_iff.2 hne;rw[aL (by simp;omega),List.getElem?_reverse (by omega)]at hget;rw[List.mem_take_iff_getElem];obtain⟨hlt,e⟩:=gI.1 hget;exact⟨hs.length-1-c',by omega,e⟩
   | cons x pre =>
    simp at e;obtain⟨rfl,e⟩:=e;have hmem:j∈rest:=by rw[e];simp
    have:=h3 pre j post e;have e1:cnt ch (i::pre)=cnt ch pre:=jp hc;have e2:ax ops (λj=>if j=i then v else val j) (i::pre) L=ax ops val pre (bindD o.dst v L):=by
     simp only[ax,if_true];have:bf ops i=o.dst:=by simp[bf,ho]
     rw[this];exact bU λj hj=>by rw[if_neg (hni j (by rw[e];simp[hj]))]
    have e3:(λj=>if j=i then v else val j) j=val j:=if_neg (hni j hmem);rw[e1,e2,e3];exact this
 | @chain i rest L Lf h h' hs hf o v ho hc ht k ih =>
  simp only[bN,bA]at hnd;obtain⟨val,h1,⟨nw,h2,h2'⟩,h3⟩:=ih hnd.2 (by simp);have hni:∀j∈rest,j≠i:=λj hj e=>by have:=aT.1 hnd.1 j hj;subst e;simp at this
  refine⟨λj=>if j=i then v else val j,?_,⟨nw++[h'],by rw[h2];simp,by rw[oX hc];simp[h2']⟩,λpre j post e=> ?_⟩
  ·simp only[ax    ,if_true];rw[h1];have:bf    ops i=o.dst:=by simp[bf   ,ho]
   rw[this];exact bU λj hj=>by rw[if_neg (hni j hj)]
  ·cases pre with
   | nil =>
    simp at e;obtain⟨rfl,_⟩:=e;refine⟨o,ho,.inl ⟨hc,h,h',?_,?_,by simpa [ax]using ht⟩⟩
    ·rw[h2];simp[cnt]
    ·rw[h2];simp[cnt]
   | cons x pre =>
    simp at e;obtain⟨rfl,e⟩:=e;have hmem:j∈rest:=by rw[e];simp
    have:=h3 pre j post e;have e1:(h::hs).length-1+cnt ch (i::pre)=(h'::h::hs).length-1+cnt ch pre:=by rw[oX hc];simp;omega
    have e2:ax ops (λj=>if j=i then v else val j) (i::pre) L=ax ops val pre (bindD o.dst v L):=by
     simp only[ax,if_true];have:bf ops i=o.dst:=by simp[bf,ho]
     rw[this];exact bU λj hj=>by rw[if_neg (hni j (by rw[e];simp[hj]))]
    have e3:(λj=>if j=i then v else val j) j=val j:=if_neg (hni j hmem);rw[e1,e2,e3];exact this
theorem bK (ops:Array Oper) (val:Nat->β) (t:Nat):∀(l:List Nat) (L L':List (Nat×β)),L.lookup t=L'.lookup t->(ax ops val l L).lookup t=(ax ops val (l.filter (aO ops t)) L').lookup t
 |[],L,L',h=>h
 | i :: l, L, L', h => by
  simp only[ax,List.filter_cons];cases hg:bf ops i with
  | none =>
   have:aO ops t i=false:=by simp[aO,hg]
   rw[this];exact bK ops val t l _ L' h
  | some d =>
   by_cases e:d=t
   ·subst e;have:aO     ops d i=true:=by simp[aO    ,hg]
    rw[this];simp only[if_true,ax,hg];exact bK ops val d l _ _ (by simp[bindD])
   ·have:aO     ops t i=false:=by simp[aO    ,hg,e]
    rw[this];refine bK ops val t l _ L' ?_;simp only[bindD,List.lookup_cons];have e':(t==d)=false:=by simpa using λx=>e x.symm
    rw[e'];exact h
theorem fC {ops:Array Oper} {val:Nat->β} {t:Nat} {l l':List Nat} {L:List (Nat×β)} (h:l.filter (aO ops t)=l'.filter (aO ops t)):(ax ops val l L).lookup t=(ax ops val l' L).lookup t:=by
 rw[bK ops val t l L L rfl,bK ops val t l' L L rfl,h]
theorem jy (ops:Array Oper) (val:Nat->β):∀(a b:List Nat) (L:List (Nat×β)),ax ops val (a++b) L=ax ops val b (ax ops val a L)
 |[],_,_=>rfl
 |_::a,b,_=>jy ops val a b _
theorem draw [Inhabited β] {S : Sys P ops β γ} {Q : Exit → Act → World → Prop} {L Lf : List (Nat × β)} {h hl : γ} {hs : List γ} {id : Nat} (hm : P.follows .mixedOrders = true) (π ch rd : List Nat) (hp : lC     ops π ch rd = true)
  (d:DR S ch rd π π L [h] Lf (hl::hs)) (hq:∀a w,S.Rel Lf hl a w->Q .normal a w) {a:Act} {w:World} (r:S.Rel L h a w):(Code.region id ops true).wp P Q a w:=by
 have pl:=lQ hp;obtain⟨val,hLf,⟨nw,hnw,hnwl⟩,hkn⟩:=d.spec pl.nd (by simp);have hrev:(hl::hs).length=cnt ch π+1:=by rw[hnw];simp[hnwl]
 have hlast:(hl::hs).reverse[cnt ch π]? =some hl:=by
  rw[List.getElem?_reverse (by omega)];have:(hl::hs).length-1-cnt ch π=0:=by omega
  rw[this];rfl
 have hfirst:(hl::hs).reverse[0]? =some h:=by rw[hnw];simp
 have hHlen:(hl::hs).reverse.length=cnt ch π+1:=by rw[List.length_reverse];exact hrev
 obtain⟨H,hH⟩:∃H,H=(hl::hs).reverse:=⟨_,rfl⟩;rw[<-hH]at hkn hlast hfirst hHlen;simp only[List.length_singleton,Nat.sub_self,Nat.zero_add]at hkn;refine wp_region_any hm ?_;have getF:∀(listed:Array Bool) (i:Nat),listed.size=ops.size->i<ops.size->listed.getD i true=listed.getD i false:=λlisted i hsz hi=>by
  simp[Array.getD,hsz,hi]
 have readyI:∀(listed:Array Bool) (i:Nat),listed.size=ops.size->i∈Region.ready .any ops listed->i<ops.size/\listed.getD i false=false/\∀(o:Oper),ops[i]? =some o->∀j∈cH o,listed.getD j false=true:=λlisted i hsz hi=>by
  unfold Region.ready at hi;obtain⟨h1,h2⟩:=List.mem_filter.1 hi;have h1:=List.mem_range.1 h1;simp only[bA,Bool.not_eq_true']at h2;refine⟨h1,by rw[<-getF listed i hsz h1];exact h2.1,λo ho j hj=> ?_⟩;rw[ho]at h2;simp only[Option.map_some,Option.getD_some]at h2;unfold cH at hj;obtain⟨ed,hed,hif⟩:=List.mem_filterMap.1 hj;split at hif
  ·rename_i hb;cases hif;have:=Array.all_eq_true'.1 h2.2 ed (by simpa using hed);simpa [hb]using this
  ·cases hif
 have readyE:∀(listed:Array Bool) (i:Nat) (o:Oper),listed.size=ops.size->ops[i]? =some o->listed.getD i false=false->(∀j∈cH o,listed.getD j false=true)->i∈Region.ready .any ops listed:=λlisted i o hsz ho hli hd=>by
  have hlt:=(Array.getElem?_eq_some_iff.1 ho).1;unfold Region.ready;refine List.mem_filter.2 ⟨List.mem_range.2 hlt,?_⟩;rw[getF listed i hsz hlt,hli,ho];simp only[Bool.not_false,Bool.true_and,Option.map_some,Option.getD_some];rw[Array.all_eq_true'];intro ed hed;cases hb:Region.binds .any ed with
  |false=>simp
  | true =>
   simp only[Bool.not_true,Bool.false_or];exact hd ed.on (by unfold cH;exact List.mem_filterMap.2 ⟨ed,by simpa using hed,by simp[hb]⟩)
 have fin : ∀ (listed : Array Bool) (a : Act) (w : World) (hc : γ), listed.size = ops.size →
   H[cnt ch (π.filter λi=>listed.getD i false)]? =some hc->S.Rel (ax ops val (π.filter λi=>listed.getD i false) L) hc a w->Region.ready .any ops listed=[]->Q .normal a w:=by
  intro listed a w hc hsz hcH r hready;have hallX : ∀ (n : Nat) (pre post : List Nat), pre.length = n → π = pre ++ post → ∀ i ∈ pre, listed.getD i false = true := by
   intro n
   induction n with
   |zero=>intro pre post hl0 _ i hi;rw[nZ hl0]at hi;simp at hi
   | succ n ih =>
    intro pre' post hl0 e i hi;obtain⟨pre,x,rfl⟩:∃pre x,pre'=pre++[x]:=by
     rcases List.eq_nil_or_concat pre' with h0|⟨l,x,h0⟩
     ·subst h0;simp at hl0
     ·exact⟨l,x,by simpa using h0⟩
    have e':π=pre++x::post:=by rw[e];simp
    have hpre:=ih pre (x::post) (by simpa using hl0) e';rcases List.mem_append.1 hi with hi|hi
    ·exact hpre i hi
    ·simp at hi;subst hi;have hmem:i∈π:=by rw[e'];simp
     have hxlt:=pl.lt i hmem;cases hli:listed.getD i false with
     |true=>rfl
     | false =>
      exfalso;have ho:=gA hxlt;have:i∈Region.ready .any ops listed:=readyE listed i _ hsz ho hli λj hj=>by
       obtain⟨j1,j2⟩:=pl.edge i hmem _ ho j hj;have hjm:=pl.all j j1;rw[e']at hjm;rcases List.mem_append.1 hjm with hjm|hjm
       ·exact hpre j hjm
       ·rcases List.mem_cons.1 hjm with hjm|hjm
        ·exact absurd hjm j2
        ·exact absurd hj ((pl.pair pre i post e' j hjm).2.2.2.2 _ ho)
      rw[hready]at this;cases this
  have e:π.filter (λi=>listed.getD i false)=π:=List.filter_eq_self.2 (hallX π.length π [] rfl (by simp));rw[e]at hcH r;rw[hlast]at hcH;cases hcH;exact hq _ _ (by rw[hLf];exact r)
 have key : ∀ (fuel : Nat) (listed : Array Bool) (a : Act) (w : World) (hc : γ), listed.size = ops.size →
   (∀(i:Nat) (o:Oper),ops[i]? =some o->listed.getD i false=true->∀j∈cH o,listed.getD j false=true)->
   H[cnt ch (π.filter λi=>listed.getD i false)]? =some hc->
   (π.filter λi=> !listed.getD i false).length<=fuel->
   S.Rel (ax ops val (π.filter λi=>listed.getD i false) L) hc a w->wpAny P .any ops Q fuel listed a w:=by
  intro fuel
  induction fuel with
  | zero =>
   intro listed a w hc hsz hcl hcH hfu r;have hnil:Region.ready .any ops listed=[]:=by
    cases hr:Region.ready .any ops listed with
    |nil=>rfl
    | cons i l =>
     exfalso;obtain⟨h1,h2,_⟩:=readyI listed i hsz (by rw[hr];simp);have:i∈π.filter λi=> !listed.getD i false:=List.mem_filter.2 ⟨pl.all i h1,by rw[h2];rfl⟩;have:=List.length_pos_of_mem this;omega
   exact⟨hnil,fin listed a w hc hsz hcH r hnil⟩
  | succ fuel ih =>
   intro listed a w hc hsz hcl hcH hfu r;refine⟨fin listed a w hc hsz hcH r,λi hi=> ?_⟩;obtain⟨hlt,hli,hdirs⟩:=readyI listed i hsz hi;have ho:=gA hlt;have hmem:=pl.all i hlt;obtain⟨pre,post,e⟩:=List.append_of_mem hmem;have befX:∀{j},bM ops j i=true->listed.getD j false=true:=λhb=>fA (X:=λj=>listed.getD j false=true) hcl ho (hdirs _ ho) hb
   have noB:∀{j},listed.getD j false=true->bM ops i j=true->False:=λ{j} hj hb=>by
    rcases Nat.lt_or_ge j ops.size with hjl|hjl
    ·have hoj:=gA hjl;have:=fA (X:=λj=>listed.getD j false=true) hcl hoj (hcl j _ hoj hj) hb;rw[hli]at this;cases this
    ·rw[Array.getD_eq_getD_getElem?,Array.getElem?_eq_none (by omega)]at hj;cases hj
   have pre_i:∀k∈pre,k≠i/\(jg ops k i=true->bM ops k i=true)/\(ch.contains k=true->ch.contains i=true->bM ops k i=true):=λk hk=>by
    obtain⟨p1,p2,e2⟩:=List.append_of_mem hk;have:=pl.pair p1 k (p2++i::post) (by rw[e,e2];simp) i (by simp);exact⟨this.1,this.2.1,this.2.2.1⟩
   have post_i:=pl.pair pre i post e
   -- the filters
   have fX:π.filter (λi=>listed.getD i false)=pre.filter (λi=>listed.getD i false)++post.filter (λi=>listed.getD i false):=by
    rw[e,List.filter_append,List.filter_cons,hli];simp
   have getS:∀j,(listed.setIfInBounds i true).getD j false=if j=i then true else listed.getD j false:=λj=>by
    rw[Array.getD_eq_getD_getElem?,Array.getD_eq_getD_getElem?];by_cases ej:j=i
    ·subst ej;simp[hsz,hlt]
    ·rw[Array.getElem?_setIfInBounds_ne (λx=>ej x.symm),if_neg ej]
   have fX':π.filter (λj=>(listed.setIfInBounds i true).getD j false)=pre.filter (λi=>listed.getD i false)++i::post.filter (λi=>listed.getD i false):=by
    rw[e,List.filter_append,List.filter_cons];have a1:pre.filter (λj=>(listed.setIfInBounds i true).getD j false)=pre.filter (λi=>listed.getD i false):=List.filter_congr λk hk=>by rw[getS,if_neg (pre_i k hk).1]
    have a2:post.filter (λj=>(listed.setIfInBounds i true).getD j false)=post.filter (λi=>listed.getD i false):=List.filter_congr λk hk=>by rw[getS,if_neg (λx=>(post_i k hk).1 x.symm)]
    rw[a1,a2,getS,if_pos rfl];simp
   have cX:cnt ch (π.filter λi=>listed.getD i false)=cnt ch (pre.filter λi=>listed.getD i false)+cnt ch (post.filter λi=>listed.getD i false):=by rw[fX,dJ]
   obtain⟨o,ho',hk⟩:=hkn pre i post e;have eo:o=ops[i]:=by rw[ho]at ho';cases ho';rfl
   -- the operation sees what it saw
   have hsel:Sub (sel (ax ops val pre L) (o.looksAt ops)) (ax ops val (π.filter λi=>listed.getD i false) L):=sel_sub λt ht=>by
    refine fC ?_;rw[fX,List.filter_append];have b1:(post.filter λi=>listed.getD i false).filter (aO ops t)=[]:=cN λj hj hXj=>by
     cases hw:aO ops t j with
     |false=>rfl
     | true =>
      exfalso;have hjl:=pl.lt j (by rw[e];simp[hj]);have hoj:=gA hjl;have hdj:ops[j].dst=some t:=by simpa [aO,bf,hoj]using hw
      cases hcf:jg ops i j with
      |true=>exact noB hXj ((post_i j hj).2.1 hcf)
      |false=>exact(ci ho' hoj hcf).2 t hdj ht
    have b2:(pre.filter λi=>listed.getD i false).filter (aO ops t)=pre.filter (aO ops t):=by
     rw[List.filter_filter];refine List.filter_congr λk hk=> ?_;cases hw:aO ops t k with
     |false=>simp
     | true =>
      simp only[Bool.true_and];have hkl:=pl.lt k (by rw[e];simp[hk]);have hok:=gA hkl;have hdk:ops[k].dst=some t:=by simpa [aO,bf,hok]using hw
      cases hcf:jg ops k i with
      |true=>exact befX ((pre_i k hk).2.1 hcf)
      |false=>exact absurd ht ((ci hok ho' hcf).1 t hdk).1
    rw[b1,b2,List.append_nil]
   -- what stands behind it
   have hsub:Sub (ax ops val (π.filter λj=>(listed.setIfInBounds i true).getD j false) L) (bindD o.dst (val i) (ax ops val (π.filter λi=>listed.getD i false) L)):=λt x hx=>by
    rw[fX']at hx;have hgs:bf ops i=o.dst:=by simp[bf,ho']
    by_cases hd:o.dst=some t
    ·rw [hd];simp only[bindD,List.lookup_cons,beq_self_eq_true];rw[jy        ]at hx;simp only[ax    ]at hx;rw[hgs,hd]at hx;have b1:(post.filter λi=>listed.getD i false).filter (aO     ops t)=[]:=cN          λj hj hXj=>by
      cases hw:aO ops t j with
      |false=>rfl
      | true =>
       exfalso;have hjl:=pl.lt j (by rw[e];simp[hj]);have hoj:=gA hjl;have hdj:ops[j].dst=some t:=by simpa [aO,bf,hoj]using hw
       cases hcf:jg ops i j with
       |true=>exact noB hXj ((post_i j hj).2.1 hcf)
       |false=>exact((ci ho' hoj hcf).1 t hd).2 hdj
     rw[bK ops val t _ _ _ rfl,b1]at hx;simpa [ax,bindD]using hx
    ·have hw:aO     ops t i=false:=by simp[aO    ,hgs,hd]
     have e1:(ax ops val (pre.filter (λi=>listed.getD i false)++i::post.filter (λi=>listed.getD i false)) L).lookup t=(ax ops val (π.filter λi=>listed.getD i false) L).lookup t:=by
      refine fC ?_;rw[fX,List.filter_append,List.filter_append,List.filter_cons,hw];simp
     rw[e1]at hx;cases hdd:o.dst with
     |none=>exact hx
     | some d =>
      simp only[bindD,List.lookup_cons];have:(t==d)=false:=by simpa using λx=>hd (by rw[hdd,x])
      rw[this];exact hx
   have next:∀hc',H[cnt ch (π.filter λj=>(listed.setIfInBounds i true).getD j false)]? =some hc'->S.OT o (sel (ax ops val pre L) (o.looksAt ops)) (val i) hc hc'->wpOp P ops Q i (wpAny P .any ops Q fuel (listed.setIfInBounds i true)) a w:=by
    intro hc' hcH' hot;refine S.sound hot hsel ho' r λa' w' r'=> ?_;refine ih _ a' w' hc' (by simp[hsz]) (λj oj hoj hj k hkd=> ?_) hcH' ?_ (S.weaken r' hsub)
    ·rw [getS] at hj ⊢;by_cases ek:k=i
     ·rw[if_pos ek]
     ·rw[if_neg ek];by_cases ej:j=i
      ·subst ej;exact hdirs oj hoj k hkd
      ·rw[if_neg ej]at hj;exact hcl j oj hoj hj k hkd
    ·have hsplit:(π.filter λj=> !(listed.setIfInBounds i true).getD j false).length+1=(π.filter λj=> !listed.getD j false).length:=by
      rw[e,List.filter_append,List.filter_append,List.filter_cons,List.filter_cons,hli,getS,if_pos rfl];have a1:pre.filter (λj=> !(listed.setIfInBounds i true).getD j false)=pre.filter (λi=> !listed.getD i false):=List.filter_congr λk hk=>by rw[getS,if_neg (pre_i k hk).1]
      have a2:post.filter (λj=> !(listed.setIfInBounds i true).getD j false)=post.filter (λi=> !listed.getD i false):=List.filter_congr λk hk=>by rw[getS,if_neg (λx=>(post_i k hk).1 x.symm)]
      rw[a1,a2];simp;omega
     omega
   rcases hk with⟨hch,h1,h2,g1,g2,hot⟩|⟨hch,hrd,hot⟩|⟨hch,hot⟩
   ·-- a chain operation
    have c1:cnt ch (pre.filter λi=>listed.getD i false)=cnt ch pre:=mt λk hk hkc=>befX ((pre_i k hk).2.2 hkc hch);have c2:cnt ch (post.filter λi=>listed.getD i false)=0:=gh λj hj hXj=>by
     cases hcj:ch.contains j with
     |false=>rfl
     |true=>exact(noB hXj ((post_i j hj).2.2.1 hch hcj)).elim
    have ehc:h1=hc:=by rw[cX,c1,c2,Nat.add_zero,g1]at hcH;cases hcH;rfl
    subst ehc;refine next h2 ?_ hot
    rw[fX',dJ,oX hch,c1,c2];exact g2
   ·-- a reader
    have c2:cnt ch (post.filter λi=>listed.getD i false)=0:=gh λj hj hXj=>by
     cases hcj:ch.contains j with
     |false=>rfl
     |true=>exact(noB hXj ((post_i j hj).2.2.2.1 hrd hcj)).elim
    have c1:cnt ch (pre.filter λi=>listed.getD i false)<=cnt ch pre:=by
     have:=fW (ch:=ch) (l:=pre) (p:=λi=>listed.getD i false) (q:=λ_=>true) (λ_ _ _=>rfl)
     rwa [List.filter_eq_self.2 (λ_ _=>rfl)]at this
    have c0:cnt ch (π.filter λj=>bM ops j i)<=cnt ch (π.filter λi=>listed.getD i false):=fW λj _ hb=>befX hb;refine next hc ?_ (hot _ hc c0 (by rw[cX,c2];omega) hcH)
    rw[fX',dJ,jp hch,<-cX];exact hcH
   ·refine next hc ?_ (hot hc)
    rw[fX',dJ,jp hch,<-cX];exact hcH
 have e0:π.filter (λi=>(Array.replicate ops.size false).getD i false)=[]:=by
  rw[List.filter_eq_nil_iff];intro i hi;simp[Array.getD,pl.lt i hi]
 refine key ops.size (Array.replicate ops.size false) a _ h (by simp) (λi o ho hi=> ?_) (by rw[e0];exact hfirst) ?_ (by rw[e0];exact S.same r rfl rfl rfl rfl)
 ·have:=(Array.getElem?_eq_some_iff.1 ho).1;simp[Array.getD,this]at hi
 ·exact Nat.le_trans (List.length_filter_le _ _) pl.len
end
end Go.Proofs.YtfdkldmkbibknaaGreat.Draw

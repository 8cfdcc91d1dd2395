/-
  Texts that the claim rests on, merged: DenE2, DenE3, DenX, DenO, DenS, DenM, DenM2, DenK.
-/
import Derived.Deep.Upon
import Derived.Test.YtfdkldmkbibknaaGreatZRowTx9

namespace Go.Proofs.YtfdkldmkbibknaaGreat.Abs
open Go.RowKit
section
variable [Zb]
theorem ju {P:Program} {E:Cx} {K:Env->ag->Prop} {L:Env} {h:ag} {d:Nat} {ty:TypeId} {pos:String} {af:Array Edge} {gd:Option (Nat×Bool)} {tb:Tbl} (htb:bE P tb) {t tx:TypeId} {x y:Operand} {s:Nat} {el:ElI} (hx:ev L x=some (.one (.lit (.slice none 0 0)))) (he:dN tb t=some el) (hne:el.zero≠[]) (hz:el.zero.length=el.size) (hs:el.size=s)
  (hsrc0:lY P E L h s tx y []) (hn:d<E.n) (hk:K ((d,.one (.lit (.slice none 0 0)))::L) h):ar P ⟨some d,.call ⟨.builtin .append,#[x,y],#[t,tx]⟩,ty,pos,af,gd⟩ E K L h:=by
 refine aF rfl hn (λι I a w r=> ?_) hk;obtain⟨inf0,z,g1,g2,g3,g4,g5⟩:=ly htb he hne hz;obtain⟨u1,u2,_⟩:=aH htb he;obtain⟨news,hsrc,hnv,hns⟩:=hsrc0 ι I a w r;have hnl:news=[]:=by have:=hnv.1;simpa using this
 subst hnl;have hsrc':Src P inf0.size tx (a.eval y) 0 [] w:=by rw[g4,hs];exact hsrc
 have hc:=(r.ev hx).lit.1;refine⟨.slice none 0 0,?_,.one (.lit trivial)⟩;rw[cM,hc,run_append_nothing w t tx ty el.t inf0 u1 g1 none 0 0 (Nat.le_refl _) (a.eval y) hsrc'];rfl
theorem Rel.imp {E:Cx} {L:Env} {h:ag} {ι:List Inf} {I:Nat->Prop} {a:Act} {w:World} (r:Rel E L h ι I a w) {id s:Nat} {es es':List (List V)} (ho:h[id]? =some (some (.row s es))) (hl:es.length=es'.length) (hs:∀e∈es',e.length=s)
  (hi:∀(k:Nat) (h1:k<es.length) (h2:k<es'.length) (j:Nat) (g1:j<es[k].length) (g2:j<es'[k].length) (I:Nat->Prop) (w:World) (ι:List Inf) (u:Value),VR I w ι es[k][j] u->VR I w ι es'[k][j] u):Rel E L (h.set id (some (.row s es'))) ι I a w:=
 { r with
   heap := by
     refine⟨by simp[r.heap.len],λi o f x y=> ?_,λi o f x y=> ?_,λi i' o o' f f' x x' y y' e=> ?_,r.heap.sub⟩
     · rcases aW      x with⟨rfl,x,_⟩|⟨_,x⟩
       · cases x
         obtain⟨cur,t,h1,h2,h3,h4,h5,h6,h7⟩:=r.heap.obj i _ f ho y;refine⟨cur,t,h1,h2,h3,h4,by omega,hs,λk hk j hj=> ?_⟩;have hk':k<es.length:=by omega
         have hj':j<es[k].length:=by rw[h6 _ (gM hk')];rw[hs _ (gM hk)]at hj;exact hj
         obtain⟨u,k1,k2⟩:=h7 k hk' j hj';exact⟨u,k1,hi k hk' hk j hj' hj I w ι u k2⟩
       · exact r.heap.obj i o f x y
     · rcases aW      x with⟨rfl,x,_⟩|⟨_,x⟩
       · exact r.heap.off i _ f ho y
       · exact r.heap.off i o f x y
     · rcases aW      x with⟨e1,x1,_⟩|⟨_,x1⟩
       · rcases aW      x' with⟨e2,x2,_⟩|⟨_,x2⟩
         · rw[e1,e2]
         · subst e1;exact r.heap.inj _ _ _ _ f f' ho x2 y y' e
       · rcases aW      x' with⟨e2,x2,_⟩|⟨_,x2⟩
         · subst e2;exact r.heap.inj _ _ _ _ f f' x1 ho y y' e
         · exact r.heap.inj _ _ _ _ f f' x1 x2 y y' e
   mine:=λi o f x y=>by
     rcases aW x with⟨rfl,x,_⟩|⟨_,x⟩
     · exact r.mine i _ f ho y
     · exact r.mine i o f x y}
end
end Go.Proofs.YtfdkldmkbibknaaGreat.Abs
namespace Go.Proofs.YtfdkldmkbibknaaGreat.Den
open Go.RowKit
open Abs (V AV Env ag ar)
section
variable [Zb]
def Imp (v v':V):Prop:=∀(I:Nat->Prop) (w:World) (ι:List Abs.Inf) (u:Value),Abs.VR I w ι v u->Abs.VR I w ι v' u
theorem Imp.refl (v:V):Imp v v:=λ_ _ _ _ h=>h
def Imp1 (a b:List V):Prop:=a.length=b.length/\∀(j:Nat) (h1:j<a.length) (h2:j<b.length),Imp a[j] b[j]
theorem Imp1.refl (a:List V):Imp1 a a:=⟨rfl,λ_ _ _=>Imp.refl _⟩
inductive Imps :List (List V)->List (List V)->Prop
 |nil:Imps [] []
 |cons {a b:List V} {aa bs:List (List V)} (h:Imp1 a b) (k:Imps aa bs):Imps (a::aa) (b::bs)
theorem Imps.len {a b:List (List V)} (h:Imps a b):a.length=b.length:=by induction h with|nil=>rfl|cons _ _ ih=>simp[ih]
theorem Imps.at_ {a b:List (List V)} (h:Imps a b):∀(k:Nat) (h1:k<a.length) (h2:k<b.length),Imp1 a[k] b[k]:=by
 induction h with
 |nil=>intro k h1;simp at h1
 | cons h k ih =>
  intro m h1 h2;cases m with
  |zero=>exact h
  |succ m=>exact ih m (by simpa using h1) (by simpa using h2)
theorem Imps.refl :∀(a:List (List V)),Imps a a
 |[]=>.nil
 |x::a=>.cons (Imp1.refl x) (Imps.refl a)
section
variable {P : Program} {E : Abs.Cx} {F : In} {ρ : Rho} {H : List Ob} {D : List (Nat × AT)} {L : Env} {h : ag} {d : Nat} {ty : TypeId} {pos : String} {af : Array Edge} {gd : Option (Nat × Bool)} {tb : Nat → Option TI}
theorem Shift.imp {id s:Nat} {es es':List (List V)} (ho:h[id]? =some (some (.row s es))) (hi:Imps es es') (hs:∀e∈es',e.length=s):Abs.Shift L h L (h.set id (some (.row s es'))):=
 ⟨λ_ _ I _ _ r=>⟨I,r.imp ho hi.len hs (λk h1 h2 j g1 g2=>(hi.at_ k h1 h2).2 j g1 g2)⟩⟩
inductive FRl (T:Ty):List (I T)->List (List V)->Prop
 |nil:FRl T [] []
 |cons {x:I T} {e:List V} {xs:List (I T)} {es:List (List V)} (h:FRs (ah T x) e) (k:FRl T xs es):FRl T (x::xs) (e::es)
omit [Zb]in
theorem FRl.fr {T:Ty} (hT:0<szT T) {xs:List (I T)} {es:List (List V)} (h:FRl T xs es):FR (.l T xs) (.imm (szT T) es):=by
 have key:es.length=xs.length/\(∀e∈es,e.length=szT T)/\∀(m:Nat) (h1:m<xs.length) (h2:m<es.length),FRs (ah T xs[m]) es[m]:=by
  induction h with
  |nil=>exact⟨rfl,λe he=>by simp at he,λm h1=>by simp at h1⟩
  | cons h k ih =>
   obtain⟨i1,i2,i3⟩:=ih;refine⟨by simp[i1],λe he=> ?_,λm h1 h2=> ?_⟩
   ·rcases List.mem_cons.1 he with rfl|he
    ·rw[<-h.1,bz T hT]
    ·exact i2 e he
   ·cases m with
    |zero=>exact h
    |succ m=>exact i3 m (by simpa using h1) (by simpa using h2)
 exact .l hT key.1 key.2.1 (λm h1 h2 j h3 h4=>(key.2.2 m h1 h2).2 j h3 h4)
omit [Zb]in
theorem FR.frl {T:Ty} {xs:List (I T)} {es:List (List V)} (h:FR (.l T xs) (.imm (szT T) es)):FRl T xs es:=by
 cases h with
 | l hp hl hs hr =>
  have:∀(xs:List (I T)) (es:List (List V)),es.length=xs.length->(∀(m:Nat) (h1:m<xs.length) (h2:m<es.length),FRs (ah T xs[m]) es[m])->FRl T xs es:=by
   intro xs
   induction xs with
   |nil=>intro es hl _;cases es with|nil=>exact .nil|cons=>simp at hl
   | cons x xs ih =>
    intro es hl h;cases es with
    |nil=>simp at hl
    |cons e es=>exact .cons (h 0 (by simp) (by simp)) (ih es (by simpa using hl) (λm h1 h2=>h (m+1) (by simpa using h1) (by simpa using h2)))
  refine this xs es hl (λm h1 h2=>⟨?_,λj h3 h4=>hr m h1 h2 j h3 h4⟩);rw[bz T hp,hs _ (gM h2)]
omit [Zb]in
theorem FRl.app {T:Ty} {xs ys:List (I T)} {es ns:List (List V)} (h:FRl T xs es) (k:FRl T ys ns):FRl T (xs++ys) (es++ns):=by
 induction h with
 |nil=>exact k
 |cons h _ ih=>exact .cons h ih
omit [Zb]in
theorem FRl.len {T:Ty} {xs:List (I T)} {es:List (List V)} (h:FRl T xs es):es.length=xs.length:=by induction h with|nil=>rfl|cons _ _ ih=>simp[ih]
omit [Zb]in
theorem FRl.rep {T:Ty} {x:I T} {e:List V} (h:FRs (ah T x) e):∀n,FRl T (List.replicate n x) (List.replicate n e)
 |0=>.nil
 |n+1=>.cons h (FRl.rep h n)
omit [Zb]in
theorem FRl.set {T:Ty} {x:I T} {e:List V} (hx:FRs (ah T x) e) {xs:List (I T)} {es:List (List V)} (h:FRl T xs es):∀k,FRl T (xs.set k x) (es.set k e):=by
 induction h with
 |nil=>intro k;exact .nil
 | cons h k ih =>
  intro m;cases m with
  |zero=>exact .cons hx k
  |succ m=>exact .cons h (ih m)
omit [Zb]in
theorem vu {c:C} {v:V} (hf:fE c=true) (h:CR [] [] c v):FR c v:=by
 cases c<;>simp only[fE,reduceCtorEq]at hf<;>(cases h with|fl h=>exact h)
omit [Zb]in
theorem kg {T:Ty} (hT:0<szT T) (x:I T):(ah T x).all fE=true:=by
 unfold ah;split<;>rfl
theorem uS {cs ds:List C} {vs:List V} {T:Ty} (hT:0<szT T) {x:I T} (hp:cU [] cs=some ds) (hi:fx T ds=some x) (hc:CRs ρ H cs vs):∃us,FRs (ah T x) us/\Imp1 vs us:=by
 obtain⟨us,h1,_,h3,h4⟩:=iT hp hc;have e:=dV hi;have hf:=kg hT x;rw[e]at hf ⊢;exact⟨us,⟨h1.1,λj k1 k2=>vu (aT.1 hf _ (gM k1)) (h1.2 j k1 k2)⟩,h3,h4⟩
theorem wT {v:Value} {c:C} (h:ng v c=true):Abs.bJ v=true/\∃u,FR c u/\Imp (.lit v) u:=by
 unfold ng at h;split at h
 ·exact⟨by decide,_,.i,Imp.refl _⟩
 ·exact⟨by decide,_,.k,Imp.refl _⟩
 ·exact⟨rfl,_,.b,Imp.refl _⟩
 ·rename_i x y;simp only[bA,beq_iff_eq]at h;have e:x=y:=by
   have e1:x.data= #[]:=Array.eq_empty_of_size_eq_zero h.1;have e2:y.data= #[]:=Array.eq_empty_of_size_eq_zero h.2;cases x;cases y;simp only at e1 e2;rw[e1,e2]
  subst e;exact⟨by simp[Abs.bJ,h.1],_,.s,Imp.refl _⟩
 ·exact⟨rfl,_,FR.nil_ (by simpa [Nat.blt_eq]using h),λI w ι u hu=>by cases hu;exact .imm0 (Nat.zero_le _)⟩
 ·cases h
theorem eS :∀{vs:List Value} {cs:List C},di vs cs=true->vs.all Abs.bJ=true/\∃us,FRs cs us/\Imp1 (vs.map V.lit) us
 |[],[],_=>⟨rfl,[],⟨rfl,λj h=>by simp at h⟩,rfl,λj h=>by simp at h⟩
 |[],_::_,h=>by cases h
 |_::_,[],h=>by cases h
 | v :: vs, c :: cs, h => by
  simp only[di,bA]at h;obtain⟨h1,u,h3,h4⟩:=wT h.1;obtain⟨k1,us,k2,k3⟩:=eS h.2;refine⟨by simp[h1,k1],u::us,⟨by simp[k2.1],λj g1 g2=> ?_⟩,by simpa using k3.1,λj g1 g2=> ?_⟩
  ·cases j with
   |zero=>exact h3
   |succ j=>exact k2.2 j (by simpa using g1) (by simpa using g2)
  ·cases j with
   |zero=>exact h4
   |succ j=>exact k3.2 j (by simpa using g1) (by simpa using g2)
omit [Zb]in
theorem pH :∀{ts cs:List C} {us vs:List V},FRs ts us->CRs ρ H cs vs->CRs ρ H (me ts cs) vs
 |[],_,_,_,_,h=>h
 | t :: ts, [], _, _, _, h => by
  have:me (t::ts) []=[]:=by cases t<;>rfl
  rw[this];exact h
 | t :: ts, c :: cs, us, vs, ht, h => by
  obtain⟨u,us,rfl⟩:∃u us',us=u::us':=by
   cases us with
   |nil=>have:=ht.1;simp at this
   |cons u us=>exact⟨u,us,rfl⟩
  obtain⟨v,vs,rfl⟩:∃v vs',vs=v::vs':=by
   cases vs with
   |nil=>have:=h.1;simp at this
   |cons v vs=>exact⟨v,vs,rfl⟩
  have ht0:FR t u:=ht.2 0 (by simp) (by simp);have hts:FRs ts us:=⟨by have:=ht.1;simpa using this,λj g1 g2=>ht.2 (j+1) (by simpa using g1) (by simpa using g2)⟩;have h0:CR ρ H c v:=h.2 0 (by simp) (by simp);have hr:CRs ρ H cs vs:=⟨by have:=h.1;simpa using this,λj g1 g2=>h.2 (j+1) (by simpa using g1) (by simpa using g2)⟩;have ih:=pH hts hr
  have cons:∀{d:C},CR ρ H d v->CRs ρ H (d::me ts cs) (v::vs):=λ{d} hd=>⟨by simp[ih.1],λj g1 g2=>by
   cases j with
   |zero=>exact hd
   |succ j=>exact ih.2 j (by simpa using g1) (by simpa using g2)⟩
  unfold me;split
  ·rename_i heq1 heq2;cases heq1;cases heq2;refine cons ?_;have hv:v= .lit (.slice none 0 0):=by
    cases h0 with
    |fl h=>cases h
    |zs=>rfl
   rw[hv];cases ht0 with
   |l hp _ _ _=>exact .nil hp
  ·rename_i heq1 heq2;cases heq1;cases heq2;exact cons h0
  ·rename_i hn;exact absurd rfl (hn _ _ _ _ rfl)
theorem je {T:Ty} (hT:0<szT T) {z:I T} {zs zs':List V} (hz:FRs (ah T z) zs') (hzi:Imp1 zs zs'):∀{n k:Nat} {ps:List (Nat×List C)} {qs:List (Nat×List V)} {xs:List (I T)},dB T z n k ps=some xs->lj ρ H ps qs->∀pre:List (List V),pre.length=k->
  ∃es es',Abs.lU (szT T) (pre++List.replicate n zs) qs=some (pre++es)/\Imps es es'/\FRl T xs es'
 | 0, k, ps, qs, xs, h, hp, pre, _ => by
  cases hp with
  |nil=>simp only[dB,Option.some.injEq]at h;subst h;exact⟨[],[],by simp[Abs.lU],.nil,.nil⟩
  |cons _ _=>simp only[dB]at h;cases h
 | n + 1, k, ps, qs, xs, h, hp, pre, hk => by
  have zl:zs.length=szT T:=by rw[hzi.1,<-hz.1,bz T hT]
  cases hp with
  | nil =>
   simp only[dB]at h;split at h
   ·rename_i ys hy;cases h;obtain⟨es,es',h1,h2,h3⟩:=je hT hz hzi hy .nil (pre++[zs]) (by simp[hk]);exact⟨zs::es,zs'::es',by simpa [List.replicate_succ]using h1,.cons hzi h2,.cons hz h3⟩
   ·cases h
  | @cons i cs vs ps qs hc hr =>
   simp only[dB]at h;split at h
   ·rename_i hik;have hik:i=k:=nB hik;subst hik;split at h
    ·rename_i ds hd;split at h
     ·rename_i x ys hx hy;cases h;obtain⟨us,u1,u2⟩:=uS      hT hd hx (pH      hz hc);have vl:vs.length=szT T:=by rw[u2.1,<-u1.1,bz          T hT]
      obtain⟨es,es',h1,h2,h3⟩:=je hT hz hzi hy hr (pre++[vs]) (by simp[hk]);refine⟨vs::es,us::es',?_,.cons u2 h2,.cons u1 h3⟩;simp only[Abs.lU];rw[if_pos (by simp[vl,hk])];have:(pre++List.replicate (n+1) zs).set i vs=pre++[vs]++List.replicate n zs:=by
       rw[<-hk,List.replicate_succ,List.set_append_right _ _ (Nat.le_refl _),Nat.sub_self];simp
      rw[this,h1];simp
     ·cases h
    ·cases h
   ·split at h
    ·rename_i ys hy;cases h;obtain⟨es,es',h1,h2,h3⟩:=je hT hz hzi hy (.cons hc hr) (pre++[zs]) (by simp[hk]);exact⟨zs::es,zs'::es',by simpa [List.replicate_succ]using h1,.cons hzi h2,.cons hz h3⟩
    ·cases h
theorem zg (htb:TBOK P tb) (hn:d<E.n) {t:Nat} {ti:TI} (ht:tb t=some ti):cq P ⟨some d,.alloc t,ty,pos,af,gd⟩ E F D H (.one (.p H.length 0)) (H++[.box ti.zero]):=λρ L h hs hp hf=>by
 obtain⟨i,G⟩:=htb.get ht;obtain⟨z1,z2⟩:=nz (ρ:=ρ++[some h.length]) (H:=H++[.box ti.zero]) G.zero;refine Abs.Am G.tb G.look z1 G.zne hn ⟨ρ++[some h.length],_,rfl,.one (.p ?_),hp.push ⟨_,?_,z2⟩,Ev.push _ _,hf.push hp.len _ _⟩
 ·rw[<-hp.len];simp
 ·simp
theorem FU (hn:d<E.n) {t:TypeId} {x:Operand} {v:AT} {cs:List C} (hx:ev D x=some v) (hc:cells v=some cs):cq P ⟨some d,.box t x,ty,pos,af,gd⟩ E F D H (.one (.p H.length 0)) (H++[.box cs]):=λρ L h hs hp hf=>by
 obtain⟨av,h1,h2⟩:=ap hs hx;obtain⟨vs,h3,h4⟩:=ik hc h2;refine Abs.EM h1 h3 hn ⟨ρ++[some h.length],_,rfl,.one (.p ?_),hp.push ⟨vs,rfl,h4.mono (Ev.push _ _)⟩,Ev.push _ _,hf.push hp.len _ _⟩;rw[<-hp.len];simp
omit [Zb]in
theorem FRl.lens {T:Ty} (hT:0<szT T) {xs:List (I T)} {es:List (List V)} (h:FRl T xs es):∀e∈es,e.length=szT T:=by
 cases h.fr hT with|l _ _ hs _=>exact hs
theorem iH (htb:TBOK P tb) (hn:d<E.n) {t len:Nat} {ti:TI} {T:Ty} {z:I T} {parts:List (Nat×Operand)} {ps:List (Nat×List C)} {xs:List (I T)} (ht:tb t=some ti) (he:ti.elem=some T) (hz:fO T=some z) (hp:bo D parts=some ps) (hx:dB T z len 0 ps=some xs) (hb:Nat.ble (len*szT T) 16777216=true)
  (hs:EncL ρ H D L) (h:ag):0<szT T/\∃es es',ar P ⟨some d,.buildSlice t len parts.toArray,ty,pos,af,gd⟩ E (λL2 h2=>L2=(d,.one (.own h.length 0 len))::L/\h2=h++[some (.row (szT T) es)]) L h/\Imps es es'/\FRl T xs es'/\es'.length=len:=by
 obtain⟨i,G⟩:=htb.get ht;obtain⟨el,z',g0,g1,g2,g3,g4,g5,g6,g7,g8⟩:=G.elem T he;rw[hz]at g2;cases g2;obtain⟨z1,us,z2,z3⟩:=eS g6;obtain⟨qs,q1,q2⟩:=jx hs hp;obtain⟨es,es',e1,e2,e3⟩:=je g4 z2 z3 hx q2 [] rfl;simp only[List.nil_append]at e1;have hr:=Abs.og (P:=P) (E:=E) (L:=L) (d:=d) (ty:=ty) (pos:=pos) (af:=af) (gd:=gd) (h0:=h) (l:=[]) (n:=h.length) (K:=λL2 h2=>L2=(d,.one (.own h.length 0 len))::L/\h2=h++[some (.row (szT T) es)]) G.tb rfl g1 (by intro e;rw[e]at g5;simp at g5;omega) g5 z1 q1 (by rw[g3];exact e1) (by rw[g3];exact hb) hn ⟨rfl,by rw[g3];rfl⟩;rw[List.append_nil]at hr;refine⟨g4,es,es',hr,e2,e3,?_⟩;rw[<-e2.len];obtain⟨_,_,k⟩:=Abs.ny qs _ _ (by intro e he;rw[List.mem_replicate]at he;rw[he.2,List.length_map,g5,g3]) e1;rw[k];simp
omit [Zb]in
theorem j5 {α:Type} (l:List α) (x y:α):(l++[x]).set l.length y=l++[y]:=by rw[List.set_append_right _ _ (Nat.le_refl _),Nat.sub_self];rfl
theorem ow (htb:TBOK P tb) (hn:d<E.n) {t len:Nat} {ti:TI} {T:Ty} {z:I T} {parts:List (Nat×Operand)} {ps:List (Nat×List C)} {xs:List (I T)} (ht:tb t=some ti) (he:ti.elem=some T) (hz:fO T=some z) (hp:bo D parts=some ps) (hx:dB T z len 0 ps=some xs) (hb:Nat.ble (len*szT T) 16777216=true):
  cq P ⟨some d,.buildSlice t len parts.toArray,ty,pos,af,gd⟩ E F D H (.one (.o H.length)) (H++[.row T 0 xs]):=λρ L h hs hh hf=>by
 obtain⟨g4,es,es',hr,e2,e3,hlen⟩:=iH (P:=P) (E:=E) (d:=d) (ty:=ty) (pos:=pos) (af:=af) (gd:=gd) htb hn ht he hz hp hx hb hs h;refine kC hr λL2 h2 ⟨k1,k2⟩=> ?_;subst k1 k2;refine⟨_,_,⟨ρ++[some h.length],.one (.own h.length 0 len),rfl,.one ?_,hh.push (y:=some (.row (szT T) es')) ⟨es',rfl,e3.fr g4⟩,Ev.push _ _,hf.push hh.len _ _⟩,λLf=> ?_⟩
 ·have:=CR.o (ρ:=ρ++[some h.length]) (H:=H++[.row T 0 xs]) (id:=H.length) (a:=h.length) (n:=0) (T:=T) (xs:=xs) (by rw[<-hh.len];simp) (by simp);rw[<-e3.len,hlen]at this;exact this
 ·have:=Shift.imp (L:=(d,.one (.own h.length 0 len))::L++Lf) (h:=h++[some (.row (szT T) es)]) (id:=h.length) (s:=szT T) (es:=es) (es':=es') (by simp) e2 (e3.lens g4);rw[j5]at this;exact this
omit [Zb]in
theorem HpR.junk (hp:HpR ρ H h) (y:Option Abs.Ob):HpR ρ H (h++[y]):=
 HpR.mk' hp.len (λid x hx=>by
  rcases hp.ob hx with⟨a,z,k1,k2,k3⟩|k1|k1
  ·exact .inl ⟨a,z,k1,cw k2,k3⟩
  ·exact .inr (.inl k1)
  ·exact .inr (.inr k1)) hp.inj (λi a h1=>by have:=hp.lt i a h1;simp;omega)
omit [Zb]in
theorem Fr.junk (hf:Fr F ρ H h) (y:Option Abs.Ob):Fr F ρ H (h++[y]):=
 hf.step (Ev.refl _ _) (by simp) (λid _ h1 l=>.inl ⟨id,h1,l⟩) (λa h1 _=>aL h1)
theorem xJ {d a n:Nat} {s:Nat} {es:List (List V)} {L Lf:Env} {h:ag} (ho:h[a]? =some (some (.row s es))) (hfl:es.all (·.all Abs.V.flat)=true) (hn:es.length=n):Abs.Shift ((d,.one (.own a 0 n))::L++Lf) h ((d,.one (.imm s es))::L++Lf) (h.set a none):=by
 have:=Abs.Shift.freeze (L:=(d,.one (.own a 0 n))::L++Lf) (h:=h) d a (s:=s) (es:=es) (v:=.one (.own a 0 n)) ho hfl (by simp) (by simp[Abs.AV.fits,Abs.V.fits,hn]);have e:(AV.one (V.own a 0 n)).fz a s es= .one (.imm s es):=by simp[Abs.AV.fz,Abs.V.fz,<-hn]
 rw[e]at this;refine this.trans ⟨λ_ _ I _ _ r=>⟨I,r.weaken λt x hx=> ?_⟩⟩;simp only[List.cons_append,List.lookup_cons]at hx ⊢;cases ht:t==d with
 |true=>rw[ht]at hx;exact hx
 |false=>rw[ht]at hx;exact hx
theorem sL (htb:TBOK P tb) (hn:d<E.n) {t len:Nat} {ti:TI} {T:Ty} {z:I T} {parts:List (Nat×Operand)} {ps:List (Nat×List C)} {xs:List (I T)} (ht:tb t=some ti) (he:ti.elem=some T) (hz:fO T=some z) (hp:bo D parts=some ps) (hx:dB T z len 0 ps=some xs) (hb:Nat.ble (len*szT T) 16777216=true):
  cq P ⟨some d,.buildSlice t len parts.toArray,ty,pos,af,gd⟩ E F D H (.one (.l T xs)) H:=λρ L h hs hh hf=>by
 obtain⟨g4,es,es',hr,e2,e3,hlen⟩:=iH (P:=P) (E:=E) (d:=d) (ty:=ty) (pos:=pos) (af:=af) (gd:=gd) htb hn ht he hz hp hx hb hs h;refine kC hr λL2 h2 ⟨k1,k2⟩=> ?_;subst k1 k2;refine⟨_,_,⟨ρ,.one (.imm (szT T) es'),rfl,.one (.fl (e3.fr g4)),hh.junk none,Ev.refl _ _,hf.junk none⟩,λLf=> ?_⟩;have s1:=Shift.imp (L:=(d,.one (.own h.length 0 len))::L++Lf) (h:=h++[some (.row (szT T) es)]) (id:=h.length) (s:=szT T) (es:=es) (es':=es') (by simp) e2 (e3.lens g4);rw[j5]at s1;have s2:=xJ (d:=d) (L:=L) (Lf:=Lf) (h:=h++[some (.row (szT T) es')]) (a:=h.length) (s:=szT T) (es:=es') (by simp) (e3.fr g4).flats hlen;rw[j5]at s2;exact s1.trans s2
omit [Zb]in
theorem ww {x y:Operand} {n:Int} (h:qr x y=true) (hx:ev D x=some (.one (.i n))):ev D y=some (.one (.i n)):=by
 unfold qr at h;split at h
 ·rw[<-nB h];exact hx
 ·simp only[decide_eq_true_eq]at h;rw[<-h];exact hx
 ·cases h
omit [Zb]in
theorem Db {α:Type} {x:α} {n:Int} {xs:List α} (h:mk x n=some xs):0<=n/\n<=4294967296/\xs=List.replicate n.toNat x:=by
 unfold mk at h;by_cases h1:0<=n
 ·by_cases h2:n<=4294967296
  ·simp[h1,h2]at h;exact⟨h1,h2,h.symm⟩
  ·simp[h1,h2]at h
 ·simp[h1]at h
theorem CM (htb:TBOK P tb) (hn:d<E.n) {t:Nat} {ti:TI} {T:Ty} {z:I T} {x y:Operand} {n:Int} {xs:List (I T)} (ht:tb t=some ti) (he:ti.elem=some T) (hz:fO T=some z) (hx:ev D x=some (.one (.i n))) (hy:qr x y=true) (hm:mk z n=some xs):
  cq P ⟨some d,.makeSlice t x y,ty,pos,af,gd⟩ E F D H (.one (.o H.length)) (H++[.row T 0 xs]):=λρ L h hs hh hf=>by
 obtain⟨i,G⟩:=htb.get ht;obtain⟨el,z',g0,g1,g2,g3,g4,g5,g6,g7,g8⟩:=G.elem T he;rw[hz]at g2;cases g2;obtain⟨z1,us,z2,z3⟩:=eS g6;obtain⟨m1,m2,rfl⟩:=Db hm;obtain⟨m,rfl⟩:=Int.eq_ofNat_of_zero_le m1;obtain⟨av,a1,a2⟩:=ap hs hx;obtain⟨u,rfl,a3⟩:=a2.one';cases a3.int;obtain⟨av,b1,b2⟩:=ap hs (ww hy hx);obtain⟨u,rfl,b3⟩:=b2.one';cases b3.int;have hm2:m<=4294967296:=by omega
 have g7:=Nat.le_of_ble_eq_true g7;have hr:=Abs.Ce (P:=P) (E:=E) (L:=L) (d:=d) (ty:=ty) (pos:=pos) (af:=af) (gd:=gd) (h0:=h) (l:=[]) (n:=h.length) (m:=m) (K:=λL2 h2=>L2=(d,.one (.own h.length 0 m))::L/\h2=h++[some (.row (szT T) (List.replicate m (el.zero.map V.lit)))]) G.tb rfl g1 (by intro e;rw[e]at g5;simp at g5;omega) g5 z1 a1 b1 (Nat.le_trans (Nat.mul_le_mul g7 hm2) (by decide)) (by omega) hn ⟨rfl,by rw[g3];rfl⟩;rw[List.append_nil]at hr;have e3:FRl T (List.replicate m z) (List.replicate m us):=FRl.rep z2 m;have e2:∀m,Imps (List.replicate m (el.zero.map V.lit)) (List.replicate m us):=λm=>by
  induction m with
  |zero=>exact .nil
  |succ m ih=>exact .cons z3 ih
 refine kC hr λL2 h2 ⟨k1,k2⟩=> ?_;subst k1 k2;refine⟨_,_,⟨ρ++[some h.length],.one (.own h.length 0 m),rfl,.one ?_,hh.push (y:=some (.row (szT T) (List.replicate m us))) ⟨_,rfl,e3.fr g4⟩,Ev.push _ _,hf.push hh.len _ _⟩,λLf=> ?_⟩
 ·have:=CR.o (ρ:=ρ++[some h.length]) (H:=H++[.row T 0 (List.replicate (m:Int).toNat z)]) (id:=H.length) (a:=h.length) (n:=0) (T:=T) (xs:=List.replicate (m:Int).toNat z) (by rw[<-hh.len];simp) (by simp);simpa using this
 ·have:=Shift.imp (L:=(d,.one (.own h.length 0 m))::L++Lf) (h:=h++[some (.row (szT T) (List.replicate m (el.zero.map V.lit)))]) (id:=h.length) (s:=szT T) (es:=_) (es':=List.replicate m us) (by simp) (e2 m) (e3.lens g4);rw[j5]at this;exact this
omit [Zb]in
theorem bL {T T':Ty} {xs:List (I T')} {ys:List (I T)} (h:hQ (T:=T) xs=some ys):∃e:T'=T,ys=e▸xs:=by
 unfold hQ at h;split at h
 ·rename_i e;cases h;exact⟨e,rfl⟩
 ·cases h
omit [Zb]in
theorem oc {α:Type} {xs ys:List α} (h:lim xs=some ys):ys=xs/\xs.length<=4294967296:=by
 unfold lim at h;cases hb:Nat.ble xs.length 4294967296 with
 |true=>rw[hb]at h;cases h;exact⟨rfl,Nat.le_of_ble_eq_true hb⟩
 |false=>rw[hb]at h;cases h
omit [Zb]in
theorem uM (hh:HpR ρ H h) {c:C} {v:V} {T:Ty} {ys:List (I T)} (hc:CR ρ H c v) (he:gm H T c=some ys):∃ns,Abs.fe h (szT T) v=some ns/\FRl T ys ns:=by
 unfold gm at he;split at he
 ·rename_i T' xs hp;obtain⟨e,rfl⟩:=bL         he;subst e;cases c<;>simp only[kN  ,Option.some.injEq,reduceCtorEq]at hp
  ·cases hp;obtain⟨es,rfl,h4⟩:=hc.list;exact⟨es,by simp[Abs.fe],h4.frl⟩
  ·cases hp;cases hc with
   |fl h=>cases h
   |lc k=>exact⟨_,by simp[Abs.fe],k.frl⟩
  ·cases hp;cases hc with
   |fl h=>cases h
   |nil k=>exact⟨[],rfl,.nil⟩
  ·split at hp
   ·rename_i T2 n xs2 hr;cases hp;rcases hc.own hr with⟨a,rfl,h4⟩|⟨rfl,h4⟩
    ·obtain⟨es,h5,h6⟩:=hh.at_ h4 hr;have hl:=h6.frl.len;exact⟨es,by simp[Abs.fe,h5,<-hl],h6.frl⟩
    ·rcases hh.row _ n _ _ hr with⟨a',es,h7,_⟩|⟨_,h7,_⟩
     ·rw[h4]at h7;cases h7
     ·subst h7;exact⟨[],rfl,.nil⟩
   ·cases hp
 ·cases he
end
end
section
variable [Zb]
section
variable {P : Program} {E : Abs.Cx} {F : In} {ρ : Rho} {H : List Ob} {D : List (Nat × AT)} {L : Env} {h : ag} {d : Nat} {ty : TypeId} {pos : String} {af : Array Edge} {gd : Option (Nat × Bool)} {tb : Nat → Option TI}
omit [Zb]in
theorem evo.goes (x:Ob):evo x .gone:=.inl rfl
omit [Zb]in
theorem HpR.gone (hp:HpR ρ H h) {id:Nat} {x0:Ob} (h0:H[id]? =some x0):HpR ρ (H.set id .gone) h:=by
 have hev:Ev ρ H ρ (H.set id .gone):=Ev.set h0 (evo.goes _);refine HpR.mk' (by simp[hp.len]) (λj z hz=> ?_) (λi j a k1 k2 l1 l2=>hp.inj i j a k1 k2 (hev.lv (by simpa using l1.lt) l1) (hev.lv (by simpa using l2.lt) l2)) hp.lt;rcases fD hz with⟨rfl,rfl,_⟩|⟨_,h1⟩
 ·exact .inr (.inr rfl)
 ·rcases hp.ob h1 with⟨b,y',k1,k2,k3⟩|k1|k1
  ·exact .inl ⟨b,y',k1,k2,k3.mono hev⟩
  ·exact .inr (.inl k1)
  ·exact .inr (.inr k1)
omit [Zb]in
theorem Fr.gone (hf:Fr F ρ H h) {id:Nat} {x0:Ob} (h0:H[id]? =some x0):Fr F ρ (H.set id .gone) h:=
 hf.step (Ev.set h0 (evo.goes _)) (Nat.le_refl _) (λid _ h1 l=>.inl ⟨id,h1,(Ev.set (ρ:=ρ) h0 (evo.goes _)).lv (by simpa using l.lt) l⟩) (λ_ _ _=>rfl)
omit [Zb]in
theorem iX {T:Ty} (hT:0<szT T) (hp:HpR ρ H h) {xs:List (I T)} {es:List (List V)} (hx:FRl T xs es):
  ATR (ρ++[some h.length]) (H++[.row T 0 xs]) (.one (.o H.length)) (.one (.own h.length 0 es.length))/\HpR (ρ++[some h.length]) (H++[.row T 0 xs]) (h++[some (.row (szT T) es)]):=by
 refine⟨.one ?_,hp.push ⟨es,rfl,hx.fr hT⟩⟩;have:=CR.o (ρ:=ρ++[some h.length]) (H:=H++[.row T 0 xs]) (id:=H.length) (a:=h.length) (n:=0) (T:=T) (xs:=xs) (by rw[<-hp.len];simp) (by simp);rw[hx.len];exact this
omit [Zb]in
theorem mm {T:Ty} (hT:0<szT T) (hp:HpR ρ H h):
  ATR (ρ++[none]) (H++[.row T 0 []]) (.one (.o H.length)) (.one (.lit (.slice none 0 0)))/\HpR (ρ++[none]) (H++[.row T 0 []]) h:=
 ⟨.one (.oN (n:=0) (T:=T) (xs:=[]) (by rw[<-hp.len];simp) (by simp)),hp.nilRow hT⟩
def zV (P:Program) (E:Abs.Cx) (D:List (Nat×AT)) (H:List Ob) (T:Ty) (tx:Nat) (y:Operand) (ys:List (I T)):Prop:=∀ρ L h,EncL ρ H D L->HpR ρ H h->∃ns,FRl T ys ns/\Abs.lY P E L h (szT T) tx y ns
theorem jG (htb:TBOK P tb) {tx:Nat} {ui:TI} {T U:Ty} {y:Operand} {cy:C} {ys:List (I T)} (hu:tb tx=some ui) (hue:ui.elem=some U) (hy:ev D y=some (.one cy)) (hys:gm H T cy=some ys):zV P E D H T tx y ys:=λρ L h hs hh=>by
 obtain⟨j,G'⟩:=htb.get hu;obtain⟨el',z'',k0,k1,_⟩:=G'.elem U hue;obtain⟨av,c1,c2⟩:=ap hs hy;obtain⟨v,rfl,c3⟩:=c2.one';obtain⟨ns,n1,n2⟩:=uM hh c3 hys;exact⟨ns,n2,Abs.lV G'.tb k1 c1 n1⟩
omit [Zb]in
theorem pf :∀l:List UInt8,FRl .u (l.map λb=>(b.toNat:Int)) (l.map λc=>[V.lit (.int .u8 c.toNat)])
 |[]=>.nil
 | c :: l => by
  refine .cons ⟨rfl,λj h1 h2=> ?_⟩ (pf l);have:j=0:=by simp at h2;omega
  subst this;exact .k
theorem sW (htb:TBOK P tb) {tx:Nat} {ui:TI} {y:Operand} {s:ByteArray} (hu:tb tx=some ui) (hs0:ui.str=true) (hy:ev D y=some (.one (.s s))):zV P E D H .u tx y (ofS s):=λρ L h hs hh=>by
 obtain⟨j,G'⟩:=htb.get hu;obtain⟨av,c1,c2⟩:=ap hs hy;obtain⟨v,rfl,c3⟩:=c2.one';cases c3.str;exact⟨Abs.lD s,pf _,Abs.wo G'.tb G'.look (G'.str hs0) c1⟩
theorem mQ (htb:TBOK P tb) (hn:d<E.n) {t tx id n:Nat} {ti:TI} {T:Ty} {x y:Operand} {xs ys zs:List (I T)} (ht:tb t=some ti) (he:ti.elem=some T) (hx:ev D x=some (.one (.o id))) (hr:H[id]? =some (.row T n xs)) (hl:lim (xs++ys)=some zs) {ρ:Rho} {L:Env} {h:ag} (hs:EncL ρ H D L) (hh:HpR ρ H h) (hf:Fr F ρ H h) (hsrc:∃ns,FRl T ys ns/\Abs.lY P E L h (szT T) tx y ns):
  ar P ⟨some d,.call ⟨.builtin .append,#[x,y],#[t,tx]⟩,ty,pos,af,gd⟩ E (cR F H ρ (some d) L (.one (.o H.length)) ((H.set id .gone)++[.row T 0 zs])) L h:=by
 obtain⟨rfl,hlim⟩:=oc hl;obtain⟨i,G⟩:=htb.get ht;obtain⟨el,z',g0,g1,g2,g3,g4,g5,g6,g7,g8⟩:=G.elem T he;obtain⟨av,a1,a2⟩:=ap hs hx;obtain⟨u,rfl,a3⟩:=a2.one';obtain⟨ns,n2,n1⟩:=hsrc;have hlen:(H.set id Ob.gone).length=H.length:=by simp
 have hne:el.zero≠[]:=by intro e;rw[e]at g5;simp at g5;omega
 simp only[List.length_append]at hlim;have hev:Ev ρ H ρ (H.set id .gone):=Ev.set hr (evo.goes _);rcases a3.own hr with⟨a,rfl,a4⟩|⟨rfl,a4⟩
 ·obtain⟨es,e1,e2⟩:=hh.at_ a4 hr;have e3:=e2.frl;have hp1:HpR ρ (H.set id .gone) (h.set a none):=hh.set a4 hr (by simp) (evo.goes _) trivial;have hf1:Fr F ρ (H.set id .gone) (h.set a none):=hf.set a4 hr (by simp) (evo.goes _);obtain⟨m1,m2⟩:=iX g4 hp1 (e3.app n2);have hf2:=hf1.push hp1.len (.row T 0 (xs++ys)) (some (.row (szT T) (es++ns)));rw[hlen]at m1;rw[List.length_set]at m1 m2 hf2;refine Abs.uA G.tb a1 g1 hne g5 g3 e1 (by rw[Nat.zero_add,e3.len]) n1 (by rw[n2.len];omega) g7 hn ⟨ρ++[some h.length],_,rfl,?_,m2,hev.trans (Ev.push _ _),hf2⟩;rw[List.length_append,e3.len]at m1;exact m1
 ·obtain⟨rfl,_⟩:xs=[]/\True:=by
   rcases hh.row _ n _ _ hr with⟨a',es,h7,_⟩|⟨_,h7,_⟩
   ·rw[a4]at h7;cases h7
   ·exact⟨h7,trivial⟩
  have hp1:HpR ρ (H.set id .gone) h:=hh.gone hr;have hf1:Fr F ρ (H.set id .gone) h:=hf.gone hr;cases ns with
  | nil =>
   have:ys=[]:=by have:=n2.len;cases ys with|nil=>rfl|cons=>simp at this
   subst this;obtain⟨m1,m2⟩:=mm g4 hp1;rw[hlen]at m1;exact Abs.ju G.tb a1 g1 hne g5 g3 n1 hn ⟨ρ++[none],_,rfl,m1,m2,hev.trans (Ev.push _ _),hf1.nilRow hp1.len _⟩
  | cons n0 ns =>
   obtain⟨m1,m2⟩:=iX g4 hp1 n2;rw[hlen]at m1;exact Abs.jl G.tb a1 g1 hne g5 g3 n1 (by simp) (by rw[n2.len];omega) g7 hn ⟨ρ++[some h.length],_,rfl,m1,m2,hev.trans (Ev.push _ _),hf1.push hp1.len _ _⟩
theorem nC (htb:TBOK P tb) (hn:d<E.n) {t tx id n:Nat} {ti:TI} {T:Ty} {x y:Operand} {xs ys zs:List (I T)} (ht:tb t=some ti) (he:ti.elem=some T) (hx:ev D x=some (.one (.o id))) (hr:H[id]? =some (.row T n xs)) (hsrc:zV P E D H T tx y ys) (hl:lim (xs++ys)=some zs):
  cq P ⟨some d,.call ⟨.builtin .append,#[x,y],#[t,tx]⟩,ty,pos,af,gd⟩ E F D H (.one (.o H.length)) ((H.set id .gone)++[.row T 0 zs]):=λρ L h hs hh hf=>
 mQ htb hn ht he hx hr hl hs hh hf (hsrc ρ L h hs hh)
theorem xS (htb:TBOK P tb) (hn:d<E.n) {t tx id n:Nat} {ti ui:TI} {T U:Ty} {x y:Operand} {cy:C} {xs ys zs:List (I T)} (ht:tb t=some ti) (he:ti.elem=some T) (hu:tb tx=some ui) (hue:ui.elem=some U) (hx:ev D x=some (.one (.o id))) (hr:H[id]? =some (.row T n xs)) (hy:ev D y=some (.one cy)) (hys:gm H T cy=some ys) (hl:lim (xs++ys)=some zs):
  cq P ⟨some d,.call ⟨.builtin .append,#[x,y],#[t,tx]⟩,ty,pos,af,gd⟩ E F D H (.one (.o H.length)) ((H.set id .gone)++[.row T 0 zs]):=
 nC htb hn ht he hx hr (jG htb hu hue hy hys) hl
theorem jt (htb:TBOK P tb) (hn:d<E.n) {t tx:Nat} {ti:TI} {T T':Ty} {x y:Operand} {ys zs:List (I T)} (ht:tb t=some ti) (he:ti.elem=some T) (hx:ev D x=some (.one (.nil T'))) (hsrc:zV P E D H T tx y ys) (hl:lim ys=some zs):
  cq P ⟨some d,.call ⟨.builtin .append,#[x,y],#[t,tx]⟩,ty,pos,af,gd⟩ E F D H (.one (.o H.length)) (H++[.row T 0 zs]):=λρ L h hs hh hf=>by
 obtain⟨rfl,hlim⟩:=oc hl;obtain⟨i,G⟩:=htb.get ht;obtain⟨el,z',g0,g1,g2,g3,g4,g5,g6,g7,g8⟩:=G.elem T he;obtain⟨av,a1,a2⟩:=ap hs hx;obtain⟨u,rfl,a3⟩:=a2.one';have:u= .lit (.slice none 0 0):=by cases a3 with|fl h=>cases h|nil _=>rfl
 subst this;obtain⟨ns,n2,n1⟩:=hsrc ρ L h hs hh;have hne:el.zero≠[]:=by intro e;rw[e]at g5;simp at g5;omega
 cases ns with
 | nil =>
  have:zs=[]:=by have:=n2.len;cases zs with|nil=>rfl|cons=>simp at this
  subst this;obtain⟨m1,m2⟩:=mm g4 hh;exact Abs.ju G.tb a1 g1 hne g5 g3 n1 hn ⟨ρ++[none],_,rfl,m1,m2,Ev.push _ _,hf.nilRow hh.len _⟩
 | cons n0 ns =>
  obtain⟨m1,m2⟩:=iX g4 hh n2;exact Abs.jl G.tb a1 g1 hne g5 g3 n1 (by simp) (by rw[n2.len];omega) g7 hn ⟨ρ++[some h.length],_,rfl,m1,m2,Ev.push _ _,hf.push hh.len _ _⟩
theorem p7 (htb:TBOK P tb) (hn:d<E.n) {t tx:Nat} {ti ui:TI} {T U T':Ty} {x y:Operand} {cy:C} {ys zs:List (I T)} (ht:tb t=some ti) (he:ti.elem=some T) (hu:tb tx=some ui) (hue:ui.elem=some U) (hx:ev D x=some (.one (.nil T'))) (hy:ev D y=some (.one cy)) (hys:gm H T cy=some ys) (hl:lim ys=some zs):
  cq P ⟨some d,.call ⟨.builtin .append,#[x,y],#[t,tx]⟩,ty,pos,af,gd⟩ E F D H (.one (.o H.length)) (H++[.row T 0 zs]):=
 jt htb hn ht he hx (jG htb hu hue hy hys) hl
omit [Zb]in
theorem jV {ρ:Rho} {H:List Ob}:ATR ρ H (.tup []) (.tup []):=.tup rfl (λj h=>by simp at h)
theorem xG (htb:TBOK P tb) {t id off:Nat} {ti:TI} {x y:Operand} {v:AT} {cs vs:List C} (ht:tb t=some ti) (hx:ev D x=some (.one (.p id off))) (hb:H[id]? =some (.box cs)) (hy:ev D y=some v) (hv:cells v=some vs) (h1:ti.size=vs.length) (h2:off+vs.length<=cs.length):
  cq P ⟨none,.store t x y,ty,pos,af,gd⟩ E F D H (.tup []) (H.set id (.box (splice cs off vs))):=λρ L h hs hh hf=>by
 obtain⟨i,G⟩:=htb.get ht;obtain⟨av,a1,a2⟩:=ap hs hx;obtain⟨u,rfl,a3⟩:=a2.one';obtain⟨a,rfl,a4⟩:=a3.ptr;obtain⟨a',us,b1,b2,b3⟩:=hh.box id cs hb;rw[a4]at b1;cases b1;obtain⟨aw,c1,c2⟩:=ap hs hy;obtain⟨ws,c3,c4⟩:=ik hv c2;have he:evo (.box cs) (.box (splice cs off vs)):=.inr (.inr (.inl ⟨_,_,rfl,rfl⟩));have hev:Ev ρ H ρ (H.set id (.box (splice cs off vs))):=Ev.set hb he;have hsp:=CRs.splice b3 c4 off;have hlen:(Abs.splice us off ws).length=us.length:=Abs.nf (by rw[<-c4.1,<-b3.1];exact h2);refine Abs.rI G.tb a1 c1 c3 G.look (by rw[G.size,h1,c4.1]) b2 rfl (by rw[<-c4.1,<-b3.1];exact h2) ⟨ρ,.tup [],rfl,jV,?_,hev,?_⟩
 ·exact hh.set a4 hb (by simp) he ⟨_,by rw[hlen];rfl,hsp.mono hev⟩
 ·exact hf.set a4 hb (by simp) he
theorem Imp1.app {a b c e:List V} (h:Imp1 a b) (k:Imp1 c e):Imp1 (a++c) (b++e):=⟨by simp[h.1,k.1],λj h1 h2=>by
 by_cases hj:j<a.length
 ·rw[List.getElem_append_left hj,List.getElem_append_left (by rw[<-h.1];exact hj)];exact h.2 j hj (by rw[<-h.1];exact hj)
 ·rw[List.getElem_append_right (by omega),List.getElem_append_right (by rw[<-h.1];omega)];have:=k.2 (j-a.length) (by simp at h1;omega) (by simp at h2;have:=h.1;omega);have e:=h.1;simp only[e]at this ⊢;exact this⟩
omit [Zb]in
theorem FRs.app {a b:List C} {x y:List V} (h:FRs a x) (k:FRs b y):FRs (a++b) (x++y):=
 ⟨by simp [h.1, k.1], fun j h1 h2 => by
   by_cases hj:j<a.length
   · have hj':j<x.length:=by rw[<-h.1];exact hj
     rw[List.getElem_append_left hj,List.getElem_append_left hj'];exact h.2 j hj hj'
   · have hj':¬j<x.length:=by rw[<-h.1];exact hj
     rw[List.getElem_append_right (by omega),List.getElem_append_right (by omega)];have:=k.2 (j-a.length) (by simp at h1;omega) (by simp at h2;have:=h.1;omega);have e:=h.1;simp only[e]at this ⊢;exact this⟩
omit [Zb]in
theorem FRs.take {a:List C} {x:List V} (h:FRs a x) (n:Nat):FRs (a.take n) (x.take n):=
 ⟨by simp [h.1], fun j h1 h2 => by
  simp only[List.getElem_take];exact h.2 j (by simp at h1;omega) (by simp at h2;omega)⟩
omit [Zb]in
theorem FRs.drop {a:List C} {x:List V} (h:FRs a x) (n:Nat):FRs (a.drop n) (x.drop n):=
 ⟨by simp [h.1], fun j h1 h2 => by
  simp only[List.getElem_drop];exact h.2 (n+j) (by simp at h1;omega) (by simp at h2;omega)⟩
omit [Zb]in
theorem FRs.splice {cs ds:List C} {vs us:List V} (h:FRs cs vs) (k:FRs ds us) (off:Nat):FRs (splice cs off ds) (Abs.splice vs off us):=by
 unfold Den.splice Abs.splice;rw[<-k.1];exact(h.take off).app (k.app (h.drop _))
theorem Imps.set {a b:List (List V)} (h:Imps a b) {x y:List V} (hx:Imp1 x y):∀k,Imps (a.set k x) (b.set k y):=by
 induction h with
 |nil=>intro k;exact .nil
 | cons h k ih =>
  intro m;cases m with
  |zero=>exact .cons hx k
  |succ m=>exact .cons h (ih m)
omit [Zb]in
theorem zr {ds:List C} {us:List V} (hf:ds.all fE=true) (h:CRs [] [] ds us):FRs ds us:=⟨h.1,λj k1 k2=>vu (aT.1 hf _ (gM k1)) (h.2 j k1 k2)⟩
def tyC :C->Option Ty
 | .l T _=>some T
 |_=>none
omit [Zb]in
theorem qX :∀{a b cs:List C},a.map tyC=b.map tyC->me a cs=me b cs
 |[],[],_,_=>rfl
 |[],_::_,_,h=>by simp at h
 |_::_,[],_,h=>by simp at h
 |x::a,y::b,[],_=>by cases x<;>cases y<;>rfl
 | x :: a, y :: b, c :: cs, h => by
  simp only[List.map_cons,List.cons.injEq]at h;have ih:=qX (cs:=cs) h.2;have h1:=h.1;cases x<;>cases y<;>simp only[tyC,Option.some.injEq,reduceCtorEq]at h1<;>(try subst h1)<;>cases c<;>simp only[me,ih]
omit [Zb]in
theorem sC :∀(T:Ty) (x y:I T),(ah T x).map tyC=(ah T y).map tyC
 | .i,_,_| .b,_,_| .s,_,_| .u,_,_| .sl _,_,_| .n 0,_,_| .n 1,_,_| .n 2,_,_| .n 3,_,_| .n 4,_,_| .n 5,_,_| .n 6,_,_| .n 7,_,_| .n 8,_,_| .n 9,_,_| .n 10,_,_| .n 11,_,_| .n 12,_,_| .n 13,_,_| .n 14,_,_| .n 15,_,_| .n 16,_,_| .n (_+17),_,_=>rfl
theorem pp (htb:TBOK P tb) {t id m n n' off:Nat} {ti:TI} {T:Ty} {e e' x':I T} {x y:Operand} {v:AT} {vs ds:List C} {xs:List (I T)} (ht:tb t=some ti) (hx:ev D x=some (.one (.e id m n T e off))) (hr:H[id]? =some (.row T n' xs)) (hm:xs[m]? =some e') (hy:ev D y=some v) (hv:cells v=some vs) (hd:cU [] (me ((ah T e).drop off) vs)=some ds) (hi:fx T (splice (ah T e') off ds)=some x')
  (h1:ti.size=vs.length) (h2:off+vs.length<=szT T) (hT:0<szT T):
  cq P ⟨none,.store t x y,ty,pos,af,gd⟩ E F D H (.tup []) (H.set id (.row T (n'+1) (xs.set m x'))):=λρ L h hs hh hf=>by
 obtain⟨i,G⟩:=htb.get ht;obtain⟨av,a1,a2⟩:=ap hs hx;obtain⟨u,rfl,a3⟩:=a2.one';obtain⟨a,xs',rfl,a4,a5,a6,a7,a8⟩:=a3.eptr hr;obtain⟨es,b1,b2⟩:=hh.at_ a4 hr;obtain⟨ee,b3,b4⟩:=b2.elem hm;obtain⟨aw,c1,c2⟩:=ap hs hy;obtain⟨ws,c3,c4⟩:=ik hv c2;rw[qX (b:=(ah T e').drop off) (by rw[List.map_drop,List.map_drop,sC T e e'])]at hd;obtain⟨us,u1,_,u3,u4⟩:=iT hd (pH (us:=ee.drop off) ⟨by rw[List.length_drop,List.length_drop,b4.1],λj g1 g2=>by rw[List.getElem_drop,List.getElem_drop];exact b4.2 _ _ _⟩ c4);have hex:=dV hi;have hdf:ds.all fE=true:=by
  have hf:=kg hT x';rw[hex]at hf;unfold splice at hf;simp only[List.all_append,bA]at hf;exact hf.2.1
 have hfr:=(b4.splice (zr hdf u1) off);rw[<-hex]at hfr;have hws:ws.length=vs.length:=c4.1.symm;have hel:ee.length=szT T:=by rw[<-b4.1,bz T hT]
 have himp:Imp1 (Abs.splice ee off ws) (Abs.splice ee off us):=by
  unfold Abs.splice;refine(Imp1.refl _).app (Imp1.app ⟨u3,u4⟩ ?_);rw[<-u3];exact Imp1.refl _
 have hfl:FRl T (xs.set m x') (es.set m (Abs.splice ee off us)):=FRl.set hfr b2.frl m;have he:evo (.row T n' xs) (.row T (n'+1) (xs.set m x')):=.inr (.inl ⟨T,n',xs,n'+1,_,rfl,rfl,by simp,by omega,λe=>by omega⟩);have hev:Ev ρ H ρ (H.set id (.row T (n'+1) (xs.set m x'))):=Ev.set hr he;have hr2:=Abs.rI (P:=P) (E:=E) (L:=L) (h:=h) (ty:=ty) (pos:=pos) (af:=af) (gd:=gd) (K:=λL2 h2=>L2=L/\h2=h.set a (some (.row (szT T) (es.set m (Abs.splice ee off ws))))) G.tb a1 c1 c3 G.look (by rw[G.size,h1,hws]) b1 b3 (by rw[hws];exact h2) ⟨rfl,rfl⟩;refine kC hr2 λL2 h2' ⟨k1,k2⟩=> ?_;subst k1 k2;have halt:a<h.length:=(gI.1 b1).1;refine⟨_,h.set a (some (.row (szT T) (es.set m (Abs.splice ee off us)))),⟨ρ,.tup [],rfl,jV,hh.set a4 hr (by simp) he ⟨_,rfl,hfl.fr hT⟩,hev,hf.set a4 hr (by simp) he⟩,λLf=> ?_⟩;have:=Shift.imp (L:=L2++Lf) (h:=h.set a (some (.row (szT T) (es.set m (Abs.splice ee off ws))))) (id:=a) (s:=szT T) (es:=_) (es':=es.set m (Abs.splice ee off us)) (sS halt) ((Imps.refl es).set himp m) (hfl.lens hT);rw[List.set_set]at this;exact this
end
end
section
variable [Zb]
def Pl.has {X:Type} (p:Pl X) (x:X):Prop:=match p with
 | .no=>False
 | .ret y=>y=x
 | .opt m f=>∃a,m=some a/\f a=some x
omit [Zb]in
theorem Pl.run_has {X R:Type} {p:Pl X} {K:X->Option R} {r:R} (h:p.run K=some r):∃x,p.has x/\K x=some r:=by
 cases p with
 |no=>cases h
 |ret x=>exact⟨x,rfl,h⟩
 | opt m f =>
  cases m with
  |none=>cases h
  | some a =>
   simp only[Pl.run,bS]at h;split at h
   ·rename_i x hx;exact⟨x,⟨a,rfl,hx⟩,h⟩
   ·cases h
omit [Zb]in
theorem bind_some {α β:Type} {m:Option α} {f:α->Option β} {b:β} (h:m.bind f=some b):∃a,m=some a/\f a=some b:=by
 cases m with
 |none=>cases h
 |some a=>exact⟨a,rfl,h⟩
section
variable {P : Program} {E : Abs.Cx} {F : In} {ρ : Rho} {H : List Ob} {D : List (Nat × AT)} {L : Env} {h : ag} {d : Nat} {ty : TypeId} {pos : String} {af : Array Edge} {gd : Option (Nat × Bool)} {tb : Nat → Option TI}
omit [Zb]in
theorem ze {s:ByteArray} {i b:Int} (h:sIx s i=some b):0<=i/\∃c,s[i.toNat]? =some c/\b=c.toNat:=by
 unfold sIx at h;cases h0:decide (0<=i)with
 |false=>rw[h0]at h;cases h
 | true =>
  rw[h0]at h;simp only[cT]at h;split at h
  ·rename_i c hc;cases h;exact⟨of_decide_eq_true h0,c,hc,rfl⟩
  ·cases h
omit [Zb]in
theorem yd {s q:ByteArray} {a b:Int} (h:nn s a b=some q):0<=a/\a<=b/\b<=s.size/\q=s.extract a.toNat b.toNat:=by
 unfold nn at h;cases h0:(decide (0<=a)&&decide (a<=b)&&decide (b<=(s.size:Int)))with
 |false=>rw[h0]at h;cases h
 | true =>
  rw[h0]at h;simp only[bA,decide_eq_true_eq]at h0;cases h;exact⟨h0.1.1,h0.1.2,h0.2,rfl⟩
omit [Zb]in
theorem lH {n a b:Int} {u:Unit} (h:le n a b=some u):a=n/\b=n:=by
 unfold le at h;cases h0:(decide (a=n)&&decide (b=n))with
 |false=>rw[h0]at h;cases h
 |true=>simpa using h0
theorem wl (htb:TBOK P tb) (hs:EncL ρ H D L) (hn:d<E.n) {t:Nat} {ti:TI} {x y:Operand} {s:ByteArray} {i b:Int} (ht:tb t=some ti) (hst:ti.str=true) (hx:ev D x=some (.one (.s s))) (hy:ev D y=some (.one (.i i))) (hb:sIx s i=some b):
  bp P ⟨some d,.index t x y,ty,pos,af,gd⟩ E ρ H L h (.one (.k .u8 b)):=by
 obtain⟨ti',F⟩:=htb.get ht;obtain⟨av,h1,h2⟩:=ap hs hx;obtain⟨u,rfl,h3⟩:=h2.one';cases h3.str;obtain⟨aw,k1,k2⟩:=ap hs hy;obtain⟨u,rfl,k3⟩:=k2.one';cases k3.int;obtain⟨g1,c,g2,rfl⟩:=ze hb;exact⟨_,.one (.fl .k),Abs.ry F.tb h1 k1 F.look (F.str hst) g1 g2 hn ⟨rfl,rfl⟩⟩
theorem yf (htb:TBOK P tb) (hs:EncL ρ H D L) (hn:d<E.n) {t:Nat} {ti:TI} {x:Operand} {lo hi:Option Operand} {s q:ByteArray} {a b:Int} (ht:tb t=some ti) (hst:ti.str=true) (hx:ev D x=some (.one (.s s)))
  (hlo:(match lo with|some y=>ev D y|none=>some (.one (.i 0)))=some (.one (.i a))) (hhi:(match hi with|some y=>ev D y|none=>some (.one (.i s.size)))=some (.one (.i b))) (hq:nn s a b=some q):
  bp P ⟨some d,.slice t x lo hi none,ty,pos,af,gd⟩ E ρ H L h (.one (.s q)):=by
 obtain⟨ti',F⟩:=htb.get ht;obtain⟨av,h1,h2⟩:=ap hs hx;obtain⟨u,rfl,h3⟩:=h2.one';cases h3.str;obtain⟨s1,s2,s3,rfl⟩:=yd hq;obtain⟨a',rfl⟩:∃a':Nat,a=a':=⟨a.toNat,by omega⟩;obtain⟨b',rfl⟩:∃b':Nat,b=b':=⟨b.toNat,by omega⟩;refine⟨_,.one (.fl .s),Abs.rp (lo:=a') (hi:=b') (kl:=.i64) (kh:=.i64) F.tb h1 F.look (F.str hst) ?_ ?_ (by omega) (by omega) hn ⟨rfl,rfl⟩⟩
 ·cases lo with
  |none=>simp only[Option.some.injEq,AT.one.injEq,C.i.injEq]at hlo;exact .inl ⟨rfl,by omega⟩
  | some y =>
   obtain⟨aw,k1,k2⟩:=ap hs hlo;obtain⟨u,rfl,k3⟩:=k2.one';cases k3.int;exact .inr ⟨y,rfl,k1⟩
 ·cases hi with
  |none=>simp only[Option.some.injEq,AT.one.injEq,C.i.injEq]at hhi;exact .inl ⟨rfl,by omega⟩
  | some y =>
   obtain⟨aw,k1,k2⟩:=ap hs hhi;obtain⟨u,rfl,k3⟩:=k2.one';cases k3.int;exact .inr ⟨y,rfl,k1⟩
theorem C0 (htb:TBOK P tb) (hs:EncL ρ H D L) (hn:d<E.n) {t:Nat} {ti:TI} {x hi mx:Operand} {T T':Ty} {xs:List (I T)} {a b:Int} {u0:Unit} (ht:tb t=some ti) (he:ti.elem=some T') (hsz:szT T'=szT T) (hx:ev D x=some (.one (.l T xs))) (hh:ev D hi=some (.one (.i a))) (hm:ev D mx=some (.one (.i b))) (hc:le xs.length a b=some u0):
  bp P ⟨some d,.slice t x none (some hi) (some mx),ty,pos,af,gd⟩ E ρ H L h (.one (.lc T xs)):=by
 obtain⟨i',F⟩:=htb.get ht;obtain⟨el,z,_,g1,_,g2,g3,_⟩:=F.elem T' he;obtain⟨av,h1,h2⟩:=ap hs hx;obtain⟨u,rfl,h3⟩:=h2.one';obtain⟨es,rfl,h4⟩:=h3.list;obtain⟨aw,k1,k2⟩:=ap hs hh;obtain⟨u,rfl,k3⟩:=k2.one';cases k3.int;obtain⟨aw,m1,m2⟩:=ap hs hm;obtain⟨u,rfl,m3⟩:=m2.one';cases m3.int;obtain⟨rfl,rfl⟩:=lH hc;have hl:es.length=xs.length:=by cases h4 with|l _ hl _ _=>exact hl
 rw[<-hl]at k1 m1;exact⟨_,.one (.lc h4),Abs.CW F.tb h1 g1 (g2.trans hsz) (hsz▸g3) k1 m1 hn ⟨rfl,rfl⟩⟩
theorem tA (htb:TBOK P tb) (hs:EncL ρ H D L) (hn:d<E.n) {t:Nat} {ti:TI} {x hi mx:Operand} {T T':Ty} {a b:Int} {u0:Unit} (ht:tb t=some ti) (he:ti.elem=some T') (hx:ev D x=some (.one (.nil T))) (hh:ev D hi=some (.one (.i a))) (hm:ev D mx=some (.one (.i b))) (hc:le 0 a b=some u0):
  bp P ⟨some d,.slice t x none (some hi) (some mx),ty,pos,af,gd⟩ E ρ H L h (.one (.nil T)):=by
 obtain⟨i',F⟩:=htb.get ht;obtain⟨el,z,_,g1,_,g2,g3,_⟩:=F.elem T' he;obtain⟨av,h1,h2⟩:=ap hs hx;obtain⟨u,rfl,h3⟩:=h2.one';obtain⟨rfl,hp⟩:u= .lit (.slice none 0 0)/\0<szT T:=by cases h3 with|fl h=>cases h|nil hp=>exact⟨rfl,hp⟩
 obtain⟨aw,k1,k2⟩:=ap hs hh;obtain⟨u,rfl,k3⟩:=k2.one';cases k3.int;obtain⟨aw,m1,m2⟩:=ap hs hm;obtain⟨u,rfl,m3⟩:=m2.one';cases m3.int;obtain⟨rfl,rfl⟩:=lH hc;exact⟨_,.one (.nil hp),Abs.uJ F.tb h1 g1 (by omega) k1 m1 hn ⟨rfl,rfl⟩⟩
omit [Zb]in
theorem BX (k:IntKind) (a:Int):CR ρ H (CJ k a) (.lit (.int k (k.wrap a))):=by
 cases k<;>first|exact .fl .i|exact .fl .k
theorem wb (htb:TBOK P tb) (hs:EncL ρ H D L) (hn:d<E.n) {t1 t:Nat} {ti t1i:TI} {x:Operand} {c:C} {k0 k:IntKind} {a:Int} (ht1:tb t1=some t1i) (ht:tb t=some ti) (hi:ti.kd=some k) (hx:ev D x=some (.one c)) (hc:∀v,CR ρ H c v->v= .lit (.int k0 a)):
  bp P ⟨some d,.convert t1 t x,ty,pos,af,gd⟩ E ρ H L h (.one (CJ k a)):=by
 obtain⟨i1,F1⟩:=htb.get ht1;obtain⟨i,F⟩:=htb.get ht;obtain⟨av,h1,h2⟩:=ap hs hx;obtain⟨v,rfl,h3⟩:=h2.one';cases hc _ h3;obtain⟨T,g1,g2,g3⟩:=tK F1.ty F.ty;exact⟨_,.one (BX k a),Abs.Bq g1 h1 g2 g3 (F.kd k hi) hn ⟨rfl,rfl⟩⟩
omit [Zb]in
theorem FRl.bytes {xs:List (I .u)} {es:List (List V)} (h:FRl .u xs es):es=List.map (α:=Int) (λn=>[V.lit (.int .u8 n)]) xs:=by
 induction h with
 |nil=>rfl
 | @cons x e xs es h k ih =>
  rw[ih];show e::_=[V.lit (.int .u8 x)]::_
  congr 1
  obtain⟨h1,h2⟩:=h
  match e,h1,h2 with
  | [v], _, h2 =>
   have:=h2 0 (by simp[ah]) (by simp);simp only[ah,List.getElem_cons_zero]at this;cases this;rfl
theorem wP (htb:TBOK P tb) (hs:EncL ρ H D L) (hn:d<E.n) {t1 t:Nat} {ti t1i:TI} {x:Operand} {xs:List Int} (ht1:tb t1=some t1i) (ht:tb t=some ti) (he:t1i.elem=some .u) (hst:ti.str=true) (hx:ev D x=some (.one (.l .u xs))):
  bp P ⟨some d,.convert t1 t x,ty,pos,af,gd⟩ E ρ H L h (.one (.s (sOf xs))):=by
 obtain⟨i1,F1⟩:=htb.get ht1;obtain⟨i,F⟩:=htb.get ht;obtain⟨el,z,g0,g1,_,g2,g3,_⟩:=F1.elem .u he;obtain⟨av,h1,h2⟩:=ap hs hx;obtain⟨u,rfl,h3⟩:=h2.one';obtain⟨es,rfl,h4⟩:=h3.list;have h5:=h4.frl.bytes;subst h5;obtain⟨T,b1,b2,b3⟩:=tK F1.ty F.ty;have e1:Abs.dN T t1=some el:=by unfold Abs.dN;rw[b2];exact g0
 obtain⟨e2,_⟩:=Abs.aH b1 e1;obtain⟨e',e3,e4⟩:=F1.u8 he;have e5:e'=el.t:=by rw[e2]at e3;cases e3;rfl
 subst e5;exact⟨_,.one (.fl .s),Abs.rO b1 h1 e1 e4 b3 (F.str hst) hn ⟨rfl,rfl⟩⟩
omit [Zb]in
theorem jH {T T':Ty} {xs:List (ByteArray×I T')} {ys:List (ByteArray×I T)} (h:vS xs=some ys):∃e:T'=T,ys=e▸xs:=by
 unfold vS at h;split at h
 ·rename_i e;cases h;exact⟨e,rfl⟩
 ·cases h
omit [Zb]in
theorem vG {cs:List C} {vs:List V} (h:CRs ρ H cs vs):ATR ρ H (xR cs) (Abs.sv vs):=by
 match cs,vs,h with
 |[],[],h=>exact .agg h
 |[c],[v],h=>exact .one (h.2 0 (by simp) (by simp))
 |_::_::_,_::_::_,h=>exact .agg h
 |[],_::_,h=>exact absurd h.1 (by simp)
 |[_],[],h=>exact absurd h.1 (by simp)
 |[_],_::_::_,h=>exact absurd h.1 (by simp)
 |_::_::_,[],h=>exact absurd h.1 (by simp)
 |_::_::_,[_],h=>exact absurd h.1 (by simp)
omit [Zb]in
theorem su {T:Ty} (s:ByteArray):∀{kvs:List (ByteArray×I T)} {ws:List (ByteArray×List V)},kvs.length=ws.length->(∀(j:Nat) (h1:j<kvs.length) (h2:j<ws.length),kvs[j].1=ws[j].1/\FRs (ah T kvs[j].2) ws[j].2)->
  (uh kvs s=none/\Abs.ep ws s=none)\/∃x vs,uh kvs s=some x/\Abs.ep ws s=some vs/\FRs (ah T x) vs
 |[],[],_,_=>.inl ⟨rfl,rfl⟩
 |[],_::_,h,_=>by simp at h
 |_::_,[],h,_=>by simp at h
 | (a, b) :: kvs, (a', b') :: ws, hl, hr => by
  obtain⟨h1,h2⟩:=hr 0 (by simp) (by simp);simp only[List.getElem_cons_zero]at h1 h2;subst h1;simp only[uh,Abs.ep];by_cases e:a=s
  ·rw[if_pos e,if_pos e];exact .inr ⟨b,b',rfl,rfl,h2⟩
  ·rw[if_neg e,if_neg e];exact su s (by simpa using hl) (λj k1 k2=>hr (j+1) (by simpa using k1) (by simpa using k2))
theorem wm (htb:TBOK P tb) (hs:EncL ρ H D L) (hh:HpR ρ H h) (hn:d<E.n) {t id:Nat} {ti:TI} {T:Ty} {x y:Operand} {s:ByteArray} {kvs:List (ByteArray×I T)} {z:I T} (ht:tb t=some ti) (hm:ti.map=some T) (hx:ev D x=some (.one (.m id))) (hy:ev D y=some (.one (.s s))) (ho:H[id]? =some (.map T kvs)) (hz:fO T=some z):
  bp P ⟨some d,.lookup t x y false,ty,pos,af,gd⟩ E ρ H L h (xR (ah T (mM kvs s z)))/\bp P ⟨some d,.lookup t x y true,ty,pos,af,gd⟩ E ρ H L h (.tup [xR (ah T (mM kvs s z)),.one (.b (Cp kvs s))]):=by
 obtain⟨i',F⟩:=htb.get ht;obtain⟨m,z',m1,m2,m3,m4⟩:=F.map T hm;rw[hz]at m2;cases m2;obtain⟨_,us,u1,u2⟩:=eS m4;have hus:∀ι I w,Abs.VRs ι I w us m.zero:=λι I w=>by
  have hl:m.zero.length=us.length:=by have:=u2.1;simpa using this
  refine⟨hl,λj hj=> ?_⟩;have hj':j<m.zero.length:=by omega
  refine⟨m.zero[j],gE hj',?_⟩;refine u2.2 j (by simpa using hj') hj I w ι _ ?_;rw[List.getElem_map];have:=(eS m4).1;exact .lit (Abs.ke (aT.1 this _ (gM hj')))
 obtain⟨av,h1,h2⟩:=ap hs hx;obtain⟨u,rfl,h3⟩:=h2.one';obtain⟨aw,k1,k2⟩:=ap hs hy;obtain⟨u',rfl,k3⟩:=k2.one';cases k3.str;obtain⟨a,ws,o1,o2,o3,o4,o5⟩:=hh.map id T kvs ho;have hid:u= .mp a:=by
  cases h3 with
  |fl h=>cases h
  |m hm1=>rw[o1]at hm1;cases hm1;rfl
 subst hid;have key:CRs ρ H (ah T (mM kvs s z)) (match Abs.ep ws s with|some vs=>vs|none=>us)/\Cp kvs s=(Abs.ep ws s).isSome:=by
  unfold mM Cp;rcases su s o3 o5 with⟨g1,g2⟩|⟨x',vs,g1,g2,g3⟩
  ·rw[g1,g2];exact⟨u1.cr,rfl⟩
  ·rw[g1,g2];exact⟨g3.cr,rfl⟩
 constructor
 ·exact⟨_,vG key.1,Abs.xx m1 h1 k1 o2 hus hn ⟨rfl,rfl⟩⟩
 ·refine⟨_,?_,Abs.sg          m1 h1 k1 o2 hus hn ⟨rfl,rfl⟩⟩;refine .tup rfl (λj h1 h2=> ?_)
  match j,h1 with
  |0,_=>exact vG key.1
  |1,_=>rw[key.2];exact .one (.fl .b)
omit [Zb]in
theorem vc :∀{xs:List AT} {cs:List C} {avs:List AV},ones xs=some cs->xs.length=avs.length->(∀(j:Nat) (h1:j<xs.length) (h2:j<avs.length),ATR ρ H xs[j] avs[j])->∃vs,avs=vs.map AV.one/\CRs ρ H cs vs
 | [], cs, avs, h, hl, hr => by
  cases h;cases avs with
  |nil=>exact⟨[],rfl,.nil_⟩
  |cons _ _=>simp at hl
 | .one c :: xs, cs, avs, h, hl, hr => by
  simp only[ones]at h;split at h
  ·rename_i cs' h1;cases h;cases avs with
   |nil=>simp at hl
   | cons av avs =>
    obtain⟨vs,rfl,k2⟩:=vc h1 (by simpa using hl) (λj a b=>hr (j+1) (by simpa using a) (by simpa using b));have:=hr 0 (by simp) (by simp);simp only[List.getElem_cons_zero]at this;obtain⟨v,rfl,k3⟩:=this.one';exact⟨v::vs,rfl,.cons k3 k2⟩
  ·cases h
 | .agg _::xs,cs,avs,h,hl,hr=>by cases h
 | .tup _::xs,cs,avs,h,hl,hr=>by cases h
theorem mo (htb:TBOK P tb) {op:Go.Op} (hn:d<E.n) {v:AT} (hv:(qu tb op D H).has v) (hs:EncL ρ H D L) (hh:HpR ρ H h):bp P ⟨some d,op,ty,pos,af,gd⟩ E ρ H L h v:=by
 unfold qu at hv;split at hv
 ·split at hv
  ·rename_i s i h1 h2 h3;obtain⟨b,e1,e2⟩:=hv;cases e2;obtain⟨ti,t1,t2⟩:=Option.map_eq_some_iff.1 h1;exact wl htb hs hn t1 t2 h2 h3 e1
  ·cases hv
 ·split at hv
  ·rename_i s h1 h2;split at hv
   ·rename_i a b h3 h4;obtain⟨q,e1,e2⟩:=hv;cases e2;obtain⟨ti,t1,t2⟩:=Option.map_eq_some_iff.1 h1;exact yf htb hs hn t1 t2 h2 h3 h4 e1
   ·cases hv
  ·cases hv
 ·split at hv
  ·rename_i T' T xs a b h1 h2 h3 h4;split at hv
   ·rename_i hb;obtain⟨q,e1,e2⟩:=hv;cases e2;obtain⟨ti,t1,t2⟩:=bind_some h1;exact C0 htb hs hn t1 t2 (nB hb) h2 h3 h4 e1
   ·cases hv
  ·rename_i T' T a b h1 h2 h3 h4;obtain⟨q,e1,e2⟩:=hv;cases e2;obtain⟨ti,t1,t2⟩:=bind_some h1;exact tA htb hs hn t1 t2 h2 h3 h4 e1
  ·cases hv
 ·split at hv
  ·rename_i t1i kd a h1 h2 h3;cases hv;obtain⟨ti,t1,t2⟩:=bind_some h2;exact wb htb hs hn h1 t1 t2 h3 (λv hv=>hv.int)
  ·rename_i t1i kd k a h1 h2 h3;cases hv;obtain⟨ti,t1,t2⟩:=bind_some h2;exact wb htb hs hn h1 t1 t2 h3 (λv hv=>hv.kint)
  ·rename_i ti0 xs h1 h2 h3;split at hv
   ·rename_i h4 h5;cases hv;obtain⟨ti,t1,t2⟩:=Option.map_eq_some_iff.1 h5;exact wP htb hs hn h1 t1 h4 t2 h3
   ·cases hv
  ·cases hv
 ·split at hv
  ·rename_i a h1;cases hv;obtain⟨av,k1,k2⟩:=ap hs h1;obtain⟨u,rfl,k3⟩:=k2.one';cases k3.int;exact⟨_,.one (.fl .i),Abs.Dp k1 hn ⟨rfl,rfl⟩⟩
  ·rename_i a h1;cases hv;obtain⟨av,k1,k2⟩:=ap    hs h1;obtain⟨u,rfl,k3⟩:=k2.one';cases k3 with
   |fl k3=>
   cases k3;exact⟨_,.one (.fl .k),Abs.Cr k1 hn ⟨rfl,rfl⟩⟩
  ·cases hv
 ·rename_i args tys;split at hv
  ·rename_i x y ha;obtain rfl:args= #[x,y]:=by rw[<-ha]
   split at hv
   ·rename_i a b h1 h2;cases hv;obtain⟨av,k1,k2⟩:=ap hs h1;obtain⟨u,rfl,k3⟩:=k2.one';cases k3.int;obtain⟨aw,m1,m2⟩:=ap hs h2;obtain⟨u,rfl,m3⟩:=m2.one';cases m3.int;exact⟨_,.one (.fl .i),Abs.Fp k1 m1 hn ⟨rfl,rfl⟩⟩
   ·cases hv
  ·cases hv
 ·rename_i args tys;split at hv
  ·rename_i x y ha;obtain rfl:args= #[x,y]:=by rw[<-ha]
   split at hv
   ·rename_i a b h1 h2;cases hv;obtain⟨av,k1,k2⟩:=ap hs h1;obtain⟨u,rfl,k3⟩:=k2.one';cases k3.int;obtain⟨aw,m1,m2⟩:=ap hs h2;obtain⟨u,rfl,m3⟩:=m2.one';cases m3.int;exact⟨_,.one (.fl .i),Abs.Fo k1 m1 hn ⟨rfl,rfl⟩⟩
   ·cases hv
  ·cases hv
 ·split at hv
  ·rename_i T id s h1 h2 h3;obtain⟨ti,t1,t2⟩:=bind_some h1;split at hv
   ·rename_i T2 kvs z h4 h5;split at hv
    ·rename_i kvs' h6;obtain⟨e,rfl⟩:=jH         h6;subst e;have:=wm        (P:=P) (E:=E) (h:=h) (ty:=ty) (pos:=pos) (af:=af) (gd:=gd) htb hs hh hn t1 t2 h2 h3 h4 h5;split at hv
     ·cases hv;exact this.1
     ·cases hv;exact this.2
    ·cases hv
   ·cases hv
  ·cases hv
 ·rename_i f first caps
  split at hv
  ·rename_i xs h1 h2;obtain rfl:first= #[]:=by rw[<-h1]
   split at hv
   ·rename_i cs h3;cases hv;obtain⟨avs,k1,k2,k3⟩:=uE hs h2;obtain⟨vs,k4,k5⟩:=vc h3 k2 k3;have:=Abs.rE (P:=P) (E:=E) (K:=λL2 h2=>L2=(d,.one (.clo (.func f) vs))::L/\h2=h) (ty:=ty) (pos:=pos) (af:=af) (gd:=gd) (f:=f) k1 k4 hn ⟨rfl,rfl⟩;rw[Array.toArray_toList]at this;exact⟨_,.one (.f k5.1 k5.2),this⟩
   ·cases hv
  ·cases hv
 ·cases hv
omit [Zb]in
theorem ja {Hm H:List Ob} (hl:∀(id:Nat) (x:Ob),Hm[id]? =some x->x≠.gone->H[id]? =some x) {op:Go.Op} {v:AT} (hv:(qu tb op D Hm).has v):(qu tb op D H).has v:=by
 unfold qu at hv ⊢;split at hv
 all_goals first
  |exact hv
  |(cases hv;done)
  |skip
 ·split at hv
  ·split at hv
   ·rename_i hx hz;rw[hl _ _ hx (by simp),hz];exact hv
   ·cases hv
  ·cases hv
theorem uO (htb:TBOK P tb) (hn:d<E.n) {t tx:Nat} {ti:TI} {T:Ty} {x y:Operand} {xs ys zs:List (I T)} (ht:tb t=some ti) (he:ti.elem=some T) (hx:ev D x=some (.one (.lc T xs))) (hsrc:zV P E D H T tx y ys) (hl:EV xs ys=some zs):
  cq P ⟨some d,.call ⟨.builtin .append,#[x,y],#[t,tx]⟩,ty,pos,af,gd⟩ E F D H (.one (.o H.length)) (H++[.row T 0 zs]):=λρ L h hs hh hf=>by
 obtain⟨i,G⟩:=htb.get ht;obtain⟨el,z',g0,g1,g2,g3,g4,g5,g6,g7,g8⟩:=G.elem T he;obtain⟨av,a1,a2⟩:=ap hs hx;obtain⟨u,rfl,a3⟩:=a2.one';obtain⟨es,rfl,e2⟩:∃es,u= .immc (szT T) es/\FR (.l T xs) (.imm (szT T) es):=by cases a3 with|fl h=>cases h|lc h=>exact⟨_,rfl,h⟩
 obtain⟨ns,n2,n1⟩:=hsrc ρ L h hs hh;have hne:el.zero≠[]:=by intro e;rw[e]at g5;simp at g5;omega
 unfold EV at hl;split at hl
 ·cases hl
 ·rename_i y0 ys0;obtain⟨rfl,hlim⟩:=oc       hl;have e3:=e2.frl;obtain⟨m1,m2⟩:=iX      g4 hh (e3.app n2);have hpos:0<ns.length:=by rw[n2.len];simp
  simp only[List.length_append]at hlim;refine Abs.tU G.tb a1 g1 hne g5 g3 n1 hpos (by rw[n2.len,e3.len];omega) g7 hn ⟨ρ++[some h.length],_,rfl,?_,m2,Ev.push _ _,hf.push hh.len _ _⟩;rw[List.length_append]at m1;exact m1
theorem tF (hn:d<E.n) {t:Nat} {T:Ty} (hT:0<szT T):cq P ⟨some d,.makeMap t none,ty,pos,af,gd⟩ E F D H (.one (.m H.length)) (H++[.map T []]):=λρ L h hs hp hf=>by
 refine Abs.uf hn ⟨ρ++[some h.length],_,rfl,.one (.m ?_),hp.push ⟨[],rfl,rfl,hT,λj h=>by simp at h⟩,Ev.push _ _,hf.push hp.len _ _⟩;rw[<-hp.len];simp
theorem qh (htb:TBOK P tb) {op:Go.Op} (hn:d<E.n) {v:AT} {H':List Ob} (hv:(uc tb op D H).has (v,H')):cq P ⟨some d,op,ty,pos,af,gd⟩ E F D H v H':=by
 unfold uc at hv;split at hv
 ·split at hv
  ·rename_i T h1;cases hv;obtain⟨ti,t1,t2⟩:=bind_some h1;obtain⟨i,G⟩:=htb.get t1;obtain⟨m,z,_,_,m3,_⟩:=G.map T t2;exact tF hn m3
  ·cases hv
 ·rename_i args tys;split at hv
  ·rename_i x y t tx ha ht;obtain rfl:args= #[x,y]:=by rw[<-ha]
   obtain rfl:tys= #[t,tx]:=by rw[<-ht]
   split at hv
   ·rename_i T T' xs cy h1 h2 h3;split at hv
    ·rename_i U xs' ys h4 h5 h6;obtain⟨e,rfl⟩:=bL h5;subst e;obtain⟨zs,e1,e2⟩:=hv;cases e2;obtain⟨ti,t1,t2⟩:=bind_some h1;obtain⟨ui,u1,u2⟩:=bind_some h4;exact uO htb hn t1 t2 h2 (jG htb u1 u2 h3 h6) e1
    ·cases hv
   ·rename_i id s h1 h2 h3;split at hv
    ·rename_i n xs h4 h5;obtain⟨zs,e1,e2⟩:=hv;cases e2;obtain⟨ti,t1,t2⟩:=bind_some h1;obtain⟨ui,u1,u2⟩:=Option.map_eq_some_iff.1 h4;exact nC htb hn t1 t2 h2 h5 (sW htb u1 u2 h3) e1
    ·cases hv
   ·rename_i T' s h1 h2 h3;split at hv
    ·rename_i h4;obtain⟨zs,e1,e2⟩:=hv;cases e2;obtain⟨ti,t1,t2⟩:=bind_some h1;obtain⟨ui,u1,u2⟩:=Option.map_eq_some_iff.1 h4;exact jt htb hn t1 t2 h2 (sW htb u1 u2 h3) e1
    ·cases hv
   ·cases hv
  ·cases hv
 ·cases hv
theorem kD (htb:TBOK P tb) {t id:Nat} {ti:TI} {T:Ty} {x k y:Operand} {s:ByteArray} {kvs:List (ByteArray×I T)} {v:AT} {vs ds:List C} {e:I T} (ht:tb t=some ti) (hm:ti.map=some T) (hx:ev D x=some (.one (.m id))) (hk:ev D k=some (.one (.s s))) (ho:H[id]? =some (.map T kvs))
  (hy:ev D y=some v) (hv:cells v=some vs) (has:v=xR vs) (hp:cU [] vs=some ds) (hi:fx T ds=some e):cq P ⟨none,.mapUpdate t x k y,ty,pos,af,gd⟩ E F D H (.tup []) (H.set id (.map T ((s,e)::kvs))):=λρ L h hs hh hf=>by
 obtain⟨i',G⟩:=htb.get ht;obtain⟨m,z',m1,m2,m3,m4⟩:=G.map T hm;obtain⟨av,h1,h2⟩:=ap hs hx;obtain⟨u,rfl,h3⟩:=h2.one';obtain⟨aw,k1,k2⟩:=ap hs hk;obtain⟨u',rfl,k3⟩:=k2.one';cases k3.str;obtain⟨a,ws,o1,o2,o3,o4,o5⟩:=hh.map id T kvs ho;have hid:u= .mp a:=by
  cases h3 with
  |fl h=>cases h
  |m hm1=>rw[o1]at hm1;cases hm1;rfl
 subst hid;obtain⟨ay,y1,y2⟩:=ap hs hy;obtain⟨us,y3,y4⟩:=ik hv y2;have hay:ay=Abs.sv us:=by
  subst has
  match vs,y2,hv,y4 with
  |[],y2,hv,y4=>cases y2 with|agg h=>cases y3;have:=h.1;cases us with|nil=>rfl|cons _ _=>simp at this
  |[c],y2,hv,y4=>obtain⟨q,rfl,_⟩:=y2.one';cases y3;rfl
  | c :: c2 :: l, y2, hv, y4 =>
   cases y2 with
   | agg h =>
    cases y3;have:=h.1
    match us,this with
    |_::_::_,_=>rfl
 subst hay;obtain⟨ws',w1,w2⟩:=uS m3 hp hi y4;have he:evo (.map T kvs) (.map T ((s,e)::kvs)):=.inr (.inr (.inr (.inl ⟨_,_,_,rfl,rfl⟩)));refine Abs.qM m1 h1 k1 y1 w2.1 (λj h1 h2 I w ι u hu=>w2.2 j h1 h2 I w ι u hu) o2 ⟨ρ,.tup [],rfl,jV,hh.set o1 ho (by simp) he ⟨(s,ws')::ws,rfl,by simp[o3],o4,λj h1 h2=> ?_⟩,Ev.set ho he,hf.set o1 ho (by simp) he⟩;cases j with
 |zero=>exact⟨rfl,w1⟩
 |succ j=>exact o5 j (by simpa using h1) (by simpa using h2)
theorem FW     (htb : TBOK P tb) {op : Go.Op} {H' : List Ob} (hv : (opX tb op D H).has H') : cq   P ⟨none, op, ty, pos, af, gd⟩ E F D H (.tup []) H' := by
 unfold opX at hv;split at hv
 ·split at hv
  ·rename_i T id s vs h1 h2 h3 h4;obtain⟨ti,t1,t2⟩:=bind_some h1;obtain⟨v,v1,v2⟩:=bind_some h4;split at hv
   ·rename_i T2 kvs ds h5 h6;split at hv
    ·rename_i kvs' y c h7 h8 h9;obtain⟨e,rfl⟩:=jH         h7;subst e;split at hv
     ·cases hv;rw[v1]at h9;cases h9;cases v2;exact kD htb t1 t2 h2 h3 h5 v1 rfl rfl h6 h8
     ·cases hv
    ·rename_i kvs' y cs h7 h8 h9;obtain⟨e,rfl⟩:=jH         h7;subst e;split at hv
     ·cases hv
     ·rename_i hb;cases hv;rw[v1]at h9;cases h9;cases v2;have hne:vs.length≠1:=λe=>hb (by
       have e1:=dV h8;obtain⟨i',G⟩:=htb.get t1;obtain⟨m,z',m1,m2,m3,m4⟩:=G.map _ t2;have e2:=bz _ m3 y;rw[e1]at e2
       have e3:∀{a b:List C},cU [] a=some b->b.length=a.length:=by
        intro a
        induction a with
        |nil=>intro b hb;cases hb;rfl
        | cons q a ih =>
         intro b hb;simp only[cU]at hb;split at hb
         ·rename_i r1 r2;cases hb;simp[ih r2]
         ·cases hb
       have:=e3 h6;rw[show szT T2=1 by omega];rfl)
      refine kD htb t1 t2 h2 h3 h5 v1 rfl ?_ h6 h8;clear h6 h4 v1
      match vs,hne with
      |[],_=>rfl
      |[_],hne=>exact absurd rfl hne
      |_::_::_,_=>rfl
    ·cases hv
   ·cases hv
  ·cases hv
 ·cases hv
end
end
section
variable [Zb]
section
variable {P : Program} {E : Abs.Cx} {F : In} {ρ : Rho} {H : List Ob} {D : List (Nat × AT)} {L : Env} {h : ag} {d : Nat} {ty : TypeId} {pos : String} {af : Array Edge} {gd : Option (Nat × Bool)} {tb : Nat → Option TI}
omit [Zb]in
theorem uY {op:BinOp} {a b:C} {v:AT} (h:(BL op a b).has v):∃c,v= .one c/\Cb op a b some=some c:=by
 have key:∀{p:Bool} {y:Int},(∃q,(bif p then some y else none)=some q/\(some (AT.one (.i q)):Option AT)=some v)->∃c,v= .one c/\(bif p then some (C.i y)else none)=some c:=by
  rintro p y ⟨q,h1,h2⟩;cases p with
  |true=>cases h1;cases h2;exact⟨_,rfl,rfl⟩
  |false=>cases h1
 have keyU:∀{p:Bool} {y:Int},(∃q,(bif p then some y else none)=some q/\(some (AT.one (.k .u64 q)):Option AT)=some v)->∃c,v= .one c/\(bif p then some (C.k .u64 y)else none)=some c:=by
  rintro p y ⟨q,h1,h2⟩;cases p with
  |true=>cases h1;cases h2;exact⟨_,rfl,rfl⟩
  |false=>cases h1
 unfold BL at h;unfold Cb;split at h
 ·exact key h
 ·exact key h
 ·exact key h
 ·exact key h
 ·exact key h
 ·exact key h
 ·rename_i x y;obtain⟨q,h1,h2⟩:=h;unfold cQ   at h1;cases hp:decide (x.size+y.size<=1099511627776)with
  |true=>rw[hp]at h1;cases h1;cases h2;exact⟨_,rfl,rfl⟩
  |false=>rw[hp]at h1;cases h1
 ·exact keyU h
 ·exact keyU h
 ·split at h
  ·rename_i c hc;cases h;exact⟨c,rfl,rfl⟩
  ·cases h
theorem vK (htb:TBOK P tb) {o:Oper} {d:Nat} (hd:o.dst=some d) (hn:d<E.n) {v:AT} (hv:(wY tb o D H).has v) (hs:EncL ρ H D L) (hh:HpR ρ H h):bp P o E ρ H L h v:=by
 obtain⟨dst,op,ty,pos,af,gd⟩:=o;simp only at hd;subst hd
 have hmove:∀{x:Operand},Pl.has (match ev D x with
  | some (.one .zs) => match (tb ty).bind (·.elem) with
   |some T=>.ret (.one (.nil T))
   |none=>.no
  |some v=>.ret v
  |none=>.no) v->∃av,Abs.ev L x=some av/\ATR ρ H v av:=by
  intro x hv;split at hv
  ·rename_i hx;split at hv
   ·rename_i T hT;cases hv;obtain⟨ti,t1,t2⟩:=bind_some hT;obtain⟨i,G⟩:=htb.get t1;obtain⟨el,z',g0,g1,g2,g3,g4,_⟩:=G.elem T t2;obtain⟨av,h1,h2⟩:=ap    hs hx;obtain⟨u,rfl,h3⟩:=h2.one';have:u= .lit (.slice none 0 0):=by cases h3 with|fl h=>cases h|zs=>rfl
    subst this;exact⟨_,h1,.one (.nil g4)⟩
   ·cases hv
  ·rename_i hx;cases hv;exact ap hs hx
  ·cases hv
 unfold wY at hv;simp only at hv;split at hv
 ·obtain⟨av,h1,h2⟩:=hmove hv;exact⟨av,h2,Abs.Ds h1 hn ⟨rfl,rfl⟩⟩
 ·obtain⟨av,h1,h2⟩:=hmove hv;exact⟨av,h2,Abs.xL h1 hn ⟨rfl,rfl⟩⟩
 ·split at hv
  ·rename_i p hc;cases p with
   | true =>
    simp only at hv;split at hv
    ·rename_i va ha;cases hv;exact u9 hs hn hc ha
    ·cases hv
   | false =>
    simp only at hv;split at hv
    ·rename_i va ha;cases hv;exact u9 hs hn hc ha
    ·cases hv
  ·cases hv
 ·rename_i t parts;split at hv
  ·rename_i ti ps h1 h2;split at hv
   ·rename_i f fs cs h3 h4;cases hv;have:=AU (P:=P) (E:=E) (h:=h) (ty:=ty) (pos:=pos) (af:=af) (gd:=gd) htb hs hn h1 h2 (by rw[h3];simp) h4;exact this
   ·cases hv
  ·cases hv
 ·split at hv
  ·rename_i ti id off h1 h2;split at hv
   ·rename_i fo _ h3;cases hv;exact wL htb hs hn h1 h2 h3
   ·cases hv
  ·rename_i ti T y off h1 h2;split at hv
   ·rename_i fo _ h3;cases hv;exact yc htb hs hn h1 h2 h3
   ·cases hv
  ·rename_i ti id k n T y off h1 h2;split at hv
   ·rename_i _ _ _ fo _ h3 h4;cases hv;exact wB htb hs hn h1 h2 h3 h4
   ·cases hv
  ·cases hv
 ·split at hv
  ·rename_i ti cs h1 h2;split at hv
   ·rename_i fo ft _ h3;split at hv
    ·rename_i fi h4;split at hv
     ·rename_i v' h5;cases hv;exact CV htb hs hn h1 h2 h3 h4 h5
     ·cases hv
    ·cases hv
   ·cases hv
  ·cases hv
 ·split at hv
  ·rename_i ti id off h1 h2;split at hv
   ·rename_i cs h3;split at hv
    ·rename_i v' h4;cases hv;exact Aa htb hs hh hn h1 h2 h3 h4
    ·cases hv
   ·cases hv
  ·rename_i ti T y off h1 h2;split at hv
   ·rename_i v' h4;cases hv;exact zK htb hs hn h1 h2 h4
   ·cases hv
  ·rename_i ti id k n T y off h1 h2;split at hv
   ·rename_i T' n' xs h3;obtain⟨av,a1,a2⟩:=ap    hs h2;obtain⟨u,rfl,a3⟩:=a2.one';obtain⟨a,xs',rfl,c4,c5,c6,c7,c8⟩:=a3.eptr h3;split at hv
    ·rename_i hb;have hb:=nB hb;split at hv
     ·rename_i v' h4;cases hv;exact ro htb hs hh hn h1 h2 c5 (c8 hb) h4
     ·cases hv
    ·split at hv
     ·rename_i xs2 hc;obtain⟨e,rfl⟩:=bL hc;subst e;obtain⟨y',e1,e2⟩:=hv;exact ro htb hs hh hn h1 h2 h3 e1 e2
     ·cases hv
   ·cases hv
  ·cases hv
 ·split at hv
  ·rename_i T' T xs i h1 h2 h3;split at hv
   ·rename_i hb;obtain⟨e,e1,e2⟩:=hv;cases e2;obtain⟨ti,t1,t2⟩:=bind_some h1;exact wF htb hs hn t1 t2 (nB hb) h2 h3 e1
   ·cases hv
  ·rename_i T' id i h1 h2 h3;split at hv
   ·rename_i T n xs h4;split at hv
    ·rename_i hb;obtain⟨e,e1,e2⟩:=hv;cases e2;obtain⟨ti,t1,t2⟩:=bind_some h1;exact xw htb hs hh hn t1 t2 (nB hb) h2 h4 h3 e1
    ·cases hv
   ·cases hv
  ·cases hv
 ·split at hv
  ·rename_i T' T xs h1 h2;split at hv
   ·rename_i hb;split at hv
    ·rename_i a b h3 h4;obtain⟨ys,e1,e2⟩:=hv;cases e2;obtain⟨ti,t1,t2⟩:=bind_some h1;exact AY htb hs hn t1 t2 (nB hb) h2 h3 h4 e1
    ·cases hv
   ·cases hv
  ·exact mo htb hn hv hs hh
 ·split at hv
  ·rename_i h1;cases hv;exact Ct hs hn h1
  ·rename_i h1;cases hv;exact Bx hs hn h1
  ·cases hv
 ·split at hv
  ·rename_i a b h1 h2;split at hv
   ·rename_i p;split at hv
    ·rename_i h3;obtain⟨ti,t1,t2⟩:=Option.map_eq_some_iff.1 h3;obtain⟨c,rfl,h4⟩:=uY hv;obtain⟨c',h5,h6⟩:=yO (P:=P) (E:=E) (h:=h) (ty:=ty) (pos:=pos) (af:=af) (gd:=gd) hs hn h1 h2 (λ_ _=>⟨ti,t1,t2⟩) htb h4;cases h5;exact h6
    ·cases hv
   ·rename_i hnb;obtain⟨c,rfl,h4⟩:=uY hv;obtain⟨c',h5,h6⟩:=yO (P:=P) (E:=E) (h:=h) (ty:=ty) (pos:=pos) (af:=af) (gd:=gd) hs hn h1 h2 (λp e=>absurd e (hnb p)) htb h4;cases h5;exact h6
  ·cases hv
 ·split at hv
  ·rename_i h1;cases hv;exact E0 hs hn h1
  ·cases hv
 ·split at hv
  ·rename_i xs h1;split at hv
   ·rename_i v' h2;cases hv;exact tI hs hn h1 h2
   ·cases hv
  ·cases hv
 ·split at hv
  ·rename_i t1i ti a h1 h2 h3;split at hv
   ·rename_i h4;cases hv;exact Ge htb hs hn h1 h2 h4 h3
   ·exact mo htb hn hv hs hh
  ·exact mo htb hn hv hs hh
 ·rename_i args tys;split at hv
  ·rename_i x t ha ht;obtain rfl:args= #[x]:=by rw[<-ha]
   obtain rfl:tys= #[t]:=by rw[<-ht]
   split at hv
   ·rename_i ti s h1 h2;split at hv
    ·rename_i h3;cases hv;exact CA htb hs hn h1 h3 h2
    ·cases hv
   ·rename_i ti c h1 h2;split at hv
    ·rename_i T n h3 h4;cases hv;exact FX htb hs hh hn h1 h3 h2 h4
    ·cases hv
   ·cases hv
  ·cases hv
 ·exact mo htb hn hv hs hh
theorem C8 (htb : TBOK P tb) {o : Oper} {d : Nat} (hd : o.dst = some d) (hn : d < E.n) {v : AT} {H' : List Ob} (hv : (As tb o D H).has (v, H')) : cq P o E F D H v H' := by
 obtain⟨dst,op,ty,pos,af,gd⟩:=o;simp only at hd;subst hd;unfold As at hv;simp only at hv;split at hv
 ·split at hv
  ·rename_i ti h1;cases hv;exact zg htb hn h1
  ·cases hv
 ·split at hv
  ·rename_i cs h1;cases hv;obtain⟨v',h2,h3⟩:=bind_some h1;exact FU hn h2 h3
  ·cases hv
 ·rename_i t len parts;split at hv
  ·rename_i T ps h1 h2;split at hv
   ·rename_i z h3;split at hv
    ·rename_i xs h4 h5;cases hv;obtain⟨ti,t1,t2⟩:=bind_some h1;exact ow htb hn t1 t2 h3 h2 h4 h5
    ·cases hv
   ·cases hv
  ·cases hv
 ·split at hv
  ·rename_i T n h1 h2 h3;split at hv
   ·rename_i z h4;obtain⟨xs,e1,e2⟩:=hv;cases e2;obtain⟨ti,t1,t2⟩:=bind_some h1;exact CM htb hn t1 t2 h4 h2 h3 e1
   ·cases hv
  ·cases hv
 ·rename_i args tys;split at hv
  ·rename_i x y t tx ha ht;obtain rfl:args= #[x,y]:=by rw[<-ha]
   obtain rfl:tys= #[t,tx]:=by rw[<-ht]
   split at hv
   ·rename_i T U cx cy h1 h2 h3 h4;obtain⟨ti,t1,t2⟩:=bind_some h1;obtain⟨ui,u1,u2⟩:=bind_some h2;split at hv
    ·rename_i ys h5;split at hv
     ·rename_i id;split at hv
      ·rename_i T' n xs h6;split at hv
       ·rename_i xs' h7;obtain⟨e,rfl⟩:=bL h7;subst e;obtain⟨zs,e1,e2⟩:=hv;cases e2;exact xS htb hn t1 t2 u1 u2 h3 h6 h4 h5 e1
       ·cases hv
      ·cases hv
     ·obtain⟨zs,e1,e2⟩:=hv;cases e2;exact p7 htb hn t1 t2 u1 u2 h3 h4 h5 e1
     ·exact qh htb hn hv
    ·cases hv
   ·exact qh htb hn hv
  ·cases hv
 ·exact qh htb hn hv
theorem BE (htb:TBOK P tb) {o:Oper} {d:Nat} (hd:o.dst=some d) (hn:d<E.n) {v:AT} (hv:(Ek tb o D).has v):cq P o E F D H v H:=by
 obtain⟨dst,op,ty,pos,af,gd⟩:=o;simp only at hd;subst hd;unfold Ek at hv;simp only at hv;split at hv
 ·rename_i t len parts;split at hv
  ·rename_i T ps h1 h2;split at hv
   ·rename_i z h3;split at hv
    ·rename_i xs h4 h5;cases hv;obtain⟨ti,t1,t2⟩:=bind_some h1;exact sL htb hn t1 t2 h3 h2 h4 h5
    ·cases hv
   ·cases hv
  ·cases hv
 ·cases hv
theorem FQ     (htb : TBOK P tb) {o : Oper} (hd : o.dst = none) {H' : List Ob} (hv : (opN tb o D H).has H') : cq   P o E F D H (.tup []) H' := by
 obtain⟨dst,op,ty,pos,af,gd⟩:=o;simp only at hd;subst hd;unfold opN at hv;simp only at hv;split at hv
 ·split at hv
  ·rename_i ti id off vs h1 h2 h3;obtain⟨v',k1,k2⟩:=bind_some h3;split at hv
   ·rename_i cs h4;split at hv
    ·rename_i hb;simp only[bA]at hb;cases hv;exact xG htb h1 h2 h4 k1 k2 (nB hb.1) (Nat.le_of_ble_eq_true hb.2)
    ·cases hv
   ·cases hv
  ·rename_i ti id k n T e off vs h1 h2 h3;obtain⟨v',k1,k2⟩:=bind_some h3;split at hv
   ·rename_i ds h4;split at hv
    ·rename_i T' n' xs h5;split at hv
     ·rename_i xs' h6;obtain⟨eT,rfl⟩:=bL         h6;subst eT;split at hv
      ·rename_i hb;simp only[bA]at hb;have b1:=nB hb.1.1;have b2:=Nat.le_of_ble_eq_true hb.1.2;have b3:0<szT T':=by simpa [Nat.blt_eq]using hb.2
       split at hv
       ·rename_i hb;have hb:=nB hb;split at hv
        ·rename_i x' h7;cases hv;intro ρ L h hs hh hf;obtain⟨av,a1,a2⟩:=ap hs h2;obtain⟨u,rfl,a3⟩:=a2.one';obtain⟨a,xs2,rfl,c4,c5,c6,c7,c8⟩:=a3.eptr h5;rw[h5]at c5;cases c5;exact pp htb h1 h2 h5 (c8 hb) k1 k2 h4 h7 b1 b2 b3 ρ L h hs hh hf
        ·cases hv
       ·obtain⟨e',e1,e2⟩:=hv;dsimp only at e2;split at e2
        ·rename_i x' h7;cases e2;exact pp htb h1 h2 h5 e1 k1 k2 h4 h7 b1 b2 b3
        ·cases e2
      ·cases hv
     ·cases hv
    ·cases hv
   ·cases hv
  ·cases hv
 ·exact FW htb hv
end
end
section
variable [Zb]
def trV (id s:Nat) (es:List (List V)) (c:C) (v:V):V:=match c with
 | .o j=>if j=id then .imm s es else v
 |_=>v
def trA (id s:Nat) (es:List (List V)):AT->AV->AV
 | .one c,.one v=>.one (trV id s es c v)
 | .agg cs,.agg vs=>.agg (List.zipWith (trV id s es) cs vs)
 |_,av=>av
def trL (id s:Nat) (es:List (List V)) (D:List (Nat×AT)) (L:Env):List Nat->Env
 |[]=>[]
 | t :: ts => match D.lookup t, L.lookup t with
  |some v,some av=>(t,trA id s es v av)::trL id s es D L ts
  |_,_=>trL id s es D L ts
omit [Zb]in
theorem jF (id s:Nat) (es:List (List V)) (D:List (Nat×AT)) (L:Env) (t:Nat):∀(ts:List Nat) (u:AV),(trL id s es D L ts).lookup t=some u->∃v av,D.lookup t=some v/\L.lookup t=some av/\u=trA id s es v av
 |[],u,h=>by simp[trL]at h
 | k :: ts, u, h => by
  simp only[trL]at h;split at h
  ·rename_i v av h1 h2;rw[List.lookup_cons]at h;by_cases e:t=k
   ·subst e;simp at h;exact⟨v,av,h1,h2,h.symm⟩
   ·have:(t==k)=false:=by simpa using e
    rw[this]at h;exact jF id s es D L t ts u h
  ·exact jF id s es D L t ts u h
omit [Zb]in
theorem vm (id s:Nat) (es:List (List V)) (D:List (Nat×AT)) (L:Env) (t:Nat) {v:AT} {av:AV} (h1:D.lookup t=some v) (h2:L.lookup t=some av):∀(ts:List Nat),t∈ts->(trL id s es D L ts).lookup t=some (trA id s es v av)
 |[],h=>by simp at h
 | k :: ts, h => by
  by_cases e:t=k
  ·subst e;simp[trL,h1,h2]
  ·have hm:t∈ts:=by rcases List.mem_cons.1 h with h|h;exact absurd h e;exact h
   have ih:=vm id s es D L t h1 h2 ts hm;simp only[trL];split
   ·rw[List.lookup_cons];have:(t==k)=false:=by simpa using e
    rw[this];exact ih
   ·exact ih
omit [Zb]in
theorem ua {α:Type} {D:List (Nat×α)} {t:Nat} {v:α} (h:D.lookup t=some v):t∈D.map Prod.fst:=by
 induction D with
 |nil=>simp at h
 | cons p D ih =>
  rw[List.lookup_cons]at h;by_cases e:t=p.1
  ·simp[e]
  ·have:(t==p.1)=false:=by simpa using e
   rw[this]at h;simp[ih h]
omit [Zb]in
theorem tW {D:List (Nat×AT)} {f:AT->AT} {t:Nat}:(D.map λp=>(p.1,f p.2)).lookup t=(D.lookup t).map f:=by
 induction D with
 |nil=>rfl
 | cons p D ih =>
  obtain⟨k,z⟩:=p;simp only[List.map_cons];rw[List.lookup_cons,List.lookup_cons];cases t==k with
  |true=>rfl
  |false=>exact ih
section
variable {P : Program} {E : Abs.Cx} {F : In} {ρ : Rho} {H : List Ob} {D : List (Nat × AT)} {L : Env} {h : ag}
omit [Zb]in
theorem DH {id n:Nat} {T:Ty} {xs:List (I T)} {es:List (List V)} (hr:H[id]? =some (.row T n xs)) (hx:FR (.l T xs) (.imm (szT T) es)) {c:C} {v:V} (hc:CR ρ H c v):CR ρ (H.set id .gone) (c.fz id T xs) (trV id (szT T) es c v):=by
 have hev:Ev ρ H ρ (H.set id .gone):=Ev.set hr (evo.goes _);by_cases e:c= .o id
 ·subst e;simp only[C.fz,trV,if_true];rw[if_pos (Nat.beq_refl id)];exact .fl hx
 ·have e1:c.fz id T xs=c:=by
   cases c<;>simp only[C.fz];rename_i j;rw[if_neg (λhb=>e (by rw[nB hb]))]
  have e2:trV id (szT T) es c v=v:=by
   unfold trV;split
   ·rename_i j;rw[if_neg (λhb=>e (by rw[hb]))]
   ·rfl
  rw[e1,e2];exact hc.mono hev
omit [Zb]in
theorem zn {id n:Nat} {T:Ty} {xs:List (I T)} {es:List (List V)} (hr:H[id]? =some (.row T n xs)) (hx:FR (.l T xs) (.imm (szT T) es)) {cs:List C} {vs:List V} (hc:CRs ρ H cs vs):CRs ρ (H.set id .gone) (cs.map (C.fz id T xs)) (List.zipWith (trV id (szT T) es) cs vs):=
 ⟨by simp [hc.1], fun j h1 h2 => by
  simp only[List.getElem_map,List.getElem_zipWith];exact DH hr hx (hc.2 j (by simpa using h1) (by have:=hc.1;simp at h1;omega))⟩
omit [Zb]in
theorem za {id n:Nat} {T:Ty} {xs:List (I T)} {es:List (List V)} (hr:H[id]? =some (.row T n xs)) (hx:FR (.l T xs) (.imm (szT T) es)) {v:AT} {av:AV} (hc:ATR ρ H v av):ATR ρ (H.set id .gone) (v.fz id T xs) (trA id (szT T) es v av):=by
 cases hc with
 |one h=>exact .one (DH hr hx h)
 |agg h=>exact .agg (zn hr hx h)
 |tup hl h=>exact(ATR.tup hl h).mono (Ev.set hr (evo.goes _))
theorem Bh {E:Abs.Cx} {h2:ag} {ι:List Abs.Inf} {I I':Nat->Prop} {a:Act} {w:World} {id s:Nat} {es:List (List V)} (r:Abs.Rel E L h ι I a w) (r':Abs.Rel E L h2 ι I' a w) (hk:Abs.Keeps I I' w w) (hs:EncL ρ H D L)
  (hv:∀(c:C) (v:V) (u:Value),CR ρ H c v->Abs.VR I w ι v u->Abs.VR I' w ι (trV id s es c v) u):Abs.Rel E (trL id s es D L (D.map Prod.fst)) h2 ι I' a w:=by
 refine {r' with slots:=λt u hu=> ?_};obtain⟨v,av,h1,h2',rfl⟩:=jF id s es D L t _ u hu;obtain⟨av',h3,h4⟩:=hs t v h1;rw[h2']at h3;cases h3;obtain⟨c,k1,k2⟩:=r.slots t av h2';refine⟨c,k1,?_⟩;cases h4 with
 |one hc=>cases k2 with|one k2=>exact .one (hv _ _ _ hc k2)
 | @agg cs vs hc =>
  cases k2 with
  | agg hl hcs hr =>
   have hlen:=hc.1;refine .agg (by simp[hl,hlen]) (λj hj=>hcs j (by simp at hj;omega)) (λj hj=> ?_);simp only[List.getElem_zipWith];exact hv _ _ _ (hc.2 j (by simp at hj;omega) (by simp at hj;omega)) (hr j (by simp at hj;omega))
 |tup hl hh=>exact k2.keep (Abs.Grows.refl _) hk
def dQ :Rho->List Ob->Nat->Option (List C)
 |some b::ρ,.box cs::H,a=>if b=a then some cs else dQ ρ H a
 |_::ρ,_::H,a=>dQ ρ H a
 |_,_,_=>none
omit [Zb]in
theorem gu :∀{ρ:Rho} {H:List Ob} {a:Nat} {cs:List C},dQ ρ H a=some cs->∃id:Nat,ρ[id]? =some (some a)/\H[id]? =some (Ob.box cs)
 |[],H,a,cs,h=>by unfold dQ at h;cases h
 |x::ρ,[],a,cs,h=>by unfold dQ at h;cases x<;>cases h
 | x :: ρ, o :: H, a, cs, h => by
  have up:dQ ρ H a=some cs->∃id:Nat,(x::ρ)[id]? =some (some a)/\(o::H)[id]? =some (Ob.box cs):=λh=>by
   obtain⟨id,h1,h2⟩:=gu h;exact⟨id+1,by simpa using h1,by simpa using h2⟩
  unfold dQ at h;split at h
  ·rename_i b _ ds _ _ e1 e2;cases e1;cases e2;split at h
   ·rename_i e;subst e;cases h;exact⟨0,rfl,rfl⟩
   ·exact up h
  ·rename_i e1 e2;cases e1;cases e2;exact up h
  ·cases h
omit [Zb]in
theorem pm :∀{ρ:Rho} {H:List Ob} {a id:Nat} {cs:List C},(∀(i j:Nat),ρ[i]? =some (some a)->ρ[j]? =some (some a)->live H i->live H j->i=j)->ρ[id]? =some (some a)->H[id]? =some (.box cs)->dQ ρ H a=some cs
 |[],H,a,id,cs,_,h1,_=>by simp at h1
 |x::ρ,[],a,id,cs,_,_,h2=>by simp at h2
 | x :: ρ, o :: H, a, id, cs, hi, h1, h2 => by
  cases id with
  | zero =>
   simp at h1 h2;subst h1 h2;simp[dQ]
  | succ id =>
   have hl:∀{i:Nat},live H i->live (o::H) (i+1):=λ{i} ⟨y,y1,y2⟩=>⟨y,by simpa using y1,y2⟩
   have ih:=pm (ρ:=ρ) (H:=H) (a:=a) (id:=id) (cs:=cs) (λi j a1 a2 l1 l2=>by have:=hi (i+1) (j+1) (by simpa using a1) (by simpa using a2) (hl l1) (hl l2);omega) (by simpa using h1) (by simpa using h2);unfold dQ;split
   ·rename_i b _ ds _ _ e1 e2;cases e1;cases e2;rw[if_neg (λe=>by
     have:=hi 0 (id+1) (by simp[e]) h1 ⟨_,rfl,by simp⟩ ⟨_,h2,by simp⟩;omega)]
    exact ih
   ·rename_i e1 e2;cases e1;cases e2;exact ih
   ·rename_i hx;exact(hx _ _ _ _ rfl rfl).elim
def trO (id s:Nat) (es:List (List V)) (ρ:Rho) (H:List Ob) (a:Nat) (o:Option Abs.Ob):Option Abs.Ob:=match dQ ρ H a,o with
 |some cs,some (.row k [vs])=>some (.row k [List.zipWith (trV id s es) cs vs])
 |_,o=>o
def n7 (id s:Nat) (es:List (List V)) (ρ:Rho) (H:List Ob) (h:ag):ag:=h.mapIdx (trO id s es ρ H)
omit [Zb]in
theorem m9 {id s:Nat} {es:List (List V)} {a:Nat}:(n7 id s es ρ H h)[a]? =(h[a]?).map (trO id s es ρ H a):=by simp[n7]
omit [Zb]in
theorem nG {id s:Nat} {es:List (List V)} {a:Nat} {o:Option Abs.Ob} (h:dQ ρ H a=none):trO id s es ρ H a o=o:=by unfold trO;rw[h]
omit [Zb]in
theorem Aj {id s:Nat} {es:List (List V)} {a:Nat} {o:Option Abs.Ob} {x:Abs.Ob} (h:trO id s es ρ H a o=some x):∃y,o=some y:=by
 cases o with
 |some y=>exact⟨y,rfl⟩
 |none=>cases hb:dQ ρ H a<;>simp[trO,hb]at h
theorem u7 {E:Abs.Cx} {L2:Env} {hb:ag} {ι:List Abs.Inf} {I I':Nat->Prop} {a:Act} {w:World} {id s:Nat} {es:List (List V)} (r:Abs.Rel E L h ι I a w) (r':Abs.Rel E L2 hb ι I' a w) (hp:HpR ρ H h) (hsub:∀(b:Nat) (o:Abs.Ob),hb[b]? =some (some o)->h[b]? =some (some o))
  (hv:∀(c:C) (v:V) (u:Value),CR ρ H c v->Abs.VR I w ι v u->Abs.VR I' w ι (trV id s es c v) u):Abs.Rel E L2 (n7 id s es ρ H hb) ι I' a w:=by
 have dn:∀{b:Nat} {o:Abs.Ob},(n7 id s es ρ H hb)[b]? =some (some o)->∃o0,hb[b]? =some (some o0)/\trO id s es ρ H b (some o0)=some o:=λ{b o} hx=>by
  rw[m9]at hx;obtain⟨o1,h1,h2⟩:=Option.map_eq_some_iff.1 hx;obtain⟨y,rfl⟩:=Aj h2;exact⟨y,h1,h2⟩
 exact
 { r' with
   heap := by
     refine⟨by simp[n7,r'.heap.len],λb o f x y=> ?_,λb o f x y=> ?_,λb b' o o' f f' x x' y y' e=> ?_,r'.heap.sub⟩
     · obtain⟨o0,k1,k2⟩:=dn x
       have hor:=r'.heap.obj b o0 f k1 y;unfold trO at k2;split at k2
       · rename_i cs k vs hb1 e
         cases e;cases k2;obtain⟨id',g1,g2⟩:=gu hb1;obtain⟨a',vs',m1,m2,m3⟩:=hp.box id' cs g2;rw[g1]at m1;cases m1;rw[hsub b _ k1]at m2;cases m2;obtain⟨cur,t,q1,q2,q3,q4,q5,q6,q7⟩:=r.heap.obj b _ f (hsub b _ k1) y;have hlen:=m3.1;refine⟨cur,t,q1,q2,q3,q4,by simpa using q5,λe he=>by simp at he;subst he;simp[hlen],λk hk j hj=> ?_⟩;simp at hk;subst hk;simp only[List.getElem_cons_zero]at hj ⊢;have hj':j<vs.length:=by simp at hj;omega
         obtain⟨u,u1,u2⟩:=q7 0 (by simp) j (by simpa using hj');refine⟨u,u1,?_⟩;rw[List.getElem_zipWith];exact hv _ _ _ (m3.2 j (by simp at hj;omega) hj') (by simpa using u2)
       · rename_i hne
         cases k2;exact hor
     · obtain⟨o0,k1,_⟩:=dn x
       exact r'.heap.off b o0 f k1 y
     · obtain⟨o0,k1,_⟩:=dn x
       obtain⟨o1,k2,_⟩:=dn x';exact r'.heap.inj b b' o0 o1 f f' k1 k2 y y' e
   mine:=λb o f x y=>by
     obtain⟨o0,k1,_⟩:=dn x;exact r'.mine b o0 f k1 y}
omit [Zb]in
theorem vy {id n:Nat} {T:Ty} {xs:List (I T)} (_hr:H[id]? =some (.row T n xs)):Ev ρ (H.set id .gone) ρ ((H.set id .gone).map (Ob.fz id T xs)):=
 ⟨fun _ _ h => h, fun j x hx => ⟨x.fz id T xs, by rw [List.getElem?_map, hx]; rfl, by
  cases x with
  |box cs=>exact .inr (.inr (.inl ⟨_,_,rfl,rfl⟩))
  |row T n xs=>exact evo.refl _
  |map T kvs=>exact evo.refl _
  |gone=>exact evo.refl _
  |rows T xss ho=>exact evo.refl _⟩⟩
omit [Zb]in
theorem vV {id n s:Nat} {T:Ty} {xs:List (I T)} {es:List (List V)} {hb:ag} (hs:s=szT T) (hp:HpR ρ H h) (hr:H[id]? =some (.row T n xs)) (hx:FR (.l T xs) (.imm (szT T) es)) (hbk:∀(b:Nat),ρ[id]?≠some (some b)->hb[b]? =h[b]?) (hbl:hb.length=h.length):
  HpR ρ ((H.set id .gone).map (Ob.fz id T xs)) (n7 id s es ρ H hb):=by
 subst hs;have hev:=vy (ρ:=ρ) hr;have hlv:∀{i:Nat},live ((H.set id .gone).map (Ob.fz id T xs)) i->live H i:=λ{i} l=>((Ev.set (ρ:=ρ) hr (evo.goes _)).trans hev).lv (by simpa using l.lt) l
 refine HpR.mk' (by simp[hp.len]) (λj x hx'=> ?_) (λi j a k1 k2 l1 l2=>hp.inj i j a k1 k2 (hlv l1) (hlv l2)) (λi b hi=>by simp[n7,hbl];exact hp.lt i b hi);simp only[List.getElem?_map,Option.map_eq_some_iff]at hx';obtain⟨x0,k1,rfl⟩:=hx';rcases fD k1 with⟨rfl,rfl,_⟩|⟨hne,k1⟩
 ·exact .inr (.inr rfl)
 ·have hdf:(x0.fz id T xs).dead=x0.dead:=by cases x0<;>rfl
  by_cases hg0:x0.dead=true
  ·exact .inr (.inr (hdf.trans hg0))
  have hg0:x0.dead=false:=by simpa using hg0
  have hlj:live H j:=⟨_,k1,hg0⟩
  have hbox:∀{b:Nat},ρ[j]? =some (some b)->(∀cs,x0≠.box cs)->dQ ρ H b=none:=λ{b} hb1 hn=>by
   cases hq:dQ ρ H b with
   |none=>rfl
   | some cs =>
    obtain⟨id',g1,g2⟩:=gu hq;have:=hp.inj _ _ _ g1 hb1 ⟨_,g2,by simp⟩ hlj;subst this;rw[k1]at g2;cases g2;exact absurd rfl (hn cs)
  have hb':∀{b:Nat},ρ[j]? =some (some b)->hb[b]? =h[b]? :=λ{b} hb1=>hbk b λe=>hne (hp.inj _ _ _ hb1 e hlj ⟨_,hr,by simp⟩)
  rcases hp.ob k1 with⟨b,y,m1,m2,m3⟩|⟨m1,T',n',rfl,m3⟩|hd
  ·refine .inl ⟨b,trO id (szT T) es ρ H b y,m1,by rw[m9      ,hb' m1,m2];rfl,?_⟩;cases x0 with
   | box cs =>
    obtain⟨vs,rfl,q⟩:=m3;have hq:=pm (H:=H) (λi j a1 a2=>hp.inj i j b a1 a2) m1 k1;refine⟨List.zipWith (trV id (szT T) es) cs vs,?_,(zn hr hx q).mono hev⟩;unfold trO;rw[hq];simp[q.1]
   |row T' n' xs'=>rw[nG (hbox m1 (λcs e=>by cases e))];exact m3
   |map T' kvs=>rw[nG (hbox m1 (λcs e=>by cases e))];exact m3
   |gone=>trivial
   |rows T' xss' ho'=>trivial
  ·exact .inr (.inl ⟨m1,T',n',rfl,m3⟩)
  ·exact .inr (.inr (hdf.trans hd))
omit [Zb]in
theorem vM {id n s:Nat} {T:Ty} {xs:List (I T)} {es:List (List V)} {hb:ag} (hf:Fr F ρ H h) (hr:H[id]? =some (.row T n xs)) (hbk:∀(b:Nat),ρ[id]?≠some (some b)->hb[b]? =h[b]?) (hbl:hb.length=h.length):
  Fr F ρ ((H.set id .gone).map (Ob.fz id T xs)) (n7 id s es ρ H hb):=
 hf.step ((Ev.set hr (evo.goes _)).trans (vy hr)) (by simp[n7,hbl]) (λi _ h1 l=>.inl ⟨i,h1,((Ev.set (ρ:=ρ) hr (evo.goes _)).trans (vy hr)).lv (by simpa using l.lt) l⟩) (λb hb1 hn=>by
  rw[m9,hbk b (λe=>hn id e ⟨_,hr,by simp⟩)];have:dQ ρ H b=none:=by
   cases hq:dQ ρ H b with
   |none=>rfl
   |some cs=>obtain⟨id',g1,g2⟩:=gu hq;exact absurd ⟨_,g2,by simp⟩ (hn id' g1)
  cases h[b]? with
  |none=>rfl
  |some o=>simp[nG this])
omit [Zb]in
theorem u5 {id n:Nat} {T:Ty} {xs:List (I T)} (hr:H[id]? =some (.row T n xs)):RowsSame H ((H.set id .gone).map (Ob.fz id T xs)):=λj y hy hy2=>by
 simp only[List.getElem?_map,Option.map_eq_some_iff]at hy;obtain⟨x0,k1,rfl⟩:=hy;rcases fD k1 with⟨rfl,rfl,_⟩|⟨hne,k1⟩
 ·cases hy2
 ·cases x0 with
  |rows T xss ho=>exact k1
  |_=>cases hy2
theorem DG {st:St} (hs:SR F ρ st L h) {id n:Nat} {T:Ty} {xs:List (I T)} (hr:st.H[id]? =some (.row T n xs)):∃L2 h2,Abs.Shift L h L2 h2/\SR F ρ (st.fz id T xs) L2 h2:=by
 have enc:∀es,FR (.l T xs) (.imm (szT T) es)->EncL ρ ((st.H.set id .gone).map (Ob.fz id T xs)) (st.L.map λp=>(p.1,p.2.fz id T xs)) (trL id (szT T) es st.L L (st.L.map Prod.fst)):=λes hx t v hv=>by
  rw[tW]at hv;obtain⟨v0,h1,rfl⟩:=Option.map_eq_some_iff.1 hv;obtain⟨av,h2,h3⟩:=hs.slots t v0 h1;exact⟨_,vm id _ es st.L L t h1 h2 _ (ua h1),(za hr hx h3).mono (vy hr)⟩
 rcases hs.heap.row id n T xs hr with⟨a,es,h1,h2,h3⟩|⟨h1,rfl,h3⟩
 ·have hbk:∀(b:Nat),ρ[id]?≠some (some b)->(h.set a none)[b]? =h[b]? :=λb hb=>sN (λe=>hb (by rw[<-e];exact h1));refine⟨trL id (szT T) es st.L L (st.L.map Prod.fst),n7   id (szT T) es ρ st.H (h.set a none),⟨λE ι I act w r=> ?_⟩,enc es h3,vV      rfl hs.heap hr h3 hbk (by simp),vM    hs.fr hr hbk (by simp),hs.xr.keep (vM    (Fr.refl ρ st.H h) hr hbk (by simp)) (u5      hr)⟩;obtain⟨inf,hι,_,_⟩:=r.row h2;have hv:∀(c:C) (v:V) (u:Value),CR ρ st.H c v->Abs.VR I w ι v u->Abs.VR (λb=>I b\/b=inf.block) w ι (trV id (szT T) es c v) u:=λc v u hc hv=>by
   have hk:Abs.Keeps I (λb=>I b\/b=inf.block) w w:=⟨λ_ h=>.inl h,λ_ _=>rfl⟩;by_cases e:c= .o id
   ·subst e;simp only[trV,if_true];rcases hc.own hr with⟨a',rfl,h4⟩|⟨rfl,h4⟩
    ·rw[h1]at h4;cases h4;have hl:=h3.frl.len;have:=Abs.VR.fz r h2 hι h3.flats hv (Abs.kf (by simp[Abs.V.fits,hl]));simpa [Abs.V.fz,<-hl]using this
    ·rw[h1]at h4;cases h4
   ·have e2:trV id (szT T) es c v=v:=by
     unfold trV;split
     ·rename_i j;rw[if_neg (λhb=>e (by rw[hb]))]
     ·rfl
    rw[e2];exact hv.keep (Abs.Grows.refl _) hk
  refine⟨_,u7 r (Bh r (r.freeze h2 hι) ⟨λ_ h=>.inl h,λ_ _=>rfl⟩ hs.slots hv) hs.heap (λb o hb=> ?_) hv⟩;rcases fD hb with⟨_,e,_⟩|⟨_,hb⟩
  ·cases e
  ·exact hb
 ·refine⟨trL id (szT T) [] st.L L (st.L.map Prod.fst),n7   id (szT T) [] ρ st.H h,⟨λE ι I act w r=> ?_⟩,enc [] (.nil_ h3),vV      rfl hs.heap hr (.nil_ h3) (λ_ _=>rfl) rfl,vM    hs.fr hr (λ_ _=>rfl) rfl,hs.xr.keep (vM    (Fr.refl ρ st.H h) hr (λ_ _=>rfl) rfl) (u5      hr)⟩;have hv:∀(c:C) (v:V) (u:Value),CR ρ st.H c v->Abs.VR I w ι v u->Abs.VR I w ι (trV id (szT T) [] c v) u:=λc v u hc hv=>by
   by_cases e:c= .o id
   ·subst e;simp only[trV,if_true];rcases hc.own hr with⟨a',rfl,h4⟩|⟨rfl,h4⟩
    ·rw[h1]at h4;cases h4
    ·cases hv;exact .imm0 (Nat.zero_le _)
   ·have e2:trV id (szT T) [] c v=v:=by
     unfold trV;split
     ·rename_i j;rw[if_neg (λhb=>e (by rw[hb]))]
     ·rfl
    rw[e2];exact hv
  exact⟨I,u7 r (Bh r r (Abs.Keeps.refl _ _) hs.slots hv) hs.heap (λ_ _ h=>h) hv⟩
structure Conv (h:ag) (a:Nat) (es:List (List V)) (T:Ty) (xss:List (List (I T))) (n:Nat) (hk:ag) (ek:List (List V)):Prop where
 main:hk[a]? =some (some (.row 1 ek))
 len:ek.length=es.length
 done:∀(i:Nat) (xs:List (I T)) (e:List V),i<n->xss[i]? =some xs->ek[i]? =some e->∃es',e=[.imm (szT T) es']/\FR (.l T xs) (.imm (szT T) es')
 rest:∀i,n<=i->ek[i]? =es[i]?
 same:∀c,c≠a->(∀i m,i<n->es[i]?≠some [.own c 0 m])->hk[c]? =h[c]?
 hlen:hk.length=h.length
omit [Zb]in
theorem Conv.ones {a n:Nat} {es ek:List (List V)} {T:Ty} {xss:List (List (I T))} {hk:ag} (c:Conv h a es T xss n hk ek) (hl:es.length=xss.length) (h1:∀e∈es,e.length=1):∀e∈ek,e.length=1:=λe he=>by
 obtain⟨i,hi⟩:=List.getElem?_of_mem he;by_cases hn:i<n
 ·have hlt:=(gI.1 hi).1;have hx:i<xss.length:=by have:=c.len;omega
  obtain⟨es',rfl,_⟩:=c.done i _ e hn (gE hx) hi;rfl
 ·rw[c.rest i (by omega)]at hi;exact h1 e (mG hi)
theorem rY {id a:Nat} {T:Ty} {xss:List (List (I T))} {es:List (List V)} (X:XAt F ρ H h id T xss none a es):∀n,n<=es.length->∃hk ek,Conv h a es T xss n hk ek/\∀L,Abs.Shift L h L hk
 |0,_=>⟨h,es,⟨X.main,rfl,λi _ _ hi=>by omega,λ_ _=>rfl,λ_ _ _=>rfl,rfl⟩,λL=>.refl _ _⟩
 | n + 1, hn => by
  obtain⟨hk,ek,c,sh⟩:=rY X n (by omega);have hx:n<xss.length:=by rw[<-X.len];omega
  have he0:es[n]? =some es[n]:=gE (by omega);have hx0:xss[n]? =some xss[n]:=gE hx;have hek:ek[n]? =some es[n]:=(c.rest n (Nat.le_refl n)).trans he0;have hnk:n<ek.length:=(gI.1 hek).1;have halt:a<hk.length:=(gI.1 c.main).1;rcases X.sub n _ _ (by simp) hx0 he0 with⟨he,hxs⟩|⟨b,es',he,hb,hf⟩
  ·have himp:Imp1 es[n] [.imm (szT T) []]:=by
    rw[he];refine⟨rfl,λj h1 h2=> ?_⟩;have:j=0:=by simp at h2;omega
    subst this;intro I w ι u hu;cases hu with
    |lit _=>exact .imm0 (Nat.zero_le _)
   have himps:Imps ek (ek.set n [.imm (szT T) []]):=by
    have:=(Imps.refl ek).set himp n
    rwa [show ek.set n es[n]=ek from by
     have e:ek[n]=es[n]:=by rw[gE hnk]at hek;exact Option.some.inj hek
     rw[<-e,List.set_getElem_self]]at this
   refine⟨hk.set a (some (.row 1 (ek.set n [.imm (szT T) []]))),ek.set n [.imm (szT T) []],⟨sS halt,by simp[c.len],λi xs e hi h1 h2=> ?_,λi hi=> ?_,λd hd hsm=> ?_,by simp[c.hlen]⟩,λL=>(sh L).trans (Shift.imp c.main himps (λe hm=> ?_))⟩
   ·by_cases hin:i=n
    ·subst hin;rw[sS hnk]at h2;cases h2;rw[hx0]at h1;cases h1;rw[hxs];exact⟨[],rfl,.nil_ X.pos⟩
    ·rw[sN (λe=>hin e.symm)]at h2;exact c.done i xs e (by omega) h1 h2
   ·rw[sN (by omega)];exact c.rest i (by omega)
   ·rw[sN (λe=>hd e.symm)];exact c.same d hd λi m hi=>hsm i m (by omega)
   ·rcases List.mem_or_eq_of_mem_set hm with hm|rfl
    ·exact c.ones X.len X.one e hm
    ·rfl
  ·have hlen:es'.length=xss[n].length:=by cases hf with|l _ hl _ _=>exact hl
   obtain⟨hba,hblt,_,_⟩:=X.subs n b _ (by simp) (he0.trans (by rw[he]));have hbk:hk[b]? =some (some (.row (szT T) es')):=by
    rw[c.same b hba (λi m hi e=>by
     have:=X.inj i n b _ _ (by simp) (by simp) e (he0.trans (by rw[he]));omega)]
    exact hb
   -- what a cell says of b
   have cell:∀(i:Nat) (e:List V),ek[i]? =some e->i≠n->e.map (Abs.V.fz b (szT T) es')=e/\e.all (Abs.V.fits b es'.length)=true:=λi e hi hin=>by
    by_cases hlt:i<n
    ·have hxi:i<xss.length:=by omega
     obtain⟨es2,rfl,_⟩:=c.done i _ e hlt (gE hxi) hi;exact⟨rfl,rfl⟩
    ·have hi':=hi;rw[c.rest i (by omega)]at hi;have hlt2:=(gI.1 hi).1;have hxi:i<xss.length:=by rw[<-X.len];exact hlt2
     rcases X.sub i _ e (by simp) (gE hxi) hi with⟨rfl,_⟩|⟨b2,es2,rfl,_,_⟩
     ·exact⟨rfl,rfl⟩
     ·have hne:b2≠b:=λe=>by
       subst e;exact hin (X.inj i n _ _ _ (by simp) (by simp) hi (he0.trans (by rw[he])))
      simp[Abs.V.fz,Abs.V.fits,hne]
   have celln:es[n].map (Abs.V.fz b (szT T) es')=[.imm (szT T) es']/\es[n].all (Abs.V.fits b es'.length)=true:=by
    rw[he];simp[Abs.V.fz,Abs.V.fits,<-hlen]
   have hfit:ek.all (·.all (Abs.V.fits b es'.length))=true:=by
    rw[aT];intro e hm;obtain⟨i,hi⟩:=List.getElem?_of_mem hm;by_cases hin:i=n
    ·subst hin;rw[hek]at hi;cases hi;exact celln.2
    ·exact(cell i e hi hin).2
   have get:∀(i:Nat),(ek.map (·.map (Abs.V.fz b (szT T) es')))[i]? =(ek[i]?).map (·.map (Abs.V.fz b (szT T) es')):=λi=>List.getElem?_map ..;have ha2:a<(hk.set b none).length:=by simpa using halt
   refine⟨(hk.set b none).set a (some (.row 1 (ek.map (·.map (Abs.V.fz b (szT T) es'))))),ek.map (·.map (Abs.V.fz b (szT T) es')),⟨sS ha2,by simp[c.len],λi xs e hi h1 h2=> ?_,λi hi=> ?_,λd hd hsm=> ?_,by simp[c.hlen]⟩,λL=>(sh L).trans (Abs.Shift.freezeCell b a hbk c.main (λe=>hba e.symm) hf.flats hfit)⟩
   ·rw[get]at h2;obtain⟨e0,h3,rfl⟩:=Option.map_eq_some_iff.1 h2;by_cases hin:i=n
    ·subst hin;rw[hek]at h3;cases h3;rw[hx0]at h1;cases h1;exact⟨es',celln.1,hf⟩
    ·rw[(cell i e0 h3 hin).1];exact c.done i xs e0 (by omega) h1 h3
   ·rw[get,<-c.rest i (by omega)];cases h3:ek[i]? with
    |none=>rfl
    |some e0=>simp[(cell i e0 h3 (by omega)).1]
   ·rw[sN (λe=>hd e.symm),sN (λe=>by
     subst e;exact hsm n _ (Nat.lt_succ_self n) (he0.trans (by rw[he])))]
    exact c.same d hd λi m hi=>hsm i m (by omega)
omit [Zb]in
theorem kY {id:Nat} {T U:Ty} {xss:List (List (I T))} {ho:Option Nat} {m:Nat} {ys:List (I U)} (hr:H[id]? =some (.rows T xss ho)) (hl:xss.length=ys.length) {c:C} {v:V} (hc:CR ρ H c v):CR ρ (H.set id (.row U m ys)) c v:=by
 have get:∀{j:Nat} {z:Ob},H[j]? =some z->z.isRows=false->(H.set id (.row U m ys))[j]? =some z:=λ{j z} hz hzr=>by
  rw[sN (λe=>by subst e;rw[hr]at hz;cases hz;cases hzr)];exact hz
 have self:(H.set id (.row U m ys))[id]? =some (.row U m ys):=sS (gI.1 hr).1
 induction hc with
 |fl h=>exact .fl h
 |lc h=>exact .lc h
 |nil h=>exact .nil h
 |o h1 h2=>exact .o h1 (get h2 rfl)
 |oN h1 h2=>exact .oN h1 (get h2 rfl)
 |oG h=>exact .oG (get h rfl)
 | @oR j a T' xss' ho' h1 h2 =>
  by_cases e:j=id
  ·subst e;rw[hr]at h2;cases h2;rw[hl];exact .o h1 self
  ·exact .oR h1 (by rw[sN (λx=>e x.symm)];exact h2)
 |r h1=>exact .r h1
 |p h1=>exact .p h1
 |e h1 h2 h3 h4 h5=>exact .e h1 (get h2 rfl) h3 h4 h5
 |eG h=>exact .eG (get h rfl)
 |q h=>exact .q h
 |f hl hr ih=>exact .f hl ih
 |m h1=>exact .m h1
 |zs=>exact .zs
 |zP=>exact .zP
 |zM=>exact .zM
 |zF=>exact .zF
omit [Zb]in
theorem tO {id:Nat} {T U:Ty} {xss:List (List (I T))} {ho:Option Nat} {m:Nat} {ys:List (I U)} (hr:H[id]? =some (.rows T xss ho)) (hl:xss.length=ys.length) {x:AT} {av:AV} (hc:ATR ρ H x av):ATR ρ (H.set id (.row U m ys)) x av:=by
 induction hc with
 |one h=>exact .one (kY hr hl h)
 |agg h=>exact .agg ⟨h.1,λj h1 h2=>kY hr hl (h.2 j h1 h2)⟩
 |tup hl h ih=>exact .tup hl ih
theorem wK {st:St} (hs:SR F ρ st L h) {id:Nat} {T:Ty} {xss:List (List (I T))} (hr:st.H[id]? =some (.rows T xss none)):∃h2,Abs.Shift L h L h2/\SR F ρ ⟨st.L,st.H.set id (.row (.sl T) 0 xss)⟩ L h2:=by
 obtain⟨uniq,a,es,X⟩:=hs.xr id T xss none hr;obtain⟨h2,ek,c,sh⟩:=rY X es.length (Nat.le_refl _);have hid:=(gI.1 hr).1;have self:(st.H.set id (.row (.sl T) 0 xss))[id]? =some (.row (.sl T) 0 xss):=sS hid;have hlv:∀{j:Nat},live (st.H.set id (.row (.sl T) 0 xss)) j->j≠id->live st.H j:=λ{j} ⟨y,y1,y2⟩ hne=>⟨y,by rw[sN (λe=>hne e.symm)]at y1;exact y1,y2⟩
 -- places that other objects use are as they were
 have same:∀b,b≠a->(∀i m,es[i]?≠some [V.own b 0 m])->h2[b]? =h[b]? :=λb hb hsm=>c.same b hb λi m _=>hsm i m
 have sameL:∀j b,ρ[j]? =some (some b)->live st.H j->h2[b]? =h[b]? :=λj b hj hl=>same b (λe=>X.nl j (by rw[<-e];exact hj) hl) λi m e=>by
  obtain⟨_,_,g,_⟩:=X.subs i b m (by simp) e;exact g j hj hl
 have hfr:FR (.l (.sl T) xss) (.imm (szT (.sl T)) ek):=by
  refine .l (by simp[szT]) (c.len.trans X.len) (λe he=> ?_) (λm h1 h2 j h3 h4=> ?_)
  ·rw[c.ones X.len X.one e he];rfl
  ·obtain⟨es',e1,e2⟩:=c.done m xss[m] ek[m] (by rw[<-c.len];exact h2) (gE h1) (gE h2);have hj:j=0:=by rw[e1]at h4;simp at h4;omega
   subst hj;simp only[e1];exact e2
 refine⟨h2,sh L,λt v hv=> ?_,HpR.mk' (by simp[hs.heap.len]) (λj x hx=> ?_) (λi j b k1 k2 l1 l2=> ?_) (λi b hi=>by rw[c.hlen];exact hs.heap.lt i b hi),⟨by rw[c.hlen];exact hs.fr.len,λj b hj hl hb=> ?_,λb hb hn=> ?_,hs.fr.rho,λj x hx=> ?_⟩,XR.none_ λj y hy=> ?_⟩
 ·obtain⟨av,k1,k2⟩:=hs.slots t v hv;exact⟨av,k1,tO hr rfl k2⟩
 ·rcases fD      hx with⟨rfl,rfl,_⟩|⟨hne,hx⟩
  ·exact .inl ⟨a,_,X.rho,c.main,ek,rfl,hfr⟩
  ·by_cases hd:x.dead=true
   ·exact .inr (.inr hd)
   have hd:x.dead=false:=by simpa using hd
   rcases hs.heap.ob hx with⟨b,y,m1,m2,m3⟩|m1|m1
   ·refine .inl ⟨b,y,m1,(sameL j b m1 ⟨x,hx,hd⟩).trans m2,?_⟩;cases x with
    |box cs=>obtain⟨vs,p1,p2⟩:=m3;exact⟨vs,p1,p2.1,λj h1 h2=>kY hr rfl (p2.2 j h1 h2)⟩
    |row T n xs=>exact m3
    |map T kvs=>exact m3
    |gone=>trivial
    |rows T xss ho=>trivial
   ·exact .inr (.inl m1)
   ·exact .inr (.inr m1)
 ·by_cases e1:i=id<;>by_cases e2:j=id
  ·omega
  ·subst e1;rw[X.rho]at k1;cases k1;exact absurd (hlv l2 e2) (X.nl j k2)
  ·subst e2;rw[X.rho]at k2;cases k2;exact absurd (hlv l1 e1) (X.nl i k1)
  ·exact hs.heap.inj i j b k1 k2 (hlv l1 e1) (hlv l2 e2)
 ·by_cases e1:j=id
  ·subst e1;rw[X.rho]at hj;cases hj;exact X.old hb
  ·exact hs.fr.old j b hj (hlv hl e1) hb
 ·have hba:b≠a:=λe=>by
   subst e;obtain⟨id0,q1,q2⟩:=X.old hb;exact hn id0 q1 q2
  rw[same b hba (λi m e=>by
   obtain⟨_,_,_,g⟩:=X.subs i b m (by simp) e;obtain⟨id0,q1,q2⟩:=g hb;exact hn id0 q1 q2)]
  exact hs.fr.same b hb hn
 ·by_cases e1:j=id
  ·subst e1;have:=X.new;rw[hx]at this;cases this
  ·obtain⟨y,q1,q2⟩:=hs.fr.ob j x hx;exact⟨y,by rw[sN (λe=>e1 e.symm)];exact q1,q2⟩
 ·rcases fD      hy with⟨rfl,rfl,_⟩|⟨hne,hy⟩
  ·rfl
  ·cases hb:y.isRows with
   |false=>rfl
   |true=>exact absurd (uniq j y hy hb) hne
theorem DX {st:St} (hs:SR F ρ st L h) {id:Nat} {T:Ty} {xss:List (List (I T))} (hr:st.H[id]? =some (.rows T xss none)):∃L2 h2,Abs.Shift L h L2 h2/\SR F ρ (st.fz id (.sl T) xss) L2 h2:=by
 obtain⟨h1,sh,hs1⟩:=wK hs hr;obtain⟨L2,h2,sh2,hs2⟩:=DG hs1 (sS (gI.1 hr).1);refine⟨L2,h2,sh.trans sh2,?_⟩;have e:St.fz id (.sl T) xss ⟨st.L,st.H.set id (.row (.sl T) 0 xss)⟩=st.fz id (.sl T) xss:=by
  unfold St.fz;simp only[List.set_set]
 rw[<-e];exact hs2
theorem fp :∀{ids:List Nat} {st:St} {L:Env} {h:ag},SR F ρ st L h->∃L2 h2,Abs.Shift L h L2 h2/\SR F ρ (bF ids st) L2 h2
 |[],st,L,h,hs=>⟨L,h,.refl _ _,hs⟩
 | id :: ids, st, L, h, hs => by
  simp only[bF];split
  ·rename_i T n xs hr;obtain⟨L2,h2,k1,k2⟩:=DG hs hr;obtain⟨L3,h3,k3,k4⟩:=fp (ids:=ids) k2;exact⟨L3,h3,k1.trans k3,k4⟩
  ·rename_i T xss hr;obtain⟨L2,h2,k1,k2⟩:=DX hs hr;obtain⟨L3,h3,k3,k4⟩:=fp (ids:=ids) k2;exact⟨L3,h3,k1.trans k3,k4⟩
  ·exact fp hs
end
end
section
variable [Zb]
omit [Zb]in
theorem s6 :∀{ks:List Nat} {id j:Nat},pos ks id=some j->ks[j]? =some id
 |[],_,_,h=>by cases h
 | k :: ks, id, j, h => by
  simp only[pos]at h;split at h
  ·rename_i hb;cases h;simp[nB hb]
  ·split at h
   ·rename_i m hm;cases h;simpa using s6 hm
   ·cases h
omit [Zb]in
theorem iO :∀{ks:List Nat},dX ks=true->∀{i j x:Nat},ks[i]? =some x->ks[j]? =some x->i=j
 |[],_,_,_,_,h,_=>by simp at h
 | k :: ks, hn, i, j, x, h1, h2 => by
  simp only[dX,bA,Bool.not_eq_true']at hn;have hk:k∉ks:=by
   intro hm;have:=hn.1;rw[List.contains_iff_mem.2 hm]at this;cases this
  cases i with
  | zero =>
   cases j with
   |zero=>rfl
   | succ j =>
    simp at h1 h2;subst h1;exact absurd (mG h2) hk
  | succ i =>
   cases j with
   | zero =>
    simp at h1 h2;subst h2;exact absurd (mG h1) hk
   |succ j=>simp at h1 h2;rw[iO hn.2 h1 h2]
omit [Zb]in
theorem lG {H:List Ob}:∀{ks:List Nat} {xs:List Ob},qF H ks=some xs->xs.length=ks.length/\∀(j id:Nat),ks[j]? =some id->∃x,H[id]? =some x/\xs[j]? =some x
 |[],xs,h=>by cases h;exact⟨rfl,λj id h=>by simp at h⟩
 | k :: ks, xs, h => by
  simp only[qF]at h;split at h
  ·rename_i x ys h1 h2;cases h;obtain⟨i1,i2⟩:=lG          h2;refine⟨by simp[i1],λj id hj=> ?_⟩;cases j with
   |zero=>simp at hj;subst hj;exact⟨x,h1,rfl⟩
   |succ j=>exact i2 j id (by simpa using hj)
  ·cases h
omit [Zb]in
theorem kc {g:Nat->Option Nat}:∀{xs ys:List Ob},obs g xs=some ys->ys.length=xs.length/\∀(j:Nat) (x:Ob),xs[j]? =some x->∃y,ys[j]? =some y/\x.mv g=some y
 |[],ys,h=>by cases h;exact⟨rfl,λj id h=>by simp at h⟩
 | k :: ks, xs, h => by
  simp only[obs]at h;split at h
  ·rename_i x ys h1 h2;cases h;obtain⟨i1,i2⟩:=kc       h2;refine⟨by simp[i1],λj id hj=> ?_⟩;cases j with
   |zero=>simp at hj;subst hj;exact⟨x,rfl,h1⟩
   |succ j=>exact i2 j id (by simpa using hj)
  ·cases h
omit [Zb]in
theorem eX {keep:List Nat} {H Hc:List Ob} (h:jo keep H=some Hc):Hc.length=keep.length/\∀(j id:Nat),keep[j]? =some id->∃x y,H[id]? =some x/\x.mv (pos keep)=some y/\Hc[j]? =some y.anew:=by
 unfold jo at h;split at h
 ·rename_i xs h1;split at h
  ·rename_i ys h2;cases h;obtain⟨a1,a2⟩:=lG h1;obtain⟨b1,b2⟩:=kc h2;refine⟨by simp[a1,b1],λj id hj=> ?_⟩;obtain⟨x,c1,c2⟩:=a2 j id hj;obtain⟨y,d1,d2⟩:=b2 j x c2;exact⟨x,y,c1,d2,by simp[d1]⟩
  ·cases h
 ·cases h
def cZ (ρ:Rho) (keep:List Nat):Rho:=keep.map λid=>(ρ[id]?).getD none
def oi (g:Nat->Option Nat) (ρ:Rho) (H:List Ob) (ρ':Rho) (H':List Ob):Prop:=∀(id j:Nat),g id=some j->(∀x,ρ[id]? =some x->ρ'[j]? =some x)/\∀(x:Ob),H[id]? =some x->∃y n,H'[j]? =some y/\(x= .gone->y= .gone)/\(∀T m xs,x= .row T m xs->y= .row T n xs)/\∀T xss ho,x= .rows T xss ho->y= .rows T xss ho
section
variable {P : Program} {E : Abs.Cx} {F : In} {ρ ρ' : Rho} {H H' : List Ob} {D : List (Nat × AT)} {L : Env} {h : ag} {g : Nat → Option Nat}
omit [Zb]in
theorem rl :∀{cs ds:List C},C.mv.mvK g cs=some ds->ds.length=cs.length/\∀(j:Nat) (h1:j<cs.length) (h2:j<ds.length),cs[j].mv g=some ds[j]
 | [], ds, h => by
  rw[C.mv.mvK.eq_def]at h;cases h;exact⟨rfl,λj h=>by simp at h⟩
 | c :: cs, ds, h => by
  rw[C.mv.mvK.eq_def]at h;simp only at h;split at h
  ·rename_i x ys h1 h2;cases h;obtain⟨i1,i2⟩:=rl       h2;refine⟨by simp[i1],λj k1 k2=> ?_⟩;cases j with
   |zero=>exact h1
   |succ j=>exact i2 j (by simpa using k1) (by simpa using k2)
  ·cases h
omit [Zb]in
theorem Cu {id:Nat} {c':C} (hm:(C.o id).mv g=some c'):∃j,g id=some j/\c'= .o j:=by
 simp only[C.mv]at hm;split at hm
 ·rename_i j hj;cases hm;exact⟨j,hj,rfl⟩
 ·cases hm
omit [Zb]in
theorem DA (hg:oi g ρ H ρ' H') {c c':C} {v:V} (hc:CR ρ H c v) (hm:c.mv g=some c'):CR ρ' H' c' v:=by
 induction hc generalizing c' with
 | fl h =>
  rename_i c v;have:c'=c:=by cases h<;>(simp only[C.mv,Option.some.injEq]at hm;exact hm.symm)
  rw[this];exact .fl h
 |lc h=>simp only[C.mv,Option.some.injEq]at hm;subst hm;exact .lc h
 |nil h=>simp only[C.mv,Option.some.injEq]at hm;subst hm;exact .nil h
 | o h1 h2 =>
  obtain⟨j,h3,rfl⟩:=Cu hm;obtain⟨k1,k2⟩:=hg _ _ h3;obtain⟨y,n,k3,_,k5,_⟩:=k2 _ h2;have:=k5 _ _ _ rfl;subst this;exact .o (k1 _ h1) k3
 | oN h1 h2 =>
  obtain⟨j,h3,rfl⟩:=Cu hm;obtain⟨k1,k2⟩:=hg _ _ h3;obtain⟨y,n,k3,_,k5,_⟩:=k2 _ h2;have:=k5 _ _ _ rfl;subst this;exact .oN (k1 _ h1) k3
 | oG h1 =>
  obtain⟨j,h3,rfl⟩:=Cu hm;obtain⟨k1,k2⟩:=hg _ _ h3;obtain⟨y,n,k3,k4,_⟩:=k2 _ h1;rw[k4 rfl]at k3;exact .oG k3
 | oR h1 h2 =>
  obtain⟨j,h3,rfl⟩:=Cu hm;obtain⟨k1,k2⟩:=hg _ _ h3;obtain⟨y,n,k3,_,_,k5⟩:=k2 _ h2;have:=k5 _ _ _ rfl;subst this;exact .oR (k1 _ h1) k3
 |r _=>cases hm
 | p h1 =>
  simp only[C.mv]at hm;split at hm
  ·rename_i j hj;cases hm;exact .p ((hg _ _ hj).1 _ h1)
  ·cases hm
 |e _ _ _ _ _=>cases hm
 |eG _=>cases hm
 |q h=>simp only[C.mv,Option.some.injEq]at hm;subst hm;exact .q h
 | @f fn caps vs hl hr ih =>
  rw[C.mv.eq_def]at hm;simp only at hm;split at hm
  ·rename_i ds hd;cases hm;obtain⟨h1,h2⟩:=rl hd;exact .f (by rw[h1];exact hl) (λj k1 k2=>ih j (by omega) k2 (h2 j (by omega) k1))
  ·cases hm
 | m h1 =>
  simp only[C.mv]at hm;split at hm
  ·rename_i j hj;cases hm;exact .m ((hg _ _ hj).1 _ h1)
  ·cases hm
 |zs=>simp only[C.mv,Option.some.injEq]at hm;subst hm;exact .zs
 |zP=>simp only[C.mv,Option.some.injEq]at hm;subst hm;exact .zP
 |zM=>simp only[C.mv,Option.some.injEq]at hm;subst hm;exact .zM
 |zF=>simp only[C.mv,Option.some.injEq]at hm;subst hm;exact .zF
omit [Zb]in
theorem sH :∀{cs ds:List C},mvs g cs=some ds->ds.length=cs.length/\∀(j:Nat) (h1:j<cs.length) (h2:j<ds.length),cs[j].mv g=some ds[j]
 |[],ds,h=>by cases h;exact⟨rfl,λj h=>by simp at h⟩
 | c :: cs, ds, h => by
  simp only[mvs]at h;split at h
  ·rename_i x ys h1 h2;cases h;obtain⟨i1,i2⟩:=sH       h2;refine⟨by simp[i1],λj k1 k2=> ?_⟩;cases j with
   |zero=>exact h1
   |succ j=>exact i2 j (by simpa using k1) (by simpa using k2)
  ·cases h
omit [Zb]in
theorem Ai (hg:oi g ρ H ρ' H') {cs ds:List C} {vs:List V} (hc:CRs ρ H cs vs) (hm:mvs g cs=some ds):CRs ρ' H' ds vs:=by
 obtain⟨h1,h2⟩:=sH hm;exact⟨by rw[h1];exact hc.1,λj k1 k2=>DA hg (hc.2 j (by omega) k2) (h2 j (by omega) k1)⟩
omit [Zb]in
theorem ib :∀{cs ds:List AT},AT.mv.mvA g cs=some ds->ds.length=cs.length/\∀(j:Nat) (h1:j<cs.length) (h2:j<ds.length),cs[j].mv g=some ds[j]
 | [], ds, h => by
  rw[AT.mv.mvA.eq_def]at h;cases h;exact⟨rfl,λj h=>by simp at h⟩
 | c :: cs, ds, h => by
  rw[AT.mv.mvA.eq_def]at h;simp only at h;split at h
  ·rename_i x ys h1 h2;cases h;obtain⟨i1,i2⟩:=ib       h2;refine⟨by simp[i1],λj k1 k2=> ?_⟩;cases j with
   |zero=>exact h1
   |succ j=>exact i2 j (by simpa using k1) (by simpa using k2)
  ·cases h
omit [Zb]in
theorem lr (hg:oi g ρ H ρ' H') {v u:AT} {av:AV} (hc:ATR ρ H v av) (hm:v.mv g=some u):ATR ρ' H' u av:=by
 induction hc generalizing u with
 | one h =>
  rw[AT.mv.eq_def]at hm;simp only at hm;split at hm
  ·rename_i d hd;cases hm;exact .one (DA hg h hd)
  ·cases hm
 | agg h =>
  rw[AT.mv.eq_def]at hm;simp only at hm;split at hm
  ·rename_i d hd;cases hm;exact .agg (Ai hg h hd)
  ·cases hm
 | tup hl h ih =>
  rw[AT.mv.eq_def]at hm;simp only at hm;split at hm
  ·rename_i ys hy;cases hm;obtain⟨h1,h2⟩:=ib hy;exact .tup (by rw[h1];exact hl) (λj k1 k2=>ih j (by omega) k2 (h2 j (by omega) k1))
  ·cases hm
omit [Zb]in
theorem Cl {x:Ob} {y:Option Abs.Ob} (h:obR ρ H x y):obR ρ H x.anew y:=by cases x<;>exact h
omit [Zb]in
theorem rQ (hg:oi g ρ H ρ' H') {x x':Ob} {y:Option Abs.Ob} (h:obR ρ H x y) (hm:x.mv g=some x'):obR ρ' H' x' y:=by
 cases x with
 | box cs =>
  obtain⟨vs,h1,h2⟩:=h;simp only[Ob.mv]at hm;split at hm
  ·rename_i ds hd;cases hm;exact⟨vs,h1,Ai hg h2 hd⟩
  ·cases hm
 |row T n xs=>cases hm;exact h
 |map T kvs=>cases hm;exact h
 |gone=>cases hm;trivial
 |rows T xss ho=>cases hm;trivial
omit [Zb]in
theorem dR {x x':Ob} (hm:x.mv g=some x'):(x= .gone->x'= .gone)/\(∀T m xs,x= .row T m xs->x'= .row T m xs)/\evo0 x x':=by
 cases x with
 | box cs =>
  simp only[Ob.mv]at hm;split at hm
  ·cases hm;exact⟨λe=>(by cases e),λ_ _ _ e=>(by cases e),.inr (.inr (.inl ⟨_,_,rfl,rfl⟩))⟩
  ·cases hm
 |row T n xs=>cases hm;exact⟨λe=>(by cases e),λ_ _ _ e=>(by cases e;rfl),evo0.refl _⟩
 |map T kvs=>cases hm;exact⟨λe=>(by cases e),λ_ _ _ e=>(by cases e),evo0.refl _⟩
 |gone=>cases hm;exact⟨λ_=>rfl,λ_ _ _ e=>(by cases e),evo0.refl _⟩
 |rows T xss ho=>cases hm;exact⟨λe=>(by cases e),λ_ _ _ e=>(by cases e),evo0.refl _⟩
omit [Zb]in
theorem eE {x x':Ob} (hm:x.mv g=some x'):x'.dead=x.dead:=by
 cases x with
 | box cs =>
  simp only[Ob.mv]at hm;split at hm
  ·cases hm;rfl
  ·cases hm
 |_=>cases hm;rfl
omit [Zb]in
theorem kq {x x':Ob} (hm:x.mv g=some x'):∀T xss ho,x= .rows T xss ho->x'= .rows T xss ho:=λT xss ho e=>by subst e;cases hm;rfl
omit [Zb]in
theorem pd (x:Ob):x.anew.dead=x.dead:=by cases x<;>rfl
omit [Zb]in
theorem gH (x:Ob):(x= .gone->x.anew= .gone)/\(∀T m xs,x= .row T m xs->x.anew= .row T 0 xs)/\evo0 x x.anew:=by
 cases x with
 |row T n xs=>exact⟨λe=>(by cases e),λ_ _ _ e=>(by cases e;rfl),.inr (.inl ⟨T,n,xs,0,xs,rfl,rfl,rfl⟩)⟩
 |box cs=>exact⟨λe=>(by cases e),λ_ _ _ e=>(by cases e),evo0.refl _⟩
 |map T kvs=>exact⟨λe=>(by cases e),λ_ _ _ e=>(by cases e),evo0.refl _⟩
 |gone=>exact⟨λ_=>rfl,λ_ _ _ e=>(by cases e),evo0.refl _⟩
 |rows T xss ho=>exact⟨λe=>(by cases e),λ_ _ _ e=>(by cases e),evo0.refl _⟩
omit [Zb]in
theorem jd {keep:List Nat} {Hc:List Ob} (hk:jo keep H=some Hc) {j id:Nat} (hj:keep[j]? =some id) (hl:live Hc j):live H id:=by
 obtain⟨k1,k2⟩:=eX hk;obtain⟨z,z1,z2⟩:=hl;obtain⟨x,y,c1,c2,c3⟩:=k2 j id hj;rw[z1]at c3;cases c3;exact⟨x,c1,by rw[<-eE c2,<-pd y];exact z2⟩
omit [Zb]in
theorem iV {keep:List Nat} {Hc:List Ob} (hp:HpR ρ H h) (hn:dX keep=true) (hk:jo keep H=some Hc):HpR (cZ ρ keep) Hc h/\oi (pos keep) ρ H (cZ ρ keep) Hc/\(∀(j id:Nat),keep[j]? =some id->(cZ ρ keep)[j]? =ρ[id]?):=by
 obtain⟨k1,k2⟩:=eX hk;have hρ:∀(j id:Nat),keep[j]? =some id->(cZ ρ keep)[j]? =ρ[id]? :=λj id hj=>by
  obtain⟨x,y,c1,_⟩:=k2 j id hj;have hlt:id<ρ.length:=by rw[hp.len];exact(gI.1 c1).1
  simp[cZ,hj,gE hlt]
 have hinv:∀(j:Nat) (x:Option Nat),(cZ ρ keep)[j]? =some x->∃id,keep[j]? =some id/\ρ[id]? =some x:=λj x hx=>by
  have hlt:=(gI.1 hx).1;simp[cZ]at hlt;have e:=gE hlt;exact⟨_,e,by rw[<-hρ j _ e];exact hx⟩
 have hmv:oi (pos keep) ρ H (cZ ρ keep) Hc:=λid j hj=>by
  have hj:=s6 hj;refine⟨λx hx=>by rw[hρ j id hj];exact hx,λx hx=> ?_⟩;obtain⟨x',y,c1,c2,c3⟩:=k2 j id hj;rw[hx]at c1;cases c1;obtain⟨d1,d2,_⟩:=dR c2;exact⟨_,0,c3,λe=>(gH y).1 (d1 e),λT m xs e=>(gH y).2.1 T m xs (d2 T m xs e),λT xss ho e=>by rw[kq c2 T xss ho e];rfl⟩
 have hlv:∀{j id:Nat},keep[j]? =some id->live Hc j->live H id:=λ{j id} hj=>jd hk hj
 refine⟨HpR.mk' (by simp[cZ,k1]) (λj z hz=> ?_) (λi j a h1 h2 l1 l2=> ?_) (λi a h1=> ?_),hmv,hρ⟩
 ·have hlt:=(gI.1 hz).1;rw[k1]at hlt;have e:=gE hlt;obtain⟨x,y,c1,c2,c3⟩:=k2 j _ e;rw[hz]at c3;cases c3;rcases hp.ob c1 with⟨a,w,m1,m2,m3⟩|⟨m1,T,n,rfl,m3⟩|hd
  ·exact .inl ⟨a,w,by rw[hρ j _ e];exact m1,m2,Cl (rQ hmv m3 c2)⟩
  ·cases c2;exact .inr (.inl ⟨by rw[hρ j _ e];exact m1,T,0,rfl,m3⟩)
  ·exact .inr (.inr (by rw[pd,eE c2];exact hd))
 ·obtain⟨i1,e1,f1⟩:=hinv i _ h1;obtain⟨j1,e2,f2⟩:=hinv j _ h2;have:=hp.inj i1 j1 a f1 f2 (hlv e1 l1) (hlv e2 l2);subst this;exact iO hn e1 e2
 ·obtain⟨i1,e1,f1⟩:=hinv i _ h1;exact hp.lt _ _ f1
end
end
section
variable [Zb]
def EncM (ρ:Rho) (H:List Ob) (D:List (Nat×AT)) (L:Env):Prop:=∀p∈D,∃av,L.lookup p.1=some av/\ATR ρ H p.2 av
omit [Zb]in
theorem nE {α:Type} {D:List (Nat×α)} {t:Nat} {v:α} (h:D.lookup t=some v):(t,v)∈D:=by
 induction D with
 |nil=>simp at h
 | cons p D ih =>
  obtain⟨k,z⟩:=p;rw[List.lookup_cons]at h;by_cases e:t=k
  ·subst e;simp at h;subst h;simp
  ·have:(t==k)=false:=by simpa using e
   rw[this]at h;exact List.mem_cons_of_mem _ (ih h)
section
variable {P : Program} {E : Abs.Cx} {F : In} {ρ ρ' : Rho} {H H' : List Ob} {D : List (Nat × AT)} {L : Env} {h : ag}
omit [Zb]in
theorem EncM.enc (h:EncM ρ H D L):EncL ρ H D L:=λt v hv=>h (t,v) (nE hv)
omit [Zb]in
theorem EncM.mono (e:Ev ρ H ρ' H') (h:EncM ρ H D L):EncM ρ' H' D L:=λp hp=>let⟨av,h1,h2⟩:=h p hp;⟨av,h1,h2.mono e⟩
omit [Zb]in
theorem kV (hs:EncL ρ H D L):∀ts,EncM ρ H (slots D ts) L
 |[]=>λp hp=>by simp[slots]at hp
 | t :: ts => fun p hp => by
  simp only[slots]at hp;split at hp
  ·rename_i v hv;rcases List.mem_cons.1 hp with rfl|hp
   ·exact hs t v hv
   ·exact kV hs ts p hp
  ·exact kV hs ts p hp
structure Mat (F:In) (h:ag) (ρ:Rho) (H:List Ob) (ρ':Rho) (H':List Ob):Prop where
 heap:HpR ρ' H' h
 ev:Ev ρ H ρ' H'
 fr:Fr F ρ' H' h
omit [Zb]in
theorem Mat.refl (hp:HpR ρ H h) (hf:Fr F ρ H h):Mat F h ρ H ρ H:=⟨hp,Ev.refl _ _,hf⟩
omit [Zb]in
theorem Mat.trans {ρ'':Rho} {H'':List Ob} (a:Mat F h ρ H ρ' H') (b:Mat F h ρ' H' ρ'' H''):Mat F h ρ H ρ'' H'':=⟨b.heap,a.ev.trans b.ev,b.fr⟩
omit [Zb]in
theorem pL {T:Ty} (hT:0<szT T) (hp:HpR ρ H h) (hf:Fr F ρ H h):Mat F h ρ H (ρ++[none]) (H++[.row T 0 []])/\CR (ρ++[none]) (H++[.row T 0 []]) (.o H.length) (.lit (.slice none 0 0)):=
 ⟨⟨hp.nilRow hT,Ev.push _ _,hf.nilRow hp.len _⟩,by obtain⟨m1,_⟩:=mm hT hp;obtain⟨u,e,k⟩:=m1.one';cases e;exact k⟩
omit [Zb]in
theorem CR.nil' {T:Ty} {v:V} (hc:CR ρ H (.nil T) v):v= .lit (.slice none 0 0)/\0<szT T:=by
 cases hc with
 |fl h=>cases h
 |nil hp=>exact⟨rfl,hp⟩
omit [Zb]in
theorem CRs.head {c:C} {cs:List C} {vs:List V} (h:CRs ρ H (c::cs) vs):∃v us,vs=v::us/\CR ρ H c v/\CRs ρ H cs us:=by
 cases vs with
 |nil=>have:=h.1;simp at this
 |cons v us=>exact⟨v,us,rfl,h.2 0 (by simp) (by simp),by have:=h.1;simpa using this,λj h1 h2=>h.2 (j+1) (by simpa using h1) (by simpa using h2)⟩
omit [Zb]in
theorem mi :∀{cs:List C} {H:List Ob} {ρ:Rho} {vs:List V},HpR ρ H h->Fr F ρ H h->CRs ρ H cs vs->∃ρ',Mat F h ρ H ρ' (fb cs H).2/\CRs ρ' (fb cs H).2 (fb cs H).1 vs
 |[],H,ρ,vs,hp,hf,hc=>⟨ρ,Mat.refl hp hf,hc⟩
 | c :: cs, H, ρ, vs, hp, hf, hc => by
  obtain⟨v,us,rfl,h1,h2⟩:=hc.head;by_cases e:∃T,c= .nil T
  ·obtain⟨T,rfl⟩:=e;obtain⟨rfl,hT⟩:=h1.nil';obtain⟨m1,m2⟩:=pL hT hp hf;obtain⟨ρ',k1,k2⟩:=mi m1.heap m1.fr (h2.mono m1.ev);exact⟨ρ',m1.trans k1,.cons (m2.mono k1.ev) k2⟩
  ·obtain⟨ρ',k1,k2⟩:=mi      hp hf h2;have:fb   (c::cs) H=(c::(fb   cs H).1,(fb   cs H).2):=by
    simp only[fb];split
    ·exact absurd ⟨_,rfl⟩ e
    ·rfl
   rw[this];exact⟨ρ',k1,.cons (h1.mono k1.ev) k2⟩
omit [Zb]in
theorem C3 {v:AT} {av:AV} (hp:HpR ρ H h) (hf:Fr F ρ H h) (hc:ATR ρ H v av):∃ρ',Mat F h ρ H ρ' (sE v H).2/\ATR ρ' (sE v H).2 (sE v H).1 av:=by
 cases hc with
 | @one c u h1 =>
  by_cases e:∃T,c= .nil T
  ·obtain⟨T,rfl⟩:=e;obtain⟨rfl,hT⟩:=h1.nil';obtain⟨m1,m2⟩:=pL hT hp hf;exact⟨_,m1,.one m2⟩
  ·have:sE   (.one c) H=(.one c,H):=by
    simp only[sE];split
    ·exact absurd ⟨_,rfl⟩ e
    ·rfl
   rw[this];exact⟨ρ,Mat.refl hp hf,.one h1⟩
 | agg h1 =>
  obtain⟨ρ',k1,k2⟩:=mi hp hf h1;exact⟨ρ',k1,.agg k2⟩
 |tup hl h1=>exact⟨ρ,Mat.refl hp hf,.tup hl h1⟩
omit [Zb]in
theorem vZ :∀{D:List (Nat×AT)} {H:List Ob} {ρ:Rho},HpR ρ H h->Fr F ρ H h->EncM ρ H D L->∃ρ',Mat F h ρ H ρ' (pS D H).2/\EncM ρ' (pS D H).2 (pS D H).1 L
 |[],H,ρ,hp,hf,hs=>⟨ρ,Mat.refl hp hf,hs⟩
 | (t, v) :: D, H, ρ, hp, hf, hs => by
  obtain⟨av,h1,h2⟩:=hs (t,v) (by simp);obtain⟨ρ1,k1,k2⟩:=C3 hp hf h2;obtain⟨ρ2,m1,m2⟩:=vZ k1.heap k1.fr (EncM.mono k1.ev (D:=D) (L:=L) (λp hp=>hs p (by simp[hp])));refine⟨ρ2,k1.trans m1,λp hp=> ?_⟩;simp only[pS]at hp;rcases List.mem_cons.1 hp with rfl|hp
  ·exact⟨av,h1,k2.mono m1.ev⟩
  ·exact m2 p hp
omit [Zb]in
theorem mN :∀(cs:List C) (H:List Ob),∃t,(fb cs H).2=H++t
 |[],H=>⟨[],by simp[fb]⟩
 | c :: cs, H => by
  simp only[fb];split
  ·rename_i T;obtain⟨t,e⟩:=mN cs (H++[.row T 0 []]);exact⟨[.row T 0 []]++t,by simp[e]⟩
  ·exact mN cs H
omit [Zb]in
theorem pR :∀{n:Nat} {H:List Ob} {ρ:Rho},HpR ρ H h->Fr F ρ H h->∃ρ',Mat F h ρ H ρ' (ri n H)
 |0,H,ρ,hp,hf=>⟨ρ,Mat.refl hp hf⟩
 | n + 1, H, ρ, hp, hf => by
  simp only[ri];split
  ·rename_i cs hb;obtain⟨a,vs,h1,h2,h3⟩:=hp.box n cs hb;obtain⟨ρ1,k1,k2⟩:=mi      hp hf h3;have b1:(fb   cs H).2[n]? =some (.box cs):=by
    obtain⟨t,e⟩:=mN cs H;rw[e,aL (gI.1 hb).1];exact hb
   have he:evo (.box cs) (.box (fb cs H).1):=.inr (.inr (.inl ⟨_,_,rfl,rfl⟩));have hev:Ev ρ1 (fb cs H).2 ρ1 ((fb cs H).2.set n (.box (fb cs H).1)):=Ev.set b1 he;have hs:=k1.heap.set (y:=some (.row vs.length [vs])) (k1.ev.rho _ _ h1) b1 (by simp) he ⟨vs,rfl,k2.mono hev⟩;have hsame:h.set a (some (.row vs.length [vs]))=h:=by
    obtain⟨hlt,e⟩:=gI.1 h2;rw[<-e,List.set_getElem_self]
   rw[hsame]at hs;have hf2:=k1.fr.set (y:=some (.row vs.length [vs])) (k1.ev.rho _ _ h1) b1 (by simp) he;rw[hsame]at hf2;obtain⟨ρ2,m1⟩:=pR (n:=n) hs hf2;exact⟨ρ2,k1.trans (Mat.trans ⟨hs,hev,hf2⟩ m1)⟩
  ·exact pR hp hf
omit [Zb]in
theorem sZ {g:Nat->Option Nat} (hg:oi g ρ H ρ' H'):∀{D D':List (Nat×AT)},mvL g D=some D'->EncM ρ H D L->EncM ρ' H' D' L
 |[],D',h,_=>by cases h;intro p hp;simp at hp
 | (t, v) :: D, D', h, hs => by
  simp only[mvL]at h;split at h
  ·rename_i u D2 h1 h2;cases h;intro p hp;rcases List.mem_cons.1 hp with rfl|hp
   ·obtain⟨av,k1,k2⟩:=hs (t,v) (by simp);exact⟨av,k1,lr hg k2 h1⟩
   ·exact sZ hg h2 (λq hq=>hs q (by simp[hq])) p hp
  ·cases h
omit [Zb]in
theorem tV :∀{a b:List Nat},eqL a b=true->a=b
 |[],[],_=>rfl
 |[],_::_,h=>by cases h
 |_::_,[],h=>by cases h
 | x :: a, y :: b, h => by
  simp only[eqL,bA]at h;rw[nB h.1,tV h.2]
def In.ok (F:In) (r:Nat):Prop:=F.ρ.length=r/\F.H.length=r
omit [Zb]in
theorem Fr.pick {keep:List Nat} {Hc:List Ob} {r:Nat} (hf:Fr F ρ H h) (hp:HpR ρ H h) (hi:F.ok r) (hn:dX keep=true) (hr:keep.take r=List.range r) (hk:jo keep H=some Hc):Fr F (cZ ρ keep) Hc h:=by
 obtain⟨_,_,hρ⟩:=iV hp hn hk;obtain⟨k1,k2⟩:=eX hk;have hrk:∀id,id<r->keep[id]? =some id:=λid hid=>by
  have:(keep.take r)[id]? =(List.range r)[id]? :=by rw[hr]
  rw[List.getElem?_take_of_lt hid]at this;rw[this];simp[hid]
 refine⟨hf.len,λid a h1 hl h2=> ?_,hf.same,λid x h1=> ?_,λid x h1=> ?_⟩
 ·have hlt:=(gI.1 h1).1;simp[cZ]at hlt;have e:=gE hlt;rw[hρ id _ e]at h1;exact hf.old _ a h1 (jd hk e hl) h2
 ·have hid:id<r:=by rw[<-hi.1];exact(gI.1 h1).1
  rw[hρ id id (hrk id hid)];exact hf.rho id x h1
 ·have hid:id<r:=by rw[<-hi.2];exact(gI.1 h1).1
  obtain⟨y,m1,m2⟩:=hf.ob id x h1;obtain⟨x',y',c1,c2,c3⟩:=k2 id id (hrk id hid);rw[m1]at c1;cases c1;exact⟨_,c3,(m2.trans (dR c2).2.2).trans (gH y').2.2⟩
omit [Zb]in
theorem i8 :∀(cs:List C) (H:List Ob),RowsSame H (fb cs H).2
 |[],H=>.refl H
 | c :: cs, H => by
  simp only[fb];split
  ·rename_i T;refine RowsSame.trans (H2:=H++[.row T 0 []]) (λid y h1 h2=> ?_) (i8        cs _);rcases bX       h1 with⟨_,h1⟩|⟨_,rfl⟩
   ·exact h1
   ·cases h2
  ·exact i8 cs H
omit [Zb]in
theorem wW (v:AT) (H:List Ob):RowsSame H (sE v H).2:=by
 unfold sE;split
 ·split
  ·intro id y h1 h2;rcases bX       h1 with⟨_,h1⟩|⟨_,rfl⟩
   ·exact h1
   ·cases h2
  ·exact .refl H
 ·exact i8 _ H
 ·exact .refl H
omit [Zb]in
theorem pA :∀(D:List (Nat×AT)) (H:List Ob),RowsSame H (pS D H).2
 |[],H=>.refl H
 | (t, v) :: D, H => by
  simp only[pS];exact(wW v H).trans (pA D _)
omit [Zb]in
theorem lq :∀(n:Nat) (H:List Ob),RowsSame H (ri n H)
 |0,H=>.refl H
 | n + 1, H => by
  simp only[ri];split
  ·rename_i cs hb;refine RowsSame.trans (H2:=(fb   cs H).2.set n (.box (fb   cs H).1)) (λid y h1 h2=> ?_) (lq        n _);rcases fD      h1 with⟨_,rfl,_⟩|⟨_,h1⟩
   ·cases h2
   ·exact i8 cs H id y h1 h2
  ·exact lq n H
omit [Zb]in
theorem Cw (D:List (Nat×AT)) (n:Nat) (H:List Ob):RowsSame H (pS D (ri n H)).2:=(lq n H).trans (pA D _)
omit [Zb]in
theorem XR.pick {keep:List Nat} {Hc:List Ob} {r:Nat} (hx:XR F ρ H h) (hp:HpR ρ H h) (hi:F.ok r) (hn:dX keep=true) (hr:keep.take r=List.range r) (hk:jo keep H=some Hc):XR F (cZ ρ keep) Hc h:=λj T xss ho hj=>by
 obtain⟨_,_,hρ⟩:=iV hp hn hk;obtain⟨k1,k2⟩:=eX hk
 -- rows of own rows come from such
 have came:∀(j:Nat) (y:Ob),Hc[j]? =some y->y.isRows=true->∃id,keep[j]? =some id/\H[id]? =some y:=λj y hy hr=>by
  have hlt:=(gI.1 hy).1;rw[k1]at hlt;have e:=gE hlt;obtain⟨x,z,c1,c2,c3⟩:=k2 j _ e;rw[hy]at c3;cases c3;refine⟨_,e,?_⟩;cases x with
  |rows T xss ho=>cases c2;exact c1
  | box cs =>
   simp only[Ob.mv]at c2;split at c2
   ·cases c2;cases hr
   ·cases c2
  |_=>cases c2;cases hr
 obtain⟨id,e,hid⟩:=came j _ hj rfl;obtain⟨u,a,es,X⟩:=hx id T xss ho hid;have nl:∀b,gS ρ H b->gS (cZ ρ keep) Hc b:=λb hb i hi hl=>by
  have hlt:=(gI.1 hi).1;simp[cZ]at hlt;have e:=gE hlt;rw[hρ i _ e]at hi;exact hb _ hi (jd hk e hl)
 refine⟨λj' y hy hr'=> ?_,a,es,by rw[hρ j id e];exact X.rho,X.main,X.len,X.pos,X.one,nl a X.nl,X.old,?_,X.sub,λk b n g1 g2=>let⟨q1,q2,q3,q4⟩:=X.subs k b n g1 g2;⟨q1,q2,nl b q3,q4⟩,X.inj⟩
 ·obtain⟨id',e',hid'⟩:=came j' y hy hr';have:=u id' y hid' hr';subst this;exact iO hn e' e
 ·by_cases hlt:j<r
  ·have:keep[j]? =some j:=by
    have:(keep.take r)[j]? =(List.range r)[j]? :=by rw[hr]
    rw[List.getElem?_take_of_lt hlt]at this;rw[this];simp[hlt]
   rw[e]at this;cases this;exact X.new
  ·exact List.getElem?_eq_none (by rw[hi.2];omega)
omit [Zb]in
theorem bl {R:Type} {r:Nat} {lv:List Nat} {st:St} {K:St->Option R} {x:R} (hi:F.ok r) (hs:SR F ρ st L h) (hk:ck r lv st K=some x):∃ρ' st',K st'=some x/\SR F ρ' st' L h:=by
 unfold ck at hk;obtain⟨ρ1,a1⟩:=pR (n:=st.H.length) hs.heap (Fr.refl ρ st.H h);obtain⟨ρ2,b1,b2⟩:=vZ a1.heap a1.fr (EncM.mono a1.ev (kV hs.slots lv));simp only at hk;split at hk
 ·rename_i H' L' h1 h2 h3;simp only[bA]at h1;obtain⟨c1,c2,_⟩:=iV b1.heap h1.1 h2;exact⟨_,_,hk,(sZ c2 h3 b2).enc,c1,(hs.fr.trans b1.fr).pick b1.heap hi h1.1 (tV h1.2) h2,XR.pick (hs.xr.keep b1.fr (Cw _ _ _)) b1.heap hi h1.1 (tV h1.2) h2⟩
 ·cases hk
end
end
end Go.Proofs.YtfdkldmkbibknaaGreat.Den
namespace Go.Proofs.YtfdkldmkbibknaaGreat.Abs
open Go.RowKit
section
variable [Zb]
theorem ARs.app {ι:List Inf} {I:Nat->Prop} {w:World} {a b:List AV} {cs ds:Array Value} (h:ARs ι I w a cs) (k:ARs ι I w b ds):ARs ι I w (a++b) (cs++ds):=by
 refine⟨by simp[h.1,k.1],λj hj=> ?_⟩;by_cases e:j<a.length
 ·obtain⟨c,h1,h2⟩:=h.2 j e;exact⟨c,by rw[Array.getElem?_append_left (by rw[h.1];exact e)];exact h1,by rw[List.getElem_append_left e];exact h2⟩
 ·obtain⟨c,h1,h2⟩:=k.2 (j-a.length) (by simp at hj;omega);exact⟨c,by rw[Array.getElem?_append_right (by rw[h.1];omega),h.1];exact h1,by rw[List.getElem_append_right (by omega)];exact h2⟩
theorem AR.clo' {ι:List Inf} {I:Nat->Prop} {w:World} {fn:Go.Fn} {vs:List V} {c:Value} (h:AR ι I w (.one (.clo fn vs)) c):∃cs,c= .func fn #[] cs/\ARs ι I w (vs.map .one) cs:=by
 cases h with
 | one h =>
  cases h with
  |clo hl hcs hr=>exact⟨_,rfl,by simpa using hl,λj hj=>⟨_,hcs j (by simpa using hj),by rw[List.getElem_map];exact .one (hr j (by simpa using hj))⟩⟩
def vX :Value->Array Value
 | .func _ _ cs=>cs
 |_=> #[]
section
variable {P : Program} {E : Cx} {K : Env → ag → Prop} {L : Env} {h : ag} {d f : Nat} {x : Operand} {args : List Operand} {tys : Array TypeId} {ty : TypeId} {pos : String} {af : Array Edge} {gd : Option (Nat × Bool)} {avs xs : List AV} {vs : List V} {R : AV → ag → Prop}
theorem mR (hc:callable P f) (hv:ev L x=some (.one (.clo (.func f) vs))) {ι:List Inf} {I:Nat->Prop} {a:Act} {w:World} (r:Rel E L h ι I a w):
  (execOp a.eval (⟨some d,.call ⟨.value x,args.toArray,tys⟩,ty,pos,af,gd⟩:Oper)).run P w= .ok (.enter f ((args.map a.eval).toArray++vX (a.eval x))) w:=by
 obtain⟨cs,e,_⟩:=(r.ev hv).clo';simp[execOp,resolve,e,Deferred.ofValue,invoke,hc.run,vX]
theorem kZ (hv:ev L x=some (.one (.clo (.func f) vs))) (hx:evs L args=some avs) {ι:List Inf} {I:Nat->Prop} {a:Act} {w:World} (r:Rel E L h ι I a w):ARs ι I w (avs++vs.map .one) ((args.map a.eval).toArray++vX (a.eval x)):=by
 obtain⟨cs,e,k⟩:=(r.ev hv).clo';rw[e];exact(r.evs hx).app k
theorem mH (hv:ev L x=some (.one (.clo (.func f) vs))) (hx:evs L args=some avs) (hn:d<E.n) (hf:Fn P f xs h R) (hw:∀ι I w cs,ARs ι I w (avs++vs.map .one) cs->ARs ι I w xs cs) (hk:∀r h',R r h'->K ((d,r)::L) h'):
  ar P ⟨some d,.call ⟨.value x,args.toArray,tys⟩,ty,pos,af,gd⟩ E K L h:=
 yi (cs:=λa=>(args.map a.eval).toArray++vX (a.eval x)) rfl hn (λ_ _ ⟨_,_,r⟩=>mR hf.1 hv r) (λ_ _ _ _ r=>hw _ _ _ _ (kZ hv hx r)) hf hk
theorem AG {h1:ag} (hv:ev L x=some (.one (.clo (.func f) vs))) (hx:evs L args=some avs) (hn:d<E.n) (hf:Fn P f xs h1 R)
  (hfz:∀(L:Env) (ι:List Inf) (I:Nat->Prop) (a:Act) (w:World),Rel E L h ι I a w->∃I1,Rel E L h1 ι I1 a w/\∀cs,ARs ι I w (avs++vs.map .one) cs->ARs ι I1 w xs cs) (hk:∀r h',R r h'->K ((d,r)::L) h'):
  ar P ⟨some d,.call ⟨.value x,args.toArray,tys⟩,ty,pos,af,gd⟩ E K L h:=by
 refine⟨λLf ι I0 a w r0=> ?_⟩;unfold Oper.wp;rw[mR hf.1 hv r0.low,Oper.upon_enter];obtain⟨I,r,hc⟩:=hfz _ _ _ _ _ r0;refine(hf.2 w I ι _ r.heap r.imm (hc _ (kZ hv hx r0.low))).mono ?_;rintro e w' ⟨v,h',ι',I',c,hR,rfl,D⟩;have hkp:Keeps I (λb=>I b\/I' b) w w':=⟨λb hb=>.inl hb,λb hb=>by
  rw[D.frame b (r.imm b hb) (λ⟨id,o,inf,x,y,e⟩=>r.heap.off id o inf x y (e▸hb))]⟩
 have hkp':Keeps I' (λb=>I b\/I' b) w' w':=⟨λb hb=>.inr hb,λ_ _=>rfl⟩;refine⟨_,h',ι',λb=>I b\/I' b,hk v h' hR,Rel.put (c:=c) ?_ hn (D.res.keep (Grows.refl _) hkp')⟩;exact
 { slots := fun t u hu => let ⟨c, x, y⟩ := r.slots t u hu; ⟨c, x, y.keep D.pre hkp⟩
   heap := ⟨D.heap.len, fun id o inf x y => (D.heap.obj id o inf x y).keep (Grows.refl _) hkp' rfl, fun id o inf x y hb => by
     rcases hb with hb|hb
     · rcases D.mine id o inf x y with⟨id0,o0,inf0,x0,y0,e0⟩|hge
       · exact r.heap.off id0 o0 inf0 x0 y0 (e0▸hb)
       · have:=r.imm _ hb;omega
     · exact D.heap.off id o inf x y hb,D.heap.inj,λb c t hb=>.inl (r.heap.sub b c t hb)⟩
   imm:=λb hb=>by
     rcases hb with hb|hb
     · have:=r.imm b hb;have:=D.grown;omega
     · exact D.imm b hb
   immlo:=λb hb=>by
     rcases hb with hb|hb
     · exact r.immlo b hb
     · rcases D.immlo b hb with hb|⟨id0,o0,inf0,x0,y0,e0⟩|hb
       · exact r.immlo b hb
       · rw[<-e0];exact .inr (r.mine id0 o0 inf0 x0 y0)
       · exact .inr (.inr (Nat.le_trans r.grown hb))
   pre:=r.pre.trans D.pre
   os:=D.os.trans r.os
   tape:=D.tape.trans r.tape
   output:=D.output.trans r.output
   grown:=Nat.le_trans r.grown D.grown
   frame:=λb x y=>by
     rw [D.frame b (by have := r.grown; omega) (fun ⟨id, o, inf, x1, y1, e⟩ => by
       rcases r.mine id o inf x1 y1 with hp|hp
       · exact y (e▸hp)
       · omega)]
     exact r.frame b x y
   mine:=λid o inf x y=>by
     rcases D.mine id o inf x y with⟨id0,o0,inf0,x0,y0,e0⟩|hge
     · rw[<-e0];exact r.mine id0 o0 inf0 x0 y0
     · exact .inr (by have:=r.grown;omega)
   defers:=r.defers
   size:=r.size}
theorem ur (hv:ev L x=some (.one (.clo (.func f) vs))) (hx:evs L args=some avs) (hn:d<E.n) (hf:Fn P f xs [] R) (hsc:∀r h',R r h'->∀ι I w ι' I' w' c,AR ι I w r c->AR ι' I' w' r c)
  (hb:∀ι I a w,Rel E L h ι I a w->∀cs,ARs ι I w (avs++vs.map .one) cs->ARs [] (λb=>b<w.heap.size) w xs cs) (hk:∀r h',R r h'->K ((d,r)::L) h):
  ar P ⟨some d,.call ⟨.value x,args.toArray,tys⟩,ty,pos,af,gd⟩ E K L h:=by
 refine⟨λLf ι I a w r=> ?_⟩;unfold Oper.wp;rw[mR hf.1 hv r.low,Oper.upon_enter];refine(hf.2 w (λb=>b<w.heap.size) [] _ (HR.nil _ w λb c t hb=>r.imm b (r.heap.sub b c t hb)) (λ_ h=>h) (hb ι I a w r.low _ (kZ hv hx r.low))).mono ?_;rintro e w' ⟨v,h',ι',I',c,hR,rfl,D⟩;have hfr:∀b,b<w.heap.size->w'.heap[b]? =w.heap[b]? :=λb hb=>D.frame b hb (Bl b);have hk':Keeps I I w w':=⟨λ_ h=>h,λb hb=>by rw[hfr b (r.imm b hb)]⟩;refine⟨_,h,ι,I,hk v h' hR,Rel.put (c:=c) ?_ hn (hsc v h' hR _ _ _ _ _ _ _ D.res)⟩;exact
 { slots := fun t u hu => let ⟨c, x, y⟩ := r.slots t u hu; ⟨c, x, y.keep (Grows.refl _) hk'⟩
   heap:=⟨r.heap.len,λid o inf x y=>(r.heap.obj id o inf x y).keep (Grows.refl _) hk' (hfr _ (r.heap.blk x y)),r.heap.off,r.heap.inj,r.heap.sub⟩
   imm:=λb hb=>by have:=r.imm b hb;have:=D.grown;omega
   immlo:=r.immlo
   pre:=r.pre
   os:=D.os.trans r.os
   tape:=D.tape.trans r.tape
   output:=D.output.trans r.output
   grown:=Nat.le_trans r.grown D.grown
   frame:=λb x y=>by rw[hfr b (by have:=r.grown;omega)];exact r.frame b x y
   mine:=r.mine
   defers:=r.defers
   size:=r.size}
end
end
end Go.Proofs.YtfdkldmkbibknaaGreat.Abs
namespace Go.Proofs.YtfdkldmkbibknaaGreat.Den
open Go.RowKit
open Abs (V AV Env ag ar)
section
variable [Zb]
def ATRs (ρ:Rho) (H:List Ob) (xs:List AT) (avs:List AV):Prop:=xs.length=avs.length/\∀(j:Nat) (h1:j<xs.length) (h2:j<avs.length),ATR ρ H xs[j] avs[j]
def CFn (P:Program) (f:FuncId) (xs:List AT) (H:List Ob) (v:AT) (H':List Ob):Prop:=
 ∀(ρ:Rho) (h:ag) (avs:List AV),HpR ρ H h->ATRs ρ H xs avs->Abs.Fn P f avs h (λr h'=>∃ρ',ATR ρ' H' v r/\HpR ρ' H' h'/\Fr ⟨h,ρ,H⟩ ρ' H' h')
def ue (P:Program) (f:FuncId) (xs:List AT) (H:List Ob) (S:AT×List Ob->Prop):Prop:=
 ∀(ρ:Rho) (h:ag) (avs:List AV),HpR ρ H h->ATRs ρ H xs avs->Abs.Fn P f avs h (λr h'=>∃q ρ',S q/\ATR ρ' q.2 q.1 r/\HpR ρ' q.2 h'/\Fr ⟨h,ρ,H⟩ ρ' q.2 h')
def dc (P:Program) (O:Orc):Prop:=∀(R:Type) (f:Nat) (xs:List AT) (H:List Ob) (K:AT->List Ob->Option R) (r:R),O.call R f xs H K=some r->
 (Nat.beq (O.mode f) 3=false->∃v H',K v H'=some r/\CFn P f xs H v H')/\(Nat.beq (O.mode f) 3=true->∃S,(∀q,S q->K q.1 q.2=some r)/\ue P f xs H S)
def oO (P:Program) (e:Ent):Prop:=∀(R:Type) (xs:List AT) (H:List Ob) (K:AT->List Ob->Option R) (r:R),e.call R xs H K=some r->∃v H',K v H'=some r/\CFn P e.f xs H v H'
omit [Zb]in
theorem nv :∀{l:List Ent} {f:Nat} {e:Ent},pg l f=some e->e∈l/\e.f=f
 |[],_,_,h=>by cases h
 | x :: l, f, e, h => by
  simp only[pg]at h;cases hb:Nat.beq x.f f with
  | true =>
   rw[hb]at h;cases h;exact⟨by simp,nB hb⟩
  | false =>
   rw[hb]at h;obtain⟨h1,h2⟩:=nv h;exact⟨by simp[h1],h2⟩
def fK (P:Program) (e:Ent):Prop:=∀(R:Type) (xs:List AT) (H:List Ob) (K:AT->List Ob->Option R) (r:R),e.call R xs H K=some r->∃S,(∀q,S q->K q.1 q.2=some r)/\ue P e.f xs H S
def te (P:Program) (e:Ent):Prop:=match Nat.beq e.mode 3 with
 |true=>fK P e
 |false=>oO P e
def AllE (P:Program):List Ent->Prop
 |[]=>True
 |e::l=>te P e/\AllE P l
omit [Zb]in
theorem AllE.mem {P:Program}:∀{l:List Ent},AllE P l->∀e∈l,te P e
 |[],_,e,he=>by simp at he
 | x :: l, h, e, he => by
  rcases List.mem_cons.1 he with rfl|he
  ·exact h.1
  ·exact h.2.mem e he
omit [Zb]in
theorem cB {P:Program} {l:List Ent} (h:AllE P l):dc P (ca l):=λR f xs H K r hc=>by
 simp only[ca]at hc;split at hc
 ·rename_i e he;obtain⟨h1,rfl⟩:=nv         he;have k:=h.mem e h1;unfold te     at k;have hm:(ca    l).mode e.f=e.mode:=by simp only[ca   ,he]
  rw[hm];refine⟨λg=> ?_,λg=> ?_⟩
  ·rw[g]at k;exact k R xs H K r hc
  ·rw[g]at k;exact k R xs H K r hc
 ·cases hc
section
variable {P : Program} {E : Abs.Cx} {F : In} {ρ ρ' : Rho} {H H' : List Ob} {D : List (Nat × AT)} {L : Env} {h h' : ag} {g : Nat → Option Nat} {R : Type}
omit [Zb]in
theorem ATRs.mono (e:Ev ρ H ρ' H') {xs:List AT} {avs:List AV} (h:ATRs ρ H xs avs):ATRs ρ' H' xs avs:=⟨h.1,λj h1 h2=>(h.2 j h1 h2).mono e⟩
omit [Zb]in
theorem ATRs.nil_ :ATRs ρ H [] []:=⟨rfl,λj h=>by simp at h⟩
omit [Zb]in
theorem ATRs.cons {x:AT} {av:AV} {xs:List AT} {avs:List AV} (h:ATR ρ H x av) (k:ATRs ρ H xs avs):ATRs ρ H (x::xs) (av::avs):=
 ⟨by simp [k.1], fun j h1 h2 => by
  cases j with
  |zero=>exact h
  |succ j=>exact k.2 j (by simpa using h1) (by simpa using h2)⟩
omit [Zb]in
theorem ATRs.head {x:AT} {xs:List AT} {avs:List AV} (h:ATRs ρ H (x::xs) avs):∃av bvs,avs=av::bvs/\ATR ρ H x av/\ATRs ρ H xs bvs:=by
 cases avs with
 |nil=>have:=h.1;simp at this
 |cons v us=>exact⟨v,us,rfl,h.2 0 (by simp) (by simp),by have:=h.1;simpa using this,λj h1 h2=>h.2 (j+1) (by simpa using h1) (by simpa using h2)⟩
omit [Zb]in
theorem ATRs.app {a b:List AT} {x y:List AV} (h:ATRs ρ H a x) (k:ATRs ρ H b y):ATRs ρ H (a++b) (x++y):=
 ⟨by simp [h.1, k.1], fun j h1 h2 => by
   by_cases hj:j<a.length
   · have hj':j<x.length:=by rw[<-h.1];exact hj
     rw[List.getElem_append_left hj,List.getElem_append_left hj'];exact h.2 j hj hj'
   · have hj':¬j<x.length:=by rw[<-h.1];exact hj
     rw[List.getElem_append_right (by omega),List.getElem_append_right (by omega)];have:=k.2 (j-a.length) (by simp at h1;omega) (by simp at h2;have:=h.1;omega);have e:=h.1;simp only[e]at this ⊢;exact this⟩
omit [Zb]in
theorem CRs.ats {cs:List C} {vs:List V} (h:CRs ρ H cs vs):ATRs ρ H (cs.map .one) (vs.map .one):=
 ⟨by simp[h.1],λj h1 h2=>by simp only[List.getElem_map];exact .one (h.2 j (by simpa using h1) (by simpa using h2))⟩
omit [Zb]in
theorem CR.clo {f:Nat} {caps:List C} {v:V} (h:CR ρ H (.f f caps) v):∃vs,v= .clo (.func f) vs/\CRs ρ H caps vs:=by
 cases h with
 |fl h=>cases h
 |f hl hr=>exact⟨_,rfl,hl,hr⟩
def Weak (avs bvs:List AV):Prop:=avs.length=bvs.length/\∀(j:Nat) (h1:j<avs.length) (h2:j<bvs.length),∀ι I w u,Abs.AR ι I w avs[j] u->Abs.AR ι I w bvs[j] u
theorem Weak.ars {avs bvs:List AV} (h:Weak avs bvs) {ι:List Abs.Inf} {I:Nat->Prop} {w:World} {cs:Array Value} (k:Abs.ARs ι I w avs cs):Abs.ARs ι I w bvs cs:=
 ⟨by rw [k.1, h.1], fun j hj => by
  obtain⟨c,h1,h2⟩:=k.2 j (by rw[h.1];exact hj);exact⟨c,h1,h.2 j _ hj _ _ _ _ h2⟩⟩
theorem Weak.nil_ :Weak [] []:=⟨rfl,λj h=>by simp at h⟩
theorem Weak.cons {a b:AV} {avs bvs:List AV} (h:∀ι I w u,Abs.AR ι I w a u->Abs.AR ι I w b u) (k:Weak avs bvs):Weak (a::avs) (b::bvs):=
 ⟨by simp [k.1], fun j h1 h2 => by
  cases j with
  |zero=>exact h
  |succ j=>exact k.2 j (by simpa using h1) (by simpa using h2)⟩
theorem gU :∀{xs ys:List AT} {avs:List AV},cn [] xs=some ys->ATRs ρ H xs avs->∃bvs,ATRs [] [] ys bvs/\Abs.AV.flats bvs=true/\Weak avs bvs
 | [], ys, avs, hp, hr => by
  cases hp;have:=hr.1;cases avs with
  |nil=>exact⟨[],.nil_,rfl,.nil_⟩
  |cons _ _=>simp at this
 | x :: xs, ys, avs, hp, hr => by
  simp only[cn]at hp;split at hp
  ·rename_i y ys' h1 h2;cases hp;obtain⟨av,avs,rfl,r1,r2⟩:=hr.head;obtain⟨bv,k1,k2,k3⟩:=oC h1 r1;obtain⟨bvs,m1,m2,m3⟩:=gU h2 r2;exact⟨bv::bvs,.cons k1 m1,by simp[Abs.AV.flats,k2,m2],.cons k3 m3⟩
  ·cases hp
omit [Zb]in
theorem HpR.ext (hp:HpR ρ H h) (hl:h.length<=h'.length) (hs:∀a,a<h.length->h'[a]? =h[a]?):HpR ρ H h':=
 HpR.mk' hp.len (λid x hx=>by
  rcases hp.ob hx with⟨a,z,k1,k2,k3⟩|k1|k1
  ·exact .inl ⟨a,z,k1,by rw[hs a (hp.lt _ _ k1)];exact k2,k3⟩
  ·exact .inr (.inl k1)
  ·exact .inr (.inr k1)) hp.inj (λi a h1=>by have:=hp.lt i a h1;omega)
omit [Zb]in
theorem Fr.ext (hf:Fr F ρ H h) (hl:h.length<=h'.length) (hs:∀a,a<h.length->h'[a]? =h[a]?):Fr F ρ H h':=
 hf.step (Ev.refl _ _) hl (λid _ h1 l=>.inl ⟨id,h1,l⟩) (λa h1 _=>hs a h1)
omit [Zb]in
theorem HpR.nil_ :HpR [] [] h:=HpR.mk' rfl (λid x hx=>by simp at hx) (λi j a h1 _ _ _=>by simp at h1) (λi a h1=>by simp at h1)
omit [Zb]in
theorem nA {H0:List Ob} {c c':C} (h:kN H0 c=some c'):fE c'=true\/c'= .zs:=by
 unfold kN at h;split at h
 all_goals first
  |(cases h;done)
  |(cases h;first|exact .inl rfl|exact .inr rfl)
  |(split at h<;>first|(cases h;done)|(cases h;exact .inl rfl))
omit [Zb]in
theorem CR.up2 {ρ0:Rho} {H0:List Ob} {c:C} {v:V} (hf:fE c=true\/c= .zs) (h:CR ρ0 H0 c v):CR ρ H c v:=by
 rcases hf with hf|rfl
 ·exact h.up hf
 ·cases h with
  |fl h=>cases h
  |zs=>exact .zs
omit [Zb]in
theorem lK {H0:List Ob}:∀{cs ds:List C},cU H0 cs=some ds->∀d∈ds,fE d=true\/d= .zs
 |[],ds,h=>by cases h;simp
 | c :: cs, ds, h => by
  simp only[cU]at h;split at h
  ·rename_i x xs h1 h2;cases h;intro d hd;rcases List.mem_cons.1 hd with rfl|hd
   ·exact nA h1
   ·exact lK h2 d hd
  ·cases h
omit [Zb]in
theorem sY {H0 H1:List Ob} {ρ0:Rho} {x y:AT} {bv:AV} (hp:fj H0 x=some y) (h:ATR ρ0 H1 y bv):ATR ρ H y bv:=by
 cases x with
 | one c =>
  simp only[fj,Option.map_eq_some_iff]at hp;obtain⟨c',h1,rfl⟩:=hp;cases h with
  |one k=>exact .one (k.up2 (nA h1))
 | agg cs =>
  simp only[fj,Option.map_eq_some_iff]at hp;obtain⟨ds,h1,rfl⟩:=hp;cases h with
  |agg k=>exact .agg ⟨k.1,λj a b=>(k.2 j a b).up2 (lK h1 _ (gM a))⟩
 |tup _=>cases hp
theorem iz {O:Orc} {f:Nat}:∀{j:Nat} {xs ys:List AT} {H H':List Ob} {ρ:Rho} {avs:List AV},gZ O f j xs H=some (ys,H')->HpR ρ H h->Fr F ρ H h->ATRs ρ H xs avs->∃ρ' bvs,Mat F h ρ H ρ' H'/\ATRs ρ' H' ys bvs/\Weak avs bvs
 | j, [], ys, H, H', ρ, avs, hc, hp, hf, hr => by
  simp only[gZ]at hc;cases hc;have:=hr.1;cases avs with
  |nil=>exact⟨ρ,[],Mat.refl hp hf,.nil_,.nil_⟩
  |cons _ _=>simp at this
 | j, x :: xs, ys, H, H', ρ, avs, hc, hp, hf, hr => by
  obtain⟨av,avs,rfl,r1,r2⟩:=hr.head;unfold gZ at hc;split at hc
  ·split at hc
   ·rename_i y ys' H2 h1 h2;cases hc;obtain⟨bv,k1,k2,k3⟩:=oC h1 r1;obtain⟨ρ',bvs,m1,m2,m3⟩:=iz h2 hp hf r2;exact⟨ρ',bv::bvs,m1,.cons (sY h1 k1) m2,.cons k3 m3⟩
   ·cases hc
  ·split at hc
   ·rename_i T;split at hc
    ·rename_i ys' H2 h2;cases hc;cases r1 with
     | one k =>
      obtain⟨rfl,hT⟩:=k.nil';obtain⟨m1,m2⟩:=pL hT hp hf;obtain⟨ρ',bvs,n1,n2,n3⟩:=iz h2 m1.heap m1.fr (r2.mono m1.ev);exact⟨ρ',_::bvs,m1.trans n1,.cons (.one (m2.mono n1.ev)) n2,.cons (λ_ _ _ _ h=>h) n3⟩
    ·cases hc
   ·split at hc
    ·rename_i ys' H2 h2;cases hc;obtain⟨ρ',bvs,n1,n2,n3⟩:=iz h2 hp hf r2;exact⟨ρ',av::bvs,n1,.cons (r1.mono n1.ev) n2,.cons (λ_ _ _ _ h=>h) n3⟩
    ·cases hc
end
end
end Go.Proofs.YtfdkldmkbibknaaGreat.Den

/-
  Texts that the claim rests on, merged: MarkB, SgD, SgV.
-/
import Derived.Test.YtfdkldmkbibknaaGreatZRowPT2
import Derived.Test.YtfdkldmkbibknaaGreatZRowPT24
import Derived.Test.YtfdkldmkbibknaaGreatZRowPT25

namespace Go.Proofs.YtfdkldmkbibknaaGreat
open Go.RowKit
theorem Like.cInt {S:Nat->Prop} {w w':World} (h:Like S w w') {b o:Nat} {x:Int} (hc:w.cell? ⟨b,o,none⟩=some (.int .i64 x)):∃y,w'.cell? ⟨b,o,none⟩=some (.int .i64 y):=by
 obtain⟨u,h1,h2⟩:=h.kin _ _ _ hc
 obtain⟨y,rfl⟩:=h2.eqInt
 exact⟨y,h1⟩
theorem Like.cStr {S:Nat->Prop} {w w':World} (h:Like S w w') {b o:Nat} {s:ByteArray} (hc:w.cell? ⟨b,o,none⟩=some (.string s)):∃t,w'.cell? ⟨b,o,none⟩=some (.string t):=by
 obtain⟨u,h1,h2⟩:=h.kin _ _ _ hc
 obtain⟨y,rfl⟩:=h2.eqStr
 exact⟨y,h1⟩
theorem Like.cSlice {S:Nat->Prop} {w w':World} (h:Like S w w') {b o n c:Nat} {A:Option Addr} (hc:w.cell? ⟨b,o,none⟩=some (.slice A n c)):w'.cell? ⟨b,o,none⟩=some (.slice A n c):=by
 obtain⟨u,h1,h2⟩:=h.kin _ _ _ hc
 rw[h2.eqSlice]at h1
 exact h1
theorem Soft.alloc {S:Nat->Prop} {w:World} (h:Soft S w) (o:Obj):Soft S (w.alloc o):=h.like (Like.of_below (S:=S) ((Below.refl _ _).alloc (Nat.le_refl _) _))
theorem AtS.alloc {S:Nat->Prop} {w:World} {d:D} {v:Value} (h:AtS w S d v) (o:Obj):AtS (w.alloc o) S d v:=h.next (Like.of_below (S:=S) ((Below.refl _ _).alloc (Nat.le_refl _) _))
theorem Like.front {S:Nat->Prop} {w w':World} (o:Obj) (h:Like S (w.alloc o) w'):Like S w w':=(Like.of_below (S:=S) ((Below.refl _ _).alloc (Nat.le_refl _) _)).trans h
theorem Like.blk {S:Nat->Prop} {w w':World} (h:Like S w w') {g:Nat} {t:TypeId} {cs:Array Value} (hb:Blk w g t cs) (hg:¬S g):Blk w' g t cs:=(h.block g hb.lt hg).trans hb
section
variable {α : Type} {w w' : World} {S : Nat → Prop} {xs : List α} {v : Value}
def rowOf (f:α->List D) (xs:List α):D:=.row xs.length (xs.flatMap f)
theorem rowOf_slice {f:α->List D} (h:At w S (rowOf f xs) v):∃A c,v= .slice A xs.length c/\xs.length<=c/\c<=9223372036854775807:=h.slice
theorem rowOf_get {f:α->List D} (s:Nat) (hf:∀x,(f x).length=s) {A:Option Addr} {n c k:Nat} (h:At w S (rowOf f xs) (.slice A n c)) (hs0:0<s) (hk:k<xs.length):
  ∃b off x,A=some ⟨b,off,none⟩/\S b/\b<w.heap.size/\Hid (xs[k]? =some x)/\∀(j:Nat) (d:D),(f x)[j]? =some d->∃u,w.cell? ⟨b,off+(k*s+j),none⟩=some u/\At w S d u:=by
 have hn:n=xs.length:=by obtain⟨_,_,e,_⟩:=rowOf_slice h;injection e
 subst hn
 obtain⟨b,off,e,hs,hlt,hc⟩:=At.cellAt h (by rw[flat_len _ s hf];exact Nat.mul_pos (by omega) hs0)
 refine⟨b,off,xs[k],e,hs,hlt,gE hk,λj d hd=> ?_⟩
 have hj:j<s:=by have:=(gI.1 hd).1;rw[hf]at this;exact this
 exact hc (k*s+j) d (by rw[flat_at _ s hf _ _ _ hj,gE hk];exact hd)
theorem rowOf_mk {f:α->List D} (s:Nat) (hf:∀x,(f x).length=s) {A:Option Addr} {c:Nat} (hs0:0<s) (hn:xs.length<=c) (hc:c<=9223372036854775807)
  (h:0<xs.length->∃b off,A=some ⟨b,off,none⟩/\S b/\∀(k:Nat) (x:α),xs[k]? =some x->∀(j:Nat) (d:D),(f x)[j]? =some d->∃u,w.cell? ⟨b,off+(k*s+j),none⟩=some u/\At w S d u):
  At w S (rowOf f xs) (.slice A xs.length c):=by
 refine at_row.2 ⟨A,c,rfl,hn,hc,λhp=> ?_⟩
 rw[flat_len _ s hf]at hp
 obtain⟨b,off,e,hs,hk⟩:=h (by rcases Nat.eq_zero_or_pos xs.length with h|h;(rw[h,Nat.zero_mul]at hp;omega);exact h)
 refine⟨b,off,e,hs,λj hj=> ?_⟩
 have hj':j<xs.length*s:=by rw[flat_len _ s hf]at hj;exact hj
 have hq:j / s<xs.length:=Nat.div_lt_of_lt_mul (by rw[Nat.mul_comm];exact hj')
 have hm:j%s<s:=Nat.mod_lt _ hs0
 have hat:(xs.flatMap f)[j]? =(f xs[j / s])[j%s]? :=by
  have:=flat_at f s hf xs (j / s) (j%s) hm
  rw[show j / s*s+j%s=j by rw[Nat.mul_comm];exact Nat.div_add_mod _ _,gE hq]at this
  exact this
 rw[gE hj]at hat
 have:=hk (j / s) xs[j / s] (gE hq) (j%s) _ hat.symm
 rw[show j / s*s+j%s=j by rw[Nat.mul_comm];exact Nat.div_add_mod _ _]at this
 exact this
theorem rowOf_getS {f:α->List D} (s:Nat) (hf:∀x,(f x).length=s) {A:Option Addr} {n c k:Nat} (h:AtS w S (rowOf f xs) (.slice A n c)) (hs0:0<s) (hk:k<xs.length):
  ∃b off x,A=some ⟨b,off,none⟩/\S b/\b<w.heap.size/\Hid (xs[k]? =some x)/\∀(j:Nat) (d:D),(f x)[j]? =some d->∃u,w.cell? ⟨b,off+(k*s+j),none⟩=some u/\AtS w S d u:=by
 obtain⟨A',c',e1,_,_,h4⟩:=atS_row.1 h
 injection e1 with e1 e2 e3
 subst e1 e2 e3
 have hp:0<(xs.flatMap f).length:=by rw[flat_len _ s hf];exact Nat.mul_pos (by omega) hs0
 obtain⟨b,off,e,hs,hc⟩:=h4 hp
 refine⟨b,off,xs[k],e,hs,?_,gE hk,λj d hd=> ?_⟩
 ·obtain⟨u,hu,_⟩:=hc 0 hp
  exact World.block_lt_of_cell? w _ hu
 ·have hj:j<s:=by have:=(gI.1 hd).1;rw[hf]at this;exact this
  have e2:(xs.flatMap f)[k*s+j]? =some d:=by rw[flat_at _ s hf _ _ _ hj,gE hk];exact hd
  obtain⟨h1,h2⟩:=gI.1 e2
  obtain⟨u,u1,u2⟩:=hc (k*s+j) h1
  exact⟨u,u1,by rw[<-h2];exact u2⟩
end
open Den (Sb So Dc Opr Sg)
def strC (x:ByteArray):List D:=[.lit (.string x)]
def subC (x:Sb):List D:=[.lit (.int .i64 x.low),.lit (.int .i64 x.high)]
def decC (x:Dc):List D:=[ints x.args,.lit (.int .i64 x.result)]
abbrev strs (xs:List ByteArray):D:=rowOf strC xs
abbrev subs (xs:List Sb):D:=rowOf subC xs
abbrev decs (xs:List Dc):D:=rowOf decC xs
def oprC (x:Opr):List D:=[.lit (.string x.name),decs x.decls,.lit (.bool x.assoc),.lit (.bool x.comm),.lit (.int .i64 x.unit)]
abbrev oprs (xs:List Opr):D:=rowOf oprC xs
theorem strs_get {w:World} {S:Nat->Prop} {xs:List ByteArray} {A:Option Addr} {n c k:Nat} (h:At w S (strs xs) (.slice A n c)) (hk:k<xs.length):
  ∃b off x,A=some ⟨b,off,none⟩/\S b/\b<w.heap.size/\w.cell? ⟨b,off+k,none⟩=some (.string x)/\x.size<=maxLen/\Hid (xs[k]? =some x):=by
 obtain⟨b,off,x,e,hs,hl,hx,hc⟩:=rowOf_get 1 (λ_=>rfl) h (by omega) hk
 obtain⟨u,u1,u2⟩:=hc 0 _ rfl
 obtain⟨rfl,q⟩:=at_lit.1 u2
 rw[show off+(k*1+0)=off+k by omega]at u1
 exact⟨b,off,x,e,hs,hl,u1,q,hx⟩
theorem subs_get {w:World} {S:Nat->Prop} {xs:List Sb} {A:Option Addr} {n c k:Nat} (h:At w S (subs xs) (.slice A n c)) (hk:k<xs.length):
  ∃b off x,A=some ⟨b,off,none⟩/\S b/\b<w.heap.size/\w.cell? ⟨b,off+k*2,none⟩=some (.int .i64 (Sb.low x))/\w.cell? ⟨b,off+k*2+1,none⟩=some (.int .i64 (Sb.high x))/\(okLit (.int .i64 (Sb.low x))/\okLit (.int .i64 (Sb.high x)))/\Hid (xs[k]? =some x):=by
 obtain⟨b,off,x,e,hs,hl,hx,hc⟩:=rowOf_get 2 (λ_=>rfl) h (by omega) hk
 obtain⟨u,u1,u2⟩:=hc 0 _ rfl
 obtain⟨v,v1,v2⟩:=hc 1 _ rfl
 obtain⟨rfl,q⟩:=at_lit.1 u2
 obtain⟨rfl,q'⟩:=at_lit.1 v2
 exact⟨b,off,x,e,hs,hl,u1,v1,⟨q,q'⟩,hx⟩
theorem decs_get {w:World} {S:Nat->Prop} {xs:List Dc} {A:Option Addr} {n c k:Nat} (h:At w S (decs xs) (.slice A n c)) (hk:k<xs.length):
  ∃b off x u,A=some ⟨b,off,none⟩/\S b/\b<w.heap.size/\w.cell? ⟨b,off+k*2,none⟩=some u/\At w S (ints (Dc.args x)) u/\w.cell? ⟨b,off+k*2+1,none⟩=some (.int .i64 (Dc.result x))/\okLit (.int .i64 (Dc.result x))/\Hid (xs[k]? =some x):=by
 obtain⟨b,off,x,e,hs,hl,hx,hc⟩:=rowOf_get 2 (λ_=>rfl) h (by omega) hk
 obtain⟨u,u1,u2⟩:=hc 0 _ rfl
 obtain⟨v,v1,v2⟩:=hc 1 _ rfl
 obtain⟨rfl,q'⟩:=at_lit.1 v2
 exact⟨b,off,x,u,e,hs,hl,u1,u2,v1,q',hx⟩
theorem oprs_get {w:World} {S:Nat->Prop} {xs:List Opr} {A:Option Addr} {n c k:Nat} (h:At w S (oprs xs) (.slice A n c)) (hk:k<xs.length):
  ∃ b off x u, A = some ⟨b, off, none⟩ ∧ S b ∧ b < w.heap.size ∧ w.cell? ⟨b, off + k * 5, none⟩ = some (.string (Opr.name x)) ∧ w.cell? ⟨b, off + k * 5 + 1, none⟩ = some u ∧ At w S (decs (Opr.decls x)) u ∧ w.cell? ⟨b, off + k * 5 + 2, none⟩ = some (.bool (Opr.assoc x)) ∧
   w.cell? ⟨b,off+k*5+3,none⟩=some (.bool (Opr.comm x))/\w.cell? ⟨b,off+k*5+4,none⟩=some (.int .i64 (Opr.unit x))/\((Opr.name x).size<=maxLen/\okLit (.int .i64 (Opr.unit x)))/\Hid (xs[k]? =some x):=by
 obtain⟨b,off,x,e,hs,hl,hx,hc⟩:=rowOf_get 5 (λ_=>rfl) h (by omega) hk
 obtain⟨u0,p0,q0⟩:=hc 0 _ rfl
 obtain⟨u1,p1,q1⟩:=hc 1 _ rfl
 obtain⟨u2,p2,q2⟩:=hc 2 _ rfl
 obtain⟨u3,p3,q3⟩:=hc 3 _ rfl
 obtain⟨u4,p4,q4⟩:=hc 4 _ rfl
 obtain⟨rfl,r0⟩:=at_lit.1 q0
 obtain⟨rfl,_⟩:=at_lit.1 q2
 obtain⟨rfl,_⟩:=at_lit.1 q3
 obtain⟨rfl,r4⟩:=at_lit.1 q4
 exact⟨b,off,x,u1,e,hs,hl,p0,p1,q1,p2,p3,p4,⟨r0,r4⟩,hx⟩
def RowTo {α:Type} (f:α->List D) (s:Nat) (w:World) (B:Nat) (xs:List α) (k:Nat) (cs:Array Value):Prop:=
 cs.size=xs.length*s/\∀(j:Nat) (x:α),j<k->xs[j]? =some x->∀(i:Nat) (d:D),(f x)[i]? =some d->∃u,cs[j*s+i]? =some u/\At w (From B) d u
theorem RowTo.step {α:Type} {f:α->List D} {s:Nat} {w w':World} {B:Nat} {xs:List α} {k:Nat} {cs cs':Array Value} {x:α} (h:RowTo f s w B xs k cs) (hf:∀x,(f x).length=s) (hx:xs[k]? =some x) (hk:∀d v,At w (From B) d v->At w' (From B) d v)
  (hsz:cs'.size=cs.size) (ho:∀m,m<k*s\/k*s+s<=m->cs'[m]? =cs[m]?) (hn:∀(i:Nat) (d:D),(f x)[i]? =some d->∃u,cs'[k*s+i]? =some u/\At w' (From B) d u):RowTo f s w' B xs (k+1) cs':=by
 obtain⟨h1,h2⟩:=h
 refine⟨hsz.trans h1,λj y hj hy i d hd=> ?_⟩
 by_cases e:j=k
 ·subst e
  rw[hx]at hy
  cases hy
  exact hn i d hd
 ·obtain⟨u,u1,u2⟩:=h2 j y (by omega) hy i d hd
  have hi:i<s:=by have:=(gI.1 hd).1;rw[hf]at this;exact this
  refine⟨u,(ho _ (.inl ?_)).trans u1,hk _ _ u2⟩
  have:(j+1)*s<=k*s:=Nat.mul_le_mul_right s (by omega)
  rw[Nat.add_mul,Nat.one_mul]at this
  omega
theorem RowTo.done {α:Type} {f:α->List D} {s:Nat} {w:World} {B:Nat} {xs:List α} {cs:Array Value} {t:TypeId} {p:Nat} (h:RowTo f s w B xs xs.length cs) (hf:∀x,(f x).length=s) (hs0:0<s) (hb:Blk w p t cs) (hp:∀b,From B b->From p b) (hl:xs.length<=1048576):At w (From p) (rowOf f xs) (.slice (some ⟨p,0,none⟩) xs.length xs.length):=by
 refine rowOf_mk s hf hs0 (Nat.le_refl _) (by omega) λ_=>⟨p,0,rfl,Nat.le_refl _,λk x hx j d hd=> ?_⟩
 obtain⟨u,u1,u2⟩:=h.2 k x (gI.1 hx).1 hx j d hd
 exact⟨u,by rw[Nat.zero_add,hb.cell];exact u1,u2.mono λb hb _=>hp b hb⟩
end Go.Proofs.YtfdkldmkbibknaaGreat
namespace Go.Proofs.YtfdkldmkbibknaaGreat.Den
open Go.ChangeShapes Go.WideShapes Go.ChangeAt Go.RowKit Go.Deep Go.Joins
open Abs (V AV VRs VR AR ARs Inf Fn)
section
variable {w : World} {S J : Nat → Prop} (hS : ∀ b, S b → b < w.heap.size → J b)
include hS
theorem strs_vr {xs:List ByteArray} {v:Value} (h:At w S (strs xs) v):∃es,FR (.l .s xs) (.imm 1 es)/\VR J w [] (.imm 1 es) v:=
 list_vr (T:=.s) (by decide) hS strC (λ_=>rfl) (xs:=xs) h λx _ us hl hu=>by
  match us,hl with
  | [u], _ =>
   obtain⟨rfl,hk⟩:=at_lit.1 (hu 0 _ u rfl rfl)
   exact⟨[.lit (.string x)],frs_cons .s frs_nil,vrs1 (.lit hk)⟩
theorem subs_vr {xs:List Sb} {v:Value} (h:At w S (subs xs) v):∃es,FR (.l (.n 5) xs) (.imm 2 es)/\VR J w [] (.imm 2 es) v:=
 list_vr (T:=.n 5) (by decide) hS subC (λ_=>rfl) (xs:=xs) h λx _ us hl hu=>by
  match us,hl with
  | [a, b], _ =>
   obtain⟨rfl,ka⟩:=at_lit.1 (hu 0 _ a rfl rfl)
   obtain⟨rfl,kb⟩:=at_lit.1 (hu 1 _ b rfl rfl)
   exact⟨[.lit (.int .i64 (Sb.low x)),.lit (.int .i64 (Sb.high x))],frs_cons .i (frs_cons .i frs_nil),vrs_cons (.lit ka) (vrs1 (.lit kb))⟩
theorem decs_vr {xs:List Dc} {v:Value} (h:At w S (decs xs) v):∃es,FR (.l (.n 7) xs) (.imm 2 es)/\VR J w [] (.imm 2 es) v:=
 list_vr (T:=.n 7) (by decide) hS decC (λ_=>rfl) (xs:=xs) h λx _ us hl hu=>by
  match us,hl with
  | [a, b], _ =>
   obtain⟨es,k1,k2⟩:=ints_vr hS (hu 0 _ a rfl rfl)
   obtain⟨rfl,kb⟩:=at_lit.1 (hu 1 _ b rfl rfl)
   exact⟨[.imm 1 es,.lit (.int .i64 (Dc.result x))],frs_cons k1 (frs_cons .i frs_nil),vrs_cons k2 (vrs1 (.lit kb))⟩
theorem oprs_vr {xs:List Opr} {v:Value} (h:At w S (oprs xs) v):∃es,FR (.l (.n 8) xs) (.imm 5 es)/\VR J w [] (.imm 5 es) v:=
 list_vr (T:=.n 8) (by decide) hS oprC (λ_=>rfl) (xs:=xs) h λx _ us hl hu=>by
  match us,hl with
  | [a, b, c, d, e], _ =>
   obtain⟨rfl,ka⟩:=at_lit.1 (hu 0 _ a rfl rfl)
   obtain⟨es,k1,k2⟩:=decs_vr hS (hu 1 _ b rfl rfl)
   obtain⟨rfl,_⟩:=at_lit.1 (hu 2 _ c rfl rfl)
   obtain⟨rfl,_⟩:=at_lit.1 (hu 3 _ d rfl rfl)
   obtain⟨rfl,ke⟩:=at_lit.1 (hu 4 _ e rfl rfl)
   exact⟨[.lit (.string (Opr.name x)),.imm 2 es,.lit (.bool (Opr.assoc x)),.lit (.bool (Opr.comm x)),.lit (.int .i64 (Opr.unit x))],frs_cons .s (frs_cons k1 (frs_cons .b (frs_cons .b (frs_cons .i frs_nil)))),
    vrs_cons (.lit ka) (vrs_cons k2 (vrs_cons (.lit trivial) (vrs_cons (.lit trivial) (vrs1 (.lit ke)))))⟩
theorem arg_sig {s:Sg} {v u z:Value} (h:At w S (strs s.sorts.names) v) (k:At w S (subs s.sorts.subs) u) (l:At w S (oprs s.ops) z):∃vs,ATR [] [] (.agg [.l .s s.sorts.names,.l (.n 5) s.sorts.subs,.l (.n 8) s.ops]) (.agg vs)/\AR [] J w (.agg vs) (.agg #[v,u,z]):=by
 obtain⟨es,h1,h2⟩:=strs_vr hS h
 obtain⟨fs,k1,k2⟩:=subs_vr hS k
 obtain⟨gs,l1,l2⟩:=oprs_vr hS l
 exact⟨[.imm 1 es,.imm 2 fs,.imm 5 gs],.agg (FRs.cr (frs_cons h1 (frs_cons k1 (frs_cons l1 frs_nil)))),ar_agg (vrs_cons h2 (vrs_cons k2 (vrs1 l2)))⟩
end
theorem arg_str {w:World} {J:Nat->Prop} {x:ByteArray} (h:x.size<=maxLen):∃y,ATR [] [] (.one (.s x)) (.one y)/\AR [] J w (.one y) (.string x):=⟨_,.one (.fl .s),.one (.lit h)⟩
section
variable {ρ : Rho} {H : List Ob} {ι : List Inf} {J : Nat → Prop} {w : World} {h : Abs.Heap}
theorem len4 {α:Type} {l:List α} (h:l.length=4):∃a b c d,l=[a,b,c,d]:=by
 match l,h with
 |[a,b,c,d],_=>exact⟨a,b,c,d,rfl⟩
theorem tm_at (t:Tm):∀{ι:List Inf} {es:List (List V)} {c:Value},FR (.l (.n 1) t.args) (.imm 4 es)->VR J w ι (.imm 4 es) c->At w J (terms t.args) c:=by
 induction t using Tm.induct with
 | h o n s args ih =>
  intro ι es c h1 h2
  obtain⟨hl,hs',hr⟩:es.length=args.length/\(∀e∈es,e.length=4)/\∀(m:Nat) (h1:m<args.length) (h2:m<es.length) (j:Nat) (h3:j<(explode (.n 1) args[m]).length) (h4:j<es[m].length),FR (explode (.n 1) args[m])[j] es[m][j]:=by
   cases h1 with
   |l hp hl hs hr=>exact⟨hl,hs,hr⟩
  show At w J (terms args) c
  cases h2 with
  | imm0 hc =>
   obtain rfl:=nZ hl.symm
   exact terms_mk (Nat.zero_le _) hc λh=>by simp at h
  | @imm _ _ b off cap _ f hs hc hm hI hcell hrv =>
   rw[hl]
   refine terms_mk (by omega) hm λ_=>⟨b,off,rfl,hI,λk t ht=> ?_⟩
   obtain⟨hk,hte⟩:=gI.1 ht
   have hk':k<es.length:=by omega
   have h4:es[k].length=4:=hs' _ (gM hk')
   have q0:=hcell k 0 hk' (by omega)
   have q1:=hcell k 1 hk' (by omega)
   have q2:=hcell k 2 hk' (by omega)
   have q3:=hcell k 3 hk' (by omega)
   have v0:=hrv k hk' 0 (by omega)
   have v1:=hrv k hk' 1 (by omega)
   have v2:=hrv k hk' 2 (by omega)
   have v3:=hrv k hk' 3 (by omega)
   have e0:=hr k hk hk' 0 (by show 0<[C.i _,C.s _,C.i _,C.l (.n 1) _].length;simp) (by omega)
   have e1:=hr k hk hk' 1 (by show 1<[C.i _,C.s _,C.i _,C.l (.n 1) _].length;simp) (by omega)
   have e2:=hr k hk hk' 2 (by show 2<[C.i _,C.s _,C.i _,C.l (.n 1) _].length;simp) (by omega)
   have e3:=hr k hk hk' 3 (by show 3<[C.i _,C.s _,C.i _,C.l (.n 1) _].length;simp) (by omega)
   obtain⟨a0,a1,a2,a3,hes⟩:=len4 h4
   ·simp only[hes,List.getElem_cons_zero,List.getElem_cons_succ]at v0 v1 v2 v3 e0 e1 e2 e3
    have e0:FR (.i args[k].op) a0:=e0
    have e1:FR (.s args[k].name) a1:=e1
    have e2:FR (.i args[k].sort) a2:=e2
    have e3:FR (.l (.n 1) args[k].args) a3:=e3
    rw[hte]at e0 e1 e2 e3
    generalize f k 0=z0 at q0 v0
    generalize f k 1=z1 at q1 v1
    generalize f k 2=z2 at q2 v2
    generalize f k 3=z3 at q3 v3
    obtain⟨es3,rfl,e3⟩:∃es3,a3= .imm 4 es3/\FR (.l (.n 1) t.args) (.imm 4 es3):=by
     cases e3 with
     |l hp hl hs hr=>exact⟨_,rfl,.l hp hl hs hr⟩
    cases e0
    cases e1
    cases e2
    cases v0 with
    | lit k0 => cases v1 with
     | lit k1 => cases v2 with
      | lit k2 =>
       have k1':t.name.size<=9223372036854775807:=by have:t.name.size<=maxLen:=k1;simp only[maxLen]at this;omega
       have w0:=wf_bounds k0
       have w2:=wf_bounds k2
       exact⟨z3,by simpa using q0,by simpa [Nat.add_assoc]using q1,by simpa [Nat.add_assoc]using q2,by simpa [Nat.add_assoc]using q3,ih t (by rw[<-hte];exact gM hk) e3 v3,w0.1,w0.2,k1',w2.1,w2.2⟩
theorem res_terms {ts:List Tm} {v:V} {c:Value} (h1:CR ρ H (.l (.n 1) ts) v) (h2:VR J w ι v c):At w J (terms ts) c:=by
 obtain⟨es,rfl,hf⟩:∃es,v= .imm 4 es/\FR (.l (.n 1) ts) (.imm 4 es):=by
  cases h1 with
  | fl h1 => cases h1 with
   |l hp hl hs hr=>exact⟨_,rfl,.l hp hl hs hr⟩
 exact tm_at ⟨0,ByteArray.empty,0,ts⟩ hf h2
theorem arr4 {cs:Array Value} (h:cs.size=4):∃a b c d,cs= #[a,b,c,d]:=by
 rcases cs with⟨l⟩
 match l,h with
 |[a,b,c,d],_=>exact⟨a,b,c,d,rfl⟩
theorem res_tm {t:Tm} {r:AV} {c:Value} (h1:ATR ρ H (.agg [.i t.op,.s t.name,.i t.sort,.l (.n 1) t.args]) r) (h2:AR ι J w r c):∃z,c= .agg #[.int .i64 t.op,.string t.name,.int .i64 t.sort,z]/\At w J (terms t.args) z/\t.fits:=by
 cases h1 with
 | @agg _ ys hr =>
  obtain⟨hl,hr⟩:=hr
  match ys,hl with
  | [y1, y2, y3, y4], _ =>
   cases h2 with
   | @agg _ cs f hl' hcs hr'=>
    obtain⟨c1,c2,c3,c4,rfl⟩:=arr4 hl'
    have e1:=hcs 0 (by simp)
    have e2:=hcs 1 (by simp)
    have e3:=hcs 2 (by simp)
    have e4:=hcs 3 (by simp)
    simp at e1 e2 e3 e4
    subst e1 e2 e3 e4
    obtain⟨q1,w1⟩:=res_int (hr 0 (by simp) (by simp)) (hr' 0 (by simp))
    obtain⟨q2,w2⟩:=res_str (hr 1 (by simp) (by simp)) (hr' 1 (by simp))
    obtain⟨q3,w3⟩:=res_int (hr 2 (by simp) (by simp)) (hr' 2 (by simp))
    have q4:=res_terms (hr 3 (by simp) (by simp)) (hr' 3 (by simp))
    exact⟨f 3,by rw[q1,q2,q3],q4,(wf_bounds w1).1,(wf_bounds w1).2,by simp only[maxLen]at w2;omega,(wf_bounds w3).1,(wf_bounds w3).2⟩
end
end Go.Proofs.YtfdkldmkbibknaaGreat.Den

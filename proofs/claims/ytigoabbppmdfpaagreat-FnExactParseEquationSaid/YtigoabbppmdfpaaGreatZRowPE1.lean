/- merged -/
import Derived.WalkKit
import Derived.Lib.Hide
import Derived.KernelRfl
import Derived.Test.YtigoabbppmdfpaaGreatRows
import Derived.ProofKit
import Derived.OpenShut
import Derived.ShutString
import Derived.ChangeOld
import Derived.Below
import Derived.Deep.Slices
import Derived.Deep.Strs
import Derived.Lib.SmallJoins
import Derived.RowKit3
import Derived.Deep.Draws
import Derived.Test.YtigoabbppmdfpaaGreatChecked
import Derived.WalkSpells
import Derived.WalkLawsBesides
import Derived.Deep.OwnRows
import Derived.Deep.QuietTactic
import Derived.BigQuiet
import Derived.Test.YtigoabbppmdfpaaGreatZRowPE0

namespace Go.Proofs.YtigoabbppmdfpaaGreat
open Go.RowKit
structure D where
 val:Y Value
 num:Nat
 cells:List D
def D.lit(u:Value):D:=⟨some u,0,[]⟩
def D.row(n:Nat)(cs:RV D):D:=⟨none,n,cs⟩
def cq:Value->Prop
 | .int k n=>(Lit.int k n).wf=true
 | .string s=>s.size<=maxLen
 |_=>True
def At(w:World)(S:Nat->Prop)(d:D)(v:Value):Prop:=
 match d with
 |⟨some u,_,_⟩=>v=u/\cq u
 | ⟨none, n,cs⟩=>∃A c,v= .slice A n c/\n<=c/\c<=9223372036854775807/\
   (0<cs.length->∃b off,A=some ⟨b,off,none⟩/\S b/\∀k,(h:k<cs.length)->∃u,w.cell? ⟨b,off+k,none⟩=some u/\At w S cs[k] u)
termination_by d
decreasing_by
 exact Ro
theorem bc{w:World}{S:Nat->Prop}{u v:Value}:At w S (.lit u) v↔(v=u/\cq u):=by unfold D.lit;rw[At]
theorem mg{w:World}{S:Nat->Prop}{n:Nat}{cs:RV D}{v:Value}:At w S (.row n cs) v↔(∃A c,v= .slice A n c/\n<=c/\c<=9223372036854775807/\
   (0<cs.length->∃b off,A=some ⟨b,off,none⟩/\S b/\∀k,(h:k<cs.length)->∃u,w.cell? ⟨b,off+k,none⟩=some u/\At w S cs[k] u)):=by
 unfold D.row;rw[At]
theorem D.cases(d:D):(∃u n cs,d=⟨some u,n,cs⟩)\/(∃n cs,d= .row n cs):=by
 rcases d with⟨_|u,n,cs⟩
 .exact .inr ⟨n,cs,rfl⟩
 .grind
theorem D.induct{p:D->Prop}(hl:∀u n cs,p ⟨some u,n,cs⟩)(hr:∀n cs,(∀k,(h:k<cs.length)->p cs[k])->p (.row n cs))(d:D):p d:=by
 match d with
 |⟨some u,n,cs⟩=>exact hl u n cs
 |⟨none,n,cs⟩=>exact hr n cs λk h=>D.induct hl hr cs[k]
termination_by d
decreasing_by
 exact Ro
theorem At.aB{w w':World}{S S':Nat->Prop}(hk:∀b o,S b->b<w.heap.size->w'.cell? ⟨b,o,none⟩=w.cell? ⟨b,o,none⟩)(hS:∀b,S b->b<w.heap.size->S' b){d:D}:
  ∀{v:Value},At w S d v->At w' S' d v:=by
 induction d using D.induct with
 | hl u n cs=>
  intro v h;rw[At]at h ⊢;exact h
 | hr n cs B=>
  intro v h;rw[mg]at h ⊢;obtain⟨A,c,h1,h2,C,h4⟩:=h;refine⟨A,c,h1,h2,C,λhp=> ?_⟩;obtain⟨b,off,e,hs,hc⟩:=h4 hp;have hlt:b<w.heap.size:=by
   obtain⟨u,t,_⟩:=hc 0 hp;exact World.block_lt_of_cell? w _ t
  refine⟨b,off,e,hS b hs hlt,λk j=> ?_⟩;obtain⟨u,t,y⟩:=hc k j;exact⟨u,by rw[hk b _ hs hlt];exact t,B k j y⟩
def Old(w:World):Nat->Prop:=λb=>b<w.heap.size
def cA(B:Nat):Nat->Prop:=λb=>B<=b
def Any:Nat->Prop:=λ_=>True
theorem At.below{w w':World}{S:Nat->Prop}{d:D}{v:Value}(h:At w S d v)(hb:Below w.heap.size w w'):At w' S d v:=
 h.aB (λb o _ hlt=>hb.cell (p:=⟨b,o,none⟩) hlt) (λ_ h _=>h)
theorem At.mono{w:World}{S S':Nat->Prop}{d:D}{v:Value}(h:At w S d v)(hS:∀b,S b->b<w.heap.size->S' b):At w S' d v:=
 h.aB (λ_ _ _ _=>rfl) hS
theorem At.any{w:World}{S:Nat->Prop}{d:D}{v:Value}(h:At w S d v):At w Any d v:=h.mono λ_ _ _=>trivial
theorem At.old{w:World}{S:Nat->Prop}{d:D}{v:Value}(h:At w S d v):At w (Old w) d v:=h.mono λ_ _ h=>h
theorem At.alloc{w:World}{S:Nat->Prop}{d:D}{v:Value}(h:At w S d v)(o:Obj):At (w.alloc o) S d v:=h.below ((Below.refl _ _).alloc (N4 _) _)
theorem At.drew{w:World}{S:Nat->Prop}{d:D}{v:Value}(h:At w S d v):At w.drew S d v:=h.below (Below.refl _ _).drew
theorem At.setCell{w:World}{S:Nat->Prop}{d:D}{v:Value}(h:At w S d v){p:Addr}(hp:¬S p.block)(u:Value):At (w.setCell p u) S d v:=
 h.aB (λb o hb _=>World.cell?_setCell_other w p ⟨b,o,none⟩ u (λe=>by subst e;exact hp hb)) (λ_ h _=>h)
theorem At.slice{w:World}{S:Nat->Prop}{n:Nat}{cs:RV D}{v:Value}(h:At w S (.row n cs) v):∃A c,v= .slice A n c/\n<=c/\c<=9223372036854775807:=by
 obtain⟨A,c,h1,h2,d,_⟩:=mg.1 h;exact⟨A,c,h1,h2,d⟩
theorem At.cellAt{w:World}{S:Nat->Prop}{n c:Nat}{cs:RV D}{A:Y Addr}(h:At w S (.row n cs) (.slice A n c))(hp:0<cs.length):
  ∃b off,A=some ⟨b,off,none⟩/\S b/\b<w.heap.size/\∀(k:Nat)(d:D),cs[k]? =some d->∃u,w.cell? ⟨b,off+k,none⟩=some u/\At w S d u:=by
 obtain⟨j,t,h1,_,_,h4⟩:=mg.1 h;obtain⟨rfl,_,rfl⟩:A=j/\n=n/\c=t:=by injection h1 with a b c;exact⟨a,b,c⟩
 obtain⟨b,off,e,hs,hc⟩:=h4 hp;refine⟨b,off,e,hs,?_,λk d hd=> ?_⟩
 .obtain⟨u,v,_⟩:=hc 0 hp;exact World.block_lt_of_cell? w _ v
 .grind
def Blk(w:World)(g:Nat)(t:TypeId)(cs:Array Value):Prop:=w.heap[g]? =some (.cells cs t (0,0))
theorem Blk.lt{w:World}{g:Nat}{t:TypeId}{cs:Array Value}(h:Blk w g t cs):g<w.heap.size:=by
 rcases ON g w.heap.size with hlt|hge
 .exact hlt
 .unfold Blk at h;rw[OP hge]at h;cases h
theorem Blk.cell{w:World}{g:Nat}{t:TypeId}{cs:Array Value}(h:Blk w g t cs)(i:Nat):w.cell? ⟨g,i,none⟩=cs[i]? :=cell_of_row w g i cs t (0,0) h
theorem Blk.frozen{w:World}{g:Nat}{t:TypeId}{cs:Array Value}(h:Blk w g t cs)(i:Nat):w.frozen? ⟨g,i,none⟩=false:=by
 unfold Blk at h;simp[World.frozen?,h]
theorem Blk.new(w:World)(t:TypeId)(cs:Array Value):Blk (w.alloc (.cells cs t)) w.heap.size t cs:=heap_alloc_new w _
theorem Blk.alloc{w:World}{g:Nat}{t:TypeId}{cs:Array Value}(h:Blk w g t cs)(o:Obj):Blk (w.alloc o) g t cs:=(Below.heap_alloc w o g h.lt).trans h
theorem Blk.jJ{w:World}{g:Nat}{t:TypeId}{cs:Array Value}(h:Blk w g t cs)(i:Nat)(u:Value):Blk (w.setCell ⟨g,i,none⟩ u) g t (cs.setIfInBounds i u):=by
 unfold Blk at h ⊢;simp[World.setCell,Pe,h]
theorem Blk.below{w w':World}{g:Nat}{t:TypeId}{cs:Array Value}{B:Nat}(h:Blk w g t cs)(hb:Below B w w')(d:g<B):Blk w' g t cs:=(hb.block g d).trans h
theorem Blk.c2{w:World}{g:Nat}{t:TypeId}{a b:Value}(h:Blk w g t #[a,b]):w.cell? ⟨g,0,none⟩=some a/\w.cell? ⟨g,1,none⟩=some b:=⟨h.cell 0,h.cell 1⟩
theorem Blk.c3{w:World}{g:Nat}{t:TypeId}{a b c:Value}(h:Blk w g t #[a,b,c]):w.cell? ⟨g,0,none⟩=some a/\w.cell? ⟨g,1,none⟩=some b/\w.cell? ⟨g,2,none⟩=some c:=⟨h.cell 0,h.cell 1,h.cell 2⟩
theorem Blk.c4{w:World}{g:Nat}{t:TypeId}{a b c d:Value}(h:Blk w g t #[a,b,c,d]):w.cell? ⟨g,0,none⟩=some a/\w.cell? ⟨g,1,none⟩=some b/\w.cell? ⟨g,2,none⟩=some c/\w.cell? ⟨g,3,none⟩=some d:=⟨h.cell 0,h.cell 1,h.cell 2,h.cell 3⟩
theorem Blk.next{w w':World}{g:Nat}{t:TypeId}{cs:Array Value}(h:Blk w g t cs)(hb:Below w.heap.size w w'):Blk w' g t cs:=h.below hb h.lt
theorem tI{W d:World}(hb:Below W.heap.size W d):(∀b o,b<W.heap.size->d.cell? ⟨b,o,none⟩=W.cell? ⟨b,o,none⟩)/\(∀b o,b<W.heap.size->d.frozen? ⟨b,o,none⟩=W.frozen? ⟨b,o,none⟩):=
 ⟨λb o h=>hb.cell (p:=⟨b,o,none⟩) h,λb o h=>hb.frozen (p:=⟨b,o,none⟩) h⟩
theorem eO{α β:Type}(f:α->RV β)(s:Nat)(hs:∀a,(f a).length=s)(l:RV α)(i j:Nat)(d:j<s):(l.flatMap f)[i*s+j]? =l[i]?.bind λa=>(f a)[j]? :=by
 induction l generalizing i with
 |nil=>simp
 | cons a l h=>
  rw[Oi];cases i with
  |zero=>simp[aL (show j<(f a).length by rw[hs];exact d)]
  | succ i=>
   have e:(i+1)*s+j=s+(i*s+j):=by rw[O9];omega
   rw[e,aR (by rw[hs];omega),hs,Nat.add_sub_cancel_left];simpa using h i
theorem eX{α β:Type}(f:α->RV β)(s:Nat)(hs:∀a,(f a).length=s)(l:RV α):(l.flatMap f).length=l.length*s:=by
 induction l with
 |nil=>simp
 |cons a l d=>rw[Oi,N8,hs,d,NU,O9];omega
def iu(xs:RV Int):D:=.row xs.length (xs.map λx=>.lit (.int .i64 x))
theorem cz{w:World}{S:Nat->Prop}{xs:RV Int}{v:Value}(h:At w S (iu xs) v):∃A c,v= .slice A xs.length c/\xs.length<=c/\c<=9223372036854775807:=h.slice
theorem wd{w:World}{S:Nat->Prop}{xs:RV Int}{A:Y Addr}{n c:Nat}(h:At w S (iu xs) (.slice A n c))(hp:0<xs.length):
  ∃b off,A=some ⟨b,off,none⟩/\S b/\b<w.heap.size/\∀(k:Nat),k<xs.length->w.cell? ⟨b,off+k,none⟩=some (.int .i64 (xs.getD k 0))/\(Lit.int .i64 (xs.getD k 0)).wf=true:=by
 have j:n=xs.length:=by obtain⟨_,_,e,_⟩:=cz h;injection e
 subst j;obtain⟨b,off,e,hs,hlt,hc⟩:=At.cellAt h QR;refine⟨b,off,e,hs,hlt,λk hk=> ?_⟩;obtain⟨u,t,v⟩:=hc k (.lit (.int .i64 (xs.getD k 0))) (by simp[List.getD,hk]);obtain⟨rfl,d⟩:=bc.1 v;exact⟨t,d⟩
theorem bR{n:Int}(h:(Lit.int .i64 n).wf=true): -9223372036854775808<=n/\n<=9223372036854775807:=by
 exact R9
theorem yk{w:World}{S:Nat->Prop}{xs:RV Int}{A:Y Addr}{n c k:Nat}(h:At w S (iu xs) (.slice A n c))(hk:k<xs.length):
  ∃b off x,A=some ⟨b,off,none⟩/\S b/\b<w.heap.size/\w.cell? ⟨b,off+k,none⟩=some (.int .i64 x)/\Hid (xs[k]? =some x)/\ -9223372036854775808<=x/\x<=9223372036854775807:=by
 obtain⟨b,off,e,hs,hlt,hc⟩:=wd h A1;obtain⟨h1,h2⟩:=hc k hk;refine⟨b,off,xs.getD k 0,e,hs,hlt,h1,?_,?_⟩
 .show xs[k]? =_;simp[List.getD,hk]
 .exact bR h2
theorem uQ{w:World}{S:Nat->Prop}{xs:RV Int}{A:Y Addr}{c:Nat}(j:xs.length<=c)(hc:c<=9223372036854775807)
  (h:0<xs.length->∃b off,A=some ⟨b,off,none⟩/\S b/\∀k,k<xs.length->w.cell? ⟨b,off+k,none⟩=some (.int .i64 (xs.getD k 0))/\(Lit.int .i64 (xs.getD k 0)).wf=true):
  At w S (iu xs) (.slice A xs.length c):=by
 refine mg.2 ⟨A,c,rfl,j,hc,λhp=> ?_⟩;obtain⟨b,off,e,hs,hk⟩:=h QR;refine⟨b,off,e,hs,λk hlt=> ?_⟩;have d:k<xs.length:=by simpa using hlt
 obtain⟨h1,h2⟩:=hk k d;refine⟨_,h1,?_⟩;simp only[NY];refine bc.2 ⟨?_,?_⟩
 .grind
 .have t:xs[k]=xs.getD k 0:=by simp[List.getD,d]
  rw[t];exact h2
theorem oK{P:Program}(t e:TypeId)(z:Value)(size bytes:Nat)(ht:P.underlying t=some (.slice e))(d:(P.info? e).map (λi=>(i.zero,i.size,i.bytes))=some (some z,size,bytes))
  (n:Nat) (j:bytes*n<=281474976710656) (y:n<=9223372036854775807) (w:World):
  (Instr.makeSlice t (.int .i64 (n:Int)) (.int .i64 (n:Int))).run P w= .ok (.slice (some ⟨w.heap.size,0,none⟩) n n) (w.alloc (.cells (madeCells z.cells (n*size)) e)):=by
 obtain⟨i,hi,h⟩:=Option.map_eq_some_iff.1 d;simp only[Prod.mk.injEq]at h;obtain⟨A,hs,hb⟩:=h;have v:(i.bytes:Int)*(n:Int)<=281474976710656:=Hd
 have hr:=run_make (P:=P) w t e i z ht hi A .i64 .i64 n n A1 A1 v A1;simp only[Or,hs]at hr;exact hr
structure Fm where
 kind:Int
 prop:Int
 kids:List Fm
def Fm.d(f:Fm):D:=
 match f with
 |⟨_,_,kids⟩=>.row kids.length (kids.attach.flatMap λ⟨x,_⟩=>[.lit (.int .i64 x.kind),.lit (.int .i64 x.prop),Fm.d x])
termination_by f
decreasing_by
 rename_i hx;have:=OH hx;simp only[Fm.mk.sizeOf_spec];omega
structure Tm where
 op:Int
 ae:Z
 ag:Int
 ac:List Tm
theorem Tm.induct{p:Tm->Prop}(h:∀o n s ac,(∀x∈ac,p x)->p ⟨o,n,s,ac⟩)(t:Tm):p t:=by
 match t with
 |⟨o,n,s,ac⟩=>exact h o n s ac λx hx=>Tm.induct h x
termination_by t
decreasing_by
 exact Rr
def Tm.d(t:Tm):D:=
 match t with
 |⟨_,_,_,ac⟩=>.row ac.length (ac.attach.flatMap λ⟨x,_⟩=>[.lit (.int .i64 x.op),.lit (.string x.ae),.lit (.int .i64 x.ag),Tm.d x])
termination_by t
decreasing_by
 rename_i hx;exact Rr
def Tm.cells(t:Tm):RV D:=[.lit (.int .i64 t.op),.lit (.string t.ae),.lit (.int .i64 t.ag),t.d]
def cw(ts:RV Tm):D:=.row ts.length (ts.flatMap Tm.cells)
theorem Tm.d_eq(t:Tm):t.d=cw t.ac:=by
 obtain⟨o,n,s,ac⟩:=t;rw[Tm.d];show D.row _ _=D.row _ _
 congr 1
 have:(λ(x:{x // x∈ac})=>match x with|⟨x,_⟩=>[D.lit (.int .i64 x.op),.lit (.string x.ae),.lit (.int .i64 x.ag),Tm.d x])=λx:{x // x∈ac}=>Tm.cells x.1:=by
  funext x;rfl
 rw[this]
 conv=>rhs;rw[<-List.attach_map_subtype_val ac,List.flatMap_map]
theorem Tm.gP(t:Tm):t.cells.length=4:=rfl
theorem aI{w:World}{S:Nat->Prop}{ts:RV Tm}{v:Value}(h:At w S (cw ts) v):∃A c,v= .slice A ts.length c/\ts.length<=c/\c<=9223372036854775807:=h.slice
def Tm.fits(t:Tm):Prop:= -9223372036854775808<=t.op/\t.op<=9223372036854775807/\t.ae.size<=9223372036854775807/\ -9223372036854775808<=t.ag/\t.ag<=9223372036854775807
theorem jm{w:World}{S:Nat->Prop}{ts:RV Tm}{A:Y Addr}{n c k:Nat}(h:At w S (cw ts) (.slice A n c))(hk:k<ts.length):
  ∃ b off t v,A=some ⟨b,off,none⟩/\S b/\b<w.heap.size/\w.cell? ⟨b,off+k*4,none⟩=some (.int .i64 t.op)/\w.cell? ⟨b,off+k*4+1,none⟩=some (.string t.ae)/\
   w.cell? ⟨b,off+k*4+2,none⟩=some (.int .i64 t.ag)/\w.cell? ⟨b,off+k*4+3,none⟩=some v/\At w S (cw t.ac) v/\Hid (ts[k]? =some t)/\t.fits:=by
 have L:n=ts.length:=by obtain⟨_,_,e,_⟩:=aI h;injection e
 subst L;obtain⟨b,off,e,hs,hlt,hc⟩:=At.cellAt h (by rw[eX _ 4 Tm.gP];omega);have J:ts[k]? =some ts[k]:=gE hk;have d:∀j,j<4->(ts.flatMap Tm.cells)[k*4+j]? =(Tm.cells ts[k])[j]? :=λj M=>by
  rw[eO _ 4 Tm.gP _ _ _ M,J];rfl
 obtain⟨u0,B,C⟩:=hc (k*4+0) _ (d 0 A1);obtain⟨u1,D,E⟩:=hc (k*4+1) _ (d 1 A1);obtain⟨u2,F,G⟩:=hc (k*4+2) _ (d 2 A1);obtain⟨u3,H,y⟩:=hc (k*4+3) _ (d 3 A1);obtain⟨rfl,w0⟩:=bc.1 C;obtain⟨rfl,N⟩:=bc.1 E;obtain⟨rfl,K⟩:=bc.1 G;rw[Tm.d_eq]at y;have I:ts[k].ae.size<=9223372036854775807:=by simp only[cq,maxLen]at N;omega
 exact⟨b,off,ts[k],u3,e,hs,hlt,B,D,F,H,y,J,(bR w0).1,(bR w0).2,I,(bR K).1,(bR K).2⟩
theorem n5{w:World}{S:Nat->Prop}{ts:RV Tm}{A:Y Addr}{c:Nat}(C:ts.length<=c)(hc:c<=9223372036854775807)
  (h:0<ts.length->∃b off,A=some ⟨b,off,none⟩/\S b/\∀k t,ts[k]? =some t->∃v,w.cell? ⟨b,off+k*4,none⟩=some (.int .i64 t.op)/\w.cell? ⟨b,off+k*4+1,none⟩=some (.string t.ae)/\
   w.cell? ⟨b,off+k*4+2,none⟩=some (.int .i64 t.ag)/\w.cell? ⟨b,off+k*4+3,none⟩=some v/\At w S (cw t.ac) v/\t.fits):
  At w S (cw ts) (.slice A ts.length c):=by
 refine mg.2 ⟨A,c,rfl,C,hc,λhp=> ?_⟩;rw[eX _ 4 Tm.gP]at hp;obtain⟨b,off,e,hs,hk⟩:=h A1;refine⟨b,off,e,hs,λj y=> ?_⟩;have D:j<ts.length*4:=by rw[eX _ 4 Tm.gP]at y;exact y
 have B:j / 4<ts.length:=A1
 obtain⟨v,E,c1,c2,c3,F,w0,G,J,H,I⟩:=hk (j / 4) ts[j / 4] (gE B);have d:(ts.flatMap Tm.cells)[j]? =(Tm.cells ts[j / 4])[j%4]? :=by
  have:=eO Tm.cells 4 Tm.gP ts (j / 4) (j%4) A1;rw[(A1:j / 4*4+j%4=j),gE B]at this;exact this
 rw[gE y]at d;have h4:j%4=0\/j%4=1\/j%4=2\/j%4=3:=A1
 rcases h4 with h4|h4|h4|h4
 .rw[h4]at d;simp only[Tm.cells,Pt,NQ]at d;rw[d];exact⟨_,by rw[(A1:off+j=off+j / 4*4)];exact E,bc.2 ⟨rfl,WalkArith.wf_i64 ⟨w0,G⟩⟩⟩
 .rw[h4]at d;simp only[Tm.cells,Pt,P5,NQ]at d;rw[d];exact⟨_,by rw[(A1:off+j=off+j / 4*4+1)];exact c1,bc.2 ⟨rfl,by simp only[cq,maxLen];omega⟩⟩
 .rw[h4]at d;simp only[Tm.cells,Pt,P5,NQ]at d;rw[d];exact⟨_,by rw[(A1:off+j=off+j / 4*4+2)];exact c2,bc.2 ⟨rfl,WalkArith.wf_i64 ⟨H,I⟩⟩⟩
 .rw[h4]at d;simp only[Tm.cells,Pt,P5,NQ]at d;rw[d,Tm.d_eq];exact⟨_,by rw[(A1:off+j=off+j / 4*4+3)];exact c3,F⟩
def Tm.az(t:Tm):Nat:=
 match t with
 |⟨_,n,_,ac⟩=>n.size+(ac.length+(ac.attach.map λ⟨x,_⟩=>Tm.az x).sum)
termination_by t
decreasing_by
 rename_i hx;exact Rr
def ap(ts:RV Tm):Nat:=ts.length+(ts.map Tm.az).sum
theorem Tm.eV(t:Tm):t.az=t.ae.size+ap t.ac:=by
 obtain⟨o,n,s,ac⟩:=t;rw[Tm.az];show _=n.size+(ac.length+(ac.map Tm.az).sum)
 congr 2
 have:(λ(x:{x // x∈ac})=>match x with|⟨x,_⟩=>Tm.az x)=λx:{x // x∈ac}=>Tm.az x.1:=by
  funext x;rfl
 rw[this]
 conv=>rhs;rw[<-List.attach_map_subtype_val ac,List.map_map]
 rfl
def iC{α:Type}(f:α->Nat)(l:RV α)(k:Nat):Nat:=((l.take k).map f).sum
theorem ir{α:Type}{f:α->Nat}{l:RV α}{k:Nat}{x:α}(h:l[k]? =some x):iC f l (k+1)=iC f l k+f x:=by
 obtain⟨h1,rfl⟩:=gI.1 h;unfold iC;rw[O7 h1];simp only[OY,Ot,List.map_nil,List.sum_append,Pg,List.sum_nil,OD]
theorem mU{α:Type}(f:α->Nat)(l:RV α)(k:Nat):iC f l k<=(l.map f).sum:=by
 unfold iC
 conv=>rhs;rw[<-Om k l]
 rw[OY,List.sum_append];omega
theorem ik{α:Type}(f:α->Nat)(l:RV α):iC f l 0=0:=by simp[iC]
theorem iU{α:Type}{f:α->Nat}{l:RV α}{x:α}(h:x∈l):f x<=(l.map f).sum:=by
 induction l with
 |nil=>cases h
 | cons a l d=>
  rw[Ot,Pg];rcases List.mem_cons.1 h with rfl|h
  .omega
  .grind
def rows(xss:RV (RV Int)):D:=.row xss.length (xss.map iu)
end Go.Proofs.YtigoabbppmdfpaaGreat
namespace Go.Proofs.YtigoabbppmdfpaaGreat.Den
open Go.RowKit
structure Lasso where
 states:List Int
 back:Int
structure Gr where
 states:List Tm
 edges:List (List Int)
 whole:Bool
structure Nd where
 state:Int
 set:Int
structure Sb where
 low:Int
 bK:Int
structure So where
 ah:List Z
 ak:List Sb
structure Dc where
 ac:List Int
 result:Int
structure Opr where
 ae:Z
 aC:List Dc
 aA:Bool
 comm:Bool
 aE:Int
structure Sg where
 ai:So
 ops:List Opr
structure Bd where
 var:Tm
 to:Tm
structure Od where
 bh:List Int
 below:List Int
 kind:List Int
structure Cur where
 b:List Int
 i:Int
 h:Int
structure Cnd where
 left:Tm
 right:Tm
structure Eqn where
 left:Tm
 right:Tm
 aM:List Cnd
structure Md where
 sig:Sg
 eqs:List Eqn
 rules:List Eqn
structure Sgy where
 kind:Int
 index:Int
 test:Tm
 kids:List Sgy
inductive Ty where
 |i|b|s|u
 |sl (t:Ty)
 |n (k:Nat)
 deriving DecidableEq
def NI:Nat->Type
 |0=>Lasso
 |1=>Tm
 |2=>Fm
 |3=>Gr
 |4=>Nd
 |5=>Sb
 |6=>So
 |7=>Dc
 |8=>Opr
 |9=>Sg
 |10=>Bd
 |11=>Od
 |12=>Cur
 |13=>Cnd
 |14=>Eqn
 |15=>Md
 |16=>Sgy
 |_=>Unit
def I:Ty->Type
 | .i=>Int
 | .b=>Bool
 | .s=>Z
 | .u=>Int
 | .sl t=>RV (I t)
 | .n k=>NI k
inductive C where
 |i (x:Int)
 |k (kd:IntKind) (x:Int)
 |b (x:Bool)
 |s (x:Z)
 |l (T:Ty) (xs:List (I T))
 |lc (T:Ty) (xs:List (I T))
 |nil (T:Ty)
 |o (id:Nat)
 |p (id off:Nat)
 |e (id k n:Nat) (T:Ty) (x:I T) (off:Nat)
 |r (id k:Nat)
 |q (T:Ty) (x:I T) (off:Nat)
 |f (fn:Nat) (caps:List C)
 |m (id:Nat)
 |z
 |zs
def aG:(T:Ty)->I T->RV C
 | .i,x=>[.i x]
 | .b,x=>[.b x]
 | .s,x=>[.s x]
 | .u,x=>[.k .u8 x]
 | .sl t,xs=>[.l t xs]
 | .n 0,x=>[.l .i (Lasso.states x),.i (Lasso.back x)]
 | .n 1,x=>[.i (Tm.op x),.s (Tm.ae x),.i (Tm.ag x),.l (.n 1) (Tm.ac x)]
 | .n 2,x=>[.i (Fm.kind x),.i (Fm.prop x),.l (.n 2) (Fm.kids x)]
 | .n 3,x=>[.l (.n 1) (Gr.states x),.l (.sl .i) (Gr.edges x),.b (Gr.whole x)]
 | .n 4,x=>[.i (Nd.state x),.i (Nd.set x)]
 | .n 5,x=>[.i (Sb.low x),.i (Sb.bK x)]
 | .n 6,x=>[.l .s (So.ah x),.l (.n 5) (So.ak x)]
 | .n 7,x=>[.l .i (Dc.ac x),.i (Dc.result x)]
 | .n 8,x=>[.s (Opr.ae x),.l (.n 7) (Opr.aC x),.b (Opr.aA x),.b (Opr.comm x),.i (Opr.aE x)]
 | .n 9,x=>[.l .s (So.ah (Sg.ai x)),.l (.n 5) (So.ak (Sg.ai x)),.l (.n 8) (Sg.ops x)]
 | .n 10,x=>[.i (Tm.op (Bd.var x)),.s (Tm.ae (Bd.var x)),.i (Tm.ag (Bd.var x)),.l (.n 1) (Tm.ac (Bd.var x)),.i (Tm.op (Bd.to x)),.s (Tm.ae (Bd.to x)),.i (Tm.ag (Bd.to x)),.l (.n 1) (Tm.ac (Bd.to x))]
 | .n 11,x=>[.l .i (Od.bh x),.l .i (Od.below x),.l .i (Od.kind x)]
 | .n 12,x=>[.l .u (Cur.b x),.i (Cur.i x),.i (Cur.h x)]
 | .n 13,x=>[.i (Tm.op (Cnd.left x)),.s (Tm.ae (Cnd.left x)),.i (Tm.ag (Cnd.left x)),.l (.n 1) (Tm.ac (Cnd.left x)),.i (Tm.op (Cnd.right x)),.s (Tm.ae (Cnd.right x)),.i (Tm.ag (Cnd.right x)),.l (.n 1) (Tm.ac (Cnd.right x))]
 | .n 14,x=>[.i (Tm.op (Eqn.left x)),.s (Tm.ae (Eqn.left x)),.i (Tm.ag (Eqn.left x)),.l (.n 1) (Tm.ac (Eqn.left x)),.i (Tm.op (Eqn.right x)),.s (Tm.ae (Eqn.right x)),.i (Tm.ag (Eqn.right x)),.l (.n 1) (Tm.ac (Eqn.right x)),.l (.n 13) (Eqn.aM x)]
 | .n 15,x=>[.l .s (So.ah (Sg.ai (Md.sig x))),.l (.n 5) (So.ak (Sg.ai (Md.sig x))),.l (.n 8) (Sg.ops (Md.sig x)),.l (.n 14) (Md.eqs x),.l (.n 14) (Md.rules x)]
 | .n 16,x=>[.i (Sgy.kind x),.i (Sgy.index x),.i (Tm.op (Sgy.test x)),.s (Tm.ae (Sgy.test x)),.i (Tm.ag (Sgy.test x)),.l (.n 1) (Tm.ac (Sgy.test x)),.l (.n 16) (Sgy.kids x)]
 | .n (_+17),_=>[]
def ML(cs:RV C):Y Lasso:=match cs with
 |[.l .i a0,.i d]=>some (Lasso.mk a0 d)
 |_=>none
def My(cs:RV C):Y Tm:=match cs with
 |[.i a0,.s d,.i h,.l (.n 1) a3]=>some (Tm.mk a0 d h a3)
 |_=>none
def Nj(cs:RV C):Y Fm:=match cs with
 |[.i a0,.i d,.l (.n 2) h]=>some (Fm.mk a0 d h)
 |_=>none
def Ng(cs:RV C):Y Gr:=match cs with
 |[.l (.n 1) a0,.l (.sl .i) d,.b h]=>some (Gr.mk a0 d h)
 |_=>none
def LZ(cs:RV C):Y Nd:=match cs with
 |[.i a0,.i d]=>some (Nd.mk a0 d)
 |_=>none
def Mb(cs:RV C):Y Sb:=match cs with
 |[.i a0,.i d]=>some (Sb.mk a0 d)
 |_=>none
def Lw(cs:RV C):Y So:=match cs with
 |[.l .s a0,.l (.n 5) d]=>some (So.mk a0 d)
 |_=>none
def MN(cs:RV C):Y Dc:=match cs with
 |[.l .i a0,.i d]=>some (Dc.mk a0 d)
 |_=>none
def Nf(cs:RV C):Y Opr:=match cs with
 |[.s a0,.l (.n 7) d,.b h,.b a3,.i a4]=>some (Opr.mk a0 d h a3 a4)
 |_=>none
def LE(cs:RV C):Y Sg:=match cs with
 |[.l .s a0,.l (.n 5) d,.l (.n 8) h]=>some (Sg.mk (So.mk a0 d) h)
 |_=>none
def G3(cs:RV C):Y Bd:=match cs with
 |[.i a0,.s d,.i h,.l (.n 1) a3,.i a4,.s a5,.i j,.l (.n 1) t]=>some (Bd.mk (Tm.mk a0 d h a3) (Tm.mk a4 a5 j t))
 |_=>none
def ER(cs:RV C):Y Od:=match cs with
 |[.l .i a0,.l .i d,.l .i h]=>some (Od.mk a0 d h)
 |_=>none
def Fb(cs:RV C):Y Cur:=match cs with
 |[.l .u a0,.i d,.i h]=>some (Cur.mk a0 d h)
 |_=>none
def EO(cs:RV C):Y Cnd:=match cs with
 |[.i a0,.s d,.i h,.l (.n 1) a3,.i a4,.s a5,.i j,.l (.n 1) t]=>some (Cnd.mk (Tm.mk a0 d h a3) (Tm.mk a4 a5 j t))
 |_=>none
def Ha(cs:RV C):Y Eqn:=match cs with
 |[.i a0,.s d,.i h,.l (.n 1) a3,.i a4,.s a5,.i j,.l (.n 1) t,.l (.n 13) v]=>some (Eqn.mk (Tm.mk a0 d h a3) (Tm.mk a4 a5 j t) v)
 |_=>none
def Gq(cs:RV C):Y Md:=match cs with
 |[.l .s a0,.l (.n 5) d,.l (.n 8) h,.l (.n 14) a3,.l (.n 14) a4]=>some (Md.mk (Sg.mk (So.mk a0 d) h) a3 a4)
 |_=>none
def Ge(cs:RV C):Y Sgy:=match cs with
 |[.i a0,.i d,.i h,.s a3,.i a4,.l (.n 1) a5,.l (.n 16) j]=>some (Sgy.mk a0 d (Tm.mk h a3 a4 a5) j)
 |_=>none
def Nb(cs:RV C):Y Int:=match cs with
 |[.i x]=>some x
 |_=>none
def Ni(cs:RV C):Y Bool:=match cs with
 |[.b x]=>some x
 |_=>none
def Lk(cs:RV C):Y Z:=match cs with
 |[.s x]=>some x
 |_=>none
def MQ(cs:RV C):Y Int:=match cs with
 |[.k .u8 x]=>some x
 |_=>none
def LU(t:Ty)(cs:RV C):Y (RV (I t)):=match cs with
 |[.l d xs]=>if h:d=t then some (h▸xs)else none
 |_=>none
def iB:(T:Ty)->RV C->Y (I T)
 | .i,cs=>Nb cs
 | .b,cs=>Ni cs
 | .s,cs=>Lk cs
 | .u,cs=>MQ cs
 | .sl t,cs=>LU t cs
 | .n 0,cs=>ML cs
 | .n 1,cs=>My cs
 | .n 2,cs=>Nj cs
 | .n 3,cs=>Ng cs
 | .n 4,cs=>LZ cs
 | .n 5,cs=>Mb cs
 | .n 6,cs=>Lw cs
 | .n 7,cs=>MN cs
 | .n 8,cs=>Nf cs
 | .n 9,cs=>LE cs
 | .n 10,cs=>G3 cs
 | .n 11,cs=>ER cs
 | .n 12,cs=>Fb cs
 | .n 13,cs=>EO cs
 | .n 14,cs=>Ha cs
 | .n 15,cs=>Gq cs
 | .n 16,cs=>Ge cs
 | .n (_+17),_=>none
def szT:Ty->Nat
 | .i| .b| .s| .u| .sl _=>1
 | .n 0=>2
 | .n 1=>4
 | .n 2=>3
 | .n 3=>3
 | .n 4=>2
 | .n 5=>2
 | .n 6=>2
 | .n 7=>2
 | .n 8=>5
 | .n 9=>3
 | .n 10=>8
 | .n 11=>3
 | .n 12=>3
 | .n 13=>8
 | .n 14=>9
 | .n 15=>5
 | .n 16=>7
 | .n (_+17)=>0
def jq:(T:Ty)->Y (I T)
 | .i=>some (0:Int)
 | .b=>some false
 | .s=>some ByteArray.empty
 | .u=>some (0:Int)
 | .sl _=>some []
 | .n 0=>some (Lasso.mk [] 0)
 | .n 1=>some (Tm.mk 0 ByteArray.empty 0 [])
 | .n 2=>some (Fm.mk 0 0 [])
 | .n 3=>some (Gr.mk [] [] false)
 | .n 4=>some (Nd.mk 0 0)
 | .n 5=>some (Sb.mk 0 0)
 | .n 6=>some (So.mk [] [])
 | .n 7=>some (Dc.mk [] 0)
 | .n 8=>some (Opr.mk ByteArray.empty [] false false 0)
 | .n 9=>some (Sg.mk (So.mk [] []) [])
 | .n 10=>some (Bd.mk (Tm.mk 0 ByteArray.empty 0 []) (Tm.mk 0 ByteArray.empty 0 []))
 | .n 11=>some (Od.mk [] [] [])
 | .n 12=>some (Cur.mk [] 0 0)
 | .n 13=>some (Cnd.mk (Tm.mk 0 ByteArray.empty 0 []) (Tm.mk 0 ByteArray.empty 0 []))
 | .n 14=>some (Eqn.mk (Tm.mk 0 ByteArray.empty 0 []) (Tm.mk 0 ByteArray.empty 0 []) [])
 | .n 15=>some (Md.mk (Sg.mk (So.mk [] []) []) [] [])
 | .n 16=>some (Sgy.mk 0 0 (Tm.mk 0 ByteArray.empty 0 []) [])
 | .n (_+17)=>none
theorem db(T:Ty)(d:0<szT T)(x:I T):(aG T x).length=szT T:=by
 cases T with
 | n k=>
  match k with
  |0|1|2|3|4|5|6|7|8|9|10|11|12|13|14|15|16=>rfl
  |k+17=>simp[szT]at d
 |_=>rfl
theorem gl:∀{T:Ty}{cs:RV C}{x:I T}(_:iB T cs=some x),aG T x=cs
 | .i,cs,x,h=>by
  have h:Nb cs=some x:=h;unfold Nb at h;split at h
  .exact RU
  .cases h
 | .b,cs,x,h=>by
  have h:Ni cs=some x:=h;unfold Ni at h;split at h
  .exact RU
  .cases h
 | .s,cs,x,h=>by
  have h:Lk cs=some x:=h;unfold Lk at h;split at h
  .exact RU
  .cases h
 | .u,cs,x,h=>by
  have h:MQ cs=some x:=h;unfold MQ at h;split at h
  .exact RU
  .cases h
 | .sl t,cs,x,h=>by
  have h:LU t cs=some x:=h;unfold LU at h;split at h
  .split at h
   .rename_i e;subst e;exact RU
   .cases h
  .cases h
 | .n 0,cs,x,h=>by
  have h:ML cs=some x:=h;unfold ML at h;split at h
  .exact RU
  .cases h
 | .n 1,cs,x,h=>by
  have h:My cs=some x:=h;unfold My at h;split at h
  .exact RU
  .cases h
 | .n 2,cs,x,h=>by
  have h:Nj cs=some x:=h;unfold Nj at h;split at h
  .exact RU
  .cases h
 | .n 3,cs,x,h=>by
  have h:Ng cs=some x:=h;unfold Ng at h;split at h
  .exact RU
  .cases h
 | .n 4,cs,x,h=>by
  have h:LZ cs=some x:=h;unfold LZ at h;split at h
  .exact RU
  .cases h
 | .n 5,cs,x,h=>by
  have h:Mb cs=some x:=h;unfold Mb at h;split at h
  .exact RU
  .cases h
 | .n 6,cs,x,h=>by
  have h:Lw cs=some x:=h;unfold Lw at h;split at h
  .exact RU
  .cases h
 | .n 7,cs,x,h=>by
  have h:MN cs=some x:=h;unfold MN at h;split at h
  .exact RU
  .cases h
 | .n 8,cs,x,h=>by
  have h:Nf cs=some x:=h;unfold Nf at h;split at h
  .exact RU
  .cases h
 | .n 9,cs,x,h=>by
  have h:LE cs=some x:=h;unfold LE at h;split at h
  .exact RU
  .cases h
 | .n 10,cs,x,h=>by
  have h:G3 cs=some x:=h;unfold G3 at h;split at h
  .exact RU
  .cases h
 | .n 11,cs,x,h=>by
  have h:ER cs=some x:=h;unfold ER at h;split at h
  .exact RU
  .cases h
 | .n 12,cs,x,h=>by
  have h:Fb cs=some x:=h;unfold Fb at h;split at h
  .exact RU
  .cases h
 | .n 13,cs,x,h=>by
  have h:EO cs=some x:=h;unfold EO at h;split at h
  .exact RU
  .cases h
 | .n 14,cs,x,h=>by
  have h:Ha cs=some x:=h;unfold Ha at h;split at h
  .exact RU
  .cases h
 | .n 15,cs,x,h=>by
  have h:Gq cs=some x:=h;unfold Gq at h;split at h
  .exact RU
  .cases h
 | .n 16,cs,x,h=>by
  have h:Ge cs=some x:=h;unfold Ge at h;split at h
  .exact RU
  .cases h
 | .n (_+17),_,_,h=>Hm
def Nn:Nat->RV Ty
 |0=>[.sl .i,.i]
 |1=>[.i,.s,.i,.sl (.n 1)]
 |2=>[.i,.i,.sl (.n 2)]
 |3=>[.sl (.n 1),.sl (.sl .i),.b]
 |4=>[.i,.i]
 |5=>[.i,.i]
 |6=>[.sl .s,.sl (.n 5)]
 |7=>[.sl .i,.i]
 |8=>[.s,.sl (.n 7),.b,.b,.i]
 |9=>[.n 6,.sl (.n 8)]
 |10=>[.n 1,.n 1]
 |11=>[.sl .i,.sl .i,.sl .i]
 |12=>[.sl .u,.i,.i]
 |13=>[.n 1,.n 1]
 |14=>[.n 1,.n 1,.sl (.n 13)]
 |15=>[.n 9,.sl (.n 14),.sl (.n 14)]
 |16=>[.i,.i,.n 1,.sl (.n 16)]
 |_=>[]
inductive Flds:List Ty->List C->Prop
 |nil:Flds [] []
 |cons {t:Ty} {Ts:List Ty} {cs:List C} (x:I t) (h:Flds Ts cs):Flds (t::Ts) (aG t x++cs)
theorem Flds.inv{t:Ty}{d:RV Ty}{cs:RV C}(h:Flds (t::d) cs):∃x j,cs=aG t x++j/\Flds d j:=by cases h with|cons x h=>exact⟨x,_,rfl,h⟩
theorem Flds.kC{cs:RV C}(h:Flds [] cs):cs=[]:=QF
theorem Jk:∀(k:Nat)(cs:RV C),0<szT (.n k)->Flds (Nn k) cs->∃x:I (.n k),aG (.n k) x=cs
 | 0,cs,_,h=>by
  obtain⟨a0,y,d,h⟩:=h.inv;obtain⟨j,A,t,h⟩:=h.inv;have e:=h.kC;exact⟨Lasso.mk a0 j,Qd⟩
 | 1,cs,_,h=>by
  obtain⟨a0,y,d,h⟩:=h.inv;obtain⟨j,A,t,h⟩:=h.inv;obtain⟨v,d2,w,h⟩:=h.inv;obtain⟨a3,D,B,h⟩:=h.inv;have e:=h.kC;exact⟨Tm.mk a0 j v a3,by rw[d,t,w,B,e];rfl⟩
 | 2,cs,_,h=>by
  obtain⟨a0,y,d,h⟩:=h.inv;obtain⟨j,A,t,h⟩:=h.inv;obtain⟨v,d2,w,h⟩:=h.inv;have e:=h.kC;exact⟨Fm.mk a0 j v,Qk⟩
 | 3,cs,_,h=>by
  obtain⟨a0,y,d,h⟩:=h.inv;obtain⟨j,A,t,h⟩:=h.inv;obtain⟨v,d2,w,h⟩:=h.inv;have e:=h.kC;exact⟨Gr.mk a0 j v,Qk⟩
 | 4,cs,_,h=>by
  obtain⟨a0,y,d,h⟩:=h.inv;obtain⟨j,A,t,h⟩:=h.inv;have e:=h.kC;exact⟨Nd.mk a0 j,Qd⟩
 | 5,cs,_,h=>by
  obtain⟨a0,y,d,h⟩:=h.inv;obtain⟨j,A,t,h⟩:=h.inv;have e:=h.kC;exact⟨Sb.mk a0 j,Qd⟩
 | 6,cs,_,h=>by
  obtain⟨a0,y,d,h⟩:=h.inv;obtain⟨j,A,t,h⟩:=h.inv;have e:=h.kC;exact⟨So.mk a0 j,Qd⟩
 | 7,cs,_,h=>by
  obtain⟨a0,y,d,h⟩:=h.inv;obtain⟨j,A,t,h⟩:=h.inv;have e:=h.kC;exact⟨Dc.mk a0 j,Qd⟩
 | 8,cs,_,h=>by
  obtain⟨a0,y,d,h⟩:=h.inv;obtain⟨j,A,t,h⟩:=h.inv;obtain⟨v,d2,w,h⟩:=h.inv;obtain⟨a3,D,B,h⟩:=h.inv;obtain⟨a4,d4,E,h⟩:=h.inv;have e:=h.kC;exact⟨Opr.mk a0 j v a3 a4,by rw[d,t,w,B,E,e];rfl⟩
 | 9,cs,_,h=>by
  obtain⟨a0,y,d,h⟩:=h.inv;obtain⟨j,A,t,h⟩:=h.inv;have e:=h.kC;exact⟨Sg.mk a0 j,Qd⟩
 | 10,cs,_,h=>by
  obtain⟨a0,y,d,h⟩:=h.inv;obtain⟨j,A,t,h⟩:=h.inv;have e:=h.kC;exact⟨Bd.mk a0 j,Qd⟩
 | 11,cs,_,h=>by
  obtain⟨a0,y,d,h⟩:=h.inv;obtain⟨j,A,t,h⟩:=h.inv;obtain⟨v,d2,w,h⟩:=h.inv;have e:=h.kC;exact⟨Od.mk a0 j v,Qk⟩
 | 12,cs,_,h=>by
  obtain⟨a0,y,d,h⟩:=h.inv;obtain⟨j,A,t,h⟩:=h.inv;obtain⟨v,d2,w,h⟩:=h.inv;have e:=h.kC;exact⟨Cur.mk a0 j v,Qk⟩
 | 13,cs,_,h=>by
  obtain⟨a0,y,d,h⟩:=h.inv;obtain⟨j,A,t,h⟩:=h.inv;have e:=h.kC;exact⟨Cnd.mk a0 j,Qd⟩
 | 14,cs,_,h=>by
  obtain⟨a0,y,d,h⟩:=h.inv;obtain⟨j,A,t,h⟩:=h.inv;obtain⟨v,d2,w,h⟩:=h.inv;have e:=h.kC;exact⟨Eqn.mk a0 j v,Qk⟩
 | 15,cs,_,h=>by
  obtain⟨a0,y,d,h⟩:=h.inv;obtain⟨j,A,t,h⟩:=h.inv;obtain⟨v,d2,w,h⟩:=h.inv;have e:=h.kC;exact⟨Md.mk a0 j v,Qk⟩
 | 16,cs,_,h=>by
  obtain⟨a0,y,d,h⟩:=h.inv;obtain⟨j,A,t,h⟩:=h.inv;obtain⟨v,d2,w,h⟩:=h.inv;obtain⟨a3,D,B,h⟩:=h.inv;have e:=h.kC;exact⟨Sgy.mk a0 j v a3,by rw[d,t,w,B,e];rfl⟩
 |_+17,cs,h,_=>by simp[szT]at h
end Go.Proofs.YtigoabbppmdfpaaGreat.Den
namespace Go.Proofs.YtigoabbppmdfpaaGreat
section
open Go.ChangeShapes Go.WideShapes Go.ChangeAt Go.RowKit Go.Deep Go.Joins
theorem Tryz.own:ownKnob Tryz.prog.godebug=none:=F1
theorem Tryz.laidOut:laidOutB Tryz.prog=true:=F1
theorem DW{w:World}{a:Addr}{v:Value}(h:w.cell? a=some v):a=⟨a.block,a.off,none⟩:=by
 obtain⟨b,o,s⟩:=a;have:s=none:=World.cell?_spot h;subst this;rfl
theorem HF(b o k:Nat):(⟨b,o,none⟩:Addr).add k=⟨b,o+k,none⟩:=by
 unfold Addr.add;split
 .subst_vars;rfl
 .rfl
theorem zO{H:Type}{enc:TypeId×Value->H}{P:Program}{w:World}{base:Nat}{spare:Nat->Bool}{held:Bool}{ei:Nat}{v:Value}{x:DataW H×RV MemPlace}{t e:TypeId}{size:Nat}
  (ht:P.underlying t=some (.slice e)) (C:P.cellsOf e=size) (hpos:0<size) (h:DataW.trod enc P w base spare held ei t [v]=some x):
  ∃ A len cap,v= .slice A len cap/\len<=cap/\cap<=9223372036854775807/\
   (0<len->∃b off n,ei=n+1/\A=some ⟨b,off,none⟩/\∀i,i<len->∃cs y,cs.length=size/\(∀j,j<size->w.cell? ⟨b,off+(i*size+j),none⟩=cs[j]?)/\DataW.trod enc P w base spare held n e cs=some y):=by
 rcases DataW.trod_slice ht h with⟨d,_⟩|⟨a,len,cap,gV,rest,n,rfl,d,_,hb,hl,hm,bJ,D,_,_⟩
 .simp at d;subst d;exact⟨none,0,0,rfl,N4 _,A1,λh=>absurd h A1⟩
 .simp at d;subst d;unfold maxLen at hm;refine⟨some a,len,cap,rfl,hl,A1,λhp=> ?_⟩;have key:∀i,i<len->∃cs y,cs.length=size/\(∀j,j<size->w.cell? (a.add (i*size+j))=cs[j]?)/\DataW.trod enc P w base spare held n e cs=some y:=by
   intro i hi;have h1:=D i hi;rw[gE A1,C]at h1;obtain⟨cs,h2,I⟩:=Option.bind_eq_some_iff.1 h1;obtain⟨_,B,hc⟩:=World.cells?_some h2;exact⟨cs,_,B,λj E=>by rw[<-hc j E,Go.Deep.add_add],I⟩
  have G:a=⟨a.block,a.off,none⟩:=by
   obtain⟨cs,y,B,hc,_⟩:=key 0 hp;have h0:=hc 0 hpos;rw[gE A1]at h0;have J:a.add (0*size+0)=a:=by simp[Addr.add]
   rw[J]at h0;exact DW h0
  refine⟨a.block,a.off,n,rfl,by rw[<-G],λi hi=> ?_⟩;obtain⟨cs,y,B,hc,F⟩:=key i hi;exact⟨cs,y,B,λj E=>by rw[<-hc j E,G,HF],F⟩
end
section
open Go.RowKit
def kin(u v:Value):Prop:=v=u\/(∃x y,u= .int .i64 x/\v= .int .i64 y/\cq v)\/(∃s t,u= .string s/\v= .string t/\cq v)\/∃x y,u= .bool x/\v= .bool y
theorem kin.refl(u:Value):kin u u:=.inl rfl
theorem kin.int(x y:Int)(h:(Lit.int .i64 y).wf=true):kin (.int .i64 x) (.int .i64 y):=.inr (.inl ⟨x,y,rfl,rfl,h⟩)
theorem kin.str(s t:Z)(h:t.size<=maxLen):kin (.string s) (.string t):=.inr (.inr (.inl ⟨s,t,rfl,rfl,h⟩))
theorem kin.bool(x y:Bool):kin (.bool x) (.bool y):=.inr (.inr (.inr ⟨x,y,rfl,rfl⟩))
theorem kin.trans{u v z:Value}(h:kin u v)(k:kin v z):kin u z:=by
 rcases h with rfl|⟨x,y,rfl,rfl,p⟩|⟨s,t,rfl,rfl,p⟩|⟨x,y,rfl,rfl⟩
 .exact k
 .rcases k with rfl|⟨a,b,e,rfl,q⟩|⟨a,b,e,rfl,q⟩|⟨_,_,e,_⟩
  .exact .inr (.inl ⟨x,y,rfl,rfl,p⟩)
  .exact .inr (.inl ⟨x,b,rfl,rfl,q⟩)
  .cases e
  .cases e
 .rcases k with rfl|⟨a,b,e,rfl,q⟩|⟨a,b,e,rfl,q⟩|⟨_,_,e,_⟩
  .exact .inr (.inr (.inl ⟨s,t,rfl,rfl,p⟩))
  .cases e
  .exact .inr (.inr (.inl ⟨s,b,rfl,rfl,q⟩))
  .cases e
 .rcases k with rfl|⟨a,b,e,rfl,q⟩|⟨a,b,e,rfl,q⟩|⟨a,b,e,rfl⟩
  .exact .inr (.inr (.inr ⟨x,y,rfl,rfl⟩))
  .cases e
  .cases e
  .exact .inr (.inr (.inr ⟨x,b,rfl,rfl⟩))
theorem kin.ok{u v:Value}(h:kin u v)(k:cq u):cq v:=by
 rcases h with rfl|⟨x,y,rfl,rfl,q⟩|⟨s,t,rfl,rfl,q⟩|⟨x,y,rfl,rfl⟩
 .exact k
 .exact q
 .exact q
 .exact trivial
theorem kin.eqInt{x:Int}{v:Value}(h:kin (.int .i64 x) v):∃y,v= .int .i64 y:=by
 rcases h with rfl|⟨_,y,_,rfl,_⟩|⟨_,_,e,_,_⟩|⟨_,_,e,_⟩
 .exact⟨_,rfl⟩
 .exact⟨_,rfl⟩
 .cases e
 .cases e
theorem kin.eqStr{s:Z}{v:Value}(h:kin (.string s) v):∃t,v= .string t:=by
 rcases h with rfl|⟨_,_,e,_,_⟩|⟨_,t,_,rfl,_⟩|⟨_,_,e,_⟩
 .exact⟨_,rfl⟩
 .cases e
 .exact⟨_,rfl⟩
 .cases e
theorem kin.eqBool{x:Bool}{v:Value}(h:kin (.bool x) v):∃y,v= .bool y:=by
 rcases h with rfl|⟨_,_,e,_,_⟩|⟨_,_,e,_,_⟩|⟨_,y,_,rfl⟩
 .exact⟨_,rfl⟩
 .cases e
 .cases e
 .exact⟨_,rfl⟩
theorem kin.eqSlice{A:Y Addr}{n c:Nat}{v:Value}(h:kin (.slice A n c) v):v= .slice A n c:=by
 rcases h with rfl|⟨_,_,e,_,_⟩|⟨_,_,e,_,_⟩|⟨_,_,e,_⟩
 .rfl
 .cases e
 .cases e
 .cases e
structure bt(S:Nat->Prop)(w w':World):Prop where
 os:w'.os=w.os
 tape:w'.tape=w.tape
 output:w'.output=w.output
 size:w.heap.size<=w'.heap.size
 block:∀b,b<w.heap.size->¬S b->w'.heap[b]? =w.heap[b]?
 frozen:∀b o,b<w.heap.size->w'.frozen? ⟨b,o,none⟩=w.frozen? ⟨b,o,none⟩
 kin:∀b o u,w.cell? ⟨b,o,none⟩=some u->∃u',w'.cell? ⟨b,o,none⟩=some u'/\kin u u'
theorem bt.refl(S:Nat->Prop)(w:World):bt S w w:=⟨rfl,rfl,rfl,N4 _,λ_ _ _=>rfl,λ_ _ _=>rfl,λ_ _ u h=>⟨u,h,.refl u⟩⟩
theorem bt.trans{S:Nat->Prop}{a b c:World}(h:bt S a b)(k:bt S b c):bt S a c:=
 ⟨k.os.trans h.os,k.tape.trans h.tape,k.output.trans h.output,NS h.size k.size,fun i hi hs=>(k.block i (NV hi h.size) hs).trans (h.block i hi hs),
  fun i o hi=>(k.frozen i o (NV hi h.size)).trans (h.frozen i o hi),fun i o u d=>by
   obtain⟨u1,q1,q2⟩:=h.kin i o u d;obtain⟨u2,q3,q4⟩:=k.kin i o u1 q1;exact⟨u2,q3,q2.trans q4⟩⟩
theorem bt.eS{S:Nat->Prop}{w w':World}(h:Below w.heap.size w w'):bt S w w':=
 ⟨h.os,h.tape,h.output,h.size,λb hb _=>h.block b hb,λb o hb=>h.frozen (p:=⟨b,o,none⟩) hb,λb o u d=>⟨u,(h.cell (p:=⟨b,o,none⟩) (World.block_lt_of_cell? w _ d)).trans d,.refl u⟩⟩
theorem bt.setCell_{S:Nat->Prop}{w:World}{b o:Nat}{u v:Value}(d:w.cell? ⟨b,o,none⟩=some u)(hk:Go.Proofs.YtigoabbppmdfpaaGreat.kin u v)(hS:S b):bt S w (w.setCell ⟨b,o,none⟩ v) where
 os:=rfl
 tape:=rfl
 output:=rfl
 size:=by simp[World.setCell]
 block:=λi _ hi=>Below.heap_setCell w ⟨b,o,none⟩ v i (λe=>hi (by simp at e;subst e;exact hS))
 frozen:=λi o' _=>World.frozen?_setCell _ _ _ _
 kin:=λi o' x hx=>by
  by_cases e:i=b/\o'=o
  .obtain⟨rfl,rfl⟩:=e;rw[d]at hx;cases hx;refine⟨v,?_,hk⟩;exact World.cell?_setCell_same w _ v (by rw[d])
  .refine⟨x,?_,.refl x⟩;rw[World.cell?_setCell_other w ⟨b,o,none⟩ ⟨i,o',none⟩ v (λq=>e (by injection q with q1 q2;exact⟨q1.symm,q2.symm⟩))];exact hx
theorem bt.set{S:Nat->Prop}{w0 w:World}(h:bt S w0 w){b o:Nat}{u v:Value}(d:w.cell? ⟨b,o,none⟩=some u)(hk:Go.Proofs.YtigoabbppmdfpaaGreat.kin u v)(hS:S b):bt S w0 (w.setCell ⟨b,o,none⟩ v):=h.trans (.setCell_ d hk hS)
theorem bt.next{S:Nat->Prop}{w0 w w':World}(h:bt S w0 w)(hb:Below w.heap.size w w'):bt S w0 w':=h.trans (.eS hb)
theorem bt.below{S:Nat->Prop}{w w':World}{B:Nat}(h:bt S w w')(d:B<=w.heap.size)(hS:∀b,S b->B<=b):Below B w w':=
 ⟨h.os,h.tape,h.output,h.size,λb hb=>h.block b A1 (λq=>by have:=hS b q;omega)⟩
theorem bt.mono{S S':Nat->Prop}{w w':World}(h:bt S w w')(hS:∀b,S b->S' b):bt S' w w':={h with block:=λb hb d=>h.block b hb λq=>d (hS b q)}
def cR(S:Nat->Prop)(w:World):Prop:=∀b,S b->b<w.heap.size/\∀o,w.frozen? ⟨b,o,none⟩=false
theorem cR.bU{S S':Nat->Prop}{w w':World}(h:cR S w)(k:bt S' w w'):cR S w':=λb hb=>⟨NV (h b hb).1 k.size,λo=>(k.frozen b o (h b hb).1).trans ((h b hb).2 o)⟩
def Unf(w w':World):Prop:=∀a,w'.frozen? a=w.frozen? a
theorem Unf.refl(w:World):Unf w w:=λ_=>rfl
theorem Unf.trans{a b c:World}(h:Unf a b)(k:Unf b c):Unf a c:=λx=>(k x).trans (h x)
theorem Unf.alloc{a b:World}(h:Unf a b)(cs:Array Value)(t:TypeId):Unf a (b.alloc (.cells cs t)):=λx=>(frozen?_alloc_cells _ _ _ x).trans (h x)
theorem Unf.setCell{a b:World}(h:Unf a b)(p:Addr)(v:Value):Unf a (b.setCell p v):=λx=>(World.frozen?_setCell _ _ _ _).trans (h x)
theorem Unf.soft{w w':World}(h:Unf w w'){S:Nat->Prop}(hS:∀b,S b->w.heap.size<=b/\b<w'.heap.size):cR S w':=λb hb=>⟨(hS b hb).2,λo=>(h _).trans (by
 show World.frozen? w _=false;unfold World.frozen?;rw[OP (hS b hb).1])⟩
theorem At.bU{S T:Nat->Prop}{w w':World}{d:D}{v:Value}(h:At w T d v)(k:bt S w w')(hd:∀b,T b->¬S b):At w' T d v:=
 h.aB (λb o j hlt=>by show World.cell? w' _=World.cell? w _;unfold World.cell?;rw[k.block b hlt (hd b j)]) (λ_ h _=>h)
def AtS(w:World)(S:Nat->Prop)(d:D)(v:Value):Prop:=
 match d with
 |⟨some u,_,_⟩=>kin u v/\cq v
 | ⟨none, n,cs⟩=>∃A c,v= .slice A n c/\n<=c/\c<=9223372036854775807/\
   (0<cs.length->∃b off,A=some ⟨b,off,none⟩/\S b/\∀k,(h:k<cs.length)->∃u,w.cell? ⟨b,off+k,none⟩=some u/\AtS w S cs[k] u)
termination_by d
decreasing_by
 exact Ro
theorem Cg{w:World}{S:Nat->Prop}{u v:Value}:AtS w S (.lit u) v↔(kin u v/\cq v):=by unfold D.lit;rw[AtS]
theorem mT{w:World}{S:Nat->Prop}{n:Nat}{cs:RV D}{v:Value}:AtS w S (.row n cs) v↔(∃A c,v= .slice A n c/\n<=c/\c<=9223372036854775807/\
   (0<cs.length->∃b off,A=some ⟨b,off,none⟩/\S b/\∀k,(h:k<cs.length)->∃u,w.cell? ⟨b,off+k,none⟩=some u/\AtS w S cs[k] u)):=by
 unfold D.row;rw[AtS]
theorem At.shape{w:World}{S:Nat->Prop}{d:D}:∀{v:Value},At w S d v->AtS w S d v:=by
 induction d using D.induct with
 | hl u n cs=>
  intro v h;rw[At]at h;rw[AtS];exact⟨.inl h.1,by rw[h.1];exact h.2⟩
 | hr n cs y=>
  intro v h;rw[mg]at h;rw[mT];obtain⟨A,c,h1,h2,B,h4⟩:=h;refine⟨A,c,h1,h2,B,λhp=> ?_⟩;obtain⟨b,off,e,hs,hc⟩:=h4 hp;refine⟨b,off,e,hs,λk j=> ?_⟩;obtain⟨u,C,t⟩:=hc k j;exact⟨u,C,y k j t⟩
theorem AtS.bU{w w':World}{S S':Nat->Prop}(hk:bt S' w w'){d:D}:∀{v t:Value},AtS w S d v->kin v t->AtS w' S d t:=by
 induction d using D.induct with
 | hl u n cs=>
  intro v t h k;rw[AtS]at h ⊢;exact⟨h.1.trans k,k.ok h.2⟩
 | hr n cs C=>
  intro v t h k;rw[mT]at h ⊢;obtain⟨A,c,rfl,h2,E,h4⟩:=h;refine⟨A,c,k.eqSlice,h2,E,λhp=> ?_⟩;obtain⟨b,off,e,hs,hc⟩:=h4 hp;refine⟨b,off,e,hs,λj B=> ?_⟩;obtain⟨u,F,y⟩:=hc j B;obtain⟨G,q1,q2⟩:=hk.kin _ _ _ F;exact⟨G,q1,C j B y q2⟩
theorem AtS.next{w w':World}{S S':Nat->Prop}{d:D}{v:Value}(h:AtS w S d v)(hk:bt S' w w'):AtS w' S d v:=h.bU hk (.refl v)
theorem AtS.slice{w:World}{S:Nat->Prop}{n:Nat}{cs:RV D}{v:Value}(h:AtS w S (.row n cs) v):∃A c,v= .slice A n c/\n<=c/\c<=9223372036854775807:=by
 obtain⟨A,c,h1,h2,d,_⟩:=mT.1 h;exact⟨A,c,h1,h2,d⟩
theorem AtS.cellAt{w:World}{S:Nat->Prop}{n c:Nat}{cs:RV D}{A:Y Addr}(h:AtS w S (.row n cs) (.slice A n c))(hp:0<cs.length):
  ∃b off,A=some ⟨b,off,none⟩/\S b/\b<w.heap.size/\∀(k:Nat)(d:D),cs[k]? =some d->∃u,w.cell? ⟨b,off+k,none⟩=some u/\AtS w S d u:=by
 obtain⟨j,t,h1,_,_,h4⟩:=mT.1 h;obtain⟨rfl,_,rfl⟩:A=j/\n=n/\c=t:=by injection h1 with a b c;exact⟨a,b,c⟩
 obtain⟨b,off,e,hs,hc⟩:=h4 hp;refine⟨b,off,e,hs,?_,λk d hd=> ?_⟩
 .obtain⟨u,v,_⟩:=hc 0 hp;exact World.block_lt_of_cell? w _ v
 .grind
theorem Kg{w:World}{S:Nat->Prop}{x:Int}{v:Value}(h:AtS w S (.lit (.int .i64 x)) v):∃y,v= .int .i64 y:=(Cg.1 h).1.eqInt
theorem ED{w:World}{S:Nat->Prop}{xs:RV Int}{A:Y Addr}{n c k:Nat}(h:AtS w S (iu xs) (.slice A n c))(hk:k<xs.length):
  ∃b off x,A=some ⟨b,off,none⟩/\S b/\b<w.heap.size/\w.cell? ⟨b,off+k,none⟩=some (.int .i64 x):=by
 have d:n=xs.length:=by obtain⟨_,_,e,_⟩:=AtS.slice h;injection e
 subst d;obtain⟨b,off,e,hs,hlt,hc⟩:=AtS.cellAt h D5;obtain⟨u,j,t⟩:=hc k (.lit (.int .i64 (xs.getD k 0))) (by simp[List.getD,hk]);obtain⟨y,rfl⟩:=Kg t;exact⟨b,off,y,e,hs,hlt,j⟩
theorem bt.cInt{S:Nat->Prop}{w w':World}(h:bt S w w'){b o:Nat}{x:Int}(hc:w.cell? ⟨b,o,none⟩=some (.int .i64 x)):∃y,w'.cell? ⟨b,o,none⟩=some (.int .i64 y):=by
 obtain⟨u,h1,h2⟩:=h.kin _ _ _ hc;obtain⟨y,rfl⟩:=h2.eqInt;exact⟨y,h1⟩
theorem bt.cStr{S:Nat->Prop}{w w':World}(h:bt S w w'){b o:Nat}{s:Z}(hc:w.cell? ⟨b,o,none⟩=some (.string s)):∃t,w'.cell? ⟨b,o,none⟩=some (.string t):=by
 obtain⟨u,h1,h2⟩:=h.kin _ _ _ hc;obtain⟨y,rfl⟩:=h2.eqStr;exact⟨y,h1⟩
theorem bt.cSlice{S:Nat->Prop}{w w':World}(h:bt S w w'){b o n c:Nat}{A:Y Addr}(hc:w.cell? ⟨b,o,none⟩=some (.slice A n c)):w'.cell? ⟨b,o,none⟩=some (.slice A n c):=by
 obtain⟨u,h1,h2⟩:=h.kin _ _ _ hc;rw[h2.eqSlice]at h1;exact h1
theorem cR.alloc{S:Nat->Prop}{w:World}(h:cR S w)(o:Obj):cR S (w.alloc o):=h.bU (bt.eS (S:=S) ((Below.refl _ _).alloc (N4 _) _))
theorem AtS.alloc{S:Nat->Prop}{w:World}{d:D}{v:Value}(h:AtS w S d v)(o:Obj):AtS (w.alloc o) S d v:=h.next (bt.eS (S:=S) ((Below.refl _ _).alloc (N4 _) _))
theorem bt.front{S:Nat->Prop}{w w':World}(o:Obj)(h:bt S (w.alloc o) w'):bt S w w':=(bt.eS (S:=S) ((Below.refl _ _).alloc (N4 _) _)).trans h
theorem bt.blk{S:Nat->Prop}{w w':World}(h:bt S w w'){g:Nat}{t:TypeId}{cs:Array Value}(hb:Blk w g t cs)(d:¬S g):Blk w' g t cs:=(h.block g hb.lt d).trans hb
section
variable {α : Type} {w w' : World} {S : Nat → Prop} {xs : RV α} {v : Value}
def eY(f:α->RV D)(xs:RV α):D:=.row xs.length (xs.flatMap f)
theorem au{f:α->RV D}(h:At w S (eY f xs) v):∃A c,v= .slice A xs.length c/\xs.length<=c/\c<=9223372036854775807:=h.slice
theorem lg{f:α->RV D}(s:Nat)(t:∀x,(f x).length=s){A:Y Addr}{n c k:Nat}(h:At w S (eY f xs) (.slice A n c))(v:0<s)(hk:k<xs.length):
  ∃b off x,A=some ⟨b,off,none⟩/\S b/\b<w.heap.size/\Hid (xs[k]? =some x)/\∀(j:Nat)(d:D),(f x)[j]? =some d->∃u,w.cell? ⟨b,off+(k*s+j),none⟩=some u/\At w S d u:=by
 have y:n=xs.length:=by obtain⟨_,_,e,_⟩:=au h;injection e
 subst y;obtain⟨b,off,e,hs,hlt,hc⟩:=At.cellAt h (by rw[eX _ s t];exact Nat.mul_pos A1 v);refine⟨b,off,xs[k],e,hs,hlt,gE hk,λj d hd=> ?_⟩;have B:j<s:=by have:=(gI.1 hd).1;rw[t]at this;exact this
 exact hc (k*s+j) d (by rw[eO _ s t _ _ _ B,gE hk];exact hd)
theorem ng{f:α->RV D}(s:Nat)(v:∀x,(f x).length=s){A:Y Addr}{c:Nat}(y:0<s)(F:xs.length<=c)(hc:c<=9223372036854775807)
  (h:0<xs.length->∃b off,A=some ⟨b,off,none⟩/\S b/\∀(k:Nat)(x:α),xs[k]? =some x->∀(j:Nat)(d:D),(f x)[j]? =some d->∃u,w.cell? ⟨b,off+(k*s+j),none⟩=some u/\At w S d u):
  At w S (eY f xs) (.slice A xs.length c):=by
 refine mg.2 ⟨A,c,rfl,F,hc,λhp=> ?_⟩;rw[eX _ s v]at hp;obtain⟨b,off,e,hs,hk⟩:=h (by rcases P8 xs.length with h|h;(rw[h,PM]at hp;omega);exact h);refine⟨b,off,e,hs,λj B=> ?_⟩;have C:j<xs.length*s:=by rw[eX _ s v]at B;exact B
 have E:j / s<xs.length:=PD (by rw[P9];exact C);have hm:j%s<s:=PP _ y;have t:(xs.flatMap f)[j]? =(f xs[j / s])[j%s]? :=by
  have:=eO f s v xs (j / s) (j%s) hm;rw[show j / s*s+j%s=j by rw[P9];exact PH _ _,gE E]at this;exact this
 rw[gE B]at t;have:=hk (j / s) xs[j / s] (gE E) (j%s) _ t.symm;rw[show j / s*s+j%s=j by rw[P9];exact PH _ _]at this;exact this
theorem jL{f:α->RV D}(s:Nat)(t:∀x,(f x).length=s){A:Y Addr}{n c k:Nat}(h:AtS w S (eY f xs) (.slice A n c))(v:0<s)(hk:k<xs.length):
  ∃b off x,A=some ⟨b,off,none⟩/\S b/\b<w.heap.size/\Hid (xs[k]? =some x)/\∀(j:Nat)(d:D),(f x)[j]? =some d->∃u,w.cell? ⟨b,off+(k*s+j),none⟩=some u/\AtS w S d u:=by
 obtain⟨G,H,y,_,_,h4⟩:=mT.1 h;injection y with y B C
 subst y B C;have hp:0<(xs.flatMap f).length:=by rw[eX _ s t];exact Nat.mul_pos A1 v
 obtain⟨b,off,e,hs,hc⟩:=h4 hp;refine⟨b,off,xs[k],e,hs,?_,gE hk,λj d hd=> ?_⟩
 .obtain⟨u,E,_⟩:=hc 0 hp;exact World.block_lt_of_cell? w _ E
 .have F:j<s:=by have:=(gI.1 hd).1;rw[t]at this;exact this
  have B:(xs.flatMap f)[k*s+j]? =some d:=by rw[eO _ s t _ _ _ F,gE hk];exact hd
  obtain⟨h1,h2⟩:=gI.1 B;obtain⟨u,u1,u2⟩:=hc (k*s+j) h1;exact⟨u,u1,by rw[<-h2];exact u2⟩
end
open Den (Sb So Dc Opr Sg)
def DO(x:Z):RV D:=[.lit (.string x)]
def EH(x:Sb):RV D:=[.lit (.int .i64 x.low),.lit (.int .i64 x.bK)]
def Dp(x:Dc):RV D:=[iu x.ac,.lit (.int .i64 x.result)]
abbrev strs(xs:RV Z):D:=eY DO xs
abbrev ak(xs:RV Sb):D:=eY EH xs
abbrev lu(xs:RV Dc):D:=eY Dp xs
def CO(x:Opr):RV D:=[.lit (.string x.ae),lu x.aC,.lit (.bool x.aA),.lit (.bool x.comm),.lit (.int .i64 x.aE)]
abbrev iP(xs:RV Opr):D:=eY CO xs
theorem nb{w:World}{S:Nat->Prop}{xs:RV Z}{A:Y Addr}{n c k:Nat}(h:At w S (strs xs) (.slice A n c))(hk:k<xs.length):
  ∃b off x,A=some ⟨b,off,none⟩/\S b/\b<w.heap.size/\w.cell? ⟨b,off+k,none⟩=some (.string x)/\x.size<=maxLen/\Hid (xs[k]? =some x):=by
 obtain⟨b,off,x,e,hs,hl,hx,hc⟩:=lg 1 (λ_=>rfl) h A1 hk;obtain⟨u,u1,u2⟩:=hc 0 _ rfl;obtain⟨rfl,q⟩:=bc.1 u2;rw[(A1:off+(k*1+0)=off+k)]at u1;exact⟨b,off,x,e,hs,hl,u1,q,hx⟩
theorem qH{w:World}{S:Nat->Prop}{xs:RV Sb}{A:Y Addr}{n c k:Nat}(h:At w S (ak xs) (.slice A n c))(hk:k<xs.length):
  ∃b off x,A=some ⟨b,off,none⟩/\S b/\b<w.heap.size/\w.cell? ⟨b,off+k*2,none⟩=some (.int .i64 (Sb.low x))/\w.cell? ⟨b,off+k*2+1,none⟩=some (.int .i64 (Sb.bK x))/\(cq (.int .i64 (Sb.low x))/\cq (.int .i64 (Sb.bK x)))/\Hid (xs[k]? =some x):=by
 obtain⟨b,off,x,e,hs,hl,hx,hc⟩:=lg 2 (λ_=>rfl) h A1 hk;obtain⟨u,u1,u2⟩:=hc 0 _ rfl;obtain⟨v,v1,d⟩:=hc 1 _ rfl;obtain⟨rfl,q⟩:=bc.1 u2;obtain⟨rfl,j⟩:=bc.1 d;exact⟨b,off,x,e,hs,hl,u1,v1,⟨q,j⟩,hx⟩
theorem na{w:World}{S:Nat->Prop}{xs:RV Dc}{A:Y Addr}{n c k:Nat}(h:At w S (lu xs) (.slice A n c))(hk:k<xs.length):
  ∃b off x u,A=some ⟨b,off,none⟩/\S b/\b<w.heap.size/\w.cell? ⟨b,off+k*2,none⟩=some u/\At w S (iu (Dc.ac x)) u/\w.cell? ⟨b,off+k*2+1,none⟩=some (.int .i64 (Dc.result x))/\cq (.int .i64 (Dc.result x))/\Hid (xs[k]? =some x):=by
 obtain⟨b,off,x,e,hs,hl,hx,hc⟩:=lg 2 (λ_=>rfl) h A1 hk;obtain⟨u,u1,u2⟩:=hc 0 _ rfl;obtain⟨v,v1,d⟩:=hc 1 _ rfl;obtain⟨rfl,j⟩:=bc.1 d;exact⟨b,off,x,u,e,hs,hl,u1,u2,v1,j,hx⟩
theorem mZ{w:World}{S:Nat->Prop}{xs:RV Opr}{A:Y Addr}{n c k:Nat}(h:At w S (iP xs) (.slice A n c))(hk:k<xs.length):
  ∃ b off x u,A=some ⟨b,off,none⟩/\S b/\b<w.heap.size/\w.cell? ⟨b,off+k*5,none⟩=some (.string (Opr.ae x))/\w.cell? ⟨b,off+k*5+1,none⟩=some u/\At w S (lu (Opr.aC x)) u/\w.cell? ⟨b,off+k*5+2,none⟩=some (.bool (Opr.aA x))/\
   w.cell? ⟨b,off+k*5+3,none⟩=some (.bool (Opr.comm x))/\w.cell? ⟨b,off+k*5+4,none⟩=some (.int .i64 (Opr.aE x))/\((Opr.ae x).size<=maxLen/\cq (.int .i64 (Opr.aE x)))/\Hid (xs[k]? =some x):=by
 obtain⟨b,off,x,e,hs,hl,hx,hc⟩:=lg 5 (λ_=>rfl) h A1 hk;obtain⟨u0,d,q0⟩:=hc 0 _ rfl;obtain⟨u1,j,q1⟩:=hc 1 _ rfl;obtain⟨u2,t,q2⟩:=hc 2 _ rfl;obtain⟨u3,v,q3⟩:=hc 3 _ rfl;obtain⟨u4,y,q4⟩:=hc 4 _ rfl;obtain⟨rfl,B⟩:=bc.1 q0;obtain⟨rfl,_⟩:=bc.1 q2;obtain⟨rfl,_⟩:=bc.1 q3;obtain⟨rfl,C⟩:=bc.1 q4;exact⟨b,off,x,u1,e,hs,hl,d,j,q1,t,v,y,⟨B,C⟩,hx⟩
def mP{α:Type}(f:α->RV D)(s:Nat)(w:World)(B:Nat)(xs:RV α)(k:Nat)(cs:Array Value):Prop:=
 cs.size=xs.length*s/\∀(j:Nat)(x:α),j<k->xs[j]?=some x->∀(i:Nat)(d:D),(f x)[i]? =some d->∃u,cs[j*s+i]? =some u/\At w (cA B) d u
theorem mP.step{α:Type}{f:α->RV D}{s:Nat}{w w':World}{B:Nat}{xs:RV α}{k:Nat}{cs t:Array Value}{x:α}(h:mP f s w B xs k cs)(C:∀x,(f x).length=s)(hx:xs[k]? =some x)(hk:∀d v,At w (cA B) d v->At w' (cA B) d v)
  (A:t.size=cs.size) (ho:∀m,m<k*s\/k*s+s<=m->t[m]? =cs[m]?) (F:∀(i:Nat)(d:D),(f x)[i]? =some d->∃u,t[k*s+i]? =some u/\At w' (cA B) d u):mP f s w' B xs (k+1) t:=by
 obtain⟨h1,h2⟩:=h;refine⟨A.trans h1,λj y G E i d hd=> ?_⟩;by_cases e:j=k
 .grind
 .obtain⟨u,u1,u2⟩:=h2 j y A1 E i d hd;have hi:i<s:=by have:=(gI.1 hd).1;rw[C]at this;exact this
  refine⟨u,(ho _ (.inl ?_)).trans u1,hk _ _ u2⟩;have:(j+1)*s<=k*s:=OZ s A1;rw[O9,Nat.one_mul]at this;omega
theorem mP.done{α:Type}{f:α->RV D}{s:Nat}{w:World}{B:Nat}{xs:RV α}{cs:Array Value}{t:TypeId}{p:Nat}(h:mP f s w B xs xs.length cs)(y:∀x,(f x).length=s)(v:0<s)(hb:Blk w p t cs)(hp:∀b,cA B b->cA p b)(hl:xs.length<=1048576):At w (cA p) (eY f xs) (.slice (some ⟨p,0,none⟩) xs.length xs.length):=by
 refine ng s y v (N4 _) A1 λ_=>⟨p,0,rfl,N4 _,λk x hx j d hd=> ?_⟩;obtain⟨u,u1,u2⟩:=h.2 k x (gI.1 hx).1 hx j d hd;exact⟨u,by rw[Ou,hb.cell];exact u1,u2.mono λb hb _=>hp b hb⟩
open Den (Sb So Dc Opr Sg)
theorem Tryz.info3:(Tryz.prog.info? 3).map (λi=>(i.zero,i.size,i.bytes))=some (some (.int .i64 0),1,8):=F1
theorem Tryz.infoStr:(Tryz.prog.info? 9).map (λi=>(i.zero,i.size,i.bytes))=some (some (.string ⟨#[]⟩),1,16):=F1
theorem Tryz.infoSub:(Tryz.prog.info? 121).map (λi=>(i.zero,i.size,i.bytes))=some (some (.agg #[.int .i64 0,.int .i64 0]),2,16):=F1
theorem Tryz.infoDec:(Tryz.prog.info? 141).map (λi=>(i.zero,i.size,i.bytes))=some (some (.agg #[.slice none 0 0,.int .i64 0]),2,32):=F1
theorem Tryz.infoOpr:(Tryz.prog.info? 87).map (λi=>(i.zero,i.size,i.bytes))=some (some (.agg #[.string ⟨#[]⟩,.slice none 0 0,.bool false,.bool false,.int .i64 0]),5,56):=F1
set_option maxHeartbeats 400000 in
theorem DP(xs:RV Int)(w:World)(S:Nat->Prop)(v:Value)(h:At w S (iu xs) v)(h1:xs.length<=1048576):
  Calls Tryz.prog 135 #[v] w λe w'=>∃L,e= .returned L/\At w' (cA w.heap.size) (iu xs) L/\Below w.heap.size w w'/\Unf w w':=by
 obtain⟨A,c,rfl,Q,hc⟩:=cz h;have C:=run_make_row' (P:=Tryz.prog) 90 3 (.int .i64 0) 8 Tryz.underlying90 Tryz.info3 rfl .i64 .i64 xs.length A1 A1
 go_enter Tryz.func135,Tryz.ntmps135
 go_wp2
 go_loopw [4] (λi wr=>∃(k:Nat)(cs:Array Value),k<=xs.length/\i= .int .i64 k/\Blk wr w.heap.size 3 cs/\cs.size=xs.length/\(∀j,j<k->cs[j]? =some (.int .i64 (xs.getD j 0)))/\Below w.heap.size w wr/\Unf w wr)
  (λi _=>xs.length-(intOf i).toNat)
 case atStart=>exact⟨0,_,N9 _,rfl,Blk.new _ _ _,Qj,λj F=>A1,(Below.refl _ _).alloc (N4 _) _,D1⟩
 case round=>
  obtain⟨k,cs,hk,rfl,d,B,t,hb,un⟩:=hrel;by_cases hlt:k<xs.length
  .obtain⟨b,off,rfl,_,G,y⟩:=wd h A1;obtain⟨D,M⟩:=y k hlt;have N:wr.cell? ⟨b,off+k,none⟩=some (.int .i64 (xs.getD k 0)):=(hb.cell (p:=⟨b,off+k,none⟩) G).trans D;have E:∃u,wr.cell? ⟨w.heap.size,k,none⟩=some u:=⟨cs[k]' A1,by rw[d.cell];simp[B,hlt]⟩;obtain⟨u,E⟩:=E;have O:=d.frozen k;have H:=Lib.hid B;have I:=Lib.hid t;have J:=Lib.hid d;clear B t y D d C
   go_wp2
   go_roundw
   case rel=>
    refine⟨k+1,_,A1,by go_num,J.out.jJ k _,by simpa using H.out,λj F=> ?_,hb.setCell C3 _,D1⟩;by_cases K:j=k
    .subst K;simp[H.out,hlt]
    .rw[O8 A1];exact I.out j A1
   case measure=>simp[intOf];omega
  .have H:=Lib.hid B;have I:=Lib.hid t;have J:=Lib.hid d;clear B t d C
   go_wp2
   go_ret
   refine⟨_,rfl,uQ (N4 _) A1 λ_=>⟨w.heap.size,0,rfl,N4 _,λj F=>⟨?_,?_⟩⟩,hb,un⟩
   .rw[J.out.cell];simpa using I.out j A1
   .obtain⟨b,off,_,_,_,y⟩:=wd h A1;exact(y j F).2
set_option maxHeartbeats 1000000 in
theorem vS(xs:RV Z)(w:World)(S:Nat->Prop)(v:Value)(h:At w S (eY DO xs) v)(h1:xs.length<=1048576):
  Calls Tryz.prog 38 #[v] w λe w'=>∃F,e= .returned F/\At w' (cA w.heap.size) (eY DO xs) F/\Below w.heap.size w w'/\Unf w w':=by
 obtain⟨A,c,rfl,M,hc⟩:=au h;have bJ:xs.length<=1048576:=h1;have C:=run_make_row' (P:=Tryz.prog) 22 9 _ 16 Tryz.underlying22 Tryz.infoStr rfl .i64 .i64 xs.length A1 A1
 go_enter Tryz.func38,Tryz.ntmps38
 go_wp2_with fail
 go_loopw [4] (λi wr=>∃(k:Nat)(cs:Array Value),k<=xs.length/\i= .int .i64 k/\Blk wr w.heap.size 9 cs/\mP DO 1 wr (w.heap.size+1) xs k cs/\Below w.heap.size w wr/\Unf w wr)
  (λi _=>xs.length-(intOf i).toNat)
 case atStart=>exact⟨0,_,N9 _,rfl,Blk.new _ _ _,⟨Qj,λj _ N=>A1⟩,(Below.refl _ _).alloc (N4 _) _,D1⟩
 case round=>
  obtain⟨k,cs,hk,rfl,t,y,hb,un⟩:=hrel;have B:=Lib.hid t;have HR:=Lib.hid y;clear t y C;by_cases hlt:k<xs.length
  .obtain⟨b,off,x,rfl,_,I,J,D,G⟩:=nb (h.below hb) hlt;have K:=B.out.lt;have H:=mG G.out;have E:=HR.out.1;obtain⟨O,Q⟩:∃d,wr.cell? ⟨w.heap.size,k,none⟩=some d:=⟨_,(B.out.cell _).trans (gA A1)⟩;have R:=B.out.frozen (k);clear E
   go_wp2_with fail
   go_roundw
   case rel=>
    have T:=HR.out.1;have L:k*1+1<=cs.size:=A1
    refine⟨k+1,_,A1,by go_num,(B.out.jJ _ _),HR.out.step (λ_=>rfl) G.out (λd v h=>((h).setCell I2 _)) C3 (λm hm=> ?_) (λi d hd=> ?_),B0,D1⟩
    .grind
    .have hi:i=0:=by
      have U:i<1:=(gI.1 hd).1;omega
     obtain rfl:=hi
     .cases hd;exact⟨_,PT,bc.2 ⟨rfl,D⟩⟩
   case measure=>simp[intOf];omega
  .go_wp2_with fail
   go_ret
   obtain rfl:k=xs.length:=A1
   exact⟨_,rfl,HR.out.done (λ_=>rfl) A1 B.out (λb hb=>Qf) bJ,hb,un⟩
theorem E6(x:Sb)(w:World):Calls Tryz.prog 66 #[.agg #[.int .i64 (Sb.low x),.int .i64 (Sb.bK x)]] w λe w'=>e= .returned (.agg #[.int .i64 (Sb.low x),.int .i64 (Sb.bK x)])/\Below w.heap.size w w'/\Unf w w':=by
 go_enter Tryz.func66,Tryz.ntmps66
 go_wp2_with fail
 refine bodyPost_ret (v:=.agg #[.int .i64 (Sb.low x),.int .i64 (Sb.bK x)]) (by simp[results,Tryz.results66,go_sem]) rfl ⟨rfl,?_,?_⟩
 .repeat with_reducible (first|exact Below.refl _ _|refine Below.setCell ?_ B4 _|refine Below.drew ?_|refine below_drewN ?_ _|refine Below.alloc ?_ B4 _|refine Below.trans ?_ (Below.mono Df B4))
 .repeat with_reducible (first|exact Unf.refl _|assumption|refine Unf.setCell ?_ _ _|refine Unf.drew ?_|refine Unf.drewN ?_ _|refine Unf.alloc ?_ _ _|refine Unf.trans ?_ Df)
set_option maxHeartbeats 1000000 in
theorem C8(xs:RV Sb)(w:World)(S:Nat->Prop)(v:Value)(h:At w S (eY EH xs) v)(h1:xs.length<=1048576):
  Calls Tryz.prog 39 #[v] w λe w'=>∃G,e= .returned G/\At w' (cA w.heap.size) (eY EH xs) G/\Below w.heap.size w w'/\Unf w w':=by
 obtain⟨A,c,rfl,R,hc⟩:=au h;have bJ:xs.length<=1048576:=h1;have D:=oK (P:=Tryz.prog) 38 121 _ 2 16 Tryz.underlying38 Tryz.infoSub xs.length A1 A1
 go_enter Tryz.func39,Tryz.ntmps39
 go_wp2_with fail
 go_loopw [4] (λi wr=>∃(k:Nat)(cs:Array Value),k<=xs.length/\i= .int .i64 k/\Blk wr w.heap.size 121 cs/\mP EH 2 wr (w.heap.size+1) xs k cs/\Below w.heap.size w wr/\Unf w wr)
  (λi _=>xs.length-(intOf i).toNat)
 case atStart=>exact⟨0,_,N9 _,rfl,Blk.new _ _ _,⟨Qj,λj _ T=>A1⟩,(Below.refl _ _).alloc (N4 _) _,D1⟩
 case round=>
  obtain⟨k,cs,hk,rfl,y,B,hb,un⟩:=hrel;have E:=Lib.hid y;have HR:=Lib.hid B;clear y B D;by_cases hlt:k<xs.length
  .obtain⟨b,off,x,rfl,_,K,L,M,C,H⟩:=qH (h.below hb) hlt;have N:=E.out.lt;have I:=mG H.out
   go_wp2_with fail
   refine(E6 x _).mono ?_;rintro e J ⟨rfl,hb1,O⟩;have t:=Lib.hid (E.out.next hb1);have F:=HR.out.1;obtain⟨U,V⟩:∃d,J.cell? ⟨w.heap.size,k*2,none⟩=some d:=⟨_,(t.out.cell _).trans (gA A1)⟩;obtain⟨W,X⟩:∃d,J.cell? ⟨w.heap.size,k*2+1,none⟩=some d:=⟨_,(t.out.cell _).trans (gA A1)⟩;have Y:=t.out.frozen (k*2);have Z:=t.out.frozen (k*2+1);clear F
   go_wp2_with fail
   go_roundw
   case rel=>
    have hz:=HR.out.1;have Q:k*2+2<=cs.size:=A1
    refine⟨k+1,_,A1,by go_num,((t.out.jJ _ _).jJ _ _),HR.out.step (λ_=>rfl) H.out (λd v h=>(((h.below hb1).setCell I2 _).setCell I2 _)) C3 (λm hm=> ?_) (λi d hd=> ?_),B0,D1⟩
    .grind
    .have hi:i=0\/i=1:=by
      have h5:i<2:=(gI.1 hd).1;omega
     rcases hi with rfl|rfl
     .cases hd;exact⟨_,PT,bc.2 ⟨rfl,C.1⟩⟩
     .cases hd;exact⟨_,PT,bc.2 ⟨rfl,C.2⟩⟩
   case measure=>simp[intOf];omega
  .go_wp2_with fail
   go_ret
   obtain rfl:k=xs.length:=A1
   exact⟨_,rfl,HR.out.done (λ_=>rfl) A1 E.out (λb hb=>Qf) bJ,hb,un⟩
def dcW(x:Dc):Nat:=(Dc.ac x).length
set_option maxHeartbeats 400000 in
theorem Dn(x:Dc)(w:World)(S:Nat->Prop)(v:Value)(h:At w S (iu (Dc.ac x)) v)(h1:dcW x<=1048576):Calls Tryz.prog 100 #[.agg #[v,.int .i64 (Dc.result x)]] w λe w'=>∃d,e= .returned (.agg #[d,.int .i64 (Dc.result x)])/\At w' (cA w.heap.size) (iu (Dc.ac x)) d/\Below w.heap.size w w'/\Unf w w':=by
 obtain⟨A,c,rfl,G,hc⟩:=cz h;unfold dcW at h1
 go_enter Tryz.func100,Tryz.ntmps100
 go_wp2_with fail
 refine(DP (Dc.ac x) _ S _ (((h.alloc _).alloc _).alloc _) A1).mono ?_;rintro e H ⟨d,rfl,t,hb,y⟩;obtain⟨B,C,rfl,D,E⟩:=cz t;obtain⟨j,F⟩:=tI hb
 go_wp2_with fail
 refine bodyPost_ret (v:=.agg #[.slice B (Dc.ac x).length C,.int .i64 (Dc.result x)]) (by simp[results,Tryz.results100,go_sem,j]) rfl ⟨_,rfl,?_,?_,?_⟩
 .refine At.mono ((((t.setCell ?_ _).setCell ?_ _).setCell ?_ _).setCell ?_ _) ?_<;>simp[cA]<;>omega
 .repeat with_reducible (first|exact Below.refl _ _|refine Below.setCell ?_ B4 _|refine Below.drew ?_|refine below_drewN ?_ _|refine Below.alloc ?_ B4 _|refine Below.trans ?_ (Below.mono Df B4))
 .repeat with_reducible (first|exact Unf.refl _|assumption|refine Unf.setCell ?_ _ _|refine Unf.drew ?_|refine Unf.drewN ?_ _|refine Unf.alloc ?_ _ _|refine Unf.trans ?_ Df)
def tn(xs:RV Dc):Nat:=xs.length+(xs.map dcW).sum
set_option maxHeartbeats 1000000 in
theorem ze(xs:RV Dc)(w:World)(S:Nat->Prop)(v:Value)(h:At w S (eY Dp xs) v)(h1:tn xs<=1048576):
  Calls Tryz.prog 67 #[v] w λe w'=>∃D,e= .returned D/\At w' (cA w.heap.size) (eY Dp xs) D/\Below w.heap.size w w'/\Unf w w':=by
 obtain⟨A,c,rfl,Z,hc⟩:=au h;have bJ:xs.length<=1048576:=by unfold tn at h1;omega
 have E:=oK (P:=Tryz.prog) 85 141 _ 2 32 Tryz.underlying85 Tryz.infoDec xs.length A1 A1
 go_enter Tryz.func67,Tryz.ntmps67
 go_wp2_with fail
 go_loopw [4] (λi wr=>∃(k:Nat)(cs:Array Value),k<=xs.length/\i= .int .i64 k/\Blk wr w.heap.size 141 cs/\mP Dp 2 wr (w.heap.size+1) xs k cs/\Below w.heap.size w wr/\Unf w wr)
  (λi _=>xs.length-(intOf i).toNat)
 case atStart=>exact⟨0,_,N9 _,rfl,Blk.new _ _ _,⟨Qj,λj _ hj=>A1⟩,(Below.refl _ _).alloc (N4 _) _,D1⟩
 case round=>
  obtain⟨k,cs,hk,rfl,y,B,hb,un⟩:=hrel;have F:=Lib.hid y;have HR:=Lib.hid B;clear y B E;by_cases hlt:k<xs.length
  .obtain⟨b,off,x,u,rfl,_,N,O,J,Q,G,K⟩:=na (h.below hb) hlt;have R:=F.out.lt;have C:=mG K.out;obtain⟨Au,cu,rfl,T,U⟩:=cz J;have H:dcW x<=1048576:=by have:=iU (f:=dcW) C;unfold tn at h1;omega
   go_wp2_with fail
   refine(Dn x _ S _ J H).mono ?_;rintro e L ⟨D,rfl,M,hb1,V⟩;obtain⟨A',c',rfl,W,X⟩:=cz M;have t:=Lib.hid (F.out.next hb1);have I:=HR.out.1;obtain⟨d0,e0⟩:∃d,L.cell? ⟨w.heap.size,k*2,none⟩=some d:=⟨_,(t.out.cell _).trans (gA A1)⟩;obtain⟨d1,e1⟩:∃d,L.cell? ⟨w.heap.size,k*2+1,none⟩=some d:=⟨_,(t.out.cell _).trans (gA A1)⟩;have f0:=t.out.frozen (k*2);have f1:=t.out.frozen (k*2+1);clear I
   go_wp2_with fail
   go_roundw
   case rel=>
    have hz:=HR.out.1;have Y:k*2+2<=cs.size:=A1
    refine⟨k+1,_,A1,by go_num,((t.out.jJ _ _).jJ _ _),HR.out.step (λ_=>rfl) K.out (λd v h=>(((h.below hb1).setCell I2 _).setCell I2 _)) C3 (λm hm=> ?_) (λi d hd=> ?_),B0,D1⟩
    .grind
    .have hi:i=0\/i=1:=by
      have h5:i<2:=(gI.1 hd).1;omega
     rcases hi with rfl|rfl
     .cases hd;exact⟨_,PT,(((M.mono (by simp only[cA];omega)).setCell I2 _).setCell I2 _)⟩
     .cases hd;exact⟨_,PT,bc.2 ⟨rfl,G⟩⟩
   case measure=>simp[intOf];omega
  .go_wp2_with fail
   go_ret
   obtain rfl:k=xs.length:=A1
   exact⟨_,rfl,HR.out.done (λ_=>rfl) A1 F.out (λb hb=>Qf) bJ,hb,un⟩
def opW(x:Opr):Nat:=tn (Opr.aC x)
set_option maxHeartbeats 400000 in
theorem I9(x:Opr)(w:World)(S:Nat->Prop)(v:Value)(h:At w S (lu (Opr.aC x)) v)(h1:opW x<=1048576):Calls Tryz.prog 40 #[.agg #[.string (Opr.ae x),v,.bool (Opr.aA x),.bool (Opr.comm x),.int .i64 (Opr.aE x)]] w λe w'=>∃d,e= .returned (.agg #[.string (Opr.ae x),d,.bool (Opr.aA x),.bool (Opr.comm x),.int .i64 (Opr.aE x)])/\At w' (cA w.heap.size) (lu (Opr.aC x)) d/\Below w.heap.size w w'/\Unf w w':=by
 obtain⟨A,c,rfl,G,hc⟩:=au h;unfold opW at h1
 go_enter Tryz.func40,Tryz.ntmps40
 go_wp2_with fail
 refine(ze (Opr.aC x) _ S _ (by repeat (first|exact h|refine At.alloc ?_ _|refine At.setCell ?_ (by simp[Any]) _)) A1).mono ?_;rintro e H ⟨d,rfl,t,hb,y⟩;obtain⟨B,C,rfl,D,E⟩:=au t;obtain⟨j,F⟩:=tI hb
 go_wp2_with fail
 refine bodyPost_ret (v:=.agg #[.string (Opr.ae x),.slice B (Opr.aC x).length C,.bool (Opr.aA x),.bool (Opr.comm x),.int .i64 (Opr.aE x)]) (by simp[results,Tryz.results40,go_sem,j]) rfl ⟨_,rfl,?_,?_,?_⟩
 .refine At.mono (((((((((t.setCell ?_ _).setCell ?_ _).setCell ?_ _).setCell ?_ _).setCell ?_ _).setCell ?_ _).setCell ?_ _).setCell ?_ _).setCell ?_ _) ?_<;>simp[cA]<;>omega
 .repeat with_reducible (first|exact Below.refl _ _|refine Below.setCell ?_ B4 _|refine Below.drew ?_|refine below_drewN ?_ _|refine Below.alloc ?_ B4 _|refine Below.trans ?_ (Below.mono Df B4))
 .repeat with_reducible (first|exact Unf.refl _|assumption|refine Unf.setCell ?_ _ _|refine Unf.drew ?_|refine Unf.drewN ?_ _|refine Unf.alloc ?_ _ _|refine Unf.trans ?_ Df)
def yD(xs:RV Opr):Nat:=xs.length+(xs.map opW).sum
set_option maxHeartbeats 1000000 in
theorem Ic(xs:RV Opr)(w:World)(S:Nat->Prop)(v:Value)(h:At w S (eY CO xs) v)(h1:yD xs<=1048576):
  Calls Tryz.prog 19 #[v] w λe w'=>∃F,e= .returned F/\At w' (cA w.heap.size) (eY CO xs) F/\Below w.heap.size w w'/\Unf w w':=by
 obtain⟨A,c,rfl,hn,hc⟩:=au h;have bJ:xs.length<=1048576:=by unfold yD at h1;omega
 have G:=oK (P:=Tryz.prog) 41 87 _ 5 56 Tryz.underlying41 Tryz.infoOpr xs.length A1 A1
 go_enter Tryz.func19,Tryz.ntmps19
 go_wp2_with fail
 go_loopw [4] (λi wr=>∃(k:Nat)(cs:Array Value),k<=xs.length/\i= .int .i64 k/\Blk wr w.heap.size 87 cs/\mP CO 5 wr (w.heap.size+1) xs k cs/\Below w.heap.size w wr/\Unf w wr)
  (λi _=>xs.length-(intOf i).toNat)
 case atStart=>exact⟨0,_,N9 _,rfl,Blk.new _ _ _,⟨Qj,λj _ hj=>A1⟩,(Below.refl _ _).alloc (N4 _) _,D1⟩
 case round=>
  obtain⟨k,cs,hk,rfl,y,B,hb,un⟩:=hrel;have H:=Lib.hid y;have HR:=Lib.hid B;clear y B G;by_cases hlt:k<xs.length
  .obtain⟨b,off,x,u,rfl,_,N,O,Q,K,R,T,U,C,L⟩:=mZ (h.below hb) hlt;have V:=H.out.lt;have D:=mG L.out;obtain⟨Au,cu,rfl,W,X⟩:=au K;have I:opW x<=1048576:=by have:=iU (f:=opW) D;unfold yD at h1;omega
   go_wp2_with fail
   refine(I9 x _ S _ K I).mono ?_;rintro e E ⟨F,rfl,M,hb1,Y⟩;obtain⟨A',c',rfl,Z,hc'⟩:=au M;have t:=Lib.hid (H.out.next hb1);have J:=HR.out.1;obtain⟨d0,e0⟩:∃d,E.cell? ⟨w.heap.size,k*5,none⟩=some d:=⟨_,(t.out.cell _).trans (gA A1)⟩;obtain⟨d1,e1⟩:∃d,E.cell? ⟨w.heap.size,k*5+1,none⟩=some d:=⟨_,(t.out.cell _).trans (gA A1)⟩;obtain⟨d2,e2⟩:∃d,E.cell? ⟨w.heap.size,k*5+2,none⟩=some d:=⟨_,(t.out.cell _).trans (gA A1)⟩;obtain⟨d3,e3⟩:∃d,E.cell? ⟨w.heap.size,k*5+3,none⟩=some d:=⟨_,(t.out.cell _).trans (gA A1)⟩;obtain⟨d4,e4⟩:∃d,E.cell? ⟨w.heap.size,k*5+4,none⟩=some d:=⟨_,(t.out.cell _).trans (gA A1)⟩;have f0:=t.out.frozen (k*5);have f1:=t.out.frozen (k*5+1);have f2:=t.out.frozen (k*5+2);have f3:=t.out.frozen (k*5+3);have f4:=t.out.frozen (k*5+4);clear J
   go_wp2_with fail
   go_roundw
   case rel=>
    have hz:=HR.out.1;have hz1:k*5+5<=cs.size:=A1
    refine⟨k+1,_,A1,by go_num,(((((t.out.jJ _ _).jJ _ _).jJ _ _).jJ _ _).jJ _ _),HR.out.step (λ_=>rfl) L.out (λd v h=>((((((h.below hb1).setCell I2 _).setCell I2 _).setCell I2 _).setCell I2 _).setCell I2 _)) C3 (λm hm=> ?_) (λi d hd=> ?_),B0,D1⟩
    .rw[O8 A1,O8 A1,O8 A1,O8 A1,O8 A1]
    .have hi:i=0\/i=1\/i=2\/i=3\/i=4:=by
      have h5:i<5:=(gI.1 hd).1;omega
     rcases hi with rfl|rfl|rfl|rfl|rfl
     .cases hd;exact⟨_,PT,bc.2 ⟨rfl,C.1⟩⟩
     .cases hd;exact⟨_,PT,((((((M.mono (by simp only[cA];omega)).setCell I2 _).setCell I2 _).setCell I2 _).setCell I2 _).setCell I2 _)⟩
     .cases hd;exact⟨_,PT,bc.2 ⟨rfl,trivial⟩⟩
     .cases hd;exact⟨_,PT,bc.2 ⟨rfl,trivial⟩⟩
     .cases hd;exact⟨_,PT,bc.2 ⟨rfl,C.2⟩⟩
   case measure=>simp[intOf];omega
  .go_wp2_with fail
   go_ret
   obtain rfl:k=xs.length:=A1
   exact⟨_,rfl,HR.out.done (λ_=>rfl) A1 H.out (λb hb=>Qf) bJ,hb,un⟩
def sgW(s:Sg):Nat:=(So.ah (Sg.ai s)).length+(So.ak (Sg.ai s)).length+yD (Sg.ops s)
theorem Blk.oth{w:World}{g b o:Nat}{t:TypeId}{cs:Array Value}{u:Value}(h:Blk w g t cs)(hb:g≠b):Blk (w.setCell ⟨b,o,none⟩ u) g t cs:=(Below.heap_setCell w ⟨b,o,none⟩ u g hb).trans h
set_option maxHeartbeats 400000 in
theorem Ad(x:So)(w:World)(S:Nat->Prop)(v u:Value)(h:At w S (strs (So.ah x)) v)(k:At w S (ak (So.ak x)) u)(h1:(So.ah x).length<=1048576)(h2:(So.ak x).length<=1048576):
  Calls Tryz.prog 18 #[.agg #[v,u]] w λe w'=>∃E F,e= .returned (.agg #[E,F])/\At w' (cA w.heap.size) (strs (So.ah x)) E/\At w' (cA w.heap.size) (ak (So.ak x)) F/\Below w.heap.size w w'/\Unf w w':=by
 obtain⟨A,c,rfl,X,hc⟩:=au h;obtain⟨B,d,rfl,hm,hd⟩:=au k;obtain⟨p,L⟩:∃o,o=Obj.cells #[.slice A (So.ah x).length c,.slice B (So.ak x).length d] 25:=⟨_,rfl⟩;obtain⟨q,eq⟩:∃o,o=Obj.cells #[.slice none 0 0,.slice none 0 0] 40:=⟨_,rfl⟩;have G:=Lib.hid (((h.alloc p).alloc q).alloc q);have t:=Lib.hid (((k.old.alloc p).alloc q).alloc q);have y:=Lib.hid (((Blk.new w 25 #[.slice A (So.ah x).length c,.slice B (So.ak x).length d]).alloc q).alloc q);have B1:=Lib.hid ((Blk.new (w.alloc p) 40 #[.slice none 0 0,.slice none 0 0]).alloc q);have B2:=Lib.hid (Blk.new ((w.alloc p).alloc q) 40 #[.slice none 0 0,.slice none 0 0]);rw[L,eq]at G t B1 B2;rw[eq]at y;simp only[World.size_alloc]at B1 B2;clear h k L eq
 go_enter Tryz.func18,Tryz.ntmps18
 go_wp2_with fail
 refine(vS (So.ah x) _ S _ G.out h1).mono ?_;rintro e Y ⟨E,rfl,H,hb,N⟩;obtain⟨C,D,rfl,O,P⟩:=au H;have y:=Lib.hid (y.out.next hb);have B1:=Lib.hid (B1.out.next hb);have B2:=Lib.hid (B2.out.next hb);have Q:=hb.size;simp only[World.size_alloc]at Q;have I:=Lib.hid (H.setCell (p:=⟨w.heap.size+1+1,0,none⟩) I2 (.slice C (So.ah x).length D));have t:=Lib.hid ((t.out.below hb).setCell (p:=⟨w.heap.size+1+1,0,none⟩) (by simp[Old];omega) (.slice C (So.ah x).length D));obtain⟨q1,q2⟩:=y.out.c2;obtain⟨q3,q4⟩:=B2.out.c2;have M:=B2.out.frozen 0;clear H
 go_wp2_with fail
 clear q1 q2 q3 q4 M;refine(C8 (So.ak x) _ _ _ t.out h2).mono ?_;rintro e Z ⟨F,rfl,j,hb2,R⟩;obtain⟨T,U,rfl,V,W⟩:=au j;have B1:=Lib.hid ((B1.out.oth A1).next hb2);have B2:=Lib.hid ((show Blk _ (w.heap.size+1+1) 40 #[.slice C (So.ah x).length D,.slice none 0 0]from B2.out.jJ 0 _).next hb2);have I:=Lib.hid (I.out.below hb2);have J:=Lib.hid j;have K:=hb2.size;simp only[World.size_setCell]at K;obtain⟨q1,q2⟩:=B1.out.c2;obtain⟨q3,q4⟩:=B2.out.c2;have M:=B2.out.frozen 1;have f4:=B1.out.frozen 0;have f5:=B1.out.frozen 1;clear j t G
 go_wp2_with fail
 refine bodyPost_ret (v:=.agg #[.slice C (So.ah x).length D,.slice T (So.ak x).length U]) (by simp[results,Tryz.results18,go_sem,q1,q2]) rfl ⟨_,_,rfl,?_,?_,?_,?_⟩
 .refine At.mono (((I.out.setCell ?_ _).setCell ?_ _).setCell ?_ _) ?_<;>simp[cA]<;>omega
 .refine At.mono (((J.out.setCell ?_ _).setCell ?_ _).setCell ?_ _) ?_<;>simp[cA]<;>omega
 .repeat with_reducible (first|exact Below.refl _ _|refine Below.setCell ?_ B4 _|refine Below.drew ?_|refine below_drewN ?_ _|refine Below.alloc ?_ B4 _|refine Below.trans ?_ (Below.mono Df B4))
 .repeat with_reducible (first|exact Unf.refl _|assumption|refine Unf.setCell ?_ _ _|refine Unf.drew ?_|refine Unf.drewN ?_ _|refine Unf.alloc ?_ _ _|refine Unf.trans ?_ Df)
set_option maxHeartbeats 400000 in
theorem fd(x:Sg)(w:World)(S:Nat->Prop)(v u z:Value)(h:At w S (strs (So.ah (Sg.ai x))) v)(k:At w S (ak (So.ak (Sg.ai x))) u)(l:At w S (iP (Sg.ops x)) z)(h1:sgW x<=1048576):
  Calls Tryz.prog 6 #[.agg #[v,u,z]] w λe w'=>∃J K L,e= .returned (.agg #[J,K,L])/\At w' (cA w.heap.size) (strs (So.ah (Sg.ai x))) J/\At w' (cA w.heap.size) (ak (So.ak (Sg.ai x))) K/\At w' (cA w.heap.size) (iP (Sg.ops x)) L/\Below w.heap.size w w'/\Unf w w':=by
 obtain⟨A,c,rfl,hn,hc⟩:=au h;obtain⟨B,d,rfl,hm,hd⟩:=au k;obtain⟨C,f,rfl,hp,hf⟩:=au l;unfold sgW at h1;obtain⟨p,T⟩:∃o,o=Obj.cells #[.slice A (So.ah (Sg.ai x)).length c,.slice B (So.ak (Sg.ai x)).length d,.slice C (Sg.ops x).length f] 28:=⟨_,rfl⟩;obtain⟨q,eq⟩:∃o,o=Obj.cells #[.slice none 0 0,.slice none 0 0,.slice none 0 0] 43:=⟨_,rfl⟩;have M:=Lib.hid (((h.alloc p).alloc q).alloc q);have N:=Lib.hid (((k.alloc p).alloc q).alloc q);have D:=Lib.hid (((l.old.alloc p).alloc q).alloc q);have I:=Lib.hid (((Blk.new w 28 #[.slice A (So.ah (Sg.ai x)).length c,.slice B (So.ak (Sg.ai x)).length d,.slice C (Sg.ops x).length f]).alloc q).alloc q);have B1:=Lib.hid ((Blk.new (w.alloc p) 43 #[.slice none 0 0,.slice none 0 0,.slice none 0 0]).alloc q);have B2:=Lib.hid (Blk.new ((w.alloc p).alloc q) 43 #[.slice none 0 0,.slice none 0 0,.slice none 0 0]);rw[T,eq]at M N D B1 B2;rw[eq]at I;simp only[World.size_alloc]at B1 B2;clear h k l T eq
 go_enter Tryz.func6,Tryz.ntmps6
 go_wp2_with fail
 refine(Ad (Sg.ai x) _ S _ _ M.out N.out A1 A1).mono ?_;rintro e w1 ⟨J,K,rfl,O,j,hb,W⟩;obtain⟨E,F,rfl,X,Y⟩:=au O;obtain⟨G,H,rfl,Z,hd'⟩:=au j;have I:=Lib.hid (I.out.next hb);have B1:=Lib.hid (B1.out.next hb);have B2:=Lib.hid (B2.out.next hb);have hz:=hb.size;simp only[World.size_alloc]at hz;have P:=Lib.hid ((O.setCell (p:=⟨w.heap.size+1+1,0,none⟩) I2 (.slice E (So.ah (Sg.ai x)).length F)).setCell (p:=⟨w.heap.size+1+1,1,none⟩) I2 (.slice G (So.ak (Sg.ai x)).length H));have t:=Lib.hid ((j.setCell (p:=⟨w.heap.size+1+1,0,none⟩) I2 (.slice E (So.ah (Sg.ai x)).length F)).setCell (p:=⟨w.heap.size+1+1,1,none⟩) I2 (.slice G (So.ak (Sg.ai x)).length H));have D:=Lib.hid (((D.out.below hb).setCell (p:=⟨w.heap.size+1+1,0,none⟩) (by simp[Old];omega) (.slice E (So.ah (Sg.ai x)).length F)).setCell (p:=⟨w.heap.size+1+1,1,none⟩) (by simp[Old];omega) (.slice G (So.ak (Sg.ai x)).length H));obtain⟨q1,q2,q5⟩:=I.out.c3;obtain⟨q3,q4,q6⟩:=B2.out.c3;have U:=B2.out.frozen 0;have V:=B2.out.frozen 1;clear O j
 go_wp2_with fail
 clear q1 q2 q3 q4 q5 q6 U V;refine(Ic (Sg.ops x) _ _ _ D.out A1).mono ?_;rintro e w2 ⟨L,rfl,y,hb2,un2⟩;obtain⟨C',f',rfl,hp',hf'⟩:=au y;have B1:=Lib.hid (((B1.out.oth A1).oth A1).next hb2);have B2:=Lib.hid ((show Blk _ (w.heap.size+1+1) 43 #[.slice E (So.ah (Sg.ai x)).length F,.slice G (So.ak (Sg.ai x)).length H,.slice none 0 0]from (B2.out.jJ 0 _).jJ 1 _).next hb2);have P:=Lib.hid (P.out.below hb2);have t:=Lib.hid (t.out.below hb2);have Q:=Lib.hid y;have R:=hb2.size;simp only[World.size_setCell]at R;obtain⟨q1,q2,q5⟩:=B1.out.c3;obtain⟨q3,q4,q6⟩:=B2.out.c3;have U:=B2.out.frozen 2;have V:=B1.out.frozen 0;have f5:=B1.out.frozen 1;have f6:=B1.out.frozen 2;clear y N M D
 go_wp2_with fail
 refine bodyPost_ret (v:=.agg #[.slice E (So.ah (Sg.ai x)).length F,.slice G (So.ak (Sg.ai x)).length H,.slice C' (Sg.ops x).length f']) (by simp[results,Tryz.results6,go_sem,q1,q2,q5]) rfl ⟨_,_,_,rfl,?_,?_,?_,?_,?_⟩
 .refine At.mono ((((P.out.setCell ?_ _).setCell ?_ _).setCell ?_ _).setCell ?_ _) ?_<;>simp[cA]<;>omega
 .refine At.mono ((((t.out.setCell ?_ _).setCell ?_ _).setCell ?_ _).setCell ?_ _) ?_<;>simp[cA]<;>omega
 .refine At.mono ((((Q.out.setCell ?_ _).setCell ?_ _).setCell ?_ _).setCell ?_ _) ?_<;>simp[cA]<;>omega
 .repeat with_reducible (first|exact Below.refl _ _|refine Below.setCell ?_ B4 _|refine Below.drew ?_|refine below_drewN ?_ _|refine Below.alloc ?_ B4 _|refine Below.trans ?_ (Below.mono Df B4))
 .repeat with_reducible (first|exact Unf.refl _|assumption|refine Unf.setCell ?_ _ _|refine Unf.drew ?_|refine Unf.drewN ?_ _|refine Unf.alloc ?_ _ _|refine Unf.trans ?_ Df)
end
end Go.Proofs.YtigoabbppmdfpaaGreat

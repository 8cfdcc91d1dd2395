/-
  Texts that the claim rests on, merged: Data, TermData.
-/
import Derived.WalkKit
import Derived.Lib.Hide

namespace Go.Proofs.Ytagnfckihdlhpaa
open Go.RowKit
structure D where
 val:Option Value
 num:Nat
 cells:List D
def D.lit (u:Value):D:=⟨some u,0,[]⟩
def D.row (n:Nat) (cs:List D):D:=⟨none,n,cs⟩
def okLit :Value->Prop
 | .int k n=>(Lit.int k n).wf=true
 | .string s=>s.size<=maxLen
 |_=>True
def At (w:World) (S:Nat->Prop) (d:D) (v:Value):Prop:=
 match d with
 |⟨some u,_,_⟩=>v=u/\okLit u
 | ⟨none, n, cs⟩ => ∃ A c, v = .slice A n c ∧ n ≤ c ∧ c ≤ 9223372036854775807 ∧
   (0<cs.length->∃b off,A=some ⟨b,off,none⟩/\S b/\∀k,(h:k<cs.length)->∃u,w.cell? ⟨b,off+k,none⟩=some u/\At w S cs[k] u)
termination_by d
decreasing_by
 have hx:=List.sizeOf_lt_of_mem (List.getElem_mem h)
 simp only[D.mk.sizeOf_spec]
 omega
theorem at_lit {w:World} {S:Nat->Prop} {u v:Value}:At w S (.lit u) v↔(v=u/\okLit u):=by unfold D.lit;rw[At]
theorem at_row {w:World} {S:Nat->Prop} {n:Nat} {cs:List D} {v:Value}:At w S (.row n cs) v↔(∃A c,v= .slice A n c/\n<=c/\c<=9223372036854775807/\
   (0<cs.length->∃b off,A=some ⟨b,off,none⟩/\S b/\∀k,(h:k<cs.length)->∃u,w.cell? ⟨b,off+k,none⟩=some u/\At w S cs[k] u)):=by
 unfold D.row;rw[At]
theorem D.cases (d:D):(∃u n cs,d=⟨some u,n,cs⟩)\/(∃n cs,d= .row n cs):=by
 rcases d with⟨_|u,n,cs⟩
 ·exact .inr ⟨n,cs,rfl⟩
 ·exact .inl ⟨u,n,cs,rfl⟩
theorem D.induct {p:D->Prop} (hl:∀u n cs,p ⟨some u,n,cs⟩) (hr:∀n cs,(∀k,(h:k<cs.length)->p cs[k])->p (.row n cs)) (d:D):p d:=by
 match d with
 |⟨some u,n,cs⟩=>exact hl u n cs
 |⟨none,n,cs⟩=>exact hr n cs fun k h=>D.induct hl hr cs[k]
termination_by d
decreasing_by
 have hx:=List.sizeOf_lt_of_mem (List.getElem_mem h)
 simp only[D.mk.sizeOf_spec]
 omega
theorem At.keep {w w':World} {S S':Nat->Prop} (hk:∀b o,S b->b<w.heap.size->w'.cell? ⟨b,o,none⟩=w.cell? ⟨b,o,none⟩) (hS:∀b,S b->b<w.heap.size->S' b) {d:D}:
  ∀{v:Value},At w S d v->At w' S' d v:=by
 induction d using D.induct with
 | hl u n cs =>
  intro v h
  rw[At]at h ⊢
  exact h
 | hr n cs ih =>
  intro v h
  rw[at_row]at h ⊢
  obtain⟨A,c,h1,h2,h3,h4⟩:=h
  refine⟨A,c,h1,h2,h3,fun hp=> ?_⟩
  obtain⟨b,off,e,hs,hc⟩:=h4 hp
  have hlt:b<w.heap.size:=by
   obtain⟨u,hu,_⟩:=hc 0 hp
   exact World.block_lt_of_cell? w _ hu
  refine⟨b,off,e,hS b hs hlt,fun k hk'=> ?_⟩
  obtain⟨u,hu,hat⟩:=hc k hk'
  exact⟨u,by rw[hk b _ hs hlt];exact hu,ih k hk' hat⟩
def Old (w:World):Nat->Prop:=fun b=>b<w.heap.size
def From (B:Nat):Nat->Prop:=fun b=>B<=b
def Any :Nat->Prop:=fun _=>True
theorem At.below {w w':World} {S:Nat->Prop} {d:D} {v:Value} (h:At w S d v) (hb:Below w.heap.size w w'):At w' S d v:=
 h.keep (fun b o _ hlt=>hb.cell (p:=⟨b,o,none⟩) hlt) (fun _ h _=>h)
theorem At.mono {w:World} {S S':Nat->Prop} {d:D} {v:Value} (h:At w S d v) (hS:∀b,S b->b<w.heap.size->S' b):At w S' d v:=
 h.keep (fun _ _ _ _=>rfl) hS
theorem At.any {w:World} {S:Nat->Prop} {d:D} {v:Value} (h:At w S d v):At w Any d v:=h.mono fun _ _ _=>trivial
theorem At.old {w:World} {S:Nat->Prop} {d:D} {v:Value} (h:At w S d v):At w (Old w) d v:=h.mono fun _ _ h=>h
theorem At.alloc {w:World} {S:Nat->Prop} {d:D} {v:Value} (h:At w S d v) (o:Obj):At (w.alloc o) S d v:=h.below ((Below.refl _ _).alloc (Nat.le_refl _) _)
theorem At.drew {w:World} {S:Nat->Prop} {d:D} {v:Value} (h:At w S d v):At w.drew S d v:=h.below (Below.refl _ _).drew
theorem At.setCell {w:World} {S:Nat->Prop} {d:D} {v:Value} (h:At w S d v) {p:Addr} (hp:¬S p.block) (u:Value):At (w.setCell p u) S d v:=
 h.keep (fun b o hb _=>World.cell?_setCell_other w p ⟨b,o,none⟩ u (fun e=>by subst e;exact hp hb)) (fun _ h _=>h)
theorem At.slice {w:World} {S:Nat->Prop} {n:Nat} {cs:List D} {v:Value} (h:At w S (.row n cs) v):∃A c,v= .slice A n c/\n<=c/\c<=9223372036854775807:=by
 obtain⟨A,c,h1,h2,h3,_⟩:=at_row.1 h
 exact⟨A,c,h1,h2,h3⟩
theorem At.cellAt {w:World} {S:Nat->Prop} {n c:Nat} {cs:List D} {A:Option Addr} (h:At w S (.row n cs) (.slice A n c)) (hp:0<cs.length):
  ∃b off,A=some ⟨b,off,none⟩/\S b/\b<w.heap.size/\∀(k:Nat) (d:D),cs[k]? =some d->∃u,w.cell? ⟨b,off+k,none⟩=some u/\At w S d u:=by
 obtain⟨A',c',h1,_,_,h4⟩:=at_row.1 h
 obtain⟨rfl,_,rfl⟩:A=A'/\n=n/\c=c':=by injection h1 with a b c;exact⟨a,b,c⟩
 obtain⟨b,off,e,hs,hc⟩:=h4 hp
 refine⟨b,off,e,hs,?_,fun k d hd=> ?_⟩
 ·obtain⟨u,hu,_⟩:=hc 0 hp
  exact World.block_lt_of_cell? w _ hu
 ·obtain⟨hk,rfl⟩:=List.getElem?_eq_some_iff.1 hd
  exact hc k hk
def Blk (w:World) (g:Nat) (t:TypeId) (cs:Array Value):Prop:=w.heap[g]? =some (.cells cs t (0,0))
theorem Blk.lt {w:World} {g:Nat} {t:TypeId} {cs:Array Value} (h:Blk w g t cs):g<w.heap.size:=by
 rcases Nat.lt_or_ge g w.heap.size with hlt|hge
 ·exact hlt
 ·unfold Blk at h;rw[Array.getElem?_eq_none hge]at h;cases h
theorem Blk.cell {w:World} {g:Nat} {t:TypeId} {cs:Array Value} (h:Blk w g t cs) (i:Nat):w.cell? ⟨g,i,none⟩=cs[i]? :=cell_of_row w g i cs t (0,0) h
theorem Blk.frozen {w:World} {g:Nat} {t:TypeId} {cs:Array Value} (h:Blk w g t cs) (i:Nat):w.frozen? ⟨g,i,none⟩=false:=by
 unfold Blk at h
 simp[World.frozen?,h]
theorem Blk.new (w:World) (t:TypeId) (cs:Array Value):Blk (w.alloc (.cells cs t)) w.heap.size t cs:=heap_alloc_new w _
theorem Blk.alloc {w:World} {g:Nat} {t:TypeId} {cs:Array Value} (h:Blk w g t cs) (o:Obj):Blk (w.alloc o) g t cs:=(Below.heap_alloc w o g h.lt).trans h
theorem Blk.set_ {w:World} {g:Nat} {t:TypeId} {cs:Array Value} (h:Blk w g t cs) (i:Nat) (u:Value):Blk (w.setCell ⟨g,i,none⟩ u) g t (cs.setIfInBounds i u):=by
 unfold Blk at h ⊢
 simp[World.setCell,Array.getElem?_modify,h]
theorem Blk.far {w:World} {g:Nat} {t:TypeId} {cs:Array Value} (h:Blk w g t cs) {p:Addr} (hp:g≠p.block) (u:Value):Blk (w.setCell p u) g t cs:=(Below.heap_setCell w p u g hp).trans h
theorem Blk.below {w w':World} {g:Nat} {t:TypeId} {cs:Array Value} {B:Nat} (h:Blk w g t cs) (hb:Below B w w') (hg:g<B):Blk w' g t cs:=(hb.block g hg).trans h
theorem Blk.c3 {w:World} {g:Nat} {t:TypeId} {a b c:Value} (h:Blk w g t #[a,b,c]):w.cell? ⟨g,0,none⟩=some a/\w.cell? ⟨g,1,none⟩=some b/\w.cell? ⟨g,2,none⟩=some c:=⟨h.cell 0,h.cell 1,h.cell 2⟩
theorem Blk.next {w w':World} {g:Nat} {t:TypeId} {cs:Array Value} (h:Blk w g t cs) (hb:Below w.heap.size w w'):Blk w' g t cs:=h.below hb h.lt
theorem bcell {W w1:World} (hb:Below W.heap.size W w1):(∀b o,b<W.heap.size->w1.cell? ⟨b,o,none⟩=W.cell? ⟨b,o,none⟩)/\(∀b o,b<W.heap.size->w1.frozen? ⟨b,o,none⟩=W.frozen? ⟨b,o,none⟩):=
 ⟨fun b o h=>hb.cell (p:=⟨b,o,none⟩) h,fun b o h=>hb.frozen (p:=⟨b,o,none⟩) h⟩
theorem flat_at {α β:Type} (f:α->List β) (s:Nat) (hs:∀a,(f a).length=s) (l:List α) (i j:Nat) (hj:j<s):(l.flatMap f)[i*s+j]? =l[i]?.bind fun a=>(f a)[j]? :=by
 induction l generalizing i with
 |nil=>simp
 | cons a l ih =>
  rw[List.flatMap_cons]
  cases i with
  |zero=>simp[List.getElem?_append_left (show j<(f a).length by rw[hs];exact hj)]
  | succ i =>
   have e:(i+1)*s+j=s+(i*s+j):=by rw[Nat.add_mul];omega
   rw[e,List.getElem?_append_right (by rw[hs];omega),hs,Nat.add_sub_cancel_left]
   simpa using ih i
theorem flat_len {α β:Type} (f:α->List β) (s:Nat) (hs:∀a,(f a).length=s) (l:List α):(l.flatMap f).length=l.length*s:=by
 induction l with
 |nil=>simp
 |cons a l ih=>rw[List.flatMap_cons,List.length_append,hs,ih,List.length_cons,Nat.add_mul];omega
def ints (xs:List Int):D:=.row xs.length (xs.map fun x=>.lit (.int .i64 x))
theorem ints_slice {w:World} {S:Nat->Prop} {xs:List Int} {v:Value} (h:At w S (ints xs) v):∃A c,v= .slice A xs.length c/\xs.length<=c/\c<=9223372036854775807:=h.slice
theorem ints_at {w:World} {S:Nat->Prop} {xs:List Int} {A:Option Addr} {n c:Nat} (h:At w S (ints xs) (.slice A n c)) (hp:0<xs.length):
  ∃b off,A=some ⟨b,off,none⟩/\S b/\b<w.heap.size/\∀(k:Nat),k<xs.length->w.cell? ⟨b,off+k,none⟩=some (.int .i64 (xs.getD k 0))/\(Lit.int .i64 (xs.getD k 0)).wf=true:=by
 have hn:n=xs.length:=by obtain⟨_,_,e,_⟩:=ints_slice h;injection e
 subst hn
 obtain⟨b,off,e,hs,hlt,hc⟩:=At.cellAt h (by simpa using hp)
 refine⟨b,off,e,hs,hlt,fun k hk=> ?_⟩
 obtain⟨u,hu,ha⟩:=hc k (.lit (.int .i64 (xs.getD k 0))) (by simp[List.getD,hk])
 obtain⟨rfl,hok⟩:=at_lit.1 ha
 exact⟨hu,hok⟩
theorem wf_bounds {n:Int} (h:(Lit.int .i64 n).wf=true): -9223372036854775808<=n/\n<=9223372036854775807:=by
 simp[Lit.wf,IntKind.min,IntKind.max,IntKind.signed,IntKind.bits]at h
 omega
theorem ints_get {w:World} {S:Nat->Prop} {xs:List Int} {A:Option Addr} {n c k:Nat} (h:At w S (ints xs) (.slice A n c)) (hk:k<xs.length):
  ∃b off x,A=some ⟨b,off,none⟩/\S b/\b<w.heap.size/\w.cell? ⟨b,off+k,none⟩=some (.int .i64 x)/\Hid (xs[k]? =some x)/\ -9223372036854775808<=x/\x<=9223372036854775807:=by
 obtain⟨b,off,e,hs,hlt,hc⟩:=ints_at h (by omega)
 obtain⟨h1,h2⟩:=hc k hk
 refine⟨b,off,xs.getD k 0,e,hs,hlt,h1,?_,?_⟩
 ·show xs[k]? =_
  simp[List.getD,hk]
 ·exact wf_bounds h2
theorem ints_mk {w:World} {S:Nat->Prop} {xs:List Int} {A:Option Addr} {c:Nat} (hn:xs.length<=c) (hc:c<=9223372036854775807)
  (h:0<xs.length->∃b off,A=some ⟨b,off,none⟩/\S b/\∀k,k<xs.length->w.cell? ⟨b,off+k,none⟩=some (.int .i64 (xs.getD k 0))/\(Lit.int .i64 (xs.getD k 0)).wf=true):
  At w S (ints xs) (.slice A xs.length c):=by
 refine at_row.2 ⟨A,c,rfl,hn,hc,fun hp=> ?_⟩
 obtain⟨b,off,e,hs,hk⟩:=h (by simpa using hp)
 refine⟨b,off,e,hs,fun k hlt=> ?_⟩
 have hlt':k<xs.length:=by simpa using hlt
 obtain⟨h1,h2⟩:=hk k hlt'
 refine⟨_,h1,?_⟩
 simp only[List.getElem_map]
 refine at_lit.2 ⟨?_,?_⟩
 ·simp[List.getD,hlt']
 ·have e2:xs[k]=xs.getD k 0:=by simp[List.getD,hlt']
  rw[e2];exact h2
theorem make_rowN {P:Program} (t e:TypeId) (z:Value) (size bytes:Nat) (ht:P.underlying t=some (.slice e)) (hinfo:(P.info? e).map (fun i=>(i.zero,i.size,i.bytes))=some (some z,size,bytes))
  (n:Nat) (hbytes:bytes*n<=281474976710656) (h63:n<=9223372036854775807) (w:World):
  (Instr.makeSlice t (.int .i64 (n:Int)) (.int .i64 (n:Int))).run P w= .ok (.slice (some ⟨w.heap.size,0,none⟩) n n) (w.alloc (.cells (madeCells z.cells (n*size)) e)):=by
 obtain⟨i,hi,hzz⟩:=Option.map_eq_some_iff.1 hinfo
 simp only[Prod.mk.injEq]at hzz
 obtain⟨hz,hs,hb⟩:=hzz
 have hb':(i.bytes:Int)*(n:Int)<=281474976710656:=by
  have h:((i.bytes*n:Nat):Int)<=281474976710656:=by rw[hb];omega
  rwa [Int.natCast_mul]at h
 have hr:=run_make (P:=P) w t e i z ht hi hz .i64 .i64 n n (by omega) (by omega) hb' (by omega)
 simp only[Int.toNat_natCast,hs]at hr
 exact hr
theorem made_size (z:Array Value) (n:Nat):(madeCells z n).size=n:=by simp[madeCells]
end Go.Proofs.Ytagnfckihdlhpaa

namespace Go.Proofs.Ytagnfckihdlhpaa
open Go.RowKit
structure Tm where
 op:Int
 name:ByteArray
 sort:Int
 args:List Tm
theorem Tm.induct {p:Tm->Prop} (h:∀o n s args,(∀x∈args,p x)->p ⟨o,n,s,args⟩) (t:Tm):p t:=by
 match t with
 |⟨o,n,s,args⟩=>exact h o n s args fun x hx=>Tm.induct h x
termination_by t
decreasing_by
 have:=List.sizeOf_lt_of_mem hx
 simp only[Tm.mk.sizeOf_spec]
 omega
def Tm.d (t:Tm):D:=
 match t with
 |⟨_,_,_,args⟩=>.row args.length (args.attach.flatMap fun⟨x,_⟩=>[.lit (.int .i64 x.op),.lit (.string x.name),.lit (.int .i64 x.sort),Tm.d x])
termination_by t
decreasing_by
 rename_i hx
 have:=List.sizeOf_lt_of_mem hx
 simp only[Tm.mk.sizeOf_spec]
 omega
def Tm.cells (t:Tm):List D:=[.lit (.int .i64 t.op),.lit (.string t.name),.lit (.int .i64 t.sort),t.d]
def terms (ts:List Tm):D:=.row ts.length (ts.flatMap Tm.cells)
theorem Tm.d_eq (t:Tm):t.d=terms t.args:=by
 obtain⟨o,n,s,args⟩:=t
 rw[Tm.d]
 show D.row _ _=D.row _ _
 congr 1
 have:(fun(x:{x // x∈args})=>match x with|⟨x,_⟩=>[D.lit (.int .i64 x.op),.lit (.string x.name),.lit (.int .i64 x.sort),Tm.d x])=fun x:{x // x∈args}=>Tm.cells x.1:=by
  funext x;rfl
 rw[this]
 conv=>rhs;rw[<-List.attach_map_subtype_val args,List.flatMap_map]
theorem Tm.cells_len (t:Tm):t.cells.length=4:=rfl
theorem terms_slice {w:World} {S:Nat->Prop} {ts:List Tm} {v:Value} (h:At w S (terms ts) v):∃A c,v= .slice A ts.length c/\ts.length<=c/\c<=9223372036854775807:=h.slice
def Tm.fits (t:Tm):Prop:= -9223372036854775808<=t.op/\t.op<=9223372036854775807/\t.name.size<=9223372036854775807/\ -9223372036854775808<=t.sort/\t.sort<=9223372036854775807
theorem terms_get {w:World} {S:Nat->Prop} {ts:List Tm} {A:Option Addr} {n c k:Nat} (h:At w S (terms ts) (.slice A n c)) (hk:k<ts.length):
  ∃ b off t v, A = some ⟨b, off, none⟩ ∧ S b ∧ b < w.heap.size ∧ w.cell? ⟨b, off + k * 4, none⟩ = some (.int .i64 t.op) ∧ w.cell? ⟨b, off + k * 4 + 1, none⟩ = some (.string t.name) ∧
   w.cell? ⟨b,off+k*4+2,none⟩=some (.int .i64 t.sort)/\w.cell? ⟨b,off+k*4+3,none⟩=some v/\At w S (terms t.args) v/\Hid (ts[k]? =some t)/\t.fits:=by
 have hn:n=ts.length:=by obtain⟨_,_,e,_⟩:=terms_slice h;injection e
 subst hn
 obtain⟨b,off,e,hs,hlt,hc⟩:=At.cellAt h (by rw[flat_len _ 4 Tm.cells_len];omega)
 have hf:ts[k]? =some ts[k]:=List.getElem?_eq_getElem hk
 have hat:∀j,j<4->(ts.flatMap Tm.cells)[k*4+j]? =(Tm.cells ts[k])[j]? :=fun j hj=>by
  rw[flat_at _ 4 Tm.cells_len _ _ _ hj,hf];rfl
 obtain⟨u0,hu0,ha0⟩:=hc (k*4+0) _ (hat 0 (by omega))
 obtain⟨u1,hu1,ha1⟩:=hc (k*4+1) _ (hat 1 (by omega))
 obtain⟨u2,hu2,ha2⟩:=hc (k*4+2) _ (hat 2 (by omega))
 obtain⟨u3,hu3,ha3⟩:=hc (k*4+3) _ (hat 3 (by omega))
 obtain⟨rfl,w0⟩:=at_lit.1 ha0
 obtain⟨rfl,w1⟩:=at_lit.1 ha1
 obtain⟨rfl,w2⟩:=at_lit.1 ha2
 rw[Tm.d_eq]at ha3
 have w1':ts[k].name.size<=9223372036854775807:=by simp only[okLit,maxLen]at w1;omega
 exact⟨b,off,ts[k],u3,e,hs,hlt,hu0,hu1,hu2,hu3,ha3,hf,(wf_bounds w0).1,(wf_bounds w0).2,w1',(wf_bounds w2).1,(wf_bounds w2).2⟩
theorem terms_mk {w:World} {S:Nat->Prop} {ts:List Tm} {A:Option Addr} {c:Nat} (hn:ts.length<=c) (hc:c<=9223372036854775807)
  (h : 0 < ts.length → ∃ b off, A = some ⟨b, off, none⟩ ∧ S b ∧ ∀ k t, ts[k]? = some t → ∃ v, w.cell? ⟨b, off + k * 4, none⟩ = some (.int .i64 t.op) ∧ w.cell? ⟨b, off + k * 4 + 1, none⟩ = some (.string t.name) ∧
   w.cell? ⟨b,off+k*4+2,none⟩=some (.int .i64 t.sort)/\w.cell? ⟨b,off+k*4+3,none⟩=some v/\At w S (terms t.args) v/\t.fits):
  At w S (terms ts) (.slice A ts.length c):=by
 refine at_row.2 ⟨A,c,rfl,hn,hc,fun hp=> ?_⟩
 rw[flat_len _ 4 Tm.cells_len]at hp
 obtain⟨b,off,e,hs,hk⟩:=h (by omega)
 refine⟨b,off,e,hs,fun j hj=> ?_⟩
 have hj':j<ts.length*4:=by rw[flat_len _ 4 Tm.cells_len]at hj;exact hj
 have hq:j / 4<ts.length:=by omega
 obtain⟨v,c0,c1,c2,c3,ha,w0,w1,w2,w3,w4⟩:=hk (j / 4) ts[j / 4] (List.getElem?_eq_getElem hq)
 have hat:(ts.flatMap Tm.cells)[j]? =(Tm.cells ts[j / 4])[j%4]? :=by
  have:=flat_at Tm.cells 4 Tm.cells_len ts (j / 4) (j%4) (by omega)
  rw[show j / 4*4+j%4=j by omega,List.getElem?_eq_getElem hq]at this
  exact this
 rw[List.getElem?_eq_getElem hj]at hat
 have h4:j%4=0\/j%4=1\/j%4=2\/j%4=3:=by omega
 rcases h4 with h4|h4|h4|h4
 ·rw[h4]at hat
  simp only[Tm.cells,List.getElem?_cons_zero,Option.some.injEq]at hat
  rw[hat]
  exact⟨_,by rw[show off+j=off+j / 4*4 by omega];exact c0,at_lit.2 ⟨rfl,WalkArith.wf_i64 ⟨w0,w1⟩⟩⟩
 ·rw[h4]at hat
  simp only[Tm.cells,List.getElem?_cons_zero,List.getElem?_cons_succ,Option.some.injEq]at hat
  rw[hat]
  exact⟨_,by rw[show off+j=off+j / 4*4+1 by omega];exact c1,at_lit.2 ⟨rfl,by simp only[okLit,maxLen];omega⟩⟩
 ·rw[h4]at hat
  simp only[Tm.cells,List.getElem?_cons_zero,List.getElem?_cons_succ,Option.some.injEq]at hat
  rw[hat]
  exact⟨_,by rw[show off+j=off+j / 4*4+2 by omega];exact c2,at_lit.2 ⟨rfl,WalkArith.wf_i64 ⟨w3,w4⟩⟩⟩
 ·rw[h4]at hat
  simp only[Tm.cells,List.getElem?_cons_zero,List.getElem?_cons_succ,Option.some.injEq]at hat
  rw[hat,Tm.d_eq]
  exact⟨_,by rw[show off+j=off+j / 4*4+3 by omega];exact c3,ha⟩
def Tm.total (t:Tm):Nat:=
 match t with
 |⟨_,n,_,args⟩=>n.size+(args.length+(args.attach.map fun⟨x,_⟩=>Tm.total x).sum)
termination_by t
decreasing_by
 rename_i hx
 have:=List.sizeOf_lt_of_mem hx
 simp only[Tm.mk.sizeOf_spec]
 omega
def tmTotals (ts:List Tm):Nat:=ts.length+(ts.map Tm.total).sum
theorem Tm.total_eq (t:Tm):t.total=t.name.size+tmTotals t.args:=by
 obtain⟨o,n,s,args⟩:=t
 rw[Tm.total]
 show _=n.size+(args.length+(args.map Tm.total).sum)
 congr 2
 have:(fun(x:{x // x∈args})=>match x with|⟨x,_⟩=>Tm.total x)=fun x:{x // x∈args}=>Tm.total x.1:=by
  funext x;rfl
 rw[this]
 conv=>rhs;rw[<-List.attach_map_subtype_val args,List.map_map]
 rfl
def sumOf {α:Type} (f:α->Nat) (l:List α) (k:Nat):Nat:=((l.take k).map f).sum
theorem sumOf_succ {α:Type} {f:α->Nat} {l:List α} {k:Nat} {x:α} (h:l[k]? =some x):sumOf f l (k+1)=sumOf f l k+f x:=by
 obtain⟨h1,rfl⟩:=List.getElem?_eq_some_iff.1 h
 unfold sumOf
 rw[List.take_succ_eq_append_getElem h1]
 simp only[List.map_append,List.map_cons,List.map_nil,List.sum_append,List.sum_cons,List.sum_nil,Nat.add_zero]
theorem sumOf_le {α:Type} (f:α->Nat) (l:List α) (k:Nat):sumOf f l k<=(l.map f).sum:=by
 unfold sumOf
 conv=>rhs;rw[<-List.take_append_drop k l]
 rw[List.map_append,List.sum_append]
 omega
theorem sumOf_all {α:Type} (f:α->Nat) (l:List α):sumOf f l l.length=(l.map f).sum:=by unfold sumOf;rw[List.take_length]
theorem sumOf_zero {α:Type} (f:α->Nat) (l:List α):sumOf f l 0=0:=by simp[sumOf]
theorem le_sum_of_mem {α:Type} {f:α->Nat} {l:List α} {x:α} (h:x∈l):f x<=(l.map f).sum:=by
 induction l with
 |nil=>cases h
 | cons a l ih =>
  rw[List.map_cons,List.sum_cons]
  rcases List.mem_cons.1 h with rfl|h
  ·omega
  ·have:=ih h;omega
def rows (xss:List (List Int)):D:=.row xss.length (xss.map ints)
theorem rows_slice {w:World} {S:Nat->Prop} {xss:List (List Int)} {v:Value} (h:At w S (rows xss) v):∃A c,v= .slice A xss.length c/\xss.length<=c/\c<=9223372036854775807:=h.slice
theorem rows_get {w:World} {S:Nat->Prop} {xss:List (List Int)} {A:Option Addr} {n c k:Nat} (h:At w S (rows xss) (.slice A n c)) (hk:k<xss.length):
  ∃b off xs v,A=some ⟨b,off,none⟩/\S b/\b<w.heap.size/\w.cell? ⟨b,off+k,none⟩=some v/\At w S (ints xs) v/\Hid (xss[k]? =some xs):=by
 have hn:n=xss.length:=by obtain⟨_,_,e,_⟩:=rows_slice h;injection e
 subst hn
 obtain⟨b,off,e,hs,hlt,hc⟩:=At.cellAt h (by simp;omega)
 obtain⟨u,hu,ha⟩:=hc k (ints xss[k]) (by simp[hk])
 exact⟨b,off,xss[k],u,e,hs,hlt,hu,ha,List.getElem?_eq_getElem hk⟩
theorem rows_mk {w:World} {S:Nat->Prop} {xss:List (List Int)} {A:Option Addr} {c:Nat} (hn:xss.length<=c) (hc:c<=9223372036854775807)
  (h:0<xss.length->∃b off,A=some ⟨b,off,none⟩/\S b/\∀k xs,xss[k]? =some xs->∃v,w.cell? ⟨b,off+k,none⟩=some v/\At w S (ints xs) v):
  At w S (rows xss) (.slice A xss.length c):=by
 refine at_row.2 ⟨A,c,rfl,hn,hc,fun hp=> ?_⟩
 obtain⟨b,off,e,hs,hk⟩:=h (by simpa using hp)
 refine⟨b,off,e,hs,fun k hlt=> ?_⟩
 have hlt':k<xss.length:=by simpa using hlt
 obtain⟨v,h1,h2⟩:=hk k xss[k] (List.getElem?_eq_getElem hlt')
 exact⟨v,h1,by simpa using h2⟩
def rowTotals (xss:List (List Int)):Nat:=xss.length+(xss.map List.length).sum
end Go.Proofs.Ytagnfckihdlhpaa

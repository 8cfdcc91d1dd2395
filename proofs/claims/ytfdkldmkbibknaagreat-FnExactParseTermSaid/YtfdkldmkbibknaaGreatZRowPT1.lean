/-
  Texts that the claim rests on, merged: Data, FormData.
-/
import Derived.WalkKit
import Derived.Lib.Hide
import Derived.Test.YtfdkldmkbibknaaGreatZRowPT0

namespace Go.Proofs.YtfdkldmkbibknaaGreat
open Go.RowKit
structure D where
 val:Option Value
 num:Nat
 cells:List D
def D.lit (u:Value):D:=⟨some u,0,[]⟩
def D.row (n:Nat) (cs:List D):D:=⟨none,n,cs⟩
def okLit :Value->Prop
 | .int k n=>(Lit.int k n).wf=true
 | .string s=>s.size<=maxLen
 |_=>True
def At (w:World) (S:Nat->Prop) (d:D) (v:Value):Prop:=
 match d with
 |⟨some u,_,_⟩=>v=u/\okLit u
 | ⟨none, n, cs⟩ => ∃ A c, v = .slice A n c ∧ n ≤ c ∧ c ≤ 9223372036854775807 ∧
   (0<cs.length->∃b off,A=some ⟨b,off,none⟩/\S b/\∀k,(h:k<cs.length)->∃u,w.cell? ⟨b,off+k,none⟩=some u/\At w S cs[k] u)
termination_by d
decreasing_by
 have hx:=List.sizeOf_lt_of_mem (gM h)
 simp only[D.mk.sizeOf_spec]
 omega
theorem at_lit {w:World} {S:Nat->Prop} {u v:Value}:At w S (.lit u) v↔(v=u/\okLit u):=by unfold D.lit;rw[At]
theorem at_row {w:World} {S:Nat->Prop} {n:Nat} {cs:List D} {v:Value}:At w S (.row n cs) v↔(∃A c,v= .slice A n c/\n<=c/\c<=9223372036854775807/\
   (0<cs.length->∃b off,A=some ⟨b,off,none⟩/\S b/\∀k,(h:k<cs.length)->∃u,w.cell? ⟨b,off+k,none⟩=some u/\At w S cs[k] u)):=by
 unfold D.row;rw[At]
theorem D.cases (d:D):(∃u n cs,d=⟨some u,n,cs⟩)\/(∃n cs,d= .row n cs):=by
 rcases d with⟨_|u,n,cs⟩
 ·exact .inr ⟨n,cs,rfl⟩
 ·exact .inl ⟨u,n,cs,rfl⟩
theorem D.induct {p:D->Prop} (hl:∀u n cs,p ⟨some u,n,cs⟩) (hr:∀n cs,(∀k,(h:k<cs.length)->p cs[k])->p (.row n cs)) (d:D):p d:=by
 match d with
 |⟨some u,n,cs⟩=>exact hl u n cs
 |⟨none,n,cs⟩=>exact hr n cs λk h=>D.induct hl hr cs[k]
termination_by d
decreasing_by
 have hx:=List.sizeOf_lt_of_mem (gM h)
 simp only[D.mk.sizeOf_spec]
 omega
theorem At.keep {w w':World} {S S':Nat->Prop} (hk:∀b o,S b->b<w.heap.size->w'.cell? ⟨b,o,none⟩=w.cell? ⟨b,o,none⟩) (hS:∀b,S b->b<w.heap.size->S' b) {d:D}:
  ∀{v:Value},At w S d v->At w' S' d v:=by
 induction d using D.induct with
 | hl u n cs =>
  intro v h
  rw[At]at h ⊢
  exact h
 | hr n cs ih =>
  intro v h
  rw[at_row]at h ⊢
  obtain⟨A,c,h1,h2,h3,h4⟩:=h
  refine⟨A,c,h1,h2,h3,λhp=> ?_⟩
  obtain⟨b,off,e,hs,hc⟩:=h4 hp
  have hlt:b<w.heap.size:=by
   obtain⟨u,hu,_⟩:=hc 0 hp
   exact World.block_lt_of_cell? w _ hu
  refine⟨b,off,e,hS b hs hlt,λk hk'=> ?_⟩
  obtain⟨u,hu,hat⟩:=hc k hk'
  exact⟨u,by rw[hk b _ hs hlt];exact hu,ih k hk' hat⟩
def Old (w:World):Nat->Prop:=λb=>b<w.heap.size
def From (B:Nat):Nat->Prop:=λb=>B<=b
def Any :Nat->Prop:=λ_=>True
theorem At.below {w w':World} {S:Nat->Prop} {d:D} {v:Value} (h:At w S d v) (hb:Below w.heap.size w w'):At w' S d v:=
 h.keep (λb o _ hlt=>hb.cell (p:=⟨b,o,none⟩) hlt) (λ_ h _=>h)
theorem At.mono {w:World} {S S':Nat->Prop} {d:D} {v:Value} (h:At w S d v) (hS:∀b,S b->b<w.heap.size->S' b):At w S' d v:=
 h.keep (λ_ _ _ _=>rfl) hS
theorem At.any {w:World} {S:Nat->Prop} {d:D} {v:Value} (h:At w S d v):At w Any d v:=h.mono λ_ _ _=>trivial
theorem At.old {w:World} {S:Nat->Prop} {d:D} {v:Value} (h:At w S d v):At w (Old w) d v:=h.mono λ_ _ h=>h
theorem At.alloc {w:World} {S:Nat->Prop} {d:D} {v:Value} (h:At w S d v) (o:Obj):At (w.alloc o) S d v:=h.below ((Below.refl _ _).alloc (Nat.le_refl _) _)
theorem At.drew {w:World} {S:Nat->Prop} {d:D} {v:Value} (h:At w S d v):At w.drew S d v:=h.below (Below.refl _ _).drew
theorem At.setCell {w:World} {S:Nat->Prop} {d:D} {v:Value} (h:At w S d v) {p:Addr} (hp:¬S p.block) (u:Value):At (w.setCell p u) S d v:=
 h.keep (λb o hb _=>World.cell?_setCell_other w p ⟨b,o,none⟩ u (λe=>by subst e;exact hp hb)) (λ_ h _=>h)
theorem At.slice {w:World} {S:Nat->Prop} {n:Nat} {cs:List D} {v:Value} (h:At w S (.row n cs) v):∃A c,v= .slice A n c/\n<=c/\c<=9223372036854775807:=by
 obtain⟨A,c,h1,h2,h3,_⟩:=at_row.1 h
 exact⟨A,c,h1,h2,h3⟩
theorem At.cellAt {w:World} {S:Nat->Prop} {n c:Nat} {cs:List D} {A:Option Addr} (h:At w S (.row n cs) (.slice A n c)) (hp:0<cs.length):
  ∃b off,A=some ⟨b,off,none⟩/\S b/\b<w.heap.size/\∀(k:Nat) (d:D),cs[k]? =some d->∃u,w.cell? ⟨b,off+k,none⟩=some u/\At w S d u:=by
 obtain⟨A',c',h1,_,_,h4⟩:=at_row.1 h
 obtain⟨rfl,_,rfl⟩:A=A'/\n=n/\c=c':=by injection h1 with a b c;exact⟨a,b,c⟩
 obtain⟨b,off,e,hs,hc⟩:=h4 hp
 refine⟨b,off,e,hs,?_,λk d hd=> ?_⟩
 ·obtain⟨u,hu,_⟩:=hc 0 hp
  exact World.block_lt_of_cell? w _ hu
 ·obtain⟨hk,rfl⟩:=gI.1 hd
  exact hc k hk
def Blk (w:World) (g:Nat) (t:TypeId) (cs:Array Value):Prop:=w.heap[g]? =some (.cells cs t (0,0))
theorem Blk.lt {w:World} {g:Nat} {t:TypeId} {cs:Array Value} (h:Blk w g t cs):g<w.heap.size:=by
 rcases Nat.lt_or_ge g w.heap.size with hlt|hge
 ·exact hlt
 ·unfold Blk at h;rw[Array.getElem?_eq_none hge]at h;cases h
theorem Blk.cell {w:World} {g:Nat} {t:TypeId} {cs:Array Value} (h:Blk w g t cs) (i:Nat):w.cell? ⟨g,i,none⟩=cs[i]? :=cell_of_row w g i cs t (0,0) h
theorem Blk.frozen {w:World} {g:Nat} {t:TypeId} {cs:Array Value} (h:Blk w g t cs) (i:Nat):w.frozen? ⟨g,i,none⟩=false:=by
 unfold Blk at h
 simp[World.frozen?,h]
theorem Blk.new (w:World) (t:TypeId) (cs:Array Value):Blk (w.alloc (.cells cs t)) w.heap.size t cs:=heap_alloc_new w _
theorem Blk.alloc {w:World} {g:Nat} {t:TypeId} {cs:Array Value} (h:Blk w g t cs) (o:Obj):Blk (w.alloc o) g t cs:=(Below.heap_alloc w o g h.lt).trans h
theorem Blk.set_ {w:World} {g:Nat} {t:TypeId} {cs:Array Value} (h:Blk w g t cs) (i:Nat) (u:Value):Blk (w.setCell ⟨g,i,none⟩ u) g t (cs.setIfInBounds i u):=by
 unfold Blk at h ⊢
 simp[World.setCell,Array.getElem?_modify,h]
theorem Blk.below {w w':World} {g:Nat} {t:TypeId} {cs:Array Value} {B:Nat} (h:Blk w g t cs) (hb:Below B w w') (hg:g<B):Blk w' g t cs:=(hb.block g hg).trans h
theorem Blk.c2 {w:World} {g:Nat} {t:TypeId} {a b:Value} (h:Blk w g t #[a,b]):w.cell? ⟨g,0,none⟩=some a/\w.cell? ⟨g,1,none⟩=some b:=⟨h.cell 0,h.cell 1⟩
theorem Blk.c3 {w:World} {g:Nat} {t:TypeId} {a b c:Value} (h:Blk w g t #[a,b,c]):w.cell? ⟨g,0,none⟩=some a/\w.cell? ⟨g,1,none⟩=some b/\w.cell? ⟨g,2,none⟩=some c:=⟨h.cell 0,h.cell 1,h.cell 2⟩
theorem Blk.next {w w':World} {g:Nat} {t:TypeId} {cs:Array Value} (h:Blk w g t cs) (hb:Below w.heap.size w w'):Blk w' g t cs:=h.below hb h.lt
theorem bcell {W w1:World} (hb:Below W.heap.size W w1):(∀b o,b<W.heap.size->w1.cell? ⟨b,o,none⟩=W.cell? ⟨b,o,none⟩)/\(∀b o,b<W.heap.size->w1.frozen? ⟨b,o,none⟩=W.frozen? ⟨b,o,none⟩):=
 ⟨λb o h=>hb.cell (p:=⟨b,o,none⟩) h,λb o h=>hb.frozen (p:=⟨b,o,none⟩) h⟩
theorem flat_at {α β:Type} (f:α->List β) (s:Nat) (hs:∀a,(f a).length=s) (l:List α) (i j:Nat) (hj:j<s):(l.flatMap f)[i*s+j]? =l[i]?.bind λa=>(f a)[j]? :=by
 induction l generalizing i with
 |nil=>simp
 | cons a l ih =>
  rw[List.flatMap_cons]
  cases i with
  |zero=>simp[aL (show j<(f a).length by rw[hs];exact hj)]
  | succ i =>
   have e:(i+1)*s+j=s+(i*s+j):=by rw[Nat.add_mul];omega
   rw[e,aR (by rw[hs];omega),hs,Nat.add_sub_cancel_left]
   simpa using ih i
theorem flat_len {α β:Type} (f:α->List β) (s:Nat) (hs:∀a,(f a).length=s) (l:List α):(l.flatMap f).length=l.length*s:=by
 induction l with
 |nil=>simp
 |cons a l ih=>rw[List.flatMap_cons,List.length_append,hs,ih,List.length_cons,Nat.add_mul];omega
def ints (xs:List Int):D:=.row xs.length (xs.map λx=>.lit (.int .i64 x))
theorem ints_slice {w:World} {S:Nat->Prop} {xs:List Int} {v:Value} (h:At w S (ints xs) v):∃A c,v= .slice A xs.length c/\xs.length<=c/\c<=9223372036854775807:=h.slice
theorem ints_at {w:World} {S:Nat->Prop} {xs:List Int} {A:Option Addr} {n c:Nat} (h:At w S (ints xs) (.slice A n c)) (hp:0<xs.length):
  ∃b off,A=some ⟨b,off,none⟩/\S b/\b<w.heap.size/\∀(k:Nat),k<xs.length->w.cell? ⟨b,off+k,none⟩=some (.int .i64 (xs.getD k 0))/\(Lit.int .i64 (xs.getD k 0)).wf=true:=by
 have hn:n=xs.length:=by obtain⟨_,_,e,_⟩:=ints_slice h;injection e
 subst hn
 obtain⟨b,off,e,hs,hlt,hc⟩:=At.cellAt h (by simpa using hp)
 refine⟨b,off,e,hs,hlt,λk hk=> ?_⟩
 obtain⟨u,hu,ha⟩:=hc k (.lit (.int .i64 (xs.getD k 0))) (by simp[List.getD,hk])
 obtain⟨rfl,hok⟩:=at_lit.1 ha
 exact⟨hu,hok⟩
theorem wf_bounds {n:Int} (h:(Lit.int .i64 n).wf=true): -9223372036854775808<=n/\n<=9223372036854775807:=by
 simp[Lit.wf,IntKind.min,IntKind.max,IntKind.signed,IntKind.bits]at h
 omega
theorem ints_get {w:World} {S:Nat->Prop} {xs:List Int} {A:Option Addr} {n c k:Nat} (h:At w S (ints xs) (.slice A n c)) (hk:k<xs.length):
  ∃b off x,A=some ⟨b,off,none⟩/\S b/\b<w.heap.size/\w.cell? ⟨b,off+k,none⟩=some (.int .i64 x)/\Hid (xs[k]? =some x)/\ -9223372036854775808<=x/\x<=9223372036854775807:=by
 obtain⟨b,off,e,hs,hlt,hc⟩:=ints_at h (by omega)
 obtain⟨h1,h2⟩:=hc k hk
 refine⟨b,off,xs.getD k 0,e,hs,hlt,h1,?_,?_⟩
 ·show xs[k]? =_
  simp[List.getD,hk]
 ·exact wf_bounds h2
theorem ints_mk {w:World} {S:Nat->Prop} {xs:List Int} {A:Option Addr} {c:Nat} (hn:xs.length<=c) (hc:c<=9223372036854775807)
  (h:0<xs.length->∃b off,A=some ⟨b,off,none⟩/\S b/\∀k,k<xs.length->w.cell? ⟨b,off+k,none⟩=some (.int .i64 (xs.getD k 0))/\(Lit.int .i64 (xs.getD k 0)).wf=true):
  At w S (ints xs) (.slice A xs.length c):=by
 refine at_row.2 ⟨A,c,rfl,hn,hc,λhp=> ?_⟩
 obtain⟨b,off,e,hs,hk⟩:=h (by simpa using hp)
 refine⟨b,off,e,hs,λk hlt=> ?_⟩
 have hlt':k<xs.length:=by simpa using hlt
 obtain⟨h1,h2⟩:=hk k hlt'
 refine⟨_,h1,?_⟩
 simp only[List.getElem_map]
 refine at_lit.2 ⟨?_,?_⟩
 ·simp[List.getD,hlt']
 ·have e2:xs[k]=xs.getD k 0:=by simp[List.getD,hlt']
  rw[e2];exact h2
theorem make_rowN {P:Program} (t e:TypeId) (z:Value) (size bytes:Nat) (ht:P.underlying t=some (.slice e)) (hinfo:(P.info? e).map (λi=>(i.zero,i.size,i.bytes))=some (some z,size,bytes))
  (n:Nat) (hbytes:bytes*n<=281474976710656) (h63:n<=9223372036854775807) (w:World):
  (Instr.makeSlice t (.int .i64 (n:Int)) (.int .i64 (n:Int))).run P w= .ok (.slice (some ⟨w.heap.size,0,none⟩) n n) (w.alloc (.cells (madeCells z.cells (n*size)) e)):=by
 obtain⟨i,hi,hzz⟩:=Option.map_eq_some_iff.1 hinfo
 simp only[Prod.mk.injEq]at hzz
 obtain⟨hz,hs,hb⟩:=hzz
 have hb':(i.bytes:Int)*(n:Int)<=281474976710656:=by
  have h:((i.bytes*n:Nat):Int)<=281474976710656:=by rw[hb];omega
  rwa [Int.natCast_mul]at h
 have hr:=run_make (P:=P) w t e i z ht hi hz .i64 .i64 n n (by omega) (by omega) hb' (by omega)
 simp only[Int.toNat_natCast,hs]at hr
 exact hr
structure Fm where
 kind:Int
 prop:Int
 kids:List Fm
def Fm.d (f:Fm):D:=
 match f with
 |⟨_,_,kids⟩=>.row kids.length (kids.attach.flatMap λ⟨x,_⟩=>[.lit (.int .i64 x.kind),.lit (.int .i64 x.prop),Fm.d x])
termination_by f
decreasing_by
 rename_i hx
 have:=List.sizeOf_lt_of_mem hx
 simp only[Fm.mk.sizeOf_spec]
 omega
end Go.Proofs.YtfdkldmkbibknaaGreat

/- merged -/
import Derived.Deep.AppendLies
import Derived.Maps.AppendAt
import Derived.Deep.RegionHeld3
import Derived.Deep.CutRange
import Derived.Test.YtigoabbppmdfpaaGreatZRowPE8
import Derived.Test.YtigoabbppmdfpaaGreatZRowPE25
import Derived.Test.YtigoabbppmdfpaaGreatZRowPE26

namespace Go.Proofs.YtigoabbppmdfpaaGreat
open Go.RowKit
theorem Tryz.infoTermI:(Tryz.prog.info? 32).map (λi=>(i.zero,i.size,i.bytes))=some (some (.agg #[.int .i64 0,.string ⟨#[]⟩,.int .i64 0,.slice none 0 0]),4,56):=F1
theorem co.setCell{w:World}{ts:RV Tm}{S:Nat->Prop}{v:Value}(h:co w ts S v){p:Addr}(hp:¬S p.block)(u:Value):co (w.setCell p u) ts S v:=h.aB λx o hx=>World.cell?_setCell_other w p ⟨x,o,none⟩ u (λe=>by subst e;exact hp hx)
theorem cR.setCell{w:World}{S:Nat->Prop}(h:cR S w)(p:Addr)(u:Value):cR S (w.setCell p u):=λb hb=>⟨by rw[World.size_setCell];exact(h b hb).1,λo=>(World.frozen?_setCell _ _ _ _).trans ((h b hb).2 o)⟩
def CopT(t:Tm):Prop:=∀(w:World)(S:Nat->Prop)(v:Value),At w S (cw t.ac) v->ap t.ac<=1048576->
  Calls Tryz.prog 107 #[.agg #[.int .i64 t.op,.string t.ae,.int .i64 t.ag,v]] w λe w'=>∃d T,e= .returned (.agg #[.int .i64 t.op,.string t.ae,.int .i64 t.ag,d])/\(∀x,T x->w.heap.size<=x)/\cR T w'/\co w' t.ac T d/\Below w.heap.size w w'
structure pR(w:World)(B:Nat)(kv:Value)(j:Nat)(ts:List Tm)(vs:List Value)(U:Nat->Value)(T:Nat->Nat->Prop):Prop where
 own:w.ownsRow B 32 4 kv j vs
 cells:∀(k:Nat)(t:Tm),k<j->ts[k]?=some t->vs[k*4]? =some (.int .i64 t.op)/\vs[k*4+1]? =some (.string t.ae)/\vs[k*4+2]? =some (.int .i64 t.ag)/\vs[k*4+3]? =some (U k)
 sep:∀(k:Nat)(t:Tm),k<j->ts[k]?=some t->co w t.ac (T k) (U k)
 from_:∀k x,k<j->T k x->B<=x/\some x≠kv.ownBlock
 soft:∀k,k<j->cR (T k) w
 dis:∀i k x,i<k->k<j->T i x->¬T k x
theorem pR.below{w w':World}{B:Nat}{d:Value}{j:Nat}{ts:RV Tm}{vs:RV Value}{U:Nat->Value}{T:Nat->Nat->Prop}(h:pR w B d j ts vs U T)(hb:Below w.heap.size w w'):pR w' B d j ts vs U T where
 own:=by
  have v:w.grownBy w' none:=⟨hb.os,hb.tape,hb.output,hb.size,λk hk _=>hb.block k hk⟩;refine h.own.kept v ?_;cases d.ownBlock with
  |none=>exact RS
  |some b=>exact .inr C3
 cells:=h.cells
 sep:=λk t hk ht=>(h.sep k t hk ht).nx hb λx hx=>(h.soft k hk x hx).1
 from_:=h.from_
 soft:=λk hk=>(h.soft k hk).bU (bt.eS (S:=T k) hb)
 dis:=h.dis
theorem pR.step{v y:World}{B:Nat}{w:Value}{j:Nat}{ts:RV Tm}{vs:RV Value}{U:Nat->Value}{T:Nat->Nat->Prop}{t:Tm}{u:Value}{S:Nat->Prop}{g cap H:Nat}(h:pR v B w j ts vs U T)(L:B<=H)
  (ht:ts[j]?=some t) (hs:co v t.ac S u) (hS:∀x,S x->B<=x/\some x≠w.ownBlock) (F:cR S v) (hd:∀k x,k<j->T k x->¬S x)
  (A:y.ownsRow B 32 4 (.slice (some ⟨g,0,none⟩) (j+1) cap) (j+1) (vs++[.int .i64 t.op,.string t.ae,.int .i64 t.ag,u])) (C:v.grownBy y w.ownBlock) (G:w.ownBlock=some g\/g=H) (M:v.heap.size=H):
  pR y B (.slice (some ⟨g,0,none⟩) (j+1) cap) (j+1) ts (vs++[.int .i64 t.op,.string t.ae,.int .i64 t.ag,u]) (λk=>if k=j then u else U k) (λk=>if k=j then S else T k):=by
 have hl:vs.length=j*4:=h.own.1
 have ne:∀{x:Nat}{R:Nat->Prop},R x->cR R v->some x≠w.ownBlock->x≠g:=λ{x R} hx E hk e=>by
  subst e;rcases G with e|e
  .exact hk e.symm
  .have:=(E x hx).1;omega
 have aB:∀{a:RV Tm}{R:Nat->Prop}{z:Value},co v a R z->(∀x,R x->some x≠w.ownBlock)->cR R v->co y a R z/\cR R y:=λ{a R z} K E d=>
  ⟨K.aB λx o hx=>World.cell?_of_block (C.block x (d x hx).1 (E x hx)),λx hx=>⟨NV (d x hx).1 C.size,λo=>(World.frozen?_of_block (C.block x (d x hx).1 (E x hx))).trans ((d x hx).2 o)⟩⟩
 refine⟨A,λk q hk I=> ?_,λk q hk I=> ?_,λk x hk hx=> ?_,λk hk=> ?_,λi k x J hk hx=> ?_⟩
 .by_cases e:k=j
  .simp_all
  .rw[N3 e];obtain⟨N,c1,c2,c3⟩:=h.cells k q A1 I;refine⟨?_,?_,?_,?_⟩<;>(rw[aL A1];assumption)
 .by_cases e:k=j
  .grind
  .rw[N3 e,N3 e];exact(aB (h.sep k q A1 I) (λx hx=>(h.from_ k x A1 hx).2) (h.soft k A1)).1
 .have key:∀{R:Nat->Prop},R x->cR R v->B<=x/\some x≠w.ownBlock->B<=x/\some x≠(Value.slice (some ⟨g,0,none⟩) (j+1) cap).ownBlock:=λ{R} hx d h0=>⟨h0.1,λe=>by
   simp only[Value.ownBlock,NQ]at e;exact ne hx d h0.2 e⟩
  by_cases e:k=j
  .grind
  .rw[N3 e]at hx;exact key hx (h.soft k A1) (h.from_ k x A1 hx)
 .by_cases e:k=j
  .grind
  .rw[N3 e];have D:k<j:=A1
   intro x hx;have h1:=h.soft k D x hx;have h2:=(h.from_ k x D hx).2;exact⟨NV h1.1 C.size,λo=>(World.frozen?_of_block (C.block x h1.1 h2)).trans (h1.2 o)⟩
 .rw[N3 (A1:i≠j)]at hx;by_cases e:k=j
  .grind
  .rw[N3 e];exact h.dis i k x J A1 hx
theorem pR.done{w:World}{B:Nat}{j:Value}{ts:RV Tm}{vs:RV Value}{U:Nat->Value}{T:Nat->Nat->Prop}(h:pR w B j ts.length ts vs U T)(D:∀t∈ts,t.fits):
  ∃S,(∀x,S x->B<=x)/\cR S w/\co w ts S j:=by
 have I:ts=[]->j= .slice none 0 0->∃S,(∀x,S x->B<=x)/\cR S w/\co w ts S j:=λv y=>by
  subst v y;exact⟨λ_=>False,λ_ h=>h.elim,λ_ h=>h.elim,.nil A1⟩
 rcases h.own.2 with⟨v,y⟩|⟨g,cap,cur,v,y,C,E,F,J,G⟩
 .grind
 .have hlt:g<w.heap.size:=Hd
  have hl:vs.length=ts.length*4:=h.own.1;have d:∀m u,vs[m]? =some u->w.cell? ⟨g,m,none⟩=some u:=λm u hm=>by
   have h1:m<vs.length:=(gI.1 hm).1;rw[cell_of_row w g m cur 32 (0,0) C,<-OS];rw[<-G,PK]at hm;split at hm
   .exact hm
   .cases hm
  refine⟨λx=>x=g\/∃k,k<ts.length/\T k x,λx hx=> ?_,λx hx=> ?_,?_⟩
  .rcases hx with rfl|⟨k,hk,hx⟩
   .exact y
   .exact(h.from_ k x hk hx).1
  .rcases hx with rfl|⟨k,hk,hx⟩
   .exact⟨hlt,λo=>by simp[World.frozen?,C]⟩
   .exact h.soft k hk x hx
  .subst v;refine .row (U:=U) (T:=T) (off:=0) E (by simp only[maxLen]at F;omega) (.inl rfl) (λk x hk hx=>⟨.inr ⟨k,hk,hx⟩,λe=>(h.from_ k x hk hx).2 (by rw[e];rfl)⟩) (λi k x A hk hx=>h.dis i k x A hk hx) (λk t ht=> ?_) (λk t ht=>h.sep k t (gI.1 ht).1 ht);have hk:=(gI.1 ht).1;obtain⟨H,c1,c2,c3⟩:=h.cells k t hk ht;rw[Ou];exact⟨d _ _ H,d _ _ c1,d _ _ c2,d _ _ c3,D t (mG ht)⟩
theorem pR.nil(w:World)(B:Nat)(ts:RV Tm):pR w B (.slice none 0 0) 0 ts [] (λ_=>undef) (λ_ _=>False):=⟨World.ownsRow_nil _ _ _ _,λ_ _ h=>A1,λ_ _ h=>A1,λ_ _ h=>A1,λ_ h=>A1,λ_ _ _ _ h=>A1⟩
set_option maxRecDepth 20000 in
set_option maxHeartbeats 2000000 in
theorem wa(ts:RV Tm)(ih:∀x∈ts,CopT x)(w:World)(S:Nat->Prop)(v:Value)(h:At w S (cw ts) v)(h1:ap ts<=1048576):
  Calls Tryz.prog 147 #[v] w λe w'=>∃V T,e= .returned V/\(∀x,T x->w.heap.size<=x)/\cR T w'/\co w' ts T V/\Below w.heap.size w w':=by
 obtain⟨A,c,rfl,hn,hc⟩:=aI h;have IH:=Lib.hid ih;clear ih;unfold ap at h1;obtain⟨i0,W,X,Y,Z⟩:=info_parts Tryz.infoTermI
 go_enter Tryz.func147,Tryz.ntmps147
 go_wp2_with fail
 go_loopw [3,8] (λkv i wr=>∃(j:Nat)(vs:RV Value)(U:Nat->Value)(T:Nat->Nat->Prop),j<=ts.length/\i= .int .i64 j/\pR wr w.heap.size kv j ts vs U T/\Below w.heap.size w wr) (λ_ i _=>ts.length-(intOf i).toNat)
 case atStart=>exact⟨0,_,_,_,N9 _,rfl,pR.nil _ _ _,Below.refl _ _⟩
 case round=>
  obtain⟨j,vs,U,T,hj,rfl,K,hb⟩:=hrel;by_cases hlt:j<ts.length
  .obtain⟨b,off,t,u,rfl,_,hlb,hc1,hc2,hc3,hc4,L,HX,_⟩:=jm (h.below hb) hlt;obtain⟨Au,cu,rfl,hnu,hcu⟩:=aI L;have y:=mG HX.out;have hle:=iU (f:=Tm.az) y;have htt:=Tm.eV t;have B:=Lib.hid K;have HR:=Lib.hid (K.below ((Below.refl _ _).alloc (N4 _) (.cells #[.int .i64 t.op,.string t.ae,.int .i64 t.ag,.slice Au t.ac.length cu] 32)));clear K
   go_wp2_with fail
   refine(IH.out t y _ S _ (L.alloc _) A1).mono ?_;rintro e Q ⟨V,T1,rfl,M,C,ha,hb1⟩;obtain⟨I,J,rfl,hn',hc'⟩:=aI ha.at_;have N:=hb1.size;simp only[World.size_alloc]at N;have O:=HR.out.below hb1;have D:=O.below ((Below.refl _ _).alloc (N4 _) (.cells #[.int .i64 t.op,.string t.ae,.int .i64 t.ag,.slice I t.ac.length J] 32));have HR2:=Lib.hid D;have E:=D.own;have HA2:=Lib.hid (ha.nx ((Below.refl _ _).alloc (N4 _) (.cells #[.int .i64 t.op,.string t.ae,.int .i64 t.ag,.slice I t.ac.length J] 32)) λx hx=>(C x hx).1);have HS2:=Lib.hid (C.alloc (.cells #[.int .i64 t.op,.string t.ae,.int .i64 t.ag,.slice I t.ac.length J] 32));have HB:=Lib.hid ((hb.alloc hb.size (.cells #[.int .i64 t.op,.string t.ae,.int .i64 t.ag,.slice Au t.ac.length cu] 32)).trans (hb1.mono (by simp;have:=hb.size;omega)));have HT1:=Lib.hid M;have hwz:=hb.size;clear O D ha C HR M
   go_wp2_with (first
    |(at_builtin;refine wpList_append_lies _ rfl _ _ 30 rfl w.heap.size 32 i0 (.agg #[.int .i64 0,.string ⟨#[]⟩,.int .i64 0,.slice none 0 0]) 4 56 Tryz.underlying30 W X Y Z rfl D2 _ _ _ rfl E ⟨Q.heap.size,0,none⟩ 1 1 [.int .i64 t.op,.string t.ae,.int .i64 t.ag,.slice I t.ac.length J] rfl rfl ?c1 ?c2 A1 ?c3 ?c4 ?c5 (Q.heap.size+1) ?c6 ?_)
    |go_in)
   case c1=>exact World.news_of_block (Blk.new Q 32 #[.int .i64 t.op,.string t.ae,.int .i64 t.ag,.slice I t.ac.length J])
   case c2=>
    intro u L;simp only[Oz,Ps,or_false]at L;rcases L with rfl|rfl|rfl|rfl<;>rfl
   case c3=>unfold maxLen;omega
   case c4=>omega
   case c5=>rw[World.size_alloc];omega
   case c6=>rw[World.size_alloc]
   .intro g cap w3 F d hat hlt'
    go_wp2_with fail
    go_roundw
    case rel=>
     have G:∀x,T1 x->wr.heap.size+1<=x:=λx hx=>by have:=HT1.out x hx;rw[World.size_alloc]at this;exact this
     refine⟨j+1,_,_,_,A1,by go_num,HR2.out.step (S:=T1) (H:=Q.heap.size+1) A1 HX.out HA2.out (λx hx=>⟨by have:=G x hx;omega,λe=> ?_⟩) HS2.out (λk x hk hx hs=> ?_) F d hat (World.size_alloc _ _),?_⟩
     .have:=(B.out.own.lt x e.symm).2;have:=G x hx;omega
     .have:=(B.out.soft k hk x hx).1;have:=G x hs;omega
     .exact Below.grown (HB.out.alloc A1 _) d Qx (λk hk=>(B.out.own.lt k hk).1)
    case measure=>simp[intOf];omega
  .obtain rfl:j=ts.length:=A1
   obtain⟨R,r1,r2,r3⟩:=K.done λt ht=>by
    obtain⟨k,hk⟩:=List.mem_iff_getElem?.1 ht;obtain⟨_,_,t',_,_,_,_,_,_,_,_,_,hX,P⟩:=jm h (gI.1 hk).1;have e:=hX.out;rw[hk]at e;cases e;exact P
   clear K;have R1:=Lib.hid r1;have R2:=Lib.hid r2;have R3:=Lib.hid r3;clear r1 r2 r3;obtain⟨I,J,rfl,_,_⟩:=aI R3.out.at_
   go_wp2_with fail
   go_ret
   exact⟨_,R,rfl,R1.out,R2.out,R3.out,hb⟩
set_option maxHeartbeats 400000 in
theorem vu(t:Tm):CopT t:=by
 induction t using Tm.induct with
 | h o n s ac E=>
  intro w S v h h1;have K:=Lib.hid E;clear E;obtain⟨A,c,rfl,R,hc⟩:=aI h;have d:=Lib.hid ((Blk.new w 32 #[.int .i64 o,.string n,.int .i64 s,.slice A ac.length c]).alloc (.cells #[.int .i64 0,.string ⟨#[]⟩,.int .i64 0,.slice none 0 0] 32));have B1:=Lib.hid (Blk.new (w.alloc (.cells #[.int .i64 o,.string n,.int .i64 s,.slice A ac.length c] 32)) 32 #[.int .i64 0,.string ⟨#[]⟩,.int .i64 0,.slice none 0 0]);simp only[World.size_alloc]at B1
  go_enter Tryz.func107,Tryz.ntmps107
  go_wp2_with fail
  refine(wa ac K.out _ S _ ((h.alloc _).alloc _) h1).mono ?_;rintro e U ⟨V,T,rfl,F,j,C,hb⟩;obtain⟨L,M,rfl,N,O⟩:=aI C.at_;have d:=Lib.hid (d.out.next hb);have B1:=Lib.hid (B1.out.next hb);have y:∀x,T x->w.heap.size+1+1<=x:=λx hx=>by have:=F x hx;simp only[World.size_alloc]at this;exact this
  have q0:=d.out.cell 0;have q1:=d.out.cell 1;have q2:=d.out.cell 2;have q3:=d.out.cell 3;have G:=B1.out.cell 0;have H:=B1.out.cell 1;have I:=B1.out.cell 2;have J:=B1.out.cell 3;simp at q0 q1 q2 q3 G H I J;have W:=d.out.frozen 3;have X:=B1.out.frozen 0;have g1:=B1.out.frozen 1;have Y:=B1.out.frozen 2;have Z:=B1.out.frozen 3;have P:=Lib.hid C;have D:=Lib.hid j;have Q:=hb.size;simp only[World.size_alloc]at Q;clear C j F
  go_wp2_with fail
  refine bodyPost_ret (v:=.agg #[.int .i64 o,.string n,.int .i64 s,.slice L ac.length M]) (by simp[results,Tryz.results107,go_sem,G,H,I,J]) rfl ⟨_,T,rfl,λx hx=>by have:=y x hx;omega,?_,?_,?_⟩
  .exact((((D.out.setCell _ _).setCell _ _).setCell _ _).setCell _ _).setCell _ _
  .have B:∀x,x<w.heap.size+1+1->¬T x:=λx hx q=>by have:=y x q;omega
   exact((((P.out.setCell (B _ D5) _).setCell (B _ C3) _).setCell (B _ C3) _).setCell (B _ C3) _).setCell (B _ C3) _
  .repeat with_reducible (first|exact Below.refl _ _|refine Below.setCell ?_ B4 _|refine Below.drew ?_|refine below_drewN ?_ _|refine Below.alloc ?_ B4 _|refine Below.trans ?_ (Below.mono Df B4))
theorem vq(t:Tm)(w:World)(S:Nat->Prop)(v:Value)(h:At w S (cw t.ac) v)(h1:ap t.ac<=1048576):
  Calls Tryz.prog 107 #[.agg #[.int .i64 t.op,.string t.ae,.int .i64 t.ag,v]] w λe w'=>∃d T,e= .returned (.agg #[.int .i64 t.op,.string t.ae,.int .i64 t.ag,d])/\(∀x,T x->w.heap.size<=x)/\cR T w'/\co w' t.ac T d/\Below w.heap.size w w':=vu t w S v h h1
end Go.Proofs.YtigoabbppmdfpaaGreat
namespace Go.Proofs.YtigoabbppmdfpaaGreat.Den
open Go.RowKit
open Classical
section
open Abs (Cx Rel)
noncomputable section
section
variable {s : Sg} {t : Z} {w : World} {v u z : Value} (h : At w Any (strs s.ai.ah) v) (k : At w Any (ak s.ai.ak) u) (l : At w Any (iP s.ops) z) (ht : t.size ≤ maxLen)
include h k l ht
end
section
variable {F : In} {E : Cx} {ρ : Rho} {st : St} {L : Abs.Env} {h : Abs.aD} {ι : RV Abs.Inf} {I : Nat → Prop} {a : Act} {w : World}
theorem Fw(hs:SR F ρ st L h)(r:Rel E L h ι I a w){t id:Nat}{cs:RV C}(J:st.L.lookup t=some (.one (.p id 0)))(hb:st.H[id]? =some (.box cs)):
  ∃B o cur ty vs,a.tmps[t]? =some (.pointer (some ⟨B,o,none⟩))/\w.heap[B]? =some (.cells cur ty (0,0))/\o+cs.length<=cur.size/\CRs ρ st.H cs vs/\(∀(j:Nat)(v:j<vs.length),∃u,w.cell? ⟨B,o+j,none⟩=some u/\Abs.VR I w ι vs[j] u)/\(E.pass B\/E.w0.heap.size<=B):=by
 obtain⟨Q,k1,K⟩:=hs.aO t _ J;obtain⟨x,rfl,M⟩:=K.aY;obtain⟨b,rfl,N⟩:=M.ptr;obtain⟨R,vs,y,A,D⟩:=hs.heap.box id cs hb;rw[N]at y;cases y;obtain⟨c,c1,c2⟩:=r.aO t _ k1;cases c2 with
 | one c2=>cases c2 with
  | @ptr _ _ _ _ inf hi=>
   obtain⟨cur,ty,G,S,T,U,O,V,P⟩:=r.heap.obj b _ inf A hi;have d:1<=inf.cap:=by simpa using O
   have H:1*vs.length<=inf.cap*vs.length:=OZ _ d;have hl:=D.1;refine⟨inf.block,inf.base,cur,ty,vs,by simpa using c1,G,A1,D,λj v=> ?_,r.cc b _ inf A hi⟩;obtain⟨u,u1,u2⟩:=P 0 C3 j v;refine⟨u,?_,u2⟩;rw[cell_of_row w inf.block _ cur ty (0,0) G];simpa using u1
theorem aV{α:Type}{l:RV α}{n:Nat}(h:l.length=n+1):∃x k,l=x::k/\k.length=n:=by
 cases l with
 |nil=>cases h
 |cons x k=>exact⟨x,k,rfl,Nat.succ.inj h⟩
theorem NG{cs:Array Value}(h:cs.size=43):∃x0 x1 x2 x3 x4 x5 x6 x7 x8 x9 d j t v w y A B C D E F G H I J K L M N O P Q R S T U V W X Y Z x42,cs= #[x0,x1,x2,x3,x4,x5,x6,x7,x8,x9,d,j,t,v,w,y,A,B,C,D,E,F,G,H,I,J,K,L,M,N,O,P,Q,R,S,T,U,V,W,X,Y,Z,x42]:=by
 rcases cs with⟨l⟩;have h:l.length=43:=h;obtain⟨x0,l0,rfl,h0⟩:=aV h;obtain⟨x1,l1,rfl,h1⟩:=aV h0;obtain⟨x2,l2,rfl,h2⟩:=aV h1;obtain⟨x3,l3,rfl,h3⟩:=aV h2;obtain⟨x4,l4,rfl,h4⟩:=aV h3;obtain⟨x5,l5,rfl,h5⟩:=aV h4;obtain⟨x6,l6,rfl,h6⟩:=aV h5;obtain⟨x7,l7,rfl,h7⟩:=aV h6;obtain⟨x8,l8,rfl,h8⟩:=aV h7;obtain⟨x9,l9,rfl,h9⟩:=aV h8;obtain⟨d,l10,rfl,h10⟩:=aV h9;obtain⟨j,l11,rfl,h11⟩:=aV h10;obtain⟨t,l12,rfl,h12⟩:=aV h11;obtain⟨v,l13,rfl,h13⟩:=aV h12;obtain⟨w,l14,rfl,h14⟩:=aV h13;obtain⟨y,l15,rfl,h15⟩:=aV h14;obtain⟨A,l16,rfl,h16⟩:=aV h15;obtain⟨B,l17,rfl,h17⟩:=aV h16;obtain⟨C,l18,rfl,h18⟩:=aV h17;obtain⟨D,l19,rfl,h19⟩:=aV h18;obtain⟨E,l20,rfl,h20⟩:=aV h19;obtain⟨F,l21,rfl,h21⟩:=aV h20;obtain⟨G,l22,rfl,h22⟩:=aV h21;obtain⟨H,l23,rfl,h23⟩:=aV h22;obtain⟨I,l24,rfl,h24⟩:=aV h23;obtain⟨J,l25,rfl,h25⟩:=aV h24;obtain⟨K,l26,rfl,h26⟩:=aV h25;obtain⟨L,l27,rfl,h27⟩:=aV h26;obtain⟨M,l28,rfl,h28⟩:=aV h27;obtain⟨N,l29,rfl,h29⟩:=aV h28;obtain⟨O,l30,rfl,h30⟩:=aV h29;obtain⟨P,l31,rfl,h31⟩:=aV h30;obtain⟨Q,l32,rfl,h32⟩:=aV h31;obtain⟨R,l33,rfl,h33⟩:=aV h32;obtain⟨S,l34,rfl,h34⟩:=aV h33;obtain⟨T,l35,rfl,h35⟩:=aV h34;obtain⟨U,l36,rfl,h36⟩:=aV h35;obtain⟨V,l37,rfl,h37⟩:=aV h36;obtain⟨W,l38,rfl,h38⟩:=aV h37;obtain⟨X,l39,rfl,h39⟩:=aV h38;obtain⟨Y,l40,rfl,h40⟩:=aV h39;obtain⟨Z,l41,rfl,h41⟩:=aV h40;obtain⟨x42,l42,rfl,h42⟩:=aV h41;obtain rfl:=nZ h42;exact⟨_,_,_,_,_,_,_,_,_,_,_,_,_,_,_,_,_,_,_,_,_,_,_,_,_,_,_,_,_,_,_,_,_,_,_,_,_,_,_,_,_,_,_,rfl⟩
theorem IB{r:AT}(hs:SR F ρ st L h)(y:Rel E L h ι I a w)(hK:uO .ret st=some (.inr r)):∃c t,(results Tryz.f75 a.tmps).run Tryz.prog w= .ok c w/\ATR ρ st.H r t/\Abs.AR ι I w t c:=by
 unfold uO at hK;simp only at hK;split at hK
 .rename_i vs j;split at hK
  .rename_i us d;cases hK;obtain⟨v,A,B⟩:=nv ki hs j;obtain⟨C,b1,b2,b3⟩:=gW d A;obtain⟨c,c1,c2⟩:=(ry (fn:=Tryz.f75) F1 B b3).get _ _ _ _ _ y;exact⟨c,_,c1,rx (oe d b1),c2⟩
  .cases hK
 .cases hK
theorem GS{st:St}{cs:RV C}(hK:uO .normal st=some (.inl cs)):∃h j d,st.L.lookup 9=some (.one (.p h 0))/\st.L.lookup 4=some (.one (.p j 0))/\st.H[h]? =some (.box cs)/\st.H[j]? =some (.box d)/\d.length=4:=by
 unfold uO at hK;simp only at hK;split at hK
 .rename_i h j t h4;split at hK
  .rename_i v d b9 b4;cases hl:Nat.beq d.length 4 with
   | true=>
    rw[hl,cT]at hK;cases hK;exact⟨h,j,d,t,h4,b9,b4,nB hl⟩
   |false=>rw[hl,cF]at hK;cases hK
  .cases hK
 .cases hK
end
section
variable {s : Sg} {t : Z} {w : World} {v u z : Value} (h : At w Any (strs s.ai.ah) v) (k : At w Any (ak s.ai.ak) u) (l : At w Any (iP s.ops) z) (ht : t.size ≤ maxLen)
include h k l ht
set_option maxRecDepth 20000 in
set_option maxHeartbeats 4000000 in
theorem Ca:Calls Tryz.prog 75 #[.agg #[v,u,z],.string t] w λe w'=>∃P T,e= .returned (.tuple #[.agg #[.int .i64 (bl s t).1.op,.string (bl s t).1.ae,.int .i64 (bl s t).1.ag,P],.bool (bl s t).2])/\
  (∀x,T x->w.heap.size<=x)/\cR T w'/\co w' (bl s t).1.ac T P/\Below w.heap.size w w':=by
 obtain⟨v1,t1,a1⟩:=uW (J:=λb=>b<w.heap.size) (λb _ hb=>hb) h k l;obtain⟨v2,t2,a2⟩:=AY (w:=w) (J:=λb=>b<w.heap.size) ht;cases hb:(bl s t).2 with
 | false=>
  obtain⟨he,_⟩:=kR hb
  refine si (tb:=tb) (O:=cP J8) (an:=z0m.an) (pc:=z0m.pc ⟨jT,gTm 21,kG,λt=>some t⟩ 1) (c:=z0m.bd) (xs:=[.agg [.l .s s.ai.ah,.l (.n 5) s.ai.ak,.l (.n 8) s.ops],.one (.s t)]) 7 (K:=uO)
   mixed ki (iS BF) Tryz.func75 F1 F1 F1 rfl F1 (apl [] trivial) ((Cs s t).trans (Ly hb)) (λ_ hb=>hb) (cL t1 (cL t2 ge)) (dN a1 (dN a2 jy)) λe ρ st L h ι I a w' hK hS D=> ?_
  have bel:Below w.heap.size w w':=⟨D.os,D.tape,D.output,D.grown,λb hb=>D.frame b hb (Abs.ou b)⟩;cases e with
  | ret=>
   obtain⟨c,av,c1,c2,c3⟩:=IB hS D hK;obtain⟨r1,r2,z1,z2,rfl,y1,y2,y3,y4⟩:=mN c2 c3;obtain⟨P,rfl,R,_⟩:=Mh (t:=Zt) y1 y2;obtain⟨x3,p5,p6⟩:=fP y3 y4;obtain rfl:=ji p5 p6;simp only[Exit.then];refine bodyPost_ret c1 D.defers ?_;refine⟨P,λ_=>False,by rw[he],λ_ h=>h.elim,λ_ h=>h.elim,?_,bel⟩;rw[he];obtain⟨A,c,rfl,_,hc⟩:=aI R;exact .nil hc
  | normal=>
   exfalso;unfold uO at hK;simp only at hK;split at hK
   .grind
   .cases hK
  |_=>cases hK
 | true=>
  obtain⟨hM,S⟩:=vk hb
  refine si (tb:=tb) (O:=cP J8) (an:=z0m.an) (pc:=z0m.pc ⟨jT,gTm 21,kG,λt=>some t⟩ 1) (c:=z0m.bd) (xs:=[.agg [.l .s s.ai.ah,.l (.n 5) s.ai.ak,.l (.n 8) s.ops],.one (.s t)]) 7 (K:=uO)
   mixed ki (iS BF) Tryz.func75 F1 F1 F1 rfl F1 (apl [] trivial) ((Cs s t).trans hM) (λ_ hb=>hb) (cL t1 (cL t2 ge)) (dN a1 (dN a2 jy)) λe ρ st L h ι I a w' hK hS D=> ?_
  have bel:Below w.heap.size w w':=⟨D.os,D.tape,D.output,D.grown,λb hb=>D.frame b hb (Abs.ou b)⟩;cases e with
  | ret=>
   exfalso;unfold uO at hK;simp only at hK;split at hK
   .grind
   .cases hK
  | normal=>
   obtain⟨i9,i4,ds,h9,h4,b9,b4,hl⟩:=GS hK;obtain⟨B9,o9,cur9,ty9,vs9,s9,e9,l9,c9,q9,_⟩:=Fw hS D h9 b9;obtain⟨B,C,U,ty4,vs4,s4,e4,l4,c4,q4,V⟩:=Fw hS D h4 b4;have W:=D.size;have hd:=D.defers;obtain⟨tm,df⟩:=a;simp only at hd s9 s4;subst hd;obtain⟨x0,x1,x2,x3,x4,x5,x6,x7,x8,x9,x10,x11,x12,x13,x14,x15,x16,x17,x18,x19,x20,x21,x22,x23,x24,x25,x26,x27,x28,x29,x30,x31,x32,x33,x34,x35,x36,x37,x38,x39,x40,x41,x42,rfl⟩:=NG (show tm.size=43 from W);have r9:x9= .pointer (some ⟨B9,o9,none⟩):=by simpa using s9
   have r4:x4= .pointer (some ⟨B,C,none⟩):=by simpa using s4
   subst r9 r4;show Code.wp _ (kJ 7 z0m.bd).2 _ _ _;clear s9 s4 W hM;obtain⟨g1,M⟩:=c9
   match vs9,g1 with
   | [v0, v1,v2,v3],_=>
    have g0:=M 0 C3 C3;have g1:=M 1 C3 C3;have g3:=M 3 C3 C3;have M:=M 2 C3 C3;obtain⟨u0,n0,m0⟩:=q9 0 C3;obtain⟨u1,n1,m1⟩:=q9 1 C3;obtain⟨u2,n2,m2⟩:=q9 2 C3;obtain⟨u3,n3,m3⟩:=q9 3 C3;simp only[O5,Pw]at g0 g1 M g3 m0 m1 m2 m3;obtain⟨rfl,_⟩:=iD g0 m0;obtain⟨rfl,_⟩:=iG g1 m1;obtain⟨rfl,_⟩:=iD M m2;have N:=iY g3 m3;have y:∀j,j<4->∃d,w'.cell? ⟨B,C+j,none⟩=some d:=λj hj=>⟨_,(cell_of_row w' B (C+j) U ty4 (0,0) e4).trans (gA A1)⟩;have F:∀j,w'.frozen? ⟨B,j,none⟩=false:=λj=>by simp[World.frozen?,e4]
    have E:B<w'.heap.size:=Hd
    obtain⟨d0,p0⟩:=y 0 A1;obtain⟨d1,p1⟩:=y 1 A1;obtain⟨d2,R⟩:=y 2 A1;obtain⟨d3,p3⟩:=y 3 A1;have f0:=F C;have f1:=F (C+1);have f2:=F (C+2);have f3:=F (C+3);rw[OD]at n0 p0;have H:w.heap.size<=B:=V.elim (λq=>(Abs.ou B q).elim) id;have E4:=Lib.hid e4;have BL:=Lib.hid bel;have HZ:=Lib.hid S.az;clear V y F e4 e9 l9 l4 q9 q4 c4 g0 g1 M g3 m0 m1 m2 m3 hS D bel S t1 t2 a1 a2 h k l;generalize hQ:bodyPost Tryz.prog Tryz.f75 _=Q;simp only[z0m.bd,aF,Tryz.f75,P7,kJ];subst hQ;obtain⟨A,c,rfl,hn,hc⟩:=aI N;have HT:=Lib.hid N;clear N
    go_wp2_with fail
    refine(vq (bl s t).1 _ _ _ HT.out (by have:=Tm.eV (bl s t).1;have:=HZ.out;omega)).mono ?_;rintro e w2 ⟨P,T,rfl,hT,X,G,hb2⟩;obtain⟨A2,c2,rfl,hn2,hc2⟩:=aI G.at_;have p0:=(hb2.cell (p:=⟨B,C,none⟩) E).trans p0;have p1:=(hb2.cell (p:=⟨B,C+1,none⟩) E).trans p1;have R:=(hb2.cell (p:=⟨B,C+2,none⟩) E).trans R;have p3:=(hb2.cell (p:=⟨B,C+3,none⟩) E).trans p3;have f0:=(hb2.frozen (p:=⟨B,C,none⟩) E).trans f0;have f1:=(hb2.frozen (p:=⟨B,C+1,none⟩) E).trans f1;have f2:=(hb2.frozen (p:=⟨B,C+2,none⟩) E).trans f2;have f3:=(hb2.frozen (p:=⟨B,C+3,none⟩) E).trans f3;have HTs:=Lib.hid X;have HSp:=Lib.hid G;have Y:=Lib.hid hT;have HB2:=Lib.hid hb2;clear X G hT n0 n1 n2 n3 hb2
    go_wp2_with fail
    refine bodyPost_ret (v:=.tuple #[.agg #[.int .i64 (bl s t).1.op,.string (bl s t).1.ae,.int .i64 (bl s t).1.ag,.slice A2 (bl s t).1.ac.length c2],.bool true]) (by simp[results,Tryz.results75,go_sem,p0,p1,R,p3]) rfl ⟨_,T,rfl,λx hx=>by have:=Y.out x hx;omega,?_,?_,?_⟩
    .exact(((HTs.out.setCell _ _).setCell _ _).setCell _ _).setCell _ _
    .have nT:¬T B:=λq=>by have:=Y.out _ q;omega
     exact(((HSp.out.setCell (p:=⟨B,C,none⟩) nT _).setCell (p:=⟨B,C+1,none⟩) nT _).setCell (p:=⟨B,C+2,none⟩) nT _).setCell (p:=⟨B,C+3,none⟩) nT _
    .have bel:=BL.out;have Z:=HB2.out;have zz:=bel.size;exact((((bel.trans (Z.mono zz)).setCell (p:=⟨B,C,none⟩) H _).setCell (p:=⟨B,C+1,none⟩) H _).setCell (p:=⟨B,C+2,none⟩) H _).setCell (p:=⟨B,C+3,none⟩) H _
  |_=>cases hK
end
end
end
noncomputable section
theorem Et{s:Sg}{t:Tm}(hS:bI s=true)(h:Good s t):t.fits:=by
 have h1:=(eF hS).1;have h2:nS s<=8:=by
  unfold bI dM at hS;simp only[bA,NO]at hS;unfold nS;omega
 cases h with
 | var a b c=>
  have:=dK c;unfold Tm.fits;dsimp only;omega
 | app a=>
  have:=(ci a).2;have e:ByteArray.empty.size=0:=rfl;unfold Tm.fits;dsimp only;omega
theorem wb:Tm.fits Zt:=⟨D2,D2,D2,D2,D2⟩
theorem sk(s:Sg)(t:Z):(bl s t).1.fits:=by
 cases hb:(bl s t).2 with
 |true=>exact Et (mq hb).2.1 (vk hb).2.1
 |false=>rw[(kR hb).1];exact wb
structure Part where
 t:Tm
 u:Value
 S:Nat->Prop
structure dX(w:World)(B:Nat)(k:Y Nat)(l:List Part):Prop where
 each:∀p∈l,co w p.t.ac p.S p.u/\cR p.S w/\(∀x,p.S x->B<=x/\some x≠k)/\p.t.fits
 dis:l.Pairwise λp q=>∀x,p.S x->¬q.S x
section
variable {w w' : World} {B : Nat} {k k' : Y Nat} {l l' : RV Part}
theorem dX.aB(h:dX w B k l)(j:w.heap.size<=w'.heap.size)(hk:∀p∈l,∀x,p.S x->x<w.heap.size->B<=x->some x≠k->w'.heap[x]? =w.heap[x]?/\some x≠k'):dX w' B k' l:=
 ⟨fun p hp=>by
  obtain⟨h1,h2,d,h4⟩:=h.each p hp;have e:∀x,p.S x->w'.heap[x]? =w.heap[x]?/\some x≠k':=λx hx=>hk p hp x hx (h2 x hx).1 (d x hx).1 (d x hx).2;exact⟨h1.aB λx o hx=>World.cell?_of_block (e x hx).1,λx hx=>⟨NV (h2 x hx).1 j,λo=>(World.frozen?_of_block (e x hx).1).trans ((h2 x hx).2 o)⟩,λx hx=>⟨(d x hx).1,(e x hx).2⟩,h4⟩,h.dis⟩
theorem dX.lo{d:Nat}(h:dX w B k l)(t:d<=B):dX w d k l:=⟨λp hp=>let⟨h1,h2,j,h4⟩:=h.each p hp;⟨h1,h2,λx hx=>⟨NS t (j x hx).1,(j x hx).2⟩,h4⟩,h.dis⟩
theorem dX.app{H:Nat}(h:dX w B k l)(h':dX w H k l')(t:B<=H)(hl:∀p∈l,∀x,p.S x->x<H):dX w B k (l++l'):=
 ⟨fun p hp=>(List.mem_append.1 hp).elim (h.each p) fun hp=>by
  obtain⟨h1,h2,j,h4⟩:=h'.each p hp;exact⟨h1,h2,λx hx=>⟨NS t (j x hx).1,(j x hx).2⟩,h4⟩,
 List.pairwise_append.2 ⟨h.dis,h'.dis,λp hp q v x hx d=>by have:=hl p hp x hx;have:=((h'.each q v).2.2.1 x d).1;omega⟩⟩
end
theorem DG(w:World)(x:Nat):w.drew.heap[x]? =w.heap[x]? :=rfl
def GV(w:World):Prop:=∃m,w.cell? ⟨0,0,none⟩=some (.int .i64 m)
theorem GV.lt{w:World}(h:GV w):0<w.heap.size:=by
 obtain⟨m,h⟩:=h;exact World.block_lt_of_cell? w _ h
theorem GV.below{B:Nat}{w w':World}(h:GV w)(hb:Below B w w')(h0:0<B):GV w':=by
 obtain⟨m,h⟩:=h;exact⟨m,(hb.cell (p:=⟨0,0,none⟩) h0).trans h⟩
theorem Ii{w:World}(t d:Z)(ht:t.size<=1048576)(h:GV w):Calls Tryz.prog 43 #[.string t,.string d] w λe w'=>e= .returned (.tuple #[.string (bG t d).1,.string (bG t d).2.1,.bool (bG t d).2.2])/\Below w.heap.size w w':=by
 obtain⟨m,h⟩:=h;refine(Tryz.strings_Cut t d m w A1 h).mono ?_;rintro e w' ⟨rfl,k,rfl⟩;exact⟨rfl,rfl,rfl,rfl,N4 _,λ_ _=>rfl⟩
section
variable {s : Sg} {t : Z} {M : Nat → Prop} {n : Nat} {w : World} {p : Value}
set_option maxRecDepth 20000 in
set_option maxHeartbeats 2000000 in
theorem mQ(ht:t.size<=1048576)(a:ic s M n w p)(hm:GV w):
  Calls Tryz.prog 44 #[p,.string t] w λe w'=>∃u1 T1 u2 T2,e= .returned (.tuple #[.agg #[.int .i64 (bO s t).1.op,.string (bO s t).1.ae,.int .i64 (bO s t).1.ag,u1],.agg #[.int .i64 (bO s t).2.1.op,.string (bO s t).2.1.ae,.int .i64 (bO s t).2.1.ag,u2],.bool (bO s t).2.2])/\
   Below w.heap.size w w'/\dX w' w.heap.size none [⟨(bO s t).1,u1,T1⟩,⟨(bO s t).2.1,u2,T2⟩]:=by
 obtain⟨B,o,x,y,z,rfl,hB,c3,c4,c5,S,T,U⟩:=a.sig;obtain⟨s1,s2,_⟩:=gY t wEq;have S:=S.any;have T:=T.any;have U:=U.any;have sz:n<=w.heap.size:=by obtain⟨_,_,_,_,_,a⟩:=a;exact a.sz
 clear a;obtain⟨c,hc⟩:∃c,c=bG t wEq:=⟨_,rfl⟩;obtain⟨j,h1⟩:∃r,r=bl s c.1:=⟨_,rfl⟩;obtain⟨d,h2⟩:∃r,r=bl s c.2.1:=⟨_,rfl⟩;have N:bO s t=(j.1,d.1,c.2.2&&(j.2&&d.2)):=by unfold bO;rw[h1,h2,hc]
 have V:=sk s c.1;have X:=sk s c.2.1;rw[N];dsimp only;have H1:=Lib.hid h1;have H2:=Lib.hid h2;rw[<-h1]at V;rw[<-h2]at X;rw[<-hc]at s1 s2;have HC:=Lib.hid hc;clear h1 h2 hc N;have hms:maxLen=9223372036854775807:=rfl;have A:Hid (Below w.heap.size w ((w.alloc (.cells #[.int .i64 0,.string ⟨#[]⟩,.int .i64 0,.slice none 0 0] 32)).alloc (.cells #[.int .i64 0,.string ⟨#[]⟩,.int .i64 0,.slice none 0 0] 32))):=Lib.hid (((Below.refl _ _).alloc (N4 _) _).alloc C3 _);have b4:=Lib.hid ((Blk.new w 32 #[.int .i64 0,.string ⟨#[]⟩,.int .i64 0,.slice none 0 0]).alloc (.cells #[.int .i64 0,.string ⟨#[]⟩,.int .i64 0,.slice none 0 0] 32));have b5:=Lib.hid (Blk.new (w.alloc (.cells #[.int .i64 0,.string ⟨#[]⟩,.int .i64 0,.slice none 0 0] 32)) 32 #[.int .i64 0,.string ⟨#[]⟩,.int .i64 0,.slice none 0 0])
 go_enter Tryz.func44,Tryz.ntmps44
 go_wp2_with fail
 have D:=Ii t wEq ht (hm.below A.out hm.lt);rw[<-HC.out]at D;refine D.mono ?_;clear D;rintro e w1 ⟨rfl,hb1⟩;have Y:=hb1.size;simp only[World.size_alloc]at Y;have A:=Lib.hid (A.out.trans (hb1.mono A.out.size));have b4:=Lib.hid (b4.out.next hb1);have b5:=Lib.hid (b5.out.next hb1);have C:B<w.heap.size:=A1
 have d3:=(A.out.cell (p:=⟨B,o+3,none⟩) C).trans c3;have d4:=(A.out.cell (p:=⟨B,o+4,none⟩) C).trans c4;have d5:=(A.out.cell (p:=⟨B,o+5,none⟩) C).trans c5
 go_wp2_with fail
 have D:=Ca (t:=c.1) (S.below A.out) (T.below A.out) (U.below A.out) A1;rw[<-H1.out]at D;refine D.mono ?_;clear D;rintro e L ⟨u1,T1,rfl,O,P,G,hb2⟩;obtain⟨I,k1,rfl,_,_⟩:=aI G.at_;have hz2:=hb2.size;have P1:Hid (dX L w1.heap.size none [⟨j.1,_,T1⟩]):=Lib.hid ⟨λp hp=>by simp at hp;subst hp;exact⟨G,P,λx hx=>⟨O x hx,C3⟩,V⟩,Pu _ _⟩;have A:=Lib.hid ((A.out.trans (hb2.mono A.out.size)).alloc (NS A.out.size hb2.size) (.cells #[.int .i64 j.1.op,.string j.1.ae,.int .i64 j.1.ag,.slice I j.1.ac.length k1] 32));have b4:=Lib.hid ((b4.out.next hb2).alloc (.cells #[.int .i64 j.1.op,.string j.1.ae,.int .i64 j.1.ag,.slice I j.1.ac.length k1] 32));have b5:=Lib.hid ((b5.out.next hb2).alloc (.cells #[.int .i64 j.1.op,.string j.1.ae,.int .i64 j.1.ag,.slice I j.1.ac.length k1] 32));have b10:=Lib.hid (Blk.new L 32 #[.int .i64 j.1.op,.string j.1.ae,.int .i64 j.1.ag,.slice I j.1.ac.length k1]);have d3:=(A.out.cell (p:=⟨B,o+3,none⟩) C).trans c3;have d4:=(A.out.cell (p:=⟨B,o+4,none⟩) C).trans c4;have d5:=(A.out.cell (p:=⟨B,o+5,none⟩) C).trans c5;clear hb2 O P G
 go_wp2_with fail
 have D:=Ca (t:=c.2.1) (S.below A.out) (T.below A.out) (U.below A.out) A1;rw[<-H2.out]at D;refine D.mono ?_;clear D;rintro e J ⟨u2,T2,rfl,Q,R,K,hb3⟩;obtain⟨E,F,rfl,_,_⟩:=aI K.at_;have Z:=hb3.size;rw[World.size_alloc]at Z;have P2:Hid (dX J (L.heap.size+1) none [⟨d.1,_,T2⟩]):=Lib.hid ⟨λp hp=>by simp at hp;subst hp;exact⟨K,R,λx hx=>⟨by have:=Q x hx;rw[World.size_alloc]at this;exact this,C3⟩,X⟩,Pu _ _⟩;have bb:=(Below.refl L.heap.size L).alloc (N4 _) (.cells #[.int .i64 j.1.op,.string j.1.ae,.int .i64 j.1.ag,.slice I j.1.ac.length k1] 32);have bb:=(bb.trans (hb3.mono Qx)).alloc A1 (.cells #[.int .i64 d.1.op,.string d.1.ae,.int .i64 d.1.ag,.slice E d.1.ac.length F] 32);have BL3:=Lib.hid (A.out.trans (hb3.mono A.out.size));have A:=Lib.hid ((A.out.trans (hb3.mono A.out.size)).alloc (NS A.out.size hb3.size) (.cells #[.int .i64 d.1.op,.string d.1.ae,.int .i64 d.1.ag,.slice E d.1.ac.length F] 32));have b4:=Lib.hid ((b4.out.next hb3).alloc (.cells #[.int .i64 d.1.op,.string d.1.ae,.int .i64 d.1.ag,.slice E d.1.ac.length F] 32));have b5:=Lib.hid ((b5.out.next hb3).alloc (.cells #[.int .i64 d.1.op,.string d.1.ae,.int .i64 d.1.ag,.slice E d.1.ac.length F] 32));have b10:=Lib.hid ((b10.out.next hb3).alloc (.cells #[.int .i64 d.1.op,.string d.1.ae,.int .i64 d.1.ag,.slice E d.1.ac.length F] 32));have b12:=Lib.hid (Blk.new J 32 #[.int .i64 d.1.op,.string d.1.ae,.int .i64 d.1.ag,.slice E d.1.ac.length F]);clear hb3 Q R K
 go_upto_region 4 with fail
 obtain⟨q0,q1,q2,q3⟩:=b4.out.c4;obtain⟨p0,p1,p2,p3⟩:=b5.out.c4;obtain⟨_,_,_,_⟩:=b10.out.c4;obtain⟨_,_,_,_⟩:=b12.out.c4;have g0:=b4.out.frozen 0;have g1:=b4.out.frozen 1;have g2:=b4.out.frozen 2;have g3:=b4.out.frozen 3;have f0:=b5.out.frozen 0;have V:=b5.out.frozen 1;have X:=b5.out.frozen 2;have f3:=b5.out.frozen 3;rw[World.size_alloc]at p0 p1 p2 p3 f0 V X f3;have hW:∀(W:World),(∀x,w1.heap.size<=x->W.heap[x]? =(J.alloc (.cells #[.int .i64 d.1.op,.string d.1.ae,.int .i64 d.1.ag,.slice E d.1.ac.length F] 32)).heap[x]?)->J.heap.size+1<=W.heap.size->dX W w.heap.size none [⟨j.1,.slice I j.1.ac.length k1,T1⟩,⟨d.1,.slice E d.1.ac.length F,T2⟩]:=λW h hs=>by
  have e1:∀x,x<J.heap.size->(J.alloc (.cells #[.int .i64 d.1.op,.string d.1.ae,.int .i64 d.1.ag,.slice E d.1.ac.length F] 32)).heap[x]? =J.heap[x]? :=λx hx=>Below.heap_alloc _ _ _ hx;refine dX.app (l:=[_]) (H:=L.heap.size+1) ((P1.out.aB A1 λ_ _ x _ h1 h2 _=>⟨(h x h2).trans (bb.block x h1),C3⟩).lo A1) (P2.out.aB A1 λ_ _ x _ h1 h2 _=>⟨(h x A1).trans (e1 x h1),C3⟩) A1 λp hp x hx=> ?_;have:=((P1.out.each p hp).2.1 x hx).1;omega
 have HW:=Lib.hid hW;clear hW;cases hx:c.2.2<;>cases hy:j.2<;>go_region
 all_goals go_wp2_with fail
 all_goals
  refine bodyPost_ret (v:=.tuple #[.agg #[.int .i64 j.1.op,.string j.1.ae,.int .i64 j.1.ag,.slice I j.1.ac.length k1],.agg #[.int .i64 d.1.op,.string d.1.ae,.int .i64 d.1.ag,.slice E d.1.ac.length F],.bool (c.2.2&&(j.2&&d.2))]) (by simp[results,Tryz.results44,go_sem,q0,q1,q2,q3,p0,p1,p2,p3,hx,hy]) rfl ⟨_,T1,_,T2,rfl,?_,HW.out _ (λx hx=> ?_) C3⟩
  .repeat with_reducible (first|exact Below.refl _ _|refine Below.setCell ?_ B4 _|refine Below.drew ?_|refine below_drewN ?_ _|refine Below.alloc ?_ B4 _|refine Below.trans ?_ (Below.mono Df B4))
   exact BL3.out
  .repeat with_reducible (first|rfl|refine(DG _ _).trans ?_|refine(Below.heap_setCell _ _ _ _ D5).trans ?_)
end
end
end Go.Proofs.YtigoabbppmdfpaaGreat.Den
namespace Go.Proofs.YtigoabbppmdfpaaGreat
open Go.RowKit
section
open Den (Cnd Eqn ca Part dX)
theorem gQ(cs:RV Cnd):(ca cs).length=cs.length*2:=eX (λc:Cnd=>[c.left,c.right]) 2 (λ_=>rfl) cs
theorem CZ{cs:RV Cnd}{k:Nat}{c:Cnd}(h:cs[k]? =some c):(ca cs)[k*2]? =some c.left/\(ca cs)[k*2+1]? =some c.right:=by
 have e:=λj d=>eO (λc:Cnd=>[c.left,c.right]) 2 (λ_=>rfl) cs k j d;rw[h]at e;exact⟨e 0 A1,e 1 A1⟩
def SepC(w:World)(cs:RV Cnd)(S:Nat->Prop)(v:Value):Prop:=∃A k,v= .slice A cs.length k/\cs.length<=k/\k<=9223372036854775807/\cs.length<=1048576/\co w (ca cs) S (.slice A (ca cs).length (ca cs).length)
theorem SepC.at_{w:World}{cs:RV Cnd}{S:Nat->Prop}{v:Value}(h:SepC w cs S v):At w S (aM cs) v:=by
 obtain⟨A,k,rfl,h1,h2,_,G⟩:=h;refine ng 8 (λ_=>rfl) A1 h1 h2 λhp=> ?_;have C:=G.at_;have hl:=gQ cs;obtain⟨b,off,_,_,rfl,hb,_⟩:=jm (k:=0) C A1;refine⟨b,off,rfl,hb,λk c hc j d hd=> ?_⟩;have hk:=(gI.1 hc).1;obtain⟨g1,H⟩:=CZ hc;have key:∀(i:Nat)(t:Tm),(ca cs)[i]? =some t->∃v,w.cell? ⟨b,off+i*4,none⟩=some (.int .i64 t.op)/\w.cell? ⟨b,off+i*4+1,none⟩=some (.string t.ae)/\w.cell? ⟨b,off+i*4+2,none⟩=some (.int .i64 t.ag)/\w.cell? ⟨b,off+i*4+3,none⟩=some v/\At w S (cw t.ac) v/\cq (.int .i64 t.op)/\cq (.string t.ae)/\cq (.int .i64 t.ag):=λi t hi=>by
  obtain⟨R,D,T,v,e,_,_,I,c1,c2,c3,J,K,L,M,U,N,O⟩:=jm (k:=i) C (gI.1 hi).1;injection e with e
  injection e with y B
  subst y B;have hx:=K.out;rw[hi]at hx;cases hx;exact⟨v,I,c1,c2,c3,J,WalkArith.wf_i64 ⟨L,M⟩,by show _<=maxLen;simp only[maxLen];omega,WalkArith.wf_i64 ⟨N,O⟩⟩
 obtain⟨v1,a0,E,F,a3,a4,a5,P,Q⟩:=key _ _ g1;obtain⟨V,b0,b1,b2,b3,b4,b5,b6,b7⟩:=key _ _ H;have y:off+k*2*4=off+k*8:=A1
 have B:off+(k*2+1)*4=off+k*8+4:=A1
 rw[y]at a0 E F a3;rw[B]at b0 b1 b2 b3
 match j,hd with
 |0,hd=>cases hd;exact⟨_,a0,bc.2 ⟨rfl,a5⟩⟩
 |1,hd=>cases hd;exact⟨_,E,bc.2 ⟨rfl,P⟩⟩
 |2,hd=>cases hd;exact⟨_,F,bc.2 ⟨rfl,Q⟩⟩
 |3,hd=>cases hd;exact⟨_,a3,a4⟩
 |4,hd=>cases hd;exact⟨_,b0,bc.2 ⟨rfl,b5⟩⟩
 |5,hd=>cases hd;exact⟨_,b1,bc.2 ⟨rfl,b6⟩⟩
 |6,hd=>cases hd;exact⟨_,b2,bc.2 ⟨rfl,b7⟩⟩
 |7,hd=>cases hd;exact⟨_,b3,b4⟩
structure nf(w:World)(e:Eqn)(T:Nat->Prop)(x y z:Value)(T1 T2 T3:Nat->Prop):Prop where
 l:co w e.left.ac T1 x
 r:co w e.right.ac T2 y
 c:SepC w e.aM T3 z
 fl:e.left.fits
 fr:e.right.fits
 sub:∀b,T1 b\/T2 b\/T3 b->T b
 d12:∀b,T1 b->¬T2 b
 d13:∀b,T1 b->¬T3 b
 d23:∀b,T2 b->¬T3 b
section
variable {w w' : World} {e : Eqn} {T : Nat → Prop} {x y z : Value} {T1 T2 T3 : Nat → Prop}
theorem nf.at_(h:nf w e T x y z T1 T2 T3):EqAt w T e x y z:=⟨h.l.at_.mono λb hb _=>h.sub b (.inl hb),h.r.at_.mono λb hb _=>h.sub b (.inr (.inl hb)),h.c.at_.mono λb hb _=>h.sub b (.inr (.inr hb)),h.fl,h.fr⟩
theorem nf.aB(h:nf w e T x y z T1 T2 T3)(hk:∀b,T b->w'.heap[b]? =w.heap[b]?):nf w' e T x y z T1 T2 T3:=by
 have k:∀{ts:RV Tm}{S:Nat->Prop}{v:Value},(∀b,S b->T b)->co w ts S v->co w' ts S v:=λhs d=>d.aB λb o hb=>World.cell?_of_block (hk b (hs b hb));obtain⟨A,q,c1,c2,c3,c4,c5⟩:=h.c;exact⟨k (λb hb=>h.sub b (.inl hb)) h.l,k (λb hb=>h.sub b (.inr (.inl hb))) h.r,⟨A,q,c1,c2,c3,c4,k (λb hb=>h.sub b (.inr (.inr hb))) c5⟩,h.fl,h.fr,h.sub,h.d12,h.d13,h.d23⟩
end
theorem Ef(w:World):nf w ⟨Den.Zt,Den.Zt,[]⟩ (λ_=>False) (.slice none 0 0) (.slice none 0 0) (.slice none 0 0) (λ_=>False) (λ_=>False) (λ_=>False):=
 ⟨.nil A1,.nil A1,⟨none,0,rfl,C3,A1,C3,.nil (by rw[gQ];simp)⟩,Den.wb,Den.wb,λ_ h=>H0,λ_ h=>h.elim,λ_ h=>h.elim,λ_ h=>h.elim⟩
def jI(d:RV Part):RV Value:=d.flatMap λp=>[.int .i64 p.t.op,.string p.t.ae,.int .i64 p.t.ag,p.u]
theorem Kk{w:World}{B:Nat}{y:Value}{h:RV Part}{l:RV Cnd}(own:w.ownsRow B 57 8 y l.length (jI h))(hp:dX w B y.ownBlock h)(ht:h.map Part.t=ca l)(hl:l.length<=1048576):
  SepC w l (λx=>y.ownBlock=some x\/∃p∈h,p.S x) y:=by
 rcases own.2 with⟨rfl,D⟩|⟨g,cap,cur,rfl,D,E,F,G,O,H⟩
 .obtain rfl:=nZ D;exact⟨none,0,rfl,C3,A1,C3,.nil (by rw[gQ];simp)⟩
 .have I:h.length=(ca l).length:=by rw[<-ht,Ol]
  have J:=gQ l;have d:∀m u,(jI h)[m]? =some u->w.cell? ⟨g,m,none⟩=some u:=λm u hm=>by
   rw[cell_of_row w g m cur 57 (0,0) E,<-OS];rw[<-H,PK]at hm;split at hm
   .exact hm
   .cases hm
  have v:∀(k:Nat)(t:Tm),(ca l)[k]? =some t->∃p,h[k]? =some p/\p.t=t/\p∈h:=λk t hk=>by
   rw[<-ht,Oq]at hk;cases A:h[k]? with
   |none=>rw[A]at hk;cases hk
   |some p=>rw[A]at hk;cases hk;exact⟨p,rfl,rfl,mG A⟩
  simp only[maxLen]at G;refine⟨_,cap,rfl,F,A1,hl,co.row (U:=λk=>(h[k]?).elim undef Part.u) (T:=λk x=>∃p,h[k]? =some p/\p.S x) (off:=0) (N4 _) A1 (.inl rfl) (λk x hk ⟨p,h1,h2⟩=> ?_) (λi k x C hk ⟨p,h1,h2⟩ ⟨q,K,h4⟩=> ?_) (λk t hk=> ?_) λk t hk=> ?_⟩
  .have hm:=mG h1;exact⟨.inr ⟨p,hm,h2⟩,λe=>((hp.each p hm).2.2.1 x h2).2 (by rw[e];rfl)⟩
  .obtain⟨L,M⟩:=gI.1 h1;obtain⟨b1,b2⟩:=gI.1 K;have:=List.pairwise_iff_getElem.1 hp.dis i k L b1 C x;rw[M,b2]at this;exact this h2 h4
  .obtain⟨p,h1,rfl,hm⟩:=v k t hk;have hx:∀j,j<4->(jI h)[k*4+j]? =[Value.int .i64 p.t.op,.string p.t.ae,.int .i64 p.t.ag,p.u][j]? :=λj N=>by
    unfold jI;rw[eO _ 4 (λ_=>rfl) _ _ _ N,h1];rfl
   rw[Ou];simp only[h1,Option.elim_some];exact⟨d _ _ (hx 0 A1),d _ _ (hx 1 A1),d _ _ (hx 2 A1),d _ _ (hx 3 A1),(hp.each p hm).2.2.2⟩
  .obtain⟨p,h1,rfl,hm⟩:=v k t hk;have e:(λx=>∃q,h[k]? =some q/\q.S x)=p.S:=Hd
   simp only[h1,Option.elim_some]at e ⊢;rw[e];exact(hp.each p hm).1
theorem ig{w:World}{b:Nat}{ty:TypeId}{d j t v y A B C D:Value}(h:Blk w b ty #[d,j,t,v,y,A,B,C,D]):(w.cell? ⟨b,0,none⟩=some d/\w.cell? ⟨b,1,none⟩=some j/\w.cell? ⟨b,2,none⟩=some t/\w.cell? ⟨b,3,none⟩=some v/\w.cell? ⟨b,4,none⟩=some y/\w.cell? ⟨b,5,none⟩=some A/\w.cell? ⟨b,6,none⟩=some B/\w.cell? ⟨b,7,none⟩=some C/\w.cell? ⟨b,8,none⟩=some D)/\
  w.frozen? ⟨b,0,none⟩=false/\w.frozen? ⟨b,1,none⟩=false/\w.frozen? ⟨b,2,none⟩=false/\w.frozen? ⟨b,3,none⟩=false/\w.frozen? ⟨b,4,none⟩=false/\w.frozen? ⟨b,5,none⟩=false/\w.frozen? ⟨b,6,none⟩=false/\w.frozen? ⟨b,7,none⟩=false/\w.frozen? ⟨b,8,none⟩=false:=
 ⟨⟨h.cell 0,h.cell 1,h.cell 2,h.cell 3,h.cell 4,h.cell 5,h.cell 6,h.cell 7,h.cell 8⟩,h.frozen 0,h.frozen 1,h.frozen 2,h.frozen 3,h.frozen 4,h.frozen 5,h.frozen 6,h.frozen 7,h.frozen 8⟩
end
section
open Den (Cnd Eqn ca Part dX Sg ic GV bG bO lC jC ly peF iz oI wIf dZ bI)
noncomputable section
theorem Tryz.infoCond:(Tryz.prog.info? 57).map (λi=>(i.zero,i.size,i.bytes))=some (some (.agg #[.int .i64 0,.string ⟨#[]⟩,.int .i64 0,.slice none 0 0,.int .i64 0,.string ⟨#[]⟩,.int .i64 0,.slice none 0 0]),8,112):=F1
abbrev zE:Array Value:= #[.int .i64 0,.string ⟨#[]⟩,.int .i64 0,.slice none 0 0,.int .i64 0,.string ⟨#[]⟩,.int .i64 0,.slice none 0 0,.slice none 0 0]
def mB:Value->Value->Nat
 | .string b,.bool true=>b.size+1
 |_,_=>0
structure PL(s:Sg)(t:Z)(w:World)(e0:Tm×Tm)(b9:Nat)(cv:Z)(has ok:Bool)(l:List Cnd)(kv u1 u2:Value)(ps:List Part)(N:Nat)(W:World):Prop where
 cont:lC s N cv has ok l=jC s t
 ei:cv.size<N\/has=false
 size:(has=true->cv.size+l.length+1<=t.size)/\l.length<=t.size
 sm:Den.SmC l
 bel:Below w.heap.size w W
 own:W.ownsRow (w.heap.size+1) 57 8 kv l.length (jI ps)
 parts:∃S1 S2,dX W (w.heap.size+1) kv.ownBlock (⟨e0.1,u1,S1⟩::⟨e0.2,u2,S2⟩::ps)/\∀x,S1 x\/S2 x->x<b9
 low:∀p∈ps,∀x,p.S x->b9+1+1<x
 cw:ps.map Part.t=ca l
 q4:Blk W w.heap.size 35 zE
 q9:∃a b c d,Blk W b9 32 #[a,b,c,d]
 q10:∃a b c d,Blk W (b9+1) 32 #[a,b,c,d]
 q12:Blk W (b9+1+1) 35 (di ⟨e0.1,e0.2,l⟩ u1 u2 kv)
 lt9:w.heap.size<b9
theorem mY{w w':World}{B:Nat}{e:TypeId}{q n:Nat}{v:Value}{xs:RV Value}(h:w.ownsRow B e q v n xs)(hk:∀g,v.ownBlock=some g->w'.heap[g]? =w.heap[g]?):w'.ownsRow B e q v n xs:=
 ⟨h.1,h.2.imp id λ⟨g,cap,cur,d,h2,j,h4⟩=>⟨g,cap,cur,d,h2,(hk g (by rw[d];rfl)).trans j,h4⟩⟩
theorem kt{w:World}{B:Nat}{e:TypeId}{q n:Nat}{v:Value}{xs:RV Value}(h:w.ownsRow B e q v n xs){b:Nat}{t:TypeId}{cs:Array Value}(hb:Blk w b t cs)(ht:t≠e):v.ownBlock≠some b:=by
 rcases h.2 with⟨rfl,_⟩|⟨g,cap,cur,rfl,_,d,_⟩
 .exact λe=>H3
 .intro q;injection q with q
  subst q;rw[show w.heap[g]? =_ from hb]at d;injection d with d
  injection d with _ d
  exact ht d
def s8(w:World)(b:Nat)(t:Tm)(u:Value):World:=(((w.setCell ⟨b,0,none⟩ (.int .i64 t.op)).setCell ⟨b,1,none⟩ (.string t.ae)).setCell ⟨b,2,none⟩ (.int .i64 t.ag)).setCell ⟨b,3,none⟩ u
section
variable {w : World} {b : Nat} {t : Tm} {u : Value}
theorem wQ{ty:TypeId}{x y z v:Value}(h:Blk w b ty #[x,y,z,v]):Blk (s8 w b t u) b ty #[.int .i64 t.op,.string t.ae,.int .i64 t.ag,u]:=(((h.jJ 0 _).jJ 1 _).jJ 2 _).jJ 3 _
theorem mO{x:Nat}(h:x≠b):(s8 w b t u).heap[x]? =w.heap[x]? :=(Below.heap_setCell _ _ _ _ h).trans ((Below.heap_setCell _ _ _ _ h).trans ((Below.heap_setCell _ _ _ _ h).trans (Below.heap_setCell _ _ _ _ h)))
theorem sn{B:Nat}(h:B<=b):Below B w (s8 w b t u):=((((Below.refl B w).setCell (p:=⟨b,0,none⟩) h _).setCell (p:=⟨b,1,none⟩) h _).setCell (p:=⟨b,2,none⟩) h _).setCell (p:=⟨b,3,none⟩) h _
theorem tF:(s8 w b t u).heap.size=w.heap.size:=by simp[s8]
end
def GC(w:World)(b:Nat)(d h j t v y A B C:Value):World:=((((((((w.setCell ⟨b,0,none⟩ d).setCell ⟨b,1,none⟩ h).setCell ⟨b,2,none⟩ j).setCell ⟨b,3,none⟩ t).setCell ⟨b,4,none⟩ v).setCell ⟨b,5,none⟩ y).setCell ⟨b,6,none⟩ A).setCell ⟨b,7,none⟩ B).setCell ⟨b,8,none⟩ C
theorem GO{w:World}{b x:Nat}{d j t v y A B C D:Value}(h:x≠b):(GC w b d j t v y A B C D).heap[x]? =w.heap[x]? :=by
 have k:∀(w:World) o u,(w.setCell ⟨b,o,none⟩ u).heap[x]? =w.heap[x]? :=λw o u=>Below.heap_setCell w ⟨b,o,none⟩ u x h;unfold GC;simp only[k]
theorem eI{w:World}{B b:Nat}{d j t v y A C D E:Value}(h:B<=b):Below B w (GC w b d j t v y A C D E):=by
 have k:∀{w':World} o u,Below B w w'->Below B w (w'.setCell ⟨b,o,none⟩ u):=λo u q=>q.setCell (p:=⟨b,o,none⟩) h u;exact k _ _ (k _ _ (k _ _ (k _ _ (k _ _ (k _ _ (k _ _ (k _ _ (k _ _ (Below.refl _ _)))))))))
theorem PL.next{s:Sg}{t:Z}{w W I J B:World}{K:Tm×Tm}{b9:Nat}{Y:Z}{l:RV Cnd}{y u1 u2:Value}{F:RV Part}{N:Nat}(h:PL s t w K b9 Y true true l y u1 u2 F N W)
  {c2:Z×Z×Bool} {j:Tm×Tm×Bool} (L:c2=bG Y dZ) (M:j=bO s c2.1) (hb:Below W.heap.size W I) {v1 O:Value} {S1 S2:Nat->Prop} (hp:dX I W.heap.size none [⟨j.1,v1,S1⟩,⟨j.2.1,O,S2⟩])
  (C:Below 0 I J) (k6:∀x,x≠b9->x≠b9+1->x<I.heap.size->J.heap[x]? =I.heap[x]?) (q9:∃a b c d,Blk J b9 32 #[a,b,c,d]) (q10:∃a b c d,Blk J (b9+1) 32 #[a,b,c,d])
  {g cap:Nat} (D:B.ownsRow (w.heap.size+1) 57 8 (.slice (some ⟨g,0,none⟩) (l.length+1) cap) (l.length+1) (jI F++[.int .i64 j.1.op,.string j.1.ae,.int .i64 j.1.ag,v1,.int .i64 j.2.1.op,.string j.2.1.ae,.int .i64 j.2.1.ag,O]))
  (A:J.grownBy B y.ownBlock) (P:y.ownBlock=some g\/g=J.heap.size):
  ∃ps' N',PL s t w K b9 c2.2.1 c2.2.2 j.2.2 (l++[⟨j.1,j.2.1⟩]) (.slice (some ⟨g,0,none⟩) (l.length+1) cap) u1 u2 ps' N' (B.setCell ⟨b9+1+1,8,none⟩ (.slice (some ⟨g,0,none⟩) (l.length+1) cap)):=by
 obtain⟨N,rfl⟩:∃k,N=k+1:=⟨N-1,by rcases h.ei with q|q;omega;cases q⟩;obtain⟨z1,z2,z3⟩:=Den.gY Y dZ;rw[<-L]at z1 z2 z3;have e5:dZ.size=5:=rfl;have hW:=h.bel.size;have l9:=h.lt9;obtain⟨_,_,_,_,Q⟩:=h.q9;obtain⟨_,_,_,_,E⟩:=h.q10;have lt9:=Q.lt;have lt10:=E.lt;have R:=h.q12.lt;obtain⟨a9,b9',c9,d9,h9⟩:=q9;obtain⟨a10,S,c10,d10,T⟩:=q10;have n9:=kt h.own Q D2;have n10:=kt h.own E D2;have n12:=kt h.own h.q12 D2;have n4:=kt h.own h.q4 D2
 -- what is older than U round and no box of a term stays till U append, but for U row
 have old:∀x,x<W.heap.size->x≠b9->x≠b9+1->y.ownBlock≠some x->B.heap[x]? =W.heap[x]? :=λx h1 h2 X h4=>(A.block x (NV h1 (NS hb.size C.size)) (λe=>h4 e.symm)).trans ((k6 x h2 X (NV h1 hb.size)).trans (hb.block x h1));have q12:Blk B (b9+1+1) 35 (di ⟨K.1,K.2,l⟩ u1 u2 y):=(old _ R A1 A1 n12).trans h.q12;have G:∀x,x≠b9+1+1->(B.setCell ⟨b9+1+1,8,none⟩ (.slice (some ⟨g,0,none⟩) (l.length+1) cap)).heap[x]? =B.heap[x]? :=λx hx=>Below.heap_setCell _ _ _ _ hx;have og:∀x,y.ownBlock=some x->x<W.heap.size:=λx hx=>(h.own.lt x hx).2;have gx:∀x,x<W.heap.size->y.ownBlock≠some x->x≠g:=λx h1 h2 e=>by
  subst e;rcases P with q|q
  .exact h2 q
  .have:=hb.size;have:=C.size;omega
 obtain⟨T1,T2,v,V⟩:=h.parts;have kO:∀x,some x≠y.ownBlock->y.ownBlock≠some x:=λx q e=>q e.symm;refine⟨F++[⟨j.1,v1,S1⟩,⟨j.2.1,O,S2⟩],N,?_⟩;exact
 { cont := by rw[<-h.cont];subst M L;rfl
   ei:=by
     cases hh:c2.2.2 with
     |true=>have:=z3 hh;rcases h.ei with q|q;exact .inl A1;cases q
     |false=>exact .inr rfl
   size:=by
     have:=h.size.1 rfl;rw[N8];exact⟨λhh=>by have:=z3 hh;simp;omega,D5⟩
   sm:=by subst M;exact h.sm.snoc _
   bel:=by
     refine h.bel.trans ⟨?_,?_,?_,?_,λx hx=> ?_⟩
     · exact(A.os).trans ((C.os).trans hb.os)
     · exact(A.tape).trans ((C.tape).trans hb.tape)
     · exact(A.output).trans ((C.output).trans hb.output)
     · rw[World.size_setCell];exact NS hb.size (NS C.size A.size)
     · exact(G x A1).trans (old x A1 A1 A1 λe=>by have:=(h.own.lt x e).1;omega)
   own:=by
     have e:jI (F++[⟨j.1,v1,S1⟩,⟨j.2.1,O,S2⟩])=jI F++[.int .i64 j.1.op,.string j.1.ae,.int .i64 j.1.ag,v1,.int .i64 j.2.1.op,.string j.2.1.ae,.int .i64 j.2.1.ag,O]:=by unfold jI;rw[List.flatMap_append];rfl
     rw[e,(C3:(l++[(⟨j.1,j.2.1⟩:Cnd)]).length=l.length+1)];exact mY D λx hx=>G x λq=>kt D q12 D2 (by rw[hx,q])
   parts := by
     refine⟨T1,T2,?_,V⟩;have k1:∀p∈(⟨K.1,u1,T1⟩::⟨K.2,u2,T2⟩::F:RV Part),∀x,p.S x->x≠b9/\x≠b9+1/\x≠b9+1+1:=λp hp x hx=>by
       rcases List.mem_cons.1 hp with rfl|hp
       · grind
       · rcases List.mem_cons.1 hp with rfl|hp
         · grind
         · have:=h.low p hp x hx;omega
     have hz:I.heap.size<=(B.setCell ⟨b9+1+1,8,none⟩ (.slice (some ⟨g,0,none⟩) (l.length+1) cap)).heap.size:=by rw[World.size_setCell];exact NS C.size A.size
     refine dX.app (l:=_::_::F) (H:=W.heap.size) (v.aB (NS hb.size hz) λp hp x hx h1 h2 X=> ?_) (hp.aB hz λp hp x hx h1 h2 _=>⟨(G x A1).trans ((A.block x (NV h1 C.size) λe=>by have:=og x e.symm;omega).trans (k6 x A1 A1 h1)),λe=> ?_⟩) A1 λp hp x hx=>((v.each p hp).2.1 x hx).1
     · obtain⟨m1,m2,m3⟩:=k1 p hp x hx
       exact⟨(G x m3).trans (old x h1 m1 m2 (kO x X)),λe=>gx x h1 (kO x X) (Pc e)⟩
     · have e:x=g:=Pc e
       subst e;rcases P with q|q
       · grind
       · grind
   low:=λp hp' x hx=>by
     rcases List.mem_append.1 hp' with q|q
     · exact h.low p q x hx
     · have:=((hp.each p q).2.2.1 x hx).1;omega
   cw:=by rw[OY,h.cw];unfold ca;rw[List.flatMap_append];rfl
   q4:=(G _ A1).trans ((old _ A1 A1 A1 n4).trans h.q4)
   q9:=⟨a9,b9',c9,d9,(G _ A1).trans ((A.block _ h9.lt λe=>n9 e.symm).trans h9)⟩
   q10:=⟨a10,S,c10,d10,(G _ A1).trans ((A.block _ T.lt λe=>n10 e.symm).trans T)⟩
   q12:=q12.jJ 8 _
   lt9:=l9}
def rQ(n:Nat)(w:World)(e:Eqn)(x y z:Value):Prop:=∃T T1 T2 T3,(∀b,T b->n<=b)/\cR T w/\nf w e T x y z T1 T2 T3
theorem kY(n:Nat)(w:World):rQ n w ⟨Den.Zt,Den.Zt,[]⟩ (.slice none 0 0) (.slice none 0 0) (.slice none 0 0):=⟨_,_,_,_,λ_ h=>h.elim,λ_ h=>h.elim,Ef w⟩
theorem rQ.aB{n:Nat}{w W:World}{e:Eqn}{T T1 T2 T3:Nat->Prop}{x y z:Value}(h:nf w e T x y z T1 T2 T3)(hs:cR T w)(d:∀c,T c->n<=c)(j:w.heap.size<=W.heap.size)(hk:∀c,T c->W.heap[c]? =w.heap[c]?):rQ n W e x y z:=
 ⟨T,T1,T2,T3,d,λc hc=>⟨NV (hs c hc).1 j,λo=>(World.frozen?_of_block (hk c hc)).trans ((hs c hc).2 o)⟩,h.aB hk⟩
theorem rQ.put{n b:Nat}{w:World}{e:Eqn}{T T1 T2 T3:Nat->Prop}{x y z d j t v A B C D E:Value}(h:nf w e T x y z T1 T2 T3)(hs:cR T w)(F:∀c,T c->n<=c/\c≠b):rQ n (GC w b d j t v A B C D E) e x y z:=by
 have G:Below 0 w (GC w b d j t v A B C D E):=eI (N9 _);exact rQ.aB h hs (λc hc=>(F c hc).1) G.size λc hc=>GO (F c hc).2
theorem PL.esep{s:Sg}{t:Z}{w W:World}{A:Tm×Tm}{b9:Nat}{C:Z}{has ok:Bool}{l:RV Cnd}{y u1 u2:Value}{B:RV Part}{N:Nat}(h:PL s t w A b9 C has ok l y u1 u2 B N W)(hl:t.size<=1048576):
  ∃T T1 T2 T3,nf W ⟨A.1,A.2,l⟩ T u1 u2 y T1 T2 T3/\cR T W/\∀b,T b->w.heap.size<b:=by
 obtain⟨T1,T2,hp,_⟩:=h.parts;have h1:=hp.each _ Pb;have h2:=hp.each _ (Ow _ Pb);have v:dX W (w.heap.size+1) y.ownBlock B:=⟨λp D=>hp.each p (Ow _ (Ow _ D)),(List.pairwise_cons.1 (List.pairwise_cons.1 hp.dis).2).2⟩;have d:=List.pairwise_cons.1 hp.dis;have d2:=List.pairwise_cons.1 d.2;have hs:=h.size.2;refine⟨λx=>T1 x\/T2 x\/(y.ownBlock=some x\/∃p∈B,p.S x),T1,T2,_,⟨h1.1,h2.1,Kk h.own v h.cw (NS hs hl),h1.2.2.2,h2.2.2.2,λ_ h=>h,λx hx=>d.1 _ Pb x hx,λx hx q=> ?_,λx hx q=> ?_⟩,λx hx=> ?_,λx hx=> ?_⟩
 .grind
 .grind
 .rcases hx with q|q|q|⟨p,j,q⟩
  .exact h1.2.1 x q
  .exact h2.2.1 x q
  .rcases h.own.2 with⟨e,_⟩|⟨g,cap,cur,e,_,v,_⟩
   .rw[e]at q;cases q
   .rw[e]at q;cases q;exact⟨(h.own.lt _ (by rw[e];rfl)).2,λo=>by simp[World.frozen?,v]⟩
  .exact(v.each p j).2.1 x q
 .rcases hx with q|q|q|⟨p,j,q⟩
  .grind
  .grind
  .exact(h.own.lt x q).1
  .exact((v.each p j).2.2.1 x q).1
set_option maxRecDepth 20000 in
set_option maxHeartbeats 4000000 in
theorem pU{s:Sg}{t:Z}{lo n:Nat}{w:World}{p:Value}(ht:t.size<=1048576)(hlo:lo<=n)(a:ic s (λb=>lo<=b/\b<n) n w p)(hm:GV w)(hS:bI s=true):
  Calls Tryz.prog 21 #[p,.string t] w λe w'=>∃x y z,e= .returned (.tuple #[.agg (di (peF s t).1 x y z),.bool (peF s t).2])/\Below lo w w'/\rQ n w' (peF s t).1 x y z:=by
 obtain⟨s1,s2,s3⟩:=Den.gY t wIf;have sz:n<=w.heap.size:=by obtain⟨_,_,_,_,_,a⟩:=a;exact a.sz
 have hms:maxLen=9223372036854775807:=rfl;have AA:=Lib.hid a;clear a;obtain⟨c,hc⟩:∃c,c=bG t wIf:=⟨_,rfl⟩;obtain⟨r,hr⟩:∃r,r=bO s c.1:=⟨_,rfl⟩;have E:Hid (Below w.heap.size w (w.alloc (.cells (zE) 35))):=Lib.hid ((Below.refl _ _).alloc (N4 _) _);have b4:=Lib.hid (Blk.new w 35 (zE));have HC:=Lib.hid hc;have HR:=Lib.hid hr;rw[<-hc]at s1 s2 s3;clear hc hr
 go_enter Tryz.func21,Tryz.ntmps21
 go_wp2_with fail
 have A:=Den.Ii t wIf ht (hm.below E.out hm.lt);rw[<-HC.out]at A;refine A.mono ?_;clear A;rintro e w1 ⟨rfl,hb1⟩;have hz1:=hb1.size;simp only[World.size_alloc]at hz1;have E:=Lib.hid (E.out.trans (hb1.mono E.out.size));have b4:=Lib.hid (b4.out.next hb1);clear hb1
 go_wp2_with fail
 have A:=Den.mQ (t:=c.1) A1 (AA.out.aB (E.out.mono sz)) (hm.below E.out hm.lt);rw[<-HR.out]at A;refine A.mono ?_;clear A;rintro e W ⟨u1,T1,u2,T2,rfl,hb2,hp⟩;have q1:co W r.1.ac T1 u1:=(hp.each _ Pb).1;have q2:co W r.2.1.ac T2 u2:=(hp.each _ (Ow _ (List.mem_singleton_self _))).1;obtain⟨F,k1,rfl,_,_⟩:=aI q1.at_;obtain⟨H,I,rfl,_,_⟩:=aI q2.at_
 go_wp2_with fail
 have hz2:=hb2.size;have P0:PL s t w (r.1,r.2.1) W.heap.size c.2.1 c.2.2 r.2.2 [] (.slice none 0 0) (.slice F r.1.ac.length k1) (.slice H r.2.1.ac.length I) [] (t.size+1) (((W.alloc (.cells #[.int .i64 r.1.op,.string r.1.ae,.int .i64 r.1.ag,.slice F r.1.ac.length k1] 32)).alloc (.cells #[.int .i64 r.2.1.op,.string r.2.1.ae,.int .i64 r.2.1.ag,.slice H r.2.1.ac.length I] 32)).alloc (.cells (di ⟨r.1,r.2.1,[]⟩ (.slice F r.1.ac.length k1) (.slice H r.2.1.ac.length I) (.slice none 0 0)) 35)):=by
  have BL2:=E.out.trans (hb2.mono E.out.size);have bb:=(((Below.refl W.heap.size W).alloc (N4 _) (.cells #[.int .i64 r.1.op,.string r.1.ae,.int .i64 r.1.ag,.slice F r.1.ac.length k1] 32)).alloc C3 (.cells #[.int .i64 r.2.1.op,.string r.2.1.ae,.int .i64 r.2.1.ag,.slice H r.2.1.ac.length I] 32)).alloc D5 (.cells (di ⟨r.1,r.2.1,[]⟩ (.slice F r.1.ac.length k1) (.slice H r.2.1.ac.length I) (.slice none 0 0)) 35);exact
  { cont:=by rw[HR.out,HC.out];rfl
    ei:=.inl A1
    size:=⟨λhh=>by have:=s3 hh;have e:wIf.size=4:=rfl;simp;omega,N9 _⟩
    sm:=λc hc=>by cases hc
    bel:=BL2.trans (bb.mono A1)
    own:=World.ownsRow_nil _ _ _ _
    parts:=⟨T1,T2,(hp.aB bb.size λ_ _ x _ h1 _ _=>⟨bb.block x h1,by simp[Value.ownBlock]⟩).lo A1,λx hx=>hx.elim (λq=>((hp.each _ Pb).2.1 x q).1) λq=>((hp.each _ (Ow _ (List.mem_singleton_self _))).2.1 x q).1⟩
    low:=λp hp=>by cases hp
    cw:=rfl
    q4:=(b4.out.next hb2).below bb A1
    q9:=⟨_,_,_,_,((Blk.new W _ _).alloc _).alloc _⟩
    q10:=⟨_,_,_,_,by have:=(Blk.new (W.alloc (.cells #[.int .i64 r.1.op,.string r.1.ae,.int .i64 r.1.ag,.slice F r.1.ac.length k1] 32)) 32 #[.int .i64 r.2.1.op,.string r.2.1.ae,.int .i64 r.2.1.ag,.slice H r.2.1.ac.length I]).alloc (.cells (di ⟨r.1,r.2.1,[]⟩ (.slice F r.1.ac.length k1) (.slice H r.2.1.ac.length I) (.slice none 0 0)) 35);rw[World.size_alloc]at this;exact this⟩
    q12:=by have:=Blk.new ((W.alloc (.cells #[.int .i64 r.1.op,.string r.1.ae,.int .i64 r.1.ag,.slice F r.1.ac.length k1] 32)).alloc (.cells #[.int .i64 r.2.1.op,.string r.2.1.ae,.int .i64 r.2.1.ag,.slice H r.2.1.ac.length I] 32)) 35 (di ⟨r.1,r.2.1,[]⟩ (.slice F r.1.ac.length k1) (.slice H r.2.1.ac.length I) (.slice none 0 0));rw[World.size_alloc,World.size_alloc]at this;exact this
    lt9:=by omega}
 have P0:=Lib.hid P0;clear hb2 hp q1 q2 b4 E;generalize hB9:W.heap.size=C at*
 go_loopw [7,8,11] (λcv hv ov wr=>∃cv' hv' ok' l kv ps N,cv= .string cv'/\hv= .bool hv'/\ov= .bool ok'/\PL s t w (r.1,r.2.1) C cv' hv' ok' l kv (.slice F r.1.ac.length k1) (.slice H r.2.1.ac.length I) ps N wr) (λcv hv _ _=>mB cv hv)
 case atStart=>exact⟨_,_,_,_,_,_,_,rfl,rfl,rfl,P0.out⟩
 case round=>
  clear P0;obtain⟨cv,hv,ok,l,kv,ps,N,rfl,rfl,rfl,J⟩:=hrel;by_cases hb:(hv&&ok)=true
  .simp only[bA]at hb;obtain⟨rfl,rfl⟩:=hb;obtain⟨z1,z2,z3⟩:=Den.gY cv dZ;obtain⟨c2,hc2⟩:∃c2,c2=bG cv dZ:=⟨_,rfl⟩;obtain⟨d,hr2⟩:∃d,d=bO s c2.1:=⟨_,rfl⟩;have hcv:=J.size.1 rfl;rw[<-hc2]at z1 z2 z3;have HP:=Lib.hid J;have HC2:=Lib.hid hc2;have HR2:=Lib.hid hr2;have E:=Lib.hid J.bel;have G:=Lib.hid (hm.below J.bel hm.lt);obtain⟨_,_,_,_,Q⟩:=J.q9;obtain⟨_,_,_,_,j⟩:=J.q10;have K:=Lib.hid J.q12;have Q:=Lib.hid Q;have j:=Lib.hid j;clear hc2 hr2 J
   go_wp2_with fail
   have A:=Den.Ii cv dZ A1 G.out;rw[<-HC2.out]at A;refine A.mono ?_;clear A;rintro e w3 ⟨rfl,hb3⟩;have G:=Lib.hid (G.out.below hb3 G.out.lt)
   go_wp2_with fail
   have A:=Den.mQ (t:=c2.1) A1 (AA.out.aB ((E.out.mono sz).trans (hb3.mono (NS sz E.out.size)))) G.out;rw[<-HR2.out]at A;refine A.mono ?_;clear A;rintro e X ⟨v1,S1,v2,S2,rfl,hb4,Y⟩;have q1:co X d.1.ac S1 v1:=(Y.each _ Pb).1;have q2:co X d.2.1.ac S2 v2:=(Y.each _ (Ow _ (List.mem_singleton_self _))).1;obtain⟨C1,j1,rfl,_,_⟩:=aI q1.at_;obtain⟨C2,j2,rfl,_,_⟩:=aI q2.at_;have hb:=hb3.trans (hb4.mono hb3.size);have HB:=Lib.hid hb;have HP4:=Lib.hid (Y.lo hb3.size);have Q:=Lib.hid (Q.out.next hb);have j:=Lib.hid (j.out.next hb);have K:=Lib.hid (K.out.next hb);obtain⟨_,_,_,_⟩:=Q.out.c4;obtain⟨_,_,_,_⟩:=j.out.c4;have e8:=K.out.cell 8;have g0:=Q.out.frozen 0;have g1:=Q.out.frozen 1;have g2:=Q.out.frozen 2;have g3:=Q.out.frozen 3;have f0:=j.out.frozen 0;have f1:=j.out.frozen 1;have f2:=j.out.frozen 2;have f3:=j.out.frozen 3;have f8:=K.out.frozen 8;simp at e8;clear hb3 hb4 Y q1 q2 hb;have B:=Lib.hid (mY HP.out.own λg hg=>HB.out.block g (HP.out.own.lt g hg).2);have hbl9:=HP.out.lt9
   go_upto_region 8 with fail
   obtain⟨D,L⟩:∃D,D=s8 (s8 X C d.1 (.slice C1 d.1.ac.length j1)) (C+1) d.2.1 (.slice C2 d.2.1.ac.length j2):=⟨_,rfl⟩;show Code.wp _ _ _ _ (s8 (s8 X C d.1 (.slice C1 d.1.ac.length j1)) (C+1) d.2.1 (.slice C2 d.2.1.ac.length j2));rw[<-L];have k9:Blk D C 32 _:=L▸(mO (w:=s8 X C d.1 (.slice C1 d.1.ac.length j1)) (b:=C+1) (t:=d.2.1) (u:=.slice C2 d.2.1.ac.length j2) (x:=C) A1).trans (wQ (t:=d.1) (u:=.slice C1 d.1.ac.length j1) Q.out);have k10:Blk D (C+1) 32 _:=L▸wQ (t:=d.2.1) (u:=.slice C2 d.2.1.ac.length j2) ((mO (w:=X) (b:=C) (t:=d.1) (u:=.slice C1 d.1.ac.length j1) (x:=C+1) A1).trans j.out);have ko:∀x,x≠C->x≠C+1->D.heap[x]? =X.heap[x]? :=λx a b=>by rw[L];exact(mO b).trans (mO a)
   have kb:Below 0 X D:=by rw[L];exact(sn (N9 _)).trans (sn (N9 _))
   have kz:D.heap.size=X.heap.size:=by rw[L,tF,tF]
   clear L;have M:Blk D (C+1+1) 35 _:=(ko _ A1 A1).trans K.out;have n9:=kt B.out Q.out D2;have n10:=kt B.out j.out D2;have n12:=kt B.out K.out D2;have O:=mY B.out λg hg=>ko g (λe=>n9 (e▸hg)) λe=>n10 (e▸hg);have hown6:(D.alloc (.cells #[.int .i64 d.1.op,.string d.1.ae,.int .i64 d.1.ag,.slice C1 d.1.ac.length j1,.int .i64 d.2.1.op,.string d.2.1.ae,.int .i64 d.2.1.ag,.slice C2 d.2.1.ac.length j2] 57)).ownsRow _ _ _ _ _ _:=mY O λg hg=>Below.heap_alloc _ _ _ (O.lt g hg).2;obtain⟨_,_,_,_⟩:=Blk.c4 k9;obtain⟨_,_,_,_⟩:=Blk.c4 k10;have e8:=M.cell 8;simp at e8;have K9:=Lib.hid k9;have K10:=Lib.hid k10;have K12:=Lib.hid M;have KO:=Lib.hid ko;have KZ:=Lib.hid kz;have KB:=Lib.hid kb;have N12:=Lib.hid n12;have hll:=HP.out.size.2;have hbz:=HB.out.size;have hwz:=E.out.size;have hwb:=HP.out.bel.size;have h12l:=K.out.lt;clear k9 k10 M ko kz kb n9 n10 n12 O B Q j K;obtain⟨i0,hi0,hz0,hz1,hz2⟩:=info_parts Tryz.infoCond
   go_wp2_with (first
    |(at_builtin;refine wpList_append_lies _ rfl _ _ 33 rfl (w.heap.size+1) 57 i0 (.agg #[.int .i64 0,.string ⟨#[]⟩,.int .i64 0,.slice none 0 0,.int .i64 0,.string ⟨#[]⟩,.int .i64 0,.slice none 0 0]) 8 112 Tryz.underlying33 hi0 hz0 hz1 hz2 rfl D2 _ _ _ rfl hown6 ⟨D.heap.size,0,none⟩ 1 1 [.int .i64 d.1.op,.string d.1.ae,.int .i64 d.1.ag,.slice C1 d.1.ac.length j1,.int .i64 d.2.1.op,.string d.2.1.ae,.int .i64 d.2.1.ag,.slice C2 d.2.1.ac.length j2] rfl rfl ?c1 ?c2 A1 ?c3 ?c4 ?c5 (D.heap.size+1) ?c6 ?_)
    |go_in)
   case c1=>exact World.news_of_block (Blk.new D 57 #[.int .i64 d.1.op,.string d.1.ae,.int .i64 d.1.ag,.slice C1 d.1.ac.length j1,.int .i64 d.2.1.op,.string d.2.1.ae,.int .i64 d.2.1.ag,.slice C2 d.2.1.ac.length j2])
   case c2=>
    intro u hu;simp only[Oz,Ps,or_false]at hu;rcases hu with rfl|rfl|rfl|rfl|rfl|rfl|rfl|rfl<;>rfl
   case c3=>unfold maxLen;omega
   case c4=>omega
   case c5=>rw[World.size_alloc,KZ.out];omega
   case c6=>rw[World.size_alloc]
   .intro g cap w7 hown' R hat hlt';have M:Blk w7 (C+1+1) 35 _:=(R.block _ (by rw[World.size_alloc,KZ.out];omega) λe=>N12.out e.symm).trans ((Below.heap_alloc _ _ _ (by rw[KZ.out];omega)).trans K12.out);have e8:=M.cell 8;simp at e8;have f8:=M.frozen 8;clear M
    go_wp2_with fail
    go_roundw
    case rel=>
     obtain⟨ps',N',hN⟩:=HP.out.next HC2.out HR2.out HB.out HP4.out ((KB.out).alloc (N9 _) _) (λx a b c=>(Below.heap_alloc _ _ _ (by rw[KZ.out];exact c)).trans (KO.out x a b)) ⟨_,_,_,_,K9.out.alloc _⟩ ⟨_,_,_,_,K10.out.alloc _⟩ hown' R (by rw[World.size_alloc];exact hat)
     exact⟨_,_,_,_,_,ps',N',rfl,rfl,rfl,hN⟩
    case measure=>
     cases hh:c2.2.2 with
     | true=>
      have:=z3 hh;have e5:dZ.size=5:=rfl;simp[mB];omega
     |false=>simp[mB]
  .have hb:=Bool.eq_false_iff.2 hb;have he:jC s t=(ok,l):=J.cont.symm.trans (Den.m8 hb);have hQ:ly s t=⟨r.1,r.2.1,l⟩:=by unfold ly;rw[he,HR.out,HC.out]
   obtain⟨T,T1,T2,T3,hE,hso,hlo⟩:=J.esep ht;obtain⟨A3,k3,hkv,_⟩:=hE.c;subst hkv;have E:=Lib.hid J.bel;have q4:=Lib.hid J.q4;have q12:=Lib.hid J.q12;have hbz:=J.bel.size;have l9:=J.lt9;have HE:=Lib.hid hE;have HS:=Lib.hid hso;have HL:=Lib.hid hlo;have hsm:Den.SmE ⟨r.1,r.2.1,l⟩:=by rw[HR.out];exact Den.Ik J.sm
   have S:Hid (¬(ok=true/\iz s ⟨r.1,r.2.1,l⟩=true/\oI s ⟨r.1,r.2.1,l⟩=t)->peF s t=(⟨Den.Zt,Den.Zt,[]⟩,false)):=Lib.hid λh=>N3 (by rw[he,hQ];exact h);have hyes:Hid (ok=true/\iz s ⟨r.1,r.2.1,l⟩=true/\oI s ⟨r.1,r.2.1,l⟩=t->peF s t=(⟨r.1,r.2.1,l⟩,true)):=Lib.hid λh=>(N1 (by rw[he,hQ];exact h)).trans (by rw[hQ]);clear J hE hso hlo he hQ;cases ok with
   | false=>
    obtain⟨⟨U,c1,c2,c3,c4,c5,c6,c7,c8⟩,f0,f1,f2,f3,f4,f5,f6,f7,f8⟩:=ig q4.out;cases hv<;>go_wp2_with fail
    all_goals
     refine bodyPost_ret (v:=.tuple #[.agg zE,.bool false]) I1 rfl ⟨.slice none 0 0,.slice none 0 0,.slice none 0 0,?_,?_,?_⟩
     .rw[S.out C3];rfl
     .exact(E.out.mono A1).trans (eI A1)
     .rw[S.out C3];exact kY _ _
   | true=>
    obtain rfl:hv=false:=by simpa using hb
    have q12:Hid (Blk wr (C+1+1) 35 #[.int .i64 r.1.op,.string r.1.ae,.int .i64 r.1.ag,.slice F r.1.ac.length k1,.int .i64 r.2.1.op,.string r.2.1.ae,.int .i64 r.2.1.ag,.slice H r.2.1.ac.length I,.slice A3 l.length k3]):=q12;obtain⟨⟨U,c1,c2,c3,c4,c5,c6,c7,c8⟩,f0,f1,f2,f3,f4,f5,f6,f7,f8⟩:=ig q12.out;clear f0 f1 f2 f3 f4 f5 f6 f7 f8;obtain⟨bq,hbq⟩:∃b,b=iz s ⟨r.1,r.2.1,l⟩:=⟨_,rfl⟩;have V:=Lib.hid hbq;clear hbq
    go_wp2_with fail
    have A:=Den.vD hS hsm (AA.out.aB (E.out.mono sz)) (HE.out.at_.mono (S':=λb=>¬(lo<=b/\b<n)) λb hb _ h=>Qm);rw[<-V.out]at A;refine A.mono ?_;clear A;rintro e D ⟨rfl,a5,b5,k5⟩;have bz5:=b5.size;have BB:Hid (Below lo w D):=Lib.hid ((E.out.mono A1).trans ⟨b5.os,b5.tape,b5.output,b5.size,λb hb=>k5 b A1 A1⟩);have q4:Hid (Blk D w.heap.size 35 zE):=Lib.hid ((k5 _ q4.out.lt A1).trans q4.out);have q12l:=q12.out.lt;have q12:Hid (Blk D (C+1+1) 35 #[.int .i64 r.1.op,.string r.1.ae,.int .i64 r.1.ag,.slice F r.1.ac.length k1,.int .i64 r.2.1.op,.string r.2.1.ae,.int .i64 r.2.1.ag,.slice H r.2.1.ac.length I,.slice A3 l.length k3]):=Lib.hid ((k5 _ q12l A1).trans q12.out);have hT5:∀b,T b->b<wr.heap.size:=λb hb=>(HS.out b hb).1;have HT:Hid (∀b,T b->b<wr.heap.size):=Lib.hid hT5;have HE:Hid (nf D ⟨r.1,r.2.1,l⟩ T (.slice F r.1.ac.length k1) (.slice H r.2.1.ac.length I) (.slice A3 l.length k3) T1 T2 T3):=Lib.hid (HE.out.aB λb hb=>k5 b (hT5 b hb) λq=>Qm);have HS:Hid (cR T D):=Lib.hid λb hb=>⟨NV (HS.out b hb).1 bz5,λo=>(World.frozen?_of_block (k5 b (hT5 b hb) λq=>Qm)).trans ((HS.out b hb).2 o)⟩;have A5:=Lib.hid a5;clear U c1 c2 c3 c4 c5 c6 c7 c8 a5 b5 k5 hT5;cases bq with
    | false=>
     obtain⟨⟨U,c1,c2,c3,c4,c5,c6,c7,c8⟩,f0,f1,f2,f3,f4,f5,f6,f7,f8⟩:=ig q4.out
     go_wp2_with fail
     refine bodyPost_ret (v:=.tuple #[.agg zE,.bool false]) I1 rfl ⟨.slice none 0 0,.slice none 0 0,.slice none 0 0,?_,?_,?_⟩
     .rw[S.out (by rw[<-V.out];simp)];rfl
     .exact BB.out.trans (eI A1)
     .rw[S.out (by rw[<-V.out];simp)];exact kY _ _
    | true=>
     obtain⟨⟨U,c1,c2,c3,c4,c5,c6,c7,c8⟩,f0,f1,f2,f3,f4,f5,f6,f7,f8⟩:=ig q12.out;clear f0 f1 f2 f3 f4 f5 f6 f7 f8;obtain⟨tx,htx⟩:∃b,b=oI s ⟨r.1,r.2.1,l⟩:=⟨_,rfl⟩;have HTX:=Lib.hid htx;clear htx
     go_wp2_with fail
     have A:=Den.ox (Den.Gt hS hsm V.out.symm) A5.out (HE.out.at_.mono (S':=λb=>¬((lo<=b/\b<n)\/wr.heap.size<=b)) λb hb _ h=>by have:=HL.out b hb;have:=HT.out b hb;omega);rw[<-HTX.out]at A;refine A.mono ?_;clear A;rintro e w6 ⟨rfl,a6,b6,k6⟩;have bz6:=b6.size;have BB:Hid (Below lo w w6):=Lib.hid (BB.out.trans ⟨b6.os,b6.tape,b6.output,b6.size,λb hb=>k6 b A1 A1⟩);have q4:Hid (Blk w6 w.heap.size 35 zE):=Lib.hid ((k6 _ q4.out.lt A1).trans q4.out);have q12:Hid (Blk w6 (C+1+1) 35 #[.int .i64 r.1.op,.string r.1.ae,.int .i64 r.1.ag,.slice F r.1.ac.length k1,.int .i64 r.2.1.op,.string r.2.1.ae,.int .i64 r.2.1.ag,.slice H r.2.1.ac.length I,.slice A3 l.length k3]):=Lib.hid ((k6 _ q12.out.lt A1).trans q12.out);have hT6:∀b,T b->w6.heap[b]? =D.heap[b]? :=λb hb=>k6 b (HS.out b hb).1 λq=>by have:=HL.out b hb;have:=HT.out b hb;omega
     have HE:Hid (nf w6 ⟨r.1,r.2.1,l⟩ T (.slice F r.1.ac.length k1) (.slice H r.2.1.ac.length I) (.slice A3 l.length k3) T1 T2 T3):=Lib.hid (HE.out.aB hT6);have HS:Hid (cR T w6):=Lib.hid λb hb=>⟨NV (HS.out b hb).1 bz6,λo=>(World.frozen?_of_block (hT6 b hb)).trans ((HS.out b hb).2 o)⟩;clear U c1 c2 c3 c4 c5 c6 c7 c8 A5 a6 b6 k6 hT6;by_cases htt:tx=t
     .have e1:(tx.toList==t.toList)=true:=by rw[htt];simp
      obtain⟨⟨U,c1,c2,c3,c4,c5,c6,c7,c8⟩,f0,f1,f2,f3,f4,f5,f6,f7,f8⟩:=ig q4.out;obtain⟨⟨d0,d1,d2,d3,d4,d5,d6,d7,d8⟩,_⟩:=ig q12.out;have hy:=hyes.out ⟨C3,V.out.symm,HTX.out.symm.trans htt⟩
      go_wp2_with fail
      refine bodyPost_ret (v:=.tuple #[.agg (di ⟨r.1,r.2.1,l⟩ (.slice F r.1.ac.length k1) (.slice H r.2.1.ac.length I) (.slice A3 l.length k3)),.bool true]) I1 rfl ⟨.slice F r.1.ac.length k1,.slice H r.2.1.ac.length I,.slice A3 l.length k3,?_,?_,?_⟩
      .rw[hy]
      .exact BB.out.trans (eI A1)
      .rw[hy];exact rQ.put HE.out HS.out λb hb=>Qm
     .have e1:(tx.toList==t.toList)=false:=by rw[<-beq_toListBytes,<-Den.By];exact dF htt
      obtain⟨⟨U,c1,c2,c3,c4,c5,c6,c7,c8⟩,f0,f1,f2,f3,f4,f5,f6,f7,f8⟩:=ig q4.out;have hn:=S.out λh=>htt (HTX.out.trans h.2.2)
      go_wp2_with fail
      refine bodyPost_ret (v:=.tuple #[.agg zE,.bool false]) I1 rfl ⟨.slice none 0 0,.slice none 0 0,.slice none 0 0,?_,?_,?_⟩
      .rw[hn];rfl
      .exact BB.out.trans (eI A1)
      .rw[hn];exact kY _ _
end
end
section
open Den (Cnd Eqn Sg GV peF jC bO bI AT C Ob CFn)
noncomputable section
theorem BN{s:Sg}{t:Z}(h:bI s=false):peF s t=(⟨Den.Zt,Den.Zt,[]⟩,false):=by
 have hs:∀x,(bO s x).2.2=false:=λx=>Bool.eq_false_iff.2 λq=>by rw[(Den.A9 q).2]at h;cases h
 have e:jC s t=(false,[]):=by unfold jC;rw[hs];exact Den.m8 (Bool.and_false _)
 exact N3 λq=>by rw[e]at q;cases q.1
section
variable {s : Sg} {t : Z} {w : World} {v u z : Value} (h : At w Any (strs s.ai.ah) v) (k : At w Any (ak s.ai.ak) u) (l : At w Any (iP s.ops) z) (ht : t.size ≤ 1048576)
include h k l ht
theorem Kr:Calls Tryz.prog 5 #[.agg #[v,u,z],.string t] w λe w'=>∃x y q,e= .returned (.tuple #[.agg (di (peF s t).1 x y q),.bool (peF s t).2])/\EqAt w' Any (peF s t).1 x y q/\Below w.heap.size w w':=by
 have d:CFn Tryz.prog 5 [.agg [.l .s s.ai.ah,.l (.n 5) s.ai.ak,.l (.n 8) s.ops],.one (.s t)] [] (.tup [.agg (Den.mF (peF s t).1),.one (.b (peF s t).2)]) []:=by
  obtain⟨v,H',e,q⟩:=Den.z3r (AT×RV Ob) [.agg [.l .s s.ai.ah,.l (.n 5) s.ai.ak,.l (.n 8) s.ops],.one (.s t)] [] (λv H'=>some (v,H')) (.tup [.agg (Den.mF (peF s t).1),.one (.b (peF s t).2)],[]) (by
   show Option.bind (Den.gPE s t) _=_;rw[show Den.gPE s t=some (peF s t)from N1 ht];rfl)
  cases e;exact q
 obtain⟨v1,j,A⟩:=Den.uW (J:=λb=>b<w.heap.size) (λb _ hb=>hb) h k l;obtain⟨N,B,C⟩:=Den.AY (w:=w) (J:=λb=>b<w.heap.size) (x:=t) QE;refine(Den.gN d (λ_ hb=>hb) (Den.cL j (Den.cL B Den.ge)) (Den.dN A (Den.dN C Den.jy))).mono λe w' ⟨r,h',ι',O,c,ρ',E,q1,_,D,hb⟩=> ?_;obtain⟨P,Q,c1,c2,rfl,F,G,H,I⟩:=Den.mN q1 D.res;obtain⟨x,y,q,rfl,K⟩:=Den.IP F G;obtain⟨R,L,M⟩:=Den.fP H I;obtain rfl:=Den.ji L M;exact⟨x,y,q,E,K.mono λ_ _ _=>trivial,hb⟩
set_option maxRecDepth 20000 in
set_option maxHeartbeats 2000000 in
theorem JD(hm:GV w):Calls Tryz.prog 7 #[.agg #[v,u,z],.string t] w λe w'=>∃x y q,e= .returned (.tuple #[.agg (di (peF s t).1 x y q),.bool (peF s t).2])/\Below w.heap.size w w'/\rQ w.heap.size w' (peF s t).1 x y q:=by
 obtain⟨A,c,rfl,_,_⟩:=au h;obtain⟨E,d,rfl,_,_⟩:=au k;obtain⟨F,f,rfl,_,_⟩:=au l;have j:Hid (Below w.heap.size w ((w.alloc (.cells #[.slice A s.ai.ah.length c,.slice E s.ai.ak.length d,.slice F s.ops.length f] 43)).alloc (.cells zE 35))):=Lib.hid (((Below.refl _ _).alloc (N4 _) _).alloc C3 _);have b2:=Lib.hid ((Blk.new w 43 #[.slice A s.ai.ah.length c,.slice E s.ai.ak.length d,.slice F s.ops.length f]).alloc (.cells zE 35));have b4:=Lib.hid (Blk.new (w.alloc (.cells #[.slice A s.ai.ah.length c,.slice E s.ai.ak.length d,.slice F s.ops.length f] 43)) 35 zE);have R:=Lib.hid h;have S:=Lib.hid k;have U:=Lib.hid l;clear h k l
 go_enter Tryz.func7,Tryz.ntmps7
 go_wp2_with fail
 refine(Den.vt (R.out.below j.out) (S.out.below j.out) (U.out.below j.out)).mono ?_;rintro e w1 ⟨hb1,p,rfl,hA⟩;have G:=hb1.size;simp only[World.size_alloc]at G;have q4:=b4.out.next hb1
 rw[World.size_alloc]at q4;have j:=Lib.hid (j.out.trans (hb1.mono j.out.size));have V:=Lib.hid q4;cases hS:bI s with
 | false=>
  obtain⟨⟨H,c1,c2,c3,c4,c5,c6,c7,c8⟩,W,X,Y,Z,f4,f5,f6,f7,f8⟩:=ig q4;clear hb1 hA q4 b2 b4
  go_wp2_with fail
  refine bodyPost_ret (v:=.tuple #[.agg zE,.bool false]) Q0 rfl ⟨.slice none 0 0,.slice none 0 0,.slice none 0 0,?_,?_,?_⟩
  .rw[BN hS];rfl
  .exact j.out.trans (eI A1)
  .rw[BN hS];exact kY _ _
 | true=>
  have J:=Lib.hid (hA hS);clear hb1 hA q4 b2 b4;obtain⟨B,o,_,_,_,rfl,_⟩:=J.out.sig
  go_wp2_with fail
  refine(pU ht D5 J.out (hm.below j.out hm.lt) hS).mono ?_;rintro e w2 ⟨x,y,q,rfl,hb2,C⟩;obtain⟨T,T1,T2,T3,K,D,C⟩:=C;obtain⟨L,M,rfl,_,_⟩:=aI C.l.at_;obtain⟨N,O,rfl,_,_⟩:=aI C.r.at_;obtain⟨P,Q,rfl,_⟩:=id C.c;have q4:=V.out.below hb2 C3;obtain⟨⟨H,c1,c2,c3,c4,c5,c6,c7,c8⟩,W,X,Y,Z,f4,f5,f6,f7,f8⟩:=ig q4;have I:=Lib.hid hb2;have HE:=Lib.hid C;have HT:=Lib.hid K;have HS:=Lib.hid D;clear hb2 C K D q4
  go_wp2_with fail
  refine bodyPost_ret (v:=.tuple #[.agg (di (peF s t).1 (.slice L (peF s t).1.left.ac.length M) (.slice N (peF s t).1.right.ac.length O) (.slice P (peF s t).1.aM.length Q)),.bool (peF s t).2]) Q0 rfl ⟨.slice L (peF s t).1.left.ac.length M,.slice N (peF s t).1.right.ac.length O,.slice P (peF s t).1.aM.length Q,rfl,?_,?_⟩
  .exact(j.out.trans (I.out.mono D5)).trans (eI A1)
  .exact rQ.put HE.out HS.out λb hb=>by have:=HT.out b hb;omega
end
end
end
section
open Den (Cnd Eqn ca)
set_option maxRecDepth 20000 in
set_option maxHeartbeats 4000000 in
theorem mz(ts:RV Tm)(n c:Nat)(hl:ts.length=n*2)(A:Y Addr)(w:World)(S:Nat->Prop)(k:Int)(hc:c<=9223372036854775807)(hn:n<=c)(h:co w ts S (.slice A ts.length ts.length))(hs:cR S w)(h0:0<=k)(h1:k+3*ap ts<=1073741824):
  Calls Tryz.prog 29 #[.slice A n c,.int .i64 k] w λe w'=>e= .returned (.int .i64 (aX k ts).2)/\bt S w w'/\co w' (aX k ts).1 S (.slice A ts.length ts.length):=by
 have M0:=Lib.hid (qu.zero h hs h0 h1);clear h hs
 go_enter Tryz.func29,Tryz.ntmps29
 go_wp2_with fail
 go_loopw [1,5] (λl i wr=>∃(j:Nat)(kk:Int),j<=n/\i= .int .i64 j/\l= .int .i64 kk/\qu w ts S (.slice A ts.length ts.length) k (j*2) kk wr) (λ_ i _=>n-(intOf i).toNat)
 case atStart=>exact⟨0,k,N9 _,rfl,rfl,by rw[PM];exact M0.out⟩
 case round=>
  obtain⟨j,kk,hj,rfl,rfl,y⟩:=hrel;by_cases hlt:j<n
  .obtain⟨b,off,t,B,d,rfl,R,l0,l1,v⟩:=y.next A1
   obtain⟨⟨_,L⟩,M,v⟩:=v (off+j*8) A1;have C:=Lib.hid v;clear v y
   go_wp2_with fail
   refine(dV (kk+1) _ A1 A1).mono ?_;rintro e w1 ⟨rfl,N,hb1'⟩;obtain⟨⟨⟨_,U⟩,⟨_,d2⟩,V,g1,W⟩,v⟩:=C.out w1 hb1';obtain⟨T,q1,q2,v⟩:=v N;have C:=Lib.hid v;have J:=Lib.hid q1;have K:=Lib.hid q2;clear v q1 q2 hb1' L M
   go_wp2_with fail
   refine(lH t.ac _ T _ _ J.out K.out A1 A1).mono ?_;rintro e w3 ⟨rfl,F,G⟩;have y:=C.out w3 F G;generalize (aX (kk+1+1+1) t.ac).2=k2 at y ⊢;clear F G C J K U d2 V g1 W;obtain⟨b',X,t',B',d',O,P,l0',l1',v⟩:=y.next A1
   injection O with O
   injection O with e1 e2
   subst e1 e2;obtain⟨⟨_,L⟩,M,v⟩:=v (off+j*8+4) A1;have C:=Lib.hid v;clear v y
   go_wp2_with fail
   refine(dV (k2+1) _ A1 A1).mono ?_;rintro e w4 ⟨rfl,Q,D⟩;obtain⟨⟨⟨_,U⟩,⟨_,d2⟩,V,g1,W⟩,v⟩:=C.out w4 D;obtain⟨T',q1,q2,v⟩:=v Q;have C:=Lib.hid v;have J:=Lib.hid q1;have K:=Lib.hid q2;clear v q1 q2 D L M
   go_wp2_with fail
   refine(lH t'.ac _ T' _ _ J.out K.out A1 A1).mono ?_;rintro e w5 ⟨rfl,H,I⟩;have E:=C.out w5 H I;rw[(A1:j*2+1+1=(j+1)*2)]at E;clear H I
   go_wp2_with fail
   go_roundw
   case rel=>exact⟨j+1,_,A1,by go_num,rfl,E⟩
   case measure=>simp[intOf];omega
  .obtain rfl:j=n:=A1
   rw[<-hl]at y;have Z:=Lib.hid y.done;clear y
   go_wp2_with fail
   go_ret
   exact⟨by have e:=Z.out.1;subst e;rfl,Z.out.2⟩
set_option maxRecDepth 20000 in
set_option maxHeartbeats 4000000 in
theorem mu(ts:RV Tm)(n c:Nat)(hl:ts.length=n*2)(A:Y Addr)(w:World)(S:Nat->Prop)(k:Int)(hc:c<=9223372036854775807)(hn:n<=c)(h:At w S (cw (aX k ts).1) (.slice A ts.length ts.length))(h0:0<=k)(h1:k+3*ap ts<=1073741824):
  Calls Tryz.prog 31 #[.slice A n c,.int .i64 k] w λe w'=>e= .returned (.int .i64 (aX k ts).2)/\Below w.heap.size w w':=by
 go_enter Tryz.func31,Tryz.ntmps31
 go_wp2_with fail
 go_loopw [1,5] (λl i wr=>∃(j:Nat)(kk:Int),j<=n/\i= .int .i64 j/\l= .int .i64 kk/\kk=(aX k (ts.take (j*2))).2/\Below w.heap.size w wr) (λ_ i _=>n-(intOf i).toNat)
 case atStart=>exact⟨0,k,N9 _,rfl,rfl,by rw[PM,OE,fW],Below.refl _ _⟩
 case round=>
  obtain⟨j,kk,hj,rfl,rfl,v,hb⟩:=hrel;by_cases hlt:j<n
  .have e8:j*2<ts.length:=A1
   obtain⟨b,off,t,B,d,rfl,y,N,l0,l1,O,G,P⟩:=we (h.below hb) (q:=j*2) A1 v h0 h1;obtain⟨L,C,D,E,Q⟩:=P (off+j*8) A1;have F:=Lib.hid G;have hge:decide ((aX (kk+1+1+1) t.ac).2<0)=false:=dF A1;have R:(kk !=kk)=false:=C3
   have T:(Den.dp (kk+1) !=Den.dp (kk+1))=false:=kB _;have U:(kk+1+1 !=kk+1+1)=false:=C3
   clear G v P
   go_upto_region 7 with fail
   have hb:=hb.drew;have H:=Lib.hid (show wr.drew.cell? ⟨b,off+j*8+2,none⟩=_ from D);have I:=Lib.hid (show wr.drew.cell? ⟨b,off+j*8+3,none⟩=_ from E);have J:=Lib.hid (Q.below (Below.refl wr.heap.size wr).drew);have C:wr.drew.cell? ⟨b,off+j*8+1,none⟩=_:=C;have y:b<wr.drew.heap.size:=y;clear D E Q L
   go_region_held3 (λw'=>w'.cell? ⟨b,off+j*8+1,none⟩=some (.string (Den.dp (kk+1)))) (go_keep)
    (first|(go_at_call 54;refine(dV (kk+1) _ A1 A1).mono ?_;rintro e Z ⟨rfl,_,hb1'⟩;have C:=(hb1'.cell (p:=⟨b,off+j*8+1,none⟩) y).trans C))
   have D:=(hb1'.cell (p:=⟨b,off+j*8+2,none⟩) y).trans H.out;have E:=(hb1'.cell (p:=⟨b,off+j*8+3,none⟩) y).trans I.out;have J:=Lib.hid (J.out.below hb1');have hb:=hb.trans (hb1'.mono hb.size)
   go_wp2_with fail
   refine(lT t _ S _ _ J.out A1 A1).mono ?_;rintro e M ⟨rfl,hb3⟩;have hb:=hb.trans (hb3.mono hb.size);have v:=F.out;generalize (aX (kk+1+1+1) t.ac).2=K at v hge ⊢;clear D E hb3 hb1' F J H I R T U;obtain⟨b',W,X,B',d',V,y,N,l0,l1,O,G,P⟩:=we (h.below hb) (q:=j*2+1) A1 v h0 h1;injection V with V
   injection V with R T
   subst R T;obtain⟨L,C,D,E,Q⟩:=P (off+j*8+4) A1;have F:=Lib.hid G;have hge:decide ((aX (K+1+1+1) X.ac).2<0)=false:=dF A1;have R:(K !=K)=false:=C3
   have T:(Den.dp (K+1) !=Den.dp (K+1))=false:=kB _;have U:(K+1+1 !=K+1+1)=false:=C3
   clear G v P
   go_upto_region 19 with fail
   have hb:=hb.drew;have H:=Lib.hid (show M.drew.cell? ⟨b,off+j*8+4+2,none⟩=_ from D);have I:=Lib.hid (show M.drew.cell? ⟨b,off+j*8+4+3,none⟩=_ from E);have J:=Lib.hid (Q.below (Below.refl M.heap.size M).drew);have C:M.drew.cell? ⟨b,off+j*8+4+1,none⟩=_:=C;have y:b<M.drew.heap.size:=y;clear D E Q L
   go_region_held3 (λw'=>w'.cell? ⟨b,off+j*8+4+1,none⟩=some (.string (Den.dp (K+1)))) (go_keep)
    (first|(go_at_call 54;refine(dV (K+1) _ A1 A1).mono ?_;rintro e Z ⟨rfl,_,hb1'⟩;have C:=(hb1'.cell (p:=⟨b,off+j*8+4+1,none⟩) y).trans C))
   have D:=(hb1'.cell (p:=⟨b,off+j*8+4+2,none⟩) y).trans H.out;have E:=(hb1'.cell (p:=⟨b,off+j*8+4+3,none⟩) y).trans I.out;have J:=Lib.hid (J.out.below hb1');have hb:=hb.trans (hb1'.mono hb.size)
   go_wp2_with fail
   refine(lT X _ S _ _ J.out A1 A1).mono ?_;rintro e w5 ⟨rfl,hb3⟩;have hb:=hb.trans (hb3.mono hb.size);have v:=F.out;clear D E hb3 hb1' F J H I R T U;rw[(A1:j*2+1+1=(j+1)*2)]at v;have F:=Lib.hid v;clear v
   go_wp2_with fail
   go_roundw
   case rel=>exact⟨j+1,_,A1,by go_num,rfl,F.out,hb⟩
   case measure=>simp[intOf];omega
  .have HK:Hid (kk=(aX k ts).2):=by
    obtain rfl:j=n:=A1
    rw[<-hl,OQ]at v;exact v
   clear v
   go_wp2_with fail
   go_ret
   exact⟨by have e:=HK.out;subst e;rfl,hb⟩
noncomputable def mr(e:Eqn):Int:=(aX 1 e.left.ac).2
noncomputable def pV(e:Eqn):Int:=(aX (mr e) e.right.ac).2
noncomputable def Ai(e:Eqn):Int:=(aX (pV e) (ca e.aM)).2
theorem BW(e:Eqn):(aX 1 e.left.ac).2=mr e:=rfl
theorem Cp(e:Eqn):(aX (mr e) e.right.ac).2=pV e:=rfl
theorem Cr(e:Eqn):(aX (pV e) (ca e.aM)).2=Ai e:=rfl
def qI(e:Eqn):Nat:=ap e.left.ac+ap e.right.ac+ap (ca e.aM)
theorem zk(e:Eqn)(h:qI e<=1048576):1<=mr e/\mr e+3*ap e.right.ac<=1073741824/\mr e<=pV e/\pV e+3*ap (ca e.aM)<=1073741824/\pV e<=Ai e/\(1:Int)+3*ap e.left.ac<=1073741824:=by
 have h1:=mj e.left.ac 1;have h2:=mj e.right.ac (mr e);have d:=mj (ca e.aM) (pV e);unfold qI at h;unfold Ai pV mr at*;omega
structure EMk(w:World)(e:Eqn)(T:Nat->Prop)(x y z:Value):Prop where
 l:At w T (cw (aX 1 e.left.ac).1) x
 r:At w T (cw (aX (mr e) e.right.ac).1) y
 c:∃A k,z= .slice A e.aM.length k/\e.aM.length<=k/\k<=9223372036854775807/\At w T (cw (aX (pV e) (ca e.aM)).1) (.slice A (ca e.aM).length (ca e.aM).length)
theorem EMk.below{w w':World}{e:Eqn}{T:Nat->Prop}{x y z:Value}(h:EMk w e T x y z)(hb:Below w.heap.size w w'):EMk w' e T x y z:=
 ⟨h.l.below hb,h.r.below hb,let⟨A,k,a,b,c,d⟩:=h.c;⟨A,k,a,b,c,d.below hb⟩⟩
set_option maxRecDepth 20000 in
set_option maxHeartbeats 4000000 in
theorem pi{e:Eqn}{w:World}{T T1 T2 T3:Nat->Prop}{x y z:Value}(h:nf w e T x y z T1 T2 T3)(hs:cR T w)(ht:qI e<=1048576):
  Calls Tryz.prog 11 #[.agg (di e x y z),.int .i64 1] w λq w'=>q= .returned (.int .i64 (Ai e))/\bt T w w'/\EMk w' e T x y z:=by
 obtain⟨I,k1,rfl,_,_⟩:=aI h.l.at_;obtain⟨J,K,rfl,_,_⟩:=aI h.r.at_;obtain⟨C,D,rfl,c1,c2,c3,_⟩:=id h.c;obtain⟨m1,m2,m3,m4,m5,m6⟩:=zk e ht;have hb:Below w.heap.size w (w.alloc (.cells (di e (.slice I e.left.ac.length k1) (.slice J e.right.ac.length K) (.slice C e.aM.length D)) 35)):=(Below.refl _ _).alloc (N4 _) _;have X:¬T w.heap.size:=λq=>by have:=(hs _ q).1;omega
 have H:=Lib.hid (h.aB λb hq=>hb.block b (hs b hq).1);have L:=Lib.hid (hs.alloc (.cells (di e (.slice I e.left.ac.length k1) (.slice J e.right.ac.length K) (.slice C e.aM.length D)) 35));have Y:=Lib.hid (Blk.new w 35 (di e (.slice I e.left.ac.length k1) (.slice J e.right.ac.length K) (.slice C e.aM.length D)));have Z:=Lib.hid X;have A:∀b,T1 b->T b:=λb q=>h.sub b (.inl q);have B:∀b,T2 b->T b:=λb q=>h.sub b (.inr (.inl q));have t3:∀b,T3 b->T b:=λb q=>h.sub b (.inr (.inr q));clear h hs hb X;obtain⟨⟨M,N,d2,O,d4,d5,d6,P,Q⟩,_⟩:=ig Y.out
 go_enter Tryz.func11,Tryz.ntmps11
 go_wp2_with fail
 have j:=nu e.left _ T1 _ 1 H.out.l (λb q=>L.out b (A b q)) A1 m6;rw[BW]at j;refine j.mono ?_;clear j;rintro q w1 ⟨rfl,t,E⟩;have L1:=Lib.hid t;have B1:=Lib.hid (t.blk Y.out λq=>Z.out (A _ q));have S:=Lib.hid E;have R1:=Lib.hid (H.out.r.bU t λb q=>⟨(L.out b (B b q)).1,λr=>H.out.d12 b r q⟩);have R:=Lib.hid (L.out.bU t);clear t E M N d2 O d4 d5 d6 P Q;obtain⟨⟨M,N,d2,O,d4,d5,d6,P,Q⟩,_⟩:=ig B1.out
 go_wp2_with fail
 have j:=nu e.right _ T2 _ (mr e) R1.out (λb q=>R.out b (B b q)) A1 m2;rw[Cp]at j;refine j.mono ?_;clear j;rintro q w2 ⟨rfl,d,F⟩;have B2:=Lib.hid (d.blk B1.out λq=>Z.out (B _ q));have S:=Lib.hid (S.out.bU d λb q=>⟨(R.out b (A b q)).1,λr=>H.out.d12 b q r⟩);have S2:=Lib.hid F;obtain⟨_,_,e3,_,_,_,U⟩:=id H.out.c;simp only[Value.slice.injEq]at e3;obtain⟨rfl, -, -⟩:=e3;have U:=Lib.hid ((U.bU L1.out λb q=>⟨(L.out b (t3 b q)).1,λr=>H.out.d13 b r q⟩).bU d λb q=>⟨(R.out b (t3 b q)).1,λr=>H.out.d23 b r q⟩);have V:=Lib.hid (R.out.bU d);have L2:=Lib.hid ((L1.out.mono A).trans (d.mono B));clear d F M N d2 O d4 d5 d6 P Q;obtain⟨⟨M,N,d2,O,d4,d5,d6,P,Q⟩,_⟩:=ig B2.out
 go_wp2_with fail
 have j:=mz (ca e.aM) e.aM.length D (gQ _) C _ T3 (pV e) c2 c1 U.out (λb q=>V.out b (t3 b q)) A1 m4;rw[Cr]at j;refine j.mono ?_;clear j;rintro q w3 ⟨rfl,v,G⟩;have W:Hid (bt T w w3/\EMk w3 e T (.slice I e.left.ac.length k1) (.slice J e.right.ac.length K) (.slice C e.aM.length D)):=Lib.hid ⟨bt.front _ (L2.out.trans (v.mono t3)),(S.out.bU v λb q=>⟨(V.out b (A b q)).1,λr=>H.out.d13 b q r⟩).at_.mono λb q _=>A b q,(S2.out.bU v λb q=>⟨(V.out b (B b q)).1,λr=>H.out.d23 b q r⟩).at_.mono λb q _=>B b q,⟨_,_,rfl,c1,c2,G.at_.mono λb q _=>t3 b q⟩⟩;clear v G
 go_wp2_with fail
 go_ret
 exact⟨rfl,W.out⟩
set_option maxRecDepth 20000 in
set_option maxHeartbeats 4000000 in
theorem jk{e:Eqn}{w:World}{T:Nat->Prop}{x y z:Value}(h:EMk w e T x y z)(ht:qI e<=1048576):
  Calls Tryz.prog 12 #[.agg (di e x y z),.int .i64 1] w λq w'=>q= .returned (.int .i64 (Ai e))/\Below w.heap.size w w':=by
 obtain⟨F,k1,rfl,_,_⟩:=aI h.l;obtain⟨G,H,rfl,_,_⟩:=aI h.r;obtain⟨D,E,rfl,c1,c2,I⟩:=h.c;obtain⟨m1,J,O,K,P,L⟩:=zk e ht;have l1:=eE e.left.ac 1;have l2:=eE e.right.ac (mr e);have hb:Hid (Below w.heap.size w (w.alloc (.cells (di e (.slice F (aX 1 e.left.ac).1.length k1) (.slice G (aX (mr e) e.right.ac).1.length H) (.slice D e.aM.length E)) 35))):=Lib.hid ((Below.refl _ _).alloc (N4 _) _);have j:=Lib.hid (Blk.new w 35 (di e (.slice F (aX 1 e.left.ac).1.length k1) (.slice G (aX (mr e) e.right.ac).1.length H) (.slice D e.aM.length E)));have M:=Lib.hid h.l;have HR:=Lib.hid h.r;have N:=Lib.hid I;have g1:decide (mr e<0)=false:=dF A1;have Q:decide (pV e<0)=false:=dF A1;have R:decide (Ai e<0)=false:=dF A1;clear h I l1 l2;obtain⟨⟨t,v,d2,A,d4,d5,d6,B,C⟩,_⟩:=ig j.out
 go_enter Tryz.func12,Tryz.ntmps12
 go_wp2_with fail
 have d:=mX e.left _ T e.left.op e.left.ae e.left.ag _ 1 (M.out.below hb.out) A1 L;rw[BW]at d;refine d.mono ?_;clear d;rintro q S ⟨rfl,hb1⟩;have hb:=Lib.hid (hb.out.trans (hb1.mono hb.out.size));have j:=Lib.hid (j.out.next hb1);clear hb1 t v d2 A d4 d5 d6 B C;obtain⟨⟨t,v,d2,A,d4,d5,d6,B,C⟩,_⟩:=ig j.out
 go_wp2_with fail
 have d:=mX e.right _ T e.right.op e.right.ae e.right.ag _ (mr e) (HR.out.below hb.out) A1 J;rw[Cp]at d;refine d.mono ?_;clear d;rintro q U ⟨rfl,hb2⟩;have hb:=Lib.hid (hb.out.trans (hb2.mono hb.out.size));have j:=Lib.hid (j.out.next hb2);clear hb2 t v d2 A d4 d5 d6 B C;obtain⟨⟨t,v,d2,A,d4,d5,d6,B,C⟩,_⟩:=ig j.out
 go_wp2_with fail
 have d:=mu (ca e.aM) e.aM.length E (gQ _) D _ T (pV e) c2 c1 (N.out.below hb.out) A1 K;rw[Cr]at d;refine d.mono ?_;clear d;rintro q V ⟨rfl,hb3⟩;have hb:=Lib.hid (hb.out.trans (hb3.mono hb.out.size));clear hb3
 go_wp2_with fail
 go_ret
 exact⟨rfl,hb.out⟩
end
end Go.Proofs.YtigoabbppmdfpaaGreat

/- merged -/
import Derived.Deep.RegionHeld3
import Derived.Deep.CutRange
import Derived.Test.YtigoabbppmdfpaaGreatZRowPE8
import Derived.Test.YtigoabbppmdfpaaGreatZRowPE9
import Derived.Test.YtigoabbppmdfpaaGreatZRowPE10
import Derived.Test.YtigoabbppmdfpaaGreatZRowPE25
import Derived.Test.YtigoabbppmdfpaaGreatZRowPE27

namespace Go.Proofs.YtigoabbppmdfpaaGreat.Den
open Go.RowKit
section
set_option maxRecDepth 100000
set_option linter.unusedVariables false
noncomputable section
namespace z1r
structure Gs where
 z27:z27.Q
def aq{R:Type}(G:Gs)(n:Nat)(a b:Cnd)(K:Bool->Y R):Y R:=
 (G.z27 (Tm.mk a.left.op a.left.ae a.left.ag a.left.ac) (Tm.mk b.left.op b.left.ae b.left.ag b.left.ac)).bind λr=>
 bif !r then
  (K false)
 else
  (G.z27 (Tm.mk a.right.op a.right.ae a.right.ag a.right.ac) (Tm.mk b.right.op b.right.ae b.right.ag b.right.ac)).bind λd=>
  bif !d then
   (K false)
  else
   K true
def cO(G:Gs)(a b:Cnd)(r:Bool):Prop:=∃n,aq (R:=AT×RV Ob) G n a b (λd=>some (.one (.b d),[]))=some (.one (.b r),[])
theorem ok{G:Gs}(d:am [z27.ent G.z27]){g:Q}(h:∀a b r,g a b=some r->cO G a b r):aj (ent g):=okQ λ_ _ _ _ _ _ _ _ _ _ _ _ _ _ _ _ _ _ _ hc=>okL hc λr j=>let⟨_,j⟩:=h _ _ _ j;fF d ⟨17,0,[],[],[4],[],[]⟩ nP Tryz.func48 j
end z1r
namespace z1s
structure Gs where
 z1r:z1r.Q
def ax(G:Gs):RV Ent:=[z1r.ent G.z1r]
def b4{R:Type}(G:Gs)(n:Nat)(a b:LK)(i:Int)(nx:LK->LK->Int->Y R)(j:Bool->Y R)(k1:Y R):Y R:=bif decide (i<(List.length a:Int))then((ix a i).bind λd=>(ix b i).bind λh=>(G.z1r (Cnd.mk (Tm.mk d.left.op d.left.ae d.left.ag d.left.ac) (Tm.mk d.right.op d.right.ae d.right.ag d.right.ac)) (Cnd.mk (Tm.mk h.left.op h.left.ae h.left.ag h.left.ac) (Tm.mk h.right.op h.right.ae h.right.ag h.right.ac))).bind λt=>bif !t then(j false)else nx a b (wr (i+1)))else k1
def l4{R:Type}(G:Gs)(n m:Nat)(a b:LK)(i:Int)(d:Bool->Y R)(k1:Y R):Y R:=aS (λ(v:LK×LK×Int) nx=>b4 G n v.1 v.2.1 v.2.2 (λh j t=>nx (h,j,t)) d k1) m (a,b,i)
def aq{R:Type}(G:Gs)(n:Nat)(a b:LK)(K:Bool->Y R):Y R:=
 bif !decide ((List.length a:Int)=(List.length b:Int))then
  (K false)
 else
  l4 G n n a b 0
   (λt4=>K t4)
   (K true)
def dl4(G:Gs)(n m:Nat):=rS [0,1,5] [.x (.l (.n 13)),.x (.l (.n 13)),.x .i] [] λR K a b i=>l4 G n m a b i (λt4=>K .ret ⟨[(4,.one (.b t4))],[]⟩) (K (.exit 0) ⟨[],[]⟩)
def pc(G:Gs)(n:Nat):Pcs:=⟨λR id st K=>bif Nat.beq id 4 then dl4 G n n R st K else none,nK,nK⟩
def an:Ann:=⟨27,0,[(4,[0,1,5])],[],[4],[(6,⟨[([0,1,2,3,4,5,6,7,8,9],[],[])],[],[],[],[]⟩)],[]⟩
abbrev bd:=aF Tryz.f23
abbrev q4:=aJ [1,1,0,1,0,0] bd
theorem pl4{G:Gs}(d:am (ax G))(n:Nat):∀m,al an (.loop q4) (dl4 G n m):=lpq d (pc G n) ⟨[],[4],[(0,[])]⟩
def cO(G:Gs)(a b:LK)(r:Bool):Prop:=∃n,aq (R:=AT×RV Ob) G n a b (λd=>some (.one (.b d),[]))=some (.one (.b r),[])
theorem ok{G:Gs}(d:am (ax G)){g:Q}(h:∀a b r,g a b=some r->cO G a b r):aj (ent g):=okQ λ_ _ _ _ _ hc=>okL hc λr j=>let⟨n,j⟩:=h _ _ _ j;fF d an (pc G n) Tryz.func23 j (apl [(1,4,.loop q4)] ⟨pl4 d n n,trivial⟩)
end z1s
namespace z1v
structure Gs where
 z27:z27.Q
 z1s:z1s.Q
def aq{R:Type}(G:Gs)(n:Nat)(a b:Eqn)(K:Bool->Y R):Y R:=
 (G.z27 (Tm.mk a.left.op a.left.ae a.left.ag a.left.ac) (Tm.mk b.left.op b.left.ae b.left.ag b.left.ac)).bind λr=>
 bif !r then
  (K false)
 else
  (G.z27 (Tm.mk a.right.op a.right.ae a.right.ag a.right.ac) (Tm.mk b.right.op b.right.ae b.right.ag b.right.ac)).bind λd=>
  bif !d then
   (K false)
  else
   (G.z1s a.aM b.aM).bind λh=>
   bif !h then
    (K false)
   else
    K true
def cO(G:Gs)(a b:Eqn)(r:Bool):Prop:=∃n,aq (R:=AT×RV Ob) G n a b (λd=>some (.one (.b d),[]))=some (.one (.b r),[])
theorem ok{G:Gs}(d:am [z27.ent G.z27,z1s.ent G.z1s]){g:Q}(h:∀a b r,g a b=some r->cO G a b r):aj (ent g):=okQ λ_ _ _ _ _ _ _ _ _ _ _ _ _ _ _ _ _ _ _ _ _ hc=>okL hc λr j=>let⟨_,j⟩:=h _ _ _ j;fF d ⟨23,0,[],[],[4],[],[]⟩ nP Tryz.func8 j
end z1v
end
end
section
open Classical
def SmQ(c:Cnd):Prop:=c.left.az<2097152/\c.right.az<2097152
theorem vN{t:Tm}(h:t.az<2097152):mi 2097152 t t=some true:=N1 ⟨rfl,h⟩
theorem Cnd.eta:∀c:Cnd,Cnd.mk (Cnd.left c) (Cnd.right c)=c
 |⟨_,_⟩=>rfl
noncomputable def xp:Cnd->Cnd->Y Bool:=λf g=>if f=g/\SmQ f then some true else none
theorem MO:aj (z1r.ent xp):=z1r.ok (G:=⟨mi 2097152⟩) ⟨AB _ (N4 _),trivial⟩ λf g r h=>by
 unfold xp at h;split at h
 .rename_i hs;obtain⟨rfl,hs⟩:=hs;cases h;refine⟨1,?_⟩;unfold z1r.aq;rw[Tm.eta,Tm.eta];show Option.bind (mi 2097152 f.left f.left) _=_;rw[vN hs.1];show Option.bind (mi 2097152 f.right f.right) _=_;rw[vN hs.2];rfl
 .cases h
noncomputable def xJ:RV Cnd->RV Cnd->Y Bool:=λf g=>if f=g/\f.length<=1048576/\∀c∈f,SmQ c then some true else none
theorem JU:aj (z1s.ent xJ):=z1s.ok (G:=⟨xp⟩) ⟨MO,trivial⟩ λxs ys r h=>by
 unfold xJ at h;split at h
 .rename_i hs;obtain⟨rfl,hl,hs⟩:=hs;cases h;refine⟨List.length (α:=Cnd) xs+1,?_⟩;unfold z1s.aq;rw[dT rfl,N5,cF];have key:∀m (i:Nat),i<=List.length (α:=Cnd) xs->List.length (α:=Cnd) xs-i<m->z1s.l4 ⟨xp⟩ (List.length (α:=Cnd) xs+1) m xs xs (i:Int) (λt4=>some (AT.one (.b t4),([]:RV Ob))) (some (.one (.b true),[]))=some (.one (.b true),[]):=by
   intro m
   induction m with
   |zero=>exact RQ
   | succ m d=>
    intro i h1 hm;show z1s.b4 ⟨xp⟩ (List.length (α:=Cnd) xs+1) xs xs (i:Int) (λj t v=>z1s.l4 ⟨xp⟩ (List.length (α:=Cnd) xs+1) m j t v (λt4=>some (AT.one (.b t4),([]:RV Ob))) (some (.one (.b true),[]))) (λt4=>some (AT.one (.b t4),([]:RV Ob))) (some (.one (.b true),[]))=_;unfold z1s.b4;by_cases hi:i<List.length (α:=Cnd) xs
    .obtain⟨x,w,y⟩:=bu hi;rw[bB hi,cT,aZ w,bS,bS,Tm.eta,Tm.eta,Cnd.eta];show Option.bind (xp x x) _=_;rw[show xp x x=some true from N1 ⟨rfl,hs x y⟩,bS,bN A1];exact d (i+1) hi A1
    .grind
  exact key _ 0 (N9 _) A1
 .cases h
def SmF(e:Eqn):Prop:=e.left.az<2097152/\e.right.az<2097152/\e.aM.length<=1048576/\∀c∈e.aM,SmQ c
noncomputable def IX:Eqn->Eqn->Y Bool:=λf g=>if f=g/\SmF f then some true else none
theorem MR:aj (z1v.ent IX):=z1v.ok (G:=⟨mi 2097152,xJ⟩) ⟨AB _ (N4 _),JU,trivial⟩ λf g r h=>by
 unfold IX at h;split at h
 .rename_i hs;obtain⟨rfl,h1,h2,d⟩:=hs;cases h;refine⟨1,?_⟩;unfold z1v.aq;rw[Tm.eta,Tm.eta];show Option.bind (mi 2097152 f.left f.left) _=_;rw[vN h1];show Option.bind (mi 2097152 f.right f.right) _=_;rw[vN h2];show Option.bind (xJ f.aM f.aM) _=_;rw[show xJ f.aM f.aM=some true from N1 ⟨rfl,d⟩];rfl
 .cases h
theorem jK{w:World}{e:Eqn}{x y z t A B:Value}(h:EqAt w Any e x y z)(k:EqAt w Any e t A B)(hs:SmF e):
  Calls Tryz.prog 8 #[.agg (di e x y z),.agg (di e t A B)] w λq w'=>q= .returned (.bool true)/\Below w.heap.size w w':=by
 have d:CFn Tryz.prog 8 [.agg (mF e),.agg (mF e)] [] (.one (.b true)) []:=by
  obtain⟨v,H',j,q⟩:=MR (AT×RV Ob) [.agg (mF e),.agg (mF e)] [] (λv H'=>some (v,H')) (.one (.b true),[]) (by
   show Option.bind (IX (Eqn.mk (Tm.mk _ _ _ _) (Tm.mk _ _ _ _) _) (Eqn.mk (Tm.mk _ _ _ _) (Tm.mk _ _ _ _) _)) _=_;rw[Tm.eta,Tm.eta,Eqn.eta,show IX e e=some true from N1 ⟨rfl,hs⟩];rfl)
  cases j;exact q
 obtain⟨v1,C,E⟩:=u7 (J:=λb=>b<w.heap.size) (λ_ _ hb=>hb) h;obtain⟨K,F,G⟩:=u7 (J:=λb=>b<w.heap.size) (λ_ _ hb=>hb) k;refine(gN d (λ_ hb=>hb) (cL (C _ _) (cL (F _ _) ge)) (dN (E _) (dN (G _) jy))).mono λq w' ⟨r,h',ι',L,c,ρ',j,q1,_,D,hb⟩=> ?_;obtain⟨x,H,I⟩:=fP q1 D.res;obtain rfl:=ji H I;exact⟨j,hb⟩
end
end Go.Proofs.YtigoabbppmdfpaaGreat.Den
namespace Go.Proofs.YtigoabbppmdfpaaGreat
open Go.RowKit
open Den (Sb So Dc Opr Sg Eqn GV)
structure MSE(t:Eqn)(x y z:Value)(p B:Nat)(W:World):Prop where
 gB:Blk W p 35 (di t x y z)
 at_:EqAt W (λb=>b<B) t x y z
section
variable {t : Eqn} {x y z : Value} {p B : Nat} {W W' : World} {S : Nat → Prop}
theorem MSE.next(h:MSE t x y z p B W)(hb:Below W.heap.size W W'):MSE t x y z p B W':=⟨h.gB.next hb,h.at_.below hb⟩
theorem MSE.alloc(h:MSE t x y z p B W)(o:Obj):MSE t x y z p B (W.alloc o):=h.next ((Below.refl _ _).alloc (N4 _) _)
theorem MSE.drew(h:MSE t x y z p B W):MSE t x y z p B W.drew:=h.next (Below.refl _ _).drew
theorem MSE.bU(h:MSE t x y z p B W)(hL:bt S W W')(hp:¬S p)(hS:∀b,S b->B<=b):MSE t x y z p B W':=⟨hL.blk h.gB hp,h.at_.bU hL λb hb hs=>by have:=hS b hs;omega⟩
end
structure MGE(t:Eqn)(x y z:Value)(p B:Nat)(T T1 T2 T3:Nat->Prop)(W:World):Prop where
 gB:Blk W p 35 (di t x y z)
 from_:∀b,T b->B<=b/\b<p
 soft:cR T W
 sep:nf W t T x y z T1 T2 T3
section
variable {t : Eqn} {x y z : Value} {p B : Nat} {W W' : World} {S T T1 T2 T3 : Nat → Prop}
theorem MGE.next(h:MGE t x y z p B T T1 T2 T3 W)(hb:Below W.heap.size W W'):MGE t x y z p B T T1 T2 T3 W':=⟨h.gB.next hb,h.from_,h.soft.bU (bt.eS (S:=T) hb),h.sep.aB λb q=>hb.block b (h.soft b q).1⟩
theorem MGE.drew(h:MGE t x y z p B T T1 T2 T3 W):MGE t x y z p B T T1 T2 T3 W.drew:=h.next (Below.refl _ _).drew
theorem MGE.bU(h:MGE t x y z p B T T1 T2 T3 W)(hL:bt S W W')(hp:B<=p)(hS:∀b,S b->b<B):MGE t x y z p B T T1 T2 T3 W':=⟨hL.blk h.gB λq=>by have:=hS _ q;omega,h.from_,h.soft.bU hL,h.sep.aB λb q=>hL.block b (h.soft b q).1 λr=>by have:=hS _ r;have:=(h.from_ b q).1;omega⟩
end
def Nv(s:Sg)(x:Z)(t:Eqn)(ok:Bool):Prop:=∀(w:World)(v u z:Value),iy w Any s v u z->
  Calls Tryz.prog 5 #[.agg #[v,u,z],.string x] w λe w'=>∃a b c,e= .returned (.tuple #[.agg (di t a b c),.bool ok])/\EqAt w' Any t a b c/\Below w.heap.size w w'
def Nw(s:Sg)(x:Z)(t:Eqn)(ok:Bool):Prop:=∀(w:World)(v u z:Value),iy w Any s v u z->GV w->
  Calls Tryz.prog 7 #[.agg #[v,u,z],.string x] w λe w'=>∃a b c,e= .returned (.tuple #[.agg (di t a b c),.bool ok])/\Below w.heap.size w w'/\rQ w.heap.size w' t a b c
set_option maxRecDepth 100000 in
set_option maxHeartbeats 8000000 in
theorem iV(s:Sg)(x:Z)(t:Eqn)(ok:Bool)(hS:x.size<=1048576->Nv s x t ok)(hI:x.size<=1048576->Nw s x t ok)(V:Den.SmF t)(C:qI t<=1048576)
  (w:World) (D:GV w) (v u z:Value) (h:iy w Any s v u z) (hx:x.size<=maxLen):
  Calls Tryz.prog 3 #[.agg #[v,u,z],.string x] w λe w'=>e= .returned (.bool true)/\Below w.heap.size w w':=by
 obtain⟨A,c,rfl,hn,hc⟩:=au h.n;obtain⟨E,d,rfl,hm,hd⟩:=au h.b;obtain⟨F,f,rfl,hp,hf⟩:=au h.o
 have hA0:Hid (MA s (.slice A (So.ah (Sg.ai s)).length c) (.slice E (So.ak (Sg.ai s)).length d) (.slice F (Sg.ops s).length f) w (w.alloc (.cells #[.slice A (So.ah (Sg.ai s)).length c,.slice E (So.ak (Sg.ai s)).length d,.slice F (Sg.ops s).length f] 28))):=
  Lib.hid ⟨(Below.refl _ _).alloc (N4 _) _,C3,Blk.new _ _ _,h.old.below ((Below.refl _ _).alloc (N4 _) _)⟩
 have hxs:x.size<=9223372036854775807:=Qs
 clear h;by_cases hx1:(1048576:Int)<x.size
 .have hxx:decide ((1048576:Int)<x.size)=true:=D5
  go_enter Tryz.func3,Tryz.ntmps3
  go_wp2_with fail
  go_ret
  exact⟨rfl,hA0.out.bel⟩
 have HSp:=Lib.hid (hS A1);have HIm:=Lib.hid (hI A1);clear hS hI;have hbq:(ok !=ok)=false:=by cases ok<;>rfl
 have hsm:=MZ s
 go_enter Tryz.func3,Tryz.ntmps3
 go_wp2_with fail
 refine(pS s 1048576 _ _ _ _ _ hA0.out.at_.n hA0.out.at_.b hA0.out.at_.o A1 A1).mono ?_;rintro e w1 ⟨r1,rfl,hs,hb1⟩;rcases hs with rfl|⟨hs0,hs1⟩
 .have a:=Lib.hid (hA0.out.next hb1)
  go_wp2_with fail
  go_ret
  exact⟨rfl,a.out.bel⟩
 .have N:sgW s<=1048576:=A1
  have hneg:decide (r1<0)=false:=dF A1;have a:=Lib.hid (hA0.out.next hb1);clear hA0 hb1;obtain⟨_,_,_⟩:=a.out.gB.c3
  go_wp2_with fail
  refine(fd s _ _ _ _ _ a.out.at_.n a.out.at_.b a.out.at_.o N).mono ?_;rintro e w2 ⟨v2,u2,z2,rfl,n2,b2,o2,hb2,un2⟩;obtain⟨A2,c2,rfl,_,_⟩:=au n2;obtain⟨E2,d2,rfl,_,_⟩:=au b2;obtain⟨F2,f2,rfl,_,_⟩:=au o2;have a:=Lib.hid (a.out.next hb2)
  go_wp2_with fail
  refine(HSp.out _ _ _ _ ⟨n2.any,b2.any,o2.any⟩).mono ?_;rintro e wc ⟨sv,sv2,sv3,rfl,sa,hbc⟩;obtain⟨L2,e2,rfl,_,_⟩:=aI sa.l;obtain⟨M2,g2,rfl,_,_⟩:=aI sa.r;obtain⟨N2,i2,rfl,_,_⟩:=au sa.c;have a:=Lib.hid ((a.out.next hbc).alloc (.cells (di t (.slice L2 t.left.ac.length e2) (.slice M2 t.right.ac.length g2) (.slice N2 t.aM.length i2)) 35));have j:Hid (MSE t (.slice L2 t.left.ac.length e2) (.slice M2 t.right.ac.length g2) (.slice N2 t.aM.length i2) wc.heap.size wc.heap.size (wc.alloc (.cells (di t (.slice L2 t.left.ac.length e2) (.slice M2 t.right.ac.length g2) (.slice N2 t.aM.length i2)) 35))):=Lib.hid ⟨Blk.new _ _ _,(sa.mono λ_ _ h=>h).below ((Below.refl _ _).alloc (N4 _) _)⟩;have lo:=a.out.lo;simp only[World.size_alloc]at lo;clear n2 b2 o2 un2 sa;obtain⟨_,_,_⟩:=a.out.gB.c3
  go_wp2_with fail
  refine(fd s _ _ _ _ _ a.out.at_.n a.out.at_.b a.out.at_.o N).mono ?_;rintro e W ⟨v3,u3,z3,rfl,n3,b3,o3,hb3,un3⟩;obtain⟨A3,c3,rfl,_,_⟩:=au n3;obtain⟨E3,d3,rfl,_,_⟩:=au b3;obtain⟨F3,f3,rfl,_,_⟩:=au o3;have z3:=hb3.size;simp only[World.size_alloc]at z3
  have B:Hid (MX s W.heap.size (.slice A3 (So.ah (Sg.ai s)).length c3) (.slice E3 (So.ak (Sg.ai s)).length d3) (.slice F3 (Sg.ops s).length f3) (λb=>wc.heap.size+1<=b/\b<W.heap.size) (W.alloc (.cells #[.slice A3 (So.ah (Sg.ai s)).length c3,.slice E3 (So.ak (Sg.ai s)).length d3,.slice F3 (Sg.ops s).length f3] 43))):=
   Lib.hid ⟨Blk.new _ _ _,(un3.alloc _ _).soft λb hb=>⟨by rw[World.size_alloc];exact hb.1,Qx⟩,(iy.mono (S:=cA (wc.alloc (.cells (di t (.slice L2 t.left.ac.length e2) (.slice M2 t.right.ac.length g2) (.slice N2 t.aM.length i2)) 35)).heap.size) ⟨n3,b3,o3⟩ λb hb hlt=>⟨by have hb:_<=b:=hb;rw[World.size_alloc]at hb;exact hb,hlt⟩).below ((Below.refl _ _).alloc (N4 _) _)⟩
  have a:=Lib.hid ((a.out.next hb3).alloc (.cells #[.slice A3 (So.ah (Sg.ai s)).length c3,.slice E3 (So.ak (Sg.ai s)).length d3,.slice F3 (Sg.ops s).length f3] 43));have j:=Lib.hid ((j.out.next hb3).alloc (.cells #[.slice A3 (So.ah (Sg.ai s)).length c3,.slice E3 (So.ak (Sg.ai s)).length d3,.slice F3 (Sg.ops s).length f3] 43));clear n3 b3 o3 un3;obtain⟨_,_,_⟩:=B.out.gB.c3
  go_wp2_with fail
  refine(HIm.out _ _ _ _ B.out.at_.any (D.below a.out.bel D.lt)).mono ?_;rintro e w6 ⟨gv,gv2,gv3,rfl,hb6,T,T1,T2,T3,hT,O,hg⟩;obtain⟨L7,d7,rfl,_,_⟩:=aI hg.l.at_;obtain⟨M7,g7,rfl,_,_⟩:=aI hg.r.at_;obtain⟨N7,i7,rfl,_,_⟩:=au hg.c.at_;have z6:=hb6.size;simp only[World.size_alloc]at z6 hT;have y:Hid (MGE t (.slice L7 t.left.ac.length d7) (.slice M7 t.right.ac.length g7) (.slice N7 t.aM.length i7) w6.heap.size (W.heap.size+1) T T1 T2 T3 (w6.alloc (.cells (di t (.slice L7 t.left.ac.length d7) (.slice M7 t.right.ac.length g7) (.slice N7 t.aM.length i7)) 35))):=Lib.hid ⟨Blk.new _ _ _,λb hb=>⟨hT b hb,(O b hb).1⟩,O.alloc _,hg.aB λb hb=>Below.heap_alloc _ _ _ (O b hb).1⟩;have a:=Lib.hid ((a.out.next hb6).alloc (.cells (di t (.slice L7 t.left.ac.length d7) (.slice M7 t.right.ac.length g7) (.slice N7 t.aM.length i7)) 35));have j:=Lib.hid ((j.out.next hb6).alloc (.cells (di t (.slice L7 t.left.ac.length d7) (.slice M7 t.right.ac.length g7) (.slice N7 t.aM.length i7)) 35));have B:=Lib.hid ((B.out.next hb6).alloc (.cells (di t (.slice L7 t.left.ac.length d7) (.slice M7 t.right.ac.length g7) (.slice N7 t.aM.length i7)) 35));clear hg hT O;obtain⟨⟨_,_,_,_,_,_,_,_,_⟩,_⟩:=ig j.out.gB;obtain⟨⟨_,_,_,_,_,_,_,_,_⟩,_⟩:=ig y.out.gB
  go_wp2_with fail
  refine(Den.jK (y.out.sep.at_.mono λ_ _ _=>trivial) (j.out.at_.mono λ_ _ _=>trivial) V).mono ?_;rintro e w7 ⟨rfl,hb7⟩;have a:=Lib.hid (a.out.next hb7);have j:=Lib.hid (j.out.next hb7);have B:=Lib.hid (B.out.next hb7);have y:=Lib.hid (y.out.next hb7)
  go_upto_region 12 with fail
  have a:=Lib.hid a.out.drew;have j:=Lib.hid j.out.drew;have B:=Lib.hid B.out.drew;have y:=Lib.hid y.out.drew;obtain⟨q1,q2,q3⟩:=B.out.gB.c3;obtain⟨q4,q5,q6⟩:=a.out.gB.c3
  go_region_held3 (λw'=>w'.cell? ⟨W.heap.size,0,none⟩=some (.slice A3 (So.ah (Sg.ai s)).length c3)/\w'.cell? ⟨W.heap.size,1,none⟩=some (.slice E3 (So.ak (Sg.ai s)).length d3)/\w'.cell? ⟨W.heap.size,2,none⟩=some (.slice F3 (Sg.ops s).length f3)/\
    w'.cell? ⟨w.heap.size,0,none⟩=some (.slice A (So.ah (Sg.ai s)).length c)/\w'.cell? ⟨w.heap.size,1,none⟩=some (.slice E (So.ak (Sg.ai s)).length d)/\w'.cell? ⟨w.heap.size,2,none⟩=some (.slice F (Sg.ops s).length f)) (go_keep)
   (first|(go_at_call 6;refine(fd s _ (Old w) _ _ _ ?_ ?_ ?_ N).mono ?_;(exact a.out.at_.n);(exact a.out.at_.b);(exact a.out.at_.o);rintro e w8 ⟨v8,u8,z8,rfl,n8,b8,o8,hb8,_⟩;obtain⟨A8,c8,rfl,_,_⟩:=au n8;obtain⟨E8,d8,rfl,_,_⟩:=au b8;obtain⟨F8,f8,rfl,_,_⟩:=au o8;have a:=Lib.hid (a.out.next hb8);have j:=Lib.hid (j.out.next hb8);have B:=Lib.hid (B.out.next hb8);have y:=Lib.hid (y.out.next hb8);obtain⟨q1,q2,q3⟩:=B.out.gB.c3;obtain⟨q4,q5,q6⟩:=a.out.gB.c3)|(go_at_call 9;refine(p7 s _ _ _ _ _ _ _ ?_ ?_ ?_ ?_ ?_ ?_).mono ?_;(exact B.out.at_.any.n);(exact B.out.at_.any.b);(exact B.out.at_.any.o);(exact n8.any);(exact b8.any);(exact o8.any);rintro e w9 ⟨rfl,hb9⟩;have a:=Lib.hid (a.out.next hb9);have j:=Lib.hid (j.out.next hb9);have B:=Lib.hid (B.out.next hb9);have y:=Lib.hid (y.out.next hb9);obtain⟨q1,q2,q3⟩:=B.out.gB.c3;obtain⟨q4,q5,q6⟩:=a.out.gB.c3))
  clear n8 b8 o8 hb8 hb9
  go_wp2_with fail
  refine(np s 1 _ _ _ _ _ B.out.at_.n.shape B.out.at_.b.shape B.out.at_.o.shape B.out.soft A1 A1).mono ?_;rintro e w14 ⟨k1,rfl,hk1,hk2,P⟩;have a:=Lib.hid (a.out.bU P λb hb=>A1);have j:=Lib.hid (j.out.bU P A1 λb hb=>A1);have y:=Lib.hid (y.out.bU P A1 λb hb=>A1);clear B P;have hk5:0<=k1:=A1
  have hk6:decide (k1<0)=false:=D5
  obtain⟨⟨_,_,_,_,_,_,_,_,_⟩,_⟩:=ig j.out.gB;obtain⟨⟨_,_,_,_,_,_,_,_,_⟩,_⟩:=ig y.out.gB
  go_wp2_with fail
  refine(Den.jK (y.out.sep.at_.mono λ_ _ _=>trivial) (j.out.at_.mono λ_ _ _=>trivial) V).mono ?_;rintro e w17 ⟨rfl,hb17⟩;have a:=Lib.hid (a.out.next hb17);have j:=Lib.hid (j.out.next hb17);have y:=Lib.hid (y.out.next hb17);obtain⟨⟨_,_,_,_,_,_,_,_,_⟩,_⟩:=ig y.out.gB
  go_wp2_with fail
  refine(pi y.out.sep y.out.soft C).mono ?_;rintro e w18 ⟨rfl,Q,hm4⟩;have a:=Lib.hid (a.out.bU Q λb hb=>by have:=(y.out.from_ b hb).1;omega);have j:=Lib.hid (j.out.bU Q (λq=>by have:=(y.out.from_ _ q).1;omega) λb hb=>by have:=(y.out.from_ b hb).1;omega);have GB:=Lib.hid (Q.blk y.out.gB λq=>by have:=(y.out.from_ _ q).2;omega);have R:=Lib.hid hm4;clear y Q hm4;obtain⟨l1,_,l2,_,l3,_⟩:=zk t C;obtain⟨m,hm0⟩:∃m,m=Ai t:=⟨_,rfl⟩;rw[<-hm0]at l3 ⊢;have HMM:=Lib.hid hm0;clear hm0;have hne:(m !=m)=false:=C3
  have hge:decide (m<0)=false:=D5
  obtain⟨⟨_,_,_,_,_,_,_,_,_⟩,_⟩:=ig GB.out
  go_wp2_with fail
  have X:=jk R.out C;rw[<-HMM.out]at X;refine X.mono ?_;clear X;rintro e w19 ⟨rfl,hb19⟩;have a:=Lib.hid (a.out.next hb19);have j:=Lib.hid (j.out.next hb19);have GB:=Lib.hid (GB.out.next hb19);have R:=Lib.hid (R.out.below hb19);obtain⟨_,_,_⟩:=a.out.gB.c3
  go_wp2_with fail
  refine(fd s _ _ _ _ _ a.out.at_.n a.out.at_.b a.out.at_.o N).mono ?_;rintro e w20 ⟨v20,u20,z20,rfl,Y,b20,o20,hb20,_⟩;obtain⟨A20,c20,rfl,_,_⟩:=au Y;obtain⟨E20,d20,rfl,_,_⟩:=au b20;obtain⟨F20,f20,rfl,_,_⟩:=au o20
  go_wp2_with fail
  refine(HIm.out _ _ _ _ ⟨Y.any,b20.any,o20.any⟩ ((D.below a.out.bel D.lt).below hb20 (D.below a.out.bel D.lt).lt)).mono ?_;rintro e w21 ⟨gx,gx2,gx3,rfl,hb21,U,U1,U2,U3,_,_,G⟩;obtain⟨H,I,rfl,_,_⟩:=aI G.l.at_;obtain⟨J,K,rfl,_,_⟩:=aI G.r.at_;obtain⟨L,M,rfl,_,_⟩:=au G.c.at_;have a:=Lib.hid (((a.out.next hb20).next hb21).alloc (.cells (di t (.slice H t.left.ac.length I) (.slice J t.right.ac.length K) (.slice L t.aM.length M)) 35));have j:=Lib.hid (((j.out.next hb20).next hb21).alloc (.cells (di t (.slice H t.left.ac.length I) (.slice J t.right.ac.length K) (.slice L t.aM.length M)) 35));have GB:=Lib.hid (((GB.out.next hb20).next hb21).alloc (.cells (di t (.slice H t.left.ac.length I) (.slice J t.right.ac.length K) (.slice L t.aM.length M)) 35));have R:=Lib.hid (((R.out.below hb20).below hb21).below ((Below.refl _ _).alloc (N4 _) (.cells (di t (.slice H t.left.ac.length I) (.slice J t.right.ac.length K) (.slice L t.aM.length M)) 35)));have HG:=Lib.hid ((G.at_.mono (S':=Any) λ_ _ _=>trivial).below ((Below.refl _ _).alloc (N4 _) (.cells (di t (.slice H t.left.ac.length I) (.slice J t.right.ac.length K) (.slice L t.aM.length M)) 35)));clear Y b20 o20 G;obtain⟨⟨_,_,_,_,_,_,_,_,_⟩,_⟩:=ig j.out.gB
  go_wp2_with fail
  refine(Den.jK HG.out (j.out.at_.mono λ_ _ _=>trivial) V).mono ?_;rintro e w22 ⟨rfl,hb22⟩;have a:=Lib.hid (a.out.next hb22);have GB:=Lib.hid (GB.out.next hb22);have R:=Lib.hid (R.out.below hb22);obtain⟨⟨_,_,_,_,_,_,_,_,_⟩,_⟩:=ig GB.out
  go_wp2_with fail
  have X:=jk R.out C;rw[<-HMM.out]at X;refine X.mono ?_;clear X;rintro e w23 ⟨rfl,hb23⟩;have a:=Lib.hid (a.out.next hb23)
  go_wp2_with fail
  go_ret
  exact⟨rfl,a.out.bel⟩
end Go.Proofs.YtigoabbppmdfpaaGreat

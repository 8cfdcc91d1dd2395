/- merged -/
import Derived.Test.YtkegnipofloejaaGreatDoorZRowMT8

namespace Go.Proofs.YtkegnipofloejaaGreatDoor.Den
open Go.RowKit
section
set_option maxRecDepth 100000
set_option linter.unusedVariables false
noncomputable section
namespace z3r
structure Gs where
 none_:Unit
def aq{R:Type}(G:Gs)(n:Nat)(ah:Z)(result:Int)(ae:LI)(K:Opr->Y R):Y R:=K (Opr.mk ah [(Dc.mk ae result)] false false 0)
theorem ok{G:Gs}(d:ap []){g:Q}(h:∀ah result ae r,g ah result ae=some r->∃n,aq (R:=AT×Td Ob) G n ah result ae (λr0=>some (Uy r0,[]))=some (Uy r,[])):aj (ent g):=okQ λ_ _ _ _ _ _ hc=>Tk hc (h _ _ _) λ_ _ j=>fF d ⟨13,0,[],[],[6],[],[]⟩ nP Tryz.func116 j
end z3r
namespace z3q
structure Gs where
 none_:Unit
def aq{R:Type}(G:Gs)(n:Nat)(ah:Z)(result:Int)(ae:LI)(K:Opr->Y R):Y R:=K (Opr.mk ah [(Dc.mk ae result)] false false 0)
theorem ok{G:Gs}(d:ap []){g:Q}(h:∀ah result ae r,g ah result ae=some r->∃n,aq (R:=AT×Td Ob) G n ah result ae (λr0=>some (UJ r0,[.row (.n 7) 0 r0.aJ]))=some (UJ r,[.row (.n 7) 0 r.aJ])):aj (ent g):=okQ λ_ _ _ _ _ _ hc=>Tk hc (h _ _ _) λ_ _ j=>fR d ⟨13,0,[],[],[6],[],[]⟩ nP Tryz.func116 j
end z3q
namespace z3n
structure Gs where
 z3e:z3e.Q
 z3r:z3r.Q
 z3q:z3q.Q
def ents(G:Gs):Td Ent:=[z3e.ent G.z3e,NB 102 (z3r.ent G.z3r) (z3q.ent G.z3q)]
def c28{R:Type}(G:Gs)(n:Nat)(h0:LI)(v w:Int)(h2:LB)(C:LS)(h4:LO)(D:LB)(E:LS)(y:LO)(A:Z)(d h:Bool)(j:Int)(t:LD)(B:LO->Y R):Y R:=(lim (y++[(Opr.mk A t d h j)])).bind λzs=>B zs
variable{R:Type}(G:Gs)(n:Nat)
def c21(h0:LI)(t v:Int)(h2:LB)(E:LS)(h4:LO)(F:LB)(H:LS)(I:LO)(J:Z)(w y:Bool)(A:Int)(B:LD)(C:LI->Int->Int->LO->Y R):Y R:=(lim (I++[(Opr.mk J B w y A)])).bind λzs=>(G.z3e (Cur.mk h0 t v) 3).bind λr=>bif r.1 then((G.z3q (ByteArray.mk #[109]) 0 [0,0]).bind λh=>(G.z3e r.2 2).bind λd=>bif d.1 then(c28 G n (Cur.b d.2) (Cur.i d.2) (Cur.h d.2) h2 E h4 F H zs h.ah true true 1 h.aJ (λD=>C (Cur.b d.2) (Cur.i d.2) (Cur.h d.2) D))else c28 G n (Cur.b d.2) (Cur.i d.2) (Cur.h d.2) h2 E h4 F H zs h.ah true true h.aO h.aJ (λj=>C (Cur.b d.2) (Cur.i d.2) (Cur.h d.2) j))else C (Cur.b r.2) (Cur.i r.2) (Cur.h r.2) zs
def c9(deep:Bool)(h0:LI)(H I:Int)(h2:LB)(J:LS)(h4:LO)(K:LB)(L:LS)(h8:LO)(h9:Z)(M N:Bool)(O:Int)(P:LD)(Q:LI->Int->Int->LO->Y R):Y R:=(lim (h8++[(Opr.mk h9 P M N O)])).bind λzs=>(G.z3q (ByteArray.mk #[104]) 0 [0,0]).bind λr=>(G.z3e (Cur.mk h0 H I) 2).bind λt=>(lim (zs++[(Opr.mk r.ah r.aJ r.aE t.1 r.aO)])).bind λh=>(G.z3q (ByteArray.mk #[102]) 2 [2,2]).bind λd=>bif deep then((lim (d.aJ++[(Dc.mk [1,1] 1)])).bind λv=>(G.z3e t.2 2).bind λS=>(G.z3e S.2 2).bind λT=>(G.z3e T.2 2).bind λj=>bif j.1 then(c21 G n (Cur.b j.2) (Cur.i j.2) (Cur.h j.2) h2 J h4 K L h d.ah S.1 T.1 3 v (λU V W X=>Q U V W X))else c21 G n (Cur.b j.2) (Cur.i j.2) (Cur.h j.2) h2 J h4 K L h d.ah S.1 T.1 d.aO v (λw y A B=>Q w y A B))else(ix d.aJ 0).bind λe=>c21 G n (Cur.b t.2) (Cur.i t.2) (Cur.h t.2) h2 J h4 K L h d.ah d.aE d.comm d.aO (List.set d.aJ (Int.toNat 0) (Dc.mk [0,2] e.result)) (λC D E F=>Q C D E F)
def c6(deep:Bool)(h0:LI)(w y:Int)(h2:LB)(E:LS)(h4:LO)(F:LB)(H:LS)(I:LO)(J:LI->Int->Int->LO->Y R):Y R:=(G.z3q (ByteArray.mk #[103]) 1 [0]).bind λr=>(G.z3e (Cur.mk h0 w y) 2).bind λd=>bif d.1 then((lim (r.aJ++[(Dc.mk [1] 1)])).bind λzs=>c9 G n deep (Cur.b d.2) (Cur.i d.2) (Cur.h d.2) h2 E h4 F H I r.ah r.aE r.comm r.aO zs (λA B C D=>J A B C D))else c9 G n deep (Cur.b d.2) (Cur.i d.2) (Cur.h d.2) h2 E h4 F H I r.ah r.aE r.comm r.aO r.aJ (λh j t v=>J h j t v)
def c4(h0:LI)(v w:Int)(h2:LB)(B:LS)(h4:LO)(C:LB)(A:LS)(D:LO)(E:LI->Int->Int->LO->Y R):Y R:=(G.z3r (ByteArray.mk #[97]) 0 []).bind λF=>(G.z3r (ByteArray.mk #[98]) 1 []).bind λH=>(G.z3r (ByteArray.mk #[101]) 2 []).bind λI=>(lim (D++[F,H,I])).bind λy=>c6 G n (decide (1<(List.length A:Int))) h0 v w h2 B h4 C A y (λd h j t=>E d h j t)
def aq(c:Cur)(K:Sg->Cur->Y R):Y R:=(G.z3e c 2).bind λr=>bif r.1 then((lim ([(Sb.mk 1 0)]++[(Sb.mk 0 2)])).bind λzs=>c4 G n (Cur.b r.2) (Cur.i r.2) (Cur.h r.2) [] [] [] [(ByteArray.mk #[78]),(ByteArray.mk #[80]),(ByteArray.mk #[76])] zs [] (λv w y A=>K (Sg.mk (So.mk [(ByteArray.mk #[78]),(ByteArray.mk #[80]),(ByteArray.mk #[76])] zs) A) (Cur.mk v w y)))else c4 G n (Cur.b r.2) (Cur.i r.2) (Cur.h r.2) [] [] [] [(ByteArray.mk #[78]),(ByteArray.mk #[80]),(ByteArray.mk #[76])] [(Sb.mk 1 0)] [] (λd h j t=>K (Sg.mk (So.mk [(ByteArray.mk #[78]),(ByteArray.mk #[80]),(ByteArray.mk #[76])] [(Sb.mk 1 0)]) t) (Cur.mk d h j))
def dc28:=rS [2,3,8] [TQ,UI,.x (.p 9 0)] TY λR K h0 d h h2 A h4 B C D E j t v w=>c28 G n h0 d h h2 A h4 B C D E j t v w (λy=>K .normal ⟨[(2,TR),(3,UR)],[.box [.l .u h0,.i d,.i h],.box [.o 2,.o 3,.o 4],Un h2,V8 A,Us h4,.box [.o 6,.o 7,.o 8],Un B,V8 C,Us y]⟩)
def w8:=rS [0,2,3,7] [Tw,TQ,UI,.x (.p 9 0)] TY λR K h0 d h h2 F h4 D E H I j t v w=>c21 G n h0 d h h2 F h4 D E H I j t v w (λy A B C=>K .ret ⟨[(2,TR)],U6 y A B D E C⟩)
def dc9:=rS [0,2,3,4,5] [Tw,TQ,UI,UD,.x (.p 9 0)] TY λR K deep h0 d h h2 F h4 D E H I j t v w=>c9 G n deep h0 d h h2 F h4 D E H I j t v w (λy A B C=>K .ret ⟨[(2,TR)],U6 y A B D E C⟩)
def dc6:=rS [0,2,3,4] [Tw,TQ,UI,UD] [U5,.b [.o 2,.o 3,.o 4],UF,V1,V2,.b [.o 6,.o 7,.o 8],UF,V1,V2] λR K deep h0 d h h2 B h4 y A C=>c6 G n deep h0 d h h2 B h4 y A C (λj t v w=>K .ret ⟨[(2,TR)],U6 j t v y A w⟩)
def dc4:=rS [0,2,3] [Tw,TQ,UI] [U5,.b [.o 2,.o 3,.o 4],UF,V1,V2,.b [.o 6,.o 7,.o 8],UF,V1,V2] λR K h0 d h h2 B h4 y A C=>c4 G n h0 d h h2 B h4 y A C (λj t v w=>K .ret ⟨[(2,TR)],U6 j t v y A w⟩)
def pc:Pcs:=⟨nK,Tl 28 (dc28 G n) (Tl 21 (w8 G n) (Tl 9 (dc9 G n) (Tl 6 (dc6 G n) (Tl 4 (dc4 G n) nK)))),nK⟩
def an:Ann:=⟨111,1,[],[(28,[2,3,8]),(21,[0,2,3,7]),(9,[0,2,3,4,5]),(6,[0,2,3,4]),(4,[0,2,3])],[2],[(5,⟨[([2,3,4,0,1,5,6,7,8],[2,3,4,6,8],[1])],[2,3,4,6,8],[],[0,1,2,3,4,6,7],[]⟩)],[]⟩
abbrev bd:=aK Tryz.f78
theorem ok{G:Gs}(h:ap (ents G)){g:Q}(t:∀c r,g c=some r->∃n,aq (R:=AT×Td Ob) G n c (λr0 d=>some (Ut r0,Tt d))=some (Ut r.1,Tt r.2)):aj (ent g):=okQ λ_ _ _ _ _ _ hc=>Tk hc (t _) λn _ j=>fF h an (pc G n) Tryz.func78 j (apl [(0,4,Tj 15 bd)] ⟨Tg h (dc4 G n) rfl (pc G n) ⟨[],[2],[]⟩ (apl [(0,6,Tj 63 bd)] ⟨Tg h (dc6 G n) rfl (pc G n) ⟨[],[2],[]⟩ (apl [(0,9,Tj 255 bd)] ⟨Tg h (dc9 G n) rfl (pc G n) ⟨[],[2],[]⟩ (apl [(0,21,Tj 16383 bd)] ⟨Tg h (w8 G n) rfl (pc G n) ⟨[],[2],[]⟩ (apl [(0,28,Tj 4194223 bd)] ⟨Tg h (dc28 G n) rfl (pc G n) ⟨[2,3],[2],[]⟩,Th⟩),Th⟩),Th⟩),Th⟩),Th⟩)
end z3n
end
end
def gOp:Z->Int->Td Int->Y Opr:=λnm r a=>some (Opr.mk nm [Dc.mk a r] false false 0)
theorem Di:aj (z3r.ent gOp):=z3r.ok (G:=⟨()⟩) trivial λnm x a r h=>⟨1,QU⟩
theorem Ek:aj (z3q.ent gOp):=z3q.ok (G:=⟨()⟩) trivial λnm x a r h=>⟨1,QU⟩
theorem jx{α:Type}{l:Td α}(h:l.length<=1000):lim l=some l:=by
 unfold lim;rw[Nat.ble_eq_true_of_le A0];rfl
abbrev opA:Td Opr:=[Opr.mk (ByteArray.mk #[97]) [Dc.mk [] 0] false false 0,Opr.mk (ByteArray.mk #[98]) [Dc.mk [] 1] false false 0,Opr.mk (ByteArray.mk #[101]) [Dc.mk [] 2] false false 0]
abbrev opG(d:Bool):Opr:=Opr.mk (ByteArray.mk #[103]) (bif d then [Dc.mk [0] 1,Dc.mk [1] 1]else [Dc.mk [0] 1]) false false 0
abbrev opH(hc:Bool):Opr:=Opr.mk (ByteArray.mk #[104]) [Dc.mk [0,0] 0] false hc 0
abbrev opF(b fa d h:Bool):Opr:=bif b then Opr.mk (ByteArray.mk #[102]) [Dc.mk [2,2] 2,Dc.mk [1,1] 1] fa d (bif h then 3 else 0)else Opr.mk (ByteArray.mk #[102]) [Dc.mk [0,2] 2] false false 0
abbrev opM(m d:Bool):Td Opr:=bif m then [Opr.mk (ByteArray.mk #[109]) [Dc.mk [0,0] 0] true true (bif d then 1 else 0)]else []
abbrev nmD:Td Z:=[ByteArray.mk #[78],ByteArray.mk #[80],ByteArray.mk #[76]]
abbrev sbD(b:Bool):Td Sb:=bif b then [Sb.mk 1 0,Sb.mk 0 2]else [Sb.mk 1 0]
def iB(b d hc fa h j m t:Bool):Sg:=⟨⟨nmD,sbD b⟩,opA++[opG d,opH hc,opF b fa h j]++opM m t⟩
def SgD(s:Sg):Prop:=∃b d hc fa h j m t,s=iB b d hc fa h j m t
noncomputable abbrev gL4(gO:Cur->Int->Y (Bool×Cur)):z3n.Gs:=⟨gO,gOp,gOp⟩
section
variable {gO : Cur → Int → Y (Bool × Cur)}
theorem N8(j:fO gO)(n:Nat)(c:Cur)(hc:Inv c)(h2 t:Td Z)(v w:Td Sb)(h4 d:Td Opr)(f:Opr)(hl:d.length<=16):
  ∃c' m y,(∀(R:Type)(h:Td Int->Int->Int->Td Opr->Y R),z3n.c21 (gL4 gO) n c.b c.i c.h h2 v h4 t w d f.ah f.aE f.comm f.aO f.aJ h=h c'.b c'.i c'.h (d++[f]++opM m y))/\Inv c':=by
 obtain⟨⟨b,c1⟩,e1,A⟩:=j c 3 ⟨hc,A0⟩;obtain⟨⟨b2,c2⟩,e2,C⟩:=j c1 2 ⟨A,A0⟩;have B:Cur.mk c.b c.i c.h=c:=rfl;refine⟨bif b then c2 else c1,b,b2,λR h=> ?_,by cases b<;>assumption⟩;unfold z3n.c21;dsimp only;rw[jx A4,bS,B,e1,bS];cases b with
 |false=>rw[cF,show d++[f]++opM false b2=d++[f]from OO _]<;>rfl
 | true=>
  rw[cT,show gOp (ByteArray.mk #[109]) _ _=some _ from rfl,bS,e2,bS];cases b2 with
  | false=>
   unfold z3n.c28;rw[cF,jx A4,bS]<;>rfl
  | true=>
   unfold z3n.c28;rw[cT,jx A4,bS]<;>rfl
theorem d4_9(h:fO gO)(n:Nat)(deep:Bool)(c:Cur)(hc:Inv c)(h2 v:Td Z)(w y:Td Sb)(h4 d:Td Opr)(f:Opr)(hl:d.length<=8):
  ∃c' hc fa A B m t,(∀(R:Type)(j:Td Int->Int->Int->Td Opr->Y R),z3n.c9 (gL4 gO) n deep c.b c.i c.h h2 w h4 v y d f.ah f.aE f.comm f.aO f.aJ j=j c'.b c'.i c'.h (d++[f,opH hc,opF deep fa A B]++opM m t))/\Inv c':=by
 obtain⟨⟨b1,c1⟩,e1,C⟩:=h c 2 ⟨hc,A0⟩;obtain⟨⟨b2,c2⟩,e2,D⟩:=h c1 2 ⟨C,A0⟩;obtain⟨⟨b3,c3⟩,e3,E⟩:=h c2 2 ⟨D,A0⟩;obtain⟨⟨b4,c4⟩,F,H⟩:=h c3 2 ⟨E,A0⟩;have G:Cur.mk c.b c.i c.h=c:=rfl;have hs:(d++[f]++[opH b1]).length<=16:=A4
 obtain⟨c5,m,t,q1,q2⟩:=N8 h n (bif deep then c4 else c1) (by cases deep<;>assumption) h2 v w y h4 (d++[f]++[opH b1]) (opF deep b2 b3 b4) hs;refine⟨c5,b1,b2,b3,b4,m,t,λR j=> ?_,q2⟩;have q1:=q1 R j;rw[(A1:d++[f]++[opH b1]++[opF deep b2 b3 b4]=d++[f,opH b1,opF deep b2 b3 b4])]at q1;refine PV ?_ q1;unfold z3n.c9;dsimp only;rw[jx A4,bS,show gOp (ByteArray.mk #[104]) _ _=some _ from rfl,bS,G,e1,bS,jx A4,bS,show gOp (ByteArray.mk #[102]) _ _=some _ from rfl,bS];cases deep with
 | true=>
  rw[cT,jx A1,bS,e2,bS,e3,bS,F,bS];cases b4<;>rfl
 |false=>rfl
theorem Is(w:fO gO)(n:Nat)(c:Cur)(hc:Inv c)(h2 y:Td Z)(A:Td Sb)(b:Bool)(h4:Td Opr):
  ∃c' B hc fa h j m t,(∀(R:Type)(d:Td Int->Int->Int->Td Opr->Y R),z3n.c4 (gL4 gO) n c.b c.i c.h h2 A h4 y (sbD b) [] d=d c'.b c'.i c'.h (opA++[opG B,opH hc,opF b fa h j]++opM m t))/\Inv c':=by
 obtain⟨⟨b1,c1⟩,e1,C⟩:=w c 2 ⟨hc,A0⟩;have D:Cur.mk c.b c.i c.h=c:=rfl;have hd:decide (1<((sbD b).length:Int))=b:=by cases b<;>rfl
 obtain⟨c5,v,fa,h,j,m,t,q1,q2⟩:=d4_9 w n b c1 C h2 y A (sbD b) h4 opA (opG b1) A1;refine⟨c5,b1,v,fa,h,j,m,t,λR d=>(PV ?_ (q1 R d)),q2⟩;unfold z3n.c4;dsimp only;rw[show gOp (ByteArray.mk #[97]) _ _=some _ from rfl,bS,show gOp (ByteArray.mk #[98]) _ _=some _ from rfl,bS,show gOp (ByteArray.mk #[101]) _ _=some _ from rfl,bS,jx A1,bS,hd];unfold z3n.c6;dsimp only;rw[show gOp (ByteArray.mk #[103]) _ _=some _ from rfl,bS,D,e1,bS];cases b1 with
 |true=>rw[cT,jx A1,bS]<;>rfl
 |false=>rfl
def L4P(g:Cur->Y (Sg×Cur)):Prop:=∀c,Inv c->∃r,g c=some r/\(SgD r.1/\Inv r.2)
theorem Et(h:fO gO)(j:aj (z3e.ent gO)):∃g,aj (z3n.ent g)/\L4P g:=
 rc (λg t=>z3n.ok (G:=gL4 gO) ⟨j,Ks rfl Di Ek,trivial⟩ t) λc hc=>by
  obtain⟨⟨b1,c1⟩,e1,v⟩:=h c 2 ⟨hc,A0⟩;obtain⟨c5,w,d,fa,y,A,m,B,q1,q2⟩:=Is h 1 c1 v [] nmD [] b1 [];refine⟨(iB b1 w d fa y A m B,c5),⟨1,?_⟩,⟨_,_,_,_,_,_,_,_,rfl⟩,q2⟩;unfold z3n.aq;dsimp only;rw[e1,bS];cases b1 with
  | true=>
   rw[cT,jx A1,bS];exact q1 _ _
  | false=>
   rw[cF];exact q1 _ _
end
end Go.Proofs.YtkegnipofloejaaGreatDoor.Den

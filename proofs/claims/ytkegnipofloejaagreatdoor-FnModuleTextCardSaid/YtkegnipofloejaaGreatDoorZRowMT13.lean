/- merged -/
import Derived.Test.YtkegnipofloejaaGreatDoorZRowMT12

namespace Go.Proofs.YtkegnipofloejaaGreatDoor.Den
open Go.RowKit
section
set_option maxRecDepth 100000
set_option linter.unusedVariables false
noncomputable section
namespace z40
structure Gs where
 none_:Unit
def aq{R:Type}(G:Gs)(n:Nat)(ah:Z)(am:Int)(K:Tm->Y R):Y R:=K (Tm.mk (-1) ah am [])
theorem ok{G:Gs}(d:ap []){g:Q}(h:∀ah am r,g ah am=some r->∃n,aq (R:=AT×Td Ob) G n ah am (λr0=>some (UW r0,UU r0.ae))=some (UW r,UU r.ae)):aj (ent g):=okQ λ_ _ _ _ _ hc=>Tk hc (h _ _) λ_ _ j=>fR d ⟨8,0,[],[],[4],[],[]⟩ nP Tryz.func104 j
end z40
namespace z4i
structure Gs where
 z3e:z3e.Q
 z3f:z3f.Q
 z40:z40.Q
 z35:z35.Q
 z4i:z4i.Q
def ents(G:Gs):Td Ent:=[z3e.ent G.z3e,z3f.ent G.z3f,z40.ent G.z40,z35.ent G.z35,ent G.z4i]
def c8{R:Type}(G:Gs)(n:Nat)(list deep:Bool)(h0:LI)(d h h1:Int)(w:Z)(y:Int)(h2:LT)(j:LI->Int->Int->Int->Z->Int->LT->Y R):Y R:=bif list then(bif !deep then(j h0 d h 2 ByteArray.empty 0 [])else(G.z3e (Cur.mk h0 d h) 2).bind λr=>bif r.1 then(j (Cur.b r.2) (Cur.i r.2) (Cur.h r.2) 2 ByteArray.empty 0 [])else(G.z35 r.2 2).bind λt=>j (Cur.b t.2) (Cur.i t.2) (Cur.h t.2) t.1 ByteArray.empty 0 [])else(G.z35 (Cur.mk h0 d h) 2).bind λv=>j (Cur.b v.2) (Cur.i v.2) (Cur.h v.2) v.1 ByteArray.empty 0 []
def c18{R:Type}(G:Gs)(n:Nat)(d:Int)(vars list:Bool)(op:Int)(h0:LI)(v w:Int)(h1:LB)(j:LS)(t:LO)(h2:Int)(B:Z)(C:Int)(D:LT)(A:LI->Int->Int->Z->Int->LT->Y R):Y R:=(G.z4i (Cur.mk h0 v w) (Sg.mk (So.mk h1 j) t) (wr (d-1)) vars list).bind λr=>bif decide (3<op)then((G.z4i r.2 (Sg.mk (So.mk h1 j) t) (wr (d-1)) vars list).bind λh=>(lim ([(Tm.mk r.1.op r.1.ah r.1.am r.1.ae)]++[(Tm.mk h.1.op h.1.ah h.1.am h.1.ae)])).bind λy=>A (Cur.b h.2) (Cur.i h.2) (Cur.h h.2) ByteArray.empty 0 y)else A (Cur.b r.2) (Cur.i r.2) (Cur.h r.2) ByteArray.empty 0 [(Tm.mk r.1.op r.1.ah r.1.am r.1.ae)]
variable{R:Type}(G:Gs)(n:Nat)
def c16(d:Int)(vars list deep:Bool)(op:Int)(h0:LI)(h j:Int)(h1:LB)(t:LS)(v:LO)(h2:Int)(w:Z)(y:Int)(N:LT)(O:LI->Int->Int->Int->Z->Int->LT->Y R):Y R:=bif decide (op=5)then(bif !deep then(c18 G n d vars list 4 h0 h j h1 t v h2 w y N (λP Q S T U V=>O P Q S 4 T U V))else c18 G n d vars list op h0 h j h1 t v h2 w y N (λA B C D E F=>O A B C op D E F))else c18 G n d vars list op h0 h j h1 t v h2 w y N (λH I J K L M=>O H I J op K L M)
def c13(d:Int)(vars list deep:Bool)(h0:LI)(F H:Int)(h1:LB)(j:LS)(h:LO)(h2:Int)(t:Z)(v:Int)(P:LT)(Q:LI->Int->Int->Int->Z->Int->LT->Y R):Y R:=(G.z35 (Cur.mk h0 F H) (wr ((List.length h:Int)-3))).bind λr=>bif list then(c16 G n d vars list deep 5 (Cur.b r.2) (Cur.i r.2) (Cur.h r.2) h1 j h h2 t v P (λI J K L M N O=>Q I J K L M N O))else c16 G n d vars list deep (wr (3+r.1)) (Cur.b r.2) (Cur.i r.2) (Cur.h r.2) h1 j h h2 t v P (λw y A B C D E=>Q w y A B C D E)
def c7(d:Int)(vars list deep:Bool)(h0:LI)(y A:Int)(h1:LB)(h:LS)(j:LO)(h2:Int)(t:Z)(v:Int)(h3:LT)(B:LI->Int->Int->Int->Z->Int->LT->Y R):Y R:=bif decide (d<=0)then(c8 G n list deep h0 y A h2 t v h3 (λh04 h05 h06 h14 h15 h16 C=>B h04 h05 h06 h14 h15 h16 C))else(G.z3e (Cur.mk h0 y A) 5).bind λr=>bif r.1 then(c8 G n list deep (Cur.b r.2) (Cur.i r.2) (Cur.h r.2) h2 t v h3 (λD E F H I J K=>B D E F H I J K))else bif list then(bif !deep then((G.z4i r.2 (Sg.mk (So.mk h1 h) j) (wr (d-1)) vars false).bind λL=>(G.z4i L.2 (Sg.mk (So.mk h1 h) j) (wr (d-1)) vars true).bind λw=>B (Cur.b w.2) (Cur.i w.2) (Cur.h w.2) 5 ByteArray.empty 0 [(Tm.mk L.1.op L.1.ah L.1.am L.1.ae),(Tm.mk w.1.op w.1.ah w.1.am w.1.ae)])else c13 G n d vars list deep (Cur.b r.2) (Cur.i r.2) (Cur.h r.2) h1 h j h2 t v h3 (λM N O P Q S h24=>B M N O P Q S h24))else c13 G n d vars list deep (Cur.b r.2) (Cur.i r.2) (Cur.h r.2) h1 h j h2 t v h3 (λT U V W X h164 h242=>B T U V W X h164 h242)
def aq(c:Cur)(s:Sg)(d:Int)(vars list:Bool)(K:Tm->Cur->Y R):Y R:=bif vars then((G.z3e c 3).bind λr=>bif r.1 then((G.z3f r.2 [(ByteArray.mk #[120]),(ByteArray.mk #[121]),(ByteArray.mk #[122])]).bind λB=>bif list then((G.z40 B.1 2).bind λC=>K (Tm.mk C.op C.ah C.am C.ae) B.2)else(G.z35 B.2 2).bind λN=>(G.z40 B.1 N.1).bind λD=>K (Tm.mk D.op D.ah D.am D.ae) N.2)else c7 G n d vars list (decide (1<(List.length s.ai.aA:Int))) (Cur.b r.2) (Cur.i r.2) (Cur.h r.2) s.ai.ak s.ai.aA s.ops 0 ByteArray.empty 0 [] (λE F H I J L M=>K (Tm.mk I J L M) (Cur.mk E F H)))else c7 G n d vars list (decide (1<(List.length s.ai.aA:Int))) (Cur.b c) (Cur.i c) (Cur.h c) s.ai.ak s.ai.aA s.ops 0 ByteArray.empty 0 [] (λh j t v w y A=>K (Tm.mk v w y A) (Cur.mk h j t))
def dc8:=rS [0,4,10,11] [Tw,UD,TQ,UD] [U5,UB,TH] λR K list deep h0 d h h1 j t h2=>c8 G n list deep h0 d h h1 j t h2 (λv w y A B C D=>K .ret ⟨[(10,TR)],Ub v w y A B C D⟩)
def dc18:=rS [0,2,3,4,6,10,13] [Tw,Tx,UD,UD,TQ,U1,Tx] [U5,TB,Uh,TH] λR K d vars list op h0 h j h1 t v h2 w y H=>c18 G n d vars list op h0 h j h1 t v h2 w y H (λA B C D E F=>K .ret ⟨[(10,TR)],Ub A B C op D E F⟩)
def dc16:=rS [0,2,3,4,6,10,11,13] [Tw,Tx,UD,UD,TQ,U1,UD,Tx] [U5,TB,Uh,TH] λR K d vars list deep op h0 h j h1 t v h2 w y I=>c16 G n d vars list deep op h0 h j h1 t v h2 w y I (λA B C D E F H=>K .ret ⟨[(10,TR)],Ub A B C D E F H⟩)
def yz:=rS [0,2,3,4,6,10,11] [Tw,Tx,UD,UD,TQ,U1,UD] [U5,TB,Uh,TH] λR K d vars list deep h0 h j h1 t v h2 w y I=>c13 G n d vars list deep h0 h j h1 t v h2 w y I (λA B C D E F H=>K .ret ⟨[(10,TR)],Ub A B C D E F H⟩)
def dc7:=rS [0,2,3,4,6,10,11] [Tw,Tx,UD,UD,TQ,U1,UD] [U5,TB,Uh,TH] λR K d vars list deep h0 h j h1 t v h2 w y I=>c7 G n d vars list deep h0 h j h1 t v h2 w y I (λA B C D E F H=>K .ret ⟨[(10,TR)],Ub A B C D E F H⟩)
def pc:Pcs:=⟨nK,Tl 8 (dc8 G n) (Tl 18 (dc18 G n) (Tl 16 (dc16 G n) (Tl 13 (yz G n) (Tl 7 (dc7 G n) nK)))),nK⟩
def an:Ann:=⟨112,1,[],[(8,[0,4,10,11]),(18,[0,2,3,4,6,10,13]),(16,[0,2,3,4,6,10,11,13]),(13,[0,2,3,4,6,10,11]),(7,[0,2,3,4,6,10,11])],[10],[(12,⟨[(Te 15,[5,11,12,14],[])],[5,11,12,14],[],[1,3],[]⟩),(20,⟨[([2,3,4,5,6,7,8,0,1,9,10,11,12],[8,10,12],[1])],[8,10,12],[],[1,2,3],[]⟩)],[]⟩
abbrev bd:=aK Tryz.f119
theorem ok{G:Gs}(t:ap (ents G)){g:Q}(v:∀c s d vars list r,g c s d vars list=some r->∃n,aq G n c s d vars list Vu=Vu r.1 r.2):aj (ent g):=okQ λ_ _ _ _ _ _ _ _ _ _ _ _ hc=>Tk hc (v _ _ _ _ _) λn _ j=>fF t an (pc G n) Tryz.func119 j (apl [(0,7,Tj 15 bd)] ⟨Tg t (dc7 G n) rfl (pc G n) ⟨[],[10],[]⟩ (apl [(0,8,Tj 122 bd),(0,13,Tj 63 bd)] ⟨Tg t (dc8 G n) rfl (pc G n) ⟨[0,2,3,4,6,10,11],[10],[]⟩,⟨Tg t (yz G n) rfl (pc G n) ⟨[],[10],[]⟩ (apl [(0,16,Tj 255 bd)] ⟨Tg t (dc16 G n) rfl (pc G n) ⟨[],[10],[]⟩ (apl [(0,18,Tj 511 bd)] ⟨Tg t (dc18 G n) rfl (pc G n) ⟨[],[10],[]⟩,Th⟩),Th⟩),Th⟩⟩),Th⟩)
end z4i
namespace z4d
structure Gs where
 z3e:z3e.Q
 z4i:z4i.Q
def aq{R:Type}(G:Gs)(n:Nat)(c:Cur)(s:Sg)(d:Int)(vars:Bool)(K:Tm->Cur->Y R):Y R:=bif decide (1<(List.length s.ai.aA:Int))then((G.z3e c 2).bind λB=>bif B.1 then((G.z4i B.2 s d vars true).bind λh=>K (Tm.mk h.1.op h.1.ah h.1.am h.1.ae) h.2)else bif !(decide (1<(List.length s.ai.aA:Int)))then((G.z3e B.2 3).bind λy=>(G.z4i y.2 s d vars y.1).bind λj=>K (Tm.mk j.1.op j.1.ah j.1.am j.1.ae) j.2)else(G.z4i B.2 s d vars false).bind λt=>K (Tm.mk t.1.op t.1.ah t.1.am t.1.ae) t.2)else bif !(decide (1<(List.length s.ai.aA:Int)))then((G.z3e c 3).bind λA=>(G.z4i A.2 s d vars A.1).bind λv=>K (Tm.mk v.1.op v.1.ah v.1.am v.1.ae) v.2)else(G.z4i c s d vars false).bind λw=>K (Tm.mk w.1.op w.1.ah w.1.am w.1.ae) w.2
theorem ok{G:Gs}(t:ap [z3e.ent G.z3e,z4i.ent G.z4i]){g:Q}(v:∀c s d vars r,g c s d vars=some r->∃n,aq G n c s d vars Vu=Vu r.1 r.2):aj (ent g):=okQ λ_ _ _ _ _ _ _ _ _ _ _ hc=>Tk hc (v _ _ _ _) λ_ _ j=>fF t ⟨33,1,[],[],[8],[(2,⟨[([4,5,6,7,8,9,10,11,12,13,14,0,1,2,3,15,16,17,18],[7,14,17,18],[])],[7,14,17,18],[],[1],[]⟩)],[]⟩ nP Tryz.func82 j
end z4d
end
end
def Ly:Z->Int->Y Tm:=λnm s=>some (Tm.mk (-1) nm s [])
theorem tK:aj (z40.ent Ly):=z40.ok (G:=⟨()⟩) trivial λnm s r h=>⟨1,QU⟩
abbrev xyz:Td Z:=[ByteArray.mk #[120],ByteArray.mk #[121],ByteArray.mk #[122]]
theorem Fg{x:Z}(h:x∈xyz):x.size=1:=by
 simp only[OI,O9,or_false]at h;rcases h with rfl|rfl|rfl<;>rfl
def lL:Nat->Nat
 |0=>1
 |k+1=>3+3*lL k
theorem oC(a b:Td Tm):aF (a++b)=aF a+aF b:=by unfold aF;simp;omega
theorem fY(a:Tm):aF [a]=1+a.az:=by unfold aF;simp
theorem lH(o:Int)(nm:Z)(s:Int)(l:Td Tm):(Tm.mk o nm s l).az=nm.size+aF l:=Tm.lS _
section
variable {gL : Cur → Int → Y (Int × Cur)} {gO : Cur → Int → Y (Bool × Cur)} {gP : Cur → Td Z → Y (Z × Cur)} {gR : Cur → Sg → Int → Bool → Bool → Y (Tm × Cur)}
noncomputable abbrev g6(gL:Cur->Int->Y (Int×Cur))(gO:Cur->Int->Y (Bool×Cur))(gP:Cur->Td Z->Y (Z×Cur))(gR:Cur->Sg->Int->Bool->Bool->Y (Tm×Cur)):z4i.Gs:=⟨gO,gP,Ly,gL,gR⟩
theorem w6_8(t:dS gL)(v:fO gO)(n:Nat)(list deep:Bool)(c:Cur)(hc:Inv c)(a:Int)(w:Z)(a3:Int)(l:Td Tm):
  ∃c' o,(∀(R:Type)(d:Td Int->Int->Int->Int->Z->Int->Td Tm->Y R),z4i.c8 (g6 gL gO gP gR) n list deep c.b c.i c.h a w a3 l d=d c'.b c'.i c'.h o ByteArray.empty 0 [])/\Inv c':=by
 have j:Cur.mk c.b c.i c.h=c:=rfl;cases list with
 | false=>
  obtain⟨⟨x,c1⟩,e1,_,_,_,h⟩:=t c 2 ⟨hc,A0⟩;refine⟨c1,x,λR d=> ?_,h⟩;unfold z4i.c8;dsimp only;rw[cF,j,e1,bS]
 | true=>cases deep with
  |false=>exact⟨c,2,λR d=>rfl,hc⟩
  | true=>
   obtain⟨⟨q,c1⟩,e1,h⟩:=v c 2 ⟨hc,A0⟩;cases q with
   | true=>
    refine⟨c1,2,λR d=> ?_,h⟩;unfold z4i.c8;dsimp only;rw[cT,O4,cF,j,e1,bS,cT]
   | false=>
    obtain⟨⟨x,c2⟩,e2,_,_,_,y⟩:=t c1 2 ⟨h,A0⟩;refine⟨c2,x,λR d=> ?_,y⟩;unfold z4i.c8;dsimp only;rw[cT,O4,cF,j,e1,bS,cF,e2,bS]
variable {s : Sg} {d : Int} {k : Nat}
theorem Fb(j:∀c v l,Inv c->∃r,gR c s (wr (d-1)) v l=some r/\(r.1.az<=lL k/\Inv r.2))(n:Nat)(vars list:Bool)(op:Int)(c:Cur)(hc:Inv c)(a:Int)(C:Z)(a3:Int)(l:Td Tm):
  ∃c' w,(∀(R:Type)(h:Td Int->Int->Int->Z->Int->Td Tm->Y R),z4i.c18 (g6 gL gO gP gR) n d vars list op c.b c.i c.h s.ai.ak s.ai.aA s.ops a C a3 l h=h c'.b c'.i c'.h ByteArray.empty 0 w)/\aF w<=2+2*lL k/\Inv c':=by
 have y:Cur.mk c.b c.i c.h=c:=rfl;have es:Sg.mk (So.mk s.ai.ak s.ai.aA) s.ops=s:=rfl;obtain⟨⟨t,c1⟩,e1,D,A⟩:=j c vars list hc;obtain⟨⟨E,c2⟩,e2,t3,F⟩:=j c1 vars list A;dsimp only at D t3;by_cases B:3<op
 .refine⟨c2,[t]++[E],λR h=> ?_,by rw[oC,fY,fY];omega,F⟩;unfold z4i.c18;dsimp only;rw[y,es,e1,bS,dT B,cT,e2,bS];simp only[Tm.eta];rw[jx A1,bS]
 .refine⟨c1,[t],λR h=> ?_,by rw[fY];omega,A⟩;unfold z4i.c18;dsimp only;rw[y,es,e1,bS,dF B,cF];simp only[Tm.eta]
theorem LG(w:∀c v l,Inv c->∃r,gR c s (wr (d-1)) v l=some r/\(r.1.az<=lL k/\Inv r.2))(n:Nat)(vars list deep:Bool)(op:Int)(c:Cur)(hc:Inv c)(a:Int)(t:Z)(a3:Int)(l:Td Tm):
  ∃c' o h,(∀(R:Type)(j:Td Int->Int->Int->Int->Z->Int->Td Tm->Y R),z4i.c16 (g6 gL gO gP gR) n d vars list deep op c.b c.i c.h s.ai.ak s.ai.aA s.ops a t a3 l j=j c'.b c'.i c'.h o ByteArray.empty 0 h)/\aF h<=2+2*lL k/\Inv c':=by
 by_cases y:op=5
 .cases deep with
  | false=>
   obtain⟨c',h,q1,q2,q3⟩:=Fb (gL:=gL) (gO:=gO) (gP:=gP) w n vars list 4 c hc a t a3 l;refine⟨c',4,h,λR j=> ?_,q2,q3⟩;unfold z4i.c16;rw[dT y,cT,OS,cT,q1]
  | true=>
   obtain⟨c',h,q1,q2,q3⟩:=Fb (gL:=gL) (gO:=gO) (gP:=gP) w n vars list op c hc a t a3 l;refine⟨c',op,h,λR j=> ?_,q2,q3⟩;unfold z4i.c16;rw[dT y,cT,O4,cF,q1]
 .obtain⟨c',h,q1,q2,q3⟩:=Fb (gL:=gL) (gO:=gO) (gP:=gP) w n vars list op c hc a t a3 l;refine⟨c',op,h,λR j=> ?_,q2,q3⟩;unfold z4i.c16;rw[dF y,cF,q1]
theorem Oy(C:dS gL)(ho:s.ops.length<=200)(w:∀c v l,Inv c->∃r,gR c s (wr (d-1)) v l=some r/\(r.1.az<=lL k/\Inv r.2))(n:Nat)(vars list deep:Bool)(c:Cur)(hc:Inv c)(a:Int)(t:Z)(a3:Int)(l:Td Tm):
  ∃c' o h,(∀(R:Type)(j:Td Int->Int->Int->Int->Z->Int->Td Tm->Y R),z4i.c13 (g6 gL gO gP gR) n d vars list deep c.b c.i c.h s.ai.ak s.ai.aA s.ops a t a3 l j=j c'.b c'.i c'.h o ByteArray.empty 0 h)/\aF h<=2+2*lL k/\Inv c':=by
 have y:Cur.mk c.b c.i c.h=c:=rfl;have A:wr ((List.length s.ops:Int)-3)=(List.length s.ops:Int)-3:=aX ⟨A0,A0⟩;obtain⟨⟨x,c1⟩,e1,_,_,_,B⟩:=C c ((List.length s.ops:Int)-3) ⟨hc,A0⟩;cases list with
 | true=>
  obtain⟨c',o,h,q1,q2,q3⟩:=LG (gL:=gL) (gO:=gO) (gP:=gP) w n vars true deep 5 c1 B a t a3 l;refine⟨c',o,h,λR j=> ?_,q2,q3⟩;unfold z4i.c13;dsimp only;rw[y,A,e1,bS,cT,q1]
 | false=>
  obtain⟨c',o,h,q1,q2,q3⟩:=LG (gL:=gL) (gO:=gO) (gP:=gP) w n vars false deep (wr (3+x)) c1 B a t a3 l;refine⟨c',o,h,λR j=> ?_,q2,q3⟩;unfold z4i.c13;dsimp only;rw[y,A,e1,bS,cF,q1]
theorem w6_7(A:dS gL)(B:fO gO)(ho:s.ops.length<=200)(w:0<d->∀c v l,Inv c->∃r,gR c s (wr (d-1)) v l=some r/\(r.1.az<=lL k/\Inv r.2))(n:Nat)(vars list deep:Bool)(c:Cur)(hc:Inv c)(a:Int)(y:Z)(a3:Int)(l:Td Tm):
  ∃c' o j,(∀(R:Type)(h:Td Int->Int->Int->Int->Z->Int->Td Tm->Y R),z4i.c7 (g6 gL gO gP gR) n d vars list deep c.b c.i c.h s.ai.ak s.ai.aA s.ops a y a3 l h=h c'.b c'.i c'.h o ByteArray.empty 0 j)/\aF j<=2+2*lL k/\Inv c':=by
 have C:Cur.mk c.b c.i c.h=c:=rfl;have es:Sg.mk (So.mk s.ai.ak s.ai.aA) s.ops=s:=rfl;have J:aF []=0:=rfl;by_cases hd:d<=0
 .obtain⟨c',o,q1,q2⟩:=w6_8 (gP:=gP) (gR:=gR) A B n list deep c hc a y a3 l;refine⟨c',o,[],λR h=> ?_,A0,q2⟩;unfold z4i.c7;rw[dT hd,cT,q1]
 .have w:=w A0;obtain⟨⟨q,c1⟩,e1,D⟩:=B c 5 ⟨hc,A0⟩;cases q with
  | true=>
   obtain⟨c',o,q1,q2⟩:=w6_8 (gP:=gP) (gR:=gR) A B n list deep c1 D a y a3 l;refine⟨c',o,[],λR h=> ?_,A0,q2⟩;unfold z4i.c7;dsimp only;rw[dF hd,cF,C,e1,bS,cT,q1]
  | false=>
   obtain⟨c',o,j,q1,q2,q3⟩:=Oy (gO:=gO) (gP:=gP) A ho w n vars list deep c1 D a y a3 l;have gen:(bif list then bif !deep then true else false else false)=false->∃c' o j,(∀(R:Type)(h:Td Int->Int->Int->Int->Z->Int->Td Tm->Y R),z4i.c7 (g6 gL gO gP gR) n d vars list deep c.b c.i c.h s.ai.ak s.ai.aA s.ops a y a3 l h=h c'.b c'.i c'.h o ByteArray.empty 0 j)/\aF j<=2+2*lL k/\Inv c':=λF=>by
    refine⟨c',o,j,λR h=> ?_,q2,q3⟩;unfold z4i.c7;dsimp only;rw[dF hd,cF,C,e1,bS,cF];cases list with
    |false=>rw[cF,q1]
    | true=>cases deep with
     |true=>rw[cT,O4,cF,q1]
     |false=>cases F
   cases list with
   |false=>exact gen rfl
   | true=>cases deep with
    |true=>exact gen rfl
    | false=>
     obtain⟨⟨t,c2⟩,e2,G,H⟩:=w c1 vars false D;obtain⟨⟨E,c3⟩,e3,t3,I⟩:=w c2 vars true H;dsimp only at G t3;refine⟨c3,5,[t,E],λR h=> ?_,by rw[show [t,E]=[t]++[E]from rfl,oC,fY,fY];omega,I⟩;unfold z4i.c7;dsimp only;rw[dF hd,cF,C,e1,bS,cF,cT,OS,cT,es,e2,bS,e3,bS];simp only[Tm.eta]
theorem Co(h:dS gL)(j:fO gO)(D:H5 gP)(ho:s.ops.length<=200)(y:0<d->∀c v l,Inv c->∃r,gR c s (wr (d-1)) v l=some r/\(r.1.az<=lL k/\Inv r.2))(n:Nat)(vars list:Bool)(c:Cur)(hc:Inv c):
  ∃t c',(∀(R:Type)(K:Tm->Cur->Y R),z4i.aq (g6 gL gO gP gR) n c s d vars list K=K t c')/\t.az<=lL (k+1)/\Inv c':=by
 have G:ByteArray.empty.size=0:=rfl;cases vars with
 | false=>
  obtain⟨c',o,w,q1,q2,q3⟩:=w6_7 (gP:=gP) h j ho y n false list (decide (1<(List.length s.ai.aA:Int))) c hc 0 ByteArray.empty 0 [];refine⟨Tm.mk o ByteArray.empty 0 w,c',λR K=> ?_,by rw[lH];unfold lL;omega,q3⟩;unfold z4i.aq;rw[cF,q1]
 | true=>
  obtain⟨⟨q,c1⟩,e1,A⟩:=j c 3 ⟨hc,A0⟩;cases q with
  | false=>
   obtain⟨c',o,w,q1,q2,q3⟩:=w6_7 (gP:=gP) h j ho y n true list (decide (1<(List.length s.ai.aA:Int))) c1 A 0 ByteArray.empty 0 [];refine⟨Tm.mk o ByteArray.empty 0 w,c',λR K=> ?_,by rw[lH];unfold lL;omega,q3⟩;unfold z4i.aq;dsimp only;rw[cT,e1,bS,cF,q1]
  | true=>
   obtain⟨⟨nm,c2⟩,e2,E,B⟩:=D c1 xyz ⟨A,A1,A1⟩;have H:nm.size=1:=Fg E;have C:aF []=0:=rfl;cases list with
   | true=>
    refine⟨Tm.mk (-1) nm 2 [],c2,λR K=> ?_,by rw[lH,C];unfold lL;omega,B⟩;unfold z4i.aq;dsimp only;rw[cT,e1,bS,cT,e2,bS,cT];rfl
   | false=>
    obtain⟨⟨x,c3⟩,e3,_,_,_,F⟩:=h c2 2 ⟨B,A0⟩;refine⟨Tm.mk (-1) nm x [],c3,λR K=> ?_,by rw[lH,C];unfold lL;omega,F⟩;unfold z4i.aq;dsimp only;rw[cT,e1,bS,cT,e2,bS,cF,e3,bS];rfl
end
def Lu(k:Nat)(g:Cur->Sg->Int->Bool->Bool->Y (Tm×Cur)):Prop:=∀c s d v l,(Inv c/\s.ops.length<=200/\ -1000<=d/\d<=(k:Int))->∃r,g c s d v l=some r/\(r.1.az<=lL (k+1)/\Inv r.2)
theorem Ea:aj (z4i.ent λ_ _ _ _ _=>none):=okQ (by (repeat intro h);simp at h)
theorem sK{gL:Cur->Int->Y (Int×Cur)}{gO:Cur->Int->Y (Bool×Cur)}{gP:Cur->Td Z->Y (Z×Cur)}(j:dS gL)(w:fO gO)(y:H5 gP)(A:aj (z35.ent gL))(B:aj (z3e.ent gO))(C:aj (z3f.ent gP)):∀k:Nat,k<=100->∃g,aj (z4i.ent g)/\Lu k g
 | 0,_=>xm (fun g D=>z4i.ok (G:=g6 gL gO gP fun _ _ _ _ _=>none) ⟨B,C,tK,A,Ea,trivial⟩ D) fun c s d v l ⟨hc,h1,h2,E⟩=>by
  obtain⟨t,c',q1,q2,q3⟩:=Co (gR:=λ_ _ _ _ _=>none) (k:=0) (d:=d) j w y h1 (λh=>A0) 1 v l c hc;exact⟨(t,c'),⟨1,q1 _ _⟩,q2,q3⟩
 | k+1,hk=>by
  obtain⟨gR,F,H⟩:=sK j w y A B C k A0;exact xm (λg D=>z4i.ok (G:=g6 gL gO gP gR) ⟨B,C,tK,A,F,trivial⟩ D) λc s d v l ⟨hc,h1,h2,E⟩=>by
   obtain⟨t,c',q1,q2,q3⟩:=Co (gR:=gR) (k:=k+1) (d:=d) j w y h1 (λh c v l hc=>H c s (wr (d-1)) v l ⟨hc,h1,by rw[aX ⟨A0,A0⟩];omega⟩) 1 v l c hc;exact⟨(t,c'),⟨1,q1 _ _⟩,q2,q3⟩
def R6P(g:Cur->Sg->Int->Bool->Y (Tm×Cur)):Prop:=∀c s d v,(Inv c/\s.ops.length<=200/\ -1000<=d/\d<=3)->∃r,g c s d v=some r/\(r.1.az<=900/\Inv r.2)
theorem HB{gO:Cur->Int->Y (Bool×Cur)}{gW:Cur->Sg->Int->Bool->Bool->Y (Tm×Cur)}(y:fO gO)(B:Lu 3 gW)(C:aj (z3e.ent gO))(D:aj (z4i.ent gW)):∃g,aj (z4d.ent g)/\R6P g:=
 xV (λg E=>z4d.ok (G:=⟨gO,gW⟩) ⟨C,D,trivial⟩ E) λc s d v ⟨hc,h1,h2,F⟩=>by
  have A:∀c l,Inv c->∃r,gW c s d v l=some r/\(r.1.az<=900/\Inv r.2):=λc l hc=>by
   obtain⟨r,e,t,i⟩:=B c s d v l ⟨hc,h1,h2,F⟩;exact⟨r,e,P3 t A3,i⟩
  by_cases hs:1<(List.length s.ai.aA:Int)
  .obtain⟨⟨q,c1⟩,e1,h⟩:=y c 2 ⟨hc,A0⟩;obtain⟨r,e2,j,w⟩:=A c1 q h;refine⟨r,⟨1,?_⟩,j,w⟩;unfold z4d.aq;dsimp only;rw[dT hs,cT,e1,bS];cases q with
   |true=>rw[cT,e2,bS]<;>rfl
   |false=>rw[cF,O4,cF,e2,bS]<;>rfl
  .obtain⟨⟨q,c1⟩,e1,h⟩:=y c 3 ⟨hc,A0⟩;obtain⟨r,e2,j,w⟩:=A c1 q h;refine⟨r,⟨1,?_⟩,j,w⟩;unfold z4d.aq;dsimp only;rw[dF hs,cF,OS,cT,e1,bS,e2,bS]<;>rfl
end Go.Proofs.YtkegnipofloejaaGreatDoor.Den

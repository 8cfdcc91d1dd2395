import Derived.Test.YtkegnipofloejaaGreatDoorZRowMT8
namespace Go.Proofs.YtkegnipofloejaaGreatDoor.Den
open Go.RowKit
set_option maxRecDepth 100000
set_option linter.unusedVariables false
noncomputable section
namespace z41
structure Gs where
 z3z:z3z.Q
 z4c:z4c.Q
 z3a:z3a.Q
 z41:z41.Q
 z4a:z4a.Q
def ents(G:Gs):Td Ent:=[z3z.ent G.z3z,z4c.ent G.z4c,z3a.ent G.z3a,ent G.z41,z4a.ent G.z4a]
def b7{R:Type}(G:Gs)(n:Nat)(h0:LB)(j:LS)(t:LO)(h1:Int)(v:Z)(w:Int)(d:LT)(h2:Int)(y:Z)(A:Int)(D:LT)(i:Int)(h4:LT)(B:Int->LT->Y R)(C:Bool->Int->Z->Int->LT->Y R)(k1:LT->Y R):Y R:=bif decide (i<(List.length d:Int))then((ix d i).bind λe2=>(G.z41 (Sg.mk (So.mk h0 j) t) (Tm.mk e2.op e2.ah e2.am e2.ae)).bind λh=>bif !h.2 then(C false 0 ByteArray.empty 0 [])else(lim (h4++[(Tm.mk h.1.op h.1.ah h.1.am h.1.ae)])).bind λzs=>B (wr (i+1)) zs)else k1 h4
variable{R:Type}(G:Gs)(n:Nat)
def l7(m:Nat)(h0:LB)(d:LS)(h:LO)(h1:Int)(j:Z)(t:Int)(w:LT)(h2:Int)(y:Z)(A:Int)(B:LT)(i:Int)(h4:LT)(C:Bool->Int->Z->Int->LT->Y R)(k1:LT->Y R):Y R:=aY (λ(v:Int×LT) D=>b7 G n h0 d h h1 j t w h2 y A B v.1 v.2 (λE F=>D (E,F)) C k1) m (i,h4)
def aq(s:Sg)(t:Tm)(K:Tm->Bool->Y R):Y R:=bif decide (t.op=(-1))then((G.z3z t.ah t.am).bind λh=>(G.z4c s (Tm.mk t.op t.ah t.am t.ae)).bind λB=>K (Tm.mk h.op h.ah h.am h.ae) B)else(G.z3a t.op 0 (wr ((List.length s.ops:Int)-1))).bind λC=>bif !C then(K (Tm.mk 0 ByteArray.empty 0 []) false)else bif !sEq t.ah ByteArray.empty then(K (Tm.mk 0 ByteArray.empty 0 []) false)else bif !decide (t.am=0)then(K (Tm.mk 0 ByteArray.empty 0 []) false)else l7 G n n s.ai.ak s.ai.aA s.ops t.op t.ah t.am t.ae 0 ByteArray.empty 0 [] 0 [] (λt5 j v w y=>K (Tm.mk j v w y) t5) (λA=>(G.z4a s t.op A).bind λd=>K (Tm.mk d.1.op d.1.ah d.1.am d.1.ae) d.2)
def dl7(m:Nat):=rS [2,3,4,6,7] [Tw,TQ,U1,.x (.o 4),Tx] [TB,TJ,Uh,TH,TH] λR K i h0 d h h1 j t v h2 w y F h4=>l7 G n m h0 d h h1 j t v h2 w y F i h4 (λt5 A B C D=>K .ret ⟨[(4,TF),(5,Tp t5)],[.box [.i A,.s B,.i C,.o 1],Tz D]⟩) (λE=>K (.exit 0) ⟨[(2,TF),(3,TR),(4,Ua),(6,.one (.o 4))],[TP h0 d h,TC h1 j t v,UX h2 w y,Tz F,Tz E]⟩)
def pc:Pcs:=⟨Tl 7 (dl7 G n n) nK,nK,nK⟩
def an:Ann:=⟨72,0,[(7,[2,3,4,6,7])],[],[4,5],[(2,⟨[(Te 10,[8],[])],[8],[],[0,1],[]⟩),(9,⟨[([10,0,1,2,3,4,5,6,7,8,11,9,12],[10,11],[])],[10,11],[],(Te 5),[]⟩)],[]⟩
abbrev bd:=aK Tryz.f81
theorem ok{G:Gs}(d:ap (ents G)){g:Q}(h:∀s t r,g s t=some r->∃n,aq G n s t Vr=Vr r.1 r.2):aj (ent g):=okQ λ_ _ _ _ _ _ _ _ _ _ hc=>Tk hc (h _ _) λn _ j=>fF d an (pc G n) Tryz.func81 j (apl [(1,7,.loop (Tj 500 bd))] ⟨Tf d n (dl7 G n) rfl (pc G n) ⟨[2,3,4,6],[4,5],[(0,[2,3,4,6])]⟩,Th⟩)
end z41
namespace z43
structure Gs where
 z4d:z4d.Q
 z41:z41.Q
def ents(G:Gs):Td Ent:=[z4d.ent G.z4d,z41.ent G.z41]
def d4{R:Type}(G:Gs)(n:Nat)(d:Int)(vars:Bool)(k:Int)(h0:LI)(w y:Int)(h1:LB)(j:LS)(t:LO)(h2:Int)(A:Z)(B:Int)(D:LT)(C:Bool->LI->Int->Int->Int->Z->Int->LT->Y R):Y R:=(G.z4d (Cur.mk h0 w y) (Sg.mk (So.mk h1 j) t) d vars).bind λh=>(G.z41 (Sg.mk (So.mk h1 j) t) (Tm.mk h.1.op h.1.ah h.1.am h.1.ae)).bind λv=>C v.2 (Cur.b h.2) (Cur.i h.2) (Cur.h h.2) v.1.op v.1.ah v.1.am v.1.ae
def Af{R:Type}(G:Gs)(n:Nat)(d:Int)(vars:Bool)(k:Int)(h0:LI)(v w:Int)(h1:LB)(h:LS)(j:LO)(h2:Int)(y:Z)(A:Int)(C:LT)(B:Bool->LI->Int->Int->Int->Z->Int->LT->Y R):Y R:=
 (G.z4d (Cur.mk h0 v w) (Sg.mk (So.mk h1 h) j) d vars).bind λr=>
 (G.z41 (Sg.mk (So.mk h1 h) j) (Tm.mk r.1.op r.1.ah r.1.am r.1.ae)).bind λt=>
 B t.2 (Cur.b r.2) (Cur.i r.2) (Cur.h r.2) t.1.op t.1.ah t.1.am t.1.ae
theorem MH{R:Type}(G:Gs)(n:Nat)(d:Int)(vars:Bool)(k:Int)(h0:LI)(h j:Int)(h1:LB)(t:LS)(v:LO)(h2:Int)(w:Z)(y:Int)(A:LT)(B:Bool->LI->Int->Int->Int->Z->Int->LT->Y R):Af G n d vars k h0 h j h1 t v h2 w y A B=d4 G n d vars k h0 h j h1 t v h2 w y A B:=by
 unfold Af d4;generalize G.z4d (Cur.mk h0 h j) (Sg.mk (So.mk h1 t) v) d vars=C;cases C<;>first|rfl|simp
variable{R:Type}(G:Gs)(n:Nat)
def b2(d:Int)(vars:Bool)(h1:LB)(y:LS)(A:LO)(h2:Int)(B:Z)(C:Int)(H:LT)(k:Int)(h0:LI)(h j:Int)(I:Int->LI->Int->Int->Y R)(J:LI->Int->Int->Int->Z->Int->LT->Y R)(k1:LI->Int->Int->Y R):Y R:=bif decide (k<8)then(d4 G n d vars k h0 h j h1 y A h2 B C H (λok t v w h4 D E F=>bif ok then(J t v w h4 D E F)else I (wr (k+1)) t v w))else k1 h0 h j
def l2(m:Nat)(d:Int)(vars:Bool)(h1:LB)(h:LS)(j:LO)(h2:Int)(t:Z)(w:Int)(B:LT)(k:Int)(h0:LI)(y A:Int)(C:LI->Int->Int->Int->Z->Int->LT->Y R)(k1:LI->Int->Int->Y R):Y R:=aY (λ(v:Int×LI×Int×Int) D=>b2 G n d vars h1 h j h2 t w B v.1 v.2.1 v.2.2.1 v.2.2.2 (λE F H I=>D (E,F,H,I)) C k1) m (k,h0,y,A)
def aq(c:Cur)(s:Sg)(d:Int)(vars:Bool)(K:Tm->Cur->Y R):Y R:=l2 G n n d vars s.ai.ak s.ai.aA s.ops 0 ByteArray.empty 0 [] 0 (Cur.b c) (Cur.i c) (Cur.h c) (λv w y A B C D=>K (Tm.mk A B C D) (Cur.mk v w y)) (λh j t=>K (Tm.mk 0 ByteArray.empty 0 []) (Cur.mk h j t))
def dd4(G:Gs)(n:Nat)(R:Type)(st:St)(K:Kt R):Y R:=match st with|⟨[(0,.one (.p 0 0)),(2,.one (.i d)),(3,.one (.b vars)),(5,.one (.p 1 0)),(8,.one (.p 2 0)),(9,.one (.i k))],[.box [.l .u h0,.i w,.i y],.box [.l .s h1,.l (.n 5) h,.l (.n 8) j],.box [.i h2,.s t,.i v,.o 3],.row (.n 1) 0 H]⟩=>d4 G n d vars k h0 w y h1 h j h2 t v H (λok A B C h4 D E F=>K .normal ⟨[(0,TF),(2,Tv d),(3,Tp vars),(5,TR),(8,Ua),(9,Tv k),(10,V0),(11,Tp ok)],[.box [.l .u A,.i B,.i C],TP h1 h j,UX h2 t v,Tz H,TC h4 D E F]⟩)|_=>none
def dl2(m:Nat):=rS [0,2,3,5,8,9] [Tw,Tx,UD,TQ,U1,Tx] [U5,TB,Uh,TH] λR K d vars k h0 y A h1 B C h2 v w I=>l2 G n m d vars h1 B C h2 v w I k h0 y A (λh j t D E F H=>K .ret ⟨[(8,TR)],[.box [.l .u h,.i j,.i t],TC D E F H]⟩) (λh j t=>K (.exit 0) ⟨[(8,TR)],Ub h j t h2 v w I⟩)
def pc:Pcs:=⟨Tl 2 (dl2 G n n) nK,nK,Tl 4 (dd4 G n) nK⟩
def an:Ann:=⟨29,1,[(2,[0,2,3,5,8,9])],[],[8],[(4,⟨[([1,2,3,4,5,10,0,6,7,8,11,9,12],[5,10,11],[]),([10,1,2,3,4,5,0,6,7,8,11,9,12],[10,5,11],[])],[5,10,11],[],[1,2,3],[0,2,3,5,8,9]⟩)],[]⟩
abbrev bd:=aK Tryz.f51
abbrev q4:=Tj 840 bd
theorem Ma(G:Gs)(n:Nat)(R:Type)(d:Int)(vars:Bool)(k:Int)(h0:LI)(j t:Int)(h1:LB)(v:LS)(w:LO)(h2:Int)(y:Z)(A:Int)(B:LT)(K:Kt R):(λS:St=>(λh:St=>dW tb (de (ents G)) an.nt an.im (fq (q4)) (fe [1,2,3] h.H) [1,2,3,4,5,10,0,6,7,8,11,9,12] [5,10,11] [] [] [1,2,3,4,5,10,0,6,7,8,11,9,12] h.L h.H h.H λL H=>jd an.refs ⟨[0,2,3,5,8,9,10,11],[8],[(0,[8]),(1,[0,2,3,5,8,9])]⟩ K .normal ⟨L,H⟩) (cR (bE (St.L S) (St.H S) []) S)=dd4 G n R S K) ⟨[(0,.one (.p 0 0)),(2,.one (.i d)),(3,.one (.b vars)),(5,.one (.p 1 0)),(8,.one (.p 2 0)),(9,.one (.i k))],[.box [.l .u h0,.i j,.i t],.box [.l .s h1,.l (.n 5) v,.l (.n 8) w],.box [.i h2,.s y,.i A,.o 3],.row (.n 1) 0 B]⟩:=Re
theorem Mr(G:Gs)(n:Nat)(R:Type)(d:Int)(vars:Bool)(k:Int)(h0:LI)(w y:Int)(h1:LB)(h:LS)(j:LO)(h2:Int)(t:Z)(v:Int)(B:LT)(K:Kt R):(λA:St=>dW tb (de (ents G)) an.nt an.im (fq (q4)) (fe [1,2,3] A.H) [10,1,2,3,4,5,0,6,7,8,11,9,12] [10,5,11] [] [] [10,1,2,3,4,5,0,6,7,8,11,9,12] A.L A.H A.H λL H=>jd an.refs ⟨[0,2,3,5,8,9,10,11],[8],[(0,[8]),(1,[0,2,3,5,8,9])]⟩ K .normal ⟨L,H⟩) (cR (bE (St.L ⟨[(0,.one (.p 0 0)),(2,.one (.i d)),(3,.one (.b vars)),(5,.one (.p 1 0)),(8,.one (.p 2 0)),(9,.one (.i k))],[.box [.l .u h0,.i w,.i y],.box [.l .s h1,.l (.n 5) h,.l (.n 8) j],.box [.i h2,.s t,.i v,.o 3],.row (.n 1) 0 B]⟩) (St.H ⟨[(0,.one (.p 0 0)),(2,.one (.i d)),(3,.one (.b vars)),(5,.one (.p 1 0)),(8,.one (.p 2 0)),(9,.one (.i k))],[.box [.l .u h0,.i w,.i y],.box [.l .s h1,.l (.n 5) h,.l (.n 8) j],.box [.i h2,.s t,.i v,.o 3],.row (.n 1) 0 B]⟩) []) ⟨[(0,.one (.p 0 0)),(2,.one (.i d)),(3,.one (.b vars)),(5,.one (.p 1 0)),(8,.one (.p 2 0)),(9,.one (.i k))],[.box [.l .u h0,.i w,.i y],.box [.l .s h1,.l (.n 5) h,.l (.n 8) j],.box [.i h2,.s t,.i v,.o 3],.row (.n 1) 0 B]⟩)=Af G n d vars k h0 w y h1 h j h2 t v B (λok C D E h4 F I J=>K .normal ⟨[(0,.one (.p 0 0)),(2,.one (.i d)),(3,.one (.b vars)),(5,.one (.p 1 0)),(8,.one (.p 2 0)),(9,.one (.i k)),(10,.one (.p 4 0)),(11,.one (.b ok))],[.box [.l .u C,.i D,.i E],.box [.l .s h1,.l (.n 5) h,.l (.n 8) j],.box [.i h2,.s t,.i v,.o 3],.row (.n 1) 0 B,.box [.i h4,.s F,.i I,.l (.n 1) J]]⟩):=D1
theorem pd4{G:Gs}(J:ap (ents G)){n:Nat}:al an (q4) (dd4 G n):=by
 have hc:q4= .region 4 (fq (q4)) true:=D1
 rw[hc];refine λ[Zb]=>ju mixed kX (jp J) (o:=⟨[0,2,3,5,8,9,10,11],[8],[(0,[8]),(1,[0,2,3,5,8,9])]⟩) (d:=⟨[([1,2,3,4,5,10,0,6,7,8,11,9,12],[5,10,11],[]),([10,1,2,3,4,5,0,6,7,8,11,9,12],[10,5,11],[])],[5,10,11],[],[1,2,3],[0,2,3,5,8,9]⟩) D1 (λp hp R st K r h=> ?_)
 have e:=h;unfold dd4 at e;split at e
 .rename_i w y A B C D E F H I j t v;simp only[OI,O9,or_false]at hp;rcases hp with rfl|rfl
  .exact(Ma G n R w y A B C D E F H I j t v K).trans h
  .exact((Mr G n R w y A B C D E F H I j t v K).trans (MH G n w y A B C D E F H I j t v _)).trans h
 .cases e
theorem ok{G:Gs}(t:ap (ents G)){g:Q}(v:∀c s d vars r,g c s d vars=some r->∃n,aq G n c s d vars Vu=Vu r.1 r.2):aj (ent g):=okQ λ_ _ _ _ _ _ _ _ _ _ _ hc=>Tk hc (v _ _ _ _) λn _ j=>fF t an (pc G n) Tryz.func51 j (apl [(1,2,.loop (Tj 52 bd))] ⟨Tf t n (dl2 G n) rfl (pc G n) ⟨[8],[8],[(0,[8])]⟩ (apl [(2,4,q4)] ⟨pd4 t,Th⟩),Th⟩)
end z43
end
end Go.Proofs.YtkegnipofloejaaGreatDoor.Den

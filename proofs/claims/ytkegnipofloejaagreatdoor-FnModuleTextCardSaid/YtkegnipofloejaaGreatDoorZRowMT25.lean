/- merged -/
import Derived.Test.YtkegnipofloejaaGreatDoorZRowMT22

namespace Go.Proofs.YtkegnipofloejaaGreatDoor.Den
open Go.RowKit
section
set_option maxRecDepth 100000
set_option linter.unusedVariables false
noncomputable section
namespace z0z
structure Gs where
 z0z:z0z.Q
 strings_Join:strings_Join.Q
def ents(G:Gs):Td Ent:=[ent G.z0z,strings_Join.ent G.strings_Join]
def b8{R:Type}(G:Gs)(n:Nat)(j t v:LI)(w:LB)(y:LS)(A:LO)(ah:Z)(d:LT)(h t45:Int)(h1:LM)(h2:LB)(B:Int->LM->LB->Y R)(C:LM->LB->Y R):Y R:=bif decide (t45<h)then((ix d t45).bind λe=>(G.z0z j t v w y A h1 (Tm.mk e.op e.ah e.am e.ae)).bind λr=>(lim (h2++[r.1])).bind λzs=>B (wr (t45+1)) r.2 zs)else C h1 h2
variable{R:Type}(G:Gs)(n:Nat)
def l8(m:Nat)(j t w:LI)(y:LB)(A:LS)(B:LO)(ah:Z)(d:LT)(h t45:Int)(h1:LM)(h2:LB)(C:LM->LB->Y R):Y R:=aY (λ(v:Int×LM×LB) D=>b8 G n j t w y A B ah d h v.1 v.2.1 v.2.2 (λE F H=>D (E,F,H)) C) m (t45,h1,h2)
def aq(A B C:LI)(w:LB)(D:LS)(y:LO)(d:LM)(t:Tm)(K:Z->LM->Y R):Y R:=bif decide (t.op<0)then((dL t.ah (ByteArray.mk #[58])).bind λq2=>(ix w t.am).bind λe2=>(dL q2 e2).bind λq4=>K q4 d)else(ix y t.op).bind λh=>bif decide ((List.length t.ae:Int)=0)then(K h.ah d)else l8 G n n A B C w D y h.ah t.ae (List.length t.ae:Int) 0 d [] (λj v=>(dL h.ah (ByteArray.mk #[40])).bind λq5=>(G.strings_Join v (ByteArray.mk #[44,32])).bind λr=>(dL q5 r).bind λq6=>(dL q6 (ByteArray.mk #[41])).bind λq7=>K q7 j)
def dl8(m:Nat):=rS [0,5,6,43,44,45] [Tw,Uv,Vk,TL,Tx,Tx] [Tr,.m .i,UF] λR K ah d h t45 v w y A B C h1 h2=>l8 G n m v w y A B C ah d h t45 h1 h2 (λj t=>K (.exit 0) ⟨[(5,Ud ah),(6,.one (.o 2))],[Tn v w y A B C,Uz j,Un t]⟩)
def pc:Pcs:=⟨Tl 8 (dl8 G n n) nK,nK,nK⟩
def an:Ann:=⟨62,2,[(8,[0,5,6,43,44,45])],[],[4],[(2,⟨[(Te 15,[],[])],[],[],[0,1,2],[]⟩),(3,⟨[(Te 11,[],[])],[],[],[0,1,2],[]⟩)],[]⟩
abbrev bd:=aK Tryz.f34
theorem ok{G:Gs}(B:ap (ents G)){g:Q}(D:∀d h v w y A C t r,g d h v w y A C t=some r->∃n,aq (R:=AT×Td Ob) G n d h v w y A C t (λr0 E=>some (Ud r0,TN d h v w y A E))=some (Ud r.1,TN d h v w y A r.2)):aj (ent g):=okQ λ_ _ _ _ _ _ _ _ _ _ _ _ _ _ hc=>Tk hc (D _ _ _ _ _ _ _ _) λn _ j=>fF B an (pc G n) Tryz.func34 j (apl [(1,8,.loop (Tj 1012 bd))] ⟨Tf B n (dl8 G n) rfl (pc G n) ⟨[5,6],[4],[(0,[5,6])]⟩,Th⟩)
end z0z
namespace z10
structure Gs where
 z0z:z0z.Q
def ents(G:Gs):Td Ent:=[z0z.ent G.z0z]
def c8{R:Type}(G:Gs)(n:Nat)(A B C:LI)(D:LB)(E:LS)(F:LO)(out word:Z)(t20:LK)(t21 t22:Int)(h1:LM)(h2:Int)(d:Z)(h:Int)(j:LT)(t:Int)(v:Z)(w:Int)(y:LT)(J:Z->LM->Y R):Y R:=(G.z0z A B C D E F h1 (Tm.mk h2 d h j)).bind λH=>(G.z0z A B C D E F H.2 (Tm.mk t v w y)).bind λI=>(dL out word).bind λq10=>(dL q10 H.1).bind λq12=>(dL q12 (ByteArray.mk #[32,61,32])).bind λq14=>(dL q14 I.1).bind λq16=>J q16 I.2
variable{R:Type}(G:Gs)(n:Nat)
def b3(v w y:LI)(A:LB)(B:LS)(C:LO)(t20:LK)(t21:Int)(out:Z)(t22:Int)(h1:LM)(D:Z->Int->LM->Y R)(E:Z->LM->Y R):Y R:=bif decide (t22<t21)then((ix t20 t22).bind λe=>bif decide (t22=0)then(c8 G n v w y A B C out (ByteArray.mk #[32,105,102,32]) t20 t21 t22 h1 e.left.op e.left.ah e.left.am e.left.ae e.right.op e.right.ah e.right.am e.right.ae (λh t=>D h (wr (t22+1)) t))else c8 G n v w y A B C out (ByteArray.mk #[32,97,110,100,32]) t20 t21 t22 h1 e.left.op e.left.ah e.left.am e.left.ae e.right.op e.right.ah e.right.am e.right.ae (λd j=>D d (wr (t22+1)) j))else E out h1
def l3(m:Nat)(d h j:LI)(t:LB)(w:LS)(y:LO)(t20:LK)(t21:Int)(out:Z)(t22:Int)(h1:LM)(A:Z->LM->Y R):Y R:=aY (λ(v:Z×Int×LM) B=>b3 G n d h j t w y t20 t21 v.1 v.2.1 v.2.2 (λC D E=>B (C,D,E)) A) m (out,t22,h1)
def c2(t v w:LI)(y:LB)(A:LS)(B:LO)(out:Z)(h1:LM)(h2:Int)(C:Z)(D:Int)(E:LT)(F:Int)(H:Z)(I:Int)(J:LT)(d:LK)(K:Z->LM->Y R):Y R:=l3 G n n t v w y A B d (List.length d:Int) out 0 h1 (λh j=>K h j)
def aq(h j t:LI)(v:LB)(w:LS)(y:LO)(D:LM)(e:Eqn)(K:Z->LM->Y R):Y R:=(G.z0z h j t v w y D (Tm.mk e.left.op e.left.ah e.left.am e.left.ae)).bind λB=>(G.z0z h j t v w y B.2 (Tm.mk e.right.op e.right.ah e.right.am e.right.ae)).bind λC=>(dL B.1 (ByteArray.mk #[32,61,32])).bind λq6=>(dL q6 C.1).bind λq8=>c2 G n h j t v w y q8 C.2 e.left.op e.left.ah e.left.am e.left.ae e.right.op e.right.ah e.right.am e.right.ae e.bJ (λA d=>K A d)
def dc8:=rS [0,5,7,8,20,21,22] [Tw,Uv,U1,Uv,.x (.l Vb),Tx,Tx] [Tr,.m .i,Vh] λR K out word t20 t21 t22 C D E F H I h1 h2 h j t v w y A=>c8 G n C D E F H I out word t20 t21 t22 h1 h2 h j t v w y A (λd B=>K .normal ⟨[(0,TF),(5,Ud d),(20,.one (.l Vb t20)),(21,Tv t21),(22,Tv t22)],TN C D E F H I B⟩)
def dl3(m:Nat):=rS [0,5,20,21,22] [Tw,Uv,.x (.l Vb),Tx,Tx] [Tr,.m .i] λR K out t20 t21 t22 j t v w y A h1=>l3 G n m j t v w y A t20 t21 out t22 h1 (λd h=>K (.exit 0) ⟨[(5,Ud d)],TN j t v w y A h⟩)
def dc2:=rS [0,3,5] [Tw,U1,Uv] [Tr,.m .i,Uw] λR K out C D E F H I h1 h2 d h j t v w y A=>c2 G n C D E F H I out h1 h2 d h j t v w y A (λt4 B=>K .ret ⟨[(4,Ud t4)],TN C D E F H I B⟩)
def pc:Pcs:=⟨Tl 3 (dl3 G n n) nK,Tl 8 (dc8 G n) (Tl 2 (dc2 G n) nK),nK⟩
def an:Ann:=⟨45,2,[(3,[0,5,20,21,22])],[(8,[0,5,7,8,20,21,22]),(2,[0,3,5])],[4],[(1,⟨[([0,1,2,3,5,6,7,8,4,9,10],[3,8],[])],[3,8],[],[2],[]⟩),(8,⟨[([3,4,5,6,9,10,11,12,0,1,2,7,8,13,14],[6,12],[])],[6,12],[],[2],[]⟩)],[]⟩
abbrev bd:=aK Tryz.f16
abbrev q8:=Tj 14951 bd
theorem ok{G:Gs}(A:ap (ents G)){g:Q}(C:∀d h t v w y B e r,g d h t v w y B e=some r->∃n,aq (R:=AT×Td Ob) G n d h t v w y B e (λr0 D=>some (Ud r0,TN d h t v w y D))=some (Ud r.1,TN d h t v w y r.2)):aj (ent g):=okQ λ_ _ _ _ _ _ _ _ _ _ _ _ _ _ _ _ _ _ _ hc=>Tk hc (C _ _ _ _ _ _ _ _) λn _ j=>fF A an (pc G n) Tryz.func16 j (apl [(0,2,Tj 7 bd)] ⟨Tg A (dc2 G n) rfl (pc G n) ⟨[],[4],[]⟩ (apl [(1,3,.loop (Tj 116 bd))] ⟨Tf A n (dl3 G n) rfl (pc G n) ⟨[5],[4],[(0,[5])]⟩ (apl [(0,8,q8)] ⟨Tg A (dc8 G n) rfl (pc G n) ⟨[0,5,20,21,22],[4],[(0,[5]),(1,[0,5,20,21,22])]⟩,Th⟩),Th⟩),Th⟩)
end z10
namespace z18
structure Gs where
 strings_Cut:strings_Cut.Q
 z0r:z0r.Q
def aq{R:Type}(G:Gs)(n:Nat)(y A B:LI)(t:LB)(v:LS)(w:LO)(j:LM)(text:Z)(K:Tm->Tm->Bool->LM->Y R):Y R:=(G.strings_Cut text (ByteArray.mk #[32,61,32])).bind λr=>(G.z0r (Sg.mk (So.mk t v) w) r.1).bind λd=>(G.z0r (Sg.mk (So.mk t v) w) r.2.1).bind λh=>bif r.2.2 then(bif d.2 then(K (Tm.mk d.1.op d.1.ah d.1.am d.1.ae) (Tm.mk h.1.op h.1.ah h.1.am h.1.ae) h.2 j)else K (Tm.mk d.1.op d.1.ah d.1.am d.1.ae) (Tm.mk h.1.op h.1.ah h.1.am h.1.ae) false j)else K (Tm.mk d.1.op d.1.ah d.1.am d.1.ae) (Tm.mk h.1.op h.1.ah h.1.am h.1.ae) false j
theorem ok{G:Gs}(C:ap [strings_Cut.ent G.strings_Cut,z0r.ent G.z0r]){g:Q}(D:∀d h t v w y B text r,g d h t v w y B text=some r->∃n,aq (R:=AT×Td Ob) G n d h t v w y B text (λr0 A E F=>some (.tup [To r0,To A,Tp E],TN d h t v w y F))=some (.tup [To r.1,To r.2.1,Tp r.2.2.1],TN d h t v w y r.2.2.2)):aj (ent g):=okQ λ_ _ _ _ _ _ _ _ _ _ _ hc=>Tk hc (D _ _ _ _ _ _ _ _) λ_ _ j=>fF C ⟨47,2,[],[],[4,5,6],[(4,⟨[([0,2,3,4,5,6,9,1,10,7,8,11],[9,10],[])],[9,10],[],[0,1,4,5],[]⟩)],[]⟩ nP Tryz.func47 j
end z18
namespace z17
structure Gs where
 strings_Cut:strings_Cut.Q
 z18:z18.Q
 z12:z12.Q
 z10:z10.Q
def ents(G:Gs):Td Ent:=[strings_Cut.ent G.strings_Cut,z18.ent G.z18,z12.ent G.z12,z10.ent G.z10]
def b4{R:Type}(G:Gs)(n:Nat)(t v w:LI)(y:LB)(A:LS)(B:LO)(text:Z)(h2:Int)(C:Z)(D E:Int)(F:Z)(H:Int)(X h4:LT)(h5:LK)(h8:Int)(I:Z)(J:Int)(K:LT)(L:Int)(M:Z)(N:Int)(O:LT)(bJ:Z)(has ok:Bool)(h1:LM)(h6:Int)(P:Z)(Q:Int)(S:LT)(h7:Int)(T:Z)(U:Int)(V:LT)(h:LK)(W:Z->Bool->Bool->LM->Int->Z->Int->LT->Int->Z->Int->LT->LK->Y R)(j:Bool->LM->LK->Y R):Y R:=bif has then(bif ok then((G.strings_Cut bJ (ByteArray.mk #[32,97,110,100,32])).bind λr=>(G.z18 t v w y A B h1 r.1).bind λd=>(lim (h++[(Cnd.mk (Tm.mk d.1.op d.1.ah d.1.am d.1.ae) (Tm.mk d.2.1.op d.2.1.ah d.2.1.am d.2.1.ae))])).bind λzs=>W r.2.1 r.2.2 d.2.2.1 d.2.2.2 d.1.op d.1.ah d.1.am d.1.ae d.2.1.op d.2.1.ah d.2.1.am d.2.1.ae zs)else j ok h1 h)else j ok h1 h
variable{R:Type}(G:Gs)(n:Nat)
def l4(m:Nat)(Q S T:LI)(U:LB)(V:LS)(W:LO)(text:Z)(h2:Int)(d:Z)(h j:Int)(t:Z)(w:Int)(X h4:LT)(h5:LK)(h8:Int)(y:Z)(A:Int)(B:LT)(C:Int)(D:Z)(E:Int)(F:LT)(bJ:Z)(has ok:Bool)(h1:LM)(h6:Int)(H:Z)(I:Int)(J:LT)(h7:Int)(K:Z)(L:Int)(M:LT)(h9:LK)(k0:Bool->LM->LK->Y R):Y R:=aY (λ(v:Z×Bool×Bool×LM×Int×Z×Int×LT×Int×Z×Int×LT×LK) nx=>b4 G n Q S T U V W text h2 d h j t w X h4 h5 h8 y A B C D E F v.1 v.2.1 v.2.2.1 v.2.2.2.1 v.2.2.2.2.1 v.2.2.2.2.2.1 v.2.2.2.2.2.2.1 v.2.2.2.2.2.2.2.1 v.2.2.2.2.2.2.2.2.1 v.2.2.2.2.2.2.2.2.2.1 v.2.2.2.2.2.2.2.2.2.2.1 v.2.2.2.2.2.2.2.2.2.2.2.1 v.2.2.2.2.2.2.2.2.2.2.2.2 (λy0 y1 y2 y3 y4 y5 y6 y7 y8 y9 N O P=>nx (y0,y1,y2,y3,y4,y5,y6,y7,y8,y9,N,O,P)) k0) m (bJ,has,ok,h1,h6,H,I,J,h7,K,L,M,h9)
def aq(t v w:LI)(y:LB)(A:LS)(B:LO)(F:LM)(text:Z)(K:Eqn->Bool->LM->Y R):Y R:=(G.strings_Cut text (ByteArray.mk #[32,105,102,32])).bind λr=>(G.z18 t v w y A B F r.1).bind λd=>l4 G n n t v w y A B text 0 ByteArray.empty 0 0 ByteArray.empty 0 [] [] [] d.1.op d.1.ah d.1.am d.1.ae d.2.1.op d.2.1.ah d.2.1.am d.2.1.ae r.2.1 r.2.2 d.2.2.1 d.2.2.2 d.1.op d.1.ah d.1.am d.1.ae d.2.1.op d.2.1.ah d.2.1.am d.2.1.ae [] (λC j h=>bif !C then(K (Eqn.mk (Tm.mk 0 ByteArray.empty 0 []) (Tm.mk 0 ByteArray.empty 0 []) []) false j)else(G.z12 t v w y A B j (Eqn.mk (Tm.mk d.1.op d.1.ah d.1.am d.1.ae) (Tm.mk d.2.1.op d.2.1.ah d.2.1.am d.2.1.ae) h)).bind λD=>bif !D.1 then(K (Eqn.mk (Tm.mk 0 ByteArray.empty 0 []) (Tm.mk 0 ByteArray.empty 0 []) []) false D.2)else(G.z10 t v w y A B D.2 (Eqn.mk (Tm.mk d.1.op d.1.ah d.1.am d.1.ae) (Tm.mk d.2.1.op d.2.1.ah d.2.1.am d.2.1.ae) h)).bind λE=>bif !sEq E.1 text then(K (Eqn.mk (Tm.mk 0 ByteArray.empty 0 []) (Tm.mk 0 ByteArray.empty 0 []) []) false E.2)else K (Eqn.mk (Tm.mk d.1.op d.1.ah d.1.am d.1.ae) (Tm.mk d.2.1.op d.2.1.ah d.2.1.am d.2.1.ae) h) true E.2)
def dl4(m:Nat):=rS [0,1,4,7,8,9,10,11,12] [Tw,Uv,U1,Uv,UD,.x (.p 6 0),.x (.p 7 0),UD,.x (.p 8 0)] [Tr,.m .i,.b [.i,.s,.i,.o 3,.i,.s,.i,.o 4,.o 5],TH,TH,.r Vb 0,TJ,TJ,.b [.i,.s,.i,.l (.n 1),.i,.s,.i,.l (.n 1),.o 9],.r Vb 0] λR K text bJ has ok Q S T U V W h1 h2 d h j t v X h4 Y h6 F H I h7 J L M Z w y A B C D E h9=>l4 G n m Q S T U V W text h2 d h j t v X h4 Y Z w y A B C D E bJ has ok h1 h6 F H I h7 J L M h9 (λN O P=>K (.exit 0) ⟨[(0,TF),(1,Ud text),(4,Ua),(11,Tp N),(12,.one (.p 6 0))],[Tn Q S T U V W,Uz O,.box [.i h2,.s d,.i h,.o 3,.i j,.s t,.i v,.o 4,.o 5],Tz X,Tz h4,.row Vb 0 Y,.box [.i Z,.s w,.i y,.l (.n 1) A,.i B,.s C,.i D,.l (.n 1) E,.o 7],.row Vb 0 P]⟩)
def pc:Pcs:=⟨Tl 4 (dl4 G n n) nK,nK,nK⟩
def an:Ann:=⟨72,2,[(4,[0,1,4,7,8,9,10,11,12])],[],[4,5],[],[]⟩
abbrev bd:=aK Tryz.f23
theorem ok{G:Gs}(A:ap (ents G)){g:Q}(C:∀d h t v w y B text r,g d h t v w y B text=some r->∃n,aq (R:=AT×Td Ob) G n d h t v w y B text (λr0 D E=>some (.tup [TW r0,Tp D],TN d h t v w y E))=some (.tup [TW r.1,Tp r.2.1],TN d h t v w y r.2.2)):aj (ent g):=okQ λ_ _ _ _ _ _ _ _ _ _ _ hc=>Tk hc (C _ _ _ _ _ _ _ _) λn _ j=>fF A an (pc G n) Tryz.func23 j (apl [(1,4,.loop (Tj 248 bd))] ⟨Tf A n (dl4 G n) rfl (pc G n) ⟨[0,1,4,11,12],[4,5],[(0,[0,1,4,11,12])]⟩,Th⟩)
end z17
end
end
section
open Classical
def cp2:Z:=ByteArray.mk #[44,32]
def srt(s:Sg)(i:Int):Z:=(ix s.ai.ak i).getD ByteArray.empty
def pL(s:Sg)(f:Tm->Z)(t:Tm):Z:=if t.op= -1 then t.ah++ByteArray.mk #[58]++srt s t.am else match ix s.ops t.op with
 |none=>ByteArray.empty
 |some o=>if t.ae.length=0 then o.ah else o.ah++ByteArray.mk #[40]++mY (t.ae.map f) cp2++ByteArray.mk #[41]
def Kd(s:Sg):Nat->Tm->Z
 |0,_=>ByteArray.empty
 |k+1,t=>pL s (Kd s k) t
def txB(s:Sg)(t:Tm):Z:=Kd s (t.az+1) t
section
variable {s:Sg}{f:Tm->Z}{t:Tm}
theorem tv{g:Tm->Z}(h:∀x∈t.ae,f x=g x):pL s f t=pL s g t:=by
 unfold pL;rw[PZ h]
theorem BU{s:Sg}:∀(k j:Nat)(t:Tm),t.az<k->t.az<j->Kd s k t=Kd s j t
 |0,_,_,h,_=>absurd h (OM _)
 |_,0,_,_,h=>absurd h (OM _)
 |k+1,j+1,t,h1,h2=>tv λx d=>BU k j x H3 H3
theorem lN(s:Sg)(t:Tm):txB s t=pL s (txB s) t:=tv λx d=>BU _ _ x (aM d) (OX _)
theorem bM(a b:Z):(a++b).size=a.size+b.size:=by rw[<-ce,my,OJ,ce,ce]
theorem eQ{a b:Z}(h:a.size+b.size<=1099511627776):dL a b=some (a++b):=by
 unfold dL;rw[dT h];rfl
def jn(sep:Z):Td Z->Td Int
 |[]=>[]
 |x::r=>ofS x++r.flatMap λe=>ofS sep++ofS e
theorem vL(sep:Z):∀(xs:Td Z),(Lib.join (xs.map (·.data.toList)) sep.data.toList).map (λb:UInt8=>(b.toNat:Int))=jn sep xs
 |[]=>rfl
 |[x]=>by rw[Pz,List.map_nil,Lib.join_one];exact(OO _).symm
 | x::y::r=>by
  have e:Lib.join ((x::y::r).map (·.data.toList)) sep.data.toList=x.data.toList++sep.data.toList++Lib.join ((y::r).map (·.data.toList)) sep.data.toList:=Rm
  rw[e,PJ,PJ,vL sep (y::r)];show ofS x++ofS sep++(ofS y++_)=ofS x++List.flatMap _ (y::r);rw[Py,O5,O5]
theorem ln(xs:Td Z)(sep:Z):ofS (mY xs sep)=jn sep xs:=by
 rw[<-vL];unfold mY ofS;simp
theorem vr:∀{l seen:Td Z},nA seen l=true->∀x∈l,cY x=true
 | o::r,seen,h,x,d=>by
  unfold nA at h;simp only[bA]at h;rcases List.mem_cons.1 d with rfl|d
  .exact h.1
  .exact vr h.2.2 x d
theorem sf(h:bD s=true){i:Int}{x:Z}(d:ix s.ai.ak i=some x):cY x=true:=by
 unfold bD jR at h;simp only[bA]at h;exact vr h.1.2.2.2.1 x (bZ d).1
theorem vm{f:Tm->Z}:∀xs:Td Tm,(∀x∈xs,(f x).size+2<=27*tsz x)->((xs.map f).flatMap λe=>ofS cp2++ofS e).length<=27*wS tsz xs
 |[],_=>P6 _
 | x::r,h=>by
  rw[hZ,Pz,Py,OJ,OJ,ce,ce];have:=h x A1;have:=vm r λz d=>h z I1;show 2+_+_<=_;omega
theorem Hf(hS:bD s=true)(j:Good s t):(txB s t).size+2<=27*tsz t:=by
 induction j with
 | @var ah am h1 h2 v=>
  rw[lN,dY];unfold pL;rw[mt rfl];obtain⟨x,h,_⟩:=uF h1 h2;have e:srt s am=x:=by unfold srt;rw[h];rfl
  have:=fH (sf hS h);have:=fH v;dsimp only;rw[e,bM,bM];show _+1+_+2<=_;omega
 | @app op o ae ho A B d=>
  rw[lN,dY];unfold pL;have:=(bZ ho).2.1;have:=fH ((ja hS).1 o (bZ ho).1);dsimp only;rw[O2 A0,ho];dsimp only;split
  .omega
  .have w:=ln (ae.map (txB s)) cp2;have hl:=congrArg List.length w;rw[ce]at hl;rw[bM,bM,bM,hl]
   match ae,d with
   |[],_=>show _+1+0+1+2<=_;omega
   | x::r,d=>
    have:=vm r λz y=>d z (by simp[y]);have:=d x A1;rw[hZ];show _+1+(ofS (txB s x)++_).length+1+2<=_;rw[OJ,ce];omega
def Pr(s:Sg)(t:Tm):Prop:=bD s=true/\t.az<4294967296/\tsz t<=60/\Good s t
theorem Pr.arg{x:Tm}(h:Pr s t)(d:x∈t.ae):Pr s x:=⟨h.1,by have:=aM d;have:=h.2.1;omega,by have:=vM d;have:=h.2.2.1;omega,h.2.2.2.ae x d⟩
theorem Pr.size(h:Pr s t):(txB s t).size<=1620:=by
 have:=Hf h.1 h.2.2.2;have:=h.2.2.1;omega
theorem Pr.jn{s:Sg}{t:Tm}(h:Pr s t)(d:t.ae.length≠0):(jn cp2 (t.ae.map (txB s))).length<=1620/\t.op≠ -1:=by
 have h1:=h.size;have h2:=h.2.2.2;cases h2 with
 |var=>exact absurd rfl d
 | @app op o ae ho=>
  have:=(bZ ho).2.1;refine⟨?_,(A0:op≠ -1)⟩;rw[lN]at h1;unfold pL at h1;dsimp only at h1 d ⊢;rw[O2 A0,ho]at h1;dsimp only at h1;rw[O2 d,bM,bM]at h1;rw[<-ln,ce];rw[bM]at h1;omega
theorem J0(h:Pr s t)(ho:t.op= -1):∃x,ix s.ai.ak t.am=some x/\txB s t=t.ah++ByteArray.mk #[58]++x/\t.ah.size<=12/\x.size<=12:=by
 have h2:=h.2.2.2;cases h2 with
 | var h1 h2 v=>
  obtain⟨x,d,_⟩:=uF h1 h2;refine⟨x,d,?_,fH v,fH (sf h.1 d)⟩;rw[lN];unfold pL;rw[mt rfl];unfold srt;dsimp only;rw[d];rfl
 | @app op _ _ j=>exact absurd ho (by have:=(bZ j).2.1;show op≠ -1;omega)
theorem Mx(h:Pr s t)(ho:t.op≠ -1):∃o,ix s.ops t.op=some o/\0<=t.op/\o.ah.size<=12/\txB s t=if t.ae.length=0 then o.ah else o.ah++ByteArray.mk #[40]++mY (t.ae.map (txB s)) cp2++ByteArray.mk #[41]:=by
 have h2:=h.2.2.2;cases h2 with
 |var=>exact absurd rfl ho
 | @app _ o _ d=>
  refine⟨o,d,(bZ d).2.1,fH ((ja h.1).1 o (bZ d).1),?_⟩;rw[lN];unfold pL;rw[O2 ho,d]
noncomputable def gFm(k:Nat):Td Int->Td Int->Td Int->Td Z->Td Sb->Td Opr->Mp->Tm->Y (Z×Mp):=λ_ _ _ nm sb ops m t=>if Pr ⟨⟨nm,sb⟩,ops⟩ t/\t.az<k then some (txB ⟨⟨nm,sb⟩,ops⟩ t,m)else none
end
section
variable {R : Type} {nm : Td Z} {sb : Td Sb} {ops : Td Opr} {ab be kd : Td Int}
theorem Kl(n k:Nat)(ah:Z)(xs:Td Tm)(t:∀x∈xs,Pr ⟨⟨nm,sb⟩,ops⟩ x/\x.az<k)(hl:xs.length<4294967296)(d:Mp)(h:Mp->Td Z->Y R):∀m (i:Nat),i<=xs.length->xs.length-i<m->
  z0z.l8 ⟨gFm k,oz⟩ n m ab be kd nm sb ops ah xs (xs.length:Int) (i:Int) d ((xs.take i).map (txB ⟨⟨nm,sb⟩,ops⟩)) h=h d (xs.map (txB ⟨⟨nm,sb⟩,ops⟩)):=by
 intro m
 induction m with
 |zero=>exact T9
 | succ m v=>
  intro i h1 hm;show z0z.b8 ⟨gFm k,oz⟩ n ab be kd nm sb ops ah xs (xs.length:Int) (i:Int) d ((xs.take i).map (txB ⟨⟨nm,sb⟩,ops⟩)) (λw y A=>z0z.l8 ⟨gFm k,oz⟩ n m ab be kd nm sb ops ah xs (xs.length:Int) w y A h) h=_;unfold z0z.b8;by_cases hi:i<xs.length
  .obtain⟨x,j,B⟩:=bo hi;rw[bt hi,cT,aW j,bS,Tm.eta];show Option.bind (gFm k ab be kd nm sb ops d x) _=_;rw[show gFm k ab be kd nm sb ops d x=some (txB ⟨⟨nm,sb⟩,ops⟩ x,d)from mt (t x B),bS,cV A4,bS,bw A0];have e2:(xs.take i).map (txB ⟨⟨nm,sb⟩,ops⟩)++[txB ⟨⟨nm,sb⟩,ops⟩ x]=(xs.take (i+1)).map (txB ⟨⟨nm,sb⟩,ops⟩):=by rw[fW j,PJ];rfl
   rw[e2];exact v (i+1) hi A0
  .grind
theorem Kr(k:Nat)(t:Tm)(C:t.az<k+1)(h:Pr ⟨⟨nm,sb⟩,ops⟩ t)(m:Mp)(K:Z->Mp->Y R):z0z.aq ⟨gFm k,oz⟩ (t.ae.length+1) ab be kd nm sb ops m t K=K (txB ⟨⟨nm,sb⟩,ops⟩ t) m:=by
 have hl:=ct t.ae;have v:=bu t;have w:=h.2.1;unfold z0z.aq;by_cases ho:t.op= -1
 .obtain⟨x,d,e,y,D⟩:=J0 h ho;rw[dT A0,cT,eQ (by show _+1<=_;omega),bS,show ix nm t.am=_ from d,bS,eQ (by rw[bM];show _+1+_<=_;omega),bS,e]
 .obtain⟨o,d,h0,y,e⟩:=Mx h ho;rw[dF A0,cF,show ix ops t.op=_ from d,bS,e];by_cases j:t.ae.length=0
  .grind
  .rw[dF A0,cF,O2 j];have e:=Kl (R:=R) (ab:=ab) (be:=be) (kd:=kd) (t.ae.length+1) k o.ah t.ae (λx d=>⟨h.arg d,H3⟩) A0 m;refine(e _ (t.ae.length+1) 0 A0 A0).trans ?_;have A:=(h.jn j).1;rw[<-ln,ce]at A;have B:oz (t.ae.map (txB ⟨⟨nm,sb⟩,ops⟩)) cp2=some (mY (t.ae.map (txB ⟨⟨nm,sb⟩,ops⟩)) cp2):=by
    refine mt ⟨by rw[OV];omega,?_⟩;have:=congrArg List.length (vL cp2 (t.ae.map (txB ⟨⟨nm,sb⟩,ops⟩)));rw[OV,<-ln,ce]at this;omega
   rw[eQ (by show _+1<=_;omega),bS];show Option.bind (oz _ cp2) _=_;rw[B,bS,eQ (by rw[bM];show _+1+_<=_;omega),bS,eQ (by rw[bM,bM];show _+1+_+1<=_;omega),bS]
end
theorem vk:∀k,aj (z0z.ent (gFm k))
 |0=>okQ (by (repeat intro h);simp[gFm]at h)
 | k+1=>z0z.ok (G:=⟨gFm k,oz⟩) ⟨vk k,z5f,trivial⟩ fun ab be kd nm sb ops m t r h=>by
  unfold gFm at h;split at h
  .rename_i hs;cases h;exact⟨t.ae.length+1,(Kr k t hs.2 hs.1 m _).trans rfl⟩
  .cases h
def wIf:Z:=ByteArray.mk #[32,105,102,32]
def iY:Z:=ByteArray.mk #[32,97,110,100,32]
def wEq:Z:=ByteArray.mk #[32,61,32]
def fmE(s:Sg):Nat->Z->Td Cnd->Z
 |_,out,[]=>out
 |i,out,c::cs=>fmE s (i+1) (out++(if i=0 then wIf else iY)++txB s c.left++wEq++txB s c.right) cs
def fT(s:Sg)(e:Eqn):Z:=fmE s 0 (txB s e.left++wEq++txB s e.right) e.bJ
def PrC(s:Sg)(c:Cnd):Prop:=Pr s c.left/\Pr s c.right
def PrE(s:Sg)(e:Eqn):Prop:=Pr s e.left/\Pr s e.right/\(∀c∈e.bJ,PrC s c)/\e.bJ.length<=2
theorem CP{s:Sg}{a b:Tm}(hS:bD s=true)(d:a.az<1073741823)(j:b.az<1073741823)(h:fM s a b=true):Pr s a/\Pr s b:=by
 have key:∀t:Tm,t.az<1073741823->isT s t=true->Pr s t:=λt v h=>by
  unfold isT at h;simp only[bA,O8]at h;exact⟨hS,A0,h.1,hQ h.2.2⟩
 unfold fM at h;simp only[bA]at h;exact⟨key a d h.1,key b j h.2.1⟩
theorem wW{s:Sg}{e:Eqn}(hS:bD s=true)(he:SmE e)(h:eJ s e=true):PrE s e:=by
 unfold eJ rH at h;simp only[bA,O8,aT]at h;obtain⟨h1,_,h2,_,d⟩:=h;obtain⟨a,b⟩:=CP hS he.1 he.2.1 h1;exact⟨a,b,λc hc=>CP hS (he.2.2 c hc).1 (he.2.2 c hc).2 (d c hc).1,A0⟩
theorem G4{s:Sg}{c:Cnd}(h:PrC s c){out w:Z}(ho:out.size<=100000)(d:w.size<=5):
  dL out w=some (out++w)/\dL (out++w) (txB s c.left)=some (out++w++txB s c.left)/\dL (out++w++txB s c.left) wEq=some (out++w++txB s c.left++wEq)/\dL (out++w++txB s c.left++wEq) (txB s c.right)=some (out++w++txB s c.left++wEq++txB s c.right)/\(out++w++txB s c.left++wEq++txB s c.right).size<=out.size+4000:=by
 have:=h.1.size;have:=h.2.size;have e:wEq.size=3:=rfl;simp only[bM];refine⟨eQ A0,eQ (by rw[bM];omega),eQ (by simp only[bM];omega),eQ (by simp only[bM];omega),A0⟩
theorem DK(i:Nat):(if i=0 then wIf else iY).size<=5:=by
 split
 .decide
 .decide
noncomputable def gFE:Td Int->Td Int->Td Int->Td Z->Td Sb->Td Opr->Mp->Eqn->Y (Z×Mp):=λ_ _ _ nm sb ops m e=>if PrE ⟨⟨nm,sb⟩,ops⟩ e then some (fT ⟨⟨nm,sb⟩,ops⟩ e,m)else none
theorem CE{ab be kd:Td Int}{nm:Td Z}{sb:Td Sb}{ops:Td Opr}(m:Mp){t:Tm}(h:Pr ⟨⟨nm,sb⟩,ops⟩ t):gFm 4294967296 ab be kd nm sb ops m t=some (txB ⟨⟨nm,sb⟩,ops⟩ t,m):=mt ⟨h,h.2.1⟩
section
variable {R : Type} {nm : Td Z} {sb : Td Sb} {ops : Td Opr}
theorem JJ(n:Nat){ab be kd:Td Int}(cs:Td Cnd)(hc:∀c∈cs,PrC ⟨⟨nm,sb⟩,ops⟩ c)(hl:cs.length<=2)(d:Mp)(j:Z->Mp->Y R):∀m (i:Nat) (out:Z),i<=cs.length->cs.length-i<m->out.size<=5000+i*4000->
  z10.l3 ⟨gFm 4294967296⟩ n m ab be kd nm sb ops cs (cs.length:Int) out (i:Int) d j=j (fmE ⟨⟨nm,sb⟩,ops⟩ i out (cs.drop i)) d:=by
 intro m
 induction m with
 |zero=>exact T6
 | succ m v=>
  intro i out h1 hm ho;show z10.b3 ⟨gFm 4294967296⟩ n ab be kd nm sb ops cs (cs.length:Int) out (i:Int) d (λy A B=>z10.l3 ⟨gFm 4294967296⟩ n m ab be kd nm sb ops cs (cs.length:Int) y A B j) j=_;unfold z10.b3;by_cases hi:i<cs.length
  .obtain⟨c,t,C⟩:=bo hi;have hp:=hc c C;have key:∀w:Z,w.size<=5->w=(if i=0 then wIf else iY)->z10.c8 (R:=R) ⟨gFm 4294967296⟩ n ab be kd nm sb ops out w cs (cs.length:Int) (i:Int) d c.left.op c.left.ah c.left.am c.left.ae c.right.op c.right.ah c.right.am c.right.ae (λo h=>z10.l3 ⟨gFm 4294967296⟩ n m ab be kd nm sb ops cs (cs.length:Int) o (wr ((i:Int)+1)) h j)=j (fmE ⟨⟨nm,sb⟩,ops⟩ i out (c::cs.drop (i+1))) d:=λw D E=>by
    obtain⟨e1,e2,e3,F,G⟩:=G4 hp (out:=out) A0 D;unfold z10.c8;rw[Tm.eta,Tm.eta];show Option.bind (gFm 4294967296 ab be kd nm sb ops d c.left) _=_;rw[CE d hp.1,bS];show Option.bind (gFm 4294967296 ab be kd nm sb ops d c.right) _=_;rw[CE d hp.2,bS,e1,bS,e2,bS];show Option.bind (dL _ wEq) _=_;rw[e3,bS,F,bS,bw A0];subst E;exact(v (i+1) _ hi A0 A0).trans rfl
   rw[bt hi,cT,aW t,bS,bm t];by_cases h0:i=0
   .rw[dT A0,cT];exact key wIf A3 (mt h0).symm
   .rw[dF A0,cF];exact key iY A3 (O2 h0).symm
  .obtain rfl:i=cs.length:=A0
   exact T8
end
theorem zk{s:Sg}{e:Eqn}(h:PrE s e):dL (txB s e.left) wEq=some (txB s e.left++wEq)/\dL (txB s e.left++wEq) (txB s e.right)=some (txB s e.left++wEq++txB s e.right)/\(txB s e.left++wEq++txB s e.right).size<=5000:=by
 have:=h.1.size;have:=h.2.1.size;have e:wEq.size=3:=rfl;simp only[bM];exact⟨eQ A0,eQ (by rw[bM];omega),A0⟩
theorem jF:aj (z10.ent gFE):=z10.ok (G:=⟨gFm 4294967296⟩) ⟨vk _,trivial⟩ λab be kd nm sb ops m e r h=>by
 unfold gFE at h;split at h
 .rename_i hs;cases h;obtain⟨e1,e2,e3⟩:=zk hs;refine⟨3,?_⟩;unfold z10.aq;rw[Tm.eta,Tm.eta];show Option.bind (gFm 4294967296 ab be kd nm sb ops m e.left) _=_;rw[CE m hs.1,bS];show Option.bind (gFm 4294967296 ab be kd nm sb ops m e.right) _=_;rw[CE m hs.2.1,bS];show Option.bind (dL _ wEq) _=_;rw[e1,bS,e2,bS];exact(JJ 3 e.bJ hs.2.2.1 hs.2.2.2 m _ 3 0 _ A0 (by have:=hs.2.2.2;omega) A0).trans rfl
 .cases h
theorem IG{R:Type}(n k:Nat)(xs:Td Tm)(j:∀x∈xs,x.az<k)(hl:xs.length<4294967296)(d:Td Tm->Y R):∀m (i:Nat),i<=xs.length->xs.length-i<m->
  z1f.l3 ⟨gCp k⟩ n m xs (xs.length:Int) (i:Int) (xs.take i) d=d xs:=by
 intro m
 induction m with
 |zero=>exact T9
 | succ m t=>
  intro i h1 hm;show z1f.b3 ⟨gCp k⟩ n xs (xs.length:Int) (i:Int) (xs.take i) (λv w=>z1f.l3 ⟨gCp k⟩ n m xs (xs.length:Int) v w d) d=_;unfold z1f.b3;by_cases hi:i<xs.length
  .obtain⟨x,h,y⟩:=bo hi;rw[bt hi,cT,aW h,bS,Tm.eta];show Option.bind (gCp k x) _=_;unfold gCp;rw[mt (j x y),bS,Tm.eta,cV A4,bS,bw A0,<-fW h];exact t (i+1) hi A0
  .obtain rfl:i=xs.length:=A0
   rw[bh hi,cF,lB]
theorem z1g(k:Nat)(e:aj (z1d.ent (gCp k)))(hk:k<4294967296):aj (z1f.ent (ox (k+1))):=z1f.ok (G:=⟨gCp k⟩) ⟨e,trivial⟩ λ(l:Td Tm) r h=>by
 unfold ox at h;split at h
 .rename_i hs;cases h;have hl:=ct l;refine⟨l.length+1,?_⟩;unfold z1f.aq;exact IG (l.length+1) k l (λx d=>by have:=mA d;omega) A0 _ (l.length+1) 0 A0 A0
 .cases h
theorem z1e:∀k,k<=4294967296->aj (z1d.ent (gCp k))
 |0,_=>okQ (by (repeat intro h);simp[gCp]at h)
 | k+1,hk=>z1d.ok (G:=⟨ox (k+1)⟩) ⟨z1g k (z1e k A0) A0,trivial⟩ fun t r h=>by
  unfold gCp at h;split at h
  .rename_i hs;cases h;have d:=bu t;refine⟨1,?_⟩;unfold z1d.aq;have e:ox (k+1) t.ae=some t.ae:=mt A0;show Option.bind (ox (k+1) t.ae) _=_;rw[e];rfl
  .cases h
noncomputable def gPT:Sg->Z->Y (Tm×Bool):=λs t=>if SgD s then some (dx s t)else none
theorem wn:aj (z0r.ent gPT):=z0r.ok (G:=⟨fV,gTm 21,pV,gCp 4294967296⟩) ⟨ib,CO 21,pJ,z1e _ (O3 _),trivial⟩ λs t r h=>⟨1,by
 unfold gPT at h;split at h
 .rename_i d;have hs:=d.ok;cases h;unfold z0r.aq;have j:fV s=some (some (cM s)):=wv d;show Option.bind (fV s) _=_;rw[j,bS];by_cases hl:t.size<=2000
  .show (bif decide (2000<(ByteArray.size t:Int))then _ else Option.bind (gTm 21 (cM s).1 (cM s).2.1 (cM s).2.2.1 (cM s).2.2.2.1 (cM s).2.2.2.2.1 (cM s).2.2.2.2.2.1 (cM s).2.2.2.2.2.2 t 0 1) _)=_;have e1:gTm 21 (cM s).1 (cM s).2.1 (cM s).2.2.1 (cM s).2.2.2.1 (cM s).2.2.2.2.1 (cM s).2.2.2.2.2.1 (cM s).2.2.2.2.2.2 t 0 1=some ((bN s t 20 0).1,(bN s t 20 0).2.1,(bN s t 20 0).2.2,[]):=mt ⟨⟨hs,rfl⟩,re _ _,Jf hl,A0,A0,A3⟩;obtain⟨v,A,w⟩:=lZ hs t 20 0 (Jf hl);have e2:pV (cM s).1 (cM s).2.1 (cM s).2.2.1 (cM s).2.2.2.1 (cM s).2.2.2.2.1 (cM s).2.2.2.2.2.1 [] t (bN s t 20 0).2.2=some (spA t (bN s t 20 0).2.2,[]):=mt v;rw[dF A0,cF,e1,bS];show Option.bind (pV (cM s).1 (cM s).2.1 (cM s).2.2.1 (cM s).2.2.2.1 (cM s).2.2.2.2.1 (cM s).2.2.2.2.2.1 [] t (bN s t 20 0).2.2) _=_;rw[e2,bS];unfold dx;cases y:(bN s t 20 0).2.1 with
   |false=>rw[O2 A1];rfl
   | true=>
    by_cases he:spA t (bN s t 20 0).2.2=t.size
    .rw[mt ⟨hs,hl,rfl,he⟩];simp only;rw[O4,cF,dT he,O4,cF,Tm.eta];have e3:gCp 4294967296 (bN s t 20 0).1=some (bN s t 20 0).1:=mt (by have:=(w y).az;omega);show Option.bind (gCp 4294967296 (bN s t 20 0).1) _=_;rw[e3];rfl
    .rw[O2 λq=>he q.2.2.2];simp only;rw[O4,cF,dF he];rfl
  .show (bif decide (2000<(ByteArray.size t:Int))then _ else _)=_;rw[dT A0];unfold dx;rw[O2 λq=>hl q.2.1];rfl
 .cases h⟩
def bW(s d:Z):Z×Z×Bool:=(⟨(Lib.cut s.data.toList d.data.toList).1.toArray⟩,⟨(Lib.cut s.data.toList d.data.toList).2.1.toArray⟩,(Lib.cut s.data.toList d.data.toList).2.2)
theorem DI(s d:Z):(Lib.indexB s d= -1/\bW s d=(s,ByteArray.empty,false))\/∃i:Nat,Lib.indexB s d=i/\i+d.size<=s.size/\bW s d=(s.extract 0 i,s.extract (i+d.size) s.size,true):=by
 rcases Lib.indexB_cases s d with h|⟨i,h,j⟩
 .obtain⟨e1,e2,e3⟩:=Lib.cutB_miss s d h;exact .inl ⟨h,by unfold bW;rw[e1,e2,e3]⟩
 .obtain⟨e1,e2,e3⟩:=Lib.cutB_hit s d i h;exact .inr ⟨i,h,j,by unfold bW;rw[e1,e2,e3]⟩
theorem lK(s d:Z):(bW s d).1.size<=s.size/\(bW s d).2.1.size<=s.size/\((bW s d).2.2=true->(bW s d).2.1.size+d.size<=s.size):=by
 rcases DI s d with⟨_,e⟩|⟨i,_,h,e⟩<;>rw[e]
 .simp_all
 .simp only[ByteArray.size_extract];exact⟨A0,A0,λ_=>A0⟩
noncomputable def dZ(s:Sg)(t:Z):Tm×Tm×Bool:=((dx s (bW t wEq).1).1,(dx s (bW t wEq).2.1).1,(bW t wEq).2.2&&((dx s (bW t wEq).1).2&&(dx s (bW t wEq).2.1).2))
noncomputable def ly(s:Sg):Nat->Z->Bool->Bool->Td Cnd->Bool×Td Cnd
 |n+1,c,true,true,l=>ly s n (bW c iY).2.1 (bW c iY).2.2 (dZ s (bW c iY).1).2.2 (l++[⟨(dZ s (bW c iY).1).1,(dZ s (bW c iY).1).2.1⟩])
 |_,_,_,ok,l=>(ok,l)
noncomputable def wH(s:Sg)(t:Z):Bool×Td Cnd:=ly s (t.size+1) (bW t wIf).2.1 (bW t wIf).2.2 (dZ s (bW t wIf).1).2.2 []
noncomputable def oX(s:Sg)(t:Z):Eqn:=⟨(dZ s (bW t wIf).1).1,(dZ s (bW t wIf).1).2.1,(wH s t).2⟩
noncomputable def peF(s:Sg)(t:Z):Eqn×Bool:=if (wH s t).1=true/\eJ s (oX s t)=true/\fT s (oX s t)=t then (oX s t,true)else (⟨Zt,Zt,[]⟩,false)
section
variable {s:Sg}{t:Z}{l:Td Cnd}
theorem o6{n:Nat}{c:Z}{has ok:Bool}(h:(has&&ok)=false):ly s n c has ok l=(ok,l):=by
 cases n<;>cases has<;>cases ok<;>first|rfl|cases h
theorem pg(s:Sg)(t:Z):(dx s t).1.az<=780:=by
 cases d:(dx s t).2 with
 | true=>
  obtain⟨he,hs,hl,h1,_⟩:=rK d;rw[he];exact((lZ hs t 20 0 (Jf hl)).2.2 h1).az
 | false=>
  rw[(Ed d).1];show (Tm.mk 0 ByteArray.empty 0 []).az<=780;rw[Tm.lS];simp[aF]
def SmC(l:Td Cnd):Prop:=∀c∈l,c.left.az<=780/\c.right.az<=780
theorem SmC.snoc(h:SmC l)(t:Z):SmC (l++[⟨(dZ s t).1,(dZ s t).2.1⟩]):=λc hc=>by
 rcases List.mem_append.1 hc with hc|hc
 .exact h c hc
 .simp at hc;subst hc;exact⟨pg _ _,pg _ _⟩
theorem CK(s:Sg):∀(n:Nat)(c:Z)(has ok:Bool)(l:Td Cnd),SmC l->SmC (ly s n c has ok l).2
 |n+1,_,true,true,_,h=>CK s n _ _ _ _ (h.snoc _)
 |0,_,_,_,_,h=>h
 |_+1,_,false,_,_,h=>h
 |_+1,_,true,false,_,h=>h
theorem Mn(h:SmC l):SmE ⟨(dZ s t).1,(dZ s t).2.1,l⟩:=
 ⟨by have:=pg s (bW t wEq).1;show (dx s _).1.az<_;omega,by have:=pg s (bW t wEq).2.1;show (dx s _).1.az<_;omega,λc hc=>by have:=h c hc;omega⟩
theorem Kq(h:(dZ s t).2.2=true):3<=t.size/\bD s=true:=by
 unfold dZ at h;simp only[bA]at h;have:=(lK t wEq).2.2 h.1;have e:wEq.size=3:=rfl;exact⟨A0,(rK h.2.1).2.1⟩
end
end
end Go.Proofs.YtkegnipofloejaaGreatDoor.Den
namespace Go.Proofs.YtkegnipofloejaaGreatDoor.Abs
open Go.RowKit
theorem vy{P:Program}{f:FuncId}{xs:Td AV}{h:au}{r:AV}{u:Value}(hc:dI P f)(y:∀[Zb](ι:Td Inf)(I:Nat->Prop)(w:World),AR ι I w r u)
  (A:∀[Zb](w:World)(I:Nat->Prop)(ι:Td Inf)(cs:Array Value),GV w->ARs ι I w xs cs->Calls P f cs w λe w'=>e= .returned u/\Below w.heap.size w w'):Fn P f xs h (λB h'=>B=r/\h'=h):=
 ⟨hc, fun w I ι cs C D v hA=>(A w I ι cs C.1 hA).mono fun _ _ ⟨e1,d⟩=>⟨_,_,ι,I,u,⟨rfl,rfl⟩,e1,
  { res:=y _ _ _
    heap:=D.below v d
    imm:=λb j=>PD (v b j) d.size
    cw:=λ_ j=>.inl j
    pre:=bj.refl _
    os:=d.os
    tape:=d.tape
    output:=d.output
    grown:=d.size
    frame:=λb t _=>d.block b t
    cA:=λid o inf h1 h2=>.inl ⟨id,o,inf,h1,h2,rfl⟩}⟩⟩
theorem Me{a b:Z}(y:a.size<=1048576)(h:au):Fn Tryz.prog 22 [.one (.lit (.string a)),.one (.lit (.string b))] h (λr h'=>r= .tup [.one (.lit (.string (Den.bW a b).1)),.one (.lit (.string (Den.bW a b).2.1)),.one (.lit (.bool (Den.bW a b).2.2))]/\h'=h):=by
 have hs:=Den.lK a b;refine vy (u:=.tuple #[.string (Den.bW a b).1,.string (Den.bW a b).2.1,.bool (Den.bW a b).2.2]) ⟨Tryz.f22,Tryz.func22,D1,D1⟩ (λι I w=> ?_) λw I ι cs ⟨m,hm⟩ hA=> ?_
 .have t:dM (.string (Den.bW a b).1):=by unfold dM maxLen;omega
  have v:dM (.string (Den.bW a b).2.1):=by unfold dM maxLen;omega
  refine .tup (f:=λj=>(#[Value.string (Den.bW a b).1,.string (Den.bW a b).2.1,.bool (Den.bW a b).2.2][j]?).getD undef) rfl (λj d=> ?_) (λj d=> ?_)
  .match j,d with
   |0,_=>rfl
   |1,_=>rfl
   |2,_=>rfl
  .match j,d with
   |0,_=>exact .one (.lit t)
   |1,_=>exact .one (.lit v)
   |2,_=>exact .one (.lit trivial)
 .rw[ars2 hA];refine(Tryz.strings_Cut a b m w A0 hm).mono λe w' ⟨e1,n,e2⟩=>⟨e1,?_⟩;rw[e2];exact below_drewN (.refl _ _) _
end Go.Proofs.YtkegnipofloejaaGreatDoor.Abs
namespace Go.Proofs.YtkegnipofloejaaGreatDoor.Den
open Go.RowKit
open Classical
open Abs (V AV)
noncomputable def jG:Z->Z->Y (Z×Z×Bool):=λs d=>if s.size<=1048576 then some (bW s d)else none
theorem AU:aj (strings_Cut.ent jG):=okQ λ_ _ _ a b hc=>okL hc λr j=>by
 unfold jG at j;split at j
 .rename_i hs;cases j;intro ρ h avs hp t;have e:avs=[.one (.lit (.string a)),.one (.lit (.string b))]:=by
   obtain⟨l,g⟩:=t
   match avs,l with
   | [x,y],_=>
    have d:=g 0 A1 A1;have k1:=g 1 A1 A1;simp only[OY,PG]at d k1;cases d with|one d=>
    cases k1 with|one k1=>
    rw[d.str_,k1.str_]
  subst e;refine(Abs.Me hs h).mono λr h' ⟨e1,e2⟩=> ?_;subst e1 e2;exact⟨ρ,.tup rfl λj h1 h2=>by
   match j,h1 with
   |0,_=>exact .one (.fl .s)
   |1,_=>exact .one (.fl .s)
   |2,_=>exact .one (.fl .b),hp,Fr.refl ρ [] _⟩
 .cases j
noncomputable def s9:Td Int->Td Int->Td Int->Td Z->Td Sb->Td Opr->Mp->Z->Y (Tm×Tm×Bool×Mp):=λ_ _ _ nm sb ops m t=>if t.size<=1048576/\SgD ⟨⟨nm,sb⟩,ops⟩then some ((dZ ⟨⟨nm,sb⟩,ops⟩ t).1,(dZ ⟨⟨nm,sb⟩,ops⟩ t).2.1,(dZ ⟨⟨nm,sb⟩,ops⟩ t).2.2,m)else none
theorem tX:aj (z18.ent s9):=z18.ok (G:=⟨jG,gPT⟩) ⟨AU,wn,trivial⟩ λab be kd nm sb ops m t r h=>by
 unfold s9 at h;split at h
 .rename_i hs;cases h;refine⟨1,?_⟩;unfold z18.aq;have d:∀t,({strings_Cut:=jG,z0r:=gPT}:z18.Gs).z0r ⟨⟨nm,sb⟩,ops⟩ t=some (dx ⟨⟨nm,sb⟩,ops⟩ t):=λt=>mt hs.2;show Option.bind (jG t wEq) _=_;rw[show jG t wEq=_ from mt hs.1,bS,d,bS,d,bS,Tm.eta,Tm.eta];unfold dZ;cases (bW t wEq).2.2<;>cases (dx ⟨⟨nm,sb⟩,ops⟩ (bW t wEq).1).2<;>rfl
 .cases h
noncomputable abbrev GPE:z17.Gs:=⟨jG,s9,yY,gFE⟩
section
variable {R : Type} {ab be kd : Td Int} {nm : Td Z} {sb : Td Sb} {ops : Td Opr}
theorem JD(C:SgD ⟨⟨nm,sb⟩,ops⟩)(n:Nat)(text:Z)(mp:Mp)(d h:Tm)(t:Bool->Mp->Td Cnd->Y R):∀(m N:Nat)(c:Z)(has ok:Bool)(u v:Tm)(l:Td Cnd),c.size+1<m\/(has&&ok)=false/\0<m->c.size<N\/(has&&ok)=false->c.size<=1048576->(has&&ok)=false\/l.length+c.size<=1048576->
  z17.l4 GPE n m ab be kd nm sb ops text 0 ByteArray.empty 0 0 ByteArray.empty 0 [] [] [] d.op d.ah d.am d.ae h.op h.ah h.am h.ae c has ok mp u.op u.ah u.am u.ae v.op v.ah v.am v.ae l t=t (ly ⟨⟨nm,sb⟩,ops⟩ N c has ok l).1 mp (ly ⟨⟨nm,sb⟩,ops⟩ N c has ok l).2:=by
 intro m
 induction m with
 |zero=>intro N c has ok u v l hm;omega
 | succ m B=>
  intro N c has ok u v l hm hN hc hl;show z17.b4 GPE n ab be kd nm sb ops text 0 ByteArray.empty 0 0 ByteArray.empty 0 [] [] [] d.op d.ah d.am d.ae h.op h.ah h.am h.ae c has ok mp u.op u.ah u.am u.ae v.op v.ah v.am v.ae l (λD E F G H I J K L M w y A=>z17.l4 GPE n m ab be kd nm sb ops text 0 ByteArray.empty 0 0 ByteArray.empty 0 [] [] [] d.op d.ah d.am d.ae h.op h.ah h.am h.ae D E F G H I J K L M w y A t) t=_;unfold z17.b4;by_cases j:(has&&ok)=true
  .have O:=j;simp only[bA]at j;obtain⟨rfl,rfl⟩:=j;have hN:c.size<N:=hN.resolve_right A1;have hm:c.size+1<m+1:=hm.resolve_right A1;have hl:=hl.resolve_left A1;obtain⟨N,rfl⟩:∃k,N=k+1:=⟨N-1,A0⟩;obtain⟨s1,s2,P⟩:=lK c iY;have S:iY.size=5:=rfl;rw[cT,cT];show Option.bind (jG c iY) _=_;rw[show jG c iY=_ from mt hc,bS];show Option.bind (s9 ab be kd nm sb ops mp (bW c iY).1) _=_;rw[show s9 ab be kd nm sb ops mp (bW c iY).1=_ from mt ⟨A0,C⟩,bS];dsimp only;rw[Tm.eta,Tm.eta,cV A4,bS];unfold ly;cases Q:(bW c iY).2.2 with
   | true=>
    have:=P Q;exact B N _ _ _ _ _ _ (.inl A0) (.inl A0) A0 (.inr A4)
   |false=>exact B N _ _ _ _ _ _ (.inr ⟨rfl,A0⟩) (.inr rfl) A0 (.inl rfl)
  .have j:=Bool.eq_false_iff.2 j;rw[o6 j];cases has<;>cases ok<;>first|rfl|cases j
end
noncomputable def FM:Td Int->Td Int->Td Int->Td Z->Td Sb->Td Opr->Mp->Z->Y (Eqn×Bool×Mp):=λab _ kd nm sb ops m t=>if Alg kd nm sb ops/\ab.length=nm.length/\t.size<=1048576/\SgD ⟨⟨nm,sb⟩,ops⟩then some ((peF ⟨⟨nm,sb⟩,ops⟩ t).1,(peF ⟨⟨nm,sb⟩,ops⟩ t).2,m)else none
theorem po:aj (z17.ent FM):=z17.ok (G:=GPE) ⟨AU,tX,mW,jF,trivial⟩ λab be kd nm sb ops m t r h=>by
 unfold FM at h;split at h
 .rename_i hs;obtain⟨hA,hab,w,v⟩:=hs;cases h;obtain⟨s,hs⟩:∃s:Sg,s=⟨⟨nm,sb⟩,ops⟩:=⟨_,rfl⟩;refine⟨t.size+2,?_⟩;obtain⟨s1,s2,y⟩:=lK t wIf;have C:wIf.size=4:=rfl;unfold z17.aq;show Option.bind (jG t wIf) _=_;rw[show jG t wIf=_ from mt w,bS];show Option.bind (s9 ab be kd nm sb ops m (bW t wIf).1) _=_;rw[show s9 ab be kd nm sb ops m (bW t wIf).1=_ from mt ⟨A0,v⟩,bS];dsimp only;have hc:=CK s (t.size+1) (bW t wIf).2.1 (bW t wIf).2.2 (dZ s (bW t wIf).1).2.2 [] (λc hc=>by cases hc);refine(JD v (t.size+2) t m _ _ _ (t.size+2) (t.size+1) _ _ _ _ _ [] ?_ (.inl A0) A0 (.inr A4)).trans ?_
  .cases A:(bW t wIf).2.2 with
   |true=>have:=y A;exact .inl A0
   |false=>exact .inr ⟨rfl,A0⟩
  .rw [← hs];have B:wH s t=ly s (t.size+1) (bW t wIf).2.1 (bW t wIf).2.2 (dZ s (bW t wIf).1).2.2 []:=rfl;rw[<-B]at hc ⊢;unfold peF;cases h1:(wH s t).1 with
   |false=>rw[O2 A1];rfl
   | true=>
    rw[O4,cF,Tm.eta,Tm.eta];have d:SmE (oX s t):=Mn hc;show Option.bind (yY ab be kd nm sb ops m (oX s t)) _=_;rw[show yY ab be kd nm sb ops m (oX s t)=some (eJ s (oX s t),m)from by rw[hs]at d ⊢;exact mt ⟨hA,hab,d⟩,bS];cases h2:eJ s (oX s t)with
    |false=>rw[O2 A1];rfl
    | true=>
     rw[O4,cF];show Option.bind (gFE ab be kd nm sb ops m (oX s t)) _=_;have hS:bD s=true:=by rw[hs];exact hA.1
     rw[show gFE ab be kd nm sb ops m (oX s t)=some (fT s (oX s t),m)from by have hp:=wW hS d h2;rw[hs]at hp ⊢;exact mt hp,bS];by_cases j:fT s (oX s t)=t
     .rw[mt ⟨rfl,rfl,j⟩,show sEq _ t=true from dT j];rfl
     .rw[O2 λq=>j q.2.2,show sEq _ t=false from dF j];rfl
 .cases h
end Go.Proofs.YtkegnipofloejaaGreatDoor.Den
namespace Go.Proofs.YtkegnipofloejaaGreatDoor.Den
open Go.RowKit
section
open Classical
def pnc(w:Td Int)(c:Int):Td Int:=w++c::w
def io(w:Td Int):Td (Td Int)->Td Int
 |[]=>[]
 |[x]=>x
 |x::y::r=>x++(pnc w 44++32::io w (y::r))
section
variable {t:Tm}{a c op:Int}{w l r:Td Int}{s:Sg}{T n:Z}{o:Opr}
theorem Ot{t:Z}:spA t (spA t a)=spA t a:=by
 unfold spA;rw[P7,Ep]
def txN(w:Td Int)(s:Sg)(f:Tm->Td Int)(t:Tm):Td Int:=if t.op= -1 then ofS t.ah++(pnc w 58++ofS (srt s t.am))else match ix s.ops t.op with
 |none=>[]
 |some o=>if t.ae.length=0 then ofS o.ah else ofS o.ah++(pnc w 40++(io w (t.ae.map f)++pnc w 41))
def txK(w:Td Int)(s:Sg):Nat->Tm->Td Int
 |0,_=>[]
 |k+1,t=>txN w s (txK w s k) t
def tx(w:Td Int)(s:Sg)(t:Tm):Td Int:=txK w s (t.az+1) t
theorem uy{f g:Tm->Td Int}(h:∀x∈t.ae,f x=g x):txN w s f t=txN w s g t:=by
 unfold txN;rw[PZ h]
theorem Fc{w:Td Int}{s:Sg}:∀(k j:Nat)(t:Tm),t.az<k->t.az<j->txK w s k t=txK w s j t
 |0,_,_,h,_=>absurd h (OM _)
 |_,0,_,_,h=>absurd h (OM _)
 |k+1,j+1,t,h1,h2=>uy λx d=>Fc k j x H3 H3
theorem FG(w:Td Int)(s:Sg)(t:Tm):tx w s t=txN w s (tx w s) t:=uy λx d=>Fc _ _ x (aM d) (OX _)
def tr(l:Td Int):Td Int:=l.dropWhile EN
theorem vn(h:∀c∈w,c=32)(l:Td Int):tr (w++l)=tr l:=by
 induction w with
 |nil=>rfl
 | cons c w j=>
  have:c=32:=h c A1;subst this;exact j λd hd=>h d RU
theorem Ll(h:c≠32)(l:Td Int):tr (c::l)=c::l:=by
 unfold tr;rw[Qw,O2 S0]
theorem Oz(l:Td Int):tr (32::l)=tr l:=rfl
theorem wg(c:Int->Bool)(l:Td Int):∀(k p:Nat),l.length-p<=k->p<=l.length->skip c l p=p+((l.drop p).takeWhile c).length
 | k, p,hk,hp=>by
  by_cases h:p<l.length
  .obtain⟨x,d,_⟩:=bo h;rw[pD d,bm d,Qv];by_cases hc:c x=true
   .obtain⟨j,rfl⟩:∃j,k=j+1:=⟨k-1,A0⟩;rw[mt hc,mt hc,wg c l j (p+1) A0 h,OP];omega
   .rw[O2 hc,O2 hc];rfl
  .rw[ss A0,Pt A0];rfl
theorem JU(c:Int->Bool)(l:Td Int):l.drop (l.takeWhile c).length=l.dropWhile c:=by
 have h:=List.takeWhile_append_dropWhile (p:=c) (l:=l)
 conv=>lhs;arg 2;rw[<-h]
 exact List.drop_left
theorem Dn{c:Int->Bool}{p:Nat}(hp:p<=l.length):l.drop (skip c l p)=(l.drop p).dropWhile c:=by
 rw[wg c l _ p (O3 _) hp,<-Qi,JU]
def AtS(T:Z)(a:Int)(l:Td Int):Prop:=atP T a/\(ofS T).drop (spA T a).toNat=tr l
theorem zR(h:atP T a)(e:(ofS T).drop a.toNat=l):AtS T a l:=by
 refine⟨h,?_⟩;subst e;unfold spA;rw[P7];exact Dn (by rw[ce];have:=h.2.2;omega)
theorem AtS.tr{T:Z}{a:Int}{l r:Td Int}(h:AtS T a l)(e:tr l=tr r):AtS T a r:=⟨h.1,h.2.trans e⟩
theorem wD:((spA T a).toNat:Int)=spA T a:=by unfold spA;rw[P7]
theorem AtS.hd(h:AtS T a l)(hl:Den.tr l=c::r):(ofS T)[(spA T a).toNat]? =some c/\(ofS T).drop ((spA T a).toNat+1)=r:=by
 have e:=h.2.trans hl;constructor
 .have:=congrArg List.head? e;rw[List.head?_drop]at this;exact this
 .rw[<-Qi,e];rfl
theorem vv(h:AtS T a l)(hl:tr l=c::r):(tkF T a c).1=true/\AtS T (tkF T a c).2 r:=by
 obtain⟨h1,h2⟩:=h.hd hl;have e:tkF T a c=(true,spA T a+1):=mt h1;have hp:=jP h.1 c;rw[e]at hp ⊢;refine⟨rfl,zR hp ?_⟩;have:=wD (T:=T) (a:=a);rw[(A0:(spA T a+1).toNat=(spA T a).toNat+1)];exact h2
theorem rf(h:AtS T a l)(hl:∀r,tr l≠c::r):(tkF T a c).1=false/\AtS T (tkF T a c).2 l:=by
 have d:(ofS T)[(spA T a).toNat]?≠some c:=λe=>by
  obtain⟨r,j⟩:∃r,(ofS T).drop (spA T a).toNat=c::r:=⟨_,bm e⟩;exact hl r (h.2.symm.trans j)
 have e:tkF T a c=(false,spA T a):=O2 d;have hp:=jP h.1 c;rw[e]at hp ⊢;exact⟨rfl,hp,by rw[Ot];exact h.2⟩
theorem JV{x y:Z}(h:ofS x=ofS y):x=y:=by
 unfold ofS at h;have:=List.map_inj_right (f:=λb:UInt8=>(b.toNat:Int)) (λa b e=>UInt8.toNat_inj.1 (Int.ofNat.inj e)) |>.1 h;cases x;cases y;simp only at this;rw[Array.toList_inj.1 this]
theorem KO(t:Z)(p q:Nat):ofS (t.extract p q)=((ofS t).drop p).take (q-p):=by
 unfold ofS;have e:(t.extract p q).data.toList=(t.data.toList.drop p).take (q-p):=by
  rw[ByteArray.data_extract];simp[Array.toList_extract]
 rw[e,List.map_take,List.map_drop]
theorem HP{c:Int->Bool}:∀{n r:Td Int},(∀x∈n,c x=true)->(∀x y,r=x::y->c x=false)->(n++r).takeWhile c=n/\(n++r).dropWhile c=r
 |[],[],_,_=>⟨rfl,rfl⟩
 | [],x::y,_,h=>by
  rw[Pm,Qv,Qw,O2 (by rw[h x y rfl];decide),O2 (by rw[h x y rfl];decide)];exact Tb
 | z::n,r,h1,h2=>by
  obtain⟨d,j⟩:=HP (n:=n) (r:=r) (λx t=>h1 x RG) h2;rw[Ph,Qv,Qw,mt (h1 z A1),mt (h1 z A1),d,j];exact Tb
theorem Bo(h:AtS T a l)(hl:tr l=ofS n++r)(j:∀x∈ofS n,cN x=true)(t:∀x y,r=x::y->cN x=false):(nmF T a).1=n/\AtS T (nmF T a).2 r:=by
 have e:=h.2.trans hl;obtain⟨v,w⟩:=HP j t;have hs:=lA h.1;have d:(spA T a).toNat<=(ofS T).length:=by rw[ce];have:=wD (T:=T) (a:=a);omega
 have k:=wg cN (ofS T) _ (spA T a).toNat (O3 _) d;rw[e,v]at k;have hm:(nmE T a).toNat=(spA T a).toNat+(ofS n).length:=by unfold nmE;rw[P7];exact k
 refine⟨?_,zR (wu h.1) ?_⟩
 .refine JV ?_;show ofS (T.extract (spA T a).toNat (nmE T a).toNat)=_;rw[KO,e,hm,PY];exact List.take_left
 .show (ofS T).drop (nmE T a).toNat=r;rw[hm,<-Qi,e];exact List.drop_left
theorem gu(h:cY n=true):(∀x∈ofS n,cN x=true)/\∃x y,ofS n=x::y/\cN x=true:=by
 unfold cY at h;simp only[bA,O8]at h;obtain⟨h1,_,_,_,t⟩:=h;have d:∀x∈ofS n,cN x=true:=aT.1 t;refine⟨d,?_⟩;cases j:ofS n with
 |nil=>have:=ce n;rw[j]at this;simp at this;omega
 |cons x y=>exact⟨x,y,rfl,d x (by rw[j];simp)⟩
theorem Ig{x:Int}(h:cN x=true):x≠32/\x≠40/\x≠41/\x≠44/\x≠58:=by
 refine⟨?_,?_,?_,?_,?_⟩<;>rintro rfl<;>exact absurd h A3
theorem ov(h:cY n=true)(r:Td Int):tr (ofS n++r)=ofS n++r:=by
 obtain⟨_,x,y,e,d⟩:=gu h;rw[e,Ph,Ll (Ig d).1]
def Kf(l:Td Int):Prop:=(∀x r,l=x::r->cN x=false)/\∀x r,tr l=x::r->x≠40/\x≠58
theorem Hw:Kf []:=⟨λx r h=>by (cases h),λx r h=>by (cases h)⟩
theorem A9(j:∀c∈w,c=32)(hc:cN c=false)(l:Td Int):∀x r,pnc w c++l=x::r->cN x=false:=λx r h=>by
 cases w with
 |nil=>cases h;exact hc
 | cons d w=>
  have:d=32:=j d A1;subst this;cases h
  decide
theorem nn(d:∀c∈w,c=32)(hc:c≠32)(l:Td Int):tr (pnc w c++l)=c::(w++l):=by
 unfold pnc;rw[O5,vn d,Ph,Ll hc]
theorem yF(d:∀c∈w,c=32)(h1:cN c=false)(h2:c≠32/\c≠40/\c≠58)(l:Td Int):Kf (pnc w c++l):=⟨A9 d h1 l,λx r h=>by
 rw[nn d h2.1]at h;cases h;exact h2.2⟩
theorem wV{α:Type}{p:α->Bool}:∀{l:Td α}{k:Nat}{x:α}(i:Nat),l[k]? =some x->p x=true->l.Pairwise (λa b=>¬(p a=true/\p b=true))->kE p l i=((i+k:Nat):Int)
 |[],_,_,_,h,_,_=>F1
 | y::ys,0,x,i,h,hp,_=>by
  simp only[List.getElem?_cons_zero,OW]at h;subst h;unfold kE;rw[mt hp];rfl
 | y::ys,k+1,x,i,h,hp,hd=>by
  rw[List.getElem?_cons_succ]at h;obtain⟨h1,h2⟩:=List.pairwise_cons.1 hd;unfold kE;rw[O2 λd=>h1 x (mG h) ⟨d,hp⟩,wV (i+1) h hp h2];omega
theorem qn:∀{l seen:Td Z},nA seen l=true->(∀x∈l,cY x=true/\∀y∈seen,y≠x)/\l.Pairwise (λa b=>a≠b)
 |[],_,_=>⟨λo h=>F1,.nil⟩
 | o::rest,seen,h=>by
  unfold nA at h;simp only[bA,Pj]at h;obtain⟨h1,w,h4⟩:=h;obtain⟨j,A⟩:=qn h4;have t:∀y∈seen,y≠o:=λy v e=>by
   have:=List.any_eq_false.1 w y v;exact this (dT e)
  refine⟨λq d=> ?_,List.pairwise_cons.2 ⟨λq d=> ?_,A⟩⟩
  .rcases List.mem_cons.1 d with rfl|d
   .exact⟨h1,t⟩
   .exact⟨(j q d).1,λy v=>(j q d).2 y (List.mem_append_left _ v)⟩
  .exact(j q d).2 o (List.mem_append_right _ A1)
theorem zw(h:bD s=true):(∀x∈s.ai.ak,cY x=true)/\s.ai.ak.Pairwise (λa b=>a≠b):=by
 unfold bD jR at h;simp only[bA]at h;obtain⟨h1,h2⟩:=qn h.1.2.2.2.1;exact⟨λo ho=>(h1 o ho).1,h2⟩
theorem KD(h:bD s=true){i:Int}(h0:0<=i)(h1:i<nS s):fdN s.ai.ak (srt s i)=i/\cY (srt s i)=true:=by
 obtain⟨x,t,d⟩:=uF (xs:=s.ai.ak) h0 h1;have e:srt s i=x:=by unfold srt;rw[t];rfl
 obtain⟨v,w⟩:=zw h;rw[e];refine⟨?_,v x (mG d)⟩;unfold fdN;rw[wV 0 d (dT rfl) (w.imp λ{_ _} j ⟨q1,q2⟩=>j ((ON q1).trans (ON q2).symm))];omega
theorem w4(h:bD s=true)(ho:ix s.ops op=some o):fdO s.ops o.ah=op:=by
 obtain⟨_,h0,_,j⟩:=bZ ho;unfold fdO;rw[wV 0 j (dT rfl) ((ja h).2.imp λ{_ _} d ⟨q1,q2⟩=>d ((ON q1).trans (ON q2).symm))];omega
def asc(p:Y Tm):Td Tm->Prop
 |[]=>True
 | x::xs=>(match p with
  |some y=>¬0<bR y x
  |none=>True)/\asc (some x) xs
theorem xD:∀(xs l:Td Tm),asc l.getLast? xs->xs.foldl lT l=l++xs
 |[],l,_=>A1
 | x :: xs,l,h=>by
  have e:lT l x=l++[x]:=by
   have:ji x l l.length=l.length:=by
    cases hl:l.length with
    |zero=>rfl
    | succ n=>
     have j:l.getLast? =l[n]? :=by rw[Qx,hl];rfl
     obtain⟨y,d,_⟩:=bo (xs:=l) (i:=n) A0;have h1:=h.1;rw[j,d]at h1;unfold ji;rw[d];simp only;rw[O2 h1]
   unfold lT;rw[this,Q0,List.drop_length]
  rw[PI,e,xD xs (l++[x]) (by rw[List.getLast?_concat];exact h.2),O5];rfl
theorem Eh{xs:Td Tm}(h:asc none xs):sortT xs=xs:=xD xs [] h
theorem xZ{s:Sg}{o:Opr}{op:Int}{w:Tm->Bool}(hc:o.comm=true):∀{xs:Td Tm}{p:Y Tm}{i:Int},fg s o op w p i xs=true->asc p xs
 |[],_,_,_=>trivial
 | x::xs,p,i,h=>by
  unfold fg vX at h;simp only[bA,Pj,hc,O7]at h;refine⟨?_,xZ hc h.2⟩;cases p with
  |none=>trivial
  |some y=>exact of_decide_eq_false h.1.2.2.2.2
theorem ur{s:Sg}{o:Opr}{op:Int}{w:Tm->Bool}:∀{xs:Td Tm}{p:Y Tm}{i:Int}{acc:Td Tm},fg s o op w p i xs=true->dV s o op i xs acc=some (acc++xs)
 |[],_,_,acc,_=>by rw[OO];rfl
 | x::xs,p,i,acc,h=>by
  unfold fg vX at h;simp only[bA,Pj,O8]at h;obtain⟨⟨_,h1,h2,d,_⟩,j⟩:=h;unfold dV;have e:hJ o op acc x=acc++[x]:=by
   unfold hJ;rw[O2 (λq=>by rw[q.1,dT q.2]at h2;cases h2),O2 (by rw[d];decide)]
  rw[mt h1,e,ur j,O5];rfl
theorem EY(hS:bD s=true)(ho:ix s.ops t.op=some o)(h:t.op≠ -1)(j:dA s t=true)(h1:tsz t<=60)(h2:tdp t<=20):rM s t.op t.ae=some t:=by
 have hk:=jL hS (bZ ho).1;rw[j6]at j;unfold mb ii at j;rw[O2 h,O2 h,ho]at j;simp only[bA,O8]at j;obtain⟨⟨v,w,d⟩,A⟩:=j;have v:t.ah=ByteArray.empty:=ON v;unfold rM;rw[ho,bS];unfold dH;have y:gp o t.ae:=by
  unfold gp;cases hc:o.aE with
  |true=>rw[hc,mt rfl]at d;rw[mt rfl];simp only[bA,O8]at d;exact d.1
  |false=>rw[hc,O2 A3]at d;rw[O2 A3];exact ON d
 have B:¬(o.aO≠0/\t.ae.length<2):=λ⟨u1,u2⟩=>by
  have h2:=hk.two (.inr (.inr u1));unfold gp at y;split at y<;>omega
 rw[mt y,ur A,bS,Pm,O2 B];have e:iI o t.op t.ae=t:=by
  unfold iI;have:(if o.comm=true then sortT t.ae else t.ae)=t.ae:=by
   split
   .rename_i hc;exact Eh (xZ hc A)
   .rfl
  rw[this];obtain⟨op,nm,C,ar⟩:=t;have v:nm=ByteArray.empty:=v;have w:C=0:=w;subst v w;rfl
 rw[e];refine O2 λq=> ?_;rcases q with⟨q1,q2⟩|q|q
 .rw[q1,mt rfl]at d;simp only[bA,O8]at d;omega
 .omega
 .omega
theorem CL{x:Tm}(h:x∈t.ae):tdp x<tdp t:=by
 rw[rj t];have:∀l:Td Tm,x∈l->tdp x<=mxS tdp l:=λl=>by
  induction l with
  |nil=>intro h;simp at h
  | cons y l d=>
   intro h;rw[kg];rcases List.mem_cons.1 h with rfl|h
   .omega
   .have:=d h;omega
 have:=this _ h;omega
end
section
variable {s : Sg} {w : Td Int} {T : Z}
theorem LJ(hS:bD s=true){t:Tm}(h:dA s t=true):∃n r,cY n=true/\tx w s t=ofS n++r:=by
 have j:=hQ h;rw[FG];unfold txN;cases j with
 |var h1 h2 v=>rw[mt rfl];exact⟨_,_,v,rfl⟩
 | @app op o ae ho _ _=>
  have:=(bZ ho).2.1;have d:=(ja hS).1 o (bZ ho).1;rw[O2 (A0:op≠ -1)]
  show ∃n r,cY n=true/\(match ix s.ops op with
   |none=>[]
   |some o=>if ae.length=0 then ofS o.ah else ofS o.ah++(pnc w 40++(io w (ae.map (tx w s))++pnc w 41)))=ofS n++r
  rw[ho];simp only;split
  .exact⟨_,[],d,(OO _).symm⟩
  .exact⟨_,_,d,rfl⟩
theorem uX:∀{ls:Td (Td Int)},(∀l∈ls,1<=l.length)->ls.length<=(io w ls).length
 |[],_=>O3 _
 |[x],h=>h x A1
 | x::y::r,h=>by
  have:=uX (ls:=y::r) λl hl=>h l (by simp[List.mem_cons.1 hl]);have:=h x A1;unfold io;simp only[OJ,OP]at*;omega
theorem Ch(j:∀c∈w,c=32)(rd:Int->Tm×Bool×Int)(d:Tm->Td Int):∀(xs:Td Tm)(acc:Td Tm)(f:Nat)(a:Int)(post:Td Int),(∀x∈xs,∀a post,AtS T a (d x++post)->Kf post->(rd a).1=x/\(rd a).2.1=true/\AtS T (rd a).2.2 post)->xs≠[]->xs.length<f->AtS T a (io w (xs.map d)++(pnc w 41++post))->
  (dt T rd f true a acc).1=true/\(dt T rd f true a acc).2.2=acc++xs/\AtS T (dt T rd f true a acc).2.1 (pnc w 41++post)
 |[],_,_,_,_,_,h,_,_=>absurd rfl h
 | [x],acc,f+1,a,post,t,_,v,h=>by
  obtain⟨A,B,C⟩:=t x A1 a (pnc w 41++post) h (yF j A3 A3 _);obtain⟨k1,D⟩:=rf (c:=44) C (by rw[nn j A3];intro r e;cases e);unfold dt;rw[mt rfl,mt B,k1,A];obtain⟨g,rfl⟩:∃g,f=g+1:=⟨f-1,by simp at v;omega⟩;unfold dt;rw[O2 A3];exact⟨rfl,rfl,D⟩
 | x::y::r,acc,f+1,a,post,t,_,v,h=>by
  have h:AtS T a (d x++(pnc w 44++32::(io w ((y::r).map d)++(pnc w 41++post)))):=by
   have e:io w ((x::y::r).map d)++(pnc w 41++post)=d x++(pnc w 44++32::(io w ((y::r).map d)++(pnc w 41++post))):=by
    show (d x++(pnc w 44++32::io w ((y::r).map d)))++_=_;simp only[O5,Ph]
   rw[e]at h;exact h
  obtain⟨A,B,C⟩:=t x A1 a _ h (yF j A3 A3 _);obtain⟨k1,D⟩:=vv (c:=44) C (nn j A3 _);have E:AtS T (tkF T (rd a).2.2 44).2 (io w ((y::r).map d)++(pnc w 41++post)):=D.tr (by rw[vn j,Oz]);obtain⟨F,G,H⟩:=Ch j rd d (y::r) (acc++[x]) f _ post (λz I=>t z (by simp[List.mem_cons.1 I])) A1 (by simp at v ⊢;omega) E;unfold dt;rw[mt rfl,mt B,k1,A];exact⟨F,by rw[G,O5];rfl,H⟩
theorem JB{a:Int}{l:Td Int}(h:AtS T a l):(tr l).length<=T.size:=by
 rw[<-h.2,Pi,ce];omega
theorem Cn(hS:bD s=true)(j:∀c∈w,c=32):∀(e:Nat)(t:Tm)(a:Int)(post:Td Int),tdp t<=e->tsz t<=60->tdp t<=20->dA s t=true->AtS T a (tx w s t++post)->Kf post->(bN s T e a).1=t/\(bN s T e a).2.1=true/\AtS T (bN s T e a).2.2 post
 |0,t,_,_,h,_,_,_,_,_=>by rw[rj]at h;omega
 | e + 1, t,a,post,he,K,hd,d,h,hp=>by
  have L:=hQ d;rw[FG]at h;unfold txN at h;unfold bN;cases M:L with
  | @var ah am h1 h2 G=>
   obtain⟨N,H⟩:=KD hS h1 h2;rw[mt rfl]at h;simp only at h;rw[O5,O5]at h;obtain⟨D,E⟩:=Bo h (ov G _) (gu G).1 (A9 j A3 _);obtain⟨b1,b2⟩:=vv (c:=58) E (nn j A3 _);have b3:=b2.tr (r:=ofS (srt s am)++post) (vn j _);obtain⟨c1,c2⟩:=Bo b3 (ov H _) (gu H).1 hp.1;rw[mt b1,D];unfold Nh;rw[c1,N,G];refine⟨rfl,?_,c2⟩;show (true&&inN (nS s) am)=true;rw[O7];exact kG.2 ⟨h1,h2⟩
  | @app op o ae ho U V=>
   have h0:=(bZ ho).2.1;have A:op≠ -1:=A0
   have v:=(ja hS).1 o (bZ ho).1;have F:=EY hS (t:=Tm.mk op ByteArray.empty 0 ae) ho A d K hd;rw[O2 A]at h;have h:AtS T a ((if ae.length=0 then ofS o.ah else ofS o.ah++(pnc w 40++(io w (ae.map (tx w s))++pnc w 41)))++post):=by
    have O:ix s.ops (Tm.mk op ByteArray.empty 0 ae).op=some o:=ho;rw[O]at h;exact h
   have F:rM s op ae=some (Tm.mk op ByteArray.empty 0 ae):=F;cases ae with
   | nil=>
    rw[mt (show ([]:Td Tm).length=0 from rfl)]at h;obtain⟨D,E⟩:=Bo h (ov v _) (gu v).1 hp.1;obtain⟨b1,b2⟩:=rf (c:=58) E λr q=>(hp.2 _ _ q).2 rfl;obtain⟨c1,c2⟩:=rf (c:=40) b2 λr q=>(hp.2 _ _ q).1 rfl;rw[b1,O2 A3,D,w4 hS ho,c1];unfold dt;rw[O2 A3];unfold qN;rw[mt rfl,O2 A0,mt (show ([]:Td Tm).length=0 from rfl)];simp only;unfold rm;rw[F];exact⟨rfl,rfl,c2⟩
   | cons x xs=>
    rw[O2 A1]at h;rw[O5,O5,O5]at h;obtain⟨D,E⟩:=Bo h (ov v _) (gu v).1 (A9 j A3 _);obtain⟨b1,b2⟩:=rf (c:=58) E (by rw[nn j A3];intro r q;cases q);obtain⟨c1,c2⟩:=vv (c:=40) b2 (nn j A3 _);have c3:=c2.tr (vn j _);rw[b1,O2 A3,D,w4 hS ho,c1];have B:∀y∈x::xs,dA s y=true:=by
     rw[j6]at d;unfold mb at d;rw[O2 (show (Tm.mk op ByteArray.empty 0 (x::xs)).op≠ -1 from A),show ix s.ops (Tm.mk op ByteArray.empty 0 (x::xs)).op=some o from ho]at d;simp only[bA]at d;exact pH d.2
    have bF:(x::xs).length<T.size+3:=by
     have I:=JB c2;rw[vn j]at I;have P:=uX (w:=w) (ls:=(x::xs).map (tx w s)) λl hl=>by
      obtain⟨y,C,rfl⟩:=List.mem_map.1 hl;obtain⟨n,r,q1,q2⟩:=LJ (w:=w) hS (B y C);obtain⟨_,z,W,q3,_⟩:=gu q1;rw[q2,q3];simp
     have Q:(tr (io w ((x::xs).map (tx w s))++(pnc w 41++post))).length=(io w ((x::xs).map (tx w s))++(pnc w 41++post)).length:=by
      obtain⟨n,r,q1,q2⟩:=LJ (w:=w) hS (B x A1);obtain⟨J,q3⟩:∃J,io w ((x::xs).map (tx w s))++(pnc w 41++post)=ofS n++J:=by
       cases xs with
       |nil=>exact⟨_,by show tx w s x++_=_;rw[q2,O5]⟩
       |cons y ys=>exact⟨_,by show (tx w s x++_)++_=_;rw[q2,O5,O5]⟩
      rw[q3,ov q1]
     rw[Q,OJ]at I;rw[OV]at P;omega
    obtain⟨R,d2,S⟩:=Ch j (bN s T e) (tx w s) (x::xs) [] (T.size+3) _ post (λy C a post h hp=>Cn hS j e y a post QZ (by have:=vM (t:=Tm.mk op ByteArray.empty 0 (x::xs)) C;omega) QZ (B y C) h hp) A1 bF c3;obtain⟨e1,e2⟩:=vv (c:=41) S (nn j A3 _);have e3:=e2.tr (vn j _);unfold qN;rw[mt R,O2 A0,d2,O2 A1,mt e1,Pm];unfold rm;rw[F];exact⟨rfl,rfl,e3⟩
theorem Ir(hS:bD s=true)(j:∀c∈w,c=32){t:Tm}(d:isT s t=true)(v:ofS T=tx w s t)(hl:T.size<=2000):dx s T=(t,true):=by
 unfold isT at d;simp only[bA,O8]at d;obtain⟨h1,h2,y⟩:=d;have h0:AtS T 0 (tx w s t++[]):=zR (Jf hl) (by rw[OO];exact v);obtain⟨A,B,h⟩:=Cn hS j 20 t 0 [] h2 h1 h2 y h0 Hw;have e:=h.2;have k1:=List.drop_eq_nil_iff.1 (show (ofS T).drop (spA T (bN s T 20 0).2.2).toNat=[]from e);rw[ce]at k1;have C:=(lA h.1).2;have D:=wD (T:=T) (a:=(bN s T 20 0).2.2);unfold dx;rw[mt ⟨hS,hl,B,A0⟩,A]
end
end
theorem EM:∀(xs:Td Z),jn cp2 xs=io [] (xs.map ofS)
 |[]=>rfl
 |[x]=>OO _
 | x::y::r=>by
  have d:=EM (y::r);show ofS x++List.flatMap _ (y::r)=ofS x++(pnc [] 44++32::io [] (List.map ofS (y::r)));rw[<-d,Py];rfl
theorem BI{s:Sg}:∀(k:Nat)(t:Tm),t.az<k->ofS (txB s t)=tx [] s t
 |0,_,h=>absurd h (OM _)
 | k + 1,t,h=>by
  rw[lN,FG];unfold pL txN;split
  .rw[my,my,O5];rfl
  .cases ho:ix s.ops t.op with
   |none=>rfl
   | some o=>
    simp only;split
    .rfl
    .have e:t.ae.map (ofS∘txB s)=t.ae.map (tx [] s):=PZ λx d=>BI k x H3;rw[my,my,my,ln,EM,List.map_map,e,O5,O5];rfl
theorem Ia(s:Sg)(t:Tm):ofS (txB s t)=tx [] s t:=BI _ t (OX _)
def Nn(p:Td UInt8):Td UInt8->Td UInt8->Prop
 |[],_=>True
 |c::l,k=>p.isPrefixOf (c::(l++k))=false/\Nn p l k
theorem jK{p:Td UInt8}:∀{a b k:Td UInt8},Nn p a (b++k)->Nn p b k->Nn p (a++b) k
 |[],_,_,_,h=>h
 |c::a,b,k,⟨h1,h2⟩,h=>⟨by show p.isPrefixOf (c::((a++b)++k))=false;rw[O5];exact h1,jK h2 h⟩
theorem mP{q:Td UInt8}:∀{l k:Td UInt8},(∀c∈l,c≠32)->Nn (32::q) l k
 |[],_,_=>trivial
 | c::l,k,h=>⟨by
  have:((32:UInt8)==c)=false:=beq_false_of_ne λe=>h c A1 e.symm;show ((32:UInt8)==c&&_)=false;rw[this];rfl,mP λd hd=>h d RU⟩
theorem KH(p r:Td UInt8):p.isPrefixOf (p++r)=true:=G1
theorem yu{p r:Td UInt8}(hp:p≠[]):∀{a:Td UInt8},Nn p a (p++r)->Lib.index (a++(p++r)) p=(a.length:Int)
 | [], _=>by
  match p,hp with
  | c::p,_=>
   have:=KH (c::p) r;show (if (c::p).isPrefixOf ((c::p)++r)then (0:Int)else _)=0;rw[mt this]
 | c::a,⟨h1,h2⟩=>by
  have d:=yu hp h2;show (if p.isPrefixOf (c::(a++(p++r)))then (0:Int)else if Lib.index (a++(p++r)) p== -1 then -1 else Lib.index (a++(p++r)) p+1)=_;rw[h1,O2 A3,d,O2 A1];simp
theorem xz{p:Td UInt8}(hp:p≠[]):∀{a:Td UInt8},Nn p a []->Lib.index a p= -1
 | [],_=>by
  match p,hp with
  |c::p,_=>rfl
 | c::a,⟨h1,h2⟩=>by
  have d:=xz hp h2;rw[OO]at h1;show (if p.isPrefixOf (c::a)then (0:Int)else if Lib.index a p== -1 then -1 else Lib.index a p+1)=_;rw[h1,O2 A3,d];rfl
theorem vK{p r a:Td UInt8}(hp:p≠[])(h:Nn p a (p++r)):Lib.cut (a++(p++r)) p=(a,r,true):=by
 unfold Lib.cut;rw[yu hp h,mt A0,P7,List.take_left,<-Qi,List.drop_left,List.drop_left]
theorem Ie{p a:Td UInt8}(hp:p≠[])(h:Nn p a []):Lib.cut a p=(a,[],false):=by
 unfold Lib.cut;rw[xz hp h,O2 A3]
theorem pj{c:UInt8}{b:Td UInt8}(hc:c≠32):∀{q a:Td UInt8},c∉q->(∀x∈q,x≠32)->(∀x∈a,x≠32)->(q++[32]).isPrefixOf (a++c::b)=false
 |[],[],_,_,_=>G1
 |[],x::a,_,_,h=>G1
 |y::q,[],h,_,_=>G1
 | y::q,x::a,h1,h2,j=>by
  show (y==x&&(q++[32]).isPrefixOf (a++c::b))=false;rw[pj hc (λe=>h1 Rh) (λz d=>h2 z I1) λz d=>j z I1,QC]
theorem B4{b:Td UInt8}:∀{q a:Td UInt8},q≠a->(∀x∈q,x≠32)->(∀x∈a,x≠32)->(q++[32]).isPrefixOf (a++32::b)=false
 |[],[],h,_,_=>absurd rfl h
 |[],x::a,_,_,h=>G1
 |y::q,[],_,h,_=>G1
 | y::q,x::a,h1,h2,j=>by
  show (y==x&&(q++[32]).isPrefixOf (a++32::b))=false;by_cases e:y=x
  .subst e;rw[B4 (λe=>h1 (by rw[e])) (λz d=>h2 z I1) λz d=>j z I1,QC]
  .grind
theorem GP:∀{q a:Td UInt8},(∀x∈q,x≠32)->(∀x∈a,x≠32)->(q++[32]).isPrefixOf a=false
 |[],[],_,_=>rfl
 |y::q,[],_,_=>rfl
 |[],x::a,_,h=>G1
 | y::q,x::a,h2,j=>by
  show (y==x&&(q++[32]).isPrefixOf a)=false;rw[GP (λz d=>h2 z I1) λz d=>j z I1,QC]
structure Wd(q:List UInt8):Prop where
 a:∀x∈q,x≠32
 b:(58:UInt8)∉q/\(40:UInt8)∉q/\(44:UInt8)∉q/\(41:UInt8)∉q
def Bh(k:Td UInt8):Prop:=k=[]\/∃c r,k=c::r/\(c=44\/c=41\/c=32)
structure Tq(q X:List UInt8):Prop where
 n:∀k,Nn (32::(q++[32])) X k
 h:∀k,Bh k->(q++[32]).isPrefixOf (X++k)=false
abbrev bl(b:Z):Td UInt8:=b.data.toList
theorem fI(a b:Z):bl (a++b)=bl a++bl b:=by simp[bl]
theorem wP{n:Z}(h:cY n=true):∀x∈bl n,x≠32:=λx d e=>by
 have:=(gu h).1 (x.toNat:Int) (List.mem_map.2 ⟨x,d,rfl⟩);subst e;exact absurd this A3
theorem Im{q:Td UInt8}(d:Wd q):∀{xs:Td (Td UInt8)},(∀x∈xs,Tq q x)->∀k,Nn (32::(q++[32])) (Lib.join xs [44,32]++[41]) k
 |[],_,k=>mP (by simp[Lib.join])
 | [x],h,k=>by
  rw[Lib.join_one];exact jK ((h x A1).n _) (mP A1)
 | x::y::r,h,k=>by
  have e:Lib.join (x::y::r) [44,32]=x++([44]++([32]++Lib.join (y::r) [44,32])):=Rm
  have j:=Im d (xs:=y::r) (λz t=>h z (by simp[List.mem_cons.1 t])) k;rw[e];simp only[O5];refine jK ((h x A1).n _) (jK (mP A1) (jK ⟨?_,trivial⟩ j));show (((32:UInt8)==32)&&(q++[32]).isPrefixOf _)=false;obtain⟨k',hk,e2⟩:∃k',Bh k'/\Lib.join (y::r) [44,32]++[41]++k=y++k':=by
   match r with
   |[]=>exact⟨41::k,.inr ⟨_,_,rfl,.inr (.inl rfl)⟩,by rw[Lib.join_one];simp⟩
   |z::r=>exact⟨44::([32]++Lib.join (z::r) [44,32]++[41]++k),.inr ⟨_,_,rfl,.inl rfl⟩,Rm⟩
  have e3:([]:Td UInt8)++(Lib.join (y::r) [44,32]++[41]++k)=y++k':=e2;simp only[O5]at e3 ⊢;rw[e3,(h y A1).h k' hk];rfl
theorem G6{s:Sg}(hS:bD s=true){q:Td UInt8}(d:Wd q)(ho:∀o∈s.ops,bl o.ah≠q){t:Tm}(w:Good s t):Tq q (bl (txB s t)):=by
 induction w with
 | @var ah am h1 h2 A=>
  obtain⟨x,h,_⟩:=uF h1 h2;have e:srt s am=x:=by unfold srt;rw[h];rfl
  have j:=wP (sf hS h);have v:=wP A;have e2:bl (txB s ⟨-1,ah,am,[]⟩)=bl ah++58::bl x:=by
   rw[lN];unfold pL;rw[mt rfl,fI,fI,e,O5];rfl
  rw[e2];refine⟨λk=>jK (mP v) (mP λc hc=> ?_),λk _=> ?_⟩
  .grind
  .rw[O5];exact pj A3 d.b.1 d.a v
 | @app op o ae h D E B=>
  have:=(bZ h).2.1;have hm:=(bZ h).1;have j:=wP ((ja hS).1 o hm);have e2:bl (txB s ⟨op,ByteArray.empty,0,ae⟩)=if ae.length=0 then bl o.ah else bl o.ah++40::(Lib.join (ae.map λx=>bl (txB s x)) [44,32]++[41]):=by
   rw[lN];unfold pL;dsimp only;rw[O2 A0,h];dsimp only;split
   .rfl
   .rw[fI,fI,fI];have e:bl (mY (ae.map (txB s)) cp2)=Lib.join (ae.map λx=>bl (txB s x)) [44,32]:=by
     unfold mY;simp only[List.map_map];rfl
    rw[e];simp only[O5];rfl
  rw[e2];split
  .refine⟨λk=>mP j,λk hk=> ?_⟩;rcases hk with rfl|⟨c,r,rfl,hc⟩
   .rw[OO];exact GP d.a j
   .rcases hc with rfl|rfl|rfl
    .exact pj A3 d.b.2.2.1 d.a j
    .exact pj A3 d.b.2.2.2 d.a j
    .exact B4 (Qc (ho o hm)) d.a j
  .refine⟨λk=>jK (mP j) ?_,λk _=> ?_⟩
   .refine jK (a:=[40]) (mP A1) (Im d (λx h=> ?_) k);obtain⟨y,C,rfl⟩:=List.mem_map.1 h;exact B y C
   .rw[O5];exact pj A3 d.b.2.1 d.a j
abbrev sdB(s:Sg)(a b:Tm):Z:=txB s a++wEq++txB s b
theorem Lw(s:Sg)(a b:Tm):bl (sdB s a b)=bl (txB s a)++([32,61,32]++bl (txB s b)):=by
 rw[fI,fI,O5];rfl
section
variable {s : Sg} {a b : Tm}
def Nms(s:Sg):Prop:=∀o∈s.ops,bl o.ah≠[105,102]/\bl o.ah≠[97,110,100]/\bl o.ah≠[61]
theorem Li(hS:bD s=true)(h:Good s a)(j:Good s b){y:UInt8}{q:Td UInt8}(d:Wd (y::q))(t:y≠61)(ho:∀o∈s.ops,bl o.ah≠y::q){k:Td UInt8}(hk:Bh k):Nn (32::((y::q)++[32])) (bl (sdB s a b)) k:=by
 have A:=G6 hS d ho h;have B:=G6 hS d ho j;rw[Lw];refine jK (A.n _) (jK (a:=[32,61,32]) ⟨?_,?_,?_,trivial⟩ (B.n k))
 .grind
 .rfl
 .show ((32:UInt8)==32&&((y::q)++[32]).isPrefixOf (bl (txB s b)++k))=false;rw[B.h k hk];rfl
theorem mD{t d x y:Z}{p:Bool}(h:Lib.cut (bl t) (bl d)=(bl x,bl y,p)):bW t d=(x,y,p):=by
 unfold bW;rw[h]
theorem qZ(hS:bD s=true)(hN:Nms s)(d:Pr s a)(h:Pr s b)(ta:isT s a=true)(tb:isT s b=true):dZ s (sdB s a b)=(a,b,true):=by
 have e:bW (sdB s a b) wEq=(txB s a,txB s b,true):=by
  refine mD ?_;rw[Lw];exact vK A3 ((G6 hS (q:=[61]) ⟨A3,A3⟩ (λo ho=>(hN o ho).2.2) d.2.2.2).n _)
 have r:∀t:Tm,Pr s t->isT s t=true->dx s (txB s t)=(t,true):=λt hp j=>Ir hS (w:=[]) (λc hc=>by simp at hc) j (Ia s t) (by have:=hp.size;omega);unfold dZ;rw[e];dsimp only;rw[r a d ta,r b h tb];rfl
theorem wx(hS:bD s=true)(hN:Nms s)(d:Pr s a)(h:Pr s b):bW (sdB s a b) wIf=(sdB s a b,ByteArray.empty,false)/\bW (sdB s a b) iY=(sdB s a b,ByteArray.empty,false)/\(∀r,bW (sdB s a b++wIf++r) wIf=(sdB s a b,r,true))/\∀r,bW (sdB s a b++iY++r) iY=(sdB s a b,r,true):=by
 have h1:=λ{k} hk=>Li (y:=105) (q:=[102]) (k:=k) hS d.2.2.2 h.2.2.2 ⟨A3,A3⟩ A3 (λo ho=>(hN o ho).1) hk
 have h2:=λ{k} hk=>Li (y:=97) (q:=[110,100]) (k:=k) hS d.2.2.2 h.2.2.2 ⟨A3,A3⟩ A3 (λo ho=>(hN o ho).2.1) hk
 refine⟨mD (Ie A3 (h1 (.inl rfl))),mD (Ie A3 (h2 (.inl rfl))),λr=>mD ?_,λr=>mD ?_⟩
 .rw[fI,fI,O5];exact vK A3 (h1 (.inr ⟨_,_,rfl,.inr (.inr rfl)⟩))
 .rw[fI,fI,O5];exact vK A3 (h2 (.inr ⟨_,_,rfl,.inr (.inr rfl)⟩))
end
theorem Ik(a b c:Z):a++b++c=a++(b++c):=by
 have:bl (a++b++c)=bl (a++(b++c)):=by simp only[fI,O5]
 have h:=congrArg (λl:Td UInt8=>(⟨l.toArray⟩:Z)) this;exact h
theorem Lr{s:Sg}{e:Eqn}(hS:bD s=true)(hN:Nms s)(hm:SmE e)(he:eJ s e=true):peF s (fT s e)=(e,true):=by
 have hp:=wW hS hm he;have E:isT s e.left=true/\isT s e.right=true/\∀c∈e.bJ,isT s c.left=true/\isT s c.right=true:=by
  have h:=he;unfold eJ rH fM at h;simp only[bA,O8,aT]at h;obtain⟨h1,_,h2,_,B⟩:=h;exact⟨h1.1,h1.2.1,λc hc=>⟨(B c hc).1.1,(B c hc).1.2.1⟩⟩
 obtain⟨l,r,cs⟩:=e;obtain⟨t,v,d,j⟩:=hp;obtain⟨C,D,t3⟩:=E;dsimp only at t v d j C D t3;obtain⟨c1,_,c3,_⟩:=wx hS hN t v;have w:=qZ hS hN t v C D;have key:wH s (fT s ⟨l,r,cs⟩)=(true,cs)/\(dZ s (bW (fT s ⟨l,r,cs⟩) wIf).1)=(l,r,true):=by
  match cs,d,j,t3 with
  | [],_,_,_=>
   have e:fT s ⟨l,r,[]⟩=sdB s l r:=rfl;unfold wH;rw[e,c1];dsimp only;rw[w];exact Tb
  | [x], d,_,t3=>
   have e:fT s ⟨l,r,[x]⟩=sdB s l r++wIf++sdB s x.left x.right:=by
    show sdB s l r++wIf++txB s x.left++wEq++txB s x.right=_;simp only[Ik]
   obtain⟨_,d2,_,_⟩:=wx hS hN (d x A1).1 (d x A1).2;have A:=qZ hS hN (d x A1).1 (d x A1).2 (t3 x A1).1 (t3 x A1).2;unfold wH;rw[e,c3];dsimp only;rw[w];refine⟨?_,rfl⟩;unfold ly;rw[d2];dsimp only;rw[A];rw[o6 rfl];rfl
  | [x, y],d,_,t3=>
   have e:fT s ⟨l,r,[x,y]⟩=sdB s l r++wIf++(sdB s x.left x.right++iY++sdB s y.left y.right):=by
    show sdB s l r++wIf++txB s x.left++wEq++txB s x.right++iY++txB s y.left++wEq++txB s y.right=_;simp only[Ik]
   obtain⟨_,_,_,d4⟩:=wx hS hN (d x A1).1 (d x A1).2;obtain⟨_,F,_,_⟩:=wx hS hN (d y A1).1 (d y A1).2;have A:=qZ hS hN (d x A1).1 (d x A1).2 (t3 x A1).1 (t3 x A1).2;have G:=qZ hS hN (d y A1).1 (d y A1).2 (t3 y A1).1 (t3 y A1).2;unfold wH;rw[e,c3];dsimp only;rw[w];refine⟨?_,rfl⟩;have H:∃n,(sdB s l r++wIf++(sdB s x.left x.right++iY++sdB s y.left y.right)).size=n+1:=⟨(sdB s l r).size+3+(sdB s x.left x.right++iY++sdB s y.left y.right).size,by rw[bM,bM];have:wIf.size=4:=rfl;omega⟩;obtain⟨n,I⟩:=H;rw[I];unfold ly;rw[d4];dsimp only;rw[A];unfold ly;rw[F];dsimp only;rw[G,o6 rfl];rfl
  |_::_::_::_,_,j,_=>simp at j
 obtain⟨k1,J⟩:=key;have eq:oX s (fT s ⟨l,r,cs⟩)=⟨l,r,cs⟩:=by unfold oX;rw[k1,J]
 unfold peF;rw[eq,k1,mt ⟨rfl,he,rfl⟩]
end Go.Proofs.YtkegnipofloejaaGreatDoor.Den

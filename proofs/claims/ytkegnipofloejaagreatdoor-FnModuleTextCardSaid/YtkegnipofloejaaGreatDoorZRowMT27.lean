/- merged -/
import Derived.Test.YtkegnipofloejaaGreatDoorZRowMT24
import Derived.Test.YtkegnipofloejaaGreatDoorZRowMT25
import Derived.Test.YtkegnipofloejaaGreatDoorZRowMT26

namespace Go.Proofs.YtkegnipofloejaaGreatDoor.Den
open Go.RowKit
section
set_option maxRecDepth 100000
set_option linter.unusedVariables false
noncomputable section
namespace z0f
structure Gs where
 z1o:z1o.Q
 z11:z11.Q
def aq{R:Type}(G:Gs)(n:Nat)(d:Md)(K:Bool->Y R):Y R:=(G.z1o d.sig).bind λr=>rV r (K false) (λq=>(G.z11 q.1 q.2.1 q.2.2.1 q.2.2.2.1 q.2.2.2.2.1 q.2.2.2.2.2.1 q.2.2.2.2.2.2 d).bind λh=>K h.1)
theorem ok{G:Gs}(h:ap [z1o.ent G.z1o,z11.ent G.z11]){g:Q}(t:∀d r,g d=some r->∃n,aq G n d Vn=Vn r):aj (ent g):=okQ λ_ _ _ _ _ _ _ _ hc=>Tk hc (t _) λ_ _ j=>fF h ⟨17,0,[],[],[2],[],[]⟩ nP Tryz.func7 j
end z0f
namespace z1b
structure Gs where
 none_:Unit
def ents(_:Gs):Td Ent:=[]
def c6{R:Type}(G:Gs)(n:Nat)(out:Z)(h0:LB)(t:LS)(h:LO)(h1:Z)(v:LD)(w y:Bool)(d:Int)(j:Z->Y R):Y R:=bif !decide (d=0)then((dL out (ByteArray.mk #[32,117,110,105,116,32])).bind λq=>(ix h (wr (d-1))).bind λe=>(dL q e.ah).bind λq2=>j q2)else j out
variable{R:Type}(G:Gs)(n:Nat)
def c4(out:Z)(h0:LB)(h:LS)(j:LO)(h1:Z)(t:LD)(v d:Bool)(w:Int)(A:Z->Y R):Y R:=bif d then((dL out (ByteArray.mk #[32,99,111,109,109])).bind λq=>c6 G n q h0 h j h1 t v d w (λt4=>A t4))else c6 G n out h0 h j h1 t v d w (λy=>A y)
def aq(s:Sg)(o:Opr)(K:Z->Y R):Y R:=bif o.aE then((dL ByteArray.empty (ByteArray.mk #[32,97,115,115,111,99])).bind λq=>c4 G n q s.ai.ak s.ai.aA s.ops o.ah o.aJ o.aE o.comm o.aO (λt4=>K t4))else c4 G n ByteArray.empty s.ai.ak s.ai.aA s.ops o.ah o.aJ o.aE o.comm o.aO (λd=>K d)
def dc6:=rS [2,3,5] [Tw,TQ,Uv] [TB,TD] λR K out h0 d h h1 j t v w=>c6 G n out h0 d h h1 j t v w (λt4=>K .ret ⟨[(4,Ud t4)],[]⟩)
def dc4:=rS [2,3,5] [Tw,TQ,Uv] [TB,TD] λR K out h0 d h h1 j t v w=>c4 G n out h0 d h h1 j t v w (λt4=>K .ret ⟨[(4,Ud t4)],[]⟩)
def pc:Pcs:=⟨nK,Tl 6 (dc6 G n) (Tl 4 (dc4 G n) nK),nK⟩
def an:Ann:=⟨29,0,[],[(6,[2,3,5]),(4,[2,3,5])],[4],[],[]⟩
abbrev bd:=aK Tryz.f15
theorem ok{G:Gs}(d:ap (ents G)){g:Q}(h:∀s o r,g s o=some r->∃n,aq (R:=AT×Td Ob) G n s o (λr0=>some (Ud r0,[]))=some (Ud r,[])):aj (ent g):=okQ λ_ _ _ _ _ _ _ _ _ _ _ hc=>Tk hc (h _ _) λn _ j=>fF d an (pc G n) Tryz.func15 j (apl [(0,4,Tj 15 bd)] ⟨Tg d (dc4 G n) rfl (pc G n) ⟨[],[4],[]⟩ (apl [(0,6,Tj 31 bd)] ⟨Tg d (dc6 G n) rfl (pc G n) ⟨[],[4],[]⟩,Th⟩),Th⟩)
end z1b
namespace z0e
structure Gs where
 z1o:z1o.Q
 z11:z11.Q
 z1b:z1b.Q
 z10:z10.Q
def ents(G:Gs):Td Ent:=[z1o.ent G.z1o,z11.ent G.z11,z1b.ent G.z1b,z10.ent G.z10]
def b7{R:Type}(G:Gs)(n:Nat)(ak h:LB)(j:Int)(h0:LB)(v:LS)(w:LO)(y A:LQ)(h1 B C:LI)(D:LB)(E:LS)(F:LO)(h2:LM)(d:Int)(t:LB)(H:Int->LB->Y R)(I:LB->Y R):Y R:=bif decide (d<j)then((ix h d).bind λe=>(dL (ByteArray.mk #[115,111,114,116,32]) e).bind λq=>(lim (t++[q])).bind λzs=>H (wr (d+1)) zs)else I t
variable{R:Type}(G:Gs)(n:Nat)
def l7(m:Nat)(ak d:LB)(h:Int)(h0:LB)(j:LS)(t:LO)(w y:LQ)(h1 A B:LI)(C:LB)(D:LS)(E:LO)(h2:LM)(F:Int)(H:LB)(I:LB->Y R):Y R:=aY (λ(v:Int×LB) J=>b7 G n ak d h h0 j t w y h1 A B C D E h2 v.1 v.2 (λK L=>J (K,L)) I) m (F,H)
def b12{R:Type}(G:Gs)(n:Nat)(ak:LB)(h:LS)(j:Int)(h0:LB)(w:LS)(y:LO)(A B:LQ)(h1 C D:LI)(E:LB)(F:LS)(H:LO)(h2:LM)(d:Int)(v:LB)(I:Int->LB->Y R)(J:LB->Y R):Y R:=bif decide (d<j)then((ix h d).bind λe=>(ix ak e.low).bind λK=>(dL (ByteArray.mk #[115,117,98,32]) K).bind λq8=>(dL q8 (ByteArray.mk #[32])).bind λq10=>(ix ak e.cK).bind λL=>(dL q10 L).bind λq12=>(lim (v++[q12])).bind λt=>I (wr (d+1)) t)else J v
def l12(m:Nat)(ak:LB)(d:LS)(h:Int)(h0:LB)(j:LS)(t:LO)(w y:LQ)(h1 A B:LI)(C:LB)(D:LS)(E:LO)(h2:LM)(F:Int)(H:LB)(I:LB->Y R):Y R:=aY (λ(v:Int×LB) J=>b12 G n ak d h h0 j t w y h1 A B C D E h2 v.1 v.2 (λK L=>J (K,L)) I) m (F,H)
def b24{R:Type}(G:Gs)(n:Nat)(ak:LB)(i:Int)(v:LO)(w y:Int)(A:LD)(B C:Int)(j:LI)(t:Int)(h0:LB)(D:LS)(E:LO)(F H:LQ)(h1 I J:LI)(K:LB)(L:LS)(M:LO)(h2:LM)(V:LB)(h4:Z)(N:LD)(O P:Bool)(Q:Int)(W:LI)(S:Int)(h:Z)(d:Int)(T:Z->Int->Y R)(U:Z->Y R):Y R:=bif decide (d<t)then((ix j d).bind λe=>(dL h (ByteArray.mk #[32])).bind λq=>(ix ak e).bind λe2=>(dL q e2).bind λq2=>T q2 (wr (d+1)))else U h
def l24(m:Nat)(ak:LB)(i:Int)(w:LO)(y A:Int)(B:LD)(C D:Int)(d:LI)(h:Int)(h0:LB)(E:LS)(F:LO)(H I:LQ)(h1 J K:LI)(L:LB)(M:LS)(N:LO)(h2:LM)(U:LB)(h4:Z)(O:LD)(P Q:Bool)(S:Int)(V:LI)(T:Int)(j:Z)(t:Int)(W:Z->Y R):Y R:=aY (λ(v:Z×Int) X=>b24 G n ak i w y A B C D d h h0 E F H I h1 J K L M N h2 U h4 O P Q S V T v.1 v.2 (λy0 y1=>X (y0,y1)) W) m (j,t)
def c31{R:Type}(G:Gs)(n:Nat)(ak:LB)(d:Z)(h:LO)(j t:Int)(v:LD)(w y:Int)(h0:LB)(A:LS)(B:LO)(C D:LQ)(h1 E F:LI)(H:LB)(I:LS)(J:LO)(h2:LM)(K:LB)(h4:Z)(L:LD)(M N:Bool)(O:Int)(P:LB->Y R):Y R:=(lim (K++[d])).bind λzs=>P zs
def b20(ak:LB)(C:LO)(D E:Int)(h:LD)(j:Int)(h0:LB)(t:LS)(v:LO)(F H:LQ)(h1 I J:LI)(K:LB)(L:LS)(M:LO)(h2:LM)(h4:Z)(w:LD)(y A:Bool)(B d:Int)(P:LB)(S:Int->LB->Y R)(T:LB->Y R):Y R:=bif decide (d<j)then((ix h d).bind λe=>(dL (ByteArray.mk #[111,112,32]) h4).bind λq=>(dL q (ByteArray.mk #[32,58])).bind λq2=>l24 G n n ak d C D E h j d e.ae (List.length e.ae:Int) h0 t v F H h1 I J K L M h2 P h4 w y A B e.ae e.result q2 0 (λN=>(dL N (ByteArray.mk #[32,45,62,32])).bind λq3=>(ix ak e.result).bind λe2=>(dL q3 e2).bind λq4=>bif decide (d=0)then((G.z1b (Sg.mk (So.mk h0 t) v) (Opr.mk h4 w y A B)).bind λr=>(dL q4 r).bind λq5=>c31 G n ak q5 C D E h j d h0 t v F H h1 I J K L M h2 P h4 w y A B (λQ=>S (wr (d+1)) Q))else c31 G n ak q4 C D E h j d h0 t v F H h1 I J K L M h2 P h4 w y A B (λO=>S (wr (d+1)) O)))else T P
def l20(m:Nat)(ak:LB)(d:LO)(h j:Int)(t:LD)(w:Int)(h0:LB)(y:LS)(A:LO)(B C:LQ)(h1 D E:LI)(F:LB)(H:LS)(I:LO)(h2:LM)(h4:Z)(J:LD)(K L:Bool)(M N:Int)(O:LB)(P:LB->Y R):Y R:=aY (λ(v:Int×LB) Q=>b20 G n ak d h j t w h0 y A B C h1 D E F H I h2 h4 J K L M v.1 v.2 (λS T=>Q (S,T)) P) m (N,O)
def b17(ak:LB)(h:LO)(j:Int)(h0:LB)(t:LS)(v:LO)(w y:LQ)(h1 A B:LI)(C:LB)(D:LS)(E:LO)(h2:LM)(d:Int)(H:LB)(I:Int->LB->Y R)(J:LB->Y R):Y R:=bif decide (d<j)then((ix h d).bind λe=>l20 G n n ak h j d e.aJ (List.length e.aJ:Int) h0 t v w y h1 A B C D E h2 e.ah e.aJ e.aE e.comm e.aO 0 H (λF=>I (wr (d+1)) F))else J H
def l17(m:Nat)(ak:LB)(d:LO)(h:Int)(h0:LB)(j:LS)(t:LO)(w y:LQ)(h1 A B:LI)(C:LB)(D:LS)(E:LO)(h2:LM)(F:Int)(H:LB)(I:LB->Y R):Y R:=aY (λ(v:Int×LB) J=>b17 G n ak d h h0 j t w y h1 A B C D E h2 v.1 v.2 (λK L=>J (K,L)) I) m (F,H)
def b35{R:Type}(G:Gs)(n:Nat)(d:LQ)(t138:Int)(h0:LB)(A:LS)(B:LO)(C D:LQ)(h1 h j:LI)(t:LB)(v:LS)(w:LO)(t139:Int)(h2:LM)(y:LB)(E:Int->LM->LB->Y R)(F:LM->LB->Y R):Y R:=bif decide (t139<t138)then((ix d t139).bind λe=>(G.z10 h1 h j t v w h2 (Eqn.mk (Tm.mk e.left.op e.left.ah e.left.am e.left.ae) (Tm.mk e.right.op e.right.ah e.right.am e.right.ae) e.bJ)).bind λr=>(dL (ByteArray.mk #[101,113,32]) r.1).bind λq=>(lim (y++[q])).bind λzs=>E (wr (t139+1)) r.2 zs)else F h2 y
def l35(m:Nat)(d:LQ)(t138:Int)(h0:LB)(h:LS)(j:LO)(t w:LQ)(h1 y A:LI)(B:LB)(C:LS)(D:LO)(t139:Int)(h2:LM)(E:LB)(F:LM->LB->Y R):Y R:=aY (λ(v:Int×LM×LB) H=>b35 G n d t138 h0 h j t w h1 y A B C D v.1 v.2.1 v.2.2 (λI J K=>H (I,J,K)) F) m (t139,h2,E)
def b40{R:Type}(G:Gs)(n:Nat)(h:LQ)(j:Int)(h0 t v:LI)(w:LB)(y:LS)(A:LO)(d:Int)(h1:LM)(h2:LB)(B:Int->LM->LB->Y R)(C:LB->Y R):Y R:=bif decide (d<j)then((ix h d).bind λe=>(G.z10 h0 t v w y A h1 (Eqn.mk (Tm.mk e.left.op e.left.ah e.left.am e.left.ae) (Tm.mk e.right.op e.right.ah e.right.am e.right.ae) e.bJ)).bind λr=>(dL (ByteArray.mk #[114,108,32]) r.1).bind λq=>(lim (h2++[q])).bind λzs=>B (wr (d+1)) r.2 zs)else C h2
def l40(m:Nat)(d:LQ)(h:Int)(h0 t w:LI)(y:LB)(A:LS)(B:LO)(j:Int)(h1:LM)(h2:LB)(C:LB->Y R):Y R:=aY (λ(v:Int×LM×LB) D=>b40 G n d h h0 t w y A B v.1 v.2.1 v.2.2 (λE F H=>D (E,F,H)) C) m (j,h1,h2)
def aq(d:Md)(K:LB->Y R):Y R:=(G.z1o d.sig).bind λr=>rV r (K []) (λq=>(G.z11 q.1 q.2.1 q.2.2.1 q.2.2.2.1 q.2.2.2.2.1 q.2.2.2.2.2.1 q.2.2.2.2.2.2 d).bind λh=>bif !h.1 then(K [])else l7 G n n d.sig.ai.ak d.sig.ai.ak (List.length d.sig.ai.ak:Int) d.sig.ai.ak d.sig.ai.aA d.sig.ops d.eqs d.rules q.1 q.2.1 q.2.2.1 q.2.2.2.1 q.2.2.2.2.1 q.2.2.2.2.2.1 h.2 0 [] (λw=>l12 G n n d.sig.ai.ak d.sig.ai.aA (List.length d.sig.ai.aA:Int) d.sig.ai.ak d.sig.ai.aA d.sig.ops d.eqs d.rules q.1 q.2.1 q.2.2.1 q.2.2.2.1 q.2.2.2.2.1 q.2.2.2.2.2.1 h.2 0 w (λj=>l17 G n n d.sig.ai.ak d.sig.ops (List.length d.sig.ops:Int) d.sig.ai.ak d.sig.ai.aA d.sig.ops d.eqs d.rules q.1 q.2.1 q.2.2.1 q.2.2.2.1 q.2.2.2.2.1 q.2.2.2.2.2.1 h.2 0 j (λt=>l35 G n n d.eqs (List.length d.eqs:Int) d.sig.ai.ak d.sig.ai.aA d.sig.ops d.eqs d.rules q.1 q.2.1 q.2.2.1 q.2.2.2.1 q.2.2.2.2.1 q.2.2.2.2.2.1 0 h.2 t (λy v=>l40 G n n d.rules (List.length d.rules:Int) q.1 q.2.1 q.2.2.1 q.2.2.2.1 q.2.2.2.2.1 q.2.2.2.2.2.1 0 y v (λA=>K A))))))
def dl7(m:Nat):=rS [1,3,5,6,41,42,43] [Tw,TQ,V6,U4,U4,Tx,Tx] [TU,TG,.m .i,UF] λR K ak C D E h0 d h j t h1 v w y A B h2 H=>l7 G n m ak C D h0 d h j t h1 v w y A B h2 E H (λF=>K (.exit 0) ⟨[(1,TF),(3,TR),(5,V4),(6,UC ak)],[U0 h0 d h j t,Tu h1 v w y A B,Uz h2,Un F]⟩)
def If(m:Nat):=rS [1,3,5,6,56,57,58] [Tw,TQ,V6,U4,Vj,Tx,Tx] [TU,TG,.m .i,UF] λR K ak C D E h0 d h j t h1 v w y A B h2 H=>l12 G n m ak C D h0 d h j t h1 v w y A B h2 E H (λF=>K (.exit 2) ⟨[(1,TF),(3,TR),(5,V4),(6,UC ak)],[U0 h0 d h j t,Tu h1 v w y A B,Uz h2,Un F]⟩)
def dl24(m:Nat):=rS [1,3,5,6,12,13,14,15,81,82,83,88,89,90,100,101,102] [Tw,TQ,V6,U4,Uq,Tx,UI,Uv,UT,Tx,Tx,V9,Tx,Tx,U2,Tx,Tx] [TU,TG,.m .i,UF,TD,UL] λR K ak i h j t v w y A B C D h0 E F H I h1 J L M N O h2 V h4 P Q S T W U=>l24 G n m ak i j t v w y A B C h0 E F H I h1 J L M N O h2 V h4 P Q S T W U h D (λd=>K (.exit 8) ⟨[(1,TF),(3,TR),(5,V4),(6,UC ak),(12,V0),(13,Tv i),(14,UR),(15,Ud d),(81,.one (.l (.n 8) j)),(82,Tv t),(83,Tv v),(88,.one (.l (.n 7) w)),(89,Tv y),(90,Tv A)],[U0 h0 E F H I,Tu h1 J L M N O,Uz h2,Un V,TV h4 P Q S T,Ve W U]⟩)
def dc31:=rS [1,3,5,6,12,15,81,82,83,88,89,90] [Tw,TQ,V6,U4,Uq,Uv,UT,Tx,Tx,V9,Tx,Tx] [TU,TG,.m .i,UF,TD] λR K ak d h j t v w y h0 A B C D h1 E F H I J h2 Q h4 L M N O=>c31 G n ak d h j t v w y h0 A B C D h1 E F H I J h2 Q h4 L M N O (λP=>K .normal ⟨[(1,TF),(3,TR),(5,V4),(6,UC ak),(12,V0),(81,.one (.l (.n 8) h)),(82,Tv j),(83,Tv t),(88,.one (.l (.n 7) v)),(89,Tv w),(90,Tv y)],[U0 h0 A B C D,Tu h1 E F H I J,Uz h2,Un P,TV h4 L M N O]⟩)
def Hy(m:Nat):=rS [1,3,5,6,12,81,82,83,88,89,90] [Tw,TQ,V6,U4,Uq,UT,Tx,Tx,V9,Tx,Tx] [TU,TG,.m .i,UF,TD] λR K ak d h j F H I h0 t v w y h1 A B C D E h2 P h4 J L M N=>l20 G n m ak d h j F H h0 t v w y h1 A B C D E h2 h4 J L M N I P (λO=>K (.exit 6) ⟨[(1,TF),(3,TR),(5,V4),(6,UC ak),(81,.one (.l (.n 8) d)),(82,Tv h),(83,Tv j)],[U0 h0 t v w y,Tu h1 A B C D E,Uz h2,Un O]⟩)
def HO(m:Nat):=rS [1,3,5,6,81,82,83] [Tw,TQ,V6,U4,UT,Tx,Tx] [TU,TG,.m .i,UF] λR K ak C D E h0 d h j t h1 v w y A B h2 H=>l17 G n m ak C D h0 d h j t h1 v w y A B h2 E H (λF=>K (.exit 4) ⟨[(1,TF),(3,TR),(5,V4)],[U0 h0 d h j t,Tu h1 v w y A B,Uz h2,Un F]⟩)
def dl35(m:Nat):=rS [1,3,5,137,138,139] [Tw,TQ,V6,US,Tx,Tx] [TU,TG,.m .i,UF] λR K d t138 t139 h0 h j t v h1 w y A B C h2 F=>l35 G n m d t138 h0 h j t v h1 w y A B C t139 h2 F (λD E=>K (.exit 10) ⟨[(1,TF),(3,TR),(5,V4)],[U0 h0 h j t v,Tu h1 w y A B C,Uz D,Un E]⟩)
def dl40(m:Nat):=rS [3,5,152,153,154] [Tw,Vk,US,Tx,Tx] [Tr,.m .i,UF] λR K d h j h0 t v w y A h1 h2=>l40 G n m d h h0 t v w y A j h1 h2 (λB=>K (.exit 12) ⟨[(5,Ug)],[Un B]⟩)
def pc:Pcs:=⟨Tl 7 (dl7 G n n) (Tl 12 (If G n n) (Tl 24 (dl24 G n n) (Tl 20 (Hy G n n) (Tl 17 (HO G n n) (Tl 35 (dl35 G n n) (Tl 40 (dl40 G n n) nK)))))),Tl 31 (dc31 G n) nK,nK⟩
def an:Ann:=⟨167,0,[(7,[1,3,5,6,41,42,43]),(12,[1,3,5,6,56,57,58]),(24,[1,3,5,6,12,13,14,15,81,82,83,88,89,90,100,101,102]),(20,[1,3,5,6,12,81,82,83,88,89,90]),(17,[1,3,5,6,81,82,83]),(35,[1,3,5,137,138,139]),(40,[3,5,152,153,154])],[(31,[1,3,5,6,12,15,81,82,83,88,89,90])],[2],[(14,⟨[(Te 17,[15],[])],[15],[],[0,1,2,4],[]⟩)],[]⟩
abbrev bd:=aK Tryz.f6
abbrev q12:=Tj 2036 bd
theorem ok{G:Gs}(d:ap (ents G)){g:Q}(t:∀h r,g h=some r->∃n,aq (R:=AT×Td Ob) G n h (λr0=>some (UC r0,[]))=some (UC r,[])):aj (ent g):=okQ λ_ _ _ _ _ _ _ _ hc=>Tk hc (t _) λn _ j=>fF d an (pc G n) Tryz.func6 j (apl [(1,7,.loop (Tj 1012 bd)),(1,12,.loop q12),(1,17,.loop (Tj 4084 bd)),(1,35,.loop (Tj 8180 bd)),(1,40,.loop (Tj 16372 bd))] ⟨Tf d n (dl7 G n) rfl (pc G n) ⟨[1,3,5,6],[2],[(0,[1,3,5,6])]⟩,⟨Tf d n (If G n) rfl (pc G n) ⟨[1,3,5,6],[2],[(2,[1,3,5,6])]⟩,⟨Tf d n (HO G n) rfl (pc G n) ⟨[1,3,5],[2],[(4,[1,3,5])]⟩ (apl [(1,20,.loop (Tj 1045708 bd))] ⟨Tf d n (Hy G n) rfl (pc G n) ⟨[1,3,5,6,81,82,83],[2],[(4,[1,3,5]),(5,[1,3,5,6,81,82,83]),(6,[1,3,5,6,81,82,83])]⟩ (apl [(1,24,.loop (Tj 1070805812 bd)),(0,31,Tj 535402911 bd)] ⟨Tf d n (dl24 G n) rfl (pc G n) ⟨[1,3,5,6,12,13,14,15,81,82,83,88,89,90],[2],[(4,[1,3,5]),(5,[1,3,5,6,81,82,83]),(6,[1,3,5,6,81,82,83]),(7,[1,3,5,6,12,81,82,83,88,89,90]),(8,[1,3,5,6,12,13,14,15,81,82,83,88,89,90])]⟩,⟨Tg d (dc31 G n) rfl (pc G n) ⟨[1,3,5,6,12,81,82,83,88,89,90],[2],[(4,[1,3,5]),(5,[1,3,5,6,81,82,83]),(6,[1,3,5,6,81,82,83]),(7,[1,3,5,6,12,81,82,83,88,89,90])]⟩,Th⟩⟩),Th⟩),⟨Tf d n (dl35 G n) rfl (pc G n) ⟨[1,3,5],[2],[(10,[1,3,5])]⟩,⟨Tf d n (dl40 G n) rfl (pc G n) ⟨[5],[2],[(12,[5])]⟩,Th⟩⟩⟩⟩⟩)
end z0e
end
end
section
open Classical
noncomputable def gAw:Sg->Opr->Y Z:=λs o=>z1b.aq ⟨()⟩ 1 s o some
theorem Mj{R:Type}(n:Nat)(s:Sg)(o:Opr)(K:Z->Y R):z1b.aq ⟨()⟩ n s o K=(gAw s o).bind K:=by
 unfold gAw z1b.aq z1b.c4 z1b.c6;cases o.aE<;>cases o.comm<;>cases decide (o.aO=0)<;>simp[Option.bind_assoc]
theorem tT:aj (z1b.ent gAw):=z1b.ok (G:=⟨()⟩) trivial λs o r h=>⟨1,by rw[Mj,h];rfl⟩
theorem IV{R:Type}{gA:z1o.Q}{gE:z11.Q}{gF:z10.Q}(b d hc fa j t m v:Bool)(eqs rules:Td Eqn)(p q r:Td Int)(nm:Td Z)(sb:Td Sb)(ops:Td Opr)(mp:Mp)(w:Td Z->Y R):
  z0e.l7 ⟨gA,gE,gAw,gF⟩ 33 33 nmD nmD 3 nmD (sbD b) (iB b d hc fa j t m v).ops eqs rules p q r nm sb ops mp 0 [] (λh=>z0e.l12 ⟨gA,gE,gAw,gF⟩ 33 33 nmD (sbD b) ((sbD b).length:Int) nmD (sbD b) (iB b d hc fa j t m v).ops eqs rules p q r nm sb ops mp 0 h λh=>
   z0e.l17 ⟨gA,gE,gAw,gF⟩ 33 33 nmD (iB b d hc fa j t m v).ops ((iB b d hc fa j t m v).ops.length:Int) nmD (sbD b) (iB b d hc fa j t m v).ops eqs rules p q r nm sb ops mp 0 h w)=w (dlF (iB b d hc fa j t m v)):=by
 cases b<;>cases d<;>cases hc<;>cases fa<;>cases j<;>cases t<;>cases m<;>cases v<;>kernel_rfl
theorem wZ{s:Sg}:∀(cs:Td Cnd)(i:Nat)(out:Z),(∀c∈cs,PrC s c)->(fmE s i out cs).size<=out.size+4000*cs.length
 |[],_,out,_=>O3 _
 | c::cs,i,out,h=>by
  have h1:=(h c A1).1.size;have h2:=(h c A1).2.size;have j:=DK i;have e:wEq.size=3:=rfl;have:=wZ cs (i+1) (out++(if i=0 then wIf else iY)++txB s c.left++wEq++txB s c.right) λd hd=>h d RU;unfold fmE;simp only[bM,OP]at this ⊢;omega
theorem mr{s:Sg}{e:Eqn}(h:PrE s e):(fT s e).size<=13000:=by
 have:=wZ e.bJ 0 (txB s e.left++wEq++txB s e.right) h.2.2.1;have:=(zk h).2.2;have:=h.2.2.2;unfold fT;omega
abbrev w3q:Z:=ByteArray.mk #[101,113,32]
abbrev w3r:Z:=ByteArray.mk #[114,108,32]
noncomputable def zz(m:Md):Td Z:=dlF m.sig++m.eqs.map (λe=>w3q++fT m.sig e)++m.rules.map (λe=>w3r++fT m.sig e)
noncomputable def m8:Md->Y (Td Z):=λm=>if SgD m.sig/\SmM m then some (if mI m=true then zz m else [])else none
theorem GN{ab be kd:Td Int}{nm:Td Z}{sb:Td Sb}{ops:Td Opr}(mp:Mp){e:Eqn}(h:PrE ⟨⟨nm,sb⟩,ops⟩ e):gFE ab be kd nm sb ops mp e=some (fT ⟨⟨nm,sb⟩,ops⟩ e,mp):=mt h
section
variable {R : Type} {gA : z1o.Q} {gE : z11.Q} {ab be kd : Td Int} {nm : Td Z} {sb : Td Sb} {ops : Td Opr}
theorem MX(l:Td Eqn)(hl:l.length<=16)(hp:∀e∈l,PrE ⟨⟨nm,sb⟩,ops⟩ e)(mp:Mp)(h0:Td Z)(E:h0.length<=100)(a:Td Z)(b:Td Sb)(c:Td Opr)(d e:Td Eqn)(h:Mp->Td Z->Y R):
  z0e.l35 ⟨gA,gE,gAw,gFE⟩ 33 33 l (l.length:Int) a b c d e ab be kd nm sb ops 0 mp h0 h=h mp (h0++l.map λe=>w3q++fT ⟨⟨nm,sb⟩,ops⟩ e):=by
 have key:=count (A:=Mp×Td Z) (R:=R) l.length (λi s j=>z0e.b35 ⟨gA,gE,gAw,gFE⟩ 33 l (l.length:Int) a b c d e ab be kd nm sb ops i s.1 s.2 (λw y B=>j w (y,B)) h) (λi s=>s=(mp,h0++(l.take i).map λe=>w3q++fT ⟨⟨nm,sb⟩,ops⟩ e)) (λ_ _=>h mp (h0++l.map λe=>w3q++fT ⟨⟨nm,sb⟩,ops⟩ e)) (λs j q=> ?_) (λi s j hi q C=> ?_) 33 0 (mp,h0) A1 A0 A0
 .exact key
 .subst q;unfold z0e.b35;rw[bh (Pc _),cF,lB]
 .subst q;obtain⟨x,t,D⟩:=bo hi;have v:=hp x D;have:=mr v;unfold z0e.b35;rw[bt hi,cT,aW t,bS,Tm.eta,Tm.eta,Eqn.eta];dsimp only;rw[GN mp v,bS];dsimp only;rw[eQ (by show 3+_<=_;omega),bS,cV A4,bS,bw A0];exact C _ (by rw[fW t,PJ,O5];rfl)
theorem Nj(l:Td Eqn)(hl:l.length<=16)(hp:∀e∈l,PrE ⟨⟨nm,sb⟩,ops⟩ e)(mp:Mp)(h0:Td Z)(D:h0.length<=200)(d:Td Z->Y R):
  z0e.l40 ⟨gA,gE,gAw,gFE⟩ 33 33 l (l.length:Int) ab be kd nm sb ops 0 mp h0 d=d (h0++l.map λe=>w3r++fT ⟨⟨nm,sb⟩,ops⟩ e):=by
 have key:=count (A:=Mp×Td Z) (R:=R) l.length (λi s h=>z0e.b40 ⟨gA,gE,gAw,gFE⟩ 33 l (l.length:Int) ab be kd nm sb ops i s.1 s.2 (λv w y=>h v (w,y)) d) (λi s=>s=(mp,h0++(l.take i).map λe=>w3r++fT ⟨⟨nm,sb⟩,ops⟩ e)) (λ_ _=>d (h0++l.map λe=>w3r++fT ⟨⟨nm,sb⟩,ops⟩ e)) (λs h q=> ?_) (λi s h hi q B=> ?_) 33 0 (mp,h0) A1 A0 A0
 .exact key
 .subst q;unfold z0e.b40;rw[bh (Pc _),cF,lB]
 .subst q;obtain⟨x,j,C⟩:=bo hi;have t:=hp x C;have:=mr t;unfold z0e.b40;rw[bt hi,cT,aW j,bS,Tm.eta,Tm.eta,Eqn.eta];dsimp only;rw[GN mp t,bS];dsimp only;rw[eQ (by show 3+_<=_;omega),bS,cV A4,bS,bw A0];exact B _ (by rw[fW j,PJ,O5];rfl)
end
theorem Hk(b d hc fa h j m t:Bool):(dlF (iB b d hc fa h j m t)).length<=50:=by
 cases b<;>cases d<;>cases hc<;>cases fa<;>cases h<;>cases j<;>cases m<;>cases t<;>exact O1 rfl
theorem rq{m:Md}(hS:bD m.sig=true)(hm:SmM m)(h:mI m=true):m.eqs.length<=16/\m.rules.length<=16/\(∀e∈m.eqs,eJ m.sig e=true)/\(∀e∈m.rules,eJ m.sig e=true)/\(∀e∈m.eqs,PrE m.sig e)/\∀e∈m.rules,PrE m.sig e:=by
 unfold mI at h;simp only[bA,O8,aT]at h;obtain⟨⟨h1,h2⟩,d⟩:=h;have a:∀e∈m.eqs,eJ m.sig e=true:=λe he=>d e (List.mem_append_left _ he);have b:∀e∈m.rules,eJ m.sig e=true:=λe he=>d e (List.mem_append_right _ he);exact⟨A0,A0,a,b,λe he=>wW hS (hm.1 e he) (a e he),λe he=>wW hS (hm.2 e he) (b e he)⟩
theorem kZ:aj (z0e.ent m8):=z0e.ok (G:=⟨fV,j4,gAw,gFE⟩) ⟨ib,kW,tT,jF,trivial⟩ λB r h=>by
 unfold m8 at h;split at h
 .rename_i hs;obtain⟨⟨b,j,hc,fa,t,v,m,w,d⟩,hm⟩:=hs;obtain⟨H,eqs,rules⟩:=B;dsimp only at d;subst d;cases h;refine⟨33,?_⟩;unfold z0e.aq;obtain⟨s,hs⟩:∃s,s=iB b j hc fa t v m w:=⟨_,rfl⟩;rw[<-hs]at hm ⊢;show Option.bind (fV s) _=_;have A:SgD s:=⟨b,j,hc,fa,t,v,m,w,hs⟩;have hS:=A.ok;rw[wv A,bS];have hA:Alg (cz s.ai.ak.length s.ai.aA) s.ai.ak s.ai.aA s.ops:=⟨hS,rfl⟩;show Option.bind (j4 (upI s.ai.ak.length s.ai.aA) (gX (upI s.ai.ak.length s.ai.aA)) (cz s.ai.ak.length s.ai.aA) s.ai.ak s.ai.aA s.ops [] ⟨s,eqs,rules⟩) _=_;rw[show j4 (upI s.ai.ak.length s.ai.aA) (gX (upI s.ai.ak.length s.ai.aA)) (cz s.ai.ak.length s.ai.aA) s.ai.ak s.ai.aA s.ops [] ⟨s,eqs,rules⟩=some (mI ⟨s,eqs,rules⟩,[])from mt ⟨hA,re _ _,hm,rfl⟩,bS];cases C:mI ⟨s,eqs,rules⟩with
  |false=>rw[O2 A1];rfl
  | true=>
   obtain⟨l1,l2,_,_,D,E⟩:=rq (m:=⟨s,eqs,rules⟩) hS hm C;rw[mt rfl];have hl:=Hk b j hc fa t v m w;rw[<-hs]at hl
   have F:∀y:Td Z->Y (AT×Td Ob),z0e.l7 ⟨fV,j4,gAw,gFE⟩ 33 33 s.ai.ak s.ai.ak (s.ai.ak.length:Int) s.ai.ak s.ai.aA s.ops eqs rules (upI s.ai.ak.length s.ai.aA) (gX (upI s.ai.ak.length s.ai.aA)) (cz s.ai.ak.length s.ai.aA) s.ai.ak s.ai.aA s.ops [] 0 [] (λh=>z0e.l12 ⟨fV,j4,gAw,gFE⟩ 33 33 s.ai.ak s.ai.aA (s.ai.aA.length:Int) s.ai.ak s.ai.aA s.ops eqs rules (upI s.ai.ak.length s.ai.aA) (gX (upI s.ai.ak.length s.ai.aA)) (cz s.ai.ak.length s.ai.aA) s.ai.ak s.ai.aA s.ops [] 0 h λh=>
    z0e.l17 ⟨fV,j4,gAw,gFE⟩ 33 33 s.ai.ak s.ops (s.ops.length:Int) s.ai.ak s.ai.aA s.ops eqs rules (upI s.ai.ak.length s.ai.aA) (gX (upI s.ai.ak.length s.ai.aA)) (cz s.ai.ak.length s.ai.aA) s.ai.ak s.ai.aA s.ops [] 0 h y)=y (dlF s):=λy=>by
    subst hs;exact IV b j hc fa t v m w eqs rules _ _ _ _ _ _ [] y
   refine(F λh=>z0e.l35 ⟨fV,j4,gAw,gFE⟩ 33 33 eqs (eqs.length:Int) s.ai.ak s.ai.aA s.ops eqs rules (upI s.ai.ak.length s.ai.aA) (gX (upI s.ai.ak.length s.ai.aA)) (cz s.ai.ak.length s.ai.aA) s.ai.ak s.ai.aA s.ops 0 [] h λm h=>z0e.l40 ⟨fV,j4,gAw,gFE⟩ 33 33 rules (rules.length:Int) (upI s.ai.ak.length s.ai.aA) (gX (upI s.ai.ak.length s.ai.aA)) (cz s.ai.ak.length s.ai.aA) s.ai.ak s.ai.aA s.ops 0 m h λh=>some (.one (.l .s h),[])).trans ?_;have l3:eqs.length<=16:=l1;refine(MX eqs l1 D [] (dlF s) A0 _ _ _ _ _ _).trans ?_;exact(Nj rules l2 E [] _ A4 _).trans rfl
 .cases h
theorem z0g:aj (z0f.ent AE):=z0f.ok (G:=⟨fV,j4⟩) ⟨ib,kW,trivial⟩ λm r h=>by
 unfold AE at h;split at h
 .rename_i hs;obtain⟨hm,d⟩:=hs;have hS:=d.ok;cases h;obtain⟨s,eqs,rules⟩:=m;refine⟨1,?_⟩;unfold z0f.aq;show Option.bind (fV s) _=_;rw[wv d,bS];show Option.bind (j4 (upI s.ai.ak.length s.ai.aA) (gX (upI s.ai.ak.length s.ai.aA)) (cz s.ai.ak.length s.ai.aA) s.ai.ak s.ai.aA s.ops [] ⟨s,eqs,rules⟩) _=_;rw[show j4 (upI s.ai.ak.length s.ai.aA) (gX (upI s.ai.ak.length s.ai.aA)) (cz s.ai.ak.length s.ai.aA) s.ai.ak s.ai.aA s.ops [] ⟨s,eqs,rules⟩=some (mI ⟨s,eqs,rules⟩,[])from mt ⟨⟨hS,rfl⟩,re _ _,hm,rfl⟩,bS];show some _=some (AT.one (.b (bD s&&_)),_);rw[hS];rfl
 .cases h
end
end Go.Proofs.YtkegnipofloejaaGreatDoor.Den
namespace Go.Proofs.YtkegnipofloejaaGreatDoor.Abs
open Go.RowKit
theorem Fn.nil{P:Program}{f:FuncId}{xs:Td AV}{R:AV->au->Prop}(G:Fn P f xs [] R)(J:AV.fZ xs=true)(K:∀r h,R r h->r.flat=true)(h:au):Fn P f xs h (fun r h'=>(∃h1,R r h1)/\h'=h):=by
 refine⟨G.1,λw I ι cs L v B hA=> ?_⟩;have no:∀b,¬ei [] [] b:=λb ⟨id,o,inf,x,_,_⟩=>by simp at x
 have C:HR [] I w []:=⟨rfl,λid o inf x _=>by simp at x,λid o inf x _=>by simp at x,λid _ o _ inf _ x _ _ _ _=>by simp at x,v.sub⟩;have E:ARs [] I w xs cs:=⟨hA.1,λj H=>by
  obtain⟨c,h1,h2⟩:=hA.2 j H;exact⟨c,h1,h2.free (AV.flats_mem J _ (gM H))⟩⟩
 refine(G.2 w I [] cs ⟨L.1,no 0⟩ C B E).mono ?_;rintro e w' ⟨r,h1,M,A,c,k,rfl,D⟩;have fr:∀b,b<w.heap.size->w'.heap[b]? =w.heap[b]? :=λb d=>D.frame b d (no b);have hk:cu I (λb=>I b\/A b) w w':=⟨λb d=>.inl d,λb d=>by rw[fr b (B b d)]⟩;have F:cu A (λb=>I b\/A b) w' w':=⟨λb d=>.inr d,λ_ _=>rfl⟩
 have blk:∀{id:Nat}{o:Ob}{inf:Inf},h[id]? =some (some o)->ι[id]? =some inf->inf.block<w.heap.size:=λ{id o inf} x y=>by
  have:=v.obj id o inf x y;cases o with
  |row s es=>exact SJ
  |map kvs=>obtain⟨en,N,e,_⟩:=this;exact SQ
 exact ⟨r, h, ι,fun b=>I b\/A b,c,⟨⟨h1,k⟩,rfl⟩,rfl,
  { res := (D.res.free (ι':=ι) (K r h1 k)).aH (bj.refl _) F
    heap :=
      { len := v.len
        obj:=λid o inf x y=>(v.obj id o inf x y).aH (bj.refl _) hk (fr _ (blk x y))
        off := fun id o inf x y d=>by
          rcases d with d|d
          · exact v.off id o inf x y d
          · rcases D.cw _ d with d|d|d
            · exact v.off id o inf x y d
            · exact no _ d
            · have:=blk x y;omega
        inj:=v.inj
        sub:=λb c t d=>.inl (v.sub b c t d)}
    imm:=λb d=>by
      rcases d with d|d
      · have:=B b d;have:=D.grown;omega
      · exact D.imm b d
    cw:=λb d=>by
      rcases d with d|d
      · exact .inl d
      · rcases D.cw b d with d|d|d
        · exact .inl d
        · exact(no _ d).elim
        · exact .inr (.inr d)
    pre:=bj.refl _
    os:=D.os
    tape:=D.tape
    output:=D.output
    grown:=D.grown
    frame:=λb d _=>fr b d
    cA:=λid o inf x y=>.inl ⟨id,o,inf,x,y,rfl⟩}⟩
end Go.Proofs.YtkegnipofloejaaGreatDoor.Abs
namespace Go.Proofs.YtkegnipofloejaaGreatDoor.Den
open Go.RowKit
open Classical
open Abs (V AV bP)
noncomputable def II:Td Z->Td Z->Y Bool:=λa b=>if a=b/\a.length<=1000 then some true else none
theorem FF:aj (z4p.ent II):=z4p.ok (G:=⟨()⟩) trivial λa b r h=>by
 unfold II at h;split at h
 .rename_i hs;obtain⟨rfl,hl⟩:=hs;cases h;refine⟨a.length+1,?_⟩;unfold z4p.aq;rw[show decide ((a.length:Int)=(a.length:Int))=true from dT rfl,O4,cF];refine(lX (R:=AT×Td Ob) a.length (λi d=>z4p.b4 ⟨()⟩ (a.length+1) a a (a.length:Int) i d (λt4=>some (AT.one (.b t4),[])) (some (AT.one (.b true),[]))) (λ_=>some (AT.one (.b true),[])) (λd=> ?_) (λi d hi e=> ?_) (a.length+1) 0 A0 A0).trans rfl
  .unfold z4p.b4;rw[bh (Pc _),cF]
  .obtain⟨x,j,_⟩:=bo hi;unfold z4p.b4;exact Su
 .cases h
def isD(b:Z):Bool:=match b.data.toList with
 |c::_=>c==115||c==111
 |[]=>false
abbrev wSp:Z:=ByteArray.mk #[32]
abbrev wEQ:Z:=ByteArray.mk #[101,113]
abbrev zM:Md:=Md.mk (Sg.mk (So.mk [] []) []) [] []
noncomputable def mL(s:Sg):Td Z->Td Eqn->Td Eqn->Y (Td Eqn×Td Eqn)
 |[],a,b=>some (a,b)
 |l::ls,a,b=>if (peF s (bW l wSp).2.1).2=true then (if (bW l wSp).1=wEQ then mL s ls (a++[(peF s (bW l wSp).2.1).1]) b else mL s ls a (b++[(peF s (bW l wSp).2.1).1]))else none
noncomputable def ud(d rest:Td Z)(s:Sg):Y (Md×Bool):=if SgD s then (match mL s rest [] []with
 |none=>some (zM,false)
 |some q=>if m8 ⟨s,q.1,q.2⟩=some d/\d≠[]then some (⟨s,q.1,q.2⟩,true)else none)else if SgE s then some (zM,false)else none
noncomputable def gPM:Td Z->Y (Md×Bool):=λd=>
 if (∀b∈d,b.size<=100000)/\d.length<=1000/\(d.dropWhile isD=[]\/∃b tl a h,d.dropWhile isD=b::tl/\bC b=a::h/\a≠gg/\a≠lm/\a≠wOp)then
  (mN ((d.takeWhile isD).map bC) z0 []).bind λr=>if r.2.length<=r.1.ops.length/\r.1.ops.length<=14 then ud d (d.dropWhile isD) ⟨r.1.ai,unF r.1.ops 0 r.2 r.1.ops⟩else none
 else none
noncomputable abbrev GPM:z0q.Gs:=⟨tQ,fV,jG,FM,m8,II⟩
section
variable {R : Type}
theorem J6(d rest h1:Td Z)(h2:Td Sb)(w:Td Opr)(h4 y:Td Eqn)(B:Td Z)(C:Td Sb)(h j:Td Eqn)(us:Td Z)(os:Td Opr)(hl:us.length<=os.length)(G:os.length<=14)(t:Td Opr->Y R):
  z0q.l7 GPM 1100 1100 d rest (us.length:Int) h1 h2 w h4 y B C h j us 0 os t=t (unF os 0 us os):=by
 refine count (A:=Td Opr) (R:=R) us.length (λi a v=>z0q.b7 GPM 1100 d rest (us.length:Int) h1 h2 w h4 y B C h j us i a v t) (λi a=>a.length=os.length/\unF os i (us.drop i) a=unF os 0 us os) (λ_ _=>t (unF os 0 us os)) (λa v q=> ?_) (λi a v hi q D=> ?_) 1100 0 os ⟨rfl,by rw[OQ]⟩ A0 A0
 .unfold z0q.b7;rw[bh (Pc _),cF,<-q.2,List.drop_length];rfl
 .obtain⟨u,E,_⟩:=bo hi;obtain⟨q1,q2⟩:=q;unfold z0q.b7;rw[bt hi,cT,aW E,bS];rw[bm E,unF]at q2;by_cases he:u=⟨#[]⟩
  .rw[mt he]at q2;rw[show sEq u ByteArray.empty=true from dT he,O4,cF,bw A0];exact D _ ⟨q1,q2⟩
  .rw [O2 he]at q2;obtain⟨o,F,_⟩:=bo (xs:=a) (i:=i) A0;rw[F]at q2;rw[show sEq u ByteArray.empty=false from dF he,OS,cT];show Option.bind (tQ a u) _=_;have H: -1<=fdO a u/\fdO a u<=14:=by
    unfold fdO;rcases vE (λo:Opr=>sEq o.ah u) a 0 with e|⟨k,x,e,hk,_⟩
    .rw[e];decide
    .have:=(gI.1 hk).1;rw[e];omega
   rw[show tQ a u=_ from mt A0,bS,aW F,bS,bw A0,P7,aX A0];exact D _ ⟨by rw[PS];exact q1,q2⟩
theorem JQ{s:Sg}(hS:bD s=true)(E:SgD s)(d rest:Td Z)(L:rest.length<=1000)(F:∀b∈rest,b.size<=100000)(h1:Td Z)(h2:Td Sb)(w:Td Opr)(h4 y:Td Eqn)(B:Td Z)(h:Td Sb)(j:Td Opr)(t:Bool->Td Z->Td Sb->Td Opr->Td Eqn->Td Eqn->Y R)(k1:Td Eqn->Td Eqn->Y R):
  z0q.l17 GPM 1100 1100 d rest (rest.length:Int) h1 h2 w h4 y B h j (cM s).1 (cM s).2.1 (cM s).2.2.1 (cM s).2.2.2.1 (cM s).2.2.2.2.1 (cM s).2.2.2.2.2.1 0 [] [] (cM s).2.2.2.2.2.2 t k1=(match mL s rest [] []with
   |none=>t false [] [] [] [] []
   |some q=>k1 q.1 q.2):=by
 refine(count (A:=Td Eqn×Td Eqn×Mp) (R:=R) rest.length (λi a v=>z0q.b17 GPM 1100 d rest (rest.length:Int) h1 h2 w h4 y B h j (cM s).1 (cM s).2.1 (cM s).2.2.1 (cM s).2.2.2.1 (cM s).2.2.2.2.1 (cM s).2.2.2.2.2.1 i a.1 a.2.1 a.2.2 (λG H I J=>v G (H,I,J)) t k1)
  (fun i a=>a.1.length+a.2.1.length<=i) (fun i a=>match mL s (rest.drop i) a.1 a.2.1 with
   |none=>t false [] [] [] [] []
   |some q=>k1 q.1 q.2) (λa v q=> ?_) (λi a v hi q C=> ?_) 1100 0 ([],[],[]) (O3 _) A0 A0).trans (by rw[OQ])
 .unfold z0q.b17;rw[bh (Pc _),cF,List.drop_length];rfl
 .obtain⟨l,D,K⟩:=bo hi;have hl:=F l K;obtain⟨s1,s2,_⟩:=lK l wSp;unfold z0q.b17;rw[bt hi,cT,aW D,bS,bm D,mL];show Option.bind (jG l wSp) _=_;rw[show jG l wSp=_ from mt A0,bS];show Option.bind (FM (cM s).1 (cM s).2.1 (cM s).2.2.1 (cM s).2.2.2.1 (cM s).2.2.2.2.1 (cM s).2.2.2.2.2.1 a.2.2 (bW l wSp).2.1) _=_;rw[show FM (cM s).1 (cM s).2.1 (cM s).2.2.1 (cM s).2.2.2.1 (cM s).2.2.2.2.1 (cM s).2.2.2.2.2.1 a.2.2 (bW l wSp).2.1=some ((peF s (bW l wSp).2.1).1,(peF s (bW l wSp).2.1).2,a.2.2)from mt ⟨⟨hS,rfl⟩,re _ _,A0,E⟩,bS];dsimp only;cases hp:(peF s (bW l wSp).2.1).2 with
  |false=>rw[O2 A3];rfl
  | true=>
   rw[mt rfl,O4,cF,Tm.eta,Tm.eta,Eqn.eta,bw A0];by_cases he:(bW l wSp).1=wEQ
   .rw[mt he,show sEq (bW l wSp).1 (ByteArray.mk #[101,113])=true from dT he,cT,cV A4,bS];exact C _ A4
   .rw[O2 he,show sEq (bW l wSp).1 (ByteArray.mk #[101,113])=false from dF he,cF,cV A4,bS];exact C _ A4
theorem Jc{d rest:Td Z}{nm us:Td Z}{sb:Td Sb}{os:Td Opr}{m:Md}{p:Bool}(w:rest.length<=1000)(y:∀b∈rest,b.size<=100000)(A:d.length<=1000)(hl:us.length<=os.length)(t:os.length<=14)(h:ud d rest ⟨⟨nm,sb⟩,unF os 0 us os⟩=some (m,p))(K:Md->Bool->Y R):z0q.aq GPM 1100 d rest nm sb os us K=K m p:=by
 unfold z0q.aq;rw[J6 d rest _ _ _ _ _ _ _ _ _ us os hl t];obtain⟨s,hs⟩:∃s:Sg,s=⟨⟨nm,sb⟩,unF os 0 us os⟩:=⟨_,rfl⟩;rw[<-hs]at h ⊢;unfold ud at h;show Option.bind (fV s) _=_;by_cases j:SgD s
 .have hS:=j.ok;rw[mt j]at h;rw[wv j,bS];refine(JQ hS j d rest w y _ _ _ _ _ _ _ _ _ _).trans ?_;cases he:mL s rest [] []with
  | none=>
   rw[he]at h;exact Tc
  | some q=>
   rw[he]at h;dsimp only at h ⊢;split at h
   .rename_i hc;obtain⟨hc,v⟩:=hc;cases h;have h0:d.length≠0:=λe=>v (nZ e);rw[dF A0,cF];show Option.bind (m8 ⟨s,q.1,q.2⟩) _=_;rw[hc,bS];show Option.bind (II d d) _=_;rw[show II d d=_ from mt ⟨rfl,A⟩,bS];rfl
   .cases h
 .rw[O2 j]at h;split at h
  .rename_i he;rw[OE he,bS];exact Tc
  .cases h
end
theorem tj:aj (z0o.ent gPM):=okQ λ_ _ _ d hc=>okL hc λr j=>by
 unfold gPM at j;split at j
 .rename_i hs;obtain⟨h1,h2,C⟩:=hs;obtain⟨⟨H,D⟩,e1,e2⟩:=bb j;dsimp only at e2;split at e2
  .rename_i h4;obtain⟨m,p⟩:=r;intro ρ h avs hp E;have B:avs=[.one (.imm 1 (bP d))]:=by
    obtain⟨l,g⟩:=E
    match avs,l with
    | [x],_=>
     have A:=g 0 A1 A1;simp only[OY]at A;cases A with|one A=>
     have f:FR (.l .s d) _:=kO rfl (A.up rfl);rw[f.uniq (fx d)]
   subst B;have hl:d=d.takeWhile isD++d.dropWhile isD:=(List.takeWhile_append_dropWhile).symm;have t:∀b∈d.dropWhile isD,b∈d:=λb w=>(List.dropWhile_sublist isD).mem w;have bF:(d.dropWhile isD).length<=1000:=P3 (List.dropWhile_sublist isD).length_le h2;have F:=Abs.Ow (G:=GPM) (m:=m) (p:=p) hl e1 C (λb w=>by have:=h1 b w;omega) ⟨Bg,ib,AU,po,kZ,FF,trivial⟩ ⟨1100,Jc bF (λb w=>h1 b (t b w)) h2 h4.1 h4.2 e2 _⟩;have e:ρ=[]:=nZ hp.len;subst e;refine(F.nil rfl (λr h' k=> ?_) h).mono λr h' ⟨⟨_,k⟩,e⟩=> ?_
   .cases k with|tup l g=>
    rename_i ys
    match ys,l with
    | [x,y],_=>
     have a:=jD (v:=.agg _) rfl (λxs e=>E0) (g 0 A1 A1);have b:=jD (v:=.one _) rfl (λxs e=>E0) (g 1 A1 A1);simp only[OY,PG]at a b;show (x.flat&&(y.flat&&true))=true;rw[a.1,b.1,a.2.flat,b.2.flat];rfl
   .subst e;exact⟨[],k,hp,Fr.refl [] [] _⟩
  .cases e2
 .cases j
end Go.Proofs.YtkegnipofloejaaGreatDoor.Den

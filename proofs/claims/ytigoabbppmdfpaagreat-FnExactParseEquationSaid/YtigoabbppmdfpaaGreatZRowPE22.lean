/- merged -/
import Derived.Test.YtigoabbppmdfpaaGreatZRowPE8
import Derived.Test.YtigoabbppmdfpaaGreatZRowPE11
import Derived.Test.YtigoabbppmdfpaaGreatZRowPE17
import Derived.Test.YtigoabbppmdfpaaGreatZRowPE20
import Derived.Test.YtigoabbppmdfpaaGreatZRowPE21

namespace Go.Proofs.YtigoabbppmdfpaaGreat.Den
open Go.RowKit
section
set_option maxRecDepth 100000
set_option linter.unusedVariables false
noncomputable section
namespace z0u
structure Gs where
 z0u:z0u.Q
 strings_Join:strings_Join.Q
def ax(G:Gs):RV Ent:=[ent G.z0u,strings_Join.ent G.strings_Join]
def b8{R:Type}(G:Gs)(n:Nat)(j t v:LI)(w:LB)(y:LS)(A:LO)(ae:Z)(d:LT)(h t45:Int)(h1:LM)(h2:LB)(nx:Int->LM->LB->Y R)(B:LM->LB->Y R):Y R:=bif decide (t45<h)then((ix d t45).bind λe=>(G.z0u j t v w y A h1 (Tm.mk e.op e.ae e.ag e.ac)).bind λr=>(lim (h2++[r.1])).bind λzs=>nx (wr (t45+1)) r.2 zs)else B h1 h2
def l8{R:Type}(G:Gs)(n m:Nat)(j t w:LI)(y:LB)(A:LS)(B:LO)(ae:Z)(d:LT)(h t45:Int)(h1:LM)(h2:LB)(C:LM->LB->Y R):Y R:=aS (λ(v:Int×LM×LB) nx=>b8 G n j t w y A B ae d h v.1 v.2.1 v.2.2 (λD E F=>nx (D,E,F)) C) m (t45,h1,h2)
def aq{R:Type}(G:Gs)(n:Nat)(A B C:LI)(w:LB)(D:LS)(y:LO)(d:LM)(t:Tm)(K:Z->LM->Y R):Y R:=
 bif decide (t.op<0)then
  (
  (dj t.ae (ByteArray.mk #[58])).bind λq2=>
  (ix w t.ag).bind λE=>
  (dj q2 E).bind λq4=>
  K q4 d
  )
 else
  (ix y t.op).bind λh=>
  bif decide ((List.length t.ac:Int)=0)then
   (K h.ae d)
  else
   l8 G n n A B C w D y h.ae t.ac (List.length t.ac:Int) 0 d []
    (fun j v=>
     (dj h.ae (ByteArray.mk #[40])).bind λq5=>
     (G.strings_Join v (ByteArray.mk #[44,32])).bind λr=>
     (dj q5 r).bind λq6=>
     (dj q6 (ByteArray.mk #[41])).bind λq7=>
     K q7 j
    )
def dl8(G:Gs)(n m:Nat):=rS [0,5,6,43,44,45] [.x (.p 0 0),.x .s,.x (.o 2),.x (.l (.n 1)),.x .i,.x .i] [.b [.l .i,.l .i,.l .i,.l .s,.l (.n 5),.l (.n 8),.m 1],.m .i,.r .s 0] λR K ae d h t45 v w y A B C h1 h2=>l8 G n m v w y A B C ae d h t45 h1 h2 (λj t=>K (.exit 0) ⟨[(5,.one (.s ae)),(6,.one (.o 2))],[.box [.l .i v,.l .i w,.l .i y,.l .s A,.l (.n 5) B,.l (.n 8) C,.m 1],.map .i j,.row .s 0 t]⟩)
def pc(G:Gs)(n:Nat):Pcs:=⟨λR id st K=>bif Nat.beq id 8 then dl8 G n n R st K else none,nK,nK⟩
def an:Ann:=⟨62,2,[(8,[0,5,6,43,44,45])],[],[4],[(2,⟨[([0,1,2,3,4,5,6,7,8,9,10,11,12,13,14],[],[])],[],[],[0,1,2],[]⟩),(3,⟨[([0,1,2,3,4,5,6,7,8,9,10],[],[])],[],[],[0,1,2],[]⟩)],[]⟩
abbrev bd:=aF Tryz.f80
abbrev q8:=aJ [1,1,1,1,1,0,1,0,0] bd
theorem pl8{G:Gs}(d:am (ax G))(n:Nat):∀m,al an (.loop q8) (dl8 G n m):=lpq d (pc G n) ⟨[5,6],[4],[(0,[5,6])]⟩
theorem ok{G:Gs}(B:am (ax G)){g:Q}(D:∀d h v w y A C t r,g d h v w y A C t=some r->∃n,aq (R:=AT×RV Ob) G n d h v w y A C t (λE F=>some (.one (.s E),[.box [.l .i d,.l .i h,.l .i v,.l .s w,.l (.n 5) y,.l (.n 8) A,.m 1],.map .i F]))=some (.one (.s r.1),[.box [.l .i d,.l .i h,.l .i v,.l .s w,.l (.n 5) y,.l (.n 8) A,.m 1],.map .i r.2])):aj (ent g):=okQ λ_ _ _ _ _ _ _ _ _ _ _ _ _ _ hc=>okL hc λr j=>let⟨n,j⟩:=D _ _ _ _ _ _ _ _ _ j;fF B an (pc G n) Tryz.func80 j (apl [(1,8,.loop q8)] ⟨pl8 B n n,trivial⟩)
end z0u
namespace z0v
structure Gs where
 z0u:z0u.Q
def ax(G:Gs):RV Ent:=[z0u.ent G.z0u]
def c8{R:Type}(G:Gs)(n:Nat)(A B C:LI)(D:LB)(E:LS)(F:LO)(out word:Z)(t20:LK)(J t22:Int)(h1:LM)(h2:Int)(d:Z)(h:Int)(j:LT)(t:Int)(v:Z)(w:Int)(y:LT)(K:Z->LM->Y R):Y R:=(G.z0u A B C D E F h1 (Tm.mk h2 d h j)).bind λH=>(G.z0u A B C D E F H.2 (Tm.mk t v w y)).bind λI=>(dj out word).bind λq10=>(dj q10 H.1).bind λq12=>(dj q12 (ByteArray.mk #[32,61,32])).bind λq14=>(dj q14 I.1).bind λq16=>K q16 I.2
def b3{R:Type}(G:Gs)(n:Nat)(w y A:LI)(B:LB)(C:LS)(D:LO)(t20:LK)(d:Int)(out:Z)(t22:Int)(h1:LM)(nx:Z->Int->LM->Y R)(E:Z->LM->Y R):Y R:=bif decide (t22<d)then((ix t20 t22).bind λe=>bif decide (t22=0)then(c8 G n w y A B C D out (ByteArray.mk #[32,105,102,32]) t20 d t22 h1 e.left.op e.left.ae e.left.ag e.left.ac e.right.op e.right.ae e.right.ag e.right.ac (λj v=>nx j (wr (t22+1)) v))else c8 G n w y A B C D out (ByteArray.mk #[32,97,110,100,32]) t20 d t22 h1 e.left.op e.left.ae e.left.ag e.left.ac e.right.op e.right.ae e.right.ag e.right.ac (λh t=>nx h (wr (t22+1)) t))else E out h1
def l3{R:Type}(G:Gs)(n m:Nat)(h j t:LI)(w:LB)(y:LS)(A:LO)(t20:LK)(d:Int)(out:Z)(t22:Int)(h1:LM)(B:Z->LM->Y R):Y R:=aS (λ(v:Z×Int×LM) nx=>b3 G n h j t w y A t20 d v.1 v.2.1 v.2.2 (λC D E=>nx (C,D,E)) B) m (out,t22,h1)
def c2{R:Type}(G:Gs)(n:Nat)(t v w:LI)(y:LB)(A:LS)(B:LO)(out:Z)(h1:LM)(h2:Int)(C:Z)(D:Int)(E:LT)(F:Int)(H:Z)(I:Int)(J:LT)(d:LK)(K:Z->LM->Y R):Y R:=l3 G n n t v w y A B d (List.length d:Int) out 0 h1 (λh j=>K h j)
def aq{R:Type}(G:Gs)(n:Nat)(h j t:LI)(v:LB)(w:LS)(y:LO)(D:LM)(e:Eqn)(K:Z->LM->Y R):Y R:=
 (G.z0u h j t v w y D (Tm.mk e.left.op e.left.ae e.left.ag e.left.ac)).bind λB=>
 (G.z0u h j t v w y B.2 (Tm.mk e.right.op e.right.ae e.right.ag e.right.ac)).bind λC=>
 (dj B.1 (ByteArray.mk #[32,61,32])).bind λq6=>
 (dj q6 C.1).bind λq8=>
 c2 G n h j t v w y q8 C.2 e.left.op e.left.ae e.left.ag e.left.ac e.right.op e.right.ae e.right.ag e.right.ac e.aM
  (λA d=>K A d)
def dc8(G:Gs)(n:Nat):=rS [0,5,7,8,20,21,22] [.x (.p 0 0),.x .s,.x (.p 2 0),.x .s,.x (.l (.n 13)),.x .i,.x .i] [.b [.l .i,.l .i,.l .i,.l .s,.l (.n 5),.l (.n 8),.m 1],.m .i,.b [.i,.s,.i,.l (.n 1),.i,.s,.i,.l (.n 1)]] λR K out word t20 d t22 D E F H I J h1 h2 j t v w y A B=>c8 G n D E F H I J out word t20 d t22 h1 h2 j t v w y A B (λh C=>K .normal ⟨[(0,.one (.p 0 0)),(5,.one (.s h)),(20,.one (.l (.n 13) t20)),(21,.one (.i d)),(22,.one (.i t22))],[.box [.l .i D,.l .i E,.l .i F,.l .s H,.l (.n 5) I,.l (.n 8) J,.m 1],.map .i C]⟩)
def dl3(G:Gs)(n m:Nat):=rS [0,5,20,21,22] [.x (.p 0 0),.x .s,.x (.l (.n 13)),.x .i,.x .i] [.b [.l .i,.l .i,.l .i,.l .s,.l (.n 5),.l (.n 8),.m 1],.m .i] λR K out t20 h t22 t v w y A B h1=>l3 G n m t v w y A B t20 h out t22 h1 (λd j=>K (.exit 0) ⟨[(5,.one (.s d))],[.box [.l .i t,.l .i v,.l .i w,.l .s y,.l (.n 5) A,.l (.n 8) B,.m 1],.map .i j]⟩)
def dc2(G:Gs)(n:Nat):=rS [0,3,5] [.x (.p 0 0),.x (.p 2 0),.x .s] [.b [.l .i,.l .i,.l .i,.l .s,.l (.n 5),.l (.n 8),.m 1],.m .i,.b [.i,.s,.i,.l (.n 1),.i,.s,.i,.l (.n 1),.l (.n 13)]] λR K out C D E F H I h1 h2 d h j t v w y A=>c2 G n C D E F H I out h1 h2 d h j t v w y A (λt4 B=>K .ret ⟨[(4,.one (.s t4))],[.box [.l .i C,.l .i D,.l .i E,.l .s F,.l (.n 5) H,.l (.n 8) I,.m 1],.map .i B]⟩)
def pc(G:Gs)(n:Nat):Pcs:=⟨λR id st K=>bif Nat.beq id 3 then dl3 G n n R st K else none,λR id st K=>bif Nat.beq id 8 then dc8 G n R st K else bif Nat.beq id 2 then dc2 G n R st K else none,nK⟩
def an:Ann:=⟨45,2,[(3,[0,5,20,21,22])],[(8,[0,5,7,8,20,21,22]),(2,[0,3,5])],[4],[(1,⟨[([0,1,2,3,5,6,7,8,4,9,10],[3,8],[])],[3,8],[],[2],[]⟩),(8,⟨[([3,4,5,6,9,10,11,12,0,1,2,7,8,13,14],[6,12],[])],[6,12],[],[2],[]⟩)],[]⟩
abbrev bd:=aF Tryz.f46
abbrev q8:=aJ [1,1,0,1,0,0,1,1,0,0,1,1,1] bd
abbrev q3:=aJ [1,1,0,1,0,0] bd
abbrev q2:=aJ [1,1] bd
theorem pc8{G:Gs}(d:am (ax G)){n:Nat}:al an q8 (dc8 G n):=cpq d (pc G n) ⟨[0,5,20,21,22],[4],[(0,[5]),(1,[0,5,20,21,22])]⟩
theorem pl3{G:Gs}(d:am (ax G))(n:Nat):∀m,al an (.loop q3) (dl3 G n m):=lpq d (pc G n) ⟨[5],[4],[(0,[5])]⟩ (apl [(0,8,q8)] ⟨pc8 d,trivial⟩)
theorem pc2{G:Gs}(d:am (ax G)){n:Nat}:al an q2 (dc2 G n):=cpq d (pc G n) ⟨[],[4],[]⟩ (apl [(1,3,.loop q3)] ⟨pl3 d n n,trivial⟩)
theorem ok{G:Gs}(A:am (ax G)){g:Q}(C:∀d h t v w y B e r,g d h t v w y B e=some r->∃n,aq (R:=AT×RV Ob) G n d h t v w y B e (λD E=>some (.one (.s D),[.box [.l .i d,.l .i h,.l .i t,.l .s v,.l (.n 5) w,.l (.n 8) y,.m 1],.map .i E]))=some (.one (.s r.1),[.box [.l .i d,.l .i h,.l .i t,.l .s v,.l (.n 5) w,.l (.n 8) y,.m 1],.map .i r.2])):aj (ent g):=okQ λ_ _ _ _ _ _ _ _ _ _ _ _ _ _ _ _ _ _ _ hc=>okL hc λr j=>let⟨n,j⟩:=C _ _ _ _ _ _ _ _ _ j;fF A an (pc G n) Tryz.func46 j (apl [(0,2,q2)] ⟨pc2 A,trivial⟩)
end z0v
namespace z11
abbrev bd:=aF Tryz.f21
abbrev q4:=aJ [1,1,1,1,0,0,0] bd
end z11
end
end
section
open Classical
def cp2:Z:=ByteArray.mk #[44,32]
def srt(s:Sg)(i:Int):Z:=(ix s.ai.ah i).getD ByteArray.empty
def sP(s:Sg)(f:Tm->Z)(t:Tm):Z:=if t.op= -1 then t.ae++ByteArray.mk #[58]++srt s t.ag else match ix s.ops t.op with
 |none=>ByteArray.empty
 |some o=>if t.ac.length=0 then o.ae else o.ae++ByteArray.mk #[40]++lP (t.ac.map f) cp2++ByteArray.mk #[41]
def ID(s:Sg):Nat->Tm->Z
 |0,_=>ByteArray.empty
 |k+1,t=>sP s (ID s k) t
def txB(s:Sg)(t:Tm):Z:=ID s (t.az+1) t
theorem rZ{s:Sg}{f g:Tm->Z}{t:Tm}(h:∀x∈t.ac,f x=g x):sP s f t=sP s g t:=by
 unfold sP;rw[List.map_congr_left h]
theorem BO{s:Sg}:∀(k j:Nat)(t:Tm),t.az<k->t.az<j->ID s k t=ID s j t
 |0,_,_,h,_=>absurd h (NP _)
 |_,0,_,_,h=>absurd h (NP _)
 |k+1,j+1,t,h1,h2=>rZ λx hx=>BO k j x Dg Dg
theorem qG(s:Sg)(t:Tm):txB s t=sP s (txB s) t:=rZ λx hx=>BO _ _ x (aK hx) (NW _)
theorem bD(a b:Z):(a++b).size=a.size+b.size:=by rw[<-bm,BD,N8,bm,bm]
theorem dq{a b:Z}(h:a.size+b.size<=1099511627776):dj a b=some (a++b):=by
 unfold dj;rw[dT h];rfl
def jn(sep:Z):RV Z->RV Int
 |[]=>[]
 |x::r=>ofS x++r.flatMap λe=>ofS sep++ofS e
theorem wh(sep:Z):∀(xs:RV Z),(Lib.join (xs.map (·.data.toList)) sep.data.toList).map (λb:UInt8=>(b.toNat:Int))=jn sep xs
 |[]=>rfl
 |[x]=>by rw[Ot,List.map_nil,Lib.join_one];exact(Ok _).symm
 | x::y::r=>by
  have e:Lib.join ((x::y::r).map (·.data.toList)) sep.data.toList=x.data.toList++sep.data.toList++Lib.join ((y::r).map (·.data.toList)) sep.data.toList:=by simp[Lib.join,List.intercalate]
  rw[e,OY,OY,wh sep (y::r)];show ofS x++ofS sep++(ofS y++_)=ofS x++List.flatMap _ (y::r);rw[Oi,Oo,Oo]
theorem ia(xs:RV Z)(sep:Z):ofS (lP xs sep)=jn sep xs:=by
 rw[<-wh];unfold lP ofS;simp
theorem Bl(s:Z):sOf (ofS s)=s:=by
 have key:∀(l:RV Int)(r:Z),(l.foldl (λr n=>r.push (UInt8.ofNat n.toNat)) r).data.toList=r.data.toList++l.map λn=>UInt8.ofNat n.toNat:=λl=>by
  induction l with
  |nil=>intro r;simp
  |cons x l d=>intro r;rw[OA,d];simp[ByteArray.push]
 have h:(sOf (ofS s)).data.toList=s.data.toList:=by
  unfold sOf;rw[key];unfold ofS;rw[List.map_map]
  conv=>rhs;rw[<-List.map_id s.data.toList]
  refine(OL _).trans (List.map_congr_left λb _=> ?_);simp
 cases hx:sOf (ofS s);cases s;rw[hx]at h;simp only at h;rw[Array.toList_inj.1 h]
theorem uf:∀{l seen:RV Z},iT seen l=true->∀x∈l,dc x=true
 | o::r,seen,h,x,hx=>by
  unfold iT at h;simp only[bA]at h;rcases List.mem_cons.1 hx with rfl|hx
  .exact h.1
  .exact uf h.2.2 x hx
theorem wt{s:Sg}(h:bI s=true){i:Int}{x:Z}(hx:ix s.ai.ah i=some x):dc x=true:=by
 unfold bI dM at h;simp only[bA]at h;exact uf h.1.2.2.2.1 x (ci hx).1
theorem ua{f:Tm->Z}:∀xs:RV Tm,(∀x∈xs,(f x).size+2<=27*tsz x)->((xs.map f).flatMap λe=>ofS cp2++ofS e).length<=27*wS tsz xs
 |[],_=>N9 _
 | x::r,h=>by
  rw[fS,Ot,Oi,N8,N8,bm,bm];have:=h x C3;have:=ua r λz d=>h z L5;show 2+_+_<=_;omega
theorem GH{s:Sg}(hS:bI s=true){t:Tm}(h:Good s t):(txB s t).size+2<=27*tsz t:=by
 induction h with
 | @var ae ag h1 h2 j=>
  rw[qG,eZ];unfold sP;rw[N1 rfl];obtain⟨x,hx,_⟩:=Lc h1 h2;have e:srt s ag=x:=by unfold srt;rw[hx];rfl
  have:=dK (wt hS hx);have:=dK j;dsimp only;rw[e,bD,bD];show _+1+_+2<=_;omega
 | @app op o ac ho y A d=>
  rw[qG,eZ];unfold sP;have:=(ci ho).2.1;have:=dK ((la hS).1 o (ci ho).1);dsimp only;rw[N3 A1,ho];dsimp only;split
  .omega
  .have v:=ia (ac.map (txB s)) cp2;have hl:=congrArg List.length v;rw[bm]at hl;rw[bD,bD,bD,hl]
   match ac,d with
   |[],_=>show _+1+0+1+2<=_;omega
   | x::r,d=>
    have:=ua r λz w=>d z QX;have:=d x C3;rw[fS];show _+1+(ofS (txB s x)++_).length+1+2<=_;rw[N8,bm];omega
def Pr(s:Sg)(t:Tm):Prop:=bI s=true/\t.az<4294967296/\tsz t<=60/\Good s t
theorem Pr.arg{s:Sg}{t x:Tm}(h:Pr s t)(hx:x∈t.ac):Pr s x:=⟨h.1,by have:=aK hx;have:=h.2.1;omega,by have:=Bg hx;have:=h.2.2.1;omega,h.2.2.2.ac x hx⟩
theorem Pr.size{s:Sg}{t:Tm}(h:Pr s t):(txB s t).size<=1620:=by
 have:=GH h.1 h.2.2.2;have:=h.2.2.1;omega
theorem Pr.jn{s:Sg}{t:Tm}(h:Pr s t)(d:t.ac.length≠0):(jn cp2 (t.ac.map (txB s))).length<=1620/\t.op≠ -1:=by
 have h1:=h.size;have h2:=h.2.2.2;cases h2 with
 |var=>exact absurd rfl d
 | @app op o ac ho=>
  have:=(ci ho).2.1;refine⟨?_,(A1:op≠ -1)⟩;rw[qG]at h1;unfold sP at h1;dsimp only at h1 d ⊢;rw[N3 A1,ho]at h1;dsimp only at h1;rw[N3 d,bD,bD]at h1;rw[<-ia,bm];rw[bD]at h1;omega
theorem BJ{s:Sg}{t:Tm}(h:Pr s t)(ho:t.op= -1):∃x,ix s.ai.ah t.ag=some x/\txB s t=t.ae++ByteArray.mk #[58]++x/\t.ae.size<=12/\x.size<=12:=by
 have h2:=h.2.2.2;cases h2 with
 | var h1 h2 j=>
  obtain⟨x,hx,_⟩:=Lc h1 h2;refine⟨x,hx,?_,dK j,dK (wt h.1 hx)⟩;rw[qG];unfold sP;rw[N1 rfl];unfold srt;dsimp only;rw[hx];rfl
 | @app op _ _ d=>exact absurd ho (by have:=(ci d).2.1;show op≠ -1;omega)
theorem G1{s:Sg}{t:Tm}(h:Pr s t)(ho:t.op≠ -1):∃o,ix s.ops t.op=some o/\0<=t.op/\o.ae.size<=12/\txB s t=if t.ac.length=0 then o.ae else o.ae++ByteArray.mk #[40]++lP (t.ac.map (txB s)) cp2++ByteArray.mk #[41]:=by
 have h2:=h.2.2.2;cases h2 with
 |var=>exact absurd rfl ho
 | @app _ o _ d=>
  refine⟨o,d,(ci d).2.1,dK ((la h.1).1 o (ci d).1),?_⟩;rw[qG];unfold sP;rw[N3 ho,d]
noncomputable def gFm(k:Nat):RV Int->RV Int->RV Int->RV Z->RV Sb->RV Opr->Mp->Tm->Y (Z×Mp):=λ_ _ _ nm sb ops m t=>if Pr ⟨⟨nm,sb⟩,ops⟩ t/\t.az<k then some (txB ⟨⟨nm,sb⟩,ops⟩ t,m)else none
section
variable {R : Type} {nm : RV Z} {sb : RV Sb} {ops : RV Opr} {ab be kd : RV Int}
theorem I7(n k:Nat)(ae:Z)(xs:RV Tm)(hx:∀x∈xs,Pr ⟨⟨nm,sb⟩,ops⟩ x/\x.az<k)(hl:xs.length<4294967296)(d:Mp)(h:Mp->RV Z->Y R):∀m (i:Nat),i<=xs.length->xs.length-i<m->
  z0u.l8 ⟨gFm k,nh⟩ n m ab be kd nm sb ops ae xs (xs.length:Int) (i:Int) d ((xs.take i).map (txB ⟨⟨nm,sb⟩,ops⟩)) h=h d (xs.map (txB ⟨⟨nm,sb⟩,ops⟩)):=by
 intro m
 induction m with
 |zero=>exact RQ
 | succ m t=>
  intro i h1 hm;show z0u.b8 ⟨gFm k,nh⟩ n ab be kd nm sb ops ae xs (xs.length:Int) (i:Int) d ((xs.take i).map (txB ⟨⟨nm,sb⟩,ops⟩)) (λv w y=>z0u.l8 ⟨gFm k,nh⟩ n m ab be kd nm sb ops ae xs (xs.length:Int) v w y h) h=_;unfold z0u.b8;by_cases hi:i<xs.length
  .obtain⟨x,j,A⟩:=bu hi;rw[bB hi,cT,aZ j,bS,Tm.eta];show Option.bind (gFm k ab be kd nm sb ops d x) _=_;rw[show gFm k ab be kd nm sb ops d x=some (txB ⟨⟨nm,sb⟩,ops⟩ x,d)from N1 (hx x A),bS,dw D5,bS,bN A1];have B:(xs.take i).map (txB ⟨⟨nm,sb⟩,ops⟩)++[txB ⟨⟨nm,sb⟩,ops⟩ x]=(xs.take (i+1)).map (txB ⟨⟨nm,sb⟩,ops⟩):=by rw[ij j,OY];rfl
   rw[B];exact t (i+1) hi A1
  .grind
theorem Jq(k:Nat)(t:Tm)(ht:t.az<k+1)(h:Pr ⟨⟨nm,sb⟩,ops⟩ t)(m:Mp)(K:Z->Mp->Y R):z0u.aq ⟨gFm k,nh⟩ (t.ac.length+1) ab be kd nm sb ops m t K=K (txB ⟨⟨nm,sb⟩,ops⟩ t) m:=by
 have hl:=bZ t.ac;have j:=bj t;have v:=h.2.1;unfold z0u.aq;by_cases ho:t.op= -1
 .obtain⟨x,hx,e,w,B⟩:=BJ h ho;rw[dT A1,cT,dq Qz,bS,show ix nm t.ag=_ from hx,bS,dq Q8,bS,e]
 .obtain⟨o,hx,h0,w,e⟩:=G1 h ho;rw[dF A1,cF,show ix ops t.op=_ from hx,bS,e];by_cases d:t.ac.length=0
  .grind
  .rw[dF A1,cF,N3 d];have e:=I7 (R:=R) (ab:=ab) (be:=be) (kd:=kd) (t.ac.length+1) k o.ae t.ac (λx hx=>⟨h.arg hx,Dg⟩) A1 m;refine(e _ (t.ac.length+1) 0 A1 A1).trans ?_;have y:=(h.jn d).1;rw[<-ia,bm]at y;have A:nh (t.ac.map (txB ⟨⟨nm,sb⟩,ops⟩)) cp2=some (lP (t.ac.map (txB ⟨⟨nm,sb⟩,ops⟩)) cp2):=by
    refine N1 ⟨by rw[Ol];omega,?_⟩;have:=congrArg List.length (wh cp2 (t.ac.map (txB ⟨⟨nm,sb⟩,ops⟩)));rw[Ol,<-ia,bm]at this;omega
   rw[dq Qz,bS];show Option.bind (nh _ cp2) _=_;rw[A,bS,dq Q8,bS,dq (by rw[bD,bD];show _+1+_+1<=_;omega),bS]
end
theorem tP:∀k,aj (z0u.ent (gFm k))
 |0=>okQ (by (repeat intro h);simp[gFm]at h)
 | k+1=>z0u.ok (G:=⟨gFm k,nh⟩) ⟨tP k,z5o,trivial⟩ fun ab be kd nm sb ops m t r h=>by
  unfold gFm at h;split at h
  .rename_i hs;cases h;exact⟨t.ac.length+1,(Jq k t hs.2 hs.1 m _).trans rfl⟩
  .cases h
noncomputable def qq:RV Z->Z->Y Z:=λxs sep=>if xs.length<4294967296/\(jn sep xs).length<=1048576 then some (lP xs sep)else none
section
variable {R : Type}
theorem KX{n:Nat}{xs:RV Z}{sep e:Z}{i:Int}{h:RV Int}(hx:ix xs i=some e)(hl:h.length+e.size<=1048576)(d:Z->Y R)(k1:RV Z->Z->Int->RV Int->Y R):z3o.c7 ⟨()⟩ n xs sep i h d k1=k1 xs sep i (h++ofS e):=by
 unfold z3o.c7;have j:(List.append h (ofS e))=h++ofS e:=rfl;rw[hx,bS,j,sd QI,bS,dF QI,cF]
theorem Er(n:Nat)(xs:RV Z)(sep:Z)(hl:xs.length<4294967296)(d:Z->Y R)(k1:RV Int->Y R):∀m (i:Nat) (h:RV Int),0<i->i<=xs.length->xs.length-i<m->(h++(xs.drop i).flatMap λe=>ofS sep++ofS e).length<=1048576->
  z3o.l3 ⟨()⟩ n m xs sep (i:Int) h d k1=k1 (h++(xs.drop i).flatMap λe=>ofS sep++ofS e):=by
 intro m
 induction m with
 |zero=>intro i h _ _ hm;omega
 | succ m v=>
  intro i h h0 h1 hm j;show z3o.b3 ⟨()⟩ n xs sep (i:Int) h (λw y A B=>z3o.l3 ⟨()⟩ n m w y A B d k1) d k1=_;unfold z3o.b3;by_cases hi:i<xs.length
  .obtain⟨x,t,D⟩:=bu hi;rw[bg t,Oi]at j ⊢;have C:List.append h (ofS sep)=h++ofS sep:=rfl;simp only[N8,bm]at j;rw[bB hi,cT,dT A1,cT,C,sd QI,bS,KX (aZ t) QI,bN A1];refine(v (i+1) (h++ofS sep++ofS x) A1 hi A1 (by simp only[N8,bm];omega)).trans ?_;simp only[Oo]
  .grind
end
theorem z3p:aj (z3o.ent qq):=z3o.ok (G:=⟨()⟩) trivial λxs sep r h=>by
 unfold qq at h;split at h
 .rename_i hs;obtain⟨hl,d⟩:=hs;cases h;refine⟨xs.length+1,?_⟩;unfold z3o.aq;show z3o.b3 ⟨()⟩ (xs.length+1) xs sep 0 [] (λj t v w=>z3o.l3 ⟨()⟩ (xs.length+1) xs.length j t v w (λt4=>some (AT.one (.s t4),[])) λh0=>some (AT.one (.s (sOf h0)),[])) (λt4=>some (AT.one (.s t4),[])) (λh0=>some (AT.one (.s (sOf h0)),[]))=_;unfold z3o.b3;rw[<-ia]at d;have e:=ia xs sep
  match xs,hl,d,e with
  |[],_,_,e=>rw[dF C3,cF];show some (AT.one (.s (sOf (jn sep []))),_)=_;rw[<-e,Bl]
  | x::r,hl,d,e=>
   rw[e]at d;unfold jn at d;rw[dT C3,cT,dF A1,cF,KX KF (by simp only[N8,bm]at d;simp;omega)];have:=Er (R:=AT×RV Ob) ((x::r).length+1) (x::r) sep hl (λt4=>some (.one (.s t4),[])) (λh0=>some (.one (.s (sOf h0)),[])) (x::r).length 1 (ofS x) A1 C3 C3 d;refine this.trans ?_;show some (AT.one (.s (sOf (jn sep (x::r)))),_)=_;rw[<-e,Bl]
 .cases h
noncomputable def js(k:Nat):Sg->Tm->Y Z:=λs t=>if Pr s t/\t.az<k then some (txB s t)else none
section
variable {R : Type} {nm : RV Z} {sb : RV Sb} {ops : RV Opr}
theorem Ie(n k:Nat)(a:Int)(b:Z)(c:Int)(xs:RV Tm)(hx:∀x∈xs,Pr ⟨⟨nm,sb⟩,ops⟩ x/\x.az<k)(hl:xs.length<4294967296)(d:RV Z->Y R)(m i:Nat)(h1:i<=xs.length)(hm:xs.length-i<m):
  z4z.l7 ⟨js k,qq⟩ n m nm sb ops a b c xs (i:Int) ((xs.take i).map (txB ⟨⟨nm,sb⟩,ops⟩)) d=d (xs.map (txB ⟨⟨nm,sb⟩,ops⟩)):=by
 refine Lb xs.length (λi h nx=>z4z.b7 ⟨js k,qq⟩ n nm sb ops a b c xs i h nx d) (λi h=>h=(xs.take i).map (txB ⟨⟨nm,sb⟩,ops⟩)) (λ_ _=>d (xs.map (txB ⟨⟨nm,sb⟩,ops⟩))) (λh nx e=> ?_) (λi h nx hi q e=> ?_) m i _ rfl h1 hm
 .unfold z4z.b7;rw[bz (Pi _),cF,e,qx]
 .obtain⟨x,j,t⟩:=bu hi;unfold z4z.b7;rw[bB hi,cT,aZ j,bS,Tm.eta];show Option.bind (js k _ x) _=_;rw[show js k ⟨⟨nm,sb⟩,ops⟩ x=some (txB ⟨⟨nm,sb⟩,ops⟩ x)from N1 (hx x t),bS,q,dw D5,bS,bN A1];exact e _ (by rw[ij j,OY];rfl)
end
theorem pp:∀k,aj (z4z.ent (js k))
 |0=>okQ (by (repeat intro h);simp[js]at h)
 | k + 1=>z4z.ok (G:=⟨js k,qq⟩) ⟨pp k,z3p,trivial⟩ fun s t r h=>by
  unfold js at h;split at h
  .rename_i hs;cases h;obtain⟨h,ht⟩:=hs;obtain⟨⟨nm,sb⟩,ops⟩:=s;refine⟨t.ac.length+1,?_⟩;have hl:=bZ t.ac;have j:=bj t;have v:=h.2.1;unfold z4z.aq;by_cases ho:t.op= -1
   .obtain⟨x,hx,e,w,B⟩:=BJ h ho;dsimp only at hx ⊢;rw[dT ho,cT,dq Qz,bS,hx,bS,dq Q8,bS,e]
   .obtain⟨o,hx,h0,w,e⟩:=G1 h ho;dsimp only at hx ⊢;rw[dF ho,cF,e];by_cases d:t.ac.length=0
    .grind
    .rw[dF A1,cF,N3 d];refine(Ie (t.ac.length+1) k _ _ _ t.ac (λx hx=>⟨h.arg hx,Dg⟩) A1 _ (t.ac.length+1) 0 A1 A1).trans ?_;have y:=(h.jn d).1;have A:qq (t.ac.map (txB ⟨⟨nm,sb⟩,ops⟩)) cp2=some (lP (t.ac.map (txB ⟨⟨nm,sb⟩,ops⟩)) cp2):=N1 ⟨by rw[Ol];omega,A1⟩;rw[<-ia,bm]at y;rw[hx,bS,dq Qz,bS];show Option.bind (qq _ cp2) _=_;rw[A,bS,dq Q8,bS,dq (by rw[bD,bD];show _+1+_+1<=_;omega),bS]
  .cases h
end
end Go.Proofs.YtigoabbppmdfpaaGreat.Den

/- merged -/
import Derived.Test.YtigoabbppmdfpaaGreatZRowPE8
import Derived.Test.YtigoabbppmdfpaaGreatZRowPE20
import Derived.Test.YtigoabbppmdfpaaGreatZRowPE25

namespace Go.Proofs.YtigoabbppmdfpaaGreat.Den
open Go.RowKit
section
open Abs (V AV Env aD ar aw ao Cx Rel gq)
def app:RV Code->Code->Code
 |[],t=>t
 |x::xs,t=>.seq x (app xs t)
def kJ:Nat->Code->RV Code×Code
 |n+1,.seq x y=>(x::(kJ n y).1,(kJ n y).2)
 |_,c=>([],c)
theorem tZ:∀(n:Nat)(c:Code),app (kJ n c).1 (kJ n c).2=c
 |0,c=>by cases c<;>rfl
 | n+1,c=>by
  cases c with
  |seq x y=>exact congrArg (Code.seq x) (tZ n y)
  |_=>rfl
section
variable {P : Program} {E : Cx} {F : In} {R : Type} {tb : Nat → Y TI} {O : Orc}
theorem yW(hm:P.follows .mixedOrders=true)(j:bx P tb)(C:fj P O){an:Ann}{pc:Pcs}(D:E.n=an.nt)(hF:F.ok an.refs)(hc:an.cuts=[]){tail:Code}{Q:Exit->Act->World->Prop}{K:Kt R}{r:R}
  (t:∀e ρ st L h ι I a w,K e st=some r->SR F ρ st L h->Rel E L h ι I a w->Exit.then (tail.wp P Q) Q e a w):
  ∀{xs:RV Code}{st:St}{ρ:Rho}{L:Env}{h:aD}{ι:RV Abs.Inf}{I:Nat->Prop}{a:Act}{w:World},gt P an pc (bX an (app xs .skip))->den tb O pc an (app xs .skip) st K=some r->SR F ρ st L h->Rel E L h ι I a w->(app xs tail).wp P Q a w
 |[],st,ρ,L,h,ι,I,a,w,_,hd,hs,hr=>t .normal _ _ _ _ _ _ _ _ hd hs hr
 | x::xs,st,ρ,L,h,ι,I,a,w,J,hd,hs,hr=>by
  have v:gt P an pc (bX an x++bX an (app xs .skip)):=by
   have e:bX an (app (x::xs) .skip)=bX an x++bX an (app xs .skip):=by
    show bX an (.seq x (app xs .skip))=_
    conv=>lhs;unfold bX
    rw[hc];rfl
   rw[<-e];exact J
  obtain⟨y,A⟩:=v.app;have B:den tb O pc an x st (qX (λd=>den tb O pc an (app xs .skip) d K) K)=some r:=by
   have e:den tb O pc an (app (x::xs) .skip) st K=den tb O pc an x st (qX (λd=>den tb O pc an (app xs .skip) d K) K):=by
    show den tb O pc an (.seq x (app xs .skip)) st K=_
    conv=>lhs;unfold den
    rw[hc];rfl
   rw[<-e];exact hd
  refine wp_seq (wp_mono ((jE hm j C D hF (c:=x) y B hs).get _ _ _ _ hr) ?_);rintro e M w' ⟨L',h',ι',N,⟨ρ',d,k1,G⟩,H⟩;cases e with
  |normal=>exact yW hm j C D hF hc t A k1 G H
  |_=>exact t _ ρ' d _ _ _ _ _ _ k1 G H
theorem si{f:FuncId}{fn:Func}{c:Code}{an:Ann}{pc:Pcs}{xs:RV AT}(n:Nat){K:Kt R}{r:R}{w:World}{J:Nat->Prop}{avs:RV AV}{vs:Array Value}{Q:Ending->World->Prop}
  (hm:P.follows .mixedOrders=true) (j:bx P tb) (C:fj P O) (D:P.funcs[f]? =some fn) (hb:fn.body=some c) (d:Nat.beq fn.ntmps an.nt=true) (hr:Nat.beq an.refs 0=true) (hcut:an.cuts=[])
  (hx:Nat.ble xs.length an.nt=true) (G:gt P an pc (bX an (app (kJ n c).1 .skip))) (hd:den tb O pc an (app (kJ n c).1 .skip) ⟨gU 0 xs,[]⟩ K=some r)
  (H:∀b,J b->b<w.heap.size) (B:cN [] [] xs avs) (hA:Abs.ARs [] J w avs vs)
  (M:∀e ρ st L h ι I a w',K e st=some r->SR ⟨[],[],[]⟩ ρ st L h->Rel ⟨w,gq [] [],[],fn.ntmps,J⟩ L h ι I a w'->Exit.then ((kJ n c).2.wp P (bodyPost P fn Q)) (bodyPost P fn Q) e a w'):Calls P f vs w Q:=by
 have d:=nB d;have hx:=NX hx;have hr:=nB hr;refine calls_of_wp D hb ?_
 have rel:Rel ⟨w,gq [] [],[],fn.ntmps,J⟩ (Abs.fy 0 avs) [] [] J {tmps:=vs++Array.replicate (fn.ntmps-vs.size) undef,defers:=[]} w:=
  { aO:=fun t v N=>by
      obtain⟨_,h2⟩:=Abs.iR avs 0 t v N;rw[Nat.sub_zero]at h2;obtain⟨hlt,rfl⟩:=gI.1 h2;obtain⟨c,S,h4⟩:=hA.2 t hlt;exact⟨c,by rw[OC (by rw[hA.1];exact hlt)];exact S,h4⟩
    heap:=Abs.HR.nil _ w λ_ _ _ h=>h.elim
    imm:=H
    cY:=λ_ hb=>.inl hb
    pre:=Abs.bn.refl _
    os:=rfl
    tape:=rfl
    output:=rfl
    grown:=N4 _
    frame:=λ_ _ _=>rfl
    cc:=λid o inf h1 h2=>QO
    defers:=rfl
    size:=by
      show (vs++Array.replicate (fn.ntmps-vs.size) undef).size=fn.ntmps;have h1:=hA.1;have h2:=B.1;simp;omega}
 have A:SR ⟨[],[],[]⟩ [] ⟨gU 0 xs,[]⟩ (Abs.fy 0 avs) []:=⟨lq B,HpR.et,Fr.refl _ _ _,XR.none_ λid y T=>by simp at T⟩;have hF:(In.mk [] [] []).ok an.refs:=⟨hr.symm,hr.symm⟩;have:=yW (F:=⟨[],[],[]⟩) (tail:=(kJ n c).2) hm j C (E:=⟨w,gq [] [],[],fn.ntmps,J⟩) d hF hcut M G hd A rel;rw[tZ]at this;exact this
end
end
section
open Classical
noncomputable section
theorem z3t:aj (z3s.ent λs t=>some (bl s t)):=z3s.ok (G:=⟨λs=>some (bI s),gRd 21,pZ⟩) ⟨z3l,uE 21,ow,trivial⟩ λs t r h=>⟨1,by
 cases h;obtain⟨⟨nm,sb⟩,ops⟩:=s;unfold z3s.aq bl;by_cases hs:bI ⟨⟨nm,sb⟩,ops⟩=true
 .dsimp only;rw[bS,hs,N5,cF];by_cases hl:t.size<=2000
  .rw [decide_eq_false A1,cond_false];have d:gRd 21 nm sb ops t 0 false 1=some (dH ⟨⟨nm,sb⟩,ops⟩ t 20 0):=N1 ⟨hs,DD hl,rfl,A1,A1,D2⟩;rw[d,bS];obtain⟨j,_⟩:=kE ⟨⟨nm,sb⟩,ops⟩ t 20 0 (DD hl);obtain⟨s1,s2⟩:=oa hs t 20 0 (DD hl);have v:∀b,pZ nm sb ops t (dH ⟨⟨nm,sb⟩,ops⟩ t 20 0).2.1 b=some (spA t (dH ⟨⟨nm,sb⟩,ops⟩ t 20 0).2.1):=λ_=>N1 j;rw[v,bS,s1];cases hb:(bo ⟨⟨nm,sb⟩,ops⟩ t 20 0).2.1 with
   | false=>
    rw[NR,cT,N3 C3]
   | true=>
    obtain⟨q1,q2⟩:=s2 hb;rw[N5,cF,q1,q2];by_cases he:spA t (bo ⟨⟨nm,sb⟩,ops⟩ t 20 0).2.2=t.size
    .rw[dT he,N1 ⟨rfl,hl,rfl,he⟩];rfl
    .rw[dF he,N3 (λh=>he h.2.2.2)];rfl
  .rw[dT A1,cT,N3 (λh=>hl h.2.1)]
 .dsimp only;rw[bS,N3 (λh=>hs h.1),Bool.eq_false_iff.2 hs];rfl⟩
def J8:RV Ent:=[z1f.ent jT,z1o.ent (gTm 21),z1n.ent kG]
theorem BF:am J8:=⟨lK,BR 21,ol,trivial⟩
def uO:Kt (RV C ⊕ AT)
 | .normal, st=>match st.L.lookup 9,st.L.lookup 4 with
  | some (.one (.p d 0)),some (.one (.p h 0))=>match st.H[d]?,st.H[h]? with
   |some (.box cs),some (.box j)=>bif Nat.beq j.length 4 then some (.inl cs)else none
   |_,_=>none
  |_,_=>none
 | .ret, st=>match rK tb st.L st.H [.cell 4 32,.tmp 5]with
  | some vs=>match dD [] vs with
   |some us=>some (.inr (Cv us))
   |none=>none
  |none=>none
 |_,_=>none
def noT:Y (RV C ⊕ AT):=some (.inr (.tup [.agg [.i 0,.s ByteArray.empty,.i 0,.l (.n 1) []],.one (.b false)]))
def zh(s:Sg)(text:Z):Y (RV C ⊕ AT):=
 (jT s).bind λr=>xW r noT (λq=>
  bif decide (2000<(ByteArray.size text:Int))then noT else
   (gTm 21 q.1 q.2.1 q.2.2.1 q.2.2.2.1 q.2.2.2.2.1 q.2.2.2.2.2.1 q.2.2.2.2.2.2 text 0 1).bind λd=>
   (kG q.1 q.2.1 q.2.2.1 q.2.2.2.1 q.2.2.2.2.1 q.2.2.2.2.2.1 d.2.2.2 text d.2.2.1).bind λh=>
   bif !d.2.1 then noT else bif !decide (h.1=(ByteArray.size text:Int))then noT else
    some (.inl [.i d.1.op,.s d.1.ae,.i d.1.ag,.l (.n 1) d.1.ac]))
theorem Cs(s:Sg)(text:Z):den tb (cP J8) (z0m.pc ⟨jT,gTm 21,kG,λt=>some t⟩ 1) z0m.an (app (kJ 7 z0m.bd).1 .skip) ⟨gU 0 [.agg [.l .s s.ai.ah,.l (.n 5) s.ai.ak,.l (.n 8) s.ops],.one (.s text)],[]⟩ uO=zh s text:=F1
theorem tW(s:Sg)(t:Z)(hs:bI s=true)(hl:t.size<=2000):zh s t=if (bo s t 20 0).2.1=true/\spA t (bo s t 20 0).2.2=t.size then some (.inl [.i (bo s t 20 0).1.op,.s (bo s t 20 0).1.ae,.i (bo s t 20 0).1.ag,.l (.n 1) (bo s t 20 0).1.ac])else noT:=by
 have d:gTm 21 (du s).1 (du s).2.1 (du s).2.2.1 (du s).2.2.2.1 (du s).2.2.2.2.1 (du s).2.2.2.2.2.1 (du s).2.2.2.2.2.2 t 0 1=some ((bo s t 20 0).1,(bo s t 20 0).2.1,(bo s t 20 0).2.2,[]):=N1 ⟨⟨hs,rfl⟩,fN _ _,DD hl,A1,A1,D2⟩;obtain⟨h,_⟩:=iq hs t 20 0 (DD hl);have j:kG (du s).1 (du s).2.1 (du s).2.2.1 (du s).2.2.2.1 (du s).2.2.2.2.1 (du s).2.2.2.2.2.1 [] t (bo s t 20 0).2.2=some (spA t (bo s t 20 0).2.2,[]):=N1 h;have v:jT s=some (some (du s)):=by unfold jT;rw[N1 hs]
 unfold zh;rw[v,bS];show (bif decide (2000<(ByteArray.size t:Int))then noT else _)=_;rw[dF A1,cF,d,bS];show Option.bind (kG (du s).1 (du s).2.1 (du s).2.2.1 (du s).2.2.2.1 (du s).2.2.2.2.1 (du s).2.2.2.2.2.1 [] t (bo s t 20 0).2.2) _=_;rw[j,bS];show (bif !(bo s t 20 0).2.1 then noT else bif !decide (spA t (bo s t 20 0).2.2=(ByteArray.size t:Int))then noT else _)=_;cases hb:(bo s t 20 0).2.1 with
 |false=>rw[NR,cT,N3 C3]
 | true=>
  rw[N5,cF];by_cases he:spA t (bo s t 20 0).2.2=t.size
  .grind
  .grind
theorem Ly{s:Sg}{t:Z}(h:(bl s t).2=false):zh s t=noT:=by
 obtain⟨_,j⟩:=kR h;by_cases hs:bI s=true
 .by_cases hl:t.size<=2000
  .rw[tW s t hs hl,N3 λq=>j ⟨hs,hl,q⟩]
  .have d:jT s=some (some (du s)):=by unfold jT;rw[N1 hs]
   unfold zh;rw[d,bS];show (bif decide (2000<(ByteArray.size t:Int))then noT else _)=_;rw[dT A1,cT]
 .have d:jT s=some none:=by unfold jT;rw[N3 hs]
  unfold zh;rw[d,bS];rfl
theorem vk{s:Sg}{t:Z}(h:(bl s t).2=true):zh s t=some (.inl [.i (bl s t).1.op,.s (bl s t).1.ae,.i (bl s t).1.ag,.l (.n 1) (bl s t).1.ac])/\Sm s (bl s t).1:=by
 obtain⟨he,hs,hl,hb,hp⟩:=mq h;rw[tW s t hs hl,N1 ⟨hb,hp⟩,he];exact⟨rfl,(iq hs t 20 0 (DD hl)).2.2 hb⟩
end
def bG(s d:Z):Z×Z×Bool:=(⟨(Lib.cut s.data.toList d.data.toList).1.toArray⟩,⟨(Lib.cut s.data.toList d.data.toList).2.1.toArray⟩,(Lib.cut s.data.toList d.data.toList).2.2)
theorem lm(s d:Z):(Lib.indexB s d= -1/\bG s d=(s,ByteArray.empty,false))\/∃i:Nat,Lib.indexB s d=i/\i+d.size<=s.size/\bG s d=(s.extract 0 i,s.extract (i+d.size) s.size,true):=by
 rcases Lib.indexB_cases s d with h|⟨i,h,hr⟩
 .obtain⟨j,t,v⟩:=Lib.cutB_miss s d h;exact .inl ⟨h,by unfold bG;rw[j,t,v]⟩
 .obtain⟨j,t,v⟩:=Lib.cutB_hit s d i h;exact .inr ⟨i,h,hr,by unfold bG;rw[j,t,v]⟩
theorem gY(s d:Z):(bG s d).1.size<=s.size/\(bG s d).2.1.size<=s.size/\((bG s d).2.2=true->(bG s d).2.1.size+d.size<=s.size):=by
 rcases lm s d with⟨_,e⟩|⟨i,_,hr,e⟩<;>rw[e]
 .simp_all
 .simp only[ByteArray.size_extract];exact⟨A1,A1,λ_=>A1⟩
noncomputable def bO(s:Sg)(t:Z):Tm×Tm×Bool:=((bl s (bG t wEq).1).1,(bl s (bG t wEq).2.1).1,(bG t wEq).2.2&&((bl s (bG t wEq).1).2&&(bl s (bG t wEq).2.1).2))
noncomputable def lC(s:Sg):Nat->Z->Bool->Bool->RV Cnd->Bool×RV Cnd
 |n+1,c,true,true,l=>lC s n (bG c dZ).2.1 (bG c dZ).2.2 (bO s (bG c dZ).1).2.2 (l++[⟨(bO s (bG c dZ).1).1,(bO s (bG c dZ).1).2.1⟩])
 |_,_,_,ok,l=>(ok,l)
noncomputable def jC(s:Sg)(t:Z):Bool×RV Cnd:=lC s (t.size+1) (bG t wIf).2.1 (bG t wIf).2.2 (bO s (bG t wIf).1).2.2 []
noncomputable def ly(s:Sg)(t:Z):Eqn:=⟨(bO s (bG t wIf).1).1,(bO s (bG t wIf).1).2.1,(jC s t).2⟩
noncomputable def peF(s:Sg)(t:Z):Eqn×Bool:=if (jC s t).1=true/\iz s (ly s t)=true/\oI s (ly s t)=t then (ly s t,true)else (⟨Zt,Zt,[]⟩,false)
theorem xq(s:Sg):∀(n:Nat)(c:Z)(has ok:Bool)(l:RV Cnd),l.length<=(lC s n c has ok l).2.length
 | n+1,c,true,true,l=>by
  have:=xq s n (bG c dZ).2.1 (bG c dZ).2.2 (bO s (bG c dZ).1).2.2 (l++[⟨(bO s (bG c dZ).1).1,(bO s (bG c dZ).1).2.1⟩]);rw[N8]at this;exact NS (Nat.le_add_right _ _) this
 |0,_,_,_,_=>N4 _
 |_+1,_,false,_,_=>N4 _
 |_+1,_,true,false,_=>N4 _
theorem m8{s:Sg}{n:Nat}{c:Z}{has ok:Bool}{l:RV Cnd}(h:(has&&ok)=false):lC s n c has ok l=(ok,l):=by
 cases n<;>cases has<;>cases ok<;>first|rfl|cases h
theorem iX(s:Sg)(t:Z):(bl s t).1.az<=780:=by
 cases hb:(bl s t).2 with
 |true=>exact(vk hb).2.az
 | false=>
  rw[(kR hb).1];show (Tm.mk 0 ByteArray.empty 0 []).az<=780;rw[Tm.eV];simp[ap]
def SmC(l:RV Cnd):Prop:=∀c∈l,c.left.az<=780/\c.right.az<=780
theorem SmC.snoc{s:Sg}{l:RV Cnd}(h:SmC l)(t:Z):SmC (l++[⟨(bO s t).1,(bO s t).2.1⟩]):=λc hc=>by
 rcases List.mem_append.1 hc with hc|hc
 .exact h c hc
 .simp at hc;subst hc;exact⟨iX _ _,iX _ _⟩
theorem Cz(s:Sg):∀(n:Nat)(c:Z)(has ok:Bool)(l:RV Cnd),SmC l->SmC (lC s n c has ok l).2
 |n+1,_,true,true,_,h=>Cz s n _ _ _ _ (h.snoc _)
 |0,_,_,_,_,h=>h
 |_+1,_,false,_,_,h=>h
 |_+1,_,true,false,_,h=>h
theorem Ik{s:Sg}{t:Z}{l:RV Cnd}(h:SmC l):SmE ⟨(bO s t).1,(bO s t).2.1,l⟩:=
 ⟨by have:=iX s (bG t wEq).1;show (bl s _).1.az<_;omega,by have:=iX s (bG t wEq).2.1;show (bl s _).1.az<_;omega,λc hc=>by have:=h c hc;omega⟩
theorem A9{s:Sg}{t:Z}(h:(bO s t).2.2=true):3<=t.size/\bI s=true:=by
 unfold bO at h;simp only[bA]at h;have:=(gY t wEq).2.2 h.1;have e:wEq.size=3:=rfl;exact⟨A1,(mq h.2.1).2.1⟩
noncomputable def sB:Z->Z->Y (Z×Z×Bool):=λs d=>if s.size<=1048576/\1<=d.size/\d.size<=5 then some (bG s d)else none
theorem By(a b:Z):sEq a b=(a==b):=by
 cases a with
 | mk x=>
  cases b with
  | mk y=>
   show decide _=(x==y);by_cases h:x=y
   .subst h;simp
   .grind
theorem Fa{R:Type}(n:Nat)(s d:Z)(h1:s.size<=1048576)(h2:1<=d.size)(B:d.size<=5)(h:Z->Z->Bool->Y R)(k1:Y R):∀(m i:Nat),i<=s.size+1->s.size+1-i<m->Lib.NoOcc s.data.toList d.data.toList i->
  z40.l2 ⟨()⟩ n m s d (i:Int) h k1=bif (bG s d).2.2 then h (bG s d).1 (bG s d).2.1 true else k1:=by
 intro m
 induction m with
 |zero=>exact RQ
 | succ m w=>
  intro i hi hm t;show z40.b2 ⟨()⟩ n s d (i:Int) (λy=>z40.l2 ⟨()⟩ n m s d y h k1) h k1=_;unfold z40.b2;have A:wr ((i:Int)+(ByteArray.size d:Int))=((i+d.size:Nat):Int):=by rw[aH A1];omega
  rw[A];by_cases hr:i+d.size<=s.size
  .have he:sEq (s.extract i (i+d.size)) d=Lib.occAt s.data.toList d.data.toList i:=by
    rw[<-Lib.piece_eq_occAt s d i hr];exact By _ _
   rw[dT A1,cT,kZ A1 A1 A1,bS,Or,Or,he];cases ho:Lib.occAt s.data.toList d.data.toList i with
   | true=>
    have hx:Lib.indexB s d=i:=Lib.index_hit t (by rw[<-Lib.size_eq];omega) ho;rcases lm s d with⟨e,_⟩|⟨j,e,_,v⟩
    .omega
    .obtain rfl:j=i:=A1
     rw[cT,kZ A1 A1 A1,bS,kZ A1 A1 A1,bS,v];rfl
   | false=>
    rw[cF,bN A1];exact w (i+1) A1 A1 (t.succ ho)
  .rw[dF A1,cF];have hx:Lib.indexB s d= -1:=Lib.index_past (λe=>by rw[Lib.size_eq,e]at h2;simp at h2) t (by rw[<-Lib.size_eq,<-Lib.size_eq];omega);rcases lm s d with⟨_,v⟩|⟨j,e,_,_⟩
   .rw[v];rfl
   .omega
theorem uv:aj (z40.ent sB):=z40.ok (G:=⟨()⟩) trivial λs d r h=>by
 unfold sB at h;split at h
 .rename_i hs;obtain⟨h1,h2,j⟩:=hs;cases h;refine⟨s.size+2,(Fa (s.size+2) s d h1 h2 j _ _ (s.size+2) 0 A1 A1 (Lib.NoOcc.zero _ _)).trans ?_⟩;rcases lm s d with⟨_,e⟩|⟨i,_,_,e⟩<;>rw[e]<;>rfl
 .cases h
noncomputable def yn:Sg->Z->Y (Tm×Tm×Bool):=λs t=>if t.size<=1048576 then some (bO s t)else none
theorem wl:aj (z41.ent yn):=z41.ok (G:=⟨sB,λs t=>some (bl s t)⟩) ⟨uv,z3t,trivial⟩ λs t r h=>by
 unfold yn at h;split at h
 .rename_i hs;cases h;refine⟨1,?_⟩;unfold z41.aq;show Option.bind (sB t wEq) _=_;rw[show sB t wEq=_ from N1 ⟨hs,D2,D2⟩,bS,bS,bS,Tm.eta,Tm.eta];unfold bO;cases (bG t wEq).2.2<;>cases (bl s (bG t wEq).1).2<;>rfl
 .cases h
theorem Kd{s:Sg}(F:∀R:Type,Nat->Z->Bool->Bool->RV Cnd->(Bool->Bool->RV Cnd->Y R)->Y R)
  (hF:∀R m c has ok l d,F R (m+1) c has ok l d=bif has then (bif ok then (bif decide ((l.length:Int)<3)then Option.bind (sB c dZ) λr=>Option.bind (yn s r.1) λv=>Option.bind (lim (l++[⟨v.1,v.2.1⟩])) λzs=>F R m r.2.1 r.2.2 v.2.2 zs d else d has ok l)else d has ok l)else d has ok l):∀(m N:Nat)(c:Z)(has ok:Bool)(l:RV Cnd),l.length<=3->3-l.length<m->c.size<N\/has=false->c.size<=1048576->SmC l->
  ∃j t l',(∀(R:Type)(d:Bool->Bool->RV Cnd->Y R),F R m c has ok l d=d j t l')/\SmC l'/\if (j&&t)=true then 3<=(lC s N c has ok l).2.length else lC s N c has ok l=(t,l'):=by
 intro m
 induction m with
 |zero=>intro N c has ok l _ hm;omega
 | succ m y=>
  intro N c has ok l hl hm w hc hs;by_cases hb:(has&&ok)=true
  .simp only[bA]at hb;obtain⟨rfl,rfl⟩:=hb;by_cases C:l.length<3
   .obtain⟨N,rfl⟩:∃k,N=k+1:=⟨N-1,by rcases w with h|h;omega;cases h⟩;obtain⟨s1,s2,A⟩:=gY c dZ;have D:dZ.size=5:=rfl
    obtain⟨a,b,l',q1,q2,q3⟩:=y N (bG c dZ).2.1 (bG c dZ).2.2 (bO s (bG c dZ).1).2.2 _ D5 D5 (by
     cases B:(bG c dZ).2.2 with
     |true=>have:=A B;rcases w with h|h;exact .inl A1;cases h
     |false=>exact .inr rfl) A1 (hs.snoc (s:=s) (bG c dZ).1)
    refine⟨a,b,l',λR d=> ?_,q2,q3⟩;rw[hF,cT,cT,dT A1,cT,show sB c dZ=_ from N1 ⟨hc,D2,D2⟩,bS,show yn s (bG c dZ).1=_ from N1 A1,bS,dw D5,bS];exact q1 R d
   .refine⟨true,true,l,λR d=> ?_,hs,?_⟩
    .grind
    .have:=xq s N c true true l;show 3<=_;omega
  .have hb:=Bool.eq_false_iff.2 hb;refine⟨has,ok,l,λR d=> ?_,hs,?_⟩
   .grind
   .rw[hb,N3 C3];exact m8 hb
noncomputable def gPE:Sg->Z->Y (Eqn×Bool):=λs t=>if t.size<=1048576 then some (peF s t)else none
theorem z3r:aj (z3q.ent gPE):=z3q.ok (G:=⟨sB,yn,C7⟩) ⟨uv,wl,nW,trivial⟩ λs t r h=>by
 unfold gPE at h;split at h
 .rename_i ht;cases h;obtain⟨⟨nm,sb⟩,ops⟩:=s;refine⟨5,?_⟩;obtain⟨s1,s2,B⟩:=gY t wIf;unfold z3q.aq;show Option.bind (sB t wIf) _=_;rw[show sB t wIf=_ from N1 ⟨ht,D2,D2⟩,bS];show Option.bind (yn _ (bG t wIf).1) _=_;rw[show yn ⟨⟨nm,sb⟩,ops⟩ (bG t wIf).1=_ from N1 A1,bS,Tm.eta,Tm.eta];obtain⟨has,ok,l,q1,q2,q3⟩:=Kd (s:=⟨⟨nm,sb⟩,ops⟩) (λR m=>z3q.l4 (R:=R) ⟨sB,yn,C7⟩ 5 m t nm sb ops 0 ByteArray.empty 0 0 ByteArray.empty 0 [] [] [] (bO ⟨⟨nm,sb⟩,ops⟩ (bG t wIf).1).1.op (bO ⟨⟨nm,sb⟩,ops⟩ (bG t wIf).1).1.ae (bO ⟨⟨nm,sb⟩,ops⟩ (bG t wIf).1).1.ag (bO ⟨⟨nm,sb⟩,ops⟩ (bG t wIf).1).1.ac (bO ⟨⟨nm,sb⟩,ops⟩ (bG t wIf).1).2.1.op (bO ⟨⟨nm,sb⟩,ops⟩ (bG t wIf).1).2.1.ae (bO ⟨⟨nm,sb⟩,ops⟩ (bG t wIf).1).2.1.ag (bO ⟨⟨nm,sb⟩,ops⟩ (bG t wIf).1).2.1.ac) (λR m c has ok l C=>by
   simp only[z3q.l4,aS,z3q.b4,Tm.eta];rfl) 5 (t.size+1) (bG t wIf).2.1 (bG t wIf).2.2 (bO ⟨⟨nm,sb⟩,ops⟩ (bG t wIf).1).2.2 [] (N9 _) D2 (.inl A1) A1 λc hc=>by cases hc
  refine(q1 _ _).trans ?_;have y:jC ⟨⟨nm,sb⟩,ops⟩ t=lC ⟨⟨nm,sb⟩,ops⟩ (t.size+1) (bG t wIf).2.1 (bG t wIf).2.2 (bO ⟨⟨nm,sb⟩,ops⟩ (bG t wIf).1).2.2 []:=rfl;rw[<-y]at q3;have d:¬((jC ⟨⟨nm,sb⟩,ops⟩ t).1=true/\iz ⟨⟨nm,sb⟩,ops⟩ (ly ⟨⟨nm,sb⟩,ops⟩ t)=true/\oI ⟨⟨nm,sb⟩,ops⟩ (ly ⟨⟨nm,sb⟩,ops⟩ t)=t)->peF ⟨⟨nm,sb⟩,ops⟩ t=(⟨Zt,Zt,[]⟩,false):=λh=>N3 h;cases ok with
  | false=>
   rw[Bool.and_false,N3 C3]at q3;rw[d (by rw[q3];simp)];rfl
  | true=>
   cases has with
   | true=>
    rw[Bool.and_true,N1 rfl]at q3;rw[d λh=>by
     have h:=h.2.1;unfold iz at h;simp only[bA,NO]at h;have:=h.2.2.1;have e:(ly ⟨⟨nm,sb⟩,ops⟩ t).aM=(jC ⟨⟨nm,sb⟩,ops⟩ t).2:=rfl;rw[e]at this;omega]
    rfl
   | false=>
    rw[Bool.false_and,N3 C3]at q3;have he:ly ⟨⟨nm,sb⟩,ops⟩ t=⟨(bO ⟨⟨nm,sb⟩,ops⟩ (bG t wIf).1).1,(bO ⟨⟨nm,sb⟩,ops⟩ (bG t wIf).1).2.1,l⟩:=by unfold ly;rw[q3]
    rw[N5,cF,cF,<-he];show Option.bind (C7 _ (ly ⟨⟨nm,sb⟩,ops⟩ t)) _=_;rw[show C7 ⟨⟨nm,sb⟩,ops⟩ (ly ⟨⟨nm,sb⟩,ops⟩ t)=_ from N1 (he▸Ik q2),bS];have w:(bO ⟨⟨nm,sb⟩,ops⟩ (bG t wIf).1).2.2=true:=by
     cases A:(bO ⟨⟨nm,sb⟩,ops⟩ (bG t wIf).1).2.2 with
     |true=>rfl
     | false=>
      have e:jC ⟨⟨nm,sb⟩,ops⟩ t=(false,[]):=by unfold jC;rw[A];exact m8 (Bool.and_false _)
      rw[e]at q3;injection q3 with q3
    obtain⟨D,hS⟩:=A9 w;by_cases j:iz ⟨⟨nm,sb⟩,ops⟩ (ly ⟨⟨nm,sb⟩,ops⟩ t)=true
    .rw[N1 ⟨hS,j⟩];by_cases v:oI ⟨⟨nm,sb⟩,ops⟩ (ly ⟨⟨nm,sb⟩,ops⟩ t)=t
     .rw[show peF ⟨⟨nm,sb⟩,ops⟩ t=_ from N1 ⟨by rw[q3],j,v⟩,show sEq _ t=_ from dT v];rfl
     .rw[d λh=>v h.2.2,show sEq _ t=_ from dF v];rfl
    .rw[N3 λh=>j h.2,d λh=>j h.2.1,show sEq _ t=_ from dF (λe=>by have:=congrArg ByteArray.size e;have E:ByteArray.empty.size=0:=rfl;omega)];rfl
 .cases h
end
end Go.Proofs.YtigoabbppmdfpaaGreat.Den

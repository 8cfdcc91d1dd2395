/-
  Texts that the claim rests on, merged: PT3, TxB, LawTx.
-/
import Derived.Test.YtfdkldmkbibknaaGreatZRowTx12
import Derived.Test.YtfdkldmkbibknaaGreatZRowTx15
import Derived.Test.YtfdkldmkbibknaaGreatZRowTx23
import Derived.Test.YtfdkldmkbibknaaGreatZRowTx26
import Derived.Test.YtfdkldmkbibknaaGreatZRowTx27

namespace Go.Proofs.YtfdkldmkbibknaaGreat.Den
open Go.RowKit
set_option maxRecDepth 100000
set_option linter.unusedVariables false
namespace z1c
structure Gs where
 none_:Unit
noncomputable def main {R:Type} (G:Gs) (n:Nat) (code:LI) (K:Bool->Option R):Option R:=
 K (decide (1048576<(List.length code:Int)))
noncomputable def Does (G:Gs) (code:LI) (r:Bool):Prop:=∃n,main (R:=AT×List Ob) G n code (λr0=>some (.one (.b r0),[]))=some (.one (.b r),[])
theorem ok {G:Gs} (hG:AE []) {g:Q} (hg:∀code r,g code=some r->Does G code r):EO (ent g):=λR xs H K r hc=>by
 simp only[ent]at hc;split at hc
 ·exact okL hc λr j=>let⟨_,j⟩:=hg _ _ j;fF hG ⟨6,0,[],[],[2],[],[]⟩ nP Tryz.func14 j
 ·cases hc
end z1c
namespace z22
structure Gs where
 z2m:z2m.Q
noncomputable def main {R:Type} (G:Gs) (n:Nat) (a b:Tm) (K:Bool->Option R):Option R:=
 (G.z2m (Tm.mk a.op a.name a.sort a.args) (Tm.mk b.op b.name b.sort b.args)).bind λr=>
 K (decide (r=0))
noncomputable def Does (G:Gs) (a b:Tm) (r:Bool):Prop:=∃n,main (R:=AT×List Ob) G n a b (λr0=>some (.one (.b r0),[]))=some (.one (.b r),[])
theorem ok {G:Gs} (hG:AE [z2m.ent G.z2m]) {g:Q} (hg:∀a b r,g a b=some r->Does G a b r):EO (ent g):=λR xs H K r hc=>by
 simp only[ent]at hc;split at hc
 ·exact okL hc λr j=>let⟨_,j⟩:=hg _ _ _ j;fF hG ⟨9,0,[],[],[4],[],[]⟩ nP Tryz.func18 j
 ·cases hc
end z22
namespace z1b
structure Gs where
 z1c:z1c.Q
 z2q:z2q.Q
 z08:z08.Q
 z2y:z2y.Q
 z0g:z0g.Q
 z22:z22.Q
noncomputable def ac (G:Gs):List Ent:=[z1c.ent G.z1c,z2q.ent G.z2q,z08.ent G.z08,z2y.ent G.z2y,z0g.ent G.z0g,z22.ent G.z22]
noncomputable def b10 {R:Type} (G:Gs) (n:Nat) (text:ByteArray) (ok:Bool) (h0:LB) (h02:LS) (h03:LO) (h1:Int) (h12:ByteArray) (h13:Int) (h14:LT) (h2:Int) (h22:ByteArray) (h23:Int) (h24:LT) (wide:ByteArray) (i:Int) (nx:ByteArray->Int->Option R) (k0:ByteArray->Option R):Option R:=
 bif decide (i < (ByteArray.size text : Int)) then
  (
  (nn text i (wr (i+1))).bind λq=>
  bif sEq q (ByteArray.mk #[40])then
   (
   (cQ (ByteArray.mk #[32]) q).bind λq2=>
   (cQ q2 (ByteArray.mk #[32])).bind λq3=>
   (cQ wide q3).bind λq4=>
   nx q4 (wr (i+1))
   )
  else
   bif sEq q (ByteArray.mk #[44])then
    (
    (cQ (ByteArray.mk #[32]) q).bind λq5=>
    (cQ q5 (ByteArray.mk #[32])).bind λq6=>
    (cQ wide q6).bind λq7=>
    nx q7 (wr (i+1))
    )
   else
    bif sEq q (ByteArray.mk #[41])then
     (
     (cQ (ByteArray.mk #[32]) q).bind λq8=>
     (cQ q8 (ByteArray.mk #[32])).bind λq9=>
     (cQ wide q9).bind λq10=>
     nx q10 (wr (i+1))
     )
    else
     bif sEq q (ByteArray.mk #[58])then
      (
      (cQ (ByteArray.mk #[32]) q).bind λq11=>
      (cQ q11 (ByteArray.mk #[32])).bind λq12=>
      (cQ wide q12).bind λq13=>
      nx q13 (wr (i+1))
      )
     else
      (cQ wide q).bind λq14=>
      nx q14 (wr (i+1))
  )
 else
  k0 wide
noncomputable def l10 {R:Type} (G:Gs) (n m:Nat) (text:ByteArray) (ok:Bool) (h0:LB) (h02:LS) (h03:LO) (h1:Int) (h12:ByteArray) (h13:Int) (h14:LT) (h2:Int) (h22:ByteArray) (h23:Int) (h24:LT) (wide:ByteArray) (i:Int) (k0:ByteArray->Option R):Option R:=aB (λ(v:ByteArray×Int) nx=>b10 G n text ok h0 h02 h03 h1 h12 h13 h14 h2 h22 h23 h24 v.1 v.2 (λy0 y1=>nx (y0,y1)) k0) m (wide,i)
noncomputable def main {R:Type} (G:Gs) (n:Nat) (code:LI) (K:Bool->Option R):Option R:=
 (G.z1c code).bind λr=>
 bif r then
  (K true)
 else
  od (G.z2q code) λr2=>
  (G.z08 r2.1 (Tm.mk r2.2.op r2.2.name r2.2.sort r2.2.args)).bind λr3=>
  (G.z2y r2.1 (Tm.mk r2.2.op r2.2.name r2.2.sort r2.2.args)).bind λr4=>
  bif !r4 then
   (K (sEq r3 ByteArray.empty))
  else
   (G.z0g r2.1 r3).bind λr5=>
   l10 G n n r3 r5.2 r2.1.sorts.names r2.1.sorts.subs r2.1.ops r2.2.op r2.2.name r2.2.sort r2.2.args r5.1.op r5.1.name r5.1.sort r5.1.args ByteArray.empty 0
    (fun wide2 =>
     (G.z0g r2.1 wide2).bind λr6=>
     bif r5.2 then
      (
      (G.z22 (Tm.mk r2.2.op r2.2.name r2.2.sort r2.2.args) (Tm.mk r5.1.op r5.1.name r5.1.sort r5.1.args)).bind λr7=>
      bif r7 then
       (
       bif r6.2 then
        (
        (G.z22 (Tm.mk r2.2.op r2.2.name r2.2.sort r2.2.args) (Tm.mk r6.1.op r6.1.name r6.1.sort r6.1.args)).bind λr8=>
        bif r8 then
         (K true)
        else
         K (decide (2000<(ByteArray.size wide2:Int)))
        )
       else
        K (decide (2000<(ByteArray.size wide2:Int)))
       )
      else
       K false
      )
     else
      K false
    )
noncomputable def ei (G:Gs) (n m:Nat) (R:Type) (st:St) (K:Kt R):Option R:=match st with
 |⟨[(3,.one (.p 0 0)),(4,.one (.p 1 0)),(5,.one (.s text)),(6,.one (.p 2 0)),(7,.one (.b ok)),(8,.one (.s wide)),(9,.one (.i i))],[.box [.l .s h0,.l (.n 5) h02,.l (.n 8) h03],.box [.i h1,.s h12,.i h13,.l (.n 1) h14],.box [.i h2,.s h22,.i h23,.l (.n 1) h24]]⟩=>l10 G n m text ok h0 h02 h03 h1 h12 h13 h14 h2 h22 h23 h24 wide i (λwide2=>K (.exit 0) ⟨[(3,.one (.p 0 0)),(4,.one (.p 1 0)),(6,.one (.p 2 0)),(7,.one (.b ok)),(8,.one (.s wide2))],[.box [.l .s h0,.l (.n 5) h02,.l (.n 8) h03],.box [.i h1,.s h12,.i h13,.l (.n 1) h14],.box [.i h2,.s h22,.i h23,.l (.n 1) h24]]⟩)
 |_=>none
noncomputable def pc (G:Gs) (n:Nat):Pcs:=⟨λR id st K=>bif Nat.beq id 10 then ei G n n R st K else none,nK,nK⟩
noncomputable def an:Ann:=⟨91,0,[(10,[3,4,5,6,7,8,9])],[],[2],[],[]⟩
noncomputable abbrev bd:=aj Tryz.f4
noncomputable abbrev q10:=ak [1,1,1,1,1,1,1,0,1,0,0] bd
theorem pT {G:Gs} (hG:AE (ac G)) (n:Nat):∀m,PO an (.loop q10) (ei G n m):=lpc hG (pc G n) [3,4,5,6,7,8,9] ⟨[3,4,6,7,8],[2],[(0,[3,4,6,7,8])]⟩ (apl [] trivial) (λR st K=>by unfold ei;split<;>rfl) λm R st K r h=>by unfold ei at h;split at h;exact .trans (by kernel_rfl) h;cases h
noncomputable def Does (G:Gs) (code:LI) (r:Bool):Prop:=∃n,main (R:=AT×List Ob) G n code (λr0=>some (.one (.b r0),[]))=some (.one (.b r),[])
theorem ok {G:Gs} (hG:AE (ac G)) {g:Q} (hg:∀code r,g code=some r->Does G code r):EO (ent g):=λR xs H K r hc=>by
 simp only[ent]at hc;split at hc
 ·exact okL hc λr j=>let⟨n,j⟩:=hg _ _ j;fF hG an (pc G n) Tryz.func4 j (apl [(1,10,.loop q10)] ⟨pT hG n n,trivial⟩)
 ·cases hc
end z1b
open Classical
def cp2 :ByteArray:=ByteArray.mk #[44,32]
def uL (s:Sg) (f:Tm->ByteArray) (t:Tm):ByteArray:=if t.op= -1 then t.name++ByteArray.mk #[58]++srt s t.sort else match ix s.ops t.op with
 |none=>ByteArray.empty
 |some o=>if t.args.length=0 then o.name else o.name++ByteArray.mk #[40]++kJ (t.args.map f) cp2++ByteArray.mk #[41]
def CH (s:Sg):Nat->Tm->ByteArray
 |0,_=>ByteArray.empty
 |k+1,t=>uL s (CH s k) t
def txB (s:Sg) (t:Tm):ByteArray:=CH s (t.total+1) t
theorem nc {s:Sg} {f g:Tm->ByteArray} {t:Tm} (h:∀x∈t.args,f x=g x):uL s f t=uL s g t:=by
 unfold uL;rw[List.map_congr_left h]
theorem uT {s:Sg}:∀(k j:Nat) (t:Tm),t.total<k->t.total<j->CH s k t=CH s j t
 |0,_,_,h,_=>absurd h (Nat.not_lt_zero _)
 |_,0,_,_,h=>absurd h (Nat.not_lt_zero _)
 |k+1,j+1,t,h1,h2=>nc λx hx=>uT k j x (by have:=al hx;omega) (by have:=al hx;omega)
theorem At (s:Sg) (t:Tm):txB s t=uL s (txB s) t:=nc λx hx=>uT _ _ x (al hx) (Nat.lt_succ_self _)
theorem EY (c:Int):pnc [] c=[c]:=by simp[pnc]
theorem yJ (l:List UInt8):ofS (ByteArray.mk l.toArray)=l.map λb=>(b.toNat:Int):=by unfold ofS;simp
theorem wa :∀(xs:List (List UInt8)),(Lib.join xs [44,32]).map (λb:UInt8=>(b.toNat:Int))=cd [] (xs.map λl=>l.map λb:UInt8=>(b.toNat:Int))
 |[]=>rfl
 |[x]=>by rw[Lib.join_one];rfl
 | x :: y :: r => by
  have e:Lib.join (x::y::r) [44,32]=x++[44,32]++Lib.join (y::r) [44,32]:=by simp[Lib.join,List.intercalate,List.intersperse]
  rw[e,List.map_append,List.map_append,wa (y::r),List.append_assoc];rfl
theorem yA (xs:List ByteArray):ofS (kJ xs cp2)=cd [] (xs.map ofS):=by
 unfold kJ;rw[yJ,show cp2.data.toList=[44,32]from rfl,wa,List.map_map];rfl
theorem vp {s:Sg}:∀(k:Nat) (t:Tm),t.total<k->ofS (txB s t)=tx [] s t
 |0,_,h=>absurd h (Nat.not_lt_zero _)
 | k + 1, t, h => by
  rw[At,oV];unfold uL txN;split
  ·rw[cW,cW,List.append_assoc];rfl
  ·cases ho:ix s.ops t.op with
   |none=>rfl
   | some o =>
    simp only;split
    ·rfl
    ·have e:t.args.map (ofS∘txB s)=t.args.map (tx [] s):=List.map_congr_left λx hx=>vp k x (by have:=al hx;omega);rw[cW,cW,cW,yA,List.map_map,e,List.append_assoc,List.append_assoc];rfl
theorem nF (s:Sg) (t:Tm):ofS (txB s t)=tx [] s t:=vp _ t (Nat.lt_succ_self _)
theorem lz {x:ByteArray} (h:bn x=true):(ofS x).length<=12:=by rw[aE];exact n6 h
theorem pu (f:Tm->List Int):∀xs:List Tm,xs≠[]->(∀x∈xs,(f x).length+2<=27*tsz x)->(cd [] (xs.map f)).length+2<=27*wS tsz xs
 |[],h,_=>absurd rfl h
 | [x], _, h => by
  rw[fG];have:=h x (by simp);show (f x).length+2<=_;omega
 | x :: y :: r, _, h => by
  rw[fG];have:=h x (by simp);have:=pu f (y::r) (by simp) λz hz=>h z (by simp[List.mem_cons.1 hz]);show (f x++(pnc [] 44++32::cd [] ((y::r).map f))).length+2<=_;simp only[List.length_append,List.length_cons,EY,List.length_nil];omega
theorem kO {s:Sg} {t:Tm} {o:Opr} (hne:t.op≠ -1) (ho:ix s.ops t.op=some o) (hw:bh s t=true):∀y∈t.args,bh s y=true:=by
 rw[gf]at hw;unfold ii at hw;rw[if_neg hne,ho]at hw;simp only[bA]at hw;exact i9 hw.2
theorem qK {s:Sg} {t:Tm} (hw:bh s t=true):(t.op= -1/\bn t.name=true/\0<=t.sort/\t.sort<nS s)\/(t.op≠ -1/\0<=t.op/\∃o,ix s.ops t.op=some o):=by
 cases fd hw with
 |var h1 h2 h3=>exact .inl ⟨rfl,h3,h1,h2⟩
 | @app op o args ho _ _=>
  have:=(aZ ho).2.1;exact .inr ⟨by show op≠ -1;omega,this,o,ho⟩
theorem yH {s:Sg} (hS:aM s=true):∀(k:Nat) (t:Tm),t.total<k->bh s t=true->(tx [] s t).length+2<=27*tsz t
 |0,_,h,_=>absurd h (Nat.not_lt_zero _)
 | k + 1, t, h, hw => by
  rw[oV,fk];unfold txN;rcases qK hw with⟨h1,h2,h3,h4⟩|⟨h1,_,o,ho⟩
  ·rw[if_pos h1];have:=lz h2;have:=lz (p6 hS h3 h4).2;simp only[List.length_append,EY,List.length_cons,List.length_nil];omega
  ·rw[if_neg h1,ho];simp only;have hn:=lz        ((gk        hS).1 o (aZ     ho).1);have hk:=kO        h1 ho hw;split
   ·omega
   ·rename_i hl;have:=pu (tx [] s) t.args (λe=>hl (by rw[e];rfl)) λx hx=>yH hS k x (by have:=al hx;omega) (hk x hx);simp only[List.length_append,EY,List.length_cons,List.length_nil];omega
theorem rK {s:Sg} (hS:aM s=true) {t:Tm} (hw:bh s t=true):(txB s t).size+2<=27*tsz t:=by
 rw[<-aE,nF];exact yH hS _ t (Nat.lt_succ_self _) hw
theorem d9 {a b:ByteArray} (h:a.size+b.size<=1099511627776):cQ a b=some (a++b):=by
 unfold cQ;rw[dT h];rfl
theorem bH (a b:ByteArray):(a++b).size=a.size+b.size:=by rw[<-aE,cW,List.length_append,aE,aE]
noncomputable def gFm (k:Nat):List Int->List Int->List Int->List ByteArray->List Sb->List Opr->Mp->Tm->Option (ByteArray×Mp):=λ_ _ _ nm sb ops m t=>if aM ⟨⟨nm,sb⟩,ops⟩=true/\t.total<k/\tsz t<=60/\bh ⟨⟨nm,sb⟩,ops⟩ t=true then some (txB ⟨⟨nm,sb⟩,ops⟩ t,m)else none
section
variable {R : Type} {nm : List ByteArray} {sb : List Sb} {ops : List Opr} (hS : aM ⟨⟨nm, sb⟩, ops⟩ = true) {ab be kd : List Int}
include hS
theorem BU (n k:Nat) (name:ByteArray) (xs:List Tm) (hx:∀x∈xs,x.total<k/\tsz x<=60/\bh ⟨⟨nm,sb⟩,ops⟩ x=true) (hl:xs.length<4294967296) (m0:Mp) (k0:Mp->List ByteArray->Option R):∀m (i:Nat),i<=xs.length->xs.length-i<m->
  z0l.l8 ⟨gFm k,jr⟩ n m ab be kd nm sb ops name xs (xs.length:Int) (i:Int) m0 ((xs.take i).map (txB ⟨⟨nm,sb⟩,ops⟩)) k0=k0 m0 (xs.map (txB ⟨⟨nm,sb⟩,ops⟩)):=by
 intro m
 induction m with
 |zero=>intro i _ hm;omega
 | succ m ih =>
  intro i h1 hm;show z0l.b8 ⟨gFm k,jr⟩ n ab be kd nm sb ops name xs (xs.length:Int) (i:Int) m0 ((xs.take i).map (txB ⟨⟨nm,sb⟩,ops⟩)) (λy0 y1 y2=>z0l.l8 ⟨gFm k,jr⟩ n m ab be kd nm sb ops name xs (xs.length:Int) y0 y1 y2 k0) k0=_;unfold z0l.b8;by_cases hi:i<xs.length
  ·obtain⟨x,x1,x2⟩:=aS     hi;rw[br     hi,cT,aJ     x1,bS,Tm.eta];show Option.bind (gFm k ab be kd nm sb ops m0 x) _=_;have e:gFm k ab be kd nm sb ops m0 x=some (txB ⟨⟨nm,sb⟩,ops⟩ x,m0):=if_pos ⟨hS,hx x x2⟩;rw[e,bS,dU     (by simp;omega),bS,bu     (by omega)];have e2:(xs.take i).map (txB ⟨⟨nm,sb⟩,ops⟩)++[txB ⟨⟨nm,sb⟩,ops⟩ x]=(xs.take (i+1)).map (txB ⟨⟨nm,sb⟩,ops⟩):=by rw[ga       x1,List.map_append];rfl
   rw[e2];exact ih (i+1) hi (by omega)
  ·obtain rfl:i=xs.length:=by omega
   rw[aU hi,cF,eQ]
theorem Bz (k:Nat) (t:Tm) (ht:t.total<k+1) (hk:k<4294967296) (hz:tsz t<=60) (hw:bh ⟨⟨nm,sb⟩,ops⟩ t=true) (m:Mp) (K:ByteArray->Mp->Option R):z0l.main ⟨gFm k,jr⟩ (t.args.length+1) ab be kd nm sb ops m t K=K (txB ⟨⟨nm,sb⟩,ops⟩ t) m:=by
 have hlen:=rK hS hw;have hl:=aV t.args;have ht2:=aC t;unfold z0l.main;rw[At]at hlen ⊢;unfold uL at hlen ⊢;rcases qK hw with⟨h1,h2,h3,h4⟩|⟨h1,h0,o,ho⟩
 ·rw[if_pos h1]at hlen ⊢;rw[bH       ,bH       ]at hlen;obtain⟨x,hx,_⟩:=np    (xs:=nm) h3 h4;have es:srt ⟨⟨nm,sb⟩,ops⟩ t.sort=x:=by unfold srt;show (ix nm t.sort).getD _=x;rw[hx];rfl
  rw[es]at hlen ⊢;rw[dT (by omega),cT,d9 (by omega),bS,hx,bS,d9 (by rw[bH];omega),bS]
 ·rw [if_neg h1] at hlen ⊢;have ho':ix ops t.op=some o:=ho;have ho'':ix (Sg.mk ⟨nm,sb⟩ ops).ops t.op=some o:=ho;rw[dF (by omega),cF,ho',bS];rw[ho'']at hlen;simp only at hlen ⊢;by_cases hn:t.args.length=0
  ·rw[dT (by omega),cT,if_pos hn]
  ·rw [if_neg hn] at hlen ⊢;rw[bH       ,bH       ,bH       ]at hlen;have e41:(ByteArray.mk #[41]).size=1:=rfl;have e40:(ByteArray.mk #[40]).size=1:=rfl;have hkid:=kO        h1 ho hw;rw[dF (by omega),cF];have e:=BU      (R:=R) hS (ab:=ab) (be:=be) (kd:=kd) (t.args.length+1) k o.name t.args (λx hx=>⟨by have:=al        hx;omega,by have:=qn      hx;omega,hkid x hx⟩) (by omega) m;refine(e _ (t.args.length+1) 0 (by omega) (by omega)).trans ?_;have hj:jr    (t.args.map (txB ⟨⟨nm,sb⟩,ops⟩)) cp2=some (kJ    (t.args.map (txB ⟨⟨nm,sb⟩,ops⟩)) cp2):=by
    unfold jr;refine if_pos ⟨by rw[List.length_map];omega,?_⟩;have:(Lib.join ((t.args.map (txB ⟨⟨nm,sb⟩,ops⟩)).map (·.data.toList)) cp2.data.toList).length=(kJ (t.args.map (txB ⟨⟨nm,sb⟩,ops⟩)) cp2).size:=by
     unfold kJ;rw[<-aE,yJ,List.length_map]
    omega
   rw[d9 (by omega),bS];show Option.bind (jr _ cp2) _=_;rw[hj,bS,d9 (by rw[bH];omega),bS,d9 (by rw[bH,bH];omega),bS]
end
theorem oA :∀k,k<=4294967296->EO (z0l.ent (gFm k))
 | 0, _ => fun R xs H K r h => by
  simp only[z0l.ent]at h;split at h
  ·simp[gFm]at h
  ·cases h
 | k + 1, hk => z0l.ok              (G := ⟨gFm k, jr⟩) ⟨oA k (by omega), z4z            , trivial⟩ fun ab be kd nm sb ops m t r h => by
  unfold gFm at h;split at h
  ·rename_i hs;cases h;exact⟨t.args.length+1,(Bz hs.1 k t hs.2.1 (by omega) hs.2.2.1 hs.2.2.2 m _).trans rfl⟩
  ·cases h
noncomputable def gFT:Sg->Tm->Option ByteArray:=λs t=>if t.total<4294967295 then some (if aM s=true/\isT s t=true then txB s t else ByteArray.empty)else none
theorem ou :EO (z08.ent gFT):=z08.ok (G:=⟨eM,yj,gFm 4294967296⟩) ⟨jv,ug,oA _ (Nat.le_refl _),trivial⟩ λs t r h=>by
 unfold gFT at h;split at h
 ·rename_i ht;cases h;refine⟨1,?_⟩;unfold z08.main;rw[Tm.eta];by_cases hS:aM   s=true
  ·have e0:eM    s=some (some (bi   s)):=by unfold eM;rw[if_pos    hS]
   show Option.bind (eM s) _=_;rw[e0,bS];have e1:yj (bi s).1 (bi s).2.1 (bi s).2.2.1 (bi s).2.2.2.1 (bi s).2.2.2.2.1 (bi s).2.2.2.2.2.1 (bi s).2.2.2.2.2.2 t=some (isT s t,[]):=if_pos ⟨⟨hS,rfl⟩,dK _ _,by omega⟩;show Option.bind (yj (bi s).1 (bi s).2.1 (bi s).2.2.1 (bi s).2.2.2.1 (bi s).2.2.2.2.1 (bi s).2.2.2.2.2.1 (bi s).2.2.2.2.2.2 t) _=_;rw[e1,bS];cases hi:isT s t with
   |false=>rw[if_neg (by simp)];rfl
   | true =>
    rw[if_pos ⟨hS,rfl⟩];unfold isT at hi;simp only[bA,decide_eq_true_eq]at hi;have e2:gFm 4294967296 (bi s).1 (bi s).2.1 (bi s).2.2.1 (bi s).2.2.2.1 (bi s).2.2.2.2.1 (bi s).2.2.2.2.2.1 [] t=some (txB s t,[]):=if_pos ⟨hS,by omega,hi.1,hi.2.2⟩;show Option.bind (gFm 4294967296 (bi s).1 (bi s).2.1 (bi s).2.2.1 (bi s).2.2.2.1 (bi s).2.2.2.2.1 (bi s).2.2.2.2.2.1 [] t) _=_;rw[e2];rfl
  ·have e0:eM    s=some none:=by unfold eM;rw[if_neg    hS]
   rw[if_neg λh=>hS h.1];show Option.bind (eM s) _=_;rw[e0];rfl
 ·cases h
theorem A7 {R:Type} (n k:Nat) (xs:List Tm) (hx:∀x∈xs,x.total<k) (hl:xs.length<4294967296) (k0:List Tm->Option R):∀m (i:Nat),i<=xs.length->xs.length-i<m->
  z0v.l3 ⟨gCp k⟩ n m xs (xs.length:Int) (i:Int) (xs.take i) k0=k0 xs:=by
 intro m
 induction m with
 |zero=>intro i _ hm;omega
 | succ m ih =>
  intro i h1 hm;show z0v.b3 ⟨gCp k⟩ n xs (xs.length:Int) (i:Int) (xs.take i) (λy0 y1=>z0v.l3 ⟨gCp k⟩ n m xs (xs.length:Int) y0 y1 k0) k0=_;unfold z0v.b3;by_cases hi:i<xs.length
  ·obtain⟨x,x1,x2⟩:=aS hi;rw[br hi,cT,aJ x1,bS,Tm.eta];show Option.bind (gCp k x) _=_;unfold gCp;rw[if_pos (hx x x2),bS,Tm.eta,dU (by simp;omega),bS,bu (by omega),<-ga x1];exact ih (i+1) hi (by omega)
  ·obtain rfl:i=xs.length:=by omega
   rw[aU hi,cF,eQ]
theorem z0w (k:Nat) (e:EO (z0t.ent (gCp k))) (hk:k<4294967296):EO (z0v.ent (iv (k+1))):=z0v.ok (G:=⟨gCp k⟩) ⟨e,trivial⟩ λ(l:List Tm) r h=>by
 unfold iv at h;split at h
 ·rename_i hs;cases h;have hl:=aV l;refine⟨l.length+1,?_⟩;unfold z0v.main;exact A7 (l.length+1) k l (λx hx=>by have:=gG hx;omega) (by omega) _ (l.length+1) 0 (by omega) (by omega)
 ·cases h
theorem z0u :∀k,k<=4294967296->EO (z0t.ent (gCp k))
 | 0, _ => fun R xs H K r h => by
  simp only[z0t.ent]at h;split at h
  ·simp[gCp]at h
  ·cases h
 | k + 1, hk => z0t.ok        (G := ⟨iv (k + 1)⟩) ⟨z0w            k (z0u           k (by omega)) (by omega), trivial⟩ fun t r h => by
  unfold gCp at h;split at h
  ·rename_i hs;cases h;have ht:=aC t;refine⟨1,?_⟩;unfold z0t.main;have e:iv (k+1) t.args=some t.args:=if_pos (by omega);show Option.bind (iv (k+1) t.args) _=_;rw[e];rfl
  ·cases h
theorem pW :EO (z0g.ent λs t=>some (fm s t)):=z0g.ok (G:=⟨eM,gTm 21,la,gCp 4294967296⟩) ⟨jv,vU 21,lF,z0u _ (Nat.le_refl _),trivial⟩ λs t r h=>⟨1,by
 cases h;unfold z0g.main;by_cases hs:aM s=true
 ·have e0:eM    s=some (some (bi   s)):=by unfold eM;rw[if_pos    hs]
  show Option.bind (eM s) _=_;rw[e0,bS];by_cases hl:t.size<=2000
  ·show (bif decide (2000<(ByteArray.size t:Int))then _ else Option.bind (gTm 21 (bi   s).1 (bi   s).2.1 (bi   s).2.2.1 (bi   s).2.2.2.1 (bi   s).2.2.2.2.1 (bi   s).2.2.2.2.2.1 (bi   s).2.2.2.2.2.2 t 0 1) _)=_;have e1:gTm 21 (bi   s).1 (bi   s).2.1 (bi   s).2.2.1 (bi   s).2.2.2.1 (bi   s).2.2.2.2.1 (bi   s).2.2.2.2.2.1 (bi   s).2.2.2.2.2.2 t 0 1=some ((aI    s t 20 0).1,(aI    s t 20 0).2.1,(aI    s t 20 0).2.2,[]):=if_pos ⟨⟨hs,rfl⟩,dK      _ _,Fa   hl,by omega,by omega,by decide⟩;obtain⟨r1,r2,r3⟩:=kI       hs t 20 0 (Fa   hl);have e2:la   (bi   s).1 (bi   s).2.1 (bi   s).2.2.1 (bi   s).2.2.2.1 (bi   s).2.2.2.2.1 (bi   s).2.2.2.2.2.1 [] t (aI    s t 20 0).2.2=some (spA t (aI    s t 20 0).2.2,[]):=if_pos r1;rw[dF (by omega),cF,e1,bS];show Option.bind (la   (bi   s).1 (bi   s).2.1 (bi   s).2.2.1 (bi   s).2.2.2.1 (bi   s).2.2.2.2.1 (bi   s).2.2.2.2.2.1 [] t (aI    s t 20 0).2.2) _=_;rw[e2,bS];unfold fm;cases     hb:(aI    s t 20 0).2.1 with
   |false=>rw[if_neg (by simp)];rfl
   | true =>
    by_cases he:spA t (aI s t 20 0).2.2=t.size
    ·rw[if_pos ⟨hs,hl,rfl,he⟩];simp only;rw[Bool.not_true,cF,dT he,Bool.not_true,cF,Tm.eta];have e3:gCp 4294967296 (aI s t 20 0).1=some (aI s t 20 0).1:=if_pos (by have:=(r3 hb).total;omega);show Option.bind (gCp 4294967296 (aI s t 20 0).1) _=_;rw[e3];rfl
    ·rw[if_neg λq=>he q.2.2.2];simp only;rw[Bool.not_true,cF,dF he];rfl
  ·show (bif decide (2000<(ByteArray.size t:Int))then _ else _)=_;rw[dT (by omega)];unfold fm;rw[if_neg λq=>hl q.2.1];rfl
 ·have e0:eM    s=some none:=by unfold eM;rw[if_neg    hs]
  show Option.bind (eM s) _=_;rw[e0];unfold fm;rw[if_neg λq=>hs q.1];rfl⟩
def wE (c:Int):Bool:=decide (c=40)||(decide (c=44)||(decide (c=41)||decide (c=58)))
def wid (l:List Int):List Int:=l.flatMap λc=>if wE c=true then [32,c,32]else [c]
theorem fB (a b:List Int):wid (a++b)=wid a++wid b:=List.flatMap_append
theorem kG {n:ByteArray} (h:bn n=true):wid (ofS n)=ofS n:=by
 have ha:=(dz h).1;have:∀l:List Int,(∀x∈l,aX x=true)->wid l=l:=λl=>by
  induction l with
  |nil=>intro _;rfl
  | cons x l ih =>
   intro hl;have hx:=sR (hl x (by simp));show (if wE x=true then [32,x,32]else [x])++wid l=_;rw[if_neg,ih λy hy=>hl y (by simp[hy])]
   ·rfl
   ·unfold wE;rw[dF   hx.2.1,dF hx.2.2.2.1,dF hx.2.2.1,dF hx.2.2.2.2]
    decide
 exact this _ ha
theorem sD (f g:Tm->List Int):∀xs:List Tm,(∀x∈xs,wid (f x)=g x)->wid (cd [] (xs.map f))=cd [32] (xs.map g)
 |[],_=>rfl
 |[x],h=>h x (by simp)
 | x :: y :: r, h => by
  show wid (f x++(pnc [] 44++32::cd [] ((y::r).map f)))=g x++(pnc [32] 44++32::cd [32] ((y::r).map g));rw[fB,fB,h x (by simp)];have:=sD f g (y::r) λz hz=>h z (by simp[List.mem_cons.1 hz]);show _=g x++(pnc [32] 44++32::cd [32] ((y::r).map g));rw[<-this];rfl
theorem AB {s:Sg} (hS:aM s=true):∀(k:Nat) (t:Tm),t.total<k->bh s t=true->wid (tx [] s t)=tx [32] s t
 |0,_,h,_=>absurd h (Nat.not_lt_zero _)
 | k + 1, t, h, hw => by
  rw[oV,oV];unfold txN;rcases qK hw with⟨h1,h2,h3,h4⟩|⟨h1,_,o,ho⟩
  ·rw[if_pos h1,if_pos h1,fB,fB,kG h2,kG (p6 hS h3 h4).2];rfl
  ·rw[if_neg h1,if_neg h1,ho];simp only;have hn:=(gk        hS).1 o (aZ     ho).1;split
   ·exact kG hn
   ·rw[fB,fB,fB,kG hn,sD (tx [] s) (tx [32] s) t.args λx hx=>AB hS k x (by have:=al hx;omega) (kO h1 ho hw x hx)];rfl
theorem Cs (l:List Int):(wid l).length<=3*l.length:=by
 induction l with
 |nil=>exact Nat.le_refl _
 | cons x l ih =>
  show ((if wE x=true then [32,x,32]else [x])++wid l).length<=_;rw[List.length_append,List.length_cons];split<;>simp only[List.length_cons,List.length_nil]<;>omega
theorem mu {q:ByteArray} {c:Int} (h:ofS q=[c]) (d:UInt8):sEq q (ByteArray.mk #[d])=decide (c=(d.toNat:Int)):=by
 unfold sEq;refine decide_eq_decide.2 ⟨λe=> ?_,λe=> ?_⟩
 ·rw[e]at h;exact(List.cons.inj h).1.symm
 ·refine vg ?_;rw[h,e];rfl
theorem zo {R:Type} (G:z1b.Gs) (n:Nat) (text:ByteArray) (hl:text.size<=2000) (ok:Bool) (a0:List ByteArray) (a1:List Sb) (a2:List Opr) (b0 b2 c0 c2:Int) (b1 c1:ByteArray) (b3 c3:List Tm) (k0:ByteArray->Option R):∀m (i:Nat) (wide:ByteArray),i<=text.size->ofS wide=wid ((ofS text).take i)->text.size-i<m->
  ∃v,ofS v=wid (ofS text)/\z1b.l10 G n m text ok a0 a1 a2 b0 b1 b2 b3 c0 c1 c2 c3 wide (i:Int) k0=k0 v:=by
 intro m
 induction m with
 |zero=>intro i _ _ _ hm;omega
 | succ m ih =>
  intro i wide h1 hw hm;show ∃v,ofS v=wid (ofS text)/\z1b.b10 G n text ok a0 a1 a2 b0 b1 b2 b3 c0 c1 c2 c3 wide (i:Int) (λy0 y1=>z1b.l10 G n m text ok a0 a1 a2 b0 b1 b2 b3 c0 c1 c2 c3 y0 y1 k0) k0=k0 v;unfold z1b.b10;have hlen:=aE text;by_cases hi:i<text.size
  ·obtain⟨c,x1,_⟩:=aS     (xs:=ofS text) (i:=i) (by omega);have hq:=mI       x1;have hs:wide.size<=6000:=by
    rw[<-aE,hw];have:=Cs ((ofS text).take i);rw[List.length_take]at this;omega
   have hqs:(text.extract i (i+1)).size=1:=by rw[<-aE,hq];rfl
   have e32:(ByteArray.mk #[32]).size=1:=rfl;have step:∀v:ByteArray,ofS v=wid ((ofS text).take i)++(if wE c=true then [32,c,32]else [c])->∃u,ofS u=wid (ofS text)/\z1b.l10 G n m text ok a0 a1 a2 b0 b1 b2 b3 c0 c1 c2 c3 v ((i+1:Nat):Int) k0=k0 u:=λv hv=>ih (i+1) v hi (by
    rw[hv,ga x1,fB];simp[wid]) (by omega)
   rw[dT (by omega),cT,bu (by omega),mq (by omega) (by omega) (by omega),bS,Int.toNat_natCast,Int.toNat_natCast,
    mu hq,mu hq,mu hq,mu hq]
   have hcat:∀k:ByteArray->Option R,(Option.bind (cQ (ByteArray.mk #[32]) (text.extract i (i+1))) λq2=>Option.bind (cQ q2 (ByteArray.mk #[32])) λq3=>Option.bind (cQ wide q3) λq4=>k q4)=k (wide++(ByteArray.mk #[32]++text.extract i (i+1)++ByteArray.mk #[32])):=λk=>by
    rw[d9 (by omega),bS,d9 (by rw[bH];omega),bS,d9 (by rw[bH,bH];omega),bS]
   have hone:∀k:ByteArray->Option R,(Option.bind (cQ wide (text.extract i (i+1))) λq4=>k q4)=k (wide++text.extract i (i+1)):=λk=>by
    rw[d9 (by omega),bS]
   have hof:ofS (wide++(ByteArray.mk #[32]++text.extract i (i+1)++ByteArray.mk #[32]))=wid ((ofS text).take i)++[32,c,32]:=by
    rw[cW,cW,cW,hq,hw];rfl
   have hof1:ofS (wide++text.extract i (i+1))=wid ((ofS text).take i)++[c]:=by rw[cW,hq,hw]
   rw[hcat,hone];by_cases c1:c=40
   ·rw[dT (show c=(((40:UInt8).toNat:Nat):Int)from c1),cT];exact step _ (by rw[hof,if_pos (by rw[c1];decide)])
   ·rw [decide_eq_false (show ¬ c = (((40 : UInt8).toNat : Nat) : Int) from c1), cond_false];by_cases c2:c=44
    ·rw[dT (show c=(((44:UInt8).toNat:Nat):Int)from c2),cT];exact step _ (by rw[hof,if_pos (by rw[c2];decide)])
    ·rw [decide_eq_false (show ¬ c = (((44 : UInt8).toNat : Nat) : Int) from c2), cond_false];by_cases c3:c=41
     ·rw[dT (show c=(((41:UInt8).toNat:Nat):Int)from c3),cT];exact step _ (by rw[hof,if_pos (by rw[c3];decide)])
     ·rw[dF (show ¬c=(((41:UInt8).toNat:Nat):Int)from c3),cF];by_cases c4:c=58
      ·rw[dT (show c=(((58:UInt8).toNat:Nat):Int)from c4),cT];exact step _ (by rw[hof,if_pos (by rw[c4];decide)])
      ·rw[dF (show ¬c=(((58:UInt8).toNat:Nat):Int)from c4),cF];exact step _ (by rw[hof1,if_neg (by unfold wE;rw[dF c1,dF c2,dF c3,dF c4];decide)])
  ·have:i=text.size:=by omega
   subst this;refine⟨wide,?_,?_⟩
   ·rw[hw,<-hlen,eQ]
   ·rw[dF (by omega),cF]
open Classical
theorem EX :EO (z1c.ent λcode=>some (decide (1048576<(List.length code:Int)))):=z1c.ok (G:=⟨()⟩) trivial λcode r h=>⟨1,by cases h;rfl⟩
noncomputable def tR:Tm->Tm->Option Bool:=λa b=>(aK 4294967296 a b).bind λr=>some (decide (r=0))
theorem B3 :EO (z22.ent tR):=z22.ok (G:=⟨aK 4294967296⟩) ⟨z2n _ (Nat.le_refl _),trivial⟩ λa b r h=>⟨1,by
 unfold tR at h;obtain⟨x,h1,h2⟩:=bind_some h;cases h2;unfold z22.main;simp only[Tm.eta];rw[h1,bS]⟩
theorem oW {t:Tm} (h:t.total<4294967296):tR t t=some true:=by
 unfold tR aK;rw[if_pos (by first|exact⟨h,h⟩|exact h|simp[h]),bS,kU (t.total+1) t (Nat.lt_succ_self _)];rfl
noncomputable abbrev gTA (gD:List Int->Sg×Tm->Prop):z1b.Gs:={z1c:=λcode=>some (decide (1048576<(List.length code:Int))),z2q:=gD,z08:=gFT,z2y:=uU,z0g:=λs t=>some (fm s t),z22:=tR}
theorem Bk {gD:List Int->Sg×Tm->Prop} {code:List Int} (h0:code.length<=1048576->∃a,gD code a) (hD:∀a,gD code a->a.2.total<4294967295) {R:Type} (K:Bool->Option R) (r:R) (hK:K true=some r):z1b.main (gTA gD) 2001 code K=some r:=by
 unfold z1b.main;dsimp only;rw[bS];cases hd:decide (1048576<(List.length code:Int))with
 |true=>exact hK
 | false =>
  rw[cF];refine qD (h0 (by have:=of_decide_eq_false hd;omega)) λ⟨s,t⟩ ha=> ?_
  have ht:=hD _ ha;dsimp only at ht ⊢;simp only[Tm.eta];rw[show gFT s t=some (if aM s=true/\isT s t=true then txB s t else ByteArray.empty)from if_pos ht,bS,show uU s t=some (aM s&&isT s t)from if_pos ht,bS];by_cases hc:aM s=true/\isT s t=true
  ·obtain⟨hS,hT⟩:=hc;rw[if_pos ⟨hS,hT⟩,hS,hT];have hw:bh    s t=true:=by
    have:=hT;unfold isT at this;simp only[bA,decide_eq_true_eq]at this;exact this.2.2
   have hz:tsz t<=60:=by
    have:=hT;unfold isT at this;simp only[bA,decide_eq_true_eq]at this;exact this.1
   have hl:(txB s t).size<=2000:=by have:=rK hS hw;omega
   have p1:fm s (txB s t)=(t,true):=rJ (w:=[]) hS (λc hc=>by simp at hc) hT (nF s t) hl;simp only[Bool.and_self,Bool.not_true,cF,bS,p1]
   obtain⟨v,v1,v2⟩:=zo (gTA gD) 2001 (txB s t) hl true s.sorts.names s.sorts.subs s.ops t.op t.sort t.op t.sort t.name t.name t.args t.args
    (λwide2=>Option.bind (some (fm s wide2)) λr6=>bif true then Option.bind (tR t t) λr7=>bif r7 then bif r6.2 then Option.bind (tR t r6.1) λr8=>bif r8 then K true else K (decide (2000<(ByteArray.size wide2:Int)))else K (decide (2000<(ByteArray.size wide2:Int)))else K false else K false) 2001 0 ByteArray.empty (Nat.zero_le _) rfl (by omega)
   refine Eq.trans (Eq.trans ?_ v2) ?_
   ·simp only[bS,cT];rfl
   ·have hv:ofS v=tx [32] s t:=by rw[v1,nF      ];exact AB     hS _ t (Nat.lt_succ_self _) hw
    simp only[bS,cT];rw[oW (by omega),bS,cT];by_cases h2:v.size<=2000
    ·rw[rJ (w:=[32]) hS (λc hc=>by simpa using hc) hT hv h2];simp only[cT];rw[oW (by omega),bS,cT];exact hK
    ·have:(fm     s v).2=false:=by
      unfold fm;rw[if_neg (λh=>h2 h.2.1)]
     rw[this,cF,dT (by omega)];exact hK
  ·rw[if_neg hc];have:(aM   s&&isT s t)=false:=by
    cases h1:aM s<;>cases h2:isT s t<;>first|rfl|exact absurd ⟨h1,h2⟩ hc
   rw[this];simp only[Bool.not_false,cT];rw[show sEq ByteArray.empty ByteArray.empty=true from dT rfl];exact hK
theorem oy {gD:List Int->Sg×Tm->Prop} (eD:fK Tryz.prog (z2q.ent gD)) (h0:∀code:List Int,code.length<=1048576->∃a,gD code a) (hD:∀code a,gD code a->a.2.total<4294967295):∃g,EO (z1b.ent g)/\∀code,Fit (.sl .u) code->∃r,g code=some r/\r=true:=
 ki (λg hg=>z1b.ok (G:=gTA gD) ⟨EX,eD,ou,z2z,pW,B3,trivial⟩ hg) λcode _=>⟨true,⟨2001,Bk (h0 code) (λa=>hD code a) _ _ rfl⟩,rfl⟩
end Go.Proofs.YtfdkldmkbibknaaGreat.Den

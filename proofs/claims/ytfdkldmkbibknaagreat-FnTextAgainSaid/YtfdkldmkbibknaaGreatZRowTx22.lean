/-
  Texts that the claim rests on, merged: Alg1, NewA.
-/
import Derived.Test.YtfdkldmkbibknaaGreatZRowTx19
import Derived.Test.YtfdkldmkbibknaaGreatZRowTx21

namespace Go.Proofs.YtfdkldmkbibknaaGreat.Den
open Go.RowKit
open Classical
abbrev nS (s:Sg):Nat:=s.sorts.names.length
abbrev kS (s:Sg):List Int:=aD s.sorts.names.length s.sorts.subs
structure BR (s:Sg) (o:Opr):Prop where
 dl:1<=o.decls.length
 fa:(first o).args.length<=3
 args:∀x∈(first o).args,0<=x/\x<nS s
 res:0<=(first o).result/\(first o).result<nS s
 u0:0<=o.unit
 u1:o.unit<=s.ops.length
 two:o.assoc=true\/o.comm=true\/o.unit≠0->(first o).args.length=2
 un:o.unit≠0->∃u,ix s.ops (o.unit-1)=some u/\(first u).args.length=0
theorem fu {s:Sg} (h:aM s=true) {o:Opr} (ho:o∈s.ops):BR s o:=by
 obtain⟨h1,h2⟩:=dm h;obtain⟨h3,h4⟩:=h2 o ho;obtain⟨d1,d2,d3,d4,d5,d6⟩:=cO h3;obtain⟨u0,u1⟩:=yL h4;have two:o.assoc=true\/o.comm=true\/o.unit≠0->(first o).args.length=2:=λhc=>by
  unfold axF at h4;cases hb:(!o.assoc&&(!o.comm&&decide (o.unit=0)))with
  | true =>
   simp only[bA,Bool.not_eq_true',decide_eq_true_eq]at hb;obtain⟨b1,b2,b3⟩:=hb;rw[b1,b2]at hc;simp[b3]at hc
  | false =>
   rw[hb,cF]at h4;simp only[bA,decide_eq_true_eq]at h4;exact h4.1
 refine⟨d1,d3,λx hx=>bc.1 (d6 x hx),bc.1 d5,u0,u1,two,λhu=> ?_⟩;unfold axF at h4;cases hb:(!o.assoc&&(!o.comm&&decide (o.unit=0)))with
 | true =>
  simp only[bA,decide_eq_true_eq]at hb;exact absurd hb.2.2 hu
 | false =>
  rw[hb,cF]at h4;simp only[bA,decide_eq_true_eq]at h4;have h5:=h4.2.2.2.2.2;rw[dF hu,cF]at h5;split at h5
  ·rename_i u hu2;simp only[bA,decide_eq_true_eq]at h5;exact⟨u,hu2,h5.1⟩
  ·cases h5
theorem E3 (s:Sg):(kS s).length=nS s:=iY _ _
theorem j9 {s:Sg} (h:aM s=true):ge s.sorts=true:=by
 unfold aM at h;simp only[bA]at h;exact(et h.1).2.2.2.2
theorem aZ {α:Type} {xs:List α} {i:Int} {x:α} (h:ix xs i=some x):x∈xs/\0<=i/\i<xs.length/\xs[i.toNat]? =some x:=by
 unfold ix at h;cases hb:decide (0<=i)with
 |false=>rw[hb]at h;cases h
 | true =>
  rw[hb]at h;have h0:0<=i:=of_decide_eq_true hb;have h:xs[i.toNat]? =some x:=h;obtain⟨hlt,_⟩:=gI.1 h;exact⟨mG h,h0,by omega,h⟩
theorem oM {s:Sg} (h:aM s=true) {o u:Opr} (ho:BR s o) (hu:o.unit≠0) (hx:ix s.ops (o.unit-1)=some u):(first u).args.length=0/\u.assoc=false:=by
 obtain⟨u',h1,h2⟩:=ho.un hu;rw[hx]at h1;cases h1;refine⟨h2,?_⟩;have hk:=fu h (aZ hx).1;cases ha:u.assoc with
 |false=>rfl
 |true=>have:=hk.two (.inl ha);omega
inductive Good (s:Sg):Tm->Prop
 |var {name:ByteArray} {sort:Int} (h1:0<=sort) (h2:sort<nS s) (h3:bn name=true):Good s (Tm.mk (-1) name sort [])
 |app {op:Int} {o:Opr} {args:List Tm} (ho:ix s.ops op=some o) (hn:if o.assoc=true then 2<=args.length else args.length=(first o).args.length) (ha:∀a∈args,Good s a):Good s (Tm.mk op ByteArray.empty 0 args)
theorem Good.args {s:Sg} {t:Tm} (h:Good s t):∀a∈t.args,Good s a:=by
 cases h with
 |var=>intro a ha;simp at ha
 |app _ _ ha=>exact ha
def Kn (s:Sg) (t:Tm):Prop:=(t.op= -1/\0<=t.sort/\t.sort<nS s)\/∃o,ix s.ops t.op=some o
theorem Good.kn {s:Sg} {t:Tm} (h:Good s t):Kn s t:=by
 cases h with
 |var h1 h2 h3=>exact .inl ⟨rfl,h1,h2⟩
 |app ho _ _=>exact .inr ⟨_,ho⟩
def cP (s:Sg) (t:Tm):Int:=if t.op= -1 then aq (kS s) t.sort else match ix s.ops t.op with
 |some o=>aq (kS s) (first o).result
 |none=>0
theorem n5 {s:Sg} {i:Int} (h0:0<=i) (h1:i<nS s):ix (kS s) i=some (aq (kS s) i):=az h0 (by rw[E3];exact h1)
abbrev Mp :=List (ByteArray×Int)
def Alg (kd:List Int) (nm:List ByteArray) (sb:List Sb) (ops:List Opr):Prop:=aM ⟨⟨nm,sb⟩,ops⟩=true/\kd=aD nm.length sb
noncomputable def il:List Int->List Int->List Int->List ByteArray->List Sb->List Opr->Mp->Tm->Option (Int×Mp):=λ_ _ kd nm sb ops m t=>if Alg kd nm sb ops/\Kn ⟨⟨nm,sb⟩,ops⟩ t then some (cP ⟨⟨nm,sb⟩,ops⟩ t,m)else none
theorem pq :EO (z0p.ent il):=z0p.ok (G:=⟨()⟩) trivial λab be kd nm sb ops m t r h=>by
 unfold il at h;split at h
 ·rename_i hs;cases h;obtain⟨⟨h1,rfl⟩,h2⟩:=hs;refine⟨1,?_⟩;unfold z0p.main cP;rcases    h2 with⟨h2,h3,h4⟩|⟨o,ho⟩
  ·rw[h2,if_pos rfl,dT (by decide),cT];have:=n5 (s:=⟨⟨nm,sb⟩,ops⟩) h3 h4;rw[this,bS]
  ·obtain⟨m1,m2,m3,_⟩:=aZ ho;have hk:=fu h1 m1;have:=n5 (s:=⟨⟨nm,sb⟩,ops⟩) hk.res.1 hk.res.2;have ho':ix ops t.op=some o:=ho;rw[if_neg (by omega),dF (by omega),cF,ho',bS,bq hk.dl,bS,this,bS]
 ·cases h
noncomputable def gp:Sg->Tm->Option Int:=λs t=>if aM s=true/\Kn s t then some (cP s t)else none
theorem lE :EO (z48.ent gp):=z48.ok (G:=⟨cV⟩) ⟨dy,trivial⟩ λs t r h=>by
 unfold gp at h;split at h
 ·rename_i hs;cases h;obtain⟨h1,h2⟩:=hs;refine⟨1,?_⟩;unfold z48.main cP;show    Option.bind (cV     s.sorts) _=_;unfold cV;rw[if_pos     (j9       h1),bS];rcases h2 with⟨h2,h3,h4⟩|⟨o,ho⟩
  ·rw[h2,if_pos rfl,dT rfl,cT];rw[n5 h3 h4,bS]
  ·obtain⟨m1,m2,m3,_⟩:=aZ ho;have hk:=fu h1 m1;rw[if_neg (by omega),dF (by omega),cF,ho,bS,bq hk.dl,bS,n5 hk.res.1 hk.res.2,bS]
 ·cases h
def atI (o:Opr) (i:Int):Int:=if o.assoc=true then 0 else i
def jW (s:Sg) (o:Opr) (i:Int):Int:=aq (kS s) (aq (first o).args (atI o i))
noncomputable def jn:List Int->List Int->List Int->List ByteArray->List Sb->List Opr->Mp->Int->Int->Option (Int×Mp):=λ_ _ kd nm sb ops m op i=>if Alg kd nm sb ops/\∃o,ix ops op=some o/\0<=atI o i/\atI o i<(first o).args.length then some (jW ⟨⟨nm,sb⟩,ops⟩ ((ix ops op).getD ⟨ByteArray.empty,[],false,false,0⟩) i,m)else none
theorem uI {s:Sg} {o:Opr} (hk:BR s o) {i:Int} (h0:0<=i) (h1:i<(first o).args.length):ix (first o).args i=some (aq (first o).args i)/\0<=aq (first o).args i/\aq (first o).args i<nS s:=
 ⟨az h0 h1,hk.args _ (cE h0 h1)⟩
theorem na :EO (z0j.ent jn):=z0j.ok (G:=⟨()⟩) trivial λab be kd nm sb ops m op i r h=>by
 unfold jn at h;split at h
 ·rename_i hs;obtain⟨⟨h1,rfl⟩,o,ho,h2,h3⟩:=hs;rw[ho]at h;cases h;have hk:=fu   h1 (aZ     ho).1;obtain⟨a1,a2,a3⟩:=uI     hk h2 h3;have a4:=n5    (s:=⟨⟨nm,sb⟩,ops⟩) a2 a3;refine⟨1,?_⟩;unfold z0j.main jW;rw[ho  ,bS,Option.getD_some];unfold atI at a1 a4 ⊢;cases ha:o.assoc with
  | true =>
   rw[ha,if_pos rfl]at a1 a4;rw[cT,if_pos rfl];unfold z0j.c4;rw[bq hk.dl,bS,a1,bS,a4,bS]
  | false =>
   rw[ha,if_neg (by decide)]at a1 a4;rw[cF,if_neg (by decide)];unfold z0j.c4;rw[bq hk.dl,bS,a1,bS,a4,bS]
 ·cases h
def fL (o:Opr) (t:Tm):Bool:= !decide (o.unit=0)&&decide (t.op=o.unit-1)
def unT (o:Opr):Tm:=Tm.mk (o.unit-1) ByteArray.empty 0 []
noncomputable def ol:List Int->List Int->List Int->List ByteArray->List Sb->List Opr->Mp->Int->Tm->Option (Bool×Mp):=λ_ _ kd nm sb ops m op t=>if Alg kd nm sb ops then (ix ops op).map (λo=>(fL o t,m))else none
theorem oZ :EO (z0n.ent ol):=z0n.ok (G:=⟨()⟩) trivial λab be kd nm sb ops m op t r h=>by
 unfold ol at h;split at h
 ·rename_i hs;obtain⟨o,ho,rfl⟩:=Option.map_eq_some_iff.1 h;have hk:=fu   hs.1 (aZ     ho).1;have hu1:=hk.u1;have hol:ops.length<=14:=(dm         hs.1).1;refine⟨1,?_⟩;unfold z0n.main fL;rw[ho  ,bS];by_cases hu:o.unit=0
  ·rw[dT hu];rfl
  ·have:o.unit<=(ops.length:Int):=hu1;rw[dF hu,Bool.not_false,cT,bS,Bool.true_and,ai (x:=o.unit-1) (by have:=hk.u0;omega)]
 ·cases h
noncomputable def uH:List Int->List Int->List Int->List ByteArray->List Sb->List Opr->Mp->Int->Option (Tm×Mp):=λ_ _ kd nm sb ops m op=>if Alg kd nm sb ops then (ix ops op).map (λo=>(unT o,m))else none
noncomputable def kR:Sg->Int->Option (Tm×Bool):=λs op=>if aM s=true then (ix s.ops op).map (λo=>if o.unit=0 then (Tm.mk 0 ByteArray.empty 0 [],false)else (unT o,true))else none
theorem oQ :EO (z4g.ent kR):=z4g.ok (G:=⟨()⟩) trivial λs op r h=>by
 unfold kR at h;split at h
 ·rename_i hs;obtain⟨o,ho,rfl⟩:=Option.map_eq_some_iff.1 h;have hk:=fu   hs (aZ     ho).1;have hu1:=hk.u1;have hol:s.ops.length<=14:=(dm         hs).1;refine⟨1,?_⟩;unfold z4g.main;rw[ho,bS];by_cases hu:o.unit=0
  ·rw[dT hu,cT,if_pos hu]
  ·rw[dF hu,cF,bS,if_neg hu,ai (x:=o.unit-1) (by have:=hk.u0;omega)];rfl
 ·cases h
noncomputable def qH:List Int->List Int->List Int->List ByteArray->List Sb->List Opr->Mp->Tm->Option (Bool×Mp):=λab _ _ _ _ _ m t=>if t.op= -1 then some (bn t.name&&(inN ab.length t.sort&&decide (t.args.length=0)),m)else none
theorem jj :EO (z0o.ent qH):=z0o.ok (G:=⟨fS,CK⟩) ⟨z0a,lR,trivial⟩ λab be kd nm sb ops m t r h=>by
 unfold qH at h;split at h
 ·rename_i hs;cases h;refine⟨1,?_⟩;unfold z0o.main;rw[dT hs,cT];show Option.bind (fS    t.name) _=_;rw[bS];cases hn:bn    t.name with
  |false=>rfl
  | true =>
   rw[cT];show Option.bind (CK ⟨ab,be,kd⟩ t.sort) _=_;rw[bS];cases hi:inN ab.length t.sort with
   |false=>rfl
   | true =>
    rw[cT,show decide ((t.args.length:Int)=0)=decide (t.args.length=0)from decide_eq_decide.2 (by omega)];rfl
 ·cases h
abbrev Zt :Tm:=Tm.mk 0 ByteArray.empty 0 []
def uOf (o:Opr):Tm:=if o.unit=0 then Zt else unT o
theorem vh {s:Sg} (h:aM s=true) {o:Opr} {op:Int} (ho:ix s.ops op=some o) (hu:o.unit≠0) {x:Tm} (hx:Good s x):(bW x (unT o)=0↔x.op=o.unit-1)/\(x.op=o.unit-1->¬(o.assoc=true/\x.op=op)):=by
 have hk:=fu h (aZ ho).1;obtain⟨u,u1,u2⟩:=hk.un hu;obtain⟨u3,u4⟩:=oM h hk hu u1;refine⟨⟨λhc=> ?_,λhc=> ?_⟩,λhc ⟨h1,h2⟩=> ?_⟩
 ·rw[jc     ]at hc;unfold lw   at hc;by_cases h1:bZ   x.op (unT o).op=0
  ·exact wg h1
  ·rw[if_neg h1]at hc;exact absurd hc h1
 ·have:x=unT o:=by
   cases hx with
   | var h1 h2 h3 =>
    have hc:(-1:Int)=o.unit-1:=hc;have:=hk.u0;omega
   | @app op' o' args ho' hn ha=>
    have hc:op'=o.unit-1:=hc;subst hc;rw[u1]at ho';cases ho';rw[u4,if_neg (by decide),u3]at hn;rw[nZ hn];rfl
  rw[this];exact kU _ _ (Nat.lt_succ_self _)
 ·rw[hc]at h2;rw[<-h2,u1]at ho;cases ho;rw[u4]at h1;cases h1
abbrev Al :=List Int×List Int×List Int×List ByteArray×List Sb×List Opr×List (ByteArray×Int)
noncomputable def bi (s:Sg):Al:=(upI s.sorts.names.length s.sorts.subs,jA (upI s.sorts.names.length s.sorts.subs),aD s.sorts.names.length s.sorts.subs,s.sorts.names,s.sorts.subs,s.ops,[])
noncomputable def eM:Sg->Option (Option Al):=λs=>some (if aM s=true then some (bi s)else none)
theorem uR {s:Sg} (h:aM s=true):cC s.sorts=true:=by
 unfold aM at h;rw[bA]at h;exact h.1
theorem jv :EO (z11.ent eM):=z11.ok (G:=⟨λs=>some (aM s),λs=>some (gn s)⟩) ⟨z0c,lM,trivial⟩ λs r h=>⟨1,by
 cases h;unfold z11.main;by_cases hs:aM s=true
 ·rw[if_pos hs];dsimp only;rw[bS,hs,Bool.not_true,cF,bS,show gn s.sorts=(⟨upI s.sorts.names.length s.sorts.subs,jA (upI s.sorts.names.length s.sorts.subs),aD s.sorts.names.length s.sorts.subs⟩,true)from if_pos (uR hs)];rfl
 ·rw[if_neg hs];dsimp only;rw[bS,Bool.eq_false_iff.2 hs];rfl⟩
end Go.Proofs.YtfdkldmkbibknaaGreat.Den

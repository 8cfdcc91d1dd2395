/-
  Texts that the claim rests on, merged: Sig4, Alg1, Alg2, Alg3.
-/
import Derived.Test.YtfdkldmkbibknaaGreatZRowPT18
import Derived.Test.YtfdkldmkbibknaaGreatZRowPT20

namespace Go.Proofs.YtfdkldmkbibknaaGreat.Den
open Go.RowKit
open Classical
section
variable {R : Type}
theorem iax_end (n N:Nat) (G:z0s.Gs) (ab be kinds:List Int) (hk:kinds.length=N) (names:List ByteArray) (subs:List Sb) (ops:List Opr) (hol:ops.length<=14) (ho:opsIn N kinds ops=true) (o:Opr) (hf:inN N (first o).result=true) (h0:0<=o.unit) (h1:o.unit<=ops.length) (k0:Bool->Option R):
  z0s.c10 G n ab be kinds names subs ops o.name o.decls o.assoc o.comm o.unit (first o).args (first o).result k0=k0 (bif decide (o.unit=0)then true else match ix ops (o.unit-1)with
   |some u=>decide ((first u).args.length=0)&&decide (getI kinds (first u).result=getI kinds (first o).result)
   |none=>false):=by
 unfold z0s.c10
 by_cases hu:o.unit=0
 ·rw[dT hu];rfl
 ·rw[dF hu,cF,cF,wr_in (x:=o.unit-1) (by omega)]
  obtain⟨u,u1,u2,_,_⟩:=drop_step (a:=ops) (i:=o.unit-1) (by omega) (by omega)
  obtain⟨d1,d2,d3,d4,d5,d6⟩:=declsF_parts (aT.1 ho u u2)
  have d5':=inN_iff.1 d5
  have hf':=inN_iff.1 hf
  rw[u1,bS,first_ix d1,bS]
  by_cases hz:(first u).args.length=0
  ·rw[dT (show ((first u).args.length:Int)=0 by omega),cT,getI_ix d5'.1 (by omega),bS,getI_ix hf'.1 (by omega),bS]
   simp[hz]
  ·rw[dF (show ¬((first u).args.length:Int)=0 by omega)]
   simp[hz]
theorem iax_main (n N:Nat) (G:z0s.Gs) (ab be kinds:List Int) (hk:kinds.length=N) (names:List ByteArray) (subs:List Sb) (ops:List Opr) (hol:ops.length<=14) (ho:opsIn N kinds ops=true) (o:Opr) (hd:declsF N kinds o=true) (h0:0<=o.unit) (h1:o.unit<=ops.length) (k0:Bool->Option R):
  z0s.c5 G n ab be kinds names subs ops o.name o.decls o.assoc o.comm o.unit k0=k0 (decide ((first o).args.length=2)&&(decide (getI kinds (getI (first o).args 0)=getI kinds (getI (first o).args 1))&&
  ((bif o.assoc||decide (0<o.unit)then decide (getI kinds (getI (first o).args 0)=getI kinds (first o).result)else true)&&
  (bif decide (o.unit = 0) then true else match ix ops (o.unit - 1) with
   |some u=>decide ((first u).args.length=0)&&decide (getI kinds (first u).result=getI kinds (first o).result)
   |none=>false)))):=by
 obtain⟨d1,d2,d3,d4,d5,d6⟩:=declsF_parts hd
 have d5':=inN_iff.1 d5
 unfold z0s.c5
 rw[first_ix d1,bS]
 by_cases h2:(first o).args.length=2
 ·rw[dT h2,dT (show ((first o).args.length:Int)=2 by omega),Bool.not_true,cF,Bool.true_and]
  have a0:ix (first o).args 0=some (getI (first o).args 0):=getI_ix (by omega) (by omega)
  have a1:ix (first o).args 1=some (getI (first o).args 1):=getI_ix (by omega) (by omega)
  have m0:=inN_iff.1 (d6 _ (getI_mem (l:=(first o).args) (i:=0) (by omega) (by omega)))
  have m1:=inN_iff.1 (d6 _ (getI_mem (l:=(first o).args) (i:=1) (by omega) (by omega)))
  have k0':ix kinds (getI (first o).args 0)=some (getI kinds (getI (first o).args 0)):=getI_ix m0.1 (by omega)
  have k1':ix kinds (getI (first o).args 1)=some (getI kinds (getI (first o).args 1)):=getI_ix m1.1 (by omega)
  have kr:ix kinds (first o).result=some (getI kinds (first o).result):=getI_ix d5'.1 (by omega)
  simp only[a0,a1,k0',k1',kr,bS]
  rw[iax_end n N G ab be kinds hk names subs ops hol ho o d5 h0 h1]
  have e1:decide (0<o.unit)= !decide (o.unit=0):=by rw[<-decide_not];exact decide_eq_decide.2 (by omega)
  rw[e1]
  cases o.assoc<;>cases decide (getI kinds (getI (first o).args 0)=getI kinds (getI (first o).args 1))<;>cases decide (getI kinds (getI (first o).args 0)=getI kinds (first o).result)<;>cases decide (o.unit=0)<;>rfl
 ·rw[dF h2,dF (show ¬((first o).args.length:Int)=2 by omega)];rfl
end
noncomputable def gAI:Od->Sg->Opr->Option Bool:=λx s o=>if x.kind.length=x.above.length/\s.ops.length<=14/\opsIn x.above.length x.kind s.ops=true/\o∈s.ops then some (axF x.kind s.ops o)else none
theorem axiomsOK_ok :EO (z0s.ent gAI):=z0s.ok (G:=⟨()⟩) trivial λx s o r h=>by
 unfold gAI at h
 split at h
 ·rename_i hp
  cases h
  obtain⟨p1,p2,p3,p4⟩:=hp
  have hd:=aT.1 p3 o p4
  refine⟨1000,?_⟩
  unfold z0s.main axF
  by_cases h0:o.unit<0
  ·rw[dT h0,dF (show ¬o.unit=0 by omega),dF (show ¬0<=o.unit by omega)]
   simp
  by_cases h1:(s.ops.length:Int)<o.unit
  ·rw[dF h0,dT h1,dF (show ¬o.unit=0 by omega),dF (show ¬o.unit<=s.ops.length by omega)]
   simp
  rw[dF h0,dF h1,cF,cF,iax_main 1000 x.above.length ⟨()⟩ x.above x.below x.kind p1 s.sorts.names s.sorts.subs s.ops p2 p3 o hd (by omega) (by omega)]
  rw[dT (show 0<=o.unit by omega),dT (show o.unit<=s.ops.length by omega)]
  cases o.assoc<;>cases o.comm<;>cases decide (o.unit=0)<;>rfl
 ·cases h
abbrev GSigI (q:So->Option (Od×Bool)) (d:Od->Opr->Option Bool) (a:Od->Sg->Opr->Option Bool):z0b.Gs:={z10:=q,z09:=gName,z0v:=d,z0s:=a}
section
variable {R : Type} {q : So → Option (Od × Bool)}
theorem isig_ops (n N:Nat) (hN:N<=8) (x:Od) (hx:x.above.length=N) (hk:x.kind.length=N) (names:List ByteArray) (subs:List Sb) (ops0 ops:List Opr) (hol:ops.length<=14) (k0:Bool->Option R) (k1:List ByteArray->List Sb->List Opr->List Int->List Int->List Int->Option R):∀m (i:Int) (kvs:List (ByteArray×Bool)),0<=i->i<=ops.length->SeenIs kvs (nm (ops.take i.toNat))->(ops.length-i).toNat<m->
  z0b.l6 (GSigI q gDI gAI) n m ops (ops.length:Int) i names subs ops0 x.above x.below x.kind kvs k0 k1=bif opsF N x.kind (nm (ops.take i.toNat)) (ops.drop i.toNat)then k1 names subs ops0 x.above x.below x.kind else k0 false:=by
 intro m
 induction m with
 |zero=>intro i _ _ _ _ hm;omega
 | succ m ih =>
  intro i kvs q0 q1 qs hm
  show z0b.b6 (GSigI q gDI gAI) n ops (ops.length:Int) i names subs ops0 x.above x.below x.kind kvs (λy0 y1 y2 y3 y4 y5 y6 y7 y8 y9=>z0b.l6 (GSigI q gDI gAI) n m y0 y1 y2 y3 y4 y5 y6 y7 y8 y9 k0 k1) k0 k1=_
  unfold z0b.b6
  by_cases hi:i<(ops.length:Int)
  ·obtain⟨o,x1,x2,x3,x4⟩:=drop_step q0 hi
   have e:(i+1).toNat=i.toNat+1:=by omega
   have ht:nm (ops.take (i+1).toNat)=nm (ops.take i.toNat)++[o.name]:=by
    obtain⟨hlt,hx⟩:=gI.1 x4
    rw[e,List.take_succ_eq_append_getElem hlt,hx]
    simp[nm]
   have eD:gDI (Od.mk x.above x.below x.kind) o=some (declsF N x.kind o):=by
    unfold gDI
    rw[if_pos ⟨by show x.above.length<=8;omega,by show x.kind.length=x.above.length;omega⟩]
    show some (declsF x.above.length x.kind o)=_
    rw[hx]
   rw[dT hi,cT]
   simp only[x1,bS,eD,wr_in (x:=i+1) (by omega)]
   rw[x3,opsF,ih (i+1) _ (by omega) (by omega) (by rw[ht];exact seen_add qs o.name) (by omega),ht,qs o.name]
   cases nameF o.name<;>cases declsF N x.kind o<;>cases ((nm (ops.take i.toNat)).any λy=>sEq y o.name)<;>rfl
  ·rw[dF hi,cF,drop_all hi];rfl
theorem isig_ax (n N:Nat) (x:Od) (hx:x.above.length=N) (hk:x.kind.length=N) (names:List ByteArray) (subs:List Sb) (ops:List Opr) (hol:ops.length<=14) (ho:opsIn N x.kind ops=true) (k0:Bool->Option R) (k1:Option R):∀m (i:Int),0<=i->i<=ops.length->(ops.length-i).toNat<m->
  z0b.l13 (GSigI q gDI gAI) n m ops (ops.length:Int) i names subs ops x.above x.below x.kind k0 k1=bif (ops.drop i.toNat).all (axF x.kind ops)then k1 else k0 false:=by
 intro m
 induction m with
 |zero=>intro i _ _ hm;omega
 | succ m ih =>
  intro i q0 q1 hm
  show z0b.b13 (GSigI q gDI gAI) n ops (ops.length:Int) i names subs ops x.above x.below x.kind (λy0 y1 y2 y3 y4 y5 y6 y7 y8=>z0b.l13 (GSigI q gDI gAI) n m y0 y1 y2 y3 y4 y5 y6 y7 y8 k0 k1) k0 k1=_
  unfold z0b.b13
  by_cases hi:i<(ops.length:Int)
  ·obtain⟨o,x1,x2,x3,x4⟩:=drop_step q0 hi
   have eA:gAI (Od.mk x.above x.below x.kind) (Sg.mk (So.mk names subs) ops) o=some (axF x.kind ops o):=by
    unfold gAI
    rw[if_pos ⟨by show x.kind.length=x.above.length;omega,hol,by show opsIn x.above.length x.kind ops=true;rw[hx];exact ho,x2⟩]
   rw[dT hi,cT,x1,bS]
   dsimp only
   rw[eA,bS,x3,List.all_cons,wr_in (x:=i+1) (by omega),ih (i+1) (by omega) (by omega) (by omega)]
   cases axF x.kind ops o<;>rfl
  ·rw[dF hi,cF,drop_all hi];rfl
end
theorem z0c :EO (z0b.ent λs=>some (sigF s)):=z0b.ok (G:=GSigI (λs=>some (orderF s)) gDI gAI) ⟨newOrder_ok,z0a,declsOK_ok,axiomsOK_ok,trivial⟩ λs r h=>⟨1000,by
 cases h
 unfold z0b.main sigF
 rw[bS]
 cases hs:sortsF s.sorts with
 | false =>
  rw[show orderF s.sorts=(⟨[],[],[]⟩,false)from if_neg (by rw[hs];simp)]
  rfl
 | true =>
  obtain⟨p1,p2,p3,p4,p5⟩:=sortsF_parts hs
  rw[show orderF s.sorts=(⟨upI s.sorts.names.length s.sorts.subs,belowI (upI s.sorts.names.length s.sorts.subs),kindI s.sorts.names.length s.sorts.subs⟩,true)from if_pos hs]
  simp only[Bool.not_true,cF]
  by_cases h14:14<(s.ops.length:Int)
  ·rw[dT h14,dF (show ¬s.ops.length<=14 by omega)];rfl
  ·rw[dF h14,dT (show s.ops.length<=14 by omega),cF]
   have hu:=upI_len s.sorts.names.length s.sorts.subs
   have hkl:=kindI_len s.sorts.names.length s.sorts.subs
   have e6:=isig_ops (R:=AT×List Ob) (q:=λs=>some (orderF s)) 1000 s.sorts.names.length p2 ⟨upI s.sorts.names.length s.sorts.subs,belowI (upI s.sorts.names.length s.sorts.subs),kindI s.sorts.names.length s.sorts.subs⟩ hu hkl s.sorts.names s.sorts.subs s.ops s.ops (by omega)
   simp only at e6
   rw[e6 _ _ 1000 0 [] (by omega) (by omega) seen_nil (by omega)]
   simp only[Int.toNat_zero,List.take_zero,List.drop_zero,nm,List.map_nil,Bool.true_and]
   cases ho:opsF s.sorts.names.length (kindI s.sorts.names.length s.sorts.subs) [] s.ops with
   |false=>rfl
   | true =>
    have e13:=isig_ax (R:=AT×List Ob) (q:=λs=>some (orderF s)) 1000 s.sorts.names.length ⟨upI s.sorts.names.length s.sorts.subs,belowI (upI s.sorts.names.length s.sorts.subs),kindI s.sorts.names.length s.sorts.subs⟩ hu hkl s.sorts.names s.sorts.subs s.ops (by omega) (opsF_in ho)
    simp only at e13
    rw[cT,e13 _ _ 1000 0 (by omega) (by omega) (by omega)]
    simp only[Int.toNat_zero,List.drop_zero,Bool.true_and]
    cases s.ops.all (axF (kindI s.sorts.names.length s.sorts.subs) s.ops)<;>rfl⟩
abbrev nS (s:Sg):Nat:=s.sorts.names.length
abbrev kS (s:Sg):List Int:=kindI s.sorts.names.length s.sorts.subs
structure OpOk (s:Sg) (o:Opr):Prop where
 dl:1<=o.decls.length
 fa:(first o).args.length<=3
 args:∀x∈(first o).args,0<=x/\x<nS s
 res:0<=(first o).result/\(first o).result<nS s
 u0:0<=o.unit
 u1:o.unit<=s.ops.length
 two:o.assoc=true\/o.comm=true\/o.unit≠0->(first o).args.length=2
 un:o.unit≠0->∃u,ix s.ops (o.unit-1)=some u/\(first u).args.length=0
theorem opOk {s:Sg} (h:sigF s=true) {o:Opr} (ho:o∈s.ops):OpOk s o:=by
 obtain⟨h1,h2⟩:=sigF_parts h
 obtain⟨h3,h4⟩:=h2 o ho
 obtain⟨d1,d2,d3,d4,d5,d6⟩:=declsF_parts h3
 obtain⟨u0,u1⟩:=axF_unit h4
 have two:o.assoc=true\/o.comm=true\/o.unit≠0->(first o).args.length=2:=λhc=>by
  unfold axF at h4
  cases hb:(!o.assoc&&(!o.comm&&decide (o.unit=0)))with
  | true =>
   simp only[bA,Bool.not_eq_true',decide_eq_true_eq]at hb
   obtain⟨b1,b2,b3⟩:=hb
   rw[b1,b2]at hc
   simp[b3]at hc
  | false =>
   rw[hb,cF]at h4
   simp only[bA,decide_eq_true_eq]at h4
   exact h4.1
 refine⟨d1,d3,λx hx=>inN_iff.1 (d6 x hx),inN_iff.1 d5,u0,u1,two,λhu=> ?_⟩
 unfold axF at h4
 cases hb:(!o.assoc&&(!o.comm&&decide (o.unit=0)))with
 | true =>
  simp only[bA,decide_eq_true_eq]at hb
  exact absurd hb.2.2 hu
 | false =>
  rw[hb,cF]at h4
  simp only[bA,decide_eq_true_eq]at h4
  have h5:=h4.2.2.2.2.2
  rw[dF hu,cF]at h5
  split at h5
  ·rename_i u hu2
   simp only[bA,decide_eq_true_eq]at h5
   exact⟨u,hu2,h5.1⟩
  ·cases h5
theorem kS_len (s:Sg):(kS s).length=nS s:=kindI_len _ _
theorem sigF_pre {s:Sg} (h:sigF s=true):preS s.sorts=true:=by
 unfold sigF at h
 simp only[bA]at h
 exact(sortsF_parts h.1).2.2.2.2
theorem ix_mem {α:Type} {xs:List α} {i:Int} {x:α} (h:ix xs i=some x):x∈xs/\0<=i/\i<xs.length/\xs[i.toNat]? =some x:=by
 unfold ix at h
 cases hb:decide (0<=i)with
 |false=>rw[hb]at h;cases h
 | true =>
  rw[hb]at h
  have h0:0<=i:=of_decide_eq_true hb
  have h:xs[i.toNat]? =some x:=h
  obtain⟨hlt,_⟩:=gI.1 h
  exact⟨mG h,h0,by omega,h⟩
theorem unit_flat {s:Sg} (h:sigF s=true) {o u:Opr} (ho:OpOk s o) (hu:o.unit≠0) (hx:ix s.ops (o.unit-1)=some u):(first u).args.length=0/\u.assoc=false:=by
 obtain⟨u',h1,h2⟩:=ho.un hu
 rw[hx]at h1
 cases h1
 refine⟨h2,?_⟩
 have hk:=opOk h (ix_mem hx).1
 cases ha:u.assoc with
 |false=>rfl
 |true=>have:=hk.two (.inl ha);omega
inductive Good (s:Sg):Tm->Prop
 |var {name:ByteArray} {sort:Int} (h1:0<=sort) (h2:sort<nS s) (h3:nameF name=true):Good s (Tm.mk (-1) name sort [])
 |app {op:Int} {o:Opr} {args:List Tm} (ho:ix s.ops op=some o) (hn:if o.assoc=true then 2<=args.length else args.length=(first o).args.length) (ha:∀a∈args,Good s a):Good s (Tm.mk op ByteArray.empty 0 args)
theorem Good.args {s:Sg} {t:Tm} (h:Good s t):∀a∈t.args,Good s a:=by
 cases h with
 |var=>intro a ha;simp at ha
 |app _ _ ha=>exact ha
def Kn (s:Sg) (t:Tm):Prop:=(t.op= -1/\0<=t.sort/\t.sort<nS s)\/∃o,ix s.ops t.op=some o
theorem Good.kn {s:Sg} {t:Tm} (h:Good s t):Kn s t:=by
 cases h with
 |var h1 h2 h3=>exact .inl ⟨rfl,h1,h2⟩
 |app ho _ _=>exact .inr ⟨_,ho⟩
def kindV (s:Sg) (t:Tm):Int:=if t.op= -1 then getI (kS s) t.sort else match ix s.ops t.op with
 |some o=>getI (kS s) (first o).result
 |none=>0
theorem kS_ix {s:Sg} {i:Int} (h0:0<=i) (h1:i<nS s):ix (kS s) i=some (getI (kS s) i):=getI_ix h0 (by rw[kS_len];exact h1)
abbrev Mp :=List (ByteArray×Int)
def Alg (kd:List Int) (nm:List ByteArray) (sb:List Sb) (ops:List Opr):Prop:=sigF ⟨⟨nm,sb⟩,ops⟩=true/\kd=kindI nm.length sb
noncomputable def gKindI:List Int->List Int->List Int->List ByteArray->List Sb->List Opr->Mp->Tm->Option (Int×Mp):=λ_ _ kd nm sb ops m t=>if Alg kd nm sb ops/\Kn ⟨⟨nm,sb⟩,ops⟩ t then some (kindV ⟨⟨nm,sb⟩,ops⟩ t,m)else none
theorem kindOf_ok :EO (z0p.ent gKindI):=z0p.ok (G:=⟨()⟩) trivial λab be kd nm sb ops m t r h=>by
 unfold gKindI at h
 split at h
 ·rename_i hs
  cases h
  obtain⟨⟨h1,rfl⟩,h2⟩:=hs
  refine⟨1,?_⟩
  unfold z0p.main kindV
  rcases h2 with⟨h2,h3,h4⟩|⟨o,ho⟩
  ·rw[h2,if_pos rfl,dT (by decide),cT]
   have:=kS_ix (s:=⟨⟨nm,sb⟩,ops⟩) h3 h4
   rw[this,bS]
  ·obtain⟨m1,m2,m3,_⟩:=ix_mem ho
   have hk:=opOk h1 m1
   have:=kS_ix (s:=⟨⟨nm,sb⟩,ops⟩) hk.res.1 hk.res.2
   have ho':ix ops t.op=some o:=ho
   rw[if_neg (by omega),dF (by omega),cF,ho',bS,first_ix hk.dl,bS,this,bS]
 ·cases h
noncomputable def gKindS:Sg->Tm->Option Int:=λs t=>if sigF s=true/\Kn s t then some (kindV s t)else none
theorem l6Kind_ok :EO (z3v.ent gKindS):=z3v.ok (G:=⟨gKinds⟩) ⟨l3Kinds_ok,trivial⟩ λs t r h=>by
 unfold gKindS at h
 split at h
 ·rename_i hs
  cases h
  obtain⟨h1,h2⟩:=hs
  refine⟨1,?_⟩
  unfold z3v.main kindV
  show Option.bind (gKinds s.sorts) _=_
  unfold gKinds
  rw[if_pos (sigF_pre h1),bS]
  rcases h2 with⟨h2,h3,h4⟩|⟨o,ho⟩
  ·rw[h2,if_pos rfl,dT rfl,cT]
   rw[kS_ix h3 h4,bS]
  ·obtain⟨m1,m2,m3,_⟩:=ix_mem ho
   have hk:=opOk h1 m1
   rw[if_neg (by omega),dF (by omega),cF,ho,bS,first_ix hk.dl,bS,kS_ix hk.res.1 hk.res.2,bS]
 ·cases h
def atI (o:Opr) (i:Int):Int:=if o.assoc=true then 0 else i
def argK (s:Sg) (o:Opr) (i:Int):Int:=getI (kS s) (getI (first o).args (atI o i))
noncomputable def gArgK:List Int->List Int->List Int->List ByteArray->List Sb->List Opr->Mp->Int->Int->Option (Int×Mp):=λ_ _ kd nm sb ops m op i=>if Alg kd nm sb ops/\∃o,ix ops op=some o/\0<=atI o i/\atI o i<(first o).args.length then some (argK ⟨⟨nm,sb⟩,ops⟩ ((ix ops op).getD ⟨ByteArray.empty,[],false,false,0⟩) i,m)else none
theorem arg_ix {s:Sg} {o:Opr} (hk:OpOk s o) {i:Int} (h0:0<=i) (h1:i<(first o).args.length):ix (first o).args i=some (getI (first o).args i)/\0<=getI (first o).args i/\getI (first o).args i<nS s:=
 ⟨getI_ix h0 h1,hk.args _ (getI_mem h0 h1)⟩
theorem argKind_ok :EO (z0j.ent gArgK):=z0j.ok (G:=⟨()⟩) trivial λab be kd nm sb ops m op i r h=>by
 unfold gArgK at h
 split at h
 ·rename_i hs
  obtain⟨⟨h1,rfl⟩,o,ho,h2,h3⟩:=hs
  rw[ho]at h
  cases h
  have hk:=opOk h1 (ix_mem ho).1
  obtain⟨a1,a2,a3⟩:=arg_ix hk h2 h3
  have a4:=kS_ix (s:=⟨⟨nm,sb⟩,ops⟩) a2 a3
  refine⟨1,?_⟩
  unfold z0j.main argK
  rw[ho,bS,Option.getD_some]
  unfold atI at a1 a4 ⊢
  cases ha:o.assoc with
  | true =>
   rw[ha,if_pos rfl]at a1 a4
   rw[cT,if_pos rfl]
   unfold z0j.c4
   rw[first_ix hk.dl,bS,a1,bS,a4,bS]
  | false =>
   rw[ha,if_neg (by decide)]at a1 a4
   rw[cF,if_neg (by decide)]
   unfold z0j.c4
   rw[first_ix hk.dl,bS,a1,bS,a4,bS]
 ·cases h
def isUn (o:Opr) (t:Tm):Bool:= !decide (o.unit=0)&&decide (t.op=o.unit-1)
def unT (o:Opr):Tm:=Tm.mk (o.unit-1) ByteArray.empty 0 []
noncomputable def gIsU:List Int->List Int->List Int->List ByteArray->List Sb->List Opr->Mp->Int->Tm->Option (Bool×Mp):=λ_ _ kd nm sb ops m op t=>if Alg kd nm sb ops then (ix ops op).map (λo=>(isUn o t,m))else none
theorem isUnit_ok :EO (z0n.ent gIsU):=z0n.ok (G:=⟨()⟩) trivial λab be kd nm sb ops m op t r h=>by
 unfold gIsU at h
 split at h
 ·rename_i hs
  obtain⟨o,ho,rfl⟩:=Option.map_eq_some_iff.1 h
  have hk:=opOk hs.1 (ix_mem ho).1
  have hu1:=hk.u1
  have hol:ops.length<=14:=(sigF_parts hs.1).1
  refine⟨1,?_⟩
  unfold z0n.main isUn
  rw[ho,bS]
  by_cases hu:o.unit=0
  ·rw[dT hu];rfl
  ·have:o.unit<=(ops.length:Int):=hu1
   rw[dF hu,Bool.not_false,cT,bS,Bool.true_and,wr_in (x:=o.unit-1) (by have:=hk.u0;omega)]
 ·cases h
noncomputable def gUnO:List Int->List Int->List Int->List ByteArray->List Sb->List Opr->Mp->Int->Option (Tm×Mp):=λ_ _ kd nm sb ops m op=>if Alg kd nm sb ops then (ix ops op).map (λo=>(unT o,m))else none
theorem unitOf_ok :EO (z0q.ent gUnO):=z0q.ok (G:=⟨()⟩) trivial λab be kd nm sb ops m op r h=>by
 unfold gUnO at h
 split at h
 ·rename_i hs
  obtain⟨o,ho,rfl⟩:=Option.map_eq_some_iff.1 h
  have hk:=opOk hs.1 (ix_mem ho).1
  have hu1:=hk.u1
  have hol:ops.length<=14:=(sigF_parts hs.1).1
  have:o.unit<=(ops.length:Int):=hu1
  refine⟨1,?_⟩
  unfold z0q.main unT
  rw[ho,bS,wr_in (x:=o.unit-1) (by have:=hk.u0;omega)]
 ·cases h
noncomputable def gUnS:Sg->Int->Option (Tm×Bool):=λs op=>if sigF s=true then (ix s.ops op).map (λo=>if o.unit=0 then (Tm.mk 0 ByteArray.empty 0 [],false)else (unT o,true))else none
theorem l6Unit_ok :EO (z42.ent gUnS):=z42.ok (G:=⟨()⟩) trivial λs op r h=>by
 unfold gUnS at h
 split at h
 ·rename_i hs
  obtain⟨o,ho,rfl⟩:=Option.map_eq_some_iff.1 h
  have hk:=opOk hs (ix_mem ho).1
  have hu1:=hk.u1
  have hol:s.ops.length<=14:=(sigF_parts hs).1
  refine⟨1,?_⟩
  unfold z42.main
  rw[ho,bS]
  by_cases hu:o.unit=0
  ·rw[dT hu,cT,if_pos hu]
  ·rw[dF hu,cF,bS,if_neg hu,wr_in (x:=o.unit-1) (by have:=hk.u0;omega)]
   rfl
 ·cases h
noncomputable def gVar:List Int->List Int->List Int->List ByteArray->List Sb->List Opr->Mp->Tm->Option (Bool×Mp):=λab _ _ _ _ _ m t=>if t.op= -1 then some (nameF t.name&&(inN ab.length t.sort&&decide (t.args.length=0)),m)else none
theorem isVariable_ok :EO (z0o.ent gVar):=z0o.ok (G:=⟨gName,gHas⟩) ⟨z0a,orderHas_ok,trivial⟩ λab be kd nm sb ops m t r h=>by
 unfold gVar at h
 split at h
 ·rename_i hs
  cases h
  refine⟨1,?_⟩
  unfold z0o.main
  rw[dT hs,cT]
  show Option.bind (gName t.name) _=_
  rw[bS]
  cases hn:nameF t.name with
  |false=>rfl
  | true =>
   rw[cT]
   show Option.bind (gHas ⟨ab,be,kd⟩ t.sort) _=_
   rw[bS]
   cases hi:inN ab.length t.sort with
   |false=>rfl
   | true =>
    rw[cT,show decide ((t.args.length:Int)=0)=decide (t.args.length=0)from decide_eq_decide.2 (by omega)]
    rfl
 ·cases h
abbrev Zt :Tm:=Tm.mk 0 ByteArray.empty 0 []
def addT (o:Opr) (op:Int) (l:List Tm) (x:Tm):List Tm:=if o.assoc=true/\x.op=op then l++x.args else if isUn o x=true then l else l++[x]
def flatT (s:Sg) (o:Opr) (op:Int):Int->List Tm->List Tm->Option (List Tm)
 |_,[],acc=>some acc
 |i,x::xs,acc=>if kindV s x=argK s o i then flatT s o op (i+1) xs (addT o op acc x)else none
def lateT (o:Opr) (op:Int) (l:List Tm):Tm:=Tm.mk op ByteArray.empty 0 (if o.comm=true then sortT l else l)
def smallT (o:Opr) (l:List Tm) (t:Tm):Option Tm:=if (o.assoc=true/\7<l.length)\/60<tsz t\/20<tdp t then none else some t
def oneT (o:Opr) (l:List Tm):Tm:=match l with
 |[x]=>x
 |_=>unT o
def arOk (o:Opr) (args:List Tm):Prop:=if o.assoc=true then 2<=args.length else args.length=(first o).args.length
instance (o : Opr) (args : List Tm) : Decidable (arOk o args) := by unfold arOk; exact inferInstance
def buildF (s:Sg) (o:Opr) (op:Int) (args:List Tm):Option Tm:=if arOk o args then (flatT s o op 0 args []).bind λl=>if o.unit≠0/\l.length<2 then some (oneT o l)else smallT o l (lateT o op l)else none
theorem tot_app (a b:List Tm):tmTotals (a++b)=tmTotals a+tmTotals b:=by unfold tmTotals;simp;omega
theorem addT_total (o:Opr) (op:Int) (l:List Tm) (x:Tm):tmTotals (addT o op l x)<=tmTotals l+(1+x.total):=by
 unfold addT
 have ht:=total_args x
 split
 ·rw[tot_app];omega
 ·split
  ·omega
  ·rw[tot_app,tmT_cons,tmT_nil];omega
theorem flat_total {s:Sg} {o:Opr} {op:Int}:∀{xs:List Tm} {i:Int} {acc l:List Tm},flatT s o op i xs acc=some l->tmTotals l<=tmTotals acc+tmTotals xs
 |[],_,_,_,h=>by cases h;rw[tmT_nil];omega
 | x :: xs, i, acc, l, h => by
  unfold flatT at h
  split at h
  ·have:=flat_total h
   have:=addT_total o op acc x
   rw[tmT_cons]
   omega
  ·cases h
theorem flatT_len {s:Sg} {o:Opr} {op:Int} (hna:o.assoc=false):∀{xs:List Tm} {i:Int} {acc l:List Tm},flatT s o op i xs acc=some l->l.length<=acc.length+xs.length
 |[],_,_,_,h=>by cases h;simp
 | x :: xs, i, acc, l, h => by
  unfold flatT at h
  split at h
  ·have:=flatT_len hna h
   have:(addT o op acc x).length<=acc.length+1:=by
    unfold addT
    rw[hna,if_neg (by simp)]
    split
    ·omega
    ·simp
   simp only[List.length_cons]
   omega
  ·cases h
theorem un_same {s:Sg} (h:sigF s=true) {o:Opr} {op:Int} (ho:ix s.ops op=some o) (hu:o.unit≠0) {x:Tm} (hx:Good s x):(cmpT x (unT o)=0↔x.op=o.unit-1)/\(x.op=o.unit-1->¬(o.assoc=true/\x.op=op)):=by
 have hk:=opOk h (ix_mem ho).1
 obtain⟨u,u1,u2⟩:=hk.un hu
 obtain⟨u3,u4⟩:=unit_flat h hk hu u1
 refine⟨⟨λhc=> ?_,λhc=> ?_⟩,λhc ⟨h1,h2⟩=> ?_⟩
 ·rw[cmpT_eq]at hc
  unfold cmpN at hc
  by_cases h1:cmpI x.op (unT o).op=0
  ·exact cmpI_zero h1
  ·rw[if_neg h1]at hc;exact absurd hc h1
 ·have:x=unT o:=by
   cases hx with
   | var h1 h2 h3 =>
    have hc:(-1:Int)=o.unit-1:=hc
    have:=hk.u0
    omega
   | @app op' o' args ho' hn ha=>
    have hc:op'=o.unit-1:=hc
    subst hc
    rw[u1]at ho'
    cases ho'
    rw[u4,if_neg (by decide),u3]at hn
    rw[nZ hn]
    rfl
  rw[this]
  exact cmpT_self _ _ (Nat.lt_succ_self _)
 ·rw[hc]at h2
  rw[<-h2,u1]at ho
  cases ho
  rw[u4]at h1
  cases h1
section
variable {R : Type}
def outT (r:Option Tm) (k0:Bool->Int->ByteArray->Int->List Tm->Option R):Option R:=match r with
 |some t=>k0 true t.op t.name t.sort t.args
 |none=>k0 false 0 ByteArray.empty 0 []
end
noncomputable abbrev GB:z0k.Gs:={z0p:=gKindI,z0j:=gArgK,z0n:=gIsU,z0q:=gUnO,z4d:=gSS 4294967296 (1073741824+1),z0h:=gSz 4294967296,z06:=gDp 4294967296}
section
variable {R : Type} {kd ab be : List Int} {nm : List ByteArray} {sb : List Sb} {ops : List Opr} {op : Int} {o : Opr} (hA : Alg kd nm sb ops) (ho : ix ops op = some o)
theorem b_c21 (n:Nat) (m:Mp) (h2 h23:Int) (h22:ByteArray) (h3:List Tm) (o:Opr) (r:List Tm) (hr:tmTotals r<4294967296) (k0:Bool->Int->ByteArray->Int->List Tm->Option R):
  z0k.c21 GB n ab be kd nm sb ops op m h2 h22 h23 h3 o.name o.decls o.assoc o.comm o.unit r k0=outT (smallT o r (Tm.mk op ByteArray.empty 0 r)) k0:=by
 have ht:(Tm.mk op ByteArray.empty 0 r).total<4294967296:=by
  rw[total_args]
  show ByteArray.empty.size+tmTotals r<4294967296
  have:ByteArray.empty.size=0:=rfl
  omega
 have e1:gSz 4294967296 (Tm.mk op ByteArray.empty 0 r)=some (tsz (Tm.mk op ByteArray.empty 0 r):Int):=if_pos ht
 have e2:gDp 4294967296 (Tm.mk op ByteArray.empty 0 r)=some (tdp (Tm.mk op ByteArray.empty 0 r):Int):=if_pos ht
 have tail:(Option.bind (gSz 4294967296 (Tm.mk op ByteArray.empty 0 r)) λz=>bif decide (60<z)then (k0 false 0 ByteArray.empty 0 [])else Option.bind (gDp 4294967296 (Tm.mk op ByteArray.empty 0 r)) λz2=>bif decide (20<z2)then (k0 false 0 ByteArray.empty 0 [])else k0 true op ByteArray.empty 0 r)=outT (if 60<tsz (Tm.mk op ByteArray.empty 0 r)\/20<tdp (Tm.mk op ByteArray.empty 0 r)then none else some (Tm.mk op ByteArray.empty 0 r)) k0:=by
  rw[e1,bS]
  by_cases c1:60<tsz (Tm.mk op ByteArray.empty 0 r)
  ·rw[dT (by omega),cT,if_pos (.inl c1)];rfl
  ·rw[dF (by omega),cF,e2,bS]
   by_cases c2:20<tdp (Tm.mk op ByteArray.empty 0 r)
   ·rw[dT (by omega),cT,if_pos (.inr c2)];rfl
   ·rw[dF (by omega),cF,if_neg (by omega)];rfl
 unfold z0k.c21 smallT
 cases ha:o.assoc with
 | true =>
  rw[cT]
  by_cases c:7<r.length
  ·rw[dT (by omega),cT,if_pos (.inl ⟨rfl,c⟩)];rfl
  ·rw[dF (by omega),cF]
   refine tail.trans ?_
   congr 1
   by_cases d:60<tsz (Tm.mk op ByteArray.empty 0 r)\/20<tdp (Tm.mk op ByteArray.empty 0 r)
   ·rw[if_pos d,if_pos (.inr d)]
   ·rw[if_neg d,if_neg (λq=>q.elim (λq=>c q.2) d)]
 | false =>
  rw[cF]
  refine tail.trans ?_
  congr 1
  by_cases d:60<tsz (Tm.mk op ByteArray.empty 0 r)\/20<tdp (Tm.mk op ByteArray.empty 0 r)
  ·rw[if_pos d,if_pos (.inr d)]
  ·rw[if_neg d,if_neg (λq=>q.elim (λq=>by cases q.1) d)]
theorem b_c19 (n:Nat) (m:Mp) (h2 h23:Int) (h22:ByteArray) (h3:List Tm) (o:Opr) (l:List Tm) (hl:tmTotals l<1073741824) (hna:o.assoc=false->l.length<20) (k0:Bool->Int->ByteArray->Int->List Tm->Option R):
  z0k.c19 GB n ab be kd nm sb ops op m h2 h22 h23 h3 o.name o.decls o.assoc o.comm o.unit l k0=outT (smallT o l (lateT o op l)) k0:=by
 have hll:=tmT_len l
 unfold z0k.c19
 cases hc:o.comm with
 | false =>
  rw[cF]
  have e:=b_c21 (R:=R) (kd:=kd) (ab:=ab) (be:=be) (nm:=nm) (sb:=sb) (ops:=ops) (op:=op) n m h2 h23 h22 h3 o l (by omega) k0
  rw[hc]at e
  refine e.trans ?_
  unfold lateT
  rw[hc,if_neg (by decide)]
 | true =>
  rw[cT]
  obtain⟨r,r1,r2,r3⟩:=gSS_ex (K:=4294967296) (k:=1073741824+1) (h:=l) (λx hx=>by have:=tmT_mem hx;omega) (by omega) (by omega)
  show Option.bind (gSS 4294967296 (1073741824+1) l) _=_
  rw[r1,bS]
  by_cases c:l.length<20
  ·have:=r3 c
   subst this
   have e:=b_c21 (R:=R) (kd:=kd) (ab:=ab) (be:=be) (nm:=nm) (sb:=sb) (ops:=ops) (op:=op) n m h2 h23 h22 h3 o (sortT l) (by rw[sortT_total];omega) k0
   rw[hc]at e
   refine e.trans ?_
   unfold lateT smallT
   rw[hc,if_pos rfl,sortT_len]
  ·have ha:o.assoc=true:=by
    cases h:o.assoc with
    |true=>rfl
    |false=>exact absurd (hna h) c
   unfold z0k.c21 smallT
   rw[ha,cT,dT (by have:=r2.1;omega),cT,if_pos (.inl ⟨rfl,by omega⟩)]
   rfl
include hA ho
theorem b_loop (n:Nat) (args:List Tm) (hg:∀a∈args,Good ⟨⟨nm,sb⟩,ops⟩ a) (hb:tmTotals args<1073741824) (har:arOk o args) (m:Mp) (h2 h23:Int) (h22:ByteArray) (h3:List Tm) (k0:Bool->Mp->Int->ByteArray->Int->List Tm->Option R) (k1:Mp->List Tm->Option R):∀f i acc,i<=args.length->tmTotals acc+tmTotals (args.drop i)<1073741824->args.length-i<f->
  z0k.l6 GB n f ab be kd nm sb ops op args (args.length:Int) h2 h22 h23 h3 o.name o.decls o.assoc o.comm o.unit (i:Int) m acc k0 k1=match flatT ⟨⟨nm,sb⟩,ops⟩ o op (i:Int) (args.drop i) acc with
   |some l=>k1 m l
   |none=>k0 false m 0 ByteArray.empty 0 []:=by
 have hk:=opOk hA.1 (ix_mem (xs:=ops) ho).1
 have hal:=tmT_len args
 intro f
 induction f with
 |zero=>intro i _ _ _ hm;omega
 | succ f ih =>
  intro i acc h1 hacc hm
  show z0k.b6 GB n ab be kd nm sb ops op args (args.length:Int) h2 h22 h23 h3 o.name o.decls o.assoc o.comm o.unit (i:Int) m acc (λy0 y1 y2=>z0k.l6 GB n f ab be kd nm sb ops op args (args.length:Int) h2 h22 h23 h3 o.name o.decls o.assoc o.comm o.unit y0 y1 y2 k0 k1) k0 k1=_
  unfold z0k.b6
  by_cases hi:i<args.length
  ·obtain⟨x,x1,x2⟩:=get_lt hi
   have gx:=hg x x2
   rw[drop_get x1,tmT_cons]at hacc
   have hat:0<=atI o (i:Int)/\atI o (i:Int)<(first o).args.length:=by
    unfold atI arOk at*
    cases ha:o.assoc with
    |true=>have:=hk.two (.inl ha);rw[if_pos rfl];omega
    |false=>rw[ha,if_neg (by decide)]at har;rw[if_neg (by decide)];omega
   have e1:gKindI ab be kd nm sb ops m x=some (kindV ⟨⟨nm,sb⟩,ops⟩ x,m):=if_pos ⟨hA,gx.kn⟩
   have e2:gArgK ab be kd nm sb ops m op (i:Int)=some (argK ⟨⟨nm,sb⟩,ops⟩ o (i:Int),m):=by
    unfold gArgK
    rw[if_pos ⟨hA,o,ho,hat⟩,ho]
    rfl
   rw[lt_nat hi,cT,ix_get x1,bS,Tm.eta,drop_get x1]
   show Option.bind (gKindI ab be kd nm sb ops m x) _=_
   rw[e1,bS]
   show Option.bind (gArgK ab be kd nm sb ops m op (i:Int)) _=_
   rw[e2,bS]
   unfold flatT
   by_cases hkd:kindV ⟨⟨nm,sb⟩,ops⟩ x=argK ⟨⟨nm,sb⟩,ops⟩ o (i:Int)
   ·rw [decide_eq_true hkd, Bool.not_true, cond_false, if_pos hkd]
    have next:∀acc',acc'=addT o op acc x->tmTotals acc'<1073741824->z0k.l6 GB n f ab be kd nm sb ops op args (args.length:Int) h2 h22 h23 h3 o.name o.decls o.assoc o.comm o.unit (wr ((i:Int)+1)) m acc' k0 k1=match flatT ⟨⟨nm,sb⟩,ops⟩ o op ((i:Int)+1) (args.drop (i+1)) (addT o op acc x)with
      |some l=>k1 m l
      |none=>k0 false m 0 ByteArray.empty 0 []:=λacc' he _=>by
     subst he
     have:=addT_total o op acc x
     rw[wr_one (by omega)]
     exact ih (i+1) _ hi (by omega) (by omega)
    have c12:¬(o.assoc=true/\x.op=op)->z0k.c12 GB n ab be kd nm sb ops op args (args.length:Int) (i:Int) m h2 h22 h23 h3 o.name o.decls o.assoc o.comm o.unit acc x.op x.name x.sort x.args (λh12 h52=>z0k.l6 GB n f ab be kd nm sb ops op args (args.length:Int) h2 h22 h23 h3 o.name o.decls o.assoc o.comm o.unit (wr ((i:Int)+1)) h12 h52 k0 k1)=match flatT ⟨⟨nm,sb⟩,ops⟩ o op ((i:Int)+1) (args.drop (i+1)) (addT o op acc x)with
      |some l=>k1 m l
      |none=>k0 false m 0 ByteArray.empty 0 []:=λhno=>by
     unfold z0k.c12
     rw[Tm.eta]
     have e3:gIsU ab be kd nm sb ops m op x=some (isUn o x,m):=by
      unfold gIsU
      rw[if_pos hA,ho]
      rfl
     show Option.bind (gIsU ab be kd nm sb ops m op x) _=_
     rw[e3,bS]
     have hadd:addT o op acc x=if isUn o x=true then acc else acc++[x]:=if_neg hno
     have htl:=addT_total o op acc x
     have hll:=tmT_len (addT o op acc x)
     cases hu:isUn o x with
     | true =>
      rw[hu,if_pos rfl]at hadd
      exact next acc hadd.symm (by omega)
     | false =>
      rw[hu,if_neg (by decide)]at hadd
      rw[hadd]at hll htl
      show Option.bind (lim (acc++[x])) _=_
      rw[lim_le (by omega),bS]
      exact next (acc++[x]) hadd.symm (by omega)
    cases ha:o.assoc with
    | false =>
     rw[cF]
     have:=c12 (by rw[ha];simp)
     rw[ha]at this
     exact this
    | true =>
     rw[cT]
     by_cases hop:x.op=op
     ·rw[dT hop,cT]
      have hadd:addT o op acc x=acc++x.args:=if_pos ⟨ha,hop⟩
      have htl:=addT_total o op acc x
      have hll:=tmT_len (addT o op acc x)
      rw[hadd]at hll htl
      rw[lim_le (by omega),bS]
      have:=next (acc++x.args) hadd.symm (by omega)
      rw[ha]at this
      exact this
     ·rw[dF hop,cF]
      have:=c12 (by rw[ha];simp[hop])
      rw[ha]at this
      exact this
   ·rw[dF hkd,Bool.not_false,cT,if_neg hkd]
  ·obtain rfl:i=args.length:=by omega
   rw[nlt_nat hi,cF,drop_nat]
   rfl
theorem b_c4 (n:Nat) (args:List Tm) (hg:∀a∈args,Good ⟨⟨nm,sb⟩,ops⟩ a) (hb:tmTotals args<1073741824) (har:arOk o args) (hn:args.length<n) (m:Mp) (h2 h23:Int) (h22:ByteArray) (h3:List Tm) (k0:Bool->Mp->Int->ByteArray->Int->List Tm->Option R):
  z0k.c4 GB n ab be kd nm sb ops op args m h2 h22 h23 h3 o.name o.decls o.assoc o.comm o.unit k0=outT (buildF ⟨⟨nm,sb⟩,ops⟩ o op args) (λt7 a b c d=>k0 t7 m a b c d):=by
 have hk:=opOk hA.1 (ix_mem (xs:=ops) ho).1
 unfold z0k.c4 buildF
 rw[if_pos har]
 have e := b_loop (R := R) (ab := ab) (be := be) hA ho n args hg hb har m h2 h23 h22 h3 k0 (fun h122 h52 =>
   bif !decide (o.unit=0)then
    (bif decide ((List.length h52 : Int) < 2) then
     (bif decide ((List.length h52 : Int) = 1) then
      (Option.bind (ix h52 0) λe=>k0 true h122 (Tm.op e) (Tm.name e) (Tm.sort e) (Tm.args e))
     else
      Option.bind (gUnO ab be kd nm sb ops h122 op) λr=>k0 true r.2 (Tm.op r.1) (Tm.name r.1) (Tm.sort r.1) (Tm.args r.1))
    else
     z0k.c19 GB n ab be kd nm sb ops op h122 h2 h22 h23 h3 o.name o.decls o.assoc o.comm o.unit h52 (λt72 h242 h252 h262 h272=>k0 t72 h122 h242 h252 h262 h272))
   else
    z0k.c19 GB n ab be kd nm sb ops op h122 h2 h22 h23 h3 o.name o.decls o.assoc o.comm o.unit h52 (λt73 h243 h253 h263 h273=>k0 t73 h122 h243 h253 h263 h273)) n 0 [] (by omega) (by simp[tmT_nil];exact hb) (by omega)
 simp only[List.drop_zero]at e
 refine e.trans ?_
 show (match flatT ⟨⟨nm,sb⟩,ops⟩ o op 0 args []with
  |some l=>_
  |none=>_)=_
 cases hf:flatT ⟨⟨nm,sb⟩,ops⟩ o op 0 args []with
 |none=>rfl
 | some l =>
  have ht:=flat_total hf
  rw[tmT_nil]at ht
  have hna:o.assoc=false->l.length<20:=λha=>by
   have:=flatT_len ha hf
   unfold arOk at har
   rw[ha,if_neg (by decide)]at har
   have:=hk.fa
   simp only[List.length_nil]at*
   omega
  simp only[bS]
  by_cases hu:o.unit=0
  ·rw[dT hu,Bool.not_true,cF,if_neg (by simp[hu])]
   exact b_c19 (R:=R) n m h2 h23 h22 h3 o l (by omega) hna _
  ·rw [decide_eq_false hu, Bool.not_false, cond_true]
   by_cases hl:l.length<2
   ·rw [decide_eq_true (by omega), cond_true, if_pos ⟨hu, hl⟩]
    match l,hl with
    |[x],_=>rfl
    | [], _ =>
     have e2:gUnO ab be kd nm sb ops m op=some (unT o,m):=by
      unfold gUnO
      rw[if_pos hA,ho]
      rfl
     show Option.bind (gUnO ab be kd nm sb ops m op) _=_
     rw[e2]
     rfl
   ·rw[dF (by omega),cF,if_neg (by omega)]
    exact b_c19 (R:=R) n m h2 h23 h22 h3 o l (by omega) hna _
end
theorem b_main {R:Type} {kd ab be:List Int} {nm:List ByteArray} {sb:List Sb} {ops:List Opr} {op:Int} {o:Opr} (hA:Alg kd nm sb ops) (ho:ix ops op=some o) (args:List Tm) (hg:∀a∈args,Good ⟨⟨nm,sb⟩,ops⟩ a) (hb:tmTotals args<1073741824) (m:Mp) (K:Tm->Bool->Mp->Option R):
  z0k.main GB (args.length+1) ab be kd nm sb ops m op args K=K ((buildF ⟨⟨nm,sb⟩,ops⟩ o op args).getD Zt) (buildF ⟨⟨nm,sb⟩,ops⟩ o op args).isSome m:=by
 have hk:=opOk hA.1 (ix_mem (xs:=ops) ho).1
 unfold z0k.main
 rw[ho,bS]
 have fin:arOk o args->z0k.c4 GB (args.length+1) ab be kd nm sb ops op args m 0 ByteArray.empty 0 [] o.name o.decls o.assoc o.comm o.unit (λt7 h12 h24 h25 h26 h27=>K (Tm.mk h24 h25 h26 h27) t7 h12)=K ((buildF ⟨⟨nm,sb⟩,ops⟩ o op args).getD Zt) (buildF ⟨⟨nm,sb⟩,ops⟩ o op args).isSome m:=λhar=>by
  rw[b_c4 hA ho (args.length+1) args hg hb har (by omega)]
  cases buildF ⟨⟨nm,sb⟩,ops⟩ o op args with
  |none=>rfl
  |some t=>show K (Tm.mk t.op t.name t.sort t.args) true m=_;rw[Tm.eta];rfl
 have bad:¬arOk o args->K Zt false m=K ((buildF ⟨⟨nm,sb⟩,ops⟩ o op args).getD Zt) (buildF ⟨⟨nm,sb⟩,ops⟩ o op args).isSome m:=λhar=>by
  unfold buildF
  rw[if_neg har];rfl
 cases ha:o.assoc with
 | true =>
  rw[ha]at fin
  rw[cT]
  by_cases hl:args.length<2
  ·rw[dT (by omega),cT]
   exact bad (by unfold arOk;rw[ha,if_pos rfl];omega)
  ·rw[dF (by omega),cF,Bool.not_true,cF]
   exact fin (by unfold arOk;rw[ha,if_pos rfl];omega)
 | false =>
  rw[ha]at fin
  rw[cF,Bool.not_false,cT,first_ix hk.dl,bS]
  by_cases hl:args.length=(first o).args.length
  ·rw[dT (by omega),Bool.not_true,cF]
   exact fin (by unfold arOk;rw[ha,if_neg (by decide)];exact hl)
  ·rw[dF (by omega),Bool.not_false,cT]
   exact bad (by unfold arOk;rw[ha,if_neg (by decide)];exact hl)
noncomputable def gBuild:List Int->List Int->List Int->List ByteArray->List Sb->List Opr->Mp->Int->List Tm->Option (Tm×Bool×Mp):=λ_ _ kd nm sb ops m op args=>if Alg kd nm sb ops/\(∀a∈args,Good ⟨⟨nm,sb⟩,ops⟩ a)/\tmTotals args<1073741824 then (ix ops op).map (λo=>((buildF ⟨⟨nm,sb⟩,ops⟩ o op args).getD Zt,(buildF ⟨⟨nm,sb⟩,ops⟩ o op args).isSome,m))else none
theorem build_ok :EO (z0k.ent gBuild):=z0k.ok (G:=GB) ⟨kindOf_ok,argKind_ok,isUnit_ok,unitOf_ok,sortStable_ok 4294967296 (1073741824+1) (Nat.le_refl _),z0i 4294967296 (Nat.le_refl _),z07 4294967296 (Nat.le_refl _),trivial⟩ λab be kd nm sb ops m op args r h=>by
 unfold gBuild at h
 split at h
 ·rename_i hs
  obtain⟨hA,hg,hb⟩:=hs
  obtain⟨o,ho,rfl⟩:=Option.map_eq_some_iff.1 h
  refine⟨args.length+1,(b_main (ab:=ab) (be:=be) hA ho args hg hb m _).trans rfl⟩
 ·cases h
def okLate (o:Opr) (l:List Tm) (t:Tm):Bool:=(!o.assoc||decide (l.length<=7))&&(decide (tsz t<=60)&&decide (tdp t<=20))
def makeF (s:Sg) (o:Opr) (op:Int) (args:List Tm):Tm×Bool:=if arOk o args then (match flatT s o op 0 args []with
 |some l=>if o.unit≠0/\l.length<2 then (oneT o l,true)else (lateT o op l,okLate o l (lateT o op l))
 |none=>(Zt,false))else (Zt,false)
theorem okLate_small (o:Opr) (l:List Tm) (t:Tm):smallT o l t=if okLate o l t=true then some t else none:=by
 unfold smallT okLate
 cases ha:o.assoc with
 | true =>
  by_cases h1:l.length<=7
  ·by_cases h2:tsz t<=60
   ·by_cases h3:tdp t<=20
    ·rw[if_neg (by omega),if_pos (by simp[h1,h2,h3])]
    ·rw[if_pos (by omega),if_neg (by simp[h3])]
   ·rw[if_pos (by omega),if_neg (by simp[h2])]
  ·rw[if_pos (.inl ⟨rfl,by omega⟩),if_neg (by simp[h1])]
 | false =>
  by_cases h2:tsz t<=60
  ·by_cases h3:tdp t<=20
   ·rw[if_neg (by simp;omega),if_pos (by simp[h2,h3])]
   ·rw[if_pos (by omega),if_neg (by simp[h3])]
  ·rw[if_pos (by omega),if_neg (by simp[h2])]
theorem makeF_build (s:Sg) (o:Opr) (op:Int) (args:List Tm):(makeF s o op args).2=(buildF s o op args).isSome/\∀t,buildF s o op args=some t->(makeF s o op args).1=t:=by
 unfold makeF buildF
 by_cases ha:arOk o args
 ·rw [if_pos ha, if_pos ha]
  cases hf:flatT s o op 0 args []with
  |none=>exact⟨rfl,λt h=>by cases h⟩
  | some l =>
   simp only[bS]
   by_cases hu:o.unit≠0/\l.length<2
   ·rw[if_pos hu,if_pos hu]
    exact⟨rfl,λt h=>by cases h;rfl⟩
   ·rw[if_neg hu,if_neg hu,okLate_small]
    cases hk:okLate o l (lateT o op l)with
    |true=>rw[if_pos rfl];exact⟨rfl,λt h=>by cases h;rfl⟩
    |false=>rw[if_neg (by decide)];exact⟨rfl,λt h=>by cases h⟩
 ·rw[if_neg ha,if_neg ha]
  exact⟨rfl,λt h=>by cases h⟩
noncomputable abbrev GM:z3x.Gs:={z3e:=gKinds,z3g:=gAr,z42:=gUnS,z3v:=gKindS,z3p:=gSame 4294967296,z3n:=gCp 4294967296,z2z:=gSortS 4294967296,z3m:=gCpS 4294967296,z41:=gSm 4294967296}
def hasU (o:Opr):Bool:= !decide (o.unit=0)
def uOf (o:Opr):Tm:=if o.unit=0 then Zt else unT o
section
variable {R : Type} {nm : List ByteArray} {sb : List Sb} {ops : List Opr} {op : Int} {o : Opr} (hS : sigF ⟨⟨nm, sb⟩, ops⟩ = true) (ho : ix ops op = some o)
include hS ho
theorem m_c13 (n:Nat) (args:List Tm) (i:Nat) (x:Tm) (hx:args[i]? =some x) (gx:Good ⟨⟨nm,sb⟩,ops⟩ x) (hat:0<=atI o (i:Int)/\atI o (i:Int)<(first o).args.length) (h1 h13:Int) (h12:ByteArray) (h2 acc:List Tm) (hb:tmTotals acc+(1+x.total)<1073741824) (k0:Bool->Int->ByteArray->Int->List Tm->Option R) (k1:List Tm->Option R):
  z3x.c13 GM n op args (kindI nm.length sb) (hasU o) (i:Int) (atI o (i:Int)) nm sb ops h1 h12 h13 h2 o.name o.decls o.assoc o.comm o.unit (uOf o).op (uOf o).name (uOf o).sort (uOf o).args acc k0 k1=if kindV ⟨⟨nm,sb⟩,ops⟩ x=argK ⟨⟨nm,sb⟩,ops⟩ o (i:Int)then k1 (addT o op acc x)else k0 false 0 ByteArray.empty 0 []:=by
 have hk:=opOk hS (ix_mem (xs:=ops) ho).1
 obtain⟨a1,a2,a3⟩:=arg_ix hk hat.1 hat.2
 have a4:=kS_ix (s:=⟨⟨nm,sb⟩,ops⟩) a2 a3
 have a4':ix (kindI nm.length sb) (getI (first o).args (atI o (i:Int)))=some (argK ⟨⟨nm,sb⟩,ops⟩ o (i:Int)):=a4
 have htl:=addT_total o op acc x
 have hll:=tmT_len (addT o op acc x)
 unfold z3x.c13
 rw[ix_get hx,bS,Tm.eta]
 have e1:gKindS ⟨⟨nm,sb⟩,ops⟩ x=some (kindV ⟨⟨nm,sb⟩,ops⟩ x):=if_pos ⟨hS,gx.kn⟩
 show Option.bind (gKindS ⟨⟨nm,sb⟩,ops⟩ x) _=_
 rw[e1,bS,first_ix hk.dl,bS,a1,bS,a4',bS]
 by_cases hkd:kindV ⟨⟨nm,sb⟩,ops⟩ x=argK ⟨⟨nm,sb⟩,ops⟩ o (i:Int)
 ·rw [decide_eq_true hkd, Bool.not_true, cond_false, if_pos hkd]
  have c17:isUn o x=false->z3x.c17 GM n op args (kindI nm.length sb) (hasU o) (i:Int) nm sb ops h1 h12 h13 h2 o.name o.decls o.assoc o.comm o.unit (uOf o).op (uOf o).name (uOf o).sort (uOf o).args acc k1=k1 (addT o op acc x):=λhun=>by
   have c15:¬(o.assoc=true/\x.op=op)->z3x.c15 GM n op args (kindI nm.length sb) (hasU o) (i:Int) nm sb ops h1 h12 h13 h2 o.name o.decls o.assoc o.comm o.unit (uOf o).op (uOf o).name (uOf o).sort (uOf o).args acc k1=k1 (addT o op acc x):=λhno=>by
    have hadd:addT o op acc x=acc++[x]:=by unfold addT;rw[if_neg hno,hun,if_neg (by decide)]
    rw[hadd]at hll htl ⊢
    unfold z3x.c15
    rw[ix_get hx,bS,Tm.eta,lim_le (by omega),bS]
   unfold z3x.c17
   cases ha:o.assoc with
   | false =>
    rw[ha]at c15
    rw[cF]
    exact c15 (by simp)
   | true =>
    rw[ha]at c15
    rw[cT,ix_get hx,bS]
    by_cases hop:x.op=op
    ·have hadd:addT o op acc x=acc++x.args:=if_pos ⟨ha,hop⟩
     rw[hadd]at hll htl ⊢
     rw[dT hop,cT,bS,lim_le (by omega),bS]
    ·rw[dF hop,cF]
     exact c15 (by simp[hop])
  by_cases hu:o.unit=0
  ·have hun:isUn o x=false:=by unfold isUn;rw[dT hu];rfl
   have hh:hasU o=false:=by unfold hasU;rw[dT hu];rfl
   have c17:=c17 hun
   rw[hh]at c17 ⊢
   rw[cF]
   exact c17
  ·obtain⟨u1,u2⟩:=un_same hS ho hu gx
   have hh:hasU o=true:=by unfold hasU;rw[dF hu];rfl
   have hut:uOf o=unT o:=if_neg hu
   have hxt:x.total<4294967296:=by omega
   have e3:gSame 4294967296 x (unT o)=some (decide (cmpT x (unT o)=0)):=if_pos hxt
   rw[hh]at c17 ⊢
   rw[cT,bS,Tm.eta,Tm.eta,hut]
   show Option.bind (gSame 4294967296 x (unT o)) _=_
   rw[e3,bS]
   by_cases hc:cmpT x (unT o)=0
   ·have hop:=u1.1 hc
    have hadd:addT o op acc x=acc:=by
     unfold addT isUn
     rw[if_neg (u2 hop),dF hu,dT hop]
     rfl
    rw[dT hc,cT,hadd]
   ·have hun:isUn o x=false:=by
     unfold isUn
     rw[dF hu,dF (λq=>hc (u1.2 q))]
     rfl
    rw[dF hc,cF]
    have:=c17 hun
    rw[hut]at this
    exact this
 ·rw[dF hkd,Bool.not_false,cT,if_neg hkd]
theorem m_loop (n:Nat) (args:List Tm) (hg:∀a∈args,Good ⟨⟨nm,sb⟩,ops⟩ a) (hb:tmTotals args<1073741824) (har:arOk o args) (h1 h13:Int) (h12:ByteArray) (h2:List Tm) (k0:Bool->Int->ByteArray->Int->List Tm->Option R) (k1:List Tm->Option R):∀f i acc,i<=args.length->tmTotals acc+tmTotals (args.drop i)<1073741824->args.length-i<f->
  z3x.l8 GM n f op args (kindI nm.length sb) (hasU o) nm sb ops h1 h12 h13 h2 o.name o.decls o.assoc o.comm o.unit (uOf o).op (uOf o).name (uOf o).sort (uOf o).args (i:Int) acc k0 k1=match flatT ⟨⟨nm,sb⟩,ops⟩ o op (i:Int) (args.drop i) acc with
   |some l=>k1 l
   |none=>k0 false 0 ByteArray.empty 0 []:=by
 have hk:=opOk hS (ix_mem (xs:=ops) ho).1
 have hal:=tmT_len args
 intro f
 induction f with
 |zero=>intro i _ _ _ hm;omega
 | succ f ih =>
  intro i acc hi1 hacc hm
  show z3x.b8 GM n op args (kindI nm.length sb) (hasU o) nm sb ops h1 h12 h13 h2 o.name o.decls o.assoc o.comm o.unit (uOf o).op (uOf o).name (uOf o).sort (uOf o).args (i:Int) acc (λy0 y1=>z3x.l8 GM n f op args (kindI nm.length sb) (hasU o) nm sb ops h1 h12 h13 h2 o.name o.decls o.assoc o.comm o.unit (uOf o).op (uOf o).name (uOf o).sort (uOf o).args y0 y1 k0 k1) k0 k1=_
  unfold z3x.b8
  by_cases hi:i<args.length
  ·obtain⟨x,x1,x2⟩:=get_lt hi
   have gx:=hg x x2
   rw[drop_get x1,tmT_cons]at hacc
   have hat:0<=atI o (i:Int)/\atI o (i:Int)<(first o).args.length:=by
    unfold atI arOk at*
    cases ha:o.assoc with
    |true=>have:=hk.two (.inl ha);rw[if_pos rfl];omega
    |false=>rw[ha,if_neg (by decide)]at har;rw[if_neg (by decide)];omega
   have e:=m_c13 (R:=R) hS ho n args i x x1 gx hat h1 h13 h12 h2 acc (by omega) (λt7 h04 h05 h06 h07=>k0 t7 h04 h05 h06 h07) (λh52=>z3x.l8 GM n f op args (kindI nm.length sb) (hasU o) nm sb ops h1 h12 h13 h2 o.name o.decls o.assoc o.comm o.unit (uOf o).op (uOf o).name (uOf o).sort (uOf o).args (wr ((i:Int)+1)) h52 k0 k1)
   have e2:(bif o.assoc then z3x.c13 GM n op args (kindI nm.length sb) (hasU o) (i:Int) 0 nm sb ops h1 h12 h13 h2 o.name o.decls o.assoc o.comm o.unit (uOf o).op (uOf o).name (uOf o).sort (uOf o).args acc (λt7 h04 h05 h06 h07=>k0 t7 h04 h05 h06 h07) (λh52=>z3x.l8 GM n f op args (kindI nm.length sb) (hasU o) nm sb ops h1 h12 h13 h2 o.name o.decls o.assoc o.comm o.unit (uOf o).op (uOf o).name (uOf o).sort (uOf o).args (wr ((i:Int)+1)) h52 k0 k1)else z3x.c13 GM n op args (kindI nm.length sb) (hasU o) (i:Int) (i:Int) nm sb ops h1 h12 h13 h2 o.name o.decls o.assoc o.comm o.unit (uOf o).op (uOf o).name (uOf o).sort (uOf o).args acc (λt7 h04 h05 h06 h07=>k0 t7 h04 h05 h06 h07) (λh52=>z3x.l8 GM n f op args (kindI nm.length sb) (hasU o) nm sb ops h1 h12 h13 h2 o.name o.decls o.assoc o.comm o.unit (uOf o).op (uOf o).name (uOf o).sort (uOf o).args (wr ((i:Int)+1)) h52 k0 k1))=if kindV ⟨⟨nm,sb⟩,ops⟩ x=argK ⟨⟨nm,sb⟩,ops⟩ o (i:Int)then z3x.l8 GM n f op args (kindI nm.length sb) (hasU o) nm sb ops h1 h12 h13 h2 o.name o.decls o.assoc o.comm o.unit (uOf o).op (uOf o).name (uOf o).sort (uOf o).args (wr ((i:Int)+1)) (addT o op acc x) k0 k1 else k0 false 0 ByteArray.empty 0 []:=by
    refine Eq.trans ?_ e
    unfold atI
    cases o.assoc<;>rfl
   rw[lt_nat hi,cT,drop_get x1]
   refine e2.trans ?_
   unfold flatT
   by_cases hkd:kindV ⟨⟨nm,sb⟩,ops⟩ x=argK ⟨⟨nm,sb⟩,ops⟩ o (i:Int)
   ·have:=addT_total o op acc x
    rw[if_pos hkd,if_pos hkd,wr_one (by omega)]
    exact ih (i+1) _ hi (by omega) (by omega)
   ·rw[if_neg hkd,if_neg hkd]
  ·obtain rfl:i=args.length:=by omega
   rw[nlt_nat hi,cF,drop_nat]
   rfl
omit hS ho in
theorem m_c23 (n:Nat) (h0 h03:Int) (h02:ByteArray) (h1 l:List Tm) (hl:tmTotals l<1073741824) (k0:Bool->ByteArray->Int->List Tm->Option R):
  z3x.c23 GM n op l h0 h02 h03 h1 o.name o.decls o.assoc o.comm o.unit k0=k0 (okLate o l (lateT o op l)) ByteArray.empty 0 (lateT o op l).args:=by
 have hll:=tmT_len l
 have c25:∀r,tmTotals r<1073741824->r.length=l.length->z3x.c25 GM n op r h0 h02 h03 h1 o.name o.decls o.assoc o.comm o.unit k0=k0 (okLate o l (Tm.mk op ByteArray.empty 0 r)) ByteArray.empty 0 r:=λr hr hrl=>by
  have ht:(Tm.mk op ByteArray.empty 0 r).total<4294967296:=by
   rw[total_args]
   show ByteArray.empty.size+tmTotals r<4294967296
   have:ByteArray.empty.size=0:=rfl
   omega
  have e1:gSm 4294967296 (Tm.mk op ByteArray.empty 0 r)=some (decide (tsz (Tm.mk op ByteArray.empty 0 r)<=60)&&decide (tdp (Tm.mk op ByteArray.empty 0 r)<=20)):=if_pos ht
  have e2:gCpS 4294967296 r=some r:=if_pos (by omega)
  unfold z3x.c25 okLate
  show Option.bind (gCpS 4294967296 r) _=_
  rw[e2,bS]
  cases ha:o.assoc with
  | false =>
   rw[Bool.not_false,cT]
   show Option.bind (gSm 4294967296 _) _=_
   rw[e1,bS]
   rfl
  | true =>
   rw[Bool.not_true,cF]
   by_cases h7:l.length<=7
   ·rw[dT (by omega),cT,dT h7]
    show Option.bind (gSm 4294967296 _) _=_
    rw[e1,bS]
    rfl
   ·rw[dF (by omega),cF,dF h7]
    rfl
 unfold z3x.c23
 cases hc:o.comm with
 | true =>
  rw[cT]
  have e:gSortS 4294967296 l=some (sortT l):=if_pos ⟨by omega,by omega⟩
  show Option.bind (gSortS 4294967296 l) _=_
  rw[e,bS]
  have:=c25 (sortT l) (by rw[sortT_total];exact hl) (sortT_len l)
  rw[hc]at this
  refine this.trans ?_
  unfold lateT
  rw[hc,if_pos rfl]
 | false =>
  rw[cF]
  have:=c25 l hl rfl
  rw[hc]at this
  refine this.trans ?_
  unfold lateT
  rw[hc,if_neg (by decide)]
theorem m_c5 (n:Nat) (args:List Tm) (hg:∀a∈args,Good ⟨⟨nm,sb⟩,ops⟩ a) (hb:tmTotals args<1073741824) (har:arOk o args) (hn:args.length<n) (h1 h13:Int) (h12:ByteArray) (h2:List Tm) (k0:Bool->Int->ByteArray->Int->List Tm->Option R):
  z3x.c5 GM n op args (kindI nm.length sb) nm sb ops h1 h12 h13 h2 o.name o.decls o.assoc o.comm o.unit k0=k0 (makeF ⟨⟨nm,sb⟩,ops⟩ o op args).2 (makeF ⟨⟨nm,sb⟩,ops⟩ o op args).1.op (makeF ⟨⟨nm,sb⟩,ops⟩ o op args).1.name (makeF ⟨⟨nm,sb⟩,ops⟩ o op args).1.sort (makeF ⟨⟨nm,sb⟩,ops⟩ o op args).1.args:=by
 have e0:gUnS ⟨⟨nm,sb⟩,ops⟩ op=some (uOf o,hasU o):=by
  unfold gUnS uOf hasU
  rw[if_pos hS]
  show (ix ops op).map _=_
  rw[ho,Option.map_some]
  by_cases hu:o.unit=0
  ·rw[if_pos hu,if_pos hu,dT hu];rfl
  ·rw[if_neg hu,if_neg hu,dF hu];rfl
 unfold z3x.c5
 show Option.bind (gUnS ⟨⟨nm,sb⟩,ops⟩ op) _=_
 rw[e0,bS]
 have e:=m_loop (R:=R) hS ho n args hg hb har h1 h13 h12 h2 (λt7 h04 h05 h06 h07=>k0 t7 h04 h05 h06 h07) (λh45=>
   bif hasU o then
    (bif decide ((List.length h45:Int)=0)then (k0 true (uOf o).op (uOf o).name (uOf o).sort (uOf o).args)
    else z3x.c21 GM n op (hasU o) h1 h12 h13 h2 o.name o.decls o.assoc o.comm o.unit h45 (λt72 h042 h052 h062 h072=>k0 t72 h042 h052 h062 h072))
   else z3x.c21 GM n op (hasU o) h1 h12 h13 h2 o.name o.decls o.assoc o.comm o.unit h45 (λt73 h043 h053 h063 h073=>k0 t73 h043 h053 h063 h073)) n 0 [] (by omega) (by simp[tmT_nil];exact hb) (by omega)
 simp only[List.drop_zero]at e
 refine e.trans ?_
 unfold makeF
 rw[if_pos har]
 show (match flatT ⟨⟨nm,sb⟩,ops⟩ o op 0 args []with
  |some l=>_
  |none=>_)=_
 cases hf:flatT ⟨⟨nm,sb⟩,ops⟩ o op 0 args []with
 |none=>rfl
 | some l =>
  have ht:=flat_total hf
  rw[tmT_nil]at ht
  have e3:=m_c23 (R:=R) (op:=op) (o:=o) n h1 h13 h12 h2 l (by omega)
  simp only
  by_cases hu:o.unit=0
  ·have hh:hasU o=false:=by unfold hasU;rw[dT hu];rfl
   rw[hh,cF,if_neg (by simp[hu])]
   unfold z3x.c21
   rw[cF]
   exact e3 _
  ·have hh:hasU o=true:=by unfold hasU;rw[dF hu];rfl
   have hut:uOf o=unT o:=if_neg hu
   rw[hh,cT]
   match l,hf,ht,e3 with
   |[],_,_,_=>rw[if_pos ⟨hu,by simp⟩,hut];rfl
   | [x], _, ht, _ =>
    rw[if_pos ⟨hu,by simp⟩]
    have hxt:x.total<4294967296:=by rw[tmT_cons,tmT_nil]at ht;omega
    have e4:gCp 4294967296 x=some x:=if_pos hxt
    show z3x.c21 GM n op true h1 h12 h13 h2 o.name o.decls o.assoc o.comm o.unit [x] _=_
    unfold z3x.c21
    rw[cT]
    show Option.bind (gCp 4294967296 (Tm.mk x.op x.name x.sort x.args)) _=_
    rw[Tm.eta,e4]
    rfl
   | x :: y :: l, _, _, e3 =>
    rw[if_neg (by simp)]
    rw[dF (by simp only[List.length_cons];omega),cF]
    unfold z3x.c21
    rw[cT,dF (by simp only[List.length_cons];omega),cF]
    exact e3 _
end
theorem m_main {R:Type} {s:Sg} {op:Int} {o:Opr} (hS:sigF s=true) (ho:ix s.ops op=some o) (args:List Tm) (hg:∀a∈args,Good s a) (hb:tmTotals args<1073741824) (K:Tm->Bool->Option R):
  z3x.main GM (args.length+1) s op args K=K (makeF s o op args).1 (makeF s o op args).2:=by
 have hk:=opOk hS (ix_mem ho).1
 have e1:gKinds s.sorts=some (kindI s.sorts.names.length s.sorts.subs):=if_pos (sigF_pre hS)
 have e2:gAr o=some ((first o).args.length:Int):=if_pos hk.dl
 have fin:arOk o args->z3x.c5 GM (args.length+1) op args (kindI s.sorts.names.length s.sorts.subs) s.sorts.names s.sorts.subs s.ops 0 ByteArray.empty 0 [] o.name o.decls o.assoc o.comm o.unit (λt7 h04 h05 h06 h07=>K (Tm.mk h04 h05 h06 h07) t7)=K (makeF s o op args).1 (makeF s o op args).2:=λhar=>by
  have:=m_c5 (R:=R) (nm:=s.sorts.names) (sb:=s.sorts.subs) (ops:=s.ops) hS ho (args.length+1) args hg hb har (by omega) 0 0 ByteArray.empty [] (λt7 h04 h05 h06 h07=>K (Tm.mk h04 h05 h06 h07) t7)
  exact this.trans (congrArg (λz=>K z _) (Tm.eta _))
 have bad:¬arOk o args->K Zt false=K (makeF s o op args).1 (makeF s o op args).2:=λhar=>by
  unfold makeF
  rw[if_neg har]
 unfold z3x.main
 rw[ho,bS]
 show Option.bind (gKinds s.sorts) _=_
 rw[e1,bS]
 show Option.bind (gAr o) _=_
 rw[e2,bS]
 by_cases hl:args.length=(first o).args.length
 ·rw[dT (by omega),Bool.not_true,cF]
  refine fin ?_
  unfold arOk
  cases ha:o.assoc with
  |true=>have:=hk.two (.inl ha);rw[if_pos rfl];omega
  |false=>rw[if_neg (by decide)];exact hl
 ·rw [decide_eq_false (by omega), Bool.not_false, cond_true]
  cases ha:o.assoc with
  | true =>
   rw[ha]at fin
   rw[cT]
   by_cases h2:2<=args.length
   ·rw[dT (by omega),Bool.not_true,cF]
    exact fin (by unfold arOk;rw[ha,if_pos rfl];exact h2)
   ·rw[dF (by omega),Bool.not_false,cT]
    exact bad (by unfold arOk;rw[ha,if_pos rfl];exact h2)
  | false =>
   rw[cF]
   exact bad (by unfold arOk;rw[ha,if_neg (by decide)];exact hl)
noncomputable def gMake:Sg->Int->List Tm->Option (Tm×Bool):=λs op args=>if sigF s=true/\(∀a∈args,Good s a)/\tmTotals args<1073741824 then (ix s.ops op).map (λo=>makeF s o op args)else none
theorem l6Make_ok :EO (z3x.ent gMake):=z3x.ok (G:=GM) ⟨l3Kinds_ok,l4Arity_ok,l6Unit_ok,l6Kind_ok,l5Same_ok 4294967296 (Nat.le_refl _),l5Copy_ok 4294967296 (Nat.le_refl _),z30 4294967296 (Nat.le_refl _),l5Copies_ok 4294967296 (Nat.le_refl _),l6Small_ok 4294967296 (Nat.le_refl _),trivial⟩ λs op args r h=>by
 unfold gMake at h
 split at h
 ·rename_i hs
  obtain⟨hS,hg,hb⟩:=hs
  obtain⟨o,ho,rfl⟩:=Option.map_eq_some_iff.1 h
  refine⟨args.length+1,(m_main hS ho args hg hb _).trans rfl⟩
 ·cases h
end Go.Proofs.YtfdkldmkbibknaaGreat.Den

/-
  Texts that the claim rests on, merged: Sig4, Alg1, Alg2, Alg3.
-/
import Derived.Test.YtkinkfieackmdaaGreatZRowStr21
import Derived.Test.YtkinkfieackmdaaGreatZRowStr23

namespace Go.Proofs.YtkinkfieackmdaaGreat.Den
open Go.RowKit
open Classical
section
variable {R : Type}
theorem iax_end (n N:Nat) (G:z19.Gs) (ab be kinds:List Int) (hk:kinds.length=N) (names:List ByteArray) (subs:List Sb) (ops:List Opr) (hol:ops.length<=14) (ho:opsIn N kinds ops=true) (o:Opr) (hf:inN N (first o).result=true) (h0:0<=o.unit) (h1:o.unit<=ops.length) (k0:Bool->Option R):
  z19.c10 G n ab be kinds names subs ops o.name o.decls o.assoc o.comm o.unit (first o).args (first o).result k0=k0 (bif decide (o.unit=0)then true else match ix ops (o.unit-1)with
   |some u=>decide ((first u).args.length=0)&&decide (getI kinds (first u).result=getI kinds (first o).result)
   |none=>false):=by
 unfold z19.c10
 by_cases hu:o.unit=0
 ·rw[dT hu];rfl
 ·rw[dF hu,cF,cF,wr_in (x:=o.unit-1) (by omega)]
  obtain⟨u,u1,u2,_,_⟩:=drop_step (a:=ops) (i:=o.unit-1) (by omega) (by omega)
  obtain⟨d1,d2,d3,d4,d5,d6⟩:=declsF_parts (aT.1 ho u u2)
  have d5':=inN_iff.1 d5
  have hf':=inN_iff.1 hf
  rw[u1,bS,first_ix d1,bS]
  by_cases hz:(first u).args.length=0
  ·rw[dT (show ((first u).args.length:Int)=0 by omega),cT,getI_ix d5'.1 (by omega),bS,getI_ix hf'.1 (by omega),bS]
   simp[hz]
  ·rw[dF (show ¬((first u).args.length:Int)=0 by omega)]
   simp[hz]
theorem iax_main (n N:Nat) (G:z19.Gs) (ab be kinds:List Int) (hk:kinds.length=N) (names:List ByteArray) (subs:List Sb) (ops:List Opr) (hol:ops.length<=14) (ho:opsIn N kinds ops=true) (o:Opr) (hd:declsF N kinds o=true) (h0:0<=o.unit) (h1:o.unit<=ops.length) (k0:Bool->Option R):
  z19.c5 G n ab be kinds names subs ops o.name o.decls o.assoc o.comm o.unit k0=k0 (decide ((first o).args.length=2)&&(decide (getI kinds (getI (first o).args 0)=getI kinds (getI (first o).args 1))&&
  ((bif o.assoc||decide (0<o.unit)then decide (getI kinds (getI (first o).args 0)=getI kinds (first o).result)else true)&&
  (bif decide (o.unit = 0) then true else match ix ops (o.unit - 1) with
   |some u=>decide ((first u).args.length=0)&&decide (getI kinds (first u).result=getI kinds (first o).result)
   |none=>false)))):=by
 obtain⟨d1,d2,d3,d4,d5,d6⟩:=declsF_parts hd
 have d5':=inN_iff.1 d5
 unfold z19.c5
 rw[first_ix d1,bS]
 by_cases h2:(first o).args.length=2
 ·rw[dT h2,dT (show ((first o).args.length:Int)=2 by omega),Bool.not_true,cF,Bool.true_and]
  have a0:ix (first o).args 0=some (getI (first o).args 0):=getI_ix (by omega) (by omega)
  have a1:ix (first o).args 1=some (getI (first o).args 1):=getI_ix (by omega) (by omega)
  have m0:=inN_iff.1 (d6 _ (getI_mem (l:=(first o).args) (i:=0) (by omega) (by omega)))
  have m1:=inN_iff.1 (d6 _ (getI_mem (l:=(first o).args) (i:=1) (by omega) (by omega)))
  have k0':ix kinds (getI (first o).args 0)=some (getI kinds (getI (first o).args 0)):=getI_ix m0.1 (by omega)
  have k1':ix kinds (getI (first o).args 1)=some (getI kinds (getI (first o).args 1)):=getI_ix m1.1 (by omega)
  have kr:ix kinds (first o).result=some (getI kinds (first o).result):=getI_ix d5'.1 (by omega)
  simp only[a0,a1,k0',k1',kr,bS]
  rw[iax_end n N G ab be kinds hk names subs ops hol ho o d5 h0 h1]
  have e1:decide (0<o.unit)= !decide (o.unit=0):=by rw[<-decide_not];exact decide_eq_decide.2 (by omega)
  rw[e1]
  cases o.assoc<;>cases decide (getI kinds (getI (first o).args 0)=getI kinds (getI (first o).args 1))<;>cases decide (getI kinds (getI (first o).args 0)=getI kinds (first o).result)<;>cases decide (o.unit=0)<;>rfl
 ·rw[dF h2,dF (show ¬((first o).args.length:Int)=2 by omega)];rfl
end
noncomputable def gAI:Od->Sg->Opr->Option Bool:=λx s o=>if x.kind.length=x.above.length/\s.ops.length<=14/\opsIn x.above.length x.kind s.ops=true/\o∈s.ops then some (axF x.kind s.ops o)else none
theorem axiomsOK_ok :EO (z19.ent gAI):=z19.ok (G:=⟨()⟩) trivial λx s o r h=>by
 unfold gAI at h
 split at h
 ·rename_i hp
  cases h
  obtain⟨p1,p2,p3,p4⟩:=hp
  have hd:=aT.1 p3 o p4
  refine⟨1000,?_⟩
  unfold z19.main axF
  by_cases h0:o.unit<0
  ·rw[dT h0,dF (show ¬o.unit=0 by omega),dF (show ¬0<=o.unit by omega)]
   simp
  by_cases h1:(s.ops.length:Int)<o.unit
  ·rw[dF h0,dT h1,dF (show ¬o.unit=0 by omega),dF (show ¬o.unit<=s.ops.length by omega)]
   simp
  rw[dF h0,dF h1,cF,cF,iax_main 1000 x.above.length ⟨()⟩ x.above x.below x.kind p1 s.sorts.names s.sorts.subs s.ops p2 p3 o hd (by omega) (by omega)]
  rw[dT (show 0<=o.unit by omega),dT (show o.unit<=s.ops.length by omega)]
  cases o.assoc<;>cases o.comm<;>cases decide (o.unit=0)<;>rfl
 ·cases h
abbrev GSigI (q:So->Option (Od×Bool)) (d:Od->Opr->Option Bool) (a:Od->Sg->Opr->Option Bool):z0g.Gs:={z1k:=q,z0e:=gName,z1c:=d,z19:=a}
section
variable {R : Type} {q : So → Option (Od × Bool)}
theorem isig_ops (n N:Nat) (hN:N<=8) (x:Od) (hx:x.above.length=N) (hk:x.kind.length=N) (names:List ByteArray) (subs:List Sb) (ops0 ops:List Opr) (hol:ops.length<=14) (k0:Bool->Option R) (k1:List ByteArray->List Sb->List Opr->List Int->List Int->List Int->Option R):∀m (i:Int) (kvs:List (ByteArray×Bool)),0<=i->i<=ops.length->SeenIs kvs (nm (ops.take i.toNat))->(ops.length-i).toNat<m->
  z0g.l6 (GSigI q gDI gAI) n m ops (ops.length:Int) i names subs ops0 x.above x.below x.kind kvs k0 k1=bif opsF N x.kind (nm (ops.take i.toNat)) (ops.drop i.toNat)then k1 names subs ops0 x.above x.below x.kind else k0 false:=by
 intro m
 induction m with
 |zero=>intro i _ _ _ _ hm;omega
 | succ m ih =>
  intro i kvs q0 q1 qs hm
  show z0g.b6 (GSigI q gDI gAI) n ops (ops.length:Int) i names subs ops0 x.above x.below x.kind kvs (λy0 y1 y2 y3 y4 y5 y6 y7 y8 y9=>z0g.l6 (GSigI q gDI gAI) n m y0 y1 y2 y3 y4 y5 y6 y7 y8 y9 k0 k1) k0 k1=_
  unfold z0g.b6
  by_cases hi:i<(ops.length:Int)
  ·obtain⟨o,x1,x2,x3,x4⟩:=drop_step q0 hi
   have e:(i+1).toNat=i.toNat+1:=by omega
   have ht:nm (ops.take (i+1).toNat)=nm (ops.take i.toNat)++[o.name]:=by
    obtain⟨hlt,hx⟩:=gI.1 x4
    rw[e,List.take_succ_eq_append_getElem hlt,hx]
    simp[nm]
   have eD:gDI (Od.mk x.above x.below x.kind) o=some (declsF N x.kind o):=by
    unfold gDI
    rw[if_pos ⟨by show x.above.length<=8;omega,by show x.kind.length=x.above.length;omega⟩]
    show some (declsF x.above.length x.kind o)=_
    rw[hx]
   rw[dT hi,cT]
   simp only[x1,bS,eD,wr_in (x:=i+1) (by omega)]
   rw[x3,opsF,ih (i+1) _ (by omega) (by omega) (by rw[ht];exact seen_add qs o.name) (by omega),ht,qs o.name]
   cases nameF o.name<;>cases declsF N x.kind o<;>cases ((nm (ops.take i.toNat)).any λy=>sEq y o.name)<;>rfl
  ·rw[dF hi,cF,drop_all hi];rfl
theorem isig_ax (n N:Nat) (x:Od) (hx:x.above.length=N) (hk:x.kind.length=N) (names:List ByteArray) (subs:List Sb) (ops:List Opr) (hol:ops.length<=14) (ho:opsIn N x.kind ops=true) (k0:Bool->Option R) (k1:Option R):∀m (i:Int),0<=i->i<=ops.length->(ops.length-i).toNat<m->
  z0g.l13 (GSigI q gDI gAI) n m ops (ops.length:Int) i names subs ops x.above x.below x.kind k0 k1=bif (ops.drop i.toNat).all (axF x.kind ops)then k1 else k0 false:=by
 intro m
 induction m with
 |zero=>intro i _ _ hm;omega
 | succ m ih =>
  intro i q0 q1 hm
  show z0g.b13 (GSigI q gDI gAI) n ops (ops.length:Int) i names subs ops x.above x.below x.kind (λy0 y1 y2 y3 y4 y5 y6 y7 y8=>z0g.l13 (GSigI q gDI gAI) n m y0 y1 y2 y3 y4 y5 y6 y7 y8 k0 k1) k0 k1=_
  unfold z0g.b13
  by_cases hi:i<(ops.length:Int)
  ·obtain⟨o,x1,x2,x3,x4⟩:=drop_step q0 hi
   have eA:gAI (Od.mk x.above x.below x.kind) (Sg.mk (So.mk names subs) ops) o=some (axF x.kind ops o):=by
    unfold gAI
    rw[if_pos ⟨by show x.kind.length=x.above.length;omega,hol,by show opsIn x.above.length x.kind ops=true;rw[hx];exact ho,x2⟩]
   rw[dT hi,cT,x1,bS]
   dsimp only
   rw[eA,bS,x3,List.all_cons,wr_in (x:=i+1) (by omega),ih (i+1) (by omega) (by omega) (by omega)]
   cases axF x.kind ops o<;>rfl
  ·rw[dF hi,cF,drop_all hi];rfl
end
theorem z0h :EO (z0g.ent λs=>some (sigF s)):=z0g.ok (G:=GSigI (λs=>some (orderF s)) gDI gAI) ⟨newOrder_ok,z0f,declsOK_ok,axiomsOK_ok,trivial⟩ λs r h=>⟨1000,by
 cases h
 unfold z0g.main sigF
 rw[bS]
 cases hs:sortsF s.sorts with
 | false =>
  rw[show orderF s.sorts=(⟨[],[],[]⟩,false)from if_neg (by rw[hs];simp)]
  rfl
 | true =>
  obtain⟨p1,p2,p3,p4,p5⟩:=sortsF_parts hs
  rw[show orderF s.sorts=(⟨upI s.sorts.names.length s.sorts.subs,belowI (upI s.sorts.names.length s.sorts.subs),kindI s.sorts.names.length s.sorts.subs⟩,true)from if_pos hs]
  simp only[Bool.not_true,cF]
  by_cases h14:14<(s.ops.length:Int)
  ·rw[dT h14,dF (show ¬s.ops.length<=14 by omega)];rfl
  ·rw[dF h14,dT (show s.ops.length<=14 by omega),cF]
   have hu:=upI_len s.sorts.names.length s.sorts.subs
   have hkl:=kindI_len s.sorts.names.length s.sorts.subs
   have e6:=isig_ops (R:=AT×List Ob) (q:=λs=>some (orderF s)) 1000 s.sorts.names.length p2 ⟨upI s.sorts.names.length s.sorts.subs,belowI (upI s.sorts.names.length s.sorts.subs),kindI s.sorts.names.length s.sorts.subs⟩ hu hkl s.sorts.names s.sorts.subs s.ops s.ops (by omega)
   simp only at e6
   rw[e6 _ _ 1000 0 [] (by omega) (by omega) seen_nil (by omega)]
   simp only[Int.toNat_zero,List.take_zero,List.drop_zero,nm,List.map_nil,Bool.true_and]
   cases ho:opsF s.sorts.names.length (kindI s.sorts.names.length s.sorts.subs) [] s.ops with
   |false=>rfl
   | true =>
    have e13:=isig_ax (R:=AT×List Ob) (q:=λs=>some (orderF s)) 1000 s.sorts.names.length ⟨upI s.sorts.names.length s.sorts.subs,belowI (upI s.sorts.names.length s.sorts.subs),kindI s.sorts.names.length s.sorts.subs⟩ hu hkl s.sorts.names s.sorts.subs s.ops (by omega) (opsF_in ho)
    simp only at e13
    rw[cT,e13 _ _ 1000 0 (by omega) (by omega) (by omega)]
    simp only[Int.toNat_zero,List.drop_zero,Bool.true_and]
    cases s.ops.all (axF (kindI s.sorts.names.length s.sorts.subs) s.ops)<;>rfl⟩
abbrev nS (s:Sg):Nat:=s.sorts.names.length
abbrev kS (s:Sg):List Int:=kindI s.sorts.names.length s.sorts.subs
structure OpOk (s:Sg) (o:Opr):Prop where
 dl:1<=o.decls.length
 fa:(first o).args.length<=3
 args:∀x∈(first o).args,0<=x/\x<nS s
 res:0<=(first o).result/\(first o).result<nS s
 u0:0<=o.unit
 u1:o.unit<=s.ops.length
 two:o.assoc=true\/o.comm=true\/o.unit≠0->(first o).args.length=2
 un:o.unit≠0->∃u,ix s.ops (o.unit-1)=some u/\(first u).args.length=0
theorem opOk {s:Sg} (h:sigF s=true) {o:Opr} (ho:o∈s.ops):OpOk s o:=by
 obtain⟨h1,h2⟩:=sigF_parts h
 obtain⟨h3,h4⟩:=h2 o ho
 obtain⟨d1,d2,d3,d4,d5,d6⟩:=declsF_parts h3
 obtain⟨u0,u1⟩:=axF_unit h4
 have two:o.assoc=true\/o.comm=true\/o.unit≠0->(first o).args.length=2:=λhc=>by
  unfold axF at h4
  cases hb:(!o.assoc&&(!o.comm&&decide (o.unit=0)))with
  | true =>
   simp only[bA,Bool.not_eq_true',decide_eq_true_eq]at hb
   obtain⟨b1,b2,b3⟩:=hb
   rw[b1,b2]at hc
   simp[b3]at hc
  | false =>
   rw[hb,cF]at h4
   simp only[bA,decide_eq_true_eq]at h4
   exact h4.1
 refine⟨d1,d3,λx hx=>inN_iff.1 (d6 x hx),inN_iff.1 d5,u0,u1,two,λhu=> ?_⟩
 unfold axF at h4
 cases hb:(!o.assoc&&(!o.comm&&decide (o.unit=0)))with
 | true =>
  simp only[bA,decide_eq_true_eq]at hb
  exact absurd hb.2.2 hu
 | false =>
  rw[hb,cF]at h4
  simp only[bA,decide_eq_true_eq]at h4
  have h5:=h4.2.2.2.2.2
  rw[dF hu,cF]at h5
  split at h5
  ·rename_i u hu2
   simp only[bA,decide_eq_true_eq]at h5
   exact⟨u,hu2,h5.1⟩
  ·cases h5
theorem kS_len (s:Sg):(kS s).length=nS s:=kindI_len _ _
theorem sigF_pre {s:Sg} (h:sigF s=true):preS s.sorts=true:=by
 unfold sigF at h
 simp only[bA]at h
 exact(sortsF_parts h.1).2.2.2.2
theorem ix_mem {α:Type} {xs:List α} {i:Int} {x:α} (h:ix xs i=some x):x∈xs/\0<=i/\i<xs.length/\xs[i.toNat]? =some x:=by
 unfold ix at h
 cases hb:decide (0<=i)with
 |false=>rw[hb]at h;cases h
 | true =>
  rw[hb]at h
  have h0:0<=i:=of_decide_eq_true hb
  have h:xs[i.toNat]? =some x:=h
  obtain⟨hlt,_⟩:=gI.1 h
  exact⟨mG h,h0,by omega,h⟩
theorem unit_flat {s:Sg} (h:sigF s=true) {o u:Opr} (ho:OpOk s o) (hu:o.unit≠0) (hx:ix s.ops (o.unit-1)=some u):(first u).args.length=0/\u.assoc=false:=by
 obtain⟨u',h1,h2⟩:=ho.un hu
 rw[hx]at h1
 cases h1
 refine⟨h2,?_⟩
 have hk:=opOk h (ix_mem hx).1
 cases ha:u.assoc with
 |false=>rfl
 |true=>have:=hk.two (.inl ha);omega
inductive Good (s:Sg):Tm->Prop
 |var {name:ByteArray} {sort:Int} (h1:0<=sort) (h2:sort<nS s) (h3:nameF name=true):Good s (Tm.mk (-1) name sort [])
 |app {op:Int} {o:Opr} {args:List Tm} (ho:ix s.ops op=some o) (hn:if o.assoc=true then 2<=args.length else args.length=(first o).args.length) (ha:∀a∈args,Good s a):Good s (Tm.mk op ByteArray.empty 0 args)
theorem Good.args {s:Sg} {t:Tm} (h:Good s t):∀a∈t.args,Good s a:=by
 cases h with
 |var=>intro a ha;simp at ha
 |app _ _ ha=>exact ha
def Kn (s:Sg) (t:Tm):Prop:=(t.op= -1/\0<=t.sort/\t.sort<nS s)\/∃o,ix s.ops t.op=some o
theorem Good.kn {s:Sg} {t:Tm} (h:Good s t):Kn s t:=by
 cases h with
 |var h1 h2 h3=>exact .inl ⟨rfl,h1,h2⟩
 |app ho _ _=>exact .inr ⟨_,ho⟩
def kindV (s:Sg) (t:Tm):Int:=if t.op= -1 then getI (kS s) t.sort else match ix s.ops t.op with
 |some o=>getI (kS s) (first o).result
 |none=>0
theorem kS_ix {s:Sg} {i:Int} (h0:0<=i) (h1:i<nS s):ix (kS s) i=some (getI (kS s) i):=getI_ix h0 (by rw[kS_len];exact h1)
abbrev Mp :=List (ByteArray×Int)
def Alg (kd:List Int) (nm:List ByteArray) (sb:List Sb) (ops:List Opr):Prop:=sigF ⟨⟨nm,sb⟩,ops⟩=true/\kd=kindI nm.length sb
noncomputable def gKindI:List Int->List Int->List Int->List ByteArray->List Sb->List Opr->Mp->Tm->Option (Int×Mp):=λ_ _ kd nm sb ops m t=>if Alg kd nm sb ops/\Kn ⟨⟨nm,sb⟩,ops⟩ t then some (kindV ⟨⟨nm,sb⟩,ops⟩ t,m)else none
theorem kindOf_ok :EO (z14.ent gKindI):=z14.ok (G:=⟨()⟩) trivial λab be kd nm sb ops m t r h=>by
 unfold gKindI at h
 split at h
 ·rename_i hs
  cases h
  obtain⟨⟨h1,rfl⟩,h2⟩:=hs
  refine⟨1,?_⟩
  unfold z14.main kindV
  rcases h2 with⟨h2,h3,h4⟩|⟨o,ho⟩
  ·rw[h2,if_pos rfl,dT (by decide),cT]
   have:=kS_ix (s:=⟨⟨nm,sb⟩,ops⟩) h3 h4
   rw[this,bS]
  ·obtain⟨m1,m2,m3,_⟩:=ix_mem ho
   have hk:=opOk h1 m1
   have:=kS_ix (s:=⟨⟨nm,sb⟩,ops⟩) hk.res.1 hk.res.2
   have ho':ix ops t.op=some o:=ho
   rw[if_neg (by omega),dF (by omega),cF,ho',bS,first_ix hk.dl,bS,this,bS]
 ·cases h
noncomputable def gKindS:Sg->Tm->Option Int:=λs t=>if sigF s=true/\Kn s t then some (kindV s t)else none
theorem l6Kind_ok :EO (z5p.ent gKindS):=z5p.ok (G:=⟨gKinds⟩) ⟨l3Kinds_ok,trivial⟩ λs t r h=>by
 unfold gKindS at h
 split at h
 ·rename_i hs
  cases h
  obtain⟨h1,h2⟩:=hs
  refine⟨1,?_⟩
  unfold z5p.main kindV
  show Option.bind (gKinds s.sorts) _=_
  unfold gKinds
  rw[if_pos (sigF_pre h1),bS]
  rcases h2 with⟨h2,h3,h4⟩|⟨o,ho⟩
  ·rw[h2,if_pos rfl,dT rfl,cT]
   rw[kS_ix h3 h4,bS]
  ·obtain⟨m1,m2,m3,_⟩:=ix_mem ho
   have hk:=opOk h1 m1
   rw[if_neg (by omega),dF (by omega),cF,ho,bS,first_ix hk.dl,bS,kS_ix hk.res.1 hk.res.2,bS]
 ·cases h
def atI (o:Opr) (i:Int):Int:=if o.assoc=true then 0 else i
def argK (s:Sg) (o:Opr) (i:Int):Int:=getI (kS s) (getI (first o).args (atI o i))
noncomputable def gArgK:List Int->List Int->List Int->List ByteArray->List Sb->List Opr->Mp->Int->Int->Option (Int×Mp):=λ_ _ kd nm sb ops m op i=>if Alg kd nm sb ops/\∃o,ix ops op=some o/\0<=atI o i/\atI o i<(first o).args.length then some (argK ⟨⟨nm,sb⟩,ops⟩ ((ix ops op).getD ⟨ByteArray.empty,[],false,false,0⟩) i,m)else none
theorem arg_ix {s:Sg} {o:Opr} (hk:OpOk s o) {i:Int} (h0:0<=i) (h1:i<(first o).args.length):ix (first o).args i=some (getI (first o).args i)/\0<=getI (first o).args i/\getI (first o).args i<nS s:=
 ⟨getI_ix h0 h1,hk.args _ (getI_mem h0 h1)⟩
theorem argKind_ok :EO (z0u.ent gArgK):=z0u.ok (G:=⟨()⟩) trivial λab be kd nm sb ops m op i r h=>by
 unfold gArgK at h
 split at h
 ·rename_i hs
  obtain⟨⟨h1,rfl⟩,o,ho,h2,h3⟩:=hs
  rw[ho]at h
  cases h
  have hk:=opOk h1 (ix_mem ho).1
  obtain⟨a1,a2,a3⟩:=arg_ix hk h2 h3
  have a4:=kS_ix (s:=⟨⟨nm,sb⟩,ops⟩) a2 a3
  refine⟨1,?_⟩
  unfold z0u.main argK
  rw[ho,bS,Option.getD_some]
  unfold atI at a1 a4 ⊢
  cases ha:o.assoc with
  | true =>
   rw[ha,if_pos rfl]at a1 a4
   rw[cT,if_pos rfl]
   unfold z0u.c4
   rw[first_ix hk.dl,bS,a1,bS,a4,bS]
  | false =>
   rw[ha,if_neg (by decide)]at a1 a4
   rw[cF,if_neg (by decide)]
   unfold z0u.c4
   rw[first_ix hk.dl,bS,a1,bS,a4,bS]
 ·cases h
def isUn (o:Opr) (t:Tm):Bool:= !decide (o.unit=0)&&decide (t.op=o.unit-1)
def unT (o:Opr):Tm:=Tm.mk (o.unit-1) ByteArray.empty 0 []
noncomputable def gIsU:List Int->List Int->List Int->List ByteArray->List Sb->List Opr->Mp->Int->Tm->Option (Bool×Mp):=λ_ _ kd nm sb ops m op t=>if Alg kd nm sb ops then (ix ops op).map (λo=>(isUn o t,m))else none
theorem isUnit_ok :EO (z12.ent gIsU):=z12.ok (G:=⟨()⟩) trivial λab be kd nm sb ops m op t r h=>by
 unfold gIsU at h
 split at h
 ·rename_i hs
  obtain⟨o,ho,rfl⟩:=Option.map_eq_some_iff.1 h
  have hk:=opOk hs.1 (ix_mem ho).1
  have hu1:=hk.u1
  have hol:ops.length<=14:=(sigF_parts hs.1).1
  refine⟨1,?_⟩
  unfold z12.main isUn
  rw[ho,bS]
  by_cases hu:o.unit=0
  ·rw[dT hu];rfl
  ·have:o.unit<=(ops.length:Int):=hu1
   rw[dF hu,Bool.not_false,cT,bS,Bool.true_and,wr_in (x:=o.unit-1) (by have:=hk.u0;omega)]
 ·cases h
noncomputable def gUnS:Sg->Int->Option (Tm×Bool):=λs op=>if sigF s=true then (ix s.ops op).map (λo=>if o.unit=0 then (Tm.mk 0 ByteArray.empty 0 [],false)else (unT o,true))else none
theorem l6Unit_ok :EO (z5w.ent gUnS):=z5w.ok (G:=⟨()⟩) trivial λs op r h=>by
 unfold gUnS at h
 split at h
 ·rename_i hs
  obtain⟨o,ho,rfl⟩:=Option.map_eq_some_iff.1 h
  have hk:=opOk hs (ix_mem ho).1
  have hu1:=hk.u1
  have hol:s.ops.length<=14:=(sigF_parts hs).1
  refine⟨1,?_⟩
  unfold z5w.main
  rw[ho,bS]
  by_cases hu:o.unit=0
  ·rw[dT hu,cT,if_pos hu]
  ·rw[dF hu,cF,bS,if_neg hu,wr_in (x:=o.unit-1) (by have:=hk.u0;omega)]
   rfl
 ·cases h
noncomputable def gVar:List Int->List Int->List Int->List ByteArray->List Sb->List Opr->Mp->Tm->Option (Bool×Mp):=λab _ _ _ _ _ m t=>if t.op= -1 then some (nameF t.name&&(inN ab.length t.sort&&decide (t.args.length=0)),m)else none
theorem isVariable_ok :EO (z13.ent gVar):=z13.ok (G:=⟨gName,gHas⟩) ⟨z0f,orderHas_ok,trivial⟩ λab be kd nm sb ops m t r h=>by
 unfold gVar at h
 split at h
 ·rename_i hs
  cases h
  refine⟨1,?_⟩
  unfold z13.main
  rw[dT hs,cT]
  show Option.bind (gName t.name) _=_
  rw[bS]
  cases hn:nameF t.name with
  |false=>rfl
  | true =>
   rw[cT]
   show Option.bind (gHas ⟨ab,be,kd⟩ t.sort) _=_
   rw[bS]
   cases hi:inN ab.length t.sort with
   |false=>rfl
   | true =>
    rw[cT,show decide ((t.args.length:Int)=0)=decide (t.args.length=0)from decide_eq_decide.2 (by omega)]
    rfl
 ·cases h
abbrev Zt :Tm:=Tm.mk 0 ByteArray.empty 0 []
def arOk (o:Opr) (args:List Tm):Prop:=if o.assoc=true then 2<=args.length else args.length=(first o).args.length
instance (o : Opr) (args : List Tm) : Decidable (arOk o args) := by unfold arOk; exact inferInstance
theorem un_same {s:Sg} (h:sigF s=true) {o:Opr} {op:Int} (ho:ix s.ops op=some o) (hu:o.unit≠0) {x:Tm} (hx:Good s x):(cmpT x (unT o)=0↔x.op=o.unit-1)/\(x.op=o.unit-1->¬(o.assoc=true/\x.op=op)):=by
 have hk:=opOk h (ix_mem ho).1
 obtain⟨u,u1,u2⟩:=hk.un hu
 obtain⟨u3,u4⟩:=unit_flat h hk hu u1
 refine⟨⟨λhc=> ?_,λhc=> ?_⟩,λhc ⟨h1,h2⟩=> ?_⟩
 ·rw[cmpT_eq]at hc
  unfold cmpN at hc
  by_cases h1:cmpI x.op (unT o).op=0
  ·exact cmpI_zero h1
  ·rw[if_neg h1]at hc;exact absurd hc h1
 ·have:x=unT o:=by
   cases hx with
   | var h1 h2 h3 =>
    have hc:(-1:Int)=o.unit-1:=hc
    have:=hk.u0
    omega
   | @app op' o' args ho' hn ha=>
    have hc:op'=o.unit-1:=hc
    subst hc
    rw[u1]at ho'
    cases ho'
    rw[u4,if_neg (by decide),u3]at hn
    rw[nZ hn]
    rfl
  rw[this]
  exact cmpT_self _ _ (Nat.lt_succ_self _)
 ·rw[hc]at h2
  rw[<-h2,u1]at ho
  cases ho
  rw[u4]at h1
  cases h1
section
variable {R : Type}
end
section
variable {R : Type} {kd ab be : List Int} {nm : List ByteArray} {sb : List Sb} {ops : List Opr} {op : Int} {o : Opr} (hA : Alg kd nm sb ops) (ho : ix ops op = some o)
include hA ho
end
def uOf (o:Opr):Tm:=if o.unit=0 then Zt else unT o
section
variable {R : Type} {nm : List ByteArray} {sb : List Sb} {ops : List Opr} {op : Int} {o : Opr} (hS : sigF ⟨⟨nm, sb⟩, ops⟩ = true) (ho : ix ops op = some o)
include hS ho
end
end Go.Proofs.YtkinkfieackmdaaGreat.Den

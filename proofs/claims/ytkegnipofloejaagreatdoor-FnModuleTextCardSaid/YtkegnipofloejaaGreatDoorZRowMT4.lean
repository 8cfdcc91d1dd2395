/- merged -/
import Derived.Test.YtkegnipofloejaaGreatDoorZRowMT2

namespace Go.Proofs.YtkegnipofloejaaGreatDoor.Abs
open Go.RowKit
structure Lin(ops:Array Oper)(σ:List Nat):Prop where
 ok:∀s1 i s2,σ=s1++i::s2->i<ops.size/\i∉s1/\∀o,ops[i]? =some o->∀j∈dU o,j∈s1
 full:∀i,i<ops.size->i∉σ->∃o,ops[i]?=some o/\∃j∈dU o,j∉σ
section
variable {i n j:Nat}{ops:Array Oper}{σ s1 s2 c π ch rd:Td Nat}{P:Program}{E:Cx}{L:Env}{h:au}{α:Type}
theorem CT{d:Array Bool}(h:d.size=n)(hi:i<n):d.getD i true=d.getD i false:=G1
theorem G0{d:Array Bool}(t:d.size=ops.size)(hi:i∈Region.ready .any ops d):i<ops.size/\d.getD i false=false/\∀(o:Oper),ops[i]? =some o->∀j∈dU o,d.getD j false=true:=by
 unfold Region.ready at hi;obtain⟨h1,h2⟩:=List.mem_filter.1 hi;have h1:=List.mem_range.1 h1;simp only[bA,Pj]at h2;refine⟨h1,by rw[<-CT t h1];exact h2.1,λo ho j w=> ?_⟩;rw[ho]at h2;simp only[Pg,PN]at h2;unfold dU at w;obtain⟨y,v,h⟩:=List.mem_filterMap.1 w;split at h
 .rename_i A;cases h;have:=Array.all_eq_true'.1 h2.2 y R6;simpa [A]using this
 .cases h
theorem Fz{d:Array Bool}{o:Oper}(t:d.size=ops.size)(ho:ops[i]? =some o)(v:d.getD i false=false)(hd:∀j∈dU o,d.getD j false=true):i∈Region.ready .any ops d:=by
 have h:=(Array.getElem?_eq_some_iff.1 ho).1;unfold Region.ready;refine List.mem_filter.2 ⟨List.mem_range.2 h,?_⟩;rw[CT t h,v,ho];simp only[OS,O7,Pg,PN];rw[Array.all_eq_true'];intro w y;cases A:Region.binds .any w with
 |false=>simp
 | true=>
  simp only[O4,Bool.false_or];exact hd w.on (by unfold dU;exact List.mem_filterMap.2 ⟨w,Ry,RT⟩)
theorem js{d:Array Bool}(h:d.size=n)(hi:i<n)(j:Nat):(d.setIfInBounds i true).getD j false=if j=i then true else d.getD j false:=by
 rw[Pa,Pa];by_cases t:j=i
 .grind
 .grind
theorem M6(ops:Array Oper):∀(w t:Nat)(d:Array Bool),d.size=ops.size->
  (∀s1 i s2,Region.linearise.go .any ops w t d []=s1++i::s2->i<ops.size/\d.getD i false=false/\i∉s1/\∀o,ops[i]? =some o->∀j∈dU o,d.getD j false=true\/j∈s1)/\
  (((List.range ops.size).filter fun i=> !d.getD i false).length<=w->∀i,i<ops.size->d.getD i false=false->i∉Region.linearise.go .any ops w t d []->
   ∃o,ops[i]?=some o/\∃j∈dU o,d.getD j false=false/\j∉Region.linearise.go .any ops w t d []):=by
 intro w
 induction w with
 | zero=>
  intro t d v;refine⟨λs1 i s2 e=>by simp[Region.linearise.go]at e,λhc i hi B _=> ?_⟩;exfalso;have:i∈(List.range ops.size).filter λi=> !d.getD i false:=List.mem_filter.2 ⟨List.mem_range.2 hi,by rw[B];rfl⟩;have:=Qg this;omega
 | succ w T=>
  intro t d v
  have U:Region.linearise.go .any ops (w+1) t d []=(match (Region.ready .any ops d)[t%(Region.ready .any ops d).length]? with
   |some i=>Region.linearise.go .any ops w (t / (Region.ready .any ops d).length) (d.setIfInBounds i true) [i]
   |none=>[].reverse):=rfl
  rw[U];cases hi:(Region.ready .any ops d)[t%(Region.ready .any ops d).length]? with
  | none=>
   have E:Region.ready .any ops d=[]:=by
    cases V:Region.ready .any ops d with
    |nil=>rfl
    | cons x xs=>
     rw[V]at hi;have I:t%(x::xs).length<(x::xs).length:=Nat.mod_lt _ A1;simp at hi;simp at I;omega
   refine⟨λs1 i s2 e=>by simp at e,λhc i J B _=> ?_⟩;have ho:=On J;refine⟨_,ho,?_⟩;apply Q6;intro K;have:i∈Region.ready .any ops d:=Fz v ho B λj D=>by
    cases C:d.getD j false with
    |true=>rfl
    |false=>exact absurd ⟨j,D,C,A1⟩ K
   rw[E]at this;cases this
  | some i=>
   simp only[];rw[linearise_go_acc,List.reverse_singleton,List.singleton_append];obtain⟨y,R,W⟩:=G0 v (mG hi);obtain⟨L,M⟩:=T (t / (Region.ready .any ops d).length) (d.setIfInBounds i true) (by simp[v]);refine⟨λs1 k s2 e=> ?_,λhc k hk N F=> ?_⟩
   .cases s1 with
    | nil=>
     simp at e;obtain⟨rfl,_⟩:=e;exact⟨y,R,A1,λo ho j D=>.inl (W o ho j D)⟩
    | cons x s1=>
     simp at e;obtain⟨rfl,e⟩:=e;obtain⟨O,G,a3,a4⟩:=L s1 k s2 e;rw[js v y]at G;by_cases S:k=i
     .grind
     .rw[O2 S]at G;refine⟨O,G,by simp[S,a3],λo ho j D=> ?_⟩;have:=a4 o ho j D;rw[js v y]at this;by_cases X:j=i
      .grind
      .grind
   .have P:k≠i:=λe=>F Rh;have A:((List.range ops.size).filter λj=> !(d.setIfInBounds i true).getD j false).length<=w:=by
     have H:i∈List.range ops.size:=List.mem_range.2 y;obtain⟨pre,post,e⟩:=P9 H;have Q:(List.range ops.size).Nodup:=List.nodup_range;rw[e]at Q hc ⊢;have hp:∀k∈pre,k≠i:=λk hk Y=>G1
     have Z:∀k∈post,k≠i:=λk hk Y=>G1
     rw[OU,P2]at hc ⊢;rw[R]at hc;rw[js v y,mt rfl];have O:pre.filter (λj=> !(d.setIfInBounds i true).getD j false)=pre.filter (λi=> !d.getD i false):=OZ λk hk=>by rw[js v y,O2 (hp k hk)]
     have G:post.filter (λj=> !(d.setIfInBounds i true).getD j false)=post.filter (λi=> !d.getD i false):=OZ λk hk=>by rw[js v y,O2 (Z k hk)]
     rw[O,G];simp at hc ⊢;omega
    obtain⟨o,ho,j,D,C,hnj⟩:=M A k hk (by rw[js v y,O2 P];exact N) (λh=>F S0);rw[js v y]at C;by_cases X:j=i
    .grind
    .grind
theorem jO(ops:Array Oper)(t:Nat):Lin ops (Region.linearise .any ops t):=by
 have w:∀i,(Array.replicate ops.size false).getD i false=false:=λi=>by
  rw[Pa];by_cases hi:i<ops.size
  .simp[hi]
  .simp[hi]
 obtain⟨hA,y⟩:=M6 ops ops.size t (Array.replicate ops.size false) A1;refine⟨λs1 i s2 e=> ?_,λi hi A=> ?_⟩
 .obtain⟨B,_,a3,a4⟩:=hA s1 i s2 e;refine⟨B,a3,λo ho j d=> ?_⟩;rcases a4 o ho j d with h|h
  .grind
  .exact h
 .obtain⟨o,ho,j,d,_,v⟩:=y (P3 (List.length_filter_le _ _) A1) i hi (w i) A;exact⟨o,ho,j,d,v⟩
theorem Lin.nodup(l:Lin ops σ):∀s1 i s2,σ=s1++i::s2->i∉s1/\i∉s2:=λs1 i s2 e=>by
 refine⟨(l.ok s1 i s2 e).2.1,λhm=> ?_⟩;obtain⟨a,b,e2⟩:=P9 hm;exact(l.ok (s1++i::a) i b Rj).2.1 A1
theorem Lin.bef(l:Lin ops σ)(e:σ=s1++i::s2)(h:cO ops j i=true):j∈s1:=by
 obtain⟨h1,_,d⟩:=l.ok s1 i s2 e;have ho:=On h1;refine fN (X:=λj=>j∈s1) (λk o hk t m hm=> ?_) ho (d _ ho) h;obtain⟨a,b,e2⟩:=P9 t;have:=(l.ok a k (b++i::s2) Rj).2.2 o hk m hm;rw[e2];simp[this]
def pf(f:Nat->Nat->Bool):Td Nat->Bool
 |[]=>false
 |i::r=>r.any (f i)||pf f r
def iN(ops:Array Oper)(c:Td Nat)(i j:Nat):Bool:=cO ops i j||pf (λx y=>(x==i||cO ops i x)&&(y==j||cO ops y j)) c
theorem tM{f:Nat->Nat->Bool}(h:pf f c=true):∃a x b y d,c=a++x::b++y::d/\f x y=true:=by
 induction c with
 |nil=>cases h
 | cons i r t=>
  simp only[pf,Q3]at h;rcases h with h|h
  .obtain⟨y,v,j⟩:=List.any_eq_true.1 h;obtain⟨b,d,e⟩:=P9 v;exact⟨[],i,b,y,d,QJ,j⟩
  .obtain⟨a,x,b,y,d,e,j⟩:=t h;exact⟨i::a,x,b,y,d,QJ,j⟩
theorem kq{p:Nat->Bool}{a d:Td Nat}{y:Nat}(h:σ.filter p=a++y::d):∃u v,σ=u++y::v/\u.filter p=a/\v.filter p=d:=by
 induction σ generalizing a with
 |nil=>simp at h
 | cons z σ t=>
  rw[P2]at h;cases j:p z with
  | true=>
   rw[j]at h;simp only[if_true]at h;cases a with
   | nil=>
    simp at h;exact⟨[],σ,QQ,rfl,h.2⟩
   | cons w a=>
    simp at h;obtain⟨u,v,e1,e2,e3⟩:=t h.2;exact⟨z::u,v,by simp[e1],by rw[P2,j,mt rfl,e2,h.1],e3⟩
  | false=>
   rw[j]at h;simp at h;obtain⟨u,v,e1,e2,e3⟩:=t h;exact⟨z::u,v,by simp[e1],by simp[j,e2],e3⟩
theorem Lin.iN{ops:Array Oper}{σ c:Td Nat}(l:Lin ops σ)(hc:σ.filter c.contains=c){s1 s2:Td Nat}{i j:Nat}(e:σ=s1++i::s2)(h:iN ops c j i=true):j∈s1:=by
 simp only[Abs.iN,Q3]at h;rcases h with h|h
 .exact l.bef e h
 .obtain⟨a,x,b,y,d,J,D⟩:=tM h;simp only[bA,Q3,beq_iff_eq]at D;rw[J]at hc;obtain⟨u,v,e1,e2,_⟩:=kq hc;obtain⟨u1,u2,e3,_,_⟩:=kq (a:=a) (y:=x) (d:=b) e2
  -- x B in u1 ++ x :: u2 = u, y C N
  have A:j∈u:=by
   rcases D.1 with h|h
   .grind
   .have:=l.bef (s1:=u1) (s2:=u2++y::v) (by rw[e1,e3];simp) h;rw[e3];simp[this]
  rcases D.2 with h|h
  .subst h
   -- K same split
   have:s1=u:=by
    have E:=(l.nodup s1 y s2 e);have F:=(l.nodup u y v e1);have key:∀(p q r t:Td Nat),p++y::q=r++y::t->y∉p->y∉r->p=r:=by
     intro p
     induction p with
     | nil=>
      intro q r t h _ w;cases r with
      |nil=>rfl
      |cons z r=>simp at h;exact absurd QQ w
     | cons z p G=>
      intro q r t h hp w;cases r with
      |nil=>simp at h;exact absurd QQ hp
      | cons L r=>
       simp at h;rw[h.1,G q r t h.2 (λhm=>hp (by simp[hm])) (λhm=>w (by simp[hm]))]
    exact key _ _ _ _ (e▸e1) E.1 F.1
   rw[this];exact A
  .have M:y∈s1:=l.bef e h;obtain⟨p,q,H⟩:=P9 M;have I:σ=p++y::(q++i::s2):=by rw[e,H];simp
   have key:∀(p q r t:Td Nat),p++y::q=r++y::t->y∉p->y∉r->p=r:=by
    intro p
    induction p with
    | nil=>
     intro q r t h _ w;cases r with
     |nil=>rfl
     |cons z r=>simp at h;exact absurd QQ w
    | cons z p G=>
     intro q r t h hp w;cases r with
     |nil=>simp at h;exact absurd QQ hp
     | cons L r=>
      simp at h;rw[h.1,G q r t h.2 (λhm=>hp (by simp[hm])) (λhm=>w (by simp[hm]))]
   have:p=u:=key _ _ _ _ (I▸e1) (l.nodup _ _ _ I).1 (l.nodup _ _ _ e1).1;rw[H,this];simp[A]
def Hj(ops:Array Oper)(π c rd:Td Nat):Bool:=
 decide (π.length<=ops.size)&&(List.range ops.size).all π.contains&&π.all (λi=>decide (i<ops.size)&&(((ops[i]?).map dU).getD []).all (λj=>decide (j<ops.size)&&j !=i))&&
 cS (λi j=>i !=j&&(!iV ops i j||iN ops c i j)&&(!(c.contains i&&c.contains j)||iN ops c i j)&&(!(rd.contains i&&c.contains j)||iN ops c i j)&& !(((ops[i]?).map dU).getD []).contains j) π
structure PlanC(ops:Array Oper)(π ch rd:List Nat):Prop where
 all:∀i,i<ops.size->i∈π
 lt:∀i∈π,i<ops.size
 edge:∀i∈π,∀(o:Oper),ops[i]?=some o->∀j∈dU o,j<ops.size/\j≠i
 nd:cS (λi j=>i !=j) π=true
 pair:∀pre i post,π=pre++i::post->∀j∈post,i≠j/\(iV ops i j=true->iN ops ch i j=true)/\(ch.contains i=true->ch.contains j=true->iN ops ch i j=true)/\(rd.contains i=true->ch.contains j=true->iN ops ch i j=true)/\∀(o:Oper),ops[i]? =some o->j∉dU o
theorem jt(hp:Hj ops π ch rd=true):PlanC ops π ch rd:=by
 simp only[Hj,bA]at hp;obtain⟨⟨⟨bF,h⟩,v⟩,d⟩:=hp;refine⟨λi hi=> ?_,λi hi=> ?_,λi hi o ho j t=> ?_,?_,λpre i post e j t=> ?_⟩
 .simp_all
 .grind
 .grind
 .clear h v bF
  induction π with
  |nil=>rfl
  | cons x l y=>
   exact S9
 .exact S2
theorem pP{Q:Exit->Env->au->Prop}{Lf:Env}{hl:au}{hs:Td au}(O:PlanC ops π ch rd)(V:Lin ops σ)(hco:σ.filter ch.contains=ch)
  (d:DR P ops E ch rd π π L [h] Lf (hl::hs)) (hq:Q .normal Lf hl) {ι:Td Inf} {I:Nat->Prop} {a:Act} {w:World} (r:Rel E L h ι I a w):wpOps P ops (qQ E Q) σ a w:=by
 obtain⟨val,hLf,⟨nw,hnw,hnwl⟩,hkn⟩:=d.spec O.nd A1;have hrev:(hl::hs).length=cnt ch π+1:=RB
 have R:(hl::hs).reverse[cnt ch π]? =some hl:=G1
 have M:(hl::hs).reverse[0]? =some h:=by rw[hnw];simp
 obtain⟨H,hH⟩:∃H,H=(hl::hs).reverse:=⟨_,rfl⟩;rw[<-hH]at hkn R M;simp only[PP,Q9,Pp]at hkn;have hfull:∀i∈π,i∈σ:=by
  have hallX:∀(n:Nat)(pre post:Td Nat),pre.length=n->π=pre++post->∀i∈pre,i∈σ:=by
   intro n
   induction n with
   |zero=>intro pre post hl0 _ i hi;rw[nZ hl0]at hi;simp at hi
   | succ n ih=>
    intro pre' post hl0 e i hi;obtain⟨pre,x,rfl⟩:∃pre x,pre'=pre++[x]:=by
     rcases Q4 pre' with h0|⟨l,x,h0⟩
     .grind
     .grind
    have e':π=pre++x::post:=QJ
    have hpre:=ih pre (x::post) RI e';rcases List.mem_append.1 hi with hi|hi
    .exact hpre i hi
    .simp at hi;subst hi;have N:i∈π:=by rw[e'];simp
     apply Q6;intro W;obtain⟨o,ho,j,B,hnj⟩:=V.full i (O.lt i N) W;obtain⟨j1,j2⟩:=O.edge i N _ ho j B;have hjm:=O.all j j1;rw[e']at hjm;rcases List.mem_append.1 hjm with hjm|hjm
     .grind
     .rcases List.mem_cons.1 hjm with hjm|hjm
      .omega
      .exact absurd B ((O.pair pre i post e' j hjm).2.2.2.2 _ ho)
  exact hallX π.length π [] rfl A1
 have key:∀(s2 s1:Td Nat) (a:Act) (w:World) (ι:Td Inf) (I:Nat->Prop) (hc:au),σ=s1++s2->
   H[cnt ch (π.filter λi=>s1.contains i)]? =some hc->
   Rel E (aG ops val (π.filter λi=>s1.contains i) L) hc ι I a w->wpOps P ops (qQ E Q) s2 a w:=by
  intro s2
  induction s2 with
  | nil=>
   intro s1 a w ι I hc es y r;rw[OO]at es;subst es;have e:π.filter (λi=>σ.contains i)=π:=List.filter_eq_self.2 λi hi=>by simpa using hfull i hi
   rw[e]at y r;rw[R]at y;cases y;exact⟨Lf,hl,ι,I,hq,RQ⟩
  | cons i s2 ih=>
   intro s1 a w ι I hc es y r;obtain⟨hlt,W,_⟩:=V.ok s1 i s2 es;have hli:s1.contains i=false:=by simpa using W
   have ho:=On hlt;have N:=O.all i hlt;obtain⟨pre,post,e⟩:=P9 N;have S:∀{j},iN ops ch j i=true->s1.contains j=true:=λhb=>by simpa using V.iN hco es hb
   have X:∀{j},s1.contains j=true->iN ops ch i j=true->False:=λ{j} B hb=>by
    have B:j∈s1:=RL
    obtain⟨p,q,e2⟩:=P9 B;have:=V.iN hco (s1:=p) (s2:=q++i::s2) (by rw[es,e2];simp) hb;exact W (by rw[e2];simp[this])
   have C:∀k∈pre,k≠i/\(iV ops k i=true->iN ops ch k i=true)/\(ch.contains k=true->ch.contains i=true->iN ops ch k i=true):=λk hk=>by
    obtain⟨p1,p2,e2⟩:=P9 hk;have:=O.pair p1 k (p2++i::post) Rj i A1;exact SX
   have v:=O.pair pre i post e
   -- the filters
   have fX:π.filter (λi=>s1.contains i)=pre.filter (λi=>s1.contains i)++post.filter (λi=>s1.contains i):=G1
   have T:∀j,(s1++[i]).contains j=if j=i then true else s1.contains j:=λj=>G1
   have Y:π.filter (λj=>(s1++[i]).contains j)=pre.filter (λi=>s1.contains i)++i::post.filter (λi=>s1.contains i):=by
    rw[e,OU,P2];have a1:pre.filter (λj=>(s1++[i]).contains j)=pre.filter (λi=>s1.contains i):=OZ λk hk=>by rw[T,O2 (C k hk).1]
    have a2:post.filter (λj=>(s1++[i]).contains j)=post.filter (λi=>s1.contains i):=OZ λk hk=>by rw[T,O2 (λx=>(v k hk).1 x.symm)]
    rw[a1,a2,T,mt rfl];simp
   have cX:cnt ch (π.filter λi=>s1.contains i)=cnt ch (pre.filter λi=>s1.contains i)+cnt ch (post.filter λi=>s1.contains i):=by rw[fX,dp]
   obtain⟨o,D,hk⟩:=hkn pre i post e;have eo:o=ops[i]:=by rw[ho]at D;cases D;rfl
   -- the F sees what it saw
   have hsel:Sub (sel (aG ops val pre L) (o.looksAt ops)) (aG ops val (π.filter λi=>s1.contains i) L):=sel_sub λt ht=>by
    refine dy ?_;rw[fX,OU];have b1:(post.filter λi=>s1.contains i).filter (aU ops t)=[]:=dd λj B G=>by
     cases hw:aU ops t j with
     |false=>rfl
     | true=>
      exfalso;have hjl:=O.lt j RZ;have U:=On hjl;have hdj:ops[j].dst=some t:=by simpa [aU,bn,U]using hw
      cases A:iV ops i j with
      |true=>exact X G ((v j B).2.1 A)
      |false=>exact(cC D U A).2 t hdj ht
    have b2:(pre.filter λi=>s1.contains i).filter (aU ops t)=pre.filter (aU ops t):=by
     rw[QA];refine OZ λk hk=> ?_;cases hw:aU ops t k with
     |false=>simp
     | true=>
      simp only[O7];have hkl:=O.lt k RR;have hok:=On hkl;have hdk:ops[k].dst=some t:=Rb
      cases A:iV ops k i with
      |true=>exact S ((C k hk).2.1 A)
      |false=>exact absurd ht ((cC hok D A).1 t hdk).1
    rw[b1,b2,OO]
   -- what stands behind it
   have hsub:Sub (aG ops val (π.filter λj=>(s1++[i]).contains j) L) (bp o.dst (val i) (aG ops val (π.filter λi=>s1.contains i) L)):=λt x Z=>by
    rw[Y]at Z;have hgs:bn ops i=o.dst:=by simp[bn,D]
    by_cases hd:o.dst=some t
    .rw [hd];simp only[bp,OK,beq_self_eq_true];rw[fE]at Z;simp only[aG]at Z;rw[hgs,hd]at Z;have b1:(post.filter λi=>s1.contains i).filter (aU ops t)=[]:=dd λj B G=>by
      cases hw:aU ops t j with
      |false=>rfl
      | true=>
       exfalso;have hjl:=O.lt j RZ;have U:=On hjl;have hdj:ops[j].dst=some t:=by simpa [aU,bn,U]using hw
       cases A:iV ops i j with
       |true=>exact X G ((v j B).2.1 A)
       |false=>exact((cC D U A).1 t hd).2 hdj
     rw[bG ops val t _ _ _ rfl,b1]at Z;simpa [aG,bp]using Z
    .have hw:aU ops t i=false:=RY
     have e1:(aG ops val (pre.filter (λi=>s1.contains i)++i::post.filter (λi=>s1.contains i)) L).lookup t=(aG ops val (π.filter λi=>s1.contains i) L).lookup t:=by
      refine dy ?_;rw[fX,OU,OU,P2,hw];simp
     rw[e1]at Z;cases hdd:o.dst with
     |none=>exact Z
     | some d=>
      simp only[bp,OK];have:(t==d)=false:=QS
      rw[this];exact Z
   rw[wpOps_cons];have next:∀hc',H[cnt ch (π.filter λj=>(s1++[i]).contains j)]? =some hc'->OT P ops E o (sel (aG ops val pre L) (o.looksAt ops)) (val i) hc hc'->wpOp P ops (qQ E Q) i (wpOps P ops (qQ E Q) s2) a w:=by
    intro hc' hcH' J;exact J.sound hsel D r λι' I' a' w' r'=>ih (s1++[i]) a' w' ι' I' hc' (by rw[es];simp) hcH' (r'.gj hsub)
   rcases hk with⟨K,h1,h2,g1,g2,J⟩|⟨K,hrd,J⟩|⟨K,J⟩
   ·-- a chain F
    have c1:cnt ch (pre.filter λi=>s1.contains i)=cnt ch pre:=mc λk hk hkc=>S ((C k hk).2.2 hkc K);have c2:cnt ch (post.filter λi=>s1.contains i)=0:=fp λj B G=>by
     cases hcj:ch.contains j with
     |false=>rfl
     |true=>exact(X G ((v j B).2.2.1 K hcj)).elim
    have ehc:h1=hc:=by rw[cX,c1,c2,PF,g1]at y;cases y;rfl
    subst ehc;refine next h2 ?_ J
    rw[Y,dp,mQ K,c1,c2];exact g2
   ·-- a reader
    have c2:cnt ch (post.filter λi=>s1.contains i)=0:=fp λj B G=>by
     cases hcj:ch.contains j with
     |false=>rfl
     |true=>exact(X G ((v j B).2.2.2.1 hrd hcj)).elim
    have c1:cnt ch (pre.filter λi=>s1.contains i)<=cnt ch pre:=by
     have:=fw (ch:=ch) (l:=pre) (p:=λi=>s1.contains i) (q:=λ_=>true) (λ_ _ _=>rfl)
     rwa [List.filter_eq_self.2 (λ_ _=>rfl)]at this
    have c0:cnt ch (π.filter λj=>cO ops j i)<=cnt ch (π.filter λi=>s1.contains i):=fw λj _ hb=>S (by simp only[Abs.iN,hb,Bool.true_or]);refine next hc ?_ (J _ hc c0 RJ y)
    rw[Y,dp,gt K,<-cX];exact y
   .refine next hc ?_ (J hc)
    rw[Y,dp,gt K,<-cX];exact y
 have e0:π.filter (λi=>([]:Td Nat).contains i)=[]:=A1
 exact key σ [] a w ι I h rfl (by rw[e0];exact M) (by rw[e0];exact r)
theorem PlanC.cover(w:PlanC ops π ch rd)(B:Lin ops σ):∀i,i<ops.size->i∈σ:=by
 have t:∀(n:Nat)(pre post:Td Nat),pre.length=n->π=pre++post->∀i∈pre,i∈σ:=by
  intro n
  induction n with
  |zero=>intro pre post v _ i hi;rw[nZ v]at hi;simp at hi
  | succ n E=>
   intro d post v e i hi;obtain⟨pre,x,rfl⟩:∃pre x,d=pre++[x]:=by
    rcases Q4 d with h0|⟨l,x,h0⟩
    .grind
    .grind
   have A:π=pre++x::post:=QJ
   have y:=E pre (x::post) R6 A;rcases List.mem_append.1 hi with hi|hi
   .exact y i hi
   .simp at hi;subst hi;have h:i∈π:=by rw[A];simp
    apply Q6;intro C;obtain⟨o,ho,j,D,F⟩:=B.full i (w.lt i h) C;obtain⟨G,H⟩:=w.edge i h _ ho j D;have hjm:=w.all j G;rw[A]at hjm;rcases List.mem_append.1 hjm with hjm|hjm
    .grind
    .rcases List.mem_cons.1 hjm with hjm|hjm
     .omega
     .exact absurd D ((w.pair pre i post A j hjm).2.2.2.2 _ ho)
 exact λi hi=>t π.length π [] rfl A1 i (w.all i hi)
def E6(ops:Array Oper):Nat->Td Nat->Td (Td Nat)
 |0,_=>[[]]
 |n+1,cs=>cs.flatMap λi=>if cs.any (λj=>cO ops j i)then []else (E6 ops n (cs.filter (· !=i))).map (i::·)
theorem rP(t:Lin ops σ):∀(n:Nat)(cs:Td Nat),cs.length=n->cs.Nodup->(∀i∈cs,i∈σ)->σ.filter cs.contains∈E6 ops n cs:=by
 intro n
 induction n with
 | zero=>
  intro cs hl _ _;rw[nZ hl];simp[E6]
 | succ n F=>
  intro cs hl w A;cases D:σ.filter cs.contains with
  | nil=>
   exfalso;cases cs with
   |nil=>simp at hl
   | cons c cs=>
    have:c∈σ.filter (c::cs).contains:=List.mem_filter.2 ⟨A c A1,A1⟩;rw[D]at this;cases this
  | cons i rest=>
   obtain⟨u,v,e1,e2,e3⟩:=kq (a:=[]) (y:=i) (d:=rest) D;have B:i∈σ.filter cs.contains:=by rw[D];simp
   have h:i∈cs:=by simpa using (List.mem_filter.1 B).2
   have E:cs.any (λj=>cO ops j i)=false:=by
    rw[List.any_eq_false];intro j C G;have:=t.bef e1 G;have:j∈u.filter cs.contains:=List.mem_filter.2 ⟨this,by simpa using C⟩;rw[e2]at this;cases this
   simp only[E6,List.mem_flatMap];refine⟨i,h,?_⟩;rw[E];simp only[Qz,if_false,List.mem_map];refine⟨rest,?_,rfl⟩;have H:rest=σ.filter (cs.filter (· !=i)).contains:=by
    have K:=t.nodup u i v e1;have hc:∀j,(cs.filter (· !=i)).contains j=(cs.contains j&&j !=i):=λj=>G1
    rw[OZ (λj _=>hc j),e1,OU,P2];simp only[bne_self_eq_false,QC,Qz,if_false];have I:u.filter (λj=>cs.contains j&&j !=i)=u.filter cs.contains:=OZ λj C=>G1
    have J:v.filter (λj=>cs.contains j&&j !=i)=v.filter cs.contains:=OZ λj C=>G1
    rw[I,J,e2,e3];rfl
   rw[H];refine F _ ?_ (w.filter _) λj C=>A j (List.mem_filter.1 C).1;have:(cs.filter (· !=i)).length+1=cs.length:=by
    have:=w.erase_eq_filter i;rw[<-this,List.length_erase_of_mem h];have:=Qg h;omega
   omega
def AllL{α:Type}(f:α->Prop):Td α->Prop
 |[]=>True
 |x::r=>f x/\AllL f r
theorem AllL.get{f:α->Prop}{l:Td α}(h:AllL f l){x:α}(d:x∈l):f x:=by
 induction l with
 |nil=>cases d
 | cons y r j=>
  rcases List.mem_cons.1 d with e|e
  .subst e;exact h.1
  .exact j h.2 e
def mw(ops:Array Oper)(cs:Td Nat)(iK:Td (Td Nat×Td Nat×Td Nat)):Bool:=
 iK.all (λp=>Hj ops p.1 p.2.1 p.2.2&&p.2.1.all cs.contains&&cs.all p.2.1.contains)&&(E6 ops cs.length cs).all (λc=>iK.any λp=>p.2.1==c)&&cs.all (λi=>decide (i<ops.size))&&decide cs.Nodup&& !iK.isEmpty
theorem uK{Q:Exit->Env->au->Prop}{id:Nat}(hm:P.follows .mixedOrders=true)(cs:Td Nat)(iK:Td (Td Nat×Td Nat×Td Nat))(hp:mw ops cs iK=true)
  (d:AllL (λp=>dw P ops E p.2.1 p.2.2 p.1 p.1 L [h] (Q .normal)) iK):aw P (.region id ops true) E Q L h:=by
 refine⟨λι I a w r=> ?_⟩;simp only[mw,bA,aT,O8]at hp;obtain⟨⟨⟨⟨h1,h2⟩,G⟩,h4⟩,H⟩:=hp;refine wp_region_draw λt=> ?_;simp only[Region.schedule,hm,Bool.true_or,if_true];have j:=jO ops t;obtain⟨C,D⟩:∃C,C∈iK:=by
  cases iK with
  |nil=>simp at H
  |cons x _=>exact⟨x,A1⟩
 have F:=(jt (h1 C D).1.1).cover j;have y:=rP j cs.length cs rfl h4 λi hi=>F i (G i hi);obtain⟨p,A,B⟩:=List.any_eq_true.1 (h2 _ y);have B:p.2.1=(Region.linearise .any ops t).filter cs.contains:=RL
 obtain⟨⟨q1,q2⟩,q3⟩:=h1 p A;have v:(Region.linearise .any ops t).filter p.2.1.contains=p.2.1:=G1
 obtain⟨Lf,hl,J,K,k⟩:=(d.get A).get;exact pP (jt q1) j v K k (r.same rfl rfl rfl rfl)
end
end Go.Proofs.YtkegnipofloejaaGreatDoor.Abs
namespace Go.Proofs.YtkegnipofloejaaGreatDoor.Draw
open Go.RowKit
open Abs (bn cnt gt mQ dp fw fp mc cO iV dU aU cS cC dd PlanC Lin iN jt jO mw rP)
section
variable {β γ : Type}
section
variable {P:Program}{ops:Array Oper}
theorem pP[Inhabited β]{S:Sys P ops β γ}{Q:Exit->Act->World->Prop}{L Lf:Td (Nat×β)}{h hl:γ}{hs:Td γ}{π ch rd σ:Td Nat}(M:PlanC ops π ch rd)(U:Lin ops σ)(hco:σ.filter ch.contains=ch)
  (d:DR S ch rd π π L [h] Lf (hl::hs)) (hq:∀a w,S.Rel Lf hl a w->Q .normal a w) {a:Act} {w:World} (r:S.Rel L h a w):wpOps P ops Q σ a w:=by
 obtain⟨val,hLf,⟨nw,hnw,hnwl⟩,hkn⟩:=d.spec M.nd A1;have hrev:(hl::hs).length=cnt ch π+1:=RB
 have N:(hl::hs).reverse[cnt ch π]? =some hl:=G1
 have J:(hl::hs).reverse[0]? =some h:=by rw[hnw];simp
 obtain⟨H,hH⟩:∃H,H=(hl::hs).reverse:=⟨_,rfl⟩;rw[<-hH]at hkn N J;simp only[PP,Q9,Pp]at hkn;have hfull:∀i∈π,i∈σ:=by
  have hallX:∀(n:Nat)(pre post:Td Nat),pre.length=n->π=pre++post->∀i∈pre,i∈σ:=by
   intro n
   induction n with
   |zero=>intro pre post hl0 _ i hi;rw[nZ hl0]at hi;simp at hi
   | succ n ih=>
    intro pre' post hl0 e i hi;obtain⟨pre,x,rfl⟩:∃pre x,pre'=pre++[x]:=by
     rcases Q4 pre' with h0|⟨l,x,h0⟩
     .grind
     .grind
    have e':π=pre++x::post:=QJ
    have hpre:=ih pre (x::post) RI e';rcases List.mem_append.1 hi with hi|hi
    .exact hpre i hi
    .simp at hi;subst hi;have K:i∈π:=by rw[e'];simp
     apply Q6;intro V;obtain⟨o,ho,j,B,hnj⟩:=U.full i (M.lt i K) V;obtain⟨j1,j2⟩:=M.edge i K _ ho j B;have hjm:=M.all j j1;rw[e']at hjm;rcases List.mem_append.1 hjm with hjm|hjm
     .grind
     .rcases List.mem_cons.1 hjm with hjm|hjm
      .omega
      .exact absurd B ((M.pair pre i post e' j hjm).2.2.2.2 _ ho)
  exact hallX π.length π [] rfl A1
 have key:∀(s2 s1:Td Nat) (a:Act) (w:World) (hc:γ),σ=s1++s2->
   H[cnt ch (π.filter λi=>s1.contains i)]? =some hc->
   S.Rel (aG ops val (π.filter λi=>s1.contains i) L) hc a w->wpOps P ops Q s2 a w:=by
  intro s2
  induction s2 with
  | nil=>
   intro s1 a w hc es y r;rw[OO]at es;subst es;have e:π.filter (λi=>σ.contains i)=π:=List.filter_eq_self.2 λi hi=>by simpa using hfull i hi
   rw[e]at y r;rw[N]at y;cases y;exact hq _ _ RQ
  | cons i s2 ih=>
   intro s1 a w hc es y r;obtain⟨hlt,V,_⟩:=U.ok s1 i s2 es;have hli:s1.contains i=false:=by simpa using V
   have ho:=On hlt;have K:=M.all i hlt;obtain⟨pre,post,e⟩:=P9 K;have O:∀{j},iN ops ch j i=true->s1.contains j=true:=λhb=>by simpa using U.iN hco es hb
   have W:∀{j},s1.contains j=true->iN ops ch i j=true->False:=λ{j} B hb=>by
    have B:j∈s1:=RL
    obtain⟨p,q,e2⟩:=P9 B;have:=U.iN hco (s1:=p) (s2:=q++i::s2) (by rw[es,e2];simp) hb;exact V (by rw[e2];simp[this])
   have C:∀k∈pre,k≠i/\(iV ops k i=true->iN ops ch k i=true)/\(ch.contains k=true->ch.contains i=true->iN ops ch k i=true):=λk hk=>by
    obtain⟨p1,p2,e2⟩:=P9 hk;have:=M.pair p1 k (p2++i::post) Rj i A1;exact SX
   have v:=M.pair pre i post e
   -- the filters
   have fX:π.filter (λi=>s1.contains i)=pre.filter (λi=>s1.contains i)++post.filter (λi=>s1.contains i):=G1
   have R:∀j,(s1++[i]).contains j=if j=i then true else s1.contains j:=λj=>G1
   have X:π.filter (λj=>(s1++[i]).contains j)=pre.filter (λi=>s1.contains i)++i::post.filter (λi=>s1.contains i):=by
    rw[e,OU,P2];have a1:pre.filter (λj=>(s1++[i]).contains j)=pre.filter (λi=>s1.contains i):=OZ λk hk=>by rw[R,O2 (C k hk).1]
    have a2:post.filter (λj=>(s1++[i]).contains j)=post.filter (λi=>s1.contains i):=OZ λk hk=>by rw[R,O2 (λx=>(v k hk).1 x.symm)]
    rw[a1,a2,R,mt rfl];simp
   have cX:cnt ch (π.filter λi=>s1.contains i)=cnt ch (pre.filter λi=>s1.contains i)+cnt ch (post.filter λi=>s1.contains i):=by rw[fX,dp]
   obtain⟨o,D,hk⟩:=hkn pre i post e;have eo:o=ops[i]:=by rw[ho]at D;cases D;rfl
   -- the E sees what it saw
   have hsel:Sub (sel (aG ops val pre L) (o.looksAt ops)) (aG ops val (π.filter λi=>s1.contains i) L):=sel_sub λt ht=>by
    refine dy ?_;rw[fX,OU];have b1:(post.filter λi=>s1.contains i).filter (aU ops t)=[]:=dd λj B F=>by
     cases hw:aU ops t j with
     |false=>rfl
     | true=>
      exfalso;have hjl:=M.lt j RZ;have T:=On hjl;have hdj:ops[j].dst=some t:=by simpa [aU,bn,T]using hw
      cases A:iV ops i j with
      |true=>exact W F ((v j B).2.1 A)
      |false=>exact(cC D T A).2 t hdj ht
    have b2:(pre.filter λi=>s1.contains i).filter (aU ops t)=pre.filter (aU ops t):=by
     rw[QA];refine OZ λk hk=> ?_;cases hw:aU ops t k with
     |false=>simp
     | true=>
      simp only[O7];have hkl:=M.lt k RR;have hok:=On hkl;have hdk:ops[k].dst=some t:=Rb
      cases A:iV ops k i with
      |true=>exact O ((C k hk).2.1 A)
      |false=>exact absurd ht ((cC hok D A).1 t hdk).1
    rw[b1,b2,OO]
   -- what stands behind it
   have hsub:Sub (aG ops val (π.filter λj=>(s1++[i]).contains j) L) (bp o.dst (val i) (aG ops val (π.filter λi=>s1.contains i) L)):=λt x Y=>by
    rw[X]at Y;have hgs:bn ops i=o.dst:=by simp[bn,D]
    by_cases hd:o.dst=some t
    .rw [hd];simp only[bp,OK,beq_self_eq_true];rw[fE]at Y;simp only[aG]at Y;rw[hgs,hd]at Y;have b1:(post.filter λi=>s1.contains i).filter (aU ops t)=[]:=dd λj B F=>by
      cases hw:aU ops t j with
      |false=>rfl
      | true=>
       exfalso;have hjl:=M.lt j RZ;have T:=On hjl;have hdj:ops[j].dst=some t:=by simpa [aU,bn,T]using hw
       cases A:iV ops i j with
       |true=>exact W F ((v j B).2.1 A)
       |false=>exact((cC D T A).1 t hd).2 hdj
     rw[bG ops val t _ _ _ rfl,b1]at Y;simpa [aG,bp]using Y
    .have hw:aU ops t i=false:=RY
     have e1:(aG ops val (pre.filter (λi=>s1.contains i)++i::post.filter (λi=>s1.contains i)) L).lookup t=(aG ops val (π.filter λi=>s1.contains i) L).lookup t:=by
      refine dy ?_;rw[fX,OU,OU,P2,hw];simp
     rw[e1]at Y;cases hdd:o.dst with
     |none=>exact Y
     | some d=>
      simp only[bp,OK];have:(t==d)=false:=QS
      rw[this];exact Y
   rw[wpOps_cons];have next:∀Z,H[cnt ch (π.filter λj=>(s1++[i]).contains j)]? =some Z->S.OT o (sel (aG ops val pre L) (o.looksAt ops)) (val i) hc Z->wpOp P ops Q i (wpOps P ops Q s2) a w:=by
    intro Z hcH' G;exact S.sound G hsel D r λa' w' r'=>ih (s1++[i]) a' w' Z (by rw[es];simp) hcH' (S.gj r' hsub)
   rcases hk with⟨I,h1,h2,g1,g2,G⟩|⟨I,hrd,G⟩|⟨I,G⟩
   ·-- a chain E
    have c1:cnt ch (pre.filter λi=>s1.contains i)=cnt ch pre:=mc λk hk hkc=>O ((C k hk).2.2 hkc I);have c2:cnt ch (post.filter λi=>s1.contains i)=0:=fp λj B F=>by
     cases hcj:ch.contains j with
     |false=>rfl
     |true=>exact(W F ((v j B).2.2.1 I hcj)).elim
    have ehc:h1=hc:=by rw[cX,c1,c2,PF,g1]at y;cases y;rfl
    subst ehc;refine next h2 ?_ G
    rw[X,dp,mQ I,c1,c2];exact g2
   ·-- a reader
    have c2:cnt ch (post.filter λi=>s1.contains i)=0:=fp λj B F=>by
     cases hcj:ch.contains j with
     |false=>rfl
     |true=>exact(W F ((v j B).2.2.2.1 hrd hcj)).elim
    have c1:cnt ch (pre.filter λi=>s1.contains i)<=cnt ch pre:=by
     have:=fw (ch:=ch) (l:=pre) (p:=λi=>s1.contains i) (q:=λ_=>true) (λ_ _ _=>rfl)
     rwa [List.filter_eq_self.2 (λ_ _=>rfl)]at this
    have c0:cnt ch (π.filter λj=>cO ops j i)<=cnt ch (π.filter λi=>s1.contains i):=fw λj _ hb=>O (by simp only[Abs.iN,hb,Bool.true_or]);refine next hc ?_ (G _ hc c0 RJ y)
    rw[X,dp,gt I,<-cX];exact y
   .refine next hc ?_ (G hc)
    rw[X,dp,gt I,<-cX];exact y
 have e0:π.filter (λi=>([]:Td Nat).contains i)=[]:=A1
 exact key σ [] a w h rfl (by rw[e0];exact J) (by rw[e0];exact r)
theorem drawL[Inhabited β]{S:Sys P ops β γ}{Q:Exit->Act->World->Prop}{L:Td (Nat×β)}{h:γ}{id:Nat}(hm:P.follows .mixedOrders=true)(cs:Td Nat)(iK:Td (Td Nat×Td Nat×Td Nat))(hp:mw ops cs iK=true)
  (d:∀p∈iK,∃Lf hl hs,DR S p.2.1 p.2.2 p.1 p.1 L [h] Lf (hl::hs)/\∀a w,S.Rel Lf hl a w->Q .normal a w) {a:Act} {w:World} (r:S.Rel L h a w):(Code.region id ops true).wp P Q a w:=by
 simp only[mw,bA,aT,O8]at hp;obtain⟨⟨⟨⟨h1,h2⟩,F⟩,h4⟩,G⟩:=hp;refine wp_region_draw λt=> ?_;simp only[Region.schedule,hm,Bool.true_or,if_true];have j:=jO ops t;obtain⟨C,D⟩:∃C,C∈iK:=by
  cases iK with
  |nil=>simp at G
  |cons x _=>exact⟨x,A1⟩
 have E:=(jt (h1 C D).1.1).cover j;have y:=rP j cs.length cs rfl h4 λi hi=>E i (F i hi);obtain⟨p,A,B⟩:=List.any_eq_true.1 (h2 _ y);have B:p.2.1=(Region.linearise .any ops t).filter cs.contains:=RL
 obtain⟨⟨q1,q2⟩,q3⟩:=h1 p A;have v:(Region.linearise .any ops t).filter p.2.1.contains=p.2.1:=G1
 obtain⟨Lf,hl,H,I,k⟩:=d p A;exact pP (jt q1) j v I k (S.same r rfl rfl rfl rfl)
end
end
end Go.Proofs.YtkegnipofloejaaGreatDoor.Draw

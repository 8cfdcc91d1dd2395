/- merged -/
import Derived.Test.YtigoabbppmdfpaaGreatZRowPE2

namespace Go.Proofs.YtigoabbppmdfpaaGreat.Abs
open Go.RowKit
structure Lin(ops:Array Oper)(σ:List Nat):Prop where
 ok:∀s1 i s2,σ=s1++i::s2->i<ops.size/\i∉s1/\∀o,ops[i]? =some o->∀j∈eC o,j∈s1
 full:∀i,i<ops.size->i∉σ->∃o,ops[i]?=some o/\∃j∈eC o,j∉σ
theorem BU{d:Array Bool}{i n:Nat}(h:d.size=n)(hi:i<n):d.getD i true=d.getD i false:=Hd
theorem Ff{ops:Array Oper}{d:Array Bool}{i:Nat}(t:d.size=ops.size)(hi:i∈Region.ready .any ops d):i<ops.size/\d.getD i false=false/\∀(o:Oper),ops[i]? =some o->∀j∈eC o,d.getD j false=true:=by
 unfold Region.ready at hi;obtain⟨h1,h2⟩:=List.mem_filter.1 hi;have h1:=List.mem_range.1 h1;simp only[bA,OF]at h2;refine⟨h1,by rw[<-BU t h1];exact h2.1,λo ho j w=> ?_⟩;rw[ho]at h2;simp only[OG,P7]at h2;unfold eC at w;obtain⟨y,v,h⟩:=List.mem_filterMap.1 w;split at h
 .rename_i hb;cases h;have:=Array.all_eq_true'.1 h2.2 y Qe;simpa [hb]using this
 .cases h
theorem GQ{ops:Array Oper}{d:Array Bool}{i:Nat}{o:Oper}(h:d.size=ops.size)(ho:ops[i]? =some o)(t:d.getD i false=false)(hd:∀j∈eC o,d.getD j false=true):i∈Region.ready .any ops d:=by
 have hlt:=(Array.getElem?_eq_some_iff.1 ho).1;unfold Region.ready;refine List.mem_filter.2 ⟨List.mem_range.2 hlt,?_⟩;rw[BU h hlt,t,ho];simp only[NR,N6,OG,P7];rw[Array.all_eq_true'];intro v w;cases hb:Region.binds .any v with
 |false=>simp
 | true=>
  simp only[N5,PE];exact hd v.on (by unfold eC;exact List.mem_filterMap.2 ⟨v,PZ,by simp[hb]⟩)
theorem hZ{d:Array Bool}{i n:Nat}(h:d.size=n)(hi:i<n)(j:Nat):(d.setIfInBounds i true).getD j false=if j=i then true else d.getD j false:=by
 rw[On,On];by_cases t:j=i
 .grind
 .grind
theorem LF(ops:Array Oper):∀(ei t:Nat)(d:Array Bool),d.size=ops.size->
  (∀s1 i s2,Region.linearise.go .any ops ei t d []=s1++i::s2->i<ops.size/\d.getD i false=false/\i∉s1/\∀o,ops[i]? =some o->∀j∈eC o,d.getD j false=true\/j∈s1)/\
  (((List.range ops.size).filter fun i=> !d.getD i false).length<=ei->∀i,i<ops.size->d.getD i false=false->i∉Region.linearise.go .any ops ei t d []->
   ∃o,ops[i]?=some o/\∃j∈eC o,d.getD j false=false/\j∉Region.linearise.go .any ops ei t d []):=by
 intro ei
 induction ei with
 | zero=>
  intro t d v;refine⟨λs1 i s2 e=>by simp[Region.linearise.go]at e,λhc i hi A _=> ?_⟩;exfalso;have:i∈(List.range ops.size).filter λi=> !d.getD i false:=List.mem_filter.2 ⟨List.mem_range.2 hi,by rw[A];rfl⟩;have:=List.length_pos_of_mem this;omega
 | succ ei R=>
  intro t d v
  have S:Region.linearise.go .any ops (ei+1) t d []=(match (Region.ready .any ops d)[t%(Region.ready .any ops d).length]? with
   |some i=>Region.linearise.go .any ops ei (t / (Region.ready .any ops d).length) (d.setIfInBounds i true) [i]
   |none=>[].reverse):=rfl
  rw[S];cases hi:(Region.ready .any ops d)[t%(Region.ready .any ops d).length]? with
  | none=>
   have D:Region.ready .any ops d=[]:=by
    cases hr:Region.ready .any ops d with
    |nil=>rfl
    | cons x xs=>
     rw[hr]at hi;have hlt:t%(x::xs).length<(x::xs).length:=PP _ C3;simp at hi;simp at hlt;omega
   refine⟨λs1 i s2 e=>by simp at e,λhc i H A _=> ?_⟩;have ho:=gA H;refine⟨_,ho,?_⟩;apply PI;intro I;have:i∈Region.ready .any ops d:=GQ v ho A λj C=>by
    cases B:d.getD j false with
    |true=>rfl
    |false=>exact absurd ⟨j,C,B,C3⟩ I
   rw[D]at this;cases this
  | some i=>
   simp only[];rw[linearise_go_acc,List.reverse_singleton,List.singleton_append];obtain⟨w,P,T⟩:=Ff v (mG hi);obtain⟨J,K⟩:=R (t / (Region.ready .any ops d).length) (d.setIfInBounds i true) (by simp[v]);refine⟨λs1 k s2 e=> ?_,λhc k hk L E=> ?_⟩
   .cases s1 with
    | nil=>
     simp at e;obtain⟨rfl,_⟩:=e;exact⟨w,P,C3,λo ho j C=>.inl (T o ho j C)⟩
    | cons x s1=>
     simp at e;obtain⟨rfl,e⟩:=e;obtain⟨M,F,a3,a4⟩:=J s1 k s2 e;rw[hZ v w]at F;by_cases Q:k=i
     .grind
     .rw[N3 Q]at F;refine⟨M,F,by simp[Q,a3],λo ho j C=> ?_⟩;have:=a4 o ho j C;rw[hZ v w]at this;by_cases U:j=i
      .grind
      .grind
   .have N:k≠i:=λe=>E Qp;have y:((List.range ops.size).filter λj=> !(d.setIfInBounds i true).getD j false).length<=ei:=by
     have G:i∈List.range ops.size:=List.mem_range.2 w;obtain⟨pre,post,e⟩:=Ov G;have O:(List.range ops.size).Nodup:=List.nodup_range;rw[e]at O hc ⊢;have hp:∀k∈pre,k≠i:=λk hk V=>Hd
     have W:∀k∈post,k≠i:=λk hk V=>Hd
     rw[Oe,Og]at hc ⊢;rw[P]at hc;rw[hZ v w,N1 rfl];have M:pre.filter (λj=> !(d.setIfInBounds i true).getD j false)=pre.filter (λi=> !d.getD i false):=Of λk hk=>by rw[hZ v w,N3 (hp k hk)]
     have F:post.filter (λj=> !(d.setIfInBounds i true).getD j false)=post.filter (λi=> !d.getD i false):=Of λk hk=>by rw[hZ v w,N3 (W k hk)]
     rw[M,F];simp at hc ⊢;omega
    obtain⟨o,ho,j,C,B,X⟩:=K y k hk (by rw[hZ v w,N3 N];exact L) (λh=>E (by simp[h]));rw[hZ v w]at B;by_cases U:j=i
    .grind
    .grind
theorem lD(ops:Array Oper)(t:Nat):Lin ops (Region.linearise .any ops t):=by
 have w:∀i,(Array.replicate ops.size false).getD i false=false:=λi=>by
  rw[On];by_cases hi:i<ops.size
  .simp[hi]
  .simp[hi]
 obtain⟨hA,y⟩:=LF ops ops.size t (Array.replicate ops.size false) C3;refine⟨λs1 i s2 e=> ?_,λi hi A=> ?_⟩
 .obtain⟨B,_,a3,a4⟩:=hA s1 i s2 e;refine⟨B,a3,λo ho j d=> ?_⟩;rcases a4 o ho j d with h|h
  .grind
  .exact h
 .obtain⟨o,ho,j,d,_,v⟩:=y (NS (List.length_filter_le _ _) C3) i hi (w i) A;exact⟨o,ho,j,d,v⟩
theorem Lin.nodup{ops:Array Oper}{σ:RV Nat}(l:Lin ops σ):∀s1 i s2,σ=s1++i::s2->i∉s1/\i∉s2:=λs1 i s2 e=>by
 refine⟨(l.ok s1 i s2 e).2.1,λhm=> ?_⟩;obtain⟨a,b,d⟩:=Ov hm;exact(l.ok (s1++i::a) i b (by rw[e,d];simp)).2.1 C3
theorem Lin.bef{ops:Array Oper}{σ:RV Nat}(l:Lin ops σ){s1 s2:RV Nat}{i j:Nat}(e:σ=s1++i::s2)(h:dv ops j i=true):j∈s1:=by
 obtain⟨h1,_,t⟩:=l.ok s1 i s2 e;have ho:=gA h1;refine iI (X:=λj=>j∈s1) (λk o hk v m hm=> ?_) ho (t _ ho) h;obtain⟨a,b,d⟩:=Ov v;have:=(l.ok a k (b++i::s2) (by rw[e,d];simp)).2.2 o hk m hm;rw[d];simp[this]
def nR(f:Nat->Nat->Bool):RV Nat->Bool
 |[]=>false
 |i::r=>r.any (f i)||nR f r
def j9(ops:Array Oper)(c:RV Nat)(i j:Nat):Bool:=dv ops i j||nR (λx y=>(x==i||dv ops i x)&&(y==j||dv ops y j)) c
theorem tf{f:Nat->Nat->Bool}{c:RV Nat}(h:nR f c=true):∃a x b y d,c=a++x::b++y::d/\f x y=true:=by
 induction c with
 |nil=>cases h
 | cons i r t=>
  simp only[nR,Pd]at h;rcases h with h|h
  .obtain⟨y,v,j⟩:=List.any_eq_true.1 h;obtain⟨b,d,e⟩:=Ov v;exact⟨[],i,b,y,d,Qr,j⟩
  .obtain⟨a,x,b,y,d,e,j⟩:=t h;exact⟨i::a,x,b,y,d,Qr,j⟩
theorem jM{p:Nat->Bool}{σ a d:RV Nat}{y:Nat}(h:σ.filter p=a++y::d):∃u v,σ=u++y::v/\u.filter p=a/\v.filter p=d:=by
 induction σ generalizing a with
 |nil=>simp at h
 | cons z σ C=>
  rw[Og]at h;cases j:p z with
  | true=>
   rw[j]at h;simp only[if_true]at h;cases a with
   | nil=>
    simp at h;exact⟨[],σ,PY,rfl,h.2⟩
   | cons w a=>
    simp at h;obtain⟨u,v,t,A,B⟩:=C h.2;exact⟨z::u,v,QM,by rw[Og,j,N1 rfl,A,h.1],B⟩
  | false=>
   rw[j]at h;simp at h;obtain⟨u,v,t,A,B⟩:=C h;exact⟨z::u,v,QM,by simp[j,A],B⟩
theorem Lin.j9{ops:Array Oper}{σ c:RV Nat}(l:Lin ops σ)(hc:σ.filter c.contains=c){s1 s2:RV Nat}{i j:Nat}(e:σ=s1++i::s2)(h:j9 ops c j i=true):j∈s1:=by
 simp only[Abs.j9,Pd]at h;rcases h with h|h
 .exact l.bef e h
 .obtain⟨a,x,b,y,d,K,D⟩:=tf h;simp only[bA,Pd,beq_iff_eq]at D;rw[K]at hc;obtain⟨u,v,w,L,_⟩:=jM hc;obtain⟨u1,u2,H,_,_⟩:=jM (a:=a) (y:=x) (d:=b) L
  -- x B in u1 ++ x :: u2 = u, y C P
  have A:j∈u:=by
   rcases D.1 with h|h
   .grind
   .have:=l.bef (s1:=u1) (s2:=u2++y::v) (by rw[w,H];simp) h;rw[H];simp[this]
  rcases D.2 with h|h
  .subst h
   -- M same split
   have:s1=u:=by
    have E:=(l.nodup s1 y s2 e);have F:=(l.nodup u y v w);have key:∀(p q r t:RV Nat),p++y::q=r++y::t->y∉p->y∉r->p=r:=by
     intro p
     induction p with
     | nil=>
      intro q r t h _ hr;cases r with
      |nil=>rfl
      |cons z r=>simp at h;exact absurd PY hr
     | cons z p G=>
      intro q r t h hp hr;cases r with
      |nil=>simp at h;exact absurd PY hp
      | cons N r=>
       simp at h;rw[h.1,G q r t h.2 (λhm=>hp (by simp[hm])) (λhm=>hr (by simp[hm]))]
    exact key _ _ _ _ (e▸w) E.1 F.1
   rw[this];exact A
  .have O:y∈s1:=l.bef e h;obtain⟨p,q,I⟩:=Ov O;have J:σ=p++y::(q++i::s2):=by rw[e,I];simp
   have key:∀(p q r t:RV Nat),p++y::q=r++y::t->y∉p->y∉r->p=r:=by
    intro p
    induction p with
    | nil=>
     intro q r t h _ hr;cases r with
     |nil=>rfl
     |cons z r=>simp at h;exact absurd PY hr
    | cons z p G=>
     intro q r t h hp hr;cases r with
     |nil=>simp at h;exact absurd PY hp
     | cons N r=>
      simp at h;rw[h.1,G q r t h.2 (λhm=>hp (by simp[hm])) (λhm=>hr (by simp[hm]))]
   have:p=u:=key _ _ _ _ (J▸w) (l.nodup _ _ _ J).1 (l.nodup _ _ _ w).1;rw[I,this];simp[A]
def FZ(ops:Array Oper)(π c rd:RV Nat):Bool:=
 decide (π.length<=ops.size)&&(List.range ops.size).all π.contains&&π.all (λi=>decide (i<ops.size)&&(((ops[i]?).map eC).getD []).all (λj=>decide (j<ops.size)&&j !=i))&&
 dt (λi j=>i !=j&&(!lw ops i j||j9 ops c i j)&&(!(c.contains i&&c.contains j)||j9 ops c i j)&&(!(rd.contains i&&c.contains j)||j9 ops c i j)&& !(((ops[i]?).map eC).getD []).contains j) π
structure PlanC(ops:Array Oper)(π ch rd:List Nat):Prop where
 all:∀i,i<ops.size->i∈π
 lt:∀i∈π,i<ops.size
 edge:∀i∈π,∀(o:Oper),ops[i]?=some o->∀j∈eC o,j<ops.size/\j≠i
 nd:dt (λi j=>i !=j) π=true
 pair:∀pre i post,π=pre++i::post->∀j∈post,i≠j/\(lw ops i j=true->j9 ops ch i j=true)/\(ch.contains i=true->ch.contains j=true->j9 ops ch i j=true)/\(rd.contains i=true->ch.contains j=true->j9 ops ch i j=true)/\∀(o:Oper),ops[i]? =some o->j∉eC o
theorem lZ{ops:Array Oper}{π ch rd:RV Nat}(hp:FZ ops π ch rd=true):PlanC ops π ch rd:=by
 simp only[FZ,bA]at hp;obtain⟨⟨⟨bJ,h⟩,hlt⟩,d⟩:=hp;refine⟨λi hi=> ?_,λi hi=> ?_,λi hi o ho j t=> ?_,?_,λpre i post e j t=> ?_⟩
 .simp_all
 .grind
 .grind
 .clear h hlt bJ
  induction π with
  |nil=>rfl
  | cons x l w=>
   exact R0
 .exact QY
theorem PlanC.cover{ops:Array Oper}{π ch rd σ:RV Nat}(w:PlanC ops π ch rd)(B:Lin ops σ):∀i,i<ops.size->i∈σ:=by
 have t:∀(n:Nat)(pre post:RV Nat),pre.length=n->π=pre++post->∀i∈pre,i∈σ:=by
  intro n
  induction n with
  |zero=>intro pre post v _ i hi;rw[nZ v]at hi;simp at hi
  | succ n E=>
   intro d post v e i hi;obtain⟨pre,x,rfl⟩:∃pre x,d=pre++[x]:=by
    rcases List.eq_nil_or_concat d with h0|⟨l,x,h0⟩
    .grind
    .grind
   have A:π=pre++x::post:=Qr
   have y:=E pre (x::post) Qe A;rcases List.mem_append.1 hi with hi|hi
   .exact y i hi
   .simp at hi;subst hi;have h:i∈π:=by rw[A];simp
    apply PI;intro C;obtain⟨o,ho,j,D,F⟩:=B.full i (w.lt i h) C;obtain⟨G,H⟩:=w.edge i h _ ho j D;have hjm:=w.all j G;rw[A]at hjm;rcases List.mem_append.1 hjm with hjm|hjm
    .grind
    .rcases List.mem_cons.1 hjm with hjm|hjm
     .omega
     .exact absurd D ((w.pair pre i post A j hjm).2.2.2.2 _ ho)
 exact λi hi=>t π.length π [] rfl C3 i (w.all i hi)
def EP(ops:Array Oper):Nat->RV Nat->RV (RV Nat)
 |0,_=>[[]]
 |n+1,cs=>cs.flatMap λi=>if cs.any (λj=>dv ops j i)then []else (EP ops n (cs.filter (· !=i))).map (i::·)
theorem xM{ops:Array Oper}{σ:RV Nat}(t:Lin ops σ):∀(n:Nat)(cs:RV Nat),cs.length=n->cs.Nodup->(∀i∈cs,i∈σ)->σ.filter cs.contains∈EP ops n cs:=by
 intro n
 induction n with
 | zero=>
  intro cs hl _ _;rw[nZ hl];simp[EP]
 | succ n H=>
  intro cs hl w A;cases D:σ.filter cs.contains with
  | nil=>
   exfalso;cases cs with
   |nil=>simp at hl
   | cons c cs=>
    have:c∈σ.filter (c::cs).contains:=List.mem_filter.2 ⟨A c C3,C3⟩;rw[D]at this;cases this
  | cons i rest=>
   obtain⟨u,v,E,G,I⟩:=jM (a:=[]) (y:=i) (d:=rest) D;have B:i∈σ.filter cs.contains:=by rw[D];simp
   have h:i∈cs:=by simpa using (List.mem_filter.1 B).2
   have F:cs.any (λj=>dv ops j i)=false:=by
    rw[List.any_eq_false];intro j C hb;have:=t.bef E hb;have:j∈u.filter cs.contains:=List.mem_filter.2 ⟨this,by simpa using C⟩;rw[G]at this;cases this
   simp only[EP,List.mem_flatMap];refine⟨i,h,?_⟩;rw[F];simp only[PJ,if_false,List.mem_map];refine⟨rest,?_,rfl⟩;have J:rest=σ.filter (cs.filter (· !=i)).contains:=by
    have M:=t.nodup u i v E;have hc:∀j,(cs.filter (· !=i)).contains j=(cs.contains j&&j !=i):=λj=>Hd
    rw[Of (λj _=>hc j),E,Oe,Og];simp only[bne_self_eq_false,Bool.and_false,PJ,if_false];have K:u.filter (λj=>cs.contains j&&j !=i)=u.filter cs.contains:=Of λj C=>Hd
    have L:v.filter (λj=>cs.contains j&&j !=i)=v.filter cs.contains:=Of λj C=>Hd
    rw[K,L,G,I];rfl
   rw[J];refine H _ ?_ (w.filter _) λj C=>A j (List.mem_filter.1 C).1;have:(cs.filter (· !=i)).length+1=cs.length:=by
    have:=w.erase_eq_filter i;rw[<-this,List.length_erase_of_mem h];have:=List.length_pos_of_mem h;omega
   omega
def qo(ops:Array Oper)(cs:RV Nat)(kp:RV (RV Nat×RV Nat×RV Nat)):Bool:=
 kp.all (λp=>FZ ops p.1 p.2.1 p.2.2&&p.2.1.all cs.contains&&cs.all p.2.1.contains)&&(EP ops cs.length cs).all (λc=>kp.any λp=>p.2.1==c)&&cs.all (λi=>decide (i<ops.size))&&decide cs.Nodup&& !kp.isEmpty
end Go.Proofs.YtigoabbppmdfpaaGreat.Abs
namespace Go.Proofs.YtigoabbppmdfpaaGreat.Draw
open Go.RowKit
open Abs (cn cnt lN tD fQ i6 jh p8 dv lw eC bP dt dO eJ PlanC Lin j9 lZ lD qo xM)
section
variable {β γ : Type}
theorem CY[Inhabited β]{P:Program}{ops:Array Oper}{S:Sys P ops β γ}{Q:Exit->Act->World->Prop}{L Lf:RV (Nat×β)}{h hl:γ}{hs:RV γ}{π ch rd σ:RV Nat}(M:PlanC ops π ch rd)(U:Lin ops σ)(hco:σ.filter ch.contains=ch)
  (d:DR S ch rd π π L [h] Lf (hl::hs)) (hq:∀a w,S.Rel Lf hl a w->Q .normal a w) {a:Act} {w:World} (r:S.Rel L h a w):wpOps P ops Q σ a w:=by
 obtain⟨val,hLf,⟨nw,hnw,hnwl⟩,hkn⟩:=d.spec M.nd C3;have hrev:(hl::hs).length=cnt ch π+1:=by rw[hnw];simp[hnwl]
 have N:(hl::hs).reverse[cnt ch π]? =some hl:=Hd
 have J:(hl::hs).reverse[0]? =some h:=by rw[hnw];simp
 obtain⟨H,hH⟩:∃H,H=(hl::hs).reverse:=⟨_,rfl⟩;rw[<-hH]at hkn N J;simp only[OU,Po,Ou]at hkn;have hfull:∀i∈π,i∈σ:=by
  have hallX:∀(n:Nat)(pre post:RV Nat),pre.length=n->π=pre++post->∀i∈pre,i∈σ:=by
   intro n
   induction n with
   |zero=>intro pre post hl0 _ i hi;rw[nZ hl0]at hi;simp at hi
   | succ n ih=>
    intro Z post hl0 e i hi;obtain⟨pre,x,rfl⟩:∃pre x,Z=pre++[x]:=by
     rcases List.eq_nil_or_concat Z with h0|⟨l,x,h0⟩
     .grind
     .grind
    have e':π=pre++x::post:=Qr
    have hpre:=ih pre (x::post) (by simpa using hl0) e';rcases List.mem_append.1 hi with hi|hi
    .exact hpre i hi
    .simp at hi;subst hi;have K:i∈π:=by rw[e'];simp
     apply PI;intro V;obtain⟨o,ho,j,B,hnj⟩:=U.full i (M.lt i K) V;obtain⟨j1,j2⟩:=M.edge i K _ ho j B;have hjm:=M.all j j1;rw[e']at hjm;rcases List.mem_append.1 hjm with hjm|hjm
     .grind
     .rcases List.mem_cons.1 hjm with hjm|hjm
      .omega
      .exact absurd B ((M.pair pre i post e' j hjm).2.2.2.2 _ ho)
  exact hallX π.length π [] rfl C3
 have key:∀(s2 s1:RV Nat) (a:Act) (w:World) (hc:γ),σ=s1++s2->
   H[cnt ch (π.filter λi=>s1.contains i)]? =some hc->
   S.Rel (ba ops val (π.filter λi=>s1.contains i) L) hc a w->wpOps P ops Q s2 a w:=by
  intro s2
  induction s2 with
  | nil=>
   intro s1 a w hc es y r;rw[Ok]at es;subst es;have e:π.filter (λi=>σ.contains i)=π:=List.filter_eq_self.2 λi hi=>by simpa using hfull i hi
   rw[e]at y r;rw[N]at y;cases y;exact hq _ _ (by rw[hLf];exact r)
  | cons i s2 ih=>
   intro s1 a w hc es y r;obtain⟨hlt,V,_⟩:=U.ok s1 i s2 es;have hli:s1.contains i=false:=by simpa using V
   have ho:=gA hlt;have K:=M.all i hlt;obtain⟨pre,post,e⟩:=Ov K;have O:∀{j},j9 ops ch j i=true->s1.contains j=true:=λhb=>by simpa using U.j9 hco es hb
   have W:∀{j},s1.contains j=true->j9 ops ch i j=true->False:=λ{j} B hb=>by
    have B:j∈s1:=by simpa using B
    obtain⟨p,q,e2⟩:=Ov B;have:=U.j9 hco (s1:=p) (s2:=q++i::s2) (by rw[es,e2];simp) hb;exact V (by rw[e2];simp[this])
   have C:∀k∈pre,k≠i/\(lw ops k i=true->j9 ops ch k i=true)/\(ch.contains k=true->ch.contains i=true->j9 ops ch k i=true):=λk hk=>by
    obtain⟨p1,p2,e2⟩:=Ov hk;have:=M.pair p1 k (p2++i::post) (by rw[e,e2];simp) i C3;exact⟨this.1,this.2.1,this.2.2.1⟩
   have v:=M.pair pre i post e
   -- the filters
   have fX:π.filter (λi=>s1.contains i)=pre.filter (λi=>s1.contains i)++post.filter (λi=>s1.contains i):=Hd
   have R:∀j,(s1++[i]).contains j=if j=i then true else s1.contains j:=λj=>Hd
   have X:π.filter (λj=>(s1++[i]).contains j)=pre.filter (λi=>s1.contains i)++i::post.filter (λi=>s1.contains i):=by
    rw[e,Oe,Og];have a1:pre.filter (λj=>(s1++[i]).contains j)=pre.filter (λi=>s1.contains i):=Of λk hk=>by rw[R,N3 (C k hk).1]
    have a2:post.filter (λj=>(s1++[i]).contains j)=post.filter (λi=>s1.contains i):=Of λk hk=>by rw[R,N3 (λx=>(v k hk).1 x.symm)]
    rw[a1,a2,R,N1 rfl];simp
   have cX:cnt ch (π.filter λi=>s1.contains i)=cnt ch (pre.filter λi=>s1.contains i)+cnt ch (post.filter λi=>s1.contains i):=by rw[fX,fQ]
   obtain⟨o,D,hk⟩:=hkn pre i post e;have eo:o=ops[i]:=by rw[ho]at D;cases D;rfl
   -- the E sees what it saw
   have hsel:Sub (sel (ba ops val pre L) (o.looksAt ops)) (ba ops val (π.filter λi=>s1.contains i) L):=sel_sub λt ht=>by
    refine iH ?_;rw[fX,Oe];have b1:(post.filter λi=>s1.contains i).filter (bP ops t)=[]:=eJ λj B F=>by
     cases hw:bP ops t j with
     |false=>rfl
     | true=>
      exfalso;have hjl:=M.lt j (by rw[e];simp[B]);have T:=gA hjl;have hdj:ops[j].dst=some t:=by simpa [bP,cn,T]using hw
      cases A:lw ops i j with
      |true=>exact W F ((v j B).2.1 A)
      |false=>exact(dO D T A).2 t hdj ht
    have b2:(pre.filter λi=>s1.contains i).filter (bP ops t)=pre.filter (bP ops t):=by
     rw[List.filter_filter];refine Of λk hk=> ?_;cases hw:bP ops t k with
     |false=>simp
     | true=>
      simp only[N6];have hkl:=M.lt k (by rw[e];simp[hk]);have hok:=gA hkl;have hdk:ops[k].dst=some t:=by simpa [bP,cn,hok]using hw
      cases A:lw ops k i with
      |true=>exact O ((C k hk).2.1 A)
      |false=>exact absurd ht ((dO hok D A).1 t hdk).1
    rw[b1,b2,Ok]
   -- what stands behind it
   have hsub:Sub (ba ops val (π.filter λj=>(s1++[i]).contains j) L) (cK o.dst (val i) (ba ops val (π.filter λi=>s1.contains i) L)):=λt x hx=>by
    rw[X]at hx;have hgs:cn ops i=o.dst:=by simp[cn,D]
    by_cases hd:o.dst=some t
    .rw [hd];simp only[cK,NT,beq_self_eq_true];rw[mw]at hx;simp only[ba]at hx;rw[hgs,hd]at hx;have b1:(post.filter λi=>s1.contains i).filter (bP ops t)=[]:=eJ λj B F=>by
      cases hw:bP ops t j with
      |false=>rfl
      | true=>
       exfalso;have hjl:=M.lt j (by rw[e];simp[B]);have T:=gA hjl;have hdj:ops[j].dst=some t:=by simpa [bP,cn,T]using hw
       cases A:lw ops i j with
       |true=>exact W F ((v j B).2.1 A)
       |false=>exact((dO D T A).1 t hd).2 hdj
     rw[dh ops val t _ _ _ rfl,b1]at hx;simpa [ba,cK]using hx
    .have hw:bP ops t i=false:=by simp[bP,hgs,hd]
     have e1:(ba ops val (pre.filter (λi=>s1.contains i)++i::post.filter (λi=>s1.contains i)) L).lookup t=(ba ops val (π.filter λi=>s1.contains i) L).lookup t:=by
      refine iH ?_;rw[fX,Oe,Oe,Og,hw];simp
     rw[e1]at hx;cases hdd:o.dst with
     |none=>exact hx
     | some d=>
      simp only[cK,NT];have:(t==d)=false:=by simpa using λx=>hd (by rw[hdd,x])
      rw[this];exact hx
   rw[wpOps_cons];have next:∀Y,H[cnt ch (π.filter λj=>(s1++[i]).contains j)]? =some Y->S.OT o (sel (ba ops val pre L) (o.looksAt ops)) (val i) hc Y->wpOp P ops Q i (wpOps P ops Q s2) a w:=by
    intro Y hcH' G;exact S.sound G hsel D r λa' w' r'=>ih (s1++[i]) a' w' Y (by rw[es];simp) hcH' (S.j4 r' hsub)
   rcases hk with⟨I,h1,h2,g1,g2,G⟩|⟨I,hrd,G⟩|⟨I,G⟩
   ·-- a chain E
    have c1:cnt ch (pre.filter λi=>s1.contains i)=cnt ch pre:=p8 λk hk hkc=>O ((C k hk).2.2 hkc I);have c2:cnt ch (post.filter λi=>s1.contains i)=0:=jh λj B F=>by
     cases hcj:ch.contains j with
     |false=>rfl
     |true=>exact(W F ((v j B).2.2.1 I hcj)).elim
    have ehc:h1=hc:=by rw[cX,c1,c2,OD,g1]at y;cases y;rfl
    subst ehc;refine next h2 ?_ G
    rw[X,fQ,tD I,c1,c2];exact g2
   ·-- a reader
    have c2:cnt ch (post.filter λi=>s1.contains i)=0:=jh λj B F=>by
     cases hcj:ch.contains j with
     |false=>rfl
     |true=>exact(W F ((v j B).2.2.2.1 hrd hcj)).elim
    have c1:cnt ch (pre.filter λi=>s1.contains i)<=cnt ch pre:=by
     have:=i6 (ch:=ch) (l:=pre) (p:=λi=>s1.contains i) (q:=λ_=>true) (λ_ _ _=>rfl)
     rwa [List.filter_eq_self.2 (λ_ _=>rfl)]at this
    have c0:cnt ch (π.filter λj=>dv ops j i)<=cnt ch (π.filter λi=>s1.contains i):=i6 λj _ hb=>O (by simp only[Abs.j9,hb,Bool.true_or]);refine next hc ?_ (G _ hc c0 (by rw[cX,c2];omega) y)
    rw[X,fQ,lN I,<-cX];exact y
   .refine next hc ?_ (G hc)
    rw[X,fQ,lN I,<-cX];exact y
 have e0:π.filter (λi=>([]:RV Nat).contains i)=[]:=C3
 exact key σ [] a w h rfl (by rw[e0];exact J) (by rw[e0];exact r)
theorem drawL[Inhabited β]{P:Program}{ops:Array Oper}{S:Sys P ops β γ}{Q:Exit->Act->World->Prop}{L:RV (Nat×β)}{h:γ}{id:Nat}(hm:P.follows .mixedOrders=true)(cs:RV Nat)(kp:RV (RV Nat×RV Nat×RV Nat))(hp:qo ops cs kp=true)
  (d:∀p∈kp,∃Lf hl hs,DR S p.2.1 p.2.2 p.1 p.1 L [h] Lf (hl::hs)/\∀a w,S.Rel Lf hl a w->Q .normal a w) {a:Act} {w:World} (r:S.Rel L h a w):(Code.region id ops true).wp P Q a w:=by
 simp only[qo,bA,aT,NO]at hp;obtain⟨⟨⟨⟨h1,h2⟩,F⟩,h4⟩,G⟩:=hp;refine wp_region_draw λt=> ?_;simp only[Region.schedule,hm,Bool.true_or,if_true];have j:=lD ops t;obtain⟨C,D⟩:∃C,C∈kp:=by
  cases kp with
  |nil=>simp at G
  |cons x _=>exact⟨x,C3⟩
 have E:=(lZ (h1 C D).1.1).cover j;have y:=xM j cs.length cs rfl h4 λi hi=>E i (F i hi);obtain⟨p,A,B⟩:=List.any_eq_true.1 (h2 _ y);have B:p.2.1=(Region.linearise .any ops t).filter cs.contains:=by simpa using B
 obtain⟨⟨q1,q2⟩,q3⟩:=h1 p A;have v:(Region.linearise .any ops t).filter p.2.1.contains=p.2.1:=Hd
 obtain⟨Lf,hl,H,I,k⟩:=d p A;exact CY (lZ q1) j v I k (S.same r rfl rfl rfl rfl)
end
end Go.Proofs.YtigoabbppmdfpaaGreat.Draw

/-
  Texts that the claim rests on, merged: AbsSched, DrawL.
-/
import Derived.Test.YtfdkldmkbibknaaGreatZRowTx4

namespace Go.Proofs.YtfdkldmkbibknaaGreat.Abs
open Go.RowKit
section
variable [Zb]
structure Lin (ops:Array Oper) (σ:List Nat):Prop where
 ok:∀s1 i s2,σ=s1++i::s2->i<ops.size/\i∉s1/\∀o,ops[i]? =some o->∀j∈cH o,j∈s1
 full:∀i,i<ops.size->i∉σ->∃o,ops[i]? =some o/\∃j∈cH o,j∉σ
omit [Zb]in
theorem vn {listed:Array Bool} {i n:Nat} (hsz:listed.size=n) (hi:i<n):listed.getD i true=listed.getD i false:=by
 simp[Array.getD,hsz,hi]
omit [Zb]in
theorem Ah {ops:Array Oper} {listed:Array Bool} {i:Nat} (hsz:listed.size=ops.size) (hi:i∈Region.ready .any ops listed):i<ops.size/\listed.getD i false=false/\∀(o:Oper),ops[i]? =some o->∀j∈cH o,listed.getD j false=true:=by
 unfold Region.ready at hi;obtain⟨h1,h2⟩:=List.mem_filter.1 hi;have h1:=List.mem_range.1 h1;simp only[bA,Bool.not_eq_true']at h2;refine⟨h1,by rw[<-vn hsz h1];exact h2.1,λo ho j hj=> ?_⟩;rw[ho]at h2;simp only[Option.map_some,Option.getD_some]at h2;unfold cH at hj;obtain⟨ed,hed,hif⟩:=List.mem_filterMap.1 hj;split at hif
 ·rename_i hb;cases hif;have:=Array.all_eq_true'.1 h2.2 ed (by simpa using hed);simpa [hb]using this
 ·cases hif
omit [Zb]in
theorem yn {ops:Array Oper} {listed:Array Bool} {i:Nat} {o:Oper} (hsz:listed.size=ops.size) (ho:ops[i]? =some o) (hli:listed.getD i false=false) (hd:∀j∈cH o,listed.getD j false=true):i∈Region.ready .any ops listed:=by
 have hlt:=(Array.getElem?_eq_some_iff.1 ho).1;unfold Region.ready;refine List.mem_filter.2 ⟨List.mem_range.2 hlt,?_⟩;rw[vn hsz hlt,hli,ho];simp only[Bool.not_false,Bool.true_and,Option.map_some,Option.getD_some];rw[Array.all_eq_true'];intro ed hed;cases hb:Region.binds .any ed with
 |false=>simp
 | true =>
  simp only[Bool.not_true,Bool.false_or];exact hd ed.on (by unfold cH;exact List.mem_filterMap.2 ⟨ed,by simpa using hed,by simp[hb]⟩)
omit [Zb]in
theorem eZ {listed:Array Bool} {i n:Nat} (hsz:listed.size=n) (hi:i<n) (j:Nat):(listed.setIfInBounds i true).getD j false=if j=i then true else listed.getD j false:=by
 rw[Array.getD_eq_getD_getElem?,Array.getD_eq_getD_getElem?];by_cases ej:j=i
 ·subst ej;simp[hsz,hi]
 ·rw[Array.getElem?_setIfInBounds_ne (λx=>ej x.symm),if_neg ej]
omit [Zb]in
theorem EJ (ops:Array Oper):∀(fuel t:Nat) (listed:Array Bool),listed.size=ops.size->
  (∀s1 i s2,Region.linearise.go .any ops fuel t listed []=s1++i::s2->i<ops.size/\listed.getD i false=false/\i∉s1/\∀o,ops[i]? =some o->∀j∈cH o,listed.getD j false=true\/j∈s1)/\
  (((List.range ops.size).filter fun i => !listed.getD i false).length ≤ fuel → ∀ i, i < ops.size → listed.getD i false = false → i ∉ Region.linearise.go .any ops fuel t listed [] →
   ∃o,ops[i]? =some o/\∃j∈cH o,listed.getD j false=false/\j∉Region.linearise.go .any ops fuel t listed []):=by
 intro fuel
 induction fuel with
 | zero =>
  intro t listed hsz;refine⟨λs1 i s2 e=>by simp[Region.linearise.go]at e,λhc i hi hli _=> ?_⟩;exfalso;have:i∈(List.range ops.size).filter λi=> !listed.getD i false:=List.mem_filter.2 ⟨List.mem_range.2 hi,by rw[hli];rfl⟩;have:=List.length_pos_of_mem this;omega
 | succ fuel ih =>
  intro t listed hsz
  have e0:Region.linearise.go .any ops (fuel+1) t listed []=(match (Region.ready .any ops listed)[t%(Region.ready .any ops listed).length]? with
   |some i=>Region.linearise.go .any ops fuel (t / (Region.ready .any ops listed).length) (listed.setIfInBounds i true) [i]
   |none=>[].reverse):=rfl
  rw[e0];cases hi:(Region.ready .any ops listed)[t%(Region.ready .any ops listed).length]? with
  | none =>
   have hnil:Region.ready .any ops listed=[]:=by
    cases hr:Region.ready .any ops listed with
    |nil=>rfl
    | cons x xs =>
     rw[hr]at hi;have hlt:t%(x::xs).length<(x::xs).length:=Nat.mod_lt _ (by simp);simp at hi;simp at hlt;omega
   refine⟨λs1 i s2 e=>by simp at e,λhc i hil hli _=> ?_⟩;have ho:=gA hil;refine⟨_,ho,?_⟩;apply Classical.byContradiction;intro hno;have:i∈Region.ready .any ops listed:=yn hsz ho hli λj hj=>by
    cases hlj:listed.getD j false with
    |true=>rfl
    |false=>exact absurd ⟨j,hj,hlj,by simp⟩ hno
   rw[hnil]at this;cases this
  | some i =>
   simp only[];rw[linearise_go_acc,List.reverse_singleton,List.singleton_append];obtain⟨r1,r2,r3⟩:=Ah hsz (mG hi);obtain⟨ihA,ihB⟩:=ih (t / (Region.ready .any ops listed).length) (listed.setIfInBounds i true) (by simp[hsz]);refine⟨λs1 k s2 e=> ?_,λhc k hk hlk hnk=> ?_⟩
   ·cases s1 with
    | nil =>
     simp at e;obtain⟨rfl,_⟩:=e;exact⟨r1,r2,by simp,λo ho j hj=>.inl (r3 o ho j hj)⟩
    | cons x s1 =>
     simp at e;obtain⟨rfl,e⟩:=e;obtain⟨a1,a2,a3,a4⟩:=ihA s1 k s2 e;rw[eZ hsz r1]at a2;by_cases ek:k=i
     ·rw[if_pos ek]at a2;cases a2
     ·rw[if_neg ek]at a2;refine⟨a1,a2,by simp[ek,a3],λo ho j hj=> ?_⟩;have:=a4 o ho j hj;rw[eZ       hsz r1]at this;by_cases ej:j=i
      ·exact .inr (by simp[ej])
      ·rw[if_neg ej]at this;rcases this with h|h
       ·exact .inl h
       ·exact .inr (by simp[h])
   ·have hki:k≠i:=λe=>hnk (by simp[e]);have hcount:((List.range ops.size).filter λj=> !(listed.setIfInBounds i true).getD j false).length<=fuel:=by
     have hmem:i∈List.range ops.size:=List.mem_range.2 r1;obtain⟨pre,post,e⟩:=List.append_of_mem hmem;have hnd:(List.range ops.size).Nodup:=List.nodup_range;rw[e]at hnd hc ⊢;have hp:∀k∈pre,k≠i:=λk hk e'=>by
      subst e';have:=List.nodup_append.1 hnd;exact this.2.2 k hk k (by simp) rfl
     have hq:∀k∈post,k≠i:=λk hk e'=>by
      subst e';have:=(List.nodup_append.1 hnd).2.1;exact(List.nodup_cons.1 this).1 hk
     rw[List.filter_append,List.filter_cons]at hc ⊢;rw[r2]at hc;rw[eZ hsz r1,if_pos rfl];have a1:pre.filter (λj=> !(listed.setIfInBounds i true).getD j false)=pre.filter (λi=> !listed.getD i false):=List.filter_congr λk hk=>by rw[eZ hsz r1,if_neg (hp k hk)]
     have a2:post.filter (λj=> !(listed.setIfInBounds i true).getD j false)=post.filter (λi=> !listed.getD i false):=List.filter_congr λk hk=>by rw[eZ hsz r1,if_neg (hq k hk)]
     rw[a1,a2];simp at hc ⊢;omega
    obtain⟨o,ho,j,hj,hlj,hnj⟩:=ihB hcount k hk (by rw[eZ hsz r1,if_neg hki];exact hlk) (λh=>hnk (by simp[h]));rw[eZ hsz r1]at hlj;by_cases ej:j=i
    ·rw[if_pos ej]at hlj;cases hlj
    ·rw[if_neg ej]at hlj;exact⟨o,ho,j,hj,hlj,by simp[ej,hnj]⟩
omit [Zb]in
theorem jk (ops:Array Oper) (t:Nat):Lin ops (Region.linearise .any ops t):=by
 have hf:∀i,(Array.replicate ops.size false).getD i false=false:=λi=>by
  rw[Array.getD_eq_getD_getElem?];by_cases hi:i<ops.size
  ·simp[hi]
  ·simp[hi]
 obtain⟨hA,hB⟩:=EJ ops ops.size t (Array.replicate ops.size false) (by simp);refine⟨λs1 i s2 e=> ?_,λi hi hn=> ?_⟩
 ·obtain⟨a1,_,a3,a4⟩:=hA s1 i s2 e;refine⟨a1,a3,λo ho j hj=> ?_⟩;rcases a4 o ho j hj with h|h
  ·rw[hf]at h;cases h
  ·exact h
 ·obtain⟨o,ho,j,hj,_,hn'⟩:=hB (Nat.le_trans (List.length_filter_le _ _) (by simp)) i hi (hf i) hn;exact⟨o,ho,j,hj,hn'⟩
omit [Zb]in
theorem Lin.nodup {ops:Array Oper} {σ:List Nat} (l:Lin ops σ):∀s1 i s2,σ=s1++i::s2->i∉s1/\i∉s2:=λs1 i s2 e=>by
 refine⟨(l.ok s1 i s2 e).2.1,λhm=> ?_⟩;obtain⟨a,b,e2⟩:=List.append_of_mem hm;exact(l.ok (s1++i::a) i b (by rw[e,e2];simp)).2.1 (by simp)
omit [Zb]in
theorem Lin.bef {ops:Array Oper} {σ:List Nat} (l:Lin ops σ) {s1 s2:List Nat} {i j:Nat} (e:σ=s1++i::s2) (h:bM ops j i=true):j∈s1:=by
 obtain⟨h1,_,h3⟩:=l.ok s1 i s2 e;have ho:=gA h1;refine fA (X:=λj=>j∈s1) (λk o hk hX m hm=> ?_) ho (h3 _ ho) h;obtain⟨a,b,e2⟩:=List.append_of_mem hX;have:=(l.ok a k (b++i::s2) (by rw[e,e2];simp)).2.2 o hk m hm;rw[e2];simp[this]
def kM (f:Nat->Nat->Bool):List Nat->Bool
 |[]=>false
 |i::r=>r.any (f i)||kM f r
def befC (ops:Array Oper) (c:List Nat) (i j:Nat):Bool:=bM ops i j||kM (λx y=>(x==i||bM ops i x)&&(y==j||bM ops y j)) c
omit [Zb]in
theorem om {f:Nat->Nat->Bool} {c:List Nat} (h:kM f c=true):∃a x b y d,c=a++x::b++y::d/\f x y=true:=by
 induction c with
 |nil=>cases h
 | cons i r ih =>
  simp only[kM,Bool.or_eq_true]at h;rcases h with h|h
  ·obtain⟨y,hy,hf⟩:=List.any_eq_true.1 h;obtain⟨b,d,e⟩:=List.append_of_mem hy;exact⟨[],i,b,y,d,by rw[e];simp,hf⟩
  ·obtain⟨a,x,b,y,d,e,hf⟩:=ih h;exact⟨i::a,x,b,y,d,by rw[e];simp,hf⟩
omit [Zb]in
theorem gK {p:Nat->Bool} {σ a d:List Nat} {y:Nat} (h:σ.filter p=a++y::d):∃u v,σ=u++y::v/\u.filter p=a/\v.filter p=d:=by
 induction σ generalizing a with
 |nil=>simp at h
 | cons z σ ih =>
  rw[List.filter_cons]at h;cases hz:p z with
  | true =>
   rw[hz]at h;simp only[if_true]at h;cases a with
   | nil =>
    simp at h;exact⟨[],σ,by simp[h.1],rfl,h.2⟩
   | cons w a =>
    simp at h;obtain⟨u,v,e1,e2,e3⟩:=ih h.2;exact⟨z::u,v,by simp[e1],by rw[List.filter_cons,hz,if_pos rfl,e2,h.1],e3⟩
  | false =>
   rw[hz]at h;simp at h;obtain⟨u,v,e1,e2,e3⟩:=ih h;exact⟨z::u,v,by simp[e1],by simp[hz,e2],e3⟩
omit [Zb]in
theorem Lin.befC {ops:Array Oper} {σ c:List Nat} (l:Lin ops σ) (hc:σ.filter c.contains=c) {s1 s2:List Nat} {i j:Nat} (e:σ=s1++i::s2) (h:befC ops c j i=true):j∈s1:=by
 simp only[Abs.befC,Bool.or_eq_true]at h;rcases h with h|h
 ·exact l.bef e h
 ·obtain⟨a,x,b,y,d,ec,hf⟩:=om            h;simp only[bA,Bool.or_eq_true,beq_iff_eq]at hf;rw[ec]at hc;obtain⟨u,v,e1,e2,_⟩:=gK           hc;obtain⟨u1,u2,e3,_,_⟩:=gK           (a:=a) (y:=x) (d:=b) e2
  -- x stands in u1 ++ x :: u2 = u, y behind it
  have hju:j∈u:=by
   rcases hf.1 with h|h
   ·rw[e3,h];simp
   ·have:=l.bef (s1:=u1) (s2:=u2++y::v) (by rw[e1,e3];simp) h;rw[e3];simp[this]
  rcases hf.2 with h|h
  ·subst h
   -- the same split
   have : s1 = u := by
    have hn1:=(l.nodup s1 y s2 e);have hn2:=(l.nodup u y v e1);have key:∀(p q r t:List Nat),p++y::q=r++y::t->y∉p->y∉r->p=r:=by
     intro p
     induction p with
     | nil =>
      intro q r t h _ hr;cases r with
      |nil=>rfl
      |cons z r=>simp at h;exact absurd (by simp[h.1]) hr
     | cons z p ih =>
      intro q r t h hp hr;cases r with
      |nil=>simp at h;exact absurd (by simp[h.1]) hp
      | cons z' r =>
       simp at h;rw[h.1,ih q r t h.2 (λhm=>hp (by simp[hm])) (λhm=>hr (by simp[hm]))]
    exact key _ _ _ _ (e▸e1) hn1.1 hn2.1
   rw[this];exact hju
  ·have hy:y∈s1:=l.bef e h;obtain⟨p,q,e4⟩:=List.append_of_mem hy;have e5:σ=p++y::(q++i::s2):=by rw[e,e4];simp
   have key:∀(p q r t:List Nat),p++y::q=r++y::t->y∉p->y∉r->p=r:=by
    intro p
    induction p with
    | nil =>
     intro q r t h _ hr;cases r with
     |nil=>rfl
     |cons z r=>simp at h;exact absurd (by simp[h.1]) hr
    | cons z p ih =>
     intro q r t h hp hr;cases r with
     |nil=>simp at h;exact absurd (by simp[h.1]) hp
     | cons z' r =>
      simp at h;rw[h.1,ih q r t h.2 (λhm=>hp (by simp[hm])) (λhm=>hr (by simp[hm]))]
   have:p=u:=key _ _ _ _ (e5▸e1) (l.nodup _ _ _ e5).1 (l.nodup _ _ _ e1).1;rw[e4,this];simp[hju]
def zJ (ops:Array Oper) (π c rd:List Nat):Bool:=
 decide (π.length<=ops.size)&&(List.range ops.size).all π.contains&&π.all (λi=>decide (i<ops.size)&&(((ops[i]?).map cH).getD []).all (λj=>decide (j<ops.size)&&j !=i))&&
 bN (λi j=>i !=j&&(!jg ops i j||befC ops c i j)&&(!(c.contains i&&c.contains j)||befC ops c i j)&&(!(rd.contains i&&c.contains j)||befC ops c i j)&& !(((ops[i]?).map cH).getD []).contains j) π
structure PlanC (ops:Array Oper) (π ch rd:List Nat):Prop where
 all:∀i,i<ops.size->i∈π
 lt:∀i∈π,i<ops.size
 edge:∀i∈π,∀(o:Oper),ops[i]? =some o->∀j∈cH o,j<ops.size/\j≠i
 nd:bN (λi j=>i !=j) π=true
 pair:∀pre i post,π=pre++i::post->∀j∈post,i≠j/\(jg ops i j=true->befC ops ch i j=true)/\(ch.contains i=true->ch.contains j=true->befC ops ch i j=true)/\(rd.contains i=true->ch.contains j=true->befC ops ch i j=true)/\∀(o:Oper),ops[i]? =some o->j∉cH o
omit [Zb]in
theorem jK {ops:Array Oper} {π ch rd:List Nat} (hp:zJ ops π ch rd=true):PlanC ops π ch rd:=by
 simp only[zJ,bA]at hp;obtain⟨⟨⟨hlen,hall⟩,hlt⟩,hpairs⟩:=hp;refine⟨λi hi=> ?_,λi hi=> ?_,λi hi o ho j hj=> ?_,?_,λpre i post e j hj=> ?_⟩
 ·have:=aT.1 hall i (by simpa using hi);simpa using this
 ·have:=aT.1 hlt i hi;simp only[bA,decide_eq_true_eq]at this;exact this.1
 ·have:=aT.1 hlt i hi;simp only[bA,decide_eq_true_eq,ho,Option.map_some,Option.getD_some]at this;have:=aT.1 this.2 j hj;simp only[bA,decide_eq_true_eq,bne_iff_ne]at this;exact this
 ·clear hall hlt hlen
  induction π with
  |nil=>rfl
  | cons x l ih =>
   simp only[bN,bA]at hpairs ⊢;refine⟨aT.2 λj hj=> ?_,ih hpairs.2⟩;have:=aT.1 hpairs.1 j hj;simp only[bA]at this;exact this.1.1.1.1
 ·rw[e]at hpairs;have:=(ji hpairs).2 j hj;simp only[bA,Bool.or_eq_true,Bool.not_eq_true',bne_iff_ne,ne_eq]at this;obtain⟨⟨⟨⟨h1,h2⟩,h3⟩,h4⟩,h5⟩:=this;refine⟨h1,λhc=>h2.resolve_left (by rw[hc];decide),λa b=>h3.resolve_left (by rw[a,b];decide),λa b=>h4.resolve_left (by rw[a,b];decide),λo ho hm=> ?_⟩;rw[ho]at h5;simp at h5;exact h5 hm
omit [Zb]in
theorem PlanC.cover {ops:Array Oper} {π ch rd σ:List Nat} (pl:PlanC ops π ch rd) (lin:Lin ops σ):∀i,i<ops.size->i∈σ:=by
 have hallX:∀(n:Nat) (pre post:List Nat),pre.length=n->π=pre++post->∀i∈pre,i∈σ:=by
  intro n
  induction n with
  |zero=>intro pre post hl0 _ i hi;rw[nZ hl0]at hi;simp at hi
  | succ n ih =>
   intro pre' post hl0 e i hi;obtain⟨pre,x,rfl⟩:∃pre x,pre'=pre++[x]:=by
    rcases List.eq_nil_or_concat pre' with h0|⟨l,x,h0⟩
    ·subst h0;simp at hl0
    ·exact⟨l,x,by simpa using h0⟩
   have e':π=pre++x::post:=by rw[e];simp
   have hpre:=ih pre (x::post) (by simpa using hl0) e';rcases List.mem_append.1 hi with hi|hi
   ·exact hpre i hi
   ·simp at hi;subst hi;have hmem:i∈π:=by rw[e'];simp
    apply Classical.byContradiction;intro hni;obtain⟨o,ho,j,hj,hnj⟩:=lin.full i (pl.lt i hmem) hni;obtain⟨j1,j2⟩:=pl.edge i hmem _ ho j hj;have hjm:=pl.all j j1;rw[e']at hjm;rcases List.mem_append.1 hjm with hjm|hjm
    ·exact hnj (hpre j hjm)
    ·rcases List.mem_cons.1 hjm with hjm|hjm
     ·exact absurd hjm j2
     ·exact absurd hj ((pl.pair pre i post e' j hjm).2.2.2.2 _ ho)
 exact λi hi=>hallX π.length π [] rfl (by simp) i (pl.all i hi)
def zv (ops:Array Oper):Nat->List Nat->List (List Nat)
 |0,_=>[[]]
 |n+1,cs=>cs.flatMap λi=>if cs.any (λj=>bM ops j i)then []else (zv ops n (cs.filter (· !=i))).map (i::·)
omit [Zb]in
theorem rV {ops:Array Oper} {σ:List Nat} (lin:Lin ops σ):∀(n:Nat) (cs:List Nat),cs.length=n->cs.Nodup->(∀i∈cs,i∈σ)->σ.filter cs.contains∈zv ops n cs:=by
 intro n
 induction n with
 | zero =>
  intro cs hl _ _;rw[nZ hl];simp[zv]
 | succ n ih =>
  intro cs hl hnd hin;cases hf:σ.filter cs.contains with
  | nil =>
   exfalso;cases cs with
   |nil=>simp at hl
   | cons c cs =>
    have:c∈σ.filter (c::cs).contains:=List.mem_filter.2 ⟨hin c (by simp),by simp⟩;rw[hf]at this;cases this
  | cons i rest =>
   obtain⟨u,v,e1,e2,e3⟩:=gK (a:=[]) (y:=i) (d:=rest) hf;have hmem:i∈σ.filter cs.contains:=by rw[hf];simp
   have hic:i∈cs:=by simpa using (List.mem_filter.1 hmem).2
   have hnb:cs.any (λj=>bM ops j i)=false:=by
    rw[List.any_eq_false];intro j hj hb;have:=lin.bef e1 hb;have:j∈u.filter cs.contains:=List.mem_filter.2 ⟨this,by simpa using hj⟩;rw[e2]at this;cases this
   simp only[zv,List.mem_flatMap];refine⟨i,hic,?_⟩;rw[hnb];simp only[Bool.false_eq_true,if_false,List.mem_map];refine⟨rest,?_,rfl⟩;have er:rest=σ.filter (cs.filter (· !=i)).contains:=by
    have hn:=lin.nodup u i v e1;have hc:∀j,(cs.filter (· !=i)).contains j=(cs.contains j&&j !=i):=λj=>by
     rw[Bool.eq_iff_iff];simp
    rw[List.filter_congr (λj _=>hc j),e1,List.filter_append,List.filter_cons];simp only[bne_self_eq_false,Bool.and_false,Bool.false_eq_true,if_false];have a1:u.filter (λj=>cs.contains j&&j !=i)=u.filter cs.contains:=List.filter_congr λj hj=>by
     have:j≠i:=λe=>hn.1 (e▸hj);simp[this]
    have a2:v.filter (λj=>cs.contains j&&j !=i)=v.filter cs.contains:=List.filter_congr λj hj=>by
     have:j≠i:=λe=>hn.2 (e▸hj);simp[this]
    rw[a1,a2,e2,e3];rfl
   rw[er];refine ih _ ?_ (hnd.filter _) λj hj=>hin j (List.mem_filter.1 hj).1;have:(cs.filter (· !=i)).length+1=cs.length:=by
    have:=hnd.erase_eq_filter i;rw[<-this,List.length_erase_of_mem hic];have:=List.length_pos_of_mem hic;omega
   omega
def mw (ops:Array Oper) (cs:List Nat) (plans:List (List Nat×List Nat×List Nat)):Bool:=
 plans.all (λp=>zJ ops p.1 p.2.1 p.2.2&&p.2.1.all cs.contains&&cs.all p.2.1.contains)&&(zv ops cs.length cs).all (λc=>plans.any λp=>p.2.1==c)&&cs.all (λi=>decide (i<ops.size))&&decide cs.Nodup&& !plans.isEmpty
end
end Go.Proofs.YtfdkldmkbibknaaGreat.Abs
namespace Go.Proofs.YtfdkldmkbibknaaGreat.Draw
open Go.RowKit
open Abs (bf cnt jp oX dJ fW gh mt bM jg cH aO bN ci cN PlanC Lin befC jK jk mw rV)
variable {β γ : Type}
theorem xV [Inhabited β] {P:Program} {ops:Array Oper} {S:Sys P ops β γ} {Q:Exit->Act->World->Prop} {L Lf:List (Nat×β)} {h hl:γ} {hs:List γ} {π ch rd σ:List Nat} (pl:PlanC ops π ch rd) (lin:Lin ops σ) (hco:σ.filter ch.contains=ch)
  (d:DR S ch rd π π L [h] Lf (hl::hs)) (hq:∀a w,S.Rel Lf hl a w->Q .normal a w) {a:Act} {w:World} (r:S.Rel L h a w):wpOps P ops Q σ a w:=by
 obtain⟨val,hLf,⟨nw,hnw,hnwl⟩,hkn⟩:=d.spec pl.nd (by simp);have hrev:(hl::hs).length=cnt ch π+1:=by rw[hnw];simp[hnwl]
 have hlast:(hl::hs).reverse[cnt ch π]? =some hl:=by
  rw[List.getElem?_reverse (by omega)];have:(hl::hs).length-1-cnt ch π=0:=by omega
  rw[this];rfl
 have hfirst:(hl::hs).reverse[0]? =some h:=by rw[hnw];simp
 obtain⟨H,hH⟩:∃H,H=(hl::hs).reverse:=⟨_,rfl⟩;rw[<-hH]at hkn hlast hfirst;simp only[List.length_singleton,Nat.sub_self,Nat.zero_add]at hkn;have hfull : ∀ i ∈ π, i ∈ σ := by
  have hallX:∀(n:Nat) (pre post:List Nat),pre.length=n->π=pre++post->∀i∈pre,i∈σ:=by
   intro n
   induction n with
   |zero=>intro pre post hl0 _ i hi;rw[nZ hl0]at hi;simp at hi
   | succ n ih =>
    intro pre' post hl0 e i hi;obtain⟨pre,x,rfl⟩:∃pre x,pre'=pre++[x]:=by
     rcases List.eq_nil_or_concat pre' with h0|⟨l,x,h0⟩
     ·subst h0;simp at hl0
     ·exact⟨l,x,by simpa using h0⟩
    have e':π=pre++x::post:=by rw[e];simp
    have hpre:=ih pre (x::post) (by simpa using hl0) e';rcases List.mem_append.1 hi with hi|hi
    ·exact hpre i hi
    ·simp at hi;subst hi;have hmem:i∈π:=by rw[e'];simp
     apply Classical.byContradiction;intro hni;obtain⟨o,ho,j,hj,hnj⟩:=lin.full i (pl.lt i hmem) hni;obtain⟨j1,j2⟩:=pl.edge i hmem _ ho j hj;have hjm:=pl.all j j1;rw[e']at hjm;rcases List.mem_append.1 hjm with hjm|hjm
     ·exact hnj (hpre j hjm)
     ·rcases List.mem_cons.1 hjm with hjm|hjm
      ·exact absurd hjm j2
      ·exact absurd hj ((pl.pair pre i post e' j hjm).2.2.2.2 _ ho)
  exact hallX π.length π [] rfl (by simp)
 have key : ∀ (s2 s1 : List Nat) (a : Act) (w : World) (hc : γ), σ = s1 ++ s2 →
   H[cnt ch (π.filter λi=>s1.contains i)]? =some hc->
   S.Rel (ax ops val (π.filter λi=>s1.contains i) L) hc a w->wpOps P ops Q s2 a w:=by
  intro s2
  induction s2 with
  | nil =>
   intro s1 a w hc es hcH r;rw[List.append_nil]at es;subst es;have e:π.filter (λi=>σ.contains i)=π:=List.filter_eq_self.2 λi hi=>by simpa using hfull i hi
   rw[e]at hcH r;rw[hlast]at hcH;cases hcH;exact hq _ _ (by rw[hLf];exact r)
  | cons i s2 ih =>
   intro s1 a w hc es hcH r;obtain⟨hlt,hni,_⟩:=lin.ok s1 i s2 es;have hli:s1.contains i=false:=by simpa using hni
   have ho:=gA hlt;have hmem:=pl.all i hlt;obtain⟨pre,post,e⟩:=List.append_of_mem hmem;have befX:∀{j},befC ops ch j i=true->s1.contains j=true:=λhb=>by simpa using lin.befC hco es hb
   have noB:∀{j},s1.contains j=true->befC ops ch i j=true->False:=λ{j} hj hb=>by
    have hj:j∈s1:=by simpa using hj
    obtain⟨p,q,e2⟩:=List.append_of_mem hj;have:=lin.befC hco (s1:=p) (s2:=q++i::s2) (by rw[es,e2];simp) hb;exact hni (by rw[e2];simp[this])
   have pre_i:∀k∈pre,k≠i/\(jg ops k i=true->befC ops ch k i=true)/\(ch.contains k=true->ch.contains i=true->befC ops ch k i=true):=λk hk=>by
    obtain⟨p1,p2,e2⟩:=List.append_of_mem hk;have:=pl.pair p1 k (p2++i::post) (by rw[e,e2];simp) i (by simp);exact⟨this.1,this.2.1,this.2.2.1⟩
   have post_i:=pl.pair pre i post e
   -- the filters
   have fX:π.filter (λi=>s1.contains i)=pre.filter (λi=>s1.contains i)++post.filter (λi=>s1.contains i):=by
    rw[e,List.filter_append,List.filter_cons,hli];simp
   have getS:∀j,(s1++[i]).contains j=if j=i then true else s1.contains j:=λj=>by
    by_cases ej:j=i
    ·subst ej;simp
    ·rw[if_neg ej,Bool.eq_iff_iff];simp[ej]
   have fX':π.filter (λj=>(s1++[i]).contains j)=pre.filter (λi=>s1.contains i)++i::post.filter (λi=>s1.contains i):=by
    rw[e,List.filter_append,List.filter_cons];have a1:pre.filter (λj=>(s1++[i]).contains j)=pre.filter (λi=>s1.contains i):=List.filter_congr λk hk=>by rw[getS,if_neg (pre_i k hk).1]
    have a2:post.filter (λj=>(s1++[i]).contains j)=post.filter (λi=>s1.contains i):=List.filter_congr λk hk=>by rw[getS,if_neg (λx=>(post_i k hk).1 x.symm)]
    rw[a1,a2,getS,if_pos rfl];simp
   have cX:cnt ch (π.filter λi=>s1.contains i)=cnt ch (pre.filter λi=>s1.contains i)+cnt ch (post.filter λi=>s1.contains i):=by rw[fX,dJ]
   obtain⟨o,ho',hk⟩:=hkn pre i post e;have eo:o=ops[i]:=by rw[ho]at ho';cases ho';rfl
   -- the operation sees what it saw
   have hsel:Sub (sel (ax ops val pre L) (o.looksAt ops)) (ax ops val (π.filter λi=>s1.contains i) L):=sel_sub λt ht=>by
    refine fC ?_;rw[fX,List.filter_append];have b1:(post.filter λi=>s1.contains i).filter (aO ops t)=[]:=cN λj hj hXj=>by
     cases hw:aO ops t j with
     |false=>rfl
     | true =>
      exfalso;have hjl:=pl.lt j (by rw[e];simp[hj]);have hoj:=gA hjl;have hdj:ops[j].dst=some t:=by simpa [aO,bf,hoj]using hw
      cases hcf:jg ops i j with
      |true=>exact noB hXj ((post_i j hj).2.1 hcf)
      |false=>exact(ci ho' hoj hcf).2 t hdj ht
    have b2:(pre.filter λi=>s1.contains i).filter (aO ops t)=pre.filter (aO ops t):=by
     rw[List.filter_filter];refine List.filter_congr λk hk=> ?_;cases hw:aO ops t k with
     |false=>simp
     | true =>
      simp only[Bool.true_and];have hkl:=pl.lt k (by rw[e];simp[hk]);have hok:=gA hkl;have hdk:ops[k].dst=some t:=by simpa [aO,bf,hok]using hw
      cases hcf:jg ops k i with
      |true=>exact befX ((pre_i k hk).2.1 hcf)
      |false=>exact absurd ht ((ci hok ho' hcf).1 t hdk).1
    rw[b1,b2,List.append_nil]
   -- what stands behind it
   have hsub:Sub (ax ops val (π.filter λj=>(s1++[i]).contains j) L) (bindD o.dst (val i) (ax ops val (π.filter λi=>s1.contains i) L)):=λt x hx=>by
    rw[fX']at hx;have hgs:bf ops i=o.dst:=by simp[bf,ho']
    by_cases hd:o.dst=some t
    ·rw [hd];simp only[bindD,List.lookup_cons,beq_self_eq_true];rw[jy        ]at hx;simp only[ax    ]at hx;rw[hgs,hd]at hx;have b1:(post.filter λi=>s1.contains i).filter (aO     ops t)=[]:=cN          λj hj hXj=>by
      cases hw:aO ops t j with
      |false=>rfl
      | true =>
       exfalso;have hjl:=pl.lt j (by rw[e];simp[hj]);have hoj:=gA hjl;have hdj:ops[j].dst=some t:=by simpa [aO,bf,hoj]using hw
       cases hcf:jg ops i j with
       |true=>exact noB hXj ((post_i j hj).2.1 hcf)
       |false=>exact((ci ho' hoj hcf).1 t hd).2 hdj
     rw[bK ops val t _ _ _ rfl,b1]at hx;simpa [ax,bindD]using hx
    ·have hw:aO     ops t i=false:=by simp[aO    ,hgs,hd]
     have e1:(ax ops val (pre.filter (λi=>s1.contains i)++i::post.filter (λi=>s1.contains i)) L).lookup t=(ax ops val (π.filter λi=>s1.contains i) L).lookup t:=by
      refine fC ?_;rw[fX,List.filter_append,List.filter_append,List.filter_cons,hw];simp
     rw[e1]at hx;cases hdd:o.dst with
     |none=>exact hx
     | some d =>
      simp only[bindD,List.lookup_cons];have:(t==d)=false:=by simpa using λx=>hd (by rw[hdd,x])
      rw[this];exact hx
   rw[wpOps_cons];have next:∀hc',H[cnt ch (π.filter λj=>(s1++[i]).contains j)]? =some hc'->S.OT o (sel (ax ops val pre L) (o.looksAt ops)) (val i) hc hc'->wpOp P ops Q i (wpOps P ops Q s2) a w:=by
    intro hc' hcH' hot;exact S.sound hot hsel ho' r λa' w' r'=>ih (s1++[i]) a' w' hc' (by rw[es];simp) hcH' (S.weaken r' hsub)
   rcases hk with⟨hch,h1,h2,g1,g2,hot⟩|⟨hch,hrd,hot⟩|⟨hch,hot⟩
   ·-- a chain operation
    have c1:cnt ch (pre.filter λi=>s1.contains i)=cnt ch pre:=mt λk hk hkc=>befX ((pre_i k hk).2.2 hkc hch);have c2:cnt ch (post.filter λi=>s1.contains i)=0:=gh λj hj hXj=>by
     cases hcj:ch.contains j with
     |false=>rfl
     |true=>exact(noB hXj ((post_i j hj).2.2.1 hch hcj)).elim
    have ehc:h1=hc:=by rw[cX,c1,c2,Nat.add_zero,g1]at hcH;cases hcH;rfl
    subst ehc;refine next h2 ?_ hot
    rw[fX',dJ,oX hch,c1,c2];exact g2
   ·-- a reader
    have c2:cnt ch (post.filter λi=>s1.contains i)=0:=gh λj hj hXj=>by
     cases hcj:ch.contains j with
     |false=>rfl
     |true=>exact(noB hXj ((post_i j hj).2.2.2.1 hrd hcj)).elim
    have c1:cnt ch (pre.filter λi=>s1.contains i)<=cnt ch pre:=by
     have:=fW (ch:=ch) (l:=pre) (p:=λi=>s1.contains i) (q:=λ_=>true) (λ_ _ _=>rfl)
     rwa [List.filter_eq_self.2 (λ_ _=>rfl)]at this
    have c0:cnt ch (π.filter λj=>bM ops j i)<=cnt ch (π.filter λi=>s1.contains i):=fW λj _ hb=>befX (by simp only[Abs.befC,hb,Bool.true_or]);refine next hc ?_ (hot _ hc c0 (by rw[cX,c2];omega) hcH)
    rw[fX',dJ,jp hch,<-cX];exact hcH
   ·refine next hc ?_ (hot hc)
    rw[fX',dJ,jp hch,<-cX];exact hcH
 have e0:π.filter (λi=>([]:List Nat).contains i)=[]:=by simp
 exact key σ [] a w h rfl (by rw[e0];exact hfirst) (by rw[e0];exact r)
theorem drawL [Inhabited β] {P:Program} {ops:Array Oper} {S:Sys P ops β γ} {Q:Exit->Act->World->Prop} {L:List (Nat×β)} {h:γ} {id:Nat} (hm:P.follows .mixedOrders=true) (cs:List Nat) (plans:List (List Nat×List Nat×List Nat)) (hp:mw ops cs plans=true)
  (d:∀p∈plans,∃Lf hl hs,DR S p.2.1 p.2.2 p.1 p.1 L [h] Lf (hl::hs)/\∀a w,S.Rel Lf hl a w->Q .normal a w) {a:Act} {w:World} (r:S.Rel L h a w):(Code.region id ops true).wp P Q a w:=by
 simp only[mw,bA,aT,decide_eq_true_eq]at hp;obtain⟨⟨⟨⟨h1,h2⟩,h3⟩,h4⟩,h5⟩:=hp;refine wp_region_draw λt=> ?_;simp only[Region.schedule,hm,Bool.true_or,if_true];have lin:=jk ops t;obtain⟨p0,hp0⟩:∃p0,p0∈plans:=by
  cases plans with
  |nil=>simp at h5
  |cons x _=>exact⟨x,by simp⟩
 have cov:=(jK (h1 p0 hp0).1.1).cover lin;have hext:=rV lin cs.length cs rfl h4 λi hi=>cov i (h3 i hi);obtain⟨p,hpm,hpc⟩:=List.any_eq_true.1 (h2 _ hext);have hpc:p.2.1=(Region.linearise .any ops t).filter cs.contains:=by simpa using hpc
 obtain⟨⟨q1,q2⟩,q3⟩:=h1 p hpm;have hsame:(Region.linearise .any ops t).filter p.2.1.contains=p.2.1:=by
  have:(Region.linearise .any ops t).filter p.2.1.contains=(Region.linearise .any ops t).filter cs.contains:=List.filter_congr λj _=>by
   rw[Bool.eq_iff_iff];refine⟨λhh=> ?_,λhh=> ?_⟩
   ·exact q2 j (by simpa using hh)
   ·exact q3 j (by simpa using hh)
  rw[this,<-hpc]
 obtain⟨Lf,hl,hs',dr,k⟩:=d p hpm;exact xV (jK q1) lin hsame dr k (S.same r rfl rfl rfl rfl)
end Go.Proofs.YtfdkldmkbibknaaGreat.Draw

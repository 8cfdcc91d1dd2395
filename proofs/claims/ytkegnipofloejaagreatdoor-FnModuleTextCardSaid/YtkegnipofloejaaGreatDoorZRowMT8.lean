/- merged -/
import Derived.Test.YtkegnipofloejaaGreatDoorZRowMT7

namespace Go.Proofs.YtkegnipofloejaaGreatDoor.Den
section
open Go.RowKit
open Abs (V AV Env au ar aw ao)
section
variable {P : Program} {E : Abs.Cx} {F : In} {ρ ρ' : Rho} {H : Td Ob} {D : Td (Nat × AT)} {L : Env} {h h' : au} {R : Type} {tb : Nat → Y TI} {O : Orc}
section
variable {j:Td (Nat×AT)}{c:C}{i:Int}{o:Oper}{H':Td Ob}{nt:Nat}{l:Td Oper}{α:Type}{im:Td Nat}
theorem Dz{j H:Td Ob}(hl:Le j H){n:Int}(h:zW j c=some n):zW H c=some n:=by
 unfold zW at h ⊢;split at h
 case h_5=>
  split at h
  .rename_i d;rw[hl _ _ d A1];exact h
  .rename_i d;rw[hl _ _ d A1];exact h
  .cases h
 all_goals exact h
theorem EI{j H:Td Ob}(hl:Le j H){v:AT}(d:(C1 tb o D j).has v):(C1 tb o D H).has v:=by
 unfold C1 at d ⊢;split at d
 all_goals first
  |exact d
  |(cases d;done)
  |skip
 .split at d
  .exact d
  .exact d
  .split at d
   .rename_i h t;rw[hl _ _ h A1,t];exact d
   .cases d
  .exact d.elim
 .split at d
  .split at d
   .rename_i h;rw[hl _ _ h A1];exact d
   .cases d
  .exact d
  .split at d
   .rename_i h;rw[hl _ _ h A1];exact d
   .cases d
  .exact d.elim
 .split at d
  .exact d
  .split at d
   .rename_i h;rw[hl _ _ h A1];exact d
   .cases d
  .exact d.elim
 .split at d
  .exact d
  .exact mq hl d
 .split at d
  .split at d
   .exact d
   .exact mq hl d
  .exact mq hl d
 .split at d
  .split at d
   .exact d
   .split at d
    .rename_i h1 h2;rw[Dz hl h2,h1];exact d
    .cases d
   .cases d
  .cases d
 .exact mq hl d
theorem tq{v:AT}(d:(zG tb o.op D H).has (v,H')):Unt (eK tb O o D H) H H':=by
 have push:∀x:Ob,Unt (eK tb O o D H) H (H++[x]):=λx id y w _=>gi w;unfold zG at d;split at d
 .split at d
  .cases d;exact push _
  .cases d
 .rename_i ae tys ho;split at d
  .rename_i x y t tx A C;split at d
   .split at d
    .exact ST
    .cases d
   .rename_i id s h1 h2 E;split at d
    .obtain⟨_,_,e⟩:=d;cases e;intro j z B h;simp only[eK,ho,A,h2]at h;exact gi (by rw[sN (λe=>h Rh)];exact B)
    .cases d
   .split at d
    .exact ST
    .cases d
   .cases d
  .cases d
 .cases d
theorem Kb(d:(opX tb o.op D H).has H'):Unt (eK tb O o D H) H H':=by
 unfold opX at d;split at d
 .rename_i t m k x ho;split at d
  .rename_i T id s vs h1 h2 y h4
   have set:∀{z:Ob},Unt (eK tb O o D H) H (H.set id z):=λ{z} j w h v=>by
    rw[sN (λe=>v (by simp[eK,ho,h2,e]))];exact h
   split at d
   .split at d
    .split at d
     .cases d;exact set
     .cases d
    .split at d
     .cases d
     .cases d;exact set
    .cases d
   .cases d
  .cases d
 .cases d
theorem EK{v:AT}(d:(F5 tb o D H).has (v,H')):Unt (eK tb O o D H) H H':=by
 have push:∀x:Ob,Unt (eK tb O o D H) H (H++[x]):=λx id y w _=>gi w;unfold F5 at d;split at d
 .split at d
  .cases d;exact push _
  .cases d
 .split at d
  .cases d;exact push _
  .cases d
 .split at d
  .split at d
   .split at d
    .cases d;exact push _
    .cases d
   .cases d
  .cases d
 .split at d
  .split at d
   .exact ST
   .cases d
  .cases d
 .rename_i ae tys ho;split at d
  .rename_i x y t tx A E;split at d
   .rename_i T U F G h1 h2 B h4;split at d
    .split at d
     .rename_i id;split at d
      .split at d
       .obtain⟨_,_,e⟩:=d;cases e;intro j z C h;simp only[eK,ho,A,B]at h;exact gi (by rw[sN (λe=>h Rh)];exact C)
       .cases d
      .cases d
     .exact ST
     .exact tq d
    .cases d
   .exact tq d
  .cases d
 .exact tq d
theorem JN(d:(opN tb o D H).has H'):Unt (eK tb O o D H) H H':=by
 unfold opN at d;split at d
 .rename_i t x y ho;have set:∀{id:Nat}{z:Ob},(∀j,j∉eK tb O o D H->j≠id)->Unt (eK tb O o D H) H (H.set id z):=λv j w B C=>G1
  split at d
  .rename_i h2 A;split at d
   .split at d
    .cases d;exact set λj h e=>h (by simp[eK,ho,h2,e])
    .cases d
   .cases d
  .rename_i E id k n T F off vs h1 h2 A;have hs:∀{z:Ob},Unt (eK tb O o D H) H (H.set id z):=λ{z}=>set (z:=z) λj h e=>h (by simp only[eK,ho,h2];simp[e])
   split at d
   .split at d
    .split at d
     .split at d
      .split at d
       .split at d
        .cases d;exact hs
        .cases d
       .obtain⟨G,e1,e2⟩:=d;dsimp only at e2;split at e2
        .grind
        .cases e2
      .cases d
     .cases d
    .cases d
   .cases d
  .cases d
 .exact Kb d
theorem N0(j:bQ P tb)(y:iJ P O)(A:E.n=nt){K:AT->Td Ob->Y R}{r:R}(hc:one tb O nt o D H K=some r):∃v H',K v H'=some r/\(∀F:In,eS P o E F D H v H')/\Unt (eK tb O o D H) H H':=by
 unfold one at hc;split at hc
 .rename_i d hd;split at hc
  .rename_i t;have w:d<E.n:=by rw[A];simpa [Ps]using t
   unfold opD at hc;split at hc
   .obtain⟨v,h1,h2⟩:=Pl.iU hc;exact⟨v,H,h2,λ_=>HS λρ L h hs hp=>Cq j hd w h1 hs hp,.refl _ _⟩
   .obtain⟨q,h1,h2⟩:=Pl.iU hc;exact⟨q.1,q.2,h2,λ_=>KP j hd w h1,EK h1⟩
   .exact Ii j y hd w hc
  .cases hc
 .rename_i hd;obtain⟨H',h1,h2⟩:=Pl.iU hc;exact⟨_,H',h2,λ_=>N1 j hd h1,JN h1⟩
theorem B9(j:bQ P tb)(y:iJ P O)(A:E.n=nt)(hk:rL tb O o D=true){K:AT->Td Ob->Y R}{r:R}(hc:one tb O nt o D H K=some r):∃v,K v H=some r/\∀H',Le H H'->eS P o E F D H' v H':=by
 unfold one at hc;split at hc
 .rename_i d hd;split at hc
  .rename_i t;have w:d<E.n:=by rw[A];simpa [Ps]using t
   unfold opD at hc;split at hc
   .obtain⟨v,h1,h2⟩:=Pl.iU hc;exact⟨v,h2,λH' hl=>HS λρ L h hs hp=>Cq j hd w (EI hl h1) hs hp⟩
   .rename_i h1;exfalso;unfold rL at hk;rw[hd]at hk;simp only at hk;split at hk
    .rename_i e;rw[e]at h1;simp[kind]at h1
    .simp_all
   .exact IE j y hd w hk hc
  .cases hc
 .rename_i hd;unfold rL at hk;rw[hd]at hk;cases hk
theorem wB(h:bQ P tb)(t:E.n=nt){K:AT->Y R}{r:R}(hc:GH tb nt o D K=some r):∃v,K v=some r/\∀(F:In)(H:Td Ob),eS P o E F D H v H:=by
 unfold GH at hc;split at hc
 .rename_i d hd;split at hc
  .rename_i j;have w:d<E.n:=by rw[t];simpa [Ps]using j
   obtain⟨v,h1,h2⟩:=Pl.iU hc;exact⟨v,h2,λ_ H=>Je h hd w h1⟩
  .cases hc
 .cases hc
theorem i8{dst:Y Nat}{v:AT}{j:AV}(hs:cj ρ H D L)(w:ATR ρ H v j):cj ρ H (kU dst v D) (Abs.bp dst j L):=by
 cases dst with
 |none=>exact hs
 | some d=>
  intro t x h;simp only[kU,OK]at h;simp only[Abs.bp,OK];split at h
  .grind
  .exact hs t x h
theorem Il{j:Nat}:gsl l j=Abs.bn l.toArray j:=by
 unfold gsl Abs.bn;simp only[List.getElem?_toArray];cases l[j]? <;>rfl
theorem BE{d:Nat}{p:Bool}(hs:cj ρ H D L)(h:D.lookup d=some (.one (.b p))):L.lookup d=some (.one (.lit (.bool p))):=by
 obtain⟨t,h1,h2⟩:=hs d _ h;obtain⟨u,rfl,j⟩:=h2.bi;rw[h1,j.bool]
theorem Ld{d:Nat}(hs:cj ρ H D L)(h:D.lookup d=some (.tup [])):L.lookup d=some (.tup []):=by
 obtain⟨j,h1,h2⟩:=hs d _ h;cases h2 with
 | @tup xs ys hl t=>
  cases ys with
  |nil=>exact h1
  |cons _ _=>simp at hl
inductive Gd(ops:Array Oper)(n:Nat)(o:Oper)(D:List (Nat×AT)):Bool->Prop
 |run (h:o.guard=none):Gd ops n o D true
 |runG {j d:Nat} {want:Bool} (h:o.guard=some (j,want)) (hj:Abs.bn ops j=some d) (hd:D.lookup d=some (.one (.b want))):Gd ops n o D true
 |skip {j d d':Nat} {p want:Bool} (h:o.guard=some (j,want)) (hj:Abs.bn ops j=some d) (hd:D.lookup d=some (.one (.b p))) (hp:p= !want) (hdst:o.dst=some d') (hn:d'<n):Gd ops n o D false
 |skipU {j d d':Nat} {want:Bool} (h:o.guard=some (j,want)) (hj:Abs.bn ops j=some d) (hd:D.lookup d=some (.tup [])) (hdst:o.dst=some d') (hn:d'<n):Gd ops n o D false
def Same(D d:Td (Nat×AT)):Prop:=∀t,D.lookup t=d.lookup t
theorem Same.refl(D:Td (Nat×AT)):Same D D:=λ_=>rfl
theorem Same.trans{D d:Td (Nat×AT)}(h:Same D d)(k:Same d j):Same D j:=λt=>(h t).trans (k t)
theorem Same.enc{D d:Td (Nat×AT)}(h:Same d D)(k:cj ρ H D L):cj ρ H d L:=λt v j=>k t v (by rw[<-h t];exact j)
theorem j7{d:Nat}{v:AT}{D:Td (Nat×AT)}(h:D.lookup d=some v):Same ((d,v)::D) D:=λt=>G1
theorem Same.bind{D:Td (Nat×AT)}(h:Same D j)(dst:Y Nat)(v:AT):Same (kU dst v D) (kU dst v j):=by
 cases dst with
 |none=>exact h
 |some d=>intro t;simp only[kU,OK];split<;>first|rfl|exact h t
theorem Same.sel{D:Td (Nat×AT)}(h:Same D j):∀d,Draw.sel D d=Draw.sel j d
 |[]=>rfl
 |t::d=>by simp only[Draw.sel];rw[h t,Same.sel h d]
theorem mm{A D:Td (Nat×AT)}(h:Draw.Sub A D){run skip:Td (Nat×AT)->Y R}{r:R}(hc:pu nt l o A D run skip=some r):∃B,Same B D/\((Gd l.toArray nt o A true/\run B=some r)\/(Gd l.toArray nt o A false/\skip B=some r)):=by
 unfold pu at hc;split at hc
 .rename_i v;exact⟨D,.refl D,.inl ⟨.run v,hc⟩⟩
 .rename_i j y v;split at hc
  .rename_i d F w t;rw[Il]at w;split at hc
   .rename_i C;have E:F<nt:=by simpa [Ps]using C
    split at hc
    .rename_i p hd;cases y<;>cases p
     .exact⟨_,j7 (h _ _ hd),.inl ⟨.runG v w hd,hc⟩⟩
     .exact⟨_,j7 (h _ _ hd),.inr ⟨.skip v w hd rfl t E,hc⟩⟩
     .exact⟨_,j7 (h _ _ hd),.inr ⟨.skip v w hd rfl t E,hc⟩⟩
     .exact⟨_,j7 (h _ _ hd),.inl ⟨.runG v w hd,hc⟩⟩
    .rename_i hd;exact⟨D,.refl D,.inr ⟨.skipU v w hd t E,hc⟩⟩
    .cases hc
   .cases hc
  .cases hc
theorem zD{xs ys:Td α}(h:Ip xs i=some ys):0<i/\i<=xs.length/\ys=xs.drop i.toNat:=by
 unfold Ip at h;cases d:decide (0<i)&&decide (i<=(xs.length:Int))with
 | true=>
  rw[d]at h;simp at d h;exact⟨d.1,d.2,h.symm⟩
 |false=>rw[d]at h;cases h
theorem Az{xs ys:Td α}(h:uS xs i=some ys):0<=i/\i<=xs.length/\ys=xs.take i.toNat:=by
 unfold uS at h;cases d:decide (0<=i)&&decide (i<=(xs.length:Int))with
 | true=>
  rw[d]at h;simp at d h;exact⟨d.1,d.2,h.symm⟩
 |false=>rw[d]at h;cases h
theorem yK(h:o.dst=none):lQ tb im o D H=none:=by
 unfold lQ;rw[h];split
 .grind
 .grind
 .rfl
theorem Dy(w:bQ P tb){d:Nat}(hd:o.dst=some d)(K:d<E.n){q:Nat×Pl (AT×Td Ob)}(hs:lQ tb im o D H=some q){v:AT}(h:q.2.has (v,H')):(∀F,eS P o E F D H v H')/\Unt [q.1] H H':=by
 obtain⟨dst,op,ty,pos,af,gd⟩:=o;simp only at hd;subst hd;unfold lQ at hs;simp only at hs;split at hs
 .rename_i t x y L e;cases e;split at hs
  .split at hs
   .rename_i id B;cases hs;simp only at h ⊢;split at h
    .rename_i T M n xs i C G I;obtain⟨N,h1,h2⟩:=Option.bind_eq_some_iff.1 C;split at h
     .rename_i zs hc;obtain⟨rfl,rfl⟩:=dE hc;obtain⟨ys,e1,e2⟩:=h;cases e2;obtain⟨q1,q2,rfl⟩:=zD e1;refine⟨λF=>C8 w K h1 h2 B G I q1 q2,λj z A J=> ?_⟩;have hl:=(gI.1 A).1;rw[aL QG,sN (λe=>J Rh)];exact A
     .cases h
    .cases h
   .cases hs
  .cases hs
 .rename_i t x y L e;cases e;split at hs
  .split at hs
   .rename_i id B;cases hs;simp only at h ⊢;split at h
    .rename_i T M n xs i C G I;obtain⟨N,h1,h2⟩:=Option.bind_eq_some_iff.1 C;split at h
     .rename_i zs hc;obtain⟨rfl,rfl⟩:=dE hc;obtain⟨ys,e1,e2⟩:=h;cases e2;obtain⟨q1,q2,rfl⟩:=Az e1;refine⟨λF=>DF w K h1 h2 B G I q1 q2,λj z A J=> ?_⟩;have hl:=(gI.1 A).1;rw[aL QG,sN (λe=>J Rh)];exact A
     .cases h
    .cases h
   .cases hs
  .cases hs
 .cases hs
theorem BM{ρ:Rho}{H:Td Ob}{v:V}(h:CR ρ H c v):∃d,CR ρ H (HA c) d/\∀(I:Nat->Prop)(w:World)(ι:Td Abs.Inf)(u:Value),Abs.VR I w ι v u->Abs.VR I w ι d u:=by
 unfold HA;split
 .rename_i T;have j:v= .lit (.slice none 0 0)/\0<szT T:=by
   cases h with
   |fl h=>cases h
   |nil hp=>exact⟨rfl,hp⟩
  obtain⟨rfl,hp⟩:=j;refine⟨.imm (szT T) [],.fl (FR.fj hp),λI w ι u t=> ?_⟩;cases t with
  |lit _=>exact .eE (P6 _)
 .grind
theorem w9{ρ:Rho}{H:Td Ob}:∀{cs:Td C}{vs:Td V},CRs ρ H cs vs->∃d,CRs ρ H (cs.map HA) d/\d.length=vs.length/\∀(j:Nat)(h1:j<vs.length)(h2:j<d.length)(I:Nat->Prop)(w:World)(ι:Td Abs.Inf)(u:Value),Abs.VR I w ι vs[j] u->Abs.VR I w ι d[j] u
 |[],vs,h=>⟨vs,h,rfl,λj h1 h2=>λ_ _ _ _ h=>h⟩
 |c::cs,[],h=>by have:=h.1;simp at this
 | c::cs,v::vs,h=>by
  have h0:CR ρ H c v:=h.2 0 A1 A1
  have hs:CRs ρ H cs vs:=⟨R8,λj h1 h2=>by
   have:=h.2 (j+1) Hd Hm;simpa using this⟩
  obtain⟨t,y,A⟩:=BM h0;obtain⟨d,b1,b2,b3⟩:=w9 hs;refine⟨t::d,CRs.cons y b1,by simp[b2],λj h1 h2=> ?_⟩;cases j with
  |zero=>exact A
  |succ j=>exact b3 j Hd Hm
theorem JT{ρ:Rho}{H:Td Ob}{x:AT}{a:AV}(h:ATR ρ H x a):∃B,ATR ρ H (JF x) B/\∀(I:Nat->Prop)(w:World)(ι:Td Abs.Inf)(u:Value),Abs.AR ι I w a u->Abs.AR ι I w B u:=by
 cases h with
 | @one c v h=>
  obtain⟨E,t,C⟩:=BM h;exact⟨.one E,.one t,λI w ι u d=>by
   cases d with
   |one d=>exact .one (C I w ι u d)⟩
 | @agg cs vs h=>
  obtain⟨y,t,C,a3⟩:=w9 h;refine⟨.agg y,.agg t,λI w ι u d=> ?_⟩;cases d with
  | @agg _ cs f hl A F=>
   exact .agg (f:=f) A0 (λj D=>A j A0) (λj D=>a3 j A0 D _ _ _ _ (F j A0))
 | @tup xs ys hl h=>exact⟨.tup ys,.tup hl h,λ_ _ _ _ h=>h⟩
theorem I5{d:Nat}(hd:o.dst=some d){v:AT}{L:Env}{h:au}{ρ:Rho}(A:ar P o E (iR F H ρ o.dst L v H') L h):ar P o E (iR F H ρ o.dst L (JF v) H') L h:=by
 refine oY A ?_;rintro J h2 ⟨ρ',K,rfl,m1,B,C,D⟩;obtain⟨j,G,M⟩:=JT m1;refine⟨Abs.bp o.dst j L,h2,⟨ρ',j,rfl,G,B,C,D⟩,λLf=>⟨λE ι I a w r=>⟨I,{r with bc:=λt u y=> ?_}⟩⟩⟩;rw[hd]at y r;simp only[Abs.bp,Ph,OK]at y;have rs:=r.bc t;simp only[Abs.bp,Ph,OK]at rs;split at y
 .grind
 .grind
theorem Bx(j:bQ P tb)(B:iJ P O)(y:E.n=nt){K:AT->Td Ob->Y R}{r:R}(hc:KQ tb O nt im o D H K=some r):∃v H',K v H'=some r/\∀F,eS P o E F D H v H'/\Unt (lO tb O im o D H) H H':=by
 have plain:∀{K:AT->Td Ob->Y R},lQ tb im o D H=none->one tb O nt o D H K=some r->∃v H',K v H'=some r/\∀F,eS P o E F D H v H'/\Unt (lO tb O im o D H) H H':=λ{K} t hc=>let⟨v,H',h1,h2,C⟩:=N0 j B y hc;⟨v,H',h1,λF=>⟨h2 F,by unfold lO;rw[t];exact C⟩⟩
 unfold KQ at hc;split at hc
 .rename_i d hd;split at hc
  .obtain⟨v,h1,h2⟩:=wB (E:=E) j y hc;exact⟨v,H,h1,λF=>⟨h2 F H,.refl _ _⟩⟩
  .split at hc
   .rename_i w;rw[bA]at w;have t:lQ tb im o D H=none:=by
     obtain⟨dst,op,ty,pos,af,gd⟩:=o;have w:=w.2;cases op<;>first|rfl|cases w
    obtain⟨v,H',h1,h2⟩:=plain t hc;exact⟨JF v,H',h1,λF=>⟨λρ L h hs G I=>I5 hd ((h2 F).1 ρ L h hs G I),(h2 F).2⟩⟩
   .split at hc
    .rename_i q t;split at hc
     .rename_i A;obtain⟨z,h1,h2⟩:=Pl.iU hc;obtain⟨k1,J⟩:=Dy (E:=E) j hd (by rw[y];simpa [Ps]using A) t h1;exact⟨z.1,z.2,h2,λF=>⟨k1 F,by unfold lO;rw[t];exact J⟩⟩
     .cases hc
    .grind
 .rename_i hd;exact plain (yK hd) hc
def Lk(P:Program)(o:Oper)(E:Abs.Cx)(F:In)(D:Td (Nat×AT))(H:Td Ob)(v:AT)(H':Td Ob):Prop:=
 ∀ρ L h,cj ρ H D L->HpR ρ H h->Fr F ρ H h->XR F ρ H h->ar P o E (λj h2=>∃ρ' d,j=Abs.bp o.dst d L/\ATR ρ' H' v d/\HpR ρ' H' h2/\Ev ρ H ρ' H'/\Fr F ρ' H' h2/\XR F ρ' H' h2) L h
theorem rl{ids:Td Nat}(j:Unt ids H H')(hk:okX H ids H'=true):cq H H':=λid y d t=>by
 unfold okX at hk;rw[bA]at hk;by_cases hid:id<H.length
 .by_cases hm:id∈ids
  .grind
  .have e:=O0 hid;have:=j id _ e hm;rw[d]at this;cases this;exact e
 .have:y∈H'.drop H.length:=by
   refine mG (i:=id-H.length) ?_;rw[Qe,(A0:H.length+(id-H.length)=id)];exact d
  have h:(!y.fA)=true:=aT.1 hk.2 y this;rw[t]at h;cases h
end
section
variable {d : Nat} {ty : TypeId} {pos : String} {af : Array Edge} {gd : Y (Nat × Bool)} {id k : Nat} {T : Ty} {xss : Td (Td (I T))}
end
section
variable {im:Td Nat}{o:Oper}{nt:Nat}{i:Int}{ops:Array Oper}{rest:Td Oper}
theorem CH(h:bQ P tb){p:Pl (AT×Td Ob)}(he:Ni tb im o D H=some p){v:AT}{H':Td Ob}(j:p.has (v,H'))(hd:∀d,o.dst=some d->d<E.n):Lk P o E F D H v H':=by unfold Ni at he;cases he
theorem Jh(j:bQ P tb)(C:iJ P O)(y:E.n=nt){K:AT->Td Ob->Y R}{r:R}(hc:D6 tb O nt im o D H K=some r):∃v H',K v H'=some r/\Lk P o E F D H v H':=by
 unfold D6 at hc;split at hc
 .rename_i p he;split at hc
  .rename_i d hd;split at hc
   .rename_i t;obtain⟨q,h1,h2⟩:=Pl.iU hc;exact⟨q.1,q.2,h2,CH j he h1 λG h'=>by rw[hd]at h';cases h';rw[y];simpa [Ps]using t⟩
   .cases hc
  .rename_i hd;obtain⟨q,h1,h2⟩:=Pl.iU hc;exact⟨q.1,q.2,h2,CH j he h1 λG h'=>by rw[hd]at h';cases h'⟩
 .obtain⟨v,H',k1,A⟩:=Bx (E:=E) j C y hc;split at k1
  .rename_i w;refine⟨v,H',k1,λρ L h hs hp I J=>nW ((A ⟨h,ρ,H⟩).1 ρ L h hs hp (Fr.refl _ _ _)) ?_⟩;rintro S T ⟨ρ',M,rfl,m1,N,Q,B⟩;exact⟨ρ',M,rfl,m1,N,Q,I.trans B,J.aH B (rl (A ⟨h,ρ,H⟩).2 w)⟩
  .cases k1
theorem AB{α:Type}{xs ys zs:Td α}(h:uc xs ys i=some zs):0<=i/\i<=xs.length/\lim (ys++xs.drop i.toNat)=some zs:=by
 unfold uc at h;cases d:decide (0<=i)&&decide (i<=(xs.length:Int))with
 | true=>
  rw[d]at h;simp only[bA,O8]at d;exact⟨d.1,d.2,h⟩
 |false=>rw[d]at h;cases h
theorem K6(A:bQ P tb){w d2:Nat}{ty:TypeId}{pos:String}{af:Array Edge}(N:w<E.n)(O:d2<E.n){t t1 t2 id d n m z:Nat}{ti B C:TI}{T U:Ty}{x y:Operand}{xs ys zs:Td (I T)}{ty2:TypeId}{pos2:String}{af2:Array Edge}{K:Env->au->Prop}(ht:tb t=some ti)(he:ti.elem=some T)(Q:tb t1=some B)(R:B.elem=some T)(S:tb t2=some C)(V:C.elem=some U)
  (hs:cj ρ H D L) (hh:HpR ρ H h) (hf:Fr F ρ H h) (W:XR F ρ H h) (hx:ev D x=some (.one (.o id))) (hr:H[id]? =some (.row T n xs)) (M:ev D y=some (.one (.i i))) (hz:D.lookup z=some (.one (.o d))) (G:H[d]? =some (.row T m ys)) (hzd:z≠w) (hi:0<=i) (X:i<=xs.length) (hl:lim (ys++xs.drop i.toNat)=some zs)
  (hk:∀ρ' L' h',SR F ρ' ⟨(d2,.one (.o H.length))::(w,.one (.o d))::D,(H.set d .aQ)++[.row T 0 zs]⟩ L' h'->Abs.ao P ops rest E K L' h'):
  Abs.ao P ops (⟨some w,.slice t x (some y) none none,ty,pos,af,none⟩::⟨some d2,.call ⟨.builtin .append,#[.tmp z,.tmp w],#[t1,t2]⟩,ty2,pos2,af2,none⟩::rest) E K L h:=by
 refine Abs.aI rfl (I9 A N ht he hs hh hx hr M hi X λv ns h1 h2=>Abs.aI rfl ?_);obtain⟨j,G2⟩:=A.get S;obtain⟨el',z'',k0,k1,_⟩:=G2.elem U V;obtain⟨vz,z1,z2⟩:=hs z _ hz;have Y:cj ρ H [(z,.one (.o d))] ((w,.one v)::L):=λs u hu=>G1
 refine nW (ro (F:=⟨h,ρ,H⟩) A O Q R (x:=.tmp z) (y:=.tmp w) (D:=[(z,.one (.o d))]) (by simp[ev]) G hl Y hh (Fr.refl _ _ _) ⟨ns,h1,Abs.fP G2.tb k1 (by simp[Abs.ev]) h2⟩) ?_;rintro L3 h3 ⟨ρ',av,rfl,m1,m2,m3,m4⟩;have Z:=(gI.1 G).1;have hg:((H.set d Ob.aQ)++[Ob.row T 0 zs])[d]? =some .aQ:=G1
 refine hk ρ' _ h3 ⟨?_,m2,hf.trans m4,W.aH m4 ?_⟩
 .exact i8 (dst:=some d2) (i8 (dst:=some w) (hs.mono m3) (.one (.oG hg))) m1
 .intro j y J M;by_cases hjl:j<H.length
  .rw[aL (by simpa using hjl)]at J;by_cases e:d=j
   .subst e;rw[sS Z]at J;cases J;cases M
   .grind
  .rw[aR A4]at J;have:=mG J;simp at this;subst this;cases M
theorem FL(A:bQ P tb){nt:Nat}(Q:E.n=nt){im:Td Nat}{ops:Array Oper}{o:Oper}{rest j:Td Oper}{R:Oper}(w:rest=R::j){p:Pl (Td (Nat×AT)×Td Ob)}(hp:Ft tb nt im o rest D H=some p){q:Td (Nat×AT)×Td Ob}(v:p.has q){K:Env->au->Prop}
  (hs:cj ρ H D L) (V:HpR ρ H h) (W:Fr F ρ H h) (B:XR F ρ H h) (hk:∀ρ' L' h',SR F ρ' ⟨q.1,q.2⟩ L' h'->Abs.ao P ops j E K L' h'):Abs.ao P ops (o::rest) E K L h:=by
 subst w;obtain⟨dst,op,ty,pos,af,gd⟩:=o;obtain⟨S,X,ty2,pos2,af2,Y⟩:=R;unfold Ft at hp;simp only at hp;split at hp
 .rename_i t x y;split at hp
  .rename_i d1 Z _ e;cases e;split at hp
   .split at hp
    .rename_i ae tys d2 e1 e2 e3;simp only at e1 e2 e3;subst e1 e2 e3;split at hp
     .rename_i z d t1 t2 ha hb;have C:ae= #[Operand.tmp z,Operand.tmp d]:=by rw[<-PQ (xs:=ae),ha]
      have G:tys= #[t1,t2]:=by rw[<-PQ (xs:=tys),hb]
      subst C G;split at hp
      .rename_i hc;rw[bA,bA,bA]at hc;obtain⟨⟨⟨c1,c2⟩,c3⟩,c4⟩:=hc;have c1:=OL c1;subst c1;have c2:z≠d:=λe=>by subst e;simp at c2
       rw[Ps]at c3 c4;split at hp
       .rename_i id i id2 hx hy hz;cases hp;split at v
        .rename_i ti ti1 ti2 _ n xs _ m ys ht I J hr M _;split at v
         .rename_i T T1 U he N O;split at v
          .rename_i xs2 ys2 e1 e2;obtain⟨rfl,rfl⟩:=dE e1;obtain⟨rfl,rfl⟩:=dE e2;split at v
           .rename_i xs3 e3;obtain⟨rfl,rfl⟩:=dE e3;obtain⟨zs,e4,e5⟩:=v;cases e5;obtain⟨k1,k2,k3⟩:=AB e4;exact K6 A (by rw[Q];exact c3) (by rw[Q];exact c4) ht he I N J O hs V W B hx hr hy hz M c2 k1 k2 k3 hk
           .cases v
          .cases v
         .cases v
        .cases v
       .cases hp
      .cases hp
     .cases hp
    .cases hp
   .cases hp
  .cases hp
 .cases hp
theorem KR(M:bQ P tb)(hO:iJ P O)(hE:E.n=nt){K:AT->Td Ob->Y R}{r:R}(hc:NG tb O nt im o D H K=some r)(hs:cj ρ H D L)(hp:HpR ρ H h)(hf:Fr F ρ H h)(hx:XR F ρ H h):
  ar P o E (λX h2=>∃v H' ρ' A,K v H'=some r/\X=Abs.bp o.dst A L/\ATR ρ' H' v A/\HpR ρ' H' h2/\Ev ρ H ρ' H'/\Fr F ρ' H' h2/\XR F ρ' H' h2) L h:=by
 have B:D6 tb O nt im o D H K=some r->ar P o E (λX h2=>∃v H' ρ' A,K v H'=some r/\X=Abs.bp o.dst A L/\ATR ρ' H' v A/\HpR ρ' H' h2/\Ev ρ H ρ' H'/\Fr F ρ' H' h2/\XR F ρ' H' h2) L h:=λk=>by
  obtain⟨v,H',k1,k2⟩:=Jh (F:=F) M hO hE k;exact nW (k2 ρ L h hs hp hf hx) λX h2 ⟨ρ',A,m⟩=>⟨v,H',ρ',A,k1,m⟩
 unfold NG at hc;split at hc
 .rename_i x ae tys d N y;split at hc
  .rename_i f caps xs Q C;cases Z:Nat.beq (O.mode f) 3 with
   |false=>rw[Z]at hc;exact B hc
   | true=>
    rw[Z]at hc;simp only[cT]at hc;split at hc
    .rename_i G;have hn:d<E.n:=by rw[hE];simpa [Ps]using G
     obtain⟨dst,op,ty,pos,af,gd⟩:=o;simp only at N y;subst N y;obtain⟨ae,rfl⟩:∃l:Td Operand,ae=l.toArray:=⟨ae.toList,A1⟩;simp only at C;unfold Lt at hc;split at hc
     .rename_i ys H1 J;simp only at hc;split at hc
      .rename_i Hc zs T U hmv;obtain⟨S,s1,s2⟩:=(hO _ _ _ _ _ _ hc).2 Z;obtain⟨vs,avs,e1,e2,e3⟩:=rW (tys:=tys) M Q C hs;obtain⟨ρ1,bvs,m1,m2,m3⟩:=lJ J hp (Fr.refl _ _ _) e3;obtain⟨c1,c2,c3⟩:=mC m1.heap T U;obtain⟨d1,d2⟩:=lI hmv;refine Abs.ph e1 e2 hn (s2 _ h bvs c1 ⟨by rw[d1];exact m2.1,λj j1 j2=>pv c2 (m2.2 j A0 j2) (d2 j A0 j1)⟩) (λι I w cs hcs=>m3.ars hcs) (λr' h' ⟨q,ρ',hq',n1,n2,n3⟩=> ?_);have h1:=s1 q hq';split at h1
       .rename_i Hb u hb1 hb2 hb3;split at h1
        .rename_i hok;obtain⟨p1,p2,p3,p4⟩:=Bz m1.heap m1.fr T U n2 n3 (O1 hb1) hb2;refine⟨_,_,_,r',h1,rfl,pv p4 n1 hb3,p1,m1.ev.trans p2,hf.trans p3,hx.aH p3 (rl (λid x V W=> ?_) hok)⟩;simp only[eK,Q,C,OL Z,J]at W;obtain⟨t,rfl⟩:=j8 J;have G:=(gI.1 V).1;rw[aL (by rw[fK];simp;omega),gV _ _ _ W,aL G];exact V
        .cases h1
       .cases h1
      .cases hc
     .cases hc
    .cases hc
  .exact B hc
 .exact B hc
theorem qU(w:bQ P tb)(M:iJ P O){nt:Nat}(A:E.n=nt){im:Td Nat}{ops:Td Oper}{K:St->Y R}{r:R}:∀{rest:Td Oper}{st:St}{ρ:Rho}{L:Env}{h:au},Ew tb O nt im ops rest st K=some r->SR F ρ st L h->ao P ops.toArray rest E (λy h2=>∃ρ' t,K t=some r/\SR F ρ' t y h2) L h
 |[],st,ρ,L,h,hc,hs=>Abs.fD ⟨ρ,st,hc,hs⟩
 | o::rest,st,ρ,L,h,hc,hs=>by
  unfold Ew at hc;obtain⟨y,h2,U,d⟩:=jh (ids:=vV O im o st.L) hs;refine Abs.IC U ?_;clear hs U L h;obtain⟨B,e1⟩:∃B,B=cR (vV O im o st.L) st:=⟨_,rfl⟩;rw[<-e1]at d;simp only[prep,<-e1]at hc;split at hc
  .rename_i p hp;split at hc
   .rename_i o2 N;obtain⟨q,q1,q2⟩:=Pl.iU hc;exact FL (F:=F) w A rfl hp q1 d.bc d.heap d.fr d.xr λρ' L' h' Q=>qU w M A q2 Q
   .cases hc
  obtain⟨D',C,D⟩:=mm (λ_ _ h=>h) hc;have G:=C.enc d.bc;rcases D with⟨g,k⟩|⟨g,k⟩
  .have run:ar P o E (ao P ops.toArray rest E (λy h2=>∃ρ' t,K t=some r/\SR F ρ' t y h2)) y h2:=by
    refine nW (KR w M A k G d.heap d.fr d.xr) ?_;rintro L3 h3 ⟨v,H',ρ',av,k1,rfl,m1,V,W,X,Z⟩;exact qU w M A k1 ⟨i8 (G.mono W) m1,V,X,Z⟩
   cases g with
   |run I=>exact Abs.aI I run
   |runG I J hd=>exact Abs.kj I J (BE d.bc hd) rfl run
  .have skip:∀{S},o.dst=some S->ao P ops.toArray rest E (λy h2=>∃ρ' t,K t=some r/\SR F ρ' t y h2) ((S,.tup [])::y) h2:=λ{S} j=>by
    have:=i8 (dst:=o.dst) G (oA (ρ:=ρ) (H:=B.H));rw[j]at this k;exact qU w M A k ⟨this,d.heap,d.fr,d.xr⟩
   cases g with
   |skip I J hd hp j T=>exact Abs.qY I J (BE d.bc hd) hp j (by rw[A];exact T) (skip j)
   |skipU I J hd j T=>exact Abs.tf I J (Ld d.bc hd) j (by rw[A];exact T) (skip j)
end
end
section
variable {P : Program} {E : Abs.Cx} {F : In} {ρ ρ' : Rho} {H : Td Ob} {D : Td (Nat × AT)} {L : Env} {h h' : au} {R : Type} {tb : Nat → Y TI} {O : Orc}
theorem ik(dst:Y Nat)(v:AT)(L:Td (Nat×AT)):kU dst v L=Draw.bp dst v L:=by cases dst<;>rfl
theorem cj.sub{d:Td (Nat×AT)}(h:cj ρ H D L)(hs:Draw.Sub d D):cj ρ H d L:=λt v j=>h t v (hs t v j)
def sys(P:Program)(E:Abs.Cx)(F:In)(ops:Array Oper)(M:Td Ob):Draw.Sys P ops AT (Td Ob) where
 Rel:=λD H a w=>Le M H/\∃ρ L h ι I,SR0 F ρ ⟨D,H⟩ L h/\Abs.Rel E L h ι I a w
 OT:=λo D v H H'=>Le M H->Le M H'/\((Gd ops E.n o D true/\eS P o E F D H v H')\/(Gd ops E.n o D false/\v= .tup []/\H'=H))
 gj:=λ⟨t,ρ,L,h,ι,I,hs,r⟩ k=>⟨t,ρ,L,h,ι,I,⟨hs.bc.sub k,hs.heap,hs.fr⟩,r⟩
 same:=λ⟨t,ρ,L,h,ι,I,hs,r⟩ e1 e2 e3 S=>⟨t,ρ,L,h,ι,I,hs,r.same e1 e2 e3 S⟩
 sound:=λ{o D R v H H' i a w Q K} N j ho ⟨t,ρ,L,h,ι,I,hs,r⟩ hk=>by
  unfold wpOp;rw[ho];simp only[];obtain⟨A,N⟩:=N t;rcases N with⟨g,O⟩|⟨g,rfl,rfl⟩
  .have T:Region.wanted o (yielded ops a.tmps)=true:=by
    cases g with
    |run y=>simp[Region.wanted,y]
    | runG y B hd=>
     have C:=r.yields (ops:=ops) B (BE hs.bc (j _ _ hd));simp[Region.wanted,y,C]
   rw[mt T];refine .inl (Abs.jj ?_ (λ_ _ _ f=>f.elim) ((O ρ L h (hs.bc.sub j) hs.heap hs.fr).get [] ι I a w (by rw[OO];exact r)));rintro U w' ⟨L',h2,ι',V,⟨ρ',av,rfl,m1,W,X,Y⟩,Z⟩;refine hk U w' ⟨A,ρ',_,h2,ι',V,⟨?_,W,Y⟩,Z.low⟩;show cj ρ' _ (Draw.bp o.dst v R) _;rw[<-ik];exact i8 (hs.bc.mono X) m1
  .have fin:∀{G},o.dst=some G->G<E.n->K (a.put (some G) undef) w:=λ{G} d J=>by
    refine hk _ _ ⟨t,ρ,_,h,ι,I,⟨?_,hs.heap,hs.fr⟩,r.put J Abs.AR.none_⟩;show cj ρ _ (Draw.bp o.dst _ R) _;rw[<-ik,d];exact i8 (dst:=some G) hs.bc oA
   cases g with
   | skip y B hd hp d J=>
    have C:=r.yields (ops:=ops) B (BE hs.bc (j _ _ hd));rw[O2 (by simp[Region.wanted,y,C,hp]),d];exact fin d J
   | skipU y B hd d J=>
    have C:=r.yieldsU (ops:=ops) B (Ld hs.bc (j _ _ hd));rw[O2 (by simp[Region.wanted,y,C]),d];exact fin d J
section
variable {ops:Array Oper}{ch rd π:Td Nat}{c:Code}{o:rU}
theorem wC{S:Draw.Sys P ops AT (Td Ob)}{σ:Td Nat}{D B:Td (Nat×AT)}{hs C:Td (Td Ob)}(d:Draw.DR S ch rd π σ D hs B C):∀{v:Td (Nat×AT)},Same D v->∃j,Draw.DR S ch rd π σ v hs j C/\Same B j:=by
 induction d with
 |nil L hs=>exact λh=>⟨_,.nil _ _,h⟩
 | pure ho hc w _ y=>
  intro v h;have t:=h.bind;simp only[ik]at t;obtain⟨j,k1,A⟩:=y (t _ _);exact⟨j,.pure ho hc (by rw[<-h.sel];exact w) k1,A⟩
 | read ho hc E w _ y=>
  intro v h;have t:=h.bind;simp only[ik]at t;obtain⟨j,k1,A⟩:=y (t _ _);exact⟨j,.read ho hc E (by rw[<-h.sel];exact w) k1,A⟩
 | chain ho hc w _ y=>
  intro v h;have t:=h.bind;simp only[ik]at t;obtain⟨j,k1,A⟩:=y (t _ _);exact⟨j,.chain ho hc (by rw[<-h.sel];exact w) k1,A⟩
theorem lD(B:bQ P tb)(Z:iJ P O){nt:Nat}(G:E.n=nt){im:Td Nat}{ops:Array Oper}{L:Td Ob}{π ch rd:Td Nat}{K:Td (Nat×AT)->Td Ob->Y R}{r:R}:∀{rest done:Td Nat} {D:Td (Nat×AT)} {W H:Td Ob} {hs:Td (Td Ob)},dW tb O nt im ops L π ch rd done rest D W H K=some r->hs.length=Abs.cnt ch done->(∀h∈H::hs,Le W h)->
  ∃C y hl w,Draw.DR (sys P E F ops L) ch rd π rest D (H::hs) w (y::hl)/\Same C w/\K C y=some r/\cq H y
 |[],done,D,W,H,hs,hc,_,_=>⟨D,H,hs,D,.nil _ _,.refl _,hc,.refl _⟩
 | i :: rest, done,D,W,H,hs,hc,hl,d=>by
  unfold dW at hc;split at hc
  .cases hc
  rename_i o ho;have U:Abs.cnt ch (i::done)=Abs.cnt ch done+(if ch.contains i then 1 else 0):=by
   unfold Abs.cnt;rw[List.countP_cons]
  have M:Draw.Sub (Draw.sel D (o.looksAt ops)) D:=Draw.sel_sub λ_ _=>rfl;simp only at hc;split at hc
  .rename_i N;have A:(H::hs).length=Abs.cnt ch (i::done):=by rw[U,mt N,OP,hl]
   have go:∀{v:AT}{T H':Td Ob}{J:Td (Nat×AT)},cq H H'->Same J D->(sys P E F ops L).OT o (Draw.sel D (o.looksAt ops)) v H H'->Le T W->Le T H'->dW tb O nt im ops L π ch rd (i::done) rest (kU o.dst v J) T H' K=some r->
     ∃C y hl w,Draw.DR (sys P E F ops L) ch rd π (i::rest) D (H::hs) w (y::hl)/\Same C w/\K C y=some r/\cq H y:=λ{v T H' J} hrs t ht hd1 hd2 hc=>by
    obtain⟨C,y,Q,w,k1,k3,I⟩:=lD B Z G (hs:=H::hs) hc A (λh hm=>by
     rcases List.mem_cons.1 hm with rfl|hm
     .exact hd2
     .exact hd1.trans (d h hm))
    obtain⟨S,m1,m2⟩:=wC k1 (t.bind o.dst v);rw[ik]at m1;exact⟨C,y,Q,S,.chain ho N ht m1,k3.trans m2,I.1,hrs.trans I.2⟩
   obtain⟨J,t,⟨g,k⟩|⟨g,k⟩⟩:=mm M hc
   .split at k
    .rename_i htc;obtain⟨v,H',k1,k24⟩:=Bx (E:=E) B Z G k;have I:=λF=>(k24 F).1;have k4:=(k24 F).2;split at k1
     .rename_i hok;exact go (rl k4 hok) t (λd=>⟨d.unt k4 htc,.inl ⟨QH,I F⟩⟩) (yx _ _) ((d H A1).hide k4) k1
     .cases k1
    .cases k
   .exact go (.refl _) t (λd=>⟨d,.inr ⟨QH,rfl,rfl⟩⟩) (.refl _) (d H A1) k
  .rename_i N;have V:ch.contains i=false:=by simpa using N
   have A:hs.length=Abs.cnt ch (i::done):=by rw[U,O2 N];exact hl
   split at hc
   .rename_i hrd
    have go:∀{v:AT}{J:Td (Nat×AT)},Same J D->(∀H2∈(H::hs).take ((H::hs).length-Abs.cnt ch (π.filter λj=>Abs.cO ops j i)),(sys P E F ops L).OT o (Draw.sel D (o.looksAt ops)) v H2 H2)->dW tb O nt im ops L π ch rd (i::done) rest (kU o.dst v J) W H K=some r->
      ∃C y hl w,Draw.DR (sys P E F ops L) ch rd π (i::rest) D (H::hs) w (y::hl)/\Same C w/\K C y=some r/\cq H y:=λ{v J} t ht hc=>by
     obtain⟨C,y,Q,w,k1,k3,I⟩:=lD B Z G (hs:=hs) hc A d;obtain⟨S,m1,m2⟩:=wC k1 (t.bind o.dst v);rw[ik]at m1;exact⟨C,y,Q,S,.read ho V hrd ht m1,k3.trans m2,I⟩
    obtain⟨J,t,⟨g,k⟩|⟨g,k⟩⟩:=mm M hc
    .split at k
     .obtain⟨v,k1,I⟩:=wB (E:=E) B G k;exact go t (λH2 _ d=>⟨d,.inl ⟨QH,I F H2⟩⟩) k1
     .split at k
      .rename_i X;obtain⟨v,k1,I⟩:=B9 (F:=F) (E:=E) B Z G X k;refine go t (λH2 hm hle2=>⟨hle2,.inl ⟨QH,I H2 ?_⟩⟩) k1;split
       .rename_i hb;have hb:=O1 hb;have hk:(H::hs).length-Abs.cnt ch (π.filter λj=>Abs.cO ops j i)<=1:=by rw[OP];omega
        have:H2=H:=by
         have h2:H2∈(H::hs).take 1:=G1
         simpa using h2
        rw[this];exact .refl H
       .grind
      .cases k
    .exact go t (λH2 _ d=>⟨d,.inr ⟨QH,rfl,rfl⟩⟩) k
   .have go:∀{v:AT}{J:Td (Nat×AT)},Same J D->(∀H,(sys P E F ops L).OT o (Draw.sel D (o.looksAt ops)) v H H)->dW tb O nt im ops L π ch rd (i::done) rest (kU o.dst v J) W H K=some r->
      ∃C y hl w,Draw.DR (sys P E F ops L) ch rd π (i::rest) D (H::hs) w (y::hl)/\Same C w/\K C y=some r/\cq H y:=λ{v J} t ht hc=>by
     obtain⟨C,y,Q,w,k1,k3,I⟩:=lD B Z G (hs:=hs) hc A d;obtain⟨S,m1,m2⟩:=wC k1 (t.bind o.dst v);rw[ik]at m1;exact⟨C,y,Q,S,.pure ho V ht m1,k3.trans m2,I⟩
    obtain⟨J,t,⟨g,k⟩|⟨g,k⟩⟩:=mm M hc
    .split at k
     .obtain⟨v,k1,I⟩:=wB (E:=E) B G k;exact go t (λH d=>⟨d,.inl ⟨QH,I F H⟩⟩) k1
     .split at k
      .rename_i X;obtain⟨v,k1,I⟩:=B9 (F:=F) (E:=E) (H:=L) B Z G X k;exact go t (λH d=>⟨d,.inl ⟨QH,I H d⟩⟩) k1
      .cases k
    .exact go t (λH d=>⟨d,.inr ⟨QH,rfl,rfl⟩⟩) k
def NF(F:In)(K:Kt R)(r:R):Exit->Env->au->Prop:=λe L h=>∃ρ' d,K e d=some r/\SR F ρ' d L h
def iO(P:Program)(an:Ann)(c:Code)(f:(R:Type)->St->Kt R->Y R):Prop:=∀[Zb](R:Type)(E:Abs.Cx)(F:In),E.n=an.nt->F.ok an.refs->∀(st:St)(K:Kt R)(r:R)(ρ:Rho)(L:Env)(h:au),f R st K=some r->SR F ρ st L h->aw P c E (NF F K r) L h
def je(P:Program)(an:Ann)(pc:Pcs):Td (Nat×Nat×Code)->Prop
 |[]=>True
 |p::l=>iO P an p.2.2 (λR=>pc.at_ p.1 R p.2.1)/\je P an pc l
theorem je.app{an:Ann}{pc:Pcs}:∀{a b:Td (Nat×Nat×Code)},je P an pc (a++b)->je P an pc a/\je P an pc b
 |[],_,h=>⟨trivial,h⟩
 |_::_,_,h=>let⟨h1,h2⟩:=je.app h.2;⟨⟨h.1,h1⟩,h2⟩
theorem xC{c:Operand}{b:Bool}{st:St}(hs:SR F ρ st L h)(d:ev st.L c=some (.one (.b b))):SR F ρ (xl c b st) L h:=by
 cases c with
 |tmp t=>exact⟨Same.enc (j7 d) hs.bc,hs.heap,hs.fr,hs.xr⟩
 |_=>exact hs
theorem ki(hm:P.follows .mixedOrders=true)(j:bQ P tb)(H:iJ P O){an:Ann}{pc:Pcs}(B:E.n=an.nt)(hF:F.ok an.refs):∀{c:Code}{st:St}{K:Kt R}{r:R}{ρ:Rho}{L:Env}{h:au},je P an pc (cU an c)->den tb O pc an c st K=some r->SR F ρ st L h->aw P c E (NF F K r) L h
 | .skip,st,K,r,ρ,L,h,_,hc,hs=>Abs.vU ⟨ρ,st,hc,hs⟩
 | .ret,st,K,r,ρ,L,h,_,hc,hs=>Abs.AX ⟨ρ,st,hc,hs⟩
 | .exit id,st,K,r,ρ,L,h,_,hc,hs=>Abs.v7 ⟨ρ,st,hc,hs⟩
 | .seq a b,st,K,r,ρ,L,h,t,hc,hs=>by
  unfold cU at t;obtain⟨C,v⟩:=t.app;refine Abs.nQ (Abs.gk ?_ (ki hm j H B hF (c:=a) C hc hs));rintro e L h ⟨ρ',D,k1,A⟩;cases e with
  | normal=>
   simp only[yh]at k1;simp only[Abs.qz];split at v
   .rename_i lv hl;rw[hl]at k1;obtain⟨J,M,m1,N⟩:=cP hF A k1;exact v.1 R E F B hF _ _ _ _ _ _ m1 N
   .rename_i hl;rw[hl]at k1;exact ki hm j H B hF (c:=b) v k1 A
  |_=>exact⟨ρ',D,k1,A⟩
 | .block id a,st,K,r,ρ,L,h,t,hc,hs=>by
  refine Abs.sL (Abs.gk ?_ (ki hm j H B hF (c:=a) t hc hs));rintro e L h ⟨ρ',D,k1,A⟩;cases e with
  | exit id'=>
   simp only[GZ]at k1;simp only[Abs.ni];by_cases hid:id'=id
   .subst hid;rw[mt (Nat.beq_refl id')]at k1;rw[mt rfl];exact⟨ρ',D,k1,A⟩
   .rw[O2 (λW=>hid (OL W))]at k1;rw[O2 hid];exact⟨ρ',D,k1,A⟩
  |_=>exact⟨ρ',D,k1,A⟩
 | .cond x a b,st,K,r,ρ,L,h,t,hc,hs=>by
  unfold cU at t;obtain⟨C,v⟩:=t.app;unfold den at hc;split at hc
  .rename_i p Q;obtain⟨av,h1,h2⟩:=bf hs.bc Q;obtain⟨u,rfl,X⟩:=h2.bi;rw[X.bool]at h1;refine Abs.dX h1 (λe=> ?_) (λe=> ?_)
   .subst e;have hs:=xC hs Q;simp only[cT]at hc;split at C
    .rename_i lv hl;rw[hl]at hc;obtain⟨J,M,m1,N⟩:=cP hF hs hc;exact C.1 R E F B hF _ _ _ _ _ _ m1 N
    .rename_i hl;rw[hl]at hc;exact ki hm j H B hF (c:=a) C hc hs
   .subst e;have hs:=xC hs Q;simp only[cF]at hc;split at v
    .rename_i lv hl;rw[hl]at hc;obtain⟨J,M,m1,N⟩:=cP hF hs hc;exact v.1 R E F B hF _ _ _ _ _ _ m1 N
    .rename_i hl;rw[hl]at hc;exact ki hm j H B hF (c:=b) v hc hs
  .cases hc
 | .loop a,st,K,r,ρ,L,h,t,hc,hs=>by
  unfold den at hc;split at hc
  .exact SA
  .cases hc
 | .region id ⟨ops⟩ false,st,K,r,ρ,L,h,_,hc,hs=>Abs.pQ (qU j H B hc hs)
 | .region id ops true,st,K,r,ρ,L,h,t,hc,hs=>by
  unfold cU at t;unfold den at hc;split at hc
  .rename_i d V;rw[V]at t;simp only at t;split at hc
   .cases hc
   .rename_i π ch rd ho;split at hc
    .rename_i hp;obtain⟨Y,h2,Z,G⟩:=jh (ids:=bE st.L st.H d.fz) hs;simp only at hc;refine Abs.dJ Z ?_;obtain⟨Df,Hl,hl,Df',k1,k3,A,k4⟩:=lD (F:=⟨h2,ρ,(cR (bE st.L st.H d.fz) st).H⟩) (E:=E) j H B (hs:=[]) hc rfl (λh hm=>by simp at hm;subst hm;exact .refl _);refine⟨λι I a w rel=> ?_⟩;refine Draw.draw (S:=sys P E ⟨h2,ρ,(cR (bE st.L st.H d.fz) st).H⟩ ops (fe d.vis (cR (bE st.L st.H d.fz) st).H)) hm π ch rd hp k1 (λa w ⟨_,ρ',L',h',ι',I',q1,q2⟩=>⟨L',h',ι',I',⟨ρ',⟨Df,Hl⟩,A,⟨k3.enc q1.bc,q1.heap,G.fr.trans q1.fr,G.xr.aH q1.fr k4⟩⟩,q2⟩) ⟨xW _ _,ρ,Y,h2,ι,I,⟨G.bc,G.heap,Fr.refl _ _ _⟩,rel⟩
    .cases hc
   .rename_i x y l ho;rw[ho]at t;exact SA
  .cases hc
theorem ju(hm:P.follows .mixedOrders=true)(v:bQ P tb)(G:iJ P O){an:Ann}{id:Nat}{d:Dw}(hp:Abs.mw ops d.cs d.s6=true){f:(R:Type)->St->Kt R->Y R}
  (J:∀p∈d.s6,∀(R:Type)(st:St)(K:Kt R)(r:R),f R st K=some r->(λj:St=>dW tb O an.nt an.im ops (fe d.vis j.H) p.1 p.2.1 p.2.2 [] p.1 j.L j.H j.H λL H=>jd an.refs o K .normal ⟨L,H⟩) (cR (bE st.L st.H d.fz) st)=some r):iO P an (.region id ops true) f:=
 fun R E F M hF st K r ρ L h hk hs=>by
  obtain⟨N,h2,Q,t⟩:=jh (ids:=bE st.L st.H d.fz) hs;refine Abs.dJ Q ⟨λι I a w rel=> ?_⟩;refine Draw.drawL (S:=sys P E ⟨h2,ρ,(cR (bE st.L st.H d.fz) st).H⟩ ops (fe d.vis (cR (bE st.L st.H d.fz) st).H)) (L:=(cR (bE st.L st.H d.fz) st).L) (h:=(cR (bE st.L st.H d.fz) st).H) hm d.cs d.s6 hp (λp y=> ?_) ⟨xW _ _,ρ,N,h2,ι,I,⟨t.bc,t.heap,Fr.refl _ _ _⟩,rel⟩;obtain⟨T,D,hl,A,k1,U,V,W⟩:=lD (F:=⟨h2,ρ,(cR (bE st.L st.H d.fz) st).H⟩) (E:=E) v G M (hs:=[]) (J p y R st K r hk) rfl (λh hm=>by simp at hm;subst hm;exact .refl _);refine⟨A,D,hl,k1,λa w ⟨_,ρ',L',h',ι',X,q1,q2⟩=> ?_⟩;have q3:SR F ρ' ⟨T,D⟩ L' h':=⟨U.enc q1.bc,q1.heap,t.fr.trans q1.fr,t.xr.aH q1.fr W⟩;obtain⟨B,C,m1,Z⟩:=cP hF q3 V;exact⟨L',h',ι',X,⟨B,C,m1,Z⟩,q2⟩
theorem Dd(hm:P.follows .mixedOrders=true)(d:bQ P tb)(t:iJ P O){an:Ann}{pc:Pcs}(v:je P an pc (cU an c)){f:(R:Type)->St->Kt R->Y R}(w:∀(R:Type)(st:St)(K:Kt R)(r:R),f R st K=some r->den tb O pc an c st (jd an.refs o K)=some r):iO P an c f:=
 λR _ _ y hF st K r _ _ _ hk hs=>Abs.gk (λ_ _ _ ⟨_,_,k1,A⟩=>let⟨h,j,m1,B⟩:=cP hF A k1;⟨h,j,m1,B⟩) (ki hm d t y hF v (w R st K r hk) hs)
theorem zB(hm:P.follows .mixedOrders=true)(v:bQ P tb)(y:iJ P O){an:Ann}{pc:Pcs}{lv:Td Nat}(A:je P an pc (cU an c)){f:Nat->(R:Type)->St->Kt R->Y R}(h0:∀(R:Type)(st:St)(K:Kt R),f 0 R st K=none)
  (B:∀(n:Nat)(R:Type)(st:St)(K:Kt R)(r:R),f (n+1) R st K=some r->den tb O pc an c st (pn an.refs lv o (λt=>f n R t K) K)=some r) (n:Nat):iO P an (.loop c) (f n):=
 fun R E F C hF st K r ρ L h hk hs=>by
  refine Abs.oh (λm L h=>∃ρ st,f m R st K=some r/\SR F ρ st L h) (Abs.zp L) ⟨ρ,st,hk,hs⟩ ?_;rintro m L h ⟨ρ,st,m1,D⟩;cases m with
  |zero=>rw[h0]at m1;cases m1
  | succ m=>
   refine Abs.gk ?_ (ki hm v y C hF A (B m R st K r m1) D);rintro e L h ⟨ρ',t,k1,w⟩;cases e with
   | normal=>
    simp only[pn,yh]at k1;obtain⟨d,j,q1,q2⟩:=cP hF w k1;exact⟨m,L,OX m,Abs.zp L,d,j,q1,q2⟩
   | _=>
    simp only[pn,yh,jd]at k1;obtain⟨d,j,q1,q2⟩:=cP hF w k1;exact⟨d,j,q1,q2⟩
end
end
def jY:Nat->Td AT->Td (Nat×AT)
 |_,[]=>[]
 |k,x::xs=>(k,x)::jY (k+1) xs
def N3(tb:Nat->Y TI)(L:Td (Nat×AT))(H:Td Ob):ResultVar->Y AT
 | .tmp t=>L.lookup t
 | .cell a t=>match L.lookup a,tb t with
  | some (.one (.p id off)),some d=>match H[id]? with
   |some (.box cs)=>ld d.agg d.size (cs.drop off)
   |_=>none
  |_,_=>none
def uL(tb:Nat->Y TI)(L:Td (Nat×AT))(H:Td Ob):Td ResultVar->Y (Td AT)
 |[]=>some []
 | r::rs=>match N3 tb L H r,uL tb L H rs with
  |some v,some vs=>some (v::vs)
  |_,_=>none
def Gx:Td AT->AT
 |[x]=>x
 |xs=>.tup xs
def yf:Td AV->AV
 |[x]=>x
 |xs=>.tup xs
def Ln:Td AT->Td Nat
 |[]=>[]
 | x::xs=>(match cells x with
  |some cs=>cs.flatMap C.rows
  |none=>[])++Ln xs
def idsR(tb:Nat->Y TI)(rs:Td ResultVar)(st:St):Td Nat:=match uL tb st.L st.H rs with
 |some vs=>Ln vs
 |none=>[]
def yP(tb:Nat->Y TI)(an:Ann)(rs:Td ResultVar)(st:St):Y (AT×Td Ob):=
 let d:=cR (idsR tb rs st) st
 match uL tb d.L d.H rs with
 | some vs=>match eH [] vs with
  |some us=>eM an.refs [] d λh=>some (Gx us,h.H)
  |none=>none
 |none=>none
def sn(L:Td (Nat×AT)):Nat->Nat->Y (Td AT)
 |_,0=>some []
 | k,m+1=>match L.lookup k,sn L (k+1) m with
  |some v,some vs=>some (v::vs)
  |_,_=>none
def DD(tb:Nat->Y TI)(an:Ann)(rs:Td ResultVar)(st:St):Y (AT×Td Ob):=
 match uL tb st.L st.H rs with
 | some vs=>eM an.refs (List.range vs.length) ⟨jY 0 vs,st.H⟩ fun d=>match sn d.L 0 vs.length with
  |some us=>some (Gx us,d.H)
  |none=>none
 |none=>none
def oO{R:Type}(fin:St->Y R):Kt R
 | .normal,st=>fin st
 | .ret,st=>fin st
 |_,_=>none
section
variable {P : Program} {E : Abs.Cx} {F : In} {ρ ρ' : Rho} {H : Td Ob} {D : Td (Nat × AT)} {L : Env} {h h' : au} {R : Type} {tb : Nat → Y TI} {O : Orc}
theorem pO:∀{k:Nat}{xs:Td AT}{avs:Td AV},cL ρ H xs avs->cj ρ H (jY k xs) (Abs.jr k avs)
 |k,[],avs,_=>λt v d=>by simp[jY]at d
 | k, x::xs,avs,h=>by
  obtain⟨w,avs,rfl,y,j⟩:=h.head;intro t v d;simp only[jY,OK]at d;simp only[Abs.jr,OK];split at d
  .grind
  .exact pO j t v d
section
variable {st:St}{fn:Func}{rs:Td ResultVar}{avs:Td AV}{xs xs':Td AT}{H1:Td Ob}{S:AT×Td Ob->Prop}{f:FuncId}{c:Code}{rb:Td Nat}
theorem JI(w:bQ P tb)(hs:SR F ρ st L h){y:ResultVar}{v:AT}(d:N3 tb st.L st.H y=some v):∃j,ATR ρ st.H v j/\Abs.FW P L h y j:=by
 cases y with
 | tmp t=>
  obtain⟨j,h1,h2⟩:=hs.bc t v d;exact⟨j,h2,Abs.oT h1⟩
 | cell a t=>
  unfold N3 at d;simp only at d;split at d
  .rename_i id off M h1 h2;split at d
   .rename_i cs B;obtain⟨i,G⟩:=w.get h2;obtain⟨j,k1,C⟩:=hs.bc a _ h1;obtain⟨u,rfl,D⟩:=C.bi;obtain⟨b,rfl,E⟩:=D.ptr;obtain⟨N,vs,A,H,I⟩:=hs.heap.box id cs B;rw[E]at A;cases A;obtain⟨j,J,K⟩:=xI d (I.drop off);exact⟨j,K,Abs.ux G.tb k1 G.look H rfl (by rw[G.size,G.agg];exact J)⟩
   .cases d
  .cases d
theorem te(j:bQ P tb){st:St}(hs:SR F ρ st L h):∀{rs:Td ResultVar}{vs:Td AT},uL tb st.L st.H rs=some vs->∃avs,cL ρ st.H vs avs/\Abs.ResL P L h rs avs
 |[],vs,d=>by cases d;exact⟨[],.fj,.nil⟩
 | r::rs,vs,d=>by
  simp only[uL]at d;split at d
  .rename_i x xs h1 h2;cases d;obtain⟨t,k1,v⟩:=JI j hs h1;obtain⟨avs,w,y⟩:=te j hs h2;exact⟨t::avs,.cons k1 w,.cons v y⟩
  .cases d
theorem p8.refl(a:Td AV):p8 a a:=⟨rfl,λ_ _ _ _ _ _ _ h=>h⟩
theorem za{d:Td AV}(B:fn.results=rs.toArray)(k:Abs.ResL P L h rs avs)(y:p8 avs d):Abs.Res P fn L h (yf d):=
 ⟨fun E ι I a w r=>by
  obtain⟨cs,e1,e2,e3⟩:=k.run r;have C:results fn a.tmps=(do let vs ←rs.toArray.mapM (Abs.uv a.tmps);pure (if h:vs.size=1 then vs[0]else .tuple vs)):=by
   unfold results;rw[B]
   congr 2
  have A:∀j (t:j<d.length),∃c,cs[j]? =some c/\Abs.AR ι I w d[j] c:=λj t=>by
   obtain⟨c,g1,v⟩:=e3 j (by rw[y.1];exact t);exact⟨c,g1,y.2 j _ t _ _ _ _ v⟩
  have e2:cs.length=d.length:=e2.trans y.1;rw[C];simp only[List.mapM_toArray];by_cases h1:cs.length=1
  .obtain⟨c,rfl⟩:=List.length_eq_one_iff.1 h1;obtain⟨b,rfl⟩:=List.length_eq_one_iff.1 (e2.symm.trans h1);obtain⟨c',g1,v⟩:=A 0 A1;simp at g1;subst g1;exact⟨c,by simp[e1],v⟩
  .refine⟨.tuple cs.toArray,by simp[e1,h1],?_⟩;have hp:yf d= .tup d:=by
    match d,e2 with
    |[],_=>rfl
    |[b],e=>exact absurd e h1
    |b::c::l,_=>rfl
   rw[hp];refine .tup (f:=λj=>(cs[j]?).getD undef) (by simpa using e2) (λj t=> ?_) (λj t=> ?_)
   .obtain⟨c,g1,_⟩:=A j t;simp[g1]
   .obtain⟨c,g1,v⟩:=A j t;simpa [g1]using v⟩
theorem xu(h:cL ρ H xs avs):ATR ρ H (Gx xs) (yf avs):=by
 match xs,avs,h with
 |[],[],h=>exact .tup rfl (λj h=>F1)
 |[x],[a],h=>exact h.2 0 A1 A1
 |x::y::l,a::b::m,h=>exact .tup h.1 h.2
 |[],a::m,h=>exact T7
 |x::l,[],h=>exact T7
 |[x],a::b::m,h=>exact T7
 |x::y::l,[a],h=>exact T7
theorem vh{t v:Td Ob}{j:Rho}:∀{xs ys:Td AT}{d:Td AV},eH t xs=some ys->cL j v ys d->cL ρ H ys d
 | [],ys,d,hp,h=>by
  cases hp;have:=h.1;cases d with
  |nil=>exact .fj
  |cons _ _=>simp at this
 | x::xs,ys,d,hp,h=>by
  simp only[eH]at hp;split at hp
  .rename_i y w h1 h2;cases hp;obtain⟨C,avs,rfl,A,B⟩:=h.head;exact .cons (yA h1 A) (vh h2 B)
  .cases hp
theorem sq{w:Td (Nat×AT)}:∀{m k:Nat}{avs:Td AV}{us:Td AT}{E:Env},cj ρ H w E->(∀j,j<m->∃t,avs[j]? =some t/\∀x,E.lookup (k+j)=some x->x=t)->avs.length=m->sn w k m=some us->cL ρ H us avs
 | 0,k,avs,us,E,_,_,hl,h=>by
  cases h;rw[nZ hl];exact .fj
 | m+1,k,avs,us,E,he,d,hl,h=>by
  simp only[sn]at h;split at h
  .rename_i v vs h1 h2;cases h;cases avs with
   |nil=>simp at hl
   | cons t avs=>
    obtain⟨A,g1,B⟩:=d 0 A0;simp at g1;subst g1;obtain⟨x,k1,C⟩:=he k v h1;have:=B x Ru;subst this;refine .cons C (sq he (λj G=> ?_) QG h2);obtain⟨y,m1,D⟩:=d (j+1) A0;exact⟨y,by simpa using m1,λz F=>D z (by rw[<-F];congr 1;omega)⟩
  .cases h
theorem Ex{t:Td (Nat×AT)}{n:Nat}{us:Td AT}(he:cj ρ H t (Abs.jr 0 avs))(hl:n=avs.length)(h:sn t 0 n=some us):cL ρ H us avs:=by
 refine sq he (λj w=> ?_) hl.symm h;have d:j<avs.length:=A0
 refine⟨avs[j],O0 d,λx v=> ?_⟩;have:=(Abs.mU avs 0 (0+j) x v).2;rw[Pp,Nat.sub_zero,O0 d]at this;cases this;rfl
theorem Mm{g:Nat->Y Nat}{x d:Ob}(hm:x.mv g=some d):evo x d:=by
 cases x with
 | box cs=>
  simp only[Ob.mv]at hm;split at hm
  .cases hm;exact SS
  .cases hm
 |row T n xs=>cases hm;exact evo.refl _
 |map T kvs=>cases hm;exact evo.refl _
 |aQ=>cases hm;exact evo.refl _
 |rows T xss ho=>cases hm;exact evo.refl _
theorem KJ{id:Nat}{O:Td AT}{J:Td Ob}(K:Nl id (xs,H)=some (O,J))(hp:HpR ρ H h)(hf:Fr F ρ H h)(ha:cL ρ H xs avs):∃ρ',HpR ρ' J h/\Fr F ρ' J h/\cL ρ' J O avs:=by
 unfold Nl at K;simp only at K;split at K
 .rename_i x R;split at K
  .rename_i H' ys ho hm;cases K;obtain⟨W,E⟩:=n8 ho;have hid:=(gI.1 R).1;have L:id<ρ.length:=by rw[hp.len];exact hid
   have e1:∀{i:Nat},i≠id->i<H.length->(H.set id .aQ++[x])[i]? =H[i]? :=λ{i} hi hl=>G1
   have e2:(H.set id .aQ++[x])[id]? =some .aQ:=G1
   have e3:(H.set id .aQ++[x])[H.length]? =some x:=G1
   have S:∀{i:Nat},i<H.length->(ρ++[ρ[id]])[i]? =ρ[i]? :=λ{i} hl=>aL (by rw[hp.len];exact hl)
   have U:(ρ++[ρ[id]])[H.length]? =ρ[id]? :=by
    rw[aR (by rw[hp.len];omega),hp.len,O0 L];simp
   have M:tW (λj=>if Nat.beq j id then some H.length else some j) ρ H (ρ++[ρ[id]]) J:=λi j V=>by
    simp only at V;split at V
    .rename_i X;have:=OL X;subst this;cases V;refine⟨λz v=>by rw[U];exact v,λz v=> ?_⟩;rw[R]at v;cases v;obtain⟨y,d,t⟩:=E _ _ e3;obtain⟨s1,s2,_⟩:=ip t;cases x with
     |row T m xs=>exact Sr
     |rows T xss ho=>exact⟨y,0,d,s1,λT m xs e=>E0,n9 t⟩
     |aQ=>exact SN
     |box cs=>exact SN
     |map T kvs=>exact SN
    .rename_i X;cases V;have A:i≠id:=λe=>X (by rw[e];exact Nat.beq_refl id);refine⟨λz v=>by rw[S (by rw[<-hp.len];exact(gI.1 v).1)];exact v,λz v=> ?_⟩;have hl:=(gI.1 v).1;obtain⟨y,d,t⟩:=E _ _ ((e1 A hl).trans v);obtain⟨s1,s2,_⟩:=ip t;cases z with
     |row T m xs=>exact Sr
     |rows T xss ho=>exact⟨y,0,d,s1,λT m xs e=>E0,n9 t⟩
     |aQ=>exact SN
     |box cs=>exact SN
     |map T kvs=>exact SN
   have P:Ev ρ H (ρ++[ρ[id]]) J:=by
    refine⟨λi z v=>gi v,λi z v=> ?_⟩;have hl:=(gI.1 v).1;by_cases A:i=id
    .subst A;obtain⟨y,d,t⟩:=E _ _ e2;cases t;exact⟨_,d,.inl rfl⟩
    .obtain⟨y,d,t⟩:=E _ _ ((e1 A hl).trans v);exact⟨y,d,Mm t⟩
   have C:∀(i a:Nat),(ρ++[ρ[id]])[i]? =some (some a)->live J i->∃Q,ρ[Q]? =some (some a)/\live H Q/\((i<H.length/\Q=i/\i≠id)\/(i=H.length/\Q=id)):=λi a hi hl=>by
    obtain⟨z,N,Y⟩:=hl;have B:=(gI.1 N).1;rw[W]at B;simp at B;by_cases D:i<H.length
    .have A:i≠id:=λe=>by
      subst e;obtain⟨y,d,t⟩:=E _ _ e2;cases t;rw[d]at N;cases N;cases Y
     refine⟨i,by rw[S D]at hi;exact hi,P.lv D ⟨z,N,Y⟩,.inl ⟨D,rfl,A⟩⟩
    .have:i=H.length:=A0
     subst this;obtain⟨y,d,t⟩:=E _ _ e3;rw[d]at N;cases N;exact⟨id,by rw[U]at hi;exact hi,⟨x,R,by rw[<-iP t];exact Y⟩,.inr ⟨rfl,rfl⟩⟩
   refine⟨ρ++[ρ[id]],HpR.mk' (by rw[W];simp[hp.len]) (λi z v=> ?_) (λi j a h1 h2 l1 l2=> ?_) (λi a h1=> ?_),hf.step P (O3 _) (λi a h1 l1=> ?_) (λ_ _ _=>rfl),?_⟩
   .have B:=(gI.1 v).1;rw[W]at B;simp at B;by_cases D:i<H.length
    .by_cases A:i=id
     .subst A;obtain⟨y,d,t⟩:=E _ _ e2;cases t;rw[d]at v;cases v;exact .inr (.inr rfl)
     .obtain⟨y,d,t⟩:=E _ _ ((e1 A D).trans (O0 D));rw[d]at v;cases v;rw[S D];rcases hp.ob (O0 D)with⟨a,w,m1,G,I⟩|⟨m1,T,n,G,I⟩|m1
      .exact .inl ⟨a,w,m1,G,yo M I t⟩
      .rw[G]at t;cases t;exact .inr (.inl ⟨m1,T,n,rfl,I⟩)
      .exact .inr (.inr (by rw[iP t];exact m1))
    .have:i=H.length:=A0
     subst this;obtain⟨y,d,t⟩:=E _ _ e3;rw[d]at v;cases v;rw[U];rcases hp.ob R with⟨a,w,m1,G,I⟩|⟨m1,T,n,G,I⟩|m1
     .exact .inl ⟨a,w,m1,G,yo M I t⟩
     .rw[G]at t;cases t;exact .inr (.inl ⟨m1,T,n,rfl,I⟩)
     .exact .inr (.inr (by rw[iP t];exact m1))
   .obtain⟨Q,k1,Z,k3⟩:=C i a h1 l1;obtain⟨j0,m1,G,I⟩:=C j a h2 l2;have:=hp.inj _ _ _ k1 m1 Z G;omega
   .rcases Pq i H.length with D|D
    .rw[S D]at h1;exact hp.lt _ _ h1
    .have B:=(gI.1 h1).1;simp at B;have:i=H.length:=by have:=hp.len;omega
     subst this;rw[U]at h1;exact hp.lt _ _ h1
   .grind
   .obtain⟨h1,h2⟩:=lI hm;exact⟨by rw[h1];exact ha.1,λj k1 Z=>pv M (ha.2 j A0 Z) (h2 j A0 k1)⟩
  .cases K
 .cases K
theorem CV:∀{rb:Td Nat}{ρ:Rho}{H:Td Ob}{xs d:Td AT}{j:Td Ob}{avs:Td AV},Av rb (xs,H)=some (d,j)->HpR ρ H h->Fr F ρ H h->cL ρ H xs avs->∃ρ',HpR ρ' j h/\Fr F ρ' j h/\cL ρ' j d avs
 |[],ρ,H,xs,d,j,avs,t,hp,v,w=>by cases t;exact⟨ρ,hp,v,w⟩
 | id::rb,ρ,H,xs,d,j,avs,t,hp,v,w=>by
  simp only[Av]at t;split at t
  .rename_i q y;obtain⟨ys,H2⟩:=q;obtain⟨A,B,C,a3⟩:=KJ y hp v w;exact CV t B C a3
  .cases t
theorem yG{an:Ann}{R:Type}{K:Kt R}{x:R}{fin:St->Y (AT×Td Ob)}{h:au}(w:bQ P tb)(hF:(In.mk h ρ H).ok an.refs)(y:fn.results=rs.toArray)(A:fin=yP tb an rs\/fin=DD tb an rs)
  (hK:∀e st,K e st=some x->∃q,oO fin e st=some q/\S q) {e:Exit} {L:Env} {h1:au} (M:NF ⟨h,ρ,H⟩ K x e L h1):Abs.px P fn h (λr h'=>∃q ρ',S q/\ATR ρ' q.2 q.1 r/\HpR ρ' q.2 h'/\Fr ⟨h,ρ,H⟩ ρ' q.2 h') e L h1:=by
 have key:∀{st:St}{ρ':Rho}{L:Env}{h1:au}{q:AT×Td Ob},fin st=some q->S q->SR ⟨h,ρ,H⟩ ρ' st L h1->
   ∃C h2 r,Abs.br L h1 C h2/\Abs.Res P fn C h2 r/\Abs.Out h (λr h'=>∃q ρ',S q/\ATR ρ' q.2 q.1 r/\HpR ρ' q.2 h'/\Fr ⟨h,ρ,H⟩ ρ' q.2 h') r h2:=by
  intro st ρ' L h1 q hk hS hs;rcases A with rfl|rfl
  .unfold yP at hk;obtain⟨C,h2,N,B⟩:=jh (ids:=idsR tb rs st) hs;simp only at hk;split at hk
   .rename_i vs t;split at hk
    .rename_i us j;obtain⟨d,D,E⟩:=te w B t;obtain⟨F,b1,b2,b3⟩:=kJ j D;obtain⟨v,G,c1,c2⟩:=cP hF B hk;cases c1;exact⟨C,h2,yf F,N,za y E b3,.inl ⟨_,v,hS,xu (vh j b1),c2.heap,c2.fr⟩⟩
    .cases hk
   .cases hk
  .unfold DD at hk;split at hk
   .rename_i vs t;obtain⟨d,D,E⟩:=te w hs t;have I:SR ⟨h,ρ,H⟩ ρ' ⟨jY 0 vs,st.H⟩ (Abs.jr 0 d) h1:=⟨pO D,hs.heap,hs.fr,hs.xr⟩;obtain⟨v,G,c1,c2⟩:=cP hF I hk;split at c1
    .rename_i us j;cases c1;exact⟨L,h1,yf d,.refl _ _,za y E (p8.refl _),.inl ⟨_,v,hS,xu (Ex c2.bc D.1 j),c2.heap,c2.fr⟩⟩
    .cases c1
   .cases hk
 obtain⟨ρ',O,Q,J⟩:=M;obtain⟨q,k1,hS⟩:=hK _ _ Q;cases e with
 |normal=>exact key k1 hS J
 |ret=>exact key k1 hS J
 |_=>cases k1
theorem sX{an:Ann}{pc:Pcs}{R:Type}{K:Kt R}{x:R}{fin:St->Y (AT×Td Ob)}(hm:P.follows .mixedOrders=true)(htb:bQ P tb)(hO:iJ P O)(hf:P.funcs[f]? =some fn)(hb:fn.body=some c)(hname:(fn.name== "runtime.NumGoroutine")=false)
  (hnt:Nat.beq fn.ntmps an.nt=true) (hx:Nat.ble xs.length an.nt=true) (hr:Nat.beq an.refs H.length=true) (hrs:fn.results=rs.toArray) (hfin:fin=yP tb an rs\/fin=DD tb an rs)
  (hP:je P an pc (cU an c)) (hrb:Av rb (xs,H)=some (xs',H1)) (hnr:(H1.all λo=> !o.fA)=true) (hd:den tb O pc an c ⟨jY 0 xs',H1⟩ K=some x) (hK:∀e st,K e st=some x->∃q,oO fin e st=some q/\S q):DA P f xs H S:=by
 have hnt:=OL hnt;have hx:=O1 hx;have hr:=OL hr;intro ρ h avs hp ha;refine Abs.cW hf hb hname (by rw[hnt,<-ha.1];exact hx) λE hE=> ?_;have hF:(In.mk h ρ H).ok an.refs:=⟨by rw[hr];exact hp.len,hr.symm⟩;obtain⟨ρ1,g1,g2,g3⟩:=CV hrb hp (Fr.refl ρ H h) ha;exact Abs.gk (λ_ _ _ k=>yG htb hF hrs hfin hK k) (ki (F:=⟨h,ρ,H⟩) hm htb hO (hE.trans hnt) hF hP hd ⟨pO g3,g1,g2,XR.none_ λid y hy=>by have:=aT.1 hnr y (mG hy);simpa using this⟩)
theorem vd{an:Ann}{pc:Pcs}{v:AT}{H':Td Ob}{fin:St->Y (AT×Td Ob)}(hm:P.follows .mixedOrders=true)(htb:bQ P tb)(hO:iJ P O)(hf:P.funcs[f]? =some fn)(hb:fn.body=some c)(hname:(fn.name== "runtime.NumGoroutine")=false)
  (hnt:Nat.beq fn.ntmps an.nt=true) (hx:Nat.ble xs.length an.nt=true) (hr:Nat.beq an.refs H.length=true) (hrs:fn.results=rs.toArray) (hfin:fin=yP tb an rs\/fin=DD tb an rs)
  (hP:je P an pc (cU an c)) (hrb:Av rb (xs,H)=some (xs',H1)) (hnr:(H1.all λo=> !o.fA)=true) (hd:den tb O pc an c ⟨jY 0 xs',H1⟩ (oO fin)=some (v,H')):CFn P f xs H v H':=λρ h avs hp ha=>
 (sX (S:=λq=>q=(v,H')) hm htb hO hf hb hname hnt hx hr hrs hfin hP hrb hnr hd (λ_ _ k=>⟨_,k,rfl⟩) ρ h avs hp ha).mono λ_ _ ⟨q,ρ',e,m⟩=>by subst e;exact⟨ρ',m⟩
end
end
end
section
open Go.RowKit
open Abs (V AV VR)
def fixC:Y Ty->C->C
 |some T,.zs=>.l T []
 |_,c=>c
def Oq:Td (Y Ty)->Td C->Td C
 |t::d,c::cs=>fixC t c::Oq d cs
 |_,cs=>cs
open Classical in
noncomputable def sY{α R:Type}(S:α->Prop)(k:α->Y R):Y R:=if h:∃r,(∃a,S a)/\∀a,S a->k a=some r then some h.choose else none
theorem zm{α R:Type}{S:α->Prop}{k:α->Y R}{r:R}(h:sY S k=some r):(∃a,S a)/\∀a,S a->k a=some r:=by
 unfold sY at h;split at h
 .rename_i d;cases h;exact d.choose_spec
 .cases h
theorem wX{α R:Type}{S:α->Prop}{k:α->Y R}{r:R}(h0:∃a,S a)(h:∀a,S a->k a=some r):sY S k=some r:=by
 unfold sY;have d:∃r,(∃a,S a)/\∀a,S a->k a=some r:=⟨r,h0,h⟩;rw[dif_pos d];obtain⟨a,j⟩:=h0;have:=d.choose_spec.2 a j;rw[h a j]at this;exact this.symm
open Classical in
noncomputable def pG(p:Prop):Y Unit:=if p then some ()else none
theorem uT{p:Prop}(h:p):pG p=some ():=mt h
theorem xj{p:Prop}{x:Unit}(h:pG p=some x):p:=by
 unfold pG at h;split at h
 .assumption
 .cases h
theorem okR{P:Program}{f:FuncId}{β R:Type}{xs:Td AT}{H:Td Ob}{S:β->Prop}{K:AT->Td Ob->Y R}{x:R}{v:β->AT}{H':β->Td Ob}(hc:sY S (λr=>K (v r) (H' r))=some x)(hk:(∃a,S a)->DA P f xs H (λq=>∃a,S a/\q=(v a,H' a))):
  ∃d,(∀q,d q->K q.1 q.2=some x)/\DA P f xs H d:=⟨_,by rintro q ⟨a,h,rfl⟩;exact(zm hc).2 a h,hk (zm hc).1⟩
def LC:Td AT->Nat
 | .one (.s b)::_=>match b.data.toList with
  |c::_=>c.toNat
  |[]=>0
 |_=>0
def NB(n:Nat)(a b:Ent):Ent:=⟨a.f,a.mode,a.arg,λR xs H K=>bif Nat.blt (LC xs) n then a.call R xs H K else b.call R xs H K⟩
theorem Ks{P:Program}{n:Nat}{a b:Ent}(h:b.f=a.f)(j:kY P a)(t:kY P b):kY P (NB n a b):=λR xs H K r hc=>by
 unfold NB at hc;cases d:Nat.blt (LC xs) n with
 |true=>simp only[d,cT]at hc;exact j R xs H K r hc
 | false=>
  simp only[d,cF]at hc;obtain⟨v,H',k1,w⟩:=t R xs H K r hc;exact⟨v,H',k1,h▸w⟩
end
section
open Go.RowKit
inductive PC where
 |i|b|s|l (T:Ty)|c (T:Ty)|n (T:Ty)|o (id:Nat)|p (id off:Nat)|m (id:Nat)|f (fn:Nat)
def PC.A:PC->Type->Type
 | .i,B1=>Int->B1
 | .b,B1=>Bool->B1
 | .s,B1=>Z->B1
 | .l T,B1=>Td (I T)->B1
 | .c T,B1=>Td (I T)->B1
 | .n _,B1=>B1
 | .o _,B1=>B1
 | .p _ _,B1=>B1
 | .m _,B1=>B1
 | .f _,B1=>B1
variable {R B1 B2 : Type}
def PC.run:(p:PC)->C->p.A B1->(B1->Y R)->Y R
 | .i,.i a,F,K=>K (F a)
 | .b,.b a,F,K=>K (F a)
 | .s,.s a,F,K=>K (F a)
 | .l T,.l d xs,F,K=>if e:d=T then K (F (e▸xs))else none
 | .c T,.lc d xs,F,K=>if e:d=T then K (F (e▸xs))else none
 | .n T,.nil d,F,K=>if T=d then K F else none
 | .o u,.o v,F,K=>if u=v then K F else none
 | .p u x,.p v y,F,K=>if u=v/\x=y then K F else none
 | .m u,.m v,F,K=>if u=v then K F else none
 | .f u,.f v [],F,K=>if u=v then K F else none
 |_,_,_,_=>none
def PC.All:(p:PC)->p.A B1->(C->B1->Prop)->Prop
 | .i,F,P=>∀a,P (.i a) (F a)
 | .b,F,P=>∀a,P (.b a) (F a)
 | .s,F,P=>∀a,P (.s a) (F a)
 | .l T,F,P=>∀a,P (C.l T a) (F a)
 | .c T,F,P=>∀a,P (C.lc T a) (F a)
 | .n T,F,P=>P (.nil T) F
 | .o u,F,P=>P (.o u) F
 | .p u x,F,P=>P (.p u x) F
 | .m u,F,P=>P (.m u) F
 | .f u,F,P=>P (.f u []) F
theorem PC.sound{p:PC}{c:C}{F:p.A B1}{K:B1->Y R}{r:R}{P:C->B1->Prop}(h:p.run c F K=some r)(a:p.All F P):∃y,P c y/\K y=some r:=by
 unfold PC.run at h;split at h
 .exact⟨_,a _,h⟩
 .exact⟨_,a _,h⟩
 .exact⟨_,a _,h⟩
 .split at h
  .exact SW
  .cases h
 .split at h
  .exact SW
  .cases h
 .split at h
  .exact SY
  .cases h
 .split at h
  .exact SY
  .cases h
 .split at h
  .rename_i e;obtain⟨rfl,rfl⟩:=e;exact⟨_,a,h⟩
  .cases h
 .split at h
  .exact SY
  .cases h
 .split at h
  .exact SY
  .cases h
 .cases h
def csA:Td PC->Type->Type
 |[],B1=>B1
 |p::d,B1=>p.A (csA d B1)
def Bk:(d:Td PC)->Td C->csA d B1->(B1->Y R)->Y R
 |[],[],F,K=>K F
 |p::d,c::cs,F,K=>p.run c F λh=>Bk d cs h K
 |_,_,_,_=>none
def B6:(d:Td PC)->csA d B1->(Td C->B1->Prop)->Prop
 |[],F,P=>P [] F
 |p::d,F,P=>p.All F λc h=>B6 d h λcs y=>P (c::cs) y
theorem rQ:∀{d:Td PC}{cs:Td C}{F:csA d B1}{K:B1->Y R}{r:R}{P:Td C->B1->Prop},Bk d cs F K=some r->B6 d F P->∃y,P cs y/\K y=some r
 |[],[],_,_,_,_,h,a=>⟨_,a,h⟩
 | p::d,c::cs,F,K,r,P,h,a=>
  let⟨_,h1,h2⟩:=PC.sound (p:=p) h a
  rQ (P:=λcs y=>P (c::cs) y) h2 h1
 |[],_::_,_,_,_,_,h,_=>HC
 |_::_,[],_,_,_,_,h,_=>HC
inductive PA where
 |x (p:PC)|a (ps:List PC)
def PA.A:PA->Type->Type
 | .x p,B1=>p.A B1
 | .a d,B1=>csA d B1
def PA.run:(p:PA)->AT->p.A B1->(B1->Y R)->Y R
 | .x p,.one c,F,K=>p.run c F K
 | .a d,.agg cs,F,K=>Bk d cs F K
 |_,_,_,_=>none
def PA.All:(p:PA)->p.A B1->(AT->B1->Prop)->Prop
 | .x p,F,P=>p.All F λc y=>P (.one c) y
 | .a d,F,P=>B6 d F λcs y=>P (.agg cs) y
theorem PA.sound{p:PA}{c:AT}{F:p.A B1}{K:B1->Y R}{r:R}{P:AT->B1->Prop}(h:p.run c F K=some r)(a:p.All F P):∃y,P c y/\K y=some r:=by
 unfold PA.run at h;split at h
 .exact PC.sound h a
 .exact rQ h a
 .cases h
def asA:Td PA->Type->Type
 |[],B1=>B1
 |p::d,B1=>p.A (asA d B1)
def By:(d:Td PA)->Td AT->asA d B1->(B1->Y R)->Y R
 |[],[],F,K=>K F
 |p::d,c::cs,F,K=>p.run c F λh=>By d cs h K
 |_,_,_,_=>none
def E7:(d:Td PA)->asA d B1->(Td AT->B1->Prop)->Prop
 |[],F,P=>P [] F
 |p::d,F,P=>p.All F λc h=>E7 d h λcs y=>P (c::cs) y
theorem s8:∀{d:Td PA}{cs:Td AT}{F:asA d B1}{K:B1->Y R}{r:R}{P:Td AT->B1->Prop},By d cs F K=some r->E7 d F P->∃y,P cs y/\K y=some r
 |[],[],_,_,_,_,h,a=>⟨_,a,h⟩
 | p::d,c::cs,F,K,r,P,h,a=>
  let⟨_,h1,h2⟩:=PA.sound (p:=p) h a
  s8 (P:=λcs y=>P (c::cs) y) h2 h1
 |[],_::_,_,_,_,_,h,_=>HC
 |_::_,[],_,_,_,_,h,_=>HC
inductive PO where
 |b (ps:List PC)|r (T:Ty) (n:Nat)|m (T:Ty)|g
def PO.A:PO->Type->Type
 | .b d,B1=>csA d B1
 | .r T _,B1=>Td (I T)->B1
 | .m T,B1=>Td (Z×I T)->B1
 | .g,B1=>B1
def PO.run:(p:PO)->Ob->p.A B1->(B1->Y R)->Y R
 | .b h,.box cs,F,K=>Bk h cs F K
 | .r T k,.row d k' xs,F,K=>if k=k' then (if e:d=T then K (F (e▸xs))else none)else none
 | .m T,.map d xs,F,K=>if e:d=T then K (F (e▸xs))else none
 | .g,.aQ,F,K=>K F
 |_,_,_,_=>none
def PO.All:(p:PO)->p.A B1->(Ob->B1->Prop)->Prop
 | .b d,F,P=>B6 d F λcs y=>P (.box cs) y
 | .r T k,F,P=>∀a,P (.row T k a) (F a)
 | .m T,F,P=>∀a,P (.map T a) (F a)
 | .g,F,P=>P .aQ F
theorem PO.sound{p:PO}{c:Ob}{F:p.A B1}{K:B1->Y R}{r:R}{P:Ob->B1->Prop}(h:p.run c F K=some r)(a:p.All F P):∃y,P c y/\K y=some r:=by
 unfold PO.run at h;split at h
 .exact rQ h a
 .split at h
  .rename_i e;subst e;split at h
   .exact SW
   .cases h
  .cases h
 .split at h
  .exact SW
  .cases h
 .exact⟨_,a,h⟩
 .cases h
def osA:Td PO->Type->Type
 |[],B1=>B1
 |p::d,B1=>p.A (osA d B1)
def CA:(d:Td PO)->Td Ob->osA d B1->(B1->Y R)->Y R
 |[],[],F,K=>K F
 |p::d,c::cs,F,K=>p.run c F λh=>CA d cs h K
 |_,_,_,_=>none
def ER:(d:Td PO)->osA d B1->(Td Ob->B1->Prop)->Prop
 |[],F,P=>P [] F
 |p::d,F,P=>p.All F λc h=>ER d h λcs y=>P (c::cs) y
theorem tB:∀{d:Td PO}{cs:Td Ob}{F:osA d B1}{K:B1->Y R}{r:R}{P:Td Ob->B1->Prop},CA d cs F K=some r->ER d F P->∃y,P cs y/\K y=some r
 |[],[],_,_,_,_,h,a=>⟨_,a,h⟩
 | p::d,c::cs,F,K,r,P,h,a=>
  let⟨_,h1,h2⟩:=PO.sound (p:=p) h a
  tB (P:=λcs y=>P (c::cs) y) h2 h1
 |[],_::_,_,_,_,_,h,_=>HC
 |_::_,[],_,_,_,_,h,_=>HC
abbrev rT(d:Td PA)(hs:Td PO)(R:Type):Type:=asA d (osA hs (Y R))
def rA(d:Td PA)(hs:Td PO)(F:(R:Type)->(AT->Td Ob->Y R)->rT d hs R)(R:Type)(xs:Td AT)(H:Td Ob)(K:AT->Td Ob->Y R):Y R:=
 By d xs (F R K) λh=>CA hs H h id
abbrev Eg(d:Td PA)(hs:Td PO){R:Type}(F:rT d hs R)(P:Td AT->Td Ob->Y R->Prop):Prop:=E7 d F λxs h=>ER hs h λH z=>P xs H z
theorem E3{d:Td PA}{hs:Td PO}{F:(R:Type)->(AT->Td Ob->Y R)->rT d hs R}{xs:Td AT}{H:Td Ob}{K:AT->Td Ob->Y R}{r:R}{P:Td AT->Td Ob->Y R->Prop}
  (h:rA d hs F R xs H K=some r) (a:Eg d hs (F R K) P):∃z,P xs H z/\z=some r:=by
 obtain⟨_,h1,h2⟩:=s8 h a;exact tB h2 h1
def uns:Td Nat->Td (Nat×AT)->Y (Td AT)
 |[],[]=>some []
 | n::ns,(m,v)::l=>bif Nat.beq n m then (match uns ns l with
  |some vs=>some (v::vs)
  |none=>none)else none
 |_,_=>none
def Fw:Td Nat->Td AT->Td (Nat×AT)
 |n::ns,v::vs=>(n,v)::Fw ns vs
 |_,_=>[]
theorem B8:∀{ns:Td Nat}{l:Td (Nat×AT)}{vs:Td AT},uns ns l=some vs->l=Fw ns vs
 |[],[],_,h=>QU
 | n::ns,(m,v)::l,vs,h=>by
  unfold uns at h;cases e:Nat.beq n m<;>rw[e]at h
  .cases h
  .simp only[cT]at h;split at h
   .rename_i e2;cases h;cases OL e;rw[B8 e2];rfl
   .cases h
 |[],_::_,_,h=>HC
 |_::_,[],_,h=>HC
def rS(ns:Td Nat)(d:Td PA)(hs:Td PO)(F:(R:Type)->Kt R->rT d hs R)(R:Type)(st:St)(K:Kt R):Y R:=match uns ns st.L with
 |some xs=>By d xs (F R K) λh=>CA hs st.H h id
 |none=>none
theorem sA{ns:Td Nat}{d:Td PA}{hs:Td PO}{F:(R:Type)->Kt R->rT d hs R}{st:St}{K:Kt R}{r:R}{P:St->Y R->Prop}
  (h:rS ns d hs F R st K=some r) (a:Eg d hs (F R K) λxs H z=>P ⟨Fw ns xs,H⟩ z):∃z,P st z/\z=some r:=by
 unfold rS at h;split at h
 .rename_i e;obtain⟨L,H⟩:=st;cases B8 e;obtain⟨_,h1,h2⟩:=s8 h a;exact tB h2 h1
 .cases h
end
section
open Go.RowKit
noncomputable section
abbrev Tn:=λa b c d e f=>(.box [.l .i a,.l .i b,.l .i c,.l .s d,.l (.n 5) e,.l (.n 8) f,.m 1]:Ob)
abbrev To:=λa=>(.agg [.i (Tm.op a),.s (Tm.ah a),.i (Tm.am a),.l (.n 1) (Tm.ae a)]:AT)
abbrev Tp:=λa=>(.one (.b a):AT)
abbrev Tr:=(.b [.l .i,.l .i,.l .i,.l .s,.l (.n 5),.l (.n 8),.m 1]:PO)
abbrev Tt:=λa=>([.box [.l .u (Cur.b a),.i (Cur.i a),.i (Cur.h a)]]:Td Ob)
abbrev Tu:=λa b c d e f=>(.box [.l .i a,.l .i b,.l .i c,.l .s d,.l (.n 5) e,.l (.n 8) f,.m 2]:Ob)
abbrev Tv:=λa=>(.one (.i a):AT)
abbrev Tw:=(.x (.p 0 0):PA)
abbrev Tx:=(.x .i:PA)
abbrev Tz:=λa=>(.row (.n 1) 0 a:Ob)
abbrev TA:=λa=>(.agg [.l .s (So.ak (Sg.ai (Md.sig a))),.l (.n 5) (So.aA (Sg.ai (Md.sig a))),.l (.n 8) (Sg.ops (Md.sig a)),.l (.n 14) (Md.eqs a),.l (.n 14) (Md.rules a)]:AT)
abbrev TB:=(.b [.l .s,.l (.n 5),.l (.n 8)]:PO)
abbrev TC:=λa b c d=>(.box [.i a,.s b,.i c,.l (.n 1) d]:Ob)
abbrev TD:=(.b [.s,.l (.n 7),.b,.b,.i]:PO)
abbrev TE:=(.a [.i,.s,.i,.l (.n 1)]:PA)
abbrev TF:=(.one (.p 0 0):AT)
abbrev TG:=(.b [.l .i,.l .i,.l .i,.l .s,.l (.n 5),.l (.n 8),.m 2]:PO)
abbrev TH:=(.r (.n 1) 0:PO)
abbrev TJ:=(.b [.i,.s,.i,.l (.n 1)]:PO)
abbrev TK:=(.a [.l .s,.l (.n 5),.l (.n 8)]:PA)
abbrev TL:=(.x (.l (.n 1)):PA)
abbrev TN:=λa b c d e f g=>([Tn a b c d e f,.map .i g]:Td Ob)
abbrev TO:=λa=>(.one (.l (.n 1) a):AT)
abbrev TP:=λa b c=>(.box [.l .s a,.l (.n 5) b,.l (.n 8) c]:Ob)
abbrev TQ:=(.x (.p 1 0):PA)
abbrev TR:=(.one (.p 1 0):AT)
abbrev TS:=(.n 14:Ty)
abbrev TT:=λa b c d e f g h i=>([.box [.p 1 0,.s a,.i b],Tu c d e f g h,.map .i i]:Td Ob)
abbrev TU:=(.b [.l .s,.l (.n 5),.l (.n 8),.l TS,.l TS]:PO)
abbrev TV:=λa b c d e=>(.box [.s a,.l (.n 7) b,.b c,.b d,.i e]:Ob)
abbrev TW:=λa=>(.agg [.i (Tm.op (Eqn.left a)),.s (Tm.ah (Eqn.left a)),.i (Tm.am (Eqn.left a)),.l (.n 1) (Tm.ae (Eqn.left a)),.i (Tm.op (Eqn.right a)),.s (Tm.ah (Eqn.right a)),.i (Tm.am (Eqn.right a)),.l (.n 1) (Tm.ae (Eqn.right a)),.l (.n 13) (Eqn.bJ a)]:AT)
abbrev TX:=λa b c d e f g h=>([.box [.l .s a,.l (.n 5) b],.box [.o 2,.o 3,.o 4],.row .i 0 c,.row .i 0 d,.row .i 0 e,.box [.l .i f,.o 6,.o 7],.row .i 0 g,.row .i 0 h]:Td Ob)
abbrev TY:=([.b [.l .u,.i,.i],.b [.o 2,.o 3,.o 4],.r .s 0,.r (.n 5) 0,.r (.n 8) 0,.b [.o 6,.o 7,.o 8],.r .s 0,.r (.n 5) 0,.r (.n 8) 0,.b [.s,.o 10,.b,.b,.i],.r (.n 7) 0]:Td PO)
abbrev TZ:=([.b [.l .s,.l (.n 5)],.b [.o 2,.o 3,.o 4],.r .i 0,.r .i 0,.r .i 0,.b [.l .i,.o 6,.o 7],.r .i 0,.r .i 0]:Td PO)
abbrev U0:=λa b c d e=>(.box [.l .s a,.l (.n 5) b,.l (.n 8) c,.l TS d,.l TS e]:Ob)
abbrev U1:=(.x (.p 2 0):PA)
abbrev U2:=(.x (.l .i):PA)
abbrev U3:=([.b [.l .s,.l (.n 5)],.r .i 0]:Td PO)
abbrev U4:=(.x (.l .s):PA)
abbrev U5:=(.b [.l .u,.i,.i]:PO)
abbrev U6:=λa b c d e f=>([.box [.l .u a,.i b,.i c],.box [.o 2,.o 3,.o 4],.row .s 0 d,.row (.n 5) 0 e,.row (.n 8) 0 f]:Td Ob)
abbrev U7:=(.x (.o 0):PA)
abbrev U8:=λa b c d e=>([(1,Tv a),(2,TO b),(3,TF),(6,TR),(8,.one (.p 3 0)),(9,.one (.l .i c)),(10,.one (.p 4 0)),(11,Tp d),(12,.one (.o 5)),(13,Tv e)]:Td (Nat×AT))
abbrev U9:=(.x (.f 123):PA)
abbrev Ua:=(.one (.p 2 0):AT)
abbrev Ub:=λa b c d e f g=>([.box [.l .u a,.i b,.i c],.box [.i d,.s e,.i f,.o 2],Tz g]:Td Ob)
abbrev Uc:=λa b=>(.box [.l .s a,.l (.n 5) b]:Ob)
abbrev Ud:=λa=>(.one (.s a):AT)
abbrev Ue:=λa=>(.one (.l .i a):AT)
abbrev Uf:=(.tup []:AT)
abbrev Ug:=(.one (.o 0):AT)
abbrev Uh:=(.b [.i,.s,.i,.o 3]:PO)
abbrev Ui:=λa b=>(.tup [To a,Tp b]:AT)
abbrev Uj:=λa=>([(4,Tp a)]:Td (Nat×AT))
abbrev Uk:=(.a [.s,.l (.n 7),.b,.b,.i]:PA)
abbrev Ul:=(.x (.p 3 0):PA)
abbrev Um:=(.box [.f 89 [.p 0 0,.p 2 0]]:Ob)
abbrev Un:=λa=>(.row .s 0 a:Ob)
abbrev Uo:=(.a [.l .s,.l (.n 5),.l (.n 8),.l TS,.l TS]:PA)
abbrev Up:=(.b [.l .i,.l .i,.l .i]:PO)
abbrev Uq:=(.x (.p 4 0):PA)
abbrev Ur:=λa=>(.box [.s a]:Ob)
abbrev Us:=λa=>(.row (.n 8) 0 a:Ob)
abbrev Ut:=λa=>(.agg [.l .s (So.ak (Sg.ai a)),.l (.n 5) (So.aA (Sg.ai a)),.l (.n 8) (Sg.ops a)]:AT)
abbrev Uu:=(.a [.i,.s,.i,.l (.n 1),.i,.s,.i,.l (.n 1),.l (.n 13)]:PA)
abbrev Uv:=(.x .s:PA)
abbrev Uw:=(.b [.i,.s,.i,.l (.n 1),.i,.s,.i,.l (.n 1),.l (.n 13)]:PO)
abbrev Ux:=([.b [.p 1 0,.s,.i],TG,.m .i]:Td PO)
abbrev Uy:=λa=>(.agg [.s (Opr.ah a),.l (.n 7) (Opr.aJ a),.b (Opr.aE a),.b (Opr.comm a),.i (Opr.aO a)]:AT)
abbrev Uz:=λa=>(.map .i a:Ob)
abbrev UA:=([.a [.l .s,.l (.n 5)]]:Td PA)
abbrev UB:=(.b [.i,.s,.i,.o 2]:PO)
abbrev UC:=λa=>(.one (.l .s a):AT)
abbrev UD:=(.x .b:PA)
abbrev UE:=λa=>(.row .i 0 a:Ob)
abbrev UF:=(.r .s 0:PO)
abbrev UG:=λa=>([(2,Tp a)]:Td (Nat×AT))
abbrev UH:=λa=>(.agg [.l .i (Od.db a),.l .i (Od.below a),.l .i (Od.kind a)]:AT)
abbrev UI:=(.x (.p 5 0):PA)
abbrev UJ:=λa=>(.agg [.s (Opr.ah a),.o 0,.b (Opr.aE a),.b (Opr.comm a),.i (Opr.aO a)]:AT)
abbrev UK:=(.one (.p 3 0):AT)
abbrev UL:=(.b [.l .i,.i]:PO)
abbrev UM:=λa=>([TC (Tm.op a) (Tm.ah a) (Tm.am a) (Tm.ae a)]:Td Ob)
abbrev UN:=λa=>(.row TS 0 a:Ob)
abbrev UO:=(.one (.f 123 []):AT)
abbrev UP:=([Tx,TL,Tw,TQ,Ul,U2,Uq,UD,.x (.o 5),Tx]:Td PA)
abbrev UQ:=(.tup [.one (.z),.one (.b false)]:AT)
abbrev UR:=(.one (.p 5 0):AT)
abbrev US:=(.x (.l TS):PA)
abbrev UT:=(.x (.l (.n 8)):PA)
abbrev UU:=λa=>([Tz a]:Td Ob)
abbrev UV:=(.box [.o 1,.o 2,.o 3,.o 4,.o 5]:Ob)
abbrev UW:=λa=>(.agg [.i (Tm.op a),.s (Tm.ah a),.i (Tm.am a),.o 0]:AT)
abbrev UX:=λa b c=>(.box [.i a,.s b,.i c,.o 3]:Ob)
abbrev UY:=(.one (.o 1):AT)
abbrev UZ:=(.x (.o 1):PA)
abbrev V0:=(.one (.p 4 0):AT)
abbrev V1:=(.r (.n 5) 0:PO)
abbrev V2:=(.r (.n 8) 0:PO)
abbrev V3:=(.b [.l .s,.l (.n 5)]:PO)
abbrev V4:=(.one (.o 3):AT)
abbrev V5:=(.tup [TF,.one (.b true)]:AT)
abbrev V6:=(.x (.o 3):PA)
abbrev V7:=λa=>([(6,TF),(7,Tp a)]:Td (Nat×AT))
abbrev V8:=λa=>(.row (.n 5) 0 a:Ob)
abbrev V9:=(.x (.l (.n 7)):PA)
abbrev Va:=([.b [.p 1 0,.s,.i],TG,.m .i,.b [.i,.s,.i,.o 4],TH,TH]:Td PO)
abbrev Vb:=(.n 13:Ty)
abbrev Vc:=(.box [.o 3]:Ob)
abbrev Vd:=(.x (.o 5):PA)
abbrev Ve:=λa b=>(.box [.l .i a,.i b]:Ob)
abbrev Vf:=(.a [.l .i,.l .i,.l .i]:PA)
abbrev Vg:=λa b=>(.box [.p 1 0,.s a,.i b]:Ob)
abbrev Vh:=(.b [.i,.s,.i,.l (.n 1),.i,.s,.i,.l (.n 1)]:PO)
abbrev Vi:=(.r TS 0:PO)
abbrev Vj:=(.x (.l (.n 5)):PA)
abbrev Vk:=(.x (.o 2):PA)
abbrev Vl:=λa=>(.one (.l TS a):AT)
abbrev Vm:=(.b [.i,.s,.i,.o 1]:PO)
abbrev Vn:=λa=>(some (Tp a,[]):Y (AT×Td Ob))
abbrev Vo:=λa=>(some (Tv a,[]):Y (AT×Td Ob))
abbrev Vp:=λa=>(some (TO a,[]):Y (AT×Td Ob))
abbrev Vq:=λa b c d e f g h=>(some (Tp g,TN a b c d e f h):Y (AT×Td Ob))
abbrev Vr:=λa b=>(some (Ui a b,[]):Y (AT×Td Ob))
abbrev Vs:=λa=>(some (Ue a,[]):Y (AT×Td Ob))
abbrev Vt:=λa=>(some (To a,[]):Y (AT×Td Ob))
abbrev Vu:=λa b=>(some (To a,Tt b):Y (AT×Td Ob))
abbrev Vv:=λa b=>(some (Tv a,Tt b):Y (AT×Td Ob))
abbrev Vw:=λa b=>(some (Tp b,[Ur a]):Y (AT×Td Ob))
def tz(t:Nat):Nat×TI:=(t,⟨1,false,[.z],[],none,false,false,false,none,none⟩)
def tl(t:Nat)(e:Ty):Nat×TI:=(t,⟨1,false,[.nil e],[],some e,false,false,false,none,none⟩)
def ta(t n:Nat)(z:Td C)(f:Td (Nat×Nat×Nat)):Nat×TI:=(t,⟨n,true,z,f,none,false,false,false,none,none⟩)
def tbl:Td (Nat×TI):=[
 tz 1,(2,⟨1,false,[.i 0],[],none,false,true,false,some .i64,none⟩),(3,⟨1,false,[.i 0],[],none,false,true,false,some .i64,none⟩),(4,⟨1,false,[.b false],[],none,false,false,true,none,none⟩),(5,⟨1,false,[.k .u8 0],[],none,false,false,false,some .u8,none⟩),(6,⟨1,false,[.k .u8 0],[],none,false,false,false,some .u8,none⟩),ta 7 4 [.i 0,.i 0,.b false,.k .u8 0] [(0,2,1),(1,3,1),(2,4,1),(3,6,1)],ta 8 4 [.i 0,.i 0,.b false,.k .u8 0] [(0,2,1),(1,3,1),(2,4,1),(3,6,1)],(9,⟨1,false,[.s ByteArray.empty],[],none,true,false,false,none,none⟩),(10,⟨1,false,[.s ByteArray.empty],[],none,true,false,false,none,none⟩),(21,⟨1,false,[.k .i32 0],[],none,false,false,false,some .i32,none⟩),tl 22 .u,tl 24 .s,tl 25 (.n 5),ta 27 2 [.nil .s,.nil (.n 5)] [(0,24,1),(1,25,1)],tl 28 (.n 8),ta 30 3 [.nil .s,.nil (.n 5),.nil (.n 8)] [(0,27,2),(2,28,1)],tl 31 (.n 14),ta 32 5 [.nil .s,.nil (.n 5),.nil (.n 8),.nil (.n 14),.nil (.n 14)] [(0,30,3),(3,31,1),(4,31,1)],ta 33 5 [.nil .s,.nil (.n 5),.nil (.n 8),.nil (.n 14),.nil (.n 14)] [(0,30,3),(3,31,1),(4,31,1)],tz 40,tz 41,tz 43,ta 44 2 [.i 0,.i 0] [(0,3,1),(1,3,1)],ta 45 2 [.i 0,.i 0] [(0,3,1),(1,3,1)],tl 46 (.n 7),ta 48 5 [.s ByteArray.empty,.nil (.n 7),.b false,.b false,.i 0] [(0,9,1),(1,46,1),(2,4,1),(3,4,1),(4,3,1)],tl 49 .i,ta 51 2 [.nil .i,.i 0] [(0,49,1),(1,3,1)],tl 53 (.n 1),ta 55 4 [.i 0,.s ByteArray.empty,.i 0,.nil (.n 1)] [(0,3,1),(1,9,1),(2,3,1),(3,53,1)],tl 56 (.n 13),ta 58 9 [.i 0,.s ByteArray.empty,.i 0,.nil (.n 1),.i 0,.s ByteArray.empty,.i 0,.nil (.n 1),.nil (.n 13)] [(0,55,4),(4,55,4),(8,56,1)],tz 61,tz 62,tz 63,tz 64,tz 66,tz 71,tz 73,ta 74 8 [.i 0,.s ByteArray.empty,.i 0,.nil (.n 1),.i 0,.s ByteArray.empty,.i 0,.nil (.n 1)] [(0,55,4),(4,55,4)],ta 75 8 [.i 0,.s ByteArray.empty,.i 0,.nil (.n 1),.i 0,.s ByteArray.empty,.i 0,.nil (.n 1)] [(0,55,4),(4,55,4)],tz 76,tz 78,ta 80 3 [.nil .i,.nil .i,.nil .i] [(0,49,1),(1,49,1),(2,49,1)],(83,⟨1,false,[.z],[],none,false,false,false,none,some .i⟩),ta 85 7 [.nil .i,.nil .i,.nil .i,.nil .s,.nil (.n 5),.nil (.n 8),.z] [(0,80,3),(3,30,3),(6,83,1)],tz 89,tz 92,tz 97,tz 98,tz 99,tz 101,tz 102,ta 103 3 [.nil .u,.i 0,.i 0] [(0,22,1),(1,3,1),(2,3,1)],ta 104 3 [.nil .u,.i 0,.i 0] [(0,22,1),(1,3,1),(2,3,1)],tz 105,(108,⟨1,false,[.z],[],none,false,false,false,none,some .b⟩),tz 109,tz 110,tz 111,tz 112,tl 113 (.sl (.n 14)),tz 114,tz 115,tz 116,tz 117,tz 118,tz 119,tz 120,tz 121,tz 122,tz 135,tz 138,ta 140 2 [.z,.nil .u] [(0,138,1),(1,22,1)],(148,⟨1,false,[.k .u64 0],[],none,false,false,false,some .u64,none⟩),ta 156 3 [.z,.s ByteArray.empty,.i 0] [(0,41,1),(1,9,1),(2,3,1)],tz 168,(172,⟨1,false,[.k .u32 0],[],none,false,false,false,some .u32,none⟩),tz 175,(187,⟨1,false,[.i 0],[],none,false,true,false,some .i64,none⟩),(196,⟨1,false,[.k .u64 0],[],none,false,false,false,some .u64,none⟩),ta 199 2 [.k .u8 0,.k .u8 0] [(0,5,1),(1,5,1)],(202,⟨1,false,[.k .u64 0],[],none,false,false,false,some .u64,none⟩),tz 206,tz 208]
def tb(t:Nat):Y TI:=tbl.lookup t
def OA:Bool:=tbl.all λp=>match Abs.wK Tryz.prog p.1 with
 |some i=>M0 i p.2&&CJ Tryz.prog p.1 p.2
 |none=>false
def rV{α β:Type}(o:Y α)(a:β)(f:α->β):β:=match o with
 |none=>a
 |some x=>f x
theorem AD:OA=true:=D1
theorem mixed:Tryz.prog.follows .mixedOrders=true:=D1
theorem kX:bQ Tryz.prog tb:=λt d h=>by
 have hm:(t,d)∈tbl:=si h;have:=aT.1 AD _ hm;simp only at this;split at this
 .rename_i i hi;rw[bA]at this;exact⟨i,hi,this.1,this.2⟩
 .cases this
theorem apl{an:Ann}{pc:Pcs}{c:Code}(l:Td (Nat×Nat×Code))(h:je Tryz.prog an pc l)(e:cU an c=l:=by kernel_rfl):je Tryz.prog an pc (cU an c):=by rw[e];exact h
theorem lpc{L:Td Ent}(h:nr Tryz.prog L){an:Ann}(pc:Pcs){c:Code}(lv:Td Nat)(o:rU)(j:je Tryz.prog an pc (cU an c)){f:Nat->(R:Type)->St->Kt R->Y R}(h0:∀(R:Type)(st:St)(K:Kt R),f 0 R st K=none)
  (t:∀(n:Nat)(R:Type)(st:St)(K:Kt R)(r:R),f (n+1) R st K=some r->den tb (de L) pc an c st (pn an.refs lv o (λd=>f n R d K) K)=some r):∀n,iO Tryz.prog an (.loop c) (f n):=zB mixed kX (jp h) j h0 t
theorem lpq{L:Td Ent}(t:nr Tryz.prog L){an:Ann}(pc:Pcs){c:Code}{ns:Td Nat}(o:rU){d:Td PA}{hs:Td PO}{F:Nat->(R:Type)->Kt R->rT d hs R}(v:je Tryz.prog an pc (cU an c):=by exact apl [] trivial)(h0:∀(R:Type)(K:Kt R),Eg d hs (F 0 R K) λ_ _ z=>z=none:=by (repeat intro _);rfl)
  (w:∀(n:Nat)(R:Type)(K:Kt R),Eg d hs (F (n+1) R K) λxs H z=>den tb (de L) pc an c ⟨Fw ns xs,H⟩ (pn an.refs ns o (λj=>rS ns d hs (F n) R j K) K)=z:=by (repeat intro _);show _=_;kernel_rfl):∀n,iO Tryz.prog an (.loop c) (rS ns d hs (F n)):=
 lpc t pc ns o v (f:=λn=>rS ns d hs (F n)) (λR st K=>by
  cases e:rS ns d hs (F 0) R st K with
  |none=>rfl
  |some r=>obtain⟨z,h1,h2⟩:=sA (P:=λ_ z=>z=none) e (h0 R K);rw[h1]at h2;cases h2) λn R st K r h=>by
  obtain⟨z,h1,h2⟩:=sA (P:=λst z=>den tb (de L) pc an c st (pn an.refs ns o (λj=>rS ns d hs (F n) R j K) K)=z) h (w n R K);rw[h1,h2]
theorem Tf{L:Td Ent}(t:nr Tryz.prog L){an:Ann}(n:Nat)(f:Nat->(R:Type)->St->Kt R->Y R){ns:Td Nat}{d:Td PA}{hs:Td PO}{F:Nat->(R:Type)->Kt R->rT d hs R}(e:f=λn=>rS ns d hs (F n))(pc:Pcs){c:Code}(o:rU)(v:je Tryz.prog an pc (cU an c):=by exact apl [] trivial)(h0:∀(R:Type)(K:Kt R),Eg d hs (F 0 R K) λ_ _ z=>z=none:=by (repeat intro _);rfl)
  (w:∀(n:Nat)(R:Type)(K:Kt R),Eg d hs (F (n+1) R K) λxs H z=>den tb (de L) pc an c ⟨Fw ns xs,H⟩ (pn an.refs ns o (λj=>rS ns d hs (F n) R j K) K)=z:=by (repeat intro _);show _=_;kernel_rfl):iO Tryz.prog an (.loop c) (f n):=by subst e;exact lpq (F:=F) t pc o v h0 w n
theorem cpc{L:Td Ent}(d:nr Tryz.prog L){an:Ann}(pc:Pcs){c:Code}(o:rU)(h:je Tryz.prog an pc (cU an c)){f:(R:Type)->St->Kt R->Y R}
  (j:∀(R:Type)(st:St)(K:Kt R)(r:R),f R st K=some r->den tb (de L) pc an c st (jd an.refs o K)=some r):iO Tryz.prog an c f:=Dd mixed kX (jp d) h j
theorem cpq{L:Td Ent}(j:nr Tryz.prog L){an:Ann}(pc:Pcs){c:Code}{ns:Td Nat}(o:rU){d:Td PA}{hs:Td PO}{F:(R:Type)->Kt R->rT d hs R}(t:je Tryz.prog an pc (cU an c):=by exact apl [] trivial)
  (v:∀(R:Type)(K:Kt R),Eg d hs (F R K) λxs H z=>den tb (de L) pc an c ⟨Fw ns xs,H⟩ (jd an.refs o K)=z:=by (repeat intro _);show _=_;kernel_rfl):iO Tryz.prog an c (rS ns d hs F):=
 cpc j pc o t λR st K r h=>by
  obtain⟨z,h1,h2⟩:=sA (P:=λst z=>den tb (de L) pc an c st (jd an.refs o K)=z) h (v R K);rw[h1,h2]
theorem Tg{L:Td Ent}(j:nr Tryz.prog L){an:Ann}(f:(R:Type)->St->Kt R->Y R){ns:Td Nat}{d:Td PA}{hs:Td PO}{F:(R:Type)->Kt R->rT d hs R}(e:f=rS ns d hs F)(pc:Pcs){c:Code}(o:rU)(t:je Tryz.prog an pc (cU an c):=by exact apl [] trivial)
  (v:∀(R:Type)(K:Kt R),Eg d hs (F R K) λxs H z=>den tb (de L) pc an c ⟨Fw ns xs,H⟩ (jd an.refs o K)=z:=by (repeat intro _);show _=_;kernel_rfl):iO Tryz.prog an c f:=by subst e;exact cpq (F:=F) j pc o t v
theorem okQ{id mode:Nat}{arg:Td Nat}{d:Td PA}{hs:Td PO}{F:(R:Type)->(AT->Td Ob->Y R)->rT d hs R}(h:∀(R:Type)(K:AT->Td Ob->Y R)(r:R),Eg d hs (F R K) λxs H z=>z=some r->∃v H',K v H'=some r/\CFn Tryz.prog id xs H v H'):kY Tryz.prog ⟨id,mode,arg,rA d hs F⟩:=λR xs H K r hc=>by
 obtain⟨z,h1,h2⟩:=E3 (P:=λxs H z=>z=some r->∃v H',K v H'=some r/\CFn Tryz.prog id xs H v H') hc (h R K r);exact h1 h2
theorem okL{P:Program}{f:FuncId}{β R:Type}{xs:Td AT}{H:Td Ob}{o:Y β}{K:AT->Td Ob->Y R}{x:R}{v:β->AT}{H':β->Td Ob}(hc:Option.bind o (λr=>K (v r) (H' r))=some x)(hk:∀r,o=some r->CFn P f xs H (v r) (H' r)):∃h d,K h d=some x/\CFn P f xs H h d:=
 let⟨r,a,b⟩:=bb hc
 ⟨_,_,b,hk r a⟩
theorem Tk{P:Program}{f:FuncId}{β R:Type}{xs:Td AT}{H:Td Ob}{o:Y β}{K:AT->Td Ob->Y R}{x:R}{v:β->AT}{H':β->Td Ob}{M:Nat->β->Y (AT×Td Ob)}(hc:Option.bind o (λr=>K (v r) (H' r))=some x)(hk:∀r,o=some r->∃n,M n r=some (v r,H' r))(k:∀n r,M n r=some (v r,H' r)->CFn P f xs H (v r) (H' r)):∃h d,K h d=some x/\CFn P f xs H h d:=okL hc λr j=>let⟨n,a⟩:=hk r j;k n r a
theorem Th:True:=trivial
def Ti:Nat->Nat->Td Nat
 |0,_=>[]
 |k+1,n=>bif Nat.ble n 1 then[]else Ti k (n/2)++[n%2]
abbrev Tj(n:Nat)(c:Code):=aN (Ti 99 n) c
theorem rF{L:Td Ent}(hG:nr Tryz.prog L){f:FuncId}{fn:Func}(an:Ann)(pc:Pcs)(rb:Td Nat){xs xs2:Td AT}{v:AT}{H H2 H':Td Ob}{M:Y (AT×Td Ob)}(hf:Tryz.prog.funcs[f]? =some fn)(hd:M=some (v,H'))(hP:je Tryz.prog an pc (cU an (aK fn)):=by exact apl [] trivial)
  (he:den tb (de L) pc an (aK fn) ⟨jY 0 xs2,H2⟩ (oO (yP tb an fn.results.toList))=M:=by kernel_rfl) (hb:fn.body=some (aK fn):=by kernel_rfl) (hname:(fn.name== "runtime.NumGoroutine")=false:=by kernel_rfl) (hnt:Nat.beq fn.ntmps an.nt=true:=by kernel_rfl)
  (hx:Nat.ble xs.length an.nt=true:=by kernel_rfl) (hr:Nat.beq an.refs H.length=true:=by kernel_rfl) (hrb:Av rb (xs,H)=some (xs2,H2):=by kernel_rfl) (hnr:(H2.all λo=> !o.fA)=true:=by kernel_rfl):CFn Tryz.prog f xs H v H':=
 vd mixed kX (jp hG) hf hb hname hnt hx hr (PQ).symm (.inl rfl) hP hrb hnr (he.trans hd)
theorem rR{L:Td Ent}(hG:nr Tryz.prog L){f:FuncId}{fn:Func}(an:Ann)(pc:Pcs)(rb:Td Nat){xs xs2:Td AT}{v:AT}{H H2 H':Td Ob}{M:Y (AT×Td Ob)}(hf:Tryz.prog.funcs[f]? =some fn)(hd:M=some (v,H'))(hP:je Tryz.prog an pc (cU an (aK fn)):=by exact apl [] trivial)
  (he:den tb (de L) pc an (aK fn) ⟨jY 0 xs2,H2⟩ (oO (DD tb an fn.results.toList))=M:=by kernel_rfl) (hb:fn.body=some (aK fn):=by kernel_rfl) (hname:(fn.name== "runtime.NumGoroutine")=false:=by kernel_rfl) (hnt:Nat.beq fn.ntmps an.nt=true:=by kernel_rfl)
  (hx:Nat.ble xs.length an.nt=true:=by kernel_rfl) (hr:Nat.beq an.refs H.length=true:=by kernel_rfl) (hrb:Av rb (xs,H)=some (xs2,H2):=by kernel_rfl) (hnr:(H2.all λo=> !o.fA)=true:=by kernel_rfl):CFn Tryz.prog f xs H v H':=
 vd mixed kX (jp hG) hf hb hname hnt hx hr (PQ).symm (.inr rfl) hP hrb hnr (he.trans hd)
theorem fF{L:Td Ent}(hG:nr Tryz.prog L){f:FuncId}{fn:Func}(an:Ann)(pc:Pcs){xs:Td AT}{v:AT}{H H':Td Ob}{M:Y (AT×Td Ob)}(hf:Tryz.prog.funcs[f]? =some fn)(hd:M=some (v,H'))(hP:je Tryz.prog an pc (cU an (aK fn)):=by exact apl [] trivial)
  (he:den tb (de L) pc an (aK fn) ⟨jY 0 xs,H⟩ (oO (yP tb an fn.results.toList))=M:=by kernel_rfl) (hb:fn.body=some (aK fn):=by kernel_rfl) (hname:(fn.name== "runtime.NumGoroutine")=false:=by kernel_rfl) (hnt:Nat.beq fn.ntmps an.nt=true:=by kernel_rfl)
  (hx:Nat.ble xs.length an.nt=true:=by kernel_rfl) (hr:Nat.beq an.refs H.length=true:=by kernel_rfl) (hnr:(H.all λo=> !o.fA)=true:=by kernel_rfl):CFn Tryz.prog f xs H v H':=rF hG an pc [] hf hd hP he hb hname hnt hx hr rfl hnr
theorem fR{L:Td Ent}(hG:nr Tryz.prog L){f:FuncId}{fn:Func}(an:Ann)(pc:Pcs){xs:Td AT}{v:AT}{H H':Td Ob}{M:Y (AT×Td Ob)}(hf:Tryz.prog.funcs[f]? =some fn)(hd:M=some (v,H'))(hP:je Tryz.prog an pc (cU an (aK fn)):=by exact apl [] trivial)
  (he:den tb (de L) pc an (aK fn) ⟨jY 0 xs,H⟩ (oO (DD tb an fn.results.toList))=M:=by kernel_rfl) (hb:fn.body=some (aK fn):=by kernel_rfl) (hname:(fn.name== "runtime.NumGoroutine")=false:=by kernel_rfl) (hnt:Nat.beq fn.ntmps an.nt=true:=by kernel_rfl)
  (hx:Nat.ble xs.length an.nt=true:=by kernel_rfl) (hr:Nat.beq an.refs H.length=true:=by kernel_rfl) (hnr:(H.all λo=> !o.fA)=true:=by kernel_rfl):CFn Tryz.prog f xs H v H':=rR hG an pc [] hf hd hP he hb hname hnt hx hr rfl hnr
theorem gF{L:Td Ent}(hG:nr Tryz.prog L){f:FuncId}{fn:Func}(an:Ann)(pc:Pcs){xs:Td AT}{H:Td Ob}{S:AT×Td Ob->Prop}{M:Y Unit}(hf:Tryz.prog.funcs[f]? =some fn)(hd:M=some ())(hP:je Tryz.prog an pc (cU an (aK fn)):=by exact apl [] trivial)
  (he:den tb (de L) pc an (aK fn) ⟨jY 0 xs,H⟩ (λe st=>(oO (yP tb an fn.results.toList) e st).bind λq=>pG (S q))=M:=by kernel_rfl) (hb:fn.body=some (aK fn):=by kernel_rfl) (hname:(fn.name== "runtime.NumGoroutine")=false:=by kernel_rfl) (hnt:Nat.beq fn.ntmps an.nt=true:=by kernel_rfl)
  (hx:Nat.ble xs.length an.nt=true:=by kernel_rfl) (hr:Nat.beq an.refs H.length=true:=by kernel_rfl) (hnr:(H.all λo=> !o.fA)=true:=by kernel_rfl):DA Tryz.prog f xs H S:=
 sX (rb:=[]) mixed kX (jp hG) hf hb hname hnt hx hr (PQ).symm (.inl rfl) hP rfl hnr (he.trans hd) λe st k=>let⟨q,k1,k2⟩:=bb k;⟨q,k1,xj k2⟩
abbrev LM:=Td (Z×Int)
abbrev LB:=Td Z
abbrev LI:=Td Int
abbrev LO:=Td Opr
abbrev LS:=Td Sb
abbrev LD:=Td Dc
abbrev LT:=Td Tm
abbrev LQ:=Td Eqn
abbrev LK:=Td Cnd
def nK(R:Type)(_:Nat)(_:St)(_:Kt R):Y R:=none
def Tl(i:Nat)(f:(R:Type)->St->Kt R->Y R)(g:(R:Type)->Nat->St->Kt R->Y R)(R:Type)(d:Nat)(s:St)(K:Kt R):Y R:=bif Nat.beq d i then f R s K else g R d s K
def nP:Pcs:=⟨nK,nK,nK⟩
abbrev z24.Q:=LI->Y Bool
def z24.ent(g:Q):Ent:=⟨3,0,[0],rA [.x (.l .u)] [] λ_ K a=>(g a).bind λr=>K (Tp r) []⟩
abbrev z26.Q:=LI->Y Bool
def z26.ent(g:Q):Ent:=⟨4,0,[0],rA [.x (.l .u)] [] λ_ K a=>(g a).bind λr=>K (Tp r) []⟩
abbrev z2h.Q:=LI->Md->Prop
def z2h.ent(g:Q):Ent:=⟨5,3,[0],λ_ xs H K=>match xs,H with
 |[.one (.l .u a)],[]=>sY (g a) λr=>K (TA r) []
 |_,_=>none⟩
abbrev z0e.Q:=Md->Y LB
def z0e.ent(g:Q):Ent:=⟨6,1,[0],rA [Uo] [] λ_ K a d a3 a4 a5=>(g (Md.mk (Sg.mk (So.mk a d) a3) a4 a5)).bind λr=>K (UC r) []⟩
abbrev z0f.Q:=Md->Y Bool
def z0f.ent(g:Q):Ent:=⟨7,0,[0],rA [Uo] [] λ_ K a d a3 a4 a5=>(g (Md.mk (Sg.mk (So.mk a d) a3) a4 a5)).bind λr=>K (Tp r) []⟩
abbrev z2l.Q:=Md->Y Bool
def z2l.ent(g:Q):Ent:=⟨8,0,[0],rA [Uo] [] λ_ K a d a3 a4 a5=>(g (Md.mk (Sg.mk (So.mk a d) a3) a4 a5)).bind λr=>K (Tp r) []⟩
abbrev z0o.Q:=LB->Y (Md×Bool)
def z0o.ent(g:Q):Ent:=⟨9,1,[0],rA [U4] [] λ_ K a=>(g a).bind λr=>K (.tup [TA r.1,Tp r.2]) []⟩
abbrev z2a.Q:=Sg->Sg->Y Bool
def z2a.ent(g:Q):Ent:=⟨10,0,[0,0],rA [TK,TK] [] λ_ K a d a3 a4 a5 h=>(g (Sg.mk (So.mk a d) a3) (Sg.mk (So.mk a4 a5) h)).bind λr=>K (Tp r) []⟩
abbrev z27.Q:=LQ->LQ->Y Bool
def z27.ent(g:Q):Ent:=⟨11,0,[0,0],rA [US,US] [] λ_ K a d=>(g a d).bind λr=>K (Tp r) []⟩
abbrev z2i.Q:=LI->Md->Prop
def z2i.ent(g:Q):Ent:=⟨12,3,[0],λ_ xs H K=>match xs,H with
 |[.one (.l .u a)],[]=>sY (g a) λr=>K (TA r) []
 |_,_=>none⟩
abbrev z1o.Q:=Sg->Y (Y (LI×LI×LI×LB×LS×LO×LM))
def z1o.ent(g:Q):Ent:=⟨13,2,[0],λ_ xs H K=>match xs,H with
 |[.agg [.l .s a,.l (.n 5) d,.l (.n 8) a3]],[]=>(g (Sg.mk (So.mk a d) a3)).bind λr=>rV r (K UQ []) (λq=>(K V5 (TN q.1 q.2.1 q.2.2.1 q.2.2.2.1 q.2.2.2.2.1 q.2.2.2.2.2.1 q.2.2.2.2.2.2)))
 |_,_=>none⟩
abbrev z11.Q:=LI->LI->LI->LB->LS->LO->LM->Md->Y (Bool×LM)
def z11.ent(g:Q):Ent:=⟨14,2,[1,0],rA [Tw,Uo] [Tr,.m .i] λ_ K a v a3 a4 a5 h h2 d h4 j t w=>(g h h2 d h4 j t w (Md.mk (Sg.mk (So.mk a v) a3) a4 a5)).bind λr=>K (Tp r.1) (TN h h2 d h4 j t r.2)⟩
abbrev z1b.Q:=Sg->Opr->Y Z
def z1b.ent(g:Q):Ent:=⟨15,0,[0,0],rA [TK,Uk] [] λ_ K a d a3 a4 a5 h j t=>(g (Sg.mk (So.mk a d) a3) (Opr.mk a4 a5 h j t)).bind λr=>K (Ud r) []⟩
abbrev z10.Q:=LI->LI->LI->LB->LS->LO->LM->Eqn->Y (Z×LM)
def z10.ent(g:Q):Ent:=⟨16,2,[1,0],rA [Tw,Uu] [Tr,.m .i] λ_ K a v a3 a4 a5 w y A a9 h h2 d h4 j t B=>(g h h2 d h4 j t B (Eqn.mk (Tm.mk a v a3 a4) (Tm.mk a5 w y A) a9)).bind λr=>K (Ud r.1) (TN h h2 d h4 j t r.2)⟩
abbrev z2p.Q:=Sg->Y Bool
def z2p.ent(g:Q):Ent:=⟨17,0,[0],rA [TK] [] λ_ K a d a3=>(g (Sg.mk (So.mk a d) a3)).bind λr=>K (Tp r) []⟩
abbrev z2j.Q:=Sg->Eqn->Y Bool
def z2j.ent(g:Q):Ent:=⟨18,0,[0,0],rA [TK,Uu] [] λ_ K a t a3 a4 a5 v w y a9 d h j=>(g (Sg.mk (So.mk a t) a3) (Eqn.mk (Tm.mk a4 a5 v w) (Tm.mk y a9 d h) j)).bind λr=>K (Tp r) []⟩
abbrev z1r.Q:=Sg->LB->Z->Y (Bool×Sg×LB)
abbrev z4u.Q:=LO->Z->Y Int
def z4u.ent(g:Q):Ent:=⟨20,2,[0,1],λ_ xs H K=>match xs,H with
 |[.one (.l (.n 8) a),.one (.f 138 [.p 0 0])],[.box [.s h]]=>(g a h).bind λr=>K (Tv r) [Ur h]
 |_,_=>none⟩
abbrev z4w.Q:=LO->Z->Y Int
def z4w.ent(g:Q):Ent:=⟨20,2,[1,1],λ_ xs H K=>match xs,H with
 |[.one (.o 0),.one (.f 21 [.p 1 0])],[.row (.n 8) 0 h,.box [.s h2]]=>(g h h2).bind λr=>K (Tv r) [Us h,Ur h2]
 |_,_=>none⟩
abbrev z0p.Q:=Opr->Z->Y Bool
def z0p.ent(g:Q):Ent:=⟨21,2,[0,1],rA [Uk,Tw] [.b [.s]] λ_ K a d a3 a4 a5 h=>(g (Opr.mk a d a3 a4 a5) h).bind λr=>K (Tp r) [Ur h]⟩
abbrev strings_Cut.Q:=Z->Z->Y (Z×Z×Bool)
def strings_Cut.ent(g:Q):Ent:=⟨22,0,[0,0],rA [Uv,Uv] [] λ_ K a d=>(g a d).bind λr=>K (.tup [Ud r.1,Ud r.2.1,Tp r.2.2]) []⟩
abbrev z17.Q:=LI->LI->LI->LB->LS->LO->LM->Z->Y (Eqn×Bool×LM)
def z17.ent(g:Q):Ent:=⟨23,2,[1,0],rA [Tw,Uv] [Tr,.m .i] λ_ K a h h2 d h4 j t v=>(g h h2 d h4 j t v a).bind λr=>K (.tup [TW r.1,Tp r.2.1]) (TN h h2 d h4 j t r.2.2)⟩
abbrev z4p.Q:=LB->LB->Y Bool
def z4p.ent(g:Q):Ent:=⟨24,0,[0,0],rA [U4,U4] [] λ_ K a d=>(g a d).bind λr=>K (Tp r) []⟩
abbrev z2c.Q:=LB->LB->Y Bool
def z2c.ent(g:Q):Ent:=⟨25,0,[0,0],rA [U4,U4] [] λ_ K a d=>(g a d).bind λr=>K (Tp r) []⟩
abbrev z28.Q:=LI->LI->Y Bool
def z28.ent(g:Q):Ent:=⟨26,0,[0,0],rA [U2,U2] [] λ_ K a d=>(g a d).bind λr=>K (Tp r) []⟩
abbrev z29.Q:=Tm->Tm->Y Bool
def z29.ent(g:Q):Ent:=⟨27,0,[0,0],rA [TE,TE] [] λ_ K a d a3 a4 a5 h j t=>(g (Tm.mk a d a3 a4) (Tm.mk a5 h j t)).bind λr=>K (Tp r) []⟩
abbrev z3d.Q:=LI->Y Cur
def z3d.ent(g:Q):Ent:=⟨28,2,[0],rA [.x (.l .u)] [] λ_ K a=>(g a).bind λr=>K TF (Tt r)⟩
abbrev z2x.Q:=Cur->Y (Md×Cur)
abbrev z2y.Q:=Cur->(Md×Cur)->Prop
def z2y.ent(g:Q):Ent:=⟨29,3,[1],λ_ xs H K=>match xs,H with
 |[.one (.p 0 0)],[.box [.l .u h,.i h2,.i d]]=>sY (g (Cur.mk h h2 d)) λr=>K (TA r.1) (Tt r.2)
 |_,_=>none⟩
abbrev z0j.Q:=Sg->Y Bool
def z0j.ent(g:Q):Ent:=⟨30,0,[0],rA [TK] [] λ_ K a d a3=>(g (Sg.mk (So.mk a d) a3)).bind λr=>K (Tp r) []⟩
abbrev z1p.Q:=So->Y (Od×Bool)
def z1p.ent(g:Q):Ent:=⟨31,1,[0],rA UA [] λ_ K a d=>(g (So.mk a d)).bind λr=>K (.tup [UH r.1,Tp r.2]) []⟩
abbrev z4m.Q:=Td LQ->Y LQ
def z4m.ent(g:Q):Ent:=⟨32,1,[0],rA [.x (.l (.sl TS))] [] λ_ K a=>(g a).bind λr=>K (Vl r) []⟩
abbrev z12.Q:=LI->LI->LI->LB->LS->LO->LM->Eqn->Y (Bool×LM)
def z12.ent(g:Q):Ent:=⟨33,2,[1,0],rA [Tw,Uu] [Tr,.m .i] λ_ K a v a3 a4 a5 w y A a9 h h2 d h4 j t B=>(g h h2 d h4 j t B (Eqn.mk (Tm.mk a v a3 a4) (Tm.mk a5 w y A) a9)).bind λr=>K (Tp r.1) (TN h h2 d h4 j t r.2)⟩
abbrev z0z.Q:=LI->LI->LI->LB->LS->LO->LM->Tm->Y (Z×LM)
def z0z.ent(g:Q):Ent:=⟨34,2,[1,0],rA [Tw,TE] [Tr,.m .i] λ_ K a v a3 a4 h h2 d h4 j t w=>(g h h2 d h4 j t w (Tm.mk a v a3 a4)).bind λr=>K (Ud r.1) (TN h h2 d h4 j t r.2)⟩
abbrev z2r.Q:=So->Y Bool
def z2r.ent(g:Q):Ent:=⟨35,0,[0],rA UA [] λ_ K a d=>(g (So.mk a d)).bind λr=>K (Tp r) []⟩
abbrev z2n.Q:=Z->Y Bool
def z2n.ent(g:Q):Ent:=⟨36,0,[0],rA [Uv] [] λ_ K a=>(g a).bind λr=>K (Tp r) []⟩
abbrev z3m.Q:=Sg->Opr->Y Bool
def z3m.ent(g:Q):Ent:=⟨37,0,[0,0],rA [TK,Uk] [] λ_ K a d a3 a4 a5 h j t=>(g (Sg.mk (So.mk a d) a3) (Opr.mk a4 a5 h j t)).bind λr=>K (Tp r) []⟩
abbrev z3l.Q:=Sg->Int->Y Bool
def z3l.ent(g:Q):Ent:=⟨38,0,[0,0],rA [TK,Tx] [] λ_ K a d a3 a4=>(g (Sg.mk (So.mk a d) a3) a4).bind λr=>K (Tp r) []⟩
abbrev z30.Q:=Sg->Tm->Tm->Y Bool
def z30.ent(g:Q):Ent:=⟨39,0,[0,0,0],rA [TK,TE,TE] [] λ_ K a j a3 a4 a5 t v w a9 d h=>(g (Sg.mk (So.mk a j) a3) (Tm.mk a4 a5 t v) (Tm.mk w a9 d h)).bind λr=>K (Tp r) []⟩
abbrev z2v.Q:=Tm->Y LT
def z2v.ent(g:Q):Ent:=⟨40,1,[0],rA [TE] [] λ_ K a d a3 a4=>(g (Tm.mk a d a3 a4)).bind λr=>K (TO r) []⟩
abbrev z34.Q:=Tm->LT->Y Bool
def z34.ent(g:Q):Ent:=⟨41,0,[0,0],rA [TE,TL] [] λ_ K a d a3 a4 a5=>(g (Tm.mk a d a3 a4) a5).bind λr=>K (Tp r) []⟩
abbrev strings_Split.Q:=Z->Z->Y LB
abbrev z4y.Q:=LB->Z->Y Int
def z4y.ent(g:Q):Ent:=⟨44,0,[0,0],rA [U4,Uv] [] λ_ K a d=>(g a d).bind λr=>K (Tv r) []⟩
abbrev z4x.Q:=LB->Z->Y Int
def z4x.ent(g:Q):Ent:=⟨44,2,[1,0],rA [U7,Uv] [UF] λ_ K a h=>(g h a).bind λr=>K (Tv r) [Un h]⟩
abbrev z4o.Q:=LB->Z->Y Bool
def z4o.ent(g:Q):Ent:=⟨45,0,[0,0],rA [U4,Uv] [] λ_ K a d=>(g a d).bind λr=>K (Tp r) []⟩
abbrev internalstringslite_Cut.Q:=Z->Z->Y (Z×Z×Bool)
abbrev z18.Q:=LI->LI->LI->LB->LS->LO->LM->Z->Y (Tm×Tm×Bool×LM)
def z18.ent(g:Q):Ent:=⟨47,2,[1,0],rA [Tw,Uv] [Tr,.m .i] λ_ K a h h2 d h4 j t v=>(g h h2 d h4 j t v a).bind λr=>K (.tup [To r.1,To r.2.1,Tp r.2.2.1]) (TN h h2 d h4 j t r.2.2.2)⟩
abbrev z2d.Q:=Tm->Tm->Y Int
def z2d.ent(g:Q):Ent:=⟨48,0,[0,0],rA [TE,TE] [] λ_ K a d a3 a4 a5 h j t=>(g (Tm.mk a d a3 a4) (Tm.mk a5 h j t)).bind λr=>K (Tv r) []⟩
abbrev z2z.Q:=Cur->Y (Md×Cur)
abbrev z35.Q:=Cur->Int->Y (Int×Cur)
def z35.ent(g:Q):Ent:=⟨50,2,[1,0],rA [Tw,Tx] [U5] λ_ K a h h2 d=>(g (Cur.mk h h2 d) a).bind λr=>K (Tv r.1) (Tt r.2)⟩
abbrev z43.Q:=Cur->Sg->Int->Bool->Y (Tm×Cur)
def z43.ent(g:Q):Ent:=⟨51,2,[1,0,0,0],rA [Tw,TK,Tx,UD] [U5] λ_ K a d a3 a4 a5 h h2 j=>(g (Cur.mk h h2 j) (Sg.mk (So.mk a d) a3) a4 a5).bind λr=>K (To r.1) (Tt r.2)⟩
abbrev z44.Q:=Cur->Sg->Int->Bool->Y (Tm×Cur)
abbrev z0h.Q:=Z->Y Bool
def z0h.ent(g:Q):Ent:=⟨52,0,[0],rA [Uv] [] λ_ K a=>(g a).bind λr=>K (Tp r) []⟩
abbrev z1h.Q:=Od->Opr->Y Bool
def z1h.ent(g:Q):Ent:=⟨53,0,[0,0],rA [Vf,Uk] [] λ_ K a d a3 a4 a5 h j t=>(g (Od.mk a d a3) (Opr.mk a4 a5 h j t)).bind λr=>K (Tp r) []⟩
abbrev z1c.Q:=Od->Sg->Opr->Y Bool
def z1c.ent(g:Q):Ent:=⟨54,0,[0,0,0],rA [Vf,TK,Uk] [] λ_ K a j a3 a4 a5 t v w a9 d h=>(g (Od.mk a j a3) (Sg.mk (So.mk a4 a5) t) (Opr.mk v w a9 d h)).bind λr=>K (Tp r) []⟩
abbrev z0l.Q:=So->Y Bool
def z0l.ent(g:Q):Ent:=⟨55,0,[0],rA UA [] λ_ K a d=>(g (So.mk a d)).bind λr=>K (Tp r) []⟩
abbrev z1v.Q:=So->Y LI
def z1v.ent(g:Q):Ent:=⟨56,1,[0],rA UA [] λ_ K a d=>(g (So.mk a d)).bind λr=>K (Ue r) []⟩
abbrev z0n.Q:=Int->Y LI
def z0n.ent(g:Q):Ent:=⟨57,1,[0],rA [Tx] [] λ_ K a=>(g a).bind λr=>K (Ue r) []⟩
abbrev z4r.Q:=LQ->Int->Y LQ
abbrev z4s.Q:=LQ->Int->Y LQ
def z4s.ent(g:Q):Ent:=⟨58,2,[1,0],λ_ xs H K=>match xs,H with
 |[.one (.o 0),.one (.i a)],[.row (.n 14) 0 h]=>(g h a).bind λr=>K UY [.aQ,UN r]
 |_,_=>none⟩
abbrev z13.Q:=LI->LI->LI->LB->LS->LO->LM->Tm->Y (Bool×LM)
def z13.ent(g:Q):Ent:=⟨59,2,[1,0],rA [Tw,TE] [Tr,.m .i] λ_ K a v a3 a4 h h2 d h4 j t w=>(g h h2 d h4 j t w (Tm.mk a v a3 a4)).bind λr=>K (Tp r.1) (TN h h2 d h4 j t r.2)⟩
abbrev z16.Q:=LI->LI->LI->LB->LS->LO->LM->Tm->Y (Int×LM)
def z16.ent(g:Q):Ent:=⟨60,2,[1,0],rA [Tw,TE] [Tr,.m .i] λ_ K a v a3 a4 h h2 d h4 j t w=>(g h h2 d h4 j t w (Tm.mk a v a3 a4)).bind λr=>K (Tv r.1) (TN h h2 d h4 j t r.2)⟩
abbrev z0u.Q:=Tm->Y LT
def z0u.ent(g:Q):Ent:=⟨61,1,[0],rA [TE] [] λ_ K a d a3 a4=>(g (Tm.mk a d a3 a4)).bind λr=>K (TO r) []⟩
abbrev z1j.Q:=LT->Tm->Y Bool
def z1j.ent(g:Q):Ent:=⟨62,0,[0,0],rA [TL,TE] [] λ_ K a d a3 a4 a5=>(g a (Tm.mk d a3 a4 a5)).bind λr=>K (Tp r) []⟩
abbrev strings_Join.Q:=LB->Z->Y Z
def strings_Join.ent(g:Q):Ent:=⟨63,0,[0,0],rA [U4,Uv] [] λ_ K a d=>(g a d).bind λr=>K (Ud r) []⟩
abbrev z38.Q:=LB->Z->Y Bool
def z38.ent(g:Q):Ent:=⟨64,0,[0,0],rA [U4,Uv] [] λ_ K a d=>(g a d).bind λr=>K (Tp r) []⟩
abbrev z3a.Q:=Int->Int->Int->Y Bool
def z3a.ent(g:Q):Ent:=⟨65,0,[0,0,0],rA [Tx,Tx,Tx] [] λ_ K a d a3=>(g a d a3).bind λr=>K (Tp r) []⟩
abbrev z3j.Q:=So->Y LI
def z3j.ent(g:Q):Ent:=⟨66,1,[0],rA UA [] λ_ K a d=>(g (So.mk a d)).bind λr=>K (Ue r) []⟩
abbrev z3h.Q:=Int->Int->Y Bool
def z3h.ent(g:Q):Ent:=⟨67,0,[0,0],rA [Tx,Tx] [] λ_ K a d=>(g a d).bind λr=>K (Tp r) []⟩
abbrev z3i.Q:=So->Y LI
def z3i.ent(g:Q):Ent:=⟨68,1,[0],rA UA [] λ_ K a d=>(g (So.mk a d)).bind λr=>K (Ue r) []⟩
abbrev z3k.Q:=Opr->Y Int
def z3k.ent(g:Q):Ent:=⟨69,0,[0],rA [Uk] [] λ_ K a d a3 a4 a5=>(g (Opr.mk a d a3 a4 a5)).bind λr=>K (Tv r) []⟩
abbrev z4f.Q:=Tm->Y Bool
def z4f.ent(g:Q):Ent:=⟨70,0,[0],rA [TE] [] λ_ K a d a3 a4=>(g (Tm.mk a d a3 a4)).bind λr=>K (Tp r) []⟩
abbrev z47.Q:=Sg->Tm->Y Bool
def z47.ent(g:Q):Ent:=⟨71,0,[0,0],rA [TK,TE] [] λ_ K a d a3 a4 a5 h j=>(g (Sg.mk (So.mk a d) a3) (Tm.mk a4 a5 h j)).bind λr=>K (Tp r) []⟩
abbrev z48.Q:=Sg->Tm->Y Int
def z48.ent(g:Q):Ent:=⟨72,0,[0,0],rA [TK,TE] [] λ_ K a d a3 a4 a5 h j=>(g (Sg.mk (So.mk a d) a3) (Tm.mk a4 a5 h j)).bind λr=>K (Tv r) []⟩
abbrev z3s.Q:=Tm->LT->Y LT
def z3s.ent(g:Q):Ent:=⟨73,1,[0,0],rA [TE,TL] [] λ_ K a d a3 a4 a5=>(g (Tm.mk a d a3 a4) a5).bind λr=>K (TO r) []⟩
abbrev z3y.Q:=Tm->Tm->Y Bool
def z3y.ent(g:Q):Ent:=⟨74,0,[0,0],rA [TE,TE] [] λ_ K a d a3 a4 a5 h j t=>(g (Tm.mk a d a3 a4) (Tm.mk a5 h j t)).bind λr=>K (Tp r) []⟩
abbrev z5h.Q:=Z->Z->Int->Int->Y LB
abbrev internalstringslite_Index.Q:=Z->Z->Y Int
abbrev z0r.Q:=Sg->Z->Y (Tm×Bool)
def z0r.ent(g:Q):Ent:=⟨77,1,[0,0],rA [TK,Uv] [] λ_ K a d a3 a4=>(g (Sg.mk (So.mk a d) a3) a4).bind λr=>K (Ui r.1 r.2) []⟩
abbrev z3n.Q:=Cur->Y (Sg×Cur)
def z3n.ent(g:Q):Ent:=⟨78,2,[1],rA [Tw] [U5] λ_ K h h2 d=>(g (Cur.mk h h2 d)).bind λr=>K (Ut r.1) (Tt r.2)⟩
abbrev z3o.Q:=Cur->Y (Sg×Cur)
abbrev z33.Q:=Cur->Sg->Int->Y (LQ×Cur)
abbrev z36.Q:=Cur->Y (Int×Cur)
def z36.ent(g:Q):Ent:=⟨80,2,[1],rA [Tw] [U5] λ_ K h h2 d=>(g (Cur.mk h h2 d)).bind λr=>K (Tv r.1) (Tt r.2)⟩
abbrev z41.Q:=Sg->Tm->Y (Tm×Bool)
def z41.ent(g:Q):Ent:=⟨81,1,[0,0],rA [TK,TE] [] λ_ K a d a3 a4 a5 h j=>(g (Sg.mk (So.mk a d) a3) (Tm.mk a4 a5 h j)).bind λr=>K (Ui r.1 r.2) []⟩
abbrev z42.Q:=Sg->Tm->Y (Tm×Bool)
abbrev z4d.Q:=Cur->Sg->Int->Bool->Y (Tm×Cur)
def z4d.ent(g:Q):Ent:=⟨82,2,[1,0,0,0],rA [Tw,TK,Tx,UD] [U5] λ_ K a d a3 a4 a5 h h2 j=>(g (Cur.mk h h2 j) (Sg.mk (So.mk a d) a3) a4 a5).bind λr=>K (To r.1) (Tt r.2)⟩
abbrev z1m.Q:=Int->Y Bool
def z1m.ent(g:Q):Ent:=⟨83,0,[0],λ_ xs H K=>match xs,H with
 |[.one (.k .u8 a)],[]=>(g a).bind λr=>K (Tp r) []
 |_,_=>none⟩
abbrev z1q.Q:=Od->Int->Y Bool
def z1q.ent(g:Q):Ent:=⟨84,0,[0,0],rA [Vf,Tx] [] λ_ K a d a3 a4=>(g (Od.mk a d a3) a4).bind λr=>K (Tp r) []⟩
abbrev z1l.Q:=Int->Y Bool
def z1l.ent(g:Q):Ent:=⟨85,0,[0],rA [Tx] [] λ_ K a=>(g a).bind λr=>K (Tp r) []⟩
abbrev z0s.Q:=Tm->Y Int
def z0s.ent(g:Q):Ent:=⟨86,0,[0],rA [TE] [] λ_ K a d a3 a4=>(g (Tm.mk a d a3 a4)).bind λr=>K (Tv r) []⟩
abbrev z0c.Q:=Tm->Y Int
def z0c.ent(g:Q):Ent:=⟨87,0,[0],rA [TE] [] λ_ K a d a3 a4=>(g (Tm.mk a d a3 a4)).bind λr=>K (Tv r) []⟩
abbrev z1a.Q:=LI->LI->LI->LB->LS->LO->LM->Tm->Y (Bool×LM)
def z1a.ent(g:Q):Ent:=⟨88,2,[1,0],rA [Tw,TE] [Tr,.m .i] λ_ K a v a3 a4 h h2 d h4 j t w=>(g h h2 d h4 j t w (Tm.mk a v a3 a4)).bind λr=>K (Tp r.1) (TN h h2 d h4 j t r.2)⟩
abbrev z0v.Q:=Tm->LT->Y LT
def z0v.ent(g:Q):Ent:=⟨89,2,[0,1,1],λ_ xs H K=>match xs,H with
 |[.agg [.i a,.s d,.i a3,.l (.n 1) a4],.one (.p 0 0),.one (.p 2 0)],[.box [.o 1],.row (.n 1) 0 h,.box [.f 89 [.p 0 0,.p 2 0]]]=>(g (Tm.mk a d a3 a4) h).bind λr=>K Uf [Vc,.aQ,Um,Tz r]
 |_,_=>none⟩
abbrev z1i.Q:=LT->Y LT
def z1i.ent(g:Q):Ent:=⟨90,2,[1],λ_ xs H K=>match xs,H with
 |[.one (.o 0)],[.row (.n 1) 0 h]=>(g h).bind λr=>K (TO r) [.aQ]
 |_,_=>none⟩
abbrev z4n.Q:=LT->Tm->Y Bool
def z4n.ent(g:Q):Ent:=⟨91,2,[0,1],λ_ xs H K=>match xs,H with
 |[.one (.l (.n 1) a),.one (.f 92 [.p 0 0])],[.box [.i h,.s h2,.i d,.l (.n 1) h4]]=>(g a (Tm.mk h h2 d h4)).bind λr=>K (Tp r) [TC h h2 d h4]
 |_,_=>none⟩
abbrev z1k.Q:=Tm->Tm->Y Bool
def z1k.ent(g:Q):Ent:=⟨92,2,[0,1],rA [TE,Tw] [TJ] λ_ K a j a3 a4 h h2 d h4=>(g (Tm.mk a j a3 a4) (Tm.mk h h2 d h4)).bind λr=>K (Tp r) [TC h h2 d h4]⟩
abbrev z1s.Q:=Tm->Tm->Y Bool
def z1s.ent(g:Q):Ent:=⟨93,0,[0,0],rA [TE,TE] [] λ_ K a d a3 a4 a5 h j t=>(g (Tm.mk a d a3 a4) (Tm.mk a5 h j t)).bind λr=>K (Tp r) []⟩
abbrev z3g.Q:=Int->Y Int
def z3g.ent(g:Q):Ent:=⟨97,0,[0],rA [Tx] [] λ_ K a=>(g a).bind λr=>K (Tv r) []⟩
abbrev z3c.Q:=Int->Int->Y Int
def z3c.ent(g:Q):Ent:=⟨98,0,[0,0],rA [Tx,Tx] [] λ_ K a d=>(g a d).bind λr=>K (Tv r) []⟩
abbrev z49.Q:=Tm->Int->Y Int
def z49.ent(g:Q):Ent:=⟨99,0,[0,0],rA [TE,Tx] [] λ_ K a d a3 a4 a5=>(g (Tm.mk a d a3 a4) a5).bind λr=>K (Tv r) []⟩
abbrev z2f.Q:=Tm->Y Int
def z2f.ent(g:Q):Ent:=⟨100,0,[0],rA [TE] [] λ_ K a d a3 a4=>(g (Tm.mk a d a3 a4)).bind λr=>K (Tv r) []⟩
abbrev z4c.Q:=Sg->Tm->Y Bool
def z4c.ent(g:Q):Ent:=⟨101,0,[0,0],rA [TK,TE] [] λ_ K a d a3 a4 a5 h j=>(g (Sg.mk (So.mk a d) a3) (Tm.mk a4 a5 h j)).bind λr=>K (Tp r) []⟩
abbrev z4e.Q:=Sg->Tm->Y Bool
def z4e.ent(g:Q):Ent:=⟨102,0,[0,0],rA [TK,TE] [] λ_ K a d a3 a4 a5 h j=>(g (Sg.mk (So.mk a d) a3) (Tm.mk a4 a5 h j)).bind λr=>K (Tp r) []⟩
abbrev z3x.Q:=LT->Tm->Y LT
def z3x.ent(g:Q):Ent:=⟨103,1,[0,0],rA [TL,TE] [] λ_ K a d a3 a4 a5=>(g a (Tm.mk d a3 a4 a5)).bind λr=>K (TO r) []⟩
abbrev z3z.Q:=Z->Int->Y Tm
def z3z.ent(g:Q):Ent:=⟨104,1,[0,0],rA [Uv,Tx] [] λ_ K a d=>(g a d).bind λr=>K (To r) []⟩
abbrev z40.Q:=Z->Int->Y Tm
def z40.ent(g:Q):Ent:=⟨104,2,[0,0],rA [Uv,Tx] [] λ_ K a d=>(g a d).bind λr=>K (UW r) (UU (Tm.ae r))⟩
abbrev z5g.Q:=Z->Int->Y LB
abbrev z5d.Q:=Z->Z->Y Int
abbrev z5e.Q:=Z->Z->Y Int
abbrev internalstringslite_IndexByte.Q:=Z->Int->Y Int
abbrev internalbytealg_Cutover.Q:=Int->Y Int
abbrev internalbytealg_IndexRabinKarp_string.Q:=Z->Z->Y Int
abbrev z1z.Q:=LI->LI->LI->LB->LS->LO->LM->Z->Int->Int->Y (Tm×Bool×Int×LM)
def z1z.ent(g:Q):Ent:=⟨112,2,[1,0],rA [Tw,Tx] Ux λ_ K a h h2 d h4 j t v w y=>(g d h4 j t v w y h h2 a).bind λr=>K (Ui r.1 r.2.1) (TT h r.2.2.1 d h4 j t v w r.2.2.2)⟩
abbrev z1y.Q:=LI->LI->LI->LB->LS->LO->LM->Z->Int->Y (Int×LM)
def z1y.ent(g:Q):Ent:=⟨113,2,[1],rA [Tw] Ux λ_ K h h2 d h4 j t v w y=>(g d h4 j t v w y h h2).bind λr=>K Uf (TT h r.1 d h4 j t v w r.2)⟩
abbrev z1d.Q:=Tm->Y Tm
def z1d.ent(g:Q):Ent:=⟨114,1,[0],rA [TE] [] λ_ K a d a3 a4=>(g (Tm.mk a d a3 a4)).bind λr=>K (To r) []⟩
abbrev z3e.Q:=Cur->Int->Y (Bool×Cur)
def z3e.ent(g:Q):Ent:=⟨115,2,[1,0],rA [Tw,Tx] [U5] λ_ K a h h2 d=>(g (Cur.mk h h2 d) a).bind λr=>K (Tp r.1) (Tt r.2)⟩
abbrev z3p.Q:=Z->Int->LI->Y Opr
abbrev z3q.Q:=Z->Int->LI->Y Opr
def z3q.ent(g:Q):Ent:=⟨116,2,[0,0,0],rA [Uv,Tx,U2] [] λ_ K a d a3=>(g a d a3).bind λr=>K (UJ r) [.row (.n 7) 0 (Opr.aJ r)]⟩
abbrev z3r.Q:=Z->Int->LI->Y Opr
def z3r.ent(g:Q):Ent:=⟨116,2,[0,0,0],rA [Uv,Tx,U2] [] λ_ K a d a3=>(g a d a3).bind λr=>K (Uy r) []⟩
abbrev z32.Q:=Cur->Sg->Y (Eqn×Bool×Cur)
abbrev z4a.Q:=Sg->Int->LT->Y (Tm×Bool)
def z4a.ent(g:Q):Ent:=⟨118,1,[0,0,0],rA [TK,Tx,TL] [] λ_ K a d a3 a4 a5=>(g (Sg.mk (So.mk a d) a3) a4 a5).bind λr=>K (Ui r.1 r.2) []⟩
abbrev z4b.Q:=Sg->Int->LT->Y (Tm×Bool)
abbrev z4i.Q:=Cur->Sg->Int->Bool->Bool->Y (Tm×Cur)
def z4i.ent(g:Q):Ent:=⟨119,2,[1,0,0,0,0],rA [Tw,TK,Tx,UD,UD] [U5] λ_ K a d a3 a4 a5 j h h2 t=>(g (Cur.mk h h2 t) (Sg.mk (So.mk a d) a3) a4 a5 j).bind λr=>K (To r.1) (Tt r.2)⟩
abbrev z15.Q:=LI->LI->LI->LB->LS->LO->LM->Tm->Y (Bool×LM)
def z15.ent(g:Q):Ent:=⟨120,2,[1,0],rA [Tw,TE] [Tr,.m .i] λ_ K a v a3 a4 h h2 d h4 j t w=>(g h h2 d h4 j t w (Tm.mk a v a3 a4)).bind λr=>K (Tp r.1) (TN h h2 d h4 j t r.2)⟩
abbrev z0x.Q:=LI->LI->LI->LB->LS->LO->LM->Int->Int->Y (Int×LM)
def z0x.ent(g:Q):Ent:=⟨121,2,[1,0,0],rA [Tw,Tx,Tx] [Tr,.m .i] λ_ K a v h h2 d h4 j t w=>(g h h2 d h4 j t w a v).bind λr=>K (Tv r.1) (TN h h2 d h4 j t r.2)⟩
abbrev z14.Q:=LI->LI->LI->LB->LS->LO->LM->Int->Tm->Y (Bool×LM)
def z14.ent(g:Q):Ent:=⟨122,2,[1,0,0],rA [Tw,Tx,TE] [Tr,.m .i] λ_ K a v a3 a4 a5 h h2 d h4 j t w=>(g h h2 d h4 j t w a (Tm.mk v a3 a4 a5)).bind λr=>K (Tp r.1) (TN h h2 d h4 j t r.2)⟩
abbrev z0a.Q:=Tm->Tm->Y Int
def z0a.ent(g:Q):Ent:=⟨123,0,[0,0],rA [TE,TE] [] λ_ K a d a3 a4 a5 h j t=>(g (Tm.mk a d a3 a4) (Tm.mk a5 h j t)).bind λr=>K (Tv r) []⟩
abbrev z4v.Q:=LT->Tm->Y Int
def z4v.ent(g:Q):Ent:=⟨126,2,[0,1],λ_ xs H K=>match xs,H with
 |[.one (.l (.n 1) a),.one (.f 92 [.p 0 0])],[.box [.i h,.s h2,.i d,.l (.n 1) h4]]=>(g a (Tm.mk h h2 d h4)).bind λr=>K (Tv r) [TC h h2 d h4]
 |_,_=>none⟩
abbrev z3b.Q:=Int->Int->Y Int
def z3b.ent(g:Q):Ent:=⟨129,0,[0,0],rA [Tx,Tx] [] λ_ K a d=>(g a d).bind λr=>K (Tv r) []⟩
abbrev z4g.Q:=Sg->Int->Y (Tm×Bool)
def z4g.ent(g:Q):Ent:=⟨130,1,[0,0],rA [TK,Tx] [] λ_ K a d a3 a4=>(g (Sg.mk (So.mk a d) a3) a4).bind λr=>K (Ui r.1 r.2) []⟩
abbrev z4h.Q:=Sg->Int->Y (Tm×Bool)
abbrev unicodeutf8_RuneCountInString.Q:=Z->Y Int
abbrev z1x.Q:=LI->LI->LI->LB->LS->LO->LM->Z->Int->Y (Z×Int×LM)
def z1x.ent(g:Q):Ent:=⟨136,2,[1],rA [Tw] Ux λ_ K h h2 d h4 j t v w y=>(g d h4 j t v w y h h2).bind λr=>K (Ud r.1) (TT h r.2.1 d h4 j t v w r.2.2)⟩
abbrev z1w.Q:=LI->LI->LI->LB->LS->LO->LM->Z->Int->Int->Y (Bool×Int×LM)
def z1w.ent(g:Q):Ent:=⟨137,2,[1,0],λ_ xs H K=>match xs,H with
 |[.one (.p 0 0),.one (.k .u8 a)],[.box [.p 1 0,.s h,.i h2],.box [.l .i d,.l .i h4,.l .i j,.l .s t,.l (.n 5) v,.l (.n 8) w,.m 2],.map .i y]=>(g d h4 j t v w y h h2 a).bind λr=>K (Tp r.1) (TT h r.2.1 d h4 j t v w r.2.2)
 |_,_=>none⟩
abbrev z23.Q:=Opr->Z->Y Bool
def z23.ent(g:Q):Ent:=⟨138,2,[0,1],rA [Uk,Tw] [.b [.s]] λ_ K a d a3 a4 a5 h=>(g (Opr.mk a d a3 a4 a5) h).bind λr=>K (Tp r) [Ur h]⟩
abbrev z0y.Q:=LI->LI->LI->LB->LS->LO->LM->Int->LT->Y (Tm×Bool×LM)
def z0y.ent(g:Q):Ent:=⟨139,2,[1,0,0],rA [Tw,Tx,TL] [Tr,.m .i] λ_ K a v h h2 d h4 j t w=>(g h h2 d h4 j t w a v).bind λr=>K (Ui r.1 r.2.1) (TN h h2 d h4 j t r.2.2)⟩
abbrev z1f.Q:=LT->Y LT
def z1f.ent(g:Q):Ent:=⟨140,1,[0],rA [TL] [] λ_ K a=>(g a).bind λr=>K (TO r) []⟩
abbrev z3v.Q:=Tm->Y Tm
def z3v.ent(g:Q):Ent:=⟨141,1,[0],rA [TE] [] λ_ K a d a3 a4=>(g (Tm.mk a d a3 a4)).bind λr=>K (To r) []⟩
abbrev z3w.Q:=Tm->Y Tm
abbrev z2t.Q:=LT->Y LT
def z2t.ent(g:Q):Ent:=⟨142,1,[0],rA [TL] [] λ_ K a=>(g a).bind λr=>K (TO r) []⟩
abbrev z3t.Q:=LT->Y LT
def z3t.ent(g:Q):Ent:=⟨143,1,[0],rA [TL] [] λ_ K a=>(g a).bind λr=>K (TO r) []⟩
abbrev z3u.Q:=LT->Y LT
abbrev z3f.Q:=Cur->LB->Y (Z×Cur)
def z3f.ent(g:Q):Ent:=⟨144,2,[1,0],rA [Tw,U4] [U5] λ_ K a h h2 d=>(g (Cur.mk h h2 d) a).bind λr=>K (Ud r.1) (Tt r.2)⟩
abbrev z02.Q:=LI->Y Int
def z02.ent(g:Q):Ent:=⟨145,0,[0],rA [U2] [] λ_ K a=>(g a).bind λr=>K (Tv r) []⟩
abbrev z01.Q:=Int->Int->Y Int
def z01.ent(g:Q):Ent:=⟨146,0,[0,0],rA [Tx,Tx] [] λ_ K a d=>(g a d).bind λr=>K (Tv r) []⟩
abbrev strings_Compare.Q:=Z->Z->Y Int
def strings_Compare.ent(g:Q):Ent:=⟨147,0,[0,0],rA [Uv,Uv] [] λ_ K a d=>(g a d).bind λr=>K (Tv r) []⟩
abbrev z4l.Q:=LT->LT->Y Int
def z4l.ent(g:Q):Ent:=⟨148,2,[0,0,1],rA [TL,TL,U9] [] λ_ K a d=>(g a d).bind λr=>K (Tv r) []⟩
abbrev mathbits_Len.Q:=Int->Y Int
abbrev z19.Q:=LI->LI->LI->LB->LS->LO->LM->Int->Y (Tm×LM)
def z19.ent(g:Q):Ent:=⟨154,2,[1,0],rA [Tw,Tx] [Tr,.m .i] λ_ K a h h2 d h4 j t v=>(g h h2 d h4 j t v a).bind λr=>K (To r.1) (TN h h2 d h4 j t r.2)⟩
abbrev z54.Q:=LT->Y LT
def z54.ent(g:Q):Ent:=⟨155,2,[1,1],rA [U7,U9] [TH] λ_ K h=>(g h).bind λr=>K Uf (UU r)⟩
abbrev z05.Q:=Int->Y Bool
def z05.ent(g:Q):Ent:=⟨156,0,[0],rA [Tx] [] λ_ K a=>(g a).bind λr=>K (Tp r) []⟩
abbrev internalbytealg_CompareString.Q:=Z->Z->Y Int
abbrev z56.Q:=LT->Int->Int->Y LT
def z56.ent(g:Q):Ent:=⟨158,2,[1,0,0,1],rA [U7,Tx,Tx,U9] [TH] λ_ K a d h=>(g h a d).bind λr=>K Uf (UU r)⟩
abbrev mathbits_Len32.Q:=Int->Y Int
abbrev mathbits_Len64.Q:=Int->Y Int
abbrev z58.Q:=LT->Int->Y LT
def z58.ent(g:Q):Ent:=⟨168,2,[1,0,1],rA [U7,Tx,U9] [TH] λ_ K a h=>(g h a).bind λr=>K Uf (UU r)⟩
abbrev z5b.Q:=LT->Int->Int->Int->Y LT
def z5b.ent(g:Q):Ent:=⟨175,2,[1,0,0,0,1],rA [U7,Tx,Tx,Tx,U9] [TH] λ_ K a d a3 h=>(g h a d a3).bind λr=>K Uf (UU r)⟩
abbrev z57.Q:=LT->Int->Int->Int->Y LT
def z57.ent(g:Q):Ent:=⟨177,2,[1,0,0,0,1],rA [U7,Tx,Tx,Tx,U9] [TH] λ_ K a d a3 h=>(g h a d a3).bind λr=>K Uf (UU r)⟩
abbrev z5a.Q:=LT->Int->Int->Int->Y LT
def z5a.ent(g:Q):Ent:=⟨178,2,[1,0,0,0,1],rA [U7,Tx,Tx,Tx,U9] [TH] λ_ K a d a3 h=>(g h a d a3).bind λr=>K Uf (UU r)⟩
abbrev aj:=kY Tryz.prog
abbrev ap:=nr Tryz.prog
abbrev al:=iO Tryz.prog
end
end
section
open Go.ChangeShapes Go.WideShapes Go.ChangeAt Go.RowKit Go.Deep Go.Joins
open Abs (V AV VRs VR)
def Ho(TM:Td (Nat×Ty))(t:Nat)(T:Ty):Bool:=TM.any λp=>Nat.beq p.1 t&&decide (p.2=T)
theorem FY{TM:Td (Nat×Ty)}{t:Nat}{T:Ty}(h:Ho TM t T=true):(t,T)∈TM:=by
 obtain⟨p,h1,h2⟩:=List.any_eq_true.1 h;rw[bA]at h2;have e1:=OL h2.1;have e2:=ON h2.2;rw[<-e1,<-e2];exact h1
noncomputable def mo(P:Program)(TM:Td (Nat×Ty)):Td Field->Td Ty->Nat->Bool
 |[],[],_=>true
 |f::d,T::h,off=>Nat.beq f.offset off&&Nat.beq (P.cellsOf f.type) (szT T)&&Ho TM f.type T&&mo P TM d h (off+szT T)
 |_,_,_=>false
def Gu:Td Ty->Nat
 |[]=>0
 |T::d=>szT T+Gu d
noncomputable def qD(P:Program)(TM:Td (Nat×Ty))(t:Nat):Ty->Bool
 | .i=>match P.underlying t with|some (.int .i64)=>true|_=>false
 | .b=>match P.underlying t with|some .bool=>true|_=>false
 | .s=>match P.underlying t with|some .string=>true|_=>false
 | .u=>match P.underlying t with|some (.int .u8)=>true|_=>false
 | .sl T=>match P.underlying t with
  |some (.slice e)=>Nat.beq (P.cellsOf e) (szT T)&&Nat.blt 0 (szT T)&&Ho TM e T
  |_=>false
 | .n k=>match P.underlying t with
  |some (.struct d)=>Nat.beq (P.cellsOf t) (Gu (Na k))&&Nat.blt 0 (szT (.n k))&&mo P TM d.toList (Na k) 0
  |_=>false
def TMOK(P:Program)(TM:Td (Nat×Ty)):Prop:=∀p∈TM,qD P TM p.1 p.2=true
def Kz(w:World)(T:Ty)(cs:Td Value):Prop:=∃(d:I T)(vs:Td V),FRs (aC T d) vs/\VRs [] (λb=>b<w.heap.size) w vs cs
theorem uW{w:World}{T:Ty}{d:I T}{c:C}{v:V}{u:Value}(he:aC T d=[c])(h:FR c v)(t:VR (λb=>b<w.heap.size) w [] v u):Kz w T [u]:=
 ⟨d, [v],by rw[he];exact⟨rfl,fun j h1 h2=>by
  have:j=0:=QM
  subst this;exact h⟩,⟨rfl,λj y=>by
  have:j=0:=by simp at y;omega
  subst this;exact⟨u,rfl,t⟩⟩⟩
section
variable {H : Type} {enc : TypeId × Value → H} {P : Program} {w : World} {base : Nat} {spare : Nat → Bool} {held : Bool} {TM : Td (Nat × Ty)}
theorem qA{C:Nat}{cs:Td Value}{xs:Td (DataW H×Td MemPlace)}(D:∀t T cs x,Ho TM t T=true->DataW.trod enc P w base spare held C t cs=some x->Kz w T cs):∀{v:Td Field}{y:Td Ty}{off k:Nat},mo P TM v y off=true->cs.length=off+Gu y->xs.length=k+v.length->
  (∀(i:Nat)(f:Field),v[i]?=some f->DataW.trod enc P w base spare held C f.type ((cs.drop f.offset).take (P.cellsOf f.type))=xs[k+i]?)->
  ∃A vs,Flds y A/\FRs A vs/\VRs [] (λb=>b<w.heap.size) w vs (cs.drop off)
 | [], [],off,k,_,hl,_,_=>⟨[],[],.nil,⟨rfl,fun j h=>F1⟩,by
   rw[Pt (by simp[Gu]at hl;omega)];exact⟨rfl,λj h=>F1⟩⟩
 | f::v,T::y,off,k,h,hl,F,E=>by
  simp only[mo,bA]at h;obtain⟨⟨⟨h1,h2⟩,G⟩,h4⟩:=h;have h1:=OL h1;have h2:=OL h2;have B:=E 0 f rfl;simp only[OP]at F;simp only[Gu]at hl;rw[PF,O0 A0]at B;rw[h1,h2]at B;obtain⟨d,vs,I,J⟩:=D f.type T _ _ G B;obtain⟨A,us,b1,b2,b3⟩:=qA (cs:=cs) (xs:=xs) D (k:=k+1) h4 A0 A0 (λi g K=>by rw[E (i+1) g (by simpa using K)];congr 1;omega);refine⟨aC T d++A,vs++us,.cons d b1,I.app b2,?_⟩;have e1:cs.drop off=(cs.drop off).take (szT T)++cs.drop (off+szT T):=by rw[<-Qi,PB]
  rw[e1];exact J.append b3
 |[],_::_,_,_,h,_,_,_=>by simp[mo]at h
 |_::_,[],_,_,h,_,_,_=>by simp[mo]at h
theorem KS(K:TMOK P TM):∀(G:Nat)(t:Nat)(T:Ty)(cs:Td Value)(x:DataW H×Td MemPlace),Ho TM t T=true->DataW.trod enc P w base spare held G t cs=some x->Kz w T cs:=by
 intro G
 induction G using Nat.strongRecOn with
 | ind G S=>
  intro t T cs x hm h;have hs:=K _ (FY hm);simp only at hs;cases T with
  | i=>
   simp only[qD]at hs;split at hs
   .rename_i B;obtain⟨n,rfl,_,wf⟩:=DataW.trod_int B h;exact uW (T:=.i) (d:=n) rfl .i (.lit wf)
   .cases hs
  | b=>
   simp only[qD]at hs;split at hs
   .rename_i B;obtain⟨b,rfl,_⟩:=DataW.trod_bool B h;exact uW (T:=.b) (d:=b) rfl .b (.lit trivial)
   .cases hs
  | s=>
   simp only[qD]at hs;split at hs
   .rename_i B;obtain⟨s,rfl,_,wf⟩:=DataW.trod_string B h;exact uW (T:=.s) (d:=s) rfl .s (.lit wf)
   .cases hs
  | u=>
   simp only[qD]at hs;split at hs
   .rename_i B;obtain⟨n,rfl,_,wf⟩:=DataW.trod_int B h;exact uW (T:=.u) (d:=n) rfl .k (.lit wf)
   .cases hs
  | sl T=>
   simp only[qD]at hs;split at hs
   .rename_i e B;simp only[bA]at hs;obtain⟨⟨h1,h2⟩,L⟩:=hs;have h1:=OL h1;have h2:0<szT T:=by simpa [Ps]using h2
    obtain⟨v,rfl⟩:∃v,cs=[v]:=by
     rcases DataW.trod_slice B h with⟨hc,_⟩|⟨a,len,cap,eA,rest,n,_,hc,_⟩
     .exact⟨_,hc⟩
     .exact⟨_,hc⟩
    obtain⟨A,len,cap,rfl,g1,U,g3⟩:=zI B h1 h2 h;rcases Qd len with rfl|hp
    .exact uW (T:=.sl T) (d:=[]) rfl (FR.fj h2) (.eE U)
    .obtain⟨b,off,n,rfl,rfl,g4⟩:=g3 hp;have key:∀i,i<len->∃q:I T×Td V×Td Value,FRs (aC T q.1) q.2.1/\VRs [] (λb=>b<w.heap.size) w q.2.1 q.2.2/\q.2.2.length=szT T/\∀j,j<szT T->w.cell? ⟨b,off+(i*szT T+j),none⟩=q.2.2[j]? :=λi hi=>by
      obtain⟨cs,y,k1,Y,Z⟩:=g4 i hi;obtain⟨d,vs,k4,k5⟩:=S n A0 e T cs y L Z;exact⟨(d,vs,cs),k4,k5,k1,Y⟩
     have:Inhabited (I T×Td V×Td Value):=⟨Classical.choose (key 0 hp)⟩;obtain⟨F,hF⟩:=choose_lt (α:=I T×Td V×Td Value) (n:=len) (p:=λi q=>FRs (aC T q.1) q.2.1/\VRs [] (λb=>b<w.heap.size) w q.2.1 q.2.2/\q.2.2.length=szT T/\∀j,j<szT T->w.cell? ⟨b,off+(i*szT T+j),none⟩=q.2.2[j]?) key;have hb:b<w.heap.size:=by
      obtain⟨_,_,C,f4⟩:=hF 0 hp;have:=f4 0 h2;rw[O0 A0]at this;rcases Pq b w.heap.size with h|h
      .exact h
      .simp[World.cell?,Pu h]at this
     have D:∀i,i<len->(F i).2.1.length=szT T:=λi hi=>by
      obtain⟨_,J,C,_⟩:=hF i hi;rw[<-J.1,C]
     have M:FR (.l T ((List.range len).map λi=>(F i).1)) (.imm (szT T) ((List.range len).map λi=>(F i).2.1)):=by
      refine .l h2 A1 (λe he=> ?_) (λm m1 m2 j W X=> ?_)
      .obtain⟨i,hi,rfl⟩:=List.mem_map.1 he;exact D i Rx
      .have hm:m<len:=by simpa using m1
       simp only[P5,List.getElem_range]at W X ⊢;exact(hF m hm).1.2 j W X
     have N:VR (λb=>b<w.heap.size) w [] (.imm (szT T) ((List.range len).map λi=>(F i).2.1)) (.slice (some ⟨b,off,none⟩) len cap):=by
      have hl:((List.range len).map λi=>(F i).2.1).length=len:=A1
      have:=VR.imm (I:=λb=>b<w.heap.size) (w:=w) (ι:=[]) (s:=szT T) (b:=b) (off:=off) (c:=cap) (es:=(List.range len).map λi=>(F i).2.1) (f:=λk j=>(F k).2.2.getD j undef) (λe he=>by
       obtain⟨i,hi,rfl⟩:=List.mem_map.1 he;exact D i Rx) (by rw[hl];exact g1) U hb (λk j hk E=>by
       rw[hl]at hk;obtain⟨_,J,C,f4⟩:=hF k hk;rw[f4 j E,O0 A0];simp[List.getD,C,E]) (λk hk j E=>by
       have O:k<len:=by simpa using hk
       simp only[P5,List.getElem_range]at E ⊢;obtain⟨_,J,C,_⟩:=hF k O;obtain⟨u,u1,u2⟩:=J.2 j E;have:(F k).2.2.getD j undef=u:=by simp[List.getD,u1]
       rw[this];exact u2)
      rw[hl]at this;exact this (.inr λh=>h.elim)
     exact uW (T:=.sl T) (d:=(List.range len).map λi=>(F i).1) rfl M N
   .cases hs
  | n k=>
   simp only[qD]at hs;split at hs
   .rename_i fs B;simp only[bA]at hs;obtain⟨⟨h1,h2⟩,L⟩:=hs;have h1:=OL h1;have h2:0<szT (.n k):=by simpa [Ps]using h2
    obtain⟨xs,n,rfl,_,Q,R,hf⟩:=DataW.trod_struct B h;obtain⟨ds,vs,a1,a2,a3⟩:=qA (cs:=cs) (xs:=xs) (k:=0) (λt T cs x=>S n A0 t T cs x) L (by rw[Q,h1];omega) (by simpa using R) (λi f hi=>by rw[Pp];exact hf i f Rx);obtain⟨d,rfl⟩:=KY k ds h2 a1;exact⟨d,vs,a2,by simpa using a3⟩
   .cases hs
end
section
variable {w:World}{avs:Td AV}
theorem EE{P:Program}{f:FuncId}{xs:Td AT}(hc:CFn P f xs [] (.one (.b true)) [])(d:Abs.GV w){vs:Array Value}(j:cL [] [] xs avs)(hA:Abs.ARs [] (λb=>b<w.heap.size) w avs vs):
  Calls P f vs w λe w'=>e= .returned (.bool true)/\Below w.heap.size w w':=by
 have hF:=hc [] [] avs HpR.fj j;refine(hF.2 w (λb=>b<w.heap.size) [] vs ⟨d,Abs.lM 0⟩ (Abs.HR.nil _ w λ_ _ _ h=>h.elim) (λ_ h=>h) hA).mono ?_;rintro e w' ⟨r,h',ι',A,c,⟨ρ',t,_,_⟩,rfl,D⟩;obtain⟨u,rfl,v⟩:=t.bi;have e1:=v.bool;subst e1;have:=D.res.bool;subst this;exact⟨rfl,⟨D.os,D.tape,D.output,D.grown,λb y=>D.frame b y (Abs.lM b)⟩⟩
theorem Ki:Abs.ARs [] (λb=>b<w.heap.size) w [] #[]:=⟨rfl,λj h=>F1⟩
theorem FH{d:AV}{v:Value}{vs:Td Value}(h:Abs.AR [] (λb=>b<w.heap.size) w d v)(k:Abs.ARs [] (λb=>b<w.heap.size) w avs vs.toArray):Abs.ARs [] (λb=>b<w.heap.size) w (d::avs) (v::vs).toArray:=by
 refine⟨by have:=k.1;simpa using this,λj t=> ?_⟩;cases j with
 |zero=>exact⟨v,A1,h⟩
 | succ j=>
  obtain⟨c,c1,c2⟩:=k.2 j QD;exact⟨c,by simpa using c1,c2⟩
end
end
section
open Go.RowKit
section
variable {B α:Type}
noncomputable def pick{A:Type}(Q:A->B->Prop)(a:A):Y B:=open Classical in if h:∃b,Q a b then some (Classical.choose h)else none
theorem mB{A:Type}{Q:A->B->Prop}{a:A}{b:B}(h:pick Q a=some b):Q a b:=by
 unfold pick at h;split at h
 .rename_i d;cases h;exact Classical.choose_spec d
 .cases h
theorem rh{A:Type}{Q:A->B->Prop}{a:A}{b:B}(h:Q a b):∃b,pick Q a=some b/\Q a b:=by
 have d:∃b,Q a b:=⟨b,h⟩;refine⟨Classical.choose d,?_,Classical.choose_spec d⟩;unfold pick;rw[dif_pos d]
theorem rc{A:Type}{P:A->Prop}{D:A->B->Prop}{E:(A->Y B)->Prop}{iR:A->B->Prop}(d:∀g,(∀a b,g a=some b->D a b)->E g)(h:∀a,P a->∃b,D a b/\iR a b):∃g,E g/\∀a,P a->∃b,g a=some b/\iR a b:=
 ⟨pick λa b=>D a b/\iR a b,d _ λ_ _ h=>(mB h).1,λa j=>let⟨_,t⟩:=h a j;let⟨b,h1,h2⟩:=rh (Q:=λa b=>D a b/\iR a b) t;⟨b,h1,h2.2⟩⟩
theorem oi{A j:Type}{P:A->j->Prop}{D:A->j->B->Prop}{E:(A->j->Y B)->Prop}{iR:A->j->B->Prop}(t:∀g,(∀a d b,g a d=some b->D a d b)->E g)(h:∀a d,P a d->∃b,D a d b/\iR a d b):∃g,E g/\∀a d,P a d->∃b,g a d=some b/\iR a d b:=
 ⟨λa d=>pick (λ(x:A×j) b=>D x.1 x.2 b/\iR x.1 x.2 b) (a,d),t _ λ_ _ _ h=>(mB h).1,λa d v=>let⟨_,w⟩:=h a d v;let⟨b,h1,h2⟩:=rh (Q:=λ(x:A×j) b=>D x.1 x.2 b/\iR x.1 x.2 b) (a:=(a,d)) w;⟨b,h1,h2.2⟩⟩
theorem aX{x:Int}(h: -9223372036854775808<=x/\x<=9223372036854775807):wr x=x:=Abs.ku h.1 h.2
theorem uF{xs:Td α}{i:Int}(h0:0<=i)(h1:i<xs.length):∃x,ix xs i=some x/\xs[i.toNat]? =some x:=by
 have d:i.toNat<xs.length:=A0
 exact⟨xs[i.toNat],by simp[ix,h0,d],O0 d⟩
theorem ix_nat{xs:Td α}{k:Nat}:ix xs (k:Int)=xs[k]? :=by simp[ix]
theorem Iq{xs:Td α}(h:xs.length<=4294967296):lim xs=some xs:=by unfold lim;rw[Nat.ble_eq_true_of_le h];rfl
theorem HV{xs:Td α}{lo hi:Int}(h0:0<=lo)(h1:lo<=hi)(h2:hi<=xs.length):sub xs lo hi=some ((xs.take hi.toNat).drop lo.toNat):=by simp[sub,h0,h1,h2]
theorem wm(x:Int):0<=Abs.bz .and .i64 x 255/\Abs.bz .and .i64 x 255<=255:=by
 have h1:(BitVec.ofInt IntKind.i64.bits x&&&BitVec.ofInt IntKind.i64.bits 255).toNat<=255:=by
  rw[BitVec.toNat_and];exact P3 Nat.and_le_right A3
 simp only[Abs.bz];rw[Abs.ku A0 A0];omega
@[simp] theorem Cur.eta (c : Cur) : Cur.mk c.b c.i c.h = c := rfl
end
open Abs (V AV)
def FitC(c:C):Prop:=∃(I:Nat->Prop)(w:World)(v:V)(u:Value),FR c v/\Abs.VR I w [] v u
def Fit(T:Ty)(d:I T):Prop:=∀c∈aC T d,FitC c
theorem Mu{T:Ty}{d:I T}{t:Nat->Prop}{w:World}{vs:Td V}{cs:Td Value}(h1:FRs (aC T d) vs)(h2:Abs.VRs [] t w vs cs):Fit T d:=λc hc=>by
 obtain⟨j,v,rfl⟩:=Pw hc;have h:j<vs.length:=by rw[<-h1.1];exact v
 obtain⟨u,_,y⟩:=h2.2 j h;exact⟨t,w,_,u,h1.2 j v h,y⟩
def wS{A:Type}(f:A->Nat)(xs:Td A):Nat:=(xs.map f).sum
theorem Mc{A:Type}{f:A->Nat}{xs:Td A}{x:A}(h:x∈xs):f x<=wS f xs:=by
 unfold wS
 induction xs with
 |nil=>simp at h
 | cons y xs d=>
  rw[Pz,List.sum_cons];rcases List.mem_cons.1 h with rfl|h
  .omega
  .have:=d h;omega
theorem hZ{A:Type}{f:A->Nat}{x:A}{xs:Td A}:wS f (x::xs)=f x+wS f xs:=by simp[wS]
section
variable {i:Int}
theorem gz{A:Type}{a:Td A}(h0:0<=i)(h1:i<a.length):∃x,ix a i=some x/\x∈a/\a.drop i.toNat=x::a.drop (i+1).toNat/\a[i.toNat]? =some x:=by
 have d:i.toNat<a.length:=A0
 refine⟨a[i.toNat],by simp[ix,h0,d],gM d,?_,O0 d⟩;rw[Q7 d]
 congr 2
 omega
theorem lw{A:Type}{a:Td A}(h:¬i<a.length):a.drop i.toNat=[]:=Pt A0
theorem IH{A:Type}{a:Td A}(h0:0<=i)(h1:i<a.length):∃x,ix a i=some x:=⟨_,(gz h0 h1).choose_spec.1⟩
theorem GG{A:Type}{a h:Td A}{x:A}(h0:0<=i)(t:i<a.length)(hl:h.length=a.length)(v:h.take i.toNat=a.take i.toNat)(d:a[i.toNat]? =some x):(h.set i.toNat x).length=a.length/\(h.set i.toNat x).take (i+1).toNat=a.take (i+1).toNat:=by
 refine⟨by simp[hl],?_⟩;have e:(i+1).toNat=i.toNat+1:=A0
 obtain⟨j,d⟩:=gI.1 d;rw[e,PE A4,PE j,List.take_set_of_le (O3 _),v];simp[d]
theorem D9{A:Type}{a h:Td A}(h1:¬i<a.length)(hl:h.length=a.length)(d:h.take i.toNat=a.take i.toNat):h=a:=by
 rw[Pv A0,Pv A0]at d;exact d
theorem LU{A:Type}{x:A}{n:Nat}(h:n<=4294967296):mk x (n:Int)=some (List.replicate n x):=by
 unfold mk;have:(decide ((0:Int)<=n)&&decide ((n:Int)<=4294967296))=true:=A4
 rw[this];simp
end
end
section
open Go.RowKit
open Abs (V AV VRs VR)
theorem w6{w:World}{T:Ty}{v:Value}(hl:Kz w T v.cells.toList)(h:v.cells= #[v]){c:I T->C}(j:∀d:I T,aC T d=[c d]):∃(d:I T)(x:V),Fit T d/\ATR [] [] (.one (c d)) (.one x)/\Abs.AR [] (λb=>b<w.heap.size) w (.one x) v:=by
 obtain⟨d,vs,h1,h2⟩:=hl;have t:=Mu h1 h2;rw[j d]at h1;rw[h]at h2;have bF:=h2.1
 match vs,h1,h2,bF with
 | [x],h1,h2,_=>
  obtain⟨u,u1,u2⟩:=h2.2 0 A1;simp at u1;subst u1;exact⟨d,x,t,.one (.fl (h1.2 0 A1 A1)),.one u2⟩
theorem bY{ρ:Rho}{H:Td Ob}:cL ρ H [] []:=⟨rfl,λj h=>F1⟩
theorem aP{ρ:Rho}{H:Td Ob}{x:AT}{xs:Td AT}{a:AV}{d:Td AV}(h:ATR ρ H x a)(k:cL ρ H xs d):cL ρ H (x::xs) (a::d):=by
 refine⟨by have:=k.1;simpa using this,λj h1 h2=> ?_⟩;cases j with
 |zero=>exact h
 |succ j=>exact k.2 j Hd Hm
end
section
open Go.RowKit
set_option maxRecDepth 100000
set_option linter.unusedVariables false
noncomputable section
namespace z3d
structure Gs where
 none_:Unit
def ents(_:Gs):Td Ent:=[]
def b3{R:Type}(G:Gs)(n:Nat)(code:LI)(h i:Int)(j:LI->Int->Int->Y R)(d:LI->Int->Y R):Y R:=bif decide (i<(List.length code:Int))then(bif decide (i<4000)then((ix code i).bind λe=>j code (Abs.bz .and .i64 (wr ((wr ((wr (h*131))+e))+7)) 1073741823) (wr (i+1)))else d code h)else d code h
variable{R:Type}(G:Gs)(n:Nat)
def l3(m:Nat)(code:LI)(h i:Int)(d:LI->Int->Y R):Y R:=aY (λ(v:LI×Int×Int) j=>b3 G n v.1 v.2.1 v.2.2 (λt w y=>j (t,w,y)) d) m (code,h,i)
def aq(code:LI)(K:Cur->Y R):Y R:=l3 G n n code (wr (124929+(List.length code:Int))) 0 (λd h=>K (Cur.mk d 0 h))
def dl3(m:Nat):=rS [0,3,4] [.x (.l .u),Tx,Tx] [] λR K code h i=>l3 G n m code h i (λcode h=>K (.exit 0) ⟨[(0,.one (.l .u code)),(3,Tv h)],[]⟩)
def pc:Pcs:=⟨Tl 3 (dl3 G n n) nK,nK,nK⟩
def an:Ann:=⟨32,0,[(3,[0,3,4])],[],[2],[],[]⟩
abbrev bd:=aK Tryz.f28
theorem ok{G:Gs}(d:ap (ents G)){g:Q}(h:∀code r,g code=some r->∃n,aq (R:=AT×Td Ob) G n code (λr0=>some (TF,Tt r0))=some (TF,Tt r)):aj (ent g):=okQ λ_ _ _ _ hc=>Tk hc (h _) λn _ j=>fR d an (pc G n) Tryz.func28 j (apl [(1,3,.loop (Tj 116 bd))] ⟨Tf d n (dl3 G n) rfl (pc G n) ⟨[0,3],[2],[(0,[0,3])]⟩,Th⟩)
end z3d
namespace z36
structure Gs where
 none_:Unit
def aq{R:Type}(G:Gs)(n:Nat)(c:Cur)(K:Int->Cur->Y R):Y R:=(bif decide (0<=33)then some (Abs.bz .shr .i64 (wr ((wr ((Cur.h c)*6364136223846793005))+1442695040888963407)) 33)else none).bind λq2=>(bif decide (0<=45)then some (Abs.bz .shr .i64 (wr ((wr ((Cur.h c)*6364136223846793005))+1442695040888963407)) 45)else none).bind λq4=>bif decide ((Cur.i c)<(List.length (Cur.b c):Int))then((ix (Cur.b c) (Cur.i c)).bind λe2=>K (Abs.bz .and .i64 (wr ((Abs.bz .and .i64 (Abs.bz .xor .i64 q2 q4) 255)+e2)) 255) (Cur.mk (Cur.b c) (wr ((Cur.i c)+1)) (wr ((wr ((Cur.h c)*6364136223846793005))+1442695040888963407))))else K (Abs.bz .and .i64 (Abs.bz .xor .i64 q2 q4) 255) (Cur.mk (Cur.b c) (Cur.i c) (wr ((wr ((Cur.h c)*6364136223846793005))+1442695040888963407)))
theorem ok{G:Gs}(h:ap []){g:Q}(t:∀c r,g c=some r->∃n,aq G n c Vv=Vv r.1 r.2):aj (ent g):=okQ λ_ _ _ _ _ _ hc=>Tk hc (t _) λ_ _ j=>fF h ⟨58,1,[],[],[2],[(2,⟨[(Te 13,[],[])],[],[],[0],[]⟩),(3,⟨[(Te 10,[],[])],[],[],[0],[]⟩),(4,⟨[(Te 15,[],[])],[],[],[0],[]⟩)],[]⟩ nP Tryz.func80 j
end z36
namespace z35
structure Gs where
 z36:z36.Q
def aq{R:Type}(G:Gs)(n:Nat)(c:Cur)(d:Int)(K:Int->Cur->Y R):Y R:=bif decide (d<=0)then(K 0 c)else bif decide (d<=256)then((G.z36 c).bind λr=>(bif decide (0<=r.1)&&decide (0<d)then some (r.1%d)else none).bind λq=>K q r.2)else(G.z36 c).bind λh=>(G.z36 h.2).bind λj=>(G.z36 j.2).bind λt=>(G.z36 t.2).bind λv=>(bif decide (0<=(wr ((wr ((wr ((wr (h.1*16777216))+(wr (j.1*65536))))+(wr (t.1*256))))+v.1)))&&decide (0<d)then some ((wr ((wr ((wr ((wr (h.1*16777216))+(wr (j.1*65536))))+(wr (t.1*256))))+v.1))%d)else none).bind λq2=>K q2 v.2
theorem ok{G:Gs}(t:ap [z36.ent G.z36]){g:Q}(v:∀c h r,g c h=some r->∃n,aq G n c h Vv=Vv r.1 r.2):aj (ent g):=okQ λ_ _ _ _ _ _ _ hc=>Tk hc (v _ _) λ_ _ j=>fF t ⟨37,1,[],[],[4],[],[]⟩ nP Tryz.func50 j
end z35
namespace z3e
structure Gs where
 z35:z35.Q
def aq{R:Type}(G:Gs)(n:Nat)(c:Cur)(d:Int)(K:Bool->Cur->Y R):Y R:=(G.z35 c d).bind λr=>K (decide (r.1=0)) r.2
theorem ok{G:Gs}(t:ap [z35.ent G.z35]){g:Q}(v:∀c h r,g c h=some r->∃n,aq (R:=AT×Td Ob) G n c h (λr0 d=>some (Tp r0,Tt d))=some (Tp r.1,Tt r.2)):aj (ent g):=okQ λ_ _ _ _ _ _ _ hc=>Tk hc (v _ _) λ_ _ j=>fF t ⟨9,1,[],[],[4],[],[]⟩ nP Tryz.func115 j
end z3e
namespace z3f
structure Gs where
 z35:z35.Q
def aq{R:Type}(G:Gs)(n:Nat)(c:Cur)(list:LB)(K:Z->Cur->Y R):Y R:=(G.z35 c (List.length list:Int)).bind λr=>(ix list r.1).bind λe=>K e r.2
theorem ok{G:Gs}(h:ap [z35.ent G.z35]){g:Q}(t:∀c list r,g c list=some r->∃n,aq (R:=AT×Td Ob) G n c list (λr0 d=>some (Ud r0,Tt d))=some (Ud r.1,Tt r.2)):aj (ent g):=okQ λ_ _ _ _ _ _ _ hc=>Tk hc (t _ _) λ_ _ j=>fF h ⟨12,1,[],[],[4],[],[]⟩ nP Tryz.func144 j
end z3f
end
end
section
open Go.RowKit
section
variable {t w y B:Type}{gL:Cur->Int->Y (Int×Cur)}
theorem xV{v:Type}{P:t->v->w->y->Prop}{D:t->v->w->y->B->Prop}{E:(t->v->w->y->Y B)->Prop}{iR:t->v->w->y->B->Prop}(A:∀g,(∀a0 d j a3 b,g a0 d j a3=some b->D a0 d j a3 b)->E g)(h:∀a0 d j a3,P a0 d j a3->∃b,D a0 d j a3 b/\iR a0 d j a3 b):∃g,E g/\∀a0 d j a3,P a0 d j a3->∃b,g a0 d j a3=some b/\iR a0 d j a3 b:=
 ⟨λa0 d j a3=>pick (λ(x:t×v×w×y) b=>D x.1 x.2.1 x.2.2.1 x.2.2.2 b/\iR x.1 x.2.1 x.2.2.1 x.2.2.2 b) (a0,d,j,a3),A _ λ_ _ _ _ _ h=>(mB h).1,λa0 d j a3 C=>let⟨_,F⟩:=h a0 d j a3 C;let⟨b,h1,h2⟩:=rh (Q:=λ(x:t×v×w×y) b=>D x.1 x.2.1 x.2.2.1 x.2.2.2 b/\iR x.1 x.2.1 x.2.2.1 x.2.2.2 b) (a:=(a0,d,j,a3)) F;⟨b,h1,h2.2⟩⟩
theorem xm{v A:Type}{P:t->v->w->y->A->Prop}{D:t->v->w->y->A->B->Prop}{E:(t->v->w->y->A->Y B)->Prop}{iR:t->v->w->y->A->B->Prop}(C:∀g,(∀a0 d j a3 a4 b,g a0 d j a3 a4=some b->D a0 d j a3 a4 b)->E g)(h:∀a0 d j a3 a4,P a0 d j a3 a4->∃b,D a0 d j a3 a4 b/\iR a0 d j a3 a4 b):∃g,E g/\∀a0 d j a3 a4,P a0 d j a3 a4->∃b,g a0 d j a3 a4=some b/\iR a0 d j a3 a4 b:=
 ⟨λa0 d j a3 a4=>pick (λ(x:t×v×w×y×A) b=>D x.1 x.2.1 x.2.2.1 x.2.2.2.1 x.2.2.2.2 b/\iR x.1 x.2.1 x.2.2.1 x.2.2.2.1 x.2.2.2.2 b) (a0,d,j,a3,a4),C _ λ_ _ _ _ _ _ h=>(mB h).1,λa0 d j a3 a4 F=>let⟨_,G⟩:=h a0 d j a3 a4 F;let⟨b,h1,h2⟩:=rh (Q:=λ(x:t×v×w×y×A) b=>D x.1 x.2.1 x.2.2.1 x.2.2.2.1 x.2.2.2.2 b/\iR x.1 x.2.1 x.2.2.1 x.2.2.2.1 x.2.2.2.2 b) (a:=(a0,d,j,a3,a4)) G;⟨b,h1,h2.2⟩⟩
def Inv(c:Cur):Prop:=0<=c.i/\c.i<=c.b.length/\c.b.length<=1099511627776
theorem Da(c:Cur)(hc:Inv c):∃x c',(∀(R:Type)(K:Int->Cur->Y R),z36.aq ⟨()⟩ 1 c K=K x c')/\0<=x/\x<=255/\Inv c':=by
 obtain⟨h0,h1,h2⟩:=hc;by_cases d:c.i<c.b.length
 .obtain⟨e,he,_⟩:=uF h0 d;refine⟨_,_,λR K=>by simp only[z36.aq,d,he,decide_true,cT,bS];rfl,(wm _).1,(wm _).2,?_⟩;refine⟨?_,?_,h2⟩<;>simp only<;>rw[aX A0]<;>omega
 .refine⟨_,_,λR K=>by simp only[z36.aq,d,decide_false,cF];rfl,(wm _).1,(wm _).2,?_⟩;exact⟨h0,h1,h2⟩
def LL(g:Cur->Y (Int×Cur)):Prop:=∀c,Inv c->∃r,g c=some r/\(0<=r.1/\r.1<=255/\Inv r.2)
theorem Jb:∃g,aj (z36.ent g)/\LL g:=rc (λg d=>z36.ok (G:=⟨()⟩) trivial d) λc hc=>
 let⟨x,c',h1,h2⟩:=Da c hc
 ⟨(x,c'),⟨1,h1 _ _⟩,h2⟩
def dS(g:Cur->Int->Y (Int×Cur)):Prop:=∀c n,(Inv c/\n<=256)->∃r,g c n=some r/\(0<=r.1/\(0<n->r.1<n)/\r.1<=255/\Inv r.2)
theorem Iw{gB:Cur->Y (Int×Cur)}(d:aj (z36.ent gB))(j:LL gB):∃g,aj (z35.ent g)/\dS g:=
 oi   (λg t=>z35.ok (G:=⟨gB⟩) ⟨d,trivial⟩ t) λc n ⟨hc,v⟩=>by
  by_cases h0:n<=0
  .exact⟨(0,c),⟨1,by simp[z35.aq,h0]⟩,A1,λh=>A0,A1,hc⟩
  .obtain⟨r,e,h1,h2,w⟩:=j c hc;have hp:0<n:=A0
   have hm:r.1%n<=r.1:=by
    rcases Int.lt_or_le r.1 n with h|h
    .rw[Int.emod_eq_of_lt h1 h];exact Q1 _
    .exact Int.le_trans (Qa (Int.emod_lt_of_pos _ hp)) h
   exact⟨(r.1%n,r.2),⟨1,by simp[z35.aq,h0,v,e,h1,hp]⟩,Int.emod_nonneg _ A0,λ_=>Int.emod_lt_of_pos _ hp,Int.le_trans hm h2,w⟩
def fO(g:Cur->Int->Y (Bool×Cur)):Prop:=∀c n,(Inv c/\n<=256)->∃r,g c n=some r/\Inv r.2
theorem J3(d:aj (z35.ent gL))(h:dS gL):∃g,aj (z3e.ent g)/\fO g:=
 oi (λg j=>z3e.ok (G:=⟨gL⟩) ⟨d,trivial⟩ j) λc n hc=>by
  obtain⟨r,e,_,_,_,t⟩:=h c n hc;exact⟨(decide (r.1=0),r.2),⟨1,by simp[z3e.aq,e]⟩,t⟩
def NewP(g:Td Int->Y Cur):Prop:=∀code,code.length<=1048576->∃c,g code=some c/\Inv c
theorem Ht{R:Type}(G:z3d.Gs)(n:Nat)(code:Td Int)(hl:code.length<=1048576)(k:Td Int->Int->Y R):∀m (h i:Int),0<=i->i<=code.length->(code.length-i).toNat<m->∃h',z3d.l3 G n m code h i k=k code h':=by
 intro m
 induction m with
 |zero=>intro h i _ _ hm;omega
 | succ m d=>
  intro h i h0 h1 hm;show ∃h',z3d.b3 G n code h i (λj t v=>z3d.l3 G n m j t v k) k=k code h';unfold z3d.b3;by_cases hi:i<code.length
  .by_cases h4:i<4000
   .obtain⟨e,he,_⟩:=uF h0 hi;simp only[hi,h4,decide_true,cT,he,bS];rw[aX (x:=i+1) A0];exact d _ (i+1) A0 A0 A0
   .exact⟨h,by simp[hi,h4]⟩
  .exact⟨h,by simp[hi]⟩
theorem MP:∃g,aj (z3d.ent g)/\NewP g:=rc (λg j=>z3d.ok (G:=⟨()⟩) trivial j) λcode hl=>by
 obtain⟨h',t⟩:=Ht ⟨()⟩ (code.length+1) code hl (λd h=>some (AT.one (.p 0 0),[Ob.box (aC (.n 12) (Cur.mk d 0 h))])) (code.length+1) (wr (124929+(List.length code:Int))) 0 A0 A0 A0;exact⟨Cur.mk code 0 h',⟨code.length+1,t⟩,A1,A1,A4⟩
def H5(g:Cur->Td Z->Y (Z×Cur)):Prop:=∀c l,(Inv c/\0<l.length/\l.length<=256)->∃r,g c l=some r/\(r.1∈l/\Inv r.2)
theorem Eo(h:aj (z35.ent gL))(j:dS gL):∃g,aj (z3f.ent g)/\H5 g:=
 oi (λg t=>z3f.ok (G:=⟨gL⟩) ⟨h,trivial⟩ t) λc l ⟨hc,h0,h1⟩=>by
  obtain⟨r,e1,e2,e3,w,v⟩:=j c (l.length:Int) ⟨hc,A0⟩;have d:r.1.toNat<l.length:=by have:=e3 A0;omega
  refine⟨(l[r.1.toNat],r.2),⟨1,?_⟩,gM _,v⟩;unfold z3f.aq;dsimp only;rw[e1,bS,show ix l r.1=some l[r.1.toNat]from by
   unfold ix;rw[dT A0,cT];exact O0 d]
  rfl
end
set_option maxRecDepth 100000
set_option linter.unusedVariables false
noncomputable section
namespace z3b
structure Gs where
 none_:Unit
def aq{R:Type}(G:Gs)(n:Nat)(a b:Int)(K:Int->Y R):Y R:=bif decide (b<a)then(K a)else K b
theorem ok{G:Gs}(d:ap []){g:Q}(h:∀a b r,g a b=some r->∃n,aq G n a b Vo=Vo r):aj (ent g):=okQ λ_ _ _ _ _ hc=>Tk hc (h _ _) λ_ _ j=>fF d ⟨10,0,[],[],[4],[],[]⟩ nP Tryz.func129 j
end z3b
namespace z3z
structure Gs where
 none_:Unit
def aq{R:Type}(G:Gs)(n:Nat)(ah:Z)(am:Int)(K:Tm->Y R):Y R:=K (Tm.mk (-1) ah am [])
theorem ok{G:Gs}(d:ap []){g:Q}(h:∀ah am r,g ah am=some r->∃n,aq G n ah am Vt=Vt r):aj (ent g):=okQ λ_ _ _ _ _ hc=>Tk hc (h _ _) λ_ _ j=>fF d ⟨8,0,[],[],[4],[],[]⟩ nP Tryz.func104 j
end z3z
namespace z2d
structure Gs where
 z2d:z2d.Q
def ents(G:Gs):Td Ent:=[ent G.z2d]
def b14{R:Type}(G:Gs)(n:Nat)(h0:Int)(v:Z)(w:Int)(d:LT)(h1:Int)(y:Z)(A:Int)(h:LT)(i:Int)(B C:Int->Y R)(k1:Y R):Y R:=bif decide (i<(List.length d:Int))then(bif decide (i<(List.length h:Int))then((ix d i).bind λe2=>(ix h i).bind λj=>(G.z2d (Tm.mk e2.op e2.ah e2.am e2.ae) (Tm.mk j.op j.ah j.am j.ae)).bind λt=>bif !decide (t=0)then(C t)else B (wr (i+1)))else k1)else k1
variable{R:Type}(G:Gs)(n:Nat)
def l14(m:Nat)(h0:Int)(d:Z)(h:Int)(j:LT)(h1:Int)(t:Z)(w:Int)(y:LT)(i:Int)(A:Int->Y R)(k1:Y R):Y R:=aY (λ(v:Int) B=>b14 G n h0 d h j h1 t w y v (λC=>B C) A k1) m i
def aq(a b:Tm)(K:Int->Y R):Y R:=bif !decide (a.op=b.op)then(bif decide (a.op<b.op)then(K (-1))else K 1)else bif !sEq a.ah b.ah then(bif Abs.fk a.ah b.ah then(K (-1))else K 1)else bif !decide (a.am=b.am)then(bif decide (a.am<b.am)then(K (-1))else K 1)else l14 G n n a.op a.ah a.am a.ae b.op b.ah b.am b.ae 0 (λt4=>K t4) (bif decide ((List.length a.ae:Int)<(List.length b.ae:Int))then(K (-1))else bif decide ((List.length b.ae:Int)<(List.length a.ae:Int))then(K 1)else K 0)
def GC(m:Nat):=rS [2,3,5] [Tw,TQ,Tx] [TJ,TJ] λR K i h0 d h j h1 t v w=>l14 G n m h0 d h j h1 t v w i (λt4=>K .ret ⟨[(4,Tv t4)],[]⟩) (K (.exit 0) ⟨[(2,TF),(3,TR)],[TC h0 d h j,TC h1 t v w]⟩)
def pc:Pcs:=⟨Tl 14 (GC G n n) nK,nK,nK⟩
def an:Ann:=⟨79,0,[(14,[2,3,5])],[],[4],[(16,⟨[(Te 12,[],[])],[],[],[0,1],[]⟩)],[]⟩
abbrev bd:=aK Tryz.f48
theorem ok{G:Gs}(d:ap (ents G)){g:Q}(h:∀a b r,g a b=some r->∃n,aq G n a b Vo=Vo r):aj (ent g):=okQ λ_ _ _ _ _ _ _ _ _ _ _ hc=>Tk hc (h _ _) λn _ j=>fF d an (pc G n) Tryz.func48 j (apl [(1,14,.loop (Tj 500 bd))] ⟨Tf d n (GC G n) rfl (pc G n) ⟨[2,3],[4],[(0,[2,3])]⟩,Th⟩)
end z2d
namespace z3y
structure Gs where
 z2d:z2d.Q
def aq{R:Type}(G:Gs)(n:Nat)(a b:Tm)(K:Bool->Y R):Y R:=(G.z2d (Tm.mk a.op a.ah a.am a.ae) (Tm.mk b.op b.ah b.am b.ae)).bind λr=>K (decide (r=0))
theorem ok{G:Gs}(d:ap [z2d.ent G.z2d]){g:Q}(h:∀a b r,g a b=some r->∃n,aq G n a b Vn=Vn r):aj (ent g):=okQ λ_ _ _ _ _ _ _ _ _ _ _ hc=>Tk hc (h _ _) λ_ _ j=>fF d ⟨9,0,[],[],[4],[],[]⟩ nP Tryz.func74 j
end z3y
namespace z3v
structure Gs where
 z3v:z3v.Q
def ents(G:Gs):Td Ent:=[ent G.z3v]
def b3{R:Type}(G:Gs)(n:Nat)(h0:Int)(v:Z)(w:Int)(d:LT)(h1:Int)(y:Z)(A:Int)(h2:LT)(F:Int)(B:Z)(C i:Int)(h4:LT)(D:Int->LT->Y R)(E:LT->Y R):Y R:=bif decide (i<(List.length d:Int))then((ix d i).bind λh=>(G.z3v (Tm.mk h.op h.ah h.am h.ae)).bind λj=>(lim (h4++[(Tm.mk j.op j.ah j.am j.ae)])).bind λt=>D (wr (i+1)) t)else E h4
variable{R:Type}(G:Gs)(n:Nat)
def l3(m:Nat)(h0:Int)(d:Z)(h:Int)(j:LT)(h1:Int)(t:Z)(w:Int)(h2:LT)(B:Int)(y:Z)(A i:Int)(h4:LT)(C:LT->Y R):Y R:=aY (λ(v:Int×LT) D=>b3 G n h0 d h j h1 t w h2 B y A v.1 v.2 (λE F=>D (E,F)) C) m (i,h4)
def aq(t:Tm)(K:Tm->Y R):Y R:=l3 G n n t.op t.ah t.am t.ae 0 ByteArray.empty 0 [] t.op t.ah t.am 0 [] (λd=>K (Tm.mk t.op t.ah t.am d))
def dl3(m:Nat):=rS [1,2,3,4] [Tw,TQ,Ul,Tx] [TJ,UB,TH,.b [.i,.s,.i,.o 4],TH] λR K i h0 v w y h1 d h h2 B j t h4=>l3 G n m h0 v w y h1 d h h2 B j t i h4 (λA=>K (.exit 0) ⟨[(2,TF),(3,Ua)],[.box [.i h1,.s d,.i h,.o 1],Tz h2,UX B j t,Tz A]⟩)
def pc:Pcs:=⟨Tl 3 (dl3 G n n) nK,nK,nK⟩
def an:Ann:=⟨31,0,[(3,[1,2,3,4])],[],[2],[(5,⟨[(Te 12,[9,11],[1])],[9,11],[],[0,1,2],[]⟩)],[]⟩
abbrev bd:=aK Tryz.f141
theorem ok{G:Gs}(d:ap (ents G)){g:Q}(h:∀t r,g t=some r->∃n,aq G n t Vt=Vt r):aj (ent g):=okQ λ_ _ _ _ _ _ _ hc=>Tk hc (h _) λn _ j=>fF d an (pc G n) Tryz.func141 j (apl [(1,3,.loop (Tj 116 bd))] ⟨Tf d n (dl3 G n) rfl (pc G n) ⟨[2,3],[2],[(0,[2,3])]⟩,Th⟩)
end z3v
namespace z3t
structure Gs where
 z3v:z3v.Q
def ents(G:Gs):Td Ent:=[z3v.ent G.z3v]
def b3{R:Type}(G:Gs)(n:Nat)(list:LT)(i:Int)(h0:LT)(d:Int->LT->Y R)(h:LT->Y R):Y R:=bif decide (i<(List.length list:Int))then((ix list i).bind λe=>(G.z3v (Tm.mk e.op e.ah e.am e.ae)).bind λr=>(lim (h0++[(Tm.mk r.op r.ah r.am r.ae)])).bind λzs=>d (wr (i+1)) zs)else h h0
variable{R:Type}(G:Gs)(n:Nat)
def l3(m:Nat)(list:LT)(i:Int)(h0:LT)(d:LT->Y R):Y R:=aY (λ(v:Int×LT) h=>b3 G n list v.1 v.2 (λj t=>h (j,t)) d) m (i,h0)
def aq(list:LT)(K:LT->Y R):Y R:=l3 G n n list 0 [] (λd=>K d)
def dl3(m:Nat):=rS [0,3,4] [TL,U7,Tx] [TH] λR K list i h0=>l3 G n m list i h0 (λd=>K (.exit 0) ⟨[(3,Ug)],UU d⟩)
def pc:Pcs:=⟨Tl 3 (dl3 G n n) nK,nK,nK⟩
def an:Ann:=⟨21,0,[(3,[0,3,4])],[],[2],[],[]⟩
abbrev bd:=aK Tryz.f143
theorem ok{G:Gs}(d:ap (ents G)){g:Q}(h:∀list r,g list=some r->∃n,aq G n list Vp=Vp r):aj (ent g):=okQ λ_ _ _ _ hc=>Tk hc (h _) λn _ j=>fF d an (pc G n) Tryz.func143 j (apl [(1,3,.loop (Tj 116 bd))] ⟨Tf d n (dl3 G n) rfl (pc G n) ⟨[3],[2],[(0,[3])]⟩,Th⟩)
end z3t
namespace z2t
structure Gs where
 z2d:z2d.Q
 z3t:z3t.Q
def ents(G:Gs):Td Ent:=[z2d.ent G.z2d,z3t.ent G.z3t]
def b6{R:Type}(G:Gs)(n:Nat)(list:LT)(i:Int)(h0:LT)(d:Int)(t j:Int->Y R):Y R:=bif decide (0<d)then((ix h0 (wr (d-1))).bind λe2=>(ix list i).bind λh=>(G.z2d (Tm.mk e2.op e2.ah e2.am e2.ae) (Tm.mk h.op h.ah h.am h.ae)).bind λv=>bif decide (0<v)then(t (wr (d-1)))else j d)else j d
variable{R:Type}(G:Gs)(n:Nat)
def l6(m:Nat)(list:LT)(i:Int)(h0:LT)(d:Int)(h:Int->Y R):Y R:=aY (λ(v:Int) j=>b6 G n list i h0 v (λt=>j t) h) m d
def b3(list:LT)(i:Int)(h0:LT)(w:Int->LT->Y R)(y:LT->Y R):Y R:=bif decide (i<(List.length list:Int))then(l6 G n n list i h0 (List.length h0:Int) (λd=>(uc h0 [] d).bind λzs=>(uS h0 d).bind λj=>(ix list i).bind λh=>(lim (j++[(Tm.mk h.op h.ah h.am h.ae)])).bind λt=>(lim (t++zs)).bind λv=>w (wr (i+1)) v))else y h0
def l3(m:Nat)(list:LT)(i:Int)(h0:LT)(d:LT->Y R):Y R:=aY (λ(v:Int×LT) h=>b3 G n list v.1 v.2 (λj t=>h (j,t)) d) m (i,h0)
def aq(list:LT)(K:LT->Y R):Y R:=l3 G n n list 0 [] (λd=>(G.z3t d).bind λr=>K r)
def dl6(m:Nat):=rS [0,3,4,5] [TL,U7,Tx,Tx] [TH] λR K list i h h0=>l6 G n m list i h0 h (λd=>K (.exit 2) ⟨[(0,TO list),(3,Ug),(4,Tv i),(5,Tv d)],UU h0⟩)
def dl3(m:Nat):=rS [0,3,4] [TL,U7,Tx] [TH] λR K list i h0=>l3 G n m list i h0 (λd=>K (.exit 0) ⟨[(3,Ug)],UU d⟩)
def pc:Pcs:=⟨Tl 6 (dl6 G n n) (Tl 3 (dl3 G n n) nK),nK,nK⟩
def an:Ann:=⟨51,0,[(6,[0,3,4,5]),(3,[0,3,4])],[],[2],[(6,⟨[(Te 15,[],[])],[],[],[0],[]⟩),(9,⟨[(Te 12,[2,8,10],[])],[2,8,10],[],[2],[]⟩)],[36,40]⟩
abbrev bd:=aK Tryz.f142
theorem ok{G:Gs}(d:ap (ents G)){g:Q}(h:∀list r,g list=some r->∃n,aq G n list Vp=Vp r):aj (ent g):=okQ λ_ _ _ _ hc=>Tk hc (h _) λn _ j=>fF d an (pc G n) Tryz.func142 j (apl [(1,3,.loop (Tj 116 bd))] ⟨Tf d n (dl3 G n) rfl (pc G n) ⟨[3],[2],[(0,[3])]⟩ (apl [(1,6,.loop (Tj 14920 bd))] ⟨Tf d n (dl6 G n) rfl (pc G n) ⟨[0,3,4,5],[2],[(0,[3]),(1,[0,3,4]),(2,[0,3,4,5])]⟩,Th⟩),Th⟩)
end z2t
namespace z4g
structure Gs where
 none_:Unit
def aq{R:Type}(G:Gs)(n:Nat)(s:Sg)(op:Int)(K:Tm->Bool->Y R):Y R:=(ix s.ops op).bind λe=>bif decide (e.aO=0)then(K (Tm.mk 0 ByteArray.empty 0 []) false)else(ix s.ops op).bind λe2=>K (Tm.mk (wr (e2.aO-1)) ByteArray.empty 0 []) true
theorem ok{G:Gs}(d:ap []){g:Q}(h:∀s op r,g s op=some r->∃n,aq G n s op Vr=Vr r.1 r.2):aj (ent g):=okQ λ_ _ _ _ _ _ _ hc=>Tk hc (h _ _) λ_ _ j=>fF d ⟨22,0,[],[],[4,5],[],[]⟩ nP Tryz.func130 j
end z4g
namespace z48
structure Gs where
 z3i:z3i.Q
def aq{R:Type}(G:Gs)(n:Nat)(s:Sg)(t:Tm)(K:Int->Y R):Y R:=(G.z3i s.ai).bind λr=>bif decide (t.op=(-1))then((ix r t.am).bind λe=>K e)else(ix s.ops t.op).bind λe2=>(ix e2.aJ 0).bind λe3=>(ix r e3.result).bind λd=>K d
theorem ok{G:Gs}(d:ap [z3i.ent G.z3i]){g:Q}(h:∀s t r,g s t=some r->∃n,aq G n s t Vo=Vo r):aj (ent g):=okQ λ_ _ _ _ _ _ _ _ _ _ hc=>Tk hc (h _ _) λ_ _ j=>fF d ⟨30,0,[],[],[4],[],[]⟩ nP Tryz.func72 j
end z48
namespace z49
structure Gs where
 z49:z49.Q
def ents(G:Gs):Td Ent:=[ent G.z49]
def b3{R:Type}(G:Gs)(n:Nat)(h0:Int)(j:Z)(t:Int)(d:LT)(left k:Int)(v:Int->Int->Y R)(h:Int->Y R):Y R:=bif decide (k<(List.length d:Int))then(bif decide (0<=left)then((ix d k).bind λe=>(G.z49 (Tm.mk e.op e.ah e.am e.ae) left).bind λr=>v r (wr (k+1)))else h left)else h left
variable{R:Type}(G:Gs)(n:Nat)
def l3(m:Nat)(h0:Int)(d:Z)(h:Int)(j:LT)(left k:Int)(t:Int->Y R):Y R:=aY (λ(v:Int×Int) w=>b3 G n h0 d h j v.1 v.2 (λy A=>w (y,A)) t) m (left,k)
def aq(t:Tm)(left:Int)(K:Int->Y R):Y R:=l3 G n n t.op t.ah t.am t.ae (wr (left-1)) 0 (λd=>K d)
def dl3(m:Nat):=rS [1,2,5] [Tx,Tw,Tx] [TJ] λR K left k h0 h j t=>l3 G n m h0 h j t left k (λd=>K (.exit 0) ⟨[(1,Tv d)],[]⟩)
def pc:Pcs:=⟨Tl 3 (dl3 G n n) nK,nK,nK⟩
def an:Ann:=⟨27,0,[(3,[1,2,5])],[],[4],[],[]⟩
abbrev bd:=aK Tryz.f99
theorem ok{G:Gs}(d:ap (ents G)){g:Q}(h:∀t left r,g t left=some r->∃n,aq G n t left Vo=Vo r):aj (ent g):=okQ λ_ _ _ _ _ _ _ _ hc=>Tk hc (h _ _) λn _ j=>fF d an (pc G n) Tryz.func99 j (apl [(1,3,.loop (Tj 116 bd))] ⟨Tf d n (dl3 G n) rfl (pc G n) ⟨[1],[4],[(0,[1])]⟩,Th⟩)
end z49
namespace z2f
structure Gs where
 z2f:z2f.Q
 z3b:z3b.Q
def ents(G:Gs):Td Ent:=[ent G.z2f,z3b.ent G.z3b]
def b3{R:Type}(G:Gs)(n:Nat)(h0:Int)(j:Z)(t:Int)(d:LT)(h i:Int)(v:Int->Int->Y R)(w:Int->Y R):Y R:=bif decide (i<(List.length d:Int))then((ix d i).bind λe=>(G.z2f (Tm.mk e.op e.ah e.am e.ae)).bind λr=>(G.z3b h r).bind λy=>v y (wr (i+1)))else w h
variable{R:Type}(G:Gs)(n:Nat)
def l3(m:Nat)(h0:Int)(d:Z)(h:Int)(j:LT)(t i:Int)(w:Int->Y R):Y R:=aY (λ(v:Int×Int) y=>b3 G n h0 d h j v.1 v.2 (λA B=>y (A,B)) w) m (t,i)
def aq(t:Tm)(K:Int->Y R):Y R:=l3 G n n t.op t.ah t.am t.ae 0 0 (λd=>K (wr (d+1)))
def dl3(m:Nat):=rS [1,3,4] [Tw,Tx,Tx] [TJ] λR K v i h0 d h j=>l3 G n m h0 d h j v i (λt=>K (.exit 0) ⟨[(3,Tv t)],[]⟩)
def pc:Pcs:=⟨Tl 3 (dl3 G n n) nK,nK,nK⟩
def an:Ann:=⟨22,0,[(3,[1,3,4])],[],[2],[],[]⟩
abbrev bd:=aK Tryz.f100
theorem ok{G:Gs}(d:ap (ents G)){g:Q}(h:∀t r,g t=some r->∃n,aq G n t Vo=Vo r):aj (ent g):=okQ λ_ _ _ _ _ _ _ hc=>Tk hc (h _) λn _ j=>fF d an (pc G n) Tryz.func100 j (apl [(1,3,.loop (Tj 116 bd))] ⟨Tf d n (dl3 G n) rfl (pc G n) ⟨[3],[2],[(0,[3])]⟩,Th⟩)
end z2f
namespace z4f
structure Gs where
 z49:z49.Q
 z2f:z2f.Q
def aq{R:Type}(G:Gs)(n:Nat)(t:Tm)(K:Bool->Y R):Y R:=(G.z49 (Tm.mk t.op t.ah t.am t.ae) 60).bind λr=>bif decide (0<=r)then((G.z2f (Tm.mk t.op t.ah t.am t.ae)).bind λd=>K (decide (d<=20)))else K false
theorem ok{G:Gs}(d:ap [z49.ent G.z49,z2f.ent G.z2f]){g:Q}(h:∀t r,g t=some r->∃n,aq G n t Vn=Vn r):aj (ent g):=okQ λ_ _ _ _ _ _ _ hc=>Tk hc (h _) λ_ _ j=>fF d ⟨11,0,[],[],[2],[],[]⟩ nP Tryz.func70 j
end z4f
namespace z4a
structure Gs where
 z3i:z3i.Q
 z3k:z3k.Q
 z4g:z4g.Q
 z48:z48.Q
 z3y:z3y.Q
 z3v:z3v.Q
 z2t:z2t.Q
 z3t:z3t.Q
 z4f:z4f.Q
def ents(G:Gs):Td Ent:=[z3i.ent G.z3i,z3k.ent G.z3k,z4g.ent G.z4g,z48.ent G.z48,z3y.ent G.z3y,z3v.ent G.z3v,z2t.ent G.z2t,z3t.ent G.z3t,z4f.ent G.z4f]
def c15{R:Type}(G:Gs)(n:Nat)(op:Int)(ae:LT)(d:LI)(has:Bool)(i:Int)(h0:LB)(h:LS)(j:LO)(h1:Int)(t:Z)(v:Int)(h2:LT)(I:Z)(w:LD)(y A:Bool)(B h4:Int)(C:Z)(D:Int)(E F:LT)(H:LT->Y R):Y R:=(ix ae i).bind λe=>(lim (F++[(Tm.mk e.op e.ah e.am e.ae)])).bind λzs=>H zs
variable{R:Type}(G:Gs)(n:Nat)
def c17(op:Int)(ae:LT)(d:LI)(has:Bool)(i:Int)(h0:LB)(j:LS)(t:LO)(h1:Int)(v:Z)(w:Int)(h2:LT)(K:Z)(y:LD)(h A:Bool)(B h4:Int)(C:Z)(D:Int)(E H:LT)(I:LT->Y R):Y R:=bif h then((ix ae i).bind λe=>bif decide (e.op=op)then((ix ae i).bind λe2=>(lim (H++e2.ae)).bind λzs=>I zs)else c15 G n op ae d has i h0 j t h1 v w h2 K y h A B h4 C D E H (λJ=>I J))else c15 G n op ae d has i h0 j t h1 v w h2 K y h A B h4 C D E H (λF=>I F)
def c13(op:Int)(ae:LT)(d:LI)(has:Bool)(i I:Int)(h0:LB)(j:LS)(t:LO)(h1:Int)(B:Z)(C:Int)(h2:LT)(L:Z)(v:LD)(D E:Bool)(F h4:Int)(w:Z)(y:Int)(A J:LT)(M:Bool->Int->Z->Int->LT->Y R)(k1:LT->Y R):Y R:=(ix ae i).bind λe2=>(G.z48 (Sg.mk (So.mk h0 j) t) (Tm.mk e2.op e2.ah e2.am e2.ae)).bind λN=>(ix v 0).bind λO=>(ix O.ae I).bind λP=>(ix d P).bind λQ=>bif !decide (N=Q)then(M false 0 ByteArray.empty 0 [])else bif has then((ix ae i).bind λh=>(G.z3y (Tm.mk h.op h.ah h.am h.ae) (Tm.mk h4 w y A)).bind λS=>bif S then(k1 J)else c17 G n op ae d has i h0 j t h1 B C h2 L v D E F h4 w y A J (λK=>k1 K))else c17 G n op ae d has i h0 j t h1 B C h2 L v D E F h4 w y A J (λH=>k1 H)
def b8(op:Int)(ae:LT)(d:LI)(has:Bool)(h0:LB)(j:LS)(t:LO)(h1:Int)(v:Z)(w:Int)(h2:LT)(S:Z)(y:LD)(h A:Bool)(B h4:Int)(C:Z)(D:Int)(E:LT)(i:Int)(L:LT)(T:Int->LT->Y R)(U:Bool->Int->Z->Int->LT->Y R)(k1:LT->Y R):Y R:=bif decide (i<(List.length ae:Int))then(bif h then(c13 G n op ae d has i 0 h0 j t h1 v w h2 S y h A B h4 C D E L (λV M N O P=>U V M N O P) (λQ=>T (wr (i+1)) Q))else c13 G n op ae d has i i h0 j t h1 v w h2 S y h A B h4 C D E L (λt72 F H I J=>U t72 F H I J) (λK=>T (wr (i+1)) K))else k1 L
def l8(m:Nat)(op:Int)(ae:LT)(d:LI)(has:Bool)(h0:LB)(h:LS)(j:LO)(h1:Int)(t:Z)(w:Int)(h2:LT)(H:Z)(y:LD)(A B:Bool)(C h4:Int)(D:Z)(E:Int)(F:LT)(i:Int)(I:LT)(J:Bool->Int->Z->Int->LT->Y R)(k1:LT->Y R):Y R:=aY (λ(v:Int×LT) K=>b8 G n op ae d has h0 h j h1 t w h2 H y A B C h4 D E F v.1 v.2 (λL M=>K (L,M)) J k1) m (i,I)
def c25{R:Type}(G:Gs)(n:Nat)(op:Int)(list:LT)(h0:Int)(j:Z)(t:Int)(h1:LT)(h2:Z)(v:LD)(d w:Bool)(y:Int)(h:Bool->Z->Int->LT->Y R):Y R:=(G.z3t list).bind λr=>bif !d then((G.z4f (Tm.mk op ByteArray.empty 0 r)).bind λA=>h A ByteArray.empty 0 r)else bif decide ((List.length list:Int)<=7)then((G.z4f (Tm.mk op ByteArray.empty 0 r)).bind λB=>h B ByteArray.empty 0 r)else h false ByteArray.empty 0 r
def c23(op:Int)(list:LT)(h0:Int)(h:Z)(j:Int)(h1:LT)(h2:Z)(t:LD)(v d:Bool)(w:Int)(F:Bool->Z->Int->LT->Y R):Y R:=bif d then((G.z2t list).bind λr=>c25 G n op r h0 h j h1 h2 t v d w (λH C D E=>F H C D E))else c25 G n op list h0 h j h1 h2 t v d w (λt72 y A B=>F t72 y A B)
def c21(op:Int)(has:Bool)(h0:Int)(d:Z)(h:Int)(h1:LT)(h2:Z)(j:LD)(t v:Bool)(w:Int)(C:LT)(D:Bool->Int->Z->Int->LT->Y R):Y R:=bif has then(bif decide ((List.length C:Int)=1)then((ix C 0).bind λe=>(G.z3v (Tm.mk e.op e.ah e.am e.ae)).bind λr=>D true r.op r.ah r.am r.ae)else c23 G n op C h0 d h h1 h2 j t v w (λI E F H=>D I op E F H))else c23 G n op C h0 d h h1 h2 j t v w (λt72 y A B=>D t72 op y A B)
def c5(op:Int)(ae:LT)(d:LI)(h0:LB)(B:LS)(C:LO)(h1:Int)(h:Z)(j:Int)(h2:LT)(N:Z)(t:LD)(v w:Bool)(y:Int)(M:Bool->Int->Z->Int->LT->Y R):Y R:=(G.z4g (Sg.mk (So.mk h0 B) C) op).bind λr=>l8 G n n op ae d r.2 h0 B C h1 h j h2 N t v w y r.1.op r.1.ah r.1.am r.1.ae 0 [] (λU O P Q S=>M U O P Q S) (λA=>bif r.2 then(bif decide ((List.length A:Int)=0)then(M true r.1.op r.1.ah r.1.am r.1.ae)else c21 G n op r.2 h1 h j h2 N t v w y A (λt72 D E F H=>M t72 D E F H))else c21 G n op r.2 h1 h j h2 N t v w y A (λT I J K L=>M T I J K L))
def aq(s:Sg)(op:Int)(ae:LT)(K:Tm->Bool->Y R):Y R:=(ix s.ops op).bind λe=>(G.z3i s.ai).bind λr=>(G.z3k e).bind λB=>bif !decide ((List.length ae:Int)=B)then(bif e.aE then(bif !(decide (2<=(List.length ae:Int)))then(K (Tm.mk 0 ByteArray.empty 0 []) false)else c5 G n op ae r s.ai.ak s.ai.aA s.ops 0 ByteArray.empty 0 [] e.ah e.aJ e.aE e.comm e.aO (λC v w y A=>K (Tm.mk v w y A) C))else K (Tm.mk 0 ByteArray.empty 0 []) false)else c5 G n op ae r s.ai.ak s.ai.aA s.ops 0 ByteArray.empty 0 [] e.ah e.aJ e.aE e.comm e.aO (λt72 d h j t=>K (Tm.mk d h j t) t72)
def dc15:=rS [1,2,3,6,8,9,10,11,12,13] UP [TB,UB,TH,TD,TJ,TH] λR K op ae d has i h0 h j h1 t v h2 H w y A B h4 C D E I=>c15 G n op ae d has i h0 h j h1 t v h2 H w y A B h4 C D E I (λF=>K .normal ⟨U8 op ae d has i,[TP h0 h j,.box [.i h1,.s t,.i v,.o 2],Tz h2,TV H w y A B,TC h4 C D E,Tz F]⟩)
def dc17:=rS [1,2,3,6,8,9,10,11,12,13] UP [TB,UB,TH,TD,TJ,TH] λR K op ae d has i h0 h j h1 t v h2 H w y A B h4 C D E I=>c17 G n op ae d has i h0 h j h1 t v h2 H w y A B h4 C D E I (λF=>K .normal ⟨U8 op ae d has i,[TP h0 h j,.box [.i h1,.s t,.i v,.o 2],Tz h2,TV H w y A B,TC h4 C D E,Tz F]⟩)
def yz:=rS [1,2,3,6,8,9,10,11,12,13,14] [Tx,TL,Tw,TQ,Ul,U2,Uq,UD,Vd,Tx,Tx] [TB,UB,TH,TD,TJ,TH] λR K op ae d has i F h0 h j h1 t v h2 N w y A B h4 C D E O=>c13 G n op ae d has i F h0 h j h1 t v h2 N w y A B h4 C D E O (λP H I J L=>K .ret ⟨V7 P,[TC H I J L]⟩) (λM=>K .normal ⟨U8 op ae d has i,[TP h0 h j,.box [.i h1,.s t,.i v,.o 2],Tz h2,TV N w y A B,TC h4 C D E,Tz M]⟩)
def dl8(m:Nat):=rS [1,2,3,6,8,9,10,11,12,13] UP [TB,UB,TH,TD,TJ,TH] λR K op ae d has i h0 D E h1 h j h2 M t v w y h4 A B C N=>l8 G n m op ae d has h0 D E h1 h j h2 M t v w y h4 A B C i N (λO F H I J=>K .ret ⟨V7 O,[TC F H I J]⟩) (λL=>K (.exit 0) ⟨[(1,Tv op),(6,TF),(8,Ua),(10,UK),(11,Tp has),(12,.one (.o 4))],[.box [.i h1,.s h,.i j,.o 1],Tz h2,TV M t v w y,TC h4 A B C,Tz L]⟩)
def dc25:=rS [1,6,8,12] [Tx,Tw,U1,TL] [Vm,TH,TD] λR K op list h0 d h h1 h2 j t v w=>c25 G n op list h0 d h h1 h2 j t v w (λC y A B=>K .ret ⟨V7 C,[TC op y A B]⟩)
def dc23:=rS [1,6,8,12] [Tx,Tw,U1,TL] [Vm,TH,TD] λR K op list h0 d h h1 h2 j t v w=>c23 G n op list h0 d h h1 h2 j t v w (λC y A B=>K .ret ⟨V7 C,[TC op y A B]⟩)
def w8:=rS [1,6,8,11,12] [Tx,Tw,U1,UD,V6] [Vm,TH,TD,TH] λR K op has h0 d h h1 h2 j t v w D=>c21 G n op has h0 d h h1 h2 j t v w D (λE y A B C=>K .ret ⟨V7 E,[TC y A B C]⟩)
def dc5:=rS [1,2,3,6,8,9] [Tx,TL,Tw,TQ,Ul,U2] [TB,UB,TH,TD] λR K op ae d h0 h j h1 t v h2 H w y A B=>c5 G n op ae d h0 h j h1 t v h2 H w y A B (λI C D E F=>K .ret ⟨V7 I,[TC C D E F]⟩)
def pc:Pcs:=⟨Tl 8 (dl8 G n n) nK,Tl 15 (dc15 G n) (Tl 17 (dc17 G n) (Tl 13 (yz G n) (Tl 25 (dc25 G n) (Tl 23 (dc23 G n) (Tl 21 (w8 G n) (Tl 5 (dc5 G n) nK)))))),nK⟩
def an:Ann:=⟨149,0,[(8,[1,2,3,6,8,9,10,11,12,13])],[(15,[1,2,3,6,8,9,10,11,12,13]),(17,[1,2,3,6,8,9,10,11,12,13]),(13,[1,2,3,6,8,9,10,11,12,13,14]),(25,[1,6,8,12]),(23,[1,6,8,12]),(21,[1,6,8,11,12]),(5,[1,2,3,6,8,9])],[6,7],[(13,⟨[(Te 18,[],[])],[],[],(Te 6),[]⟩),(16,⟨[(Te 10,[],[])],[],[],(Te 6),[]⟩),(26,⟨[([0,1,2,3,4,5,6,7,8,9,10,11,13,12,14],[13],[])],[13],[],[1,2,3],[]⟩)],[39,74,120]⟩
abbrev bd:=aK Tryz.f118
theorem ok{G:Gs}(d:ap (ents G)){g:Q}(h:∀s op ae r,g s op ae=some r->∃n,aq G n s op ae Vr=Vr r.1 r.2):aj (ent g):=okQ λ_ _ _ _ _ _ _ _ hc=>Tk hc (h _ _ _) λn _ j=>fF d an (pc G n) Tryz.func118 j (apl [(0,5,Tj 31 bd)] ⟨Tg d (dc5 G n) rfl (pc G n) ⟨[],[6,7],[]⟩ (apl [(1,8,.loop (Tj 2036 bd)),(0,21,Tj 511 bd)] ⟨Tf d n (dl8 G n) rfl (pc G n) ⟨[1,6,8,10,11,12],[6,7],[(0,[1,6,8,10,11,12])]⟩ (apl [(0,13,Tj 65171 bd)] ⟨Tg d (yz G n) rfl (pc G n) ⟨[1,2,3,6,8,9,10,11,12,13],[6,7],[(0,[1,6,8,10,11,12]),(1,[1,2,3,6,8,9,10,11,12,13])]⟩ (apl [(0,17,Tj 1042747 bd)] ⟨Tg d (dc17 G n) rfl (pc G n) ⟨[1,2,3,6,8,9,10,11,12,13],[6,7],[(0,[1,6,8,10,11,12]),(1,[1,2,3,6,8,9,10,11,12,13]),(2,[1,2,3,6,8,9,10,11,12,13])]⟩ (apl [(0,15,Tj 4170991 bd)] ⟨Tg d (dc15 G n) rfl (pc G n) ⟨[1,2,3,6,8,9,10,11,12,13],[6,7],[(0,[1,6,8,10,11,12]),(1,[1,2,3,6,8,9,10,11,12,13]),(2,[1,2,3,6,8,9,10,11,12,13])]⟩,Th⟩),Th⟩),Th⟩),⟨Tg d (w8 G n) rfl (pc G n) ⟨[],[6,7],[]⟩ (apl [(0,23,Tj 1023 bd)] ⟨Tg d (dc23 G n) rfl (pc G n) ⟨[],[6,7],[]⟩ (apl [(0,25,Tj 2047 bd)] ⟨Tg d (dc25 G n) rfl (pc G n) ⟨[],[6,7],[]⟩,Th⟩),Th⟩),Th⟩⟩),Th⟩)
end z4a
end
end
section
open Go.RowKit
open Classical
theorem bu(f:Tm):f.az=f.ah.size+aF f.ae:=Tm.lS f
theorem Tm.eta(t:Tm):Tm.mk t.op t.ah t.am t.ae=t:=by cases t;rfl
theorem d9(x:Tm)(l:Td Tm):aF (x::l)=1+x.az+aF l:=by unfold aF;simp only[OP,Pz,List.sum_cons];omega
theorem ie:aF []=0:=rfl
theorem mA{x:Tm}{l:Td Tm}(h:x∈l):x.az<aF l:=by
 induction l with
 |nil=>simp at h
 | cons y l d=>
  rw[d9];rcases List.mem_cons.1 h with rfl|h
  .omega
  .grind
theorem ct(l:Td Tm):l.length<=aF l:=by unfold aF;omega
end
section
open Go.RowKit
theorem E4{k:Int}(h0:0<=k)(h1:k<1000):IntKind.wrap .u64 k=k:=by
 simp[IntKind.wrap,IntKind.signed,IntKind.bits];omega
theorem rr(s:Z)(i:Int):sIx s i=ix (ofS s) i:=by
 unfold sIx ix ofS;cases decide (0<=i)with
 |false=>rfl
 | true=>
  simp only[cT];rw[P8,Ql];have:s[i.toNat]? =s.data[i.toNat]? :=rfl;rw[this];cases s.data[i.toNat]? <;>rfl
theorem ce(s:Z):(ofS s).length=s.size:=by unfold ofS;rw[OV,PL];rfl
theorem Du(s:Z):∀c∈ofS s,0<=c/\c<=255:=λc hc=>by
 obtain⟨b,_,rfl⟩:=List.mem_map.1 hc;have:=b.toNat_lt;omega
section
variable {a b i:Nat}{α R:Type}
theorem bt(h:a<b):decide ((a:Int)<(b:Int))=true:=dT A0
theorem bh(h:¬a<b):decide ((a:Int)<(b:Int))=false:=dF A0
theorem bw(h:i<4294967296):wr ((i:Int)+1)=((i+1:Nat):Int):=by
 have:=aX (x:=(i:Int)+1) A0;rw[this];omega
theorem aW{xs:Td α}{k:Nat}{x:α}(h:xs[k]? =some x):ix xs (k:Int)=some x:=ix_nat.trans h
theorem count{A R:Type}(N:Nat)(B:Int->A->(Int->A->Y R)->Y R)(Q:Nat->A->Prop)(val:Nat->A->Y R)
  (j:∀a h,Q N a->B N a h=val N a)
  (d:∀i a h,i<N->Q i a->(∀t,Q (i+1) t->h ((i+1:Nat):Int) t=val (i+1) t)->B i a h=val i a):
  ∀m i a,Q i a->i<=N->N-i<m->aY (λ(v:Int×A) h=>B v.1 v.2 (λw y=>h (w,y))) m ((i:Int),a)=val i a
 |0,i,a,_,_,hm=>absurd hm (OM _)
 | m+1,i,a,E,hi,hm=>by
  show B (i:Int) a (λw y=>aY (λ(v:Int×A) h=>B v.1 v.2 (λw y=>h (w,y))) m (w,y))=_;rcases Nat.eq_or_lt_of_le hi with rfl|C
  .grind
  .exact d i a _ C E λt D=>count N B Q val j d m (i+1) t D C A0
theorem Fa{A R:Type}(N:Nat)(B:A->Int->(A->Int->Y R)->Y R)(Q:Nat->A->Prop)(val:Nat->A->Y R)
  (j:∀a h,Q N a->B a N h=val N a)
  (d:∀i a h,i<N->Q i a->(∀t,Q (i+1) t->h t ((i+1:Nat):Int)=val (i+1) t)->B a i h=val i a):
  ∀m i a,Q i a->i<=N->N-i<m->aY (λ(v:A×Int) h=>B v.1 v.2 (λw y=>h (w,y))) m (a,(i:Int))=val i a
 |0,i,a,_,_,hm=>absurd hm (OM _)
 | m+1,i,a,E,hi,hm=>by
  show B a (i:Int) (λw y=>aY (λ(v:A×Int) h=>B v.1 v.2 (λw y=>h (w,y))) m (w,y))=_;rcases Nat.eq_or_lt_of_le hi with rfl|C
  .grind
  .exact d i a _ C E λt D=>Fa N B Q val j d m (i+1) t D C A0
theorem lX{R:Type}(N:Nat)(B:Int->(Int->Y R)->Y R)(val:Nat->Y R)
  (h:∀j,B N j=val N)
  (d:∀i j,i<N->j ((i+1:Nat):Int)=val (i+1)->B i j=val i):
  ∀m i,i<=N->N-i<m->aY (λ(v:Int) j=>B v (λt=>j t)) m (i:Int)=val i
 |0,i,_,hm=>absurd hm (OM _)
 | m+1,i,hi,hm=>by
  show B (i:Int) (λt=>aY (λ(v:Int) j=>B v (λt=>j t)) m t)=_;rcases Nat.eq_or_lt_of_le hi with rfl|w
  .exact h _
  .exact d i _ w (lX N B val h d m (i+1) w A0)
theorem Ei{β:Type}{f:β->α->β}{b:β}{xs:Td α}{x:α}(h:xs[i]? =some x):(xs.take (i+1)).foldl f b=f ((xs.take i).foldl f b) x:=by
 obtain⟨d,rfl⟩:=gI.1 h;rw[PE d,List.foldl_append];rfl
theorem lB{xs:Td α}:xs.take xs.length=xs:=Pv (O3 _)
theorem ck{xs:Td α}:xs.drop xs.length=[]:=Pt (O3 _)
theorem bo{xs:Td α}(h:i<xs.length):∃x,xs[i]? =some x/\x∈xs:=⟨xs[i],O0 h,gM h⟩
end
end
end Go.Proofs.YtkegnipofloejaaGreatDoor.Den

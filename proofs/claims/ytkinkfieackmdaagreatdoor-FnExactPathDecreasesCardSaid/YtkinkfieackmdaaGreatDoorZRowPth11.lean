/-
  Texts that the claim rests on, merged: Reb, DenC, DenC2, DenG, Nil, Tb, ReadD.
-/
import Derived.Test.YtkinkfieackmdaaGreatDoorProg
import Derived.Test.YtkinkfieackmdaaGreatDoorZRowPth1
import Derived.Test.YtkinkfieackmdaaGreatDoorZRowPth10

namespace Go.Proofs.YtkinkfieackmdaaGreatDoor.Abs
open Go.RowKit
section
variable {P : Program} {E : Cx} {K : Env → ag → Prop} {L : Env} {h : ag} {d : Nat} {ty : TypeId} {pos : String} {af : Array Edge} {gd : Option (Nat × Bool)} {tb : Tbl}
end
end Go.Proofs.YtkinkfieackmdaaGreatDoor.Abs
namespace Go.Proofs.YtkinkfieackmdaaGreatDoor.Den
open Go.RowKit
open Abs (V AV Env ag ar)
section
variable {P : Program} {E : Abs.Cx} {F : In} {ρ : Rho} {H : List Ob} {D : List (Nat × AT)} {L : Env} {h : ag} {tb : Nat → Option TI} {d : Nat} {ty : TypeId} {pos : String} {af : Array Edge} {gd : Option (Nat × Bool)}
end
end Go.Proofs.YtkinkfieackmdaaGreatDoor.Den
namespace Go.Proofs.YtkinkfieackmdaaGreatDoor.Den
open Go.RowKit
open Abs (V AV Env ag ar aw ao)
section
variable {P : Program} {E : Abs.Cx} {F : In} {ρ ρ' : Rho} {H : List Ob} {D : List (Nat × AT)} {L : Env} {h h' : ag} {R : Type} {tb : Nat → Option TI} {O : Orc}
theorem wT {Hm H:List Ob} (hl:Le Hm H) {c:C} {n:Int} (h:td Hm c=some n):td H c=some n:=by
 unfold td at h ⊢;split at h
 case h_5=>
  split at h
  ·rename_i hx;rw[hl _ _ hx (by simp)];exact h
  ·rename_i hx;rw[hl _ _ hx (by simp)];exact h
  ·cases h
 all_goals exact h
theorem wX {Hm H:List Ob} (hl:Le Hm H) {o:Oper} {v:AT} (hv:(yj tb o D Hm).has v):(yj tb o D H).has v:=by
 unfold yj at hv ⊢;split at hv
 all_goals first
  |exact hv
  |(cases hv;done)
  |skip
 ·split at hv
  ·exact hv
  ·exact hv
  ·split at hv
   ·rename_i hx hf;rw[hl _ _ hx (by simp),hf];exact hv
   ·cases hv
  ·exact hv.elim
 ·split at hv
  ·split at hv
   ·rename_i hx;rw[hl _ _ hx (by simp)];exact hv
   ·cases hv
  ·exact hv
  ·split at hv
   ·rename_i hx;rw[hl _ _ hx (by simp)];exact hv
   ·cases hv
  ·exact hv.elim
 ·split at hv
  ·exact hv
  ·split at hv
   ·rename_i hx;rw[hl _ _ hx (by simp)];exact hv
   ·cases hv
  ·exact hv.elim
 ·split at hv
  ·exact hv
  ·exact ie hl hv
 ·split at hv
  ·split at hv
   ·exact hv
   ·exact ie hl hv
  ·exact ie hl hv
 ·split at hv
  ·split at hv
   ·exact hv
   ·split at hv
    ·rename_i h1 h2;rw[wT hl h2,h1];exact hv
    ·cases hv
   ·cases hv
  ·cases hv
 ·exact ie hl hv
theorem mX {o:Oper} {v:AT} {H':List Ob} (hv:(uY tb o.op D H).has (v,H')):Unt (cD tb O o D H) H H':=by
 have push:∀x:Ob,Unt (cD tb O o D H) H (H++[x]):=λx id y hy _=>cq hy;unfold uY at hv;split at hv
 ·split at hv
  ·cases hv;exact push _
  ·cases hv
 ·rename_i args tys ho;split at hv
  ·rename_i x y t tx ha ht;split at hv
   ·split at hv
    ·obtain⟨_,_,e⟩:=hv;cases e;exact push _
    ·cases hv
   ·rename_i id s h1 h2 h3;split at hv
    ·obtain⟨_,_,e⟩:=hv;cases e;intro j z hz hn;simp only[cD,ho,ha,h2]at hn;exact cq (by rw[sN (λe=>hn (by simp[e]))];exact hz)
    ·cases hv
   ·split at hv
    ·obtain⟨_,_,e⟩:=hv;cases e;exact push _
    ·cases hv
   ·cases hv
  ·cases hv
 ·cases hv
theorem BZ {o:Oper} {H':List Ob} (hv:(opX tb o.op D H).has H'):Unt (cD tb O o D H) H H':=by
 unfold opX at hv;split at hv
 ·rename_i t m k x ho;split at hv
  ·rename_i T id s vs h1 h2 h3 h4
   have set:∀{z:Ob},Unt (cD tb O o D H) H (H.set id z):=λ{z} j w hw hn=>by
    rw[sN (λe=>hn (by simp[cD,ho,h2,e]))];exact hw
   split at hv
   ·split at hv
    ·split at hv
     ·cases hv;exact set
     ·cases hv
    ·split at hv
     ·cases hv
     ·cases hv;exact set
    ·cases hv
   ·cases hv
  ·cases hv
 ·cases hv
theorem zQ {o : Oper} {v : AT} {H' : List Ob} (hv : (yX tb o D H).has (v, H')) : Unt (cD tb O o D H) H H' := by
 have push:∀x:Ob,Unt (cD tb O o D H) H (H++[x]):=λx id y hy _=>cq hy;unfold yX at hv;split at hv
 ·split at hv
  ·cases hv;exact push _
  ·cases hv
 ·split at hv
  ·cases hv;exact push _
  ·cases hv
 ·split at hv
  ·split at hv
   ·split at hv
    ·cases hv;exact push _
    ·cases hv
   ·cases hv
  ·cases hv
 ·split at hv
  ·split at hv
   ·obtain⟨_,_,e⟩:=hv;cases e;exact push _
   ·cases hv
  ·cases hv
 ·rename_i args tys ho;split at hv
  ·rename_i x y t tx ha ht;split at hv
   ·rename_i T U cx cy h1 h2 h3 h4;split at hv
    ·split at hv
     ·rename_i id;split at hv
      ·split at hv
       ·obtain⟨_,_,e⟩:=hv;cases e;intro j z hz hn;simp only[cD,ho,ha,h3]at hn;exact cq (by rw[sN (λe=>hn (by simp[e]))];exact hz)
       ·cases hv
      ·cases hv
     ·obtain⟨_,_,e⟩:=hv;cases e;exact push _
     ·exact mX hv
    ·cases hv
   ·exact mX hv
  ·cases hv
 ·exact mX hv
theorem B8      {o : Oper} {H' : List Ob} (hv : (opN tb o D H).has H') : Unt (cD    tb O o D H) H H' := by
 unfold opN at hv;split at hv
 ·rename_i t x y ho
  have set:∀{id:Nat} {z:Ob},(∀j,j∉cD tb O o D H->j≠id)->Unt (cD tb O o D H) H (H.set id z):=λhne j w hw hn=>by
   rw[sN (λe=>hne j hn e.symm)];exact hw
  split at hv
  ·rename_i h2 h3;split at hv
   ·split at hv
    ·cases hv;exact set λj hj e=>hj (by simp[cD,ho,h2,e])
    ·cases hv
   ·cases hv
  ·rename_i ti id k n T e0 off vs h1 h2 h3;have hs:∀{z:Ob},Unt (cD    tb O o D H) H (H.set id z):=λ{z}=>set (z:=z) λj hj e=>hj (by simp only[cD   ,ho,h2];simp[e])
   split at hv
   ·split at hv
    ·split at hv
     ·split at hv
      ·split at hv
       ·split at hv
        ·cases hv;exact hs
        ·cases hv
       ·obtain⟨e',e1,e2⟩:=hv;dsimp only at e2;split at e2
        ·cases e2;exact hs
        ·cases e2
      ·cases hv
     ·cases hv
    ·cases hv
   ·cases hv
  ·cases hv
 ·exact BZ hv
theorem EX (htb:TBOK P tb) (hO:fg P O) {nt:Nat} (hE:E.n=nt) {o:Oper} {K:AT->List Ob->Option R} {r:R} (hc:one tb O nt o D H K=some r):∃v H',K v H'=some r/\(∀F:In,cB P o E F D H v H')/\Unt (cD tb O o D H) H H':=by
 unfold one at hc;split at hc
 ·rename_i d hd;split at hc
  ·rename_i hlt;have hn:d<E.n:=by rw[hE];simpa [Nat.blt_eq]using hlt
   unfold opD at hc;split at hc
   ·obtain⟨v,h1,h2⟩:=Pl.run_has hc;exact⟨v,H,h2,λ_=>zf λρ L h hs hp=>vf htb hd hn h1 hs hp,.refl _ _⟩
   ·obtain⟨q,h1,h2⟩:=Pl.run_has hc;exact⟨q.1,q.2,h2,λ_=>CQ htb hd hn h1,zQ h1⟩
   ·exact zg htb hO hd hn hc
  ·cases hc
 ·rename_i hd;obtain⟨H',h1,h2⟩:=Pl.run_has hc;exact⟨_,H',h2,λ_=>Ft htb hd h1,B8 h1⟩
theorem vR (htb:TBOK P tb) (hO:fg P O) {nt:Nat} (hE:E.n=nt) {o:Oper} (hk:mO tb O o D=true) {K:AT->List Ob->Option R} {r:R} (hc:one tb O nt o D H K=some r):∃v,K v H=some r/\∀H',Le H H'->cB P o E F D H' v H':=by
 unfold one at hc;split at hc
 ·rename_i d hd;split at hc
  ·rename_i hlt;have hn:d<E.n:=by rw[hE];simpa [Nat.blt_eq]using hlt
   unfold opD at hc;split at hc
   ·obtain⟨v,h1,h2⟩:=Pl.run_has hc;exact⟨v,h2,λH' hl=>zf λρ L h hs hp=>vf htb hd hn (wX hl h1) hs hp⟩
   ·rename_i h1;exfalso;unfold mO    at hk;rw[hd]at hk;simp only at hk;split at hk
    ·rename_i e;rw[e]at h1;simp[kind]at h1
    ·rw[h1]at hk;cases hk
   ·exact BB htb hO hd hn hk hc
  ·cases hc
 ·rename_i hd;unfold mO at hk;rw[hd]at hk;cases hk
theorem pO (htb:TBOK P tb) {nt:Nat} (hE:E.n=nt) {o:Oper} {K:AT->Option R} {r:R} (hc:AK tb nt o D K=some r):∃v,K v=some r/\∀(F:In) (H:List Ob),cB P o E F D H v H:=by
 unfold AK at hc;split at hc
 ·rename_i d hd;split at hc
  ·rename_i hlt;have hn:d<E.n:=by rw[hE];simpa [Nat.blt_eq]using hlt
   obtain⟨v,h1,h2⟩:=Pl.run_has hc;exact⟨v,h2,λ_ H=>Cc htb hd hn h1⟩
  ·cases hc
 ·cases hc
theorem iu {dst:Option Nat} {v:AT} {av:AV} (hs:EncL ρ H D L) (hv:ATR ρ H v av):EncL ρ H (gr dst v D) (Abs.bindD dst av L):=by
 cases dst with
 |none=>exact hs
 | some d =>
  intro t x hx;simp only[gr,List.lookup_cons]at hx;simp only[Abs.bindD,List.lookup_cons];split at hx
  ·cases hx;exact⟨av,rfl,hv⟩
  ·exact hs t x hx
theorem zo {l:List Oper} {j:Nat}:gsl l j=Abs.bq l.toArray j:=by
 unfold gsl Abs.bq;simp only[List.getElem?_toArray];cases l[j]? <;>rfl
theorem vp {d:Nat} {p:Bool} (hs:EncL ρ H D L) (h:D.lookup d=some (.one (.b p))):L.lookup d=some (.one (.lit (.bool p))):=by
 obtain⟨av,h1,h2⟩:=hs d _ h;obtain⟨u,rfl,h3⟩:=h2.one';rw[h1,h3.bool]
theorem Dz {d:Nat} (hs:EncL ρ H D L) (h:D.lookup d=some (.tup [])):L.lookup d=some (.tup []):=by
 obtain⟨av,h1,h2⟩:=hs d _ h;cases h2 with
 | @tup xs ys hl hr=>
  cases ys with
  |nil=>exact h1
  |cons _ _=>simp at hl
inductive Gd (ops:Array Oper) (n:Nat) (o:Oper) (D:List (Nat×AT)):Bool->Prop
 |run (h:o.guard=none):Gd ops n o D true
 |runG {j d:Nat} {want:Bool} (h:o.guard=some (j,want)) (hj:Abs.bq ops j=some d) (hd:D.lookup d=some (.one (.b want))):Gd ops n o D true
 |skip {j d d':Nat} {p want:Bool} (h:o.guard=some (j,want)) (hj:Abs.bq ops j=some d) (hd:D.lookup d=some (.one (.b p))) (hp:p= !want) (hdst:o.dst=some d') (hn:d'<n):Gd ops n o D false
 |skipU {j d d':Nat} {want:Bool} (h:o.guard=some (j,want)) (hj:Abs.bq ops j=some d) (hd:D.lookup d=some (.tup [])) (hdst:o.dst=some d') (hn:d'<n):Gd ops n o D false
def Same (D D':List (Nat×AT)):Prop:=∀t,D.lookup t=D'.lookup t
theorem Same.refl (D:List (Nat×AT)):Same D D:=λ_=>rfl
theorem Same.trans {D D' D2:List (Nat×AT)} (h:Same D D') (k:Same D' D2):Same D D2:=λt=>(h t).trans (k t)
theorem Same.enc {D D':List (Nat×AT)} (h:Same D' D) (k:EncL ρ H D L):EncL ρ H D' L:=λt v hv=>k t v (by rw[<-h t];exact hv)
theorem fE {d:Nat} {v:AT} {D:List (Nat×AT)} (h:D.lookup d=some v):Same ((d,v)::D) D:=λt=>by
 rw[List.lookup_cons];split
 ·rename_i e;have:=eq_of_beq e;subst this;exact h.symm
 ·rfl
theorem Same.bind {D D':List (Nat×AT)} (h:Same D D') (dst:Option Nat) (v:AT):Same (gr dst v D) (gr dst v D'):=by
 cases dst with
 |none=>exact h
 |some d=>intro t;simp only[gr,List.lookup_cons];split<;>first|rfl|exact h t
theorem Same.sel {D D':List (Nat×AT)} (h:Same D D'):∀ts,Draw.sel D ts=Draw.sel D' ts
 |[]=>rfl
 |t::ts=>by simp only[Draw.sel];rw[h t,Same.sel h ts]
theorem ip {nt:Nat} {l:List Oper} {o:Oper} {D1 D:List (Nat×AT)} (hsub:Draw.Sub D1 D) {run skip:List (Nat×AT)->Option R} {r:R} (hc:kq nt l o D1 D run skip=some r):∃D',Same D' D/\((Gd l.toArray nt o D1 true/\run D'=some r)\/(Gd l.toArray nt o D1 false/\skip D'=some r)):=by
 unfold kq at hc;split at hc
 ·rename_i hg;exact⟨D,.refl D,.inl ⟨.run hg,hc⟩⟩
 ·rename_i j want hg;split at hc
  ·rename_i d d' hj hdst;rw[zo      ]at hj;split at hc
   ·rename_i hlt;have hn:d'<nt:=by simpa [Nat.blt_eq]using hlt
    split at hc
    ·rename_i p hd;cases want<;>cases p
     ·exact⟨_,fE (hsub _ _ hd),.inl ⟨.runG hg hj hd,hc⟩⟩
     ·exact⟨_,fE (hsub _ _ hd),.inr ⟨.skip hg hj hd rfl hdst hn,hc⟩⟩
     ·exact⟨_,fE (hsub _ _ hd),.inr ⟨.skip hg hj hd rfl hdst hn,hc⟩⟩
     ·exact⟨_,fE (hsub _ _ hd),.inl ⟨.runG hg hj hd,hc⟩⟩
    ·rename_i hd;exact⟨D,.refl D,.inr ⟨.skipU hg hj hd hdst hn,hc⟩⟩
    ·cases hc
   ·cases hc
  ·cases hc
theorem s8 {im:List Nat} {o:Oper} (h:o.dst=none):jc tb im o D H=none:=rfl
theorem xS (htb:TBOK P tb) {im:List Nat} {o:Oper} {d:Nat} (hd:o.dst=some d) (hn:d<E.n) {q:Nat×Pl (AT×List Ob)} (hs:jc tb im o D H=some q) {v:AT} {H':List Ob} (hv:q.2.has (v,H')):(∀F,cB P o E F D H v H')/\Unt [q.1] H H':=by unfold jc at hs;cases hs
theorem wt {ρ:Rho} {H:List Ob} {c:C} {v:V} (h:CR ρ H c v):∃v',CR ρ H (zq c) v'/\∀(I:Nat->Prop) (w:World) (ι:List Abs.Inf) (u:Value),Abs.VR I w ι v u->Abs.VR I w ι v' u:=by
 unfold zq;split
 ·rename_i T;have hh:v= .lit (.slice none 0 0)/\0<szT T:=by
   cases h with
   |fl h=>cases h
   |nil hp=>exact⟨rfl,hp⟩
  obtain⟨rfl,hp⟩:=hh;refine⟨.imm (szT T) [],.fl (FR.nil_ hp),λI w ι u hu=> ?_⟩;cases hu with
  |lit _=>exact .imm0 (Nat.zero_le _)
 ·exact⟨v,h,λ_ _ _ _ h=>h⟩
theorem sd {ρ:Rho} {H:List Ob}:∀{cs:List C} {vs:List V},CRs ρ H cs vs->∃vs',CRs ρ H (cs.map zq) vs'/\vs'.length=vs.length/\∀(j:Nat) (h1:j<vs.length) (h2:j<vs'.length) (I:Nat->Prop) (w:World) (ι:List Abs.Inf) (u:Value),Abs.VR I w ι vs[j] u->Abs.VR I w ι vs'[j] u
 |[],vs,h=>⟨vs,h,rfl,λj h1 h2=>λ_ _ _ _ h=>h⟩
 |c::cs,[],h=>by have:=h.1;simp at this
 | c :: cs, v :: vs, h => by
  have h0:CR ρ H c v:=h.2 0 (by simp) (by simp)
  have hs:CRs ρ H cs vs:=⟨by have:=h.1;simpa using this,λj h1 h2=>by
   have:=h.2 (j+1) (by simpa using h1) (by simpa using h2);simpa using this⟩
  obtain⟨v',a1,a2⟩:=wt h0;obtain⟨vs',b1,b2,b3⟩:=sd hs;refine⟨v'::vs',CRs.cons a1 b1,by simp[b2],λj h1 h2=> ?_⟩;cases j with
  |zero=>exact a2
  |succ j=>exact b3 j (by simpa using h1) (by simpa using h2)
theorem Du {ρ:Rho} {H:List Ob} {x:AT} {a:AV} (h:ATR ρ H x a):∃a',ATR ρ H (Dl x) a'/\∀(I:Nat->Prop) (w:World) (ι:List Abs.Inf) (u:Value),Abs.AR ι I w a u->Abs.AR ι I w a' u:=by
 cases h with
 | @one c v h =>
  obtain⟨v',a1,a2⟩:=wt h;exact⟨.one v',.one a1,λI w ι u hu=>by
   cases hu with
   |one hu=>exact .one (a2 I w ι u hu)⟩
 | @agg cs vs h =>
  obtain⟨vs',a1,a2,a3⟩:=sd h;refine⟨.agg vs',.agg a1,λI w ι u hu=> ?_⟩;cases hu with
  | @agg _ cs f hl hcs hr=>
   exact .agg (f:=f) (by omega) (λj hj=>hcs j (by omega)) (λj hj=>a3 j (by omega) hj _ _ _ _ (hr j (by omega)))
 | @tup xs ys hl h=>exact⟨.tup ys,.tup hl h,λ_ _ _ _ h=>h⟩
theorem BF {o:Oper} {d:Nat} (hd:o.dst=some d) {v:AT} {H':List Ob} {L:Env} {h:ag} {ρ:Rho} (hh:ar P o E (Post F H ρ o.dst L v H') L h):ar P o E (Post F H ρ o.dst L (Dl v) H') L h:=by
 refine js hh ?_;rintro L2 h2 ⟨ρ',av,rfl,m1,m2,m3,m4⟩;obtain⟨av',a1,a2⟩:=Du m1;refine⟨Abs.bindD o.dst av' L,h2,⟨ρ',av',rfl,a1,m2,m3,m4⟩,λLf=>⟨λE ι I a w r=>⟨I,{r with slots:=λt u hu=> ?_}⟩⟩⟩;rw[hd]at hu r;simp only[Abs.bindD,List.cons_append,List.lookup_cons]at hu;have rs:=r.slots t;simp only[Abs.bindD,List.cons_append,List.lookup_cons]at rs;split at hu
 ·rename_i e;rw[e]at rs;obtain⟨c,c1,c2⟩:=rs av rfl;cases hu;exact⟨c,c1,a2 _ _ _ _ c2⟩
 ·rename_i e;rw[e]at rs;exact rs u hu
theorem wl (htb:TBOK P tb) (hO:fg P O) {nt:Nat} (hE:E.n=nt) {im:List Nat} {o:Oper} {K:AT->List Ob->Option R} {r:R} (hc:BV tb O nt im o D H K=some r):∃v H',K v H'=some r/\∀F,cB P o E F D H v H'/\Unt (gW tb O im o D H) H H':=by
 have plain:∀{K:AT->List Ob->Option R},jc tb im o D H=none->one tb O nt o D H K=some r->∃v H',K v H'=some r/\∀F,cB P o E F D H v H'/\Unt (gW tb O im o D H) H H':=λ{K} hq hc=>let⟨v,H',h1,h2,h3⟩:=EX htb hO hE hc;⟨v,H',h1,λF=>⟨h2 F,by unfold gW;rw[hq];exact h3⟩⟩
 unfold BV at hc;split at hc
 ·rename_i d hd;split at hc
  ·obtain⟨v,h1,h2⟩:=pO (E:=E) htb hE hc;exact⟨v,H,h1,λF=>⟨h2 F H,.refl _ _⟩⟩
  ·split at hc
   ·rename_i hb;rw[bA]at hb;have hq:jc     tb im o D H=none:=by
     obtain⟨dst,op,ty,pos,af,gd⟩:=o;have hb:=hb.2;cases op<;>first|rfl|cases hb
    obtain⟨v,H',h1,h2⟩:=plain hq hc;exact⟨Dl v,H',h1,λF=>⟨λρ L h hs hh hf=>BF hd ((h2 F).1 ρ L h hs hh hf),(h2 F).2⟩⟩
   ·split at hc
    ·rename_i q hq;split at hc
     ·rename_i hlt;obtain⟨z,h1,h2⟩:=Pl.run_has hc;obtain⟨k1,k2⟩:=xS (E:=E) htb hd (by rw[hE];simpa [Nat.blt_eq]using hlt) hq h1;exact⟨z.1,z.2,h2,λF=>⟨k1 F,by unfold gW;rw[hq];exact k2⟩⟩
     ·cases hc
    ·rename_i hq;exact plain hq hc
 ·rename_i hd;exact plain (s8 hd) hc
def DH (P:Program) (o:Oper) (E:Abs.Cx) (F:In) (D:List (Nat×AT)) (H:List Ob) (v:AT) (H':List Ob):Prop:=
 ∀ρ L h,EncL ρ H D L->HpR ρ H h->Fr F ρ H h->XR F ρ H h->ar P o E (λL2 h2=>∃ρ' av,L2=Abs.bindD o.dst av L/\ATR ρ' H' v av/\HpR ρ' H' h2/\Ev ρ H ρ' H'/\Fr F ρ' H' h2/\XR F ρ' H' h2) L h
theorem qF {ids:List Nat} {H':List Ob} (hu:Unt ids H H') (hk:okX H ids H'=true):RowsSame H H':=λid y hy hr=>by
 unfold okX at hk;rw[bA]at hk;by_cases hid:id<H.length
 ·by_cases hm:id∈ids
  ·have:=aT.1 hk.1 id hm;rw[hy]at this;have t2:(!y.isRows)=true:=this;rw[hr]at t2;cases t2
  ·have e:=List.getElem?_eq_getElem hid;have:=hu id _ e hm;rw[hy]at this;cases this;exact e
 ·have:y∈H'.drop H.length:=by
   refine mG (i:=id-H.length) ?_;rw[List.getElem?_drop,show H.length+(id-H.length)=id by omega];exact hy
  have t2:(!y.isRows)=true:=aT.1 hk.2 y this;rw[hr]at t2;cases t2
section
variable {d : Nat} {ty : TypeId} {pos : String} {af : Array Edge} {gd : Option (Nat × Bool)} {id k : Nat} {T : Ty} {xss : List (List (I T))}
end
theorem vJ (htb:TBOK P tb) {im:List Nat} {o:Oper} {p:Pl (AT×List Ob)} (he:DW tb im o D H=some p) {v:AT} {H':List Ob} (hv:p.has (v,H')) (hd:∀d,o.dst=some d->d<E.n):DH P o E F D H v H':=by unfold DW at he;cases he
theorem BK (htb:TBOK P tb) (hO:fg P O) {nt:Nat} (hE:E.n=nt) {im:List Nat} {o:Oper} {K:AT->List Ob->Option R} {r:R} (hc:EY tb O nt im o D H K=some r):∃v H',K v H'=some r/\DH P o E F D H v H':=by
 unfold EY at hc;split at hc
 ·rename_i p he;split at hc
  ·rename_i d hd;split at hc
   ·rename_i hlt;obtain⟨q,h1,h2⟩:=Pl.run_has hc;exact⟨q.1,q.2,h2,vJ htb he h1 λd' h'=>by rw[hd]at h';cases h';rw[hE];simpa [Nat.blt_eq]using hlt⟩
   ·cases hc
  ·rename_i hd;obtain⟨q,h1,h2⟩:=Pl.run_has hc;exact⟨q.1,q.2,h2,vJ htb he h1 λd' h'=>by rw[hd]at h';cases h'⟩
 ·obtain⟨v,H',k1,k2⟩:=wl      (E:=E) htb hO hE hc;split at k1
  ·rename_i hok;refine⟨v,H',k1,λρ L h hs hp hf hx=>pB ((k2 ⟨h,ρ,H⟩).1 ρ L h hs hp (Fr.refl _ _ _)) ?_⟩;rintro L3 h3 ⟨ρ',av,rfl,m1,m2,m3,m4⟩;exact⟨ρ',av,rfl,m1,m2,m3,hf.trans m4,hx.keep m4 (qF (k2 ⟨h,ρ,H⟩).2 hok)⟩
  ·cases k1
theorem zz (htb:TBOK P tb) {nt:Nat} (hE:E.n=nt) {im:List Nat} {ops:Array Oper} {o:Oper} {rest rest2:List Oper} {o2:Oper} (hrest:rest=o2::rest2) {p:Pl (List (Nat×AT)×List Ob)} (hp:Bm tb nt im o rest D H=some p) {q:List (Nat×AT)×List Ob} (hq:p.has q) {K:Env->ag->Prop}
  (hs:EncL ρ H D L) (hh:HpR ρ H h) (hf:Fr F ρ H h) (hxr:XR F ρ H h) (hk:∀ρ' L' h',SR F ρ' ⟨q.1,q.2⟩ L' h'->Abs.ao P ops rest2 E K L' h'):Abs.ao P ops (o::rest) E K L h:=by unfold Bm at hp;cases hp
theorem lK (htb:TBOK P tb) (hO:fg P O) {nt:Nat} (hE:E.n=nt) {im:List Nat} {ops:List Oper} {K:St->Option R} {r:R}:∀{rest:List Oper} {st:St} {ρ:Rho} {L:Env} {h:ag},yg tb O nt im ops rest st K=some r->SR F ρ st L h->ao P ops.toArray rest E (λL2 h2=>∃ρ' st',K st'=some r/\SR F ρ' st' L2 h2) L h
 |[],st,ρ,L,h,hc,hs=>Abs.El ⟨ρ,st,hc,hs⟩
 | o :: rest, st, ρ, L, h, hc, hs => by
  unfold yg at hc;obtain⟨L2,h2,sh,hs2⟩:=ef (ids:=pu O im o st.L) hs;refine Abs.Bf sh ?_;clear hs sh L h;obtain⟨st1,e1⟩:∃st1,st1=bM (pu O im o st.L) st:=⟨_,rfl⟩;rw[<-e1]at hs2;simp only[prep,<-e1]at hc;split at hc
  ·rename_i p hp;split at hc
   ·rename_i o2 rest2;obtain⟨q,q1,q2⟩:=Pl.run_has hc;exact zz (F:=F) htb hE rfl hp q1 hs2.slots hs2.heap hs2.fr hs2.xr λρ' L' h' hs'=>lK htb hO hE q2 hs'
   ·cases hc
  obtain⟨D',hsame,hcase⟩:=ip (λ_ _ h=>h) hc;have hse:=hsame.enc hs2.slots;rcases hcase with⟨g,k⟩|⟨g,k⟩
  ·have run:ar P o E (ao P ops.toArray rest E (λL2 h2=>∃ρ' st',K st'=some r/\SR F ρ' st' L2 h2)) L2 h2:=by
    obtain⟨v,H',k1,k2⟩:=BK (F:=F) htb hO hE k;refine pB (k2 ρ L2 h2 hse hs2.heap hs2.fr hs2.xr) ?_;rintro L3 h3 ⟨ρ',av,rfl,m1,m2,m3,m4,m5⟩;exact lK htb hO hE k1 ⟨iu (hse.mono m3) m1,m2,m4,m5⟩
   cases g with
   |run hg=>exact Abs.Da hg run
   |runG hg hj hd=>exact Abs.En hg hj (vp hs2.slots hd) rfl run
  ·have skip:∀{d'},o.dst=some d'->ao P ops.toArray rest E (λL2 h2=>∃ρ' st',K st'=some r/\SR F ρ' st' L2 h2) ((d',.tup [])::L2) h2:=λ{d'} hdst=>by
    have:=iu (dst:=o.dst) hse (jF (ρ:=ρ) (H:=st1.H));rw[hdst]at this k;exact lK htb hO hE k ⟨this,hs2.heap,hs2.fr,hs2.xr⟩
   cases g with
   |skip hg hj hd hp hdst hn=>exact Abs.Cz hg hj (vp hs2.slots hd) hp hdst (by rw[hE];exact hn) (skip hdst)
   |skipU hg hj hd hdst hn=>exact Abs.zw hg hj (Dz hs2.slots hd) hdst (by rw[hE];exact hn) (skip hdst)
end
section
variable {P : Program} {E : Abs.Cx} {F : In} {ρ ρ' : Rho} {H : List Ob} {D : List (Nat × AT)} {L : Env} {h h' : ag} {R : Type} {tb : Nat → Option TI} {O : Orc}
theorem dH (dst:Option Nat) (v:AT) (L:List (Nat×AT)):gr dst v L=Draw.bindD dst v L:=by cases dst<;>rfl
theorem EncL.sub {D':List (Nat×AT)} (h:EncL ρ H D L) (hs:Draw.Sub D' D):EncL ρ H D' L:=λt v hv=>h t v (hs t v hv)
def sys (P : Program) (E : Abs.Cx) (F : In) (ops : Array Oper) (Hm : List Ob) : Draw.Sys P ops AT (List Ob) where
 Rel:=λD H a w=>Le Hm H/\∃ρ L h ι I,SR0 F ρ ⟨D,H⟩ L h/\Abs.Rel E L h ι I a w
 OT:=λo D v H H'=>Le Hm H->Le Hm H'/\((Gd ops E.n o D true/\cB P o E F D H v H')\/(Gd ops E.n o D false/\v= .tup []/\H'=H))
 weaken:=λ⟨hle,ρ,L,h,ι,I,hs,r⟩ k=>⟨hle,ρ,L,h,ι,I,⟨hs.slots.sub k,hs.heap,hs.fr⟩,r⟩
 same:=λ⟨hle,ρ,L,h,ι,I,hs,r⟩ e1 e2 e3 e4=>⟨hle,ρ,L,h,ι,I,hs,r.same e1 e2 e3 e4⟩
 sound:=λ{o D Dg v H H' i a w Q K} ht hsub ho ⟨hle,ρ,L,h,ι,I,hs,r⟩ hk=>by
  unfold wpOp;rw[ho];simp only[];obtain⟨hle',ht⟩:=ht hle;rcases ht with⟨g,hop⟩|⟨g,rfl,rfl⟩
  ·have hw:Region.wanted o (yielded ops a.tmps)=true:=by
    cases g with
    |run hg=>simp[Region.wanted,hg]
    | runG hg hj hd =>
     have hy:=r.yields (ops:=ops) hj (vp hs.slots (hsub _ _ hd));simp[Region.wanted,hg,hy]
   rw[if_pos hw];refine .inl (Abs.gP ?_ (λ_ _ _ f=>f.elim) ((hop ρ L h (hs.slots.sub hsub) hs.heap hs.fr).get [] ι I a w (by rw[List.append_nil];exact r)));rintro a' w' ⟨L',h2,ι',I',⟨ρ',av,rfl,m1,m2,m3,m4⟩,r'⟩;refine hk a' w' ⟨hle',ρ',_,h2,ι',I',⟨?_,m2,m4⟩,r'.low⟩;show EncL ρ' _ (Draw.bindD o.dst v Dg) _;rw[<-dH];exact iu (hs.slots.mono m3) m1
  ·have fin:∀{d'},o.dst=some d'->d'<E.n->K (a.put (some d') undef) w:=λ{d'} hdst hn=>by
    refine hk _ _ ⟨hle,ρ,_,h,ι,I,⟨?_,hs.heap,hs.fr⟩,r.put hn Abs.AR.none_⟩;show EncL ρ _ (Draw.bindD o.dst _ Dg) _;rw[<-dH,hdst];exact iu (dst:=some d') hs.slots jF
   cases g with
   | skip hg hj hd hp hdst hn =>
    have hy:=r.yields (ops:=ops) hj (vp hs.slots (hsub _ _ hd));rw[if_neg (by simp[Region.wanted,hg,hy,hp]),hdst];exact fin hdst hn
   | skipU hg hj hd hdst hn =>
    have hy:=r.yieldsU (ops:=ops) hj (Dz hs.slots (hsub _ _ hd));rw[if_neg (by simp[Region.wanted,hg,hy]),hdst];exact fin hdst hn
theorem p7 {ops:Array Oper} {S:Draw.Sys P ops AT (List Ob)} {ch rd π σ:List Nat} {D Df:List (Nat×AT)} {hs hf:List (List Ob)} (d:Draw.DR S ch rd π σ D hs Df hf):∀{D':List (Nat×AT)},Same D D'->∃Df',Draw.DR S ch rd π σ D' hs Df' hf/\Same Df Df':=by
 induction d with
 |nil L hs=>exact λh=>⟨_,.nil _ _,h⟩
 | pure ho hc ht _ ih =>
  intro D' h;have hb:=h.bind;simp only[dH]at hb;obtain⟨Df',k1,k2⟩:=ih (hb _ _);exact⟨Df',.pure ho hc (by rw[<-h.sel];exact ht) k1,k2⟩
 | read ho hc hr ht _ ih =>
  intro D' h;have hb:=h.bind;simp only[dH]at hb;obtain⟨Df',k1,k2⟩:=ih (hb _ _);exact⟨Df',.read ho hc hr (by rw[<-h.sel];exact ht) k1,k2⟩
 | chain ho hc ht _ ih =>
  intro D' h;have hb:=h.bind;simp only[dH]at hb;obtain⟨Df',k1,k2⟩:=ih (hb _ _);exact⟨Df',.chain ho hc (by rw[<-h.sel];exact ht) k1,k2⟩
theorem gU       (htb : TBOK P tb) (hO : fg    P O) {nt : Nat} (hE : E.n = nt) {im : List Nat} {ops : Array Oper} {Hm : List Ob} {π ch rd : List Nat} {K : List (Nat × AT) → List Ob → Option R} {r : R} : ∀ {rest done : List Nat} {D : List (Nat × AT)} {Hd H : List Ob} {hs : List (List Ob)}, dJ    tb O nt im ops Hm π ch rd done rest D Hd H K = some r → hs.length = Abs.cnt ch done → (∀ h ∈ H :: hs, Le Hd h) →
  ∃Df Hl hl Df',Draw.DR (sys P E F ops Hm) ch rd π rest D (H::hs) Df' (Hl::hl)/\Same Df Df'/\K Df Hl=some r/\RowsSame H Hl
 |[],done,D,Hd,H,hs,hc,_,_=>⟨D,H,hs,D,.nil _ _,.refl _,hc,.refl _⟩
 | i :: rest, done, D, Hd, H, hs, hc, hl, hle => by
  unfold dJ at hc;split at hc
  ·cases hc
  rename_i o ho;have hcnt:Abs.cnt ch (i::done)=Abs.cnt ch done+(if ch.contains i then 1 else 0):=by
   unfold Abs.cnt;rw[List.countP_cons]
  have hsub:Draw.Sub (Draw.sel D (o.looksAt ops)) D:=Draw.sel_sub λ_ _=>rfl;simp only at hc;split at hc
  ·rename_i hch;have hcnt':(H::hs).length=Abs.cnt ch (i::done):=by rw[hcnt,if_pos hch,List.length_cons,hl]
   have go:∀{v:AT} {Hd' H':List Ob} {D':List (Nat×AT)},RowsSame H H'->Same D' D->(sys P E F ops Hm).OT o (Draw.sel D (o.looksAt ops)) v H H'->Le Hd' Hd->Le Hd' H'->dJ tb O nt im ops Hm π ch rd (i::done) rest (gr o.dst v D') Hd' H' K=some r->
     ∃Df Hl hl Df',Draw.DR (sys P E F ops Hm) ch rd π (i::rest) D (H::hs) Df' (Hl::hl)/\Same Df Df'/\K Df Hl=some r/\RowsSame H Hl:=λ{v Hd' H' D'} hrs hsm ht hd1 hd2 hc=>by
    obtain⟨Df,Hl,hl',Df',k1,k3,k2⟩:=gU htb hO hE (hs:=H::hs) hc hcnt' (λh hm=>by
     rcases List.mem_cons.1 hm with rfl|hm
     ·exact hd2
     ·exact hd1.trans (hle h hm))
    obtain⟨Df2,m1,m2⟩:=p7 k1 (hsm.bind o.dst v);rw[dH]at m1;exact⟨Df,Hl,hl',Df2,.chain ho hch ht m1,k3.trans m2,k2.1,hrs.trans k2.2⟩
   obtain⟨D',hsm,⟨g,k⟩|⟨g,k⟩⟩:=ip hsub hc
   ·split at k
    ·rename_i htc;obtain⟨v,H',k1,k24⟩:=wl      (E:=E) htb hO hE k;have k2:=λF=>(k24 F).1;have k4:=(k24 F).2;split at k1
     ·rename_i hok;exact go (qF k4 hok) hsm (λhle=>⟨hle.unt k4 htc,.inl ⟨by rw[hE];simpa using g,k2 F⟩⟩) (rD _ _) ((hle H (by simp)).hide k4) k1
     ·cases k1
    ·cases k
   ·exact go (.refl _) hsm (λhle=>⟨hle,.inr ⟨by rw[hE];simpa using g,rfl,rfl⟩⟩) (.refl _) (hle H (by simp)) k
  ·rename_i hch;have hch':ch.contains i=false:=by simpa using hch
   have hcnt':hs.length=Abs.cnt ch (i::done):=by rw[hcnt,if_neg hch];exact hl
   split at hc
   ·rename_i hrd
    have go:∀{v:AT} {D':List (Nat×AT)},Same D' D->(∀H2∈(H::hs).take ((H::hs).length-Abs.cnt ch (π.filter λj=>Abs.bJ ops j i)),(sys P E F ops Hm).OT o (Draw.sel D (o.looksAt ops)) v H2 H2)->dJ tb O nt im ops Hm π ch rd (i::done) rest (gr o.dst v D') Hd H K=some r->
      ∃Df Hl hl Df',Draw.DR (sys P E F ops Hm) ch rd π (i::rest) D (H::hs) Df' (Hl::hl)/\Same Df Df'/\K Df Hl=some r/\RowsSame H Hl:=λ{v D'} hsm ht hc=>by
     obtain⟨Df,Hl,hl',Df',k1,k3,k2⟩:=gU htb hO hE (hs:=hs) hc hcnt' hle;obtain⟨Df2,m1,m2⟩:=p7 k1 (hsm.bind o.dst v);rw[dH]at m1;exact⟨Df,Hl,hl',Df2,.read ho hch' hrd ht m1,k3.trans m2,k2⟩
    obtain⟨D',hsm,⟨g,k⟩|⟨g,k⟩⟩:=ip hsub hc
    ·split at k
     ·obtain⟨v,k1,k2⟩:=pO (E:=E) htb hE k;exact go hsm (λH2 _ hle=>⟨hle,.inl ⟨by rw[hE];simpa using g,k2 F H2⟩⟩) k1
     ·split at k
      ·rename_i hkp;obtain⟨v,k1,k2⟩:=vR      (F:=F) (E:=E) htb hO hE hkp k;refine go hsm (λH2 hm hle2=>⟨hle2,.inl ⟨by rw[hE];simpa using g,k2 H2 ?_⟩⟩) k1;split
       ·rename_i hb;have hb:=Nat.le_of_ble_eq_true hb;have hk:(H::hs).length-Abs.cnt ch (π.filter λj=>Abs.bJ    ops j i)<=1:=by rw[List.length_cons];omega
        have:H2=H:=by
         have h2:H2∈(H::hs).take 1:=by
          have e:(H::hs).take ((H::hs).length-Abs.cnt ch (π.filter λj=>Abs.bJ ops j i))=((H::hs).take 1).take ((H::hs).length-Abs.cnt ch (π.filter λj=>Abs.bJ ops j i)):=by rw[List.take_take,Nat.min_eq_left hk]
          rw[e]at hm;exact List.mem_of_mem_take hm
         simpa using h2
        rw[this];exact .refl H
       ·exact hle H2 (List.mem_of_mem_take hm)
      ·cases k
    ·exact go hsm (λH2 _ hle=>⟨hle,.inr ⟨by rw[hE];simpa using g,rfl,rfl⟩⟩) k
   ·have go:∀{v:AT} {D':List (Nat×AT)},Same D' D->(∀H,(sys P E F ops Hm).OT o (Draw.sel D (o.looksAt ops)) v H H)->dJ    tb O nt im ops Hm π ch rd (i::done) rest (gr    o.dst v D') Hd H K=some r->
      ∃Df Hl hl Df',Draw.DR (sys P E F ops Hm) ch rd π (i::rest) D (H::hs) Df' (Hl::hl)/\Same Df Df'/\K Df Hl=some r/\RowsSame H Hl:=λ{v D'} hsm ht hc=>by
     obtain⟨Df,Hl,hl',Df',k1,k3,k2⟩:=gU htb hO hE (hs:=hs) hc hcnt' hle;obtain⟨Df2,m1,m2⟩:=p7 k1 (hsm.bind o.dst v);rw[dH]at m1;exact⟨Df,Hl,hl',Df2,.pure ho hch' ht m1,k3.trans m2,k2⟩
    obtain⟨D',hsm,⟨g,k⟩|⟨g,k⟩⟩:=ip hsub hc
    ·split at k
     ·obtain⟨v,k1,k2⟩:=pO (E:=E) htb hE k;exact go hsm (λH hle=>⟨hle,.inl ⟨by rw[hE];simpa using g,k2 F H⟩⟩) k1
     ·split at k
      ·rename_i hkp;obtain⟨v,k1,k2⟩:=vR (F:=F) (E:=E) (H:=Hm) htb hO hE hkp k;exact go hsm (λH hle=>⟨hle,.inl ⟨by rw[hE];simpa using g,k2 H hle⟩⟩) k1
      ·cases k
    ·exact go hsm (λH hle=>⟨hle,.inr ⟨by rw[hE];simpa using g,rfl,rfl⟩⟩) k
def Goes (F:In) (K:Kt R) (r:R):Exit->Env->ag->Prop:=λe L h=>∃ρ' st',K e st'=some r/\SR F ρ' st' L h
def gh (P:Program) (an:Ann) (c:Code) (f:(R:Type)->St->Kt R->Option R):Prop:=∀(R:Type) (E:Abs.Cx) (F:In),E.n=an.nt->F.ok an.refs->∀(st:St) (K:Kt R) (r:R) (ρ:Rho) (L:Env) (h:ag),f R st K=some r->SR F ρ st L h->aw P c E (Goes F K r) L h
def AllP (P:Program) (an:Ann) (pc:Pcs):List (Nat×Nat×Code)->Prop
 |[]=>True
 |p::l=>gh P an p.2.2 (λR=>pc.at_ p.1 R p.2.1)/\AllP P an pc l
theorem AllP.app {an:Ann} {pc:Pcs}:∀{a b:List (Nat×Nat×Code)},AllP P an pc (a++b)->AllP P an pc a/\AllP P an pc b
 |[],_,h=>⟨trivial,h⟩
 |_::_,_,h=>let⟨h1,h2⟩:=AllP.app h.2;⟨⟨h.1,h1⟩,h2⟩
theorem qG {c:Operand} {b:Bool} {st:St} (hs:SR F ρ st L h) (hx:ev st.L c=some (.one (.b b))):SR F ρ (rz c b st) L h:=by
 cases c with
 |tmp t=>exact⟨Same.enc (fE hx) hs.slots,hs.heap,hs.fr,hs.xr⟩
 |_=>exact hs
theorem gV (hm:P.follows .mixedOrders=true) (htb:TBOK P tb) (hO:fg P O) {an:Ann} {pc:Pcs} (hE:E.n=an.nt) (hF:F.ok an.refs):∀{c:Code} {st:St} {K:Kt R} {r:R} {ρ:Rho} {L:Env} {h:ag},AllP P an pc (bN an c)->den tb O pc an c st K=some r->SR F ρ st L h->aw P c E (Goes F K r) L h
 | .skip,st,K,r,ρ,L,h,_,hc,hs=>Abs.De ⟨ρ,st,hc,hs⟩
 | .ret,st,K,r,ρ,L,h,_,hc,hs=>Abs.DY ⟨ρ,st,hc,hs⟩
 | .exit id,st,K,r,ρ,L,h,_,hc,hs=>Abs.CW ⟨ρ,st,hc,hs⟩
 | .seq a b, st, K, r, ρ, L, h, hP, hc, hs => by
  unfold bN at hP;obtain⟨hP1,hP2⟩:=hP.app;refine Abs.ED (Abs.jD ?_ (gV hm htb hO hE hF (c:=a) hP1 hc hs));rintro e L h ⟨ρ',st',k1,k2⟩;cases e with
  | normal =>
   simp only[ry]at k1;simp only[Abs.Bz];split at hP2
   ·rename_i lv hl;rw[hl]at k1;obtain⟨ρ2,st2,m1,m2⟩:=bu hF k2 k1;exact hP2.1 R E F hE hF _ _ _ _ _ _ m1 m2
   ·rename_i hl;rw[hl]at k1;exact gV hm htb hO hE hF (c:=b) hP2 k1 k2
  |_=>exact⟨ρ',st',k1,k2⟩
 | .block id a, st, K, r, ρ, L, h, hP, hc, hs => by
  refine Abs.Ax (Abs.jD ?_ (gV hm htb hO hE hF (c:=a) hP hc hs));rintro e L h ⟨ρ',st',k1,k2⟩;cases e with
  | exit id' =>
   simp only[yM]at k1;simp only[Abs.uM];by_cases hid:id'=id
   ·subst hid;rw[if_pos (Nat.beq_refl id')]at k1;rw[if_pos rfl];exact⟨ρ',st',k1,k2⟩
   ·rw[if_neg (λhb=>hid (nB hb))]at k1;rw[if_neg hid];exact⟨ρ',st',k1,k2⟩
  |_=>exact⟨ρ',st',k1,k2⟩
 | .cond x a b, st, K, r, ρ, L, h, hP, hc, hs => by
  unfold bN at hP;obtain⟨hP1,hP2⟩:=hP.app;unfold den at hc;split at hc
  ·rename_i p hx;obtain⟨av,h1,h2⟩:=aF    hs.slots hx;obtain⟨u,rfl,h3⟩:=h2.one';rw[h3.bool]at h1;refine Abs.Cv      h1 (λe=> ?_) (λe=> ?_)
   ·subst e;have hs:=qG       hs hx;simp only[cT]at hc;split at hP1
    ·rename_i lv hl;rw[hl]at hc;obtain⟨ρ2,st2,m1,m2⟩:=bu hF hs hc;exact hP1.1 R E F hE hF _ _ _ _ _ _ m1 m2
    ·rename_i hl;rw[hl]at hc;exact gV hm htb hO hE hF (c:=a) hP1 hc hs
   ·subst e;have hs:=qG       hs hx;simp only[cF]at hc;split at hP2
    ·rename_i lv hl;rw[hl]at hc;obtain⟨ρ2,st2,m1,m2⟩:=bu hF hs hc;exact hP2.1 R E F hE hF _ _ _ _ _ _ m1 m2
    ·rename_i hl;rw[hl]at hc;exact gV hm htb hO hE hF (c:=b) hP2 hc hs
  ·cases hc
 | .loop a, st, K, r, ρ, L, h, hP, hc, hs => by
  unfold den at hc;split at hc
  ·obtain⟨ρ1,st1,k1,k2⟩:=bu hF hs hc;exact hP.1 R E F hE hF _ _ _ _ _ _ k1 k2
  ·cases hc
 | .region id ⟨ops⟩ false,st,K,r,ρ,L,h,_,hc,hs=>Abs.xM (lK htb hO hE hc hs)
 | .region id ops true, st, K, r, ρ, L, h, hP, hc, hs => by
  unfold bN at hP;unfold den at hc;split at hc
  ·rename_i d hpl;rw[hpl]at hP;simp only at hP;split at hc
   ·cases hc
   ·rename_i π ch rd ho;split at hc
    ·rename_i hp;obtain⟨L2,h2,sh,hs2⟩:=ef (ids:=aZ st.L st.H d.fz) hs;simp only at hc;refine Abs.sF sh ?_;obtain⟨Df,Hl,hl,Df',k1,k3,k2,k4⟩:=gU (F:=⟨h2,ρ,(bM (aZ st.L st.H d.fz) st).H⟩) (E:=E) htb hO hE (hs:=[]) hc rfl (λh hm=>by simp at hm;subst hm;exact .refl _);refine⟨λι I a w rel=> ?_⟩;refine Draw.draw (S:=sys P E ⟨h2,ρ,(bM (aZ st.L st.H d.fz) st).H⟩ ops (eM d.vis (bM (aZ st.L st.H d.fz) st).H)) hm π ch rd hp k1 (λa w ⟨_,ρ',L',h',ι',I',q1,q2⟩=>⟨L',h',ι',I',⟨ρ',⟨Df,Hl⟩,k2,⟨k3.enc q1.slots,q1.heap,hs2.fr.trans q1.fr,hs2.xr.keep q1.fr k4⟩⟩,q2⟩) ⟨rL _ _,ρ,L2,h2,ι,I,⟨hs2.slots,hs2.heap,Fr.refl _ _ _⟩,rel⟩
    ·cases hc
   ·rename_i x y l ho;rw[ho]at hP;obtain⟨ρ1,st1,k1,k2⟩:=bu hF hs hc;exact hP.1 R E F hE hF _ _ _ _ _ _ k1 k2
  ·cases hc
theorem mJ (hm:P.follows .mixedOrders=true) (htb:TBOK P tb) (hO:fg P O) {an:Ann} {ops:Array Oper} {id:Nat} {o:Outs} {d:Dw} (hp:Abs.lA ops d.cs d.orders=true) {f:(R:Type)->St->Kt R->Option R}
  (hf:∀p∈d.orders,∀(R:Type) (st:St) (K:Kt R) (r:R),f R st K=some r->(λst1:St=>dJ tb O an.nt an.im ops (eM d.vis st1.H) p.1 p.2.1 p.2.2 [] p.1 st1.L st1.H st1.H λL H=>jO an.refs o K .normal ⟨L,H⟩) (bM (aZ st.L st.H d.fz) st)=some r):gh P an (.region id ops true) f:=
 fun R E F hE hF st K r ρ L h hk hs => by
  obtain⟨L2,h2,sh,hs2⟩:=ef (ids:=aZ st.L st.H d.fz) hs;refine Abs.sF sh ⟨λι I a w rel=> ?_⟩;refine Draw.drawL (S:=sys P E ⟨h2,ρ,(bM (aZ st.L st.H d.fz) st).H⟩ ops (eM d.vis (bM (aZ st.L st.H d.fz) st).H)) (L:=(bM (aZ st.L st.H d.fz) st).L) (h:=(bM (aZ st.L st.H d.fz) st).H) hm d.cs d.orders hp (λp hpm=> ?_) ⟨rL _ _,ρ,L2,h2,ι,I,⟨hs2.slots,hs2.heap,Fr.refl _ _ _⟩,rel⟩;obtain⟨Df,Hl,hl,Df',k1,k3,k2,k4⟩:=gU (F:=⟨h2,ρ,(bM (aZ st.L st.H d.fz) st).H⟩) (E:=E) htb hO hE (hs:=[]) (hf p hpm R st K r hk) rfl (λh hm=>by simp at hm;subst hm;exact .refl _);refine⟨Df',Hl,hl,k1,λa w ⟨_,ρ',L',h',ι',I',q1,q2⟩=> ?_⟩;have q3:SR F ρ' ⟨Df,Hl⟩ L' h':=⟨k3.enc q1.slots,q1.heap,hs2.fr.trans q1.fr,hs2.xr.keep q1.fr k4⟩;obtain⟨ρ3,st3,m1,m2⟩:=bu hF q3 k2;exact⟨L',h',ι',I',⟨ρ3,st3,m1,m2⟩,q2⟩
theorem wR (hm:P.follows .mixedOrders=true) (htb:TBOK P tb) (hO:fg P O) {an:Ann} {pc:Pcs} {c:Code} {o:Outs} (hP:AllP P an pc (bN an c)) {f:(R:Type)->St->Kt R->Option R} (hf:∀(R:Type) (st:St) (K:Kt R) (r:R),f R st K=some r->den tb O pc an c st (jO an.refs o K)=some r):gh P an c f:=
 λR _ _ hE hF st K r _ _ _ hk hs=>Abs.jD (λ_ _ _ ⟨_,_,k1,k2⟩=>let⟨ρ2,st2,m1,m2⟩:=bu hF k2 k1;⟨ρ2,st2,m1,m2⟩) (gV hm htb hO hE hF hP (hf R st K r hk) hs)
theorem u7 (hm:P.follows .mixedOrders=true) (htb:TBOK P tb) (hO:fg P O) {an:Ann} {pc:Pcs} {c:Code} {lv:List Nat} {o:Outs} (hP:AllP P an pc (bN an c)) {f:Nat->(R:Type)->St->Kt R->Option R} (h0:∀(R:Type) (st:St) (K:Kt R),f 0 R st K=none)
  (hf:∀(n:Nat) (R:Type) (st:St) (K:Kt R) (r:R),f (n+1) R st K=some r->den tb O pc an c st (qo an.refs lv o (λst'=>f n R st' K) K)=some r) (n:Nat):gh P an (.loop c) (f n):=
 fun R E F hE hF st K r ρ L h hk hs => by
  refine Abs.Cl (λm L h=>∃ρ st,f m R st K=some r/\SR F ρ st L h) (Abs.rf L) ⟨ρ,st,hk,hs⟩ ?_;rintro m L h ⟨ρ,st,m1,m2⟩;cases m with
  |zero=>rw[h0]at m1;cases m1
  | succ m =>
   refine Abs.jD ?_ (gV hm htb hO hE hF hP (hf m R st K r m1) m2);rintro e L h ⟨ρ',st',k1,k2⟩;cases e with
   | normal =>
    simp only[qo,ry]at k1;obtain⟨ρ2,st2,q1,q2⟩:=bu hF k2 k1;exact⟨m,L,Nat.lt_succ_self m,Abs.rf L,ρ2,st2,q1,q2⟩
   | _ =>
    simp only[qo,ry,jO]at k1;obtain⟨ρ2,st2,q1,q2⟩:=bu hF k2 k1;exact⟨ρ2,st2,q1,q2⟩
end
def gN :Nat->List AT->List (Nat×AT)
 |_,[]=>[]
 |k,x::xs=>(k,x)::gN (k+1) xs
def DV (tb:Nat->Option TI) (L:List (Nat×AT)) (H:List Ob):ResultVar->Option AT
 | .tmp t=>L.lookup t
 | .cell a t => match L.lookup a, tb t with
  | some (.one (.p id off)), some ti => match H[id]? with
   |some (.box cs)=>ld ti.agg ti.size (cs.drop off)
   |_=>none
  |_,_=>none
def pa (tb:Nat->Option TI) (L:List (Nat×AT)) (H:List Ob):List ResultVar->Option (List AT)
 |[]=>some []
 | r :: rs => match DV tb L H r, pa tb L H rs with
  |some v,some vs=>some (v::vs)
  |_,_=>none
def AH :List AT->AT
 |[x]=>x
 |xs=>.tup xs
def qV :List AV->AV
 |[x]=>x
 |xs=>.tup xs
def DL :List AT->List Nat
 |[]=>[]
 | x :: xs => (match cells x with
  |some cs=>cs.flatMap C.rows
  |none=>[])++DL xs
def idsR (tb:Nat->Option TI) (rs:List ResultVar) (st:St):List Nat:=match pa tb st.L st.H rs with
 |some vs=>DL vs
 |none=>[]
def BS (tb:Nat->Option TI) (an:Ann) (rs:List ResultVar) (st:St):Option (AT×List Ob):=
 let st1:=bM (idsR tb rs st) st
 match pa tb st1.L st1.H rs with
 | some vs => match cg [] vs with
  |some us=>ci an.refs [] st1 λst2=>some (AH us,st2.H)
  |none=>none
 |none=>none
def mb (L:List (Nat×AT)):Nat->Nat->Option (List AT)
 |_,0=>some []
 | k, m + 1 => match L.lookup k, mb L (k + 1) m with
  |some v,some vs=>some (v::vs)
  |_,_=>none
def CY (tb:Nat->Option TI) (an:Ann) (rs:List ResultVar) (st:St):Option (AT×List Ob):=
 match pa tb st.L st.H rs with
 | some vs => ci an.refs (List.range vs.length) ⟨gN 0 vs, st.H⟩ fun st2 => match mb st2.L 0 vs.length with
  |some us=>some (AH us,st2.H)
  |none=>none
 |none=>none
def sQ {R:Type} (fin:St->Option R):Kt R
 | .normal,st=>fin st
 | .ret,st=>fin st
 |_,_=>none
section
variable {P : Program} {E : Abs.Cx} {F : In} {ρ ρ' : Rho} {H : List Ob} {D : List (Nat × AT)} {L : Env} {h h' : ag} {R : Type} {tb : Nat → Option TI} {O : Orc}
theorem kj :∀{k:Nat} {xs:List AT} {avs:List AV},ATRs ρ H xs avs->EncL ρ H (gN k xs) (Abs.fy k avs)
 |k,[],avs,_=>λt v hv=>by simp[gN]at hv
 | k, x :: xs, avs, hr => by
  obtain⟨av,avs,rfl,r1,r2⟩:=hr.head;intro t v hv;simp only[gN,List.lookup_cons]at hv;simp only[Abs.fy,List.lookup_cons];split at hv
  ·cases hv;exact⟨av,rfl,r1⟩
  ·exact kj r2 t v hv
theorem Dx (htb:TBOK P tb) {st:St} (hs:SR F ρ st L h) {rv:ResultVar} {v:AT} (hv:DV tb st.L st.H rv=some v):∃av,ATR ρ st.H v av/\Abs.Dm P L h rv av:=by
 cases rv with
 | tmp t =>
  obtain⟨av,h1,h2⟩:=hs.slots t v hv;exact⟨av,h2,Abs.zN h1⟩
 | cell a t =>
  unfold DV at hv;simp only at hv;split at hv
  ·rename_i id off ti h1 h2;split at hv
   ·rename_i cs h3;obtain⟨i,G⟩:=htb.get h2;obtain⟨av,k1,k2⟩:=hs.slots a _ h1;obtain⟨u,rfl,k3⟩:=k2.one';obtain⟨b,rfl,k4⟩:=k3.ptr;obtain⟨b',vs,k5,k6,k7⟩:=hs.heap.box id cs h3;rw[k4]at k5;cases k5;obtain⟨av,k8,k9⟩:=se hv (k7.drop off);exact⟨av,k9,Abs.xu G.tb k1 G.look k6 rfl (by rw[G.size,G.agg];exact k8)⟩
   ·cases hv
  ·cases hv
theorem mm (htb:TBOK P tb) {st:St} (hs:SR F ρ st L h):∀{rs:List ResultVar} {vs:List AT},pa tb st.L st.H rs=some vs->∃avs,ATRs ρ st.H vs avs/\Abs.ResL P L h rs avs
 |[],vs,hv=>by cases hv;exact⟨[],.nil_,.nil⟩
 | r :: rs, vs, hv => by
  simp only[pa]at hv;split at hv
  ·rename_i x xs h1 h2;cases hv;obtain⟨av,k1,k2⟩:=Dx htb hs h1;obtain⟨avs,k3,k4⟩:=mm htb hs h2;exact⟨av::avs,.cons k1 k3,.cons k2 k4⟩
  ·cases hv
theorem Weak.refl (a:List AV):Weak a a:=⟨rfl,λ_ _ _ _ _ _ _ h=>h⟩
theorem rq {fn:Func} {rs:List ResultVar} {avs bvs:List AV} (hr:fn.results=rs.toArray) (k:Abs.ResL P L h rs avs) (hw:Weak avs bvs):Abs.Res P fn L h (qV bvs):=
 ⟨fun E ι I a w r => by
  obtain⟨cs,e1,e2,e3⟩:=k.run r;have e0:results fn a.tmps=(do let vs ←rs.toArray.mapM (Abs.rP a.tmps);pure (if h:vs.size=1 then vs[0]else .tuple vs)):=by
   unfold results;rw[hr]
   congr 2
  have e4:∀j (hj:j<bvs.length),∃c,cs[j]? =some c/\Abs.AR ι I w bvs[j] c:=λj hj=>by
   obtain⟨c,g1,g2⟩:=e3 j (by rw[hw.1];exact hj);exact⟨c,g1,hw.2 j _ hj _ _ _ _ g2⟩
  have e2:cs.length=bvs.length:=e2.trans hw.1;rw[e0];simp only[List.mapM_toArray];by_cases h1:cs.length=1
  ·obtain⟨c,rfl⟩:=List.length_eq_one_iff.1 h1;obtain⟨b,rfl⟩:=List.length_eq_one_iff.1 (e2.symm.trans h1);obtain⟨c',g1,g2⟩:=e4 0 (by simp);simp at g1;subst g1;exact⟨c,by simp[e1],g2⟩
  ·refine⟨.tuple cs.toArray,by simp[e1,h1],?_⟩;have hp:qV    bvs= .tup bvs:=by
    match bvs,e2 with
    |[],_=>rfl
    |[b],e=>exact absurd e h1
    |b::c::l,_=>rfl
   rw[hp];refine .tup (f:=λj=>(cs[j]?).getD undef) (by simpa using e2) (λj hj=> ?_) (λj hj=> ?_)
   ·obtain⟨c,g1,_⟩:=e4 j hj;simp[g1]
   ·obtain⟨c,g1,g2⟩:=e4 j hj;simpa [g1]using g2⟩
theorem rB {xs:List AT} {avs:List AV} (h:ATRs ρ H xs avs):ATR ρ H (AH xs) (qV avs):=by
 match xs,avs,h with
 |[],[],h=>exact .tup rfl (λj h=>by simp at h)
 |[x],[a],h=>exact h.2 0 (by simp) (by simp)
 |x::y::l,a::b::m,h=>exact .tup h.1 h.2
 |[],a::m,h=>exact absurd h.1 (by simp)
 |x::l,[],h=>exact absurd h.1 (by simp)
 |[x],a::b::m,h=>exact absurd h.1 (by simp)
 |x::y::l,[a],h=>exact absurd h.1 (by simp)
theorem ov {H0 H1:List Ob} {ρ0:Rho}:∀{xs ys:List AT} {bvs:List AV},cg H0 xs=some ys->ATRs ρ0 H1 ys bvs->ATRs ρ H ys bvs
 | [], ys, bvs, hp, h => by
  cases hp;have:=h.1;cases bvs with
  |nil=>exact .nil_
  |cons _ _=>simp at this
 | x :: xs, ys, bvs, hp, h => by
  simp only[cg]at hp;split at hp
  ·rename_i y ys' h1 h2;cases hp;obtain⟨av,avs,rfl,r1,r2⟩:=h.head;exact .cons (rr h1 r1) (ov h2 r2)
  ·cases hp
theorem lR {L2:List (Nat×AT)}:∀{m k:Nat} {avs:List AV} {us:List AT} {E:Env},EncL ρ H L2 E->(∀j,j<m->∃av,avs[j]? =some av/\∀x,E.lookup (k+j)=some x->x=av)->avs.length=m->mb L2 k m=some us->ATRs ρ H us avs
 | 0, k, avs, us, E, _, _, hl, h => by
  cases h;rw[nZ hl];exact .nil_
 | m + 1, k, avs, us, E, he, hav, hl, h => by
  simp only[mb]at h;split at h
  ·rename_i v vs h1 h2;cases h;cases avs with
   |nil=>simp at hl
   | cons av avs =>
    obtain⟨av',g1,g2⟩:=hav 0 (by omega);simp at g1;subst g1;obtain⟨x,k1,k2⟩:=he k v h1;have:=g2 x (by simpa using k1);subst this;refine .cons k2 (lR he (λj hj=> ?_) (by simpa using hl) h2);obtain⟨y,m1,m2⟩:=hav (j+1) (by omega);exact⟨y,by simpa using m1,λz hz=>m2 z (by rw[<-hz];congr 1;omega)⟩
  ·cases h
theorem xG {L2:List (Nat×AT)} {n:Nat} {avs:List AV} {us:List AT} (he:EncL ρ H L2 (Abs.fy 0 avs)) (hl:n=avs.length) (h:mb L2 0 n=some us):ATRs ρ H us avs:=by
 refine lR he (λj hj=> ?_) hl.symm h;have hlt:j<avs.length:=by omega
 refine⟨avs[j],List.getElem?_eq_getElem hlt,λx hx=> ?_⟩;have:=(Abs.iK avs 0 (0+j) x hx).2;rw[Nat.zero_add,Nat.sub_zero,List.getElem?_eq_getElem hlt]at this;cases this;rfl
theorem Ee {g:Nat->Option Nat} {x x':Ob} (hm:x.mv g=some x'):evo x x':=by
 cases x with
 | box cs =>
  simp only[Ob.mv]at hm;split at hm
  ·cases hm;exact .inr (.inr (.inl ⟨_,_,rfl,rfl⟩))
  ·cases hm
 |row T n xs=>cases hm;exact evo.refl _
 |map T kvs=>cases hm;exact evo.refl _
 |gone=>cases hm;exact evo.refl _
 |rows T xss ho=>cases hm;exact evo.refl _
theorem BT {id:Nat} {xs xs':List AT} {H1:List Ob} {avs:List AV} (hr:EP id (xs,H)=some (xs',H1)) (hp:HpR ρ H h) (hf:Fr F ρ H h) (ha:ATRs ρ H xs avs):∃ρ',HpR ρ' H1 h/\Fr F ρ' H1 h/\ATRs ρ' H1 xs' avs:=by
 unfold EP at hr;simp only at hr;split at hr
 ·rename_i x hx;split at hr
  ·rename_i H' ys ho hm;cases hr;obtain⟨o1,o2⟩:=jl       ho;have hid:=(gI.1 hx).1;have hidρ:id<ρ.length:=by rw[hp.len];exact hid
   have e1:∀{i:Nat},i≠id->i<H.length->(H.set id .gone++[x])[i]? =H[i]? :=λ{i} hi hl=>by
    rw[aL (by simpa using hl),sN (λe=>hi e.symm)]
   have e2:(H.set id .gone++[x])[id]? =some .gone:=by
    rw[aL (by simpa using hid),sS hid]
   have e3:(H.set id .gone++[x])[H.length]? =some x:=by
    rw[aR (by simp)];simp
   have r1:∀{i:Nat},i<H.length->(ρ++[ρ[id]])[i]? =ρ[i]? :=λ{i} hl=>aL (by rw[hp.len];exact hl)
   have r2:(ρ++[ρ[id]])[H.length]? =ρ[id]? :=by
    rw[aR (by rw[hp.len];omega),hp.len,List.getElem?_eq_getElem hidρ];simp
   have hmv:oh (λj=>if Nat.beq j id then some H.length else some j) ρ H (ρ++[ρ[id]]) H1:=λi j hg=>by
    simp only at hg;split at hg
    ·rename_i hb;have:=nB hb;subst this;cases hg;refine⟨λz hz=>by rw[r2];exact hz,λz hz=> ?_⟩;rw[hx]at hz;cases hz;obtain⟨y,y1,y2⟩:=o2 _ _ e3;obtain⟨s1,s2,_⟩:=dK       y2;cases x with
     |row T m xs=>exact⟨y,m,y1,λe=>(by cases e),λT m xs e=>by cases e;exact s2 _ _ _ rfl,λT xss ho e=>by cases e⟩
     |rows T xss ho=>exact⟨y,0,y1,s1,λT m xs e=>(by cases e),ji y2⟩
     |gone=>exact⟨y,0,y1,s1,λT m xs e=>(by cases e),λT xss ho e=>by cases e⟩
     |box cs=>exact⟨y,0,y1,s1,λT m xs e=>(by cases e),λT xss ho e=>by cases e⟩
     |map T kvs=>exact⟨y,0,y1,s1,λT m xs e=>(by cases e),λT xss ho e=>by cases e⟩
    ·rename_i hb;cases hg;have hne:i≠id:=λe=>hb (by rw[e];exact Nat.beq_refl id);refine⟨λz hz=>by rw[r1 (by rw[<-hp.len];exact(gI.1 hz).1)];exact hz,λz hz=> ?_⟩;have hl:=(gI.1 hz).1;obtain⟨y,y1,y2⟩:=o2 _ _ ((e1 hne hl).trans hz);obtain⟨s1,s2,_⟩:=dK       y2;cases z with
     |row T m xs=>exact⟨y,m,y1,λe=>(by cases e),λT m xs e=>by cases e;exact s2 _ _ _ rfl,λT xss ho e=>by cases e⟩
     |rows T xss ho=>exact⟨y,0,y1,s1,λT m xs e=>(by cases e),ji y2⟩
     |gone=>exact⟨y,0,y1,s1,λT m xs e=>(by cases e),λT xss ho e=>by cases e⟩
     |box cs=>exact⟨y,0,y1,s1,λT m xs e=>(by cases e),λT xss ho e=>by cases e⟩
     |map T kvs=>exact⟨y,0,y1,s1,λT m xs e=>(by cases e),λT xss ho e=>by cases e⟩
   have hev:Ev ρ H (ρ++[ρ[id]]) H1:=by
    refine⟨λi z hz=>cq hz,λi z hz=> ?_⟩;have hl:=(gI.1 hz).1;by_cases hne:i=id
    ·subst hne;obtain⟨y,y1,y2⟩:=o2 _ _ e2;cases y2;exact⟨_,y1,.inl rfl⟩
    ·obtain⟨y,y1,y2⟩:=o2 _ _ ((e1 hne hl).trans hz);exact⟨y,y1,Ee y2⟩
   have hcame:∀(i a:Nat),(ρ++[ρ[id]])[i]? =some (some a)->live H1 i->∃i0,ρ[i0]? =some (some a)/\live H i0/\((i<H.length/\i0=i/\i≠id)\/(i=H.length/\i0=id)):=λi a hi hl=>by
    obtain⟨z,z1,z2⟩:=hl;have hlt:=(gI.1 z1).1;rw[o1]at hlt;simp at hlt;by_cases hL:i<H.length
    ·have hne:i≠id:=λe=>by
      subst e;obtain⟨y,y1,y2⟩:=o2 _ _ e2;cases y2;rw[y1]at z1;cases z1;cases z2
     refine⟨i,by rw[r1 hL]at hi;exact hi,hev.lv hL ⟨z,z1,z2⟩,.inl ⟨hL,rfl,hne⟩⟩
    ·have:i=H.length:=by omega
     subst this;obtain⟨y,y1,y2⟩:=o2 _ _ e3;rw[y1]at z1;cases z1;exact⟨id,by rw[r2]at hi;exact hi,⟨x,hx,by rw[<-d7 y2];exact z2⟩,.inr ⟨rfl,rfl⟩⟩
   refine⟨ρ++[ρ[id]],HpR.mk' (by rw[o1];simp[hp.len]) (λi z hz=> ?_) (λi j a h1 h2 l1 l2=> ?_) (λi a h1=> ?_),hf.step hev (Nat.le_refl _) (λi a h1 l1=> ?_) (λ_ _ _=>rfl),?_⟩
   ·have hlt:=(gI.1 hz).1;rw[o1]at hlt;simp at hlt;by_cases hL:i<H.length
    ·by_cases hne:i=id
     ·subst hne;obtain⟨y,y1,y2⟩:=o2 _ _ e2;cases y2;rw[y1]at hz;cases hz;exact .inr (.inr rfl)
     ·obtain⟨y,y1,y2⟩:=o2 _ _ ((e1 hne hL).trans (List.getElem?_eq_getElem hL));rw[y1]at hz;cases hz;rw[r1 hL];rcases hp.ob (List.getElem?_eq_getElem hL)with⟨a,w,m1,m2,m3⟩|⟨m1,T,n,m2,m3⟩|m1
      ·exact .inl ⟨a,w,m1,m2,s4 hmv m3 y2⟩
      ·rw[m2]at y2;cases y2;exact .inr (.inl ⟨m1,T,n,rfl,m3⟩)
      ·exact .inr (.inr (by rw[d7 y2];exact m1))
    ·have:i=H.length:=by omega
     subst this;obtain⟨y,y1,y2⟩:=o2 _ _ e3;rw[y1]at hz;cases hz;rw[r2];rcases hp.ob hx with⟨a,w,m1,m2,m3⟩|⟨m1,T,n,m2,m3⟩|m1
     ·exact .inl ⟨a,w,m1,m2,s4 hmv m3 y2⟩
     ·rw[m2]at y2;cases y2;exact .inr (.inl ⟨m1,T,n,rfl,m3⟩)
     ·exact .inr (.inr (by rw[d7 y2];exact m1))
   ·obtain⟨i0,k1,k2,k3⟩:=hcame i a h1 l1;obtain⟨j0,m1,m2,m3⟩:=hcame j a h2 l2;have:=hp.inj _ _ _ k1 m1 k2 m2;omega
   ·rcases Nat.lt_or_ge i H.length with hL|hL
    ·rw[r1 hL]at h1;exact hp.lt _ _ h1
    ·have hlt:=(gI.1 h1).1;simp at hlt;have:i=H.length:=by have:=hp.len;omega
     subst this;rw[r2]at h1;exact hp.lt _ _ h1
   ·obtain⟨i0,k1,k2,_⟩:=hcame i a h1 l1;exact .inl ⟨i0,k1,k2⟩
   ·obtain⟨h1,h2⟩:=jk hm;exact⟨by rw[h1];exact ha.1,λj k1 k2=>px hmv (ha.2 j (by omega) k2) (h2 j (by omega) k1)⟩
  ·cases hr
 ·cases hr
theorem vS :∀{rb:List Nat} {ρ:Rho} {H:List Ob} {xs xs':List AT} {H1:List Ob} {avs:List AV},yu rb (xs,H)=some (xs',H1)->HpR ρ H h->Fr F ρ H h->ATRs ρ H xs avs->∃ρ',HpR ρ' H1 h/\Fr F ρ' H1 h/\ATRs ρ' H1 xs' avs
 |[],ρ,H,xs,xs',H1,avs,hr,hp,hf,ha=>by cases hr;exact⟨ρ,hp,hf,ha⟩
 | id :: rb, ρ, H, xs, xs', H1, avs, hr, hp, hf, ha => by
  simp only[yu]at hr;split at hr
  ·rename_i q hq;obtain⟨ys,H2⟩:=q;obtain⟨ρ1,a1,a2,a3⟩:=BT hq hp hf ha;exact vS hr a1 a2 a3
  ·cases hr
theorem o8 {f:FuncId} {fn:Func} {c:Code} {rs:List ResultVar} {an:Ann} {pc:Pcs} {xs xs':List AT} {v:AT} {H1 H':List Ob} {rb:List Nat} {fin:St->Option (AT×List Ob)} (hm:P.follows .mixedOrders=true) (htb:TBOK P tb) (hO:fg P O) (hf:P.funcs[f]? =some fn) (hb:fn.body=some c) (hname:(fn.name== "runtime.NumGoroutine")=false)
  (hnt:Nat.beq fn.ntmps an.nt=true) (hx:Nat.ble xs.length an.nt=true) (hr:Nat.beq an.refs H.length=true) (hrs:fn.results=rs.toArray) (hfin:fin=BS tb an rs\/fin=CY tb an rs)
  (hP:AllP P an pc (bN an c)) (hrb:yu rb (xs,H)=some (xs',H1)) (hnr:(H1.all λo=> !o.isRows)=true) (hd:den tb O pc an c ⟨gN 0 xs',H1⟩ (sQ fin)=some (v,H')):CFn P f xs H v H':=by
 have hnt:=nB hnt;have hx:=Nat.le_of_ble_eq_true hx;have hr:=nB hr;intro ρ h avs hp ha;refine Abs.Ag hf hb hname (by rw[hnt,<-ha.1];exact hx) λE hE=> ?_;have hF:(In.mk h ρ H).ok an.refs:=⟨by rw[hr];exact hp.len,hr.symm⟩;obtain⟨ρ1,g1,g2,g3⟩:=vS hrb hp (Fr.refl ρ H h) ha;refine Abs.jD ?_ (gV (F:=⟨h,ρ,H⟩) hm htb hO (hE.trans hnt) hF hP hd ⟨kj g3,g1,g2,XR.none_ λid y hy=>by have:=aT.1 hnr y (mG hy);simpa using this⟩)
 have key:∀{st:St} {ρ':Rho} {L:Env} {h1:ag},fin st=some (v,H')->SR ⟨h,ρ,H⟩ ρ' st L h1->
   ∃L2 h2 r,Abs.Shift L h1 L2 h2/\Abs.Res P fn L2 h2 r/\Abs.Out h (λr h'=>∃ρ',ATR ρ' H' v r/\HpR ρ' H' h'/\Fr ⟨h,ρ,H⟩ ρ' H' h') r h2:=by
  intro st ρ' L h1 hk hs;rcases hfin with rfl|rfl
  ·unfold BS   at hk;obtain⟨L2,h2,sh,hs2⟩:=ef       (ids:=idsR tb rs st) hs;simp only at hk;split at hk
   ·rename_i vs hvs;split at hk
    ·rename_i us hus;obtain⟨avs',a1,a2⟩:=mm htb hs2 hvs;obtain⟨bvs,b1,b2,b3⟩:=fT hus a1;obtain⟨ρ2,st2,c1,c2⟩:=bu hF hs2 hk;cases c1;exact⟨L2,h2,qV bvs,sh,rq hrs a2 b3,.inl ⟨ρ2,rB (ov hus b1),c2.heap,c2.fr⟩⟩
    ·cases hk
   ·cases hk
  ·unfold CY   at hk;split at hk
   ·rename_i vs hvs;obtain⟨avs',a1,a2⟩:=mm       htb hs hvs;have hs':SR ⟨h,ρ,H⟩ ρ' ⟨gN    0 vs,st.H⟩ (Abs.fy     0 avs') h1:=⟨kj        a1,hs.heap,hs.fr,hs.xr⟩;obtain⟨ρ2,st2,c1,c2⟩:=bu          hF hs' hk;split at c1
    ·rename_i us hus;cases c1;exact⟨L,h1,qV avs',.refl _ _,rq hrs a2 (Weak.refl _),.inl ⟨ρ2,rB (xG c2.slots a1.1 hus),c2.heap,c2.fr⟩⟩
    ·cases c1
   ·cases hk
 rintro e L h1 ⟨ρ',st',k1,k2⟩;cases e with
 |normal=>exact key k1 k2
 |ret=>exact key k1 k2
 |_=>cases k1
end
end Go.Proofs.YtkinkfieackmdaaGreatDoor.Den
namespace Go.Proofs.YtkinkfieackmdaaGreatDoor.Den
open Go.RowKit
open Abs (V AV VR)
end Go.Proofs.YtkinkfieackmdaaGreatDoor.Den
namespace Go.Proofs.YtkinkfieackmdaaGreatDoor.Den
open Go.RowKit
def tz (t:Nat):Nat×TI:=(t,⟨1,false,[.z],[],none,false,false,false,none,none⟩)
def tl (t:Nat) (e:Ty):Nat×TI:=(t,⟨1,false,[.nil e],[],some e,false,false,false,none,none⟩)
def ta (t n:Nat) (z:List C) (f:List (Nat×Nat×Nat)):Nat×TI:=(t,⟨n,true,z,f,none,false,false,false,none,none⟩)
def tbl :List (Nat×TI):=[
 tz 1,(2,⟨1,false,[.i 0],[],none,false,true,false,some .i64,none⟩),(3,⟨1,false,[.i 0],[],none,false,true,false,some .i64,none⟩),(4,⟨1,false,[.b false],[],none,false,false,true,none,none⟩),(5,⟨1,false,[.k .u8 0],[],none,false,false,false,some .u8,none⟩),(6,⟨1,false,[.k .u8 0],[],none,false,false,false,some .u8,none⟩),ta 7 4 [.i 0,.i 0,.b false,.k .u8 0] [(0,2,1),(1,3,1),(2,4,1),(3,6,1)],ta 8 4 [.i 0,.i 0,.b false,.k .u8 0] [(0,2,1),(1,3,1),(2,4,1),(3,6,1)],(9,⟨1,false,[.s ByteArray.empty],[],none,true,false,false,none,none⟩),(10,⟨1,false,[.s ByteArray.empty],[],none,true,false,false,none,none⟩),(11,⟨1,false,[.s ByteArray.empty],[],none,true,false,false,none,none⟩),(12,⟨1,false,[.k .u64 0],[],none,false,false,false,some .u64,none⟩),ta 13 2 [.s ByteArray.empty,.k .u64 0] [(0,9,1),(1,12,1)],ta 14 2 [.s ByteArray.empty,.k .u64 0] [(0,9,1),(1,12,1)],tz 15,tz 16,tz 17,ta 18 1 [.z] [(0,17,1)],ta 19 1 [.z] [(0,17,1)],(21,⟨1,false,[.k .i32 0],[],none,false,false,false,some .i32,none⟩),tl 22 .s,tl 23 (.n 5),ta 24 2 [.nil .s,.nil (.n 5)] [(0,22,1),(1,23,1)],ta 25 2 [.nil .s,.nil (.n 5)] [(0,22,1),(1,23,1)],tl 26 (.n 8),ta 27 3 [.nil .s,.nil (.n 5),.nil (.n 8)] [(0,25,2),(2,26,1)],ta 28 3 [.nil .s,.nil (.n 5),.nil (.n 8)] [(0,25,2),(2,26,1)],tl 29 (.n 14),ta 30 5 [.nil .s,.nil (.n 5),.nil (.n 8),.nil (.n 14),.nil (.n 14)] [(0,28,3),(3,29,1),(4,29,1)],ta 31 5 [.nil .s,.nil (.n 5),.nil (.n 8),.nil (.n 14),.nil (.n 14)] [(0,28,3),(3,29,1),(4,29,1)],tl 32 .i,tz 33,tz 34,tl 35 (.n 5),ta 36 2 [.nil .s,.nil (.n 5)] [(0,22,1),(1,35,1)],ta 37 2 [.nil .s,.nil (.n 5)] [(0,22,1),(1,35,1)],tl 38 (.n 8),ta 39 3 [.nil .s,.nil (.n 5),.nil (.n 8)] [(0,37,2),(2,38,1)],ta 40 3 [.nil .s,.nil (.n 5),.nil (.n 8)] [(0,37,2),(2,38,1)],tl 41 (.n 14),ta 42 5 [.nil .s,.nil (.n 5),.nil (.n 8),.nil (.n 14),.nil (.n 14)] [(0,40,3),(3,41,1),(4,41,1)],ta 43 5 [.nil .s,.nil (.n 5),.nil (.n 8),.nil (.n 14),.nil (.n 14)] [(0,40,3),(3,41,1),(4,41,1)],tz 44,tz 45,tz 46,tz 47,tz 48,tz 49,tz 50,tz 51,tz 52,tz 53,tl 54 (.n 1),ta 55 4 [.i 0,.s ByteArray.empty,.i 0,.nil (.n 1)] [(0,3,1),(1,9,1),(2,3,1),(3,54,1)],ta 56 4 [.i 0,.s ByteArray.empty,.i 0,.nil (.n 1)] [(0,3,1),(1,9,1),(2,3,1),(3,54,1)],tl 57 (.n 13),ta 58 9 [.i 0,.s ByteArray.empty,.i 0,.nil (.n 1),.i 0,.s ByteArray.empty,.i 0,.nil (.n 1),.nil (.n 13)] [(0,56,4),(4,56,4),(8,57,1)],ta 59 9 [.i 0,.s ByteArray.empty,.i 0,.nil (.n 1),.i 0,.s ByteArray.empty,.i 0,.nil (.n 1),.nil (.n 13)] [(0,56,4),(4,56,4),(8,57,1)],tz 60,tz 61,tz 62,tz 64,(65,⟨1,false,[.z],[],none,false,false,false,none,some .b⟩),ta 66 3 [.z,.nil .i,.z] [(0,62,1),(1,32,1),(2,65,1)],ta 67 3 [.z,.nil .i,.z] [(0,62,1),(1,32,1),(2,65,1)],tz 68,tz 69,tz 70,tz 71,tz 72,tz 73,tz 74,tl 75 (.n 1),ta 76 4 [.i 0,.s ByteArray.empty,.i 0,.nil (.n 1)] [(0,3,1),(1,9,1),(2,3,1),(3,75,1)],ta 77 4 [.i 0,.s ByteArray.empty,.i 0,.nil (.n 1)] [(0,3,1),(1,9,1),(2,3,1),(3,75,1)],tl 78 (.n 13),ta 79 9 [.i 0,.s ByteArray.empty,.i 0,.nil (.n 1),.i 0,.s ByteArray.empty,.i 0,.nil (.n 1),.nil (.n 13)] [(0,77,4),(4,77,4),(8,78,1)],ta 80 9 [.i 0,.s ByteArray.empty,.i 0,.nil (.n 1),.i 0,.s ByteArray.empty,.i 0,.nil (.n 1),.nil (.n 13)] [(0,77,4),(4,77,4),(8,78,1)],tz 81,tl 82 (.n 7),ta 83 5 [.s ByteArray.empty,.nil (.n 7),.b false,.b false,.i 0] [(0,9,1),(1,82,1),(2,4,1),(3,4,1),(4,3,1)],ta 84 5 [.s ByteArray.empty,.nil (.n 7),.b false,.b false,.i 0] [(0,9,1),(1,82,1),(2,4,1),(3,4,1),(4,3,1)],tz 85,tz 86,tz 87,tz 88,ta 89 3 [.nil .i,.nil .i,.nil .i] [(0,32,1),(1,32,1),(2,32,1)],ta 90 3 [.nil .i,.nil .i,.nil .i] [(0,32,1),(1,32,1),(2,32,1)],tz 92,(93,⟨1,false,[.z],[],none,false,false,false,none,some .i⟩),ta 94 7 [.nil .i,.nil .i,.nil .i,.nil .s,.nil (.n 5),.nil (.n 8),.z] [(0,90,3),(3,40,3),(6,93,1)],ta 95 7 [.nil .i,.nil .i,.nil .i,.nil .s,.nil (.n 5),.nil (.n 8),.z] [(0,90,3),(3,40,3),(6,93,1)],tz 96,tz 97,tz 98,tz 100,tz 101,tz 102,tz 103,tz 104,tz 105,tl 106 (.n 7),ta 107 5 [.s ByteArray.empty,.nil (.n 7),.b false,.b false,.i 0] [(0,9,1),(1,106,1),(2,4,1),(3,4,1),(4,3,1)],ta 108 5 [.s ByteArray.empty,.nil (.n 7),.b false,.b false,.i 0] [(0,9,1),(1,106,1),(2,4,1),(3,4,1),(4,3,1)],tz 109,tz 110,tz 111,tz 112,tz 113,tz 114,tz 115,tz 116,tz 117,ta 118 8 [.i 0,.s ByteArray.empty,.i 0,.nil (.n 1),.i 0,.s ByteArray.empty,.i 0,.nil (.n 1)] [(0,56,4),(4,56,4)],ta 119 8 [.i 0,.s ByteArray.empty,.i 0,.nil (.n 1),.i 0,.s ByteArray.empty,.i 0,.nil (.n 1)] [(0,56,4),(4,56,4)],tz 120,tz 121,tz 122,tz 123,tz 124,tz 125,tz 126,tz 127,tz 128,tz 129,tz 130,ta 131 2 [.i 0,.i 0] [(0,3,1),(1,3,1)],ta 132 2 [.i 0,.i 0] [(0,3,1),(1,3,1)],tl 133 (.sl (.n 14)),tz 134,tz 135,tz 136,tz 137,tl 138 .u,tz 139,tz 140,tz 141,tz 142,tz 143,tz 144,tz 145,tz 146,tz 147,tz 148,ta 149 8 [.i 0,.s ByteArray.empty,.i 0,.nil (.n 1),.i 0,.s ByteArray.empty,.i 0,.nil (.n 1)] [(0,77,4),(4,77,4)],ta 150 8 [.i 0,.s ByteArray.empty,.i 0,.nil (.n 1),.i 0,.s ByteArray.empty,.i 0,.nil (.n 1)] [(0,77,4),(4,77,4)],tz 151,tz 152,tz 153,ta 154 2 [.nil .i,.i 0] [(0,32,1),(1,3,1)],ta 155 2 [.nil .i,.i 0] [(0,32,1),(1,3,1)],tz 156,tz 157,tz 158,tz 159,tz 160,tz 161,ta 162 2 [.i 0,.i 0] [(0,3,1),(1,3,1)],tz 163,tz 164,tz 165,tz 166,tz 167,tz 168,tz 169,tz 170,tz 171,tz 172,tz 173,tz 174,tz 175,ta 176 2 [.nil .i,.i 0] [(0,32,1),(1,3,1)],tz 177,(178,⟨1,false,[.k .u64 0],[],none,false,false,false,some .u64,none⟩),tz 179,tz 180,tz 181,tz 182,tz 183,tz 184,tz 185,tz 186,tz 187,tz 188,tz 189,(190,⟨1,false,[.k .u64 0],[],none,false,false,false,some .u64,none⟩),tz 191,tz 192,tz 193,tz 195,tz 196,tz 197,tz 198,tz 200,tz 201,tz 203,tz 204,(205,⟨1,false,[.i 0],[],none,false,true,false,some .i64,none⟩),tz 207,tz 208,tz 209,tz 211,tz 212,(213,⟨1,false,[.k .u32 0],[],none,false,false,false,some .u32,none⟩),tz 214,(217,⟨1,false,[.k .u64 0],[],none,false,false,false,some .u64,none⟩),tz 218,tz 219,tz 220,tz 221,tz 222,tz 223,tz 225,tz 228,ta 229 4 [.z,.z,.z,.s ByteArray.empty] [(0,17,1),(1,17,1),(2,17,1),(3,9,1)],ta 230 4 [.z,.z,.z,.s ByteArray.empty] [(0,17,1),(1,17,1),(2,17,1),(3,9,1)],tz 234,(235,⟨1,false,[.k .u8 0],[],none,false,false,false,some .u8,none⟩),(236,⟨1,false,[.k .u8 0],[],none,false,false,false,some .u8,none⟩),tz 237,tz 238,(239,⟨1,false,[.k .i32 0],[],none,false,false,false,some .i32,none⟩),(240,⟨1,false,[.k .i32 0],[],none,false,false,false,some .i32,none⟩),ta 241 11 [.k .u64 0,.k .u64 0,.k .u32 0,.k .u8 0,.k .u8 0,.k .u8 0,.k .u8 0,.z,.z,.k .i32 0,.k .i32 0] [(0,12,1),(1,12,1),(2,213,1),(3,235,1),(4,5,1),(5,5,1),(6,236,1),(7,237,1),(8,238,1),(9,239,1),(10,240,1)],ta 242 11 [.k .u64 0,.k .u64 0,.k .u32 0,.k .u8 0,.k .u8 0,.k .u8 0,.k .u8 0,.z,.z,.k .i32 0,.k .i32 0] [(0,12,1),(1,12,1),(2,213,1),(3,235,1),(4,5,1),(5,5,1),(6,236,1),(7,237,1),(8,238,1),(9,239,1),(10,240,1)]]
def tb (t:Nat):Option TI:=tbl.lookup t
noncomputable def Fx:Bool:=tbl.all λp=>match Abs.pP Tryz.prog p.1 with
 |some i=>DT i p.2&&wb Tryz.prog p.1 p.2
 |none=>false
noncomputable def vd {α β:Type} (o:Option α) (a:β) (f:α->β):β:=match o with
 |none=>a
 |some x=>f x
theorem uq :Fx=true:=by kernel_rfl
theorem mixed :Tryz.prog.follows .mixedOrders=true:=by kernel_rfl
theorem ot :TBOK Tryz.prog tb:=λt ti h=>by
 have hm:(t,ti)∈tbl:=mr h;have:=aT.1 uq _ hm;simp only at this;split at this
 ·rename_i i hi;rw[bA]at this;exact⟨i,hi,this.1,this.2⟩
 ·cases this
theorem apl {an:Ann} {pc:Pcs} {c:Code} (l:List (Nat×Nat×Code)) (h:AllP Tryz.prog an pc l) (e:bN an c=l:=by kernel_rfl):AllP Tryz.prog an pc (bN an c):=by rw[e];exact h
theorem lpc {L:List Ent} (hG:AllE Tryz.prog L) {an:Ann} (pc:Pcs) {c:Code} (lv:List Nat) (o:Outs) (hP:AllP Tryz.prog an pc (bN an c)) {f:Nat->(R:Type)->St->Kt R->Option R} (h0:∀(R:Type) (st:St) (K:Kt R),f 0 R st K=none)
  (hf:∀(n:Nat) (R:Type) (st:St) (K:Kt R) (r:R),f (n+1) R st K=some r->den tb (dI L) pc an c st (qo an.refs lv o (λst'=>f n R st' K) K)=some r):∀n,gh Tryz.prog an (.loop c) (f n):=u7 mixed ot (j8 hG) hP h0 hf
theorem cpc {L:List Ent} (hG:AllE Tryz.prog L) {an:Ann} (pc:Pcs) {c:Code} (o:Outs) (hP:AllP Tryz.prog an pc (bN an c)) {f:(R:Type)->St->Kt R->Option R}
  (hf:∀(R:Type) (st:St) (K:Kt R) (r:R),f R st K=some r->den tb (dI L) pc an c st (jO an.refs o K)=some r):gh Tryz.prog an c f:=wR mixed ot (j8 hG) hP hf
theorem okL {P:Program} {f:FuncId} {β R:Type} {xs:List AT} {H:List Ob} {o:Option β} {K:AT->List Ob->Option R} {x:R} {v:β->AT} {H':β->List Ob} (hc:Option.bind o (λr=>K (v r) (H' r))=some x) (hk:∀r,o=some r->CFn P f xs H (v r) (H' r)):∃v' H'',K v' H''=some x/\CFn P f xs H v' H'':=
 let⟨r,a,b⟩:=bind_some hc
 ⟨_,_,b,hk r a⟩
theorem rF {L:List Ent} (hG:AllE Tryz.prog L) {f:FuncId} {fn:Func} (an:Ann) (pc:Pcs) (rb:List Nat) {xs xs2:List AT} {v:AT} {H H2 H':List Ob} {M:Option (AT×List Ob)} (hf:Tryz.prog.funcs[f]? =some fn) (hd:M=some (v,H')) (hP:AllP Tryz.prog an pc (bN an (ai fn)):=by exact apl [] trivial)
  (he:den tb (dI L) pc an (ai fn) ⟨gN 0 xs2,H2⟩ (sQ (BS tb an fn.results.toList))=M:=by kernel_rfl) (hb:fn.body=some (ai fn):=by kernel_rfl) (hname:(fn.name== "runtime.NumGoroutine")=false:=by kernel_rfl) (hnt:Nat.beq fn.ntmps an.nt=true:=by kernel_rfl)
  (hx:Nat.ble xs.length an.nt=true:=by kernel_rfl) (hr:Nat.beq an.refs H.length=true:=by kernel_rfl) (hrb:yu rb (xs,H)=some (xs2,H2):=by kernel_rfl) (hnr:(H2.all λo=> !o.isRows)=true:=by kernel_rfl):CFn Tryz.prog f xs H v H':=
 o8 mixed ot (j8 hG) hf hb hname hnt hx hr (Array.toArray_toList).symm (.inl rfl) hP hrb hnr (he.trans hd)
theorem rR {L:List Ent} (hG:AllE Tryz.prog L) {f:FuncId} {fn:Func} (an:Ann) (pc:Pcs) (rb:List Nat) {xs xs2:List AT} {v:AT} {H H2 H':List Ob} {M:Option (AT×List Ob)} (hf:Tryz.prog.funcs[f]? =some fn) (hd:M=some (v,H')) (hP:AllP Tryz.prog an pc (bN an (ai fn)):=by exact apl [] trivial)
  (he:den tb (dI L) pc an (ai fn) ⟨gN 0 xs2,H2⟩ (sQ (CY tb an fn.results.toList))=M:=by kernel_rfl) (hb:fn.body=some (ai fn):=by kernel_rfl) (hname:(fn.name== "runtime.NumGoroutine")=false:=by kernel_rfl) (hnt:Nat.beq fn.ntmps an.nt=true:=by kernel_rfl)
  (hx:Nat.ble xs.length an.nt=true:=by kernel_rfl) (hr:Nat.beq an.refs H.length=true:=by kernel_rfl) (hrb:yu rb (xs,H)=some (xs2,H2):=by kernel_rfl) (hnr:(H2.all λo=> !o.isRows)=true:=by kernel_rfl):CFn Tryz.prog f xs H v H':=
 o8 mixed ot (j8 hG) hf hb hname hnt hx hr (Array.toArray_toList).symm (.inr rfl) hP hrb hnr (he.trans hd)
theorem fF {L:List Ent} (hG:AllE Tryz.prog L) {f:FuncId} {fn:Func} (an:Ann) (pc:Pcs) {xs:List AT} {v:AT} {H H':List Ob} {M:Option (AT×List Ob)} (hf:Tryz.prog.funcs[f]? =some fn) (hd:M=some (v,H')) (hP:AllP Tryz.prog an pc (bN an (ai fn)):=by exact apl [] trivial)
  (he:den tb (dI L) pc an (ai fn) ⟨gN 0 xs,H⟩ (sQ (BS tb an fn.results.toList))=M:=by kernel_rfl) (hb:fn.body=some (ai fn):=by kernel_rfl) (hname:(fn.name== "runtime.NumGoroutine")=false:=by kernel_rfl) (hnt:Nat.beq fn.ntmps an.nt=true:=by kernel_rfl)
  (hx:Nat.ble xs.length an.nt=true:=by kernel_rfl) (hr:Nat.beq an.refs H.length=true:=by kernel_rfl) (hnr:(H.all λo=> !o.isRows)=true:=by kernel_rfl):CFn Tryz.prog f xs H v H':=rF hG an pc [] hf hd hP he hb hname hnt hx hr rfl hnr
theorem fR {L:List Ent} (hG:AllE Tryz.prog L) {f:FuncId} {fn:Func} (an:Ann) (pc:Pcs) {xs:List AT} {v:AT} {H H':List Ob} {M:Option (AT×List Ob)} (hf:Tryz.prog.funcs[f]? =some fn) (hd:M=some (v,H')) (hP:AllP Tryz.prog an pc (bN an (ai fn)):=by exact apl [] trivial)
  (he:den tb (dI L) pc an (ai fn) ⟨gN 0 xs,H⟩ (sQ (CY tb an fn.results.toList))=M:=by kernel_rfl) (hb:fn.body=some (ai fn):=by kernel_rfl) (hname:(fn.name== "runtime.NumGoroutine")=false:=by kernel_rfl) (hnt:Nat.beq fn.ntmps an.nt=true:=by kernel_rfl)
  (hx:Nat.ble xs.length an.nt=true:=by kernel_rfl) (hr:Nat.beq an.refs H.length=true:=by kernel_rfl) (hnr:(H.all λo=> !o.isRows)=true:=by kernel_rfl):CFn Tryz.prog f xs H v H':=rR hG an pc [] hf hd hP he hb hname hnt hx hr rfl hnr
abbrev LM :=List (ByteArray×Int)
abbrev LB :=List ByteArray
abbrev LI :=List Int
abbrev LO :=List Opr
abbrev LS :=List Sb
abbrev LD :=List Dc
abbrev LT :=List Tm
abbrev LQ :=List Eqn
abbrev LK :=List Cnd
def nK (R:Type) (_:Nat) (_:St) (_:Kt R):Option R:=none
def nP :Pcs:=⟨nK,nK,nK⟩
namespace z1q
abbrev Q :=Md->LI->Option (Bool)
noncomputable def ent (g:Q):Ent:=⟨3,0,[0,0],λ_ xs H K=>match xs,H with
 |[.agg [.l .s a,.l (.n 5) a2,.l (.n 8) a3,.l (.n 14) a4,.l (.n 14) a5],.one (.l .i a6)],[]=>Option.bind (g (Md.mk (Sg.mk (So.mk a a2) a3) a4 a5) a6) λr=>K (.one (.b r)) []
 |_,_=>none⟩
end z1q
namespace z2j
abbrev Q :=Md->Int->Option (Int)
noncomputable def ent (g:Q):Ent:=⟨4,0,[0,0],λ_ xs H K=>match xs,H with
 |[.agg [.l .s a,.l (.n 5) a2,.l (.n 8) a3,.l (.n 14) a4,.l (.n 14) a5],.one (.i a6)],[]=>Option.bind (g (Md.mk (Sg.mk (So.mk a a2) a3) a4 a5) a6) λr=>K (.one (.i r)) []
 |_,_=>none⟩
end z2j
namespace z3s
abbrev Q :=Md->LI->Option (Bool)
noncomputable def ent (g:Q):Ent:=⟨5,0,[0,0],λ_ xs H K=>match xs,H with
 |[.agg [.l .s a,.l (.n 5) a2,.l (.n 8) a3,.l (.n 14) a4,.l (.n 14) a5],.one (.l .i a6)],[]=>Option.bind (g (Md.mk (Sg.mk (So.mk a a2) a3) a4 a5) a6) λr=>K (.one (.b r)) []
 |_,_=>none⟩
end z3s
namespace z2z
abbrev Q :=Md->Option (Md)
noncomputable def ent (g:Q):Ent:=⟨6,1,[0],λ_ xs H K=>match xs,H with
 |[.agg [.l .s a,.l (.n 5) a2,.l (.n 8) a3,.l (.n 14) a4,.l (.n 14) a5]],[]=>Option.bind (g (Md.mk (Sg.mk (So.mk a a2) a3) a4 a5)) λr=>K (.agg [.l .s (So.names (Sg.sorts (Md.sig r))),.l (.n 5) (So.subs (Sg.sorts (Md.sig r))),.l (.n 8) (Sg.ops (Md.sig r)),.l (.n 14) (Md.eqs r),.l (.n 14) (Md.rules r)]) []
 |_,_=>none⟩
end z2z
namespace z2y
abbrev Q :=LI->Option LI
noncomputable def ent (g:Q):Ent:=⟨7,1,[0],λ_ xs H K=>match xs,H with
 |[.one (.l .i a)],[]=>Option.bind (g a) λr=>K (.one (.l .i r)) []
 |_,_=>none⟩
end z2y
namespace z0p
abbrev Q :=Md->LI->Option (Bool)
noncomputable def ent (g:Q):Ent:=⟨8,0,[0,0],λ_ xs H K=>match xs,H with
 |[.agg [.l .s a,.l (.n 5) a2,.l (.n 8) a3,.l (.n 14) a4,.l (.n 14) a5],.one (.l .i a6)],[]=>Option.bind (g (Md.mk (Sg.mk (So.mk a a2) a3) a4 a5) a6) λr=>K (.one (.b r)) []
 |_,_=>none⟩
end z0p
namespace z1y
abbrev Q :=Md->Md->Option (Bool)
noncomputable def ent (g:Q):Ent:=⟨9,0,[0,0],λ_ xs H K=>match xs,H with
 |[.agg [.l .s a,.l (.n 5) a2,.l (.n 8) a3,.l (.n 14) a4,.l (.n 14) a5],.agg [.l .s a6,.l (.n 5) a7,.l (.n 8) a8,.l (.n 14) a9,.l (.n 14) a10]],[]=>Option.bind (g (Md.mk (Sg.mk (So.mk a a2) a3) a4 a5) (Md.mk (Sg.mk (So.mk a6 a7) a8) a9 a10)) λr=>K (.one (.b r)) []
 |_,_=>none⟩
end z1y
namespace z1x
abbrev Q :=LI->LI->Option (Bool)
noncomputable def ent (g:Q):Ent:=⟨10,0,[0,0],λ_ xs H K=>match xs,H with
 |[.one (.l .i a),.one (.l .i a2)],[]=>Option.bind (g a a2) λr=>K (.one (.b r)) []
 |_,_=>none⟩
end z1x
namespace z2m
abbrev Q :=Sg->Int->Option (Int)
noncomputable def ent (g:Q):Ent:=⟨11,0,[0,0],λ_ xs H K=>match xs,H with
 |[.agg [.l .s a,.l (.n 5) a2,.l (.n 8) a3],.one (.i a4)],[]=>Option.bind (g (Sg.mk (So.mk a a2) a3) a4) λr=>K (.one (.i r)) []
 |_,_=>none⟩
end z2m
namespace z2h
abbrev Q :=LQ->Int->Option (Int)
noncomputable def ent (g:Q):Ent:=⟨12,0,[0,0],λ_ xs H K=>match xs,H with
 |[.one (.l (.n 14) a),.one (.i a2)],[]=>Option.bind (g a a2) λr=>K (.one (.i r)) []
 |_,_=>none⟩
end z2h
namespace z3i
abbrev Q :=Md->Option (Bool)
noncomputable def ent (g:Q):Ent:=⟨13,0,[0],λ_ xs H K=>match xs,H with
 |[.agg [.l .s a,.l (.n 5) a2,.l (.n 8) a3,.l (.n 14) a4,.l (.n 14) a5]],[]=>Option.bind (g (Md.mk (Sg.mk (So.mk a a2) a3) a4 a5)) λr=>K (.one (.b r)) []
 |_,_=>none⟩
end z3i
namespace z3h
abbrev Q :=Sg->Option (Bool)
noncomputable def ent (g:Q):Ent:=⟨14,0,[0],λ_ xs H K=>match xs,H with
 |[.agg [.l .s a,.l (.n 5) a2,.l (.n 8) a3]],[]=>Option.bind (g (Sg.mk (So.mk a a2) a3)) λr=>K (.one (.b r)) []
 |_,_=>none⟩
end z3h
namespace z47
abbrev Q :=Sg->LI->Tm->Tm->Option (Bool)
noncomputable def ent (g:Q):Ent:=⟨15,0,[0,0,0,0],λ_ xs H K=>match xs,H with
 |[.agg [.l .s a,.l (.n 5) a2,.l (.n 8) a3],.one (.l .i a4),.agg [.i a5,.s a6,.i a7,.l (.n 1) a8],.agg [.i a9,.s a10,.i a11,.l (.n 1) a12]],[]=>Option.bind (g (Sg.mk (So.mk a a2) a3) a4 (Tm.mk a5 a6 a7 a8) (Tm.mk a9 a10 a11 a12)) λr=>K (.one (.b r)) []
 |_,_=>none⟩
end z47
namespace z32
abbrev Q :=Sg->Option (Sg)
noncomputable def ent (g:Q):Ent:=⟨16,1,[0],λ_ xs H K=>match xs,H with
 |[.agg [.l .s a,.l (.n 5) a2,.l (.n 8) a3]],[]=>Option.bind (g (Sg.mk (So.mk a a2) a3)) λr=>K (.agg [.l .s (So.names (Sg.sorts r)),.l (.n 5) (So.subs (Sg.sorts r)),.l (.n 8) (Sg.ops r)]) []
 |_,_=>none⟩
end z32
namespace z2x
abbrev Q :=LQ->Option LQ
noncomputable def ent (g:Q):Ent:=⟨17,1,[0],λ_ xs H K=>match xs,H with
 |[.one (.l (.n 14) a)],[]=>Option.bind (g a) λr=>K (.one (.l (.n 14) r)) []
 |_,_=>none⟩
end z2x
namespace z1e
abbrev Q :=Sg->Option (Option (LI×LI×LI×LB×LS×LO×LM))
noncomputable def ent (g:Q):Ent:=⟨18,2,[0],λ_ xs H K=>match xs,H with
 |[.agg [.l .s a,.l (.n 5) a2,.l (.n 8) a3]],[]=>Option.bind (g (Sg.mk (So.mk a a2) a3)) λr=>vd r (K (.tup [.one (.z),.one (.b false)]) []) (λq=>(K (.tup [.one (.p 0 0),.one (.b true)]) [.box [.l .i q.1,.l .i q.2.1,.l .i q.2.2.1,.l .s q.2.2.2.1,.l (.n 5) q.2.2.2.2.1,.l (.n 8) q.2.2.2.2.2.1,.m 1],.map .i q.2.2.2.2.2.2]))
 |_,_=>none⟩
end z1e
namespace z0x
abbrev Q :=LI->LI->LI->LB->LS->LO->LM->Md->Option (Bool×LM)
noncomputable def ent (g:Q):Ent:=⟨19,2,[1,0],λ_ xs H K=>match xs,H with
 |[.one (.p 0 0),.agg [.l .s a,.l (.n 5) a2,.l (.n 8) a3,.l (.n 14) a4,.l (.n 14) a5]],[.box [.l .i h,.l .i h2,.l .i h3,.l .s h4,.l (.n 5) h5,.l (.n 8) h6,.m 1],.map .i h7]=>Option.bind (g h h2 h3 h4 h5 h6 h7 (Md.mk (Sg.mk (So.mk a a2) a3) a4 a5)) λr=>K (.one (.b r.1)) [.box [.l .i h,.l .i h2,.l .i h3,.l .s h4,.l (.n 5) h5,.l (.n 8) h6,.m 1],.map .i r.2]
 |_,_=>none⟩
end z0x
namespace z0f
abbrev Q :=Sg->Option (Bool)
noncomputable def ent (g:Q):Ent:=⟨20,0,[0],λ_ xs H K=>match xs,H with
 |[.agg [.l .s a,.l (.n 5) a2,.l (.n 8) a3]],[]=>Option.bind (g (Sg.mk (So.mk a a2) a3)) λr=>K (.one (.b r)) []
 |_,_=>none⟩
end z0f
namespace z1g
abbrev Q :=LI->LI->LI->LB->LS->LO->LM->LI->Option (LI×List (ByteArray×Bool)×LM)
noncomputable def ent (g:Q):Ent:=⟨21,2,[1,0],λ_ xs H K=>match xs,H with
 |[.one (.p 0 0),.one (.l .i a)],[.box [.l .i h,.l .i h2,.l .i h3,.l .s h4,.l (.n 5) h5,.l (.n 8) h6,.m 1],.map .i h7]=>Option.bind (g h h2 h3 h4 h5 h6 h7 a) λr=>K (.agg [.p 0 0,.l .i r.1,.m 2]) [.box [.l .i h,.l .i h2,.l .i h3,.l .s h4,.l (.n 5) h5,.l (.n 8) h6,.m 1],.map .i r.2.2,.map .b r.2.1]
 |_,_=>none⟩
end z1g
namespace z1j
abbrev Q :=LI->LI->LI->LB->LS->LO->LM->LI->(List (ByteArray×Bool))->Tm->Tm->Option (Bool×LM×List (ByteArray×Bool))
noncomputable def ent (g:Q):Ent:=⟨22,2,[1,0,0],λ_ xs H K=>match xs,H with
 |[.agg [.p 0 0,.l .i a,.m 2],.agg [.i a2,.s a3,.i a4,.l (.n 1) a5],.agg [.i a6,.s a7,.i a8,.l (.n 1) a9]],[.box [.l .i h,.l .i h2,.l .i h3,.l .s h4,.l (.n 5) h5,.l (.n 8) h6,.m 1],.map .i h7,.map .b h8]=>Option.bind (g h h2 h3 h4 h5 h6 h7 a h8 (Tm.mk a2 a3 a4 a5) (Tm.mk a6 a7 a8 a9)) λr=>K (.one (.b r.1)) [.box [.l .i h,.l .i h2,.l .i h3,.l .s h4,.l (.n 5) h5,.l (.n 8) h6,.m 1],.map .i r.2.1,.map .b r.2.2]
 |_,_=>none⟩
end z1j
namespace z24
abbrev Q :=Sg->Sg->Option (Bool)
noncomputable def ent (g:Q):Ent:=⟨23,0,[0,0],λ_ xs H K=>match xs,H with
 |[.agg [.l .s a,.l (.n 5) a2,.l (.n 8) a3],.agg [.l .s a4,.l (.n 5) a5,.l (.n 8) a6]],[]=>Option.bind (g (Sg.mk (So.mk a a2) a3) (Sg.mk (So.mk a4 a5) a6)) λr=>K (.one (.b r)) []
 |_,_=>none⟩
end z24
namespace z1w
abbrev Q :=LQ->LQ->Option (Bool)
noncomputable def ent (g:Q):Ent:=⟨24,0,[0,0],λ_ xs H K=>match xs,H with
 |[.one (.l (.n 14) a),.one (.l (.n 14) a2)],[]=>Option.bind (g a a2) λr=>K (.one (.b r)) []
 |_,_=>none⟩
end z1w
namespace z2n
abbrev Q :=So->Int->Option (Int)
noncomputable def ent (g:Q):Ent:=⟨25,0,[0,0],λ_ xs H K=>match xs,H with
 |[.agg [.l .s a,.l (.n 5) a2],.one (.i a3)],[]=>Option.bind (g (So.mk a a2) a3) λr=>K (.one (.i r)) []
 |_,_=>none⟩
end z2n
namespace z2l
abbrev Q :=LO->Int->Option (Int)
noncomputable def ent (g:Q):Ent:=⟨26,0,[0,0],λ_ xs H K=>match xs,H with
 |[.one (.l (.n 8) a),.one (.i a2)],[]=>Option.bind (g a a2) λr=>K (.one (.i r)) []
 |_,_=>none⟩
end z2l
namespace z2g
abbrev Q :=Eqn->Int->Option (Int)
noncomputable def ent (g:Q):Ent:=⟨27,0,[0,0],λ_ xs H K=>match xs,H with
 |[.agg [.i a,.s a2,.i a3,.l (.n 1) a4,.i a5,.s a6,.i a7,.l (.n 1) a8,.l (.n 13) a9],.one (.i a10)],[]=>Option.bind (g (Eqn.mk (Tm.mk a a2 a3 a4) (Tm.mk a5 a6 a7 a8) a9) a10) λr=>K (.one (.i r)) []
 |_,_=>none⟩
end z2g
namespace z3m
abbrev Q :=Sg->Option (Bool)
noncomputable def ent (g:Q):Ent:=⟨28,0,[0],λ_ xs H K=>match xs,H with
 |[.agg [.l .s a,.l (.n 5) a2,.l (.n 8) a3]],[]=>Option.bind (g (Sg.mk (So.mk a a2) a3)) λr=>K (.one (.b r)) []
 |_,_=>none⟩
end z3m
namespace z3f
abbrev Q :=Sg->Eqn->Option (Bool)
noncomputable def ent (g:Q):Ent:=⟨29,0,[0,0],λ_ xs H K=>match xs,H with
 |[.agg [.l .s a,.l (.n 5) a2,.l (.n 8) a3],.agg [.i a4,.s a5,.i a6,.l (.n 1) a7,.i a8,.s a9,.i a10,.l (.n 1) a11,.l (.n 13) a12]],[]=>Option.bind (g (Sg.mk (So.mk a a2) a3) (Eqn.mk (Tm.mk a4 a5 a6 a7) (Tm.mk a8 a9 a10 a11) a12)) λr=>K (.one (.b r)) []
 |_,_=>none⟩
end z3f
namespace z4j
abbrev Q :=Tm->Tm->Option (Bool)
noncomputable def ent (g:Q):Ent:=⟨30,0,[0,0],λ_ xs H K=>match xs,H with
 |[.agg [.i a,.s a2,.i a3,.l (.n 1) a4],.agg [.i a5,.s a6,.i a7,.l (.n 1) a8]],[]=>Option.bind (g (Tm.mk a a2 a3 a4) (Tm.mk a5 a6 a7 a8)) λr=>K (.one (.b r)) []
 |_,_=>none⟩
end z4j
namespace z3q
abbrev Q :=Tm->Tm->Option (Bool)
noncomputable def ent (g:Q):Ent:=⟨31,0,[0,0],λ_ xs H K=>match xs,H with
 |[.agg [.i a,.s a2,.i a3,.l (.n 1) a4],.agg [.i a5,.s a6,.i a7,.l (.n 1) a8]],[]=>Option.bind (g (Tm.mk a a2 a3 a4) (Tm.mk a5 a6 a7 a8)) λr=>K (.one (.b r)) []
 |_,_=>none⟩
end z3q
namespace z44
abbrev Q :=Sg->LI->LT->LT->Option (Bool)
noncomputable def ent (g:Q):Ent:=⟨32,0,[0,0,0,0],λ_ xs H K=>match xs,H with
 |[.agg [.l .s a,.l (.n 5) a2,.l (.n 8) a3],.one (.l .i a4),.one (.l (.n 1) a5),.one (.l (.n 1) a6)],[]=>Option.bind (g (Sg.mk (So.mk a a2) a3) a4 a5 a6) λr=>K (.one (.b r)) []
 |_,_=>none⟩
end z44
namespace z48
abbrev Q :=Sg->LI->LT->LT->Option (Bool)
noncomputable def ent (g:Q):Ent:=⟨33,0,[0,0,0,0],λ_ xs H K=>match xs,H with
 |[.agg [.l .s a,.l (.n 5) a2,.l (.n 8) a3],.one (.l .i a4),.one (.l (.n 1) a5),.one (.l (.n 1) a6)],[]=>Option.bind (g (Sg.mk (So.mk a a2) a3) a4 a5 a6) λr=>K (.one (.b r)) []
 |_,_=>none⟩
end z48
namespace z33
abbrev Q :=So->Option (So)
noncomputable def ent (g:Q):Ent:=⟨34,1,[0],λ_ xs H K=>match xs,H with
 |[.agg [.l .s a,.l (.n 5) a2]],[]=>Option.bind (g (So.mk a a2)) λr=>K (.agg [.l .s (So.names r),.l (.n 5) (So.subs r)]) []
 |_,_=>none⟩
end z33
namespace z31
abbrev Q :=LO->Option LO
noncomputable def ent (g:Q):Ent:=⟨35,1,[0],λ_ xs H K=>match xs,H with
 |[.one (.l (.n 8) a)],[]=>Option.bind (g a) λr=>K (.one (.l (.n 8) r)) []
 |_,_=>none⟩
end z31
namespace z2w
abbrev Q :=Eqn->Option (Eqn)
noncomputable def ent (g:Q):Ent:=⟨36,1,[0],λ_ xs H K=>match xs,H with
 |[.agg [.i a,.s a2,.i a3,.l (.n 1) a4,.i a5,.s a6,.i a7,.l (.n 1) a8,.l (.n 13) a9]],[]=>Option.bind (g (Eqn.mk (Tm.mk a a2 a3 a4) (Tm.mk a5 a6 a7 a8) a9)) λr=>K (.agg [.i (Tm.op (Eqn.left r)),.s (Tm.name (Eqn.left r)),.i (Tm.sort (Eqn.left r)),.l (.n 1) (Tm.args (Eqn.left r)),.i (Tm.op (Eqn.right r)),.s (Tm.name (Eqn.right r)),.i (Tm.sort (Eqn.right r)),.l (.n 1) (Tm.args (Eqn.right r)),.l (.n 13) (Eqn.conds r)]) []
 |_,_=>none⟩
end z2w
namespace z0i
abbrev Q :=Sg->Option (Bool)
noncomputable def ent (g:Q):Ent:=⟨37,0,[0],λ_ xs H K=>match xs,H with
 |[.agg [.l .s a,.l (.n 5) a2,.l (.n 8) a3]],[]=>Option.bind (g (Sg.mk (So.mk a a2) a3)) λr=>K (.one (.b r)) []
 |_,_=>none⟩
end z0i
namespace z1f
abbrev Q :=So->Option (Od×Bool)
noncomputable def ent (g:Q):Ent:=⟨38,1,[0],λ_ xs H K=>match xs,H with
 |[.agg [.l .s a,.l (.n 5) a2]],[]=>Option.bind (g (So.mk a a2)) λr=>K (.tup [.agg [.l .i (Od.above r.1),.l .i (Od.below r.1),.l .i (Od.kind r.1)],.one (.b r.2)]) []
 |_,_=>none⟩
end z1f
namespace z4z
abbrev Q :=List LQ->Option LQ
noncomputable def ent (g:Q):Ent:=⟨39,1,[0],λ_ xs H K=>match xs,H with
 |[.one (.l (.sl (.n 14)) a)],[]=>Option.bind (g a) λr=>K (.one (.l (.n 14) r)) []
 |_,_=>none⟩
end z4z
namespace z0y
abbrev Q :=LI->LI->LI->LB->LS->LO->LM->Eqn->Option (Bool×LM)
noncomputable def ent (g:Q):Ent:=⟨40,2,[1,0],λ_ xs H K=>match xs,H with
 |[.one (.p 0 0),.agg [.i a,.s a2,.i a3,.l (.n 1) a4,.i a5,.s a6,.i a7,.l (.n 1) a8,.l (.n 13) a9]],[.box [.l .i h,.l .i h2,.l .i h3,.l .s h4,.l (.n 5) h5,.l (.n 8) h6,.m 1],.map .i h7]=>Option.bind (g h h2 h3 h4 h5 h6 h7 (Eqn.mk (Tm.mk a a2 a3 a4) (Tm.mk a5 a6 a7 a8) a9)) λr=>K (.one (.b r.1)) [.box [.l .i h,.l .i h2,.l .i h3,.l .s h4,.l (.n 5) h5,.l (.n 8) h6,.m 1],.map .i r.2]
 |_,_=>none⟩
end z0y
namespace z0n
abbrev Q :=Tm->Tm->Option (Bool)
noncomputable def ent (g:Q):Ent:=⟨41,0,[0,0],λ_ xs H K=>match xs,H with
 |[.agg [.i a,.s a2,.i a3,.l (.n 1) a4],.agg [.i a5,.s a6,.i a7,.l (.n 1) a8]],[]=>Option.bind (g (Tm.mk a a2 a3 a4) (Tm.mk a5 a6 a7 a8)) λr=>K (.one (.b r)) []
 |_,_=>none⟩
end z0n
namespace z1a
abbrev Q :=Tm->Option (ByteArray)
noncomputable def ent (g:Q):Ent:=⟨42,0,[0],λ_ xs H K=>match xs,H with
 |[.agg [.i a,.s a2,.i a3,.l (.n 1) a4]],[]=>Option.bind (g (Tm.mk a a2 a3 a4)) λr=>K (.one (.s r)) []
 |_,_=>none⟩
end z1a
namespace z1i
abbrev Q :=LI->LI->LI->LB->LS->LO->LM->LI->(List (ByteArray×Bool))->Tm->Tm->Option (Bool×LM×List (ByteArray×Bool))
noncomputable def ent (g:Q):Ent:=⟨43,2,[1,0,0],λ_ xs H K=>match xs,H with
 |[.agg [.p 0 0,.l .i a,.m 2],.agg [.i a2,.s a3,.i a4,.l (.n 1) a5],.agg [.i a6,.s a7,.i a8,.l (.n 1) a9]],[.box [.l .i h,.l .i h2,.l .i h3,.l .s h4,.l (.n 5) h5,.l (.n 8) h6,.m 1],.map .i h7,.map .b h8]=>Option.bind (g h h2 h3 h4 h5 h6 h7 a h8 (Tm.mk a2 a3 a4 a5) (Tm.mk a6 a7 a8 a9)) λr=>K (.one (.b r.1)) [.box [.l .i h,.l .i h2,.l .i h3,.l .s h4,.l (.n 5) h5,.l (.n 8) h6,.m 1],.map .i r.2.1,.map .b r.2.2]
 |_,_=>none⟩
end z1i
namespace z26
abbrev Q :=So->So->Option (Bool)
noncomputable def ent (g:Q):Ent:=⟨44,0,[0,0],λ_ xs H K=>match xs,H with
 |[.agg [.l .s a,.l (.n 5) a2],.agg [.l .s a3,.l (.n 5) a4]],[]=>Option.bind (g (So.mk a a2) (So.mk a3 a4)) λr=>K (.one (.b r)) []
 |_,_=>none⟩
end z26
namespace z21
abbrev Q :=LO->LO->Option (Bool)
noncomputable def ent (g:Q):Ent:=⟨45,0,[0,0],λ_ xs H K=>match xs,H with
 |[.one (.l (.n 8) a),.one (.l (.n 8) a2)],[]=>Option.bind (g a a2) λr=>K (.one (.b r)) []
 |_,_=>none⟩
end z21
namespace z1v
abbrev Q :=Eqn->Eqn->Option (Bool)
noncomputable def ent (g:Q):Ent:=⟨46,0,[0,0],λ_ xs H K=>match xs,H with
 |[.agg [.i a,.s a2,.i a3,.l (.n 1) a4,.i a5,.s a6,.i a7,.l (.n 1) a8,.l (.n 13) a9],.agg [.i a10,.s a11,.i a12,.l (.n 1) a13,.i a14,.s a15,.i a16,.l (.n 1) a17,.l (.n 13) a18]],[]=>Option.bind (g (Eqn.mk (Tm.mk a a2 a3 a4) (Tm.mk a5 a6 a7 a8) a9) (Eqn.mk (Tm.mk a10 a11 a12 a13) (Tm.mk a14 a15 a16 a17) a18)) λr=>K (.one (.b r)) []
 |_,_=>none⟩
end z1v
namespace z2o
abbrev Q :=LB->Int->Option (Int)
noncomputable def ent (g:Q):Ent:=⟨47,0,[0,0],λ_ xs H K=>match xs,H with
 |[.one (.l .s a),.one (.i a2)],[]=>Option.bind (g a a2) λr=>K (.one (.i r)) []
 |_,_=>none⟩
end z2o
namespace z2p
abbrev Q :=LS->Int->Option (Int)
noncomputable def ent (g:Q):Ent:=⟨48,0,[0,0],λ_ xs H K=>match xs,H with
 |[.one (.l (.n 5) a),.one (.i a2)],[]=>Option.bind (g a a2) λr=>K (.one (.i r)) []
 |_,_=>none⟩
end z2p
namespace z2k
abbrev Q :=Opr->Int->Option (Int)
noncomputable def ent (g:Q):Ent:=⟨49,0,[0,0],λ_ xs H K=>match xs,H with
 |[.agg [.s a,.l (.n 7) a2,.b a3,.b a4,.i a5],.one (.i a6)],[]=>Option.bind (g (Opr.mk a a2 a3 a4 a5) a6) λr=>K (.one (.i r)) []
 |_,_=>none⟩
end z2k
namespace z2q
abbrev Q :=Tm->Int->Option (Int)
noncomputable def ent (g:Q):Ent:=⟨50,0,[0,0],λ_ xs H K=>match xs,H with
 |[.agg [.i a,.s a2,.i a3,.l (.n 1) a4],.one (.i a5)],[]=>Option.bind (g (Tm.mk a a2 a3 a4) a5) λr=>K (.one (.i r)) []
 |_,_=>none⟩
end z2q
namespace z2d
abbrev Q :=LK->Int->Option (Int)
noncomputable def ent (g:Q):Ent:=⟨51,0,[0,0],λ_ xs H K=>match xs,H with
 |[.one (.l (.n 13) a),.one (.i a2)],[]=>Option.bind (g a a2) λr=>K (.one (.i r)) []
 |_,_=>none⟩
end z2d
namespace z3o
abbrev Q :=So->Option (Bool)
noncomputable def ent (g:Q):Ent:=⟨52,0,[0],λ_ xs H K=>match xs,H with
 |[.agg [.l .s a,.l (.n 5) a2]],[]=>Option.bind (g (So.mk a a2)) λr=>K (.one (.b r)) []
 |_,_=>none⟩
end z3o
namespace z3k
abbrev Q :=ByteArray->Option (Bool)
noncomputable def ent (g:Q):Ent:=⟨53,0,[0],λ_ xs H K=>match xs,H with
 |[.one (.s a)],[]=>Option.bind (g a) λr=>K (.one (.b r)) []
 |_,_=>none⟩
end z3k
namespace z4g
abbrev Q :=Sg->Opr->Option (Bool)
noncomputable def ent (g:Q):Ent:=⟨54,0,[0,0],λ_ xs H K=>match xs,H with
 |[.agg [.l .s a,.l (.n 5) a2,.l (.n 8) a3],.agg [.s a4,.l (.n 7) a5,.b a6,.b a7,.i a8]],[]=>Option.bind (g (Sg.mk (So.mk a a2) a3) (Opr.mk a4 a5 a6 a7 a8)) λr=>K (.one (.b r)) []
 |_,_=>none⟩
end z4g
namespace z4f
abbrev Q :=Sg->Int->Option (Bool)
noncomputable def ent (g:Q):Ent:=⟨55,0,[0,0],λ_ xs H K=>match xs,H with
 |[.agg [.l .s a,.l (.n 5) a2,.l (.n 8) a3],.one (.i a4)],[]=>Option.bind (g (Sg.mk (So.mk a a2) a3) a4) λr=>K (.one (.b r)) []
 |_,_=>none⟩
end z4f
namespace z3y
abbrev Q :=Sg->Tm->Tm->Option (Bool)
noncomputable def ent (g:Q):Ent:=⟨56,0,[0,0,0],λ_ xs H K=>match xs,H with
 |[.agg [.l .s a,.l (.n 5) a2,.l (.n 8) a3],.agg [.i a4,.s a5,.i a6,.l (.n 1) a7],.agg [.i a8,.s a9,.i a10,.l (.n 1) a11]],[]=>Option.bind (g (Sg.mk (So.mk a a2) a3) (Tm.mk a4 a5 a6 a7) (Tm.mk a8 a9 a10 a11)) λr=>K (.one (.b r)) []
 |_,_=>none⟩
end z3y
namespace z3u
abbrev Q :=Tm->Option LT
noncomputable def ent (g:Q):Ent:=⟨57,1,[0],λ_ xs H K=>match xs,H with
 |[.agg [.i a,.s a2,.i a3,.l (.n 1) a4]],[]=>Option.bind (g (Tm.mk a a2 a3 a4)) λr=>K (.one (.l (.n 1) r)) []
 |_,_=>none⟩
end z3u
namespace z3z
abbrev Q :=Tm->LT->Option (Bool)
noncomputable def ent (g:Q):Ent:=⟨58,0,[0,0],λ_ xs H K=>match xs,H with
 |[.agg [.i a,.s a2,.i a3,.l (.n 1) a4],.one (.l (.n 1) a5)],[]=>Option.bind (g (Tm.mk a a2 a3 a4) a5) λr=>K (.one (.b r)) []
 |_,_=>none⟩
end z3z
namespace z3a
abbrev Q :=Tm->Tm->Option (Int)
noncomputable def ent (g:Q):Ent:=⟨59,0,[0,0],λ_ xs H K=>match xs,H with
 |[.agg [.i a,.s a2,.i a3,.l (.n 1) a4],.agg [.i a5,.s a6,.i a7,.l (.n 1) a8]],[]=>Option.bind (g (Tm.mk a a2 a3 a4) (Tm.mk a5 a6 a7 a8)) λr=>K (.one (.i r)) []
 |_,_=>none⟩
end z3a
namespace z49
abbrev Q :=LT->LT->Option LT
noncomputable def ent (g:Q):Ent:=⟨60,1,[0,0],λ_ xs H K=>match xs,H with
 |[.one (.l (.n 1) a),.one (.l (.n 1) a2)],[]=>Option.bind (g a a2) λr=>K (.one (.l (.n 1) r)) []
 |_,_=>none⟩
end z49
namespace z34
abbrev Q :=LB->Option LB
noncomputable def ent (g:Q):Ent:=⟨61,1,[0],λ_ xs H K=>match xs,H with
 |[.one (.l .s a)],[]=>Option.bind (g a) λr=>K (.one (.l .s r)) []
 |_,_=>none⟩
end z34
namespace z36
abbrev Q :=LS->Option LS
noncomputable def ent (g:Q):Ent:=⟨62,1,[0],λ_ xs H K=>match xs,H with
 |[.one (.l (.n 5) a)],[]=>Option.bind (g a) λr=>K (.one (.l (.n 5) r)) []
 |_,_=>none⟩
end z36
namespace z30
abbrev Q :=Opr->Option (Opr)
noncomputable def ent (g:Q):Ent:=⟨63,1,[0],λ_ xs H K=>match xs,H with
 |[.agg [.s a,.l (.n 7) a2,.b a3,.b a4,.i a5]],[]=>Option.bind (g (Opr.mk a a2 a3 a4 a5)) λr=>K (.agg [.s (Opr.name r),.l (.n 7) (Opr.decls r),.b (Opr.assoc r),.b (Opr.comm r),.i (Opr.unit r)]) []
 |_,_=>none⟩
end z30
namespace z37
abbrev Q :=Tm->Option (Tm)
noncomputable def ent (g:Q):Ent:=⟨64,1,[0],λ_ xs H K=>match xs,H with
 |[.agg [.i a,.s a2,.i a3,.l (.n 1) a4]],[]=>Option.bind (g (Tm.mk a a2 a3 a4)) λr=>K (.agg [.i (Tm.op r),.s (Tm.name r),.i (Tm.sort r),.l (.n 1) (Tm.args r)]) []
 |_,_=>none⟩
end z37
namespace z2t
abbrev Q :=LK->Option LK
noncomputable def ent (g:Q):Ent:=⟨65,1,[0],λ_ xs H K=>match xs,H with
 |[.one (.l (.n 13) a)],[]=>Option.bind (g a) λr=>K (.one (.l (.n 13) r)) []
 |_,_=>none⟩
end z2t
namespace z0g
abbrev Q :=ByteArray->Option (Bool)
noncomputable def ent (g:Q):Ent:=⟨66,0,[0],λ_ xs H K=>match xs,H with
 |[.one (.s a)],[]=>Option.bind (g a) λr=>K (.one (.b r)) []
 |_,_=>none⟩
end z0g
namespace z15
abbrev Q :=Od->Opr->Option (Bool)
noncomputable def ent (g:Q):Ent:=⟨67,0,[0,0],λ_ xs H K=>match xs,H with
 |[.agg [.l .i a,.l .i a2,.l .i a3],.agg [.s a4,.l (.n 7) a5,.b a6,.b a7,.i a8]],[]=>Option.bind (g (Od.mk a a2 a3) (Opr.mk a4 a5 a6 a7 a8)) λr=>K (.one (.b r)) []
 |_,_=>none⟩
end z15
namespace z14
abbrev Q :=Od->Sg->Opr->Option (Bool)
noncomputable def ent (g:Q):Ent:=⟨68,0,[0,0,0],λ_ xs H K=>match xs,H with
 |[.agg [.l .i a,.l .i a2,.l .i a3],.agg [.l .s a4,.l (.n 5) a5,.l (.n 8) a6],.agg [.s a7,.l (.n 7) a8,.b a9,.b a10,.i a11]],[]=>Option.bind (g (Od.mk a a2 a3) (Sg.mk (So.mk a4 a5) a6) (Opr.mk a7 a8 a9 a10 a11)) λr=>K (.one (.b r)) []
 |_,_=>none⟩
end z14
namespace z0k
abbrev Q :=So->Option (Bool)
noncomputable def ent (g:Q):Ent:=⟨69,0,[0],λ_ xs H K=>match xs,H with
 |[.agg [.l .s a,.l (.n 5) a2]],[]=>Option.bind (g (So.mk a a2)) λr=>K (.one (.b r)) []
 |_,_=>none⟩
end z0k
namespace z1p
abbrev Q :=So->Option LI
noncomputable def ent (g:Q):Ent:=⟨70,1,[0],λ_ xs H K=>match xs,H with
 |[.agg [.l .s a,.l (.n 5) a2]],[]=>Option.bind (g (So.mk a a2)) λr=>K (.one (.l .i r)) []
 |_,_=>none⟩
end z1p
namespace z0m
abbrev Q :=Int->Option LI
noncomputable def ent (g:Q):Ent:=⟨71,1,[0],λ_ xs H K=>match xs,H with
 |[.one (.i a)],[]=>Option.bind (g a) λr=>K (.one (.l .i r)) []
 |_,_=>none⟩
end z0m
namespace z58
abbrev Q :=LQ->Int->Option LQ
end z58
namespace z59
abbrev Q :=LQ->Int->Option LQ
noncomputable def ent (g:Q):Ent:=⟨72,2,[1,0],λ_ xs H K=>match xs,H with
 |[.one (.o 0),.one (.i a)],[.row (.n 14) 0 h]=>Option.bind (g h a) λr=>K (.one (.o 1)) [.gone,.row (.n 14) 0 r]
 |_,_=>none⟩
end z59
namespace z0z
abbrev Q :=LI->LI->LI->LB->LS->LO->LM->Tm->Option (Bool×LM)
noncomputable def ent (g:Q):Ent:=⟨73,2,[1,0],λ_ xs H K=>match xs,H with
 |[.one (.p 0 0),.agg [.i a,.s a2,.i a3,.l (.n 1) a4]],[.box [.l .i h,.l .i h2,.l .i h3,.l .s h4,.l (.n 5) h5,.l (.n 8) h6,.m 1],.map .i h7]=>Option.bind (g h h2 h3 h4 h5 h6 h7 (Tm.mk a a2 a3 a4)) λr=>K (.one (.b r.1)) [.box [.l .i h,.l .i h2,.l .i h3,.l .s h4,.l (.n 5) h5,.l (.n 8) h6,.m 1],.map .i r.2]
 |_,_=>none⟩
end z0z
namespace z12
abbrev Q :=LI->LI->LI->LB->LS->LO->LM->Tm->Option (Int×LM)
noncomputable def ent (g:Q):Ent:=⟨74,2,[1,0],λ_ xs H K=>match xs,H with
 |[.one (.p 0 0),.agg [.i a,.s a2,.i a3,.l (.n 1) a4]],[.box [.l .i h,.l .i h2,.l .i h3,.l .s h4,.l (.n 5) h5,.l (.n 8) h6,.m 1],.map .i h7]=>Option.bind (g h h2 h3 h4 h5 h6 h7 (Tm.mk a a2 a3 a4)) λr=>K (.one (.i r.1)) [.box [.l .i h,.l .i h2,.l .i h3,.l .s h4,.l (.n 5) h5,.l (.n 8) h6,.m 1],.map .i r.2]
 |_,_=>none⟩
end z12
namespace z0t
abbrev Q :=Tm->Option LT
noncomputable def ent (g:Q):Ent:=⟨75,1,[0],λ_ xs H K=>match xs,H with
 |[.agg [.i a,.s a2,.i a3,.l (.n 1) a4]],[]=>Option.bind (g (Tm.mk a a2 a3 a4)) λr=>K (.one (.l (.n 1) r)) []
 |_,_=>none⟩
end z0t
namespace z17
abbrev Q :=LT->Tm->Option (Bool)
noncomputable def ent (g:Q):Ent:=⟨76,0,[0,0],λ_ xs H K=>match xs,H with
 |[.one (.l (.n 1) a),.agg [.i a2,.s a3,.i a4,.l (.n 1) a5]],[]=>Option.bind (g a (Tm.mk a2 a3 a4 a5)) λr=>K (.one (.b r)) []
 |_,_=>none⟩
end z17
namespace z1n
abbrev Q :=Tm->Tm->Option (Bool)
noncomputable def ent (g:Q):Ent:=⟨77,0,[0,0],λ_ xs H K=>match xs,H with
 |[.agg [.i a,.s a2,.i a3,.l (.n 1) a4],.agg [.i a5,.s a6,.i a7,.l (.n 1) a8]],[]=>Option.bind (g (Tm.mk a a2 a3 a4) (Tm.mk a5 a6 a7 a8)) λr=>K (.one (.b r)) []
 |_,_=>none⟩
end z1n
namespace z1b
abbrev Q :=Tm->LI->Option LI
noncomputable def ent (g:Q):Ent:=⟨78,2,[0,1,1],λ_ xs H K=>match xs,H with
 |[.agg [.i a,.s a2,.i a3,.l (.n 1) a4],.one (.p 0 0),.one (.p 2 0)],[.box [.o 1],.row .u 0 h,.box [.f 78 [.p 0 0,.p 2 0]]]=>Option.bind (g (Tm.mk a a2 a3 a4) h) λr=>K (.tup []) [.box [.o 3],.gone,.box [.f 78 [.p 0 0,.p 2 0]],.row .u 0 r]
 |_,_=>none⟩
end z1b
namespace z5h
abbrev Q :=LI->Int->Int->Option LI
end z5h
namespace z5i
abbrev Q :=LI->Int->Int->Option LI
noncomputable def ent (g:Q):Ent:=⟨79,2,[1,0,0],λ_ xs H K=>match xs,H with
 |[.one (.o 0),.one (.i a),.one (.i a2)],[.row .u 0 h]=>Option.bind (g h a a2) λr=>K (.one (.o 1)) [.gone,.row .u 0 r]
 |_,_=>none⟩
end z5i
namespace z1k
abbrev Q :=LI->LI->LI->LB->LS->LO->LM->LI->(List (ByteArray×Bool))->LT->LT->Option (Bool×LM×List (ByteArray×Bool))
noncomputable def ent (g:Q):Ent:=⟨80,2,[1,0,0],λ_ xs H K=>match xs,H with
 |[.agg [.p 0 0,.l .i a,.m 2],.one (.l (.n 1) a2),.one (.l (.n 1) a3)],[.box [.l .i h,.l .i h2,.l .i h3,.l .s h4,.l (.n 5) h5,.l (.n 8) h6,.m 1],.map .i h7,.map .b h8]=>Option.bind (g h h2 h3 h4 h5 h6 h7 a h8 a2 a3) λr=>K (.one (.b r.1)) [.box [.l .i h,.l .i h2,.l .i h3,.l .s h4,.l (.n 5) h5,.l (.n 8) h6,.m 1],.map .i r.2.1,.map .b r.2.2]
 |_,_=>none⟩
end z1k
namespace z27
abbrev Q :=LB->LB->Option (Bool)
noncomputable def ent (g:Q):Ent:=⟨81,0,[0,0],λ_ xs H K=>match xs,H with
 |[.one (.l .s a),.one (.l .s a2)],[]=>Option.bind (g a a2) λr=>K (.one (.b r)) []
 |_,_=>none⟩
end z27
namespace z29
abbrev Q :=LS->LS->Option (Bool)
noncomputable def ent (g:Q):Ent:=⟨82,0,[0,0],λ_ xs H K=>match xs,H with
 |[.one (.l (.n 5) a),.one (.l (.n 5) a2)],[]=>Option.bind (g a a2) λr=>K (.one (.b r)) []
 |_,_=>none⟩
end z29
namespace z1z
abbrev Q :=Opr->Opr->Option (Bool)
noncomputable def ent (g:Q):Ent:=⟨83,0,[0,0],λ_ xs H K=>match xs,H with
 |[.agg [.s a,.l (.n 7) a2,.b a3,.b a4,.i a5],.agg [.s a6,.l (.n 7) a7,.b a8,.b a9,.i a10]],[]=>Option.bind (g (Opr.mk a a2 a3 a4 a5) (Opr.mk a6 a7 a8 a9 a10)) λr=>K (.one (.b r)) []
 |_,_=>none⟩
end z1z
namespace z2a
abbrev Q :=Tm->Tm->Option (Bool)
noncomputable def ent (g:Q):Ent:=⟨84,0,[0,0],λ_ xs H K=>match xs,H with
 |[.agg [.i a,.s a2,.i a3,.l (.n 1) a4],.agg [.i a5,.s a6,.i a7,.l (.n 1) a8]],[]=>Option.bind (g (Tm.mk a a2 a3 a4) (Tm.mk a5 a6 a7 a8)) λr=>K (.one (.b r)) []
 |_,_=>none⟩
end z2a
namespace z1s
abbrev Q :=LK->LK->Option (Bool)
noncomputable def ent (g:Q):Ent:=⟨85,0,[0,0],λ_ xs H K=>match xs,H with
 |[.one (.l (.n 13) a),.one (.l (.n 13) a2)],[]=>Option.bind (g a a2) λr=>K (.one (.b r)) []
 |_,_=>none⟩
end z1s
namespace z2f
abbrev Q :=LD->Int->Option (Int)
noncomputable def ent (g:Q):Ent:=⟨86,0,[0,0],λ_ xs H K=>match xs,H with
 |[.one (.l (.n 7) a),.one (.i a2)],[]=>Option.bind (g a a2) λr=>K (.one (.i r)) []
 |_,_=>none⟩
end z2f
namespace z2r
abbrev Q :=LT->Int->Option (Int)
noncomputable def ent (g:Q):Ent:=⟨87,0,[0,0],λ_ xs H K=>match xs,H with
 |[.one (.l (.n 1) a),.one (.i a2)],[]=>Option.bind (g a a2) λr=>K (.one (.i r)) []
 |_,_=>none⟩
end z2r
namespace z2c
abbrev Q :=Cnd->Int->Option (Int)
noncomputable def ent (g:Q):Ent:=⟨88,0,[0,0],λ_ xs H K=>match xs,H with
 |[.agg [.i a,.s a2,.i a3,.l (.n 1) a4,.i a5,.s a6,.i a7,.l (.n 1) a8],.one (.i a9)],[]=>Option.bind (g (Cnd.mk (Tm.mk a a2 a3 a4) (Tm.mk a5 a6 a7 a8)) a9) λr=>K (.one (.i r)) []
 |_,_=>none⟩
end z2c
namespace z40
abbrev Q :=LB->ByteArray->Option (Bool)
noncomputable def ent (g:Q):Ent:=⟨89,0,[0,0],λ_ xs H K=>match xs,H with
 |[.one (.l .s a),.one (.s a2)],[]=>Option.bind (g a a2) λr=>K (.one (.b r)) []
 |_,_=>none⟩
end z40
namespace z41
abbrev Q :=Int->Int->Int->Option (Bool)
noncomputable def ent (g:Q):Ent:=⟨90,0,[0,0,0],λ_ xs H K=>match xs,H with
 |[.one (.i a),.one (.i a2),.one (.i a3)],[]=>Option.bind (g a a2 a3) λr=>K (.one (.b r)) []
 |_,_=>none⟩
end z41
namespace z4d
abbrev Q :=So->Option LI
noncomputable def ent (g:Q):Ent:=⟨91,1,[0],λ_ xs H K=>match xs,H with
 |[.agg [.l .s a,.l (.n 5) a2]],[]=>Option.bind (g (So.mk a a2)) λr=>K (.one (.l .i r)) []
 |_,_=>none⟩
end z4d
namespace z4b
abbrev Q :=Int->Int->Option (Bool)
noncomputable def ent (g:Q):Ent:=⟨92,0,[0,0],λ_ xs H K=>match xs,H with
 |[.one (.i a),.one (.i a2)],[]=>Option.bind (g a a2) λr=>K (.one (.b r)) []
 |_,_=>none⟩
end z4b
namespace z4c
abbrev Q :=So->Option LI
noncomputable def ent (g:Q):Ent:=⟨93,1,[0],λ_ xs H K=>match xs,H with
 |[.agg [.l .s a,.l (.n 5) a2]],[]=>Option.bind (g (So.mk a a2)) λr=>K (.one (.l .i r)) []
 |_,_=>none⟩
end z4c
namespace z4e
abbrev Q :=Opr->Option (Int)
noncomputable def ent (g:Q):Ent:=⟨94,0,[0],λ_ xs H K=>match xs,H with
 |[.agg [.s a,.l (.n 7) a2,.b a3,.b a4,.i a5]],[]=>Option.bind (g (Opr.mk a a2 a3 a4 a5)) λr=>K (.one (.i r)) []
 |_,_=>none⟩
end z4e
namespace z4r
abbrev Q :=Tm->Option (Bool)
noncomputable def ent (g:Q):Ent:=⟨95,0,[0],λ_ xs H K=>match xs,H with
 |[.agg [.i a,.s a2,.i a3,.l (.n 1) a4]],[]=>Option.bind (g (Tm.mk a a2 a3 a4)) λr=>K (.one (.b r)) []
 |_,_=>none⟩
end z4r
namespace z4m
abbrev Q :=Sg->Tm->Option (Bool)
noncomputable def ent (g:Q):Ent:=⟨96,0,[0,0],λ_ xs H K=>match xs,H with
 |[.agg [.l .s a,.l (.n 5) a2,.l (.n 8) a3],.agg [.i a4,.s a5,.i a6,.l (.n 1) a7]],[]=>Option.bind (g (Sg.mk (So.mk a a2) a3) (Tm.mk a4 a5 a6 a7)) λr=>K (.one (.b r)) []
 |_,_=>none⟩
end z4m
namespace z4n
abbrev Q :=Sg->Tm->Option (Int)
noncomputable def ent (g:Q):Ent:=⟨97,0,[0,0],λ_ xs H K=>match xs,H with
 |[.agg [.l .s a,.l (.n 5) a2,.l (.n 8) a3],.agg [.i a4,.s a5,.i a6,.l (.n 1) a7]],[]=>Option.bind (g (Sg.mk (So.mk a a2) a3) (Tm.mk a4 a5 a6 a7)) λr=>K (.one (.i r)) []
 |_,_=>none⟩
end z4n
namespace z4h
abbrev Q :=Tm->LT->Option LT
noncomputable def ent (g:Q):Ent:=⟨98,1,[0,0],λ_ xs H K=>match xs,H with
 |[.agg [.i a,.s a2,.i a3,.l (.n 1) a4],.one (.l (.n 1) a5)],[]=>Option.bind (g (Tm.mk a a2 a3 a4) a5) λr=>K (.one (.l (.n 1) r)) []
 |_,_=>none⟩
end z4h
namespace z3w
abbrev Q :=LT->Int->Option LT
end z3w
namespace z3x
abbrev Q :=LT->Int->Option LT
noncomputable def ent (g:Q):Ent:=⟨99,2,[0,0],λ_ xs H K=>match xs,H with
 |[.one (.l (.n 1) a),.one (.i a2)],[]=>Option.bind (g a a2) λr=>K (.one (.o 0)) [.row (.n 1) 0 r]
 |_,_=>none⟩
end z3x
namespace z35
abbrev Q :=Sb->Option (Sb)
noncomputable def ent (g:Q):Ent:=⟨100,1,[0],λ_ xs H K=>match xs,H with
 |[.agg [.i a,.i a2]],[]=>Option.bind (g (Sb.mk a a2)) λr=>K (.agg [.i (Sb.low r),.i (Sb.high r)]) []
 |_,_=>none⟩
end z35
namespace z2v
abbrev Q :=LD->Option LD
noncomputable def ent (g:Q):Ent:=⟨101,1,[0],λ_ xs H K=>match xs,H with
 |[.one (.l (.n 7) a)],[]=>Option.bind (g a) λr=>K (.one (.l (.n 7) r)) []
 |_,_=>none⟩
end z2v
namespace z38
abbrev Q :=LT->Option LT
noncomputable def ent (g:Q):Ent:=⟨102,1,[0],λ_ xs H K=>match xs,H with
 |[.one (.l (.n 1) a)],[]=>Option.bind (g a) λr=>K (.one (.l (.n 1) r)) []
 |_,_=>none⟩
end z38
namespace z2s
abbrev Q :=Cnd->Option (Cnd)
noncomputable def ent (g:Q):Ent:=⟨103,1,[0],λ_ xs H K=>match xs,H with
 |[.agg [.i a,.s a2,.i a3,.l (.n 1) a4,.i a5,.s a6,.i a7,.l (.n 1) a8]],[]=>Option.bind (g (Cnd.mk (Tm.mk a a2 a3 a4) (Tm.mk a5 a6 a7 a8))) λr=>K (.agg [.i (Tm.op (Cnd.left r)),.s (Tm.name (Cnd.left r)),.i (Tm.sort (Cnd.left r)),.l (.n 1) (Tm.args (Cnd.left r)),.i (Tm.op (Cnd.right r)),.s (Tm.name (Cnd.right r)),.i (Tm.sort (Cnd.right r)),.l (.n 1) (Tm.args (Cnd.right r))]) []
 |_,_=>none⟩
end z2s
namespace z1c
abbrev Q :=Int->Option (Bool)
noncomputable def ent (g:Q):Ent:=⟨104,0,[0],λ_ xs H K=>match xs,H with
 |[.one (.k .u8 a)],[]=>Option.bind (g a) λr=>K (.one (.b r)) []
 |_,_=>none⟩
end z1c
namespace z1h
abbrev Q :=Od->Int->Option (Bool)
noncomputable def ent (g:Q):Ent:=⟨105,0,[0,0],λ_ xs H K=>match xs,H with
 |[.agg [.l .i a,.l .i a2,.l .i a3],.one (.i a4)],[]=>Option.bind (g (Od.mk a a2 a3) a4) λr=>K (.one (.b r)) []
 |_,_=>none⟩
end z1h
namespace z19
abbrev Q :=Int->Option (Bool)
noncomputable def ent (g:Q):Ent:=⟨106,0,[0],λ_ xs H K=>match xs,H with
 |[.one (.i a)],[]=>Option.bind (g a) λr=>K (.one (.b r)) []
 |_,_=>none⟩
end z19
namespace z0r
abbrev Q :=Tm->Option (Int)
noncomputable def ent (g:Q):Ent:=⟨107,0,[0],λ_ xs H K=>match xs,H with
 |[.agg [.i a,.s a2,.i a3,.l (.n 1) a4]],[]=>Option.bind (g (Tm.mk a a2 a3 a4)) λr=>K (.one (.i r)) []
 |_,_=>none⟩
end z0r
namespace z0c
abbrev Q :=Tm->Option (Int)
noncomputable def ent (g:Q):Ent:=⟨108,0,[0],λ_ xs H K=>match xs,H with
 |[.agg [.i a,.s a2,.i a3,.l (.n 1) a4]],[]=>Option.bind (g (Tm.mk a a2 a3 a4)) λr=>K (.one (.i r)) []
 |_,_=>none⟩
end z0c
namespace z13
abbrev Q :=LI->LI->LI->LB->LS->LO->LM->Tm->Option (Bool×LM)
noncomputable def ent (g:Q):Ent:=⟨109,2,[1,0],λ_ xs H K=>match xs,H with
 |[.one (.p 0 0),.agg [.i a,.s a2,.i a3,.l (.n 1) a4]],[.box [.l .i h,.l .i h2,.l .i h3,.l .s h4,.l (.n 5) h5,.l (.n 8) h6,.m 1],.map .i h7]=>Option.bind (g h h2 h3 h4 h5 h6 h7 (Tm.mk a a2 a3 a4)) λr=>K (.one (.b r.1)) [.box [.l .i h,.l .i h2,.l .i h3,.l .s h4,.l (.n 5) h5,.l (.n 8) h6,.m 1],.map .i r.2]
 |_,_=>none⟩
end z13
namespace z0u
abbrev Q :=Tm->LT->Option LT
noncomputable def ent (g:Q):Ent:=⟨110,2,[0,1,1],λ_ xs H K=>match xs,H with
 |[.agg [.i a,.s a2,.i a3,.l (.n 1) a4],.one (.p 0 0),.one (.p 2 0)],[.box [.o 1],.row (.n 1) 0 h,.box [.f 110 [.p 0 0,.p 2 0]]]=>Option.bind (g (Tm.mk a a2 a3 a4) h) λr=>K (.tup []) [.box [.o 3],.gone,.box [.f 110 [.p 0 0,.p 2 0]],.row (.n 1) 0 r]
 |_,_=>none⟩
end z0u
namespace z16
abbrev Q :=LT->Option LT
noncomputable def ent (g:Q):Ent:=⟨111,2,[1],λ_ xs H K=>match xs,H with
 |[.one (.o 0)],[.row (.n 1) 0 h]=>Option.bind (g h) λr=>K (.one (.l (.n 1) r)) [.gone]
 |_,_=>none⟩
end z16
namespace z52
abbrev Q :=LT->Tm->Option (Bool)
noncomputable def ent (g:Q):Ent:=⟨112,2,[0,1],λ_ xs H K=>match xs,H with
 |[.one (.l (.n 1) a),.one (.f 113 [.p 0 0])],[.box [.i h,.s h2,.i h3,.l (.n 1) h4]]=>Option.bind (g a (Tm.mk h h2 h3 h4)) λr=>K (.one (.b r)) [.box [.i h,.s h2,.i h3,.l (.n 1) h4]]
 |_,_=>none⟩
end z52
namespace z51
abbrev Q :=LT->LI->LI->LI->LB->LS->LO->LM->LI->(List (ByteArray×Bool))->Tm->Option (Bool×LM×List (ByteArray×Bool))
noncomputable def ent (g:Q):Ent:=⟨112,2,[1,1],λ_ xs H K=>match xs,H with
 |[.one (.o 0),.one (.f 120 [.p 1 0,.p 5 0])],[.row (.n 1) 0 h,.box [.p 2 0,.l .i h2,.m 4],.box [.l .i h3,.l .i h4,.l .i h5,.l .s h6,.l (.n 5) h7,.l (.n 8) h8,.m 3],.map .i h9,.map .b h10,.box [.i h11,.s h12,.i h13,.l (.n 1) h14]]=>Option.bind (g h h3 h4 h5 h6 h7 h8 h9 h2 h10 (Tm.mk h11 h12 h13 h14)) λr=>K (.one (.b r.1)) [.row (.n 1) 0 h,.box [.p 2 0,.l .i h2,.m 4],.box [.l .i h3,.l .i h4,.l .i h5,.l .s h6,.l (.n 5) h7,.l (.n 8) h8,.m 3],.map .i r.2.1,.map .b r.2.2,.box [.i h11,.s h12,.i h13,.l (.n 1) h14]]
 |_,_=>none⟩
end z51
namespace z18
abbrev Q :=Tm->Tm->Option (Bool)
noncomputable def ent (g:Q):Ent:=⟨113,2,[0,1],λ_ xs H K=>match xs,H with
 |[.agg [.i a,.s a2,.i a3,.l (.n 1) a4],.one (.p 0 0)],[.box [.i h,.s h2,.i h3,.l (.n 1) h4]]=>Option.bind (g (Tm.mk a a2 a3 a4) (Tm.mk h h2 h3 h4)) λr=>K (.one (.b r)) [.box [.i h,.s h2,.i h3,.l (.n 1) h4]]
 |_,_=>none⟩
end z18
namespace z0a
abbrev Q :=Tm->Tm->Option (Int)
noncomputable def ent (g:Q):Ent:=⟨114,0,[0,0],λ_ xs H K=>match xs,H with
 |[.agg [.i a,.s a2,.i a3,.l (.n 1) a4],.agg [.i a5,.s a6,.i a7,.l (.n 1) a8]],[]=>Option.bind (g (Tm.mk a a2 a3 a4) (Tm.mk a5 a6 a7 a8)) λr=>K (.one (.i r)) []
 |_,_=>none⟩
end z0a
namespace internalstrconv_AppendInt
abbrev Q :=LI->Int->Int->Option LI
end internalstrconv_AppendInt
namespace internalstrconv_AppendInt_o
abbrev Q :=LI->Int->Int->Option LI
noncomputable def ent (g:Q):Ent:=⟨115,2,[1,0,0],λ_ xs H K=>match xs,H with
 |[.one (.o 0),.one (.i a),.one (.i a2)],[.row .u 0 h]=>Option.bind (g h a a2) λr=>K (.one (.o 1)) [.gone,.row .u 0 r]
 |_,_=>none⟩
end internalstrconv_AppendInt_o
namespace z4w
abbrev Q :=LT->Option LT
end z4w
namespace z4x
abbrev Q :=LT->Option LT
noncomputable def ent (g:Q):Ent:=⟨116,2,[0],λ_ xs H K=>match xs,H with
 |[.one (.l (.n 1) a)],[]=>Option.bind (g a) λr=>K (.one (.o 0)) [.row (.n 1) 0 r]
 |_,_=>none⟩
end z4x
namespace z5d
abbrev Q :=LT->Tm->Option (Int)
noncomputable def ent (g:Q):Ent:=⟨117,2,[0,1],λ_ xs H K=>match xs,H with
 |[.one (.l (.n 1) a),.one (.f 113 [.p 0 0])],[.box [.i h,.s h2,.i h3,.l (.n 1) h4]]=>Option.bind (g a (Tm.mk h h2 h3 h4)) λr=>K (.one (.i r)) [.box [.i h,.s h2,.i h3,.l (.n 1) h4]]
 |_,_=>none⟩
end z5d
namespace z5b
abbrev Q :=LT->Tm->Option (Int)
noncomputable def ent (g:Q):Ent:=⟨117,2,[1,1],λ_ xs H K=>match xs,H with
 |[.one (.o 0),.one (.f 118 [.p 1 0])],[.row (.n 1) 0 h,.box [.i h2,.s h3,.i h4,.l (.n 1) h5]]=>Option.bind (g h (Tm.mk h2 h3 h4 h5)) λr=>K (.one (.i r)) [.row (.n 1) 0 h,.box [.i h2,.s h3,.i h4,.l (.n 1) h5]]
 |_,_=>none⟩
end z5b
namespace z5c
abbrev Q :=LT->LI->LI->LI->LB->LS->LO->LM->LI->(List (ByteArray×Bool))->Tm->Option (Int×LM×List (ByteArray×Bool))
noncomputable def ent (g:Q):Ent:=⟨117,2,[1,1],λ_ xs H K=>match xs,H with
 |[.one (.o 0),.one (.f 120 [.p 1 0,.p 5 0])],[.row (.n 1) 0 h,.box [.p 2 0,.l .i h2,.m 4],.box [.l .i h3,.l .i h4,.l .i h5,.l .s h6,.l (.n 5) h7,.l (.n 8) h8,.m 3],.map .i h9,.map .b h10,.box [.i h11,.s h12,.i h13,.l (.n 1) h14]]=>Option.bind (g h h3 h4 h5 h6 h7 h8 h9 h2 h10 (Tm.mk h11 h12 h13 h14)) λr=>K (.one (.i r.1)) [.row (.n 1) 0 h,.box [.p 2 0,.l .i h2,.m 4],.box [.l .i h3,.l .i h4,.l .i h5,.l .s h6,.l (.n 5) h7,.l (.n 8) h8,.m 3],.map .i r.2.1,.map .b r.2.2,.box [.i h11,.s h12,.i h13,.l (.n 1) h14]]
 |_,_=>none⟩
end z5c
namespace z1l
abbrev Q :=Tm->Tm->Option (Bool)
noncomputable def ent (g:Q):Ent:=⟨118,2,[0,1],λ_ xs H K=>match xs,H with
 |[.agg [.i a,.s a2,.i a3,.l (.n 1) a4],.one (.p 0 0)],[.box [.i h,.s h2,.i h3,.l (.n 1) h4]]=>Option.bind (g (Tm.mk a a2 a3 a4) (Tm.mk h h2 h3 h4)) λr=>K (.one (.b r)) [.box [.i h,.s h2,.i h3,.l (.n 1) h4]]
 |_,_=>none⟩
end z1l
namespace z54
abbrev Q :=LT->Int->Int->Option LT
end z54
namespace z56
abbrev Q :=LT->Int->Int->Option LT
noncomputable def ent (g:Q):Ent:=⟨119,2,[1,0,0],λ_ xs H K=>match xs,H with
 |[.one (.o 0),.one (.i a),.one (.i a2)],[.row (.n 1) 0 h]=>Option.bind (g h a a2) λr=>K (.one (.o 1)) [.gone,.row (.n 1) 0 r]
 |_,_=>none⟩
end z56
namespace z1m
abbrev Q :=Tm->LI->LI->LI->LB->LS->LO->LM->LI->(List (ByteArray×Bool))->Tm->Option (Bool×LM×List (ByteArray×Bool))
noncomputable def ent (g:Q):Ent:=⟨120,2,[0,1,1],λ_ xs H K=>match xs,H with
 |[.agg [.i a,.s a2,.i a3,.l (.n 1) a4],.one (.p 0 0),.one (.p 4 0)],[.box [.p 1 0,.l .i h,.m 3],.box [.l .i h2,.l .i h3,.l .i h4,.l .s h5,.l (.n 5) h6,.l (.n 8) h7,.m 2],.map .i h8,.map .b h9,.box [.i h10,.s h11,.i h12,.l (.n 1) h13]]=>Option.bind (g (Tm.mk a a2 a3 a4) h2 h3 h4 h5 h6 h7 h8 h h9 (Tm.mk h10 h11 h12 h13)) λr=>K (.one (.b r.1)) [.box [.p 1 0,.l .i h,.m 3],.box [.l .i h2,.l .i h3,.l .i h4,.l .s h5,.l (.n 5) h6,.l (.n 8) h7,.m 2],.map .i r.2.1,.map .b r.2.2,.box [.i h10,.s h11,.i h12,.l (.n 1) h13]]
 |_,_=>none⟩
end z1m
namespace z28
abbrev Q :=Sb->Sb->Option (Bool)
noncomputable def ent (g:Q):Ent:=⟨121,0,[0,0],λ_ xs H K=>match xs,H with
 |[.agg [.i a,.i a2],.agg [.i a3,.i a4]],[]=>Option.bind (g (Sb.mk a a2) (Sb.mk a3 a4)) λr=>K (.one (.b r)) []
 |_,_=>none⟩
end z28
namespace z1u
abbrev Q :=LD->LD->Option (Bool)
noncomputable def ent (g:Q):Ent:=⟨122,0,[0,0],λ_ xs H K=>match xs,H with
 |[.one (.l (.n 7) a),.one (.l (.n 7) a2)],[]=>Option.bind (g a a2) λr=>K (.one (.b r)) []
 |_,_=>none⟩
end z1u
namespace z2b
abbrev Q :=LT->LT->Option (Bool)
noncomputable def ent (g:Q):Ent:=⟨123,0,[0,0],λ_ xs H K=>match xs,H with
 |[.one (.l (.n 1) a),.one (.l (.n 1) a2)],[]=>Option.bind (g a a2) λr=>K (.one (.b r)) []
 |_,_=>none⟩
end z2b
namespace z1r
abbrev Q :=Cnd->Cnd->Option (Bool)
noncomputable def ent (g:Q):Ent:=⟨124,0,[0,0],λ_ xs H K=>match xs,H with
 |[.agg [.i a,.s a2,.i a3,.l (.n 1) a4,.i a5,.s a6,.i a7,.l (.n 1) a8],.agg [.i a9,.s a10,.i a11,.l (.n 1) a12,.i a13,.s a14,.i a15,.l (.n 1) a16]],[]=>Option.bind (g (Cnd.mk (Tm.mk a a2 a3 a4) (Tm.mk a5 a6 a7 a8)) (Cnd.mk (Tm.mk a9 a10 a11 a12) (Tm.mk a13 a14 a15 a16))) λr=>K (.one (.b r)) []
 |_,_=>none⟩
end z1r
namespace z2e
abbrev Q :=Dc->Int->Option (Int)
noncomputable def ent (g:Q):Ent:=⟨125,0,[0,0],λ_ xs H K=>match xs,H with
 |[.agg [.l .i a,.i a2],.one (.i a3)],[]=>Option.bind (g (Dc.mk a a2) a3) λr=>K (.one (.i r)) []
 |_,_=>none⟩
end z2e
namespace z4a
abbrev Q :=Int->Option (Int)
noncomputable def ent (g:Q):Ent:=⟨126,0,[0],λ_ xs H K=>match xs,H with
 |[.one (.i a)],[]=>Option.bind (g a) λr=>K (.one (.i r)) []
 |_,_=>none⟩
end z4a
namespace z43
abbrev Q :=Int->Int->Option (Int)
noncomputable def ent (g:Q):Ent:=⟨127,0,[0,0],λ_ xs H K=>match xs,H with
 |[.one (.i a),.one (.i a2)],[]=>Option.bind (g a a2) λr=>K (.one (.i r)) []
 |_,_=>none⟩
end z43
namespace z4o
abbrev Q :=Tm->Int->Option (Int)
noncomputable def ent (g:Q):Ent:=⟨128,0,[0,0],λ_ xs H K=>match xs,H with
 |[.agg [.i a,.s a2,.i a3,.l (.n 1) a4],.one (.i a5)],[]=>Option.bind (g (Tm.mk a a2 a3 a4) a5) λr=>K (.one (.i r)) []
 |_,_=>none⟩
end z4o
namespace z3c
abbrev Q :=Tm->Option (Int)
noncomputable def ent (g:Q):Ent:=⟨129,0,[0],λ_ xs H K=>match xs,H with
 |[.agg [.i a,.s a2,.i a3,.l (.n 1) a4]],[]=>Option.bind (g (Tm.mk a a2 a3 a4)) λr=>K (.one (.i r)) []
 |_,_=>none⟩
end z3c
namespace z4p
abbrev Q :=Sg->Tm->Option (Bool)
noncomputable def ent (g:Q):Ent:=⟨130,0,[0,0],λ_ xs H K=>match xs,H with
 |[.agg [.l .s a,.l (.n 5) a2,.l (.n 8) a3],.agg [.i a4,.s a5,.i a6,.l (.n 1) a7]],[]=>Option.bind (g (Sg.mk (So.mk a a2) a3) (Tm.mk a4 a5 a6 a7)) λr=>K (.one (.b r)) []
 |_,_=>none⟩
end z4p
namespace z4q
abbrev Q :=Sg->Tm->Option (Bool)
noncomputable def ent (g:Q):Ent:=⟨131,0,[0,0],λ_ xs H K=>match xs,H with
 |[.agg [.l .s a,.l (.n 5) a2,.l (.n 8) a3],.agg [.i a4,.s a5,.i a6,.l (.n 1) a7]],[]=>Option.bind (g (Sg.mk (So.mk a a2) a3) (Tm.mk a4 a5 a6 a7)) λr=>K (.one (.b r)) []
 |_,_=>none⟩
end z4q
namespace z4i
abbrev Q :=LT->Tm->Option LT
noncomputable def ent (g:Q):Ent:=⟨132,1,[0,0],λ_ xs H K=>match xs,H with
 |[.one (.l (.n 1) a),.agg [.i a2,.s a3,.i a4,.l (.n 1) a5]],[]=>Option.bind (g a (Tm.mk a2 a3 a4 a5)) λr=>K (.one (.l (.n 1) r)) []
 |_,_=>none⟩
end z4i
namespace z4k
abbrev Q :=ByteArray->Int->Option (Tm)
noncomputable def ent (g:Q):Ent:=⟨133,1,[0,0],λ_ xs H K=>match xs,H with
 |[.one (.s a),.one (.i a2)],[]=>Option.bind (g a a2) λr=>K (.agg [.i (Tm.op r),.s (Tm.name r),.i (Tm.sort r),.l (.n 1) (Tm.args r)]) []
 |_,_=>none⟩
end z4k
namespace z4l
abbrev Q :=ByteArray->Int->Option (Tm)
end z4l
namespace z2u
abbrev Q :=Dc->Option (Dc)
noncomputable def ent (g:Q):Ent:=⟨134,1,[0],λ_ xs H K=>match xs,H with
 |[.agg [.l .i a,.i a2]],[]=>Option.bind (g (Dc.mk a a2)) λr=>K (.agg [.l .i (Dc.args r),.i (Dc.result r)]) []
 |_,_=>none⟩
end z2u
namespace z11
abbrev Q :=LI->LI->LI->LB->LS->LO->LM->Tm->Option (Bool×LM)
noncomputable def ent (g:Q):Ent:=⟨135,2,[1,0],λ_ xs H K=>match xs,H with
 |[.one (.p 0 0),.agg [.i a,.s a2,.i a3,.l (.n 1) a4]],[.box [.l .i h,.l .i h2,.l .i h3,.l .s h4,.l (.n 5) h5,.l (.n 8) h6,.m 1],.map .i h7]=>Option.bind (g h h2 h3 h4 h5 h6 h7 (Tm.mk a a2 a3 a4)) λr=>K (.one (.b r.1)) [.box [.l .i h,.l .i h2,.l .i h3,.l .s h4,.l (.n 5) h5,.l (.n 8) h6,.m 1],.map .i r.2]
 |_,_=>none⟩
end z11
namespace z0w
abbrev Q :=LI->LI->LI->LB->LS->LO->LM->Int->Int->Option (Int×LM)
noncomputable def ent (g:Q):Ent:=⟨136,2,[1,0,0],λ_ xs H K=>match xs,H with
 |[.one (.p 0 0),.one (.i a),.one (.i a2)],[.box [.l .i h,.l .i h2,.l .i h3,.l .s h4,.l (.n 5) h5,.l (.n 8) h6,.m 1],.map .i h7]=>Option.bind (g h h2 h3 h4 h5 h6 h7 a a2) λr=>K (.one (.i r.1)) [.box [.l .i h,.l .i h2,.l .i h3,.l .s h4,.l (.n 5) h5,.l (.n 8) h6,.m 1],.map .i r.2]
 |_,_=>none⟩
end z0w
namespace z10
abbrev Q :=LI->LI->LI->LB->LS->LO->LM->Int->Tm->Option (Bool×LM)
noncomputable def ent (g:Q):Ent:=⟨137,2,[1,0,0],λ_ xs H K=>match xs,H with
 |[.one (.p 0 0),.one (.i a),.agg [.i a2,.s a3,.i a4,.l (.n 1) a5]],[.box [.l .i h,.l .i h2,.l .i h3,.l .s h4,.l (.n 5) h5,.l (.n 8) h6,.m 1],.map .i h7]=>Option.bind (g h h2 h3 h4 h5 h6 h7 a (Tm.mk a2 a3 a4 a5)) λr=>K (.one (.b r.1)) [.box [.l .i h,.l .i h2,.l .i h3,.l .s h4,.l (.n 5) h5,.l (.n 8) h6,.m 1],.map .i r.2]
 |_,_=>none⟩
end z10
namespace z02
abbrev Q :=LI->Option (Int)
noncomputable def ent (g:Q):Ent:=⟨140,0,[0],λ_ xs H K=>match xs,H with
 |[.one (.l .i a)],[]=>Option.bind (g a) λr=>K (.one (.i r)) []
 |_,_=>none⟩
end z02
namespace z01
abbrev Q :=Int->Int->Option (Int)
noncomputable def ent (g:Q):Ent:=⟨141,0,[0,0],λ_ xs H K=>match xs,H with
 |[.one (.i a),.one (.i a2)],[]=>Option.bind (g a a2) λr=>K (.one (.i r)) []
 |_,_=>none⟩
end z01
namespace strings_Compare
abbrev Q :=ByteArray->ByteArray->Option (Int)
noncomputable def ent (g:Q):Ent:=⟨142,0,[0,0],λ_ xs H K=>match xs,H with
 |[.one (.s a),.one (.s a2)],[]=>Option.bind (g a a2) λr=>K (.one (.i r)) []
 |_,_=>none⟩
end strings_Compare
namespace z4y
abbrev Q :=LT->LT->Option (Int)
noncomputable def ent (g:Q):Ent:=⟨143,2,[0,0,1],λ_ xs H K=>match xs,H with
 |[.one (.l (.n 1) a),.one (.l (.n 1) a2),.one (.f 114 [])],[]=>Option.bind (g a a2) λr=>K (.one (.i r)) []
 |_,_=>none⟩
end z4y
namespace internalstrconv_AppendUint
abbrev Q :=LI->Int->Int->Option LI
noncomputable def ent (g:Q):Ent:=⟨144,1,[0,0,0],λ_ xs H K=>match xs,H with
 |[.one (.l .u a),.one (.k .u64 a2),.one (.i a3)],[]=>Option.bind (g a a2 a3) λr=>K (.one (.l .u r)) []
 |_,_=>none⟩
end internalstrconv_AppendUint
namespace internalstrconv_AppendUint_o
abbrev Q :=LI->Int->Int->Option LI
noncomputable def ent (g:Q):Ent:=⟨144,2,[1,0,0],λ_ xs H K=>match xs,H with
 |[.one (.o 0),.one (.k .u64 a),.one (.i a2)],[.row .u 0 h]=>Option.bind (g h a a2) λr=>K (.one (.o 1)) [.gone,.row .u 0 r]
 |_,_=>none⟩
end internalstrconv_AppendUint_o
namespace z1t
abbrev Q :=Dc->Dc->Option (Bool)
noncomputable def ent (g:Q):Ent:=⟨145,0,[0,0],λ_ xs H K=>match xs,H with
 |[.agg [.l .i a,.i a2],.agg [.l .i a3,.i a4]],[]=>Option.bind (g (Dc.mk a a2) (Dc.mk a3 a4)) λr=>K (.one (.b r)) []
 |_,_=>none⟩
end z1t
namespace z2i
abbrev Q :=LI->Int->Option (Int)
noncomputable def ent (g:Q):Ent:=⟨146,0,[0,0],λ_ xs H K=>match xs,H with
 |[.one (.l .i a),.one (.i a2)],[]=>Option.bind (g a a2) λr=>K (.one (.i r)) []
 |_,_=>none⟩
end z2i
namespace z42
abbrev Q :=Int->Int->Option (Int)
noncomputable def ent (g:Q):Ent:=⟨147,0,[0,0],λ_ xs H K=>match xs,H with
 |[.one (.i a),.one (.i a2)],[]=>Option.bind (g a a2) λr=>K (.one (.i r)) []
 |_,_=>none⟩
end z42
namespace z4s
abbrev Q :=Sg->Int->Option (Tm×Bool)
noncomputable def ent (g:Q):Ent:=⟨148,1,[0,0],λ_ xs H K=>match xs,H with
 |[.agg [.l .s a,.l (.n 5) a2,.l (.n 8) a3],.one (.i a4)],[]=>Option.bind (g (Sg.mk (So.mk a a2) a3) a4) λr=>K (.tup [.agg [.i (Tm.op r.1),.s (Tm.name r.1),.i (Tm.sort r.1),.l (.n 1) (Tm.args r.1)],.one (.b r.2)]) []
 |_,_=>none⟩
end z4s
namespace z4t
abbrev Q :=Sg->Int->Option (Tm×Bool)
end z4t
namespace mathbits_Len
abbrev Q :=Int->Option (Int)
end mathbits_Len
namespace z05
abbrev Q :=Int->Option (Bool)
noncomputable def ent (g:Q):Ent:=⟨151,0,[0],λ_ xs H K=>match xs,H with
 |[.one (.i a)],[]=>Option.bind (g a) λr=>K (.one (.b r)) []
 |_,_=>none⟩
end z05
namespace internalbytealg_CompareString
abbrev Q :=ByteArray->ByteArray->Option (Int)
end internalbytealg_CompareString
namespace internalstrconv_small
abbrev Q :=Int->Option (ByteArray)
noncomputable def ent (g:Q):Ent:=⟨153,0,[0],λ_ xs H K=>match xs,H with
 |[.one (.i a)],[]=>Option.bind (g a) λr=>K (.one (.s r)) []
 |_,_=>none⟩
end internalstrconv_small
namespace internalstrconv_numDigits
abbrev Q :=Int->Option (Int)
end internalstrconv_numDigits
namespace internalstrconv_formatBase10
abbrev Q :=LI->Int->Option (Unit)
end internalstrconv_formatBase10
namespace internalstrconv_formatBits
abbrev Q :=LI->Int->Int->Bool->Bool->Option (LI×ByteArray)
end internalstrconv_formatBits
namespace z5g
abbrev Q :=LT->Int->Int->Option LT
end z5g
namespace mathbits_Len32
abbrev Q :=Int->Option (Int)
end mathbits_Len32
namespace mathbits_Len64
abbrev Q :=Int->Option (Int)
end mathbits_Len64
namespace internalstrconv_log10Pow2
abbrev Q :=Int->Option (Int)
end internalstrconv_log10Pow2
namespace internalstrconv_bool2_int
abbrev Q :=Bool->Option (Int)
end internalstrconv_bool2_int
namespace internalstrconv_isPowerOfTwo
abbrev Q :=Int->Option (Bool)
end internalstrconv_isPowerOfTwo
namespace mathbits_TrailingZeros
abbrev Q :=Int->Option (Int)
end mathbits_TrailingZeros
namespace mathbits_TrailingZeros32
abbrev Q :=Int->Option (Int)
end mathbits_TrailingZeros32
namespace mathbits_TrailingZeros64
abbrev Q :=Int->Option (Int)
end mathbits_TrailingZeros64
abbrev EO:=yJ Tryz.prog
abbrev AE:=AllE Tryz.prog
abbrev PO:=gh Tryz.prog
end Go.Proofs.YtkinkfieackmdaaGreatDoor.Den
namespace Go.Proofs.YtkinkfieackmdaaGreatDoor.Den
open Go.ChangeShapes Go.WideShapes Go.ChangeAt Go.RowKit Go.Deep Go.Joins
open Abs (V AV VRs VR)
def Bv (TM:List (Nat×Ty)) (t:Nat) (T:Ty):Bool:=TM.any λp=>Nat.beq p.1 t&&decide (p.2=T)
theorem AS {TM:List (Nat×Ty)} {t:Nat} {T:Ty} (h:Bv TM t T=true):(t,T)∈TM:=by
 obtain⟨p,h1,h2⟩:=List.any_eq_true.1 h;rw[bA]at h2;have e1:=nB h2.1;have e2:=of_decide_eq_true h2.2;rw[<-e1,<-e2];exact h1
noncomputable def ig (P:Program) (TM:List (Nat×Ty)):List Field->List Ty->Nat->Bool
 |[],[],_=>true
 |f::fs,T::Ts,off=>Nat.beq f.offset off&&Nat.beq (P.cellsOf f.type) (szT T)&&Bv TM f.type T&&ig P TM fs Ts (off+szT T)
 |_,_,_=>false
def zu :List Ty->Nat
 |[]=>0
 |T::Ts=>szT T+zu Ts
noncomputable def kV (P:Program) (TM:List (Nat×Ty)) (t:Nat):Ty->Bool
 | .i=>match P.underlying t with|some (.int .i64)=>true|_=>false
 | .b=>match P.underlying t with|some .bool=>true|_=>false
 | .s=>match P.underlying t with|some .string=>true|_=>false
 | .u=>match P.underlying t with|some (.int .u8)=>true|_=>false
 | .sl T=>match P.underlying t with
  |some (.slice e)=>Nat.beq (P.cellsOf e) (szT T)&&Nat.blt 0 (szT T)&&Bv TM e T
  |_=>false
 | .n k=>match P.underlying t with
  |some (.struct fs)=>Nat.beq (P.cellsOf t) (zu (E5 k))&&Nat.blt 0 (szT (.n k))&&ig P TM fs.toList (E5 k) 0
  |_=>false
def TMOK (P:Program) (TM:List (Nat×Ty)):Prop:=∀p∈TM,kV P TM p.1 p.2=true
def zy (w:World) (T:Ty) (cs:List Value):Prop:=∃(d:I T) (vs:List V),FRs (aj T d) vs/\VRs [] (λb=>b<w.heap.size) w vs cs
theorem pb {w:World} {T:Ty} {d:I T} {c:C} {v:V} {u:Value} (he:aj T d=[c]) (hf:FR c v) (hv:VR (λb=>b<w.heap.size) w [] v u):zy w T [u]:=
 ⟨d, [v], by rw [he]; exact ⟨rfl, fun j h1 h2 => by
  have:j=0:=by simp at h2;omega
  subst this;exact hf⟩,⟨rfl,λj hj=>by
  have:j=0:=by simp at hj;omega
  subst this;exact⟨u,rfl,hv⟩⟩⟩
section
variable {H : Type} {enc : TypeId × Value → H} {P : Program} {w : World} {base : Nat} {spare : Nat → Bool} {held : Bool} {TM : List (Nat × Ty)}
theorem kQ {fuel:Nat} {cs:List Value} {xs:List (DataW H×List MemPlace)} (ih:∀t T cs x,Bv TM t T=true->DataW.trod enc P w base spare held fuel t cs=some x->zy w T cs):∀{fs:List Field} {Ts:List Ty} {off k:Nat},ig P TM fs Ts off=true->cs.length=off+zu Ts->xs.length=k+fs.length->
  (∀(i:Nat) (f:Field),fs[i]? =some f->DataW.trod enc P w base spare held fuel f.type ((cs.drop f.offset).take (P.cellsOf f.type))=xs[k+i]?)->
  ∃ds vs,Flds Ts ds/\FRs ds vs/\VRs [] (λb=>b<w.heap.size) w vs (cs.drop off)
 | [], [], off, k, _, hl, _, _ => ⟨[], [], .nil, ⟨rfl, fun j h => by simp at h⟩, by
   rw[List.drop_eq_nil_of_le (by simp[zu]at hl;omega)];exact⟨rfl,λj h=>by simp at h⟩⟩
 | f :: fs, T :: Ts, off, k, h, hl, hx, hf => by
  simp only[ig,bA]at h;obtain⟨⟨⟨h1,h2⟩,h3⟩,h4⟩:=h;have h1:=nB h1;have h2:=nB h2;have e0:=hf 0 f rfl;simp only[List.length_cons]at hx;simp only[zu]at hl;rw[Nat.add_zero,List.getElem?_eq_getElem (by omega)]at e0;rw[h1,h2]at e0;obtain⟨d,vs,a1,a2⟩:=ih f.type T _ _ h3 e0;obtain⟨ds,us,b1,b2,b3⟩:=kQ (cs:=cs) (xs:=xs) ih (k:=k+1) h4 (by omega) (by omega) (λi g hg=>by rw[hf (i+1) g (by simpa using hg)];congr 1;omega);refine⟨aj T d++ds,vs++us,.cons d b1,a1.app b2,?_⟩;have e1:cs.drop off=(cs.drop off).take (szT T)++cs.drop (off+szT T):=by rw[<-List.drop_drop,List.take_append_drop]
  rw[e1];exact a2.append b3
 |[],_::_,_,_,h,_,_,_=>by simp[ig]at h
 |_::_,[],_,_,h,_,_,_=>by simp[ig]at h
theorem vD (hTM:TMOK P TM):∀(fuel:Nat) (t:Nat) (T:Ty) (cs:List Value) (x:DataW H×List MemPlace),Bv TM t T=true->DataW.trod enc P w base spare held fuel t cs=some x->zy w T cs:=by
 intro fuel
 induction fuel using Nat.strongRecOn with
 | ind fuel ih =>
  intro t T cs x hm h;have hs:=hTM _ (AS hm);simp only at hs;cases T with
  | i =>
   simp only[kV]at hs;split at hs
   ·rename_i ht;obtain⟨n,rfl,_,wf⟩:=DataW.trod_int ht h;exact pb (T:=.i) (d:=n) rfl .i (.lit wf)
   ·cases hs
  | b =>
   simp only[kV]at hs;split at hs
   ·rename_i ht;obtain⟨b,rfl,_⟩:=DataW.trod_bool ht h;exact pb (T:=.b) (d:=b) rfl .b (.lit trivial)
   ·cases hs
  | s =>
   simp only[kV]at hs;split at hs
   ·rename_i ht;obtain⟨s,rfl,_,wf⟩:=DataW.trod_string ht h;exact pb (T:=.s) (d:=s) rfl .s (.lit wf)
   ·cases hs
  | u =>
   simp only[kV]at hs;split at hs
   ·rename_i ht;obtain⟨n,rfl,_,wf⟩:=DataW.trod_int ht h;exact pb (T:=.u) (d:=n) rfl .k (.lit wf)
   ·cases hs
  | sl T =>
   simp only[kV]at hs;split at hs
   ·rename_i e ht;simp only[bA]at hs;obtain⟨⟨h1,h2⟩,h3⟩:=hs;have h1:=nB h1;have h2:0<szT T:=by simpa [Nat.blt_eq]using h2
    obtain⟨v,rfl⟩:∃v,cs=[v]:=by
     rcases DataW.trod_slice ht h with⟨hc,_⟩|⟨a,len,cap,fh,rest,n,_,hc,_⟩
     ·exact⟨_,hc⟩
     ·exact⟨_,hc⟩
    obtain⟨A,len,cap,rfl,g1,g2,g3⟩:=tC ht h1 h2 h;rcases Nat.eq_zero_or_pos len with rfl|hp
    ·exact pb (T:=.sl T) (d:=[]) rfl (FR.nil_ h2) (.imm0 g2)
    ·obtain⟨b,off,n,rfl,rfl,g4⟩:=g3 hp;have key:∀i,i<len->∃q:I T×List V×List Value,FRs (aj      T q.1) q.2.1/\VRs [] (λb=>b<w.heap.size) w q.2.1 q.2.2/\q.2.2.length=szT T/\∀j,j<szT T->w.cell? ⟨b,off+(i*szT T+j),none⟩=q.2.2[j]? :=λi hi=>by
      obtain⟨cs,y,k1,k2,k3⟩:=g4 i hi;obtain⟨d,vs,k4,k5⟩:=ih n (by omega) e T cs y h3 k3;exact⟨(d,vs,cs),k4,k5,k1,k2⟩
     have:Inhabited (I T×List V×List Value):=⟨Classical.choose (key 0 hp)⟩;obtain⟨F,hF⟩:=choose_lt (α:=I T×List V×List Value) (n:=len) (p:=λi q=>FRs (aj T q.1) q.2.1/\VRs [] (λb=>b<w.heap.size) w q.2.1 q.2.2/\q.2.2.length=szT T/\∀j,j<szT T->w.cell? ⟨b,off+(i*szT T+j),none⟩=q.2.2[j]?) key;have hb:b<w.heap.size:=by
      obtain⟨_,_,f3,f4⟩:=hF 0 hp;have:=f4 0 h2;rw[List.getElem?_eq_getElem (by omega)]at this;rcases Nat.lt_or_ge b w.heap.size with h|h
      ·exact h
      ·simp[World.cell?,Array.getElem?_eq_none h]at this
     have hvl:∀i,i<len->(F i).2.1.length=szT T:=λi hi=>by
      obtain⟨_,f2,f3,_⟩:=hF i hi;rw[<-f2.1,f3]
     have hfr:FR (.l T ((List.range len).map λi=>(F i).1)) (.imm (szT T) ((List.range len).map λi=>(F i).2.1)):=by
      refine .l h2 (by simp) (λe he=> ?_) (λm m1 m2 j j1 j2=> ?_)
      ·obtain⟨i,hi,rfl⟩:=List.mem_map.1 he;exact hvl i (by simpa using hi)
      ·have hm:m<len:=by simpa using m1
       simp only[List.getElem_map,List.getElem_range]at j1 j2 ⊢;exact(hF m hm).1.2 j j1 j2
     have hvr:VR (λb=>b<w.heap.size) w [] (.imm (szT T) ((List.range len).map λi=>(F i).2.1)) (.slice (some ⟨b,off,none⟩) len cap):=by
      have hl:((List.range len).map λi=>(F i).2.1).length=len:=by simp
      have:=VR.imm (I:=λb=>b<w.heap.size) (w:=w) (ι:=[]) (s:=szT T) (b:=b) (off:=off) (c:=cap) (es:=(List.range len).map λi=>(F i).2.1) (f:=λk j=>(F k).2.2.getD j undef) (λe he=>by
       obtain⟨i,hi,rfl⟩:=List.mem_map.1 he;exact hvl i (by simpa using hi)) (by rw[hl];exact g1) g2 hb (λk j hk hj=>by
       rw[hl]at hk;obtain⟨_,f2,f3,f4⟩:=hF k hk;rw[f4 j hj,List.getElem?_eq_getElem (by omega)];simp[List.getD,f3,hj]) (λk hk j hj=>by
       have hk':k<len:=by simpa using hk
       simp only[List.getElem_map,List.getElem_range]at hj ⊢;obtain⟨_,f2,f3,_⟩:=hF k hk';obtain⟨u,u1,u2⟩:=f2.2 j hj;have:(F k).2.2.getD j undef=u:=by simp[List.getD,u1]
       rw[this];exact u2)
      rw[hl]at this;exact this
     exact pb (T:=.sl T) (d:=(List.range len).map λi=>(F i).1) rfl hfr hvr
   ·cases hs
  | n k =>
   simp only[kV]at hs;split at hs
   ·rename_i fs ht;simp only[bA]at hs;obtain⟨⟨h1,h2⟩,h3⟩:=hs;have h1:=nB h1;have h2:0<szT (.n k):=by simpa [Nat.blt_eq]using h2
    obtain⟨xs,n,rfl,_,hcl,hxl,hf⟩:=DataW.trod_struct ht h;obtain⟨ds,vs,a1,a2,a3⟩:=kQ (cs:=cs) (xs:=xs) (k:=0) (λt T cs x=>ih n (by omega) t T cs x) h3 (by rw[hcl,h1];omega) (by simpa using hxl) (λi f hi=>by rw[Nat.zero_add];exact hf i f (by simpa using hi));obtain⟨d,rfl⟩:=Dv k ds h2 a1;exact⟨d,vs,a2,by simpa using a3⟩
   ·cases hs
end
theorem xN {P:Program} {f:FuncId} {xs:List AT} (hc:CFn P f xs [] (.one (.b true)) []) {w:World} {avs:List AV} {vs:Array Value} (hx:ATRs [] [] xs avs) (hA:Abs.ARs [] (λb=>b<w.heap.size) w avs vs):
  Calls P f vs w λe w'=>e= .returned (.bool true)/\Below w.heap.size w w':=by
 have hF:=hc [] [] avs HpR.nil_ hx;refine(hF.2 w (λb=>b<w.heap.size) [] vs (Abs.HR.nil _ w) (λ_ h=>h) hA).mono ?_;rintro e w' ⟨r,h',ι',I',c,⟨ρ',hr,_,_⟩,rfl,D⟩;obtain⟨u,rfl,hu⟩:=hr.one';have e1:=hu.bool;subst e1;have:=D.res.bool;subst this;exact⟨rfl,⟨D.os,D.tape,D.output,D.grown,λb hb=>D.frame b hb (Abs.Bk b)⟩⟩
theorem C2 {w:World}:Abs.ARs [] (λb=>b<w.heap.size) w [] #[]:=⟨rfl,λj h=>by simp at h⟩
theorem qA {w:World} {av:AV} {avs:List AV} {v:Value} {vs:List Value} (h:Abs.AR [] (λb=>b<w.heap.size) w av v) (k:Abs.ARs [] (λb=>b<w.heap.size) w avs vs.toArray):Abs.ARs [] (λb=>b<w.heap.size) w (av::avs) (v::vs).toArray:=by
 refine⟨by have:=k.1;simpa using this,λj hj=> ?_⟩;cases j with
 |zero=>exact⟨v,by simp,h⟩
 | succ j =>
  obtain⟨c,c1,c2⟩:=k.2 j (by simpa using hj);exact⟨c,by simpa using c1,c2⟩
end Go.Proofs.YtkinkfieackmdaaGreatDoor.Den

/- merged -/
import Derived.Test.YtigoabbppmdfpaaGreatProg
import Derived.Deep.RegionHeld3
import Derived.Deep.CutRange
import Derived.Test.YtigoabbppmdfpaaGreatZRowPE1
import Derived.Test.YtigoabbppmdfpaaGreatZRowPE7

namespace Go.Proofs.YtigoabbppmdfpaaGreat.Den
open Go.RowKit
open Abs (V AV Env aD ar aw ao)
section
variable {P : Program} {E : Abs.Cx} {F : In} {ρ ρ' : Rho} {H : RV Ob} {D : RV (Nat × AT)} {L : Env} {h h' : aD} {R : Type} {tb : Nat → Y TI} {O : Orc}
theorem fU(dst:Y Nat)(v:AT)(L:RV (Nat×AT)):jQ dst v L=Draw.cK dst v L:=by cases dst<;>rfl
theorem bT.sub{d:RV (Nat×AT)}(h:bT ρ H D L)(hs:Draw.Sub d D):bT ρ H d L:=λt v j=>h t v (hs t v j)
def sys(P:Program)(E:Abs.Cx)(F:In)(ops:Array Oper)(N:RV Ob):Draw.Sys P ops AT (RV Ob) where
 Rel:=λD H a w=>Le N H/\∃ρ L h ι I,SR0 F ρ ⟨D,H⟩ L h/\Abs.Rel E L h ι I a w
 OT:=λo D v H H'=>Le N H->Le N H'/\((Gd ops E.n o D true/\dU P o E F D H v H')\/(Gd ops E.n o D false/\v= .tup []/\H'=H))
 j4:=λ⟨t,ρ,L,h,ι,I,hs,r⟩ k=>⟨t,ρ,L,h,ι,I,⟨hs.aO.sub k,hs.heap,hs.fr⟩,r⟩
 same:=λ⟨t,ρ,L,h,ι,I,hs,r⟩ S T U V=>⟨t,ρ,L,h,ι,I,hs,r.same S T U V⟩
 sound:=λ{o D R v H H' i a w Q K} ht j ho ⟨t,ρ,L,h,ι,I,hs,r⟩ hk=>by
  unfold wpOp;rw[ho];simp only[];obtain⟨A,ht⟩:=ht t;rcases ht with⟨g,O⟩|⟨g,rfl,rfl⟩
  .have W:Region.wanted o (yielded ops a.tmps)=true:=by
    cases g with
    |run y=>simp[Region.wanted,y]
    | runG y B hd=>
     have C:=r.yields (ops:=ops) B (Bk hs.aO (j _ _ hd));simp[Region.wanted,y,C]
   rw[N1 W];refine .inl (Abs.kD ?_ (λ_ _ _ f=>f.elim) ((O ρ L h (hs.aO.sub j) hs.heap hs.fr).get [] ι I a w (by rw[Ok];exact r)));rintro X w' ⟨L',h2,ι',Y,⟨ρ',av,rfl,m1,Z,m3,m4⟩,r'⟩;refine hk X w' ⟨A,ρ',_,h2,ι',Y,⟨?_,Z,m4⟩,r'.low⟩;show bT ρ' _ (Draw.cK o.dst v R) _;rw[<-fU];exact gO (hs.aO.mono m3) m1
  .have G:∀{J},o.dst=some J->J<E.n->K (a.put (some J) undef) w:=λ{J} d M=>by
    refine hk _ _ ⟨t,ρ,_,h,ι,I,⟨?_,hs.heap,hs.fr⟩,r.put M Abs.AR.none_⟩;show bT ρ _ (Draw.cK o.dst _ R) _;rw[<-fU,d];exact gO (dst:=some J) hs.aO nQ
   cases g with
   | skip y B hd hp d M=>
    have C:=r.yields (ops:=ops) B (Bk hs.aO (j _ _ hd));rw[N3 (by simp[Region.wanted,y,C,hp]),d];exact G d M
   | skipU y B hd d M=>
    have C:=r.yieldsU (ops:=ops) B (La hs.aO (j _ _ hd));rw[N3 (by simp[Region.wanted,y,C]),d];exact G d M
theorem ve{ops:Array Oper}{S:Draw.Sys P ops AT (RV Ob)}{ch rd π σ:RV Nat}{D y:RV (Nat×AT)}{hs A:RV (RV Ob)}(d:Draw.DR S ch rd π σ D hs y A):∀{t:RV (Nat×AT)},Same D t->∃j,Draw.DR S ch rd π σ t hs j A/\Same y j:=by
 induction d with
 |nil L hs=>exact λh=>⟨_,.nil _ _,h⟩
 | pure ho hc ht _ v=>
  intro t h;have hb:=h.bind;simp only[fU]at hb;obtain⟨j,k1,w⟩:=v (hb _ _);exact⟨j,.pure ho hc QK k1,w⟩
 | read ho hc hr ht _ v=>
  intro t h;have hb:=h.bind;simp only[fU]at hb;obtain⟨j,k1,w⟩:=v (hb _ _);exact⟨j,.read ho hc hr QK k1,w⟩
 | chain ho hc ht _ v=>
  intro t h;have hb:=h.bind;simp only[fU]at hb;obtain⟨j,k1,w⟩:=v (hb _ _);exact⟨j,.chain ho hc QK k1,w⟩
theorem kF(B:bx P tb)(Z:fj P O){nt:Nat}(G:E.n=nt){im:RV Nat}{ops:Array Oper}{L:RV Ob}{π ch rd:RV Nat}{K:RV (Nat×AT)->RV Ob->Y R}{r:R}:∀{rest done:RV Nat} {D:RV (Nat×AT)} {W H:RV Ob} {hs:RV (RV Ob)},dY tb O nt im ops L π ch rd done rest D W H K=some r->hs.length=Abs.cnt ch done->(∀h∈H::hs,Le W h)->
  ∃C y hl w,Draw.DR (sys P E F ops L) ch rd π rest D (H::hs) w (y::hl)/\Same C w/\K C y=some r/\bW H y
 |[],done,D,W,H,hs,hc,_,_=>⟨D,H,hs,D,.nil _ _,.refl _,hc,.refl _⟩
 | i :: rest, done,D,W,H,hs,hc,hl,d=>by
  unfold dY at hc;split at hc
  .cases hc
  rename_i o ho;have U:Abs.cnt ch (i::done)=Abs.cnt ch done+(if ch.contains i then 1 else 0):=by
   unfold Abs.cnt;rw[List.countP_cons]
  have M:Draw.Sub (Draw.sel D (o.looksAt ops)) D:=Draw.sel_sub λ_ _=>rfl;simp only at hc;split at hc
  .rename_i N;have A:(H::hs).length=Abs.cnt ch (i::done):=by rw[U,N1 N,NU,hl]
   have go:∀{v:AT}{T H':RV Ob}{J:RV (Nat×AT)},bW H H'->Same J D->(sys P E F ops L).OT o (Draw.sel D (o.looksAt ops)) v H H'->Le T W->Le T H'->dY tb O nt im ops L π ch rd (i::done) rest (jQ o.dst v J) T H' K=some r->
     ∃C y hl w,Draw.DR (sys P E F ops L) ch rd π (i::rest) D (H::hs) w (y::hl)/\Same C w/\K C y=some r/\bW H y:=λ{v T H' J} hrs t ht hd1 hd2 hc=>by
    obtain⟨C,y,Q,w,k1,k3,I⟩:=kF B Z G (hs:=H::hs) hc A (λh hm=>by
     rcases List.mem_cons.1 hm with rfl|hm
     .exact hd2
     .exact hd1.trans (d h hm))
    obtain⟨S,m1,m2⟩:=ve k1 (t.bind o.dst v);rw[fU]at m1;exact⟨C,y,Q,S,.chain ho N ht m1,k3.trans m2,I.1,hrs.trans I.2⟩
   obtain⟨J,t,⟨g,k⟩|⟨g,k⟩⟩:=li M hc
   .split at k
    .rename_i htc;obtain⟨v,H',k1,k24⟩:=BT (E:=E) B Z G k;have I:=λF=>(k24 F).1;have k4:=(k24 F).2;split at k1
     .rename_i hok;exact go (xk k4 hok) t (λd=>⟨d.unt k4 htc,.inl ⟨L4,I F⟩⟩) (wk _ _) ((d H C3).hide k4) k1
     .cases k1
    .cases k
   .exact go (.refl _) t (λd=>⟨d,.inr ⟨L4,rfl,rfl⟩⟩) (.refl _) (d H C3) k
  .rename_i N;have V:ch.contains i=false:=by simpa using N
   have A:hs.length=Abs.cnt ch (i::done):=by rw[U,N3 N];exact hl
   split at hc
   .rename_i hrd
    have go:∀{v:AT}{J:RV (Nat×AT)},Same J D->(∀H2∈(H::hs).take ((H::hs).length-Abs.cnt ch (π.filter λj=>Abs.dv ops j i)),(sys P E F ops L).OT o (Draw.sel D (o.looksAt ops)) v H2 H2)->dY tb O nt im ops L π ch rd (i::done) rest (jQ o.dst v J) W H K=some r->
      ∃C y hl w,Draw.DR (sys P E F ops L) ch rd π (i::rest) D (H::hs) w (y::hl)/\Same C w/\K C y=some r/\bW H y:=λ{v J} t ht hc=>by
     obtain⟨C,y,Q,w,k1,k3,I⟩:=kF B Z G (hs:=hs) hc A d;obtain⟨S,m1,m2⟩:=ve k1 (t.bind o.dst v);rw[fU]at m1;exact⟨C,y,Q,S,.read ho V hrd ht m1,k3.trans m2,I⟩
    obtain⟨J,t,⟨g,k⟩|⟨g,k⟩⟩:=li M hc
    .split at k
     .obtain⟨v,k1,I⟩:=vI (E:=E) B G k;exact go t (λH2 _ d=>⟨d,.inl ⟨L4,I F H2⟩⟩) k1
     .split at k
      .rename_i X;obtain⟨v,k1,I⟩:=BX (F:=F) (E:=E) B Z G X k;refine go t (λH2 hm hle2=>⟨hle2,.inl ⟨L4,I H2 ?_⟩⟩) k1;split
       .rename_i hb;have hb:=NX hb;have hk:(H::hs).length-Abs.cnt ch (π.filter λj=>Abs.dv ops j i)<=1:=by rw[NU];omega
        have:H2=H:=by
         have h2:H2∈(H::hs).take 1:=Hd
         simpa using h2
        rw[this];exact .refl H
       .grind
      .cases k
    .exact go t (λH2 _ d=>⟨d,.inr ⟨L4,rfl,rfl⟩⟩) k
   .have go:∀{v:AT}{J:RV (Nat×AT)},Same J D->(∀H,(sys P E F ops L).OT o (Draw.sel D (o.looksAt ops)) v H H)->dY tb O nt im ops L π ch rd (i::done) rest (jQ o.dst v J) W H K=some r->
      ∃C y hl w,Draw.DR (sys P E F ops L) ch rd π (i::rest) D (H::hs) w (y::hl)/\Same C w/\K C y=some r/\bW H y:=λ{v J} t ht hc=>by
     obtain⟨C,y,Q,w,k1,k3,I⟩:=kF B Z G (hs:=hs) hc A d;obtain⟨S,m1,m2⟩:=ve k1 (t.bind o.dst v);rw[fU]at m1;exact⟨C,y,Q,S,.pure ho V ht m1,k3.trans m2,I⟩
    obtain⟨J,t,⟨g,k⟩|⟨g,k⟩⟩:=li M hc
    .split at k
     .obtain⟨v,k1,I⟩:=vI (E:=E) B G k;exact go t (λH d=>⟨d,.inl ⟨L4,I F H⟩⟩) k1
     .split at k
      .rename_i X;obtain⟨v,k1,I⟩:=BX (F:=F) (E:=E) (H:=L) B Z G X k;exact go t (λH d=>⟨d,.inl ⟨L4,I H d⟩⟩) k1
      .cases k
    .exact go t (λH d=>⟨d,.inr ⟨L4,rfl,rfl⟩⟩) k
def MP(F:In)(K:Kt R)(r:R):Exit->Env->aD->Prop:=λe L h=>∃ρ' d,K e d=some r/\SR F ρ' d L h
def gH(P:Program)(an:Ann)(c:Code)(f:(R:Type)->St->Kt R->Y R):Prop:=∀[Zb](R:Type)(E:Abs.Cx)(F:In),E.n=an.nt->F.ok an.refs->∀(st:St)(K:Kt R)(r:R)(ρ:Rho)(L:Env)(h:aD),f R st K=some r->SR F ρ st L h->aw P c E (MP F K r) L h
def gt(P:Program)(an:Ann)(pc:Pcs):RV (Nat×Nat×Code)->Prop
 |[]=>True
 |p::l=>gH P an p.2.2 (λR=>pc.at_ p.1 R p.2.1)/\gt P an pc l
theorem gt.app{an:Ann}{pc:Pcs}:∀{a b:RV (Nat×Nat×Code)},gt P an pc (a++b)->gt P an pc a/\gt P an pc b
 |[],_,h=>⟨trivial,h⟩
 |_::_,_,h=>let⟨h1,h2⟩:=gt.app h.2;⟨⟨h.1,h1⟩,h2⟩
theorem xH{c:Operand}{b:Bool}{st:St}(hs:SR F ρ st L h)(hx:ev st.L c=some (.one (.b b))):SR F ρ (yT c b st) L h:=by
 cases c with
 |tmp t=>exact⟨Same.enc (jf hx) hs.aO,hs.heap,hs.fr,hs.xr⟩
 |_=>exact hs
theorem jE(hm:P.follows .mixedOrders=true)(j:bx P tb)(H:fj P O){an:Ann}{pc:Pcs}(B:E.n=an.nt)(hF:F.ok an.refs):∀{c:Code}{st:St}{K:Kt R}{r:R}{ρ:Rho}{L:Env}{h:aD},gt P an pc (bX an c)->den tb O pc an c st K=some r->SR F ρ st L h->aw P c E (MP F K r) L h
 | .skip,st,K,r,ρ,L,h,_,hc,hs=>Abs.JX ⟨ρ,st,hc,hs⟩
 | .ret,st,K,r,ρ,L,h,_,hc,hs=>Abs.L8 ⟨ρ,st,hc,hs⟩
 | .exit id,st,K,r,ρ,L,h,_,hc,hs=>Abs.JA ⟨ρ,st,hc,hs⟩
 | .seq a b,st,K,r,ρ,L,h,t,hc,hs=>by
  unfold bX at t;obtain⟨C,v⟩:=t.app;refine Abs.MC (Abs.nc ?_ (jE hm j H B hF (c:=a) C hc hs));rintro e L h ⟨ρ',D,k1,A⟩;cases e with
  | normal=>
   simp only[qX]at k1;simp only[Abs.EY];split at v
   .rename_i lv hl;rw[hl]at k1;obtain⟨J,M,m1,N⟩:=cD hF A k1;exact v.1 R E F B hF _ _ _ _ _ _ m1 N
   .rename_i hl;rw[hl]at k1;exact jE hm j H B hF (c:=b) v k1 A
  |_=>exact⟨ρ',D,k1,A⟩
 | .block id a,st,K,r,ρ,L,h,t,hc,hs=>by
  refine Abs.FM (Abs.nc ?_ (jE hm j H B hF (c:=a) t hc hs));rintro e L h ⟨ρ',D,k1,A⟩;cases e with
  | exit id'=>
   simp only[E7]at k1;simp only[Abs.zj];by_cases hid:id'=id
   .subst hid;rw[N1 (Nat.beq_refl id')]at k1;rw[N1 rfl];exact⟨ρ',D,k1,A⟩
   .rw[N3 (λhb=>hid (nB hb))]at k1;rw[N3 hid];exact⟨ρ',D,k1,A⟩
  |_=>exact⟨ρ',D,k1,A⟩
 | .cond x a b,st,K,r,ρ,L,h,t,hc,hs=>by
  unfold bX at t;obtain⟨C,v⟩:=t.app;unfold den at hc;split at hc
  .rename_i p hx;obtain⟨av,h1,h2⟩:=aP hs.aO hx;obtain⟨u,rfl,V⟩:=h2.aY;rw[V.bool]at h1;refine Abs.IN h1 (λe=> ?_) (λe=> ?_)
   .subst e;have hs:=xH hs hx;simp only[cT]at hc;split at C
    .rename_i lv hl;rw[hl]at hc;obtain⟨J,M,m1,N⟩:=cD hF hs hc;exact C.1 R E F B hF _ _ _ _ _ _ m1 N
    .rename_i hl;rw[hl]at hc;exact jE hm j H B hF (c:=a) C hc hs
   .subst e;have hs:=xH hs hx;simp only[cF]at hc;split at v
    .rename_i lv hl;rw[hl]at hc;obtain⟨J,M,m1,N⟩:=cD hF hs hc;exact v.1 R E F B hF _ _ _ _ _ _ m1 N
    .rename_i hl;rw[hl]at hc;exact jE hm j H B hF (c:=b) v hc hs
  .cases hc
 | .loop a,st,K,r,ρ,L,h,t,hc,hs=>by
  unfold den at hc;split at hc
  .exact Re
  .cases hc
 | .region id ⟨ops⟩ false,st,K,r,ρ,L,h,_,hc,hs=>Abs.CM (qi j H B hc hs)
 | .region id ops true,st,K,r,ρ,L,h,t,hc,hs=>by
  unfold bX at t;unfold den at hc;split at hc
  .rename_i d U;rw[U]at t;simp only at t;split at hc
   .cases hc
   .rename_i π ch rd ho;split at hc
    .rename_i hp;obtain⟨L2,h2,W,G⟩:=ii (ids:=bw st.L st.H d.fz) hs;simp only at hc;refine Abs.yp W ?_;obtain⟨X,Y,hl,Z,k1,k3,A,k4⟩:=kF (F:=⟨h2,ρ,(cJ (bw st.L st.H d.fz) st).H⟩) (E:=E) j H B (hs:=[]) hc rfl (λh hm=>by simp at hm;subst hm;exact .refl _);refine⟨λι I a w rel=> ?_⟩;refine Draw.draw (S:=sys P E ⟨h2,ρ,(cJ (bw st.L st.H d.fz) st).H⟩ ops (eL d.vis (cJ (bw st.L st.H d.fz) st).H)) hm π ch rd hp k1 (λa w ⟨_,ρ',L',h',ι',I',q1,q2⟩=>⟨L',h',ι',I',⟨ρ',⟨X,Y⟩,A,⟨k3.enc q1.aO,q1.heap,G.fr.trans q1.fr,G.xr.aB q1.fr k4⟩⟩,q2⟩) ⟨wT _ _,ρ,L2,h2,ι,I,⟨G.aO,G.heap,Fr.refl _ _ _⟩,rel⟩
    .cases hc
   .rename_i x y l ho;rw[ho]at t;exact Re
  .cases hc
theorem jB(hm:P.follows .mixedOrders=true)(v:bx P tb)(G:fj P O){an:Ann}{ops:Array Oper}{id:Nat}{o:sE}{d:Dw}(hp:Abs.qo ops d.cs d.rB=true){f:(R:Type)->St->Kt R->Y R}
  (J:∀p∈d.rB,∀(R:Type)(st:St)(K:Kt R)(r:R),f R st K=some r->(λj:St=>dY tb O an.nt an.im ops (eL d.vis j.H) p.1 p.2.1 p.2.2 [] p.1 j.L j.H j.H λL H=>iW an.refs o K .normal ⟨L,H⟩) (cJ (bw st.L st.H d.fz) st)=some r):gH P an (.region id ops true) f:=
 fun R E F M hF st K r ρ L h hk hs=>by
  obtain⟨L2,h2,N,t⟩:=ii (ids:=bw st.L st.H d.fz) hs;refine Abs.yp N ⟨λι I a w rel=> ?_⟩;refine Draw.drawL (S:=sys P E ⟨h2,ρ,(cJ (bw st.L st.H d.fz) st).H⟩ ops (eL d.vis (cJ (bw st.L st.H d.fz) st).H)) (L:=(cJ (bw st.L st.H d.fz) st).L) (h:=(cJ (bw st.L st.H d.fz) st).H) hm d.cs d.rB hp (λp y=> ?_) ⟨wT _ _,ρ,L2,h2,ι,I,⟨t.aO,t.heap,Fr.refl _ _ _⟩,rel⟩;obtain⟨Q,D,hl,A,k1,T,U,V⟩:=kF (F:=⟨h2,ρ,(cJ (bw st.L st.H d.fz) st).H⟩) (E:=E) v G M (hs:=[]) (J p y R st K r hk) rfl (λh hm=>by simp at hm;subst hm;exact .refl _);refine⟨A,D,hl,k1,λa w ⟨_,ρ',L',h',ι',W,q1,q2⟩=> ?_⟩;have q3:SR F ρ' ⟨Q,D⟩ L' h':=⟨T.enc q1.aO,q1.heap,t.fr.trans q1.fr,t.xr.aB q1.fr V⟩;obtain⟨B,C,m1,X⟩:=cD hF q3 U;exact⟨L',h',ι',W,⟨B,C,m1,X⟩,q2⟩
theorem DN(hm:P.follows .mixedOrders=true)(d:bx P tb)(t:fj P O){an:Ann}{pc:Pcs}{c:Code}{o:sE}(v:gt P an pc (bX an c)){f:(R:Type)->St->Kt R->Y R}(w:∀(R:Type)(st:St)(K:Kt R)(r:R),f R st K=some r->den tb O pc an c st (iW an.refs o K)=some r):gH P an c f:=
 λR _ _ y hF st K r _ _ _ hk hs=>Abs.nc (λ_ _ _ ⟨_,_,k1,A⟩=>let⟨h,j,m1,B⟩:=cD hF A k1;⟨h,j,m1,B⟩) (jE hm d t y hF v (w R st K r hk) hs)
theorem zc(hm:P.follows .mixedOrders=true)(v:bx P tb)(y:fj P O){an:Ann}{pc:Pcs}{c:Code}{lv:RV Nat}{o:sE}(A:gt P an pc (bX an c)){f:Nat->(R:Type)->St->Kt R->Y R}(h0:∀(R:Type)(st:St)(K:Kt R),f 0 R st K=none)
  (B:∀(n:Nat)(R:Type)(st:St)(K:Kt R)(r:R),f (n+1) R st K=some r->den tb O pc an c st (oy an.refs lv o (λt=>f n R t K) K)=some r) (n:Nat):gH P an (.loop c) (f n):=
 fun R E F C hF st K r ρ L h hk hs=>by
  refine Abs.Ji (λm L h=>∃ρ st,f m R st K=some r/\SR F ρ st L h) (Abs.xx L) ⟨ρ,st,hk,hs⟩ ?_;rintro m L h ⟨ρ,st,m1,D⟩;cases m with
  |zero=>rw[h0]at m1;cases m1
  | succ m=>
   refine Abs.nc ?_ (jE hm v y C hF A (B m R st K r m1) D);rintro e L h ⟨ρ',t,k1,w⟩;cases e with
   | normal=>
    simp only[oy,qX]at k1;obtain⟨d,j,q1,q2⟩:=cD hF w k1;exact⟨m,L,NW m,Abs.xx L,d,j,q1,q2⟩
   | _=>
    simp only[oy,qX,iW]at k1;obtain⟨d,j,q1,q2⟩:=cD hF w k1;exact⟨d,j,q1,q2⟩
end
def gU:Nat->RV AT->RV (Nat×AT)
 |_,[]=>[]
 |k,x::xs=>(k,x)::gU (k+1) xs
def Mz(tb:Nat->Y TI)(L:RV (Nat×AT))(H:RV Ob):ResultVar->Y AT
 | .tmp t=>L.lookup t
 | .cell a t=>match L.lookup a,tb t with
  | some (.one (.p id off)),some d=>match H[id]? with
   |some (.box cs)=>ld d.agg d.size (cs.drop off)
   |_=>none
  |_,_=>none
def rK(tb:Nat->Y TI)(L:RV (Nat×AT))(H:RV Ob):RV ResultVar->Y (RV AT)
 |[]=>some []
 | r::d=>match Mz tb L H r,rK tb L H d with
  |some v,some vs=>some (v::vs)
  |_,_=>none
def Cv:RV AT->AT
 |[x]=>x
 |xs=>.tup xs
def xZ:RV AV->AV
 |[x]=>x
 |xs=>.tup xs
def KW:RV AT->RV Nat
 |[]=>[]
 | x::xs=>(match cells x with
  |some cs=>cs.flatMap C.rows
  |none=>[])++KW xs
def idsR(tb:Nat->Y TI)(d:RV ResultVar)(st:St):RV Nat:=match rK tb st.L st.H d with
 |some vs=>KW vs
 |none=>[]
def DM(tb:Nat->Y TI)(an:Ann)(j:RV ResultVar)(st:St):Y (AT×RV Ob):=
 let d:=cJ (idsR tb j st) st
 match rK tb d.L d.H j with
 | some vs=>match dD [] vs with
  |some us=>dQ an.refs [] d λh=>some (Cv us,h.H)
  |none=>none
 |none=>none
def sA(L:RV (Nat×AT)):Nat->Nat->Y (RV AT)
 |_,0=>some []
 | k,m+1=>match L.lookup k,sA L (k+1) m with
  |some v,some vs=>some (v::vs)
  |_,_=>none
def Do(tb:Nat->Y TI)(an:Ann)(h:RV ResultVar)(st:St):Y (AT×RV Ob):=
 match rK tb st.L st.H h with
 | some vs=>dQ an.refs (List.range vs.length) ⟨gU 0 vs,st.H⟩ fun d=>match sA d.L 0 vs.length with
  |some us=>some (Cv us,d.H)
  |none=>none
 |none=>none
def qT{R:Type}(d:St->Y R):Kt R
 | .normal,st=>d st
 | .ret,st=>d st
 |_,_=>none
section
variable {P : Program} {E : Abs.Cx} {F : In} {ρ ρ' : Rho} {H : RV Ob} {D : RV (Nat × AT)} {L : Env} {h h' : aD} {R : Type} {tb : Nat → Y TI} {O : Orc}
theorem lq:∀{k:Nat}{xs:RV AT}{avs:RV AV},cN ρ H xs avs->bT ρ H (gU k xs) (Abs.fy k avs)
 |k,[],avs,_=>λt v d=>by simp[gU]at d
 | k, x::xs,avs,hr=>by
  obtain⟨j,avs,rfl,w,h⟩:=hr.head;intro t v d;simp only[gU,NT]at d;simp only[Abs.fy,NT];split at d
  .grind
  .exact lq h t v d
theorem Ku(w:bx P tb){st:St}(hs:SR F ρ st L h){y:ResultVar}{v:AT}(d:Mz tb st.L st.H y=some v):∃j,ATR ρ st.H v j/\Abs.IS P L h y j:=by
 cases y with
 | tmp t=>
  obtain⟨j,h1,h2⟩:=hs.aO t v d;exact⟨j,h2,Abs.GN h1⟩
 | cell a t=>
  unfold Mz at d;simp only at d;split at d
  .rename_i id off M h1 h2;split at d
   .rename_i cs B;obtain⟨i,G⟩:=w.get h2;obtain⟨j,k1,C⟩:=hs.aO a _ h1;obtain⟨u,rfl,D⟩:=C.aY;obtain⟨b,rfl,E⟩:=D.ptr;obtain⟨N,vs,A,H,I⟩:=hs.heap.box id cs B;rw[E]at A;cases A;obtain⟨j,J,K⟩:=yC d (I.drop off);exact⟨j,K,Abs.De G.tb k1 G.look H rfl (by rw[G.size,G.agg];exact J)⟩
   .cases d
  .cases d
theorem nv(j:bx P tb){st:St}(hs:SR F ρ st L h):∀{t:RV ResultVar}{vs:RV AT},rK tb st.L st.H t=some vs->∃avs,cN ρ st.H vs avs/\Abs.ResL P L h t avs
 |[],vs,d=>by cases d;exact⟨[],.et,.nil⟩
 | r::t,vs,d=>by
  simp only[rK]at d;split at d
  .rename_i x xs h1 h2;cases d;obtain⟨v,k1,w⟩:=Ku j hs h1;obtain⟨avs,y,A⟩:=nv j hs h2;exact⟨v::avs,.cons k1 y,.cons w A⟩
  .cases d
theorem oP.refl(a:RV AV):oP a a:=⟨rfl,λ_ _ _ _ _ _ _ h=>h⟩
theorem ry{fn:Func}{A:RV ResultVar}{avs d:RV AV}(hr:fn.results=A.toArray)(k:Abs.ResL P L h A avs)(B:oP avs d):Abs.Res P fn L h (xZ d):=
 ⟨fun E ι I a w r=>by
  obtain⟨cs,D,v,F⟩:=k.run r;have G:results fn a.tmps=(do let vs ←A.toArray.mapM (Abs.yX a.tmps);pure (if h:vs.size=1 then vs[0]else .tuple vs)):=by
   unfold results;rw[hr]
   congr 2
  have C:∀j (t:j<d.length),∃c,cs[j]? =some c/\Abs.AR ι I w d[j] c:=λj t=>by
   obtain⟨c,g1,y⟩:=F j (by rw[B.1];exact t);exact⟨c,g1,B.2 j _ t _ _ _ _ y⟩
  have v:cs.length=d.length:=v.trans B.1;rw[G];simp only[List.mapM_toArray];by_cases h1:cs.length=1
  .obtain⟨c,rfl⟩:=List.length_eq_one_iff.1 h1;obtain⟨b,rfl⟩:=List.length_eq_one_iff.1 (v.symm.trans h1);obtain⟨H,g1,y⟩:=C 0 C3;simp at g1;subst g1;exact⟨c,by simp[D],y⟩
  .refine⟨.tuple cs.toArray,by simp[D,h1],?_⟩;have hp:xZ d= .tup d:=by
    match d,v with
    |[],_=>rfl
    |[b],e=>exact absurd e h1
    |b::c::l,_=>rfl
   rw[hp];refine .tup (f:=λj=>(cs[j]?).getD undef) Qe (λj t=> ?_) (λj t=> ?_)
   .obtain⟨c,g1,_⟩:=C j t;simp[g1]
   .obtain⟨c,g1,y⟩:=C j t;simpa [g1]using y⟩
theorem rx{xs:RV AT}{avs:RV AV}(h:cN ρ H xs avs):ATR ρ H (Cv xs) (xZ avs):=by
 match xs,avs,h with
 |[],[],h=>exact .tup rfl (λj h=>H0)
 |[x],[a],h=>exact h.2 0 C3 C3
 |x::y::l,a::b::m,h=>exact .tup h.1 h.2
 |[],a::m,h=>exact RO
 |x::l,[],h=>exact RO
 |[x],a::b::m,h=>exact RO
 |x::y::l,[a],h=>exact RO
theorem oe{t v:RV Ob}{j:Rho}:∀{xs ys:RV AT}{d:RV AV},dD t xs=some ys->cN j v ys d->cN ρ H ys d
 | [],ys,d,hp,h=>by
  cases hp;have:=h.1;cases d with
  |nil=>exact .et
  |cons _ _=>simp at this
 | x::xs,ys,d,hp,h=>by
  simp only[dD]at hp;split at hp
  .rename_i y w h1 h2;cases hp;obtain⟨C,avs,rfl,A,B⟩:=h.head;exact .cons (yH h1 A) (oe h2 B)
  .cases hp
theorem qy{L2:RV (Nat×AT)}:∀{m k:Nat}{avs:RV AV}{us:RV AT}{E:Env},bT ρ H L2 E->(∀j,j<m->∃t,avs[j]? =some t/\∀x,E.lookup (k+j)=some x->x=t)->avs.length=m->sA L2 k m=some us->cN ρ H us avs
 | 0,k,avs,us,E,_,_,hl,h=>by
  cases h;rw[nZ hl];exact .et
 | m+1,k,avs,us,E,he,d,hl,h=>by
  simp only[sA]at h;split at h
  .rename_i v vs h1 h2;cases h;cases avs with
   |nil=>simp at hl
   | cons t avs=>
    obtain⟨w,g1,A⟩:=d 0 A1;simp at g1;subst g1;obtain⟨x,k1,B⟩:=he k v h1;have:=A x Qv;subst this;refine .cons B (qy he (λj F=> ?_) PS h2);obtain⟨y,m1,C⟩:=d (j+1) A1;exact⟨y,by simpa using m1,λz D=>C z (by rw[<-D];congr 1;omega)⟩
  .cases h
theorem Dt{L2:RV (Nat×AT)}{n:Nat}{avs:RV AV}{us:RV AT}(he:bT ρ H L2 (Abs.fy 0 avs))(hl:n=avs.length)(h:sA L2 0 n=some us):cN ρ H us avs:=by
 refine qy he (λj d=> ?_) hl.symm h;have hlt:j<avs.length:=A1
 refine⟨avs[j],gE hlt,λx hx=> ?_⟩;have:=(Abs.iR avs 0 (0+j) x hx).2;rw[Ou,Nat.sub_zero,gE hlt]at this;cases this;rfl
theorem Mc{g:Nat->Y Nat}{x d:Ob}(hm:x.mv g=some d):evo x d:=by
 cases x with
 | box cs=>
  simp only[Ob.mv]at hm;split at hm
  .cases hm;exact Rx
  .cases hm
 |row T n xs=>cases hm;exact evo.refl _
 |map T kvs=>cases hm;exact evo.refl _
 |aN=>cases hm;exact evo.refl _
 |rows T xss ho=>cases hm;exact evo.refl _
theorem II{id:Nat}{xs L:RV AT}{G:RV Ob}{avs:RV AV}(hr:Mi id (xs,H)=some (L,G))(hp:HpR ρ H h)(Z:Fr F ρ H h)(Y:cN ρ H xs avs):∃ρ',HpR ρ' G h/\Fr F ρ' G h/\cN ρ' G L avs:=by
 unfold Mi at hr;simp only at hr;split at hr
 .rename_i x hx;split at hr
  .rename_i H' ys ho hm;cases hr;obtain⟨R,C⟩:=nq ho;have hid:=(gI.1 hx).1;have I:id<ρ.length:=by rw[hp.len];exact hid
   have S:∀{i:Nat},i≠id->i<H.length->(H.set id .aN++[x])[i]? =H[i]? :=λ{i} hi hl=>Hd
   have U:(H.set id .aN++[x])[id]? =some .aN:=Hd
   have V:(H.set id .aN++[x])[H.length]? =some x:=Hd
   have O:∀{i:Nat},i<H.length->(ρ++[ρ[id]])[i]? =ρ[i]? :=λ{i} hl=>aL (by rw[hp.len];exact hl)
   have P:(ρ++[ρ[id]])[H.length]? =ρ[id]? :=by
    rw[aR (by rw[hp.len];omega),hp.len,gE I];simp
   have J:sW (λj=>if Nat.beq j id then some H.length else some j) ρ H (ρ++[ρ[id]]) G:=λi j Q=>by
    simp only at Q;split at Q
    .rename_i hb;have:=nB hb;subst this;cases Q;refine⟨λz v=>by rw[P];exact v,λz v=> ?_⟩;rw[hx]at v;cases v;obtain⟨y,d,t⟩:=C _ _ V;obtain⟨s1,s2,_⟩:=fV t;cases x with
     |row T m xs=>exact R8
     |rows T xss ho=>exact⟨y,0,d,s1,λT m xs e=>H3,nN t⟩
     |aN=>exact Rs
     |box cs=>exact Rs
     |map T kvs=>exact Rs
    .rename_i hb;cases Q;have A:i≠id:=λe=>hb (by rw[e];exact Nat.beq_refl id);refine⟨λz v=>by rw[O (by rw[<-hp.len];exact(gI.1 v).1)];exact v,λz v=> ?_⟩;have hl:=(gI.1 v).1;obtain⟨y,d,t⟩:=C _ _ ((S A hl).trans v);obtain⟨s1,s2,_⟩:=fV t;cases z with
     |row T m xs=>exact R8
     |rows T xss ho=>exact⟨y,0,d,s1,λT m xs e=>H3,nN t⟩
     |aN=>exact Rs
     |box cs=>exact Rs
     |map T kvs=>exact Rs
   have M:Ev ρ H (ρ++[ρ[id]]) G:=by
    refine⟨λi z v=>eN v,λi z v=> ?_⟩;have hl:=(gI.1 v).1;by_cases A:i=id
    .subst A;obtain⟨y,d,t⟩:=C _ _ U;cases t;exact⟨_,d,.inl rfl⟩
    .obtain⟨y,d,t⟩:=C _ _ ((S A hl).trans v);exact⟨y,d,Mc t⟩
   have B:∀(i a:Nat),(ρ++[ρ[id]])[i]? =some (some a)->live G i->∃N,ρ[N]? =some (some a)/\live H N/\((i<H.length/\N=i/\i≠id)\/(i=H.length/\N=id)):=λi a hi hl=>by
    obtain⟨z,K,W⟩:=hl;have hlt:=(gI.1 K).1;rw[R]at hlt;simp at hlt;by_cases hL:i<H.length
    .have A:i≠id:=λe=>by
      subst e;obtain⟨y,d,t⟩:=C _ _ U;cases t;rw[d]at K;cases K;cases W
     refine⟨i,by rw[O hL]at hi;exact hi,M.lv hL ⟨z,K,W⟩,.inl ⟨hL,rfl,A⟩⟩
    .have:i=H.length:=A1
     subst this;obtain⟨y,d,t⟩:=C _ _ V;rw[d]at K;cases K;exact⟨id,by rw[P]at hi;exact hi,⟨x,hx,by rw[<-gG t];exact W⟩,.inr ⟨rfl,rfl⟩⟩
   refine⟨ρ++[ρ[id]],HpR.mk' (by rw[R];simp[hp.len]) (λi z v=> ?_) (λi j a h1 h2 l1 l2=> ?_) (λi a h1=> ?_),Z.step M (N4 _) (λi a h1 l1=> ?_) (λ_ _ _=>rfl),?_⟩
   .have hlt:=(gI.1 v).1;rw[R]at hlt;simp at hlt;by_cases hL:i<H.length
    .by_cases A:i=id
     .subst A;obtain⟨y,d,t⟩:=C _ _ U;cases t;rw[d]at v;cases v;exact .inr (.inr rfl)
     .obtain⟨y,d,t⟩:=C _ _ ((S A hL).trans (gE hL));rw[d]at v;cases v;rw[O hL];rcases hp.ob (gE hL)with⟨a,w,m1,D,E⟩|⟨m1,T,n,D,E⟩|m1
      .exact .inl ⟨a,w,m1,D,ye J E t⟩
      .rw[D]at t;cases t;exact .inr (.inl ⟨m1,T,n,rfl,E⟩)
      .exact .inr (.inr (by rw[gG t];exact m1))
    .have:i=H.length:=A1
     subst this;obtain⟨y,d,t⟩:=C _ _ V;rw[d]at v;cases v;rw[P];rcases hp.ob hx with⟨a,w,m1,D,E⟩|⟨m1,T,n,D,E⟩|m1
     .exact .inl ⟨a,w,m1,D,ye J E t⟩
     .rw[D]at t;cases t;exact .inr (.inl ⟨m1,T,n,rfl,E⟩)
     .exact .inr (.inr (by rw[gG t];exact m1))
   .obtain⟨N,k1,X,k3⟩:=B i a h1 l1;obtain⟨j0,m1,D,E⟩:=B j a h2 l2;have:=hp.inj _ _ _ k1 m1 X D;omega
   .rcases ON i H.length with hL|hL
    .rw[O hL]at h1;exact hp.lt _ _ h1
    .have hlt:=(gI.1 h1).1;simp at hlt;have:i=H.length:=by have:=hp.len;omega
     subst this;rw[P]at h1;exact hp.lt _ _ h1
   .grind
   .obtain⟨h1,h2⟩:=mI hm;exact⟨by rw[h1];exact Y.1,λj k1 X=>vF J (Y.2 j A1 X) (h2 j A1 k1)⟩
  .cases hr
 .cases hr
theorem Bf:∀{w:RV Nat}{ρ:Rho}{H:RV Ob}{xs d:RV AT}{j:RV Ob}{avs:RV AV},Av w (xs,H)=some (d,j)->HpR ρ H h->Fr F ρ H h->cN ρ H xs avs->∃ρ',HpR ρ' j h/\Fr F ρ' j h/\cN ρ' j d avs
 |[],ρ,H,xs,d,j,avs,hr,hp,t,v=>by cases hr;exact⟨ρ,hp,t,v⟩
 | id::w,ρ,H,xs,d,j,avs,hr,hp,t,v=>by
  simp only[Av]at hr;split at hr
  .rename_i q y;obtain⟨ys,H2⟩:=q;obtain⟨A,B,C,a3⟩:=II y hp t v;exact Bf hr B C a3
  .cases hr
theorem Hw{fn:Func}{D:RV ResultVar}{an:Ann}{R:Type}{K:Kt R}{x:R}{S:AT×RV Ob->Prop}{j:St->Y (AT×RV Ob)}{h:aD}(y:bx P tb)(hF:(In.mk h ρ H).ok an.refs)(A:fn.results=D.toArray)(B:j=DM tb an D\/j=Do tb an D)
  (hK:∀e st,K e st=some x->∃q,qT j e st=some q/\S q) {e:Exit} {L:Env} {h1:aD} (N:MP ⟨h,ρ,H⟩ K x e L h1):Abs.M8 P fn h (λr h'=>∃q ρ',S q/\ATR ρ' q.2 q.1 r/\HpR ρ' q.2 h'/\Fr ⟨h,ρ,H⟩ ρ' q.2 h') e L h1:=by
 have key:∀{st:St}{ρ':Rho}{L:Env}{h1:aD}{q:AT×RV Ob},j st=some q->S q->SR ⟨h,ρ,H⟩ ρ' st L h1->
   ∃L2 h2 r,Abs.cQ L h1 L2 h2/\Abs.Res P fn L2 h2 r/\Abs.Out h (λr h'=>∃q ρ',S q/\ATR ρ' q.2 q.1 r/\HpR ρ' q.2 h'/\Fr ⟨h,ρ,H⟩ ρ' q.2 h') r h2:=by
  intro st ρ' L h1 q hk hS hs;rcases B with rfl|rfl
  .unfold DM at hk;obtain⟨L2,h2,O,C⟩:=ii (ids:=idsR tb D st) hs;simp only at hk;split at hk
   .rename_i vs v;split at hk
    .rename_i us t;obtain⟨d,E,F⟩:=nv y C v;obtain⟨G,b1,b2,b3⟩:=gW t E;obtain⟨w,I,c1,c2⟩:=cD hF C hk;cases c1;exact⟨L2,h2,xZ G,O,ry A F b3,.inl ⟨_,w,hS,rx (oe t b1),c2.heap,c2.fr⟩⟩
    .cases hk
   .cases hk
  .unfold Do at hk;split at hk
   .rename_i vs v;obtain⟨d,E,F⟩:=nv y hs v;have J:SR ⟨h,ρ,H⟩ ρ' ⟨gU 0 vs,st.H⟩ (Abs.fy 0 d) h1:=⟨lq E,hs.heap,hs.fr,hs.xr⟩;obtain⟨w,I,c1,c2⟩:=cD hF J hk;split at c1
    .rename_i us t;cases c1;exact⟨L,h1,xZ d,.refl _ _,ry A F (oP.refl _),.inl ⟨_,w,hS,rx (Dt c2.aO E.1 t),c2.heap,c2.fr⟩⟩
    .cases c1
   .cases hk
 obtain⟨ρ',Q,T,M⟩:=N;obtain⟨q,k1,hS⟩:=hK _ _ T;cases e with
 |normal=>exact key k1 hS M
 |ret=>exact key k1 hS M
 |_=>cases k1
theorem AG{f:FuncId}{fn:Func}{c:Code}{rs:RV ResultVar}{an:Ann}{pc:Pcs}{xs xs':RV AT}{R:Type}{K:Kt R}{x:R}{S:AT×RV Ob->Prop}{H1:RV Ob}{rb:RV Nat}{fin:St->Y (AT×RV Ob)}(hm:P.follows .mixedOrders=true)(htb:bx P tb)(hO:fj P O)(hf:P.funcs[f]? =some fn)(hb:fn.body=some c)(hname:(fn.name== "runtime.NumGoroutine")=false)
  (hnt:Nat.beq fn.ntmps an.nt=true) (hx:Nat.ble xs.length an.nt=true) (hr:Nat.beq an.refs H.length=true) (hrs:fn.results=rs.toArray) (hfin:fin=DM tb an rs\/fin=Do tb an rs)
  (hP:gt P an pc (bX an c)) (hrb:Av rb (xs,H)=some (xs',H1)) (hnr:(H1.all λo=> !o.eR)=true) (hd:den tb O pc an c ⟨gU 0 xs',H1⟩ K=some x) (hK:∀e st,K e st=some x->∃q,qT fin e st=some q/\S q):MF P f xs H S:=by
 have hnt:=nB hnt;have hx:=NX hx;have hr:=nB hr;intro ρ h avs hp ha;refine Abs.Id hf hb hname (by rw[hnt,<-ha.1];exact hx) λE hE=> ?_;have hF:(In.mk h ρ H).ok an.refs:=⟨by rw[hr];exact hp.len,hr.symm⟩;obtain⟨ρ1,g1,g2,g3⟩:=Bf hrb hp (Fr.refl ρ H h) ha;exact Abs.nc (λ_ _ _ k=>Hw htb hF hrs hfin hK k) (jE (F:=⟨h,ρ,H⟩) hm htb hO (hE.trans hnt) hF hP hd ⟨lq g3,g1,g2,XR.none_ λid y hy=>by have:=aT.1 hnr y (mG hy);simpa using this⟩)
theorem uh{f:FuncId}{fn:Func}{c:Code}{rs:RV ResultVar}{an:Ann}{pc:Pcs}{xs xs':RV AT}{v:AT}{H1 H':RV Ob}{rb:RV Nat}{fin:St->Y (AT×RV Ob)}(hm:P.follows .mixedOrders=true)(htb:bx P tb)(hO:fj P O)(hf:P.funcs[f]? =some fn)(hb:fn.body=some c)(hname:(fn.name== "runtime.NumGoroutine")=false)
  (hnt:Nat.beq fn.ntmps an.nt=true) (hx:Nat.ble xs.length an.nt=true) (hr:Nat.beq an.refs H.length=true) (hrs:fn.results=rs.toArray) (hfin:fin=DM tb an rs\/fin=Do tb an rs)
  (hP:gt P an pc (bX an c)) (hrb:Av rb (xs,H)=some (xs',H1)) (hnr:(H1.all λo=> !o.eR)=true) (hd:den tb O pc an c ⟨gU 0 xs',H1⟩ (qT fin)=some (v,H')):CFn P f xs H v H':=λρ h avs hp ha=>
 (AG (S:=λq=>q=(v,H')) hm htb hO hf hb hname hnt hx hr hrs hfin hP hrb hnr hd (λ_ _ k=>⟨_,k,rfl⟩) ρ h avs hp ha).mono λ_ _ ⟨q,ρ',e,m⟩=>by subst e;exact⟨ρ',m⟩
end
end Go.Proofs.YtigoabbppmdfpaaGreat.Den
namespace Go.Proofs.YtigoabbppmdfpaaGreat.Den
open Go.RowKit
open Abs (V AV VR)
end Go.Proofs.YtigoabbppmdfpaaGreat.Den
namespace Go.Proofs.YtigoabbppmdfpaaGreat.Den
section
open Go.RowKit
inductive PC where
 |i|b|s|l (T:Ty)|c (T:Ty)|n (T:Ty)|o (id:Nat)|p (id off:Nat)|m (id:Nat)|f (fn:Nat)
def PC.A:PC->Type->Type
 | .i,B1=>Int->B1
 | .b,B1=>Bool->B1
 | .s,B1=>Z->B1
 | .l T,B1=>RV (I T)->B1
 | .c T,B1=>RV (I T)->B1
 | .n _,B1=>B1
 | .o _,B1=>B1
 | .p _ _,B1=>B1
 | .m _,B1=>B1
 | .f _,B1=>B1
variable {R B1 B2 : Type}
def PC.run:(p:PC)->C->p.A B1->(B1->Y R)->Y R
 | .i,.i a,F,K=>K (F a)
 | .b,.b a,F,K=>K (F a)
 | .s,.s a,F,K=>K (F a)
 | .l T,.l d xs,F,K=>if e:d=T then K (F (e▸xs))else none
 | .c T,.lc d xs,F,K=>if e:d=T then K (F (e▸xs))else none
 | .n T,.nil d,F,K=>if T=d then K F else none
 | .o u,.o v,F,K=>if u=v then K F else none
 | .p u x,.p v y,F,K=>if u=v/\x=y then K F else none
 | .m u,.m v,F,K=>if u=v then K F else none
 | .f u,.f v [],F,K=>if u=v then K F else none
 |_,_,_,_=>none
def PC.All:(p:PC)->p.A B1->(C->B1->Prop)->Prop
 | .i,F,P=>∀a,P (.i a) (F a)
 | .b,F,P=>∀a,P (.b a) (F a)
 | .s,F,P=>∀a,P (.s a) (F a)
 | .l T,F,P=>∀a,P (C.l T a) (F a)
 | .c T,F,P=>∀a,P (C.lc T a) (F a)
 | .n T,F,P=>P (.nil T) F
 | .o u,F,P=>P (.o u) F
 | .p u x,F,P=>P (.p u x) F
 | .m u,F,P=>P (.m u) F
 | .f u,F,P=>P (.f u []) F
theorem PC.sound{p:PC}{c:C}{F:p.A B1}{K:B1->Y R}{r:R}{P:C->B1->Prop}(h:p.run c F K=some r)(a:p.All F P):∃y,P c y/\K y=some r:=by
 unfold PC.run at h;split at h
 .exact⟨_,a _,h⟩
 .exact⟨_,a _,h⟩
 .exact⟨_,a _,h⟩
 .split at h
  .exact RD
  .cases h
 .split at h
  .exact RD
  .cases h
 .split at h
  .exact RE
  .cases h
 .split at h
  .exact RE
  .cases h
 .split at h
  .rename_i e;obtain⟨rfl,rfl⟩:=e;exact⟨_,a,h⟩
  .cases h
 .split at h
  .exact RE
  .cases h
 .split at h
  .exact RE
  .cases h
 .cases h
def csA:RV PC->Type->Type
 |[],B1=>B1
 |p::d,B1=>p.A (csA d B1)
def Cd:(d:RV PC)->RV C->csA d B1->(B1->Y R)->Y R
 |[],[],F,K=>K F
 |p::d,c::cs,F,K=>p.run c F λh=>Cd d cs h K
 |_,_,_,_=>none
def Cq:(d:RV PC)->csA d B1->(RV C->B1->Prop)->Prop
 |[],F,P=>P [] F
 |p::d,F,P=>p.All F λc h=>Cq d h λcs y=>P (c::cs) y
theorem rO:∀{d:RV PC}{cs:RV C}{F:csA d B1}{K:B1->Y R}{r:R}{P:RV C->B1->Prop},Cd d cs F K=some r->Cq d F P->∃y,P cs y/\K y=some r
 |[],[],_,_,_,_,h,a=>⟨_,a,h⟩
 | p::d,c::cs,F,K,r,P,h,a=>
  let⟨_,h1,h2⟩:=PC.sound (p:=p) h a
  rO (P:=λcs y=>P (c::cs) y) h2 h1
 |[],_::_,_,_,_,_,h,_=>Hm
 |_::_,[],_,_,_,_,h,_=>Hm
inductive PA where
 |x (p:PC)|a (ps:List PC)
def PA.A:PA->Type->Type
 | .x p,B1=>p.A B1
 | .a d,B1=>csA d B1
def PA.run:(p:PA)->AT->p.A B1->(B1->Y R)->Y R
 | .x p,.one c,F,K=>p.run c F K
 | .a d,.agg cs,F,K=>Cd d cs F K
 |_,_,_,_=>none
def PA.All:(p:PA)->p.A B1->(AT->B1->Prop)->Prop
 | .x p,F,P=>p.All F λc y=>P (.one c) y
 | .a d,F,P=>Cq d F λcs y=>P (.agg cs) y
theorem PA.sound{p:PA}{c:AT}{F:p.A B1}{K:B1->Y R}{r:R}{P:AT->B1->Prop}(h:p.run c F K=some r)(a:p.All F P):∃y,P c y/\K y=some r:=by
 unfold PA.run at h;split at h
 .exact PC.sound h a
 .exact rO h a
 .cases h
def asA:RV PA->Type->Type
 |[],B1=>B1
 |p::d,B1=>p.A (asA d B1)
def AZ:(d:RV PA)->RV AT->asA d B1->(B1->Y R)->Y R
 |[],[],F,K=>K F
 |p::d,c::cs,F,K=>p.run c F λh=>AZ d cs h K
 |_,_,_,_=>none
def Hq:(d:RV PA)->asA d B1->(RV AT->B1->Prop)->Prop
 |[],F,P=>P [] F
 |p::d,F,P=>p.All F λc h=>Hq d h λcs y=>P (c::cs) y
theorem qN:∀{d:RV PA}{cs:RV AT}{F:asA d B1}{K:B1->Y R}{r:R}{P:RV AT->B1->Prop},AZ d cs F K=some r->Hq d F P->∃y,P cs y/\K y=some r
 |[],[],_,_,_,_,h,a=>⟨_,a,h⟩
 | p::d,c::cs,F,K,r,P,h,a=>
  let⟨_,h1,h2⟩:=PA.sound (p:=p) h a
  qN (P:=λcs y=>P (c::cs) y) h2 h1
 |[],_::_,_,_,_,_,h,_=>Hm
 |_::_,[],_,_,_,_,h,_=>Hm
inductive PO where
 |b (ps:List PC)|r (T:Ty) (n:Nat)|m (T:Ty)|g
def PO.A:PO->Type->Type
 | .b d,B1=>csA d B1
 | .r T _,B1=>RV (I T)->B1
 | .m T,B1=>RV (Z×I T)->B1
 | .g,B1=>B1
def PO.run:(p:PO)->Ob->p.A B1->(B1->Y R)->Y R
 | .b h,.box cs,F,K=>Cd h cs F K
 | .r T k,.row d k' xs,F,K=>if k=k' then (if e:d=T then K (F (e▸xs))else none)else none
 | .m T,.map d xs,F,K=>if e:d=T then K (F (e▸xs))else none
 | .g,.aN,F,K=>K F
 |_,_,_,_=>none
def PO.All:(p:PO)->p.A B1->(Ob->B1->Prop)->Prop
 | .b d,F,P=>Cq d F λcs y=>P (.box cs) y
 | .r T k,F,P=>∀a,P (.row T k a) (F a)
 | .m T,F,P=>∀a,P (.map T a) (F a)
 | .g,F,P=>P .aN F
theorem PO.sound{p:PO}{c:Ob}{F:p.A B1}{K:B1->Y R}{r:R}{P:Ob->B1->Prop}(h:p.run c F K=some r)(a:p.All F P):∃y,P c y/\K y=some r:=by
 unfold PO.run at h;split at h
 .exact rO h a
 .split at h
  .rename_i e;subst e;split at h
   .exact RD
   .cases h
  .cases h
 .split at h
  .exact RD
  .cases h
 .exact⟨_,a,h⟩
 .cases h
def osA:RV PO->Type->Type
 |[],B1=>B1
 |p::d,B1=>p.A (osA d B1)
def Cm:(d:RV PO)->RV Ob->osA d B1->(B1->Y R)->Y R
 |[],[],F,K=>K F
 |p::d,c::cs,F,K=>p.run c F λh=>Cm d cs h K
 |_,_,_,_=>none
def Fq:(d:RV PO)->osA d B1->(RV Ob->B1->Prop)->Prop
 |[],F,P=>P [] F
 |p::d,F,P=>p.All F λc h=>Fq d h λcs y=>P (c::cs) y
theorem qK:∀{d:RV PO}{cs:RV Ob}{F:osA d B1}{K:B1->Y R}{r:R}{P:RV Ob->B1->Prop},Cm d cs F K=some r->Fq d F P->∃y,P cs y/\K y=some r
 |[],[],_,_,_,_,h,a=>⟨_,a,h⟩
 | p::d,c::cs,F,K,r,P,h,a=>
  let⟨_,h1,h2⟩:=PO.sound (p:=p) h a
  qK (P:=λcs y=>P (c::cs) y) h2 h1
 |[],_::_,_,_,_,_,h,_=>Hm
 |_::_,[],_,_,_,_,h,_=>Hm
abbrev rT(d:RV PA)(hs:RV PO)(R:Type):Type:=asA d (osA hs (Y R))
def rA(d:RV PA)(hs:RV PO)(F:(R:Type)->(AT->RV Ob->Y R)->rT d hs R)(R:Type)(xs:RV AT)(H:RV Ob)(K:AT->RV Ob->Y R):Y R:=
 AZ d xs (F R K) λh=>Cm hs H h id
abbrev EG(d:RV PA)(hs:RV PO){R:Type}(F:rT d hs R)(P:RV AT->RV Ob->Y R->Prop):Prop:=Hq d F λxs h=>Fq hs h λH z=>P xs H z
theorem F0{d:RV PA}{hs:RV PO}{F:(R:Type)->(AT->RV Ob->Y R)->rT d hs R}{xs:RV AT}{H:RV Ob}{K:AT->RV Ob->Y R}{r:R}{P:RV AT->RV Ob->Y R->Prop}
  (h:rA d hs F R xs H K=some r) (a:EG d hs (F R K) P):∃z,P xs H z/\z=some r:=by
 obtain⟨_,h1,h2⟩:=qN h a;exact qK h2 h1
def uns:RV Nat->RV (Nat×AT)->Y (RV AT)
 |[],[]=>some []
 | n::d,(m,v)::l=>bif Nat.beq n m then (match uns d l with
  |some vs=>some (v::vs)
  |none=>none)else none
 |_,_=>none
def EX:RV Nat->RV AT->RV (Nat×AT)
 |n::d,v::vs=>(n,v)::EX d vs
 |_,_=>[]
theorem Bh:∀{d:RV Nat}{l:RV (Nat×AT)}{vs:RV AT},uns d l=some vs->l=EX d vs
 |[],[],_,h=>QF
 | n::d,(m,v)::l,vs,h=>by
  unfold uns at h;cases e:Nat.beq n m<;>rw[e]at h
  .cases h
  .simp only[cT]at h;split at h
   .rename_i j;cases h;cases nB e;rw[Bh j];rfl
   .cases h
 |[],_::_,_,h=>Hm
 |_::_,[],_,h=>Hm
def rS(h:RV Nat)(d:RV PA)(hs:RV PO)(F:(R:Type)->Kt R->rT d hs R)(R:Type)(st:St)(K:Kt R):Y R:=match uns h st.L with
 |some xs=>AZ d xs (F R K) λj=>Cm hs st.H j id
 |none=>none
theorem rr{j:RV Nat}{d:RV PA}{hs:RV PO}{F:(R:Type)->Kt R->rT d hs R}{st:St}{K:Kt R}{r:R}{P:St->Y R->Prop}
  (h:rS j d hs F R st K=some r) (a:EG d hs (F R K) λxs H z=>P ⟨EX j xs,H⟩ z):∃z,P st z/\z=some r:=by
 unfold rS at h;split at h
 .rename_i e;obtain⟨L,H⟩:=st;cases Bh e;obtain⟨_,h1,h2⟩:=qN h a;exact qK h2 h1
 .cases h
end
section
open Go.RowKit
noncomputable section
def tz(t:Nat):Nat×TI:=(t,⟨1,false,[.z],[],none,false,false,false,none,none⟩)
def tl(t:Nat)(e:Ty):Nat×TI:=(t,⟨1,false,[.nil e],[],some e,false,false,false,none,none⟩)
def ta(t n:Nat)(z:RV C)(f:RV (Nat×Nat×Nat)):Nat×TI:=(t,⟨n,true,z,f,none,false,false,false,none,none⟩)
def tbl:RV (Nat×TI):=[
 tz 1,(2,⟨1,false,[.i 0],[],none,false,true,false,some .i64,none⟩),(3,⟨1,false,[.i 0],[],none,false,true,false,some .i64,none⟩),(4,⟨1,false,[.b false],[],none,false,false,true,none,none⟩),(5,⟨1,false,[.k .u8 0],[],none,false,false,false,some .u8,none⟩),(6,⟨1,false,[.k .u8 0],[],none,false,false,false,some .u8,none⟩),ta 7 4 [.i 0,.i 0,.b false,.k .u8 0] [(0,2,1),(1,3,1),(2,4,1),(3,6,1)],ta 8 4 [.i 0,.i 0,.b false,.k .u8 0] [(0,2,1),(1,3,1),(2,4,1),(3,6,1)],(9,⟨1,false,[.s ByteArray.empty],[],none,true,false,false,none,none⟩),tl 22 .s,tl 23 (.n 5),ta 25 2 [.nil .s,.nil (.n 5)] [(0,22,1),(1,23,1)],tl 26 (.n 8),ta 28 3 [.nil .s,.nil (.n 5),.nil (.n 8)] [(0,25,2),(2,26,1)],tl 30 (.n 1),ta 32 4 [.i 0,.s ByteArray.empty,.i 0,.nil (.n 1)] [(0,3,1),(1,9,1),(2,3,1),(3,30,1)],tl 33 (.n 13),ta 35 9 [.i 0,.s ByteArray.empty,.i 0,.nil (.n 1),.i 0,.s ByteArray.empty,.i 0,.nil (.n 1),.nil (.n 13)] [(0,32,4),(4,32,4),(8,33,1)],tl 38 (.n 5),ta 40 2 [.nil .s,.nil (.n 5)] [(0,22,1),(1,38,1)],tl 41 (.n 8),ta 43 3 [.nil .s,.nil (.n 5),.nil (.n 8)] [(0,40,2),(2,41,1)],tz 44,tz 46,tz 48,ta 57 8 [.i 0,.s ByteArray.empty,.i 0,.nil (.n 1),.i 0,.s ByteArray.empty,.i 0,.nil (.n 1)] [(0,32,4),(4,32,4)],tz 58,tz 61,tz 65,tz 66,tz 71,tz 74,tl 76 (.n 7),ta 78 5 [.s ByteArray.empty,.nil (.n 7),.b false,.b false,.i 0] [(0,9,1),(1,76,1),(2,4,1),(3,4,1),(4,3,1)],tl 85 (.n 7),ta 87 5 [.s ByteArray.empty,.nil (.n 7),.b false,.b false,.i 0] [(0,9,1),(1,85,1),(2,4,1),(3,4,1),(4,3,1)],tl 90 .i,ta 92 3 [.nil .i,.nil .i,.nil .i] [(0,90,1),(1,90,1),(2,90,1)],(95,⟨1,false,[.z],[],none,false,false,false,none,some .i⟩),ta 97 7 [.nil .i,.nil .i,.nil .i,.nil .s,.nil (.n 5),.nil (.n 8),.z] [(0,92,3),(3,43,3),(6,95,1)],tz 99,tz 100,tz 101,tz 102,tz 103,tz 104,tz 105,tz 108,tz 109,tz 110,ta 111 6 [.nil .s,.nil (.n 5),.nil (.n 8),.s ByteArray.empty,.i 0,.b false] [(0,43,3),(3,9,1),(4,3,1),(5,4,1)],ta 112 6 [.nil .s,.nil (.n 5),.nil (.n 8),.s ByteArray.empty,.i 0,.b false] [(0,43,3),(3,9,1),(4,3,1),(5,4,1)],tz 114,tz 115,tz 116,tz 117,tz 118,tz 119,ta 120 2 [.i 0,.i 0] [(0,3,1),(1,3,1)],ta 121 2 [.i 0,.i 0] [(0,3,1),(1,3,1)],ta 123 2 [.i 0,.i 0] [(0,3,1),(1,3,1)],(125,⟨1,false,[.z],[],none,false,false,false,none,some .b⟩),tz 132,tl 138 .u,ta 141 2 [.nil .i,.i 0] [(0,90,1),(1,3,1)],ta 143 2 [.nil .i,.i 0] [(0,90,1),(1,3,1)],tz 145,ta 160 3 [.z,.s ByteArray.empty,.i 0] [(0,61,1),(1,9,1),(2,3,1)],tz 163,tz 173,(177,⟨1,false,[.k .u64 0],[],none,false,false,false,some .u64,none⟩),tz 178,tz 181,tz 187,ta 189 2 [.z,.nil .u] [(0,187,1),(1,138,1)],(196,⟨1,false,[.k .u32 0],[],none,false,false,false,some .u32,none⟩),tz 204,(207,⟨1,false,[.i 0],[],none,false,true,false,some .i64,none⟩),(216,⟨1,false,[.k .u64 0],[],none,false,false,false,some .u64,none⟩),(220,⟨1,false,[.k .u64 0],[],none,false,false,false,some .u64,none⟩),tz 224,tz 226]
def tb(t:Nat):Y TI:=tbl.lookup t
def Ny:Bool:=tbl.all λp=>match Abs.uL Tryz.prog p.1 with
 |some i=>LR i p.2&&BC Tryz.prog p.1 p.2
 |none=>false
def xW{α β:Type}(o:Y α)(a:β)(f:α->β):β:=match o with
 |none=>a
 |some x=>f x
theorem zZ:Ny=true:=F1
theorem mixed:Tryz.prog.follows .mixedOrders=true:=F1
theorem ki:bx Tryz.prog tb:=λt d h=>by
 have hm:(t,d)∈tbl:=se h;have:=aT.1 zZ _ hm;simp only at this;split at this
 .rename_i i hi;rw[bA]at this;exact⟨i,hi,this.1,this.2⟩
 .cases this
theorem apl{an:Ann}{pc:Pcs}{c:Code}(l:RV (Nat×Nat×Code))(h:gt Tryz.prog an pc l)(e:bX an c=l:=by kernel_rfl):gt Tryz.prog an pc (bX an c):=by rw[e];exact h
theorem lpc{L:RV Ent}(h:o7 Tryz.prog L){an:Ann}(pc:Pcs){c:Code}(lv:RV Nat)(o:sE)(j:gt Tryz.prog an pc (bX an c)){f:Nat->(R:Type)->St->Kt R->Y R}(h0:∀(R:Type)(st:St)(K:Kt R),f 0 R st K=none)
  (t:∀(n:Nat)(R:Type)(st:St)(K:Kt R)(r:R),f (n+1) R st K=some r->den tb (cP L) pc an c st (oy an.refs lv o (λd=>f n R d K) K)=some r):∀n,gH Tryz.prog an (.loop c) (f n):=zc mixed ki (iS h) j h0 t
theorem lpq{L:RV Ent}(v:o7 Tryz.prog L){an:Ann}(pc:Pcs){c:Code}{d:RV Nat}(o:sE){j:RV PA}{hs:RV PO}{F:Nat->(R:Type)->Kt R->rT j hs R}(w:gt Tryz.prog an pc (bX an c):=by exact apl [] trivial)(h0:∀(R:Type)(K:Kt R),EG j hs (F 0 R K) λ_ _ z=>z=none:=by (repeat intro _);rfl)
  (y:∀(n:Nat)(R:Type)(K:Kt R),EG j hs (F (n+1) R K) λxs H z=>den tb (cP L) pc an c ⟨EX d xs,H⟩ (oy an.refs d o (λt=>rS d j hs (F n) R t K) K)=z:=by (repeat intro _);show _=_;kernel_rfl):∀n,gH Tryz.prog an (.loop c) (rS d j hs (F n)):=
 lpc v pc d o w (f:=λn=>rS d j hs (F n)) (λR st K=>by
  cases e:rS d j hs (F 0) R st K with
  |none=>rfl
  |some r=>obtain⟨z,h1,h2⟩:=rr (P:=λ_ z=>z=none) e (h0 R K);rw[h1]at h2;cases h2) λn R st K r h=>by
  obtain⟨z,h1,h2⟩:=rr (P:=λst z=>den tb (cP L) pc an c st (oy an.refs d o (λt=>rS d j hs (F n) R t K) K)=z) h (y n R K);rw[h1,h2]
theorem cpc{L:RV Ent}(d:o7 Tryz.prog L){an:Ann}(pc:Pcs){c:Code}(o:sE)(h:gt Tryz.prog an pc (bX an c)){f:(R:Type)->St->Kt R->Y R}
  (j:∀(R:Type)(st:St)(K:Kt R)(r:R),f R st K=some r->den tb (cP L) pc an c st (iW an.refs o K)=some r):gH Tryz.prog an c f:=DN mixed ki (iS d) h j
theorem cpq{L:RV Ent}(t:o7 Tryz.prog L){an:Ann}(pc:Pcs){c:Code}{j:RV Nat}(o:sE){d:RV PA}{hs:RV PO}{F:(R:Type)->Kt R->rT d hs R}(v:gt Tryz.prog an pc (bX an c):=by exact apl [] trivial)
  (w:∀(R:Type)(K:Kt R),EG d hs (F R K) λxs H z=>den tb (cP L) pc an c ⟨EX j xs,H⟩ (iW an.refs o K)=z:=by (repeat intro _);show _=_;kernel_rfl):gH Tryz.prog an c (rS j d hs F):=
 cpc t pc o v λR st K r h=>by
  obtain⟨z,h1,h2⟩:=rr (P:=λst z=>den tb (cP L) pc an c st (iW an.refs o K)=z) h (w R K);rw[h1,h2]
theorem okQ{id mode:Nat}{arg:RV Nat}{d:RV PA}{hs:RV PO}{F:(R:Type)->(AT->RV Ob->Y R)->rT d hs R}(h:∀(R:Type)(K:AT->RV Ob->Y R)(r:R),EG d hs (F R K) λxs H z=>z=some r->∃v H',K v H'=some r/\CFn Tryz.prog id xs H v H'):GP Tryz.prog ⟨id,mode,arg,rA d hs F⟩:=λR xs H K r hc=>by
 obtain⟨z,h1,h2⟩:=F0 (P:=λxs H z=>z=some r->∃v H',K v H'=some r/\CFn Tryz.prog id xs H v H') hc (h R K r);exact h1 h2
theorem okL{P:Program}{f:FuncId}{β R:Type}{xs:RV AT}{H:RV Ob}{o:Y β}{K:AT->RV Ob->Y R}{x:R}{v:β->AT}{H':β->RV Ob}(hc:Option.bind o (λr=>K (v r) (H' r))=some x)(hk:∀r,o=some r->CFn P f xs H (v r) (H' r)):∃h d,K h d=some x/\CFn P f xs H h d:=
 let⟨r,a,b⟩:=bind_some hc
 ⟨_,_,b,hk r a⟩
theorem rF{L:RV Ent}(hG:o7 Tryz.prog L){f:FuncId}{fn:Func}(an:Ann)(pc:Pcs)(rb:RV Nat){xs xs2:RV AT}{v:AT}{H H2 H':RV Ob}{M:Y (AT×RV Ob)}(hf:Tryz.prog.funcs[f]? =some fn)(hd:M=some (v,H'))(hP:gt Tryz.prog an pc (bX an (aF fn)):=by exact apl [] trivial)
  (he:den tb (cP L) pc an (aF fn) ⟨gU 0 xs2,H2⟩ (qT (DM tb an fn.results.toList))=M:=by kernel_rfl) (hb:fn.body=some (aF fn):=by kernel_rfl) (hname:(fn.name== "runtime.NumGoroutine")=false:=by kernel_rfl) (hnt:Nat.beq fn.ntmps an.nt=true:=by kernel_rfl)
  (hx:Nat.ble xs.length an.nt=true:=by kernel_rfl) (hr:Nat.beq an.refs H.length=true:=by kernel_rfl) (hrb:Av rb (xs,H)=some (xs2,H2):=by kernel_rfl) (hnr:(H2.all λo=> !o.eR)=true:=by kernel_rfl):CFn Tryz.prog f xs H v H':=
 uh mixed ki (iS hG) hf hb hname hnt hx hr (Pk).symm (.inl rfl) hP hrb hnr (he.trans hd)
theorem rR{L:RV Ent}(hG:o7 Tryz.prog L){f:FuncId}{fn:Func}(an:Ann)(pc:Pcs)(rb:RV Nat){xs xs2:RV AT}{v:AT}{H H2 H':RV Ob}{M:Y (AT×RV Ob)}(hf:Tryz.prog.funcs[f]? =some fn)(hd:M=some (v,H'))(hP:gt Tryz.prog an pc (bX an (aF fn)):=by exact apl [] trivial)
  (he:den tb (cP L) pc an (aF fn) ⟨gU 0 xs2,H2⟩ (qT (Do tb an fn.results.toList))=M:=by kernel_rfl) (hb:fn.body=some (aF fn):=by kernel_rfl) (hname:(fn.name== "runtime.NumGoroutine")=false:=by kernel_rfl) (hnt:Nat.beq fn.ntmps an.nt=true:=by kernel_rfl)
  (hx:Nat.ble xs.length an.nt=true:=by kernel_rfl) (hr:Nat.beq an.refs H.length=true:=by kernel_rfl) (hrb:Av rb (xs,H)=some (xs2,H2):=by kernel_rfl) (hnr:(H2.all λo=> !o.eR)=true:=by kernel_rfl):CFn Tryz.prog f xs H v H':=
 uh mixed ki (iS hG) hf hb hname hnt hx hr (Pk).symm (.inr rfl) hP hrb hnr (he.trans hd)
theorem fF{L:RV Ent}(hG:o7 Tryz.prog L){f:FuncId}{fn:Func}(an:Ann)(pc:Pcs){xs:RV AT}{v:AT}{H H':RV Ob}{M:Y (AT×RV Ob)}(hf:Tryz.prog.funcs[f]? =some fn)(hd:M=some (v,H'))(hP:gt Tryz.prog an pc (bX an (aF fn)):=by exact apl [] trivial)
  (he:den tb (cP L) pc an (aF fn) ⟨gU 0 xs,H⟩ (qT (DM tb an fn.results.toList))=M:=by kernel_rfl) (hb:fn.body=some (aF fn):=by kernel_rfl) (hname:(fn.name== "runtime.NumGoroutine")=false:=by kernel_rfl) (hnt:Nat.beq fn.ntmps an.nt=true:=by kernel_rfl)
  (hx:Nat.ble xs.length an.nt=true:=by kernel_rfl) (hr:Nat.beq an.refs H.length=true:=by kernel_rfl) (hnr:(H.all λo=> !o.eR)=true:=by kernel_rfl):CFn Tryz.prog f xs H v H':=rF hG an pc [] hf hd hP he hb hname hnt hx hr rfl hnr
theorem fR{L:RV Ent}(hG:o7 Tryz.prog L){f:FuncId}{fn:Func}(an:Ann)(pc:Pcs){xs:RV AT}{v:AT}{H H':RV Ob}{M:Y (AT×RV Ob)}(hf:Tryz.prog.funcs[f]? =some fn)(hd:M=some (v,H'))(hP:gt Tryz.prog an pc (bX an (aF fn)):=by exact apl [] trivial)
  (he:den tb (cP L) pc an (aF fn) ⟨gU 0 xs,H⟩ (qT (Do tb an fn.results.toList))=M:=by kernel_rfl) (hb:fn.body=some (aF fn):=by kernel_rfl) (hname:(fn.name== "runtime.NumGoroutine")=false:=by kernel_rfl) (hnt:Nat.beq fn.ntmps an.nt=true:=by kernel_rfl)
  (hx:Nat.ble xs.length an.nt=true:=by kernel_rfl) (hr:Nat.beq an.refs H.length=true:=by kernel_rfl) (hnr:(H.all λo=> !o.eR)=true:=by kernel_rfl):CFn Tryz.prog f xs H v H':=rR hG an pc [] hf hd hP he hb hname hnt hx hr rfl hnr
abbrev LM:=RV (Z×Int)
abbrev LB:=RV Z
abbrev LI:=RV Int
abbrev LO:=RV Opr
abbrev LS:=RV Sb
abbrev LD:=RV Dc
abbrev LT:=RV Tm
abbrev LK:=RV Cnd
def nK(R:Type)(_:Nat)(_:St)(_:Kt R):Y R:=none
def nP:Pcs:=⟨nK,nK,nK⟩
namespace z1q
abbrev Q:=Sg->Z->Y (Bool)
end z1q
namespace z2u
abbrev Q:=Sg->Int->Y (Int)
end z2u
namespace z3q
abbrev Q:=Sg->Z->Y (Eqn×Bool)
def ent(g:Q):Ent:=⟨5,1,[0,0],rA [.a [.l .s,.l (.n 5),.l (.n 8)],.x .s] [] λ_ K a d a3 a4=>(g (Sg.mk (So.mk a d) a3) a4).bind λr=>K (.tup [.agg [.i (Tm.op (Eqn.left r.1)),.s (Tm.ae (Eqn.left r.1)),.i (Tm.ag (Eqn.left r.1)),.l (.n 1) (Tm.ac (Eqn.left r.1)),.i (Tm.op (Eqn.right r.1)),.s (Tm.ae (Eqn.right r.1)),.i (Tm.ag (Eqn.right r.1)),.l (.n 1) (Tm.ac (Eqn.right r.1)),.l (.n 13) (Eqn.aM r.1)],.one (.b r.2)]) []⟩
end z3q
namespace z34
abbrev Q:=Sg->Y (Sg)
end z34
namespace z0l
abbrev Q:=Sg->Z->Y (Eqn×Bool)
end z0l
namespace z1v
abbrev Q:=Eqn->Eqn->Y (Bool)
def ent(g:Q):Ent:=⟨8,0,[0,0],rA [.a [.i,.s,.i,.l (.n 1),.i,.s,.i,.l (.n 1),.l (.n 13)],.a [.i,.s,.i,.l (.n 1),.i,.s,.i,.l (.n 1),.l (.n 13)]] [] λ_ K a C a3 a4 a5 D E F a9 d h j t v w y A B=>(g (Eqn.mk (Tm.mk a C a3 a4) (Tm.mk a5 D E F) a9) (Eqn.mk (Tm.mk d h j t) (Tm.mk v w y A) B)).bind λr=>K (.one (.b r)) []⟩
end z1v
namespace z1z
abbrev Q:=Sg->Sg->Y (Bool)
end z1z
namespace z2i
abbrev Q:=Sg->Int->Y (Int)
end z2i
namespace z2f
abbrev Q:=Eqn->Int->Y (Int)
end z2f
namespace z2a
abbrev Q:=Eqn->Int->Y (Int)
end z2a
namespace z2v
abbrev Q:=So->Int->Y (Int)
end z2v
namespace z2t
abbrev Q:=LO->Int->Y (Int)
end z2t
namespace z40
abbrev Q:=Z->Z->Y (Z×Z×Bool)
def ent(g:Q):Ent:=⟨15,0,[0,0],rA [.x .s,.x .s] [] λ_ K a d=>(g a d).bind λr=>K (.tup [.one (.s r.1),.one (.s r.2.1),.one (.b r.2.2)]) []⟩
end z40
namespace z41
abbrev Q:=Sg->Z->Y (Tm×Tm×Bool)
def ent(g:Q):Ent:=⟨16,1,[0,0],rA [.a [.l .s,.l (.n 5),.l (.n 8)],.x .s] [] λ_ K a d a3 a4=>(g (Sg.mk (So.mk a d) a3) a4).bind λr=>K (.tup [.agg [.i (Tm.op r.1),.s (Tm.ae r.1),.i (Tm.ag r.1),.l (.n 1) (Tm.ac r.1)],.agg [.i (Tm.op r.2.1),.s (Tm.ae r.2.1),.i (Tm.ag r.2.1),.l (.n 1) (Tm.ac r.2.1)],.one (.b r.2.2)]) []⟩
end z41
namespace z3f
abbrev Q:=Sg->Eqn->Y (Z)
def ent(g:Q):Ent:=⟨17,0,[0,0],rA [.a [.l .s,.l (.n 5),.l (.n 8)],.a [.i,.s,.i,.l (.n 1),.i,.s,.i,.l (.n 1),.l (.n 13)]] [] λ_ K a t a3 a4 a5 v w y a9 d h j=>(g (Sg.mk (So.mk a t) a3) (Eqn.mk (Tm.mk a4 a5 v w) (Tm.mk y a9 d h) j)).bind λr=>K (.one (.s r)) []⟩
end z3f
namespace z35
abbrev Q:=So->Y (So)
end z35
namespace z33
abbrev Q:=LO->Y LO
end z33
namespace z1f
abbrev Q:=Sg->Y (Y (LI×LI×LI×LB×LS×LO×LM))
def ent(g:Q):Ent:=⟨20,2,[0],λ_ xs H K=>match xs,H with
 |[.agg [.l .s a,.l (.n 5) d,.l (.n 8) a3]],[]=>(g (Sg.mk (So.mk a d) a3)).bind λr=>xW r (K (.tup [.one (.z),.one (.b false)]) []) (λq=>(K (.tup [.one (.p 0 0),.one (.b true)]) [.box [.l .i q.1,.l .i q.2.1,.l .i q.2.2.1,.l .s q.2.2.2.1,.l (.n 5) q.2.2.2.2.1,.l (.n 8) q.2.2.2.2.2.1,.m 1],.map .i q.2.2.2.2.2.2]))
 |_,_=>none⟩
end z1f
namespace z11
abbrev Q:=LI->LI->LI->LB->LS->LO->LM->Z->Y (Eqn×Bool×LM)
end z11
namespace z27
abbrev Q:=Tm->Tm->Y (Bool)
def ent(g:Q):Ent:=⟨22,0,[0,0],rA [.a [.i,.s,.i,.l (.n 1)],.a [.i,.s,.i,.l (.n 1)]] [] λ_ K a d a3 a4 a5 h j t=>(g (Tm.mk a d a3 a4) (Tm.mk a5 h j t)).bind λr=>K (.one (.b r)) []⟩
end z27
namespace z1s
abbrev Q:=LK->LK->Y (Bool)
def ent(g:Q):Ent:=⟨23,0,[0,0],rA [.x (.l (.n 13)),.x (.l (.n 13))] [] λ_ K a d=>(g a d).bind λr=>K (.one (.b r)) []⟩
end z1s
namespace z21
abbrev Q:=So->So->Y (Bool)
end z21
namespace z1y
abbrev Q:=LO->LO->Y (Bool)
end z1y
namespace z2j
abbrev Q:=So->Int->Y (Int)
end z2j
namespace z2h
abbrev Q:=LO->Int->Y (Int)
end z2h
namespace z2m
abbrev Q:=Tm->Int->Y (Int)
end z2m
namespace z2d
abbrev Q:=LK->Int->Y (Int)
end z2d
namespace z2b
abbrev Q:=Tm->Int->Y (Int)
end z2b
namespace z29
abbrev Q:=LK->Int->Y (Int)
end z29
namespace z2w
abbrev Q:=LB->Int->Y (Int)
end z2w
namespace z2x
abbrev Q:=LS->Int->Y (Int)
end z2x
namespace z2s
abbrev Q:=Opr->Int->Y (Int)
end z2s
namespace z3s
abbrev Q:=Sg->Z->Y (Tm×Bool)
def ent(g:Q):Ent:=⟨35,1,[0,0],rA [.a [.l .s,.l (.n 5),.l (.n 8)],.x .s] [] λ_ K a d a3 a4=>(g (Sg.mk (So.mk a d) a3) a4).bind λr=>K (.tup [.agg [.i (Tm.op r.1),.s (Tm.ae r.1),.i (Tm.ag r.1),.l (.n 1) (Tm.ac r.1)],.one (.b r.2)]) []⟩
end z3s
namespace z3g
abbrev Q:=Sg->Eqn->Y (Bool)
def ent(g:Q):Ent:=⟨36,0,[0,0],rA [.a [.l .s,.l (.n 5),.l (.n 8)],.a [.i,.s,.i,.l (.n 1),.i,.s,.i,.l (.n 1),.l (.n 13)]] [] λ_ K a t a3 a4 a5 v w y a9 d h j=>(g (Sg.mk (So.mk a t) a3) (Eqn.mk (Tm.mk a4 a5 v w) (Tm.mk y a9 d h) j)).bind λr=>K (.one (.b r)) []⟩
end z3g
namespace z4z
abbrev Q:=Sg->Tm->Y (Z)
def ent(g:Q):Ent:=⟨37,0,[0,0],rA [.a [.l .s,.l (.n 5),.l (.n 8)],.a [.i,.s,.i,.l (.n 1)]] [] λ_ K a d a3 a4 a5 h j=>(g (Sg.mk (So.mk a d) a3) (Tm.mk a4 a5 h j)).bind λr=>K (.one (.s r)) []⟩
end z4z
namespace z36
abbrev Q:=LB->Y LB
end z36
namespace z3a
abbrev Q:=LS->Y LS
end z3a
namespace z32
abbrev Q:=Opr->Y (Opr)
end z32
namespace z0g
abbrev Q:=Sg->Y (Bool)
def ent(g:Q):Ent:=⟨41,0,[0],rA [.a [.l .s,.l (.n 5),.l (.n 8)]] [] λ_ K a d a3=>(g (Sg.mk (So.mk a d) a3)).bind λr=>K (.one (.b r)) []⟩
end z0g
namespace z1g
abbrev Q:=So->Y (Od×Bool)
def ent(g:Q):Ent:=⟨42,1,[0],rA [.a [.l .s,.l (.n 5)]] [] λ_ K a d=>(g (So.mk a d)).bind λr=>K (.tup [.agg [.l .i (Od.bh r.1),.l .i (Od.below r.1),.l .i (Od.kind r.1)],.one (.b r.2)]) []⟩
end z1g
namespace strings_Cut
abbrev Q:=Z->Z->Y (Z×Z×Bool)
end strings_Cut
namespace z12
abbrev Q:=LI->LI->LI->LB->LS->LO->LM->Z->Y (Tm×Tm×Bool×LM)
end z12
namespace z0w
abbrev Q:=LI->LI->LI->LB->LS->LO->LM->Eqn->Y (Bool×LM)
def ent(g:Q):Ent:=⟨45,2,[1,0],rA [.x (.p 0 0),.a [.i,.s,.i,.l (.n 1),.i,.s,.i,.l (.n 1),.l (.n 13)]] [.b [.l .i,.l .i,.l .i,.l .s,.l (.n 5),.l (.n 8),.m 1],.m .i] λ_ K a v a3 a4 a5 w y A a9 h h2 d h4 j t B=>(g h h2 d h4 j t B (Eqn.mk (Tm.mk a v a3 a4) (Tm.mk a5 w y A) a9)).bind λr=>K (.one (.b r.1)) [.box [.l .i h,.l .i h2,.l .i d,.l .s h4,.l (.n 5) j,.l (.n 8) t,.m 1],.map .i r.2]⟩
end z0w
namespace z0v
abbrev Q:=LI->LI->LI->LB->LS->LO->LM->Eqn->Y (Z×LM)
def ent(g:Q):Ent:=⟨46,2,[1,0],rA [.x (.p 0 0),.a [.i,.s,.i,.l (.n 1),.i,.s,.i,.l (.n 1),.l (.n 13)]] [.b [.l .i,.l .i,.l .i,.l .s,.l (.n 5),.l (.n 8),.m 1],.m .i] λ_ K a v a3 a4 a5 w y A a9 h h2 d h4 j t B=>(g h h2 d h4 j t B (Eqn.mk (Tm.mk a v a3 a4) (Tm.mk a5 w y A) a9)).bind λr=>K (.one (.s r.1)) [.box [.l .i h,.l .i h2,.l .i d,.l .s h4,.l (.n 5) j,.l (.n 8) t,.m 1],.map .i r.2]⟩
end z0v
namespace z28
abbrev Q:=LT->LT->Y (Bool)
def ent(g:Q):Ent:=⟨47,0,[0,0],rA [.x (.l (.n 1)),.x (.l (.n 1))] [] λ_ K a d=>(g a d).bind λr=>K (.one (.b r)) []⟩
end z28
namespace z1r
abbrev Q:=Cnd->Cnd->Y (Bool)
def ent(g:Q):Ent:=⟨48,0,[0,0],rA [.a [.i,.s,.i,.l (.n 1),.i,.s,.i,.l (.n 1)],.a [.i,.s,.i,.l (.n 1),.i,.s,.i,.l (.n 1)]] [] λ_ K a A a3 a4 a5 B C D a9 d h j t v w y=>(g (Cnd.mk (Tm.mk a A a3 a4) (Tm.mk a5 B C D)) (Cnd.mk (Tm.mk a9 d h j) (Tm.mk t v w y))).bind λr=>K (.one (.b r)) []⟩
end z1r
namespace z23
abbrev Q:=LB->LB->Y (Bool)
end z23
namespace z26
abbrev Q:=LS->LS->Y (Bool)
end z26
namespace z1x
abbrev Q:=Opr->Opr->Y (Bool)
end z1x
namespace z2k
abbrev Q:=LB->Int->Y (Int)
end z2k
namespace z2l
abbrev Q:=LS->Int->Y (Int)
end z2l
namespace z2o
abbrev Q:=Int->Y (Z)
def ent(g:Q):Ent:=⟨54,0,[0],rA [.x .i] [] λ_ K a=>(g a).bind λr=>K (.one (.s r)) []⟩
end z2o
namespace z2e
abbrev Q:=LD->Int->Y (Int)
end z2e
namespace z2n
abbrev Q:=LT->Int->Y (Int)
end z2n
namespace z2c
abbrev Q:=LT->Int->Y (Int)
end z2c
namespace z2q
abbrev Q:=LD->Int->Y (Int)
end z2q
namespace z3k
abbrev Q:=Sg->Y (Bool)
def ent(g:Q):Ent:=⟨59,0,[0],rA [.a [.l .s,.l (.n 5),.l (.n 8)]] [] λ_ K a d a3=>(g (Sg.mk (So.mk a d) a3)).bind λr=>K (.one (.b r)) []⟩
end z3k
namespace z54
abbrev Q:=LB->LS->LO->Z->Int->Bool->Int->Y (Tm×Int×Bool)
def ent(g:Q):Ent:=⟨60,2,[1,0],rA [.x (.p 0 0),.x .i] [.b [.l .s,.l (.n 5),.l (.n 8),.s,.i,.b]] λ_ K a h h2 d h4 j t=>(g h h2 d h4 j t a).bind λr=>K (.agg [.i (Tm.op r.1),.s (Tm.ae r.1),.i (Tm.ag r.1),.l (.n 1) (Tm.ac r.1)]) [.box [.l .s h,.l (.n 5) h2,.l (.n 8) d,.s h4,.i r.2.1,.b r.2.2]]⟩
end z54
namespace z56
abbrev Q:=LB->LS->LO->Z->Int->Bool->Y (Int)
def ent(g:Q):Ent:=⟨61,2,[1],rA [.x (.p 0 0)] [.b [.l .s,.l (.n 5),.l (.n 8),.s,.i,.b]] λ_ K h h2 d h4 t j=>(g h h2 d h4 t j).bind λr=>K (.tup []) [.box [.l .s h,.l (.n 5) h2,.l (.n 8) d,.s h4,.i r,.b j]]⟩
end z56
namespace z3y
abbrev Q:=Sg->Tm->Tm->Y (Bool)
def ent(g:Q):Ent:=⟨62,0,[0,0,0],rA [.a [.l .s,.l (.n 5),.l (.n 8)],.a [.i,.s,.i,.l (.n 1)],.a [.i,.s,.i,.l (.n 1)]] [] λ_ K a j a3 a4 a5 t v w a9 d h=>(g (Sg.mk (So.mk a j) a3) (Tm.mk a4 a5 t v) (Tm.mk w a9 d h)).bind λr=>K (.one (.b r)) []⟩
end z3y
namespace z3w
abbrev Q:=Tm->Y LT
def ent(g:Q):Ent:=⟨63,1,[0],rA [.a [.i,.s,.i,.l (.n 1)]] [] λ_ K a d a3 a4=>(g (Tm.mk a d a3 a4)).bind λr=>K (.one (.l (.n 1) r)) []⟩
end z3w
namespace z3z
abbrev Q:=Tm->LT->Y (Bool)
def ent(g:Q):Ent:=⟨64,0,[0,0],rA [.a [.i,.s,.i,.l (.n 1)],.x (.l (.n 1))] [] λ_ K a d a3 a4 a5=>(g (Tm.mk a d a3 a4) a5).bind λr=>K (.one (.b r)) []⟩
end z3z
namespace z3o
abbrev Q:=LB->Z->Y (Z)
def ent(g:Q):Ent:=⟨65,0,[0,0],rA [.x (.l .s),.x .s] [] λ_ K a d=>(g a d).bind λr=>K (.one (.s r)) []⟩
end z3o
namespace z38
abbrev Q:=Sb->Y (Sb)
end z38
namespace z2z
abbrev Q:=LD->Y LD
end z2z
namespace z0e
abbrev Q:=Z->Y (Bool)
def ent(g:Q):Ent:=⟨68,0,[0],rA [.x .s] [] λ_ K a=>(g a).bind λr=>K (.one (.b r)) []⟩
end z0e
namespace z18
abbrev Q:=Od->Opr->Y (Bool)
def ent(g:Q):Ent:=⟨69,0,[0,0],rA [.a [.l .i,.l .i,.l .i],.a [.s,.l (.n 7),.b,.b,.i]] [] λ_ K a d a3 a4 a5 h j t=>(g (Od.mk a d a3) (Opr.mk a4 a5 h j t)).bind λr=>K (.one (.b r)) []⟩
end z18
namespace z15
abbrev Q:=Od->Sg->Opr->Y (Bool)
def ent(g:Q):Ent:=⟨70,0,[0,0,0],rA [.a [.l .i,.l .i,.l .i],.a [.l .s,.l (.n 5),.l (.n 8)],.a [.s,.l (.n 7),.b,.b,.i]] [] λ_ K a j a3 a4 a5 t v w a9 d h=>(g (Od.mk a j a3) (Sg.mk (So.mk a4 a5) t) (Opr.mk v w a9 d h)).bind λr=>K (.one (.b r)) []⟩
end z15
namespace z0i
abbrev Q:=So->Y (Bool)
def ent(g:Q):Ent:=⟨71,0,[0],rA [.a [.l .s,.l (.n 5)]] [] λ_ K a d=>(g (So.mk a d)).bind λr=>K (.one (.b r)) []⟩
end z0i
namespace z1k
abbrev Q:=So->Y LI
def ent(g:Q):Ent:=⟨72,1,[0],rA [.a [.l .s,.l (.n 5)]] [] λ_ K a d=>(g (So.mk a d)).bind λr=>K (.one (.l .i r)) []⟩
end z1k
namespace z0k
abbrev Q:=Int->Y LI
def ent(g:Q):Ent:=⟨73,1,[0],rA [.x .i] [] λ_ K a=>(g a).bind λr=>K (.one (.l .i r)) []⟩
end z0k
namespace internalstringslite_Cut
abbrev Q:=Z->Z->Y (Z×Z×Bool)
end internalstringslite_Cut
namespace z0m
abbrev Q:=Sg->Z->Y (Tm×Bool)
end z0m
namespace z0x
abbrev Q:=LI->LI->LI->LB->LS->LO->LM->Tm->Y (Bool×LM)
def ent(g:Q):Ent:=⟨76,2,[1,0],rA [.x (.p 0 0),.a [.i,.s,.i,.l (.n 1)]] [.b [.l .i,.l .i,.l .i,.l .s,.l (.n 5),.l (.n 8),.m 1],.m .i] λ_ K a v a3 a4 h h2 d h4 j t w=>(g h h2 d h4 j t w (Tm.mk a v a3 a4)).bind λr=>K (.one (.b r.1)) [.box [.l .i h,.l .i h2,.l .i d,.l .s h4,.l (.n 5) j,.l (.n 8) t,.m 1],.map .i r.2]⟩
end z0x
namespace z10
abbrev Q:=LI->LI->LI->LB->LS->LO->LM->Tm->Y (Int×LM)
def ent(g:Q):Ent:=⟨77,2,[1,0],rA [.x (.p 0 0),.a [.i,.s,.i,.l (.n 1)]] [.b [.l .i,.l .i,.l .i,.l .s,.l (.n 5),.l (.n 8),.m 1],.m .i] λ_ K a v a3 a4 h h2 d h4 j t w=>(g h h2 d h4 j t w (Tm.mk a v a3 a4)).bind λr=>K (.one (.i r.1)) [.box [.l .i h,.l .i h2,.l .i d,.l .s h4,.l (.n 5) j,.l (.n 8) t,.m 1],.map .i r.2]⟩
end z10
namespace z0p
abbrev Q:=Tm->Y LT
def ent(g:Q):Ent:=⟨78,1,[0],rA [.a [.i,.s,.i,.l (.n 1)]] [] λ_ K a d a3 a4=>(g (Tm.mk a d a3 a4)).bind λr=>K (.one (.l (.n 1) r)) []⟩
end z0p
namespace z1a
abbrev Q:=LT->Tm->Y (Bool)
def ent(g:Q):Ent:=⟨79,0,[0,0],rA [.x (.l (.n 1)),.a [.i,.s,.i,.l (.n 1)]] [] λ_ K a d a3 a4 a5=>(g a (Tm.mk d a3 a4 a5)).bind λr=>K (.one (.b r)) []⟩
end z1a
namespace z0u
abbrev Q:=LI->LI->LI->LB->LS->LO->LM->Tm->Y (Z×LM)
def ent(g:Q):Ent:=⟨80,2,[1,0],rA [.x (.p 0 0),.a [.i,.s,.i,.l (.n 1)]] [.b [.l .i,.l .i,.l .i,.l .s,.l (.n 5),.l (.n 8),.m 1],.m .i] λ_ K a v a3 a4 h h2 d h4 j t w=>(g h h2 d h4 j t w (Tm.mk a v a3 a4)).bind λr=>K (.one (.s r.1)) [.box [.l .i h,.l .i h2,.l .i d,.l .s h4,.l (.n 5) j,.l (.n 8) t,.m 1],.map .i r.2]⟩
end z0u
namespace z24
abbrev Q:=Sb->Sb->Y (Bool)
end z24
namespace z1u
abbrev Q:=LD->LD->Y (Bool)
end z1u
namespace z2g
abbrev Q:=LI->Int->Y (Int)
end z2g
namespace z2p
abbrev Q:=Dc->Int->Y (Int)
end z2p
namespace z3m
abbrev Q:=So->Y (Bool)
def ent(g:Q):Ent:=⟨85,0,[0],rA [.a [.l .s,.l (.n 5)]] [] λ_ K a d=>(g (So.mk a d)).bind λr=>K (.one (.b r)) []⟩
end z3m
namespace z3i
abbrev Q:=Z->Y (Bool)
def ent(g:Q):Ent:=⟨86,0,[0],rA [.x .s] [] λ_ K a=>(g a).bind λr=>K (.one (.b r)) []⟩
end z3i
namespace z4e
abbrev Q:=Sg->Opr->Y (Bool)
def ent(g:Q):Ent:=⟨87,0,[0,0],rA [.a [.l .s,.l (.n 5),.l (.n 8)],.a [.s,.l (.n 7),.b,.b,.i]] [] λ_ K a d a3 a4 a5 h j t=>(g (Sg.mk (So.mk a d) a3) (Opr.mk a4 a5 h j t)).bind λr=>K (.one (.b r)) []⟩
end z4e
namespace z4d
abbrev Q:=Sg->Int->Y (Bool)
def ent(g:Q):Ent:=⟨88,0,[0,0],rA [.a [.l .s,.l (.n 5),.l (.n 8)],.x .i] [] λ_ K a d a3 a4=>(g (Sg.mk (So.mk a d) a3) a4).bind λr=>K (.one (.b r)) []⟩
end z4d
namespace z52
abbrev Q:=LB->LS->LO->Z->Int->Bool->Y (Z×Int)
def ent(g:Q):Ent:=⟨89,2,[1],rA [.x (.p 0 0)] [.b [.l .s,.l (.n 5),.l (.n 8),.s,.i,.b]] λ_ K h h2 d h4 t j=>(g h h2 d h4 t j).bind λr=>K (.one (.s r.1)) [.box [.l .s h,.l (.n 5) h2,.l (.n 8) d,.s h4,.i r.2,.b j]]⟩
end z52
namespace z57
abbrev Q:=LB->LS->LO->Z->Int->Bool->Int->Y (Bool×Int)
def ent(g:Q):Ent:=⟨90,2,[1,0],λ_ xs H K=>match xs,H with
 |[.one (.p 0 0),.one (.k .u8 a)],[.box [.l .s h,.l (.n 5) h2,.l (.n 8) d,.s h4,.i t,.b j]]=>(g h h2 d h4 t j a).bind λr=>K (.one (.b r.1)) [.box [.l .s h,.l (.n 5) h2,.l (.n 8) d,.s h4,.i r.2,.b j]]
 |_,_=>none⟩
end z57
namespace z4y
abbrev Q:=LB->Z->Y (Int)
def ent(g:Q):Ent:=⟨91,0,[0,0],rA [.x (.l .s),.x .s] [] λ_ K a d=>(g a d).bind λr=>K (.one (.i r)) []⟩
end z4y
namespace z4m
abbrev Q:=Z->Int->Y (Tm)
def ent(g:Q):Ent:=⟨92,1,[0,0],rA [.x .s,.x .i] [] λ_ K a d=>(g a d).bind λr=>K (.agg [.i (Tm.op r),.s (Tm.ae r),.i (Tm.ag r),.l (.n 1) (Tm.ac r)]) []⟩
end z4m
namespace z4n
abbrev Q:=Z->Int->Y (Tm)
end z4n
namespace z44
abbrev Q:=Int->Int->Y (Int)
def ent(g:Q):Ent:=⟨93,0,[0,0],rA [.x .i,.x .i] [] λ_ K a d=>(g a d).bind λr=>K (.one (.i r)) []⟩
end z44
namespace z4r
abbrev Q:=Sg->Int->LT->Y (Tm×Bool)
def ent(g:Q):Ent:=⟨94,1,[0,0,0],rA [.a [.l .s,.l (.n 5),.l (.n 8)],.x .i,.x (.l (.n 1))] [] λ_ K a d a3 a4 a5=>(g (Sg.mk (So.mk a d) a3) a4 a5).bind λr=>K (.tup [.agg [.i (Tm.op r.1),.s (Tm.ae r.1),.i (Tm.ag r.1),.l (.n 1) (Tm.ac r.1)],.one (.b r.2)]) []⟩
end z4r
namespace z4s
abbrev Q:=Sg->Int->LT->Y (Tm×Bool)
end z4s
namespace z4v
abbrev Q:=Tm->Y (Bool)
def ent(g:Q):Ent:=⟨95,0,[0],rA [.a [.i,.s,.i,.l (.n 1)]] [] λ_ K a d a3 a4=>(g (Tm.mk a d a3 a4)).bind λr=>K (.one (.b r)) []⟩
end z4v
namespace z4o
abbrev Q:=Sg->Tm->Y (Bool)
def ent(g:Q):Ent:=⟨96,0,[0,0],rA [.a [.l .s,.l (.n 5),.l (.n 8)],.a [.i,.s,.i,.l (.n 1)]] [] λ_ K a d a3 a4 a5 h j=>(g (Sg.mk (So.mk a d) a3) (Tm.mk a4 a5 h j)).bind λr=>K (.one (.b r)) []⟩
end z4o
namespace z4p
abbrev Q:=Sg->Tm->Y (Int)
def ent(g:Q):Ent:=⟨97,0,[0,0],rA [.a [.l .s,.l (.n 5),.l (.n 8)],.a [.i,.s,.i,.l (.n 1)]] [] λ_ K a d a3 a4 a5 h j=>(g (Sg.mk (So.mk a d) a3) (Tm.mk a4 a5 h j)).bind λr=>K (.one (.i r)) []⟩
end z4p
namespace z4f
abbrev Q:=Tm->LT->Y LT
def ent(g:Q):Ent:=⟨98,1,[0,0],rA [.a [.i,.s,.i,.l (.n 1)],.x (.l (.n 1))] [] λ_ K a d a3 a4 a5=>(g (Tm.mk a d a3 a4) a5).bind λr=>K (.one (.l (.n 1) r)) []⟩
end z4f
namespace z4l
abbrev Q:=Tm->Tm->Y (Bool)
def ent(g:Q):Ent:=⟨99,0,[0,0],rA [.a [.i,.s,.i,.l (.n 1)],.a [.i,.s,.i,.l (.n 1)]] [] λ_ K a d a3 a4 a5 h j t=>(g (Tm.mk a d a3 a4) (Tm.mk a5 h j t)).bind λr=>K (.one (.b r)) []⟩
end z4l
namespace z2y
abbrev Q:=Dc->Y (Dc)
end z2y
namespace z1d
abbrev Q:=Int->Y (Bool)
def ent(g:Q):Ent:=⟨101,0,[0],λ_ xs H K=>match xs,H with
 |[.one (.k .u8 a)],[]=>(g a).bind λr=>K (.one (.b r)) []
 |_,_=>none⟩
end z1d
namespace z1h
abbrev Q:=Od->Int->Y (Bool)
def ent(g:Q):Ent:=⟨102,0,[0,0],rA [.a [.l .i,.l .i,.l .i],.x .i] [] λ_ K a d a3 a4=>(g (Od.mk a d a3) a4).bind λr=>K (.one (.b r)) []⟩
end z1h
namespace z1c
abbrev Q:=Int->Y (Bool)
def ent(g:Q):Ent:=⟨103,0,[0],rA [.x .i] [] λ_ K a=>(g a).bind λr=>K (.one (.b r)) []⟩
end z1c
namespace internalstringslite_Index
abbrev Q:=Z->Z->Y (Int)
end internalstringslite_Index
namespace z1o
abbrev Q:=LI->LI->LI->LB->LS->LO->LM->Z->Int->Int->Y (Tm×Bool×Int×LM)
def ent(g:Q):Ent:=⟨105,2,[1,0],rA [.x (.p 0 0),.x .i] [.b [.p 1 0,.s,.i],.b [.l .i,.l .i,.l .i,.l .s,.l (.n 5),.l (.n 8),.m 2],.m .i] λ_ K a h h2 d h4 j t v w y=>(g d h4 j t v w y h h2 a).bind λr=>K (.tup [.agg [.i (Tm.op r.1),.s (Tm.ae r.1),.i (Tm.ag r.1),.l (.n 1) (Tm.ac r.1)],.one (.b r.2.1)]) [.box [.p 1 0,.s h,.i r.2.2.1],.box [.l .i d,.l .i h4,.l .i j,.l .s t,.l (.n 5) v,.l (.n 8) w,.m 2],.map .i r.2.2.2]⟩
end z1o
namespace z1n
abbrev Q:=LI->LI->LI->LB->LS->LO->LM->Z->Int->Y (Int×LM)
def ent(g:Q):Ent:=⟨106,2,[1],rA [.x (.p 0 0)] [.b [.p 1 0,.s,.i],.b [.l .i,.l .i,.l .i,.l .s,.l (.n 5),.l (.n 8),.m 2],.m .i] λ_ K h h2 d h4 j t v w y=>(g d h4 j t v w y h h2).bind λr=>K (.tup []) [.box [.p 1 0,.s h,.i r.1],.box [.l .i d,.l .i h4,.l .i j,.l .s t,.l (.n 5) v,.l (.n 8) w,.m 2],.map .i r.2]⟩
end z1n
namespace z16
abbrev Q:=Tm->Y (Tm)
end z16
namespace z0n
abbrev Q:=Tm->Y (Int)
def ent(g:Q):Ent:=⟨108,0,[0],rA [.a [.i,.s,.i,.l (.n 1)]] [] λ_ K a d a3 a4=>(g (Tm.mk a d a3 a4)).bind λr=>K (.one (.i r)) []⟩
end z0n
namespace z0c
abbrev Q:=Tm->Y (Int)
def ent(g:Q):Ent:=⟨109,0,[0],rA [.a [.i,.s,.i,.l (.n 1)]] [] λ_ K a d a3 a4=>(g (Tm.mk a d a3 a4)).bind λr=>K (.one (.i r)) []⟩
end z0c
namespace z14
abbrev Q:=LI->LI->LI->LB->LS->LO->LM->Tm->Y (Bool×LM)
def ent(g:Q):Ent:=⟨110,2,[1,0],rA [.x (.p 0 0),.a [.i,.s,.i,.l (.n 1)]] [.b [.l .i,.l .i,.l .i,.l .s,.l (.n 5),.l (.n 8),.m 1],.m .i] λ_ K a v a3 a4 h h2 d h4 j t w=>(g h h2 d h4 j t w (Tm.mk a v a3 a4)).bind λr=>K (.one (.b r.1)) [.box [.l .i h,.l .i h2,.l .i d,.l .s h4,.l (.n 5) j,.l (.n 8) t,.m 1],.map .i r.2]⟩
end z14
namespace z0q
abbrev Q:=Tm->LT->Y LT
def ent(g:Q):Ent:=⟨111,2,[0,1,1],λ_ xs H K=>match xs,H with
 |[.agg [.i a,.s d,.i a3,.l (.n 1) a4],.one (.p 0 0),.one (.p 2 0)],[.box [.o 1],.row (.n 1) 0 h,.box [.f 111 [.p 0 0,.p 2 0]]]=>(g (Tm.mk a d a3 a4) h).bind λr=>K (.tup []) [.box [.o 3],.aN,.box [.f 111 [.p 0 0,.p 2 0]],.row (.n 1) 0 r]
 |_,_=>none⟩
end z0q
namespace z19
abbrev Q:=LT->Y LT
def ent(g:Q):Ent:=⟨112,2,[1],λ_ xs H K=>match xs,H with
 |[.one (.o 0)],[.row (.n 1) 0 h]=>(g h).bind λr=>K (.one (.l (.n 1) r)) [.aN]
 |_,_=>none⟩
end z19
namespace z5b
abbrev Q:=LT->Tm->Y (Bool)
def ent(g:Q):Ent:=⟨113,2,[0,1],λ_ xs H K=>match xs,H with
 |[.one (.l (.n 1) a),.one (.f 114 [.p 0 0])],[.box [.i h,.s h2,.i d,.l (.n 1) h4]]=>(g a (Tm.mk h h2 d h4)).bind λr=>K (.one (.b r)) [.box [.i h,.s h2,.i d,.l (.n 1) h4]]
 |_,_=>none⟩
end z5b
namespace z1b
abbrev Q:=Tm->Tm->Y (Bool)
def ent(g:Q):Ent:=⟨114,2,[0,1],rA [.a [.i,.s,.i,.l (.n 1)],.x (.p 0 0)] [.b [.i,.s,.i,.l (.n 1)]] λ_ K a j a3 a4 h h2 d h4=>(g (Tm.mk a j a3 a4) (Tm.mk h h2 d h4)).bind λr=>K (.one (.b r)) [.box [.i h,.s h2,.i d,.l (.n 1) h4]]⟩
end z1b
namespace z1i
abbrev Q:=Tm->Tm->Y (Bool)
def ent(g:Q):Ent:=⟨115,0,[0,0],rA [.a [.i,.s,.i,.l (.n 1)],.a [.i,.s,.i,.l (.n 1)]] [] λ_ K a d a3 a4 a5 h j t=>(g (Tm.mk a d a3 a4) (Tm.mk a5 h j t)).bind λr=>K (.one (.b r)) []⟩
end z1i
namespace strings_Join
abbrev Q:=LB->Z->Y (Z)
def ent(g:Q):Ent:=⟨116,0,[0,0],rA [.x (.l .s),.x .s] [] λ_ K a d=>(g a d).bind λr=>K (.one (.s r)) []⟩
end strings_Join
namespace z1t
abbrev Q:=Dc->Dc->Y (Bool)
end z1t
namespace z2r
abbrev Q:=LI->Int->Y (Int)
end z2r
namespace z42
abbrev Q:=LB->Z->Y (Bool)
def ent(g:Q):Ent:=⟨119,0,[0,0],rA [.x (.l .s),.x .s] [] λ_ K a d=>(g a d).bind λr=>K (.one (.b r)) []⟩
end z42
namespace z43
abbrev Q:=Int->Int->Int->Y (Bool)
def ent(g:Q):Ent:=⟨120,0,[0,0,0],rA [.x .i,.x .i,.x .i] [] λ_ K a d a3=>(g a d a3).bind λr=>K (.one (.b r)) []⟩
end z43
namespace z4b
abbrev Q:=So->Y LI
def ent(g:Q):Ent:=⟨121,1,[0],rA [.a [.l .s,.l (.n 5)]] [] λ_ K a d=>(g (So.mk a d)).bind λr=>K (.one (.l .i r)) []⟩
end z4b
namespace z49
abbrev Q:=Int->Int->Y (Bool)
def ent(g:Q):Ent:=⟨122,0,[0,0],rA [.x .i,.x .i] [] λ_ K a d=>(g a d).bind λr=>K (.one (.b r)) []⟩
end z49
namespace z4a
abbrev Q:=So->Y LI
def ent(g:Q):Ent:=⟨123,1,[0],rA [.a [.l .s,.l (.n 5)]] [] λ_ K a d=>(g (So.mk a d)).bind λr=>K (.one (.l .i r)) []⟩
end z4a
namespace z4c
abbrev Q:=Opr->Y (Int)
def ent(g:Q):Ent:=⟨124,0,[0],rA [.a [.s,.l (.n 7),.b,.b,.i]] [] λ_ K a d a3 a4 a5=>(g (Opr.mk a d a3 a4 a5)).bind λr=>K (.one (.i r)) []⟩
end z4c
namespace z4w
abbrev Q:=Sg->Int->Y (Tm×Bool)
def ent(g:Q):Ent:=⟨125,1,[0,0],rA [.a [.l .s,.l (.n 5),.l (.n 8)],.x .i] [] λ_ K a d a3 a4=>(g (Sg.mk (So.mk a d) a3) a4).bind λr=>K (.tup [.agg [.i (Tm.op r.1),.s (Tm.ae r.1),.i (Tm.ag r.1),.l (.n 1) (Tm.ac r.1)],.one (.b r.2)]) []⟩
end z4w
namespace z4x
abbrev Q:=Sg->Int->Y (Tm×Bool)
end z4x
namespace z4i
abbrev Q:=Tm->Y (Tm)
def ent(g:Q):Ent:=⟨126,1,[0],rA [.a [.i,.s,.i,.l (.n 1)]] [] λ_ K a d a3 a4=>(g (Tm.mk a d a3 a4)).bind λr=>K (.agg [.i (Tm.op r),.s (Tm.ae r),.i (Tm.ag r),.l (.n 1) (Tm.ac r)]) []⟩
end z4i
namespace z4j
abbrev Q:=Tm->Y (Tm)
end z4j
namespace z3u
abbrev Q:=LT->Y LT
def ent(g:Q):Ent:=⟨127,1,[0],rA [.x (.l (.n 1))] [] λ_ K a=>(g a).bind λr=>K (.one (.l (.n 1) r)) []⟩
end z3u
namespace z4g
abbrev Q:=LT->Y LT
def ent(g:Q):Ent:=⟨128,1,[0],rA [.x (.l (.n 1))] [] λ_ K a=>(g a).bind λr=>K (.one (.l (.n 1) r)) []⟩
end z4g
namespace z4h
abbrev Q:=LT->Y LT
end z4h
namespace z4q
abbrev Q:=Tm->Int->Y (Int)
def ent(g:Q):Ent:=⟨129,0,[0,0],rA [.a [.i,.s,.i,.l (.n 1)],.x .i] [] λ_ K a d a3 a4 a5=>(g (Tm.mk a d a3 a4) a5).bind λr=>K (.one (.i r)) []⟩
end z4q
namespace z3d
abbrev Q:=Tm->Y (Int)
def ent(g:Q):Ent:=⟨130,0,[0],rA [.a [.i,.s,.i,.l (.n 1)]] [] λ_ K a d a3 a4=>(g (Tm.mk a d a3 a4)).bind λr=>K (.one (.i r)) []⟩
end z3d
namespace z4t
abbrev Q:=Sg->Tm->Y (Bool)
def ent(g:Q):Ent:=⟨131,0,[0,0],rA [.a [.l .s,.l (.n 5),.l (.n 8)],.a [.i,.s,.i,.l (.n 1)]] [] λ_ K a d a3 a4 a5 h j=>(g (Sg.mk (So.mk a d) a3) (Tm.mk a4 a5 h j)).bind λr=>K (.one (.b r)) []⟩
end z4t
namespace z4u
abbrev Q:=Sg->Tm->Y (Bool)
def ent(g:Q):Ent:=⟨132,0,[0,0],rA [.a [.l .s,.l (.n 5),.l (.n 8)],.a [.i,.s,.i,.l (.n 1)]] [] λ_ K a d a3 a4 a5 h j=>(g (Sg.mk (So.mk a d) a3) (Tm.mk a4 a5 h j)).bind λr=>K (.one (.b r)) []⟩
end z4u
namespace z4k
abbrev Q:=LT->Tm->Y LT
def ent(g:Q):Ent:=⟨133,1,[0,0],rA [.x (.l (.n 1)),.a [.i,.s,.i,.l (.n 1)]] [] λ_ K a d a3 a4 a5=>(g a (Tm.mk d a3 a4 a5)).bind λr=>K (.one (.l (.n 1) r)) []⟩
end z4k
namespace z3b
abbrev Q:=Tm->Tm->Y (Int)
def ent(g:Q):Ent:=⟨134,0,[0,0],rA [.a [.i,.s,.i,.l (.n 1)],.a [.i,.s,.i,.l (.n 1)]] [] λ_ K a d a3 a4 a5 h j t=>(g (Tm.mk a d a3 a4) (Tm.mk a5 h j t)).bind λr=>K (.one (.i r)) []⟩
end z3b
namespace z30
abbrev Q:=LI->Y LI
end z30
namespace internalstringslite_IndexByte
abbrev Q:=Z->Int->Y (Int)
end internalstringslite_IndexByte
namespace internalbytealg_Cutover
abbrev Q:=Int->Y (Int)
end internalbytealg_Cutover
namespace internalbytealg_IndexRabinKarp_string
abbrev Q:=Z->Z->Y (Int)
end internalbytealg_IndexRabinKarp_string
namespace z1m
abbrev Q:=LI->LI->LI->LB->LS->LO->LM->Z->Int->Y (Z×Int×LM)
def ent(g:Q):Ent:=⟨140,2,[1],rA [.x (.p 0 0)] [.b [.p 1 0,.s,.i],.b [.l .i,.l .i,.l .i,.l .s,.l (.n 5),.l (.n 8),.m 2],.m .i] λ_ K h h2 d h4 j t v w y=>(g d h4 j t v w y h h2).bind λr=>K (.one (.s r.1)) [.box [.p 1 0,.s h,.i r.2.1],.box [.l .i d,.l .i h4,.l .i j,.l .s t,.l (.n 5) v,.l (.n 8) w,.m 2],.map .i r.2.2]⟩
end z1m
namespace z1l
abbrev Q:=LI->LI->LI->LB->LS->LO->LM->Z->Int->Int->Y (Bool×Int×LM)
def ent(g:Q):Ent:=⟨141,2,[1,0],λ_ xs H K=>match xs,H with
 |[.one (.p 0 0),.one (.k .u8 a)],[.box [.p 1 0,.s h,.i h2],.box [.l .i d,.l .i h4,.l .i j,.l .s t,.l (.n 5) v,.l (.n 8) w,.m 2],.map .i y]=>(g d h4 j t v w y h h2 a).bind λr=>K (.one (.b r.1)) [.box [.p 1 0,.s h,.i r.2.1],.box [.l .i d,.l .i h4,.l .i j,.l .s t,.l (.n 5) v,.l (.n 8) w,.m 2],.map .i r.2.2]
 |_,_=>none⟩
end z1l
namespace z5e
abbrev Q:=LB->Z->Y (Int)
def ent(g:Q):Ent:=⟨142,0,[0,0],rA [.x (.l .s),.x .s] [] λ_ K a d=>(g a d).bind λr=>K (.one (.i r)) []⟩
end z5e
namespace z0z
abbrev Q:=LI->LI->LI->LB->LS->LO->LM->Tm->Y (Bool×LM)
def ent(g:Q):Ent:=⟨143,2,[1,0],rA [.x (.p 0 0),.a [.i,.s,.i,.l (.n 1)]] [.b [.l .i,.l .i,.l .i,.l .s,.l (.n 5),.l (.n 8),.m 1],.m .i] λ_ K a v a3 a4 h h2 d h4 j t w=>(g h h2 d h4 j t w (Tm.mk a v a3 a4)).bind λr=>K (.one (.b r.1)) [.box [.l .i h,.l .i h2,.l .i d,.l .s h4,.l (.n 5) j,.l (.n 8) t,.m 1],.map .i r.2]⟩
end z0z
namespace z5c
abbrev Q:=LO->Z->Y (Int)
def ent(g:Q):Ent:=⟨144,2,[0,1],λ_ xs H K=>match xs,H with
 |[.one (.l (.n 8) a),.one (.f 145 [.p 0 0])],[.box [.s h]]=>(g a h).bind λr=>K (.one (.i r)) [.box [.s h]]
 |_,_=>none⟩
end z5c
namespace z1p
abbrev Q:=Opr->Z->Y (Bool)
def ent(g:Q):Ent:=⟨145,2,[0,1],rA [.a [.s,.l (.n 7),.b,.b,.i],.x (.p 0 0)] [.b [.s]] λ_ K a d a3 a4 a5 h=>(g (Opr.mk a d a3 a4 a5) h).bind λr=>K (.one (.b r)) [.box [.s h]]⟩
end z1p
namespace z0t
abbrev Q:=LI->LI->LI->LB->LS->LO->LM->Int->LT->Y (Tm×Bool×LM)
def ent(g:Q):Ent:=⟨146,2,[1,0,0],rA [.x (.p 0 0),.x .i,.x (.l (.n 1))] [.b [.l .i,.l .i,.l .i,.l .s,.l (.n 5),.l (.n 8),.m 1],.m .i] λ_ K a v h h2 d h4 j t w=>(g h h2 d h4 j t w a v).bind λr=>K (.tup [.agg [.i (Tm.op r.1),.s (Tm.ae r.1),.i (Tm.ag r.1),.l (.n 1) (Tm.ac r.1)],.one (.b r.2.1)]) [.box [.l .i h,.l .i h2,.l .i d,.l .s h4,.l (.n 5) j,.l (.n 8) t,.m 1],.map .i r.2.2]⟩
end z0t
namespace z17
abbrev Q:=LT->Y LT
end z17
namespace z0s
abbrev Q:=LI->LI->LI->LB->LS->LO->LM->Int->Int->Y (Int×LM)
def ent(g:Q):Ent:=⟨148,2,[1,0,0],rA [.x (.p 0 0),.x .i,.x .i] [.b [.l .i,.l .i,.l .i,.l .s,.l (.n 5),.l (.n 8),.m 1],.m .i] λ_ K a v h h2 d h4 j t w=>(g h h2 d h4 j t w a v).bind λr=>K (.one (.i r.1)) [.box [.l .i h,.l .i h2,.l .i d,.l .s h4,.l (.n 5) j,.l (.n 8) t,.m 1],.map .i r.2]⟩
end z0s
namespace z0y
abbrev Q:=LI->LI->LI->LB->LS->LO->LM->Int->Tm->Y (Bool×LM)
def ent(g:Q):Ent:=⟨149,2,[1,0,0],rA [.x (.p 0 0),.x .i,.a [.i,.s,.i,.l (.n 1)]] [.b [.l .i,.l .i,.l .i,.l .s,.l (.n 5),.l (.n 8),.m 1],.m .i] λ_ K a v a3 a4 a5 h h2 d h4 j t w=>(g h h2 d h4 j t w a (Tm.mk v a3 a4 a5)).bind λr=>K (.one (.b r.1)) [.box [.l .i h,.l .i h2,.l .i d,.l .s h4,.l (.n 5) j,.l (.n 8) t,.m 1],.map .i r.2]⟩
end z0y
namespace z0a
abbrev Q:=Tm->Tm->Y (Int)
def ent(g:Q):Ent:=⟨150,0,[0,0],rA [.a [.i,.s,.i,.l (.n 1)],.a [.i,.s,.i,.l (.n 1)]] [] λ_ K a d a3 a4 a5 h j t=>(g (Tm.mk a d a3 a4) (Tm.mk a5 h j t)).bind λr=>K (.one (.i r)) []⟩
end z0a
namespace z5d
abbrev Q:=LT->Tm->Y (Int)
def ent(g:Q):Ent:=⟨153,2,[0,1],λ_ xs H K=>match xs,H with
 |[.one (.l (.n 1) a),.one (.f 114 [.p 0 0])],[.box [.i h,.s h2,.i d,.l (.n 1) h4]]=>(g a (Tm.mk h h2 d h4)).bind λr=>K (.one (.i r)) [.box [.i h,.s h2,.i d,.l (.n 1) h4]]
 |_,_=>none⟩
end z5d
namespace z1w
abbrev Q:=LI->LI->Y (Bool)
end z1w
namespace z48
abbrev Q:=Int->Y (Int)
def ent(g:Q):Ent:=⟨158,0,[0],rA [.x .i] [] λ_ K a=>(g a).bind λr=>K (.one (.i r)) []⟩
end z48
namespace z47
abbrev Q:=Int->Int->Y (Int)
def ent(g:Q):Ent:=⟨159,0,[0,0],rA [.x .i,.x .i] [] λ_ K a d=>(g a d).bind λr=>K (.one (.i r)) []⟩
end z47
namespace z13
abbrev Q:=LI->LI->LI->LB->LS->LO->LM->Int->Y (Tm×LM)
def ent(g:Q):Ent:=⟨162,2,[1,0],rA [.x (.p 0 0),.x .i] [.b [.l .i,.l .i,.l .i,.l .s,.l (.n 5),.l (.n 8),.m 1],.m .i] λ_ K a h h2 d h4 j t v=>(g h h2 d h4 j t v a).bind λr=>K (.agg [.i (Tm.op r.1),.s (Tm.ae r.1),.i (Tm.ag r.1),.l (.n 1) (Tm.ac r.1)]) [.box [.l .i h,.l .i h2,.l .i d,.l .s h4,.l (.n 5) j,.l (.n 8) t,.m 1],.map .i r.2]⟩
end z13
namespace z5h
abbrev Q:=LT->Y LT
def ent(g:Q):Ent:=⟨163,2,[1,1],rA [.x (.o 0),.x (.f 150)] [.r (.n 1) 0] λ_ K h=>(g h).bind λr=>K (.tup []) [.row (.n 1) 0 r]⟩
end z5h
namespace z02
abbrev Q:=LI->Y (Int)
def ent(g:Q):Ent:=⟨164,0,[0],rA [.x (.l .i)] [] λ_ K a=>(g a).bind λr=>K (.one (.i r)) []⟩
end z02
namespace z01
abbrev Q:=Int->Int->Y (Int)
def ent(g:Q):Ent:=⟨165,0,[0,0],rA [.x .i,.x .i] [] λ_ K a d=>(g a d).bind λr=>K (.one (.i r)) []⟩
end z01
namespace strings_Compare
abbrev Q:=Z->Z->Y (Int)
def ent(g:Q):Ent:=⟨166,0,[0,0],rA [.x .s,.x .s] [] λ_ K a d=>(g a d).bind λr=>K (.one (.i r)) []⟩
end strings_Compare
namespace z5a
abbrev Q:=LT->LT->Y (Int)
def ent(g:Q):Ent:=⟨167,2,[0,0,1],rA [.x (.l (.n 1)),.x (.l (.n 1)),.x (.f 150)] [] λ_ K a d=>(g a d).bind λr=>K (.one (.i r)) []⟩
end z5a
namespace mathbits_Len
abbrev Q:=Int->Y (Int)
end mathbits_Len
namespace z5k
abbrev Q:=LT->Int->Y LT
def ent(g:Q):Ent:=⟨172,2,[1,0,1],rA [.x (.o 0),.x .i,.x (.f 150)] [.r (.n 1) 0] λ_ K a h=>(g h a).bind λr=>K (.tup []) [.row (.n 1) 0 r]⟩
end z5k
namespace z05
abbrev Q:=Int->Y (Bool)
def ent(g:Q):Ent:=⟨173,0,[0],rA [.x .i] [] λ_ K a=>(g a).bind λr=>K (.one (.b r)) []⟩
end z05
namespace internalbytealg_CompareString
abbrev Q:=Z->Z->Y (Int)
end internalbytealg_CompareString
namespace z5i
abbrev Q:=LT->Int->Int->Y LT
def ent(g:Q):Ent:=⟨175,2,[1,0,0,1],rA [.x (.o 0),.x .i,.x .i,.x (.f 150)] [.r (.n 1) 0] λ_ K a d h=>(g h a d).bind λr=>K (.tup []) [.row (.n 1) 0 r]⟩
end z5i
namespace mathbits_Len32
abbrev Q:=Int->Y (Int)
end mathbits_Len32
namespace mathbits_Len64
abbrev Q:=Int->Y (Int)
end mathbits_Len64
namespace z5m
abbrev Q:=LT->Int->Int->Int->Y LT
def ent(g:Q):Ent:=⟨187,2,[1,0,0,0,1],rA [.x (.o 0),.x .i,.x .i,.x .i,.x (.f 150)] [.r (.n 1) 0] λ_ K a d a3 h=>(g h a d a3).bind λr=>K (.tup []) [.row (.n 1) 0 r]⟩
end z5m
namespace z5j
abbrev Q:=LT->Int->Int->Int->Y LT
def ent(g:Q):Ent:=⟨194,2,[1,0,0,0,1],rA [.x (.o 0),.x .i,.x .i,.x .i,.x (.f 150)] [.r (.n 1) 0] λ_ K a d a3 h=>(g h a d a3).bind λr=>K (.tup []) [.row (.n 1) 0 r]⟩
end z5j
namespace z5l
abbrev Q:=LT->Int->Int->Int->Y LT
def ent(g:Q):Ent:=⟨196,2,[1,0,0,0,1],rA [.x (.o 0),.x .i,.x .i,.x .i,.x (.f 150)] [.r (.n 1) 0] λ_ K a d a3 h=>(g h a d a3).bind λr=>K (.tup []) [.row (.n 1) 0 r]⟩
end z5l
abbrev aj:=GP Tryz.prog
abbrev am:=o7 Tryz.prog
abbrev al:=gH Tryz.prog
end
set_option maxRecDepth 100000
set_option linter.unusedVariables false
noncomputable section
namespace z1w
abbrev bd:=aF Tryz.f157
abbrev q4:=aJ [1,1,0,1,0,0] bd
end z1w
namespace z23
abbrev bd:=aF Tryz.f49
abbrev q4:=aJ [1,1,0,1,0,0] bd
end z23
namespace z26
abbrev bd:=aF Tryz.f50
abbrev q4:=aJ [1,1,0,1,0,0] bd
end z26
namespace z1u
abbrev bd:=aF Tryz.f82
abbrev q4:=aJ [1,1,0,1,0,0] bd
end z1u
namespace z1y
abbrev bd:=aF Tryz.f25
abbrev q4:=aJ [1,1,0,1,0,0] bd
end z1y
namespace z30
abbrev bd:=aF Tryz.f135
abbrev q3:=aJ [1,1,0,1,0,0] bd
end z30
namespace z36
abbrev bd:=aF Tryz.f38
abbrev q3:=aJ [1,1,0,1,0,0] bd
end z36
namespace z3a
abbrev bd:=aF Tryz.f39
abbrev q3:=aJ [1,1,0,1,0,0] bd
end z3a
namespace z2z
abbrev bd:=aF Tryz.f67
abbrev q3:=aJ [1,1,0,1,0,0] bd
end z2z
namespace z33
abbrev bd:=aF Tryz.f19
abbrev q3:=aJ [1,1,0,1,0,0] bd
end z33
namespace z2w
abbrev bd:=aF Tryz.f32
abbrev q5:=aJ [1,1,1,0,1,0,0] bd
end z2w
namespace z2q
abbrev bd:=aF Tryz.f58
abbrev q5:=aJ [1,1,1,0,1,0,0] bd
end z2q
namespace z2t
abbrev bd:=aF Tryz.f14
abbrev q5:=aJ [1,1,1,0,1,0,0] bd
end z2t
namespace z27
structure Gs where
 z28:z28.Q
def aq{R:Type}(G:Gs)(n:Nat)(a b:Tm)(K:Bool->Y R):Y R:=
 bif !decide (a.op=b.op)then
  (K false)
 else
  bif !sEq a.ae b.ae then
   (K false)
  else
   bif !decide (a.ag=b.ag)then
    (K false)
   else
    (G.z28 a.ac b.ac).bind λr=>
    bif !r then
     (K false)
    else
     K true
def cO(G:Gs)(a b:Tm)(r:Bool):Prop:=∃n,aq (R:=AT×RV Ob) G n a b (λd=>some (.one (.b d),[]))=some (.one (.b r),[])
theorem ok{G:Gs}(d:am [z28.ent G.z28]){g:Q}(h:∀a b r,g a b=some r->cO G a b r):aj (ent g):=okQ λ_ _ _ _ _ _ _ _ _ _ _ hc=>okL hc λr j=>let⟨_,j⟩:=h _ _ _ j;fF d ⟨26,0,[],[],[4],[],[]⟩ nP Tryz.func22 j
end z27
namespace z28
structure Gs where
 z27:z27.Q
def ax(G:Gs):RV Ent:=[z27.ent G.z27]
def b4{R:Type}(G:Gs)(n:Nat)(a b:LT)(i:Int)(nx:LT->LT->Int->Y R)(j:Bool->Y R)(k1:Y R):Y R:=bif decide (i<(List.length a:Int))then((ix a i).bind λd=>(ix b i).bind λh=>(G.z27 (Tm.mk d.op d.ae d.ag d.ac) (Tm.mk h.op h.ae h.ag h.ac)).bind λt=>bif !t then(j false)else nx a b (wr (i+1)))else k1
def l4{R:Type}(G:Gs)(n m:Nat)(a b:LT)(i:Int)(d:Bool->Y R)(k1:Y R):Y R:=aS (λ(v:LT×LT×Int) nx=>b4 G n v.1 v.2.1 v.2.2 (λh j t=>nx (h,j,t)) d k1) m (a,b,i)
def aq{R:Type}(G:Gs)(n:Nat)(a b:LT)(K:Bool->Y R):Y R:=
 bif !decide ((List.length a:Int)=(List.length b:Int))then
  (K false)
 else
  l4 G n n a b 0
   (λt4=>K t4)
   (K true)
def dl4(G:Gs)(n m:Nat):=rS [0,1,5] [.x (.l (.n 1)),.x (.l (.n 1)),.x .i] [] λR K a b i=>l4 G n m a b i (λt4=>K .ret ⟨[(4,.one (.b t4))],[]⟩) (K (.exit 0) ⟨[],[]⟩)
def pc(G:Gs)(n:Nat):Pcs:=⟨λR id st K=>bif Nat.beq id 4 then dl4 G n n R st K else none,nK,nK⟩
def an:Ann:=⟨27,0,[(4,[0,1,5])],[],[4],[(6,⟨[([0,1,2,3,4,5,6,7,8,9],[],[])],[],[],[],[]⟩)],[]⟩
abbrev bd:=aF Tryz.f47
abbrev q4:=aJ [1,1,0,1,0,0] bd
theorem pl4{G:Gs}(d:am (ax G))(n:Nat):∀m,al an (.loop q4) (dl4 G n m):=lpq d (pc G n) ⟨[],[4],[(0,[])]⟩
def cO(G:Gs)(a b:LT)(r:Bool):Prop:=∃n,aq (R:=AT×RV Ob) G n a b (λd=>some (.one (.b d),[]))=some (.one (.b r),[])
theorem ok{G:Gs}(d:am (ax G)){g:Q}(h:∀a b r,g a b=some r->cO G a b r):aj (ent g):=okQ λ_ _ _ _ _ hc=>okL hc λr j=>let⟨n,j⟩:=h _ _ _ j;fF d an (pc G n) Tryz.func47 j (apl [(1,4,.loop q4)] ⟨pl4 d n n,trivial⟩)
end z28
end
end
section
open Go.RowKit
theorem aH{x:Int}(h: -9223372036854775808<=x/\x<=9223372036854775807):wr x=x:=Abs.qn h.1 h.2
theorem Lc{α:Type}{xs:RV α}{i:Int}(h0:0<=i)(h1:i<xs.length):∃x,ix xs i=some x/\xs[i.toNat]? =some x:=by
 have hlt:i.toNat<xs.length:=A1
 exact⟨xs[i.toNat],by simp[ix,h0,hlt],gE hlt⟩
theorem ix_nat{α:Type}{xs:RV α}{k:Nat}:ix xs (k:Int)=xs[k]? :=by simp[ix]
theorem sd{α:Type}{xs:RV α}(h:xs.length<=4294967296):lim xs=some xs:=by unfold lim;rw[Nat.ble_eq_true_of_le h];rfl
theorem zq{α:Type}{xs:RV α}{lo hi:Int}(h0:0<=lo)(h1:lo<=hi)(h2:hi<=xs.length):sub xs lo hi=some ((xs.take hi.toNat).drop lo.toNat):=by simp[sub,h0,h1,h2]
@[simp] theorem Fm.eta (f : Fm) : Fm.mk f.kind f.prop f.kids = f := by cases f; rfl
@[simp] theorem Cur.eta (c : Cur) : Cur.mk c.b c.i c.h = c := rfl
open Abs (V AV)
def FitC(c:C):Prop:=∃(I:Nat->Prop)(w:World)(v:V)(u:Value),FR c v/\Abs.VR I w [] v u
def Fit(T:Ty)(d:I T):Prop:=∀c∈aG T d,FitC c
theorem M3{T:Ty}{d:I T}{t:Nat->Prop}{w:World}{vs:RV V}{cs:RV Value}(h1:FRs (aG T d) vs)(h2:Abs.VRs [] t w vs cs):Fit T d:=λc hc=>by
 obtain⟨j,v,rfl⟩:=P6 hc;have h:j<vs.length:=by rw[<-h1.1];exact v
 obtain⟨u,_,y⟩:=h2.2 j h;exact⟨t,w,_,u,h1.2 j v h,y⟩
def wS{A:Type}(f:A->Nat)(xs:RV A):Nat:=(xs.map f).sum
theorem Mo{A:Type}{f:A->Nat}{xs:RV A}{x:A}(h:x∈xs):f x<=wS f xs:=by
 unfold wS
 induction xs with
 |nil=>simp at h
 | cons y xs d=>
  rw[Ot,Pg];rcases List.mem_cons.1 h with rfl|h
  .omega
  .have:=d h;omega
theorem fS{A:Type}{f:A->Nat}{x:A}{xs:RV A}:wS f (x::xs)=f x+wS f xs:=by simp[wS]
theorem aQ{A:Type}{a:RV A}{i:Int}(h0:0<=i)(h1:i<a.length):∃x,ix a i=some x/\x∈a/\a.drop i.toNat=x::a.drop (i+1).toNat/\a[i.toNat]? =some x:=by
 have hlt:i.toNat<a.length:=A1
 refine⟨a[i.toNat],by simp[ix,h0,hlt],gM hlt,?_,gE hlt⟩;rw[Pm hlt]
 congr 2
 omega
theorem bY{A:Type}{a:RV A}{i:Int}(h:¬i<a.length):a.drop i.toNat=[]:=Oj A1
theorem zH{A:Type}{a:RV A}{i:Int}(h0:0<=i)(h1:i<a.length):∃x,ix a i=some x:=⟨_,(aQ h0 h1).choose_spec.1⟩
theorem yd{A:Type}{a h:RV A}{i:Int}{x:A}(h0:0<=i)(d:i<a.length)(hl:h.length=a.length)(ht:h.take i.toNat=a.take i.toNat)(hx:a[i.toNat]? =some x):(h.set i.toNat x).length=a.length/\(h.set i.toNat x).take (i+1).toNat=a.take (i+1).toNat:=by
 refine⟨by simp[hl],?_⟩;have e:(i+1).toNat=i.toNat+1:=A1
 obtain⟨hlt,hx⟩:=gI.1 hx;rw[e,O7 D5,O7 hlt,List.take_set_of_le (N4 _),ht];simp[hx]
theorem tS{A:Type}{a h:RV A}{i:Int}(h1:¬i<a.length)(hl:h.length=a.length)(ht:h.take i.toNat=a.take i.toNat):h=a:=by
 rw[OO A1,OO A1]at ht;exact ht
theorem Ho{A:Type}{x:A}{n:Nat}(h:n<=4294967296):mk x (n:Int)=some (List.replicate n x):=by
 unfold mk;have:(decide ((0:Int)<=n)&&decide ((n:Int)<=4294967296))=true:=D5
 rw[this];simp
end
section
open Go.RowKit
open Classical
theorem bj(f:Tm):f.az=f.ae.size+ap f.ac:=Tm.eV f
theorem Tm.eta(t:Tm):Tm.mk t.op t.ae t.ag t.ac=t:=by cases t;rfl
theorem dP(x:Tm)(l:RV Tm):ap (x::l)=1+x.az+ap l:=by unfold ap;simp only[NU,Ot,Pg];omega
theorem fO:ap []=0:=rfl
theorem kP{x:Tm}{l:RV Tm}(h:x∈l):x.az<ap l:=by
 induction l with
 |nil=>simp at h
 | cons y l d=>
  rw[dP];rcases List.mem_cons.1 h with rfl|h
  .omega
  .grind
theorem bZ(l:RV Tm):l.length<=ap l:=by unfold ap;omega
noncomputable def mi(k:Nat):Tm->Tm->Y Bool:=λf g=>if f=g/\f.az<k then some true else none
noncomputable def xN(k:Nat):RV Tm->RV Tm->Y Bool:=λf g=>if f=g/\ap f<k then some true else none
theorem KA(k:Nat)(hk:k<=2097152)(e:aj (z27.ent (mi k))):aj (z28.ent (xN (k+1))):=z28.ok (G:=⟨mi k⟩) ⟨e,trivial⟩ λxs ys r h=>by
 unfold xN at h;split at h
 .rename_i hs;obtain⟨d,hs⟩:=hs;subst d;cases h;have bJ:=bZ xs;refine⟨xs.length+1,?_⟩;unfold z28.aq;rw[dT rfl,N5,cF];refine OI (lj (body:=λv nx=>z28.b4 ⟨mi k⟩ (xs.length+1) v.1 v.2.1 v.2.2 (λA B C=>nx (A,B,C)) (λt=>some (AT.one (.b t),([]:RV Ob))) (some (AT.one (.b true),[]))) (Q:=λv=>v.1=xs/\v.2.1=xs/\0<=v.2.2/\v.2.2<=xs.length) (μ:=λv=>(xs.length-v.2.2).toNat) (f:=λ_=>some (AT.one (.b true),[])) ?_ (xs.length+1) (xs,xs,0) ⟨rfl,rfl,C3,C3⟩ C3) rfl;rintro⟨a,b,i⟩ nx ⟨j,w,q0,q1⟩ y;simp only at j w q0 q1 y ⊢;subst j;subst w;unfold z28.b4;by_cases hi:i<(List.length b:Int)
  .obtain⟨x,D,E,_,F⟩:=aQ q0 hi;rw[dT hi,cT,D,bS,bS,Tm.eta];show Option.bind (mi k x x) _=_;have e:mi k x x=some true:=N1 ⟨rfl,by have:=kP E;omega⟩;rw[e,bS,N5,cF,aH (x:=i+1) A1];exact y (b,b,i+1) ⟨rfl,rfl,D4,D4⟩ D4
  .rw[dF hi,cF]
 .cases h
theorem AB:∀k,k<=2097152->aj (z27.ent (mi k))
 |0,_=>okQ (by (repeat intro h);simp[mi]at h)
 | k+1,hk=>z27.ok (G:=⟨xN (k+1)⟩) ⟨KA k A1 (AB k A1),trivial⟩ fun f g r h=>by
  unfold mi at h;split at h
  .rename_i hs;obtain⟨d,hs⟩:=hs;subst d;cases h;refine⟨1,?_⟩;unfold z27.aq;have e:xN (k+1) f.ac f.ac=some true:=N1 ⟨rfl,by have:=bj f;omega⟩;rw[dT rfl,dT rfl,show sEq f.ae f.ae=true from dT rfl,N5,cF,cF,cF];show Option.bind (xN (k+1) f.ac f.ac) _=_;rw[e];rfl
  .cases h
end
section
open Go.ChangeShapes Go.WideShapes Go.ChangeAt Go.RowKit Go.Deep Go.Joins
open Abs (V AV VRs VR)
def H5(TM:RV (Nat×Ty))(t:Nat)(T:Ty):Bool:=TM.any λp=>Nat.beq p.1 t&&decide (p.2=T)
theorem Io{TM:RV (Nat×Ty)}{t:Nat}{T:Ty}(h:H5 TM t T=true):(t,T)∈TM:=by
 obtain⟨p,h1,h2⟩:=List.any_eq_true.1 h;rw[bA]at h2;have d:=nB h2.1;have j:=NZ h2.2;rw[<-d,<-j];exact h1
noncomputable def kQ(P:Program)(TM:RV (Nat×Ty)):RV Field->RV Ty->Nat->Bool
 |[],[],_=>true
 |f::d,T::h,off=>Nat.beq f.offset off&&Nat.beq (P.cellsOf f.type) (szT T)&&H5 TM f.type T&&kQ P TM d h (off+szT T)
 |_,_,_=>false
def G8:RV Ty->Nat
 |[]=>0
 |T::d=>szT T+G8 d
noncomputable def pM(P:Program)(TM:RV (Nat×Ty))(t:Nat):Ty->Bool
 | .i=>match P.underlying t with|some (.int .i64)=>true|_=>false
 | .b=>match P.underlying t with|some .bool=>true|_=>false
 | .s=>match P.underlying t with|some .string=>true|_=>false
 | .u=>match P.underlying t with|some (.int .u8)=>true|_=>false
 | .sl T=>match P.underlying t with
  |some (.slice e)=>Nat.beq (P.cellsOf e) (szT T)&&Nat.blt 0 (szT T)&&H5 TM e T
  |_=>false
 | .n k=>match P.underlying t with
  |some (.struct d)=>Nat.beq (P.cellsOf t) (G8 (Nn k))&&Nat.blt 0 (szT (.n k))&&kQ P TM d.toList (Nn k) 0
  |_=>false
def TMOK(P:Program)(TM:RV (Nat×Ty)):Prop:=∀p∈TM,pM P TM p.1 p.2=true
def Gu(w:World)(T:Ty)(cs:RV Value):Prop:=∃(d:I T)(vs:RV V),FRs (aG T d) vs/\VRs [] (λb=>b<w.heap.size) w vs cs
theorem tO{w:World}{T:Ty}{d:I T}{c:C}{v:V}{u:Value}(he:aG T d=[c])(h:FR c v)(t:VR (λb=>b<w.heap.size) w [] v u):Gu w T [u]:=
 ⟨d, [v],by rw[he];exact⟨rfl,fun j h1 h2=>by
  have:j=0:=PU
  subst this;exact h⟩,⟨rfl,λj y=>by
  have:j=0:=by simp at y;omega
  subst this;exact⟨u,rfl,t⟩⟩⟩
section
variable {H : Type} {enc : TypeId × Value → H} {P : Program} {w : World} {base : Nat} {spare : Nat → Bool} {held : Bool} {TM : RV (Nat × Ty)}
theorem pE{ei:Nat}{cs:RV Value}{xs:RV (DataW H×RV MemPlace)}(C:∀t T cs x,H5 TM t T=true->DataW.trod enc P w base spare held ei t cs=some x->Gu w T cs):∀{v:RV Field}{y:RV Ty}{off k:Nat},kQ P TM v y off=true->cs.length=off+G8 y->xs.length=k+v.length->
  (∀(i:Nat)(f:Field),v[i]?=some f->DataW.trod enc P w base spare held ei f.type ((cs.drop f.offset).take (P.cellsOf f.type))=xs[k+i]?)->
  ∃A vs,Flds y A/\FRs A vs/\VRs [] (λb=>b<w.heap.size) w vs (cs.drop off)
 | [], [],off,k,_,hl,_,_=>⟨[],[],.nil,⟨rfl,fun j h=>H0⟩,by
   rw[Oj (by simp[G8]at hl;omega)];exact⟨rfl,λj h=>H0⟩⟩
 | f::v,T::y,off,k,h,hl,hx,D=>by
  simp only[kQ,bA]at h;obtain⟨⟨⟨h1,h2⟩,E⟩,h4⟩:=h;have h1:=nB h1;have h2:=nB h2;have B:=D 0 f rfl;simp only[NU]at hx;simp only[G8]at hl;rw[OD,gE A1]at B;rw[h1,h2]at B;obtain⟨d,vs,F,G⟩:=C f.type T _ _ E B;obtain⟨A,us,b1,b2,b3⟩:=pE (cs:=cs) (xs:=xs) C (k:=k+1) h4 A1 A1 (λi g I=>by rw[D (i+1) g (by simpa using I)];congr 1;omega);refine⟨aG T d++A,vs++us,.cons d b1,F.app b2,?_⟩;have J:cs.drop off=(cs.drop off).take (szT T)++cs.drop (off+szT T):=by rw[<-List.drop_drop,Om]
  rw[J];exact G.append b3
 |[],_::_,_,_,h,_,_,_=>by simp[kQ]at h
 |_::_,[],_,_,h,_,_,_=>by simp[kQ]at h
theorem BG(G:TMOK P TM):∀(ei:Nat)(t:Nat)(T:Ty)(cs:RV Value)(x:DataW H×RV MemPlace),H5 TM t T=true->DataW.trod enc P w base spare held ei t cs=some x->Gu w T cs:=by
 intro ei
 induction ei using Nat.strongRecOn with
 | ind ei R=>
  intro t T cs x hm h;have hs:=G _ (Io hm);simp only at hs;cases T with
  | i=>
   simp only[pM]at hs;split at hs
   .rename_i ht;obtain⟨n,rfl,_,wf⟩:=DataW.trod_int ht h;exact tO (T:=.i) (d:=n) rfl .i (.lit wf)
   .cases hs
  | b=>
   simp only[pM]at hs;split at hs
   .rename_i ht;obtain⟨b,rfl,_⟩:=DataW.trod_bool ht h;exact tO (T:=.b) (d:=b) rfl .b (.lit trivial)
   .cases hs
  | s=>
   simp only[pM]at hs;split at hs
   .rename_i ht;obtain⟨s,rfl,_,wf⟩:=DataW.trod_string ht h;exact tO (T:=.s) (d:=s) rfl .s (.lit wf)
   .cases hs
  | u=>
   simp only[pM]at hs;split at hs
   .rename_i ht;obtain⟨n,rfl,_,wf⟩:=DataW.trod_int ht h;exact tO (T:=.u) (d:=n) rfl .k (.lit wf)
   .cases hs
  | sl T=>
   simp only[pM]at hs;split at hs
   .rename_i e ht;simp only[bA]at hs;obtain⟨⟨h1,h2⟩,J⟩:=hs;have h1:=nB h1;have h2:0<szT T:=by simpa [OB]using h2
    obtain⟨v,rfl⟩:∃v,cs=[v]:=by
     rcases DataW.trod_slice ht h with⟨hc,_⟩|⟨a,len,cap,gV,rest,n,_,hc,_⟩
     .exact⟨_,hc⟩
     .exact⟨_,hc⟩
    obtain⟨A,len,cap,rfl,g1,S,X⟩:=zO ht h1 h2 h;rcases P8 len with rfl|hp
    .exact tO (T:=.sl T) (d:=[]) rfl (FR.et h2) (.dC S)
    .obtain⟨b,off,n,rfl,rfl,Y⟩:=X hp;have key:∀i,i<len->∃q:I T×RV V×RV Value,FRs (aG T q.1) q.2.1/\VRs [] (λb=>b<w.heap.size) w q.2.1 q.2.2/\q.2.2.length=szT T/\∀j,j<szT T->w.cell? ⟨b,off+(i*szT T+j),none⟩=q.2.2[j]? :=λi hi=>by
      obtain⟨cs,y,k1,Z,k3⟩:=Y i hi;obtain⟨d,vs,k4,k5⟩:=R n A1 e T cs y J k3;exact⟨(d,vs,cs),k4,k5,k1,Z⟩
     have:Inhabited (I T×RV V×RV Value):=⟨Classical.choose (key 0 hp)⟩;obtain⟨F,hF⟩:=choose_lt (α:=I T×RV V×RV Value) (n:=len) (p:=λi q=>FRs (aG T q.1) q.2.1/\VRs [] (λb=>b<w.heap.size) w q.2.1 q.2.2/\q.2.2.length=szT T/\∀j,j<szT T->w.cell? ⟨b,off+(i*szT T+j),none⟩=q.2.2[j]?) key;have hb:b<w.heap.size:=by
      obtain⟨_,_,B,K⟩:=hF 0 hp;have:=K 0 h2;rw[gE A1]at this;rcases ON b w.heap.size with h|h
      .exact h
      .simp[World.cell?,OP h]at this
     have C:∀i,i<len->(F i).2.1.length=szT T:=λi hi=>by
      obtain⟨_,E,B,_⟩:=hF i hi;rw[<-E.1,B]
     have L:FR (.l T ((List.range len).map λi=>(F i).1)) (.imm (szT T) ((List.range len).map λi=>(F i).2.1)):=by
      refine .l h2 C3 (λe he=> ?_) (λm m1 m2 j U W=> ?_)
      .obtain⟨i,hi,rfl⟩:=List.mem_map.1 he;exact C i Q9
      .have hm:m<len:=by simpa using m1
       simp only[NY,PN]at U W ⊢;exact(hF m hm).1.2 j U W
     have M:VR (λb=>b<w.heap.size) w [] (.imm (szT T) ((List.range len).map λi=>(F i).2.1)) (.slice (some ⟨b,off,none⟩) len cap):=by
      have hl:((List.range len).map λi=>(F i).2.1).length=len:=C3
      have:=VR.imm (I:=λb=>b<w.heap.size) (w:=w) (ι:=[]) (s:=szT T) (b:=b) (off:=off) (c:=cap) (es:=(List.range len).map λi=>(F i).2.1) (f:=λk j=>(F k).2.2.getD j undef) (λe he=>by
       obtain⟨i,hi,rfl⟩:=List.mem_map.1 he;exact C i Q9) (by rw[hl];exact g1) S hb (λk j hk D=>by
       rw[hl]at hk;obtain⟨_,E,B,K⟩:=hF k hk;rw[K j D,gE A1];simp[List.getD,B,D]) (λk hk j D=>by
       have N:k<len:=QU
       simp only[NY,PN]at D ⊢;obtain⟨_,E,B,_⟩:=hF k N;obtain⟨u,u1,u2⟩:=E.2 j D;have:(F k).2.2.getD j undef=u:=by simp[List.getD,u1]
       rw[this];exact u2)
      rw[hl]at this;exact this (.inr λh=>h.elim)
     exact tO (T:=.sl T) (d:=(List.range len).map λi=>(F i).1) rfl L M
   .cases hs
  | n k=>
   simp only[pM]at hs;split at hs
   .rename_i fs ht;simp only[bA]at hs;obtain⟨⟨h1,h2⟩,J⟩:=hs;have h1:=nB h1;have h2:0<szT (.n k):=by simpa [OB]using h2
    obtain⟨xs,n,rfl,_,O,Q,hf⟩:=DataW.trod_struct ht h;obtain⟨ds,vs,a1,a2,a3⟩:=pE (cs:=cs) (xs:=xs) (k:=0) (λt T cs x=>R n A1 t T cs x) J (by rw[O,h1];omega) (by simpa using Q) (λi f hi=>by rw[Ou];exact hf i f Q9);obtain⟨d,rfl⟩:=Jk k ds h2 a1;exact⟨d,vs,a2,by simpa using a3⟩
   .cases hs
end
theorem jy{w:World}:Abs.ARs [] (λb=>b<w.heap.size) w [] #[]:=⟨rfl,λj h=>H0⟩
theorem dN{w:World}{d:AV}{avs:RV AV}{v:Value}{vs:RV Value}(h:Abs.AR [] (λb=>b<w.heap.size) w d v)(k:Abs.ARs [] (λb=>b<w.heap.size) w avs vs.toArray):Abs.ARs [] (λb=>b<w.heap.size) w (d::avs) (v::vs).toArray:=by
 refine⟨by have:=k.1;simpa using this,λj t=> ?_⟩;cases j with
 |zero=>exact⟨v,C3,h⟩
 | succ j=>
  obtain⟨c,c1,c2⟩:=k.2 j N0;exact⟨c,by simpa using c1,c2⟩
end
section
open Go.ChangeShapes Go.WideShapes Go.ChangeAt Go.RowKit Go.Deep Go.Joins
open Abs (V AV VRs VR AR ARs Inf Fn)
theorem jw{T:Ty}(hp:0<szT T){w:World}{S J:Nat->Prop}(hS:∀b,S b->b<w.heap.size->J b)(f:I T->RV D)(G:∀x,(f x).length=szT T){xs:RV (I T)}{v:Value}(h:At w S (.row xs.length (xs.flatMap f)) v)
  (he:∀x∈xs,∀us:RV Value,us.length=szT T->(∀(j:Nat)(d:D)(u:Value),(f x)[j]? =some d->us[j]? =some u->At w S d u)->∃vs:RV V,FRs (aG T x) vs/\VRs [] J w vs us):
  ∃es,FR (.l T xs) (.imm (szT T) es)/\VR J w [] (.imm (szT T) es) v:=by
 obtain⟨A,cap,rfl,g1,N⟩:=h.slice;rcases P8 xs.length with h0|hpos
 .obtain rfl:=nZ h0;exact⟨[],FR.et hp,.dC N⟩
 .obtain⟨b,off,rfl,hb,hlt,hc⟩:=At.cellAt h (by rw[eX _ _ G];exact Nat.mul_pos hpos hp);have key:∀i,i<xs.length->∃q:RV V×RV Value,((∀x,xs[i]? =some x->FRs (aG T x) q.1)/\VRs [] J w q.1 q.2)/\q.2.length=szT T/\∀j,j<szT T->w.cell? ⟨b,off+(i*szT T+j),none⟩=q.2[j]? :=λi hi=>by
   have H:∀j,j<szT T->(xs.flatMap f)[i*szT T+j]? =(f xs[i])[j]? :=λj t=>by
    rw[eO _ _ G _ _ _ t,gE hi];rfl
   have y:∀j,j<szT T->∃d u,(f xs[i])[j]? =some d/\w.cell? ⟨b,off+(i*szT T+j),none⟩=some u/\At w S d u:=λj t=>by
    have O:(f xs[i])[j]? =some ((f xs[i])[j]'(by rw[G];exact t)):=gE _;obtain⟨u,u1,u2⟩:=hc _ _ ((H j t).trans O);exact⟨_,u,O,u1,u2⟩
   have B:∀j,j<szT T->((List.range (szT T)).map λj=>(w.cell? ⟨b,off+(i*szT T+j),none⟩).getD undef)[j]? =w.cell? ⟨b,off+(i*szT T+j),none⟩:=λj t=>by
    obtain⟨d,u,_,u1,_⟩:=y j t;simp[t,u1]
   obtain⟨vs,k1,R⟩:=he xs[i] (gM hi) ((List.range (szT T)).map λj=>(w.cell? ⟨b,off+(i*szT T+j),none⟩).getD undef) C3 λj d u hd K=>by
    have t:j<szT T:=by
     have:=(gI.1 K).1;exact RR
    rw[B j t]at K;obtain⟨W,X,q1,q2,q3⟩:=y j t;rw[hd]at q1;rw[K]at q2;cases q1;cases q2;exact q3
   exact⟨(vs,_),⟨λx hx=>by rw[gE hi]at hx;cases hx;exact k1,R⟩,C3,λj t=>(B j t).symm⟩
  have:Inhabited (RV V×RV Value):=⟨([],[])⟩;obtain⟨F,hF⟩:=choose_lt (α:=RV V×RV Value) (n:=xs.length) (p:=λi q=>((∀x,xs[i]? =some x->FRs (aG T x) q.1)/\VRs [] J w q.1 q.2)/\q.2.length=szT T/\∀j,j<szT T->w.cell? ⟨b,off+(i*szT T+j),none⟩=q.2[j]?) key;have C:∀i,i<xs.length->(F i).1.length=szT T:=λi hi=>by
   obtain⟨⟨_,L⟩,E,_⟩:=hF i hi;rw[<-L.1,E]
  refine⟨(List.range xs.length).map λi=>(F i).1,.l hp C3 (λe he=> ?_) (λm m1 Y j P Q=> ?_),?_⟩
  .obtain⟨i,hi,rfl⟩:=List.mem_map.1 he;exact C i Q9
  .simp only[NY,PN]at P Q ⊢;exact((hF m m1).1.1 _ (gE m1)).2 j P Q
  .have hl:((List.range xs.length).map λi=>(F i).1).length=xs.length:=C3
   have:=VR.imm (I:=J) (w:=w) (ι:=[]) (s:=szT T) (b:=b) (off:=off) (c:=cap) (es:=(List.range xs.length).map λi=>(F i).1) (f:=λk j=>(F k).2.getD j undef) (λe he=>by
    obtain⟨i,hi,rfl⟩:=List.mem_map.1 he;exact C i Q9) (by rw[hl];exact g1) N (hS b hb hlt) (λk j hk t=>by
    rw[hl]at hk;obtain⟨_,E,U⟩:=hF k hk;rw[U j t,gE A1];simp[List.getD,E,t]) (λk hk j t=>by
    have M:k<xs.length:=QU
    simp only[NY,PN]at t ⊢;obtain⟨⟨_,L⟩,E,_⟩:=hF k M;obtain⟨u,u1,u2⟩:=L.2 j t;have:(F k).2.getD j undef=u:=by simp[List.getD,u1]
    rw[this];exact u2)
   rw[hl]at this;exact this (.inr λh=>h.elim)
theorem vL{J:Nat->Prop}{w:World}{v:V}{u:Value}(h:VR J w [] v u):VRs [] J w [v] [u]:=⟨rfl,λj d=>by
 have:j=0:=Qq
 subst this;exact⟨u,rfl,h⟩⟩
theorem bC{J:Nat->Prop}{w:World}{v:V}{u:Value}{vs:RV V}{us:RV Value}(h:VR J w [] v u)(k:VRs [] J w vs us):VRs [] J w (v::vs) (u::us):=⟨by have:=k.1;simp[this],λj d=>by
 cases j with
 |zero=>exact⟨u,rfl,h⟩
 | succ j=>
  obtain⟨x,h1,h2⟩:=k.2 j Q1;exact⟨x,Hl,h2⟩⟩
theorem gD:FRs [] []:=⟨rfl,λj h=>H0⟩
theorem aW{c:C}{v:V}{cs:RV C}{vs:RV V}(h:FR c v)(k:FRs cs vs):FRs (c::cs) (v::vs):=⟨by have:=k.1;simp[this],λj h1 h2=>by
 cases j with
 |zero=>exact h
 |succ j=>exact k.2 j Hl HA⟩
section
variable {w : World} {S J : Nat → Prop} (hS : ∀ b, S b → b < w.heap.size → J b)
include hS
theorem IA{xs:RV Int}{v:Value}(h:At w S (iu xs) v):∃es,FR (.l .i xs) (.imm 1 es)/\VR J w [] (.imm 1 es) v:=by
 have h':At w S (.row xs.length (xs.flatMap λx=>[D.lit (.int .i64 x)])) v:=by rw[<-List.map_eq_flatMap];exact h
 refine jw (T:=.i) D2 hS (λx=>[.lit (.int .i64 x)]) (λ_=>rfl) (xs:=xs) h' λx _ us hl d=> ?_
 match us,hl with
 | [u],_=>
  obtain⟨rfl,hk⟩:=bc.1 (d 0 _ u rfl rfl);exact⟨[.lit (.int .i64 x)],aW .i gD,vL (.lit hk)⟩
theorem NB(t:Tm):∀v,At w S (cw t.ac) v->∃es,FR (.l (.n 1) t.ac) (.imm 4 es)/\VR J w [] (.imm 4 es) v:=by
 induction t using Tm.induct with
 | h o n s ac y=>
  intro v h;refine jw (T:=.n 1) D2 hS Tm.cells Tm.gP (xs:=ac) h λx hx us hl j=> ?_
  match us,hl with
  | [a,b,c,d],_=>
   obtain⟨rfl,A⟩:=bc.1 (j 0 _ a rfl rfl);obtain⟨rfl,B⟩:=bc.1 (j 1 _ b rfl rfl);obtain⟨rfl,C⟩:=bc.1 (j 2 _ c rfl rfl);have kd:At w S (cw (Tm.ac x)) d:=by have e:=Tm.d_eq x;rw[<-e];exact j 3 _ d rfl rfl
   obtain⟨es,k1,D⟩:=y x hx d kd;exact⟨[.lit (.int .i64 (Tm.op x)),.lit (.string (Tm.ae x)),.lit (.int .i64 (Tm.ag x)),.imm 4 es],aW .i (aW .s (aW .i (aW k1 gD))),bC (.lit A) (bC (.lit B) (bC (.lit C) (vL D)))⟩
theorem mS{ts:RV Tm}{v:Value}(h:At w S (cw ts) v):∃es,FR (.l (.n 1) ts) (.imm 4 es)/\VR J w [] (.imm 4 es) v:=NB hS ⟨0,ByteArray.empty,0,ts⟩ v h
omit hS in
theorem F5{vs:RV V}{cs:RV Value}(h:VRs [] J w vs cs):AR [] J w (.agg vs) (.agg cs.toArray):=by
 refine .agg (f:=λj=>cs.getD j undef) PV (λj d=> ?_) (λj d=> ?_)
 .have:=h.1;simp[List.getD,(A1:j<cs.length)]
 .obtain⟨u,u1,u2⟩:=h.2 j d;have:cs.getD j undef=u:=by simp[List.getD,u1]
  rw[this];exact u2
end
theorem BA{w:World}{J:Nat->Prop}{x:Int}(h:(Lit.int .i64 x).wf=true):∃y,ATR [] [] (.one (.i x)) (.one y)/\AR [] J w (.one y) (.int .i64 x):=⟨_,.one (.fl .i),.one (.lit h)⟩
theorem gN{P:Program}{f:FuncId}{xs:RV AT}{v:AT}{H':RV Ob}(hc:CFn P f xs [] v H'){w:World}{J:Nat->Prop}{avs:RV AV}{vs:Array Value}(j:∀b,J b->b<w.heap.size)(hx:cN [] [] xs avs)(hA:ARs [] J w avs vs):
  Calls P f vs w λe w'=>∃r h' ι' d c ρ',e= .returned c/\ATR ρ' H' v r/\HpR ρ' H' h'/\Abs.Ih w J [] [] r h' ι' d c w'/\Below w.heap.size w w':=by
 have hF:=hc [] [] avs HpR.et hx;refine(hF.2 w J [] vs (Abs.HR.nil _ w λ_ _ _ h=>h.elim) j hA).mono ?_;rintro e w' ⟨r,h',ι',d,c,⟨ρ',hr,hp,_⟩,rfl,D⟩;exact⟨r,h',ι',d,c,ρ',rfl,hr,hp,D,⟨D.os,D.tape,D.output,D.grown,λb hb=>D.frame b hb (Abs.ou b)⟩⟩
section
variable {ρ : Rho} {H : RV Ob} {ι : RV Inf} {J : Nat → Prop} {w : World} {h : Abs.aD}
theorem fP{a:C}{r:AV}{c:Value}(h1:ATR ρ H (.one a) r)(h2:AR ι J w r c):∃v,CR ρ H a v/\VR J w ι v c:=by
 cases h1 with
 | one h1=>cases h2 with
  |one h2=>exact⟨_,h1,h2⟩
theorem arr2{cs:Array Value}(h:cs.size=2):∃a b,cs= #[a,b]:=by
 rcases cs with⟨l⟩
 match l,h with
 |[a,b],_=>exact⟨a,b,rfl⟩
theorem mN{a b:AT}{r:AV}{c:Value}(h1:ATR ρ H (.tup [a,b]) r)(h2:AR ι J w r c):∃t v c1 c2,c= .tuple #[c1,c2]/\ATR ρ H a t/\AR ι J w t c1/\ATR ρ H b v/\AR ι J w v c2:=by
 cases h1 with
 | @tup _ ys hl hr=>
  match ys,hl with
  | [B,C],_=>
   cases h2 with
   | @tup _ cs f j d h=>
    obtain⟨c1,c2,rfl⟩:=arr2 j;have y:=d 0 C3;have A:=d 1 C3;simp at y A;subst y A;exact⟨B,C,_,_,rfl,hr 0 C3 C3,h 0 C3,hr 1 C3 C3,h 1 C3⟩
theorem iD{x:Int}{v:V}{c:Value}(h1:CR ρ H (.i x) v)(h2:VR J w ι v c):c= .int .i64 x/\(Lit.int .i64 x).wf=true:=by
 cases h1 with
 | fl h1=>cases h1 with
  | i=>cases h2 with
   |lit h=>exact⟨rfl,h⟩
theorem ji{x:Bool}{v:V}{c:Value}(h1:CR ρ H (.b x) v)(h2:VR J w ι v c):c= .bool x:=by
 cases h1 with
 | fl h1=>cases h1 with
  | b=>cases h2 with
   |lit h=>rfl
theorem iG{x:Z}{v:V}{c:Value}(h1:CR ρ H (.s x) v)(h2:VR J w ι v c):c= .string x/\x.size<=maxLen:=by
 cases h1 with
 | fl h1=>cases h1 with
  | s=>cases h2 with
   |lit h=>exact⟨rfl,h⟩
theorem Jp{xs:RV Int}{es:RV (RV V)}(h:FR (.l .i xs) (.imm 1 es)):es.length=xs.length/\∀(k:Nat),k<xs.length->∃e,es[k]? =some e/\e=[.lit (.int .i64 (xs.getD k 0))]:=by
 obtain⟨hl,hs,hr⟩:es.length=xs.length/\(∀e∈es,e.length=1)/\∀(m:Nat)(h1:m<xs.length)(h2:m<es.length)(j:Nat)(t:j<(aG .i xs[m]).length)(h4:j<es[m].length),FR (aG .i xs[m])[j] es[m][j]:=by
  cases h with
  |l hp hl hs hr=>exact⟨hl,hs,hr⟩
 refine⟨hl,λk hk=>⟨es[k],gE A1,?_⟩⟩;have h1:=hs es[k] (gM _);have h2:=hr k hk A1 0 (by show 0<[C.i _].length;simp) A1
 match d:es[k],h1 with
 | [x],_=>
  simp only[d]at h2;have:FR (.i xs[k]) x:=h2;cases this;simp[List.getD,hk]
theorem Fj{xs:RV Int}{v:V}{c:Value}(h1:CR ρ H (.l .i xs) v)(h2:VR J w ι v c):At w J (iu xs) c:=by
 obtain⟨es,rfl,B⟩:∃es,v= .imm 1 es/\FR (.l .i xs) (.imm 1 es):=by
  cases h1 with
  | fl h1=>cases h1 with
   |l hp hl hs hr=>exact RH
 obtain⟨hl,he⟩:=Jp B;cases h2 with
 | dC hc=>
  obtain rfl:=nZ hl.symm;exact uQ (N9 _) hc λh=>H0
 | @imm _ _ b off cap _ f hs hc hm C d hr=>
  rw[hl];refine uQ A1 hm λ_=>⟨b,off,rfl,C,λk hk=> ?_⟩;obtain⟨e,D,y⟩:=he k hk;obtain⟨j,A⟩:=gI.1 D;have bJ:0<es[k].length:=by rw[A,y];simp
  have q1:=d k 0 j A1;have q2:=hr k j 0 bJ;simp only[A,y,O5]at q2;generalize f k 0=z at q1 q2;cases q2 with
  |lit t=>exact⟨by simpa using q1,t⟩
end
end
section
open Go.RowKit
open Abs (V AV VRs VR)
theorem wU{w:World}{T:Ty}{v:Value}(hl:Gu w T v.cells.toList)(h:v.cells= #[v]){c:I T->C}(j:∀d:I T,aG T d=[c d]):∃(d:I T)(x:V),Fit T d/\ATR [] [] (.one (c d)) (.one x)/\Abs.AR [] (λb=>b<w.heap.size) w (.one x) v:=by
 obtain⟨d,vs,h1,h2⟩:=hl;have t:=M3 h1 h2;rw[j d]at h1;rw[h]at h2;have bJ:=h2.1
 match vs,h1,h2,bJ with
 | [x],h1,h2,_=>
  obtain⟨u,u1,u2⟩:=h2.2 0 C3;simp at u1;subst u1;exact⟨d,x,t,.one (.fl (h1.2 0 C3 C3)),.one u2⟩
theorem ge{ρ:Rho}{H:RV Ob}:cN ρ H [] []:=⟨rfl,λj h=>H0⟩
theorem cL{ρ:Rho}{H:RV Ob}{x:AT}{xs:RV AT}{a:AV}{d:RV AV}(h:ATR ρ H x a)(k:cN ρ H xs d):cN ρ H (x::xs) (a::d):=by
 refine⟨by have:=k.1;simpa using this,λj h1 h2=> ?_⟩;cases j with
 |zero=>exact h
 |succ j=>exact k.2 j Hl HA
end
section
open Go.ChangeShapes Go.WideShapes Go.ChangeAt Go.RowKit Go.Deep Go.Joins
open Abs (V AV VRs VR AR ARs Inf Fn)
section
variable {w : World} {S J : Nat → Prop} (hS : ∀ b, S b → b < w.heap.size → J b)
include hS
theorem IC{xs:RV Z}{v:Value}(h:At w S (strs xs) v):∃es,FR (.l .s xs) (.imm 1 es)/\VR J w [] (.imm 1 es) v:=
 jw (T:=.s) D2 hS DO (λ_=>rfl) (xs:=xs) h λx _ us hl d=>by
  match us,hl with
  | [u],_=>
   obtain⟨rfl,hk⟩:=bc.1 (d 0 _ u rfl rfl);exact⟨[.lit (.string x)],aW .s gD,vL (.lit hk)⟩
theorem KC{xs:RV Sb}{v:Value}(h:At w S (ak xs) v):∃es,FR (.l (.n 5) xs) (.imm 2 es)/\VR J w [] (.imm 2 es) v:=
 jw (T:=.n 5) D2 hS EH (λ_=>rfl) (xs:=xs) h λx _ us hl d=>by
  match us,hl with
  | [a,b],_=>
   obtain⟨rfl,j⟩:=bc.1 (d 0 _ a rfl rfl);obtain⟨rfl,t⟩:=bc.1 (d 1 _ b rfl rfl);exact⟨[.lit (.int .i64 (Sb.low x)),.lit (.int .i64 (Sb.bK x))],aW .i (aW .i gD),bC (.lit j) (vL (.lit t))⟩
theorem Ko{xs:RV Dc}{v:Value}(h:At w S (lu xs) v):∃es,FR (.l (.n 7) xs) (.imm 2 es)/\VR J w [] (.imm 2 es) v:=
 jw (T:=.n 7) D2 hS Dp (λ_=>rfl) (xs:=xs) h λx _ us hl d=>by
  match us,hl with
  | [a,b],_=>
   obtain⟨es,k1,j⟩:=IA hS (d 0 _ a rfl rfl);obtain⟨rfl,t⟩:=bc.1 (d 1 _ b rfl rfl);exact⟨[.imm 1 es,.lit (.int .i64 (Dc.result x))],aW k1 (aW .i gD),bC j (vL (.lit t))⟩
theorem Kz{xs:RV Opr}{v:Value}(h:At w S (iP xs) v):∃es,FR (.l (.n 8) xs) (.imm 5 es)/\VR J w [] (.imm 5 es) v:=
 jw  (T:=.n 8) D2 hS CO (λ_=>rfl) (xs:=xs) h λx _ us hl j=>by
  match us,hl with
  | [a, b,c,d,e],_=>
   obtain⟨rfl,t⟩:=bc.1 (j 0 _ a rfl rfl);obtain⟨es,k1,y⟩:=Ko hS (j 1 _ b rfl rfl);obtain⟨rfl,_⟩:=bc.1 (j 2 _ c rfl rfl);obtain⟨rfl,_⟩:=bc.1 (j 3 _ d rfl rfl);obtain⟨rfl,A⟩:=bc.1 (j 4 _ e rfl rfl)
   exact⟨[.lit (.string (Opr.ae x)),.imm 2 es,.lit (.bool (Opr.aA x)),.lit (.bool (Opr.comm x)),.lit (.int .i64 (Opr.aE x))],aW .s (aW k1 (aW .b (aW .b (aW .i gD)))),
    bC (.lit t) (bC y (bC (.lit trivial) (bC (.lit trivial) (vL (.lit A)))))⟩
theorem uW{s:Sg}{v u z:Value}(h:At w S (strs s.ai.ah) v)(k:At w S (ak s.ai.ak) u)(l:At w S (iP s.ops) z):∃vs,ATR [] [] (.agg [.l .s s.ai.ah,.l (.n 5) s.ai.ak,.l (.n 8) s.ops]) (.agg vs)/\AR [] J w (.agg vs) (.agg #[v,u,z]):=by
 obtain⟨es,h1,h2⟩:=IC hS h;obtain⟨d,k1,j⟩:=KC hS k;obtain⟨t,l1,l2⟩:=Kz hS l;exact⟨[.imm 1 es,.imm 2 d,.imm 5 t],.agg (FRs.cr (aW h1 (aW k1 (aW l1 gD)))),F5 (bC h2 (bC j (vL l2)))⟩
end
theorem AY{w:World}{J:Nat->Prop}{x:Z}(h:x.size<=maxLen):∃y,ATR [] [] (.one (.s x)) (.one y)/\AR [] J w (.one y) (.string x):=⟨_,.one (.fl .s),.one (.lit h)⟩
section
variable {ρ : Rho} {H : RV Ob} {ι : RV Inf} {J : Nat → Prop} {w : World} {h : Abs.aD}
theorem len4{α:Type}{l:RV α}(h:l.length=4):∃a b c d,l=[a,b,c,d]:=by
 match l,h with
 |[a,b,c,d],_=>exact⟨a,b,c,d,rfl⟩
theorem NA(t:Tm):∀{ι:RV Inf}{es:RV (RV V)}{c:Value},FR (.l (.n 1) t.ac) (.imm 4 es)->VR J w ι (.imm 4 es) c->At w J (cw t.ac) c:=by
 induction t using Tm.induct with
 | h o n s ac N=>
  intro ι es c h1 h2;obtain⟨hl,H,hr⟩:es.length=ac.length/\(∀e∈es,e.length=4)/\∀(m:Nat)(h1:m<ac.length)(h2:m<es.length)(j:Nat)(T:j<(aG (.n 1) ac[m]).length)(h4:j<es[m].length),FR (aG (.n 1) ac[m])[j] es[m][j]:=by
   cases h1 with
   |l hp hl hs hr=>exact⟨hl,hs,hr⟩
  show At w J (cw ac) c;cases h2 with
  | dC hc=>
   obtain rfl:=nZ hl.symm;exact n5 (N9 _) hc λh=>H0
  | @imm _ _ b off cap _ f hs hc hm O v y=>
   rw[hl];refine n5 A1 hm λ_=>⟨b,off,rfl,O,λk t ht=> ?_⟩;obtain⟨hk,D⟩:=gI.1 ht;have d:k<es.length:=A1
   have h4:es[k].length=4:=H _ (gM d);have q0:=v k 0 d A1;have q1:=v k 1 d A1;have q2:=v k 2 d A1;have q3:=v k 3 d A1;have v0:=y k d 0 A1;have v1:=y k d 1 A1;have I:=y k d 2 A1;have v3:=y k d 3 A1;have E:=hr k hk d 0 (by show 0<[C.i _,C.s _,C.i _,C.l (.n 1) _].length;simp) A1;have F:=hr k hk d 1 (by show 1<[C.i _,C.s _,C.i _,C.l (.n 1) _].length;simp) A1;have G:=hr k hk d 2 (by show 2<[C.i _,C.s _,C.i _,C.l (.n 1) _].length;simp) A1;have A:=hr k hk d 3 (by show 3<[C.i _,C.s _,C.i _,C.l (.n 1) _].length;simp) A1;obtain⟨a0,P,Q,a3,K⟩:=len4 h4
   .simp only[K,O5,Pw]at v0 v1 I v3 E F G A;have E:FR (.i ac[k].op) a0:=E;have F:FR (.s ac[k].ae) P:=F;have G:FR (.i ac[k].ag) Q:=G;have A:FR (.l (.n 1) ac[k].ac) a3:=A;rw[D]at E F G A;generalize f k 0=z0 at q0 v0;generalize f k 1=U at q1 v1;generalize f k 2=W at q2 I;generalize f k 3=z3 at q3 v3;obtain⟨B,rfl,A⟩:∃B,a3= .imm 4 B/\FR (.l (.n 1) t.ac) (.imm 4 B):=by
     cases A with
     |l hp hl hs hr=>exact RH
    cases E;cases F;cases G;cases v0 with
    | lit R=>cases v1 with
     | lit k1=>cases I with
      | lit S=>
       have L:t.ae.size<=9223372036854775807:=by have:t.ae.size<=maxLen:=k1;simp only[maxLen]at this;omega
       have w0:=bR R;have M:=bR S;exact⟨z3,by simpa using q0,by simpa [Oc]using q1,by simpa [Oc]using q2,by simpa [Oc]using q3,N t (by rw[<-D];exact gM hk) A v3,w0.1,w0.2,L,M.1,M.2⟩
theorem iY{ts:RV Tm}{v:V}{c:Value}(h1:CR ρ H (.l (.n 1) ts) v)(h2:VR J w ι v c):At w J (cw ts) c:=by
 obtain⟨es,rfl,d⟩:∃es,v= .imm 4 es/\FR (.l (.n 1) ts) (.imm 4 es):=by
  cases h1 with
  | fl h1=>cases h1 with
   |l hp hl hs hr=>exact RH
 exact NA ⟨0,ByteArray.empty,0,ts⟩ d h2
theorem arr4{cs:Array Value}(h:cs.size=4):∃a b c d,cs= #[a,b,c,d]:=by
 rcases cs with⟨l⟩
 match l,h with
 |[a,b,c,d],_=>exact⟨a,b,c,d,rfl⟩
theorem Mh{t:Tm}{r:AV}{c:Value}(h1:ATR ρ H (.agg [.i t.op,.s t.ae,.i t.ag,.l (.n 1) t.ac]) r)(h2:AR ι J w r c):∃z,c= .agg #[.int .i64 t.op,.string t.ae,.int .i64 t.ag,z]/\At w J (cw t.ac) z/\t.fits:=by
 cases h1 with
 | @agg _ ys hr=>
  obtain⟨hl,hr⟩:=hr
  match ys,hl with
  | [F,G,I,K],_=>
   cases h2 with
   | @agg _ cs f j d h=>
    obtain⟨c1,c2,c3,c4,rfl⟩:=arr4 j;have v:=d 0 C3;have y:=d 1 C3;have A:=d 2 C3;have B:=d 3 C3;simp at v y A B;subst v y A B;obtain⟨q1,C⟩:=iD (hr 0 C3 C3) (h 0 C3);obtain⟨q2,E⟩:=iG (hr 1 C3 C3) (h 1 C3);obtain⟨q3,D⟩:=iD (hr 2 C3 C3) (h 2 C3);have q4:=iY (hr 3 C3 C3) (h 3 C3);exact⟨f 3,by rw[q1,q2,q3],q4,(bR C).1,(bR C).2,by simp only[maxLen]at E;omega,(bR D).1,(bR D).2⟩
end
end
section
open Go.RowKit
open Classical
section
variable {w : World}
end
end
section
open Go.RowKit
set_option maxRecDepth 100000
set_option linter.unusedVariables false
noncomputable section
namespace z2o
structure Gs where
 none_:Unit
def ax(_:Gs):RV Ent:=[]
def b4{R:Type}(G:Gs)(n:Nat)(k:Int)(out:Z)(nx:Int->Z->Y R)(d:Z->Y R):Y R:=bif decide (0<k)then((bif decide (0<=k)&&decide (0<10)then some (k%10)else none).bind λq=>(dj (sOf [IntKind.wrap .u8 (wr (48+q))]) out).bind λq2=>(bif decide (0<=k)&&decide (0<10)then some (k / 10)else none).bind λq3=>nx q3 q2)else d out
def l4{R:Type}(G:Gs)(n m:Nat)(k:Int)(out:Z)(d:Z->Y R):Y R:=aS (λ(v:Int×Z) nx=>b4 G n v.1 v.2 (λh j=>nx (h,j)) d) m (k,out)
def aq{R:Type}(G:Gs)(n:Nat)(k:Int)(K:Z->Y R):Y R:=
 bif decide (k<=0)then
  (K (ByteArray.mk #[109,48]))
 else
  l4 G n n k ByteArray.empty
   (fun d=>
    (dj (ByteArray.mk #[109]) d).bind λq=>
    K q
   )
def dl4(G:Gs)(n m:Nat):=rS [0,3] [.x .i,.x .s] [] λR K k out=>l4 G n m k out (λd=>K (.exit 0) ⟨[(3,.one (.s d))],[]⟩)
def pc(G:Gs)(n:Nat):Pcs:=⟨λR id st K=>bif Nat.beq id 4 then dl4 G n n R st K else none,nK,nK⟩
def an:Ann:=⟨20,0,[(4,[0,3])],[],[2],[],[]⟩
abbrev bd:=aF Tryz.f54
abbrev q4:=aJ [1,1,1,0,0,0] bd
theorem pl4{G:Gs}(d:am (ax G))(n:Nat):∀m,al an (.loop q4) (dl4 G n m):=lpq d (pc G n) ⟨[3],[2],[(0,[3])]⟩
def cO(G:Gs)(k:Int)(r:Z):Prop:=∃n,aq (R:=AT×RV Ob) G n k (λd=>some (.one (.s d),[]))=some (.one (.s r),[])
theorem ok{G:Gs}(d:am (ax G)){g:Q}(h:∀k r,g k=some r->cO G k r):aj (ent g):=okQ λ_ _ _ _ hc=>okL hc λr j=>let⟨n,j⟩:=h _ _ j;fF d an (pc G n) Tryz.func54 j (apl [(1,4,.loop q4)] ⟨pl4 d n n,trivial⟩)
end z2o
end
end
end Go.Proofs.YtigoabbppmdfpaaGreat.Den
namespace Go.Proofs.YtigoabbppmdfpaaGreat.Den
open Go.RowKit
open Classical
theorem uo(a b:Z):(a++b).size=a.size+b.size:=C3
theorem wE{a b:Z}(h:a.size+b.size<=1099511627776):dj a b=some (a++b):=by
 unfold dj;rw[dT h];rfl
noncomputable def EB:Nat->Int->Z->Z
 |0,_,out=>out
 |m+1,k,out=>if 0<k then EB m (k / 10) (sOf [IntKind.wrap .u8 (wr (48+k%10))]++out)else out
theorem uI(x:Int):(sOf [x]).size=1:=rfl
theorem tv:∀(m:Nat)(k:Int)(out:Z),(EB m k out).size<=out.size+m
 |0,_,_=>N4 _
 | m+1,k,out=>by
  unfold EB;split
  .have:=tv m (k / 10) (sOf [IntKind.wrap .u8 (wr (48+k%10))]++out);rw[uo,uI]at this;omega
  .omega
theorem ux{R:Type}(d:Z->Y R):∀(m:Nat)(k:Int)(out:Z),0<=k->k<2^m->out.size+m<=1000->z2o.l4 ⟨()⟩ 100 (m+1) k out d=d (EB m k out)
 | 0,k,out,h0,h1,h2=>by
  show z2o.b4 ⟨()⟩ 100 k out _ d=_;unfold z2o.b4;rw[dF A1,cF];rfl
 | m+1,k,out,h0,h1,h2=>by
  show z2o.b4 ⟨()⟩ 100 k out (λh j=>z2o.l4 ⟨()⟩ 100 (m+1) h j d) d=_;unfold z2o.b4 EB;by_cases c:0<k
  .rw[dT c,cT,N1 c,dT h0,N6,dT A1,cT,cT,bS,wE (by rw[uI];omega),bS,bS];exact ux d m (k / 10) _ A1 (by rw[Int.pow_succ]at h1;omega) (by rw[uo,uI];omega)
  .grind
noncomputable def dp(k:Int):Z:=if k<=0 then ByteArray.mk #[109,48]else ByteArray.mk #[109]++EB 99 k ByteArray.empty
theorem DU{R:Type}(k:Int)(h0:0<=k)(h1:k<=4611686018427387904)(K:Z->Y R):z2o.aq ⟨()⟩ 100 k K=K (dp k):=by
 unfold z2o.aq dp;by_cases hk:k<=0
 .grind
 .have hs:=tv 99 k ByteArray.empty;have d:(ByteArray.mk #[109]).size=1:=rfl;have h:ByteArray.empty.size=0:=rfl;rw[dF hk,cF,N3 hk,ux _ 99 k _ h0 (by have:(2:Int)^99=633825300114114700748351602688:=D2;omega) (by rw[h];omega),wE (by rw[d];omega),bS]
noncomputable def Bn:Int->Y Z:=λk=>if 0<=k/\k<=4611686018427387904 then some (dp k)else none
theorem B5:aj (z2o.ent Bn):=z2o.ok (G:=⟨()⟩) trivial λk r h=>by
 unfold Bn at h;split at h
 .rename_i hp;cases h;exact⟨100,DU k hp.1 hp.2 _⟩
 .cases h
end Go.Proofs.YtigoabbppmdfpaaGreat.Den
namespace Go.Proofs.YtigoabbppmdfpaaGreat
open Go.RowKit
theorem nM(k:Int)(w:World)(h0:0<=k)(h1:k<=4611686018427387904):
  Calls Tryz.prog 54 #[.int .i64 k] w λe w'=>∃s:Z,e= .returned (.string s)/\s.size<=maxLen/\Below w.heap.size w w':=by
 have d:Den.CFn Tryz.prog 54 [.one (.i k)] [] (.one (.s (Den.dp k))) []:=by
  exact QZ
 obtain⟨y,t0,a0⟩:=Den.BA (w:=w) (J:=λb=>b<w.heap.size) (WalkArith.wf_i64 (A1:-9223372036854775808<=k/\k<=9223372036854775807));refine(Den.gN d (λ_ h=>h) (Den.cL t0 Den.ge) (Den.dN a0 Den.jy)).mono λe w' ⟨r,h',ι',A,c,ρ',j,q1,_,D,hb⟩=> ?_;obtain⟨v,v1,t⟩:=Den.fP q1 D.res;obtain⟨rfl,hs⟩:=Den.iG v1 t;exact⟨_,j,hs,hb⟩
end Go.Proofs.YtigoabbppmdfpaaGreat
namespace Go.Proofs.YtigoabbppmdfpaaGreat
open Go.RowKit
section
open Den (Sb So Dc Opr Sg)
set_option maxHeartbeats 400000 in
theorem vn(xs:RV Int)(k:Int)(w:World)(S:Nat->Prop)(v:Value)(h:AtS w S (iu xs) v)(hs:cR S w)(h0:0<=k)(h1:k+xs.length<=1073741824):
  Calls Tryz.prog 83 #[v,.int .i64 k] w λe w'=>e= .returned (.int .i64 (k+xs.length))/\bt S w w':=by
 obtain⟨A,c,rfl,B,hc⟩:=AtS.slice h
 go_enter Tryz.func83,Tryz.ntmps83
 go_wp2
 go_loopw [1,5] (λkk i wr=>∃j:Nat,j<=xs.length/\i= .int .i64 j/\kk= .int .i64 (k+j)/\bt S w wr) (λ_ i _=>xs.length-(intOf i).toNat)
 case atStart=>exact⟨0,N9 _,rfl,C3,bt.refl _ _⟩
 case round=>
  obtain⟨j,C,rfl,rfl,hL⟩:=hrel;by_cases hlt:j<xs.length
  .obtain⟨b,off,x,rfl,hb,t,d⟩:=ED (h.next hL) hlt;have D:=(hs.bU hL b hb).2 (off+j);have y:=Lib.hid d
   go_wp2
   go_roundw
   case rel=>exact⟨j+1,A1,by go_num,by go_num,hL.set y.out (kin.int _ _ (WalkArith.wf_i64 ⟨A1,A1⟩)) hb⟩
   case measure=>simp[intOf];omega
  .go_wp2
   go_ret
   obtain rfl:j=xs.length:=A1
   exact⟨rfl,hL⟩
theorem wA{u v:Value}{w:World}{S:Nat->Prop}(h:AtS w S (.lit u) v):kin u v:=(Cg.1 h).1
theorem Ew{w:World}{S:Nat->Prop}{xs:RV Z}{A:Y Addr}{n c k:Nat}(h:AtS w S (strs xs) (.slice A n c))(hk:k<xs.length):
  ∃b off x,A=some ⟨b,off,none⟩/\S b/\b<w.heap.size/\w.cell? ⟨b,off+k,none⟩=some (.string x):=by
 obtain⟨b,off,x,e,hs,hl,hx,hc⟩:=jL 1 (λ_=>rfl) h A1 hk;obtain⟨u,u1,u2⟩:=hc 0 _ rfl;obtain⟨y,rfl⟩:=(wA u2).eqStr;rw[(A1:off+(k*1+0)=off+k)]at u1;exact⟨b,off,y,e,hs,hl,u1⟩
theorem Di{w:World}{S:Nat->Prop}{xs:RV Sb}{A:Y Addr}{n c k:Nat}(h:AtS w S (ak xs) (.slice A n c))(hk:k<xs.length):
  ∃b off x y,A=some ⟨b,off,none⟩/\S b/\b<w.heap.size/\w.cell? ⟨b,off+k*2,none⟩=some (.int .i64 x)/\w.cell? ⟨b,off+k*2+1,none⟩=some (.int .i64 y):=by
 obtain⟨b,off,x,e,hs,hl,hx,hc⟩:=jL 2 (λ_=>rfl) h A1 hk;obtain⟨u,u1,u2⟩:=hc 0 _ rfl;obtain⟨v,v1,d⟩:=hc 1 _ rfl;obtain⟨y,rfl⟩:=(wA u2).eqInt;obtain⟨z,rfl⟩:=(wA d).eqInt;exact⟨b,off,y,z,e,hs,hl,u1,v1⟩
theorem Em{w:World}{S:Nat->Prop}{xs:RV Dc}{A:Y Addr}{n c k:Nat}(h:AtS w S (lu xs) (.slice A n c))(hk:k<xs.length):
  ∃b off x y u,A=some ⟨b,off,none⟩/\S b/\b<w.heap.size/\w.cell? ⟨b,off+k*2,none⟩=some u/\AtS w S (iu (Dc.ac x)) u/\w.cell? ⟨b,off+k*2+1,none⟩=some (.int .i64 y)/\Hid (xs[k]? =some x):=by
 obtain⟨b,off,x,e,hs,hl,hx,hc⟩:=jL 2 (λ_=>rfl) h A1 hk;obtain⟨u,u1,u2⟩:=hc 0 _ rfl;obtain⟨v,v1,d⟩:=hc 1 _ rfl;obtain⟨z,rfl⟩:=(wA d).eqInt;exact⟨b,off,x,z,u,e,hs,hl,u1,u2,v1,hx⟩
theorem CU{w:World}{S:Nat->Prop}{xs:RV Opr}{A:Y Addr}{n c k:Nat}(h:AtS w S (iP xs) (.slice A n c))(hk:k<xs.length):
  ∃ b off x nm u p q z,A=some ⟨b,off,none⟩/\S b/\b<w.heap.size/\w.cell? ⟨b,off+k*5,none⟩=some (.string nm)/\w.cell? ⟨b,off+k*5+1,none⟩=some u/\AtS w S (lu (Opr.aC x)) u/\w.cell? ⟨b,off+k*5+2,none⟩=some (.bool p)/\
   w.cell? ⟨b,off+k*5+3,none⟩=some (.bool q)/\w.cell? ⟨b,off+k*5+4,none⟩=some (.int .i64 z)/\Hid (xs[k]? =some x):=by
 obtain⟨b,off,x,e,hs,hl,hx,hc⟩:=jL 5 (λ_=>rfl) h A1 hk;obtain⟨u0,d,q0⟩:=hc 0 _ rfl;obtain⟨u1,j,q1⟩:=hc 1 _ rfl;obtain⟨u2,t,q2⟩:=hc 2 _ rfl;obtain⟨u3,v,q3⟩:=hc 3 _ rfl;obtain⟨u4,y,q4⟩:=hc 4 _ rfl;obtain⟨_,rfl⟩:=(wA q0).eqStr;obtain⟨_,rfl⟩:=(wA q2).eqBool;obtain⟨_,rfl⟩:=(wA q3).eqBool;obtain⟨_,rfl⟩:=(wA q4).eqInt;exact⟨b,off,x,_,u1,_,_,_,e,hs,hl,d,j,q1,t,v,y,hx⟩
theorem bt.cBool{S:Nat->Prop}{w w':World}(h:bt S w w'){b o:Nat}{x:Bool}(hc:w.cell? ⟨b,o,none⟩=some (.bool x)):∃y,w'.cell? ⟨b,o,none⟩=some (.bool y):=by
 obtain⟨u,h1,h2⟩:=h.kin _ _ _ hc;obtain⟨y,rfl⟩:=h2.eqBool;exact⟨y,h1⟩
set_option maxHeartbeats 400000 in
theorem pN(xs:RV Z)(k:Int)(w:World)(S:Nat->Prop)(v:Value)(h:AtS w S (strs xs) v)(hs:cR S w)(h0:0<=k)(h1:k+xs.length<=1073741824):
  Calls Tryz.prog 52 #[v,.int .i64 k] w λe w'=>e= .returned (.int .i64 (k+xs.length))/\bt S w w':=by
 obtain⟨A,c,rfl,D,hc⟩:=AtS.slice h;have y:=Lib.hid hs;clear hs
 go_enter Tryz.func52,Tryz.ntmps52
 go_wp2_with fail
 go_loopw [1,5] (λkk i wr=>∃j:Nat,j<=xs.length/\i= .int .i64 j/\kk= .int .i64 (k+j)/\bt S w wr) (λ_ i _=>xs.length-(intOf i).toNat)
 case atStart=>exact⟨0,N9 _,rfl,C3,bt.refl _ _⟩
 case round=>
  obtain⟨j,E,rfl,rfl,hL⟩:=hrel;by_cases hlt:j<xs.length
  .obtain⟨b,off,x,rfl,hb,B,d⟩:=Ew (h.next hL) hlt
   go_wp2_with fail
   refine(nM (k+j) _ A1 A1).mono ?_;rintro e F ⟨s1,rfl,t,hb1⟩;have L1:=Lib.hid (hL.next hb1);obtain⟨G,d2⟩:=(bt.eS (S:=S) hb1).cStr d;have C:=Lib.hid d2;have H:=(y.out.bU L1.out b hb).2 (off+j);clear d
   go_wp2_with fail
   go_roundw
   case rel=>exact⟨j+1,A1,by go_num,by go_num,L1.out.set C.out (kin.str _ _ t) hb⟩
   case measure=>simp[intOf];omega
  .go_wp2_with fail
   go_ret
   obtain rfl:j=xs.length:=A1
   exact⟨rfl,hL⟩
set_option maxHeartbeats 400000 in
theorem vm(xs:RV Sb)(k:Int)(w:World)(S:Nat->Prop)(v:Value)(h:AtS w S (ak xs) v)(hs:cR S w)(h0:0<=k)(h1:k+2*xs.length<=1073741824):
  Calls Tryz.prog 53 #[v,.int .i64 k] w λe w'=>e= .returned (.int .i64 (k+2*xs.length))/\bt S w w':=by
 obtain⟨A,c,rfl,E,hc⟩:=AtS.slice h;have B:=Lib.hid hs;clear hs
 go_enter Tryz.func53,Tryz.ntmps53
 go_wp2_with fail
 go_loopw [1,5] (λkk i wr=>∃j:Nat,j<=xs.length/\i= .int .i64 j/\kk= .int .i64 (k+2*j)/\bt S w wr) (λ_ i _=>xs.length-(intOf i).toNat)
 case atStart=>exact⟨0,N9 _,rfl,C3,bt.refl _ _⟩
 case round=>
  obtain⟨j,F,rfl,rfl,hL⟩:=hrel;by_cases hlt:j<xs.length
  .obtain⟨b,off,x,y,rfl,hb,C,d,t⟩:=Di (h.next hL) hlt;have G:=(B.out.bU hL b hb).2 (off+j*2);have H:=(B.out.bU hL b hb).2 (off+j*2+1);have L1:=Lib.hid (hL.set d (kin.int _ (k+2*j) (WalkArith.wf_i64 ⟨A1,A1⟩)) hb);have D:=Lib.hid ((World.cell?_setCell_other wr ⟨b,off+j*2,none⟩ ⟨b,off+j*2+1,none⟩ (.int .i64 (k+2*j)) C3).trans t)
   go_wp2_with fail
   go_roundw
   case rel=>exact⟨j+1,A1,by go_num,by go_num,L1.out.set D.out (kin.int _ _ (WalkArith.wf_i64 ⟨A1,A1⟩)) hb⟩
   case measure=>simp[intOf];omega
  .go_wp2_with fail
   go_ret
   obtain rfl:j=xs.length:=A1
   exact⟨rfl,hL⟩
set_option maxHeartbeats 400000 in
theorem s6(x:So)(k:Int)(w:World)(S:Nat->Prop)(v u:Value)(h:AtS w S (strs (So.ah x)) v)(g:AtS w S (ak (So.ak x)) u)(hs:cR S w)(h0:0<=k)(h1:k+(So.ah x).length+2*(So.ak x).length<=1073741824):
  Calls Tryz.prog 26 #[.agg #[v,u],.int .i64 k] w λe w'=>e= .returned (.int .i64 (k+(So.ah x).length+2*(So.ak x).length))/\bt S w w':=by
 obtain⟨A,c,rfl,E,hc⟩:=AtS.slice h;obtain⟨B,d,rfl,hm,hd⟩:=AtS.slice g;obtain⟨p,y⟩:∃o,o=Obj.cells #[.slice A (So.ah x).length c,.slice B (So.ak x).length d] 40:=⟨_,rfl⟩;have j:=Lib.hid (hs.alloc p);have C:=Lib.hid (h.alloc p);have H2:=Lib.hid (g.alloc p);rw[y]at j C H2;clear y;have D:=Lib.hid (Blk.new w 40 #[.slice A (So.ah x).length c,.slice B (So.ak x).length d]);have nS:¬S w.heap.size:=λq=>by have:=(hs _ q).1;omega
 clear hs h g
 go_enter Tryz.func26,Tryz.ntmps26
 go_wp2_with fail
 refine(pN (So.ah x) k _ S _ C.out j.out h0 A1).mono ?_;rintro e F ⟨rfl,L1⟩;obtain⟨q1,q2⟩:=(L1.blk D.out nS).c2;have H2:=Lib.hid (H2.out.next L1);have j:=Lib.hid (j.out.bU L1);have t:=Lib.hid (bt.front _ L1);clear L1
 go_wp2_with fail
 refine(vm (So.ak x) _ _ S _ H2.out j.out A1 A1).mono ?_;rintro e G ⟨rfl,L2⟩;have t:=Lib.hid (t.out.trans L2);clear L2
 go_wp2_with fail
 go_ret
 exact⟨rfl,t.out⟩
def dcM(x:Dc):Nat:=1+(Dc.ac x).length
def xo(xs:RV Dc):Nat:=xs.length+(xs.map dcM).sum
def opM(x:Opr):Nat:=4+xo (Opr.aC x)
def DT(xs:RV Opr):Nat:=xs.length+(xs.map opM).sum
theorem Kh(xs:RV Dc):xo xs<=2*tn xs:=by
 unfold xo tn
 induction xs with
 |nil=>simp
 | cons x l d=>
  have h1:dcM x=1+(Dc.ac x).length:=rfl;have h2:dcW x=(Dc.ac x).length:=rfl;simp only[NU,Ot,Pg];omega
theorem Kb(xs:RV Opr):DT xs<=5*yD xs:=by
 unfold DT yD
 induction xs with
 |nil=>simp
 | cons x l d=>
  have h1:opM x=4+xo (Opr.aC x):=rfl;have h2:opW x=tn (Opr.aC x):=rfl;have h:=Kh (Opr.aC x);simp only[NU,Ot,Pg];omega
set_option maxHeartbeats 400000 in
theorem sL(xs:RV Dc)(k:Int)(w:World)(S:Nat->Prop)(v:Value)(h:AtS w S (lu xs) v)(hs:cR S w)(h0:0<=k)(h1:k+xo xs<=1073741824):
  Calls Tryz.prog 55 #[v,.int .i64 k] w λe w'=>∃k':Int,e= .returned (.int .i64 k')/\k<=k'/\k'<=k+xo xs/\bt S w w':=by
 obtain⟨A,c,rfl,P,hc⟩:=AtS.slice h;unfold xo at h1 ⊢;have B:=Lib.hid hs;clear hs
 go_enter Tryz.func55,Tryz.ntmps55
 go_wp2_with fail
 go_loopw [1,5] (λl i wr=>∃(j:Nat)(kk:Int),j<=xs.length/\i= .int .i64 j/\l= .int .i64 kk/\k<=kk/\kk<=k+iC dcM xs j/\bt S w wr) (λ_ i _=>xs.length-(intOf i).toNat)
 case atStart=>exact⟨0,k,N9 _,rfl,rfl,OJ _,QQ,bt.refl _ _⟩
 case round=>
  obtain⟨j,kk,Q,rfl,rfl,t,E,hL⟩:=hrel;have F:=mU dcM xs j;by_cases hlt:j<xs.length
  .obtain⟨b,off,x,y,u,rfl,hb,G,H,C,d,I⟩:=Em (h.next hL) hlt;obtain⟨R,T,rfl,J,K⟩:=AtS.slice C;have L:=ir (f:=dcM) I.out;have D:=mU dcM xs (j+1);have hd:dcM x=1+(Dc.ac x).length:=rfl;have U:=Lib.hid L;have M:=Lib.hid d;clear d
   go_wp2_with fail
   refine(vn (Dc.ac x) kk _ S _ C (B.out.bU hL) A1 A1).mono ?_;rintro e V ⟨rfl,L1⟩;obtain⟨N,d2⟩:=L1.cInt M.out;have W:=((B.out.bU hL).bU L1 b hb).2 (off+j*2+1);have O:=Lib.hid ((hL.trans L1).set d2 (kin.int N (kk+(Dc.ac x).length) (WalkArith.wf_i64 ⟨A1,A1⟩)) hb);clear L1
   go_wp2_with fail
   go_roundw
   case rel=>exact⟨j+1,kk+(Dc.ac x).length+1,A1,by go_num,rfl,A1,A1,O.out⟩
   case measure=>simp[intOf];omega
  .go_wp2_with fail
   go_ret
   exact⟨kk,rfl,t,A1,hL⟩
set_option maxHeartbeats 2000000 in
theorem yY(xs:RV Opr)(k:Int)(w:World)(S:Nat->Prop)(v:Value)(h:AtS w S (iP xs) v)(hs:cR S w)(h0:0<=k)(h1:k+DT xs<=1073741824):
  Calls Tryz.prog 27 #[v,.int .i64 k] w λe w'=>∃k':Int,e= .returned (.int .i64 k')/\k<=k'/\k'<=k+DT xs/\bt S w w':=by
 obtain⟨A,c,rfl,hn,hc⟩:=AtS.slice h;unfold DT at h1 ⊢;have G:=Lib.hid hs;clear hs
 go_enter Tryz.func27,Tryz.ntmps27
 go_wp2_with fail
 go_loopw [1,5] (λl i wr=>∃(j:Nat)(kk:Int),j<=xs.length/\i= .int .i64 j/\l= .int .i64 kk/\k<=kk/\kk<=k+iC opM xs j/\bt S w wr) (λ_ i _=>xs.length-(intOf i).toNat)
 case atStart=>exact⟨0,k,N9 _,rfl,rfl,OJ _,QQ,bt.refl _ _⟩
 case round=>
  obtain⟨j,kk,hj,rfl,rfl,H,W,hL⟩:=hrel;have X:=mU opM xs j;by_cases hlt:j<xs.length
  .obtain⟨b,off,x,nm,u,p,q,z,rfl,hb,Y,y,B,O,C,D,E,Z⟩:=CU (h.next hL) hlt;obtain⟨A',c',rfl,hn',hc'⟩:=AtS.slice O;have hq:=ir (f:=opM) Z.out;have P:=mU opM xs (j+1);have hd:opM x=4+xo (Opr.aC x):=rfl;have HQ:=Lib.hid hq;have I:=Lib.hid y;have HC2:=Lib.hid B;have J:=Lib.hid C;have K:=Lib.hid D;have L:=Lib.hid E;clear y B C D E
   go_wp2_with fail
   refine(nM kk _ A1 A1).mono ?_;rintro e w1 ⟨s1,rfl,M,hb1⟩;have L1:Hid (bt S wr w1):=Lib.hid (bt.eS hb1);obtain⟨t1,Q⟩:=L1.out.cStr I.out;have f0:=((G.out.bU hL).bU L1.out b hb).2 (off+j*5);have L2:=Lib.hid (L1.out.set Q (kin.str t1 s1 M) hb);have d2:=L2.out.cSlice HC2.out
   go_wp2_with fail
   clear Q d2 f0;refine(sL (Opr.aC x) _ _ S _ (O.next L2.out) ((G.out.bU hL).bU L2.out) A1 A1).mono ?_;rintro e N ⟨t,rfl,hk3,hk4,d⟩;have d:=Lib.hid (L2.out.trans d);obtain⟨t3,d3⟩:=d.out.cBool J.out;obtain⟨t4,d4⟩:=d.out.cBool K.out;obtain⟨t5,d5⟩:=d.out.cInt L.out;have F:=((G.out.bU hL).bU d.out b hb).2;have f2:=F (off+j*5+2);have f3:=F (off+j*5+3);have f4:=F (off+j*5+4);clear F;have R:=Lib.hid (d.out.set d3 (kin.bool t3 (t%3==0)) hb);have T:=Lib.hid ((World.cell?_setCell_other N ⟨b,off+j*5+2,none⟩ ⟨b,off+j*5+3,none⟩ (.bool (t%3==0)) C3).trans d4);have U:=Lib.hid (R.out.set T.out (kin.bool t4 ((t+1)%3==0)) hb);have V:=Lib.hid ((World.cell?_setCell_other (N.setCell ⟨b,off+j*5+2,none⟩ (.bool (t%3==0))) ⟨b,off+j*5+3,none⟩ ⟨b,off+j*5+4,none⟩ (.bool ((t+1)%3==0)) C3).trans ((World.cell?_setCell_other N ⟨b,off+j*5+2,none⟩ ⟨b,off+j*5+4,none⟩ (.bool (t%3==0)) C3).trans d5));have L6:=Lib.hid (U.out.set V.out (kin.int t5 (t+1+1) (WalkArith.wf_i64 ⟨A1,A1⟩)) hb);clear d R U T V
   go_wp2_with fail
   go_roundw
   case rel=>
    have hqo:=HQ.out;exact⟨j+1,_,A1,by go_num,rfl,A1,A1,hL.trans L6.out⟩
   case measure=>simp[intOf];omega
  .go_wp2_with fail
   go_ret
   exact⟨kk,rfl,H,A1,hL⟩
def sgM(s:Sg):Nat:=(So.ah (Sg.ai s)).length+2*(So.ak (Sg.ai s)).length+DT (Sg.ops s)
theorem MZ(s:Sg):sgM s<=5*sgW s:=by
 have:=Kb (Sg.ops s);unfold sgM sgW;omega
set_option maxHeartbeats 400000 in
theorem np(x:Sg)(k:Int)(w:World)(S:Nat->Prop)(v u z:Value)(h:AtS w S (strs (So.ah (Sg.ai x))) v)(g:AtS w S (ak (So.ak (Sg.ai x))) u)(l:AtS w S (iP (Sg.ops x)) z)(hs:cR S w)(h0:0<=k)(h1:k+sgM x<=1073741824):
  Calls Tryz.prog 10 #[.agg #[v,u,z],.int .i64 k] w λe w'=>∃k':Int,e= .returned (.int .i64 k')/\k<=k'/\k'<=k+sgM x/\bt S w w':=by
 obtain⟨A,c,rfl,I,hc⟩:=AtS.slice h;obtain⟨B,d,rfl,hm,hd⟩:=AtS.slice g;obtain⟨C,f,rfl,hp,J⟩:=AtS.slice l;unfold sgM at h1 ⊢;obtain⟨p,D⟩:∃o,o=Obj.cells #[.slice A (So.ah (Sg.ai x)).length c,.slice B (So.ak (Sg.ai x)).length d,.slice C (Sg.ops x).length f] 43:=⟨_,rfl⟩;have j:=Lib.hid (hs.alloc p);have E:=Lib.hid (h.alloc p);have H2:=Lib.hid (g.alloc p);have t:=Lib.hid (l.alloc p);rw[D]at j E H2 t;clear D;have F:=Lib.hid (Blk.new w 43 #[.slice A (So.ah (Sg.ai x)).length c,.slice B (So.ak (Sg.ai x)).length d,.slice C (Sg.ops x).length f]);have nS:¬S w.heap.size:=λq=>by have:=(hs _ q).1;omega
 clear hs h g l
 go_enter Tryz.func10,Tryz.ntmps10
 go_wp2_with fail
 refine(s6 (Sg.ai x) k _ S _ _ E.out H2.out j.out h0 A1).mono ?_;rintro e K ⟨rfl,L1⟩;obtain⟨q1,q2,q3⟩:=(L1.blk F.out nS).c3;have t:=Lib.hid (t.out.next L1);have j:=Lib.hid (j.out.bU L1);have y:=Lib.hid (bt.front _ L1);clear L1
 go_wp2_with fail
 refine(yY (Sg.ops x) _ _ S _ t.out j.out A1 A1).mono ?_;rintro e L ⟨M,rfl,G,H,L2⟩;have y:=Lib.hid (y.out.trans L2);clear L2
 go_wp2_with fail
 go_ret
 exact⟨_,rfl,A1,A1,y.out⟩
end
def qL(w:World)(b o:Nat)(t:Tm)(u:Value):Prop:=w.cell? ⟨b,o,none⟩=some (.int .i64 t.op)/\w.cell? ⟨b,o+1,none⟩=some (.string t.ae)/\w.cell? ⟨b,o+2,none⟩=some (.int .i64 t.ag)/\w.cell? ⟨b,o+3,none⟩=some u/\t.fits
theorem qL.aB{w w':World}{b o:Nat}{t:Tm}{u:Value}(h:qL w b o t u)(hk:∀p,o<=p->p<o+4->w'.cell? ⟨b,p,none⟩=w.cell? ⟨b,p,none⟩):qL w' b o t u:=
 ⟨(hk _ A1 A1).trans h.1,(hk _ A1 A1).trans h.2.1,(hk _ A1 A1).trans h.2.2.1,(hk _ A1 A1).trans h.2.2.2.1,h.2.2.2.2⟩
inductive co(w:World):List Tm->(Nat->Prop)->Value->Prop
 |nil {S:Nat->Prop} {A:Y Addr} {c:Nat} (hc:c<=9223372036854775807):co w [] S (.slice A 0 c)
 | row {ts:List Tm} {S:Nat->Prop} {b off c:Nat} {U:Nat->Value} {T:Nat->Nat->Prop} (hn:ts.length<=c) (hc:c<=9223372036854775807) (hS:S b) (hT:∀k x,k<ts.length->T k x->S x/\x≠b)
   (hd:∀j k x,j<k->k<ts.length->T j x->¬T k x) (hcell:∀(k:Nat)(t:Tm),ts[k]? =some t->qL w b (off+k*4) t (U k)) (hr:∀(k:Nat)(t:Tm),ts[k]? =some t->co w t.ac (T k) (U k)):co w ts S (.slice (some ⟨b,off,none⟩) ts.length c)
theorem co.at_{w:World}{ts:RV Tm}{S:Nat->Prop}{v:Value}(h:co w ts S v):At w S (cw ts) v:=by
 induction h with
 |nil hc=>exact n5 (ts:=[]) (N9 _) hc λh=>H0
 | row j hc hS y hd d hr A=>
  refine n5 j hc λ_=>⟨_,_,rfl,hS,λk t ht=> ?_⟩;obtain⟨B,c1,c2,c3,c4⟩:=d k t ht;exact⟨_,B,c1,c2,c3,(A k t ht).mono λx hx _=>(y k x (gI.1 ht).1 hx).1,c4⟩
theorem co.aB{w w':World}{ts:RV Tm}{S:Nat->Prop}{v:Value}(h:co w ts S v)(hk:∀x o,S x->w'.cell? ⟨x,o,none⟩=w.cell? ⟨x,o,none⟩):co w' ts S v:=by
 induction h with
 |nil hc=>exact .nil hc
 |row y hc hS j hd d hr A=>exact .row y hc hS j hd (λk t ht=>(d k t ht).aB λp _ _=>hk _ _ hS) λk t ht=>A k t ht λx o hx=>hk x o (j k x (gI.1 ht).1 hx).1
theorem co.nx{w w':World}{ts:RV Tm}{S:Nat->Prop}{v:Value}(h:co w ts S v)(hb:Below w.heap.size w w')(hS:∀x,S x->x<w.heap.size):co w' ts S v:=h.aB λx o hx=>hb.cell (p:=⟨x,o,none⟩) (hS x hx)
theorem co.bU{w w':World}{ts:RV Tm}{S R:Nat->Prop}{v:Value}(h:co w ts S v)(hL:bt R w w')(hS:∀x,S x->x<w.heap.size/\¬R x):co w' ts S v:=h.aB λx o hx=>by
 unfold World.cell?;rw[hL.block x (hS x hx).1 (hS x hx).2]
theorem co.get{w:World}{ts:RV Tm}{S:Nat->Prop}{A:Y Addr}{n c k:Nat}{t:Tm}(h:co w ts S (.slice A n c))(hk:ts[k]? =some t):
  ∃ b off u T,A=some ⟨b,off,none⟩/\S b/\(∀x,T x->S x/\x≠b)/\qL w b (off+k*4) t u/\co w t.ac T u/\
   ∀(w':World)(y:Tm),(∀x o,S x->¬T x->(x=b->o<off+k*4\/off+k*4+4<=o)->w'.cell? ⟨x,o,none⟩=w.cell? ⟨x,o,none⟩)->qL w' b (off+k*4) y u->co w' y.ac T u->co w' (ts.set k y) S (.slice A n c):=by
 have C:=(gI.1 hk).1;generalize H:Value.slice A n c=v at h;cases h with
 |nil hc=>simp at hk
 | @row _ _ b off M U T I hc hS D hd d hr=>
  injection H with J E K
  subst J E K;refine⟨b,off,U k,T k,rfl,hS,λx hx=>D k x C hx,d k t hk,hr k t hk,λw' y h1 h2 N=> ?_⟩;have hl:(ts.set k y).length=ts.length:=C3
  have:=co.row (w:=w') (ts:=ts.set k y) (S:=S) (b:=b) (off:=off) (c:=c) (U:=U) (T:=T) (by rw[hl];exact I) hc hS (λj x F=>D j x (by rw[hl]at F;exact F)) (λi j x h4 G=>hd i j x h4 (by rw[hl]at G;exact G)) (λj q B=> ?_) (λj q B=> ?_)
  .grind
  .by_cases e:k=j
   .grind
   .rw[sN e]at B;exact(d j q B).aB λp O P=>h1 b p hS (λhx=>(D k b C hx).2 rfl) λ_=>A1
  .by_cases e:k=j
   .grind
   .rw[sN e]at B;have hjl:=(gI.1 B).1;refine(hr j q B).aB λx o hx=>h1 x o (D j x hjl hx).1 (λL=> ?_) λE=>absurd E (D j x hjl hx).2;rcases Nat.lt_or_gt_of_ne e with h4|h4
    .grind
    .grind
noncomputable def aX(k:Int):RV Tm->RV Tm×Int
 |[]=>([],k)
 |⟨_,_,_,ac⟩::ts=>(⟨k,Den.dp (k+1),k+2,(aX (k+3) ac).1⟩::(aX (aX (k+3) ac).2 ts).1,(aX (aX (k+3) ac).2 ts).2)
termination_by ts=>SizeOf.sizeOf ts
theorem fW(k:Int):aX k []=([],k):=by unfold aX;rfl
theorem je(k:Int)(t:Tm)(ts:RV Tm):aX k (t::ts)=(⟨k,Den.dp (k+1),k+2,(aX (k+3) t.ac).1⟩::(aX (aX (k+3) t.ac).2 ts).1,(aX (aX (k+3) t.ac).2 ts).2):=by
 obtain⟨o,n,s,ac⟩:=t;rw[aX]
theorem ru:∀(a:RV Tm)(k:Int)(b:RV Tm),aX k (a++b)=((aX k a).1++(aX (aX k a).2 b).1,(aX (aX k a).2 b).2)
 |[],k,b=>by rw[OL,fW];rfl
 | t::a,k,b=>by
  rw[Pn,je,je,ru a];rfl
theorem eE:∀(a:RV Tm)(k:Int),(aX k a).1.length=a.length
 |[],k=>by rw[fW]
 |t::a,k=>by rw[je,NU,NU,eE a]
theorem JP(t:Tm):∀(k:Int),k<=(aX k t.ac).2/\(aX k t.ac).2<=k+3*ap t.ac:=by
 induction t using Tm.induct with
 | h o n s ac j=>
  show ∀k:Int,k<=(aX k ac).2/\(aX k ac).2<=k+3*ap ac
  induction ac with
  |nil=>intro k;rw[fW];exact⟨OJ _,by simp[ap]⟩
  | cons x l d=>
   intro k;rw[je];have h1:=j x C3 (k+3);have h2:=d (λy v=>j y (by simp[v])) (aX (k+3) x.ac).2;have w:=Tm.eV x;have h4:ap (x::l)=1+x.az+ap l:=by simp only[ap,NU,Ot,Pg];omega
   simp only;omega
theorem mj(ts:RV Tm)(k:Int):k<=(aX k ts).2/\(aX k ts).2<=k+3*ap ts:=JP ⟨0,ByteArray.empty,0,ts⟩ k
theorem oH{ts:RV Tm}{j:Nat}{t:Tm}(h:ts[j]? =some t)(k:Int):aX k (ts.take (j+1))=((aX k (ts.take j)).1++[⟨(aX k (ts.take j)).2,Den.dp ((aX k (ts.take j)).2+1),(aX k (ts.take j)).2+2,(aX ((aX k (ts.take j)).2+3) t.ac).1⟩],(aX ((aX k (ts.take j)).2+3) t.ac).2):=by
 have e:ts.take (j+1)=ts.take j++[t]:=by rw[List.take_add_one,h];rfl
 rw[e,ru,je,fW]
noncomputable def wv(k:Int)(j:Nat)(ts:RV Tm):RV Tm:=(aX k (ts.take j)).1++ts.drop j
theorem Gh{ts:RV Tm}{j:Nat}{t:Tm}(h:ts[j]? =some t)(k:Int):(wv k j ts)[j]? =some t:=by
 have d:=(gI.1 h).1;have hl:(aX k (ts.take j)).1.length=j:=QP
 unfold wv;rw[aR A1,hl,Po,Pv];exact h
theorem Fc{ts:RV Tm}{j:Nat}{t:Tm}(h:ts[j]? =some t)(k:Int):(wv k j ts).set j ⟨(aX k (ts.take j)).2,Den.dp ((aX k (ts.take j)).2+1),(aX k (ts.take j)).2+2,(aX ((aX k (ts.take j)).2+3) t.ac).1⟩=wv k (j+1) ts:=by
 have d:=(gI.1 h).1;have hl:(aX k (ts.take j)).1.length=j:=QP
 unfold wv;rw[oH h,Pm d,Py _ _ A1,hl,Po,List.set_cons_zero];simp
theorem vX(a b:RV Tm):ap (a++b)=ap a+ap b:=by simp only[ap,N8,OY,List.sum_append];omega
theorem pH{ts : List Tm}{j : Nat}{t : Tm}(h : ts[j]? = some t) : ap       (ts.take j) + (1+t.az)<=ap ts:=by
 have d:=(gI.1 h).1;have e:ts=ts.take j++(t::ts.drop (j+1)):=by
  have:=Pm d;rw[(gI.1 h).2]at this;rw[<-this,Om]
 have v  : ap       ts = ap       (ts.take j) + ap       (t :: ts.drop (j + 1)) := by conv=>lhs;rw[e]
                                                                                      exact vX _ _
 have:ap (t::ts.drop (j+1))=1+t.az+ap (ts.drop (j+1)):=by simp only[ap,NU,Ot,Pg];omega
 omega
structure qu(w:World)(ts:List Tm)(S:Nat->Prop)(v:Value)(k:Int)(q:Nat)(kk:Int)(wr:World):Prop where
 kk:kk=(aX k (ts.take q)).2
 bU:bt S w wr
 sep:co wr (wv k q ts) S v
 soft:cR S w
 lo:0<=k
 hi:k+3*ap ts<=1073741824
theorem qu.zero{w:World}{ts:RV Tm}{S:Nat->Prop}{v:Value}{k:Int}(h:co w ts S v)(hs:cR S w)(h0:0<=k)(h1:k+3*ap ts<=1073741824):qu w ts S v k 0 k w:=⟨by rw[OE,fW],bt.refl _ _,by unfold wv;rw[OE,fW,NN];exact h,hs,h0,h1⟩
theorem qu.done{w wr:World}{ts:RV Tm}{S:Nat->Prop}{v:Value}{k kk:Int}(h:qu w ts S v k ts.length kk wr):kk=(aX k ts).2/\bt S w wr/\co wr (aX k ts).1 S v:=by
 have hk:=h.kk;have hS:=h.sep;rw[OQ]at hk;unfold wv at hS;rw[OQ,List.drop_length,Ok]at hS;exact⟨hk,h.bU,hS⟩
noncomputable def wi(w:World)(b p:Nat)(kk:Int):World:=(w.setCell ⟨b,p+1,none⟩ (.string (Den.dp (kk+1)))).setCell ⟨b,p+2,none⟩ (.int .i64 (kk+1+1))
theorem qu.next{w wr:World}{ts:RV Tm}{S:Nat->Prop}{A:Y Addr}{n c:Nat}{k kk:Int}{q:Nat}(h:qu w ts S (.slice A n c) k q kk wr)(hq:q<ts.length):
  ∃ b off t B d,A=some ⟨b,off,none⟩/\t∈ts/\0<=kk/\kk+3+3*ap t.ac<=1073741824/\∀p,p=off+q*4->(∃x,wr.cell? ⟨b,p,none⟩=some x)/\wr.frozen? ⟨b,p,none⟩=false/\
   ∀ j,Below (wr.setCell ⟨b,p,none⟩ (.int .i64 kk)).heap.size (wr.setCell ⟨b,p,none⟩ (.int .i64 kk)) j->((∃x,j.cell? ⟨b,p+1,none⟩=some x)/\(∃x,j.cell? ⟨b,p+2,none⟩=some x)/\j.cell? ⟨b,p+3,none⟩=some (.slice B t.ac.length d)/\j.frozen? ⟨b,p+1,none⟩=false/\j.frozen? ⟨b,p+2,none⟩=false)/\
    ((Den.dp (kk+1)).size<=maxLen->∃T,co (wi j b p kk) t.ac T (.slice B t.ac.length d)/\cR T (wi j b p kk)/\∀C,bt T (wi j b p kk) C->co C (aX (kk+1+1+1) t.ac).1 T (.slice B t.ac.length d)->qu w ts S (.slice A n c) k (q+1) (aX (kk+1+1+1) t.ac).2 C):=by
 obtain⟨t,ht⟩:∃t,ts[q]?=some t:=⟨_,gE hq⟩;have hb1:=mj (ts.take q) k;have hb2:=pH ht;have hb3:=Tm.eV t;have Q:=h.lo;have R:=h.hi;rw[<-h.kk]at hb1;obtain⟨b,off,u,T,rfl,hb,H,hC,hu,I⟩:=h.sep.get (Gh ht k);obtain⟨B,d,rfl,_,_⟩:=aI hu.at_;have D:=Fc ht k;rw[<-h.kk]at D;have E:=congrArg Prod.snd (oH ht k);rw[<-h.kk]at E;rw[(A1:kk+3=kk+1+1+1)]at D E;refine⟨b,off,t,B,d,rfl,mG ht,A1,A1,λp hp=> ?_⟩;subst hp;obtain⟨F,U,V,W,hfit⟩:=hC;have J:=(h.soft.bU h.bU b hb).1;refine⟨⟨_,F⟩,(h.soft.bU h.bU b hb).2 _,λj hb1'=> ?_⟩;have v:b<(wr.setCell ⟨b,off+q*4,none⟩ (.int .i64 kk)).heap.size:=by rw[World.size_setCell];exact J
 have L0:=bt.setCell_ (S:=λx=>x=b) F (kin.int t.op kk (WalkArith.wf_i64 ⟨A1,A1⟩)) rfl;have L1:=L0.next hb1'
 have P:∀o,o≠off+q*4->j.cell? ⟨b,o,none⟩=wr.cell? ⟨b,o,none⟩:=λo ho=>(hb1'.cell (p:=⟨b,o,none⟩) v).trans (World.cell?_setCell_other _ _ _ _ Qy);have d1:j.cell? ⟨b,off+q*4,none⟩=some (.int .i64 kk):=(hb1'.cell (p:=⟨b,off+q*4,none⟩) v).trans (World.cell?_setCell_same wr ⟨b,off+q*4,none⟩ (.int .i64 kk) (by rw[F]));have d2:=(P (off+q*4+1) A1).trans U;have d3:=(P (off+q*4+2) A1).trans V;have d4:=(P (off+q*4+3) A1).trans W;have K:=((h.soft.bU h.bU).bU L1 b hb).2;refine⟨⟨⟨_,d2⟩,⟨_,d3⟩,d4,K _,K _⟩,λL=>⟨T,?_⟩⟩;have L2:=L1.set d2 (kin.str t.ae _ L) rfl;have M:(j.setCell ⟨b,off+q*4+1,none⟩ (.string (Den.dp (kk+1)))).cell? ⟨b,off+q*4+2,none⟩=some (.int .i64 t.ag):=by
  rw[World.cell?_setCell_other _ _ _ _ C3];exact d3
 have N:bt (λx=>x=b) wr (wi j b (off+q*4) kk):=L2.set M (kin.int t.ag (kk+1+1) (WalkArith.wf_i64 ⟨A1,A1⟩)) rfl;have C4:qL (wi j b (off+q*4) kk) b (off+q*4) ⟨kk,Den.dp (kk+1),kk+2,(aX (kk+1+1+1) t.ac).1⟩ (.slice B t.ac.length d):=by
  unfold wi;refine⟨?_,?_,?_,?_,by show -9223372036854775808<=kk;omega,by show kk<=_;omega,by simp only[maxLen]at L;show (Den.dp (kk+1)).size<=_;omega,by show _<=kk+2;omega,by show kk+2<=_;omega⟩
  .rw[World.cell?_setCell_other _ _ _ _ C3,World.cell?_setCell_other _ _ _ _ C3];exact d1
  .rw[World.cell?_setCell_other _ _ _ _ C3];exact World.cell?_setCell_same _ _ _ (by rw[d2])
  .rw[World.cell?_setCell_same _ _ _ (by rw[M])];show _=some (Value.int .i64 (kk+2));rw[(A1:kk+1+1=kk+2)]
  .rw[World.cell?_setCell_other _ _ _ _ C3,World.cell?_setCell_other _ _ _ _ C3];exact d4
 have W3:∀o,(o<off+q*4\/off+q*4+4<=o)->(wi j b (off+q*4) kk).cell? ⟨b,o,none⟩=wr.cell? ⟨b,o,none⟩:=λo ho=>by
  unfold wi;rw[World.cell?_setCell_other _ _ _ _ Qy,World.cell?_setCell_other _ _ _ _ Qy];exact P o A1
 have X:∀x,T x->x<wr.heap.size/\¬x=b:=λx hx=>⟨(h.soft.bU h.bU x (H x hx).1).1,(H x hx).2⟩;have LS:=h.bU.trans (N.mono λx hx=>by subst hx;exact hb);refine⟨hu.bU N X,λx hx=>h.soft.bU LS x (H x hx).1,λC G Z=>⟨E.symm,LS.trans (G.mono λx hx=>(H x hx).1),?_,h.soft,Q,R⟩⟩;have C5:=C4.aB (w':=C) λp _ _=>by
  unfold World.cell?;rw[G.block b (NV J N.size) λq=>(H b q).2 rfl]
 have y:=I C _ (λx o hx hnt ho=>by
  have O:=(h.soft.bU h.bU x hx).1;have e1:C.cell? ⟨x,o,none⟩=(wi j b (off+q*4) kk).cell? ⟨x,o,none⟩:=by
   unfold World.cell?;rw[G.block x (NV O N.size) hnt]
  rw[e1];by_cases hxb:x=b
  .grind
  .unfold World.cell?;rw[N.block x O hxb]) C5 Z
 rw[D]at y;exact y
theorem dV(k:Int)(w:World)(h0:0<=k)(h1:k<=4611686018427387904):
  Calls Tryz.prog 54 #[.int .i64 k] w λe w'=>e= .returned (.string (Den.dp k))/\(Den.dp k).size<=maxLen/\Below w.heap.size w w':=by
 have d:Den.CFn Tryz.prog 54 [.one (.i k)] [] (.one (.s (Den.dp k))) []:=by
  exact QZ
 obtain⟨y,t0,a0⟩:=Den.BA (w:=w) (J:=λb=>b<w.heap.size) (WalkArith.wf_i64 (A1:-9223372036854775808<=k/\k<=9223372036854775807));refine(Den.gN d (λ_ h=>h) (Den.cL t0 Den.ge) (Den.dN a0 Den.jy)).mono λe w' ⟨r,h',ι',A,c,ρ',j,q1,_,D,hb⟩=> ?_;obtain⟨v,v1,t⟩:=Den.fP q1 D.res;obtain⟨rfl,hs⟩:=Den.iG v1 t;exact⟨j,hs,hb⟩
def MkS(t:Tm):Prop:=∀(w:World)(S:Nat->Prop)(v:Value)(k:Int),co w t.ac S v->cR S w->0<=k->k+3*ap t.ac<=1073741824->
  Calls Tryz.prog 56 #[v,.int .i64 k] w λe w'=>e= .returned (.int .i64 (aX k t.ac).2)/\bt S w w'/\co w' (aX k t.ac).1 S v
set_option maxHeartbeats 2000000 in
theorem jU(ts:RV Tm)(J:∀x∈ts,MkS x)(w:World)(S:Nat->Prop)(v:Value)(k:Int)(h:co w ts S v)(hs:cR S w)(h0:0<=k)(h1:k+3*ap ts<=1073741824):
  Calls Tryz.prog 56 #[v,.int .i64 k] w λe w'=>e= .returned (.int .i64 (aX k ts).2)/\bt S w w'/\co w' (aX k ts).1 S v:=by
 obtain⟨A,c,rfl,V,hc⟩:=aI h.at_;have L:=Lib.hid J;have M:=Lib.hid (qu.zero h hs h0 h1);clear J h hs
 go_enter Tryz.func56,Tryz.ntmps56
 go_wp2_with fail
 go_loopw [1,5] (λl i wr=>∃(j:Nat)(kk:Int),j<=ts.length/\i= .int .i64 j/\l= .int .i64 kk/\qu w ts S (.slice A ts.length c) k j kk wr) (λ_ i _=>ts.length-(intOf i).toNat)
 case atStart=>exact⟨0,k,N9 _,rfl,rfl,M.out⟩
 case round=>
  obtain⟨j,kk,W,rfl,rfl,G⟩:=hrel;by_cases hlt:j<ts.length
  .obtain⟨b,off,t,B,d,rfl,C,l0,l1,y⟩:=G.next hlt
   obtain⟨⟨_,N⟩,O,y⟩:=y _ rfl;have H:=Lib.hid y;clear y G
   go_wp2_with fail
   refine(dV (kk+1) _ A1 A1).mono ?_;rintro e P ⟨rfl,I,hb1'⟩;obtain⟨⟨⟨_,X⟩,⟨_,d2⟩,Y,g1,Z⟩,y⟩:=H.out P hb1';obtain⟨T,q1,q2,y⟩:=y I;have H:=Lib.hid y;have Q:=Lib.hid q1;have R:=Lib.hid q2;clear y q1 q2 hb1' N O
   go_wp2_with fail
   refine(L.out t C _ T _ _ Q.out R.out A1 A1).mono ?_;rintro e U ⟨rfl,D,E⟩;have F:=H.out U D E;clear D E
   go_wp2_with fail
   go_roundw
   case rel=>exact⟨j+1,_,A1,by go_num,rfl,F⟩
   case measure=>simp[intOf];omega
  .obtain rfl:j=ts.length:=A1
   have K:=Lib.hid G.done;clear G
   go_wp2_with fail
   go_ret
   exact⟨by have e:=K.out.1;subst e;rfl,K.out.2⟩
theorem qO(t:Tm):MkS t:=by
 induction t using Tm.induct with
 |h o n s ac d=>exact λw S v k h hs h0 h1=>jU ac d w S v k h hs h0 h1
theorem lH(ts:RV Tm)(w:World)(S:Nat->Prop)(v:Value)(k:Int)(h:co w ts S v)(hs:cR S w)(h0:0<=k)(h1:k+3*ap ts<=1073741824):
  Calls Tryz.prog 56 #[v,.int .i64 k] w λe w'=>e= .returned (.int .i64 (aX k ts).2)/\bt S w w'/\co w' (aX k ts).1 S v:=jU ts (λx _=>qO x) w S v k h hs h0 h1
theorem kB(s:Z):(s !=s)=false:=by
 cases s with
 | mk d=>
  show (!(d==d))=false;rw[beq_self_eq_true];rfl
def HdT(t:Tm):Prop:=∀(w:World)(S:Nat->Prop)(v:Value)(k:Int),At w S (cw (aX k t.ac).1) v->0<=k->k+3*ap t.ac<=1073741824->
  Calls Tryz.prog 57 #[v,.int .i64 k] w λe w'=>e= .returned (.int .i64 (aX k t.ac).2)/\Below w.heap.size w w'
theorem we{w:World}{S:Nat->Prop}{ts:RV Tm}{A:Y Addr}{n c q:Nat}{k kk:Int}(h:At w S (cw (aX k ts).1) (.slice A n c))(K:q<ts.length)(v:kk=(aX k (ts.take q)).2)(h0:0<=k)(h1:k+3*ap ts<=1073741824):
  ∃b off t B d,A=some ⟨b,off,none⟩/\b<w.heap.size/\t∈ts/\0<=kk/\kk+3+3*ap t.ac<=1073741824/\kk<=(aX (kk+1+1+1) t.ac).2/\(aX (kk+1+1+1) t.ac).2=(aX k (ts.take (q+1))).2/\∀p,p=off+q*4->w.cell? ⟨b,p,none⟩=some (.int .i64 kk)/\w.cell? ⟨b,p+1,none⟩=some (.string (Den.dp (kk+1)))/\w.cell? ⟨b,p+2,none⟩=some (.int .i64 (kk+1+1))/\w.cell? ⟨b,p+3,none⟩=some (.slice B t.ac.length d)/\At w S (cw (aX (kk+1+1+1) t.ac).1) (.slice B t.ac.length d):=by
 obtain⟨t,ht⟩:∃t,ts[q]?=some t:=⟨_,gE K⟩;have hb1:=mj (ts.take q) k;have hb2:=pH ht;have hb3:=Tm.eV t;rw[<-v]at hb1;obtain⟨b,off,y,u,rfl,_,I,C,D,E,j,G,M,_⟩:=jm (k:=q) h (by rw[eE];exact K);have F:=oH ht k;rw[<-v,(A1:kk+3=kk+1+1+1),(A1:kk+2=kk+1+1)]at F;have N:y=⟨kk,Den.dp (kk+1),kk+1+1,(aX (kk+1+1+1) t.ac).1⟩:=by
  have hl:(aX k (ts.take q)).1.length=q:=QP
  have O:(aX k (ts.take (q+1))).1[q]? =some ⟨kk,Den.dp (kk+1),kk+1+1,(aX (kk+1+1+1) t.ac).1⟩:=Hd
  have P:(aX k ts).1[q]? =(aX k (ts.take (q+1))).1[q]? :=by
   conv=>lhs;rw[<-Om (q+1) ts,ru]
   show ((aX k (ts.take (q+1))).1++_)[q]? =_;rw[aL QP]
  have H:=M.out;rw[P,O]at H;injection H with H
  exact H.symm
 subst N;obtain⟨B,d,rfl,_,_⟩:=aI G;have L:=(mj t.ac (kk+1+1+1)).1;have J:=eE t.ac (kk+1+1+1);dsimp only at C D E j G;rw[J]at j G;exact⟨b,off,t,B,d,rfl,I,mG ht,A1,A1,A1,(congrArg Prod.snd F).symm,λp hp=>by subst hp;exact⟨C,D,E,j,G⟩⟩
set_option maxHeartbeats 2000000 in
theorem vP(ts:RV Tm)(O:∀x∈ts,HdT x)(w:World)(S:Nat->Prop)(v:Value)(k:Int)(h:At w S (cw (aX k ts).1) v)(h0:0<=k)(h1:k+3*ap ts<=1073741824):
  Calls Tryz.prog 57 #[v,.int .i64 k] w λe w'=>e= .returned (.int .i64 (aX k ts).2)/\Below w.heap.size w w':=by
 obtain⟨A,c,rfl,T,hc⟩:=aI h;have I:=eE ts k;rw[I]at T h ⊢;have U:=Lib.hid O;clear O
 go_enter Tryz.func57,Tryz.ntmps57
 go_wp2_with fail
 go_loopw [1,5] (λl i wr=>∃(j:Nat)(kk:Int),j<=ts.length/\i= .int .i64 j/\l= .int .i64 kk/\kk=(aX k (ts.take j)).2/\Below w.heap.size w wr) (λ_ i _=>ts.length-(intOf i).toNat)
 case atStart=>exact⟨0,k,N9 _,rfl,rfl,by rw[OE,fW],Below.refl _ _⟩
 case round=>
  obtain⟨j,kk,W,rfl,rfl,y,hb⟩:=hrel;by_cases hlt:j<ts.length
  .obtain⟨b,off,t,B,d,rfl,C,G,l0,l1,P,H,Q⟩:=we (h.below hb) hlt y h0 h1;obtain⟨J,D,E,F,R⟩:=Q _ rfl;have K:=Lib.hid H;have hge:decide ((aX (kk+1+1+1) t.ac).2<0)=false:=dF A1;have X:(kk !=kk)=false:=C3
   have Y:(Den.dp (kk+1) !=Den.dp (kk+1))=false:=kB _;have Z:(kk+1+1 !=kk+1+1)=false:=C3
   clear H y Q
   go_upto_region 7 with fail
   have hb:=hb.drew;have L:=Lib.hid (show wr.drew.cell? ⟨b,off+j*4+2,none⟩=_ from E);have M:=Lib.hid (show wr.drew.cell? ⟨b,off+j*4+3,none⟩=_ from F);have N:=Lib.hid (R.below (Below.refl wr.heap.size wr).drew);have D:wr.drew.cell? ⟨b,off+j*4+1,none⟩=_:=D;have C:b<wr.drew.heap.size:=C;clear E F R J
   go_region_held3 (λw'=>w'.cell? ⟨b,off+j*4+1,none⟩=some (.string (Den.dp (kk+1)))) (go_keep)
    (first|(go_at_call 54;refine(dV (kk+1) _ A1 A1).mono ?_;rintro e w1 ⟨rfl,_,hb1'⟩;have D:=(hb1'.cell (p:=⟨b,off+j*4+1,none⟩) C).trans D))
   have E:=(hb1'.cell (p:=⟨b,off+j*4+2,none⟩) C).trans L.out;have F:=(hb1'.cell (p:=⟨b,off+j*4+3,none⟩) C).trans M.out;have N:=Lib.hid (N.out.below hb1');have hb:=hb.trans (hb1'.mono hb.size)
   go_wp2_with fail
   refine(U.out t G _ S _ _ N.out A1 A1).mono ?_;rintro e w3 ⟨rfl,hb3⟩;have hb:=hb.trans (hb3.mono hb.size);clear E F
   go_wp2_with fail
   go_roundw
   case rel=>exact⟨j+1,_,A1,by go_num,rfl,K.out,hb⟩
   case measure=>simp[intOf];omega
  .have V:Hid (kk=(aX k ts).2):=by
    obtain rfl:j=ts.length:=A1
    rw[OQ]at y;exact y
   clear y
   go_wp2_with fail
   go_ret
   exact⟨by have e:=V.out;subst e;rfl,hb⟩
theorem lT(t:Tm):HdT t:=by
 induction t using Tm.induct with
 |h o n s ac d=>exact λw S v k h h0 h1=>vP ac d w S v k h h0 h1
theorem nu(t:Tm)(w:World)(S:Nat->Prop)(v:Value)(k:Int)(h:co w t.ac S v)(hs:cR S w)(h0:0<=k)(h1:k+3*ap t.ac<=1073741824):
  Calls Tryz.prog 28 #[.agg #[.int .i64 t.op,.string t.ae,.int .i64 t.ag,v],.int .i64 k] w λe w'=>e= .returned (.int .i64 (aX k t.ac).2)/\bt S w w'/\co w' (aX k t.ac).1 S v:=by
 obtain⟨A,c,rfl,C,hc⟩:=aI h.at_;have y:=Lib.hid (hs.alloc (.cells #[.int .i64 t.op,.string t.ae,.int .i64 t.ag,.slice A t.ac.length c] 32));have d:=Lib.hid (h.nx ((Below.refl _ _).alloc (N4 _) (.cells #[.int .i64 t.op,.string t.ae,.int .i64 t.ag,.slice A t.ac.length c] 32)) λx hx=>(hs x hx).1);clear h hs
 go_enter Tryz.func28,Tryz.ntmps28
 go_wp2_with fail
 refine(qO t _ S _ k d.out y.out h0 h1).mono ?_;rintro e D ⟨rfl,hL,j⟩;have B:=Lib.hid (bt.front _ hL);have d:=Lib.hid j;clear hL j
 go_wp2_with fail
 go_ret
 exact⟨rfl,B.out,d.out⟩
theorem mX(t:Tm)(w:World)(S:Nat->Prop)(o:Int)(nm:Z)(s:Int)(v:Value)(k:Int)(h:At w S (cw (aX k t.ac).1) v)(h0:0<=k)(h1:k+3*ap t.ac<=1073741824):
  Calls Tryz.prog 30 #[.agg #[.int .i64 o,.string nm,.int .i64 s,v],.int .i64 k] w λe w'=>e= .returned (.int .i64 (aX k t.ac).2)/\Below w.heap.size w w':=by
 obtain⟨A,c,rfl,y,hc⟩:=aI h;have d:=(mj t.ac k).1;have hge:decide ((aX k t.ac).2<0)=false:=dF A1;have j:=Lib.hid (h.alloc (.cells #[.int .i64 o,.string nm,.int .i64 s,.slice A (aX k t.ac).1.length c] 32));clear h
 go_enter Tryz.func30,Tryz.ntmps30
 go_wp2_with fail
 refine(lT t _ S _ k j.out h0 h1).mono ?_;rintro e B ⟨rfl,hb⟩
 go_wp2_with fail
 go_ret
 exact⟨rfl,B0⟩
end Go.Proofs.YtigoabbppmdfpaaGreat

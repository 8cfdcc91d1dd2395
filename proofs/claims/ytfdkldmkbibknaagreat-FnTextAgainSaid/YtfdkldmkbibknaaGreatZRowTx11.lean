import Derived.Test.YtfdkldmkbibknaaGreatZRowTx10
namespace Go.Proofs.YtfdkldmkbibknaaGreat.Den
open Go.RowKit
open Abs (V AV Env ag ar)
section
variable [Zb]
omit [Zb]in
theorem cJ :∀(ks:List Nat) (H xs:List Ob),(bm H ks xs).length=H.length
 |[],H,xs=>by simp[bm]
 |k::ks,H,[]=>by simp[bm]
 | k :: ks, H, x :: xs => by
  simp only[bm];rw[cJ ks];split<;>simp
omit [Zb]in
theorem dD :∀(ks:List Nat) (H xs:List Ob) {id:Nat},id∉ks->(bm H ks xs)[id]? =H[id]?
 |[],H,xs,id,_=>by simp[bm]
 |k::ks,H,[],id,_=>by simp[bm]
 | k :: ks, H, x :: xs, id, hn => by
  simp only[bm];rw[dD ks _ xs (λh=>hn (by simp[h]))];split
  ·rw[sN (λe=>hn (by simp[e]))]
  ·rfl
omit [Zb]in
theorem pn :∀(ks:List Nat) (H xs:List Ob) {j id:Nat} {x o:Ob},dX ks=true->ks[j]? =some id->xs[j]? =some x->H[id]? =some o->(bm H ks xs)[id]? =some (o.bump x)
 |[],H,xs,j,id,x,o,_,hj,_,_=>by simp at hj
 |k::ks,H,[],j,id,x,o,_,_,hx,_=>by simp at hx
 | k :: ks, H, y :: ys, j, id, x, o, hn, hj, hx, ho => by
  have hn':=hn;simp only[dX,bA,Bool.not_eq_true']at hn;simp only[bm];cases j with
  | zero =>
   simp at hj hx;subst hj hx;have hk:k∉ks:=λhm=>by
    have:=hn.1;rw[List.contains_iff_mem.2 hm]at this;cases this
   rw[dD ks _ ys hk,ho];simp only;exact sS (gI.1 ho).1
  | succ j =>
   have hne:k≠id:=λe=>by
    have:=iO hn' (i:=0) (j:=j+1) (x:=id) (by simp[e]) hj;omega
   refine pn ks _ ys hn.2 (by simpa using hj) (by simpa using hx) ?_;split
   ·rw[sN hne];exact ho
   ·exact ho
omit [Zb]in
theorem zT {x y:Ob} (h:evo0 x y):evo x (x.bump y):=by
 rcases h with rfl|⟨T,n,xs,n',xs',rfl,rfl,h⟩|⟨cs,ds,rfl,rfl⟩|⟨T,a,b,rfl,rfl⟩|⟨T,xss,ho,rfl,T',xss',ho',rfl,h⟩
 ·exact .inl rfl
 ·exact .inr (.inl ⟨T,n,xs,n+1,xs',rfl,rfl,h,by omega,λe=>by omega⟩)
 ·exact .inr (.inr (.inl ⟨_,_,rfl,rfl⟩))
 ·exact .inr (.inr (.inr (.inl ⟨_,_,_,rfl,rfl⟩)))
 ·exact .inr (.inr (.inr (.inr ⟨_,_,_,rfl,_,_,_,rfl,h⟩)))
omit [Zb]in
theorem pi (o y:Ob):(o.bump y).dead=y.dead:=by cases y<;>cases o<;>rfl
omit [Zb]in
theorem nO (o y:Ob):(y= .gone->o.bump y= .gone)/\∃n,∀T m xs,y= .row T m xs->o.bump y= .row T n xs:=by
 refine⟨λe=>by subst e;rfl,?_⟩;cases o with
 |row T n xs=>exact⟨n+1,λT m xs e=>by subst e;rfl⟩
 |box cs=>exact⟨0,λT m xs e=>by subst e;rfl⟩
 |map T kvs=>exact⟨0,λT m xs e=>by subst e;rfl⟩
 |gone=>exact⟨0,λT m xs e=>by subst e;rfl⟩
 |rows T xss ho=>exact⟨0,λT m xs e=>by subst e;rfl⟩
omit [Zb]in
theorem C9 {ρ:Rho} {H:List Ob} (o:Ob) {y:Ob} {z:Option Abs.Ob} (h:obR ρ H y z):obR ρ H (o.bump y) z:=by
 cases y with
 |row T n xs=>cases o<;>exact h
 |box cs=>exact h
 |map T kvs=>exact h
 |gone=>exact h
 |rows T xss ho=>exact h
section
variable {P : Program} {E : Abs.Cx} {F : In} {ρ ρ' : Rho} {H : List Ob} {D : List (Nat × AT)} {L : Env} {h h' : ag} {R : Type}
omit [Zb]in
theorem mX {c:C} (h:scal c=true):fE c=true:=by cases c<;>first|rfl|cases h
omit [Zb]in
theorem ATR.upS {ρ0:Rho} {H0:List Ob} {v:AT} {av:AV} (h:ATR ρ0 H0 v av) (hf:v.scal=true):ATR ρ H v av:=by
 induction h with
 |one k=>exact .one (k.up (mX (by simpa [AT.scal]using hf)))
 | @agg cs vs k=>
  have hf:cs.all scal=true:=by simpa [AT.scal]using hf
  exact .agg ⟨k.1,λj h1 h2=>(k.2 j h1 h2).up (mX (aT.1 hf _ (gM h1)))⟩
 | @tup xs ys hl hr ih=>
  have hf:=ll (by simpa [AT.scal]using hf:AT.scal.scals xs=true);exact .tup hl (λj h1 h2=>ih j h1 h2 (hf _ (gM h1)))
omit [Zb]in
theorem vT {keep:List Nat} {Hc Hc' Hb:List Ob} (hp:HpR ρ H h) (hf:Fr F ρ H h) (hn:dX keep=true) (hk:jo keep H=some Hc) (hp':HpR ρ' Hc' h') (hf':Fr ⟨h,cZ ρ keep,Hc⟩ ρ' Hc' h')
  (hl:keep.length<=Hc'.length) (ho:obs (back keep H.length) Hc'=some Hb):
  HpR (ρ++ρ'.drop keep.length) (bm H keep Hb++Hb.drop keep.length) h'/\Ev ρ H (ρ++ρ'.drop keep.length) (bm H keep Hb++Hb.drop keep.length)/\Fr F (ρ++ρ'.drop keep.length) (bm H keep Hb++Hb.drop keep.length) h'/\
   oi (back keep H.length) ρ' Hc' (ρ++ρ'.drop keep.length) (bm H keep Hb++Hb.drop keep.length):=by
 obtain⟨_,_,hρ⟩:=iV hp hn hk;obtain⟨k1,k2⟩:=eX hk;obtain⟨b1,b2⟩:=kc ho;have hlen:=hp.len;have hlen':=hp'.len;have lo:∀{id:Nat},id<H.length->(bm H keep Hb++Hb.drop keep.length)[id]? =(bm H keep Hb)[id]? :=λhid=>aL (by rw[cJ];exact hid);have hi:∀(i:Nat),(bm H keep Hb++Hb.drop keep.length)[H.length+i]? =Hb[keep.length+i]? :=λi=>by
  rw[aR (by rw[cJ];omega),cJ,List.getElem?_drop]
  congr 1;omega
 have loρ:∀{id:Nat},id<H.length->(ρ++ρ'.drop keep.length)[id]? =ρ[id]? :=λhid=>aL (by omega);have hiρ:∀(i:Nat),(ρ++ρ'.drop keep.length)[H.length+i]? =ρ'[keep.length+i]? :=λi=>by
  rw[aR (by omega),hlen,List.getElem?_drop]
  congr 1;omega
 -- an object that was handed over
 have key:∀(j id:Nat),keep[j]? =some id->∃x0 y yb,H[id]? =some x0/\Hc'[j]? =some y/\y.mv (back keep H.length)=some yb/\(bm H keep Hb)[id]? =some (x0.bump yb)/\evo x0 (x0.bump yb)/\ρ'[j]? =ρ[id]? :=λj id hj=>by
  obtain⟨x0,y0,c1,c2,c3⟩:=k2 j id hj;obtain⟨y,d1,d2⟩:=hf'.ob j _ c3;obtain⟨yb,e1,e2⟩:=b2 j y d1;have hidl:id<ρ.length:=by rw[hlen];exact(gI.1 c1).1
  have hz:=gE hidl;refine⟨x0,y,yb,c1,d1,e2,pn keep H Hb hn hj e1 c1,zT ((((dR c2).2.2).trans (gH y0).2.2).trans (d2.trans (dR e2).2.2)),?_⟩;rw[hz];refine hf'.rho j _ ?_;show (cZ ρ keep)[j]? =_;rw[hρ j id hj,hz]
 have hev:Ev ρ H (ρ++ρ'.drop keep.length) (bm H keep Hb++Hb.drop keep.length):=by
  refine⟨λid x hx=> ?_,λid x hx=> ?_⟩
  ·rw[loρ (by rw[<-hlen];exact(gI.1 hx).1)];exact hx
  ·rw[lo (gI.1 hx).1];by_cases hm:id∈keep
   ·obtain⟨j,hj⟩:=List.getElem?_of_mem hm;obtain⟨x0,y,yb,c1,_,_,c4,c5,_⟩:=key j id hj;rw[hx]at c1;cases c1;exact⟨_,c4,c5⟩
   ·rw[dD keep H Hb hm];exact⟨x,hx,evo.refl x⟩
 have hmv:oi (back keep H.length) ρ' Hc' (ρ++ρ'.drop keep.length) (bm H keep Hb++Hb.drop keep.length):=λid j hg=>by
  unfold back at hg;split at hg
  ·rename_i hlt;obtain⟨x0,y,yb,c1,c2,c3,c4,c5,c6⟩:=key id j hg;have hj:=(gI.1 c1).1;refine⟨λx hx=>by rw[loρ hj,<-c6];exact hx,λx hx=> ?_⟩;rw[c2]at hx;cases hx;obtain⟨s1,n,s2⟩:=nO x0 yb;obtain⟨t1,t2,_⟩:=dR c3;exact⟨_,n,by rw[lo hj];exact c4,λe=>s1 (t1 e),λT m xs e=>s2 T m xs (t2 T m xs e),λT xss ho e=>by rw[kq c3 T xss ho e];rfl⟩
  ·rename_i hge;have hge:keep.length<=id:=by simpa [Nat.blt_eq]using hge
   cases hg;have e:keep.length+(id-keep.length)=id:=by omega
   refine⟨λx hx=>by rw[hiρ,e];exact hx,λx hx=> ?_⟩;obtain⟨yb,e1,e2⟩:=b2 id x hx;obtain⟨t1,t2,_⟩:=dR e2;cases x with
   |row T m xs=>exact⟨yb,m,by rw[hi,e];exact e1,λe=>(by cases e),λT m xs e=>by cases e;exact t2 _ _ _ rfl,λT xss ho e=>by cases e⟩
   |gone=>exact⟨yb,0,by rw[hi,e];exact e1,t1,λT m xs e=>(by cases e),λT xss ho e=>by cases e⟩
   |box cs=>exact⟨yb,0,by rw[hi,e];exact e1,t1,λT m xs e=>(by cases e),λT xss ho e=>by cases e⟩
   |map T kvs=>exact⟨yb,0,by rw[hi,e];exact e1,t1,λT m xs e=>(by cases e),λT xss ho e=>by cases e⟩
   |rows T xss ho=>exact⟨yb,0,by rw[hi,e];exact e1,t1,λT m xs e=>(by cases e),kq e2⟩
 have lvdn:∀{id:Nat},id<H.length->live (bm H keep Hb++Hb.drop keep.length) id->live H id:=λhid l=>hev.lv hid l;have newρ:∀(id a:Nat),(ρ++ρ'.drop keep.length)[id]? =some (some a)->(id<H.length/\ρ[id]? =some (some a))\/∃i,id=H.length+i/\ρ'[keep.length+i]? =some (some a):=λid a ha=>by
  by_cases hid:id<H.length
  ·rw[loρ hid]at ha;exact .inl ⟨hid,ha⟩
  ·obtain⟨i,rfl⟩:∃i,id=H.length+i:=⟨id-H.length,by omega⟩;rw[hiρ]at ha;exact .inr ⟨i,rfl,ha⟩
 have lvhi:∀{i:Nat},live (bm H keep Hb++Hb.drop keep.length) (H.length+i)->live Hc' (keep.length+i):=λ{i} ⟨z,z1,z2⟩=>by
  rw[hi]at z1;have hlt:=(gI.1 z1).1;rw[b1]at hlt;have e:=gE hlt;obtain⟨yb,e1,e2⟩:=b2 _ _ e;rw[e1]at z1;cases z1;exact⟨_,e,by rw[<-eE e2];exact z2⟩
 -- a place that was handed over
 have cameρ:∀(j a:Nat),(cZ ρ keep)[j]? =some (some a)->∃id,keep[j]? =some id/\ρ[id]? =some (some a):=λj a hj=>by
  have hlt:=(gI.1 hj).1;simp[cZ]at hlt;have e:=gE hlt;rw[hρ j _ e]at hj;exact⟨_,e,hj⟩
 have hsame:∀(a:Nat),a<h.length->(∀(id:Nat),ρ[id]? =some (some a)->live H id->id∉keep)->h'[a]? =h[a]? :=λa ha hid=>hf'.same a ha λj hj hlj=>by
  obtain⟨id,e,hj⟩:=cameρ j a hj;exact hid _ hj (jd hk e hlj) (mG e)
 have clash:∀(i p a:Nat),i<H.length->ρ[i]? =some (some a)->live (bm H keep Hb++Hb.drop keep.length) i->ρ'[keep.length+p]? =some (some a)->live Hc' (keep.length+p)->False:=λi p a hi1 hi2 hl1 hp1 hp2=>by
  obtain⟨j0,q1,q2⟩:=hf'.old _ a hp1 hp2 (hp.lt _ _ hi2);obtain⟨id0,e,q3⟩:=cameρ j0 a q1;have hid0:=hp.inj _ _ _ q3 hi2 (jd hk e q2) (lvdn hi1 hl1);subst hid0;obtain⟨x0,y,yb,c1,c2,c3,c4,c5,c6⟩:=key j0 id0 e;have hl2:live Hc' j0:=by
   refine⟨y,c2,?_⟩;obtain⟨z,z1,z2⟩:=hl1;rw[lo hi1,c4]at z1;cases z1;rw[<-eE c3,<-pi x0 yb];exact z2
  have:=hp'.inj _ _ _ (c6.trans hi2) hp1 hl2 hp2;have hj0:=(gI.1 e).1;omega
 refine⟨HpR.mk' ?_ (λid x hx=> ?_) (λi j a h1 h2 l1 l2=> ?_) (λi a h1=> ?_),hev,hf.step hev hf'.len (λid a ha hl=> ?_) (λa ha hid=>hsame a ha λid hid' hl=>absurd hl (hid id hid')),hmv⟩
 ·simp[cJ];omega
 ·by_cases hid:id<H.length
  ·rw [lo hid] at hx;rw[loρ hid];by_cases hm:id∈keep
   ·obtain⟨j,hj⟩:=List.getElem?_of_mem hm;obtain⟨x0,y,yb,c1,c2,c3,c4,c5,c6⟩:=key j id hj;rw[c4]at hx;cases hx;rcases hp'.ob c2 with⟨a,z,m1,m2,m3⟩|⟨m1,T,n,rfl,m3⟩|hd
    ·exact .inl ⟨a,z,by rw[<-c6];exact m1,m2,C9 _ (rQ hmv m3 c3)⟩
    ·cases c3;obtain⟨_,n',s2⟩:=nO x0 (.row T n []);exact .inr (.inl ⟨by rw[<-c6];exact m1,T,n',s2 _ _ _ rfl,m3⟩)
    ·exact .inr (.inr (by rw[pi,eE c3];exact hd))
   ·rw[dD         keep H Hb hm]at hx;by_cases hg0:x.dead=true
    ·exact .inr (.inr hg0)
    have hg0:x.dead=false:=by simpa using hg0
    rcases hp.ob hx with⟨a,z,m1,m2,m3⟩|m1|m1
    ·refine .inl ⟨a,z,m1,?_,m3.mono hev⟩;rw[hsame a (hp.lt _ _ m1) (λid' h' hl'=>by rw[hp.inj _ _ _ h' m1 hl' ⟨_,hx,hg0⟩];exact hm)];exact m2
    ·exact .inr (.inl m1)
    ·exact .inr (.inr m1)
  ·obtain⟨i,rfl⟩:∃i,id=H.length+i:=⟨id-H.length,by omega⟩;rw[hi]at hx;rw[hiρ];have hlt:=(gI.1 hx).1;rw[b1]at hlt;have e:=gE hlt;obtain⟨yb,e1,e2⟩:=b2 _ _ e;rw[e1]at hx;cases hx;rcases hp'.ob e with⟨a,z,m1,m2,m3⟩|⟨m1,T,n,m2,m3⟩|m1
   ·exact .inl ⟨a,z,m1,m2,rQ hmv m3 e2⟩
   ·rw[m2]at e2;cases e2;exact .inr (.inl ⟨m1,T,n,rfl,m3⟩)
   ·exact .inr (.inr (by rw[eE e2];exact m1))
 ·rcases newρ i a h1 with⟨i1,i2⟩|⟨p,rfl,i2⟩<;>rcases newρ j a h2 with⟨j1,j2⟩|⟨q,rfl,j2⟩
  ·exact hp.inj _ _ _ i2 j2 (lvdn i1 l1) (lvdn j1 l2)
  ·exact(clash i q a i1 i2 l1 j2 (lvhi l2)).elim
  ·exact(clash j p a j1 j2 l2 i2 (lvhi l1)).elim
  ·have:=hp'.inj _ _ _ i2 j2 (lvhi l1) (lvhi l2);omega
 ·rcases newρ i a h1 with⟨i1,i2⟩|⟨p,rfl,i2⟩
  ·have:=hp.lt _ _ i2;have:=hf'.len;simp only at this;omega
  ·exact hp'.lt _ _ i2
 ·rcases newρ id a ha with⟨i1,i2⟩|⟨p,rfl,i2⟩
  ·exact .inl ⟨id,i2,lvdn i1 hl⟩
  ·by_cases hlt:a<h.length
   ·obtain⟨j0,q1,q2⟩:=hf'.old _ a i2 (lvhi hl) hlt;obtain⟨id0,e,q3⟩:=cameρ j0 a q1;exact .inl ⟨id0,q3,jd hk e q2⟩
   ·exact .inr (by omega)
section
variable {d f : Nat} {x : Operand} {args : List Operand} {tys : Array TypeId} {ty : TypeId} {pos : String} {af : Array Edge} {gd : Option (Nat × Bool)} {caps : List C} {xs ys : List AT} {v : AT} {H' : List Ob}
omit [Zb]in
theorem wN {tb:Nat->Option TI} (htb:TBOK P tb) {t:Nat} {x:AT} {av:AV} (h:ATR ρ H x av):ATR ρ H (ut tb t x) av:=by
 unfold ut;split
 ·split
  ·rename_i T hT;obtain⟨ti,h1,h2⟩:=Option.bind_eq_some_iff.1 hT;obtain⟨i,G⟩:=htb.get h1;obtain⟨el,z',g0,g1,g2,g3,g4,_⟩:=G.elem T h2;cases h with
   | one k =>
    have:∀v,CR ρ H .zs v->v= .lit (.slice none 0 0):=λv k=>by cases k with|fl h=>cases h|zs=>rfl
    rw[this _ k];exact .one (.nil g4)
  ·exact h
 ·exact h
omit [Zb]in
theorem mO {tb:Nat->Option TI} (htb:TBOK P tb):∀{ts:List Nat} {xs:List AT} {avs:List AV},ATRs ρ H xs avs->ATRs ρ H (bV tb ts xs) avs
 |[],xs,avs,h=>by unfold bV;exact h
 |t::ts,[],avs,h=>by unfold bV;exact h
 | t :: ts, x :: xs, avs, h => by
  obtain⟨av,bvs,rfl,h1,h2⟩:=h.head;unfold bV;exact .cons (wN htb h1) (mO htb h2)
omit [Zb]in
theorem nH {tb:Nat->Option TI} (htb:TBOK P tb) (hx:ev D x=some (.one (.f f caps))) (hxs:evs D args=some xs) (hs:EncL ρ H D L):∃vs avs,Abs.ev L x=some (.one (.clo (.func f) vs))/\Abs.evs L args=some avs/\ATRs ρ H (bV tb tys.toList xs++caps.map .one) (avs++vs.map .one):=by
 obtain⟨av,h1,h2⟩:=ap hs hx;obtain⟨u,rfl,h3⟩:=h2.one';obtain⟨vs,rfl,h4⟩:=h3.clo;obtain⟨avs,h5,h6⟩:=uE hs hxs;exact⟨vs,avs,h1,h5,ATRs.app (mO htb h6) h4.ats⟩
theorem sU {tb:Nat->Option TI} (htb:TBOK P tb) (hn:d<E.n) (hx:ev D x=some (.one (.f f caps))) (hxs:evs D args=some xs) (hy:cn H (bV tb tys.toList xs++caps.map .one)=some ys) (hsc:v.scal=true) (h2:CFn P f ys [] v H'):cq P ⟨some d,.call ⟨.value x,args.toArray,tys⟩,ty,pos,af,gd⟩ E F D H v H:=λρ L h hs hp hf=>by
 obtain⟨vs,avs,e1,e2,e3⟩:=nH (tys:=tys) htb hx hxs hs;obtain⟨bvs,k1,k2,k3,k4,k5⟩:=oB (E:=E) (L:=L) hp hy e3.1 e3.2;refine Abs.ur e1 e2 hn (h2 [] [] bvs HpR.nil_ ⟨k1,k2⟩) (λr h' ⟨ρ',m1,_⟩=>CQ m1 hsc) (λι I a w r cs hcs=>⟨by rw[hcs.1,k4],λj hj=> ?_⟩) (λr h' ⟨ρ',m1,_⟩=>⟨ρ,r,rfl,m1.upS hsc,hp,Ev.refl _ _,hf⟩);obtain⟨c,c1,c2⟩:=hcs.2 j (by rw[k4];exact hj);exact⟨c,c1,k5 j _ hj ι I a w r c c2⟩
theorem sF {tb:Nat->Option TI} (htb:TBOK P tb) (hn:d<E.n) (hx:ev D x=some (.one (.f f caps))) (hxs:evs D args=some xs) (hy:cn [] (bV tb tys.toList xs++caps.map .one)=some ys) (hfl:v.flat=true) (h2:CFn P f ys [] v H'):cq P ⟨some d,.call ⟨.value x,args.toArray,tys⟩,ty,pos,af,gd⟩ E F D H v H:=λρ L h hs hp hf=>by
 obtain⟨vs,avs,e1,e2,e3⟩:=nH (tys:=tys) htb hx hxs hs;obtain⟨bvs,k1,k2,k3⟩:=gU hy e3;refine Abs.mH e1 e2 hn (h2 [] h bvs HpR.nil_ k1) (λι I w cs hcs=>k3.ars hcs) (λr h' ⟨ρ',m1,m2,m3⟩=> ?_);have hsame:∀a,a<h.length->h'[a]? =h[a]? :=λa ha=>m3.same a ha (λid=>by simp);exact⟨ρ,r,rfl,m1.up hfl,hp.ext m3.len hsame,Ev.refl _ _,hf.ext m3.len hsame⟩
end
theorem Gg {id s:Nat} {es:List (List V)} {ι:List Abs.Inf} {I I':Nat->Prop} {w:World} (hk:Abs.Keeps I I' w w) (hv:∀(c:C) (v:V) (u:Value),CR ρ H c v->Abs.VR I w ι v u->Abs.VR I' w ι (trV id s es c v) u) {x:AT} {av:AV} {u:Value} (hx:ATR ρ H x av) (ha:Abs.AR ι I w av u):Abs.AR ι I' w (trA id s es x av) u:=by
 cases hx with
 |one hc=>cases ha with|one k2=>exact .one (hv _ _ _ hc k2)
 | @agg cs vs hc =>
  cases ha with
  | agg hl hcs hr =>
   have hlen:=hc.1;refine .agg (by simp[hl,hlen]) (λj hj=>hcs j (by simp at hj;omega)) (λj hj=> ?_);simp only[List.getElem_zipWith];exact hv _ _ _ (hc.2 j (by simp at hj;omega) (by simp at hj;omega)) (hr j (by simp at hj;omega))
 |tup hl hh=>exact ha.keep (Abs.Grows.refl _) hk
theorem FH {id n:Nat} {T:Ty} {ys:List (I T)} {xs:List AT} {avs:List AV} (hr:H[id]? =some (.row T n ys)) (hp:HpR ρ H h) (hf:Fr F ρ H h) (ha:ATRs ρ H xs avs):
  ∃ h1 bvs, HpR ρ (H.set id .gone) h1 ∧ Fr F ρ (H.set id .gone) h1 ∧ ATRs ρ (H.set id .gone) (xs.map (AT.fz id T ys)) bvs ∧
   ∀(E:Abs.Cx) (L:Env) (ι:List Abs.Inf) (I:Nat->Prop) (a:Act) (w:World),Abs.Rel E L h ι I a w->∃I1,Abs.Rel E L h1 ι I1 a w/\∀cs,Abs.ARs ι I w avs cs->Abs.ARs ι I1 w bvs cs:=by
 have key:∀(es:List (List V)),FR (.l T ys) (.imm (szT T) es)->ATRs ρ (H.set id .gone) (xs.map (AT.fz id T ys)) (List.zipWith (trA id (szT T) es) xs avs):=λes hx=>
  ⟨by simp [ha.1], fun j h1 h2 => by
   simp only[List.getElem_map,List.getElem_zipWith];exact za hr hx (ha.2 j (by simpa using h1) (by simp at h1;have:=ha.1;omega))⟩
 have key2:∀(es:List (List V)) (ι:List Abs.Inf) (I I1:Nat->Prop) (w:World),Abs.Keeps I I1 w w->(∀(c:C) (v:V) (u:Value),CR ρ H c v->Abs.VR I w ι v u->Abs.VR I1 w ι (trV id (szT T) es c v) u)->∀cs,Abs.ARs ι I w avs cs->Abs.ARs ι I1 w (List.zipWith (trA id (szT T) es) xs avs) cs:=λes ι I I1 w hk hv cs hc=>
  ⟨by simp [hc.1, ha.1], fun j hj => by
   have hj1:j<xs.length:=by simp at hj;omega
   have hj2:j<avs.length:=by simp at hj;omega
   obtain⟨c,c1,c2⟩:=hc.2 j hj2;refine⟨c,c1,?_⟩;simp only[List.getElem_zipWith];exact Gg hk hv (ha.2 j hj1 hj2) c2⟩
 have other:∀{es:List (List V)} {c:C} {v:V},c≠.o id->trV id (szT T) es c v=v:=λ{es c v} e=>by
  unfold trV;split
  ·rename_i j;rw[if_neg (λhb=>e (by rw[hb]))]
  ·rfl
 rcases hp.row id n T ys hr with⟨a,es,h1,h2,h3⟩|⟨h1,rfl,h3⟩
 ·refine⟨h.set a none,_,hp.set h1 hr (by simp) (evo.goes _) trivial,hf.set h1 hr (by simp) (evo.goes _),key es h3,λE L ι I act w r=> ?_⟩;obtain⟨inf,hι,_,_⟩:=r.row h2;have hk:Abs.Keeps I (λb=>I b\/b=inf.block) w w:=⟨λ_ h=>.inl h,λ_ _=>rfl⟩;refine⟨_,r.freeze h2 hι,key2 es ι I _ w hk λc v u hc hv=> ?_⟩;by_cases e:c= .o id
  ·subst e;simp only[trV,if_true];rcases hc.own hr with⟨a',rfl,h4⟩|⟨rfl,h4⟩
   ·rw[h1]at h4;cases h4;have hl:=h3.frl.len;have:=Abs.VR.fz r h2 hι h3.flats hv (Abs.kf (by simp[Abs.V.fits,hl]));simpa [Abs.V.fz,<-hl]using this
   ·rw[h1]at h4;cases h4
  ·rw[other e];exact hv.keep (Abs.Grows.refl _) hk
 ·refine⟨h,_,hp.gone hr,hf.gone hr,key [] (.nil_ h3),λE L ι I act w r=>⟨I,r,key2 [] ι I I w (Abs.Keeps.refl _ _) λc v u hc hv=> ?_⟩⟩;by_cases e:c= .o id
  ·subst e;simp only[trV,if_true];rcases hc.own hr with⟨a',rfl,h4⟩|⟨rfl,h4⟩
   ·rw[h1]at h4;cases h4
   ·cases hv;exact .imm0 (Nat.zero_le _)
  ·rw[other e];exact hv
theorem kP :∀{ids:List Nat} {H:List Ob} {h:ag} {xs:List AT} {avs:List AV},HpR ρ H h->Fr F ρ H h->ATRs ρ H xs avs->
  ∃ h1 bvs, HpR ρ (dh ids xs H).2 h1 ∧ Fr F ρ (dh ids xs H).2 h1 ∧ Ev ρ H ρ (dh ids xs H).2 ∧ ATRs ρ (dh ids xs H).2 (dh ids xs H).1 bvs ∧
   ∀(E:Abs.Cx) (L:Env) (ι:List Abs.Inf) (I:Nat->Prop) (a:Act) (w:World),Abs.Rel E L h ι I a w->∃I1,Abs.Rel E L h1 ι I1 a w/\∀cs,Abs.ARs ι I w avs cs->Abs.ARs ι I1 w bvs cs
 |[],H,h,xs,avs,hp,hf,ha=>⟨h,avs,hp,hf,Ev.refl _ _,ha,λE L ι I a w r=>⟨I,r,λ_ k=>k⟩⟩
 | id :: ids, H, h, xs, avs, hp, hf, ha => by
  unfold dh;split
  ·rename_i T n ys hr;obtain⟨h1,bvs,a1,a2,a3,a4⟩:=FH hr hp hf ha;obtain⟨h2,cvs,b1,b2,b3,b4,b5⟩:=kP (ids:=ids) a1 a2 a3;refine⟨h2,cvs,b1,b2,(Ev.set hr (evo.goes _)).trans b3,b4,λE L ι I a w r=> ?_⟩;obtain⟨I1,r1,k1⟩:=a4 E L ι I a w r;obtain⟨I2,r2,k2⟩:=b5 E L ι I1 a w r1;exact⟨I2,r2,λcs hc=>k2 cs (k1 cs hc)⟩
  ·exact kP hp hf ha
section
variable {d f : Nat} {x : Operand} {args : List Operand} {tys : Array TypeId} {ty : TypeId} {pos : String} {af : Array Edge} {gd : Option (Nat × Bool)} {caps : List C} {xs ys : List AT} {v : AT} {H' : List Ob}
theorem yW {tb:Nat->Option TI} (htb:TBOK P tb) {ids:List Nat} (hn:d<E.n) (hx:ev D x=some (.one (.f f caps))) (hxs:evs D args=some xs) (hy:cn [] (dh ids (bV tb tys.toList xs++caps.map .one) H).1=some ys) (hfl:v.flat=true) (h2:CFn P f ys [] v H'):cq P ⟨some d,.call ⟨.value x,args.toArray,tys⟩,ty,pos,af,gd⟩ E F D H v (dh ids (bV tb tys.toList xs++caps.map .one) H).2:=λρ L h hs hp hf=>by
 obtain⟨vs,avs,e1,e2,e3⟩:=nH (tys:=tys) htb hx hxs hs;obtain⟨h1,bvs,a1,a2,a3,a4,a5⟩:=kP (ids:=ids) hp hf e3;obtain⟨cvs,k1,k2,k3⟩:=gU hy a4;refine Abs.AG (h1:=h1) e1 e2 hn (h2 [] h1 cvs HpR.nil_ k1) (λL ι I a w r=> ?_) (λr h' ⟨ρ',m1,m2,m3⟩=> ?_)
 ·obtain⟨I1,r1,q⟩:=a5 E L ι I a w r;exact⟨I1,r1,λcs hcs=>k3.ars (q cs hcs)⟩
 ·have hsame:∀a,a<h1.length->h'[a]? =h1[a]? :=λa ha=>m3.same a ha (λid=>by simp);exact⟨ρ,r,rfl,m1.up hfl,a1.ext m3.len hsame,a3,a2.ext m3.len hsame⟩
end
def Unt (ids:List Nat) (H H':List Ob):Prop:=∀(id:Nat) (x:Ob),H[id]? =some x->id∉ids->H'[id]? =some x
omit [Zb]in
theorem jM :∀{ids:List Nat} {xs:List AT} {H:List Ob},Unt ids H (dh ids xs H).2
 |[],xs,H=>λ_ _ h _=>h
 | id :: ids, xs, H => fun j z hz hn => by
  unfold dh;have hne:j≠id:=λe=>hn (by simp[e]);have hn':j∉ids:=λe=>hn (by simp[e]);split
  ·exact jM j z (by rw[sN (λe=>hne e.symm)];exact hz) hn'
  ·exact jM j z hz hn'
omit [Zb]in
theorem Unt.refl (ids:List Nat) (H:List Ob):Unt ids H H:=λ_ _ h _=>h
omit [Zb]in
theorem fU {O:Orc} {f:Nat}:∀{j:Nat} {xs ys:List AT} {H H':List Ob},gZ O f j xs H=some (ys,H')->∃t,H'=H++t
 |j,[],ys,H,H',hc=>by simp only[gZ]at hc;cases hc;exact⟨[],by simp⟩
 | j, x :: xs, ys, H, H', hc => by
  unfold gZ at hc;split at hc
  ·split at hc
   ·rename_i h2;cases hc;exact fU h2
   ·cases hc
  ·split at hc
   ·split at hc
    ·rename_i h2;cases hc;obtain⟨t,rfl⟩:=fU h2;exact⟨_,List.append_assoc _ _ _⟩
    ·cases hc
   ·split at hc
    ·rename_i h2;cases hc;exact fU h2
    ·cases hc
theorem Ad       {tb : Nat → Option TI} (htb : TBOK P tb) {O : Orc} (hO : dc    P O) {o : Oper} {d : Nat} (hd : o.dst = some d) (hn : d < E.n) {K : AT → List Ob → Option R} {r : R} (hc : qW    tb O o D H K = some r) : ∃ v H', K v H' = some r ∧ (∀ F : In, cq   P o E F D H v H') ∧ Unt (cj    tb O o D H) H H' := by
 obtain⟨dst,op,ty,pos,af,gd⟩:=o;simp only at hd;subst hd;unfold qW at hc;simp only at hc;split at hc
 ·rename_i x args tys;split at hc
  ·rename_i f caps xs hx hxs;obtain⟨args,rfl⟩:∃l:List Operand,args=l.toArray:=⟨args.toList,by simp⟩;simp only at hxs;unfold yp    at hc;split at hc
   ·split at hc
    ·rename_i ys hy;obtain⟨v,H',h1,h2⟩:=(hO _ _ _ _ _ _ hc).1 (by rw[‹O.mode f=0›];rfl);split at h1
     ·rename_i hsc;exact⟨v,H,h1,λ_=>sU htb hn hx hxs hy hsc h2,.refl _ _⟩
     ·cases h1
    ·cases hc
   ·rename_i hmode;split at hc
    ·rename_i ys hy;obtain⟨v,H',h1,h2⟩:=(hO _ _ _ _ _ _ hc).1 (by rw[‹O.mode f=1›];rfl);split at h1
     ·rename_i hfl;exact⟨v,H,h1,λ_=>sF htb hn hx hxs hy hfl h2,.refl _ _⟩
     ·cases h1
    ·split at hc
     ·cases hc
     ·rename_i id ids hids;simp only at hc;split at hc
      ·rename_i ys hy;obtain⟨v,H',h1,h2⟩:=(hO _ _ _ _ _ _ hc).1 (by rw[‹O.mode f=1›];rfl);split at h1
       ·rename_i hfl;refine⟨v,_,h1,λ_=>yW       htb hn hx hxs hy hfl h2,?_⟩;have e:cj    tb O ⟨some d,.call ⟨.value x,args.toArray,tys⟩,ty,pos,af,gd⟩ D H=id::ids:=by
         simp only[cj,hx,hxs,hmode,hids]
        rw[e];exact jM
       ·cases h1
      ·cases hc
   ·rename_i hmode;split at hc
    ·rename_i ys H1 hcv;simp only at hc;split at hc
     ·rename_i Hc zs hnd hpk hmv;obtain⟨v,Hc',h1,h2⟩:=(hO _ _ _ _ _ _ hc).1 (by rw[‹O.mode f=2›];rfl);split at h1
      ·rename_i Hb u hb1 hb2 hb3;refine⟨u,_,h1,λF ρ L h hs hp hf=> ?_,λid x hx0 hni=> ?_⟩
       case refine_2=>
        simp only[cj,hx,hxs,hmode,hcv]at hni;obtain⟨t,rfl⟩:=fU hcv;have hlt:=(gI.1 hx0).1;rw[aL (by rw[cJ];simp;omega),dD _ _ _ hni,aL hlt];exact hx0
       obtain⟨vs,avs,e1,e2,e3⟩:=nH (tys:=tys) htb hx hxs hs;obtain⟨ρ1,bvs,m1,m2,m3⟩:=iz hcv hp hf e3;obtain⟨c1,c2,c3⟩:=iV m1.heap hnd hpk;obtain⟨d1,d2⟩:=ib hmv;refine Abs.mH e1 e2 hn (h2 _ h bvs c1 ⟨by rw[d1];exact m2.1,λj j1 j2=>lr c2 (m2.2 j (by omega) j2) (d2 j (by omega) j1)⟩) (λι I w cs hcs=>m3.ars hcs) (λr h' ⟨ρ',n1,n2,n3⟩=> ?_);obtain⟨p1,p2,p3,p4⟩:=vT m1.heap m1.fr hnd hpk n2 n3 (Nat.le_of_ble_eq_true hb1) hb2;exact⟨_,r,rfl,lr p4 n1 hb3,p1,m1.ev.trans p2,p3⟩
      ·cases h1
     ·cases hc
    ·cases hc
   ·cases hc
  ·cases hc
 ·cases hc
def Le (Hm H:List Ob):Prop:=∀(id:Nat) (x:Ob),Hm[id]? =some x->x≠.gone->H[id]? =some x
omit [Zb]in
theorem Le.refl (H:List Ob):Le H H:=λ_ _ h _=>h
omit [Zb]in
theorem Le.nil_ (H:List Ob):Le [] H:=λ_ _ h _=>by simp at h
omit [Zb]in
theorem Le.unt {Hm H H':List Ob} {ids:List Nat} (h:Le Hm H) (u:Unt ids H H') (hs:ids.all (uG Hm)=true):Le Hm H':=λid x hx hg=>by
 refine u id x (h id x hx hg) λhm=> ?_;have:=aT.1 hs id hm;unfold uG at this;rw[hx]at this;cases x<;>first|exact hg rfl|cases this
omit [Zb]in
theorem Le.trans {A B H:List Ob} (h:Le A B) (k:Le B H):Le A H:=λid x hx hg=>k id x (h id x hx hg) hg
omit [Zb]in
theorem rT (ids:List Nat) (H:List Ob):Le (qP ids H) H:=λid x hx hg=>by
 unfold qP at hx;rw[List.getElem?_mapIdx]at hx;obtain⟨o,h1,h2⟩:=Option.map_eq_some_iff.1 hx;split at h2
 ·exact absurd h2.symm hg
 ·rw[h1,h2]
omit [Zb]in
theorem Le.hide {Hd H H':List Ob} {ids:List Nat} (h:Le Hd H) (u:Unt ids H H'):Le (qP ids Hd) H':=λid x hx hg=>by
 refine u id x (h id x (rT ids Hd id x hx hg) hg) λhm=>hg ?_;unfold qP at hx;rw[List.getElem?_mapIdx]at hx;obtain⟨o,_,h2⟩:=Option.map_eq_some_iff.1 hx;rw[if_pos (by simpa using hm)]at h2;exact h2.symm
omit [Zb]in
theorem qU (vis:List Nat) (H:List Ob):Le (db vis H) H:=λid x hx hg=>by
 unfold db at hx;rw[List.getElem?_mapIdx]at hx;obtain⟨o,h1,h2⟩:=Option.map_eq_some_iff.1 hx;split at h2
 ·rw[h1,h2]
 ·exact absurd h2.symm hg
omit [Zb]in
theorem oJ {Hm H:List Ob} (hl:Le Hm H) {c c':C} (h:kN Hm c=some c'):kN H c=some c':=by
 unfold kN at h ⊢;split at h
 case h_3=>
  split at h
  ·rename_i hx;rw[hl _ _ hx (by simp)];exact h
  ·cases h
 all_goals exact h
omit [Zb]in
theorem nY {Hm H:List Ob} (hl:Le Hm H):∀{cs ds:List C},cU Hm cs=some ds->cU H cs=some ds
 |[],ds,h=>h
 | c :: cs, ds, h => by
  simp only[cU]at h ⊢;split at h
  ·rename_i x xs h1 h2;rw[oJ hl h1,nY hl h2];exact h
  ·cases h
omit [Zb]in
theorem uu {Hm H:List Ob} (hl:Le Hm H) {x y:AT} (h:fj Hm x=some y):fj H x=some y:=by
 cases x with
 | one c =>
  simp only[fj,Option.map_eq_some_iff]at h ⊢;obtain⟨c',h1,rfl⟩:=h;exact⟨c',oJ hl h1,rfl⟩
 | agg cs =>
  simp only[fj,Option.map_eq_some_iff]at h ⊢;obtain⟨c',h1,rfl⟩:=h;exact⟨c',nY hl h1,rfl⟩
 |tup _=>cases h
omit [Zb]in
theorem lL {Hm H:List Ob} (hl:Le Hm H):∀{xs ys:List AT},cn Hm xs=some ys->cn H xs=some ys
 |[],ys,h=>h
 | x :: xs, ys, h => by
  simp only[cn]at h ⊢;split at h
  ·rename_i y ys h1 h2;rw[uu hl h1,lL hl h2];exact h
  ·cases h
theorem yY {tb:Nat->Option TI} (htb:TBOK P tb) {O:Orc} (hO:dc P O) {o:Oper} {d:Nat} (hd:o.dst=some d) (hn:d<E.n) (hk:n8 tb O o D=true) {K:AT->List Ob->Option R} {r:R} (hc:qW tb O o D H K=some r):∃v,K v H=some r/\∀H',Le H H'->cq P o E F D H' v H':=by
 obtain⟨dst,op,ty,pos,af,gd⟩:=o;simp only at hd;subst hd;unfold qW at hc;simp only at hc;split at hc
 ·rename_i x args tys;split at hc
  ·rename_i f caps xs hx hxs;obtain⟨args,rfl⟩:∃l:List Operand,args=l.toArray:=⟨args.toList,by simp⟩;simp only at hxs;simp only[n8   ,hx,hxs]at hk;unfold yp    at hc;split at hc
   ·split at hc
    ·rename_i ys hy;obtain⟨v,H',h1,h2⟩:=(hO _ _ _ _ _ _ hc).1 (by rw[‹O.mode f=0›];rfl);split at h1
     ·rename_i hsc;exact⟨v,h1,λH2 hl=>sU htb hn hx hxs (lL hl hy) hsc h2⟩
     ·cases h1
    ·cases hc
   ·rename_i hmode;split at hc
    ·rename_i ys hy;obtain⟨v,H',h1,h2⟩:=(hO _ _ _ _ _ _ hc).1 (by rw[‹O.mode f=1›];rfl);split at h1
     ·rename_i hfl;exact⟨v,h1,λH2 _=>sF htb hn hx hxs hy hfl h2⟩
     ·cases h1
    ·simp only[hmode]at hk;split at hc
     ·cases hc
     ·rename_i id ids hids;rw[hids]at hk;cases hk
   ·rename_i hm;rw[hm]at hk;cases hk
   ·cases hc
  ·cases hc
 ·cases hc
end
end
end Go.Proofs.YtfdkldmkbibknaaGreat.Den

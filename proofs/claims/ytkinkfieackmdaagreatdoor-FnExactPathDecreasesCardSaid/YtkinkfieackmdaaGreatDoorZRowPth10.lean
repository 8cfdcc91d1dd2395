/-
  Texts that the claim rests on, merged: DenE3, DenX, DenO, DenS, DenM, DenM2, DenK, DenK2.
-/
import Derived.Test.YtkinkfieackmdaaGreatDoorZRowPth9

namespace Go.Proofs.YtkinkfieackmdaaGreatDoor.Den
open Go.RowKit
open Abs (V AV Env ag ar)
section
variable {P : Program} {E : Abs.Cx} {F : In} {ρ : Rho} {H : List Ob} {D : List (Nat × AT)} {L : Env} {h : ag} {d : Nat} {ty : TypeId} {pos : String} {af : Array Edge} {gd : Option (Nat × Bool)} {tb : Nat → Option TI}
theorem evo.goes (x:Ob):evo x .gone:=.inl rfl
theorem HpR.gone (hp:HpR ρ H h) {id:Nat} {x0:Ob} (h0:H[id]? =some x0):HpR ρ (H.set id .gone) h:=by
 have hev:Ev ρ H ρ (H.set id .gone):=Ev.set h0 (evo.goes _);refine HpR.mk' (by simp[hp.len]) (λj z hz=> ?_) (λi j a k1 k2 l1 l2=>hp.inj i j a k1 k2 (hev.lv (by simpa using l1.lt) l1) (hev.lv (by simpa using l2.lt) l2)) hp.lt;rcases eZ hz with⟨rfl,rfl,_⟩|⟨_,h1⟩
 ·exact .inr (.inr rfl)
 ·rcases hp.ob h1 with⟨b,y',k1,k2,k3⟩|k1|k1
  ·exact .inl ⟨b,y',k1,k2,k3.mono hev⟩
  ·exact .inr (.inl k1)
  ·exact .inr (.inr k1)
theorem Fr.gone (hf:Fr F ρ H h) {id:Nat} {x0:Ob} (h0:H[id]? =some x0):Fr F ρ (H.set id .gone) h:=
 hf.step (Ev.set h0 (evo.goes _)) (Nat.le_refl _) (λid _ h1 l=>.inl ⟨id,h1,(Ev.set (ρ:=ρ) h0 (evo.goes _)).lv (by simpa using l.lt) l⟩) (λ_ _ _=>rfl)
theorem lH {T:Ty} (hT:0<szT T) (hp:HpR ρ H h) {xs:List (I T)} {es:List (List V)} (hx:FRl T xs es):
  ATR (ρ++[some h.length]) (H++[.row T 0 xs]) (.one (.o H.length)) (.one (.own h.length 0 es.length))/\HpR (ρ++[some h.length]) (H++[.row T 0 xs]) (h++[some (.row (szT T) es)]):=by
 refine⟨.one ?_,hp.push ⟨es,rfl,hx.fr hT⟩⟩;have:=CR.o (ρ:=ρ++[some h.length]) (H:=H++[.row T 0 xs]) (id:=H.length) (a:=h.length) (n:=0) (T:=T) (xs:=xs) (by rw[<-hp.len];simp) (by simp);rw[hx.len];exact this
theorem pF {T:Ty} (hT:0<szT T) (hp:HpR ρ H h):
  ATR (ρ++[none]) (H++[.row T 0 []]) (.one (.o H.length)) (.one (.lit (.slice none 0 0)))/\HpR (ρ++[none]) (H++[.row T 0 []]) h:=
 ⟨.one (.oN (n:=0) (T:=T) (xs:=[]) (by rw[<-hp.len];simp) (by simp)),hp.nilRow hT⟩
def As (P:Program) (E:Abs.Cx) (D:List (Nat×AT)) (H:List Ob) (T:Ty) (tx:Nat) (y:Operand) (ys:List (I T)):Prop:=∀ρ L h,EncL ρ H D L->HpR ρ H h->∃ns,FRl T ys ns/\Abs.lf P E L h (szT T) tx y ns
theorem iY (htb:TBOK P tb) {tx:Nat} {ui:TI} {T U:Ty} {y:Operand} {cy:C} {ys:List (I T)} (hu:tb tx=some ui) (hue:ui.elem=some U) (hy:ev D y=some (.one cy)) (hys:fU H T cy=some ys):As P E D H T tx y ys:=λρ L h hs hh=>by
 obtain⟨j,G'⟩:=htb.get hu;obtain⟨el',z'',k0,k1,_⟩:=G'.elem U hue;obtain⟨av,c1,c2⟩:=aF hs hy;obtain⟨v,rfl,c3⟩:=c2.one';obtain⟨ns,n1,n2⟩:=tp hh c3 hys;exact⟨ns,n2,Abs.qU G'.tb k1 c1 n1⟩
theorem oC :∀l:List UInt8,FRl .u (l.map λb=>(b.toNat:Int)) (l.map λc=>[V.lit (.int .u8 c.toNat)])
 |[]=>.nil
 | c :: l => by
  refine .cons ⟨rfl,λj h1 h2=> ?_⟩ (oC l);have:j=0:=by simp at h2;omega
  subst this;exact .k
theorem qI (htb:TBOK P tb) {tx:Nat} {ui:TI} {y:Operand} {s:ByteArray} (hu:tb tx=some ui) (hs0:ui.str=true) (hy:ev D y=some (.one (.s s))):As P E D H .u tx y (ofS s):=λρ L h hs hh=>by
 obtain⟨j,G'⟩:=htb.get hu;obtain⟨av,c1,c2⟩:=aF hs hy;obtain⟨v,rfl,c3⟩:=c2.one';cases c3.str;exact⟨Abs.kH s,oC _,Abs.w8 G'.tb G'.look (G'.str hs0) c1⟩
theorem uE (htb:TBOK P tb) (hn:d<E.n) {t tx id n:Nat} {ti:TI} {T:Ty} {x y:Operand} {xs ys zs:List (I T)} (ht:tb t=some ti) (he:ti.elem=some T) (hx:ev D x=some (.one (.o id))) (hr:H[id]? =some (.row T n xs)) (hl:lim (xs++ys)=some zs) {ρ:Rho} {L:Env} {h:ag} (hs:EncL ρ H D L) (hh:HpR ρ H h) (hf:Fr F ρ H h) (hsrc:∃ns,FRl T ys ns/\Abs.lf P E L h (szT T) tx y ns):
  ar P ⟨some d,.call ⟨.builtin .append,#[x,y],#[t,tx]⟩,ty,pos,af,gd⟩ E (Post F H ρ (some d) L (.one (.o H.length)) ((H.set id .gone)++[.row T 0 zs])) L h:=by
 obtain⟨rfl,hlim⟩:=np hl;obtain⟨i,G⟩:=htb.get ht;obtain⟨el,z',g0,g1,g2,g3,g4,g5,g6,g7,g8⟩:=G.elem T he;obtain⟨av,a1,a2⟩:=aF hs hx;obtain⟨u,rfl,a3⟩:=a2.one';obtain⟨ns,n2,n1⟩:=hsrc;have hlen:(H.set id Ob.gone).length=H.length:=by simp
 have hne:el.zero≠[]:=by intro e;rw[e]at g5;simp at g5;omega
 simp only[List.length_append]at hlim;have hev:Ev ρ H ρ (H.set id .gone):=Ev.set hr (evo.goes _);rcases a3.own hr with⟨a,rfl,a4⟩|⟨rfl,a4⟩
 ·obtain⟨es,e1,e2⟩:=hh.at_ a4 hr;have e3:=e2.frl;have hp1:HpR ρ (H.set id .gone) (h.set a none):=hh.set a4 hr (by simp) (evo.goes _) trivial;have hf1:Fr F ρ (H.set id .gone) (h.set a none):=hf.set a4 hr (by simp) (evo.goes _);obtain⟨m1,m2⟩:=lH g4 hp1 (e3.app n2);have hf2:=hf1.push hp1.len (.row T 0 (xs++ys)) (some (.row (szT T) (es++ns)));rw[hlen]at m1;rw[List.length_set]at m1 m2 hf2;refine Abs.tj G.tb a1 g1 hne g5 g3 e1 (by rw[Nat.zero_add,e3.len]) n1 (by rw[n2.len];omega) g7 hn ⟨ρ++[some h.length],_,rfl,?_,m2,hev.trans (Ev.push _ _),hf2⟩;rw[List.length_append,e3.len]at m1;exact m1
 ·obtain⟨rfl,_⟩:xs=[]/\True:=by
   rcases hh.row _ n _ _ hr with⟨a',es,h7,_⟩|⟨_,h7,_⟩
   ·rw[a4]at h7;cases h7
   ·exact⟨h7,trivial⟩
  have hp1:HpR ρ (H.set id .gone) h:=hh.gone hr;have hf1:Fr F ρ (H.set id .gone) h:=hf.gone hr;cases ns with
  | nil =>
   have:ys=[]:=by have:=n2.len;cases ys with|nil=>rfl|cons=>simp at this
   subst this;obtain⟨m1,m2⟩:=pF g4 hp1;rw[hlen]at m1;exact Abs.iM G.tb a1 g1 hne g5 g3 n1 hn ⟨ρ++[none],_,rfl,m1,m2,hev.trans (Ev.push _ _),hf1.nilRow hp1.len _⟩
  | cons n0 ns =>
   obtain⟨m1,m2⟩:=lH g4 hp1 n2;rw[hlen]at m1;exact Abs.iI G.tb a1 g1 hne g5 g3 n1 (by simp) (by rw[n2.len];omega) g7 hn ⟨ρ++[some h.length],_,rfl,m1,m2,hev.trans (Ev.push _ _),hf1.push hp1.len _ _⟩
theorem mL (htb:TBOK P tb) (hn:d<E.n) {t tx id n:Nat} {ti:TI} {T:Ty} {x y:Operand} {xs ys zs:List (I T)} (ht:tb t=some ti) (he:ti.elem=some T) (hx:ev D x=some (.one (.o id))) (hr:H[id]? =some (.row T n xs)) (hsrc:As P E D H T tx y ys) (hl:lim (xs++ys)=some zs):
  cB P ⟨some d,.call ⟨.builtin .append,#[x,y],#[t,tx]⟩,ty,pos,af,gd⟩ E F D H (.one (.o H.length)) ((H.set id .gone)++[.row T 0 zs]):=λρ L h hs hh hf=>
 uE htb hn ht he hx hr hl hs hh hf (hsrc ρ L h hs hh)
theorem xO (htb:TBOK P tb) (hn:d<E.n) {t tx id n:Nat} {ti ui:TI} {T U:Ty} {x y:Operand} {cy:C} {xs ys zs:List (I T)} (ht:tb t=some ti) (he:ti.elem=some T) (hu:tb tx=some ui) (hue:ui.elem=some U) (hx:ev D x=some (.one (.o id))) (hr:H[id]? =some (.row T n xs)) (hy:ev D y=some (.one cy)) (hys:fU H T cy=some ys) (hl:lim (xs++ys)=some zs):
  cB P ⟨some d,.call ⟨.builtin .append,#[x,y],#[t,tx]⟩,ty,pos,af,gd⟩ E F D H (.one (.o H.length)) ((H.set id .gone)++[.row T 0 zs]):=
 mL htb hn ht he hx hr (iY htb hu hue hy hys) hl
theorem iL (htb:TBOK P tb) (hn:d<E.n) {t tx:Nat} {ti:TI} {T T':Ty} {x y:Operand} {ys zs:List (I T)} (ht:tb t=some ti) (he:ti.elem=some T) (hx:ev D x=some (.one (.nil T'))) (hsrc:As P E D H T tx y ys) (hl:lim ys=some zs):
  cB P ⟨some d,.call ⟨.builtin .append,#[x,y],#[t,tx]⟩,ty,pos,af,gd⟩ E F D H (.one (.o H.length)) (H++[.row T 0 zs]):=λρ L h hs hh hf=>by
 obtain⟨rfl,hlim⟩:=np hl;obtain⟨i,G⟩:=htb.get ht;obtain⟨el,z',g0,g1,g2,g3,g4,g5,g6,g7,g8⟩:=G.elem T he;obtain⟨av,a1,a2⟩:=aF hs hx;obtain⟨u,rfl,a3⟩:=a2.one';have:u= .lit (.slice none 0 0):=by cases a3 with|fl h=>cases h|nil _=>rfl
 subst this;obtain⟨ns,n2,n1⟩:=hsrc ρ L h hs hh;have hne:el.zero≠[]:=by intro e;rw[e]at g5;simp at g5;omega
 cases ns with
 | nil =>
  have:zs=[]:=by have:=n2.len;cases zs with|nil=>rfl|cons=>simp at this
  subst this;obtain⟨m1,m2⟩:=pF g4 hh;exact Abs.iM G.tb a1 g1 hne g5 g3 n1 hn ⟨ρ++[none],_,rfl,m1,m2,Ev.push _ _,hf.nilRow hh.len _⟩
 | cons n0 ns =>
  obtain⟨m1,m2⟩:=lH g4 hh n2;exact Abs.iI G.tb a1 g1 hne g5 g3 n1 (by simp) (by rw[n2.len];omega) g7 hn ⟨ρ++[some h.length],_,rfl,m1,m2,Ev.push _ _,hf.push hh.len _ _⟩
theorem qp (htb:TBOK P tb) (hn:d<E.n) {t tx:Nat} {ti ui:TI} {T U T':Ty} {x y:Operand} {cy:C} {ys zs:List (I T)} (ht:tb t=some ti) (he:ti.elem=some T) (hu:tb tx=some ui) (hue:ui.elem=some U) (hx:ev D x=some (.one (.nil T'))) (hy:ev D y=some (.one cy)) (hys:fU H T cy=some ys) (hl:lim ys=some zs):
  cB P ⟨some d,.call ⟨.builtin .append,#[x,y],#[t,tx]⟩,ty,pos,af,gd⟩ E F D H (.one (.o H.length)) (H++[.row T 0 zs]):=
 iL htb hn ht he hx (iY htb hu hue hy hys) hl
theorem jF {ρ:Rho} {H:List Ob}:ATR ρ H (.tup []) (.tup []):=.tup rfl (λj h=>by simp at h)
theorem yp (htb:TBOK P tb) {t id off:Nat} {ti:TI} {x y:Operand} {v:AT} {cs vs:List C} (ht:tb t=some ti) (hx:ev D x=some (.one (.p id off))) (hb:H[id]? =some (.box cs)) (hy:ev D y=some v) (hv:cells v=some vs) (h1:ti.size=vs.length) (h2:off+vs.length<=cs.length):
  cB P ⟨none,.store t x y,ty,pos,af,gd⟩ E F D H (.tup []) (H.set id (.box (splice cs off vs))):=λρ L h hs hh hf=>by
 obtain⟨i,G⟩:=htb.get ht;obtain⟨av,a1,a2⟩:=aF hs hx;obtain⟨u,rfl,a3⟩:=a2.one';obtain⟨a,rfl,a4⟩:=a3.ptr;obtain⟨a',us,b1,b2,b3⟩:=hh.box id cs hb;rw[a4]at b1;cases b1;obtain⟨aw,c1,c2⟩:=aF hs hy;obtain⟨ws,c3,c4⟩:=gK hv c2;have he:evo (.box cs) (.box (splice cs off vs)):=.inr (.inr (.inl ⟨_,_,rfl,rfl⟩));have hev:Ev ρ H ρ (H.set id (.box (splice cs off vs))):=Ev.set hb he;have hsp:=CRs.splice b3 c4 off;have hlen:(Abs.splice us off ws).length=us.length:=Abs.mt (by rw[<-c4.1,<-b3.1];exact h2);refine Abs.qP G.tb a1 c1 c3 G.look (by rw[G.size,h1,c4.1]) b2 rfl (by rw[<-c4.1,<-b3.1];exact h2) ⟨ρ,.tup [],rfl,jF,?_,hev,?_⟩
 ·exact hh.set a4 hb (by simp) he ⟨_,by rw[hlen];rfl,hsp.mono hev⟩
 ·exact hf.set a4 hb (by simp) he
theorem Imp1.app {a b c e:List V} (h:Imp1 a b) (k:Imp1 c e):Imp1 (a++c) (b++e):=⟨by simp[h.1,k.1],λj h1 h2=>by
 by_cases hj:j<a.length
 ·rw[List.getElem_append_left hj,List.getElem_append_left (by rw[<-h.1];exact hj)];exact h.2 j hj (by rw[<-h.1];exact hj)
 ·rw[List.getElem_append_right (by omega),List.getElem_append_right (by rw[<-h.1];omega)];have:=k.2 (j-a.length) (by simp at h1;omega) (by simp at h2;have:=h.1;omega);have e:=h.1;simp only[e]at this ⊢;exact this⟩
theorem FRs.app {a b:List C} {x y:List V} (h:FRs a x) (k:FRs b y):FRs (a++b) (x++y):=
 ⟨by simp [h.1, k.1], fun j h1 h2 => by
   by_cases hj:j<a.length
   · have hj':j<x.length:=by rw[<-h.1];exact hj
     rw[List.getElem_append_left hj,List.getElem_append_left hj'];exact h.2 j hj hj'
   · have hj':¬j<x.length:=by rw[<-h.1];exact hj
     rw[List.getElem_append_right (by omega),List.getElem_append_right (by omega)];have:=k.2 (j-a.length) (by simp at h1;omega) (by simp at h2;have:=h.1;omega);have e:=h.1;simp only[e]at this ⊢;exact this⟩
theorem FRs.take {a:List C} {x:List V} (h:FRs a x) (n:Nat):FRs (a.take n) (x.take n):=
 ⟨by simp [h.1], fun j h1 h2 => by
  simp only[List.getElem_take];exact h.2 j (by simp at h1;omega) (by simp at h2;omega)⟩
theorem FRs.drop {a:List C} {x:List V} (h:FRs a x) (n:Nat):FRs (a.drop n) (x.drop n):=
 ⟨by simp [h.1], fun j h1 h2 => by
  simp only[List.getElem_drop];exact h.2 (n+j) (by simp at h1;omega) (by simp at h2;omega)⟩
theorem FRs.splice {cs ds:List C} {vs us:List V} (h:FRs cs vs) (k:FRs ds us) (off:Nat):FRs (splice cs off ds) (Abs.splice vs off us):=by
 unfold Den.splice Abs.splice;rw[<-k.1];exact(h.take off).app (k.app (h.drop _))
theorem Imps.set {a b:List (List V)} (h:Imps a b) {x y:List V} (hx:Imp1 x y):∀k,Imps (a.set k x) (b.set k y):=by
 induction h with
 |nil=>intro k;exact .nil
 | cons h k ih =>
  intro m;cases m with
  |zero=>exact .cons hx k
  |succ m=>exact .cons h (ih m)
theorem zt {ds:List C} {us:List V} (hf:ds.all fp=true) (h:CRs [] [] ds us):FRs ds us:=⟨h.1,λj k1 k2=>vW (aT.1 hf _ (gM k1)) (h.2 j k1 k2)⟩
theorem ph (htb:TBOK P tb) {t id m n n' off:Nat} {ti:TI} {T:Ty} {e e' x':I T} {x y:Operand} {v:AT} {vs ds:List C} {xs:List (I T)} (ht:tb t=some ti) (hx:ev D x=some (.one (.e id m n T e off))) (hr:H[id]? =some (.row T n' xs)) (hm:xs[m]? =some e') (hy:ev D y=some v) (hv:cells v=some vs) (hd:cP [] vs=some ds) (hi:eU T (splice (aj T e') off ds)=some x')
  (h1:ti.size=vs.length) (h2:off+vs.length<=szT T) (hT:0<szT T):
  cB P ⟨none,.store t x y,ty,pos,af,gd⟩ E F D H (.tup []) (H.set id (.row T (n'+1) (xs.set m x'))):=λρ L h hs hh hf=>by
 obtain⟨i,G⟩:=htb.get ht;obtain⟨av,a1,a2⟩:=aF hs hx;obtain⟨u,rfl,a3⟩:=a2.one';obtain⟨a,xs',rfl,a4,a5,a6,a7,a8⟩:=a3.eptr hr;obtain⟨es,b1,b2⟩:=hh.at_ a4 hr;obtain⟨ee,b3,b4⟩:=b2.elem hm;obtain⟨aw,c1,c2⟩:=aF hs hy;obtain⟨ws,c3,c4⟩:=gK hv c2;obtain⟨us,u1,_,u3,u4⟩:=hU hd c4;have hex:=dO hi;have hdf:ds.all fp=true:=by
  have hf:=jr hT x';rw[hex]at hf;unfold splice at hf;simp only[List.all_append,bA]at hf;exact hf.2.1
 have hfr:=(b4.splice (zt hdf u1) off);rw[<-hex]at hfr;have hws:ws.length=vs.length:=c4.1.symm;have hel:ee.length=szT T:=by rw[<-b4.1,bF T hT]
 have himp:Imp1 (Abs.splice ee off ws) (Abs.splice ee off us):=by
  unfold Abs.splice;refine(Imp1.refl _).app (Imp1.app ⟨u3,u4⟩ ?_);rw[<-u3];exact Imp1.refl _
 have hfl:FRl T (xs.set m x') (es.set m (Abs.splice ee off us)):=FRl.set hfr b2.frl m;have he:evo (.row T n' xs) (.row T (n'+1) (xs.set m x')):=.inr (.inl ⟨T,n',xs,n'+1,_,rfl,rfl,by simp,by omega,λe=>by omega⟩);have hev:Ev ρ H ρ (H.set id (.row T (n'+1) (xs.set m x'))):=Ev.set hr he;have hr2:=Abs.qP (P:=P) (E:=E) (L:=L) (h:=h) (ty:=ty) (pos:=pos) (af:=af) (gd:=gd) (K:=λL2 h2=>L2=L/\h2=h.set a (some (.row (szT T) (es.set m (Abs.splice ee off ws))))) G.tb a1 c1 c3 G.look (by rw[G.size,h1,hws]) b1 b3 (by rw[hws];exact h2) ⟨rfl,rfl⟩;refine js hr2 λL2 h2' ⟨k1,k2⟩=> ?_;subst k1 k2;have halt:a<h.length:=(gI.1 b1).1;refine⟨_,h.set a (some (.row (szT T) (es.set m (Abs.splice ee off us)))),⟨ρ,.tup [],rfl,jF,hh.set a4 hr (by simp) he ⟨_,rfl,hfl.fr hT⟩,hev,hf.set a4 hr (by simp) he⟩,λLf=> ?_⟩;have:=Shift.imp (L:=L2++Lf) (h:=h.set a (some (.row (szT T) (es.set m (Abs.splice ee off ws))))) (id:=a) (s:=szT T) (es:=_) (es':=es.set m (Abs.splice ee off us)) (sS halt) ((Imps.refl es).set himp m) (hfl.lens hT);rw[List.set_set]at this;exact this
end
def Pl.has {X:Type} (p:Pl X) (x:X):Prop:=match p with
 | .no=>False
 | .ret y=>y=x
 | .opt m f=>∃a,m=some a/\f a=some x
theorem Pl.run_has {X R:Type} {p:Pl X} {K:X->Option R} {r:R} (h:p.run K=some r):∃x,p.has x/\K x=some r:=by
 cases p with
 |no=>cases h
 |ret x=>exact⟨x,rfl,h⟩
 | opt m f =>
  cases m with
  |none=>cases h
  | some a =>
   simp only[Pl.run,bS]at h;split at h
   ·rename_i x hx;exact⟨x,⟨a,rfl,hx⟩,h⟩
   ·cases h
theorem bind_some {α β:Type} {m:Option α} {f:α->Option β} {b:β} (h:m.bind f=some b):∃a,m=some a/\f a=some b:=by
 cases m with
 |none=>cases h
 |some a=>exact⟨a,rfl,h⟩
section
variable {P : Program} {E : Abs.Cx} {F : In} {ρ : Rho} {H : List Ob} {D : List (Nat × AT)} {L : Env} {h : ag} {d : Nat} {ty : TypeId} {pos : String} {af : Array Edge} {gd : Option (Nat × Bool)} {tb : Nat → Option TI}
theorem Bp {s:ByteArray} {i b:Int} (h:sIx s i=some b):0<=i/\∃c,s[i.toNat]? =some c/\b=c.toNat:=by
 unfold sIx at h;cases h0:decide (0<=i)with
 |false=>rw[h0]at h;cases h
 | true =>
  rw[h0]at h;simp only[cT]at h;split at h
  ·rename_i c hc;cases h;exact⟨of_decide_eq_true h0,c,hc,rfl⟩
  ·cases h
theorem wW {s q:ByteArray} {a b:Int} (h:sW s a b=some q):0<=a/\a<=b/\b<=s.size/\q=s.extract a.toNat b.toNat:=by
 unfold sW at h;cases h0:(decide (0<=a)&&decide (a<=b)&&decide (b<=(s.size:Int)))with
 |false=>rw[h0]at h;cases h
 | true =>
  rw[h0]at h;simp only[bA,decide_eq_true_eq]at h0;cases h;exact⟨h0.1.1,h0.1.2,h0.2,rfl⟩
theorem kU {n a b:Int} {u:Unit} (h:kG n a b=some u):a=n/\b=n:=by
 unfold kG at h;cases h0:(decide (a=n)&&decide (b=n))with
 |false=>rw[h0]at h;cases h
 |true=>simpa using h0
theorem xE (htb:TBOK P tb) (hs:EncL ρ H D L) (hn:d<E.n) {t:Nat} {ti:TI} {x y:Operand} {s:ByteArray} {i b:Int} (ht:tb t=some ti) (hst:ti.str=true) (hx:ev D x=some (.one (.s s))) (hy:ev D y=some (.one (.i i))) (hb:sIx s i=some b):
  bC P ⟨some d,.index t x y,ty,pos,af,gd⟩ E ρ H L h (.one (.k .u8 b)):=by
 obtain⟨ti',F⟩:=htb.get ht;obtain⟨av,h1,h2⟩:=aF hs hx;obtain⟨u,rfl,h3⟩:=h2.one';cases h3.str;obtain⟨aw,k1,k2⟩:=aF hs hy;obtain⟨u,rfl,k3⟩:=k2.one';cases k3.int;obtain⟨g1,c,g2,rfl⟩:=Bp hb;exact⟨_,.one (.fl .k),Abs.rN F.tb h1 k1 F.look (F.str hst) g1 g2 hn ⟨rfl,rfl⟩⟩
theorem yr (htb:TBOK P tb) (hs:EncL ρ H D L) (hn:d<E.n) {t:Nat} {ti:TI} {x:Operand} {lo hi:Option Operand} {s q:ByteArray} {a b:Int} (ht:tb t=some ti) (hst:ti.str=true) (hx:ev D x=some (.one (.s s)))
  (hlo:(match lo with|some y=>ev D y|none=>some (.one (.i 0)))=some (.one (.i a))) (hhi:(match hi with|some y=>ev D y|none=>some (.one (.i s.size)))=some (.one (.i b))) (hq:sW s a b=some q):
  bC P ⟨some d,.slice t x lo hi none,ty,pos,af,gd⟩ E ρ H L h (.one (.s q)):=by
 obtain⟨ti',F⟩:=htb.get ht;obtain⟨av,h1,h2⟩:=aF hs hx;obtain⟨u,rfl,h3⟩:=h2.one';cases h3.str;obtain⟨s1,s2,s3,rfl⟩:=wW hq;obtain⟨a',rfl⟩:∃a':Nat,a=a':=⟨a.toNat,by omega⟩;obtain⟨b',rfl⟩:∃b':Nat,b=b':=⟨b.toNat,by omega⟩;refine⟨_,.one (.fl .s),Abs.qJ (lo:=a') (hi:=b') (kl:=.i64) (kh:=.i64) F.tb h1 F.look (F.str hst) ?_ ?_ (by omega) (by omega) hn ⟨rfl,rfl⟩⟩
 ·cases lo with
  |none=>simp only[Option.some.injEq,AT.one.injEq,C.i.injEq]at hlo;exact .inl ⟨rfl,by omega⟩
  | some y =>
   obtain⟨aw,k1,k2⟩:=aF hs hlo;obtain⟨u,rfl,k3⟩:=k2.one';cases k3.int;exact .inr ⟨y,rfl,k1⟩
 ·cases hi with
  |none=>simp only[Option.some.injEq,AT.one.injEq,C.i.injEq]at hhi;exact .inl ⟨rfl,by omega⟩
  | some y =>
   obtain⟨aw,k1,k2⟩:=aF hs hhi;obtain⟨u,rfl,k3⟩:=k2.one';cases k3.int;exact .inr ⟨y,rfl,k1⟩
theorem BD (htb:TBOK P tb) (hs:EncL ρ H D L) (hn:d<E.n) {t:Nat} {ti:TI} {x hi mx:Operand} {T T':Ty} {xs:List (I T)} {a b:Int} {u0:Unit} (ht:tb t=some ti) (he:ti.elem=some T') (hsz:szT T'=szT T) (hx:ev D x=some (.one (.l T xs))) (hh:ev D hi=some (.one (.i a))) (hm:ev D mx=some (.one (.i b))) (hc:kG xs.length a b=some u0):
  bC P ⟨some d,.slice t x none (some hi) (some mx),ty,pos,af,gd⟩ E ρ H L h (.one (.lc T xs)):=by
 obtain⟨i',F⟩:=htb.get ht;obtain⟨el,z,_,g1,_,g2,g3,_⟩:=F.elem T' he;obtain⟨av,h1,h2⟩:=aF hs hx;obtain⟨u,rfl,h3⟩:=h2.one';obtain⟨es,rfl,h4⟩:=h3.list;obtain⟨aw,k1,k2⟩:=aF hs hh;obtain⟨u,rfl,k3⟩:=k2.one';cases k3.int;obtain⟨aw,m1,m2⟩:=aF hs hm;obtain⟨u,rfl,m3⟩:=m2.one';cases m3.int;obtain⟨rfl,rfl⟩:=kU hc;have hl:es.length=xs.length:=by cases h4 with|l _ hl _ _=>exact hl
 rw[<-hl]at k1 m1;exact⟨_,.one (.lc h4),Abs.CK F.tb h1 g1 (g2.trans hsz) (hsz▸g3) k1 m1 hn ⟨rfl,rfl⟩⟩
theorem ul (htb:TBOK P tb) (hs:EncL ρ H D L) (hn:d<E.n) {t:Nat} {ti:TI} {x hi mx:Operand} {T T':Ty} {a b:Int} {u0:Unit} (ht:tb t=some ti) (he:ti.elem=some T') (hx:ev D x=some (.one (.nil T))) (hh:ev D hi=some (.one (.i a))) (hm:ev D mx=some (.one (.i b))) (hc:kG 0 a b=some u0):
  bC P ⟨some d,.slice t x none (some hi) (some mx),ty,pos,af,gd⟩ E ρ H L h (.one (.nil T)):=by
 obtain⟨i',F⟩:=htb.get ht;obtain⟨el,z,_,g1,_,g2,g3,_⟩:=F.elem T' he;obtain⟨av,h1,h2⟩:=aF hs hx;obtain⟨u,rfl,h3⟩:=h2.one';obtain⟨rfl,hp⟩:u= .lit (.slice none 0 0)/\0<szT T:=by cases h3 with|fl h=>cases h|nil hp=>exact⟨rfl,hp⟩
 obtain⟨aw,k1,k2⟩:=aF hs hh;obtain⟨u,rfl,k3⟩:=k2.one';cases k3.int;obtain⟨aw,m1,m2⟩:=aF hs hm;obtain⟨u,rfl,m3⟩:=m2.one';cases m3.int;obtain⟨rfl,rfl⟩:=kU hc;exact⟨_,.one (.nil hp),Abs.uU F.tb h1 g1 (by omega) k1 m1 hn ⟨rfl,rfl⟩⟩
theorem CL (k:IntKind) (a:Int):CR ρ H (BH k a) (.lit (.int k (k.wrap a))):=by
 cases k<;>first|exact .fl .i|exact .fl .k
theorem wg (htb:TBOK P tb) (hs:EncL ρ H D L) (hn:d<E.n) {t1 t:Nat} {ti t1i:TI} {x:Operand} {c:C} {k0 k:IntKind} {a:Int} (ht1:tb t1=some t1i) (ht:tb t=some ti) (hi:ti.kd=some k) (hx:ev D x=some (.one c)) (hc:∀v,CR ρ H c v->v= .lit (.int k0 a)):
  bC P ⟨some d,.convert t1 t x,ty,pos,af,gd⟩ E ρ H L h (.one (BH k a)):=by
 obtain⟨i1,F1⟩:=htb.get ht1;obtain⟨i,F⟩:=htb.get ht;obtain⟨av,h1,h2⟩:=aF hs hx;obtain⟨v,rfl,h3⟩:=h2.one';cases hc _ h3;obtain⟨T,g1,g2,g3⟩:=tu F1.ty F.ty;exact⟨_,.one (CL k a),Abs.Cp g1 h1 g2 g3 (F.kd k hi) hn ⟨rfl,rfl⟩⟩
theorem FRl.bytes {xs:List (I .u)} {es:List (List V)} (h:FRl .u xs es):es=List.map (α:=Int) (λn=>[V.lit (.int .u8 n)]) xs:=by
 induction h with
 |nil=>rfl
 | @cons x e xs es h k ih =>
  rw[ih];show e::_=[V.lit (.int .u8 x)]::_
  congr 1
  obtain⟨h1,h2⟩:=h
  match e,h1,h2 with
  | [v], _, h2 =>
   have:=h2 0 (by simp[aj]) (by simp);simp only[aj,List.getElem_cons_zero]at this;cases this;rfl
theorem xZ (htb:TBOK P tb) (hs:EncL ρ H D L) (hn:d<E.n) {t1 t:Nat} {ti t1i:TI} {x:Operand} {xs:List Int} (ht1:tb t1=some t1i) (ht:tb t=some ti) (he:t1i.elem=some .u) (hst:ti.str=true) (hx:ev D x=some (.one (.l .u xs))):
  bC P ⟨some d,.convert t1 t x,ty,pos,af,gd⟩ E ρ H L h (.one (.s (sOf xs))):=by
 obtain⟨i1,F1⟩:=htb.get ht1;obtain⟨i,F⟩:=htb.get ht;obtain⟨el,z,g0,g1,_,g2,g3,_⟩:=F1.elem .u he;obtain⟨av,h1,h2⟩:=aF hs hx;obtain⟨u,rfl,h3⟩:=h2.one';obtain⟨es,rfl,h4⟩:=h3.list;have h5:=h4.frl.bytes;subst h5;obtain⟨T,b1,b2,b3⟩:=tu F1.ty F.ty;have e1:Abs.fw T t1=some el:=by unfold Abs.fw;rw[b2];exact g0
 obtain⟨e2,_⟩:=Abs.br b1 e1;obtain⟨e',e3,e4⟩:=F1.u8 he;have e5:e'=el.t:=by rw[e2]at e3;cases e3;rfl
 subst e5;exact⟨_,.one (.fl .s),Abs.sB b1 h1 e1 e4 b3 (F.str hst) hn ⟨rfl,rfl⟩⟩
theorem iZ {T T':Ty} {xs:List (ByteArray×I T')} {ys:List (ByteArray×I T)} (h:vA xs=some ys):∃e:T'=T,ys=e▸xs:=by
 unfold vA at h;split at h
 ·rename_i e;cases h;exact⟨e,rfl⟩
 ·cases h
theorem wF {cs:List C} {vs:List V} (h:CRs ρ H cs vs):ATR ρ H (xx cs) (Abs.qB vs):=by
 match cs,vs,h with
 |[],[],h=>exact .agg h
 |[c],[v],h=>exact .one (h.2 0 (by simp) (by simp))
 |_::_::_,_::_::_,h=>exact .agg h
 |[],_::_,h=>exact absurd h.1 (by simp)
 |[_],[],h=>exact absurd h.1 (by simp)
 |[_],_::_::_,h=>exact absurd h.1 (by simp)
 |_::_::_,[],h=>exact absurd h.1 (by simp)
 |_::_::_,[_],h=>exact absurd h.1 (by simp)
theorem qO {T:Ty} (s:ByteArray):∀{kvs:List (ByteArray×I T)} {ws:List (ByteArray×List V)},kvs.length=ws.length->(∀(j:Nat) (h1:j<kvs.length) (h2:j<ws.length),kvs[j].1=ws[j].1/\FRs (aj T kvs[j].2) ws[j].2)->
  (oe kvs s=none/\Abs.d8 ws s=none)\/∃x vs,oe kvs s=some x/\Abs.d8 ws s=some vs/\FRs (aj T x) vs
 |[],[],_,_=>.inl ⟨rfl,rfl⟩
 |[],_::_,h,_=>by simp at h
 |_::_,[],h,_=>by simp at h
 | (a, b) :: kvs, (a', b') :: ws, hl, hr => by
  obtain⟨h1,h2⟩:=hr 0 (by simp) (by simp);simp only[List.getElem_cons_zero]at h1 h2;subst h1;simp only[oe,Abs.d8];by_cases e:a=s
  ·rw[if_pos e,if_pos e];exact .inr ⟨b,b',rfl,rfl,h2⟩
  ·rw[if_neg e,if_neg e];exact qO s (by simpa using hl) (λj k1 k2=>hr (j+1) (by simpa using k1) (by simpa using k2))
theorem w7 (htb:TBOK P tb) (hs:EncL ρ H D L) (hh:HpR ρ H h) (hn:d<E.n) {t id:Nat} {ti:TI} {T:Ty} {x y:Operand} {s:ByteArray} {kvs:List (ByteArray×I T)} {z:I T} (ht:tb t=some ti) (hm:ti.map=some T) (hx:ev D x=some (.one (.m id))) (hy:ev D y=some (.one (.s s))) (ho:H[id]? =some (.map T kvs)) (hz:fK T=some z):
  bC P ⟨some d,.lookup t x y false,ty,pos,af,gd⟩ E ρ H L h (xx (aj T (ke kvs s z)))/\bC P ⟨some d,.lookup t x y true,ty,pos,af,gd⟩ E ρ H L h (.tup [xx (aj T (ke kvs s z)),.one (.b (ur kvs s))]):=by
 obtain⟨i',F⟩:=htb.get ht;obtain⟨m,z',m1,m2,m3,m4⟩:=F.map T hm;rw[hz]at m2;cases m2;obtain⟨_,us,u1,u2⟩:=eQ m4;have hus:∀ι I w,Abs.VRs ι I w us m.zero:=λι I w=>by
  have hl:m.zero.length=us.length:=by have:=u2.1;simpa using this
  refine⟨hl,λj hj=> ?_⟩;have hj':j<m.zero.length:=by omega
  refine⟨m.zero[j],List.getElem?_eq_getElem hj',?_⟩;refine u2.2 j (by simpa using hj') hj I w ι _ ?_;rw[List.getElem_map];have:=(eQ m4).1;exact .lit (Abs.jM (aT.1 this _ (gM hj')))
 obtain⟨av,h1,h2⟩:=aF hs hx;obtain⟨u,rfl,h3⟩:=h2.one';obtain⟨aw,k1,k2⟩:=aF hs hy;obtain⟨u',rfl,k3⟩:=k2.one';cases k3.str;obtain⟨a,ws,o1,o2,o3,o4,o5⟩:=hh.map id T kvs ho;have hid:u= .mp a:=by
  cases h3 with
  |fl h=>cases h
  |m hm1=>rw[o1]at hm1;cases hm1;rfl
 subst hid;have key:CRs ρ H (aj T (ke kvs s z)) (match Abs.d8 ws s with|some vs=>vs|none=>us)/\ur kvs s=(Abs.d8 ws s).isSome:=by
  unfold ke ur;rcases qO s o3 o5 with⟨g1,g2⟩|⟨x',vs,g1,g2,g3⟩
  ·rw[g1,g2];exact⟨u1.cr,rfl⟩
  ·rw[g1,g2];exact⟨g3.cr,rfl⟩
 constructor
 ·exact⟨_,wF key.1,Abs.yc m1 h1 k1 o2 hus hn ⟨rfl,rfl⟩⟩
 ·refine⟨_,?_,Abs.su          m1 h1 k1 o2 hus hn ⟨rfl,rfl⟩⟩;refine .tup rfl (λj h1 h2=> ?_)
  match j,h1 with
  |0,_=>exact wF key.1
  |1,_=>rw[key.2];exact .one (.fl .b)
theorem vn :∀{xs:List AT} {cs:List C} {avs:List AV},ones xs=some cs->xs.length=avs.length->(∀(j:Nat) (h1:j<xs.length) (h2:j<avs.length),ATR ρ H xs[j] avs[j])->∃vs,avs=vs.map AV.one/\CRs ρ H cs vs
 | [], cs, avs, h, hl, hr => by
  cases h;cases avs with
  |nil=>exact⟨[],rfl,.nil_⟩
  |cons _ _=>simp at hl
 | .one c :: xs, cs, avs, h, hl, hr => by
  simp only[ones]at h;split at h
  ·rename_i cs' h1;cases h;cases avs with
   |nil=>simp at hl
   | cons av avs =>
    obtain⟨vs,rfl,k2⟩:=vn h1 (by simpa using hl) (λj a b=>hr (j+1) (by simpa using a) (by simpa using b));have:=hr 0 (by simp) (by simp);simp only[List.getElem_cons_zero]at this;obtain⟨v,rfl,k3⟩:=this.one';exact⟨v::vs,rfl,.cons k3 k2⟩
  ·cases h
 | .agg _::xs,cs,avs,h,hl,hr=>by cases h
 | .tup _::xs,cs,avs,h,hl,hr=>by cases h
theorem lE (htb:TBOK P tb) {op:Go.Op} (hn:d<E.n) {v:AT} (hv:(pw tb op D H).has v) (hs:EncL ρ H D L) (hh:HpR ρ H h):bC P ⟨some d,op,ty,pos,af,gd⟩ E ρ H L h v:=by
 unfold pw at hv;split at hv
 ·split at hv
  ·rename_i s i h1 h2 h3;obtain⟨b,e1,e2⟩:=hv;cases e2;obtain⟨ti,t1,t2⟩:=Option.map_eq_some_iff.1 h1;exact xE htb hs hn t1 t2 h2 h3 e1
  ·cases hv
 ·split at hv
  ·rename_i s h1 h2;split at hv
   ·rename_i a b h3 h4;obtain⟨q,e1,e2⟩:=hv;cases e2;obtain⟨ti,t1,t2⟩:=Option.map_eq_some_iff.1 h1;exact yr htb hs hn t1 t2 h2 h3 h4 e1
   ·cases hv
  ·cases hv
 ·split at hv
  ·rename_i T' T xs a b h1 h2 h3 h4;split at hv
   ·rename_i hb;obtain⟨q,e1,e2⟩:=hv;cases e2;obtain⟨ti,t1,t2⟩:=bind_some h1;exact BD htb hs hn t1 t2 (nB hb) h2 h3 h4 e1
   ·cases hv
  ·rename_i T' T a b h1 h2 h3 h4;obtain⟨q,e1,e2⟩:=hv;cases e2;obtain⟨ti,t1,t2⟩:=bind_some h1;exact ul htb hs hn t1 t2 h2 h3 h4 e1
  ·cases hv
 ·split at hv
  ·rename_i t1i kd a h1 h2 h3;cases hv;obtain⟨ti,t1,t2⟩:=bind_some h2;exact wg htb hs hn h1 t1 t2 h3 (λv hv=>hv.int)
  ·rename_i t1i kd k a h1 h2 h3;cases hv;obtain⟨ti,t1,t2⟩:=bind_some h2;exact wg htb hs hn h1 t1 t2 h3 (λv hv=>hv.kint)
  ·rename_i ti0 xs h1 h2 h3;split at hv
   ·rename_i h4 h5;cases hv;obtain⟨ti,t1,t2⟩:=Option.map_eq_some_iff.1 h5;exact xZ htb hs hn h1 t1 h4 t2 h3
   ·cases hv
  ·cases hv
 ·split at hv
  ·rename_i a h1;cases hv;obtain⟨av,k1,k2⟩:=aF hs h1;obtain⟨u,rfl,k3⟩:=k2.one';cases k3.int;exact⟨_,.one (.fl .i),Abs.BM k1 hn ⟨rfl,rfl⟩⟩
  ·rename_i a h1;cases hv;obtain⟨av,k1,k2⟩:=aF    hs h1;obtain⟨u,rfl,k3⟩:=k2.one';cases k3 with
   |fl k3=>
   cases k3;exact⟨_,.one (.fl .k),Abs.C3 k1 hn ⟨rfl,rfl⟩⟩
  ·cases hv
 ·rename_i args tys;split at hv
  ·rename_i x y ha;obtain rfl:args= #[x,y]:=by rw[<-ha]
   split at hv
   ·rename_i a b h1 h2;cases hv;obtain⟨av,k1,k2⟩:=aF hs h1;obtain⟨u,rfl,k3⟩:=k2.one';cases k3.int;obtain⟨aw,m1,m2⟩:=aF hs h2;obtain⟨u,rfl,m3⟩:=m2.one';cases m3.int;exact⟨_,.one (.fl .i),Abs.EE k1 m1 hn ⟨rfl,rfl⟩⟩
   ·cases hv
  ·cases hv
 ·rename_i args tys;split at hv
  ·rename_i x y ha;obtain rfl:args= #[x,y]:=by rw[<-ha]
   split at hv
   ·rename_i a b h1 h2;cases hv;obtain⟨av,k1,k2⟩:=aF hs h1;obtain⟨u,rfl,k3⟩:=k2.one';cases k3.int;obtain⟨aw,m1,m2⟩:=aF hs h2;obtain⟨u,rfl,m3⟩:=m2.one';cases m3.int;exact⟨_,.one (.fl .i),Abs.E1 k1 m1 hn ⟨rfl,rfl⟩⟩
   ·cases hv
  ·cases hv
 ·split at hv
  ·rename_i T id s h1 h2 h3;obtain⟨ti,t1,t2⟩:=bind_some h1;split at hv
   ·rename_i T2 kvs z h4 h5;split at hv
    ·rename_i kvs' h6;obtain⟨e,rfl⟩:=iZ         h6;subst e;have:=w7        (P:=P) (E:=E) (h:=h) (ty:=ty) (pos:=pos) (af:=af) (gd:=gd) htb hs hh hn t1 t2 h2 h3 h4 h5;split at hv
     ·cases hv;exact this.1
     ·cases hv;exact this.2
    ·cases hv
   ·cases hv
  ·cases hv
 ·rename_i f first caps
  split at hv
  ·rename_i xs h1 h2;obtain rfl:first= #[]:=by rw[<-h1]
   split at hv
   ·rename_i cs h3;cases hv;obtain⟨avs,k1,k2,k3⟩:=tN hs h2;obtain⟨vs,k4,k5⟩:=vn h3 k2 k3;have:=Abs.rm (P:=P) (E:=E) (K:=λL2 h2=>L2=(d,.one (.clo (.func f) vs))::L/\h2=h) (ty:=ty) (pos:=pos) (af:=af) (gd:=gd) (f:=f) k1 k4 hn ⟨rfl,rfl⟩;rw[Array.toArray_toList]at this;exact⟨_,.one (.f k5.1 k5.2),this⟩
   ·cases hv
  ·cases hv
 ·cases hv
theorem ie {Hm H:List Ob} (hl:∀(id:Nat) (x:Ob),Hm[id]? =some x->x≠.gone->H[id]? =some x) {op:Go.Op} {v:AT} (hv:(pw tb op D Hm).has v):(pw tb op D H).has v:=by
 unfold pw at hv ⊢;split at hv
 all_goals first
  |exact hv
  |(cases hv;done)
  |skip
 ·split at hv
  ·split at hv
   ·rename_i hx hz;rw[hl _ _ hx (by simp),hz];exact hv
   ·cases hv
  ·cases hv
theorem uj (htb:TBOK P tb) (hn:d<E.n) {t tx:Nat} {ti:TI} {T:Ty} {x y:Operand} {xs ys zs:List (I T)} (ht:tb t=some ti) (he:ti.elem=some T) (hx:ev D x=some (.one (.lc T xs))) (hsrc:As P E D H T tx y ys) (hl:Ej xs ys=some zs):
  cB P ⟨some d,.call ⟨.builtin .append,#[x,y],#[t,tx]⟩,ty,pos,af,gd⟩ E F D H (.one (.o H.length)) (H++[.row T 0 zs]):=λρ L h hs hh hf=>by
 obtain⟨i,G⟩:=htb.get ht;obtain⟨el,z',g0,g1,g2,g3,g4,g5,g6,g7,g8⟩:=G.elem T he;obtain⟨av,a1,a2⟩:=aF hs hx;obtain⟨u,rfl,a3⟩:=a2.one';obtain⟨es,rfl,e2⟩:∃es,u= .immc (szT T) es/\FR (.l T xs) (.imm (szT T) es):=by cases a3 with|fl h=>cases h|lc h=>exact⟨_,rfl,h⟩
 obtain⟨ns,n2,n1⟩:=hsrc ρ L h hs hh;have hne:el.zero≠[]:=by intro e;rw[e]at g5;simp at g5;omega
 unfold Ej at hl;split at hl
 ·cases hl
 ·rename_i y0 ys0;obtain⟨rfl,hlim⟩:=np       hl;have e3:=e2.frl;obtain⟨m1,m2⟩:=lH      g4 hh (e3.app n2);have hpos:0<ns.length:=by rw[n2.len];simp
  simp only[List.length_append]at hlim;refine Abs.tG G.tb a1 g1 hne g5 g3 n1 hpos (by rw[n2.len,e3.len];omega) g7 hn ⟨ρ++[some h.length],_,rfl,?_,m2,Ev.push _ _,hf.push hh.len _ _⟩;rw[List.length_append]at m1;exact m1
theorem uG (hn:d<E.n) {t:Nat} {T:Ty} (hT:0<szT T):cB P ⟨some d,.makeMap t none,ty,pos,af,gd⟩ E F D H (.one (.m H.length)) (H++[.map T []]):=λρ L h hs hp hf=>by
 refine Abs.uv hn ⟨ρ++[some h.length],_,rfl,.one (.m ?_),hp.push ⟨[],rfl,rfl,hT,λj h=>by simp at h⟩,Ev.push _ _,hf.push hp.len _ _⟩;rw[<-hp.len];simp
theorem pR (htb:TBOK P tb) {op:Go.Op} (hn:d<E.n) {v:AT} {H':List Ob} (hv:(uY tb op D H).has (v,H')):cB P ⟨some d,op,ty,pos,af,gd⟩ E F D H v H':=by
 unfold uY at hv;split at hv
 ·split at hv
  ·rename_i T h1;cases hv;obtain⟨ti,t1,t2⟩:=bind_some h1;obtain⟨i,G⟩:=htb.get t1;obtain⟨m,z,_,_,m3,_⟩:=G.map T t2;exact uG hn m3
  ·cases hv
 ·rename_i args tys;split at hv
  ·rename_i x y t tx ha ht;obtain rfl:args= #[x,y]:=by rw[<-ha]
   obtain rfl:tys= #[t,tx]:=by rw[<-ht]
   split at hv
   ·rename_i T T' xs cy h1 h2 h3;split at hv
    ·rename_i U xs' ys h4 h5 h6;obtain⟨e,rfl⟩:=eH h5;subst e;obtain⟨zs,e1,e2⟩:=hv;cases e2;obtain⟨ti,t1,t2⟩:=bind_some h1;obtain⟨ui,u1,u2⟩:=bind_some h4;exact uj htb hn t1 t2 h2 (iY htb u1 u2 h3 h6) e1
    ·cases hv
   ·rename_i id s h1 h2 h3;split at hv
    ·rename_i n xs h4 h5;obtain⟨zs,e1,e2⟩:=hv;cases e2;obtain⟨ti,t1,t2⟩:=bind_some h1;obtain⟨ui,u1,u2⟩:=Option.map_eq_some_iff.1 h4;exact mL htb hn t1 t2 h2 h5 (qI htb u1 u2 h3) e1
    ·cases hv
   ·rename_i T' s h1 h2 h3;split at hv
    ·rename_i h4;obtain⟨zs,e1,e2⟩:=hv;cases e2;obtain⟨ti,t1,t2⟩:=bind_some h1;obtain⟨ui,u1,u2⟩:=Option.map_eq_some_iff.1 h4;exact iL htb hn t1 t2 h2 (qI htb u1 u2 h3) e1
    ·cases hv
   ·cases hv
  ·cases hv
 ·cases hv
theorem jJ (htb:TBOK P tb) {t id:Nat} {ti:TI} {T:Ty} {x k y:Operand} {s:ByteArray} {kvs:List (ByteArray×I T)} {v:AT} {vs ds:List C} {e:I T} (ht:tb t=some ti) (hm:ti.map=some T) (hx:ev D x=some (.one (.m id))) (hk:ev D k=some (.one (.s s))) (ho:H[id]? =some (.map T kvs))
  (hy:ev D y=some v) (hv:cells v=some vs) (has:v=xx vs) (hp:cP [] vs=some ds) (hi:eU T ds=some e):cB P ⟨none,.mapUpdate t x k y,ty,pos,af,gd⟩ E F D H (.tup []) (H.set id (.map T ((s,e)::kvs))):=λρ L h hs hh hf=>by
 obtain⟨i',G⟩:=htb.get ht;obtain⟨m,z',m1,m2,m3,m4⟩:=G.map T hm;obtain⟨av,h1,h2⟩:=aF hs hx;obtain⟨u,rfl,h3⟩:=h2.one';obtain⟨aw,k1,k2⟩:=aF hs hk;obtain⟨u',rfl,k3⟩:=k2.one';cases k3.str;obtain⟨a,ws,o1,o2,o3,o4,o5⟩:=hh.map id T kvs ho;have hid:u= .mp a:=by
  cases h3 with
  |fl h=>cases h
  |m hm1=>rw[o1]at hm1;cases hm1;rfl
 subst hid;obtain⟨ay,y1,y2⟩:=aF hs hy;obtain⟨us,y3,y4⟩:=gK hv y2;have hay:ay=Abs.qB us:=by
  subst has
  match vs,y2,hv,y4 with
  |[],y2,hv,y4=>cases y2 with|agg h=>cases y3;have:=h.1;cases us with|nil=>rfl|cons _ _=>simp at this
  |[c],y2,hv,y4=>obtain⟨q,rfl,_⟩:=y2.one';cases y3;rfl
  | c :: c2 :: l, y2, hv, y4 =>
   cases y2 with
   | agg h =>
    cases y3;have:=h.1
    match us,this with
    |_::_::_,_=>rfl
 subst hay;obtain⟨ws',w1,w2⟩:=vP m3 hp hi y4;have he:evo (.map T kvs) (.map T ((s,e)::kvs)):=.inr (.inr (.inr (.inl ⟨_,_,_,rfl,rfl⟩)));refine Abs.pM m1 h1 k1 y1 w2.1 (λj h1 h2 I w ι u hu=>w2.2 j h1 h2 I w ι u hu) o2 ⟨ρ,.tup [],rfl,jF,hh.set o1 ho (by simp) he ⟨(s,ws')::ws,rfl,by simp[o3],o4,λj h1 h2=> ?_⟩,Ev.set ho he,hf.set o1 ho (by simp) he⟩;cases j with
 |zero=>exact⟨rfl,w1⟩
 |succ j=>exact o5 j (by simpa using h1) (by simpa using h2)
theorem EA     (htb : TBOK P tb) {op : Go.Op} {H' : List Ob} (hv : (opX tb op D H).has H') : cB   P ⟨none, op, ty, pos, af, gd⟩ E F D H (.tup []) H' := by
 unfold opX at hv;split at hv
 ·split at hv
  ·rename_i T id s vs h1 h2 h3 h4;obtain⟨ti,t1,t2⟩:=bind_some h1;obtain⟨v,v1,v2⟩:=bind_some h4;split at hv
   ·rename_i T2 kvs ds h5 h6;split at hv
    ·rename_i kvs' y c h7 h8 h9;obtain⟨e,rfl⟩:=iZ         h7;subst e;split at hv
     ·cases hv;rw[v1]at h9;cases h9;cases v2;exact jJ htb t1 t2 h2 h3 h5 v1 rfl rfl h6 h8
     ·cases hv
    ·rename_i kvs' y cs h7 h8 h9;obtain⟨e,rfl⟩:=iZ         h7;subst e;split at hv
     ·cases hv
     ·rename_i hb;cases hv;rw[v1]at h9;cases h9;cases v2;have hne:vs.length≠1:=λe=>hb (by
       have e1:=dO h8;obtain⟨i',G⟩:=htb.get t1;obtain⟨m,z',m1,m2,m3,m4⟩:=G.map _ t2;have e2:=bF _ m3 y;rw[e1]at e2
       have e3:∀{a b:List C},cP [] a=some b->b.length=a.length:=by
        intro a
        induction a with
        |nil=>intro b hb;cases hb;rfl
        | cons q a ih =>
         intro b hb;simp only[cP]at hb;split at hb
         ·rename_i r1 r2;cases hb;simp[ih r2]
         ·cases hb
       have:=e3 h6;rw[show szT T2=1 by omega];rfl)
      refine jJ htb t1 t2 h2 h3 h5 v1 rfl ?_ h6 h8;clear h6 h4 v1
      match vs,hne with
      |[],_=>rfl
      |[_],hne=>exact absurd rfl hne
      |_::_::_,_=>rfl
    ·cases hv
   ·cases hv
  ·cases hv
 ·cases hv
end
section
variable {P : Program} {E : Abs.Cx} {F : In} {ρ : Rho} {H : List Ob} {D : List (Nat × AT)} {L : Env} {h : ag} {d : Nat} {ty : TypeId} {pos : String} {af : Array Edge} {gd : Option (Nat × Bool)} {tb : Nat → Option TI}
theorem wq {op:BinOp} {a b:C} {v:AT} (h:(Ca op a b).has v):∃c,v= .one c/\BQ op a b some=some c:=by
 have key:∀{p:Bool} {y:Int},(∃q,(bif p then some y else none)=some q/\(some (AT.one (.i q)):Option AT)=some v)->∃c,v= .one c/\(bif p then some (C.i y)else none)=some c:=by
  rintro p y ⟨q,h1,h2⟩;cases p with
  |true=>cases h1;cases h2;exact⟨_,rfl,rfl⟩
  |false=>cases h1
 have keyU:∀{p:Bool} {y:Int},(∃q,(bif p then some y else none)=some q/\(some (AT.one (.k .u64 q)):Option AT)=some v)->∃c,v= .one c/\(bif p then some (C.k .u64 y)else none)=some c:=by
  rintro p y ⟨q,h1,h2⟩;cases p with
  |true=>cases h1;cases h2;exact⟨_,rfl,rfl⟩
  |false=>cases h1
 unfold Ca at h;unfold BQ;split at h
 ·exact key h
 ·exact key h
 ·exact key h
 ·exact key h
 ·exact key h
 ·exact key h
 ·rename_i x y;obtain⟨q,h1,h2⟩:=h;unfold rj   at h1;cases hp:decide (x.size+y.size<=1099511627776)with
  |true=>rw[hp]at h1;cases h1;cases h2;exact⟨_,rfl,rfl⟩
  |false=>rw[hp]at h1;cases h1
 ·exact keyU h
 ·exact keyU h
 ·split at h
  ·rename_i c hc;cases h;exact⟨c,rfl,rfl⟩
  ·cases h
theorem vf (htb:TBOK P tb) {o:Oper} {d:Nat} (hd:o.dst=some d) (hn:d<E.n) {v:AT} (hv:(yj tb o D H).has v) (hs:EncL ρ H D L) (hh:HpR ρ H h):bC P o E ρ H L h v:=by
 obtain⟨dst,op,ty,pos,af,gd⟩:=o;simp only at hd;subst hd
 have hmove:∀{x:Operand},Pl.has (match ev D x with
  | some (.one .zs) => match (tb ty).bind (·.elem) with
   |some T=>.ret (.one (.nil T))
   |none=>.no
  |some v=>.ret v
  |none=>.no) v->∃av,Abs.ev L x=some av/\ATR ρ H v av:=by
  intro x hv;split at hv
  ·rename_i hx;split at hv
   ·rename_i T hT;cases hv;obtain⟨ti,t1,t2⟩:=bind_some hT;obtain⟨i,G⟩:=htb.get t1;obtain⟨el,z',g0,g1,g2,g3,g4,_⟩:=G.elem T t2;obtain⟨av,h1,h2⟩:=aF    hs hx;obtain⟨u,rfl,h3⟩:=h2.one';have:u= .lit (.slice none 0 0):=by cases h3 with|fl h=>cases h|zs=>rfl
    subst this;exact⟨_,h1,.one (.nil g4)⟩
   ·cases hv
  ·rename_i hx;cases hv;exact aF hs hx
  ·cases hv
 unfold yj at hv;simp only at hv;split at hv
 ·obtain⟨av,h1,h2⟩:=hmove hv;exact⟨av,h2,Abs.CF h1 hn ⟨rfl,rfl⟩⟩
 ·obtain⟨av,h1,h2⟩:=hmove hv;exact⟨av,h2,Abs.wQ h1 hn ⟨rfl,rfl⟩⟩
 ·split at hv
  ·rename_i p hc;cases p with
   | true =>
    simp only at hv;split at hv
    ·rename_i va ha;cases hv;exact wB hs hn hc ha
    ·cases hv
   | false =>
    simp only at hv;split at hv
    ·rename_i va ha;cases hv;exact wB hs hn hc ha
    ·cases hv
  ·cases hv
 ·rename_i t parts;split at hv
  ·rename_i ti ps h1 h2;split at hv
   ·rename_i f fs cs h3 h4;cases hv;have:=zc (P:=P) (E:=E) (h:=h) (ty:=ty) (pos:=pos) (af:=af) (gd:=gd) htb hs hn h1 h2 (by rw[h3];simp) h4;exact this
   ·cases hv
  ·cases hv
 ·split at hv
  ·rename_i ti id off h1 h2;split at hv
   ·rename_i fo _ h3;cases hv;exact yq htb hs hn h1 h2 h3
   ·cases hv
  ·rename_i ti T y off h1 h2;split at hv
   ·rename_i fo _ h3;cases hv;exact xz htb hs hn h1 h2 h3
   ·cases hv
  ·rename_i ti id k n T y off h1 h2;split at hv
   ·rename_i _ _ _ fo _ h3 h4;cases hv;exact w4 htb hs hn h1 h2 h3 h4
   ·cases hv
  ·cases hv
 ·split at hv
  ·rename_i ti cs h1 h2;split at hv
   ·rename_i fo ft _ h3;split at hv
    ·rename_i fi h4;split at hv
     ·rename_i v' h5;cases hv;exact C1 htb hs hn h1 h2 h3 h4 h5
     ·cases hv
    ·cases hv
   ·cases hv
  ·cases hv
 ·split at hv
  ·rename_i ti id off h1 h2;split at hv
   ·rename_i cs h3;split at hv
    ·rename_i v' h4;cases hv;exact Af htb hs hh hn h1 h2 h3 h4
    ·cases hv
   ·cases hv
  ·rename_i ti T y off h1 h2;split at hv
   ·rename_i v' h4;cases hv;exact Bj htb hs hn h1 h2 h4
   ·cases hv
  ·rename_i ti id k n T y off h1 h2;split at hv
   ·rename_i T' n' xs h3;obtain⟨av,a1,a2⟩:=aF    hs h2;obtain⟨u,rfl,a3⟩:=a2.one';obtain⟨a,xs',rfl,c4,c5,c6,c7,c8⟩:=a3.eptr h3;split at hv
    ·rename_i hb;have hb:=nB hb;split at hv
     ·rename_i v' h4;cases hv;exact sg htb hs hh hn h1 h2 c5 (c8 hb) h4
     ·cases hv
    ·split at hv
     ·rename_i xs2 hc;obtain⟨e,rfl⟩:=eH hc;subst e;obtain⟨y',e1,e2⟩:=hv;exact sg htb hs hh hn h1 h2 h3 e1 e2
     ·cases hv
   ·cases hv
  ·cases hv
 ·split at hv
  ·rename_i T' T xs i h1 h2 h3;split at hv
   ·rename_i hb;obtain⟨e,e1,e2⟩:=hv;cases e2;obtain⟨ti,t1,t2⟩:=bind_some h1;exact wN htb hs hn t1 t2 (nB hb) h2 h3 e1
   ·cases hv
  ·rename_i T' id i h1 h2 h3;split at hv
   ·rename_i T n xs h4;split at hv
    ·rename_i hb;obtain⟨e,e1,e2⟩:=hv;cases e2;obtain⟨ti,t1,t2⟩:=bind_some h1;exact xY htb hs hh hn t1 t2 (nB hb) h2 h4 h3 e1
    ·cases hv
   ·cases hv
  ·cases hv
 ·split at hv
  ·rename_i T' T xs h1 h2;split at hv
   ·rename_i hb;split at hv
    ·rename_i a b h3 h4;obtain⟨ys,e1,e2⟩:=hv;cases e2;obtain⟨ti,t1,t2⟩:=bind_some h1;exact yU htb hs hn t1 t2 (nB hb) h2 h3 h4 e1
    ·cases hv
   ·cases hv
  ·exact lE htb hn hv hs hh
 ·split at hv
  ·rename_i h1;cases hv;exact Dh hs hn h1
  ·rename_i h1;cases hv;exact C7 hs hn h1
  ·cases hv
 ·split at hv
  ·rename_i a b h1 h2;split at hv
   ·rename_i p;split at hv
    ·rename_i h3;obtain⟨ti,t1,t2⟩:=Option.map_eq_some_iff.1 h3;obtain⟨c,rfl,h4⟩:=wq hv;obtain⟨c',h5,h6⟩:=AU (P:=P) (E:=E) (h:=h) (ty:=ty) (pos:=pos) (af:=af) (gd:=gd) hs hn h1 h2 (λ_ _=>⟨ti,t1,t2⟩) htb h4;cases h5;exact h6
    ·cases hv
   ·rename_i hnb;obtain⟨c,rfl,h4⟩:=wq hv;obtain⟨c',h5,h6⟩:=AU (P:=P) (E:=E) (h:=h) (ty:=ty) (pos:=pos) (af:=af) (gd:=gd) hs hn h1 h2 (λp e=>absurd e (hnb p)) htb h4;cases h5;exact h6
  ·cases hv
 ·split at hv
  ·rename_i h1;cases hv;exact Eb hs hn h1
  ·cases hv
 ·split at hv
  ·rename_i xs h1;split at hv
   ·rename_i v' h2;cases hv;exact uL hs hn h1 h2
   ·cases hv
  ·cases hv
 ·split at hv
  ·rename_i t1i ti a h1 h2 h3;split at hv
   ·rename_i h4;cases hv;exact Fy htb hs hn h1 h2 h4 h3
   ·exact lE htb hn hv hs hh
  ·exact lE htb hn hv hs hh
 ·rename_i args tys;split at hv
  ·rename_i x t ha ht;obtain rfl:args= #[x]:=by rw[<-ha]
   obtain rfl:tys= #[t]:=by rw[<-ht]
   split at hv
   ·rename_i ti s h1 h2;split at hv
    ·rename_i h3;cases hv;exact CX htb hs hn h1 h3 h2
    ·cases hv
   ·rename_i ti c h1 h2;split at hv
    ·rename_i T n h3 h4;cases hv;exact Ex htb hs hh hn h1 h3 h2 h4
    ·cases hv
   ·cases hv
  ·cases hv
 ·exact lE htb hn hv hs hh
theorem CQ (htb : TBOK P tb) {o : Oper} {d : Nat} (hd : o.dst = some d) (hn : d < E.n) {v : AT} {H' : List Ob} (hv : (yX tb o D H).has (v, H')) : cB P o E F D H v H' := by
 obtain⟨dst,op,ty,pos,af,gd⟩:=o;simp only at hd;subst hd;unfold yX at hv;simp only at hv;split at hv
 ·split at hv
  ·rename_i ti h1;cases hv;exact Bq htb hn h1
  ·cases hv
 ·split at hv
  ·rename_i cs h1;cases hv;obtain⟨v',h2,h3⟩:=bind_some h1;exact D4 hn h2 h3
  ·cases hv
 ·rename_i t len parts;split at hv
  ·rename_i T ps h1 h2;split at hv
   ·rename_i z h3;split at hv
    ·rename_i xs h4 h5;cases hv;obtain⟨ti,t1,t2⟩:=bind_some h1;exact n9 htb hn t1 t2 h3 h2 h4 h5
    ·cases hv
   ·cases hv
  ·cases hv
 ·split at hv
  ·rename_i T n h1 h2 h3;split at hv
   ·rename_i z h4;obtain⟨xs,e1,e2⟩:=hv;cases e2;obtain⟨ti,t1,t2⟩:=bind_some h1;exact B5 htb hn t1 t2 h4 h2 h3 e1
   ·cases hv
  ·cases hv
 ·rename_i args tys;split at hv
  ·rename_i x y t tx ha ht;obtain rfl:args= #[x,y]:=by rw[<-ha]
   obtain rfl:tys= #[t,tx]:=by rw[<-ht]
   split at hv
   ·rename_i T U cx cy h1 h2 h3 h4;obtain⟨ti,t1,t2⟩:=bind_some h1;obtain⟨ui,u1,u2⟩:=bind_some h2;split at hv
    ·rename_i ys h5;split at hv
     ·rename_i id;split at hv
      ·rename_i T' n xs h6;split at hv
       ·rename_i xs' h7;obtain⟨e,rfl⟩:=eH h7;subst e;obtain⟨zs,e1,e2⟩:=hv;cases e2;exact xO htb hn t1 t2 u1 u2 h3 h6 h4 h5 e1
       ·cases hv
      ·cases hv
     ·obtain⟨zs,e1,e2⟩:=hv;cases e2;exact qp htb hn t1 t2 u1 u2 h3 h4 h5 e1
     ·exact pR htb hn hv
    ·cases hv
   ·exact pR htb hn hv
  ·cases hv
 ·exact pR htb hn hv
theorem Cc (htb:TBOK P tb) {o:Oper} {d:Nat} (hd:o.dst=some d) (hn:d<E.n) {v:AT} (hv:(D7 tb o D).has v):cB P o E F D H v H:=by
 obtain⟨dst,op,ty,pos,af,gd⟩:=o;simp only at hd;subst hd;unfold D7 at hv;simp only at hv;split at hv
 ·rename_i t len parts;split at hv
  ·rename_i T ps h1 h2;split at hv
   ·rename_i z h3;split at hv
    ·rename_i xs h4 h5;cases hv;obtain⟨ti,t1,t2⟩:=bind_some h1;exact rT htb hn t1 t2 h3 h2 h4 h5
    ·cases hv
   ·cases hv
  ·cases hv
 ·cases hv
theorem Ft     (htb : TBOK P tb) {o : Oper} (hd : o.dst = none) {H' : List Ob} (hv : (opN tb o D H).has H') : cB   P o E F D H (.tup []) H' := by
 obtain⟨dst,op,ty,pos,af,gd⟩:=o;simp only at hd;subst hd;unfold opN at hv;simp only at hv;split at hv
 ·split at hv
  ·rename_i ti id off vs h1 h2 h3;obtain⟨v',k1,k2⟩:=bind_some h3;split at hv
   ·rename_i cs h4;split at hv
    ·rename_i hb;simp only[bA]at hb;cases hv;exact yp htb h1 h2 h4 k1 k2 (nB hb.1) (Nat.le_of_ble_eq_true hb.2)
    ·cases hv
   ·cases hv
  ·rename_i ti id k n T e off vs h1 h2 h3;obtain⟨v',k1,k2⟩:=bind_some h3;split at hv
   ·rename_i ds h4;split at hv
    ·rename_i T' n' xs h5;split at hv
     ·rename_i xs' h6;obtain⟨eT,rfl⟩:=eH         h6;subst eT;split at hv
      ·rename_i hb;simp only[bA]at hb;have b1:=nB hb.1.1;have b2:=Nat.le_of_ble_eq_true hb.1.2;have b3:0<szT T':=by simpa [Nat.blt_eq]using hb.2
       split at hv
       ·rename_i hb;have hb:=nB hb;split at hv
        ·rename_i x' h7;cases hv;intro ρ L h hs hh hf;obtain⟨av,a1,a2⟩:=aF hs h2;obtain⟨u,rfl,a3⟩:=a2.one';obtain⟨a,xs2,rfl,c4,c5,c6,c7,c8⟩:=a3.eptr h5;rw[h5]at c5;cases c5;exact ph htb h1 h2 h5 (c8 hb) k1 k2 h4 h7 b1 b2 b3 ρ L h hs hh hf
        ·cases hv
       ·obtain⟨e',e1,e2⟩:=hv;dsimp only at e2;split at e2
        ·rename_i x' h7;cases e2;exact ph htb h1 h2 h5 e1 k1 k2 h4 h7 b1 b2 b3
        ·cases e2
      ·cases hv
     ·cases hv
    ·cases hv
   ·cases hv
  ·cases hv
 ·exact EA htb hv
end
def trV (id s:Nat) (es:List (List V)) (c:C) (v:V):V:=match c with
 | .o j=>if j=id then .imm s es else v
 |_=>v
def trA (id s:Nat) (es:List (List V)):AT->AV->AV
 | .one c,.one v=>.one (trV id s es c v)
 | .agg cs,.agg vs=>.agg (List.zipWith (trV id s es) cs vs)
 |_,av=>av
def trL (id s:Nat) (es:List (List V)) (D:List (Nat×AT)) (L:Env):List Nat->Env
 |[]=>[]
 | t :: ts => match D.lookup t, L.lookup t with
  |some v,some av=>(t,trA id s es v av)::trL id s es D L ts
  |_,_=>trL id s es D L ts
theorem i9 (id s:Nat) (es:List (List V)) (D:List (Nat×AT)) (L:Env) (t:Nat):∀(ts:List Nat) (u:AV),(trL id s es D L ts).lookup t=some u->∃v av,D.lookup t=some v/\L.lookup t=some av/\u=trA id s es v av
 |[],u,h=>by simp[trL]at h
 | k :: ts, u, h => by
  simp only[trL]at h;split at h
  ·rename_i v av h1 h2;rw[List.lookup_cons]at h;by_cases e:t=k
   ·subst e;simp at h;exact⟨v,av,h1,h2,h.symm⟩
   ·have:(t==k)=false:=by simpa using e
    rw[this]at h;exact i9 id s es D L t ts u h
  ·exact i9 id s es D L t ts u h
theorem wx (id s:Nat) (es:List (List V)) (D:List (Nat×AT)) (L:Env) (t:Nat) {v:AT} {av:AV} (h1:D.lookup t=some v) (h2:L.lookup t=some av):∀(ts:List Nat),t∈ts->(trL id s es D L ts).lookup t=some (trA id s es v av)
 |[],h=>by simp at h
 | k :: ts, h => by
  by_cases e:t=k
  ·subst e;simp[trL,h1,h2]
  ·have hm:t∈ts:=by rcases List.mem_cons.1 h with h|h;exact absurd h e;exact h
   have ih:=wx id s es D L t h1 h2 ts hm;simp only[trL];split
   ·rw[List.lookup_cons];have:(t==k)=false:=by simpa using e
    rw[this];exact ih
   ·exact ih
theorem ug {α:Type} {D:List (Nat×α)} {t:Nat} {v:α} (h:D.lookup t=some v):t∈D.map Prod.fst:=by
 induction D with
 |nil=>simp at h
 | cons p D ih =>
  rw[List.lookup_cons]at h;by_cases e:t=p.1
  ·simp[e]
  ·have:(t==p.1)=false:=by simpa using e
   rw[this]at h;simp[ih h]
theorem uN {D:List (Nat×AT)} {f:AT->AT} {t:Nat}:(D.map λp=>(p.1,f p.2)).lookup t=(D.lookup t).map f:=by
 induction D with
 |nil=>rfl
 | cons p D ih =>
  obtain⟨k,z⟩:=p;simp only[List.map_cons];rw[List.lookup_cons,List.lookup_cons];cases t==k with
  |true=>rfl
  |false=>exact ih
section
variable {P : Program} {E : Abs.Cx} {F : In} {ρ : Rho} {H : List Ob} {D : List (Nat × AT)} {L : Env} {h : ag}
theorem DM {id n:Nat} {T:Ty} {xs:List (I T)} {es:List (List V)} (hr:H[id]? =some (.row T n xs)) (hx:FR (.l T xs) (.imm (szT T) es)) {c:C} {v:V} (hc:CR ρ H c v):CR ρ (H.set id .gone) (c.fz id T xs) (trV id (szT T) es c v):=by
 have hev:Ev ρ H ρ (H.set id .gone):=Ev.set hr (evo.goes _);by_cases e:c= .o id
 ·subst e;simp only[C.fz,trV,if_true];rw[if_pos (Nat.beq_refl id)];exact .fl hx
 ·have e1:c.fz id T xs=c:=by
   cases c<;>simp only[C.fz];rename_i j;rw[if_neg (λhb=>e (by rw[nB hb]))]
  have e2:trV id (szT T) es c v=v:=by
   unfold trV;split
   ·rename_i j;rw[if_neg (λhb=>e (by rw[hb]))]
   ·rfl
  rw[e1,e2];exact hc.mono hev
theorem zD {id n:Nat} {T:Ty} {xs:List (I T)} {es:List (List V)} (hr:H[id]? =some (.row T n xs)) (hx:FR (.l T xs) (.imm (szT T) es)) {cs:List C} {vs:List V} (hc:CRs ρ H cs vs):CRs ρ (H.set id .gone) (cs.map (C.fz id T xs)) (List.zipWith (trV id (szT T) es) cs vs):=
 ⟨by simp [hc.1], fun j h1 h2 => by
  simp only[List.getElem_map,List.getElem_zipWith];exact DM hr hx (hc.2 j (by simpa using h1) (by have:=hc.1;simp at h1;omega))⟩
theorem Bu {id n:Nat} {T:Ty} {xs:List (I T)} {es:List (List V)} (hr:H[id]? =some (.row T n xs)) (hx:FR (.l T xs) (.imm (szT T) es)) {v:AT} {av:AV} (hc:ATR ρ H v av):ATR ρ (H.set id .gone) (v.fz id T xs) (trA id (szT T) es v av):=by
 cases hc with
 |one h=>exact .one (DM hr hx h)
 |agg h=>exact .agg (zD hr hx h)
 |tup hl h=>exact(ATR.tup hl h).mono (Ev.set hr (evo.goes _))
theorem At {E:Abs.Cx} {h2:ag} {ι:List Abs.Inf} {I I':Nat->Prop} {a:Act} {w:World} {id s:Nat} {es:List (List V)} (r:Abs.Rel E L h ι I a w) (r':Abs.Rel E L h2 ι I' a w) (hk:Abs.Keeps I I' w w) (hs:EncL ρ H D L)
  (hv:∀(c:C) (v:V) (u:Value),CR ρ H c v->Abs.VR I w ι v u->Abs.VR I' w ι (trV id s es c v) u):Abs.Rel E (trL id s es D L (D.map Prod.fst)) h2 ι I' a w:=by
 refine {r' with slots:=λt u hu=> ?_};obtain⟨v,av,h1,h2',rfl⟩:=i9 id s es D L t _ u hu;obtain⟨av',h3,h4⟩:=hs t v h1;rw[h2']at h3;cases h3;obtain⟨c,k1,k2⟩:=r.slots t av h2';refine⟨c,k1,?_⟩;cases h4 with
 |one hc=>cases k2 with|one k2=>exact .one (hv _ _ _ hc k2)
 | @agg cs vs hc =>
  cases k2 with
  | agg hl hcs hr =>
   have hlen:=hc.1;refine .agg (by simp[hl,hlen]) (λj hj=>hcs j (by simp at hj;omega)) (λj hj=> ?_);simp only[List.getElem_zipWith];exact hv _ _ _ (hc.2 j (by simp at hj;omega) (by simp at hj;omega)) (hr j (by simp at hj;omega))
 |tup hl hh=>exact k2.keep (Abs.Grows.refl _) hk
def dC :Rho->List Ob->Nat->Option (List C)
 |some b::ρ,.box cs::H,a=>if b=a then some cs else dC ρ H a
 |_::ρ,_::H,a=>dC ρ H a
 |_,_,_=>none
theorem gn :∀{ρ:Rho} {H:List Ob} {a:Nat} {cs:List C},dC ρ H a=some cs->∃id:Nat,ρ[id]? =some (some a)/\H[id]? =some (Ob.box cs)
 |[],H,a,cs,h=>by unfold dC at h;cases h
 |x::ρ,[],a,cs,h=>by unfold dC at h;cases x<;>cases h
 | x :: ρ, o :: H, a, cs, h => by
  have up:dC ρ H a=some cs->∃id:Nat,(x::ρ)[id]? =some (some a)/\(o::H)[id]? =some (Ob.box cs):=λh=>by
   obtain⟨id,h1,h2⟩:=gn h;exact⟨id+1,by simpa using h1,by simpa using h2⟩
  unfold dC at h;split at h
  ·rename_i b _ ds _ _ e1 e2;cases e1;cases e2;split at h
   ·rename_i e;subst e;cases h;exact⟨0,rfl,rfl⟩
   ·exact up h
  ·rename_i e1 e2;cases e1;cases e2;exact up h
  ·cases h
theorem oQ :∀{ρ:Rho} {H:List Ob} {a id:Nat} {cs:List C},(∀(i j:Nat),ρ[i]? =some (some a)->ρ[j]? =some (some a)->live H i->live H j->i=j)->ρ[id]? =some (some a)->H[id]? =some (.box cs)->dC ρ H a=some cs
 |[],H,a,id,cs,_,h1,_=>by simp at h1
 |x::ρ,[],a,id,cs,_,_,h2=>by simp at h2
 | x :: ρ, o :: H, a, id, cs, hi, h1, h2 => by
  cases id with
  | zero =>
   simp at h1 h2;subst h1 h2;simp[dC]
  | succ id =>
   have hl:∀{i:Nat},live H i->live (o::H) (i+1):=λ{i} ⟨y,y1,y2⟩=>⟨y,by simpa using y1,y2⟩
   have ih:=oQ (ρ:=ρ) (H:=H) (a:=a) (id:=id) (cs:=cs) (λi j a1 a2 l1 l2=>by have:=hi (i+1) (j+1) (by simpa using a1) (by simpa using a2) (hl l1) (hl l2);omega) (by simpa using h1) (by simpa using h2);unfold dC;split
   ·rename_i b _ ds _ _ e1 e2;cases e1;cases e2;rw[if_neg (λe=>by
     have:=hi 0 (id+1) (by simp[e]) h1 ⟨_,rfl,by simp⟩ ⟨_,h2,by simp⟩;omega)]
    exact ih
   ·rename_i e1 e2;cases e1;cases e2;exact ih
   ·rename_i hx;exact(hx _ _ _ _ rfl rfl).elim
def trO (id s:Nat) (es:List (List V)) (ρ:Rho) (H:List Ob) (a:Nat) (o:Option Abs.Ob):Option Abs.Ob:=match dC ρ H a,o with
 |some cs,some (.row k [vs])=>some (.row k [List.zipWith (trV id s es) cs vs])
 |_,o=>o
def lS (id s:Nat) (es:List (List V)) (ρ:Rho) (H:List Ob) (h:ag):ag:=h.mapIdx (trO id s es ρ H)
theorem mC {id s:Nat} {es:List (List V)} {a:Nat}:(lS id s es ρ H h)[a]? =(h[a]?).map (trO id s es ρ H a):=by simp[lS]
theorem mo {id s:Nat} {es:List (List V)} {a:Nat} {o:Option Abs.Ob} (h:dC ρ H a=none):trO id s es ρ H a o=o:=by unfold trO;rw[h]
theorem Ac {id s:Nat} {es:List (List V)} {a:Nat} {o:Option Abs.Ob} {x:Abs.Ob} (h:trO id s es ρ H a o=some x):∃y,o=some y:=by
 cases o with
 |some y=>exact⟨y,rfl⟩
 |none=>cases hb:dC ρ H a<;>simp[trO,hb]at h
theorem vx {E:Abs.Cx} {L2:Env} {hb:ag} {ι:List Abs.Inf} {I I':Nat->Prop} {a:Act} {w:World} {id s:Nat} {es:List (List V)} (r:Abs.Rel E L h ι I a w) (r':Abs.Rel E L2 hb ι I' a w) (hp:HpR ρ H h) (hsub:∀(b:Nat) (o:Abs.Ob),hb[b]? =some (some o)->h[b]? =some (some o))
  (hv:∀(c:C) (v:V) (u:Value),CR ρ H c v->Abs.VR I w ι v u->Abs.VR I' w ι (trV id s es c v) u):Abs.Rel E L2 (lS id s es ρ H hb) ι I' a w:=by
 have dn:∀{b:Nat} {o:Abs.Ob},(lS id s es ρ H hb)[b]? =some (some o)->∃o0,hb[b]? =some (some o0)/\trO id s es ρ H b (some o0)=some o:=λ{b o} hx=>by
  rw[mC]at hx;obtain⟨o1,h1,h2⟩:=Option.map_eq_some_iff.1 hx;obtain⟨y,rfl⟩:=Ac h2;exact⟨y,h1,h2⟩
 exact
 { r' with
   heap := by
     refine⟨by simp[lS,r'.heap.len],λb o f x y=> ?_,λb o f x y=> ?_,λb b' o o' f f' x x' y y' e=> ?_⟩
     · obtain⟨o0,k1,k2⟩:=dn x
       have hor:=r'.heap.obj b o0 f k1 y;unfold trO at k2;split at k2
       · rename_i cs k vs hb1 e
         cases e;cases k2;obtain⟨id',g1,g2⟩:=gn hb1;obtain⟨a',vs',m1,m2,m3⟩:=hp.box id' cs g2;rw[g1]at m1;cases m1;rw[hsub b _ k1]at m2;cases m2;obtain⟨cur,t,q1,q2,q3,q4,q5,q6,q7⟩:=r.heap.obj b _ f (hsub b _ k1) y;have hlen:=m3.1;refine⟨cur,t,q1,q2,q3,q4,by simpa using q5,λe he=>by simp at he;subst he;simp[hlen],λk hk j hj=> ?_⟩;simp at hk;subst hk;simp only[List.getElem_cons_zero]at hj ⊢;have hj':j<vs.length:=by simp at hj;omega
         obtain⟨u,u1,u2⟩:=q7 0 (by simp) j (by simpa using hj');refine⟨u,u1,?_⟩;rw[List.getElem_zipWith];exact hv _ _ _ (m3.2 j (by simp at hj;omega) hj') (by simpa using u2)
       · rename_i hne
         cases k2;exact hor
     · obtain⟨o0,k1,_⟩:=dn x
       exact r'.heap.off b o0 f k1 y
     · obtain⟨o0,k1,_⟩:=dn x
       obtain⟨o1,k2,_⟩:=dn x';exact r'.heap.inj b b' o0 o1 f f' k1 k2 y y' e
   mine:=λb o f x y=>by
     obtain⟨o0,k1,_⟩:=dn x;exact r'.mine b o0 f k1 y}
theorem v7 {id n:Nat} {T:Ty} {xs:List (I T)} (_hr:H[id]? =some (.row T n xs)):Ev ρ (H.set id .gone) ρ ((H.set id .gone).map (Ob.fz id T xs)):=
 ⟨fun _ _ h => h, fun j x hx => ⟨x.fz id T xs, by rw [List.getElem?_map, hx]; rfl, by
  cases x with
  |box cs=>exact .inr (.inr (.inl ⟨_,_,rfl,rfl⟩))
  |row T n xs=>exact evo.refl _
  |map T kvs=>exact evo.refl _
  |gone=>exact evo.refl _
  |rows T xss ho=>exact evo.refl _⟩⟩
theorem wA {id n s:Nat} {T:Ty} {xs:List (I T)} {es:List (List V)} {hb:ag} (hs:s=szT T) (hp:HpR ρ H h) (hr:H[id]? =some (.row T n xs)) (hx:FR (.l T xs) (.imm (szT T) es)) (hbk:∀(b:Nat),ρ[id]?≠some (some b)->hb[b]? =h[b]?) (hbl:hb.length=h.length):
  HpR ρ ((H.set id .gone).map (Ob.fz id T xs)) (lS id s es ρ H hb):=by
 subst hs;have hev:=v7 (ρ:=ρ) hr;have hlv:∀{i:Nat},live ((H.set id .gone).map (Ob.fz id T xs)) i->live H i:=λ{i} l=>((Ev.set (ρ:=ρ) hr (evo.goes _)).trans hev).lv (by simpa using l.lt) l
 refine HpR.mk' (by simp[hp.len]) (λj x hx'=> ?_) (λi j a k1 k2 l1 l2=>hp.inj i j a k1 k2 (hlv l1) (hlv l2)) (λi b hi=>by simp[lS,hbl];exact hp.lt i b hi);simp only[List.getElem?_map,Option.map_eq_some_iff]at hx';obtain⟨x0,k1,rfl⟩:=hx';rcases eZ k1 with⟨rfl,rfl,_⟩|⟨hne,k1⟩
 ·exact .inr (.inr rfl)
 ·have hdf:(x0.fz id T xs).dead=x0.dead:=by cases x0<;>rfl
  by_cases hg0:x0.dead=true
  ·exact .inr (.inr (hdf.trans hg0))
  have hg0:x0.dead=false:=by simpa using hg0
  have hlj:live H j:=⟨_,k1,hg0⟩
  have hbox:∀{b:Nat},ρ[j]? =some (some b)->(∀cs,x0≠.box cs)->dC ρ H b=none:=λ{b} hb1 hn=>by
   cases hq:dC ρ H b with
   |none=>rfl
   | some cs =>
    obtain⟨id',g1,g2⟩:=gn hq;have:=hp.inj _ _ _ g1 hb1 ⟨_,g2,by simp⟩ hlj;subst this;rw[k1]at g2;cases g2;exact absurd rfl (hn cs)
  have hb':∀{b:Nat},ρ[j]? =some (some b)->hb[b]? =h[b]? :=λ{b} hb1=>hbk b λe=>hne (hp.inj _ _ _ hb1 e hlj ⟨_,hr,by simp⟩)
  rcases hp.ob k1 with⟨b,y,m1,m2,m3⟩|⟨m1,T',n',rfl,m3⟩|hd
  ·refine .inl ⟨b,trO id (szT T) es ρ H b y,m1,by rw[mC      ,hb' m1,m2];rfl,?_⟩;cases x0 with
   | box cs =>
    obtain⟨vs,rfl,q⟩:=m3;have hq:=oQ (H:=H) (λi j a1 a2=>hp.inj i j b a1 a2) m1 k1;refine⟨List.zipWith (trV id (szT T) es) cs vs,?_,(zD hr hx q).mono hev⟩;unfold trO;rw[hq];simp[q.1]
   |row T' n' xs'=>rw[mo (hbox m1 (λcs e=>by cases e))];exact m3
   |map T' kvs=>rw[mo (hbox m1 (λcs e=>by cases e))];exact m3
   |gone=>trivial
   |rows T' xss' ho'=>trivial
  ·exact .inr (.inl ⟨m1,T',n',rfl,m3⟩)
  ·exact .inr (.inr (hdf.trans hd))
theorem vF {id n s:Nat} {T:Ty} {xs:List (I T)} {es:List (List V)} {hb:ag} (hf:Fr F ρ H h) (hr:H[id]? =some (.row T n xs)) (hbk:∀(b:Nat),ρ[id]?≠some (some b)->hb[b]? =h[b]?) (hbl:hb.length=h.length):
  Fr F ρ ((H.set id .gone).map (Ob.fz id T xs)) (lS id s es ρ H hb):=
 hf.step ((Ev.set hr (evo.goes _)).trans (v7 hr)) (by simp[lS,hbl]) (λi _ h1 l=>.inl ⟨i,h1,((Ev.set (ρ:=ρ) hr (evo.goes _)).trans (v7 hr)).lv (by simpa using l.lt) l⟩) (λb hb1 hn=>by
  rw[mC,hbk b (λe=>hn id e ⟨_,hr,by simp⟩)];have:dC ρ H b=none:=by
   cases hq:dC ρ H b with
   |none=>rfl
   |some cs=>obtain⟨id',g1,g2⟩:=gn hq;exact absurd ⟨_,g2,by simp⟩ (hn id' g1)
  cases h[b]? with
  |none=>rfl
  |some o=>simp[mo this])
theorem vI {id n:Nat} {T:Ty} {xs:List (I T)} (hr:H[id]? =some (.row T n xs)):RowsSame H ((H.set id .gone).map (Ob.fz id T xs)):=λj y hy hy2=>by
 simp only[List.getElem?_map,Option.map_eq_some_iff]at hy;obtain⟨x0,k1,rfl⟩:=hy;rcases eZ k1 with⟨rfl,rfl,_⟩|⟨hne,k1⟩
 ·cases hy2
 ·cases x0 with
  |rows T xss ho=>exact k1
  |_=>cases hy2
theorem DI {st:St} (hs:SR F ρ st L h) {id n:Nat} {T:Ty} {xs:List (I T)} (hr:st.H[id]? =some (.row T n xs)):∃L2 h2,Abs.Shift L h L2 h2/\SR F ρ (st.fz id T xs) L2 h2:=by
 have enc:∀es,FR (.l T xs) (.imm (szT T) es)->EncL ρ ((st.H.set id .gone).map (Ob.fz id T xs)) (st.L.map λp=>(p.1,p.2.fz id T xs)) (trL id (szT T) es st.L L (st.L.map Prod.fst)):=λes hx t v hv=>by
  rw[uN]at hv;obtain⟨v0,h1,rfl⟩:=Option.map_eq_some_iff.1 hv;obtain⟨av,h2,h3⟩:=hs.slots t v0 h1;exact⟨_,wx id _ es st.L L t h1 h2 _ (ug h1),(Bu hr hx h3).mono (v7 hr)⟩
 rcases hs.heap.row id n T xs hr with⟨a,es,h1,h2,h3⟩|⟨h1,rfl,h3⟩
 ·have hbk:∀(b:Nat),ρ[id]?≠some (some b)->(h.set a none)[b]? =h[b]? :=λb hb=>sN (λe=>hb (by rw[<-e];exact h1));refine⟨trL id (szT T) es st.L L (st.L.map Prod.fst),lS   id (szT T) es ρ st.H (h.set a none),⟨λE ι I act w r=> ?_⟩,enc es h3,wA      rfl hs.heap hr h3 hbk (by simp),vF    hs.fr hr hbk (by simp),hs.xr.keep (vF    (Fr.refl ρ st.H h) hr hbk (by simp)) (vI      hr)⟩;obtain⟨inf,hι,_,_⟩:=r.row h2;have hv:∀(c:C) (v:V) (u:Value),CR ρ st.H c v->Abs.VR I w ι v u->Abs.VR (λb=>I b\/b=inf.block) w ι (trV id (szT T) es c v) u:=λc v u hc hv=>by
   have hk:Abs.Keeps I (λb=>I b\/b=inf.block) w w:=⟨λ_ h=>.inl h,λ_ _ _=>rfl⟩;by_cases e:c= .o id
   ·subst e;simp only[trV,if_true];rcases hc.own hr with⟨a',rfl,h4⟩|⟨rfl,h4⟩
    ·rw[h1]at h4;cases h4;have hl:=h3.frl.len;have:=Abs.VR.fz r h2 hι h3.flats hv (Abs.jw (by simp[Abs.V.fits,hl]));simpa [Abs.V.fz,<-hl]using this
    ·rw[h1]at h4;cases h4
   ·have e2:trV id (szT T) es c v=v:=by
     unfold trV;split
     ·rename_i j;rw[if_neg (λhb=>e (by rw[hb]))]
     ·rfl
    rw[e2];exact hv.keep (Abs.Grows.refl _) hk
  refine⟨_,vx r (At r (r.freeze h2 hι) ⟨λ_ h=>.inl h,λ_ _ _=>rfl⟩ hs.slots hv) hs.heap (λb o hb=> ?_) hv⟩;rcases eZ hb with⟨_,e,_⟩|⟨_,hb⟩
  ·cases e
  ·exact hb
 ·refine⟨trL id (szT T) [] st.L L (st.L.map Prod.fst),lS   id (szT T) [] ρ st.H h,⟨λE ι I act w r=> ?_⟩,enc [] (.nil_ h3),wA      rfl hs.heap hr (.nil_ h3) (λ_ _=>rfl) rfl,vF    hs.fr hr (λ_ _=>rfl) rfl,hs.xr.keep (vF    (Fr.refl ρ st.H h) hr (λ_ _=>rfl) rfl) (vI      hr)⟩;have hv:∀(c:C) (v:V) (u:Value),CR ρ st.H c v->Abs.VR I w ι v u->Abs.VR I w ι (trV id (szT T) [] c v) u:=λc v u hc hv=>by
   by_cases e:c= .o id
   ·subst e;simp only[trV,if_true];rcases hc.own hr with⟨a',rfl,h4⟩|⟨rfl,h4⟩
    ·rw[h1]at h4;cases h4
    ·cases hv;exact .imm0 (Nat.zero_le _)
   ·have e2:trV id (szT T) [] c v=v:=by
     unfold trV;split
     ·rename_i j;rw[if_neg (λhb=>e (by rw[hb]))]
     ·rfl
    rw[e2];exact hv
  exact⟨I,vx r (At r r (Abs.Keeps.refl _ _) hs.slots hv) hs.heap (λ_ _ h=>h) hv⟩
structure Conv (h:ag) (a:Nat) (es:List (List V)) (T:Ty) (xss:List (List (I T))) (n:Nat) (hk:ag) (ek:List (List V)):Prop where
 main:hk[a]? =some (some (.row 1 ek))
 len:ek.length=es.length
 done:∀(i:Nat) (xs:List (I T)) (e:List V),i<n->xss[i]? =some xs->ek[i]? =some e->∃es',e=[.imm (szT T) es']/\FR (.l T xs) (.imm (szT T) es')
 rest:∀i,n<=i->ek[i]? =es[i]?
 same:∀c,c≠a->(∀i m,i<n->es[i]?≠some [.own c 0 m])->hk[c]? =h[c]?
 hlen:hk.length=h.length
theorem Conv.ones {a n:Nat} {es ek:List (List V)} {T:Ty} {xss:List (List (I T))} {hk:ag} (c:Conv h a es T xss n hk ek) (hl:es.length=xss.length) (h1:∀e∈es,e.length=1):∀e∈ek,e.length=1:=λe he=>by
 obtain⟨i,hi⟩:=List.getElem?_of_mem he;by_cases hn:i<n
 ·have hlt:=(gI.1 hi).1;have hx:i<xss.length:=by have:=c.len;omega
  obtain⟨es',rfl,_⟩:=c.done i _ e hn (List.getElem?_eq_getElem hx) hi;rfl
 ·rw[c.rest i (by omega)]at hi;exact h1 e (mG hi)
theorem rV {id a:Nat} {T:Ty} {xss:List (List (I T))} {es:List (List V)} (X:XAt F ρ H h id T xss none a es):∀n,n<=es.length->∃hk ek,Conv h a es T xss n hk ek/\∀L,Abs.Shift L h L hk
 |0,_=>⟨h,es,⟨X.main,rfl,λi _ _ hi=>by omega,λ_ _=>rfl,λ_ _ _=>rfl,rfl⟩,λL=>.refl _ _⟩
 | n + 1, hn => by
  obtain⟨hk,ek,c,sh⟩:=rV X n (by omega);have hx:n<xss.length:=by rw[<-X.len];omega
  have he0:es[n]? =some es[n]:=List.getElem?_eq_getElem (by omega);have hx0:xss[n]? =some xss[n]:=List.getElem?_eq_getElem hx;have hek:ek[n]? =some es[n]:=(c.rest n (Nat.le_refl n)).trans he0;have hnk:n<ek.length:=(gI.1 hek).1;have halt:a<hk.length:=(gI.1 c.main).1;rcases X.sub n _ _ (by simp) hx0 he0 with⟨he,hxs⟩|⟨b,es',he,hb,hf⟩
  ·have himp:Imp1 es[n] [.imm (szT T) []]:=by
    rw[he];refine⟨rfl,λj h1 h2=> ?_⟩;have:j=0:=by simp at h2;omega
    subst this;intro I w ι u hu;cases hu with
    |lit _=>exact .imm0 (Nat.zero_le _)
   have himps:Imps ek (ek.set n [.imm (szT T) []]):=by
    have:=(Imps.refl ek).set himp n
    rwa [show ek.set n es[n]=ek from by
     have e:ek[n]=es[n]:=by rw[List.getElem?_eq_getElem hnk]at hek;exact Option.some.inj hek
     rw[<-e,List.set_getElem_self]]at this
   refine⟨hk.set a (some (.row 1 (ek.set n [.imm (szT T) []]))),ek.set n [.imm (szT T) []],⟨sS halt,by simp[c.len],λi xs e hi h1 h2=> ?_,λi hi=> ?_,λd hd hsm=> ?_,by simp[c.hlen]⟩,λL=>(sh L).trans (Shift.imp c.main himps (λe hm=> ?_))⟩
   ·by_cases hin:i=n
    ·subst hin;rw[sS hnk]at h2;cases h2;rw[hx0]at h1;cases h1;rw[hxs];exact⟨[],rfl,.nil_ X.pos⟩
    ·rw[sN (λe=>hin e.symm)]at h2;exact c.done i xs e (by omega) h1 h2
   ·rw[sN (by omega)];exact c.rest i (by omega)
   ·rw[sN (λe=>hd e.symm)];exact c.same d hd λi m hi=>hsm i m (by omega)
   ·rcases List.mem_or_eq_of_mem_set hm with hm|rfl
    ·exact c.ones X.len X.one e hm
    ·rfl
  ·have hlen:es'.length=xss[n].length:=by cases hf with|l _ hl _ _=>exact hl
   obtain⟨hba,hblt,_,_⟩:=X.subs n b _ (by simp) (he0.trans (by rw[he]));have hbk:hk[b]? =some (some (.row (szT T) es')):=by
    rw[c.same b hba (λi m hi e=>by
     have:=X.inj i n b _ _ (by simp) (by simp) e (he0.trans (by rw[he]));omega)]
    exact hb
   -- what a cell says of b
   have cell:∀(i:Nat) (e:List V),ek[i]? =some e->i≠n->e.map (Abs.V.fz b (szT T) es')=e/\e.all (Abs.V.fits b es'.length)=true:=λi e hi hin=>by
    by_cases hlt:i<n
    ·have hxi:i<xss.length:=by omega
     obtain⟨es2,rfl,_⟩:=c.done i _ e hlt (List.getElem?_eq_getElem hxi) hi;exact⟨rfl,rfl⟩
    ·have hi':=hi;rw[c.rest i (by omega)]at hi;have hlt2:=(gI.1 hi).1;have hxi:i<xss.length:=by rw[<-X.len];exact hlt2
     rcases X.sub i _ e (by simp) (List.getElem?_eq_getElem hxi) hi with⟨rfl,_⟩|⟨b2,es2,rfl,_,_⟩
     ·exact⟨rfl,rfl⟩
     ·have hne:b2≠b:=λe=>by
       subst e;exact hin (X.inj i n _ _ _ (by simp) (by simp) hi (he0.trans (by rw[he])))
      simp[Abs.V.fz,Abs.V.fits,hne]
   have celln:es[n].map (Abs.V.fz b (szT T) es')=[.imm (szT T) es']/\es[n].all (Abs.V.fits b es'.length)=true:=by
    rw[he];simp[Abs.V.fz,Abs.V.fits,<-hlen]
   have hfit:ek.all (·.all (Abs.V.fits b es'.length))=true:=by
    rw[aT];intro e hm;obtain⟨i,hi⟩:=List.getElem?_of_mem hm;by_cases hin:i=n
    ·subst hin;rw[hek]at hi;cases hi;exact celln.2
    ·exact(cell i e hi hin).2
   have get:∀(i:Nat),(ek.map (·.map (Abs.V.fz b (szT T) es')))[i]? =(ek[i]?).map (·.map (Abs.V.fz b (szT T) es')):=λi=>List.getElem?_map ..;have ha2:a<(hk.set b none).length:=by simpa using halt
   refine⟨(hk.set b none).set a (some (.row 1 (ek.map (·.map (Abs.V.fz b (szT T) es'))))),ek.map (·.map (Abs.V.fz b (szT T) es')),⟨sS ha2,by simp[c.len],λi xs e hi h1 h2=> ?_,λi hi=> ?_,λd hd hsm=> ?_,by simp[c.hlen]⟩,λL=>(sh L).trans (Abs.Shift.freezeCell b a hbk c.main (λe=>hba e.symm) hf.flats hfit)⟩
   ·rw[get]at h2;obtain⟨e0,h3,rfl⟩:=Option.map_eq_some_iff.1 h2;by_cases hin:i=n
    ·subst hin;rw[hek]at h3;cases h3;rw[hx0]at h1;cases h1;exact⟨es',celln.1,hf⟩
    ·rw[(cell i e0 h3 hin).1];exact c.done i xs e0 (by omega) h1 h3
   ·rw[get,<-c.rest i (by omega)];cases h3:ek[i]? with
    |none=>rfl
    |some e0=>simp[(cell i e0 h3 (by omega)).1]
   ·rw[sN (λe=>hd e.symm),sN (λe=>by
     subst e;exact hsm n _ (Nat.lt_succ_self n) (he0.trans (by rw[he])))]
    exact c.same d hd λi m hi=>hsm i m (by omega)
theorem kf {id:Nat} {T U:Ty} {xss:List (List (I T))} {ho:Option Nat} {m:Nat} {ys:List (I U)} (hr:H[id]? =some (.rows T xss ho)) (hl:xss.length=ys.length) {c:C} {v:V} (hc:CR ρ H c v):CR ρ (H.set id (.row U m ys)) c v:=by
 have get:∀{j:Nat} {z:Ob},H[j]? =some z->z.isRows=false->(H.set id (.row U m ys))[j]? =some z:=λ{j z} hz hzr=>by
  rw[sN (λe=>by subst e;rw[hr]at hz;cases hz;cases hzr)];exact hz
 have self:(H.set id (.row U m ys))[id]? =some (.row U m ys):=sS (gI.1 hr).1
 induction hc with
 |fl h=>exact .fl h
 |lc h=>exact .lc h
 |nil h=>exact .nil h
 |o h1 h2=>exact .o h1 (get h2 rfl)
 |oN h1 h2=>exact .oN h1 (get h2 rfl)
 |oG h=>exact .oG (get h rfl)
 | @oR j a T' xss' ho' h1 h2 =>
  by_cases e:j=id
  ·subst e;rw[hr]at h2;cases h2;rw[hl];exact .o h1 self
  ·exact .oR h1 (by rw[sN (λx=>e x.symm)];exact h2)
 |r h1=>exact .r h1
 |p h1=>exact .p h1
 |e h1 h2 h3 h4 h5=>exact .e h1 (get h2 rfl) h3 h4 h5
 |eG h=>exact .eG (get h rfl)
 |q h=>exact .q h
 |f hl hr ih=>exact .f hl ih
 |m h1=>exact .m h1
 |zs=>exact .zs
 |zP=>exact .zP
 |zM=>exact .zM
 |zF=>exact .zF
theorem tB {id:Nat} {T U:Ty} {xss:List (List (I T))} {ho:Option Nat} {m:Nat} {ys:List (I U)} (hr:H[id]? =some (.rows T xss ho)) (hl:xss.length=ys.length) {x:AT} {av:AV} (hc:ATR ρ H x av):ATR ρ (H.set id (.row U m ys)) x av:=by
 induction hc with
 |one h=>exact .one (kf hr hl h)
 |agg h=>exact .agg ⟨h.1,λj h1 h2=>kf hr hl (h.2 j h1 h2)⟩
 |tup hl h ih=>exact .tup hl ih
theorem yf {st:St} (hs:SR F ρ st L h) {id:Nat} {T:Ty} {xss:List (List (I T))} (hr:st.H[id]? =some (.rows T xss none)):∃h2,Abs.Shift L h L h2/\SR F ρ ⟨st.L,st.H.set id (.row (.sl T) 0 xss)⟩ L h2:=by
 obtain⟨uniq,a,es,X⟩:=hs.xr id T xss none hr;obtain⟨h2,ek,c,sh⟩:=rV X es.length (Nat.le_refl _);have hid:=(gI.1 hr).1;have self:(st.H.set id (.row (.sl T) 0 xss))[id]? =some (.row (.sl T) 0 xss):=sS hid;have hlv:∀{j:Nat},live (st.H.set id (.row (.sl T) 0 xss)) j->j≠id->live st.H j:=λ{j} ⟨y,y1,y2⟩ hne=>⟨y,by rw[sN (λe=>hne e.symm)]at y1;exact y1,y2⟩
 -- places that other objects use are as they were
 have same:∀b,b≠a->(∀i m,es[i]?≠some [V.own b 0 m])->h2[b]? =h[b]? :=λb hb hsm=>c.same b hb λi m _=>hsm i m
 have sameL:∀j b,ρ[j]? =some (some b)->live st.H j->h2[b]? =h[b]? :=λj b hj hl=>same b (λe=>X.nl j (by rw[<-e];exact hj) hl) λi m e=>by
  obtain⟨_,_,g,_⟩:=X.subs i b m (by simp) e;exact g j hj hl
 have hfr:FR (.l (.sl T) xss) (.imm (szT (.sl T)) ek):=by
  refine .l (by simp[szT]) (c.len.trans X.len) (λe he=> ?_) (λm h1 h2 j h3 h4=> ?_)
  ·rw[c.ones X.len X.one e he];rfl
  ·obtain⟨es',e1,e2⟩:=c.done m xss[m] ek[m] (by rw[<-c.len];exact h2) (List.getElem?_eq_getElem h1) (List.getElem?_eq_getElem h2);have hj:j=0:=by rw[e1]at h4;simp at h4;omega
   subst hj;simp only[e1];exact e2
 refine⟨h2,sh L,λt v hv=> ?_,HpR.mk' (by simp[hs.heap.len]) (λj x hx=> ?_) (λi j b k1 k2 l1 l2=> ?_) (λi b hi=>by rw[c.hlen];exact hs.heap.lt i b hi),⟨by rw[c.hlen];exact hs.fr.len,λj b hj hl hb=> ?_,λb hb hn=> ?_,hs.fr.rho,λj x hx=> ?_⟩,XR.none_ λj y hy=> ?_⟩
 ·obtain⟨av,k1,k2⟩:=hs.slots t v hv;exact⟨av,k1,tB hr rfl k2⟩
 ·rcases eZ      hx with⟨rfl,rfl,_⟩|⟨hne,hx⟩
  ·exact .inl ⟨a,_,X.rho,c.main,ek,rfl,hfr⟩
  ·by_cases hd:x.dead=true
   ·exact .inr (.inr hd)
   have hd:x.dead=false:=by simpa using hd
   rcases hs.heap.ob hx with⟨b,y,m1,m2,m3⟩|m1|m1
   ·refine .inl ⟨b,y,m1,(sameL j b m1 ⟨x,hx,hd⟩).trans m2,?_⟩;cases x with
    |box cs=>obtain⟨vs,p1,p2⟩:=m3;exact⟨vs,p1,p2.1,λj h1 h2=>kf hr rfl (p2.2 j h1 h2)⟩
    |row T n xs=>exact m3
    |map T kvs=>exact m3
    |gone=>trivial
    |rows T xss ho=>trivial
   ·exact .inr (.inl m1)
   ·exact .inr (.inr m1)
 ·by_cases e1:i=id<;>by_cases e2:j=id
  ·omega
  ·subst e1;rw[X.rho]at k1;cases k1;exact absurd (hlv l2 e2) (X.nl j k2)
  ·subst e2;rw[X.rho]at k2;cases k2;exact absurd (hlv l1 e1) (X.nl i k1)
  ·exact hs.heap.inj i j b k1 k2 (hlv l1 e1) (hlv l2 e2)
 ·by_cases e1:j=id
  ·subst e1;rw[X.rho]at hj;cases hj;exact X.old hb
  ·exact hs.fr.old j b hj (hlv hl e1) hb
 ·have hba:b≠a:=λe=>by
   subst e;obtain⟨id0,q1,q2⟩:=X.old hb;exact hn id0 q1 q2
  rw[same b hba (λi m e=>by
   obtain⟨_,_,_,g⟩:=X.subs i b m (by simp) e;obtain⟨id0,q1,q2⟩:=g hb;exact hn id0 q1 q2)]
  exact hs.fr.same b hb hn
 ·by_cases e1:j=id
  ·subst e1;have:=X.new;rw[hx]at this;cases this
  ·obtain⟨y,q1,q2⟩:=hs.fr.ob j x hx;exact⟨y,by rw[sN (λe=>e1 e.symm)];exact q1,q2⟩
 ·rcases eZ      hy with⟨rfl,rfl,_⟩|⟨hne,hy⟩
  ·rfl
  ·cases hb:y.isRows with
   |false=>rfl
   |true=>exact absurd (uniq j y hy hb) hne
theorem EZ {st:St} (hs:SR F ρ st L h) {id:Nat} {T:Ty} {xss:List (List (I T))} (hr:st.H[id]? =some (.rows T xss none)):∃L2 h2,Abs.Shift L h L2 h2/\SR F ρ (st.fz id (.sl T) xss) L2 h2:=by
 obtain⟨h1,sh,hs1⟩:=yf hs hr;obtain⟨L2,h2,sh2,hs2⟩:=DI hs1 (sS (gI.1 hr).1);refine⟨L2,h2,sh.trans sh2,?_⟩;have e:St.fz id (.sl T) xss ⟨st.L,st.H.set id (.row (.sl T) 0 xss)⟩=st.fz id (.sl T) xss:=by
  unfold St.fz;simp only[List.set_set]
 rw[<-e];exact hs2
theorem ef :∀{ids:List Nat} {st:St} {L:Env} {h:ag},SR F ρ st L h->∃L2 h2,Abs.Shift L h L2 h2/\SR F ρ (bM ids st) L2 h2
 |[],st,L,h,hs=>⟨L,h,.refl _ _,hs⟩
 | id :: ids, st, L, h, hs => by
  simp only[bM];split
  ·rename_i T n xs hr;obtain⟨L2,h2,k1,k2⟩:=DI hs hr;obtain⟨L3,h3,k3,k4⟩:=ef (ids:=ids) k2;exact⟨L3,h3,k1.trans k3,k4⟩
  ·rename_i T xss hr;obtain⟨L2,h2,k1,k2⟩:=EZ hs hr;obtain⟨L3,h3,k3,k4⟩:=ef (ids:=ids) k2;exact⟨L3,h3,k1.trans k3,k4⟩
  ·exact ef hs
end
theorem rQ :∀{ks:List Nat} {id j:Nat},pos ks id=some j->ks[j]? =some id
 |[],_,_,h=>by cases h
 | k :: ks, id, j, h => by
  simp only[pos]at h;split at h
  ·rename_i hb;cases h;simp[nB hb]
  ·split at h
   ·rename_i m hm;cases h;simpa using rQ hm
   ·cases h
theorem ii :∀{ks:List Nat},eF ks=true->∀{i j x:Nat},ks[i]? =some x->ks[j]? =some x->i=j
 |[],_,_,_,_,h,_=>by simp at h
 | k :: ks, hn, i, j, x, h1, h2 => by
  simp only[eF,bA,Bool.not_eq_true']at hn;have hk:k∉ks:=by
   intro hm;have:=hn.1;rw[List.contains_iff_mem.2 hm]at this;cases this
  cases i with
  | zero =>
   cases j with
   |zero=>rfl
   | succ j =>
    simp at h1 h2;subst h1;exact absurd (mG h2) hk
  | succ i =>
   cases j with
   | zero =>
    simp at h1 h2;subst h2;exact absurd (mG h1) hk
   |succ j=>simp at h1 h2;rw[ii hn.2 h1 h2]
theorem kT {H:List Ob}:∀{ks:List Nat} {xs:List Ob},qi H ks=some xs->xs.length=ks.length/\∀(j id:Nat),ks[j]? =some id->∃x,H[id]? =some x/\xs[j]? =some x
 |[],xs,h=>by cases h;exact⟨rfl,λj id h=>by simp at h⟩
 | k :: ks, xs, h => by
  simp only[qi]at h;split at h
  ·rename_i x ys h1 h2;cases h;obtain⟨i1,i2⟩:=kT          h2;refine⟨by simp[i1],λj id hj=> ?_⟩;cases j with
   |zero=>simp at hj;subst hj;exact⟨x,h1,rfl⟩
   |succ j=>exact i2 j id (by simpa using hj)
  ·cases h
theorem jl {g:Nat->Option Nat}:∀{xs ys:List Ob},obs g xs=some ys->ys.length=xs.length/\∀(j:Nat) (x:Ob),xs[j]? =some x->∃y,ys[j]? =some y/\x.mv g=some y
 |[],ys,h=>by cases h;exact⟨rfl,λj id h=>by simp at h⟩
 | k :: ks, xs, h => by
  simp only[obs]at h;split at h
  ·rename_i x ys h1 h2;cases h;obtain⟨i1,i2⟩:=jl       h2;refine⟨by simp[i1],λj id hj=> ?_⟩;cases j with
   |zero=>simp at hj;subst hj;exact⟨x,rfl,h1⟩
   |succ j=>exact i2 j id (by simpa using hj)
  ·cases h
theorem eC {keep:List Nat} {H Hc:List Ob} (h:jS keep H=some Hc):Hc.length=keep.length/\∀(j id:Nat),keep[j]? =some id->∃x y,H[id]? =some x/\x.mv (pos keep)=some y/\Hc[j]? =some y.anew:=by
 unfold jS at h;split at h
 ·rename_i xs h1;split at h
  ·rename_i ys h2;cases h;obtain⟨a1,a2⟩:=kT h1;obtain⟨b1,b2⟩:=jl h2;refine⟨by simp[a1,b1],λj id hj=> ?_⟩;obtain⟨x,c1,c2⟩:=a2 j id hj;obtain⟨y,d1,d2⟩:=b2 j x c2;exact⟨x,y,c1,d2,by simp[d1]⟩
  ·cases h
 ·cases h
def dd (ρ:Rho) (keep:List Nat):Rho:=keep.map λid=>(ρ[id]?).getD none
def oh (g:Nat->Option Nat) (ρ:Rho) (H:List Ob) (ρ':Rho) (H':List Ob):Prop:=∀(id j:Nat),g id=some j->(∀x,ρ[id]? =some x->ρ'[j]? =some x)/\∀(x:Ob),H[id]? =some x->∃y n,H'[j]? =some y/\(x= .gone->y= .gone)/\(∀T m xs,x= .row T m xs->y= .row T n xs)/\∀T xss ho,x= .rows T xss ho->y= .rows T xss ho
section
variable {P : Program} {E : Abs.Cx} {F : In} {ρ ρ' : Rho} {H H' : List Ob} {D : List (Nat × AT)} {L : Env} {h : ag} {g : Nat → Option Nat}
theorem qS :∀{cs ds:List C},C.mv.mvK g cs=some ds->ds.length=cs.length/\∀(j:Nat) (h1:j<cs.length) (h2:j<ds.length),cs[j].mv g=some ds[j]
 | [], ds, h => by
  rw[C.mv.mvK.eq_def]at h;cases h;exact⟨rfl,λj h=>by simp at h⟩
 | c :: cs, ds, h => by
  rw[C.mv.mvK.eq_def]at h;simp only at h;split at h
  ·rename_i x ys h1 h2;cases h;obtain⟨i1,i2⟩:=qS       h2;refine⟨by simp[i1],λj k1 k2=> ?_⟩;cases j with
   |zero=>exact h1
   |succ j=>exact i2 j (by simpa using k1) (by simpa using k2)
  ·cases h
theorem B7 {id:Nat} {c':C} (hm:(C.o id).mv g=some c'):∃j,g id=some j/\c'= .o j:=by
 simp only[C.mv]at hm;split at hm
 ·rename_i j hj;cases hm;exact⟨j,hj,rfl⟩
 ·cases hm
theorem DK (hg:oh g ρ H ρ' H') {c c':C} {v:V} (hc:CR ρ H c v) (hm:c.mv g=some c'):CR ρ' H' c' v:=by
 induction hc generalizing c' with
 | fl h =>
  rename_i c v;have:c'=c:=by cases h<;>(simp only[C.mv,Option.some.injEq]at hm;exact hm.symm)
  rw[this];exact .fl h
 |lc h=>simp only[C.mv,Option.some.injEq]at hm;subst hm;exact .lc h
 |nil h=>simp only[C.mv,Option.some.injEq]at hm;subst hm;exact .nil h
 | o h1 h2 =>
  obtain⟨j,h3,rfl⟩:=B7 hm;obtain⟨k1,k2⟩:=hg _ _ h3;obtain⟨y,n,k3,_,k5,_⟩:=k2 _ h2;have:=k5 _ _ _ rfl;subst this;exact .o (k1 _ h1) k3
 | oN h1 h2 =>
  obtain⟨j,h3,rfl⟩:=B7 hm;obtain⟨k1,k2⟩:=hg _ _ h3;obtain⟨y,n,k3,_,k5,_⟩:=k2 _ h2;have:=k5 _ _ _ rfl;subst this;exact .oN (k1 _ h1) k3
 | oG h1 =>
  obtain⟨j,h3,rfl⟩:=B7 hm;obtain⟨k1,k2⟩:=hg _ _ h3;obtain⟨y,n,k3,k4,_⟩:=k2 _ h1;rw[k4 rfl]at k3;exact .oG k3
 | oR h1 h2 =>
  obtain⟨j,h3,rfl⟩:=B7 hm;obtain⟨k1,k2⟩:=hg _ _ h3;obtain⟨y,n,k3,_,_,k5⟩:=k2 _ h2;have:=k5 _ _ _ rfl;subst this;exact .oR (k1 _ h1) k3
 |r _=>cases hm
 | p h1 =>
  simp only[C.mv]at hm;split at hm
  ·rename_i j hj;cases hm;exact .p ((hg _ _ hj).1 _ h1)
  ·cases hm
 |e _ _ _ _ _=>cases hm
 |eG _=>cases hm
 |q h=>simp only[C.mv,Option.some.injEq]at hm;subst hm;exact .q h
 | @f fn caps vs hl hr ih =>
  rw[C.mv.eq_def]at hm;simp only at hm;split at hm
  ·rename_i ds hd;cases hm;obtain⟨h1,h2⟩:=qS hd;exact .f (by rw[h1];exact hl) (λj k1 k2=>ih j (by omega) k2 (h2 j (by omega) k1))
  ·cases hm
 | m h1 =>
  simp only[C.mv]at hm;split at hm
  ·rename_i j hj;cases hm;exact .m ((hg _ _ hj).1 _ h1)
  ·cases hm
 |zs=>simp only[C.mv,Option.some.injEq]at hm;subst hm;exact .zs
 |zP=>simp only[C.mv,Option.some.injEq]at hm;subst hm;exact .zP
 |zM=>simp only[C.mv,Option.some.injEq]at hm;subst hm;exact .zM
 |zF=>simp only[C.mv,Option.some.injEq]at hm;subst hm;exact .zF
theorem sC :∀{cs ds:List C},mvs g cs=some ds->ds.length=cs.length/\∀(j:Nat) (h1:j<cs.length) (h2:j<ds.length),cs[j].mv g=some ds[j]
 |[],ds,h=>by cases h;exact⟨rfl,λj h=>by simp at h⟩
 | c :: cs, ds, h => by
  simp only[mvs]at h;split at h
  ·rename_i x ys h1 h2;cases h;obtain⟨i1,i2⟩:=sC       h2;refine⟨by simp[i1],λj k1 k2=> ?_⟩;cases j with
   |zero=>exact h1
   |succ j=>exact i2 j (by simpa using k1) (by simpa using k2)
  ·cases h
theorem yN (hg:oh g ρ H ρ' H') {cs ds:List C} {vs:List V} (hc:CRs ρ H cs vs) (hm:mvs g cs=some ds):CRs ρ' H' ds vs:=by
 obtain⟨h1,h2⟩:=sC hm;exact⟨by rw[h1];exact hc.1,λj k1 k2=>DK hg (hc.2 j (by omega) k2) (h2 j (by omega) k1)⟩
theorem jk :∀{cs ds:List AT},AT.mv.mvA g cs=some ds->ds.length=cs.length/\∀(j:Nat) (h1:j<cs.length) (h2:j<ds.length),cs[j].mv g=some ds[j]
 | [], ds, h => by
  rw[AT.mv.mvA.eq_def]at h;cases h;exact⟨rfl,λj h=>by simp at h⟩
 | c :: cs, ds, h => by
  rw[AT.mv.mvA.eq_def]at h;simp only at h;split at h
  ·rename_i x ys h1 h2;cases h;obtain⟨i1,i2⟩:=jk       h2;refine⟨by simp[i1],λj k1 k2=> ?_⟩;cases j with
   |zero=>exact h1
   |succ j=>exact i2 j (by simpa using k1) (by simpa using k2)
  ·cases h
theorem px (hg:oh g ρ H ρ' H') {v u:AT} {av:AV} (hc:ATR ρ H v av) (hm:v.mv g=some u):ATR ρ' H' u av:=by
 induction hc generalizing u with
 | one h =>
  rw[AT.mv.eq_def]at hm;simp only at hm;split at hm
  ·rename_i d hd;cases hm;exact .one (DK hg h hd)
  ·cases hm
 | agg h =>
  rw[AT.mv.eq_def]at hm;simp only at hm;split at hm
  ·rename_i d hd;cases hm;exact .agg (yN hg h hd)
  ·cases hm
 | tup hl h ih =>
  rw[AT.mv.eq_def]at hm;simp only at hm;split at hm
  ·rename_i ys hy;cases hm;obtain⟨h1,h2⟩:=jk hy;exact .tup (by rw[h1];exact hl) (λj k1 k2=>ih j (by omega) k2 (h2 j (by omega) k1))
  ·cases hm
theorem CN {x:Ob} {y:Option Abs.Ob} (h:obR ρ H x y):obR ρ H x.anew y:=by cases x<;>exact h
theorem s4 (hg:oh g ρ H ρ' H') {x x':Ob} {y:Option Abs.Ob} (h:obR ρ H x y) (hm:x.mv g=some x'):obR ρ' H' x' y:=by
 cases x with
 | box cs =>
  obtain⟨vs,h1,h2⟩:=h;simp only[Ob.mv]at hm;split at hm
  ·rename_i ds hd;cases hm;exact⟨vs,h1,yN hg h2 hd⟩
  ·cases hm
 |row T n xs=>cases hm;exact h
 |map T kvs=>cases hm;exact h
 |gone=>cases hm;trivial
 |rows T xss ho=>cases hm;trivial
theorem dK {x x':Ob} (hm:x.mv g=some x'):(x= .gone->x'= .gone)/\(∀T m xs,x= .row T m xs->x'= .row T m xs)/\evo0 x x':=by
 cases x with
 | box cs =>
  simp only[Ob.mv]at hm;split at hm
  ·cases hm;exact⟨λe=>(by cases e),λ_ _ _ e=>(by cases e),.inr (.inr (.inl ⟨_,_,rfl,rfl⟩))⟩
  ·cases hm
 |row T n xs=>cases hm;exact⟨λe=>(by cases e),λ_ _ _ e=>(by cases e;rfl),evo0.refl _⟩
 |map T kvs=>cases hm;exact⟨λe=>(by cases e),λ_ _ _ e=>(by cases e),evo0.refl _⟩
 |gone=>cases hm;exact⟨λ_=>rfl,λ_ _ _ e=>(by cases e),evo0.refl _⟩
 |rows T xss ho=>cases hm;exact⟨λe=>(by cases e),λ_ _ _ e=>(by cases e),evo0.refl _⟩
theorem d7 {x x':Ob} (hm:x.mv g=some x'):x'.dead=x.dead:=by
 cases x with
 | box cs =>
  simp only[Ob.mv]at hm;split at hm
  ·cases hm;rfl
  ·cases hm
 |_=>cases hm;rfl
theorem ji {x x':Ob} (hm:x.mv g=some x'):∀T xss ho,x= .rows T xss ho->x'= .rows T xss ho:=λT xss ho e=>by subst e;cases hm;rfl
theorem oU (x:Ob):x.anew.dead=x.dead:=by cases x<;>rfl
theorem ge (x:Ob):(x= .gone->x.anew= .gone)/\(∀T m xs,x= .row T m xs->x.anew= .row T 0 xs)/\evo0 x x.anew:=by
 cases x with
 |row T n xs=>exact⟨λe=>(by cases e),λ_ _ _ e=>(by cases e;rfl),.inr (.inl ⟨T,n,xs,0,xs,rfl,rfl,rfl⟩)⟩
 |box cs=>exact⟨λe=>(by cases e),λ_ _ _ e=>(by cases e),evo0.refl _⟩
 |map T kvs=>exact⟨λe=>(by cases e),λ_ _ _ e=>(by cases e),evo0.refl _⟩
 |gone=>exact⟨λ_=>rfl,λ_ _ _ e=>(by cases e),evo0.refl _⟩
 |rows T xss ho=>exact⟨λe=>(by cases e),λ_ _ _ e=>(by cases e),evo0.refl _⟩
theorem ij {keep:List Nat} {Hc:List Ob} (hk:jS keep H=some Hc) {j id:Nat} (hj:keep[j]? =some id) (hl:live Hc j):live H id:=by
 obtain⟨k1,k2⟩:=eC hk;obtain⟨z,z1,z2⟩:=hl;obtain⟨x,y,c1,c2,c3⟩:=k2 j id hj;rw[z1]at c3;cases c3;exact⟨x,c1,by rw[<-d7 c2,<-oU y];exact z2⟩
theorem jh {keep:List Nat} {Hc:List Ob} (hp:HpR ρ H h) (hn:eF keep=true) (hk:jS keep H=some Hc):HpR (dd ρ keep) Hc h/\oh (pos keep) ρ H (dd ρ keep) Hc/\(∀(j id:Nat),keep[j]? =some id->(dd ρ keep)[j]? =ρ[id]?):=by
 obtain⟨k1,k2⟩:=eC hk;have hρ:∀(j id:Nat),keep[j]? =some id->(dd ρ keep)[j]? =ρ[id]? :=λj id hj=>by
  obtain⟨x,y,c1,_⟩:=k2 j id hj;have hlt:id<ρ.length:=by rw[hp.len];exact(gI.1 c1).1
  simp[dd,hj,List.getElem?_eq_getElem hlt]
 have hinv:∀(j:Nat) (x:Option Nat),(dd ρ keep)[j]? =some x->∃id,keep[j]? =some id/\ρ[id]? =some x:=λj x hx=>by
  have hlt:=(gI.1 hx).1;simp[dd]at hlt;have e:=List.getElem?_eq_getElem hlt;exact⟨_,e,by rw[<-hρ j _ e];exact hx⟩
 have hmv:oh (pos keep) ρ H (dd ρ keep) Hc:=λid j hj=>by
  have hj:=rQ hj;refine⟨λx hx=>by rw[hρ j id hj];exact hx,λx hx=> ?_⟩;obtain⟨x',y,c1,c2,c3⟩:=k2 j id hj;rw[hx]at c1;cases c1;obtain⟨d1,d2,_⟩:=dK c2;exact⟨_,0,c3,λe=>(ge y).1 (d1 e),λT m xs e=>(ge y).2.1 T m xs (d2 T m xs e),λT xss ho e=>by rw[ji c2 T xss ho e];rfl⟩
 have hlv:∀{j id:Nat},keep[j]? =some id->live Hc j->live H id:=λ{j id} hj=>ij hk hj
 refine⟨HpR.mk' (by simp[dd,k1]) (λj z hz=> ?_) (λi j a h1 h2 l1 l2=> ?_) (λi a h1=> ?_),hmv,hρ⟩
 ·have hlt:=(gI.1 hz).1;rw[k1]at hlt;have e:=List.getElem?_eq_getElem hlt;obtain⟨x,y,c1,c2,c3⟩:=k2 j _ e;rw[hz]at c3;cases c3;rcases hp.ob c1 with⟨a,w,m1,m2,m3⟩|⟨m1,T,n,rfl,m3⟩|hd
  ·exact .inl ⟨a,w,by rw[hρ j _ e];exact m1,m2,CN (s4 hmv m3 c2)⟩
  ·cases c2;exact .inr (.inl ⟨by rw[hρ j _ e];exact m1,T,0,rfl,m3⟩)
  ·exact .inr (.inr (by rw[oU,d7 c2];exact hd))
 ·obtain⟨i1,e1,f1⟩:=hinv i _ h1;obtain⟨j1,e2,f2⟩:=hinv j _ h2;have:=hp.inj i1 j1 a f1 f2 (hlv e1 l1) (hlv e2 l2);subst this;exact ii hn e1 e2
 ·obtain⟨i1,e1,f1⟩:=hinv i _ h1;exact hp.lt _ _ f1
end
def EncM (ρ:Rho) (H:List Ob) (D:List (Nat×AT)) (L:Env):Prop:=∀p∈D,∃av,L.lookup p.1=some av/\ATR ρ H p.2 av
theorem mr {α:Type} {D:List (Nat×α)} {t:Nat} {v:α} (h:D.lookup t=some v):(t,v)∈D:=by
 induction D with
 |nil=>simp at h
 | cons p D ih =>
  obtain⟨k,z⟩:=p;rw[List.lookup_cons]at h;by_cases e:t=k
  ·subst e;simp at h;subst h;simp
  ·have:(t==k)=false:=by simpa using e
   rw[this]at h;exact List.mem_cons_of_mem _ (ih h)
section
variable {P : Program} {E : Abs.Cx} {F : In} {ρ ρ' : Rho} {H H' : List Ob} {D : List (Nat × AT)} {L : Env} {h : ag}
theorem EncM.enc (h:EncM ρ H D L):EncL ρ H D L:=λt v hv=>h (t,v) (mr hv)
theorem EncM.mono (e:Ev ρ H ρ' H') (h:EncM ρ H D L):EncM ρ' H' D L:=λp hp=>let⟨av,h1,h2⟩:=h p hp;⟨av,h1,h2.mono e⟩
theorem j6 (hs:EncL ρ H D L):∀ts,EncM ρ H (slots D ts) L
 |[]=>λp hp=>by simp[slots]at hp
 | t :: ts => fun p hp => by
  simp only[slots]at hp;split at hp
  ·rename_i v hv;rcases List.mem_cons.1 hp with rfl|hp
   ·exact hs t v hv
   ·exact j6 hs ts p hp
  ·exact j6 hs ts p hp
structure Mat (F:In) (h:ag) (ρ:Rho) (H:List Ob) (ρ':Rho) (H':List Ob):Prop where
 heap:HpR ρ' H' h
 ev:Ev ρ H ρ' H'
 fr:Fr F ρ' H' h
theorem Mat.refl (hp:HpR ρ H h) (hf:Fr F ρ H h):Mat F h ρ H ρ H:=⟨hp,Ev.refl _ _,hf⟩
theorem Mat.trans {ρ'':Rho} {H'':List Ob} (a:Mat F h ρ H ρ' H') (b:Mat F h ρ' H' ρ'' H''):Mat F h ρ H ρ'' H'':=⟨b.heap,a.ev.trans b.ev,b.fr⟩
theorem pL {T:Ty} (hT:0<szT T) (hp:HpR ρ H h) (hf:Fr F ρ H h):Mat F h ρ H (ρ++[none]) (H++[.row T 0 []])/\CR (ρ++[none]) (H++[.row T 0 []]) (.o H.length) (.lit (.slice none 0 0)):=
 ⟨⟨hp.nilRow hT,Ev.push _ _,hf.nilRow hp.len _⟩,by obtain⟨m1,_⟩:=pF hT hp;obtain⟨u,e,k⟩:=m1.one';cases e;exact k⟩
theorem CR.nil' {T:Ty} {v:V} (hc:CR ρ H (.nil T) v):v= .lit (.slice none 0 0)/\0<szT T:=by
 cases hc with
 |fl h=>cases h
 |nil hp=>exact⟨rfl,hp⟩
theorem CRs.head {c:C} {cs:List C} {vs:List V} (h:CRs ρ H (c::cs) vs):∃v us,vs=v::us/\CR ρ H c v/\CRs ρ H cs us:=by
 cases vs with
 |nil=>have:=h.1;simp at this
 |cons v us=>exact⟨v,us,rfl,h.2 0 (by simp) (by simp),by have:=h.1;simpa using this,λj h1 h2=>h.2 (j+1) (by simpa using h1) (by simpa using h2)⟩
theorem lz :∀{cs:List C} {H:List Ob} {ρ:Rho} {vs:List V},HpR ρ H h->Fr F ρ H h->CRs ρ H cs vs->∃ρ',Mat F h ρ H ρ' (eB cs H).2/\CRs ρ' (eB cs H).2 (eB cs H).1 vs
 |[],H,ρ,vs,hp,hf,hc=>⟨ρ,Mat.refl hp hf,hc⟩
 | c :: cs, H, ρ, vs, hp, hf, hc => by
  obtain⟨v,us,rfl,h1,h2⟩:=hc.head;by_cases e:∃T,c= .nil T
  ·obtain⟨T,rfl⟩:=e;obtain⟨rfl,hT⟩:=h1.nil';obtain⟨m1,m2⟩:=pL hT hp hf;obtain⟨ρ',k1,k2⟩:=lz m1.heap m1.fr (h2.mono m1.ev);exact⟨ρ',m1.trans k1,.cons (m2.mono k1.ev) k2⟩
  ·obtain⟨ρ',k1,k2⟩:=lz      hp hf h2;have:eB   (c::cs) H=(c::(eB   cs H).1,(eB   cs H).2):=by
    simp only[eB];split
    ·exact absurd ⟨_,rfl⟩ e
    ·rfl
   rw[this];exact⟨ρ',k1,.cons (h1.mono k1.ev) k2⟩
theorem Di {v:AT} {av:AV} (hp:HpR ρ H h) (hf:Fr F ρ H h) (hc:ATR ρ H v av):∃ρ',Mat F h ρ H ρ' (rE v H).2/\ATR ρ' (rE v H).2 (rE v H).1 av:=by
 cases hc with
 | @one c u h1 =>
  by_cases e:∃T,c= .nil T
  ·obtain⟨T,rfl⟩:=e;obtain⟨rfl,hT⟩:=h1.nil';obtain⟨m1,m2⟩:=pL hT hp hf;exact⟨_,m1,.one m2⟩
  ·have:rE   (.one c) H=(.one c,H):=by
    simp only[rE];split
    ·exact absurd ⟨_,rfl⟩ e
    ·rfl
   rw[this];exact⟨ρ,Mat.refl hp hf,.one h1⟩
 | agg h1 =>
  obtain⟨ρ',k1,k2⟩:=lz hp hf h1;exact⟨ρ',k1,.agg k2⟩
 |tup hl h1=>exact⟨ρ,Mat.refl hp hf,.tup hl h1⟩
theorem wn :∀{D:List (Nat×AT)} {H:List Ob} {ρ:Rho},HpR ρ H h->Fr F ρ H h->EncM ρ H D L->∃ρ',Mat F h ρ H ρ' (pY D H).2/\EncM ρ' (pY D H).2 (pY D H).1 L
 |[],H,ρ,hp,hf,hs=>⟨ρ,Mat.refl hp hf,hs⟩
 | (t, v) :: D, H, ρ, hp, hf, hs => by
  obtain⟨av,h1,h2⟩:=hs (t,v) (by simp);obtain⟨ρ1,k1,k2⟩:=Di hp hf h2;obtain⟨ρ2,m1,m2⟩:=wn k1.heap k1.fr (EncM.mono k1.ev (D:=D) (L:=L) (λp hp=>hs p (by simp[hp])));refine⟨ρ2,k1.trans m1,λp hp=> ?_⟩;simp only[pY]at hp;rcases List.mem_cons.1 hp with rfl|hp
  ·exact⟨av,h1,k2.mono m1.ev⟩
  ·exact m2 p hp
theorem mF :∀(cs:List C) (H:List Ob),∃t,(eB cs H).2=H++t
 |[],H=>⟨[],by simp[eB]⟩
 | c :: cs, H => by
  simp only[eB];split
  ·rename_i T;obtain⟨t,e⟩:=mF cs (H++[.row T 0 []]);exact⟨[.row T 0 []]++t,by simp[e]⟩
  ·exact mF cs H
theorem qg :∀{n:Nat} {H:List Ob} {ρ:Rho},HpR ρ H h->Fr F ρ H h->∃ρ',Mat F h ρ H ρ' (sf n H)
 |0,H,ρ,hp,hf=>⟨ρ,Mat.refl hp hf⟩
 | n + 1, H, ρ, hp, hf => by
  simp only[sf];split
  ·rename_i cs hb;obtain⟨a,vs,h1,h2,h3⟩:=hp.box n cs hb;obtain⟨ρ1,k1,k2⟩:=lz      hp hf h3;have b1:(eB   cs H).2[n]? =some (.box cs):=by
    obtain⟨t,e⟩:=mF cs H;rw[e,aL (gI.1 hb).1];exact hb
   have he:evo (.box cs) (.box (eB cs H).1):=.inr (.inr (.inl ⟨_,_,rfl,rfl⟩));have hev:Ev ρ1 (eB cs H).2 ρ1 ((eB cs H).2.set n (.box (eB cs H).1)):=Ev.set b1 he;have hs:=k1.heap.set (y:=some (.row vs.length [vs])) (k1.ev.rho _ _ h1) b1 (by simp) he ⟨vs,rfl,k2.mono hev⟩;have hsame:h.set a (some (.row vs.length [vs]))=h:=by
    obtain⟨hlt,e⟩:=gI.1 h2;rw[<-e,List.set_getElem_self]
   rw[hsame]at hs;have hf2:=k1.fr.set (y:=some (.row vs.length [vs])) (k1.ev.rho _ _ h1) b1 (by simp) he;rw[hsame]at hf2;obtain⟨ρ2,m1⟩:=qg (n:=n) hs hf2;exact⟨ρ2,k1.trans (Mat.trans ⟨hs,hev,hf2⟩ m1)⟩
  ·exact qg hp hf
theorem rA {g:Nat->Option Nat} (hg:oh g ρ H ρ' H'):∀{D D':List (Nat×AT)},mvL g D=some D'->EncM ρ H D L->EncM ρ' H' D' L
 |[],D',h,_=>by cases h;intro p hp;simp at hp
 | (t, v) :: D, D', h, hs => by
  simp only[mvL]at h;split at h
  ·rename_i u D2 h1 h2;cases h;intro p hp;rcases List.mem_cons.1 hp with rfl|hp
   ·obtain⟨av,k1,k2⟩:=hs (t,v) (by simp);exact⟨av,k1,px hg k2 h1⟩
   ·exact rA hg h2 (λq hq=>hs q (by simp[hq])) p hp
  ·cases h
theorem ua :∀{a b:List Nat},eqL a b=true->a=b
 |[],[],_=>rfl
 |[],_::_,h=>by cases h
 |_::_,[],h=>by cases h
 | x :: a, y :: b, h => by
  simp only[eqL,bA]at h;rw[nB h.1,ua h.2]
def In.ok (F:In) (r:Nat):Prop:=F.ρ.length=r/\F.H.length=r
theorem Fr.pick {keep:List Nat} {Hc:List Ob} {r:Nat} (hf:Fr F ρ H h) (hp:HpR ρ H h) (hi:F.ok r) (hn:eF keep=true) (hr:keep.take r=List.range r) (hk:jS keep H=some Hc):Fr F (dd ρ keep) Hc h:=by
 obtain⟨_,_,hρ⟩:=jh hp hn hk;obtain⟨k1,k2⟩:=eC hk;have hrk:∀id,id<r->keep[id]? =some id:=λid hid=>by
  have:(keep.take r)[id]? =(List.range r)[id]? :=by rw[hr]
  rw[List.getElem?_take_of_lt hid]at this;rw[this];simp[hid]
 refine⟨hf.len,λid a h1 hl h2=> ?_,hf.same,λid x h1=> ?_,λid x h1=> ?_⟩
 ·have hlt:=(gI.1 h1).1;simp[dd]at hlt;have e:=List.getElem?_eq_getElem hlt;rw[hρ id _ e]at h1;exact hf.old _ a h1 (ij hk e hl) h2
 ·have hid:id<r:=by rw[<-hi.1];exact(gI.1 h1).1
  rw[hρ id id (hrk id hid)];exact hf.rho id x h1
 ·have hid:id<r:=by rw[<-hi.2];exact(gI.1 h1).1
  obtain⟨y,m1,m2⟩:=hf.ob id x h1;obtain⟨x',y',c1,c2,c3⟩:=k2 id id (hrk id hid);rw[m1]at c1;cases c1;exact⟨_,c3,(m2.trans (dK c2).2.2).trans (ge y').2.2⟩
theorem hZ :∀(cs:List C) (H:List Ob),RowsSame H (eB cs H).2
 |[],H=>.refl H
 | c :: cs, H => by
  simp only[eB];split
  ·rename_i T;refine RowsSame.trans (H2:=H++[.row T 0 []]) (λid y h1 h2=> ?_) (hZ        cs _);rcases bX       h1 with⟨_,h1⟩|⟨_,rfl⟩
   ·exact h1
   ·cases h2
  ·exact hZ cs H
theorem xA (v:AT) (H:List Ob):RowsSame H (rE v H).2:=by
 unfold rE;split
 ·split
  ·intro id y h1 h2;rcases bX       h1 with⟨_,h1⟩|⟨_,rfl⟩
   ·exact h1
   ·cases h2
  ·exact .refl H
 ·exact hZ _ H
 ·exact .refl H
theorem ow :∀(D:List (Nat×AT)) (H:List Ob),RowsSame H (pY D H).2
 |[],H=>.refl H
 | (t, v) :: D, H => by
  simp only[pY];exact(xA v H).trans (ow D _)
theorem kK :∀(n:Nat) (H:List Ob),RowsSame H (sf n H)
 |0,H=>.refl H
 | n + 1, H => by
  simp only[sf];split
  ·rename_i cs hb;refine RowsSame.trans (H2:=(eB   cs H).2.set n (.box (eB   cs H).1)) (λid y h1 h2=> ?_) (kK        n _);rcases eZ      h1 with⟨_,rfl,_⟩|⟨_,h1⟩
   ·cases h2
   ·exact hZ cs H id y h1 h2
  ·exact kK n H
theorem BC (D:List (Nat×AT)) (n:Nat) (H:List Ob):RowsSame H (pY D (sf n H)).2:=(kK n H).trans (ow D _)
theorem XR.pick {keep:List Nat} {Hc:List Ob} {r:Nat} (hx:XR F ρ H h) (hp:HpR ρ H h) (hi:F.ok r) (hn:eF keep=true) (hr:keep.take r=List.range r) (hk:jS keep H=some Hc):XR F (dd ρ keep) Hc h:=λj T xss ho hj=>by
 obtain⟨_,_,hρ⟩:=jh hp hn hk;obtain⟨k1,k2⟩:=eC hk
 -- rows of own rows come from such
 have came:∀(j:Nat) (y:Ob),Hc[j]? =some y->y.isRows=true->∃id,keep[j]? =some id/\H[id]? =some y:=λj y hy hr=>by
  have hlt:=(gI.1 hy).1;rw[k1]at hlt;have e:=List.getElem?_eq_getElem hlt;obtain⟨x,z,c1,c2,c3⟩:=k2 j _ e;rw[hy]at c3;cases c3;refine⟨_,e,?_⟩;cases x with
  |rows T xss ho=>cases c2;exact c1
  | box cs =>
   simp only[Ob.mv]at c2;split at c2
   ·cases c2;cases hr
   ·cases c2
  |_=>cases c2;cases hr
 obtain⟨id,e,hid⟩:=came j _ hj rfl;obtain⟨u,a,es,X⟩:=hx id T xss ho hid;have nl:∀b,fQ ρ H b->fQ (dd ρ keep) Hc b:=λb hb i hi hl=>by
  have hlt:=(gI.1 hi).1;simp[dd]at hlt;have e:=List.getElem?_eq_getElem hlt;rw[hρ i _ e]at hi;exact hb _ hi (ij hk e hl)
 refine⟨λj' y hy hr'=> ?_,a,es,by rw[hρ j id e];exact X.rho,X.main,X.len,X.pos,X.one,nl a X.nl,X.old,?_,X.sub,λk b n g1 g2=>let⟨q1,q2,q3,q4⟩:=X.subs k b n g1 g2;⟨q1,q2,nl b q3,q4⟩,X.inj⟩
 ·obtain⟨id',e',hid'⟩:=came j' y hy hr';have:=u id' y hid' hr';subst this;exact ii hn e' e
 ·by_cases hlt:j<r
  ·have:keep[j]? =some j:=by
    have:(keep.take r)[j]? =(List.range r)[j]? :=by rw[hr]
    rw[List.getElem?_take_of_lt hlt]at this;rw[this];simp[hlt]
   rw[e]at this;cases this;exact X.new
  ·exact List.getElem?_eq_none (by rw[hi.2];omega)
theorem bu {R:Type} {r:Nat} {lv:List Nat} {st:St} {K:St->Option R} {x:R} (hi:F.ok r) (hs:SR F ρ st L h) (hk:ci r lv st K=some x):∃ρ' st',K st'=some x/\SR F ρ' st' L h:=by
 unfold ci at hk;obtain⟨ρ1,a1⟩:=qg (n:=st.H.length) hs.heap (Fr.refl ρ st.H h);obtain⟨ρ2,b1,b2⟩:=wn a1.heap a1.fr (EncM.mono a1.ev (j6 hs.slots lv));simp only at hk;split at hk
 ·rename_i H' L' h1 h2 h3;simp only[bA]at h1;obtain⟨c1,c2,_⟩:=jh b1.heap h1.1 h2;exact⟨_,_,hk,(rA c2 h3 b2).enc,c1,(hs.fr.trans b1.fr).pick b1.heap hi h1.1 (ua h1.2) h2,XR.pick (hs.xr.keep b1.fr (BC _ _ _)) b1.heap hi h1.1 (ua h1.2) h2⟩
 ·cases hk
end
end Go.Proofs.YtkinkfieackmdaaGreatDoor.Den
namespace Go.Proofs.YtkinkfieackmdaaGreatDoor.Abs
open Go.RowKit
theorem ARs.app {ι:List Inf} {I:Nat->Prop} {w:World} {a b:List AV} {cs ds:Array Value} (h:ARs ι I w a cs) (k:ARs ι I w b ds):ARs ι I w (a++b) (cs++ds):=by
 refine⟨by simp[h.1,k.1],λj hj=> ?_⟩;by_cases e:j<a.length
 ·obtain⟨c,h1,h2⟩:=h.2 j e;exact⟨c,by rw[Array.getElem?_append_left (by rw[h.1];exact e)];exact h1,by rw[List.getElem_append_left e];exact h2⟩
 ·obtain⟨c,h1,h2⟩:=k.2 (j-a.length) (by simp at hj;omega);exact⟨c,by rw[Array.getElem?_append_right (by rw[h.1];omega),h.1];exact h1,by rw[List.getElem_append_right (by omega)];exact h2⟩
theorem AR.clo' {ι:List Inf} {I:Nat->Prop} {w:World} {fn:Go.Fn} {vs:List V} {c:Value} (h:AR ι I w (.one (.clo fn vs)) c):∃cs,c= .func fn #[] cs/\ARs ι I w (vs.map .one) cs:=by
 cases h with
 | one h =>
  cases h with
  |clo hl hcs hr=>exact⟨_,rfl,by simpa using hl,λj hj=>⟨_,hcs j (by simpa using hj),by rw[List.getElem_map];exact .one (hr j (by simpa using hj))⟩⟩
def vN :Value->Array Value
 | .func _ _ cs=>cs
 |_=> #[]
section
variable {P : Program} {E : Cx} {K : Env → ag → Prop} {L : Env} {h : ag} {d f : Nat} {x : Operand} {args : List Operand} {tys : Array TypeId} {ty : TypeId} {pos : String} {af : Array Edge} {gd : Option (Nat × Bool)} {avs xs : List AV} {vs : List V} {R : AV → ag → Prop}
theorem mN (hc:callable P f) (hv:ev L x=some (.one (.clo (.func f) vs))) {ι:List Inf} {I:Nat->Prop} {a:Act} {w:World} (r:Rel E L h ι I a w):
  (execOp a.eval (⟨some d,.call ⟨.value x,args.toArray,tys⟩,ty,pos,af,gd⟩:Oper)).run P w= .ok (.enter f ((args.map a.eval).toArray++vN (a.eval x))) w:=by
 obtain⟨cs,e,_⟩:=(r.ev hv).clo';simp[execOp,resolve,e,Deferred.ofValue,invoke,hc.run,vN]
theorem kC (hv:ev L x=some (.one (.clo (.func f) vs))) (hx:evs L args=some avs) {ι:List Inf} {I:Nat->Prop} {a:Act} {w:World} (r:Rel E L h ι I a w):ARs ι I w (avs++vs.map .one) ((args.map a.eval).toArray++vN (a.eval x)):=by
 obtain⟨cs,e,k⟩:=(r.ev hv).clo';rw[e];exact(r.evs hx).app k
theorem qD (hv:ev L x=some (.one (.clo (.func f) vs))) (hx:evs L args=some avs) (hn:d<E.n) (hf:Fn P f xs h R) (hw:∀ι I w cs,ARs ι I w (avs++vs.map .one) cs->ARs ι I w xs cs) (hk:∀r h',R r h'->K ((d,r)::L) h'):
  ar P ⟨some d,.call ⟨.value x,args.toArray,tys⟩,ty,pos,af,gd⟩ E K L h:=
 By (cs:=λa=>(args.map a.eval).toArray++vN (a.eval x)) rfl hn (λ_ _ ⟨_,_,r⟩=>mN hf.1 hv r) (λ_ _ _ _ r=>hw _ _ _ _ (kC hv hx r)) hf hk
theorem AW {h1:ag} (hv:ev L x=some (.one (.clo (.func f) vs))) (hx:evs L args=some avs) (hn:d<E.n) (hf:Fn P f xs h1 R)
  (hfz:∀(L:Env) (ι:List Inf) (I:Nat->Prop) (a:Act) (w:World),Rel E L h ι I a w->∃I1,Rel E L h1 ι I1 a w/\∀cs,ARs ι I w (avs++vs.map .one) cs->ARs ι I1 w xs cs) (hk:∀r h',R r h'->K ((d,r)::L) h'):
  ar P ⟨some d,.call ⟨.value x,args.toArray,tys⟩,ty,pos,af,gd⟩ E K L h:=by
 refine⟨λLf ι I0 a w r0=> ?_⟩;unfold Oper.wp;rw[mN hf.1 hv r0.low,Oper.upon_enter];obtain⟨I,r,hc⟩:=hfz _ _ _ _ _ r0;refine(hf.2 w I ι _ r.heap r.imm (hc _ (kC hv hx r0.low))).mono ?_;rintro e w' ⟨v,h',ι',I',c,hR,rfl,D⟩;have hkp:Keeps I (λb=>I b\/I' b) w w':=⟨λb hb=>.inl hb,λb o hb=>by
  simp only[World.cell?];rw[D.frame b (r.imm b hb) (λ⟨id,o,inf,x,y,e⟩=>r.heap.off id o inf x y (e▸hb))]⟩
 have hkp':Keeps I' (λb=>I b\/I' b) w' w':=⟨λb hb=>.inr hb,λ_ _ _=>rfl⟩;refine⟨_,h',ι',λb=>I b\/I' b,hk v h' hR,Rel.put (c:=c) ?_ hn (D.res.keep (Grows.refl _) hkp')⟩;exact
 { slots := fun t u hu => let ⟨c, x, y⟩ := r.slots t u hu; ⟨c, x, y.keep D.pre hkp⟩
   heap := ⟨D.heap.len, fun id o inf x y => (D.heap.obj id o inf x y).keep (Grows.refl _) hkp' rfl, fun id o inf x y hb => by
     rcases hb with hb|hb
     · rcases D.mine id o inf x y with⟨id0,o0,inf0,x0,y0,e0⟩|hge
       · exact r.heap.off id0 o0 inf0 x0 y0 (e0▸hb)
       · have:=r.imm _ hb;omega
     · exact D.heap.off id o inf x y hb,D.heap.inj⟩
   imm:=λb hb=>by
     rcases hb with hb|hb
     · have:=r.imm b hb;have:=D.grown;omega
     · exact D.imm b hb
   immlo:=λb hb=>by
     rcases hb with hb|hb
     · exact r.immlo b hb
     · rcases D.immlo b hb with hb|⟨id0,o0,inf0,x0,y0,e0⟩|hb
       · exact r.immlo b hb
       · rw[<-e0];exact .inr (r.mine id0 o0 inf0 x0 y0)
       · exact .inr (.inr (Nat.le_trans r.grown hb))
   pre:=r.pre.trans D.pre
   os:=D.os.trans r.os
   tape:=D.tape.trans r.tape
   output:=D.output.trans r.output
   grown:=Nat.le_trans r.grown D.grown
   frame:=λb x y=>by
     rw [D.frame b (by have := r.grown; omega) (fun ⟨id, o, inf, x1, y1, e⟩ => by
       rcases r.mine id o inf x1 y1 with hp|hp
       · exact y (e▸hp)
       · omega)]
     exact r.frame b x y
   mine:=λid o inf x y=>by
     rcases D.mine id o inf x y with⟨id0,o0,inf0,x0,y0,e0⟩|hge
     · rw[<-e0];exact r.mine id0 o0 inf0 x0 y0
     · exact .inr (by have:=r.grown;omega)
   defers:=r.defers
   size:=r.size}
theorem uR (hv:ev L x=some (.one (.clo (.func f) vs))) (hx:evs L args=some avs) (hn:d<E.n) (hf:Fn P f xs [] R) (hsc:∀r h',R r h'->∀ι I w ι' I' w' c,AR ι I w r c->AR ι' I' w' r c)
  (hb:∀ι I a w,Rel E L h ι I a w->∀cs,ARs ι I w (avs++vs.map .one) cs->ARs [] (λb=>b<w.heap.size) w xs cs) (hk:∀r h',R r h'->K ((d,r)::L) h):
  ar P ⟨some d,.call ⟨.value x,args.toArray,tys⟩,ty,pos,af,gd⟩ E K L h:=by
 refine⟨λLf ι I a w r=> ?_⟩;unfold Oper.wp;rw[mN hf.1 hv r.low,Oper.upon_enter];refine(hf.2 w (λb=>b<w.heap.size) [] _ (HR.nil _ w) (λ_ h=>h) (hb ι I a w r.low _ (kC hv hx r.low))).mono ?_;rintro e w' ⟨v,h',ι',I',c,hR,rfl,D⟩;have hfr:∀b,b<w.heap.size->w'.heap[b]? =w.heap[b]? :=λb hb=>D.frame b hb (Bk b);have hk':Keeps I I w w':=⟨λ_ h=>h,λb o hb=>by simp only[World.cell?];rw[hfr b (r.imm b hb)]⟩;refine⟨_,h,ι,I,hk v h' hR,Rel.put (c:=c) ?_ hn (hsc v h' hR _ _ _ _ _ _ _ D.res)⟩;exact
 { slots := fun t u hu => let ⟨c, x, y⟩ := r.slots t u hu; ⟨c, x, y.keep (Grows.refl _) hk'⟩
   heap:=⟨r.heap.len,λid o inf x y=>(r.heap.obj id o inf x y).keep (Grows.refl _) hk' (hfr _ (r.heap.blk x y)),r.heap.off,r.heap.inj⟩
   imm:=λb hb=>by have:=r.imm b hb;have:=D.grown;omega
   immlo:=r.immlo
   pre:=r.pre
   os:=D.os.trans r.os
   tape:=D.tape.trans r.tape
   output:=D.output.trans r.output
   grown:=Nat.le_trans r.grown D.grown
   frame:=λb x y=>by rw[hfr b (by have:=r.grown;omega)];exact r.frame b x y
   mine:=r.mine
   defers:=r.defers
   size:=r.size}
end
end Go.Proofs.YtkinkfieackmdaaGreatDoor.Abs
namespace Go.Proofs.YtkinkfieackmdaaGreatDoor.Den
open Go.RowKit
open Abs (V AV Env ag ar)
def ATRs (ρ:Rho) (H:List Ob) (xs:List AT) (avs:List AV):Prop:=xs.length=avs.length/\∀(j:Nat) (h1:j<xs.length) (h2:j<avs.length),ATR ρ H xs[j] avs[j]
def CFn (P:Program) (f:FuncId) (xs:List AT) (H:List Ob) (v:AT) (H':List Ob):Prop:=
 ∀(ρ:Rho) (h:ag) (avs:List AV),HpR ρ H h->ATRs ρ H xs avs->Abs.Fn P f avs h (λr h'=>∃ρ',ATR ρ' H' v r/\HpR ρ' H' h'/\Fr ⟨h,ρ,H⟩ ρ' H' h')
def fg (P:Program) (O:Orc):Prop:=∀(R:Type) (f:Nat) (xs:List AT) (H:List Ob) (K:AT->List Ob->Option R) (r:R),O.call R f xs H K=some r->∃v H',K v H'=some r/\CFn P f xs H v H'
def yJ (P:Program) (e:Ent):Prop:=∀(R:Type) (xs:List AT) (H:List Ob) (K:AT->List Ob->Option R) (r:R),e.call R xs H K=some r->∃v H',K v H'=some r/\CFn P e.f xs H v H'
theorem mU :∀{l:List Ent} {f:Nat} {e:Ent},pk l f=some e->e∈l/\e.f=f
 |[],_,_,h=>by cases h
 | x :: l, f, e, h => by
  simp only[pk]at h;cases hb:Nat.beq x.f f with
  | true =>
   rw[hb]at h;cases h;exact⟨by simp,nB hb⟩
  | false =>
   rw[hb]at h;obtain⟨h1,h2⟩:=mU h;exact⟨by simp[h1],h2⟩
def AllE (P:Program):List Ent->Prop
 |[]=>True
 |e::l=>yJ P e/\AllE P l
theorem AllE.mem {P:Program}:∀{l:List Ent},AllE P l->∀e∈l,yJ P e
 |[],_,e,he=>by simp at he
 | x :: l, h, e, he => by
  rcases List.mem_cons.1 he with rfl|he
  ·exact h.1
  ·exact h.2.mem e he
theorem j8 {P:Program} {l:List Ent} (h:AllE P l):fg P (dI l):=λR f xs H K r hc=>by
 simp only[dI]at hc;split at hc
 ·rename_i e he;obtain⟨h1,h2⟩:=mU he;obtain⟨v,H',k1,k2⟩:=h.mem e h1 R xs H K r hc;exact⟨v,H',k1,h2▸k2⟩
 ·cases hc
section
variable {P : Program} {E : Abs.Cx} {F : In} {ρ ρ' : Rho} {H H' : List Ob} {D : List (Nat × AT)} {L : Env} {h h' : ag} {g : Nat → Option Nat} {R : Type}
theorem ATRs.mono (e:Ev ρ H ρ' H') {xs:List AT} {avs:List AV} (h:ATRs ρ H xs avs):ATRs ρ' H' xs avs:=⟨h.1,λj h1 h2=>(h.2 j h1 h2).mono e⟩
theorem ATRs.nil_ :ATRs ρ H [] []:=⟨rfl,λj h=>by simp at h⟩
theorem ATRs.cons {x:AT} {av:AV} {xs:List AT} {avs:List AV} (h:ATR ρ H x av) (k:ATRs ρ H xs avs):ATRs ρ H (x::xs) (av::avs):=
 ⟨by simp [k.1], fun j h1 h2 => by
  cases j with
  |zero=>exact h
  |succ j=>exact k.2 j (by simpa using h1) (by simpa using h2)⟩
theorem ATRs.head {x:AT} {xs:List AT} {avs:List AV} (h:ATRs ρ H (x::xs) avs):∃av bvs,avs=av::bvs/\ATR ρ H x av/\ATRs ρ H xs bvs:=by
 cases avs with
 |nil=>have:=h.1;simp at this
 |cons v us=>exact⟨v,us,rfl,h.2 0 (by simp) (by simp),by have:=h.1;simpa using this,λj h1 h2=>h.2 (j+1) (by simpa using h1) (by simpa using h2)⟩
theorem ATRs.app {a b:List AT} {x y:List AV} (h:ATRs ρ H a x) (k:ATRs ρ H b y):ATRs ρ H (a++b) (x++y):=
 ⟨by simp [h.1, k.1], fun j h1 h2 => by
   by_cases hj:j<a.length
   · have hj':j<x.length:=by rw[<-h.1];exact hj
     rw[List.getElem_append_left hj,List.getElem_append_left hj'];exact h.2 j hj hj'
   · have hj':¬j<x.length:=by rw[<-h.1];exact hj
     rw[List.getElem_append_right (by omega),List.getElem_append_right (by omega)];have:=k.2 (j-a.length) (by simp at h1;omega) (by simp at h2;have:=h.1;omega);have e:=h.1;simp only[e]at this ⊢;exact this⟩
theorem CRs.ats {cs:List C} {vs:List V} (h:CRs ρ H cs vs):ATRs ρ H (cs.map .one) (vs.map .one):=
 ⟨by simp[h.1],λj h1 h2=>by simp only[List.getElem_map];exact .one (h.2 j (by simpa using h1) (by simpa using h2))⟩
theorem CR.clo {f:Nat} {caps:List C} {v:V} (h:CR ρ H (.f f caps) v):∃vs,v= .clo (.func f) vs/\CRs ρ H caps vs:=by
 cases h with
 |fl h=>cases h
 |f hl hr=>exact⟨_,rfl,hl,hr⟩
def Weak (avs bvs:List AV):Prop:=avs.length=bvs.length/\∀(j:Nat) (h1:j<avs.length) (h2:j<bvs.length),∀ι I w u,Abs.AR ι I w avs[j] u->Abs.AR ι I w bvs[j] u
theorem Weak.ars {avs bvs:List AV} (h:Weak avs bvs) {ι:List Abs.Inf} {I:Nat->Prop} {w:World} {cs:Array Value} (k:Abs.ARs ι I w avs cs):Abs.ARs ι I w bvs cs:=
 ⟨by rw [k.1, h.1], fun j hj => by
  obtain⟨c,h1,h2⟩:=k.2 j (by rw[h.1];exact hj);exact⟨c,h1,h.2 j _ hj _ _ _ _ h2⟩⟩
theorem Weak.nil_ :Weak [] []:=⟨rfl,λj h=>by simp at h⟩
theorem Weak.cons {a b:AV} {avs bvs:List AV} (h:∀ι I w u,Abs.AR ι I w a u->Abs.AR ι I w b u) (k:Weak avs bvs):Weak (a::avs) (b::bvs):=
 ⟨by simp [k.1], fun j h1 h2 => by
  cases j with
  |zero=>exact h
  |succ j=>exact k.2 j (by simpa using h1) (by simpa using h2)⟩
theorem fT :∀{xs ys:List AT} {avs:List AV},cg [] xs=some ys->ATRs ρ H xs avs->∃bvs,ATRs [] [] ys bvs/\Abs.AV.flats bvs=true/\Weak avs bvs
 | [], ys, avs, hp, hr => by
  cases hp;have:=hr.1;cases avs with
  |nil=>exact⟨[],.nil_,rfl,.nil_⟩
  |cons _ _=>simp at this
 | x :: xs, ys, avs, hp, hr => by
  simp only[cg]at hp;split at hp
  ·rename_i y ys' h1 h2;cases hp;obtain⟨av,avs,rfl,r1,r2⟩:=hr.head;obtain⟨bv,k1,k2,k3⟩:=pp h1 r1;obtain⟨bvs,m1,m2,m3⟩:=fT h2 r2;exact⟨bv::bvs,.cons k1 m1,by simp[Abs.AV.flats,k2,m2],.cons k3 m3⟩
  ·cases hp
theorem HpR.ext (hp:HpR ρ H h) (hl:h.length<=h'.length) (hs:∀a,a<h.length->h'[a]? =h[a]?):HpR ρ H h':=
 HpR.mk' hp.len (λid x hx=>by
  rcases hp.ob hx with⟨a,z,k1,k2,k3⟩|k1|k1
  ·exact .inl ⟨a,z,k1,by rw[hs a (hp.lt _ _ k1)];exact k2,k3⟩
  ·exact .inr (.inl k1)
  ·exact .inr (.inr k1)) hp.inj (λi a h1=>by have:=hp.lt i a h1;omega)
theorem Fr.ext (hf:Fr F ρ H h) (hl:h.length<=h'.length) (hs:∀a,a<h.length->h'[a]? =h[a]?):Fr F ρ H h':=
 hf.step (Ev.refl _ _) hl (λid _ h1 l=>.inl ⟨id,h1,l⟩) (λa h1 _=>hs a h1)
theorem HpR.nil_ :HpR [] [] h:=HpR.mk' rfl (λid x hx=>by simp at hx) (λi j a h1 _ _ _=>by simp at h1) (λi a h1=>by simp at h1)
theorem m7 {H0:List Ob} {c c':C} (h:ku H0 c=some c'):fp c'=true\/c'= .zs:=by
 unfold ku at h;split at h
 all_goals first
  |(cases h;done)
  |(cases h;first|exact .inl rfl|exact .inr rfl)
  |(split at h<;>first|(cases h;done)|(cases h;exact .inl rfl))
theorem CR.up2 {ρ0:Rho} {H0:List Ob} {c:C} {v:V} (hf:fp c=true\/c= .zs) (h:CR ρ0 H0 c v):CR ρ H c v:=by
 rcases hf with hf|rfl
 ·exact h.up hf
 ·cases h with
  |fl h=>cases h
  |zs=>exact .zs
theorem kX {H0:List Ob}:∀{cs ds:List C},cP H0 cs=some ds->∀d∈ds,fp d=true\/d= .zs
 |[],ds,h=>by cases h;simp
 | c :: cs, ds, h => by
  simp only[cP]at h;split at h
  ·rename_i x xs h1 h2;cases h;intro d hd;rcases List.mem_cons.1 hd with rfl|hd
   ·exact m7 h1
   ·exact kX h2 d hd
  ·cases h
theorem rr {H0 H1:List Ob} {ρ0:Rho} {x y:AT} {bv:AV} (hp:eO H0 x=some y) (h:ATR ρ0 H1 y bv):ATR ρ H y bv:=by
 cases x with
 | one c =>
  simp only[eO,Option.map_eq_some_iff]at hp;obtain⟨c',h1,rfl⟩:=hp;cases h with
  |one k=>exact .one (k.up2 (m7 h1))
 | agg cs =>
  simp only[eO,Option.map_eq_some_iff]at hp;obtain⟨ds,h1,rfl⟩:=hp;cases h with
  |agg k=>exact .agg ⟨k.1,λj a b=>(k.2 j a b).up2 (kX h1 _ (gM a))⟩
 |tup _=>cases hp
theorem jA {O:Orc} {f:Nat}:∀{j:Nat} {xs ys:List AT} {H H':List Ob} {ρ:Rho} {avs:List AV},gL O f j xs H=some (ys,H')->HpR ρ H h->Fr F ρ H h->ATRs ρ H xs avs->∃ρ' bvs,Mat F h ρ H ρ' H'/\ATRs ρ' H' ys bvs/\Weak avs bvs
 | j, [], ys, H, H', ρ, avs, hc, hp, hf, hr => by
  simp only[gL]at hc;cases hc;have:=hr.1;cases avs with
  |nil=>exact⟨ρ,[],Mat.refl hp hf,.nil_,.nil_⟩
  |cons _ _=>simp at this
 | j, x :: xs, ys, H, H', ρ, avs, hc, hp, hf, hr => by
  obtain⟨av,avs,rfl,r1,r2⟩:=hr.head;unfold gL at hc;split at hc
  ·split at hc
   ·rename_i y ys' H2 h1 h2;cases hc;obtain⟨bv,k1,k2,k3⟩:=pp h1 r1;obtain⟨ρ',bvs,m1,m2,m3⟩:=jA h2 hp hf r2;exact⟨ρ',bv::bvs,m1,.cons (rr h1 k1) m2,.cons k3 m3⟩
   ·cases hc
  ·split at hc
   ·rename_i T;split at hc
    ·rename_i ys' H2 h2;cases hc;cases r1 with
     | one k =>
      obtain⟨rfl,hT⟩:=k.nil';obtain⟨m1,m2⟩:=pL hT hp hf;obtain⟨ρ',bvs,n1,n2,n3⟩:=jA h2 m1.heap m1.fr (r2.mono m1.ev);exact⟨ρ',_::bvs,m1.trans n1,.cons (.one (m2.mono n1.ev)) n2,.cons (λ_ _ _ _ h=>h) n3⟩
    ·cases hc
   ·split at hc
    ·rename_i ys' H2 h2;cases hc;obtain⟨ρ',bvs,n1,n2,n3⟩:=jA h2 hp hf r2;exact⟨ρ',av::bvs,n1,.cons (r1.mono n1.ev) n2,.cons (λ_ _ _ _ h=>h) n3⟩
    ·cases hc
end
theorem du :∀(ks:List Nat) (H xs:List Ob),(bz H ks xs).length=H.length
 |[],H,xs=>by simp[bz]
 |k::ks,H,[]=>by simp[bz]
 | k :: ks, H, x :: xs => by
  simp only[bz];rw[du ks];split<;>simp
theorem eJ :∀(ks:List Nat) (H xs:List Ob) {id:Nat},id∉ks->(bz H ks xs)[id]? =H[id]?
 |[],H,xs,id,_=>by simp[bz]
 |k::ks,H,[],id,_=>by simp[bz]
 | k :: ks, H, x :: xs, id, hn => by
  simp only[bz];rw[eJ ks _ xs (λh=>hn (by simp[h]))];split
  ·rw[sN (λe=>hn (by simp[e]))]
  ·rfl
theorem oM :∀(ks:List Nat) (H xs:List Ob) {j id:Nat} {x o:Ob},eF ks=true->ks[j]? =some id->xs[j]? =some x->H[id]? =some o->(bz H ks xs)[id]? =some (o.bump x)
 |[],H,xs,j,id,x,o,_,hj,_,_=>by simp at hj
 |k::ks,H,[],j,id,x,o,_,_,hx,_=>by simp at hx
 | k :: ks, H, y :: ys, j, id, x, o, hn, hj, hx, ho => by
  have hn':=hn;simp only[eF,bA,Bool.not_eq_true']at hn;simp only[bz];cases j with
  | zero =>
   simp at hj hx;subst hj hx;have hk:k∉ks:=λhm=>by
    have:=hn.1;rw[List.contains_iff_mem.2 hm]at this;cases this
   rw[eJ ks _ ys hk,ho];simp only;exact sS (gI.1 ho).1
  | succ j =>
   have hne:k≠id:=λe=>by
    have:=ii hn' (i:=0) (j:=j+1) (x:=id) (by simp[e]) hj;omega
   refine oM ks _ ys hn.2 (by simpa using hj) (by simpa using hx) ?_;split
   ·rw[sN hne];exact ho
   ·exact ho
theorem yZ {x y:Ob} (h:evo0 x y):evo x (x.bump y):=by
 rcases h with rfl|⟨T,n,xs,n',xs',rfl,rfl,h⟩|⟨cs,ds,rfl,rfl⟩|⟨T,a,b,rfl,rfl⟩|⟨T,xss,ho,rfl,T',xss',ho',rfl,h⟩
 ·exact .inl rfl
 ·exact .inr (.inl ⟨T,n,xs,n+1,xs',rfl,rfl,h,by omega,λe=>by omega⟩)
 ·exact .inr (.inr (.inl ⟨_,_,rfl,rfl⟩))
 ·exact .inr (.inr (.inr (.inl ⟨_,_,_,rfl,rfl⟩)))
 ·exact .inr (.inr (.inr (.inr ⟨_,_,_,rfl,_,_,_,rfl,h⟩)))
theorem ol (o y:Ob):(o.bump y).dead=y.dead:=by cases y<;>cases o<;>rfl
theorem ms (o y:Ob):(y= .gone->o.bump y= .gone)/\∃n,∀T m xs,y= .row T m xs->o.bump y= .row T n xs:=by
 refine⟨λe=>by subst e;rfl,?_⟩;cases o with
 |row T n xs=>exact⟨n+1,λT m xs e=>by subst e;rfl⟩
 |box cs=>exact⟨0,λT m xs e=>by subst e;rfl⟩
 |map T kvs=>exact⟨0,λT m xs e=>by subst e;rfl⟩
 |gone=>exact⟨0,λT m xs e=>by subst e;rfl⟩
 |rows T xss ho=>exact⟨0,λT m xs e=>by subst e;rfl⟩
theorem BP {ρ:Rho} {H:List Ob} (o:Ob) {y:Ob} {z:Option Abs.Ob} (h:obR ρ H y z):obR ρ H (o.bump y) z:=by
 cases y with
 |row T n xs=>cases o<;>exact h
 |box cs=>exact h
 |map T kvs=>exact h
 |gone=>exact h
 |rows T xss ho=>exact h
section
variable {P : Program} {E : Abs.Cx} {F : In} {ρ ρ' : Rho} {H : List Ob} {D : List (Nat × AT)} {L : Env} {h h' : ag} {R : Type}
theorem me {c:C} (h:scal c=true):fp c=true:=by cases c<;>first|rfl|cases h
theorem ATR.upS {ρ0:Rho} {H0:List Ob} {v:AT} {av:AV} (h:ATR ρ0 H0 v av) (hf:v.scal=true):ATR ρ H v av:=by
 induction h with
 |one k=>exact .one (k.up (me (by simpa [AT.scal]using hf)))
 | @agg cs vs k=>
  have hf:cs.all scal=true:=by simpa [AT.scal]using hf
  exact .agg ⟨k.1,λj h1 h2=>(k.2 j h1 h2).up (me (aT.1 hf _ (gM h1)))⟩
 | @tup xs ys hl hr ih=>
  have hf:=ki (by simpa [AT.scal]using hf:AT.scal.scals xs=true);exact .tup hl (λj h1 h2=>ih j h1 h2 (hf _ (gM h1)))
theorem Cg {keep:List Nat} {Hc Hc' Hb:List Ob} (hp:HpR ρ H h) (hf:Fr F ρ H h) (hn:eF keep=true) (hk:jS keep H=some Hc) (hp':HpR ρ' Hc' h') (hf':Fr ⟨h,dd ρ keep,Hc⟩ ρ' Hc' h')
  (hl:keep.length<=Hc'.length) (ho:obs (back keep H.length) Hc'=some Hb):
  HpR (ρ++ρ'.drop keep.length) (bz H keep Hb++Hb.drop keep.length) h'/\Ev ρ H (ρ++ρ'.drop keep.length) (bz H keep Hb++Hb.drop keep.length)/\Fr F (ρ++ρ'.drop keep.length) (bz H keep Hb++Hb.drop keep.length) h'/\
   oh (back keep H.length) ρ' Hc' (ρ++ρ'.drop keep.length) (bz H keep Hb++Hb.drop keep.length):=by
 obtain⟨_,_,hρ⟩:=jh hp hn hk;obtain⟨k1,k2⟩:=eC hk;obtain⟨b1,b2⟩:=jl ho;have hlen:=hp.len;have hlen':=hp'.len;have lo:∀{id:Nat},id<H.length->(bz H keep Hb++Hb.drop keep.length)[id]? =(bz H keep Hb)[id]? :=λhid=>aL (by rw[du];exact hid);have hi:∀(i:Nat),(bz H keep Hb++Hb.drop keep.length)[H.length+i]? =Hb[keep.length+i]? :=λi=>by
  rw[aR (by rw[du];omega),du,List.getElem?_drop]
  congr 1;omega
 have loρ:∀{id:Nat},id<H.length->(ρ++ρ'.drop keep.length)[id]? =ρ[id]? :=λhid=>aL (by omega);have hiρ:∀(i:Nat),(ρ++ρ'.drop keep.length)[H.length+i]? =ρ'[keep.length+i]? :=λi=>by
  rw[aR (by omega),hlen,List.getElem?_drop]
  congr 1;omega
 -- an object that was handed over
 have key:∀(j id:Nat),keep[j]? =some id->∃x0 y yb,H[id]? =some x0/\Hc'[j]? =some y/\y.mv (back keep H.length)=some yb/\(bz H keep Hb)[id]? =some (x0.bump yb)/\evo x0 (x0.bump yb)/\ρ'[j]? =ρ[id]? :=λj id hj=>by
  obtain⟨x0,y0,c1,c2,c3⟩:=k2 j id hj;obtain⟨y,d1,d2⟩:=hf'.ob j _ c3;obtain⟨yb,e1,e2⟩:=b2 j y d1;have hidl:id<ρ.length:=by rw[hlen];exact(gI.1 c1).1
  have hz:=List.getElem?_eq_getElem hidl;refine⟨x0,y,yb,c1,d1,e2,oM keep H Hb hn hj e1 c1,yZ ((((dK c2).2.2).trans (ge y0).2.2).trans (d2.trans (dK e2).2.2)),?_⟩;rw[hz];refine hf'.rho j _ ?_;show (dd ρ keep)[j]? =_;rw[hρ j id hj,hz]
 have hev:Ev ρ H (ρ++ρ'.drop keep.length) (bz H keep Hb++Hb.drop keep.length):=by
  refine⟨λid x hx=> ?_,λid x hx=> ?_⟩
  ·rw[loρ (by rw[<-hlen];exact(gI.1 hx).1)];exact hx
  ·rw[lo (gI.1 hx).1];by_cases hm:id∈keep
   ·obtain⟨j,hj⟩:=List.getElem?_of_mem hm;obtain⟨x0,y,yb,c1,_,_,c4,c5,_⟩:=key j id hj;rw[hx]at c1;cases c1;exact⟨_,c4,c5⟩
   ·rw[eJ keep H Hb hm];exact⟨x,hx,evo.refl x⟩
 have hmv:oh (back keep H.length) ρ' Hc' (ρ++ρ'.drop keep.length) (bz H keep Hb++Hb.drop keep.length):=λid j hg=>by
  unfold back at hg;split at hg
  ·rename_i hlt;obtain⟨x0,y,yb,c1,c2,c3,c4,c5,c6⟩:=key id j hg;have hj:=(gI.1 c1).1;refine⟨λx hx=>by rw[loρ hj,<-c6];exact hx,λx hx=> ?_⟩;rw[c2]at hx;cases hx;obtain⟨s1,n,s2⟩:=ms x0 yb;obtain⟨t1,t2,_⟩:=dK c3;exact⟨_,n,by rw[lo hj];exact c4,λe=>s1 (t1 e),λT m xs e=>s2 T m xs (t2 T m xs e),λT xss ho e=>by rw[ji c3 T xss ho e];rfl⟩
  ·rename_i hge;have hge:keep.length<=id:=by simpa [Nat.blt_eq]using hge
   cases hg;have e:keep.length+(id-keep.length)=id:=by omega
   refine⟨λx hx=>by rw[hiρ,e];exact hx,λx hx=> ?_⟩;obtain⟨yb,e1,e2⟩:=b2 id x hx;obtain⟨t1,t2,_⟩:=dK e2;cases x with
   |row T m xs=>exact⟨yb,m,by rw[hi,e];exact e1,λe=>(by cases e),λT m xs e=>by cases e;exact t2 _ _ _ rfl,λT xss ho e=>by cases e⟩
   |gone=>exact⟨yb,0,by rw[hi,e];exact e1,t1,λT m xs e=>(by cases e),λT xss ho e=>by cases e⟩
   |box cs=>exact⟨yb,0,by rw[hi,e];exact e1,t1,λT m xs e=>(by cases e),λT xss ho e=>by cases e⟩
   |map T kvs=>exact⟨yb,0,by rw[hi,e];exact e1,t1,λT m xs e=>(by cases e),λT xss ho e=>by cases e⟩
   |rows T xss ho=>exact⟨yb,0,by rw[hi,e];exact e1,t1,λT m xs e=>(by cases e),ji e2⟩
 have lvdn:∀{id:Nat},id<H.length->live (bz H keep Hb++Hb.drop keep.length) id->live H id:=λhid l=>hev.lv hid l;have newρ:∀(id a:Nat),(ρ++ρ'.drop keep.length)[id]? =some (some a)->(id<H.length/\ρ[id]? =some (some a))\/∃i,id=H.length+i/\ρ'[keep.length+i]? =some (some a):=λid a ha=>by
  by_cases hid:id<H.length
  ·rw[loρ hid]at ha;exact .inl ⟨hid,ha⟩
  ·obtain⟨i,rfl⟩:∃i,id=H.length+i:=⟨id-H.length,by omega⟩;rw[hiρ]at ha;exact .inr ⟨i,rfl,ha⟩
 have lvhi:∀{i:Nat},live (bz H keep Hb++Hb.drop keep.length) (H.length+i)->live Hc' (keep.length+i):=λ{i} ⟨z,z1,z2⟩=>by
  rw[hi]at z1;have hlt:=(gI.1 z1).1;rw[b1]at hlt;have e:=List.getElem?_eq_getElem hlt;obtain⟨yb,e1,e2⟩:=b2 _ _ e;rw[e1]at z1;cases z1;exact⟨_,e,by rw[<-d7 e2];exact z2⟩
 -- a place that was handed over
 have cameρ:∀(j a:Nat),(dd ρ keep)[j]? =some (some a)->∃id,keep[j]? =some id/\ρ[id]? =some (some a):=λj a hj=>by
  have hlt:=(gI.1 hj).1;simp[dd]at hlt;have e:=List.getElem?_eq_getElem hlt;rw[hρ j _ e]at hj;exact⟨_,e,hj⟩
 have hsame:∀(a:Nat),a<h.length->(∀(id:Nat),ρ[id]? =some (some a)->live H id->id∉keep)->h'[a]? =h[a]? :=λa ha hid=>hf'.same a ha λj hj hlj=>by
  obtain⟨id,e,hj⟩:=cameρ j a hj;exact hid _ hj (ij hk e hlj) (mG e)
 have clash:∀(i p a:Nat),i<H.length->ρ[i]? =some (some a)->live (bz H keep Hb++Hb.drop keep.length) i->ρ'[keep.length+p]? =some (some a)->live Hc' (keep.length+p)->False:=λi p a hi1 hi2 hl1 hp1 hp2=>by
  obtain⟨j0,q1,q2⟩:=hf'.old _ a hp1 hp2 (hp.lt _ _ hi2);obtain⟨id0,e,q3⟩:=cameρ j0 a q1;have hid0:=hp.inj _ _ _ q3 hi2 (ij hk e q2) (lvdn hi1 hl1);subst hid0;obtain⟨x0,y,yb,c1,c2,c3,c4,c5,c6⟩:=key j0 id0 e;have hl2:live Hc' j0:=by
   refine⟨y,c2,?_⟩;obtain⟨z,z1,z2⟩:=hl1;rw[lo hi1,c4]at z1;cases z1;rw[<-d7 c3,<-ol x0 yb];exact z2
  have:=hp'.inj _ _ _ (c6.trans hi2) hp1 hl2 hp2;have hj0:=(gI.1 e).1;omega
 refine⟨HpR.mk' ?_ (λid x hx=> ?_) (λi j a h1 h2 l1 l2=> ?_) (λi a h1=> ?_),hev,hf.step hev hf'.len (λid a ha hl=> ?_) (λa ha hid=>hsame a ha λid hid' hl=>absurd hl (hid id hid')),hmv⟩
 ·simp[du];omega
 ·by_cases hid:id<H.length
  ·rw [lo hid] at hx;rw[loρ hid];by_cases hm:id∈keep
   ·obtain⟨j,hj⟩:=List.getElem?_of_mem hm;obtain⟨x0,y,yb,c1,c2,c3,c4,c5,c6⟩:=key j id hj;rw[c4]at hx;cases hx;rcases hp'.ob c2 with⟨a,z,m1,m2,m3⟩|⟨m1,T,n,rfl,m3⟩|hd
    ·exact .inl ⟨a,z,by rw[<-c6];exact m1,m2,BP _ (s4 hmv m3 c3)⟩
    ·cases c3;obtain⟨_,n',s2⟩:=ms x0 (.row T n []);exact .inr (.inl ⟨by rw[<-c6];exact m1,T,n',s2 _ _ _ rfl,m3⟩)
    ·exact .inr (.inr (by rw[ol,d7 c3];exact hd))
   ·rw[eJ         keep H Hb hm]at hx;by_cases hg0:x.dead=true
    ·exact .inr (.inr hg0)
    have hg0:x.dead=false:=by simpa using hg0
    rcases hp.ob hx with⟨a,z,m1,m2,m3⟩|m1|m1
    ·refine .inl ⟨a,z,m1,?_,m3.mono hev⟩;rw[hsame a (hp.lt _ _ m1) (λid' h' hl'=>by rw[hp.inj _ _ _ h' m1 hl' ⟨_,hx,hg0⟩];exact hm)];exact m2
    ·exact .inr (.inl m1)
    ·exact .inr (.inr m1)
  ·obtain⟨i,rfl⟩:∃i,id=H.length+i:=⟨id-H.length,by omega⟩;rw[hi]at hx;rw[hiρ];have hlt:=(gI.1 hx).1;rw[b1]at hlt;have e:=List.getElem?_eq_getElem hlt;obtain⟨yb,e1,e2⟩:=b2 _ _ e;rw[e1]at hx;cases hx;rcases hp'.ob e with⟨a,z,m1,m2,m3⟩|⟨m1,T,n,m2,m3⟩|m1
   ·exact .inl ⟨a,z,m1,m2,s4 hmv m3 e2⟩
   ·rw[m2]at e2;cases e2;exact .inr (.inl ⟨m1,T,n,rfl,m3⟩)
   ·exact .inr (.inr (by rw[d7 e2];exact m1))
 ·rcases newρ i a h1 with⟨i1,i2⟩|⟨p,rfl,i2⟩<;>rcases newρ j a h2 with⟨j1,j2⟩|⟨q,rfl,j2⟩
  ·exact hp.inj _ _ _ i2 j2 (lvdn i1 l1) (lvdn j1 l2)
  ·exact(clash i q a i1 i2 l1 j2 (lvhi l2)).elim
  ·exact(clash j p a j1 j2 l2 i2 (lvhi l1)).elim
  ·have:=hp'.inj _ _ _ i2 j2 (lvhi l1) (lvhi l2);omega
 ·rcases newρ i a h1 with⟨i1,i2⟩|⟨p,rfl,i2⟩
  ·have:=hp.lt _ _ i2;have:=hf'.len;simp only at this;omega
  ·exact hp'.lt _ _ i2
 ·rcases newρ id a ha with⟨i1,i2⟩|⟨p,rfl,i2⟩
  ·exact .inl ⟨id,i2,lvdn i1 hl⟩
  ·by_cases hlt:a<h.length
   ·obtain⟨j0,q1,q2⟩:=hf'.old _ a i2 (lvhi hl) hlt;obtain⟨id0,e,q3⟩:=cameρ j0 a q1;exact .inl ⟨id0,q3,ij hk e q2⟩
   ·exact .inr (by omega)
section
variable {d f : Nat} {x : Operand} {args : List Operand} {tys : Array TypeId} {ty : TypeId} {pos : String} {af : Array Edge} {gd : Option (Nat × Bool)} {caps : List C} {xs ys : List AT} {v : AT} {H' : List Ob}
theorem xl {tb:Nat->Option TI} (htb:TBOK P tb) {t:Nat} {x:AT} {av:AV} (h:ATR ρ H x av):ATR ρ H (u9 tb t x) av:=by
 unfold u9;split
 ·split
  ·rename_i T hT;obtain⟨ti,h1,h2⟩:=Option.bind_eq_some_iff.1 hT;obtain⟨i,G⟩:=htb.get h1;obtain⟨el,z',g0,g1,g2,g3,g4,_⟩:=G.elem T h2;cases h with
   | one k =>
    have:∀v,CR ρ H .zs v->v= .lit (.slice none 0 0):=λv k=>by cases k with|fl h=>cases h|zs=>rfl
    rw[this _ k];exact .one (.nil g4)
  ·exact h
 ·exact h
theorem nu {tb:Nat->Option TI} (htb:TBOK P tb):∀{ts:List Nat} {xs:List AT} {avs:List AV},ATRs ρ H xs avs->ATRs ρ H (cc tb ts xs) avs
 |[],xs,avs,h=>by unfold cc;exact h
 |t::ts,[],avs,h=>by unfold cc;exact h
 | t :: ts, x :: xs, avs, h => by
  obtain⟨av,bvs,rfl,h1,h2⟩:=h.head;unfold cc;exact .cons (xl htb h1) (nu htb h2)
theorem py {tb:Nat->Option TI} (htb:TBOK P tb) (hx:ev D x=some (.one (.f f caps))) (hxs:evs D args=some xs) (hs:EncL ρ H D L):∃vs avs,Abs.ev L x=some (.one (.clo (.func f) vs))/\Abs.evs L args=some avs/\ATRs ρ H (cc tb tys.toList xs++caps.map .one) (avs++vs.map .one):=by
 obtain⟨av,h1,h2⟩:=aF hs hx;obtain⟨u,rfl,h3⟩:=h2.one';obtain⟨vs,rfl,h4⟩:=h3.clo;obtain⟨avs,h5,h6⟩:=tN hs hxs;exact⟨vs,avs,h1,h5,ATRs.app (nu htb h6) h4.ats⟩
theorem sa {tb:Nat->Option TI} (htb:TBOK P tb) (hn:d<E.n) (hx:ev D x=some (.one (.f f caps))) (hxs:evs D args=some xs) (hy:cg H (cc tb tys.toList xs++caps.map .one)=some ys) (hsc:v.scal=true) (h2:CFn P f ys [] v H'):cB P ⟨some d,.call ⟨.value x,args.toArray,tys⟩,ty,pos,af,gd⟩ E F D H v H:=λρ L h hs hp hf=>by
 obtain⟨vs,avs,e1,e2,e3⟩:=py (tys:=tys) htb hx hxs hs;obtain⟨bvs,k1,k2,k3,k4,k5⟩:=pq (E:=E) (L:=L) hp hy e3.1 e3.2;refine Abs.uR e1 e2 hn (h2 [] [] bvs HpR.nil_ ⟨k1,k2⟩) (λr h' ⟨ρ',m1,_⟩=>CM m1 hsc) (λι I a w r cs hcs=>⟨by rw[hcs.1,k4],λj hj=> ?_⟩) (λr h' ⟨ρ',m1,_⟩=>⟨ρ,r,rfl,m1.upS hsc,hp,Ev.refl _ _,hf⟩);obtain⟨c,c1,c2⟩:=hcs.2 j (by rw[k4];exact hj);exact⟨c,c1,k5 j _ hj ι I a w r c c2⟩
theorem rU {tb:Nat->Option TI} (htb:TBOK P tb) (hn:d<E.n) (hx:ev D x=some (.one (.f f caps))) (hxs:evs D args=some xs) (hy:cg [] (cc tb tys.toList xs++caps.map .one)=some ys) (hfl:v.flat=true) (h2:CFn P f ys [] v H'):cB P ⟨some d,.call ⟨.value x,args.toArray,tys⟩,ty,pos,af,gd⟩ E F D H v H:=λρ L h hs hp hf=>by
 obtain⟨vs,avs,e1,e2,e3⟩:=py (tys:=tys) htb hx hxs hs;obtain⟨bvs,k1,k2,k3⟩:=fT hy e3;refine Abs.qD e1 e2 hn (h2 [] h bvs HpR.nil_ k1) (λι I w cs hcs=>k3.ars hcs) (λr h' ⟨ρ',m1,m2,m3⟩=> ?_);have hsame:∀a,a<h.length->h'[a]? =h[a]? :=λa ha=>m3.same a ha (λid=>by simp);exact⟨ρ,r,rfl,m1.up hfl,hp.ext m3.len hsame,Ev.refl _ _,hf.ext m3.len hsame⟩
end
theorem FE {id s:Nat} {es:List (List V)} {ι:List Abs.Inf} {I I':Nat->Prop} {w:World} (hk:Abs.Keeps I I' w w) (hv:∀(c:C) (v:V) (u:Value),CR ρ H c v->Abs.VR I w ι v u->Abs.VR I' w ι (trV id s es c v) u) {x:AT} {av:AV} {u:Value} (hx:ATR ρ H x av) (ha:Abs.AR ι I w av u):Abs.AR ι I' w (trA id s es x av) u:=by
 cases hx with
 |one hc=>cases ha with|one k2=>exact .one (hv _ _ _ hc k2)
 | @agg cs vs hc =>
  cases ha with
  | agg hl hcs hr =>
   have hlen:=hc.1;refine .agg (by simp[hl,hlen]) (λj hj=>hcs j (by simp at hj;omega)) (λj hj=> ?_);simp only[List.getElem_zipWith];exact hv _ _ _ (hc.2 j (by simp at hj;omega) (by simp at hj;omega)) (hr j (by simp at hj;omega))
 |tup hl hh=>exact ha.keep (Abs.Grows.refl _) hk
theorem EI {id n:Nat} {T:Ty} {ys:List (I T)} {xs:List AT} {avs:List AV} (hr:H[id]? =some (.row T n ys)) (hp:HpR ρ H h) (hf:Fr F ρ H h) (ha:ATRs ρ H xs avs):
  ∃ h1 bvs, HpR ρ (H.set id .gone) h1 ∧ Fr F ρ (H.set id .gone) h1 ∧ ATRs ρ (H.set id .gone) (xs.map (AT.fz id T ys)) bvs ∧
   ∀(E:Abs.Cx) (L:Env) (ι:List Abs.Inf) (I:Nat->Prop) (a:Act) (w:World),Abs.Rel E L h ι I a w->∃I1,Abs.Rel E L h1 ι I1 a w/\∀cs,Abs.ARs ι I w avs cs->Abs.ARs ι I1 w bvs cs:=by
 have key:∀(es:List (List V)),FR (.l T ys) (.imm (szT T) es)->ATRs ρ (H.set id .gone) (xs.map (AT.fz id T ys)) (List.zipWith (trA id (szT T) es) xs avs):=λes hx=>
  ⟨by simp [ha.1], fun j h1 h2 => by
   simp only[List.getElem_map,List.getElem_zipWith];exact Bu hr hx (ha.2 j (by simpa using h1) (by simp at h1;have:=ha.1;omega))⟩
 have key2:∀(es:List (List V)) (ι:List Abs.Inf) (I I1:Nat->Prop) (w:World),Abs.Keeps I I1 w w->(∀(c:C) (v:V) (u:Value),CR ρ H c v->Abs.VR I w ι v u->Abs.VR I1 w ι (trV id (szT T) es c v) u)->∀cs,Abs.ARs ι I w avs cs->Abs.ARs ι I1 w (List.zipWith (trA id (szT T) es) xs avs) cs:=λes ι I I1 w hk hv cs hc=>
  ⟨by simp [hc.1, ha.1], fun j hj => by
   have hj1:j<xs.length:=by simp at hj;omega
   have hj2:j<avs.length:=by simp at hj;omega
   obtain⟨c,c1,c2⟩:=hc.2 j hj2;refine⟨c,c1,?_⟩;simp only[List.getElem_zipWith];exact FE hk hv (ha.2 j hj1 hj2) c2⟩
 have other:∀{es:List (List V)} {c:C} {v:V},c≠.o id->trV id (szT T) es c v=v:=λ{es c v} e=>by
  unfold trV;split
  ·rename_i j;rw[if_neg (λhb=>e (by rw[hb]))]
  ·rfl
 rcases hp.row id n T ys hr with⟨a,es,h1,h2,h3⟩|⟨h1,rfl,h3⟩
 ·refine⟨h.set a none,_,hp.set h1 hr (by simp) (evo.goes _) trivial,hf.set h1 hr (by simp) (evo.goes _),key es h3,λE L ι I act w r=> ?_⟩;obtain⟨inf,hι,_,_⟩:=r.row h2;have hk:Abs.Keeps I (λb=>I b\/b=inf.block) w w:=⟨λ_ h=>.inl h,λ_ _ _=>rfl⟩;refine⟨_,r.freeze h2 hι,key2 es ι I _ w hk λc v u hc hv=> ?_⟩;by_cases e:c= .o id
  ·subst e;simp only[trV,if_true];rcases hc.own hr with⟨a',rfl,h4⟩|⟨rfl,h4⟩
   ·rw[h1]at h4;cases h4;have hl:=h3.frl.len;have:=Abs.VR.fz r h2 hι h3.flats hv (Abs.jw (by simp[Abs.V.fits,hl]));simpa [Abs.V.fz,<-hl]using this
   ·rw[h1]at h4;cases h4
  ·rw[other e];exact hv.keep (Abs.Grows.refl _) hk
 ·refine⟨h,_,hp.gone hr,hf.gone hr,key [] (.nil_ h3),λE L ι I act w r=>⟨I,r,key2 [] ι I I w (Abs.Keeps.refl _ _) λc v u hc hv=> ?_⟩⟩;by_cases e:c= .o id
  ·subst e;simp only[trV,if_true];rcases hc.own hr with⟨a',rfl,h4⟩|⟨rfl,h4⟩
   ·rw[h1]at h4;cases h4
   ·cases hv;exact .imm0 (Nat.zero_le _)
  ·rw[other e];exact hv
theorem jV :∀{ids:List Nat} {H:List Ob} {h:ag} {xs:List AT} {avs:List AV},HpR ρ H h->Fr F ρ H h->ATRs ρ H xs avs->
  ∃ h1 bvs, HpR ρ (dw ids xs H).2 h1 ∧ Fr F ρ (dw ids xs H).2 h1 ∧ Ev ρ H ρ (dw ids xs H).2 ∧ ATRs ρ (dw ids xs H).2 (dw ids xs H).1 bvs ∧
   ∀(E:Abs.Cx) (L:Env) (ι:List Abs.Inf) (I:Nat->Prop) (a:Act) (w:World),Abs.Rel E L h ι I a w->∃I1,Abs.Rel E L h1 ι I1 a w/\∀cs,Abs.ARs ι I w avs cs->Abs.ARs ι I1 w bvs cs
 |[],H,h,xs,avs,hp,hf,ha=>⟨h,avs,hp,hf,Ev.refl _ _,ha,λE L ι I a w r=>⟨I,r,λ_ k=>k⟩⟩
 | id :: ids, H, h, xs, avs, hp, hf, ha => by
  unfold dw;split
  ·rename_i T n ys hr;obtain⟨h1,bvs,a1,a2,a3,a4⟩:=EI hr hp hf ha;obtain⟨h2,cvs,b1,b2,b3,b4,b5⟩:=jV (ids:=ids) a1 a2 a3;refine⟨h2,cvs,b1,b2,(Ev.set hr (evo.goes _)).trans b3,b4,λE L ι I a w r=> ?_⟩;obtain⟨I1,r1,k1⟩:=a4 E L ι I a w r;obtain⟨I2,r2,k2⟩:=b5 E L ι I1 a w r1;exact⟨I2,r2,λcs hc=>k2 cs (k1 cs hc)⟩
  ·exact jV hp hf ha
section
variable {d f : Nat} {x : Operand} {args : List Operand} {tys : Array TypeId} {ty : TypeId} {pos : String} {af : Array Edge} {gd : Option (Nat × Bool)} {caps : List C} {xs ys : List AT} {v : AT} {H' : List Ob}
theorem zE {tb:Nat->Option TI} (htb:TBOK P tb) {ids:List Nat} (hn:d<E.n) (hx:ev D x=some (.one (.f f caps))) (hxs:evs D args=some xs) (hy:cg [] (dw ids (cc tb tys.toList xs++caps.map .one) H).1=some ys) (hfl:v.flat=true) (h2:CFn P f ys [] v H'):cB P ⟨some d,.call ⟨.value x,args.toArray,tys⟩,ty,pos,af,gd⟩ E F D H v (dw ids (cc tb tys.toList xs++caps.map .one) H).2:=λρ L h hs hp hf=>by
 obtain⟨vs,avs,e1,e2,e3⟩:=py (tys:=tys) htb hx hxs hs;obtain⟨h1,bvs,a1,a2,a3,a4,a5⟩:=jV (ids:=ids) hp hf e3;obtain⟨cvs,k1,k2,k3⟩:=fT hy a4;refine Abs.AW (h1:=h1) e1 e2 hn (h2 [] h1 cvs HpR.nil_ k1) (λL ι I a w r=> ?_) (λr h' ⟨ρ',m1,m2,m3⟩=> ?_)
 ·obtain⟨I1,r1,q⟩:=a5 E L ι I a w r;exact⟨I1,r1,λcs hcs=>k3.ars (q cs hcs)⟩
 ·have hsame:∀a,a<h1.length->h'[a]? =h1[a]? :=λa ha=>m3.same a ha (λid=>by simp);exact⟨ρ,r,rfl,m1.up hfl,a1.ext m3.len hsame,a3,a2.ext m3.len hsame⟩
end
def Unt (ids:List Nat) (H H':List Ob):Prop:=∀(id:Nat) (x:Ob),H[id]? =some x->id∉ids->H'[id]? =some x
theorem i8 :∀{ids:List Nat} {xs:List AT} {H:List Ob},Unt ids H (dw ids xs H).2
 |[],xs,H=>λ_ _ h _=>h
 | id :: ids, xs, H => fun j z hz hn => by
  unfold dw;have hne:j≠id:=λe=>hn (by simp[e]);have hn':j∉ids:=λe=>hn (by simp[e]);split
  ·exact i8 j z (by rw[sN (λe=>hne e.symm)];exact hz) hn'
  ·exact i8 j z hz hn'
theorem Unt.refl (ids:List Nat) (H:List Ob):Unt ids H H:=λ_ _ h _=>h
theorem ic {O:Orc} {f:Nat}:∀{j:Nat} {xs ys:List AT} {H H':List Ob},gL O f j xs H=some (ys,H')->∃t,H'=H++t
 |j,[],ys,H,H',hc=>by simp only[gL]at hc;cases hc;exact⟨[],by simp⟩
 | j, x :: xs, ys, H, H', hc => by
  unfold gL at hc;split at hc
  ·split at hc
   ·rename_i h2;cases hc;exact ic h2
   ·cases hc
  ·split at hc
   ·split at hc
    ·rename_i h2;cases hc;obtain⟨t,rfl⟩:=ic h2;exact⟨_,List.append_assoc _ _ _⟩
    ·cases hc
   ·split at hc
    ·rename_i h2;cases hc;exact ic h2
    ·cases hc
theorem zg       {tb : Nat → Option TI} (htb : TBOK P tb) {O : Orc} (hO : fg    P O) {o : Oper} {d : Nat} (hd : o.dst = some d) (hn : d < E.n) {K : AT → List Ob → Option R} {r : R} (hc : qH    tb O o D H K = some r) : ∃ v H', K v H' = some r ∧ (∀ F : In, cB   P o E F D H v H') ∧ Unt (cD    tb O o D H) H H' := by
 obtain⟨dst,op,ty,pos,af,gd⟩:=o;simp only at hd;subst hd;unfold qH at hc;simp only at hc;split at hc
 ·rename_i x args tys;split at hc
  ·rename_i f caps xs hx hxs;obtain⟨args,rfl⟩:∃l:List Operand,args=l.toArray:=⟨args.toList,by simp⟩;simp only at hxs;unfold yK    at hc;split at hc
   ·split at hc
    ·rename_i ys hy;obtain⟨v,H',h1,h2⟩:=hO _ _ _ _ _ _ hc;split at h1
     ·rename_i hsc;exact⟨v,H,h1,λ_=>sa htb hn hx hxs hy hsc h2,.refl _ _⟩
     ·cases h1
    ·cases hc
   ·rename_i hmode;split at hc
    ·rename_i ys hy;obtain⟨v,H',h1,h2⟩:=hO _ _ _ _ _ _ hc;split at h1
     ·rename_i hfl;exact⟨v,H,h1,λ_=>rU htb hn hx hxs hy hfl h2,.refl _ _⟩
     ·cases h1
    ·split at hc
     ·cases hc
     ·rename_i id ids hids;simp only at hc;split at hc
      ·rename_i ys hy;obtain⟨v,H',h1,h2⟩:=hO _ _ _ _ _ _ hc;split at h1
       ·rename_i hfl;refine⟨v,_,h1,λ_=>zE       htb hn hx hxs hy hfl h2,?_⟩;have e:cD    tb O ⟨some d,.call ⟨.value x,args.toArray,tys⟩,ty,pos,af,gd⟩ D H=id::ids:=by
         simp only[cD,hx,hxs,hmode,hids]
        rw[e];exact i8
       ·cases h1
      ·cases hc
   ·rename_i m hmode;split at hc
    ·rename_i ys H1 hcv;simp only at hc;split at hc
     ·rename_i Hc zs hnd hpk hmv;obtain⟨v,Hc',h1,h2⟩:=hO _ _ _ _ _ _ hc;split at h1
      ·rename_i Hb u hb1 hb2 hb3;refine⟨u,_,h1,λF ρ L h hs hp hf=> ?_,λid x hx0 hni=> ?_⟩
       case refine_2=>
        simp only[cD,hx,hxs,hmode,hcv]at hni;obtain⟨t,rfl⟩:=ic hcv;have hlt:=(gI.1 hx0).1;rw[aL (by rw[du];simp;omega),eJ _ _ _ hni,aL hlt];exact hx0
       obtain⟨vs,avs,e1,e2,e3⟩:=py (tys:=tys) htb hx hxs hs;obtain⟨ρ1,bvs,m1,m2,m3⟩:=jA hcv hp hf e3;obtain⟨c1,c2,c3⟩:=jh m1.heap hnd hpk;obtain⟨d1,d2⟩:=jk hmv;refine Abs.qD e1 e2 hn (h2 _ h bvs c1 ⟨by rw[d1];exact m2.1,λj j1 j2=>px c2 (m2.2 j (by omega) j2) (d2 j (by omega) j1)⟩) (λι I w cs hcs=>m3.ars hcs) (λr h' ⟨ρ',n1,n2,n3⟩=> ?_);obtain⟨p1,p2,p3,p4⟩:=Cg m1.heap m1.fr hnd hpk n2 n3 (Nat.le_of_ble_eq_true hb1) hb2;exact⟨_,r,rfl,px p4 n1 hb3,p1,m1.ev.trans p2,p3⟩
      ·cases h1
     ·cases hc
    ·cases hc
  ·cases hc
 ·cases hc
def Le (Hm H:List Ob):Prop:=∀(id:Nat) (x:Ob),Hm[id]? =some x->x≠.gone->H[id]? =some x
theorem Le.refl (H:List Ob):Le H H:=λ_ _ h _=>h
theorem Le.unt {Hm H H':List Ob} {ids:List Nat} (h:Le Hm H) (u:Unt ids H H') (hs:ids.all (uu Hm)=true):Le Hm H':=λid x hx hg=>by
 refine u id x (h id x hx hg) λhm=> ?_;have:=aT.1 hs id hm;unfold uu at this;rw[hx]at this;cases x<;>first|exact hg rfl|cases this
theorem Le.trans {A B H:List Ob} (h:Le A B) (k:Le B H):Le A H:=λid x hx hg=>k id x (h id x hx hg) hg
theorem rD (ids:List Nat) (H:List Ob):Le (sT ids H) H:=λid x hx hg=>by
 unfold sT at hx;rw[List.getElem?_mapIdx]at hx;obtain⟨o,h1,h2⟩:=Option.map_eq_some_iff.1 hx;split at h2
 ·exact absurd h2.symm hg
 ·rw[h1,h2]
theorem Le.hide {Hd H H':List Ob} {ids:List Nat} (h:Le Hd H) (u:Unt ids H H'):Le (sT ids Hd) H':=λid x hx hg=>by
 refine u id x (h id x (rD ids Hd id x hx hg) hg) λhm=>hg ?_;unfold sT at hx;rw[List.getElem?_mapIdx]at hx;obtain⟨o,_,h2⟩:=Option.map_eq_some_iff.1 hx;rw[if_pos (by simpa using hm)]at h2;exact h2.symm
theorem rL (vis:List Nat) (H:List Ob):Le (eM vis H) H:=λid x hx hg=>by
 unfold eM at hx;rw[List.getElem?_mapIdx]at hx;obtain⟨o,h1,h2⟩:=Option.map_eq_some_iff.1 hx;split at h2
 ·rw[h1,h2]
 ·exact absurd h2.symm hg
theorem pe {Hm H:List Ob} (hl:Le Hm H) {c c':C} (h:ku Hm c=some c'):ku H c=some c':=by
 unfold ku at h ⊢;split at h
 case h_3=>
  split at h
  ·rename_i hx;rw[hl _ _ hx (by simp)];exact h
  ·cases h
 all_goals exact h
theorem mS {Hm H:List Ob} (hl:Le Hm H):∀{cs ds:List C},cP Hm cs=some ds->cP H cs=some ds
 |[],ds,h=>h
 | c :: cs, ds, h => by
  simp only[cP]at h ⊢;split at h
  ·rename_i x xs h1 h2;rw[pe hl h1,mS hl h2];exact h
  ·cases h
theorem u6 {Hm H:List Ob} (hl:Le Hm H) {x y:AT} (h:eO Hm x=some y):eO H x=some y:=by
 cases x with
 | one c =>
  simp only[eO,Option.map_eq_some_iff]at h ⊢;obtain⟨c',h1,rfl⟩:=h;exact⟨c',pe hl h1,rfl⟩
 | agg cs =>
  simp only[eO,Option.map_eq_some_iff]at h ⊢;obtain⟨c',h1,rfl⟩:=h;exact⟨c',mS hl h1,rfl⟩
 |tup _=>cases h
theorem la {Hm H:List Ob} (hl:Le Hm H):∀{xs ys:List AT},cg Hm xs=some ys->cg H xs=some ys
 |[],ys,h=>h
 | x :: xs, ys, h => by
  simp only[cg]at h ⊢;split at h
  ·rename_i y ys h1 h2;rw[u6 hl h1,la hl h2];exact h
  ·cases h
theorem BB {tb:Nat->Option TI} (htb:TBOK P tb) {O:Orc} (hO:fg P O) {o:Oper} {d:Nat} (hd:o.dst=some d) (hn:d<E.n) (hk:mO tb O o D=true) {K:AT->List Ob->Option R} {r:R} (hc:qH tb O o D H K=some r):∃v,K v H=some r/\∀H',Le H H'->cB P o E F D H' v H':=by
 obtain⟨dst,op,ty,pos,af,gd⟩:=o;simp only at hd;subst hd;unfold qH at hc;simp only at hc;split at hc
 ·rename_i x args tys;split at hc
  ·rename_i f caps xs hx hxs;obtain⟨args,rfl⟩:∃l:List Operand,args=l.toArray:=⟨args.toList,by simp⟩;simp only at hxs;simp only[mO   ,hx,hxs]at hk;unfold yK    at hc;split at hc
   ·split at hc
    ·rename_i ys hy;obtain⟨v,H',h1,h2⟩:=hO _ _ _ _ _ _ hc;split at h1
     ·rename_i hsc;exact⟨v,h1,λH2 hl=>sa htb hn hx hxs (la hl hy) hsc h2⟩
     ·cases h1
    ·cases hc
   ·rename_i hmode;split at hc
    ·rename_i ys hy;obtain⟨v,H',h1,h2⟩:=hO _ _ _ _ _ _ hc;split at h1
     ·rename_i hfl;exact⟨v,h1,λH2 _=>rU htb hn hx hxs hy hfl h2⟩
     ·cases h1
    ·simp only[hmode]at hk;split at hc
     ·cases hc
     ·rename_i id ids hids;rw[hids]at hk;cases hk
   ·rename_i m hm;rw[hm]at hk;cases hk
  ·cases hc
 ·cases hc
end
end Go.Proofs.YtkinkfieackmdaaGreatDoor.Den

/- merged -/
import Derived.Test.YtkegnipofloejaaGreatDoorZRowMT6

namespace Go.Proofs.YtkegnipofloejaaGreatDoor.Den
open Go.RowKit
open Abs (V AV Env au ar)
section
variable {P : Program} {E : Abs.Cx} {F : In} {ρ : Rho} {H : Td Ob} {D : Td (Nat × AT)} {L : Env} {h : au} {d : Nat} {ty : TypeId} {pos : String} {af : Array Edge} {gd : Y (Nat × Bool)} {tb : Nat → Y TI}
theorem evo.kf(x:Ob):evo x .aQ:=.inl rfl
section
variable {id t n off:Nat}{T U:Ty}{y x:Operand}{B:C}{w:TI}{cs vs a:Td C}
theorem HpR.aQ(hp:HpR ρ H h){v:Ob}(h0:H[id]? =some v):HpR ρ (H.set id .aQ) h:=by
 have d:Ev ρ H ρ (H.set id .aQ):=Ev.set h0 (evo.kf _);refine HpR.mk' RC (λj z w=> ?_) (λi j a k1 t l1 l2=>hp.inj i j a k1 t (d.lv (by simpa using l1.lt) l1) (d.lv (by simpa using l2.lt) l2)) hp.lt;rcases jI w with⟨rfl,rfl,_⟩|⟨_,h1⟩
 .simp_all
 .rcases hp.ob h1 with⟨b,y,k1,t,A⟩|k1|k1
  .exact .inl ⟨b,y,k1,t,A.mono d⟩
  .grind
  .grind
theorem Fr.aQ(d:Fr F ρ H h){j:Ob}(h0:H[id]? =some j):Fr F ρ (H.set id .aQ) h:=
 d.step (Ev.set h0 (evo.kf _)) (O3 _) (λid _ h1 l=>.inl ⟨id,h1,(Ev.set (ρ:=ρ) h0 (evo.kf _)).lv Rn l⟩) (λ_ _ _=>rfl)
theorem mj(j:0<szT T)(hp:HpR ρ H h){xs:Td (I T)}{es:Td (Td V)}(d:FRl T xs es):
  ATR (ρ++[some h.length]) (H++[.row T 0 xs]) (.one (.o H.length)) (.one (.own h.length 0 es.length))/\HpR (ρ++[some h.length]) (H++[.row T 0 xs]) (h++[some (.row (szT T) es)]):=by
 refine⟨.one ?_,hp.push ⟨es,rfl,d.fr j⟩⟩;have:=CR.o (ρ:=ρ++[some h.length]) (H:=H++[.row T 0 xs]) (id:=H.length) (a:=h.length) (n:=0) (T:=T) (xs:=xs) (by rw[<-hp.len];simp) A1;rw[d.len];exact this
theorem rg(d:0<szT T)(hp:HpR ρ H h):
  ATR (ρ++[none]) (H++[.row T 0 []]) (.one (.o H.length)) (.one (.lit (.slice none 0 0)))/\HpR (ρ++[none]) (H++[.row T 0 []]) h:=
 ⟨.one (.oN (n:=0) (T:=T) (xs:=[]) (by rw[<-hp.len];simp) A1),hp.ny d⟩
def Hh(P:Program)(E:Abs.Cx)(D:Td (Nat×AT))(H:Td Ob)(T:Ty)(tx:Nat)(y:Operand)(ys:Td (I T)):Prop:=∀ρ L h,cj ρ H D L->HpR ρ H h->∃ns,FRl T ys ns/\Abs.o8 P E L h (szT T) tx y ns
theorem nU(d:bQ P tb){tx:Nat}{A:TI}{ys:Td (I T)}(G:tb tx=some A)(t:A.elem=some U)(J:ev D y=some (.one B))(w:kB H T B=some ys):Hh P E D H T tx y ys:=λρ L h hs K=>by
 obtain⟨j,F⟩:=d.get G;obtain⟨M,N,R,k1,_⟩:=F.elem U t;obtain⟨S,c1,c2⟩:=bf hs J;obtain⟨v,rfl,c3⟩:=c2.bi;obtain⟨ns,O,Q⟩:=Bc K c3 w;exact⟨ns,Q,Abs.fP F.tb k1 c1 O⟩
theorem uo:∀l:Td UInt8,FRl .u (l.map λb=>(b.toNat:Int)) (l.map λc=>[V.lit (.int .u8 c.toNat)])
 |[]=>.nil
 | c::l=>by
  refine .cons ⟨rfl,λj h1 h2=> ?_⟩ (uo l);have:j=0:=QM
  subst this;exact .k
theorem xS(d:bQ P tb){tx:Nat}{A:TI}{s:Z}(B:tb tx=some A)(t:A.str=true)(C:ev D y=some (.one (.s s))):Hh P E D H .u tx y (ofS s):=λρ L h hs F=>by
 obtain⟨j,w⟩:=d.get B;obtain⟨G,c1,c2⟩:=bf hs C;obtain⟨v,rfl,c3⟩:=c2.bi;cases c3.str;exact⟨Abs.pK s,uo _,Abs.D8 w.tb w.look (w.str t) c1⟩
theorem ro(R:bQ P tb)(S:d<E.n){tx:Nat}{W:TI}{xs ys zs:Td (I T)}(Z:tb t=some W)(he:W.elem=some T)(hx:ev D x=some (.one (.o id)))(w:H[id]? =some (.row T n xs))(hl:lim (xs++ys)=some zs){ρ:Rho}{L:Env}{h:au}(hs:cj ρ H D L)(Q:HpR ρ H h)(X:Fr F ρ H h)(J:∃ns,FRl T ys ns/\Abs.o8 P E L h (szT T) tx y ns):
  ar P ⟨some d,.call ⟨.builtin .append,#[x,y],#[t,tx]⟩,ty,pos,af,gd⟩ E (iR F H ρ (some d) L (.one (.o H.length)) ((H.set id .aQ)++[.row T 0 zs])) L h:=by
 obtain⟨rfl,K⟩:=sE hl;obtain⟨i,G⟩:=R.get Z;obtain⟨el,z',g0,g1,g2,g3,g4,M,g6,Y,g8⟩:=G.elem T he;obtain⟨av,U,a2⟩:=bf hs hx;obtain⟨u,rfl,a3⟩:=a2.bi;obtain⟨ns,N,V⟩:=J;have bF:(H.set id Ob.aQ).length=H.length:=A1
 have A:el.zero≠[]:=by intro e;rw[e]at M;simp at M;omega
 simp only[OJ]at K;have B:Ev ρ H ρ (H.set id .aQ):=Ev.set w (evo.kf _);rcases a3.own w with⟨a,rfl,a4⟩|⟨rfl,a4⟩
 .obtain⟨es,e1,e2⟩:=Q.at_ a4 w;have e3:=e2.frl;have j:HpR ρ (H.set id .aQ) (h.set a none):=Q.set a4 w A1 (evo.kf _) trivial;have v:Fr F ρ (H.set id .aQ) (h.set a none):=X.set a4 w A1 (evo.kf _);obtain⟨m1,C⟩:=mj g4 j (e3.app N);have O:=v.push j.len (.row T 0 (xs++ys)) (some (.row (szT T) (es++ns)));rw[bF]at m1;rw[PS]at m1 C O;refine Abs.tH G.tb U g1 A M g3 e1 (by rw[Pp,e3.len]) V (by rw[N.len];omega) Y S ⟨ρ++[some h.length],_,rfl,?_,C,B.trans (Ev.push _ _),O⟩;rw[OJ,e3.len]at m1;exact m1
 .obtain⟨rfl,_⟩:xs=[]/\True:=by
   rcases Q.row _ n _ _ w with⟨a',es,h7,_⟩|⟨_,h7,_⟩
   .grind
   .grind
  have j:HpR ρ (H.set id .aQ) h:=Q.aQ w;have v:Fr F ρ (H.set id .aQ) h:=X.aQ w;cases ns with
  | nil=>
   have:ys=[]:=by have:=N.len;cases ys with|nil=>rfl|cons=>simp at this
   subst this;obtain⟨m1,C⟩:=rg g4 j;rw[bF]at m1;exact Abs.nc G.tb U g1 A M g3 V S ⟨ρ++[none],_,rfl,m1,C,B.trans (Ev.push _ _),v.ny j.len _⟩
  | cons n0 ns=>
   obtain⟨m1,C⟩:=mj g4 j N;rw[bF]at m1;exact Abs.jS G.tb U g1 A M g3 V A1 (by rw[N.len];omega) Y S ⟨ρ++[some h.length],_,rfl,m1,C,B.trans (Ev.push _ _),v.push j.len _ _⟩
theorem sR(v:bQ P tb)(B:d<E.n){tx:Nat}{xs ys zs:Td (I T)}(C:tb t=some w)(he:w.elem=some T)(G:ev D x=some (.one (.o id)))(J:H[id]? =some (.row T n xs))(j:Hh P E D H T tx y ys)(hl:lim (xs++ys)=some zs):
  eS P ⟨some d,.call ⟨.builtin .append,#[x,y],#[t,tx]⟩,ty,pos,af,gd⟩ E F D H (.one (.o H.length)) ((H.set id .aQ)++[.row T 0 zs]):=λρ L h hs A K=>
 ro v B C he G J hl hs A K (j ρ L h hs A)
theorem En(h:bQ P tb)(G:d<E.n){tx:Nat}{A:TI}{xs ys zs:Td (I T)}(J:tb t=some w)(he:w.elem=some T)(K:tb tx=some A)(j:A.elem=some U)(L:ev D x=some (.one (.o id)))(M:H[id]? =some (.row T n xs))(N:ev D y=some (.one B))(v:kB H T B=some ys)(hl:lim (xs++ys)=some zs):
  eS P ⟨some d,.call ⟨.builtin .append,#[x,y],#[t,tx]⟩,ty,pos,af,gd⟩ E F D H (.one (.o H.length)) ((H.set id .aQ)++[.row T 0 zs]):=
 sR h G J he L M (nU h K j N v) hl
theorem mO(B:bQ P tb)(K:d<E.n){tx:Nat}{M:TI}{S:Ty}{ys zs:Td (I T)}(U:tb t=some M)(he:M.elem=some T)(V:ev D x=some (.one (.nil S)))(j:Hh P E D H T tx y ys)(hl:lim ys=some zs):
  eS P ⟨some d,.call ⟨.builtin .append,#[x,y],#[t,tx]⟩,ty,pos,af,gd⟩ E F D H (.one (.o H.length)) (H++[.row T 0 zs]):=λρ L h hs v N=>by
 obtain⟨rfl,O⟩:=sE hl;obtain⟨i,G⟩:=B.get U;obtain⟨W,Z,g0,g1,g2,g3,g4,A,g6,X,g8⟩:=G.elem T he;obtain⟨av,Q,Y⟩:=bf hs V;obtain⟨u,rfl,a3⟩:=Y.bi;have:u= .lit (.slice none 0 0):=by cases a3 with|fl h=>cases h|nil _=>rfl
 subst this;obtain⟨ns,C,R⟩:=j ρ L h hs v;have w:W.zero≠[]:=by intro e;rw[e]at A;simp at A;omega
 cases ns with
 | nil=>
  have:zs=[]:=by have:=C.len;cases zs with|nil=>rfl|cons=>simp at this
  subst this;obtain⟨m1,J⟩:=rg g4 v;exact Abs.nc G.tb Q g1 w A g3 R K ⟨ρ++[none],_,rfl,m1,J,Ev.push _ _,N.ny v.len _⟩
 | cons n0 ns=>
  obtain⟨m1,J⟩:=mj g4 v C;exact Abs.jS G.tb Q g1 w A g3 R A1 (by rw[C.len];omega) X K ⟨ρ++[some h.length],_,rfl,m1,J,Ev.push _ _,N.push v.len _ _⟩
theorem vS(h:bQ P tb)(G:d<E.n){tx:Nat}{A:TI}{J:Ty}{ys zs:Td (I T)}(K:tb t=some w)(he:w.elem=some T)(L:tb tx=some A)(j:A.elem=some U)(M:ev D x=some (.one (.nil J)))(N:ev D y=some (.one B))(v:kB H T B=some ys)(hl:lim ys=some zs):
  eS P ⟨some d,.call ⟨.builtin .append,#[x,y],#[t,tx]⟩,ty,pos,af,gd⟩ E F D H (.one (.o H.length)) (H++[.row T 0 zs]):=
 mO h G K he M (nU h L j N v) hl
theorem oA{ρ:Rho}{H:Td Ob}:ATR ρ H (.tup []) (.tup []):=.tup rfl (λj h=>F1)
theorem D7(w:bQ P tb){B:TI}{v:AT}(J:tb t=some B)(K:ev D x=some (.one (.p id off)))(j:H[id]? =some (.box cs))(M:ev D y=some v)(N:cells v=some vs)(h1:B.size=vs.length)(h2:off+vs.length<=cs.length):
  eS P ⟨none,.store t x y,ty,pos,af,gd⟩ E F D H (.tup []) (H.set id (.box (bB cs off vs))):=λρ L h hs I O=>by
 obtain⟨i,G⟩:=w.get J;obtain⟨T,Q,R⟩:=bf hs K;obtain⟨u,rfl,a3⟩:=R.bi;obtain⟨a,rfl,a4⟩:=a3.ptr;obtain⟨U,us,b1,b2,b3⟩:=I.box id cs j;rw[a4]at b1;cases b1;obtain⟨aw,c1,c2⟩:=bf hs M;obtain⟨S,c3,c4⟩:=lR N c2;have he:evo (.box cs) (.box (bB cs off vs)):=.inr (.inr (.inl ⟨_,_,rfl,rfl⟩));have d:Ev ρ H ρ (H.set id (.box (bB cs off vs))):=Ev.set j he;have A:=CRs.bB b3 c4 off;have bF:(Abs.bB us off S).length=us.length:=Abs.rY (by rw[<-c4.1,<-b3.1];exact h2);refine Abs.oU G.tb Q c1 c3 G.look (by rw[G.size,h1,c4.1]) b2 rfl (by rw[<-c4.1,<-b3.1];exact h2) ⟨ρ,.tup [],rfl,oA,?_,d,?_⟩
 .exact I.set a4 j A1 he ⟨_,by rw[bF];rfl,A.mono d⟩
 .exact O.set a4 j A1 he
theorem ke.app{a b c e:Td V}(h:ke a b)(k:ke c e):ke (a++c) (b++e):=⟨by simp[h.1,k.1],λj h1 h2=>by
 by_cases d:j<a.length
 .rw[P0 d,P0 (by rw[<-h.1];exact d)];exact h.2 j d (by rw[<-h.1];exact d)
 .rw[P1 A0,P1 (by rw[<-h.1];omega)];have:=k.2 (j-a.length) I2 R0;have e:=h.1;simp only[e]at this ⊢;exact this⟩
theorem FRs.app{b:Td C}{x y:Td V}(h:FRs a x)(k:FRs b y):FRs (a++b) (x++y):=
 ⟨by simp [h.1,k.1],fun j h1 h2=>by
   by_cases t:j<a.length
   · have d:j<x.length:=by rw[<-h.1];exact t
     rw[P0 t,P0 d];exact h.2 j t d
   · have d:¬j<x.length:=by rw[<-h.1];exact t
     rw[P1 A0,P1 A0];have:=k.2 (j-a.length) I2 R0;have e:=h.1;simp only[e]at this ⊢;exact this⟩
theorem FRs.take{x:Td V}(h:FRs a x)(n:Nat):FRs (a.take n) (x.take n):=
 ⟨QQ,fun j h1 h2=>by
  simp only[PW];exact h.2 j I2 QM⟩
theorem FRs.drop{x:Td V}(h:FRs a x)(n:Nat):FRs (a.drop n) (x.drop n):=
 ⟨QQ,fun j h1 h2=>by
  simp only[Px];exact h.2 (n+j) I2 QM⟩
theorem FRs.bB{cs d:Td C}{vs us:Td V}(h:FRs cs vs)(k:FRs d us)(off:Nat):FRs (bB cs off d) (Abs.bB vs off us):=by
 unfold Den.bB Abs.bB;rw[<-k.1];exact(h.take off).app (k.app (h.drop _))
theorem jA.set{a b:Td (Td V)}(h:jA a b){x y:Td V}(d:ke x y):∀k,jA (a.set k x) (b.set k y):=by
 induction h with
 |nil=>intro k;exact .nil
 | cons h k j=>
  intro m;cases m with
  |zero=>exact .cons d k
  |succ m=>exact .cons h (j m)
theorem sW{d:Td C}{us:Td V}(t:d.all fL=true)(h:CRs [] [] d us):FRs d us:=⟨h.1,λj k1 v=>kO (aT.1 t _ (gM k1)) (h.2 j k1 v)⟩
def tyC:C->Y Ty
 | .l T _=>some T
 |_=>none
theorem xL:∀{a b cs:Td C},a.map tyC=b.map tyC->qO a cs=qO b cs
 |[],[],_,_=>rfl
 |[],_::_,_,h=>F1
 |_::_,[],_,h=>F1
 |x::a,y::b,[],_=>by cases x<;>cases y<;>rfl
 | x::a,y::b,c::cs,h=>by
  simp only[Pz,List.cons.injEq]at h;have d:=xL (cs:=cs) h.2;have h1:=h.1;cases x<;>cases y<;>simp only[tyC,OW,reduceCtorEq]at h1<;>(try subst h1)<;>cases c<;>simp only[qO,d]
theorem xO:∀(T:Ty)(x y:I T),(aC T x).map tyC=(aC T y).map tyC
 | .i,_,_| .b,_,_| .s,_,_| .u,_,_| .sl _,_,_| .n 0,_,_| .n 1,_,_| .n 2,_,_| .n 3,_,_| .n 4,_,_| .n 5,_,_| .n 6,_,_| .n 7,_,_| .n 8,_,_| .n 9,_,_| .n 10,_,_| .n 11,_,_| .n 12,_,_| .n 13,_,_| .n 14,_,_| .n 15,_,_| .n 16,_,_| .n (_+17),_,_=>rfl
theorem ul(U:bQ P tb){m n':Nat}{ti:TI}{e Q w:I T}{v:AT}{V:Td C}{xs:Td (I T)}(ht:tb t=some ti)(hx:ev D x=some (.one (.e id m n T e off)))(B:H[id]? =some (.row T n' xs))(hm:xs[m]? =some Q)(hy:ev D y=some v)(hv:cells v=some vs)(hd:gb [] (qO ((aC T e).drop off) vs)=some V)(hi:jJ T (bB (aC T Q) off V)=some w)
  (h1:ti.size=vs.length) (h2:off+vs.length<=szT T) (R:0<szT T):
  eS P ⟨none,.store t x y,ty,pos,af,gd⟩ E F D H (.tup []) (H.set id (.row T (n'+1) (xs.set m w))):=λρ L h hs hh A=>by
 obtain⟨i,G⟩:=U.get ht;obtain⟨av,a1,a2⟩:=bf hs hx;obtain⟨u,rfl,a3⟩:=a2.bi;obtain⟨a,xs',rfl,a4,a5,a6,a7,a8⟩:=a3.eptr B;obtain⟨es,b1,b2⟩:=hh.at_ a4 B;obtain⟨d,b3,b4⟩:=b2.elem hm;obtain⟨aw,c1,c2⟩:=bf hs hy;obtain⟨S,c3,c4⟩:=lR hv c2;rw[xL (b:=(aC T Q).drop off) (by rw[List.map_drop,List.map_drop,xO T e Q])]at hd;obtain⟨us,u1,_,u3,u4⟩:=mz hd (wk (us:=d.drop off) ⟨by rw[Pi,Pi,b4.1],λj g1 g2=>by rw[Px,Px];exact b4.2 _ _ _⟩ c4);have hex:=iD hi;have W:V.all fL=true:=by
  have A:=iS R w;rw[hex]at A;unfold bB at A;simp only[Qf,bA]at A;exact A.2.1
 have J:=(b4.bB (sW W u1) off);rw[<-hex]at J;have M:S.length=vs.length:=c4.1.symm;have hel:d.length=szT T:=by rw[<-b4.1,df T R]
 have N:ke (Abs.bB d off S) (Abs.bB d off us):=by
  unfold Abs.bB;refine(ke.refl _).app (ke.app ⟨u3,u4⟩ ?_);rw[<-u3];exact ke.refl _
 have O:FRl T (xs.set m w) (es.set m (Abs.bB d off us)):=FRl.set J b2.frl m;have he:evo (.row T n' xs) (.row T (n'+1) (xs.set m w)):=.inr (.inl ⟨T,n',xs,n'+1,_,rfl,rfl,A1,A0,λe=>A0⟩);have X:Ev ρ H ρ (H.set id (.row T (n'+1) (xs.set m w))):=Ev.set B he;have Y:=Abs.oU (P:=P) (E:=E) (L:=L) (h:=h) (ty:=ty) (pos:=pos) (af:=af) (gd:=gd) (K:=λZ h2=>Z=L/\h2=h.set a (some (.row (szT T) (es.set m (Abs.bB d off S))))) G.tb a1 c1 c3 G.look (by rw[G.size,h1,M]) b1 b3 (by rw[M];exact h2) ⟨rfl,rfl⟩;refine oY Y λZ h2' ⟨k1,k2⟩=> ?_;subst k1 k2;have halt:a<h.length:=(gI.1 b1).1;refine⟨_,h.set a (some (.row (szT T) (es.set m (Abs.bB d off us)))),⟨ρ,.tup [],rfl,oA,hh.set a4 B A1 he ⟨_,rfl,O.fr R⟩,X,A.set a4 B A1 he⟩,λLf=> ?_⟩;have:=br.imp (L:=Z++Lf) (h:=h.set a (some (.row (szT T) (es.set m (Abs.bB d off S))))) (id:=a) (s:=szT T) (es:=_) (es':=es.set m (Abs.bB d off us)) (sS halt) ((jA.refl es).set N m) (O.lens R);rw[P4]at this;exact this
end
end
def Pl.has{X:Type}(p:Pl X)(x:X):Prop:=match p with
 | .no=>False
 | .ret y=>y=x
 | .opt m f=>∃a,m=some a/\f a=some x
theorem Pl.iU{X R:Type}{p:Pl X}{K:X->Y R}{r:R}(h:p.run K=some r):∃x,p.has x/\K x=some r:=by
 cases p with
 |no=>cases h
 |ret x=>exact⟨x,rfl,h⟩
 | opt m f=>
  cases m with
  |none=>cases h
  | some a=>
   simp only[Pl.run,bS]at h;split at h
   .rename_i x d;exact⟨x,⟨a,rfl,d⟩,h⟩
   .cases h
theorem bb{α β:Type}{m:Y α}{f:α->Y β}{b:β}(h:m.bind f=some b):∃a,m=some a/\f a=some b:=by
 cases m with
 |none=>cases h
 |some a=>exact⟨a,rfl,h⟩
section
variable {P : Program} {E : Abs.Cx} {F : In} {ρ : Rho} {H : Td Ob} {D : Td (Nat × AT)} {L : Env} {h : au} {d : Nat} {ty : TypeId} {pos : String} {af : Array Edge} {gd : Y (Nat × Bool)} {tb : Nat → Y TI}
section
variable {s q:Z}{i b a:Int}{u0:Unit}{t id:Nat}{w K:TI}{x y hi:Operand}{T:Ty}{op:Go.Op}{H':Td Ob}
theorem H7(h:sIx s i=some b):0<=i/\∃c,s[i.toNat]? =some c/\b=c.toNat:=by
 unfold sIx at h;cases h0:decide (0<=i)with
 |false=>rw[h0]at h;cases h
 | true=>
  rw[h0]at h;simp only[cT]at h;split at h
  .grind
  .cases h
theorem De(h:Ac s a b=some q):0<=a/\a<=b/\b<=s.size/\q=s.extract a.toNat b.toNat:=by
 unfold Ac at h;cases h0:(decide (0<=a)&&decide (a<=b)&&decide (b<=(s.size:Int)))with
 |false=>rw[h0]at h;cases h
 | true=>
  rw[h0]at h;simp only[bA,O8]at h0;cases h;exact⟨h0.1.1,h0.1.2,h0.2,rfl⟩
theorem qE{n:Int}{u:Unit}(h:pX n a b=some u):a=n/\b=n:=by
 unfold pX at h;cases h0:(decide (a=n)&&decide (b=n))with
 |false=>rw[h0]at h;cases h
 |true=>simpa using h0
theorem DL(j:bQ P tb)(hs:cj ρ H D L)(A:d<E.n)(B:tb t=some w)(v:w.str=true)(C:ev D x=some (.one (.s s)))(G:ev D y=some (.one (.i i)))(I:sIx s i=some b):
  cZ P ⟨some d,.index t x y,ty,pos,af,gd⟩ E ρ H L h (.one (.k .u8 b)):=by
 obtain⟨J,F⟩:=j.get B;obtain⟨Q,h1,h2⟩:=bf hs C;obtain⟨u,rfl,K⟩:=h2.bi;cases K.str;obtain⟨aw,k1,M⟩:=bf hs G;obtain⟨u,rfl,N⟩:=M.bi;cases N.int;obtain⟨g1,c,O,rfl⟩:=H7 I;exact⟨_,.one (.fl .k),Abs.yR F.tb h1 k1 F.look (F.str v) g1 O A ⟨rfl,rfl⟩⟩
theorem CX(w:bQ P tb)(hs:cj ρ H D L)(M:d<E.n){lo hi:Y Operand}(N:tb t=some K)(A:K.str=true)(O:ev D x=some (.one (.s s)))
  (j:(match lo with|some y=>ev D y|none=>some (.one (.i 0)))=some (.one (.i a))) (v:(match hi with|some y=>ev D y|none=>some (.one (.i s.size)))=some (.one (.i b))) (Q:Ac s a b=some q):
  cZ P ⟨some d,.slice t x lo hi none,ty,pos,af,gd⟩ E ρ H L h (.one (.s q)):=by
 obtain⟨R,F⟩:=w.get N;obtain⟨T,h1,h2⟩:=bf hs O;obtain⟨u,rfl,S⟩:=h2.bi;cases S.str;obtain⟨s1,s2,U,rfl⟩:=De Q;obtain⟨B,rfl⟩:∃B:Nat,a=B:=⟨a.toNat,A0⟩;obtain⟨G,rfl⟩:∃G:Nat,b=G:=⟨b.toNat,A0⟩;refine⟨_,.one (.fl .s),Abs.yU (lo:=B) (hi:=G) (kl:=.i64) (kh:=.i64) F.tb h1 F.look (F.str A) ?_ ?_ A0 A0 M ⟨rfl,rfl⟩⟩
 .cases lo with
  |none=>simp only[OW,AT.one.injEq,C.i.injEq]at j;exact .inl ⟨rfl,A0⟩
  | some y=>
   obtain⟨aw,k1,I⟩:=bf hs j;obtain⟨u,rfl,J⟩:=I.bi;cases J.int;exact .inr ⟨y,rfl,k1⟩
 .cases hi with
  |none=>simp only[OW,AT.one.injEq,C.i.injEq]at v;exact .inl ⟨rfl,A0⟩
  | some y=>
   obtain⟨aw,k1,I⟩:=bf hs v;obtain⟨u,rfl,J⟩:=I.bi;cases J.int;exact .inr ⟨y,rfl,k1⟩
theorem Ju(v:bQ P tb)(hs:cj ρ H D L)(B:d<E.n){y:TI}{A:Operand}{w:Ty}{xs:Td (I T)}(C:tb t=some y)(he:y.elem=some w)(j:szT w=szT T)(G:ev D x=some (.one (.l T xs)))(J:ev D hi=some (.one (.i a)))(hm:ev D A=some (.one (.i b)))(hc:pX xs.length a b=some u0):
  cZ P ⟨some d,.slice t x none (some hi) (some A),ty,pos,af,gd⟩ E ρ H L h (.one (.lc T xs)):=by
 obtain⟨S,F⟩:=v.get C;obtain⟨U,z,_,g1,_,K,g3,_⟩:=F.elem w he;obtain⟨V,h1,h2⟩:=bf hs G;obtain⟨u,rfl,M⟩:=h2.bi;obtain⟨es,rfl,h4⟩:=M.list;obtain⟨aw,k1,N⟩:=bf hs J;obtain⟨u,rfl,O⟩:=N.bi;cases O.int;obtain⟨aw,m1,Q⟩:=bf hs hm;obtain⟨u,rfl,R⟩:=Q.bi;cases R.int;obtain⟨rfl,rfl⟩:=qE hc;have hl:es.length=xs.length:=by cases h4 with|l _ hl _ _=>exact hl
 rw[<-hl]at k1 m1;exact⟨_,.one (.lc h4),Abs.KF F.tb h1 g1 (K.trans j) (j▸g3) k1 m1 B ⟨rfl,rfl⟩⟩
theorem Bb(j:bQ P tb)(hs:cj ρ H D L)(A:d<E.n){v:TI}{w:Operand}{y:Ty}(B:tb t=some v)(he:v.elem=some y)(C:ev D x=some (.one (.nil T)))(G:ev D hi=some (.one (.i a)))(hm:ev D w=some (.one (.i b)))(hc:pX 0 a b=some u0):
  cZ P ⟨some d,.slice t x none (some hi) (some w),ty,pos,af,gd⟩ E ρ H L h (.one (.nil T)):=by
 obtain⟨O,F⟩:=j.get B;obtain⟨Q,z,_,g1,_,R,g3,_⟩:=F.elem y he;obtain⟨S,h1,h2⟩:=bf hs C;obtain⟨u,rfl,I⟩:=h2.bi;obtain⟨rfl,hp⟩:u= .lit (.slice none 0 0)/\0<szT T:=by cases I with|fl h=>cases h|nil hp=>exact⟨rfl,hp⟩
 obtain⟨aw,k1,J⟩:=bf hs G;obtain⟨u,rfl,K⟩:=J.bi;cases K.int;obtain⟨aw,m1,M⟩:=bf hs hm;obtain⟨u,rfl,N⟩:=M.bi;cases N.int;obtain⟨rfl,rfl⟩:=qE hc;exact⟨_,.one (.nil hp),Abs.AQ F.tb h1 g1 A0 k1 m1 A ⟨rfl,rfl⟩⟩
theorem Jl(k:IntKind)(a:Int):CR ρ H (Ja k a) (.lit (.int k (k.wrap a))):=by
 cases k<;>first|exact .fl .i|exact .fl .k
theorem BZ(j:bQ P tb)(hs:cj ρ H D L)(G:d<E.n){A:Nat}{B:TI}{c:C}{I k:IntKind}(y:tb A=some w)(J:tb t=some B)(hi:B.kd=some k)(K:ev D x=some (.one c))(hc:∀v,CR ρ H c v->v= .lit (.int I a)):
  cZ P ⟨some d,.convert A t x,ty,pos,af,gd⟩ E ρ H L h (.one (Ja k a)):=by
 obtain⟨Q,M⟩:=j.get y;obtain⟨i,F⟩:=j.get J;obtain⟨R,h1,h2⟩:=bf hs K;obtain⟨v,rfl,N⟩:=h2.bi;cases hc _ N;obtain⟨T,g1,O,g3⟩:=Ax M.ty F.ty;exact⟨_,.one (Jl k a),Abs.IZ g1 h1 O g3 (F.kd k hi) G ⟨rfl,rfl⟩⟩
theorem FRl.bytes{xs:Td (I .u)}{es:Td (Td V)}(h:FRl .u xs es):es=List.map (α:=Int) (λn=>[V.lit (.int .u8 n)]) xs:=by
 induction h with
 |nil=>rfl
 | @cons x e xs es h k d=>
  rw[d];show e::_=[V.lit (.int .u8 x)]::_
  congr 1
  obtain⟨h1,h2⟩:=h
  match e,h1,h2 with
  | [v],_,h2=>
   have:=h2 0 (by simp[aC]) A1;simp only[aC,OY]at this;cases this;rfl
theorem C6(j:bQ P tb)(hs:cj ρ H D L)(I:d<E.n){w:Nat}{C v:TI}{xs:Td Int}(y:tb w=some v)(J:tb t=some C)(he:v.elem=some .u)(A:C.str=true)(K:ev D x=some (.one (.l .u xs))):
  cZ P ⟨some d,.convert w t x,ty,pos,af,gd⟩ E ρ H L h (.one (.s (sOf xs))):=by
 obtain⟨U,B⟩:=j.get y;obtain⟨i,F⟩:=j.get J;obtain⟨G,z,M,g1,_,V,g3,_⟩:=B.elem .u he;obtain⟨W,h1,h2⟩:=bf hs K;obtain⟨u,rfl,N⟩:=h2.bi;obtain⟨es,rfl,h4⟩:=N.list;have O:=h4.frl.bytes;subst O;obtain⟨T,b1,b2,b3⟩:=Ax B.ty F.ty;have e1:Abs.du T w=some G:=by unfold Abs.du;rw[b2];exact M
 obtain⟨e2,_⟩:=Abs.bI b1 e1;obtain⟨Q,e3,R⟩:=B.u8 he;have S:Q=G.t:=by rw[e2]at e3;cases e3;rfl
 subst S;exact⟨_,.one (.fl .s),Abs.ze b1 h1 e1 R b3 (F.str A) I ⟨rfl,rfl⟩⟩
theorem nk{d:Ty}{xs:Td (Z×I d)}{ys:Td (Z×I T)}(h:BL xs=some ys):∃e:d=T,ys=e▸xs:=by
 unfold BL at h;split at h
 .grind
 .cases h
theorem Cs{cs:Td C}{vs:Td V}(h:CRs ρ H cs vs):ATR ρ H (El cs) (Abs.zo vs):=by
 match cs,vs,h with
 |[],[],h=>exact .agg h
 |[c],[v],h=>exact .one (h.2 0 A1 A1)
 |_::_::_,_::_::_,h=>exact .agg h
 |[],_::_,h=>exact T7
 |[_],[],h=>exact T7
 |[_],_::_::_,h=>exact T7
 |_::_::_,[],h=>exact T7
 |_::_::_,[_],h=>exact T7
theorem zb{T:Ty}(s:Z):∀{kvs:Td (Z×I T)}{d:Td (Z×Td V)},kvs.length=d.length->(∀(j:Nat)(h1:j<kvs.length)(h2:j<d.length),kvs[j].1=d[j].1/\FRs (aC T kvs[j].2) d[j].2)->
  (C5 kvs s=none/\Abs.iT d s=none)\/∃x vs,C5 kvs s=some x/\Abs.iT d s=some vs/\FRs (aC T x) vs
 |[],[],_,_=>.inl ⟨rfl,rfl⟩
 |[],_::_,h,_=>F1
 |_::_,[],h,_=>F1
 | (a, b)::kvs,(w,y)::d,hl,t=>by
  obtain⟨h1,h2⟩:=t 0 A1 A1;simp only[OY]at h1 h2;subst h1;simp only[C5,Abs.iT];by_cases e:a=s
  .grind
  .rw[O2 e,O2 e];exact zb s QG (λj k1 v=>t (j+1) Ru R6)
theorem DJ(C:bQ P tb)(hs:cj ρ H D L)(R:HpR ρ H h)(J:d<E.n){kvs:Td (Z×I T)}{z:I T}(S:tb t=some K)(hm:K.map=some T)(U:ev D x=some (.one (.m id)))(V:ev D y=some (.one (.s s)))(ho:H[id]? =some (.map T kvs))(W:jU T=some z):
  cZ P ⟨some d,.lookup t x y false,ty,pos,af,gd⟩ E ρ H L h (El (aC T (xG kvs s z)))/\cZ P ⟨some d,.lookup t x y true,ty,pos,af,gd⟩ E ρ H L h (.tup [El (aC T (xG kvs s z)),.one (.b (Jn kvs s))]):=by
 obtain⟨i',F⟩:=C.get S;obtain⟨m,z',m1,M,m3,N⟩:=F.map T hm;rw[W]at M;cases M;obtain⟨_,us,u1,u2⟩:=jq N;have A:∀ι I w,Abs.VRs ι I w us m.zero:=λι I w=>by
  have hl:m.zero.length=us.length:=by have:=u2.1;simpa using this
  refine⟨hl,λj X=> ?_⟩;have v:j<m.zero.length:=A0
  refine⟨m.zero[j],O0 v,?_⟩;refine u2.2 j R6 X I w ι _ ?_;rw[P5];have:=(jq N).1;exact .lit (Abs.oL (aT.1 this _ (gM v)))
 obtain⟨av,h1,h2⟩:=bf hs U;obtain⟨u,rfl,Y⟩:=h2.bi;obtain⟨aw,k1,k2⟩:=bf hs V;obtain⟨u',rfl,k3⟩:=k2.bi;cases k3.str;obtain⟨a,O,o1,Q,o3,o4,o5⟩:=R.map id T kvs ho;have hid:u= .mp a:=by
  cases Y with
  |fl h=>cases h
  |m B=>rw[o1]at B;cases B;rfl
 subst hid;have key:CRs ρ H (aC T (xG kvs s z)) (match Abs.iT O s with|some vs=>vs|none=>us)/\Jn kvs s=(Abs.iT O s).isSome:=by
  unfold xG Jn;rcases zb s o3 o5 with⟨g1,G⟩|⟨x',vs,g1,G,g3⟩
  .rw[g1,G];exact⟨u1.cr,rfl⟩
  .rw[g1,G];exact⟨g3.cr,rfl⟩
 constructor
 .exact⟨_,Cs key.1,Abs.Dv m1 h1 k1 Q A J ⟨rfl,rfl⟩⟩
 .refine⟨_,?_,Abs.w5 m1 h1 k1 Q A J ⟨rfl,rfl⟩⟩;refine .tup rfl (λj h1 h2=> ?_)
  match j,h1 with
  |0,_=>exact Cs key.1
  |1,_=>rw[key.2];exact .one (.fl .b)
theorem Bs:∀{xs:Td AT}{cs:Td C}{avs:Td AV},ones xs=some cs->xs.length=avs.length->(∀(j:Nat)(h1:j<xs.length)(h2:j<avs.length),ATR ρ H xs[j] avs[j])->∃vs,avs=vs.map AV.one/\CRs ρ H cs vs
 | [],cs,avs,h,hl,d=>by
  cases h;cases avs with
  |nil=>exact⟨[],rfl,.fj⟩
  |cons _ _=>simp at hl
 | .one c::xs,cs,avs,h,hl,d=>by
  simp only[ones]at h;split at h
  .rename_i t h1;cases h;cases avs with
   |nil=>simp at hl
   | cons A avs=>
    obtain⟨vs,rfl,w⟩:=Bs h1 QG (λj a b=>d (j+1) R4 R5);have:=d 0 A1 A1;simp only[OY]at this;obtain⟨v,rfl,y⟩:=this.bi;exact⟨v::vs,rfl,.cons y w⟩
  .cases h
 | .agg _::xs,cs,avs,h,hl,d=>HC
 | .tup _::xs,cs,avs,h,hl,d=>HC
theorem ri(t:bQ P tb)(C:d<E.n){v:AT}(j:(wE tb op D H).has v)(hs:cj ρ H D L)(V:HpR ρ H h):cZ P ⟨some d,op,ty,pos,af,gd⟩ E ρ H L h v:=by
 unfold wE at j;split at j
 .split at j
  .rename_i s i h1 h2 w;obtain⟨b,e1,e2⟩:=j;cases e2;obtain⟨I,A,B⟩:=Option.map_eq_some_iff.1 h1;exact DL t hs C A B h2 w e1
  .cases j
 .split at j
  .rename_i s h1 h2;split at j
   .rename_i a b w h4;obtain⟨q,e1,e2⟩:=j;cases e2;obtain⟨I,A,B⟩:=Option.map_eq_some_iff.1 h1;exact CX t hs C A B h2 w h4 e1
   .cases j
  .cases j
 .split at j
  .rename_i W T xs a b h1 h2 w h4;split at j
   .rename_i X;obtain⟨q,e1,e2⟩:=j;cases e2;obtain⟨I,A,B⟩:=bb h1;exact Ju t hs C A B (OL X) h2 w h4 e1
   .cases j
  .rename_i W T a b h1 h2 w h4;obtain⟨q,e1,e2⟩:=j;cases e2;obtain⟨I,A,B⟩:=bb h1;exact Bb t hs C A B h2 w h4 e1
  .cases j
 .split at j
  .rename_i J kd a h1 h2 w;cases j;obtain⟨I,A,B⟩:=bb h2;exact BZ t hs C h1 A B w (λv j=>j.int)
  .rename_i J kd k a h1 h2 w;cases j;obtain⟨I,A,B⟩:=bb h2;exact BZ t hs C h1 A B w (λv j=>j.qK)
  .rename_i Y xs h1 h2 w;split at j
   .rename_i h4 M;cases j;obtain⟨I,A,B⟩:=Option.map_eq_some_iff.1 M;exact C6 t hs C h1 A h4 B w
   .cases j
  .cases j
 .split at j
  .rename_i a h1;cases j;obtain⟨N,k1,G⟩:=bf hs h1;obtain⟨u,rfl,F⟩:=G.bi;cases F.int;exact⟨_,.one (.fl .i),Abs.Ky k1 C ⟨rfl,rfl⟩⟩
  .rename_i a h1;cases j;obtain⟨N,k1,G⟩:=bf hs h1;obtain⟨u,rfl,F⟩:=G.bi;cases F with
   |fl F=>
   cases F;exact⟨_,.one (.fl .k),Abs.Ke k1 C ⟨rfl,rfl⟩⟩
  .cases j
 .rename_i ae tys;split at j
  .rename_i x y O;obtain rfl:ae= #[x,y]:=by rw[<-O]
   split at j
   .rename_i a b h1 h2;cases j;obtain⟨N,k1,G⟩:=bf hs h1;obtain⟨u,rfl,F⟩:=G.bi;cases F.int;obtain⟨aw,m1,Q⟩:=bf hs h2;obtain⟨u,rfl,R⟩:=Q.bi;cases R.int;exact⟨_,.one (.fl .i),Abs.Mt k1 m1 C ⟨rfl,rfl⟩⟩
   .cases j
  .cases j
 .rename_i ae tys;split at j
  .rename_i x y O;obtain rfl:ae= #[x,y]:=by rw[<-O]
   split at j
   .rename_i a b h1 h2;cases j;obtain⟨N,k1,G⟩:=bf hs h1;obtain⟨u,rfl,F⟩:=G.bi;cases F.int;obtain⟨aw,m1,Q⟩:=bf hs h2;obtain⟨u,rfl,R⟩:=Q.bi;cases R.int;exact⟨_,.one (.fl .i),Abs.MW k1 m1 C ⟨rfl,rfl⟩⟩
   .cases j
  .cases j
 .split at j
  .rename_i T id s h1 h2 w;obtain⟨I,A,B⟩:=bb h1;split at j
   .rename_i T2 kvs z h4 M;split at j
    .rename_i S Z;obtain⟨e,rfl⟩:=nk Z;subst e;have:=DJ (P:=P) (E:=E) (h:=h) (ty:=ty) (pos:=pos) (af:=af) (gd:=gd) t hs V C A B h2 w h4 M;split at j
     .cases j;exact this.1
     .cases j;exact this.2
    .cases j
   .cases j
  .cases j
 .rename_i f first caps
  split at j
  .rename_i xs h1 h2;obtain rfl:first= #[]:=by rw[<-h1]
   split at j
   .rename_i cs w;cases j;obtain⟨avs,k1,G,F⟩:=AF hs h2;obtain⟨vs,k4,U⟩:=Bs w G F;have:=Abs.dD (P:=P) (E:=E) (K:=λL2 h2=>L2=(d,.one (.clo (.func f) vs))::L/\h2=h) (ty:=ty) (pos:=pos) (af:=af) (gd:=gd) (f:=f) k1 k4 C ⟨rfl,rfl⟩;rw[PQ]at this;exact⟨_,.one (.f U.1 U.2),this⟩
   .cases j
  .cases j
 .cases j
theorem mq{h H:Td Ob}(hl:∀(id:Nat)(x:Ob),h[id]? =some x->x≠.aQ->H[id]? =some x){v:AT}(d:(wE tb op D h).has v):(wE tb op D H).has v:=by
 unfold wE at d ⊢;split at d
 all_goals first
  |exact d
  |(cases d;done)
  |skip
 .split at d
  .split at d
   .grind
   .cases d
  .cases d
theorem A7(A:bQ P tb)(N:d<E.n){tx:Nat}{M:TI}{xs ys zs:Td (I T)}(O:tb t=some M)(he:M.elem=some T)(Q:ev D x=some (.one (.lc T xs)))(j:Hh P E D H T tx y ys)(hl:N2 xs ys=some zs):
  eS P ⟨some d,.call ⟨.builtin .append,#[x,y],#[t,tx]⟩,ty,pos,af,gd⟩ E F D H (.one (.o H.length)) (H++[.row T 0 zs]):=λρ L h hs B R=>by
 obtain⟨i,G⟩:=A.get O;obtain⟨S,z',g0,g1,g2,g3,g4,C,g6,U,g8⟩:=G.elem T he;obtain⟨av,V,W⟩:=bf hs Q;obtain⟨u,rfl,a3⟩:=W.bi;obtain⟨es,rfl,e2⟩:∃es,u= .di (szT T) es/\FR (.l T xs) (.imm (szT T) es):=by cases a3 with|fl h=>cases h|lc h=>exact⟨_,rfl,h⟩
 obtain⟨ns,J,X⟩:=j ρ L h hs B;have K:S.zero≠[]:=by intro e;rw[e]at C;simp at C;omega
 unfold N2 at hl;split at hl
 .cases hl
 .rename_i y0 Y;obtain⟨rfl,v⟩:=sE hl;have e3:=e2.frl;obtain⟨m1,Z⟩:=mj g4 B (e3.app J);have w:0<ns.length:=by rw[J.len];simp
  simp only[OJ]at v;refine Abs.rB G.tb V g1 K C g3 X w (by rw[J.len,e3.len];omega) U N ⟨ρ++[some h.length],_,rfl,?_,Z,Ev.push _ _,R.push B.len _ _⟩;rw[OJ]at m1;exact m1
theorem zK(v:d<E.n)(w:0<szT T):eS P ⟨some d,.makeMap t none,ty,pos,af,gd⟩ E F D H (.one (.m H.length)) (H++[.map T []]):=λρ L h hs hp y=>by
 refine Abs.zH v ⟨ρ++[some h.length],_,rfl,.one (.m ?_),hp.push ⟨[],rfl,rfl,w,λj h=>F1⟩,Ev.push _ _,y.push hp.len _ _⟩;rw[<-hp.len];simp
theorem wq(j:bQ P tb)(C:d<E.n){v:AT}(h:(zG tb op D H).has (v,H')):eS P ⟨some d,op,ty,pos,af,gd⟩ E F D H v H':=by
 unfold zG at h;split at h
 .split at h
  .rename_i T h1;cases h;obtain⟨I,w,A⟩:=bb h1;obtain⟨i,G⟩:=j.get w;obtain⟨m,z,_,_,L,_⟩:=G.map T A;exact zK C L
  .cases h
 .rename_i ae tys;split at h
  .rename_i x y t tx M N;obtain rfl:ae= #[x,y]:=by rw[<-M]
   obtain rfl:tys= #[t,tx]:=by rw[<-N]
   split at h
   .rename_i T O xs S h1 h2 B;split at h
    .rename_i U Q ys h4 J R;obtain⟨e,rfl⟩:=dE J;subst e;obtain⟨zs,e1,e2⟩:=h;cases e2;obtain⟨I,w,A⟩:=bb h1;obtain⟨K,u1,u2⟩:=bb h4;exact A7 j C w A h2 (nU j u1 u2 B R) e1
    .cases h
   .rename_i id s h1 h2 B;split at h
    .rename_i n xs h4 J;obtain⟨zs,e1,e2⟩:=h;cases e2;obtain⟨I,w,A⟩:=bb h1;obtain⟨K,u1,u2⟩:=Option.map_eq_some_iff.1 h4;exact sR j C w A h2 J (xS j u1 u2 B) e1
    .cases h
   .rename_i O s h1 h2 B;split at h
    .rename_i h4;obtain⟨zs,e1,e2⟩:=h;cases e2;obtain⟨I,w,A⟩:=bb h1;obtain⟨K,u1,u2⟩:=Option.map_eq_some_iff.1 h4;exact mO j C w A h2 (xS j u1 u2 B) e1
    .cases h
   .cases h
  .cases h
 .cases h
theorem oy(K:bQ P tb){R:TI}{k:Operand}{kvs:Td (Z×I T)}{v:AT}{vs S:Td C}{e:I T}(W:tb t=some R)(hm:R.map=some T)(X:ev D x=some (.one (.m id)))(hk:ev D k=some (.one (.s s)))(ho:H[id]? =some (.map T kvs))
  (Y:ev D y=some v) (A:cells v=some vs) (has:v=El vs) (hp:gb [] vs=some S) (hi:jJ T S=some e):eS P ⟨none,.mapUpdate t x k y,ty,pos,af,gd⟩ E F D H (.tup []) (H.set id (.map T ((s,e)::kvs))):=λρ L h hs U hf=>by
 obtain⟨i',G⟩:=K.get W;obtain⟨m,z',m1,m2,m3,m4⟩:=G.map T hm;obtain⟨av,h1,h2⟩:=bf hs X;obtain⟨u,rfl,h3⟩:=h2.bi;obtain⟨aw,k1,k2⟩:=bf hs hk;obtain⟨u',rfl,k3⟩:=k2.bi;cases k3.str;obtain⟨a,ws,M,o2,o3,o4,o5⟩:=U.map id T kvs ho;have hid:u= .mp a:=by
  cases h3 with
  |fl h=>cases h
  |m B=>rw[M]at B;cases B;rfl
 subst hid;obtain⟨ay,y1,d⟩:=bf hs Y;obtain⟨us,N,J⟩:=lR A d;have O:ay=Abs.zo us:=by
  subst has
  match vs,d,A,J with
  |[],d,A,J=>cases d with|agg h=>cases N;have:=h.1;cases us with|nil=>rfl|cons _ _=>simp at this
  |[c],d,A,J=>obtain⟨q,rfl,_⟩:=d.bi;cases N;rfl
  | c::c2::l,d,A,J=>
   cases d with
   | agg h=>
    cases N;have:=h.1
    match us,this with
    |_::_::_,_=>rfl
 subst O;obtain⟨Q,w1,V⟩:=CN m3 hp hi J;have he:evo (.map T kvs) (.map T ((s,e)::kvs)):=.inr (.inr (.inr (.inl ⟨_,_,_,rfl,rfl⟩)));refine Abs.vx m1 h1 k1 y1 V.1 (λj h1 h2 I w ι u hu=>V.2 j h1 h2 I w ι u hu) o2 ⟨ρ,.tup [],rfl,oA,U.set M ho A1 he ⟨(s,Q)::ws,rfl,by simp[o3],o4,λj h1 h2=> ?_⟩,Ev.set ho he,hf.set M ho A1 he⟩;cases j with
 |zero=>exact⟨rfl,w1⟩
 |succ j=>exact o5 j Hd Hm
theorem MB(h:bQ P tb)(d:(opX tb op D H).has H'):eS P ⟨none,op,ty,pos,af,gd⟩ E F D H (.tup []) H':=by
 unfold opX at d;split at d
 .split at d
  .rename_i T id s vs h1 h2 M h4;obtain⟨S,J,K⟩:=bb h1;obtain⟨v,v1,N⟩:=bb h4;split at d
   .rename_i Q kvs U O B;split at d
    .rename_i w y c L I A;obtain⟨e,rfl⟩:=nk L;subst e;split at d
     .cases d;rw[v1]at A;cases A;cases N;exact oy h J K h2 M O v1 rfl rfl B I
     .cases d
    .rename_i w y cs L I A;obtain⟨e,rfl⟩:=nk L;subst e;split at d
     .cases d
     .rename_i j;cases d;rw[v1]at A;cases A;cases N;have t:vs.length≠1:=λe=>j (by
       have e1:=iD I;obtain⟨V,G⟩:=h.get J;obtain⟨m,W,m1,X,R,Y⟩:=G.map _ K;have e2:=df _ R y;rw[e1]at e2
       have e3:∀{a b:Td C},gb [] a=some b->b.length=a.length:=by
        intro a
        induction a with
        |nil=>intro b j;cases j;rfl
        | cons q a Z=>
         intro b j;simp only[gb]at j;split at j
         .grind
         .cases j
       have:=e3 B;rw[(A0:szT Q=1)];rfl)
      refine oy h J K h2 M O v1 rfl ?_ B I;clear B h4 v1
      match vs,t with
      |[],_=>rfl
      |[_],t=>exact absurd rfl t
      |_::_::_,_=>rfl
    .cases d
   .cases d
  .cases d
 .cases d
end
end
section
variable {P : Program} {E : Abs.Cx} {F : In} {ρ : Rho} {H : Td Ob} {D : Td (Nat × AT)} {L : Env} {h : au} {d : Nat} {ty : TypeId} {pos : String} {af : Array Edge} {gd : Y (Nat × Bool)} {tb : Nat → Y TI}
theorem CQ{op:BinOp}{a b:C}{v:AT}(h:(Kw op a b).has v):∃c,v= .one c/\KC op a b some=some c:=by
 have key:∀{p:Bool}{y:Int},(∃q,(bif p then some y else none)=some q/\(some (AT.one (.i q)):Y AT)=some v)->∃c,v= .one c/\(bif p then some (C.i y)else none)=some c:=by
  rintro p y ⟨q,h1,h2⟩;cases p with
  |true=>exact SV
  |false=>cases h1
 have d:∀{p:Bool}{y:Int},(∃q,(bif p then some y else none)=some q/\(some (AT.one (.k .u64 q)):Y AT)=some v)->∃c,v= .one c/\(bif p then some (C.k .u64 y)else none)=some c:=by
  rintro p y ⟨q,h1,h2⟩;cases p with
  |true=>exact SV
  |false=>cases h1
 unfold Kw at h;unfold KC;split at h
 .exact key h
 .exact key h
 .exact key h
 .exact key h
 .exact key h
 .exact key h
 .rename_i x y;obtain⟨q,h1,h2⟩:=h;unfold dL at h1;cases hp:decide (x.size+y.size<=1099511627776)with
  |true=>rw[hp]at h1;exact SV
  |false=>rw[hp]at h1;cases h1
 .exact d h
 .exact d h
 .split at h
  .rename_i c hc;cases h;exact⟨c,rfl,rfl⟩
  .cases h
section
variable {o:Oper}{H':Td Ob}
theorem Cq(w:bQ P tb){d:Nat}(hd:o.dst=some d)(B:d<E.n){v:AT}(j:(C1 tb o D H).has v)(hs:cj ρ H D L)(I:HpR ρ H h):cZ P o E ρ H L h v:=by
 obtain⟨dst,op,ty,pos,af,gd⟩:=o;simp only at hd;subst hd
 have F:∀{x:Operand},Pl.has (match ev D x with
  | some (.one .zs)=>match (tb ty).bind (·.elem)with
   |some T=>.ret (.one (.nil T))
   |none=>.no
  |some v=>.ret v
  |none=>.no) v->∃N,Abs.ev L x=some N/\ATR ρ H v N:=by
  intro x j;split at j
  .rename_i S;split at j
   .rename_i T X;cases j;obtain⟨C,J,K⟩:=bb X;obtain⟨i,G⟩:=w.get J;obtain⟨el,z',g0,g1,g2,g3,g4,_⟩:=G.elem T K;obtain⟨N,h1,h2⟩:=bf hs S;obtain⟨u,rfl,A⟩:=h2.bi;have:u= .lit (.slice none 0 0):=by cases A with|fl h=>cases h|zs=>rfl
    subst this;exact⟨_,h1,.one (.nil g4)⟩
   .cases j
  .rename_i S;cases j;exact bf hs S
  .cases j
 unfold C1 at j;simp only at j;split at j
 .obtain⟨N,h1,h2⟩:=F j;exact⟨N,h2,Abs.Cv h1 B ⟨rfl,rfl⟩⟩
 .obtain⟨N,h1,h2⟩:=F j;exact⟨N,h2,Abs.dK h1 B ⟨rfl,rfl⟩⟩
 .split at j
  .rename_i p hc;cases p with
   | true=>
    simp only at j;split at j
    .rename_i Y O;cases j;exact Cb hs B hc O
    .cases j
   | false=>
    simp only at j;split at j
    .rename_i Y O;cases j;exact Cb hs B hc O
    .cases j
  .cases j
 .rename_i t parts;split at j
  .rename_i C ps h1 h2;split at j
   .rename_i f fs cs A h4;cases j;have:=GY (P:=P) (E:=E) (h:=h) (ty:=ty) (pos:=pos) (af:=af) (gd:=gd) w hs B h1 h2 (by rw[A];simp) h4;exact this
   .cases j
  .cases j
 .split at j
  .rename_i C id off h1 h2;split at j
   .rename_i fo _ A;cases j;exact CW w hs B h1 h2 A
   .cases j
  .rename_i C T y off h1 h2;split at j
   .rename_i fo _ A;cases j;exact DV w hs B h1 h2 A
   .cases j
  .rename_i C id k n T y off h1 h2;split at j
   .rename_i _ _ _ fo _ A h4;cases j;exact EF w hs B h1 h2 A h4
   .cases j
  .cases j
 .split at j
  .rename_i C cs h1 h2;split at j
   .rename_i fo ft _ A;split at j
    .rename_i fi h4;split at j
     .rename_i R Q;cases j;exact Jz w hs B h1 h2 A h4 Q
     .cases j
    .cases j
   .cases j
  .cases j
 .split at j
  .rename_i C id off h1 h2;split at j
   .rename_i cs A;split at j
    .rename_i R h4;cases j;exact Iy w hs I B h1 h2 A h4
    .cases j
   .cases j
  .rename_i C T y off h1 h2;split at j
   .rename_i R h4;cases j;exact EV w hs B h1 h2 h4
   .cases j
  .rename_i C id k n T y off h1 h2;split at j
   .rename_i U n' xs A;obtain⟨N,a1,Z⟩:=bf hs h2;obtain⟨u,rfl,a3⟩:=Z.bi;obtain⟨a,xs',rfl,c4,c5,c6,c7,c8⟩:=a3.eptr A;split at j
    .rename_i M;have M:=OL M;split at j
     .rename_i R h4;cases j;exact yn w hs I B h1 h2 c5 (c8 M) h4
     .cases j
    .split at j
     .rename_i xs2 hc;obtain⟨e,rfl⟩:=dE hc;subst e;obtain⟨y',e1,e2⟩:=j;exact yn w hs I B h1 h2 A e1 e2
     .cases j
   .cases j
  .cases j
 .split at j
  .rename_i U T xs i h1 h2 A;split at j
   .rename_i M;obtain⟨e,e1,e2⟩:=j;cases e2;obtain⟨C,J,K⟩:=bb h1;exact C3 w hs B J K (OL M) h2 A e1
   .cases j
  .rename_i U id i h1 h2 A;split at j
   .rename_i T n xs h4;split at j
    .rename_i M;obtain⟨e,e1,e2⟩:=j;cases e2;obtain⟨C,J,K⟩:=bb h1;exact DE w hs I B J K (OL M) h2 h4 A e1
    .cases j
   .cases j
  .cases j
 .split at j
  .rename_i U T xs h1 h2;split at j
   .rename_i M;split at j
    .rename_i a b A h4;obtain⟨ys,e1,e2⟩:=j;cases e2;obtain⟨C,J,K⟩:=bb h1;exact Hi w hs B J K (OL M) h2 A h4 e1
    .cases j
   .cases j
  .exact ri w B j hs I
 .split at j
  .rename_i h1;cases j;exact Ku hs B h1
  .rename_i h1;cases j;exact Jx hs B h1
  .cases j
 .split at j
  .rename_i a b h1 h2;split at j
   .rename_i p;split at j
    .rename_i A;obtain⟨C,J,K⟩:=Option.map_eq_some_iff.1 A;obtain⟨c,rfl,h4⟩:=CQ j;obtain⟨c',Q,V⟩:=GO (P:=P) (E:=E) (h:=h) (ty:=ty) (pos:=pos) (af:=af) (gd:=gd) hs B h1 h2 (λ_ _=>⟨C,J,K⟩) w h4;cases Q;exact V
    .cases j
   .rename_i W;obtain⟨c,rfl,h4⟩:=CQ j;obtain⟨c',Q,V⟩:=GO (P:=P) (E:=E) (h:=h) (ty:=ty) (pos:=pos) (af:=af) (gd:=gd) hs B h1 h2 (λp e=>absurd e (W p)) w h4;cases Q;exact V
  .cases j
 .split at j
  .rename_i h1;cases j;exact NK hs B h1
  .cases j
 .split at j
  .rename_i xs h1;split at j
   .rename_i R h2;cases j;exact z7 hs B h1 h2
   .cases j
  .cases j
 .split at j
  .rename_i t1i C a h1 h2 A;split at j
   .rename_i h4;cases j;exact Ov w hs B h1 h2 h4 A
   .exact ri w B j hs I
  .exact ri w B j hs I
 .rename_i ae tys;split at j
  .rename_i x t O ht;obtain rfl:ae= #[x]:=by rw[<-O]
   obtain rfl:tys= #[t]:=by rw[<-ht]
   split at j
   .rename_i C s h1 h2;split at j
    .rename_i A;cases j;exact Jv w hs B h1 A h2
    .cases j
   .rename_i C c h1 h2;split at j
    .rename_i T n A h4;cases j;exact LP w hs I B h1 A h2 h4
    .cases j
   .cases j
  .cases j
 .exact ri w B j hs I
theorem KP(j:bQ P tb){d:Nat}(hd:o.dst=some d)(w:d<E.n){v:AT}(h:(F5 tb o D H).has (v,H')):eS P o E F D H v H':=by
 obtain⟨dst,op,ty,pos,af,gd⟩:=o;simp only at hd;subst hd;unfold F5 at h;simp only at h;split at h
 .split at h
  .rename_i I h1;cases h;exact Hn j w h1
  .cases h
 .split at h
  .rename_i cs h1;cases h;obtain⟨O,h2,A⟩:=bb h1;exact MO w h2 A
  .cases h
 .rename_i t len parts;split at h
  .rename_i T Q h1 h2;split at h
   .rename_i z A;split at h
    .rename_i xs h4 G;cases h;obtain⟨I,B,C⟩:=bb h1;exact tN j w B C A h2 h4 G
    .cases h
   .cases h
  .cases h
 .split at h
  .rename_i T n h1 h2 A;split at h
   .rename_i z h4;obtain⟨xs,e1,e2⟩:=h;cases e2;obtain⟨I,B,C⟩:=bb h1;exact I8 j w B C h4 h2 A e1
   .cases h
  .cases h
 .rename_i ae tys;split at h
  .rename_i x y t tx J K;obtain rfl:ae= #[x,y]:=by rw[<-J]
   obtain rfl:tys= #[t,tx]:=by rw[<-K]
   split at h
   .rename_i T U R S h1 h2 A h4;obtain⟨I,B,C⟩:=bb h1;obtain⟨V,u1,u2⟩:=bb h2;split at h
    .rename_i ys G;split at h
     .rename_i id;split at h
      .rename_i W n xs L;split at h
       .rename_i M N;obtain⟨e,rfl⟩:=dE N;subst e;obtain⟨zs,e1,e2⟩:=h;cases e2;exact En j w B C u1 u2 A L h4 G e1
       .cases h
      .cases h
     .obtain⟨zs,e1,e2⟩:=h;cases e2;exact vS j w B C u1 u2 A h4 G e1
     .exact wq j w h
    .cases h
   .exact wq j w h
  .cases h
 .exact wq j w h
theorem Je(j:bQ P tb){d:Nat}(hd:o.dst=some d)(w:d<E.n){v:AT}(h:(ML tb o D).has v):eS P o E F D H v H:=by
 obtain⟨dst,op,ty,pos,af,gd⟩:=o;simp only at hd;subst hd;unfold ML at h;simp only at h;split at h
 .rename_i t len parts;split at h
  .rename_i T G h1 h2;split at h
   .rename_i z y;split at h
    .rename_i xs h4 A;cases h;obtain⟨I,B,C⟩:=bb h1;exact zc j w B C y h2 h4 A
    .cases h
   .cases h
  .cases h
 .cases h
theorem N1(t:bQ P tb)(hd:o.dst=none)(d:(opN tb o D H).has H'):eS P o E F D H (.tup []) H':=by
 obtain⟨dst,op,ty,pos,af,gd⟩:=o;simp only at hd;subst hd;unfold opN at d;simp only at d;split at d
 .split at d
  .rename_i B id off vs h1 h2 y;obtain⟨C,k1,v⟩:=bb y;split at d
   .rename_i cs h4;split at d
    .rename_i j;simp only[bA]at j;cases d;exact D7 t h1 h2 h4 k1 v (OL j.1) (O1 j.2)
    .cases d
   .cases d
  .rename_i B id k n T e off vs h1 h2 y;obtain⟨C,k1,v⟩:=bb y;split at d
   .rename_i R h4;split at d
    .rename_i G n' xs w;split at d
     .rename_i I J;obtain⟨K,rfl⟩:=dE J;subst K;split at d
      .rename_i j;simp only[bA]at j;have b1:=OL j.1.1;have b2:=O1 j.1.2;have b3:0<szT G:=by simpa [Ps]using j.2
       split at d
       .rename_i j;have j:=OL j;split at d
        .rename_i M A;cases d;intro ρ L h hs N O;obtain⟨S,U,Q⟩:=bf hs h2;obtain⟨u,rfl,a3⟩:=Q.bi;obtain⟨a,xs2,rfl,c4,c5,c6,c7,c8⟩:=a3.eptr w;rw[w]at c5;cases c5;exact ul t h1 h2 w (c8 j) k1 v h4 A b1 b2 b3 ρ L h hs N O
        .cases d
       .obtain⟨V,e1,e2⟩:=d;dsimp only at e2;split at e2
        .rename_i M A;cases e2;exact ul t h1 h2 w e1 k1 v h4 A b1 b2 b3
        .cases e2
      .cases d
     .cases d
    .cases d
   .cases d
  .cases d
 .exact MB t d
end
end
def trV(id s:Nat)(es:Td (Td V))(c:C)(v:V):V:=match c with
 | .o j=>if j=id then .imm s es else v
 |_=>v
def trA(id s:Nat)(es:Td (Td V)):AT->AV->AV
 | .one c,.one v=>.one (trV id s es c v)
 | .agg cs,.agg vs=>.agg (List.zipWith (trV id s es) cs vs)
 |_,d=>d
def trL(id s:Nat)(es:Td (Td V))(D:Td (Nat×AT))(L:Env):Td Nat->Env
 |[]=>[]
 | t::d=>match D.lookup t,L.lookup t with
  |some v,some h=>(t,trA id s es v h)::trL id s es D L d
  |_,_=>trL id s es D L d
theorem nJ(id s:Nat)(es:Td (Td V))(D:Td (Nat×AT))(L:Env)(t:Nat):∀(d:Td Nat)(u:AV),(trL id s es D L d).lookup t=some u->∃v j,D.lookup t=some v/\L.lookup t=some j/\u=trA id s es v j
 |[],u,h=>by simp[trL]at h
 | k::d,u,h=>by
  simp only[trL]at h;split at h
  .rename_i v j h1 h2;rw[OK]at h;by_cases e:t=k
   .grind
   .have:(t==k)=false:=R1
    rw[this]at h;exact nJ id s es D L t d u h
  .exact nJ id s es D L t d u h
theorem Ce(id s:Nat)(es:Td (Td V))(D:Td (Nat×AT))(L:Env)(t:Nat){v:AT}{j:AV}(h1:D.lookup t=some v)(h2:L.lookup t=some j):∀(d:Td Nat),t∈d->(trL id s es D L d).lookup t=some (trA id s es v j)
 |[],h=>F1
 | k::d,h=>by
  by_cases e:t=k
  .subst e;simp[trL,h1,h2]
  .have hm:t∈d:=by rcases List.mem_cons.1 h with h|h;exact absurd h e;exact h
   have w:=Ce id s es D L t h1 h2 d hm;simp only[trL];split
   .grind
   .exact w
theorem Ah{α:Type}{D:Td (Nat×α)}{t:Nat}{v:α}(h:D.lookup t=some v):t∈D.map Prod.fst:=by
 induction D with
 |nil=>simp at h
 | cons p D d=>
  rw[OK]at h;by_cases e:t=p.1
  .simp[e]
  .grind
theorem Ad{D:Td (Nat×AT)}{f:AT->AT}{t:Nat}:(D.map λp=>(p.1,f p.2)).lookup t=(D.lookup t).map f:=by
 induction D with
 |nil=>rfl
 | cons p D d=>
  obtain⟨k,z⟩:=p;simp only[Pz];rw[OK,OK];cases t==k with
  |true=>rfl
  |false=>exact d
section
variable {P : Program} {E : Abs.Cx} {F : In} {ρ : Rho} {H : Td Ob} {D : Td (Nat × AT)} {L : Env} {h : au}
section
variable {id n a s m:Nat}{T U:Ty}{es:Td (Td V)}{c:C}{t:AV}{ι:Td Abs.Inf}{w:World}{o:Y Abs.Ob}{st:St}{ho:Y Nat}
theorem Lz{xs:Td (I T)}(h:H[id]? =some (.row T n xs))(t:FR (.l T xs) (.imm (szT T) es)){v:V}(hc:CR ρ H c v):CR ρ (H.set id .aQ) (c.fz id T xs) (trV id (szT T) es c v):=by
 have d:Ev ρ H ρ (H.set id .aQ):=Ev.set h (evo.kf _);by_cases e:c= .o id
 .subst e;simp only[C.fz,trV,if_true];rw[mt (Nat.beq_refl id)];exact .fl t
 .have e1:c.fz id T xs=c:=by
   cases c<;>simp only[C.fz];rename_i j;rw[O2 (λw=>e (by rw[OL w]))]
  have e2:trV id (szT T) es c v=v:=by
   unfold trV;split
   .grind
   .rfl
  rw[e1,e2];exact hc.mono d
theorem Fh{xs:Td (I T)}(d:H[id]? =some (.row T n xs))(h:FR (.l T xs) (.imm (szT T) es)){cs:Td C}{vs:Td V}(hc:CRs ρ H cs vs):CRs ρ (H.set id .aQ) (cs.map (C.fz id T xs)) (List.zipWith (trV id (szT T) es) cs vs):=
 ⟨by simp[hc.1],fun j h1 h2=>by
  simp only[P5,PR];exact Lz d h (hc.2 j Hd (by have:=hc.1;simp at h1;omega))⟩
theorem Id{xs:Td (I T)}(d:H[id]? =some (.row T n xs))(j:FR (.l T xs) (.imm (szT T) es)){v:AT}(hc:ATR ρ H v t):ATR ρ (H.set id .aQ) (v.fz id T xs) (trA id (szT T) es v t):=by
 cases hc with
 |one h=>exact .one (Lz d j h)
 |agg h=>exact .agg (Fh d j h)
 |tup hl h=>exact(ATR.tup hl h).mono (Ev.set d (evo.kf _))
theorem Io{E:Abs.Cx}{h2:au}{I B:Nat->Prop}{a:Act}(r:Abs.Rel E L h ι I a w)(K:Abs.Rel E L h2 ι B a w)(hk:Abs.cu I B w w)(hs:cj ρ H D L)
  (G:∀(c:C)(v:V)(u:Value),CR ρ H c v->Abs.VR I w ι v u->Abs.VR B w ι (trV id s es c v) u):Abs.Rel E (trL id s es D L (D.map Prod.fst)) h2 ι B a w:=by
 refine {K with bc:=λt u M=> ?_};obtain⟨v,N,h1,d,rfl⟩:=nJ id s es D L t _ u M;obtain⟨O,J,h4⟩:=hs t v h1;rw[d]at J;cases J;obtain⟨c,k1,y⟩:=r.bc t N d;refine⟨c,k1,?_⟩;cases h4 with
 |one hc=>cases y with|one y=>exact .one (G _ _ _ hc y)
 | @agg cs vs hc=>
  cases y with
  | agg hl F P=>
   have bF:=hc.1;refine .agg (by simp[hl,bF]) (λj A=>F j RH) (λj A=> ?_);simp only[PR];exact G _ _ _ (hc.2 j RH RH) (P j RH)
 |tup hl Q=>exact y.aH (Abs.bj.refl _) hk
def iq:Rho->Td Ob->Nat->Y (Td C)
 |some b::ρ,.box cs::H,a=>if b=a then some cs else iq ρ H a
 |_::ρ,_::H,a=>iq ρ H a
 |_,_,_=>none
theorem kA:∀{ρ:Rho}{H:Td Ob}{a:Nat}{cs:Td C},iq ρ H a=some cs->∃id:Nat,ρ[id]? =some (some a)/\H[id]? =some (Ob.box cs)
 |[],H,a,cs,h=>by unfold iq at h;cases h
 |x::ρ,[],a,cs,h=>by unfold iq at h;cases x<;>cases h
 | x::ρ,o::H,a,cs,h=>by
  have up:iq ρ H a=some cs->∃id:Nat,(x::ρ)[id]? =some (some a)/\(o::H)[id]? =some (Ob.box cs):=λh=>by
   obtain⟨id,h1,h2⟩:=kA h;exact⟨id+1,Hd,Hm⟩
  unfold iq at h;split at h
  .rename_i b _ d _ _ e1 e2;cases e1;cases e2;split at h
   .rename_i e;subst e;cases h;exact⟨0,rfl,rfl⟩
   .exact up h
  .grind
  .cases h
theorem u7:∀{ρ:Rho}{H:Td Ob}{a id:Nat}{cs:Td C},(∀(i j:Nat),ρ[i]? =some (some a)->ρ[j]? =some (some a)->live H i->live H j->i=j)->ρ[id]? =some (some a)->H[id]? =some (.box cs)->iq ρ H a=some cs
 |[],H,a,id,cs,_,h1,_=>by simp at h1
 |x::ρ,[],a,id,cs,_,_,h2=>by simp at h2
 | x :: ρ,o::H,a,id,cs,hi,h1,h2=>by
  cases id with
  | zero=>
   simp at h1 h2;subst h1 h2;simp[iq]
  | succ id=>
   have hl:∀{i:Nat},live H i->live (o::H) (i+1):=λ{i} ⟨y,d,h⟩=>⟨y,QO,h⟩
   have t:=u7 (ρ:=ρ) (H:=H) (a:=a) (id:=id) (cs:=cs) (λi j v w l1 l2=>by have:=hi (i+1) (j+1) R6 RW (hl l1) (hl l2);omega) Hd Hm;unfold iq;split
   .rename_i b _ A _ _ e1 e2;cases e1;cases e2;rw[O2 (λe=>by
     have:=hi 0 (id+1) Rh h1 ⟨_,rfl,A1⟩ ⟨_,h2,A1⟩;omega)]
    exact t
   .grind
   .grind
def trO(id s:Nat)(es:Td (Td V))(ρ:Rho)(H:Td Ob)(a:Nat)(o:Y Abs.Ob):Y Abs.Ob:=match iq ρ H a,o with
 |some cs,some (.row k [vs])=>some (.row k [List.zipWith (trV id s es) cs vs])
 |_,o=>o
def sZ(id s:Nat)(es:Td (Td V))(ρ:Rho)(H:Td Ob)(h:au):au:=h.mapIdx (trO id s es ρ H)
theorem tE:(sZ id s es ρ H h)[a]? =(h[a]?).map (trO id s es ρ H a):=by simp[sZ]
theorem su(h:iq ρ H a=none):trO id s es ρ H a o=o:=by unfold trO;rw[h]
theorem H6{x:Abs.Ob}(h:trO id s es ρ H a o=some x):∃y,o=some y:=by
 cases o with
 |some y=>exact⟨y,rfl⟩
 |none=>cases d:iq ρ H a<;>simp[trO,d]at h
theorem Bv{E:Abs.Cx}{O:Env}{D:au}{I K:Nat->Prop}{a:Act}(r:Abs.Rel E L h ι I a w)(B:Abs.Rel E O D ι K a w)(hp:HpR ρ H h)(A:∀(b:Nat)(o:Abs.Ob),D[b]? =some (some o)->h[b]? =some (some o))
  (T:∀(c:C)(v:V)(u:Value),CR ρ H c v->Abs.VR I w ι v u->Abs.VR K w ι (trV id s es c v) u):Abs.Rel E O (sZ id s es ρ H D) ι K a w:=by
 have F:∀{b:Nat}{o:Abs.Ob},(sZ id s es ρ H D)[b]? =some (some o)->∃d,D[b]? =some (some d)/\trO id s es ρ H b (some d)=some o:=λ{b o} P=>by
  rw[tE]at P;obtain⟨Q,h1,h2⟩:=Option.map_eq_some_iff.1 P;obtain⟨y,rfl⟩:=H6 h2;exact⟨y,h1,h2⟩
 exact
 { B  with
   heap := by
     refine⟨by simp[sZ,B.heap.len],λb o f x y=> ?_,λb o f x y=> ?_,λb U o o' f W x X y Y e=> ?_,B.heap.sub⟩
     · obtain⟨d,k1,G⟩:=F x
       have Z:=B.heap.obj b d f k1 y;unfold trO at G;split at G
       · rename_i cs k vs M e
         cases e;cases G;obtain⟨id',g1,g2⟩:=kA M;obtain⟨a',vs',m1,R,S⟩:=hp.box id' cs g2;rw[g1]at m1;cases m1;rw[A b _ k1]at R;cases R;obtain⟨cur,t,q1,q2,q3,q4,q5,q6,q7⟩:=r.heap.obj b _ f (A b _ k1) y;have bF:=S.1;refine⟨cur,t,q1,q2,q3,q4,by simpa using q5,λe he=>by simp at he;subst he;simp[bF],λk hk j N=> ?_⟩;simp at hk;subst hk;simp only[OY]at N ⊢;have J:j<vs.length:=by simp at N;omega
         obtain⟨u,u1,u2⟩:=q7 0 A1 j (by simpa using J);refine⟨u,u1,?_⟩;rw[PR];exact T _ _ _ (S.2 j (by simp at N;omega) J) (by simpa using u2)
       · grind
     · obtain⟨d,k1,_⟩:=F x
       exact B.heap.off b d f k1 y
     · obtain⟨d,k1,_⟩:=F x
       obtain⟨Q,G,_⟩:=F X;exact B.heap.inj b U d Q f W k1 G y Y e
   cA:=λb o f x y=>by
     obtain⟨d,k1,_⟩:=F x;exact B.cA b d f k1 y}
theorem BW{xs:Td (I T)}(d:H[id]? =some (.row T n xs)):Ev ρ (H.set id .aQ) ρ ((H.set id .aQ).map (Ob.fz id T xs)):=
 ⟨fun _ _ h=>h,fun j x t=>⟨x.fz id T xs,by rw[P8,t];rfl,by
  cases x with
  |box cs=>exact SS
  |row T n xs=>exact evo.refl _
  |map T kvs=>exact evo.refl _
  |aQ=>exact evo.refl _
  |rows T xss ho=>exact evo.refl _⟩⟩
theorem Ci{xs:Td (I T)}{F:au}(hs:s=szT T)(hp:HpR ρ H h)(G:H[id]? =some (.row T n xs))(R:FR (.l T xs) (.imm (szT T) es))(K:∀(b:Nat),ρ[id]?≠some (some b)->F[b]? =h[b]?)(L:F.length=h.length):
  HpR ρ ((H.set id .aQ).map (Ob.fz id T xs)) (sZ id s es ρ H F):=by
 subst hs;have A:=BW (ρ:=ρ) G;have B:∀{i:Nat},live ((H.set id .aQ).map (Ob.fz id T xs)) i->live H i:=λ{i} l=>((Ev.set (ρ:=ρ) G (evo.kf _)).trans A).lv Rn l
 refine HpR.mk' RC (λj x C=> ?_) (λi j a k1 S l1 l2=>hp.inj i j a k1 S (B l1) (B l2)) (λi b hi=>by simp[sZ,L];exact hp.lt i b hi);simp only[P8,Pb]at C;obtain⟨t,k1,rfl⟩:=C;rcases jI k1 with⟨rfl,rfl,_⟩|⟨M,k1⟩
 .exact .inr (.inr rfl)
 .have U:(t.fz id T xs).dead=t.dead:=by cases t<;>rfl
  by_cases v:t.dead=true
  .grind
  have v:t.dead=false:=R6
  have D:live H j:=⟨_,k1,v⟩
  have d:∀{b:Nat},ρ[j]? =some (some b)->(∀cs,t≠.box cs)->iq ρ H b=none:=λ{b} w W=>by
   cases N:iq ρ H b with
   |none=>rfl
   | some cs=>
    obtain⟨id',g1,O⟩:=kA N;have:=hp.inj _ _ _ g1 w ⟨_,O,A1⟩ D;subst this;rw[k1]at O;cases O;exact absurd rfl (W cs)
  have P:∀{b:Nat},ρ[j]? =some (some b)->F[b]? =h[b]? :=λ{b} w=>K b λe=>M (hp.inj _ _ _ w e D ⟨_,G,A1⟩)
  rcases hp.ob k1 with⟨b,y,m1,X,E⟩|⟨m1,J,n',rfl,E⟩|hd
  .refine .inl ⟨b,trO id (szT T) es ρ H b y,m1,by rw[tE,P m1,X];rfl,?_⟩;cases t with
   | box cs=>
    obtain⟨vs,rfl,q⟩:=E;have N:=u7 (H:=H) (λi j Y Z=>hp.inj i j b Y Z) m1 k1;refine⟨List.zipWith (trV id (szT T) es) cs vs,?_,(Fh G R q).mono A⟩;unfold trO;rw[N];simp[q.1]
   |row J n' xs'=>rw[su (d m1 (λcs e=>E0))];exact E
   |map J kvs=>rw[su (d m1 (λcs e=>E0))];exact E
   |aQ=>trivial
   |rows J Q ho'=>trivial
  .exact .inr (.inl ⟨m1,J,n',rfl,E⟩)
  .grind
theorem Cw{xs:Td (I T)}{j:au}(y:Fr F ρ H h)(d:H[id]? =some (.row T n xs))(t:∀(b:Nat),ρ[id]?≠some (some b)->j[b]? =h[b]?)(v:j.length=h.length):
  Fr F ρ ((H.set id .aQ).map (Ob.fz id T xs)) (sZ id s es ρ H j):=
 y.step ((Ev.set d (evo.kf _)).trans (BW d)) (by simp[sZ,v]) (λi _ h1 l=>.inl ⟨i,h1,((Ev.set (ρ:=ρ) d (evo.kf _)).trans (BW d)).lv Rn l⟩) (λb A w=>by
  rw[tE,t b (λe=>w id e ⟨_,d,A1⟩)];have:iq ρ H b=none:=by
   cases B:iq ρ H b with
   |none=>rfl
   |some cs=>obtain⟨id',g1,C⟩:=kA B;exact absurd ⟨_,C,A1⟩ (w id' g1)
  cases h[b]? with
  |none=>rfl
  |some o=>simp[su this])
theorem Cr{xs:Td (I T)}(w:H[id]? =some (.row T n xs)):cq H ((H.set id .aQ).map (Ob.fz id T xs)):=λj y h d=>by
 simp only[P8,Pb]at h;obtain⟨t,k1,rfl⟩:=h;rcases jI k1 with⟨rfl,rfl,_⟩|⟨v,k1⟩
 .cases d
 .cases t with
  |rows T xss ho=>exact k1
  |_=>cases d
theorem LH(hs:SR F ρ st L h){xs:Td (I T)}(j:st.H[id]? =some (.row T n xs)):∃H h2,Abs.br L h H h2/\SR F ρ (st.fz id T xs) H h2:=by
 have enc:∀es,FR (.l T xs) (.imm (szT T) es)->cj ρ ((st.H.set id .aQ).map (Ob.fz id T xs)) (st.L.map λp=>(p.1,p.2.fz id T xs)) (trL id (szT T) es st.L L (st.L.map Prod.fst)):=λes J t v d=>by
  rw[Ad]at d;obtain⟨v0,h1,rfl⟩:=Option.map_eq_some_iff.1 d;obtain⟨M,h2,y⟩:=hs.bc t v0 h1;exact⟨_,Ce id _ es st.L L t h1 h2 _ (Ah h1),(Id j J y).mono (BW j)⟩
 rcases hs.heap.row id n T xs j with⟨a,es,h1,h2,y⟩|⟨h1,rfl,y⟩
 .have A:∀(b:Nat),ρ[id]?≠some (some b)->(h.set a none)[b]? =h[b]? :=λb B=>sN (λe=>B (by rw[<-e];exact h1));refine⟨trL id (szT T) es st.L L (st.L.map Prod.fst),sZ id (szT T) es ρ st.H (h.set a none),⟨λE ι I G w r=> ?_⟩,enc es y,Ci rfl hs.heap j y A A1,Cw hs.fr j A A1,hs.xr.aH (Cw (Fr.refl ρ st.H h) j A A1) (Cr j)⟩;obtain⟨inf,D,_,_⟩:=r.row h2;have d:∀(c:C)(v:V)(u:Value),CR ρ st.H c v->Abs.VR I w ι v u->Abs.VR (λb=>I b\/b=inf.block) w ι (trV id (szT T) es c v) u:=λc v u hc d=>by
   have hk:Abs.cu I (λb=>I b\/b=inf.block) w w:=⟨λ_ h=>.inl h,λ_ _=>rfl⟩;by_cases e:c= .o id
   .subst e;simp only[trV,if_true];rcases hc.own j with⟨K,rfl,h4⟩|⟨rfl,h4⟩
    .rw[h1]at h4;cases h4;have hl:=y.frl.len;have:=Abs.VR.fz r h2 D y.fZ d (Abs.pe (by simp[Abs.V.fits,hl]));simpa [Abs.V.fz,<-hl]using this
    .grind
   .have e2:trV id (szT T) es c v=v:=by
     unfold trV;split
     .grind
     .rfl
    rw[e2];exact d.aH (Abs.bj.refl _) hk
  refine⟨_,Bv r (Io r (r.freeze h2 D) ⟨λ_ h=>.inl h,λ_ _=>rfl⟩ hs.bc d) hs.heap (λb o B=> ?_) d⟩;rcases jI B with⟨_,e,_⟩|⟨_,B⟩
  .cases e
  .exact B
 .refine⟨trL id (szT T) [] st.L L (st.L.map Prod.fst),sZ id (szT T) [] ρ st.H h,⟨λE ι I G w r=> ?_⟩,enc [] (.fj y),Ci rfl hs.heap j (.fj y) (λ_ _=>rfl) rfl,Cw hs.fr j (λ_ _=>rfl) rfl,hs.xr.aH (Cw (Fr.refl ρ st.H h) j (λ_ _=>rfl) rfl) (Cr j)⟩;have d:∀(c:C)(v:V)(u:Value),CR ρ st.H c v->Abs.VR I w ι v u->Abs.VR I w ι (trV id (szT T) [] c v) u:=λc v u hc d=>by
   by_cases e:c= .o id
   .subst e;simp only[trV,if_true];rcases hc.own j with⟨K,rfl,h4⟩|⟨rfl,h4⟩
    .grind
    .cases d;exact .eE (P6 _)
   .have e2:trV id (szT T) [] c v=v:=by
     unfold trV;split
     .grind
     .rfl
    rw[e2];exact d
  exact⟨I,Bv r (Io r r (Abs.cu.refl _ _) hs.bc d) hs.heap (λ_ _ h=>h) d⟩
structure Conv(h:au)(a:Nat)(es:List (List V))(T:Ty)(xss:List (List (I T)))(n:Nat)(hk:au)(ek:List (List V)):Prop where
 aq:hk[a]?=some (some (.row 1 ek))
 len:ek.length=es.length
 done:∀(i:Nat)(xs:List (I T))(e:List V),i<n->xss[i]? =some xs->ek[i]? =some e->∃es',e=[.imm (szT T) es']/\FR (.l T xs) (.imm (szT T) es')
 rest:∀i,n<=i->ek[i]?=es[i]?
 same:∀c,c≠a->(∀i m,i<n->es[i]?≠some [.own c 0 m])->hk[c]? =h[c]?
 bF:hk.length=h.length
theorem Conv.ones{d:Td (Td V)}{xss:Td (Td (I T))}{hk:au}(c:Conv h a es T xss n hk d)(hl:es.length=xss.length)(h1:∀e∈es,e.length=1):∀e∈d,e.length=1:=λe he=>by
 obtain⟨i,hi⟩:=Qo he;by_cases j:i<n
 .have t:=(gI.1 hi).1;have v:i<xss.length:=by have:=c.len;omega
  obtain⟨es',rfl,_⟩:=c.done i _ e j (O0 v) hi;rfl
 .rw[c.rest i A0]at hi;exact h1 e (mG hi)
theorem yN{id a:Nat}{T:Ty}{xss:Td (Td (I T))}{es:Td (Td V)}(X:XAt F ρ H h id T xss none a es):∀n,n<=es.length->∃hk v,Conv h a es T xss n hk v/\∀L,Abs.br L h L hk
 |0,_=>⟨h,es,⟨X.aq,rfl,λi _ _ hi=>A0,λ_ _=>rfl,λ_ _ _=>rfl,rfl⟩,λL=>.refl _ _⟩
 | n + 1, hn=>by
  obtain⟨hk,v,c,sh⟩:=yN X n A0;have hx:n<xss.length:=by rw[<-X.len];omega
  have y:es[n]? =some es[n]:=O0 A0;have D:xss[n]? =some xss[n]:=O0 hx;have A:v[n]? =some es[n]:=(c.rest n (O3 n)).trans y;have K:n<v.length:=(gI.1 A).1;have halt:a<hk.length:=(gI.1 c.aq).1;rcases X.sub n _ _ A1 D y with⟨he,R⟩|⟨b,es',he,hb,S⟩
  .have M:ke es[n] [.imm (szT T) []]:=by
    rw[he];refine⟨rfl,λj h1 h2=> ?_⟩;have:j=0:=QM
    subst this;intro I w ι u hu;cases hu with
    |lit _=>exact .eE (P6 _)
   have E:jA v (v.set n [.imm (szT T) []]):=by
    have:=(jA.refl v).set M n
    rwa [show v.set n es[n]=v from by
     have e:v[n]=es[n]:=by rw[O0 K]at A;exact Pf A
     rw[<-e,List.set_getElem_self]]at this
   refine⟨hk.set a (some (.row 1 (v.set n [.imm (szT T) []]))),v.set n [.imm (szT T) []],⟨sS halt,by simp[c.len],λi xs e hi h1 h2=> ?_,λi hi=> ?_,λd hd C=> ?_,by simp[c.bF]⟩,λL=>(sh L).trans (br.imp c.aq E (λe hm=> ?_))⟩
   .by_cases t:i=n
    .subst t;rw[sS K]at h2;cases h2;rw[D]at h1;cases h1;rw[R];exact⟨[],rfl,.fj X.pos⟩
    .rw[sN (λe=>t e.symm)]at h2;exact c.done i xs e A0 h1 h2
   .rw[sN A0];exact c.rest i A0
   .rw[sN (λe=>hd e.symm)];exact c.same d hd λi m hi=>C i m A0
   .rcases PH hm with hm|rfl
    .exact c.ones X.len X.one e hm
    .rfl
  .have bF:es'.length=xss[n].length:=by cases S with|l _ hl _ _=>exact hl
   obtain⟨N,hblt,_,_⟩:=X.aA n b _ A1 (y.trans (by rw[he]));have U:hk[b]? =some (some (.row (szT T) es')):=by
    rw[c.same b N (λi m hi e=>by
     have:=X.inj i n b _ _ A1 A1 e (y.trans (by rw[he]));omega)]
    exact hb
   -- what a cell says of b
   have cell:∀(i:Nat)(e:Td V),v[i]? =some e->i≠n->e.map (Abs.V.fz b (szT T) es')=e/\e.all (Abs.V.fits b es'.length)=true:=λi e hi t=>by
    by_cases W:i<n
    .have G:i<xss.length:=A0
     obtain⟨Y,rfl,_⟩:=c.done i _ e W (O0 G) hi;exact Tb
    .have hi':=hi;rw[c.rest i A0]at hi;have O:=(gI.1 hi).1;have G:i<xss.length:=by rw[<-X.len];exact O
     rcases X.sub i _ e A1 (O0 G) hi with⟨rfl,_⟩|⟨b2,Y,rfl,_,_⟩
     .exact Tb
     .have Z:b2≠b:=λe=>by
       subst e;exact t (X.inj i n _ _ _ A1 A1 hi (y.trans (by rw[he])))
      simp[Abs.V.fz,Abs.V.fits,Z]
   have B:es[n].map (Abs.V.fz b (szT T) es')=[.imm (szT T) es']/\es[n].all (Abs.V.fits b es'.length)=true:=by
    rw[he];simp[Abs.V.fz,Abs.V.fits,<-bF]
   have P:v.all (·.all (Abs.V.fits b es'.length))=true:=by
    rw[aT];intro e hm;obtain⟨i,hi⟩:=Qo hm;by_cases t:i=n
    .subst t;rw[A]at hi;cases hi;exact B.2
    .exact(cell i e hi t).2
   have get:∀(i:Nat),(v.map (·.map (Abs.V.fz b (szT T) es')))[i]? =(v[i]?).map (·.map (Abs.V.fz b (szT T) es')):=λi=>P8 ..;have ha2:a<(hk.set b none).length:=by simpa using halt
   refine⟨(hk.set b none).set a (some (.row 1 (v.map (·.map (Abs.V.fz b (szT T) es'))))),v.map (·.map (Abs.V.fz b (szT T) es')),⟨sS ha2,by simp[c.len],λi xs e hi h1 h2=> ?_,λi hi=> ?_,λd hd C=> ?_,by simp[c.bF]⟩,λL=>(sh L).trans (Abs.br.jl b a U c.aq (λe=>N e.symm) S.fZ P)⟩
   .rw[get]at h2;obtain⟨Q,J,rfl⟩:=Option.map_eq_some_iff.1 h2;by_cases t:i=n
    .subst t;rw[A]at J;cases J;rw[D]at h1;cases h1;exact⟨es',B.1,S⟩
    .rw[(cell i Q J t).1];exact c.done i xs Q A0 h1 J
   .rw[get,<-c.rest i A0];cases J:v[i]? with
    |none=>rfl
    |some Q=>simp[(cell i Q J A0).1]
   .rw[sN (λe=>hd e.symm),sN (λe=>by
     subst e;exact C n _ (OX n) (y.trans (by rw[he])))]
    exact c.same d hd λi m hi=>C i m A0
theorem qi{xss:Td (Td (I T))}{ys:Td (I U)}(t:H[id]? =some (.rows T xss ho))(hl:xss.length=ys.length){v:V}(hc:CR ρ H c v):CR ρ (H.set id (.row U m ys)) c v:=by
 have get:∀{j:Nat}{z:Ob},H[j]? =some z->z.fA=false->(H.set id (.row U m ys))[j]? =some z:=λ{j z} w y=>by
  rw[sN (λe=>by subst e;rw[t]at w;cases w;cases y)];exact w
 have d:(H.set id (.row U m ys))[id]? =some (.row U m ys):=sS (gI.1 t).1
 induction hc with
 |fl h=>exact .fl h
 |lc h=>exact .lc h
 |nil h=>exact .nil h
 |o h1 h2=>exact .o h1 (get h2 rfl)
 |oN h1 h2=>exact .oN h1 (get h2 rfl)
 |oG h=>exact .oG (get h rfl)
 | @oR j a G A B h1 h2=>
  by_cases e:j=id
  .subst e;rw[t]at h2;cases h2;rw[hl];exact .o h1 d
  .exact .oR h1 (by rw[sN (λx=>e x.symm)];exact h2)
 |r h1=>exact .r h1
 |p h1=>exact .p h1
 |e h1 h2 D h4 E=>exact .e h1 (get h2 rfl) D h4 E
 |eG h=>exact .eG (get h rfl)
 |q h=>exact .q h
 |f hl t F=>exact .f hl F
 |m h1=>exact .m h1
 |zs=>exact .zs
 |zP=>exact .zP
 |zM=>exact .zM
 |zF=>exact .zF
theorem AG{xss:Td (Td (I T))}{ys:Td (I U)}(d:H[id]? =some (.rows T xss ho))(hl:xss.length=ys.length){x:AT}(hc:ATR ρ H x t):ATR ρ (H.set id (.row U m ys)) x t:=by
 induction hc with
 |one h=>exact .one (qi d hl h)
 |agg h=>exact .agg ⟨h.1,λj h1 h2=>qi d hl (h.2 j h1 h2)⟩
 |tup hl h v=>exact .tup hl v
theorem DT(hs:SR F ρ st L h){xss:Td (Td (I T))}(J:st.H[id]? =some (.rows T xss none)):∃h2,Abs.br L h L h2/\SR F ρ ⟨st.L,st.H.set id (.row (.sl T) 0 xss)⟩ L h2:=by
 obtain⟨uniq,a,es,X⟩:=hs.xr id T xss none J;obtain⟨h2,M,c,sh⟩:=yN X es.length (O3 _);have hid:=(gI.1 J).1;have S:(st.H.set id (.row (.sl T) 0 xss))[id]? =some (.row (.sl T) 0 xss):=sS hid;have d:∀{j:Nat},live (st.H.set id (.row (.sl T) 0 xss)) j->j≠id->live st.H j:=λ{j} ⟨y,U,y2⟩ B=>⟨y,by rw[sN (λe=>B e.symm)]at U;exact U,y2⟩
 -- K W other H use are as Y Z
 have same:∀b,b≠a->(∀i m,es[i]?≠some [V.own b 0 m])->h2[b]? =h[b]? :=λb w N=>c.same b w λi m _=>N i m
 have C:∀j b,ρ[j]? =some (some b)->live st.H j->h2[b]? =h[b]? :=λj b A hl=>same b (λe=>X.nl j (by rw[<-e];exact A) hl) λi m e=>by
  obtain⟨_,_,g,_⟩:=X.aA i b m A1 e;exact g j A hl
 have O:FR (.l (.sl T) xss) (.imm (szT (.sl T)) M):=by
  refine .l (by simp[szT]) (c.len.trans X.len) (λe he=> ?_) (λm h1 h2 j h3 h4=> ?_)
  .rw[c.ones X.len X.one e he];rfl
  .obtain⟨es',e1,e2⟩:=c.done m xss[m] M[m] (by rw[<-c.len];exact h2) (O0 h1) (O0 h2);have A:j=0:=by rw[e1]at h4;simp at h4;omega
   subst A;simp only[e1];exact e2
 refine⟨h2,sh L,λt v hv=> ?_,HpR.mk' (by simp[hs.heap.len]) (λj x D=> ?_) (λi j b k1 G l1 l2=> ?_) (λi b hi=>by rw[c.bF];exact hs.heap.lt i b hi),⟨by rw[c.bF];exact hs.fr.len,λj b A hl w=> ?_,λb w P=> ?_,hs.fr.rho,λj x D=> ?_⟩,XR.none_ λj y hy=> ?_⟩
 .obtain⟨av,k1,G⟩:=hs.bc t v hv;exact⟨av,k1,AG J rfl G⟩
 .rcases jI D with⟨rfl,rfl,_⟩|⟨B,D⟩
  .exact .inl ⟨a,_,X.rho,c.aq,M,rfl,O⟩
  .by_cases hd:x.dead=true
   .grind
   have hd:x.dead=false:=by simpa using hd
   rcases hs.heap.ob D with⟨b,y,m1,m2,Q⟩|m1|m1
   .refine .inl ⟨b,y,m1,(C j b m1 ⟨x,D,hd⟩).trans m2,?_⟩;cases x with
    |box cs=>obtain⟨vs,p1,p2⟩:=Q;exact⟨vs,p1,p2.1,λj h1 h2=>qi J rfl (p2.2 j h1 h2)⟩
    |row T n xs=>exact Q
    |map T kvs=>exact Q
    |aQ=>trivial
    |rows T xss ho=>trivial
   .grind
   .grind
 .by_cases e1:i=id<;>by_cases e2:j=id
  .omega
  .subst e1;rw[X.rho]at k1;cases k1;exact absurd (d l2 e2) (X.nl j G)
  .subst e2;rw[X.rho]at G;cases G;exact absurd (d l1 e1) (X.nl i k1)
  .exact hs.heap.inj i j b k1 G (d l1 e1) (d l2 e2)
 .by_cases e1:j=id
  .subst e1;rw[X.rho]at A;cases A;exact X.old w
  .exact hs.fr.old j b A (d hl e1) w
 .have R:b≠a:=λe=>by
   subst e;obtain⟨E,q1,q2⟩:=X.old w;exact P E q1 q2
  rw[same b R (λi m e=>by
   obtain⟨_,_,_,g⟩:=X.aA i b m A1 e;obtain⟨E,q1,q2⟩:=g w;exact P E q1 q2)]
  exact hs.fr.same b w P
 .by_cases e1:j=id
  .subst e1;have:=X.new;rw[D]at this;cases this
  .obtain⟨y,q1,q2⟩:=hs.fr.ob j x D;exact⟨y,by rw[sN (λe=>e1 e.symm)];exact q1,q2⟩
 .rcases jI hy with⟨rfl,rfl,_⟩|⟨B,hy⟩
  .rfl
  .grind
theorem Mo(hs:SR F ρ st L h){xss:Td (Td (I T))}(w:st.H[id]? =some (.rows T xss none)):∃d h2,Abs.br L h d h2/\SR F ρ (st.fz id (.sl T) xss) d h2:=by
 obtain⟨h1,y,j⟩:=DT hs w;obtain⟨d,h2,t,v⟩:=LH j (sS (gI.1 w).1);refine⟨d,h2,y.trans t,?_⟩;have e:St.fz id (.sl T) xss ⟨st.L,st.H.set id (.row (.sl T) 0 xss)⟩=st.fz id (.sl T) xss:=by
  unfold St.fz;simp only[P4]
 rw[<-e];exact v
theorem jh:∀{ids:Td Nat}{st:St}{L:Env}{h:au},SR F ρ st L h->∃d h2,Abs.br L h d h2/\SR F ρ (cR ids st) d h2
 |[],st,L,h,hs=>⟨L,h,.refl _ _,hs⟩
 | id::ids,st,L,h,hs=>by
  simp only[cR];split
  .rename_i T n xs j;obtain⟨d,h2,k1,t⟩:=LH hs j;obtain⟨v,w,y,A⟩:=jh (ids:=ids) t;exact⟨v,w,k1.trans y,A⟩
  .rename_i T xss j;obtain⟨d,h2,k1,t⟩:=Mo hs j;obtain⟨v,w,y,A⟩:=jh (ids:=ids) t;exact⟨v,w,k1.trans y,A⟩
  .exact jh hs
end
end
theorem xF:∀{d:Td Nat}{id j:Nat},pos d id=some j->d[j]? =some id
 |[],_,_,h=>HC
 | k::d,id,j,h=>by
  simp only[pos]at h;split at h
  .rename_i t;cases h;simp[OL t]
  .split at h
   .rename_i m hm;cases h;simpa using xF hm
   .cases h
theorem qg:∀{d:Td Nat},iA d=true->∀{i j x:Nat},d[i]? =some x->d[j]? =some x->i=j
 |[],_,_,_,_,h,_=>F1
 | k::d,t,i,j,x,h1,h2=>by
  simp only[iA,bA,Pj]at t;have hk:k∉d:=G1
  cases i with
  | zero=>
   cases j with
   |zero=>rfl
   | succ j=>
    simp at h1 h2;subst h1;exact absurd (mG h2) hk
  | succ i=>
   cases j with
   | zero=>
    simp at h1 h2;subst h2;exact absurd (mG h1) hk
   |succ j=>simp at h1 h2;rw[qg t.2 h1 h2]
theorem qx{H:Td Ob}:∀{d:Td Nat}{xs:Td Ob},vQ H d=some xs->xs.length=d.length/\∀(j id:Nat),d[j]? =some id->∃x,H[id]? =some x/\xs[j]? =some x
 |[],xs,h=>by cases h;exact⟨rfl,λj id h=>F1⟩
 | k::d,xs,h=>by
  simp only[vQ]at h;split at h
  .rename_i x ys h1 h2;cases h;obtain⟨v,w⟩:=qx h2;refine⟨by simp[v],λj id t=> ?_⟩;cases j with
   |zero=>simp at t;subst t;exact⟨x,h1,rfl⟩
   |succ j=>exact w j id QD
  .cases h
theorem n8{g:Nat->Y Nat}:∀{xs ys:Td Ob},obs g xs=some ys->ys.length=xs.length/\∀(j:Nat)(x:Ob),xs[j]? =some x->∃y,ys[j]? =some y/\x.mv g=some y
 |[],ys,h=>by cases h;exact⟨rfl,λj id h=>F1⟩
 | k::w,xs,h=>by
  simp only[obs]at h;split at h
  .rename_i x ys h1 h2;cases h;obtain⟨t,v⟩:=n8 h2;refine⟨RG,λj id d=> ?_⟩;cases j with
   |zero=>simp at d;subst d;exact⟨x,rfl,h1⟩
   |succ j=>exact v j id QO
  .cases h
theorem jy{aH:Td Nat}{H d:Td Ob}(h:mX aH H=some d):d.length=aH.length/\∀(j id:Nat),aH[j]? =some id->∃x y,H[id]? =some x/\x.mv (pos aH)=some y/\d[j]? =some y.anew:=by
 unfold mX at h;split at h
 .rename_i xs h1;split at h
  .rename_i ys h2;cases h;obtain⟨t,v⟩:=qx h1;obtain⟨b1,b2⟩:=n8 h2;refine⟨by simp[t,b1],λj id w=> ?_⟩;obtain⟨x,c1,c2⟩:=v j id w;obtain⟨y,A,d2⟩:=b2 j x c2;exact⟨x,y,c1,d2,RT⟩
  .cases h
 .cases h
def gr(ρ:Rho)(aH:Td Nat):Rho:=aH.map λid=>(ρ[id]?).getD none
def tW(g:Nat->Y Nat)(ρ:Rho)(H:Td Ob)(ρ':Rho)(H':Td Ob):Prop:=∀(id j:Nat),g id=some j->(∀x,ρ[id]? =some x->ρ'[j]? =some x)/\∀(x:Ob),H[id]? =some x->∃y n,H'[j]? =some y/\(x= .aQ->y= .aQ)/\(∀T m xs,x= .row T m xs->y= .row T n xs)/\∀T xss ho,x= .rows T xss ho->y= .rows T xss ho
section
variable {P : Program} {E : Abs.Cx} {F : In} {ρ ρ' : Rho} {H H' : Td Ob} {D : Td (Nat × AT)} {L : Env} {h : au} {g : Nat → Y Nat}
theorem xT:∀{cs d:Td C},C.mv.mvK g cs=some d->d.length=cs.length/\∀(j:Nat)(h1:j<cs.length)(h2:j<d.length),cs[j].mv g=some d[j]
 | [],d,h=>by
  rw[C.mv.mvK.eq_def]at h;cases h;exact⟨rfl,λj h=>F1⟩
 | c::cs,d,h=>by
  rw[C.mv.mvK.eq_def]at h;simp only at h;split at h
  .rename_i x ys h1 h2;cases h;obtain⟨t,v⟩:=xT h2;refine⟨RG,λj k1 w=> ?_⟩;cases j with
   |zero=>exact h1
   |succ j=>exact v j Ru RW
  .cases h
theorem Js{id:Nat}{c':C}(hm:(C.o id).mv g=some c'):∃j,g id=some j/\c'= .o j:=by
 simp only[C.mv]at hm;split at hm
 .grind
 .cases hm
theorem LA(A:tW g ρ H ρ' H'){c c':C}{v:V}(hc:CR ρ H c v)(hm:c.mv g=some c'):CR ρ' H' c' v:=by
 induction hc generalizing c' with
 | fl h=>
  rename_i c v;have:c'=c:=by cases h<;>(simp only[C.mv,OW]at hm;exact hm.symm)
  rw[this];exact .fl h
 |lc h=>simp only[C.mv,OW]at hm;subst hm;exact .lc h
 |nil h=>simp only[C.mv,OW]at hm;subst hm;exact .nil h
 | o h1 h2=>
  obtain⟨j,w,rfl⟩:=Js hm;obtain⟨k1,d⟩:=A _ _ w;obtain⟨y,n,t,_,B,_⟩:=d _ h2;have:=B _ _ _ rfl;subst this;exact .o (k1 _ h1) t
 | oN h1 h2=>
  obtain⟨j,w,rfl⟩:=Js hm;obtain⟨k1,d⟩:=A _ _ w;obtain⟨y,n,t,_,B,_⟩:=d _ h2;have:=B _ _ _ rfl;subst this;exact .oN (k1 _ h1) t
 | oG h1=>
  obtain⟨j,w,rfl⟩:=Js hm;obtain⟨k1,d⟩:=A _ _ w;obtain⟨y,n,t,E,_⟩:=d _ h1;rw[E rfl]at t;exact .oG t
 | oR h1 h2=>
  obtain⟨j,w,rfl⟩:=Js hm;obtain⟨k1,d⟩:=A _ _ w;obtain⟨y,n,t,_,_,B⟩:=d _ h2;have:=B _ _ _ rfl;subst this;exact .oR (k1 _ h1) t
 |r _=>cases hm
 | p h1=>
  simp only[C.mv]at hm;split at hm
  .rename_i j D;cases hm;exact .p ((A _ _ D).1 _ h1)
  .cases hm
 |e _ _ _ _ _=>cases hm
 |eG _=>cases hm
 |q h=>simp only[C.mv,OW]at hm;subst hm;exact .q h
 | @f fn caps vs hl G F=>
  rw[C.mv.eq_def]at hm;simp only at hm;split at hm
  .rename_i I hd;cases hm;obtain⟨h1,h2⟩:=xT hd;exact .f (by rw[h1];exact hl) (λj k1 d=>F j A0 d (h2 j A0 k1))
  .cases hm
 | m h1=>
  simp only[C.mv]at hm;split at hm
  .rename_i j D;cases hm;exact .m ((A _ _ D).1 _ h1)
  .cases hm
 |zs=>simp only[C.mv,OW]at hm;subst hm;exact .zs
 |zP=>simp only[C.mv,OW]at hm;subst hm;exact .zP
 |zM=>simp only[C.mv,OW]at hm;subst hm;exact .zM
 |zF=>simp only[C.mv,OW]at hm;subst hm;exact .zF
theorem ye:∀{cs d:Td C},mvs g cs=some d->d.length=cs.length/\∀(j:Nat)(h1:j<cs.length)(h2:j<d.length),cs[j].mv g=some d[j]
 |[],d,h=>by cases h;exact⟨rfl,λj h=>F1⟩
 | c::cs,d,h=>by
  simp only[mvs]at h;split at h
  .rename_i x ys h1 h2;cases h;obtain⟨t,v⟩:=ye h2;refine⟨RG,λj k1 w=> ?_⟩;cases j with
   |zero=>exact h1
   |succ j=>exact v j Ru RW
  .cases h
theorem FQ(h:tW g ρ H ρ' H'){cs d:Td C}{vs:Td V}(hc:CRs ρ H cs vs)(hm:mvs g cs=some d):CRs ρ' H' d vs:=by
 obtain⟨h1,h2⟩:=ye hm;exact⟨by rw[h1];exact hc.1,λj k1 t=>LA h (hc.2 j A0 t) (h2 j A0 k1)⟩
theorem lI:∀{cs d:Td AT},AT.mv.mvA g cs=some d->d.length=cs.length/\∀(j:Nat)(h1:j<cs.length)(h2:j<d.length),cs[j].mv g=some d[j]
 | [],d,h=>by
  rw[AT.mv.mvA.eq_def]at h;cases h;exact⟨rfl,λj h=>F1⟩
 | c::cs,d,h=>by
  rw[AT.mv.mvA.eq_def]at h;simp only at h;split at h
  .rename_i x ys h1 h2;cases h;obtain⟨t,v⟩:=lI h2;refine⟨RG,λj k1 w=> ?_⟩;cases j with
   |zero=>exact h1
   |succ j=>exact v j Ru RW
  .cases h
theorem pv(t:tW g ρ H ρ' H'){v u:AT}{w:AV}(hc:ATR ρ H v w)(hm:v.mv g=some u):ATR ρ' H' u w:=by
 induction hc generalizing u with
 | one h=>
  rw[AT.mv.eq_def]at hm;simp only at hm;split at hm
  .rename_i d hd;cases hm;exact .one (LA t h hd)
  .cases hm
 | agg h=>
  rw[AT.mv.eq_def]at hm;simp only at hm;split at hm
  .rename_i d hd;cases hm;exact .agg (FQ t h hd)
  .cases hm
 | tup hl h y=>
  rw[AT.mv.eq_def]at hm;simp only at hm;split at hm
  .rename_i ys A;cases hm;obtain⟨h1,h2⟩:=lI A;exact .tup (by rw[h1];exact hl) (λj k1 B=>y j A0 B (h2 j A0 k1))
  .cases hm
theorem Jm{x:Ob}{y:Y Abs.Ob}(h:obR ρ H x y):obR ρ H x.anew y:=by cases x<;>exact h
theorem yo(j:tW g ρ H ρ' H'){x d:Ob}{y:Y Abs.Ob}(h:obR ρ H x y)(hm:x.mv g=some d):obR ρ' H' d y:=by
 cases x with
 | box cs=>
  obtain⟨vs,h1,h2⟩:=h;simp only[Ob.mv]at hm;split at hm
  .rename_i t hd;cases hm;exact⟨vs,h1,FQ j h2 hd⟩
  .cases hm
 |row T n xs=>cases hm;exact h
 |map T kvs=>cases hm;exact h
 |aQ=>cases hm;trivial
 |rows T xss ho=>cases hm;trivial
theorem ip{x d:Ob}(hm:x.mv g=some d):(x= .aQ->d= .aQ)/\(∀T m xs,x= .row T m xs->d= .row T m xs)/\fG x d:=by
 cases x with
 | box cs=>
  simp only[Ob.mv]at hm;split at hm
  .cases hm;exact⟨λe=>E0,λ_ _ _ e=>E0,.inr (.inr (.inl ⟨_,_,rfl,rfl⟩))⟩
  .cases hm
 |row T n xs=>cases hm;exact⟨λe=>E0,λ_ _ _ e=>(by cases e;rfl),fG.refl _⟩
 |map T kvs=>cases hm;exact SU
 |aQ=>cases hm;exact⟨λ_=>rfl,λ_ _ _ e=>E0,fG.refl _⟩
 |rows T xss ho=>cases hm;exact SU
theorem iP{x d:Ob}(hm:x.mv g=some d):d.dead=x.dead:=by
 cases x with
 | box cs=>
  simp only[Ob.mv]at hm;split at hm
  .cases hm;rfl
  .cases hm
 |_=>cases hm;rfl
theorem n9{x d:Ob}(hm:x.mv g=some d):∀T xss ho,x= .rows T xss ho->d= .rows T xss ho:=λT xss ho e=>by subst e;cases hm;rfl
theorem uf(x:Ob):x.anew.dead=x.dead:=by cases x<;>rfl
theorem kN(x:Ob):(x= .aQ->x.anew= .aQ)/\(∀T m xs,x= .row T m xs->x.anew= .row T 0 xs)/\fG x x.anew:=by
 cases x with
 |row T n xs=>exact⟨λe=>E0,λ_ _ _ e=>(by cases e;rfl),.inr (.inl ⟨T,n,xs,0,xs,rfl,rfl,rfl⟩)⟩
 |box cs=>exact SU
 |map T kvs=>exact SU
 |aQ=>exact⟨λ_=>rfl,λ_ _ _ e=>E0,fG.refl _⟩
 |rows T xss ho=>exact SU
theorem mE{aH:Td Nat}{d:Td Ob}(hk:mX aH H=some d){j id:Nat}(h:aH[j]? =some id)(hl:live d j):live H id:=by
 obtain⟨k1,t⟩:=jy hk;obtain⟨z,v,w⟩:=hl;obtain⟨x,y,c1,c2,c3⟩:=t j id h;rw[v]at c3;cases c3;exact⟨x,c1,by rw[<-iP c2,<-uf y];exact w⟩
theorem mC{aH:Td Nat}{C:Td Ob}(hp:HpR ρ H h)(L:iA aH=true)(hk:mX aH H=some C):HpR (gr ρ aH) C h/\tW (pos aH) ρ H (gr ρ aH) C/\(∀(j id:Nat),aH[j]? =some id->(gr ρ aH)[j]? =ρ[id]?):=by
 obtain⟨k1,F⟩:=jy hk;have t:∀(j id:Nat),aH[j]? =some id->(gr ρ aH)[j]? =ρ[id]? :=λj id A=>by
  obtain⟨x,y,c1,_⟩:=F j id A;have d:id<ρ.length:=by rw[hp.len];exact(gI.1 c1).1
  simp[gr,A,O0 d]
 have v:∀(j:Nat)(x:Y Nat),(gr ρ aH)[j]? =some x->∃id,aH[j]? =some id/\ρ[id]? =some x:=λj x B=>by
  have d:=(gI.1 B).1;simp[gr]at d;have e:=O0 d;exact⟨_,e,by rw[<-t j _ e];exact B⟩
 have D:tW (pos aH) ρ H (gr ρ aH) C:=λid j A=>by
  have A:=xF A;refine⟨λx B=>by rw[t j id A];exact B,λx B=> ?_⟩;obtain⟨Q,y,c1,c2,c3⟩:=F j id A;rw[B]at c1;cases c1;obtain⟨M,d2,_⟩:=ip c2;exact⟨_,0,c3,λe=>(kN y).1 (M e),λT m xs e=>(kN y).2.1 T m xs (d2 T m xs e),λT xss ho e=>by rw[n9 c2 T xss ho e];rfl⟩
 have E:∀{j id:Nat},aH[j]? =some id->live C j->live H id:=λ{j id} A=>mE hk A
 refine⟨HpR.mk' (by simp[gr,k1]) (λj z J=> ?_) (λi j a h1 h2 l1 l2=> ?_) (λi a h1=> ?_),D,t⟩
 .have d:=(gI.1 J).1;rw[k1]at d;have e:=O0 d;obtain⟨x,y,c1,c2,c3⟩:=F j _ e;rw[J]at c3;cases c3;rcases hp.ob c1 with⟨a,w,m1,N,G⟩|⟨m1,T,n,rfl,G⟩|hd
  .exact .inl ⟨a,w,by rw[t j _ e];exact m1,N,Jm (yo D G c2)⟩
  .cases c2;exact .inr (.inl ⟨by rw[t j _ e];exact m1,T,0,rfl,G⟩)
  .exact .inr (.inr (by rw[uf,iP c2];exact hd))
 .obtain⟨K,e1,I⟩:=v i _ h1;obtain⟨O,e2,P⟩:=v j _ h2;have:=hp.inj K O a I P (E e1 l1) (E e2 l2);subst this;exact qg L e1 e2
 .obtain⟨K,e1,I⟩:=v i _ h1;exact hp.lt _ _ I
end
def qL(ρ:Rho)(H:Td Ob)(D:Td (Nat×AT))(L:Env):Prop:=∀p∈D,∃d,L.lookup p.1=some d/\ATR ρ H p.2 d
theorem si{α:Type}{D:Td (Nat×α)}{t:Nat}{v:α}(h:D.lookup t=some v):(t,v)∈D:=by
 induction D with
 |nil=>simp at h
 | cons p D d=>
  obtain⟨k,z⟩:=p;rw[OK]at h;by_cases e:t=k
  .grind
  .grind
section
variable {P : Program} {E : Abs.Cx} {F : In} {ρ ρ' : Rho} {H H' : Td Ob} {D : Td (Nat × AT)} {L : Env} {h : au}
theorem qL.enc(h:qL ρ H D L):cj ρ H D L:=λt v d=>h (t,v) (si d)
theorem qL.mono(e:Ev ρ H ρ' H')(h:qL ρ H D L):qL ρ' H' D L:=λp hp=>let⟨d,h1,h2⟩:=h p hp;⟨d,h1,h2.mono e⟩
theorem p7(hs:cj ρ H D L):∀d,qL ρ H (bc D d) L
 |[]=>λp hp=>by simp[bc]at hp
 | t::d=>fun p hp=>by
  simp only[bc]at hp;split at hp
  .rename_i v h;rcases List.mem_cons.1 hp with rfl|hp
   .exact hs t v h
   .exact p7 hs d p hp
  .exact p7 hs d p hp
structure Mat(F:In)(h:au)(ρ:Rho)(H:List Ob)(ρ':Rho)(H':List Ob):Prop where
 heap:HpR ρ' H' h
 ev:Ev ρ H ρ' H'
 fr:Fr F ρ' H' h
theorem Mat.refl(hp:HpR ρ H h)(d:Fr F ρ H h):Mat F h ρ H ρ H:=⟨hp,Ev.refl _ _,d⟩
theorem Mat.trans{d:Rho}{j:Td Ob}(a:Mat F h ρ H ρ' H')(b:Mat F h ρ' H' d j):Mat F h ρ H d j:=⟨b.heap,a.ev.trans b.ev,b.fr⟩
theorem vH{T:Ty}(d:0<szT T)(hp:HpR ρ H h)(j:Fr F ρ H h):Mat F h ρ H (ρ++[none]) (H++[.row T 0 []])/\CR (ρ++[none]) (H++[.row T 0 []]) (.o H.length) (.lit (.slice none 0 0)):=
 ⟨⟨hp.ny d,Ev.push _ _,j.ny hp.len _⟩,by obtain⟨m1,_⟩:=rg d hp;obtain⟨u,e,k⟩:=m1.bi;cases e;exact k⟩
theorem CR.nil'{T:Ty}{v:V}(hc:CR ρ H (.nil T) v):v= .lit (.slice none 0 0)/\0<szT T:=by
 cases hc with
 |fl h=>cases h
 |nil hp=>exact⟨rfl,hp⟩
theorem CRs.head{c:C}{cs:Td C}{vs:Td V}(h:CRs ρ H (c::cs) vs):∃v us,vs=v::us/\CR ρ H c v/\CRs ρ H cs us:=by
 cases vs with
 |nil=>have:=h.1;simp at this
 |cons v us=>exact⟨v,us,rfl,h.2 0 A1 A1,R8,λj h1 h2=>h.2 (j+1) Hd Hm⟩
theorem ra:∀{cs:Td C}{H:Td Ob}{ρ:Rho}{vs:Td V},HpR ρ H h->Fr F ρ H h->CRs ρ H cs vs->∃ρ',Mat F h ρ H ρ' (jf cs H).2/\CRs ρ' (jf cs H).2 (jf cs H).1 vs
 |[],H,ρ,vs,hp,d,hc=>⟨ρ,Mat.refl hp d,hc⟩
 | c :: cs,H,ρ,vs,hp,d,hc=>by
  obtain⟨v,us,rfl,h1,h2⟩:=hc.head;by_cases e:∃T,c= .nil T
  .obtain⟨T,rfl⟩:=e;obtain⟨rfl,t⟩:=h1.nil';obtain⟨m1,w⟩:=vH t hp d;obtain⟨ρ',k1,j⟩:=ra m1.heap m1.fr (h2.mono m1.ev);exact⟨ρ',m1.trans k1,.cons (w.mono k1.ev) j⟩
  .obtain⟨ρ',k1,j⟩:=ra hp d h2;have:jf (c::cs) H=(c::(jf cs H).1,(jf cs H).2):=by
    simp only[jf];split
    .grind
    .rfl
   rw[this];exact⟨ρ',k1,.cons (h1.mono k1.ev) j⟩
theorem IR{v:AT}{j:AV}(hp:HpR ρ H h)(d:Fr F ρ H h)(hc:ATR ρ H v j):∃ρ',Mat F h ρ H ρ' (yZ v H).2/\ATR ρ' (yZ v H).2 (yZ v H).1 j:=by
 cases hc with
 | @one c u h1=>
  by_cases e:∃T,c= .nil T
  .obtain⟨T,rfl⟩:=e;obtain⟨rfl,t⟩:=h1.nil';obtain⟨m1,w⟩:=vH t hp d;exact⟨_,m1,.one w⟩
  .have:yZ (.one c) H=(.one c,H):=by
    simp only[yZ];split
    .grind
    .rfl
   rw[this];exact⟨ρ,Mat.refl hp d,.one h1⟩
 | agg h1=>
  obtain⟨ρ',k1,y⟩:=ra hp d h1;exact⟨ρ',k1,.agg y⟩
 |tup hl h1=>exact⟨ρ,Mat.refl hp d,.tup hl h1⟩
theorem CI:∀{D:Td (Nat×AT)}{H:Td Ob}{ρ:Rho},HpR ρ H h->Fr F ρ H h->qL ρ H D L->∃ρ',Mat F h ρ H ρ' (wz D H).2/\qL ρ' (wz D H).2 (wz D H).1 L
 |[],H,ρ,hp,d,hs=>⟨ρ,Mat.refl hp d,hs⟩
 | (t, v)::D,H,ρ,hp,d,hs=>by
  obtain⟨w,h1,h2⟩:=hs (t,v) A1;obtain⟨y,k1,A⟩:=IR hp d h2;obtain⟨j,m1,B⟩:=CI k1.heap k1.fr (qL.mono k1.ev (D:=D) (L:=L) (λp hp=>hs p (by simp[hp])));refine⟨j,k1.trans m1,λp hp=> ?_⟩;simp only[wz]at hp;rcases List.mem_cons.1 hp with rfl|hp
  .exact⟨w,h1,A.mono m1.ev⟩
  .exact B p hp
theorem rJ:∀(cs:Td C)(H:Td Ob),∃t,(jf cs H).2=H++t
 |[],H=>⟨[],by simp[jf]⟩
 | c::cs,H=>by
  simp only[jf];split
  .rename_i T;obtain⟨t,e⟩:=rJ cs (H++[.row T 0 []]);exact⟨[.row T 0 []]++t,Rh⟩
  .exact rJ cs H
theorem vu:∀{n:Nat}{H:Td Ob}{ρ:Rho},HpR ρ H h->Fr F ρ H h->∃ρ',Mat F h ρ H ρ' (yj n H)
 |0,H,ρ,hp,A=>⟨ρ,Mat.refl hp A⟩
 | n+1,H,ρ,hp,A=>by
  simp only[yj];split
  .rename_i cs B;obtain⟨a,vs,h1,h2,D⟩:=hp.box n cs B;obtain⟨v,k1,E⟩:=ra hp A D;have b1:(jf cs H).2[n]? =some (.box cs):=by
    obtain⟨t,e⟩:=rJ cs H;rw[e,aL (gI.1 B).1];exact B
   have he:evo (.box cs) (.box (jf cs H).1):=.inr (.inr (.inl ⟨_,_,rfl,rfl⟩));have w:Ev v (jf cs H).2 v ((jf cs H).2.set n (.box (jf cs H).1)):=Ev.set b1 he;have hs:=k1.heap.set (y:=some (.row vs.length [vs])) (k1.ev.rho _ _ h1) b1 A1 he ⟨vs,rfl,E.mono w⟩;have d:h.set a (some (.row vs.length [vs]))=h:=by
    obtain⟨G,e⟩:=gI.1 h2;rw[<-e,List.set_getElem_self]
   rw[d]at hs;have j:=k1.fr.set (y:=some (.row vs.length [vs])) (k1.ev.rho _ _ h1) b1 A1 he;rw[d]at j;obtain⟨C,m1⟩:=vu (n:=n) hs j;exact⟨C,k1.trans (Mat.trans ⟨hs,w,j⟩ m1)⟩
  .exact vu hp A
theorem xk{g:Nat->Y Nat}(j:tW g ρ H ρ' H'):∀{D d:Td (Nat×AT)},mvL g D=some d->qL ρ H D L->qL ρ' H' d L
 |[],d,h,_=>by cases h;intro p hp;simp at hp
 | (t, v)::D,d,h,hs=>by
  simp only[mvL]at h;split at h
  .rename_i u B h1 h2;cases h;intro p hp;rcases List.mem_cons.1 hp with rfl|hp
   .obtain⟨w,k1,y⟩:=hs (t,v) A1;exact⟨w,k1,pv j y h1⟩
   .exact xk j h2 (λq A=>hs q RT) p hp
  .cases h
theorem AZ:∀{a b:Td Nat},eqL a b=true->a=b
 |[],[],_=>rfl
 |[],_::_,h=>HC
 |_::_,[],h=>HC
 | x::a,y::b,h=>by
  simp only[eqL,bA]at h;rw[OL h.1,AZ h.2]
def In.ok(F:In)(r:Nat):Prop:=F.ρ.length=r/\F.H.length=r
theorem Fr.pick{aH:Td Nat}{w:Td Ob}{r:Nat}(d:Fr F ρ H h)(hp:HpR ρ H h)(hi:F.ok r)(A:iA aH=true)(B:aH.take r=List.range r)(hk:mX aH H=some w):Fr F (gr ρ aH) w h:=by
 obtain⟨_,_,j⟩:=mC hp A hk;obtain⟨k1,C⟩:=jy hk;have t:∀id,id<r->aH[id]? =some id:=λid hid=>by
  have:(aH.take r)[id]? =(List.range r)[id]? :=by rw[B]
  rw[Q8 hid]at this;rw[this];simp[hid]
 refine⟨d.len,λid a h1 hl h2=> ?_,d.same,λid x h1=> ?_,λid x h1=> ?_⟩
 .have v:=(gI.1 h1).1;simp[gr]at v;have e:=O0 v;rw[j id _ e]at h1;exact d.old _ a h1 (mE hk e hl) h2
 .have hid:id<r:=by rw[<-hi.1];exact(gI.1 h1).1
  rw[j id id (t id hid)];exact d.rho id x h1
 .have hid:id<r:=by rw[<-hi.2];exact(gI.1 h1).1
  obtain⟨y,m1,D⟩:=d.ob id x h1;obtain⟨G,E,c1,c2,c3⟩:=C id id (t id hid);rw[m1]at c1;cases c1;exact⟨_,c3,(D.trans (ip c2).2.2).trans (kN E).2.2⟩
theorem mg:∀(cs:Td C)(H:Td Ob),cq H (jf cs H).2
 |[],H=>.refl H
 | c::cs,H=>by
  simp only[jf];split
  .rename_i T;refine cq.trans (H2:=H++[.row T 0 []]) (λid y h1 h2=> ?_) (mg cs _);rcases dO h1 with⟨_,h1⟩|⟨_,rfl⟩
   .exact h1
   .cases h2
  .exact mg cs H
theorem DP(v:AT)(H:Td Ob):cq H (yZ v H).2:=by
 unfold yZ;split
 .split
  .intro id y h1 h2;rcases dO h1 with⟨_,h1⟩|⟨_,rfl⟩
   .exact h1
   .cases h2
  .exact .refl H
 .exact mg _ H
 .exact .refl H
theorem vf:∀(D:Td (Nat×AT))(H:Td Ob),cq H (wz D H).2
 |[],H=>.refl H
 | (t,v)::D,H=>by
  simp only[wz];exact(DP v H).trans (vf D _)
theorem pM:∀(n:Nat)(H:Td Ob),cq H (yj n H)
 |0,H=>.refl H
 | n+1,H=>by
  simp only[yj];split
  .rename_i cs d;refine cq.trans (H2:=(jf cs H).2.set n (.box (jf cs H).1)) (λid y h1 h2=> ?_) (pM n _);rcases jI h1 with⟨_,rfl,_⟩|⟨_,h1⟩
   .cases h2
   .exact mg cs H id y h1 h2
  .exact pM n H
theorem JL(D:Td (Nat×AT))(n:Nat)(H:Td Ob):cq H (wz D (yj n H)).2:=(pM n H).trans (vf D _)
theorem XR.pick{aH:Td Nat}{B:Td Ob}{r:Nat}(J:XR F ρ H h)(hp:HpR ρ H h)(hi:F.ok r)(E:iA aH=true)(C:aH.take r=List.range r)(hk:mX aH H=some B):XR F (gr ρ aH) B h:=λj T xss ho K=>by
 obtain⟨_,_,v⟩:=mC hp E hk;obtain⟨k1,L⟩:=jy hk
 -- rows of own rows G from I
 have t:∀(j:Nat)(y:Ob),B[j]? =some y->y.fA=true->∃id,aH[j]? =some id/\H[id]? =some y:=λj y D C=>by
  have d:=(gI.1 D).1;rw[k1]at d;have e:=O0 d;obtain⟨x,z,c1,c2,c3⟩:=L j _ e;rw[D]at c3;cases c3;refine⟨_,e,?_⟩;cases x with
  |rows T xss ho=>cases c2;exact c1
  | box cs=>
   simp only[Ob.mv]at c2;split at c2
   .cases c2;cases C
   .cases c2
  |_=>cases c2;cases C
 obtain⟨id,e,hid⟩:=t j _ K rfl;obtain⟨u,a,es,X⟩:=J id T xss ho hid;have nl:∀b,kL ρ H b->kL (gr ρ aH) B b:=λb M i hi hl=>by
  have d:=(gI.1 hi).1;simp[gr]at d;have e:=O0 d;rw[v i _ e]at hi;exact M _ hi (mE hk e hl)
 refine⟨λN y D w=> ?_,a,es,by rw[v j id e];exact X.rho,X.aq,X.len,X.pos,X.one,nl a X.nl,X.old,?_,X.sub,λk b n g1 O=>let⟨q1,q2,q3,q4⟩:=X.aA k b n g1 O;⟨q1,q2,nl b q3,q4⟩,X.inj⟩
 .obtain⟨id',P,A⟩:=t N y D w;have:=u id' y A w;subst this;exact qg E P e
 .by_cases d:j<r
  .have:aH[j]? =some j:=by
    have:(aH.take r)[j]? =(List.range r)[j]? :=by rw[C]
    rw[Q8 d]at this;rw[this];simp[d]
   rw[e]at this;cases this;exact X.new
  .exact Qj (by rw[hi.2];omega)
theorem cP{R:Type}{r:Nat}{lv:Td Nat}{st:St}{K:St->Y R}{x:R}(hi:F.ok r)(hs:SR F ρ st L h)(hk:eM r lv st K=some x):∃ρ' d,K d=some x/\SR F ρ' d L h:=by
 unfold eM at hk;obtain⟨t,j⟩:=vu (n:=st.H.length) hs.heap (Fr.refl ρ st.H h);obtain⟨v,b1,b2⟩:=CI j.heap j.fr (qL.mono j.ev (p7 hs.bc lv));simp only at hk;split at hk
 .rename_i H' L' h1 h2 w;simp only[bA]at h1;obtain⟨c1,c2,_⟩:=mC b1.heap h1.1 h2;exact⟨_,_,hk,(xk c2 w b2).enc,c1,(hs.fr.trans b1.fr).pick b1.heap hi h1.1 (AZ h1.2) h2,XR.pick (hs.xr.aH b1.fr (JL _ _ _)) b1.heap hi h1.1 (AZ h1.2) h2⟩
 .cases hk
end
end Go.Proofs.YtkegnipofloejaaGreatDoor.Den
namespace Go.Proofs.YtkegnipofloejaaGreatDoor.Abs
open Go.RowKit
theorem ARs.app{ι:Td Inf}{I:Nat->Prop}{w:World}{a b:Td AV}{cs d:Array Value}(h:ARs ι I w a cs)(k:ARs ι I w b d):ARs ι I w (a++b) (cs++d):=by
 refine⟨by simp[h.1,k.1],λj t=> ?_⟩;by_cases e:j<a.length
 .obtain⟨c,h1,h2⟩:=h.2 j e;exact⟨c,by rw[PM (by rw[h.1];exact e)];exact h1,by rw[P0 e];exact h2⟩
 .obtain⟨c,h1,h2⟩:=k.2 (j-a.length) (by simp at t;omega);exact⟨c,by rw[Array.getElem?_append_right (by rw[h.1];omega),h.1];exact h1,by rw[P1 A0];exact h2⟩
theorem AR.clo'{ι:Td Inf}{I:Nat->Prop}{w:World}{fn:Go.Fn}{vs:Td V}{c:Value}(h:AR ι I w (.one (.clo fn vs)) c):∃cs,c= .func fn #[] cs/\ARs ι I w (vs.map .one) cs:=by
 cases h with
 | one h=>
  cases h with
  |clo hl d v=>exact⟨_,rfl,QG,λj t=>⟨_,d j QD,by rw[P5];exact .one (v j QD)⟩⟩
def Ct:Value->Array Value
 | .func _ _ cs=>cs
 |_=> #[]
section
variable {P : Program} {E : Cx} {K : Env → au → Prop} {L : Env} {h : au} {d f : Nat} {x : Operand} {ae : Td Operand} {tys : Array TypeId} {ty : TypeId} {pos : String} {af : Array Edge} {gd : Y (Nat × Bool)} {avs xs : Td AV} {vs : Td V} {R : AV → au → Prop}
section
variable {ι:Td Inf}{a:Act}{w:World}
theorem tn(hc:dI P f)(j:ev L x=some (.one (.clo (.func f) vs))){I:Nat->Prop}(r:Rel E L h ι I a w):
  (execOp a.eval (⟨some d,.call ⟨.value x,ae.toArray,tys⟩,ty,pos,af,gd⟩:Oper)).run P w= .ok (.enter f ((ae.map a.eval).toArray++Ct (a.eval x))) w:=by
 obtain⟨cs,e,_⟩:=(r.ev j).clo';simp[execOp,resolve,e,Deferred.ofValue,invoke,hc.run,Ct]
theorem pk(d:ev L x=some (.one (.clo (.func f) vs)))(j:evs L ae=some avs){I:Nat->Prop}(r:Rel E L h ι I a w):ARs ι I w (avs++vs.map .one) ((ae.map a.eval).toArray++Ct (a.eval x)):=by
 obtain⟨cs,e,k⟩:=(r.ev d).clo';rw[e];exact(r.evs j).app k
theorem ph(j:ev L x=some (.one (.clo (.func f) vs)))(v:evs L ae=some avs)(y:d<E.n)(t:Fn P f xs h R)(A:∀ι I w cs,ARs ι I w (avs++vs.map .one) cs->ARs ι I w xs cs)(hk:∀r h',R r h'->K ((d,r)::L) h'):
  ar P ⟨some d,.call ⟨.value x,ae.toArray,tys⟩,ty,pos,af,gd⟩ E K L h:=
 zg (cs:=λa=>(ae.map a.eval).toArray++Ct (a.eval x)) rfl y (λ_ _ ⟨_,_,r⟩=>tn t.1 j r) (λ_ _ _ _ r=>A _ _ _ _ (pk j v r)) t hk
theorem Hv{h1:au}(Q:ev L x=some (.one (.clo (.func f) vs)))(U:evs L ae=some avs)(V:d<E.n)(S:Fn P f xs h1 R)
  (N:∀(L:Env)(ι:Td Inf)(I:Nat->Prop)(a:Act)(w:World),Rel E L h ι I a w->∃T,Rel E L h1 ι T a w/\∀cs,ARs ι I w (avs++vs.map .one) cs->ARs ι T w xs cs) (hk:∀r h',R r h'->K ((d,r)::L) h'):
  ar P ⟨some d,.call ⟨.value x,ae.toArray,tys⟩,ty,pos,af,gd⟩ E K L h:=by
 refine⟨λLf ι I0 a w r0=> ?_⟩;unfold Oper.wp;rw[tn S.1 Q r0.low,Oper.upon_enter];obtain⟨I,r,hc⟩:=N _ _ _ _ _ r0;refine(S.2 w I ι _ r.gv r.heap r.imm (hc _ (pk Q U r0.low))).mono ?_;rintro e w' ⟨v,h',ι',M,c,W,rfl,D⟩;have O:cu I (λb=>I b\/M b) w w':=⟨λb j=>.inl j,λb j=>by
  rw[D.frame b (r.imm b j) (λ⟨id,o,inf,x,y,e⟩=>r.heap.off id o inf x y (e▸j))]⟩
 have C:cu M (λb=>I b\/M b) w' w':=⟨λb j=>.inr j,λ_ _=>rfl⟩;refine⟨_,h',ι',λb=>I b\/M b,hk v h' W,Rel.put (c:=c) ?_ V (D.res.aH (bj.refl _) C)⟩;exact
 { bc   :=fun t u X=>let⟨c,x,y⟩:=r.bc t u X;⟨c,x,y.aH D.pre O⟩
   heap := ⟨D.heap.len,fun id o inf x y=>(D.heap.obj id o inf x y).aH (bj.refl _) C rfl,fun id o inf x y j=>by
     rcases j with j|j
     · rcases D.cA id o inf x y with⟨B,F,A,G,H,J⟩|hge
       · exact r.heap.off B F A G H (J▸j)
       · have:=r.imm _ j;omega
     · exact D.heap.off id o inf x y j,D.heap.inj,λb c t j=>.inl (r.heap.sub b c t j)⟩
   imm:=λb j=>by
     rcases j with j|j
     · have:=r.imm b j;have:=D.grown;omega
     · exact D.imm b j
   cw:=λb j=>by
     rcases j with j|j
     · exact r.cw b j
     · rcases D.cw b j with j|⟨B,F,A,G,H,J⟩|j
       · exact r.cw b j
       · rw[<-J];exact .inr (r.cA B F A G H)
       · exact .inr (.inr (P3 r.grown j))
   pre:=r.pre.trans D.pre
   os:=D.os.trans r.os
   tape:=D.tape.trans r.tape
   output:=D.output.trans r.output
   grown:=P3 r.grown D.grown
   frame:=λb x y=>by
     rw [D.frame b QI (fun⟨id,o,inf,Y,Z,e⟩=>by
       rcases r.cA id o inf Y Z with hp|hp
       · grind
       · omega)]
     exact r.frame b x y
   cA:=λid o inf x y=>by
     rcases D.cA id o inf x y with⟨B,F,A,G,H,J⟩|hge
     · rw[<-J];exact r.cA B F A G H
     · exact .inr QI
   defers:=r.defers
   size:=r.size}
theorem A8(F:ev L x=some (.one (.clo (.func f) vs)))(M:evs L ae=some avs)(N:d<E.n)(G:Fn P f xs [] R)(C:∀r h',R r h'->∀ι I w ι' H w' c,AR ι I w r c->AR ι' H w' r c)
  (j:∀ι I a w,Rel E L h ι I a w->∀cs,ARs ι I w (avs++vs.map .one) cs->ARs [] (λb=>b<w.heap.size) w xs cs) (hk:∀r h',R r h'->K ((d,r)::L) h):
  ar P ⟨some d,.call ⟨.value x,ae.toArray,tys⟩,ty,pos,af,gd⟩ E K L h:=by
 refine⟨λLf ι I a w r=> ?_⟩;unfold Oper.wp;rw[tn G.1 F r.low,Oper.upon_enter];refine(G.2 w (λb=>b<w.heap.size) [] _ ⟨r.gv.1,lM 0⟩ (HR.nil _ w λb c t j=>r.imm b (r.heap.sub b c t j)) (λ_ h=>h) (j ι I a w r.low _ (pk F M r.low))).mono ?_;rintro e w' ⟨v,h',ι',H,c,J,rfl,D⟩;have A:∀b,b<w.heap.size->w'.heap[b]? =w.heap[b]? :=λb j=>D.frame b j (lM b);have B:cu I I w w':=⟨λ_ h=>h,λb j=>by rw[A b (r.imm b j)]⟩;refine⟨_,h,ι,I,hk v h' J,Rel.put (c:=c) ?_ N (C v h' J _ _ _ _ _ _ _ D.res)⟩;exact
 { bc:=fun t u O=>let⟨c,x,y⟩:=r.bc t u O;⟨c,x,y.aH (bj.refl _) B⟩
   heap:=⟨r.heap.len,λid o inf x y=>(r.heap.obj id o inf x y).aH (bj.refl _) B (A _ (r.heap.blk x y)),r.heap.off,r.heap.inj,r.heap.sub⟩
   imm:=λb j=>by have:=r.imm b j;have:=D.grown;omega
   cw:=r.cw
   pre:=r.pre
   os:=D.os.trans r.os
   tape:=D.tape.trans r.tape
   output:=D.output.trans r.output
   grown:=P3 r.grown D.grown
   frame:=λb x y=>by rw[A b QI];exact r.frame b x y
   cA:=r.cA
   defers:=r.defers
   size:=r.size}
end
end
end Go.Proofs.YtkegnipofloejaaGreatDoor.Abs
namespace Go.Proofs.YtkegnipofloejaaGreatDoor.Den
open Go.RowKit
open Abs (V AV Env au ar)
def cL(ρ:Rho)(H:Td Ob)(xs:Td AT)(avs:Td AV):Prop:=xs.length=avs.length/\∀(j:Nat)(h1:j<xs.length)(h2:j<avs.length),ATR ρ H xs[j] avs[j]
def CFn(P:Program)(f:FuncId)(xs:Td AT)(H:Td Ob)(v:AT)(H':Td Ob):Prop:=
 ∀(ρ:Rho)(h:au)(avs:Td AV),HpR ρ H h->cL ρ H xs avs->Abs.Fn P f avs h (λr h'=>∃ρ',ATR ρ' H' v r/\HpR ρ' H' h'/\Fr ⟨h,ρ,H⟩ ρ' H' h')
def DA(P:Program)(f:FuncId)(xs:Td AT)(H:Td Ob)(S:AT×Td Ob->Prop):Prop:=
 ∀(ρ:Rho)(h:au)(avs:Td AV),HpR ρ H h->cL ρ H xs avs->Abs.Fn P f avs h (λr h'=>∃q ρ',S q/\ATR ρ' q.2 q.1 r/\HpR ρ' q.2 h'/\Fr ⟨h,ρ,H⟩ ρ' q.2 h')
def iJ(P:Program)(O:Orc):Prop:=∀(R:Type)(f:Nat)(xs:Td AT)(H:Td Ob)(K:AT->Td Ob->Y R)(r:R),O.call R f xs H K=some r->
 (Nat.beq (O.mode f) 3=false->∃v H',K v H'=some r/\CFn P f xs H v H')/\(Nat.beq (O.mode f) 3=true->∃S,(∀q,S q->K q.1 q.2=some r)/\DA P f xs H S)
def kY(P:Program)(e:Ent):Prop:=∀(R:Type)(xs:Td AT)(H:Td Ob)(K:AT->Td Ob->Y R)(r:R),e.call R xs H K=some r->∃v H',K v H'=some r/\CFn P e.f xs H v H'
theorem sO:∀{l:Td Ent}{f:Nat}{e:Ent},uk l f=some e->e∈l/\e.f=f
 |[],_,_,h=>HC
 | x::l,f,e,h=>by
  simp only[uk]at h;cases d:Nat.beq x.f f with
  | true=>
   rw[d]at h;cases h;exact⟨A1,OL d⟩
  | false=>
   rw[d]at h;obtain⟨h1,h2⟩:=sO h;exact⟨by simp[h1],h2⟩
def kH(P:Program)(e:Ent):Prop:=∀(R:Type)(xs:Td AT)(H:Td Ob)(K:AT->Td Ob->Y R)(r:R),e.call R xs H K=some r->∃S,(∀q,S q->K q.1 q.2=some r)/\DA P e.f xs H S
def zZ(P:Program)(e:Ent):Prop:=match Nat.beq e.mode 3 with
 |true=>kH P e
 |false=>kY P e
def nr(P:Program):Td Ent->Prop
 |[]=>True
 |e::l=>zZ P e/\nr P l
theorem nr.mem{P:Program}:∀{l:Td Ent},nr P l->∀e∈l,zZ P e
 |[],_,e,he=>by simp at he
 | x::l,h,e,he=>by
  rcases List.mem_cons.1 he with rfl|he
  .exact h.1
  .exact h.2.mem e he
theorem jp{P:Program}{l:Td Ent}(h:nr P l):iJ P (de l):=λR f xs H K r hc=>by
 simp only[de]at hc;split at hc
 .rename_i e he;obtain⟨h1,rfl⟩:=sO he;have k:=h.mem e h1;unfold zZ at k;have hm:(de l).mode e.f=e.mode:=by simp only[de,he]
  rw[hm];refine⟨λg=> ?_,λg=> ?_⟩
  .rw[g]at k;exact k R xs H K r hc
  .rw[g]at k;exact k R xs H K r hc
 .cases hc
section
variable {P : Program} {E : Abs.Cx} {F : In} {ρ ρ' : Rho} {H H' : Td Ob} {D : Td (Nat × AT)} {L : Env} {h h' : au} {g : Nat → Y Nat} {R : Type}
section
variable {xs:Td AT}{avs:Td AV}{x:AT}{f:Nat}{c:C}{t:Td Ob}
theorem cL.mono(e:Ev ρ H ρ' H')(h:cL ρ H xs avs):cL ρ' H' xs avs:=⟨h.1,λj h1 h2=>(h.2 j h1 h2).mono e⟩
theorem cL.fj:cL ρ H [] []:=⟨rfl,λj h=>F1⟩
theorem cL.cons{d:AV}(h:ATR ρ H x d)(k:cL ρ H xs avs):cL ρ H (x::xs) (d::avs):=
 ⟨by simp[k.1],fun j h1 h2=>by
  cases j with
  |zero=>exact h
  |succ j=>exact k.2 j Hd Hm⟩
theorem cL.head(h:cL ρ H (x::xs) avs):∃t d,avs=t::d/\ATR ρ H x t/\cL ρ H xs d:=by
 cases avs with
 |nil=>have:=h.1;simp at this
 |cons v us=>exact⟨v,us,rfl,h.2 0 A1 A1,R8,λj h1 h2=>h.2 (j+1) Hd Hm⟩
theorem cL.app{a b:Td AT}{x y:Td AV}(h:cL ρ H a x)(k:cL ρ H b y):cL ρ H (a++b) (x++y):=
 ⟨by simp [h.1,k.1],fun j h1 h2=>by
   by_cases t:j<a.length
   · have d:j<x.length:=by rw[<-h.1];exact t
     rw[P0 t,P0 d];exact h.2 j t d
   · have d:¬j<x.length:=by rw[<-h.1];exact t
     rw[P1 A0,P1 A0];have:=k.2 (j-a.length) I2 R0;have e:=h.1;simp only[e]at this ⊢;exact this⟩
theorem CRs.ats{cs:Td C}{vs:Td V}(h:CRs ρ H cs vs):cL ρ H (cs.map .one) (vs.map .one):=
 ⟨QQ,λj h1 h2=>by simp only[P5];exact .one (h.2 j Hd Hm)⟩
theorem CR.clo{caps:Td C}{v:V}(h:CR ρ H (.f f caps) v):∃vs,v= .clo (.func f) vs/\CRs ρ H caps vs:=by
 cases h with
 |fl h=>cases h
 |f hl d=>exact⟨_,rfl,hl,d⟩
def p8(avs d:Td AV):Prop:=avs.length=d.length/\∀(j:Nat)(h1:j<avs.length)(h2:j<d.length),∀ι I w u,Abs.AR ι I w avs[j] u->Abs.AR ι I w d[j] u
theorem p8.ars{d:Td AV}(h:p8 avs d){ι:Td Abs.Inf}{I:Nat->Prop}{w:World}{cs:Array Value}(k:Abs.ARs ι I w avs cs):Abs.ARs ι I w d cs:=
 ⟨by rw[k.1,h.1],fun j t=>by
  obtain⟨c,h1,h2⟩:=k.2 j (by rw[h.1];exact t);exact⟨c,h1,h.2 j _ t _ _ _ _ h2⟩⟩
theorem p8.fj:p8 [] []:=⟨rfl,λj h=>F1⟩
theorem p8.cons{a b:AV}{d:Td AV}(h:∀ι I w u,Abs.AR ι I w a u->Abs.AR ι I w b u)(k:p8 avs d):p8 (a::avs) (b::d):=
 ⟨by simp[k.1],fun j h1 h2=>by
  cases j with
  |zero=>exact h
  |succ j=>exact k.2 j Hd Hm⟩
theorem kJ:∀{xs ys:Td AT}{avs:Td AV},eH [] xs=some ys->cL ρ H xs avs->∃d,cL [] [] ys d/\Abs.AV.fZ d=true/\p8 avs d
 | [],ys,avs,hp,h=>by
  cases hp;have:=h.1;cases avs with
  |nil=>exact⟨[],.fj,rfl,.fj⟩
  |cons _ _=>simp at this
 | x::xs,ys,avs,hp,h=>by
  simp only[eH]at hp;split at hp
  .rename_i y j h1 h2;cases hp;obtain⟨E,avs,rfl,t,v⟩:=h.head;obtain⟨w,k1,A,B⟩:=uq h1 t;obtain⟨d,m1,C,D⟩:=kJ h2 v;exact⟨w::d,.cons k1 m1,by simp[Abs.AV.fZ,A,C],.cons B D⟩
  .cases hp
theorem HpR.ext(hp:HpR ρ H h)(hl:h.length<=h'.length)(hs:∀a,a<h.length->h'[a]? =h[a]?):HpR ρ H h':=
 HpR.mk' hp.len (λid x d=>by
  rcases hp.ob d with⟨a,z,k1,j,t⟩|k1|k1
  .exact .inl ⟨a,z,k1,by rw[hs a (hp.lt _ _ k1)];exact j,t⟩
  .exact .inr (.inl k1)
  .exact .inr (.inr k1)) hp.inj (λi a h1=>by have:=hp.lt i a h1;omega)
theorem Fr.ext(d:Fr F ρ H h)(hl:h.length<=h'.length)(hs:∀a,a<h.length->h'[a]? =h[a]?):Fr F ρ H h':=
 d.step (Ev.refl _ _) hl (λid _ h1 l=>.inl ⟨id,h1,l⟩) (λa h1 _=>hs a h1)
theorem HpR.fj:HpR [] [] h:=HpR.mk' rfl (λid x d=>QR) (λi j a h1 _ _ _=>by simp at h1) (λi a h1=>by simp at h1)
theorem tu{d:Td Ob}{c':C}(h:pZ d c=some c'):fL c'=true\/c'= .zs:=by
 unfold pZ at h;split at h
 all_goals first
  |(cases h;done)
  |(cases h;first|exact .inl rfl|exact .inr rfl)
  |(split at h<;>first|(cases h;done)|(cases h;exact .inl rfl))
theorem CR.up2{d:Rho}{v:V}(j:fL c=true\/c= .zs)(h:CR d t c v):CR ρ H c v:=by
 rcases j with j|rfl
 .exact h.up j
 .cases h with
  |fl h=>cases h
  |zs=>exact .zs
theorem qI{t:Td Ob}:∀{cs j:Td C},gb t cs=some j->∀d∈j,fL d=true\/d= .zs
 |[],j,h=>by cases h;simp
 | c::cs,j,h=>by
  simp only[gb]at h;split at h
  .rename_i x xs h1 h2;cases h;intro d hd;rcases List.mem_cons.1 hd with rfl|hd
   .exact tu h1
   .exact qI h2 d hd
  .cases h
theorem yA{v w:Td Ob}{d:Rho}{y:AT}{t:AV}(hp:jz v x=some y)(h:ATR d w y t):ATR ρ H y t:=by
 cases x with
 | one c=>
  simp only[jz,Pb]at hp;obtain⟨c',h1,rfl⟩:=hp;cases h with
  |one k=>exact .one (k.up2 (tu h1))
 | agg cs=>
  simp only[jz,Pb]at hp;obtain⟨A,h1,rfl⟩:=hp;cases h with
  |agg k=>exact .agg ⟨k.1,λj a b=>(k.2 j a b).up2 (qI h1 _ (gM a))⟩
 |tup _=>cases hp
theorem lJ{O:Orc}{f:Nat}:∀{j:Nat}{xs ys:Td AT}{H H':Td Ob}{ρ:Rho}{avs:Td AV},lh O f j xs H=some (ys,H')->HpR ρ H h->Fr F ρ H h->cL ρ H xs avs->∃ρ' d,Mat F h ρ H ρ' H'/\cL ρ' H' ys d/\p8 avs d
 | j,[],ys,H,H',ρ,avs,hc,hp,t,A=>by
  simp only[lh]at hc;cases hc;have:=A.1;cases avs with
  |nil=>exact⟨ρ,[],Mat.refl hp t,.fj,.fj⟩
  |cons _ _=>simp at this
 | j, x::xs,ys,H,H',ρ,avs,hc,hp,t,A=>by
  obtain⟨I,avs,rfl,B,C⟩:=A.head;unfold lh at hc;split at hc
  .split at hc
   .rename_i y v H2 h1 h2;cases hc;obtain⟨J,k1,N,K⟩:=uq h1 B;obtain⟨ρ',d,m1,D,L⟩:=lJ h2 hp t C;exact⟨ρ',J::d,m1,.cons (yA h1 k1) D,.cons K L⟩
   .cases hc
  .split at hc
   .rename_i T;split at hc
    .rename_i v H2 h2;cases hc;cases B with
     | one k=>
      obtain⟨rfl,M⟩:=k.nil';obtain⟨m1,D⟩:=vH M hp t;obtain⟨ρ',d,w,E,G⟩:=lJ h2 m1.heap m1.fr (C.mono m1.ev);exact⟨ρ',_::d,m1.trans w,.cons (.one (D.mono w.ev)) E,.cons (λ_ _ _ _ h=>h) G⟩
    .cases hc
   .split at hc
    .rename_i v H2 h2;cases hc;obtain⟨ρ',d,w,E,G⟩:=lJ h2 hp t C;exact⟨ρ',I::d,w,.cons (B.mono w.ev) E,.cons (λ_ _ _ _ h=>h) G⟩
    .cases hc
end
end
end Go.Proofs.YtkegnipofloejaaGreatDoor.Den
namespace Go.Proofs.YtkegnipofloejaaGreatDoor.Den
open Go.RowKit
open Abs (V AV Env au ar)
theorem fK:∀(d:Td Nat)(H xs:Td Ob),(cQ H d xs).length=H.length
 |[],H,xs=>by simp[cQ]
 |k::d,H,[]=>by simp[cQ]
 | k::d,H,x::xs=>by
  simp only[cQ];rw[fK d];split<;>simp
theorem gV:∀(d:Td Nat)(H xs:Td Ob){id:Nat},id∉d->(cQ H d xs)[id]? =H[id]?
 |[],H,xs,id,_=>by simp[cQ]
 |k::d,H,[],id,_=>by simp[cQ]
 | k::d,H,x::xs,id,j=>by
  simp only[cQ];rw[gV d _ xs (λh=>j S0)];split
  .grind
  .rfl
theorem ug:∀(d:Td Nat)(H xs:Td Ob){j id:Nat}{x o:Ob},iA d=true->d[j]? =some id->xs[j]? =some x->H[id]? =some o->(cQ H d xs)[id]? =some (o.bump x)
 |[],H,xs,j,id,x,o,_,h,_,_=>F1
 |k::d,H,[],j,id,x,o,_,_,t,_=>by simp at t
 | k::d,H,y::ys,j,id,x,o,v,h,t,ho=>by
  have w:=v;simp only[iA,bA,Pj]at v;simp only[cQ];cases j with
  | zero=>
   simp at h t;subst h t;have hk:k∉d:=λhm=>G1
   rw[gV d _ ys hk,ho];simp only;exact sS (gI.1 ho).1
  | succ j=>
   have A:k≠id:=λe=>G1
   refine ug d _ ys v.2 Ro QD ?_;split
   .grind
   .exact ho
theorem EO{x y:Ob}(h:fG x y):evo x (x.bump y):=by
 rcases h with rfl|⟨T,n,xs,n',d,rfl,rfl,h⟩|⟨cs,v,rfl,rfl⟩|⟨T,a,b,rfl,rfl⟩|⟨T,xss,ho,rfl,w,j,t,rfl,h⟩
 .exact Ta
 .exact .inr (.inl ⟨T,n,xs,n+1,d,rfl,rfl,h,A0,λe=>A0⟩)
 .exact SS
 .exact SL
 .exact .inr (.inr (.inr (.inr ⟨_,_,_,rfl,_,_,_,rfl,h⟩)))
theorem ut(o y:Ob):(o.bump y).dead=y.dead:=by cases y<;>cases o<;>rfl
theorem tw(o y:Ob):(y= .aQ->o.bump y= .aQ)/\∃n,∀T m xs,y= .row T m xs->o.bump y= .row T n xs:=by
 refine⟨λe=>Rd,?_⟩;cases o with
 |row T n xs=>exact⟨n+1,λT m xs e=>Rd⟩
 |box cs=>exact⟨0,λT m xs e=>Rd⟩
 |map T kvs=>exact⟨0,λT m xs e=>Rd⟩
 |aQ=>exact⟨0,λT m xs e=>Rd⟩
 |rows T xss ho=>exact⟨0,λT m xs e=>Rd⟩
theorem IQ{ρ:Rho}{H:Td Ob}(o:Ob){y:Ob}{z:Y Abs.Ob}(h:obR ρ H y z):obR ρ H (o.bump y) z:=by
 cases y with
 |row T n xs=>cases o<;>exact h
 |box cs=>exact h
 |map T kvs=>exact h
 |aQ=>exact h
 |rows T xss ho=>exact h
section
variable {P : Program} {E : Abs.Cx} {F : In} {ρ ρ' : Rho} {H : Td Ob} {D : Td (Nat × AT)} {L : Env} {h h' : au} {R : Type}
theorem tL{c:C}(h:iX c=true):fL c=true:=by cases c<;>first|rfl|cases h
theorem ATR.upS{t:Rho}{y:Td Ob}{v:AT}{w:AV}(h:ATR t y v w)(d:v.iX=true):ATR ρ H v w:=by
 induction h with
 |one k=>exact .one (k.up (tL (by simpa [AT.iX]using d)))
 | @agg cs vs k=>
  have d:cs.all iX=true:=by simpa [AT.iX]using d
  exact .agg ⟨k.1,λj h1 h2=>(k.2 j h1 h2).up (tL (aT.1 d _ (gM h1)))⟩
 | @tup xs ys hl B A=>
  have d:=pC (by simpa [AT.iX]using d:AT.iX.scals xs=true);exact .tup hl (λj h1 h2=>A j h1 h2 (d _ (gM h1)))
theorem Bz{aH:Td Nat}{Hc w d:Td Ob}(hp:HpR ρ H h)(hf:Fr F ρ H h)(hn:iA aH=true)(hk:mX aH H=some Hc)(G:HpR ρ' w h')(E:Fr ⟨h,gr ρ aH,Hc⟩ ρ' w h')
  (hl:aH.length<=w.length) (ho:obs (back aH H.length) w=some d):
  HpR (ρ++ρ'.drop aH.length) (cQ H aH d++d.drop aH.length) h'/\Ev ρ H (ρ++ρ'.drop aH.length) (cQ H aH d++d.drop aH.length)/\Fr F (ρ++ρ'.drop aH.length) (cQ H aH d++d.drop aH.length) h'/\
   tW (back aH H.length) ρ' w (ρ++ρ'.drop aH.length) (cQ H aH d++d.drop aH.length):=by
 obtain⟨_,_,hρ⟩:=mC hp hn hk;obtain⟨k1,k2⟩:=jy hk;obtain⟨b1,b2⟩:=n8 ho;have bF:=hp.len;have hlen':=G.len;have lo:∀{id:Nat},id<H.length->(cQ H aH d++d.drop aH.length)[id]? =(cQ H aH d)[id]? :=λhid=>aL (by rw[fK];exact hid);have hi:∀(i:Nat),(cQ H aH d++d.drop aH.length)[H.length+i]? =d[aH.length+i]? :=λi=>by
  rw[aR (by rw[fK];omega),fK,Qe]
  congr 1;omega
 have R:∀{id:Nat},id<H.length->(ρ++ρ'.drop aH.length)[id]? =ρ[id]? :=λhid=>aL A0;have J:∀(i:Nat),(ρ++ρ'.drop aH.length)[H.length+i]? =ρ'[aH.length+i]? :=λi=>G1
 -- an object that was O over
 have key:∀(j id:Nat),aH[j]? =some id->∃I y A,H[id]? =some I/\w[j]? =some y/\y.mv (back aH H.length)=some A/\(cQ H aH d)[id]? =some (I.bump A)/\evo I (I.bump A)/\ρ'[j]? =ρ[id]? :=λj id D=>by
  obtain⟨I,y0,c1,c2,c3⟩:=k2 j id D;obtain⟨y,d1,d2⟩:=E.ob j _ c3;obtain⟨A,e1,e2⟩:=b2 j y d1;have hidl:id<ρ.length:=by rw[bF];exact(gI.1 c1).1
  have hz:=O0 hidl;refine⟨I,y,A,c1,d1,e2,ug aH H d hn D e1 c1,EO ((((ip c2).2.2).trans (kN y0).2.2).trans (d2.trans (ip e2).2.2)),?_⟩;rw[hz];refine E.rho j _ ?_;show (gr ρ aH)[j]? =_;rw[hρ j id D,hz]
 have P:Ev ρ H (ρ++ρ'.drop aH.length) (cQ H aH d++d.drop aH.length):=by
  refine⟨λid x t=> ?_,λid x t=> ?_⟩
  .grind
  .rw[lo (gI.1 t).1];by_cases hm:id∈aH
   .obtain⟨j,D⟩:=Qo hm;obtain⟨I,y,A,c1,_,_,c4,c5,_⟩:=key j id D;rw[t]at c1;cases c1;exact⟨_,c4,c5⟩
   .rw[gV aH H d hm];exact⟨x,t,evo.refl x⟩
 have U:tW (back aH H.length) ρ' w (ρ++ρ'.drop aH.length) (cQ H aH d++d.drop aH.length):=λid j hg=>by
  unfold back at hg;split at hg
  .rename_i v;obtain⟨I,y,A,c1,c2,c3,c4,c5,c6⟩:=key id j hg;have D:=(gI.1 c1).1;refine⟨λx t=>by rw[R D,<-c6];exact t,λx t=> ?_⟩;rw[c2]at t;cases t;obtain⟨s1,n,s2⟩:=tw I A;obtain⟨t1,t2,_⟩:=ip c3;exact⟨_,n,by rw[lo D];exact c4,λe=>s1 (t1 e),λT m xs e=>s2 T m xs (t2 T m xs e),λT xss ho e=>by rw[n9 c3 T xss ho e];rfl⟩
  .rename_i hge;have hge:aH.length<=id:=by simpa [Ps]using hge
   cases hg;have e:aH.length+(id-aH.length)=id:=A0
   refine⟨λx t=>by rw[J,e];exact t,λx t=> ?_⟩;obtain⟨A,e1,e2⟩:=b2 id x t;obtain⟨t1,t2,_⟩:=ip e2;cases x with
   |row T m xs=>exact⟨A,m,Rq,λe=>E0,λT m xs e=>by cases e;exact t2 _ _ _ rfl,λT xss ho e=>E0⟩
   |aQ=>exact SM
   |box cs=>exact SM
   |map T kvs=>exact SM
   |rows T xss ho=>exact⟨A,0,Rq,t1,λT m xs e=>E0,n9 e2⟩
 have K:∀{id:Nat},id<H.length->live (cQ H aH d++d.drop aH.length) id->live H id:=λhid l=>P.lv hid l;have B:∀(id a:Nat),(ρ++ρ'.drop aH.length)[id]? =some (some a)->(id<H.length/\ρ[id]? =some (some a))\/∃i,id=H.length+i/\ρ'[aH.length+i]? =some (some a):=λid a S=>by
  by_cases hid:id<H.length
  .grind
  .obtain⟨i,rfl⟩:∃i,id=H.length+i:=⟨id-H.length,A0⟩;rw[J]at S;exact .inr ⟨i,rfl,S⟩
 have L:∀{i:Nat},live (cQ H aH d++d.drop aH.length) (H.length+i)->live w (aH.length+i):=λ{i} ⟨z,V,z2⟩=>by
  rw[hi]at V;have v:=(gI.1 V).1;rw[b1]at v;have e:=O0 v;obtain⟨A,e1,e2⟩:=b2 _ _ e;rw[e1]at V;cases V;exact⟨_,e,by rw[<-iP e2];exact z2⟩
 -- a place that was O over
 have C:∀(j a:Nat),(gr ρ aH)[j]? =some (some a)->∃id,aH[j]? =some id/\ρ[id]? =some (some a):=λj a D=>by
  have v:=(gI.1 D).1;simp[gr]at v;have e:=O0 v;rw[hρ j _ e]at D;exact⟨_,e,D⟩
 have M:∀(a:Nat),a<h.length->(∀(id:Nat),ρ[id]? =some (some a)->live H id->id∉aH)->h'[a]? =h[a]? :=λa S hid=>E.same a S λj D hlj=>by
  obtain⟨id,e,D⟩:=C j a D;exact hid _ D (mE hk e hlj) (mG e)
 have clash:∀(i p a:Nat),i<H.length->ρ[i]? =some (some a)->live (cQ H aH d++d.drop aH.length) i->ρ'[aH.length+p]? =some (some a)->live w (aH.length+p)->False:=λi p a hi1 W hl1 hp1 hp2=>by
  obtain⟨j0,q1,q2⟩:=E.old _ a hp1 hp2 (hp.lt _ _ W);obtain⟨X,e,q3⟩:=C j0 a q1;have hid0:=hp.inj _ _ _ q3 W (mE hk e q2) (K hi1 hl1);subst hid0;obtain⟨I,y,A,c1,c2,c3,c4,c5,c6⟩:=key j0 X e;have hl2:live w j0:=by
   refine⟨y,c2,?_⟩;obtain⟨z,V,z2⟩:=hl1;rw[lo hi1,c4]at V;cases V;rw[<-iP c3,<-ut I A];exact z2
  have:=G.inj _ _ _ (c6.trans W) hp1 hl2 hp2;have hj0:=(gI.1 e).1;omega
 refine⟨HpR.mk' ?_ (λid x t=> ?_) (λi j a h1 h2 l1 l2=> ?_) (λi a h1=> ?_),P,hf.step P E.len (λid a S hl=> ?_) (λa S hid=>M a S λid hid' hl=>absurd hl (hid id hid')),U⟩
 .simp[fK];omega
 .by_cases hid:id<H.length
  .rw [lo hid]at t;rw[R hid];by_cases hm:id∈aH
   .obtain⟨j,D⟩:=Qo hm;obtain⟨I,y,A,c1,c2,c3,c4,c5,c6⟩:=key j id D;rw[c4]at t;cases t;rcases G.ob c2 with⟨a,z,m1,Y,Q⟩|⟨m1,T,n,rfl,Q⟩|hd
    .exact .inl ⟨a,z,by rw[<-c6];exact m1,Y,IQ _ (yo U Q c3)⟩
    .cases c3;obtain⟨_,n',s2⟩:=tw I (.row T n []);exact .inr (.inl ⟨by rw[<-c6];exact m1,T,n',s2 _ _ _ rfl,Q⟩)
    .exact .inr (.inr (by rw[ut,iP c3];exact hd))
   .rw[gV aH H d hm]at t;by_cases Z:x.dead=true
    .grind
    have Z:x.dead=false:=by simpa using Z
    rcases hp.ob t with⟨a,z,m1,Y,Q⟩|m1|m1
    .refine .inl ⟨a,z,m1,?_,Q.mono P⟩;rw[M a (hp.lt _ _ m1) (λid' h' hl'=>by rw[hp.inj _ _ _ h' m1 hl' ⟨_,t,Z⟩];exact hm)];exact Y
    .grind
    .grind
  .obtain⟨i,rfl⟩:∃i,id=H.length+i:=⟨id-H.length,A0⟩;rw[hi]at t;rw[J];have v:=(gI.1 t).1;rw[b1]at v;have e:=O0 v;obtain⟨A,e1,e2⟩:=b2 _ _ e;rw[e1]at t;cases t;rcases G.ob e with⟨a,z,m1,Y,Q⟩|⟨m1,T,n,Y,Q⟩|m1
   .exact .inl ⟨a,z,m1,Y,yo U Q e2⟩
   .rw[Y]at e2;cases e2;exact .inr (.inl ⟨m1,T,n,rfl,Q⟩)
   .exact .inr (.inr (by rw[iP e2];exact m1))
 .rcases B i a h1 with⟨i1,N⟩|⟨p,rfl,N⟩<;>rcases B j a h2 with⟨j1,j2⟩|⟨q,rfl,j2⟩
  .exact hp.inj _ _ _ N j2 (K i1 l1) (K j1 l2)
  .grind
  .grind
  .have:=G.inj _ _ _ N j2 (L l1) (L l2);omega
 .rcases B i a h1 with⟨i1,N⟩|⟨p,rfl,N⟩
  .have:=hp.lt _ _ N;have:=E.len;simp only at this;omega
  .exact G.lt _ _ N
 .rcases B id a S with⟨i1,N⟩|⟨p,rfl,N⟩
  .grind
  .by_cases v:a<h.length
   .obtain⟨j0,q1,q2⟩:=E.old _ a N (L hl) v;obtain⟨X,e,q3⟩:=C j0 a q1;exact .inl ⟨X,q3,mE hk e q2⟩
   .omega
section
variable {d f : Nat} {x : Operand} {ae : Td Operand} {tys : Array TypeId} {ty : TypeId} {pos : String} {af : Array Edge} {gd : Y (Nat × Bool)} {caps : Td C} {xs ys : Td AT} {v : AT} {H' : Td Ob}
theorem DG{tb:Nat->Y TI}(d:bQ P tb){t:Nat}{x:AT}{j:AV}(h:ATR ρ H x j):ATR ρ H (Ay tb t x) j:=by
 unfold Ay;split
 .split
  .rename_i T w;obtain⟨y,h1,h2⟩:=Option.bind_eq_some_iff.1 w;obtain⟨i,G⟩:=d.get h1;obtain⟨A,B,C,g1,D,g3,g4,_⟩:=G.elem T h2;cases h with
   | one k=>
    have:∀v,CR ρ H .zs v->v= .lit (.slice none 0 0):=λv k=>by cases k with|fl h=>cases h|zs=>rfl
    rw[this _ k];exact .one (.nil g4)
  .exact h
 .exact h
theorem sP{tb:Nat->Y TI}(d:bQ P tb):∀{j:Td Nat}{xs:Td AT}{avs:Td AV},cL ρ H xs avs->cL ρ H (dN tb j xs) avs
 |[],xs,avs,h=>by unfold dN;exact h
 |t::j,[],avs,h=>by unfold dN;exact h
 | t::j,x::xs,avs,h=>by
  obtain⟨w,v,rfl,h1,h2⟩:=h.head;unfold dN;exact .cons (DG d h1) (sP d h2)
theorem rW{tb:Nat->Y TI}(d:bQ P tb)(j:ev D x=some (.one (.f f caps)))(h:evs D ae=some xs)(hs:cj ρ H D L):∃vs avs,Abs.ev L x=some (.one (.clo (.func f) vs))/\Abs.evs L ae=some avs/\cL ρ H (dN tb tys.toList xs++caps.map .one) (avs++vs.map .one):=by
 obtain⟨y,h1,h2⟩:=bf hs j;obtain⟨u,rfl,t⟩:=h2.bi;obtain⟨vs,rfl,h4⟩:=t.clo;obtain⟨avs,v,w⟩:=AF hs h;exact⟨vs,avs,h1,v,cL.app (sP d w) h4.ats⟩
theorem xR{tb:Nat->Y TI}(A:bQ P tb)(K:d<E.n)(M:ev D x=some (.one (.f f caps)))(B:evs D ae=some xs)(N:eH H (dN tb tys.toList xs++caps.map .one)=some ys)(t:v.iX=true)(h2:CFn P f ys [] v H'):eS P ⟨some d,.call ⟨.value x,ae.toArray,tys⟩,ty,pos,af,gd⟩ E F D H v H:=λρ L h hs hp O=>by
 obtain⟨vs,avs,e1,e2,e3⟩:=rW (tys:=tys) A M B hs;obtain⟨C,k1,Q,S,G,R⟩:=uE (E:=E) (L:=L) hp N e3.1 e3.2;refine Abs.A8 e1 e2 K (h2 [] [] C HpR.fj ⟨k1,Q⟩) (λr h' ⟨ρ',m1,_⟩=>JK m1 t) (λι I a w r cs y=>⟨by rw[y.1,G],λj J=> ?_⟩) (λr h' ⟨ρ',m1,_⟩=>⟨ρ,r,rfl,m1.upS t,hp,Ev.refl _ _,O⟩);obtain⟨c,c1,c2⟩:=y.2 j (by rw[G];exact J);exact⟨c,c1,R j _ J ι I a w r c c2⟩
theorem xJ{tb:Nat->Y TI}(t:bQ P tb)(J:d<E.n)(K:ev D x=some (.one (.f f caps)))(y:evs D ae=some xs)(M:eH [] (dN tb tys.toList xs++caps.map .one)=some ys)(A:v.flat=true)(h2:CFn P f ys [] v H'):eS P ⟨some d,.call ⟨.value x,ae.toArray,tys⟩,ty,pos,af,gd⟩ E F D H v H:=λρ L h hs hp N=>by
 obtain⟨vs,avs,e1,e2,e3⟩:=rW (tys:=tys) t K y hs;obtain⟨B,k1,R,O⟩:=kJ M e3;refine Abs.ph e1 e2 J (h2 [] h B HpR.fj k1) (λι I w cs C=>O.ars C) (λr h' ⟨ρ',m1,S,G⟩=> ?_);have j:∀a,a<h.length->h'[a]? =h[a]? :=λa Q=>G.same a Q (λid=>A1);exact⟨ρ,r,rfl,m1.up A,hp.ext G.len j,Ev.refl _ _,N.ext G.len j⟩
end
theorem Oo{id s:Nat}{es:Td (Td V)}{ι:Td Abs.Inf}{I h:Nat->Prop}{w:World}(hk:Abs.cu I h w w)(B:∀(c:C)(v:V)(u:Value),CR ρ H c v->Abs.VR I w ι v u->Abs.VR h w ι (trV id s es c v) u){x:AT}{t:AV}{u:Value}(D:ATR ρ H x t)(y:Abs.AR ι I w t u):Abs.AR ι h w (trA id s es x t) u:=by
 cases D with
 |one hc=>cases y with|one E=>exact .one (B _ _ _ hc E)
 | @agg cs vs hc=>
  cases y with
  | agg hl A F=>
   have bF:=hc.1;refine .agg (by simp[hl,bF]) (λj d=>A j RF) (λj d=> ?_);simp only[PR];exact B _ _ _ (hc.2 j RF RF) (F j RF)
 |tup hl G=>exact y.aH (Abs.bj.refl _) hk
theorem NQ{id n:Nat}{T:Ty}{ys:Td (I T)}{xs:Td AT}{avs:Td AV}(d:H[id]? =some (.row T n ys))(hp:HpR ρ H h)(O:Fr F ρ H h)(B:cL ρ H xs avs):
  ∃ h1 D,HpR ρ (H.set id .aQ) h1/\Fr F ρ (H.set id .aQ) h1/\cL ρ (H.set id .aQ) (xs.map (AT.fz id T ys)) D/\
   ∀(E:Abs.Cx)(L:Env)(ι:Td Abs.Inf)(I:Nat->Prop)(a:Act)(w:World),Abs.Rel E L h ι I a w->∃y,Abs.Rel E L h1 ι y a w/\∀cs,Abs.ARs ι I w avs cs->Abs.ARs ι y w D cs:=by
 have key:∀(es:Td (Td V)),FR (.l T ys) (.imm (szT T) es)->cL ρ (H.set id .aQ) (xs.map (AT.fz id T ys)) (List.zipWith (trA id (szT T) es) xs avs):=λes Q=>
  ⟨by simp[B.1],fun j h1 h2=>by
   simp only[P5,PR];exact Id d Q (B.2 j Hd (by simp at h1;have:=B.1;omega))⟩
 have t:∀(es:Td (Td V))(ι:Td Abs.Inf)(I y:Nat->Prop)(w:World),Abs.cu I y w w->(∀(c:C)(v:V)(u:Value),CR ρ H c v->Abs.VR I w ι v u->Abs.VR y w ι (trV id (szT T) es c v) u)->∀cs,Abs.ARs ι I w avs cs->Abs.ARs ι y w (List.zipWith (trA id (szT T) es) xs avs) cs:=λes ι I y w hk A cs hc=>
  ⟨by simp[hc.1,B.1],fun j P=>by
   have M:j<xs.length:=by simp at P;omega
   have G:j<avs.length:=by simp at P;omega
   obtain⟨c,c1,c2⟩:=hc.2 j G;refine⟨c,c1,?_⟩;simp only[PR];exact Oo hk A (B.2 j M G) c2⟩
 have other:∀{es:Td (Td V)}{c:C}{v:V},c≠.o id->trV id (szT T) es c v=v:=λ{es c v} e=>by
  unfold trV;split
  .grind
  .rfl
 rcases hp.row id n T ys d with⟨a,es,h1,h2,J⟩|⟨h1,rfl,J⟩
 .refine⟨h.set a none,_,hp.set h1 d A1 (evo.kf _) trivial,O.set h1 d A1 (evo.kf _),key es J,λE L ι I N w r=> ?_⟩;obtain⟨inf,K,_,_⟩:=r.row h2;have hk:Abs.cu I (λb=>I b\/b=inf.block) w w:=⟨λ_ h=>.inl h,λ_ _=>rfl⟩;refine⟨_,r.freeze h2 K,t es ι I _ w hk λc v u hc A=> ?_⟩;by_cases e:c= .o id
  .subst e;simp only[trV,if_true];rcases hc.own d with⟨R,rfl,h4⟩|⟨rfl,h4⟩
   .rw[h1]at h4;cases h4;have hl:=J.frl.len;have:=Abs.VR.fz r h2 K J.fZ A (Abs.pe (by simp[Abs.V.fits,hl]));simpa [Abs.V.fz,<-hl]using this
   .grind
  .rw[other e];exact A.aH (Abs.bj.refl _) hk
 .refine⟨h,_,hp.aQ d,O.aQ d,key [] (.fj J),λE L ι I N w r=>⟨I,r,t [] ι I I w (Abs.cu.refl _ _) λc v u hc A=> ?_⟩⟩;by_cases e:c= .o id
  .subst e;simp only[trV,if_true];rcases hc.own d with⟨R,rfl,h4⟩|⟨rfl,h4⟩
   .grind
   .cases A;exact .eE (P6 _)
  .grind
theorem pm:∀{ids:Td Nat}{H:Td Ob}{h:au}{xs:Td AT}{avs:Td AV},HpR ρ H h->Fr F ρ H h->cL ρ H xs avs->
  ∃ h1 d,HpR ρ (gJ ids xs H).2 h1/\Fr F ρ (gJ ids xs H).2 h1/\Ev ρ H ρ (gJ ids xs H).2/\cL ρ (gJ ids xs H).2 (gJ ids xs H).1 d/\
   ∀(E:Abs.Cx)(L:Env)(ι:Td Abs.Inf)(I:Nat->Prop)(a:Act)(w:World),Abs.Rel E L h ι I a w->∃j,Abs.Rel E L h1 ι j a w/\∀cs,Abs.ARs ι I w avs cs->Abs.ARs ι j w d cs
 |[],H,h,xs,avs,hp,t,v=>⟨h,avs,hp,t,Ev.refl _ _,v,λE L ι I a w r=>⟨I,r,λ_ k=>k⟩⟩
 | id::ids,H,h,xs,avs,hp,t,v=>by
  unfold gJ;split
  .rename_i T n ys A;obtain⟨h1,d,B,C,a3,a4⟩:=NQ A hp t v;obtain⟨h2,y,b1,b2,b3,b4,b5⟩:=pm (ids:=ids) B C a3;refine⟨h2,y,b1,b2,(Ev.set A (evo.kf _)).trans b3,b4,λE L ι I a w r=> ?_⟩;obtain⟨j,D,k1⟩:=a4 E L ι I a w r;obtain⟨G,J,K⟩:=b5 E L ι j a w D;exact⟨G,J,λcs hc=>K cs (k1 cs hc)⟩
  .exact pm hp t v
section
variable {d f : Nat} {x : Operand} {ae : Td Operand} {tys : Array TypeId} {ty : TypeId} {pos : String} {af : Array Edge} {gd : Y (Nat × Bool)} {caps : Td C} {xs ys : Td AT} {v : AT} {H' : Td Ob}
theorem Gp{tb:Nat->Y TI}(t:bQ P tb){ids:Td Nat}(J:d<E.n)(K:ev D x=some (.one (.f f caps)))(y:evs D ae=some xs)(M:eH [] (gJ ids (dN tb tys.toList xs++caps.map .one) H).1=some ys)(A:v.flat=true)(h2:CFn P f ys [] v H'):eS P ⟨some d,.call ⟨.value x,ae.toArray,tys⟩,ty,pos,af,gd⟩ E F D H v (gJ ids (dN tb tys.toList xs++caps.map .one) H).2:=λρ L h hs hp N=>by
 obtain⟨vs,avs,e1,e2,e3⟩:=rW (tys:=tys) t K y hs;obtain⟨h1,O,Q,R,a3,a4,a5⟩:=pm (ids:=ids) hp N e3;obtain⟨B,k1,W,S⟩:=kJ M a4;refine Abs.Hv (h1:=h1) e1 e2 J (h2 [] h1 B HpR.fj k1) (λL ι I a w r=> ?_) (λr h' ⟨ρ',m1,X,C⟩=> ?_)
 .obtain⟨T,U,q⟩:=a5 E L ι I a w r;exact⟨T,U,λcs G=>S.ars (q cs G)⟩
 .have j:∀a,a<h1.length->h'[a]? =h1[a]? :=λa V=>C.same a V (λid=>A1);exact⟨ρ,r,rfl,m1.up A,Q.ext C.len j,a3,R.ext C.len j⟩
end
def Unt(ids:Td Nat)(H H':Td Ob):Prop:=∀(id:Nat)(x:Ob),H[id]? =some x->id∉ids->H'[id]? =some x
theorem nE:∀{ids:Td Nat}{xs:Td AT}{H:Td Ob},Unt ids H (gJ ids xs H).2
 |[],xs,H=>λ_ _ h _=>h
 | id::ids,xs,H=>fun j z v w=>by
  unfold gJ;have t:j≠id:=λe=>w Rh;have d:j∉ids:=λe=>w Rh;split
  .exact nE j z (by rw[sN (λe=>t e.symm)];exact v) d
  .exact nE j z v d
theorem Unt.refl(ids:Td Nat)(H:Td Ob):Unt ids H H:=λ_ _ h _=>h
theorem j8{O:Orc}{f:Nat}:∀{j:Nat}{xs ys:Td AT}{H H':Td Ob},lh O f j xs H=some (ys,H')->∃t,H'=H++t
 |j,[],ys,H,H',hc=>by simp only[lh]at hc;cases hc;exact⟨[],A1⟩
 | j, x::xs,ys,H,H',hc=>by
  unfold lh at hc;split at hc
  .split at hc
   .rename_i h2;cases hc;exact j8 h2
   .cases hc
  .split at hc
   .split at hc
    .rename_i h2;cases hc;obtain⟨t,rfl⟩:=j8 h2;exact⟨_,O5 _ _ _⟩
    .cases hc
   .split at hc
    .rename_i h2;cases hc;exact j8 h2
    .cases hc
theorem Ii{tb:Nat->Y TI}(B:bQ P tb){O:Orc}(V:iJ P O){o:Oper}{d:Nat}(hd:o.dst=some d)(W:d<E.n){K:AT->Td Ob->Y R}{r:R}(hc:xn tb O o D H K=some r):∃v H',K v H'=some r/\(∀F:In,eS P o E F D H v H')/\Unt (eK tb O o D H) H H':=by
 obtain⟨dst,op,ty,pos,af,gd⟩:=o;simp only at hd;subst hd;unfold xn at hc;simp only at hc;split at hc
 .rename_i x ae tys;split at hc
  .rename_i f caps xs J y;obtain⟨ae,rfl⟩:∃l:Td Operand,ae=l.toArray:=⟨ae.toList,A1⟩;simp only at y;unfold Gy at hc;split at hc
   .split at hc
    .rename_i ys M;obtain⟨v,H',h1,h2⟩:=(V _ _ _ _ _ _ hc).1 (by rw[‹O.mode f=0›];rfl);split at h1
     .rename_i X;exact⟨v,H,h1,λ_=>xR B W J y M X h2,.refl _ _⟩
     .cases h1
    .cases hc
   .rename_i A;split at hc
    .rename_i ys M;obtain⟨v,H',h1,h2⟩:=(V _ _ _ _ _ _ hc).1 RM;split at h1
     .rename_i C;exact⟨v,H,h1,λ_=>xJ B W J y M C h2,.refl _ _⟩
     .cases h1
    .split at hc
     .cases hc
     .rename_i id ids N;simp only at hc;split at hc
      .rename_i ys M;obtain⟨v,H',h1,h2⟩:=(V _ _ _ _ _ _ hc).1 RM;split at h1
       .rename_i C;refine⟨v,_,h1,λ_=>Gp B W J y M C h2,?_⟩;have e:eK tb O ⟨some d,.call ⟨.value x,ae.toArray,tys⟩,ty,pos,af,gd⟩ D H=id::ids:=by
         simp only[eK,J,y,A,N]
        rw[e];exact nE
       .cases h1
      .cases hc
   .rename_i A;split at hc
    .rename_i ys H1 G;simp only at hc;split at hc
     .rename_i Hc zs Q S Z;obtain⟨v,Hc',h1,h2⟩:=(V _ _ _ _ _ _ hc).1 (by rw[‹O.mode f=2›];rfl);split at h1
      .rename_i Hb u hb1 hb2 hb3;refine⟨u,_,h1,λF ρ L h hs hp hf=> ?_,λid x T U=> ?_⟩
       case refine_2=>
        simp only[eK,J,y,A,G]at U;obtain⟨t,rfl⟩:=j8 G;have hlt:=(gI.1 T).1;rw[aL (by rw[fK];simp;omega),gV _ _ _ U,aL hlt];exact T
       obtain⟨vs,avs,e1,e2,e3⟩:=rW (tys:=tys) B J y hs;obtain⟨ρ1,bvs,m1,m2,m3⟩:=lJ G hp hf e3;obtain⟨c1,c2,c3⟩:=mC m1.heap Q S;obtain⟨d1,d2⟩:=lI Z;refine Abs.ph e1 e2 W (h2 _ h bvs c1 ⟨by rw[d1];exact m2.1,λj j1 j2=>pv c2 (m2.2 j A0 j2) (d2 j A0 j1)⟩) (λι I w cs hcs=>m3.ars hcs) (λr h' ⟨ρ',n1,n2,n3⟩=> ?_);obtain⟨p1,p2,p3,p4⟩:=Bz m1.heap m1.fr Q S n2 n3 (O1 hb1) hb2;exact⟨_,r,rfl,pv p4 n1 hb3,p1,m1.ev.trans p2,p3⟩
      .cases h1
     .cases hc
    .cases hc
   .cases hc
  .cases hc
 .cases hc
def Le(d H:Td Ob):Prop:=∀(id:Nat)(x:Ob),d[id]? =some x->x≠.aQ->H[id]? =some x
theorem Le.refl(H:Td Ob):Le H H:=λ_ _ h _=>h
theorem Le.unt{d H H':Td Ob}{ids:Td Nat}(h:Le d H)(u:Unt ids H H')(hs:ids.all (Au d)=true):Le d H':=λid x j t=>by
 refine u id x (h id x j t) λhm=> ?_;have:=aT.1 hs id hm;unfold Au at this;rw[j]at this;cases x<;>first|exact t rfl|cases this
theorem Le.trans{A B H:Td Ob}(h:Le A B)(k:Le B H):Le A H:=λid x j d=>k id x (h id x j d) d
theorem yx(ids:Td Nat)(H:Td Ob):Le (yw ids H) H:=λid x d h=>by
 unfold yw at d;rw[PK]at d;obtain⟨o,h1,h2⟩:=Option.map_eq_some_iff.1 d;split at h2
 .grind
 .rw[h1,h2]
theorem Le.hide{j H H':Td Ob}{ids:Td Nat}(h:Le j H)(u:Unt ids H H'):Le (yw ids j) H':=λid x d t=>by
 refine u id x (h id x (yx ids j id x d t) t) λhm=>t ?_;unfold yw at d;rw[PK]at d;obtain⟨o,_,h2⟩:=Option.map_eq_some_iff.1 d;rw[mt (by simpa using hm)]at h2;exact h2.symm
theorem xW(vis:Td Nat)(H:Td Ob):Le (fe vis H) H:=λid x d h=>by
 unfold fe at d;rw[PK]at d;obtain⟨o,h1,h2⟩:=Option.map_eq_some_iff.1 d;split at h2
 .rw[h1,h2]
 .grind
theorem vq{d H:Td Ob}(hl:Le d H){c c':C}(h:pZ d c=some c'):pZ H c=some c':=by
 unfold pZ at h ⊢;split at h
 case h_3=>
  split at h
  .rename_i j;rw[hl _ _ j A1];exact h
  .cases h
 all_goals exact h
theorem rX{j H:Td Ob}(hl:Le j H):∀{cs d:Td C},gb j cs=some d->gb H cs=some d
 |[],d,h=>h
 | c::cs,d,h=>by
  simp only[gb]at h ⊢;split at h
  .rename_i x xs h1 h2;rw[vq hl h1,rX hl h2];exact h
  .cases h
theorem zE{d H:Td Ob}(hl:Le d H){x y:AT}(h:jz d x=some y):jz H x=some y:=by
 cases x with
 | one c=>
  simp only[jz,Pb]at h ⊢;obtain⟨c',h1,rfl⟩:=h;exact⟨c',vq hl h1,rfl⟩
 | agg cs=>
  simp only[jz,Pb]at h ⊢;obtain⟨c',h1,rfl⟩:=h;exact⟨c',rX hl h1,rfl⟩
 |tup _=>cases h
theorem qH{d H:Td Ob}(hl:Le d H):∀{xs ys:Td AT},eH d xs=some ys->eH H xs=some ys
 |[],ys,h=>h
 | x::xs,ys,h=>by
  simp only[eH]at h ⊢;split at h
  .rename_i y ys h1 h2;rw[zE hl h1,qH hl h2];exact h
  .cases h
theorem IE{tb:Nat->Y TI}(j:bQ P tb){O:Orc}(C:iJ P O){o:Oper}{d:Nat}(hd:o.dst=some d)(G:d<E.n)(hk:rL tb O o D=true){K:AT->Td Ob->Y R}{r:R}(hc:xn tb O o D H K=some r):∃v,K v H=some r/\∀H',Le H H'->eS P o E F D H' v H':=by
 obtain⟨dst,op,ty,pos,af,gd⟩:=o;simp only at hd;subst hd;unfold xn at hc;simp only at hc;split at hc
 .rename_i x ae tys;split at hc
  .rename_i f caps xs t h;obtain⟨ae,rfl⟩:∃l:Td Operand,ae=l.toArray:=⟨ae.toList,A1⟩;simp only at h;simp only[rL,t,h]at hk;unfold Gy at hc;split at hc
   .split at hc
    .rename_i ys w;obtain⟨v,H',h1,h2⟩:=(C _ _ _ _ _ _ hc).1 (by rw[‹O.mode f=0›];rfl);split at h1
     .rename_i y;exact⟨v,h1,λH2 hl=>xR j G t h (qH hl w) y h2⟩
     .cases h1
    .cases hc
   .rename_i A;split at hc
    .rename_i ys w;obtain⟨v,H',h1,h2⟩:=(C _ _ _ _ _ _ hc).1 RM;split at h1
     .rename_i B;exact⟨v,h1,λH2 _=>xJ j G t h w B h2⟩
     .cases h1
    .grind
   .grind
   .cases hc
  .cases hc
 .cases hc
end
end Go.Proofs.YtkegnipofloejaaGreatDoor.Den
namespace Go.Proofs.YtkegnipofloejaaGreatDoor.Abs
open Go.RowKit
section
variable {P : Program} {E : Cx} {K : Env → au → Prop} {L : Env} {h : au} {d : Nat} {ty : TypeId} {pos : String} {af : Array Edge} {gd : Y (Nat × Bool)} {tb : Tbl}
section
variable {t:TypeId}{x y:Operand}{s id:Nat}{es:Td (Td V)}{kl kh:IntKind}
theorem EB(F:cm P tb){len lo:Nat}{O:ElI}(U:ev L x=some (.one (.own id 0 len)))(he:du tb t=some O)(ho:h[id]? =some (some (.row s es)))(hs:O.size=s)(Q:0<s)
  (G:len=es.length) (W:ev L y=some (.one (.lit (.int kl lo)))) (h1:lo<=len) (X:d<E.n)
  (hk:K ((d,.one (.own h.length 0 (len-lo)))::L) (h.set id none++[some (.row s (es.drop lo))])):ar P ⟨some d,.slice t x (some y) none none,ty,pos,af,gd⟩ E K L h:=
 ⟨fun Lf ι I a w r0=>by
  have r:=r0.low;obtain⟨inf,v,H,J⟩:=r.row ho;obtain⟨u1,u2,_⟩:=bI F he;have hl:some (a.eval y)=none/\lo=0\/some (a.eval y)=some (.int kl lo):=.inr (by simp[(r.ev W).lit.1]);have R:(none:Y Value)=none/\len=len\/(none:Y Value)=some (.int kl len):=.inl ⟨rfl,rfl⟩;have S:=(r.ev U).bi;have M:=H.shift (off:=lo) A0;have A:=r0.rename (inf':=⟨inf.block,inf.base+lo*s,inf.cap-lo,s⟩) ho v rfl M;have hi:(ι++[(⟨inf.block,inf.base+lo*s,inf.cap-lo,s⟩:Inf)])[h.length]? =some ⟨inf.block,inf.base+lo*s,inf.cap-lo,s⟩:=I3
  have fin:∀c,(execOp a.eval ⟨some d,.slice t x (some y) none none,ty,pos,af,gd⟩).run P w= .ok (.value c) w->AR (ι++[(⟨inf.block,inf.base+lo*s,inf.cap-lo,s⟩:Inf)]) I w (.one (.own h.length 0 (len-lo))) c->
    Oper.wp P ⟨some d,.slice t x (some y) none none,ty,pos,af,gd⟩ a w (λZ w'=>∃L' h' ι' I',K L' h'/\Rel E (L'++Lf) h' ι' I' Z w') (λ_ _ _=>False):=λc e1 e2=>by
   unfold Oper.wp;rw[e1,Oper.upon_value];exact⟨_,_,_,I,hk,A.put X e2⟩
  generalize hc:a.eval x=c at S;cases S with
  | @hU _ _ _ T inf' j B=>
   have:inf'=inf:=by rw[v]at j;cases j;rfl
   subst this;have e1:lo=0:=A0
   subst e1;have D:=cE (P:=P) w (isS:=true) (len:=0) (cap:=0) hl R h1 A0;have q:=VR.hU (I:=I) (w:=w) (off:=0) (o:=T) hi (by show 0=inf'.cap-0;omega);refine fin (.slice (some ⟨inf'.block,T,none⟩) 0 0) ?_ (.one q);simp[execOp,Instr.sliceAt,Instr.slice,hc,run_underlying u1,D,cg u2 A0,hs]
  | @own _ _ _ _ cap inf' j hle B hm=>
   have:inf'=inf:=by rw[v]at j;cases j;rfl
   subst this;have D:=cE (P:=P) w (isS:=true) (len:=len) (cap:=cap) hl R h1 A0;by_cases C:cap=lo
   .have e1:len-lo=0:=A0
    have e2:cap-lo=0:=A0
    refine fin (.slice (some ⟨inf'.block,inf'.base+0*inf'.size,none⟩) (len-lo) (cap-lo)) ?_ ?_
    .subst C;simp[execOp,Instr.sliceAt,Instr.slice,hc,run_underlying u1,D,cg u2 A0,hs]
    .have q:=VR.hU (I:=I) (w:=w) (off:=0) (o:=inf'.base+0*inf'.size) hi (by show 0=inf'.cap-lo;omega);rw[e1,e2];exact .one q
   .have N:=VR.own (I:=I) (w:=w) (off:=0) (len:=len-lo) (c:=cap-lo) hi A0 (by show 0+(cap-lo)=inf'.cap-lo;omega) A0;refine fin _ ?_ (.one N);simp[execOp,Instr.sliceAt,Instr.slice,hc,run_underlying u1,D,cg u2 A0,hs,C,dC,J]⟩
theorem OR.take{ι:Td Inf}{I:Nat->Prop}{w:World}{inf:Inf}(h:OR ι I w inf (.row s es))(n:Nat):OR ι I w inf (.row s (es.take n)):=by
 obtain⟨cur,t,h1,h2,v,h4,B,y,A⟩:=h;refine⟨cur,t,h1,h2,v,h4,A4,λe he=>y e (O6 he),λk hk j d=> ?_⟩;simp only[PW]at d ⊢;simp at hk;exact A k A0 j d
theorem EG(G:cm P tb){len hi:Nat}{N:ElI}(T:ev L x=some (.one (.own id 0 len)))(he:du tb t=some N)(ho:h[id]? =some (some (.row s es)))(hs:N.size=s)(O:0<s)
  (U:ev L y=some (.one (.lit (.int kh hi)))) (h1:hi<=len) (W:d<E.n)
  (hk:K ((d,.one (.own h.length 0 hi))::L) (h.set id none++[some (.row s (es.take hi))])):ar P ⟨some d,.slice t x none (some y) none,ty,pos,af,gd⟩ E K L h:=
 ⟨fun Lf ι I a w r0=>by
  have r:=r0.low;obtain⟨inf,A,H,J⟩:=r.row ho;obtain⟨u1,u2,_⟩:=bI G he;have hl:(none:Y Value)=none/\0=0\/(none:Y Value)=some (.int kh 0):=.inl ⟨rfl,rfl⟩;have Q:some (a.eval y)=none/\hi=len\/some (a.eval y)=some (.int kh hi):=.inr (by simp[(r.ev U).lit.1]);have R:=(r.ev T).bi;have D:=r0.rename (inf':=inf) ho A rfl (H.take hi);have B:(ι++[inf])[h.length]? =some inf:=I3
  have fin:∀c,(execOp a.eval ⟨some d,.slice t x none (some y) none,ty,pos,af,gd⟩).run P w= .ok (.value c) w->AR (ι++[inf]) I w (.one (.own h.length 0 hi)) c->
    Oper.wp P ⟨some d,.slice t x none (some y) none,ty,pos,af,gd⟩ a w (λX w'=>∃L' h' ι' Z,K L' h'/\Rel E (L'++Lf) h' ι' Z X w') (λ_ _ _=>False):=λc e1 e2=>by
   unfold Oper.wp;rw[e1,Oper.upon_value];exact⟨_,_,_,I,hk,D.put W e2⟩
  generalize hc:a.eval x=c at R;cases R with
  | @hU _ _ _ S inf' j v=>
   have:inf'=inf:=by rw[A]at j;cases j;rfl
   subst this;have e1:hi=0:=A0
   subst e1;have F:=cE (P:=P) w (isS:=true) (len:=0) (cap:=0) hl Q A0 A0;have q:=VR.hU (I:=I) (w:=w) (off:=0) (o:=S) B v;refine fin (.slice (some ⟨inf'.block,S,none⟩) 0 0) ?_ (.one q);simp[execOp,Instr.sliceAt,Instr.slice,hc,run_underlying u1,F,cg u2 A0,hs]
  | @own _ _ _ _ cap inf' j hle v hm=>
   have:inf'=inf:=by rw[A]at j;cases j;rfl
   subst this;have F:=cE (P:=P) w (isS:=true) (len:=len) (cap:=cap) hl Q A0 A0;have M:=VR.own (I:=I) (w:=w) (off:=0) (len:=hi) (c:=cap) B A0 v hm;by_cases C:cap=0
   .have e1:hi=0:=A0
    subst e1;have q:=VR.hU (I:=I) (w:=w) (off:=0) (o:=inf'.base+0*inf'.size) B A0;refine fin (.slice (some ⟨inf'.block,inf'.base+0*inf'.size,none⟩) 0 0) ?_ (.one q);rw[C]at F;simp[execOp,Instr.sliceAt,Instr.slice,hc,run_underlying u1,F,cg u2 A0,hs,C]
   .refine fin _ ?_ (.one M);simp[execOp,Instr.sliceAt,Instr.slice,hc,run_underlying u1,F,cg u2 A0,hs,C,dC,J]⟩
theorem wo(v:cm P tb){A:ElI}(B:ev L x=some (.one (.lit (.slice none 0 0))))(he:du tb t=some A)(j:0<A.size)(C:ev L y=some (.one (.lit (.int kh 0))))(D:d<E.n)
  (hk:K ((d,.one (.lit (.slice none 0 0)))::L) h):ar P ⟨some d,.slice t x none (some y) none,ty,pos,af,gd⟩ E K L h:=
 bO rfl D (λι I a w r=>by
  obtain⟨e1,_⟩:=(r.ev B).lit;obtain⟨u1,u2,_⟩:=bI v he;obtain⟨F,_⟩:=(r.ev C).lit;have G:(Instr.sliceBounds true 0 0 none (some (.int kh 0)) none).run P w= .ok (0,0,0) w:=by
   simp[Instr.sliceBounds,Instr.sliceBound,asIntOf]
  refine⟨.slice none 0 0,?_,.one (.lit trivial)⟩;simp[execOp,Instr.sliceAt,Instr.slice,e1,F,run_underlying u1,G,cg u2 j]) hk
theorem vG(v:cm P tb){A:ElI}(B:ev L x=some (.one (.lit (.slice none 0 0))))(he:du tb t=some A)(j:0<A.size)(C:ev L y=some (.one (.lit (.int kl 0))))(D:d<E.n)
  (hk:K ((d,.one (.lit (.slice none 0 0)))::L) h):ar P ⟨some d,.slice t x (some y) none none,ty,pos,af,gd⟩ E K L h:=
 bO rfl D (λι I a w r=>by
  obtain⟨e1,_⟩:=(r.ev B).lit;obtain⟨u1,u2,_⟩:=bI v he;obtain⟨F,_⟩:=(r.ev C).lit;have G:(Instr.sliceBounds true 0 0 (some (.int kl 0)) none none).run P w= .ok (0,0,0) w:=by
   simp[Instr.sliceBounds,Instr.sliceBound,asIntOf]
  refine⟨.slice none 0 0,?_,.one (.lit trivial)⟩;simp[execOp,Instr.sliceAt,Instr.slice,e1,F,run_underlying u1,G,cg u2 j]) hk
end
end
end Go.Proofs.YtkegnipofloejaaGreatDoor.Abs
namespace Go.Proofs.YtkegnipofloejaaGreatDoor.Den
open Go.RowKit
open Abs (V AV Env au ar)
section
variable {P : Program} {E : Abs.Cx} {F : In} {ρ : Rho} {H : Td Ob} {D : Td (Nat × AT)} {L : Env} {h : au} {tb : Nat → Y TI} {d : Nat} {ty : TypeId} {pos : String} {af : Array Edge} {gd : Y (Nat × Bool)}
section
variable {T:Ty}{es:Td (Td V)}{t id n:Nat}{x y:Operand}{i:Int}
theorem FRl.drop{xs:Td (I T)}(h:FRl T xs es):∀k,FRl T (xs.drop k) (es.drop k):=by
 induction h with
 |nil=>intro k;simp;exact .nil
 | cons a b d=>
  intro k;cases k with
  |zero=>exact .cons a b
  |succ k=>exact d k
theorem C8(A:bQ P tb)(Q:d<E.n){M:TI}{xs:Td (I T)}(R:tb t=some M)(he:M.elem=some T)(S:ev D x=some (.one (.o id)))(j:H[id]? =some (.row T n xs))(U:ev D y=some (.one (.i i)))(hi:0<i)(B:i<=xs.length):
  eS P ⟨some d,.slice t x (some y) none none,ty,pos,af,gd⟩ E F D H (.one (.o H.length)) ((H.set id .aQ)++[.row T 0 (xs.drop i.toNat)]):=λρ L h hs C V=>by
 obtain⟨ix,G⟩:=A.get R;obtain⟨Y,Z,g0,g1,g2,g3,g4,g5,g6,g7,g8⟩:=G.elem T he;obtain⟨av,W,X⟩:=bf hs S;obtain⟨u,rfl,a3⟩:=X.bi;obtain⟨bv,b1,b2⟩:=bf hs U;obtain⟨u',rfl,b3⟩:=b2.bi;cases b3.int;obtain⟨k,rfl⟩:=Po (A0:0<=i);have bF:(H.set id Ob.aQ).length=H.length:=A1
 have J:Ev ρ H ρ (H.set id .aQ):=Ev.set j (evo.kf _);rcases a3.own j with⟨a,rfl,a4⟩|⟨rfl,a4⟩
 .obtain⟨es,e1,e2⟩:=C.at_ a4 j;have e3:=e2.frl;have v:HpR ρ (H.set id .aQ) (h.set a none):=C.set a4 j A1 (evo.kf _) trivial;have K:Fr F ρ (H.set id .aQ) (h.set a none):=V.set a4 j A1 (evo.kf _);obtain⟨m1,N⟩:=mj g4 v (e3.drop k);have w:=K.push v.len (.row T 0 (xs.drop k)) (some (.row (szT T) (es.drop k)));rw[bF]at m1;rw[PS]at m1 N w;refine Abs.EB G.tb W g1 e1 g3 g4 (by rw[e3.len]) b1 A0 Q ⟨ρ++[some h.length],_,rfl,?_,N,J.trans (Ev.push _ _),w⟩;rw[Pi,e3.len]at m1;exact m1
 .obtain rfl:xs=[]:=by
   rcases C.row _ n _ _ j with⟨a',es,O,_⟩|⟨_,O,_⟩
   .grind
   .exact O
  simp at B;omega
theorem FRl.take{xs:Td (I T)}(h:FRl T xs es):∀k,FRl T (xs.take k) (es.take k):=by
 induction h with
 |nil=>intro k;simp;exact .nil
 | cons a b d=>
  intro k;cases k with
  |zero=>simp;exact .nil
  |succ k=>exact .cons a (d k)
theorem DF(K:bQ P tb)(O:d<E.n){Q:TI}{xs:Td (I T)}(V:tb t=some Q)(he:Q.elem=some T)(W:ev D x=some (.one (.o id)))(v:H[id]? =some (.row T n xs))(X:ev D y=some (.one (.i i)))(hi:0<=i)(M:i<=xs.length):
  eS P ⟨some d,.slice t x none (some y) none,ty,pos,af,gd⟩ E F D H (.one (.o H.length)) ((H.set id .aQ)++[.row T 0 (xs.take i.toNat)]):=λρ L h hs C R=>by
 obtain⟨ix,G⟩:=K.get V;obtain⟨Z,z',g0,g1,g2,g3,g4,g5,g6,g7,g8⟩:=G.elem T he;obtain⟨av,S,Y⟩:=bf hs W;obtain⟨u,rfl,a3⟩:=Y.bi;obtain⟨bv,b1,b2⟩:=bf hs X;obtain⟨u',rfl,b3⟩:=b2.bi;cases b3.int;obtain⟨k,rfl⟩:=Po hi;have bF:(H.set id Ob.aQ).length=H.length:=A1
 have A:Ev ρ H ρ (H.set id .aQ):=Ev.set v (evo.kf _);rcases a3.own v with⟨a,rfl,a4⟩|⟨rfl,a4⟩
 .obtain⟨es,e1,e2⟩:=C.at_ a4 v;have e3:=e2.frl;have j:HpR ρ (H.set id .aQ) (h.set a none):=C.set a4 v A1 (evo.kf _) trivial;have w:Fr F ρ (H.set id .aQ) (h.set a none):=R.set a4 v A1 (evo.kf _);obtain⟨m1,J⟩:=mj g4 j (e3.take k);have B:=w.push j.len (.row T 0 (xs.take k)) (some (.row (szT T) (es.take k)));rw[bF]at m1;rw[PS]at m1 J B;have N:(es.take k).length=k:=by rw[Pd,e3.len];omega
  rw[N]at m1;exact Abs.EG G.tb S g1 e1 g3 g4 b1 A0 O ⟨ρ++[some h.length],_,rfl,m1,J,A.trans (Ev.push _ _),B⟩
 .obtain rfl:xs=[]:=by
   rcases C.row _ n _ _ v with⟨a',es,U,_⟩|⟨_,U,_⟩
   .grind
   .exact U
  simp at M;obtain rfl:k=0:=A0
  have j:HpR ρ (H.set id .aQ) h:=C.aQ v;have w:Fr F ρ (H.set id .aQ) h:=R.aQ v;obtain⟨m1,J⟩:=rg g4 j;rw[bF]at m1;exact Abs.wo G.tb S g1 (by rw[g3];exact g4) b1 O ⟨ρ++[none],_,rfl,m1,J,A.trans (Ev.push _ _),w.ny j.len _⟩
theorem I9(j:bQ P tb)(C:d<E.n){F:TI}{xs:Td (I T)}(O:tb t=some F)(he:F.elem=some T)(hs:cj ρ H D L)(J:HpR ρ H h)(Q:ev D x=some (.one (.o id)))(w:H[id]? =some (.row T n xs))(R:ev D y=some (.one (.i i)))(hi:0<=i)(A:i<=xs.length){K:Env->au->Prop}
  (hk:∀v ns,FRl T (xs.drop i.toNat) ns->Abs.eA h (szT T) v=some ns->K ((d,.one v)::L) h):ar P ⟨some d,.slice t x (some y) none none,ty,pos,af,gd⟩ E K L h:=by
 obtain⟨ix,G⟩:=j.get O;obtain⟨U,V,W,g1,X,g3,g4,Y,g6,Z,g8⟩:=G.elem T he;obtain⟨av,M,S⟩:=bf hs Q;obtain⟨u,rfl,a3⟩:=S.bi;obtain⟨bv,b1,b2⟩:=bf hs R;obtain⟨u',rfl,b3⟩:=b2.bi;cases b3.int;obtain⟨k,rfl⟩:=Po hi;rcases a3.own w with⟨a,rfl,a4⟩|⟨rfl,a4⟩
 .obtain⟨es,e1,e2⟩:=J.at_ a4 w;have e3:=e2.frl;have hl:=e3.len;have B:k<=xs.length:=A0
  refine Abs.xw (kh:=.i64) G.tb M g1 e1 g3 g4 (.inr ⟨y,rfl,b1⟩) (.inl ⟨rfl,rfl⟩) B (O3 _) C (hk _ (es.drop k) (e3.drop k) ?_)
  show (match h[a]? with
   |some (some (.row s' es))=>if s'=szT T&&0+k+(xs.length-k)<=es.length then some ((es.drop (0+k)).take (xs.length-k))else none
   |_=>none)=_
  rw[e1];simp only[Pp];rw[mt A4,Pv (by rw[Pi];omega)]
 .obtain rfl:xs=[]:=by
   rcases J.row _ n _ _ w with⟨a',es,N,_⟩|⟨_,N,_⟩
   .grind
   .exact N
  simp at A;obtain rfl:k=0:=A0
  exact Abs.vG G.tb M g1 (by rw[g3];exact g4) b1 C (hk _ [] (by simp;exact .nil) rfl)
end
end
end Go.Proofs.YtkegnipofloejaaGreatDoor.Den

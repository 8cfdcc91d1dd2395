/- merged -/
import Derived.Test.YtigoabbppmdfpaaGreatZRowPE6

namespace Go.Proofs.YtigoabbppmdfpaaGreat.Den
open Go.RowKit
open Abs (V AV Env aD ar)
def Pl.has{X:Type}(p:Pl X)(x:X):Prop:=match p with
 | .no=>False
 | .ret y=>y=x
 | .opt m f=>∃a,m=some a/\f a=some x
theorem Pl.gK{X R:Type}{p:Pl X}{K:X->Y R}{r:R}(h:p.run K=some r):∃x,p.has x/\K x=some r:=by
 cases p with
 |no=>cases h
 |ret x=>exact⟨x,rfl,h⟩
 | opt m f=>
  cases m with
  |none=>cases h
  | some a=>
   simp only[Pl.run,bS]at h;split at h
   .rename_i x hx;exact⟨x,⟨a,rfl,hx⟩,h⟩
   .cases h
theorem bind_some{α β:Type}{m:Y α}{f:α->Y β}{b:β}(h:m.bind f=some b):∃a,m=some a/\f a=some b:=by
 cases m with
 |none=>cases h
 |some a=>exact⟨a,rfl,h⟩
section
variable {P : Program} {E : Abs.Cx} {F : In} {ρ : Rho} {H : RV Ob} {D : RV (Nat × AT)} {L : Env} {h : aD} {d : Nat} {ty : TypeId} {pos : String} {af : Array Edge} {gd : Y (Nat × Bool)} {tb : Nat → Y TI}
theorem Gj{s:Z}{i b:Int}(h:sIx s i=some b):0<=i/\∃c,s[i.toNat]? =some c/\b=c.toNat:=by
 unfold sIx at h;cases h0:decide (0<=i)with
 |false=>rw[h0]at h;cases h
 | true=>
  rw[h0]at h;simp only[cT]at h;split at h
  .grind
  .cases h
theorem D7{s q:Z}{a b:Int}(h:oD s a b=some q):0<=a/\a<=b/\b<=s.size/\q=s.extract a.toNat b.toNat:=by
 unfold oD at h;cases h0:(decide (0<=a)&&decide (a<=b)&&decide (b<=(s.size:Int)))with
 |false=>rw[h0]at h;cases h
 | true=>
  rw[h0]at h;simp only[bA,NO]at h0;cases h;exact⟨h0.1.1,h0.1.2,h0.2,rfl⟩
theorem pw{n a b:Int}{u:Unit}(h:oV n a b=some u):a=n/\b=n:=by
 unfold oV at h;cases h0:(decide (a=n)&&decide (b=n))with
 |false=>rw[h0]at h;cases h
 |true=>simpa using h0
theorem Dj(j:bx P tb)(hs:bT ρ H D L)(A:d<E.n){t:Nat}{w:TI}{x y:Operand}{s:Z}{i b:Int}(ht:tb t=some w)(v:w.str=true)(hx:ev D x=some (.one (.s s)))(B:ev D y=some (.one (.i i)))(hb:sIx s i=some b):
  cI P ⟨some d,.index t x y,ty,pos,af,gd⟩ E ρ H L h (.one (.k .u8 b)):=by
 obtain⟨C,F⟩:=j.get ht;obtain⟨M,h1,h2⟩:=aP hs hx;obtain⟨u,rfl,G⟩:=h2.aY;cases G.str;obtain⟨aw,k1,I⟩:=aP hs B;obtain⟨u,rfl,J⟩:=I.aY;cases J.int;obtain⟨g1,c,K,rfl⟩:=Gj hb;exact⟨_,.one (.fl .k),Abs.xC F.tb h1 k1 F.look (F.str v) g1 K A ⟨rfl,rfl⟩⟩
theorem DC(w:bx P tb)(hs:bT ρ H D L)(M:d<E.n){t:Nat}{K:TI}{x:Operand}{lo hi:Y Operand}{s q:Z}{a b:Int}(ht:tb t=some K)(A:K.str=true)(hx:ev D x=some (.one (.s s)))
  (j:(match lo with|some y=>ev D y|none=>some (.one (.i 0)))=some (.one (.i a))) (v:(match hi with|some y=>ev D y|none=>some (.one (.i s.size)))=some (.one (.i b))) (N:oD s a b=some q):
  cI P ⟨some d,.slice t x lo hi none,ty,pos,af,gd⟩ E ρ H L h (.one (.s q)):=by
 obtain⟨O,F⟩:=w.get ht;obtain⟨R,h1,h2⟩:=aP hs hx;obtain⟨u,rfl,Q⟩:=h2.aY;cases Q.str;obtain⟨s1,s2,S,rfl⟩:=D7 N;obtain⟨B,rfl⟩:∃B:Nat,a=B:=⟨a.toNat,A1⟩;obtain⟨G,rfl⟩:∃G:Nat,b=G:=⟨b.toNat,A1⟩;refine⟨_,.one (.fl .s),Abs.xu (lo:=B) (hi:=G) (kl:=.i64) (kh:=.i64) F.tb h1 F.look (F.str A) ?_ ?_ A1 A1 M ⟨rfl,rfl⟩⟩
 .cases lo with
  |none=>simp only[NQ,AT.one.injEq,C.i.injEq]at j;exact .inl ⟨rfl,A1⟩
  | some y=>
   obtain⟨aw,k1,I⟩:=aP hs j;obtain⟨u,rfl,J⟩:=I.aY;cases J.int;exact .inr ⟨y,rfl,k1⟩
 .cases hi with
  |none=>simp only[NQ,AT.one.injEq,C.i.injEq]at v;exact .inl ⟨rfl,A1⟩
  | some y=>
   obtain⟨aw,k1,I⟩:=aP hs v;obtain⟨u,rfl,J⟩:=I.aY;cases J.int;exact .inr ⟨y,rfl,k1⟩
theorem Jh(v:bx P tb)(hs:bT ρ H D L)(B:d<E.n){t:Nat}{y:TI}{x hi A:Operand}{T w:Ty}{xs:RV (I T)}{a b:Int}{u0:Unit}(ht:tb t=some y)(he:y.elem=some w)(j:szT w=szT T)(hx:ev D x=some (.one (.l T xs)))(C:ev D hi=some (.one (.i a)))(hm:ev D A=some (.one (.i b)))(hc:oV xs.length a b=some u0):
  cI P ⟨some d,.slice t x none (some hi) (some A),ty,pos,af,gd⟩ E ρ H L h (.one (.lc T xs)):=by
 obtain⟨R,F⟩:=v.get ht;obtain⟨S,z,_,g1,_,G,J,_⟩:=F.elem w he;obtain⟨U,h1,h2⟩:=aP hs hx;obtain⟨u,rfl,K⟩:=h2.aY;obtain⟨es,rfl,h4⟩:=K.list;obtain⟨aw,k1,M⟩:=aP hs C;obtain⟨u,rfl,N⟩:=M.aY;cases N.int;obtain⟨aw,m1,O⟩:=aP hs hm;obtain⟨u,rfl,Q⟩:=O.aY;cases Q.int;obtain⟨rfl,rfl⟩:=pw hc;have hl:es.length=xs.length:=by cases h4 with|l _ hl _ _=>exact hl
 rw[<-hl]at k1 m1;exact⟨_,.one (.lc h4),Abs.KK F.tb h1 g1 (G.trans j) (j▸J) k1 m1 B ⟨rfl,rfl⟩⟩
theorem Ar(j:bx P tb)(hs:bT ρ H D L)(A:d<E.n){t:Nat}{v:TI}{x hi w:Operand}{T y:Ty}{a b:Int}{u0:Unit}(ht:tb t=some v)(he:v.elem=some y)(hx:ev D x=some (.one (.nil T)))(B:ev D hi=some (.one (.i a)))(hm:ev D w=some (.one (.i b)))(hc:oV 0 a b=some u0):
  cI P ⟨some d,.slice t x none (some hi) (some w),ty,pos,af,gd⟩ E ρ H L h (.one (.nil T)):=by
 obtain⟨M,F⟩:=j.get ht;obtain⟨N,z,_,g1,_,O,Q,_⟩:=F.elem y he;obtain⟨R,h1,h2⟩:=aP hs hx;obtain⟨u,rfl,C⟩:=h2.aY;obtain⟨rfl,hp⟩:u= .lit (.slice none 0 0)/\0<szT T:=by cases C with|fl h=>cases h|nil hp=>exact⟨rfl,hp⟩
 obtain⟨aw,k1,G⟩:=aP hs B;obtain⟨u,rfl,I⟩:=G.aY;cases I.int;obtain⟨aw,m1,J⟩:=aP hs hm;obtain⟨u,rfl,K⟩:=J.aY;cases K.int;obtain⟨rfl,rfl⟩:=pw hc;exact⟨_,.one (.nil hp),Abs.Am F.tb h1 g1 A1 k1 m1 A ⟨rfl,rfl⟩⟩
theorem JE(k:IntKind)(a:Int):CR ρ H (Kf k a) (.lit (.int k (k.wrap a))):=by
 cases k<;>first|exact .fl .i|exact .fl .k
theorem BE(j:bx P tb)(hs:bT ρ H D L)(G:d<E.n){A t:Nat}{B w:TI}{x:Operand}{c:C}{I k:IntKind}{a:Int}(y:tb A=some w)(ht:tb t=some B)(hi:B.kd=some k)(hx:ev D x=some (.one c))(hc:∀v,CR ρ H c v->v= .lit (.int I a)):
  cI P ⟨some d,.convert A t x,ty,pos,af,gd⟩ E ρ H L h (.one (Kf k a)):=by
 obtain⟨O,J⟩:=j.get y;obtain⟨i,F⟩:=j.get ht;obtain⟨Q,h1,h2⟩:=aP hs hx;obtain⟨v,rfl,K⟩:=h2.aY;cases hc _ K;obtain⟨T,g1,M,N⟩:=zd J.ty F.ty;exact⟨_,.one (JE k a),Abs.KI g1 h1 M N (F.kd k hi) G ⟨rfl,rfl⟩⟩
theorem FRl.bytes{xs:RV (I .u)}{es:RV (RV V)}(h:FRl .u xs es):es=List.map (α:=Int) (λn=>[V.lit (.int .u8 n)]) xs:=by
 induction h with
 |nil=>rfl
 | @cons x e xs es h k d=>
  rw[d];show e::_=[V.lit (.int .u8 x)]::_
  congr 1
  obtain⟨h1,h2⟩:=h
  match e,h1,h2 with
  | [v],_,h2=>
   have:=h2 0 (by simp[aG]) C3;simp only[aG,O5]at this;cases this;rfl
theorem Ec(j:bx P tb)(hs:bT ρ H D L)(K:d<E.n){w t:Nat}{C v:TI}{x:Operand}{xs:RV Int}(y:tb w=some v)(ht:tb t=some C)(he:v.elem=some .u)(A:C.str=true)(hx:ev D x=some (.one (.l .u xs))):
  cI P ⟨some d,.convert w t x,ty,pos,af,gd⟩ E ρ H L h (.one (.s (sOf xs))):=by
 obtain⟨V,B⟩:=j.get y;obtain⟨i,F⟩:=j.get ht;obtain⟨G,z,M,g1,_,W,X,_⟩:=B.elem .u he;obtain⟨Y,h1,h2⟩:=aP hs hx;obtain⟨u,rfl,N⟩:=h2.aY;obtain⟨es,rfl,h4⟩:=N.list;have O:=h4.frl.bytes;subst O;obtain⟨T,b1,b2,b3⟩:=zd B.ty F.ty;have I:Abs.gb T w=some G:=by unfold Abs.gb;rw[b2];exact M
 obtain⟨Q,_⟩:=Abs.bL b1 I;obtain⟨R,J,S⟩:=B.u8 he;have U:R=G.t:=by rw[Q]at J;cases J;rfl
 subst U;exact⟨_,.one (.fl .s),Abs.wD b1 h1 I S b3 (F.str A) K ⟨rfl,rfl⟩⟩
theorem lU{T d:Ty}{xs:RV (Z×I d)}{ys:RV (Z×I T)}(h:Bi xs=some ys):∃e:d=T,ys=e▸xs:=by
 unfold Bi at h;split at h
 .grind
 .cases h
theorem A6{cs:RV C}{vs:RV V}(h:CRs ρ H cs vs):ATR ρ H (Eb cs) (Abs.wo vs):=by
 match cs,vs,h with
 |[],[],h=>exact .agg h
 |[c],[v],h=>exact .one (h.2 0 C3 C3)
 |_::_::_,_::_::_,h=>exact .agg h
 |[],_::_,h=>exact RO
 |[_],[],h=>exact RO
 |[_],_::_::_,h=>exact RO
 |_::_::_,[],h=>exact RO
 |_::_::_,[_],h=>exact RO
theorem yS{T:Ty}(s:Z):∀{kvs:RV (Z×I T)}{d:RV (Z×RV V)},kvs.length=d.length->(∀(j:Nat)(h1:j<kvs.length)(h2:j<d.length),kvs[j].1=d[j].1/\FRs (aG T kvs[j].2) d[j].2)->
  (Ax kvs s=none/\Abs.gw d s=none)\/∃x vs,Ax kvs s=some x/\Abs.gw d s=some vs/\FRs (aG T x) vs
 |[],[],_,_=>.inl ⟨rfl,rfl⟩
 |[],_::_,h,_=>H0
 |_::_,[],h,_=>H0
 | (a, b)::kvs,(v,w)::d,hl,hr=>by
  obtain⟨h1,h2⟩:=hr 0 C3 C3;simp only[O5]at h1 h2;subst h1;simp only[Ax,Abs.gw];by_cases e:a=s
  .grind
  .rw[N3 e,N3 e];exact yS s PS (λj k1 t=>hr (j+1) Qv N0)
theorem Dk(C:bx P tb)(hs:bT ρ H D L)(R:HpR ρ H h)(J:d<E.n){t id:Nat}{K:TI}{T:Ty}{x y:Operand}{s:Z}{kvs:RV (Z×I T)}{z:I T}(ht:tb t=some K)(hm:K.map=some T)(hx:ev D x=some (.one (.m id)))(S:ev D y=some (.one (.s s)))(ho:H[id]? =some (.map T kvs))(U:jq T=some z):
  cI P ⟨some d,.lookup t x y false,ty,pos,af,gd⟩ E ρ H L h (Eb (aG T (rm kvs s z)))/\cI P ⟨some d,.lookup t x y true,ty,pos,af,gd⟩ E ρ H L h (.tup [Eb (aG T (rm kvs s z)),.one (.b (Kw kvs s))]):=by
 obtain⟨i',F⟩:=C.get ht;obtain⟨m,z',m1,M,m3,N⟩:=F.map T hm;rw[U]at M;cases M;obtain⟨_,us,u1,u2⟩:=il N;have A:∀ι I w,Abs.VRs ι I w us m.zero:=λι I w=>by
  have hl:m.zero.length=us.length:=by have:=u2.1;simpa using this
  refine⟨hl,λj V=> ?_⟩;have v:j<m.zero.length:=A1
  refine⟨m.zero[j],gE v,?_⟩;refine u2.2 j Qe V I w ι _ ?_;rw[NY];have:=(il N).1;exact .lit (Abs.mM (aT.1 this _ (gM v)))
 obtain⟨av,h1,h2⟩:=aP hs hx;obtain⟨u,rfl,W⟩:=h2.aY;obtain⟨aw,k1,X⟩:=aP hs S;obtain⟨u',rfl,Y⟩:=X.aY;cases Y.str;obtain⟨a,O,o1,Q,o3,o4,o5⟩:=R.map id T kvs ho;have hid:u= .mp a:=by
  cases W with
  |fl h=>cases h
  |m B=>rw[o1]at B;cases B;rfl
 subst hid;have key:CRs ρ H (aG T (rm kvs s z)) (match Abs.gw O s with|some vs=>vs|none=>us)/\Kw kvs s=(Abs.gw O s).isSome:=by
  unfold rm Kw;rcases yS s o3 o5 with⟨g1,G⟩|⟨x',vs,g1,G,g3⟩
  .rw[g1,G];exact⟨u1.cr,rfl⟩
  .rw[g1,G];exact⟨g3.cr,rfl⟩
 constructor
 .exact⟨_,A6 key.1,Abs.Dm m1 h1 k1 Q A J ⟨rfl,rfl⟩⟩
 .refine⟨_,?_,Abs.yF m1 h1 k1 Q A J ⟨rfl,rfl⟩⟩;refine .tup rfl (λj h1 h2=> ?_)
  match j,h1 with
  |0,_=>exact A6 key.1
  |1,_=>rw[key.2];exact .one (.fl .b)
theorem Br:∀{xs:RV AT}{cs:RV C}{avs:RV AV},ones xs=some cs->xs.length=avs.length->(∀(j:Nat)(h1:j<xs.length)(h2:j<avs.length),ATR ρ H xs[j] avs[j])->∃vs,avs=vs.map AV.one/\CRs ρ H cs vs
 | [],cs,avs,h,hl,hr=>by
  cases h;cases avs with
  |nil=>exact⟨[],rfl,.et⟩
  |cons _ _=>simp at hl
 | .one c::xs,cs,avs,h,hl,hr=>by
  simp only[ones]at h;split at h
  .rename_i d h1;cases h;cases avs with
   |nil=>simp at hl
   | cons y avs=>
    obtain⟨vs,rfl,t⟩:=Br h1 PS (λj a b=>hr (j+1) Qb Qc);have:=hr 0 C3 C3;simp only[O5]at this;obtain⟨v,rfl,w⟩:=this.aY;exact⟨v::vs,rfl,.cons w t⟩
  .cases h
 | .agg _::xs,cs,avs,h,hl,hr=>Hm
 | .tup _::xs,cs,avs,h,hl,hr=>Hm
theorem qc(t:bx P tb){op:Go.Op}(C:d<E.n){v:AT}(j:(vj tb op D H).has v)(hs:bT ρ H D L)(X:HpR ρ H h):cI P ⟨some d,op,ty,pos,af,gd⟩ E ρ H L h v:=by
 unfold vj at j;split at j
 .split at j
  .rename_i s i h1 h2 w;obtain⟨b,I,J⟩:=j;cases J;obtain⟨M,A,B⟩:=Option.map_eq_some_iff.1 h1;exact Dj t hs C A B h2 w I
  .cases j
 .split at j
  .rename_i s h1 h2;split at j
   .rename_i a b w h4;obtain⟨q,I,J⟩:=j;cases J;obtain⟨M,A,B⟩:=Option.map_eq_some_iff.1 h1;exact DC t hs C A B h2 w h4 I
   .cases j
  .cases j
 .split at j
  .rename_i Y T xs a b h1 h2 w h4;split at j
   .rename_i hb;obtain⟨q,I,J⟩:=j;cases J;obtain⟨M,A,B⟩:=bind_some h1;exact Jh t hs C A B (nB hb) h2 w h4 I
   .cases j
  .rename_i Y T a b h1 h2 w h4;obtain⟨q,I,J⟩:=j;cases J;obtain⟨M,A,B⟩:=bind_some h1;exact Ar t hs C A B h2 w h4 I
  .cases j
 .split at j
  .rename_i N kd a h1 h2 w;cases j;obtain⟨M,A,B⟩:=bind_some h2;exact BE t hs C h1 A B w (λv j=>j.int)
  .rename_i N kd k a h1 h2 w;cases j;obtain⟨M,A,B⟩:=bind_some h2;exact BE t hs C h1 A B w (λv j=>j.pT)
  .rename_i Z xs h1 h2 w;split at j
   .rename_i h4 O;cases j;obtain⟨M,A,B⟩:=Option.map_eq_some_iff.1 O;exact Ec t hs C h1 A h4 B w
   .cases j
  .cases j
 .split at j
  .rename_i a h1;cases j;obtain⟨Q,k1,G⟩:=aP hs h1;obtain⟨u,rfl,F⟩:=G.aY;cases F.int;exact⟨_,.one (.fl .i),Abs.Jy k1 C ⟨rfl,rfl⟩⟩
  .rename_i a h1;cases j;obtain⟨Q,k1,G⟩:=aP hs h1;obtain⟨u,rfl,F⟩:=G.aY;cases F with
   |fl F=>
   cases F;exact⟨_,.one (.fl .k),Abs.Jr k1 C ⟨rfl,rfl⟩⟩
  .cases j
 .rename_i ac tys;split at j
  .rename_i x y R;obtain rfl:ac= #[x,y]:=by rw[<-R]
   split at j
   .rename_i a b h1 h2;cases j;obtain⟨Q,k1,G⟩:=aP hs h1;obtain⟨u,rfl,F⟩:=G.aY;cases F.int;obtain⟨aw,m1,S⟩:=aP hs h2;obtain⟨u,rfl,U⟩:=S.aY;cases U.int;exact⟨_,.one (.fl .i),Abs.Ln k1 m1 C ⟨rfl,rfl⟩⟩
   .cases j
  .cases j
 .rename_i ac tys;split at j
  .rename_i x y R;obtain rfl:ac= #[x,y]:=by rw[<-R]
   split at j
   .rename_i a b h1 h2;cases j;obtain⟨Q,k1,G⟩:=aP hs h1;obtain⟨u,rfl,F⟩:=G.aY;cases F.int;obtain⟨aw,m1,S⟩:=aP hs h2;obtain⟨u,rfl,U⟩:=S.aY;cases U.int;exact⟨_,.one (.fl .i),Abs.Nm k1 m1 C ⟨rfl,rfl⟩⟩
   .cases j
  .cases j
 .split at j
  .rename_i T id s h1 h2 w;obtain⟨M,A,B⟩:=bind_some h1;split at j
   .rename_i T2 kvs z h4 O;split at j
    .rename_i V h6;obtain⟨e,rfl⟩:=lU h6;subst e;have:=Dk (P:=P) (E:=E) (h:=h) (ty:=ty) (pos:=pos) (af:=af) (gd:=gd) t hs X C A B h2 w h4 O;split at j
     .cases j;exact this.1
     .cases j;exact this.2
    .cases j
   .cases j
  .cases j
 .rename_i f first caps
  split at j
  .rename_i xs h1 h2;obtain rfl:first= #[]:=by rw[<-h1]
   split at j
   .rename_i cs w;cases j;obtain⟨avs,k1,G,F⟩:=Aq hs h2;obtain⟨vs,k4,W⟩:=Br w G F;have:=Abs.yo (P:=P) (E:=E) (K:=λL2 h2=>L2=(d,.one (.clo (.func f) vs))::L/\h2=h) (ty:=ty) (pos:=pos) (af:=af) (gd:=gd) (f:=f) k1 k4 C ⟨rfl,rfl⟩;rw[Pk]at this;exact⟨_,.one (.f W.1 W.2),this⟩
   .cases j
  .cases j
 .cases j
theorem kU{h H:RV Ob}(hl:∀(id:Nat)(x:Ob),h[id]? =some x->x≠.aN->H[id]? =some x){op:Go.Op}{v:AT}(d:(vj tb op D h).has v):(vj tb op D H).has v:=by
 unfold vj at d ⊢;split at d
 all_goals first
  |exact d
  |(cases d;done)
  |skip
 .split at d
  .split at d
   .grind
   .cases d
  .cases d
theorem zY(w:bx P tb)(O:d<E.n){t K:Nat}{M:TI}{T:Ty}{x y:Operand}{xs ys zs:RV (I T)}(ht:tb t=some M)(he:M.elem=some T)(hx:ev D x=some (.one (.lc T xs)))(j:Ht P E D H T K y ys)(hl:Mt xs ys=some zs):
  dU P ⟨some d,.call ⟨.builtin .append,#[x,y],#[t,K]⟩,ty,pos,af,gd⟩ E F D H (.one (.o H.length)) (H++[.row T 0 zs]):=λρ L h hs A Q=>by
 obtain⟨i,G⟩:=w.get ht;obtain⟨R,z',g0,g1,g2,S,U,B,g6,V,g8⟩:=G.elem T he;obtain⟨av,W,X⟩:=aP hs hx;obtain⟨u,rfl,a3⟩:=X.aY;obtain⟨es,rfl,Y⟩:∃es,u= .gk (szT T) es/\FR (.l T xs) (.imm (szT T) es):=by cases a3 with|fl h=>cases h|lc h=>exact⟨_,rfl,h⟩
 obtain⟨Z,C,n1⟩:=j ρ L h hs A;have J:R.zero≠[]:=by intro e;rw[e]at B;simp at B;omega
 unfold Mt at hl;split at hl
 .cases hl
 .rename_i y0 ys0;obtain⟨rfl,v⟩:=sF hl;have N:=Y.frl;obtain⟨m1,m2⟩:=lr U A (N.app C);have hpos:0<Z.length:=by rw[C.len];simp
  simp only[N8]at v;refine Abs.Ac G.tb W g1 J B S n1 hpos (by rw[C.len,N.len];omega) V O ⟨ρ++[some h.length],_,rfl,?_,m2,Ev.push _ _,Q.push A.len _ _⟩;rw[N8]at m1;exact m1
theorem zD(v:d<E.n){t:Nat}{T:Ty}(w:0<szT T):dU P ⟨some d,.makeMap t none,ty,pos,af,gd⟩ E F D H (.one (.m H.length)) (H++[.map T []]):=λρ L h hs hp y=>by
 refine Abs.Ah v ⟨ρ++[some h.length],_,rfl,.one (.m ?_),hp.push ⟨[],rfl,rfl,w,λj h=>H0⟩,Ev.push _ _,y.push hp.len _ _⟩;rw[<-hp.len];simp
theorem vd(j:bx P tb){op:Go.Op}(J:d<E.n){v:AT}{H':RV Ob}(h:(zU tb op D H).has (v,H')):dU P ⟨some d,op,ty,pos,af,gd⟩ E F D H v H':=by
 unfold zU at h;split at h
 .split at h
  .rename_i T h1;cases h;obtain⟨K,w,A⟩:=bind_some h1;obtain⟨i,G⟩:=j.get w;obtain⟨m,z,_,_,N,_⟩:=G.map T A;exact zD J N
  .cases h
 .rename_i ac tys;split at h
  .rename_i x y t O Q ht;obtain rfl:ac= #[x,y]:=by rw[<-Q]
   obtain rfl:tys= #[t,O]:=by rw[<-ht]
   split at h
   .rename_i T R xs W h1 h2 B;split at h
    .rename_i U S ys h4 L V;obtain⟨e,rfl⟩:=dg L;subst e;obtain⟨zs,C,I⟩:=h;cases I;obtain⟨K,w,A⟩:=bind_some h1;obtain⟨M,u1,u2⟩:=bind_some h4;exact zY j J w A h2 (mc j u1 u2 B V) C
    .cases h
   .rename_i id s h1 h2 B;split at h
    .rename_i n xs h4 L;obtain⟨zs,C,I⟩:=h;cases I;obtain⟨K,w,A⟩:=bind_some h1;obtain⟨M,u1,u2⟩:=Option.map_eq_some_iff.1 h4;exact rW j J w A h2 L (yM j u1 u2 B) C
    .cases h
   .rename_i R s h1 h2 B;split at h
    .rename_i h4;obtain⟨zs,C,I⟩:=h;cases I;obtain⟨K,w,A⟩:=bind_some h1;obtain⟨M,u1,u2⟩:=Option.map_eq_some_iff.1 h4;exact lR j J w A h2 (yM j u1 u2 B) C
    .cases h
   .cases h
  .cases h
 .cases h
theorem mC(K:bx P tb){t id:Nat}{R:TI}{T:Ty}{x k y:Operand}{s:Z}{kvs:RV (Z×I T)}{v:AT}{vs S:RV C}{e:I T}(ht:tb t=some R)(hm:R.map=some T)(hx:ev D x=some (.one (.m id)))(hk:ev D k=some (.one (.s s)))(ho:H[id]? =some (.map T kvs))
  (W:ev D y=some v) (A:cells v=some vs) (has:v=Eb vs) (hp:eW [] vs=some S) (hi:iB T S=some e):dU P ⟨none,.mapUpdate t x k y,ty,pos,af,gd⟩ E F D H (.tup []) (H.set id (.map T ((s,e)::kvs))):=λρ L h hs U X=>by
 obtain⟨i',G⟩:=K.get ht;obtain⟨m,z',m1,m2,Y,m4⟩:=G.map T hm;obtain⟨av,h1,h2⟩:=aP hs hx;obtain⟨u,rfl,h3⟩:=h2.aY;obtain⟨aw,k1,k2⟩:=aP hs hk;obtain⟨u',rfl,k3⟩:=k2.aY;cases k3.str;obtain⟨a,ws,M,o2,o3,o4,o5⟩:=U.map id T kvs ho;have hid:u= .mp a:=by
  cases h3 with
  |fl h=>cases h
  |m B=>rw[M]at B;cases B;rfl
 subst hid;obtain⟨ay,y1,d⟩:=aP hs W;obtain⟨us,N,J⟩:=ku A d;have O:ay=Abs.wo us:=by
  subst has
  match vs,d,A,J with
  |[],d,A,J=>cases d with|agg h=>cases N;have:=h.1;cases us with|nil=>rfl|cons _ _=>simp at this
  |[c],d,A,J=>obtain⟨q,rfl,_⟩:=d.aY;cases N;rfl
  | c::c2::l,d,A,J=>
   cases d with
   | agg h=>
    cases N;have:=h.1
    match us,this with
    |_::_::_,_=>rfl
 subst O;obtain⟨Q,w1,V⟩:=Cn Y hp hi J;have he:evo (.map T kvs) (.map T ((s,e)::kvs)):=.inr (.inr (.inr (.inl ⟨_,_,_,rfl,rfl⟩)));refine Abs.vg m1 h1 k1 y1 V.1 (λj h1 h2 I w ι u hu=>V.2 j h1 h2 I w ι u hu) o2 ⟨ρ,.tup [],rfl,nQ,U.set M ho C3 he ⟨(s,Q)::ws,rfl,by simp[o3],o4,λj h1 h2=> ?_⟩,Ev.set ho he,X.set M ho C3 he⟩;cases j with
 |zero=>exact⟨rfl,w1⟩
 |succ j=>exact o5 j Hl HA
theorem Lt(h:bx P tb){op:Go.Op}{H':RV Ob}(d:(opX tb op D H).has H'):dU P ⟨none,op,ty,pos,af,gd⟩ E F D H (.tup []) H':=by
 unfold opX at d;split at d
 .split at d
  .rename_i T id s vs h1 h2 L h4;obtain⟨U,I,J⟩:=bind_some h1;obtain⟨v,v1,M⟩:=bind_some h4;split at d
   .rename_i T2 kvs V N A;split at d
    .rename_i t y c K B w;obtain⟨e,rfl⟩:=lU K;subst e;split at d
     .cases d;rw[v1]at w;cases w;cases M;exact mC h I J h2 L N v1 rfl rfl A B
     .cases d
    .rename_i t y cs K B w;obtain⟨e,rfl⟩:=lU K;subst e;split at d
     .cases d
     .rename_i hb;cases d;rw[v1]at w;cases w;cases M;have j:vs.length≠1:=λe=>hb (by
       have O:=gl B;obtain⟨W,G⟩:=h.get I;obtain⟨m,X,m1,Y,Q,Z⟩:=G.map _ J;have R:=db _ Q y;rw[O]at R
       have S:∀{a b:RV C},eW [] a=some b->b.length=a.length:=by
        intro a
        induction a with
        |nil=>intro b hb;cases hb;rfl
        | cons q a ih=>
         intro b hb;simp only[eW]at hb;split at hb
         .grind
         .cases hb
       have:=S A;rw[(A1:szT T2=1)];rfl)
      refine mC h I J h2 L N v1 rfl ?_ A B;clear A h4 v1
      match vs,j with
      |[],_=>rfl
      |[_],j=>exact absurd rfl j
      |_::_::_,_=>rfl
    .cases d
   .cases d
  .cases d
 .cases d
end
section
variable {P : Program} {E : Abs.Cx} {F : In} {ρ : Rho} {H : RV Ob} {D : RV (Nat × AT)} {L : Env} {h : aD} {d : Nat} {ty : TypeId} {pos : String} {af : Array Edge} {gd : Y (Nat × Bool)} {tb : Nat → Y TI}
theorem Bc{op:BinOp}{a b:C}{v:AT}(h:(Js op a b).has v):∃c,v= .one c/\IK op a b some=some c:=by
 have key:∀{p:Bool}{y:Int},(∃q,(bif p then some y else none)=some q/\(some (AT.one (.i q)):Y AT)=some v)->∃c,v= .one c/\(bif p then some (C.i y)else none)=some c:=by
  rintro p y ⟨q,h1,h2⟩;cases p with
  |true=>exact RC
  |false=>cases h1
 have d:∀{p:Bool}{y:Int},(∃q,(bif p then some y else none)=some q/\(some (AT.one (.k .u64 q)):Y AT)=some v)->∃c,v= .one c/\(bif p then some (C.k .u64 y)else none)=some c:=by
  rintro p y ⟨q,h1,h2⟩;cases p with
  |true=>exact RC
  |false=>cases h1
 unfold Js at h;unfold IK;split at h
 .exact key h
 .exact key h
 .exact key h
 .exact key h
 .exact key h
 .exact key h
 .rename_i x y;obtain⟨q,h1,h2⟩:=h;unfold dj at h1;cases hp:decide (x.size+y.size<=1099511627776)with
  |true=>rw[hp]at h1;exact RC
  |false=>rw[hp]at h1;cases h1
 .exact d h
 .exact d h
 .split at h
  .rename_i c hc;cases h;exact⟨c,rfl,rfl⟩
  .cases h
theorem B7(w:bx P tb){o:Oper}{d:Nat}(hd:o.dst=some d)(B:d<E.n){v:AT}(j:(Dd tb o D H).has v)(hs:bT ρ H D L)(I:HpR ρ H h):cI P o E ρ H L h v:=by
 obtain⟨dst,op,ty,pos,af,gd⟩:=o;simp only at hd;subst hd
 have F:∀{x:Operand},Pl.has (match ev D x with
  | some (.one .zs)=>match (tb ty).bind (·.elem)with
   |some T=>.ret (.one (.nil T))
   |none=>.no
  |some v=>.ret v
  |none=>.no) v->∃M,Abs.ev L x=some M/\ATR ρ H v M:=by
  intro x j;split at j
  .rename_i hx;split at j
   .rename_i T X;cases j;obtain⟨C,J,K⟩:=bind_some X;obtain⟨i,G⟩:=w.get J;obtain⟨el,z',g0,g1,g2,g3,Y,_⟩:=G.elem T K;obtain⟨M,h1,h2⟩:=aP hs hx;obtain⟨u,rfl,A⟩:=h2.aY;have:u= .lit (.slice none 0 0):=by cases A with|fl h=>cases h|zs=>rfl
    subst this;exact⟨_,h1,.one (.nil Y)⟩
   .cases j
  .rename_i hx;cases j;exact aP hs hx
  .cases j
 unfold Dd at j;simp only at j;split at j
 .obtain⟨M,h1,h2⟩:=F j;exact⟨M,h2,Abs.IV h1 B ⟨rfl,rfl⟩⟩
 .obtain⟨M,h1,h2⟩:=F j;exact⟨M,h2,Abs.CI h1 B ⟨rfl,rfl⟩⟩
 .split at j
  .rename_i p hc;cases p with
   | true=>
    simp only at j;split at j
    .rename_i Z Q;cases j;exact Co hs B hc Q
    .cases j
   | false=>
    simp only at j;split at j
    .rename_i Z Q;cases j;exact Co hs B hc Q
    .cases j
  .cases j
 .rename_i t parts;split at j
  .rename_i C ps h1 h2;split at j
   .rename_i f fs cs A h4;cases j;have:=FP (P:=P) (E:=E) (h:=h) (ty:=ty) (pos:=pos) (af:=af) (gd:=gd) w hs B h1 h2 (by rw[A];simp) h4;exact this
   .cases j
  .cases j
 .split at j
  .rename_i C id off h1 h2;split at j
   .rename_i fo _ A;cases j;exact CF w hs B h1 h2 A
   .cases j
  .rename_i C T y off h1 h2;split at j
   .rename_i fo _ A;cases j;exact D3 w hs B h1 h2 A
   .cases j
  .rename_i C id k n T y off h1 h2;split at j
   .rename_i _ _ _ fo _ A h4;cases j;exact Ey w hs B h1 h2 A h4
   .cases j
  .cases j
 .split at j
  .rename_i C cs h1 h2;split at j
   .rename_i fo ft _ A;split at j
    .rename_i fi h4;split at j
     .rename_i S R;cases j;exact IE w hs B h1 h2 A h4 R
     .cases j
    .cases j
   .cases j
  .cases j
 .split at j
  .rename_i C id off h1 h2;split at j
   .rename_i cs A;split at j
    .rename_i S h4;cases j;exact H4 w hs I B h1 h2 A h4
    .cases j
   .cases j
  .rename_i C T y off h1 h2;split at j
   .rename_i S h4;cases j;exact G9 w hs B h1 h2 h4
   .cases j
  .rename_i C id k n T y off h1 h2;split at j
   .rename_i U n' xs A;obtain⟨M,a1,a2⟩:=aP hs h2;obtain⟨u,rfl,a3⟩:=a2.aY;obtain⟨a,xs',rfl,c4,c5,c6,c7,c8⟩:=a3.eptr A;split at j
    .rename_i hb;have hb:=nB hb;split at j
     .rename_i S h4;cases j;exact yE w hs I B h1 h2 c5 (c8 hb) h4
     .cases j
    .split at j
     .rename_i xs2 hc;obtain⟨e,rfl⟩:=dg hc;subst e;obtain⟨y',N,O⟩:=j;exact yE w hs I B h1 h2 A N O
     .cases j
   .cases j
  .cases j
 .split at j
  .rename_i U T xs i h1 h2 A;split at j
   .rename_i hb;obtain⟨e,N,O⟩:=j;cases O;obtain⟨C,J,K⟩:=bind_some h1;exact CE w hs B J K (nB hb) h2 A N
   .cases j
  .rename_i U id i h1 h2 A;split at j
   .rename_i T n xs h4;split at j
    .rename_i hb;obtain⟨e,N,O⟩:=j;cases O;obtain⟨C,J,K⟩:=bind_some h1;exact D6 w hs I B J K (nB hb) h2 h4 A N
    .cases j
   .cases j
  .cases j
 .split at j
  .rename_i U T xs h1 h2;split at j
   .rename_i hb;split at j
    .rename_i a b A h4;obtain⟨ys,N,O⟩:=j;cases O;obtain⟨C,J,K⟩:=bind_some h1;exact G5 w hs B J K (nB hb) h2 A h4 N
    .cases j
   .cases j
  .exact qc w B j hs I
 .split at j
  .rename_i h1;cases j;exact IJ hs B h1
  .rename_i h1;cases j;exact JS hs B h1
  .cases j
 .split at j
  .rename_i a b h1 h2;split at j
   .rename_i p;split at j
    .rename_i A;obtain⟨C,J,K⟩:=Option.map_eq_some_iff.1 A;obtain⟨c,rfl,h4⟩:=Bc j;obtain⟨c',R,V⟩:=FJ (P:=P) (E:=E) (h:=h) (ty:=ty) (pos:=pos) (af:=af) (gd:=gd) hs B h1 h2 (λ_ _=>⟨C,J,K⟩) w h4;cases R;exact V
    .cases j
   .rename_i W;obtain⟨c,rfl,h4⟩:=Bc j;obtain⟨c',R,V⟩:=FJ (P:=P) (E:=E) (h:=h) (ty:=ty) (pos:=pos) (af:=af) (gd:=gd) hs B h1 h2 (λp e=>absurd e (W p)) w h4;cases R;exact V
  .cases j
 .split at j
  .rename_i h1;cases j;exact LP hs B h1
  .cases j
 .split at j
  .rename_i xs h1;split at j
   .rename_i S h2;cases j;exact zy hs B h1 h2
   .cases j
  .cases j
 .split at j
  .rename_i t1i C a h1 h2 A;split at j
   .rename_i h4;cases j;exact Nr w hs B h1 h2 h4 A
   .exact qc w B j hs I
  .exact qc w B j hs I
 .rename_i ac tys;split at j
  .rename_i x t Q ht;obtain rfl:ac= #[x]:=by rw[<-Q]
   obtain rfl:tys= #[t]:=by rw[<-ht]
   split at j
   .rename_i C s h1 h2;split at j
    .rename_i A;cases j;exact Km w hs B h1 A h2
    .cases j
   .rename_i C c h1 h2;split at j
    .rename_i T n A h4;cases j;exact Mj w hs I B h1 A h2 h4
    .cases j
   .cases j
  .cases j
 .exact qc w B j hs I
theorem J3(j:bx P tb){o:Oper}{d:Nat}(hd:o.dst=some d)(w:d<E.n){v:AT}{H':RV Ob}(h:(Gi tb o D H).has (v,H')):dU P o E F D H v H':=by
 obtain⟨dst,op,ty,pos,af,gd⟩:=o;simp only at hd;subst hd;unfold Gi at h;simp only at h;split at h
 .split at h
  .rename_i K h1;cases h;exact GJ j w h1
  .cases h
 .split at h
  .rename_i cs h1;cases h;obtain⟨R,h2,A⟩:=bind_some h1;exact Mx w h2 A
  .cases h
 .rename_i t len parts;split at h
  .rename_i T S h1 h2;split at h
   .rename_i z A;split at h
    .rename_i xs h4 J;cases h;obtain⟨K,B,C⟩:=bind_some h1;exact te j w B C A h2 h4 J
    .cases h
   .cases h
  .cases h
 .split at h
  .rename_i T n h1 h2 A;split at h
   .rename_i z h4;obtain⟨xs,G,I⟩:=h;cases I;obtain⟨K,B,C⟩:=bind_some h1;exact IT j w B C h4 h2 A G
   .cases h
  .cases h
 .rename_i ac tys;split at h
  .rename_i x y t L M ht;obtain rfl:ac= #[x,y]:=by rw[<-M]
   obtain rfl:tys= #[t,L]:=by rw[<-ht]
   split at h
   .rename_i T U V W h1 h2 A h4;obtain⟨K,B,C⟩:=bind_some h1;obtain⟨X,u1,u2⟩:=bind_some h2;split at h
    .rename_i ys J;split at h
     .rename_i id;split at h
      .rename_i Y n xs N;split at h
       .rename_i O Q;obtain⟨e,rfl⟩:=dg Q;subst e;obtain⟨zs,G,I⟩:=h;cases I;exact Dr j w B C u1 u2 A N h4 J G
       .cases h
      .cases h
     .obtain⟨zs,G,I⟩:=h;cases I;exact u9 j w B C u1 u2 A h4 J G
     .exact vd j w h
    .cases h
   .exact vd j w h
  .cases h
 .exact vd j w h
theorem JK(j:bx P tb){o:Oper}{d:Nat}(hd:o.dst=some d)(w:d<E.n){v:AT}(h:(Ls tb o D).has v):dU P o E F D H v H:=by
 obtain⟨dst,op,ty,pos,af,gd⟩:=o;simp only at hd;subst hd;unfold Ls at h;simp only at h;split at h
 .rename_i t len parts;split at h
  .rename_i T G h1 h2;split at h
   .rename_i z y;split at h
    .rename_i xs h4 A;cases h;obtain⟨I,B,C⟩:=bind_some h1;exact wG j w B C y h2 h4 A
    .cases h
   .cases h
  .cases h
 .cases h
theorem M9(j:bx P tb){o:Oper}(hd:o.dst=none){H':RV Ob}(d:(opN tb o D H).has H'):dU P o E F D H (.tup []) H':=by
 obtain⟨dst,op,ty,pos,af,gd⟩:=o;simp only at hd;subst hd;unfold opN at d;simp only at d;split at d
 .split at d
  .rename_i B id off vs h1 h2 y;obtain⟨C,k1,t⟩:=bind_some y;split at d
   .rename_i cs h4;split at d
    .rename_i hb;simp only[bA]at hb;cases d;exact Dl j h1 h2 h4 k1 t (nB hb.1) (NX hb.2)
    .cases d
   .cases d
  .rename_i B id k n T e off vs h1 h2 y;obtain⟨C,k1,t⟩:=bind_some y;split at d
   .rename_i S h4;split at d
    .rename_i G n' xs v;split at d
     .rename_i I J;obtain⟨K,rfl⟩:=dg J;subst K;split at d
      .rename_i hb;simp only[bA]at hb;have b1:=nB hb.1.1;have b2:=NX hb.1.2;have b3:0<szT G:=by simpa [OB]using hb.2
       split at d
       .rename_i hb;have hb:=nB hb;split at d
        .rename_i M A;cases d;intro ρ L h hs N O;obtain⟨U,V,Q⟩:=aP hs h2;obtain⟨u,rfl,a3⟩:=Q.aY;obtain⟨a,xs2,rfl,c4,c5,c6,c7,c8⟩:=a3.eptr v;rw[v]at c5;cases c5;exact tU j h1 h2 v (c8 hb) k1 t h4 A b1 b2 b3 ρ L h hs N O
        .cases d
       .obtain⟨W,R,w⟩:=d;dsimp only at w;split at w
        .rename_i M A;cases w;exact tU j h1 h2 v R k1 t h4 A b1 b2 b3
        .cases w
      .cases d
     .cases d
    .cases d
   .cases d
  .cases d
 .exact Lt j d
end
def trV(id s:Nat)(es:RV (RV V))(c:C)(v:V):V:=match c with
 | .o j=>if j=id then .imm s es else v
 |_=>v
def trA(id s:Nat)(es:RV (RV V)):AT->AV->AV
 | .one c,.one v=>.one (trV id s es c v)
 | .agg cs,.agg vs=>.agg (List.zipWith (trV id s es) cs vs)
 |_,d=>d
def trL(id s:Nat)(es:RV (RV V))(D:RV (Nat×AT))(L:Env):RV Nat->Env
 |[]=>[]
 | t::ts=>match D.lookup t,L.lookup t with
  |some v,some d=>(t,trA id s es v d)::trL id s es D L ts
  |_,_=>trL id s es D L ts
theorem mb(id s:Nat)(es:RV (RV V))(D:RV (Nat×AT))(L:Env)(t:Nat):∀(ts:RV Nat)(u:AV),(trL id s es D L ts).lookup t=some u->∃v d,D.lookup t=some v/\L.lookup t=some d/\u=trA id s es v d
 |[],u,h=>by simp[trL]at h
 | k::ts,u,h=>by
  simp only[trL]at h;split at h
  .rename_i v d h1 h2;rw[NT]at h;by_cases e:t=k
   .grind
   .have:(t==k)=false:=Qu
    rw[this]at h;exact mb id s es D L t ts u h
  .exact mb id s es D L t ts u h
theorem Cc(id s:Nat)(es:RV (RV V))(D:RV (Nat×AT))(L:Env)(t:Nat){v:AT}{d:AV}(h1:D.lookup t=some v)(h2:L.lookup t=some d):∀(ts:RV Nat),t∈ts->(trL id s es D L ts).lookup t=some (trA id s es v d)
 |[],h=>H0
 | k::ts,h=>by
  by_cases e:t=k
  .subst e;simp[trL,h1,h2]
  .have hm:t∈ts:=by rcases List.mem_cons.1 h with h|h;exact absurd h e;exact h
   have j:=Cc id s es D L t h1 h2 ts hm;simp only[trL];split
   .grind
   .exact j
theorem AS{α:Type}{D:RV (Nat×α)}{t:Nat}{v:α}(h:D.lookup t=some v):t∈D.map Prod.fst:=by
 induction D with
 |nil=>simp at h
 | cons p D d=>
  rw[NT]at h;by_cases e:t=p.1
  .simp[e]
  .grind
theorem zK{D:RV (Nat×AT)}{f:AT->AT}{t:Nat}:(D.map λp=>(p.1,f p.2)).lookup t=(D.lookup t).map f:=by
 induction D with
 |nil=>rfl
 | cons p D d=>
  obtain⟨k,z⟩:=p;simp only[Ot];rw[NT,NT];cases t==k with
  |true=>rfl
  |false=>exact d
section
variable {P : Program} {E : Abs.Cx} {F : In} {ρ : Rho} {H : RV Ob} {D : RV (Nat × AT)} {L : Env} {h : aD}
theorem Lh{id n:Nat}{T:Ty}{xs:RV (I T)}{es:RV (RV V)}(hr:H[id]? =some (.row T n xs))(hx:FR (.l T xs) (.imm (szT T) es)){c:C}{v:V}(hc:CR ρ H c v):CR ρ (H.set id .aN) (c.fz id T xs) (trV id (szT T) es c v):=by
 have d:Ev ρ H ρ (H.set id .aN):=Ev.set hr (evo.jp _);by_cases e:c= .o id
 .subst e;simp only[C.fz,trV,if_true];rw[N1 (Nat.beq_refl id)];exact .fl hx
 .have h:c.fz id T xs=c:=by
   cases c<;>simp only[C.fz];rename_i j;rw[N3 (λhb=>e (by rw[nB hb]))]
  have t:trV id (szT T) es c v=v:=by
   unfold trV;split
   .grind
   .rfl
  rw[h,t];exact hc.mono d
theorem Hk{id n:Nat}{T:Ty}{xs:RV (I T)}{es:RV (RV V)}(hr:H[id]? =some (.row T n xs))(hx:FR (.l T xs) (.imm (szT T) es)){cs:RV C}{vs:RV V}(hc:CRs ρ H cs vs):CRs ρ (H.set id .aN) (cs.map (C.fz id T xs)) (List.zipWith (trV id (szT T) es) cs vs):=
 ⟨by simp[hc.1],fun j h1 h2=>by
  simp only[NY,OW];exact Lh hr hx (hc.2 j Hl (by have:=hc.1;simp at h1;omega))⟩
theorem Gc{id n:Nat}{T:Ty}{xs:RV (I T)}{es:RV (RV V)}(hr:H[id]? =some (.row T n xs))(hx:FR (.l T xs) (.imm (szT T) es)){v:AT}{d:AV}(hc:ATR ρ H v d):ATR ρ (H.set id .aN) (v.fz id T xs) (trA id (szT T) es v d):=by
 cases hc with
 |one h=>exact .one (Lh hr hx h)
 |agg h=>exact .agg (Hk hr hx h)
 |tup hl h=>exact(ATR.tup hl h).mono (Ev.set hr (evo.jp _))
theorem FA{E:Abs.Cx}{h2:aD}{ι:RV Abs.Inf}{I B:Nat->Prop}{a:Act}{w:World}{id s:Nat}{es:RV (RV V)}(r:Abs.Rel E L h ι I a w)(K:Abs.Rel E L h2 ι B a w)(hk:Abs.cB I B w w)(hs:bT ρ H D L)
  (G:∀(c:C)(v:V)(u:Value),CR ρ H c v->Abs.VR I w ι v u->Abs.VR B w ι (trV id s es c v) u):Abs.Rel E (trL id s es D L (D.map Prod.fst)) h2 ι B a w:=by
 refine {K with aO:=λt u M=> ?_};obtain⟨v,N,h1,d,rfl⟩:=mb id s es D L t _ u M;obtain⟨O,J,h4⟩:=hs t v h1;rw[d]at J;cases J;obtain⟨c,k1,y⟩:=r.aO t N d;refine⟨c,k1,?_⟩;cases h4 with
 |one hc=>cases y with|one y=>exact .one (G _ _ _ hc y)
 | @agg cs vs hc=>
  cases y with
  | agg hl F hr=>
   have bJ:=hc.1;refine .agg (by simp[hl,bJ]) (λj A=>F j QG) (λj A=> ?_);simp only[OW];exact G _ _ _ (hc.2 j QG QG) (hr j QG)
 |tup hl P=>exact y.aB (Abs.bn.refl _) hk
def fY:Rho->RV Ob->Nat->Y (RV C)
 |some b::ρ,.box cs::H,a=>if b=a then some cs else fY ρ H a
 |_::ρ,_::H,a=>fY ρ H a
 |_,_,_=>none
theorem jD:∀{ρ:Rho}{H:RV Ob}{a:Nat}{cs:RV C},fY ρ H a=some cs->∃id:Nat,ρ[id]? =some (some a)/\H[id]? =some (Ob.box cs)
 |[],H,a,cs,h=>by unfold fY at h;cases h
 |x::ρ,[],a,cs,h=>by unfold fY at h;cases x<;>cases h
 | x::ρ,o::H,a,cs,h=>by
  have up:fY ρ H a=some cs->∃id:Nat,(x::ρ)[id]? =some (some a)/\(o::H)[id]? =some (Ob.box cs):=λh=>by
   obtain⟨id,h1,h2⟩:=jD h;exact⟨id+1,Hl,HA⟩
  unfold fY at h;split at h
  .rename_i b _ t _ _ d j;cases d;cases j;split at h
   .rename_i e;subst e;cases h;exact⟨0,rfl,rfl⟩
   .exact up h
  .grind
  .cases h
theorem uC:∀{ρ:Rho}{H:RV Ob}{a id:Nat}{cs:RV C},(∀(i j:Nat),ρ[i]? =some (some a)->ρ[j]? =some (some a)->live H i->live H j->i=j)->ρ[id]? =some (some a)->H[id]? =some (.box cs)->fY ρ H a=some cs
 |[],H,a,id,cs,_,h1,_=>QO
 |x::ρ,[],a,id,cs,_,_,h2=>by simp at h2
 | x :: ρ,o::H,a,id,cs,hi,h1,h2=>by
  cases id with
  | zero=>
   simp at h1 h2;subst h1 h2;simp[fY]
  | succ id=>
   have hl:∀{i:Nat},live H i->live (o::H) (i+1):=λ{i} ⟨y,d,h⟩=>⟨y,Q1,h⟩
   have t:=uC (ρ:=ρ) (H:=H) (a:=a) (id:=id) (cs:=cs) (λi j v w l1 l2=>by have:=hi (i+1) (j+1) Qe PZ (hl l1) (hl l2);omega) Hl HA;unfold fY;split
   .rename_i b _ D _ _ A B;cases A;cases B;rw[N3 (λe=>by
     have:=hi 0 (id+1) Qp h1 ⟨_,rfl,C3⟩ ⟨_,h2,C3⟩;omega)]
    exact t
   .grind
   .grind
def trO(id s:Nat)(es:RV (RV V))(ρ:Rho)(H:RV Ob)(a:Nat)(o:Y Abs.Ob):Y Abs.Ob:=match fY ρ H a,o with
 |some cs,some (.row k [vs])=>some (.row k [List.zipWith (trV id s es) cs vs])
 |_,o=>o
def qS(id s:Nat)(es:RV (RV V))(ρ:Rho)(H:RV Ob)(h:aD):aD:=h.mapIdx (trO id s es ρ H)
theorem qP{id s:Nat}{es:RV (RV V)}{a:Nat}:(qS id s es ρ H h)[a]? =(h[a]?).map (trO id s es ρ H a):=by simp[qS]
theorem rt{id s:Nat}{es:RV (RV V)}{a:Nat}{o:Y Abs.Ob}(h:fY ρ H a=none):trO id s es ρ H a o=o:=by unfold trO;rw[h]
theorem Hy{id s:Nat}{es:RV (RV V)}{a:Nat}{o:Y Abs.Ob}{x:Abs.Ob}(h:trO id s es ρ H a o=some x):∃y,o=some y:=by
 cases o with
 |some y=>exact⟨y,rfl⟩
 |none=>cases hb:fY ρ H a<;>simp[trO,hb]at h
theorem A0{E:Abs.Cx}{L2:Env}{hb:aD}{ι:RV Abs.Inf}{I J:Nat->Prop}{a:Act}{w:World}{id s:Nat}{es:RV (RV V)}(r:Abs.Rel E L h ι I a w)(B:Abs.Rel E L2 hb ι J a w)(hp:HpR ρ H h)(A:∀(b:Nat)(o:Abs.Ob),hb[b]? =some (some o)->h[b]? =some (some o))
  (P:∀(c:C)(v:V)(u:Value),CR ρ H c v->Abs.VR I w ι v u->Abs.VR J w ι (trV id s es c v) u):Abs.Rel E L2 (qS id s es ρ H hb) ι J a w:=by
 have D:∀{b:Nat}{o:Abs.Ob},(qS id s es ρ H hb)[b]? =some (some o)->∃d,hb[b]? =some (some d)/\trO id s es ρ H b (some d)=some o:=λ{b o} hx=>by
  rw[qP]at hx;obtain⟨M,h1,h2⟩:=Option.map_eq_some_iff.1 hx;obtain⟨y,rfl⟩:=Hy h2;exact⟨y,h1,h2⟩
 exact
 { B  with
   heap := by
     refine⟨by simp[qS,B.heap.len],λb o f x y=> ?_,λb o f x y=> ?_,λb Q o o' f R x S y T e=> ?_,B.heap.sub⟩
     · obtain⟨d,k1,F⟩:=D x
       have U:=B.heap.obj b d f k1 y;unfold trO at F;split at F
       · rename_i cs k vs hb1 e
         cases e;cases F;obtain⟨id',g1,W⟩:=jD hb1;obtain⟨Y,X,m1,N,O⟩:=hp.box id' cs W;rw[g1]at m1;cases m1;rw[A b _ k1]at N;cases N;obtain⟨cur,t,q1,q2,q3,q4,q5,q6,q7⟩:=r.heap.obj b _ f (A b _ k1) y;have bJ:=O.1;refine⟨cur,t,q1,q2,q3,q4,by simpa using q5,λe he=>by simp at he;subst he;simp[bJ],λk hk j K=> ?_⟩;simp at hk;subst hk;simp only[O5]at K ⊢;have G:j<vs.length:=by simp at K;omega
         obtain⟨u,u1,u2⟩:=q7 0 C3 j (by simpa using G);refine⟨u,u1,?_⟩;rw[OW];exact P _ _ _ (O.2 j (by simp at K;omega) G) (by simpa using u2)
       · grind
     · obtain⟨d,k1,_⟩:=D x
       exact B.heap.off b d f k1 y
     · obtain⟨d,k1,_⟩:=D x
       obtain⟨M,F,_⟩:=D S;exact B.heap.inj b Q d M f R k1 F y T e
   cc:=λb o f x y=>by
     obtain⟨d,k1,_⟩:=D x;exact B.cc b d f k1 y}
theorem Ci{id n:Nat}{T:Ty}{xs:RV (I T)}(d:H[id]? =some (.row T n xs)):Ev ρ (H.set id .aN) ρ ((H.set id .aN).map (Ob.fz id T xs)):=
 ⟨fun _ _ h=>h,fun j x hx=>⟨x.fz id T xs,by rw[Oq,hx];rfl,by
  cases x with
  |box cs=>exact Rx
  |row T n xs=>exact evo.refl _
  |map T kvs=>exact evo.refl _
  |aN=>exact evo.refl _
  |rows T xss ho=>exact evo.refl _⟩⟩
theorem Cb{id n s:Nat}{T:Ty}{xs:RV (I T)}{es:RV (RV V)}{hb:aD}(hs:s=szT T)(hp:HpR ρ H h)(hr:H[id]? =some (.row T n xs))(hx:FR (.l T xs) (.imm (szT T) es))(F:∀(b:Nat),ρ[id]?≠some (some b)->hb[b]? =h[b]?)(G:hb.length=h.length):
  HpR ρ ((H.set id .aN).map (Ob.fz id T xs)) (qS id s es ρ H hb):=by
 subst hs;have w:=Ci (ρ:=ρ) hr;have A:∀{i:Nat},live ((H.set id .aN).map (Ob.fz id T xs)) i->live H i:=λ{i} l=>((Ev.set (ρ:=ρ) hr (evo.jp _)).trans w).lv Qn l
 refine HpR.mk' QC (λj x B=> ?_) (λi j a k1 O l1 l2=>hp.inj i j a k1 O (A l1) (A l2)) (λi b hi=>by simp[qS,G];exact hp.lt i b hi);simp only[Oq,O3]at B;obtain⟨t,k1,rfl⟩:=B;rcases iL k1 with⟨rfl,rfl,_⟩|⟨J,k1⟩
 .exact .inr (.inr rfl)
 .have P:(t.fz id T xs).dead=t.dead:=by cases t<;>rfl
  by_cases v:t.dead=true
  .grind
  have v:t.dead=false:=Qe
  have C:live H j:=⟨_,k1,v⟩
  have d:∀{b:Nat},ρ[j]? =some (some b)->(∀cs,t≠.box cs)->fY ρ H b=none:=λ{b} hb1 Q=>by
   cases K:fY ρ H b with
   |none=>rfl
   | some cs=>
    obtain⟨id',g1,L⟩:=jD K;have:=hp.inj _ _ _ g1 hb1 ⟨_,L,C3⟩ C;subst this;rw[k1]at L;cases L;exact absurd rfl (Q cs)
  have M:∀{b:Nat},ρ[j]? =some (some b)->hb[b]? =h[b]? :=λ{b} hb1=>F b λe=>J (hp.inj _ _ _ hb1 e C ⟨_,hr,C3⟩)
  rcases hp.ob k1 with⟨b,y,m1,R,D⟩|⟨m1,E,n',rfl,D⟩|hd
  .refine .inl ⟨b,trO id (szT T) es ρ H b y,m1,by rw[qP,M m1,R];rfl,?_⟩;cases t with
   | box cs=>
    obtain⟨vs,rfl,q⟩:=D;have K:=uC (H:=H) (λi j S U=>hp.inj i j b S U) m1 k1;refine⟨List.zipWith (trV id (szT T) es) cs vs,?_,(Hk hr hx q).mono w⟩;unfold trO;rw[K];simp[q.1]
   |row E n' W=>rw[rt (d m1 (λcs e=>H3))];exact D
   |map E kvs=>rw[rt (d m1 (λcs e=>H3))];exact D
   |aN=>trivial
   |rows E N X=>trivial
  .exact .inr (.inl ⟨m1,E,n',rfl,D⟩)
  .grind
theorem Bo{id n s:Nat}{T:Ty}{xs:RV (I T)}{es:RV (RV V)}{hb:aD}(v:Fr F ρ H h)(hr:H[id]? =some (.row T n xs))(d:∀(b:Nat),ρ[id]?≠some (some b)->hb[b]? =h[b]?)(j:hb.length=h.length):
  Fr F ρ ((H.set id .aN).map (Ob.fz id T xs)) (qS id s es ρ H hb):=
 v.step ((Ev.set hr (evo.jp _)).trans (Ci hr)) (by simp[qS,j]) (λi _ h1 l=>.inl ⟨i,h1,((Ev.set (ρ:=ρ) hr (evo.jp _)).trans (Ci hr)).lv Qn l⟩) (λb hb1 t=>by
  rw[qP,d b (λe=>t id e ⟨_,hr,C3⟩)];have:fY ρ H b=none:=by
   cases w:fY ρ H b with
   |none=>rfl
   |some cs=>obtain⟨id',g1,y⟩:=jD w;exact absurd ⟨_,y,C3⟩ (t id' g1)
  cases h[b]? with
  |none=>rfl
  |some o=>simp[rt this])
theorem BV{id n:Nat}{T:Ty}{xs:RV (I T)}(hr:H[id]? =some (.row T n xs)):bW H ((H.set id .aN).map (Ob.fz id T xs)):=λj y h d=>by
 simp only[Oq,O3]at h;obtain⟨t,k1,rfl⟩:=h;rcases iL k1 with⟨rfl,rfl,_⟩|⟨v,k1⟩
 .cases d
 .cases t with
  |rows T xss ho=>exact k1
  |_=>cases d
theorem K5{st:St}(hs:SR F ρ st L h){id n:Nat}{T:Ty}{xs:RV (I T)}(hr:st.H[id]? =some (.row T n xs)):∃L2 h2,Abs.cQ L h L2 h2/\SR F ρ (st.fz id T xs) L2 h2:=by
 have enc:∀es,FR (.l T xs) (.imm (szT T) es)->bT ρ ((st.H.set id .aN).map (Ob.fz id T xs)) (st.L.map λp=>(p.1,p.2.fz id T xs)) (trL id (szT T) es st.L L (st.L.map Prod.fst)):=λes hx t v d=>by
  rw[zK]at d;obtain⟨v0,h1,rfl⟩:=Option.map_eq_some_iff.1 d;obtain⟨H,h2,j⟩:=hs.aO t v0 h1;exact⟨_,Cc id _ es st.L L t h1 h2 _ (AS h1),(Gc hr hx j).mono (Ci hr)⟩
 rcases hs.heap.row id n T xs hr with⟨a,es,h1,h2,j⟩|⟨h1,rfl,j⟩
 .have y:∀(b:Nat),ρ[id]?≠some (some b)->(h.set a none)[b]? =h[b]? :=λb hb=>sN (λe=>hb (by rw[<-e];exact h1));refine⟨trL id (szT T) es st.L L (st.L.map Prod.fst),qS id (szT T) es ρ st.H (h.set a none),⟨λE ι I B w r=> ?_⟩,enc es j,Cb rfl hs.heap hr j y C3,Bo hs.fr hr y C3,hs.xr.aB (Bo (Fr.refl ρ st.H h) hr y C3) (BV hr)⟩;obtain⟨inf,A,_,_⟩:=r.row h2;have d:∀(c:C)(v:V)(u:Value),CR ρ st.H c v->Abs.VR I w ι v u->Abs.VR (λb=>I b\/b=inf.block) w ι (trV id (szT T) es c v) u:=λc v u hc d=>by
   have hk:Abs.cB I (λb=>I b\/b=inf.block) w w:=⟨λ_ h=>.inl h,λ_ _=>rfl⟩;by_cases e:c= .o id
   .subst e;simp only[trV,if_true];rcases hc.own hr with⟨G,rfl,h4⟩|⟨rfl,h4⟩
    .rw[h1]at h4;cases h4;have hl:=j.frl.len;have:=Abs.VR.fz r h2 A j.iK d (Abs.m7 (by simp[Abs.V.fits,hl]));simpa [Abs.V.fz,<-hl]using this
    .grind
   .have D:trV id (szT T) es c v=v:=by
     unfold trV;split
     .grind
     .rfl
    rw[D];exact d.aB (Abs.bn.refl _) hk
  refine⟨_,A0 r (FA r (r.freeze h2 A) ⟨λ_ h=>.inl h,λ_ _=>rfl⟩ hs.aO d) hs.heap (λb o hb=> ?_) d⟩;rcases iL hb with⟨_,e,_⟩|⟨_,hb⟩
  .cases e
  .exact hb
 .refine⟨trL id (szT T) [] st.L L (st.L.map Prod.fst),qS id (szT T) [] ρ st.H h,⟨λE ι I B w r=> ?_⟩,enc [] (.et j),Cb rfl hs.heap hr (.et j) (λ_ _=>rfl) rfl,Bo hs.fr hr (λ_ _=>rfl) rfl,hs.xr.aB (Bo (Fr.refl ρ st.H h) hr (λ_ _=>rfl) rfl) (BV hr)⟩;have d:∀(c:C)(v:V)(u:Value),CR ρ st.H c v->Abs.VR I w ι v u->Abs.VR I w ι (trV id (szT T) [] c v) u:=λc v u hc d=>by
   by_cases e:c= .o id
   .subst e;simp only[trV,if_true];rcases hc.own hr with⟨G,rfl,h4⟩|⟨rfl,h4⟩
    .grind
    .cases d;exact .dC (N9 _)
   .have D:trV id (szT T) [] c v=v:=by
     unfold trV;split
     .grind
     .rfl
    rw[D];exact d
  exact⟨I,A0 r (FA r r (Abs.cB.refl _ _) hs.aO d) hs.heap (λ_ _ h=>h) d⟩
structure Conv(h:aD)(a:Nat)(es:List (List V))(T:Ty)(xss:List (List (I T)))(n:Nat)(hk:aD)(ek:List (List V)):Prop where
 aq:hk[a]?=some (some (.row 1 ek))
 len:ek.length=es.length
 done:∀(i:Nat)(xs:List (I T))(e:List V),i<n->xss[i]? =some xs->ek[i]? =some e->∃es',e=[.imm (szT T) es']/\FR (.l T xs) (.imm (szT T) es')
 rest:∀i,n<=i->ek[i]?=es[i]?
 same:∀c,c≠a->(∀i m,i<n->es[i]?≠some [.own c 0 m])->hk[c]? =h[c]?
 bJ:hk.length=h.length
theorem Conv.ones{a n:Nat}{es d:RV (RV V)}{T:Ty}{xss:RV (RV (I T))}{hk:aD}(c:Conv h a es T xss n hk d)(hl:es.length=xss.length)(h1:∀e∈es,e.length=1):∀e∈d,e.length=1:=λe he=>by
 obtain⟨i,hi⟩:=PB he;by_cases j:i<n
 .have hlt:=(gI.1 hi).1;have hx:i<xss.length:=by have:=c.len;omega
  obtain⟨es',rfl,_⟩:=c.done i _ e j (gE hx) hi;rfl
 .rw[c.rest i A1]at hi;exact h1 e (mG hi)
theorem xj{id a:Nat}{T:Ty}{xss:RV (RV (I T))}{es:RV (RV V)}(X:XAt F ρ H h id T xss none a es):∀n,n<=es.length->∃hk v,Conv h a es T xss n hk v/\∀L,Abs.cQ L h L hk
 |0,_=>⟨h,es,⟨X.aq,rfl,λi _ _ hi=>A1,λ_ _=>rfl,λ_ _ _=>rfl,rfl⟩,λL=>.refl _ _⟩
 | n + 1, hn=>by
  obtain⟨hk,v,c,sh⟩:=xj X n A1;have hx:n<xss.length:=by rw[<-X.len];omega
  have y:es[n]? =some es[n]:=gE A1;have D:xss[n]? =some xss[n]:=gE hx;have A:v[n]? =some es[n]:=(c.rest n (N4 n)).trans y;have K:n<v.length:=(gI.1 A).1;have halt:a<hk.length:=(gI.1 c.aq).1;rcases X.sub n _ _ C3 D y with⟨he,R⟩|⟨b,es',he,hb,S⟩
  .have M:jX es[n] [.imm (szT T) []]:=by
    rw[he];refine⟨rfl,λj h1 h2=> ?_⟩;have:j=0:=PU
    subst this;intro I w ι u hu;cases hu with
    |lit _=>exact .dC (N9 _)
   have E:jg v (v.set n [.imm (szT T) []]):=by
    have:=(jg.refl v).set M n
    rwa [show v.set n es[n]=v from by
     have e:v[n]=es[n]:=by rw[gE K]at A;exact Pc A
     rw[<-e,List.set_getElem_self]]at this
   refine⟨hk.set a (some (.row 1 (v.set n [.imm (szT T) []]))),v.set n [.imm (szT T) []],⟨sS halt,by simp[c.len],λi xs e hi h1 h2=> ?_,λi hi=> ?_,λd hd C=> ?_,by simp[c.bJ]⟩,λL=>(sh L).trans (cQ.imp c.aq E (λe hm=> ?_))⟩
   .by_cases t:i=n
    .subst t;rw[sS K]at h2;cases h2;rw[D]at h1;cases h1;rw[R];exact⟨[],rfl,.et X.pos⟩
    .rw[sN (λe=>t e.symm)]at h2;exact c.done i xs e A1 h1 h2
   .rw[sN A1];exact c.rest i A1
   .rw[sN (λe=>hd e.symm)];exact c.same d hd λi m hi=>C i m A1
   .rcases OV hm with hm|rfl
    .exact c.ones X.len X.one e hm
    .rfl
  .have bJ:es'.length=xss[n].length:=by cases S with|l _ hl _ _=>exact hl
   obtain⟨N,hblt,_,_⟩:=X.ak n b _ C3 (y.trans (by rw[he]));have U:hk[b]? =some (some (.row (szT T) es')):=by
    rw[c.same b N (λi m hi e=>by
     have:=X.inj i n b _ _ C3 C3 e (y.trans (by rw[he]));omega)]
    exact hb
   -- what a cell says of b
   have cell:∀(i:Nat)(e:RV V),v[i]? =some e->i≠n->e.map (Abs.V.fz b (szT T) es')=e/\e.all (Abs.V.fits b es'.length)=true:=λi e hi t=>by
    by_cases hlt:i<n
    .have G:i<xss.length:=A1
     obtain⟨W,rfl,_⟩:=c.done i _ e hlt (gE G) hi;exact RT
    .have hi':=hi;rw[c.rest i A1]at hi;have O:=(gI.1 hi).1;have G:i<xss.length:=by rw[<-X.len];exact O
     rcases X.sub i _ e C3 (gE G) hi with⟨rfl,_⟩|⟨b2,W,rfl,_,_⟩
     .exact RT
     .have Y:b2≠b:=λe=>by
       subst e;exact t (X.inj i n _ _ _ C3 C3 hi (y.trans (by rw[he])))
      simp[Abs.V.fz,Abs.V.fits,Y]
   have B:es[n].map (Abs.V.fz b (szT T) es')=[.imm (szT T) es']/\es[n].all (Abs.V.fits b es'.length)=true:=by
    rw[he];simp[Abs.V.fz,Abs.V.fits,<-bJ]
   have P:v.all (·.all (Abs.V.fits b es'.length))=true:=by
    rw[aT];intro e hm;obtain⟨i,hi⟩:=PB hm;by_cases t:i=n
    .subst t;rw[A]at hi;cases hi;exact B.2
    .exact(cell i e hi t).2
   have get:∀(i:Nat),(v.map (·.map (Abs.V.fz b (szT T) es')))[i]? =(v[i]?).map (·.map (Abs.V.fz b (szT T) es')):=λi=>Oq ..;have Z:a<(hk.set b none).length:=by simpa using halt
   refine⟨(hk.set b none).set a (some (.row 1 (v.map (·.map (Abs.V.fz b (szT T) es'))))),v.map (·.map (Abs.V.fz b (szT T) es')),⟨sS Z,by simp[c.len],λi xs e hi h1 h2=> ?_,λi hi=> ?_,λd hd C=> ?_,by simp[c.bJ]⟩,λL=>(sh L).trans (Abs.cQ.lY b a U c.aq (λe=>N e.symm) S.iK P)⟩
   .rw[get]at h2;obtain⟨Q,J,rfl⟩:=Option.map_eq_some_iff.1 h2;by_cases t:i=n
    .subst t;rw[A]at J;cases J;rw[D]at h1;cases h1;exact⟨es',B.1,S⟩
    .rw[(cell i Q J t).1];exact c.done i xs Q A1 h1 J
   .rw[get,<-c.rest i A1];cases J:v[i]? with
    |none=>rfl
    |some Q=>simp[(cell i Q J A1).1]
   .rw[sN (λe=>hd e.symm),sN (λe=>by
     subst e;exact C n _ (NW n) (y.trans (by rw[he])))]
    exact c.same d hd λi m hi=>C i m A1
theorem oL{id:Nat}{T U:Ty}{xss:RV (RV (I T))}{ho:Y Nat}{m:Nat}{ys:RV (I U)}(hr:H[id]? =some (.rows T xss ho))(hl:xss.length=ys.length){c:C}{v:V}(hc:CR ρ H c v):CR ρ (H.set id (.row U m ys)) c v:=by
 have get:∀{j:Nat}{z:Ob},H[j]? =some z->z.eR=false->(H.set id (.row U m ys))[j]? =some z:=λ{j z} t w=>by
  rw[sN (λe=>by subst e;rw[hr]at t;cases t;cases w)];exact t
 have d:(H.set id (.row U m ys))[id]? =some (.row U m ys):=sS (gI.1 hr).1
 induction hc with
 |fl h=>exact .fl h
 |lc h=>exact .lc h
 |nil h=>exact .nil h
 |o h1 h2=>exact .o h1 (get h2 rfl)
 |oN h1 h2=>exact .oN h1 (get h2 rfl)
 |oG h=>exact .oG (get h rfl)
 | @oR j a F y A h1 h2=>
  by_cases e:j=id
  .subst e;rw[hr]at h2;cases h2;rw[hl];exact .o h1 d
  .exact .oR h1 (by rw[sN (λx=>e x.symm)];exact h2)
 |r h1=>exact .r h1
 |p h1=>exact .p h1
 |e h1 h2 B h4 D=>exact .e h1 (get h2 rfl) B h4 D
 |eG h=>exact .eG (get h rfl)
 |q h=>exact .q h
 |f hl hr E=>exact .f hl E
 |m h1=>exact .m h1
 |zs=>exact .zs
 |zP=>exact .zP
 |zM=>exact .zM
 |zF=>exact .zF
theorem zb{id:Nat}{T U:Ty}{xss:RV (RV (I T))}{ho:Y Nat}{m:Nat}{ys:RV (I U)}(hr:H[id]? =some (.rows T xss ho))(hl:xss.length=ys.length){x:AT}{d:AV}(hc:ATR ρ H x d):ATR ρ (H.set id (.row U m ys)) x d:=by
 induction hc with
 |one h=>exact .one (oL hr hl h)
 |agg h=>exact .agg ⟨h.1,λj h1 h2=>oL hr hl (h.2 j h1 h2)⟩
 |tup hl h t=>exact .tup hl t
theorem Da{st:St}(hs:SR F ρ st L h){id:Nat}{T:Ty}{xss:RV (RV (I T))}(hr:st.H[id]? =some (.rows T xss none)):∃h2,Abs.cQ L h L h2/\SR F ρ ⟨st.L,st.H.set id (.row (.sl T) 0 xss)⟩ L h2:=by
 obtain⟨R,a,es,X⟩:=hs.xr id T xss none hr;obtain⟨h2,K,c,sh⟩:=xj X es.length (N4 _);have hid:=(gI.1 hr).1;have S:(st.H.set id (.row (.sl T) 0 xss))[id]? =some (.row (.sl T) 0 xss):=sS hid;have w:∀{j:Nat},live (st.H.set id (.row (.sl T) 0 xss)) j->j≠id->live st.H j:=λ{j} ⟨y,U,y2⟩ B=>⟨y,by rw[sN (λe=>B e.symm)]at U;exact U,y2⟩
 -- J W other G use are as Y Z
 have same:∀b,b≠a->(∀i m,es[i]?≠some [V.own b 0 m])->h2[b]? =h[b]? :=λb hb M=>c.same b hb λi m _=>M i m
 have C:∀j b,ρ[j]? =some (some b)->live st.H j->h2[b]? =h[b]? :=λj b A hl=>same b (λe=>X.nl j (by rw[<-e];exact A) hl) λi m e=>by
  obtain⟨_,_,g,_⟩:=X.ak i b m C3 e;exact g j A hl
 have N:FR (.l (.sl T) xss) (.imm (szT (.sl T)) K):=by
  refine .l (by simp[szT]) (c.len.trans X.len) (λe he=> ?_) (λm h1 h2 j h3 h4=> ?_)
  .rw[c.ones X.len X.one e he];rfl
  .obtain⟨es',d,H⟩:=c.done m xss[m] K[m] (by rw[<-c.len];exact h2) (gE h1) (gE h2);have A:j=0:=by rw[d]at h4;simp at h4;omega
   subst A;simp only[d];exact H
 refine⟨h2,sh L,λt v hv=> ?_,HpR.mk' (by simp[hs.heap.len]) (λj x hx=> ?_) (λi j b k1 E l1 l2=> ?_) (λi b hi=>by rw[c.bJ];exact hs.heap.lt i b hi),⟨by rw[c.bJ];exact hs.fr.len,λj b A hl hb=> ?_,λb hb O=> ?_,hs.fr.rho,λj x hx=> ?_⟩,XR.none_ λj y hy=> ?_⟩
 .obtain⟨av,k1,E⟩:=hs.aO t v hv;exact⟨av,k1,zb hr rfl E⟩
 .rcases iL hx with⟨rfl,rfl,_⟩|⟨B,hx⟩
  .exact .inl ⟨a,_,X.rho,c.aq,K,rfl,N⟩
  .by_cases hd:x.dead=true
   .grind
   have hd:x.dead=false:=by simpa using hd
   rcases hs.heap.ob hx with⟨b,y,m1,m2,P⟩|m1|m1
   .refine .inl ⟨b,y,m1,(C j b m1 ⟨x,hx,hd⟩).trans m2,?_⟩;cases x with
    |box cs=>obtain⟨vs,p1,p2⟩:=P;exact⟨vs,p1,p2.1,λj h1 h2=>oL hr rfl (p2.2 j h1 h2)⟩
    |row T n xs=>exact P
    |map T kvs=>exact P
    |aN=>trivial
    |rows T xss ho=>trivial
   .grind
   .grind
 .by_cases d:i=id<;>by_cases H:j=id
  .omega
  .subst d;rw[X.rho]at k1;cases k1;exact absurd (w l2 H) (X.nl j E)
  .subst H;rw[X.rho]at E;cases E;exact absurd (w l1 d) (X.nl i k1)
  .exact hs.heap.inj i j b k1 E (w l1 d) (w l2 H)
 .by_cases d:j=id
  .subst d;rw[X.rho]at A;cases A;exact X.old hb
  .exact hs.fr.old j b A (w hl d) hb
 .have Q:b≠a:=λe=>by
   subst e;obtain⟨D,q1,q2⟩:=X.old hb;exact O D q1 q2
  rw[same b Q (λi m e=>by
   obtain⟨_,_,_,g⟩:=X.ak i b m C3 e;obtain⟨D,q1,q2⟩:=g hb;exact O D q1 q2)]
  exact hs.fr.same b hb O
 .by_cases d:j=id
  .subst d;have:=X.new;rw[hx]at this;cases this
  .obtain⟨y,q1,q2⟩:=hs.fr.ob j x hx;exact⟨y,by rw[sN (λe=>d e.symm)];exact q1,q2⟩
 .rcases iL hy with⟨rfl,rfl,_⟩|⟨B,hy⟩
  .rfl
  .grind
theorem MB{st:St}(hs:SR F ρ st L h){id:Nat}{T:Ty}{xss:RV (RV (I T))}(hr:st.H[id]? =some (.rows T xss none)):∃L2 h2,Abs.cQ L h L2 h2/\SR F ρ (st.fz id (.sl T) xss) L2 h2:=by
 obtain⟨h1,v,d⟩:=Da hs hr;obtain⟨L2,h2,j,t⟩:=K5 d (sS (gI.1 hr).1);refine⟨L2,h2,v.trans j,?_⟩;have e:St.fz id (.sl T) xss ⟨st.L,st.H.set id (.row (.sl T) 0 xss)⟩=st.fz id (.sl T) xss:=by
  unfold St.fz;simp only[List.set_set]
 rw[<-e];exact t
theorem ii:∀{ids:RV Nat}{st:St}{L:Env}{h:aD},SR F ρ st L h->∃L2 h2,Abs.cQ L h L2 h2/\SR F ρ (cJ ids st) L2 h2
 |[],st,L,h,hs=>⟨L,h,.refl _ _,hs⟩
 | id::ids,st,L,h,hs=>by
  simp only[cJ];split
  .rename_i T n xs hr;obtain⟨L2,h2,k1,d⟩:=K5 hs hr;obtain⟨j,t,v,w⟩:=ii (ids:=ids) d;exact⟨j,t,k1.trans v,w⟩
  .rename_i T xss hr;obtain⟨L2,h2,k1,d⟩:=MB hs hr;obtain⟨j,t,v,w⟩:=ii (ids:=ids) d;exact⟨j,t,k1.trans v,w⟩
  .exact ii hs
end
theorem ww:∀{d:RV Nat}{id j:Nat},pos d id=some j->d[j]? =some id
 |[],_,_,h=>Hm
 | k::d,id,j,h=>by
  simp only[pos]at h;split at h
  .rename_i hb;cases h;simp[nB hb]
  .split at h
   .rename_i m hm;cases h;simpa using ww hm
   .cases h
theorem oS:∀{d:RV Nat},io d=true->∀{i j x:Nat},d[i]? =some x->d[j]? =some x->i=j
 |[],_,_,_,_,h,_=>H0
 | k::d,t,i,j,x,h1,h2=>by
  simp only[io,bA,OF]at t;have hk:k∉d:=Hd
  cases i with
  | zero=>
   cases j with
   |zero=>rfl
   | succ j=>
    simp at h1 h2;subst h1;exact absurd (mG h2) hk
  | succ i=>
   cases j with
   | zero=>
    simp at h1 h2;subst h2;exact absurd (mG h1) hk
   |succ j=>simp at h1 h2;rw[oS t.2 h1 h2]
theorem pB{H:RV Ob}:∀{d:RV Nat}{xs:RV Ob},uH H d=some xs->xs.length=d.length/\∀(j id:Nat),d[j]? =some id->∃x,H[id]? =some x/\xs[j]? =some x
 |[],xs,h=>by cases h;exact⟨rfl,λj id h=>H0⟩
 | k::d,xs,h=>by
  simp only[uH]at h;split at h
  .rename_i x ys h1 h2;cases h;obtain⟨v,w⟩:=pB h2;refine⟨by simp[v],λj id t=> ?_⟩;cases j with
   |zero=>simp at t;subst t;exact⟨x,h1,rfl⟩
   |succ j=>exact w j id N0
  .cases h
theorem nq{g:Nat->Y Nat}:∀{xs ys:RV Ob},obs g xs=some ys->ys.length=xs.length/\∀(j:Nat)(x:Ob),xs[j]? =some x->∃y,ys[j]? =some y/\x.mv g=some y
 |[],ys,h=>by cases h;exact⟨rfl,λj id h=>H0⟩
 | k::w,xs,h=>by
  simp only[obs]at h;split at h
  .rename_i x ys h1 h2;cases h;obtain⟨t,v⟩:=nq h2;refine⟨QM,λj id d=> ?_⟩;cases j with
   |zero=>simp at d;subst d;exact⟨x,rfl,h1⟩
   |succ j=>exact v j id Q1
  .cases h
theorem hU{aB:RV Nat}{H d:RV Ob}(h:nJ aB H=some d):d.length=aB.length/\∀(j id:Nat),aB[j]? =some id->∃x y,H[id]? =some x/\x.mv (pos aB)=some y/\d[j]? =some y.anew:=by
 unfold nJ at h;split at h
 .rename_i xs h1;split at h
  .rename_i ys h2;cases h;obtain⟨t,v⟩:=pB h1;obtain⟨b1,b2⟩:=nq h2;refine⟨by simp[t,b1],λj id w=> ?_⟩;obtain⟨x,c1,c2⟩:=v j id w;obtain⟨y,A,d2⟩:=b2 j x c2;exact⟨x,y,c1,d2,by simp[A]⟩
  .cases h
 .cases h
def fp(ρ:Rho)(aB:RV Nat):Rho:=aB.map λid=>(ρ[id]?).getD none
def sW(g:Nat->Y Nat)(ρ:Rho)(H:RV Ob)(ρ':Rho)(H':RV Ob):Prop:=∀(id j:Nat),g id=some j->(∀x,ρ[id]? =some x->ρ'[j]? =some x)/\∀(x:Ob),H[id]? =some x->∃y n,H'[j]? =some y/\(x= .aN->y= .aN)/\(∀T m xs,x= .row T m xs->y= .row T n xs)/\∀T xss ho,x= .rows T xss ho->y= .rows T xss ho
section
variable {P : Program} {E : Abs.Cx} {F : In} {ρ ρ' : Rho} {H H' : RV Ob} {D : RV (Nat × AT)} {L : Env} {h : aD} {g : Nat → Y Nat}
theorem xB:∀{cs d:RV C},C.mv.mvK g cs=some d->d.length=cs.length/\∀(j:Nat)(h1:j<cs.length)(h2:j<d.length),cs[j].mv g=some d[j]
 | [],d,h=>by
  rw[C.mv.mvK.eq_def]at h;cases h;exact⟨rfl,λj h=>H0⟩
 | c::cs,d,h=>by
  rw[C.mv.mvK.eq_def]at h;simp only at h;split at h
  .rename_i x ys h1 h2;cases h;obtain⟨t,v⟩:=xB h2;refine⟨QM,λj k1 w=> ?_⟩;cases j with
   |zero=>exact h1
   |succ j=>exact v j Qv PZ
  .cases h
theorem Kx{id:Nat}{d:C}(hm:(C.o id).mv g=some d):∃j,g id=some j/\d= .o j:=by
 simp only[C.mv]at hm;split at hm
 .grind
 .cases hm
theorem Ld(A:sW g ρ H ρ' H'){c D:C}{v:V}(hc:CR ρ H c v)(hm:c.mv g=some D):CR ρ' H' D v:=by
 induction hc generalizing D with
 | fl h=>
  rename_i c v;have:D=c:=by cases h<;>(simp only[C.mv,NQ]at hm;exact hm.symm)
  rw[this];exact .fl h
 |lc h=>simp only[C.mv,NQ]at hm;subst hm;exact .lc h
 |nil h=>simp only[C.mv,NQ]at hm;subst hm;exact .nil h
 | o h1 h2=>
  obtain⟨j,w,rfl⟩:=Kx hm;obtain⟨k1,d⟩:=A _ _ w;obtain⟨y,n,t,_,B,_⟩:=d _ h2;have:=B _ _ _ rfl;subst this;exact .o (k1 _ h1) t
 | oN h1 h2=>
  obtain⟨j,w,rfl⟩:=Kx hm;obtain⟨k1,d⟩:=A _ _ w;obtain⟨y,n,t,_,B,_⟩:=d _ h2;have:=B _ _ _ rfl;subst this;exact .oN (k1 _ h1) t
 | oG h1=>
  obtain⟨j,w,rfl⟩:=Kx hm;obtain⟨k1,d⟩:=A _ _ w;obtain⟨y,n,t,F,_⟩:=d _ h1;rw[F rfl]at t;exact .oG t
 | oR h1 h2=>
  obtain⟨j,w,rfl⟩:=Kx hm;obtain⟨k1,d⟩:=A _ _ w;obtain⟨y,n,t,_,_,B⟩:=d _ h2;have:=B _ _ _ rfl;subst this;exact .oR (k1 _ h1) t
 |r _=>cases hm
 | p h1=>
  simp only[C.mv]at hm;split at hm
  .rename_i j E;cases hm;exact .p ((A _ _ E).1 _ h1)
  .cases hm
 |e _ _ _ _ _=>cases hm
 |eG _=>cases hm
 |q h=>simp only[C.mv,NQ]at hm;subst hm;exact .q h
 | @f fn caps vs hl hr G=>
  rw[C.mv.eq_def]at hm;simp only at hm;split at hm
  .rename_i I hd;cases hm;obtain⟨h1,h2⟩:=xB hd;exact .f (by rw[h1];exact hl) (λj k1 d=>G j A1 d (h2 j A1 k1))
  .cases hm
 | m h1=>
  simp only[C.mv]at hm;split at hm
  .rename_i j E;cases hm;exact .m ((A _ _ E).1 _ h1)
  .cases hm
 |zs=>simp only[C.mv,NQ]at hm;subst hm;exact .zs
 |zP=>simp only[C.mv,NQ]at hm;subst hm;exact .zP
 |zM=>simp only[C.mv,NQ]at hm;subst hm;exact .zM
 |zF=>simp only[C.mv,NQ]at hm;subst hm;exact .zF
theorem xG:∀{cs d:RV C},mvs g cs=some d->d.length=cs.length/\∀(j:Nat)(h1:j<cs.length)(h2:j<d.length),cs[j].mv g=some d[j]
 |[],d,h=>by cases h;exact⟨rfl,λj h=>H0⟩
 | c::cs,d,h=>by
  simp only[mvs]at h;split at h
  .rename_i x ys h1 h2;cases h;obtain⟨t,v⟩:=xG h2;refine⟨QM,λj k1 w=> ?_⟩;cases j with
   |zero=>exact h1
   |succ j=>exact v j Qv PZ
  .cases h
theorem Gy(h:sW g ρ H ρ' H'){cs d:RV C}{vs:RV V}(hc:CRs ρ H cs vs)(hm:mvs g cs=some d):CRs ρ' H' d vs:=by
 obtain⟨h1,h2⟩:=xG hm;exact⟨by rw[h1];exact hc.1,λj k1 t=>Ld h (hc.2 j A1 t) (h2 j A1 k1)⟩
theorem mI:∀{cs d:RV AT},AT.mv.mvA g cs=some d->d.length=cs.length/\∀(j:Nat)(h1:j<cs.length)(h2:j<d.length),cs[j].mv g=some d[j]
 | [],d,h=>by
  rw[AT.mv.mvA.eq_def]at h;cases h;exact⟨rfl,λj h=>H0⟩
 | c::cs,d,h=>by
  rw[AT.mv.mvA.eq_def]at h;simp only at h;split at h
  .rename_i x ys h1 h2;cases h;obtain⟨t,v⟩:=mI h2;refine⟨QM,λj k1 w=> ?_⟩;cases j with
   |zero=>exact h1
   |succ j=>exact v j Qv PZ
  .cases h
theorem vF(t:sW g ρ H ρ' H'){v u:AT}{w:AV}(hc:ATR ρ H v w)(hm:v.mv g=some u):ATR ρ' H' u w:=by
 induction hc generalizing u with
 | one h=>
  rw[AT.mv.eq_def]at hm;simp only at hm;split at hm
  .rename_i d hd;cases hm;exact .one (Ld t h hd)
  .cases hm
 | agg h=>
  rw[AT.mv.eq_def]at hm;simp only at hm;split at hm
  .rename_i d hd;cases hm;exact .agg (Gy t h hd)
  .cases hm
 | tup hl h y=>
  rw[AT.mv.eq_def]at hm;simp only at hm;split at hm
  .rename_i ys A;cases hm;obtain⟨h1,h2⟩:=mI A;exact .tup (by rw[h1];exact hl) (λj k1 B=>y j A1 B (h2 j A1 k1))
  .cases hm
theorem Kq{x:Ob}{y:Y Abs.Ob}(h:obR ρ H x y):obR ρ H x.anew y:=by cases x<;>exact h
theorem ye(j:sW g ρ H ρ' H'){x d:Ob}{y:Y Abs.Ob}(h:obR ρ H x y)(hm:x.mv g=some d):obR ρ' H' d y:=by
 cases x with
 | box cs=>
  obtain⟨vs,h1,h2⟩:=h;simp only[Ob.mv]at hm;split at hm
  .rename_i t hd;cases hm;exact⟨vs,h1,Gy j h2 hd⟩
  .cases hm
 |row T n xs=>cases hm;exact h
 |map T kvs=>cases hm;exact h
 |aN=>cases hm;trivial
 |rows T xss ho=>cases hm;trivial
theorem fV{x d:Ob}(hm:x.mv g=some d):(x= .aN->d= .aN)/\(∀T m xs,x= .row T m xs->d= .row T m xs)/\eM x d:=by
 cases x with
 | box cs=>
  simp only[Ob.mv]at hm;split at hm
  .cases hm;exact⟨λe=>H3,λ_ _ _ e=>H3,.inr (.inr (.inl ⟨_,_,rfl,rfl⟩))⟩
  .cases hm
 |row T n xs=>cases hm;exact⟨λe=>H3,λ_ _ _ e=>(by cases e;rfl),eM.refl _⟩
 |map T kvs=>cases hm;exact Rz
 |aN=>cases hm;exact⟨λ_=>rfl,λ_ _ _ e=>H3,eM.refl _⟩
 |rows T xss ho=>cases hm;exact Rz
theorem gG{x d:Ob}(hm:x.mv g=some d):d.dead=x.dead:=by
 cases x with
 | box cs=>
  simp only[Ob.mv]at hm;split at hm
  .cases hm;rfl
  .cases hm
 |_=>cases hm;rfl
theorem nN{x d:Ob}(hm:x.mv g=some d):∀T xss ho,x= .rows T xss ho->d= .rows T xss ho:=λT xss ho e=>by subst e;cases hm;rfl
theorem tV(x:Ob):x.anew.dead=x.dead:=by cases x<;>rfl
theorem jz(x:Ob):(x= .aN->x.anew= .aN)/\(∀T m xs,x= .row T m xs->x.anew= .row T 0 xs)/\eM x x.anew:=by
 cases x with
 |row T n xs=>exact⟨λe=>H3,λ_ _ _ e=>(by cases e;rfl),.inr (.inl ⟨T,n,xs,0,xs,rfl,rfl,rfl⟩)⟩
 |box cs=>exact Rz
 |map T kvs=>exact Rz
 |aN=>exact⟨λ_=>rfl,λ_ _ _ e=>H3,eM.refl _⟩
 |rows T xss ho=>exact Rz
theorem ll{aB:RV Nat}{d:RV Ob}(hk:nJ aB H=some d){j id:Nat}(h:aB[j]? =some id)(hl:live d j):live H id:=by
 obtain⟨k1,t⟩:=hU hk;obtain⟨z,v,w⟩:=hl;obtain⟨x,y,c1,c2,c3⟩:=t j id h;rw[v]at c3;cases c3;exact⟨x,c1,by rw[<-gG c2,<-tV y];exact w⟩
theorem n7{aB:RV Nat}{A:RV Ob}(hp:HpR ρ H h)(L:io aB=true)(hk:nJ aB H=some A):HpR (fp ρ aB) A h/\sW (pos aB) ρ H (fp ρ aB) A/\(∀(j id:Nat),aB[j]? =some id->(fp ρ aB)[j]? =ρ[id]?):=by
 obtain⟨k1,D⟩:=hU hk;have d:∀(j id:Nat),aB[j]? =some id->(fp ρ aB)[j]? =ρ[id]? :=λj id v=>by
  obtain⟨x,y,c1,_⟩:=D j id v;have hlt:id<ρ.length:=by rw[hp.len];exact(gI.1 c1).1
  simp[fp,v,gE hlt]
 have t:∀(j:Nat)(x:Y Nat),(fp ρ aB)[j]? =some x->∃id,aB[j]? =some id/\ρ[id]? =some x:=λj x hx=>by
  have hlt:=(gI.1 hx).1;simp[fp]at hlt;have e:=gE hlt;exact⟨_,e,by rw[<-d j _ e];exact hx⟩
 have B:sW (pos aB) ρ H (fp ρ aB) A:=λid j v=>by
  have v:=ww v;refine⟨λx hx=>by rw[d j id v];exact hx,λx hx=> ?_⟩;obtain⟨Q,y,c1,c2,c3⟩:=D j id v;rw[hx]at c1;cases c1;obtain⟨M,d2,_⟩:=fV c2;exact⟨_,0,c3,λe=>(jz y).1 (M e),λT m xs e=>(jz y).2.1 T m xs (d2 T m xs e),λT xss ho e=>by rw[nN c2 T xss ho e];rfl⟩
 have C:∀{j id:Nat},aB[j]? =some id->live A j->live H id:=λ{j id} v=>ll hk v
 refine⟨HpR.mk' (by simp[fp,k1]) (λj z I=> ?_) (λi j a h1 h2 l1 l2=> ?_) (λi a h1=> ?_),B,d⟩
 .have hlt:=(gI.1 I).1;rw[k1]at hlt;have e:=gE hlt;obtain⟨x,y,c1,c2,c3⟩:=D j _ e;rw[I]at c3;cases c3;rcases hp.ob c1 with⟨a,w,m1,N,E⟩|⟨m1,T,n,rfl,E⟩|hd
  .exact .inl ⟨a,w,by rw[d j _ e];exact m1,N,Kq (ye B E c2)⟩
  .cases c2;exact .inr (.inl ⟨by rw[d j _ e];exact m1,T,0,rfl,E⟩)
  .exact .inr (.inr (by rw[tV,gG c2];exact hd))
 .obtain⟨J,F,G⟩:=t i _ h1;obtain⟨O,K,P⟩:=t j _ h2;have:=hp.inj J O a G P (C F l1) (C K l2);subst this;exact oS L F K
 .obtain⟨J,F,G⟩:=t i _ h1;exact hp.lt _ _ G
end
def pP(ρ:Rho)(H:RV Ob)(D:RV (Nat×AT))(L:Env):Prop:=∀p∈D,∃d,L.lookup p.1=some d/\ATR ρ H p.2 d
theorem se{α:Type}{D:RV (Nat×α)}{t:Nat}{v:α}(h:D.lookup t=some v):(t,v)∈D:=by
 induction D with
 |nil=>simp at h
 | cons p D d=>
  obtain⟨k,z⟩:=p;rw[NT]at h;by_cases e:t=k
  .grind
  .grind
section
variable {P : Program} {E : Abs.Cx} {F : In} {ρ ρ' : Rho} {H H' : RV Ob} {D : RV (Nat × AT)} {L : Env} {h : aD}
theorem pP.enc(h:pP ρ H D L):bT ρ H D L:=λt v d=>h (t,v) (se d)
theorem pP.mono(e:Ev ρ H ρ' H')(h:pP ρ H D L):pP ρ' H' D L:=λp hp=>let⟨d,h1,h2⟩:=h p hp;⟨d,h1,h2.mono e⟩
theorem oh(hs:bT ρ H D L):∀ts,pP ρ H (aO D ts) L
 |[]=>λp hp=>by simp[aO]at hp
 | t::ts=>fun p hp=>by
  simp only[aO]at hp;split at hp
  .rename_i v d;rcases List.mem_cons.1 hp with rfl|hp
   .exact hs t v d
   .exact oh hs ts p hp
  .exact oh hs ts p hp
structure Mat(F:In)(h:aD)(ρ:Rho)(H:List Ob)(ρ':Rho)(H':List Ob):Prop where
 heap:HpR ρ' H' h
 ev:Ev ρ H ρ' H'
 fr:Fr F ρ' H' h
theorem Mat.refl(hp:HpR ρ H h)(d:Fr F ρ H h):Mat F h ρ H ρ H:=⟨hp,Ev.refl _ _,d⟩
theorem Mat.trans{d:Rho}{j:RV Ob}(a:Mat F h ρ H ρ' H')(b:Mat F h ρ' H' d j):Mat F h ρ H d j:=⟨b.heap,a.ev.trans b.ev,b.fr⟩
theorem uT{T:Ty}(d:0<szT T)(hp:HpR ρ H h)(j:Fr F ρ H h):Mat F h ρ H (ρ++[none]) (H++[.row T 0 []])/\CR (ρ++[none]) (H++[.row T 0 []]) (.o H.length) (.lit (.slice none 0 0)):=
 ⟨⟨hp.me d,Ev.push _ _,j.me hp.len _⟩,by obtain⟨m1,_⟩:=qj d hp;obtain⟨u,e,k⟩:=m1.aY;cases e;exact k⟩
theorem CR.nil'{T:Ty}{v:V}(hc:CR ρ H (.nil T) v):v= .lit (.slice none 0 0)/\0<szT T:=by
 cases hc with
 |fl h=>cases h
 |nil hp=>exact⟨rfl,hp⟩
theorem CRs.head{c:C}{cs:RV C}{vs:RV V}(h:CRs ρ H (c::cs) vs):∃v us,vs=v::us/\CR ρ H c v/\CRs ρ H cs us:=by
 cases vs with
 |nil=>have:=h.1;simp at this
 |cons v us=>exact⟨v,us,rfl,h.2 0 C3 C3,PV,λj h1 h2=>h.2 (j+1) Hl HA⟩
theorem qg:∀{cs:RV C}{H:RV Ob}{ρ:Rho}{vs:RV V},HpR ρ H h->Fr F ρ H h->CRs ρ H cs vs->∃ρ',Mat F h ρ H ρ' (ib cs H).2/\CRs ρ' (ib cs H).2 (ib cs H).1 vs
 |[],H,ρ,vs,hp,d,hc=>⟨ρ,Mat.refl hp d,hc⟩
 | c :: cs,H,ρ,vs,hp,d,hc=>by
  obtain⟨v,us,rfl,h1,h2⟩:=hc.head;by_cases e:∃T,c= .nil T
  .obtain⟨T,rfl⟩:=e;obtain⟨rfl,t⟩:=h1.nil';obtain⟨m1,w⟩:=uT t hp d;obtain⟨ρ',k1,j⟩:=qg m1.heap m1.fr (h2.mono m1.ev);exact⟨ρ',m1.trans k1,.cons (w.mono k1.ev) j⟩
  .obtain⟨ρ',k1,j⟩:=qg hp d h2;have:ib (c::cs) H=(c::(ib cs H).1,(ib cs H).2):=by
    simp only[ib];split
    .grind
    .rfl
   rw[this];exact⟨ρ',k1,.cons (h1.mono k1.ev) j⟩
theorem Jj{v:AT}{j:AV}(hp:HpR ρ H h)(d:Fr F ρ H h)(hc:ATR ρ H v j):∃ρ',Mat F h ρ H ρ' (xE v H).2/\ATR ρ' (xE v H).2 (xE v H).1 j:=by
 cases hc with
 | @one c u h1=>
  by_cases e:∃T,c= .nil T
  .obtain⟨T,rfl⟩:=e;obtain⟨rfl,t⟩:=h1.nil';obtain⟨m1,w⟩:=uT t hp d;exact⟨_,m1,.one w⟩
  .have:xE (.one c) H=(.one c,H):=by
    simp only[xE];split
    .grind
    .rfl
   rw[this];exact⟨ρ,Mat.refl hp d,.one h1⟩
 | agg h1=>
  obtain⟨ρ',k1,y⟩:=qg hp d h1;exact⟨ρ',k1,.agg y⟩
 |tup hl h1=>exact⟨ρ,Mat.refl hp d,.tup hl h1⟩
theorem Cj:∀{D:RV (Nat×AT)}{H:RV Ob}{ρ:Rho},HpR ρ H h->Fr F ρ H h->pP ρ H D L->∃ρ',Mat F h ρ H ρ' (uU D H).2/\pP ρ' (uU D H).2 (uU D H).1 L
 |[],H,ρ,hp,d,hs=>⟨ρ,Mat.refl hp d,hs⟩
 | (t, v)::D,H,ρ,hp,d,hs=>by
  obtain⟨w,h1,h2⟩:=hs (t,v) C3;obtain⟨y,k1,A⟩:=Jj hp d h2;obtain⟨j,m1,B⟩:=Cj k1.heap k1.fr (pP.mono k1.ev (D:=D) (L:=L) (λp hp=>hs p (by simp[hp])));refine⟨j,k1.trans m1,λp hp=> ?_⟩;simp only[uU]at hp;rcases List.mem_cons.1 hp with rfl|hp
  .exact⟨w,h1,A.mono m1.ev⟩
  .exact B p hp
theorem rI:∀(cs:RV C)(H:RV Ob),∃t,(ib cs H).2=H++t
 |[],H=>⟨[],by simp[ib]⟩
 | c::cs,H=>by
  simp only[ib];split
  .rename_i T;obtain⟨t,e⟩:=rI cs (H++[.row T 0 []]);exact⟨[.row T 0 []]++t,Qp⟩
  .exact rI cs H
theorem vK:∀{n:Nat}{H:RV Ob}{ρ:Rho},HpR ρ H h->Fr F ρ H h->∃ρ',Mat F h ρ H ρ' (wC n H)
 |0,H,ρ,hp,A=>⟨ρ,Mat.refl hp A⟩
 | n+1,H,ρ,hp,A=>by
  simp only[wC];split
  .rename_i cs hb;obtain⟨a,vs,h1,h2,C⟩:=hp.box n cs hb;obtain⟨v,k1,D⟩:=qg hp A C;have b1:(ib cs H).2[n]? =some (.box cs):=by
    obtain⟨t,e⟩:=rI cs H;rw[e,aL (gI.1 hb).1];exact hb
   have he:evo (.box cs) (.box (ib cs H).1):=.inr (.inr (.inl ⟨_,_,rfl,rfl⟩));have w:Ev v (ib cs H).2 v ((ib cs H).2.set n (.box (ib cs H).1)):=Ev.set b1 he;have hs:=k1.heap.set (y:=some (.row vs.length [vs])) (k1.ev.rho _ _ h1) b1 C3 he ⟨vs,rfl,D.mono w⟩;have d:h.set a (some (.row vs.length [vs]))=h:=by
    obtain⟨hlt,e⟩:=gI.1 h2;rw[<-e,List.set_getElem_self]
   rw[d]at hs;have j:=k1.fr.set (y:=some (.row vs.length [vs])) (k1.ev.rho _ _ h1) b1 C3 he;rw[d]at j;obtain⟨B,m1⟩:=vK (n:=n) hs j;exact⟨B,k1.trans (Mat.trans ⟨hs,w,j⟩ m1)⟩
  .exact vK hp A
theorem xL{g:Nat->Y Nat}(j:sW g ρ H ρ' H'):∀{D d:RV (Nat×AT)},mvL g D=some d->pP ρ H D L->pP ρ' H' d L
 |[],d,h,_=>by cases h;intro p hp;simp at hp
 | (t, v)::D,d,h,hs=>by
  simp only[mvL]at h;split at h
  .rename_i u B h1 h2;cases h;intro p hp;rcases List.mem_cons.1 hp with rfl|hp
   .obtain⟨w,k1,y⟩:=hs (t,v) C3;exact⟨w,k1,vF j y h1⟩
   .exact xL j h2 (λq A=>hs q (by simp[A])) p hp
  .cases h
theorem zX:∀{a b:RV Nat},eqL a b=true->a=b
 |[],[],_=>rfl
 |[],_::_,h=>Hm
 |_::_,[],h=>Hm
 | x::a,y::b,h=>by
  simp only[eqL,bA]at h;rw[nB h.1,zX h.2]
def In.ok(F:In)(r:Nat):Prop:=F.ρ.length=r/\F.H.length=r
theorem Fr.pick{aB:RV Nat}{v:RV Ob}{r:Nat}(d:Fr F ρ H h)(hp:HpR ρ H h)(hi:F.ok r)(w:io aB=true)(hr:aB.take r=List.range r)(hk:nJ aB H=some v):Fr F (fp ρ aB) v h:=by
 obtain⟨_,_,j⟩:=n7 hp w hk;obtain⟨k1,A⟩:=hU hk;have t:∀id,id<r->aB[id]? =some id:=λid hid=>by
  have:(aB.take r)[id]? =(List.range r)[id]? :=by rw[hr]
  rw[List.getElem?_take_of_lt hid]at this;rw[this];simp[hid]
 refine⟨d.len,λid a h1 hl h2=> ?_,d.same,λid x h1=> ?_,λid x h1=> ?_⟩
 .have hlt:=(gI.1 h1).1;simp[fp]at hlt;have e:=gE hlt;rw[j id _ e]at h1;exact d.old _ a h1 (ll hk e hl) h2
 .have hid:id<r:=by rw[<-hi.1];exact(gI.1 h1).1
  rw[j id id (t id hid)];exact d.rho id x h1
 .have hid:id<r:=by rw[<-hi.2];exact(gI.1 h1).1
  obtain⟨y,m1,B⟩:=d.ob id x h1;obtain⟨D,C,c1,c2,c3⟩:=A id id (t id hid);rw[m1]at c1;cases c1;exact⟨_,c3,(B.trans (fV c2).2.2).trans (jz C).2.2⟩
theorem lb:∀(cs:RV C)(H:RV Ob),bW H (ib cs H).2
 |[],H=>.refl H
 | c::cs,H=>by
  simp only[ib];split
  .rename_i T;refine bW.trans (H2:=H++[.row T 0 []]) (λid y h1 h2=> ?_) (lb cs _);rcases dA h1 with⟨_,h1⟩|⟨_,rfl⟩
   .exact h1
   .cases h2
  .exact lb cs H
theorem Ex(v:AT)(H:RV Ob):bW H (xE v H).2:=by
 unfold xE;split
 .split
  .intro id y h1 h2;rcases dA h1 with⟨_,h1⟩|⟨_,rfl⟩
   .exact h1
   .cases h2
  .exact .refl H
 .exact lb _ H
 .exact .refl H
theorem ut:∀(D:RV (Nat×AT))(H:RV Ob),bW H (uU D H).2
 |[],H=>.refl H
 | (t,v)::D,H=>by
  simp only[uU];exact(Ex v H).trans (ut D _)
theorem oZ:∀(n:Nat)(H:RV Ob),bW H (wC n H)
 |0,H=>.refl H
 | n+1,H=>by
  simp only[wC];split
  .rename_i cs hb;refine bW.trans (H2:=(ib cs H).2.set n (.box (ib cs H).1)) (λid y h1 h2=> ?_) (oZ n _);rcases iL h1 with⟨_,rfl,_⟩|⟨_,h1⟩
   .cases h2
   .exact lb cs H id y h1 h2
  .exact oZ n H
theorem JJ(D:RV (Nat×AT))(n:Nat)(H:RV Ob):bW H (uU D (wC n H)).2:=(oZ n H).trans (ut D _)
theorem XR.pick{aB:RV Nat}{A:RV Ob}{r:Nat}(hx:XR F ρ H h)(hp:HpR ρ H h)(hi:F.ok r)(C:io aB=true)(hr:aB.take r=List.range r)(hk:nJ aB H=some A):XR F (fp ρ aB) A h:=λj T xss ho G=>by
 obtain⟨_,_,t⟩:=n7 hp C hk;obtain⟨k1,I⟩:=hU hk
 -- rows of own rows D from E
 have d:∀(j:Nat)(y:Ob),A[j]? =some y->y.eR=true->∃id,aB[j]? =some id/\H[id]? =some y:=λj y B hr=>by
  have hlt:=(gI.1 B).1;rw[k1]at hlt;have e:=gE hlt;obtain⟨x,z,c1,c2,c3⟩:=I j _ e;rw[B]at c3;cases c3;refine⟨_,e,?_⟩;cases x with
  |rows T xss ho=>cases c2;exact c1
  | box cs=>
   simp only[Ob.mv]at c2;split at c2
   .cases c2;cases hr
   .cases c2
  |_=>cases c2;cases hr
 obtain⟨id,e,hid⟩:=d j _ G rfl;obtain⟨u,a,es,X⟩:=hx id T xss ho hid;have nl:∀b,jN ρ H b->jN (fp ρ aB) A b:=λb hb i hi hl=>by
  have hlt:=(gI.1 hi).1;simp[fp]at hlt;have e:=gE hlt;rw[t i _ e]at hi;exact hb _ hi (ll hk e hl)
 refine⟨λJ y B v=> ?_,a,es,by rw[t j id e];exact X.rho,X.aq,X.len,X.pos,X.one,nl a X.nl,X.old,?_,X.sub,λk b n g1 K=>let⟨q1,q2,q3,q4⟩:=X.ak k b n g1 K;⟨q1,q2,nl b q3,q4⟩,X.inj⟩
 .obtain⟨id',L,w⟩:=d J y B v;have:=u id' y w v;subst this;exact oS C L e
 .by_cases hlt:j<r
  .have:aB[j]? =some j:=by
    have:(aB.take r)[j]? =(List.range r)[j]? :=by rw[hr]
    rw[List.getElem?_take_of_lt hlt]at this;rw[this];simp[hlt]
   rw[e]at this;cases this;exact X.new
  .exact List.getElem?_eq_none (by rw[hi.2];omega)
theorem cD{R:Type}{r:Nat}{lv:RV Nat}{st:St}{K:St->Y R}{x:R}(hi:F.ok r)(hs:SR F ρ st L h)(hk:dQ r lv st K=some x):∃ρ' d,K d=some x/\SR F ρ' d L h:=by
 unfold dQ at hk;obtain⟨t,j⟩:=vK (n:=st.H.length) hs.heap (Fr.refl ρ st.H h);obtain⟨v,b1,b2⟩:=Cj j.heap j.fr (pP.mono j.ev (oh hs.aO lv));simp only at hk;split at hk
 .rename_i H' L' h1 h2 w;simp only[bA]at h1;obtain⟨c1,c2,_⟩:=n7 b1.heap h1.1 h2;exact⟨_,_,hk,(xL c2 w b2).enc,c1,(hs.fr.trans b1.fr).pick b1.heap hi h1.1 (zX h1.2) h2,XR.pick (hs.xr.aB b1.fr (JJ _ _ _)) b1.heap hi h1.1 (zX h1.2) h2⟩
 .cases hk
end
end Go.Proofs.YtigoabbppmdfpaaGreat.Den
namespace Go.Proofs.YtigoabbppmdfpaaGreat.Abs
open Go.RowKit
theorem ARs.app{ι:RV Inf}{I:Nat->Prop}{w:World}{a b:RV AV}{cs d:Array Value}(h:ARs ι I w a cs)(k:ARs ι I w b d):ARs ι I w (a++b) (cs++d):=by
 refine⟨by simp[h.1,k.1],λj t=> ?_⟩;by_cases e:j<a.length
 .obtain⟨c,h1,h2⟩:=h.2 j e;exact⟨c,by rw[OC (by rw[h.1];exact e)];exact h1,by rw[O4 e];exact h2⟩
 .obtain⟨c,h1,h2⟩:=k.2 (j-a.length) (by simp at t;omega);exact⟨c,by rw[Array.getElem?_append_right (by rw[h.1];omega),h.1];exact h1,by rw[O2 A1];exact h2⟩
theorem AR.clo'{ι:RV Inf}{I:Nat->Prop}{w:World}{fn:Go.Fn}{vs:RV V}{c:Value}(h:AR ι I w (.one (.clo fn vs)) c):∃cs,c= .func fn #[] cs/\ARs ι I w (vs.map .one) cs:=by
 cases h with
 | one h=>
  cases h with
  |clo hl d hr=>exact⟨_,rfl,PS,λj t=>⟨_,d j N0,by rw[NY];exact .one (hr j N0)⟩⟩
def Bb:Value->Array Value
 | .func _ _ cs=>cs
 |_=> #[]
section
variable {P : Program} {E : Cx} {K : Env → aD → Prop} {L : Env} {h : aD} {d f : Nat} {x : Operand} {ac : RV Operand} {tys : Array TypeId} {ty : TypeId} {pos : String} {af : Array Edge} {gd : Y (Nat × Bool)} {avs xs : RV AV} {vs : RV V} {R : AV → aD → Prop}
theorem rj(hc:ga P f)(j:ev L x=some (.one (.clo (.func f) vs))){ι:RV Inf}{I:Nat->Prop}{a:Act}{w:World}(r:Rel E L h ι I a w):
  (execOp a.eval (⟨some d,.call ⟨.value x,ac.toArray,tys⟩,ty,pos,af,gd⟩:Oper)).run P w= .ok (.enter f ((ac.map a.eval).toArray++Bb (a.eval x))) w:=by
 obtain⟨cs,e,_⟩:=(r.ev j).clo';simp[execOp,resolve,e,Deferred.ofValue,invoke,hc.run,Bb]
theorem oz(d:ev L x=some (.one (.clo (.func f) vs)))(hx:evs L ac=some avs){ι:RV Inf}{I:Nat->Prop}{a:Act}{w:World}(r:Rel E L h ι I a w):ARs ι I w (avs++vs.map .one) ((ac.map a.eval).toArray++Bb (a.eval x)):=by
 obtain⟨cs,e,k⟩:=(r.ev d).clo';rw[e];exact(r.evs hx).app k
theorem wz(j:ev L x=some (.one (.clo (.func f) vs)))(hx:evs L ac=some avs)(v:d<E.n)(t:Fn P f xs h R)(y:∀ι I w cs,ARs ι I w (avs++vs.map .one) cs->ARs ι I w xs cs)(hk:∀r h',R r h'->K ((d,r)::L) h'):
  ar P ⟨some d,.call ⟨.value x,ac.toArray,tys⟩,ty,pos,af,gd⟩ E K L h:=
 G4 (cs:=λa=>(ac.map a.eval).toArray++Bb (a.eval x)) rfl v (λ_ _ ⟨_,_,r⟩=>rj t.1 j r) (λ_ _ _ _ r=>y _ _ _ _ (oz j hx r)) t hk
theorem Ia{h1:aD}(Q:ev L x=some (.one (.clo (.func f) vs)))(hx:evs L ac=some avs)(U:d<E.n)(S:Fn P f xs h1 R)
  (M:∀(L:Env)(ι:RV Inf)(I:Nat->Prop)(a:Act)(w:World),Rel E L h ι I a w->∃T,Rel E L h1 ι T a w/\∀cs,ARs ι I w (avs++vs.map .one) cs->ARs ι T w xs cs) (hk:∀r h',R r h'->K ((d,r)::L) h'):
  ar P ⟨some d,.call ⟨.value x,ac.toArray,tys⟩,ty,pos,af,gd⟩ E K L h:=by
 refine⟨λLf ι I0 a w N=> ?_⟩;unfold Oper.wp;rw[rj S.1 Q N.low,Oper.upon_enter];obtain⟨I,r,hc⟩:=M _ _ _ _ _ N;refine(S.2 w I ι _ r.heap r.imm (hc _ (oz Q hx N.low))).mono ?_;rintro e w' ⟨v,h',ι',J,c,V,rfl,D⟩;have O:cB I (λb=>I b\/J b) w w':=⟨λb hb=>.inl hb,λb hb=>by
  rw[D.frame b (r.imm b hb) (λ⟨id,o,inf,x,y,e⟩=>r.heap.off id o inf x y (e▸hb))]⟩
 have B:cB J (λb=>I b\/J b) w' w':=⟨λb hb=>.inr hb,λ_ _=>rfl⟩;refine⟨_,h',ι',λb=>I b\/J b,hk v h' V,Rel.put (c:=c) ?_ U (D.res.aB (bn.refl _) B)⟩;exact
 { aO   :=fun t u W=>let⟨c,x,y⟩:=r.aO t u W;⟨c,x,y.aB D.pre O⟩
   heap := ⟨D.heap.len,fun id o inf x y=>(D.heap.obj id o inf x y).aB (bn.refl _) B rfl,fun id o inf x y hb=>by
     rcases hb with hb|hb
     · rcases D.cc id o inf x y with⟨A,C,j,F,G,H⟩|hge
       · exact r.heap.off A C j F G (H▸hb)
       · have:=r.imm _ hb;omega
     · exact D.heap.off id o inf x y hb,D.heap.inj,λb c t hb=>.inl (r.heap.sub b c t hb)⟩
   imm:=λb hb=>by
     rcases hb with hb|hb
     · have:=r.imm b hb;have:=D.grown;omega
     · exact D.imm b hb
   cY:=λb hb=>by
     rcases hb with hb|hb
     · exact r.cY b hb
     · rcases D.cY b hb with hb|⟨A,C,j,F,G,H⟩|hb
       · exact r.cY b hb
       · rw[<-H];exact .inr (r.cc A C j F G)
       · exact .inr (.inr (NS r.grown hb))
   pre:=r.pre.trans D.pre
   os:=D.os.trans r.os
   tape:=D.tape.trans r.tape
   output:=D.output.trans r.output
   grown:=NS r.grown D.grown
   frame:=λb x y=>by
     rw [D.frame b PQ (fun⟨id,o,inf,X,Y,e⟩=>by
       rcases r.cc id o inf X Y with hp|hp
       · grind
       · omega)]
     exact r.frame b x y
   cc:=λid o inf x y=>by
     rcases D.cc id o inf x y with⟨A,C,j,F,G,H⟩|hge
     · rw[<-H];exact r.cc A C j F G
     · exact .inr PQ
   defers:=r.defers
   size:=r.size}
theorem zR(C:ev L x=some (.one (.clo (.func f) vs)))(hx:evs L ac=some avs)(J:d<E.n)(F:Fn P f xs [] R)(B:∀r h',R r h'->∀ι I w ι' G w' c,AR ι I w r c->AR ι' G w' r c)
  (hb:∀ι I a w,Rel E L h ι I a w->∀cs,ARs ι I w (avs++vs.map .one) cs->ARs [] (λb=>b<w.heap.size) w xs cs) (hk:∀r h',R r h'->K ((d,r)::L) h):
  ar P ⟨some d,.call ⟨.value x,ac.toArray,tys⟩,ty,pos,af,gd⟩ E K L h:=by
 refine⟨λLf ι I a w r=> ?_⟩;unfold Oper.wp;rw[rj F.1 C r.low,Oper.upon_enter];refine(F.2 w (λb=>b<w.heap.size) [] _ (HR.nil _ w λb c t hb=>r.imm b (r.heap.sub b c t hb)) (λ_ h=>h) (hb ι I a w r.low _ (oz C hx r.low))).mono ?_;rintro e w' ⟨v,h',ι',G,c,H,rfl,D⟩;have j:∀b,b<w.heap.size->w'.heap[b]? =w.heap[b]? :=λb hb=>D.frame b hb (ou b);have A:cB I I w w':=⟨λ_ h=>h,λb hb=>by rw[j b (r.imm b hb)]⟩;refine⟨_,h,ι,I,hk v h' H,Rel.put (c:=c) ?_ J (B v h' H _ _ _ _ _ _ _ D.res)⟩;exact
 { aO:=fun t u M=>let⟨c,x,y⟩:=r.aO t u M;⟨c,x,y.aB (bn.refl _) A⟩
   heap:=⟨r.heap.len,λid o inf x y=>(r.heap.obj id o inf x y).aB (bn.refl _) A (j _ (r.heap.blk x y)),r.heap.off,r.heap.inj,r.heap.sub⟩
   imm:=λb hb=>by have:=r.imm b hb;have:=D.grown;omega
   cY:=r.cY
   pre:=r.pre
   os:=D.os.trans r.os
   tape:=D.tape.trans r.tape
   output:=D.output.trans r.output
   grown:=NS r.grown D.grown
   frame:=λb x y=>by rw[j b PQ];exact r.frame b x y
   cc:=r.cc
   defers:=r.defers
   size:=r.size}
end
end Go.Proofs.YtigoabbppmdfpaaGreat.Abs
namespace Go.Proofs.YtigoabbppmdfpaaGreat.Den
open Go.RowKit
open Abs (V AV Env aD ar)
def cN(ρ:Rho)(H:RV Ob)(xs:RV AT)(avs:RV AV):Prop:=xs.length=avs.length/\∀(j:Nat)(h1:j<xs.length)(h2:j<avs.length),ATR ρ H xs[j] avs[j]
def CFn(P:Program)(f:FuncId)(xs:RV AT)(H:RV Ob)(v:AT)(H':RV Ob):Prop:=
 ∀(ρ:Rho)(h:aD)(avs:RV AV),HpR ρ H h->cN ρ H xs avs->Abs.Fn P f avs h (λr h'=>∃ρ',ATR ρ' H' v r/\HpR ρ' H' h'/\Fr ⟨h,ρ,H⟩ ρ' H' h')
def MF(P:Program)(f:FuncId)(xs:RV AT)(H:RV Ob)(S:AT×RV Ob->Prop):Prop:=
 ∀(ρ:Rho)(h:aD)(avs:RV AV),HpR ρ H h->cN ρ H xs avs->Abs.Fn P f avs h (λr h'=>∃q ρ',S q/\ATR ρ' q.2 q.1 r/\HpR ρ' q.2 h'/\Fr ⟨h,ρ,H⟩ ρ' q.2 h')
def fj(P:Program)(O:Orc):Prop:=∀(R:Type)(f:Nat)(xs:RV AT)(H:RV Ob)(K:AT->RV Ob->Y R)(r:R),O.call R f xs H K=some r->
 (Nat.beq (O.mode f) 3=false->∃v H',K v H'=some r/\CFn P f xs H v H')/\(Nat.beq (O.mode f) 3=true->∃S,(∀q,S q->K q.1 q.2=some r)/\MF P f xs H S)
def GP(P:Program)(e:Ent):Prop:=∀(R:Type)(xs:RV AT)(H:RV Ob)(K:AT->RV Ob->Y R)(r:R),e.call R xs H K=some r->∃v H',K v H'=some r/\CFn P e.f xs H v H'
theorem rN:∀{l:RV Ent}{f:Nat}{e:Ent},tT l f=some e->e∈l/\e.f=f
 |[],_,_,h=>Hm
 | x::l,f,e,h=>by
  simp only[tT]at h;cases hb:Nat.beq x.f f with
  | true=>
   rw[hb]at h;cases h;exact⟨C3,nB hb⟩
  | false=>
   rw[hb]at h;obtain⟨h1,h2⟩:=rN h;exact⟨by simp[h1],h2⟩
def Mq(P:Program)(e:Ent):Prop:=∀(R:Type)(xs:RV AT)(H:RV Ob)(K:AT->RV Ob->Y R)(r:R),e.call R xs H K=some r->∃S,(∀q,S q->K q.1 q.2=some r)/\MF P e.f xs H S
def zL(P:Program)(e:Ent):Prop:=match Nat.beq e.mode 3 with
 |true=>Mq P e
 |false=>GP P e
def o7(P:Program):RV Ent->Prop
 |[]=>True
 |e::l=>zL P e/\o7 P l
theorem o7.mem{P:Program}:∀{l:RV Ent},o7 P l->∀e∈l,zL P e
 |[],_,e,he=>by simp at he
 | x::l,h,e,he=>by
  rcases List.mem_cons.1 he with rfl|he
  .exact h.1
  .exact h.2.mem e he
theorem iS{P:Program}{l:RV Ent}(h:o7 P l):fj P (cP l):=λR f xs H K r hc=>by
 simp only[cP]at hc;split at hc
 .rename_i e he;obtain⟨h1,rfl⟩:=rN he;have k:=h.mem e h1;unfold zL at k;have hm:(cP l).mode e.f=e.mode:=by simp only[cP,he]
  rw[hm];refine⟨λg=> ?_,λg=> ?_⟩
  .rw[g]at k;exact k R xs H K r hc
  .rw[g]at k;exact k R xs H K r hc
 .cases hc
section
variable {P : Program} {E : Abs.Cx} {F : In} {ρ ρ' : Rho} {H H' : RV Ob} {D : RV (Nat × AT)} {L : Env} {h h' : aD} {g : Nat → Y Nat} {R : Type}
theorem cN.mono(e:Ev ρ H ρ' H'){xs:RV AT}{avs:RV AV}(h:cN ρ H xs avs):cN ρ' H' xs avs:=⟨h.1,λj h1 h2=>(h.2 j h1 h2).mono e⟩
theorem cN.et:cN ρ H [] []:=⟨rfl,λj h=>H0⟩
theorem cN.cons{x:AT}{d:AV}{xs:RV AT}{avs:RV AV}(h:ATR ρ H x d)(k:cN ρ H xs avs):cN ρ H (x::xs) (d::avs):=
 ⟨by simp[k.1],fun j h1 h2=>by
  cases j with
  |zero=>exact h
  |succ j=>exact k.2 j Hl HA⟩
theorem cN.head{x:AT}{xs:RV AT}{avs:RV AV}(h:cN ρ H (x::xs) avs):∃t d,avs=t::d/\ATR ρ H x t/\cN ρ H xs d:=by
 cases avs with
 |nil=>have:=h.1;simp at this
 |cons v us=>exact⟨v,us,rfl,h.2 0 C3 C3,PV,λj h1 h2=>h.2 (j+1) Hl HA⟩
theorem cN.app{a b:RV AT}{x y:RV AV}(h:cN ρ H a x)(k:cN ρ H b y):cN ρ H (a++b) (x++y):=
 ⟨by simp [h.1,k.1],fun j h1 h2=>by
   by_cases t:j<a.length
   · have d:j<x.length:=by rw[<-h.1];exact t
     rw[O4 t,O4 d];exact h.2 j t d
   · have d:¬j<x.length:=by rw[<-h.1];exact t
     rw[O2 A1,O2 A1];have:=k.2 (j-a.length) K0 Q7;have e:=h.1;simp only[e]at this ⊢;exact this⟩
theorem CRs.ats{cs:RV C}{vs:RV V}(h:CRs ρ H cs vs):cN ρ H (cs.map .one) (vs.map .one):=
 ⟨PY,λj h1 h2=>by simp only[NY];exact .one (h.2 j Hl HA)⟩
theorem CR.clo{f:Nat}{caps:RV C}{v:V}(h:CR ρ H (.f f caps) v):∃vs,v= .clo (.func f) vs/\CRs ρ H caps vs:=by
 cases h with
 |fl h=>cases h
 |f hl hr=>exact⟨_,rfl,hl,hr⟩
def oP(avs d:RV AV):Prop:=avs.length=d.length/\∀(j:Nat)(h1:j<avs.length)(h2:j<d.length),∀ι I w u,Abs.AR ι I w avs[j] u->Abs.AR ι I w d[j] u
theorem oP.ars{avs d:RV AV}(h:oP avs d){ι:RV Abs.Inf}{I:Nat->Prop}{w:World}{cs:Array Value}(k:Abs.ARs ι I w avs cs):Abs.ARs ι I w d cs:=
 ⟨by rw[k.1,h.1],fun j t=>by
  obtain⟨c,h1,h2⟩:=k.2 j (by rw[h.1];exact t);exact⟨c,h1,h.2 j _ t _ _ _ _ h2⟩⟩
theorem oP.et:oP [] []:=⟨rfl,λj h=>H0⟩
theorem oP.cons{a b:AV}{avs d:RV AV}(h:∀ι I w u,Abs.AR ι I w a u->Abs.AR ι I w b u)(k:oP avs d):oP (a::avs) (b::d):=
 ⟨by simp[k.1],fun j h1 h2=>by
  cases j with
  |zero=>exact h
  |succ j=>exact k.2 j Hl HA⟩
theorem gW:∀{xs ys:RV AT}{avs:RV AV},dD [] xs=some ys->cN ρ H xs avs->∃d,cN [] [] ys d/\Abs.AV.iK d=true/\oP avs d
 | [],ys,avs,hp,hr=>by
  cases hp;have:=hr.1;cases avs with
  |nil=>exact⟨[],.et,rfl,.et⟩
  |cons _ _=>simp at this
 | x::xs,ys,avs,hp,hr=>by
  simp only[dD]at hp;split at hp
  .rename_i y h h1 h2;cases hp;obtain⟨D,avs,rfl,j,t⟩:=hr.head;obtain⟨v,k1,w,A⟩:=ug h1 j;obtain⟨d,m1,B,C⟩:=gW h2 t;exact⟨v::d,.cons k1 m1,by simp[Abs.AV.iK,w,B],.cons A C⟩
  .cases hp
theorem HpR.ext(hp:HpR ρ H h)(hl:h.length<=h'.length)(hs:∀a,a<h.length->h'[a]? =h[a]?):HpR ρ H h':=
 HpR.mk' hp.len (λid x hx=>by
  rcases hp.ob hx with⟨a,z,k1,d,j⟩|k1|k1
  .exact .inl ⟨a,z,k1,by rw[hs a (hp.lt _ _ k1)];exact d,j⟩
  .exact .inr (.inl k1)
  .exact .inr (.inr k1)) hp.inj (λi a h1=>by have:=hp.lt i a h1;omega)
theorem Fr.ext(d:Fr F ρ H h)(hl:h.length<=h'.length)(hs:∀a,a<h.length->h'[a]? =h[a]?):Fr F ρ H h':=
 d.step (Ev.refl _ _) hl (λid _ h1 l=>.inl ⟨id,h1,l⟩) (λa h1 _=>hs a h1)
theorem HpR.et:HpR [] [] h:=HpR.mk' rfl (λid x hx=>Q4) (λi j a h1 _ _ _=>QO) (λi a h1=>QO)
theorem qr{j:RV Ob}{c d:C}(h:pf j c=some d):iE d=true\/d= .zs:=by
 unfold pf at h;split at h
 all_goals first
  |(cases h;done)
  |(cases h;first|exact .inl rfl|exact .inr rfl)
  |(split at h<;>first|(cases h;done)|(cases h;exact .inl rfl))
theorem CR.up2{d:Rho}{t:RV Ob}{c:C}{v:V}(j:iE c=true\/c= .zs)(h:CR d t c v):CR ρ H c v:=by
 rcases j with j|rfl
 .exact h.up j
 .cases h with
  |fl h=>cases h
  |zs=>exact .zs
theorem pL{t:RV Ob}:∀{cs j:RV C},eW t cs=some j->∀d∈j,iE d=true\/d= .zs
 |[],j,h=>by cases h;simp
 | c::cs,j,h=>by
  simp only[eW]at h;split at h
  .rename_i x xs h1 h2;cases h;intro d hd;rcases List.mem_cons.1 hd with rfl|hd
   .exact qr h1
   .exact pL h2 d hd
  .cases h
theorem yH{v w:RV Ob}{d:Rho}{x y:AT}{t:AV}(hp:gX v x=some y)(h:ATR d w y t):ATR ρ H y t:=by
 cases x with
 | one c=>
  simp only[gX,O3]at hp;obtain⟨A,h1,rfl⟩:=hp;cases h with
  |one k=>exact .one (k.up2 (qr h1))
 | agg cs=>
  simp only[gX,O3]at hp;obtain⟨B,h1,rfl⟩:=hp;cases h with
  |agg k=>exact .agg ⟨k.1,λj a b=>(k.2 j a b).up2 (pL h1 _ (gM a))⟩
 |tup _=>cases hp
theorem nO{O:Orc}{f:Nat}:∀{j:Nat}{xs ys:RV AT}{H H':RV Ob}{ρ:Rho}{avs:RV AV},kH O f j xs H=some (ys,H')->HpR ρ H h->Fr F ρ H h->cN ρ H xs avs->∃ρ' d,Mat F h ρ H ρ' H'/\cN ρ' H' ys d/\oP avs d
 | j,[],ys,H,H',ρ,avs,hc,hp,t,hr=>by
  simp only[kH]at hc;cases hc;have:=hr.1;cases avs with
  |nil=>exact⟨ρ,[],Mat.refl hp t,.et,.et⟩
  |cons _ _=>simp at this
 | j, x::xs,ys,H,H',ρ,avs,hc,hp,t,hr=>by
  obtain⟨G,avs,rfl,A,B⟩:=hr.head;unfold kH at hc;split at hc
  .split at hc
   .rename_i y v H2 h1 h2;cases hc;obtain⟨I,k1,M,J⟩:=ug h1 A;obtain⟨ρ',d,m1,C,K⟩:=nO h2 hp t B;exact⟨ρ',I::d,m1,.cons (yH h1 k1) C,.cons J K⟩
   .cases hc
  .split at hc
   .rename_i T;split at hc
    .rename_i v H2 h2;cases hc;cases A with
     | one k=>
      obtain⟨rfl,L⟩:=k.nil';obtain⟨m1,C⟩:=uT L hp t;obtain⟨ρ',d,w,D,E⟩:=nO h2 m1.heap m1.fr (B.mono m1.ev);exact⟨ρ',_::d,m1.trans w,.cons (.one (C.mono w.ev)) D,.cons (λ_ _ _ _ h=>h) E⟩
    .cases hc
   .split at hc
    .rename_i v H2 h2;cases hc;obtain⟨ρ',d,w,D,E⟩:=nO h2 hp t B;exact⟨ρ',G::d,w,.cons (A.mono w.ev) D,.cons (λ_ _ _ _ h=>h) E⟩
    .cases hc
end
end Go.Proofs.YtigoabbppmdfpaaGreat.Den
namespace Go.Proofs.YtigoabbppmdfpaaGreat.Den
open Go.RowKit
open Abs (V AV Env aD ar)
theorem fE:∀(d:RV Nat)(H xs:RV Ob),(cG H d xs).length=H.length
 |[],H,xs=>by simp[cG]
 |k::d,H,[]=>by simp[cG]
 | k::d,H,x::xs=>by
  simp only[cG];rw[fE d];split<;>simp
theorem g9:∀(d:RV Nat)(H xs:RV Ob){id:Nat},id∉d->(cG H d xs)[id]? =H[id]?
 |[],H,xs,id,_=>by simp[cG]
 |k::d,H,[],id,_=>by simp[cG]
 | k::d,H,x::xs,id,j=>by
  simp only[cG];rw[g9 d _ xs (λh=>j (by simp[h]))];split
  .grind
  .rfl
theorem uj:∀(d:RV Nat)(H xs:RV Ob){j id:Nat}{x o:Ob},io d=true->d[j]? =some id->xs[j]? =some x->H[id]? =some o->(cG H d xs)[id]? =some (o.bump x)
 |[],H,xs,j,id,x,o,_,h,_,_=>H0
 |k::d,H,[],j,id,x,o,_,_,hx,_=>Q4
 | k::d,H,y::ys,j,id,x,o,t,h,hx,ho=>by
  have v:=t;simp only[io,bA,OF]at t;simp only[cG];cases j with
  | zero=>
   simp at h hx;subst h hx;have hk:k∉d:=λhm=>Hd
   rw[g9 d _ ys hk,ho];simp only;exact sS (gI.1 ho).1
  | succ j=>
   have w:k≠id:=λe=>Hd
   refine uj d _ ys t.2 QS (by simpa using hx) ?_;split
   .grind
   .exact ho
theorem EU{x y:Ob}(h:eM x y):evo x (x.bump y):=by
 rcases h with rfl|⟨T,n,xs,n',d,rfl,rfl,h⟩|⟨cs,v,rfl,rfl⟩|⟨T,a,b,rfl,rfl⟩|⟨T,xss,ho,rfl,w,j,t,rfl,h⟩
 .exact RS
 .exact .inr (.inl ⟨T,n,xs,n+1,d,rfl,rfl,h,A1,λe=>A1⟩)
 .exact Rx
 .exact Rp
 .exact .inr (.inr (.inr (.inr ⟨_,_,_,rfl,_,_,_,rfl,h⟩)))
theorem uG(o y:Ob):(o.bump y).dead=y.dead:=by cases y<;>cases o<;>rfl
theorem rX(o y:Ob):(y= .aN->o.bump y= .aN)/\∃n,∀T m xs,y= .row T m xs->o.bump y= .row T n xs:=by
 refine⟨λe=>Qt,?_⟩;cases o with
 |row T n xs=>exact⟨n+1,λT m xs e=>Qt⟩
 |box cs=>exact⟨0,λT m xs e=>Qt⟩
 |map T kvs=>exact⟨0,λT m xs e=>Qt⟩
 |aN=>exact⟨0,λT m xs e=>Qt⟩
 |rows T xss ho=>exact⟨0,λT m xs e=>Qt⟩
theorem Jf{ρ:Rho}{H:RV Ob}(o:Ob){y:Ob}{z:Y Abs.Ob}(h:obR ρ H y z):obR ρ H (o.bump y) z:=by
 cases y with
 |row T n xs=>cases o<;>exact h
 |box cs=>exact h
 |map T kvs=>exact h
 |aN=>exact h
 |rows T xss ho=>exact h
section
variable {P : Program} {E : Abs.Cx} {F : In} {ρ ρ' : Rho} {H : RV Ob} {D : RV (Nat × AT)} {L : Env} {h h' : aD} {R : Type}
theorem rY{c:C}(h:gF c=true):iE c=true:=by cases c<;>first|rfl|cases h
theorem ATR.upS{t:Rho}{y:RV Ob}{v:AT}{w:AV}(h:ATR t y v w)(d:v.gF=true):ATR ρ H v w:=by
 induction h with
 |one k=>exact .one (k.up (rY (by simpa [AT.gF]using d)))
 | @agg cs vs k=>
  have d:cs.all gF=true:=by simpa [AT.gF]using d
  exact .agg ⟨k.1,λj h1 h2=>(k.2 j h1 h2).up (rY (aT.1 d _ (gM h1)))⟩
 | @tup xs ys hl hr A=>
  have d:=pa (by simpa [AT.gF]using d:AT.gF.scals xs=true);exact .tup hl (λj h1 h2=>A j h1 h2 (d _ (gM h1)))
theorem KN{aB:RV Nat}{Hc t d:RV Ob}(hp:HpR ρ H h)(hf:Fr F ρ H h)(hn:io aB=true)(hk:nJ aB H=some Hc)(D:HpR ρ' t h')(C:Fr ⟨h,fp ρ aB,Hc⟩ ρ' t h')
  (hl:aB.length<=t.length) (ho:obs (back aB H.length) t=some d):
  HpR (ρ++ρ'.drop aB.length) (cG H aB d++d.drop aB.length) h'/\Ev ρ H (ρ++ρ'.drop aB.length) (cG H aB d++d.drop aB.length)/\Fr F (ρ++ρ'.drop aB.length) (cG H aB d++d.drop aB.length) h'/\
   sW (back aB H.length) ρ' t (ρ++ρ'.drop aB.length) (cG H aB d++d.drop aB.length):=by
 obtain⟨_,_,hρ⟩:=n7 hp hn hk;obtain⟨k1,k2⟩:=hU hk;obtain⟨b1,b2⟩:=nq ho;have bJ:=hp.len;have hlen':=D.len;have lo:∀{id:Nat},id<H.length->(cG H aB d++d.drop aB.length)[id]? =(cG H aB d)[id]? :=λhid=>aL (by rw[fE];exact hid);have hi:∀(i:Nat),(cG H aB d++d.drop aB.length)[H.length+i]? =d[aB.length+i]? :=λi=>by
  rw[aR (by rw[fE];omega),fE,Pv]
  congr 1;omega
 have R:∀{id:Nat},id<H.length->(ρ++ρ'.drop aB.length)[id]? =ρ[id]? :=λhid=>aL A1;have I:∀(i:Nat),(ρ++ρ'.drop aB.length)[H.length+i]? =ρ'[aB.length+i]? :=λi=>Hd
 -- an object that was O over
 have key:∀(j id:Nat),aB[j]? =some id->∃E y v,H[id]? =some E/\t[j]? =some y/\y.mv (back aB H.length)=some v/\(cG H aB d)[id]? =some (E.bump v)/\evo E (E.bump v)/\ρ'[j]? =ρ[id]? :=λj id B=>by
  obtain⟨E,y0,c1,c2,c3⟩:=k2 j id B;obtain⟨y,d1,d2⟩:=C.ob j _ c3;obtain⟨v,J,G⟩:=b2 j y d1;have hidl:id<ρ.length:=by rw[bJ];exact(gI.1 c1).1
  have hz:=gE hidl;refine⟨E,y,v,c1,d1,G,uj aB H d hn B J c1,EU ((((fV c2).2.2).trans (jz y0).2.2).trans (d2.trans (fV G).2.2)),?_⟩;rw[hz];refine C.rho j _ ?_;show (fp ρ aB)[j]? =_;rw[hρ j id B,hz]
 have P:Ev ρ H (ρ++ρ'.drop aB.length) (cG H aB d++d.drop aB.length):=by
  refine⟨λid x hx=> ?_,λid x hx=> ?_⟩
  .grind
  .rw[lo (gI.1 hx).1];by_cases hm:id∈aB
   .obtain⟨j,B⟩:=PB hm;obtain⟨E,y,v,c1,_,_,c4,c5,_⟩:=key j id B;rw[hx]at c1;cases c1;exact⟨_,c4,c5⟩
   .rw[g9 aB H d hm];exact⟨x,hx,evo.refl x⟩
 have U:sW (back aB H.length) ρ' t (ρ++ρ'.drop aB.length) (cG H aB d++d.drop aB.length):=λid j hg=>by
  unfold back at hg;split at hg
  .rename_i hlt;obtain⟨E,y,v,c1,c2,c3,c4,c5,c6⟩:=key id j hg;have B:=(gI.1 c1).1;refine⟨λx hx=>by rw[R B,<-c6];exact hx,λx hx=> ?_⟩;rw[c2]at hx;cases hx;obtain⟨s1,n,s2⟩:=rX E v;obtain⟨t1,t2,_⟩:=fV c3;exact⟨_,n,by rw[lo B];exact c4,λe=>s1 (t1 e),λT m xs e=>s2 T m xs (t2 T m xs e),λT xss ho e=>by rw[nN c3 T xss ho e];rfl⟩
  .rename_i hge;have hge:aB.length<=id:=by simpa [OB]using hge
   cases hg;have e:aB.length+(id-aB.length)=id:=A1
   refine⟨λx hx=>by rw[I,e];exact hx,λx hx=> ?_⟩;obtain⟨v,J,G⟩:=b2 id x hx;obtain⟨t1,t2,_⟩:=fV G;cases x with
   |row T m xs=>exact⟨v,m,Qw,λe=>H3,λT m xs e=>by cases e;exact t2 _ _ _ rfl,λT xss ho e=>H3⟩
   |aN=>exact Rq
   |box cs=>exact Rq
   |map T kvs=>exact Rq
   |rows T xss ho=>exact⟨v,0,Qw,t1,λT m xs e=>H3,nN G⟩
 have K:∀{id:Nat},id<H.length->live (cG H aB d++d.drop aB.length) id->live H id:=λhid l=>P.lv hid l;have w:∀(id a:Nat),(ρ++ρ'.drop aB.length)[id]? =some (some a)->(id<H.length/\ρ[id]? =some (some a))\/∃i,id=H.length+i/\ρ'[aB.length+i]? =some (some a):=λid a S=>by
  by_cases hid:id<H.length
  .grind
  .obtain⟨i,rfl⟩:∃i,id=H.length+i:=⟨id-H.length,A1⟩;rw[I]at S;exact .inr ⟨i,rfl,S⟩
 have L:∀{i:Nat},live (cG H aB d++d.drop aB.length) (H.length+i)->live t (aB.length+i):=λ{i} ⟨z,V,z2⟩=>by
  rw[hi]at V;have hlt:=(gI.1 V).1;rw[b1]at hlt;have e:=gE hlt;obtain⟨v,J,G⟩:=b2 _ _ e;rw[J]at V;cases V;exact⟨_,e,by rw[<-gG G];exact z2⟩
 -- a place that was O over
 have A:∀(j a:Nat),(fp ρ aB)[j]? =some (some a)->∃id,aB[j]? =some id/\ρ[id]? =some (some a):=λj a B=>by
  have hlt:=(gI.1 B).1;simp[fp]at hlt;have e:=gE hlt;rw[hρ j _ e]at B;exact⟨_,e,B⟩
 have M:∀(a:Nat),a<h.length->(∀(id:Nat),ρ[id]? =some (some a)->live H id->id∉aB)->h'[a]? =h[a]? :=λa S hid=>C.same a S λj B hlj=>by
  obtain⟨id,e,B⟩:=A j a B;exact hid _ B (ll hk e hlj) (mG e)
 have clash:∀(i p a:Nat),i<H.length->ρ[i]? =some (some a)->live (cG H aB d++d.drop aB.length) i->ρ'[aB.length+p]? =some (some a)->live t (aB.length+p)->False:=λi p a hi1 W hl1 hp1 hp2=>by
  obtain⟨j0,q1,q2⟩:=C.old _ a hp1 hp2 (hp.lt _ _ W);obtain⟨X,e,q3⟩:=A j0 a q1;have hid0:=hp.inj _ _ _ q3 W (ll hk e q2) (K hi1 hl1);subst hid0;obtain⟨E,y,v,c1,c2,c3,c4,c5,c6⟩:=key j0 X e;have hl2:live t j0:=by
   refine⟨y,c2,?_⟩;obtain⟨z,V,z2⟩:=hl1;rw[lo hi1,c4]at V;cases V;rw[<-gG c3,<-uG E v];exact z2
  have:=D.inj _ _ _ (c6.trans W) hp1 hl2 hp2;have hj0:=(gI.1 e).1;omega
 refine⟨HpR.mk' ?_ (λid x hx=> ?_) (λi j a h1 h2 l1 l2=> ?_) (λi a h1=> ?_),P,hf.step P C.len (λid a S hl=> ?_) (λa S hid=>M a S λid hid' hl=>absurd hl (hid id hid')),U⟩
 .simp[fE];omega
 .by_cases hid:id<H.length
  .rw [lo hid]at hx;rw[R hid];by_cases hm:id∈aB
   .obtain⟨j,B⟩:=PB hm;obtain⟨E,y,v,c1,c2,c3,c4,c5,c6⟩:=key j id B;rw[c4]at hx;cases hx;rcases D.ob c2 with⟨a,z,m1,Y,Q⟩|⟨m1,T,n,rfl,Q⟩|hd
    .exact .inl ⟨a,z,by rw[<-c6];exact m1,Y,Jf _ (ye U Q c3)⟩
    .cases c3;obtain⟨_,n',s2⟩:=rX E (.row T n []);exact .inr (.inl ⟨by rw[<-c6];exact m1,T,n',s2 _ _ _ rfl,Q⟩)
    .exact .inr (.inr (by rw[uG,gG c3];exact hd))
   .rw[g9 aB H d hm]at hx;by_cases Z:x.dead=true
    .grind
    have Z:x.dead=false:=by simpa using Z
    rcases hp.ob hx with⟨a,z,m1,Y,Q⟩|m1|m1
    .refine .inl ⟨a,z,m1,?_,Q.mono P⟩;rw[M a (hp.lt _ _ m1) (λid' h' hl'=>by rw[hp.inj _ _ _ h' m1 hl' ⟨_,hx,Z⟩];exact hm)];exact Y
    .grind
    .grind
  .obtain⟨i,rfl⟩:∃i,id=H.length+i:=⟨id-H.length,A1⟩;rw[hi]at hx;rw[I];have hlt:=(gI.1 hx).1;rw[b1]at hlt;have e:=gE hlt;obtain⟨v,J,G⟩:=b2 _ _ e;rw[J]at hx;cases hx;rcases D.ob e with⟨a,z,m1,Y,Q⟩|⟨m1,T,n,Y,Q⟩|m1
   .exact .inl ⟨a,z,m1,Y,ye U Q G⟩
   .rw[Y]at G;cases G;exact .inr (.inl ⟨m1,T,n,rfl,Q⟩)
   .exact .inr (.inr (by rw[gG G];exact m1))
 .rcases w i a h1 with⟨i1,N⟩|⟨p,rfl,N⟩<;>rcases w j a h2 with⟨j1,j2⟩|⟨q,rfl,j2⟩
  .exact hp.inj _ _ _ N j2 (K i1 l1) (K j1 l2)
  .grind
  .grind
  .have:=D.inj _ _ _ N j2 (L l1) (L l2);omega
 .rcases w i a h1 with⟨i1,N⟩|⟨p,rfl,N⟩
  .have:=hp.lt _ _ N;have:=C.len;simp only at this;omega
  .exact D.lt _ _ N
 .rcases w id a S with⟨i1,N⟩|⟨p,rfl,N⟩
  .grind
  .by_cases hlt:a<h.length
   .obtain⟨j0,q1,q2⟩:=C.old _ a N (L hl) hlt;obtain⟨X,e,q3⟩:=A j0 a q1;exact .inl ⟨X,q3,ll hk e q2⟩
   .omega
section
variable {d f : Nat} {x : Operand} {ac : RV Operand} {tys : Array TypeId} {ty : TypeId} {pos : String} {af : Array Edge} {gd : Y (Nat × Bool)} {caps : RV C} {xs ys : RV AT} {v : AT} {H' : RV Ob}
theorem EE{tb:Nat->Y TI}(d:bx P tb){t:Nat}{x:AT}{j:AV}(h:ATR ρ H x j):ATR ρ H (AP tb t x) j:=by
 unfold AP;split
 .split
  .rename_i T w;obtain⟨A,h1,h2⟩:=Option.bind_eq_some_iff.1 w;obtain⟨i,G⟩:=d.get h1;obtain⟨B,C,D,g1,E,F,y,_⟩:=G.elem T h2;cases h with
   | one k=>
    have:∀v,CR ρ H .zs v->v= .lit (.slice none 0 0):=λv k=>by cases k with|fl h=>cases h|zs=>rfl
    rw[this _ k];exact .one (.nil y)
  .exact h
 .exact h
theorem rg{tb:Nat->Y TI}(d:bx P tb):∀{ts:RV Nat}{xs:RV AT}{avs:RV AV},cN ρ H xs avs->cN ρ H (dI tb ts xs) avs
 |[],xs,avs,h=>by unfold dI;exact h
 |t::ts,[],avs,h=>by unfold dI;exact h
 | t::ts,x::xs,avs,h=>by
  obtain⟨v,j,rfl,h1,h2⟩:=h.head;unfold dI;exact .cons (EE d h1) (rg d h2)
theorem vG{tb:Nat->Y TI}(d:bx P tb)(hx:ev D x=some (.one (.f f caps)))(h:evs D ac=some xs)(hs:bT ρ H D L):∃vs avs,Abs.ev L x=some (.one (.clo (.func f) vs))/\Abs.evs L ac=some avs/\cN ρ H (dI tb tys.toList xs++caps.map .one) (avs++vs.map .one):=by
 obtain⟨w,h1,h2⟩:=aP hs hx;obtain⟨u,rfl,j⟩:=h2.aY;obtain⟨vs,rfl,h4⟩:=j.clo;obtain⟨avs,t,v⟩:=Aq hs h;exact⟨vs,avs,h1,t,cN.app (rg d v) h4.ats⟩
theorem yB{tb:Nat->Y TI}(A:bx P tb)(M:d<E.n)(hx:ev D x=some (.one (.f f caps)))(B:evs D ac=some xs)(N:dD H (dI tb tys.toList xs++caps.map .one)=some ys)(t:v.gF=true)(h2:CFn P f ys [] v H'):dU P ⟨some d,.call ⟨.value x,ac.toArray,tys⟩,ty,pos,af,gd⟩ E F D H v H:=λρ L h hs hp O=>by
 obtain⟨vs,avs,Q,R,G⟩:=vG (tys:=tys) A hx B hs;obtain⟨C,k1,S,U,J,T⟩:=uA (E:=E) (L:=L) hp N G.1 G.2;refine Abs.zR Q R M (h2 [] [] C HpR.et ⟨k1,S⟩) (λr h' ⟨ρ',m1,_⟩=>KG m1 t) (λι I a w r cs y=>⟨by rw[y.1,J],λj K=> ?_⟩) (λr h' ⟨ρ',m1,_⟩=>⟨ρ,r,rfl,m1.upS t,hp,Ev.refl _ _,O⟩);obtain⟨c,c1,c2⟩:=y.2 j (by rw[J];exact K);exact⟨c,c1,T j _ K ι I a w r c c2⟩
theorem wH{tb:Nat->Y TI}(t:bx P tb)(J:d<E.n)(hx:ev D x=some (.one (.f f caps)))(y:evs D ac=some xs)(K:dD [] (dI tb tys.toList xs++caps.map .one)=some ys)(A:v.flat=true)(h2:CFn P f ys [] v H'):dU P ⟨some d,.call ⟨.value x,ac.toArray,tys⟩,ty,pos,af,gd⟩ E F D H v H:=λρ L h hs hp M=>by
 obtain⟨vs,avs,N,O,Q⟩:=vG (tys:=tys) t hx y hs;obtain⟨B,k1,T,R⟩:=gW K Q;refine Abs.wz N O J (h2 [] h B HpR.et k1) (λι I w cs C=>R.ars C) (λr h' ⟨ρ',m1,U,G⟩=> ?_);have j:∀a,a<h.length->h'[a]? =h[a]? :=λa S=>G.same a S (λid=>C3);exact⟨ρ,r,rfl,m1.up A,hp.ext G.len j,Ev.refl _ _,M.ext G.len j⟩
end
theorem Nx{id s:Nat}{es:RV (RV V)}{ι:RV Abs.Inf}{I h:Nat->Prop}{w:World}(hk:Abs.cB I h w w)(B:∀(c:C)(v:V)(u:Value),CR ρ H c v->Abs.VR I w ι v u->Abs.VR h w ι (trV id s es c v) u){x:AT}{t:AV}{u:Value}(hx:ATR ρ H x t)(y:Abs.AR ι I w t u):Abs.AR ι h w (trA id s es x t) u:=by
 cases hx with
 |one hc=>cases y with|one D=>exact .one (B _ _ _ hc D)
 | @agg cs vs hc=>
  cases y with
  | agg hl A hr=>
   have bJ:=hc.1;refine .agg (by simp[hl,bJ]) (λj d=>A j Qq) (λj d=> ?_);simp only[OW];exact B _ _ _ (hc.2 j Qq Qq) (hr j Qq)
 |tup hl E=>exact y.aB (Abs.bn.refl _) hk
theorem Nq{id n:Nat}{T:Ty}{ys:RV (I T)}{xs:RV AT}{avs:RV AV}(hr:H[id]? =some (.row T n ys))(hp:HpR ρ H h)(N:Fr F ρ H h)(A:cN ρ H xs avs):
  ∃ h1 B,HpR ρ (H.set id .aN) h1/\Fr F ρ (H.set id .aN) h1/\cN ρ (H.set id .aN) (xs.map (AT.fz id T ys)) B/\
   ∀(E:Abs.Cx)(L:Env)(ι:RV Abs.Inf)(I:Nat->Prop)(a:Act)(w:World),Abs.Rel E L h ι I a w->∃t,Abs.Rel E L h1 ι t a w/\∀cs,Abs.ARs ι I w avs cs->Abs.ARs ι t w B cs:=by
 have key:∀(es:RV (RV V)),FR (.l T ys) (.imm (szT T) es)->cN ρ (H.set id .aN) (xs.map (AT.fz id T ys)) (List.zipWith (trA id (szT T) es) xs avs):=λes hx=>
  ⟨by simp[A.1],fun j h1 h2=>by
   simp only[NY,OW];exact Gc hr hx (A.2 j Hl (by simp at h1;have:=A.1;omega))⟩
 have d:∀(es:RV (RV V))(ι:RV Abs.Inf)(I t:Nat->Prop)(w:World),Abs.cB I t w w->(∀(c:C)(v:V)(u:Value),CR ρ H c v->Abs.VR I w ι v u->Abs.VR t w ι (trV id (szT T) es c v) u)->∀cs,Abs.ARs ι I w avs cs->Abs.ARs ι t w (List.zipWith (trA id (szT T) es) xs avs) cs:=λes ι I t w hk y cs hc=>
  ⟨by simp[hc.1,A.1],fun j O=>by
   have K:j<xs.length:=by simp at O;omega
   have D:j<avs.length:=by simp at O;omega
   obtain⟨c,c1,c2⟩:=hc.2 j D;refine⟨c,c1,?_⟩;simp only[OW];exact Nx hk y (A.2 j K D) c2⟩
 have other:∀{es:RV (RV V)}{c:C}{v:V},c≠.o id->trV id (szT T) es c v=v:=λ{es c v} e=>by
  unfold trV;split
  .grind
  .rfl
 rcases hp.row id n T ys hr with⟨a,es,h1,h2,G⟩|⟨h1,rfl,G⟩
 .refine⟨h.set a none,_,hp.set h1 hr C3 (evo.jp _) trivial,N.set h1 hr C3 (evo.jp _),key es G,λE L ι I M w r=> ?_⟩;obtain⟨inf,J,_,_⟩:=r.row h2;have hk:Abs.cB I (λb=>I b\/b=inf.block) w w:=⟨λ_ h=>.inl h,λ_ _=>rfl⟩;refine⟨_,r.freeze h2 J,d es ι I _ w hk λc v u hc y=> ?_⟩;by_cases e:c= .o id
  .subst e;simp only[trV,if_true];rcases hc.own hr with⟨P,rfl,h4⟩|⟨rfl,h4⟩
   .rw[h1]at h4;cases h4;have hl:=G.frl.len;have:=Abs.VR.fz r h2 J G.iK y (Abs.m7 (by simp[Abs.V.fits,hl]));simpa [Abs.V.fz,<-hl]using this
   .grind
  .rw[other e];exact y.aB (Abs.bn.refl _) hk
 .refine⟨h,_,hp.aN hr,N.aN hr,key [] (.et G),λE L ι I M w r=>⟨I,r,d [] ι I I w (Abs.cB.refl _ _) λc v u hc y=> ?_⟩⟩;by_cases e:c= .o id
  .subst e;simp only[trV,if_true];rcases hc.own hr with⟨P,rfl,h4⟩|⟨rfl,h4⟩
   .grind
   .cases y;exact .dC (N9 _)
  .grind
theorem oA:∀{ids:RV Nat}{H:RV Ob}{h:aD}{xs:RV AT}{avs:RV AV},HpR ρ H h->Fr F ρ H h->cN ρ H xs avs->
  ∃ h1 d,HpR ρ (fC ids xs H).2 h1/\Fr F ρ (fC ids xs H).2 h1/\Ev ρ H ρ (fC ids xs H).2/\cN ρ (fC ids xs H).2 (fC ids xs H).1 d/\
   ∀(E:Abs.Cx)(L:Env)(ι:RV Abs.Inf)(I:Nat->Prop)(a:Act)(w:World),Abs.Rel E L h ι I a w->∃j,Abs.Rel E L h1 ι j a w/\∀cs,Abs.ARs ι I w avs cs->Abs.ARs ι j w d cs
 |[],H,h,xs,avs,hp,t,v=>⟨h,avs,hp,t,Ev.refl _ _,v,λE L ι I a w r=>⟨I,r,λ_ k=>k⟩⟩
 | id::ids,H,h,xs,avs,hp,t,v=>by
  unfold fC;split
  .rename_i T n ys hr;obtain⟨h1,d,A,B,a3,a4⟩:=Nq hr hp t v;obtain⟨h2,y,b1,b2,b3,b4,b5⟩:=oA (ids:=ids) A B a3;refine⟨h2,y,b1,b2,(Ev.set hr (evo.jp _)).trans b3,b4,λE L ι I a w r=> ?_⟩;obtain⟨j,C,k1⟩:=a4 E L ι I a w r;obtain⟨D,G,J⟩:=b5 E L ι j a w C;exact⟨D,G,λcs hc=>J cs (k1 cs hc)⟩
  .exact oA hp t v
section
variable {d f : Nat} {x : Operand} {ac : RV Operand} {tys : Array TypeId} {ty : TypeId} {pos : String} {af : Array Edge} {gd : Y (Nat × Bool)} {caps : RV C} {xs ys : RV AT} {v : AT} {H' : RV Ob}
theorem EW{tb:Nat->Y TI}(t:bx P tb){ids:RV Nat}(J:d<E.n)(hx:ev D x=some (.one (.f f caps)))(y:evs D ac=some xs)(K:dD [] (fC ids (dI tb tys.toList xs++caps.map .one) H).1=some ys)(A:v.flat=true)(h2:CFn P f ys [] v H'):dU P ⟨some d,.call ⟨.value x,ac.toArray,tys⟩,ty,pos,af,gd⟩ E F D H v (fC ids (dI tb tys.toList xs++caps.map .one) H).2:=λρ L h hs hp M=>by
 obtain⟨vs,avs,N,O,Q⟩:=vG (tys:=tys) t hx y hs;obtain⟨h1,R,S,T,a3,a4,a5⟩:=oA (ids:=ids) hp M Q;obtain⟨B,k1,Z,U⟩:=gW K a4;refine Abs.Ia (h1:=h1) N O J (h2 [] h1 B HpR.et k1) (λL ι I a w r=> ?_) (λr h' ⟨ρ',m1,m2,C⟩=> ?_)
 .obtain⟨V,W,q⟩:=a5 E L ι I a w r;exact⟨V,W,λcs G=>U.ars (q cs G)⟩
 .have j:∀a,a<h1.length->h'[a]? =h1[a]? :=λa X=>C.same a X (λid=>C3);exact⟨ρ,r,rfl,m1.up A,S.ext C.len j,a3,T.ext C.len j⟩
end
def Unt(ids:RV Nat)(H H':RV Ob):Prop:=∀(id:Nat)(x:Ob),H[id]? =some x->id∉ids->H'[id]? =some x
theorem mf:∀{ids:RV Nat}{xs:RV AT}{H:RV Ob},Unt ids H (fC ids xs H).2
 |[],xs,H=>λ_ _ h _=>h
 | id::ids,xs,H=>fun j z v w=>by
  unfold fC;have t:j≠id:=λe=>w Qp;have d:j∉ids:=λe=>w Qp;split
  .exact mf j z (by rw[sN (λe=>t e.symm)];exact v) d
  .exact mf j z v d
theorem Unt.refl(ids:RV Nat)(H:RV Ob):Unt ids H H:=λ_ _ h _=>h
theorem kT{O:Orc}{f:Nat}:∀{j:Nat}{xs ys:RV AT}{H H':RV Ob},kH O f j xs H=some (ys,H')->∃t,H'=H++t
 |j,[],ys,H,H',hc=>by simp only[kH]at hc;cases hc;exact⟨[],C3⟩
 | j, x::xs,ys,H,H',hc=>by
  unfold kH at hc;split at hc
  .split at hc
   .rename_i h2;cases hc;exact kT h2
   .cases hc
  .split at hc
   .split at hc
    .rename_i h2;cases hc;obtain⟨t,rfl⟩:=kT h2;exact⟨_,Oo _ _ _⟩
    .cases hc
   .split at hc
    .rename_i h2;cases hc;exact kT h2
    .cases hc
theorem Is{tb:Nat->Y TI}(B:bx P tb){O:Orc}(U:fj P O){o:Oper}{d:Nat}(hd:o.dst=some d)(V:d<E.n){K:AT->RV Ob->Y R}{r:R}(hc:wm tb O o D H K=some r):∃v H',K v H'=some r/\(∀F:In,dU P o E F D H v H')/\Unt (eB tb O o D H) H H':=by
 obtain⟨dst,op,ty,pos,af,gd⟩:=o;simp only at hd;subst hd;unfold wm at hc;simp only at hc;split at hc
 .rename_i x ac tys;split at hc
  .rename_i f caps xs hx y;obtain⟨ac,rfl⟩:∃l:RV Operand,ac=l.toArray:=⟨ac.toList,C3⟩;simp only at y;unfold FD at hc;split at hc
   .split at hc
    .rename_i ys J;obtain⟨v,H',h1,h2⟩:=(U _ _ _ _ _ _ hc).1 (by rw[‹O.mode f=0›];rfl);split at h1
     .rename_i W;exact⟨v,H,h1,λ_=>yB B V hx y J W h2,.refl _ _⟩
     .cases h1
    .cases hc
   .rename_i A;split at hc
    .rename_i ys J;obtain⟨v,H',h1,h2⟩:=(U _ _ _ _ _ _ hc).1 QL;split at h1
     .rename_i C;exact⟨v,H,h1,λ_=>wH B V hx y J C h2,.refl _ _⟩
     .cases h1
    .split at hc
     .cases hc
     .rename_i id ids M;simp only at hc;split at hc
      .rename_i ys J;obtain⟨v,H',h1,h2⟩:=(U _ _ _ _ _ _ hc).1 QL;split at h1
       .rename_i C;refine⟨v,_,h1,λ_=>EW B V hx y J C h2,?_⟩;have e:eB tb O ⟨some d,.call ⟨.value x,ac.toArray,tys⟩,ty,pos,af,gd⟩ D H=id::ids:=by
         simp only[eB,hx,y,A,M]
        rw[e];exact mf
       .cases h1
      .cases hc
   .rename_i A;split at hc
    .rename_i ys H1 G;simp only at hc;split at hc
     .rename_i Hc zs N Q X;obtain⟨v,Hc',h1,h2⟩:=(U _ _ _ _ _ _ hc).1 (by rw[‹O.mode f=2›];rfl);split at h1
      .rename_i Hb u hb1 hb2 hb3;refine⟨u,_,h1,λF ρ L h hs hp hf=> ?_,λid x S T=> ?_⟩
       case refine_2=>
        simp only[eB,hx,y,A,G]at T;obtain⟨t,rfl⟩:=kT G;have hlt:=(gI.1 S).1;rw[aL (by rw[fE];simp;omega),g9 _ _ _ T,aL hlt];exact S
       obtain⟨vs,avs,e1,e2,e3⟩:=vG (tys:=tys) B hx y hs;obtain⟨ρ1,Z,m1,m2,m3⟩:=nO G hp hf e3;obtain⟨c1,c2,c3⟩:=n7 m1.heap N Q;obtain⟨d1,d2⟩:=mI X;refine Abs.wz e1 e2 V (h2 _ h Z c1 ⟨by rw[d1];exact m2.1,λj j1 j2=>vF c2 (m2.2 j A1 j2) (d2 j A1 j1)⟩) (λι I w cs hcs=>m3.ars hcs) (λr h' ⟨ρ',n1,n2,n3⟩=> ?_);obtain⟨p1,p2,p3,p4⟩:=KN m1.heap m1.fr N Q n2 n3 (NX hb1) hb2;exact⟨_,r,rfl,vF p4 n1 hb3,p1,m1.ev.trans p2,p3⟩
      .cases h1
     .cases hc
    .cases hc
   .cases hc
  .cases hc
 .cases hc
def Le(d H:RV Ob):Prop:=∀(id:Nat)(x:Ob),d[id]? =some x->x≠.aN->H[id]? =some x
theorem Le.refl(H:RV Ob):Le H H:=λ_ _ h _=>h
theorem Le.unt{d H H':RV Ob}{ids:RV Nat}(h:Le d H)(u:Unt ids H H')(hs:ids.all (Ap d)=true):Le d H':=λid x hx j=>by
 refine u id x (h id x hx j) λhm=> ?_;have:=aT.1 hs id hm;unfold Ap at this;rw[hx]at this;cases x<;>first|exact j rfl|cases this
theorem Le.trans{A B H:RV Ob}(h:Le A B)(k:Le B H):Le A H:=λid x hx d=>k id x (h id x hx d) d
theorem wk(ids:RV Nat)(H:RV Ob):Le (xX ids H) H:=λid x hx d=>by
 unfold xX at hx;rw[List.getElem?_mapIdx]at hx;obtain⟨o,h1,h2⟩:=Option.map_eq_some_iff.1 hx;split at h2
 .grind
 .rw[h1,h2]
theorem Le.hide{d H H':RV Ob}{ids:RV Nat}(h:Le d H)(u:Unt ids H H'):Le (xX ids d) H':=λid x hx j=>by
 refine u id x (h id x (wk ids d id x hx j) j) λhm=>j ?_;unfold xX at hx;rw[List.getElem?_mapIdx]at hx;obtain⟨o,_,h2⟩:=Option.map_eq_some_iff.1 hx;rw[N1 (by simpa using hm)]at h2;exact h2.symm
theorem wT(vis:RV Nat)(H:RV Ob):Le (eL vis H) H:=λid x hx d=>by
 unfold eL at hx;rw[List.getElem?_mapIdx]at hx;obtain⟨o,h1,h2⟩:=Option.map_eq_some_iff.1 hx;split at h2
 .rw[h1,h2]
 .grind
theorem tw{d H:RV Ob}(hl:Le d H){c j:C}(h:pf d c=some j):pf H c=some j:=by
 unfold pf at h ⊢;split at h
 case h_3=>
  split at h
  .rename_i hx;rw[hl _ _ hx C3];exact h
  .cases h
 all_goals exact h
theorem rH{j H:RV Ob}(hl:Le j H):∀{cs d:RV C},eW j cs=some d->eW H cs=some d
 |[],d,h=>h
 | c::cs,d,h=>by
  simp only[eW]at h ⊢;split at h
  .rename_i x xs h1 h2;rw[tw hl h1,rH hl h2];exact h
  .cases h
theorem AI{j H:RV Ob}(hl:Le j H){x y:AT}(h:gX j x=some y):gX H x=some y:=by
 cases x with
 | one c=>
  simp only[gX,O3]at h ⊢;obtain⟨d,h1,rfl⟩:=h;exact⟨d,tw hl h1,rfl⟩
 | agg cs=>
  simp only[gX,O3]at h ⊢;obtain⟨d,h1,rfl⟩:=h;exact⟨d,rH hl h1,rfl⟩
 |tup _=>cases h
theorem pF{d H:RV Ob}(hl:Le d H):∀{xs ys:RV AT},dD d xs=some ys->dD H xs=some ys
 |[],ys,h=>h
 | x::xs,ys,h=>by
  simp only[dD]at h ⊢;split at h
  .rename_i y ys h1 h2;rw[AI hl h1,pF hl h2];exact h
  .cases h
theorem FK{tb:Nat->Y TI}(j:bx P tb){O:Orc}(B:fj P O){o:Oper}{d:Nat}(hd:o.dst=some d)(C:d<E.n)(hk:qz tb O o D=true){K:AT->RV Ob->Y R}{r:R}(hc:wm tb O o D H K=some r):∃v,K v H=some r/\∀H',Le H H'->dU P o E F D H' v H':=by
 obtain⟨dst,op,ty,pos,af,gd⟩:=o;simp only at hd;subst hd;unfold wm at hc;simp only at hc;split at hc
 .rename_i x ac tys;split at hc
  .rename_i f caps xs hx h;obtain⟨ac,rfl⟩:∃l:RV Operand,ac=l.toArray:=⟨ac.toList,C3⟩;simp only at h;simp only[qz,hx,h]at hk;unfold FD at hc;split at hc
   .split at hc
    .rename_i ys t;obtain⟨v,H',h1,h2⟩:=(B _ _ _ _ _ _ hc).1 (by rw[‹O.mode f=0›];rfl);split at h1
     .rename_i w;exact⟨v,h1,λH2 hl=>yB j C hx h (pF hl t) w h2⟩
     .cases h1
    .cases hc
   .rename_i y;split at hc
    .rename_i ys t;obtain⟨v,H',h1,h2⟩:=(B _ _ _ _ _ _ hc).1 QL;split at h1
     .rename_i A;exact⟨v,h1,λH2 _=>wH j C hx h t A h2⟩
     .cases h1
    .grind
   .grind
   .cases hc
  .cases hc
 .cases hc
end
end Go.Proofs.YtigoabbppmdfpaaGreat.Den
namespace Go.Proofs.YtigoabbppmdfpaaGreat.Abs
open Go.RowKit
section
variable {P : Program} {E : Cx} {K : Env → aD → Prop} {L : Env} {h : aD} {d : Nat} {ty : TypeId} {pos : String} {af : Array Edge} {gd : Y (Nat × Bool)} {tb : Tbl}
theorem Eu(G:cV P tb){t:TypeId}{x y:Operand}{s id len lo:Nat}{es:RV (RV V)}{kl:IntKind}{R:ElI}(hx:ev L x=some (.one (.own id 0 len)))(he:gb tb t=some R)(ho:h[id]? =some (some (.row s es)))(hs:R.size=s)(hpos:0<s)
  (H:len=es.length) (X:ev L y=some (.one (.lit (.int kl lo)))) (h1:lo<=len) (Z:d<E.n)
  (hk:K ((d,.one (.own h.length 0 (len-lo)))::L) (h.set id none++[some (.row s (es.drop lo))])):ar P ⟨some d,.slice t x (some y) none none,ty,pos,af,gd⟩ E K L h:=
 ⟨fun Lf ι I a w S=>by
  have r:=S.low;obtain⟨inf,v,J,M⟩:=r.row ho;obtain⟨u1,u2,_⟩:=bL G he;have hl:some (a.eval y)=none/\lo=0\/some (a.eval y)=some (.int kl lo):=.inr (by simp[(r.ev X).lit.1]);have T:(none:Y Value)=none/\len=len\/(none:Y Value)=some (.int kl len):=.inl ⟨rfl,rfl⟩;have U:=(r.ev hx).aY;have N:=J.shift (off:=lo) A1;have B:=S.rename (inf':=⟨inf.block,inf.base+lo*s,inf.cap-lo,s⟩) ho v rfl N;have hi:(ι++[(⟨inf.block,inf.base+lo*s,inf.cap-lo,s⟩:Inf)])[h.length]? =some ⟨inf.block,inf.base+lo*s,inf.cap-lo,s⟩:=Ib
  have A:∀c,(execOp a.eval ⟨some d,.slice t x (some y) none none,ty,pos,af,gd⟩).run P w= .ok (.value c) w->AR (ι++[(⟨inf.block,inf.base+lo*s,inf.cap-lo,s⟩:Inf)]) I w (.one (.own h.length 0 (len-lo))) c->
    Oper.wp P ⟨some d,.slice t x (some y) none none,ty,pos,af,gd⟩ a w (λa' w'=>∃L' h' ι' I',K L' h'/\Rel E (L'++Lf) h' ι' I' a' w') (λ_ _ _=>False):=λc C O=>by
   unfold Oper.wp;rw[C,Oper.upon_value];exact⟨_,_,_,I,hk,B.put Z O⟩
  generalize hc:a.eval x=c at U;cases U with
  | @fT _ _ _ W inf' j D=>
   have:inf'=inf:=by rw[v]at j;cases j;rfl
   subst this;have C:lo=0:=A1
   subst C;have hb:=cp (P:=P) w (isS:=true) (len:=0) (cap:=0) hl T h1 A1;have q:=VR.fT (I:=I) (w:=w) (off:=0) (o:=W) hi (by show 0=inf'.cap-0;omega);refine A (.slice (some ⟨inf'.block,W,none⟩) 0 0) ?_ (.one q);simp[execOp,Instr.sliceAt,Instr.slice,hc,run_underlying u1,hb,cd u2 A1,hs]
  | @own _ _ _ _ cap inf' j hle D hm=>
   have:inf'=inf:=by rw[v]at j;cases j;rfl
   subst this;have hb:=cp (P:=P) w (isS:=true) (len:=len) (cap:=cap) hl T h1 A1;by_cases F:cap=lo
   .have C:len-lo=0:=A1
    have O:cap-lo=0:=A1
    refine A (.slice (some ⟨inf'.block,inf'.base+0*inf'.size,none⟩) (len-lo) (cap-lo)) ?_ ?_
    .subst F;simp[execOp,Instr.sliceAt,Instr.slice,hc,run_underlying u1,hb,cd u2 A1,hs]
    .have q:=VR.fT (I:=I) (w:=w) (off:=0) (o:=inf'.base+0*inf'.size) hi (by show 0=inf'.cap-lo;omega);rw[C,O];exact .one q
   .have Q:=VR.own (I:=I) (w:=w) (off:=0) (len:=len-lo) (c:=cap-lo) hi A1 (by show 0+(cap-lo)=inf'.cap-lo;omega) A1;refine A _ ?_ (.one Q);simp[execOp,Instr.sliceAt,Instr.slice,hc,run_underlying u1,hb,cd u2 A1,hs,F,dd,M]⟩
theorem OR.take{ι:RV Inf}{I:Nat->Prop}{w:World}{inf:Inf}{s:Nat}{es:RV (RV V)}(h:OR ι I w inf (.row s es))(n:Nat):OR ι I w inf (.row s (es.take n)):=by
 obtain⟨cur,t,h1,h2,v,h4,B,y,A⟩:=h;refine⟨cur,t,h1,h2,v,h4,D5,λe he=>y e (OK he),λk hk j d=> ?_⟩;simp only[P3]at d ⊢;simp at hk;exact A k A1 j d
theorem EF(H:cV P tb){t:TypeId}{x y:Operand}{s id len hi:Nat}{es:RV (RV V)}{kh:IntKind}{O:ElI}(hx:ev L x=some (.one (.own id 0 len)))(he:gb tb t=some O)(ho:h[id]? =some (some (.row s es)))(hs:O.size=s)(hpos:0<s)
  (U:ev L y=some (.one (.lit (.int kh hi)))) (h1:hi<=len) (W:d<E.n)
  (hk:K ((d,.one (.own h.length 0 hi))::L) (h.set id none++[some (.row s (es.take hi))])):ar P ⟨some d,.slice t x none (some y) none,ty,pos,af,gd⟩ E K L h:=
 ⟨fun Lf ι I a w Q=>by
  have r:=Q.low;obtain⟨inf,A,J,M⟩:=r.row ho;obtain⟨u1,u2,_⟩:=bL H he;have hl:(none:Y Value)=none/\0=0\/(none:Y Value)=some (.int kh 0):=.inl ⟨rfl,rfl⟩;have R:some (a.eval y)=none/\hi=len\/some (a.eval y)=some (.int kh hi):=.inr (by simp[(r.ev U).lit.1]);have S:=(r.ev hx).aY;have F:=Q.rename (inf':=inf) ho A rfl (J.take hi);have B:(ι++[inf])[h.length]? =some inf:=Ib
  have C:∀c,(execOp a.eval ⟨some d,.slice t x none (some y) none,ty,pos,af,gd⟩).run P w= .ok (.value c) w->AR (ι++[inf]) I w (.one (.own h.length 0 hi)) c->
    Oper.wp P ⟨some d,.slice t x none (some y) none,ty,pos,af,gd⟩ a w (λX w'=>∃L' h' ι' Z,K L' h'/\Rel E (L'++Lf) h' ι' Z X w') (λ_ _ _=>False):=λc G e2=>by
   unfold Oper.wp;rw[G,Oper.upon_value];exact⟨_,_,_,I,hk,F.put W e2⟩
  generalize hc:a.eval x=c at S;cases S with
  | @fT _ _ _ T inf' j v=>
   have:inf'=inf:=by rw[A]at j;cases j;rfl
   subst this;have G:hi=0:=A1
   subst G;have hb:=cp (P:=P) w (isS:=true) (len:=0) (cap:=0) hl R A1 A1;have q:=VR.fT (I:=I) (w:=w) (off:=0) (o:=T) B v;refine C (.slice (some ⟨inf'.block,T,none⟩) 0 0) ?_ (.one q);simp[execOp,Instr.sliceAt,Instr.slice,hc,run_underlying u1,hb,cd u2 A1,hs]
  | @own _ _ _ _ cap inf' j hle v hm=>
   have:inf'=inf:=by rw[A]at j;cases j;rfl
   subst this;have hb:=cp (P:=P) w (isS:=true) (len:=len) (cap:=cap) hl R A1 A1;have N:=VR.own (I:=I) (w:=w) (off:=0) (len:=hi) (c:=cap) B A1 v hm;by_cases D:cap=0
   .have G:hi=0:=A1
    subst G;have q:=VR.fT (I:=I) (w:=w) (off:=0) (o:=inf'.base+0*inf'.size) B A1;refine C (.slice (some ⟨inf'.block,inf'.base+0*inf'.size,none⟩) 0 0) ?_ (.one q);rw[D]at hb;simp[execOp,Instr.sliceAt,Instr.slice,hc,run_underlying u1,hb,cd u2 A1,hs,D]
   .refine C _ ?_ (.one N);simp[execOp,Instr.sliceAt,Instr.slice,hc,run_underlying u1,hb,cd u2 A1,hs,D,dd,M]⟩
theorem vB(j:cV P tb){t:TypeId}{x y:Operand}{v:ElI}{kh:IntKind}(hx:ev L x=some (.one (.lit (.slice none 0 0))))(he:gb tb t=some v)(hpos:0<v.size)(A:ev L y=some (.one (.lit (.int kh 0))))(B:d<E.n)
  (hk:K ((d,.one (.lit (.slice none 0 0)))::L) h):ar P ⟨some d,.slice t x none (some y) none,ty,pos,af,gd⟩ E K L h:=
 bE rfl B (λι I a w r=>by
  obtain⟨C,_⟩:=(r.ev hx).lit;obtain⟨u1,u2,_⟩:=bL j he;obtain⟨D,_⟩:=(r.ev A).lit;have hb:(Instr.sliceBounds true 0 0 none (some (.int kh 0)) none).run P w= .ok (0,0,0) w:=by
   simp[Instr.sliceBounds,Instr.sliceBound,asIntOf]
  refine⟨.slice none 0 0,?_,.one (.lit trivial)⟩;simp[execOp,Instr.sliceAt,Instr.slice,C,D,run_underlying u1,hb,cd u2 hpos]) hk
theorem vp(j:cV P tb){t:TypeId}{x y:Operand}{v:ElI}{kl:IntKind}(hx:ev L x=some (.one (.lit (.slice none 0 0))))(he:gb tb t=some v)(hpos:0<v.size)(A:ev L y=some (.one (.lit (.int kl 0))))(B:d<E.n)
  (hk:K ((d,.one (.lit (.slice none 0 0)))::L) h):ar P ⟨some d,.slice t x (some y) none none,ty,pos,af,gd⟩ E K L h:=
 bE rfl B (λι I a w r=>by
  obtain⟨C,_⟩:=(r.ev hx).lit;obtain⟨u1,u2,_⟩:=bL j he;obtain⟨D,_⟩:=(r.ev A).lit;have hb:(Instr.sliceBounds true 0 0 (some (.int kl 0)) none none).run P w= .ok (0,0,0) w:=by
   simp[Instr.sliceBounds,Instr.sliceBound,asIntOf]
  refine⟨.slice none 0 0,?_,.one (.lit trivial)⟩;simp[execOp,Instr.sliceAt,Instr.slice,C,D,run_underlying u1,hb,cd u2 hpos]) hk
end
end Go.Proofs.YtigoabbppmdfpaaGreat.Abs
namespace Go.Proofs.YtigoabbppmdfpaaGreat.Den
open Go.RowKit
open Abs (V AV Env aD ar)
section
variable {P : Program} {E : Abs.Cx} {F : In} {ρ : Rho} {H : RV Ob} {D : RV (Nat × AT)} {L : Env} {h : aD} {tb : Nat → Y TI} {d : Nat} {ty : TypeId} {pos : String} {af : Array Edge} {gd : Y (Nat × Bool)}
theorem FRl.drop{T:Ty}{xs:RV (I T)}{es:RV (RV V)}(h:FRl T xs es):∀k,FRl T (xs.drop k) (es.drop k):=by
 induction h with
 |nil=>intro k;simp;exact .nil
 | cons a b d=>
  intro k;cases k with
  |zero=>exact .cons a b
  |succ k=>exact d k
theorem Ds(w:bx P tb)(R:d<E.n){t:Nat}{id n:Nat}{M:TI}{T:Ty}{x y:Operand}{i:Int}{xs:RV (I T)}(ht:tb t=some M)(he:M.elem=some T)(hx:ev D x=some (.one (.o id)))(hr:H[id]? =some (.row T n xs))(S:ev D y=some (.one (.i i)))(hi:0<i)(A:i<=xs.length):
  dU P ⟨some d,.slice t x (some y) none none,ty,pos,af,gd⟩ E F D H (.one (.o H.length)) ((H.set id .aN)++[.row T 0 (xs.drop i.toNat)]):=λρ L h hs B U=>by
 obtain⟨ix,G⟩:=w.get ht;obtain⟨el,z',g0,g1,g2,V,N,g5,g6,g7,g8⟩:=G.elem T he;obtain⟨av,W,X⟩:=aP hs hx;obtain⟨u,rfl,a3⟩:=X.aY;obtain⟨bv,b1,b2⟩:=aP hs S;obtain⟨u',rfl,b3⟩:=b2.aY;cases b3.int;obtain⟨k,rfl⟩:=Oh (A1:0<=i);have bJ:(H.set id Ob.aN).length=H.length:=C3
 have C:Ev ρ H ρ (H.set id .aN):=Ev.set hr (evo.jp _);rcases a3.own hr with⟨a,rfl,a4⟩|⟨rfl,a4⟩
 .obtain⟨es,Y,Z⟩:=B.at_ a4 hr;have J:=Z.frl;have j:HpR ρ (H.set id .aN) (h.set a none):=B.set a4 hr C3 (evo.jp _) trivial;have K:Fr F ρ (H.set id .aN) (h.set a none):=U.set a4 hr C3 (evo.jp _);obtain⟨m1,O⟩:=lr N j (J.drop k);have v:=K.push j.len (.row T 0 (xs.drop k)) (some (.row (szT T) (es.drop k)));rw[bJ]at m1;rw[PG]at m1 O v;refine Abs.Eu G.tb W g1 Y V N (by rw[J.len]) b1 A1 R ⟨ρ++[some h.length],_,rfl,?_,O,C.trans (Ev.push _ _),v⟩;rw[Ox,J.len]at m1;exact m1
 .obtain rfl:xs=[]:=by
   rcases B.row _ n _ _ hr with⟨a',es,Q,_⟩|⟨_,Q,_⟩
   .grind
   .exact Q
  simp at A;omega
theorem FRl.take{T:Ty}{xs:RV (I T)}{es:RV (RV V)}(h:FRl T xs es):∀k,FRl T (xs.take k) (es.take k):=by
 induction h with
 |nil=>intro k;simp;exact .nil
 | cons a b d=>
  intro k;cases k with
  |zero=>simp;exact .nil
  |succ k=>exact .cons a (d k)
theorem DJ(K:bx P tb)(O:d<E.n){t:Nat}{id n:Nat}{Q:TI}{T:Ty}{x y:Operand}{i:Int}{xs:RV (I T)}(ht:tb t=some Q)(he:Q.elem=some T)(hx:ev D x=some (.one (.o id)))(hr:H[id]? =some (.row T n xs))(X:ev D y=some (.one (.i i)))(hi:0<=i)(M:i<=xs.length):
  dU P ⟨some d,.slice t x none (some y) none,ty,pos,af,gd⟩ E F D H (.one (.o H.length)) ((H.set id .aN)++[.row T 0 (xs.take i.toNat)]):=λρ L h hs B R=>by
 obtain⟨ix,G⟩:=K.get ht;obtain⟨el,z',g0,g1,g2,S,C,g5,g6,g7,g8⟩:=G.elem T he;obtain⟨av,U,Y⟩:=aP hs hx;obtain⟨u,rfl,a3⟩:=Y.aY;obtain⟨bv,b1,b2⟩:=aP hs X;obtain⟨u',rfl,b3⟩:=b2.aY;cases b3.int;obtain⟨k,rfl⟩:=Oh hi;have bJ:(H.set id Ob.aN).length=H.length:=C3
 have w:Ev ρ H ρ (H.set id .aN):=Ev.set hr (evo.jp _);rcases a3.own hr with⟨a,rfl,a4⟩|⟨rfl,a4⟩
 .obtain⟨es,Z,e2⟩:=B.at_ a4 hr;have V:=e2.frl;have j:HpR ρ (H.set id .aN) (h.set a none):=B.set a4 hr C3 (evo.jp _) trivial;have v:Fr F ρ (H.set id .aN) (h.set a none):=R.set a4 hr C3 (evo.jp _);obtain⟨m1,J⟩:=lr C j (V.take k);have A:=v.push j.len (.row T 0 (xs.take k)) (some (.row (szT T) (es.take k)));rw[bJ]at m1;rw[PG]at m1 J A;have N:(es.take k).length=k:=by rw[O0,V.len];omega
  rw[N]at m1;exact Abs.EF G.tb U g1 Z S C b1 A1 O ⟨ρ++[some h.length],_,rfl,m1,J,w.trans (Ev.push _ _),A⟩
 .obtain rfl:xs=[]:=by
   rcases B.row _ n _ _ hr with⟨a',es,W,_⟩|⟨_,W,_⟩
   .grind
   .exact W
  simp at M;obtain rfl:k=0:=A1
  have j:HpR ρ (H.set id .aN) h:=B.aN hr;have v:Fr F ρ (H.set id .aN) h:=R.aN hr;obtain⟨m1,J⟩:=qj C j;rw[bJ]at m1;exact Abs.vB G.tb U g1 (by rw[S];exact C) b1 O ⟨ρ++[none],_,rfl,m1,J,w.trans (Ev.push _ _),v.me j.len _⟩
theorem JC(j:bx P tb)(B:d<E.n){t id n:Nat}{C:TI}{T:Ty}{x y:Operand}{i:Int}{xs:RV (I T)}(ht:tb t=some C)(he:C.elem=some T)(hs:bT ρ H D L)(F:HpR ρ H h)(hx:ev D x=some (.one (.o id)))(hr:H[id]? =some (.row T n xs))(U:ev D y=some (.one (.i i)))(hi:0<=i)(w:i<=xs.length){K:Env->aD->Prop}
  (hk:∀v J,FRl T (xs.drop i.toNat) J->Abs.gV h (szT T) v=some J->K ((d,.one v)::L) h):ar P ⟨some d,.slice t x (some y) none none,ty,pos,af,gd⟩ E K L h:=by
 obtain⟨ix,G⟩:=j.get ht;obtain⟨X,Y,Z,g1,g2,M,N,g5,g6,g7,g8⟩:=G.elem T he;obtain⟨av,O,V⟩:=aP hs hx;obtain⟨u,rfl,a3⟩:=V.aY;obtain⟨bv,b1,b2⟩:=aP hs U;obtain⟨u',rfl,b3⟩:=b2.aY;cases b3.int;obtain⟨k,rfl⟩:=Oh hi;rcases a3.own hr with⟨a,rfl,a4⟩|⟨rfl,a4⟩
 .obtain⟨es,Q,W⟩:=F.at_ a4 hr;have R:=W.frl;have hl:=R.len;have A:k<=xs.length:=A1
  refine Abs.yu (kh:=.i64) G.tb O g1 Q M N (.inr ⟨y,rfl,b1⟩) (.inl ⟨rfl,rfl⟩) A (N4 _) B (hk _ (es.drop k) (R.drop k) ?_)
  show (match h[a]? with
   |some (some (.row s' es))=>if s'=szT T&&0+k+(xs.length-k)<=es.length then some ((es.drop (0+k)).take (xs.length-k))else none
   |_=>none)=_
  rw[Q];simp only[Ou];rw[N1 D5,OO (by rw[Ox];omega)]
 .obtain rfl:xs=[]:=by
   rcases F.row _ n _ _ hr with⟨a',es,S,_⟩|⟨_,S,_⟩
   .grind
   .exact S
  simp at w;obtain rfl:k=0:=A1
  exact Abs.vp G.tb O g1 (by rw[M];exact N) b1 B (hk _ [] (by simp;exact .nil) rfl)
end
end Go.Proofs.YtigoabbppmdfpaaGreat.Den
namespace Go.Proofs.YtigoabbppmdfpaaGreat.Den
open Go.RowKit
open Abs (V AV Env aD ar aw ao)
section
variable {P : Program} {E : Abs.Cx} {F : In} {ρ ρ' : Rho} {H : RV Ob} {D : RV (Nat × AT)} {L : Env} {h h' : aD} {R : Type} {tb : Nat → Y TI} {O : Orc}
theorem CC{d H:RV Ob}(hl:Le d H){c:C}{n:Int}(h:AO d c=some n):AO H c=some n:=by
 unfold AO at h ⊢;split at h
 case h_5=>
  split at h
  .rename_i hx;rw[hl _ _ hx C3];exact h
  .rename_i hx;rw[hl _ _ hx C3];exact h
  .cases h
 all_goals exact h
theorem Es{h H:RV Ob}(hl:Le h H){o:Oper}{v:AT}(d:(Dd tb o D h).has v):(Dd tb o D H).has v:=by
 unfold Dd at d ⊢;split at d
 all_goals first
  |exact d
  |(cases d;done)
  |skip
 .split at d
  .exact d
  .exact d
  .split at d
   .rename_i hx j;rw[hl _ _ hx C3,j];exact d
   .cases d
  .exact d.elim
 .split at d
  .split at d
   .rename_i hx;rw[hl _ _ hx C3];exact d
   .cases d
  .exact d
  .split at d
   .rename_i hx;rw[hl _ _ hx C3];exact d
   .cases d
  .exact d.elim
 .split at d
  .exact d
  .split at d
   .rename_i hx;rw[hl _ _ hx C3];exact d
   .cases d
  .exact d.elim
 .split at d
  .exact d
  .exact kU hl d
 .split at d
  .split at d
   .exact d
   .exact kU hl d
  .exact kU hl d
 .split at d
  .split at d
   .exact d
   .split at d
    .rename_i h1 h2;rw[CC hl h2,h1];exact d
    .cases d
   .cases d
  .cases d
 .exact kU hl d
theorem qF{o:Oper}{v:AT}{H':RV Ob}(d:(zU tb o.op D H).has (v,H')):Unt (eB tb O o D H) H H':=by
 have push:∀x:Ob,Unt (eB tb O o D H) H (H++[x]):=λx id y w _=>eN w;unfold zU at d;split at d
 .split at d
  .cases d;exact push _
  .cases d
 .rename_i ac tys ho;split at d
  .rename_i x y t C A ht;split at d
   .split at d
    .exact Ry
    .cases d
   .rename_i id s h1 h2 E;split at d
    .obtain⟨_,_,e⟩:=d;cases e;intro j z B h;simp only[eB,ho,A,h2]at h;exact eN (by rw[sN (λe=>h Qp)];exact B)
    .cases d
   .split at d
    .exact Ry
    .cases d
   .cases d
  .cases d
 .cases d
theorem Ka{o:Oper}{H':RV Ob}(d:(opX tb o.op D H).has H'):Unt (eB tb O o D H) H H':=by
 unfold opX at d;split at d
 .rename_i t m k x ho;split at d
  .rename_i T id s vs h1 h2 y h4
   have set:∀{z:Ob},Unt (eB tb O o D H) H (H.set id z):=λ{z} j w h v=>by
    rw[sN (λe=>v (by simp[eB,ho,h2,e]))];exact h
   split at d
   .split at d
    .split at d
     .cases d;exact set
     .cases d
    .split at d
     .cases d
     .cases d;exact set
    .cases d
   .cases d
  .cases d
 .cases d
theorem Ga{o:Oper}{v:AT}{H':RV Ob}(d:(Gi tb o D H).has (v,H')):Unt (eB tb O o D H) H H':=by
 have push:∀x:Ob,Unt (eB tb O o D H) H (H++[x]):=λx id y w _=>eN w;unfold Gi at d;split at d
 .split at d
  .cases d;exact push _
  .cases d
 .split at d
  .cases d;exact push _
  .cases d
 .split at d
  .split at d
   .split at d
    .cases d;exact push _
    .cases d
   .cases d
  .cases d
 .split at d
  .split at d
   .exact Ry
   .cases d
  .cases d
 .rename_i ac tys ho;split at d
  .rename_i x y t E A ht;split at d
   .rename_i T U F G h1 h2 B h4;split at d
    .split at d
     .rename_i id;split at d
      .split at d
       .obtain⟨_,_,e⟩:=d;cases e;intro j z C h;simp only[eB,ho,A,B]at h;exact eN (by rw[sN (λe=>h Qp)];exact C)
       .cases d
      .cases d
     .exact Ry
     .exact qF d
    .cases d
   .exact qF d
  .cases d
 .exact qF d
theorem KQ{o:Oper}{H':RV Ob}(d:(opN tb o D H).has H'):Unt (eB tb O o D H) H H':=by
 unfold opN at d;split at d
 .rename_i t x y ho;have set:∀{id:Nat}{z:Ob},(∀j,j∉eB tb O o D H->j≠id)->Unt (eB tb O o D H) H (H.set id z):=λA j w C E=>Hd
  split at d
  .rename_i h2 B;split at d
   .split at d
    .cases d;exact set λj h e=>h (by simp[eB,ho,h2,e])
    .cases d
   .cases d
  .rename_i F id k n T G off vs h1 h2 B;have hs:∀{z:Ob},Unt (eB tb O o D H) H (H.set id z):=λ{z}=>set (z:=z) λj h e=>h (by simp only[eB,ho,h2];simp[e])
   split at d
   .split at d
    .split at d
     .split at d
      .split at d
       .split at d
        .cases d;exact hs
        .cases d
       .obtain⟨I,J,v⟩:=d;dsimp only at v;split at v
        .grind
        .cases v
      .cases d
     .cases d
    .cases d
   .cases d
  .cases d
 .exact Ka d
theorem Np(j:bx P tb)(w:fj P O){nt:Nat}(y:E.n=nt){o:Oper}{K:AT->RV Ob->Y R}{r:R}(hc:one tb O nt o D H K=some r):∃v H',K v H'=some r/\(∀F:In,dU P o E F D H v H')/\Unt (eB tb O o D H) H H':=by
 unfold one at hc;split at hc
 .rename_i d hd;split at hc
  .rename_i hlt;have t:d<E.n:=by rw[y];simpa [OB]using hlt
   unfold opD at hc;split at hc
   .obtain⟨v,h1,h2⟩:=Pl.gK hc;exact⟨v,H,h2,λ_=>Fx λρ L h hs hp=>B7 j hd t h1 hs hp,.refl _ _⟩
   .obtain⟨q,h1,h2⟩:=Pl.gK hc;exact⟨q.1,q.2,h2,λ_=>J3 j hd t h1,Ga h1⟩
   .exact Is j w hd t hc
  .cases hc
 .rename_i hd;obtain⟨H',h1,h2⟩:=Pl.gK hc;exact⟨_,H',h2,λ_=>M9 j hd h1,KQ h1⟩
theorem BX(j:bx P tb)(w:fj P O){nt:Nat}(y:E.n=nt){o:Oper}(hk:qz tb O o D=true){K:AT->RV Ob->Y R}{r:R}(hc:one tb O nt o D H K=some r):∃v,K v H=some r/\∀H',Le H H'->dU P o E F D H' v H':=by
 unfold one at hc;split at hc
 .rename_i d hd;split at hc
  .rename_i hlt;have t:d<E.n:=by rw[y];simpa [OB]using hlt
   unfold opD at hc;split at hc
   .obtain⟨v,h1,h2⟩:=Pl.gK hc;exact⟨v,h2,λH' hl=>Fx λρ L h hs hp=>B7 j hd t (Es hl h1) hs hp⟩
   .rename_i h1;exfalso;unfold qz at hk;rw[hd]at hk;simp only at hk;split at hk
    .rename_i e;rw[e]at h1;simp[kind]at h1
    .simp_all
   .exact FK j w hd t hk hc
  .cases hc
 .rename_i hd;unfold qz at hk;rw[hd]at hk;cases hk
theorem vI(h:bx P tb){nt:Nat}(j:E.n=nt){o:Oper}{K:AT->Y R}{r:R}(hc:FC tb nt o D K=some r):∃v,K v=some r/\∀(F:In)(H:RV Ob),dU P o E F D H v H:=by
 unfold FC at hc;split at hc
 .rename_i d hd;split at hc
  .rename_i hlt;have t:d<E.n:=by rw[j];simpa [OB]using hlt
   obtain⟨v,h1,h2⟩:=Pl.gK hc;exact⟨v,h2,λ_ H=>JK h hd t h1⟩
  .cases hc
 .cases hc
theorem gO{dst:Y Nat}{v:AT}{h:AV}(hs:bT ρ H D L)(j:ATR ρ H v h):bT ρ H (jQ dst v D) (Abs.cK dst h L):=by
 cases dst with
 |none=>exact hs
 | some d=>
  intro t x hx;simp only[jQ,NT]at hx;simp only[Abs.cK,NT];split at hx
  .grind
  .exact hs t x hx
theorem ES{l:RV Oper}{j:Nat}:gsl l j=Abs.cn l.toArray j:=by
 unfold gsl Abs.cn;simp only[List.getElem?_toArray];cases l[j]? <;>rfl
theorem Bk{d:Nat}{p:Bool}(hs:bT ρ H D L)(h:D.lookup d=some (.one (.b p))):L.lookup d=some (.one (.lit (.bool p))):=by
 obtain⟨t,h1,h2⟩:=hs d _ h;obtain⟨u,rfl,j⟩:=h2.aY;rw[h1,j.bool]
theorem La{d:Nat}(hs:bT ρ H D L)(h:D.lookup d=some (.tup [])):L.lookup d=some (.tup []):=by
 obtain⟨j,h1,h2⟩:=hs d _ h;cases h2 with
 | @tup xs ys hl hr=>
  cases ys with
  |nil=>exact h1
  |cons _ _=>simp at hl
inductive Gd(ops:Array Oper)(n:Nat)(o:Oper)(D:List (Nat×AT)):Bool->Prop
 |run (h:o.guard=none):Gd ops n o D true
 |runG {j d:Nat} {want:Bool} (h:o.guard=some (j,want)) (hj:Abs.cn ops j=some d) (hd:D.lookup d=some (.one (.b want))):Gd ops n o D true
 |skip {j d d':Nat} {p want:Bool} (h:o.guard=some (j,want)) (hj:Abs.cn ops j=some d) (hd:D.lookup d=some (.one (.b p))) (hp:p= !want) (hdst:o.dst=some d') (hn:d'<n):Gd ops n o D false
 |skipU {j d d':Nat} {want:Bool} (h:o.guard=some (j,want)) (hj:Abs.cn ops j=some d) (hd:D.lookup d=some (.tup [])) (hdst:o.dst=some d') (hn:d'<n):Gd ops n o D false
def Same(D d:RV (Nat×AT)):Prop:=∀t,D.lookup t=d.lookup t
theorem Same.refl(D:RV (Nat×AT)):Same D D:=λ_=>rfl
theorem Same.trans{D d j:RV (Nat×AT)}(h:Same D d)(k:Same d j):Same D j:=λt=>(h t).trans (k t)
theorem Same.enc{D d:RV (Nat×AT)}(h:Same d D)(k:bT ρ H D L):bT ρ H d L:=λt v j=>k t v (by rw[<-h t];exact j)
theorem jf{d:Nat}{v:AT}{D:RV (Nat×AT)}(h:D.lookup d=some v):Same ((d,v)::D) D:=λt=>Hd
theorem Same.bind{D j:RV (Nat×AT)}(h:Same D j)(dst:Y Nat)(v:AT):Same (jQ dst v D) (jQ dst v j):=by
 cases dst with
 |none=>exact h
 |some d=>intro t;simp only[jQ,NT];split<;>first|rfl|exact h t
theorem Same.sel{D d:RV (Nat×AT)}(h:Same D d):∀ts,Draw.sel D ts=Draw.sel d ts
 |[]=>rfl
 |t::ts=>by simp only[Draw.sel];rw[h t,Same.sel h ts]
theorem li{nt:Nat}{l:RV Oper}{o:Oper}{A D:RV (Nat×AT)}(h:Draw.Sub A D){run skip:RV (Nat×AT)->Y R}{r:R}(hc:oq nt l o A D run skip=some r):∃B,Same B D/\((Gd l.toArray nt o A true/\run B=some r)\/(Gd l.toArray nt o A false/\skip B=some r)):=by
 unfold oq at hc;split at hc
 .rename_i v;exact⟨D,.refl D,.inl ⟨.run v,hc⟩⟩
 .rename_i j y v;split at hc
  .rename_i d E w t;rw[ES]at w;split at hc
   .rename_i hlt;have C:E<nt:=by simpa [OB]using hlt
    split at hc
    .rename_i p hd;cases y<;>cases p
     .exact⟨_,jf (h _ _ hd),.inl ⟨.runG v w hd,hc⟩⟩
     .exact⟨_,jf (h _ _ hd),.inr ⟨.skip v w hd rfl t C,hc⟩⟩
     .exact⟨_,jf (h _ _ hd),.inr ⟨.skip v w hd rfl t C,hc⟩⟩
     .exact⟨_,jf (h _ _ hd),.inl ⟨.runG v w hd,hc⟩⟩
    .rename_i hd;exact⟨D,.refl D,.inr ⟨.skipU v w hd t C,hc⟩⟩
    .cases hc
   .cases hc
  .cases hc
theorem AF{α:Type}{xs ys:RV α}{i:Int}(h:FY xs i=some ys):0<i/\i<=xs.length/\ys=xs.drop i.toNat:=by
 unfold FY at h;cases hb:decide (0<i)&&decide (i<=(xs.length:Int))with
 | true=>
  rw[hb]at h;simp at hb h;exact⟨hb.1,hb.2,h.symm⟩
 |false=>rw[hb]at h;cases h
theorem zr{α:Type}{xs ys:RV α}{i:Int}(h:uF xs i=some ys):0<=i/\i<=xs.length/\ys=xs.take i.toNat:=by
 unfold uF at h;cases hb:decide (0<=i)&&decide (i<=(xs.length:Int))with
 | true=>
  rw[hb]at h;simp at hb h;exact⟨hb.1,hb.2,h.symm⟩
 |false=>rw[hb]at h;cases h
theorem yi{im:RV Nat}{o:Oper}(h:o.dst=none):kN tb im o D H=none:=by
 unfold kN;rw[h];split
 .grind
 .grind
 .rfl
theorem Dh(w:bx P tb){im:RV Nat}{o:Oper}{d:Nat}(hd:o.dst=some d)(J:d<E.n){q:Nat×Pl (AT×RV Ob)}(hs:kN tb im o D H=some q){v:AT}{H':RV Ob}(h:q.2.has (v,H')):(∀F,dU P o E F D H v H')/\Unt [q.1] H H':=by
 obtain⟨dst,op,ty,pos,af,gd⟩:=o;simp only at hd;subst hd;unfold kN at hs;simp only at hs;split at hs
 .rename_i t x y K e;cases e;split at hs
  .split at hs
   .rename_i id hx;cases hs;simp only at h ⊢;split at h
    .rename_i T L n xs i ht hr B;obtain⟨M,h1,h2⟩:=Option.bind_eq_some_iff.1 ht;split at h
     .rename_i zs hc;obtain⟨rfl,rfl⟩:=dg hc;obtain⟨ys,C,G⟩:=h;cases G;obtain⟨q1,q2,rfl⟩:=AF C;refine⟨λF=>Ds w J h1 h2 hx hr B q1 q2,λj z A I=> ?_⟩;have hl:=(gI.1 A).1;rw[aL PS,sN (λe=>I Qp)];exact A
     .cases h
    .cases h
   .cases hs
  .cases hs
 .rename_i t x y K e;cases e;split at hs
  .split at hs
   .rename_i id hx;cases hs;simp only at h ⊢;split at h
    .rename_i T L n xs i ht hr B;obtain⟨M,h1,h2⟩:=Option.bind_eq_some_iff.1 ht;split at h
     .rename_i zs hc;obtain⟨rfl,rfl⟩:=dg hc;obtain⟨ys,C,G⟩:=h;cases G;obtain⟨q1,q2,rfl⟩:=zr C;refine⟨λF=>DJ w J h1 h2 hx hr B q1 q2,λj z A I=> ?_⟩;have hl:=(gI.1 A).1;rw[aL PS,sN (λe=>I Qp)];exact A
     .cases h
    .cases h
   .cases hs
  .cases hs
 .cases hs
theorem Ct{ρ:Rho}{H:RV Ob}{c:C}{v:V}(h:CR ρ H c v):∃d,CR ρ H (EM c) d/\∀(I:Nat->Prop)(w:World)(ι:RV Abs.Inf)(u:Value),Abs.VR I w ι v u->Abs.VR I w ι d u:=by
 unfold EM;split
 .rename_i T;have j:v= .lit (.slice none 0 0)/\0<szT T:=by
   cases h with
   |fl h=>cases h
   |nil hp=>exact⟨rfl,hp⟩
  obtain⟨rfl,hp⟩:=j;refine⟨.imm (szT T) [],.fl (FR.et hp),λI w ι u t=> ?_⟩;cases t with
  |lit _=>exact .dC (N9 _)
 .grind
theorem xw{ρ:Rho}{H:RV Ob}:∀{cs:RV C}{vs:RV V},CRs ρ H cs vs->∃d,CRs ρ H (cs.map EM) d/\d.length=vs.length/\∀(j:Nat)(h1:j<vs.length)(h2:j<d.length)(I:Nat->Prop)(w:World)(ι:RV Abs.Inf)(u:Value),Abs.VR I w ι vs[j] u->Abs.VR I w ι d[j] u
 |[],vs,h=>⟨vs,h,rfl,λj h1 h2=>λ_ _ _ _ h=>h⟩
 |c::cs,[],h=>by have:=h.1;simp at this
 | c::cs,v::vs,h=>by
  have h0:CR ρ H c v:=h.2 0 C3 C3
  have hs:CRs ρ H cs vs:=⟨PV,λj h1 h2=>by
   have:=h.2 (j+1) Hl HA;simpa using this⟩
  obtain⟨t,y,A⟩:=Ct h0;obtain⟨d,b1,b2,b3⟩:=xw hs;refine⟨t::d,CRs.cons y b1,by simp[b2],λj h1 h2=> ?_⟩;cases j with
  |zero=>exact A
  |succ j=>exact b3 j Hl HA
theorem J1{ρ:Rho}{H:RV Ob}{x:AT}{a:AV}(h:ATR ρ H x a):∃B,ATR ρ H (Jv x) B/\∀(I:Nat->Prop)(w:World)(ι:RV Abs.Inf)(u:Value),Abs.AR ι I w a u->Abs.AR ι I w B u:=by
 cases h with
 | @one c v h=>
  obtain⟨E,t,C⟩:=Ct h;exact⟨.one E,.one t,λI w ι u d=>by
   cases d with
   |one d=>exact .one (C I w ι u d)⟩
 | @agg cs vs h=>
  obtain⟨y,t,C,a3⟩:=xw h;refine⟨.agg y,.agg t,λI w ι u d=> ?_⟩;cases d with
  | @agg _ cs f hl A hr=>
   exact .agg (f:=f) A1 (λj D=>A j A1) (λj D=>a3 j A1 D _ _ _ _ (hr j A1))
 | @tup xs ys hl h=>exact⟨.tup ys,.tup hl h,λ_ _ _ _ h=>h⟩
theorem Iv{o:Oper}{d:Nat}(hd:o.dst=some d){v:AT}{H':RV Ob}{L:Env}{h:aD}{ρ:Rho}(A:ar P o E (I8 F H ρ o.dst L v H') L h):ar P o E (I8 F H ρ o.dst L (Jv v) H') L h:=by
 refine nY A ?_;rintro L2 h2 ⟨ρ',K,rfl,m1,B,C,D⟩;obtain⟨j,G,M⟩:=J1 m1;refine⟨Abs.cK o.dst j L,h2,⟨ρ',j,rfl,G,B,C,D⟩,λLf=>⟨λE ι I a w r=>⟨I,{r with aO:=λt u y=> ?_}⟩⟩⟩;rw[hd]at y r;simp only[Abs.cK,Pn,NT]at y;have J:=r.aO t;simp only[Abs.cK,Pn,NT]at J;split at y
 .grind
 .grind
theorem BT(j:bx P tb)(y:fj P O){nt:Nat}(w:E.n=nt){im:RV Nat}{o:Oper}{K:AT->RV Ob->Y R}{r:R}(hc:IG tb O nt im o D H K=some r):∃v H',K v H'=some r/\∀F,dU P o E F D H v H'/\Unt (j5 tb O im o D H) H H':=by
 have plain:∀{K:AT->RV Ob->Y R},kN tb im o D H=none->one tb O nt o D H K=some r->∃v H',K v H'=some r/\∀F,dU P o E F D H v H'/\Unt (j5 tb O im o D H) H H':=λ{K} t hc=>let⟨v,H',h1,h2,A⟩:=Np j y w hc;⟨v,H',h1,λF=>⟨h2 F,by unfold j5;rw[t];exact A⟩⟩
 unfold IG at hc;split at hc
 .rename_i d hd;split at hc
  .obtain⟨v,h1,h2⟩:=vI (E:=E) j w hc;exact⟨v,H,h1,λF=>⟨h2 F H,.refl _ _⟩⟩
  .split at hc
   .rename_i hb;rw[bA]at hb;have t:kN tb im o D H=none:=by
     obtain⟨dst,op,ty,pos,af,gd⟩:=o;have hb:=hb.2;cases op<;>first|rfl|cases hb
    obtain⟨v,H',h1,h2⟩:=plain t hc;exact⟨Jv v,H',h1,λF=>⟨λρ L h hs B C=>Iv hd ((h2 F).1 ρ L h hs B C),(h2 F).2⟩⟩
   .split at hc
    .rename_i q t;split at hc
     .rename_i hlt;obtain⟨z,h1,h2⟩:=Pl.gK hc;obtain⟨k1,G⟩:=Dh (E:=E) j hd (by rw[w];simpa [OB]using hlt) t h1;exact⟨z.1,z.2,h2,λF=>⟨k1 F,by unfold j5;rw[t];exact G⟩⟩
     .cases hc
    .grind
 .rename_i hd;exact plain (yi hd) hc
def KS(P:Program)(o:Oper)(E:Abs.Cx)(F:In)(D:RV (Nat×AT))(H:RV Ob)(v:AT)(H':RV Ob):Prop:=
 ∀ρ L h,bT ρ H D L->HpR ρ H h->Fr F ρ H h->XR F ρ H h->ar P o E (λL2 h2=>∃ρ' d,L2=Abs.cK o.dst d L/\ATR ρ' H' v d/\HpR ρ' H' h2/\Ev ρ H ρ' H'/\Fr F ρ' H' h2/\XR F ρ' H' h2) L h
theorem xk{ids:RV Nat}{H':RV Ob}(j:Unt ids H H')(hk:okX H ids H'=true):bW H H':=λid y d hr=>by
 unfold okX at hk;rw[bA]at hk;by_cases hid:id<H.length
 .by_cases hm:id∈ids
  .grind
  .have e:=gE hid;have:=j id _ e hm;rw[d]at this;cases this;exact e
 .have:y∈H'.drop H.length:=by
   refine mG (i:=id-H.length) ?_;rw[Pv,(A1:H.length+(id-H.length)=id)];exact d
  have h:(!y.eR)=true:=aT.1 hk.2 y this;rw[hr]at h;cases h
section
variable {d : Nat} {ty : TypeId} {pos : String} {af : Array Edge} {gd : Y (Nat × Bool)} {id k : Nat} {T : Ty} {xss : RV (RV (I T))}
end
theorem BM(h:bx P tb){im:RV Nat}{o:Oper}{p:Pl (AT×RV Ob)}(he:LY tb im o D H=some p){v:AT}{H':RV Ob}(j:p.has (v,H'))(hd:∀d,o.dst=some d->d<E.n):KS P o E F D H v H':=by unfold LY at he;cases he
theorem JH(j:bx P tb)(B:fj P O){nt:Nat}(w:E.n=nt){im:RV Nat}{o:Oper}{K:AT->RV Ob->Y R}{r:R}(hc:Lr tb O nt im o D H K=some r):∃v H',K v H'=some r/\KS P o E F D H v H':=by
 unfold Lr at hc;split at hc
 .rename_i p he;split at hc
  .rename_i d hd;split at hc
   .rename_i hlt;obtain⟨q,h1,h2⟩:=Pl.gK hc;exact⟨q.1,q.2,h2,BM j he h1 λC h'=>by rw[hd]at h';cases h';rw[w];simpa [OB]using hlt⟩
   .cases hc
  .rename_i hd;obtain⟨q,h1,h2⟩:=Pl.gK hc;exact⟨q.1,q.2,h2,BM j he h1 λC h'=>by rw[hd]at h';cases h'⟩
 .obtain⟨v,H',k1,y⟩:=BT (E:=E) j B w hc;split at k1
  .rename_i t;refine⟨v,H',k1,λρ L h hs hp G hx=>nj ((y ⟨h,ρ,H⟩).1 ρ L h hs hp (Fr.refl _ _ _)) ?_⟩;rintro N Q ⟨ρ',I,rfl,m1,J,M,A⟩;exact⟨ρ',I,rfl,m1,J,M,G.trans A,hx.aB A (xk (y ⟨h,ρ,H⟩).2 t)⟩
  .cases k1
theorem AC{α:Type}{xs ys zs:RV α}{i:Int}(h:tA xs ys i=some zs):0<=i/\i<=xs.length/\lim (ys++xs.drop i.toNat)=some zs:=by
 unfold tA at h;cases hb:decide (0<=i)&&decide (i<=(xs.length:Int))with
 | true=>
  rw[hb]at h;simp only[bA,NO]at hb;exact⟨hb.1,hb.2,h⟩
 |false=>rw[hb]at h;cases h
theorem Ky(A:bx P tb){w d2:Nat}{ty:TypeId}{pos:String}{af:Array Edge}(N:w<E.n)(O:d2<E.n){t Z t2 id d n m z:Nat}{ti B C:TI}{T U:Ty}{x y:Operand}{i:Int}{xs ys zs:RV (I T)}{ty2:TypeId}{pos2:String}{af2:Array Edge}{ops:Array Oper}{rest:RV Oper}{K:Env->aD->Prop}(ht:tb t=some ti)(he:ti.elem=some T)(Q:tb Z=some B)(R:B.elem=some T)(S:tb t2=some C)(V:C.elem=some U)
  (hs:bT ρ H D L) (hh:HpR ρ H h) (hf:Fr F ρ H h) (W:XR F ρ H h) (hx:ev D x=some (.one (.o id))) (hr:H[id]? =some (.row T n xs)) (M:ev D y=some (.one (.i i))) (hz:D.lookup z=some (.one (.o d))) (G:H[d]? =some (.row T m ys)) (hzd:z≠w) (hi:0<=i) (X:i<=xs.length) (hl:lim (ys++xs.drop i.toNat)=some zs)
  (hk:∀ρ' L' h',SR F ρ' ⟨(d2,.one (.o H.length))::(w,.one (.o d))::D,(H.set d .aN)++[.row T 0 zs]⟩ L' h'->Abs.ao P ops rest E K L' h'):
  Abs.ao P ops (⟨some w,.slice t x (some y) none none,ty,pos,af,none⟩::⟨some d2,.call ⟨.builtin .append,#[.tmp z,.tmp w],#[Z,t2]⟩,ty2,pos2,af2,none⟩::rest) E K L h:=by
 refine Abs.vi rfl (JC A N ht he hs hh hx hr M hi X λv ns h1 h2=>Abs.vi rfl ?_);obtain⟨j,G2⟩:=A.get S;obtain⟨el',z'',k0,k1,_⟩:=G2.elem U V;obtain⟨vz,z1,z2⟩:=hs z _ hz;have Y:bT ρ H [(z,.one (.o d))] ((w,.one v)::L):=λs u hu=>Hd
 refine nj (sr (F:=⟨h,ρ,H⟩) A O Q R (x:=.tmp z) (y:=.tmp w) (D:=[(z,.one (.o d))]) (by simp[ev]) G hl Y hh (Fr.refl _ _ _) ⟨ns,h1,Abs.pv G2.tb k1 (by simp[Abs.ev]) h2⟩) ?_;rintro L3 h3 ⟨ρ',av,rfl,m1,m2,m3,m4⟩;have hlt:=(gI.1 G).1;have hg:((H.set d Ob.aN)++[Ob.row T 0 zs])[d]? =some .aN:=Hd
 refine hk ρ' _ h3 ⟨?_,m2,hf.trans m4,W.aB m4 ?_⟩
 .exact gO (dst:=some d2) (gO (dst:=some w) (hs.mono m3) (.one (.oG hg))) m1
 .intro j y J M;by_cases hjl:j<H.length
  .rw[aL (by simpa using hjl)]at J;by_cases e:d=j
   .subst e;rw[sS hlt]at J;cases J;cases M
   .grind
  .rw[aR D5]at J;have:=mG J;simp at this;subst this;cases M
theorem GL(G:bx P tb){nt:Nat}(V:E.n=nt){im:RV Nat}{ops:Array Oper}{o:Oper}{rest j:RV Oper}{W:Oper}(w:rest=W::j){p:Pl (RV (Nat×AT)×RV Ob)}(hp:GD tb nt im o rest D H=some p){q:RV (Nat×AT)×RV Ob}(v:p.has q){K:Env->aD->Prop}
  (hs:bT ρ H D L) (Y:HpR ρ H h) (Z:Fr F ρ H h) (I:XR F ρ H h) (hk:∀ρ' L' h',SR F ρ' ⟨q.1,q.2⟩ L' h'->Abs.ao P ops j E K L' h'):Abs.ao P ops (o::rest) E K L h:=by
 subst w;obtain⟨dst,op,ty,pos,af,gd⟩:=o;obtain⟨X,op2,ty2,pos2,af2,gd2⟩:=W;unfold GD at hp;simp only at hp;split at hp
 .rename_i t x y;split at hp
  .rename_i d1 o2' _ e;cases e;split at hp
   .split at hp
    .rename_i ac tys d2 A B C;simp only at A B C;subst A B C;split at hp
     .rename_i z d t1 t2 ha hb;have J:ac= #[Operand.tmp z,Operand.tmp d]:=by rw[<-Pk (xs:=ac),ha]
      have M:tys= #[t1,t2]:=by rw[<-Pk (xs:=tys),hb]
      subst J M;split at hp
      .rename_i hc;rw[bA,bA,bA]at hc;obtain⟨⟨⟨c1,c2⟩,c3⟩,c4⟩:=hc;have c1:=nB c1;subst c1;have c2:z≠d:=λe=>by subst e;simp at c2
       rw[OB]at c3 c4;split at hp
       .rename_i id i id2 hx hy hz;cases hp;split at v
        .rename_i ti ti1 ti2 _ n xs _ m ys ht N O hr Q _;split at v
         .rename_i T T1 U he R S;split at v
          .rename_i xs2 ys2 A B;obtain⟨rfl,rfl⟩:=dg A;obtain⟨rfl,rfl⟩:=dg B;split at v
           .rename_i xs3 C;obtain⟨rfl,rfl⟩:=dg C;obtain⟨zs,e4,e5⟩:=v;cases e5;obtain⟨k1,k2,k3⟩:=AC e4;exact Ky G (by rw[V];exact c3) (by rw[V];exact c4) ht he N R O S hs Y Z I hx hr hy hz Q c2 k1 k2 k3 hk
           .cases v
          .cases v
         .cases v
        .cases v
       .cases hp
      .cases hp
     .cases hp
    .cases hp
   .cases hp
  .cases hp
 .cases hp
theorem Jl(j:bx P tb)(t:fj P O){nt:Nat}(w:E.n=nt){im:RV Nat}{o:Oper}{K:AT->RV Ob->Y R}{r:R}(hc:oneR tb O nt im o D H K=some r)(hs:bT ρ H D L)(hp:HpR ρ H h)(y:Fr F ρ H h)(hx:XR F ρ H h):
  ar P o E (λL2 h2=>∃v H' ρ' d,K v H'=some r/\L2=Abs.cK o.dst d L/\ATR ρ' H' v d/\HpR ρ' H' h2/\Ev ρ H ρ' H'/\Fr F ρ' H' h2/\XR F ρ' H' h2) L h:=by
 obtain⟨v,H',k1,A⟩:=JH (F:=F) j t w hc;exact nj (A ρ L h hs hp y hx) λL2 h2 ⟨ρ',d,m⟩=>⟨v,H',ρ',d,k1,m⟩
theorem qi(w:bx P tb)(J:fj P O){nt:Nat}(y:E.n=nt){im:RV Nat}{ops:RV Oper}{K:St->Y R}{r:R}:∀{rest:RV Oper}{st:St}{ρ:Rho}{L:Env}{h:aD},DF tb O nt im ops rest st K=some r->SR F ρ st L h->ao P ops.toArray rest E (λL2 h2=>∃ρ' t,K t=some r/\SR F ρ' t L2 h2) L h
 |[],st,ρ,L,h,hc,hs=>Abs.LN ⟨ρ,st,hc,hs⟩
 | o::rest,st,ρ,L,h,hc,hs=>by
  unfold DF at hc;obtain⟨L2,h2,T,d⟩:=ii (ids:=vo O im o st.L) hs;refine Abs.F4 T ?_;clear hs T L h;obtain⟨A,U⟩:∃A,A=cJ (vo O im o st.L) st:=⟨_,rfl⟩;rw[<-U]at d;simp only[prep,<-U]at hc;split at hc
  .rename_i p hp;split at hc
   .rename_i o2 M;obtain⟨q,q1,q2⟩:=Pl.gK hc;exact GL (F:=F) w y rfl hp q1 d.aO d.heap d.fr d.xr λρ' L' h' N=>qi w J y q2 N
   .cases hc
  obtain⟨D',B,C⟩:=li (λ_ _ h=>h) hc;have D:=B.enc d.aO;rcases C with⟨g,k⟩|⟨g,k⟩
  .have run:ar P o E (ao P ops.toArray rest E (λL2 h2=>∃ρ' t,K t=some r/\SR F ρ' t L2 h2)) L2 h2:=by
    refine nj (Jl w J y k D d.heap d.fr d.xr) ?_;rintro L3 h3 ⟨v,H',ρ',av,k1,rfl,m1,V,W,X,Z⟩;exact qi w J y k1 ⟨gO (D.mono W) m1,V,X,Z⟩
   cases g with
   |run G=>exact Abs.vi G run
   |runG G I hd=>exact Abs.Na G I (Bk d.aO hd) rfl run
  .have skip:∀{Q},o.dst=some Q->ao P ops.toArray rest E (λL2 h2=>∃ρ' t,K t=some r/\SR F ρ' t L2 h2) ((Q,.tup [])::L2) h2:=λ{Q} j=>by
    have:=gO (dst:=o.dst) D (nQ (ρ:=ρ) (H:=A.H));rw[j]at this k;exact qi w J y k ⟨this,d.heap,d.fr,d.xr⟩
   cases g with
   |skip G I hd hp j S=>exact Abs.J9 G I (Bk d.aO hd) hp j (by rw[y];exact S) (skip j)
   |skipU G I hd j S=>exact Abs.Hj G I (La d.aO hd) j (by rw[y];exact S) (skip j)
end
end Go.Proofs.YtigoabbppmdfpaaGreat.Den

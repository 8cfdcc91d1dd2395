/- merged -/
import Derived.Test.YtigoabbppmdfpaaGreatChecked
import Derived.WalkSpells
import Derived.WalkLawsBesides
import Derived.Deep.OwnRows
import Derived.Deep.QuietTactic
import Derived.BigQuiet
import Derived.Sort.Grow
import Derived.Deep.RegionHeld3
import Derived.RegionCalls
import Derived.Lib.SliceRun
import Derived.Lib.SlicesS
import Derived.Lib.Walk
import Derived.Sort.WalkB12
import Derived.Deep.LoopGhost
import Derived.Test.YtigoabbppmdfpaaGreatZRowPE8
import Derived.Test.YtigoabbppmdfpaaGreatZRowPE11
import Derived.Test.YtigoabbppmdfpaaGreatZRowPE12
import Derived.Test.YtigoabbppmdfpaaGreatZRowPE13

namespace Go.Proofs.YtigoabbppmdfpaaGreat.Den
open Go.RowKit
theorem ln{a:Nat}(h:a<9223372036854775808):(BitVec.ofInt IntKind.i64.bits (a:Int)).toNat=a:=by
 show (BitVec.ofInt 64 (a:Int)).toNat=a;rw[BitVec.toNat_ofInt];omega
theorem zi{a:Nat}(h:a<9223372036854775808):IntKind.i64.wrap (a:Int)=a:=Abs.qn A1 A1
theorem JI{a b:Nat}(d:a<9223372036854775808)(hb:b<9223372036854775808):Abs.bi .or .i64 a b=((a|||b:Nat):Int):=by
 unfold Abs.bi;simp only;rw[BitVec.toNat_or,ln d,ln hb,zi];exact Nat.or_lt_two_pow (n:=63) d hb
theorem yK{a b:Nat}(d:a<9223372036854775808)(hb:b<9223372036854775808):Abs.bi .and .i64 a b=((a&&&b:Nat):Int):=by
 unfold Abs.bi;simp only;rw[BitVec.toNat_and,ln d,ln hb,zi];exact Nat.lt_of_le_of_lt Nat.and_le_left d
theorem sH{k:Nat}(hk:k<63):Abs.bi .shl .i64 1 k=((2^k:Nat):Int):=by
 unfold Abs.bi;simp only;have e:min ((k:Int).toNat) IntKind.i64.bits=k:=by
  have:IntKind.i64.bits=64:=rfl;rw[this];omega
 rw[e];have h2:(2:Nat)^k<9223372036854775808:=by
  have:=Nat.pow_lt_pow_right (a:=2) A1 hk;exact RR
 have:=zi h2;exact RR
theorem Jz{a k:Nat}(hk:k<64):Abs.bi .shr .i64 a k=((a>>>k:Nat):Int):=by
 unfold Abs.bi;simp only;have e:min ((k:Int).toNat) IntKind.i64.bits=k:=by
  have:IntKind.i64.bits=64:=rfl;rw[this];omega
 rw[e,Ph _ (Pp (Int.pow_pos D2)),Nat.shiftRight_eq_div_pow];simp
theorem wP{k:Int}(h0:0<=k)(h1:k<1000):IntKind.wrap .u64 k=k:=by
 simp[IntKind.wrap,IntKind.signed,IntKind.bits];omega
theorem Bj{a k:Nat}(d:a<9223372036854775808)(hk:k<63):(decide (Abs.bi .and .i64 a ((2^k:Nat):Int)=0))= !a.testBit k:=by
 have h2:(2:Nat)^k<9223372036854775808:=by
  have:=Nat.pow_lt_pow_right (a:=2) A1 hk;exact RR
 rw[yK d h2];have key:(a&&&2^k=0)↔a.testBit k=false:=by
  constructor
  .intro h;have:=congrArg (λn=>Nat.testBit n k) h;simpa [Nat.testBit_and,Nat.testBit_two_pow]using this
  .intro h;apply Nat.eq_of_testBit_eq;intro j;rw[Nat.testBit_and,Nat.testBit_two_pow,Nat.zero_testBit];by_cases e:k=j
   .grind
   .simp[e]
 cases h:a.testBit k with
 |false=>rw[key.2 h];rfl
 | true=>
  have:¬(a&&&2^k=0):=λe=>by rw[key.1 e]at h;cases h
  simp[this]
theorem uN{a k:Nat}(d:a<9223372036854775808)(hk:k<63):(decide (Abs.bi .and .i64 (Abs.bi .shr .i64 a k) 1=1))=a.testBit k:=by
 rw[Jz A1,show (1:Int)=((1:Nat):Int)from rfl,yK (by
  rw[Nat.shiftRight_eq_div_pow];exact Nat.lt_of_le_of_lt (Nat.div_le_self _ _) d) A1]
 rw[Nat.testBit,Nat.and_comm,Nat.one_and_eq_mod_two];rcases Nat.mod_two_eq_zero_or_one (a>>>k)with h|h<;>rw[h]<;>rfl
theorem rM(s:Z)(i:Int):sIx s i=ix (ofS s) i:=by
 unfold sIx ix ofS;cases decide (0<=i)with
 |false=>rfl
 | true=>
  simp only[cT];rw[Oq,OS];have:s[i.toNat]? =s.data[i.toNat]? :=rfl;rw[this];cases s.data[i.toNat]? <;>rfl
theorem bm(s:Z):(ofS s).length=s.size:=by unfold ofS;rw[Ol,OM];rfl
theorem Du(s:Z):∀c∈ofS s,0<=c/\c<=255:=λc hc=>by
 obtain⟨b,_,rfl⟩:=List.mem_map.1 hc;have:=b.toNat_lt;omega
theorem bB{a b:Nat}(h:a<b):decide ((a:Int)<(b:Int))=true:=dT A1
theorem bz{a b:Nat}(h:¬a<b):decide ((a:Int)<(b:Int))=false:=dF A1
theorem bN{i:Nat}(h:i<4294967296):wr ((i:Int)+1)=((i+1:Nat):Int):=by
 have:=aH (x:=(i:Int)+1) A1;rw[this];omega
theorem aZ{α:Type}{xs:RV α}{k:Nat}{x:α}(h:xs[k]? =some x):ix xs (k:Int)=some x:=ix_nat.trans h
theorem KF{α:Type}{x:α}{xs:RV α}:ix (x::xs) 0=some x:=by simp[ix]
theorem Lb{A R:Type}(N:Nat)(B:Int->A->(Int->A->Y R)->Y R)(Q:Nat->A->Prop)(val:Nat->A->Y R)
  (h:∀a nx,Q N a->B N a nx=val N a)
  (d:∀i a nx,i<N->Q i a->(∀j,Q (i+1) j->nx ((i+1:Nat):Int) j=val (i+1) j)->B i a nx=val i a):
  ∀m i a,Q i a->i<=N->N-i<m->aS (λ(v:Int×A) nx=>B v.1 v.2 (λt w=>nx (t,w))) m ((i:Int),a)=val i a
 |0,i,a,_,_,hm=>absurd hm (NP _)
 | m+1,i,a,C,hi,hm=>by
  show B (i:Int) a (λt w=>aS (λ(v:Int×A) nx=>B v.1 v.2 (λt w=>nx (t,w))) m (t,w))=_;rcases Nat.eq_or_lt_of_le hi with rfl|hlt
  .grind
  .exact d i a _ hlt C λj y=>Lb N B Q val h d m (i+1) j y hlt A1
theorem G7{A R:Type}(N:Nat)(B:A->Int->(A->Int->Y R)->Y R)(Q:Nat->A->Prop)(val:Nat->A->Y R)
  (h:∀a nx,Q N a->B a N nx=val N a)
  (d:∀i a nx,i<N->Q i a->(∀j,Q (i+1) j->nx j ((i+1:Nat):Int)=val (i+1) j)->B a i nx=val i a):
  ∀m i a,Q i a->i<=N->N-i<m->aS (λ(v:A×Int) nx=>B v.1 v.2 (λt w=>nx (t,w))) m (a,(i:Int))=val i a
 |0,i,a,_,_,hm=>absurd hm (NP _)
 | m+1,i,a,C,hi,hm=>by
  show B a (i:Int) (λt w=>aS (λ(v:A×Int) nx=>B v.1 v.2 (λt w=>nx (t,w))) m (t,w))=_;rcases Nat.eq_or_lt_of_le hi with rfl|hlt
  .grind
  .exact d i a _ hlt C λj y=>G7 N B Q val h d m (i+1) j y hlt A1
theorem AU{R:Type}(N:Nat)(B:Int->(Int->Y R)->Y R)(val:Nat->Y R)
  (h:∀nx,B N nx=val N)
  (d:∀i nx,i<N->nx ((i+1:Nat):Int)=val (i+1)->B i nx=val i):
  ∀m i,i<=N->N-i<m->aS (λ(v:Int) nx=>B v (λj=>nx j)) m (i:Int)=val i
 |0,i,_,hm=>absurd hm (NP _)
 | m+1,i,hi,hm=>by
  show B (i:Int) (λj=>aS (λ(v:Int) nx=>B v (λj=>nx j)) m j)=_;rcases Nat.eq_or_lt_of_le hi with rfl|hlt
  .exact h _
  .exact d i _ hlt (AU N B val h d m (i+1) hlt A1)
theorem Eh{α β:Type}{f:β->α->β}{b:β}{xs:RV α}{i:Nat}{x:α}(h:xs[i]? =some x):(xs.take (i+1)).foldl f b=f ((xs.take i).foldl f b) x:=by
 obtain⟨hlt,rfl⟩:=gI.1 h;rw[O7 hlt,List.foldl_append];rfl
theorem qx{α:Type}{xs:RV α}:xs.take xs.length=xs:=OO (N4 _)
theorem bQ{α:Type}{xs:RV α}:xs.drop xs.length=[]:=Oj (N4 _)
theorem bu{α:Type}{xs:RV α}{i:Nat}(h:i<xs.length):∃x,xs[i]? =some x/\x∈xs:=⟨xs[i],gE h,gM h⟩
theorem bg{α:Type}{xs:RV α}{i:Nat}{x:α}(h:xs[i]? =some x):xs.drop i=x::xs.drop (i+1):=by
 obtain⟨hlt,rfl⟩:=gI.1 h;exact Pm hlt
theorem ij{α:Type}{xs:RV α}{i:Nat}{x:α}(h:xs[i]? =some x):xs.take (i+1)=xs.take i++[x]:=by
 obtain⟨hlt,rfl⟩:=gI.1 h;exact O7 hlt
theorem dw{α:Type}{xs:RV α}(h:xs.length<=4294967296):lim xs=some xs:=by
 unfold lim;rw[Nat.ble_eq_true_of_le h];rfl
def fg(f:Tm->Tm->Int):RV Tm->RV Tm->Int
 |[],[]=>0
 |[],_::_=> -1
 |_::_,[]=>1
 |x::xs,y::ys=>if f x y=0 then fg f xs ys else f x y
def bF(a b:Int):Int:=if a=b then 0 else if a<b then -1 else 1
def cM(a b:Z):Int:=if a=b then 0 else if Abs.eu a b then -1 else 1
def lB(f:RV Tm->RV Tm->Int)(a b:Tm):Int:=if bF a.op b.op=0 then (if cM a.ae b.ae=0 then (if bF a.ag b.ag=0 then f a.ac b.ac else bF a.ag b.ag)else cM a.ae b.ae)else bF a.op b.op
def Je:Nat->Tm->Tm->Int
 |0,_,_=>0
 |k+1,a,b=>lB (fg (Je k)) a b
def bH(a b:Tm):Int:=Je (a.az+1) a b
theorem my{f g:Tm->Tm->Int}:∀{xs ys:RV Tm},(∀x∈xs,∀y,f x y=g x y)->fg f xs ys=fg g xs ys
 |[],[],_=>rfl
 |[],_::_,_=>rfl
 |_::_,[],_=>rfl
 | x::xs,y::ys,h=>by
  unfold fg;rw[h x C3 y,my λz d=>h z L5]
theorem qW{f g:RV Tm->RV Tm->Int}{a b:Tm}(h:f a.ac b.ac=g a.ac b.ac):lB f a b=lB g a b:=by unfold lB;rw[h]
theorem aK{x t:Tm}(h:x∈t.ac):x.az<t.az:=by
 have:=kP h;have:=bj t;omega
theorem Bp:∀(k j:Nat)(a b:Tm),a.az<k->a.az<j->Je k a b=Je j a b
 |0,_,_,_,h,_=>absurd h (NP _)
 |_+1,0,_,_,_,h=>absurd h (NP _)
 |k+1,j+1,a,b,h1,h2=>qW (my λx hx y=>Bp k j x y Dg Dg)
theorem gu(a b:Tm):bH a b=lB (fg bH) a b:=qW (my λx hx y=>Bp _ _ x y (aK hx) (NW _))
theorem tE(a:Int):bF a a=0:=N1 rfl
theorem oE(a:Z):cM a a=0:=N1 rfl
theorem tY{f:Tm->Tm->Int}:∀{xs:RV Tm},(∀x∈xs,f x x=0)->fg f xs xs=0
 |[],_=>rfl
 | x::xs,h=>by
  unfold fg;rw[N1 (h x C3)];exact tY λy d=>h y L5
theorem oi:∀(k:Nat)(a:Tm),a.az<k->bH a a=0
 |0,_,h=>absurd h (NP _)
 | k+1,a,h=>by
  rw[gu];unfold lB;rw[N1 (tE _),N1 (oE _),N1 (tE _)];exact tY λx hx=>oi k x Dg
theorem yV(a b:Int):bF b a= -bF a b:=by
 unfold bF;by_cases h:a=b
 .subst h;simp
 .omega
theorem fw{a b:Int}(h:bF a b=0):a=b:=by
 unfold bF at h;by_cases e:a=b
 .exact e
 .omega
theorem ms:∀(a b:RV UInt8),a≠b->Op.bytesLess b a= !Op.bytesLess a b
 |[],[],h=>absurd rfl h
 |[],_::_,_=>rfl
 |_::_,[],_=>rfl
 | x::xs,y::ys,h=>by
  unfold Op.bytesLess;by_cases e:x=y
  .subst e;have h2:xs≠ys:=λe=>h (by rw[e]);simp[ms xs ys h2]
  .grind
theorem jS:∀(a b:RV UInt8),Lib.compareBytes a b=if a=b then 0 else if Op.bytesLess a b then -1 else 1
 |[],[]=>rfl
 |[],_::_=>rfl
 |_::_,[]=>rfl
 | x::xs,y::ys=>by
  unfold Lib.compareBytes Op.bytesLess;rw[jS xs ys];by_cases e:x=y
  .grind
  .grind
theorem iN(a b:Z):Lib.compareBytes a.data.toList b.data.toList=cM a b:=by
 rw[jS,<-Abs.gL,<-Abs.gL];unfold cM Abs.eu;by_cases h:a=b
 .subst h;simp
 .rw[N3 h,N3 (λe=>h (Abs.dR e))]
theorem Hu(a b:Z):cM b a= -cM a b:=by
 unfold cM;by_cases h:a=b
 .subst h;simp
 .rw[N3 h,N3 (λe=>h e.symm)];have:=ms a.toList b.toList λe=>h (Abs.dR e);unfold Abs.eu;rw[this];cases Op.bytesLess a.toList b.toList<;>rfl
theorem JQ(a b:Z): -1<=cM a b/\cM a b<=1:=by
 unfold cM;split
 .decide
 .omega
theorem yy{f:Tm->Tm->Int}:∀{xs ys:RV Tm},(∀x∈xs,∀y,f y x= -f x y)->fg f ys xs= -fg f xs ys
 |[],[],_=>rfl
 |[],_::_,_=>rfl
 |_::_,[],_=>rfl
 | x::xs,y::ys,h=>by
  unfold fg;rw[h x C3 y,yy (xs:=xs) (ys:=ys) λz d=>h z L5];by_cases e:f x y=0
  .omega
  .omega
theorem qM:∀(k:Nat)(a b:Tm),a.az<k->bH b a= -bH a b
 |0,_,_,h=>absurd h (NP _)
 | k+1,a,b,h=>by
  rw[gu,gu a b];unfold lB;rw[yV a.op b.op,Hu a.ae b.ae,yV a.ag b.ag,yy λx hx y=>qM k x y Dg];by_cases h1:bF a.op b.op=0
  .omega
  .omega
theorem z5n:aj (strings_Compare.ent λa b=>some (cM a b)):=okQ λR K r a b hc=>by
 obtain⟨r,q1,q2⟩:=bind_some hc;cases q1;have hb:=JQ a b;refine⟨_,_,q2,nF (u:=.int .i64 (cM a b)) ⟨Tryz.f166,Tryz.func166,F1,F1⟩ (Abs.wf_i64 A1 A1) .i λρ avs hA _ w I ι cs B j=> ?_⟩;obtain⟨hA1,hA2⟩:=hA
 match avs,hA1 with
 | [x, y],_=>
  have d:=hA2 0 C3 C3;have h:=hA2 1 C3 C3;simp only[O5,Pw]at d h;cases d with
  |one d=>
  cases h with
  |one h=>
  have d:=d.str_;subst d;have h:=h.str_;subst h;obtain⟨h1,h2⟩:=j;obtain⟨u,u1,u2⟩:=h2 0 C3;obtain⟨z,v,t⟩:=h2 1 C3;rcases cs with⟨l⟩
  match l,h1 with
  | [p,q],_=>
   simp at u1 v;subst u1;subst v;cases u2 with
   |one u2=>
   cases u2 with
   |lit _=>
   cases t with
   |one t=>
   cases t with
   |lit _=>
   refine(Tryz.strings_Compare a b w).mono λe w' ⟨k1,A⟩=>⟨by rw[k1,iN],by subst A;exact Below.refl _ _⟩
abbrev bM(k:Nat):Tm->Tm->Y Int:=λa b=>if a.az<k then some (bH a b)else none
abbrev yj(k:Nat):RV Tm->RV Tm->Y Int:=λxs ys=>if ap xs<k then some (fg bH xs ys)else none
theorem Ce{f:Tm->Tm->Int}:fg f [] []=0:=rfl
theorem Bm{f:Tm->Tm->Int}{y:Tm}{ys:RV Tm}:fg f [] (y::ys)= -1:=rfl
theorem Bz{f:Tm->Tm->Int}{x:Tm}{xs:RV Tm}:fg f (x::xs) []=1:=rfl
theorem Bw{f:Tm->Tm->Int}{x y:Tm}{xs ys:RV Tm}:fg f (x::xs) (y::ys)=if f x y=0 then fg f xs ys else f x y:=rfl
section
variable {R : Type}
theorem Eo(n k:Nat)(v a3 b1 b3:Int)(w b2:Z)(xs ys:RV Tm)(hx:∀x∈xs,x.az<k)(B:xs.length<4294967296)(j:Int->Y R):∀m i,i<=xs.length->i<=ys.length->xs.length-i<m->
  z3b.l14 ⟨bM k⟩ n m v w a3 xs b1 b2 b3 ys (i:Int) j (bif decide ((xs.length:Int)<(ys.length:Int))then j (-1)else bif decide ((ys.length:Int)<(xs.length:Int))then j 1 else j 0)=j (fg bH (xs.drop i) (ys.drop i)):=by
 intro m
 induction m with
 |zero=>exact RM
 | succ m C=>
  intro i h1 h2 hm;show z3b.b14 ⟨bM k⟩ n v w a3 xs b1 b2 b3 ys (i:Int) (λD=>z3b.l14 ⟨bM k⟩ n m v w a3 xs b1 b2 b3 ys D j _) j _=_;unfold z3b.b14;by_cases h:i<xs.length
  .obtain⟨x,A,E⟩:=bu h;rw[bB h,cT,bg A];by_cases d:i<ys.length
   .obtain⟨y,t,_⟩:=bu d;rw[bB d,cT,aZ A,bS,aZ t,bS,Tm.eta,Tm.eta,bg t,Bw];show Option.bind (bM k x y) _=_;unfold bM;rw[N1 (hx x E),bS];by_cases e:bH x y=0
    .rw[dT e,N5,cF,bN A1,N1 e];exact C (i+1) h d A1
    .grind
   .obtain rfl:i=ys.length:=A1
    rw[bz d,cF,bz A1,cF,bB h,cT,bQ,Bz]
  .obtain rfl:i=xs.length:=A1
   rw[bz h,cF,bQ];by_cases d:xs.length<ys.length
   .obtain⟨y,t,_⟩:=bu d;rw[bB d,cT,bg t,Bm]
   .have e:xs.length=ys.length:=A1
    rw[bz d,cF,bz A1,cF,e,bQ,Ce]
theorem Ez(n k:Nat)(xs ys:RV Tm)(hx:∀x∈xs,x.az<k)(w:xs.length<4294967296)(j:Int->Y R):∀m i,i<=xs.length->i<=ys.length->xs.length-i<m->
  z5a.l2 ⟨bM k⟩ n m xs ys xs (xs.length:Int) (i:Int) j (bif decide ((xs.length:Int)<(ys.length:Int))then j (-1)else j 0)=j (fg bH (xs.drop i) (ys.drop i)):=by
 intro m
 induction m with
 |zero=>exact RM
 | succ m A=>
  intro i h1 h2 hm;show z5a.b2 ⟨bM k⟩ n xs ys xs (xs.length:Int) (i:Int) (λB=>z5a.l2 ⟨bM k⟩ n m xs ys xs (xs.length:Int) B j _) j _=_;unfold z5a.b2;by_cases h:i<xs.length
  .obtain⟨x,v,C⟩:=bu h;rw[bB h,cT,bg v,aZ v,bS];by_cases d:i<ys.length
   .obtain⟨y,t,_⟩:=bu d;rw[dF A1,cF,aZ t,bS,Tm.eta,Tm.eta,bg t,Bw];show Option.bind (bM k x y) _=_;unfold bM;rw[N1 (hx x C),bS];by_cases e:bH x y=0
    .rw[dT e,N5,cF,bN A1,N1 e];exact A (i+1) h d A1
    .grind
   .obtain rfl:i=ys.length:=A1
    rw[dT A1,cT,bQ,Bz]
  .obtain rfl:i=xs.length:=A1
   rw[bz h,cF,bQ];by_cases d:xs.length<ys.length
   .obtain⟨y,t,_⟩:=bu d;rw[bB d,cT,bg t,Bm]
   .have e:xs.length=ys.length:=A1
    rw[bz d,cF,e,bQ,Ce]
end
theorem Ek{R:Type}{a b:Tm}{v:Int}(K:Int->Y R)(z:Y R)(d:z=K v):(bif !decide (a.op=b.op)then (bif decide (a.op<b.op)then K (-1)else K 1)else bif !sEq a.ae b.ae then (bif Abs.eu a.ae b.ae then K (-1)else K 1)else bif !decide (a.ag=b.ag)then (bif decide (a.ag<b.ag)then K (-1)else K 1)else z)=K (lB (λ_ _=>v) a b):=by
 subst d;unfold lB bF cM;by_cases h1:a.op=b.op
 .rw[dT h1,N1 h1,N1 rfl,N5,cF];by_cases h2:a.ae=b.ae
  .rw[show sEq a.ae b.ae=true from dT h2,N1 h2,N1 rfl,N5,cF];by_cases h:a.ag=b.ag
   .grind
   .grind
  .rw[show sEq a.ae b.ae=false from dF h2,N3 h2,NR,cT];cases Abs.eu a.ae b.ae<;>rfl
 .grind
theorem z3c:∀k,k<=4294967296->aj (z3b.ent (bM k))
 |0,_=>okQ (by (repeat intro h);simp[bM]at h)
 | k+1,hk=>z3b.ok (G:=⟨bM k⟩) ⟨z3c k A1,trivial⟩ fun a b r h=>by
  unfold bM at h;split at h
  .rename_i hs;cases h;refine⟨a.ac.length+1,?_⟩;unfold z3b.aq;have ht:=bj a;have hl:=bZ a.ac;have e:=Eo (a.ac.length+1) k a.op a.ag b.op b.ag a.ae b.ae a.ac b.ac (λx hx=>Dg) A1 (λd=>some (AT.one (.i d),([]:RV Ob))) (a.ac.length+1) 0 A1 A1 A1;simp only[NN]at e;refine(Ek (a:=a) (b:=b) (v:=fg bH a.ac b.ac) (λd=>some (AT.one (.i d),([]:RV Ob))) _ e).trans ?_;rw[gu];rfl
  .cases h
theorem CJ{a b:Tm}{v:Int}:(if (if bF a.op b.op≠0 then bF a.op b.op else if cM a.ae b.ae≠0 then cM a.ae b.ae else bF a.ag b.ag)=0 then v else (if bF a.op b.op≠0 then bF a.op b.op else if cM a.ae b.ae≠0 then cM a.ae b.ae else bF a.ag b.ag))=lB (λ_ _=>v) a b:=by
 unfold lB;by_cases h1:bF a.op b.op=0
 .grind
 .simp[h1]
abbrev gOr:RV Int->Y Int:=λl=>match l with
 |[a,b,c]=>some (if a≠0 then a else if b≠0 then b else c)
 |_=>none
theorem Fy:aj (z02.ent gOr):=z02.ok (G:=⟨()⟩) trivial λ(l:RV Int) r h=>by
 unfold gOr at h;split at h
 .rename_i a b c;cases h;refine⟨4,?_⟩;have j:ix [a,b,c] 0=some a:=rfl;have t:ix [a,b,c] 1=some b:=rfl;have v:ix [a,b,c] 2=some c:=rfl;have w:wr (0+1)=1:=D2
  have y:wr (1+1)=2:=D2
  have A:wr (2+1)=3:=D2
  have B:decide ((0:Int)<3)=true:=rfl;have C:decide ((1:Int)<3)=true:=rfl;have d2:decide ((2:Int)<3)=true:=rfl;have D:decide ((3:Int)<3)=false:=rfl;have step:∀{R:Type}(m:Nat)(i:Int)(K:Int->Y R)(k1:Y R),z02.l3 ⟨()⟩ 4 (m+1) 0 [a,b,c] 3 i K k1=z02.b3 ⟨()⟩ 4 0 [a,b,c] 3 i (λE=>z02.l3 ⟨()⟩ 4 m 0 [a,b,c] 3 E K k1) K k1:=λm i K k1=>rfl;unfold z02.aq;show z02.l3 ⟨()⟩ 4 (3+1) 0 [a,b,c] 3 0 _ _=_;rw[step];unfold z02.b3;rw[B,cT,j,bS];by_cases d:a=0
  .rw [decide_eq_true d,N5,cond_false,w,N3 (fun h=>h d)];show z02.l3 ⟨()⟩ 4 (2+1) 0 [a,b,c] 3 1 _ _=_;rw[step];unfold z02.b3;rw[C,cT,t,bS];by_cases hb:b=0
   .rw[dT hb,N5,cF,y,N3 (λh=>h hb)];show z02.l3 ⟨()⟩ 4 (1+1) 0 [a,b,c] 3 2 _ _=_;rw[step];unfold z02.b3;rw[d2,cT,v,bS];by_cases hc:c=0
    .rw[dT hc,N5,cF,A];show z02.l3 ⟨()⟩ 4 (0+1) 0 [a,b,c] 3 3 _ _=_;rw[step];unfold z02.b3;rw[D,cF,hc]
    .grind
   .grind
  .grind
 .cases h
theorem Hh:aj (z05.ent λ_=>some false):=z05.ok (G:=⟨()⟩) trivial λx r h=>⟨1,by
 cases h;unfold z05.aq;rw[dT rfl];rfl⟩
theorem sM:aj (z01.ent λa b=>some (bF a b)):=z01.ok (G:=⟨λ_=>some false⟩) ⟨Hh,trivial⟩ λa b r h=>⟨1,by
 cases h;unfold z01.aq;simp only[bS,cF];unfold bF;by_cases h:a=b
 .subst h;rw[dF A1,cF,cF,N1 rfl]
 .rw[N3 h];by_cases h2:a<b
  .rw[dT h2,cT,N1 h2]
  .rw[dF h2,cF,dT A1,cT,N3 h2]⟩
abbrev Ns(k:Nat):z0a.Gs:={z01:=λa b=>some (bF a b),strings_Compare:=λa b=>some (cM a b),z02:=gOr,z5a:=yj k}
theorem re(k:Nat)(hk:k<4294967296)(e:aj (z0a.ent (bM k))):aj (z5a.ent (yj (k+1))):=z5a.ok (G:=⟨bM k⟩) ⟨e,trivial⟩ λ(xs:RV Tm)(ys:RV Tm) r h=>by
 unfold yj at h;split at h
 .rename_i hs;cases h;have hl:=bZ xs;refine⟨xs.length+1,?_⟩;unfold z5a.aq;have e:=Ez (xs.length+1) k xs ys (λx hx=>by have:=kP hx;omega) A1 (λd=>some (AT.one (.i d),([]:RV Ob))) (xs.length+1) 0 A1 A1 A1;simp only[NN]at e;exact e
 .cases h
theorem z0b:∀k,k<=4294967296->aj (z0a.ent (bM k))
 |0,_=>okQ (by (repeat intro h);simp[bM]at h)
 | k+1,hk=>z0a.ok (G:=Ns (k+1)) ⟨sM,z5n,Fy,re k A1 (z0b k A1),trivial⟩ fun a b r h=>by
  unfold bM at h;split at h
  .rename_i hs;cases h;have ht:=bj a;refine⟨1,?_⟩;unfold z0a.aq;show (bif !decide ((if bF a.op b.op≠0 then bF a.op b.op else if cM a.ae b.ae≠0 then cM a.ae b.ae else bF a.ag b.ag)=0)then some (AT.one (.i (if bF a.op b.op≠0 then bF a.op b.op else if cM a.ae b.ae≠0 then cM a.ae b.ae else bF a.ag b.ag)),([]:RV Ob))else Option.bind (yj (k+1) a.ac b.ac) λd=>some (AT.one (.i d),[]))=_;have e:=CJ (a:=a) (b:=b) (v:=fg bH a.ac b.ac);have j:bH a b=lB (λ_ _=>fg bH a.ac b.ac) a b:=gu a b;rw[j,<-e];generalize (if bF a.op b.op≠0 then bF a.op b.op else if cM a.ae b.ae≠0 then cM a.ae b.ae else bF a.ag b.ag)=z;unfold yj;rw[N1 A1,bS];by_cases t:z=0
   .grind
   .grind
  .cases h
def szK:Nat->Tm->Nat
 |0,_=>0
 |k+1,t=>1+wS (szK k) t.ac
def tsz(t:Tm):Nat:=szK (t.az+1) t
theorem ro{A:Type}{f g:A->Nat}:∀{l:RV A},(∀x∈l,f x=g x)->wS f l=wS g l
 |[],_=>rfl
 |x::l,h=>by rw[fS,fS,h x C3,ro λy d=>h y L5]
theorem HI:∀(k j:Nat)(t:Tm),t.az<k->t.az<j->szK k t=szK j t
 |0,_,_,h,_=>absurd h (NP _)
 |_+1,0,_,_,h=>absurd h (NP _)
 |k+1,j+1,t,h1,h2=>congrArg (1+·) (ro λx hx=>HI k j x Dg Dg)
theorem eZ(t:Tm):tsz t=1+wS tsz t.ac:=congrArg (1+·) (ro λx hx=>HI _ _ x (aK hx) (NW _))
def mxS(f:Tm->Nat)(l:RV Tm):Nat:=l.foldr (λx n=>max (f x) n) 0
def dpK:Nat->Tm->Nat
 |0,_=>0
 |k+1,t=>mxS (dpK k) t.ac+1
def tdp(t:Tm):Nat:=dpK (t.az+1) t
theorem kj{f:Tm->Nat}{x:Tm}{l:RV Tm}:mxS f (x::l)=max (f x) (mxS f l):=rfl
theorem pd{f g:Tm->Nat}:∀{l:RV Tm},(∀x∈l,f x=g x)->mxS f l=mxS g l
 |[],_=>rfl
 |x::l,h=>by rw[kj,kj,h x C3,pd λy d=>h y L5]
theorem Ft:∀(k j:Nat)(t:Tm),t.az<k->t.az<j->dpK k t=dpK j t
 |0,_,_,h,_=>absurd h (NP _)
 |_+1,0,_,_,h=>absurd h (NP _)
 |k+1,j+1,t,h1,h2=>congrArg (·+1) (pd λx hx=>Ft k j x Dg Dg)
theorem Af(t:Tm):tdp t=mxS tdp t.ac+1:=congrArg (·+1) (pd λx hx=>Ft _ _ x (aK hx) (NW _))
theorem zT:∀(k:Nat)(t:Tm),t.az<k->tsz t<=t.az+1
 |0,_,h=>absurd h (NP _)
 | k+1,t,h=>by
  rw[eZ];have ht:=bj t;have:∀l:RV Tm,(∀x∈l,tsz x<=x.az+1)->wS tsz l<=ap l:=λl=>by
   induction l with
   |nil=>intro _;exact N4 _
   | cons x l d=>
    intro hl;rw[fS,dP];have:=hl x C3;have:=d λy j=>hl y (by simp[j]);omega
  have:=this t.ac λx hx=>zT k x Dg;omega
theorem H6{f:Tm->Nat}{n:Nat}:∀{l:RV Tm},(∀x∈l,f x<=n)->mxS f l<=n
 |[],_=>N9 _
 |x::l,h=>by rw[kj];exact Nat.max_le.2 ⟨h x C3,H6 λy d=>h y L5⟩
theorem zB:∀(k:Nat)(t:Tm),t.az<k->tdp t<=t.az+1
 |0,_,h=>absurd h (NP _)
 | k+1,t,h=>by
  rw[Af];have:mxS tdp t.ac<=t.az:=H6 λx hx=>by have:=aK hx;have:=zB k x A1;omega
  omega
abbrev gSz(k:Nat):Tm->Y Int:=λt=>if t.az<k then some (tsz t:Int)else none
abbrev gDp(k:Nat):Tm->Y Int:=λt=>if t.az<k then some (tdp t:Int)else none
abbrev gCp(k:Nat):Tm->Y Tm:=λt=>if t.az<k then some t else none
abbrev wg(k:Nat):RV Tm->Y (RV Tm):=λl=>if ap l<k then some l else none
abbrev gLf(k:Nat):Tm->Int->Y Int:=λt left=>if t.az<k/\0<=left/\left<=60 then some (if (tsz t:Int)<=left then left-tsz t else -1)else none
section
variable {R : Type}
theorem Gm(n k:Nat)(xs:RV Tm)(hx:∀x∈xs,x.az<k)(d:Int->Y R):∀m (i s:Nat),i<=xs.length->s+wS tsz (xs.drop i)<=8589934592->xs.length<4294967296->xs.length-i<m->
  z0n.l3 ⟨gSz k⟩ n m xs (xs.length:Int) (s:Int) (i:Int) d=d ((s+wS tsz (xs.drop i):Nat):Int):=by
 intro m
 induction m with
 |zero=>intro i s _ _ _ hm;omega
 | succ m j=>
  intro i s h1 h2 t hm;show z0n.b3 ⟨gSz k⟩ n xs (xs.length:Int) (s:Int) (i:Int) (λv w=>z0n.l3 ⟨gSz k⟩ n m xs (xs.length:Int) v w d) d=_;unfold z0n.b3;by_cases hi:i<xs.length
  .obtain⟨x,h,y⟩:=bu hi;rw[bg h,fS]at h2 ⊢;rw[bB hi,cT,aZ h,bS,Tm.eta];show Option.bind (gSz k x) _=_;unfold gSz;rw[N1 (hx x y),bS,bN A1,aH (x:=(s:Int)+(tsz x:Int)) A1];refine(j (i+1) (s+tsz x) hi A1 t A1).trans ?_;rw[Oc]
  .obtain rfl:i=xs.length:=A1
   exact RP
theorem Gn(n k:Nat)(xs:RV Tm)(hx:∀x∈xs,x.az<k)(d:Int->Y R):∀m (i s:Nat),i<=xs.length->xs.length<4294967296->xs.length-i<m->
  z0c.l3 ⟨gDp k⟩ n m xs (xs.length:Int) (s:Int) (i:Int) d=d ((max s (mxS tdp (xs.drop i)):Nat):Int):=by
 intro m
 induction m with
 |zero=>intro i s _ _ hm;omega
 | succ m j=>
  intro i s h1 t hm;show z0c.b3 ⟨gDp k⟩ n xs (xs.length:Int) (s:Int) (i:Int) (λv w=>z0c.l3 ⟨gDp k⟩ n m xs (xs.length:Int) v w d) d=_;unfold z0c.b3;by_cases hi:i<xs.length
  .obtain⟨x,h,y⟩:=bu hi;rw[bg h,kj,bB hi,cT,aZ h,bS,Tm.eta];show Option.bind (gDp k x) _=_;unfold gDp;have e:lx (s:Int) (tdp x:Int)=((max s (tdp x):Nat):Int):=by unfold lx;split<;>omega
   rw[N1 (hx x y),bS,bN A1,e];refine(j (i+1) (max s (tdp x)) hi t A1).trans ?_;rw[Nat.max_assoc]
  .obtain rfl:i=xs.length:=A1
   rw[bz hi,cF,bQ,show mxS tdp []=0 from rfl,Nat.max_zero]
theorem Fd(n k:Nat)(h a3:Int)(j:Z)(xs:RV Tm)(hx:∀x∈xs,x.az<k)(d:Int->Y R):∀m (i s:Nat),i<=xs.length->xs.length<4294967296->xs.length-i<m->
  z3d.l3 ⟨gDp k,λa b=>some (lx a b)⟩ n m h j a3 xs (s:Int) (i:Int) d=d ((max s (mxS tdp (xs.drop i)):Nat):Int):=by
 intro m
 induction m with
 |zero=>intro i s _ _ hm;omega
 | succ m v=>
  intro i s h1 w hm;show z3d.b3 ⟨gDp k,λa b=>some (lx a b)⟩ n h j a3 xs (s:Int) (i:Int) (λy A=>z3d.l3 ⟨gDp k,λa b=>some (lx a b)⟩ n m h j a3 xs y A d) d=_;unfold z3d.b3;by_cases hi:i<xs.length
  .obtain⟨x,t,B⟩:=bu hi;rw[bg t,kj,bB hi,cT,aZ t,bS,Tm.eta];show Option.bind (gDp k x) _=_;unfold gDp;have e:lx (s:Int) (tdp x:Int)=((max s (tdp x):Nat):Int):=by unfold lx;split<;>omega
   rw[N1 (hx x B),bS,bS,bN A1,e];refine(v (i+1) (max s (tdp x)) hi w A1).trans ?_;rw[Nat.max_assoc]
  .obtain rfl:i=xs.length:=A1
   rw[bz hi,cF,bQ,show mxS tdp []=0 from rfl,Nat.max_zero]
theorem H7(n k:Nat)(h a3:Int)(j:Z)(xs:RV Tm)(hx:∀x∈xs,x.az<k)(d:Int->Y R):∀m (i:Nat) (L:Int),i<=xs.length->xs.length<4294967296-> -1<=L->L<=60->xs.length-i<m->
  z4q.l3 ⟨gLf k⟩ n m h j a3 xs L (i:Int) d=d (if (wS tsz (xs.drop i):Int)<=L then L-(wS tsz (xs.drop i):Int)else -1):=by
 intro m
 induction m with
 |zero=>intro i L _ _ _ _ hm;omega
 | succ m t=>
  intro i L h1 v l0 l1 hm;show z4q.b3 ⟨gLf k⟩ n h j a3 xs L (i:Int) (λy A=>z4q.l3 ⟨gLf k⟩ n m h j a3 xs y A d) d=_;unfold z4q.b3;by_cases hi:i<xs.length
  .obtain⟨x,w,B⟩:=bu hi;have hs:1<=tsz x:=by rw[eZ];omega
   rw[bg w,fS,bB hi,cT];by_cases hL:0<=L
   .rw[dT hL,cT,aZ w,bS,Tm.eta];show Option.bind (gLf k x L) _=_;unfold gLf;rw[N1 ⟨hx x B,hL,l1⟩,bS,bN A1];by_cases hc:(tsz x:Int)<=L
    .rw[N1 hc];refine(t (i+1) _ hi v A1 A1 A1).trans ?_
     congr 1
     by_cases hd:(wS tsz (xs.drop (i+1)):Int)<=L-(tsz x:Int)
     .omega
     .omega
    .rw[N3 hc];refine(t (i+1) _ hi v A1 A1 A1).trans ?_;rw[N3 A1,N3 A1]
   .rw[dF hL,cF,N3 A1]
    congr 1
    omega
  .obtain rfl:i=xs.length:=A1
   rw[bz hi,cF,bQ,show wS tsz []=0 from rfl]
   congr 1
   split<;>omega
end
theorem z0o:∀k,k<=4294967296->aj (z0n.ent (gSz k))
 |0,_=>okQ (by (repeat intro h);simp[gSz]at h)
 | k+1,hk=>z0n.ok (G:=⟨gSz k⟩) ⟨z0o k A1,trivial⟩ fun t r h=>by
  unfold gSz at h;split at h
  .rename_i hs;cases h;have ht:=bj t;have hl:=bZ t.ac;have d:=zT _ t (NW _);rw[eZ]at d;refine⟨t.ac.length+1,?_⟩;unfold z0n.aq;have e:=Gm (t.ac.length+1) k t.ac (λx hx=>Dg) (λj=>some (AT.one (.i j),([]:RV Ob))) (t.ac.length+1) 0 1 A1 D5 A1 A1;simp only[NN]at e;rw[eZ];exact e
  .cases h
theorem z0d:∀k,k<=4294967296->aj (z0c.ent (gDp k))
 |0,_=>okQ (by (repeat intro h);simp[gDp]at h)
 | k+1,hk=>z0c.ok (G:=⟨gDp k⟩) ⟨z0d k A1,trivial⟩ fun t r h=>by
  unfold gDp at h;split at h
  .rename_i hs;cases h;have ht:=bj t;have hl:=bZ t.ac;have d:=zB _ t (NW _);refine⟨t.ac.length+1,?_⟩;unfold z0c.aq;have e:=Gn (t.ac.length+1) k t.ac (λx hx=>Dg) (λj=>some (AT.one (.i (wr (j+1))),([]:RV Ob))) (t.ac.length+1) 0 0 A1 A1 A1;exact R4
  .cases h
theorem ym:aj (z44.ent λa b=>some (lx a b)):=z44.ok (G:=⟨()⟩) trivial λa b r h=>⟨1,by
 cases h;unfold z44.aq lx;by_cases h:b<a
 .rw[dT h,cT,N3 A1]
 .rw[dF h,cF];by_cases h2:a<b
  .rw[N1 h2]
  .obtain rfl:a=b:=A1
   rw[N3 h2]⟩
theorem z3e:∀k,k<=4294967296->aj (z3d.ent (gDp k))
 |0,_=>okQ (by (repeat intro h);simp[gDp]at h)
 | k+1,hk=>z3d.ok (G:=⟨gDp k,fun a b=>some (lx a b)⟩) ⟨z3e k A1,ym,trivial⟩ fun t r h=>by
  unfold gDp at h;split at h
  .rename_i hs;cases h;have ht:=bj t;have hl:=bZ t.ac;have d:=zB _ t (NW _);refine⟨t.ac.length+1,?_⟩;unfold z3d.aq;have e:=Fd (t.ac.length+1) k t.op t.ag t.ae t.ac (λx hx=>Dg) (λj=>some (AT.one (.i (wr (j+1))),([]:RV Ob))) (t.ac.length+1) 0 0 A1 A1 A1;exact R4
  .cases h
theorem um:∀k,k<=4294967296->aj (z4q.ent (gLf k))
 |0,_=>okQ (by (repeat intro h);simp[gLf]at h)
 | k+1,hk=>z4q.ok (G:=⟨gLf k⟩) ⟨um k A1,trivial⟩ fun t left r h=>by
  unfold gLf at h;split at h
  .rename_i hs;cases h;obtain⟨hs,l0,l1⟩:=hs;have ht:=bj t;have hl:=bZ t.ac;refine⟨t.ac.length+1,?_⟩;unfold z4q.aq;have e:=H7 (t.ac.length+1) k t.op t.ag t.ae t.ac (λx hx=>Dg) (λd=>some (AT.one (.i d),([]:RV Ob))) (t.ac.length+1) 0 (left-1) A1 A1 A1 A1 A1;simp only[NN]at e;rw[aH (x:=left-1) A1];refine e.trans ?_;have j:(if (wS tsz t.ac:Int)<=left-1 then left-1-(wS tsz t.ac:Int)else -1)=(if (tsz t:Int)<=left then left-(tsz t:Int)else -1):=by
    rw[eZ];split<;>split<;>omega
   rw[j]
  .cases h
abbrev gSm(k:Nat):Tm->Y Bool:=λt=>if t.az<k then some (decide (tsz t<=60)&&decide (tdp t<=20))else none
theorem qV(k:Nat)(hk:k<=4294967296):aj (z4v.ent (gSm k)):=z4v.ok (G:=⟨gLf k,gDp k⟩) ⟨um k hk,z3e k hk,trivial⟩ λt r h=>by
 unfold gSm at h;split at h
 .rename_i hs;cases h;refine⟨1,?_⟩;unfold z4v.aq;rw[Tm.eta];show Option.bind (gLf k t 60) _=_;unfold gLf;rw[N1 ⟨hs,D2,D2⟩,bS];by_cases hc:tsz t<=60
  .rw[N1 A1,dT A1,cT];show Option.bind (gDp k t) _=_;unfold gDp;rw[N1 hs,bS,dT hc,N6];rw[show decide ((tdp t:Int)<=20)=decide (tdp t<=20)from decide_eq_decide.2 A1]
  .grind
 .cases h
abbrev eP(k:Nat):Tm->Tm->Y Bool:=λa b=>if a.az<k then some (decide (bH a b=0))else none
theorem lf(k:Nat)(hk:k<=4294967296):aj (z4l.ent (eP k)):=z4l.ok (G:=⟨bM k⟩) ⟨z3c k hk,trivial⟩ λa b r h=>by
 unfold eP at h;split at h
 .rename_i hs;cases h;refine⟨1,?_⟩;unfold z4l.aq;rw[Tm.eta,Tm.eta];show Option.bind (bM k a b) _=_;unfold bM;rw[N1 hs,bS]
 .cases h
section
variable {R : Type}
theorem Iq(n k:Nat)(h a3 b1 b3 c1 c3:Int)(j b2 c2:Z)(h2:RV Tm)(xs:RV Tm)(hx:∀x∈xs,x.az<k)(d:RV Tm->Y R):∀m (i:Nat),i<=xs.length->xs.length<4294967296->xs.length-i<m->
  z4i.l3 ⟨gCp k⟩ n m h j a3 xs b1 b2 b3 h2 c1 c2 c3 (i:Int) (xs.take i) d=d xs:=by
 intro m
 induction m with
 |zero=>exact RM
 | succ m v=>
  intro i h1 w hm;show z4i.b3 ⟨gCp k⟩ n h j a3 xs b1 b2 b3 h2 c1 c2 c3 (i:Int) (xs.take i) (λy A=>z4i.l3 ⟨gCp k⟩ n m h j a3 xs b1 b2 b3 h2 c1 c2 c3 y A d) d=_;unfold z4i.b3;by_cases hi:i<xs.length
  .obtain⟨x,t,B⟩:=bu hi;rw[bB hi,cT,aZ t,bS,Tm.eta];show Option.bind (gCp k x) _=_;unfold gCp;rw[N1 (hx x B),bS,Tm.eta,dw D5,bS,bN A1,<-ij t];exact v (i+1) hi w A1
  .obtain rfl:i=xs.length:=A1
   rw[bz hi,cF,qx]
theorem Dq(n k:Nat)(xs:RV Tm)(hx:∀x∈xs,x.az<k)(d:RV Tm->Y R):∀m (i:Nat),i<=xs.length->xs.length<4294967296->xs.length-i<m->
  z4g.l3 ⟨gCp k⟩ n m xs (i:Int) (xs.take i) d=d xs:=by
 intro m
 induction m with
 |zero=>exact RM
 | succ m j=>
  intro i h1 t hm;show z4g.b3 ⟨gCp k⟩ n xs (i:Int) (xs.take i) (λv w=>z4g.l3 ⟨gCp k⟩ n m xs v w d) d=_;unfold z4g.b3;by_cases hi:i<xs.length
  .obtain⟨x,h,y⟩:=bu hi;rw[bB hi,cT,aZ h,bS,Tm.eta];show Option.bind (gCp k x) _=_;unfold gCp;rw[N1 (hx x y),bS,Tm.eta,dw D5,bS,bN A1,<-ij h];exact j (i+1) hi t A1
  .obtain rfl:i=xs.length:=A1
   rw[bz hi,cF,qx]
end
theorem od:∀k,k<=4294967296->aj (z4i.ent (gCp k))
 |0,_=>okQ (by (repeat intro h);simp[gCp]at h)
 | k+1,hk=>z4i.ok (G:=⟨gCp k⟩) ⟨od k A1,trivial⟩ fun t r h=>by
  unfold gCp at h;split at h
  .rename_i hs;cases h;have ht:=bj t;have hl:=bZ t.ac;refine⟨t.ac.length+1,?_⟩;unfold z4i.aq;exact Iq (t.ac.length+1) k _ _ _ _ _ _ _ _ _ _ t.ac (λx hx=>Dg) _ (t.ac.length+1) 0 A1 A1 A1
  .cases h
theorem pI(k:Nat)(hk:k<=4294967296):aj (z4g.ent (wg k)):=z4g.ok (G:=⟨gCp k⟩) ⟨od k hk,trivial⟩ λ(l:RV Tm) r h=>by
 unfold wg at h;split at h
 .rename_i hs;cases h;have hl:=bZ l;refine⟨l.length+1,?_⟩;unfold z4g.aq;exact Dq (l.length+1) k l (λx hx=>by have:=kP hx;omega) _ (l.length+1) 0 A1 A1 A1
 .cases h
theorem qY{a b c:Int}(h:bF a b<=0)(k:bF b c<=0):bF a c<=0/\(bF a c=0->bF a b=0/\bF b c=0):=by
 unfold bF at*;split at h<;>split at k<;>split<;>(try split at h)<;>(try split at k)<;>(try split)<;>simp_all<;>omega
theorem qU:∀(a b c:RV UInt8),Op.bytesLess a b=true->Op.bytesLess b c=true->Op.bytesLess a c=true
 |[],[],_,h,_=>Hm
 |[],_::_,[],_,k=>by cases k
 |[],_::_,_::_,_,_=>rfl
 |_::_,[],_,h,_=>Hm
 |_::_,_::_,[],_,k=>by cases k
 | x::xs,y::ys,z::zs,h,k=>by
  unfold Op.bytesLess at h k ⊢;simp only[Pd,bA,NO,beq_iff_eq]at h k ⊢;rcases h with h|⟨h1,h2⟩
  .grind
  .rcases k with k|⟨k1,d⟩
   .grind
   .exact .inr ⟨h1.trans k1,qU xs ys zs h2 d⟩
theorem oY{a b:Z}(h:cM a b=0):a=b:=by
 unfold cM at h;split at h
 .assumption
 .omega
theorem Az{a b c:Z}(h:cM a b<=0)(k:cM b c<=0):cM a c<=0/\(cM a c=0->cM a b=0/\cM b c=0):=by
 by_cases d:a=b
 .subst d;exact⟨k,λh=>⟨oE _,h⟩⟩
 by_cases t:b=c
 .subst t;exact⟨h,λh=>⟨h,oE _⟩⟩
 have l1:Abs.eu a b=true:=by
  unfold cM at h;rw[N3 d]at h;cases hl:Abs.eu a b with
  |true=>rfl
  |false=>rw[hl]at h;exact absurd h D2
 have l2:Abs.eu b c=true:=by
  unfold cM at k;rw[N3 t]at k;cases hl:Abs.eu b c with
  |true=>rfl
  |false=>rw[hl]at k;exact absurd k D2
 have l3:Abs.eu a c=true:=qU _ _ _ l1 l2;have j:a≠c:=λe=>by
  subst e;have:=ms a.toList b.toList λe=>d (Abs.dR e);unfold Abs.eu at l1 l2;rw[l1,l2]at this;cases this
 have e:cM a c= -1:=by unfold cM;rw[N3 j,N1 l3]
 exact⟨A1,λh=>A1⟩
theorem tJ{f:Tm->Tm->Int}:∀{xs ys:RV Tm},(∀x∈xs,∀y,f x y=0->x=y)->fg f xs ys=0->xs=ys
 |[],[],_,_=>rfl
 |[],_::_,_,h=>Hm
 |_::_,[],_,h=>Hm
 | x::xs,y::ys,h,k=>by
  unfold fg at k;split at k
  .rename_i e;rw[h x C3 y e,tJ (xs:=xs) (λz d=>h z L5) k]
  .omega
theorem tQ:∀(k:Nat)(a b:Tm),a.az<k->bH a b=0->a=b
 |0,_,_,h,_=>absurd h (NP _)
 | k + 1,a,b,h,e=>by
  rw[gu]at e;unfold lB at e;split at e
  .rename_i h1;split at e
   .rename_i h2;split at e
    .rename_i d;have:=tJ (λx hx y=>tQ k x y Dg) e;obtain⟨o,n,s,l⟩:=a;obtain⟨o',n',s',l'⟩:=b;rw[show o=o' from fw h1,show n=n' from oY h2,show s=s' from fw d,show l=l' from this]
    .omega
   .omega
  .omega
theorem z03{a b:Tm}(h:bH a b=0):a=b:=tQ _ a b (NW _) h
theorem z09(a:Tm):bH a a=0:=oi _ a (NW _)
theorem z08(a b:Tm):bH b a= -bH a b:=qM _ a b (NW _)
theorem sw{f:Tm->Tm->Int}(A:∀x y,f y x= -f x y)(j:∀x y,f x y=0->x=y):∀{xs ys zs:RV Tm},(∀x∈xs,∀y z,f x y<=0->f y z<=0->f x z<=0)->fg f xs ys<=0->fg f ys zs<=0->fg f xs zs<=0
 |[],_,[],_,_,_=>by show (0:Int)<=0;omega
 |[],_,_::_,_,_,_=>by show (-1:Int)<=0;omega
 |_::_,[],_,_,h,_=>by have:(1:Int)<=0:=h;omega
 |_::_,_::_,[],_,_,k=>by have:(1:Int)<=0:=k;omega
 | x :: xs,y::ys,z::zs,ht,h,k=>by
  unfold fg at h k ⊢;have B:=ht x C3 y z;by_cases t:f x y=0
  .rw[N1 t]at h;have:x=y:=j _ _ t;subst this;by_cases d:f x z=0
   .rw[N1 d]at k ⊢;exact sw A j (λw C=>ht w (by simp[C])) h k
   .rw[N3 d]at k ⊢;exact k
  .rw [N3 t]at h;by_cases d:f y z=0
   .have:y=z:=j _ _ d;subst this;rw[N3 t];exact h
   .rw[N3 d]at k;have v:=B h k;rw[N3]
    .exact v
    .intro D;have:x=z:=j _ _ D;subst this;have:=A x y;omega
theorem sq:∀(k:Nat) (a b c:Tm),a.az<k->bH a b<=0->bH b c<=0->bH a c<=0
 |0,_,_,_,h,_,_=>absurd h (NP _)
 | k + 1, a,b,c,h,h1,h2=>by
  rw[gu]at h1 h2 ⊢;unfold lB at h1 h2 ⊢;have hl:=sw (f:=bH) z08 (λx y=>z03) (xs:=a.ac) (ys:=b.ac) (zs:=c.ac) λx hx y z=>sq k x y z Dg;by_cases d:bF a.op b.op=0
  .rw [N1 d]at h1;have:=fw d;rw[this];by_cases A:bF b.op c.op=0
   .rw [N1 A]at h2 ⊢;by_cases j:cM a.ae b.ae=0
    .rw [N1 j]at h1;rw[oY j];by_cases B:cM b.ae c.ae=0
     .rw [N1 B]at h2 ⊢;by_cases t:bF a.ag b.ag=0
      .rw[N1 t]at h1;rw[fw t];by_cases C:bF b.ag c.ag=0
       .omega
       .omega
      .rw[N3 t]at h1;by_cases C:bF b.ag c.ag=0
       .rw[<-fw C,N3 t];exact h1
       .rw[N3 C]at h2;obtain⟨v,w⟩:=qY h1 h2;rw[N3 λe=>t (w e).1];exact v
     .omega
    .rw[N3 j]at h1;by_cases B:cM b.ae c.ae=0
     .rw[<-oY B,N3 j];exact h1
     .rw[N3 B]at h2;obtain⟨v,w⟩:=Az h1 h2;rw[N3 λe=>j (w e).1];exact v
   .omega
  .rw[N3 d]at h1;by_cases A:bF b.op c.op=0
   .rw[<-fw A,N3 d];exact h1
   .rw[N3 A]at h2;obtain⟨v,w⟩:=qY h1 h2;rw[N3 λe=>d (w e).1];exact v
theorem z06{a b c:Tm}(h:bH a b<=0)(k:bH b c<=0):bH a c<=0:=sq _ a b c (NW _) h k
theorem z07{a b c:Tm}(h:bH a b<0)(k:bH b c<=0):bH a c<0:=by
 have:=z06 (Pp h) k;by_cases e:bH a c=0
 .have:=z03 e;subst this;have:=z08 a b;omega
 .omega
abbrev Asc(l:RV Tm):Prop:=l.Pairwise λa b=>bH a b<0
theorem yA:∀{l m:RV Tm},Asc l->Asc m->(∀x,x∈l↔x∈m)->l=m
 |[],[],_,_,_=>rfl
 |[],y::m,_,_,h=>absurd ((h y).2 C3) C3
 |x::l,[],_,_,h=>absurd ((h x).1 C3) C3
 | x :: l,y::m,hl,hm,h=>by
  obtain⟨l1,l2⟩:=List.pairwise_cons.1 hl;obtain⟨m1,j⟩:=List.pairwise_cons.1 hm;have e:x=y:=by
   rcases List.mem_cons.1 ((h x).1 C3)with e|hx
   .exact e
   .rcases List.mem_cons.1 ((h y).2 C3)with e|t
    .exact e.symm
    .have a:=m1 x hx;have b:=l1 y t;have:=z08 x y;omega
  subst e;rw[yA l2 j λz=> ?_];constructor
  .intro d;rcases List.mem_cons.1 ((h z).1 L5)with e|q
   .subst e;have:=l1 z d;rw[z09]at this;omega
   .exact q
  .intro d;rcases List.mem_cons.1 ((h z).2 L5)with e|q
   .subst e;have:=m1 z d;rw[z09]at this;omega
   .exact q
def gp:RV Tm->Tm->RV Tm
 |[],t=>[t]
 |y::ys,t=>if bH y t<0 then y::gp ys t else if bH y t=0 then y::ys else t::y::ys
theorem nU{t x:Tm}:∀{l:RV Tm},x∈gp l t↔x=t\/x∈l
 |[]=>by simp[gp]
 | y::ys=>by
  unfold gp;split
  .rw[Oz,nU,Oz];constructor
   .grind
   .grind
  .split
   .rename_i e;have:=z03 e;subst this;simp
   .simp
theorem yN{t:Tm}:∀{l:RV Tm},Asc l->Asc (gp l t)
 |[],_=>Pu _ _
 | y :: ys,h=>by
  obtain⟨h1,h2⟩:=List.pairwise_cons.1 h;unfold gp;split
  .rename_i hl;refine List.pairwise_cons.2 ⟨λz d=> ?_,yN h2⟩;rcases nU.1 d with rfl|d
   .exact hl
   .exact h1 z d
  .split
   .exact h
   .rename_i hl v;have j:bH t y<0:=by have:=z08 y t;omega
    refine List.pairwise_cons.2 ⟨λz d=> ?_,h⟩;rcases List.mem_cons.1 d with rfl|d
    .exact j
    .exact z07 j (Pp (h1 z d))
theorem sf{t:Tm}:∀(l:RV Tm),(gp l t).length<=l.length+1
 |[]=>N4 _
 | y::ys=>by
  unfold gp;have:=sf (t:=t) ys;split
  .grind
  .grind
theorem rU:∀(xs l:RV Tm),Asc l->Asc (xs.foldl gp l)/\∀x,x∈xs.foldl gp l↔x∈l\/x∈xs
 |[],l,h=>⟨h,λx=>C3⟩
 | y::ys,l,h=>by
  obtain⟨d,j⟩:=rU ys (gp l y) (yN h);refine⟨d,λx=> ?_⟩;rw[OA,j,nU,Oz];constructor
  .grind
  .grind
def nH(xs:RV Tm):RV Tm:=xs.foldl gp []
theorem Ip(xs:RV Tm):Asc (nH xs):=(rU xs [] .nil).1
theorem wq{xs:RV Tm}{x:Tm}:x∈nH xs↔x∈xs:=by have:=(rU xs [] .nil).2 x;simpa [nH]using this
theorem FB(xs:RV Tm):(nH xs).length<=xs.length:=by
 have:∀(ys l:RV Tm),(ys.foldl gp l).length<=l.length+ys.length:=λys=>by
  induction ys with
  |nil=>intro l;exact N4 _
  | cons y ys d=>
   intro l;have:=d (gp l y);have:=sf (t:=y) l;rw[OA,NU];omega
 have:=this xs [];simpa [nH]using this
def gr:RV Tm->RV Tm
 |[]=>[]
 |[x]=>[x]
 |x::y::r=>if bH y x=0 then gr (x::r)else x::gr (y::r)
theorem le:∀(n:Nat)(l:RV Tm),l.length<=n->l.Pairwise (λa b=>bH a b<=0)->Asc (gr l)/\∀x,x∈gr l↔x∈l
 |_,[],_,_=>by unfold gr;exact⟨.nil,λx=>Iff.rfl⟩
 |_,[x],_,_=>by unfold gr;exact⟨Pu _ _,λx=>Iff.rfl⟩
 |0,_::_::_,h,_=>H0
 | n+1,x::y::r,A,h=>by
  obtain⟨h1,h2⟩:=List.pairwise_cons.1 h;obtain⟨B,h4⟩:=List.pairwise_cons.1 h2;have d:r.length+1<=n:=by simp only[NU]at A;omega
  unfold gr;split
  .rename_i e;have:=z03 e;subst this;obtain⟨v,t⟩:=le n (y::r) d h2;exact⟨v,λz=>by rw[t];simp⟩
  .rename_i e;obtain⟨v,t⟩:=le n (y::r) d h2;have j:bH x y<0:=by
    have:=h1 y C3;have:=z08 x y;omega
   refine⟨List.pairwise_cons.2 ⟨λz w=> ?_,v⟩,λz=>by rw[Oz,t,Oz (b:=x)]⟩;rcases List.mem_cons.1 ((t z).1 w)with rfl|w
   .exact j
   .exact z07 j (B z w)
theorem zn{l m:RV Tm}(h:l.Pairwise λa b=>bH a b<=0)(hm:∀x,x∈l↔x∈m):gr l=nH m:=
 yA (le _ l (N4 _) h).1 (Ip m) λx=>by rw[(le _ l (N4 _) h).2,wq,hm]
def vT(t:Tm):Tm:=Tm.mk (-1) t.ae t.ag []
def ocK:Nat->Tm->RV Tm
 |0,_=>[]
 |k+1,t=>if t.op= -1 then [vT t]else t.ac.flatMap (ocK k)
def oc(t:Tm):RV Tm:=ocK (t.az+1) t
theorem ie{A B:Type}{f g:A->RV B}:∀{l:RV A},(∀x∈l,f x=g x)->l.flatMap f=l.flatMap g
 |[],_=>rfl
 |x::l,h=>by rw[Oi,Oi,h x C3,ie λy d=>h y L5]
theorem Fi:∀(k j:Nat)(t:Tm),t.az<k->t.az<j->ocK k t=ocK j t
 |0,_,_,h,_=>absurd h (NP _)
 |_+1,0,_,_,h=>absurd h (NP _)
 | k+1,j+1,t,h1,h2=>by
  unfold ocK;rw[ie λx hx=>Fi k j x Dg Dg]
theorem AX(t:Tm):oc t=if t.op= -1 then [vT t]else t.ac.flatMap oc:=by
 show (if t.op= -1 then [vT t]else t.ac.flatMap (ocK t.az))=_;rw[ie λx hx=>Fi _ (x.az+1) x (aK hx) (NW _)];rfl
theorem FT:∀(k:Nat)(t:Tm),t.az<k->(oc t).length<=tsz t
 |0,_,h=>absurd h (NP _)
 | k + 1,t,h=>by
  rw[AX,eZ];split
  .grind
  .have:∀l:RV Tm,(∀x∈l,(oc x).length<=tsz x)->(l.flatMap oc).length<=wS tsz l:=λl=>by
    induction l with
    |nil=>intro _;exact N9 _
    | cons x l d=>
     intro hl;rw[Oi,N8,fS];have:=hl x C3;have:=d λy j=>hl y (by simp[j]);omega
   have:=this t.ac λx hx=>FT k x Dg;omega
theorem EQ:∀(k:Nat)(t:Tm),t.az<k->∀x∈oc t,x.op= -1/\x.ac=[]/\x.az<=t.az
 |0,_,h=>absurd h (NP _)
 | k+1,t,h=>by
  rw[AX];split
  .intro x hx;rw[List.mem_singleton.1 hx];refine⟨rfl,rfl,?_⟩;rw[bj (vT t),bj t];exact Nat.add_le_add_left (N9 _) _
  .intro x hx;obtain⟨y,d,j⟩:=List.mem_flatMap.1 hx;have:=aK d;obtain⟨a,b,c⟩:=EQ k y A1 x j;exact⟨a,b,A1⟩
def cj(t:Tm):RV Tm:=nH (oc t)
end Go.Proofs.YtigoabbppmdfpaaGreat.Den
namespace Go.Proofs.YtigoabbppmdfpaaGreat
open Go.RowKit
def Lay(w w':World):Prop:=∃(q:Nat)(os:Array Obj),w'=Go.Sort.grow (w.drewN q) os
theorem Lay.refl(w:World):Lay w w:=⟨0,#[],by rw[Go.Sort.grow_empty];rfl⟩
theorem Lay.alloc{w w':World}(h:Lay w w')(o:Obj):Lay w (w'.alloc o):=by
 obtain⟨q,os,rfl⟩:=h;exact⟨q,os++ #[o],by rw[Go.Sort.alloc_eq_grow,Go.Sort.grow_grow]⟩
theorem Lay.drew{w w':World}(h:Lay w w'):Lay w w'.drew:=by
 obtain⟨q,os,rfl⟩:=h;exact⟨q+1,os,rfl⟩
theorem Lay.trans{a b c:World}(h:Lay a b)(k:Lay b c):Lay a c:=by
 obtain⟨q,os,rfl⟩:=h;obtain⟨r,us,rfl⟩:=k;refine⟨q+r,os++us,?_⟩;show Go.Sort.grow (Go.Sort.grow ((a.drewN q).drewN r) os) us=_;rw[Go.Sort.grow_grow]
 congr 1
 simp[World.drewN,Oc]
set_option maxHeartbeats 1000000 in
theorem Fh(a b:Int)(w:World):Calls Tryz.prog 165 #[.int .i64 a,.int .i64 b] w λe w'=>e= .returned (.int .i64 (Den.bF a b))/\w'=w:=by
 go_enter Tryz.func165,Tryz.ntmps165
 go_wp2_with (go_in)
 all_goals go_ret
 all_goals refine⟨?_,rfl⟩
 .rw[show Den.bF a b= -1 by unfold Den.bF;rw[N3 A1,N1 A1]];rfl
 .rw[show Den.bF a b=1 by unfold Den.bF;rw[N3 A1,N3 A1]];rfl
 .rw[show Den.bF a b=0 by unfold Den.bF;rw[N1 A1]];rfl
def or3(a b c:Int):Int:=if a=0 then (if b=0 then c else b)else a
set_option maxHeartbeats 1000000 in
theorem IO(a b c:Int)(B cap:Nat)(w:World)(h0:w.cell? ⟨B,0,none⟩=some (.int .i64 a))(h1:w.cell? ⟨B,1,none⟩=some (.int .i64 b))(h2:w.cell? ⟨B,2,none⟩=some (.int .i64 c)):
  Calls Tryz.prog 164 #[.slice (some ⟨B,0,none⟩) 3 cap] w λe w'=>e= .returned (.int .i64 (or3 a b c))/\w'=w:=by
 have hc:∀k,k<3->w.cell? ⟨B,0+k,none⟩=some (.int .i64 ([a,b,c].getD k 0)):=λk hk=>by
  match k,hk with
  |0,_=>exact h0
  |1,_=>exact h1
  |2,_=>exact h2
 have hl:∀n:Nat,n<3->0+n*1=0+n:=λn _=>A1
 go_enter Tryz.func164,Tryz.ntmps164
 go_wp2
 go_loop [8] (λi=>∃k:Nat,k<=3/\i= .int .i64 k/\∀j,j<k->[a,b,c].getD j 0=0) (λi=>3-(intOf i).toNat)
 case atStart=>exact⟨0,A1,rfl,λj t=>A1⟩
 case round=>
  obtain⟨k,hk,rfl,d⟩:=hrel;by_cases hlt:k<3
  .have c1:=hc k hlt;rw[Ou]at c1;have y:k=0\/k=1\/k=2:=A1
   generalize F:[a,b,c].getD k 0=v at c1
   go_wp2
   .go_ret
    have A:v≠0:=by simpa using ‹(v !=0)=true›
    have e:or3 a b c=v:=by
     unfold or3;rcases y with rfl|rfl|rfl
     .grind
     .grind
     .grind
    rw[e];exact RT
   .go_round
    case rel=>
     refine⟨k+1,A1,by go_num,λj t=> ?_⟩;by_cases C:j=k
     .grind
     .grind
    case measure=>simp[intOf];omega
  .have h:k=3:=A1
   subst h;have z0:a=0:=d 0 A1;have D:b=0:=d 1 A1;have E:c=0:=d 2 A1;clear d;subst z0 D E
   go_wp2
   go_ret
   exact RT
set_option maxHeartbeats 1000000 in
theorem Fv(A B:Y Addr)(c d:Nat)(g:Value)(w:World):Calls Tryz.prog 167 #[.slice A 0 c,.slice B 0 d,g] w λe w'=>e= .returned (.int .i64 0)/\w'=w:=by
 go_enter Tryz.func167,Tryz.ntmps167
 go_wp2
 go_loop [13] (λi=>i= .int .i64 0) (λ_=>0)
 case atStart=>rfl
 case round=>
  subst hrel
  go_wp2
  go_ret
  exact RT
set_option maxHeartbeats 4000000 in
theorem KD(h s1 j s2:Int)(t v:Z)(A B:Y Addr)(c d:Nat)(w:World):Calls Tryz.prog 150 #[.agg #[.int .i64 h,.string t,.int .i64 s1,.slice A 0 c],.agg #[.int .i64 j,.string v,.int .i64 s2,.slice B 0 d]] w λe w'=>e= .returned (.int .i64 (Den.bH ⟨h,t,s1,[]⟩ ⟨j,v,s2,[]⟩))/\Lay w w':=by
 have ht:Den.bH ⟨h,t,s1,[]⟩ ⟨j,v,s2,[]⟩=or3 (Den.bF h j) (Den.cM t v) (Den.bF s1 s2):=by
  rw[Den.gu];unfold Den.lB or3;show (if Den.bF h j=0 then (if Den.cM t v=0 then (if Den.bF s1 s2=0 then (0:Int)else Den.bF s1 s2)else Den.cM t v)else Den.bF h j)=_;by_cases h1:Den.bF h j=0
  .omega
  .omega
 rw[ht,<-Den.iN];clear ht;have F:=Blk.new w 32 #[.int .i64 h,.string t,.int .i64 s1,.slice A 0 c];have y:=Blk.new ((w.alloc (.cells #[.int .i64 h,.string t,.int .i64 s1,.slice A 0 c] 32)).alloc (.cells #[.int .i64 j,.string v,.int .i64 s2,.slice B 0 d] 32)) 3 #[.int .i64 (Den.bF h j),.int .i64 (Lib.compareBytes t.data.toList v.data.toList),.int .i64 (Den.bF s1 s2)];have G:=IO (Den.bF h j) (Lib.compareBytes t.data.toList v.data.toList) (Den.bF s1 s2) (w.heap.size+1+1) 3 (((w.alloc (.cells #[.int .i64 h,.string t,.int .i64 s1,.slice A 0 c] 32)).alloc (.cells #[.int .i64 j,.string v,.int .i64 s2,.slice B 0 d] 32)).alloc (.cells #[.int .i64 (Den.bF h j),.int .i64 (Lib.compareBytes t.data.toList v.data.toList),.int .i64 (Den.bF s1 s2)] 3)).drew (by simpa using y.c3.1) (by simpa using y.c3.2.1) (by simpa using y.c3.2.2);clear y
 go_enter Tryz.func150,Tryz.ntmps150
 have D:=(F.alloc (.cells #[.int .i64 j,.string v,.int .i64 s2,.slice B 0 d] 32));have E:=Blk.new (w.alloc (.cells #[.int .i64 h,.string t,.int .i64 s1,.slice A 0 c] 32)) 32 #[.int .i64 j,.string v,.int .i64 s2,.slice B 0 d];obtain⟨I,J,K,L⟩:=D.c4;obtain⟨q0,q1,q2,q3⟩:=E.c4
 go_wp2_with fail
 go_region_held3 (λw'=>w'.cell? ⟨w.heap.size,0,none⟩=some (.int .i64 h)/\w'.cell? ⟨w.heap.size,1,none⟩=some (.string t)/\w'.cell? ⟨w.heap.size,2,none⟩=some (.int .i64 s1)/\w'.cell? ⟨w.heap.size+1,0,none⟩=some (.int .i64 j)/\w'.cell? ⟨w.heap.size+1,1,none⟩=some (.string v)/\w'.cell? ⟨w.heap.size+1,2,none⟩=some (.int .i64 s2)) (go_keep) (first|(go_at_call 165;refine(Fh _ _ _).mono ?_;rintro e w' ⟨rfl,rfl⟩)|(go_at_call 166;refine(Tryz.strings_Compare _ _ _).mono ?_;rintro e w' ⟨rfl,rfl⟩)|(go_at_call 164;refine G.mono ?_;rintro e w' ⟨rfl,rfl⟩))
 have hp:=(D.alloc (.cells #[.int .i64 (Den.bF h j),.int .i64 (Lib.compareBytes t.data.toList v.data.toList),.int .i64 (Den.bF s1 s2)] 3)).c4.2.2.2;have N:=(E.alloc (.cells #[.int .i64 (Den.bF h j),.int .i64 (Lib.compareBytes t.data.toList v.data.toList),.int .i64 (Den.bF s1 s2)] 3)).c4.2.2.2;clear F D E I J K L q0 q1 q2 q3;have C:Lay w ((((w.alloc (.cells #[.int .i64 h,.string t,.int .i64 s1,.slice A 0 c] 32)).alloc (.cells #[.int .i64 j,.string v,.int .i64 s2,.slice B 0 d] 32)).alloc (.cells #[.int .i64 (Den.bF h j),.int .i64 (Lib.compareBytes t.data.toList v.data.toList),.int .i64 (Den.bF s1 s2)] 3)).drew):=((((Lay.refl w).alloc _).alloc _).alloc _).drew;by_cases H:or3 (Den.bF h j) (Lib.compareBytes t.data.toList v.data.toList) (Den.bF s1 s2)=0
 .rw[H]
  go_wp2_with (go_at_call 167;refine(Fv _ _ _ _ _ _).mono ?_;rintro e w' ⟨rfl,rfl⟩)
  go_ret
  exact⟨by rw[H];rfl,C⟩
 .have M:(or3 (Den.bF h j) (Lib.compareBytes t.data.toList v.data.toList) (Den.bF s1 s2) !=0)=true:=by simpa using H
  go_wp2_with fail
  go_ret
  exact⟨rfl,C⟩
structure Lf where
 op:Int
 ae:Z
 ag:Int
 A:Y Addr
 c:Nat
instance : Inhabited Lf := ⟨⟨0, ByteArray.empty, 0, none, 0⟩⟩
def Lf.enc(x:Lf):RV Value:=[.int .i64 x.op,.string x.ae,.int .i64 x.ag,.slice x.A 0 x.c]
def Lf.tm(x:Lf):Tm:=⟨x.op,x.ae,x.ag,[]⟩
abbrev Lf.v(x:Lf):Value:=.agg #[.int .i64 x.op,.string x.ae,.int .i64 x.ag,.slice x.A 0 x.c]
theorem Ck(x y:Lf)(w:World):Calls Tryz.prog 150 #[x.v,y.v] w λe w'=>e= .returned (.int .i64 (Den.bH x.tm y.tm))/\Lay w w':=KD _ _ _ _ _ _ _ _ _ _ w
def Lf.same(x y:Lf):Bool:=decide (Den.bH x.tm y.tm=0)
set_option maxHeartbeats 1000000 in
theorem yI(x y:Lf)(w:World):Calls Tryz.prog 115 #[x.v,y.v] w λe w'=>e= .returned (.bool (x.same y))/\Lay w w':=by
 have j:=Blk.new w 32 #[.int .i64 x.op,.string x.ae,.int .i64 x.ag,.slice x.A 0 x.c];have d:=j.alloc (.cells #[.int .i64 y.op,.string y.ae,.int .i64 y.ag,.slice y.A 0 y.c] 32);have h:=Blk.new (w.alloc (.cells #[.int .i64 x.op,.string x.ae,.int .i64 x.ag,.slice x.A 0 x.c] 32)) 32 #[.int .i64 y.op,.string y.ae,.int .i64 y.ag,.slice y.A 0 y.c];obtain⟨v,A,B,C⟩:=d.c4;obtain⟨q0,q1,q2,q3⟩:=h.c4;have hc:=Ck x y ((w.alloc (.cells #[.int .i64 x.op,.string x.ae,.int .i64 x.ag,.slice x.A 0 x.c] 32)).alloc (.cells #[.int .i64 y.op,.string y.ae,.int .i64 y.ag,.slice y.A 0 y.c] 32));have hl:Lay w ((w.alloc (.cells #[.int .i64 x.op,.string x.ae,.int .i64 x.ag,.slice x.A 0 x.c] 32)).alloc (.cells #[.int .i64 y.op,.string y.ae,.int .i64 y.ag,.slice y.A 0 y.c] 32)):=((Lay.refl w).alloc _).alloc _
 go_enter Tryz.func115,Tryz.ntmps115
 go_wp2_with (go_at_call 150;refine hc.mono ?_;rintro e w' ⟨rfl,t⟩)
 go_ret
 exact⟨rfl,hl.trans t⟩
def cmL(p:Lf):RV Lf->RV Lf
 |[]=>[]
 |y::ys=>if y.same p=true then cmL y ys else y::cmL y ys
def gf:RV Lf->RV Lf
 |[]=>[]
 |x::xs=>x::cmL x xs
theorem wO:∀(xs:RV Lf)(p y:Lf),cmL p (xs++[y])=if y.same ((p::xs).getLast?.getD p)=true then cmL p xs else cmL p xs++[y]
 | [],p,y=>by
  show (if y.same p=true then []else [y])=_;show _=if y.same p=true then []else [y];rfl
 | x::xs,p,y=>by
  have e:((p::x::xs).getLast?.getD p)=((x::xs).getLast?.getD x):=by simp[List.getLast?_cons]
  show (if x.same p=true then cmL x (xs++[y])else x::cmL x (xs++[y]))=if y.same ((p::x::xs).getLast?.getD p)=true then (if x.same p=true then cmL x xs else x::cmL x xs)else (if x.same p=true then cmL x xs else x::cmL x xs)++[y];rw[wO xs x y,e];split<;>split<;>rfl
theorem oU{d:RV Lf}{r:Nat}{x y:Lf}(h0:d[r]? =some y)(h1:d[r+1]? =some x):gf (d.take (r+2))=if x.same y=true then gf (d.take (r+1))else gf (d.take (r+1))++[x]:=by
 rw[Den.ij h1];cases d with
 |nil=>simp at h0
 | cons z zs=>
  show z::cmL z (zs.take r++[x])=if x.same y=true then z::cmL z (zs.take r)else z::cmL z (zs.take r)++[x];rw[wO];have e:((z::zs.take r).getLast?.getD z)=y:=Hd
  rw[e];split<;>rfl
theorem I6:∀(xs:RV Lf)(p:Lf),(cmL p xs).length<=xs.length
 |[],_=>N4 _
 | y::ys,p=>by
  unfold cmL;have:=I6 ys y;split<;>simp only[NU]<;>omega
theorem BH:∀(xs:RV Lf)(p:Lf),p.tm::(cmL p xs).map Lf.tm=Den.gr (p.tm::xs.map Lf.tm)
 |[],p=>by show [p.tm]=Den.gr [p.tm];unfold Den.gr;rfl
 | y::ys,p=>by
  have d:=BH ys y;show p.tm::(if y.same p=true then cmL y ys else y::cmL y ys).map Lf.tm=Den.gr (p.tm::y.tm::ys.map Lf.tm)
  conv=>rhs;unfold Den.gr
  unfold Lf.same;by_cases h:Den.bH y.tm p.tm=0
  .have e:=Den.z03 h;rw[dT h,N1 rfl,N1 h,<-e];exact d
  .grind
theorem Ir(d:RV Lf):(gf d).map Lf.tm=Den.gr (d.map Lf.tm):=by
 cases d with
 |nil=>show []=Den.gr [];unfold Den.gr;rfl
 |cons x xs=>exact BH xs x
theorem sZ{P:Program}(w:World)(t e ty:TypeId)(z:Value)(ht:P.underlying t=some (.slice e))(y:∀w,(zeroValue e).run P w= .ok z w)(A:∀v∈z.cells.toList,v.oneCell'=true)(b o n c:Nat)(D:0<n)
  (hc:∀j,j<n*z.cells.size->(w.cell? ⟨b,o+j,none⟩).isSome=true) (B:∀j,j<n*z.cells.size->w.frozen? ⟨b,o+j,none⟩=false):
  (Builtin.clear_ #[t] ty #[.slice (some ⟨b,o,none⟩) n c]).run P w= .ok (.tuple #[]) (w.setCells b o (Builtin.zeroCells z.cells n).toList):=by
 have bJ:(Builtin.zeroCells z.cells n).toList.length=n*z.cells.size:=by simp[Builtin.zeroCells]
 have d:=run_storeCells_cells (P:=P) b o (Builtin.zeroCells z.cells n).toList 0 w (by rw[bJ];simpa using hc) (by rw[bJ];simpa using B) (by
  intro v h;simp only[Builtin.zeroCells,Array.toList_map,List.mem_map]at h;obtain⟨i,hi,rfl⟩:=h;have C:i<n*z.cells.size:=Q9
  have hp:0<z.cells.size:=Hd
  have hm:=PP i hp;rw[getElem!_pos z.cells _ hm];exact A _ C3)
 simp only[OD]at d;obtain⟨m,rfl⟩:∃m,n=m+1:=⟨n-1,A1⟩;simp[Builtin.clear_,run_underlying ht,y,d]
structure Chg(blk:Nat)(w w':World):Prop where
 os:w'.os=w.os
 tape:w'.tape=w.tape
 output:w'.output=w.output
 size:w.heap.size<=w'.heap.size
 block:∀b,b<w.heap.size->b≠blk->w'.heap[b]?=w.heap[b]?
theorem Chg.refl(blk:Nat)(w:World):Chg blk w w:=⟨rfl,rfl,rfl,N4 _,λ_ _ _=>rfl⟩
theorem Chg.trans{blk:Nat}{a b c:World}(h:Chg blk a b)(k:Chg blk b c):Chg blk a c:=
 ⟨k.os.trans h.os,k.tape.trans h.tape,k.output.trans h.output,NS h.size k.size,λi hi d=>(k.block i (NV hi h.size) d).trans (h.block i hi d)⟩
theorem Lay.heap{w w':World}(h:Lay w w'):w.heap.size<=w'.heap.size/\∀b,b<w.heap.size->w'.heap[b]? =w.heap[b]? :=by
 obtain⟨q,os,rfl⟩:=h;refine⟨by show w.heap.size<=(w.heap++os).size;simp,λb hb=> ?_⟩;show (w.heap++os)[b]? =_;exact OC hb
theorem Lay.chg{blk:Nat}{w w':World}(h:Lay w w'):Chg blk w w':=by
 obtain⟨h1,h2⟩:=h.heap;obtain⟨q,os,rfl⟩:=h;exact⟨rfl,rfl,rfl,h1,λb hb _=>h2 b hb⟩
theorem yZ(b:Nat):∀(vs:RV Value)(o:Nat)(w:World),(w.setCells b o vs).os=w.os/\(w.setCells b o vs).tape=w.tape/\(w.setCells b o vs).output=w.output/\(w.setCells b o vs).heap.size=w.heap.size/\∀i,i≠b->(w.setCells b o vs).heap[i]? =w.heap[i]?
 |[],_,_=>⟨rfl,rfl,rfl,rfl,λ_ _=>rfl⟩
 | v::r,o,w=>by
  obtain⟨h1,h2,d,h4,h⟩:=yZ b r (o+1) (w.setCell ⟨b,o,none⟩ v);exact⟨h1,h2,d,h4.trans (by simp[World.setCell]),λi hi=>(h i hi).trans (Below.heap_setCell w ⟨b,o,none⟩ v i (λe=>hi Qu))⟩
theorem vE(b:Nat):∀(vs:RV Value)(o:Nat)(w:World)(cur:Array Value)(t:TypeId)(fr:Nat×Nat),w.heap[b]? =some (.cells cur t fr)->∃d,(w.setCells b o vs).heap[b]? =some (.cells d t fr)/\d.size=cur.size
 |[],_,_,cur,_,_,h=>⟨cur,h,rfl⟩
 | v::r,o,w,cur,t,fr,h=>by
  have h1:(w.setCell ⟨b,o,none⟩ v).heap[b]? =some (.cells (cur.setIfInBounds o v) t fr):=by simp[World.setCell,Pe,h]
  obtain⟨d,h2,j⟩:=vE b r (o+1) _ _ _ _ h1;exact⟨d,h2,by rw[j];simp⟩
theorem Ch(b o:Nat)(vs:RV Value)(w:World):Chg b w (w.setCells b o vs):=by
 obtain⟨h1,h2,h,h4,j⟩:=yZ b vs o w;exact⟨h1,h2,h,A1,λi _ d=>j i d⟩
theorem nk{w:World}{b:Nat}{cur:Array Value}{t:TypeId}{fr:Nat×Nat}(h:w.heap[b]? =some (.cells cur t fr))(j:Nat):w.cell? ⟨b,j,none⟩=cur[j]? :=by simp[World.cell?,h]
theorem jF{w:World}{g:Nat}{o:Obj}(h:w.heap[g]? =some o):g<w.heap.size:=Hd
def At4(w:World)(b o:Nat)(x:Lf):Prop:=w.cell? ⟨b,o,none⟩=some (.int .i64 x.op)/\w.cell? ⟨b,o+1,none⟩=some (.string x.ae)/\w.cell? ⟨b,o+2,none⟩=some (.int .i64 x.ag)/\w.cell? ⟨b,o+3,none⟩=some (.slice x.A 0 x.c)
theorem At4.same{w w':World}{b o:Nat}{x:Lf}(h:At4 w b o x)(hk:∀j,o<=j->j<o+4->w'.cell? ⟨b,j,none⟩=w.cell? ⟨b,j,none⟩):At4 w' b o x:=
 ⟨(hk _ A1 A1).trans h.1,(hk _ A1 A1).trans h.2.1,(hk _ A1 A1).trans h.2.2.1,(hk _ A1 A1).trans h.2.2.2⟩
theorem Lay.cell{w w':World}(h:Lay w w'){b:Nat}(hb:b<w.heap.size)(j:Nat):w'.cell? ⟨b,j,none⟩=w.cell? ⟨b,j,none⟩:=by simp only[World.cell?];rw[h.heap.2 b hb]
structure Rw(w:World)(blk:Nat)(t:TypeId)(n off:Nat)(d:List Lf):Prop where
 heap:∃cur,w.heap[blk]?=some (.cells cur t (0,0))/\cur.size=n
 fit:off+d.length*4<=n
 at_:∀k x,d[k]? =some x->At4 w blk (off+k*4) x
section
variable {w w' : World} {blk n off : Nat} {t : TypeId} {d : RV Lf}
theorem Rw.lt(h:Rw w blk t n off d):blk<w.heap.size:=by obtain⟨cur,h1,_⟩:=h.heap;exact jF h1
theorem Rw.lay(h:Rw w blk t n off d)(k:Lay w w'):Rw w' blk t n off d:=by
 have hlt:=h.lt;obtain⟨cur,h1,h2⟩:=h.heap;exact⟨⟨cur,(k.heap.2 blk hlt).trans h1,h2⟩,h.fit,λi x hx=>(h.at_ i x hx).same λj _ _=>k.cell hlt j⟩
theorem Rw.some(h:Rw w blk t n off d){j:Nat}(v:j<n):(w.cell? ⟨blk,j,none⟩).isSome=true/\w.frozen? ⟨blk,j,none⟩=false:=by
 obtain⟨cur,h1,h2⟩:=h.heap;refine⟨?_,by simp[World.frozen?,h1]⟩;rw[nk h1,gA A1];rfl
theorem Rw.take(h:Rw w blk t n off d)(k:Nat):Rw w blk t n off (d.take k):=by
 refine⟨h.heap,?_,λi x hx=>h.at_ i x ?_⟩
 .have:=h.fit;rw[O0];omega
 .grind
theorem Rw.out(h:Rw w blk t n off d){o:Nat}{vs:RV Value}(ho:off+d.length*4<=o):Rw (w.setCells blk o vs) blk t n off d:=by
 obtain⟨cur,h1,h2⟩:=h.heap;obtain⟨v,y,h4⟩:=vE blk vs o w cur t (0,0) h1;refine⟨⟨v,y,h4.trans h2⟩,h.fit,λi x hx=>(h.at_ i x hx).same λj A B=> ?_⟩;have:=(gI.1 hx).1;exact World.cell?_setCells_out blk vs o w _ (λ_ _=>.inl (by show j<o;omega))
theorem Rw.set(h:Rw w blk t n off d){k:Nat}(hk:k<d.length)(x:Lf):Rw (w.setCells blk (off+k*4) x.enc) blk t n off (d.set k x):=by
 obtain⟨cur,h1,h2⟩:=h.heap;have E:=h.fit;obtain⟨A,C,h4⟩:=vE blk x.enc (off+k*4) w cur t (0,0) h1;refine⟨⟨A,C,h4.trans h2⟩,by simpa using h.fit,λi y B=> ?_⟩;by_cases e:k=i
 .subst e;rw[sS hk]at B;cases B;have v:=World.cell?_setCells_in blk x.enc (off+k*4) w (λj D=>(h.some (by have:j<4:=D;omega)).1);exact⟨v 0 (A1:0<4),v 1 (A1:1<4),v 2 (A1:2<4),v 3 (A1:3<4)⟩
 .rw[sN e]at B;refine(h.at_ i y B).same λj F G=> ?_;refine World.cell?_setCells_out blk x.enc (off+k*4) w _ (λ_ _=> ?_);have bJ:x.enc.length=4:=rfl;rw[bJ];show j<off+k*4\/off+k*4+4<=j;omega
end
theorem mR{d:RV Lf}{k:Nat}(h:k<d.length):∃x,d[k]? =some x:=⟨d[k],gE h⟩
set_option maxHeartbeats 4000000 in
theorem wJ{blk n off cap:Nat}{t:TypeId}(d:RV Lf)(w:World)(h:Rw w blk t n off d)(hcap:d.length<=cap)(bJ:d.length<=4611686018427387904)(h2:2<=d.length):
  Calls Tryz.prog 152 #[.slice (some ⟨blk,off,none⟩) d.length cap,.func (.func 115) #[] #[]] w λe w'=>e= .returned (.slice (some ⟨blk,off,none⟩) (gf d).length cap)/\Rw w' blk t n off (gf d)/\Chg blk w w':=by
 have HR:Aside (Rw w blk t n off d):=h;clear h;have n2:¬d.length<2:=A1
 go_enter Tryz.func152,Tryz.ntmps152
 go_wp2_with fail
 go_loopg [5] d.length (λg s5 wr=>∃k:Nat,1<=k/\k<=d.length/\d.length-k<=g/\s5= .int .i64 k/\gf (d.take k)=d.take k/\Rw wr blk t n off d/\Chg blk w wr)
 case atStart=>
  refine⟨1,N4 _,A1,A1,rfl,?_,HR.out,Chg.refl _ _⟩;cases d with
  |nil=>rfl
  |cons x xs=>rfl
 case round=>
  obtain⟨k,hk1,hk,hg,rfl,F,A,C⟩:=hrel;by_cases hlt:k<d.length
  .obtain ⟨x,hx⟩:=mR hlt;obtain⟨m,rfl⟩:∃m,k=m+1:=⟨k-1,A1⟩;obtain⟨y,hy⟩:=mR (d:=d) (k:=m) A1;have iw:IntKind.i64.wrap (m:Int)=(m:Int):=Den.aH A1;have i1:(m:Int)<(d.length:Int):=A1
   have i2:(m:Int)<=9223372036854775807:=A1
   have i4:(m:Int)+1<(d.length:Int):=A1
   have i5:(0:Int)<=(m:Int)+1:=A1
   obtain⟨c0,c1,c2,c3⟩:=A.at_ (m+1) x hx;obtain⟨S,T,U,V⟩:=A.at_ m y hy;have D:Aside (Rw wr blk t n off d):=A;have M:Aside (Chg blk w wr):=C;have HM:Aside (gf (d.take (m+1))=d.take (m+1)):=F;have HX:Aside (d[m+1]? =some x):=hx;have HY:Aside (d[m]? =some y):=hy;clear A C F hx hy
   go_wp2_with fail
   go_region_held3 (λw'=>w'.cell? ⟨blk,off+(m+1)*4,none⟩=some (.int .i64 x.op)/\w'.cell? ⟨blk,off+(m+1)*4+1,none⟩=some (.string x.ae)/\w'.cell? ⟨blk,off+(m+1)*4+2,none⟩=some (.int .i64 x.ag)/\w'.cell? ⟨blk,off+(m+1)*4+3,none⟩=some (.slice x.A 0 x.c)/\w'.cell? ⟨blk,off+m*4,none⟩=some (.int .i64 y.op)/\w'.cell? ⟨blk,off+m*4+1,none⟩=some (.string y.ae)/\w'.cell? ⟨blk,off+m*4+2,none⟩=some (.int .i64 y.ag)/\w'.cell? ⟨blk,off+m*4+3,none⟩=some (.slice y.A 0 y.c)) (go_keep) (first|(go_at_call 115;refine(yI x y _).mono ?_;rintro e w' ⟨rfl,G⟩;have H:=(Lay.refl wr).drew.trans G;obtain⟨c0,c1,c2,c3⟩:=(D.out.lay H).at_ _ _ HX.out;obtain⟨S,T,U,V⟩:=(D.out.lay H).at_ _ _ HY.out))
   have B:Aside (Rw w' blk t n off d):=D.out.lay H;have HC2:Aside (Chg blk w w'):=M.out.trans H.chg;clear c0 c1 c2 c3 S T U V G H D M;clear iw i1 i2 i4 i5;cases hs:x.same y with
   | false=>
    go_wp2_with fail
    go_roundg (d.length-(m+1+1))
    case measure=>omega
    case rel=>
     refine⟨m+1+1,A1,A1,N4 _,by go_num,?_,B.out,HC2.out⟩;rw[oU HY.out HX.out,hs,N3 D2,HM.out,<-Den.ij HX.out]
   | true=>
    have hm:(gf (d.take (m+2))).length=m+1/\gf (d.take (m+2))=d.take (m+1):=by
     rw[oU HY.out HX.out,hs,N1 rfl,HM.out];exact⟨by rw[O0];omega,rfl⟩
    have W:Aside ((gf (d.take (m+2))).length=m+1/\gf (d.take (m+2))=d.take (m+1)):=hm;clear hm
    go_wp2_with fail
    go_loopg [5,7] d.length (λg s5 s7 wr=>∃(kk E:Nat)(e:RV Lf),s5= .int .i64 kk/\s7= .int .i64 E/\1<=E/\m+1+E<=d.length/\d.length-(m+1+E)<=g/\e.length=d.length/\kk=(gf (d.take (m+1+E))).length/\kk<=m+E/\e.take kk=gf (d.take (m+1+E))/\(∀i,kk<=i->e[i]? =d[i]?)/\Rw wr blk t n off e/\Chg blk w wr)
    case atStart=>exact⟨m+1,1,d,rfl,rfl,N4 _,A1,A1,rfl,W.out.1.symm,A1,W.out.2.symm,λ_ _=>rfl,B.out,HC2.out⟩
    case round=>
     obtain⟨kk,E,e,rfl,rfl,h1,hle,hg2,X,I,hkle,J,K,A,C⟩:=hrel;by_cases Y:m+1+E<d.length
     .obtain⟨j,rfl⟩:∃j,E=j+1:=⟨E-1,A1⟩;obtain⟨u,hu⟩:=mR Y;obtain⟨v,R⟩:=mR (d:=d) (k:=m+1+j) A1;have N:=(K (m+1+(j+1)) A1).trans hu;have O:=(K (m+1+j) A1).trans R;have Z:=A.at_ _ _ N;have at2:=A.at_ _ _ O;rw[(A1:off+(m+1+(j+1))*4=off+(m+1)*4+(j+1)*4)]at Z;rw[(A1:off+(m+1+j)*4=off+(m+1)*4+j*4)]at at2;obtain⟨c0,c1,c2,c3⟩:=Z;obtain⟨S,T,U,V⟩:=at2;have D:Aside (Rw wr blk t n off e):=A;have M:Aside (Chg blk w wr):=C;have HH:Aside (∀i,kk<=i->e[i]? =d[i]?):=K;have HT:Aside (e.take kk=gf (d.take (m+1+(j+1)))):=J;have HK:Aside (kk=(gf (d.take (m+1+(j+1)))).length):=I;have HU:Aside (d[m+1+(j+1)]? =some u/\d[m+1+j]? =some v/\e[m+1+(j+1)]? =some u/\e[m+1+j]? =some v):=⟨hu,R,N,O⟩;clear A C K J I hu R N O;have iw:IntKind.i64.wrap (j:Int)=(j:Int):=Den.aH A1;have i1:(j:Int)<((d.length-(m+1):Nat):Int):=A1
      have i2:(j:Int)<=9223372036854775807:=A1
      have i3:(j:Int)+1<((d.length-(m+1):Nat):Int):=A1
      have i4:(0:Int)<=(j:Int)+1:=A1
      go_wp2_with fail
      go_region_held3 (λw'=>w'.cell? ⟨blk,off+(m+1)*4+(j+1)*4,none⟩=some (.int .i64 u.op)/\w'.cell? ⟨blk,off+(m+1)*4+(j+1)*4+1,none⟩=some (.string u.ae)/\w'.cell? ⟨blk,off+(m+1)*4+(j+1)*4+2,none⟩=some (.int .i64 u.ag)/\w'.cell? ⟨blk,off+(m+1)*4+(j+1)*4+3,none⟩=some (.slice u.A 0 u.c)/\w'.cell? ⟨blk,off+(m+1)*4+j*4,none⟩=some (.int .i64 v.op)/\w'.cell? ⟨blk,off+(m+1)*4+j*4+1,none⟩=some (.string v.ae)/\w'.cell? ⟨blk,off+(m+1)*4+j*4+2,none⟩=some (.int .i64 v.ag)/\w'.cell? ⟨blk,off+(m+1)*4+j*4+3,none⟩=some (.slice v.A 0 v.c)) (go_keep) (first|(go_at_call 115;refine(yI u v _).mono ?_;rintro e w2 ⟨rfl,G⟩;have H:=(Lay.refl wr).drew.trans G;obtain⟨c0,c1,c2,c3⟩:=(show At4 w2 blk (off+(m+1)*4+(j+1)*4) u from (by have q:=(D.out.lay H).at_ _ _ HU.out.2.2.1;rw[(A1:off+(m+1+(j+1))*4=off+(m+1)*4+(j+1)*4)]at q;exact q));obtain⟨S,T,U,V⟩:=(show At4 w2 blk (off+(m+1)*4+j*4) v from (by have q:=(D.out.lay H).at_ _ _ HU.out.2.2.2;rw[(A1:off+(m+1+j)*4=off+(m+1)*4+j*4)]at q;exact q))))
      have B:Aside (Rw w2 blk t n off e):=D.out.lay H;have HC2:Aside (Chg blk w w2):=M.out.trans H.chg;clear S T U V G H D M;have HN:Aside (gf (d.take (m+1+(j+1+1)))=if u.same v=true then gf (d.take (m+1+(j+1)))else gf (d.take (m+1+(j+1)))++[u]):=oU HU.out.2.1 HU.out.1;cases hs:u.same v with
      | true=>
       go_wp2_with fail
       go_roundg (d.length-(m+1+(j+1+1)))
       case measure=>omega
       case rel=>
        have P:=HN.out;rw[hs,N1 rfl]at P;exact⟨kk,j+1+1,e,rfl,by go_num,A1,A1,N4 _,X,by rw[P];exact HK.out,A1,by rw[P];exact HT.out,HH.out,B.out,HC2.out⟩
      | false=>
       have Q:kk<e.length:=A1
       obtain⟨z,hz⟩:=mR Q;obtain⟨z0,z1,z2,z3⟩:=B.out.at_ kk z hz;have hfit:=B.out.fit;have f0:=(B.out.some (j:=off+kk*4) A1).2;have f1:=(B.out.some (j:=off+kk*4+1) A1).2;have f2:=(B.out.some (j:=off+kk*4+2) A1).2;have f3:=(B.out.some (j:=off+kk*4+3) A1).2;have hkd:(kk:Int)<(d.length:Int):=A1
       clear hfit hz
       go_wp2_with fail
       go_roundg (d.length-(m+1+(j+1+1)))
       case measure=>omega
       case rel=>
        have P:=HN.out;rw[hs,N3 D2]at P;have hK:=HK.out;refine⟨kk+1,j+1+1,e.set kk u,by go_num,by go_num,A1,A1,N4 _,by simpa using X,by rw[P,N8,<-hK];rfl,A1,?_,λi hi=> ?_,B.out.set Q u,HC2.out.trans (Ch blk (off+kk*4) u.enc w2)⟩
        .rw[P,<-HT.out,List.take_add_one,sS Q,List.take_set_of_le (N4 _)];rfl
        .rw[sN A1];exact HH.out i A1
     .have L:m+1+E=d.length:=A1
      have hcl:∀ty,(Builtin.clear_ #[30] ty #[.slice (some ⟨blk,off+kk*4,none⟩) (d.length-kk) (cap-kk)]).run Tryz.prog wr= .ok (.tuple #[]) (wr.setCells blk (off+kk*4) (Builtin.zeroCells (Value.cells (.agg #[.int .i64 0,.string ByteArray.empty,.int .i64 0,.slice none 0 0])) (d.length-kk)).toList):=λty=>by
       refine sZ wr _ _ ty (.agg #[.int .i64 0,.string ByteArray.empty,.int .i64 0,.slice none 0 0]) Tryz.underlying30 Tryz.zeroValue32 (λv R=> ?_) blk (off+kk*4) _ _ A1 (λj hj=> ?_) (λj hj=> ?_)
       .simp[Value.cells]at R;rcases R with rfl|rfl|rfl|rfl<;>rfl
       .have hj':j<(d.length-kk)*4:=hj;have:=A.fit;exact(A.some A1).1
       .have hj':j<(d.length-kk)*4:=hj;have:=A.fit;exact(A.some A1).2
      have D:Aside (Rw wr blk t n off e):=A;have M:Aside (Chg blk w wr):=C;have HT:Aside (e.take kk=gf d):=by rw[L,OQ]at J;exact J
      have HK:Aside (kk=(gf d).length):=by rw[L,OQ]at I;exact I
      clear A C J I K;have i1:(kk:Int)<(d.length:Int):=A1
      go_wp2_with fail
      go_ret
      rw[<-HK.out];refine⟨rfl,?_,?_⟩
      .rw[<-HT.out];refine(D.out.take kk).out ?_;rw[O0];omega
      .exact M.out.trans (Ch _ _ _ _)
  .have:k=d.length:=A1
   subst this;have e:gf d=d:=by rw[OQ]at F;exact F
   have D:Aside (Rw wr blk t n off d):=A;clear F A
   go_wp2_with fail
   go_ret
   rw[e];exact⟨rfl,D.out,C⟩
end Go.Proofs.YtigoabbppmdfpaaGreat

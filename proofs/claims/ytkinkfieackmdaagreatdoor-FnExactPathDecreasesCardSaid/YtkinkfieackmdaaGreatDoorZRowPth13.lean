/-
  Texts that the claim rests on, merged: Bits, Loop, Rel.
-/
import Derived.Test.YtkinkfieackmdaaGreatDoorZRowPth12

namespace Go.Proofs.YtkinkfieackmdaaGreatDoor.Den
open Go.RowKit
theorem hY {a:Nat} (h:a<9223372036854775808):(BitVec.ofInt IntKind.i64.bits (a:Int)).toNat=a:=by
 show (BitVec.ofInt 64 (a:Int)).toNat=a;rw[BitVec.toNat_ofInt];omega
theorem uS {a:Nat} (h:a<9223372036854775808):IntKind.i64.wrap (a:Int)=a:=Abs.lC (by omega) (by omega)
theorem Cq {a b:Nat} (ha:a<9223372036854775808) (hb:b<9223372036854775808):Abs.aN .or .i64 a b=((a|||b:Nat):Int):=by
 unfold Abs.aN;simp only;rw[BitVec.toNat_or,hY ha,hY hb,uS];exact Nat.or_lt_two_pow (n:=63) ha hb
theorem sX {a b:Nat} (ha:a<9223372036854775808) (hb:b<9223372036854775808):Abs.aN .and .i64 a b=((a&&&b:Nat):Int):=by
 unfold Abs.aN;simp only;rw[BitVec.toNat_and,hY ha,hY hb,uS];exact Nat.lt_of_le_of_lt Nat.and_le_left ha
theorem lP {k:Nat} (hk:k<63):Abs.aN .shl .i64 1 k=((2^k:Nat):Int):=by
 unfold Abs.aN;simp only;have e:min ((k:Int).toNat) IntKind.i64.bits=k:=by
  have:IntKind.i64.bits=64:=rfl;rw[this];omega
 rw[e];have h2:(2:Nat)^k<9223372036854775808:=by
  have:=Nat.pow_lt_pow_right (a:=2) (by omega) hk;simpa using this
 have:=uS h2;simpa using this
theorem BU {a k:Nat} (hk:k<64):Abs.aN .shr .i64 a k=((a>>>k:Nat):Int):=by
 unfold Abs.aN;simp only;have e:min ((k:Int).toNat) IntKind.i64.bits=k:=by
  have:IntKind.i64.bits=64:=rfl;rw[this];omega
 rw[e,Int.fdiv_eq_ediv_of_nonneg _ (Int.le_of_lt (Int.pow_pos (by decide))),Nat.shiftRight_eq_div_pow];simp
theorem ri {k:Int} (h0:0<=k) (h1:k<1000):IntKind.wrap .u64 k=k:=by
 simp[IntKind.wrap,IntKind.signed,IntKind.bits];omega
theorem vY {a k:Nat} (ha:a<9223372036854775808) (hk:k<63):(decide (Abs.aN .and .i64 a ((2^k:Nat):Int)=0))= !a.testBit k:=by
 have h2:(2:Nat)^k<9223372036854775808:=by
  have:=Nat.pow_lt_pow_right (a:=2) (by omega) hk;simpa using this
 rw[sX ha h2];have key:(a&&&2^k=0)↔a.testBit k=false:=by
  constructor
  ·intro h;have:=congrArg (λn=>Nat.testBit n k) h;simpa [Nat.testBit_and,Nat.testBit_two_pow]using this
  ·intro h;apply Nat.eq_of_testBit_eq;intro j;rw[Nat.testBit_and,Nat.testBit_two_pow,Nat.zero_testBit];by_cases e:k=j
   ·subst e;rw[h];rfl
   ·simp[e]
 cases h:a.testBit k with
 |false=>rw[key.2 h];rfl
 | true =>
  have:¬(a&&&2^k=0):=λe=>by rw[key.1 e]at h;cases h
  simp[this]
theorem pJ {a k:Nat} (ha:a<9223372036854775808) (hk:k<63):(decide (Abs.aN .and .i64 (Abs.aN .shr .i64 a k) 1=1))=a.testBit k:=by
 rw[BU (by omega),show (1:Int)=((1:Nat):Int)from rfl,sX (by
  rw[Nat.shiftRight_eq_div_pow];exact Nat.lt_of_le_of_lt (Nat.div_le_self _ _) ha) (by omega)]
 rw[Nat.testBit,Nat.and_comm,Nat.one_and_eq_mod_two];rcases Nat.mod_two_eq_zero_or_one (a>>>k)with h|h<;>rw[h]<;>rfl
theorem qq (s:ByteArray) (i:Int):sIx s i=ix (ofS s) i:=by
 unfold sIx ix ofS;cases decide (0<=i)with
 |false=>rfl
 | true =>
  simp only[cT];rw[List.getElem?_map,Array.getElem?_toList];have:s[i.toNat]? =s.data[i.toNat]? :=rfl;rw[this];cases s.data[i.toNat]? <;>rfl
theorem eV (s:ByteArray):(ofS s).length=s.size:=by unfold ofS;rw[List.length_map,Array.length_toList];rfl
theorem xL (s:ByteArray):∀c∈ofS s,0<=c/\c<=255:=λc hc=>by
 obtain⟨b,_,rfl⟩:=List.mem_map.1 hc;have:=b.toNat_lt;omega
theorem aH {a b:Nat} (h:a<b):decide ((a:Int)<(b:Int))=true:=dT (by omega)
theorem aq {a b:Nat} (h:¬a<b):decide ((a:Int)<(b:Int))=false:=dF (by omega)
theorem aO {i:Nat} (h:i<4294967296):wr ((i:Int)+1)=((i+1:Nat):Int):=by
 have:=aI (x:=(i:Int)+1) (by omega);rw[this];omega
theorem aD {α:Type} {xs:List α} {k:Nat} {x:α} (h:xs[k]? =some x):ix xs (k:Int)=some x:=ix_nat.trans h
theorem vX {A R:Type} (N:Nat) (B:Int->A->(Int->A->Option R)->Option R) (Q:Nat->A->Prop) (val:Nat->A->Option R)
  (hend:∀a nx,Q N a->B N a nx=val N a)
  (hstep:∀i a nx,i<N->Q i a->(∀a',Q (i+1) a'->nx ((i+1:Nat):Int) a'=val (i+1) a')->B i a nx=val i a):
  ∀m i a,Q i a->i<=N->N-i<m->au (λ(v:Int×A) nx=>B v.1 v.2 (λy0 y1=>nx (y0,y1))) m ((i:Int),a)=val i a
 |0,i,a,_,_,hm=>absurd hm (Nat.not_lt_zero _)
 | m + 1, i, a, hq, hi, hm => by
  show B (i:Int) a (λy0 y1=>au (λ(v:Int×A) nx=>B v.1 v.2 (λy0 y1=>nx (y0,y1))) m (y0,y1))=_;rcases Nat.eq_or_lt_of_le hi with rfl|hlt
  ·exact hend a _ hq
  ·exact hstep i a _ hlt hq λa' ha'=>vX N B Q val hend hstep m (i+1) a' ha' hlt (by omega)
theorem uI {A R:Type} (N:Nat) (B:A->Int->(A->Int->Option R)->Option R) (Q:Nat->A->Prop) (val:Nat->A->Option R)
  (hend:∀a nx,Q N a->B a N nx=val N a)
  (hstep:∀i a nx,i<N->Q i a->(∀a',Q (i+1) a'->nx a' ((i+1:Nat):Int)=val (i+1) a')->B a i nx=val i a):
  ∀m i a,Q i a->i<=N->N-i<m->au (λ(v:A×Int) nx=>B v.1 v.2 (λy0 y1=>nx (y0,y1))) m (a,(i:Int))=val i a
 |0,i,a,_,_,hm=>absurd hm (Nat.not_lt_zero _)
 | m + 1, i, a, hq, hi, hm => by
  show B a (i:Int) (λy0 y1=>au (λ(v:A×Int) nx=>B v.1 v.2 (λy0 y1=>nx (y0,y1))) m (y0,y1))=_;rcases Nat.eq_or_lt_of_le hi with rfl|hlt
  ·exact hend a _ hq
  ·exact hstep i a _ hlt hq λa' ha'=>uI N B Q val hend hstep m (i+1) a' ha' hlt (by omega)
theorem jf {R:Type} (N:Nat) (B:Int->(Int->Option R)->Option R) (val:Nat->Option R)
  (hend:∀nx,B N nx=val N)
  (hstep:∀i nx,i<N->nx ((i+1:Nat):Int)=val (i+1)->B i nx=val i):
  ∀m i,i<=N->N-i<m->au (λ(v:Int) nx=>B v (λy0=>nx y0)) m (i:Int)=val i
 |0,i,_,hm=>absurd hm (Nat.not_lt_zero _)
 | m + 1, i, hi, hm => by
  show B (i:Int) (λy0=>au (λ(v:Int) nx=>B v (λy0=>nx y0)) m y0)=_;rcases Nat.eq_or_lt_of_le hi with rfl|hlt
  ·exact hend _
  ·exact hstep i _ hlt (jf N B val hend hstep m (i+1) hlt (by omega))
theorem zp {α:Type} {xs:List α}:xs.take xs.length=xs:=List.take_of_length_le (Nat.le_refl _)
theorem aK {α:Type} {xs:List α}:xs.drop xs.length=[]:=List.drop_eq_nil_of_le (Nat.le_refl _)
theorem aV {α:Type} {xs:List α} {i:Nat} (h:i<xs.length):∃x,xs[i]? =some x/\x∈xs:=⟨xs[i],List.getElem?_eq_getElem h,gM h⟩
theorem ia {α σ R:Type} (xs:List α) (p:α->Bool) (Q:σ->Prop) (B:Int->σ->(Int->σ->Option R)->Option R) (fa:Nat->σ->Option R) (fb:σ->Option R)
  (hend:∀s nx,Q s->B (xs.length:Int) s nx=fb s)
  (hstep:∀(i:Nat) x s nx,xs[i]? =some x->Q s->∃s',Q s'/\((p x=true/\B (i:Int) s nx=fa i s')\/(p x=false/\B (i:Int) s nx=nx ((i+1:Nat):Int) s'))):
  ∀m (i:Nat) s,Q s->i<=xs.length->xs.length-i<m->∃s',Q s'/\(((xs.drop i).any p=true/\∃j:Nat,au (λ(v:Int×σ) nx=>B v.1 v.2 (λy0 y1=>nx (y0,y1))) m ((i:Int),s)=fa j s')\/((xs.drop i).any p=false/\au (λ(v:Int×σ) nx=>B v.1 v.2 (λy0 y1=>nx (y0,y1))) m ((i:Int),s)=fb s'))
 |0,i,s,_,_,hm=>absurd hm (Nat.not_lt_zero _)
 | m + 1, i, s, hq, hi, hm => by
  show ∃s',Q s'/\((_/\∃j:Nat,B (i:Int) s (λy0 y1=>au (λ(v:Int×σ) nx=>B v.1 v.2 (λy0 y1=>nx (y0,y1))) m (y0,y1))=_)\/(_/\B (i:Int) s (λy0 y1=>au (λ(v:Int×σ) nx=>B v.1 v.2 (λy0 y1=>nx (y0,y1))) m (y0,y1))=_));rcases Nat.eq_or_lt_of_le hi with rfl|hlt
  ·exact⟨s,hq,.inr ⟨by rw[List.drop_length];rfl,hend s _ hq⟩⟩
  ·obtain⟨x,hx,_⟩:=aV     hlt;have hd:(xs.drop i).any p=(p x||(xs.drop (i+1)).any p):=by
    obtain⟨h1,rfl⟩:=gI.1 hx;rw[List.drop_eq_getElem_cons h1,List.any_cons]
   obtain⟨s',q',h|h⟩:=hstep i x s (λy0 y1=>au (λ(v:Int×σ) nx=>B v.1 v.2 (λy0 y1=>nx (y0,y1))) m (y0,y1)) hx hq
   ·exact⟨s',q',.inl ⟨by rw[hd,h.1];rfl,i,h.2⟩⟩
   ·obtain⟨s2,q2,r⟩:=ia xs p Q B fa fb hend hstep m (i+1) s' q' hlt (by omega);refine⟨s2,q2,?_⟩;rw[hd,h.1,Bool.false_or,h.2];exact r
end Go.Proofs.YtkinkfieackmdaaGreatDoor.Den

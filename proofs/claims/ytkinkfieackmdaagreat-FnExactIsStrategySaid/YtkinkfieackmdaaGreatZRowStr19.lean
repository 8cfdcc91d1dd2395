/-
  Texts that the claim rests on, merged: Bits, Loop.
-/
import Derived.Test.YtkinkfieackmdaaGreatZRowStr14

namespace Go.Proofs.YtkinkfieackmdaaGreat.Den
open Go.RowKit
theorem ofInt_nat {a:Nat} (h:a<9223372036854775808):(BitVec.ofInt IntKind.i64.bits (a:Int)).toNat=a:=by
 show (BitVec.ofInt 64 (a:Int)).toNat=a
 rw[BitVec.toNat_ofInt]
 omega
theorem wr_nat {a:Nat} (h:a<9223372036854775808):IntKind.i64.wrap (a:Int)=a:=Abs.wrap_in (by omega) (by omega)
theorem bor_nat {a b:Nat} (ha:a<9223372036854775808) (hb:b<9223372036854775808):Abs.bitsI .or .i64 a b=((a|||b:Nat):Int):=by
 unfold Abs.bitsI
 simp only
 rw[BitVec.toNat_or,ofInt_nat ha,ofInt_nat hb,wr_nat]
 exact Nat.or_lt_two_pow (n:=63) ha hb
theorem band_nat {a b:Nat} (ha:a<9223372036854775808) (hb:b<9223372036854775808):Abs.bitsI .and .i64 a b=((a&&&b:Nat):Int):=by
 unfold Abs.bitsI
 simp only
 rw[BitVec.toNat_and,ofInt_nat ha,ofInt_nat hb,wr_nat]
 exact Nat.lt_of_le_of_lt Nat.and_le_left ha
theorem shl1_nat {k:Nat} (hk:k<63):Abs.bitsI .shl .i64 1 k=((2^k:Nat):Int):=by
 unfold Abs.bitsI
 simp only
 have e:min ((k:Int).toNat) IntKind.i64.bits=k:=by
  have:IntKind.i64.bits=64:=rfl
  rw[this];omega
 rw[e]
 have h2:(2:Nat)^k<9223372036854775808:=by
  have:=Nat.pow_lt_pow_right (a:=2) (by omega) hk
  simpa using this
 have:=wr_nat h2
 simpa using this
theorem shr_nat {a k:Nat} (hk:k<64):Abs.bitsI .shr .i64 a k=((a>>>k:Nat):Int):=by
 unfold Abs.bitsI
 simp only
 have e:min ((k:Int).toNat) IntKind.i64.bits=k:=by
  have:IntKind.i64.bits=64:=rfl
  rw[this];omega
 rw[e,Int.fdiv_eq_ediv_of_nonneg _ (Int.le_of_lt (Int.pow_pos (by decide))),Nat.shiftRight_eq_div_pow]
 simp
theorem wrap_u64 {k:Int} (h0:0<=k) (h1:k<1000):IntKind.wrap .u64 k=k:=by
 simp[IntKind.wrap,IntKind.signed,IntKind.bits]
 omega
theorem bit_and {a k:Nat} (ha:a<9223372036854775808) (hk:k<63):(decide (Abs.bitsI .and .i64 a ((2^k:Nat):Int)=0))= !a.testBit k:=by
 have h2:(2:Nat)^k<9223372036854775808:=by
  have:=Nat.pow_lt_pow_right (a:=2) (by omega) hk
  simpa using this
 rw[band_nat ha h2]
 have key:(a&&&2^k=0)↔a.testBit k=false:=by
  constructor
  ·intro h
   have:=congrArg (λn=>Nat.testBit n k) h
   simpa [Nat.testBit_and,Nat.testBit_two_pow]using this
  ·intro h
   apply Nat.eq_of_testBit_eq
   intro j
   rw[Nat.testBit_and,Nat.testBit_two_pow,Nat.zero_testBit]
   by_cases e:k=j
   ·subst e;rw[h];rfl
   ·simp[e]
 cases h:a.testBit k with
 |false=>rw[key.2 h];rfl
 | true =>
  have:¬(a&&&2^k=0):=λe=>by rw[key.1 e]at h;cases h
  simp[this]
theorem bit_shr {a k:Nat} (ha:a<9223372036854775808) (hk:k<63):(decide (Abs.bitsI .and .i64 (Abs.bitsI .shr .i64 a k) 1=1))=a.testBit k:=by
 rw[shr_nat (by omega),show (1:Int)=((1:Nat):Int)from rfl,band_nat (by
  rw[Nat.shiftRight_eq_div_pow]
  exact Nat.lt_of_le_of_lt (Nat.div_le_self _ _) ha) (by omega)]
 rw[Nat.testBit,Nat.and_comm,Nat.one_and_eq_mod_two]
 rcases Nat.mod_two_eq_zero_or_one (a>>>k)with h|h<;>rw[h]<;>rfl
theorem sIx_eq (s:ByteArray) (i:Int):sIx s i=ix (ofS s) i:=by
 unfold sIx ix ofS
 cases decide (0<=i)with
 |false=>rfl
 | true =>
  simp only[cT]
  rw[List.getElem?_map,Array.getElem?_toList]
  have:s[i.toNat]? =s.data[i.toNat]? :=rfl
  rw[this]
  cases s.data[i.toNat]? <;>rfl
theorem ofS_len (s:ByteArray):(ofS s).length=s.size:=by unfold ofS;rw[List.length_map,Array.length_toList];rfl
theorem ofS_range (s:ByteArray):∀c∈ofS s,0<=c/\c<=255:=λc hc=>by
 obtain⟨b,_,rfl⟩:=List.mem_map.1 hc
 have:=b.toNat_lt
 omega
theorem lt_nat {a b:Nat} (h:a<b):decide ((a:Int)<(b:Int))=true:=dT (by omega)
theorem nlt_nat {a b:Nat} (h:¬a<b):decide ((a:Int)<(b:Int))=false:=dF (by omega)
theorem wr_one {i:Nat} (h:i<4294967296):wr ((i:Int)+1)=((i+1:Nat):Int):=by
 have:=wr_in (x:=(i:Int)+1) (by omega)
 rw[this];omega
theorem ix_get {α:Type} {xs:List α} {k:Nat} {x:α} (h:xs[k]? =some x):ix xs (k:Int)=some x:=ix_nat.trans h
theorem count {A R:Type} (N:Nat) (B:Int->A->(Int->A->Option R)->Option R) (Q:Nat->A->Prop) (val:Nat->A->Option R)
  (hend:∀a nx,Q N a->B N a nx=val N a)
  (hstep:∀i a nx,i<N->Q i a->(∀a',Q (i+1) a'->nx ((i+1:Nat):Int) a'=val (i+1) a')->B i a nx=val i a):
  ∀m i a,Q i a->i<=N->N-i<m->iter (λ(v:Int×A) nx=>B v.1 v.2 (λy0 y1=>nx (y0,y1))) m ((i:Int),a)=val i a
 |0,i,a,_,_,hm=>absurd hm (Nat.not_lt_zero _)
 | m + 1, i, a, hq, hi, hm => by
  show B (i:Int) a (λy0 y1=>iter (λ(v:Int×A) nx=>B v.1 v.2 (λy0 y1=>nx (y0,y1))) m (y0,y1))=_
  rcases Nat.eq_or_lt_of_le hi with rfl|hlt
  ·exact hend a _ hq
  ·exact hstep i a _ hlt hq λa' ha'=>count N B Q val hend hstep m (i+1) a' ha' hlt (by omega)
theorem countR {A R:Type} (N:Nat) (B:A->Int->(A->Int->Option R)->Option R) (Q:Nat->A->Prop) (val:Nat->A->Option R)
  (hend:∀a nx,Q N a->B a N nx=val N a)
  (hstep:∀i a nx,i<N->Q i a->(∀a',Q (i+1) a'->nx a' ((i+1:Nat):Int)=val (i+1) a')->B a i nx=val i a):
  ∀m i a,Q i a->i<=N->N-i<m->iter (λ(v:A×Int) nx=>B v.1 v.2 (λy0 y1=>nx (y0,y1))) m (a,(i:Int))=val i a
 |0,i,a,_,_,hm=>absurd hm (Nat.not_lt_zero _)
 | m + 1, i, a, hq, hi, hm => by
  show B a (i:Int) (λy0 y1=>iter (λ(v:A×Int) nx=>B v.1 v.2 (λy0 y1=>nx (y0,y1))) m (y0,y1))=_
  rcases Nat.eq_or_lt_of_le hi with rfl|hlt
  ·exact hend a _ hq
  ·exact hstep i a _ hlt hq λa' ha'=>countR N B Q val hend hstep m (i+1) a' ha' hlt (by omega)
theorem count0 {R:Type} (N:Nat) (B:Int->(Int->Option R)->Option R) (val:Nat->Option R)
  (hend:∀nx,B N nx=val N)
  (hstep:∀i nx,i<N->nx ((i+1:Nat):Int)=val (i+1)->B i nx=val i):
  ∀m i,i<=N->N-i<m->iter (λ(v:Int) nx=>B v (λy0=>nx y0)) m (i:Int)=val i
 |0,i,_,hm=>absurd hm (Nat.not_lt_zero _)
 | m + 1, i, hi, hm => by
  show B (i:Int) (λy0=>iter (λ(v:Int) nx=>B v (λy0=>nx y0)) m y0)=_
  rcases Nat.eq_or_lt_of_le hi with rfl|hlt
  ·exact hend _
  ·exact hstep i _ hlt (count0 N B val hend hstep m (i+1) hlt (by omega))
theorem drop_nat {α:Type} {xs:List α}:xs.drop xs.length=[]:=List.drop_eq_nil_of_le (Nat.le_refl _)
theorem get_lt {α:Type} {xs:List α} {i:Nat} (h:i<xs.length):∃x,xs[i]? =some x/\x∈xs:=⟨xs[i],List.getElem?_eq_getElem h,gM h⟩
end Go.Proofs.YtkinkfieackmdaaGreat.Den

/-
  Texts that the claim rests on, merged: Bits, Loop, Tm1, Tm2, Tm3, TmC.
-/
import Derived.Test.YtfdkldmkbibknaaGreatZRowTx13
import Derived.Test.YtfdkldmkbibknaaGreatZRowTx15
import Derived.Test.YtfdkldmkbibknaaGreatZRowTx16
import Derived.Test.YtfdkldmkbibknaaGreatZRowTx17
import Derived.Test.YtfdkldmkbibknaaGreatZRowTx18

namespace Go.Proofs.YtfdkldmkbibknaaGreat.Den
open Go.RowKit
theorem iZ {a:Nat} (h:a<9223372036854775808):(BitVec.ofInt IntKind.i64.bits (a:Int)).toNat=a:=by
 show (BitVec.ofInt 64 (a:Int)).toNat=a;rw[BitVec.toNat_ofInt];omega
theorem tn {a:Nat} (h:a<9223372036854775808):IntKind.i64.wrap (a:Int)=a:=Abs.kz (by omega) (by omega)
theorem BF {a b:Nat} (ha:a<9223372036854775808) (hb:b<9223372036854775808):Abs.am .or .i64 a b=((a|||b:Nat):Int):=by
 unfold Abs.am;simp only;rw[BitVec.toNat_or,iZ ha,iZ hb,tn];exact Nat.or_lt_two_pow (n:=63) ha hb
theorem rC {a b:Nat} (ha:a<9223372036854775808) (hb:b<9223372036854775808):Abs.am .and .i64 a b=((a&&&b:Nat):Int):=by
 unfold Abs.am;simp only;rw[BitVec.toNat_and,iZ ha,iZ hb,tn];exact Nat.lt_of_le_of_lt Nat.and_le_left ha
theorem nV {k:Nat} (hk:k<63):Abs.am .shl .i64 1 k=((2^k:Nat):Int):=by
 unfold Abs.am;simp only;have e:min ((k:Int).toNat) IntKind.i64.bits=k:=by
  have:IntKind.i64.bits=64:=rfl;rw[this];omega
 rw[e];have h2:(2:Nat)^k<9223372036854775808:=by
  have:=Nat.pow_lt_pow_right (a:=2) (by omega) hk;simpa using this
 have:=tn h2;simpa using this
theorem BM {a k:Nat} (hk:k<64):Abs.am .shr .i64 a k=((a>>>k:Nat):Int):=by
 unfold Abs.am;simp only;have e:min ((k:Int).toNat) IntKind.i64.bits=k:=by
  have:IntKind.i64.bits=64:=rfl;rw[this];omega
 rw[e,Int.fdiv_eq_ediv_of_nonneg _ (Int.le_of_lt (Int.pow_pos (by decide))),Nat.shiftRight_eq_div_pow];simp
theorem qT {k:Int} (h0:0<=k) (h1:k<1000):IntKind.wrap .u64 k=k:=by
 simp[IntKind.wrap,IntKind.signed,IntKind.bits];omega
theorem vR {a k:Nat} (ha:a<9223372036854775808) (hk:k<63):(decide (Abs.am .and .i64 a ((2^k:Nat):Int)=0))= !a.testBit k:=by
 have h2:(2:Nat)^k<9223372036854775808:=by
  have:=Nat.pow_lt_pow_right (a:=2) (by omega) hk;simpa using this
 rw[rC ha h2];have key:(a&&&2^k=0)↔a.testBit k=false:=by
  constructor
  ·intro h;have:=congrArg (λn=>Nat.testBit n k) h;simpa [Nat.testBit_and,Nat.testBit_two_pow]using this
  ·intro h;apply Nat.eq_of_testBit_eq;intro j;rw[Nat.testBit_and,Nat.testBit_two_pow,Nat.zero_testBit];by_cases e:k=j
   ·subst e;rw[h];rfl
   ·simp[e]
 cases h:a.testBit k with
 |false=>rw[key.2 h];rfl
 | true =>
  have:¬(a&&&2^k=0):=λe=>by rw[key.1 e]at h;cases h
  simp[this]
theorem p8 {a k:Nat} (ha:a<9223372036854775808) (hk:k<63):(decide (Abs.am .and .i64 (Abs.am .shr .i64 a k) 1=1))=a.testBit k:=by
 rw[BM (by omega),show (1:Int)=((1:Nat):Int)from rfl,rC (by
  rw[Nat.shiftRight_eq_div_pow];exact Nat.lt_of_le_of_lt (Nat.div_le_self _ _) ha) (by omega)]
 rw[Nat.testBit,Nat.and_comm,Nat.one_and_eq_mod_two];rcases Nat.mod_two_eq_zero_or_one (a>>>k)with h|h<;>rw[h]<;>rfl
theorem mE (s:ByteArray) (i:Int):sIx s i=ix (ofS s) i:=by
 unfold sIx ix ofS;cases decide (0<=i)with
 |false=>rfl
 | true =>
  simp only[cT];rw[List.getElem?_map,Array.getElem?_toList];have:s[i.toNat]? =s.data[i.toNat]? :=rfl;rw[this];cases s.data[i.toNat]? <;>rfl
theorem aE (s:ByteArray):(ofS s).length=s.size:=by unfold ofS;rw[List.length_map,Array.length_toList];rfl
theorem xH (s:ByteArray):∀c∈ofS s,0<=c/\c<=255:=λc hc=>by
 obtain⟨b,_,rfl⟩:=List.mem_map.1 hc;have:=b.toNat_lt;omega
theorem br {a b:Nat} (h:a<b):decide ((a:Int)<(b:Int))=true:=dT (by omega)
theorem aU {a b:Nat} (h:¬a<b):decide ((a:Int)<(b:Int))=false:=dF (by omega)
theorem bu {i:Nat} (h:i<4294967296):wr ((i:Int)+1)=((i+1:Nat):Int):=by
 have:=ai (x:=(i:Int)+1) (by omega);rw[this];omega
theorem aJ {α:Type} {xs:List α} {k:Nat} {x:α} (h:xs[k]? =some x):ix xs (k:Int)=some x:=ix_nat.trans h
theorem wj {α β:Type} {f:β->α->β} {b:β} {xs:List α} {i:Nat} {x:α} (h:xs[i]? =some x):(xs.take (i+1)).foldl f b=f ((xs.take i).foldl f b) x:=by
 obtain⟨hlt,rfl⟩:=gI.1 h;rw[List.take_succ_eq_append_getElem hlt,List.foldl_append];rfl
theorem eQ {α:Type} {xs:List α}:xs.take xs.length=xs:=List.take_of_length_le (Nat.le_refl _)
theorem bj {α:Type} {xs:List α}:xs.drop xs.length=[]:=List.drop_eq_nil_of_le (Nat.le_refl _)
theorem aS {α:Type} {xs:List α} {i:Nat} (h:i<xs.length):∃x,xs[i]? =some x/\x∈xs:=⟨xs[i],gE h,gM h⟩
theorem aN {α:Type} {xs:List α} {i:Nat} {x:α} (h:xs[i]? =some x):xs.drop i=x::xs.drop (i+1):=by
 obtain⟨hlt,rfl⟩:=gI.1 h;exact List.drop_eq_getElem_cons hlt
theorem ga {α:Type} {xs:List α} {i:Nat} {x:α} (h:xs[i]? =some x):xs.take (i+1)=xs.take i++[x]:=by
 obtain⟨hlt,rfl⟩:=gI.1 h;exact List.take_succ_eq_append_getElem hlt
theorem dU {α:Type} {xs:List α} (h:xs.length<=4294967296):lim xs=some xs:=by
 unfold lim;rw[Nat.ble_eq_true_of_le h];rfl
def fv (f:Tm->Tm->Int):List Tm->List Tm->Int
 |[],[]=>0
 |[],_::_=> -1
 |_::_,[]=>1
 |x::xs,y::ys=>if f x y=0 then fv f xs ys else f x y
def bZ (a b:Int):Int:=if a=b then 0 else if a<b then -1 else 1
def cD (a b:ByteArray):Int:=if a=b then 0 else if Abs.strLt a b then -1 else 1
def lw (f:List Tm->List Tm->Int) (a b:Tm):Int:=if bZ a.op b.op=0 then (if cD a.name b.name=0 then (if bZ a.sort b.sort=0 then f a.args b.args else bZ a.sort b.sort)else cD a.name b.name)else bZ a.op b.op
def Cd :Nat->Tm->Tm->Int
 |0,_,_=>0
 |k+1,a,b=>lw (fv (Cd k)) a b
def bW (a b:Tm):Int:=Cd (a.total+1) a b
theorem jN {f g:Tm->Tm->Int}:∀{xs ys:List Tm},(∀x∈xs,∀y,f x y=g x y)->fv f xs ys=fv g xs ys
 |[],[],_=>rfl
 |[],_::_,_=>rfl
 |_::_,[],_=>rfl
 | x :: xs, y :: ys, h => by
  unfold fv;rw[h x (by simp) y,jN λz hz=>h z (by simp[hz])]
theorem mT {f g:List Tm->List Tm->Int} {a b:Tm} (h:f a.args b.args=g a.args b.args):lw f a b=lw g a b:=by unfold lw;rw[h]
theorem al {x t:Tm} (h:x∈t.args):x.total<t.total:=by
 have:=gG h;have:=aC t;omega
theorem vB :∀(k j:Nat) (a b:Tm),a.total<k->a.total<j->Cd k a b=Cd j a b
 |0,_,_,_,h,_=>absurd h (Nat.not_lt_zero _)
 |_+1,0,_,_,_,h=>absurd h (Nat.not_lt_zero _)
 |k+1,j+1,a,b,h1,h2=>mT (jN λx hx y=>vB k j x y (by have:=al hx;omega) (by have:=al hx;omega))
theorem jc (a b:Tm):bW a b=lw (fv bW) a b:=mT (jN λx hx y=>vB _ _ x y (al hx) (Nat.lt_succ_self _))
theorem oF (a:Int):bZ a a=0:=if_pos rfl
theorem wz (a:ByteArray):cD a a=0:=if_pos rfl
theorem pC {f:Tm->Tm->Int}:∀{xs:List Tm},(∀x∈xs,f x x=0)->fv f xs xs=0
 |[],_=>rfl
 | x :: xs, h => by
  unfold fv;rw[if_pos (h x (by simp))];exact pC λy hy=>h y (by simp[hy])
theorem kU :∀(k:Nat) (a:Tm),a.total<k->bW a a=0
 |0,_,h=>absurd h (Nat.not_lt_zero _)
 | k + 1, a, h => by
  rw[jc];unfold lw;rw[if_pos (oF _),if_pos (wz _),if_pos (oF _)];exact pC λx hx=>kU k x (by have:=al hx;omega)
theorem rt (a b:Int):bZ b a= -bZ a b:=by
 unfold bZ;by_cases h:a=b
 ·subst h;simp
 ·rw[if_neg h,if_neg (λe=>h e.symm)];by_cases h2:a<b
  ·rw[if_pos h2,if_neg (by omega)];rfl
  ·rw[if_neg h2,if_pos (by omega)]
theorem wg {a b:Int} (h:bZ a b=0):a=b:=by
 unfold bZ at h;by_cases e:a=b
 ·exact e
 ·rw[if_neg e]at h;split at h<;>cases h
theorem nb :∀(a b:List UInt8),a≠b->Op.bytesLess b a= !Op.bytesLess a b
 |[],[],h=>absurd rfl h
 |[],_::_,_=>rfl
 |_::_,[],_=>rfl
 | x :: xs, y :: ys, h => by
  unfold Op.bytesLess;by_cases e:x=y
  ·subst e;have h2:xs≠ys:=λe=>h (by rw[e]);simp[nb xs ys h2]
  ·have e':¬y=x:=λh=>e h.symm;have hne:x.toNat≠y.toNat:=λh=>e (UInt8.toNat_inj.1 h);simp only[beq_eq_false_iff_ne.2 e,beq_eq_false_iff_ne.2 e',Bool.false_and,Bool.or_false];by_cases hl:x<y
   ·have:¬y<x:=by rw[UInt8.lt_iff_toNat_lt]at hl ⊢;omega
    simp[hl,this]
   ·have:y<x:=by rw[UInt8.lt_iff_toNat_lt]at hl ⊢;omega
    simp[hl,this]
theorem g9 :∀(a b:List UInt8),Lib.compareBytes a b=if a=b then 0 else if Op.bytesLess a b then -1 else 1
 |[],[]=>rfl
 |[],_::_=>rfl
 |_::_,[]=>rfl
 | x :: xs, y :: ys => by
  unfold Lib.compareBytes Op.bytesLess;rw[g9 xs ys];by_cases e:x=y
  ·subst e;simp[UInt8.lt_irrefl]
  ·have hne:x.toNat≠y.toNat:=λh=>e (UInt8.toNat_inj.1 h);by_cases hl:x<y
   ·simp[hl,e]
   ·have:y<x:=by rw[UInt8.lt_iff_toNat_lt]at hl ⊢;omega
    simp[hl,this,e]
theorem kE (a b:ByteArray):Lib.compareBytes a.data.toList b.data.toList=cD a b:=by
 rw[g9,<-Abs.eu,<-Abs.eu];unfold cD Abs.strLt;by_cases h:a=b
 ·subst h;simp
 ·rw[if_neg h,if_neg (λe=>h (Abs.dG e))]
theorem yG (a b:ByteArray):cD b a= -cD a b:=by
 unfold cD;by_cases h:a=b
 ·subst h;simp
 ·rw[if_neg h,if_neg (λe=>h e.symm)];have:=nb a.toList b.toList λe=>h (Abs.dG e);unfold Abs.strLt;rw[this];cases Op.bytesLess a.toList b.toList<;>rfl
theorem B2 (a b:ByteArray): -1<=cD a b/\cD a b<=1:=by
 unfold cD;split
 ·decide
 ·split<;>decide
theorem sB {f:Tm->Tm->Int}:∀{xs ys:List Tm},(∀x∈xs,∀y,f y x= -f x y)->fv f ys xs= -fv f xs ys
 |[],[],_=>rfl
 |[],_::_,_=>rfl
 |_::_,[],_=>rfl
 | x :: xs, y :: ys, h => by
  unfold fv;rw[h x (by simp) y,sB (xs:=xs) (ys:=ys) λz hz=>h z (by simp[hz])];by_cases e:f x y=0
  ·rw[if_pos e,if_pos (by omega)]
  ·rw[if_neg e,if_neg (by omega)]
theorem rx :∀(k:Nat) (a b:Tm),a.total<k->bW b a= -bW a b
 |0,_,_,h=>absurd h (Nat.not_lt_zero _)
 | k + 1, a, b, h => by
  rw[jc,jc a b];unfold lw;rw[rt a.op b.op,yG a.name b.name,rt a.sort b.sort,sB λx hx y=>rx k x y (by have:=al hx;omega)];by_cases h1:bZ a.op b.op=0
  ·rw[if_pos h1,if_pos (by omega)];by_cases h2:cD   a.name b.name=0
   ·rw[if_pos h2,if_pos (by omega)];by_cases h3:bZ   a.sort b.sort=0
    ·rw[if_pos h3,if_pos (by omega)]
    ·rw[if_neg h3,if_neg (by omega)]
   ·rw[if_neg h2,if_neg (by omega)]
  ·rw[if_neg h1,if_neg (by omega)]
theorem z4y :EO (strings_Compare.ent λa b=>some (cD a b)):=λR xs H K r hc=>by
 simp only[strings_Compare.ent]at hc;split at hc
 ·rename_i a b;obtain⟨r,q1,q2⟩:=bind_some hc;cases q1;have hb:=B2      a b;refine⟨_,_,q2,kp           (u:=.int .i64 (cD   a b)) ⟨Tryz.f138,Tryz.func138,by kernel_rfl,by kernel_rfl⟩ (Abs.ia     (by omega) (by omega)) .i λρ avs hA _ w I ι cs hI hAr=> ?_⟩;obtain⟨hA1,hA2⟩:=hA
  match avs,hA1 with
  | [x, y], _ =>
   have ex:=hA2 0 (by simp) (by simp);have ey:=hA2 1 (by simp) (by simp);simp only[List.getElem_cons_zero,List.getElem_cons_succ]at ex ey;cases ex with
   |one ex=>
   cases ey with
   |one ey=>
   have ex:=ex.str_;subst ex;have ey:=ey.str_;subst ey;obtain⟨h1,h2⟩:=hAr;obtain⟨u,u1,u2⟩:=h2 0 (by simp);obtain⟨z,z1,z2⟩:=h2 1 (by simp);rcases cs with⟨l⟩
   match l,h1 with
   | [p, q], _ =>
    simp at u1 z1;subst u1;subst z1;cases u2 with
    |one u2=>
    cases u2 with
    |lit _=>
    cases z2 with
    |one z2=>
    cases z2 with
    |lit _=>
    refine(Tryz.strings_Compare a b w).mono λe w' ⟨k1,k2⟩=>⟨by rw[k1,kE],by subst k2;exact Below.refl _ _⟩
 ·cases hc
abbrev aK (k:Nat):Tm->Tm->Option Int:=λa b=>if a.total<k then some (bW a b)else none
abbrev qQ (k:Nat):List Tm->List Tm->Option Int:=λxs ys=>if ae xs<k then some (fv bW xs ys)else none
theorem vi {f:Tm->Tm->Int}:fv f [] []=0:=rfl
theorem u6 {f:Tm->Tm->Int} {y:Tm} {ys:List Tm}:fv f [] (y::ys)= -1:=rfl
theorem vE {f:Tm->Tm->Int} {x:Tm} {xs:List Tm}:fv f (x::xs) []=1:=rfl
theorem vN {f:Tm->Tm->Int} {x y:Tm} {xs ys:List Tm}:fv f (x::xs) (y::ys)=if f x y=0 then fv f xs ys else f x y:=rfl
section
variable {R : Type}
theorem wH (n k:Nat) (a1 a3 b1 b3:Int) (a2 b2:ByteArray) (xs ys:List Tm) (hx:∀x∈xs,x.total<k) (hxl:xs.length<4294967296) (K0:Int->Option R):∀m i,i<=xs.length->i<=ys.length->xs.length-i<m->
  z2m.l14 ⟨aK k⟩ n m a1 a2 a3 xs b1 b2 b3 ys (i:Int) K0 (bif decide ((xs.length:Int)<(ys.length:Int))then K0 (-1)else bif decide ((ys.length:Int)<(xs.length:Int))then K0 1 else K0 0)=K0 (fv bW (xs.drop i) (ys.drop i)):=by
 intro m
 induction m with
 |zero=>intro i _ _ hm;omega
 | succ m ih =>
  intro i h1 h2 hm;show z2m.b14 ⟨aK k⟩ n a1 a2 a3 xs b1 b2 b3 ys (i:Int) (λy0=>z2m.l14 ⟨aK k⟩ n m a1 a2 a3 xs b1 b2 b3 ys y0 K0 _) K0 _=_;unfold z2m.b14;by_cases hxi:i<xs.length
  ·obtain⟨x,x1,x2⟩:=aS     hxi;rw[br     hxi,cT,aN       x1];by_cases hyi:i<ys.length
   ·obtain⟨y,y1,_⟩:=aS     hyi;rw[br     hyi,cT,aJ     x1,bS,aJ     y1,bS,Tm.eta,Tm.eta,aN       y1,vN     ];show Option.bind (aK   k x y) _=_;unfold aK;rw[if_pos   (hx x x2),bS];by_cases e:bW   x y=0
    ·rw[dT e,Bool.not_true,cF,bu (by omega),if_pos e];exact ih (i+1) hxi hyi (by omega)
    ·rw[dF e,Bool.not_false,cT,if_neg e]
   ·obtain rfl:i=ys.length:=by omega
    rw[aU hyi,cF,aU (by omega),cF,br hxi,cT,bj,vE]
  ·obtain rfl:i=xs.length:=by omega
   rw[aU hxi,cF,bj];by_cases hyi:xs.length<ys.length
   ·obtain⟨y,y1,_⟩:=aS hyi;rw[br hyi,cT,aN y1,u6]
   ·have e:xs.length=ys.length:=by omega
    rw[aU hyi,cF,aU (by omega),cF,e,bj,vi]
theorem xX (n k:Nat) (xs ys:List Tm) (hx:∀x∈xs,x.total<k) (hxl:xs.length<4294967296) (K0:Int->Option R):∀m i,i<=xs.length->i<=ys.length->xs.length-i<m->
  z4p.l2 ⟨aK k⟩ n m xs ys xs (xs.length:Int) (i:Int) K0 (bif decide ((xs.length:Int)<(ys.length:Int))then K0 (-1)else K0 0)=K0 (fv bW (xs.drop i) (ys.drop i)):=by
 intro m
 induction m with
 |zero=>intro i _ _ hm;omega
 | succ m ih =>
  intro i h1 h2 hm;show z4p.b2 ⟨aK k⟩ n xs ys xs (xs.length:Int) (i:Int) (λy0=>z4p.l2 ⟨aK k⟩ n m xs ys xs (xs.length:Int) y0 K0 _) K0 _=_;unfold z4p.b2;by_cases hxi:i<xs.length
  ·obtain⟨x,x1,x2⟩:=aS     hxi;rw[br     hxi,cT,aN       x1,aJ     x1,bS];by_cases hyi:i<ys.length
   ·obtain⟨y,y1,_⟩:=aS     hyi;rw[dF (by omega),cF,aJ     y1,bS,Tm.eta,Tm.eta,aN       y1,vN     ];show Option.bind (aK   k x y) _=_;unfold aK;rw[if_pos   (hx x x2),bS];by_cases e:bW   x y=0
    ·rw[dT e,Bool.not_true,cF,bu (by omega),if_pos e];exact ih (i+1) hxi hyi (by omega)
    ·rw[dF e,Bool.not_false,cT,if_neg e]
   ·obtain rfl:i=ys.length:=by omega
    rw[dT (by omega),cT,bj,vE]
  ·obtain rfl:i=xs.length:=by omega
   rw[aU hxi,cF,bj];by_cases hyi:xs.length<ys.length
   ·obtain⟨y,y1,_⟩:=aS hyi;rw[br hyi,cT,aN y1,u6]
   ·have e:xs.length=ys.length:=by omega
    rw[aU hyi,cF,e,bj,vi]
end
theorem xP {R:Type} {a b:Tm} {v:Int} (K:Int->Option R) (z:Option R) (hz:z=K v):(bif !decide (a.op=b.op)then (bif decide (a.op<b.op)then K (-1)else K 1)else bif !sEq a.name b.name then (bif Abs.strLt a.name b.name then K (-1)else K 1)else bif !decide (a.sort=b.sort)then (bif decide (a.sort<b.sort)then K (-1)else K 1)else z)=K (lw (λ_ _=>v) a b):=by
 subst hz;unfold lw bZ cD;by_cases h1:a.op=b.op
 ·rw [decide_eq_true h1, if_pos h1, if_pos rfl, Bool.not_true, cond_false];by_cases h2:a.name=b.name
  ·rw[show sEq a.name b.name=true from dT h2,if_pos h2,if_pos rfl,Bool.not_true,cF];by_cases h3:a.sort=b.sort
   ·rw[dT h3,if_pos h3,if_pos rfl,Bool.not_true,cF]
   ·rw[dF h3,if_neg h3,Bool.not_false,cT];by_cases h4:a.sort<b.sort
    ·rw[dT h4,if_pos h4,cT,if_neg (by decide)]
    ·rw[dF h4,if_neg h4,cF,if_neg (by decide)]
  ·rw[show sEq a.name b.name=false from dF h2,if_neg h2,Bool.not_false,cT];cases Abs.strLt a.name b.name<;>rfl
 ·rw[dF h1,if_neg h1,Bool.not_false,cT];by_cases h4:a.op<b.op
  ·rw[dT h4,if_pos h4,cT,if_neg (by decide)]
  ·rw[dF h4,if_neg h4,cF,if_neg (by decide)]
theorem z2n :∀k,k<=4294967296->EO (z2m.ent (aK k))
 | 0, _ => fun R xs H K r h => by
  simp only[z2m.ent]at h;split at h
  ·simp[aK]at h
  ·cases h
 | k + 1, hk => z2m.ok            (G := ⟨aK k⟩) ⟨z2n               k (by omega), trivial⟩ fun a b r h => by
  unfold aK at h;split at h
  ·rename_i hs;cases h;refine⟨a.args.length+1,?_⟩;unfold z2m.main;have ht:=aC a;have hl:=aV a.args;have e:=wH (a.args.length+1) k a.op a.sort b.op b.sort a.name b.name a.args b.args (λx hx=>by have:=al hx;omega) (by omega) (λr0=>some (AT.one (.i r0),([]:List Ob))) (a.args.length+1) 0 (by omega) (by omega) (by omega);simp only[List.drop_zero]at e;refine(xP (a:=a) (b:=b) (v:=fv bW a.args b.args) (λr0=>some (AT.one (.i r0),([]:List Ob))) _ e).trans ?_;rw[jc];rfl
  ·cases h
theorem xj {a b:Tm} {v:Int}:(if (if bZ a.op b.op≠0 then bZ a.op b.op else if cD a.name b.name≠0 then cD a.name b.name else bZ a.sort b.sort)=0 then v else (if bZ a.op b.op≠0 then bZ a.op b.op else if cD a.name b.name≠0 then cD a.name b.name else bZ a.sort b.sort))=lw (λ_ _=>v) a b:=by
 unfold lw;by_cases h1:bZ a.op b.op=0
 ·by_cases h2:cD   a.name b.name=0
  ·simp[h1,h2]
  ·simp[h1,h2]
 ·simp[h1]
abbrev gOr :List Int->Option Int:=λl=>match l with
 |[a,b,c]=>some (if a≠0 then a else if b≠0 then b else c)
 |_=>none
theorem AS :EO (z02.ent gOr):=z02.ok (G:=⟨()⟩) trivial λ(l:List Int) r h=>by
 unfold gOr at h;split at h
 ·rename_i a b c;cases h;refine⟨4,?_⟩;have i0:ix [a,b,c] 0=some a:=rfl;have i1:ix [a,b,c] 1=some b:=rfl;have i2:ix [a,b,c] 2=some c:=rfl;have w1:wr (0+1)=1:=by decide
  have w2:wr (1+1)=2:=by decide
  have w3:wr (2+1)=3:=by decide
  have d0:decide ((0:Int)<3)=true:=rfl;have d1:decide ((1:Int)<3)=true:=rfl;have d2:decide ((2:Int)<3)=true:=rfl;have d3:decide ((3:Int)<3)=false:=rfl;have step:∀{R:Type} (m:Nat) (i:Int) (K:Int->Option R) (k1:Option R),z02.l3 ⟨()⟩ 4 (m+1) 0 [a,b,c] 3 i K k1=z02.b3 ⟨()⟩ 4 0 [a,b,c] 3 i (λy0=>z02.l3 ⟨()⟩ 4 m 0 [a,b,c] 3 y0 K k1) K k1:=λm i K k1=>rfl;unfold z02.main;show z02.l3 ⟨()⟩ 4 (3+1) 0 [a,b,c] 3 0 _ _=_;rw[step];unfold z02.b3;rw[d0,cT,i0,bS];by_cases ha:a=0
  ·rw [decide_eq_true ha, Bool.not_true, cond_false, w1, if_neg (fun h => h ha)];show z02.l3 ⟨()⟩ 4 (2+1) 0 [a,b,c] 3 1 _ _=_;rw[step];unfold z02.b3;rw[d1,cT,i1,bS];by_cases hb:b=0
   ·rw[dT hb,Bool.not_true,cF,w2,if_neg (λh=>h hb)];show z02.l3 ⟨()⟩ 4 (1+1) 0 [a,b,c] 3 2 _ _=_;rw[step];unfold z02.b3;rw[d2,cT,i2,bS];by_cases hc:c=0
    ·rw[dT hc,Bool.not_true,cF,w3];show z02.l3 ⟨()⟩ 4 (0+1) 0 [a,b,c] 3 3 _ _=_;rw[step];unfold z02.b3;rw[d3,cF,hc]
    ·rw[dF hc,Bool.not_false,cT]
   ·rw[dF hb,Bool.not_false,cT,if_pos hb]
  ·rw[dF ha,Bool.not_false,cT,if_pos ha]
 ·cases h
theorem Be :EO (z03.ent λ_=>some false):=z03.ok (G:=⟨()⟩) trivial λx r h=>⟨1,by
 cases h;unfold z03.main;rw[dT rfl];rfl⟩
theorem oq :EO (z01.ent λa b=>some (bZ a b)):=z01.ok (G:=⟨λ_=>some false⟩) ⟨Be,trivial⟩ λa b r h=>⟨1,by
 cases h;unfold z01.main;simp only[bS,cF];unfold bZ;by_cases h:a=b
 ·subst h;rw[dF (by omega),cF,cF,if_pos rfl]
 ·rw[if_neg h];by_cases h2:a<b
  ·rw[dT h2,cT,if_pos h2]
  ·rw[dF h2,cF,dT (by omega),cT,if_neg h2]⟩
abbrev Gf (k:Nat):z04.Gs:={z01:=λa b=>some (bZ a b),strings_Compare:=λa b=>some (cD a b),z02:=gOr,z4p:=qQ k}
theorem nh (k:Nat) (hk:k<4294967296) (e:EO (z04.ent (aK k))):EO (z4p.ent (qQ (k+1))):=z4p.ok (G:=⟨aK k⟩) ⟨e,trivial⟩ λ(xs:List Tm) (ys:List Tm) r h=>by
 unfold qQ at h;split at h
 ·rename_i hs;cases h;have hl:=aV xs;refine⟨xs.length+1,?_⟩;unfold z4p.main;have e:=xX (xs.length+1) k xs ys (λx hx=>by have:=gG hx;omega) (by omega) (λr0=>some (AT.one (.i r0),([]:List Ob))) (xs.length+1) 0 (by omega) (by omega) (by omega);simp only[List.drop_zero]at e;exact e
 ·cases h
theorem z05 :∀k,k<=4294967296->EO (z04.ent (aK k))
 | 0, _ => fun R xs H K r h => by
  simp only[z04.ent]at h;split at h
  ·simp[aK]at h
  ·cases h
 | k + 1, hk => z04.ok            (G := Gf    (k + 1)) ⟨oq           , z4y               , AS      , nh             k (by omega) (z05               k (by omega)), trivial⟩ fun a b r h => by
  unfold aK at h;split at h
  ·rename_i hs;cases h;have ht:=aC         a;refine⟨1,?_⟩;unfold z04.main;show (bif !decide ((if bZ   a.op b.op≠0 then bZ   a.op b.op else if cD   a.name b.name≠0 then cD   a.name b.name else bZ   a.sort b.sort)=0)then some (AT.one (.i (if bZ   a.op b.op≠0 then bZ   a.op b.op else if cD   a.name b.name≠0 then cD   a.name b.name else bZ   a.sort b.sort)),([]:List Ob))else Option.bind (qQ    (k+1) a.args b.args) λr9=>some (AT.one (.i r9),[]))=_;have e:=xj        (a:=a) (b:=b) (v:=fv   bW   a.args b.args);have e2:bW   a b=lw   (λ_ _=>fv   bW   a.args b.args) a b:=jc      a b;rw[e2,<-e];generalize (if bZ   a.op b.op≠0 then bZ   a.op b.op else if cD   a.name b.name≠0 then cD   a.name b.name else bZ   a.sort b.sort)=z;unfold qQ;rw[if_pos    (by omega),bS];by_cases hz:z=0
   ·rw[dT hz,Bool.not_true,cF,if_pos hz]
   ·rw[dF hz,Bool.not_false,cT,if_neg hz]
  ·cases h
def szK :Nat->Tm->Nat
 |0,_=>0
 |k+1,t=>1+wS (szK k) t.args
def tsz (t:Tm):Nat:=szK (t.total+1) t
theorem nM {A:Type} {f g:A->Nat}:∀{l:List A},(∀x∈l,f x=g x)->wS f l=wS g l
 |[],_=>rfl
 |x::l,h=>by rw[fG,fG,h x (by simp),nM λy hy=>h y (by simp[hy])]
theorem AW :∀(k j:Nat) (t:Tm),t.total<k->t.total<j->szK k t=szK j t
 |0,_,_,h,_=>absurd h (Nat.not_lt_zero _)
 |_+1,0,_,_,h=>absurd h (Nat.not_lt_zero _)
 |k+1,j+1,t,h1,h2=>congrArg (1+·) (nM λx hx=>AW k j x (by have:=al hx;omega) (by have:=al hx;omega))
theorem fk (t:Tm):tsz t=1+wS tsz t.args:=congrArg (1+·) (nM λx hx=>AW _ _ x (al hx) (Nat.lt_succ_self _))
def mxS (f:Tm->Nat) (l:List Tm):Nat:=l.foldr (λx n=>max (f x) n) 0
def dpK :Nat->Tm->Nat
 |0,_=>0
 |k+1,t=>mxS (dpK k) t.args+1
def tdp (t:Tm):Nat:=dpK (t.total+1) t
theorem gl {f:Tm->Nat} {x:Tm} {l:List Tm}:mxS f (x::l)=max (f x) (mxS f l):=rfl
theorem lh {f g:Tm->Nat}:∀{l:List Tm},(∀x∈l,f x=g x)->mxS f l=mxS g l
 |[],_=>rfl
 |x::l,h=>by rw[gl,gl,h x (by simp),lh λy hy=>h y (by simp[hy])]
theorem ym :∀(k j:Nat) (t:Tm),t.total<k->t.total<j->dpK k t=dpK j t
 |0,_,_,h,_=>absurd h (Nat.not_lt_zero _)
 |_+1,0,_,_,h=>absurd h (Nat.not_lt_zero _)
 |k+1,j+1,t,h1,h2=>congrArg (·+1) (lh λx hx=>ym k j x (by have:=al hx;omega) (by have:=al hx;omega))
theorem nT (t:Tm):tdp t=mxS tdp t.args+1:=congrArg (·+1) (lh λx hx=>ym _ _ x (al hx) (Nat.lt_succ_self _))
theorem Ab :∀(k:Nat) (t:Tm),t.total<k->tsz t<=t.total+1
 |0,_,h=>absurd h (Nat.not_lt_zero _)
 | k + 1, t, h => by
  rw[fk];have ht:=aC t;have:∀l:List Tm,(∀x∈l,tsz x<=x.total+1)->wS tsz l<=ae l:=λl=>by
   induction l with
   |nil=>intro _;exact Nat.le_refl _
   | cons x l ih =>
    intro hl;rw[fG,bP];have:=hl x (by simp);have:=ih λy hy=>hl y (by simp[hy]);omega
  have:=this t.args λx hx=>Ab k x (by have:=al hx;omega);omega
theorem Ba {f:Tm->Nat} {n:Nat}:∀{l:List Tm},(∀x∈l,f x<=n)->mxS f l<=n
 |[],_=>Nat.zero_le _
 |x::l,h=>by rw[gl];exact Nat.max_le.2 ⟨h x (by simp),Ba λy hy=>h y (by simp[hy])⟩
theorem ul :∀(k:Nat) (t:Tm),t.total<k->tdp t<=t.total+1
 |0,_,h=>absurd h (Nat.not_lt_zero _)
 | k + 1, t, h => by
  rw[nT];have:mxS tdp t.args<=t.total:=Ba λx hx=>by have:=al hx;have:=ul k x (by omega);omega
  omega
abbrev gSz (k:Nat):Tm->Option Int:=λt=>if t.total<k then some (tsz t:Int)else none
abbrev gDp (k:Nat):Tm->Option Int:=λt=>if t.total<k then some (tdp t:Int)else none
abbrev gCp (k:Nat):Tm->Option Tm:=λt=>if t.total<k then some t else none
abbrev iv (k:Nat):List Tm->Option (List Tm):=λl=>if ae l<k then some l else none
abbrev gLf (k:Nat):Tm->Int->Option Int:=λt left=>if t.total<k/\0<=left/\left<=60 then some (if (tsz t:Int)<=left then left-tsz t else -1)else none
section
variable {R : Type}
theorem zE (n k:Nat) (xs:List Tm) (hx:∀x∈xs,x.total<k) (k0:Int->Option R):∀m (i s:Nat),i<=xs.length->s+wS tsz (xs.drop i)<=8589934592->xs.length<4294967296->xs.length-i<m->
  z0h.l3 ⟨gSz k⟩ n m xs (xs.length:Int) (s:Int) (i:Int) k0=k0 ((s+wS tsz (xs.drop i):Nat):Int):=by
 intro m
 induction m with
 |zero=>intro i s _ _ _ hm;omega
 | succ m ih =>
  intro i s h1 h2 h3 hm;show z0h.b3 ⟨gSz k⟩ n xs (xs.length:Int) (s:Int) (i:Int) (λy0 y1=>z0h.l3 ⟨gSz k⟩ n m xs (xs.length:Int) y0 y1 k0) k0=_;unfold z0h.b3;by_cases hi:i<xs.length
  ·obtain⟨x,x1,x2⟩:=aS hi;rw[aN x1,fG]at h2 ⊢;rw[br hi,cT,aJ x1,bS,Tm.eta];show Option.bind (gSz k x) _=_;unfold gSz;rw[if_pos (hx x x2),bS,bu (by omega),ai (x:=(s:Int)+(tsz x:Int)) (by omega)];refine(ih (i+1) (s+tsz x) hi (by omega) h3 (by omega)).trans ?_;rw[Nat.add_assoc]
  ·obtain rfl:i=xs.length:=by omega
   rw[aU hi,cF,bj];rfl
theorem yo (n k:Nat) (xs:List Tm) (hx:∀x∈xs,x.total<k) (k0:Int->Option R):∀m (i s:Nat),i<=xs.length->xs.length<4294967296->xs.length-i<m->
  z06.l3 ⟨gDp k⟩ n m xs (xs.length:Int) (s:Int) (i:Int) k0=k0 ((max s (mxS tdp (xs.drop i)):Nat):Int):=by
 intro m
 induction m with
 |zero=>intro i s _ _ hm;omega
 | succ m ih =>
  intro i s h1 h3 hm;show z06.b3 ⟨gDp k⟩ n xs (xs.length:Int) (s:Int) (i:Int) (λy0 y1=>z06.l3 ⟨gDp k⟩ n m xs (xs.length:Int) y0 y1 k0) k0=_;unfold z06.b3;by_cases hi:i<xs.length
  ·obtain⟨x,x1,x2⟩:=aS     hi;rw[aN       x1,gl      ,br     hi,cT,aJ     x1,bS,Tm.eta];show Option.bind (gDp k x) _=_;unfold gDp;have e:mg   (s:Int) (tdp x:Int)=((max s (tdp x):Nat):Int):=by unfold mg;split<;>omega
   rw[if_pos (hx x x2),bS,bu (by omega),e];refine(ih (i+1) (max s (tdp x)) hi h3 (by omega)).trans ?_;rw[Nat.max_assoc]
  ·obtain rfl:i=xs.length:=by omega
   rw[aU hi,cF,bj,show mxS tdp []=0 from rfl,Nat.max_zero]
theorem yE (n k:Nat) (a1 a3:Int) (a2:ByteArray) (xs:List Tm) (hx:∀x∈xs,x.total<k) (k0:Int->Option R):∀m (i s:Nat),i<=xs.length->xs.length<4294967296->xs.length-i<m->
  z2o.l3 ⟨gDp k,λa b=>some (mg a b)⟩ n m a1 a2 a3 xs (s:Int) (i:Int) k0=k0 ((max s (mxS tdp (xs.drop i)):Nat):Int):=by
 intro m
 induction m with
 |zero=>intro i s _ _ hm;omega
 | succ m ih =>
  intro i s h1 h3 hm;show z2o.b3 ⟨gDp k,λa b=>some (mg a b)⟩ n a1 a2 a3 xs (s:Int) (i:Int) (λy0 y1=>z2o.l3 ⟨gDp k,λa b=>some (mg a b)⟩ n m a1 a2 a3 xs y0 y1 k0) k0=_;unfold z2o.b3;by_cases hi:i<xs.length
  ·obtain⟨x,x1,x2⟩:=aS     hi;rw[aN       x1,gl      ,br     hi,cT,aJ     x1,bS,Tm.eta];show Option.bind (gDp k x) _=_;unfold gDp;have e:mg   (s:Int) (tdp x:Int)=((max s (tdp x):Nat):Int):=by unfold mg;split<;>omega
   rw[if_pos (hx x x2),bS,bS,bu (by omega),e];refine(ih (i+1) (max s (tdp x)) hi h3 (by omega)).trans ?_;rw[Nat.max_assoc]
  ·obtain rfl:i=xs.length:=by omega
   rw[aU hi,cF,bj,show mxS tdp []=0 from rfl,Nat.max_zero]
theorem yh (n k:Nat) (a1 a3:Int) (a2:ByteArray) (xs:List Tm) (hx:∀x∈xs,x.total<k) (k0:Int->Option R):∀m (i:Nat) (L:Int),i<=xs.length->xs.length<4294967296-> -1<=L->L<=60->xs.length-i<m->
  z49.l3 ⟨gLf k⟩ n m a1 a2 a3 xs L (i:Int) k0=k0 (if (wS tsz (xs.drop i):Int)<=L then L-(wS tsz (xs.drop i):Int)else -1):=by
 intro m
 induction m with
 |zero=>intro i L _ _ _ _ hm;omega
 | succ m ih =>
  intro i L h1 h3 l0 l1 hm;show z49.b3 ⟨gLf k⟩ n a1 a2 a3 xs L (i:Int) (λy0 y1=>z49.l3 ⟨gLf k⟩ n m a1 a2 a3 xs y0 y1 k0) k0=_;unfold z49.b3;by_cases hi:i<xs.length
  ·obtain⟨x,x1,x2⟩:=aS     hi;have hs:1<=tsz x:=by rw[fk    ];omega
   rw[aN x1,fG,br hi,cT];by_cases hL:0<=L
   ·rw[dT hL,cT,aJ     x1,bS,Tm.eta];show Option.bind (gLf k x L) _=_;unfold gLf;rw[if_pos ⟨hx x x2,hL,l1⟩,bS,bu     (by omega)];by_cases hc:(tsz x:Int)<=L
    ·rw[if_pos hc];refine(ih (i+1) _ hi h3 (by omega) (by omega) (by omega)).trans ?_
     congr 1
     by_cases hd:(wS tsz (xs.drop (i+1)):Int)<=L-(tsz x:Int)
     ·rw[if_pos hd,if_pos (by omega)];omega
     ·rw[if_neg hd,if_neg (by omega)]
    ·rw[if_neg hc];refine(ih (i+1) _ hi h3 (by omega) (by omega) (by omega)).trans ?_;rw[if_neg (by omega),if_neg (by omega)]
   ·rw[dF hL,cF,if_neg (by omega)]
    congr 1
    omega
  ·obtain rfl:i=xs.length:=by omega
   rw[aU hi,cF,bj,show wS tsz []=0 from rfl]
   congr 1
   split<;>omega
end
theorem z0i :∀k,k<=4294967296->EO (z0h.ent (gSz k))
 | 0, _ => fun R xs H K r h => by
  simp only[z0h.ent]at h;split at h
  ·simp[gSz]at h
  ·cases h
 | k + 1, hk => z0h.ok          (G := ⟨gSz k⟩) ⟨z0i             k (by omega), trivial⟩ fun t r h => by
  unfold gSz at h;split at h
  ·rename_i hs;cases h;have ht:=aC t;have hl:=aV t.args;have hz:=Ab _ t (Nat.lt_succ_self _);rw[fk]at hz;refine⟨t.args.length+1,?_⟩;unfold z0h.main;have e:=zE (t.args.length+1) k t.args (λx hx=>by have:=al hx;omega) (λr0=>some (AT.one (.i r0),([]:List Ob))) (t.args.length+1) 0 1 (by omega) (by simp;omega) (by omega) (by omega);simp only[List.drop_zero]at e;rw[fk];exact e
  ·cases h
theorem z07 :∀k,k<=4294967296->EO (z06.ent (gDp k))
 | 0, _ => fun R xs H K r h => by
  simp only[z06.ent]at h;split at h
  ·simp[gDp]at h
  ·cases h
 | k + 1, hk => z06.ok           (G := ⟨gDp k⟩) ⟨z07              k (by omega), trivial⟩ fun t r h => by
  unfold gDp at h;split at h
  ·rename_i hs;cases h;have ht:=aC t;have hl:=aV t.args;have hz:=ul _ t (Nat.lt_succ_self _);refine⟨t.args.length+1,?_⟩;unfold z06.main;have e:=yo (t.args.length+1) k t.args (λx hx=>by have:=al hx;omega) (λr0=>some (AT.one (.i (wr (r0+1))),([]:List Ob))) (t.args.length+1) 0 0 (by omega) (by omega) (by omega);simp only[List.drop_zero,Nat.zero_max]at e;rw[nT]at hz ⊢;refine e.trans ?_;rw[ai (x:=((mxS tdp t.args:Nat):Int)+1) (by omega)];rfl
  ·cases h
theorem yD :EO (z39.ent λa b=>some (mg a b)):=z39.ok (G:=⟨()⟩) trivial λa b r h=>⟨1,by
 cases h;unfold z39.main mg;by_cases h:b<a
 ·rw[dT h,cT,if_neg (by omega)]
 ·rw[dF h,cF];by_cases h2:a<b
  ·rw[if_pos h2]
  ·obtain rfl:a=b:=by omega
   rw[if_neg h2]⟩
theorem z2p :∀k,k<=4294967296->EO (z2o.ent (gDp k))
 | 0, _ => fun R xs H K r h => by
  simp only[z2o.ent]at h;split at h
  ·simp[gDp]at h
  ·cases h
 | k + 1, hk => z2o.ok           (G := ⟨gDp k, fun a b => some (mg a b)⟩) ⟨z2p              k (by omega), yD, trivial⟩ fun t r h => by
  unfold gDp at h;split at h
  ·rename_i hs;cases h;have ht:=aC t;have hl:=aV t.args;have hz:=ul _ t (Nat.lt_succ_self _);refine⟨t.args.length+1,?_⟩;unfold z2o.main;have e:=yE (t.args.length+1) k t.op t.sort t.name t.args (λx hx=>by have:=al hx;omega) (λr0=>some (AT.one (.i (wr (r0+1))),([]:List Ob))) (t.args.length+1) 0 0 (by omega) (by omega) (by omega);simp only[List.drop_zero,Nat.zero_max]at e;rw[nT]at hz ⊢;refine e.trans ?_;rw[ai (x:=((mxS tdp t.args:Nat):Int)+1) (by omega)];rfl
  ·cases h
theorem o9 :∀k,k<=4294967296->EO (z49.ent (gLf k))
 | 0, _ => fun R xs H K r h => by
  simp only[z49.ent]at h;split at h
  ·simp[gLf]at h
  ·cases h
 | k + 1, hk => z49.ok      (G := ⟨gLf k⟩) ⟨o9        k (by omega), trivial⟩ fun t left r h => by
  unfold gLf at h;split at h
  ·rename_i hs;cases h;obtain⟨hs,l0,l1⟩:=hs;have ht:=aC         t;have hl:=aV      t.args;refine⟨t.args.length+1,?_⟩;unfold z49.main;have e:=yh       (t.args.length+1) k t.op t.sort t.name t.args (λx hx=>by have:=al        hx;omega) (λr0=>some (AT.one (.i r0),([]:List Ob))) (t.args.length+1) 0 (left-1) (by omega) (by omega) (by omega) (by omega) (by omega);simp only[List.drop_zero]at e;rw[ai    (x:=left-1) (by omega)];refine e.trans ?_;have e2:(if (wS tsz t.args:Int)<=left-1 then left-1-(wS tsz t.args:Int)else -1)=(if (tsz t:Int)<=left then left-(tsz t:Int)else -1):=by
    rw[fk];split<;>split<;>omega
   rw[e2]
  ·cases h
abbrev gSm (k:Nat):Tm->Option Bool:=λt=>if t.total<k then some (decide (tsz t<=60)&&decide (tdp t<=20))else none
theorem jU (k:Nat) (hk:k<=4294967296):EO (z4f.ent (gSm k)):=z4f.ok (G:=⟨gLf k,gDp k⟩) ⟨o9 k hk,z2p k hk,trivial⟩ λt r h=>by
 unfold gSm at h;split at h
 ·rename_i hs;cases h;refine⟨1,?_⟩;unfold z4f.main;rw[Tm.eta];show Option.bind (gLf k t 60) _=_;unfold gLf;rw[if_pos ⟨hs,by decide,by decide⟩,bS];by_cases hc:tsz t<=60
  ·rw[if_pos (by omega),dT (by omega),cT];show Option.bind (gDp k t) _=_;unfold gDp;rw[if_pos hs,bS,dT hc,Bool.true_and];rw[show decide ((tdp t:Int)<=20)=decide (tdp t<=20)from decide_eq_decide.2 (by omega)]
  ·rw[if_neg (by omega),dF (by omega),cF,dF hc,Bool.false_and]
 ·cases h
abbrev io (k:Nat):Tm->Tm->Option Bool:=λa b=>if a.total<k then some (decide (bW a b=0))else none
theorem lB (k:Nat) (hk:k<=4294967296):EO (z3y.ent (io k)):=z3y.ok (G:=⟨aK k⟩) ⟨z2n k hk,trivial⟩ λa b r h=>by
 unfold io at h;split at h
 ·rename_i hs;cases h;refine⟨1,?_⟩;unfold z3y.main;rw[Tm.eta,Tm.eta];show Option.bind (aK k a b) _=_;unfold aK;rw[if_pos hs,bS]
 ·cases h
section
variable {R : Type}
theorem qR (n k:Nat) (a1 a3 b1 b3 c1 c3:Int) (a2 b2 c2:ByteArray) (h2:List Tm) (xs:List Tm) (hx:∀x∈xs,x.total<k) (k0:List Tm->Option R):∀m (i:Nat),i<=xs.length->xs.length<4294967296->xs.length-i<m->
  z3u.l3 ⟨gCp k⟩ n m a1 a2 a3 xs b1 b2 b3 h2 c1 c2 c3 (i:Int) (xs.take i) k0=k0 xs:=by
 intro m
 induction m with
 |zero=>intro i _ _ hm;omega
 | succ m ih =>
  intro i h1 h3 hm;show z3u.b3 ⟨gCp k⟩ n a1 a2 a3 xs b1 b2 b3 h2 c1 c2 c3 (i:Int) (xs.take i) (λy0 y1=>z3u.l3 ⟨gCp k⟩ n m a1 a2 a3 xs b1 b2 b3 h2 c1 c2 c3 y0 y1 k0) k0=_;unfold z3u.b3;by_cases hi:i<xs.length
  ·obtain⟨x,x1,x2⟩:=aS hi;rw[br hi,cT,aJ x1,bS,Tm.eta];show Option.bind (gCp k x) _=_;unfold gCp;rw[if_pos (hx x x2),bS,Tm.eta,dU (by simp;omega),bS,bu (by omega),<-ga x1];exact ih (i+1) hi h3 (by omega)
  ·obtain rfl:i=xs.length:=by omega
   rw[aU hi,cF,eQ]
theorem oK (n k:Nat) (xs:List Tm) (hx:∀x∈xs,x.total<k) (k0:List Tm->Option R):∀m (i:Nat),i<=xs.length->xs.length<4294967296->xs.length-i<m->
  z3s.l3 ⟨gCp k⟩ n m xs (i:Int) (xs.take i) k0=k0 xs:=by
 intro m
 induction m with
 |zero=>intro i _ _ hm;omega
 | succ m ih =>
  intro i h1 h3 hm;show z3s.b3 ⟨gCp k⟩ n xs (i:Int) (xs.take i) (λy0 y1=>z3s.l3 ⟨gCp k⟩ n m xs y0 y1 k0) k0=_;unfold z3s.b3;by_cases hi:i<xs.length
  ·obtain⟨x,x1,x2⟩:=aS hi;rw[br hi,cT,aJ x1,bS,Tm.eta];show Option.bind (gCp k x) _=_;unfold gCp;rw[if_pos (hx x x2),bS,Tm.eta,dU (by simp;omega),bS,bu (by omega),<-ga x1];exact ih (i+1) hi h3 (by omega)
  ·obtain rfl:i=xs.length:=by omega
   rw[aU hi,cF,eQ]
end
theorem fZ :∀k,k<=4294967296->EO (z3u.ent (gCp k))
 | 0, _ => fun R xs H K r h => by
  simp only[z3u.ent]at h;split at h
  ·simp[gCp]at h
  ·cases h
 | k + 1, hk => z3u.ok      (G := ⟨gCp k⟩) ⟨fZ k (by omega), trivial⟩ fun t r h => by
  unfold gCp at h;split at h
  ·rename_i hs;cases h;have ht:=aC t;have hl:=aV t.args;refine⟨t.args.length+1,?_⟩;unfold z3u.main;exact qR (t.args.length+1) k _ _ _ _ _ _ _ _ _ _ t.args (λx hx=>by have:=al hx;omega) _ (t.args.length+1) 0 (by omega) (by omega) (by omega)
  ·cases h
theorem lW (k:Nat) (hk:k<=4294967296):EO (z3s.ent (iv k)):=z3s.ok (G:=⟨gCp k⟩) ⟨fZ k hk,trivial⟩ λ(l:List Tm) r h=>by
 unfold iv at h;split at h
 ·rename_i hs;cases h;have hl:=aV l;refine⟨l.length+1,?_⟩;unfold z3s.main;exact oK (l.length+1) k l (λx hx=>by have:=gG hx;omega) _ (l.length+1) 0 (by omega) (by omega) (by omega)
 ·cases h
end Go.Proofs.YtfdkldmkbibknaaGreat.Den

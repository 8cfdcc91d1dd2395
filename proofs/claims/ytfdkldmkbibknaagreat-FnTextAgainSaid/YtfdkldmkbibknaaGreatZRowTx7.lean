import Derived.Laws.Strings
import Derived.Test.YtfdkldmkbibknaaGreatZRowTx4
namespace Go.Proofs.YtfdkldmkbibknaaGreat.Abs
open Go.RowKit
section
variable [Zb]
omit [Zb]in
theorem eu (x:ByteArray):x.toList=x.data.toList:=ByteArray.toList_eq x
omit [Zb]in
theorem dG {a b:ByteArray} (h:a.toList=b.toList):a=b:=by
 rw[eu,eu]at h;cases a;cases b;simp only at h
 congr
 exact Array.toList_inj.1 h
def strLt (a b:ByteArray):Bool:=Op.bytesLess a.toList b.toList
def EL :BinOp->ByteArray->ByteArray->Bool
 | .eql,a,b=>decide (a=b)
 | .neq,a,b=> !decide (a=b)
 | .lss,a,b=>strLt a b
 | .leq,a,b=>strLt a b||decide (a=b)
 | .gtr,a,b=> !(strLt a b||decide (a=b))
 | .geq,a,b=> !strLt a b
 |_,_,_=>false
omit [Zb]in
theorem uB (a b:ByteArray):(a.toList==b.toList)=decide (a=b):=by
 rw[Bool.eq_iff_iff,beq_iff_eq,decide_eq_true_eq];exact⟨dG,λh=>by rw[h]⟩
omit [Zb]in
theorem i7 (k:IntKind) (n:Int):dM (.int k (k.wrap n)):=by
 show (Lit.int k (k.wrap n)).wf=true;cases k<;>simp[Lit.wf,IntKind.wrap,IntKind.min,IntKind.max,IntKind.signed,IntKind.bits]<;>(try split)<;>omega
section
variable {P : Program} {E : Cx} {K : Env → ag → Prop} {L : Env} {h : ag} {d : Nat} {ty : TypeId} {pos : String} {af : Array Edge} {gd : Option (Nat × Bool)} {tb : Tbl}
theorem eI {op:BinOp} {xt yt:TypeId} {x y:Operand} {a b:ByteArray} (ho:DV op=true) (hx:ev L x=some (.one (.lit (.string a)))) (hy:ev L y=some (.one (.lit (.string b)))) (hn:d<E.n)
  (hk:K ((d,.one (.lit (.bool (EL op a b))))::L) h):ar P ⟨some d,.binOp op xt x y yt,ty,pos,af,gd⟩ E K L h:=
 dC (c:=.bool (EL op a b)) hx hy (by simp) (λw=>by cases op<;>first|(cases ho;done)|(simp only[binOp,Op.stringOp,EL,strLt,uB];rfl)) (λ_ _=>trivial) hn hk
theorem wy {xt yt:TypeId} {x y:Operand} {a b:ByteArray} (hx:ev L x=some (.one (.lit (.string a)))) (hy:ev L y=some (.one (.lit (.string b)))) (hs:a.size+b.size<=1099511627776) (hn:d<E.n)
  (hk:K ((d,.one (.lit (.string (a++b))))::L) h):ar P ⟨some d,.binOp .add xt x y yt,ty,pos,af,gd⟩ E K L h:=
 dC (c:=.string (a++b)) hx hy (by simp) (λw=>by
  have:¬(((a.size+b.size:Nat):Int)>IntKind.i64.max):=by
   have:IntKind.i64.max=9223372036854775807:=by decide
   omega
  simp only[binOp,Op.stringOp,this,if_false];rfl) (λ_ _=>by
  show (a++b).size<=maxLen;unfold maxLen;rw[ByteArray.size_append];omega) hn hk
theorem ry (htb:bE P tb) {t:TypeId} {x y:Operand} {s:ByteArray} {k:IntKind} {i:Int} {b:UInt8} {ti:TyI} (hx:ev L x=some (.one (.lit (.string s)))) (hy:ev L y=some (.one (.lit (.int k i)))) (ht:tb.lookup t=some ti) (hi:ti.desc= .string)
  (h0:0<=i) (hg:s[i.toNat]? =some b) (hn:d<E.n) (hk:K ((d,.one (.lit (.int .u8 b.toNat)))::L) h):ar P ⟨some d,.index t x y,ty,pos,af,gd⟩ E K L h:=
 aF rfl hn (λ_ _ a w r=>by
  obtain⟨e1,_⟩:=(r.ev hx).lit;obtain⟨e2,_⟩:=(r.ev hy).lit;obtain⟨_,_,h2,_⟩:=aP (htb t ti ht);rw[hi]at h2;refine⟨.int .u8 b.toNat,?_,.one (.lit ?_)⟩
  ·simp[execOp,Instr.index,e1,e2,asIntOf,run_underlying h2,h0,hg]
  ·have:=b.toNat_lt;show (Lit.int .u8 b.toNat).wf=true;simp[Lit.wf,IntKind.min,IntKind.max,IntKind.signed,IntKind.bits];omega) hk
theorem rp (htb:bE P tb) {t:TypeId} {x:Operand} {low high:Option Operand} {lo hi:Nat} {s:ByteArray} {kl kh:IntKind} {ti:TyI} (hx:ev L x=some (.one (.lit (.string s)))) (ht:tb.lookup t=some ti) (hi':ti.desc= .string)
  (hlow:low=none/\lo=0\/∃y,low=some y/\ev L y=some (.one (.lit (.int kl lo)))) (hhigh:high=none/\hi=s.size\/∃y,high=some y/\ev L y=some (.one (.lit (.int kh hi)))) (h1:lo<=hi) (h2:hi<=s.size) (hn:d<E.n)
  (hk:K ((d,.one (.lit (.string (s.extract lo hi))))::L) h):ar P ⟨some d,.slice t x low high none,ty,pos,af,gd⟩ E K L h:=
 aF rfl hn (λι I a w r=>by
  obtain⟨e1,o1⟩:=(r.ev hx).lit;obtain⟨_,_,u1,_⟩:=aP (htb t ti ht);rw[hi']at u1;have hl:low.map a.eval=none/\lo=0\/low.map a.eval=some (.int kl lo):=by
   rcases hlow with⟨rfl,rfl⟩|⟨y,rfl,hy⟩
   ·exact .inl ⟨rfl,rfl⟩
   ·exact .inr (by simp[(r.ev hy).lit.1])
  have hh:high.map a.eval=none/\hi=s.size\/high.map a.eval=some (.int kh hi):=by
   rcases hhigh with⟨rfl,rfl⟩|⟨y,rfl,hy⟩
   ·exact .inl ⟨rfl,rfl⟩
   ·exact .inr (by simp[(r.ev hy).lit.1])
  have hb:=bg (P:=P) w (isS:=false) (len:=s.size) (cap:=s.size) hl hh h1 h2;have o1:s.size<=maxLen:=o1;refine⟨.string (s.extract lo hi),?_,.one (.lit ?_)⟩
  ·simp[execOp,Instr.sliceAt,Instr.slice,e1,run_underlying u1,hb]
  ·show (s.extract lo hi).size<=maxLen;rw[ByteArray.size_extract];omega) hk
def nR (op:BinOp) (k:IntKind) (a b:Int):Int:=match op with
 | .add=>k.wrap (a+b)
 | .sub=>k.wrap (a-b)
 |_=>k.wrap (a*b)
theorem ln {op:BinOp} {xt yt:TypeId} {x y:Operand} {k:IntKind} {a b:Int} (ho:(match op with| .add| .sub| .mul=>true|_=>false)=true) (hx:ev L x=some (.one (.lit (.int k a)))) (hy:ev L y=some (.one (.lit (.int k b)))) (hn:d<E.n)
  (hk:K ((d,.one (.lit (.int k (nR op k a b))))::L) h):ar P ⟨some d,.binOp op xt x y yt,ty,pos,af,gd⟩ E K L h:=
 dC hx hy (by simp) (λw=>by cases op<;>first|(cases ho;done)|(simp[binOp,Op.intArith,nR])) (λ_ _=>by cases op<;>first|(cases ho;done)|exact i7 _ _) hn hk
theorem kB {op:BinOp} {xt yt:TypeId} {x y:Operand} {k:IntKind} {a b:Int} (ho:(match op with| .and| .or| .xor| .andNot=>true|_=>false)=true) (hx:ev L x=some (.one (.lit (.int k a)))) (hy:ev L y=some (.one (.lit (.int k b)))) (hn:d<E.n)
  (hk:K ((d,.one (.lit (.int k (am op k a b))))::L) h):ar P ⟨some d,.binOp op xt x y yt,ty,pos,af,gd⟩ E K L h:=
 dC hx hy (by simp) (λw=>by cases op<;>first|(cases ho;done)|(simp[binOp,Op.intBits,am])) (λ_ _=>by cases op<;>first|(cases ho;done)|exact i7 _ _) hn hk
theorem Bq (htb:bE P tb) {src dst:TypeId} {x:Operand} {k k2:IntKind} {a:Int} {i j:TyI} (hx:ev L x=some (.one (.lit (.int k a)))) (hs:tb.lookup src=some i) (hd:tb.lookup dst=some j) (hj:j.desc= .int k2) (hn:d<E.n)
  (hk:K ((d,.one (.lit (.int k2 (k2.wrap a))))::L) h):ar P ⟨some d,.convert src dst x,ty,pos,af,gd⟩ E K L h:=
 aF rfl hn (λ_ _ act w r=>by
  obtain⟨e1,o1⟩:=(r.ev hx).lit;obtain⟨_,_,h2,_⟩:=aP (htb src i hs);obtain⟨_,_,g2,_⟩:=aP (htb dst j hd);rw[hj]at g2;refine⟨.int k2 (k2.wrap a),?_,.one (.lit (i7 _ _))⟩;simp[execOp,convert,run_underlying h2,run_underlying g2,e1,Conv.intToInt]) hk
theorem Fp {x y:Operand} {tys:Array TypeId} {k:IntKind} {a b:Int} (hx:ev L x=some (.one (.lit (.int k a)))) (hy:ev L y=some (.one (.lit (.int k b)))) (hn:d<E.n) (hk:K ((d,.one (.lit (.int k (if b<a then b else a))))::L) h):
  ar P ⟨some d,.call ⟨.builtin .min,#[x,y],tys⟩,ty,pos,af,gd⟩ E K L h:=
 aF rfl hn (λ_ _ act w r=>by
  obtain⟨e1,o1⟩:=(r.ev hx).lit;obtain⟨e2,o2⟩:=(r.ev hy).lit;refine⟨.int k (if b<a then b else a),?_,.one (.lit (by split<;>assumption))⟩;simp[execOp,resolve,invoke,builtin,Builtin.min_,Builtin.min2,e1,e2]) hk
theorem Fo {x y:Operand} {tys:Array TypeId} {k:IntKind} {a b:Int} (hx:ev L x=some (.one (.lit (.int k a)))) (hy:ev L y=some (.one (.lit (.int k b)))) (hn:d<E.n) (hk:K ((d,.one (.lit (.int k (if a<b then b else a))))::L) h):
  ar P ⟨some d,.call ⟨.builtin .max,#[x,y],tys⟩,ty,pos,af,gd⟩ E K L h:=
 aF rfl hn (λ_ _ act w r=>by
  obtain⟨e1,o1⟩:=(r.ev hx).lit;obtain⟨e2,o2⟩:=(r.ev hy).lit;refine⟨.int k (if a<b then b else a),?_,.one (.lit (by split<;>assumption))⟩;simp[execOp,resolve,invoke,builtin,Builtin.max_,Builtin.max2,e1,e2]) hk
theorem Dp {xt:TypeId} {x:Operand} {a:Int} (hx:ev L x=some (.one (.lit (.int .i64 a)))) (hn:d<E.n) (hk:K ((d,.one (.lit (.int .i64 (IntKind.i64.wrap (0-a)))))::L) h):ar P ⟨some d,.unOp .neg xt x,ty,pos,af,gd⟩ E K L h:=
 aF rfl hn (λ_ _ act w r=>by
  obtain⟨e1,o1⟩:=(r.ev hx).lit;refine⟨.int .i64 (IntKind.i64.wrap (0-a)),?_,.one (.lit (i7 _ _))⟩;simp only[execOp,e1,Op.unary,Op.intArith,Sem.run_bind,Sem.run_pure];rfl) hk
theorem Cr {xt:TypeId} {x:Operand} {k:IntKind} {a:Int} (hx:ev L x=some (.one (.lit (.int k a)))) (hn:d<E.n) (hk:K ((d,.one (.lit (.int k (k.wrap (0-a)))))::L) h):ar P ⟨some d,.unOp .neg xt x,ty,pos,af,gd⟩ E K L h:=
 aF rfl hn (λ_ _ act w r=>by
  obtain⟨e1,o1⟩:=(r.ev hx).lit;refine⟨.int k (k.wrap (0-a)),?_,.one (.lit (i7 _ _))⟩;simp only[execOp,e1,Op.unary,Op.intArith,Sem.run_bind,Sem.run_pure];rfl) hk
theorem Gv {xt yt:TypeId} {x y:Operand} {k k2:IntKind} {a b:Int} (hx:ev L x=some (.one (.lit (.int k a)))) (hy:ev L y=some (.one (.lit (.int k2 b)))) (hb:0<=b) (hn:d<E.n)
  (hk:K ((d,.one (.lit (.int k (am .shl k a b))))::L) h):ar P ⟨some d,.binOp .shl xt x y yt,ty,pos,af,gd⟩ E K L h:=
 dC     hx hy (by simp) (fun w => by have : ¬ b < 0 := by omega
                                     simp only[binOp,Op.shift,this,if_false];rfl) (λ_ _=>i7 _ _) hn hk
omit [Zb]in
theorem FK {n:Int} (h:dM (.int .u64 n)):0<=n/\n<=18446744073709551615:=by
 have h:(Lit.int .u64 n).wf=true:=h;simp[Lit.wf,IntKind.min,IntKind.max,IntKind.signed,IntKind.bits]at h;omega
omit [Zb]in
theorem E4 {n:Int} (h1:0<=n) (h2:n<=18446744073709551615):dM (.int .u64 n):=by
 show (Lit.int .u64 n).wf=true;simp[Lit.wf,IntKind.min,IntKind.max,IntKind.signed,IntKind.bits];omega
theorem vF {xt yt:TypeId} {x y:Operand} {k:IntKind} {a b:Int} (hx:ev L x=some (.one (.lit (.int .u64 a)))) (hy:ev L y=some (.one (.lit (.int k b)))) (hb:0<=b) (hn:d<E.n)
  (hk:K ((d,.one (.lit (.int .u64 (am .shr .u64 a b))))::L) h):ar P ⟨some d,.binOp .shr xt x y yt,ty,pos,af,gd⟩ E K L h:=
 dC     hx hy (by simp) (fun w => by have : ¬ b < 0 := by omega
                                     simp only[binOp,Op.shift,this,if_false];rfl) (λo1 _=>by
  have h1:=FK o1;have hp:(0:Int)<2^min b.toNat IntKind.u64.bits:=Int.pow_pos (by decide);have e:am .shr .u64 a b=a / 2^min b.toNat IntKind.u64.bits:=by
   show a.fdiv _=_;rw[Int.fdiv_eq_ediv_of_nonneg _ (Int.le_of_lt hp)]
  rw[e];exact E4 (Int.ediv_nonneg h1.1 (Int.le_of_lt hp)) (Int.le_trans (Int.ediv_le_self _ h1.1) h1.2)) hn hk
end
end
end Go.Proofs.YtfdkldmkbibknaaGreat.Abs

import Derived.Laws.Strings
import Derived.Test.YtigoabbppmdfpaaGreatZRowPE2
namespace Go.Proofs.YtigoabbppmdfpaaGreat.Abs
open Go.RowKit
theorem gL(x:Z):x.toList=x.data.toList:=ByteArray.toList_eq x
theorem dR{a b:Z}(h:a.toList=b.toList):a=b:=by
 rw[gL,gL]at h;cases a;cases b;simp only at h
 congr
 exact Array.toList_inj.1 h
def eu(a b:Z):Bool:=Op.bytesLess a.toList b.toList
def LV:BinOp->Z->Z->Bool
 | .eql,a,b=>decide (a=b)
 | .neq,a,b=> !decide (a=b)
 | .lss,a,b=>eu a b
 | .leq,a,b=>eu a b||decide (a=b)
 | .gtr,a,b=> !(eu a b||decide (a=b))
 | .geq,a,b=> !eu a b
 |_,_,_=>false
theorem AN(a b:Z):(a.toList==b.toList)=decide (a=b):=by
 rw[Bool.eq_iff_iff,beq_iff_eq,NO];exact⟨dR,λh=>by rw[h]⟩
theorem lk(k:IntKind)(n:Int):cq (.int k (k.wrap n)):=by
 show (Lit.int k (k.wrap n)).wf=true;cases k<;>simp[Lit.wf,IntKind.wrap,IntKind.min,IntKind.max,IntKind.signed,IntKind.bits]<;>(try split)<;>omega
section
variable {P : Program} {E : Cx} {K : Env → aD → Prop} {L : Env} {h : aD} {d : Nat} {ty : TypeId} {pos : String} {af : Array Edge} {gd : Y (Nat × Bool)} {tb : Tbl}
theorem gR{op:BinOp}{j t:TypeId}{x y:Operand}{a b:Z}(ho:K7 op=true)(hx:ev L x=some (.one (.lit (.string a))))(v:ev L y=some (.one (.lit (.string b))))(A:d<E.n)
  (hk:K ((d,.one (.lit (.bool (LV op a b))))::L) h):ar P ⟨some d,.binOp op j x y t,ty,pos,af,gd⟩ E K L h:=
 fB (c:=.bool (LV op a b)) hx v C3 (λw=>by cases op<;>first|(cases ho;done)|(simp only[binOp,Op.stringOp,LV,eu,AN];rfl)) (λ_ _=>trivial) A hk
theorem CK{j t:TypeId}{x y:Operand}{a b:Z}(hx:ev L x=some (.one (.lit (.string a))))(v:ev L y=some (.one (.lit (.string b))))(hs:a.size+b.size<=1099511627776)(A:d<E.n)
  (hk:K ((d,.one (.lit (.string (a++b))))::L) h):ar P ⟨some d,.binOp .add j x y t,ty,pos,af,gd⟩ E K L h:=
 fB (c:=.string (a++b)) hx v C3 (λw=>by
  have:¬(((a.size+b.size:Nat):Int)>IntKind.i64.max):=by
   have:IntKind.i64.max=9223372036854775807:=D2
   omega
  simp only[binOp,Op.stringOp,this,if_false];rfl) (λ_ _=>by
  show (a++b).size<=maxLen;unfold maxLen;rw[ByteArray.size_append];omega) A hk
theorem xC(j:cV P tb){t:TypeId}{x y:Operand}{s:Z}{k:IntKind}{i:Int}{b:UInt8}{v:TyI}(hx:ev L x=some (.one (.lit (.string s))))(A:ev L y=some (.one (.lit (.int k i))))(ht:tb.lookup t=some v)(hi:v.desc= .string)
  (h0:0<=i) (B:s[i.toNat]? =some b) (C:d<E.n) (hk:K ((d,.one (.lit (.int .u8 b.toNat)))::L) h):ar P ⟨some d,.index t x y,ty,pos,af,gd⟩ E K L h:=
 bE rfl C (λ_ _ a w r=>by
  obtain⟨D,_⟩:=(r.ev hx).lit;obtain⟨F,_⟩:=(r.ev A).lit;obtain⟨_,_,h2,_⟩:=bV (j t v ht);rw[hi]at h2;refine⟨.int .u8 b.toNat,?_,.one (.lit ?_)⟩
  .simp[execOp,Instr.index,D,F,asIntOf,run_underlying h2,h0,B]
  .have:=b.toNat_lt;show (Lit.int .u8 b.toNat).wf=true;simp[Lit.wf,IntKind.min,IntKind.max,IntKind.signed,IntKind.bits];omega) hk
theorem xu(A:cV P tb){t:TypeId}{x:Operand}{low bK:Y Operand}{lo hi:Nat}{s:Z}{kl kh:IntKind}{B:TyI}(hx:ev L x=some (.one (.lit (.string s))))(ht:tb.lookup t=some B)(C:B.desc= .string)
  (v:low=none/\lo=0\/∃y,low=some y/\ev L y=some (.one (.lit (.int kl lo)))) (j:bK=none/\hi=s.size\/∃y,bK=some y/\ev L y=some (.one (.lit (.int kh hi)))) (h1:lo<=hi) (h2:hi<=s.size) (G:d<E.n)
  (hk:K ((d,.one (.lit (.string (s.extract lo hi))))::L) h):ar P ⟨some d,.slice t x low bK none,ty,pos,af,gd⟩ E K L h:=
 bE rfl G (λι I a w r=>by
  obtain⟨H,F⟩:=(r.ev hx).lit;obtain⟨_,_,u1,_⟩:=bV (A t B ht);rw[C]at u1;have hl:low.map a.eval=none/\lo=0\/low.map a.eval=some (.int kl lo):=by
   rcases v with⟨rfl,rfl⟩|⟨y,rfl,D⟩
   .grind
   .exact .inr (by simp[(r.ev D).lit.1])
  have J:bK.map a.eval=none/\hi=s.size\/bK.map a.eval=some (.int kh hi):=by
   rcases j with⟨rfl,rfl⟩|⟨y,rfl,D⟩
   .grind
   .exact .inr (by simp[(r.ev D).lit.1])
  have hb:=cp (P:=P) w (isS:=false) (len:=s.size) (cap:=s.size) hl J h1 h2;have F:s.size<=maxLen:=F;refine⟨.string (s.extract lo hi),?_,.one (.lit ?_)⟩
  .simp[execOp,Instr.sliceAt,Instr.slice,H,run_underlying u1,hb]
  .show (s.extract lo hi).size<=maxLen;rw[ByteArray.size_extract];omega) hk
def rJ(op:BinOp)(k:IntKind)(a b:Int):Int:=match op with
 | .add=>k.wrap (a+b)
 | .sub=>k.wrap (a-b)
 |_=>k.wrap (a*b)
theorem pb{op:BinOp}{j t:TypeId}{x y:Operand}{k:IntKind}{a b:Int}(ho:(match op with| .add| .sub| .mul=>true|_=>false)=true)(hx:ev L x=some (.one (.lit (.int k a))))(v:ev L y=some (.one (.lit (.int k b))))(A:d<E.n)
  (hk:K ((d,.one (.lit (.int k (rJ op k a b))))::L) h):ar P ⟨some d,.binOp op j x y t,ty,pos,af,gd⟩ E K L h:=
 fB hx v C3 (λw=>by cases op<;>first|(cases ho;done)|(simp[binOp,Op.intArith,rJ])) (λ_ _=>by cases op<;>first|(cases ho;done)|exact lk _ _) A hk
theorem nr{op:BinOp}{j t:TypeId}{x y:Operand}{k:IntKind}{a b:Int}(ho:(match op with| .and| .or| .xor| .andNot=>true|_=>false)=true)(hx:ev L x=some (.one (.lit (.int k a))))(v:ev L y=some (.one (.lit (.int k b))))(A:d<E.n)
  (hk:K ((d,.one (.lit (.int k (bi op k a b))))::L) h):ar P ⟨some d,.binOp op j x y t,ty,pos,af,gd⟩ E K L h:=
 fB hx v C3 (λw=>Q3) (λ_ _=>by cases op<;>first|(cases ho;done)|exact lk _ _) A hk
theorem KI(v:cV P tb){t dst:TypeId}{x:Operand}{k y:IntKind}{a:Int}{i j:TyI}(hx:ev L x=some (.one (.lit (.int k a))))(hs:tb.lookup t=some i)(hd:tb.lookup dst=some j)(B:j.desc= .int y)(C:d<E.n)
  (hk:K ((d,.one (.lit (.int y (y.wrap a))))::L) h):ar P ⟨some d,.convert t dst x,ty,pos,af,gd⟩ E K L h:=
 bE rfl C (λ_ _ D w r=>by
  obtain⟨F,G⟩:=(r.ev hx).lit;obtain⟨_,_,h2,_⟩:=bV (v t i hs);obtain⟨_,_,A,_⟩:=bV (v dst j hd);rw[B]at A;refine⟨.int y (y.wrap a),?_,.one (.lit (lk _ _))⟩;simp[execOp,convert,run_underlying h2,run_underlying A,F,Conv.intToInt]) hk
theorem Ln{x y:Operand}{tys:Array TypeId}{k:IntKind}{a b:Int}(hx:ev L x=some (.one (.lit (.int k a))))(j:ev L y=some (.one (.lit (.int k b))))(t:d<E.n)(hk:K ((d,.one (.lit (.int k (if b<a then b else a))))::L) h):
  ar P ⟨some d,.call ⟨.builtin .min,#[x,y],tys⟩,ty,pos,af,gd⟩ E K L h:=
 bE rfl t (λ_ _ v w r=>by
  obtain⟨A,C⟩:=(r.ev hx).lit;obtain⟨B,D⟩:=(r.ev j).lit;refine⟨.int k (if b<a then b else a),?_,.one (.lit (by split<;>assumption))⟩;simp[execOp,resolve,invoke,builtin,Builtin.min_,Builtin.min2,A,B]) hk
theorem Nm{x y:Operand}{tys:Array TypeId}{k:IntKind}{a b:Int}(hx:ev L x=some (.one (.lit (.int k a))))(j:ev L y=some (.one (.lit (.int k b))))(t:d<E.n)(hk:K ((d,.one (.lit (.int k (if a<b then b else a))))::L) h):
  ar P ⟨some d,.call ⟨.builtin .max,#[x,y],tys⟩,ty,pos,af,gd⟩ E K L h:=
 bE rfl t (λ_ _ v w r=>by
  obtain⟨A,C⟩:=(r.ev hx).lit;obtain⟨B,D⟩:=(r.ev j).lit;refine⟨.int k (if a<b then b else a),?_,.one (.lit (by split<;>assumption))⟩;simp[execOp,resolve,invoke,builtin,Builtin.max_,Builtin.max2,A,B]) hk
theorem Jy{j:TypeId}{x:Operand}{a:Int}(hx:ev L x=some (.one (.lit (.int .i64 a))))(t:d<E.n)(hk:K ((d,.one (.lit (.int .i64 (IntKind.i64.wrap (0-a)))))::L) h):ar P ⟨some d,.unOp .neg j x,ty,pos,af,gd⟩ E K L h:=
 bE rfl t (λ_ _ v w r=>by
  obtain⟨y,A⟩:=(r.ev hx).lit;refine⟨.int .i64 (IntKind.i64.wrap (0-a)),?_,.one (.lit (lk _ _))⟩;simp only[execOp,y,Op.unary,Op.intArith,Sem.run_bind,Sem.run_pure];rfl) hk
theorem Jr{j:TypeId}{x:Operand}{k:IntKind}{a:Int}(hx:ev L x=some (.one (.lit (.int k a))))(t:d<E.n)(hk:K ((d,.one (.lit (.int k (k.wrap (0-a)))))::L) h):ar P ⟨some d,.unOp .neg j x,ty,pos,af,gd⟩ E K L h:=
 bE rfl t (λ_ _ v w r=>by
  obtain⟨y,A⟩:=(r.ev hx).lit;refine⟨.int k (k.wrap (0-a)),?_,.one (.lit (lk _ _))⟩;simp only[execOp,y,Op.unary,Op.intArith,Sem.run_bind,Sem.run_pure];rfl) hk
theorem NM{j t:TypeId}{x y:Operand}{k v:IntKind}{a b:Int}(hx:ev L x=some (.one (.lit (.int k a))))(A:ev L y=some (.one (.lit (.int v b))))(hb:0<=b)(B:d<E.n)
  (hk:K ((d,.one (.lit (.int k (bi .shl k a b))))::L) h):ar P ⟨some d,.binOp .shl j x y t,ty,pos,af,gd⟩ E K L h:=
 fB     hx A  (by simp) (fun w => by have:¬b<0:=by omega
                                     simp only[binOp,Op.shift,this,if_false];rfl) (λ_ _=>lk _ _) B hk
theorem Mu{n:Int}(h:cq (.int .u64 n)):0<=n/\n<=18446744073709551615:=by
 have h:(Lit.int .u64 n).wf=true:=h;exact R9
theorem Nc{n:Int}(h1:0<=n)(h2:n<=18446744073709551615):cq (.int .u64 n):=by
 show (Lit.int .u64 n).wf=true;exact Rc
theorem Cu{j t:TypeId}{x y:Operand}{k:IntKind}{a b:Int}(hx:ev L x=some (.one (.lit (.int .u64 a))))(v:ev L y=some (.one (.lit (.int k b))))(hb:0<=b)(A:d<E.n)
  (hk:K ((d,.one (.lit (.int .u64 (bi .shr .u64 a b))))::L) h):ar P ⟨some d,.binOp .shr j x y t,ty,pos,af,gd⟩ E K L h:=
 fB     hx v  (by simp) (fun w => by have:¬b<0:=by omega
                                     simp only[binOp,Op.shift,this,if_false];rfl) (λB _=>by
  have h1:=Mu B;have hp:(0:Int)<2^min b.toNat IntKind.u64.bits:=Int.pow_pos D2;have e:bi .shr .u64 a b=a / 2^min b.toNat IntKind.u64.bits:=by
   show a.fdiv _=_;rw[Ph _ (Pp hp)]
  rw[e];exact Nc (Int.ediv_nonneg h1.1 (Pp hp)) (Int.le_trans (Int.ediv_le_self _ h1.1) h1.2)) A hk
end
end Go.Proofs.YtigoabbppmdfpaaGreat.Abs

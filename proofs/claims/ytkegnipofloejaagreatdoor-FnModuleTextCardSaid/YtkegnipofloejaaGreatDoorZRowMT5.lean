import Derived.Test.YtkegnipofloejaaGreatDoorZRowMT2
namespace Go.Proofs.YtkegnipofloejaaGreatDoor.Abs
open Go.RowKit
theorem iM(x:Z):x.toList=x.data.toList:=ByteArray.toList_eq x
theorem eX{a b:Z}(h:a.toList=b.toList):a=b:=by
 rw[iM,iM]at h;cases a;cases b;simp only at h
 congr
 exact Array.toList_inj.1 h
def fk(a b:Z):Bool:=Op.bytesLess a.toList b.toList
def vD:BinOp->Z->Z->Bool
 | .eql,a,b=>decide (a=b)
 | .neq,a,b=> !decide (a=b)
 | .lss,a,b=>fk a b
 | .leq,a,b=>fk a b||decide (a=b)
 | .gtr,a,b=> !(fk a b||decide (a=b))
 | .geq,a,b=> !fk a b
 |_,_,_=>false
theorem zC(a b:Z):(a.toList==b.toList)=decide (a=b):=by
 rw[Bool.eq_iff_iff,beq_iff_eq,O8];exact⟨eX,λh=>by rw[h]⟩
theorem ml(k:IntKind)(n:Int):dM (.int k (k.wrap n)):=by
 show (Lit.int k (k.wrap n)).wf=true;cases k<;>simp[Lit.wf,IntKind.wrap,IntKind.min,IntKind.max,IntKind.signed,IntKind.bits]<;>(try split)<;>omega
section
variable {P : Program} {E : Cx} {K : Env → au → Prop} {L : Env} {h : au} {d : Nat} {ty : TypeId} {pos : String} {af : Array Edge} {gd : Y (Nat × Bool)} {tb : Tbl}
section
variable {op:BinOp}{j t:TypeId}{x y:Operand}{a b n:Int}{s:Z}{k:IntKind}{tys:Array TypeId}
theorem eZ{a b:Z}(ho:Lj op=true)(v:ev L x=some (.one (.lit (.string a))))(A:ev L y=some (.one (.lit (.string b))))(B:d<E.n)
  (hk:K ((d,.one (.lit (.bool (vD op a b))))::L) h):ar P ⟨some d,.binOp op j x y t,ty,pos,af,gd⟩ E K L h:=
 fB (c:=.bool (vD op a b)) v A A1 (λw=>by cases op<;>first|(cases ho;done)|(simp only[binOp,Op.stringOp,vD,fk,zC];rfl)) (λ_ _=>trivial) B hk
theorem D3{a b:Z}(v:ev L x=some (.one (.lit (.string a))))(A:ev L y=some (.one (.lit (.string b))))(hs:a.size+b.size<=1099511627776)(B:d<E.n)
  (hk:K ((d,.one (.lit (.string (a++b))))::L) h):ar P ⟨some d,.binOp .add j x y t,ty,pos,af,gd⟩ E K L h:=
 fB (c:=.string (a++b)) v A A1 (λw=>by
  have:¬(((a.size+b.size:Nat):Int)>IntKind.i64.max):=by
   have:IntKind.i64.max=9223372036854775807:=A3
   omega
  simp only[binOp,Op.stringOp,this,if_false];rfl) (λ_ _=>by
  show (a++b).size<=maxLen;unfold maxLen;rw[ByteArray.size_append];omega) B hk
theorem yR(j:cm P tb){i:Int}{b:UInt8}{v:TyI}(A:ev L x=some (.one (.lit (.string s))))(B:ev L y=some (.one (.lit (.int k i))))(C:tb.lookup t=some v)(hi:v.desc= .string)
  (h0:0<=i) (D:s[i.toNat]? =some b) (F:d<E.n) (hk:K ((d,.one (.lit (.int .u8 b.toNat)))::L) h):ar P ⟨some d,.index t x y,ty,pos,af,gd⟩ E K L h:=
 bO rfl F (λ_ _ a w r=>by
  obtain⟨e1,_⟩:=(r.ev A).lit;obtain⟨e2,_⟩:=(r.ev B).lit;obtain⟨_,_,h2,_⟩:=co (j t v C);rw[hi]at h2;refine⟨.int .u8 b.toNat,?_,.one (.lit ?_)⟩
  .simp[execOp,Instr.index,e1,e2,asIntOf,run_underlying h2,h0,D]
  .have:=b.toNat_lt;show (Lit.int .u8 b.toNat).wf=true;simp[Lit.wf,IntKind.min,IntKind.max,IntKind.signed,IntKind.bits];omega) hk
theorem yU(A:cm P tb){low cK:Y Operand}{lo hi:Nat}{kl kh:IntKind}{B:TyI}(G:ev L x=some (.one (.lit (.string s))))(H:tb.lookup t=some B)(C:B.desc= .string)
  (v:low=none/\lo=0\/∃y,low=some y/\ev L y=some (.one (.lit (.int kl lo)))) (j:cK=none/\hi=s.size\/∃y,cK=some y/\ev L y=some (.one (.lit (.int kh hi)))) (h1:lo<=hi) (h2:hi<=s.size) (J:d<E.n)
  (hk:K ((d,.one (.lit (.string (s.extract lo hi))))::L) h):ar P ⟨some d,.slice t x low cK none,ty,pos,af,gd⟩ E K L h:=
 bO rfl J (λι I a w r=>by
  obtain⟨e1,F⟩:=(r.ev G).lit;obtain⟨_,_,u1,_⟩:=co (A t B H);rw[C]at u1;have hl:low.map a.eval=none/\lo=0\/low.map a.eval=some (.int kl lo):=by
   rcases v with⟨rfl,rfl⟩|⟨y,rfl,D⟩
   .grind
   .exact .inr (by simp[(r.ev D).lit.1])
  have M:cK.map a.eval=none/\hi=s.size\/cK.map a.eval=some (.int kh hi):=by
   rcases j with⟨rfl,rfl⟩|⟨y,rfl,D⟩
   .grind
   .exact .inr (by simp[(r.ev D).lit.1])
  have N:=cE (P:=P) w (isS:=false) (len:=s.size) (cap:=s.size) hl M h1 h2;have F:s.size<=maxLen:=F;refine⟨.string (s.extract lo hi),?_,.one (.lit ?_)⟩
  .simp[execOp,Instr.sliceAt,Instr.slice,e1,run_underlying u1,N]
  .show (s.extract lo hi).size<=maxLen;rw[ByteArray.size_extract];omega) hk
def sp(op:BinOp)(k:IntKind)(a b:Int):Int:=match op with
 | .add=>k.wrap (a+b)
 | .sub=>k.wrap (a-b)
 |_=>k.wrap (a*b)
theorem qc(ho:(match op with| .add| .sub| .mul=>true|_=>false)=true)(v:ev L x=some (.one (.lit (.int k a))))(A:ev L y=some (.one (.lit (.int k b))))(B:d<E.n)
  (hk:K ((d,.one (.lit (.int k (sp op k a b))))::L) h):ar P ⟨some d,.binOp op j x y t,ty,pos,af,gd⟩ E K L h:=
 fB v A A1 (λw=>by cases op<;>first|(cases ho;done)|(simp[binOp,Op.intArith,sp])) (λ_ _=>by cases op<;>first|(cases ho;done)|exact ml _ _) B hk
theorem oe(ho:(match op with| .and| .or| .xor| .andNot=>true|_=>false)=true)(v:ev L x=some (.one (.lit (.int k a))))(A:ev L y=some (.one (.lit (.int k b))))(B:d<E.n)
  (hk:K ((d,.one (.lit (.int k (bz op k a b))))::L) h):ar P ⟨some d,.binOp op j x y t,ty,pos,af,gd⟩ E K L h:=
 fB v A A1 (λw=>QX) (λ_ _=>by cases op<;>first|(cases ho;done)|exact ml _ _) B hk
theorem IZ(v:cm P tb){dst:TypeId}{y:IntKind}{i j:TyI}(B:ev L x=some (.one (.lit (.int k a))))(hs:tb.lookup t=some i)(hd:tb.lookup dst=some j)(C:j.desc= .int y)(D:d<E.n)
  (hk:K ((d,.one (.lit (.int y (y.wrap a))))::L) h):ar P ⟨some d,.convert t dst x,ty,pos,af,gd⟩ E K L h:=
 bO rfl D (λ_ _ F w r=>by
  obtain⟨e1,G⟩:=(r.ev B).lit;obtain⟨_,_,h2,_⟩:=co (v t i hs);obtain⟨_,_,A,_⟩:=co (v dst j hd);rw[C]at A;refine⟨.int y (y.wrap a),?_,.one (.lit (ml _ _))⟩;simp[execOp,convert,run_underlying h2,run_underlying A,e1,Conv.intToInt]) hk
theorem Mt(j:ev L x=some (.one (.lit (.int k a))))(t:ev L y=some (.one (.lit (.int k b))))(v:d<E.n)(hk:K ((d,.one (.lit (.int k (if b<a then b else a))))::L) h):
  ar P ⟨some d,.call ⟨.builtin .min,#[x,y],tys⟩,ty,pos,af,gd⟩ E K L h:=
 bO rfl v (λ_ _ A w r=>by
  obtain⟨e1,B⟩:=(r.ev j).lit;obtain⟨e2,C⟩:=(r.ev t).lit;refine⟨.int k (if b<a then b else a),?_,.one (.lit (by split<;>assumption))⟩;simp[execOp,resolve,invoke,builtin,Builtin.min_,Builtin.min2,e1,e2]) hk
theorem MW(j:ev L x=some (.one (.lit (.int k a))))(t:ev L y=some (.one (.lit (.int k b))))(v:d<E.n)(hk:K ((d,.one (.lit (.int k (if a<b then b else a))))::L) h):
  ar P ⟨some d,.call ⟨.builtin .max,#[x,y],tys⟩,ty,pos,af,gd⟩ E K L h:=
 bO rfl v (λ_ _ A w r=>by
  obtain⟨e1,B⟩:=(r.ev j).lit;obtain⟨e2,C⟩:=(r.ev t).lit;refine⟨.int k (if a<b then b else a),?_,.one (.lit (by split<;>assumption))⟩;simp[execOp,resolve,invoke,builtin,Builtin.max_,Builtin.max2,e1,e2]) hk
theorem Ky(t:ev L x=some (.one (.lit (.int .i64 a))))(v:d<E.n)(hk:K ((d,.one (.lit (.int .i64 (IntKind.i64.wrap (0-a)))))::L) h):ar P ⟨some d,.unOp .neg j x,ty,pos,af,gd⟩ E K L h:=
 bO rfl v (λ_ _ y w r=>by
  obtain⟨e1,A⟩:=(r.ev t).lit;refine⟨.int .i64 (IntKind.i64.wrap (0-a)),?_,.one (.lit (ml _ _))⟩;simp only[execOp,e1,Op.unary,Op.intArith,Sem.run_bind,Sem.run_pure];rfl) hk
theorem Ke(t:ev L x=some (.one (.lit (.int k a))))(v:d<E.n)(hk:K ((d,.one (.lit (.int k (k.wrap (0-a)))))::L) h):ar P ⟨some d,.unOp .neg j x,ty,pos,af,gd⟩ E K L h:=
 bO rfl v (λ_ _ y w r=>by
  obtain⟨e1,A⟩:=(r.ev t).lit;refine⟨.int k (k.wrap (0-a)),?_,.one (.lit (ml _ _))⟩;simp only[execOp,e1,Op.unary,Op.intArith,Sem.run_bind,Sem.run_pure];rfl) hk
theorem OH{j t:TypeId}{x y:Operand}{k v:IntKind}{a b:Int}(A:ev L x=some (.one (.lit (.int k a))))(B:ev L y=some (.one (.lit (.int v b))))(D:0<=b)(C:d<E.n)
  (hk:K ((d,.one (.lit (.int k (bz .shl k a b))))::L) h):ar P ⟨some d,.binOp .shl j x y t,ty,pos,af,gd⟩ E K L h:=
 fB     A  B  (by simp) (fun w => by have:¬b<0:=by omega
                                     simp only[binOp,Op.shift,this,if_false];rfl) (λ_ _=>ml _ _) C hk
theorem Nb(h:dM (.int .u64 n)):0<=n/\n<=18446744073709551615:=by
 have h:(Lit.int .u64 n).wf=true:=h;exact Ss
theorem LN(h1:0<=n)(h2:n<=18446744073709551615):dM (.int .u64 n):=by
 show (Lit.int .u64 n).wf=true;exact Sy
theorem B7{j t:TypeId}{x y:Operand}{k:IntKind}{a b:Int}(v:ev L x=some (.one (.lit (.int .u64 a))))(A:ev L y=some (.one (.lit (.int k b))))(D:0<=b)(B:d<E.n)
  (hk:K ((d,.one (.lit (.int .u64 (bz .shr .u64 a b))))::L) h):ar P ⟨some d,.binOp .shr j x y t,ty,pos,af,gd⟩ E K L h:=
 fB     v  A  (by simp) (fun w => by have:¬b<0:=by omega
                                     simp only[binOp,Op.shift,this,if_false];rfl) (λC _=>by
  have h1:=Nb C;have hp:(0:Int)<2^min b.toNat IntKind.u64.bits:=Int.pow_pos A3;have e:bz .shr .u64 a b=a / 2^min b.toNat IntKind.u64.bits:=by
   show a.fdiv _=_;rw[Qs _ (Qa hp)]
  rw[e];exact LN (Int.ediv_nonneg h1.1 (Qa hp)) (Int.le_trans (Int.ediv_le_self _ h1.1) h1.2)) B hk
end
end
end Go.Proofs.YtkegnipofloejaaGreatDoor.Abs

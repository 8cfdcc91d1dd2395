/-
  Short names of some theorems of Lean's own.
-/
import Derived.Test.YtigoabbppmdfpaaGreatRows
namespace Go.Proofs.YtigoabbppmdfpaaGreat
theorem bS.{u, v} {α : Type u} {β : Type v} (a : α) (f : α → Option β) : (some a).bind f = f a := Option.bind_some a f
theorem gI.{u} {α : Type u} {i : Nat} {a : α} {l : List α} : l[i]? = some a ↔ ∃ h : i < l.length, l[i] = a := List.getElem?_eq_some_iff 
theorem dF {p : Prop} [Decidable p] (h : ¬p) : decide p = false := decide_eq_false h
theorem dT {p : Prop} [Decidable p] (h : p) : decide p = true := decide_eq_true h
theorem gE.{u} {α : Type u} {l : List α} {i : Nat} (h : i < l.length) : l[i]? = some l[i] := List.getElem?_eq_getElem h
theorem cF.{u} {α : Sort u} (a b : α) : (bif false then a else b) = b := cond_false a b
theorem cT.{u} {α : Sort u} (a b : α) : (bif true then a else b) = a := cond_true a b
theorem bA (a b : Bool) : ((a && b) = true) = (a = true ∧ b = true) := Bool.and_eq_true a b
theorem aT.{u} {α : Type u} {p : α → Bool} {l : List α} : l.all p = true ↔ ∀ x ∈ l, p x = true := List.all_eq_true 
theorem sN.{u} {α : Type u} {l : List α} {i j : Nat} (h : i ≠ j) {a : α} : (l.set i a)[j]? = l[j]? := List.getElem?_set_ne h
theorem aL.{u} {α : Type u} {a b : List α} {i : Nat} (h : i < a.length) : (a ++ b)[i]? = a[i]? := List.getElem?_append_left h
theorem aR.{u} {α : Type u} {a b : List α} {i : Nat} (h : a.length ≤ i) : (a ++ b)[i]? = b[i - a.length]? := List.getElem?_append_right h
theorem gM.{u} {α : Type u} {l : List α} {n : Nat} (h : n < l.length) : l[n] ∈ l := List.getElem_mem h
theorem nB {n m : Nat} (h : n.beq m = true) : n = m := Nat.eq_of_beq_eq_true h
theorem gA.{u} {α : Type u} {xs : Array α} {i : Nat} (h : i < xs.size) : xs[i]? = some xs[i] := Array.getElem?_eq_getElem h
theorem nZ.{u} {α : Type u} {l : List α} (h : l.length = 0) : l = [] := List.eq_nil_of_length_eq_zero h
theorem sS.{u} {α : Type u} {l : List α} {i : Nat} {a : α} (h : i < l.length) : (l.set i a)[i]? = some a := List.getElem?_set_self h
theorem mG.{u} {α : Type u} {l : List α} {i : Nat} {a : α} (h : l[i]? = some a) : a ∈ l := List.mem_of_getElem? h
abbrev Y:=Option
abbrev Z:=ByteArray
abbrev N1:=@if_pos
abbrev N3:=@if_neg
abbrev N4:=@Nat.le_refl
abbrev N5:=@Bool.not_true
abbrev N6:=@Bool.true_and
abbrev N8:=@List.length_append
abbrev N9:=@Nat.zero_le
abbrev NN:=@List.drop_zero
abbrev NO:=@decide_eq_true_eq
abbrev NP:=@Nat.not_lt_zero
abbrev NQ:=@Option.some.injEq
abbrev NR:=@Bool.not_false
abbrev NS:=@Nat.le_trans
abbrev NT:=@List.lookup_cons
abbrev NU:=@List.length_cons
abbrev NV:=@Nat.lt_of_lt_of_le
abbrev NW:=@Nat.lt_succ_self
abbrev NX:=@Nat.le_of_ble_eq_true
abbrev NY:=@List.getElem_map
abbrev NZ:=@of_decide_eq_true
abbrev O0:=@List.length_take
abbrev O1:=@Array.getElem?_setIfInBounds
abbrev O2:=@List.getElem_append_right
abbrev O3:=@Option.map_eq_some_iff
abbrev O4:=@List.getElem_append_left
abbrev O5:=@List.getElem_cons_zero
abbrev O6:=@List.all_cons
abbrev O7:=@List.take_succ_eq_append_getElem
abbrev O8:=@Array.getElem?_setIfInBounds_ne
abbrev O9:=@Nat.add_mul
abbrev Oa:=@Int.toNat_zero
abbrev Oc:=@Nat.add_assoc
abbrev Oe:=@List.filter_append
abbrev Of:=@List.filter_congr
abbrev Og:=@List.filter_cons
abbrev Oh:=@Int.eq_ofNat_of_zero_le
abbrev Oi:=@List.flatMap_cons
abbrev Oj:=@List.drop_eq_nil_of_le
abbrev Ok:=@List.append_nil
abbrev Ol:=@List.length_map
abbrev Om:=@List.take_append_drop
abbrev On:=@Array.getD_eq_getD_getElem?
abbrev Oo:=@List.append_assoc
abbrev Oq:=@List.getElem?_map
abbrev Or:=@Int.toNat_natCast
abbrev Ot:=@List.map_cons
abbrev Ou:=@Nat.zero_add
abbrev Ov:=@List.append_of_mem
abbrev Ow:=@List.mem_cons_of_mem
abbrev Ox:=@List.length_drop
abbrev Oy:=@List.getElem_drop
abbrev Oz:=@List.mem_cons
abbrev OA:=@List.foldl_cons
abbrev OB:=@Nat.blt_eq
abbrev OC:=@Array.getElem?_append_left
abbrev OD:=@Nat.add_zero
abbrev OE:=@List.take_zero
abbrev OF:=@Bool.not_eq_true'
abbrev OG:=@Option.map_some
abbrev OH:=@List.sizeOf_lt_of_mem
abbrev OI:=@Eq.trans
abbrev OJ:=@Int.le_refl
abbrev OK:=@List.mem_of_mem_take
abbrev OL:=@List.nil_append
abbrev OM:=@Array.length_toList
abbrev ON:=@Nat.lt_or_ge
abbrev OO:=@List.take_of_length_le
abbrev OP:=@Array.getElem?_eq_none
abbrev OQ:=@List.take_length
abbrev OS:=@Array.getElem?_toList
abbrev OU:=@List.length_singleton
abbrev OV:=@List.mem_or_eq_of_mem_set
abbrev OW:=@List.getElem_zipWith
abbrev OX:=@List.mem_of_mem_drop
abbrev OY:=@List.map_append
abbrev OZ:=@Nat.mul_le_mul_right
abbrev P3:=@List.getElem_take
abbrev P4:=@List.flatten_cons
abbrev P5:=@List.getElem?_cons_succ
abbrev P6:=@List.getElem_of_mem
abbrev P7:=@Option.getD_some
abbrev P8:=@Nat.eq_zero_or_pos
abbrev P9:=@Nat.mul_comm
abbrev Pa:=@List.drop_length_add_append
abbrev Pb:=@List.mem_cons_self
abbrev Pc:=@Option.some.inj
abbrev Pd:=@Bool.or_eq_true
abbrev Pe:=@Array.getElem?_modify
abbrev Pf:=@List.length_nil
abbrev Pg:=@List.sum_cons
abbrev Ph:=@Int.fdiv_eq_ediv_of_nonneg
abbrev Pi:=@Nat.lt_irrefl
abbrev Pj:=@List.size_toArray
abbrev Pk:=@Array.toArray_toList
abbrev Pm:=@List.drop_eq_getElem_cons
abbrev Pn:=@List.cons_append
abbrev Po:=@Nat.sub_self
abbrev Pp:=@Int.le_of_lt
abbrev Pq:=@List.eq_of_mem_replicate
abbrev Ps:=@List.not_mem_nil
abbrev Pt:=@List.getElem?_cons_zero
abbrev Pu:=@List.pairwise_singleton
abbrev Pv:=@List.getElem?_drop
abbrev Pw:=@List.getElem_cons_succ
abbrev Px:=@List.drop_append_of_le_length
abbrev Py:=@List.set_append_right
abbrev Pz:=@List.take_length_add_append
abbrev PB:=@List.getElem?_of_mem
abbrev PD:=@Nat.div_lt_of_lt_mul
abbrev PE:=@Bool.false_or
abbrev PF:=@List.flatten_append
abbrev PG:=@List.length_set
abbrev PH:=@Nat.div_add_mod
abbrev PI:=@Classical.byContradiction
abbrev PJ:=@Bool.false_eq_true
abbrev PK:=@List.getElem?_take
abbrev PM:=@Nat.zero_mul
abbrev PN:=@List.getElem_range
abbrev PP:=@Nat.mod_lt
theorem A1{p:Prop}(h:p:=by omega):p:=h
theorem B0{p:Prop}(h:p:=by repeat with_reducible (first|exact Below.refl _ _|refine Below.setCell ?_ (by first|omega|(simp<;>omega)) _|refine Below.drew ?_|refine below_drewN ?_ _|refine Below.alloc ?_ (by first|omega|(simp<;>omega)) _|refine Below.trans ?_ (Below.mono (by assumption) (by first|omega|(simp<;>omega))))):p:=h
theorem B4{p:Prop}(h:p:=by first|omega|(simp<;>omega)):p:=h
theorem C3{p:Prop}(h:p:=by simp):p:=h
theorem D1{p:Prop}(h:p:=by repeat with_reducible (first|exact Unf.refl _|assumption|refine Unf.setCell ?_ _ _|refine Unf.drew ?_|refine Unf.drewN ?_ _|refine Unf.alloc ?_ _ _|refine Unf.trans ?_ (by assumption))):p:=h
theorem D2{p:Prop}(h:p:=by decide):p:=h
theorem D4{p:Prop}(h:p:=by simp only;omega):p:=h
theorem D5{p:Prop}(h:p:=by simp;omega):p:=h
theorem Df{p:Prop}(h:p:=by assumption):p:=h
theorem Dg{p:Prop}(h:p:=by have:=aK hx;omega):p:=h
theorem F1{p:Prop}(h:p:=by kernel_rfl):p:=h
theorem H0{p:Prop}(h:p:=by simp at h):p:=h
theorem H3{p:Prop}(h:p:=by cases e):p:=h
theorem Hd{p:Prop}(h:p:=by grind):p:=h
theorem Hl{p:Prop}(h:p:=by simpa using h1):p:=h
theorem Hm{p:Prop}(h:p:=by cases h):p:=h
theorem HA{p:Prop}(h:p:=by simpa using h2):p:=h
theorem HD{p:Prop}(h:p:=by rw[<-decide_not];exact decide_eq_decide.2 (by omega)):p:=h
theorem I1{p:Prop}(h:p:=by simp[results,Tryz.results21,go_sem,U,c1,c2,c3,c4,c5,c6,c7,c8]):p:=h
theorem I2{p:Prop}(h:p:=by simp[cA]):p:=h
theorem Ib{p:Prop}(h:p:=by rw[r.heap.len];simp):p:=h
theorem K0{p:Prop}(h:p:=by simp at h1;omega):p:=h
theorem L4{p:Prop}(h:p:=by rw[G];simpa using g):p:=h
theorem L5{p:Prop}(h:p:=by simp[d]):p:=h
theorem N0{p:Prop}(h:p:=by simpa using t):p:=h
theorem PQ{p:Prop}(h:p:=by have:=r.grown;omega):p:=h
theorem PR{p:Prop}(h:p:=by simp[r.heap.len]):p:=h
theorem PS{p:Prop}(h:p:=by simpa using hl):p:=h
theorem PT{p:Prop}(h:p:=by simp[O1];omega):p:=h
theorem PU{p:Prop}(h:p:=by simp at h2;omega):p:=h
theorem PV{p:Prop}(h:p:=by have:=h.1;simpa using this):p:=h
theorem PW{p:Prop}(h:p:=by rw[heap_alloc_old w _ (by have:=r.grown;omega)];exact r.frame b x y):p:=h
theorem PX{p:Prop}(h:p:=by unfold dl2 at h;split at h;exact .trans (by kernel_rfl) h;cases h):p:=h
theorem PY{p:Prop}(h:p:=by simp[h.1]):p:=h
theorem PZ{p:Prop}(h:p:=by simpa using w):p:=h
theorem Q0{p:Prop}(h:p:=by simp[results,Tryz.results7,go_sem,H,c1,c2,c3,c4,c5,c6,c7,c8]):p:=h
theorem Q1{p:Prop}(h:p:=by simpa using d):p:=h
theorem Q2{p:Prop}(h:p:=by cases h with|fl h=>cases h;rfl):p:=h
theorem Q3{p:Prop}(h:p:=by cases op<;>first|(cases ho;done)|(simp[binOp,Op.intBits,bi])):p:=h
theorem Q4{p:Prop}(h:p:=by simp at hx):p:=h
theorem Q5{p:Prop}(h:p:=by have:=aT.1 w.1 j y;subst e;simp at this):p:=h
theorem Q6{p:Prop}(h:p:=by have:=NX hb;have:=Nat.le_mul_of_pos_right len hpos;omega):p:=h
theorem Q7{p:Prop}(h:p:=by simp at h2;have:=h.1;omega):p:=h
theorem Q8{p:Prop}(h:p:=by rw[bD];show _+1+_<=_;omega):p:=h
theorem Q9{p:Prop}(h:p:=by simpa using hi):p:=h
theorem Qa{p:Prop}(h:p:=by simp[execOp,(r.ev hc).bool,hp,asBool,bind,Sem.bind,pure]):p:=h
theorem Qb{p:Prop}(h:p:=by simpa using a):p:=h
theorem Qc{p:Prop}(h:p:=by simpa using b):p:=h
theorem Qd{p:Prop}(h:p:=by rw[d,t,e];rfl):p:=h
theorem Qe{p:Prop}(h:p:=by simpa using v):p:=h
theorem Qf{p:Prop}(h:p:=by simp only[cA]at hb ⊢;omega):p:=h
theorem Qg{p:Prop}(h:p:=by rw[<-hp.len];assumption):p:=h
theorem Qh{p:Prop}(h:p:=by simpa using g1):p:=h
theorem Qi{p:Prop}(h:p:=by have J:=d.out;have C:=B.out;rw[J]at C;injection C):p:=h
theorem Qj{p:Prop}(h:p:=by simp[madeCells]):p:=h
theorem Qk{p:Prop}(h:p:=by rw[d,t,w,e];rfl):p:=h
theorem Ql{p:Prop}(h:p:=by rw[N3 (t j (by rw[e];simp[y]))]):p:=h
theorem Qm{p:Prop}(h:p:=by have:=HL.out b hb;omega):p:=h
theorem Qn{p:Prop}(h:p:=by simpa using l.lt):p:=h
theorem Qo{p:Prop}(h:p:=by simp[execOp,Instr.loadAt,Instr.sureAddr,hc,h1]):p:=h
theorem Qp{p:Prop}(h:p:=by simp[e]):p:=h
theorem Qq{p:Prop}(h:p:=by simp at d;omega):p:=h
theorem Qr{p:Prop}(h:p:=by rw[e];simp):p:=h
theorem Qs{p:Prop}(h:p:=by simp only[maxLen]at hx;omega):p:=h
theorem Qt{p:Prop}(h:p:=by subst e;rfl):p:=h
theorem Qu{p:Prop}(h:p:=by simpa using e):p:=h
theorem Qv{p:Prop}(h:p:=by simpa using k1):p:=h
theorem Qw{p:Prop}(h:p:=by rw[hi,e];exact J):p:=h
theorem Qx{p:Prop}(h:p:=by rw[World.size_alloc];omega):p:=h
theorem Qy{p:Prop}(h:p:=by intro e;injection e;omega):p:=h
theorem Qz{p:Prop}(h:p:=by show _+1<=_;omega):p:=h
theorem QA{p:Prop}(h:p:=by show _=_;kernel_rfl):p:=h
theorem QB{p:Prop}(h:p:=by rw[hk.heap _ t];exact D):p:=h
theorem QC{p:Prop}(h:p:=by simp[hp.len]):p:=h
theorem QD{p:Prop}(h:p:=by cases d;exact .dC (N9 _)):p:=h
theorem QE{p:Prop}(h:p:=by simp only[maxLen];omega):p:=h
theorem QF{p:Prop}(h:p:=by cases h;rfl):p:=h
theorem QG{p:Prop}(h:p:=by simp at A;omega):p:=h
theorem QH{p:Prop}(h:p:=by simp[cn,ho]):p:=h
theorem QI{p:Prop}(h:p:=by rw[N8,bm];omega):p:=h
theorem QJ{p:Prop}(h:p:=by rw[bm];exact hi):p:=h
theorem QK{p:Prop}(h:p:=by rw[<-h.sel];exact ht):p:=h
theorem QL{p:Prop}(h:p:=by rw[‹O.mode f=1›];rfl):p:=h
theorem QM{p:Prop}(h:p:=by simp[t]):p:=h
theorem QN{p:Prop}(h:p:=by rw[a,b];decide):p:=h
theorem QO{p:Prop}(h:p:=by simp at h1):p:=h
theorem QP{p:Prop}(h:p:=by rw[eE,O0];omega):p:=h
theorem QQ{p:Prop}(h:p:=by rw[ik];omega):p:=h
theorem QR{p:Prop}(h:p:=by simpa using hp):p:=h
theorem QS{p:Prop}(h:p:=by simpa using h):p:=h
theorem QT{p:Prop}(h:p:=by simpa using D):p:=h
theorem QU{p:Prop}(h:p:=by simpa using hk):p:=h
theorem QV{p:Prop}(h:p:=by simp at d):p:=h
theorem QW{p:Prop}(h:p:=by rw[fN];omega):p:=h
theorem QX{p:Prop}(h:p:=by simp[w]):p:=h
theorem QY{p:Prop}(h:p:=by rw[e]at d;have:=(lQ d).2 j t;simp only[bA,Pd,OF,bne_iff_ne,ne_eq]at this;obtain⟨⟨⟨⟨h1,h2⟩,y⟩,h4⟩,v⟩:=this;refine⟨h1,λhc=>h2.resolve_left (by rw[hc];decide),λa b=>y.resolve_left QN,λa b=>h4.resolve_left QN,λo ho hm=> ?_⟩;rw[ho]at v;simp at v;exact v hm):p:=h
theorem QZ{p:Prop}(h:p:=by obtain⟨v,H',e,q⟩:=Den.B5 (Den.AT×List Den.Ob) [.one (.i k)] [] (λv H'=>some (v,H')) _ (congrArg (λo:Y Z=>o.bind λr=>some (Den.AT.one (.s r),([]:List Den.Ob))) (show Den.Bn k=some _ from N1 ⟨h0,h1⟩));cases e;exact q):p:=h
theorem R0{p:Prop}(h:p:=by simp only[dt,bA]at d ⊢;refine⟨aT.2 λj t=> ?_,w d.2⟩;have:=aT.1 d.1 j t;simp only[bA]at this;exact this.1.1.1.1):p:=h
theorem R4{p:Prop}(h:p:=by simp only[NN,Nat.zero_max]at e;rw[Af]at d ⊢;refine e.trans ?_;rw[aH (x:=((mxS tdp t.ac:Nat):Int)+1) A1];rfl):p:=h
theorem R5{p:Prop}(h:p:=by rw[bj];show ByteArray.empty.size+ap r<4294967296;have:ByteArray.empty.size=0:=rfl;omega):p:=h
theorem R6{p:Prop}(h:p:=by exact⟨zs::es,j::es',by simpa [List.replicate_succ]using h1,.cons d h2,.cons t D⟩):p:=h
theorem R7{p:Prop}(h:p:=by have K:(λj=>if j=i then v else val j) j=val j:=N3 (t j A);rw[I,J,K];exact this):p:=h
theorem R8{p:Prop}(h:p:=by exact⟨y,m,d,λe=>H3,λT m xs e=>by cases e;exact s2 _ _ _ rfl,λT xss ho e=>H3⟩):p:=h
theorem R9{p:Prop}(h:p:=by simp[Lit.wf,IntKind.min,IntKind.max,IntKind.signed,IntKind.bits]at h;omega):p:=h
theorem Ra{p:Prop}(h:p:=by exact⟨_,a₁,w₁,⟨L1,h1,j,t,q,v⟩,.pass (x:=.inLoop c) rfl (λ_ _=>.inl C3) d⟩):p:=h
theorem Rb{p:Prop}(h:p:=by rw[hp]at hk;exact⟨_,hk,_,.one (.fl .k),Abs.Cu h1 k1 (NZ hp) j ⟨rfl,rfl⟩⟩):p:=h
theorem Rc{p:Prop}(h:p:=by simp[Lit.wf,IntKind.min,IntKind.max,IntKind.signed,IntKind.bits];omega):p:=h
theorem Rd{p:Prop}(h:p:=by unfold i8;rw[dT (A1:s.ah.length<=8),dT (A1:s.ak.length<=16),mH h4];rfl):p:=h
theorem Re{p:Prop}(h:p:=by obtain⟨Q,T,k1,A⟩:=cD hF hs hc;exact t.1 R E F B hF _ _ _ _ _ _ k1 A):p:=h
theorem Rf{p:Prop}(h:p:=by exact⟨_,hk,_,.one (.fl .b),Abs.gj (op:=.lss) rfl h1 k1 j ⟨rfl,rfl⟩⟩):p:=h
theorem Rg{p:Prop}(h:p:=by exact⟨_,hk,_,.one (.fl .b),Abs.gj (op:=.leq) rfl h1 k1 j ⟨rfl,rfl⟩⟩):p:=h
theorem Rh{p:Prop}(h:p:=by exact⟨_,hk,_,.one (.fl .b),Abs.gj (op:=.gtr) rfl h1 k1 j ⟨rfl,rfl⟩⟩):p:=h
theorem Ri{p:Prop}(h:p:=by exact⟨_,hk,_,.one (.fl .b),Abs.gj (op:=.geq) rfl h1 k1 j ⟨rfl,rfl⟩⟩):p:=h
theorem Rj{p:Prop}(h:p:=by exact⟨_,hk,_,.one (.fl .b),Abs.gj (op:=.eql) rfl h1 k1 j ⟨rfl,rfl⟩⟩):p:=h
theorem Rk{p:Prop}(h:p:=by exact⟨_,hk,_,.one (.fl .b),Abs.gj (op:=.neq) rfl h1 k1 j ⟨rfl,rfl⟩⟩):p:=h
theorem Rl{p:Prop}(h:p:=by obtain⟨cur,t,h1,_⟩:=this;exact(Array.getElem?_eq_some_iff.1 h1).1):p:=h
theorem Rm{p:Prop}(h:p:=by obtain⟨H,J,h1,_⟩:=this;exact(Array.getElem?_eq_some_iff.1 h1).1):p:=h
theorem Rn{p:Prop}(h:p:=by exact⟨_,_,h,fR d ⟨20,0,[],[],[2,3],[],[]⟩ nP Tryz.func20 j⟩):p:=h
theorem Ro{p:Prop}(h:p:=by have hx:=OH (gM h);simp only[D.mk.sizeOf_spec];omega):p:=h
theorem Rp{p:Prop}(h:p:=by exact .inr (.inr (.inr (.inl ⟨_,_,_,rfl,rfl⟩)))):p:=h
theorem Rq{p:Prop}(h:p:=by exact⟨v,0,Qw,t1,λT m xs e=>H3,λT xss ho e=>H3⟩):p:=h
theorem Rr{p:Prop}(h:p:=by have:=OH hx;simp only[Tm.mk.sizeOf_spec];omega):p:=h
theorem Rs{p:Prop}(h:p:=by exact⟨y,0,d,s1,λT m xs e=>H3,λT xss ho e=>H3⟩):p:=h
theorem Rt{p:Prop}(h:p:=by rw[(A1:(N-i).toNat=(N-(i+1)).toNat+1)];rfl):p:=h
theorem Ru{p:Prop}(h:p:=by rw[this];exact dz λj y=>by rw[N3 (t j y)]):p:=h
theorem Rv{p:Prop}(h:p:=by exact(Array.getElem?_eq_some_iff.1 h1).1):p:=h
theorem Rx{p:Prop}(h:p:=by exact .inr (.inr (.inl ⟨_,_,rfl,rfl⟩))):p:=h
theorem Ry{p:Prop}(h:p:=by obtain⟨_,_,e⟩:=d;cases e;exact push _):p:=h
theorem Rz{p:Prop}(h:p:=by exact⟨λe=>H3,λ_ _ _ e=>H3,eM.refl _⟩):p:=h
theorem RA{p:Prop}(h:p:=by exact⟨_,rfl,.inl rfl,Below.refl _ _⟩):p:=h
theorem RB{p:Prop}(h:p:=by rw[dF hi,cF,(A1:(N-i).toNat=0)];rfl):p:=h
theorem RC{p:Prop}(h:p:=by cases h1;cases h2;exact⟨_,rfl,rfl⟩):p:=h
theorem RD{p:Prop}(h:p:=by rename_i e;subst e;exact⟨_,a _,h⟩):p:=h
theorem RE{p:Prop}(h:p:=by rename_i e;subst e;exact⟨_,a,h⟩):p:=h
theorem RF{p:Prop}(h:p:=by cases hd;cases h;exact yf t y):p:=h
theorem RG{p:Prop}(h:p:=by cases hd;cases t;exact yf y A):p:=h
theorem RH{p:Prop}(h:p:=by exact⟨_,rfl,.l hp hl hs hr⟩):p:=h
theorem RI{p:Prop}(h:p:=by exact⟨_,rfl,.inl rfl,B0⟩):p:=h
theorem RJ{p:Prop}(h:p:=by intro i l _ _ _ hm;omega):p:=h
theorem RK{p:Prop}(h:p:=by have:=r.heap.len;omega):p:=h
theorem RL{p:Prop}(h:p:=by rw[dF hi,cF,bY hi];rfl):p:=h
theorem RM{p:Prop}(h:p:=by intro i _ _ hm;omega):p:=h
theorem RN{p:Prop}(h:p:=by intro k _ _ hm;omega):p:=h
theorem RO{p:Prop}(h:p:=by exact absurd h.1 C3):p:=h
theorem RP{p:Prop}(h:p:=by rw[bz hi,cF,bQ];rfl):p:=h
theorem RQ{p:Prop}(h:p:=by intro i _ hm;omega):p:=h
theorem RR{p:Prop}(h:p:=by simpa using this):p:=h
theorem RS{p:Prop}(h:p:=by exact .inl rfl):p:=h
theorem RT{p:Prop}(h:p:=by exact⟨rfl,rfl⟩):p:=h
theorem RU{p:Prop}(h:p:=by cases h;rfl):p:=h
abbrev RV:=List
end Go.Proofs.YtigoabbppmdfpaaGreat

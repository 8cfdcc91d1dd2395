/-
  Short names of some theorems of Lean's own.
-/
import Derived.Test.YtkegnipofloejaaGreatDoorRows
namespace Go.Proofs.YtkegnipofloejaaGreatDoor
theorem bS.{u, v} {α : Type u} {β : Type v} (a : α) (f : α → Option β) : (some a).bind f = f a := Option.bind_some a f
theorem gI.{u} {α : Type u} {i : Nat} {a : α} {l : List α} : l[i]? = some a ↔ ∃ h : i < l.length, l[i] = a := List.getElem?_eq_some_iff 
theorem dF {p : Prop} [Decidable p] (h : ¬p) : decide p = false := decide_eq_false h
theorem dT {p : Prop} [Decidable p] (h : p) : decide p = true := decide_eq_true h
theorem cF.{u} {α : Sort u} (a b : α) : (bif false then a else b) = b := cond_false a b
theorem cT.{u} {α : Sort u} (a b : α) : (bif true then a else b) = a := cond_true a b
theorem bA (a b : Bool) : ((a && b) = true) = (a = true ∧ b = true) := Bool.and_eq_true a b
theorem aT.{u} {α : Type u} {p : α → Bool} {l : List α} : l.all p = true ↔ ∀ x ∈ l, p x = true := List.all_eq_true 
theorem sN.{u} {α : Type u} {l : List α} {i j : Nat} (h : i ≠ j) {a : α} : (l.set i a)[j]? = l[j]? := List.getElem?_set_ne h
theorem aL.{u} {α : Type u} {a b : List α} {i : Nat} (h : i < a.length) : (a ++ b)[i]? = a[i]? := List.getElem?_append_left h
theorem aR.{u} {α : Type u} {a b : List α} {i : Nat} (h : a.length ≤ i) : (a ++ b)[i]? = b[i - a.length]? := List.getElem?_append_right h
theorem gM.{u} {α : Type u} {l : List α} {n : Nat} (h : n < l.length) : l[n] ∈ l := List.getElem_mem h
theorem nZ.{u} {α : Type u} {l : List α} (h : l.length = 0) : l = [] := List.eq_nil_of_length_eq_zero h
theorem sS.{u} {α : Type u} {l : List α} {i : Nat} {a : α} (h : i < l.length) : (l.set i a)[i]? = some a := List.getElem?_set_self h
theorem mG.{u} {α : Type u} {l : List α} {i : Nat} {a : α} (h : l[i]? = some a) : a ∈ l := List.mem_of_getElem? h
abbrev Y:=Option
abbrev Z:=ByteArray
abbrev mt:=@if_pos
abbrev O0:=@List.getElem?_eq_getElem
abbrev O1:=@Nat.le_of_ble_eq_true
abbrev O2:=@if_neg
abbrev O3:=@Nat.le_refl
abbrev O4:=@Bool.not_true
abbrev O5:=@List.append_assoc
abbrev O6:=@List.mem_of_mem_take
abbrev O7:=@Bool.true_and
abbrev O8:=@decide_eq_true_eq
abbrev O9:=@List.not_mem_nil
abbrev On:=@Array.getElem?_eq_getElem
abbrev OI:=@List.mem_cons
abbrev OJ:=@List.length_append
abbrev OK:=@List.lookup_cons
abbrev OL:=@Nat.eq_of_beq_eq_true
abbrev OM:=@Nat.not_lt_zero
abbrev ON:=@of_decide_eq_true
abbrev OO:=@List.append_nil
abbrev OP:=@List.length_cons
abbrev OQ:=@List.drop_zero
abbrev OS:=@Bool.not_false
abbrev OU:=@List.filter_append
abbrev OV:=@List.length_map
abbrev OW:=@Option.some.injEq
abbrev OX:=@Nat.lt_succ_self
abbrev OY:=@List.getElem_cons_zero
abbrev OZ:=@List.filter_congr
abbrev P0:=@List.getElem_append_left
abbrev P1:=@List.getElem_append_right
abbrev P2:=@List.filter_cons
abbrev P3:=@Nat.le_trans
abbrev P4:=@List.set_set
abbrev P5:=@List.getElem_map
abbrev P6:=@Nat.zero_le
abbrev P7:=@Int.toNat_natCast
abbrev P8:=@List.getElem?_map
abbrev P9:=@List.append_of_mem
abbrev Pa:=@Array.getD_eq_getD_getElem?
abbrev Pb:=@Option.map_eq_some_iff
abbrev Pc:=@Nat.lt_irrefl
abbrev Pd:=@List.length_take
abbrev Pe:=@List.all_cons
abbrev Pf:=@Option.some.inj
abbrev Pg:=@Option.map_some
abbrev Ph:=@List.cons_append
abbrev Pi:=@List.length_drop
abbrev Pj:=@Bool.not_eq_true'
abbrev Pk:=@Nat.add_assoc
abbrev Pm:=@List.nil_append
abbrev Pn:=@Nat.add_mul
abbrev Po:=@Int.eq_ofNat_of_zero_le
abbrev Pp:=@Nat.zero_add
abbrev Pq:=@Nat.lt_or_ge
abbrev Ps:=@Nat.blt_eq
abbrev Pt:=@List.drop_eq_nil_of_le
abbrev Pu:=@Array.getElem?_eq_none
abbrev Pv:=@List.take_of_length_le
abbrev Pw:=@List.getElem_of_mem
abbrev Px:=@List.getElem_drop
abbrev Py:=@List.flatMap_cons
abbrev Pz:=@List.map_cons
abbrev PB:=@List.take_append_drop
abbrev PD:=@Nat.lt_of_lt_of_le
abbrev PE:=@List.take_succ_eq_append_getElem
abbrev PF:=@Nat.add_zero
abbrev PG:=@List.getElem_cons_succ
abbrev PH:=@List.mem_or_eq_of_mem_set
abbrev PI:=@List.foldl_cons
abbrev PJ:=@List.map_append
abbrev PK:=@List.getElem?_mapIdx
abbrev PL:=@Array.length_toList
abbrev PM:=@Array.getElem?_append_left
abbrev PN:=@Option.getD_some
abbrev PP:=@List.length_singleton
abbrev PQ:=@Array.toArray_toList
abbrev PR:=@List.getElem_zipWith
abbrev PS:=@List.length_set
abbrev PT:=@List.mem_of_mem_drop
abbrev PU:=@List.eq_of_mem_replicate
abbrev PV:=@Eq.trans
abbrev PW:=@List.getElem_take
abbrev PX:=@List.flatten_cons
abbrev PY:=@Nat.add_sub_cancel_left
abbrev PZ:=@List.map_congr_left
abbrev Q0:=@List.take_length
abbrev Q1:=@Int.le_refl
abbrev Q2:=@List.drop_length_add_append
abbrev Q3:=@Bool.or_eq_true
abbrev Q4:=@List.eq_nil_or_concat
abbrev Q5:=@List.size_toArray
abbrev Q6:=@Classical.byContradiction
abbrev Q7:=@List.drop_eq_getElem_cons
abbrev Q8:=@List.getElem?_take_of_lt
abbrev Q9:=@Nat.sub_self
abbrev Qa:=@Int.le_of_lt
abbrev Qb:=@Array.getElem?_setIfInBounds_ne
abbrev Qc:=@Ne.symm
abbrev Qd:=@Nat.eq_zero_or_pos
abbrev Qe:=@List.getElem?_drop
abbrev Qf:=@List.all_append
abbrev Qg:=@List.length_pos_of_mem
abbrev Qh:=@List.drop_append_of_le_length
abbrev Qi:=@List.drop_drop
abbrev Qj:=@List.getElem?_eq_none
abbrev Qk:=@List.getElem?_reverse
abbrev Ql:=@Array.getElem?_toList
abbrev Qm:=@Array.getElem?_modify
abbrev Qn:=@List.take_length_add_append
abbrev Qo:=@List.getElem?_of_mem
abbrev Qp:=@Nat.mul_le_mul_right
abbrev Qq:=@List.ext_getElem
abbrev Qr:=@List.mem_cons_of_mem
abbrev Qs:=@Int.fdiv_eq_ediv_of_nonneg
abbrev Qt:=@Bool.and_true
abbrev Qu:=@List.flatten_append
abbrev Qv:=@List.takeWhile_cons
abbrev Qw:=@List.dropWhile_cons
abbrev Qx:=@List.getLast?_eq_getElem?
abbrev Qy:=@List.length_nil
abbrev Qz:=@Bool.false_eq_true
abbrev QA:=@List.filter_filter
abbrev QB:=@Nat.mul_comm
abbrev QC:=@Bool.and_false
theorem A0{p:Prop}(h:p:=by omega):p:=h
theorem A1{p:Prop}(h:p:=by simp):p:=h
theorem A3{p:Prop}(h:p:=by decide):p:=h
theorem A4{p:Prop}(h:p:=by simp;omega):p:=h
theorem D1{p:Prop}(h:p:=by kernel_rfl):p:=h
theorem D2{p:Prop}(h:p:=by simp only;omega):p:=h
theorem Dg{p:Prop}(h:p:=by first|rfl|assumption):p:=h
theorem E0{p:Prop}(h:p:=by cases e):p:=h
theorem F1{p:Prop}(h:p:=by simp at h):p:=h
theorem G1{p:Prop}(h:p:=by grind):p:=h
theorem H3{p:Prop}(h:p:=by have:=aM d;omega):p:=h
theorem Hd{p:Prop}(h:p:=by simpa using h1):p:=h
theorem Hm{p:Prop}(h:p:=by simpa using h2):p:=h
theorem HC{p:Prop}(h:p:=by cases h):p:=h
theorem HW{p:Prop}(h:p:=by have:=aT.1 w.1 j y;subst e;simp at this):p:=h
theorem I1{p:Prop}(h:p:=by simp[d]):p:=h
theorem I2{p:Prop}(h:p:=by simp at h1;omega):p:=h
theorem I3{p:Prop}(h:p:=by rw[r.heap.len];simp):p:=h
theorem Ib{p:Prop}(h:p:=by simp only[OP];omega):p:=h
theorem K0{p:Prop}(h:p:=by unfold dl2 at h;split at h;exact .trans (by kernel_rfl) h;cases h):p:=h
theorem L1{p:Prop}(h:p:=by rw[O2 (t j (by rw[e];simp[y]))]):p:=h
theorem QD{p:Prop}(h:p:=by simpa using t):p:=h
theorem QE{p:Prop}(h:p:=by simp[AV.fits,V.fits]):p:=h
theorem QF{p:Prop}(h:p:=by unfold bg;exact dF (by simp only[OP];omega)):p:=h
theorem QG{p:Prop}(h:p:=by simpa using hl):p:=h
theorem QH{p:Prop}(h:p:=by rw[G];simpa using g):p:=h
theorem QI{p:Prop}(h:p:=by have:=r.grown;omega):p:=h
theorem QJ{p:Prop}(h:p:=by rw[e];simp):p:=h
theorem QK{p:Prop}(h:p:=by simp[r.heap.len]):p:=h
theorem QL{p:Prop}(h:p:=by unfold dU;exact List.mem_filterMap.2 ⟨ed,by simpa using hed,by simp[hb]⟩):p:=h
theorem QM{p:Prop}(h:p:=by simp at h2;omega):p:=h
theorem QN{p:Prop}(h:p:=by simp[bn,ho]):p:=h
theorem QO{p:Prop}(h:p:=by simpa using d):p:=h
theorem QP{p:Prop}(h:p:=by unfold bg;exact dF (by simp only[OV,OP];omega)):p:=h
theorem QQ{p:Prop}(h:p:=by simp[h.1]):p:=h
theorem QR{p:Prop}(h:p:=by simp at d):p:=h
theorem QS{p:Prop}(h:p:=by simpa using λx=>hd (by rw[hdd,x])):p:=h
theorem QT{p:Prop}(h:p:=by rw[heap_alloc_old w _ (by have:=r.grown;omega)];exact r.frame b x y):p:=h
theorem QU{p:Prop}(h:p:=by cases h;rfl):p:=h
theorem QV{p:Prop}(h:p:=by have:=aM j;omega):p:=h
theorem QW{p:Prop}(h:p:=by cases h with|fl h=>cases h;rfl):p:=h
theorem QX{p:Prop}(h:p:=by cases op<;>first|(cases ho;done)|(simp[binOp,Op.intBits,bz])):p:=h
theorem QY{p:Prop}(h:p:=by rw[d,e1,e];rfl):p:=h
theorem QZ{p:Prop}(h:p:=by have:=CL (t:=Tm.mk op ByteArray.empty 0 (x::xs)) C;omega):p:=h
theorem R0{p:Prop}(h:p:=by simp at h2;have:=h.1;omega):p:=h
theorem R1{p:Prop}(h:p:=by simpa using e):p:=h
theorem R3{p:Prop}(h:p:=by simp[execOp,(r.ev hc).bool,hp,asBool,bind,Sem.bind,pure]):p:=h
theorem R4{p:Prop}(h:p:=by simpa using a):p:=h
theorem R5{p:Prop}(h:p:=by simpa using b):p:=h
theorem R6{p:Prop}(h:p:=by simpa using v):p:=h
theorem R7{p:Prop}(h:p:=by have:=O1 F;have:=Nat.le_mul_of_pos_right len j;omega):p:=h
theorem R8{p:Prop}(h:p:=by have:=h.1;simpa using this):p:=h
theorem R9{p:Prop}(h:p:=by rw[d,e1,e2,e];rfl):p:=h
theorem Ra{p:Prop}(h:p:=by rw[<-hp.len];assumption):p:=h
theorem Rb{p:Prop}(h:p:=by simpa [aU,bn,hok]using hw):p:=h
theorem Rc{p:Prop}(h:p:=by simpa using g1):p:=h
theorem Rd{p:Prop}(h:p:=by subst e;rfl):p:=h
theorem Re{p:Prop}(h:p:=by show _=_;kernel_rfl):p:=h
theorem Rf{p:Prop}(h:p:=by rw[Int.toNat_zero,OQ];exact(jZ nO aA l).trans j):p:=h
theorem Rg{p:Prop}(h:p:=by rw[QB];exact Nat.div_add_mod j s):p:=h
theorem Rh{p:Prop}(h:p:=by simp[e]):p:=h
theorem Ri{p:Prop}(h:p:=by rw[e];simp[y]):p:=h
theorem Rj{p:Prop}(h:p:=by rw[e,e2];simp):p:=h
theorem Rk{p:Prop}(h:p:=by simpa [aU,bn,D]using hw):p:=h
theorem Rl{p:Prop}(h:p:=by rfl):p:=h
theorem Rm{p:Prop}(h:p:=by simp[Lib.join,List.intercalate]):p:=h
theorem Rn{p:Prop}(h:p:=by simpa using l.lt):p:=h
theorem Ro{p:Prop}(h:p:=by simpa using h):p:=h
theorem Rp{p:Prop}(h:p:=by simp[execOp,Instr.loadAt,Instr.sureAddr,hc,h1]):p:=h
theorem Rq{p:Prop}(h:p:=by rw[hi,e];exact e1):p:=h
theorem Rr{p:Prop}(h:p:=by rw[O2 (t j y)]):p:=h
theorem Rs{p:Prop}(h:p:=by unfold bg;exact dF (by omega)):p:=h
theorem Rt{p:Prop}(h:p:=by unfold maxLen;omega):p:=h
theorem Ru{p:Prop}(h:p:=by simpa using k1):p:=h
theorem Rv{p:Prop}(h:p:=by simp[hN]):p:=h
theorem Rx{p:Prop}(h:p:=by simpa using hi):p:=h
theorem Ry{p:Prop}(h:p:=by simpa using y):p:=h
theorem Rz{p:Prop}(h:p:=by simpa using F):p:=h
theorem RA{p:Prop}(h:p:=by rw[hk.heap _ t];exact D):p:=h
theorem RB{p:Prop}(h:p:=by rw[hnw];simp[hnwl]):p:=h
theorem RC{p:Prop}(h:p:=by simp[hp.len]):p:=h
theorem RD{p:Prop}(h:p:=by cases d;exact .eE (P6 _)):p:=h
theorem RE{p:Prop}(h:p:=by simp only[OV,OP];omega):p:=h
theorem RF{p:Prop}(h:p:=by simp at d;omega):p:=h
theorem RG{p:Prop}(h:p:=by simp[t]):p:=h
theorem RH{p:Prop}(h:p:=by simp at A;omega):p:=h
theorem RI{p:Prop}(h:p:=by simpa using hl0):p:=h
theorem RJ{p:Prop}(h:p:=by rw[cX,c2];omega):p:=h
theorem RK{p:Prop}(h:p:=by rw[ce];exact hi):p:=h
theorem RL{p:Prop}(h:p:=by simpa using B):p:=h
theorem RM{p:Prop}(h:p:=by rw[‹O.mode f=1›];rfl):p:=h
theorem RN{p:Prop}(h:p:=by first|assumption|rfl):p:=h
theorem RO{p:Prop}(h:p:=by rw[a,b];decide):p:=h
theorem RP{p:Prop}(h:p:=by simpa using hed):p:=h
theorem RQ{p:Prop}(h:p:=by rw[hLf];exact r):p:=h
theorem RR{p:Prop}(h:p:=by rw[e];simp[hk]):p:=h
theorem RT{p:Prop}(h:p:=by simp[A]):p:=h
theorem RU{p:Prop}(h:p:=by simp[hd]):p:=h
theorem RV{p:Prop}(h:p:=by assumption):p:=h
theorem RW{p:Prop}(h:p:=by simpa using w):p:=h
theorem RX{p:Prop}(h:p:=by rw[e];simp[C]):p:=h
theorem RY{p:Prop}(h:p:=by simp[aU,hgs,hd]):p:=h
theorem RZ{p:Prop}(h:p:=by rw[e];simp[B]):p:=h
theorem S0{p:Prop}(h:p:=by simp[h]):p:=h
theorem S1{p:Prop}(h:p:=by dsimp only at j;refine Wk ?_;refine aI rfl ?_;refine bH ax hN (k':=l.length) rfl rfl rfl rfl rfl List.getElem?_concat_length rfl (O1 rfl) ?_;rw[mF];refine Wk ?_;refine cJ rfl rfl ?_;refine Wk ?_;exact⟨3*N-(k+1),_,A0,ag rfl (ag rfl (ag rfl (ag rfl (ag rfl (aZ _))))),k+1,_,es,_,B,rfl,A0,v.no R,by rw[F];exact j,rfl,by rw[t,P4];rfl⟩):p:=h
theorem S2{p:Prop}(h:p:=by rw[e]at d;have:=(nb d).2 j t;simp only[bA,Q3,Pj,bne_iff_ne,ne_eq]at this;obtain⟨⟨⟨⟨h1,h2⟩,A⟩,h4⟩,w⟩:=this;refine⟨h1,λhc=>h2.resolve_left (by rw[hc];decide),λa b=>A.resolve_left RO,λa b=>h4.resolve_left RO,λo ho hm=> ?_⟩;rw[ho]at w;simp at w;exact w hm):p:=h
theorem S4{p:Prop}(h:p:=by refine Wk ?_;refine aI rfl ?_;refine dD (vs:=[.ptr (h.length+0) 0 0]) rfl rfl (aD d rfl) ?_;refine Ws ?_;refine cJ rfl Dg ?_;refine Ws ?_;refine cJ rfl Dg ?_;refine Ws ?_;refine iz rfl Dg ?_;refine Wk ?_;exact pT (fy rfl rfl) (j9 rfl ⟨rfl,rfl⟩)):p:=h
theorem S5{p:Prop}(h:p:=by refine .inl (jj ?_ (λ_ _ _ f=>f.elim) (D.get Lg ι I a w M));rintro y w' ⟨L',h2,ι',A,⟨rfl,rfl⟩,F⟩;exact hk ι' A y w' (F.gj (ue hs))):p:=h
theorem S6{p:Prop}(h:p:=by refine Ws ?_;refine cJ rfl Dg ?_;refine Ws ?_;exact⟨rfl,_,ag rfl (ag rfl (ag rfl (ag rfl (ag rfl (ag rfl (aZ _)))))),rfl,R,A⟩):p:=h
theorem S7{p:Prop}(h:p:=by refine Dr ?_;refine Dp ?_;refine Ds ?_;exact dQ ⟨_,ag rfl (ag rfl (ag rfl (ag rfl (ag rfl (aZ _))))),rfl,[],by rw[d,P4];rfl⟩):p:=h
theorem S8{p:Prop}(h:p:=by refine sv d O ?_;exact v8 (rs:=[.cell 4 58,.tmp 5]) rfl A3 (.cons (nu ax hN rfl rfl rfl rfl rfl) (.cons (oT rfl) .nil))):p:=h
theorem S9{p:Prop}(h:p:=by simp only[cS,bA]at d ⊢;refine⟨aT.2 λj t=> ?_,y d.2⟩;have:=aT.1 d.1 j t;simp only[bA]at this;exact this.1.1.1.1):p:=h
theorem Sa{p:Prop}(h:p:=by simp only[OQ,Nat.zero_max]at e;rw[rj]at d ⊢;refine e.trans ?_;rw[aX (x:=((mxS tdp t.ae:Nat):Int)+1) A0];rfl):p:=h
theorem Sc{p:Prop}(h:p:=by refine Dq ?_;exact⟨_,ag rfl (ag rfl (ag rfl (ag rfl (ag rfl (ag rfl (ag rfl (ag rfl (aZ _)))))))),rfl,rfl⟩):p:=h
theorem Sd{p:Prop}(h:p:=by exact v8 (rs:=[.cell 4 58,.tmp 5]) rfl A3 (.cons (nu ax hN rfl rfl rfl rfl rfl) (.cons (oT rfl) .nil))):p:=h
theorem Se{p:Prop}(h:p:=by refine dQ ?_;refine Wk ?_;refine⟨_,ag rfl (ag rfl (aZ _)),rfl,c3,l',e3,O,F3,G3,?_⟩;rw[<-C,P4];exact S):p:=h
theorem Sf{p:Prop}(h:p:=by refine Ws ?_;exact⟨_,ag rfl (ag rfl (ag rfl (ag rfl (ag rfl (ag rfl (ag rfl (aZ _))))))),rfl,rfl⟩):p:=h
theorem Sh{p:Prop}(h:p:=by exact⟨_,ag rfl (ag rfl (ag rfl (ag rfl (ag rfl (ag rfl (ag rfl (ag rfl (aZ _)))))))),rfl,rfl⟩):p:=h
theorem Si{p:Prop}(h:p:=by exact(Gk y B R t D F G v w hA E λh=>by rw[d]at h;cases h).mono λr h' ⟨e1,_,e3⟩=>⟨e1,e3 d⟩):p:=h
theorem Sj{p:Prop}(h:p:=by rw[bu];show ByteArray.empty.size+aF r<4294967296;have:ByteArray.empty.size=0:=rfl;omega):p:=h
theorem Sk{p:Prop}(h:p:=by have e3:(λj=>if j=i then v else val j) j=val j:=O2 (t j A);rw[e1,e2,e3];exact this):p:=h
theorem Sl{p:Prop}(h:p:=by exact⟨zs::es,j::es',by simpa [List.replicate_succ]using h1,.cons d h2,.cons t D⟩):p:=h
theorem Sn{p:Prop}(h:p:=by rename_i hb;cases hif;have:=Array.all_eq_true'.1 h2.2 ed RP;simpa [hb]using this):p:=h
theorem Sp{p:Prop}(h:p:=by exact⟨_,ag rfl (ag rfl (ag rfl (ag rfl (ag rfl (aZ _))))),rfl,g,by rw[y,d,P4]⟩):p:=h
theorem Sq{p:Prop}(h:p:=by rename_i hx;have:=List.sizeOf_lt_of_mem hx;simp only[Tm.mk.sizeOf_spec];omega):p:=h
theorem Sr{p:Prop}(h:p:=by exact⟨y,m,d,λe=>E0,λT m xs e=>by cases e;exact s2 _ _ _ rfl,λT xss ho e=>E0⟩):p:=h
theorem Ss{p:Prop}(h:p:=by simp[Lit.wf,IntKind.min,IntKind.max,IntKind.signed,IntKind.bits]at h;omega):p:=h
theorem Su{p:Prop}(h:p:=by rw[bt hi,cT,aW j,bS,bS,show sEq x x=true from dT rfl,O4,cF,bw A0];exact e):p:=h
theorem Sv{p:Prop}(h:p:=by rw[hp]at hk;exact⟨_,hk,_,.one (.fl .k),Abs.B7 h1 k1 (ON hp) j ⟨rfl,rfl⟩⟩):p:=h
theorem Sw{p:Prop}(h:p:=by exact⟨_,a₁,w₁,⟨A,h1,j,t,q,v⟩,.pass (x:=.inLoop c) rfl (λ_ _=>.inl A1) d⟩):p:=h
theorem Sx{p:Prop}(h:p:=by rw[this];simp only[if_true,aG,j];exact bG ops val d l _ _ (by simp[bp])):p:=h
theorem Sy{p:Prop}(h:p:=by simp[Lit.wf,IntKind.min,IntKind.max,IntKind.signed,IntKind.bits];omega):p:=h
theorem SA{p:Prop}(h:p:=by obtain⟨T,U,k1,A⟩:=cP hF hs hc;exact t.1 R E F B hF _ _ _ _ _ _ k1 A):p:=h
theorem SB{p:Prop}(h:p:=by exact⟨_,hk,_,.one (.fl .b),Abs.gQ (op:=.lss) rfl h1 k1 j ⟨rfl,rfl⟩⟩):p:=h
theorem SC{p:Prop}(h:p:=by exact⟨_,hk,_,.one (.fl .b),Abs.gQ (op:=.leq) rfl h1 k1 j ⟨rfl,rfl⟩⟩):p:=h
theorem SD{p:Prop}(h:p:=by exact⟨_,hk,_,.one (.fl .b),Abs.gQ (op:=.gtr) rfl h1 k1 j ⟨rfl,rfl⟩⟩):p:=h
theorem SE{p:Prop}(h:p:=by exact⟨_,hk,_,.one (.fl .b),Abs.gQ (op:=.geq) rfl h1 k1 j ⟨rfl,rfl⟩⟩):p:=h
theorem SF{p:Prop}(h:p:=by exact⟨_,hk,_,.one (.fl .b),Abs.gQ (op:=.eql) rfl h1 k1 j ⟨rfl,rfl⟩⟩):p:=h
theorem SG{p:Prop}(h:p:=by exact⟨_,hk,_,.one (.fl .b),Abs.gQ (op:=.neq) rfl h1 k1 j ⟨rfl,rfl⟩⟩):p:=h
theorem SH{p:Prop}(h:p:=by obtain⟨cur,t,h1,_⟩:=this;exact(Array.getElem?_eq_some_iff.1 h1).1):p:=h
theorem SI{p:Prop}(h:p:=by obtain⟨en,J,h1,_⟩:=this;exact(Array.getElem?_eq_some_iff.1 h1).1):p:=h
theorem SJ{p:Prop}(h:p:=by obtain⟨cur,t,e,_⟩:=this;exact(Array.getElem?_eq_some_iff.1 e).1):p:=h
theorem SK{p:Prop}(h:p:=by exact⟨_,_,h,fR d ⟨20,0,[],[],[2,3],[],[]⟩ nP Tryz.func13 j⟩):p:=h
theorem SL{p:Prop}(h:p:=by exact .inr (.inr (.inr (.inl ⟨_,_,_,rfl,rfl⟩)))):p:=h
theorem SM{p:Prop}(h:p:=by exact⟨A,0,Rq,t1,λT m xs e=>E0,λT xss ho e=>E0⟩):p:=h
theorem SN{p:Prop}(h:p:=by exact⟨y,0,d,s1,λT m xs e=>E0,λT xss ho e=>E0⟩):p:=h
theorem SO{p:Prop}(h:p:=by rw[(A0:(N-i).toNat=(N-(i+1)).toNat+1)];rfl):p:=h
theorem SP{p:Prop}(h:p:=by exact(Array.getElem?_eq_some_iff.1 h1).1):p:=h
theorem SQ{p:Prop}(h:p:=by exact(Array.getElem?_eq_some_iff.1 e).1):p:=h
theorem SS{p:Prop}(h:p:=by exact .inr (.inr (.inl ⟨_,_,rfl,rfl⟩))):p:=h
theorem ST{p:Prop}(h:p:=by obtain⟨_,_,e⟩:=d;cases e;exact push _):p:=h
theorem SU{p:Prop}(h:p:=by exact⟨λe=>E0,λ_ _ _ e=>E0,fG.refl _⟩):p:=h
theorem SV{p:Prop}(h:p:=by cases h1;cases h2;exact⟨_,rfl,rfl⟩):p:=h
theorem SW{p:Prop}(h:p:=by rename_i e;subst e;exact⟨_,a _,h⟩):p:=h
theorem SX{p:Prop}(h:p:=by exact⟨this.1,this.2.1,this.2.2.1⟩):p:=h
theorem SY{p:Prop}(h:p:=by rename_i e;subst e;exact⟨_,a,h⟩):p:=h
theorem SZ{p:Prop}(h:p:=by rw[this];exact bT λj y=>Rr):p:=h
theorem T0{p:Prop}(h:p:=by rw[this];exact bT λj y=>L1):p:=h
theorem T3{p:Prop}(h:p:=by intro i l _ _ _ hm;omega):p:=h
theorem T4{p:Prop}(h:p:=by have:=r.heap.len;omega):p:=h
theorem T5{p:Prop}(h:p:=by exact Den.Imp.refl _):p:=h
theorem T6{p:Prop}(h:p:=by intro i _ _ hm;omega):p:=h
theorem T7{p:Prop}(h:p:=by exact absurd h.1 A1):p:=h
theorem T8{p:Prop}(h:p:=by rw[bh hi,cF,ck];rfl):p:=h
theorem T9{p:Prop}(h:p:=by intro i _ hm;omega):p:=h
theorem Ta{p:Prop}(h:p:=by exact .inl rfl):p:=h
theorem Tb{p:Prop}(h:p:=by exact⟨rfl,rfl⟩):p:=h
theorem Tc{p:Prop}(h:p:=by cases h;rfl):p:=h
abbrev Td:=List
abbrev Te:=List.range
end Go.Proofs.YtkegnipofloejaaGreatDoor

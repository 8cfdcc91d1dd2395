/-
  Texts that the claim rests on, merged: FormOk, Fm1.
-/
import Derived.Test.YtjafncnjefnloaaDoorZRowEC2
import Derived.Test.YtjafncnjefnloaaDoorZRowEC16
import Derived.Test.YtjafncnjefnloaaDoorZRowEC17
import Derived.Test.YtjafncnjefnloaaDoorZRowEC18

namespace Go.Proofs.YtjafncnjefnloaaDoor
def arity (k:Int):Int:=if k=1\/k=2 then 0 else if k=3\/k=6 then 1 else if k=4\/k=5\/k=7 then 2 else -1
def okHead (k q:Int) (n:Nat):Prop:=arity k=n/\0<=q/\q<=7/\(k=2\/q=0)
instance (k q : Int) (n : Nat) : Decidable (okHead k q n) := by unfold okHead; infer_instance
def Fm.ok (f:Fm):Bool:=
 match f with
 |⟨k,q,kids⟩=>decide (okHead k q kids.length)&&(kids.attach.all fun⟨x,_⟩=>Fm.ok x)
termination_by f
decreasing_by
 rename_i hx
 have:=List.sizeOf_lt_of_mem hx
 simp only[Fm.mk.sizeOf_spec]
 omega
theorem Fm.ok_eq (k q:Int) (kids:List Fm):Fm.ok ⟨k,q,kids⟩=(decide (okHead k q kids.length)&&kids.all Fm.ok):=by
 rw[Fm.ok]
 congr 1
 conv=>rhs;rw[<-List.attach_map_subtype_val kids,List.all_map]
 rfl
def Fm.size (f:Fm):Nat:=f.total+1
def isFormula (f:Fm):Bool:=decide (f.size<=12)&&f.ok
theorem Fm.size_eq (f:Fm):f.size=1+(f.kids.map Fm.size).sum:=by
 unfold Fm.size
 rw[Fm.total_eq]
 unfold totals
 have:∀l:List Fm,(l.map fun f=>f.total+1).sum=l.length+(l.map Fm.total).sum:=fun l=>by
  induction l with
  |nil=>rfl
  |cons x l ih=>simp only[List.map_cons,List.sum_cons,List.length_cons,ih];omega
 rw[this]
 omega
end Go.Proofs.YtjafncnjefnloaaDoor

namespace Go.Proofs.YtjafncnjefnloaaDoor.Den
open Go.RowKit
theorem size_mem {f x:Fm} (h:x∈f.kids):x.size<f.size:=by
 rw[Fm.size_eq f]
 have:=wS_mem (f:=Fm.size) h
 unfold wS at this
 omega
theorem sizes_eq (f:Fm):f.size=1+wS Fm.size f.kids:=Fm.size_eq f
theorem wS_nil {A:Type} (f:A->Nat):wS f []=0:=rfl
abbrev gSize (k:Nat):Fm->Option Int:=fun f=>if f.size<=k then some (f.size:Int)else none
abbrev gOk (k:Nat):Fm->Option Bool:=fun f=>if f.size<=k then some f.ok else none
abbrev gLeft (k:Nat):Fm->Int->Option Int:=fun f left=>if f.size<=k/\0<=left/\left<=12 then some (if (f.size:Int)<=left then left-f.size else -1)else none
section
variable {R : Type}
theorem size_loop (n k:Nat) (kids:List Fm) (hk:∀x∈kids,x.size<=k) (k0:Int->Option R):∀m (i n1:Int),0<=i->i<=kids.length->0<=n1->n1+(wS Fm.size (kids.drop i.toNat):Nat)<=4294967296->kids.length<=4294967296->(kids.length-i).toNat<m->
  i_formulaSize.l3 ⟨gSize k⟩ n m n1 kids (kids.length:Int) i k0=k0 (n1+(wS Fm.size (kids.drop i.toNat):Nat)):=by
 intro m
 induction m with
 |zero=>intro i n1 _ _ _ _ _ hm;omega
 | succ m ih =>
  intro i n1 q0 q1 qn qs ql hm
  show i_formulaSize.b3 ⟨gSize k⟩ n n1 kids (kids.length:Int) i (fun y0 y1 y2 y3=>i_formulaSize.l3 ⟨gSize k⟩ n m y0 y1 y2 y3 k0) k0=_
  unfold i_formulaSize.b3
  by_cases hi:i<(kids.length:Int)
  ·obtain⟨x,x1,x2,x3,_⟩:=drop_step q0 hi
   rw[x3,wS_cons]at qs ⊢
   rw[decide_eq_true hi,cond_true,x1,Option.bind_some,Fm.eta]
   show Option.bind (gSize k x) _=_
   unfold gSize
   rw[if_pos (hk x x2),Option.bind_some,wr_in (x:=n1+(x.size:Int)) (by omega),wr_in (x:=i+1) (by omega)]
   refine(ih (i+1) (n1+(x.size:Int)) (by omega) (by omega) (by omega) (by omega) ql (by omega)).trans ?_
   congr 1
   omega
  ·rw[decide_eq_false hi,cond_false,drop_all hi,wS_nil]
   congr 1
   omega
theorem len_size (f : Fm) : f.kids.length ≤ f.size := by
 rw[sizes_eq]
 have : ∀ l : List Fm, l.length ≤ wS Fm.size l := fun l => by
  induction l with
  |nil=>exact Nat.le_refl _
  | cons x l ih => rw [wS_cons, List.length_cons]; have : 1 ≤ x.size := by rw [Fm.size_eq]; omega
                   omega
 have:=this f.kids
 omega
theorem size_none :EntOK Tryd.prog (i_formulaSize.ent fun _=>none):=fun R xs H K r h=>by
 simp only[i_formulaSize.ent]at h
 split at h<;>cases h
theorem gSize_zero :gSize 0=fun _=>none:=by
 funext f
 unfold gSize
 rw[if_neg (by rw[Fm.size_eq];omega)]
theorem formulaSize_ok :∀k,k<=4294967296->EntOK Tryd.prog (i_formulaSize.ent (gSize k))
 |0,_=>by rw[gSize_zero];exact size_none
 | k + 1, hk => i_formulaSize.ok (G := ⟨gSize k⟩) ⟨formulaSize_ok k (by omega), trivial⟩ fun f r h => by
  unfold gSize at h
  split at h
  ·rename_i hs
   cases h
   refine⟨f.kids.length+1,?_⟩
   unfold i_formulaSize.main
   have h1:=sizes_eq f
   have h2:=len_size f
   rw[size_loop _ k f.kids (fun x hx=>by have:=size_mem hx;omega) _ _ _ _ (by omega) (by omega) (by omega) (by simp;omega) (by omega) (by omega)]
   rw[h1]
   simp
  ·cases h
theorem ok_loop (n k:Nat) (kids:List Fm) (hk:∀x∈kids,x.size<=k) (k0:Bool->Option R) (k1:Option R):∀m (i:Int),0<=i->i<=kids.length->kids.length<=4294967296->(kids.length-i).toNat<m->
  i_formulaOK.l16 ⟨gOk k⟩ n m kids (kids.length:Int) i k0 k1=bif (kids.drop i.toNat).all Fm.ok then k1 else k0 false:=by
 intro m
 induction m with
 |zero=>intro i _ _ _ hm;omega
 | succ m ih =>
  intro i q0 q1 ql hm
  show i_formulaOK.b16 ⟨gOk k⟩ n kids (kids.length:Int) i (fun y0 y1 y2=>i_formulaOK.l16 ⟨gOk k⟩ n m y0 y1 y2 k0 k1) k0 k1=_
  unfold i_formulaOK.b16
  by_cases hi:i<(kids.length:Int)
  ·obtain⟨x,x1,x2,x3,_⟩:=drop_step q0 hi
   rw[x3,List.all_cons,decide_eq_true hi,cond_true,x1,Option.bind_some,Fm.eta]
   show Option.bind (gOk k x) _=_
   unfold gOk
   rw[if_pos (hk x x2),Option.bind_some,wr_in (x:=i+1) (by omega)]
   cases hx:x.ok
   ·rfl
   ·rw[Bool.not_true,cond_false,Bool.true_and]
    exact ih (i+1) (by omega) (by omega) ql (by omega)
  ·rw[decide_eq_false hi,cond_false,drop_all hi];rfl
theorem right_loop (n k:Nat) (gI:Int->Int->Int->Option Bool) (a b:Int) (kids:List Fm) (hk:∀x∈kids,x.size<=k) (k0:Bool->Option R) (k1:Option R):∀m (i:Int),0<=i->i<=kids.length->kids.length<=4294967296->(kids.length-i).toNat<m->
  s_l31Right.l16 ⟨gI,gOk k⟩ n m i a b kids k0 k1=bif (kids.drop i.toNat).all Fm.ok then k1 else k0 false:=by
 intro m
 induction m with
 |zero=>intro i _ _ _ hm;omega
 | succ m ih =>
  intro i q0 q1 ql hm
  show s_l31Right.b16 ⟨gI,gOk k⟩ n i a b kids (fun y0 y1 y2 y3=>s_l31Right.l16 ⟨gI,gOk k⟩ n m y0 y1 y2 y3 k0 k1) k0 k1=_
  unfold s_l31Right.b16
  by_cases hi:i<(kids.length:Int)
  ·obtain⟨x,x1,x2,x3,_⟩:=drop_step q0 hi
   rw[x3,List.all_cons,decide_eq_true hi,cond_true,x1,Option.bind_some,Fm.eta]
   show Option.bind (gOk k x) _=_
   unfold gOk
   rw[if_pos (hk x x2),Option.bind_some,wr_in (x:=i+1) (by omega)]
   cases hx:x.ok
   ·rfl
   ·rw[Bool.not_true,cond_false,Bool.true_and]
    exact ih (i+1) (by omega) (by omega) ql (by omega)
  ·rw[decide_eq_false hi,cond_false,drop_all hi];rfl
theorem c13_eq (n k:Nat) (c a b:Int) (kids:List Fm) (hk:∀x∈kids,x.size<=k) (hl:kids.length<n) (hn:kids.length<=4294967296) (k0:Bool->Option R):
  i_formulaOK.c13 ⟨gOk k⟩ n c a b kids k0=k0 (decide ((kids.length:Int)=c/\0<=b/\b<=7/\(a=2\/b=0))&&kids.all Fm.ok):=by
 have e:i_formulaOK.c15 ⟨gOk k⟩ n a b kids k0=k0 (kids.all Fm.ok):=by
  unfold i_formulaOK.c15
  rw[ok_loop n k kids hk _ _ n 0 (by omega) (by omega) hn (by omega)]
  simp only[Int.toNat_zero,List.drop_zero]
  cases kids.all Fm.ok<;>rfl
 unfold i_formulaOK.c13
 rw[e]
 by_cases h1:(kids.length:Int)=c
 ·by_cases h2:b<0
  ·rw[decide_eq_true h1,decide_eq_true h2,decide_eq_false (p:=_/\_) (by omega)];rfl
  ·by_cases h3:7<b
   ·rw[decide_eq_true h1,decide_eq_false h2,decide_eq_true h3,decide_eq_false (p:=_/\_) (by omega)];rfl
   ·by_cases h4:a=2
    ·rw[decide_eq_true h1,decide_eq_false h2,decide_eq_false h3,decide_eq_true h4,decide_eq_true (p:=_/\_) (by omega)];rfl
    ·by_cases h5:b=0
     ·rw[decide_eq_true h1,decide_eq_false h2,decide_eq_false h3,decide_eq_false h4,decide_eq_true h5,decide_eq_true (p:=_/\_) (by omega)];rfl
     ·rw[decide_eq_true h1,decide_eq_false h2,decide_eq_false h3,decide_eq_false h4,decide_eq_false h5,decide_eq_false (p:=_/\_) (by omega)];rfl
 ·rw[decide_eq_false h1,decide_eq_false (p:=_/\_) (by omega)];rfl
theorem c15s_eq (n k:Nat) (gI:Int->Int->Int->Option Bool) (a b:Int) (kids:List Fm) (hk:∀x∈kids,x.size<=k) (hl:kids.length<n) (hn:kids.length<=4294967296) (k0:Bool->Option R):s_l31Right.c15 ⟨gI,gOk k⟩ n a b kids k0=k0 (kids.all Fm.ok):=by
 unfold s_l31Right.c15
 rw[right_loop n k gI a b kids hk _ _ n 0 (by omega) (by omega) hn (by omega)]
 simp only[Int.toNat_zero,List.drop_zero]
 cases kids.all Fm.ok<;>rfl
theorem c13s_eq (n k:Nat) (c a b:Int) (kids:List Fm) (hk:∀x∈kids,x.size<=k) (hl:kids.length<n) (hn:kids.length<=4294967296) (k0:Bool->Option R):
  s_l31Right.c13 ⟨fun x lo hi=>some (decide (lo<=x)&&decide (x<=hi)),gOk k⟩ n c a b kids k0=k0 (decide ((kids.length:Int)=c/\((a=2/\0<=b/\b<=7)\/(a≠2/\b=0)))&&kids.all Fm.ok):=by
 have e:=c15s_eq n k (fun x lo hi=>some (decide (lo<=x)&&decide (x<=hi))) a b kids hk hl hn k0
 unfold s_l31Right.c13
 simp only[e,Option.bind_some]
 by_cases h4:a=2
 ·rw[decide_eq_true h4]
  by_cases h2:0<=b/\b<=7
  ·rw[decide_eq_true h2.1,decide_eq_true h2.2]
   by_cases h1:(kids.length:Int)=c
   ·rw[decide_eq_true h1,decide_eq_true (p:=_/\_) (by omega)];rfl
   ·rw[decide_eq_false h1,decide_eq_false (p:=_/\_) (by omega)];rfl
  ·have:(decide (0<=b)&&decide (b<=7))=false:=by simp;omega
   rw[this,decide_eq_false (p:=_/\_) (by omega)];rfl
 ·rw[decide_eq_false h4]
  by_cases h5:b=0
  ·rw[decide_eq_true h5]
   by_cases h1:(kids.length:Int)=c
   ·rw[decide_eq_true h1,decide_eq_true (p:=_/\_) (by omega)];rfl
   ·rw[decide_eq_false h1,decide_eq_false (p:=_/\_) (by omega)];rfl
  ·rw[decide_eq_false h5,decide_eq_false (p:=_/\_) (by omega)];rfl
end
theorem ok_parts_eq (f:Fm):f.ok=(decide (okHead f.kind f.prop f.kids.length)&&f.kids.all Fm.ok):=by
 cases f
 exact Fm.ok_eq _ _ _
theorem head_eq {f:Fm} {c:Int} (h:arity f.kind=c):decide (((f.kids.length:Int)=c)/\0<=f.prop/\f.prop<=7/\(f.kind=2\/f.prop=0))=decide (okHead f.kind f.prop f.kids.length):=by
 apply decide_eq_decide.2
 unfold okHead
 rw[h]
 omega
theorem head_eqs {f:Fm} {c:Int} (h:arity f.kind=c):decide (((f.kids.length:Int)=c)/\((f.kind=2/\0<=f.prop/\f.prop<=7)\/(f.kind≠2/\f.prop=0)))=decide (okHead f.kind f.prop f.kids.length):=by
 apply decide_eq_decide.2
 unfold okHead
 rw[h]
 omega
theorem head_no {f:Fm} (h1:f.kind≠1) (h2:f.kind≠2) (h3:f.kind≠3) (h4:f.kind≠4) (h5:f.kind≠5) (h6:f.kind≠6) (h7:f.kind≠7):f.ok=false:=by
 rw[ok_parts_eq,decide_eq_false]
 ·rfl
 ·unfold okHead arity
  rw[if_neg (by omega),if_neg (by omega),if_neg (by omega)]
  omega
theorem ok_main {R:Type} (k n:Nat) (f:Fm) (hk:∀x∈f.kids,x.size<=k) (hl:f.kids.length<n) (hn:f.kids.length<=4294967296) (K:Bool->Option R):i_formulaOK.main ⟨gOk k⟩ n f K=K f.ok:=by
 have hc:=fun c=>c13_eq n k c f.kind f.prop f.kids hk hl hn K
 unfold i_formulaOK.main
 simp only[hc]
 by_cases h1:f.kind=1
 ·rw[decide_eq_true h1,cond_true,head_eq (by rw[h1];rfl),ok_parts_eq]
 by_cases h2:f.kind=2
 ·rw[decide_eq_false h1,decide_eq_true h2,cond_false,cond_true,head_eq (by rw[h2];rfl),ok_parts_eq]
 by_cases h3:f.kind=3
 ·rw[decide_eq_false h1,decide_eq_false h2,decide_eq_true h3,cond_false,cond_false,cond_true,head_eq (by rw[h3];rfl),ok_parts_eq]
 by_cases h6:f.kind=6
 ·rw[decide_eq_false h1,decide_eq_false h2,decide_eq_false h3,decide_eq_true h6,cond_false,cond_false,cond_false,cond_true,head_eq (by rw[h6];rfl),ok_parts_eq]
 by_cases h4:f.kind=4
 ·rw[decide_eq_false h1,decide_eq_false h2,decide_eq_false h3,decide_eq_false h6,decide_eq_true h4,cond_false,cond_false,cond_false,cond_false,cond_true,head_eq (by rw[h4];rfl),ok_parts_eq]
 by_cases h5:f.kind=5
 ·rw[decide_eq_false h1,decide_eq_false h2,decide_eq_false h3,decide_eq_false h6,decide_eq_false h4,decide_eq_true h5,cond_false,cond_false,cond_false,cond_false,cond_false,cond_true,head_eq (by rw[h5];rfl),ok_parts_eq]
 by_cases h7:f.kind=7
 ·rw[decide_eq_false h1,decide_eq_false h2,decide_eq_false h3,decide_eq_false h6,decide_eq_false h4,decide_eq_false h5,decide_eq_true h7,cond_false,cond_false,cond_false,cond_false,cond_false,cond_false,cond_true,head_eq (by rw[h7];rfl),ok_parts_eq]
 ·rw[decide_eq_false h1,decide_eq_false h2,decide_eq_false h3,decide_eq_false h6,decide_eq_false h4,decide_eq_false h5,decide_eq_false h7,head_no h1 h2 h3 h4 h5 h6 h7];rfl
theorem right_main {R:Type} (k n:Nat) (f:Fm) (hk:∀x∈f.kids,x.size<=k) (hl:f.kids.length<n) (hn:f.kids.length<=4294967296) (K:Bool->Option R):s_l31Right.main ⟨fun x lo hi=>some (decide (lo<=x)&&decide (x<=hi)),gOk k⟩ n f K=K f.ok:=by
 have hc:=fun c=>c13s_eq n k c f.kind f.prop f.kids hk hl hn K
 unfold s_l31Right.main
 simp only[hc]
 by_cases h1:f.kind=1
 ·rw[decide_eq_true h1,cond_true,head_eqs (by rw[h1];rfl),ok_parts_eq]
 by_cases h2:f.kind=2
 ·rw[decide_eq_false h1,decide_eq_true h2,cond_false,cond_true,head_eqs (by rw[h2];rfl),ok_parts_eq]
 by_cases h3:f.kind=3
 ·rw[decide_eq_false h1,decide_eq_false h2,decide_eq_true h3,cond_false,cond_false,cond_true,head_eqs (by rw[h3];rfl),ok_parts_eq]
 by_cases h6:f.kind=6
 ·rw[decide_eq_false h1,decide_eq_false h2,decide_eq_false h3,decide_eq_true h6,cond_false,cond_false,cond_false,cond_true,head_eqs (by rw[h6];rfl),ok_parts_eq]
 by_cases h4:f.kind=4
 ·rw[decide_eq_false h1,decide_eq_false h2,decide_eq_false h3,decide_eq_false h6,decide_eq_true h4,cond_false,cond_false,cond_false,cond_false,cond_true,head_eqs (by rw[h4];rfl),ok_parts_eq]
 by_cases h5:f.kind=5
 ·rw[decide_eq_false h1,decide_eq_false h2,decide_eq_false h3,decide_eq_false h6,decide_eq_false h4,decide_eq_true h5,cond_false,cond_false,cond_false,cond_false,cond_false,cond_true,head_eqs (by rw[h5];rfl),ok_parts_eq]
 by_cases h7:f.kind=7
 ·rw[decide_eq_false h1,decide_eq_false h2,decide_eq_false h3,decide_eq_false h6,decide_eq_false h4,decide_eq_false h5,decide_eq_true h7,cond_false,cond_false,cond_false,cond_false,cond_false,cond_false,cond_true,head_eqs (by rw[h7];rfl),ok_parts_eq]
 ·rw[decide_eq_false h1,decide_eq_false h2,decide_eq_false h3,decide_eq_false h6,decide_eq_false h4,decide_eq_false h5,decide_eq_false h7,head_no h1 h2 h3 h4 h5 h6 h7];rfl
theorem gOk_zero :gOk 0=fun _=>none:=by
 funext f
 unfold gOk
 rw[if_neg (by rw[Fm.size_eq];omega)]
theorem formulaOK_ok :∀k,k<=4294967296->EntOK Tryd.prog (i_formulaOK.ent (gOk k))
 | 0, _ => by
  rw[gOk_zero]
  intro R xs H K r h
  simp only[i_formulaOK.ent]at h
  split at h<;>cases h
 | k + 1, hk => i_formulaOK.ok (G := ⟨gOk k⟩) ⟨formulaOK_ok k (by omega), trivial⟩ fun f r h => by
  unfold gOk at h
  split at h
  ·rename_i hs
   cases h
   have h2:=len_size f
   exact⟨f.kids.length+1,ok_main k _ f (fun x hx=>by have:=size_mem hx;omega) (by omega) (by omega) _⟩
  ·cases h
theorem l1In_ok :EntOK Tryd.prog (s_l1In.ent fun x lo hi=>some (decide (lo<=x)&&decide (x<=hi))):=s_l1In.ok (G:=⟨()⟩) trivial fun x lo hi r h=>by
 cases h
 refine⟨1,?_⟩
 unfold s_l1In.main
 cases decide (lo<=x)<;>rfl
theorem l31Right_ok :∀k,k<=4294967296->EntOK Tryd.prog (s_l31Right.ent (gOk k))
 | 0, _ => by
  rw[gOk_zero]
  intro R xs H K r h
  simp only[s_l31Right.ent]at h
  split at h<;>cases h
 | k + 1, hk => s_l31Right.ok (G := ⟨fun x lo hi => some (decide (lo ≤ x) && decide (x ≤ hi)), gOk k⟩) ⟨l1In_ok, l31Right_ok k (by omega), trivial⟩ fun f r h => by
  unfold gOk at h
  split at h
  ·rename_i hs
   cases h
   have h2:=len_size f
   exact⟨f.kids.length+1,right_main k _ f (fun x hx=>by have:=size_mem hx;omega) (by omega) (by omega) _⟩
  ·cases h
end Go.Proofs.YtjafncnjefnloaaDoor.Den

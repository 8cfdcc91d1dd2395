/-
  Texts that the claim rests on, merged: PL, Fm4.
-/
import Derived.Test.YtjafncnjefnloaaDoorZRowEC14
import Derived.Test.YtjafncnjefnloaaDoorZRowEC25

namespace Go.Proofs.YtjafncnjefnloaaDoor.Den
open Go.RowKit
set_option maxRecDepth 100000
set_option linter.unusedVariables false
namespace l_eqIntS
noncomputable abbrev bd:=bodyOf Tryd.f17
noncomputable abbrev q4:=nthC [1,1,0,1,0,0] bd
end l_eqIntS
namespace l_eqIntSS
noncomputable abbrev bd:=bodyOf Tryd.f49
noncomputable abbrev q4:=nthC [1,1,0,1,0,0] bd
end l_eqIntSS
namespace l_eqTermS
noncomputable abbrev bd:=bodyOf Tryd.f48
noncomputable abbrev q4:=nthC [1,1,0,1,0,0] bd
end l_eqTermS
namespace l_eqTerm
noncomputable abbrev bd:=bodyOf Tryd.f85
end l_eqTerm
namespace l_eqGraph
noncomputable abbrev bd:=bodyOf Tryd.f16
end l_eqGraph
namespace l_eqFormulaS
noncomputable abbrev bd:=bodyOf Tryd.f50
noncomputable abbrev q4:=nthC [1,1,0,1,0,0] bd
end l_eqFormulaS
namespace l_eqFormula
noncomputable abbrev bd:=bodyOf Tryd.f18
end l_eqFormula
namespace l_eqLasso
noncomputable abbrev bd:=bodyOf Tryd.f15
end l_eqLasso
namespace l_toIntS
noncomputable abbrev bd:=bodyOf Tryd.f12
noncomputable abbrev q3:=nthC [1,1,0,1,0,0] bd
end l_toIntS
namespace l_toIntSS
noncomputable abbrev bd:=bodyOf Tryd.f44
noncomputable abbrev q3:=nthC [1,1,0,1,0,0] bd
end l_toIntSS
namespace l_toTermS
noncomputable abbrev bd:=bodyOf Tryd.f43
noncomputable abbrev q3:=nthC [1,1,0,1,0,0] bd
end l_toTermS
namespace l_toTerm
noncomputable abbrev bd:=bodyOf Tryd.f81
end l_toTerm
namespace l_toGraph
noncomputable abbrev bd:=bodyOf Tryd.f11
end l_toGraph
namespace l_toFormulaS
noncomputable abbrev bd:=bodyOf Tryd.f45
noncomputable abbrev q3:=nthC [1,1,0,1,0,0] bd
end l_toFormulaS
namespace l_toFormula
noncomputable abbrev bd:=bodyOf Tryd.f13
end l_toFormula
namespace l_szIntS
noncomputable abbrev bd:=bodyOf Tryd.f77
end l_szIntS
namespace l_szIntSS
noncomputable abbrev bd:=bodyOf Tryd.f38
noncomputable abbrev q5:=nthC [1,1,1,0,1,0,0] bd
end l_szIntSS
namespace l_szTermS
noncomputable abbrev bd:=bodyOf Tryd.f37
noncomputable abbrev q5:=nthC [1,1,1,0,1,0,0] bd
end l_szTermS
namespace l_szTerm
noncomputable abbrev bd:=bodyOf Tryd.f76
end l_szTerm
namespace l_szGraph
noncomputable abbrev bd:=bodyOf Tryd.f8
end l_szGraph
namespace l_szFormulaS
noncomputable abbrev bd:=bodyOf Tryd.f39
noncomputable abbrev q5:=nthC [1,1,1,0,1,0,0] bd
end l_szFormulaS
namespace l_szFormula
noncomputable abbrev bd:=bodyOf Tryd.f9
end l_szFormula
end Go.Proofs.YtjafncnjefnloaaDoor.Den

namespace Go.Proofs.YtjafncnjefnloaaDoor.Den
open Go.RowKit
open Classical
abbrev gIs (k:Nat):Fm->Option Bool:=fun f=>if f.size<=k then some (isFormula f)else none
theorem i_IsFormula_ok (k:Nat) (hk:k<=4294967296):EntOK Tryd.prog (i_IsFormula.ent (gIs k)):=i_IsFormula.ok (G:=⟨gSize k,gOk k⟩) ⟨formulaSize_ok k hk,formulaOK_ok k hk,trivial⟩ fun f r h=>by
 unfold gIs at h
 split at h
 ·rename_i hs
  cases h
  refine⟨1,?_⟩
  unfold i_IsFormula.main
  have e1:gSize k f=some (f.size:Int):=if_pos hs
  have e2:gOk k f=some f.ok:=if_pos hs
  simp only[Fm.eta]
  rw[e1,Option.bind_some,e2]
  unfold isFormula
  by_cases h12:f.size<=12
  ·rw[decide_eq_true (by omega),decide_eq_true h12];rfl
  ·rw[decide_eq_false (by omega),decide_eq_false h12];rfl
 ·cases h
section
variable {R : Type}
theorem left_loop (n k:Nat) (a b:Int) (kids:List Fm) (hk:∀x∈kids,x.size<=k) (hn:kids.length<=4294967296) (k0:Int->Option R):∀m (L i:Int), -1<=L->L<=12->0<=i->i<=kids.length->(kids.length-i).toNat<m->
  s_l31Left.l3 ⟨gLeft k⟩ n m L i a b kids k0=k0 (if L<0 then -1 else if ((wS Fm.size (kids.drop i.toNat):Nat):Int)<=L then L-(wS Fm.size (kids.drop i.toNat):Nat)else -1):=by
 intro m
 induction m with
 |zero=>intro L i _ _ _ _ hm;omega
 | succ m ih =>
  intro L i l0 l1 q0 q1 hm
  show s_l31Left.b3 ⟨gLeft k⟩ n L i a b kids (fun y0 y1 y2 y3 y4=>s_l31Left.l3 ⟨gLeft k⟩ n m y0 y1 y2 y3 y4 k0) k0=_
  unfold s_l31Left.b3
  by_cases hi:i<(kids.length:Int)
  ·rw[decide_eq_true hi,cond_true]
   by_cases hL:0<=L
   ·obtain⟨x,x1,x2,x3,_⟩:=drop_step q0 hi
    rw[decide_eq_true hL,cond_true,x1,Option.bind_some,Fm.eta]
    show Option.bind (gLeft k x L) _=_
    have e:gLeft k x L=some (if (x.size:Int)<=L then L-x.size else -1):=if_pos ⟨hk x x2,hL,l1⟩
    rw[e,Option.bind_some,wr_in (x:=i+1) (by omega)]
    refine(ih _ (i+1) (by split<;>omega) (by split<;>omega) (by omega) (by omega) (by omega)).trans ?_
    congr 1
    rw[x3,wS_cons]
    split<;>split<;>split<;>(try split)<;>omega
   ·rw[decide_eq_false hL,cond_false,if_pos (by omega)]
    congr 1
    omega
  ·rw[decide_eq_false hi,cond_false,drop_all hi,wS_nil]
   congr 1
   split
   ·omega
   ·rw[if_pos (by omega)];omega
end
theorem gLeft_zero :gLeft 0=fun _ _=>none:=by
 funext f l
 unfold gLeft
 rw[if_neg (by rw[Fm.size_eq];omega)]
theorem l31Left_ok :∀k,k<=4294967296->EntOK Tryd.prog (s_l31Left.ent (gLeft k))
 | 0, _ => by
  rw[gLeft_zero]
  intro R xs H K r h
  simp only[s_l31Left.ent]at h
  split at h<;>cases h
 | k + 1, hk => s_l31Left.ok (G := ⟨gLeft k⟩) ⟨l31Left_ok k (by omega), trivial⟩ fun f left r h => by
  unfold gLeft at h
  split at h
  ·rename_i hs
   cases h
   have h2:=len_size f
   refine⟨f.kids.length+1,?_⟩
   unfold s_l31Left.main
   rw[wr_in (by omega),left_loop _ k _ _ f.kids (fun x hx=>by have:=size_mem hx;omega) (by omega) _ _ (left-1) 0 (by omega) (by omega) (by omega) (by omega) (by omega)]
   simp only[Int.toNat_zero,List.drop_zero]
   have:=sizes_eq f
   congr 4
   split<;>split<;>(try split)<;>omega
  ·cases h
theorem s_IsFormula_ok (k:Nat) (hk:k<=4294967296):EntOK Tryd.prog (s_IsFormula.ent (gIs k)):=s_IsFormula.ok (G:=⟨gLeft k,gOk k⟩) ⟨l31Left_ok k hk,l31Right_ok k hk,trivial⟩ fun f r h=>by
 unfold gIs at h
 split at h
 ·rename_i hs
  cases h
  refine⟨1,?_⟩
  unfold s_IsFormula.main
  have e1:gLeft k f 12=some (if (f.size:Int)<=12 then (12:Int)-f.size else (-1:Int)):=if_pos ⟨hs,by omega,by omega⟩
  have e2:gOk k f=some f.ok:=if_pos hs
  simp only[Fm.eta]
  rw[e1,Option.bind_some,e2]
  unfold isFormula
  by_cases h12:f.size<=12
  ·rw[if_pos (by omega),decide_eq_true (by omega),decide_eq_true h12];rfl
  ·rw[if_neg (by omega),decide_eq_false (by omega),decide_eq_false h12];rfl
 ·cases h
theorem isF_parts {f:Fm} (h:isFormula f=true):f.size<=12/\f.ok=true:=by
 unfold isFormula at h
 rw[Bool.and_eq_true,decide_eq_true_eq]at h
 exact h
-- the laws' own functions
section
variable {R : Type}
end
end Go.Proofs.YtjafncnjefnloaaDoor.Den

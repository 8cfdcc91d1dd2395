/-
  Texts that the claim rests on, merged: PI4, Txt1, Txt2, Rd1, Rd2, Rd3, Rd4, NewA.
-/
import Derived.Test.YtkinkfieackmdaaGreatZRowStr13
import Derived.Test.YtkinkfieackmdaaGreatZRowStr24
import Derived.Test.YtkinkfieackmdaaGreatZRowStr25

namespace Go.Proofs.YtkinkfieackmdaaGreat.Den
open Go.RowKit
set_option maxRecDepth 100000
set_option linter.unusedVariables false
namespace z1s
noncomputable abbrev bd:=bodyOf Tryz.f170
end z1s
namespace z1q
noncomputable abbrev bd:=bodyOf Tryz.f192
end z1q
namespace z1r
noncomputable abbrev bd:=bodyOf Tryz.f191
noncomputable abbrev q3:=nthC [1,1,1,0,0,0] bd
end z1r
namespace z6f
noncomputable abbrev bd:=bodyOf Tryz.f193
noncomputable abbrev q2:=nthC [1,0,1,0,0] bd
end z6f
namespace z1u
noncomputable abbrev bd:=bodyOf Tryz.f195
end z1u
namespace z6d
noncomputable abbrev bd:=bodyOf Tryz.f194
noncomputable abbrev q2:=nthC [1,0,1,0,0] bd
end z6d
namespace z1t
noncomputable abbrev bd:=bodyOf Tryz.f169
noncomputable abbrev q5:=nthC [1,1,1,0,1,0,0] bd
noncomputable abbrev q11:=nthC [1,1,1,1,1,1,0,1,0,0] bd
end z1t
namespace z0o
noncomputable abbrev bd:=bodyOf Tryz.f128
end z0o
open Classical
open Classical
open Classical
def Sm (s:Sg) (t:Tm):Prop:=Good s t/\tsz t<=60
theorem arg_tsz {x t:Tm} (h:x∈t.args):tsz x<tsz t:=by
 rw[tsz_eq t]
 have:=wS_mem (f:=tsz) h
 unfold wS at*
 omega
theorem Sm.args {s:Sg} {t:Tm} (h:Sm s t):∀x∈t.args,Sm s x:=λx hx=>⟨h.1.args x hx,by have:=arg_tsz hx;have:=h.2;omega⟩
open Classical
open Classical
section
variable {R : Type} {kd ab be : List Int} {nm : List ByteArray} {sb : List Sb} {ops : List Opr} (hA : Alg kd nm sb ops) (hab : ab.length = nm.length) {k : Nat} {d : Int} (hd : 0 ≤ d ∧ d ≤ 20) (hk : (20 - d).toNat < k)
include hA hab hd hk
end
open Classical
section
variable {R : Type} {nm : List ByteArray} {sb : List Sb} {ops : List Opr}
variable (hS : sigF ⟨⟨nm, sb⟩, ops⟩ = true) {k : Nat} {d : Int} (hd : 1 ≤ d ∧ d ≤ 20) (hk : (20 - d).toNat < k)
include hS hd hk
end
open Classical
abbrev Al :=List Int×List Int×List Int×List ByteArray×List Sb×List Opr×List (ByteArray×Int)
noncomputable def algF (s:Sg):Al:=(upI s.sorts.names.length s.sorts.subs,belowI (upI s.sorts.names.length s.sorts.subs),kindI s.sorts.names.length s.sorts.subs,s.sorts.names,s.sorts.subs,s.ops,[])
noncomputable def gNewA:Sg->Option (Option Al):=λs=>some (if sigF s=true then some (algF s)else none)
theorem sigF_sorts {s:Sg} (h:sigF s=true):sortsF s.sorts=true:=by
 unfold sigF at h
 rw[bA]at h
 exact h.1
theorem newAlgebra_ok :EO (z1j.ent gNewA):=z1j.ok (G:=⟨λs=>some (sigF s),λs=>some (orderF s)⟩) ⟨z0h,newOrder_ok,trivial⟩ λs r h=>⟨1,by
 cases h
 unfold z1j.main
 by_cases hs:sigF s=true
 ·rw[if_pos hs]
  dsimp only
  rw[bS,hs,Bool.not_true,cF,bS,show orderF s.sorts=(⟨upI s.sorts.names.length s.sorts.subs,belowI (upI s.sorts.names.length s.sorts.subs),kindI s.sorts.names.length s.sorts.subs⟩,true)from if_pos (sigF_sorts hs)]
  rfl
 ·rw[if_neg hs]
  dsimp only
  rw[bS,Bool.eq_false_iff.2 hs]
  rfl⟩
end Go.Proofs.YtkinkfieackmdaaGreat.Den

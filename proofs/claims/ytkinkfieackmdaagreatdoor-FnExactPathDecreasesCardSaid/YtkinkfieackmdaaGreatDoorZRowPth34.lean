import Derived.Test.YtkinkfieackmdaaGreatDoorZRowPth20
namespace Go.Proofs.YtkinkfieackmdaaGreatDoor.Den
open Go.RowKit
open Classical
abbrev Al :=List Int×List Int×List Int×List ByteArray×List Sb×List Opr×List (ByteArray×Int)
noncomputable def algF (s:Sg):Al:=(upI s.sorts.names.length s.sorts.subs,eN (upI s.sorts.names.length s.sorts.subs),aX s.sorts.names.length s.sorts.subs,s.sorts.names,s.sorts.subs,s.ops,[])
noncomputable def rZ:Sg->Option (Option Al):=λs=>some (if bw s=true then some (algF s)else none)
theorem uc {s:Sg} (h:bw s=true):cu s.sorts=true:=by
 unfold bw at h;rw[bA]at h;exact h.1
theorem nT :EO (z1e.ent rZ):=z1e.ok (G:=⟨λs=>some (bw s),λs=>some (fY s)⟩) ⟨z0j,kW,trivial⟩ λs r h=>⟨1,by
 cases h;unfold z1e.main;by_cases hs:bw s=true
 ·rw[if_pos hs];dsimp only;rw[bS,hs,Bool.not_true,cF,bS,show fY s.sorts=(⟨upI s.sorts.names.length s.sorts.subs,eN (upI s.sorts.names.length s.sorts.subs),aX s.sorts.names.length s.sorts.subs⟩,true)from if_pos (uc hs)];rfl
 ·rw[if_neg hs];dsimp only;rw[bS,Bool.eq_false_iff.2 hs];rfl⟩
end Go.Proofs.YtkinkfieackmdaaGreatDoor.Den

/-
  What the program's places computes.
-/
import Derived.Test.YtagnfckihdlhpaaPlacesI2
import Derived.Test.YtagnfckihdlhpaaPlacesI3
import Derived.Test.YtagnfckihdlhpaaPlacesI7
namespace Go.Proofs.Ytagnfckihdlhpaa
open Go.RowKit

theorem ok_parts {k q : Int} {kids : List Fm} (h : Fm.ok ⟨k, q, kids⟩ = true) : okHead k q kids.length ∧ ∀ x ∈ kids, x.ok = true := by
  rw [Fm.ok_eq, Bool.and_eq_true, decide_eq_true_eq] at h
  exact ⟨h.1, List.all_eq_true.1 h.2⟩

theorem places_any (xs : List Int) (back : Nat) (ls : List Int) (hl : LassoOK xs back ls) (f : Fm) : PlacesF xs back ls f := by
  induction f using Fm.induct with
  | h k q kids ih =>
    intro w v s lv h l m hok
    obtain ⟨⟨ha, q0, q7, _⟩, hkok⟩ := ok_parts hok
    have hk : 1 ≤ k ∧ k ≤ 7 := by unfold arity at ha; omega
    rcases kinds hk.1 hk.2 with rfl | rfl | rfl | rfl | rfl | rfl | rfl
    · exact places_1 xs back ls hl q kids (by have : arity 1 = 0 := rfl; omega) hkok ih q0 q7 w v s lv h l m
    · exact places_2 xs back ls hl q kids (by have : arity 2 = 0 := rfl; omega) hkok ih q0 q7 w v s lv h l m
    · exact places_3 xs back ls hl q kids (by have : arity 3 = 1 := rfl; omega) hkok ih q0 q7 w v s lv h l m
    · exact places_4 xs back ls hl q kids (by have : arity 4 = 2 := rfl; omega) hkok ih q0 q7 w v s lv h l m
    · exact places_5 xs back ls hl q kids (by have : arity 5 = 2 := rfl; omega) hkok ih q0 q7 w v s lv h l m
    · exact places_6 xs back ls hl q kids (by have : arity 6 = 1 := rfl; omega) hkok ih q0 q7 w v s lv h l m
    · exact places_7 xs back ls hl q kids (by have : arity 7 = 2 := rfl; omega) hkok ih q0 q7 w v s lv h l m

end Go.Proofs.Ytagnfckihdlhpaa

/-
  What the reference's l31Places computes; labels; HoldsOn of the program and of the reference.
-/
import Derived.Test.YtagnfckihdlhpaaPlacesAny
import Derived.Test.YtagnfckihdlhpaaPlacesS2
import Derived.Test.YtagnfckihdlhpaaPlacesS4
import Derived.Test.YtagnfckihdlhpaaPlacesS7
import Derived.Test.YtagnfckihdlhpaaFormLeft
import Derived.Test.YtagnfckihdlhpaaFormGoodI
import Derived.Test.YtagnfckihdlhpaaRunI
namespace Go.Proofs.Ytagnfckihdlhpaa
open Go.RowKit

theorem l31Places_any (xs : List Int) (back : Nat) (ls : List Int) (hl : LassoOK xs back ls) (f : Fm) : PlacesG xs back ls f := by
  induction f using Fm.induct with
  | h k q kids ih =>
    intro w v s lv h l m hok
    obtain ⟨⟨ha, q0, q7, _⟩, hkok⟩ := ok_parts hok
    have hk : 1 ≤ k ∧ k ≤ 7 := by unfold arity at ha; omega
    rcases kinds hk.1 hk.2 with rfl | rfl | rfl | rfl | rfl | rfl | rfl
    · exact l31Places_1 xs back ls hl q kids (by have : arity 1 = 0 := rfl; omega) hkok ih q0 q7 w v s lv h l m
    · exact l31Places_2 xs back ls hl q kids (by have : arity 2 = 0 := rfl; omega) hkok ih q0 q7 w v s lv h l m
    · exact l31Places_3 xs back ls hl q kids (by have : arity 3 = 1 := rfl; omega) hkok ih q0 q7 w v s lv h l m
    · exact l31Places_4 xs back ls hl q kids (by have : arity 4 = 2 := rfl; omega) hkok ih q0 q7 w v s lv h l m
    · exact l31Places_5 xs back ls hl q kids (by have : arity 5 = 2 := rfl; omega) hkok ih q0 q7 w v s lv h l m
    · exact l31Places_6 xs back ls hl q kids (by have : arity 6 = 1 := rfl; omega) hkok ih q0 q7 w v s lv h l m
    · exact l31Places_7 xs back ls hl q kids (by have : arity 7 = 2 := rfl; omega) hkok ih q0 q7 w v s lv h l m

def isLabels (ls : List Int) : Bool := decide (∀ l ∈ ls, 0 ≤ l ∧ l ≤ 255)
theorem isLabels_all {ls : List Int} (h : isLabels ls = true) : ∀ y ∈ ls, 0 ≤ y ∧ y ≤ 255 := by
  unfold isLabels at h
  exact of_decide_eq_true h
def inLabels (xs ls : List Int) : Bool := decide (∀ x ∈ xs, x < ls.length)
/-- What HoldsOn asks first. -/
def holdsPre (f : Fm) (xs : List Int) (back : Int) (ls : List Int) : Bool := isFormula f && isLasso xs back && isLabels ls
def holdsOn (f : Fm) (xs : List Int) (back : Int) (ls : List Int) : Bool := holdsPre f xs back ls && inLabels xs ls && Fm.hold xs.length back.toNat (labAt xs ls) f 0

set_option maxHeartbeats 400000 in
theorem labelsOK_any (ls : List Int) (w : World) (v : Value) (h : At w Any (ints ls) v) :
    Calls Try.prog 59 #[v] w fun e w' => e = .returned (.bool (isLabels ls)) ∧ w = w' := by
  obtain ⟨A, c, rfl, hn, hc⟩ := ints_slice h
  go_enter Try.func59, Try.ntmps59
  go_wp2_with fail
  go_loop [7] (fun i => ∃ k : Nat, k ≤ ls.length ∧ i = .int .i64 k ∧ ∀ y ∈ ls.take k, 0 ≤ y ∧ y ≤ 255) (fun i => ls.length - (intOf i).toNat)
  case atStart => exact ⟨0, Nat.zero_le _, rfl, by simp⟩
  case round =>
    obtain ⟨k, hk, rfl, hd⟩ := hrel
    have HD := Lib.hid hd
    clear hd
    by_cases hlt : k < ls.length
    · obtain ⟨b, off, y, rfl, _, hlb, c1, HY, _⟩ := ints_get h hlt
      by_cases hy : 0 ≤ y ∧ y ≤ 255
      · obtain ⟨hy0, hy1⟩ := hy
        go_wp2_with fail
        go_round
        case rel => exact ⟨k + 1, by omega, by go_num, all_take_succ HY.out HD.out ⟨by omega, by omega⟩⟩
        case measure => simp [intOf]; omega
      · have HF : Hid (isLabels ls = false) := by
          show isLabels ls = false
          simp only [isLabels, decide_eq_false_iff_not]
          exact fun hh => hy (hh y (List.mem_of_getElem? HY.out))
        have hcase : y < 0 ∨ (0 ≤ y ∧ 255 < y) := by omega
        clear hy
        rcases hcase with hy | ⟨hy, hy2⟩
        · go_wp2_with fail
          go_ret
          exact ⟨ret_bool HF.out.symm, rfl⟩
        · go_wp2_with fail
          go_ret
          exact ⟨ret_bool HF.out.symm, rfl⟩
    · have HF : Hid (isLabels ls = true) := by
        show isLabels ls = true
        have := HD.out
        rw [List.take_of_length_le (by omega)] at this
        simp only [isLabels, decide_eq_true_eq]
        exact this
      go_wp2_with fail
      go_ret
      exact ⟨ret_bool HF.out.symm, rfl⟩

set_option maxHeartbeats 400000 in
theorem l31Labels_any (ls : List Int) (w : World) (v : Value) (h : At w Any (ints ls) v) :
    Calls Try.prog 61 #[v] w fun e w' => e = .returned (.bool (isLabels ls)) ∧ w = w' := by
  obtain ⟨A, c, rfl, hn, hc⟩ := ints_slice h
  go_enter Try.func61, Try.ntmps61
  go_wp2_with fail
  go_loop [3] (fun i => ∃ k : Nat, k ≤ ls.length ∧ i = .int .i64 k ∧ ∀ y ∈ ls.take k, 0 ≤ y ∧ y ≤ 255) (fun i => ls.length - (intOf i).toNat)
  case atStart => exact ⟨0, Nat.zero_le _, rfl, by simp⟩
  case round =>
    obtain ⟨k, hk, rfl, hd⟩ := hrel
    have HD := Lib.hid hd
    clear hd
    by_cases hlt : k < ls.length
    · obtain ⟨b, off, y, rfl, _, hlb, c1, HY, _⟩ := ints_get h hlt
      by_cases hy : 0 ≤ y ∧ y ≤ 255
      · have hin : inB y 0 255 = true := inB_true.2 hy
        go_wp2_with fail
        refine (l1In_any _ _ _ _).mono ?_
        rintro e w' ⟨rfl, rfl⟩
        go_wp2_with fail
        go_round
        case rel => exact ⟨k + 1, by omega, by go_num, all_take_succ HY.out HD.out (inB_true.1 hin)⟩
        case measure => simp [intOf]; omega
      · have HF : Hid (isLabels ls = false) := by
          show isLabels ls = false
          simp only [isLabels, decide_eq_false_iff_not]
          exact fun hh => hy (hh y (List.mem_of_getElem? HY.out))
        have hin : inB y 0 255 = false := inB_false.2 hy
        clear hy
        go_wp2_with fail
        refine (l1In_any _ _ _ _).mono ?_
        rintro e w' ⟨rfl, rfl⟩
        go_wp2_with fail
        go_ret
        exact ⟨ret_bool HF.out.symm, rfl⟩
    · have HF : Hid (isLabels ls = true) := by
        show isLabels ls = true
        have := HD.out
        rw [List.take_of_length_le (by omega)] at this
        simp only [isLabels, decide_eq_true_eq]
        exact this
      go_wp2_with fail
      go_ret
      exact ⟨ret_bool HF.out.symm, rfl⟩

end Go.Proofs.Ytagnfckihdlhpaa

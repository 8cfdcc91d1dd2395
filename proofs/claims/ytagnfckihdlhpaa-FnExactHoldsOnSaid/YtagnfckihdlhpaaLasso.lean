/-
  What the functions on lassos compute: szLasso, toLasso, eqLasso, and IsLasso of the reference and of the program.
-/
import Derived.Test.YtagnfckihdlhpaaInts
import Derived.Deep.RegionHeld3
import Derived.Deep.DeepFit
namespace Go.Proofs.Ytagnfckihdlhpaa
open Go.RowKit

theorem took_neg {left n : Int} (h : took left n < 0) : took left n = -1 := by
  unfold took at h ⊢
  split at h <;> simp_all <;> omega
theorem took_range {left n : Int} (h1 : left ≤ 1048576) (hn : 0 ≤ n) : -1 ≤ took left n ∧ took left n ≤ 1048576 := by
  unfold took
  split <;> omega

set_option maxHeartbeats 400000 in
theorem szLasso_any (xs : List Int) (back left : Int) (w : World) (S : Nat → Prop) (v : Value) (h : At w S (ints xs) v) (h0 : -1 ≤ left) (h1 : left ≤ 1048576) :
    Calls Try.prog 10 #[.agg #[v, .int .i64 back], .int .i64 left] w fun e w' => e = .returned (.int .i64 (took left xs.length)) ∧ Below w.heap.size w w' := by
  obtain ⟨A, c, rfl, hn, hc⟩ := ints_slice h
  go_enter Try.func10, Try.ntmps10
  go_wp2_with (go_at_call 38; refine (szIntS_any xs _ _ S _ (h.alloc _) (by omega) (by omega)).mono ?_; rintro e w' ⟨rfl, rfl⟩)
  all_goals go_ret
  · exact ⟨ret_int (took_neg ‹_›).symm, (Below.refl _ _).alloc (Nat.le_refl _) _⟩
  · exact ⟨rfl, (Below.refl _ _).alloc (Nat.le_refl _) _⟩

set_option maxHeartbeats 400000 in
theorem toLasso_any (xs : List Int) (back : Int) (w : World) (S : Nat → Prop) (v : Value) (h : At w S (ints xs) v) (h1 : xs.length ≤ 1048576) :
    Calls Try.prog 12 #[.agg #[v, .int .i64 back]] w fun e w' => ∃ v', e = .returned (.agg #[v', .int .i64 back]) ∧ At w' (From w.heap.size) (ints xs) v' ∧ Below w.heap.size w w' := by
  obtain ⟨A, c, rfl, hn, hc⟩ := ints_slice h
  go_enter Try.func12, Try.ntmps12
  go_wp2_with fail
  refine (toIntS_any xs _ S _ (((h.alloc _).alloc _).alloc _) h1).mono ?_
  rintro e w1 ⟨v', rfl, ha, hb⟩
  obtain ⟨A', c', rfl, hn', hc'⟩ := ints_slice ha
  obtain ⟨hc1, hf1⟩ := bcell hb
  have hz : w.heap.size + 1 + 1 + 1 ≤ w1.heap.size := by have := hb.size; simpa using this
  go_wp2_with fail
  refine bodyPost_ret (v := .agg #[.slice A' xs.length c', .int .i64 back]) (by simp [results, Try.results12, go_sem, hc1]) rfl ⟨_, rfl, ?_, ?_⟩
  · refine At.mono ((((ha.setCell ?_ _).setCell ?_ _).setCell ?_ _).setCell ?_ _) ?_ <;> simp [From] <;> omega
  · repeat (first | with_reducible exact Below.refl _ _ | with_reducible refine Below.setCell ?_ (by first | omega | (simp <;> omega)) _ | with_reducible refine Below.drew ?_ | with_reducible refine below_drewN ?_ _ | with_reducible refine Below.alloc ?_ (by first | omega | (simp <;> omega)) _ | with_reducible refine Below.trans ?_ (Below.mono (by assumption) (by first | omega | (simp <;> omega))))

set_option maxHeartbeats 400000 in
theorem eqLasso_any (xs ys : List Int) (b1 b2 : Int) (w : World) (S T : Nat → Prop) (v u : Value) (h : At w S (ints xs) v) (g : At w T (ints ys) u) :
    Calls Try.prog 14 #[.agg #[v, .int .i64 b1], .agg #[u, .int .i64 b2]] w fun e w' => e = .returned (.bool (decide (xs = ys ∧ b1 = b2))) ∧ Below w.heap.size w w' := by
  obtain ⟨A, c, rfl, hn, hc⟩ := ints_slice h
  obtain ⟨A', c', rfl, hn', hc'⟩ := ints_slice g
  go_enter Try.func14, Try.ntmps14
  go_wp2_with fail
  refine (eqIntS_any xs ys _ S T _ _ ((h.alloc _).alloc _) ((g.alloc _).alloc _)).mono ?_
  rintro e w1 ⟨rfl, hb⟩
  obtain ⟨hc1, hf1⟩ := bcell hb
  go_wp2_with fail
  all_goals
    go_ret
    refine ⟨ret_bool ?_, ?_⟩
    · clear hc1 hf1 hb h g
      simp_all
    · repeat (first | with_reducible exact Below.refl _ _ | with_reducible refine Below.setCell ?_ (by first | omega | (simp <;> omega)) _ | with_reducible refine Below.drew ?_ | with_reducible refine below_drewN ?_ _ | with_reducible refine Below.alloc ?_ (by first | omega | (simp <;> omega)) _ | with_reducible refine Below.trans ?_ (Below.mono (by assumption) (by first | omega | (simp <;> omega))))

/-- What a lasso is. -/
def isLasso (xs : List Int) (back : Int) : Bool := decide (1 ≤ xs.length ∧ xs.length ≤ 40 ∧ 0 ≤ back ∧ back < xs.length ∧ ∀ x ∈ xs, 0 ≤ x)

theorem all_take_succ {α : Type} {xs : List α} {p : α → Prop} {k : Nat} {x : α} (hx : xs[k]? = some x) (h : ∀ y ∈ xs.take k, p y) (hp : p x) : ∀ y ∈ xs.take (k + 1), p y := by
  obtain ⟨h1, rfl⟩ := List.getElem?_eq_some_iff.1 hx
  rw [List.take_succ_eq_append_getElem h1]
  intro y hy
  rcases List.mem_append.1 hy with hy | hy
  · exact h y hy
  · simp at hy; subst hy; exact hp

set_option maxHeartbeats 400000 in
theorem implIsLasso_any (xs : List Int) (back : Int) (w : World) (S : Nat → Prop) (v : Value) (h : At w S (ints xs) v) :
    Calls Try.prog 13 #[.agg #[v, .int .i64 back]] w fun e w' => e = .returned (.bool (isLasso xs back)) ∧ Below w.heap.size w w' := by
  obtain ⟨A, c, rfl, hn, hc⟩ := ints_slice h
  go_enter Try.func13, Try.ntmps13
  go_wp2_with fail
  go_loop [9] (fun i => ∃ k : Nat, k ≤ xs.length ∧ i = .int .i64 k ∧ ∀ y ∈ xs.take k, 0 ≤ y) (fun i => xs.length - (intOf i).toNat)
  case atStart => exact ⟨0, Nat.zero_le _, rfl, by simp⟩
  case round =>
    obtain ⟨k, hk, rfl, hd⟩ := hrel
    have HD := Lib.hid hd
    clear hd
    by_cases hlt : k < xs.length
    · obtain ⟨b, off, x, rfl, _, hlb, hc1, HX, _⟩ := ints_get (h.alloc (Obj.cells #[Value.slice A xs.length c, Value.int IntKind.i64 back] 27)) hlt
      go_wp2_with fail
      · go_ret
        refine ⟨ret_bool ?_, ?_⟩
        · symm
          simp only [isLasso, decide_eq_false_iff_not]
          intro hh
          have := hh.2.2.2.2 x (List.mem_of_getElem? HX.out)
          omega
        · repeat (first | with_reducible exact Below.refl _ _ | with_reducible refine Below.setCell ?_ (by first | omega | (simp <;> omega)) _ | with_reducible refine Below.drew ?_ | with_reducible refine below_drewN ?_ _ | with_reducible refine Below.alloc ?_ (by first | omega | (simp <;> omega)) _ | with_reducible refine Below.trans ?_ (Below.mono (by assumption) (by first | omega | (simp <;> omega))))
      · go_round
        case rel => exact ⟨k + 1, by omega, by go_num, all_take_succ HX.out HD.out (by omega)⟩
        case measure => simp [intOf]; omega
    · have hall : ∀ y ∈ xs, 0 ≤ y := by have := HD.out; rwa [List.take_of_length_le (by omega)] at this
      have HA := Lib.hid hall
      clear hall
      go_wp2_with fail
      all_goals
        go_ret
        refine ⟨ret_bool ?_, ?_⟩
        · simp only [isLasso]
          first
            | (rw [decide_eq_decide]; exact ⟨fun hh => ⟨by omega, by omega, by omega, hh, HA.out⟩, fun hh => hh.2.2.2.1⟩)
            | (symm; rw [decide_eq_false_iff_not]; omega)
        · repeat (first | with_reducible exact Below.refl _ _ | with_reducible refine Below.setCell ?_ (by first | omega | (simp <;> omega)) _ | with_reducible refine Below.drew ?_ | with_reducible refine below_drewN ?_ _ | with_reducible refine Below.alloc ?_ (by first | omega | (simp <;> omega)) _ | with_reducible refine Below.trans ?_ (Below.mono (by assumption) (by first | omega | (simp <;> omega))))

set_option maxHeartbeats 400000 in
theorem specIsLasso_any (xs : List Int) (back : Int) (w : World) (S : Nat → Prop) (v : Value) (h : At w S (ints xs) v) :
    Calls Try.prog 11 #[.agg #[v, .int .i64 back]] w fun e w' => e = .returned (.bool (isLasso xs back)) ∧ Below w.heap.size w w' := by
  obtain ⟨A, c, rfl, hn, hc⟩ := ints_slice h
  by_cases h1 : 1 ≤ xs.length ∧ xs.length ≤ 40 ∧ 0 ≤ back ∧ back ≤ xs.length - 1
  · obtain ⟨h1, h2, h3, h4⟩ := h1
    have hd : inB back 0 ((xs.length : Int) - 1) = true := inB_true.2 (by omega)
    go_enter Try.func11, Try.ntmps11
    go_wp2_with (go_at_call 39; refine (l1In_any _ _ _ _).mono ?_; rintro e w' ⟨rfl, rfl⟩)
    go_loop [3] (fun i => ∃ k : Nat, k ≤ xs.length ∧ i = .int .i64 k ∧ ∀ y ∈ xs.take k, 0 ≤ y) (fun i => xs.length - (intOf i).toNat)
    case atStart => exact ⟨0, Nat.zero_le _, rfl, by simp⟩
    case round =>
      obtain ⟨k, hk, rfl, hd⟩ := hrel
      have HD := Lib.hid hd
      clear hd
      by_cases hlt : k < xs.length
      · obtain ⟨b, off, x, rfl, _, hlb, hc1, HX, _⟩ := ints_get (h.alloc (Obj.cells #[Value.slice A xs.length c, Value.int IntKind.i64 back] 27)) hlt
        go_wp2_with fail
        · go_ret
          refine ⟨ret_bool ?_, ?_⟩
          · symm
            simp only [isLasso, decide_eq_false_iff_not]
            intro hh
            have := hh.2.2.2.2 x (List.mem_of_getElem? HX.out)
            omega
          · repeat (first | with_reducible exact Below.refl _ _ | with_reducible refine Below.setCell ?_ (by first | omega | (simp <;> omega)) _ | with_reducible refine Below.drew ?_ | with_reducible refine below_drewN ?_ _ | with_reducible refine Below.alloc ?_ (by first | omega | (simp <;> omega)) _ | with_reducible refine Below.trans ?_ (Below.mono (by assumption) (by first | omega | (simp <;> omega))))
        · go_round
          case rel => exact ⟨k + 1, by omega, by go_num, all_take_succ HX.out HD.out (by omega)⟩
          case measure => simp [intOf]; omega
      · have hall : ∀ y ∈ xs, 0 ≤ y := by have := HD.out; rwa [List.take_of_length_le (by omega)] at this
        have HA := Lib.hid hall
        clear hall
        go_wp2_with fail
        go_ret
        refine ⟨ret_bool ?_, ?_⟩
        · symm
          simp only [isLasso, decide_eq_true_eq]
          exact ⟨by omega, by omega, by omega, by omega, HA.out⟩
        · repeat (first | with_reducible exact Below.refl _ _ | with_reducible refine Below.setCell ?_ (by first | omega | (simp <;> omega)) _ | with_reducible refine Below.drew ?_ | with_reducible refine below_drewN ?_ _ | with_reducible refine Below.alloc ?_ (by first | omega | (simp <;> omega)) _ | with_reducible refine Below.trans ?_ (Below.mono (by assumption) (by first | omega | (simp <;> omega))))
  · have HF : Hid (isLasso xs back = false) := by
      show isLasso xs back = false
      simp only [isLasso, decide_eq_false_iff_not]
      omega
    have hcase : xs.length < 1 ∨ 40 < xs.length ∨ (1 ≤ xs.length ∧ xs.length ≤ 40 ∧ inB back 0 ((xs.length : Int) - 1) = false) := by rw [inB_false]; omega
    clear h1
    rcases hcase with h1 | h1 | ⟨h1, h2, h3⟩
    all_goals
      go_enter Try.func11, Try.ntmps11
      go_wp2_with (go_at_call 39; refine (l1In_any _ _ _ _).mono ?_; rintro e w' ⟨rfl, rfl⟩)
      go_ret
      refine ⟨ret_bool HF.out.symm, ?_⟩
      repeat (first | with_reducible exact Below.refl _ _ | with_reducible refine Below.setCell ?_ (by first | omega | (simp <;> omega)) _ | with_reducible refine Below.drew ?_ | with_reducible refine below_drewN ?_ _ | with_reducible refine Below.alloc ?_ (by first | omega | (simp <;> omega)) _ | with_reducible refine Below.trans ?_ (Below.mono (by assumption) (by first | omega | (simp <;> omega))))

end Go.Proofs.Ytagnfckihdlhpaa

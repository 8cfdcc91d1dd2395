/-
  What the small functions on graphs and lassos compute: l1HasInt, slices.Contains, l32Edges, followers, l31After.
-/
import Derived.Test.YtagnfckihdlhpaaGraphS
namespace Go.Proofs.Ytagnfckihdlhpaa
open Go.RowKit

def hasB (xs : List Int) (x : Int) : Bool := decide (x ∈ xs)
theorem hasB_true {xs : List Int} {x : Int} (h : x ∈ xs) : hasB xs x = true := decide_eq_true h
theorem hasB_false {xs : List Int} {x : Int} (h : ¬ x ∈ xs) : hasB xs x = false := decide_eq_false h
theorem not_mem_take_all {xs : List Int} {x : Int} {k : Nat} (hk : xs.length ≤ k) (h : ∀ y ∈ xs.take k, y ≠ x) : ¬ x ∈ xs := fun hm => by
  rw [List.take_of_length_le hk] at h
  exact h x hm rfl

set_option maxHeartbeats 400000 in
theorem l1HasInt_any (xs : List Int) (x : Int) (w : World) (v : Value) (h : At w Any (ints xs) v) :
    Calls Try.prog 63 #[v, .int .i64 x] w fun e w' => e = .returned (.bool (hasB xs x)) ∧ w = w' := by
  obtain ⟨A, c, rfl, hn, hc⟩ := ints_slice h
  go_enter Try.func63, Try.ntmps63
  go_wp2_with fail
  go_loop [5] (fun i => ∃ k : Nat, k ≤ xs.length ∧ i = .int .i64 k ∧ ∀ y ∈ xs.take k, y ≠ x) (fun i => xs.length - (intOf i).toNat)
  case atStart => exact ⟨0, Nat.zero_le _, rfl, by simp⟩
  case round =>
    obtain ⟨k, hk, rfl, hd⟩ := hrel
    have HD := Lib.hid hd
    clear hd
    by_cases hlt : k < xs.length
    · obtain ⟨b, off, y, rfl, _, hlb, c1, HY, _⟩ := ints_get h hlt
      by_cases e : y = x
      · subst e
        have e' : (y == y) = true := by simp
        have HF : Hid (hasB xs y = true) := hasB_true (List.mem_of_getElem? HY.out)
        go_wp2_with fail
        go_ret
        exact ⟨ret_bool HF.out.symm, rfl⟩
      · have e' : (y == x) = false := by rw [beq_eq_false_iff_ne]; exact e
        have HE := Lib.hid e
        clear e
        go_wp2_with fail
        go_round
        case rel => exact ⟨k + 1, by omega, by go_num, all_take_succ HY.out HD.out HE.out⟩
        case measure => simp [intOf]; omega
    · have HF : Hid (hasB xs x = false) := hasB_false (not_mem_take_all (by omega) HD.out)
      go_wp2_with fail
      go_ret
      exact ⟨ret_bool HF.out.symm, rfl⟩

/-- The place of the first x, or -1. -/
def indexOf (xs : List Int) (x : Int) : Int := if x ∈ xs then (xs.idxOf x : Int) else -1
theorem indexOf_ge {xs : List Int} {x : Int} : decide (0 ≤ indexOf xs x) = hasB xs x := by
  unfold indexOf hasB
  by_cases h : x ∈ xs
  · rw [if_pos h]; simp [h]
  · rw [if_neg h]; simp [h]
theorem indexOf_at {xs : List Int} {x : Int} {k : Nat} (hx : xs[k]? = some x) (h : ∀ y ∈ xs.take k, y ≠ x) : indexOf xs x = k := by
  have hm := List.mem_of_getElem? hx
  unfold indexOf
  rw [if_pos hm]
  obtain ⟨hk, he⟩ := List.getElem?_eq_some_iff.1 hx
  have e : xs.idxOf x = k := by
    have e1 : xs = xs.take k ++ xs.drop k := (List.take_append_drop k xs).symm
    rw [e1, List.idxOf_append, if_neg (fun hm => h x hm rfl), List.drop_eq_getElem_cons hk, he]
    simp
    omega
  rw [e]
theorem indexOf_range (xs : List Int) (x : Int) : -1 ≤ indexOf xs x ∧ indexOf xs x ≤ xs.length := by
  unfold indexOf
  have := List.idxOf_le_length (a := x) (l := xs)
  split <;> omega

set_option maxHeartbeats 400000 in
theorem slicesIndex_any (xs : List Int) (x : Int) (w : World) (v : Value) (h : At w Any (ints xs) v) :
    Calls Try.prog 78 #[v, .int .i64 x] w fun e w' => e = .returned (.int .i64 (indexOf xs x)) ∧ w = w' := by
  obtain ⟨A, c, rfl, hn, hc⟩ := ints_slice h
  go_enter Try.func78, Try.ntmps78
  go_wp2_with fail
  go_loop [8] (fun i => ∃ k : Nat, k ≤ xs.length ∧ i = .int .i64 k ∧ ∀ y ∈ xs.take k, y ≠ x) (fun i => xs.length - (intOf i).toNat)
  case atStart => exact ⟨0, Nat.zero_le _, rfl, by simp⟩
  case round =>
    obtain ⟨k, hk, rfl, hd⟩ := hrel
    have HD := Lib.hid hd
    clear hd
    by_cases hlt : k < xs.length
    · obtain ⟨b, off, y, rfl, _, hlb, c1, HY, _⟩ := ints_get h hlt
      by_cases e : y = x
      · subst e
        have e' : (y == y) = true := by simp
        have HF : Hid (indexOf xs y = k) := indexOf_at HY.out HD.out
        go_wp2_with fail
        go_ret
        exact ⟨ret_int HF.out.symm, rfl⟩
      · have e' : (x == y) = false := by rw [beq_eq_false_iff_ne]; exact fun h => e h.symm
        have HE := Lib.hid e
        clear e
        go_wp2_with fail
        go_round
        case rel => exact ⟨k + 1, by omega, by go_num, all_take_succ HY.out HD.out HE.out⟩
        case measure => simp [intOf]; omega
    · have HF : Hid (indexOf xs x = -1) := by show indexOf xs x = -1; unfold indexOf; rw [if_neg (not_mem_take_all (by omega) HD.out)]
      go_wp2_with fail
      go_ret
      exact ⟨ret_int HF.out.symm, rfl⟩

theorem slicesContains_any (xs : List Int) (x : Int) (w : World) (v : Value) (h : At w Any (ints xs) v) :
    Calls Try.prog 66 #[v, .int .i64 x] w fun e w' => e = .returned (.bool (hasB xs x)) ∧ w = w' := by
  have HR := Lib.hid (@indexOf_ge xs x)
  obtain ⟨A, c, rfl, hn, hc⟩ := ints_slice h
  go_enter Try.func66, Try.ntmps66
  go_wp2_with fail
  refine (slicesIndex_any xs x _ _ h).mono ?_
  rintro e w' ⟨rfl, rfl⟩
  go_wp2_with fail
  go_ret
  exact ⟨ret_bool HR.out, rfl⟩

/-- The states that may follow one. -/
def follow (g : Gr) (i : Nat) : List Int := if g.edges.getD i [] = [] then [(i : Int)] else g.edges.getD i []

theorem new_ints (w : World) (x : Int) (hx : -9223372036854775808 ≤ x ∧ x ≤ 9223372036854775807) (B : Nat) (hB : B = w.heap.size) : At (w.alloc (.cells #[.int .i64 x] 3)) Any (ints [x]) (.slice (some ⟨B, 0, none⟩) 1 1) := by
  subst hB
  exact ints_mk (xs := [x]) (by simp) (by omega) fun _ => ⟨w.heap.size, 0, rfl, trivial, fun k hk => by
    obtain rfl : k = 0 := by simp at hk; omega
    exact ⟨(Blk.new w 3 #[.int .i64 x]).c1, WalkArith.wf_i64 hx⟩⟩

set_option maxHeartbeats 400000 in
theorem l32Edges_any (g : Gr) (i : Nat) (hi : i < g.edges.length) (w : World) (v u : Value) (h : At w Any (terms g.states) v) (k : At w Any (rows g.edges) u) :
    Calls Try.prog 64 #[.agg #[v, u, .bool g.whole], .int .i64 i] w fun e w' => ∃ v', e = .returned v' ∧ At w' Any (ints (follow g i)) v' ∧ Below w.heap.size w w' := by
  obtain ⟨A, c, rfl, hn, hc⟩ := terms_slice h
  obtain ⟨E, d, rfl, hm, hd⟩ := rows_slice k
  obtain ⟨b, off, xs, x, rfl, _, hlb, c1, hx, HX⟩ := rows_get (k.alloc (.cells #[.slice A g.states.length c, .slice E g.edges.length d, .bool g.whole] 50)) hi
  obtain ⟨Au, cu, rfl, hnu, hcu⟩ := ints_slice hx
  have hg : g.edges.getD i [] = xs := by simp [List.getD, HX.out]
  by_cases e : xs = []
  · have HF : Hid (follow g i = [(i : Int)]) := by show follow g i = _; unfold follow; rw [hg, if_pos e]
    have e' : ((xs.length : Int) == 0) = true := by rw [e]; rfl
    clear e hg
    go_enter Try.func64, Try.ntmps64
    go_wp2_with fail
    go_ret
    refine ⟨_, rfl, ?_, by repeat (first | with_reducible exact Below.refl _ _ | with_reducible refine Below.setCell ?_ (by first | omega | (simp <;> omega)) _ | with_reducible refine Below.drew ?_ | with_reducible refine below_drewN ?_ _ | with_reducible refine Below.alloc ?_ (by first | omega | (simp <;> omega)) _ | with_reducible refine Below.trans ?_ (Below.mono (by assumption) (by first | omega | (simp <;> omega))))⟩
    rw [HF.out]
    exact new_ints _ (i : Int) ⟨by omega, by omega⟩ (w.heap.size + 1) (World.size_alloc _ _).symm
  · have HF : Hid (follow g i = xs) := by show follow g i = _; unfold follow; rw [hg, if_neg e]
    have e' : ((xs.length : Int) == 0) = false := by rw [beq_eq_false_iff_ne]; intro h0; exact e (List.eq_nil_of_length_eq_zero (by omega))
    clear e hg
    go_enter Try.func64, Try.ntmps64
    go_wp2_with fail
    go_ret
    refine ⟨_, rfl, ?_, by repeat (first | with_reducible exact Below.refl _ _ | with_reducible refine Below.setCell ?_ (by first | omega | (simp <;> omega)) _ | with_reducible refine Below.drew ?_ | with_reducible refine below_drewN ?_ _ | with_reducible refine Below.alloc ?_ (by first | omega | (simp <;> omega)) _ | with_reducible refine Below.trans ?_ (Below.mono (by assumption) (by first | omega | (simp <;> omega))))⟩
    rw [HF.out]
    exact hx

set_option maxHeartbeats 400000 in
theorem followers_any (g : Gr) (i : Nat) (hi : i < g.edges.length) (w : World) (v u : Value) (h : At w Any (terms g.states) v) (k : At w Any (rows g.edges) u) :
    Calls Try.prog 67 #[.agg #[v, u, .bool g.whole], .int .i64 i] w fun e w' => ∃ v', e = .returned v' ∧ At w' Any (ints (follow g i)) v' ∧ Below w.heap.size w w' := by
  obtain ⟨A, c, rfl, hn, hc⟩ := terms_slice h
  obtain ⟨E, d, rfl, hm, hd⟩ := rows_slice k
  obtain ⟨b, off, xs, x, rfl, _, hlb, c1, hx, HX⟩ := rows_get (k.alloc (.cells #[.slice A g.states.length c, .slice E g.edges.length d, .bool g.whole] 50)) hi
  obtain ⟨Au, cu, rfl, hnu, hcu⟩ := ints_slice hx
  have hg : g.edges.getD i [] = xs := by simp [List.getD, HX.out]
  by_cases e : xs = []
  · have HF : Hid (follow g i = [(i : Int)]) := by show follow g i = _; unfold follow; rw [hg, if_pos e]
    have e' : ((xs.length : Int) == 0) = true := by rw [e]; rfl
    clear e hg
    go_enter Try.func67, Try.ntmps67
    go_wp2_with fail
    go_ret
    refine ⟨_, rfl, ?_, by repeat (first | with_reducible exact Below.refl _ _ | with_reducible refine Below.setCell ?_ (by first | omega | (simp <;> omega)) _ | with_reducible refine Below.drew ?_ | with_reducible refine below_drewN ?_ _ | with_reducible refine Below.alloc ?_ (by first | omega | (simp <;> omega)) _ | with_reducible refine Below.trans ?_ (Below.mono (by assumption) (by first | omega | (simp <;> omega))))⟩
    rw [HF.out]
    exact new_ints _ (i : Int) ⟨by omega, by omega⟩ (w.heap.size + 1) (World.size_alloc _ _).symm
  · have HF : Hid (follow g i = xs) := by show follow g i = _; unfold follow; rw [hg, if_neg e]
    have e' : ((xs.length : Int) == 0) = false := by rw [beq_eq_false_iff_ne]; intro h0; exact e (List.eq_nil_of_length_eq_zero (by omega))
    clear e hg
    go_enter Try.func67, Try.ntmps67
    go_wp2_with fail
    go_ret
    refine ⟨_, rfl, ?_, by repeat (first | with_reducible exact Below.refl _ _ | with_reducible refine Below.setCell ?_ (by first | omega | (simp <;> omega)) _ | with_reducible refine Below.drew ?_ | with_reducible refine below_drewN ?_ _ | with_reducible refine Below.alloc ?_ (by first | omega | (simp <;> omega)) _ | with_reducible refine Below.trans ?_ (Below.mono (by assumption) (by first | omega | (simp <;> omega))))⟩
    rw [HF.out]
    exact hx

/-- The place behind a place of a lasso. -/
def afterP (n : Nat) (back : Int) (i : Nat) : Int := if i + 1 < n then (i + 1 : Nat) else back

set_option maxHeartbeats 400000 in
theorem l31After_any (xs : List Int) (back : Int) (i : Nat) (hi : i < xs.length) (w : World) (v : Value) (h : At w Any (ints xs) v) :
    Calls Try.prog 65 #[.agg #[v, .int .i64 back], .int .i64 i] w fun e w' => e = .returned (.int .i64 (afterP xs.length back i)) ∧ Below w.heap.size w w' := by
  obtain ⟨A, c, rfl, hn, hc⟩ := ints_slice h
  by_cases e : i + 1 < xs.length
  · have HF : Hid (afterP xs.length back i = (i + 1 : Nat)) := by show afterP _ _ _ = _; unfold afterP; rw [if_pos e]
    go_enter Try.func65, Try.ntmps65
    go_wp2_with fail
    go_ret
    exact ⟨ret_int (by rw [HF.out]; omega), by repeat (first | with_reducible exact Below.refl _ _ | with_reducible refine Below.setCell ?_ (by first | omega | (simp <;> omega)) _ | with_reducible refine Below.drew ?_ | with_reducible refine below_drewN ?_ _ | with_reducible refine Below.alloc ?_ (by first | omega | (simp <;> omega)) _ | with_reducible refine Below.trans ?_ (Below.mono (by assumption) (by first | omega | (simp <;> omega))))⟩
  · have HF : Hid (afterP xs.length back i = back) := by show afterP _ _ _ = _; unfold afterP; rw [if_neg e]
    go_enter Try.func65, Try.ntmps65
    go_wp2_with fail
    go_ret
    exact ⟨ret_int HF.out.symm, by repeat (first | with_reducible exact Below.refl _ _ | with_reducible refine Below.setCell ?_ (by first | omega | (simp <;> omega)) _ | with_reducible refine Below.drew ?_ | with_reducible refine below_drewN ?_ _ | with_reducible refine Below.alloc ?_ (by first | omega | (simp <;> omega)) _ | with_reducible refine Below.trans ?_ (Below.mono (by assumption) (by first | omega | (simp <;> omega))))⟩

end Go.Proofs.Ytagnfckihdlhpaa

/-
  The law FnExactIsLasso returns true for every argument, and leaves its argument as it was.
-/
import Derived.Test.YtagnfckihdlhpaaLasso
namespace Go.Proofs.Ytagnfckihdlhpaa
open Go.RowKit

set_option maxHeartbeats 1000000 in
theorem fnExactIsLasso_any (xs : List Int) (back : Int) (w : World) (S : Nat → Prop) (v : Value) (h : At w S (ints xs) v) :
    Calls Try.prog 3 #[.agg #[v, .int .i64 back]] w fun e w' => e = .returned (.bool true) ∧ Below w.heap.size w w' := by
  obtain ⟨A, c, rfl, hn, hc⟩ := ints_slice h
  have hB0 := Blk.new w 24 #[.slice A xs.length c, .int .i64 back]
  by_cases hle : xs.length ≤ 1048576
  · have ht : 0 ≤ took 1048576 xs.length := by unfold took; split <;> omega
    go_enter Try.func3, Try.ntmps3
    go_wp2_with fail
    refine (szLasso_any xs back _ _ S _ (h.alloc _) (by omega) (by omega)).mono ?_
    rintro e w1 ⟨rfl, hb1⟩
    have h1 := (h.alloc _).below hb1
    have hB1 := hB0.next hb1
    obtain ⟨_, _⟩ := hB1.c2
    go_wp2_with fail
    refine (toLasso_any xs back _ S _ h1 hle).mono ?_
    rintro e w2 ⟨v2, rfl, ha2, hb2⟩
    obtain ⟨A2, c2, rfl, hn2, hcc2⟩ := ints_slice ha2
    have h2 := h1.below hb2
    have hB2 := hB1.next hb2
    go_wp2_with fail
    refine (specIsLasso_any xs back _ _ _ ha2).mono ?_
    rintro e w3 ⟨rfl, hb3⟩
    have h3 := h2.below hb3
    have hB3 := hB2.next hb3
    obtain ⟨_, _⟩ := hB3.c2
    go_wp2_with fail
    refine (toLasso_any xs back _ S _ h3 hle).mono ?_
    rintro e w4 ⟨v4, rfl, ha4, hb4⟩
    obtain ⟨A4, c4, rfl, hn4, hcc4⟩ := ints_slice ha4
    have h4 := h3.below hb4
    have hB4 := hB3.next hb4
    go_wp2_with fail
    refine (implIsLasso_any xs back _ _ _ (ha4.alloc _)).mono ?_
    rintro e w5 ⟨rfl, hb5⟩
    have h5 := (h4.alloc _).below hb5
    have ha5 := (ha4.alloc _).below hb5
    have hB5 := (hB4.alloc _).next hb5
    have hX5 := (Blk.new w4 27 #[.slice A4 xs.length c4, .int .i64 back]).next hb5
    have hbq : (isLasso xs back != isLasso xs back) = false := by simp
    go_wp2_with fail
    obtain ⟨k1, k2⟩ := hX5.c2
    obtain ⟨k3, k4⟩ := hB5.c2
    go_region_held3 (fun w' => w'.cell? ⟨w4.heap.size, 0, none⟩ = some (.slice A4 xs.length c4) ∧ w'.cell? ⟨w4.heap.size, 1, none⟩ = some (.int .i64 back) ∧ w'.cell? ⟨w.heap.size, 0, none⟩ = some (.slice A xs.length c) ∧ w'.cell? ⟨w.heap.size, 1, none⟩ = some (.int .i64 back)) (go_keep)
      (first | (go_at_call 12; refine (toLasso_any xs back _ S _ ?_ hle).mono ?_; (exact h5.drew); rintro e w6 ⟨v6, rfl, ha6, hb6⟩; obtain ⟨A6, c6, rfl, hn6, hcc6⟩ := ints_slice ha6; have ha5' := ha5.drew.below hb6; have hX6 := hX5.drew.next hb6; have hB6 := hB5.drew.next hb6; obtain ⟨k1, k2⟩ := hX6.c2; obtain ⟨k3, k4⟩ := hB6.c2) | (go_at_call 14; refine (eqLasso_any xs xs back back _ Any Any _ _ ?_ ?_).mono ?_; (exact ha5'.any); (exact ha6.any); rintro e w7 ⟨rfl, hb7⟩; obtain ⟨k1, k2⟩ := (hX6.next hb7).c2; obtain ⟨k3, k4⟩ := (hB6.next hb7).c2))
    go_wp2_with fail
    go_ret
    refine ⟨rfl, ?_⟩
    have z1 := hb1.size; have z2 := hb2.size; have z3 := hb3.size; have z4 := hb4.size; have z5 := hb5.size; have z6 := hb6.size
    simp at z1 z5 z6
    repeat (first | with_reducible exact Below.refl _ _ | with_reducible refine Below.setCell ?_ (by first | omega | (simp <;> omega)) _ | with_reducible refine Below.drew ?_ | with_reducible refine below_drewN ?_ _ | with_reducible refine Below.alloc ?_ (by first | omega | (simp <;> omega)) _ | with_reducible refine Below.trans ?_ (Below.mono (by assumption) (by first | omega | (simp <;> omega))))
  · have ht : took 1048576 xs.length < 0 := by unfold took; split <;> omega
    go_enter Try.func3, Try.ntmps3
    go_wp2_with fail
    refine (szLasso_any xs back _ _ S _ (h.alloc _) (by omega) (by omega)).mono ?_
    rintro e w1 ⟨rfl, hb1⟩
    go_wp2_with fail
    go_ret
    refine ⟨rfl, ?_⟩
    repeat (first | with_reducible exact Below.refl _ _ | with_reducible refine Below.setCell ?_ (by first | omega | (simp <;> omega)) _ | with_reducible refine Below.drew ?_ | with_reducible refine below_drewN ?_ _ | with_reducible refine Below.alloc ?_ (by first | omega | (simp <;> omega)) _ | with_reducible refine Below.trans ?_ (Below.mono (by assumption) (by first | omega | (simp <;> omega))))

end Go.Proofs.Ytagnfckihdlhpaa

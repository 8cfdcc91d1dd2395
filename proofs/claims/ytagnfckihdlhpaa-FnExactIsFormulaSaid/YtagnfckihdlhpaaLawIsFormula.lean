/-
  The law FnExactIsFormula returns true for every argument, and leaves its argument as it was.
-/
import Derived.Test.YtagnfckihdlhpaaFormLeft
import Derived.Test.YtagnfckihdlhpaaFormGoodI
namespace Go.Proofs.Ytagnfckihdlhpaa
open Go.RowKit

set_option maxHeartbeats 1000000 in
theorem fnExactIsFormula_any (f : Fm) (w : World) (v : Value) (h : At w Any (forms f.kids) v) :
    Calls Try.prog 4 #[.agg #[.int .i64 f.kind, .int .i64 f.prop, v]] w fun e w' => e = .returned (.bool true) ∧ Below w.heap.size w w' := by
  obtain ⟨A, c, rfl, hn, hc⟩ := forms_slice h
  have hB0 := Blk.new w 33 #[.int .i64 f.kind, .int .i64 f.prop, .slice A f.kids.length c]
  by_cases hle : f.total ≤ 1048576
  · have ht : 0 ≤ took 1048576 f.total := by unfold took; split <;> omega
    go_enter Try.func4, Try.ntmps4
    go_wp2_with fail
    refine (szFormula_any f _ _ Any _ (h.alloc _) (by omega) (by omega)).mono ?_
    rintro e w1 ⟨rfl, hb1⟩
    have h1 := (h.alloc _).below hb1
    have hB1 := hB0.next hb1
    obtain ⟨_, _, _⟩ := hB1.c3
    go_wp2_with fail
    refine (toFormula_any f _ Any _ h1 hle).mono ?_
    rintro e w2 ⟨v2, rfl, ha2, hb2⟩
    obtain ⟨A2, c2, rfl, hn2, hcc2⟩ := forms_slice ha2
    have h2 := h1.below hb2
    have hB2 := hB1.next hb2
    go_wp2_with fail
    refine (specIsFormula_any f _ _ ha2.any).mono ?_
    rintro e w3 ⟨rfl, hb3⟩
    have h3 := h2.below hb3
    have hB3 := hB2.next hb3
    obtain ⟨_, _, _⟩ := hB3.c3
    go_wp2_with fail
    refine (toFormula_any f _ Any _ h3 hle).mono ?_
    rintro e w4 ⟨v4, rfl, ha4, hb4⟩
    obtain ⟨A4, c4, rfl, hn4, hcc4⟩ := forms_slice ha4
    have h4 := h3.below hb4
    have hB4 := hB3.next hb4
    go_wp2_with fail
    refine (implIsFormula_any f _ _ (ha4.any.alloc _) hle).mono ?_
    rintro e w5 ⟨rfl, hb5⟩
    have h5 := (h4.alloc _).below hb5
    have ha5 := (ha4.any.alloc _).below hb5
    have hB5 := (hB4.alloc _).next hb5
    have hX5 := (Blk.new w4 38 #[.int .i64 f.kind, .int .i64 f.prop, .slice A4 f.kids.length c4]).next hb5
    have hbq : (isFormula f != isFormula f) = false := by simp
    go_wp2_with fail
    obtain ⟨k1, k2, k3⟩ := hX5.c3
    obtain ⟨k4, k5, k6⟩ := hB5.c3
    go_region_held3 (fun w' => w'.cell? ⟨w4.heap.size, 0, none⟩ = some (.int .i64 f.kind) ∧ w'.cell? ⟨w4.heap.size, 1, none⟩ = some (.int .i64 f.prop) ∧ w'.cell? ⟨w4.heap.size, 2, none⟩ = some (.slice A4 f.kids.length c4) ∧
        w'.cell? ⟨w.heap.size, 0, none⟩ = some (.int .i64 f.kind) ∧ w'.cell? ⟨w.heap.size, 1, none⟩ = some (.int .i64 f.prop) ∧ w'.cell? ⟨w.heap.size, 2, none⟩ = some (.slice A f.kids.length c)) (go_keep)
      (first | (go_at_call 17; refine (toFormula_any f _ Any _ ?_ hle).mono ?_; (exact h5.drew); rintro e w6 ⟨v6, rfl, ha6, hb6⟩; obtain ⟨A6, c6, rfl, hn6, hcc6⟩ := forms_slice ha6; have ha5' := ha5.drew.below hb6; have hX6 := hX5.drew.next hb6; have hB6 := hB5.drew.next hb6; obtain ⟨k1, k2, k3⟩ := hX6.c3; obtain ⟨k4, k5, k6⟩ := hB6.c3) | (go_at_call 19; refine (eqFormula_any f _ _ _ ?_ ?_).mono ?_; (exact ha5'); (exact ha6.any); rintro e w7 ⟨rfl, hb7⟩; obtain ⟨k1, k2, k3⟩ := (hX6.next hb7).c3; obtain ⟨k4, k5, k6⟩ := (hB6.next hb7).c3))
    go_wp2_with fail
    go_ret
    refine ⟨rfl, ?_⟩
    have z1 := hb1.size; have z2 := hb2.size; have z3 := hb3.size; have z4 := hb4.size; have z5 := hb5.size; have z6 := hb6.size
    simp at z1 z5 z6
    repeat (first | with_reducible exact Below.refl _ _ | with_reducible refine Below.setCell ?_ (by first | omega | (simp <;> omega)) _ | with_reducible refine Below.drew ?_ | with_reducible refine below_drewN ?_ _ | with_reducible refine Below.alloc ?_ (by first | omega | (simp <;> omega)) _ | with_reducible refine Below.trans ?_ (Below.mono (by assumption) (by first | omega | (simp <;> omega))))
  · have ht : took 1048576 f.total < 0 := by unfold took; split <;> omega
    go_enter Try.func4, Try.ntmps4
    go_wp2_with fail
    refine (szFormula_any f _ _ Any _ (h.alloc _) (by omega) (by omega)).mono ?_
    rintro e w1 ⟨rfl, hb1⟩
    go_wp2_with fail
    go_ret
    refine ⟨rfl, ?_⟩
    repeat (first | with_reducible exact Below.refl _ _ | with_reducible refine Below.setCell ?_ (by first | omega | (simp <;> omega)) _ | with_reducible refine Below.drew ?_ | with_reducible refine below_drewN ?_ _ | with_reducible refine Below.alloc ?_ (by first | omega | (simp <;> omega)) _ | with_reducible refine Below.trans ?_ (Below.mono (by assumption) (by first | omega | (simp <;> omega))))

end Go.Proofs.Ytagnfckihdlhpaa

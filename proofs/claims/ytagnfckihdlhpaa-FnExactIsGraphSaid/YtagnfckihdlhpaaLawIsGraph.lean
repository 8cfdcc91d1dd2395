/-
  The law FnExactIsGraph returns true for every argument, and leaves its argument as it was.
-/
import Derived.Test.YtagnfckihdlhpaaGraphS
namespace Go.Proofs.Ytagnfckihdlhpaa
open Go.RowKit

set_option maxHeartbeats 1000000 in
theorem fnExactIsGraph_any (g : Gr) (w : World) (v u : Value) (h : At w Any (terms g.states) v) (k : At w Any (rows g.edges) u) :
    Calls Try.prog 5 #[.agg #[v, u, .bool g.whole]] w fun e w' => e = .returned (.bool true) ∧ Below w.heap.size w w' := by
  obtain ⟨A, c, rfl, hn, hc⟩ := terms_slice h
  obtain ⟨E, d, rfl, hm, hd⟩ := rows_slice k
  have hB0 := Blk.new w 45 #[.slice A g.states.length c, .slice E g.edges.length d, .bool g.whole]
  by_cases hle : g.total ≤ 1048576
  · have ht : 0 ≤ took 1048576 g.total := by unfold took; split <;> omega
    go_enter Try.func5, Try.ntmps5
    go_wp2_with fail
    refine (szGraph_any g _ _ _ _ (h.alloc _) (k.alloc _) (by omega) (by omega)).mono ?_
    rintro e w1 ⟨rfl, hb1⟩
    have h1 := (h.alloc _).below hb1
    have k1 := (k.alloc _).below hb1
    have hB1 := hB0.next hb1
    obtain ⟨_, _, _⟩ := hB1.c3
    go_wp2_with fail
    refine (toGraph_any g _ _ _ h1 k1 hle).mono ?_
    rintro e w2 ⟨v2, u2, rfl, ha2, hk2, hb2⟩
    obtain ⟨A2, c2, rfl, hn2, hcc2⟩ := terms_slice ha2
    obtain ⟨E2, d2, rfl, hm2, hd2⟩ := rows_slice hk2
    have h2 := h1.below hb2
    have k2 := k1.below hb2
    have hB2 := hB1.next hb2
    go_wp2_with fail
    refine (specIsGraph_any g _ _ _ ha2.any hk2.any).mono ?_
    rintro e w3 ⟨rfl, hb3⟩
    have h3 := h2.below hb3
    have k3 := k2.below hb3
    have hB3 := hB2.next hb3
    obtain ⟨_, _, _⟩ := hB3.c3
    go_wp2_with fail
    refine (toGraph_any g _ _ _ h3 k3 hle).mono ?_
    rintro e w4 ⟨v4, u4, rfl, ha4, hk4, hb4⟩
    obtain ⟨A4, c4, rfl, hn4, hcc4⟩ := terms_slice ha4
    obtain ⟨E4, d4, rfl, hm4, hd4⟩ := rows_slice hk4
    have h4 := h3.below hb4
    have k4 := k3.below hb4
    have hB4 := hB3.next hb4
    go_wp2_with fail
    refine (implIsGraph_any g _ _ _ (ha4.any.alloc _) (hk4.any.alloc _)).mono ?_
    rintro e w5 ⟨rfl, hb5⟩
    have h5 := (h4.alloc _).below hb5
    have k5 := (k4.alloc _).below hb5
    have ha5 := (ha4.any.alloc _).below hb5
    have hk5 := (hk4.any.alloc _).below hb5
    have hB5 := (hB4.alloc _).next hb5
    have hX5 := (Blk.new w4 50 #[.slice A4 g.states.length c4, .slice E4 g.edges.length d4, .bool g.whole]).next hb5
    have hbq : (isGraph g != isGraph g) = false := by simp
    go_wp2_with fail
    obtain ⟨q1, q2, q3⟩ := hX5.c3
    obtain ⟨q4, q5, q6⟩ := hB5.c3
    go_region_held3 (fun w' => w'.cell? ⟨w4.heap.size, 0, none⟩ = some (.slice A4 g.states.length c4) ∧ w'.cell? ⟨w4.heap.size, 1, none⟩ = some (.slice E4 g.edges.length d4) ∧ w'.cell? ⟨w4.heap.size, 2, none⟩ = some (.bool g.whole) ∧
        w'.cell? ⟨w.heap.size, 0, none⟩ = some (.slice A g.states.length c) ∧ w'.cell? ⟨w.heap.size, 1, none⟩ = some (.slice E g.edges.length d) ∧ w'.cell? ⟨w.heap.size, 2, none⟩ = some (.bool g.whole)) (go_keep)
      (first | (go_at_call 22; refine (toGraph_any g _ _ _ ?_ ?_ hle).mono ?_; (exact h5.drew); (exact k5.drew); rintro e w6 ⟨v6, u6, rfl, ha6, hk6, hb6⟩; obtain ⟨A6, c6, rfl, hn6, hcc6⟩ := terms_slice ha6; obtain ⟨E6, d6, rfl, hm6, hd6⟩ := rows_slice hk6; have ha5' := ha5.drew.below hb6; have hk5' := hk5.drew.below hb6; have hX6 := hX5.drew.next hb6; have hB6 := hB5.drew.next hb6; obtain ⟨q1, q2, q3⟩ := hX6.c3; obtain ⟨q4, q5, q6⟩ := hB6.c3) | (go_at_call 24; refine (eqGraph_any g _ _ _ _ _ ?_ ?_ ?_ ?_).mono ?_; (exact ha5'); (exact hk5'); (exact ha6.any); (exact hk6.any); rintro e w7 ⟨rfl, hb7⟩; obtain ⟨q1, q2, q3⟩ := (hX6.next hb7).c3; obtain ⟨q4, q5, q6⟩ := (hB6.next hb7).c3))
    go_wp2_with fail
    go_ret
    refine ⟨rfl, ?_⟩
    have z1 := hb1.size; have z2 := hb2.size; have z3 := hb3.size; have z4 := hb4.size; have z5 := hb5.size; have z6 := hb6.size
    simp at z1 z5 z6
    repeat (first | with_reducible exact Below.refl _ _ | with_reducible refine Below.setCell ?_ (by first | omega | (simp <;> omega)) _ | with_reducible refine Below.drew ?_ | with_reducible refine below_drewN ?_ _ | with_reducible refine Below.alloc ?_ (by first | omega | (simp <;> omega)) _ | with_reducible refine Below.trans ?_ (Below.mono (by assumption) (by first | omega | (simp <;> omega))))
  · have ht : took 1048576 g.total < 0 := by unfold took; split <;> omega
    go_enter Try.func5, Try.ntmps5
    go_wp2_with fail
    refine (szGraph_any g _ _ _ _ (h.alloc _) (k.alloc _) (by omega) (by omega)).mono ?_
    rintro e w1 ⟨rfl, hb1⟩
    go_wp2_with fail
    go_ret
    refine ⟨rfl, ?_⟩
    repeat (first | with_reducible exact Below.refl _ _ | with_reducible refine Below.setCell ?_ (by first | omega | (simp <;> omega)) _ | with_reducible refine Below.drew ?_ | with_reducible refine below_drewN ?_ _ | with_reducible refine Below.alloc ?_ (by first | omega | (simp <;> omega)) _ | with_reducible refine Below.trans ?_ (Below.mono (by assumption) (by first | omega | (simp <;> omega))))

end Go.Proofs.Ytagnfckihdlhpaa

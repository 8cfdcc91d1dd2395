/-
  The law FnExactIsRun returns true for every argument, and leaves its arguments as they were.
-/
import Derived.Test.YtagnfckihdlhpaaRunAny
namespace Go.Proofs.Ytagnfckihdlhpaa
open Go.RowKit

set_option maxHeartbeats 2000000 in
theorem fnExactIsRun_any (g : Gr) (xs : List Int) (back : Int) (w : World) (v u s : Value) (h : At w Any (terms g.states) v) (k : At w Any (rows g.edges) u) (l : At w Any (ints xs) s) :
    Calls Try.prog 7 #[.agg #[v, u, .bool g.whole], .agg #[s, .int .i64 back]] w fun e w' => e = .returned (.bool true) ∧ Below w.heap.size w w' := by
  obtain ⟨A, c, rfl, hn, hc⟩ := terms_slice h
  obtain ⟨E, d, rfl, hm, hd⟩ := rows_slice k
  obtain ⟨L, cl, rfl, hnl, hcl⟩ := ints_slice l
  have hB0 := (Blk.new w 45 #[.slice A g.states.length c, .slice E g.edges.length d, .bool g.whole]).alloc (.cells #[.slice L xs.length cl, .int .i64 back] 24)
  have hC0 := Blk.new (w.alloc (.cells #[.slice A g.states.length c, .slice E g.edges.length d, .bool g.whole] 45)) 24 #[.slice L xs.length cl, .int .i64 back]
  rw [World.size_alloc] at hC0
  have h0 := (h.alloc (.cells #[.slice A g.states.length c, .slice E g.edges.length d, .bool g.whole] 45)).alloc (.cells #[.slice L xs.length cl, .int .i64 back] 24)
  have k0 := (k.alloc (.cells #[.slice A g.states.length c, .slice E g.edges.length d, .bool g.whole] 45)).alloc (.cells #[.slice L xs.length cl, .int .i64 back] 24)
  have l0 := (l.alloc (.cells #[.slice A g.states.length c, .slice E g.edges.length d, .bool g.whole] 45)).alloc (.cells #[.slice L xs.length cl, .int .i64 back] 24)
  by_cases hle : g.total ≤ 1048576
  · have ht : 0 ≤ took 1048576 g.total := by unfold took; split <;> omega
    have ht1 := (took_range (left := 1048576) (n := g.total) (by omega) (by omega)).2
    have HE : Hid (took 1048576 g.total = 1048576 - g.total) := by show took 1048576 g.total = _; unfold took; rw [if_neg (by omega)]
    by_cases hle2 : g.total + xs.length ≤ 1048576
    · have ht2 : 0 ≤ took (took 1048576 g.total) xs.length := by rw [HE.out]; unfold took; split <;> omega
      have hxl : xs.length ≤ 1048576 := by omega
      go_enter Try.func7, Try.ntmps7
      go_wp2_with fail
      refine (szGraph_any g _ _ _ _ h0 k0 (by omega) (by omega)).mono ?_
      rintro e w1 ⟨rfl, hb1⟩
      have h1 := h0.below hb1
      have k1 := k0.below hb1
      have l1 := l0.below hb1
      have hB1 := hB0.next hb1
      have hC1 := hC0.next hb1
      obtain ⟨_, _⟩ := hC1.c2
      go_wp2_with fail
      refine (szLasso_any xs back _ _ Any _ l1 (by omega) (by omega)).mono ?_
      rintro e w2 ⟨rfl, hb2⟩
      have h2 := (h1.below hb2).drew
      have k2 := (k1.below hb2).drew
      have l2 := (l1.below hb2).drew
      have hB2 := (hB1.next hb2).drew
      have hC2 := (hC1.next hb2).drew
      obtain ⟨q1, q2, q3⟩ := hB2.c3
      obtain ⟨q4, q5⟩ := hC2.c2
      have z1 := hb1.size
      have z2 := hb2.size
      simp at z1
      go_wp2_with fail
      go_region_held3 (fun w' => w'.cell? ⟨w.heap.size, 0, none⟩ = some (.slice A g.states.length c) ∧ w'.cell? ⟨w.heap.size, 1, none⟩ = some (.slice E g.edges.length d) ∧ w'.cell? ⟨w.heap.size, 2, none⟩ = some (.bool g.whole) ∧
          w'.cell? ⟨w.heap.size + 1, 0, none⟩ = some (.slice L xs.length cl) ∧ w'.cell? ⟨w.heap.size + 1, 1, none⟩ = some (.int .i64 back)) (go_keep)
        (first | (go_at_call 22; refine (toGraph_any g _ _ _ ?_ ?_ hle).mono ?_; (exact h2); (exact k2); rintro e w3 ⟨v3, u3, rfl, ha3, hk3, hb3⟩; obtain ⟨A3, c3, rfl, hn3, hcc3⟩ := terms_slice ha3; obtain ⟨E3, d3, rfl, hm3, hdd3⟩ := rows_slice hk3; have h2 := h2.below hb3; have k2 := k2.below hb3; have l2 := l2.below hb3; have hB2 := hB2.next hb3; have hC2 := hC2.next hb3; obtain ⟨q1, q2, q3⟩ := hB2.c3; obtain ⟨q4, q5⟩ := hC2.c2; (try have la3 := la3.below hb3)) | (go_at_call 12; refine (toLasso_any xs back _ Any _ ?_ hxl).mono ?_; (exact l2); rintro e w4 ⟨s4, rfl, la3, hb4⟩; obtain ⟨L3, cl3, rfl, hnl3, hccl3⟩ := ints_slice la3; have h2 := h2.below hb4; have k2 := k2.below hb4; have l2 := l2.below hb4; have hB2 := hB2.next hb4; have hC2 := hC2.next hb4; obtain ⟨q1, q2, q3⟩ := hB2.c3; obtain ⟨q4, q5⟩ := hC2.c2; (try have ha3 := ha3.below hb4); (try have hk3 := hk3.below hb4)) | (go_at_call 29; refine (specIsRun_any g xs back _ _ _ _ ?_ ?_ ?_).mono ?_; (exact ha3.any); (exact hk3.any); (exact la3.any); rintro e w5 ⟨rfl, hb5⟩; have h2 := h2.below hb5; have k2 := k2.below hb5; have l2 := l2.below hb5; have hB2 := hB2.next hb5; have hC2 := hC2.next hb5; obtain ⟨q1, q2, q3⟩ := hB2.c3; obtain ⟨q4, q5⟩ := hC2.c2))
      go_wp2_with fail
      refine (toGraph_any g _ _ _ h2 k2 hle).mono ?_
      rintro e w6 ⟨v6, u6, rfl, ha6, hk6, hb6⟩
      obtain ⟨A6, c6, rfl, hn6, hcc6⟩ := terms_slice ha6
      obtain ⟨E6, d6, rfl, hm6, hdd6⟩ := rows_slice hk6
      have l6 := (l2.below hb6).alloc (.cells #[.slice A6 g.states.length c6, .slice E6 g.edges.length d6, .bool g.whole] 50)
      have h6 := (h2.below hb6).alloc (.cells #[.slice A6 g.states.length c6, .slice E6 g.edges.length d6, .bool g.whole] 50)
      have k6 := (k2.below hb6).alloc (.cells #[.slice A6 g.states.length c6, .slice E6 g.edges.length d6, .bool g.whole] 50)
      have hB6 := (hB2.next hb6).alloc (.cells #[.slice A6 g.states.length c6, .slice E6 g.edges.length d6, .bool g.whole] 50)
      have hC6 := (hC2.next hb6).alloc (.cells #[.slice A6 g.states.length c6, .slice E6 g.edges.length d6, .bool g.whole] 50)
      have hX6 := Blk.new w6 50 #[.slice A6 g.states.length c6, .slice E6 g.edges.length d6, .bool g.whole]
      obtain ⟨_, _⟩ := hC6.c2
      have z3 := hb3.size
      have z4 := hb4.size
      have z5 := hb5.size
      have z6 := hb6.size
      simp at z3 z4
      go_wp2_with fail
      refine (toLasso_any xs back _ Any _ l6 hxl).mono ?_
      rintro e w7 ⟨s7, rfl, la7, hb7⟩
      obtain ⟨L7, cl7, rfl, hnl7, hccl7⟩ := ints_slice la7
      have z7 := hb7.size
      simp at z7
      have h7 := (h6.below hb7).alloc (.cells #[.slice L7 xs.length cl7, .int .i64 back] 27)
      have k7 := (k6.below hb7).alloc (.cells #[.slice L7 xs.length cl7, .int .i64 back] 27)
      have l7 := (l6.below hb7).alloc (.cells #[.slice L7 xs.length cl7, .int .i64 back] 27)
      have ha7 := ((ha6.any.alloc (.cells #[.slice A6 g.states.length c6, .slice E6 g.edges.length d6, .bool g.whole] 50)).below hb7).alloc (.cells #[.slice L7 xs.length cl7, .int .i64 back] 27)
      have hk7 := ((hk6.any.alloc (.cells #[.slice A6 g.states.length c6, .slice E6 g.edges.length d6, .bool g.whole] 50)).below hb7).alloc (.cells #[.slice L7 xs.length cl7, .int .i64 back] 27)
      have la7' := la7.any.alloc (.cells #[.slice L7 xs.length cl7, .int .i64 back] 27)
      have hB7 := (hB6.next hb7).alloc (.cells #[.slice L7 xs.length cl7, .int .i64 back] 27)
      have hC7 := (hC6.next hb7).alloc (.cells #[.slice L7 xs.length cl7, .int .i64 back] 27)
      have hX7 := (hX6.next hb7).alloc (.cells #[.slice L7 xs.length cl7, .int .i64 back] 27)
      have hY7 := Blk.new w7 27 #[.slice L7 xs.length cl7, .int .i64 back]
      obtain ⟨_, _, _⟩ := hX7.c3
      have hne : w6.heap.size < w7.heap.size := by omega
      go_wp2_with fail
      refine (implIsRun_any g xs back _ _ _ _ ha7 hk7 la7').mono ?_
      rintro e w8 ⟨rfl, hb8⟩
      have hbq : (isRun g xs back != isRun g xs back) = false := by simp
      have h8 := (h7.below hb8).drew
      have k8 := (k7.below hb8).drew
      have l8 := l7.below hb8
      have ha8 := (ha7.below hb8).drew
      have hk8 := (hk7.below hb8).drew
      have la8 := la7'.below hb8
      have hB8 := (hB7.next hb8).drew
      have hC8 := hC7.next hb8
      have hX8 := (hX7.next hb8).drew
      have hY8 := hY7.next hb8
      have z8 := hb8.size
      simp at z8
      obtain ⟨q1, q2, q3⟩ := hB8.c3
      obtain ⟨q4, q5, q6⟩ := hX8.c3
      go_wp2_with fail
      go_region_held3 (fun w' => w'.cell? ⟨w.heap.size, 0, none⟩ = some (.slice A g.states.length c) ∧ w'.cell? ⟨w.heap.size, 1, none⟩ = some (.slice E g.edges.length d) ∧ w'.cell? ⟨w.heap.size, 2, none⟩ = some (.bool g.whole) ∧
          w'.cell? ⟨w6.heap.size, 0, none⟩ = some (.slice A6 g.states.length c6) ∧ w'.cell? ⟨w6.heap.size, 1, none⟩ = some (.slice E6 g.edges.length d6) ∧ w'.cell? ⟨w6.heap.size, 2, none⟩ = some (.bool g.whole)) (go_keep)
        (first | (go_at_call 22; refine (toGraph_any g _ _ _ ?_ ?_ hle).mono ?_; (exact h8); (exact k8); rintro e w9 ⟨v9, u9, rfl, ha9, hk9, hb9⟩; obtain ⟨A9, c9, rfl, hn9, hcc9⟩ := terms_slice ha9; obtain ⟨E9, d9, rfl, hm9, hdd9⟩ := rows_slice hk9; have ha8 := ha8.below hb9; have hk8 := hk8.below hb9; have hB8 := hB8.next hb9; have hX8 := hX8.next hb9; obtain ⟨q1, q2, q3⟩ := hB8.c3; obtain ⟨q4, q5, q6⟩ := hX8.c3; have l9 := l8.drew.below hb9; have la9 := la8.drew.below hb9; have hC9 := hC8.drew.next hb9; have hY9 := hY8.drew.next hb9) | (go_at_call 24; refine (eqGraph_any g _ _ _ _ _ ?_ ?_ ?_ ?_).mono ?_; (exact ha8); (exact hk8); (exact ha9.any); (exact hk9.any); rintro e w10 ⟨rfl, hb10⟩; have hB8 := hB8.next hb10; have hX8 := hX8.next hb10; obtain ⟨q1, q2, q3⟩ := hB8.c3; obtain ⟨q4, q5, q6⟩ := hX8.c3))
      have l10 := (l9.below hb10).drew
      have la10 := (la9.below hb10).drew
      have hC10 := (hC9.next hb10).drew
      have hY10 := (hY9.next hb10).drew
      obtain ⟨p1, p2⟩ := hC10.c2
      obtain ⟨p3, p4⟩ := hY10.c2
      go_wp2_with fail
      go_region_held3 (fun w' => w'.cell? ⟨w.heap.size + 1, 0, none⟩ = some (.slice L xs.length cl) ∧ w'.cell? ⟨w.heap.size + 1, 1, none⟩ = some (.int .i64 back) ∧ w'.cell? ⟨w7.heap.size, 0, none⟩ = some (.slice L7 xs.length cl7) ∧ w'.cell? ⟨w7.heap.size, 1, none⟩ = some (.int .i64 back)) (go_keep)
        (first | (go_at_call 12; refine (toLasso_any xs back _ Any _ ?_ hxl).mono ?_; (exact l10); rintro e w11 ⟨s11, rfl, la11, hb11⟩; obtain ⟨L11, cl11, rfl, hnl11, hccl11⟩ := ints_slice la11; have la10 := la10.below hb11; have hC10 := hC10.next hb11; have hY10 := hY10.next hb11; obtain ⟨p1, p2⟩ := hC10.c2; obtain ⟨p3, p4⟩ := hY10.c2) | (go_at_call 14; refine (eqLasso_any xs xs back back _ Any Any _ _ ?_ ?_).mono ?_; (exact la10); (exact la11.any); rintro e w12 ⟨rfl, hb12⟩; have hC10 := hC10.next hb12; have hY10 := hY10.next hb12; obtain ⟨p1, p2⟩ := hC10.c2; obtain ⟨p3, p4⟩ := hY10.c2))
      go_wp2_with fail
      go_ret
      refine ⟨rfl, ?_⟩
      have z9 := hb9.size
      have z10 := hb10.size
      have z11 := hb11.size
      simp at z9 z11
      repeat (first | with_reducible exact Below.refl _ _ | with_reducible refine Below.setCell ?_ (by first | omega | (simp <;> omega)) _ | with_reducible refine Below.drew ?_ | with_reducible refine below_drewN ?_ _ | with_reducible refine Below.alloc ?_ (by first | omega | (simp <;> omega)) _ | with_reducible refine Below.trans ?_ (Below.mono (by assumption) (by first | omega | (simp <;> omega))))
    · have ht2 : took (took 1048576 g.total) xs.length < 0 := by rw [HE.out]; unfold took; split <;> omega
      go_enter Try.func7, Try.ntmps7
      go_wp2_with fail
      refine (szGraph_any g _ _ _ _ h0 k0 (by omega) (by omega)).mono ?_
      rintro e w1 ⟨rfl, hb1⟩
      have l1 := l0.below hb1
      have hC1 := hC0.next hb1
      obtain ⟨_, _⟩ := hC1.c2
      go_wp2_with fail
      refine (szLasso_any xs back _ _ Any _ l1 (by omega) (by omega)).mono ?_
      rintro e w2 ⟨rfl, hb2⟩
      have z1 := hb1.size
      simp at z1
      go_wp2_with fail
      go_ret
      refine ⟨rfl, ?_⟩
      repeat (first | with_reducible exact Below.refl _ _ | with_reducible refine Below.setCell ?_ (by first | omega | (simp <;> omega)) _ | with_reducible refine Below.drew ?_ | with_reducible refine below_drewN ?_ _ | with_reducible refine Below.alloc ?_ (by first | omega | (simp <;> omega)) _ | with_reducible refine Below.trans ?_ (Below.mono (by assumption) (by first | omega | (simp <;> omega))))
  · have ht : took 1048576 g.total < 0 := by unfold took; split <;> omega
    go_enter Try.func7, Try.ntmps7
    go_wp2_with fail
    refine (szGraph_any g _ _ _ _ h0 k0 (by omega) (by omega)).mono ?_
    rintro e w1 ⟨rfl, hb1⟩
    go_wp2_with fail
    go_ret
    refine ⟨rfl, ?_⟩
    repeat (first | with_reducible exact Below.refl _ _ | with_reducible refine Below.setCell ?_ (by first | omega | (simp <;> omega)) _ | with_reducible refine Below.drew ?_ | with_reducible refine below_drewN ?_ _ | with_reducible refine Below.alloc ?_ (by first | omega | (simp <;> omega)) _ | with_reducible refine Below.trans ?_ (Below.mono (by assumption) (by first | omega | (simp <;> omega))))

end Go.Proofs.Ytagnfckihdlhpaa

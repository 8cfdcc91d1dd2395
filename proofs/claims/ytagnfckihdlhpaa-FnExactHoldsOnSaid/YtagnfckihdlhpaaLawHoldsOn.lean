/-
  The law FnExactHoldsOn returns true for every argument, and leaves its arguments as they were.
-/
import Derived.Test.YtagnfckihdlhpaaHoldsOn2
namespace Go.Proofs.Ytagnfckihdlhpaa
open Go.RowKit

set_option maxHeartbeats 4000000 in
theorem fnExactHoldsOn_any (f : Fm) (xs : List Int) (back : Int) (ls : List Int) (w : World) (v s lv : Value) (h : At w Any (forms f.kids) v) (l : At w Any (ints xs) s) (m : At w Any (ints ls) lv) :
    Calls Try.prog 8 #[.agg #[.int .i64 f.kind, .int .i64 f.prop, v], .agg #[s, .int .i64 back], lv] w fun e w' => e = .returned (.bool true) ∧ Below w.heap.size w w' := by
  obtain ⟨A, c, rfl, hn, hc⟩ := forms_slice h
  obtain ⟨L, d, rfl, hnl, hcl⟩ := ints_slice l
  obtain ⟨M, e, rfl, hnm, hcm⟩ := ints_slice m
  have hB0 := (Blk.new w 33 #[.int .i64 f.kind, .int .i64 f.prop, .slice A f.kids.length c]).alloc (.cells #[.slice L xs.length d, .int .i64 back] 24)
  have hC0 := Blk.new (w.alloc (.cells #[.int .i64 f.kind, .int .i64 f.prop, .slice A f.kids.length c] 33)) 24 #[.slice L xs.length d, .int .i64 back]
  rw [World.size_alloc] at hC0
  have h0 := (h.alloc (.cells #[.int .i64 f.kind, .int .i64 f.prop, .slice A f.kids.length c] 33)).alloc (.cells #[.slice L xs.length d, .int .i64 back] 24)
  have l0 := (l.alloc (.cells #[.int .i64 f.kind, .int .i64 f.prop, .slice A f.kids.length c] 33)).alloc (.cells #[.slice L xs.length d, .int .i64 back] 24)
  have m0 := (m.alloc (.cells #[.int .i64 f.kind, .int .i64 f.prop, .slice A f.kids.length c] 33)).alloc (.cells #[.slice L xs.length d, .int .i64 back] 24)
  by_cases hll : ls.length ≤ 1048576
  · by_cases hle : f.total ≤ 1048576
    · have ht : 0 ≤ took 1048576 f.total := by unfold took; split <;> omega
      have ht1 := (took_range (left := 1048576) (n := f.total) (by omega) (by omega)).2
      have HE : Hid (took 1048576 f.total = 1048576 - f.total) := by show took 1048576 f.total = _; unfold took; rw [if_neg (by omega)]
      by_cases hle2 : f.total + xs.length ≤ 1048576
      · have ht2 : 0 ≤ took (took 1048576 f.total) xs.length := by rw [HE.out]; unfold took; split <;> omega
        have hxl : xs.length ≤ 1048576 := by omega
        go_enter Try.func8, Try.ntmps8
        go_wp2_with fail
        refine (szFormula_any f _ _ Any _ h0 (by omega) (by omega)).mono ?_
        rintro e w1 ⟨rfl, hb1⟩
        have h1 := h0.below hb1
        have l1 := l0.below hb1
        have m1 := m0.below hb1
        have hB1 := hB0.next hb1
        have hC1 := hC0.next hb1
        obtain ⟨_, _⟩ := hC1.c2
        go_wp2_with fail
        refine (szLasso_any xs back _ _ Any _ l1 (by omega) (by omega)).mono ?_
        rintro e w2 ⟨rfl, hb2⟩
        have h2 := (h1.below hb2).drew
        have l2 := (l1.below hb2).drew
        have m2 := (m1.below hb2).drew
        have hB2 := (hB1.next hb2).drew
        have hC2 := (hC1.next hb2).drew
        obtain ⟨q1, q2, q3⟩ := hB2.c3
        obtain ⟨q4, q5⟩ := hC2.c2
        have z1 := hb1.size
        have z2 := hb2.size
        simp at z1
        go_wp2_with fail
        go_region_held3 (fun w' => w'.cell? ⟨w.heap.size, 0, none⟩ = some (.int .i64 f.kind) ∧ w'.cell? ⟨w.heap.size, 1, none⟩ = some (.int .i64 f.prop) ∧ w'.cell? ⟨w.heap.size, 2, none⟩ = some (.slice A f.kids.length c) ∧
            w'.cell? ⟨w.heap.size + 1, 0, none⟩ = some (.slice L xs.length d) ∧ w'.cell? ⟨w.heap.size + 1, 1, none⟩ = some (.int .i64 back)) (go_keep)
          (first | (go_at_call 17; refine (toFormula_any f _ Any _ ?_ hle).mono ?_; (exact h2); rintro e w3 ⟨v3, rfl, ha3, hb3⟩; obtain ⟨A3, c3, rfl, hn3, hcc3⟩ := forms_slice ha3; have h2 := h2.below hb3; have l2 := l2.below hb3; have m2 := m2.below hb3; have hB2 := hB2.next hb3; have hC2 := hC2.next hb3; obtain ⟨q1, q2, q3⟩ := hB2.c3; obtain ⟨q4, q5⟩ := hC2.c2; (try have la3 := la3.below hb3); (try have ma3 := ma3.below hb3)) | (go_at_call 12; refine (toLasso_any xs back _ Any _ ?_ hxl).mono ?_; (exact l2); rintro e w4 ⟨s4, rfl, la3, hb4⟩; obtain ⟨L3, d3, rfl, hnl3, hccl3⟩ := ints_slice la3; have h2 := h2.below hb4; have l2 := l2.below hb4; have m2 := m2.below hb4; have hB2 := hB2.next hb4; have hC2 := hC2.next hb4; obtain ⟨q1, q2, q3⟩ := hB2.c3; obtain ⟨q4, q5⟩ := hC2.c2; (try have ha3 := ha3.below hb4); (try have ma3 := ma3.below hb4)) | (go_at_call 31; refine (toIntS_any ls _ Any _ ?_ hll).mono ?_; (exact m2); rintro e w5 ⟨t5, rfl, ma3, hb5⟩; obtain ⟨M3, e3, rfl, hnm3, hccm3⟩ := ints_slice ma3; have h2 := h2.below hb5; have l2 := l2.below hb5; have m2 := m2.below hb5; have hB2 := hB2.next hb5; have hC2 := hC2.next hb5; obtain ⟨q1, q2, q3⟩ := hB2.c3; obtain ⟨q4, q5⟩ := hC2.c2; (try have ha3 := ha3.below hb5); (try have la3 := la3.below hb5)) | (go_at_call 28; refine (specHoldsOn_any f xs back ls hle _ _ _ _ ?_ ?_ ?_).mono ?_; (exact ha3.any); (exact la3.any); (exact ma3.any); rintro e w6 ⟨rfl, hb6⟩; have h2 := h2.below hb6; have l2 := l2.below hb6; have m2 := m2.below hb6; have hB2 := hB2.next hb6; have hC2 := hC2.next hb6; obtain ⟨q1, q2, q3⟩ := hB2.c3; obtain ⟨q4, q5⟩ := hC2.c2))
        go_wp2_with fail
        refine (toFormula_any f _ Any _ h2 hle).mono ?_
        rintro e w7 ⟨v7, rfl, ha7, hb7⟩
        obtain ⟨A7, c7, rfl, hn7, hcc7⟩ := forms_slice ha7
        have h7 := (h2.below hb7).alloc (.cells #[.int .i64 f.kind, .int .i64 f.prop, .slice A7 f.kids.length c7] 38)
        have l7 := (l2.below hb7).alloc (.cells #[.int .i64 f.kind, .int .i64 f.prop, .slice A7 f.kids.length c7] 38)
        have m7 := (m2.below hb7).alloc (.cells #[.int .i64 f.kind, .int .i64 f.prop, .slice A7 f.kids.length c7] 38)
        have hB7 := (hB2.next hb7).alloc (.cells #[.int .i64 f.kind, .int .i64 f.prop, .slice A7 f.kids.length c7] 38)
        have hC7 := (hC2.next hb7).alloc (.cells #[.int .i64 f.kind, .int .i64 f.prop, .slice A7 f.kids.length c7] 38)
        have hX7 := Blk.new w7 38 #[.int .i64 f.kind, .int .i64 f.prop, .slice A7 f.kids.length c7]
        have ha7' := ha7.any.alloc (.cells #[.int .i64 f.kind, .int .i64 f.prop, .slice A7 f.kids.length c7] 38)
        obtain ⟨_, _⟩ := hC7.c2
        have z3 := hb3.size
        have z4 := hb4.size
        have z5 := hb5.size
        have z6 := hb6.size
        have z7 := hb7.size
        simp at z3 z4 z5
        go_wp2_with fail
        refine (toLasso_any xs back _ Any _ l7 hxl).mono ?_
        rintro e w8 ⟨s8, rfl, la8, hb8⟩
        obtain ⟨L8, d8, rfl, hnl8, hccl8⟩ := ints_slice la8
        have h8 := (h7.below hb8).alloc (.cells #[.slice L8 xs.length d8, .int .i64 back] 27)
        have l8 := (l7.below hb8).alloc (.cells #[.slice L8 xs.length d8, .int .i64 back] 27)
        have m8 := (m7.below hb8).alloc (.cells #[.slice L8 xs.length d8, .int .i64 back] 27)
        have hB8 := (hB7.next hb8).alloc (.cells #[.slice L8 xs.length d8, .int .i64 back] 27)
        have hC8 := (hC7.next hb8).alloc (.cells #[.slice L8 xs.length d8, .int .i64 back] 27)
        have hX8 := (hX7.next hb8).alloc (.cells #[.slice L8 xs.length d8, .int .i64 back] 27)
        have hY8 := Blk.new w8 27 #[.slice L8 xs.length d8, .int .i64 back]
        have ha8 := (ha7'.below hb8).alloc (.cells #[.slice L8 xs.length d8, .int .i64 back] 27)
        have la8' := la8.any.alloc (.cells #[.slice L8 xs.length d8, .int .i64 back] 27)
        have z8 := hb8.size
        simp at z8
        go_wp2_with fail
        refine (toIntS_any ls _ Any _ m8 hll).mono ?_
        rintro e w9 ⟨t9, rfl, ma9, hb9⟩
        obtain ⟨M9, e9, rfl, hnm9, hccm9⟩ := ints_slice ma9
        have h9 := h8.below hb9
        have l9 := l8.below hb9
        have m9 := m8.below hb9
        have hB9 := hB8.next hb9
        have hC9 := hC8.next hb9
        have hX9 := hX8.next hb9
        have hY9 := hY8.next hb9
        have ha9 := ha8.below hb9
        have la9 := la8'.below hb9
        have z9 := hb9.size
        simp at z9
        obtain ⟨_, _, _⟩ := hX9.c3
        obtain ⟨_, _⟩ := hY9.c2
        go_wp2_with fail
        refine (implHoldsOn_any f xs back ls hle _ _ _ _ ha9 la9 ma9.any).mono ?_
        rintro e w10 ⟨rfl, hb10⟩
        have hbq : (holdsOn f xs back ls != holdsOn f xs back ls) = false := by simp
        have h10 := (h9.below hb10).drew
        have l10 := (l9.below hb10).drew
        have m10 := (m9.below hb10).drew
        have hB10 := (hB9.next hb10).drew
        have hC10 := (hC9.next hb10).drew
        have hX10 := (hX9.next hb10).drew
        have hY10 := (hY9.next hb10).drew
        have ha10 := (ha9.below hb10).drew
        have la10 := (la9.below hb10).drew
        have ma10 := (ma9.any.below hb10).drew
        obtain ⟨q1, q2, q3⟩ := hB10.c3
        obtain ⟨q4, q5, q6⟩ := hX10.c3
        have z10 := hb10.size
        go_wp2_with fail
        go_region_held3 (fun w' => w'.cell? ⟨w.heap.size, 0, none⟩ = some (.int .i64 f.kind) ∧ w'.cell? ⟨w.heap.size, 1, none⟩ = some (.int .i64 f.prop) ∧ w'.cell? ⟨w.heap.size, 2, none⟩ = some (.slice A f.kids.length c) ∧
            w'.cell? ⟨w7.heap.size, 0, none⟩ = some (.int .i64 f.kind) ∧ w'.cell? ⟨w7.heap.size, 1, none⟩ = some (.int .i64 f.prop) ∧ w'.cell? ⟨w7.heap.size, 2, none⟩ = some (.slice A7 f.kids.length c7)) (go_keep)
          (first | (go_at_call 17; refine (toFormula_any f _ Any _ ?_ hle).mono ?_; (exact h10); rintro e w11 ⟨v11, rfl, ha11, hb11⟩; obtain ⟨A11, c11, rfl, hn11, hcc11⟩ := forms_slice ha11; have l10 := l10.below hb11; have m10 := m10.below hb11; have ha10 := ha10.below hb11; have la10 := la10.below hb11; have ma10 := ma10.below hb11; have hB10 := hB10.next hb11; have hC10 := hC10.next hb11; have hX10 := hX10.next hb11; have hY10 := hY10.next hb11; obtain ⟨q1, q2, q3⟩ := hB10.c3; obtain ⟨q4, q5, q6⟩ := hX10.c3) | (go_at_call 19; refine (eqFormula_any f _ _ _ ?_ ?_).mono ?_; (exact ha10); (exact ha11.any); rintro e w12 ⟨rfl, hb12⟩; have l10 := l10.below hb12; have m10 := m10.below hb12; have la10 := la10.below hb12; have ma10 := ma10.below hb12; have hB10 := hB10.next hb12; have hC10 := hC10.next hb12; have hX10 := hX10.next hb12; have hY10 := hY10.next hb12; obtain ⟨q1, q2, q3⟩ := hB10.c3; obtain ⟨q4, q5, q6⟩ := hX10.c3))
        have l12 := l10.drew
        have m12 := m10.drew
        have la12 := la10.drew
        have ma12 := ma10.drew
        have hC12 := hC10.drew
        have hY12 := hY10.drew
        obtain ⟨p1, p2⟩ := hC12.c2
        obtain ⟨p3, p4⟩ := hY12.c2
        go_wp2_with fail
        go_region_held3 (fun w' => w'.cell? ⟨w.heap.size + 1, 0, none⟩ = some (.slice L xs.length d) ∧ w'.cell? ⟨w.heap.size + 1, 1, none⟩ = some (.int .i64 back) ∧ w'.cell? ⟨w8.heap.size, 0, none⟩ = some (.slice L8 xs.length d8) ∧ w'.cell? ⟨w8.heap.size, 1, none⟩ = some (.int .i64 back)) (go_keep)
          (first | (go_at_call 12; refine (toLasso_any xs back _ Any _ ?_ hxl).mono ?_; (exact l12); rintro e w13 ⟨s13, rfl, la13, hb13⟩; obtain ⟨L13, d13, rfl, hnl13, hccl13⟩ := ints_slice la13; have m12 := m12.below hb13; have la12 := la12.below hb13; have ma12 := ma12.below hb13; have hC12 := hC12.next hb13; have hY12 := hY12.next hb13; obtain ⟨p1, p2⟩ := hC12.c2; obtain ⟨p3, p4⟩ := hY12.c2) | (go_at_call 14; refine (eqLasso_any xs xs back back _ Any Any _ _ ?_ ?_).mono ?_; (exact la12); (exact la13.any); rintro e w14 ⟨rfl, hb14⟩; have m12 := m12.below hb14; have ma12 := ma12.below hb14; have hC12 := hC12.next hb14; have hY12 := hY12.next hb14; obtain ⟨p1, p2⟩ := hC12.c2; obtain ⟨p3, p4⟩ := hY12.c2))
        go_wp2_with fail
        refine (toIntS_any ls _ Any _ m12 hll).mono ?_
        rintro e w15 ⟨t15, rfl, ma15, hb15⟩
        obtain ⟨M15, e15, rfl, hnm15, hccm15⟩ := ints_slice ma15
        go_wp2_with fail
        refine (eqIntS_any ls ls _ Any Any _ _ (ma12.below hb15) ma15.any).mono ?_
        rintro e w16 ⟨rfl, hb16⟩
        have hdt : decide (ls = ls) = true := by simp
        go_wp2_with fail
        go_ret
        refine ⟨rfl, ?_⟩
        have z11 := hb11.size
        have z12 := hb12.size
        have z13 := hb13.size
        have z14 := hb14.size
        have z15 := hb15.size
        simp at z11 z13
        repeat (first | with_reducible exact Below.refl _ _ | with_reducible refine Below.setCell ?_ (by first | omega | (simp <;> omega)) _ | with_reducible refine Below.drew ?_ | with_reducible refine below_drewN ?_ _ | with_reducible refine Below.alloc ?_ (by first | omega | (simp <;> omega)) _ | with_reducible refine Below.trans ?_ (Below.mono (by assumption) (by first | omega | (simp <;> omega))))
      · have ht2 : took (took 1048576 f.total) xs.length < 0 := by rw [HE.out]; unfold took; split <;> omega
        go_enter Try.func8, Try.ntmps8
        go_wp2_with fail
        refine (szFormula_any f _ _ Any _ h0 (by omega) (by omega)).mono ?_
        rintro e w1 ⟨rfl, hb1⟩
        have l1 := l0.below hb1
        have hC1 := hC0.next hb1
        obtain ⟨_, _⟩ := hC1.c2
        go_wp2_with fail
        refine (szLasso_any xs back _ _ Any _ l1 (by omega) (by omega)).mono ?_
        rintro e w2 ⟨rfl, hb2⟩
        have z1 := hb1.size
        simp at z1
        go_wp2_with fail
        go_ret
        refine ⟨rfl, ?_⟩
        repeat (first | with_reducible exact Below.refl _ _ | with_reducible refine Below.setCell ?_ (by first | omega | (simp <;> omega)) _ | with_reducible refine Below.drew ?_ | with_reducible refine below_drewN ?_ _ | with_reducible refine Below.alloc ?_ (by first | omega | (simp <;> omega)) _ | with_reducible refine Below.trans ?_ (Below.mono (by assumption) (by first | omega | (simp <;> omega))))
    · have ht : took 1048576 f.total < 0 := by unfold took; split <;> omega
      go_enter Try.func8, Try.ntmps8
      go_wp2_with fail
      refine (szFormula_any f _ _ Any _ h0 (by omega) (by omega)).mono ?_
      rintro e w1 ⟨rfl, hb1⟩
      go_wp2_with fail
      go_ret
      refine ⟨rfl, ?_⟩
      repeat (first | with_reducible exact Below.refl _ _ | with_reducible refine Below.setCell ?_ (by first | omega | (simp <;> omega)) _ | with_reducible refine Below.drew ?_ | with_reducible refine below_drewN ?_ _ | with_reducible refine Below.alloc ?_ (by first | omega | (simp <;> omega)) _ | with_reducible refine Below.trans ?_ (Below.mono (by assumption) (by first | omega | (simp <;> omega))))
  · go_enter Try.func8, Try.ntmps8
    go_wp2_with fail
    go_ret
    refine ⟨rfl, ?_⟩
    repeat (first | with_reducible exact Below.refl _ _ | with_reducible refine Below.setCell ?_ (by first | omega | (simp <;> omega)) _ | with_reducible refine Below.drew ?_ | with_reducible refine below_drewN ?_ _ | with_reducible refine Below.alloc ?_ (by first | omega | (simp <;> omega)) _ | with_reducible refine Below.trans ?_ (Below.mono (by assumption) (by first | omega | (simp <;> omega))))

end Go.Proofs.Ytagnfckihdlhpaa

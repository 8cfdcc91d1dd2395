/-
  What IsRun answers, in the reference and in the program.
-/
import Derived.Test.YtagnfckihdlhpaaRunS
namespace Go.Proofs.Ytagnfckihdlhpaa
open Go.RowKit

set_option maxHeartbeats 1000000 in
theorem implIsRun_any (g : Gr) (xs : List Int) (back : Int) (w : World) (v u s : Value)
    (h : At w Any (terms g.states) v) (k : At w Any (rows g.edges) u) (l : At w Any (ints xs) s) :
    Calls Try.prog 30 #[.agg #[v, u, .bool g.whole], .agg #[s, .int .i64 back]] w fun e w' => e = .returned (.bool (isRun g xs back)) ∧ Below w.heap.size w w' := by
  by_cases hg : isGraph g = true
  · by_cases hl : isLasso xs back = true
    · by_cases h0 : xs.getD 0 0 = 0
      · have e : isRun g xs back = runOK g xs back := by unfold isRun; rw [hg, hl, decide_eq_true h0]; rfl
        rw [e]
        exact implIsRun_good g xs back hg hl h0 w v u s h k l
      · have HF : Hid (isRun g xs back = false) := by show isRun g xs back = false; unfold isRun; rw [hg, hl, decide_eq_false h0]; rfl
        obtain ⟨A, c, rfl, hn, hc⟩ := terms_slice h
        obtain ⟨E, d, rfl, hm, hd⟩ := rows_slice k
        obtain ⟨L, cl, rfl, hnl, hcl⟩ := ints_slice l
        obtain ⟨l1, l40, lb0, lb1, lpos⟩ := isLasso_parts hl
        clear lpos
        have hC0 := Blk.new (w.alloc (.cells #[.slice A g.states.length c, .slice E g.edges.length d, .bool g.whole] 50)) 27 #[.slice L xs.length cl, .int .i64 back]
        rw [World.size_alloc] at hC0
        have H0 := Lib.hid h0
        clear h0
        go_enter Try.func30, Try.ntmps30
        go_wp2_with fail
        refine (implIsGraph_any g _ _ _ ((h.alloc _).alloc _) ((k.alloc _).alloc _)).mono ?_
        rintro e w1 ⟨rfl, hb1⟩
        have hC1 := hC0.next hb1
        obtain ⟨_, _⟩ := hC1.c2
        have l1' := ((l.alloc _).alloc _).below hb1
        go_wp2_with fail
        refine (implIsLasso_any xs back _ Any _ l1').mono ?_
        rintro e w2 ⟨rfl, hb2⟩
        have hC2 := hC1.next hb2
        have l2 := l1'.below hb2
        obtain ⟨_, _⟩ := hC2.c2
        obtain ⟨bl, offl, x0, rfl, _, hlbl, cx0, HX0, _⟩ := ints_get l2 (k := 0) (by omega)
        have hx0 : (x0 != 0) = true := by have := H0.out; rw [getD_of HX0.out] at this; rw [bne_iff_ne]; exact this
        rw [Nat.add_zero] at cx0
        have z1 := hb1.size
        have z2 := hb2.size
        simp at z1
        clear hC0 hC1 HX0
        go_wp2_with fail
        go_ret
        exact ⟨ret_bool HF.out.symm, by repeat (first | with_reducible exact Below.refl _ _ | with_reducible refine Below.setCell ?_ (by first | omega | (simp <;> omega)) _ | with_reducible refine Below.drew ?_ | with_reducible refine below_drewN ?_ _ | with_reducible refine Below.alloc ?_ (by first | omega | (simp <;> omega)) _ | with_reducible refine Below.trans ?_ (Below.mono (by assumption) (by first | omega | (simp <;> omega))))⟩
    · have hl' : isLasso xs back = false := by simpa using hl
      have HF : Hid (isRun g xs back = false) := by show isRun g xs back = false; unfold isRun; rw [hg, hl']; rfl
      obtain ⟨A, c, rfl, hn, hc⟩ := terms_slice h
      obtain ⟨E, d, rfl, hm, hd⟩ := rows_slice k
      obtain ⟨L, cl, rfl, hnl, hcl⟩ := ints_slice l
      have hC0 := Blk.new (w.alloc (.cells #[.slice A g.states.length c, .slice E g.edges.length d, .bool g.whole] 50)) 27 #[.slice L xs.length cl, .int .i64 back]
      rw [World.size_alloc] at hC0
      clear hl
      go_enter Try.func30, Try.ntmps30
      go_wp2_with fail
      refine (implIsGraph_any g _ _ _ ((h.alloc _).alloc _) ((k.alloc _).alloc _)).mono ?_
      rintro e w1 ⟨rfl, hb1⟩
      have hC1 := hC0.next hb1
      obtain ⟨_, _⟩ := hC1.c2
      have l1' := ((l.alloc _).alloc _).below hb1
      go_wp2_with fail
      refine (implIsLasso_any xs back _ Any _ l1').mono ?_
      rintro e w2 ⟨rfl, hb2⟩
      have z1 := hb1.size
      have z2 := hb2.size
      simp at z1
      clear hC0 hC1
      go_wp2_with fail
      go_ret
      exact ⟨ret_bool HF.out.symm, by repeat (first | with_reducible exact Below.refl _ _ | with_reducible refine Below.setCell ?_ (by first | omega | (simp <;> omega)) _ | with_reducible refine Below.drew ?_ | with_reducible refine below_drewN ?_ _ | with_reducible refine Below.alloc ?_ (by first | omega | (simp <;> omega)) _ | with_reducible refine Below.trans ?_ (Below.mono (by assumption) (by first | omega | (simp <;> omega))))⟩
  · have hg' : isGraph g = false := by simpa using hg
    have HF : Hid (isRun g xs back = false) := by show isRun g xs back = false; unfold isRun; rw [hg']; rfl
    obtain ⟨A, c, rfl, hn, hc⟩ := terms_slice h
    obtain ⟨E, d, rfl, hm, hd⟩ := rows_slice k
    obtain ⟨L, cl, rfl, hnl, hcl⟩ := ints_slice l
    clear hg
    go_enter Try.func30, Try.ntmps30
    go_wp2_with fail
    refine (implIsGraph_any g _ _ _ ((h.alloc _).alloc _) ((k.alloc _).alloc _)).mono ?_
    rintro e w1 ⟨rfl, hb1⟩
    go_wp2_with fail
    go_ret
    exact ⟨ret_bool HF.out.symm, by repeat (first | with_reducible exact Below.refl _ _ | with_reducible refine Below.setCell ?_ (by first | omega | (simp <;> omega)) _ | with_reducible refine Below.drew ?_ | with_reducible refine below_drewN ?_ _ | with_reducible refine Below.alloc ?_ (by first | omega | (simp <;> omega)) _ | with_reducible refine Below.trans ?_ (Below.mono (by assumption) (by first | omega | (simp <;> omega))))⟩

set_option maxHeartbeats 1000000 in
theorem specIsRun_any (g : Gr) (xs : List Int) (back : Int) (w : World) (v u s : Value)
    (h : At w Any (terms g.states) v) (k : At w Any (rows g.edges) u) (l : At w Any (ints xs) s) :
    Calls Try.prog 29 #[.agg #[v, u, .bool g.whole], .agg #[s, .int .i64 back]] w fun e w' => e = .returned (.bool (isRun g xs back)) ∧ Below w.heap.size w w' := by
  by_cases hg : isGraph g = true
  · by_cases hl : isLasso xs back = true
    · by_cases h0 : xs.getD 0 0 = 0
      · have e : isRun g xs back = runOK g xs back := by unfold isRun; rw [hg, hl, decide_eq_true h0]; rfl
        rw [e]
        exact specIsRun_good g xs back hg hl h0 w v u s h k l
      · have HF : Hid (isRun g xs back = false) := by show isRun g xs back = false; unfold isRun; rw [hg, hl, decide_eq_false h0]; rfl
        obtain ⟨A, c, rfl, hn, hc⟩ := terms_slice h
        obtain ⟨E, d, rfl, hm, hd⟩ := rows_slice k
        obtain ⟨L, cl, rfl, hnl, hcl⟩ := ints_slice l
        obtain ⟨l1, l40, lb0, lb1, lpos⟩ := isLasso_parts hl
        clear lpos
        have hC0 := Blk.new (w.alloc (.cells #[.slice A g.states.length c, .slice E g.edges.length d, .bool g.whole] 50)) 27 #[.slice L xs.length cl, .int .i64 back]
        rw [World.size_alloc] at hC0
        have H0 := Lib.hid h0
        clear h0
        go_enter Try.func29, Try.ntmps29
        go_wp2_with fail
        refine (specIsGraph_any g _ _ _ ((h.alloc _).alloc _) ((k.alloc _).alloc _)).mono ?_
        rintro e w1 ⟨rfl, hb1⟩
        have hC1 := hC0.next hb1
        obtain ⟨_, _⟩ := hC1.c2
        have l1' := ((l.alloc _).alloc _).below hb1
        go_wp2_with fail
        refine (specIsLasso_any xs back _ Any _ l1').mono ?_
        rintro e w2 ⟨rfl, hb2⟩
        have hC2 := hC1.next hb2
        have l2 := l1'.below hb2
        obtain ⟨_, _⟩ := hC2.c2
        obtain ⟨bl, offl, x0, rfl, _, hlbl, cx0, HX0, _⟩ := ints_get l2 (k := 0) (by omega)
        have hx0 : (x0 != 0) = true := by have := H0.out; rw [getD_of HX0.out] at this; rw [bne_iff_ne]; exact this
        rw [Nat.add_zero] at cx0
        have z1 := hb1.size
        have z2 := hb2.size
        simp at z1
        clear hC0 hC1 HX0
        go_wp2_with fail
        go_ret
        exact ⟨ret_bool HF.out.symm, by repeat (first | with_reducible exact Below.refl _ _ | with_reducible refine Below.setCell ?_ (by first | omega | (simp <;> omega)) _ | with_reducible refine Below.drew ?_ | with_reducible refine below_drewN ?_ _ | with_reducible refine Below.alloc ?_ (by first | omega | (simp <;> omega)) _ | with_reducible refine Below.trans ?_ (Below.mono (by assumption) (by first | omega | (simp <;> omega))))⟩
    · have hl' : isLasso xs back = false := by simpa using hl
      have HF : Hid (isRun g xs back = false) := by show isRun g xs back = false; unfold isRun; rw [hg, hl']; rfl
      obtain ⟨A, c, rfl, hn, hc⟩ := terms_slice h
      obtain ⟨E, d, rfl, hm, hd⟩ := rows_slice k
      obtain ⟨L, cl, rfl, hnl, hcl⟩ := ints_slice l
      have hC0 := Blk.new (w.alloc (.cells #[.slice A g.states.length c, .slice E g.edges.length d, .bool g.whole] 50)) 27 #[.slice L xs.length cl, .int .i64 back]
      rw [World.size_alloc] at hC0
      clear hl
      go_enter Try.func29, Try.ntmps29
      go_wp2_with fail
      refine (specIsGraph_any g _ _ _ ((h.alloc _).alloc _) ((k.alloc _).alloc _)).mono ?_
      rintro e w1 ⟨rfl, hb1⟩
      have hC1 := hC0.next hb1
      obtain ⟨_, _⟩ := hC1.c2
      have l1' := ((l.alloc _).alloc _).below hb1
      go_wp2_with fail
      refine (specIsLasso_any xs back _ Any _ l1').mono ?_
      rintro e w2 ⟨rfl, hb2⟩
      have z1 := hb1.size
      have z2 := hb2.size
      simp at z1
      clear hC0 hC1
      go_wp2_with fail
      go_ret
      exact ⟨ret_bool HF.out.symm, by repeat (first | with_reducible exact Below.refl _ _ | with_reducible refine Below.setCell ?_ (by first | omega | (simp <;> omega)) _ | with_reducible refine Below.drew ?_ | with_reducible refine below_drewN ?_ _ | with_reducible refine Below.alloc ?_ (by first | omega | (simp <;> omega)) _ | with_reducible refine Below.trans ?_ (Below.mono (by assumption) (by first | omega | (simp <;> omega))))⟩
  · have hg' : isGraph g = false := by simpa using hg
    have HF : Hid (isRun g xs back = false) := by show isRun g xs back = false; unfold isRun; rw [hg']; rfl
    obtain ⟨A, c, rfl, hn, hc⟩ := terms_slice h
    obtain ⟨E, d, rfl, hm, hd⟩ := rows_slice k
    obtain ⟨L, cl, rfl, hnl, hcl⟩ := ints_slice l
    clear hg
    go_enter Try.func29, Try.ntmps29
    go_wp2_with fail
    refine (specIsGraph_any g _ _ _ ((h.alloc _).alloc _) ((k.alloc _).alloc _)).mono ?_
    rintro e w1 ⟨rfl, hb1⟩
    go_wp2_with fail
    go_ret
    exact ⟨ret_bool HF.out.symm, by repeat (first | with_reducible exact Below.refl _ _ | with_reducible refine Below.setCell ?_ (by first | omega | (simp <;> omega)) _ | with_reducible refine Below.drew ?_ | with_reducible refine below_drewN ?_ _ | with_reducible refine Below.alloc ?_ (by first | omega | (simp <;> omega)) _ | with_reducible refine Below.trans ?_ (Below.mono (by assumption) (by first | omega | (simp <;> omega))))⟩

end Go.Proofs.Ytagnfckihdlhpaa

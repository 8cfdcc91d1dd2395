/-
  What HoldsOn answers, in the program and in the reference.
-/
import Derived.Test.YtagnfckihdlhpaaHoldsOn
namespace Go.Proofs.Ytagnfckihdlhpaa
open Go.RowKit

set_option maxHeartbeats 2000000 in
theorem implHoldsOn_any (f : Fm) (xs : List Int) (back : Int) (ls : List Int) (_hft : f.total ≤ 1048576) (w : World) (v s lv : Value) (h : At w Any (forms f.kids) v) (l : At w Any (ints xs) s) (m : At w Any (ints ls) lv) :
    Calls Try.prog 27 #[.agg #[.int .i64 f.kind, .int .i64 f.prop, v], .agg #[s, .int .i64 back], lv] w fun e w' => e = .returned (.bool (holdsOn f xs back ls)) ∧ Below w.heap.size w w' := by
  obtain ⟨A, c, rfl, hn, hc⟩ := forms_slice h
  obtain ⟨L, d, rfl, hnl, hcl⟩ := ints_slice l
  obtain ⟨M, e, rfl, hnm, hcm⟩ := ints_slice m
  have hB0 := (Blk.new w 38 #[.int .i64 f.kind, .int .i64 f.prop, .slice A f.kids.length c]).alloc (.cells #[.slice L xs.length d, .int .i64 back] 27)
  have hC0 := Blk.new (w.alloc (.cells #[.int .i64 f.kind, .int .i64 f.prop, .slice A f.kids.length c] 38)) 27 #[.slice L xs.length d, .int .i64 back]
  rw [World.size_alloc] at hC0
  have h0 := (h.alloc (.cells #[.int .i64 f.kind, .int .i64 f.prop, .slice A f.kids.length c] 38)).alloc (.cells #[.slice L xs.length d, .int .i64 back] 27)
  have l0 := (l.alloc (.cells #[.int .i64 f.kind, .int .i64 f.prop, .slice A f.kids.length c] 38)).alloc (.cells #[.slice L xs.length d, .int .i64 back] 27)
  have m0 := (m.alloc (.cells #[.int .i64 f.kind, .int .i64 f.prop, .slice A f.kids.length c] 38)).alloc (.cells #[.slice L xs.length d, .int .i64 back] 27)
  by_cases hf : isFormula f = true
  · by_cases hls : isLasso xs back = true
    · by_cases hlb : isLabels ls = true
      · go_enter Try.func27, Try.ntmps27
        go_wp2_with fail
        refine (implIsFormula_any f _ _ h0 _hft).mono ?_
        rintro e w1 ⟨rfl, hb1⟩
        have hB1 := hB0.next hb1
        have hC1 := hC0.next hb1
        have h1 := h0.below hb1
        have l1 := l0.below hb1
        have m1 := m0.below hb1
        obtain ⟨_, _⟩ := hC1.c2
        go_wp2_with fail
        refine (implIsLasso_any xs back _ Any _ l1).mono ?_
        rintro e w2 ⟨rfl, hb2⟩
        have hB2 := hB1.next hb2
        have hC2 := hC1.next hb2
        have h2 := h1.below hb2
        have l2 := l1.below hb2
        have m2 := m1.below hb2
        go_wp2_with fail
        refine (labelsOK_any ls _ _ m2).mono ?_
        rintro e w3 ⟨rfl, rfl⟩
        obtain ⟨q1, q2, q3⟩ := hB2.c3
        obtain ⟨q4, q5⟩ := hC2.c2
        have z1 := hb1.size
        have z2 := hb2.size
        simp at z1
        obtain ⟨lp, l40, lb0, lb1, lpos⟩ := isLasso_parts hls
        obtain ⟨nb, rfl⟩ := Int.eq_ofNat_of_zero_le lb0
        have HLP := Lib.hid lpos
        have HLB := Lib.hid (isLabels_all hlb)
        have HFO : Hid (f.ok = true) := by
          show f.ok = true
          unfold isFormula at hf
          rw [Bool.and_eq_true] at hf
          exact hf.2
        have HH : Hid (holdsPre f xs nb ls = true) := by show holdsPre f xs nb ls = true; unfold holdsPre; rw [hf, hls, hlb]; rfl
        clear lpos hB0 hC0 hB1 hC1
        go_wp2_with fail
        go_loop [25] (fun t => ∃ i : Nat, i ≤ xs.length ∧ t = .int .i64 i ∧ ∀ x ∈ xs.take i, x < ls.length) (fun t => xs.length - (intOf t).toNat)
        case atStart => exact ⟨0, Nat.zero_le _, rfl, by simp⟩
        case round =>
          obtain ⟨i, hi, rfl, hd⟩ := hrel
          have HD := Lib.hid hd
          clear hd
          by_cases hlt : i < xs.length
          · obtain ⟨bl, ol, x, rfl, _, hll, cx, HX, _⟩ := ints_get l2 hlt
            by_cases hx : x < ls.length
            · go_wp2_with fail
              go_round
              case rel => exact ⟨i + 1, by omega, by go_num, all_take_succ HX.out HD.out (by omega)⟩
              case measure => simp [intOf]; omega
            · have HF : Hid (holdsOn f xs nb ls = false) := by
                show holdsOn f xs nb ls = false
                have : inLabels xs ls = false := by
                  simp only [inLabels, decide_eq_false_iff_not]
                  exact fun hh => hx (hh x (List.mem_of_getElem? HX.out))
                unfold holdsOn
                rw [HH.out, this]
                rfl
              go_wp2_with fail
              go_ret
              exact ⟨ret_bool HF.out.symm, by repeat (first | with_reducible exact Below.refl _ _ | with_reducible refine Below.setCell ?_ (by first | omega | (simp <;> omega)) _ | with_reducible refine Below.drew ?_ | with_reducible refine below_drewN ?_ _ | with_reducible refine Below.alloc ?_ (by first | omega | (simp <;> omega)) _ | with_reducible refine Below.trans ?_ (Below.mono (by assumption) (by first | omega | (simp <;> omega))))⟩
          · have hall : ∀ x ∈ xs, x < ls.length := by have := HD.out; rwa [List.take_of_length_le (by omega)] at this
            have hok : LassoOK xs nb ls := ⟨lp, l40, by omega, fun x hx => ⟨HLP.out x hx, hall x hx⟩, HLB.out⟩
            have HR : Hid (holdsOn f xs nb ls = Fm.hold xs.length nb (labAt xs ls) f 0) := by
              show holdsOn f xs nb ls = _
              have : inLabels xs ls = true := by simp only [inLabels, decide_eq_true_eq]; exact hall
              unfold holdsOn
              rw [HH.out, this]
              rfl
            clear hall
            go_wp2_with fail
            refine (places_any xs nb ls hok f _ _ _ _ h2 l2 m2 HFO.out).mono ?_
            rintro e w5 ⟨v5, rfl, ha, hb5⟩
            obtain ⟨A5, c5, rfl, hn5, hc5⟩ := bools_slice ha
            obtain ⟨b5, o5, x5, rfl, _, hlb5, cx5, HX5⟩ := bools_get ha (k := 0) (by rw [holdL_len]; omega)
            rw [Nat.add_zero] at cx5
            have hlen : 1 ≤ (holdL xs.length nb (labAt xs ls) f).length := by rw [holdL_len]; omega
            have HE : Hid (x5 = Fm.hold xs.length nb (labAt xs ls) f 0) := holdL_at HX5.out
            go_wp2_with fail
            go_ret
            exact ⟨ret_bool (by rw [HR.out]; exact HE.out), by repeat (first | with_reducible exact Below.refl _ _ | with_reducible refine Below.setCell ?_ (by first | omega | (simp <;> omega)) _ | with_reducible refine Below.drew ?_ | with_reducible refine below_drewN ?_ _ | with_reducible refine Below.alloc ?_ (by first | omega | (simp <;> omega)) _ | with_reducible refine Below.trans ?_ (Below.mono (by assumption) (by first | omega | (simp <;> omega))))⟩
      · have hlb' : isLabels ls = false := by simpa using hlb
        have HF : Hid (holdsOn f xs back ls = false) := by show holdsOn f xs back ls = false; unfold holdsOn holdsPre; rw [hf, hls, hlb']; rfl
        clear hlb
        go_enter Try.func27, Try.ntmps27
        go_wp2_with fail
        refine (implIsFormula_any f _ _ h0 _hft).mono ?_
        rintro e w1 ⟨rfl, hb1⟩
        have hC1 := hC0.next hb1
        have l1 := l0.below hb1
        have m1 := m0.below hb1
        obtain ⟨_, _⟩ := hC1.c2
        go_wp2_with fail
        refine (implIsLasso_any xs back _ Any _ l1).mono ?_
        rintro e w2 ⟨rfl, hb2⟩
        have m2 := m1.below hb2
        go_wp2_with fail
        refine (labelsOK_any ls _ _ m2).mono ?_
        rintro e w3 ⟨rfl, rfl⟩
        have z1 := hb1.size
        simp at z1
        go_wp2_with fail
        go_ret
        exact ⟨ret_bool HF.out.symm, by repeat (first | with_reducible exact Below.refl _ _ | with_reducible refine Below.setCell ?_ (by first | omega | (simp <;> omega)) _ | with_reducible refine Below.drew ?_ | with_reducible refine below_drewN ?_ _ | with_reducible refine Below.alloc ?_ (by first | omega | (simp <;> omega)) _ | with_reducible refine Below.trans ?_ (Below.mono (by assumption) (by first | omega | (simp <;> omega))))⟩
    · have hls' : isLasso xs back = false := by simpa using hls
      have HF : Hid (holdsOn f xs back ls = false) := by show holdsOn f xs back ls = false; unfold holdsOn holdsPre; rw [hf, hls']; rfl
      clear hls
      go_enter Try.func27, Try.ntmps27
      go_wp2_with fail
      refine (implIsFormula_any f _ _ h0 _hft).mono ?_
      rintro e w1 ⟨rfl, hb1⟩
      have hC1 := hC0.next hb1
      have l1 := l0.below hb1
      obtain ⟨_, _⟩ := hC1.c2
      go_wp2_with fail
      refine (implIsLasso_any xs back _ Any _ l1).mono ?_
      rintro e w2 ⟨rfl, hb2⟩
      have z1 := hb1.size
      simp at z1
      go_wp2_with fail
      go_ret
      exact ⟨ret_bool HF.out.symm, by repeat (first | with_reducible exact Below.refl _ _ | with_reducible refine Below.setCell ?_ (by first | omega | (simp <;> omega)) _ | with_reducible refine Below.drew ?_ | with_reducible refine below_drewN ?_ _ | with_reducible refine Below.alloc ?_ (by first | omega | (simp <;> omega)) _ | with_reducible refine Below.trans ?_ (Below.mono (by assumption) (by first | omega | (simp <;> omega))))⟩
  · have hf' : isFormula f = false := by simpa using hf
    have HF : Hid (holdsOn f xs back ls = false) := by show holdsOn f xs back ls = false; unfold holdsOn holdsPre; rw [hf']; rfl
    clear hf
    go_enter Try.func27, Try.ntmps27
    go_wp2_with fail
    refine (implIsFormula_any f _ _ h0 _hft).mono ?_
    rintro e w1 ⟨rfl, hb1⟩
    go_wp2_with fail
    go_ret
    exact ⟨ret_bool HF.out.symm, by repeat (first | with_reducible exact Below.refl _ _ | with_reducible refine Below.setCell ?_ (by first | omega | (simp <;> omega)) _ | with_reducible refine Below.drew ?_ | with_reducible refine below_drewN ?_ _ | with_reducible refine Below.alloc ?_ (by first | omega | (simp <;> omega)) _ | with_reducible refine Below.trans ?_ (Below.mono (by assumption) (by first | omega | (simp <;> omega))))⟩

set_option maxHeartbeats 2000000 in
theorem specHoldsOn_any (f : Fm) (xs : List Int) (back : Int) (ls : List Int) (_hft : f.total ≤ 1048576) (w : World) (v s lv : Value) (h : At w Any (forms f.kids) v) (l : At w Any (ints xs) s) (m : At w Any (ints ls) lv) :
    Calls Try.prog 28 #[.agg #[.int .i64 f.kind, .int .i64 f.prop, v], .agg #[s, .int .i64 back], lv] w fun e w' => e = .returned (.bool (holdsOn f xs back ls)) ∧ Below w.heap.size w w' := by
  obtain ⟨A, c, rfl, hn, hc⟩ := forms_slice h
  obtain ⟨L, d, rfl, hnl, hcl⟩ := ints_slice l
  obtain ⟨M, e, rfl, hnm, hcm⟩ := ints_slice m
  have hB0 := (Blk.new w 38 #[.int .i64 f.kind, .int .i64 f.prop, .slice A f.kids.length c]).alloc (.cells #[.slice L xs.length d, .int .i64 back] 27)
  have hC0 := Blk.new (w.alloc (.cells #[.int .i64 f.kind, .int .i64 f.prop, .slice A f.kids.length c] 38)) 27 #[.slice L xs.length d, .int .i64 back]
  rw [World.size_alloc] at hC0
  have h0 := (h.alloc (.cells #[.int .i64 f.kind, .int .i64 f.prop, .slice A f.kids.length c] 38)).alloc (.cells #[.slice L xs.length d, .int .i64 back] 27)
  have l0 := (l.alloc (.cells #[.int .i64 f.kind, .int .i64 f.prop, .slice A f.kids.length c] 38)).alloc (.cells #[.slice L xs.length d, .int .i64 back] 27)
  have m0 := (m.alloc (.cells #[.int .i64 f.kind, .int .i64 f.prop, .slice A f.kids.length c] 38)).alloc (.cells #[.slice L xs.length d, .int .i64 back] 27)
  by_cases hf : isFormula f = true
  · by_cases hls : isLasso xs back = true
    · by_cases hlb : isLabels ls = true
      · go_enter Try.func28, Try.ntmps28
        go_wp2_with fail
        refine (specIsFormula_any f _ _ h0).mono ?_
        rintro e w1 ⟨rfl, hb1⟩
        have hB1 := hB0.next hb1
        have hC1 := hC0.next hb1
        have h1 := h0.below hb1
        have l1 := l0.below hb1
        have m1 := m0.below hb1
        obtain ⟨_, _⟩ := hC1.c2
        go_wp2_with fail
        refine (specIsLasso_any xs back _ Any _ l1).mono ?_
        rintro e w2 ⟨rfl, hb2⟩
        have hB2 := hB1.next hb2
        have hC2 := hC1.next hb2
        have h2 := h1.below hb2
        have l2 := l1.below hb2
        have m2 := m1.below hb2
        go_wp2_with fail
        refine (l31Labels_any ls _ _ m2).mono ?_
        rintro e w3 ⟨rfl, rfl⟩
        obtain ⟨q1, q2, q3⟩ := hB2.c3
        obtain ⟨q4, q5⟩ := hC2.c2
        have z1 := hb1.size
        have z2 := hb2.size
        simp at z1
        obtain ⟨lp, l40, lb0, lb1, lpos⟩ := isLasso_parts hls
        obtain ⟨nb, rfl⟩ := Int.eq_ofNat_of_zero_le lb0
        have HLP := Lib.hid lpos
        have HLB := Lib.hid (isLabels_all hlb)
        have HFO : Hid (f.ok = true) := by
          show f.ok = true
          unfold isFormula at hf
          rw [Bool.and_eq_true] at hf
          exact hf.2
        have HH : Hid (holdsPre f xs nb ls = true) := by show holdsPre f xs nb ls = true; unfold holdsPre; rw [hf, hls, hlb]; rfl
        clear lpos hB0 hC0 hB1 hC1
        go_wp2_with fail
        go_loop [7] (fun t => ∃ i : Nat, i ≤ xs.length ∧ t = .int .i64 i ∧ ∀ x ∈ xs.take i, x < ls.length) (fun t => xs.length - (intOf t).toNat)
        case atStart => exact ⟨0, Nat.zero_le _, rfl, by simp⟩
        case round =>
          obtain ⟨i, hi, rfl, hd⟩ := hrel
          have HD := Lib.hid hd
          clear hd
          by_cases hlt : i < xs.length
          · obtain ⟨bl, ol, x, rfl, _, hll, cx, HX, _⟩ := ints_get l2 hlt
            by_cases hx : x < ls.length
            · go_wp2_with fail
              go_round
              case rel => exact ⟨i + 1, by omega, by go_num, all_take_succ HX.out HD.out (by omega)⟩
              case measure => simp [intOf]; omega
            · have HF : Hid (holdsOn f xs nb ls = false) := by
                show holdsOn f xs nb ls = false
                have : inLabels xs ls = false := by
                  simp only [inLabels, decide_eq_false_iff_not]
                  exact fun hh => hx (hh x (List.mem_of_getElem? HX.out))
                unfold holdsOn
                rw [HH.out, this]
                rfl
              go_wp2_with fail
              go_ret
              exact ⟨ret_bool HF.out.symm, by repeat (first | with_reducible exact Below.refl _ _ | with_reducible refine Below.setCell ?_ (by first | omega | (simp <;> omega)) _ | with_reducible refine Below.drew ?_ | with_reducible refine below_drewN ?_ _ | with_reducible refine Below.alloc ?_ (by first | omega | (simp <;> omega)) _ | with_reducible refine Below.trans ?_ (Below.mono (by assumption) (by first | omega | (simp <;> omega))))⟩
          · have hall : ∀ x ∈ xs, x < ls.length := by have := HD.out; rwa [List.take_of_length_le (by omega)] at this
            have hok : LassoOK xs nb ls := ⟨lp, l40, by omega, fun x hx => ⟨HLP.out x hx, hall x hx⟩, HLB.out⟩
            have HR : Hid (holdsOn f xs nb ls = Fm.hold xs.length nb (labAt xs ls) f 0) := by
              show holdsOn f xs nb ls = _
              have : inLabels xs ls = true := by simp only [inLabels, decide_eq_true_eq]; exact hall
              unfold holdsOn
              rw [HH.out, this]
              rfl
            clear hall
            go_wp2_with fail
            refine (l31Places_any xs nb ls hok f _ _ _ _ h2 l2 m2 HFO.out).mono ?_
            rintro e w5 ⟨v5, rfl, ha, hb5⟩
            obtain ⟨A5, c5, rfl, hn5, hc5⟩ := bools_slice ha
            obtain ⟨b5, o5, x5, rfl, _, hlb5, cx5, HX5⟩ := bools_get ha (k := 0) (by rw [holdL_len]; omega)
            rw [Nat.add_zero] at cx5
            have hlen : 1 ≤ (holdL xs.length nb (labAt xs ls) f).length := by rw [holdL_len]; omega
            have HE : Hid (x5 = Fm.hold xs.length nb (labAt xs ls) f 0) := holdL_at HX5.out
            go_wp2_with fail
            go_ret
            exact ⟨ret_bool (by rw [HR.out]; exact HE.out), by repeat (first | with_reducible exact Below.refl _ _ | with_reducible refine Below.setCell ?_ (by first | omega | (simp <;> omega)) _ | with_reducible refine Below.drew ?_ | with_reducible refine below_drewN ?_ _ | with_reducible refine Below.alloc ?_ (by first | omega | (simp <;> omega)) _ | with_reducible refine Below.trans ?_ (Below.mono (by assumption) (by first | omega | (simp <;> omega))))⟩
      · have hlb' : isLabels ls = false := by simpa using hlb
        have HF : Hid (holdsOn f xs back ls = false) := by show holdsOn f xs back ls = false; unfold holdsOn holdsPre; rw [hf, hls, hlb']; rfl
        clear hlb
        go_enter Try.func28, Try.ntmps28
        go_wp2_with fail
        refine (specIsFormula_any f _ _ h0).mono ?_
        rintro e w1 ⟨rfl, hb1⟩
        have hC1 := hC0.next hb1
        have l1 := l0.below hb1
        have m1 := m0.below hb1
        obtain ⟨_, _⟩ := hC1.c2
        go_wp2_with fail
        refine (specIsLasso_any xs back _ Any _ l1).mono ?_
        rintro e w2 ⟨rfl, hb2⟩
        have m2 := m1.below hb2
        go_wp2_with fail
        refine (l31Labels_any ls _ _ m2).mono ?_
        rintro e w3 ⟨rfl, rfl⟩
        have z1 := hb1.size
        simp at z1
        go_wp2_with fail
        go_ret
        exact ⟨ret_bool HF.out.symm, by repeat (first | with_reducible exact Below.refl _ _ | with_reducible refine Below.setCell ?_ (by first | omega | (simp <;> omega)) _ | with_reducible refine Below.drew ?_ | with_reducible refine below_drewN ?_ _ | with_reducible refine Below.alloc ?_ (by first | omega | (simp <;> omega)) _ | with_reducible refine Below.trans ?_ (Below.mono (by assumption) (by first | omega | (simp <;> omega))))⟩
    · have hls' : isLasso xs back = false := by simpa using hls
      have HF : Hid (holdsOn f xs back ls = false) := by show holdsOn f xs back ls = false; unfold holdsOn holdsPre; rw [hf, hls']; rfl
      clear hls
      go_enter Try.func28, Try.ntmps28
      go_wp2_with fail
      refine (specIsFormula_any f _ _ h0).mono ?_
      rintro e w1 ⟨rfl, hb1⟩
      have hC1 := hC0.next hb1
      have l1 := l0.below hb1
      obtain ⟨_, _⟩ := hC1.c2
      go_wp2_with fail
      refine (specIsLasso_any xs back _ Any _ l1).mono ?_
      rintro e w2 ⟨rfl, hb2⟩
      have z1 := hb1.size
      simp at z1
      go_wp2_with fail
      go_ret
      exact ⟨ret_bool HF.out.symm, by repeat (first | with_reducible exact Below.refl _ _ | with_reducible refine Below.setCell ?_ (by first | omega | (simp <;> omega)) _ | with_reducible refine Below.drew ?_ | with_reducible refine below_drewN ?_ _ | with_reducible refine Below.alloc ?_ (by first | omega | (simp <;> omega)) _ | with_reducible refine Below.trans ?_ (Below.mono (by assumption) (by first | omega | (simp <;> omega))))⟩
  · have hf' : isFormula f = false := by simpa using hf
    have HF : Hid (holdsOn f xs back ls = false) := by show holdsOn f xs back ls = false; unfold holdsOn holdsPre; rw [hf']; rfl
    clear hf
    go_enter Try.func28, Try.ntmps28
    go_wp2_with fail
    refine (specIsFormula_any f _ _ h0).mono ?_
    rintro e w1 ⟨rfl, hb1⟩
    go_wp2_with fail
    go_ret
    exact ⟨ret_bool HF.out.symm, by repeat (first | with_reducible exact Below.refl _ _ | with_reducible refine Below.setCell ?_ (by first | omega | (simp <;> omega)) _ | with_reducible refine Below.drew ?_ | with_reducible refine below_drewN ?_ _ | with_reducible refine Below.alloc ?_ (by first | omega | (simp <;> omega)) _ | with_reducible refine Below.trans ?_ (Below.mono (by assumption) (by first | omega | (simp <;> omega))))⟩

end Go.Proofs.Ytagnfckihdlhpaa

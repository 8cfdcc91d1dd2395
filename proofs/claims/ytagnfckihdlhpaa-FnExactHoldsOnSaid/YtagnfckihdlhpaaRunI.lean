/-
  What the program's IsRun answers.
-/
import Derived.Test.YtagnfckihdlhpaaRunParts
namespace Go.Proofs.Ytagnfckihdlhpaa
open Go.RowKit

/-- What is asked of place i of a run. -/
def stepOK (g : Gr) (xs : List Int) (back : Int) (i : Nat) : Prop :=
  xs.getD i 0 < g.states.length ∧ xs.getD (afterP xs.length back i).toNat 0 ∈ follow g (xs.getD i 0).toNat
instance (g : Gr) (xs : List Int) (back : Int) (i : Nat) : Decidable (stepOK g xs back i) := by unfold stepOK; infer_instance
def runOK (g : Gr) (xs : List Int) (back : Int) : Bool := decide (∀ i, i < xs.length → stepOK g xs back i)
def isRun (g : Gr) (xs : List Int) (back : Int) : Bool := isGraph g && isLasso xs back && decide (xs.getD 0 0 = 0) && runOK g xs back

theorem runOK_false {g : Gr} {xs : List Int} {back : Int} {i : Nat} (hi : i < xs.length) (h : ¬ stepOK g xs back i) : runOK g xs back = false := by
  simp only [runOK, decide_eq_false_iff_not]
  exact fun hh => h (hh i hi)
theorem runOK_true {g : Gr} {xs : List Int} {back : Int} (h : ∀ i, i < xs.length → stepOK g xs back i) : runOK g xs back = true := by simp only [runOK, decide_eq_true_eq]; exact h

theorem isGraph_edges {g : Gr} (h : isGraph g = true) : 1 ≤ g.states.length ∧ g.states.length ≤ 40 ∧ g.edges.length = g.states.length := by
  unfold isGraph at h
  rw [Bool.and_eq_true, decide_eq_true_eq] at h
  exact h.1
theorem isLasso_parts {xs : List Int} {back : Int} (h : isLasso xs back = true) : 1 ≤ xs.length ∧ xs.length ≤ 40 ∧ 0 ≤ back ∧ back < xs.length ∧ ∀ x ∈ xs, 0 ≤ x := by
  simpa [isLasso] using h
theorem afterP_range {n : Nat} {back : Int} {i : Nat} (h0 : 0 ≤ back) (h1 : back < n) : 0 ≤ afterP n back i ∧ afterP n back i < n := by
  unfold afterP
  split <;> omega

theorem run_step {p : Nat → Prop} {j : Nat} (h : ∀ m, m < j → p m) (h1 : p j) : ∀ m, m < j + 1 → p m := fun m hm => by
  by_cases e : m = j
  · subst e; exact h1
  · exact h m (by omega)

set_option maxHeartbeats 2000000 in
theorem implIsRun_good (g : Gr) (xs : List Int) (back : Int) (hg : isGraph g = true) (hl : isLasso xs back = true) (h0 : xs.getD 0 0 = 0) (w : World) (v u s : Value)
    (h : At w Any (terms g.states) v) (k : At w Any (rows g.edges) u) (l : At w Any (ints xs) s) :
    Calls Try.prog 30 #[.agg #[v, u, .bool g.whole], .agg #[s, .int .i64 back]] w fun e w' => e = .returned (.bool (runOK g xs back)) ∧ Below w.heap.size w w' := by
  obtain ⟨A, c, rfl, hn, hc⟩ := terms_slice h
  obtain ⟨E, d, rfl, hm, hd⟩ := rows_slice k
  obtain ⟨L, cl, rfl, hnl, hcl⟩ := ints_slice l
  obtain ⟨l1, l40, lb0, lb1, lpos⟩ := isLasso_parts hl
  obtain ⟨nb, rfl⟩ := Int.eq_ofNat_of_zero_le lb0
  obtain ⟨g1, g40, ge⟩ := isGraph_edges hg
  have HP := Lib.hid lpos
  have HGE := Lib.hid ge
  have hel : g.edges.length ≤ 40 := by omega
  clear lpos ge
  have hB0 := (Blk.new w 50 #[.slice A g.states.length c, .slice E g.edges.length d, .bool g.whole]).alloc (.cells #[.slice L xs.length cl, .int .i64 nb] 27)
  have hC0 := Blk.new (w.alloc (.cells #[.slice A g.states.length c, .slice E g.edges.length d, .bool g.whole] 50)) 27 #[.slice L xs.length cl, .int .i64 nb]
  rw [World.size_alloc] at hC0
  have H0 := Lib.hid h0
  clear h0
  go_enter Try.func30, Try.ntmps30
  go_wp2_with fail
  refine (implIsGraph_any g _ _ _ ((h.alloc _).alloc _) ((k.alloc _).alloc _)).mono ?_
  rintro e w1 ⟨rfl, hb1⟩
  have hB1 := hB0.next hb1
  have hC1 := hC0.next hb1
  obtain ⟨_, _⟩ := hC1.c2
  have h1 := ((h.alloc _).alloc _).below hb1
  have k1 := ((k.alloc _).alloc _).below hb1
  have l1' := ((l.alloc _).alloc _).below hb1
  go_wp2_with fail
  refine (implIsLasso_any xs nb _ Any _ l1').mono ?_
  rintro e w2 ⟨rfl, hb2⟩
  have hB2 := hB1.next hb2
  have hC2 := hC1.next hb2
  have h2 := h1.below hb2
  have k2 := k1.below hb2
  have l2 := l1'.below hb2
  obtain ⟨_, _⟩ := hC2.c2
  obtain ⟨bl, offl, x0, rfl, _, hlbl, cx0, HX0, _⟩ := ints_get l2 (k := 0) (by omega)
  have hx0 : x0 = 0 := by have := H0.out; rw [getD_of HX0.out] at this; exact this
  subst hx0
  rw [Nat.add_zero] at cx0
  have z1 := hb1.size
  have z2 := hb2.size
  simp at z1
  clear hB0 hC0 hB1 hC1 HX0
  go_wp2_with fail
  go_loopw [26] (fun t wr => ∃ i : Nat, i ≤ xs.length ∧ t = .int .i64 i ∧ (∀ m, m < i → stepOK g xs nb m) ∧ Below w2.heap.size w2 wr) (fun t _ => xs.length - (intOf t).toNat)
  case atStart => exact ⟨0, Nat.zero_le _, rfl, fun m hm => by omega, Below.refl _ _⟩
  case round =>
    obtain ⟨i, hi, rfl, hd, hb⟩ := hrel
    have HD := Lib.hid hd
    clear hd
    have hB := hB2.next hb
    have hC := hC2.next hb
    obtain ⟨q1, q2, q3⟩ := hB.c3
    obtain ⟨q4, q5⟩ := hC.c2
    have hr := h2.below hb
    have kr := k2.below hb
    have lr := l2.below hb
    have z := hb.size
    by_cases hlt : i < xs.length
    · obtain ⟨_, _, x, e1, _, _, cx, HX, _⟩ := ints_get lr hlt
      injection e1 with e1
      injection e1 with e1 e2
      subst e1 e2
      obtain ⟨nx, rfl⟩ := Int.eq_ofNat_of_zero_le (HP.out x (List.mem_of_getElem? HX.out))
      obtain ⟨a, ha⟩ : ∃ a : Nat, afterP xs.length nb i = a := Int.eq_ofNat_of_zero_le (afterP_range (by omega) (by omega)).1
      have ha1 : a < xs.length := by have := (afterP_range (n := xs.length) (back := nb) (i := i) (by omega) (by omega)).2; omega
      obtain ⟨_, _, y, e1, _, _, cy, HY, _⟩ := ints_get lr ha1
      injection e1 with e1
      injection e1 with e1 e2
      subst e1 e2
      have HA := Lib.hid ha
      clear ha
      have hst : stepOK g xs nb i ↔ (nx < g.states.length ∧ y ∈ follow g nx) := by
        unfold stepOK
        rw [HA.out, getD_of HX.out, Int.toNat_natCast, Int.toNat_natCast, getD_of HY.out]
        constructor
        · rintro ⟨p1, p2⟩; exact ⟨by omega, p2⟩
        · rintro ⟨p1, p2⟩; exact ⟨by omega, p2⟩
      have HS := Lib.hid hst
      clear hst
      have hcase : (i + 1 < xs.length ∧ a = i + 1) ∨ (¬ i + 1 < xs.length ∧ a = nb) := by
        have := HA.out
        unfold afterP at this
        split at this <;> omega
      by_cases hxl : nx < g.states.length
      · have hxe : nx < g.edges.length := by have := HGE.out; omega
        have hgd : decide (g.states.length ≤ nx) = false := by simp; omega
        have hia : (a : Int) < (xs.length : Int) := by omega
        have hr := hr.drew
        have kr := kr.drew
        rcases hcase with ⟨hi1, rfl⟩ | ⟨hi1, rfl⟩
        · have hia0 : (0 : Int) ≤ (i : Int) + 1 := by omega
          have hia1 : (i : Int) + 1 < (xs.length : Int) := by omega
          have hia2 : ((i : Int) + 1).toNat = i + 1 := by omega
          by_cases hmem : y ∈ follow g nx
          · have hmb := hasB_true hmem
            have HOK : Hid (stepOK g xs nb i) := HS.out.2 ⟨hxl, hmem⟩
            clear hmem
            go_wp2_with fail
            go_region_held3 (fun w' => w'.cell? ⟨w.heap.size, 0, none⟩ = some (.slice A g.states.length c) ∧ w'.cell? ⟨w.heap.size, 1, none⟩ = some (.slice E g.edges.length d) ∧ w'.cell? ⟨w.heap.size, 2, none⟩ = some (.bool g.whole) ∧
                w'.cell? ⟨w.heap.size + 1, 0, none⟩ = some (.slice (some ⟨bl, offl, none⟩) xs.length cl) ∧ w'.cell? ⟨bl, offl + (i + 1), none⟩ = some (.int .i64 y)) (go_keep)
              (first | (go_at_call 67; refine (followers_any g nx hxe _ _ _ ?_ ?_).mono ?_; (exact hr); (exact kr); rintro e w3 ⟨v3, rfl, ha3, hb3⟩; obtain ⟨A3, c3, rfl, hn3, hcc3⟩ := ints_slice ha3; obtain ⟨q1, q2, q3⟩ := (hB.drew.next hb3).c3; obtain ⟨q4, q5⟩ := (hC.drew.next hb3).c2; have cy := (hb3.cell (p := ⟨bl, offl + (i + 1), none⟩) (by show bl < wr.heap.size; omega)).trans cy) | (go_at_call 66; refine (slicesContains_any (follow g nx) y _ _ ?_).mono ?_; (exact ha3); rintro e w4 ⟨rfl, rfl⟩))
            go_wp2_with fail
            go_roundw
            case rel => exact ⟨i + 1, by omega, by go_num, run_step HD.out HOK.out, by have z3 := hb3.size; simp at z3; repeat (first | with_reducible exact Below.refl _ _ | with_reducible refine Below.setCell ?_ (by first | omega | (simp <;> omega)) _ | with_reducible refine Below.drew ?_ | with_reducible refine below_drewN ?_ _ | with_reducible refine Below.alloc ?_ (by first | omega | (simp <;> omega)) _ | with_reducible refine Below.trans ?_ (Below.mono (by assumption) (by first | omega | (simp <;> omega))))⟩
            case measure => simp [intOf]; omega
          · have hmb := hasB_false hmem
            have HF : Hid (runOK g xs nb = false) := runOK_false hlt (fun hh => hmem (HS.out.1 hh).2)
            clear hmem
            go_wp2_with fail
            go_region_held3 (fun w' => w'.cell? ⟨w.heap.size, 0, none⟩ = some (.slice A g.states.length c) ∧ w'.cell? ⟨w.heap.size, 1, none⟩ = some (.slice E g.edges.length d) ∧ w'.cell? ⟨w.heap.size, 2, none⟩ = some (.bool g.whole) ∧
                w'.cell? ⟨w.heap.size + 1, 0, none⟩ = some (.slice (some ⟨bl, offl, none⟩) xs.length cl) ∧ w'.cell? ⟨bl, offl + (i + 1), none⟩ = some (.int .i64 y)) (go_keep)
              (first | (go_at_call 67; refine (followers_any g nx hxe _ _ _ ?_ ?_).mono ?_; (exact hr); (exact kr); rintro e w3 ⟨v3, rfl, ha3, hb3⟩; obtain ⟨A3, c3, rfl, hn3, hcc3⟩ := ints_slice ha3; obtain ⟨q1, q2, q3⟩ := (hB.drew.next hb3).c3; obtain ⟨q4, q5⟩ := (hC.drew.next hb3).c2; have cy := (hb3.cell (p := ⟨bl, offl + (i + 1), none⟩) (by show bl < wr.heap.size; omega)).trans cy) | (go_at_call 66; refine (slicesContains_any (follow g nx) y _ _ ?_).mono ?_; (exact ha3); rintro e w4 ⟨rfl, rfl⟩))
            go_wp2_with fail
            go_ret
            exact ⟨ret_bool HF.out.symm, by have z3 := hb3.size; simp at z3; repeat (first | with_reducible exact Below.refl _ _ | with_reducible refine Below.setCell ?_ (by first | omega | (simp <;> omega)) _ | with_reducible refine Below.drew ?_ | with_reducible refine below_drewN ?_ _ | with_reducible refine Below.alloc ?_ (by first | omega | (simp <;> omega)) _ | with_reducible refine Below.trans ?_ (Below.mono (by assumption) (by first | omega | (simp <;> omega))))⟩
        · by_cases hmem : y ∈ follow g nx
          · have hmb := hasB_true hmem
            have HOK : Hid (stepOK g xs a i) := HS.out.2 ⟨hxl, hmem⟩
            clear hmem
            go_wp2_with fail
            go_region_held3 (fun w' => w'.cell? ⟨w.heap.size, 0, none⟩ = some (.slice A g.states.length c) ∧ w'.cell? ⟨w.heap.size, 1, none⟩ = some (.slice E g.edges.length d) ∧ w'.cell? ⟨w.heap.size, 2, none⟩ = some (.bool g.whole) ∧
                w'.cell? ⟨w.heap.size + 1, 0, none⟩ = some (.slice (some ⟨bl, offl, none⟩) xs.length cl) ∧ w'.cell? ⟨bl, offl + a, none⟩ = some (.int .i64 y)) (go_keep)
              (first | (go_at_call 67; refine (followers_any g nx hxe _ _ _ ?_ ?_).mono ?_; (exact hr); (exact kr); rintro e w3 ⟨v3, rfl, ha3, hb3⟩; obtain ⟨A3, c3, rfl, hn3, hcc3⟩ := ints_slice ha3; obtain ⟨q1, q2, q3⟩ := (hB.drew.next hb3).c3; obtain ⟨q4, q5⟩ := (hC.drew.next hb3).c2; have cy := (hb3.cell (p := ⟨bl, offl + a, none⟩) (by show bl < wr.heap.size; omega)).trans cy) | (go_at_call 66; refine (slicesContains_any (follow g nx) y _ _ ?_).mono ?_; (exact ha3); rintro e w4 ⟨rfl, rfl⟩))
            go_wp2_with fail
            go_roundw
            case rel => exact ⟨i + 1, by omega, by go_num, run_step HD.out HOK.out, by have z3 := hb3.size; simp at z3; repeat (first | with_reducible exact Below.refl _ _ | with_reducible refine Below.setCell ?_ (by first | omega | (simp <;> omega)) _ | with_reducible refine Below.drew ?_ | with_reducible refine below_drewN ?_ _ | with_reducible refine Below.alloc ?_ (by first | omega | (simp <;> omega)) _ | with_reducible refine Below.trans ?_ (Below.mono (by assumption) (by first | omega | (simp <;> omega))))⟩
            case measure => simp [intOf]; omega
          · have hmb := hasB_false hmem
            have HF : Hid (runOK g xs a = false) := runOK_false hlt (fun hh => hmem (HS.out.1 hh).2)
            clear hmem
            go_wp2_with fail
            go_region_held3 (fun w' => w'.cell? ⟨w.heap.size, 0, none⟩ = some (.slice A g.states.length c) ∧ w'.cell? ⟨w.heap.size, 1, none⟩ = some (.slice E g.edges.length d) ∧ w'.cell? ⟨w.heap.size, 2, none⟩ = some (.bool g.whole) ∧
                w'.cell? ⟨w.heap.size + 1, 0, none⟩ = some (.slice (some ⟨bl, offl, none⟩) xs.length cl) ∧ w'.cell? ⟨bl, offl + a, none⟩ = some (.int .i64 y)) (go_keep)
              (first | (go_at_call 67; refine (followers_any g nx hxe _ _ _ ?_ ?_).mono ?_; (exact hr); (exact kr); rintro e w3 ⟨v3, rfl, ha3, hb3⟩; obtain ⟨A3, c3, rfl, hn3, hcc3⟩ := ints_slice ha3; obtain ⟨q1, q2, q3⟩ := (hB.drew.next hb3).c3; obtain ⟨q4, q5⟩ := (hC.drew.next hb3).c2; have cy := (hb3.cell (p := ⟨bl, offl + a, none⟩) (by show bl < wr.heap.size; omega)).trans cy) | (go_at_call 66; refine (slicesContains_any (follow g nx) y _ _ ?_).mono ?_; (exact ha3); rintro e w4 ⟨rfl, rfl⟩))
            go_wp2_with fail
            go_ret
            exact ⟨ret_bool HF.out.symm, by have z3 := hb3.size; simp at z3; repeat (first | with_reducible exact Below.refl _ _ | with_reducible refine Below.setCell ?_ (by first | omega | (simp <;> omega)) _ | with_reducible refine Below.drew ?_ | with_reducible refine below_drewN ?_ _ | with_reducible refine Below.alloc ?_ (by first | omega | (simp <;> omega)) _ | with_reducible refine Below.trans ?_ (Below.mono (by assumption) (by first | omega | (simp <;> omega))))⟩
      · have HF : Hid (runOK g xs nb = false) := runOK_false hlt (fun hh => hxl (HS.out.1 hh).1)
        have hgd : decide (g.states.length ≤ nx) = true := by simp; omega
        rcases hcase with ⟨hi1, rfl⟩ | ⟨hi1, rfl⟩
        · go_wp2_with fail
          go_quiet (fail)
          go_wp2_with fail
          go_ret
          exact ⟨ret_bool HF.out.symm, by repeat (first | with_reducible exact Below.refl _ _ | with_reducible refine Below.setCell ?_ (by first | omega | (simp <;> omega)) _ | with_reducible refine Below.drew ?_ | with_reducible refine below_drewN ?_ _ | with_reducible refine Below.alloc ?_ (by first | omega | (simp <;> omega)) _ | with_reducible refine Below.trans ?_ (Below.mono (by assumption) (by first | omega | (simp <;> omega))))⟩
        · go_wp2_with fail
          go_quiet (fail)
          go_wp2_with fail
          go_ret
          exact ⟨ret_bool HF.out.symm, by repeat (first | with_reducible exact Below.refl _ _ | with_reducible refine Below.setCell ?_ (by first | omega | (simp <;> omega)) _ | with_reducible refine Below.drew ?_ | with_reducible refine below_drewN ?_ _ | with_reducible refine Below.alloc ?_ (by first | omega | (simp <;> omega)) _ | with_reducible refine Below.trans ?_ (Below.mono (by assumption) (by first | omega | (simp <;> omega))))⟩
    · have HF : Hid (runOK g xs nb = true) := runOK_true (fun m hm => HD.out m (by omega))
      go_wp2_with fail
      go_ret
      exact ⟨ret_bool HF.out.symm, by repeat (first | with_reducible exact Below.refl _ _ | with_reducible refine Below.setCell ?_ (by first | omega | (simp <;> omega)) _ | with_reducible refine Below.drew ?_ | with_reducible refine below_drewN ?_ _ | with_reducible refine Below.alloc ?_ (by first | omega | (simp <;> omega)) _ | with_reducible refine Below.trans ?_ (Below.mono (by assumption) (by first | omega | (simp <;> omega))))⟩

end Go.Proofs.Ytagnfckihdlhpaa

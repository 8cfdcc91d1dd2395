/-
  What the reference's IsRun answers.
-/
import Derived.Test.YtagnfckihdlhpaaRunI
namespace Go.Proofs.Ytagnfckihdlhpaa
open Go.RowKit

set_option maxHeartbeats 4000000 in
theorem specIsRun_good (g : Gr) (xs : List Int) (back : Int) (hg : isGraph g = true) (hl : isLasso xs back = true) (h0 : xs.getD 0 0 = 0) (w : World) (v u s : Value)
    (h : At w Any (terms g.states) v) (k : At w Any (rows g.edges) u) (l : At w Any (ints xs) s) :
    Calls Try.prog 29 #[.agg #[v, u, .bool g.whole], .agg #[s, .int .i64 back]] w fun e w' => e = .returned (.bool (runOK g xs back)) ∧ Below w.heap.size w w' := by
  obtain ⟨A, c, rfl, hn, hc⟩ := terms_slice h
  obtain ⟨E, d, rfl, hm, hd⟩ := rows_slice k
  obtain ⟨L, cl, rfl, hnl, hcl⟩ := ints_slice l
  obtain ⟨l1, l40, lb0, lb1, lpos⟩ := isLasso_parts hl
  obtain ⟨nb, rfl⟩ := Int.eq_ofNat_of_zero_le lb0
  obtain ⟨g1, g40, ge⟩ := isGraph_edges hg
  have HP := Lib.hid lpos
  have HGE := Lib.hid ge
  have hel : g.edges.length ≤ 40 := by omega
  clear lpos ge
  have hB0 := (Blk.new w 50 #[.slice A g.states.length c, .slice E g.edges.length d, .bool g.whole]).alloc (.cells #[.slice L xs.length cl, .int .i64 nb] 27)
  have hC0 := Blk.new (w.alloc (.cells #[.slice A g.states.length c, .slice E g.edges.length d, .bool g.whole] 50)) 27 #[.slice L xs.length cl, .int .i64 nb]
  rw [World.size_alloc] at hC0
  have H0 := Lib.hid h0
  clear h0
  go_enter Try.func29, Try.ntmps29
  go_wp2_with fail
  refine (specIsGraph_any g _ _ _ ((h.alloc _).alloc _) ((k.alloc _).alloc _)).mono ?_
  rintro e w1 ⟨rfl, hb1⟩
  have hB1 := hB0.next hb1
  have hC1 := hC0.next hb1
  obtain ⟨_, _⟩ := hC1.c2
  have h1 := ((h.alloc _).alloc _).below hb1
  have k1 := ((k.alloc _).alloc _).below hb1
  have l1' := ((l.alloc _).alloc _).below hb1
  go_wp2_with fail
  refine (specIsLasso_any xs nb _ Any _ l1').mono ?_
  rintro e w2 ⟨rfl, hb2⟩
  have hB2 := hB1.next hb2
  have hC2 := hC1.next hb2
  have h2 := h1.below hb2
  have k2 := k1.below hb2
  have l2 := l1'.below hb2
  obtain ⟨_, _⟩ := hC2.c2
  obtain ⟨bl, offl, x0, rfl, _, hlbl, cx0, HX0, _⟩ := ints_get l2 (k := 0) (by omega)
  have hx0 : x0 = 0 := by have := H0.out; rw [getD_of HX0.out] at this; exact this
  subst hx0
  rw [Nat.add_zero] at cx0
  have z1 := hb1.size
  have z2 := hb2.size
  simp at z1
  clear hB0 hC0 hB1 hC1 HX0
  go_wp2_with fail
  go_loopw [5] (fun t wr => ∃ i : Nat, i ≤ xs.length ∧ t = .int .i64 i ∧ (∀ (m : Nat) (x : Int), m < i → xs[m]? = some x → x < g.states.length) ∧ Below w2.heap.size w2 wr) (fun t _ => xs.length - (intOf t).toNat)
  case atStart => exact ⟨0, Nat.zero_le _, rfl, fun m _ hm => by omega, Below.refl _ _⟩
  case round =>
    obtain ⟨i, hi, rfl, hd, hb⟩ := hrel
    have HD := Lib.hid hd
    clear hd
    have hB := hB2.next hb
    have hC := hC2.next hb
    obtain ⟨q1, q2, q3⟩ := hB.c3
    obtain ⟨q4, q5⟩ := hC.c2
    have lr := l2.below hb
    have z := hb.size
    by_cases hlt : i < xs.length
    · obtain ⟨_, _, x, e1, _, _, cx, HX, _⟩ := ints_get lr hlt
      injection e1 with e1
      injection e1 with e1 e2
      subst e1 e2
      have hii : (i : Int) < (xs.length : Int) := by omega
      by_cases hxl : x < g.states.length
      · have hgd : decide ((g.states.length : Int) ≤ x) = false := by simp; omega
        go_wp2_with fail
        go_quiet (fail)
        go_wp2_with fail
        go_roundw
        case rel =>
          refine ⟨i + 1, by omega, by go_num, fun m y hm hy => ?_, below_drewN hb _⟩
          by_cases e : m = i
          · subst e
            have := HX.out
            rw [hy] at this
            injection this with this
            omega
          · exact HD.out m y (by omega) hy
        case measure => simp [intOf]; omega
      · have hgd : decide ((g.states.length : Int) ≤ x) = true := by simp; omega
        have HF : Hid (runOK g xs nb = false) := runOK_false hlt (fun hh => hxl (by have := hh.1; rw [getD_of HX.out] at this; exact this))
        go_wp2_with fail
        go_quiet (fail)
        go_wp2_with fail
        go_ret
        exact ⟨ret_bool HF.out.symm, by repeat (first | with_reducible exact Below.refl _ _ | with_reducible refine Below.setCell ?_ (by first | omega | (simp <;> omega)) _ | with_reducible refine Below.drew ?_ | with_reducible refine below_drewN ?_ _ | with_reducible refine Below.alloc ?_ (by first | omega | (simp <;> omega)) _ | with_reducible refine Below.trans ?_ (Below.mono (by assumption) (by first | omega | (simp <;> omega))))⟩
    · have hall : ∀ (m : Nat) (x : Int), xs[m]? = some x → x < g.states.length := fun m x hx => HD.out m x (by have := (List.getElem?_eq_some_iff.1 hx).1; omega) hx
      have HALL := Lib.hid hall
      clear hall
      obtain ⟨wo, rfl⟩ : ∃ wo : World, wo = wr := ⟨_, rfl⟩
      clear q1 q2 q3
      go_wp2_with fail
      go_loopw [6] (fun t wr => ∃ j : Nat, j ≤ xs.length ∧ t = .int .i64 j ∧ (∀ m, m < j → stepOK g xs nb m) ∧ Below wo.heap.size wo wr) (fun t _ => xs.length - (intOf t).toNat)
      case atStart => exact ⟨0, Nat.zero_le _, rfl, fun m hm => by omega, Below.refl _ _⟩
      case round =>
        obtain ⟨j, hj, rfl, hd, hbj⟩ := hrel
        have HE := Lib.hid hd
        clear hd
        have hB := hB.next hbj
        have hC := hC.next hbj
        obtain ⟨q1, q2, q3⟩ := hB.c3
        obtain ⟨q4, q5⟩ := hC.c2
        have hr := (h2.below hb).below hbj
        have kr := (k2.below hb).below hbj
        have lr := lr.below hbj
        have zj := hbj.size
        by_cases hltj : j < xs.length
        · obtain ⟨_, _, x, e1, _, _, cx, HX, _⟩ := ints_get lr hltj
          injection e1 with e1
          injection e1 with e1 e2
          subst e1 e2
          obtain ⟨nx, rfl⟩ := Int.eq_ofNat_of_zero_le (HP.out x (List.mem_of_getElem? HX.out))
          have hxl := HALL.out _ _ HX.out
          have hxe : nx < g.edges.length := by have := HGE.out; omega
          obtain ⟨a, ha⟩ : ∃ a : Nat, afterP xs.length nb j = a := Int.eq_ofNat_of_zero_le (afterP_range (by omega) (by omega)).1
          have ha1 : a < xs.length := by have := (afterP_range (n := xs.length) (back := nb) (i := j) (by omega) (by omega)).2; omega
          obtain ⟨_, _, y, e1, _, _, cy, HY, _⟩ := ints_get lr ha1
          injection e1 with e1
          injection e1 with e1 e2
          subst e1 e2
          have hst : stepOK g xs nb j ↔ (y ∈ follow g nx) := by
            unfold stepOK
            rw [ha, getD_of HX.out, Int.toNat_natCast, Int.toNat_natCast, getD_of HY.out]
            exact ⟨fun p => p.2, fun p => ⟨hxl, p⟩⟩
          have HS := Lib.hid hst
          clear hst
          have hij : (j : Int) < (xs.length : Int) := by omega
          have hia : (a : Int) < (xs.length : Int) := by omega
          have hr := hr.drew
          have kr := kr.drew
          have lr := lr.drew
          have hB := hB.drew
          have hC := hC.drew
          have HAF : Hid (∀ (W : World) (s : Value), At W Any (ints xs) s → Calls Try.prog 65 #[.agg #[s, .int .i64 nb], .int .i64 j] W fun e w' => e = .returned (.int .i64 a) ∧ Below W.heap.size W w') :=
            fun W s hs => (l31After_any xs nb j hltj W s hs).mono fun e w' hh => ⟨by rw [hh.1, ha], hh.2⟩
          clear ha
          by_cases hmem : y ∈ follow g nx
          · have hmb := hasB_true hmem
            have HOK : Hid (stepOK g xs nb j) := HS.out.2 hmem
            clear hmem
            go_wp2_with fail
            go_region_held3 (fun w' => w'.cell? ⟨w.heap.size, 0, none⟩ = some (.slice A g.states.length c) ∧ w'.cell? ⟨w.heap.size, 1, none⟩ = some (.slice E g.edges.length d) ∧ w'.cell? ⟨w.heap.size, 2, none⟩ = some (.bool g.whole) ∧
                w'.cell? ⟨w.heap.size + 1, 0, none⟩ = some (.slice (some ⟨bl, offl, none⟩) xs.length cl) ∧ w'.cell? ⟨w.heap.size + 1, 1, none⟩ = some (.int .i64 nb) ∧ w'.cell? ⟨bl, offl + j, none⟩ = some (.int .i64 nx) ∧ w'.cell? ⟨bl, offl + a, none⟩ = some (.int .i64 y)) (go_keep)
              (first | (go_at_call 64; refine (l32Edges_any g nx hxe _ _ _ ?_ ?_).mono ?_; (exact hr); (exact kr); rintro e w3 ⟨v3, rfl, hE, hb3⟩; obtain ⟨A3, c3, rfl, hn3, hcc3⟩ := ints_slice hE; have hB := hB.next hb3; have hC := hC.next hb3; have hr := hr.below hb3; have kr := kr.below hb3; have lr := lr.below hb3; obtain ⟨q1, q2, q3⟩ := hB.c3; obtain ⟨q4, q5⟩ := hC.c2; have cx := (hb3.cell (p := ⟨bl, offl + j, none⟩) (World.block_lt_of_cell? _ _ cx)).trans cx; have cy := (hb3.cell (p := ⟨bl, offl + a, none⟩) (World.block_lt_of_cell? _ _ cy)).trans cy) | (go_at_call 65; refine (HAF.out _ _ ?_).mono ?_; (exact lr); rintro e w4 ⟨rfl, hb4⟩; have hB := hB.next hb4; have hC := hC.next hb4; have hr := hr.below hb4; have kr := kr.below hb4; have lr := lr.below hb4; obtain ⟨q1, q2, q3⟩ := hB.c3; obtain ⟨q4, q5⟩ := hC.c2; have cx := (hb4.cell (p := ⟨bl, offl + j, none⟩) (World.block_lt_of_cell? _ _ cx)).trans cx; have cy := (hb4.cell (p := ⟨bl, offl + a, none⟩) (World.block_lt_of_cell? _ _ cy)).trans cy; (try have hE := hE.below hb4)) | (go_at_call 63; refine (l1HasInt_any (follow g nx) y _ _ ?_).mono ?_; (exact hE); rintro e w5 ⟨rfl, rfl⟩))
            go_wp2_with fail
            go_roundw
            case rel => exact ⟨j + 1, by omega, by go_num, run_step HE.out HOK.out, by have z3 := hb3.size; have z4 := hb4.size; simp at z3 z4; repeat (first | with_reducible exact Below.refl _ _ | with_reducible refine Below.setCell ?_ (by first | omega | (simp <;> omega)) _ | with_reducible refine Below.drew ?_ | with_reducible refine below_drewN ?_ _ | with_reducible refine Below.alloc ?_ (by first | omega | (simp <;> omega)) _ | with_reducible refine Below.trans ?_ (Below.mono (by assumption) (by first | omega | (simp <;> omega))))⟩
            case measure => simp [intOf]; omega
          · have hmb := hasB_false hmem
            have HF : Hid (runOK g xs nb = false) := runOK_false hltj (fun hh => hmem (HS.out.1 hh))
            clear hmem
            go_wp2_with fail
            go_region_held3 (fun w' => w'.cell? ⟨w.heap.size, 0, none⟩ = some (.slice A g.states.length c) ∧ w'.cell? ⟨w.heap.size, 1, none⟩ = some (.slice E g.edges.length d) ∧ w'.cell? ⟨w.heap.size, 2, none⟩ = some (.bool g.whole) ∧
                w'.cell? ⟨w.heap.size + 1, 0, none⟩ = some (.slice (some ⟨bl, offl, none⟩) xs.length cl) ∧ w'.cell? ⟨w.heap.size + 1, 1, none⟩ = some (.int .i64 nb) ∧ w'.cell? ⟨bl, offl + j, none⟩ = some (.int .i64 nx) ∧ w'.cell? ⟨bl, offl + a, none⟩ = some (.int .i64 y)) (go_keep)
              (first | (go_at_call 64; refine (l32Edges_any g nx hxe _ _ _ ?_ ?_).mono ?_; (exact hr); (exact kr); rintro e w3 ⟨v3, rfl, hE, hb3⟩; obtain ⟨A3, c3, rfl, hn3, hcc3⟩ := ints_slice hE; have hB := hB.next hb3; have hC := hC.next hb3; have hr := hr.below hb3; have kr := kr.below hb3; have lr := lr.below hb3; obtain ⟨q1, q2, q3⟩ := hB.c3; obtain ⟨q4, q5⟩ := hC.c2; have cx := (hb3.cell (p := ⟨bl, offl + j, none⟩) (World.block_lt_of_cell? _ _ cx)).trans cx; have cy := (hb3.cell (p := ⟨bl, offl + a, none⟩) (World.block_lt_of_cell? _ _ cy)).trans cy) | (go_at_call 65; refine (HAF.out _ _ ?_).mono ?_; (exact lr); rintro e w4 ⟨rfl, hb4⟩; have hB := hB.next hb4; have hC := hC.next hb4; have hr := hr.below hb4; have kr := kr.below hb4; have lr := lr.below hb4; obtain ⟨q1, q2, q3⟩ := hB.c3; obtain ⟨q4, q5⟩ := hC.c2; have cx := (hb4.cell (p := ⟨bl, offl + j, none⟩) (World.block_lt_of_cell? _ _ cx)).trans cx; have cy := (hb4.cell (p := ⟨bl, offl + a, none⟩) (World.block_lt_of_cell? _ _ cy)).trans cy; (try have hE := hE.below hb4)) | (go_at_call 63; refine (l1HasInt_any (follow g nx) y _ _ ?_).mono ?_; (exact hE); rintro e w5 ⟨rfl, rfl⟩))
            go_wp2_with fail
            go_ret
            exact ⟨ret_bool HF.out.symm, by have z3 := hb3.size; have z4 := hb4.size; simp at z3 z4; repeat (first | with_reducible exact Below.refl _ _ | with_reducible refine Below.setCell ?_ (by first | omega | (simp <;> omega)) _ | with_reducible refine Below.drew ?_ | with_reducible refine below_drewN ?_ _ | with_reducible refine Below.alloc ?_ (by first | omega | (simp <;> omega)) _ | with_reducible refine Below.trans ?_ (Below.mono (by assumption) (by first | omega | (simp <;> omega))))⟩
        · have HF : Hid (runOK g xs nb = true) := runOK_true (fun m hm => HE.out m (by omega))
          go_wp2_with fail
          go_ret
          exact ⟨ret_bool HF.out.symm, by repeat (first | with_reducible exact Below.refl _ _ | with_reducible refine Below.setCell ?_ (by first | omega | (simp <;> omega)) _ | with_reducible refine Below.drew ?_ | with_reducible refine below_drewN ?_ _ | with_reducible refine Below.alloc ?_ (by first | omega | (simp <;> omega)) _ | with_reducible refine Below.trans ?_ (Below.mono (by assumption) (by first | omega | (simp <;> omega))))⟩

end Go.Proofs.Ytagnfckihdlhpaa

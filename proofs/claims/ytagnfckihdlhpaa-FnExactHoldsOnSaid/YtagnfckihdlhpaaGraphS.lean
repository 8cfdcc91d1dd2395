/-
  What the reference's IsGraph answers.
-/
import Derived.Test.YtagnfckihdlhpaaGraphIs
namespace Go.Proofs.Ytagnfckihdlhpaa
open Go.RowKit

set_option maxHeartbeats 2000000 in
theorem specIsGraph_good (g : Gr) (hg1 : 1 ≤ g.states.length) (hg2 : g.states.length ≤ 40) (hg3 : g.edges.length = g.states.length) (w : World) (v u : Value) (h : At w Any (terms g.states) v) (h' : At w Any (rows g.edges) u) :
    Calls Try.prog 21 #[.agg #[v, u, .bool g.whole]] w fun e w' => e = .returned (.bool (g.edges.all (okRow g.states.length))) ∧ Below w.heap.size w w' := by
  obtain ⟨A, c, rfl, hn, hc⟩ := terms_slice h
  obtain ⟨A', c', rfl, hn', hc'⟩ := rows_slice h'
  have hg3' : ((g.edges.length : Int) != (g.states.length : Int)) = false := by rw [bne_eq_false_iff_eq]; omega
  have HG := Lib.hid hg3
  clear hg3
  go_enter Try.func21, Try.ntmps21
  go_wp2_with fail
  go_loopw [3] (fun i wr => ∃ k : Nat, k ≤ g.edges.length ∧ i = .int .i64 k ∧ (∀ l ∈ g.edges.take k, okRow g.states.length l = true) ∧ Blk wr w.heap.size 50 #[.slice A g.states.length c, .slice A' g.edges.length c', .bool g.whole] ∧ Below w.heap.size w wr) (fun i _ => g.edges.length - (intOf i).toNat)
  case atStart => exact ⟨0, Nat.zero_le _, rfl, by simp, Blk.new _ _ _, by repeat (first | with_reducible exact Below.refl _ _ | with_reducible refine Below.setCell ?_ (by first | omega | (simp <;> omega)) _ | with_reducible refine Below.drew ?_ | with_reducible refine below_drewN ?_ _ | with_reducible refine Below.alloc ?_ (by first | omega | (simp <;> omega)) _ | with_reducible refine Below.trans ?_ (Below.mono (by assumption) (by first | omega | (simp <;> omega))))⟩
  case round =>
    obtain ⟨k, hk, rfl, hd, hblk, hb⟩ := hrel
    obtain ⟨wo, rfl⟩ : ∃ wo : World, wo = wr := ⟨_, rfl⟩
    have HD := Lib.hid hd
    have HB := Lib.hid hblk
    obtain ⟨b0, b1, b2⟩ := hblk.c3
    clear hd hblk
    by_cases hlt : k < g.edges.length
    · obtain ⟨b, off, xs, x, rfl, _, hlb, c1, hx, HX⟩ := rows_get (h'.below hb) hlt
      obtain ⟨Au, cu, rfl, hnu, hcu⟩ := ints_slice hx
      have hmem := List.mem_of_getElem? HX.out
      go_wp2_with fail
      go_loopw [4] (fun i wi => ∃ j : Nat, j ≤ xs.length ∧ i = .int .i64 j ∧ (∀ m, m < j → okAt g.states.length xs m) ∧ Below wo.heap.size wo wi) (fun i _ => xs.length - (intOf i).toNat)
      case atStart => exact ⟨0, Nat.zero_le _, rfl, fun m hm => by omega, Below.refl _ _⟩
      case round =>
        obtain ⟨j, hj, rfl, hd, hbi⟩ := hrel
        have HE := Lib.hid hd
        clear hd
        have HB2 := Lib.hid (HB.out.next hbi)
        obtain ⟨b0', b1', b2'⟩ := HB2.out.c3
        have c1' := (hbi.cell (p := ⟨b, off + k, none⟩) hlb).trans c1
        have hx2 := hx.below hbi
        have hik : (k : Int) < (g.edges.length : Int) := by omega
        by_cases hlt2 : j < xs.length
        · obtain ⟨b2, off2, y, rfl, _, hlb2, c2, HY, _⟩ := ints_get hx2 hlt2
          have hij : (j : Int) < (xs.length : Int) := by omega
          rcases okAt_cases (n := g.states.length) HY.out with ⟨hok, y0, y1, hj0 | ⟨i, z, rfl, hz, hzy⟩⟩ | ⟨hbad, hcase⟩
          · have hz0 : decide (0 < j) = false := by simp; omega
            have HOK := Lib.hid hok
            clear hok hj0
            have hin : inB y 0 ((g.states.length : Int) - 1) = true := inB_true.2 (by omega)
            go_wp2_with fail
            go_quiet ((go_at_call 39; exact Calls.quiet_of_same ((l1In_any _ _ _ _).mono fun _ _ h => ⟨h.1, h.2.symm⟩)))
            go_wp2_with fail
            go_roundw
            case rel => exact ⟨j + 1, by omega, by go_num, ok_step HE.out HOK.out, below_drewN hbi _⟩
            case measure => simp [intOf]; omega
          · have hi : i < xs.length := by omega
            obtain ⟨_, _, z', e2, _, _, c3, HZ, _⟩ := ints_get hx2 hi
            have ez : z' = z := by have := HZ.out; rw [hz] at this; injection this with this; exact this.symm
            subst ez
            injection e2 with e2
            injection e2 with e3 e4
            subst e3 e4
            clear hz HZ
            have HOK := Lib.hid hok
            clear hok
            have hin : inB y 0 ((g.states.length : Int) - 1) = true := inB_true.2 (by omega)
            have hp : (0 : Int) < ((i + 1 : Nat) : Int) := by omega
            have hw1 : IntKind.i64.wrap (((i + 1 : Nat) : Int) - 1) = ((i : Nat) : Int) := by rw [IntWalk.i64_in _ (by omega)]; omega
            have hzy' : decide (y ≤ z') = false := by simp; omega
            go_wp2_with fail
            go_quiet ((go_at_call 39; exact Calls.quiet_of_same ((l1In_any _ _ _ _).mono fun _ _ h => ⟨h.1, h.2.symm⟩)))
            go_wp2_with fail
            go_roundw
            case rel => exact ⟨i + 1 + 1, by omega, by go_num, ok_step HE.out HOK.out, below_drewN hbi _⟩
            case measure => simp [intOf]; omega
          · have HF : Hid (g.edges.all (okRow g.states.length) = false) := List.all_eq_false.2 ⟨xs, hmem, by rw [okRow_false hlt2 hbad]; decide⟩
            clear hbad
            have hcase2 : inB y 0 ((g.states.length : Int) - 1) = false ∨ (inB y 0 ((g.states.length : Int) - 1) = true ∧ ∃ i z, j = i + 1 ∧ xs[i]? = some z ∧ y ≤ z) := by
              rcases hcase with hy | ⟨hy0, hy1⟩ | ⟨hy0, hy1, hz⟩
              · exact .inl (inB_false.2 (by omega))
              · exact .inl (inB_false.2 (by omega))
              · exact .inr ⟨inB_true.2 (by omega), hz⟩
            clear hcase
            rcases hcase2 with hin | ⟨hin, i, z, rfl, hz, hzy⟩
            · go_wp2_with fail
              go_quiet ((go_at_call 39; exact Calls.quiet_of_same ((l1In_any _ _ _ _).mono fun _ _ h => ⟨h.1, h.2.symm⟩)))
              go_wp2_with fail
              go_ret
              exact ⟨ret_bool HF.out.symm, by have z1 := hb.size; have z2 := HB.out.lt; repeat (first | with_reducible exact Below.refl _ _ | with_reducible refine Below.setCell ?_ (by first | omega | (simp <;> omega)) _ | with_reducible refine Below.drew ?_ | with_reducible refine below_drewN ?_ _ | with_reducible refine Below.alloc ?_ (by first | omega | (simp <;> omega)) _ | with_reducible refine Below.trans ?_ (Below.mono (by assumption) (by first | omega | (simp <;> omega))))⟩
            · have hi : i < xs.length := by omega
              obtain ⟨_, _, z', e2, _, _, c3, HZ, _⟩ := ints_get hx2 hi
              have ez : z' = z := by have := HZ.out; rw [hz] at this; injection this with this; exact this.symm
              subst ez
              injection e2 with e2
              injection e2 with e3 e4
              subst e3 e4
              clear hz HZ
              have hp : (0 : Int) < ((i + 1 : Nat) : Int) := by omega
              have hw1 : IntKind.i64.wrap (((i + 1 : Nat) : Int) - 1) = ((i : Nat) : Int) := by rw [IntWalk.i64_in _ (by omega)]; omega
              have hzy' : decide (y ≤ z') = true := by simp; omega
              go_wp2_with fail
              go_quiet ((go_at_call 39; exact Calls.quiet_of_same ((l1In_any _ _ _ _).mono fun _ _ h => ⟨h.1, h.2.symm⟩)))
              go_wp2_with fail
              go_ret
              exact ⟨ret_bool HF.out.symm, by have z1 := hb.size; have z2 := HB.out.lt; repeat (first | with_reducible exact Below.refl _ _ | with_reducible refine Below.setCell ?_ (by first | omega | (simp <;> omega)) _ | with_reducible refine Below.drew ?_ | with_reducible refine below_drewN ?_ _ | with_reducible refine Below.alloc ?_ (by first | omega | (simp <;> omega)) _ | with_reducible refine Below.trans ?_ (Below.mono (by assumption) (by first | omega | (simp <;> omega))))⟩
        · have HOK : Hid (okRow g.states.length xs = true) := okRow_true (fun m hm => HE.out m (by omega))
          go_wp2_with fail
          go_roundw
          case rel => exact ⟨k + 1, by omega, by go_num, all_take_succ HX.out HD.out HOK.out, HB2.out, by have z1 := hb.size; repeat (first | with_reducible exact Below.refl _ _ | with_reducible refine Below.setCell ?_ (by first | omega | (simp <;> omega)) _ | with_reducible refine Below.drew ?_ | with_reducible refine below_drewN ?_ _ | with_reducible refine Below.alloc ?_ (by first | omega | (simp <;> omega)) _ | with_reducible refine Below.trans ?_ (Below.mono (by assumption) (by first | omega | (simp <;> omega))))⟩
          case measure => simp [intOf]; omega
    · have HF : Hid (g.edges.all (okRow g.states.length) = true) := by
        have := HD.out
        rw [List.take_of_length_le (by omega)] at this
        exact List.all_eq_true.2 this
      go_wp2_with fail
      go_ret
      exact ⟨ret_bool HF.out.symm, hb⟩

set_option maxHeartbeats 1000000 in
theorem specIsGraph_any (g : Gr) (w : World) (v u : Value) (h : At w Any (terms g.states) v) (h' : At w Any (rows g.edges) u) :
    Calls Try.prog 21 #[.agg #[v, u, .bool g.whole]] w fun e w' => e = .returned (.bool (isGraph g)) ∧ Below w.heap.size w w' := by
  by_cases hok : 1 ≤ g.states.length ∧ g.states.length ≤ 40 ∧ g.edges.length = g.states.length
  · have e : isGraph g = g.edges.all (okRow g.states.length) := by unfold isGraph; rw [decide_eq_true hok, Bool.true_and]
    rw [e]
    exact specIsGraph_good g hok.1 hok.2.1 hok.2.2 w v u h h'
  · have HF : Hid (isGraph g = false) := by show isGraph g = false; unfold isGraph; rw [decide_eq_false hok, Bool.false_and]
    obtain ⟨A, c, rfl, hn, hc⟩ := terms_slice h
    obtain ⟨A', c', rfl, hn', hc'⟩ := rows_slice h'
    have hcase : g.states.length < 1 ∨ 40 < g.states.length ∨ (1 ≤ g.states.length ∧ g.states.length ≤ 40 ∧ ((g.edges.length : Int) != (g.states.length : Int)) = true) := by rw [bne_iff_ne]; omega
    clear hok
    rcases hcase with h1 | h1 | ⟨h1, h2, h3⟩
    all_goals
      go_enter Try.func21, Try.ntmps21
      go_wp2_with fail
      go_ret
      exact ⟨ret_bool HF.out.symm, by repeat (first | with_reducible exact Below.refl _ _ | with_reducible refine Below.setCell ?_ (by first | omega | (simp <;> omega)) _ | with_reducible refine Below.drew ?_ | with_reducible refine below_drewN ?_ _ | with_reducible refine Below.alloc ?_ (by first | omega | (simp <;> omega)) _ | with_reducible refine Below.trans ?_ (Below.mono (by assumption) (by first | omega | (simp <;> omega))))⟩

end Go.Proofs.Ytagnfckihdlhpaa

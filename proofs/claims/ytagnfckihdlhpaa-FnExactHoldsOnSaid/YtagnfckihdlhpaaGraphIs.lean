/-
  What IsGraph answers, in the reference and in the program.
-/
import Derived.Test.YtagnfckihdlhpaaGraph
namespace Go.Proofs.Ytagnfckihdlhpaa
open Go.RowKit

/-- What is asked of one row of edges. -/
def okAt (n : Int) (l : List Int) (k : Nat) : Prop := 0 ≤ l.getD k 0 ∧ l.getD k 0 < n ∧ (0 < k → l.getD (k - 1) 0 < l.getD k 0)
instance (n : Int) (l : List Int) (k : Nat) : Decidable (okAt n l k) := by unfold okAt; infer_instance
def okRow (n : Int) (l : List Int) : Bool := decide (∀ k, k < l.length → okAt n l k)
def isGraph (g : Gr) : Bool := decide (1 ≤ g.states.length ∧ g.states.length ≤ 40 ∧ g.edges.length = g.states.length) && g.edges.all (okRow g.states.length)

theorem getD_of {l : List Int} {k : Nat} {x : Int} (h : l[k]? = some x) : l.getD k 0 = x := by simp [List.getD, h]
theorem okRow_false {n : Int} {l : List Int} {k : Nat} (hk : k < l.length) (h : ¬ okAt n l k) : okRow n l = false := by
  simp only [okRow, decide_eq_false_iff_not]
  exact fun hh => h (hh k hk)
theorem okRow_true {n : Int} {l : List Int} (h : ∀ k, k < l.length → okAt n l k) : okRow n l = true := by simp only [okRow, decide_eq_true_eq]; exact h

/-- Whether the number at k of a row is wrong, test by test. -/
theorem okAt_cases {n x : Int} {l : List Int} {k : Nat} (hx : l[k]? = some x) :
    (okAt n l k ∧ 0 ≤ x ∧ x < n ∧ (k = 0 ∨ ∃ j y, k = j + 1 ∧ l[j]? = some y ∧ y < x)) ∨
    (¬ okAt n l k ∧ (x < 0 ∨ (0 ≤ x ∧ n ≤ x) ∨ (0 ≤ x ∧ x < n ∧ ∃ j y, k = j + 1 ∧ l[j]? = some y ∧ x ≤ y))) := by
  have e := getD_of hx
  unfold okAt
  rw [e]
  by_cases h0 : 0 ≤ x
  · by_cases h1 : x < n
    · cases k with
      | zero => exact .inl ⟨⟨h0, h1, fun h => absurd h (by omega)⟩, h0, h1, .inl rfl⟩
      | succ j =>
        have hj : j < l.length := by have := (List.getElem?_eq_some_iff.1 hx).1; omega
        have hy : l[j]? = some l[j] := List.getElem?_eq_getElem hj
        have ey : l.getD (j + 1 - 1) 0 = l[j] := getD_of hy
        rw [ey]
        by_cases h2 : l[j] < x
        · exact .inl ⟨⟨h0, h1, fun _ => h2⟩, h0, h1, .inr ⟨j, _, rfl, hy, h2⟩⟩
        · exact .inr ⟨fun hh => h2 (hh.2.2 (by omega)), .inr (.inr ⟨h0, h1, j, _, rfl, hy, by omega⟩)⟩
    · exact .inr ⟨fun hh => h1 hh.2.1, .inr (.inl ⟨h0, by omega⟩)⟩
  · exact .inr ⟨fun hh => h0 hh.1, .inl (by omega)⟩

theorem ok_step {n : Int} {l : List Int} {j : Nat} (h : ∀ m, m < j → okAt n l m) (h1 : okAt n l j) : ∀ m, m < j + 1 → okAt n l m := fun m hm => by
  by_cases e : m = j
  · subst e; exact h1
  · exact h m (by omega)

set_option maxHeartbeats 2000000 in
theorem implIsGraph_good (g : Gr) (hg1 : 1 ≤ g.states.length) (hg2 : g.states.length ≤ 40) (hg3 : g.edges.length = g.states.length) (w : World) (v u : Value) (h : At w Any (terms g.states) v) (h' : At w Any (rows g.edges) u) :
    Calls Try.prog 23 #[.agg #[v, u, .bool g.whole]] w fun e w' => e = .returned (.bool (g.edges.all (okRow g.states.length))) ∧ Below w.heap.size w w' := by
  obtain ⟨A, c, rfl, hn, hc⟩ := terms_slice h
  obtain ⟨A', c', rfl, hn', hc'⟩ := rows_slice h'
  have hg3' : ((g.edges.length : Int) != (g.states.length : Int)) = false := by rw [bne_eq_false_iff_eq]; omega
  have HG := Lib.hid hg3
  clear hg3
  go_enter Try.func23, Try.ntmps23
  go_wp2_with fail
  go_loop [27] (fun i => ∃ k : Nat, k ≤ g.edges.length ∧ i = .int .i64 k ∧ ∀ l ∈ g.edges.take k, okRow g.states.length l = true) (fun i => g.edges.length - (intOf i).toNat)
  case atStart => exact ⟨0, Nat.zero_le _, rfl, by simp⟩
  case round =>
    obtain ⟨k, hk, rfl, hd⟩ := hrel
    have HD := Lib.hid hd
    clear hd
    by_cases hlt : k < g.edges.length
    · obtain ⟨b, off, xs, x, rfl, _, hlb, c1, hx, HX⟩ := rows_get (h'.alloc (.cells #[.slice A g.states.length c, .slice A' g.edges.length c', .bool g.whole] 50)) hlt
      obtain ⟨Au, cu, rfl, hnu, hcu⟩ := ints_slice hx
      have hmem := List.mem_of_getElem? HX.out
      go_wp2_with fail
      go_loop [33] (fun i => ∃ j : Nat, j ≤ xs.length ∧ i = .int .i64 j ∧ ∀ m, m < j → okAt g.states.length xs m) (fun i => xs.length - (intOf i).toNat)
      case atStart => exact ⟨0, Nat.zero_le _, rfl, fun m hm => by omega⟩
      case round =>
        obtain ⟨j, hj, rfl, hd⟩ := hrel
        have HE := Lib.hid hd
        clear hd
        by_cases hlt2 : j < xs.length
        · obtain ⟨b2, off2, y, rfl, _, hlb2, c2, HY, _⟩ := ints_get hx hlt2
          rcases okAt_cases (n := g.states.length) HY.out with ⟨hok, y0, y1, hj0 | ⟨i, z, rfl, hz, hzy⟩⟩ | ⟨hbad, hcase⟩
          · subst hj0
            rw [Nat.add_zero] at c2
            have HOK := Lib.hid hok
            clear hok
            go_wp2_with fail
            go_round
            case rel => exact ⟨0 + 1, by omega, by go_num, ok_step HE.out HOK.out⟩
            case measure => simp [intOf]; omega
          · have hi : i < xs.length := by omega
            obtain ⟨_, _, z', e2, _, _, c3, HZ, _⟩ := ints_get hx hi
            have ez : z' = z := by have := HZ.out; rw [hz] at this; injection this with this; exact this.symm
            subst ez
            injection e2 with e2
            injection e2 with e3 e4
            subst e3 e4
            clear hz HZ
            have HOK := Lib.hid hok
            clear hok
            go_wp2_with fail
            go_round
            case rel => exact ⟨i + 1 + 1, by omega, by go_num, ok_step HE.out HOK.out⟩
            case measure => simp [intOf]; omega
          · have HF : Hid (g.edges.all (okRow g.states.length) = false) := List.all_eq_false.2 ⟨xs, hmem, by rw [okRow_false hlt2 hbad]; decide⟩
            clear hbad
            rcases hcase with hy | ⟨hy0, hy1⟩ | ⟨hy0, hy1, i, z, rfl, hz, hzy⟩
            · go_wp2_with fail
              go_ret
              exact ⟨ret_bool HF.out.symm, by repeat (first | with_reducible exact Below.refl _ _ | with_reducible refine Below.setCell ?_ (by first | omega | (simp <;> omega)) _ | with_reducible refine Below.drew ?_ | with_reducible refine below_drewN ?_ _ | with_reducible refine Below.alloc ?_ (by first | omega | (simp <;> omega)) _ | with_reducible refine Below.trans ?_ (Below.mono (by assumption) (by first | omega | (simp <;> omega))))⟩
            · go_wp2_with fail
              go_ret
              exact ⟨ret_bool HF.out.symm, by repeat (first | with_reducible exact Below.refl _ _ | with_reducible refine Below.setCell ?_ (by first | omega | (simp <;> omega)) _ | with_reducible refine Below.drew ?_ | with_reducible refine below_drewN ?_ _ | with_reducible refine Below.alloc ?_ (by first | omega | (simp <;> omega)) _ | with_reducible refine Below.trans ?_ (Below.mono (by assumption) (by first | omega | (simp <;> omega))))⟩
            · have hi : i < xs.length := by omega
              obtain ⟨_, _, z', e2, _, _, c3, HZ, _⟩ := ints_get hx hi
              have ez : z' = z := by have := HZ.out; rw [hz] at this; injection this with this; exact this.symm
              subst ez
              injection e2 with e2
              injection e2 with e3 e4
              subst e3 e4
              clear hz HZ
              go_wp2_with fail
              go_ret
              exact ⟨ret_bool HF.out.symm, by repeat (first | with_reducible exact Below.refl _ _ | with_reducible refine Below.setCell ?_ (by first | omega | (simp <;> omega)) _ | with_reducible refine Below.drew ?_ | with_reducible refine below_drewN ?_ _ | with_reducible refine Below.alloc ?_ (by first | omega | (simp <;> omega)) _ | with_reducible refine Below.trans ?_ (Below.mono (by assumption) (by first | omega | (simp <;> omega))))⟩
        · have HOK : Hid (okRow g.states.length xs = true) := okRow_true (fun m hm => HE.out m (by omega))
          go_wp2_with fail
          go_round
          case rel => exact ⟨k + 1, by omega, by go_num, all_take_succ HX.out HD.out HOK.out⟩
          case measure => simp [intOf]; omega
    · have HF : Hid (g.edges.all (okRow g.states.length) = true) := by
        have := HD.out
        rw [List.take_of_length_le (by omega)] at this
        exact List.all_eq_true.2 this
      go_wp2_with fail
      go_ret
      exact ⟨ret_bool HF.out.symm, by repeat (first | with_reducible exact Below.refl _ _ | with_reducible refine Below.setCell ?_ (by first | omega | (simp <;> omega)) _ | with_reducible refine Below.drew ?_ | with_reducible refine below_drewN ?_ _ | with_reducible refine Below.alloc ?_ (by first | omega | (simp <;> omega)) _ | with_reducible refine Below.trans ?_ (Below.mono (by assumption) (by first | omega | (simp <;> omega))))⟩

set_option maxHeartbeats 1000000 in
theorem implIsGraph_any (g : Gr) (w : World) (v u : Value) (h : At w Any (terms g.states) v) (h' : At w Any (rows g.edges) u) :
    Calls Try.prog 23 #[.agg #[v, u, .bool g.whole]] w fun e w' => e = .returned (.bool (isGraph g)) ∧ Below w.heap.size w w' := by
  by_cases hok : 1 ≤ g.states.length ∧ g.states.length ≤ 40 ∧ g.edges.length = g.states.length
  · have e : isGraph g = g.edges.all (okRow g.states.length) := by unfold isGraph; rw [decide_eq_true hok, Bool.true_and]
    rw [e]
    exact implIsGraph_good g hok.1 hok.2.1 hok.2.2 w v u h h'
  · have HF : Hid (isGraph g = false) := by show isGraph g = false; unfold isGraph; rw [decide_eq_false hok, Bool.false_and]
    obtain ⟨A, c, rfl, hn, hc⟩ := terms_slice h
    obtain ⟨A', c', rfl, hn', hc'⟩ := rows_slice h'
    have hcase : g.states.length < 1 ∨ 40 < g.states.length ∨ (1 ≤ g.states.length ∧ g.states.length ≤ 40 ∧ ((g.edges.length : Int) != (g.states.length : Int)) = true) := by rw [bne_iff_ne]; omega
    clear hok
    rcases hcase with h1 | h1 | ⟨h1, h2, h3⟩
    all_goals
      go_enter Try.func23, Try.ntmps23
      go_wp2_with fail
      go_ret
      exact ⟨ret_bool HF.out.symm, by repeat (first | with_reducible exact Below.refl _ _ | with_reducible refine Below.setCell ?_ (by first | omega | (simp <;> omega)) _ | with_reducible refine Below.drew ?_ | with_reducible refine below_drewN ?_ _ | with_reducible refine Below.alloc ?_ (by first | omega | (simp <;> omega)) _ | with_reducible refine Below.trans ?_ (Below.mono (by assumption) (by first | omega | (simp <;> omega))))⟩

end Go.Proofs.Ytagnfckihdlhpaa

/-
  The reference's count of nodes, and its IsFormula.
-/
import Derived.Test.YtagnfckihdlhpaaFormS
namespace Go.Proofs.Ytagnfckihdlhpaa
open Go.RowKit

def LeftF (f : Fm) : Prop := ∀ (left : Int) (w : World) (v : Value), At w Any (forms f.kids) v → 0 ≤ left → left ≤ 1048576 →
    Calls Try.prog 41 #[.agg #[.int .i64 f.kind, .int .i64 f.prop, v], .int .i64 left] w fun e w' => e = .returned (.int .i64 (took left (f.size : Nat))) ∧ Below w.heap.size w w'

theorem took_size {left : Int} {f : Fm} : took left ((f.size : Nat) : Int) = if left < f.total + 1 then -1 else left - f.total - 1 := by
  unfold took Fm.size
  by_cases h : left < f.total + 1
  · rw [if_pos h, if_pos (by omega)]
  · rw [if_neg h, if_neg (by omega)]; omega

set_option maxHeartbeats 1000000 in
theorem l31Left_any (f : Fm) : LeftF f := by
  induction f using Fm.induct with
  | h k q kids ih =>
    intro left w v h h0 h1
    have IH := Lib.hid ih
    clear ih
    obtain ⟨A, c, rfl, hn, hc⟩ := forms_slice h
    have HT := Lib.hid (Fm.total_eq ⟨k, q, kids⟩)
    go_enter Try.func41, Try.ntmps41
    go_wp2_with fail
    go_loopw [1, 5] (fun l i wr => ∃ (j : Nat) (r : Int), j ≤ kids.length ∧ i = .int .i64 j ∧ l = .int .i64 r ∧ -1 ≤ r ∧ r ≤ 1048576 ∧ (0 ≤ r → r = left - 1 - j - sumTo kids j) ∧ (r < 0 → left - 1 - j - sumTo kids j < 0) ∧
        Blk wr w.heap.size 38 #[.int .i64 k, .int .i64 q, .slice A kids.length c] ∧ Below w.heap.size w wr) (fun _ i _ => kids.length - (intOf i).toNat)
    case atStart => exact ⟨0, _, Nat.zero_le _, rfl, rfl, by omega, by omega, fun _ => by simp [sumTo], fun _ => by simp [sumTo]; omega, Blk.new _ _ _, by repeat (first | with_reducible exact Below.refl _ _ | with_reducible refine Below.setCell ?_ (by first | omega | (simp <;> omega)) _ | with_reducible refine Below.drew ?_ | with_reducible refine below_drewN ?_ _ | with_reducible refine Below.alloc ?_ (by first | omega | (simp <;> omega)) _ | with_reducible refine Below.trans ?_ (Below.mono (by assumption) (by first | omega | (simp <;> omega))))⟩
    case round =>
      obtain ⟨j, r, hj, rfl, rfl, hr1, hr2, hp, hm, hblk, hb⟩ := hrel
      obtain ⟨k0, k1, k2⟩ := hblk.c3
      have HB := Lib.hid hblk
      have HP := Lib.hid hp
      have HM := Lib.hid hm
      clear hblk hp hm
      have hle0 := sumTo_le kids j
      by_cases hlt : j < kids.length ∧ 0 ≤ r
      · obtain ⟨hlt, hr0⟩ := hlt
        obtain ⟨b, off, f, u, rfl, _, hlb, hc1, hc2, hc3, hu, HX, _⟩ := forms_get (h.below hb) hlt
        have hmem := List.mem_of_getElem? HX.out
        have HS := Lib.hid (sumTo_succ HX.out)
        have HZ := Lib.hid (@took_size r f)
        have z := hb.size
        go_wp2_with fail
        refine (IH.out f hmem _ _ _ hu (by omega) (by omega)).mono ?_
        rintro e w1 ⟨rfl, hb1⟩
        go_wp2_with fail
        go_roundw
        case rel =>
          have e1 := HP.out hr0
          have e2 := HS.out
          have e3 := HZ.out
          refine ⟨j + 1, _, by omega, by go_num, rfl, ?_, ?_, fun h0 => ?_, fun h0 => ?_, HB.out.next hb1, by repeat (first | with_reducible exact Below.refl _ _ | with_reducible refine Below.setCell ?_ (by first | omega | (simp <;> omega)) _ | with_reducible refine Below.drew ?_ | with_reducible refine below_drewN ?_ _ | with_reducible refine Below.alloc ?_ (by first | omega | (simp <;> omega)) _ | with_reducible refine Below.trans ?_ (Below.mono (by assumption) (by first | omega | (simp <;> omega))))⟩
          · rw [e3]; split <;> omega
          · rw [e3]; split <;> omega
          · rw [e3] at h0 ⊢; split at h0 <;> split <;> omega
          · rw [e3] at h0; split at h0 <;> omega
        case measure => simp [intOf]; omega
      · have HR : Hid (r = took left ((Fm.size ⟨k, q, kids⟩ : Nat) : Int)) := by
          show r = _
          rw [took_size, HT.out]
          unfold totals
          by_cases hr0 : 0 ≤ r
          · have e1 := HP.out hr0
            obtain rfl : j = kids.length := by omega
            rw [sumTo_all] at e1
            split <;> omega
          · have e1 := HM.out (by omega)
            split <;> omega
        by_cases hlt' : j < kids.length
        · have hr0 : r < 0 := by omega
          clear hlt
          go_wp2_with fail
          go_ret
          exact ⟨ret_int HR.out, hb⟩
        · clear hlt
          go_wp2_with fail
          go_ret
          exact ⟨ret_int HR.out, hb⟩

set_option maxHeartbeats 1000000 in
theorem specIsFormula_any (f : Fm) (w : World) (v : Value) (h : At w Any (forms f.kids) v) :
    Calls Try.prog 16 #[.agg #[.int .i64 f.kind, .int .i64 f.prop, v]] w fun e w' => e = .returned (.bool (isFormula f)) ∧ Below w.heap.size w w' := by
  obtain ⟨A, c, rfl, hn, hc⟩ := forms_slice h
  have hB0 := Blk.new w 38 #[.int .i64 f.kind, .int .i64 f.prop, .slice A f.kids.length c]
  by_cases hs : f.size ≤ 12
  · have HR : Hid (isFormula f = f.ok) := by show isFormula f = f.ok; unfold isFormula; rw [decide_eq_true hs, Bool.true_and]
    have ht : 0 ≤ took 12 ((f.size : Nat) : Int) := by unfold took; split <;> omega
    go_enter Try.func16, Try.ntmps16
    go_wp2_with fail
    refine (l31Left_any f _ _ _ (h.alloc _) (by omega) (by omega)).mono ?_
    rintro e w1 ⟨rfl, hb1⟩
    have h2 := (h.alloc _).below hb1
    have hB1 := hB0.next hb1
    obtain ⟨_, _, _⟩ := hB1.c3
    go_wp2_with fail
    refine (l31Right_any f _ _ h2).mono ?_
    rintro e w2 ⟨rfl, hb2⟩
    go_wp2_with fail
    go_ret
    exact ⟨ret_bool HR.out.symm, by have z := hb1.size; simp at z; repeat (first | with_reducible exact Below.refl _ _ | with_reducible refine Below.setCell ?_ (by first | omega | (simp <;> omega)) _ | with_reducible refine Below.drew ?_ | with_reducible refine below_drewN ?_ _ | with_reducible refine Below.alloc ?_ (by first | omega | (simp <;> omega)) _ | with_reducible refine Below.trans ?_ (Below.mono (by assumption) (by first | omega | (simp <;> omega))))⟩
  · have HR : Hid (isFormula f = false) := by show isFormula f = false; unfold isFormula; rw [decide_eq_false hs, Bool.false_and]
    have ht : took 12 ((f.size : Nat) : Int) < 0 := by unfold took; split <;> omega
    go_enter Try.func16, Try.ntmps16
    go_wp2_with fail
    refine (l31Left_any f _ _ _ (h.alloc _) (by omega) (by omega)).mono ?_
    rintro e w1 ⟨rfl, hb1⟩
    go_wp2_with fail
    go_ret
    exact ⟨ret_bool HR.out.symm, by repeat (first | with_reducible exact Below.refl _ _ | with_reducible refine Below.setCell ?_ (by first | omega | (simp <;> omega)) _ | with_reducible refine Below.drew ?_ | with_reducible refine below_drewN ?_ _ | with_reducible refine Below.alloc ?_ (by first | omega | (simp <;> omega)) _ | with_reducible refine Below.trans ?_ (Below.mono (by assumption) (by first | omega | (simp <;> omega))))⟩

end Go.Proofs.Ytagnfckihdlhpaa

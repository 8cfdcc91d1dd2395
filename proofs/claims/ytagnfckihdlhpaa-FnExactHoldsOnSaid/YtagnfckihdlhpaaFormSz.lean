/-
  What szFormula, toFormula and eqFormula compute.
-/
import Derived.Test.YtagnfckihdlhpaaLasso
import Derived.Test.YtagnfckihdlhpaaFormData
namespace Go.Proofs.Ytagnfckihdlhpaa
open Go.RowKit

def SzF (f : Fm) : Prop := ∀ (left : Int) (w : World) (S : Nat → Prop) (v : Value), At w S (forms f.kids) v → -1 ≤ left → left ≤ 1048576 →
    Calls Try.prog 15 #[.agg #[.int .i64 f.kind, .int .i64 f.prop, v], .int .i64 left] w fun e w' => e = .returned (.int .i64 (took left f.total)) ∧ Below w.heap.size w w'

set_option maxHeartbeats 1000000 in
theorem szFormulaS_of (fs : List Fm) (ih : ∀ x ∈ fs, SzF x) (left : Int) (w : World) (S : Nat → Prop) (v : Value) (h : At w S (forms fs) v) (h0 : -1 ≤ left) (h1 : left ≤ 1048576) :
    Calls Try.prog 40 #[v, .int .i64 left] w fun e w' => e = .returned (.int .i64 (took left (totals fs))) ∧ Below w.heap.size w w' := by
  obtain ⟨A, c, rfl, hn, hc⟩ := forms_slice h
  have IH := Lib.hid ih
  clear ih
  by_cases hneg : left - fs.length < 0
  · have HT : Hid (took left (totals fs) = -1) := by
      show took left (totals fs) = -1
      unfold took totals
      rw [if_pos (by omega)]
    go_enter Try.func40, Try.ntmps40
    go_wp2_with fail
    go_ret
    exact ⟨ret_int HT.out.symm, Below.refl _ _⟩
  · go_enter Try.func40, Try.ntmps40
    go_wp2_with fail
    go_loopw [1, 5] (fun l i wr => ∃ k : Nat, k ≤ fs.length ∧ i = .int .i64 k ∧ 0 ≤ left - fs.length - sumTo fs k ∧ l = .int .i64 (left - fs.length - sumTo fs k) ∧ Below w.heap.size w wr) (fun _ i _ => fs.length - (intOf i).toNat)
    case atStart => exact ⟨0, Nat.zero_le _, rfl, by simp [sumTo]; omega, by simp [sumTo], Below.refl _ _⟩
    case round =>
      obtain ⟨k, hk, rfl, hge, rfl, hb⟩ := hrel
      by_cases hlt : k < fs.length
      · obtain ⟨b, off, f, u, rfl, _, hlb, hc1, hc2, hc3, hu, HX, _⟩ := forms_get (h.below hb) hlt
        have hmem := List.mem_of_getElem? HX.out
        have hs := sumTo_succ HX.out
        have hle := sumTo_le fs (k + 1)
        have HS := Lib.hid hs
        clear hs
        have hz := hb.size
        by_cases hng : left - fs.length - sumTo fs k - f.total < 0
        · have hng' : took (left - fs.length - sumTo fs k) f.total < 0 := by unfold took; rw [if_pos hng]; omega
          have HT : Hid (took left (totals fs) = -1) := by
            show took left (totals fs) = -1
            have := HS.out
            unfold took totals
            rw [if_pos (by omega)]
          go_wp2_with fail
          refine (IH.out f hmem _ _ S _ hu (by omega) (by omega)).mono ?_
          rintro e w1 ⟨rfl, hb1⟩
          go_wp2_with fail
          go_ret
          refine ⟨ret_int HT.out.symm, ?_⟩
          repeat (first | with_reducible exact Below.refl _ _ | with_reducible refine Below.setCell ?_ (by first | omega | (simp <;> omega)) _ | with_reducible refine Below.drew ?_ | with_reducible refine below_drewN ?_ _ | with_reducible refine Below.alloc ?_ (by first | omega | (simp <;> omega)) _ | with_reducible refine Below.trans ?_ (Below.mono (by assumption) (by first | omega | (simp <;> omega))))
        · have hng' : 0 ≤ took (left - fs.length - sumTo fs k) f.total := by unfold took; rw [if_neg hng]; omega
          have HT : Hid (took (left - fs.length - sumTo fs k) f.total = left - fs.length - sumTo fs (k + 1)) := by
            show took (left - fs.length - sumTo fs k) f.total = _
            have := HS.out
            unfold took
            rw [if_neg hng]
            omega
          go_wp2_with fail
          refine (IH.out f hmem _ _ S _ hu (by omega) (by omega)).mono ?_
          rintro e w1 ⟨rfl, hb1⟩
          go_wp2_with fail
          go_roundw
          case rel => exact ⟨k + 1, by omega, by go_num, by have := HT.out; omega, by rw [HT.out], by repeat (first | with_reducible exact Below.refl _ _ | with_reducible refine Below.setCell ?_ (by first | omega | (simp <;> omega)) _ | with_reducible refine Below.drew ?_ | with_reducible refine below_drewN ?_ _ | with_reducible refine Below.alloc ?_ (by first | omega | (simp <;> omega)) _ | with_reducible refine Below.trans ?_ (Below.mono (by assumption) (by first | omega | (simp <;> omega))))⟩
          case measure => simp [intOf]; omega
      · have hk' : k = fs.length := by omega
        have HT : Hid (took left (totals fs) = left - fs.length - sumTo fs k) := by
          show took left (totals fs) = left - fs.length - sumTo fs k
          rw [hk'] at hge ⊢
          rw [sumTo_all] at hge ⊢
          unfold took totals
          rw [if_neg (by omega)]
          omega
        clear hk'
        go_wp2_with fail
        go_ret
        exact ⟨ret_int HT.out.symm, hb⟩

set_option maxHeartbeats 400000 in
theorem szFormula_any (f : Fm) : SzF f := by
  induction f using Fm.induct with
  | h k q kids ih =>
    intro left w S v h h0 h1
    have IH := Lib.hid ih
    clear ih
    obtain ⟨A, c, rfl, hn, hc⟩ := forms_slice h
    have HT : Hid (Fm.total ⟨k, q, kids⟩ = totals kids) := Fm.total_eq _
    go_enter Try.func15, Try.ntmps15
    go_wp2_with fail
    refine (szFormulaS_of kids IH.out _ _ S _ (h.alloc _) (by omega) (by omega)).mono ?_
    rintro e w1 ⟨rfl, hb1⟩
    go_wp2_with fail
    all_goals go_ret
    · exact ⟨ret_int (by rw [HT.out]; exact (took_neg ‹_›).symm), by repeat (first | with_reducible exact Below.refl _ _ | with_reducible refine Below.setCell ?_ (by first | omega | (simp <;> omega)) _ | with_reducible refine Below.drew ?_ | with_reducible refine below_drewN ?_ _ | with_reducible refine Below.alloc ?_ (by first | omega | (simp <;> omega)) _ | with_reducible refine Below.trans ?_ (Below.mono (by assumption) (by first | omega | (simp <;> omega))))⟩
    · exact ⟨ret_int (by rw [HT.out]), by repeat (first | with_reducible exact Below.refl _ _ | with_reducible refine Below.setCell ?_ (by first | omega | (simp <;> omega)) _ | with_reducible refine Below.drew ?_ | with_reducible refine below_drewN ?_ _ | with_reducible refine Below.alloc ?_ (by first | omega | (simp <;> omega)) _ | with_reducible refine Below.trans ?_ (Below.mono (by assumption) (by first | omega | (simp <;> omega))))⟩
theorem szFormulaS_any (fs : List Fm) (left : Int) (w : World) (S : Nat → Prop) (v : Value) (h : At w S (forms fs) v) (h0 : -1 ≤ left) (h1 : left ≤ 1048576) :
    Calls Try.prog 40 #[v, .int .i64 left] w fun e w' => e = .returned (.int .i64 (took left (totals fs))) ∧ Below w.heap.size w w' :=
  szFormulaS_of fs (fun x _ => szFormula_any x) left w S v h h0 h1

end Go.Proofs.Ytagnfckihdlhpaa

/-
  What szTerm, szTermS and szIntSS compute.
-/
import Derived.Test.YtagnfckihdlhpaaLasso
import Derived.Test.YtagnfckihdlhpaaTermData
namespace Go.Proofs.Ytagnfckihdlhpaa
open Go.RowKit

theorem took_took {left a b : Int} (h : 0 ≤ took left a) : took (took left a) b = took left (a + b) := by
  have h1 : ¬ left - a < 0 := fun hn => by unfold took at h; rw [if_pos hn] at h; omega
  have e : took left a = left - a := by unfold took; rw [if_neg h1]
  rw [e]
  unfold took
  split
  · rw [if_pos (by omega)]
  · rw [if_neg (by omega)]; omega
theorem took_more {left a b : Int} (hb : 0 ≤ b) (h : took left a < 0) : took left (a + b) = -1 := by
  unfold took at h ⊢
  split at h
  · rw [if_pos (by omega)]
  · omega

def SzT (t : Tm) : Prop := ∀ (left : Int) (w : World) (S : Nat → Prop) (v : Value), t.fits → At w S (terms t.args) v → -1 ≤ left → left ≤ 1048576 →
    Calls Try.prog 71 #[.agg #[.int .i64 t.op, .string t.name, .int .i64 t.sort, v], .int .i64 left] w fun e w' => e = .returned (.int .i64 (took left t.total)) ∧ Below w.heap.size w w'

set_option maxHeartbeats 1000000 in
theorem szTermS_of (ts : List Tm) (ih : ∀ x ∈ ts, SzT x) (left : Int) (w : World) (S : Nat → Prop) (v : Value) (h : At w S (terms ts) v) (h0 : -1 ≤ left) (h1 : left ≤ 1048576) :
    Calls Try.prog 47 #[v, .int .i64 left] w fun e w' => e = .returned (.int .i64 (took left (tmTotals ts))) ∧ Below w.heap.size w w' := by
  obtain ⟨A, c, rfl, hn, hc⟩ := terms_slice h
  have IH := Lib.hid ih
  clear ih
  by_cases hneg : left - ts.length < 0
  · have HT : Hid (took left (tmTotals ts) = -1) := by
      show took left (tmTotals ts) = -1
      unfold took tmTotals
      rw [if_pos (by omega)]
    go_enter Try.func47, Try.ntmps47
    go_wp2_with fail
    go_ret
    exact ⟨ret_int HT.out.symm, Below.refl _ _⟩
  · go_enter Try.func47, Try.ntmps47
    go_wp2_with fail
    go_loopw [1, 5] (fun l i wr => ∃ k : Nat, k ≤ ts.length ∧ i = .int .i64 k ∧ 0 ≤ left - ts.length - sumOf Tm.total ts k ∧ l = .int .i64 (left - ts.length - sumOf Tm.total ts k) ∧ Below w.heap.size w wr) (fun _ i _ => ts.length - (intOf i).toNat)
    case atStart => exact ⟨0, Nat.zero_le _, rfl, by rw [sumOf_zero]; omega, by rw [sumOf_zero]; simp, Below.refl _ _⟩
    case round =>
      obtain ⟨k, hk, rfl, hge, rfl, hb⟩ := hrel
      by_cases hlt : k < ts.length
      · obtain ⟨b, off, t, u, rfl, _, hlb, hc1, hc2, hc3, hc4, hu, HX, hfit⟩ := terms_get (h.below hb) hlt
        have hmem := List.mem_of_getElem? HX.out
        have HS := Lib.hid (sumOf_succ (f := Tm.total) HX.out)
        have hle := sumOf_le Tm.total ts (k + 1)
        have hz := hb.size
        have HF := Lib.hid hfit
        clear hfit
        by_cases hng : left - ts.length - sumOf Tm.total ts k - t.total < 0
        · have hng' : took (left - ts.length - sumOf Tm.total ts k) t.total < 0 := by unfold took; rw [if_pos hng]; omega
          have HT : Hid (took left (tmTotals ts) = -1) := by
            show took left (tmTotals ts) = -1
            have := HS.out
            unfold took tmTotals
            rw [if_pos (by omega)]
          go_wp2_with fail
          refine (IH.out t hmem _ _ S _ HF.out hu (by omega) (by omega)).mono ?_
          rintro e w1 ⟨rfl, hb1⟩
          go_wp2_with fail
          go_ret
          refine ⟨ret_int HT.out.symm, ?_⟩
          repeat (first | with_reducible exact Below.refl _ _ | with_reducible refine Below.setCell ?_ (by first | omega | (simp <;> omega)) _ | with_reducible refine Below.drew ?_ | with_reducible refine below_drewN ?_ _ | with_reducible refine Below.alloc ?_ (by first | omega | (simp <;> omega)) _ | with_reducible refine Below.trans ?_ (Below.mono (by assumption) (by first | omega | (simp <;> omega))))
        · have hng' : 0 ≤ took (left - ts.length - sumOf Tm.total ts k) t.total := by unfold took; rw [if_neg hng]; omega
          have HT : Hid (took (left - ts.length - sumOf Tm.total ts k) t.total = left - ts.length - sumOf Tm.total ts (k + 1)) := by
            show took (left - ts.length - sumOf Tm.total ts k) t.total = _
            have := HS.out
            unfold took
            rw [if_neg hng]
            omega
          go_wp2_with fail
          refine (IH.out t hmem _ _ S _ HF.out hu (by omega) (by omega)).mono ?_
          rintro e w1 ⟨rfl, hb1⟩
          go_wp2_with fail
          go_roundw
          case rel => exact ⟨k + 1, by omega, by go_num, by have := HT.out; omega, by rw [HT.out], by repeat (first | with_reducible exact Below.refl _ _ | with_reducible refine Below.setCell ?_ (by first | omega | (simp <;> omega)) _ | with_reducible refine Below.drew ?_ | with_reducible refine below_drewN ?_ _ | with_reducible refine Below.alloc ?_ (by first | omega | (simp <;> omega)) _ | with_reducible refine Below.trans ?_ (Below.mono (by assumption) (by first | omega | (simp <;> omega))))⟩
          case measure => simp [intOf]; omega
      · have hk' : k = ts.length := by omega
        have HT : Hid (took left (tmTotals ts) = left - ts.length - sumOf Tm.total ts k) := by
          show took left (tmTotals ts) = left - ts.length - sumOf Tm.total ts k
          rw [hk'] at hge ⊢
          rw [sumOf_all] at hge ⊢
          unfold took tmTotals
          rw [if_neg (by omega)]
          omega
        clear hk'
        go_wp2_with fail
        go_ret
        exact ⟨ret_int HT.out.symm, hb⟩

set_option maxHeartbeats 400000 in
theorem szTerm_any (t : Tm) : SzT t := by
  induction t using Tm.induct with
  | h o n s args ih =>
    intro left w S v hfit h h0 h1
    have IH := Lib.hid ih
    clear ih
    obtain ⟨A, c, rfl, hn, hc⟩ := terms_slice h
    have hns : n.size ≤ 9223372036854775807 := hfit.2.2.1
    clear hfit
    have HT : Hid (Tm.total ⟨o, n, s, args⟩ = n.size + tmTotals args) := Tm.total_eq _
    by_cases hneg : left - n.size < 0
    · have HR : Hid (took left (Tm.total ⟨o, n, s, args⟩) = -1) := by
        show took left (Tm.total ⟨o, n, s, args⟩) = -1
        have := HT.out
        unfold took
        rw [if_pos (by omega)]
      go_enter Try.func71, Try.ntmps71
      go_wp2_with fail
      go_ret
      exact ⟨ret_int HR.out.symm, by repeat (first | with_reducible exact Below.refl _ _ | with_reducible refine Below.setCell ?_ (by first | omega | (simp <;> omega)) _ | with_reducible refine Below.drew ?_ | with_reducible refine below_drewN ?_ _ | with_reducible refine Below.alloc ?_ (by first | omega | (simp <;> omega)) _ | with_reducible refine Below.trans ?_ (Below.mono (by assumption) (by first | omega | (simp <;> omega))))⟩
    · have HR : Hid (took left (Tm.total ⟨o, n, s, args⟩) = took (left - n.size) (tmTotals args)) := by
        show took left (Tm.total ⟨o, n, s, args⟩) = took (left - n.size) (tmTotals args)
        have := HT.out
        unfold took
        split
        · rw [if_pos (by omega)]
        · rw [if_neg (by omega)]; omega
      go_enter Try.func71, Try.ntmps71
      go_wp2_with fail
      refine (szTermS_of args IH.out _ _ S _ (h.alloc _) (by omega) (by omega)).mono ?_
      rintro e w1 ⟨rfl, hb1⟩
      go_wp2_with fail
      all_goals go_ret
      · exact ⟨ret_int (by rw [HR.out]; exact (took_neg ‹_›).symm), by repeat (first | with_reducible exact Below.refl _ _ | with_reducible refine Below.setCell ?_ (by first | omega | (simp <;> omega)) _ | with_reducible refine Below.drew ?_ | with_reducible refine below_drewN ?_ _ | with_reducible refine Below.alloc ?_ (by first | omega | (simp <;> omega)) _ | with_reducible refine Below.trans ?_ (Below.mono (by assumption) (by first | omega | (simp <;> omega))))⟩
      · exact ⟨ret_int (by rw [HR.out]), by repeat (first | with_reducible exact Below.refl _ _ | with_reducible refine Below.setCell ?_ (by first | omega | (simp <;> omega)) _ | with_reducible refine Below.drew ?_ | with_reducible refine below_drewN ?_ _ | with_reducible refine Below.alloc ?_ (by first | omega | (simp <;> omega)) _ | with_reducible refine Below.trans ?_ (Below.mono (by assumption) (by first | omega | (simp <;> omega))))⟩
theorem szTermS_any (ts : List Tm) (left : Int) (w : World) (S : Nat → Prop) (v : Value) (h : At w S (terms ts) v) (h0 : -1 ≤ left) (h1 : left ≤ 1048576) :
    Calls Try.prog 47 #[v, .int .i64 left] w fun e w' => e = .returned (.int .i64 (took left (tmTotals ts))) ∧ Below w.heap.size w w' :=
  szTermS_of ts (fun x _ => szTerm_any x) left w S v h h0 h1

set_option maxHeartbeats 1000000 in
theorem szIntSS_any (xss : List (List Int)) (left : Int) (w : World) (S : Nat → Prop) (v : Value) (h : At w S (rows xss) v) (h0 : -1 ≤ left) (h1 : left ≤ 1048576) :
    Calls Try.prog 48 #[v, .int .i64 left] w fun e w' => e = .returned (.int .i64 (took left (rowTotals xss))) ∧ Below w.heap.size w w' := by
  obtain ⟨A, c, rfl, hn, hc⟩ := rows_slice h
  by_cases hneg : left - xss.length < 0
  · have HT : Hid (took left (rowTotals xss) = -1) := by
      show took left (rowTotals xss) = -1
      unfold took rowTotals
      rw [if_pos (by omega)]
    go_enter Try.func48, Try.ntmps48
    go_wp2_with fail
    go_ret
    exact ⟨ret_int HT.out.symm, Below.refl _ _⟩
  · go_enter Try.func48, Try.ntmps48
    go_wp2_with fail
    go_loopw [1, 5] (fun l i wr => ∃ k : Nat, k ≤ xss.length ∧ i = .int .i64 k ∧ 0 ≤ left - xss.length - sumOf List.length xss k ∧ l = .int .i64 (left - xss.length - sumOf List.length xss k) ∧ Below w.heap.size w wr) (fun _ i _ => xss.length - (intOf i).toNat)
    case atStart => exact ⟨0, Nat.zero_le _, rfl, by rw [sumOf_zero]; omega, by rw [sumOf_zero]; simp, Below.refl _ _⟩
    case round =>
      obtain ⟨k, hk, rfl, hge, rfl, hb⟩ := hrel
      by_cases hlt : k < xss.length
      · obtain ⟨b, off, xs, u, rfl, _, hlb, hc1, hu, HX⟩ := rows_get (h.below hb) hlt
        obtain ⟨Au, cu, rfl, hnu, hcu⟩ := ints_slice hu
        have HS := Lib.hid (sumOf_succ (f := List.length) HX.out)
        have hle := sumOf_le List.length xss (k + 1)
        have hz := hb.size
        by_cases hng : left - xss.length - sumOf List.length xss k - xs.length < 0
        · have hng' : took (left - xss.length - sumOf List.length xss k) xs.length < 0 := by unfold took; rw [if_pos hng]; omega
          have HT : Hid (took left (rowTotals xss) = -1) := by
            show took left (rowTotals xss) = -1
            have := HS.out
            unfold took rowTotals
            rw [if_pos (by omega)]
          go_wp2_with fail
          refine (szIntS_any xs _ _ S _ hu (by omega) (by omega)).mono ?_
          rintro e w1 ⟨rfl, rfl⟩
          go_wp2_with fail
          go_ret
          refine ⟨ret_int HT.out.symm, hb⟩
        · have hng' : 0 ≤ took (left - xss.length - sumOf List.length xss k) xs.length := by unfold took; rw [if_neg hng]; omega
          have HT : Hid (took (left - xss.length - sumOf List.length xss k) xs.length = left - xss.length - sumOf List.length xss (k + 1)) := by
            show took (left - xss.length - sumOf List.length xss k) xs.length = _
            have := HS.out
            unfold took
            rw [if_neg hng]
            omega
          go_wp2_with fail
          refine (szIntS_any xs _ _ S _ hu (by omega) (by omega)).mono ?_
          rintro e w1 ⟨rfl, rfl⟩
          go_wp2_with fail
          go_roundw
          case rel => exact ⟨k + 1, by omega, by go_num, by have := HT.out; omega, by rw [HT.out], hb⟩
          case measure => simp [intOf]; omega
      · have hk' : k = xss.length := by omega
        have HT : Hid (took left (rowTotals xss) = left - xss.length - sumOf List.length xss k) := by
          show took left (rowTotals xss) = left - xss.length - sumOf List.length xss k
          rw [hk'] at hge ⊢
          rw [sumOf_all] at hge ⊢
          unfold took rowTotals
          rw [if_neg (by omega)]
          omega
        clear hk'
        go_wp2_with fail
        go_ret
        exact ⟨ret_int HT.out.symm, hb⟩

end Go.Proofs.Ytagnfckihdlhpaa

/-
  The program's formulaOK at nodes that are not right.
-/
import Derived.Test.YtagnfckihdlhpaaFormIs
namespace Go.Proofs.Ytagnfckihdlhpaa
open Go.RowKit

set_option maxHeartbeats 1000000 in
theorem formulaOK_bad1 (q : Int) (kids : List Fm) (hcase : (kids.length : Int) ≠ 0 ∨ ((kids.length : Int) = 0 ∧ (q < 0 ∨ (0 ≤ q ∧ (7 < q ∨ (q ≤ 7 ∧ (1 : Int) ≠ 2 ∧ q ≠ 0)))))) (w : World) (v : Value) (h : At w Any (forms kids) v) :
    Calls Try.prog 45 #[.agg #[.int .i64 1, .int .i64 q, v]] w fun e w' => e = .returned (.bool false) ∧ Below w.heap.size w w' := by
  obtain ⟨A, c, rfl, hn, hc⟩ := forms_slice h
  rcases hcase with hl | ⟨hl, hq | ⟨hq, hq7 | ⟨hq7, hk2, hq0⟩⟩⟩
  · have hl' : ((kids.length : Int) != 0) = true := by rw [bne_iff_ne]; exact hl
    clear hl
    go_enter Try.func45, Try.ntmps45
    go_wp2_with fail
    go_ret
    exact ⟨rfl, by repeat (first | with_reducible exact Below.refl _ _ | with_reducible refine Below.setCell ?_ (by first | omega | (simp <;> omega)) _ | with_reducible refine Below.drew ?_ | with_reducible refine below_drewN ?_ _ | with_reducible refine Below.alloc ?_ (by first | omega | (simp <;> omega)) _ | with_reducible refine Below.trans ?_ (Below.mono (by assumption) (by first | omega | (simp <;> omega))))⟩
  · have hl' : ((kids.length : Int) != 0) = false := by rw [bne_eq_false_iff_eq]; exact hl
    clear hl
    go_enter Try.func45, Try.ntmps45
    go_wp2_with fail
    go_ret
    exact ⟨rfl, by repeat (first | with_reducible exact Below.refl _ _ | with_reducible refine Below.setCell ?_ (by first | omega | (simp <;> omega)) _ | with_reducible refine Below.drew ?_ | with_reducible refine below_drewN ?_ _ | with_reducible refine Below.alloc ?_ (by first | omega | (simp <;> omega)) _ | with_reducible refine Below.trans ?_ (Below.mono (by assumption) (by first | omega | (simp <;> omega))))⟩
  · have hl' : ((kids.length : Int) != 0) = false := by rw [bne_eq_false_iff_eq]; exact hl
    clear hl
    go_enter Try.func45, Try.ntmps45
    go_wp2_with fail
    go_ret
    exact ⟨rfl, by repeat (first | with_reducible exact Below.refl _ _ | with_reducible refine Below.setCell ?_ (by first | omega | (simp <;> omega)) _ | with_reducible refine Below.drew ?_ | with_reducible refine below_drewN ?_ _ | with_reducible refine Below.alloc ?_ (by first | omega | (simp <;> omega)) _ | with_reducible refine Below.trans ?_ (Below.mono (by assumption) (by first | omega | (simp <;> omega))))⟩
  · first
      | exact absurd rfl hk2
      | (have hl' : ((kids.length : Int) != 0) = false := by rw [bne_eq_false_iff_eq]; exact hl
         have hq0' : (q != 0) = true := by rw [bne_iff_ne]; exact hq0
         clear hl hq0 hk2
         go_enter Try.func45, Try.ntmps45
         go_wp2_with fail
         go_ret
         exact ⟨rfl, by repeat (first | with_reducible exact Below.refl _ _ | with_reducible refine Below.setCell ?_ (by first | omega | (simp <;> omega)) _ | with_reducible refine Below.drew ?_ | with_reducible refine below_drewN ?_ _ | with_reducible refine Below.alloc ?_ (by first | omega | (simp <;> omega)) _ | with_reducible refine Below.trans ?_ (Below.mono (by assumption) (by first | omega | (simp <;> omega))))⟩)
set_option maxHeartbeats 1000000 in
theorem formulaOK_bad2 (q : Int) (kids : List Fm) (hcase : (kids.length : Int) ≠ 0 ∨ ((kids.length : Int) = 0 ∧ (q < 0 ∨ (0 ≤ q ∧ (7 < q ∨ (q ≤ 7 ∧ (2 : Int) ≠ 2 ∧ q ≠ 0)))))) (w : World) (v : Value) (h : At w Any (forms kids) v) :
    Calls Try.prog 45 #[.agg #[.int .i64 2, .int .i64 q, v]] w fun e w' => e = .returned (.bool false) ∧ Below w.heap.size w w' := by
  obtain ⟨A, c, rfl, hn, hc⟩ := forms_slice h
  rcases hcase with hl | ⟨hl, hq | ⟨hq, hq7 | ⟨hq7, hk2, hq0⟩⟩⟩
  · have hl' : ((kids.length : Int) != 0) = true := by rw [bne_iff_ne]; exact hl
    clear hl
    go_enter Try.func45, Try.ntmps45
    go_wp2_with fail
    go_ret
    exact ⟨rfl, by repeat (first | with_reducible exact Below.refl _ _ | with_reducible refine Below.setCell ?_ (by first | omega | (simp <;> omega)) _ | with_reducible refine Below.drew ?_ | with_reducible refine below_drewN ?_ _ | with_reducible refine Below.alloc ?_ (by first | omega | (simp <;> omega)) _ | with_reducible refine Below.trans ?_ (Below.mono (by assumption) (by first | omega | (simp <;> omega))))⟩
  · have hl' : ((kids.length : Int) != 0) = false := by rw [bne_eq_false_iff_eq]; exact hl
    clear hl
    go_enter Try.func45, Try.ntmps45
    go_wp2_with fail
    go_ret
    exact ⟨rfl, by repeat (first | with_reducible exact Below.refl _ _ | with_reducible refine Below.setCell ?_ (by first | omega | (simp <;> omega)) _ | with_reducible refine Below.drew ?_ | with_reducible refine below_drewN ?_ _ | with_reducible refine Below.alloc ?_ (by first | omega | (simp <;> omega)) _ | with_reducible refine Below.trans ?_ (Below.mono (by assumption) (by first | omega | (simp <;> omega))))⟩
  · have hl' : ((kids.length : Int) != 0) = false := by rw [bne_eq_false_iff_eq]; exact hl
    clear hl
    go_enter Try.func45, Try.ntmps45
    go_wp2_with fail
    go_ret
    exact ⟨rfl, by repeat (first | with_reducible exact Below.refl _ _ | with_reducible refine Below.setCell ?_ (by first | omega | (simp <;> omega)) _ | with_reducible refine Below.drew ?_ | with_reducible refine below_drewN ?_ _ | with_reducible refine Below.alloc ?_ (by first | omega | (simp <;> omega)) _ | with_reducible refine Below.trans ?_ (Below.mono (by assumption) (by first | omega | (simp <;> omega))))⟩
  · first
      | exact absurd rfl hk2
      | (have hl' : ((kids.length : Int) != 0) = false := by rw [bne_eq_false_iff_eq]; exact hl
         have hq0' : (q != 0) = true := by rw [bne_iff_ne]; exact hq0
         clear hl hq0 hk2
         go_enter Try.func45, Try.ntmps45
         go_wp2_with fail
         go_ret
         exact ⟨rfl, by repeat (first | with_reducible exact Below.refl _ _ | with_reducible refine Below.setCell ?_ (by first | omega | (simp <;> omega)) _ | with_reducible refine Below.drew ?_ | with_reducible refine below_drewN ?_ _ | with_reducible refine Below.alloc ?_ (by first | omega | (simp <;> omega)) _ | with_reducible refine Below.trans ?_ (Below.mono (by assumption) (by first | omega | (simp <;> omega))))⟩)
set_option maxHeartbeats 1000000 in
theorem formulaOK_bad3 (q : Int) (kids : List Fm) (hcase : (kids.length : Int) ≠ 1 ∨ ((kids.length : Int) = 1 ∧ (q < 0 ∨ (0 ≤ q ∧ (7 < q ∨ (q ≤ 7 ∧ (3 : Int) ≠ 2 ∧ q ≠ 0)))))) (w : World) (v : Value) (h : At w Any (forms kids) v) :
    Calls Try.prog 45 #[.agg #[.int .i64 3, .int .i64 q, v]] w fun e w' => e = .returned (.bool false) ∧ Below w.heap.size w w' := by
  obtain ⟨A, c, rfl, hn, hc⟩ := forms_slice h
  rcases hcase with hl | ⟨hl, hq | ⟨hq, hq7 | ⟨hq7, hk2, hq0⟩⟩⟩
  · have hl' : ((kids.length : Int) != 1) = true := by rw [bne_iff_ne]; exact hl
    clear hl
    go_enter Try.func45, Try.ntmps45
    go_wp2_with fail
    go_ret
    exact ⟨rfl, by repeat (first | with_reducible exact Below.refl _ _ | with_reducible refine Below.setCell ?_ (by first | omega | (simp <;> omega)) _ | with_reducible refine Below.drew ?_ | with_reducible refine below_drewN ?_ _ | with_reducible refine Below.alloc ?_ (by first | omega | (simp <;> omega)) _ | with_reducible refine Below.trans ?_ (Below.mono (by assumption) (by first | omega | (simp <;> omega))))⟩
  · have hl' : ((kids.length : Int) != 1) = false := by rw [bne_eq_false_iff_eq]; exact hl
    clear hl
    go_enter Try.func45, Try.ntmps45
    go_wp2_with fail
    go_ret
    exact ⟨rfl, by repeat (first | with_reducible exact Below.refl _ _ | with_reducible refine Below.setCell ?_ (by first | omega | (simp <;> omega)) _ | with_reducible refine Below.drew ?_ | with_reducible refine below_drewN ?_ _ | with_reducible refine Below.alloc ?_ (by first | omega | (simp <;> omega)) _ | with_reducible refine Below.trans ?_ (Below.mono (by assumption) (by first | omega | (simp <;> omega))))⟩
  · have hl' : ((kids.length : Int) != 1) = false := by rw [bne_eq_false_iff_eq]; exact hl
    clear hl
    go_enter Try.func45, Try.ntmps45
    go_wp2_with fail
    go_ret
    exact ⟨rfl, by repeat (first | with_reducible exact Below.refl _ _ | with_reducible refine Below.setCell ?_ (by first | omega | (simp <;> omega)) _ | with_reducible refine Below.drew ?_ | with_reducible refine below_drewN ?_ _ | with_reducible refine Below.alloc ?_ (by first | omega | (simp <;> omega)) _ | with_reducible refine Below.trans ?_ (Below.mono (by assumption) (by first | omega | (simp <;> omega))))⟩
  · first
      | exact absurd rfl hk2
      | (have hl' : ((kids.length : Int) != 1) = false := by rw [bne_eq_false_iff_eq]; exact hl
         have hq0' : (q != 0) = true := by rw [bne_iff_ne]; exact hq0
         clear hl hq0 hk2
         go_enter Try.func45, Try.ntmps45
         go_wp2_with fail
         go_ret
         exact ⟨rfl, by repeat (first | with_reducible exact Below.refl _ _ | with_reducible refine Below.setCell ?_ (by first | omega | (simp <;> omega)) _ | with_reducible refine Below.drew ?_ | with_reducible refine below_drewN ?_ _ | with_reducible refine Below.alloc ?_ (by first | omega | (simp <;> omega)) _ | with_reducible refine Below.trans ?_ (Below.mono (by assumption) (by first | omega | (simp <;> omega))))⟩)
set_option maxHeartbeats 1000000 in
theorem formulaOK_bad4 (q : Int) (kids : List Fm) (hcase : (kids.length : Int) ≠ 2 ∨ ((kids.length : Int) = 2 ∧ (q < 0 ∨ (0 ≤ q ∧ (7 < q ∨ (q ≤ 7 ∧ (4 : Int) ≠ 2 ∧ q ≠ 0)))))) (w : World) (v : Value) (h : At w Any (forms kids) v) :
    Calls Try.prog 45 #[.agg #[.int .i64 4, .int .i64 q, v]] w fun e w' => e = .returned (.bool false) ∧ Below w.heap.size w w' := by
  obtain ⟨A, c, rfl, hn, hc⟩ := forms_slice h
  rcases hcase with hl | ⟨hl, hq | ⟨hq, hq7 | ⟨hq7, hk2, hq0⟩⟩⟩
  · have hl' : ((kids.length : Int) != 2) = true := by rw [bne_iff_ne]; exact hl
    clear hl
    go_enter Try.func45, Try.ntmps45
    go_wp2_with fail
    go_ret
    exact ⟨rfl, by repeat (first | with_reducible exact Below.refl _ _ | with_reducible refine Below.setCell ?_ (by first | omega | (simp <;> omega)) _ | with_reducible refine Below.drew ?_ | with_reducible refine below_drewN ?_ _ | with_reducible refine Below.alloc ?_ (by first | omega | (simp <;> omega)) _ | with_reducible refine Below.trans ?_ (Below.mono (by assumption) (by first | omega | (simp <;> omega))))⟩
  · have hl' : ((kids.length : Int) != 2) = false := by rw [bne_eq_false_iff_eq]; exact hl
    clear hl
    go_enter Try.func45, Try.ntmps45
    go_wp2_with fail
    go_ret
    exact ⟨rfl, by repeat (first | with_reducible exact Below.refl _ _ | with_reducible refine Below.setCell ?_ (by first | omega | (simp <;> omega)) _ | with_reducible refine Below.drew ?_ | with_reducible refine below_drewN ?_ _ | with_reducible refine Below.alloc ?_ (by first | omega | (simp <;> omega)) _ | with_reducible refine Below.trans ?_ (Below.mono (by assumption) (by first | omega | (simp <;> omega))))⟩
  · have hl' : ((kids.length : Int) != 2) = false := by rw [bne_eq_false_iff_eq]; exact hl
    clear hl
    go_enter Try.func45, Try.ntmps45
    go_wp2_with fail
    go_ret
    exact ⟨rfl, by repeat (first | with_reducible exact Below.refl _ _ | with_reducible refine Below.setCell ?_ (by first | omega | (simp <;> omega)) _ | with_reducible refine Below.drew ?_ | with_reducible refine below_drewN ?_ _ | with_reducible refine Below.alloc ?_ (by first | omega | (simp <;> omega)) _ | with_reducible refine Below.trans ?_ (Below.mono (by assumption) (by first | omega | (simp <;> omega))))⟩
  · first
      | exact absurd rfl hk2
      | (have hl' : ((kids.length : Int) != 2) = false := by rw [bne_eq_false_iff_eq]; exact hl
         have hq0' : (q != 0) = true := by rw [bne_iff_ne]; exact hq0
         clear hl hq0 hk2
         go_enter Try.func45, Try.ntmps45
         go_wp2_with fail
         go_ret
         exact ⟨rfl, by repeat (first | with_reducible exact Below.refl _ _ | with_reducible refine Below.setCell ?_ (by first | omega | (simp <;> omega)) _ | with_reducible refine Below.drew ?_ | with_reducible refine below_drewN ?_ _ | with_reducible refine Below.alloc ?_ (by first | omega | (simp <;> omega)) _ | with_reducible refine Below.trans ?_ (Below.mono (by assumption) (by first | omega | (simp <;> omega))))⟩)
set_option maxHeartbeats 1000000 in
theorem formulaOK_bad5 (q : Int) (kids : List Fm) (hcase : (kids.length : Int) ≠ 2 ∨ ((kids.length : Int) = 2 ∧ (q < 0 ∨ (0 ≤ q ∧ (7 < q ∨ (q ≤ 7 ∧ (5 : Int) ≠ 2 ∧ q ≠ 0)))))) (w : World) (v : Value) (h : At w Any (forms kids) v) :
    Calls Try.prog 45 #[.agg #[.int .i64 5, .int .i64 q, v]] w fun e w' => e = .returned (.bool false) ∧ Below w.heap.size w w' := by
  obtain ⟨A, c, rfl, hn, hc⟩ := forms_slice h
  rcases hcase with hl | ⟨hl, hq | ⟨hq, hq7 | ⟨hq7, hk2, hq0⟩⟩⟩
  · have hl' : ((kids.length : Int) != 2) = true := by rw [bne_iff_ne]; exact hl
    clear hl
    go_enter Try.func45, Try.ntmps45
    go_wp2_with fail
    go_ret
    exact ⟨rfl, by repeat (first | with_reducible exact Below.refl _ _ | with_reducible refine Below.setCell ?_ (by first | omega | (simp <;> omega)) _ | with_reducible refine Below.drew ?_ | with_reducible refine below_drewN ?_ _ | with_reducible refine Below.alloc ?_ (by first | omega | (simp <;> omega)) _ | with_reducible refine Below.trans ?_ (Below.mono (by assumption) (by first | omega | (simp <;> omega))))⟩
  · have hl' : ((kids.length : Int) != 2) = false := by rw [bne_eq_false_iff_eq]; exact hl
    clear hl
    go_enter Try.func45, Try.ntmps45
    go_wp2_with fail
    go_ret
    exact ⟨rfl, by repeat (first | with_reducible exact Below.refl _ _ | with_reducible refine Below.setCell ?_ (by first | omega | (simp <;> omega)) _ | with_reducible refine Below.drew ?_ | with_reducible refine below_drewN ?_ _ | with_reducible refine Below.alloc ?_ (by first | omega | (simp <;> omega)) _ | with_reducible refine Below.trans ?_ (Below.mono (by assumption) (by first | omega | (simp <;> omega))))⟩
  · have hl' : ((kids.length : Int) != 2) = false := by rw [bne_eq_false_iff_eq]; exact hl
    clear hl
    go_enter Try.func45, Try.ntmps45
    go_wp2_with fail
    go_ret
    exact ⟨rfl, by repeat (first | with_reducible exact Below.refl _ _ | with_reducible refine Below.setCell ?_ (by first | omega | (simp <;> omega)) _ | with_reducible refine Below.drew ?_ | with_reducible refine below_drewN ?_ _ | with_reducible refine Below.alloc ?_ (by first | omega | (simp <;> omega)) _ | with_reducible refine Below.trans ?_ (Below.mono (by assumption) (by first | omega | (simp <;> omega))))⟩
  · first
      | exact absurd rfl hk2
      | (have hl' : ((kids.length : Int) != 2) = false := by rw [bne_eq_false_iff_eq]; exact hl
         have hq0' : (q != 0) = true := by rw [bne_iff_ne]; exact hq0
         clear hl hq0 hk2
         go_enter Try.func45, Try.ntmps45
         go_wp2_with fail
         go_ret
         exact ⟨rfl, by repeat (first | with_reducible exact Below.refl _ _ | with_reducible refine Below.setCell ?_ (by first | omega | (simp <;> omega)) _ | with_reducible refine Below.drew ?_ | with_reducible refine below_drewN ?_ _ | with_reducible refine Below.alloc ?_ (by first | omega | (simp <;> omega)) _ | with_reducible refine Below.trans ?_ (Below.mono (by assumption) (by first | omega | (simp <;> omega))))⟩)
set_option maxHeartbeats 1000000 in
theorem formulaOK_bad6 (q : Int) (kids : List Fm) (hcase : (kids.length : Int) ≠ 1 ∨ ((kids.length : Int) = 1 ∧ (q < 0 ∨ (0 ≤ q ∧ (7 < q ∨ (q ≤ 7 ∧ (6 : Int) ≠ 2 ∧ q ≠ 0)))))) (w : World) (v : Value) (h : At w Any (forms kids) v) :
    Calls Try.prog 45 #[.agg #[.int .i64 6, .int .i64 q, v]] w fun e w' => e = .returned (.bool false) ∧ Below w.heap.size w w' := by
  obtain ⟨A, c, rfl, hn, hc⟩ := forms_slice h
  rcases hcase with hl | ⟨hl, hq | ⟨hq, hq7 | ⟨hq7, hk2, hq0⟩⟩⟩
  · have hl' : ((kids.length : Int) != 1) = true := by rw [bne_iff_ne]; exact hl
    clear hl
    go_enter Try.func45, Try.ntmps45
    go_wp2_with fail
    go_ret
    exact ⟨rfl, by repeat (first | with_reducible exact Below.refl _ _ | with_reducible refine Below.setCell ?_ (by first | omega | (simp <;> omega)) _ | with_reducible refine Below.drew ?_ | with_reducible refine below_drewN ?_ _ | with_reducible refine Below.alloc ?_ (by first | omega | (simp <;> omega)) _ | with_reducible refine Below.trans ?_ (Below.mono (by assumption) (by first | omega | (simp <;> omega))))⟩
  · have hl' : ((kids.length : Int) != 1) = false := by rw [bne_eq_false_iff_eq]; exact hl
    clear hl
    go_enter Try.func45, Try.ntmps45
    go_wp2_with fail
    go_ret
    exact ⟨rfl, by repeat (first | with_reducible exact Below.refl _ _ | with_reducible refine Below.setCell ?_ (by first | omega | (simp <;> omega)) _ | with_reducible refine Below.drew ?_ | with_reducible refine below_drewN ?_ _ | with_reducible refine Below.alloc ?_ (by first | omega | (simp <;> omega)) _ | with_reducible refine Below.trans ?_ (Below.mono (by assumption) (by first | omega | (simp <;> omega))))⟩
  · have hl' : ((kids.length : Int) != 1) = false := by rw [bne_eq_false_iff_eq]; exact hl
    clear hl
    go_enter Try.func45, Try.ntmps45
    go_wp2_with fail
    go_ret
    exact ⟨rfl, by repeat (first | with_reducible exact Below.refl _ _ | with_reducible refine Below.setCell ?_ (by first | omega | (simp <;> omega)) _ | with_reducible refine Below.drew ?_ | with_reducible refine below_drewN ?_ _ | with_reducible refine Below.alloc ?_ (by first | omega | (simp <;> omega)) _ | with_reducible refine Below.trans ?_ (Below.mono (by assumption) (by first | omega | (simp <;> omega))))⟩
  · first
      | exact absurd rfl hk2
      | (have hl' : ((kids.length : Int) != 1) = false := by rw [bne_eq_false_iff_eq]; exact hl
         have hq0' : (q != 0) = true := by rw [bne_iff_ne]; exact hq0
         clear hl hq0 hk2
         go_enter Try.func45, Try.ntmps45
         go_wp2_with fail
         go_ret
         exact ⟨rfl, by repeat (first | with_reducible exact Below.refl _ _ | with_reducible refine Below.setCell ?_ (by first | omega | (simp <;> omega)) _ | with_reducible refine Below.drew ?_ | with_reducible refine below_drewN ?_ _ | with_reducible refine Below.alloc ?_ (by first | omega | (simp <;> omega)) _ | with_reducible refine Below.trans ?_ (Below.mono (by assumption) (by first | omega | (simp <;> omega))))⟩)
set_option maxHeartbeats 1000000 in
theorem formulaOK_bad7 (q : Int) (kids : List Fm) (hcase : (kids.length : Int) ≠ 2 ∨ ((kids.length : Int) = 2 ∧ (q < 0 ∨ (0 ≤ q ∧ (7 < q ∨ (q ≤ 7 ∧ (7 : Int) ≠ 2 ∧ q ≠ 0)))))) (w : World) (v : Value) (h : At w Any (forms kids) v) :
    Calls Try.prog 45 #[.agg #[.int .i64 7, .int .i64 q, v]] w fun e w' => e = .returned (.bool false) ∧ Below w.heap.size w w' := by
  obtain ⟨A, c, rfl, hn, hc⟩ := forms_slice h
  rcases hcase with hl | ⟨hl, hq | ⟨hq, hq7 | ⟨hq7, hk2, hq0⟩⟩⟩
  · have hl' : ((kids.length : Int) != 2) = true := by rw [bne_iff_ne]; exact hl
    clear hl
    go_enter Try.func45, Try.ntmps45
    go_wp2_with fail
    go_ret
    exact ⟨rfl, by repeat (first | with_reducible exact Below.refl _ _ | with_reducible refine Below.setCell ?_ (by first | omega | (simp <;> omega)) _ | with_reducible refine Below.drew ?_ | with_reducible refine below_drewN ?_ _ | with_reducible refine Below.alloc ?_ (by first | omega | (simp <;> omega)) _ | with_reducible refine Below.trans ?_ (Below.mono (by assumption) (by first | omega | (simp <;> omega))))⟩
  · have hl' : ((kids.length : Int) != 2) = false := by rw [bne_eq_false_iff_eq]; exact hl
    clear hl
    go_enter Try.func45, Try.ntmps45
    go_wp2_with fail
    go_ret
    exact ⟨rfl, by repeat (first | with_reducible exact Below.refl _ _ | with_reducible refine Below.setCell ?_ (by first | omega | (simp <;> omega)) _ | with_reducible refine Below.drew ?_ | with_reducible refine below_drewN ?_ _ | with_reducible refine Below.alloc ?_ (by first | omega | (simp <;> omega)) _ | with_reducible refine Below.trans ?_ (Below.mono (by assumption) (by first | omega | (simp <;> omega))))⟩
  · have hl' : ((kids.length : Int) != 2) = false := by rw [bne_eq_false_iff_eq]; exact hl
    clear hl
    go_enter Try.func45, Try.ntmps45
    go_wp2_with fail
    go_ret
    exact ⟨rfl, by repeat (first | with_reducible exact Below.refl _ _ | with_reducible refine Below.setCell ?_ (by first | omega | (simp <;> omega)) _ | with_reducible refine Below.drew ?_ | with_reducible refine below_drewN ?_ _ | with_reducible refine Below.alloc ?_ (by first | omega | (simp <;> omega)) _ | with_reducible refine Below.trans ?_ (Below.mono (by assumption) (by first | omega | (simp <;> omega))))⟩
  · first
      | exact absurd rfl hk2
      | (have hl' : ((kids.length : Int) != 2) = false := by rw [bne_eq_false_iff_eq]; exact hl
         have hq0' : (q != 0) = true := by rw [bne_iff_ne]; exact hq0
         clear hl hq0 hk2
         go_enter Try.func45, Try.ntmps45
         go_wp2_with fail
         go_ret
         exact ⟨rfl, by repeat (first | with_reducible exact Below.refl _ _ | with_reducible refine Below.setCell ?_ (by first | omega | (simp <;> omega)) _ | with_reducible refine Below.drew ?_ | with_reducible refine below_drewN ?_ _ | with_reducible refine Below.alloc ?_ (by first | omega | (simp <;> omega)) _ | with_reducible refine Below.trans ?_ (Below.mono (by assumption) (by first | omega | (simp <;> omega))))⟩)

set_option maxHeartbeats 1000000 in
theorem formulaOK_bad (k q : Int) (kids : List Fm) (hbad : ¬ okHead k q kids.length) (w : World) (v : Value) (h : At w Any (forms kids) v) :
    Calls Try.prog 45 #[.agg #[.int .i64 k, .int .i64 q, v]] w fun e w' => e = .returned (.bool false) ∧ Below w.heap.size w w' := by
  rcases bad_head hbad with hk | ⟨k1, k7, hcase⟩
  · obtain ⟨A, c, rfl, hn, hc⟩ := forms_slice h
    have e1 : (k == 1) = false := by rw [beq_eq_false_iff_ne]; omega
    have e2 : (k == 2) = false := by rw [beq_eq_false_iff_ne]; omega
    have e3 : (k == 3) = false := by rw [beq_eq_false_iff_ne]; omega
    have e4 : (k == 4) = false := by rw [beq_eq_false_iff_ne]; omega
    have e5 : (k == 5) = false := by rw [beq_eq_false_iff_ne]; omega
    have e6 : (k == 6) = false := by rw [beq_eq_false_iff_ne]; omega
    have e7 : (k == 7) = false := by rw [beq_eq_false_iff_ne]; omega
    clear hbad hk
    go_enter Try.func45, Try.ntmps45
    go_wp2_with fail
    go_ret
    exact ⟨rfl, by repeat (first | with_reducible exact Below.refl _ _ | with_reducible refine Below.setCell ?_ (by first | omega | (simp <;> omega)) _ | with_reducible refine Below.drew ?_ | with_reducible refine below_drewN ?_ _ | with_reducible refine Below.alloc ?_ (by first | omega | (simp <;> omega)) _ | with_reducible refine Below.trans ?_ (Below.mono (by assumption) (by first | omega | (simp <;> omega))))⟩
  · rcases kinds k1 k7 with rfl | rfl | rfl | rfl | rfl | rfl | rfl
    · exact formulaOK_bad1 q kids hcase w v h
    · exact formulaOK_bad2 q kids hcase w v h
    · exact formulaOK_bad3 q kids hcase w v h
    · exact formulaOK_bad4 q kids hcase w v h
    · exact formulaOK_bad5 q kids hcase w v h
    · exact formulaOK_bad6 q kids hcase w v h
    · exact formulaOK_bad7 q kids hcase w v h

end Go.Proofs.Ytagnfckihdlhpaa

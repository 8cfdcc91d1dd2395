/-
  The reference's IsFormula.
-/
import Derived.Test.YtagnfckihdlhpaaFormIs
namespace Go.Proofs.Ytagnfckihdlhpaa
open Go.RowKit

def RightF (f : Fm) : Prop := ∀ (w : World) (v : Value), At w Any (forms f.kids) v →
    Calls Try.prog 42 #[.agg #[.int .i64 f.kind, .int .i64 f.prop, v]] w fun e w' => e = .returned (.bool f.ok) ∧ Below w.heap.size w w'

set_option maxHeartbeats 1000000 in
theorem l31Right_bad1 (q : Int) (kids : List Fm) (hcase : q ≠ 0 ∨ (q = 0 ∧ (kids.length : Int) ≠ 0)) (w : World) (v : Value) (h : At w Any (forms kids) v) :
    Calls Try.prog 42 #[.agg #[.int .i64 1, .int .i64 q, v]] w fun e w' => e = .returned (.bool false) ∧ Below w.heap.size w w' := by
  obtain ⟨A, c, rfl, hn, hc⟩ := forms_slice h
  rcases hcase with hq | ⟨rfl, hl⟩
  · have hq' : (q != 0) = true := by rw [bne_iff_ne]; exact hq
    clear hq
    go_enter Try.func42, Try.ntmps42
    go_wp2_with fail
    go_ret
    exact ⟨rfl, by repeat (first | with_reducible exact Below.refl _ _ | with_reducible refine Below.setCell ?_ (by first | omega | (simp <;> omega)) _ | with_reducible refine Below.drew ?_ | with_reducible refine below_drewN ?_ _ | with_reducible refine Below.alloc ?_ (by first | omega | (simp <;> omega)) _ | with_reducible refine Below.trans ?_ (Below.mono (by assumption) (by first | omega | (simp <;> omega))))⟩
  · have hl' : ((kids.length : Int) != 0) = true := by rw [bne_iff_ne]; exact hl
    clear hl
    go_enter Try.func42, Try.ntmps42
    go_wp2_with fail
    go_ret
    exact ⟨rfl, by repeat (first | with_reducible exact Below.refl _ _ | with_reducible refine Below.setCell ?_ (by first | omega | (simp <;> omega)) _ | with_reducible refine Below.drew ?_ | with_reducible refine below_drewN ?_ _ | with_reducible refine Below.alloc ?_ (by first | omega | (simp <;> omega)) _ | with_reducible refine Below.trans ?_ (Below.mono (by assumption) (by first | omega | (simp <;> omega))))⟩
set_option maxHeartbeats 1000000 in
theorem l31Right_good1 (kids : List Fm) (ih : ∀ x ∈ kids, RightF x) (hl : (kids.length : Int) = 0) (w : World) (v : Value) (h : At w Any (forms kids) v) :
    Calls Try.prog 42 #[.agg #[.int .i64 1, .int .i64 0, v]] w fun e w' => e = .returned (.bool (kids.all Fm.ok)) ∧ Below w.heap.size w w' := by
  obtain ⟨A, c, rfl, hn, hc⟩ := forms_slice h
  have IH := Lib.hid ih
  clear ih
  have hl' : ((kids.length : Int) != 0) = false := by rw [bne_eq_false_iff_eq]; exact hl
  clear hl
  go_enter Try.func42, Try.ntmps42
  go_wp2_with fail
  go_loopw [4] (fun i wr => ∃ j : Nat, j ≤ kids.length ∧ i = .int .i64 j ∧ (∀ x ∈ kids.take j, x.ok = true) ∧ Blk wr w.heap.size 38 #[.int .i64 1, .int .i64 0, .slice A kids.length c] ∧ Below w.heap.size w wr) (fun i _ => kids.length - (intOf i).toNat)
  case atStart => exact ⟨0, Nat.zero_le _, rfl, by simp, Blk.new _ _ _, by repeat (first | with_reducible exact Below.refl _ _ | with_reducible refine Below.setCell ?_ (by first | omega | (simp <;> omega)) _ | with_reducible refine Below.drew ?_ | with_reducible refine below_drewN ?_ _ | with_reducible refine Below.alloc ?_ (by first | omega | (simp <;> omega)) _ | with_reducible refine Below.trans ?_ (Below.mono (by assumption) (by first | omega | (simp <;> omega))))⟩
  case round =>
    obtain ⟨j, hj, rfl, hd, hblk, hb⟩ := hrel
    have HD := Lib.hid hd
    obtain ⟨k0, k1, k2⟩ := hblk.c3
    have HB := Lib.hid hblk
    clear hd hblk
    by_cases hlt : j < kids.length
    · obtain ⟨b, off, f, u, rfl, _, hlb, hc1, hc2, hc3, hu, HX, _⟩ := forms_get (h.below hb) hlt
      have hmem := List.mem_of_getElem? HX.out
      have z := hb.size
      by_cases hok : f.ok = true
      · go_wp2_with fail
        refine (IH.out f hmem _ _ hu).mono ?_
        rintro e w1 ⟨rfl, hb1⟩
        go_wp2_with fail
        go_roundw
        case rel => exact ⟨j + 1, by omega, by go_num, all_take_succ HX.out HD.out hok, HB.out.next hb1, by repeat (first | with_reducible exact Below.refl _ _ | with_reducible refine Below.setCell ?_ (by first | omega | (simp <;> omega)) _ | with_reducible refine Below.drew ?_ | with_reducible refine below_drewN ?_ _ | with_reducible refine Below.alloc ?_ (by first | omega | (simp <;> omega)) _ | with_reducible refine Below.trans ?_ (Below.mono (by assumption) (by first | omega | (simp <;> omega))))⟩
        case measure => simp [intOf]; omega
      · have hok' : f.ok = false := by simpa using hok
        have HF : Hid (kids.all Fm.ok = false) := List.all_eq_false.2 ⟨f, hmem, by rw [hok']; decide⟩
        clear hok
        go_wp2_with fail
        refine (IH.out f hmem _ _ hu).mono ?_
        rintro e w1 ⟨rfl, hb1⟩
        go_wp2_with fail
        go_ret
        exact ⟨ret_bool HF.out.symm, by repeat (first | with_reducible exact Below.refl _ _ | with_reducible refine Below.setCell ?_ (by first | omega | (simp <;> omega)) _ | with_reducible refine Below.drew ?_ | with_reducible refine below_drewN ?_ _ | with_reducible refine Below.alloc ?_ (by first | omega | (simp <;> omega)) _ | with_reducible refine Below.trans ?_ (Below.mono (by assumption) (by first | omega | (simp <;> omega))))⟩
    · have HF : Hid (kids.all Fm.ok = true) := by
        have := HD.out
        rw [List.take_of_length_le (by omega)] at this
        exact List.all_eq_true.2 this
      go_wp2_with fail
      go_ret
      exact ⟨ret_bool HF.out.symm, hb⟩
set_option maxHeartbeats 1000000 in
theorem l31Right_bad3 (q : Int) (kids : List Fm) (hcase : q ≠ 0 ∨ (q = 0 ∧ (kids.length : Int) ≠ 1)) (w : World) (v : Value) (h : At w Any (forms kids) v) :
    Calls Try.prog 42 #[.agg #[.int .i64 3, .int .i64 q, v]] w fun e w' => e = .returned (.bool false) ∧ Below w.heap.size w w' := by
  obtain ⟨A, c, rfl, hn, hc⟩ := forms_slice h
  rcases hcase with hq | ⟨rfl, hl⟩
  · have hq' : (q != 0) = true := by rw [bne_iff_ne]; exact hq
    clear hq
    go_enter Try.func42, Try.ntmps42
    go_wp2_with fail
    go_ret
    exact ⟨rfl, by repeat (first | with_reducible exact Below.refl _ _ | with_reducible refine Below.setCell ?_ (by first | omega | (simp <;> omega)) _ | with_reducible refine Below.drew ?_ | with_reducible refine below_drewN ?_ _ | with_reducible refine Below.alloc ?_ (by first | omega | (simp <;> omega)) _ | with_reducible refine Below.trans ?_ (Below.mono (by assumption) (by first | omega | (simp <;> omega))))⟩
  · have hl' : ((kids.length : Int) != 1) = true := by rw [bne_iff_ne]; exact hl
    clear hl
    go_enter Try.func42, Try.ntmps42
    go_wp2_with fail
    go_ret
    exact ⟨rfl, by repeat (first | with_reducible exact Below.refl _ _ | with_reducible refine Below.setCell ?_ (by first | omega | (simp <;> omega)) _ | with_reducible refine Below.drew ?_ | with_reducible refine below_drewN ?_ _ | with_reducible refine Below.alloc ?_ (by first | omega | (simp <;> omega)) _ | with_reducible refine Below.trans ?_ (Below.mono (by assumption) (by first | omega | (simp <;> omega))))⟩
set_option maxHeartbeats 1000000 in
theorem l31Right_good3 (kids : List Fm) (ih : ∀ x ∈ kids, RightF x) (hl : (kids.length : Int) = 1) (w : World) (v : Value) (h : At w Any (forms kids) v) :
    Calls Try.prog 42 #[.agg #[.int .i64 3, .int .i64 0, v]] w fun e w' => e = .returned (.bool (kids.all Fm.ok)) ∧ Below w.heap.size w w' := by
  obtain ⟨A, c, rfl, hn, hc⟩ := forms_slice h
  have IH := Lib.hid ih
  clear ih
  have hl' : ((kids.length : Int) != 1) = false := by rw [bne_eq_false_iff_eq]; exact hl
  clear hl
  go_enter Try.func42, Try.ntmps42
  go_wp2_with fail
  go_loopw [4] (fun i wr => ∃ j : Nat, j ≤ kids.length ∧ i = .int .i64 j ∧ (∀ x ∈ kids.take j, x.ok = true) ∧ Blk wr w.heap.size 38 #[.int .i64 3, .int .i64 0, .slice A kids.length c] ∧ Below w.heap.size w wr) (fun i _ => kids.length - (intOf i).toNat)
  case atStart => exact ⟨0, Nat.zero_le _, rfl, by simp, Blk.new _ _ _, by repeat (first | with_reducible exact Below.refl _ _ | with_reducible refine Below.setCell ?_ (by first | omega | (simp <;> omega)) _ | with_reducible refine Below.drew ?_ | with_reducible refine below_drewN ?_ _ | with_reducible refine Below.alloc ?_ (by first | omega | (simp <;> omega)) _ | with_reducible refine Below.trans ?_ (Below.mono (by assumption) (by first | omega | (simp <;> omega))))⟩
  case round =>
    obtain ⟨j, hj, rfl, hd, hblk, hb⟩ := hrel
    have HD := Lib.hid hd
    obtain ⟨k0, k1, k2⟩ := hblk.c3
    have HB := Lib.hid hblk
    clear hd hblk
    by_cases hlt : j < kids.length
    · obtain ⟨b, off, f, u, rfl, _, hlb, hc1, hc2, hc3, hu, HX, _⟩ := forms_get (h.below hb) hlt
      have hmem := List.mem_of_getElem? HX.out
      have z := hb.size
      by_cases hok : f.ok = true
      · go_wp2_with fail
        refine (IH.out f hmem _ _ hu).mono ?_
        rintro e w1 ⟨rfl, hb1⟩
        go_wp2_with fail
        go_roundw
        case rel => exact ⟨j + 1, by omega, by go_num, all_take_succ HX.out HD.out hok, HB.out.next hb1, by repeat (first | with_reducible exact Below.refl _ _ | with_reducible refine Below.setCell ?_ (by first | omega | (simp <;> omega)) _ | with_reducible refine Below.drew ?_ | with_reducible refine below_drewN ?_ _ | with_reducible refine Below.alloc ?_ (by first | omega | (simp <;> omega)) _ | with_reducible refine Below.trans ?_ (Below.mono (by assumption) (by first | omega | (simp <;> omega))))⟩
        case measure => simp [intOf]; omega
      · have hok' : f.ok = false := by simpa using hok
        have HF : Hid (kids.all Fm.ok = false) := List.all_eq_false.2 ⟨f, hmem, by rw [hok']; decide⟩
        clear hok
        go_wp2_with fail
        refine (IH.out f hmem _ _ hu).mono ?_
        rintro e w1 ⟨rfl, hb1⟩
        go_wp2_with fail
        go_ret
        exact ⟨ret_bool HF.out.symm, by repeat (first | with_reducible exact Below.refl _ _ | with_reducible refine Below.setCell ?_ (by first | omega | (simp <;> omega)) _ | with_reducible refine Below.drew ?_ | with_reducible refine below_drewN ?_ _ | with_reducible refine Below.alloc ?_ (by first | omega | (simp <;> omega)) _ | with_reducible refine Below.trans ?_ (Below.mono (by assumption) (by first | omega | (simp <;> omega))))⟩
    · have HF : Hid (kids.all Fm.ok = true) := by
        have := HD.out
        rw [List.take_of_length_le (by omega)] at this
        exact List.all_eq_true.2 this
      go_wp2_with fail
      go_ret
      exact ⟨ret_bool HF.out.symm, hb⟩
set_option maxHeartbeats 1000000 in
theorem l31Right_bad4 (q : Int) (kids : List Fm) (hcase : q ≠ 0 ∨ (q = 0 ∧ (kids.length : Int) ≠ 2)) (w : World) (v : Value) (h : At w Any (forms kids) v) :
    Calls Try.prog 42 #[.agg #[.int .i64 4, .int .i64 q, v]] w fun e w' => e = .returned (.bool false) ∧ Below w.heap.size w w' := by
  obtain ⟨A, c, rfl, hn, hc⟩ := forms_slice h
  rcases hcase with hq | ⟨rfl, hl⟩
  · have hq' : (q != 0) = true := by rw [bne_iff_ne]; exact hq
    clear hq
    go_enter Try.func42, Try.ntmps42
    go_wp2_with fail
    go_ret
    exact ⟨rfl, by repeat (first | with_reducible exact Below.refl _ _ | with_reducible refine Below.setCell ?_ (by first | omega | (simp <;> omega)) _ | with_reducible refine Below.drew ?_ | with_reducible refine below_drewN ?_ _ | with_reducible refine Below.alloc ?_ (by first | omega | (simp <;> omega)) _ | with_reducible refine Below.trans ?_ (Below.mono (by assumption) (by first | omega | (simp <;> omega))))⟩
  · have hl' : ((kids.length : Int) != 2) = true := by rw [bne_iff_ne]; exact hl
    clear hl
    go_enter Try.func42, Try.ntmps42
    go_wp2_with fail
    go_ret
    exact ⟨rfl, by repeat (first | with_reducible exact Below.refl _ _ | with_reducible refine Below.setCell ?_ (by first | omega | (simp <;> omega)) _ | with_reducible refine Below.drew ?_ | with_reducible refine below_drewN ?_ _ | with_reducible refine Below.alloc ?_ (by first | omega | (simp <;> omega)) _ | with_reducible refine Below.trans ?_ (Below.mono (by assumption) (by first | omega | (simp <;> omega))))⟩
set_option maxHeartbeats 1000000 in
theorem l31Right_good4 (kids : List Fm) (ih : ∀ x ∈ kids, RightF x) (hl : (kids.length : Int) = 2) (w : World) (v : Value) (h : At w Any (forms kids) v) :
    Calls Try.prog 42 #[.agg #[.int .i64 4, .int .i64 0, v]] w fun e w' => e = .returned (.bool (kids.all Fm.ok)) ∧ Below w.heap.size w w' := by
  obtain ⟨A, c, rfl, hn, hc⟩ := forms_slice h
  have IH := Lib.hid ih
  clear ih
  have hl' : ((kids.length : Int) != 2) = false := by rw [bne_eq_false_iff_eq]; exact hl
  clear hl
  go_enter Try.func42, Try.ntmps42
  go_wp2_with fail
  go_loopw [4] (fun i wr => ∃ j : Nat, j ≤ kids.length ∧ i = .int .i64 j ∧ (∀ x ∈ kids.take j, x.ok = true) ∧ Blk wr w.heap.size 38 #[.int .i64 4, .int .i64 0, .slice A kids.length c] ∧ Below w.heap.size w wr) (fun i _ => kids.length - (intOf i).toNat)
  case atStart => exact ⟨0, Nat.zero_le _, rfl, by simp, Blk.new _ _ _, by repeat (first | with_reducible exact Below.refl _ _ | with_reducible refine Below.setCell ?_ (by first | omega | (simp <;> omega)) _ | with_reducible refine Below.drew ?_ | with_reducible refine below_drewN ?_ _ | with_reducible refine Below.alloc ?_ (by first | omega | (simp <;> omega)) _ | with_reducible refine Below.trans ?_ (Below.mono (by assumption) (by first | omega | (simp <;> omega))))⟩
  case round =>
    obtain ⟨j, hj, rfl, hd, hblk, hb⟩ := hrel
    have HD := Lib.hid hd
    obtain ⟨k0, k1, k2⟩ := hblk.c3
    have HB := Lib.hid hblk
    clear hd hblk
    by_cases hlt : j < kids.length
    · obtain ⟨b, off, f, u, rfl, _, hlb, hc1, hc2, hc3, hu, HX, _⟩ := forms_get (h.below hb) hlt
      have hmem := List.mem_of_getElem? HX.out
      have z := hb.size
      by_cases hok : f.ok = true
      · go_wp2_with fail
        refine (IH.out f hmem _ _ hu).mono ?_
        rintro e w1 ⟨rfl, hb1⟩
        go_wp2_with fail
        go_roundw
        case rel => exact ⟨j + 1, by omega, by go_num, all_take_succ HX.out HD.out hok, HB.out.next hb1, by repeat (first | with_reducible exact Below.refl _ _ | with_reducible refine Below.setCell ?_ (by first | omega | (simp <;> omega)) _ | with_reducible refine Below.drew ?_ | with_reducible refine below_drewN ?_ _ | with_reducible refine Below.alloc ?_ (by first | omega | (simp <;> omega)) _ | with_reducible refine Below.trans ?_ (Below.mono (by assumption) (by first | omega | (simp <;> omega))))⟩
        case measure => simp [intOf]; omega
      · have hok' : f.ok = false := by simpa using hok
        have HF : Hid (kids.all Fm.ok = false) := List.all_eq_false.2 ⟨f, hmem, by rw [hok']; decide⟩
        clear hok
        go_wp2_with fail
        refine (IH.out f hmem _ _ hu).mono ?_
        rintro e w1 ⟨rfl, hb1⟩
        go_wp2_with fail
        go_ret
        exact ⟨ret_bool HF.out.symm, by repeat (first | with_reducible exact Below.refl _ _ | with_reducible refine Below.setCell ?_ (by first | omega | (simp <;> omega)) _ | with_reducible refine Below.drew ?_ | with_reducible refine below_drewN ?_ _ | with_reducible refine Below.alloc ?_ (by first | omega | (simp <;> omega)) _ | with_reducible refine Below.trans ?_ (Below.mono (by assumption) (by first | omega | (simp <;> omega))))⟩
    · have HF : Hid (kids.all Fm.ok = true) := by
        have := HD.out
        rw [List.take_of_length_le (by omega)] at this
        exact List.all_eq_true.2 this
      go_wp2_with fail
      go_ret
      exact ⟨ret_bool HF.out.symm, hb⟩
set_option maxHeartbeats 1000000 in
theorem l31Right_bad5 (q : Int) (kids : List Fm) (hcase : q ≠ 0 ∨ (q = 0 ∧ (kids.length : Int) ≠ 2)) (w : World) (v : Value) (h : At w Any (forms kids) v) :
    Calls Try.prog 42 #[.agg #[.int .i64 5, .int .i64 q, v]] w fun e w' => e = .returned (.bool false) ∧ Below w.heap.size w w' := by
  obtain ⟨A, c, rfl, hn, hc⟩ := forms_slice h
  rcases hcase with hq | ⟨rfl, hl⟩
  · have hq' : (q != 0) = true := by rw [bne_iff_ne]; exact hq
    clear hq
    go_enter Try.func42, Try.ntmps42
    go_wp2_with fail
    go_ret
    exact ⟨rfl, by repeat (first | with_reducible exact Below.refl _ _ | with_reducible refine Below.setCell ?_ (by first | omega | (simp <;> omega)) _ | with_reducible refine Below.drew ?_ | with_reducible refine below_drewN ?_ _ | with_reducible refine Below.alloc ?_ (by first | omega | (simp <;> omega)) _ | with_reducible refine Below.trans ?_ (Below.mono (by assumption) (by first | omega | (simp <;> omega))))⟩
  · have hl' : ((kids.length : Int) != 2) = true := by rw [bne_iff_ne]; exact hl
    clear hl
    go_enter Try.func42, Try.ntmps42
    go_wp2_with fail
    go_ret
    exact ⟨rfl, by repeat (first | with_reducible exact Below.refl _ _ | with_reducible refine Below.setCell ?_ (by first | omega | (simp <;> omega)) _ | with_reducible refine Below.drew ?_ | with_reducible refine below_drewN ?_ _ | with_reducible refine Below.alloc ?_ (by first | omega | (simp <;> omega)) _ | with_reducible refine Below.trans ?_ (Below.mono (by assumption) (by first | omega | (simp <;> omega))))⟩
set_option maxHeartbeats 1000000 in
theorem l31Right_good5 (kids : List Fm) (ih : ∀ x ∈ kids, RightF x) (hl : (kids.length : Int) = 2) (w : World) (v : Value) (h : At w Any (forms kids) v) :
    Calls Try.prog 42 #[.agg #[.int .i64 5, .int .i64 0, v]] w fun e w' => e = .returned (.bool (kids.all Fm.ok)) ∧ Below w.heap.size w w' := by
  obtain ⟨A, c, rfl, hn, hc⟩ := forms_slice h
  have IH := Lib.hid ih
  clear ih
  have hl' : ((kids.length : Int) != 2) = false := by rw [bne_eq_false_iff_eq]; exact hl
  clear hl
  go_enter Try.func42, Try.ntmps42
  go_wp2_with fail
  go_loopw [4] (fun i wr => ∃ j : Nat, j ≤ kids.length ∧ i = .int .i64 j ∧ (∀ x ∈ kids.take j, x.ok = true) ∧ Blk wr w.heap.size 38 #[.int .i64 5, .int .i64 0, .slice A kids.length c] ∧ Below w.heap.size w wr) (fun i _ => kids.length - (intOf i).toNat)
  case atStart => exact ⟨0, Nat.zero_le _, rfl, by simp, Blk.new _ _ _, by repeat (first | with_reducible exact Below.refl _ _ | with_reducible refine Below.setCell ?_ (by first | omega | (simp <;> omega)) _ | with_reducible refine Below.drew ?_ | with_reducible refine below_drewN ?_ _ | with_reducible refine Below.alloc ?_ (by first | omega | (simp <;> omega)) _ | with_reducible refine Below.trans ?_ (Below.mono (by assumption) (by first | omega | (simp <;> omega))))⟩
  case round =>
    obtain ⟨j, hj, rfl, hd, hblk, hb⟩ := hrel
    have HD := Lib.hid hd
    obtain ⟨k0, k1, k2⟩ := hblk.c3
    have HB := Lib.hid hblk
    clear hd hblk
    by_cases hlt : j < kids.length
    · obtain ⟨b, off, f, u, rfl, _, hlb, hc1, hc2, hc3, hu, HX, _⟩ := forms_get (h.below hb) hlt
      have hmem := List.mem_of_getElem? HX.out
      have z := hb.size
      by_cases hok : f.ok = true
      · go_wp2_with fail
        refine (IH.out f hmem _ _ hu).mono ?_
        rintro e w1 ⟨rfl, hb1⟩
        go_wp2_with fail
        go_roundw
        case rel => exact ⟨j + 1, by omega, by go_num, all_take_succ HX.out HD.out hok, HB.out.next hb1, by repeat (first | with_reducible exact Below.refl _ _ | with_reducible refine Below.setCell ?_ (by first | omega | (simp <;> omega)) _ | with_reducible refine Below.drew ?_ | with_reducible refine below_drewN ?_ _ | with_reducible refine Below.alloc ?_ (by first | omega | (simp <;> omega)) _ | with_reducible refine Below.trans ?_ (Below.mono (by assumption) (by first | omega | (simp <;> omega))))⟩
        case measure => simp [intOf]; omega
      · have hok' : f.ok = false := by simpa using hok
        have HF : Hid (kids.all Fm.ok = false) := List.all_eq_false.2 ⟨f, hmem, by rw [hok']; decide⟩
        clear hok
        go_wp2_with fail
        refine (IH.out f hmem _ _ hu).mono ?_
        rintro e w1 ⟨rfl, hb1⟩
        go_wp2_with fail
        go_ret
        exact ⟨ret_bool HF.out.symm, by repeat (first | with_reducible exact Below.refl _ _ | with_reducible refine Below.setCell ?_ (by first | omega | (simp <;> omega)) _ | with_reducible refine Below.drew ?_ | with_reducible refine below_drewN ?_ _ | with_reducible refine Below.alloc ?_ (by first | omega | (simp <;> omega)) _ | with_reducible refine Below.trans ?_ (Below.mono (by assumption) (by first | omega | (simp <;> omega))))⟩
    · have HF : Hid (kids.all Fm.ok = true) := by
        have := HD.out
        rw [List.take_of_length_le (by omega)] at this
        exact List.all_eq_true.2 this
      go_wp2_with fail
      go_ret
      exact ⟨ret_bool HF.out.symm, hb⟩
set_option maxHeartbeats 1000000 in
theorem l31Right_bad6 (q : Int) (kids : List Fm) (hcase : q ≠ 0 ∨ (q = 0 ∧ (kids.length : Int) ≠ 1)) (w : World) (v : Value) (h : At w Any (forms kids) v) :
    Calls Try.prog 42 #[.agg #[.int .i64 6, .int .i64 q, v]] w fun e w' => e = .returned (.bool false) ∧ Below w.heap.size w w' := by
  obtain ⟨A, c, rfl, hn, hc⟩ := forms_slice h
  rcases hcase with hq | ⟨rfl, hl⟩
  · have hq' : (q != 0) = true := by rw [bne_iff_ne]; exact hq
    clear hq
    go_enter Try.func42, Try.ntmps42
    go_wp2_with fail
    go_ret
    exact ⟨rfl, by repeat (first | with_reducible exact Below.refl _ _ | with_reducible refine Below.setCell ?_ (by first | omega | (simp <;> omega)) _ | with_reducible refine Below.drew ?_ | with_reducible refine below_drewN ?_ _ | with_reducible refine Below.alloc ?_ (by first | omega | (simp <;> omega)) _ | with_reducible refine Below.trans ?_ (Below.mono (by assumption) (by first | omega | (simp <;> omega))))⟩
  · have hl' : ((kids.length : Int) != 1) = true := by rw [bne_iff_ne]; exact hl
    clear hl
    go_enter Try.func42, Try.ntmps42
    go_wp2_with fail
    go_ret
    exact ⟨rfl, by repeat (first | with_reducible exact Below.refl _ _ | with_reducible refine Below.setCell ?_ (by first | omega | (simp <;> omega)) _ | with_reducible refine Below.drew ?_ | with_reducible refine below_drewN ?_ _ | with_reducible refine Below.alloc ?_ (by first | omega | (simp <;> omega)) _ | with_reducible refine Below.trans ?_ (Below.mono (by assumption) (by first | omega | (simp <;> omega))))⟩
set_option maxHeartbeats 1000000 in
theorem l31Right_good6 (kids : List Fm) (ih : ∀ x ∈ kids, RightF x) (hl : (kids.length : Int) = 1) (w : World) (v : Value) (h : At w Any (forms kids) v) :
    Calls Try.prog 42 #[.agg #[.int .i64 6, .int .i64 0, v]] w fun e w' => e = .returned (.bool (kids.all Fm.ok)) ∧ Below w.heap.size w w' := by
  obtain ⟨A, c, rfl, hn, hc⟩ := forms_slice h
  have IH := Lib.hid ih
  clear ih
  have hl' : ((kids.length : Int) != 1) = false := by rw [bne_eq_false_iff_eq]; exact hl
  clear hl
  go_enter Try.func42, Try.ntmps42
  go_wp2_with fail
  go_loopw [4] (fun i wr => ∃ j : Nat, j ≤ kids.length ∧ i = .int .i64 j ∧ (∀ x ∈ kids.take j, x.ok = true) ∧ Blk wr w.heap.size 38 #[.int .i64 6, .int .i64 0, .slice A kids.length c] ∧ Below w.heap.size w wr) (fun i _ => kids.length - (intOf i).toNat)
  case atStart => exact ⟨0, Nat.zero_le _, rfl, by simp, Blk.new _ _ _, by repeat (first | with_reducible exact Below.refl _ _ | with_reducible refine Below.setCell ?_ (by first | omega | (simp <;> omega)) _ | with_reducible refine Below.drew ?_ | with_reducible refine below_drewN ?_ _ | with_reducible refine Below.alloc ?_ (by first | omega | (simp <;> omega)) _ | with_reducible refine Below.trans ?_ (Below.mono (by assumption) (by first | omega | (simp <;> omega))))⟩
  case round =>
    obtain ⟨j, hj, rfl, hd, hblk, hb⟩ := hrel
    have HD := Lib.hid hd
    obtain ⟨k0, k1, k2⟩ := hblk.c3
    have HB := Lib.hid hblk
    clear hd hblk
    by_cases hlt : j < kids.length
    · obtain ⟨b, off, f, u, rfl, _, hlb, hc1, hc2, hc3, hu, HX, _⟩ := forms_get (h.below hb) hlt
      have hmem := List.mem_of_getElem? HX.out
      have z := hb.size
      by_cases hok : f.ok = true
      · go_wp2_with fail
        refine (IH.out f hmem _ _ hu).mono ?_
        rintro e w1 ⟨rfl, hb1⟩
        go_wp2_with fail
        go_roundw
        case rel => exact ⟨j + 1, by omega, by go_num, all_take_succ HX.out HD.out hok, HB.out.next hb1, by repeat (first | with_reducible exact Below.refl _ _ | with_reducible refine Below.setCell ?_ (by first | omega | (simp <;> omega)) _ | with_reducible refine Below.drew ?_ | with_reducible refine below_drewN ?_ _ | with_reducible refine Below.alloc ?_ (by first | omega | (simp <;> omega)) _ | with_reducible refine Below.trans ?_ (Below.mono (by assumption) (by first | omega | (simp <;> omega))))⟩
        case measure => simp [intOf]; omega
      · have hok' : f.ok = false := by simpa using hok
        have HF : Hid (kids.all Fm.ok = false) := List.all_eq_false.2 ⟨f, hmem, by rw [hok']; decide⟩
        clear hok
        go_wp2_with fail
        refine (IH.out f hmem _ _ hu).mono ?_
        rintro e w1 ⟨rfl, hb1⟩
        go_wp2_with fail
        go_ret
        exact ⟨ret_bool HF.out.symm, by repeat (first | with_reducible exact Below.refl _ _ | with_reducible refine Below.setCell ?_ (by first | omega | (simp <;> omega)) _ | with_reducible refine Below.drew ?_ | with_reducible refine below_drewN ?_ _ | with_reducible refine Below.alloc ?_ (by first | omega | (simp <;> omega)) _ | with_reducible refine Below.trans ?_ (Below.mono (by assumption) (by first | omega | (simp <;> omega))))⟩
    · have HF : Hid (kids.all Fm.ok = true) := by
        have := HD.out
        rw [List.take_of_length_le (by omega)] at this
        exact List.all_eq_true.2 this
      go_wp2_with fail
      go_ret
      exact ⟨ret_bool HF.out.symm, hb⟩
set_option maxHeartbeats 1000000 in
theorem l31Right_bad7 (q : Int) (kids : List Fm) (hcase : q ≠ 0 ∨ (q = 0 ∧ (kids.length : Int) ≠ 2)) (w : World) (v : Value) (h : At w Any (forms kids) v) :
    Calls Try.prog 42 #[.agg #[.int .i64 7, .int .i64 q, v]] w fun e w' => e = .returned (.bool false) ∧ Below w.heap.size w w' := by
  obtain ⟨A, c, rfl, hn, hc⟩ := forms_slice h
  rcases hcase with hq | ⟨rfl, hl⟩
  · have hq' : (q != 0) = true := by rw [bne_iff_ne]; exact hq
    clear hq
    go_enter Try.func42, Try.ntmps42
    go_wp2_with fail
    go_ret
    exact ⟨rfl, by repeat (first | with_reducible exact Below.refl _ _ | with_reducible refine Below.setCell ?_ (by first | omega | (simp <;> omega)) _ | with_reducible refine Below.drew ?_ | with_reducible refine below_drewN ?_ _ | with_reducible refine Below.alloc ?_ (by first | omega | (simp <;> omega)) _ | with_reducible refine Below.trans ?_ (Below.mono (by assumption) (by first | omega | (simp <;> omega))))⟩
  · have hl' : ((kids.length : Int) != 2) = true := by rw [bne_iff_ne]; exact hl
    clear hl
    go_enter Try.func42, Try.ntmps42
    go_wp2_with fail
    go_ret
    exact ⟨rfl, by repeat (first | with_reducible exact Below.refl _ _ | with_reducible refine Below.setCell ?_ (by first | omega | (simp <;> omega)) _ | with_reducible refine Below.drew ?_ | with_reducible refine below_drewN ?_ _ | with_reducible refine Below.alloc ?_ (by first | omega | (simp <;> omega)) _ | with_reducible refine Below.trans ?_ (Below.mono (by assumption) (by first | omega | (simp <;> omega))))⟩
set_option maxHeartbeats 1000000 in
theorem l31Right_good7 (kids : List Fm) (ih : ∀ x ∈ kids, RightF x) (hl : (kids.length : Int) = 2) (w : World) (v : Value) (h : At w Any (forms kids) v) :
    Calls Try.prog 42 #[.agg #[.int .i64 7, .int .i64 0, v]] w fun e w' => e = .returned (.bool (kids.all Fm.ok)) ∧ Below w.heap.size w w' := by
  obtain ⟨A, c, rfl, hn, hc⟩ := forms_slice h
  have IH := Lib.hid ih
  clear ih
  have hl' : ((kids.length : Int) != 2) = false := by rw [bne_eq_false_iff_eq]; exact hl
  clear hl
  go_enter Try.func42, Try.ntmps42
  go_wp2_with fail
  go_loopw [4] (fun i wr => ∃ j : Nat, j ≤ kids.length ∧ i = .int .i64 j ∧ (∀ x ∈ kids.take j, x.ok = true) ∧ Blk wr w.heap.size 38 #[.int .i64 7, .int .i64 0, .slice A kids.length c] ∧ Below w.heap.size w wr) (fun i _ => kids.length - (intOf i).toNat)
  case atStart => exact ⟨0, Nat.zero_le _, rfl, by simp, Blk.new _ _ _, by repeat (first | with_reducible exact Below.refl _ _ | with_reducible refine Below.setCell ?_ (by first | omega | (simp <;> omega)) _ | with_reducible refine Below.drew ?_ | with_reducible refine below_drewN ?_ _ | with_reducible refine Below.alloc ?_ (by first | omega | (simp <;> omega)) _ | with_reducible refine Below.trans ?_ (Below.mono (by assumption) (by first | omega | (simp <;> omega))))⟩
  case round =>
    obtain ⟨j, hj, rfl, hd, hblk, hb⟩ := hrel
    have HD := Lib.hid hd
    obtain ⟨k0, k1, k2⟩ := hblk.c3
    have HB := Lib.hid hblk
    clear hd hblk
    by_cases hlt : j < kids.length
    · obtain ⟨b, off, f, u, rfl, _, hlb, hc1, hc2, hc3, hu, HX, _⟩ := forms_get (h.below hb) hlt
      have hmem := List.mem_of_getElem? HX.out
      have z := hb.size
      by_cases hok : f.ok = true
      · go_wp2_with fail
        refine (IH.out f hmem _ _ hu).mono ?_
        rintro e w1 ⟨rfl, hb1⟩
        go_wp2_with fail
        go_roundw
        case rel => exact ⟨j + 1, by omega, by go_num, all_take_succ HX.out HD.out hok, HB.out.next hb1, by repeat (first | with_reducible exact Below.refl _ _ | with_reducible refine Below.setCell ?_ (by first | omega | (simp <;> omega)) _ | with_reducible refine Below.drew ?_ | with_reducible refine below_drewN ?_ _ | with_reducible refine Below.alloc ?_ (by first | omega | (simp <;> omega)) _ | with_reducible refine Below.trans ?_ (Below.mono (by assumption) (by first | omega | (simp <;> omega))))⟩
        case measure => simp [intOf]; omega
      · have hok' : f.ok = false := by simpa using hok
        have HF : Hid (kids.all Fm.ok = false) := List.all_eq_false.2 ⟨f, hmem, by rw [hok']; decide⟩
        clear hok
        go_wp2_with fail
        refine (IH.out f hmem _ _ hu).mono ?_
        rintro e w1 ⟨rfl, hb1⟩
        go_wp2_with fail
        go_ret
        exact ⟨ret_bool HF.out.symm, by repeat (first | with_reducible exact Below.refl _ _ | with_reducible refine Below.setCell ?_ (by first | omega | (simp <;> omega)) _ | with_reducible refine Below.drew ?_ | with_reducible refine below_drewN ?_ _ | with_reducible refine Below.alloc ?_ (by first | omega | (simp <;> omega)) _ | with_reducible refine Below.trans ?_ (Below.mono (by assumption) (by first | omega | (simp <;> omega))))⟩
    · have HF : Hid (kids.all Fm.ok = true) := by
        have := HD.out
        rw [List.take_of_length_le (by omega)] at this
        exact List.all_eq_true.2 this
      go_wp2_with fail
      go_ret
      exact ⟨ret_bool HF.out.symm, hb⟩

set_option maxHeartbeats 1000000 in
theorem l31Right_bad2 (q : Int) (kids : List Fm) (hcase : inB q 0 7 = false ∨ (inB q 0 7 = true ∧ (kids.length : Int) ≠ 0)) (w : World) (v : Value) (h : At w Any (forms kids) v) :
    Calls Try.prog 42 #[.agg #[.int .i64 2, .int .i64 q, v]] w fun e w' => e = .returned (.bool false) ∧ Below w.heap.size w w' := by
  obtain ⟨A, c, rfl, hn, hc⟩ := forms_slice h
  rcases hcase with hq | ⟨hq, hl⟩
  · go_enter Try.func42, Try.ntmps42
    go_wp2_with fail
    refine (l1In_any _ _ _ _).mono ?_
    rintro e w' ⟨rfl, rfl⟩
    go_wp2_with fail
    go_ret
    exact ⟨rfl, by repeat (first | with_reducible exact Below.refl _ _ | with_reducible refine Below.setCell ?_ (by first | omega | (simp <;> omega)) _ | with_reducible refine Below.drew ?_ | with_reducible refine below_drewN ?_ _ | with_reducible refine Below.alloc ?_ (by first | omega | (simp <;> omega)) _ | with_reducible refine Below.trans ?_ (Below.mono (by assumption) (by first | omega | (simp <;> omega))))⟩
  · have hl' : ((kids.length : Int) != 0) = true := by rw [bne_iff_ne]; exact hl
    clear hl
    go_enter Try.func42, Try.ntmps42
    go_wp2_with fail
    refine (l1In_any _ _ _ _).mono ?_
    rintro e w' ⟨rfl, rfl⟩
    go_wp2_with fail
    go_ret
    exact ⟨rfl, by repeat (first | with_reducible exact Below.refl _ _ | with_reducible refine Below.setCell ?_ (by first | omega | (simp <;> omega)) _ | with_reducible refine Below.drew ?_ | with_reducible refine below_drewN ?_ _ | with_reducible refine Below.alloc ?_ (by first | omega | (simp <;> omega)) _ | with_reducible refine Below.trans ?_ (Below.mono (by assumption) (by first | omega | (simp <;> omega))))⟩
set_option maxHeartbeats 1000000 in
theorem l31Right_good2 (q : Int) (kids : List Fm) (ih : ∀ x ∈ kids, RightF x) (hl : (kids.length : Int) = 0) (hq : inB q 0 7 = true) (w : World) (v : Value) (h : At w Any (forms kids) v) :
    Calls Try.prog 42 #[.agg #[.int .i64 2, .int .i64 q, v]] w fun e w' => e = .returned (.bool (kids.all Fm.ok)) ∧ Below w.heap.size w w' := by
  obtain ⟨A, c, rfl, hn, hc⟩ := forms_slice h
  have IH := Lib.hid ih
  clear ih
  have hl' : ((kids.length : Int) != 0) = false := by rw [bne_eq_false_iff_eq]; exact hl
  clear hl
  go_enter Try.func42, Try.ntmps42
  go_wp2_with fail
  refine (l1In_any _ _ _ _).mono ?_
  rintro e w' ⟨rfl, rfl⟩
  go_wp2_with fail
  go_loopw [4] (fun i wr => ∃ j : Nat, j ≤ kids.length ∧ i = .int .i64 j ∧ (∀ x ∈ kids.take j, x.ok = true) ∧ Blk wr w.heap.size 38 #[.int .i64 2, .int .i64 q, .slice A kids.length c] ∧ Below w.heap.size w wr) (fun i _ => kids.length - (intOf i).toNat)
  case atStart => exact ⟨0, Nat.zero_le _, rfl, by simp, Blk.new _ _ _, by repeat (first | with_reducible exact Below.refl _ _ | with_reducible refine Below.setCell ?_ (by first | omega | (simp <;> omega)) _ | with_reducible refine Below.drew ?_ | with_reducible refine below_drewN ?_ _ | with_reducible refine Below.alloc ?_ (by first | omega | (simp <;> omega)) _ | with_reducible refine Below.trans ?_ (Below.mono (by assumption) (by first | omega | (simp <;> omega))))⟩
  case round =>
    obtain ⟨j, hj, rfl, hd, hblk, hb⟩ := hrel
    have HD := Lib.hid hd
    obtain ⟨k0, k1, k2⟩ := hblk.c3
    have HB := Lib.hid hblk
    clear hd hblk
    by_cases hlt : j < kids.length
    · obtain ⟨b, off, f, u, rfl, _, hlb, hc1, hc2, hc3, hu, HX, _⟩ := forms_get (h.below hb) hlt
      have hmem := List.mem_of_getElem? HX.out
      have z := hb.size
      by_cases hok : f.ok = true
      · go_wp2_with fail
        refine (IH.out f hmem _ _ hu).mono ?_
        rintro e w1 ⟨rfl, hb1⟩
        go_wp2_with fail
        go_roundw
        case rel => exact ⟨j + 1, by omega, by go_num, all_take_succ HX.out HD.out hok, HB.out.next hb1, by repeat (first | with_reducible exact Below.refl _ _ | with_reducible refine Below.setCell ?_ (by first | omega | (simp <;> omega)) _ | with_reducible refine Below.drew ?_ | with_reducible refine below_drewN ?_ _ | with_reducible refine Below.alloc ?_ (by first | omega | (simp <;> omega)) _ | with_reducible refine Below.trans ?_ (Below.mono (by assumption) (by first | omega | (simp <;> omega))))⟩
        case measure => simp [intOf]; omega
      · have hok' : f.ok = false := by simpa using hok
        have HF : Hid (kids.all Fm.ok = false) := List.all_eq_false.2 ⟨f, hmem, by rw [hok']; decide⟩
        clear hok
        go_wp2_with fail
        refine (IH.out f hmem _ _ hu).mono ?_
        rintro e w1 ⟨rfl, hb1⟩
        go_wp2_with fail
        go_ret
        exact ⟨ret_bool HF.out.symm, by repeat (first | with_reducible exact Below.refl _ _ | with_reducible refine Below.setCell ?_ (by first | omega | (simp <;> omega)) _ | with_reducible refine Below.drew ?_ | with_reducible refine below_drewN ?_ _ | with_reducible refine Below.alloc ?_ (by first | omega | (simp <;> omega)) _ | with_reducible refine Below.trans ?_ (Below.mono (by assumption) (by first | omega | (simp <;> omega))))⟩
    · have HF : Hid (kids.all Fm.ok = true) := by
        have := HD.out
        rw [List.take_of_length_le (by omega)] at this
        exact List.all_eq_true.2 this
      go_wp2_with fail
      go_ret
      exact ⟨ret_bool HF.out.symm, hb⟩

set_option maxHeartbeats 1000000 in
theorem l31Right_none (k q : Int) (kids : List Fm) (hk : k < 1 ∨ 7 < k) (w : World) (v : Value) (h : At w Any (forms kids) v) :
    Calls Try.prog 42 #[.agg #[.int .i64 k, .int .i64 q, v]] w fun e w' => e = .returned (.bool false) ∧ Below w.heap.size w w' := by
  obtain ⟨A, c, rfl, hn, hc⟩ := forms_slice h
  have e1 : (k == 1) = false := by rw [beq_eq_false_iff_ne]; omega
  have e2 : (k == 2) = false := by rw [beq_eq_false_iff_ne]; omega
  have e3 : (k == 3) = false := by rw [beq_eq_false_iff_ne]; omega
  have e4 : (k == 4) = false := by rw [beq_eq_false_iff_ne]; omega
  have e5 : (k == 5) = false := by rw [beq_eq_false_iff_ne]; omega
  have e6 : (k == 6) = false := by rw [beq_eq_false_iff_ne]; omega
  have e7 : (k == 7) = false := by rw [beq_eq_false_iff_ne]; omega
  clear hk
  go_enter Try.func42, Try.ntmps42
  go_wp2_with fail
  go_ret
  exact ⟨rfl, by repeat (first | with_reducible exact Below.refl _ _ | with_reducible refine Below.setCell ?_ (by first | omega | (simp <;> omega)) _ | with_reducible refine Below.drew ?_ | with_reducible refine below_drewN ?_ _ | with_reducible refine Below.alloc ?_ (by first | omega | (simp <;> omega)) _ | with_reducible refine Below.trans ?_ (Below.mono (by assumption) (by first | omega | (simp <;> omega))))⟩

theorem bad_right {k q : Int} {n : Nat} (h : ¬ okHead k q n) (h2 : k ≠ 2) (_h1 : 1 ≤ k) (_h7 : k ≤ 7) : q ≠ 0 ∨ (q = 0 ∧ (n : Int) ≠ arity k) := by
  unfold okHead at h
  omega
theorem bad_right2 {q : Int} {n : Nat} (h : ¬ okHead 2 q n) : inB q 0 7 = false ∨ (inB q 0 7 = true ∧ (n : Int) ≠ 0) := by
  unfold okHead at h
  rw [inB_false, inB_true]
  have : arity 2 = 0 := rfl
  omega

theorem l31Right_any (f : Fm) : RightF f := by
  induction f using Fm.induct with
  | h k q kids ih =>
    intro w v h
    rw [Fm.ok_eq]
    by_cases hok : okHead k q kids.length
    · obtain ⟨ha, q1, q7, hq⟩ := hok
      have e : decide (okHead k q kids.length) = true := decide_eq_true ⟨ha, q1, q7, hq⟩
      rw [e, Bool.true_and]
      have hk : 1 ≤ k ∧ k ≤ 7 := by unfold arity at ha; omega
      rcases kinds hk.1 hk.2 with rfl | rfl | rfl | rfl | rfl | rfl | rfl
      · obtain rfl := hq.resolve_left (by decide); exact l31Right_good1 kids ih ha.symm w v h
      · exact l31Right_good2 q kids ih ha.symm (inB_true.2 ⟨q1, q7⟩) w v h
      · obtain rfl := hq.resolve_left (by decide); exact l31Right_good3 kids ih ha.symm w v h
      · obtain rfl := hq.resolve_left (by decide); exact l31Right_good4 kids ih ha.symm w v h
      · obtain rfl := hq.resolve_left (by decide); exact l31Right_good5 kids ih ha.symm w v h
      · obtain rfl := hq.resolve_left (by decide); exact l31Right_good6 kids ih ha.symm w v h
      · obtain rfl := hq.resolve_left (by decide); exact l31Right_good7 kids ih ha.symm w v h
    · have e : decide (okHead k q kids.length) = false := decide_eq_false hok
      rw [e, Bool.false_and]
      by_cases hk : 1 ≤ k ∧ k ≤ 7
      · rcases kinds hk.1 hk.2 with rfl | rfl | rfl | rfl | rfl | rfl | rfl
        · exact l31Right_bad1 q kids (bad_right hok (by decide) (by decide) (by decide)) w v h
        · exact l31Right_bad2 q kids (bad_right2 hok) w v h
        · exact l31Right_bad3 q kids (bad_right hok (by decide) (by decide) (by decide)) w v h
        · exact l31Right_bad4 q kids (bad_right hok (by decide) (by decide) (by decide)) w v h
        · exact l31Right_bad5 q kids (bad_right hok (by decide) (by decide) (by decide)) w v h
        · exact l31Right_bad6 q kids (bad_right hok (by decide) (by decide) (by decide)) w v h
        · exact l31Right_bad7 q kids (bad_right hok (by decide) (by decide) (by decide)) w v h
      · exact l31Right_none k q kids (by omega) w v h

end Go.Proofs.Ytagnfckihdlhpaa

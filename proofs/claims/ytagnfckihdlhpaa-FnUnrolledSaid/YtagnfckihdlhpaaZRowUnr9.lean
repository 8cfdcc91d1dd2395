/-
  Texts that the claim rests on, merged: FormS, FormLeft, FormBadI, FormGoodI, RunI, HoldsOn, HoldsOn2, Bridge.
-/
import Derived.Test.YtagnfckihdlhpaaZRowUnr8

/-
  The reference's IsFormula.
-/
namespace Go.Proofs.Ytagnfckihdlhpaa
open Go.RowKit

def RightF (f : Fm) : Prop := ∀ (w : World) (v : Value), At w Any (forms f.kids) v →
    Calls Try.prog 42 #[.agg #[.int .i64 f.kind, .int .i64 f.prop, v]] w fun e w' => e = .returned (.bool f.ok) ∧ Below w.heap.size w w'

set_option maxHeartbeats 1000000 in
theorem l31Right_bad1 (q : Int) (kids : List Fm) (hcase : q ≠ 0 ∨ (q = 0 ∧ (kids.length : Int) ≠ 0)) (w : World) (v : Value) (h : At w Any (forms kids) v) :
    Calls Try.prog 42 #[.agg #[.int .i64 1, .int .i64 q, v]] w fun e w' => e = .returned (.bool false) ∧ Below w.heap.size w w' := by
  obtain ⟨A, c, rfl, hn, hc⟩ := forms_slice h
  rcases hcase with hq | ⟨rfl, hl⟩
  · have hq' : (q != 0) = true := by rw [bne_iff_ne]; exact hq
    clear hq
    go_enter Try.func42, Try.ntmps42
    go_wp2_with fail
    go_ret
    exact ⟨rfl, by repeat (first | with_reducible exact Below.refl _ _ | with_reducible refine Below.setCell ?_ (by first | omega | (simp <;> omega)) _ | with_reducible refine Below.drew ?_ | with_reducible refine below_drewN ?_ _ | with_reducible refine Below.alloc ?_ (by first | omega | (simp <;> omega)) _ | with_reducible refine Below.trans ?_ (Below.mono (by assumption) (by first | omega | (simp <;> omega))))⟩
  · have hl' : ((kids.length : Int) != 0) = true := by rw [bne_iff_ne]; exact hl
    clear hl
    go_enter Try.func42, Try.ntmps42
    go_wp2_with fail
    go_ret
    exact ⟨rfl, by repeat (first | with_reducible exact Below.refl _ _ | with_reducible refine Below.setCell ?_ (by first | omega | (simp <;> omega)) _ | with_reducible refine Below.drew ?_ | with_reducible refine below_drewN ?_ _ | with_reducible refine Below.alloc ?_ (by first | omega | (simp <;> omega)) _ | with_reducible refine Below.trans ?_ (Below.mono (by assumption) (by first | omega | (simp <;> omega))))⟩
set_option maxHeartbeats 1000000 in
theorem l31Right_good1 (kids : List Fm) (ih : ∀ x ∈ kids, RightF x) (hl : (kids.length : Int) = 0) (w : World) (v : Value) (h : At w Any (forms kids) v) :
    Calls Try.prog 42 #[.agg #[.int .i64 1, .int .i64 0, v]] w fun e w' => e = .returned (.bool (kids.all Fm.ok)) ∧ Below w.heap.size w w' := by
  obtain ⟨A, c, rfl, hn, hc⟩ := forms_slice h
  have IH := Lib.hid ih
  clear ih
  have hl' : ((kids.length : Int) != 0) = false := by rw [bne_eq_false_iff_eq]; exact hl
  clear hl
  go_enter Try.func42, Try.ntmps42
  go_wp2_with fail
  go_loopw [4] (fun i wr => ∃ j : Nat, j ≤ kids.length ∧ i = .int .i64 j ∧ (∀ x ∈ kids.take j, x.ok = true) ∧ Blk wr w.heap.size 38 #[.int .i64 1, .int .i64 0, .slice A kids.length c] ∧ Below w.heap.size w wr) (fun i _ => kids.length - (intOf i).toNat)
  case atStart => exact ⟨0, Nat.zero_le _, rfl, by simp, Blk.new _ _ _, by repeat (first | with_reducible exact Below.refl _ _ | with_reducible refine Below.setCell ?_ (by first | omega | (simp <;> omega)) _ | with_reducible refine Below.drew ?_ | with_reducible refine below_drewN ?_ _ | with_reducible refine Below.alloc ?_ (by first | omega | (simp <;> omega)) _ | with_reducible refine Below.trans ?_ (Below.mono (by assumption) (by first | omega | (simp <;> omega))))⟩
  case round =>
    obtain ⟨j, hj, rfl, hd, hblk, hb⟩ := hrel
    have HD := Lib.hid hd
    obtain ⟨k0, k1, k2⟩ := hblk.c3
    have HB := Lib.hid hblk
    clear hd hblk
    by_cases hlt : j < kids.length
    · obtain ⟨b, off, f, u, rfl, _, hlb, hc1, hc2, hc3, hu, HX, _⟩ := forms_get (h.below hb) hlt
      have hmem := List.mem_of_getElem? HX.out
      have z := hb.size
      by_cases hok : f.ok = true
      · go_wp2_with fail
        refine (IH.out f hmem _ _ hu).mono ?_
        rintro e w1 ⟨rfl, hb1⟩
        go_wp2_with fail
        go_roundw
        case rel => exact ⟨j + 1, by omega, by go_num, all_take_succ HX.out HD.out hok, HB.out.next hb1, by repeat (first | with_reducible exact Below.refl _ _ | with_reducible refine Below.setCell ?_ (by first | omega | (simp <;> omega)) _ | with_reducible refine Below.drew ?_ | with_reducible refine below_drewN ?_ _ | with_reducible refine Below.alloc ?_ (by first | omega | (simp <;> omega)) _ | with_reducible refine Below.trans ?_ (Below.mono (by assumption) (by first | omega | (simp <;> omega))))⟩
        case measure => simp [intOf]; omega
      · have hok' : f.ok = false := by simpa using hok
        have HF : Hid (kids.all Fm.ok = false) := List.all_eq_false.2 ⟨f, hmem, by rw [hok']; decide⟩
        clear hok
        go_wp2_with fail
        refine (IH.out f hmem _ _ hu).mono ?_
        rintro e w1 ⟨rfl, hb1⟩
        go_wp2_with fail
        go_ret
        exact ⟨ret_bool HF.out.symm, by repeat (first | with_reducible exact Below.refl _ _ | with_reducible refine Below.setCell ?_ (by first | omega | (simp <;> omega)) _ | with_reducible refine Below.drew ?_ | with_reducible refine below_drewN ?_ _ | with_reducible refine Below.alloc ?_ (by first | omega | (simp <;> omega)) _ | with_reducible refine Below.trans ?_ (Below.mono (by assumption) (by first | omega | (simp <;> omega))))⟩
    · have HF : Hid (kids.all Fm.ok = true) := by
        have := HD.out
        rw [List.take_of_length_le (by omega)] at this
        exact List.all_eq_true.2 this
      go_wp2_with fail
      go_ret
      exact ⟨ret_bool HF.out.symm, hb⟩
set_option maxHeartbeats 1000000 in
theorem l31Right_bad3 (q : Int) (kids : List Fm) (hcase : q ≠ 0 ∨ (q = 0 ∧ (kids.length : Int) ≠ 1)) (w : World) (v : Value) (h : At w Any (forms kids) v) :
    Calls Try.prog 42 #[.agg #[.int .i64 3, .int .i64 q, v]] w fun e w' => e = .returned (.bool false) ∧ Below w.heap.size w w' := by
  obtain ⟨A, c, rfl, hn, hc⟩ := forms_slice h
  rcases hcase with hq | ⟨rfl, hl⟩
  · have hq' : (q != 0) = true := by rw [bne_iff_ne]; exact hq
    clear hq
    go_enter Try.func42, Try.ntmps42
    go_wp2_with fail
    go_ret
    exact ⟨rfl, by repeat (first | with_reducible exact Below.refl _ _ | with_reducible refine Below.setCell ?_ (by first | omega | (simp <;> omega)) _ | with_reducible refine Below.drew ?_ | with_reducible refine below_drewN ?_ _ | with_reducible refine Below.alloc ?_ (by first | omega | (simp <;> omega)) _ | with_reducible refine Below.trans ?_ (Below.mono (by assumption) (by first | omega | (simp <;> omega))))⟩
  · have hl' : ((kids.length : Int) != 1) = true := by rw [bne_iff_ne]; exact hl
    clear hl
    go_enter Try.func42, Try.ntmps42
    go_wp2_with fail
    go_ret
    exact ⟨rfl, by repeat (first | with_reducible exact Below.refl _ _ | with_reducible refine Below.setCell ?_ (by first | omega | (simp <;> omega)) _ | with_reducible refine Below.drew ?_ | with_reducible refine below_drewN ?_ _ | with_reducible refine Below.alloc ?_ (by first | omega | (simp <;> omega)) _ | with_reducible refine Below.trans ?_ (Below.mono (by assumption) (by first | omega | (simp <;> omega))))⟩
set_option maxHeartbeats 1000000 in
theorem l31Right_good3 (kids : List Fm) (ih : ∀ x ∈ kids, RightF x) (hl : (kids.length : Int) = 1) (w : World) (v : Value) (h : At w Any (forms kids) v) :
    Calls Try.prog 42 #[.agg #[.int .i64 3, .int .i64 0, v]] w fun e w' => e = .returned (.bool (kids.all Fm.ok)) ∧ Below w.heap.size w w' := by
  obtain ⟨A, c, rfl, hn, hc⟩ := forms_slice h
  have IH := Lib.hid ih
  clear ih
  have hl' : ((kids.length : Int) != 1) = false := by rw [bne_eq_false_iff_eq]; exact hl
  clear hl
  go_enter Try.func42, Try.ntmps42
  go_wp2_with fail
  go_loopw [4] (fun i wr => ∃ j : Nat, j ≤ kids.length ∧ i = .int .i64 j ∧ (∀ x ∈ kids.take j, x.ok = true) ∧ Blk wr w.heap.size 38 #[.int .i64 3, .int .i64 0, .slice A kids.length c] ∧ Below w.heap.size w wr) (fun i _ => kids.length - (intOf i).toNat)
  case atStart => exact ⟨0, Nat.zero_le _, rfl, by simp, Blk.new _ _ _, by repeat (first | with_reducible exact Below.refl _ _ | with_reducible refine Below.setCell ?_ (by first | omega | (simp <;> omega)) _ | with_reducible refine Below.drew ?_ | with_reducible refine below_drewN ?_ _ | with_reducible refine Below.alloc ?_ (by first | omega | (simp <;> omega)) _ | with_reducible refine Below.trans ?_ (Below.mono (by assumption) (by first | omega | (simp <;> omega))))⟩
  case round =>
    obtain ⟨j, hj, rfl, hd, hblk, hb⟩ := hrel
    have HD := Lib.hid hd
    obtain ⟨k0, k1, k2⟩ := hblk.c3
    have HB := Lib.hid hblk
    clear hd hblk
    by_cases hlt : j < kids.length
    · obtain ⟨b, off, f, u, rfl, _, hlb, hc1, hc2, hc3, hu, HX, _⟩ := forms_get (h.below hb) hlt
      have hmem := List.mem_of_getElem? HX.out
      have z := hb.size
      by_cases hok : f.ok = true
      · go_wp2_with fail
        refine (IH.out f hmem _ _ hu).mono ?_
        rintro e w1 ⟨rfl, hb1⟩
        go_wp2_with fail
        go_roundw
        case rel => exact ⟨j + 1, by omega, by go_num, all_take_succ HX.out HD.out hok, HB.out.next hb1, by repeat (first | with_reducible exact Below.refl _ _ | with_reducible refine Below.setCell ?_ (by first | omega | (simp <;> omega)) _ | with_reducible refine Below.drew ?_ | with_reducible refine below_drewN ?_ _ | with_reducible refine Below.alloc ?_ (by first | omega | (simp <;> omega)) _ | with_reducible refine Below.trans ?_ (Below.mono (by assumption) (by first | omega | (simp <;> omega))))⟩
        case measure => simp [intOf]; omega
      · have hok' : f.ok = false := by simpa using hok
        have HF : Hid (kids.all Fm.ok = false) := List.all_eq_false.2 ⟨f, hmem, by rw [hok']; decide⟩
        clear hok
        go_wp2_with fail
        refine (IH.out f hmem _ _ hu).mono ?_
        rintro e w1 ⟨rfl, hb1⟩
        go_wp2_with fail
        go_ret
        exact ⟨ret_bool HF.out.symm, by repeat (first | with_reducible exact Below.refl _ _ | with_reducible refine Below.setCell ?_ (by first | omega | (simp <;> omega)) _ | with_reducible refine Below.drew ?_ | with_reducible refine below_drewN ?_ _ | with_reducible refine Below.alloc ?_ (by first | omega | (simp <;> omega)) _ | with_reducible refine Below.trans ?_ (Below.mono (by assumption) (by first | omega | (simp <;> omega))))⟩
    · have HF : Hid (kids.all Fm.ok = true) := by
        have := HD.out
        rw [List.take_of_length_le (by omega)] at this
        exact List.all_eq_true.2 this
      go_wp2_with fail
      go_ret
      exact ⟨ret_bool HF.out.symm, hb⟩
set_option maxHeartbeats 1000000 in
theorem l31Right_bad4 (q : Int) (kids : List Fm) (hcase : q ≠ 0 ∨ (q = 0 ∧ (kids.length : Int) ≠ 2)) (w : World) (v : Value) (h : At w Any (forms kids) v) :
    Calls Try.prog 42 #[.agg #[.int .i64 4, .int .i64 q, v]] w fun e w' => e = .returned (.bool false) ∧ Below w.heap.size w w' := by
  obtain ⟨A, c, rfl, hn, hc⟩ := forms_slice h
  rcases hcase with hq | ⟨rfl, hl⟩
  · have hq' : (q != 0) = true := by rw [bne_iff_ne]; exact hq
    clear hq
    go_enter Try.func42, Try.ntmps42
    go_wp2_with fail
    go_ret
    exact ⟨rfl, by repeat (first | with_reducible exact Below.refl _ _ | with_reducible refine Below.setCell ?_ (by first | omega | (simp <;> omega)) _ | with_reducible refine Below.drew ?_ | with_reducible refine below_drewN ?_ _ | with_reducible refine Below.alloc ?_ (by first | omega | (simp <;> omega)) _ | with_reducible refine Below.trans ?_ (Below.mono (by assumption) (by first | omega | (simp <;> omega))))⟩
  · have hl' : ((kids.length : Int) != 2) = true := by rw [bne_iff_ne]; exact hl
    clear hl
    go_enter Try.func42, Try.ntmps42
    go_wp2_with fail
    go_ret
    exact ⟨rfl, by repeat (first | with_reducible exact Below.refl _ _ | with_reducible refine Below.setCell ?_ (by first | omega | (simp <;> omega)) _ | with_reducible refine Below.drew ?_ | with_reducible refine below_drewN ?_ _ | with_reducible refine Below.alloc ?_ (by first | omega | (simp <;> omega)) _ | with_reducible refine Below.trans ?_ (Below.mono (by assumption) (by first | omega | (simp <;> omega))))⟩
set_option maxHeartbeats 1000000 in
theorem l31Right_good4 (kids : List Fm) (ih : ∀ x ∈ kids, RightF x) (hl : (kids.length : Int) = 2) (w : World) (v : Value) (h : At w Any (forms kids) v) :
    Calls Try.prog 42 #[.agg #[.int .i64 4, .int .i64 0, v]] w fun e w' => e = .returned (.bool (kids.all Fm.ok)) ∧ Below w.heap.size w w' := by
  obtain ⟨A, c, rfl, hn, hc⟩ := forms_slice h
  have IH := Lib.hid ih
  clear ih
  have hl' : ((kids.length : Int) != 2) = false := by rw [bne_eq_false_iff_eq]; exact hl
  clear hl
  go_enter Try.func42, Try.ntmps42
  go_wp2_with fail
  go_loopw [4] (fun i wr => ∃ j : Nat, j ≤ kids.length ∧ i = .int .i64 j ∧ (∀ x ∈ kids.take j, x.ok = true) ∧ Blk wr w.heap.size 38 #[.int .i64 4, .int .i64 0, .slice A kids.length c] ∧ Below w.heap.size w wr) (fun i _ => kids.length - (intOf i).toNat)
  case atStart => exact ⟨0, Nat.zero_le _, rfl, by simp, Blk.new _ _ _, by repeat (first | with_reducible exact Below.refl _ _ | with_reducible refine Below.setCell ?_ (by first | omega | (simp <;> omega)) _ | with_reducible refine Below.drew ?_ | with_reducible refine below_drewN ?_ _ | with_reducible refine Below.alloc ?_ (by first | omega | (simp <;> omega)) _ | with_reducible refine Below.trans ?_ (Below.mono (by assumption) (by first | omega | (simp <;> omega))))⟩
  case round =>
    obtain ⟨j, hj, rfl, hd, hblk, hb⟩ := hrel
    have HD := Lib.hid hd
    obtain ⟨k0, k1, k2⟩ := hblk.c3
    have HB := Lib.hid hblk
    clear hd hblk
    by_cases hlt : j < kids.length
    · obtain ⟨b, off, f, u, rfl, _, hlb, hc1, hc2, hc3, hu, HX, _⟩ := forms_get (h.below hb) hlt
      have hmem := List.mem_of_getElem? HX.out
      have z := hb.size
      by_cases hok : f.ok = true
      · go_wp2_with fail
        refine (IH.out f hmem _ _ hu).mono ?_
        rintro e w1 ⟨rfl, hb1⟩
        go_wp2_with fail
        go_roundw
        case rel => exact ⟨j + 1, by omega, by go_num, all_take_succ HX.out HD.out hok, HB.out.next hb1, by repeat (first | with_reducible exact Below.refl _ _ | with_reducible refine Below.setCell ?_ (by first | omega | (simp <;> omega)) _ | with_reducible refine Below.drew ?_ | with_reducible refine below_drewN ?_ _ | with_reducible refine Below.alloc ?_ (by first | omega | (simp <;> omega)) _ | with_reducible refine Below.trans ?_ (Below.mono (by assumption) (by first | omega | (simp <;> omega))))⟩
        case measure => simp [intOf]; omega
      · have hok' : f.ok = false := by simpa using hok
        have HF : Hid (kids.all Fm.ok = false) := List.all_eq_false.2 ⟨f, hmem, by rw [hok']; decide⟩
        clear hok
        go_wp2_with fail
        refine (IH.out f hmem _ _ hu).mono ?_
        rintro e w1 ⟨rfl, hb1⟩
        go_wp2_with fail
        go_ret
        exact ⟨ret_bool HF.out.symm, by repeat (first | with_reducible exact Below.refl _ _ | with_reducible refine Below.setCell ?_ (by first | omega | (simp <;> omega)) _ | with_reducible refine Below.drew ?_ | with_reducible refine below_drewN ?_ _ | with_reducible refine Below.alloc ?_ (by first | omega | (simp <;> omega)) _ | with_reducible refine Below.trans ?_ (Below.mono (by assumption) (by first | omega | (simp <;> omega))))⟩
    · have HF : Hid (kids.all Fm.ok = true) := by
        have := HD.out
        rw [List.take_of_length_le (by omega)] at this
        exact List.all_eq_true.2 this
      go_wp2_with fail
      go_ret
      exact ⟨ret_bool HF.out.symm, hb⟩
set_option maxHeartbeats 1000000 in
theorem l31Right_bad5 (q : Int) (kids : List Fm) (hcase : q ≠ 0 ∨ (q = 0 ∧ (kids.length : Int) ≠ 2)) (w : World) (v : Value) (h : At w Any (forms kids) v) :
    Calls Try.prog 42 #[.agg #[.int .i64 5, .int .i64 q, v]] w fun e w' => e = .returned (.bool false) ∧ Below w.heap.size w w' := by
  obtain ⟨A, c, rfl, hn, hc⟩ := forms_slice h
  rcases hcase with hq | ⟨rfl, hl⟩
  · have hq' : (q != 0) = true := by rw [bne_iff_ne]; exact hq
    clear hq
    go_enter Try.func42, Try.ntmps42
    go_wp2_with fail
    go_ret
    exact ⟨rfl, by repeat (first | with_reducible exact Below.refl _ _ | with_reducible refine Below.setCell ?_ (by first | omega | (simp <;> omega)) _ | with_reducible refine Below.drew ?_ | with_reducible refine below_drewN ?_ _ | with_reducible refine Below.alloc ?_ (by first | omega | (simp <;> omega)) _ | with_reducible refine Below.trans ?_ (Below.mono (by assumption) (by first | omega | (simp <;> omega))))⟩
  · have hl' : ((kids.length : Int) != 2) = true := by rw [bne_iff_ne]; exact hl
    clear hl
    go_enter Try.func42, Try.ntmps42
    go_wp2_with fail
    go_ret
    exact ⟨rfl, by repeat (first | with_reducible exact Below.refl _ _ | with_reducible refine Below.setCell ?_ (by first | omega | (simp <;> omega)) _ | with_reducible refine Below.drew ?_ | with_reducible refine below_drewN ?_ _ | with_reducible refine Below.alloc ?_ (by first | omega | (simp <;> omega)) _ | with_reducible refine Below.trans ?_ (Below.mono (by assumption) (by first | omega | (simp <;> omega))))⟩
set_option maxHeartbeats 1000000 in
theorem l31Right_good5 (kids : List Fm) (ih : ∀ x ∈ kids, RightF x) (hl : (kids.length : Int) = 2) (w : World) (v : Value) (h : At w Any (forms kids) v) :
    Calls Try.prog 42 #[.agg #[.int .i64 5, .int .i64 0, v]] w fun e w' => e = .returned (.bool (kids.all Fm.ok)) ∧ Below w.heap.size w w' := by
  obtain ⟨A, c, rfl, hn, hc⟩ := forms_slice h
  have IH := Lib.hid ih
  clear ih
  have hl' : ((kids.length : Int) != 2) = false := by rw [bne_eq_false_iff_eq]; exact hl
  clear hl
  go_enter Try.func42, Try.ntmps42
  go_wp2_with fail
  go_loopw [4] (fun i wr => ∃ j : Nat, j ≤ kids.length ∧ i = .int .i64 j ∧ (∀ x ∈ kids.take j, x.ok = true) ∧ Blk wr w.heap.size 38 #[.int .i64 5, .int .i64 0, .slice A kids.length c] ∧ Below w.heap.size w wr) (fun i _ => kids.length - (intOf i).toNat)
  case atStart => exact ⟨0, Nat.zero_le _, rfl, by simp, Blk.new _ _ _, by repeat (first | with_reducible exact Below.refl _ _ | with_reducible refine Below.setCell ?_ (by first | omega | (simp <;> omega)) _ | with_reducible refine Below.drew ?_ | with_reducible refine below_drewN ?_ _ | with_reducible refine Below.alloc ?_ (by first | omega | (simp <;> omega)) _ | with_reducible refine Below.trans ?_ (Below.mono (by assumption) (by first | omega | (simp <;> omega))))⟩
  case round =>
    obtain ⟨j, hj, rfl, hd, hblk, hb⟩ := hrel
    have HD := Lib.hid hd
    obtain ⟨k0, k1, k2⟩ := hblk.c3
    have HB := Lib.hid hblk
    clear hd hblk
    by_cases hlt : j < kids.length
    · obtain ⟨b, off, f, u, rfl, _, hlb, hc1, hc2, hc3, hu, HX, _⟩ := forms_get (h.below hb) hlt
      have hmem := List.mem_of_getElem? HX.out
      have z := hb.size
      by_cases hok : f.ok = true
      · go_wp2_with fail
        refine (IH.out f hmem _ _ hu).mono ?_
        rintro e w1 ⟨rfl, hb1⟩
        go_wp2_with fail
        go_roundw
        case rel => exact ⟨j + 1, by omega, by go_num, all_take_succ HX.out HD.out hok, HB.out.next hb1, by repeat (first | with_reducible exact Below.refl _ _ | with_reducible refine Below.setCell ?_ (by first | omega | (simp <;> omega)) _ | with_reducible refine Below.drew ?_ | with_reducible refine below_drewN ?_ _ | with_reducible refine Below.alloc ?_ (by first | omega | (simp <;> omega)) _ | with_reducible refine Below.trans ?_ (Below.mono (by assumption) (by first | omega | (simp <;> omega))))⟩
        case measure => simp [intOf]; omega
      · have hok' : f.ok = false := by simpa using hok
        have HF : Hid (kids.all Fm.ok = false) := List.all_eq_false.2 ⟨f, hmem, by rw [hok']; decide⟩
        clear hok
        go_wp2_with fail
        refine (IH.out f hmem _ _ hu).mono ?_
        rintro e w1 ⟨rfl, hb1⟩
        go_wp2_with fail
        go_ret
        exact ⟨ret_bool HF.out.symm, by repeat (first | with_reducible exact Below.refl _ _ | with_reducible refine Below.setCell ?_ (by first | omega | (simp <;> omega)) _ | with_reducible refine Below.drew ?_ | with_reducible refine below_drewN ?_ _ | with_reducible refine Below.alloc ?_ (by first | omega | (simp <;> omega)) _ | with_reducible refine Below.trans ?_ (Below.mono (by assumption) (by first | omega | (simp <;> omega))))⟩
    · have HF : Hid (kids.all Fm.ok = true) := by
        have := HD.out
        rw [List.take_of_length_le (by omega)] at this
        exact List.all_eq_true.2 this
      go_wp2_with fail
      go_ret
      exact ⟨ret_bool HF.out.symm, hb⟩
set_option maxHeartbeats 1000000 in
theorem l31Right_bad6 (q : Int) (kids : List Fm) (hcase : q ≠ 0 ∨ (q = 0 ∧ (kids.length : Int) ≠ 1)) (w : World) (v : Value) (h : At w Any (forms kids) v) :
    Calls Try.prog 42 #[.agg #[.int .i64 6, .int .i64 q, v]] w fun e w' => e = .returned (.bool false) ∧ Below w.heap.size w w' := by
  obtain ⟨A, c, rfl, hn, hc⟩ := forms_slice h
  rcases hcase with hq | ⟨rfl, hl⟩
  · have hq' : (q != 0) = true := by rw [bne_iff_ne]; exact hq
    clear hq
    go_enter Try.func42, Try.ntmps42
    go_wp2_with fail
    go_ret
    exact ⟨rfl, by repeat (first | with_reducible exact Below.refl _ _ | with_reducible refine Below.setCell ?_ (by first | omega | (simp <;> omega)) _ | with_reducible refine Below.drew ?_ | with_reducible refine below_drewN ?_ _ | with_reducible refine Below.alloc ?_ (by first | omega | (simp <;> omega)) _ | with_reducible refine Below.trans ?_ (Below.mono (by assumption) (by first | omega | (simp <;> omega))))⟩
  · have hl' : ((kids.length : Int) != 1) = true := by rw [bne_iff_ne]; exact hl
    clear hl
    go_enter Try.func42, Try.ntmps42
    go_wp2_with fail
    go_ret
    exact ⟨rfl, by repeat (first | with_reducible exact Below.refl _ _ | with_reducible refine Below.setCell ?_ (by first | omega | (simp <;> omega)) _ | with_reducible refine Below.drew ?_ | with_reducible refine below_drewN ?_ _ | with_reducible refine Below.alloc ?_ (by first | omega | (simp <;> omega)) _ | with_reducible refine Below.trans ?_ (Below.mono (by assumption) (by first | omega | (simp <;> omega))))⟩
set_option maxHeartbeats 1000000 in
theorem l31Right_good6 (kids : List Fm) (ih : ∀ x ∈ kids, RightF x) (hl : (kids.length : Int) = 1) (w : World) (v : Value) (h : At w Any (forms kids) v) :
    Calls Try.prog 42 #[.agg #[.int .i64 6, .int .i64 0, v]] w fun e w' => e = .returned (.bool (kids.all Fm.ok)) ∧ Below w.heap.size w w' := by
  obtain ⟨A, c, rfl, hn, hc⟩ := forms_slice h
  have IH := Lib.hid ih
  clear ih
  have hl' : ((kids.length : Int) != 1) = false := by rw [bne_eq_false_iff_eq]; exact hl
  clear hl
  go_enter Try.func42, Try.ntmps42
  go_wp2_with fail
  go_loopw [4] (fun i wr => ∃ j : Nat, j ≤ kids.length ∧ i = .int .i64 j ∧ (∀ x ∈ kids.take j, x.ok = true) ∧ Blk wr w.heap.size 38 #[.int .i64 6, .int .i64 0, .slice A kids.length c] ∧ Below w.heap.size w wr) (fun i _ => kids.length - (intOf i).toNat)
  case atStart => exact ⟨0, Nat.zero_le _, rfl, by simp, Blk.new _ _ _, by repeat (first | with_reducible exact Below.refl _ _ | with_reducible refine Below.setCell ?_ (by first | omega | (simp <;> omega)) _ | with_reducible refine Below.drew ?_ | with_reducible refine below_drewN ?_ _ | with_reducible refine Below.alloc ?_ (by first | omega | (simp <;> omega)) _ | with_reducible refine Below.trans ?_ (Below.mono (by assumption) (by first | omega | (simp <;> omega))))⟩
  case round =>
    obtain ⟨j, hj, rfl, hd, hblk, hb⟩ := hrel
    have HD := Lib.hid hd
    obtain ⟨k0, k1, k2⟩ := hblk.c3
    have HB := Lib.hid hblk
    clear hd hblk
    by_cases hlt : j < kids.length
    · obtain ⟨b, off, f, u, rfl, _, hlb, hc1, hc2, hc3, hu, HX, _⟩ := forms_get (h.below hb) hlt
      have hmem := List.mem_of_getElem? HX.out
      have z := hb.size
      by_cases hok : f.ok = true
      · go_wp2_with fail
        refine (IH.out f hmem _ _ hu).mono ?_
        rintro e w1 ⟨rfl, hb1⟩
        go_wp2_with fail
        go_roundw
        case rel => exact ⟨j + 1, by omega, by go_num, all_take_succ HX.out HD.out hok, HB.out.next hb1, by repeat (first | with_reducible exact Below.refl _ _ | with_reducible refine Below.setCell ?_ (by first | omega | (simp <;> omega)) _ | with_reducible refine Below.drew ?_ | with_reducible refine below_drewN ?_ _ | with_reducible refine Below.alloc ?_ (by first | omega | (simp <;> omega)) _ | with_reducible refine Below.trans ?_ (Below.mono (by assumption) (by first | omega | (simp <;> omega))))⟩
        case measure => simp [intOf]; omega
      · have hok' : f.ok = false := by simpa using hok
        have HF : Hid (kids.all Fm.ok = false) := List.all_eq_false.2 ⟨f, hmem, by rw [hok']; decide⟩
        clear hok
        go_wp2_with fail
        refine (IH.out f hmem _ _ hu).mono ?_
        rintro e w1 ⟨rfl, hb1⟩
        go_wp2_with fail
        go_ret
        exact ⟨ret_bool HF.out.symm, by repeat (first | with_reducible exact Below.refl _ _ | with_reducible refine Below.setCell ?_ (by first | omega | (simp <;> omega)) _ | with_reducible refine Below.drew ?_ | with_reducible refine below_drewN ?_ _ | with_reducible refine Below.alloc ?_ (by first | omega | (simp <;> omega)) _ | with_reducible refine Below.trans ?_ (Below.mono (by assumption) (by first | omega | (simp <;> omega))))⟩
    · have HF : Hid (kids.all Fm.ok = true) := by
        have := HD.out
        rw [List.take_of_length_le (by omega)] at this
        exact List.all_eq_true.2 this
      go_wp2_with fail
      go_ret
      exact ⟨ret_bool HF.out.symm, hb⟩
set_option maxHeartbeats 1000000 in
theorem l31Right_bad7 (q : Int) (kids : List Fm) (hcase : q ≠ 0 ∨ (q = 0 ∧ (kids.length : Int) ≠ 2)) (w : World) (v : Value) (h : At w Any (forms kids) v) :
    Calls Try.prog 42 #[.agg #[.int .i64 7, .int .i64 q, v]] w fun e w' => e = .returned (.bool false) ∧ Below w.heap.size w w' := by
  obtain ⟨A, c, rfl, hn, hc⟩ := forms_slice h
  rcases hcase with hq | ⟨rfl, hl⟩
  · have hq' : (q != 0) = true := by rw [bne_iff_ne]; exact hq
    clear hq
    go_enter Try.func42, Try.ntmps42
    go_wp2_with fail
    go_ret
    exact ⟨rfl, by repeat (first | with_reducible exact Below.refl _ _ | with_reducible refine Below.setCell ?_ (by first | omega | (simp <;> omega)) _ | with_reducible refine Below.drew ?_ | with_reducible refine below_drewN ?_ _ | with_reducible refine Below.alloc ?_ (by first | omega | (simp <;> omega)) _ | with_reducible refine Below.trans ?_ (Below.mono (by assumption) (by first | omega | (simp <;> omega))))⟩
  · have hl' : ((kids.length : Int) != 2) = true := by rw [bne_iff_ne]; exact hl
    clear hl
    go_enter Try.func42, Try.ntmps42
    go_wp2_with fail
    go_ret
    exact ⟨rfl, by repeat (first | with_reducible exact Below.refl _ _ | with_reducible refine Below.setCell ?_ (by first | omega | (simp <;> omega)) _ | with_reducible refine Below.drew ?_ | with_reducible refine below_drewN ?_ _ | with_reducible refine Below.alloc ?_ (by first | omega | (simp <;> omega)) _ | with_reducible refine Below.trans ?_ (Below.mono (by assumption) (by first | omega | (simp <;> omega))))⟩
set_option maxHeartbeats 1000000 in
theorem l31Right_good7 (kids : List Fm) (ih : ∀ x ∈ kids, RightF x) (hl : (kids.length : Int) = 2) (w : World) (v : Value) (h : At w Any (forms kids) v) :
    Calls Try.prog 42 #[.agg #[.int .i64 7, .int .i64 0, v]] w fun e w' => e = .returned (.bool (kids.all Fm.ok)) ∧ Below w.heap.size w w' := by
  obtain ⟨A, c, rfl, hn, hc⟩ := forms_slice h
  have IH := Lib.hid ih
  clear ih
  have hl' : ((kids.length : Int) != 2) = false := by rw [bne_eq_false_iff_eq]; exact hl
  clear hl
  go_enter Try.func42, Try.ntmps42
  go_wp2_with fail
  go_loopw [4] (fun i wr => ∃ j : Nat, j ≤ kids.length ∧ i = .int .i64 j ∧ (∀ x ∈ kids.take j, x.ok = true) ∧ Blk wr w.heap.size 38 #[.int .i64 7, .int .i64 0, .slice A kids.length c] ∧ Below w.heap.size w wr) (fun i _ => kids.length - (intOf i).toNat)
  case atStart => exact ⟨0, Nat.zero_le _, rfl, by simp, Blk.new _ _ _, by repeat (first | with_reducible exact Below.refl _ _ | with_reducible refine Below.setCell ?_ (by first | omega | (simp <;> omega)) _ | with_reducible refine Below.drew ?_ | with_reducible refine below_drewN ?_ _ | with_reducible refine Below.alloc ?_ (by first | omega | (simp <;> omega)) _ | with_reducible refine Below.trans ?_ (Below.mono (by assumption) (by first | omega | (simp <;> omega))))⟩
  case round =>
    obtain ⟨j, hj, rfl, hd, hblk, hb⟩ := hrel
    have HD := Lib.hid hd
    obtain ⟨k0, k1, k2⟩ := hblk.c3
    have HB := Lib.hid hblk
    clear hd hblk
    by_cases hlt : j < kids.length
    · obtain ⟨b, off, f, u, rfl, _, hlb, hc1, hc2, hc3, hu, HX, _⟩ := forms_get (h.below hb) hlt
      have hmem := List.mem_of_getElem? HX.out
      have z := hb.size
      by_cases hok : f.ok = true
      · go_wp2_with fail
        refine (IH.out f hmem _ _ hu).mono ?_
        rintro e w1 ⟨rfl, hb1⟩
        go_wp2_with fail
        go_roundw
        case rel => exact ⟨j + 1, by omega, by go_num, all_take_succ HX.out HD.out hok, HB.out.next hb1, by repeat (first | with_reducible exact Below.refl _ _ | with_reducible refine Below.setCell ?_ (by first | omega | (simp <;> omega)) _ | with_reducible refine Below.drew ?_ | with_reducible refine below_drewN ?_ _ | with_reducible refine Below.alloc ?_ (by first | omega | (simp <;> omega)) _ | with_reducible refine Below.trans ?_ (Below.mono (by assumption) (by first | omega | (simp <;> omega))))⟩
        case measure => simp [intOf]; omega
      · have hok' : f.ok = false := by simpa using hok
        have HF : Hid (kids.all Fm.ok = false) := List.all_eq_false.2 ⟨f, hmem, by rw [hok']; decide⟩
        clear hok
        go_wp2_with fail
        refine (IH.out f hmem _ _ hu).mono ?_
        rintro e w1 ⟨rfl, hb1⟩
        go_wp2_with fail
        go_ret
        exact ⟨ret_bool HF.out.symm, by repeat (first | with_reducible exact Below.refl _ _ | with_reducible refine Below.setCell ?_ (by first | omega | (simp <;> omega)) _ | with_reducible refine Below.drew ?_ | with_reducible refine below_drewN ?_ _ | with_reducible refine Below.alloc ?_ (by first | omega | (simp <;> omega)) _ | with_reducible refine Below.trans ?_ (Below.mono (by assumption) (by first | omega | (simp <;> omega))))⟩
    · have HF : Hid (kids.all Fm.ok = true) := by
        have := HD.out
        rw [List.take_of_length_le (by omega)] at this
        exact List.all_eq_true.2 this
      go_wp2_with fail
      go_ret
      exact ⟨ret_bool HF.out.symm, hb⟩

set_option maxHeartbeats 1000000 in
theorem l31Right_bad2 (q : Int) (kids : List Fm) (hcase : inB q 0 7 = false ∨ (inB q 0 7 = true ∧ (kids.length : Int) ≠ 0)) (w : World) (v : Value) (h : At w Any (forms kids) v) :
    Calls Try.prog 42 #[.agg #[.int .i64 2, .int .i64 q, v]] w fun e w' => e = .returned (.bool false) ∧ Below w.heap.size w w' := by
  obtain ⟨A, c, rfl, hn, hc⟩ := forms_slice h
  rcases hcase with hq | ⟨hq, hl⟩
  · go_enter Try.func42, Try.ntmps42
    go_wp2_with fail
    refine (l1In_any _ _ _ _).mono ?_
    rintro e w' ⟨rfl, rfl⟩
    go_wp2_with fail
    go_ret
    exact ⟨rfl, by repeat (first | with_reducible exact Below.refl _ _ | with_reducible refine Below.setCell ?_ (by first | omega | (simp <;> omega)) _ | with_reducible refine Below.drew ?_ | with_reducible refine below_drewN ?_ _ | with_reducible refine Below.alloc ?_ (by first | omega | (simp <;> omega)) _ | with_reducible refine Below.trans ?_ (Below.mono (by assumption) (by first | omega | (simp <;> omega))))⟩
  · have hl' : ((kids.length : Int) != 0) = true := by rw [bne_iff_ne]; exact hl
    clear hl
    go_enter Try.func42, Try.ntmps42
    go_wp2_with fail
    refine (l1In_any _ _ _ _).mono ?_
    rintro e w' ⟨rfl, rfl⟩
    go_wp2_with fail
    go_ret
    exact ⟨rfl, by repeat (first | with_reducible exact Below.refl _ _ | with_reducible refine Below.setCell ?_ (by first | omega | (simp <;> omega)) _ | with_reducible refine Below.drew ?_ | with_reducible refine below_drewN ?_ _ | with_reducible refine Below.alloc ?_ (by first | omega | (simp <;> omega)) _ | with_reducible refine Below.trans ?_ (Below.mono (by assumption) (by first | omega | (simp <;> omega))))⟩
set_option maxHeartbeats 1000000 in
theorem l31Right_good2 (q : Int) (kids : List Fm) (ih : ∀ x ∈ kids, RightF x) (hl : (kids.length : Int) = 0) (hq : inB q 0 7 = true) (w : World) (v : Value) (h : At w Any (forms kids) v) :
    Calls Try.prog 42 #[.agg #[.int .i64 2, .int .i64 q, v]] w fun e w' => e = .returned (.bool (kids.all Fm.ok)) ∧ Below w.heap.size w w' := by
  obtain ⟨A, c, rfl, hn, hc⟩ := forms_slice h
  have IH := Lib.hid ih
  clear ih
  have hl' : ((kids.length : Int) != 0) = false := by rw [bne_eq_false_iff_eq]; exact hl
  clear hl
  go_enter Try.func42, Try.ntmps42
  go_wp2_with fail
  refine (l1In_any _ _ _ _).mono ?_
  rintro e w' ⟨rfl, rfl⟩
  go_wp2_with fail
  go_loopw [4] (fun i wr => ∃ j : Nat, j ≤ kids.length ∧ i = .int .i64 j ∧ (∀ x ∈ kids.take j, x.ok = true) ∧ Blk wr w.heap.size 38 #[.int .i64 2, .int .i64 q, .slice A kids.length c] ∧ Below w.heap.size w wr) (fun i _ => kids.length - (intOf i).toNat)
  case atStart => exact ⟨0, Nat.zero_le _, rfl, by simp, Blk.new _ _ _, by repeat (first | with_reducible exact Below.refl _ _ | with_reducible refine Below.setCell ?_ (by first | omega | (simp <;> omega)) _ | with_reducible refine Below.drew ?_ | with_reducible refine below_drewN ?_ _ | with_reducible refine Below.alloc ?_ (by first | omega | (simp <;> omega)) _ | with_reducible refine Below.trans ?_ (Below.mono (by assumption) (by first | omega | (simp <;> omega))))⟩
  case round =>
    obtain ⟨j, hj, rfl, hd, hblk, hb⟩ := hrel
    have HD := Lib.hid hd
    obtain ⟨k0, k1, k2⟩ := hblk.c3
    have HB := Lib.hid hblk
    clear hd hblk
    by_cases hlt : j < kids.length
    · obtain ⟨b, off, f, u, rfl, _, hlb, hc1, hc2, hc3, hu, HX, _⟩ := forms_get (h.below hb) hlt
      have hmem := List.mem_of_getElem? HX.out
      have z := hb.size
      by_cases hok : f.ok = true
      · go_wp2_with fail
        refine (IH.out f hmem _ _ hu).mono ?_
        rintro e w1 ⟨rfl, hb1⟩
        go_wp2_with fail
        go_roundw
        case rel => exact ⟨j + 1, by omega, by go_num, all_take_succ HX.out HD.out hok, HB.out.next hb1, by repeat (first | with_reducible exact Below.refl _ _ | with_reducible refine Below.setCell ?_ (by first | omega | (simp <;> omega)) _ | with_reducible refine Below.drew ?_ | with_reducible refine below_drewN ?_ _ | with_reducible refine Below.alloc ?_ (by first | omega | (simp <;> omega)) _ | with_reducible refine Below.trans ?_ (Below.mono (by assumption) (by first | omega | (simp <;> omega))))⟩
        case measure => simp [intOf]; omega
      · have hok' : f.ok = false := by simpa using hok
        have HF : Hid (kids.all Fm.ok = false) := List.all_eq_false.2 ⟨f, hmem, by rw [hok']; decide⟩
        clear hok
        go_wp2_with fail
        refine (IH.out f hmem _ _ hu).mono ?_
        rintro e w1 ⟨rfl, hb1⟩
        go_wp2_with fail
        go_ret
        exact ⟨ret_bool HF.out.symm, by repeat (first | with_reducible exact Below.refl _ _ | with_reducible refine Below.setCell ?_ (by first | omega | (simp <;> omega)) _ | with_reducible refine Below.drew ?_ | with_reducible refine below_drewN ?_ _ | with_reducible refine Below.alloc ?_ (by first | omega | (simp <;> omega)) _ | with_reducible refine Below.trans ?_ (Below.mono (by assumption) (by first | omega | (simp <;> omega))))⟩
    · have HF : Hid (kids.all Fm.ok = true) := by
        have := HD.out
        rw [List.take_of_length_le (by omega)] at this
        exact List.all_eq_true.2 this
      go_wp2_with fail
      go_ret
      exact ⟨ret_bool HF.out.symm, hb⟩

set_option maxHeartbeats 1000000 in
theorem l31Right_none (k q : Int) (kids : List Fm) (hk : k < 1 ∨ 7 < k) (w : World) (v : Value) (h : At w Any (forms kids) v) :
    Calls Try.prog 42 #[.agg #[.int .i64 k, .int .i64 q, v]] w fun e w' => e = .returned (.bool false) ∧ Below w.heap.size w w' := by
  obtain ⟨A, c, rfl, hn, hc⟩ := forms_slice h
  have e1 : (k == 1) = false := by rw [beq_eq_false_iff_ne]; omega
  have e2 : (k == 2) = false := by rw [beq_eq_false_iff_ne]; omega
  have e3 : (k == 3) = false := by rw [beq_eq_false_iff_ne]; omega
  have e4 : (k == 4) = false := by rw [beq_eq_false_iff_ne]; omega
  have e5 : (k == 5) = false := by rw [beq_eq_false_iff_ne]; omega
  have e6 : (k == 6) = false := by rw [beq_eq_false_iff_ne]; omega
  have e7 : (k == 7) = false := by rw [beq_eq_false_iff_ne]; omega
  clear hk
  go_enter Try.func42, Try.ntmps42
  go_wp2_with fail
  go_ret
  exact ⟨rfl, by repeat (first | with_reducible exact Below.refl _ _ | with_reducible refine Below.setCell ?_ (by first | omega | (simp <;> omega)) _ | with_reducible refine Below.drew ?_ | with_reducible refine below_drewN ?_ _ | with_reducible refine Below.alloc ?_ (by first | omega | (simp <;> omega)) _ | with_reducible refine Below.trans ?_ (Below.mono (by assumption) (by first | omega | (simp <;> omega))))⟩

theorem bad_right {k q : Int} {n : Nat} (h : ¬ okHead k q n) (h2 : k ≠ 2) (_h1 : 1 ≤ k) (_h7 : k ≤ 7) : q ≠ 0 ∨ (q = 0 ∧ (n : Int) ≠ arity k) := by
  unfold okHead at h
  omega
theorem bad_right2 {q : Int} {n : Nat} (h : ¬ okHead 2 q n) : inB q 0 7 = false ∨ (inB q 0 7 = true ∧ (n : Int) ≠ 0) := by
  unfold okHead at h
  rw [inB_false, inB_true]
  have : arity 2 = 0 := rfl
  omega

theorem l31Right_any (f : Fm) : RightF f := by
  induction f using Fm.induct with
  | h k q kids ih =>
    intro w v h
    rw [Fm.ok_eq]
    by_cases hok : okHead k q kids.length
    · obtain ⟨ha, q1, q7, hq⟩ := hok
      have e : decide (okHead k q kids.length) = true := decide_eq_true ⟨ha, q1, q7, hq⟩
      rw [e, Bool.true_and]
      have hk : 1 ≤ k ∧ k ≤ 7 := by unfold arity at ha; omega
      rcases kinds hk.1 hk.2 with rfl | rfl | rfl | rfl | rfl | rfl | rfl
      · obtain rfl := hq.resolve_left (by decide); exact l31Right_good1 kids ih ha.symm w v h
      · exact l31Right_good2 q kids ih ha.symm (inB_true.2 ⟨q1, q7⟩) w v h
      · obtain rfl := hq.resolve_left (by decide); exact l31Right_good3 kids ih ha.symm w v h
      · obtain rfl := hq.resolve_left (by decide); exact l31Right_good4 kids ih ha.symm w v h
      · obtain rfl := hq.resolve_left (by decide); exact l31Right_good5 kids ih ha.symm w v h
      · obtain rfl := hq.resolve_left (by decide); exact l31Right_good6 kids ih ha.symm w v h
      · obtain rfl := hq.resolve_left (by decide); exact l31Right_good7 kids ih ha.symm w v h
    · have e : decide (okHead k q kids.length) = false := decide_eq_false hok
      rw [e, Bool.false_and]
      by_cases hk : 1 ≤ k ∧ k ≤ 7
      · rcases kinds hk.1 hk.2 with rfl | rfl | rfl | rfl | rfl | rfl | rfl
        · exact l31Right_bad1 q kids (bad_right hok (by decide) (by decide) (by decide)) w v h
        · exact l31Right_bad2 q kids (bad_right2 hok) w v h
        · exact l31Right_bad3 q kids (bad_right hok (by decide) (by decide) (by decide)) w v h
        · exact l31Right_bad4 q kids (bad_right hok (by decide) (by decide) (by decide)) w v h
        · exact l31Right_bad5 q kids (bad_right hok (by decide) (by decide) (by decide)) w v h
        · exact l31Right_bad6 q kids (bad_right hok (by decide) (by decide) (by decide)) w v h
        · exact l31Right_bad7 q kids (bad_right hok (by decide) (by decide) (by decide)) w v h
      · exact l31Right_none k q kids (by omega) w v h

end Go.Proofs.Ytagnfckihdlhpaa

/-
  The reference's count of nodes, and its IsFormula.
-/
namespace Go.Proofs.Ytagnfckihdlhpaa
open Go.RowKit

def LeftF (f : Fm) : Prop := ∀ (left : Int) (w : World) (v : Value), At w Any (forms f.kids) v → 0 ≤ left → left ≤ 1048576 →
    Calls Try.prog 41 #[.agg #[.int .i64 f.kind, .int .i64 f.prop, v], .int .i64 left] w fun e w' => e = .returned (.int .i64 (took left (f.size : Nat))) ∧ Below w.heap.size w w'

theorem took_size {left : Int} {f : Fm} : took left ((f.size : Nat) : Int) = if left < f.total + 1 then -1 else left - f.total - 1 := by
  unfold took Fm.size
  by_cases h : left < f.total + 1
  · rw [if_pos h, if_pos (by omega)]
  · rw [if_neg h, if_neg (by omega)]; omega

set_option maxHeartbeats 1000000 in
theorem l31Left_any (f : Fm) : LeftF f := by
  induction f using Fm.induct with
  | h k q kids ih =>
    intro left w v h h0 h1
    have IH := Lib.hid ih
    clear ih
    obtain ⟨A, c, rfl, hn, hc⟩ := forms_slice h
    have HT := Lib.hid (Fm.total_eq ⟨k, q, kids⟩)
    go_enter Try.func41, Try.ntmps41
    go_wp2_with fail
    go_loopw [1, 5] (fun l i wr => ∃ (j : Nat) (r : Int), j ≤ kids.length ∧ i = .int .i64 j ∧ l = .int .i64 r ∧ -1 ≤ r ∧ r ≤ 1048576 ∧ (0 ≤ r → r = left - 1 - j - sumTo kids j) ∧ (r < 0 → left - 1 - j - sumTo kids j < 0) ∧
        Blk wr w.heap.size 38 #[.int .i64 k, .int .i64 q, .slice A kids.length c] ∧ Below w.heap.size w wr) (fun _ i _ => kids.length - (intOf i).toNat)
    case atStart => exact ⟨0, _, Nat.zero_le _, rfl, rfl, by omega, by omega, fun _ => by simp [sumTo], fun _ => by simp [sumTo]; omega, Blk.new _ _ _, by repeat (first | with_reducible exact Below.refl _ _ | with_reducible refine Below.setCell ?_ (by first | omega | (simp <;> omega)) _ | with_reducible refine Below.drew ?_ | with_reducible refine below_drewN ?_ _ | with_reducible refine Below.alloc ?_ (by first | omega | (simp <;> omega)) _ | with_reducible refine Below.trans ?_ (Below.mono (by assumption) (by first | omega | (simp <;> omega))))⟩
    case round =>
      obtain ⟨j, r, hj, rfl, rfl, hr1, hr2, hp, hm, hblk, hb⟩ := hrel
      obtain ⟨k0, k1, k2⟩ := hblk.c3
      have HB := Lib.hid hblk
      have HP := Lib.hid hp
      have HM := Lib.hid hm
      clear hblk hp hm
      have hle0 := sumTo_le kids j
      by_cases hlt : j < kids.length ∧ 0 ≤ r
      · obtain ⟨hlt, hr0⟩ := hlt
        obtain ⟨b, off, f, u, rfl, _, hlb, hc1, hc2, hc3, hu, HX, _⟩ := forms_get (h.below hb) hlt
        have hmem := List.mem_of_getElem? HX.out
        have HS := Lib.hid (sumTo_succ HX.out)
        have HZ := Lib.hid (@took_size r f)
        have z := hb.size
        go_wp2_with fail
        refine (IH.out f hmem _ _ _ hu (by omega) (by omega)).mono ?_
        rintro e w1 ⟨rfl, hb1⟩
        go_wp2_with fail
        go_roundw
        case rel =>
          have e1 := HP.out hr0
          have e2 := HS.out
          have e3 := HZ.out
          refine ⟨j + 1, _, by omega, by go_num, rfl, ?_, ?_, fun h0 => ?_, fun h0 => ?_, HB.out.next hb1, by repeat (first | with_reducible exact Below.refl _ _ | with_reducible refine Below.setCell ?_ (by first | omega | (simp <;> omega)) _ | with_reducible refine Below.drew ?_ | with_reducible refine below_drewN ?_ _ | with_reducible refine Below.alloc ?_ (by first | omega | (simp <;> omega)) _ | with_reducible refine Below.trans ?_ (Below.mono (by assumption) (by first | omega | (simp <;> omega))))⟩
          · rw [e3]; split <;> omega
          · rw [e3]; split <;> omega
          · rw [e3] at h0 ⊢; split at h0 <;> split <;> omega
          · rw [e3] at h0; split at h0 <;> omega
        case measure => simp [intOf]; omega
      · have HR : Hid (r = took left ((Fm.size ⟨k, q, kids⟩ : Nat) : Int)) := by
          show r = _
          rw [took_size, HT.out]
          unfold totals
          by_cases hr0 : 0 ≤ r
          · have e1 := HP.out hr0
            obtain rfl : j = kids.length := by omega
            rw [sumTo_all] at e1
            split <;> omega
          · have e1 := HM.out (by omega)
            split <;> omega
        by_cases hlt' : j < kids.length
        · have hr0 : r < 0 := by omega
          clear hlt
          go_wp2_with fail
          go_ret
          exact ⟨ret_int HR.out, hb⟩
        · clear hlt
          go_wp2_with fail
          go_ret
          exact ⟨ret_int HR.out, hb⟩

set_option maxHeartbeats 1000000 in
theorem specIsFormula_any (f : Fm) (w : World) (v : Value) (h : At w Any (forms f.kids) v) :
    Calls Try.prog 16 #[.agg #[.int .i64 f.kind, .int .i64 f.prop, v]] w fun e w' => e = .returned (.bool (isFormula f)) ∧ Below w.heap.size w w' := by
  obtain ⟨A, c, rfl, hn, hc⟩ := forms_slice h
  have hB0 := Blk.new w 38 #[.int .i64 f.kind, .int .i64 f.prop, .slice A f.kids.length c]
  by_cases hs : f.size ≤ 12
  · have HR : Hid (isFormula f = f.ok) := by show isFormula f = f.ok; unfold isFormula; rw [decide_eq_true hs, Bool.true_and]
    have ht : 0 ≤ took 12 ((f.size : Nat) : Int) := by unfold took; split <;> omega
    go_enter Try.func16, Try.ntmps16
    go_wp2_with fail
    refine (l31Left_any f _ _ _ (h.alloc _) (by omega) (by omega)).mono ?_
    rintro e w1 ⟨rfl, hb1⟩
    have h2 := (h.alloc _).below hb1
    have hB1 := hB0.next hb1
    obtain ⟨_, _, _⟩ := hB1.c3
    go_wp2_with fail
    refine (l31Right_any f _ _ h2).mono ?_
    rintro e w2 ⟨rfl, hb2⟩
    go_wp2_with fail
    go_ret
    exact ⟨ret_bool HR.out.symm, by have z := hb1.size; simp at z; repeat (first | with_reducible exact Below.refl _ _ | with_reducible refine Below.setCell ?_ (by first | omega | (simp <;> omega)) _ | with_reducible refine Below.drew ?_ | with_reducible refine below_drewN ?_ _ | with_reducible refine Below.alloc ?_ (by first | omega | (simp <;> omega)) _ | with_reducible refine Below.trans ?_ (Below.mono (by assumption) (by first | omega | (simp <;> omega))))⟩
  · have HR : Hid (isFormula f = false) := by show isFormula f = false; unfold isFormula; rw [decide_eq_false hs, Bool.false_and]
    have ht : took 12 ((f.size : Nat) : Int) < 0 := by unfold took; split <;> omega
    go_enter Try.func16, Try.ntmps16
    go_wp2_with fail
    refine (l31Left_any f _ _ _ (h.alloc _) (by omega) (by omega)).mono ?_
    rintro e w1 ⟨rfl, hb1⟩
    go_wp2_with fail
    go_ret
    exact ⟨ret_bool HR.out.symm, by repeat (first | with_reducible exact Below.refl _ _ | with_reducible refine Below.setCell ?_ (by first | omega | (simp <;> omega)) _ | with_reducible refine Below.drew ?_ | with_reducible refine below_drewN ?_ _ | with_reducible refine Below.alloc ?_ (by first | omega | (simp <;> omega)) _ | with_reducible refine Below.trans ?_ (Below.mono (by assumption) (by first | omega | (simp <;> omega))))⟩

end Go.Proofs.Ytagnfckihdlhpaa

/-
  The program's formulaOK at nodes that are not right.
-/
namespace Go.Proofs.Ytagnfckihdlhpaa
open Go.RowKit

set_option maxHeartbeats 1000000 in
theorem formulaOK_bad1 (q : Int) (kids : List Fm) (hcase : (kids.length : Int) ≠ 0 ∨ ((kids.length : Int) = 0 ∧ (q < 0 ∨ (0 ≤ q ∧ (7 < q ∨ (q ≤ 7 ∧ (1 : Int) ≠ 2 ∧ q ≠ 0)))))) (w : World) (v : Value) (h : At w Any (forms kids) v) :
    Calls Try.prog 45 #[.agg #[.int .i64 1, .int .i64 q, v]] w fun e w' => e = .returned (.bool false) ∧ Below w.heap.size w w' := by
  obtain ⟨A, c, rfl, hn, hc⟩ := forms_slice h
  rcases hcase with hl | ⟨hl, hq | ⟨hq, hq7 | ⟨hq7, hk2, hq0⟩⟩⟩
  · have hl' : ((kids.length : Int) != 0) = true := by rw [bne_iff_ne]; exact hl
    clear hl
    go_enter Try.func45, Try.ntmps45
    go_wp2_with fail
    go_ret
    exact ⟨rfl, by repeat (first | with_reducible exact Below.refl _ _ | with_reducible refine Below.setCell ?_ (by first | omega | (simp <;> omega)) _ | with_reducible refine Below.drew ?_ | with_reducible refine below_drewN ?_ _ | with_reducible refine Below.alloc ?_ (by first | omega | (simp <;> omega)) _ | with_reducible refine Below.trans ?_ (Below.mono (by assumption) (by first | omega | (simp <;> omega))))⟩
  · have hl' : ((kids.length : Int) != 0) = false := by rw [bne_eq_false_iff_eq]; exact hl
    clear hl
    go_enter Try.func45, Try.ntmps45
    go_wp2_with fail
    go_ret
    exact ⟨rfl, by repeat (first | with_reducible exact Below.refl _ _ | with_reducible refine Below.setCell ?_ (by first | omega | (simp <;> omega)) _ | with_reducible refine Below.drew ?_ | with_reducible refine below_drewN ?_ _ | with_reducible refine Below.alloc ?_ (by first | omega | (simp <;> omega)) _ | with_reducible refine Below.trans ?_ (Below.mono (by assumption) (by first | omega | (simp <;> omega))))⟩
  · have hl' : ((kids.length : Int) != 0) = false := by rw [bne_eq_false_iff_eq]; exact hl
    clear hl
    go_enter Try.func45, Try.ntmps45
    go_wp2_with fail
    go_ret
    exact ⟨rfl, by repeat (first | with_reducible exact Below.refl _ _ | with_reducible refine Below.setCell ?_ (by first | omega | (simp <;> omega)) _ | with_reducible refine Below.drew ?_ | with_reducible refine below_drewN ?_ _ | with_reducible refine Below.alloc ?_ (by first | omega | (simp <;> omega)) _ | with_reducible refine Below.trans ?_ (Below.mono (by assumption) (by first | omega | (simp <;> omega))))⟩
  · first
      | exact absurd rfl hk2
      | (have hl' : ((kids.length : Int) != 0) = false := by rw [bne_eq_false_iff_eq]; exact hl
         have hq0' : (q != 0) = true := by rw [bne_iff_ne]; exact hq0
         clear hl hq0 hk2
         go_enter Try.func45, Try.ntmps45
         go_wp2_with fail
         go_ret
         exact ⟨rfl, by repeat (first | with_reducible exact Below.refl _ _ | with_reducible refine Below.setCell ?_ (by first | omega | (simp <;> omega)) _ | with_reducible refine Below.drew ?_ | with_reducible refine below_drewN ?_ _ | with_reducible refine Below.alloc ?_ (by first | omega | (simp <;> omega)) _ | with_reducible refine Below.trans ?_ (Below.mono (by assumption) (by first | omega | (simp <;> omega))))⟩)
set_option maxHeartbeats 1000000 in
theorem formulaOK_bad2 (q : Int) (kids : List Fm) (hcase : (kids.length : Int) ≠ 0 ∨ ((kids.length : Int) = 0 ∧ (q < 0 ∨ (0 ≤ q ∧ (7 < q ∨ (q ≤ 7 ∧ (2 : Int) ≠ 2 ∧ q ≠ 0)))))) (w : World) (v : Value) (h : At w Any (forms kids) v) :
    Calls Try.prog 45 #[.agg #[.int .i64 2, .int .i64 q, v]] w fun e w' => e = .returned (.bool false) ∧ Below w.heap.size w w' := by
  obtain ⟨A, c, rfl, hn, hc⟩ := forms_slice h
  rcases hcase with hl | ⟨hl, hq | ⟨hq, hq7 | ⟨hq7, hk2, hq0⟩⟩⟩
  · have hl' : ((kids.length : Int) != 0) = true := by rw [bne_iff_ne]; exact hl
    clear hl
    go_enter Try.func45, Try.ntmps45
    go_wp2_with fail
    go_ret
    exact ⟨rfl, by repeat (first | with_reducible exact Below.refl _ _ | with_reducible refine Below.setCell ?_ (by first | omega | (simp <;> omega)) _ | with_reducible refine Below.drew ?_ | with_reducible refine below_drewN ?_ _ | with_reducible refine Below.alloc ?_ (by first | omega | (simp <;> omega)) _ | with_reducible refine Below.trans ?_ (Below.mono (by assumption) (by first | omega | (simp <;> omega))))⟩
  · have hl' : ((kids.length : Int) != 0) = false := by rw [bne_eq_false_iff_eq]; exact hl
    clear hl
    go_enter Try.func45, Try.ntmps45
    go_wp2_with fail
    go_ret
    exact ⟨rfl, by repeat (first | with_reducible exact Below.refl _ _ | with_reducible refine Below.setCell ?_ (by first | omega | (simp <;> omega)) _ | with_reducible refine Below.drew ?_ | with_reducible refine below_drewN ?_ _ | with_reducible refine Below.alloc ?_ (by first | omega | (simp <;> omega)) _ | with_reducible refine Below.trans ?_ (Below.mono (by assumption) (by first | omega | (simp <;> omega))))⟩
  · have hl' : ((kids.length : Int) != 0) = false := by rw [bne_eq_false_iff_eq]; exact hl
    clear hl
    go_enter Try.func45, Try.ntmps45
    go_wp2_with fail
    go_ret
    exact ⟨rfl, by repeat (first | with_reducible exact Below.refl _ _ | with_reducible refine Below.setCell ?_ (by first | omega | (simp <;> omega)) _ | with_reducible refine Below.drew ?_ | with_reducible refine below_drewN ?_ _ | with_reducible refine Below.alloc ?_ (by first | omega | (simp <;> omega)) _ | with_reducible refine Below.trans ?_ (Below.mono (by assumption) (by first | omega | (simp <;> omega))))⟩
  · first
      | exact absurd rfl hk2
      | (have hl' : ((kids.length : Int) != 0) = false := by rw [bne_eq_false_iff_eq]; exact hl
         have hq0' : (q != 0) = true := by rw [bne_iff_ne]; exact hq0
         clear hl hq0 hk2
         go_enter Try.func45, Try.ntmps45
         go_wp2_with fail
         go_ret
         exact ⟨rfl, by repeat (first | with_reducible exact Below.refl _ _ | with_reducible refine Below.setCell ?_ (by first | omega | (simp <;> omega)) _ | with_reducible refine Below.drew ?_ | with_reducible refine below_drewN ?_ _ | with_reducible refine Below.alloc ?_ (by first | omega | (simp <;> omega)) _ | with_reducible refine Below.trans ?_ (Below.mono (by assumption) (by first | omega | (simp <;> omega))))⟩)
set_option maxHeartbeats 1000000 in
theorem formulaOK_bad3 (q : Int) (kids : List Fm) (hcase : (kids.length : Int) ≠ 1 ∨ ((kids.length : Int) = 1 ∧ (q < 0 ∨ (0 ≤ q ∧ (7 < q ∨ (q ≤ 7 ∧ (3 : Int) ≠ 2 ∧ q ≠ 0)))))) (w : World) (v : Value) (h : At w Any (forms kids) v) :
    Calls Try.prog 45 #[.agg #[.int .i64 3, .int .i64 q, v]] w fun e w' => e = .returned (.bool false) ∧ Below w.heap.size w w' := by
  obtain ⟨A, c, rfl, hn, hc⟩ := forms_slice h
  rcases hcase with hl | ⟨hl, hq | ⟨hq, hq7 | ⟨hq7, hk2, hq0⟩⟩⟩
  · have hl' : ((kids.length : Int) != 1) = true := by rw [bne_iff_ne]; exact hl
    clear hl
    go_enter Try.func45, Try.ntmps45
    go_wp2_with fail
    go_ret
    exact ⟨rfl, by repeat (first | with_reducible exact Below.refl _ _ | with_reducible refine Below.setCell ?_ (by first | omega | (simp <;> omega)) _ | with_reducible refine Below.drew ?_ | with_reducible refine below_drewN ?_ _ | with_reducible refine Below.alloc ?_ (by first | omega | (simp <;> omega)) _ | with_reducible refine Below.trans ?_ (Below.mono (by assumption) (by first | omega | (simp <;> omega))))⟩
  · have hl' : ((kids.length : Int) != 1) = false := by rw [bne_eq_false_iff_eq]; exact hl
    clear hl
    go_enter Try.func45, Try.ntmps45
    go_wp2_with fail
    go_ret
    exact ⟨rfl, by repeat (first | with_reducible exact Below.refl _ _ | with_reducible refine Below.setCell ?_ (by first | omega | (simp <;> omega)) _ | with_reducible refine Below.drew ?_ | with_reducible refine below_drewN ?_ _ | with_reducible refine Below.alloc ?_ (by first | omega | (simp <;> omega)) _ | with_reducible refine Below.trans ?_ (Below.mono (by assumption) (by first | omega | (simp <;> omega))))⟩
  · have hl' : ((kids.length : Int) != 1) = false := by rw [bne_eq_false_iff_eq]; exact hl
    clear hl
    go_enter Try.func45, Try.ntmps45
    go_wp2_with fail
    go_ret
    exact ⟨rfl, by repeat (first | with_reducible exact Below.refl _ _ | with_reducible refine Below.setCell ?_ (by first | omega | (simp <;> omega)) _ | with_reducible refine Below.drew ?_ | with_reducible refine below_drewN ?_ _ | with_reducible refine Below.alloc ?_ (by first | omega | (simp <;> omega)) _ | with_reducible refine Below.trans ?_ (Below.mono (by assumption) (by first | omega | (simp <;> omega))))⟩
  · first
      | exact absurd rfl hk2
      | (have hl' : ((kids.length : Int) != 1) = false := by rw [bne_eq_false_iff_eq]; exact hl
         have hq0' : (q != 0) = true := by rw [bne_iff_ne]; exact hq0
         clear hl hq0 hk2
         go_enter Try.func45, Try.ntmps45
         go_wp2_with fail
         go_ret
         exact ⟨rfl, by repeat (first | with_reducible exact Below.refl _ _ | with_reducible refine Below.setCell ?_ (by first | omega | (simp <;> omega)) _ | with_reducible refine Below.drew ?_ | with_reducible refine below_drewN ?_ _ | with_reducible refine Below.alloc ?_ (by first | omega | (simp <;> omega)) _ | with_reducible refine Below.trans ?_ (Below.mono (by assumption) (by first | omega | (simp <;> omega))))⟩)
set_option maxHeartbeats 1000000 in
theorem formulaOK_bad4 (q : Int) (kids : List Fm) (hcase : (kids.length : Int) ≠ 2 ∨ ((kids.length : Int) = 2 ∧ (q < 0 ∨ (0 ≤ q ∧ (7 < q ∨ (q ≤ 7 ∧ (4 : Int) ≠ 2 ∧ q ≠ 0)))))) (w : World) (v : Value) (h : At w Any (forms kids) v) :
    Calls Try.prog 45 #[.agg #[.int .i64 4, .int .i64 q, v]] w fun e w' => e = .returned (.bool false) ∧ Below w.heap.size w w' := by
  obtain ⟨A, c, rfl, hn, hc⟩ := forms_slice h
  rcases hcase with hl | ⟨hl, hq | ⟨hq, hq7 | ⟨hq7, hk2, hq0⟩⟩⟩
  · have hl' : ((kids.length : Int) != 2) = true := by rw [bne_iff_ne]; exact hl
    clear hl
    go_enter Try.func45, Try.ntmps45
    go_wp2_with fail
    go_ret
    exact ⟨rfl, by repeat (first | with_reducible exact Below.refl _ _ | with_reducible refine Below.setCell ?_ (by first | omega | (simp <;> omega)) _ | with_reducible refine Below.drew ?_ | with_reducible refine below_drewN ?_ _ | with_reducible refine Below.alloc ?_ (by first | omega | (simp <;> omega)) _ | with_reducible refine Below.trans ?_ (Below.mono (by assumption) (by first | omega | (simp <;> omega))))⟩
  · have hl' : ((kids.length : Int) != 2) = false := by rw [bne_eq_false_iff_eq]; exact hl
    clear hl
    go_enter Try.func45, Try.ntmps45
    go_wp2_with fail
    go_ret
    exact ⟨rfl, by repeat (first | with_reducible exact Below.refl _ _ | with_reducible refine Below.setCell ?_ (by first | omega | (simp <;> omega)) _ | with_reducible refine Below.drew ?_ | with_reducible refine below_drewN ?_ _ | with_reducible refine Below.alloc ?_ (by first | omega | (simp <;> omega)) _ | with_reducible refine Below.trans ?_ (Below.mono (by assumption) (by first | omega | (simp <;> omega))))⟩
  · have hl' : ((kids.length : Int) != 2) = false := by rw [bne_eq_false_iff_eq]; exact hl
    clear hl
    go_enter Try.func45, Try.ntmps45
    go_wp2_with fail
    go_ret
    exact ⟨rfl, by repeat (first | with_reducible exact Below.refl _ _ | with_reducible refine Below.setCell ?_ (by first | omega | (simp <;> omega)) _ | with_reducible refine Below.drew ?_ | with_reducible refine below_drewN ?_ _ | with_reducible refine Below.alloc ?_ (by first | omega | (simp <;> omega)) _ | with_reducible refine Below.trans ?_ (Below.mono (by assumption) (by first | omega | (simp <;> omega))))⟩
  · first
      | exact absurd rfl hk2
      | (have hl' : ((kids.length : Int) != 2) = false := by rw [bne_eq_false_iff_eq]; exact hl
         have hq0' : (q != 0) = true := by rw [bne_iff_ne]; exact hq0
         clear hl hq0 hk2
         go_enter Try.func45, Try.ntmps45
         go_wp2_with fail
         go_ret
         exact ⟨rfl, by repeat (first | with_reducible exact Below.refl _ _ | with_reducible refine Below.setCell ?_ (by first | omega | (simp <;> omega)) _ | with_reducible refine Below.drew ?_ | with_reducible refine below_drewN ?_ _ | with_reducible refine Below.alloc ?_ (by first | omega | (simp <;> omega)) _ | with_reducible refine Below.trans ?_ (Below.mono (by assumption) (by first | omega | (simp <;> omega))))⟩)
set_option maxHeartbeats 1000000 in
theorem formulaOK_bad5 (q : Int) (kids : List Fm) (hcase : (kids.length : Int) ≠ 2 ∨ ((kids.length : Int) = 2 ∧ (q < 0 ∨ (0 ≤ q ∧ (7 < q ∨ (q ≤ 7 ∧ (5 : Int) ≠ 2 ∧ q ≠ 0)))))) (w : World) (v : Value) (h : At w Any (forms kids) v) :
    Calls Try.prog 45 #[.agg #[.int .i64 5, .int .i64 q, v]] w fun e w' => e = .returned (.bool false) ∧ Below w.heap.size w w' := by
  obtain ⟨A, c, rfl, hn, hc⟩ := forms_slice h
  rcases hcase with hl | ⟨hl, hq | ⟨hq, hq7 | ⟨hq7, hk2, hq0⟩⟩⟩
  · have hl' : ((kids.length : Int) != 2) = true := by rw [bne_iff_ne]; exact hl
    clear hl
    go_enter Try.func45, Try.ntmps45
    go_wp2_with fail
    go_ret
    exact ⟨rfl, by repeat (first | with_reducible exact Below.refl _ _ | with_reducible refine Below.setCell ?_ (by first | omega | (simp <;> omega)) _ | with_reducible refine Below.drew ?_ | with_reducible refine below_drewN ?_ _ | with_reducible refine Below.alloc ?_ (by first | omega | (simp <;> omega)) _ | with_reducible refine Below.trans ?_ (Below.mono (by assumption) (by first | omega | (simp <;> omega))))⟩
  · have hl' : ((kids.length : Int) != 2) = false := by rw [bne_eq_false_iff_eq]; exact hl
    clear hl
    go_enter Try.func45, Try.ntmps45
    go_wp2_with fail
    go_ret
    exact ⟨rfl, by repeat (first | with_reducible exact Below.refl _ _ | with_reducible refine Below.setCell ?_ (by first | omega | (simp <;> omega)) _ | with_reducible refine Below.drew ?_ | with_reducible refine below_drewN ?_ _ | with_reducible refine Below.alloc ?_ (by first | omega | (simp <;> omega)) _ | with_reducible refine Below.trans ?_ (Below.mono (by assumption) (by first | omega | (simp <;> omega))))⟩
  · have hl' : ((kids.length : Int) != 2) = false := by rw [bne_eq_false_iff_eq]; exact hl
    clear hl
    go_enter Try.func45, Try.ntmps45
    go_wp2_with fail
    go_ret
    exact ⟨rfl, by repeat (first | with_reducible exact Below.refl _ _ | with_reducible refine Below.setCell ?_ (by first | omega | (simp <;> omega)) _ | with_reducible refine Below.drew ?_ | with_reducible refine below_drewN ?_ _ | with_reducible refine Below.alloc ?_ (by first | omega | (simp <;> omega)) _ | with_reducible refine Below.trans ?_ (Below.mono (by assumption) (by first | omega | (simp <;> omega))))⟩
  · first
      | exact absurd rfl hk2
      | (have hl' : ((kids.length : Int) != 2) = false := by rw [bne_eq_false_iff_eq]; exact hl
         have hq0' : (q != 0) = true := by rw [bne_iff_ne]; exact hq0
         clear hl hq0 hk2
         go_enter Try.func45, Try.ntmps45
         go_wp2_with fail
         go_ret
         exact ⟨rfl, by repeat (first | with_reducible exact Below.refl _ _ | with_reducible refine Below.setCell ?_ (by first | omega | (simp <;> omega)) _ | with_reducible refine Below.drew ?_ | with_reducible refine below_drewN ?_ _ | with_reducible refine Below.alloc ?_ (by first | omega | (simp <;> omega)) _ | with_reducible refine Below.trans ?_ (Below.mono (by assumption) (by first | omega | (simp <;> omega))))⟩)
set_option maxHeartbeats 1000000 in
theorem formulaOK_bad6 (q : Int) (kids : List Fm) (hcase : (kids.length : Int) ≠ 1 ∨ ((kids.length : Int) = 1 ∧ (q < 0 ∨ (0 ≤ q ∧ (7 < q ∨ (q ≤ 7 ∧ (6 : Int) ≠ 2 ∧ q ≠ 0)))))) (w : World) (v : Value) (h : At w Any (forms kids) v) :
    Calls Try.prog 45 #[.agg #[.int .i64 6, .int .i64 q, v]] w fun e w' => e = .returned (.bool false) ∧ Below w.heap.size w w' := by
  obtain ⟨A, c, rfl, hn, hc⟩ := forms_slice h
  rcases hcase with hl | ⟨hl, hq | ⟨hq, hq7 | ⟨hq7, hk2, hq0⟩⟩⟩
  · have hl' : ((kids.length : Int) != 1) = true := by rw [bne_iff_ne]; exact hl
    clear hl
    go_enter Try.func45, Try.ntmps45
    go_wp2_with fail
    go_ret
    exact ⟨rfl, by repeat (first | with_reducible exact Below.refl _ _ | with_reducible refine Below.setCell ?_ (by first | omega | (simp <;> omega)) _ | with_reducible refine Below.drew ?_ | with_reducible refine below_drewN ?_ _ | with_reducible refine Below.alloc ?_ (by first | omega | (simp <;> omega)) _ | with_reducible refine Below.trans ?_ (Below.mono (by assumption) (by first | omega | (simp <;> omega))))⟩
  · have hl' : ((kids.length : Int) != 1) = false := by rw [bne_eq_false_iff_eq]; exact hl
    clear hl
    go_enter Try.func45, Try.ntmps45
    go_wp2_with fail
    go_ret
    exact ⟨rfl, by repeat (first | with_reducible exact Below.refl _ _ | with_reducible refine Below.setCell ?_ (by first | omega | (simp <;> omega)) _ | with_reducible refine Below.drew ?_ | with_reducible refine below_drewN ?_ _ | with_reducible refine Below.alloc ?_ (by first | omega | (simp <;> omega)) _ | with_reducible refine Below.trans ?_ (Below.mono (by assumption) (by first | omega | (simp <;> omega))))⟩
  · have hl' : ((kids.length : Int) != 1) = false := by rw [bne_eq_false_iff_eq]; exact hl
    clear hl
    go_enter Try.func45, Try.ntmps45
    go_wp2_with fail
    go_ret
    exact ⟨rfl, by repeat (first | with_reducible exact Below.refl _ _ | with_reducible refine Below.setCell ?_ (by first | omega | (simp <;> omega)) _ | with_reducible refine Below.drew ?_ | with_reducible refine below_drewN ?_ _ | with_reducible refine Below.alloc ?_ (by first | omega | (simp <;> omega)) _ | with_reducible refine Below.trans ?_ (Below.mono (by assumption) (by first | omega | (simp <;> omega))))⟩
  · first
      | exact absurd rfl hk2
      | (have hl' : ((kids.length : Int) != 1) = false := by rw [bne_eq_false_iff_eq]; exact hl
         have hq0' : (q != 0) = true := by rw [bne_iff_ne]; exact hq0
         clear hl hq0 hk2
         go_enter Try.func45, Try.ntmps45
         go_wp2_with fail
         go_ret
         exact ⟨rfl, by repeat (first | with_reducible exact Below.refl _ _ | with_reducible refine Below.setCell ?_ (by first | omega | (simp <;> omega)) _ | with_reducible refine Below.drew ?_ | with_reducible refine below_drewN ?_ _ | with_reducible refine Below.alloc ?_ (by first | omega | (simp <;> omega)) _ | with_reducible refine Below.trans ?_ (Below.mono (by assumption) (by first | omega | (simp <;> omega))))⟩)
set_option maxHeartbeats 1000000 in
theorem formulaOK_bad7 (q : Int) (kids : List Fm) (hcase : (kids.length : Int) ≠ 2 ∨ ((kids.length : Int) = 2 ∧ (q < 0 ∨ (0 ≤ q ∧ (7 < q ∨ (q ≤ 7 ∧ (7 : Int) ≠ 2 ∧ q ≠ 0)))))) (w : World) (v : Value) (h : At w Any (forms kids) v) :
    Calls Try.prog 45 #[.agg #[.int .i64 7, .int .i64 q, v]] w fun e w' => e = .returned (.bool false) ∧ Below w.heap.size w w' := by
  obtain ⟨A, c, rfl, hn, hc⟩ := forms_slice h
  rcases hcase with hl | ⟨hl, hq | ⟨hq, hq7 | ⟨hq7, hk2, hq0⟩⟩⟩
  · have hl' : ((kids.length : Int) != 2) = true := by rw [bne_iff_ne]; exact hl
    clear hl
    go_enter Try.func45, Try.ntmps45
    go_wp2_with fail
    go_ret
    exact ⟨rfl, by repeat (first | with_reducible exact Below.refl _ _ | with_reducible refine Below.setCell ?_ (by first | omega | (simp <;> omega)) _ | with_reducible refine Below.drew ?_ | with_reducible refine below_drewN ?_ _ | with_reducible refine Below.alloc ?_ (by first | omega | (simp <;> omega)) _ | with_reducible refine Below.trans ?_ (Below.mono (by assumption) (by first | omega | (simp <;> omega))))⟩
  · have hl' : ((kids.length : Int) != 2) = false := by rw [bne_eq_false_iff_eq]; exact hl
    clear hl
    go_enter Try.func45, Try.ntmps45
    go_wp2_with fail
    go_ret
    exact ⟨rfl, by repeat (first | with_reducible exact Below.refl _ _ | with_reducible refine Below.setCell ?_ (by first | omega | (simp <;> omega)) _ | with_reducible refine Below.drew ?_ | with_reducible refine below_drewN ?_ _ | with_reducible refine Below.alloc ?_ (by first | omega | (simp <;> omega)) _ | with_reducible refine Below.trans ?_ (Below.mono (by assumption) (by first | omega | (simp <;> omega))))⟩
  · have hl' : ((kids.length : Int) != 2) = false := by rw [bne_eq_false_iff_eq]; exact hl
    clear hl
    go_enter Try.func45, Try.ntmps45
    go_wp2_with fail
    go_ret
    exact ⟨rfl, by repeat (first | with_reducible exact Below.refl _ _ | with_reducible refine Below.setCell ?_ (by first | omega | (simp <;> omega)) _ | with_reducible refine Below.drew ?_ | with_reducible refine below_drewN ?_ _ | with_reducible refine Below.alloc ?_ (by first | omega | (simp <;> omega)) _ | with_reducible refine Below.trans ?_ (Below.mono (by assumption) (by first | omega | (simp <;> omega))))⟩
  · first
      | exact absurd rfl hk2
      | (have hl' : ((kids.length : Int) != 2) = false := by rw [bne_eq_false_iff_eq]; exact hl
         have hq0' : (q != 0) = true := by rw [bne_iff_ne]; exact hq0
         clear hl hq0 hk2
         go_enter Try.func45, Try.ntmps45
         go_wp2_with fail
         go_ret
         exact ⟨rfl, by repeat (first | with_reducible exact Below.refl _ _ | with_reducible refine Below.setCell ?_ (by first | omega | (simp <;> omega)) _ | with_reducible refine Below.drew ?_ | with_reducible refine below_drewN ?_ _ | with_reducible refine Below.alloc ?_ (by first | omega | (simp <;> omega)) _ | with_reducible refine Below.trans ?_ (Below.mono (by assumption) (by first | omega | (simp <;> omega))))⟩)

set_option maxHeartbeats 1000000 in
theorem formulaOK_bad (k q : Int) (kids : List Fm) (hbad : ¬ okHead k q kids.length) (w : World) (v : Value) (h : At w Any (forms kids) v) :
    Calls Try.prog 45 #[.agg #[.int .i64 k, .int .i64 q, v]] w fun e w' => e = .returned (.bool false) ∧ Below w.heap.size w w' := by
  rcases bad_head hbad with hk | ⟨k1, k7, hcase⟩
  · obtain ⟨A, c, rfl, hn, hc⟩ := forms_slice h
    have e1 : (k == 1) = false := by rw [beq_eq_false_iff_ne]; omega
    have e2 : (k == 2) = false := by rw [beq_eq_false_iff_ne]; omega
    have e3 : (k == 3) = false := by rw [beq_eq_false_iff_ne]; omega
    have e4 : (k == 4) = false := by rw [beq_eq_false_iff_ne]; omega
    have e5 : (k == 5) = false := by rw [beq_eq_false_iff_ne]; omega
    have e6 : (k == 6) = false := by rw [beq_eq_false_iff_ne]; omega
    have e7 : (k == 7) = false := by rw [beq_eq_false_iff_ne]; omega
    clear hbad hk
    go_enter Try.func45, Try.ntmps45
    go_wp2_with fail
    go_ret
    exact ⟨rfl, by repeat (first | with_reducible exact Below.refl _ _ | with_reducible refine Below.setCell ?_ (by first | omega | (simp <;> omega)) _ | with_reducible refine Below.drew ?_ | with_reducible refine below_drewN ?_ _ | with_reducible refine Below.alloc ?_ (by first | omega | (simp <;> omega)) _ | with_reducible refine Below.trans ?_ (Below.mono (by assumption) (by first | omega | (simp <;> omega))))⟩
  · rcases kinds k1 k7 with rfl | rfl | rfl | rfl | rfl | rfl | rfl
    · exact formulaOK_bad1 q kids hcase w v h
    · exact formulaOK_bad2 q kids hcase w v h
    · exact formulaOK_bad3 q kids hcase w v h
    · exact formulaOK_bad4 q kids hcase w v h
    · exact formulaOK_bad5 q kids hcase w v h
    · exact formulaOK_bad6 q kids hcase w v h
    · exact formulaOK_bad7 q kids hcase w v h

end Go.Proofs.Ytagnfckihdlhpaa

/-
  The program's formulaOK at nodes that are right; formulaOK and IsFormula of the program.
-/
namespace Go.Proofs.Ytagnfckihdlhpaa
open Go.RowKit

set_option maxHeartbeats 1000000 in
theorem formulaOK_good1 (q : Int) (kids : List Fm) (ih : ∀ x ∈ kids, OkF x) (hl : (kids.length : Int) = 0) (hq1 : 0 ≤ q) (hq7 : q ≤ 7) (hq : (1 : Int) = 2 ∨ q = 0) (w : World) (v : Value) (h : At w Any (forms kids) v) :
    Calls Try.prog 45 #[.agg #[.int .i64 1, .int .i64 q, v]] w fun e w' => e = .returned (.bool (kids.all Fm.ok)) ∧ Below w.heap.size w w' := by
  obtain ⟨A, c, rfl, hn, hc⟩ := forms_slice h
  have IH := Lib.hid ih
  clear ih
  have hl' : ((kids.length : Int) != 0) = false := by rw [bne_eq_false_iff_eq]; exact hl
  have hq' : (q != 0) = false := by obtain rfl := hq.resolve_left (by decide); rfl
  clear hl hq
  go_enter Try.func45, Try.ntmps45
  go_wp2_with fail
  go_loopw [46] (fun i wr => ∃ j : Nat, j ≤ kids.length ∧ i = .int .i64 j ∧ (∀ x ∈ kids.take j, x.ok = true) ∧ Below w.heap.size w wr) (fun i _ => kids.length - (intOf i).toNat)
  case atStart => exact ⟨0, Nat.zero_le _, rfl, by simp, by repeat (first | with_reducible exact Below.refl _ _ | with_reducible refine Below.setCell ?_ (by first | omega | (simp <;> omega)) _ | with_reducible refine Below.drew ?_ | with_reducible refine below_drewN ?_ _ | with_reducible refine Below.alloc ?_ (by first | omega | (simp <;> omega)) _ | with_reducible refine Below.trans ?_ (Below.mono (by assumption) (by first | omega | (simp <;> omega))))⟩
  case round =>
    obtain ⟨j, hj, rfl, hd, hb⟩ := hrel
    have HD := Lib.hid hd
    clear hd
    by_cases hlt : j < kids.length
    · obtain ⟨b, off, f, u, rfl, _, hlb, hc1, hc2, hc3, hu, HX, _⟩ := forms_get (h.below hb) hlt
      obtain ⟨Au, cu, rfl, hnu, hcu⟩ := forms_slice hu
      have hmem := List.mem_of_getElem? HX.out
      have z := hb.size
      by_cases hok : f.ok = true
      · go_wp2_with fail
        refine (IH.out f hmem _ _ (hu.alloc _)).mono ?_
        rintro e w1 ⟨rfl, hb1⟩
        go_wp2_with fail
        go_roundw
        case rel => exact ⟨j + 1, by omega, by go_num, all_take_succ HX.out HD.out hok, by repeat (first | with_reducible exact Below.refl _ _ | with_reducible refine Below.setCell ?_ (by first | omega | (simp <;> omega)) _ | with_reducible refine Below.drew ?_ | with_reducible refine below_drewN ?_ _ | with_reducible refine Below.alloc ?_ (by first | omega | (simp <;> omega)) _ | with_reducible refine Below.trans ?_ (Below.mono (by assumption) (by first | omega | (simp <;> omega))))⟩
        case measure => simp [intOf]; omega
      · have hok' : f.ok = false := by simpa using hok
        have HF : Hid (kids.all Fm.ok = false) := List.all_eq_false.2 ⟨f, hmem, by rw [hok']; decide⟩
        clear hok
        go_wp2_with fail
        refine (IH.out f hmem _ _ (hu.alloc _)).mono ?_
        rintro e w1 ⟨rfl, hb1⟩
        go_wp2_with fail
        go_ret
        exact ⟨ret_bool HF.out.symm, by repeat (first | with_reducible exact Below.refl _ _ | with_reducible refine Below.setCell ?_ (by first | omega | (simp <;> omega)) _ | with_reducible refine Below.drew ?_ | with_reducible refine below_drewN ?_ _ | with_reducible refine Below.alloc ?_ (by first | omega | (simp <;> omega)) _ | with_reducible refine Below.trans ?_ (Below.mono (by assumption) (by first | omega | (simp <;> omega))))⟩
    · have HF : Hid (kids.all Fm.ok = true) := by
        have := HD.out
        rw [List.take_of_length_le (by omega)] at this
        exact List.all_eq_true.2 this
      go_wp2_with fail
      go_ret
      exact ⟨ret_bool HF.out.symm, hb⟩
set_option maxHeartbeats 1000000 in
theorem formulaOK_good2 (q : Int) (kids : List Fm) (ih : ∀ x ∈ kids, OkF x) (hl : (kids.length : Int) = 0) (hq1 : 0 ≤ q) (hq7 : q ≤ 7) (hq : (2 : Int) = 2 ∨ q = 0) (w : World) (v : Value) (h : At w Any (forms kids) v) :
    Calls Try.prog 45 #[.agg #[.int .i64 2, .int .i64 q, v]] w fun e w' => e = .returned (.bool (kids.all Fm.ok)) ∧ Below w.heap.size w w' := by
  obtain ⟨A, c, rfl, hn, hc⟩ := forms_slice h
  have IH := Lib.hid ih
  clear ih
  have hl' : ((kids.length : Int) != 0) = false := by rw [bne_eq_false_iff_eq]; exact hl
  have _t := hq
  clear hl hq
  go_enter Try.func45, Try.ntmps45
  go_wp2_with fail
  go_loopw [46] (fun i wr => ∃ j : Nat, j ≤ kids.length ∧ i = .int .i64 j ∧ (∀ x ∈ kids.take j, x.ok = true) ∧ Below w.heap.size w wr) (fun i _ => kids.length - (intOf i).toNat)
  case atStart => exact ⟨0, Nat.zero_le _, rfl, by simp, by repeat (first | with_reducible exact Below.refl _ _ | with_reducible refine Below.setCell ?_ (by first | omega | (simp <;> omega)) _ | with_reducible refine Below.drew ?_ | with_reducible refine below_drewN ?_ _ | with_reducible refine Below.alloc ?_ (by first | omega | (simp <;> omega)) _ | with_reducible refine Below.trans ?_ (Below.mono (by assumption) (by first | omega | (simp <;> omega))))⟩
  case round =>
    obtain ⟨j, hj, rfl, hd, hb⟩ := hrel
    have HD := Lib.hid hd
    clear hd
    by_cases hlt : j < kids.length
    · obtain ⟨b, off, f, u, rfl, _, hlb, hc1, hc2, hc3, hu, HX, _⟩ := forms_get (h.below hb) hlt
      obtain ⟨Au, cu, rfl, hnu, hcu⟩ := forms_slice hu
      have hmem := List.mem_of_getElem? HX.out
      have z := hb.size
      by_cases hok : f.ok = true
      · go_wp2_with fail
        refine (IH.out f hmem _ _ (hu.alloc _)).mono ?_
        rintro e w1 ⟨rfl, hb1⟩
        go_wp2_with fail
        go_roundw
        case rel => exact ⟨j + 1, by omega, by go_num, all_take_succ HX.out HD.out hok, by repeat (first | with_reducible exact Below.refl _ _ | with_reducible refine Below.setCell ?_ (by first | omega | (simp <;> omega)) _ | with_reducible refine Below.drew ?_ | with_reducible refine below_drewN ?_ _ | with_reducible refine Below.alloc ?_ (by first | omega | (simp <;> omega)) _ | with_reducible refine Below.trans ?_ (Below.mono (by assumption) (by first | omega | (simp <;> omega))))⟩
        case measure => simp [intOf]; omega
      · have hok' : f.ok = false := by simpa using hok
        have HF : Hid (kids.all Fm.ok = false) := List.all_eq_false.2 ⟨f, hmem, by rw [hok']; decide⟩
        clear hok
        go_wp2_with fail
        refine (IH.out f hmem _ _ (hu.alloc _)).mono ?_
        rintro e w1 ⟨rfl, hb1⟩
        go_wp2_with fail
        go_ret
        exact ⟨ret_bool HF.out.symm, by repeat (first | with_reducible exact Below.refl _ _ | with_reducible refine Below.setCell ?_ (by first | omega | (simp <;> omega)) _ | with_reducible refine Below.drew ?_ | with_reducible refine below_drewN ?_ _ | with_reducible refine Below.alloc ?_ (by first | omega | (simp <;> omega)) _ | with_reducible refine Below.trans ?_ (Below.mono (by assumption) (by first | omega | (simp <;> omega))))⟩
    · have HF : Hid (kids.all Fm.ok = true) := by
        have := HD.out
        rw [List.take_of_length_le (by omega)] at this
        exact List.all_eq_true.2 this
      go_wp2_with fail
      go_ret
      exact ⟨ret_bool HF.out.symm, hb⟩
set_option maxHeartbeats 1000000 in
theorem formulaOK_good3 (q : Int) (kids : List Fm) (ih : ∀ x ∈ kids, OkF x) (hl : (kids.length : Int) = 1) (hq1 : 0 ≤ q) (hq7 : q ≤ 7) (hq : (3 : Int) = 2 ∨ q = 0) (w : World) (v : Value) (h : At w Any (forms kids) v) :
    Calls Try.prog 45 #[.agg #[.int .i64 3, .int .i64 q, v]] w fun e w' => e = .returned (.bool (kids.all Fm.ok)) ∧ Below w.heap.size w w' := by
  obtain ⟨A, c, rfl, hn, hc⟩ := forms_slice h
  have IH := Lib.hid ih
  clear ih
  have hl' : ((kids.length : Int) != 1) = false := by rw [bne_eq_false_iff_eq]; exact hl
  have hq' : (q != 0) = false := by obtain rfl := hq.resolve_left (by decide); rfl
  clear hl hq
  go_enter Try.func45, Try.ntmps45
  go_wp2_with fail
  go_loopw [46] (fun i wr => ∃ j : Nat, j ≤ kids.length ∧ i = .int .i64 j ∧ (∀ x ∈ kids.take j, x.ok = true) ∧ Below w.heap.size w wr) (fun i _ => kids.length - (intOf i).toNat)
  case atStart => exact ⟨0, Nat.zero_le _, rfl, by simp, by repeat (first | with_reducible exact Below.refl _ _ | with_reducible refine Below.setCell ?_ (by first | omega | (simp <;> omega)) _ | with_reducible refine Below.drew ?_ | with_reducible refine below_drewN ?_ _ | with_reducible refine Below.alloc ?_ (by first | omega | (simp <;> omega)) _ | with_reducible refine Below.trans ?_ (Below.mono (by assumption) (by first | omega | (simp <;> omega))))⟩
  case round =>
    obtain ⟨j, hj, rfl, hd, hb⟩ := hrel
    have HD := Lib.hid hd
    clear hd
    by_cases hlt : j < kids.length
    · obtain ⟨b, off, f, u, rfl, _, hlb, hc1, hc2, hc3, hu, HX, _⟩ := forms_get (h.below hb) hlt
      obtain ⟨Au, cu, rfl, hnu, hcu⟩ := forms_slice hu
      have hmem := List.mem_of_getElem? HX.out
      have z := hb.size
      by_cases hok : f.ok = true
      · go_wp2_with fail
        refine (IH.out f hmem _ _ (hu.alloc _)).mono ?_
        rintro e w1 ⟨rfl, hb1⟩
        go_wp2_with fail
        go_roundw
        case rel => exact ⟨j + 1, by omega, by go_num, all_take_succ HX.out HD.out hok, by repeat (first | with_reducible exact Below.refl _ _ | with_reducible refine Below.setCell ?_ (by first | omega | (simp <;> omega)) _ | with_reducible refine Below.drew ?_ | with_reducible refine below_drewN ?_ _ | with_reducible refine Below.alloc ?_ (by first | omega | (simp <;> omega)) _ | with_reducible refine Below.trans ?_ (Below.mono (by assumption) (by first | omega | (simp <;> omega))))⟩
        case measure => simp [intOf]; omega
      · have hok' : f.ok = false := by simpa using hok
        have HF : Hid (kids.all Fm.ok = false) := List.all_eq_false.2 ⟨f, hmem, by rw [hok']; decide⟩
        clear hok
        go_wp2_with fail
        refine (IH.out f hmem _ _ (hu.alloc _)).mono ?_
        rintro e w1 ⟨rfl, hb1⟩
        go_wp2_with fail
        go_ret
        exact ⟨ret_bool HF.out.symm, by repeat (first | with_reducible exact Below.refl _ _ | with_reducible refine Below.setCell ?_ (by first | omega | (simp <;> omega)) _ | with_reducible refine Below.drew ?_ | with_reducible refine below_drewN ?_ _ | with_reducible refine Below.alloc ?_ (by first | omega | (simp <;> omega)) _ | with_reducible refine Below.trans ?_ (Below.mono (by assumption) (by first | omega | (simp <;> omega))))⟩
    · have HF : Hid (kids.all Fm.ok = true) := by
        have := HD.out
        rw [List.take_of_length_le (by omega)] at this
        exact List.all_eq_true.2 this
      go_wp2_with fail
      go_ret
      exact ⟨ret_bool HF.out.symm, hb⟩
set_option maxHeartbeats 1000000 in
theorem formulaOK_good4 (q : Int) (kids : List Fm) (ih : ∀ x ∈ kids, OkF x) (hl : (kids.length : Int) = 2) (hq1 : 0 ≤ q) (hq7 : q ≤ 7) (hq : (4 : Int) = 2 ∨ q = 0) (w : World) (v : Value) (h : At w Any (forms kids) v) :
    Calls Try.prog 45 #[.agg #[.int .i64 4, .int .i64 q, v]] w fun e w' => e = .returned (.bool (kids.all Fm.ok)) ∧ Below w.heap.size w w' := by
  obtain ⟨A, c, rfl, hn, hc⟩ := forms_slice h
  have IH := Lib.hid ih
  clear ih
  have hl' : ((kids.length : Int) != 2) = false := by rw [bne_eq_false_iff_eq]; exact hl
  have hq' : (q != 0) = false := by obtain rfl := hq.resolve_left (by decide); rfl
  clear hl hq
  go_enter Try.func45, Try.ntmps45
  go_wp2_with fail
  go_loopw [46] (fun i wr => ∃ j : Nat, j ≤ kids.length ∧ i = .int .i64 j ∧ (∀ x ∈ kids.take j, x.ok = true) ∧ Below w.heap.size w wr) (fun i _ => kids.length - (intOf i).toNat)
  case atStart => exact ⟨0, Nat.zero_le _, rfl, by simp, by repeat (first | with_reducible exact Below.refl _ _ | with_reducible refine Below.setCell ?_ (by first | omega | (simp <;> omega)) _ | with_reducible refine Below.drew ?_ | with_reducible refine below_drewN ?_ _ | with_reducible refine Below.alloc ?_ (by first | omega | (simp <;> omega)) _ | with_reducible refine Below.trans ?_ (Below.mono (by assumption) (by first | omega | (simp <;> omega))))⟩
  case round =>
    obtain ⟨j, hj, rfl, hd, hb⟩ := hrel
    have HD := Lib.hid hd
    clear hd
    by_cases hlt : j < kids.length
    · obtain ⟨b, off, f, u, rfl, _, hlb, hc1, hc2, hc3, hu, HX, _⟩ := forms_get (h.below hb) hlt
      obtain ⟨Au, cu, rfl, hnu, hcu⟩ := forms_slice hu
      have hmem := List.mem_of_getElem? HX.out
      have z := hb.size
      by_cases hok : f.ok = true
      · go_wp2_with fail
        refine (IH.out f hmem _ _ (hu.alloc _)).mono ?_
        rintro e w1 ⟨rfl, hb1⟩
        go_wp2_with fail
        go_roundw
        case rel => exact ⟨j + 1, by omega, by go_num, all_take_succ HX.out HD.out hok, by repeat (first | with_reducible exact Below.refl _ _ | with_reducible refine Below.setCell ?_ (by first | omega | (simp <;> omega)) _ | with_reducible refine Below.drew ?_ | with_reducible refine below_drewN ?_ _ | with_reducible refine Below.alloc ?_ (by first | omega | (simp <;> omega)) _ | with_reducible refine Below.trans ?_ (Below.mono (by assumption) (by first | omega | (simp <;> omega))))⟩
        case measure => simp [intOf]; omega
      · have hok' : f.ok = false := by simpa using hok
        have HF : Hid (kids.all Fm.ok = false) := List.all_eq_false.2 ⟨f, hmem, by rw [hok']; decide⟩
        clear hok
        go_wp2_with fail
        refine (IH.out f hmem _ _ (hu.alloc _)).mono ?_
        rintro e w1 ⟨rfl, hb1⟩
        go_wp2_with fail
        go_ret
        exact ⟨ret_bool HF.out.symm, by repeat (first | with_reducible exact Below.refl _ _ | with_reducible refine Below.setCell ?_ (by first | omega | (simp <;> omega)) _ | with_reducible refine Below.drew ?_ | with_reducible refine below_drewN ?_ _ | with_reducible refine Below.alloc ?_ (by first | omega | (simp <;> omega)) _ | with_reducible refine Below.trans ?_ (Below.mono (by assumption) (by first | omega | (simp <;> omega))))⟩
    · have HF : Hid (kids.all Fm.ok = true) := by
        have := HD.out
        rw [List.take_of_length_le (by omega)] at this
        exact List.all_eq_true.2 this
      go_wp2_with fail
      go_ret
      exact ⟨ret_bool HF.out.symm, hb⟩
set_option maxHeartbeats 1000000 in
theorem formulaOK_good5 (q : Int) (kids : List Fm) (ih : ∀ x ∈ kids, OkF x) (hl : (kids.length : Int) = 2) (hq1 : 0 ≤ q) (hq7 : q ≤ 7) (hq : (5 : Int) = 2 ∨ q = 0) (w : World) (v : Value) (h : At w Any (forms kids) v) :
    Calls Try.prog 45 #[.agg #[.int .i64 5, .int .i64 q, v]] w fun e w' => e = .returned (.bool (kids.all Fm.ok)) ∧ Below w.heap.size w w' := by
  obtain ⟨A, c, rfl, hn, hc⟩ := forms_slice h
  have IH := Lib.hid ih
  clear ih
  have hl' : ((kids.length : Int) != 2) = false := by rw [bne_eq_false_iff_eq]; exact hl
  have hq' : (q != 0) = false := by obtain rfl := hq.resolve_left (by decide); rfl
  clear hl hq
  go_enter Try.func45, Try.ntmps45
  go_wp2_with fail
  go_loopw [46] (fun i wr => ∃ j : Nat, j ≤ kids.length ∧ i = .int .i64 j ∧ (∀ x ∈ kids.take j, x.ok = true) ∧ Below w.heap.size w wr) (fun i _ => kids.length - (intOf i).toNat)
  case atStart => exact ⟨0, Nat.zero_le _, rfl, by simp, by repeat (first | with_reducible exact Below.refl _ _ | with_reducible refine Below.setCell ?_ (by first | omega | (simp <;> omega)) _ | with_reducible refine Below.drew ?_ | with_reducible refine below_drewN ?_ _ | with_reducible refine Below.alloc ?_ (by first | omega | (simp <;> omega)) _ | with_reducible refine Below.trans ?_ (Below.mono (by assumption) (by first | omega | (simp <;> omega))))⟩
  case round =>
    obtain ⟨j, hj, rfl, hd, hb⟩ := hrel
    have HD := Lib.hid hd
    clear hd
    by_cases hlt : j < kids.length
    · obtain ⟨b, off, f, u, rfl, _, hlb, hc1, hc2, hc3, hu, HX, _⟩ := forms_get (h.below hb) hlt
      obtain ⟨Au, cu, rfl, hnu, hcu⟩ := forms_slice hu
      have hmem := List.mem_of_getElem? HX.out
      have z := hb.size
      by_cases hok : f.ok = true
      · go_wp2_with fail
        refine (IH.out f hmem _ _ (hu.alloc _)).mono ?_
        rintro e w1 ⟨rfl, hb1⟩
        go_wp2_with fail
        go_roundw
        case rel => exact ⟨j + 1, by omega, by go_num, all_take_succ HX.out HD.out hok, by repeat (first | with_reducible exact Below.refl _ _ | with_reducible refine Below.setCell ?_ (by first | omega | (simp <;> omega)) _ | with_reducible refine Below.drew ?_ | with_reducible refine below_drewN ?_ _ | with_reducible refine Below.alloc ?_ (by first | omega | (simp <;> omega)) _ | with_reducible refine Below.trans ?_ (Below.mono (by assumption) (by first | omega | (simp <;> omega))))⟩
        case measure => simp [intOf]; omega
      · have hok' : f.ok = false := by simpa using hok
        have HF : Hid (kids.all Fm.ok = false) := List.all_eq_false.2 ⟨f, hmem, by rw [hok']; decide⟩
        clear hok
        go_wp2_with fail
        refine (IH.out f hmem _ _ (hu.alloc _)).mono ?_
        rintro e w1 ⟨rfl, hb1⟩
        go_wp2_with fail
        go_ret
        exact ⟨ret_bool HF.out.symm, by repeat (first | with_reducible exact Below.refl _ _ | with_reducible refine Below.setCell ?_ (by first | omega | (simp <;> omega)) _ | with_reducible refine Below.drew ?_ | with_reducible refine below_drewN ?_ _ | with_reducible refine Below.alloc ?_ (by first | omega | (simp <;> omega)) _ | with_reducible refine Below.trans ?_ (Below.mono (by assumption) (by first | omega | (simp <;> omega))))⟩
    · have HF : Hid (kids.all Fm.ok = true) := by
        have := HD.out
        rw [List.take_of_length_le (by omega)] at this
        exact List.all_eq_true.2 this
      go_wp2_with fail
      go_ret
      exact ⟨ret_bool HF.out.symm, hb⟩
set_option maxHeartbeats 1000000 in
theorem formulaOK_good6 (q : Int) (kids : List Fm) (ih : ∀ x ∈ kids, OkF x) (hl : (kids.length : Int) = 1) (hq1 : 0 ≤ q) (hq7 : q ≤ 7) (hq : (6 : Int) = 2 ∨ q = 0) (w : World) (v : Value) (h : At w Any (forms kids) v) :
    Calls Try.prog 45 #[.agg #[.int .i64 6, .int .i64 q, v]] w fun e w' => e = .returned (.bool (kids.all Fm.ok)) ∧ Below w.heap.size w w' := by
  obtain ⟨A, c, rfl, hn, hc⟩ := forms_slice h
  have IH := Lib.hid ih
  clear ih
  have hl' : ((kids.length : Int) != 1) = false := by rw [bne_eq_false_iff_eq]; exact hl
  have hq' : (q != 0) = false := by obtain rfl := hq.resolve_left (by decide); rfl
  clear hl hq
  go_enter Try.func45, Try.ntmps45
  go_wp2_with fail
  go_loopw [46] (fun i wr => ∃ j : Nat, j ≤ kids.length ∧ i = .int .i64 j ∧ (∀ x ∈ kids.take j, x.ok = true) ∧ Below w.heap.size w wr) (fun i _ => kids.length - (intOf i).toNat)
  case atStart => exact ⟨0, Nat.zero_le _, rfl, by simp, by repeat (first | with_reducible exact Below.refl _ _ | with_reducible refine Below.setCell ?_ (by first | omega | (simp <;> omega)) _ | with_reducible refine Below.drew ?_ | with_reducible refine below_drewN ?_ _ | with_reducible refine Below.alloc ?_ (by first | omega | (simp <;> omega)) _ | with_reducible refine Below.trans ?_ (Below.mono (by assumption) (by first | omega | (simp <;> omega))))⟩
  case round =>
    obtain ⟨j, hj, rfl, hd, hb⟩ := hrel
    have HD := Lib.hid hd
    clear hd
    by_cases hlt : j < kids.length
    · obtain ⟨b, off, f, u, rfl, _, hlb, hc1, hc2, hc3, hu, HX, _⟩ := forms_get (h.below hb) hlt
      obtain ⟨Au, cu, rfl, hnu, hcu⟩ := forms_slice hu
      have hmem := List.mem_of_getElem? HX.out
      have z := hb.size
      by_cases hok : f.ok = true
      · go_wp2_with fail
        refine (IH.out f hmem _ _ (hu.alloc _)).mono ?_
        rintro e w1 ⟨rfl, hb1⟩
        go_wp2_with fail
        go_roundw
        case rel => exact ⟨j + 1, by omega, by go_num, all_take_succ HX.out HD.out hok, by repeat (first | with_reducible exact Below.refl _ _ | with_reducible refine Below.setCell ?_ (by first | omega | (simp <;> omega)) _ | with_reducible refine Below.drew ?_ | with_reducible refine below_drewN ?_ _ | with_reducible refine Below.alloc ?_ (by first | omega | (simp <;> omega)) _ | with_reducible refine Below.trans ?_ (Below.mono (by assumption) (by first | omega | (simp <;> omega))))⟩
        case measure => simp [intOf]; omega
      · have hok' : f.ok = false := by simpa using hok
        have HF : Hid (kids.all Fm.ok = false) := List.all_eq_false.2 ⟨f, hmem, by rw [hok']; decide⟩
        clear hok
        go_wp2_with fail
        refine (IH.out f hmem _ _ (hu.alloc _)).mono ?_
        rintro e w1 ⟨rfl, hb1⟩
        go_wp2_with fail
        go_ret
        exact ⟨ret_bool HF.out.symm, by repeat (first | with_reducible exact Below.refl _ _ | with_reducible refine Below.setCell ?_ (by first | omega | (simp <;> omega)) _ | with_reducible refine Below.drew ?_ | with_reducible refine below_drewN ?_ _ | with_reducible refine Below.alloc ?_ (by first | omega | (simp <;> omega)) _ | with_reducible refine Below.trans ?_ (Below.mono (by assumption) (by first | omega | (simp <;> omega))))⟩
    · have HF : Hid (kids.all Fm.ok = true) := by
        have := HD.out
        rw [List.take_of_length_le (by omega)] at this
        exact List.all_eq_true.2 this
      go_wp2_with fail
      go_ret
      exact ⟨ret_bool HF.out.symm, hb⟩
set_option maxHeartbeats 1000000 in
theorem formulaOK_good7 (q : Int) (kids : List Fm) (ih : ∀ x ∈ kids, OkF x) (hl : (kids.length : Int) = 2) (hq1 : 0 ≤ q) (hq7 : q ≤ 7) (hq : (7 : Int) = 2 ∨ q = 0) (w : World) (v : Value) (h : At w Any (forms kids) v) :
    Calls Try.prog 45 #[.agg #[.int .i64 7, .int .i64 q, v]] w fun e w' => e = .returned (.bool (kids.all Fm.ok)) ∧ Below w.heap.size w w' := by
  obtain ⟨A, c, rfl, hn, hc⟩ := forms_slice h
  have IH := Lib.hid ih
  clear ih
  have hl' : ((kids.length : Int) != 2) = false := by rw [bne_eq_false_iff_eq]; exact hl
  have hq' : (q != 0) = false := by obtain rfl := hq.resolve_left (by decide); rfl
  clear hl hq
  go_enter Try.func45, Try.ntmps45
  go_wp2_with fail
  go_loopw [46] (fun i wr => ∃ j : Nat, j ≤ kids.length ∧ i = .int .i64 j ∧ (∀ x ∈ kids.take j, x.ok = true) ∧ Below w.heap.size w wr) (fun i _ => kids.length - (intOf i).toNat)
  case atStart => exact ⟨0, Nat.zero_le _, rfl, by simp, by repeat (first | with_reducible exact Below.refl _ _ | with_reducible refine Below.setCell ?_ (by first | omega | (simp <;> omega)) _ | with_reducible refine Below.drew ?_ | with_reducible refine below_drewN ?_ _ | with_reducible refine Below.alloc ?_ (by first | omega | (simp <;> omega)) _ | with_reducible refine Below.trans ?_ (Below.mono (by assumption) (by first | omega | (simp <;> omega))))⟩
  case round =>
    obtain ⟨j, hj, rfl, hd, hb⟩ := hrel
    have HD := Lib.hid hd
    clear hd
    by_cases hlt : j < kids.length
    · obtain ⟨b, off, f, u, rfl, _, hlb, hc1, hc2, hc3, hu, HX, _⟩ := forms_get (h.below hb) hlt
      obtain ⟨Au, cu, rfl, hnu, hcu⟩ := forms_slice hu
      have hmem := List.mem_of_getElem? HX.out
      have z := hb.size
      by_cases hok : f.ok = true
      · go_wp2_with fail
        refine (IH.out f hmem _ _ (hu.alloc _)).mono ?_
        rintro e w1 ⟨rfl, hb1⟩
        go_wp2_with fail
        go_roundw
        case rel => exact ⟨j + 1, by omega, by go_num, all_take_succ HX.out HD.out hok, by repeat (first | with_reducible exact Below.refl _ _ | with_reducible refine Below.setCell ?_ (by first | omega | (simp <;> omega)) _ | with_reducible refine Below.drew ?_ | with_reducible refine below_drewN ?_ _ | with_reducible refine Below.alloc ?_ (by first | omega | (simp <;> omega)) _ | with_reducible refine Below.trans ?_ (Below.mono (by assumption) (by first | omega | (simp <;> omega))))⟩
        case measure => simp [intOf]; omega
      · have hok' : f.ok = false := by simpa using hok
        have HF : Hid (kids.all Fm.ok = false) := List.all_eq_false.2 ⟨f, hmem, by rw [hok']; decide⟩
        clear hok
        go_wp2_with fail
        refine (IH.out f hmem _ _ (hu.alloc _)).mono ?_
        rintro e w1 ⟨rfl, hb1⟩
        go_wp2_with fail
        go_ret
        exact ⟨ret_bool HF.out.symm, by repeat (first | with_reducible exact Below.refl _ _ | with_reducible refine Below.setCell ?_ (by first | omega | (simp <;> omega)) _ | with_reducible refine Below.drew ?_ | with_reducible refine below_drewN ?_ _ | with_reducible refine Below.alloc ?_ (by first | omega | (simp <;> omega)) _ | with_reducible refine Below.trans ?_ (Below.mono (by assumption) (by first | omega | (simp <;> omega))))⟩
    · have HF : Hid (kids.all Fm.ok = true) := by
        have := HD.out
        rw [List.take_of_length_le (by omega)] at this
        exact List.all_eq_true.2 this
      go_wp2_with fail
      go_ret
      exact ⟨ret_bool HF.out.symm, hb⟩

set_option maxHeartbeats 1000000 in
theorem formulaOK_any (f : Fm) : OkF f := by
  induction f using Fm.induct with
  | h k q kids ih =>
    intro w v h
    rw [Fm.ok_eq]
    by_cases hok : okHead k q kids.length
    · obtain ⟨ha, q1, q7, hq⟩ := hok
      have e : decide (okHead k q kids.length) = true := decide_eq_true ⟨ha, q1, q7, hq⟩
      rw [e, Bool.true_and]
      have hk : 1 ≤ k ∧ k ≤ 7 := by unfold arity at ha; omega
      rcases kinds hk.1 hk.2 with rfl | rfl | rfl | rfl | rfl | rfl | rfl
      · exact formulaOK_good1 q kids ih ha.symm q1 q7 hq w v h
      · exact formulaOK_good2 q kids ih ha.symm q1 q7 hq w v h
      · exact formulaOK_good3 q kids ih ha.symm q1 q7 hq w v h
      · exact formulaOK_good4 q kids ih ha.symm q1 q7 hq w v h
      · exact formulaOK_good5 q kids ih ha.symm q1 q7 hq w v h
      · exact formulaOK_good6 q kids ih ha.symm q1 q7 hq w v h
      · exact formulaOK_good7 q kids ih ha.symm q1 q7 hq w v h
    · have e : decide (okHead k q kids.length) = false := decide_eq_false hok
      rw [e, Bool.false_and]
      exact formulaOK_bad k q kids hok w v h

set_option maxHeartbeats 1000000 in
theorem implIsFormula_any (f : Fm) (w : World) (v : Value) (h : At w Any (forms f.kids) v) (h1 : f.total ≤ 1048576) :
    Calls Try.prog 18 #[.agg #[.int .i64 f.kind, .int .i64 f.prop, v]] w fun e w' => e = .returned (.bool (isFormula f)) ∧ Below w.heap.size w w' := by
  obtain ⟨A, c, rfl, hn, hc⟩ := forms_slice h
  have hB0 := Blk.new w 38 #[.int .i64 f.kind, .int .i64 f.prop, .slice A f.kids.length c]
  by_cases hs : f.size ≤ 12
  · have HR : Hid (isFormula f = f.ok) := by show isFormula f = f.ok; unfold isFormula; rw [decide_eq_true hs, Bool.true_and]
    go_enter Try.func18, Try.ntmps18
    go_wp2_with fail
    refine (formulaSize_any f _ _ (h.alloc _) h1).mono ?_
    rintro e w1 ⟨rfl, hb1⟩
    have h2 := (h.alloc _).below hb1
    have hB1 := hB0.next hb1
    obtain ⟨_, _, _⟩ := hB1.c3
    go_wp2_with fail
    refine (formulaOK_any f _ _ h2).mono ?_
    rintro e w2 ⟨rfl, hb2⟩
    go_wp2_with fail
    go_ret
    exact ⟨ret_bool HR.out.symm, by have z := hb1.size; simp at z; repeat (first | with_reducible exact Below.refl _ _ | with_reducible refine Below.setCell ?_ (by first | omega | (simp <;> omega)) _ | with_reducible refine Below.drew ?_ | with_reducible refine below_drewN ?_ _ | with_reducible refine Below.alloc ?_ (by first | omega | (simp <;> omega)) _ | with_reducible refine Below.trans ?_ (Below.mono (by assumption) (by first | omega | (simp <;> omega))))⟩
  · have HR : Hid (isFormula f = false) := by show isFormula f = false; unfold isFormula; rw [decide_eq_false hs, Bool.false_and]
    go_enter Try.func18, Try.ntmps18
    go_wp2_with fail
    refine (formulaSize_any f _ _ (h.alloc _) h1).mono ?_
    rintro e w1 ⟨rfl, hb1⟩
    go_wp2_with fail
    go_ret
    exact ⟨ret_bool HR.out.symm, by repeat (first | with_reducible exact Below.refl _ _ | with_reducible refine Below.setCell ?_ (by first | omega | (simp <;> omega)) _ | with_reducible refine Below.drew ?_ | with_reducible refine below_drewN ?_ _ | with_reducible refine Below.alloc ?_ (by first | omega | (simp <;> omega)) _ | with_reducible refine Below.trans ?_ (Below.mono (by assumption) (by first | omega | (simp <;> omega))))⟩

end Go.Proofs.Ytagnfckihdlhpaa

/-
  What the program's IsRun answers.
-/
namespace Go.Proofs.Ytagnfckihdlhpaa
open Go.RowKit

/-- What is asked of place i of a run. -/
def stepOK (g : Gr) (xs : List Int) (back : Int) (i : Nat) : Prop :=
  xs.getD i 0 < g.states.length ∧ xs.getD (afterP xs.length back i).toNat 0 ∈ follow g (xs.getD i 0).toNat
instance (g : Gr) (xs : List Int) (back : Int) (i : Nat) : Decidable (stepOK g xs back i) := by unfold stepOK; infer_instance
def runOK (g : Gr) (xs : List Int) (back : Int) : Bool := decide (∀ i, i < xs.length → stepOK g xs back i)
def isRun (g : Gr) (xs : List Int) (back : Int) : Bool := isGraph g && isLasso xs back && decide (xs.getD 0 0 = 0) && runOK g xs back

theorem runOK_false {g : Gr} {xs : List Int} {back : Int} {i : Nat} (hi : i < xs.length) (h : ¬ stepOK g xs back i) : runOK g xs back = false := by
  simp only [runOK, decide_eq_false_iff_not]
  exact fun hh => h (hh i hi)
theorem runOK_true {g : Gr} {xs : List Int} {back : Int} (h : ∀ i, i < xs.length → stepOK g xs back i) : runOK g xs back = true := by simp only [runOK, decide_eq_true_eq]; exact h

theorem isGraph_edges {g : Gr} (h : isGraph g = true) : 1 ≤ g.states.length ∧ g.states.length ≤ 40 ∧ g.edges.length = g.states.length := by
  unfold isGraph at h
  rw [Bool.and_eq_true, decide_eq_true_eq] at h
  exact h.1
theorem isLasso_parts {xs : List Int} {back : Int} (h : isLasso xs back = true) : 1 ≤ xs.length ∧ xs.length ≤ 40 ∧ 0 ≤ back ∧ back < xs.length ∧ ∀ x ∈ xs, 0 ≤ x := by
  simpa [isLasso] using h
theorem afterP_range {n : Nat} {back : Int} {i : Nat} (h0 : 0 ≤ back) (h1 : back < n) : 0 ≤ afterP n back i ∧ afterP n back i < n := by
  unfold afterP
  split <;> omega

theorem run_step {p : Nat → Prop} {j : Nat} (h : ∀ m, m < j → p m) (h1 : p j) : ∀ m, m < j + 1 → p m := fun m hm => by
  by_cases e : m = j
  · subst e; exact h1
  · exact h m (by omega)

set_option maxHeartbeats 2000000 in
theorem implIsRun_good (g : Gr) (xs : List Int) (back : Int) (hg : isGraph g = true) (hl : isLasso xs back = true) (h0 : xs.getD 0 0 = 0) (w : World) (v u s : Value)
    (h : At w Any (terms g.states) v) (k : At w Any (rows g.edges) u) (l : At w Any (ints xs) s) :
    Calls Try.prog 30 #[.agg #[v, u, .bool g.whole], .agg #[s, .int .i64 back]] w fun e w' => e = .returned (.bool (runOK g xs back)) ∧ Below w.heap.size w w' := by
  obtain ⟨A, c, rfl, hn, hc⟩ := terms_slice h
  obtain ⟨E, d, rfl, hm, hd⟩ := rows_slice k
  obtain ⟨L, cl, rfl, hnl, hcl⟩ := ints_slice l
  obtain ⟨l1, l40, lb0, lb1, lpos⟩ := isLasso_parts hl
  obtain ⟨nb, rfl⟩ := Int.eq_ofNat_of_zero_le lb0
  obtain ⟨g1, g40, ge⟩ := isGraph_edges hg
  have HP := Lib.hid lpos
  have HGE := Lib.hid ge
  have hel : g.edges.length ≤ 40 := by omega
  clear lpos ge
  have hB0 := (Blk.new w 50 #[.slice A g.states.length c, .slice E g.edges.length d, .bool g.whole]).alloc (.cells #[.slice L xs.length cl, .int .i64 nb] 27)
  have hC0 := Blk.new (w.alloc (.cells #[.slice A g.states.length c, .slice E g.edges.length d, .bool g.whole] 50)) 27 #[.slice L xs.length cl, .int .i64 nb]
  rw [World.size_alloc] at hC0
  have H0 := Lib.hid h0
  clear h0
  go_enter Try.func30, Try.ntmps30
  go_wp2_with fail
  refine (implIsGraph_any g _ _ _ ((h.alloc _).alloc _) ((k.alloc _).alloc _)).mono ?_
  rintro e w1 ⟨rfl, hb1⟩
  have hB1 := hB0.next hb1
  have hC1 := hC0.next hb1
  obtain ⟨_, _⟩ := hC1.c2
  have h1 := ((h.alloc _).alloc _).below hb1
  have k1 := ((k.alloc _).alloc _).below hb1
  have l1' := ((l.alloc _).alloc _).below hb1
  go_wp2_with fail
  refine (implIsLasso_any xs nb _ Any _ l1').mono ?_
  rintro e w2 ⟨rfl, hb2⟩
  have hB2 := hB1.next hb2
  have hC2 := hC1.next hb2
  have h2 := h1.below hb2
  have k2 := k1.below hb2
  have l2 := l1'.below hb2
  obtain ⟨_, _⟩ := hC2.c2
  obtain ⟨bl, offl, x0, rfl, _, hlbl, cx0, HX0, _⟩ := ints_get l2 (k := 0) (by omega)
  have hx0 : x0 = 0 := by have := H0.out; rw [getD_of HX0.out] at this; exact this
  subst hx0
  rw [Nat.add_zero] at cx0
  have z1 := hb1.size
  have z2 := hb2.size
  simp at z1
  clear hB0 hC0 hB1 hC1 HX0
  go_wp2_with fail
  go_loopw [26] (fun t wr => ∃ i : Nat, i ≤ xs.length ∧ t = .int .i64 i ∧ (∀ m, m < i → stepOK g xs nb m) ∧ Below w2.heap.size w2 wr) (fun t _ => xs.length - (intOf t).toNat)
  case atStart => exact ⟨0, Nat.zero_le _, rfl, fun m hm => by omega, Below.refl _ _⟩
  case round =>
    obtain ⟨i, hi, rfl, hd, hb⟩ := hrel
    have HD := Lib.hid hd
    clear hd
    have hB := hB2.next hb
    have hC := hC2.next hb
    obtain ⟨q1, q2, q3⟩ := hB.c3
    obtain ⟨q4, q5⟩ := hC.c2
    have hr := h2.below hb
    have kr := k2.below hb
    have lr := l2.below hb
    have z := hb.size
    by_cases hlt : i < xs.length
    · obtain ⟨_, _, x, e1, _, _, cx, HX, _⟩ := ints_get lr hlt
      injection e1 with e1
      injection e1 with e1 e2
      subst e1 e2
      obtain ⟨nx, rfl⟩ := Int.eq_ofNat_of_zero_le (HP.out x (List.mem_of_getElem? HX.out))
      obtain ⟨a, ha⟩ : ∃ a : Nat, afterP xs.length nb i = a := Int.eq_ofNat_of_zero_le (afterP_range (by omega) (by omega)).1
      have ha1 : a < xs.length := by have := (afterP_range (n := xs.length) (back := nb) (i := i) (by omega) (by omega)).2; omega
      obtain ⟨_, _, y, e1, _, _, cy, HY, _⟩ := ints_get lr ha1
      injection e1 with e1
      injection e1 with e1 e2
      subst e1 e2
      have HA := Lib.hid ha
      clear ha
      have hst : stepOK g xs nb i ↔ (nx < g.states.length ∧ y ∈ follow g nx) := by
        unfold stepOK
        rw [HA.out, getD_of HX.out, Int.toNat_natCast, Int.toNat_natCast, getD_of HY.out]
        constructor
        · rintro ⟨p1, p2⟩; exact ⟨by omega, p2⟩
        · rintro ⟨p1, p2⟩; exact ⟨by omega, p2⟩
      have HS := Lib.hid hst
      clear hst
      have hcase : (i + 1 < xs.length ∧ a = i + 1) ∨ (¬ i + 1 < xs.length ∧ a = nb) := by
        have := HA.out
        unfold afterP at this
        split at this <;> omega
      by_cases hxl : nx < g.states.length
      · have hxe : nx < g.edges.length := by have := HGE.out; omega
        have hgd : decide (g.states.length ≤ nx) = false := by simp; omega
        have hia : (a : Int) < (xs.length : Int) := by omega
        have hr := hr.drew
        have kr := kr.drew
        rcases hcase with ⟨hi1, rfl⟩ | ⟨hi1, rfl⟩
        · have hia0 : (0 : Int) ≤ (i : Int) + 1 := by omega
          have hia1 : (i : Int) + 1 < (xs.length : Int) := by omega
          have hia2 : ((i : Int) + 1).toNat = i + 1 := by omega
          by_cases hmem : y ∈ follow g nx
          · have hmb := hasB_true hmem
            have HOK : Hid (stepOK g xs nb i) := HS.out.2 ⟨hxl, hmem⟩
            clear hmem
            go_wp2_with fail
            go_region_held3 (fun w' => w'.cell? ⟨w.heap.size, 0, none⟩ = some (.slice A g.states.length c) ∧ w'.cell? ⟨w.heap.size, 1, none⟩ = some (.slice E g.edges.length d) ∧ w'.cell? ⟨w.heap.size, 2, none⟩ = some (.bool g.whole) ∧
                w'.cell? ⟨w.heap.size + 1, 0, none⟩ = some (.slice (some ⟨bl, offl, none⟩) xs.length cl) ∧ w'.cell? ⟨bl, offl + (i + 1), none⟩ = some (.int .i64 y)) (go_keep)
              (first | (go_at_call 67; refine (followers_any g nx hxe _ _ _ ?_ ?_).mono ?_; (exact hr); (exact kr); rintro e w3 ⟨v3, rfl, ha3, hb3⟩; obtain ⟨A3, c3, rfl, hn3, hcc3⟩ := ints_slice ha3; obtain ⟨q1, q2, q3⟩ := (hB.drew.next hb3).c3; obtain ⟨q4, q5⟩ := (hC.drew.next hb3).c2; have cy := (hb3.cell (p := ⟨bl, offl + (i + 1), none⟩) (by show bl < wr.heap.size; omega)).trans cy) | (go_at_call 66; refine (slicesContains_any (follow g nx) y _ _ ?_).mono ?_; (exact ha3); rintro e w4 ⟨rfl, rfl⟩))
            go_wp2_with fail
            go_roundw
            case rel => exact ⟨i + 1, by omega, by go_num, run_step HD.out HOK.out, by have z3 := hb3.size; simp at z3; repeat (first | with_reducible exact Below.refl _ _ | with_reducible refine Below.setCell ?_ (by first | omega | (simp <;> omega)) _ | with_reducible refine Below.drew ?_ | with_reducible refine below_drewN ?_ _ | with_reducible refine Below.alloc ?_ (by first | omega | (simp <;> omega)) _ | with_reducible refine Below.trans ?_ (Below.mono (by assumption) (by first | omega | (simp <;> omega))))⟩
            case measure => simp [intOf]; omega
          · have hmb := hasB_false hmem
            have HF : Hid (runOK g xs nb = false) := runOK_false hlt (fun hh => hmem (HS.out.1 hh).2)
            clear hmem
            go_wp2_with fail
            go_region_held3 (fun w' => w'.cell? ⟨w.heap.size, 0, none⟩ = some (.slice A g.states.length c) ∧ w'.cell? ⟨w.heap.size, 1, none⟩ = some (.slice E g.edges.length d) ∧ w'.cell? ⟨w.heap.size, 2, none⟩ = some (.bool g.whole) ∧
                w'.cell? ⟨w.heap.size + 1, 0, none⟩ = some (.slice (some ⟨bl, offl, none⟩) xs.length cl) ∧ w'.cell? ⟨bl, offl + (i + 1), none⟩ = some (.int .i64 y)) (go_keep)
              (first | (go_at_call 67; refine (followers_any g nx hxe _ _ _ ?_ ?_).mono ?_; (exact hr); (exact kr); rintro e w3 ⟨v3, rfl, ha3, hb3⟩; obtain ⟨A3, c3, rfl, hn3, hcc3⟩ := ints_slice ha3; obtain ⟨q1, q2, q3⟩ := (hB.drew.next hb3).c3; obtain ⟨q4, q5⟩ := (hC.drew.next hb3).c2; have cy := (hb3.cell (p := ⟨bl, offl + (i + 1), none⟩) (by show bl < wr.heap.size; omega)).trans cy) | (go_at_call 66; refine (slicesContains_any (follow g nx) y _ _ ?_).mono ?_; (exact ha3); rintro e w4 ⟨rfl, rfl⟩))
            go_wp2_with fail
            go_ret
            exact ⟨ret_bool HF.out.symm, by have z3 := hb3.size; simp at z3; repeat (first | with_reducible exact Below.refl _ _ | with_reducible refine Below.setCell ?_ (by first | omega | (simp <;> omega)) _ | with_reducible refine Below.drew ?_ | with_reducible refine below_drewN ?_ _ | with_reducible refine Below.alloc ?_ (by first | omega | (simp <;> omega)) _ | with_reducible refine Below.trans ?_ (Below.mono (by assumption) (by first | omega | (simp <;> omega))))⟩
        · by_cases hmem : y ∈ follow g nx
          · have hmb := hasB_true hmem
            have HOK : Hid (stepOK g xs a i) := HS.out.2 ⟨hxl, hmem⟩
            clear hmem
            go_wp2_with fail
            go_region_held3 (fun w' => w'.cell? ⟨w.heap.size, 0, none⟩ = some (.slice A g.states.length c) ∧ w'.cell? ⟨w.heap.size, 1, none⟩ = some (.slice E g.edges.length d) ∧ w'.cell? ⟨w.heap.size, 2, none⟩ = some (.bool g.whole) ∧
                w'.cell? ⟨w.heap.size + 1, 0, none⟩ = some (.slice (some ⟨bl, offl, none⟩) xs.length cl) ∧ w'.cell? ⟨bl, offl + a, none⟩ = some (.int .i64 y)) (go_keep)
              (first | (go_at_call 67; refine (followers_any g nx hxe _ _ _ ?_ ?_).mono ?_; (exact hr); (exact kr); rintro e w3 ⟨v3, rfl, ha3, hb3⟩; obtain ⟨A3, c3, rfl, hn3, hcc3⟩ := ints_slice ha3; obtain ⟨q1, q2, q3⟩ := (hB.drew.next hb3).c3; obtain ⟨q4, q5⟩ := (hC.drew.next hb3).c2; have cy := (hb3.cell (p := ⟨bl, offl + a, none⟩) (by show bl < wr.heap.size; omega)).trans cy) | (go_at_call 66; refine (slicesContains_any (follow g nx) y _ _ ?_).mono ?_; (exact ha3); rintro e w4 ⟨rfl, rfl⟩))
            go_wp2_with fail
            go_roundw
            case rel => exact ⟨i + 1, by omega, by go_num, run_step HD.out HOK.out, by have z3 := hb3.size; simp at z3; repeat (first | with_reducible exact Below.refl _ _ | with_reducible refine Below.setCell ?_ (by first | omega | (simp <;> omega)) _ | with_reducible refine Below.drew ?_ | with_reducible refine below_drewN ?_ _ | with_reducible refine Below.alloc ?_ (by first | omega | (simp <;> omega)) _ | with_reducible refine Below.trans ?_ (Below.mono (by assumption) (by first | omega | (simp <;> omega))))⟩
            case measure => simp [intOf]; omega
          · have hmb := hasB_false hmem
            have HF : Hid (runOK g xs a = false) := runOK_false hlt (fun hh => hmem (HS.out.1 hh).2)
            clear hmem
            go_wp2_with fail
            go_region_held3 (fun w' => w'.cell? ⟨w.heap.size, 0, none⟩ = some (.slice A g.states.length c) ∧ w'.cell? ⟨w.heap.size, 1, none⟩ = some (.slice E g.edges.length d) ∧ w'.cell? ⟨w.heap.size, 2, none⟩ = some (.bool g.whole) ∧
                w'.cell? ⟨w.heap.size + 1, 0, none⟩ = some (.slice (some ⟨bl, offl, none⟩) xs.length cl) ∧ w'.cell? ⟨bl, offl + a, none⟩ = some (.int .i64 y)) (go_keep)
              (first | (go_at_call 67; refine (followers_any g nx hxe _ _ _ ?_ ?_).mono ?_; (exact hr); (exact kr); rintro e w3 ⟨v3, rfl, ha3, hb3⟩; obtain ⟨A3, c3, rfl, hn3, hcc3⟩ := ints_slice ha3; obtain ⟨q1, q2, q3⟩ := (hB.drew.next hb3).c3; obtain ⟨q4, q5⟩ := (hC.drew.next hb3).c2; have cy := (hb3.cell (p := ⟨bl, offl + a, none⟩) (by show bl < wr.heap.size; omega)).trans cy) | (go_at_call 66; refine (slicesContains_any (follow g nx) y _ _ ?_).mono ?_; (exact ha3); rintro e w4 ⟨rfl, rfl⟩))
            go_wp2_with fail
            go_ret
            exact ⟨ret_bool HF.out.symm, by have z3 := hb3.size; simp at z3; repeat (first | with_reducible exact Below.refl _ _ | with_reducible refine Below.setCell ?_ (by first | omega | (simp <;> omega)) _ | with_reducible refine Below.drew ?_ | with_reducible refine below_drewN ?_ _ | with_reducible refine Below.alloc ?_ (by first | omega | (simp <;> omega)) _ | with_reducible refine Below.trans ?_ (Below.mono (by assumption) (by first | omega | (simp <;> omega))))⟩
      · have HF : Hid (runOK g xs nb = false) := runOK_false hlt (fun hh => hxl (HS.out.1 hh).1)
        have hgd : decide (g.states.length ≤ nx) = true := by simp; omega
        rcases hcase with ⟨hi1, rfl⟩ | ⟨hi1, rfl⟩
        · go_wp2_with fail
          go_quiet (fail)
          go_wp2_with fail
          go_ret
          exact ⟨ret_bool HF.out.symm, by repeat (first | with_reducible exact Below.refl _ _ | with_reducible refine Below.setCell ?_ (by first | omega | (simp <;> omega)) _ | with_reducible refine Below.drew ?_ | with_reducible refine below_drewN ?_ _ | with_reducible refine Below.alloc ?_ (by first | omega | (simp <;> omega)) _ | with_reducible refine Below.trans ?_ (Below.mono (by assumption) (by first | omega | (simp <;> omega))))⟩
        · go_wp2_with fail
          go_quiet (fail)
          go_wp2_with fail
          go_ret
          exact ⟨ret_bool HF.out.symm, by repeat (first | with_reducible exact Below.refl _ _ | with_reducible refine Below.setCell ?_ (by first | omega | (simp <;> omega)) _ | with_reducible refine Below.drew ?_ | with_reducible refine below_drewN ?_ _ | with_reducible refine Below.alloc ?_ (by first | omega | (simp <;> omega)) _ | with_reducible refine Below.trans ?_ (Below.mono (by assumption) (by first | omega | (simp <;> omega))))⟩
    · have HF : Hid (runOK g xs nb = true) := runOK_true (fun m hm => HD.out m (by omega))
      go_wp2_with fail
      go_ret
      exact ⟨ret_bool HF.out.symm, by repeat (first | with_reducible exact Below.refl _ _ | with_reducible refine Below.setCell ?_ (by first | omega | (simp <;> omega)) _ | with_reducible refine Below.drew ?_ | with_reducible refine below_drewN ?_ _ | with_reducible refine Below.alloc ?_ (by first | omega | (simp <;> omega)) _ | with_reducible refine Below.trans ?_ (Below.mono (by assumption) (by first | omega | (simp <;> omega))))⟩

end Go.Proofs.Ytagnfckihdlhpaa

/-
  What the reference's l31Places computes; labels; HoldsOn of the program and of the reference.
-/
namespace Go.Proofs.Ytagnfckihdlhpaa
open Go.RowKit

theorem l31Places_any (xs : List Int) (back : Nat) (ls : List Int) (hl : LassoOK xs back ls) (f : Fm) : PlacesG xs back ls f := by
  induction f using Fm.induct with
  | h k q kids ih =>
    intro w v s lv h l m hok
    obtain ⟨⟨ha, q0, q7, _⟩, hkok⟩ := ok_parts hok
    have hk : 1 ≤ k ∧ k ≤ 7 := by unfold arity at ha; omega
    rcases kinds hk.1 hk.2 with rfl | rfl | rfl | rfl | rfl | rfl | rfl
    · exact l31Places_1 xs back ls hl q kids (by have : arity 1 = 0 := rfl; omega) hkok ih q0 q7 w v s lv h l m
    · exact l31Places_2 xs back ls hl q kids (by have : arity 2 = 0 := rfl; omega) hkok ih q0 q7 w v s lv h l m
    · exact l31Places_3 xs back ls hl q kids (by have : arity 3 = 1 := rfl; omega) hkok ih q0 q7 w v s lv h l m
    · exact l31Places_4 xs back ls hl q kids (by have : arity 4 = 2 := rfl; omega) hkok ih q0 q7 w v s lv h l m
    · exact l31Places_5 xs back ls hl q kids (by have : arity 5 = 2 := rfl; omega) hkok ih q0 q7 w v s lv h l m
    · exact l31Places_6 xs back ls hl q kids (by have : arity 6 = 1 := rfl; omega) hkok ih q0 q7 w v s lv h l m
    · exact l31Places_7 xs back ls hl q kids (by have : arity 7 = 2 := rfl; omega) hkok ih q0 q7 w v s lv h l m

def isLabels (ls : List Int) : Bool := decide (∀ l ∈ ls, 0 ≤ l ∧ l ≤ 255)
theorem isLabels_all {ls : List Int} (h : isLabels ls = true) : ∀ y ∈ ls, 0 ≤ y ∧ y ≤ 255 := by
  unfold isLabels at h
  exact of_decide_eq_true h
def inLabels (xs ls : List Int) : Bool := decide (∀ x ∈ xs, x < ls.length)
/-- What HoldsOn asks first. -/
def holdsPre (f : Fm) (xs : List Int) (back : Int) (ls : List Int) : Bool := isFormula f && isLasso xs back && isLabels ls
def holdsOn (f : Fm) (xs : List Int) (back : Int) (ls : List Int) : Bool := holdsPre f xs back ls && inLabels xs ls && Fm.hold xs.length back.toNat (labAt xs ls) f 0

set_option maxHeartbeats 400000 in
theorem labelsOK_any (ls : List Int) (w : World) (v : Value) (h : At w Any (ints ls) v) :
    Calls Try.prog 59 #[v] w fun e w' => e = .returned (.bool (isLabels ls)) ∧ w = w' := by
  obtain ⟨A, c, rfl, hn, hc⟩ := ints_slice h
  go_enter Try.func59, Try.ntmps59
  go_wp2_with fail
  go_loop [7] (fun i => ∃ k : Nat, k ≤ ls.length ∧ i = .int .i64 k ∧ ∀ y ∈ ls.take k, 0 ≤ y ∧ y ≤ 255) (fun i => ls.length - (intOf i).toNat)
  case atStart => exact ⟨0, Nat.zero_le _, rfl, by simp⟩
  case round =>
    obtain ⟨k, hk, rfl, hd⟩ := hrel
    have HD := Lib.hid hd
    clear hd
    by_cases hlt : k < ls.length
    · obtain ⟨b, off, y, rfl, _, hlb, c1, HY, _⟩ := ints_get h hlt
      by_cases hy : 0 ≤ y ∧ y ≤ 255
      · obtain ⟨hy0, hy1⟩ := hy
        go_wp2_with fail
        go_round
        case rel => exact ⟨k + 1, by omega, by go_num, all_take_succ HY.out HD.out ⟨by omega, by omega⟩⟩
        case measure => simp [intOf]; omega
      · have HF : Hid (isLabels ls = false) := by
          show isLabels ls = false
          simp only [isLabels, decide_eq_false_iff_not]
          exact fun hh => hy (hh y (List.mem_of_getElem? HY.out))
        have hcase : y < 0 ∨ (0 ≤ y ∧ 255 < y) := by omega
        clear hy
        rcases hcase with hy | ⟨hy, hy2⟩
        · go_wp2_with fail
          go_ret
          exact ⟨ret_bool HF.out.symm, rfl⟩
        · go_wp2_with fail
          go_ret
          exact ⟨ret_bool HF.out.symm, rfl⟩
    · have HF : Hid (isLabels ls = true) := by
        show isLabels ls = true
        have := HD.out
        rw [List.take_of_length_le (by omega)] at this
        simp only [isLabels, decide_eq_true_eq]
        exact this
      go_wp2_with fail
      go_ret
      exact ⟨ret_bool HF.out.symm, rfl⟩

set_option maxHeartbeats 400000 in
theorem l31Labels_any (ls : List Int) (w : World) (v : Value) (h : At w Any (ints ls) v) :
    Calls Try.prog 61 #[v] w fun e w' => e = .returned (.bool (isLabels ls)) ∧ w = w' := by
  obtain ⟨A, c, rfl, hn, hc⟩ := ints_slice h
  go_enter Try.func61, Try.ntmps61
  go_wp2_with fail
  go_loop [3] (fun i => ∃ k : Nat, k ≤ ls.length ∧ i = .int .i64 k ∧ ∀ y ∈ ls.take k, 0 ≤ y ∧ y ≤ 255) (fun i => ls.length - (intOf i).toNat)
  case atStart => exact ⟨0, Nat.zero_le _, rfl, by simp⟩
  case round =>
    obtain ⟨k, hk, rfl, hd⟩ := hrel
    have HD := Lib.hid hd
    clear hd
    by_cases hlt : k < ls.length
    · obtain ⟨b, off, y, rfl, _, hlb, c1, HY, _⟩ := ints_get h hlt
      by_cases hy : 0 ≤ y ∧ y ≤ 255
      · have hin : inB y 0 255 = true := inB_true.2 hy
        go_wp2_with fail
        refine (l1In_any _ _ _ _).mono ?_
        rintro e w' ⟨rfl, rfl⟩
        go_wp2_with fail
        go_round
        case rel => exact ⟨k + 1, by omega, by go_num, all_take_succ HY.out HD.out (inB_true.1 hin)⟩
        case measure => simp [intOf]; omega
      · have HF : Hid (isLabels ls = false) := by
          show isLabels ls = false
          simp only [isLabels, decide_eq_false_iff_not]
          exact fun hh => hy (hh y (List.mem_of_getElem? HY.out))
        have hin : inB y 0 255 = false := inB_false.2 hy
        clear hy
        go_wp2_with fail
        refine (l1In_any _ _ _ _).mono ?_
        rintro e w' ⟨rfl, rfl⟩
        go_wp2_with fail
        go_ret
        exact ⟨ret_bool HF.out.symm, rfl⟩
    · have HF : Hid (isLabels ls = true) := by
        show isLabels ls = true
        have := HD.out
        rw [List.take_of_length_le (by omega)] at this
        simp only [isLabels, decide_eq_true_eq]
        exact this
      go_wp2_with fail
      go_ret
      exact ⟨ret_bool HF.out.symm, rfl⟩

end Go.Proofs.Ytagnfckihdlhpaa

/-
  What HoldsOn answers, in the program and in the reference.
-/
namespace Go.Proofs.Ytagnfckihdlhpaa
open Go.RowKit

set_option maxHeartbeats 2000000 in
theorem implHoldsOn_any (f : Fm) (xs : List Int) (back : Int) (ls : List Int) (_hft : f.total ≤ 1048576) (w : World) (v s lv : Value) (h : At w Any (forms f.kids) v) (l : At w Any (ints xs) s) (m : At w Any (ints ls) lv) :
    Calls Try.prog 27 #[.agg #[.int .i64 f.kind, .int .i64 f.prop, v], .agg #[s, .int .i64 back], lv] w fun e w' => e = .returned (.bool (holdsOn f xs back ls)) ∧ Below w.heap.size w w' := by
  obtain ⟨A, c, rfl, hn, hc⟩ := forms_slice h
  obtain ⟨L, d, rfl, hnl, hcl⟩ := ints_slice l
  obtain ⟨M, e, rfl, hnm, hcm⟩ := ints_slice m
  have hB0 := (Blk.new w 38 #[.int .i64 f.kind, .int .i64 f.prop, .slice A f.kids.length c]).alloc (.cells #[.slice L xs.length d, .int .i64 back] 27)
  have hC0 := Blk.new (w.alloc (.cells #[.int .i64 f.kind, .int .i64 f.prop, .slice A f.kids.length c] 38)) 27 #[.slice L xs.length d, .int .i64 back]
  rw [World.size_alloc] at hC0
  have h0 := (h.alloc (.cells #[.int .i64 f.kind, .int .i64 f.prop, .slice A f.kids.length c] 38)).alloc (.cells #[.slice L xs.length d, .int .i64 back] 27)
  have l0 := (l.alloc (.cells #[.int .i64 f.kind, .int .i64 f.prop, .slice A f.kids.length c] 38)).alloc (.cells #[.slice L xs.length d, .int .i64 back] 27)
  have m0 := (m.alloc (.cells #[.int .i64 f.kind, .int .i64 f.prop, .slice A f.kids.length c] 38)).alloc (.cells #[.slice L xs.length d, .int .i64 back] 27)
  by_cases hf : isFormula f = true
  · by_cases hls : isLasso xs back = true
    · by_cases hlb : isLabels ls = true
      · go_enter Try.func27, Try.ntmps27
        go_wp2_with fail
        refine (implIsFormula_any f _ _ h0 _hft).mono ?_
        rintro e w1 ⟨rfl, hb1⟩
        have hB1 := hB0.next hb1
        have hC1 := hC0.next hb1
        have h1 := h0.below hb1
        have l1 := l0.below hb1
        have m1 := m0.below hb1
        obtain ⟨_, _⟩ := hC1.c2
        go_wp2_with fail
        refine (implIsLasso_any xs back _ Any _ l1).mono ?_
        rintro e w2 ⟨rfl, hb2⟩
        have hB2 := hB1.next hb2
        have hC2 := hC1.next hb2
        have h2 := h1.below hb2
        have l2 := l1.below hb2
        have m2 := m1.below hb2
        go_wp2_with fail
        refine (labelsOK_any ls _ _ m2).mono ?_
        rintro e w3 ⟨rfl, rfl⟩
        obtain ⟨q1, q2, q3⟩ := hB2.c3
        obtain ⟨q4, q5⟩ := hC2.c2
        have z1 := hb1.size
        have z2 := hb2.size
        simp at z1
        obtain ⟨lp, l40, lb0, lb1, lpos⟩ := isLasso_parts hls
        obtain ⟨nb, rfl⟩ := Int.eq_ofNat_of_zero_le lb0
        have HLP := Lib.hid lpos
        have HLB := Lib.hid (isLabels_all hlb)
        have HFO : Hid (f.ok = true) := by
          show f.ok = true
          unfold isFormula at hf
          rw [Bool.and_eq_true] at hf
          exact hf.2
        have HH : Hid (holdsPre f xs nb ls = true) := by show holdsPre f xs nb ls = true; unfold holdsPre; rw [hf, hls, hlb]; rfl
        clear lpos hB0 hC0 hB1 hC1
        go_wp2_with fail
        go_loop [25] (fun t => ∃ i : Nat, i ≤ xs.length ∧ t = .int .i64 i ∧ ∀ x ∈ xs.take i, x < ls.length) (fun t => xs.length - (intOf t).toNat)
        case atStart => exact ⟨0, Nat.zero_le _, rfl, by simp⟩
        case round =>
          obtain ⟨i, hi, rfl, hd⟩ := hrel
          have HD := Lib.hid hd
          clear hd
          by_cases hlt : i < xs.length
          · obtain ⟨bl, ol, x, rfl, _, hll, cx, HX, _⟩ := ints_get l2 hlt
            by_cases hx : x < ls.length
            · go_wp2_with fail
              go_round
              case rel => exact ⟨i + 1, by omega, by go_num, all_take_succ HX.out HD.out (by omega)⟩
              case measure => simp [intOf]; omega
            · have HF : Hid (holdsOn f xs nb ls = false) := by
                show holdsOn f xs nb ls = false
                have : inLabels xs ls = false := by
                  simp only [inLabels, decide_eq_false_iff_not]
                  exact fun hh => hx (hh x (List.mem_of_getElem? HX.out))
                unfold holdsOn
                rw [HH.out, this]
                rfl
              go_wp2_with fail
              go_ret
              exact ⟨ret_bool HF.out.symm, by repeat (first | with_reducible exact Below.refl _ _ | with_reducible refine Below.setCell ?_ (by first | omega | (simp <;> omega)) _ | with_reducible refine Below.drew ?_ | with_reducible refine below_drewN ?_ _ | with_reducible refine Below.alloc ?_ (by first | omega | (simp <;> omega)) _ | with_reducible refine Below.trans ?_ (Below.mono (by assumption) (by first | omega | (simp <;> omega))))⟩
          · have hall : ∀ x ∈ xs, x < ls.length := by have := HD.out; rwa [List.take_of_length_le (by omega)] at this
            have hok : LassoOK xs nb ls := ⟨lp, l40, by omega, fun x hx => ⟨HLP.out x hx, hall x hx⟩, HLB.out⟩
            have HR : Hid (holdsOn f xs nb ls = Fm.hold xs.length nb (labAt xs ls) f 0) := by
              show holdsOn f xs nb ls = _
              have : inLabels xs ls = true := by simp only [inLabels, decide_eq_true_eq]; exact hall
              unfold holdsOn
              rw [HH.out, this]
              rfl
            clear hall
            go_wp2_with fail
            refine (places_any xs nb ls hok f _ _ _ _ h2 l2 m2 HFO.out).mono ?_
            rintro e w5 ⟨v5, rfl, ha, hb5⟩
            obtain ⟨A5, c5, rfl, hn5, hc5⟩ := bools_slice ha
            obtain ⟨b5, o5, x5, rfl, _, hlb5, cx5, HX5⟩ := bools_get ha (k := 0) (by rw [holdL_len]; omega)
            rw [Nat.add_zero] at cx5
            have hlen : 1 ≤ (holdL xs.length nb (labAt xs ls) f).length := by rw [holdL_len]; omega
            have HE : Hid (x5 = Fm.hold xs.length nb (labAt xs ls) f 0) := holdL_at HX5.out
            go_wp2_with fail
            go_ret
            exact ⟨ret_bool (by rw [HR.out]; exact HE.out), by repeat (first | with_reducible exact Below.refl _ _ | with_reducible refine Below.setCell ?_ (by first | omega | (simp <;> omega)) _ | with_reducible refine Below.drew ?_ | with_reducible refine below_drewN ?_ _ | with_reducible refine Below.alloc ?_ (by first | omega | (simp <;> omega)) _ | with_reducible refine Below.trans ?_ (Below.mono (by assumption) (by first | omega | (simp <;> omega))))⟩
      · have hlb' : isLabels ls = false := by simpa using hlb
        have HF : Hid (holdsOn f xs back ls = false) := by show holdsOn f xs back ls = false; unfold holdsOn holdsPre; rw [hf, hls, hlb']; rfl
        clear hlb
        go_enter Try.func27, Try.ntmps27
        go_wp2_with fail
        refine (implIsFormula_any f _ _ h0 _hft).mono ?_
        rintro e w1 ⟨rfl, hb1⟩
        have hC1 := hC0.next hb1
        have l1 := l0.below hb1
        have m1 := m0.below hb1
        obtain ⟨_, _⟩ := hC1.c2
        go_wp2_with fail
        refine (implIsLasso_any xs back _ Any _ l1).mono ?_
        rintro e w2 ⟨rfl, hb2⟩
        have m2 := m1.below hb2
        go_wp2_with fail
        refine (labelsOK_any ls _ _ m2).mono ?_
        rintro e w3 ⟨rfl, rfl⟩
        have z1 := hb1.size
        simp at z1
        go_wp2_with fail
        go_ret
        exact ⟨ret_bool HF.out.symm, by repeat (first | with_reducible exact Below.refl _ _ | with_reducible refine Below.setCell ?_ (by first | omega | (simp <;> omega)) _ | with_reducible refine Below.drew ?_ | with_reducible refine below_drewN ?_ _ | with_reducible refine Below.alloc ?_ (by first | omega | (simp <;> omega)) _ | with_reducible refine Below.trans ?_ (Below.mono (by assumption) (by first | omega | (simp <;> omega))))⟩
    · have hls' : isLasso xs back = false := by simpa using hls
      have HF : Hid (holdsOn f xs back ls = false) := by show holdsOn f xs back ls = false; unfold holdsOn holdsPre; rw [hf, hls']; rfl
      clear hls
      go_enter Try.func27, Try.ntmps27
      go_wp2_with fail
      refine (implIsFormula_any f _ _ h0 _hft).mono ?_
      rintro e w1 ⟨rfl, hb1⟩
      have hC1 := hC0.next hb1
      have l1 := l0.below hb1
      obtain ⟨_, _⟩ := hC1.c2
      go_wp2_with fail
      refine (implIsLasso_any xs back _ Any _ l1).mono ?_
      rintro e w2 ⟨rfl, hb2⟩
      have z1 := hb1.size
      simp at z1
      go_wp2_with fail
      go_ret
      exact ⟨ret_bool HF.out.symm, by repeat (first | with_reducible exact Below.refl _ _ | with_reducible refine Below.setCell ?_ (by first | omega | (simp <;> omega)) _ | with_reducible refine Below.drew ?_ | with_reducible refine below_drewN ?_ _ | with_reducible refine Below.alloc ?_ (by first | omega | (simp <;> omega)) _ | with_reducible refine Below.trans ?_ (Below.mono (by assumption) (by first | omega | (simp <;> omega))))⟩
  · have hf' : isFormula f = false := by simpa using hf
    have HF : Hid (holdsOn f xs back ls = false) := by show holdsOn f xs back ls = false; unfold holdsOn holdsPre; rw [hf']; rfl
    clear hf
    go_enter Try.func27, Try.ntmps27
    go_wp2_with fail
    refine (implIsFormula_any f _ _ h0 _hft).mono ?_
    rintro e w1 ⟨rfl, hb1⟩
    go_wp2_with fail
    go_ret
    exact ⟨ret_bool HF.out.symm, by repeat (first | with_reducible exact Below.refl _ _ | with_reducible refine Below.setCell ?_ (by first | omega | (simp <;> omega)) _ | with_reducible refine Below.drew ?_ | with_reducible refine below_drewN ?_ _ | with_reducible refine Below.alloc ?_ (by first | omega | (simp <;> omega)) _ | with_reducible refine Below.trans ?_ (Below.mono (by assumption) (by first | omega | (simp <;> omega))))⟩

set_option maxHeartbeats 2000000 in
theorem specHoldsOn_any (f : Fm) (xs : List Int) (back : Int) (ls : List Int) (_hft : f.total ≤ 1048576) (w : World) (v s lv : Value) (h : At w Any (forms f.kids) v) (l : At w Any (ints xs) s) (m : At w Any (ints ls) lv) :
    Calls Try.prog 28 #[.agg #[.int .i64 f.kind, .int .i64 f.prop, v], .agg #[s, .int .i64 back], lv] w fun e w' => e = .returned (.bool (holdsOn f xs back ls)) ∧ Below w.heap.size w w' := by
  obtain ⟨A, c, rfl, hn, hc⟩ := forms_slice h
  obtain ⟨L, d, rfl, hnl, hcl⟩ := ints_slice l
  obtain ⟨M, e, rfl, hnm, hcm⟩ := ints_slice m
  have hB0 := (Blk.new w 38 #[.int .i64 f.kind, .int .i64 f.prop, .slice A f.kids.length c]).alloc (.cells #[.slice L xs.length d, .int .i64 back] 27)
  have hC0 := Blk.new (w.alloc (.cells #[.int .i64 f.kind, .int .i64 f.prop, .slice A f.kids.length c] 38)) 27 #[.slice L xs.length d, .int .i64 back]
  rw [World.size_alloc] at hC0
  have h0 := (h.alloc (.cells #[.int .i64 f.kind, .int .i64 f.prop, .slice A f.kids.length c] 38)).alloc (.cells #[.slice L xs.length d, .int .i64 back] 27)
  have l0 := (l.alloc (.cells #[.int .i64 f.kind, .int .i64 f.prop, .slice A f.kids.length c] 38)).alloc (.cells #[.slice L xs.length d, .int .i64 back] 27)
  have m0 := (m.alloc (.cells #[.int .i64 f.kind, .int .i64 f.prop, .slice A f.kids.length c] 38)).alloc (.cells #[.slice L xs.length d, .int .i64 back] 27)
  by_cases hf : isFormula f = true
  · by_cases hls : isLasso xs back = true
    · by_cases hlb : isLabels ls = true
      · go_enter Try.func28, Try.ntmps28
        go_wp2_with fail
        refine (specIsFormula_any f _ _ h0).mono ?_
        rintro e w1 ⟨rfl, hb1⟩
        have hB1 := hB0.next hb1
        have hC1 := hC0.next hb1
        have h1 := h0.below hb1
        have l1 := l0.below hb1
        have m1 := m0.below hb1
        obtain ⟨_, _⟩ := hC1.c2
        go_wp2_with fail
        refine (specIsLasso_any xs back _ Any _ l1).mono ?_
        rintro e w2 ⟨rfl, hb2⟩
        have hB2 := hB1.next hb2
        have hC2 := hC1.next hb2
        have h2 := h1.below hb2
        have l2 := l1.below hb2
        have m2 := m1.below hb2
        go_wp2_with fail
        refine (l31Labels_any ls _ _ m2).mono ?_
        rintro e w3 ⟨rfl, rfl⟩
        obtain ⟨q1, q2, q3⟩ := hB2.c3
        obtain ⟨q4, q5⟩ := hC2.c2
        have z1 := hb1.size
        have z2 := hb2.size
        simp at z1
        obtain ⟨lp, l40, lb0, lb1, lpos⟩ := isLasso_parts hls
        obtain ⟨nb, rfl⟩ := Int.eq_ofNat_of_zero_le lb0
        have HLP := Lib.hid lpos
        have HLB := Lib.hid (isLabels_all hlb)
        have HFO : Hid (f.ok = true) := by
          show f.ok = true
          unfold isFormula at hf
          rw [Bool.and_eq_true] at hf
          exact hf.2
        have HH : Hid (holdsPre f xs nb ls = true) := by show holdsPre f xs nb ls = true; unfold holdsPre; rw [hf, hls, hlb]; rfl
        clear lpos hB0 hC0 hB1 hC1
        go_wp2_with fail
        go_loop [7] (fun t => ∃ i : Nat, i ≤ xs.length ∧ t = .int .i64 i ∧ ∀ x ∈ xs.take i, x < ls.length) (fun t => xs.length - (intOf t).toNat)
        case atStart => exact ⟨0, Nat.zero_le _, rfl, by simp⟩
        case round =>
          obtain ⟨i, hi, rfl, hd⟩ := hrel
          have HD := Lib.hid hd
          clear hd
          by_cases hlt : i < xs.length
          · obtain ⟨bl, ol, x, rfl, _, hll, cx, HX, _⟩ := ints_get l2 hlt
            by_cases hx : x < ls.length
            · go_wp2_with fail
              go_round
              case rel => exact ⟨i + 1, by omega, by go_num, all_take_succ HX.out HD.out (by omega)⟩
              case measure => simp [intOf]; omega
            · have HF : Hid (holdsOn f xs nb ls = false) := by
                show holdsOn f xs nb ls = false
                have : inLabels xs ls = false := by
                  simp only [inLabels, decide_eq_false_iff_not]
                  exact fun hh => hx (hh x (List.mem_of_getElem? HX.out))
                unfold holdsOn
                rw [HH.out, this]
                rfl
              go_wp2_with fail
              go_ret
              exact ⟨ret_bool HF.out.symm, by repeat (first | with_reducible exact Below.refl _ _ | with_reducible refine Below.setCell ?_ (by first | omega | (simp <;> omega)) _ | with_reducible refine Below.drew ?_ | with_reducible refine below_drewN ?_ _ | with_reducible refine Below.alloc ?_ (by first | omega | (simp <;> omega)) _ | with_reducible refine Below.trans ?_ (Below.mono (by assumption) (by first | omega | (simp <;> omega))))⟩
          · have hall : ∀ x ∈ xs, x < ls.length := by have := HD.out; rwa [List.take_of_length_le (by omega)] at this
            have hok : LassoOK xs nb ls := ⟨lp, l40, by omega, fun x hx => ⟨HLP.out x hx, hall x hx⟩, HLB.out⟩
            have HR : Hid (holdsOn f xs nb ls = Fm.hold xs.length nb (labAt xs ls) f 0) := by
              show holdsOn f xs nb ls = _
              have : inLabels xs ls = true := by simp only [inLabels, decide_eq_true_eq]; exact hall
              unfold holdsOn
              rw [HH.out, this]
              rfl
            clear hall
            go_wp2_with fail
            refine (l31Places_any xs nb ls hok f _ _ _ _ h2 l2 m2 HFO.out).mono ?_
            rintro e w5 ⟨v5, rfl, ha, hb5⟩
            obtain ⟨A5, c5, rfl, hn5, hc5⟩ := bools_slice ha
            obtain ⟨b5, o5, x5, rfl, _, hlb5, cx5, HX5⟩ := bools_get ha (k := 0) (by rw [holdL_len]; omega)
            rw [Nat.add_zero] at cx5
            have hlen : 1 ≤ (holdL xs.length nb (labAt xs ls) f).length := by rw [holdL_len]; omega
            have HE : Hid (x5 = Fm.hold xs.length nb (labAt xs ls) f 0) := holdL_at HX5.out
            go_wp2_with fail
            go_ret
            exact ⟨ret_bool (by rw [HR.out]; exact HE.out), by repeat (first | with_reducible exact Below.refl _ _ | with_reducible refine Below.setCell ?_ (by first | omega | (simp <;> omega)) _ | with_reducible refine Below.drew ?_ | with_reducible refine below_drewN ?_ _ | with_reducible refine Below.alloc ?_ (by first | omega | (simp <;> omega)) _ | with_reducible refine Below.trans ?_ (Below.mono (by assumption) (by first | omega | (simp <;> omega))))⟩
      · have hlb' : isLabels ls = false := by simpa using hlb
        have HF : Hid (holdsOn f xs back ls = false) := by show holdsOn f xs back ls = false; unfold holdsOn holdsPre; rw [hf, hls, hlb']; rfl
        clear hlb
        go_enter Try.func28, Try.ntmps28
        go_wp2_with fail
        refine (specIsFormula_any f _ _ h0).mono ?_
        rintro e w1 ⟨rfl, hb1⟩
        have hC1 := hC0.next hb1
        have l1 := l0.below hb1
        have m1 := m0.below hb1
        obtain ⟨_, _⟩ := hC1.c2
        go_wp2_with fail
        refine (specIsLasso_any xs back _ Any _ l1).mono ?_
        rintro e w2 ⟨rfl, hb2⟩
        have m2 := m1.below hb2
        go_wp2_with fail
        refine (l31Labels_any ls _ _ m2).mono ?_
        rintro e w3 ⟨rfl, rfl⟩
        have z1 := hb1.size
        simp at z1
        go_wp2_with fail
        go_ret
        exact ⟨ret_bool HF.out.symm, by repeat (first | with_reducible exact Below.refl _ _ | with_reducible refine Below.setCell ?_ (by first | omega | (simp <;> omega)) _ | with_reducible refine Below.drew ?_ | with_reducible refine below_drewN ?_ _ | with_reducible refine Below.alloc ?_ (by first | omega | (simp <;> omega)) _ | with_reducible refine Below.trans ?_ (Below.mono (by assumption) (by first | omega | (simp <;> omega))))⟩
    · have hls' : isLasso xs back = false := by simpa using hls
      have HF : Hid (holdsOn f xs back ls = false) := by show holdsOn f xs back ls = false; unfold holdsOn holdsPre; rw [hf, hls']; rfl
      clear hls
      go_enter Try.func28, Try.ntmps28
      go_wp2_with fail
      refine (specIsFormula_any f _ _ h0).mono ?_
      rintro e w1 ⟨rfl, hb1⟩
      have hC1 := hC0.next hb1
      have l1 := l0.below hb1
      obtain ⟨_, _⟩ := hC1.c2
      go_wp2_with fail
      refine (specIsLasso_any xs back _ Any _ l1).mono ?_
      rintro e w2 ⟨rfl, hb2⟩
      have z1 := hb1.size
      simp at z1
      go_wp2_with fail
      go_ret
      exact ⟨ret_bool HF.out.symm, by repeat (first | with_reducible exact Below.refl _ _ | with_reducible refine Below.setCell ?_ (by first | omega | (simp <;> omega)) _ | with_reducible refine Below.drew ?_ | with_reducible refine below_drewN ?_ _ | with_reducible refine Below.alloc ?_ (by first | omega | (simp <;> omega)) _ | with_reducible refine Below.trans ?_ (Below.mono (by assumption) (by first | omega | (simp <;> omega))))⟩
  · have hf' : isFormula f = false := by simpa using hf
    have HF : Hid (holdsOn f xs back ls = false) := by show holdsOn f xs back ls = false; unfold holdsOn holdsPre; rw [hf']; rfl
    clear hf
    go_enter Try.func28, Try.ntmps28
    go_wp2_with fail
    refine (specIsFormula_any f _ _ h0).mono ?_
    rintro e w1 ⟨rfl, hb1⟩
    go_wp2_with fail
    go_ret
    exact ⟨ret_bool HF.out.symm, by repeat (first | with_reducible exact Below.refl _ _ | with_reducible refine Below.setCell ?_ (by first | omega | (simp <;> omega)) _ | with_reducible refine Below.drew ?_ | with_reducible refine below_drewN ?_ _ | with_reducible refine Below.alloc ?_ (by first | omega | (simp <;> omega)) _ | with_reducible refine Below.trans ?_ (Below.mono (by assumption) (by first | omega | (simp <;> omega))))⟩

end Go.Proofs.Ytagnfckihdlhpaa

/-
  Contracts by memory as contracts of den: HoldsOn, IsFormula, IsLasso.
-/
namespace Go.Proofs.Ytagnfckihdlhpaa.Abs
open Go.RowKit

theorem VR.atRow {I : Nat → Prop} {w : World} {ι : List Inf} {s : Nat} {es : List (List V)} {c : Value} {cs : List D} (h : VR I w ι (.imm s es) c) (hlen : cs.length = es.length * s)
    (hel : ∀ (k j : Nat) (hk : k < es.length) (hj : j < es[k].length) (u : Value), VR I w [] es[k][j] u → ∃ d, cs[k * s + j]? = some d ∧ At w Any d u) : At w Any (.row es.length cs) c := by
  cases h with
  | imm0 hc => exact at_row.2 ⟨_, _, rfl, Nat.zero_le _, hc, fun hp => by simp at hlen; simp [hlen] at hp⟩
  | @imm _ _ b off c _ f hs hc hm hI hcell hr =>
    refine at_row.2 ⟨_, _, rfl, hc, hm, fun hp => ⟨b, off, rfl, trivial, fun p hp => ?_⟩⟩
    have hs0 : 0 < s := by
      rcases Nat.eq_zero_or_pos s with e | e
      · subst e; simp at hlen; simp [hlen] at hp
      · exact e
    have hk : p / s < es.length := by rw [Nat.div_lt_iff_lt_mul hs0]; omega
    have hj : p % s < s := Nat.mod_lt _ hs0
    have hl := hs es[p / s] (List.getElem_mem hk)
    have he : p / s * s + p % s = p := by rw [Nat.mul_comm]; exact Nat.div_add_mod p s
    have h1 := hcell (p / s) (p % s) hk hj
    obtain ⟨d, h2, h3⟩ := hel (p / s) (p % s) hk (by rw [hl]; exact hj) _ (hr (p / s) hk (p % s) (by rw [hl]; exact hj))
    rw [he] at h1 h2
    rw [List.getElem?_eq_getElem hp] at h2
    cases h2
    exact ⟨_, h1, h3⟩
theorem VR.litInt {I : Nat → Prop} {w : World} {ι : List Inf} {k : IntKind} {x : Int} {u : Value} (h : VR I w ι (.lit (.int k x)) u) : At w Any (.lit (.int k x)) u := by
  cases h with
  | lit h => exact at_lit.2 ⟨rfl, h⟩
/-- The heap's objects are kept where nothing old changes. -/
theorem HR.below {ι : List Inf} {I : Nat → Prop} {w w' : World} {h : Heap} (hh : HR ι I w h) (hI : ∀ b, I b → b < w.heap.size) (hb : Below w.heap.size w w') : HR ι I w' h :=
  have hk : Keeps I I w w' := ⟨fun _ h => h, fun b o hb' => hb.cell (p := ⟨b, o, none⟩) (hI b hb')⟩
  { len := hh.len
    obj := fun id o inf h1 h2 => (hh.obj id o inf h1 h2).keep (Grows.refl _) hk (hb.block _ (hh.blk h1 h2))
    off := hh.off
    inj := hh.inj }
/-- A contract by memory: a plain answer, nothing old changed. -/
theorem fn_of_below {P : Program} {f : FuncId} {xs : List AV} {h : Heap} {u : Value} (hc : callable P f) (hu : okLit u)
    (hh : ∀ (w : World) (I : Nat → Prop) (ι : List Inf) (cs : Array Value), (∀ b, I b → b < w.heap.size) → ARs ι I w xs cs → Calls P f cs w fun e w' => e = .returned u ∧ Below w.heap.size w w') : Fn P f xs h (fun r h' => r = .one (.lit u) ∧ h' = h) :=
  ⟨hc, fun w I ι cs hH hI hA => (hh w I ι cs hI hA).mono fun _ _ ⟨e1, hb⟩ => ⟨_, _, ι, I, u, ⟨rfl, rfl⟩, e1,
    { res := .one (.lit hu)
      heap := hH.below hI hb
      imm := fun b hb' => Nat.lt_of_lt_of_le (hI b hb') hb.size
      immlo := fun b hb' => .inl hb'
      pre := Grows.refl _
      os := hb.os
      tape := hb.tape
      output := hb.output
      grown := hb.size
      frame := fun b hlt _ => hb.block b hlt
      mine := fun id o inf h1 h2 => .inl ⟨id, o, inf, h1, h2, rfl⟩ }⟩⟩
theorem args1 {ι : List Inf} {I : Nat → Prop} {w : World} {x : AV} {cs : Array Value} (h : ARs ι I w [x] cs) : ∃ a, cs = #[a] ∧ AR ι I w x a := by
  obtain ⟨h1, h2⟩ := h
  obtain ⟨a, e, r⟩ := h2 0 (by simp)
  refine ⟨a, ?_, r⟩
  rcases cs with ⟨l⟩
  match l, h1 with
  | [b], _ => simp at e; subst e; rfl
theorem args3 {ι : List Inf} {I : Nat → Prop} {w : World} {x y z : AV} {cs : Array Value} (h : ARs ι I w [x, y, z] cs) : ∃ a b c, cs = #[a, b, c] ∧ AR ι I w x a ∧ AR ι I w y b ∧ AR ι I w z c := by
  obtain ⟨h1, h2⟩ := h
  obtain ⟨a, e, r⟩ := h2 0 (by simp)
  obtain ⟨b, e', r'⟩ := h2 1 (by simp)
  obtain ⟨c, e'', r''⟩ := h2 2 (by simp)
  refine ⟨a, b, c, ?_, r, r', r''⟩
  rcases cs with ⟨l⟩
  match l, h1 with
  | [p, q, s], _ => simp at e e' e''; subst e e' e''; rfl
end Go.Proofs.Ytagnfckihdlhpaa.Abs
namespace Go.Proofs.Ytagnfckihdlhpaa.Den
open Go.RowKit
open Abs (V AV Env Heap ar)

section
variable {P : Program} {ρ : Rho} {H : List Ob} {I' : Nat → Prop} {w : World} {ι : List Abs.Inf}

theorem FR.ints_ {xs : List Int} {v : V} {u : Value} (h : FR (.l .i xs) v) (hv : Abs.VR I' w ι v u) : At w Any (ints xs) u := by
  cases h with
  | @l _ _ es hp hl hs hr =>
    have hl : es.length = @List.length Int xs := hl
    have := Abs.VR.atRow (cs := xs.map fun x => D.lit (.int .i64 x)) hv (by simp [szT, hl]) fun k j hk hj u hu => ?_
    · unfold ints
      rw [hl] at this
      exact this
    · have hl1 := hs _ (List.getElem_mem hk)
      simp only [szT] at hl1
      obtain rfl : j = 0 := by omega
      have hk' : k < xs.length := by omega
      have := hr k hk' hk 0 (by simp [explode]) hj
      simp only [explode, List.getElem_cons_zero] at this
      cases hc : es[k][0] with
      | _ => rw [hc] at this hu; cases this; try exact ⟨_, by simp only [szT, Nat.mul_one, Nat.add_zero]; rw [List.getElem?_map, List.getElem?_eq_getElem hk']; rfl, hu.litInt⟩
theorem FR.forms_ (f : Fm) : ∀ {ι : List Abs.Inf} {v : V} {u : Value}, FR (.l (.n 2) f.kids) v → Abs.VR I' w ι v u → At w Any (forms f.kids) u := by
  induction f using Fm.induct with
  | h k q kids ih =>
    intro ι v u h hv
    cases h with
    | @l _ _ es hp hl hs hr =>
      have hl : es.length = @List.length Fm kids := hl
      have := Abs.VR.atRow (cs := kids.flatMap Fm.cells) hv (by rw [flat_len _ 3 Fm.cells_len]; simp [szT, hl]) fun k j hk hj u hu => ?_
      · unfold Go.Proofs.Ytagnfckihdlhpaa.forms
        rw [hl] at this
        exact this
      · have hl1 := hs _ (List.getElem_mem hk)
        simp only [szT] at hl1
        have hk' : k < kids.length := by omega
        have hat : (kids.flatMap Fm.cells)[k * szT (.n 2) + j]? = (Fm.cells kids[k])[j]? := by
          show (kids.flatMap Fm.cells)[k * 3 + j]? = _
          rw [flat_at _ 3 Fm.cells_len _ _ _ (by omega), List.getElem?_eq_getElem hk']; rfl
        rw [hat]
        have fr := hr k hk' hk j (by simp [explode]; omega) hj
        have h3 : j = 0 ∨ j = 1 ∨ j = 2 := by omega
        rcases h3 with rfl | rfl | rfl
        · simp only [explode, List.getElem_cons_zero] at fr
          cases hc : es[k][0] with
          | _ => rw [hc] at fr hu; cases fr; try exact ⟨_, rfl, hu.litInt⟩
        · simp only [explode, List.getElem_cons_zero, List.getElem_cons_succ] at fr
          cases hc : es[k][1] with
          | _ => rw [hc] at fr hu; cases fr; try exact ⟨_, rfl, hu.litInt⟩
        · simp only [explode, List.getElem_cons_zero, List.getElem_cons_succ] at fr
          exact ⟨_, rfl, by rw [Fm.d_eq]; exact ih _ (List.getElem_mem hk') fr hu⟩

theorem CR.litI {x : Int} {v : V} {u : Value} (h : CR ρ H (.i x) v) (hv : Abs.VR I' w ι v u) : u = .int .i64 x := by
  cases h.int
  exact (at_lit.1 hv.litInt).1
theorem CR.toFR {T : Ty} {xs : List (I T)} {v : V} (h : CR ρ H (.l T xs) v) : FR (.l T xs) v := by
  cases h with
  | fl h => exact h
theorem at_ints {xs : List Int} {av : AV} {c : Value} (h : ATR ρ H (.one (.l .i xs)) av) (hv : Abs.AR ι I' w av c) : At w Any (ints xs) c := by
  cases h with
  | one h => cases hv with | one hv => exact h.toFR.ints_ hv
theorem at_form {k q : Int} {kids : List Fm} {av : AV} {c : Value} (h : ATR ρ H (.agg [.i k, .i q, .l (.n 2) kids]) av) (hv : Abs.AR ι I' w av c) : ∃ u, c = .agg #[.int .i64 k, .int .i64 q, u] ∧ At w Any (forms kids) u := by
  cases h with
  | agg h =>
    obtain ⟨v0, vs, rfl, k0, h⟩ := h.head
    obtain ⟨v1, vs, rfl, k1, h⟩ := h.head
    obtain ⟨v2, vs, rfl, k2, h⟩ := h.head
    obtain rfl : vs = [] := by have := h.1; simpa using this.symm
    cases hv with
    | @agg _ cs g hl hcs hr =>
      have r0 := hr 0 (by simp)
      have r1 := hr 1 (by simp)
      have r2 := hr 2 (by simp)
      have c0 := hcs 0 (by simp)
      have c1 := hcs 1 (by simp)
      have c2 := hcs 2 (by simp)
      simp only [List.getElem_cons_zero, List.getElem_cons_succ] at r0 r1 r2
      refine ⟨g 2, ?_, FR.forms_ ⟨k, q, kids⟩ k2.toFR r2⟩
      rcases cs with ⟨l⟩
      match l, hl with
      | [p, q, s], _ =>
        simp at c0 c1 c2
        rw [c0, c1, c2, k0.litI r0, k1.litI r1]
theorem at_lasso {xs : List Int} {back : Int} {av : AV} {c : Value} (h : ATR ρ H (.agg [.l .i xs, .i back]) av) (hv : Abs.AR ι I' w av c) : ∃ u, c = .agg #[u, .int .i64 back] ∧ At w Any (ints xs) u := by
  cases h with
  | agg h =>
    obtain ⟨v0, vs, rfl, k0, h⟩ := h.head
    obtain ⟨v1, vs, rfl, k1, h⟩ := h.head
    obtain rfl : vs = [] := by have := h.1; simpa using this.symm
    cases hv with
    | @agg _ cs g hl hcs hr =>
      have r0 := hr 0 (by simp)
      have r1 := hr 1 (by simp)
      have c0 := hcs 0 (by simp)
      have c1 := hcs 1 (by simp)
      simp only [List.getElem_cons_zero, List.getElem_cons_succ] at r0 r1
      refine ⟨g 0, ?_, k0.toFR.ints_ r0⟩
      rcases cs with ⟨l⟩
      match l, hl with
      | [p, q], _ =>
        simp at c0 c1
        rw [c0, c1, k1.litI r1]

/-- A plain answer, nothing old changed. -/
theorem cfn_of_below {f : FuncId} {xs : List AT} {b : Bool} (hc : Abs.callable P f)
    (hh : ∀ (avs : List AV), ATRs [] [] xs avs → ∀ (w : World) (I : Nat → Prop) (ι : List Abs.Inf) (cs : Array Value), Abs.ARs ι I w avs cs → Calls P f cs w fun e w' => e = .returned (.bool b) ∧ Below w.heap.size w w') : CFn P f xs [] (.one (.b b)) [] := fun ρ h avs hp ha => by
  have hρ : ρ = [] := List.eq_nil_of_length_eq_zero hp.len
  subst hρ
  exact (Abs.fn_of_below (u := .bool b) hc trivial fun w I ι cs _ hA => hh avs ha w I ι cs hA).mono fun r h' ⟨e1, e2⟩ => ⟨[], by rw [e1]; exact .one (.fl .b), HpR.nil_, by rw [e2]; exact Fr.refl _ _ _⟩
end

theorem i_HoldsOn_ok : EntOK Try.prog (i_HoldsOn.ent fun f l ls => if f.total ≤ 1048576 then some (holdsOn f l.states l.back ls) else none) := fun R xs H K r hc => by
  simp only [i_HoldsOn.ent] at hc
  split at hc
  · rename_i k q kids xs back ls
    obtain ⟨b, q1, q2⟩ := bind_some hc
    split at q1
    · rename_i ht
      cases q1
      refine ⟨_, _, q2, cfn_of_below ⟨_, Try.func27, rfl, rfl⟩ fun avs ha w I ι cs hA => ?_⟩
      obtain ⟨a0, avs, rfl, k0, ha⟩ := ha.head
      obtain ⟨a1, avs, rfl, k1, ha⟩ := ha.head
      obtain ⟨a2, avs, rfl, k2, ha⟩ := ha.head
      obtain rfl : avs = [] := by have := ha.1; simpa using this.symm
      obtain ⟨c0, c1, c2, rfl, h0, h1, h2⟩ := Abs.args3 hA
      obtain ⟨u0, rfl, m0⟩ := at_form k0 h0
      obtain ⟨u1, rfl, m1⟩ := at_lasso k1 h1
      exact implHoldsOn_any ⟨k, q, kids⟩ xs back ls ht w u0 u1 c2 m0 m1 (at_ints k2 h2)
    · cases q1
  · cases hc
theorem s_HoldsOn_ok : EntOK Try.prog (s_HoldsOn.ent fun f l ls => if f.total ≤ 1048576 then some (holdsOn f l.states l.back ls) else none) := fun R xs H K r hc => by
  simp only [s_HoldsOn.ent] at hc
  split at hc
  · rename_i k q kids xs back ls
    obtain ⟨b, q1, q2⟩ := bind_some hc
    split at q1
    · rename_i ht
      cases q1
      refine ⟨_, _, q2, cfn_of_below ⟨_, Try.func28, rfl, rfl⟩ fun avs ha w I ι cs hA => ?_⟩
      obtain ⟨a0, avs, rfl, k0, ha⟩ := ha.head
      obtain ⟨a1, avs, rfl, k1, ha⟩ := ha.head
      obtain ⟨a2, avs, rfl, k2, ha⟩ := ha.head
      obtain rfl : avs = [] := by have := ha.1; simpa using this.symm
      obtain ⟨c0, c1, c2, rfl, h0, h1, h2⟩ := Abs.args3 hA
      obtain ⟨u0, rfl, m0⟩ := at_form k0 h0
      obtain ⟨u1, rfl, m1⟩ := at_lasso k1 h1
      exact specHoldsOn_any ⟨k, q, kids⟩ xs back ls ht w u0 u1 c2 m0 m1 (at_ints k2 h2)
    · cases q1
  · cases hc
theorem i_IsFormula_ok : EntOK Try.prog (i_IsFormula.ent fun f => if f.total ≤ 1048576 then some (isFormula f) else none) := fun R xs H K r hc => by
  simp only [i_IsFormula.ent] at hc
  split at hc
  · rename_i k q kids
    obtain ⟨b, q1, q2⟩ := bind_some hc
    split at q1
    · rename_i ht
      cases q1
      refine ⟨_, _, q2, cfn_of_below ⟨_, Try.func18, rfl, rfl⟩ fun avs ha w I ι cs hA => ?_⟩
      obtain ⟨a0, avs, rfl, k0, ha⟩ := ha.head
      obtain rfl : avs = [] := by have := ha.1; simpa using this.symm
      obtain ⟨c0, rfl, h0⟩ := Abs.args1 hA
      obtain ⟨u0, rfl, m0⟩ := at_form k0 h0
      exact implIsFormula_any ⟨k, q, kids⟩ w u0 m0 ht
    · cases q1
  · cases hc
theorem s_IsFormula_ok : EntOK Try.prog (s_IsFormula.ent fun f => some (isFormula f)) := fun R xs H K r hc => by
  simp only [s_IsFormula.ent] at hc
  split at hc
  · rename_i k q kids
    obtain ⟨b, q1, q2⟩ := bind_some hc
    cases q1
    refine ⟨_, _, q2, cfn_of_below ⟨_, Try.func16, rfl, rfl⟩ fun avs ha w I ι cs hA => ?_⟩
    obtain ⟨a0, avs, rfl, k0, ha⟩ := ha.head
    obtain rfl : avs = [] := by have := ha.1; simpa using this.symm
    obtain ⟨c0, rfl, h0⟩ := Abs.args1 hA
    obtain ⟨u0, rfl, m0⟩ := at_form k0 h0
    exact specIsFormula_any ⟨k, q, kids⟩ w u0 m0
  · cases hc
theorem s_IsLasso_ok : EntOK Try.prog (s_IsLasso.ent fun l => some (isLasso l.states l.back)) := fun R xs H K r hc => by
  simp only [s_IsLasso.ent] at hc
  split at hc
  · rename_i xs back
    obtain ⟨b, q1, q2⟩ := bind_some hc
    cases q1
    refine ⟨_, _, q2, cfn_of_below ⟨_, Try.func11, rfl, rfl⟩ fun avs ha w I ι cs hA => ?_⟩
    obtain ⟨a0, avs, rfl, k0, ha⟩ := ha.head
    obtain rfl : avs = [] := by have := ha.1; simpa using this.symm
    obtain ⟨c0, rfl, h0⟩ := Abs.args1 hA
    obtain ⟨u0, rfl, m0⟩ := at_lasso k0 h0
    exact specIsLasso_any xs back w Any u0 m0
  · cases hc
end Go.Proofs.Ytagnfckihdlhpaa.Den

/-
  The program's formulaOK at nodes that are right; formulaOK and IsFormula of the program.
-/
import Derived.Test.YtagnfckihdlhpaaFormBadI
namespace Go.Proofs.Ytagnfckihdlhpaa
open Go.RowKit

set_option maxHeartbeats 1000000 in
theorem formulaOK_good1 (q : Int) (kids : List Fm) (ih : ∀ x ∈ kids, OkF x) (hl : (kids.length : Int) = 0) (hq1 : 0 ≤ q) (hq7 : q ≤ 7) (hq : (1 : Int) = 2 ∨ q = 0) (w : World) (v : Value) (h : At w Any (forms kids) v) :
    Calls Try.prog 45 #[.agg #[.int .i64 1, .int .i64 q, v]] w fun e w' => e = .returned (.bool (kids.all Fm.ok)) ∧ Below w.heap.size w w' := by
  obtain ⟨A, c, rfl, hn, hc⟩ := forms_slice h
  have IH := Lib.hid ih
  clear ih
  have hl' : ((kids.length : Int) != 0) = false := by rw [bne_eq_false_iff_eq]; exact hl
  have hq' : (q != 0) = false := by obtain rfl := hq.resolve_left (by decide); rfl
  clear hl hq
  go_enter Try.func45, Try.ntmps45
  go_wp2_with fail
  go_loopw [46] (fun i wr => ∃ j : Nat, j ≤ kids.length ∧ i = .int .i64 j ∧ (∀ x ∈ kids.take j, x.ok = true) ∧ Below w.heap.size w wr) (fun i _ => kids.length - (intOf i).toNat)
  case atStart => exact ⟨0, Nat.zero_le _, rfl, by simp, by repeat (first | with_reducible exact Below.refl _ _ | with_reducible refine Below.setCell ?_ (by first | omega | (simp <;> omega)) _ | with_reducible refine Below.drew ?_ | with_reducible refine below_drewN ?_ _ | with_reducible refine Below.alloc ?_ (by first | omega | (simp <;> omega)) _ | with_reducible refine Below.trans ?_ (Below.mono (by assumption) (by first | omega | (simp <;> omega))))⟩
  case round =>
    obtain ⟨j, hj, rfl, hd, hb⟩ := hrel
    have HD := Lib.hid hd
    clear hd
    by_cases hlt : j < kids.length
    · obtain ⟨b, off, f, u, rfl, _, hlb, hc1, hc2, hc3, hu, HX, _⟩ := forms_get (h.below hb) hlt
      obtain ⟨Au, cu, rfl, hnu, hcu⟩ := forms_slice hu
      have hmem := List.mem_of_getElem? HX.out
      have z := hb.size
      by_cases hok : f.ok = true
      · go_wp2_with fail
        refine (IH.out f hmem _ _ (hu.alloc _)).mono ?_
        rintro e w1 ⟨rfl, hb1⟩
        go_wp2_with fail
        go_roundw
        case rel => exact ⟨j + 1, by omega, by go_num, all_take_succ HX.out HD.out hok, by repeat (first | with_reducible exact Below.refl _ _ | with_reducible refine Below.setCell ?_ (by first | omega | (simp <;> omega)) _ | with_reducible refine Below.drew ?_ | with_reducible refine below_drewN ?_ _ | with_reducible refine Below.alloc ?_ (by first | omega | (simp <;> omega)) _ | with_reducible refine Below.trans ?_ (Below.mono (by assumption) (by first | omega | (simp <;> omega))))⟩
        case measure => simp [intOf]; omega
      · have hok' : f.ok = false := by simpa using hok
        have HF : Hid (kids.all Fm.ok = false) := List.all_eq_false.2 ⟨f, hmem, by rw [hok']; decide⟩
        clear hok
        go_wp2_with fail
        refine (IH.out f hmem _ _ (hu.alloc _)).mono ?_
        rintro e w1 ⟨rfl, hb1⟩
        go_wp2_with fail
        go_ret
        exact ⟨ret_bool HF.out.symm, by repeat (first | with_reducible exact Below.refl _ _ | with_reducible refine Below.setCell ?_ (by first | omega | (simp <;> omega)) _ | with_reducible refine Below.drew ?_ | with_reducible refine below_drewN ?_ _ | with_reducible refine Below.alloc ?_ (by first | omega | (simp <;> omega)) _ | with_reducible refine Below.trans ?_ (Below.mono (by assumption) (by first | omega | (simp <;> omega))))⟩
    · have HF : Hid (kids.all Fm.ok = true) := by
        have := HD.out
        rw [List.take_of_length_le (by omega)] at this
        exact List.all_eq_true.2 this
      go_wp2_with fail
      go_ret
      exact ⟨ret_bool HF.out.symm, hb⟩
set_option maxHeartbeats 1000000 in
theorem formulaOK_good2 (q : Int) (kids : List Fm) (ih : ∀ x ∈ kids, OkF x) (hl : (kids.length : Int) = 0) (hq1 : 0 ≤ q) (hq7 : q ≤ 7) (hq : (2 : Int) = 2 ∨ q = 0) (w : World) (v : Value) (h : At w Any (forms kids) v) :
    Calls Try.prog 45 #[.agg #[.int .i64 2, .int .i64 q, v]] w fun e w' => e = .returned (.bool (kids.all Fm.ok)) ∧ Below w.heap.size w w' := by
  obtain ⟨A, c, rfl, hn, hc⟩ := forms_slice h
  have IH := Lib.hid ih
  clear ih
  have hl' : ((kids.length : Int) != 0) = false := by rw [bne_eq_false_iff_eq]; exact hl
  have _t := hq
  clear hl hq
  go_enter Try.func45, Try.ntmps45
  go_wp2_with fail
  go_loopw [46] (fun i wr => ∃ j : Nat, j ≤ kids.length ∧ i = .int .i64 j ∧ (∀ x ∈ kids.take j, x.ok = true) ∧ Below w.heap.size w wr) (fun i _ => kids.length - (intOf i).toNat)
  case atStart => exact ⟨0, Nat.zero_le _, rfl, by simp, by repeat (first | with_reducible exact Below.refl _ _ | with_reducible refine Below.setCell ?_ (by first | omega | (simp <;> omega)) _ | with_reducible refine Below.drew ?_ | with_reducible refine below_drewN ?_ _ | with_reducible refine Below.alloc ?_ (by first | omega | (simp <;> omega)) _ | with_reducible refine Below.trans ?_ (Below.mono (by assumption) (by first | omega | (simp <;> omega))))⟩
  case round =>
    obtain ⟨j, hj, rfl, hd, hb⟩ := hrel
    have HD := Lib.hid hd
    clear hd
    by_cases hlt : j < kids.length
    · obtain ⟨b, off, f, u, rfl, _, hlb, hc1, hc2, hc3, hu, HX, _⟩ := forms_get (h.below hb) hlt
      obtain ⟨Au, cu, rfl, hnu, hcu⟩ := forms_slice hu
      have hmem := List.mem_of_getElem? HX.out
      have z := hb.size
      by_cases hok : f.ok = true
      · go_wp2_with fail
        refine (IH.out f hmem _ _ (hu.alloc _)).mono ?_
        rintro e w1 ⟨rfl, hb1⟩
        go_wp2_with fail
        go_roundw
        case rel => exact ⟨j + 1, by omega, by go_num, all_take_succ HX.out HD.out hok, by repeat (first | with_reducible exact Below.refl _ _ | with_reducible refine Below.setCell ?_ (by first | omega | (simp <;> omega)) _ | with_reducible refine Below.drew ?_ | with_reducible refine below_drewN ?_ _ | with_reducible refine Below.alloc ?_ (by first | omega | (simp <;> omega)) _ | with_reducible refine Below.trans ?_ (Below.mono (by assumption) (by first | omega | (simp <;> omega))))⟩
        case measure => simp [intOf]; omega
      · have hok' : f.ok = false := by simpa using hok
        have HF : Hid (kids.all Fm.ok = false) := List.all_eq_false.2 ⟨f, hmem, by rw [hok']; decide⟩
        clear hok
        go_wp2_with fail
        refine (IH.out f hmem _ _ (hu.alloc _)).mono ?_
        rintro e w1 ⟨rfl, hb1⟩
        go_wp2_with fail
        go_ret
        exact ⟨ret_bool HF.out.symm, by repeat (first | with_reducible exact Below.refl _ _ | with_reducible refine Below.setCell ?_ (by first | omega | (simp <;> omega)) _ | with_reducible refine Below.drew ?_ | with_reducible refine below_drewN ?_ _ | with_reducible refine Below.alloc ?_ (by first | omega | (simp <;> omega)) _ | with_reducible refine Below.trans ?_ (Below.mono (by assumption) (by first | omega | (simp <;> omega))))⟩
    · have HF : Hid (kids.all Fm.ok = true) := by
        have := HD.out
        rw [List.take_of_length_le (by omega)] at this
        exact List.all_eq_true.2 this
      go_wp2_with fail
      go_ret
      exact ⟨ret_bool HF.out.symm, hb⟩
set_option maxHeartbeats 1000000 in
theorem formulaOK_good3 (q : Int) (kids : List Fm) (ih : ∀ x ∈ kids, OkF x) (hl : (kids.length : Int) = 1) (hq1 : 0 ≤ q) (hq7 : q ≤ 7) (hq : (3 : Int) = 2 ∨ q = 0) (w : World) (v : Value) (h : At w Any (forms kids) v) :
    Calls Try.prog 45 #[.agg #[.int .i64 3, .int .i64 q, v]] w fun e w' => e = .returned (.bool (kids.all Fm.ok)) ∧ Below w.heap.size w w' := by
  obtain ⟨A, c, rfl, hn, hc⟩ := forms_slice h
  have IH := Lib.hid ih
  clear ih
  have hl' : ((kids.length : Int) != 1) = false := by rw [bne_eq_false_iff_eq]; exact hl
  have hq' : (q != 0) = false := by obtain rfl := hq.resolve_left (by decide); rfl
  clear hl hq
  go_enter Try.func45, Try.ntmps45
  go_wp2_with fail
  go_loopw [46] (fun i wr => ∃ j : Nat, j ≤ kids.length ∧ i = .int .i64 j ∧ (∀ x ∈ kids.take j, x.ok = true) ∧ Below w.heap.size w wr) (fun i _ => kids.length - (intOf i).toNat)
  case atStart => exact ⟨0, Nat.zero_le _, rfl, by simp, by repeat (first | with_reducible exact Below.refl _ _ | with_reducible refine Below.setCell ?_ (by first | omega | (simp <;> omega)) _ | with_reducible refine Below.drew ?_ | with_reducible refine below_drewN ?_ _ | with_reducible refine Below.alloc ?_ (by first | omega | (simp <;> omega)) _ | with_reducible refine Below.trans ?_ (Below.mono (by assumption) (by first | omega | (simp <;> omega))))⟩
  case round =>
    obtain ⟨j, hj, rfl, hd, hb⟩ := hrel
    have HD := Lib.hid hd
    clear hd
    by_cases hlt : j < kids.length
    · obtain ⟨b, off, f, u, rfl, _, hlb, hc1, hc2, hc3, hu, HX, _⟩ := forms_get (h.below hb) hlt
      obtain ⟨Au, cu, rfl, hnu, hcu⟩ := forms_slice hu
      have hmem := List.mem_of_getElem? HX.out
      have z := hb.size
      by_cases hok : f.ok = true
      · go_wp2_with fail
        refine (IH.out f hmem _ _ (hu.alloc _)).mono ?_
        rintro e w1 ⟨rfl, hb1⟩
        go_wp2_with fail
        go_roundw
        case rel => exact ⟨j + 1, by omega, by go_num, all_take_succ HX.out HD.out hok, by repeat (first | with_reducible exact Below.refl _ _ | with_reducible refine Below.setCell ?_ (by first | omega | (simp <;> omega)) _ | with_reducible refine Below.drew ?_ | with_reducible refine below_drewN ?_ _ | with_reducible refine Below.alloc ?_ (by first | omega | (simp <;> omega)) _ | with_reducible refine Below.trans ?_ (Below.mono (by assumption) (by first | omega | (simp <;> omega))))⟩
        case measure => simp [intOf]; omega
      · have hok' : f.ok = false := by simpa using hok
        have HF : Hid (kids.all Fm.ok = false) := List.all_eq_false.2 ⟨f, hmem, by rw [hok']; decide⟩
        clear hok
        go_wp2_with fail
        refine (IH.out f hmem _ _ (hu.alloc _)).mono ?_
        rintro e w1 ⟨rfl, hb1⟩
        go_wp2_with fail
        go_ret
        exact ⟨ret_bool HF.out.symm, by repeat (first | with_reducible exact Below.refl _ _ | with_reducible refine Below.setCell ?_ (by first | omega | (simp <;> omega)) _ | with_reducible refine Below.drew ?_ | with_reducible refine below_drewN ?_ _ | with_reducible refine Below.alloc ?_ (by first | omega | (simp <;> omega)) _ | with_reducible refine Below.trans ?_ (Below.mono (by assumption) (by first | omega | (simp <;> omega))))⟩
    · have HF : Hid (kids.all Fm.ok = true) := by
        have := HD.out
        rw [List.take_of_length_le (by omega)] at this
        exact List.all_eq_true.2 this
      go_wp2_with fail
      go_ret
      exact ⟨ret_bool HF.out.symm, hb⟩
set_option maxHeartbeats 1000000 in
theorem formulaOK_good4 (q : Int) (kids : List Fm) (ih : ∀ x ∈ kids, OkF x) (hl : (kids.length : Int) = 2) (hq1 : 0 ≤ q) (hq7 : q ≤ 7) (hq : (4 : Int) = 2 ∨ q = 0) (w : World) (v : Value) (h : At w Any (forms kids) v) :
    Calls Try.prog 45 #[.agg #[.int .i64 4, .int .i64 q, v]] w fun e w' => e = .returned (.bool (kids.all Fm.ok)) ∧ Below w.heap.size w w' := by
  obtain ⟨A, c, rfl, hn, hc⟩ := forms_slice h
  have IH := Lib.hid ih
  clear ih
  have hl' : ((kids.length : Int) != 2) = false := by rw [bne_eq_false_iff_eq]; exact hl
  have hq' : (q != 0) = false := by obtain rfl := hq.resolve_left (by decide); rfl
  clear hl hq
  go_enter Try.func45, Try.ntmps45
  go_wp2_with fail
  go_loopw [46] (fun i wr => ∃ j : Nat, j ≤ kids.length ∧ i = .int .i64 j ∧ (∀ x ∈ kids.take j, x.ok = true) ∧ Below w.heap.size w wr) (fun i _ => kids.length - (intOf i).toNat)
  case atStart => exact ⟨0, Nat.zero_le _, rfl, by simp, by repeat (first | with_reducible exact Below.refl _ _ | with_reducible refine Below.setCell ?_ (by first | omega | (simp <;> omega)) _ | with_reducible refine Below.drew ?_ | with_reducible refine below_drewN ?_ _ | with_reducible refine Below.alloc ?_ (by first | omega | (simp <;> omega)) _ | with_reducible refine Below.trans ?_ (Below.mono (by assumption) (by first | omega | (simp <;> omega))))⟩
  case round =>
    obtain ⟨j, hj, rfl, hd, hb⟩ := hrel
    have HD := Lib.hid hd
    clear hd
    by_cases hlt : j < kids.length
    · obtain ⟨b, off, f, u, rfl, _, hlb, hc1, hc2, hc3, hu, HX, _⟩ := forms_get (h.below hb) hlt
      obtain ⟨Au, cu, rfl, hnu, hcu⟩ := forms_slice hu
      have hmem := List.mem_of_getElem? HX.out
      have z := hb.size
      by_cases hok : f.ok = true
      · go_wp2_with fail
        refine (IH.out f hmem _ _ (hu.alloc _)).mono ?_
        rintro e w1 ⟨rfl, hb1⟩
        go_wp2_with fail
        go_roundw
        case rel => exact ⟨j + 1, by omega, by go_num, all_take_succ HX.out HD.out hok, by repeat (first | with_reducible exact Below.refl _ _ | with_reducible refine Below.setCell ?_ (by first | omega | (simp <;> omega)) _ | with_reducible refine Below.drew ?_ | with_reducible refine below_drewN ?_ _ | with_reducible refine Below.alloc ?_ (by first | omega | (simp <;> omega)) _ | with_reducible refine Below.trans ?_ (Below.mono (by assumption) (by first | omega | (simp <;> omega))))⟩
        case measure => simp [intOf]; omega
      · have hok' : f.ok = false := by simpa using hok
        have HF : Hid (kids.all Fm.ok = false) := List.all_eq_false.2 ⟨f, hmem, by rw [hok']; decide⟩
        clear hok
        go_wp2_with fail
        refine (IH.out f hmem _ _ (hu.alloc _)).mono ?_
        rintro e w1 ⟨rfl, hb1⟩
        go_wp2_with fail
        go_ret
        exact ⟨ret_bool HF.out.symm, by repeat (first | with_reducible exact Below.refl _ _ | with_reducible refine Below.setCell ?_ (by first | omega | (simp <;> omega)) _ | with_reducible refine Below.drew ?_ | with_reducible refine below_drewN ?_ _ | with_reducible refine Below.alloc ?_ (by first | omega | (simp <;> omega)) _ | with_reducible refine Below.trans ?_ (Below.mono (by assumption) (by first | omega | (simp <;> omega))))⟩
    · have HF : Hid (kids.all Fm.ok = true) := by
        have := HD.out
        rw [List.take_of_length_le (by omega)] at this
        exact List.all_eq_true.2 this
      go_wp2_with fail
      go_ret
      exact ⟨ret_bool HF.out.symm, hb⟩
set_option maxHeartbeats 1000000 in
theorem formulaOK_good5 (q : Int) (kids : List Fm) (ih : ∀ x ∈ kids, OkF x) (hl : (kids.length : Int) = 2) (hq1 : 0 ≤ q) (hq7 : q ≤ 7) (hq : (5 : Int) = 2 ∨ q = 0) (w : World) (v : Value) (h : At w Any (forms kids) v) :
    Calls Try.prog 45 #[.agg #[.int .i64 5, .int .i64 q, v]] w fun e w' => e = .returned (.bool (kids.all Fm.ok)) ∧ Below w.heap.size w w' := by
  obtain ⟨A, c, rfl, hn, hc⟩ := forms_slice h
  have IH := Lib.hid ih
  clear ih
  have hl' : ((kids.length : Int) != 2) = false := by rw [bne_eq_false_iff_eq]; exact hl
  have hq' : (q != 0) = false := by obtain rfl := hq.resolve_left (by decide); rfl
  clear hl hq
  go_enter Try.func45, Try.ntmps45
  go_wp2_with fail
  go_loopw [46] (fun i wr => ∃ j : Nat, j ≤ kids.length ∧ i = .int .i64 j ∧ (∀ x ∈ kids.take j, x.ok = true) ∧ Below w.heap.size w wr) (fun i _ => kids.length - (intOf i).toNat)
  case atStart => exact ⟨0, Nat.zero_le _, rfl, by simp, by repeat (first | with_reducible exact Below.refl _ _ | with_reducible refine Below.setCell ?_ (by first | omega | (simp <;> omega)) _ | with_reducible refine Below.drew ?_ | with_reducible refine below_drewN ?_ _ | with_reducible refine Below.alloc ?_ (by first | omega | (simp <;> omega)) _ | with_reducible refine Below.trans ?_ (Below.mono (by assumption) (by first | omega | (simp <;> omega))))⟩
  case round =>
    obtain ⟨j, hj, rfl, hd, hb⟩ := hrel
    have HD := Lib.hid hd
    clear hd
    by_cases hlt : j < kids.length
    · obtain ⟨b, off, f, u, rfl, _, hlb, hc1, hc2, hc3, hu, HX, _⟩ := forms_get (h.below hb) hlt
      obtain ⟨Au, cu, rfl, hnu, hcu⟩ := forms_slice hu
      have hmem := List.mem_of_getElem? HX.out
      have z := hb.size
      by_cases hok : f.ok = true
      · go_wp2_with fail
        refine (IH.out f hmem _ _ (hu.alloc _)).mono ?_
        rintro e w1 ⟨rfl, hb1⟩
        go_wp2_with fail
        go_roundw
        case rel => exact ⟨j + 1, by omega, by go_num, all_take_succ HX.out HD.out hok, by repeat (first | with_reducible exact Below.refl _ _ | with_reducible refine Below.setCell ?_ (by first | omega | (simp <;> omega)) _ | with_reducible refine Below.drew ?_ | with_reducible refine below_drewN ?_ _ | with_reducible refine Below.alloc ?_ (by first | omega | (simp <;> omega)) _ | with_reducible refine Below.trans ?_ (Below.mono (by assumption) (by first | omega | (simp <;> omega))))⟩
        case measure => simp [intOf]; omega
      · have hok' : f.ok = false := by simpa using hok
        have HF : Hid (kids.all Fm.ok = false) := List.all_eq_false.2 ⟨f, hmem, by rw [hok']; decide⟩
        clear hok
        go_wp2_with fail
        refine (IH.out f hmem _ _ (hu.alloc _)).mono ?_
        rintro e w1 ⟨rfl, hb1⟩
        go_wp2_with fail
        go_ret
        exact ⟨ret_bool HF.out.symm, by repeat (first | with_reducible exact Below.refl _ _ | with_reducible refine Below.setCell ?_ (by first | omega | (simp <;> omega)) _ | with_reducible refine Below.drew ?_ | with_reducible refine below_drewN ?_ _ | with_reducible refine Below.alloc ?_ (by first | omega | (simp <;> omega)) _ | with_reducible refine Below.trans ?_ (Below.mono (by assumption) (by first | omega | (simp <;> omega))))⟩
    · have HF : Hid (kids.all Fm.ok = true) := by
        have := HD.out
        rw [List.take_of_length_le (by omega)] at this
        exact List.all_eq_true.2 this
      go_wp2_with fail
      go_ret
      exact ⟨ret_bool HF.out.symm, hb⟩
set_option maxHeartbeats 1000000 in
theorem formulaOK_good6 (q : Int) (kids : List Fm) (ih : ∀ x ∈ kids, OkF x) (hl : (kids.length : Int) = 1) (hq1 : 0 ≤ q) (hq7 : q ≤ 7) (hq : (6 : Int) = 2 ∨ q = 0) (w : World) (v : Value) (h : At w Any (forms kids) v) :
    Calls Try.prog 45 #[.agg #[.int .i64 6, .int .i64 q, v]] w fun e w' => e = .returned (.bool (kids.all Fm.ok)) ∧ Below w.heap.size w w' := by
  obtain ⟨A, c, rfl, hn, hc⟩ := forms_slice h
  have IH := Lib.hid ih
  clear ih
  have hl' : ((kids.length : Int) != 1) = false := by rw [bne_eq_false_iff_eq]; exact hl
  have hq' : (q != 0) = false := by obtain rfl := hq.resolve_left (by decide); rfl
  clear hl hq
  go_enter Try.func45, Try.ntmps45
  go_wp2_with fail
  go_loopw [46] (fun i wr => ∃ j : Nat, j ≤ kids.length ∧ i = .int .i64 j ∧ (∀ x ∈ kids.take j, x.ok = true) ∧ Below w.heap.size w wr) (fun i _ => kids.length - (intOf i).toNat)
  case atStart => exact ⟨0, Nat.zero_le _, rfl, by simp, by repeat (first | with_reducible exact Below.refl _ _ | with_reducible refine Below.setCell ?_ (by first | omega | (simp <;> omega)) _ | with_reducible refine Below.drew ?_ | with_reducible refine below_drewN ?_ _ | with_reducible refine Below.alloc ?_ (by first | omega | (simp <;> omega)) _ | with_reducible refine Below.trans ?_ (Below.mono (by assumption) (by first | omega | (simp <;> omega))))⟩
  case round =>
    obtain ⟨j, hj, rfl, hd, hb⟩ := hrel
    have HD := Lib.hid hd
    clear hd
    by_cases hlt : j < kids.length
    · obtain ⟨b, off, f, u, rfl, _, hlb, hc1, hc2, hc3, hu, HX, _⟩ := forms_get (h.below hb) hlt
      obtain ⟨Au, cu, rfl, hnu, hcu⟩ := forms_slice hu
      have hmem := List.mem_of_getElem? HX.out
      have z := hb.size
      by_cases hok : f.ok = true
      · go_wp2_with fail
        refine (IH.out f hmem _ _ (hu.alloc _)).mono ?_
        rintro e w1 ⟨rfl, hb1⟩
        go_wp2_with fail
        go_roundw
        case rel => exact ⟨j + 1, by omega, by go_num, all_take_succ HX.out HD.out hok, by repeat (first | with_reducible exact Below.refl _ _ | with_reducible refine Below.setCell ?_ (by first | omega | (simp <;> omega)) _ | with_reducible refine Below.drew ?_ | with_reducible refine below_drewN ?_ _ | with_reducible refine Below.alloc ?_ (by first | omega | (simp <;> omega)) _ | with_reducible refine Below.trans ?_ (Below.mono (by assumption) (by first | omega | (simp <;> omega))))⟩
        case measure => simp [intOf]; omega
      · have hok' : f.ok = false := by simpa using hok
        have HF : Hid (kids.all Fm.ok = false) := List.all_eq_false.2 ⟨f, hmem, by rw [hok']; decide⟩
        clear hok
        go_wp2_with fail
        refine (IH.out f hmem _ _ (hu.alloc _)).mono ?_
        rintro e w1 ⟨rfl, hb1⟩
        go_wp2_with fail
        go_ret
        exact ⟨ret_bool HF.out.symm, by repeat (first | with_reducible exact Below.refl _ _ | with_reducible refine Below.setCell ?_ (by first | omega | (simp <;> omega)) _ | with_reducible refine Below.drew ?_ | with_reducible refine below_drewN ?_ _ | with_reducible refine Below.alloc ?_ (by first | omega | (simp <;> omega)) _ | with_reducible refine Below.trans ?_ (Below.mono (by assumption) (by first | omega | (simp <;> omega))))⟩
    · have HF : Hid (kids.all Fm.ok = true) := by
        have := HD.out
        rw [List.take_of_length_le (by omega)] at this
        exact List.all_eq_true.2 this
      go_wp2_with fail
      go_ret
      exact ⟨ret_bool HF.out.symm, hb⟩
set_option maxHeartbeats 1000000 in
theorem formulaOK_good7 (q : Int) (kids : List Fm) (ih : ∀ x ∈ kids, OkF x) (hl : (kids.length : Int) = 2) (hq1 : 0 ≤ q) (hq7 : q ≤ 7) (hq : (7 : Int) = 2 ∨ q = 0) (w : World) (v : Value) (h : At w Any (forms kids) v) :
    Calls Try.prog 45 #[.agg #[.int .i64 7, .int .i64 q, v]] w fun e w' => e = .returned (.bool (kids.all Fm.ok)) ∧ Below w.heap.size w w' := by
  obtain ⟨A, c, rfl, hn, hc⟩ := forms_slice h
  have IH := Lib.hid ih
  clear ih
  have hl' : ((kids.length : Int) != 2) = false := by rw [bne_eq_false_iff_eq]; exact hl
  have hq' : (q != 0) = false := by obtain rfl := hq.resolve_left (by decide); rfl
  clear hl hq
  go_enter Try.func45, Try.ntmps45
  go_wp2_with fail
  go_loopw [46] (fun i wr => ∃ j : Nat, j ≤ kids.length ∧ i = .int .i64 j ∧ (∀ x ∈ kids.take j, x.ok = true) ∧ Below w.heap.size w wr) (fun i _ => kids.length - (intOf i).toNat)
  case atStart => exact ⟨0, Nat.zero_le _, rfl, by simp, by repeat (first | with_reducible exact Below.refl _ _ | with_reducible refine Below.setCell ?_ (by first | omega | (simp <;> omega)) _ | with_reducible refine Below.drew ?_ | with_reducible refine below_drewN ?_ _ | with_reducible refine Below.alloc ?_ (by first | omega | (simp <;> omega)) _ | with_reducible refine Below.trans ?_ (Below.mono (by assumption) (by first | omega | (simp <;> omega))))⟩
  case round =>
    obtain ⟨j, hj, rfl, hd, hb⟩ := hrel
    have HD := Lib.hid hd
    clear hd
    by_cases hlt : j < kids.length
    · obtain ⟨b, off, f, u, rfl, _, hlb, hc1, hc2, hc3, hu, HX, _⟩ := forms_get (h.below hb) hlt
      obtain ⟨Au, cu, rfl, hnu, hcu⟩ := forms_slice hu
      have hmem := List.mem_of_getElem? HX.out
      have z := hb.size
      by_cases hok : f.ok = true
      · go_wp2_with fail
        refine (IH.out f hmem _ _ (hu.alloc _)).mono ?_
        rintro e w1 ⟨rfl, hb1⟩
        go_wp2_with fail
        go_roundw
        case rel => exact ⟨j + 1, by omega, by go_num, all_take_succ HX.out HD.out hok, by repeat (first | with_reducible exact Below.refl _ _ | with_reducible refine Below.setCell ?_ (by first | omega | (simp <;> omega)) _ | with_reducible refine Below.drew ?_ | with_reducible refine below_drewN ?_ _ | with_reducible refine Below.alloc ?_ (by first | omega | (simp <;> omega)) _ | with_reducible refine Below.trans ?_ (Below.mono (by assumption) (by first | omega | (simp <;> omega))))⟩
        case measure => simp [intOf]; omega
      · have hok' : f.ok = false := by simpa using hok
        have HF : Hid (kids.all Fm.ok = false) := List.all_eq_false.2 ⟨f, hmem, by rw [hok']; decide⟩
        clear hok
        go_wp2_with fail
        refine (IH.out f hmem _ _ (hu.alloc _)).mono ?_
        rintro e w1 ⟨rfl, hb1⟩
        go_wp2_with fail
        go_ret
        exact ⟨ret_bool HF.out.symm, by repeat (first | with_reducible exact Below.refl _ _ | with_reducible refine Below.setCell ?_ (by first | omega | (simp <;> omega)) _ | with_reducible refine Below.drew ?_ | with_reducible refine below_drewN ?_ _ | with_reducible refine Below.alloc ?_ (by first | omega | (simp <;> omega)) _ | with_reducible refine Below.trans ?_ (Below.mono (by assumption) (by first | omega | (simp <;> omega))))⟩
    · have HF : Hid (kids.all Fm.ok = true) := by
        have := HD.out
        rw [List.take_of_length_le (by omega)] at this
        exact List.all_eq_true.2 this
      go_wp2_with fail
      go_ret
      exact ⟨ret_bool HF.out.symm, hb⟩

set_option maxHeartbeats 1000000 in
theorem formulaOK_any (f : Fm) : OkF f := by
  induction f using Fm.induct with
  | h k q kids ih =>
    intro w v h
    rw [Fm.ok_eq]
    by_cases hok : okHead k q kids.length
    · obtain ⟨ha, q1, q7, hq⟩ := hok
      have e : decide (okHead k q kids.length) = true := decide_eq_true ⟨ha, q1, q7, hq⟩
      rw [e, Bool.true_and]
      have hk : 1 ≤ k ∧ k ≤ 7 := by unfold arity at ha; omega
      rcases kinds hk.1 hk.2 with rfl | rfl | rfl | rfl | rfl | rfl | rfl
      · exact formulaOK_good1 q kids ih ha.symm q1 q7 hq w v h
      · exact formulaOK_good2 q kids ih ha.symm q1 q7 hq w v h
      · exact formulaOK_good3 q kids ih ha.symm q1 q7 hq w v h
      · exact formulaOK_good4 q kids ih ha.symm q1 q7 hq w v h
      · exact formulaOK_good5 q kids ih ha.symm q1 q7 hq w v h
      · exact formulaOK_good6 q kids ih ha.symm q1 q7 hq w v h
      · exact formulaOK_good7 q kids ih ha.symm q1 q7 hq w v h
    · have e : decide (okHead k q kids.length) = false := decide_eq_false hok
      rw [e, Bool.false_and]
      exact formulaOK_bad k q kids hok w v h

set_option maxHeartbeats 1000000 in
theorem implIsFormula_any (f : Fm) (w : World) (v : Value) (h : At w Any (forms f.kids) v) (h1 : f.total ≤ 1048576) :
    Calls Try.prog 18 #[.agg #[.int .i64 f.kind, .int .i64 f.prop, v]] w fun e w' => e = .returned (.bool (isFormula f)) ∧ Below w.heap.size w w' := by
  obtain ⟨A, c, rfl, hn, hc⟩ := forms_slice h
  have hB0 := Blk.new w 38 #[.int .i64 f.kind, .int .i64 f.prop, .slice A f.kids.length c]
  by_cases hs : f.size ≤ 12
  · have HR : Hid (isFormula f = f.ok) := by show isFormula f = f.ok; unfold isFormula; rw [decide_eq_true hs, Bool.true_and]
    go_enter Try.func18, Try.ntmps18
    go_wp2_with fail
    refine (formulaSize_any f _ _ (h.alloc _) h1).mono ?_
    rintro e w1 ⟨rfl, hb1⟩
    have h2 := (h.alloc _).below hb1
    have hB1 := hB0.next hb1
    obtain ⟨_, _, _⟩ := hB1.c3
    go_wp2_with fail
    refine (formulaOK_any f _ _ h2).mono ?_
    rintro e w2 ⟨rfl, hb2⟩
    go_wp2_with fail
    go_ret
    exact ⟨ret_bool HR.out.symm, by have z := hb1.size; simp at z; repeat (first | with_reducible exact Below.refl _ _ | with_reducible refine Below.setCell ?_ (by first | omega | (simp <;> omega)) _ | with_reducible refine Below.drew ?_ | with_reducible refine below_drewN ?_ _ | with_reducible refine Below.alloc ?_ (by first | omega | (simp <;> omega)) _ | with_reducible refine Below.trans ?_ (Below.mono (by assumption) (by first | omega | (simp <;> omega))))⟩
  · have HR : Hid (isFormula f = false) := by show isFormula f = false; unfold isFormula; rw [decide_eq_false hs, Bool.false_and]
    go_enter Try.func18, Try.ntmps18
    go_wp2_with fail
    refine (formulaSize_any f _ _ (h.alloc _) h1).mono ?_
    rintro e w1 ⟨rfl, hb1⟩
    go_wp2_with fail
    go_ret
    exact ⟨ret_bool HR.out.symm, by repeat (first | with_reducible exact Below.refl _ _ | with_reducible refine Below.setCell ?_ (by first | omega | (simp <;> omega)) _ | with_reducible refine Below.drew ?_ | with_reducible refine below_drewN ?_ _ | with_reducible refine Below.alloc ?_ (by first | omega | (simp <;> omega)) _ | with_reducible refine Below.trans ?_ (Below.mono (by assumption) (by first | omega | (simp <;> omega))))⟩

end Go.Proofs.Ytagnfckihdlhpaa

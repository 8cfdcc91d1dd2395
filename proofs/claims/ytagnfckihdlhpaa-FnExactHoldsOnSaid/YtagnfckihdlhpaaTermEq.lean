/-
  What eqTerm, eqTermS and eqIntSS answer for data that are the same.
-/
import Derived.Test.YtagnfckihdlhpaaTermTo
namespace Go.Proofs.Ytagnfckihdlhpaa
open Go.RowKit

def EqT (t : Tm) : Prop := ∀ (w : World) (v u : Value), At w Any (terms t.args) v → At w Any (terms t.args) u →
    Calls Try.prog 73 #[.agg #[.int .i64 t.op, .string t.name, .int .i64 t.sort, v], .agg #[.int .i64 t.op, .string t.name, .int .i64 t.sort, u]] w fun e w' => e = .returned (.bool true) ∧ Below w.heap.size w w'

set_option maxHeartbeats 1000000 in
theorem eqTermS_of (ts : List Tm) (ih : ∀ x ∈ ts, EqT x) (w : World) (v u : Value) (h : At w Any (terms ts) v) (g : At w Any (terms ts) u) :
    Calls Try.prog 51 #[v, u] w fun e w' => e = .returned (.bool true) ∧ Below w.heap.size w w' := by
  obtain ⟨A, c, rfl, hn, hc⟩ := terms_slice h
  obtain ⟨A', c', rfl, hn', hc'⟩ := terms_slice g
  have IH := Lib.hid ih
  clear ih
  have hl' : ((ts.length : Int) != (ts.length : Int)) = false := by simp
  go_enter Try.func51, Try.ntmps51
  go_wp2_with fail
  go_loopw [5] (fun i wr => ∃ k : Nat, k ≤ ts.length ∧ i = .int .i64 k ∧ Below w.heap.size w wr) (fun i _ => ts.length - (intOf i).toNat)
  case atStart => exact ⟨0, Nat.zero_le _, rfl, Below.refl _ _⟩
  case round =>
    obtain ⟨k, hk, rfl, hb⟩ := hrel
    by_cases hlt : k < ts.length
    · obtain ⟨b, off, t, x, rfl, _, hlb, c1, c2, c3, c4, hx, HX, _⟩ := terms_get (h.below hb) hlt
      obtain ⟨b', off', t', x', rfl, _, hlb', c1', c2', c3', c4', hx', HX', _⟩ := terms_get (g.below hb) hlt
      have hff : t' = t := by have e1 := HX.out; have e2 := HX'.out; rw [e1] at e2; injection e2 with e2; exact e2.symm
      subst hff
      have hmem := List.mem_of_getElem? HX.out
      have hi1 : (k : Int) < (ts.length : Int) := by omega
      have hz := hb.size
      clear HX HX'
      go_wp2_with fail
      go_region_held3 (fun w' => w'.cell? ⟨b, off + k * 4, none⟩ = some (.int .i64 t'.op) ∧ w'.cell? ⟨b, off + k * 4 + 1, none⟩ = some (.string t'.name) ∧ w'.cell? ⟨b, off + k * 4 + 2, none⟩ = some (.int .i64 t'.sort) ∧ w'.cell? ⟨b, off + k * 4 + 3, none⟩ = some x ∧
          w'.cell? ⟨b', off' + k * 4, none⟩ = some (.int .i64 t'.op) ∧ w'.cell? ⟨b', off' + k * 4 + 1, none⟩ = some (.string t'.name) ∧ w'.cell? ⟨b', off' + k * 4 + 2, none⟩ = some (.int .i64 t'.sort) ∧ w'.cell? ⟨b', off' + k * 4 + 3, none⟩ = some x') (go_keep)
        (first | (go_at_call 73; refine (IH.out t' hmem _ _ _ ?_ ?_).mono ?_; (exact hx.drew); (exact hx'.drew); rintro e w1 ⟨rfl, hb1⟩; have q1 := (hb1.cell (p := ⟨b, off + k * 4, none⟩) hlb).trans c1; have q2 := (hb1.cell (p := ⟨b, off + k * 4 + 1, none⟩) hlb).trans c2; have q3 := (hb1.cell (p := ⟨b, off + k * 4 + 2, none⟩) hlb).trans c3; have q3' := (hb1.cell (p := ⟨b, off + k * 4 + 3, none⟩) hlb).trans c4; have q4 := (hb1.cell (p := ⟨b', off' + k * 4, none⟩) hlb').trans c1'; have q5 := (hb1.cell (p := ⟨b', off' + k * 4 + 1, none⟩) hlb').trans c2'; have q6 := (hb1.cell (p := ⟨b', off' + k * 4 + 2, none⟩) hlb').trans c3'; have q7 := (hb1.cell (p := ⟨b', off' + k * 4 + 3, none⟩) hlb').trans c4'))
      go_wp2_with fail
      go_roundw
      case rel => exact ⟨k + 1, by omega, by go_num, by repeat (first | with_reducible exact Below.refl _ _ | with_reducible refine Below.setCell ?_ (by first | omega | (simp <;> omega)) _ | with_reducible refine Below.drew ?_ | with_reducible refine below_drewN ?_ _ | with_reducible refine Below.alloc ?_ (by first | omega | (simp <;> omega)) _ | with_reducible refine Below.trans ?_ (Below.mono (by assumption) (by first | omega | (simp <;> omega))))⟩
      case measure => simp [intOf]; omega
    · go_wp2_with fail
      go_ret
      exact ⟨rfl, hb⟩

set_option maxHeartbeats 400000 in
theorem eqTerm_any (t : Tm) : EqT t := by
  induction t using Tm.induct with
  | h o n s args ih =>
    intro w v u h g
    have IH := Lib.hid ih
    clear ih
    obtain ⟨A, c, rfl, hn, hc⟩ := terms_slice h
    obtain ⟨A', c', rfl, hn', hc'⟩ := terms_slice g
    have e1 : (o != o) = false := by simp
    have e2 : (s != s) = false := by simp
    have e4 : (n.toList != n.toList) = false := by simp
    go_enter Try.func73, Try.ntmps73
    go_wp2_with fail
    refine (eqTermS_of args IH.out _ _ _ ((h.alloc _).alloc _) ((g.alloc _).alloc _)).mono ?_
    rintro e w1 ⟨rfl, hb1⟩
    go_wp2_with fail
    go_ret
    exact ⟨rfl, by repeat (first | with_reducible exact Below.refl _ _ | with_reducible refine Below.setCell ?_ (by first | omega | (simp <;> omega)) _ | with_reducible refine Below.drew ?_ | with_reducible refine below_drewN ?_ _ | with_reducible refine Below.alloc ?_ (by first | omega | (simp <;> omega)) _ | with_reducible refine Below.trans ?_ (Below.mono (by assumption) (by first | omega | (simp <;> omega))))⟩
theorem eqTermS_any (ts : List Tm) (w : World) (v u : Value) (h : At w Any (terms ts) v) (g : At w Any (terms ts) u) :
    Calls Try.prog 51 #[v, u] w fun e w' => e = .returned (.bool true) ∧ Below w.heap.size w w' := eqTermS_of ts (fun x _ => eqTerm_any x) w v u h g

set_option maxHeartbeats 1000000 in
theorem eqIntSS_any (xss : List (List Int)) (w : World) (v u : Value) (h : At w Any (rows xss) v) (g : At w Any (rows xss) u) :
    Calls Try.prog 52 #[v, u] w fun e w' => e = .returned (.bool true) ∧ Below w.heap.size w w' := by
  obtain ⟨A, c, rfl, hn, hc⟩ := rows_slice h
  obtain ⟨A', c', rfl, hn', hc'⟩ := rows_slice g
  have hl' : ((xss.length : Int) != (xss.length : Int)) = false := by simp
  go_enter Try.func52, Try.ntmps52
  go_wp2_with fail
  go_loopw [5] (fun i wr => ∃ k : Nat, k ≤ xss.length ∧ i = .int .i64 k ∧ Below w.heap.size w wr) (fun i _ => xss.length - (intOf i).toNat)
  case atStart => exact ⟨0, Nat.zero_le _, rfl, Below.refl _ _⟩
  case round =>
    obtain ⟨k, hk, rfl, hb⟩ := hrel
    by_cases hlt : k < xss.length
    · obtain ⟨b, off, xs, x, rfl, _, hlb, c1, hx, HX⟩ := rows_get (h.below hb) hlt
      obtain ⟨b', off', xs', x', rfl, _, hlb', c1', hx', HX'⟩ := rows_get (g.below hb) hlt
      have hff : xs' = xs := by have e1 := HX.out; have e2 := HX'.out; rw [e1] at e2; injection e2 with e2; exact e2.symm
      subst hff
      obtain ⟨Au, cu, rfl, hnu, hcu⟩ := ints_slice hx
      obtain ⟨Au', cu', rfl, hnu', hcu'⟩ := ints_slice hx'
      have hi1 : (k : Int) < (xss.length : Int) := by omega
      have hz := hb.size
      clear HX HX'
      go_wp2_with fail
      go_region_held3 (fun w' => w'.cell? ⟨b, off + k, none⟩ = some (.slice Au xs'.length cu) ∧ w'.cell? ⟨b', off' + k, none⟩ = some (.slice Au' xs'.length cu')) (go_keep)
        (first | (go_at_call 32; refine (eqIntS_any xs' xs' _ Any Any _ _ ?_ ?_).mono ?_; (exact hx.drew); (exact hx'.drew); rintro e w1 ⟨rfl, hb1⟩; have q1 := (hb1.cell (p := ⟨b, off + k, none⟩) hlb).trans c1; have q4 := (hb1.cell (p := ⟨b', off' + k, none⟩) hlb').trans c1'))
      go_wp2_with fail
      go_roundw
      case rel => exact ⟨k + 1, by omega, by go_num, by repeat (first | with_reducible exact Below.refl _ _ | with_reducible refine Below.setCell ?_ (by first | omega | (simp <;> omega)) _ | with_reducible refine Below.drew ?_ | with_reducible refine below_drewN ?_ _ | with_reducible refine Below.alloc ?_ (by first | omega | (simp <;> omega)) _ | with_reducible refine Below.trans ?_ (Below.mono (by assumption) (by first | omega | (simp <;> omega))))⟩
      case measure => simp [intOf]; omega
    · go_wp2_with fail
      go_ret
      exact ⟨rfl, hb⟩

end Go.Proofs.Ytagnfckihdlhpaa

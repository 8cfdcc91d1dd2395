/-
  Texts that the claim rests on, merged: TermTo, TermEq, Graph, GraphIs, GraphS, RunParts, Bools, PlacesI, PlacesI2, PlacesI3, PlacesI6.
-/
import Derived.Deep.AppendLies
import Derived.Maps.AppendAt
import Derived.Test.YtagnfckihdlhpaaZRowUnr6

/-
  What toTerm, toTermS and toIntSS compute: copies in new memory.
-/
namespace Go.Proofs.Ytagnfckihdlhpaa
open Go.RowKit

theorem Try.infoTerm : (Try.prog.info? 100).map (fun i => (i.zero, i.size, i.bytes)) = some (some (.agg #[.int .i64 0, .string ⟨#[]⟩, .int .i64 0, .slice none 0 0]), 4, 56) := by kernel_rfl
theorem Try.infoInts : (Try.prog.info? 22).map (fun i => (i.zero, i.size, i.bytes)) = some (some (.slice none 0 0), 1, 24) := by kernel_rfl

def ToT (t : Tm) : Prop := ∀ (w : World) (S : Nat → Prop) (v : Value), At w S (terms t.args) v → t.total ≤ 1048576 →
    Calls Try.prog 72 #[.agg #[.int .i64 t.op, .string t.name, .int .i64 t.sort, v]] w fun e w' => ∃ v', e = .returned (.agg #[.int .i64 t.op, .string t.name, .int .i64 t.sort, v']) ∧ At w' (From w.heap.size) (terms t.args) v' ∧ Below w.heap.size w w'

/-- What the row under copy holds when k elements are copied. -/
def ToRowT (w : World) (B : Nat) (ts : List Tm) (k : Nat) (cs : Array Value) : Prop :=
  cs.size = ts.length * 4 ∧ ∀ (j : Nat) (t : Tm), j < k → ts[j]? = some t → ∃ v, cs[j * 4]? = some (.int .i64 t.op) ∧ cs[j * 4 + 1]? = some (.string t.name) ∧ cs[j * 4 + 2]? = some (.int .i64 t.sort) ∧ cs[j * 4 + 3]? = some v ∧ At w (From B) (terms t.args) v

theorem ToRowT.step {w w1 : World} {B : Nat} {ts : List Tm} {k : Nat} {cs : Array Value} {t : Tm} {u : Value} (h : ToRowT w B ts k cs) (hb : Below w.heap.size w w1) (ht : ts[k]? = some t) (ha : At w1 (From B) (terms t.args) u) {p0 p1 p2 p3 : Addr} {u0 u1 u2 u3 : Value}
    (q0 : p0.block < B) (q1 : p1.block < B) (q2 : p2.block < B) (q3 : p3.block < B) :
    ToRowT ((((w1.setCell p0 u0).setCell p1 u1).setCell p2 u2).setCell p3 u3) B ts (k + 1) ((((cs.setIfInBounds (k * 4) (.int .i64 t.op)).setIfInBounds (k * 4 + 1) (.string t.name)).setIfInBounds (k * 4 + 2) (.int .i64 t.sort)).setIfInBounds (k * 4 + 3) u) := by
  obtain ⟨h1, h2⟩ := h
  have hk : k < ts.length := (List.getElem?_eq_some_iff.1 ht).1
  have keep : ∀ {d : D} {v : Value}, At w1 (From B) d v → At ((((w1.setCell p0 u0).setCell p1 u1).setCell p2 u2).setCell p3 u3) (From B) d v := fun h =>
    (((h.setCell (by simp [From]; omega) _).setCell (by simp [From]; omega) _).setCell (by simp [From]; omega) _).setCell (by simp [From]; omega) _
  refine ⟨by simpa using h1, fun j g hj hg => ?_⟩
  by_cases e : j = k
  · subst e
    rw [ht] at hg
    obtain rfl : t = g := by injection hg
    refine ⟨u, ?_, ?_, ?_, ?_, keep ha⟩ <;> simp [Array.getElem?_setIfInBounds, h1] <;> omega
  · obtain ⟨v, e0, e1, e2, e3, hat⟩ := h2 j g (by omega) hg
    refine ⟨v, ?_, ?_, ?_, ?_, keep (hat.below hb)⟩
    · rw [Array.getElem?_setIfInBounds_ne (by omega), Array.getElem?_setIfInBounds_ne (by omega), Array.getElem?_setIfInBounds_ne (by omega), Array.getElem?_setIfInBounds_ne (by omega)]; exact e0
    · rw [Array.getElem?_setIfInBounds_ne (by omega), Array.getElem?_setIfInBounds_ne (by omega), Array.getElem?_setIfInBounds_ne (by omega), Array.getElem?_setIfInBounds_ne (by omega)]; exact e1
    · rw [Array.getElem?_setIfInBounds_ne (by omega), Array.getElem?_setIfInBounds_ne (by omega), Array.getElem?_setIfInBounds_ne (by omega), Array.getElem?_setIfInBounds_ne (by omega)]; exact e2
    · rw [Array.getElem?_setIfInBounds_ne (by omega), Array.getElem?_setIfInBounds_ne (by omega), Array.getElem?_setIfInBounds_ne (by omega), Array.getElem?_setIfInBounds_ne (by omega)]; exact e3

theorem terms_fits {w : World} {S : Nat → Prop} {ts : List Tm} {v : Value} (h : At w S (terms ts) v) {k : Nat} {t : Tm} (hk : ts[k]? = some t) : t.fits := by
  obtain ⟨A, c, rfl, _⟩ := terms_slice h
  obtain ⟨_, _, g, _, _, _, _, _, _, _, _, _, hg, hf⟩ := terms_get h (List.getElem?_eq_some_iff.1 hk).1
  have hg' := hg.out
  rw [hk] at hg'
  obtain rfl : t = g := by injection hg'
  exact hf

set_option maxHeartbeats 1000000 in
theorem toTermS_of (ts : List Tm) (ih : ∀ x ∈ ts, ToT x) (w : World) (S : Nat → Prop) (v : Value) (h : At w S (terms ts) v) (h1 : tmTotals ts ≤ 1048576) :
    Calls Try.prog 49 #[v] w fun e w' => ∃ v', e = .returned v' ∧ At w' (From w.heap.size) (terms ts) v' ∧ Below w.heap.size w w' := by
  obtain ⟨A, c, rfl, hn, hc⟩ := terms_slice h
  have IH := Lib.hid ih
  clear ih
  unfold tmTotals at h1
  have hmk := make_rowN (P := Try.prog) 48 100 _ 4 56 Try.underlying48 Try.infoTerm ts.length (by omega) (by omega)
  go_enter Try.func49, Try.ntmps49
  go_wp2_with fail
  go_loopw [4] (fun i wr => ∃ (k : Nat) (cs : Array Value), k ≤ ts.length ∧ i = .int .i64 k ∧ Blk wr w.heap.size 100 cs ∧ ToRowT wr (w.heap.size + 1) ts k cs ∧ Below w.heap.size w wr)
    (fun i _ => ts.length - (intOf i).toNat)
  case atStart => exact ⟨0, _, Nat.zero_le _, rfl, Blk.new _ _ _, ⟨made_size _ _, fun j _ hj => by omega⟩, (Below.refl _ _).alloc (Nat.le_refl _) _⟩
  case round =>
    obtain ⟨k, cs, hk, rfl, hblk, hrow, hb⟩ := hrel
    have HB := Lib.hid hblk
    have HR := Lib.hid hrow
    clear hblk hrow hmk
    by_cases hlt : k < ts.length
    · obtain ⟨b, off, t, u, rfl, _, hlb, hc1, hc2, hc3, hc4, hu, HX, _⟩ := terms_get (h.below hb) hlt
      have hmem := List.mem_of_getElem? HX.out
      have hle := le_sum_of_mem (f := Tm.total) hmem
      have hbs := HB.out.lt
      go_wp2_with fail
      refine (IH.out t hmem _ S _ hu (by omega)).mono ?_
      rintro e w1 ⟨v', rfl, ha, hb1⟩
      obtain ⟨A', c', rfl, hn', hc'⟩ := terms_slice ha
      have HB1 := Lib.hid (HB.out.next hb1)
      have hsz := HR.out.1
      obtain ⟨d0, e0⟩ : ∃ d, w1.cell? ⟨w.heap.size, k * 4, none⟩ = some d := ⟨_, (HB1.out.cell _).trans (Array.getElem?_eq_getElem (by omega))⟩
      obtain ⟨d1, e1⟩ : ∃ d, w1.cell? ⟨w.heap.size, k * 4 + 1, none⟩ = some d := ⟨_, (HB1.out.cell _).trans (Array.getElem?_eq_getElem (by omega))⟩
      obtain ⟨d2, e2⟩ : ∃ d, w1.cell? ⟨w.heap.size, k * 4 + 2, none⟩ = some d := ⟨_, (HB1.out.cell _).trans (Array.getElem?_eq_getElem (by omega))⟩
      obtain ⟨d3, e3⟩ : ∃ d, w1.cell? ⟨w.heap.size, k * 4 + 3, none⟩ = some d := ⟨_, (HB1.out.cell _).trans (Array.getElem?_eq_getElem (by omega))⟩
      have f0 := HB1.out.frozen (k * 4)
      have f1 := HB1.out.frozen (k * 4 + 1)
      have f2 := HB1.out.frozen (k * 4 + 2)
      have f3 := HB1.out.frozen (k * 4 + 3)
      clear hsz
      go_wp2_with fail
      go_roundw
      case rel => exact ⟨k + 1, _, by omega, by go_num, (((HB1.out.set_ _ _).set_ _ _).set_ _ _).set_ _ _, HR.out.step hb1 HX.out (ha.mono (by simp only [From]; omega)) (by simp) (by simp) (by simp) (by simp), by repeat (first | with_reducible exact Below.refl _ _ | with_reducible refine Below.setCell ?_ (by first | omega | (simp <;> omega)) _ | with_reducible refine Below.drew ?_ | with_reducible refine below_drewN ?_ _ | with_reducible refine Below.alloc ?_ (by first | omega | (simp <;> omega)) _ | with_reducible refine Below.trans ?_ (Below.mono (by assumption) (by first | omega | (simp <;> omega))))⟩
      case measure => simp [intOf]; omega
    · go_wp2_with fail
      go_ret
      refine ⟨_, rfl, terms_mk (Nat.le_refl _) (by omega) fun _ => ⟨w.heap.size, 0, rfl, Nat.le_refl _, fun j t hj => ?_⟩, hb⟩
      obtain ⟨v, e0, e1, e2, e3, hat⟩ := HR.out.2 j t (by have := (List.getElem?_eq_some_iff.1 hj).1; omega) hj
      refine ⟨v, ?_, ?_, ?_, ?_, hat.mono (by simp only [From]; omega), terms_fits h hj⟩
      · rw [Nat.zero_add, HB.out.cell]; exact e0
      · rw [Nat.zero_add, HB.out.cell]; exact e1
      · rw [Nat.zero_add, HB.out.cell]; exact e2
      · rw [Nat.zero_add, HB.out.cell]; exact e3

set_option maxHeartbeats 400000 in
theorem toTerm_any (t : Tm) : ToT t := by
  induction t using Tm.induct with
  | h o n s args ih =>
    intro w S v h h1
    rw [Tm.total_eq] at h1
    have IH := Lib.hid ih
    clear ih
    obtain ⟨A, c, rfl, hn, hc⟩ := terms_slice h
    go_enter Try.func72, Try.ntmps72
    go_wp2_with fail
    refine (toTermS_of args IH.out _ S _ (((h.alloc _).alloc _).alloc _) (by omega)).mono ?_
    rintro e w1 ⟨v', rfl, ha, hb⟩
    obtain ⟨A', c', rfl, hn', hc'⟩ := terms_slice ha
    obtain ⟨hc1, hf1⟩ := bcell hb
    go_wp2_with fail
    refine bodyPost_ret (v := .agg #[.int .i64 o, .string n, .int .i64 s, .slice A' args.length c']) (by simp [results, Try.results72, go_sem, hc1]) rfl ⟨_, rfl, ?_, ?_⟩
    · refine At.mono (((((ha.setCell ?_ _).setCell ?_ _).setCell ?_ _).setCell ?_ _).setCell ?_ _) ?_ <;> simp [From] <;> omega
    · repeat (first | with_reducible exact Below.refl _ _ | with_reducible refine Below.setCell ?_ (by first | omega | (simp <;> omega)) _ | with_reducible refine Below.drew ?_ | with_reducible refine below_drewN ?_ _ | with_reducible refine Below.alloc ?_ (by first | omega | (simp <;> omega)) _ | with_reducible refine Below.trans ?_ (Below.mono (by assumption) (by first | omega | (simp <;> omega))))
theorem toTermS_any (ts : List Tm) (w : World) (S : Nat → Prop) (v : Value) (h : At w S (terms ts) v) (h1 : tmTotals ts ≤ 1048576) :
    Calls Try.prog 49 #[v] w fun e w' => ∃ v', e = .returned v' ∧ At w' (From w.heap.size) (terms ts) v' ∧ Below w.heap.size w w' :=
  toTermS_of ts (fun x _ => toTerm_any x) w S v h h1

def ToRowI (w : World) (B : Nat) (xss : List (List Int)) (k : Nat) (cs : Array Value) : Prop :=
  cs.size = xss.length ∧ ∀ (j : Nat) (xs : List Int), j < k → xss[j]? = some xs → ∃ v, cs[j]? = some v ∧ At w (From B) (ints xs) v
theorem ToRowI.step {w w1 : World} {B : Nat} {xss : List (List Int)} {k : Nat} {cs : Array Value} {xs : List Int} {u : Value} (h : ToRowI w B xss k cs) (hb : Below w.heap.size w w1) (ht : xss[k]? = some xs) (ha : At w1 (From B) (ints xs) u) {p0 : Addr} {u0 : Value}
    (q0 : p0.block < B) : ToRowI (w1.setCell p0 u0) B xss (k + 1) (cs.setIfInBounds k u) := by
  obtain ⟨h1, h2⟩ := h
  have hk : k < xss.length := (List.getElem?_eq_some_iff.1 ht).1
  refine ⟨by simpa using h1, fun j g hj hg => ?_⟩
  by_cases e : j = k
  · subst e
    rw [ht] at hg
    obtain rfl : xs = g := by injection hg
    exact ⟨u, by simp [h1, hk], ha.setCell (by simp [From]; omega) _⟩
  · obtain ⟨v, e0, hat⟩ := h2 j g (by omega) hg
    exact ⟨v, by rw [Array.getElem?_setIfInBounds_ne (by omega)]; exact e0, (hat.below hb).setCell (by simp [From]; omega) _⟩

set_option maxHeartbeats 1000000 in
theorem toIntSS_any (xss : List (List Int)) (w : World) (S : Nat → Prop) (v : Value) (h : At w S (rows xss) v) (h1 : rowTotals xss ≤ 1048576) :
    Calls Try.prog 50 #[v] w fun e w' => ∃ v', e = .returned v' ∧ At w' (From w.heap.size) (rows xss) v' ∧ Below w.heap.size w w' := by
  obtain ⟨A, c, rfl, hn, hc⟩ := rows_slice h
  unfold rowTotals at h1
  have hmk := run_make_row' (P := Try.prog) 43 22 _ 24 Try.underlying43 Try.infoInts rfl .i64 .i64 xss.length (by omega) (by omega)
  go_enter Try.func50, Try.ntmps50
  go_wp2_with fail
  go_loopw [4] (fun i wr => ∃ (k : Nat) (cs : Array Value), k ≤ xss.length ∧ i = .int .i64 k ∧ Blk wr w.heap.size 22 cs ∧ ToRowI wr (w.heap.size + 1) xss k cs ∧ Below w.heap.size w wr)
    (fun i _ => xss.length - (intOf i).toNat)
  case atStart => exact ⟨0, _, Nat.zero_le _, rfl, Blk.new _ _ _, ⟨made_size _ _, fun j _ hj => by omega⟩, (Below.refl _ _).alloc (Nat.le_refl _) _⟩
  case round =>
    obtain ⟨k, cs, hk, rfl, hblk, hrow, hb⟩ := hrel
    have HB := Lib.hid hblk
    have HR := Lib.hid hrow
    clear hblk hrow hmk
    by_cases hlt : k < xss.length
    · obtain ⟨b, off, xs, u, rfl, _, hlb, hc1, hu, HX⟩ := rows_get (h.below hb) hlt
      obtain ⟨Au, cu, rfl, hnu, hcu⟩ := ints_slice hu
      have hle := le_sum_of_mem (f := List.length) (List.mem_of_getElem? HX.out)
      have hbs := HB.out.lt
      go_wp2_with fail
      refine (toIntS_any xs _ S _ hu (by omega)).mono ?_
      rintro e w1 ⟨v', rfl, ha, hb1⟩
      obtain ⟨A', c', rfl, hn', hc'⟩ := ints_slice ha
      have HB1 := Lib.hid (HB.out.next hb1)
      have hsz := HR.out.1
      obtain ⟨d0, e0⟩ : ∃ d, w1.cell? ⟨w.heap.size, k, none⟩ = some d := ⟨_, (HB1.out.cell _).trans (Array.getElem?_eq_getElem (by omega))⟩
      have f0 := HB1.out.frozen k
      clear hsz
      go_wp2_with fail
      go_roundw
      case rel => exact ⟨k + 1, _, by omega, by go_num, HB1.out.set_ _ _, HR.out.step hb1 HX.out (ha.mono (by simp only [From]; omega)) (by simp), by repeat (first | with_reducible exact Below.refl _ _ | with_reducible refine Below.setCell ?_ (by first | omega | (simp <;> omega)) _ | with_reducible refine Below.drew ?_ | with_reducible refine below_drewN ?_ _ | with_reducible refine Below.alloc ?_ (by first | omega | (simp <;> omega)) _ | with_reducible refine Below.trans ?_ (Below.mono (by assumption) (by first | omega | (simp <;> omega))))⟩
      case measure => simp [intOf]; omega
    · go_wp2_with fail
      go_ret
      refine ⟨_, rfl, rows_mk (Nat.le_refl _) (by omega) fun _ => ⟨w.heap.size, 0, rfl, Nat.le_refl _, fun j xs hj => ?_⟩, hb⟩
      obtain ⟨v, e0, hat⟩ := HR.out.2 j xs (by have := (List.getElem?_eq_some_iff.1 hj).1; omega) hj
      exact ⟨v, by rw [Nat.zero_add, HB.out.cell]; exact e0, hat.mono (by simp only [From]; omega)⟩

end Go.Proofs.Ytagnfckihdlhpaa

/-
  What eqTerm, eqTermS and eqIntSS answer for data that are the same.
-/
namespace Go.Proofs.Ytagnfckihdlhpaa
open Go.RowKit

def EqT (t : Tm) : Prop := ∀ (w : World) (v u : Value), At w Any (terms t.args) v → At w Any (terms t.args) u →
    Calls Try.prog 73 #[.agg #[.int .i64 t.op, .string t.name, .int .i64 t.sort, v], .agg #[.int .i64 t.op, .string t.name, .int .i64 t.sort, u]] w fun e w' => e = .returned (.bool true) ∧ Below w.heap.size w w'

set_option maxHeartbeats 1000000 in
theorem eqTermS_of (ts : List Tm) (ih : ∀ x ∈ ts, EqT x) (w : World) (v u : Value) (h : At w Any (terms ts) v) (g : At w Any (terms ts) u) :
    Calls Try.prog 51 #[v, u] w fun e w' => e = .returned (.bool true) ∧ Below w.heap.size w w' := by
  obtain ⟨A, c, rfl, hn, hc⟩ := terms_slice h
  obtain ⟨A', c', rfl, hn', hc'⟩ := terms_slice g
  have IH := Lib.hid ih
  clear ih
  have hl' : ((ts.length : Int) != (ts.length : Int)) = false := by simp
  go_enter Try.func51, Try.ntmps51
  go_wp2_with fail
  go_loopw [5] (fun i wr => ∃ k : Nat, k ≤ ts.length ∧ i = .int .i64 k ∧ Below w.heap.size w wr) (fun i _ => ts.length - (intOf i).toNat)
  case atStart => exact ⟨0, Nat.zero_le _, rfl, Below.refl _ _⟩
  case round =>
    obtain ⟨k, hk, rfl, hb⟩ := hrel
    by_cases hlt : k < ts.length
    · obtain ⟨b, off, t, x, rfl, _, hlb, c1, c2, c3, c4, hx, HX, _⟩ := terms_get (h.below hb) hlt
      obtain ⟨b', off', t', x', rfl, _, hlb', c1', c2', c3', c4', hx', HX', _⟩ := terms_get (g.below hb) hlt
      have hff : t' = t := by have e1 := HX.out; have e2 := HX'.out; rw [e1] at e2; injection e2 with e2; exact e2.symm
      subst hff
      have hmem := List.mem_of_getElem? HX.out
      have hi1 : (k : Int) < (ts.length : Int) := by omega
      have hz := hb.size
      clear HX HX'
      go_wp2_with fail
      go_region_held3 (fun w' => w'.cell? ⟨b, off + k * 4, none⟩ = some (.int .i64 t'.op) ∧ w'.cell? ⟨b, off + k * 4 + 1, none⟩ = some (.string t'.name) ∧ w'.cell? ⟨b, off + k * 4 + 2, none⟩ = some (.int .i64 t'.sort) ∧ w'.cell? ⟨b, off + k * 4 + 3, none⟩ = some x ∧
          w'.cell? ⟨b', off' + k * 4, none⟩ = some (.int .i64 t'.op) ∧ w'.cell? ⟨b', off' + k * 4 + 1, none⟩ = some (.string t'.name) ∧ w'.cell? ⟨b', off' + k * 4 + 2, none⟩ = some (.int .i64 t'.sort) ∧ w'.cell? ⟨b', off' + k * 4 + 3, none⟩ = some x') (go_keep)
        (first | (go_at_call 73; refine (IH.out t' hmem _ _ _ ?_ ?_).mono ?_; (exact hx.drew); (exact hx'.drew); rintro e w1 ⟨rfl, hb1⟩; have q1 := (hb1.cell (p := ⟨b, off + k * 4, none⟩) hlb).trans c1; have q2 := (hb1.cell (p := ⟨b, off + k * 4 + 1, none⟩) hlb).trans c2; have q3 := (hb1.cell (p := ⟨b, off + k * 4 + 2, none⟩) hlb).trans c3; have q3' := (hb1.cell (p := ⟨b, off + k * 4 + 3, none⟩) hlb).trans c4; have q4 := (hb1.cell (p := ⟨b', off' + k * 4, none⟩) hlb').trans c1'; have q5 := (hb1.cell (p := ⟨b', off' + k * 4 + 1, none⟩) hlb').trans c2'; have q6 := (hb1.cell (p := ⟨b', off' + k * 4 + 2, none⟩) hlb').trans c3'; have q7 := (hb1.cell (p := ⟨b', off' + k * 4 + 3, none⟩) hlb').trans c4'))
      go_wp2_with fail
      go_roundw
      case rel => exact ⟨k + 1, by omega, by go_num, by repeat (first | with_reducible exact Below.refl _ _ | with_reducible refine Below.setCell ?_ (by first | omega | (simp <;> omega)) _ | with_reducible refine Below.drew ?_ | with_reducible refine below_drewN ?_ _ | with_reducible refine Below.alloc ?_ (by first | omega | (simp <;> omega)) _ | with_reducible refine Below.trans ?_ (Below.mono (by assumption) (by first | omega | (simp <;> omega))))⟩
      case measure => simp [intOf]; omega
    · go_wp2_with fail
      go_ret
      exact ⟨rfl, hb⟩

set_option maxHeartbeats 400000 in
theorem eqTerm_any (t : Tm) : EqT t := by
  induction t using Tm.induct with
  | h o n s args ih =>
    intro w v u h g
    have IH := Lib.hid ih
    clear ih
    obtain ⟨A, c, rfl, hn, hc⟩ := terms_slice h
    obtain ⟨A', c', rfl, hn', hc'⟩ := terms_slice g
    have e1 : (o != o) = false := by simp
    have e2 : (s != s) = false := by simp
    have e4 : (n.toList != n.toList) = false := by simp
    go_enter Try.func73, Try.ntmps73
    go_wp2_with fail
    refine (eqTermS_of args IH.out _ _ _ ((h.alloc _).alloc _) ((g.alloc _).alloc _)).mono ?_
    rintro e w1 ⟨rfl, hb1⟩
    go_wp2_with fail
    go_ret
    exact ⟨rfl, by repeat (first | with_reducible exact Below.refl _ _ | with_reducible refine Below.setCell ?_ (by first | omega | (simp <;> omega)) _ | with_reducible refine Below.drew ?_ | with_reducible refine below_drewN ?_ _ | with_reducible refine Below.alloc ?_ (by first | omega | (simp <;> omega)) _ | with_reducible refine Below.trans ?_ (Below.mono (by assumption) (by first | omega | (simp <;> omega))))⟩
theorem eqTermS_any (ts : List Tm) (w : World) (v u : Value) (h : At w Any (terms ts) v) (g : At w Any (terms ts) u) :
    Calls Try.prog 51 #[v, u] w fun e w' => e = .returned (.bool true) ∧ Below w.heap.size w w' := eqTermS_of ts (fun x _ => eqTerm_any x) w v u h g

set_option maxHeartbeats 1000000 in
theorem eqIntSS_any (xss : List (List Int)) (w : World) (v u : Value) (h : At w Any (rows xss) v) (g : At w Any (rows xss) u) :
    Calls Try.prog 52 #[v, u] w fun e w' => e = .returned (.bool true) ∧ Below w.heap.size w w' := by
  obtain ⟨A, c, rfl, hn, hc⟩ := rows_slice h
  obtain ⟨A', c', rfl, hn', hc'⟩ := rows_slice g
  have hl' : ((xss.length : Int) != (xss.length : Int)) = false := by simp
  go_enter Try.func52, Try.ntmps52
  go_wp2_with fail
  go_loopw [5] (fun i wr => ∃ k : Nat, k ≤ xss.length ∧ i = .int .i64 k ∧ Below w.heap.size w wr) (fun i _ => xss.length - (intOf i).toNat)
  case atStart => exact ⟨0, Nat.zero_le _, rfl, Below.refl _ _⟩
  case round =>
    obtain ⟨k, hk, rfl, hb⟩ := hrel
    by_cases hlt : k < xss.length
    · obtain ⟨b, off, xs, x, rfl, _, hlb, c1, hx, HX⟩ := rows_get (h.below hb) hlt
      obtain ⟨b', off', xs', x', rfl, _, hlb', c1', hx', HX'⟩ := rows_get (g.below hb) hlt
      have hff : xs' = xs := by have e1 := HX.out; have e2 := HX'.out; rw [e1] at e2; injection e2 with e2; exact e2.symm
      subst hff
      obtain ⟨Au, cu, rfl, hnu, hcu⟩ := ints_slice hx
      obtain ⟨Au', cu', rfl, hnu', hcu'⟩ := ints_slice hx'
      have hi1 : (k : Int) < (xss.length : Int) := by omega
      have hz := hb.size
      clear HX HX'
      go_wp2_with fail
      go_region_held3 (fun w' => w'.cell? ⟨b, off + k, none⟩ = some (.slice Au xs'.length cu) ∧ w'.cell? ⟨b', off' + k, none⟩ = some (.slice Au' xs'.length cu')) (go_keep)
        (first | (go_at_call 32; refine (eqIntS_any xs' xs' _ Any Any _ _ ?_ ?_).mono ?_; (exact hx.drew); (exact hx'.drew); rintro e w1 ⟨rfl, hb1⟩; have q1 := (hb1.cell (p := ⟨b, off + k, none⟩) hlb).trans c1; have q4 := (hb1.cell (p := ⟨b', off' + k, none⟩) hlb').trans c1'))
      go_wp2_with fail
      go_roundw
      case rel => exact ⟨k + 1, by omega, by go_num, by repeat (first | with_reducible exact Below.refl _ _ | with_reducible refine Below.setCell ?_ (by first | omega | (simp <;> omega)) _ | with_reducible refine Below.drew ?_ | with_reducible refine below_drewN ?_ _ | with_reducible refine Below.alloc ?_ (by first | omega | (simp <;> omega)) _ | with_reducible refine Below.trans ?_ (Below.mono (by assumption) (by first | omega | (simp <;> omega))))⟩
      case measure => simp [intOf]; omega
    · go_wp2_with fail
      go_ret
      exact ⟨rfl, hb⟩

end Go.Proofs.Ytagnfckihdlhpaa

/-
  What szGraph, toGraph and eqGraph compute.
-/
namespace Go.Proofs.Ytagnfckihdlhpaa
open Go.RowKit

structure Gr where
  states : List Tm
  edges : List (List Int)
  whole : Bool
def Gr.total (g : Gr) : Nat := tmTotals g.states + rowTotals g.edges

set_option maxHeartbeats 400000 in
theorem szGraph_any (g : Gr) (left : Int) (w : World) (v u : Value) (h : At w Any (terms g.states) v) (h' : At w Any (rows g.edges) u) (h0 : -1 ≤ left) (h1 : left ≤ 1048576) :
    Calls Try.prog 20 #[.agg #[v, u, .bool g.whole], .int .i64 left] w fun e w' => e = .returned (.int .i64 (took left g.total)) ∧ Below w.heap.size w w' := by
  obtain ⟨A, c, rfl, hn, hc⟩ := terms_slice h
  obtain ⟨A', c', rfl, hn', hc'⟩ := rows_slice h'
  have hB0 := Blk.new w 45 #[.slice A g.states.length c, .slice A' g.edges.length c', .bool g.whole]
  by_cases hneg : took left (tmTotals g.states) < 0
  · have HR : Hid (took left g.total = -1) := by
      show took left g.total = -1
      unfold Gr.total
      rw [Int.natCast_add]
      exact took_more (by omega) hneg
    go_enter Try.func20, Try.ntmps20
    go_wp2_with fail
    refine (szTermS_any _ _ _ Any _ (h.alloc _) (by omega) (by omega)).mono ?_
    rintro e w1 ⟨rfl, hb1⟩
    go_wp2_with fail
    go_ret
    exact ⟨ret_int HR.out.symm, by repeat (first | with_reducible exact Below.refl _ _ | with_reducible refine Below.setCell ?_ (by first | omega | (simp <;> omega)) _ | with_reducible refine Below.drew ?_ | with_reducible refine below_drewN ?_ _ | with_reducible refine Below.alloc ?_ (by first | omega | (simp <;> omega)) _ | with_reducible refine Below.trans ?_ (Below.mono (by assumption) (by first | omega | (simp <;> omega))))⟩
  · have hr := took_range (left := left) (n := tmTotals g.states) h1 (by omega)
    have HR : Hid (took left g.total = took (took left (tmTotals g.states)) (rowTotals g.edges)) := by
      show took left g.total = _
      unfold Gr.total
      rw [Int.natCast_add]
      exact (took_took (by omega)).symm
    go_enter Try.func20, Try.ntmps20
    go_wp2_with fail
    refine (szTermS_any _ _ _ Any _ (h.alloc _) (by omega) (by omega)).mono ?_
    rintro e w1 ⟨rfl, hb1⟩
    have h2 := (h'.alloc _).below hb1
    have hB1 := hB0.next hb1
    obtain ⟨_, _, _⟩ := hB1.c3
    go_wp2_with fail
    refine (szIntSS_any _ _ _ Any _ h2 (by omega) (by omega)).mono ?_
    rintro e w2 ⟨rfl, hb2⟩
    have z := hb1.size
    simp at z
    go_wp2_with fail
    all_goals go_ret
    · exact ⟨ret_int (by rw [HR.out]; exact (took_neg ‹_›).symm), by repeat (first | with_reducible exact Below.refl _ _ | with_reducible refine Below.setCell ?_ (by first | omega | (simp <;> omega)) _ | with_reducible refine Below.drew ?_ | with_reducible refine below_drewN ?_ _ | with_reducible refine Below.alloc ?_ (by first | omega | (simp <;> omega)) _ | with_reducible refine Below.trans ?_ (Below.mono (by assumption) (by first | omega | (simp <;> omega))))⟩
    · exact ⟨ret_int HR.out.symm, by repeat (first | with_reducible exact Below.refl _ _ | with_reducible refine Below.setCell ?_ (by first | omega | (simp <;> omega)) _ | with_reducible refine Below.drew ?_ | with_reducible refine below_drewN ?_ _ | with_reducible refine Below.alloc ?_ (by first | omega | (simp <;> omega)) _ | with_reducible refine Below.trans ?_ (Below.mono (by assumption) (by first | omega | (simp <;> omega))))⟩

set_option maxHeartbeats 400000 in
theorem toGraph_any (g : Gr) (w : World) (v u : Value) (h : At w Any (terms g.states) v) (h' : At w Any (rows g.edges) u) (h1 : g.total ≤ 1048576) :
    Calls Try.prog 22 #[.agg #[v, u, .bool g.whole]] w fun e w' => ∃ v' u', e = .returned (.agg #[v', u', .bool g.whole]) ∧ At w' (From w.heap.size) (terms g.states) v' ∧ At w' (From w.heap.size) (rows g.edges) u' ∧ Below w.heap.size w w' := by
  obtain ⟨A, c, rfl, hn, hc⟩ := terms_slice h
  obtain ⟨A', c', rfl, hn', hc'⟩ := rows_slice h'
  unfold Gr.total at h1
  have o' := h'.old
  have hB0 := ((Blk.new w 45 #[.slice A g.states.length c, .slice A' g.edges.length c', .bool g.whole]).alloc (.cells #[.slice none 0 0, .slice none 0 0, .bool false] 50)).alloc (.cells #[.slice none 0 0, .slice none 0 0, .bool false] 50)
  have hR0 := (Blk.new (w.alloc (.cells #[.slice A g.states.length c, .slice A' g.edges.length c', .bool g.whole] 45)) 50 #[.slice none 0 0, .slice none 0 0, .bool false]).alloc (.cells #[.slice none 0 0, .slice none 0 0, .bool false] 50)
  have hO0 := Blk.new ((w.alloc (.cells #[.slice A g.states.length c, .slice A' g.edges.length c', .bool g.whole] 45)).alloc (.cells #[.slice none 0 0, .slice none 0 0, .bool false] 50)) 50 #[.slice none 0 0, .slice none 0 0, .bool false]
  rw [World.size_alloc] at hR0
  rw [World.size_alloc, World.size_alloc] at hO0
  go_enter Try.func22, Try.ntmps22
  go_wp2_with fail
  refine (toTermS_any _ _ Any _ (((h.alloc _).alloc _).alloc _) (by omega)).mono ?_
  rintro e w1 ⟨v1, rfl, ha1, hb1⟩
  obtain ⟨A1, c1, rfl, hn1, hcc1⟩ := terms_slice ha1
  have z := hb1.size
  simp at z
  have hB1 := hB0.next hb1
  have hR1 := hR0.next hb1
  have hO1 := hO0.next hb1
  have h2 := ((((o'.alloc _).alloc _).alloc _).below hb1).setCell (p := ⟨w.heap.size + 1 + 1, 0, none⟩) (by simp only [Old]; omega) (.slice A1 g.states.length c1)
  have hB2 := hB1.far (p := ⟨w.heap.size + 1 + 1, 0, none⟩) (by simp only; omega) (.slice A1 g.states.length c1)
  have hR2 := hR1.far (p := ⟨w.heap.size + 1 + 1, 0, none⟩) (by simp only; omega) (.slice A1 g.states.length c1)
  have hO2 : Blk (w1.setCell ⟨w.heap.size + 1 + 1, 0, none⟩ (.slice A1 g.states.length c1)) (w.heap.size + 1 + 1) 50 #[.slice A1 g.states.length c1, .slice none 0 0, .bool false] := hO1.set_ 0 _
  have ha2 := ha1.setCell (p := ⟨w.heap.size + 1 + 1, 0, none⟩) (by simp [From]) (.slice A1 g.states.length c1)
  obtain ⟨_, _, _⟩ := hB1.c3
  obtain ⟨_, _, _⟩ := hO1.c3
  have f0 := hO1.frozen 0
  go_wp2_with fail
  refine (toIntSS_any _ _ _ _ h2 (by omega)).mono ?_
  rintro e w3 ⟨v3, rfl, ha3, hb3⟩
  obtain ⟨A3, c3, rfl, hn3, hcc3⟩ := rows_slice ha3
  have z3 := hb3.size
  simp at z3
  have hB3 := hB2.next hb3
  have hR3 := hR2.next hb3
  have hO3 := hO2.next hb3
  have ha4 := ha2.below hb3
  obtain ⟨_, _, _⟩ := hB3.c3
  obtain ⟨r0, r1, r2⟩ := hR3.c3
  obtain ⟨_, _, _⟩ := hO3.c3
  have f30 := hO3.frozen 1
  have f31 := hO3.frozen 2
  have f32 := hR3.frozen 0
  have f33 := hR3.frozen 1
  have f34 := hR3.frozen 2
  go_wp2_with fail
  refine bodyPost_ret (v := .agg #[.slice A1 g.states.length c1, .slice A3 g.edges.length c3, .bool g.whole]) (by simp [results, Try.results22, go_sem, r0, r1, r2]) rfl ⟨_, _, rfl, ?_, ?_, ?_⟩
  · refine At.mono (((((ha4.setCell ?_ _).setCell ?_ _).setCell ?_ _).setCell ?_ _).setCell ?_ _) ?_ <;> simp [From] <;> omega
  · refine At.mono (((((ha3.setCell ?_ _).setCell ?_ _).setCell ?_ _).setCell ?_ _).setCell ?_ _) ?_ <;> simp [From] <;> omega
  · repeat (first | with_reducible exact Below.refl _ _ | with_reducible refine Below.setCell ?_ (by first | omega | (simp <;> omega)) _ | with_reducible refine Below.drew ?_ | with_reducible refine below_drewN ?_ _ | with_reducible refine Below.alloc ?_ (by first | omega | (simp <;> omega)) _ | with_reducible refine Below.trans ?_ (Below.mono (by assumption) (by first | omega | (simp <;> omega))))

set_option maxHeartbeats 400000 in
theorem eqGraph_any (g : Gr) (w : World) (v u v' u' : Value) (h : At w Any (terms g.states) v) (k : At w Any (rows g.edges) u) (h' : At w Any (terms g.states) v') (k' : At w Any (rows g.edges) u') :
    Calls Try.prog 24 #[.agg #[v, u, .bool g.whole], .agg #[v', u', .bool g.whole]] w fun e w' => e = .returned (.bool true) ∧ Below w.heap.size w w' := by
  obtain ⟨A1, c1, rfl, _⟩ := terms_slice h
  obtain ⟨A2, c2, rfl, _⟩ := rows_slice k
  obtain ⟨A3, c3, rfl, _⟩ := terms_slice h'
  obtain ⟨A4, c4, rfl, _⟩ := rows_slice k'
  have hB0 := (Blk.new w 50 #[.slice A1 g.states.length c1, .slice A2 g.edges.length c2, .bool g.whole]).alloc (.cells #[.slice A3 g.states.length c3, .slice A4 g.edges.length c4, .bool g.whole] 50)
  have hC0 := Blk.new (w.alloc (.cells #[.slice A1 g.states.length c1, .slice A2 g.edges.length c2, .bool g.whole] 50)) 50 #[.slice A3 g.states.length c3, .slice A4 g.edges.length c4, .bool g.whole]
  rw [World.size_alloc] at hC0
  have e1 : (g.whole != g.whole) = false := by simp
  go_enter Try.func24, Try.ntmps24
  go_wp2_with fail
  refine (eqTermS_any _ _ _ _ ((h.alloc _).alloc _) ((h'.alloc _).alloc _)).mono ?_
  rintro e w1 ⟨rfl, hb1⟩
  have z := hb1.size
  simp at z
  have hB1 := hB0.next hb1
  have hC1 := hC0.next hb1
  obtain ⟨_, _, _⟩ := hB1.c3
  obtain ⟨_, _, _⟩ := hC1.c3
  have k1 := ((k.alloc _).alloc _).below hb1
  have k2 := ((k'.alloc _).alloc _).below hb1
  go_wp2_with fail
  refine (eqIntSS_any _ _ _ _ k1 k2).mono ?_
  rintro e w2 ⟨rfl, hb2⟩
  have hB2 := hB1.next hb2
  have hC2 := hC1.next hb2
  obtain ⟨_, _, _⟩ := hB2.c3
  obtain ⟨_, _, _⟩ := hC2.c3
  go_wp2_with fail
  go_ret
  exact ⟨rfl, by repeat (first | with_reducible exact Below.refl _ _ | with_reducible refine Below.setCell ?_ (by first | omega | (simp <;> omega)) _ | with_reducible refine Below.drew ?_ | with_reducible refine below_drewN ?_ _ | with_reducible refine Below.alloc ?_ (by first | omega | (simp <;> omega)) _ | with_reducible refine Below.trans ?_ (Below.mono (by assumption) (by first | omega | (simp <;> omega))))⟩

end Go.Proofs.Ytagnfckihdlhpaa

/-
  What IsGraph answers, in the reference and in the program.
-/
namespace Go.Proofs.Ytagnfckihdlhpaa
open Go.RowKit

/-- What is asked of one row of edges. -/
def okAt (n : Int) (l : List Int) (k : Nat) : Prop := 0 ≤ l.getD k 0 ∧ l.getD k 0 < n ∧ (0 < k → l.getD (k - 1) 0 < l.getD k 0)
instance (n : Int) (l : List Int) (k : Nat) : Decidable (okAt n l k) := by unfold okAt; infer_instance
def okRow (n : Int) (l : List Int) : Bool := decide (∀ k, k < l.length → okAt n l k)
def isGraph (g : Gr) : Bool := decide (1 ≤ g.states.length ∧ g.states.length ≤ 40 ∧ g.edges.length = g.states.length) && g.edges.all (okRow g.states.length)

theorem getD_of {l : List Int} {k : Nat} {x : Int} (h : l[k]? = some x) : l.getD k 0 = x := by simp [List.getD, h]
theorem okRow_false {n : Int} {l : List Int} {k : Nat} (hk : k < l.length) (h : ¬ okAt n l k) : okRow n l = false := by
  simp only [okRow, decide_eq_false_iff_not]
  exact fun hh => h (hh k hk)
theorem okRow_true {n : Int} {l : List Int} (h : ∀ k, k < l.length → okAt n l k) : okRow n l = true := by simp only [okRow, decide_eq_true_eq]; exact h

/-- Whether the number at k of a row is wrong, test by test. -/
theorem okAt_cases {n x : Int} {l : List Int} {k : Nat} (hx : l[k]? = some x) :
    (okAt n l k ∧ 0 ≤ x ∧ x < n ∧ (k = 0 ∨ ∃ j y, k = j + 1 ∧ l[j]? = some y ∧ y < x)) ∨
    (¬ okAt n l k ∧ (x < 0 ∨ (0 ≤ x ∧ n ≤ x) ∨ (0 ≤ x ∧ x < n ∧ ∃ j y, k = j + 1 ∧ l[j]? = some y ∧ x ≤ y))) := by
  have e := getD_of hx
  unfold okAt
  rw [e]
  by_cases h0 : 0 ≤ x
  · by_cases h1 : x < n
    · cases k with
      | zero => exact .inl ⟨⟨h0, h1, fun h => absurd h (by omega)⟩, h0, h1, .inl rfl⟩
      | succ j =>
        have hj : j < l.length := by have := (List.getElem?_eq_some_iff.1 hx).1; omega
        have hy : l[j]? = some l[j] := List.getElem?_eq_getElem hj
        have ey : l.getD (j + 1 - 1) 0 = l[j] := getD_of hy
        rw [ey]
        by_cases h2 : l[j] < x
        · exact .inl ⟨⟨h0, h1, fun _ => h2⟩, h0, h1, .inr ⟨j, _, rfl, hy, h2⟩⟩
        · exact .inr ⟨fun hh => h2 (hh.2.2 (by omega)), .inr (.inr ⟨h0, h1, j, _, rfl, hy, by omega⟩)⟩
    · exact .inr ⟨fun hh => h1 hh.2.1, .inr (.inl ⟨h0, by omega⟩)⟩
  · exact .inr ⟨fun hh => h0 hh.1, .inl (by omega)⟩

theorem ok_step {n : Int} {l : List Int} {j : Nat} (h : ∀ m, m < j → okAt n l m) (h1 : okAt n l j) : ∀ m, m < j + 1 → okAt n l m := fun m hm => by
  by_cases e : m = j
  · subst e; exact h1
  · exact h m (by omega)

set_option maxHeartbeats 2000000 in
theorem implIsGraph_good (g : Gr) (hg1 : 1 ≤ g.states.length) (hg2 : g.states.length ≤ 40) (hg3 : g.edges.length = g.states.length) (w : World) (v u : Value) (h : At w Any (terms g.states) v) (h' : At w Any (rows g.edges) u) :
    Calls Try.prog 23 #[.agg #[v, u, .bool g.whole]] w fun e w' => e = .returned (.bool (g.edges.all (okRow g.states.length))) ∧ Below w.heap.size w w' := by
  obtain ⟨A, c, rfl, hn, hc⟩ := terms_slice h
  obtain ⟨A', c', rfl, hn', hc'⟩ := rows_slice h'
  have hg3' : ((g.edges.length : Int) != (g.states.length : Int)) = false := by rw [bne_eq_false_iff_eq]; omega
  have HG := Lib.hid hg3
  clear hg3
  go_enter Try.func23, Try.ntmps23
  go_wp2_with fail
  go_loop [27] (fun i => ∃ k : Nat, k ≤ g.edges.length ∧ i = .int .i64 k ∧ ∀ l ∈ g.edges.take k, okRow g.states.length l = true) (fun i => g.edges.length - (intOf i).toNat)
  case atStart => exact ⟨0, Nat.zero_le _, rfl, by simp⟩
  case round =>
    obtain ⟨k, hk, rfl, hd⟩ := hrel
    have HD := Lib.hid hd
    clear hd
    by_cases hlt : k < g.edges.length
    · obtain ⟨b, off, xs, x, rfl, _, hlb, c1, hx, HX⟩ := rows_get (h'.alloc (.cells #[.slice A g.states.length c, .slice A' g.edges.length c', .bool g.whole] 50)) hlt
      obtain ⟨Au, cu, rfl, hnu, hcu⟩ := ints_slice hx
      have hmem := List.mem_of_getElem? HX.out
      go_wp2_with fail
      go_loop [33] (fun i => ∃ j : Nat, j ≤ xs.length ∧ i = .int .i64 j ∧ ∀ m, m < j → okAt g.states.length xs m) (fun i => xs.length - (intOf i).toNat)
      case atStart => exact ⟨0, Nat.zero_le _, rfl, fun m hm => by omega⟩
      case round =>
        obtain ⟨j, hj, rfl, hd⟩ := hrel
        have HE := Lib.hid hd
        clear hd
        by_cases hlt2 : j < xs.length
        · obtain ⟨b2, off2, y, rfl, _, hlb2, c2, HY, _⟩ := ints_get hx hlt2
          rcases okAt_cases (n := g.states.length) HY.out with ⟨hok, y0, y1, hj0 | ⟨i, z, rfl, hz, hzy⟩⟩ | ⟨hbad, hcase⟩
          · subst hj0
            rw [Nat.add_zero] at c2
            have HOK := Lib.hid hok
            clear hok
            go_wp2_with fail
            go_round
            case rel => exact ⟨0 + 1, by omega, by go_num, ok_step HE.out HOK.out⟩
            case measure => simp [intOf]; omega
          · have hi : i < xs.length := by omega
            obtain ⟨_, _, z', e2, _, _, c3, HZ, _⟩ := ints_get hx hi
            have ez : z' = z := by have := HZ.out; rw [hz] at this; injection this with this; exact this.symm
            subst ez
            injection e2 with e2
            injection e2 with e3 e4
            subst e3 e4
            clear hz HZ
            have HOK := Lib.hid hok
            clear hok
            go_wp2_with fail
            go_round
            case rel => exact ⟨i + 1 + 1, by omega, by go_num, ok_step HE.out HOK.out⟩
            case measure => simp [intOf]; omega
          · have HF : Hid (g.edges.all (okRow g.states.length) = false) := List.all_eq_false.2 ⟨xs, hmem, by rw [okRow_false hlt2 hbad]; decide⟩
            clear hbad
            rcases hcase with hy | ⟨hy0, hy1⟩ | ⟨hy0, hy1, i, z, rfl, hz, hzy⟩
            · go_wp2_with fail
              go_ret
              exact ⟨ret_bool HF.out.symm, by repeat (first | with_reducible exact Below.refl _ _ | with_reducible refine Below.setCell ?_ (by first | omega | (simp <;> omega)) _ | with_reducible refine Below.drew ?_ | with_reducible refine below_drewN ?_ _ | with_reducible refine Below.alloc ?_ (by first | omega | (simp <;> omega)) _ | with_reducible refine Below.trans ?_ (Below.mono (by assumption) (by first | omega | (simp <;> omega))))⟩
            · go_wp2_with fail
              go_ret
              exact ⟨ret_bool HF.out.symm, by repeat (first | with_reducible exact Below.refl _ _ | with_reducible refine Below.setCell ?_ (by first | omega | (simp <;> omega)) _ | with_reducible refine Below.drew ?_ | with_reducible refine below_drewN ?_ _ | with_reducible refine Below.alloc ?_ (by first | omega | (simp <;> omega)) _ | with_reducible refine Below.trans ?_ (Below.mono (by assumption) (by first | omega | (simp <;> omega))))⟩
            · have hi : i < xs.length := by omega
              obtain ⟨_, _, z', e2, _, _, c3, HZ, _⟩ := ints_get hx hi
              have ez : z' = z := by have := HZ.out; rw [hz] at this; injection this with this; exact this.symm
              subst ez
              injection e2 with e2
              injection e2 with e3 e4
              subst e3 e4
              clear hz HZ
              go_wp2_with fail
              go_ret
              exact ⟨ret_bool HF.out.symm, by repeat (first | with_reducible exact Below.refl _ _ | with_reducible refine Below.setCell ?_ (by first | omega | (simp <;> omega)) _ | with_reducible refine Below.drew ?_ | with_reducible refine below_drewN ?_ _ | with_reducible refine Below.alloc ?_ (by first | omega | (simp <;> omega)) _ | with_reducible refine Below.trans ?_ (Below.mono (by assumption) (by first | omega | (simp <;> omega))))⟩
        · have HOK : Hid (okRow g.states.length xs = true) := okRow_true (fun m hm => HE.out m (by omega))
          go_wp2_with fail
          go_round
          case rel => exact ⟨k + 1, by omega, by go_num, all_take_succ HX.out HD.out HOK.out⟩
          case measure => simp [intOf]; omega
    · have HF : Hid (g.edges.all (okRow g.states.length) = true) := by
        have := HD.out
        rw [List.take_of_length_le (by omega)] at this
        exact List.all_eq_true.2 this
      go_wp2_with fail
      go_ret
      exact ⟨ret_bool HF.out.symm, by repeat (first | with_reducible exact Below.refl _ _ | with_reducible refine Below.setCell ?_ (by first | omega | (simp <;> omega)) _ | with_reducible refine Below.drew ?_ | with_reducible refine below_drewN ?_ _ | with_reducible refine Below.alloc ?_ (by first | omega | (simp <;> omega)) _ | with_reducible refine Below.trans ?_ (Below.mono (by assumption) (by first | omega | (simp <;> omega))))⟩

set_option maxHeartbeats 1000000 in
theorem implIsGraph_any (g : Gr) (w : World) (v u : Value) (h : At w Any (terms g.states) v) (h' : At w Any (rows g.edges) u) :
    Calls Try.prog 23 #[.agg #[v, u, .bool g.whole]] w fun e w' => e = .returned (.bool (isGraph g)) ∧ Below w.heap.size w w' := by
  by_cases hok : 1 ≤ g.states.length ∧ g.states.length ≤ 40 ∧ g.edges.length = g.states.length
  · have e : isGraph g = g.edges.all (okRow g.states.length) := by unfold isGraph; rw [decide_eq_true hok, Bool.true_and]
    rw [e]
    exact implIsGraph_good g hok.1 hok.2.1 hok.2.2 w v u h h'
  · have HF : Hid (isGraph g = false) := by show isGraph g = false; unfold isGraph; rw [decide_eq_false hok, Bool.false_and]
    obtain ⟨A, c, rfl, hn, hc⟩ := terms_slice h
    obtain ⟨A', c', rfl, hn', hc'⟩ := rows_slice h'
    have hcase : g.states.length < 1 ∨ 40 < g.states.length ∨ (1 ≤ g.states.length ∧ g.states.length ≤ 40 ∧ ((g.edges.length : Int) != (g.states.length : Int)) = true) := by rw [bne_iff_ne]; omega
    clear hok
    rcases hcase with h1 | h1 | ⟨h1, h2, h3⟩
    all_goals
      go_enter Try.func23, Try.ntmps23
      go_wp2_with fail
      go_ret
      exact ⟨ret_bool HF.out.symm, by repeat (first | with_reducible exact Below.refl _ _ | with_reducible refine Below.setCell ?_ (by first | omega | (simp <;> omega)) _ | with_reducible refine Below.drew ?_ | with_reducible refine below_drewN ?_ _ | with_reducible refine Below.alloc ?_ (by first | omega | (simp <;> omega)) _ | with_reducible refine Below.trans ?_ (Below.mono (by assumption) (by first | omega | (simp <;> omega))))⟩

end Go.Proofs.Ytagnfckihdlhpaa

/-
  What the reference's IsGraph answers.
-/
namespace Go.Proofs.Ytagnfckihdlhpaa
open Go.RowKit

set_option maxHeartbeats 2000000 in
theorem specIsGraph_good (g : Gr) (hg1 : 1 ≤ g.states.length) (hg2 : g.states.length ≤ 40) (hg3 : g.edges.length = g.states.length) (w : World) (v u : Value) (h : At w Any (terms g.states) v) (h' : At w Any (rows g.edges) u) :
    Calls Try.prog 21 #[.agg #[v, u, .bool g.whole]] w fun e w' => e = .returned (.bool (g.edges.all (okRow g.states.length))) ∧ Below w.heap.size w w' := by
  obtain ⟨A, c, rfl, hn, hc⟩ := terms_slice h
  obtain ⟨A', c', rfl, hn', hc'⟩ := rows_slice h'
  have hg3' : ((g.edges.length : Int) != (g.states.length : Int)) = false := by rw [bne_eq_false_iff_eq]; omega
  have HG := Lib.hid hg3
  clear hg3
  go_enter Try.func21, Try.ntmps21
  go_wp2_with fail
  go_loopw [3] (fun i wr => ∃ k : Nat, k ≤ g.edges.length ∧ i = .int .i64 k ∧ (∀ l ∈ g.edges.take k, okRow g.states.length l = true) ∧ Blk wr w.heap.size 50 #[.slice A g.states.length c, .slice A' g.edges.length c', .bool g.whole] ∧ Below w.heap.size w wr) (fun i _ => g.edges.length - (intOf i).toNat)
  case atStart => exact ⟨0, Nat.zero_le _, rfl, by simp, Blk.new _ _ _, by repeat (first | with_reducible exact Below.refl _ _ | with_reducible refine Below.setCell ?_ (by first | omega | (simp <;> omega)) _ | with_reducible refine Below.drew ?_ | with_reducible refine below_drewN ?_ _ | with_reducible refine Below.alloc ?_ (by first | omega | (simp <;> omega)) _ | with_reducible refine Below.trans ?_ (Below.mono (by assumption) (by first | omega | (simp <;> omega))))⟩
  case round =>
    obtain ⟨k, hk, rfl, hd, hblk, hb⟩ := hrel
    obtain ⟨wo, rfl⟩ : ∃ wo : World, wo = wr := ⟨_, rfl⟩
    have HD := Lib.hid hd
    have HB := Lib.hid hblk
    obtain ⟨b0, b1, b2⟩ := hblk.c3
    clear hd hblk
    by_cases hlt : k < g.edges.length
    · obtain ⟨b, off, xs, x, rfl, _, hlb, c1, hx, HX⟩ := rows_get (h'.below hb) hlt
      obtain ⟨Au, cu, rfl, hnu, hcu⟩ := ints_slice hx
      have hmem := List.mem_of_getElem? HX.out
      go_wp2_with fail
      go_loopw [4] (fun i wi => ∃ j : Nat, j ≤ xs.length ∧ i = .int .i64 j ∧ (∀ m, m < j → okAt g.states.length xs m) ∧ Below wo.heap.size wo wi) (fun i _ => xs.length - (intOf i).toNat)
      case atStart => exact ⟨0, Nat.zero_le _, rfl, fun m hm => by omega, Below.refl _ _⟩
      case round =>
        obtain ⟨j, hj, rfl, hd, hbi⟩ := hrel
        have HE := Lib.hid hd
        clear hd
        have HB2 := Lib.hid (HB.out.next hbi)
        obtain ⟨b0', b1', b2'⟩ := HB2.out.c3
        have c1' := (hbi.cell (p := ⟨b, off + k, none⟩) hlb).trans c1
        have hx2 := hx.below hbi
        have hik : (k : Int) < (g.edges.length : Int) := by omega
        by_cases hlt2 : j < xs.length
        · obtain ⟨b2, off2, y, rfl, _, hlb2, c2, HY, _⟩ := ints_get hx2 hlt2
          have hij : (j : Int) < (xs.length : Int) := by omega
          rcases okAt_cases (n := g.states.length) HY.out with ⟨hok, y0, y1, hj0 | ⟨i, z, rfl, hz, hzy⟩⟩ | ⟨hbad, hcase⟩
          · have hz0 : decide (0 < j) = false := by simp; omega
            have HOK := Lib.hid hok
            clear hok hj0
            have hin : inB y 0 ((g.states.length : Int) - 1) = true := inB_true.2 (by omega)
            go_wp2_with fail
            go_quiet ((go_at_call 39; exact Calls.quiet_of_same ((l1In_any _ _ _ _).mono fun _ _ h => ⟨h.1, h.2.symm⟩)))
            go_wp2_with fail
            go_roundw
            case rel => exact ⟨j + 1, by omega, by go_num, ok_step HE.out HOK.out, below_drewN hbi _⟩
            case measure => simp [intOf]; omega
          · have hi : i < xs.length := by omega
            obtain ⟨_, _, z', e2, _, _, c3, HZ, _⟩ := ints_get hx2 hi
            have ez : z' = z := by have := HZ.out; rw [hz] at this; injection this with this; exact this.symm
            subst ez
            injection e2 with e2
            injection e2 with e3 e4
            subst e3 e4
            clear hz HZ
            have HOK := Lib.hid hok
            clear hok
            have hin : inB y 0 ((g.states.length : Int) - 1) = true := inB_true.2 (by omega)
            have hp : (0 : Int) < ((i + 1 : Nat) : Int) := by omega
            have hw1 : IntKind.i64.wrap (((i + 1 : Nat) : Int) - 1) = ((i : Nat) : Int) := by rw [IntWalk.i64_in _ (by omega)]; omega
            have hzy' : decide (y ≤ z') = false := by simp; omega
            go_wp2_with fail
            go_quiet ((go_at_call 39; exact Calls.quiet_of_same ((l1In_any _ _ _ _).mono fun _ _ h => ⟨h.1, h.2.symm⟩)))
            go_wp2_with fail
            go_roundw
            case rel => exact ⟨i + 1 + 1, by omega, by go_num, ok_step HE.out HOK.out, below_drewN hbi _⟩
            case measure => simp [intOf]; omega
          · have HF : Hid (g.edges.all (okRow g.states.length) = false) := List.all_eq_false.2 ⟨xs, hmem, by rw [okRow_false hlt2 hbad]; decide⟩
            clear hbad
            have hcase2 : inB y 0 ((g.states.length : Int) - 1) = false ∨ (inB y 0 ((g.states.length : Int) - 1) = true ∧ ∃ i z, j = i + 1 ∧ xs[i]? = some z ∧ y ≤ z) := by
              rcases hcase with hy | ⟨hy0, hy1⟩ | ⟨hy0, hy1, hz⟩
              · exact .inl (inB_false.2 (by omega))
              · exact .inl (inB_false.2 (by omega))
              · exact .inr ⟨inB_true.2 (by omega), hz⟩
            clear hcase
            rcases hcase2 with hin | ⟨hin, i, z, rfl, hz, hzy⟩
            · go_wp2_with fail
              go_quiet ((go_at_call 39; exact Calls.quiet_of_same ((l1In_any _ _ _ _).mono fun _ _ h => ⟨h.1, h.2.symm⟩)))
              go_wp2_with fail
              go_ret
              exact ⟨ret_bool HF.out.symm, by have z1 := hb.size; have z2 := HB.out.lt; repeat (first | with_reducible exact Below.refl _ _ | with_reducible refine Below.setCell ?_ (by first | omega | (simp <;> omega)) _ | with_reducible refine Below.drew ?_ | with_reducible refine below_drewN ?_ _ | with_reducible refine Below.alloc ?_ (by first | omega | (simp <;> omega)) _ | with_reducible refine Below.trans ?_ (Below.mono (by assumption) (by first | omega | (simp <;> omega))))⟩
            · have hi : i < xs.length := by omega
              obtain ⟨_, _, z', e2, _, _, c3, HZ, _⟩ := ints_get hx2 hi
              have ez : z' = z := by have := HZ.out; rw [hz] at this; injection this with this; exact this.symm
              subst ez
              injection e2 with e2
              injection e2 with e3 e4
              subst e3 e4
              clear hz HZ
              have hp : (0 : Int) < ((i + 1 : Nat) : Int) := by omega
              have hw1 : IntKind.i64.wrap (((i + 1 : Nat) : Int) - 1) = ((i : Nat) : Int) := by rw [IntWalk.i64_in _ (by omega)]; omega
              have hzy' : decide (y ≤ z') = true := by simp; omega
              go_wp2_with fail
              go_quiet ((go_at_call 39; exact Calls.quiet_of_same ((l1In_any _ _ _ _).mono fun _ _ h => ⟨h.1, h.2.symm⟩)))
              go_wp2_with fail
              go_ret
              exact ⟨ret_bool HF.out.symm, by have z1 := hb.size; have z2 := HB.out.lt; repeat (first | with_reducible exact Below.refl _ _ | with_reducible refine Below.setCell ?_ (by first | omega | (simp <;> omega)) _ | with_reducible refine Below.drew ?_ | with_reducible refine below_drewN ?_ _ | with_reducible refine Below.alloc ?_ (by first | omega | (simp <;> omega)) _ | with_reducible refine Below.trans ?_ (Below.mono (by assumption) (by first | omega | (simp <;> omega))))⟩
        · have HOK : Hid (okRow g.states.length xs = true) := okRow_true (fun m hm => HE.out m (by omega))
          go_wp2_with fail
          go_roundw
          case rel => exact ⟨k + 1, by omega, by go_num, all_take_succ HX.out HD.out HOK.out, HB2.out, by have z1 := hb.size; repeat (first | with_reducible exact Below.refl _ _ | with_reducible refine Below.setCell ?_ (by first | omega | (simp <;> omega)) _ | with_reducible refine Below.drew ?_ | with_reducible refine below_drewN ?_ _ | with_reducible refine Below.alloc ?_ (by first | omega | (simp <;> omega)) _ | with_reducible refine Below.trans ?_ (Below.mono (by assumption) (by first | omega | (simp <;> omega))))⟩
          case measure => simp [intOf]; omega
    · have HF : Hid (g.edges.all (okRow g.states.length) = true) := by
        have := HD.out
        rw [List.take_of_length_le (by omega)] at this
        exact List.all_eq_true.2 this
      go_wp2_with fail
      go_ret
      exact ⟨ret_bool HF.out.symm, hb⟩

set_option maxHeartbeats 1000000 in
theorem specIsGraph_any (g : Gr) (w : World) (v u : Value) (h : At w Any (terms g.states) v) (h' : At w Any (rows g.edges) u) :
    Calls Try.prog 21 #[.agg #[v, u, .bool g.whole]] w fun e w' => e = .returned (.bool (isGraph g)) ∧ Below w.heap.size w w' := by
  by_cases hok : 1 ≤ g.states.length ∧ g.states.length ≤ 40 ∧ g.edges.length = g.states.length
  · have e : isGraph g = g.edges.all (okRow g.states.length) := by unfold isGraph; rw [decide_eq_true hok, Bool.true_and]
    rw [e]
    exact specIsGraph_good g hok.1 hok.2.1 hok.2.2 w v u h h'
  · have HF : Hid (isGraph g = false) := by show isGraph g = false; unfold isGraph; rw [decide_eq_false hok, Bool.false_and]
    obtain ⟨A, c, rfl, hn, hc⟩ := terms_slice h
    obtain ⟨A', c', rfl, hn', hc'⟩ := rows_slice h'
    have hcase : g.states.length < 1 ∨ 40 < g.states.length ∨ (1 ≤ g.states.length ∧ g.states.length ≤ 40 ∧ ((g.edges.length : Int) != (g.states.length : Int)) = true) := by rw [bne_iff_ne]; omega
    clear hok
    rcases hcase with h1 | h1 | ⟨h1, h2, h3⟩
    all_goals
      go_enter Try.func21, Try.ntmps21
      go_wp2_with fail
      go_ret
      exact ⟨ret_bool HF.out.symm, by repeat (first | with_reducible exact Below.refl _ _ | with_reducible refine Below.setCell ?_ (by first | omega | (simp <;> omega)) _ | with_reducible refine Below.drew ?_ | with_reducible refine below_drewN ?_ _ | with_reducible refine Below.alloc ?_ (by first | omega | (simp <;> omega)) _ | with_reducible refine Below.trans ?_ (Below.mono (by assumption) (by first | omega | (simp <;> omega))))⟩

end Go.Proofs.Ytagnfckihdlhpaa

/-
  What the small functions on graphs and lassos compute: l1HasInt, slices.Contains, l32Edges, followers, l31After.
-/
namespace Go.Proofs.Ytagnfckihdlhpaa
open Go.RowKit

def hasB (xs : List Int) (x : Int) : Bool := decide (x ∈ xs)
theorem hasB_true {xs : List Int} {x : Int} (h : x ∈ xs) : hasB xs x = true := decide_eq_true h
theorem hasB_false {xs : List Int} {x : Int} (h : ¬ x ∈ xs) : hasB xs x = false := decide_eq_false h
theorem not_mem_take_all {xs : List Int} {x : Int} {k : Nat} (hk : xs.length ≤ k) (h : ∀ y ∈ xs.take k, y ≠ x) : ¬ x ∈ xs := fun hm => by
  rw [List.take_of_length_le hk] at h
  exact h x hm rfl

set_option maxHeartbeats 400000 in
theorem l1HasInt_any (xs : List Int) (x : Int) (w : World) (v : Value) (h : At w Any (ints xs) v) :
    Calls Try.prog 63 #[v, .int .i64 x] w fun e w' => e = .returned (.bool (hasB xs x)) ∧ w = w' := by
  obtain ⟨A, c, rfl, hn, hc⟩ := ints_slice h
  go_enter Try.func63, Try.ntmps63
  go_wp2_with fail
  go_loop [5] (fun i => ∃ k : Nat, k ≤ xs.length ∧ i = .int .i64 k ∧ ∀ y ∈ xs.take k, y ≠ x) (fun i => xs.length - (intOf i).toNat)
  case atStart => exact ⟨0, Nat.zero_le _, rfl, by simp⟩
  case round =>
    obtain ⟨k, hk, rfl, hd⟩ := hrel
    have HD := Lib.hid hd
    clear hd
    by_cases hlt : k < xs.length
    · obtain ⟨b, off, y, rfl, _, hlb, c1, HY, _⟩ := ints_get h hlt
      by_cases e : y = x
      · subst e
        have e' : (y == y) = true := by simp
        have HF : Hid (hasB xs y = true) := hasB_true (List.mem_of_getElem? HY.out)
        go_wp2_with fail
        go_ret
        exact ⟨ret_bool HF.out.symm, rfl⟩
      · have e' : (y == x) = false := by rw [beq_eq_false_iff_ne]; exact e
        have HE := Lib.hid e
        clear e
        go_wp2_with fail
        go_round
        case rel => exact ⟨k + 1, by omega, by go_num, all_take_succ HY.out HD.out HE.out⟩
        case measure => simp [intOf]; omega
    · have HF : Hid (hasB xs x = false) := hasB_false (not_mem_take_all (by omega) HD.out)
      go_wp2_with fail
      go_ret
      exact ⟨ret_bool HF.out.symm, rfl⟩

/-- The place of the first x, or -1. -/
def indexOf (xs : List Int) (x : Int) : Int := if x ∈ xs then (xs.idxOf x : Int) else -1
theorem indexOf_ge {xs : List Int} {x : Int} : decide (0 ≤ indexOf xs x) = hasB xs x := by
  unfold indexOf hasB
  by_cases h : x ∈ xs
  · rw [if_pos h]; simp [h]
  · rw [if_neg h]; simp [h]
theorem indexOf_at {xs : List Int} {x : Int} {k : Nat} (hx : xs[k]? = some x) (h : ∀ y ∈ xs.take k, y ≠ x) : indexOf xs x = k := by
  have hm := List.mem_of_getElem? hx
  unfold indexOf
  rw [if_pos hm]
  obtain ⟨hk, he⟩ := List.getElem?_eq_some_iff.1 hx
  have e : xs.idxOf x = k := by
    have e1 : xs = xs.take k ++ xs.drop k := (List.take_append_drop k xs).symm
    rw [e1, List.idxOf_append, if_neg (fun hm => h x hm rfl), List.drop_eq_getElem_cons hk, he]
    simp
    omega
  rw [e]
theorem indexOf_range (xs : List Int) (x : Int) : -1 ≤ indexOf xs x ∧ indexOf xs x ≤ xs.length := by
  unfold indexOf
  have := List.idxOf_le_length (a := x) (l := xs)
  split <;> omega

set_option maxHeartbeats 400000 in
theorem slicesIndex_any (xs : List Int) (x : Int) (w : World) (v : Value) (h : At w Any (ints xs) v) :
    Calls Try.prog 78 #[v, .int .i64 x] w fun e w' => e = .returned (.int .i64 (indexOf xs x)) ∧ w = w' := by
  obtain ⟨A, c, rfl, hn, hc⟩ := ints_slice h
  go_enter Try.func78, Try.ntmps78
  go_wp2_with fail
  go_loop [8] (fun i => ∃ k : Nat, k ≤ xs.length ∧ i = .int .i64 k ∧ ∀ y ∈ xs.take k, y ≠ x) (fun i => xs.length - (intOf i).toNat)
  case atStart => exact ⟨0, Nat.zero_le _, rfl, by simp⟩
  case round =>
    obtain ⟨k, hk, rfl, hd⟩ := hrel
    have HD := Lib.hid hd
    clear hd
    by_cases hlt : k < xs.length
    · obtain ⟨b, off, y, rfl, _, hlb, c1, HY, _⟩ := ints_get h hlt
      by_cases e : y = x
      · subst e
        have e' : (y == y) = true := by simp
        have HF : Hid (indexOf xs y = k) := indexOf_at HY.out HD.out
        go_wp2_with fail
        go_ret
        exact ⟨ret_int HF.out.symm, rfl⟩
      · have e' : (x == y) = false := by rw [beq_eq_false_iff_ne]; exact fun h => e h.symm
        have HE := Lib.hid e
        clear e
        go_wp2_with fail
        go_round
        case rel => exact ⟨k + 1, by omega, by go_num, all_take_succ HY.out HD.out HE.out⟩
        case measure => simp [intOf]; omega
    · have HF : Hid (indexOf xs x = -1) := by show indexOf xs x = -1; unfold indexOf; rw [if_neg (not_mem_take_all (by omega) HD.out)]
      go_wp2_with fail
      go_ret
      exact ⟨ret_int HF.out.symm, rfl⟩

theorem slicesContains_any (xs : List Int) (x : Int) (w : World) (v : Value) (h : At w Any (ints xs) v) :
    Calls Try.prog 66 #[v, .int .i64 x] w fun e w' => e = .returned (.bool (hasB xs x)) ∧ w = w' := by
  have HR := Lib.hid (@indexOf_ge xs x)
  obtain ⟨A, c, rfl, hn, hc⟩ := ints_slice h
  go_enter Try.func66, Try.ntmps66
  go_wp2_with fail
  refine (slicesIndex_any xs x _ _ h).mono ?_
  rintro e w' ⟨rfl, rfl⟩
  go_wp2_with fail
  go_ret
  exact ⟨ret_bool HR.out, rfl⟩

/-- The states that may follow one. -/
def follow (g : Gr) (i : Nat) : List Int := if g.edges.getD i [] = [] then [(i : Int)] else g.edges.getD i []

theorem new_ints (w : World) (x : Int) (hx : -9223372036854775808 ≤ x ∧ x ≤ 9223372036854775807) (B : Nat) (hB : B = w.heap.size) : At (w.alloc (.cells #[.int .i64 x] 3)) Any (ints [x]) (.slice (some ⟨B, 0, none⟩) 1 1) := by
  subst hB
  exact ints_mk (xs := [x]) (by simp) (by omega) fun _ => ⟨w.heap.size, 0, rfl, trivial, fun k hk => by
    obtain rfl : k = 0 := by simp at hk; omega
    exact ⟨(Blk.new w 3 #[.int .i64 x]).c1, WalkArith.wf_i64 hx⟩⟩

set_option maxHeartbeats 400000 in
theorem l32Edges_any (g : Gr) (i : Nat) (hi : i < g.edges.length) (w : World) (v u : Value) (h : At w Any (terms g.states) v) (k : At w Any (rows g.edges) u) :
    Calls Try.prog 64 #[.agg #[v, u, .bool g.whole], .int .i64 i] w fun e w' => ∃ v', e = .returned v' ∧ At w' Any (ints (follow g i)) v' ∧ Below w.heap.size w w' := by
  obtain ⟨A, c, rfl, hn, hc⟩ := terms_slice h
  obtain ⟨E, d, rfl, hm, hd⟩ := rows_slice k
  obtain ⟨b, off, xs, x, rfl, _, hlb, c1, hx, HX⟩ := rows_get (k.alloc (.cells #[.slice A g.states.length c, .slice E g.edges.length d, .bool g.whole] 50)) hi
  obtain ⟨Au, cu, rfl, hnu, hcu⟩ := ints_slice hx
  have hg : g.edges.getD i [] = xs := by simp [List.getD, HX.out]
  by_cases e : xs = []
  · have HF : Hid (follow g i = [(i : Int)]) := by show follow g i = _; unfold follow; rw [hg, if_pos e]
    have e' : ((xs.length : Int) == 0) = true := by rw [e]; rfl
    clear e hg
    go_enter Try.func64, Try.ntmps64
    go_wp2_with fail
    go_ret
    refine ⟨_, rfl, ?_, by repeat (first | with_reducible exact Below.refl _ _ | with_reducible refine Below.setCell ?_ (by first | omega | (simp <;> omega)) _ | with_reducible refine Below.drew ?_ | with_reducible refine below_drewN ?_ _ | with_reducible refine Below.alloc ?_ (by first | omega | (simp <;> omega)) _ | with_reducible refine Below.trans ?_ (Below.mono (by assumption) (by first | omega | (simp <;> omega))))⟩
    rw [HF.out]
    exact new_ints _ (i : Int) ⟨by omega, by omega⟩ (w.heap.size + 1) (World.size_alloc _ _).symm
  · have HF : Hid (follow g i = xs) := by show follow g i = _; unfold follow; rw [hg, if_neg e]
    have e' : ((xs.length : Int) == 0) = false := by rw [beq_eq_false_iff_ne]; intro h0; exact e (List.eq_nil_of_length_eq_zero (by omega))
    clear e hg
    go_enter Try.func64, Try.ntmps64
    go_wp2_with fail
    go_ret
    refine ⟨_, rfl, ?_, by repeat (first | with_reducible exact Below.refl _ _ | with_reducible refine Below.setCell ?_ (by first | omega | (simp <;> omega)) _ | with_reducible refine Below.drew ?_ | with_reducible refine below_drewN ?_ _ | with_reducible refine Below.alloc ?_ (by first | omega | (simp <;> omega)) _ | with_reducible refine Below.trans ?_ (Below.mono (by assumption) (by first | omega | (simp <;> omega))))⟩
    rw [HF.out]
    exact hx

set_option maxHeartbeats 400000 in
theorem followers_any (g : Gr) (i : Nat) (hi : i < g.edges.length) (w : World) (v u : Value) (h : At w Any (terms g.states) v) (k : At w Any (rows g.edges) u) :
    Calls Try.prog 67 #[.agg #[v, u, .bool g.whole], .int .i64 i] w fun e w' => ∃ v', e = .returned v' ∧ At w' Any (ints (follow g i)) v' ∧ Below w.heap.size w w' := by
  obtain ⟨A, c, rfl, hn, hc⟩ := terms_slice h
  obtain ⟨E, d, rfl, hm, hd⟩ := rows_slice k
  obtain ⟨b, off, xs, x, rfl, _, hlb, c1, hx, HX⟩ := rows_get (k.alloc (.cells #[.slice A g.states.length c, .slice E g.edges.length d, .bool g.whole] 50)) hi
  obtain ⟨Au, cu, rfl, hnu, hcu⟩ := ints_slice hx
  have hg : g.edges.getD i [] = xs := by simp [List.getD, HX.out]
  by_cases e : xs = []
  · have HF : Hid (follow g i = [(i : Int)]) := by show follow g i = _; unfold follow; rw [hg, if_pos e]
    have e' : ((xs.length : Int) == 0) = true := by rw [e]; rfl
    clear e hg
    go_enter Try.func67, Try.ntmps67
    go_wp2_with fail
    go_ret
    refine ⟨_, rfl, ?_, by repeat (first | with_reducible exact Below.refl _ _ | with_reducible refine Below.setCell ?_ (by first | omega | (simp <;> omega)) _ | with_reducible refine Below.drew ?_ | with_reducible refine below_drewN ?_ _ | with_reducible refine Below.alloc ?_ (by first | omega | (simp <;> omega)) _ | with_reducible refine Below.trans ?_ (Below.mono (by assumption) (by first | omega | (simp <;> omega))))⟩
    rw [HF.out]
    exact new_ints _ (i : Int) ⟨by omega, by omega⟩ (w.heap.size + 1) (World.size_alloc _ _).symm
  · have HF : Hid (follow g i = xs) := by show follow g i = _; unfold follow; rw [hg, if_neg e]
    have e' : ((xs.length : Int) == 0) = false := by rw [beq_eq_false_iff_ne]; intro h0; exact e (List.eq_nil_of_length_eq_zero (by omega))
    clear e hg
    go_enter Try.func67, Try.ntmps67
    go_wp2_with fail
    go_ret
    refine ⟨_, rfl, ?_, by repeat (first | with_reducible exact Below.refl _ _ | with_reducible refine Below.setCell ?_ (by first | omega | (simp <;> omega)) _ | with_reducible refine Below.drew ?_ | with_reducible refine below_drewN ?_ _ | with_reducible refine Below.alloc ?_ (by first | omega | (simp <;> omega)) _ | with_reducible refine Below.trans ?_ (Below.mono (by assumption) (by first | omega | (simp <;> omega))))⟩
    rw [HF.out]
    exact hx

/-- The place behind a place of a lasso. -/
def afterP (n : Nat) (back : Int) (i : Nat) : Int := if i + 1 < n then (i + 1 : Nat) else back

set_option maxHeartbeats 400000 in
theorem l31After_any (xs : List Int) (back : Int) (i : Nat) (hi : i < xs.length) (w : World) (v : Value) (h : At w Any (ints xs) v) :
    Calls Try.prog 65 #[.agg #[v, .int .i64 back], .int .i64 i] w fun e w' => e = .returned (.int .i64 (afterP xs.length back i)) ∧ Below w.heap.size w w' := by
  obtain ⟨A, c, rfl, hn, hc⟩ := ints_slice h
  by_cases e : i + 1 < xs.length
  · have HF : Hid (afterP xs.length back i = (i + 1 : Nat)) := by show afterP _ _ _ = _; unfold afterP; rw [if_pos e]
    go_enter Try.func65, Try.ntmps65
    go_wp2_with fail
    go_ret
    exact ⟨ret_int (by rw [HF.out]; omega), by repeat (first | with_reducible exact Below.refl _ _ | with_reducible refine Below.setCell ?_ (by first | omega | (simp <;> omega)) _ | with_reducible refine Below.drew ?_ | with_reducible refine below_drewN ?_ _ | with_reducible refine Below.alloc ?_ (by first | omega | (simp <;> omega)) _ | with_reducible refine Below.trans ?_ (Below.mono (by assumption) (by first | omega | (simp <;> omega))))⟩
  · have HF : Hid (afterP xs.length back i = back) := by show afterP _ _ _ = _; unfold afterP; rw [if_neg e]
    go_enter Try.func65, Try.ntmps65
    go_wp2_with fail
    go_ret
    exact ⟨ret_int HF.out.symm, by repeat (first | with_reducible exact Below.refl _ _ | with_reducible refine Below.setCell ?_ (by first | omega | (simp <;> omega)) _ | with_reducible refine Below.drew ?_ | with_reducible refine below_drewN ?_ _ | with_reducible refine Below.alloc ?_ (by first | omega | (simp <;> omega)) _ | with_reducible refine Below.trans ?_ (Below.mono (by assumption) (by first | omega | (simp <;> omega))))⟩

end Go.Proofs.Ytagnfckihdlhpaa

/-
  Slices of bools, and a row of such slices that a call builds by append.
-/
namespace Go.Proofs.Ytagnfckihdlhpaa
open Go.RowKit

def bools (bs : List Bool) : D := .row bs.length (bs.map fun x => .lit (.bool x))
theorem bools_slice {w : World} {S : Nat → Prop} {bs : List Bool} {v : Value} (h : At w S (bools bs) v) : ∃ A c, v = .slice A bs.length c ∧ bs.length ≤ c ∧ c ≤ 9223372036854775807 := h.slice
theorem bools_get {w : World} {S : Nat → Prop} {bs : List Bool} {A : Option Addr} {n c k : Nat} (h : At w S (bools bs) (.slice A n c)) (hk : k < bs.length) :
    ∃ b off x, A = some ⟨b, off, none⟩ ∧ S b ∧ b < w.heap.size ∧ w.cell? ⟨b, off + k, none⟩ = some (.bool x) ∧ Hid (bs[k]? = some x) := by
  have hn : n = bs.length := by obtain ⟨_, _, e, _⟩ := bools_slice h; injection e
  subst hn
  obtain ⟨b, off, e, hs, hlt, hc⟩ := At.cellAt h (by simp; omega)
  obtain ⟨u, hu, ha⟩ := hc k (.lit (.bool bs[k])) (by simp [hk])
  obtain ⟨rfl, _⟩ := at_lit.1 ha
  exact ⟨b, off, bs[k], e, hs, hlt, hu, List.getElem?_eq_getElem hk⟩
theorem bools_mk {w : World} {S : Nat → Prop} {bs : List Bool} {A : Option Addr} {c : Nat} (hn : bs.length ≤ c) (hc : c ≤ 9223372036854775807)
    (h : 0 < bs.length → ∃ b off, A = some ⟨b, off, none⟩ ∧ S b ∧ ∀ k x, bs[k]? = some x → w.cell? ⟨b, off + k, none⟩ = some (.bool x)) :
    At w S (bools bs) (.slice A bs.length c) := by
  refine at_row.2 ⟨A, c, rfl, hn, hc, fun hp => ?_⟩
  obtain ⟨b, off, e, hs, hk⟩ := h (by simpa using hp)
  refine ⟨b, off, e, hs, fun k hlt => ?_⟩
  have hlt' : k < bs.length := by simpa using hlt
  refine ⟨_, hk k bs[k] (List.getElem?_eq_getElem hlt'), ?_⟩
  simp only [List.getElem_map]
  exact at_lit.2 ⟨rfl, trivial⟩

/-- The answers of a formula at all places. -/
def holdL (n back : Nat) (lab : Nat → Int) (f : Fm) : List Bool := (List.range n).map (Fm.hold n back lab f)
theorem holdL_len (n back : Nat) (lab : Nat → Int) (f : Fm) : (holdL n back lab f).length = n := by simp [holdL]
theorem holdL_at {n back : Nat} {lab : Nat → Int} {f : Fm} {k : Nat} {x : Bool} (h : (holdL n back lab f)[k]? = some x) : x = Fm.hold n back lab f k := by
  have hk : k < n := by have := (List.getElem?_eq_some_iff.1 h).1; simpa [holdL_len] using this
  simp [holdL, hk] at h
  exact h.symm

/-- The blocks from B on, but the row's own. -/
def Beside (B : Nat) (v : Value) : Nat → Prop := fun b => B ≤ b ∧ some b ≠ v.ownBlock

/-- A row of j slices of bools, built by append: their data are the first j of bss. -/
def KidRow (w : World) (B : Nat) (kv : Value) (j : Nat) (bss : List (List Bool)) : Prop :=
  ∃ vs, w.ownsRow B 89 1 kv j vs ∧ vs.length = j ∧ ∀ (t : Nat) (v : Value), vs[t]? = some v → ∃ bs, bss[t]? = some bs ∧ At w (Beside B kv) (bools bs) v

theorem KidRow.below {w w' : World} {B : Nat} {kv : Value} {j : Nat} {bss : List (List Bool)} (h : KidRow w B kv j bss) (hb : Below w.heap.size w w') : KidRow w' B kv j bss := by
  obtain ⟨vs, h1, h2, h3⟩ := h
  refine ⟨vs, ?_, h2, fun t v ht => ?_⟩
  · have hg : w.grownBy w' none := ⟨hb.os, hb.tape, hb.output, hb.size, fun k hk _ => hb.block k hk⟩
    refine h1.kept hg ?_
    cases kv.ownBlock with
    | none => exact .inl rfl
    | some b => exact .inr (by simp)
  · obtain ⟨bs, e, ha⟩ := h3 t v ht
    exact ⟨bs, e, ha.below hb⟩

/-- What an append makes of the row. -/
theorem KidRow.step {w w2 w3 : World} {B : Nat} {kv : Value} {j : Nat} {bss : List (List Bool)} {bs : List Bool} {v : Value} {g cap H : Nat} (h : KidRow w B kv j bss) (hB : B ≤ w.heap.size) (hb : Below w.heap.size w w2)
    (hv : At w2 (From w.heap.size) (bools bs) v) (hbs : bss[j]? = some bs)
    (vs : List Value) (hvs : w2.ownsRow B 89 1 kv j vs)
    (hown : w3.ownsRow B 89 1 (.slice (some ⟨g, 0, none⟩) (j + 1) cap) (j + 1) (vs ++ [v])) (hg : w2.grownBy w3 kv.ownBlock) (hat : kv.ownBlock = some g ∨ g = H) (hH : w2.heap.size = H) :
    KidRow w3 B (.slice (some ⟨g, 0, none⟩) (j + 1) cap) (j + 1) bss := by
  obtain ⟨vs', h1, h2, h3⟩ := h.below hb
  have hlv : vs.length = j := by have := hvs.1; simpa using this
  have evs : vs' = vs := by
    have l2 : vs'.length = vs.length := by omega
    rcases h1.2 with ⟨rfl, h0⟩ | ⟨g', cap', cur, e1, _, hh, _, _, _, ht⟩
    · have : vs = [] := List.eq_nil_of_length_eq_zero (by omega)
      have : vs' = [] := List.eq_nil_of_length_eq_zero (by omega)
      simp_all
    · rcases hvs.2 with ⟨e2, _⟩ | ⟨g'', cap'', cur'', e2, _, hh', _, _, _, ht'⟩
      · rw [e1] at e2; cases e2
      · rw [e1] at e2
        injection e2 with e3
        injection e3 with e3
        injection e3 with e3
        subst e3
        rw [hh] at hh'
        injection hh' with hh'
        injection hh' with hh'
        subst hh'
        rw [← ht, ← ht']
  subst evs
  have keep : ∀ {d : D} {u : Value} {S : Nat → Prop}, (∀ b, S b → b < w2.heap.size → B ≤ b ∧ some b ≠ kv.ownBlock) → At w2 S d u → At w3 (Beside B (.slice (some ⟨g, 0, none⟩) (j + 1) cap)) d u := by
    intro d u S hS ha
    refine ha.keep (fun b o hb' hlt => World.cell?_of_block (hg.block b hlt (hS b hb' hlt).2)) (fun b hb' hlt => ⟨(hS b hb' hlt).1, ?_⟩)
    simp only [Value.ownBlock, ne_eq, Option.some.injEq]
    rintro rfl
    rcases hat with e | e
    · exact (hS b hb' hlt).2 e.symm
    · omega
  refine ⟨_, hown, by simp [hlv], fun t u ht => ?_⟩
  by_cases e : t < vs'.length
  · rw [List.getElem?_append_left e] at ht
    obtain ⟨bs', e', ha⟩ := h3 t u ht
    exact ⟨bs', e', keep (fun b hb' _ => hb') ha⟩
  · have et : t = vs'.length := by
      have := (List.getElem?_eq_some_iff.1 ht).1
      simp at this
      omega
    subst et
    simp at ht
    subst ht
    refine ⟨bs, by rw [hlv]; exact hbs, keep (fun b hb' hlt => ⟨by have : w.heap.size ≤ b := hb'; omega, ?_⟩) hv⟩
    intro e2
    obtain ⟨_, h10, _⟩ := h
    have := (h10.lt b e2.symm).2
    have : w.heap.size ≤ b := hb'
    omega

theorem Blk.grown {w w' : World} {g : Nat} {t : TypeId} {cs : Array Value} {row : Option Nat} (h : Blk w g t cs) (hb : w.grownBy w' row) (hg : some g ≠ row) : Blk w' g t cs := (hb.block g h.lt hg).trans h

/-- A round that calls, lays the answer into a block of its own and appends it. -/
theorem KidRow.round {wr w1 w3 : World} {B : Nat} {kv : Value} {j : Nat} {bss : List (List Bool)} {bs : List Bool} {v : Value} {g cap : Nat} {o : Obj} (h : KidRow wr B kv j bss) (hB : B ≤ wr.heap.size) (hb : Below wr.heap.size wr w1)
    (hv : At w1 (From wr.heap.size) (bools bs) v) (hbs : bss[j]? = some bs) (vs : List Value) (hvs : (w1.alloc o).ownsRow B 89 1 kv j vs)
    (hown : w3.ownsRow B 89 1 (.slice (some ⟨g, 0, none⟩) (j + 1) cap) (j + 1) (vs ++ [v])) (hg : (w1.alloc o).grownBy w3 kv.ownBlock) (hat : kv.ownBlock = some g ∨ g = w1.heap.size + 1) :
    KidRow w3 B (.slice (some ⟨g, 0, none⟩) (j + 1) cap) (j + 1) bss ∧ Below B wr w3 ∧ (∀ x t cs, x < B → Blk wr x t cs → Blk w3 x t cs) := by
  have hsz := hb.size
  have hb2 : Below wr.heap.size wr (w1.alloc o) := hb.alloc (by omega) o
  have hrow : ∀ k, kv.ownBlock = some k → B ≤ k := fun k hk => (hvs.lt k hk).1
  refine ⟨h.step hB hb2 (hv.alloc o) hbs vs hvs hown hg hat (World.size_alloc _ _), ?_, fun x t cs hx hX => ?_⟩
  · exact (hb2.mono hB).grown hg (by simp; omega) hrow
  · exact (hX.next hb2).grown hg (fun e => by have := hrow x e.symm; omega)

theorem KidRow.nil (w : World) (B : Nat) (bss : List (List Bool)) : KidRow w B (.slice none 0 0) 0 bss := ⟨[], World.ownsRow_nil _ _ _ _, rfl, fun t v h => by simp at h⟩
theorem KidRow.none_ {w : World} {B g c : Nat} (bss : List (List Bool)) (hb : B ≤ g) (h : Blk w g 89 #[]) (hc : c = 0) : KidRow w B (.slice (some ⟨g, 0, none⟩) 0 c) 0 bss := by
  subst hc
  exact ⟨[], ⟨by simp, .inr ⟨g, 0, #[], rfl, hb, h, Nat.le_refl _, by unfold maxLen; omega, by simp, by simp⟩⟩, rfl, fun t v h => by simp at h⟩

/-- One slice of the row. -/
theorem KidRow.get {w : World} {B : Nat} {kv : Value} {j : Nat} {bss : List (List Bool)} (h : KidRow w B kv j bss) {t : Nat} (ht : t < j) :
    ∃ g cap bs v, kv = .slice (some ⟨g, 0, none⟩) j cap ∧ j ≤ cap ∧ B ≤ g ∧ g < w.heap.size ∧ bss[t]? = some bs ∧ w.cell? ⟨g, t, none⟩ = some v ∧ At w (Beside B kv) (bools bs) v := by
  obtain ⟨vs, h1, h2, h3⟩ := h
  obtain ⟨g, cap, e, hb, hlt⟩ := h1.form (by omega)
  have hv : vs[t]? = some (vs[t]'(by omega)) := List.getElem?_eq_getElem (by omega)
  obtain ⟨bs, e2, ha⟩ := h3 t _ hv
  subst e
  have hc := h1.cells (g := g) rfl t _ hv
  have hcap : j ≤ cap := by
    rcases h1.2 with ⟨e, _⟩ | ⟨g', cap', cur, e, _, _, hle, _⟩
    · cases e
    · injection e with _ _ e; omega
  have ea : (⟨g, 0, none⟩ : Addr).add t = ⟨g, t, none⟩ := by
    unfold Addr.add
    split
    · subst_vars; rfl
    · simp
  rw [ea] at hc
  exact ⟨g, cap, bs, _, rfl, hcap, hb, hlt, e2, hc, ha⟩

/-- The first i cells hold f, the others false. -/
def Filled (cs : Array Value) (n i : Nat) (f : Nat → Bool) : Prop := cs.size = n ∧ (∀ k, k < i → cs[k]? = some (.bool (f k))) ∧ ∀ k, i ≤ k → k < n → cs[k]? = some (.bool false)
theorem Filled.start (n : Nat) (f : Nat → Bool) : Filled (madeCells #[.bool false] n) n 0 f :=
  ⟨made_size _ _, fun k h => by omega, fun k _ h => by simp [madeCells, h, Nat.mod_one]⟩
theorem Filled.step {cs : Array Value} {n i : Nat} {f : Nat → Bool} (h : Filled cs n i f) (hi : i < n) : Filled (cs.setIfInBounds i (.bool (f i))) n (i + 1) f := by
  obtain ⟨h1, h2, h3⟩ := h
  refine ⟨by simpa using h1, fun k hk => ?_, fun k hk hk2 => ?_⟩
  · by_cases e : k = i
    · subst e; simp [h1, hi]
    · rw [Array.getElem?_setIfInBounds_ne (by omega)]; exact h2 k (by omega)
  · rw [Array.getElem?_setIfInBounds_ne (by omega)]; exact h3 k (by omega) hk2
theorem Filled.to {cs : Array Value} {n i : Nat} {f : Nat → Bool} (h : Filled cs n i f) (hi : i < n) {x : Bool} (hx : f i = x) : Filled (cs.setIfInBounds i (.bool x)) n (i + 1) f := by
  subst hx
  exact h.step hi
theorem Filled.skip {cs : Array Value} {n i : Nat} (h : Filled cs n i fun _ => false) (hi : i < n) : Filled cs n (i + 1) fun _ => false := by
  obtain ⟨h1, h2, h3⟩ := h
  refine ⟨h1, fun k hk => ?_, fun k hk hk2 => h3 k (by omega) hk2⟩
  by_cases e : k = i
  · subst e; exact h3 k (Nat.le_refl _) hi
  · exact h2 k (by omega)
theorem Filled.at_ {cs : Array Value} {n i : Nat} {f : Nat → Bool} (h : Filled cs n i f) {k : Nat} (hk : k < n) : ∃ u, cs[k]? = some u := ⟨_, Array.getElem?_eq_getElem (by rw [h.1]; exact hk)⟩
theorem Filled.all {cs : Array Value} {n : Nat} {f : Nat → Bool} {w : World} {O : Nat} {B : Nat} (h : Filled cs n n f) (hO : Blk w O 4 cs) (hB : B ≤ O) (hn : n ≤ 9223372036854775807) :
    At w (From B) (bools ((List.range n).map f)) (.slice (some ⟨O, 0, none⟩) n n) := by
  have hl : ((List.range n).map f).length = n := by simp
  have := bools_mk (w := w) (S := From B) (bs := (List.range n).map f) (A := some ⟨O, 0, none⟩) (c := n) (by omega) hn (fun _ => ⟨O, 0, rfl, hB, fun k x hx => by
    have hk : k < n := by have := (List.getElem?_eq_some_iff.1 hx).1; simpa using this
    simp [hk] at hx
    subst hx
    rw [Nat.zero_add, hO.cell]
    exact h.2.1 k hk⟩)
  rwa [hl] at this

end Go.Proofs.Ytagnfckihdlhpaa

/-
  What the program's places computes: the first loop.
-/
namespace Go.Proofs.Ytagnfckihdlhpaa
open Go.RowKit

/-- What HoldsOn asks of a lasso and of labels. -/
structure LassoOK (xs : List Int) (back : Nat) (ls : List Int) : Prop where
  pos : 1 ≤ xs.length
  le : xs.length ≤ 40
  back : back < xs.length
  states : ∀ x ∈ xs, 0 ≤ x ∧ x < ls.length
  labels : ∀ l ∈ ls, 0 ≤ l ∧ l ≤ 255

def labAt (xs ls : List Int) (i : Nat) : Int := ls.getD (xs.getD i 0).toNat 0

theorem Try.infoBools : (Try.prog.info? 89).map (fun i => (i.zero, i.size, i.bytes)) = some (some (.slice none 0 0), 1, 24) := by kernel_rfl
theorem Try.infoBool : (Try.prog.info? 4).map (fun i => (i.zero, i.size, i.bytes)) = some (some (.bool false), 1, 1) := by kernel_rfl

/-- The answer of the formula below at place t of a node. -/
def kidH (xs : List Int) (back : Nat) (ls : List Int) (kids : List Fm) (t k : Nat) : Bool := ((kids.map (Fm.hold xs.length back (labAt xs ls))).getD t fun _ => false) k

theorem KidRow.cell {w w2 : World} {B : Nat} {kv : Value} {j : Nat} {xs : List Int} {back : Nat} {ls : List Int} {kids : List Fm} (h : KidRow w B kv j (kids.map (holdL xs.length back (labAt xs ls)))) (hb : Below w.heap.size w w2) {t k : Nat} (ht : t < j) (hk : k < xs.length) :
    ∃ g cap b off c, kv = .slice (some ⟨g, 0, none⟩) j cap ∧ g < w.heap.size ∧ b < w.heap.size ∧ w2.cell? ⟨g, t, none⟩ = some (.slice (some ⟨b, off, none⟩) xs.length c) ∧ xs.length ≤ c ∧ w2.cell? ⟨b, off + k, none⟩ = some (.bool (kidH xs back ls kids t k)) := by
  obtain ⟨g, cap, bs, v, e, _, _, hg, hbs, hc, ha⟩ := h.get ht
  have ek : ∃ f, kids[t]? = some f ∧ bs = holdL xs.length back (labAt xs ls) f := by
    rw [List.getElem?_map] at hbs
    cases hf : kids[t]? with
    | none => simp [hf] at hbs
    | some f => simp [hf] at hbs; exact ⟨f, rfl, hbs.symm⟩
  obtain ⟨f, hf, rfl⟩ := ek
  obtain ⟨Av, cv, rfl, hcv, _⟩ := bools_slice ha
  rw [holdL_len] at hcv
  obtain ⟨b, off, x, rfl, _, hlb, hx, HX⟩ := bools_get ha (k := k) (by rw [holdL_len]; exact hk)
  have ex := holdL_at HX.out
  have ekid : kidH xs back ls kids t k = x := by unfold kidH; simp [List.getD, hf, ex]
  refine ⟨g, cap, b, off, cv, e, hg, hlb, ?_, hcv, ?_⟩
  · rw [hb.cell (p := ⟨g, t, none⟩) hg, hc, holdL_len]
  · rw [hb.cell (p := ⟨b, off + k, none⟩) hlb, hx, ekid]

def PlacesF (xs : List Int) (back : Nat) (ls : List Int) (f : Fm) : Prop := ∀ (w : World) (v s lv : Value), At w Any (forms f.kids) v → At w Any (ints xs) s → At w Any (ints ls) lv → f.ok = true →
    Calls Try.prog 60 #[.agg #[.int .i64 f.kind, .int .i64 f.prop, v], .agg #[s, .int .i64 back], lv] w fun e w' => ∃ v', e = .returned v' ∧ At w' (From w.heap.size) (bools (holdL xs.length back (labAt xs ls) f)) v' ∧ Below w.heap.size w w'

set_option maxRecDepth 100000 in
set_option maxHeartbeats 4000000 in
theorem places_1 (xs : List Int) (back : Nat) (ls : List Int) (hl : LassoOK xs back ls) (q : Int) (kids : List Fm) (hk : kids.length = 0) (hkok : ∀ x ∈ kids, x.ok = true) (ih : ∀ x ∈ kids, PlacesF xs back ls x) (_hq0 : 0 ≤ q) (_hq7 : q ≤ 7) (w : World) (v s lv : Value)
    (h : At w Any (forms kids) v) (l : At w Any (ints xs) s) (m : At w Any (ints ls) lv) :
    Calls Try.prog 60 #[.agg #[.int .i64 1, .int .i64 q, v], .agg #[s, .int .i64 back], lv] w fun e w' => ∃ v', e = .returned v' ∧ At w' (From w.heap.size) (bools (holdL xs.length back (labAt xs ls) ⟨1, q, kids⟩)) v' ∧ Below w.heap.size w w' := by
  obtain ⟨A, c, rfl, hn, hc⟩ := forms_slice h
  obtain ⟨L, d, rfl, hnl, hcl⟩ := ints_slice l
  obtain ⟨M, e, rfl, hnm, hcm⟩ := ints_slice m
  have hB0 := (Blk.new w 38 #[.int .i64 1, .int .i64 q, .slice A kids.length c]).alloc (.cells #[.slice L xs.length d, .int .i64 back] 27)
  have hC0 := Blk.new (w.alloc (.cells #[.int .i64 1, .int .i64 q, .slice A kids.length c] 38)) 27 #[.slice L xs.length d, .int .i64 back]
  rw [World.size_alloc] at hC0
  have hks : kids.length ≤ 2 := by omega
  have hxl := hl.le
  have IH := Lib.hid ih
  have HK := Lib.hid hkok
  have HKL := Lib.hid hk
  clear ih hkok hk
  go_enter Try.func60, Try.ntmps60
  go_wp2_with fail
  go_loopw [7, 20] (fun kv t wr => ∃ j : Nat, j ≤ kids.length ∧ t = .int .i64 j ∧ KidRow wr (w.heap.size + 1 + 1) kv j (kids.map (holdL xs.length back (labAt xs ls))) ∧ w.heap.size + 1 + 1 ≤ wr.heap.size ∧
      Blk wr w.heap.size 38 #[.int .i64 1, .int .i64 q, .slice A kids.length c] ∧ Blk wr (w.heap.size + 1) 27 #[.slice L xs.length d, .int .i64 back] ∧ Below w.heap.size w wr) (fun _ t _ => kids.length - (intOf t).toNat)
  case atStart =>
    refine ⟨0, Nat.zero_le _, rfl, KidRow.none_ _ (Nat.le_refl _) ?_ rfl, by simp, hB0.alloc _, hC0.alloc _, by repeat (first | with_reducible exact Below.refl _ _ | with_reducible refine Below.setCell ?_ (by first | omega | (simp <;> omega)) _ | with_reducible refine Below.drew ?_ | with_reducible refine below_drewN ?_ _ | with_reducible refine Below.alloc ?_ (by first | omega | (simp <;> omega)) _ | with_reducible refine Below.trans ?_ (Below.mono (by assumption) (by first | omega | (simp <;> omega))))⟩
    have := Blk.new ((w.alloc (.cells #[.int .i64 1, .int .i64 q, .slice A kids.length c] 38)).alloc (.cells #[.slice L xs.length d, .int .i64 back] 27)) 89 #[]
    rwa [World.size_alloc, World.size_alloc] at this
  case round =>
    obtain ⟨j, hj, rfl, hkr, hsz, hB, hC, hb⟩ := hrel
    obtain ⟨kv, rfl⟩ : ∃ kv : Value, kv = u7 := ⟨_, rfl⟩
    have HKR := Lib.hid hkr
    clear hkr
    by_cases hlt : j < kids.length
    · obtain ⟨b, off, f, u, rfl, _, hlb, hc1, hc2, hc3, hu, HX, _⟩ := forms_get (h.below hb) hlt
      obtain ⟨Au, cu, rfl, hnu, hcu⟩ := forms_slice hu
      have hmem := List.mem_of_getElem? HX.out
      obtain ⟨q4, q5⟩ := hC.c2
      have hC1 := hC.alloc (.cells #[.int .i64 f.kind, .int .i64 f.prop, .slice Au f.kids.length cu] 38)
      have l1 := (l.below hb).alloc (.cells #[.int .i64 f.kind, .int .i64 f.prop, .slice Au f.kids.length cu] 38)
      have m1 := (m.below hb).alloc (.cells #[.int .i64 f.kind, .int .i64 f.prop, .slice Au f.kids.length cu] 38)
      have hu1 := hu.alloc (.cells #[.int .i64 f.kind, .int .i64 f.prop, .slice Au f.kids.length cu] 38)
      have HKR1 := Lib.hid (HKR.out.below ((Below.refl wr.heap.size wr).alloc (Nat.le_refl _) (.cells #[.int .i64 f.kind, .int .i64 f.prop, .slice Au f.kids.length cu] 38)))
      obtain ⟨_, _⟩ := hC1.c2
      go_wp2_with fail
      refine (IH.out f hmem _ _ _ _ hu1 l1 m1 (HK.out f hmem)).mono ?_
      rintro e w1 ⟨v', rfl, ha, hb1⟩
      obtain ⟨A', c', rfl, hn', hc'⟩ := bools_slice ha
      have z1 := hb1.size
      simp at z1
      have hBs : KidRow (w1.alloc (.cells #[.slice A' (holdL xs.length back (labAt xs ls) f).length c'] 89)) (w.heap.size + 1 + 1) kv j (kids.map (holdL xs.length back (labAt xs ls))) := (HKR1.out.below hb1).below ((Below.refl _ _).alloc (Nat.le_refl _) _)
      obtain ⟨vs, hown, hvl, hvs⟩ := hBs
      have HOW := Lib.hid hown
      have hnews := World.news_of_block (heap_alloc_new w1 (.cells #[.slice A' (holdL xs.length back (labAt xs ls) f).length c'] 89))
      have HNW := Lib.hid hnews
      have HVS := Lib.hid hvs
      obtain ⟨i0, hi, hz0, hz1, hz2⟩ := info_parts Try.infoBools
      clear hown hnews hvs
      go_wp2_with (at_builtin; refine wpList_append_lies _ rfl _ _ _ rfl (w.heap.size + 1 + 1) 89 i0 (.slice none 0 0) 1 24 Try.underlying107 hi hz0 hz1 hz2 rfl (by omega) kv j vs rfl HOW.out ⟨w1.heap.size, 0, none⟩ 1 1 [.slice A' (holdL xs.length back (labAt xs ls) f).length c'] rfl rfl HNW.out (by simp [Value.oneCell']) (by omega) (by unfold maxLen; omega) (by omega) (by simp; omega) (w1.heap.size + 1) (World.size_alloc _ _) ?_; intro g cap w3 hown3 hgrow3 hat3 hlt3)
      go_wp2_with fail
      go_roundw
      case rel =>
        obtain ⟨r1, r2, r3⟩ := HKR1.out.round (by simp; omega) hb1 ha (by simp [HX.out]) vs HOW.out hown3 hgrow3 hat3
        have z3 := r2.size
        simp at z3
        exact ⟨j + 1, by omega, by go_num, r1, by omega, r3 _ _ _ (by omega) (hB.alloc _), r3 _ _ _ (by omega) hC1, by repeat (first | with_reducible exact Below.refl _ _ | with_reducible refine Below.setCell ?_ (by first | omega | (simp <;> omega)) _ | with_reducible refine Below.drew ?_ | with_reducible refine below_drewN ?_ _ | with_reducible refine Below.alloc ?_ (by first | omega | (simp <;> omega)) _ | with_reducible refine Below.trans ?_ (Below.mono (by assumption) (by first | omega | (simp <;> omega))))⟩
      case measure => simp [intOf]; omega
    · have hjk : j = kids.length := by omega
      subst hjk
      have hmk := run_make_row' (P := Try.prog) 89 4 _ 1 Try.underlying89 Try.infoBool rfl .i64 .i64 xs.length (by omega) (by omega)
      have hbo : Below wr.heap.size wr ((wr.alloc (.cells #[.int .i64 xs.length] 3)).alloc (.cells (madeCells #[.bool false] xs.length) 4)) := by repeat (first | with_reducible exact Below.refl _ _ | with_reducible refine Below.setCell ?_ (by first | omega | (simp <;> omega)) _ | with_reducible refine Below.drew ?_ | with_reducible refine below_drewN ?_ _ | with_reducible refine Below.alloc ?_ (by first | omega | (simp <;> omega)) _ | with_reducible refine Below.trans ?_ (Below.mono (by assumption) (by first | omega | (simp <;> omega))))
      have hB2 := hB.next hbo
      have hC2 := hC.next hbo
      obtain ⟨q1, q2, q3⟩ := hB2.c3
      obtain ⟨q4, q5⟩ := hC2.c2
      obtain ⟨q6, q7⟩ := hC.c2
      have hlr := l.below hb
      have hmr := m.below hb
      have hN0 := (Blk.new wr 3 #[.int .i64 xs.length]).alloc (.cells (madeCells #[.bool false] xs.length) 4)
      have hO0 := Blk.new (wr.alloc (.cells #[.int .i64 xs.length] 3)) 4 (madeCells #[.bool false] xs.length)
      rw [World.size_alloc] at hO0
      have HO0 := Lib.hid hO0
      have HN0 := Lib.hid hN0
      have hpos := hl.pos
      have hbk := hl.back
      clear hO0 hN0 hC0 hB0 hlt hj
      obtain ⟨wo, rfl⟩ : ∃ wo : World, wo = wr := ⟨_, rfl⟩
      go_wp2_with fail
      go_loopw [41] (fun t w2 => ∃ (i : Nat) (cs : Array Value), i ≤ xs.length ∧ t = .int .i64 i ∧ Blk w2 (wo.heap.size + 1) 4 cs ∧ Filled cs xs.length i (fun k => true) ∧ Blk w2 wo.heap.size 3 #[.int .i64 xs.length] ∧ Below wo.heap.size wo w2) (fun t _ => xs.length - (intOf t).toNat)
      case atStart => exact ⟨0, _, Nat.zero_le _, rfl, HO0.out, Filled.start _ _, HN0.out, hbo⟩
      case round =>
        obtain ⟨i, cs, hi, rfl, hO, hfl, hN, hb2⟩ := hrel
        have HO := Lib.hid hO
        have HFL := Lib.hid hfl
        obtain ⟨p1, p2, p3⟩ := (hB.next hb2).c3
        obtain ⟨p4, p5⟩ := (hC.next hb2).c2
        clear hO hfl
        by_cases hlt : i < xs.length
        · obtain ⟨bl, ol, x, rfl, _, hll, cx, HX, _⟩ := ints_get (hlr.below hb2) hlt
          obtain ⟨u, hu⟩ := HFL.out.at_ hlt
          have cu : wr.cell? ⟨wo.heap.size + 1, i, none⟩ = some u := (HO.out.cell i).trans hu
          have fu := HO.out.frozen i
          clear hu
          go_wp2_with fail
          go_roundw
          case rel => exact ⟨i + 1, _, by omega, by go_num, HO.out.set_ _ _, HFL.out.step hlt, hN.far (by simp) _, by repeat (first | with_reducible exact Below.refl _ _ | with_reducible refine Below.setCell ?_ (by first | omega | (simp <;> omega)) _ | with_reducible refine Below.drew ?_ | with_reducible refine below_drewN ?_ _ | with_reducible refine Below.alloc ?_ (by first | omega | (simp <;> omega)) _ | with_reducible refine Below.trans ?_ (Below.mono (by assumption) (by first | omega | (simp <;> omega))))⟩
          case measure => simp [intOf]; omega
        · have hin : i = xs.length := by omega
          subst hin
          go_wp2_with fail
          go_ret
          refine ⟨_, rfl, ?_, ?_⟩
          · have e : holdL xs.length back (labAt xs ls) ⟨1, q, kids⟩ = (List.range xs.length).map fun _ => true := by
              unfold holdL
              rw [Fm.hold_eq]
              rfl
            rw [e]
            exact HFL.out.all HO.out (by omega) (by omega)
          · repeat (first | with_reducible exact Below.refl _ _ | with_reducible refine Below.setCell ?_ (by first | omega | (simp <;> omega)) _ | with_reducible refine Below.drew ?_ | with_reducible refine below_drewN ?_ _ | with_reducible refine Below.alloc ?_ (by first | omega | (simp <;> omega)) _ | with_reducible refine Below.trans ?_ (Below.mono (by assumption) (by first | omega | (simp <;> omega))))

end Go.Proofs.Ytagnfckihdlhpaa

/-
  What the program's places computes at kind 2.
-/
namespace Go.Proofs.Ytagnfckihdlhpaa
open Go.RowKit

theorem bit_all : ∀ ny, ny < 256 → ∀ nq, nq < 8 → (bits BinOp.and IntKind.i64 ((ny : Nat) : Int) (IntKind.i64.wrap (2 ^ nq)) != 0) = ny.testBit nq := by decide +kernel
theorem wrapEq (x : Int) : IntKind.i64.wrap x = wrap64 x := IntWalk.i64_left x
theorem bit_eq {ny nq : Nat} (h1 : ny < 256) (h2 : nq < 8) : hasBit (ny : Int) (nq : Int) = (bits BinOp.and IntKind.i64 ((ny : Nat) : Int) (wrap64 (2 ^ nq)) != 0) := by
  rw [← wrapEq, bit_all ny h1 nq h2]
  rfl
theorem labAt_of {xs ls : List Int} {i nx : Nat} {y : Int} (hx : xs[i]? = some (nx : Int)) (hy : ls[nx]? = some y) : labAt xs ls i = y := by
  unfold labAt
  rw [getD_of hx, Int.toNat_natCast, getD_of hy]

set_option maxRecDepth 100000 in
set_option maxHeartbeats 4000000 in
theorem places_2 (xs : List Int) (back : Nat) (ls : List Int) (hl : LassoOK xs back ls) (q : Int) (kids : List Fm) (hk : kids.length = 0) (hkok : ∀ x ∈ kids, x.ok = true) (ih : ∀ x ∈ kids, PlacesF xs back ls x) (_hq0 : 0 ≤ q) (_hq7 : q ≤ 7) (w : World) (v s lv : Value)
    (h : At w Any (forms kids) v) (l : At w Any (ints xs) s) (m : At w Any (ints ls) lv) :
    Calls Try.prog 60 #[.agg #[.int .i64 2, .int .i64 q, v], .agg #[s, .int .i64 back], lv] w fun e w' => ∃ v', e = .returned v' ∧ At w' (From w.heap.size) (bools (holdL xs.length back (labAt xs ls) ⟨2, q, kids⟩)) v' ∧ Below w.heap.size w w' := by
  obtain ⟨A, c, rfl, hn, hc⟩ := forms_slice h
  obtain ⟨L, d, rfl, hnl, hcl⟩ := ints_slice l
  obtain ⟨M, e, rfl, hnm, hcm⟩ := ints_slice m
  have hB0 := (Blk.new w 38 #[.int .i64 2, .int .i64 q, .slice A kids.length c]).alloc (.cells #[.slice L xs.length d, .int .i64 back] 27)
  have hC0 := Blk.new (w.alloc (.cells #[.int .i64 2, .int .i64 q, .slice A kids.length c] 38)) 27 #[.slice L xs.length d, .int .i64 back]
  rw [World.size_alloc] at hC0
  have hks : kids.length ≤ 2 := by omega
  have hxl := hl.le
  have IH := Lib.hid ih
  have HK := Lib.hid hkok
  have HKL := Lib.hid hk
  clear ih hkok hk
  go_enter Try.func60, Try.ntmps60
  go_wp2_with fail
  go_loopw [7, 20] (fun kv t wr => ∃ j : Nat, j ≤ kids.length ∧ t = .int .i64 j ∧ KidRow wr (w.heap.size + 1 + 1) kv j (kids.map (holdL xs.length back (labAt xs ls))) ∧ w.heap.size + 1 + 1 ≤ wr.heap.size ∧
      Blk wr w.heap.size 38 #[.int .i64 2, .int .i64 q, .slice A kids.length c] ∧ Blk wr (w.heap.size + 1) 27 #[.slice L xs.length d, .int .i64 back] ∧ Below w.heap.size w wr) (fun _ t _ => kids.length - (intOf t).toNat)
  case atStart =>
    refine ⟨0, Nat.zero_le _, rfl, KidRow.none_ _ (Nat.le_refl _) ?_ rfl, by simp, hB0.alloc _, hC0.alloc _, by repeat (first | with_reducible exact Below.refl _ _ | with_reducible refine Below.setCell ?_ (by first | omega | (simp <;> omega)) _ | with_reducible refine Below.drew ?_ | with_reducible refine below_drewN ?_ _ | with_reducible refine Below.alloc ?_ (by first | omega | (simp <;> omega)) _ | with_reducible refine Below.trans ?_ (Below.mono (by assumption) (by first | omega | (simp <;> omega))))⟩
    have := Blk.new ((w.alloc (.cells #[.int .i64 2, .int .i64 q, .slice A kids.length c] 38)).alloc (.cells #[.slice L xs.length d, .int .i64 back] 27)) 89 #[]
    rwa [World.size_alloc, World.size_alloc] at this
  case round =>
    obtain ⟨j, hj, rfl, hkr, hsz, hB, hC, hb⟩ := hrel
    obtain ⟨kv, rfl⟩ : ∃ kv : Value, kv = u7 := ⟨_, rfl⟩
    have HKR := Lib.hid hkr
    clear hkr
    by_cases hlt : j < kids.length
    · obtain ⟨b, off, f, u, rfl, _, hlb, hc1, hc2, hc3, hu, HX, _⟩ := forms_get (h.below hb) hlt
      obtain ⟨Au, cu, rfl, hnu, hcu⟩ := forms_slice hu
      have hmem := List.mem_of_getElem? HX.out
      obtain ⟨q4, q5⟩ := hC.c2
      have hC1 := hC.alloc (.cells #[.int .i64 f.kind, .int .i64 f.prop, .slice Au f.kids.length cu] 38)
      have l1 := (l.below hb).alloc (.cells #[.int .i64 f.kind, .int .i64 f.prop, .slice Au f.kids.length cu] 38)
      have m1 := (m.below hb).alloc (.cells #[.int .i64 f.kind, .int .i64 f.prop, .slice Au f.kids.length cu] 38)
      have hu1 := hu.alloc (.cells #[.int .i64 f.kind, .int .i64 f.prop, .slice Au f.kids.length cu] 38)
      have HKR1 := Lib.hid (HKR.out.below ((Below.refl wr.heap.size wr).alloc (Nat.le_refl _) (.cells #[.int .i64 f.kind, .int .i64 f.prop, .slice Au f.kids.length cu] 38)))
      obtain ⟨_, _⟩ := hC1.c2
      go_wp2_with fail
      refine (IH.out f hmem _ _ _ _ hu1 l1 m1 (HK.out f hmem)).mono ?_
      rintro e w1 ⟨v', rfl, ha, hb1⟩
      obtain ⟨A', c', rfl, hn', hc'⟩ := bools_slice ha
      have z1 := hb1.size
      simp at z1
      have hBs : KidRow (w1.alloc (.cells #[.slice A' (holdL xs.length back (labAt xs ls) f).length c'] 89)) (w.heap.size + 1 + 1) kv j (kids.map (holdL xs.length back (labAt xs ls))) := (HKR1.out.below hb1).below ((Below.refl _ _).alloc (Nat.le_refl _) _)
      obtain ⟨vs, hown, hvl, hvs⟩ := hBs
      have HOW := Lib.hid hown
      have hnews := World.news_of_block (heap_alloc_new w1 (.cells #[.slice A' (holdL xs.length back (labAt xs ls) f).length c'] 89))
      have HNW := Lib.hid hnews
      have HVS := Lib.hid hvs
      obtain ⟨i0, hi, hz0, hz1, hz2⟩ := info_parts Try.infoBools
      clear hown hnews hvs
      go_wp2_with (at_builtin; refine wpList_append_lies _ rfl _ _ _ rfl (w.heap.size + 1 + 1) 89 i0 (.slice none 0 0) 1 24 Try.underlying107 hi hz0 hz1 hz2 rfl (by omega) kv j vs rfl HOW.out ⟨w1.heap.size, 0, none⟩ 1 1 [.slice A' (holdL xs.length back (labAt xs ls) f).length c'] rfl rfl HNW.out (by simp [Value.oneCell']) (by omega) (by unfold maxLen; omega) (by omega) (by simp; omega) (w1.heap.size + 1) (World.size_alloc _ _) ?_; intro g cap w3 hown3 hgrow3 hat3 hlt3)
      go_wp2_with fail
      go_roundw
      case rel =>
        obtain ⟨r1, r2, r3⟩ := HKR1.out.round (by simp; omega) hb1 ha (by simp [HX.out]) vs HOW.out hown3 hgrow3 hat3
        have z3 := r2.size
        simp at z3
        exact ⟨j + 1, by omega, by go_num, r1, by omega, r3 _ _ _ (by omega) (hB.alloc _), r3 _ _ _ (by omega) hC1, by repeat (first | with_reducible exact Below.refl _ _ | with_reducible refine Below.setCell ?_ (by first | omega | (simp <;> omega)) _ | with_reducible refine Below.drew ?_ | with_reducible refine below_drewN ?_ _ | with_reducible refine Below.alloc ?_ (by first | omega | (simp <;> omega)) _ | with_reducible refine Below.trans ?_ (Below.mono (by assumption) (by first | omega | (simp <;> omega))))⟩
      case measure => simp [intOf]; omega
    · have hjk : j = kids.length := by omega
      subst hjk
      have hmk := run_make_row' (P := Try.prog) 89 4 _ 1 Try.underlying89 Try.infoBool rfl .i64 .i64 xs.length (by omega) (by omega)
      have hbo : Below wr.heap.size wr ((wr.alloc (.cells #[.int .i64 xs.length] 3)).alloc (.cells (madeCells #[.bool false] xs.length) 4)) := by repeat (first | with_reducible exact Below.refl _ _ | with_reducible refine Below.setCell ?_ (by first | omega | (simp <;> omega)) _ | with_reducible refine Below.drew ?_ | with_reducible refine below_drewN ?_ _ | with_reducible refine Below.alloc ?_ (by first | omega | (simp <;> omega)) _ | with_reducible refine Below.trans ?_ (Below.mono (by assumption) (by first | omega | (simp <;> omega))))
      have hB2 := hB.next hbo
      have hC2 := hC.next hbo
      obtain ⟨q1, q2, q3⟩ := hB2.c3
      obtain ⟨q4, q5⟩ := hC2.c2
      obtain ⟨q6, q7⟩ := hC.c2
      have hlr := l.below hb
      have hmr := m.below hb
      have hN0 := (Blk.new wr 3 #[.int .i64 xs.length]).alloc (.cells (madeCells #[.bool false] xs.length) 4)
      have hO0 := Blk.new (wr.alloc (.cells #[.int .i64 xs.length] 3)) 4 (madeCells #[.bool false] xs.length)
      rw [World.size_alloc] at hO0
      have HO0 := Lib.hid hO0
      have HN0 := Lib.hid hN0
      have hpos := hl.pos
      have hbk := hl.back
      clear hO0 hN0 hC0 hB0 hlt hj
      obtain ⟨wo, rfl⟩ : ∃ wo : World, wo = wr := ⟨_, rfl⟩
      go_wp2_with fail
      go_loopw [41] (fun t w2 => ∃ (i : Nat) (cs : Array Value), i ≤ xs.length ∧ t = .int .i64 i ∧ Blk w2 (wo.heap.size + 1) 4 cs ∧ Filled cs xs.length i (fun k => hasBit (labAt xs ls k) q) ∧ Blk w2 wo.heap.size 3 #[.int .i64 xs.length] ∧ Below wo.heap.size wo w2) (fun t _ => xs.length - (intOf t).toNat)
      case atStart => exact ⟨0, _, Nat.zero_le _, rfl, HO0.out, Filled.start _ _, HN0.out, hbo⟩
      case round =>
        obtain ⟨i, cs, hi, rfl, hO, hfl, hN, hb2⟩ := hrel
        have HO := Lib.hid hO
        have HFL := Lib.hid hfl
        obtain ⟨p1, p2, p3⟩ := (hB.next hb2).c3
        obtain ⟨p4, p5⟩ := (hC.next hb2).c2
        clear hO hfl
        by_cases hlt : i < xs.length
        · obtain ⟨bl, ol, x, rfl, _, hll, cx, HX, _⟩ := ints_get (hlr.below hb2) hlt
          obtain ⟨u, hu⟩ := HFL.out.at_ hlt
          have cu : wr.cell? ⟨wo.heap.size + 1, i, none⟩ = some u := (HO.out.cell i).trans hu
          have fu := HO.out.frozen i
          clear hu
          have hst := hl.states x (List.mem_of_getElem? HX.out)
          obtain ⟨nx, rfl⟩ := Int.eq_ofNat_of_zero_le hst.1
          have hnx : nx < ls.length := by omega
          obtain ⟨bm, om, y, rfl, _, hlm, cy0, HY, _⟩ := ints_get hmr hnx
          have cy := (hb2.cell (p := ⟨bm, om + nx, none⟩) hlm).trans cy0
          have hy := hl.labels y (List.mem_of_getElem? HY.out)
          obtain ⟨ny, rfl⟩ := Int.eq_ofNat_of_zero_le hy.1
          obtain ⟨nq, rfl⟩ := Int.eq_ofNat_of_zero_le _hq0
          have hnx' : (nx : Int) < (ls.length : Int) := by omega
          have hii : (i : Int) < (xs.length : Int) := by omega
          have hne1 : ¬ bm = wo.heap.size + 1 := by omega
          have hne2 : ¬ w.heap.size = wo.heap.size + 1 := by omega
          have hne3 : ¬ wo.heap.size + 1 = bm := by omega
          have hne4 : ¬ wo.heap.size + 1 = w.heap.size := by omega
          go_wp2_with fail
          go_region_held3 (fun w' => w'.cell? ⟨bm, om + nx, none⟩ = some (.int .i64 ny) ∧ w'.cell? ⟨w.heap.size, 1, none⟩ = some (.int .i64 nq)) (go_keep) (fail)
          go_wp2_with fail
          go_roundw
          case rel => exact ⟨i + 1, _, by omega, by go_num, HO.out.set_ _ _, HFL.out.to hlt (by rw [labAt_of HX.out HY.out]; exact bit_eq (ny := ny) (nq := nq) (by omega) (by omega)), hN.far (by simp) _, by repeat (first | with_reducible exact Below.refl _ _ | with_reducible refine Below.setCell ?_ (by first | omega | (simp <;> omega)) _ | with_reducible refine Below.drew ?_ | with_reducible refine below_drewN ?_ _ | with_reducible refine Below.alloc ?_ (by first | omega | (simp <;> omega)) _ | with_reducible refine Below.trans ?_ (Below.mono (by assumption) (by first | omega | (simp <;> omega))))⟩
          case measure => simp [intOf]; omega
        · have hin : i = xs.length := by omega
          subst hin
          go_wp2_with fail
          go_ret
          refine ⟨_, rfl, ?_, ?_⟩
          · have e : holdL xs.length back (labAt xs ls) ⟨2, q, kids⟩ = (List.range xs.length).map fun k => hasBit (labAt xs ls k) q := by
              unfold holdL
              rw [Fm.hold_eq]
              rfl
            rw [e]
            exact HFL.out.all HO.out (by omega) (by omega)
          · repeat (first | with_reducible exact Below.refl _ _ | with_reducible refine Below.setCell ?_ (by first | omega | (simp <;> omega)) _ | with_reducible refine Below.drew ?_ | with_reducible refine below_drewN ?_ _ | with_reducible refine Below.alloc ?_ (by first | omega | (simp <;> omega)) _ | with_reducible refine Below.trans ?_ (Below.mono (by assumption) (by first | omega | (simp <;> omega))))

end Go.Proofs.Ytagnfckihdlhpaa

/-
  What the program's places computes at the kinds 3, 4 and 5.
-/
namespace Go.Proofs.Ytagnfckihdlhpaa
open Go.RowKit

set_option maxRecDepth 100000 in
set_option maxHeartbeats 4000000 in
theorem places_3 (xs : List Int) (back : Nat) (ls : List Int) (hl : LassoOK xs back ls) (q : Int) (kids : List Fm) (hk : kids.length = 1) (hkok : ∀ x ∈ kids, x.ok = true) (ih : ∀ x ∈ kids, PlacesF xs back ls x) (_hq0 : 0 ≤ q) (_hq7 : q ≤ 7) (w : World) (v s lv : Value)
    (h : At w Any (forms kids) v) (l : At w Any (ints xs) s) (m : At w Any (ints ls) lv) :
    Calls Try.prog 60 #[.agg #[.int .i64 3, .int .i64 q, v], .agg #[s, .int .i64 back], lv] w fun e w' => ∃ v', e = .returned v' ∧ At w' (From w.heap.size) (bools (holdL xs.length back (labAt xs ls) ⟨3, q, kids⟩)) v' ∧ Below w.heap.size w w' := by
  obtain ⟨A, c, rfl, hn, hc⟩ := forms_slice h
  obtain ⟨L, d, rfl, hnl, hcl⟩ := ints_slice l
  obtain ⟨M, e, rfl, hnm, hcm⟩ := ints_slice m
  have hB0 := (Blk.new w 38 #[.int .i64 3, .int .i64 q, .slice A kids.length c]).alloc (.cells #[.slice L xs.length d, .int .i64 back] 27)
  have hC0 := Blk.new (w.alloc (.cells #[.int .i64 3, .int .i64 q, .slice A kids.length c] 38)) 27 #[.slice L xs.length d, .int .i64 back]
  rw [World.size_alloc] at hC0
  have hks : kids.length ≤ 2 := by omega
  have hxl := hl.le
  have IH := Lib.hid ih
  have HK := Lib.hid hkok
  have HKL := Lib.hid hk
  clear ih hkok hk
  go_enter Try.func60, Try.ntmps60
  go_wp2_with fail
  go_loopw [7, 20] (fun kv t wr => ∃ j : Nat, j ≤ kids.length ∧ t = .int .i64 j ∧ KidRow wr (w.heap.size + 1 + 1) kv j (kids.map (holdL xs.length back (labAt xs ls))) ∧ w.heap.size + 1 + 1 ≤ wr.heap.size ∧
      Blk wr w.heap.size 38 #[.int .i64 3, .int .i64 q, .slice A kids.length c] ∧ Blk wr (w.heap.size + 1) 27 #[.slice L xs.length d, .int .i64 back] ∧ Below w.heap.size w wr) (fun _ t _ => kids.length - (intOf t).toNat)
  case atStart =>
    refine ⟨0, Nat.zero_le _, rfl, KidRow.none_ _ (Nat.le_refl _) ?_ rfl, by simp, hB0.alloc _, hC0.alloc _, by repeat (first | with_reducible exact Below.refl _ _ | with_reducible refine Below.setCell ?_ (by first | omega | (simp <;> omega)) _ | with_reducible refine Below.drew ?_ | with_reducible refine below_drewN ?_ _ | with_reducible refine Below.alloc ?_ (by first | omega | (simp <;> omega)) _ | with_reducible refine Below.trans ?_ (Below.mono (by assumption) (by first | omega | (simp <;> omega))))⟩
    have := Blk.new ((w.alloc (.cells #[.int .i64 3, .int .i64 q, .slice A kids.length c] 38)).alloc (.cells #[.slice L xs.length d, .int .i64 back] 27)) 89 #[]
    rwa [World.size_alloc, World.size_alloc] at this
  case round =>
    obtain ⟨j, hj, rfl, hkr, hsz, hB, hC, hb⟩ := hrel
    obtain ⟨kv, rfl⟩ : ∃ kv : Value, kv = u7 := ⟨_, rfl⟩
    have HKR := Lib.hid hkr
    clear hkr
    by_cases hlt : j < kids.length
    · obtain ⟨b, off, f, u, rfl, _, hlb, hc1, hc2, hc3, hu, HX, _⟩ := forms_get (h.below hb) hlt
      obtain ⟨Au, cu, rfl, hnu, hcu⟩ := forms_slice hu
      have hmem := List.mem_of_getElem? HX.out
      obtain ⟨q4, q5⟩ := hC.c2
      have hC1 := hC.alloc (.cells #[.int .i64 f.kind, .int .i64 f.prop, .slice Au f.kids.length cu] 38)
      have l1 := (l.below hb).alloc (.cells #[.int .i64 f.kind, .int .i64 f.prop, .slice Au f.kids.length cu] 38)
      have m1 := (m.below hb).alloc (.cells #[.int .i64 f.kind, .int .i64 f.prop, .slice Au f.kids.length cu] 38)
      have hu1 := hu.alloc (.cells #[.int .i64 f.kind, .int .i64 f.prop, .slice Au f.kids.length cu] 38)
      have HKR1 := Lib.hid (HKR.out.below ((Below.refl wr.heap.size wr).alloc (Nat.le_refl _) (.cells #[.int .i64 f.kind, .int .i64 f.prop, .slice Au f.kids.length cu] 38)))
      obtain ⟨_, _⟩ := hC1.c2
      go_wp2_with fail
      refine (IH.out f hmem _ _ _ _ hu1 l1 m1 (HK.out f hmem)).mono ?_
      rintro e w1 ⟨v', rfl, ha, hb1⟩
      obtain ⟨A', c', rfl, hn', hc'⟩ := bools_slice ha
      have z1 := hb1.size
      simp at z1
      have hBs : KidRow (w1.alloc (.cells #[.slice A' (holdL xs.length back (labAt xs ls) f).length c'] 89)) (w.heap.size + 1 + 1) kv j (kids.map (holdL xs.length back (labAt xs ls))) := (HKR1.out.below hb1).below ((Below.refl _ _).alloc (Nat.le_refl _) _)
      obtain ⟨vs, hown, hvl, hvs⟩ := hBs
      have HOW := Lib.hid hown
      have hnews := World.news_of_block (heap_alloc_new w1 (.cells #[.slice A' (holdL xs.length back (labAt xs ls) f).length c'] 89))
      have HNW := Lib.hid hnews
      have HVS := Lib.hid hvs
      obtain ⟨i0, hi, hz0, hz1, hz2⟩ := info_parts Try.infoBools
      clear hown hnews hvs
      go_wp2_with (at_builtin; refine wpList_append_lies _ rfl _ _ _ rfl (w.heap.size + 1 + 1) 89 i0 (.slice none 0 0) 1 24 Try.underlying107 hi hz0 hz1 hz2 rfl (by omega) kv j vs rfl HOW.out ⟨w1.heap.size, 0, none⟩ 1 1 [.slice A' (holdL xs.length back (labAt xs ls) f).length c'] rfl rfl HNW.out (by simp [Value.oneCell']) (by omega) (by unfold maxLen; omega) (by omega) (by simp; omega) (w1.heap.size + 1) (World.size_alloc _ _) ?_; intro g cap w3 hown3 hgrow3 hat3 hlt3)
      go_wp2_with fail
      go_roundw
      case rel =>
        obtain ⟨r1, r2, r3⟩ := HKR1.out.round (by simp; omega) hb1 ha (by simp [HX.out]) vs HOW.out hown3 hgrow3 hat3
        have z3 := r2.size
        simp at z3
        exact ⟨j + 1, by omega, by go_num, r1, by omega, r3 _ _ _ (by omega) (hB.alloc _), r3 _ _ _ (by omega) hC1, by repeat (first | with_reducible exact Below.refl _ _ | with_reducible refine Below.setCell ?_ (by first | omega | (simp <;> omega)) _ | with_reducible refine Below.drew ?_ | with_reducible refine below_drewN ?_ _ | with_reducible refine Below.alloc ?_ (by first | omega | (simp <;> omega)) _ | with_reducible refine Below.trans ?_ (Below.mono (by assumption) (by first | omega | (simp <;> omega))))⟩
      case measure => simp [intOf]; omega
    · have hjk : j = kids.length := by omega
      subst hjk
      have hmk := run_make_row' (P := Try.prog) 89 4 _ 1 Try.underlying89 Try.infoBool rfl .i64 .i64 xs.length (by omega) (by omega)
      have hbo : Below wr.heap.size wr ((wr.alloc (.cells #[.int .i64 xs.length] 3)).alloc (.cells (madeCells #[.bool false] xs.length) 4)) := by repeat (first | with_reducible exact Below.refl _ _ | with_reducible refine Below.setCell ?_ (by first | omega | (simp <;> omega)) _ | with_reducible refine Below.drew ?_ | with_reducible refine below_drewN ?_ _ | with_reducible refine Below.alloc ?_ (by first | omega | (simp <;> omega)) _ | with_reducible refine Below.trans ?_ (Below.mono (by assumption) (by first | omega | (simp <;> omega))))
      have hB2 := hB.next hbo
      have hC2 := hC.next hbo
      obtain ⟨q1, q2, q3⟩ := hB2.c3
      obtain ⟨q4, q5⟩ := hC2.c2
      obtain ⟨q6, q7⟩ := hC.c2
      have hlr := l.below hb
      have hmr := m.below hb
      have hN0 := (Blk.new wr 3 #[.int .i64 xs.length]).alloc (.cells (madeCells #[.bool false] xs.length) 4)
      have hO0 := Blk.new (wr.alloc (.cells #[.int .i64 xs.length] 3)) 4 (madeCells #[.bool false] xs.length)
      rw [World.size_alloc] at hO0
      have HO0 := Lib.hid hO0
      have HN0 := Lib.hid hN0
      have hpos := hl.pos
      have hbk := hl.back
      clear hO0 hN0 hC0 hB0 hlt hj
      obtain ⟨wo, rfl⟩ : ∃ wo : World, wo = wr := ⟨_, rfl⟩
      go_wp2_with fail
      go_loopw [41] (fun t w2 => ∃ (i : Nat) (cs : Array Value), i ≤ xs.length ∧ t = .int .i64 i ∧ Blk w2 (wo.heap.size + 1) 4 cs ∧ Filled cs xs.length i (fun k => !kidH xs back ls kids 0 k) ∧ Blk w2 wo.heap.size 3 #[.int .i64 xs.length] ∧ Below wo.heap.size wo w2) (fun t _ => xs.length - (intOf t).toNat)
      case atStart => exact ⟨0, _, Nat.zero_le _, rfl, HO0.out, Filled.start _ _, HN0.out, hbo⟩
      case round =>
        obtain ⟨i, cs, hi, rfl, hO, hfl, hN, hb2⟩ := hrel
        have HO := Lib.hid hO
        have HFL := Lib.hid hfl
        obtain ⟨p1, p2, p3⟩ := (hB.next hb2).c3
        obtain ⟨p4, p5⟩ := (hC.next hb2).c2
        clear hO hfl
        by_cases hlt : i < xs.length
        · obtain ⟨bl, ol, x, rfl, _, hll, cx, HX, _⟩ := ints_get (hlr.below hb2) hlt
          obtain ⟨u, hu⟩ := HFL.out.at_ hlt
          have cu : wr.cell? ⟨wo.heap.size + 1, i, none⟩ = some u := (HO.out.cell i).trans hu
          have fu := HO.out.frozen i
          clear hu
          have hj1 : 0 < kids.length := by rw [HKL.out]; omega
          obtain ⟨g, cap, b0, o0, c0, rfl, hg, hb0, k1, hc0, k2⟩ := HKR.out.cell hb2 hj1 hlt
          go_wp2_with fail
          go_roundw
          case rel => exact ⟨i + 1, _, by omega, by go_num, HO.out.set_ _ _, HFL.out.step hlt, hN.far (by simp) _, by repeat (first | with_reducible exact Below.refl _ _ | with_reducible refine Below.setCell ?_ (by first | omega | (simp <;> omega)) _ | with_reducible refine Below.drew ?_ | with_reducible refine below_drewN ?_ _ | with_reducible refine Below.alloc ?_ (by first | omega | (simp <;> omega)) _ | with_reducible refine Below.trans ?_ (Below.mono (by assumption) (by first | omega | (simp <;> omega))))⟩
          case measure => simp [intOf]; omega
        · have hin : i = xs.length := by omega
          subst hin
          go_wp2_with fail
          go_ret
          refine ⟨_, rfl, ?_, ?_⟩
          · have e : holdL xs.length back (labAt xs ls) ⟨3, q, kids⟩ = (List.range xs.length).map fun k => !kidH xs back ls kids 0 k := by
              unfold holdL
              rw [Fm.hold_eq]
              rfl
            rw [e]
            exact HFL.out.all HO.out (by omega) (by omega)
          · repeat (first | with_reducible exact Below.refl _ _ | with_reducible refine Below.setCell ?_ (by first | omega | (simp <;> omega)) _ | with_reducible refine Below.drew ?_ | with_reducible refine below_drewN ?_ _ | with_reducible refine Below.alloc ?_ (by first | omega | (simp <;> omega)) _ | with_reducible refine Below.trans ?_ (Below.mono (by assumption) (by first | omega | (simp <;> omega))))

set_option maxRecDepth 100000 in
set_option maxHeartbeats 4000000 in
theorem places_4 (xs : List Int) (back : Nat) (ls : List Int) (hl : LassoOK xs back ls) (q : Int) (kids : List Fm) (hk : kids.length = 2) (hkok : ∀ x ∈ kids, x.ok = true) (ih : ∀ x ∈ kids, PlacesF xs back ls x) (_hq0 : 0 ≤ q) (_hq7 : q ≤ 7) (w : World) (v s lv : Value)
    (h : At w Any (forms kids) v) (l : At w Any (ints xs) s) (m : At w Any (ints ls) lv) :
    Calls Try.prog 60 #[.agg #[.int .i64 4, .int .i64 q, v], .agg #[s, .int .i64 back], lv] w fun e w' => ∃ v', e = .returned v' ∧ At w' (From w.heap.size) (bools (holdL xs.length back (labAt xs ls) ⟨4, q, kids⟩)) v' ∧ Below w.heap.size w w' := by
  obtain ⟨A, c, rfl, hn, hc⟩ := forms_slice h
  obtain ⟨L, d, rfl, hnl, hcl⟩ := ints_slice l
  obtain ⟨M, e, rfl, hnm, hcm⟩ := ints_slice m
  have hB0 := (Blk.new w 38 #[.int .i64 4, .int .i64 q, .slice A kids.length c]).alloc (.cells #[.slice L xs.length d, .int .i64 back] 27)
  have hC0 := Blk.new (w.alloc (.cells #[.int .i64 4, .int .i64 q, .slice A kids.length c] 38)) 27 #[.slice L xs.length d, .int .i64 back]
  rw [World.size_alloc] at hC0
  have hks : kids.length ≤ 2 := by omega
  have hxl := hl.le
  have IH := Lib.hid ih
  have HK := Lib.hid hkok
  have HKL := Lib.hid hk
  clear ih hkok hk
  go_enter Try.func60, Try.ntmps60
  go_wp2_with fail
  go_loopw [7, 20] (fun kv t wr => ∃ j : Nat, j ≤ kids.length ∧ t = .int .i64 j ∧ KidRow wr (w.heap.size + 1 + 1) kv j (kids.map (holdL xs.length back (labAt xs ls))) ∧ w.heap.size + 1 + 1 ≤ wr.heap.size ∧
      Blk wr w.heap.size 38 #[.int .i64 4, .int .i64 q, .slice A kids.length c] ∧ Blk wr (w.heap.size + 1) 27 #[.slice L xs.length d, .int .i64 back] ∧ Below w.heap.size w wr) (fun _ t _ => kids.length - (intOf t).toNat)
  case atStart =>
    refine ⟨0, Nat.zero_le _, rfl, KidRow.none_ _ (Nat.le_refl _) ?_ rfl, by simp, hB0.alloc _, hC0.alloc _, by repeat (first | with_reducible exact Below.refl _ _ | with_reducible refine Below.setCell ?_ (by first | omega | (simp <;> omega)) _ | with_reducible refine Below.drew ?_ | with_reducible refine below_drewN ?_ _ | with_reducible refine Below.alloc ?_ (by first | omega | (simp <;> omega)) _ | with_reducible refine Below.trans ?_ (Below.mono (by assumption) (by first | omega | (simp <;> omega))))⟩
    have := Blk.new ((w.alloc (.cells #[.int .i64 4, .int .i64 q, .slice A kids.length c] 38)).alloc (.cells #[.slice L xs.length d, .int .i64 back] 27)) 89 #[]
    rwa [World.size_alloc, World.size_alloc] at this
  case round =>
    obtain ⟨j, hj, rfl, hkr, hsz, hB, hC, hb⟩ := hrel
    obtain ⟨kv, rfl⟩ : ∃ kv : Value, kv = u7 := ⟨_, rfl⟩
    have HKR := Lib.hid hkr
    clear hkr
    by_cases hlt : j < kids.length
    · obtain ⟨b, off, f, u, rfl, _, hlb, hc1, hc2, hc3, hu, HX, _⟩ := forms_get (h.below hb) hlt
      obtain ⟨Au, cu, rfl, hnu, hcu⟩ := forms_slice hu
      have hmem := List.mem_of_getElem? HX.out
      obtain ⟨q4, q5⟩ := hC.c2
      have hC1 := hC.alloc (.cells #[.int .i64 f.kind, .int .i64 f.prop, .slice Au f.kids.length cu] 38)
      have l1 := (l.below hb).alloc (.cells #[.int .i64 f.kind, .int .i64 f.prop, .slice Au f.kids.length cu] 38)
      have m1 := (m.below hb).alloc (.cells #[.int .i64 f.kind, .int .i64 f.prop, .slice Au f.kids.length cu] 38)
      have hu1 := hu.alloc (.cells #[.int .i64 f.kind, .int .i64 f.prop, .slice Au f.kids.length cu] 38)
      have HKR1 := Lib.hid (HKR.out.below ((Below.refl wr.heap.size wr).alloc (Nat.le_refl _) (.cells #[.int .i64 f.kind, .int .i64 f.prop, .slice Au f.kids.length cu] 38)))
      obtain ⟨_, _⟩ := hC1.c2
      go_wp2_with fail
      refine (IH.out f hmem _ _ _ _ hu1 l1 m1 (HK.out f hmem)).mono ?_
      rintro e w1 ⟨v', rfl, ha, hb1⟩
      obtain ⟨A', c', rfl, hn', hc'⟩ := bools_slice ha
      have z1 := hb1.size
      simp at z1
      have hBs : KidRow (w1.alloc (.cells #[.slice A' (holdL xs.length back (labAt xs ls) f).length c'] 89)) (w.heap.size + 1 + 1) kv j (kids.map (holdL xs.length back (labAt xs ls))) := (HKR1.out.below hb1).below ((Below.refl _ _).alloc (Nat.le_refl _) _)
      obtain ⟨vs, hown, hvl, hvs⟩ := hBs
      have HOW := Lib.hid hown
      have hnews := World.news_of_block (heap_alloc_new w1 (.cells #[.slice A' (holdL xs.length back (labAt xs ls) f).length c'] 89))
      have HNW := Lib.hid hnews
      have HVS := Lib.hid hvs
      obtain ⟨i0, hi, hz0, hz1, hz2⟩ := info_parts Try.infoBools
      clear hown hnews hvs
      go_wp2_with (at_builtin; refine wpList_append_lies _ rfl _ _ _ rfl (w.heap.size + 1 + 1) 89 i0 (.slice none 0 0) 1 24 Try.underlying107 hi hz0 hz1 hz2 rfl (by omega) kv j vs rfl HOW.out ⟨w1.heap.size, 0, none⟩ 1 1 [.slice A' (holdL xs.length back (labAt xs ls) f).length c'] rfl rfl HNW.out (by simp [Value.oneCell']) (by omega) (by unfold maxLen; omega) (by omega) (by simp; omega) (w1.heap.size + 1) (World.size_alloc _ _) ?_; intro g cap w3 hown3 hgrow3 hat3 hlt3)
      go_wp2_with fail
      go_roundw
      case rel =>
        obtain ⟨r1, r2, r3⟩ := HKR1.out.round (by simp; omega) hb1 ha (by simp [HX.out]) vs HOW.out hown3 hgrow3 hat3
        have z3 := r2.size
        simp at z3
        exact ⟨j + 1, by omega, by go_num, r1, by omega, r3 _ _ _ (by omega) (hB.alloc _), r3 _ _ _ (by omega) hC1, by repeat (first | with_reducible exact Below.refl _ _ | with_reducible refine Below.setCell ?_ (by first | omega | (simp <;> omega)) _ | with_reducible refine Below.drew ?_ | with_reducible refine below_drewN ?_ _ | with_reducible refine Below.alloc ?_ (by first | omega | (simp <;> omega)) _ | with_reducible refine Below.trans ?_ (Below.mono (by assumption) (by first | omega | (simp <;> omega))))⟩
      case measure => simp [intOf]; omega
    · have hjk : j = kids.length := by omega
      subst hjk
      have hmk := run_make_row' (P := Try.prog) 89 4 _ 1 Try.underlying89 Try.infoBool rfl .i64 .i64 xs.length (by omega) (by omega)
      have hbo : Below wr.heap.size wr ((wr.alloc (.cells #[.int .i64 xs.length] 3)).alloc (.cells (madeCells #[.bool false] xs.length) 4)) := by repeat (first | with_reducible exact Below.refl _ _ | with_reducible refine Below.setCell ?_ (by first | omega | (simp <;> omega)) _ | with_reducible refine Below.drew ?_ | with_reducible refine below_drewN ?_ _ | with_reducible refine Below.alloc ?_ (by first | omega | (simp <;> omega)) _ | with_reducible refine Below.trans ?_ (Below.mono (by assumption) (by first | omega | (simp <;> omega))))
      have hB2 := hB.next hbo
      have hC2 := hC.next hbo
      obtain ⟨q1, q2, q3⟩ := hB2.c3
      obtain ⟨q4, q5⟩ := hC2.c2
      obtain ⟨q6, q7⟩ := hC.c2
      have hlr := l.below hb
      have hmr := m.below hb
      have hN0 := (Blk.new wr 3 #[.int .i64 xs.length]).alloc (.cells (madeCells #[.bool false] xs.length) 4)
      have hO0 := Blk.new (wr.alloc (.cells #[.int .i64 xs.length] 3)) 4 (madeCells #[.bool false] xs.length)
      rw [World.size_alloc] at hO0
      have HO0 := Lib.hid hO0
      have HN0 := Lib.hid hN0
      have hpos := hl.pos
      have hbk := hl.back
      clear hO0 hN0 hC0 hB0 hlt hj
      obtain ⟨wo, rfl⟩ : ∃ wo : World, wo = wr := ⟨_, rfl⟩
      go_wp2_with fail
      go_loopw [41] (fun t w2 => ∃ (i : Nat) (cs : Array Value), i ≤ xs.length ∧ t = .int .i64 i ∧ Blk w2 (wo.heap.size + 1) 4 cs ∧ Filled cs xs.length i (fun k => (kidH xs back ls kids 0 k && kidH xs back ls kids 1 k)) ∧ Blk w2 wo.heap.size 3 #[.int .i64 xs.length] ∧ Below wo.heap.size wo w2) (fun t _ => xs.length - (intOf t).toNat)
      case atStart => exact ⟨0, _, Nat.zero_le _, rfl, HO0.out, Filled.start _ _, HN0.out, hbo⟩
      case round =>
        obtain ⟨i, cs, hi, rfl, hO, hfl, hN, hb2⟩ := hrel
        have HO := Lib.hid hO
        have HFL := Lib.hid hfl
        obtain ⟨p1, p2, p3⟩ := (hB.next hb2).c3
        obtain ⟨p4, p5⟩ := (hC.next hb2).c2
        clear hO hfl
        by_cases hlt : i < xs.length
        · obtain ⟨bl, ol, x, rfl, _, hll, cx, HX, _⟩ := ints_get (hlr.below hb2) hlt
          obtain ⟨u, hu⟩ := HFL.out.at_ hlt
          have cu : wr.cell? ⟨wo.heap.size + 1, i, none⟩ = some u := (HO.out.cell i).trans hu
          have fu := HO.out.frozen i
          clear hu
          have hj1 : 0 < kids.length := by rw [HKL.out]; omega
          have hj2 : 1 < kids.length := by rw [HKL.out]; omega
          obtain ⟨g, cap, b0, o0, c0, rfl, hg, hb0, k1, hc0, k2⟩ := HKR.out.cell hb2 hj1 hlt
          obtain ⟨g', cap', b1, o1, c1, eg, hg', hb1, k3, hc1, k4⟩ := HKR.out.cell hb2 hj2 hlt
          injection eg with eg1 eg2 eg3
          injection eg1 with eg1
          injection eg1 with eg1
          subst eg1 eg3
          obtain ⟨x0, hx0⟩ : ∃ x0, x0 = kidH xs back ls kids 0 i := ⟨_, rfl⟩
          obtain ⟨x1, hx1⟩ : ∃ x1, x1 = kidH xs back ls kids 1 i := ⟨_, rfl⟩
          rw [← hx0] at k2
          rw [← hx1] at k4
          have HX0 := Lib.hid hx0
          have HX1 := Lib.hid hx1
          clear hx0 hx1 eg2
          cases x0
          · go_wp2_with fail
            go_roundw
            case rel => exact ⟨i + 1, _, by omega, by go_num, HO.out.set_ _ _, HFL.out.to hlt (by rw [← HX0.out, ← HX1.out]; simp), hN.far (by simp) _, by repeat (first | with_reducible exact Below.refl _ _ | with_reducible refine Below.setCell ?_ (by first | omega | (simp <;> omega)) _ | with_reducible refine Below.drew ?_ | with_reducible refine below_drewN ?_ _ | with_reducible refine Below.alloc ?_ (by first | omega | (simp <;> omega)) _ | with_reducible refine Below.trans ?_ (Below.mono (by assumption) (by first | omega | (simp <;> omega))))⟩
            case measure => simp [intOf]; omega
          · go_wp2_with fail
            go_roundw
            case rel => exact ⟨i + 1, _, by omega, by go_num, HO.out.set_ _ _, HFL.out.to hlt (by rw [← HX0.out, ← HX1.out]; simp), hN.far (by simp) _, by repeat (first | with_reducible exact Below.refl _ _ | with_reducible refine Below.setCell ?_ (by first | omega | (simp <;> omega)) _ | with_reducible refine Below.drew ?_ | with_reducible refine below_drewN ?_ _ | with_reducible refine Below.alloc ?_ (by first | omega | (simp <;> omega)) _ | with_reducible refine Below.trans ?_ (Below.mono (by assumption) (by first | omega | (simp <;> omega))))⟩
            case measure => simp [intOf]; omega
        · have hin : i = xs.length := by omega
          subst hin
          go_wp2_with fail
          go_ret
          refine ⟨_, rfl, ?_, ?_⟩
          · have e : holdL xs.length back (labAt xs ls) ⟨4, q, kids⟩ = (List.range xs.length).map fun k => (kidH xs back ls kids 0 k && kidH xs back ls kids 1 k) := by
              unfold holdL
              rw [Fm.hold_eq]
              rfl
            rw [e]
            exact HFL.out.all HO.out (by omega) (by omega)
          · repeat (first | with_reducible exact Below.refl _ _ | with_reducible refine Below.setCell ?_ (by first | omega | (simp <;> omega)) _ | with_reducible refine Below.drew ?_ | with_reducible refine below_drewN ?_ _ | with_reducible refine Below.alloc ?_ (by first | omega | (simp <;> omega)) _ | with_reducible refine Below.trans ?_ (Below.mono (by assumption) (by first | omega | (simp <;> omega))))

set_option maxRecDepth 100000 in
set_option maxHeartbeats 4000000 in
theorem places_5 (xs : List Int) (back : Nat) (ls : List Int) (hl : LassoOK xs back ls) (q : Int) (kids : List Fm) (hk : kids.length = 2) (hkok : ∀ x ∈ kids, x.ok = true) (ih : ∀ x ∈ kids, PlacesF xs back ls x) (_hq0 : 0 ≤ q) (_hq7 : q ≤ 7) (w : World) (v s lv : Value)
    (h : At w Any (forms kids) v) (l : At w Any (ints xs) s) (m : At w Any (ints ls) lv) :
    Calls Try.prog 60 #[.agg #[.int .i64 5, .int .i64 q, v], .agg #[s, .int .i64 back], lv] w fun e w' => ∃ v', e = .returned v' ∧ At w' (From w.heap.size) (bools (holdL xs.length back (labAt xs ls) ⟨5, q, kids⟩)) v' ∧ Below w.heap.size w w' := by
  obtain ⟨A, c, rfl, hn, hc⟩ := forms_slice h
  obtain ⟨L, d, rfl, hnl, hcl⟩ := ints_slice l
  obtain ⟨M, e, rfl, hnm, hcm⟩ := ints_slice m
  have hB0 := (Blk.new w 38 #[.int .i64 5, .int .i64 q, .slice A kids.length c]).alloc (.cells #[.slice L xs.length d, .int .i64 back] 27)
  have hC0 := Blk.new (w.alloc (.cells #[.int .i64 5, .int .i64 q, .slice A kids.length c] 38)) 27 #[.slice L xs.length d, .int .i64 back]
  rw [World.size_alloc] at hC0
  have hks : kids.length ≤ 2 := by omega
  have hxl := hl.le
  have IH := Lib.hid ih
  have HK := Lib.hid hkok
  have HKL := Lib.hid hk
  clear ih hkok hk
  go_enter Try.func60, Try.ntmps60
  go_wp2_with fail
  go_loopw [7, 20] (fun kv t wr => ∃ j : Nat, j ≤ kids.length ∧ t = .int .i64 j ∧ KidRow wr (w.heap.size + 1 + 1) kv j (kids.map (holdL xs.length back (labAt xs ls))) ∧ w.heap.size + 1 + 1 ≤ wr.heap.size ∧
      Blk wr w.heap.size 38 #[.int .i64 5, .int .i64 q, .slice A kids.length c] ∧ Blk wr (w.heap.size + 1) 27 #[.slice L xs.length d, .int .i64 back] ∧ Below w.heap.size w wr) (fun _ t _ => kids.length - (intOf t).toNat)
  case atStart =>
    refine ⟨0, Nat.zero_le _, rfl, KidRow.none_ _ (Nat.le_refl _) ?_ rfl, by simp, hB0.alloc _, hC0.alloc _, by repeat (first | with_reducible exact Below.refl _ _ | with_reducible refine Below.setCell ?_ (by first | omega | (simp <;> omega)) _ | with_reducible refine Below.drew ?_ | with_reducible refine below_drewN ?_ _ | with_reducible refine Below.alloc ?_ (by first | omega | (simp <;> omega)) _ | with_reducible refine Below.trans ?_ (Below.mono (by assumption) (by first | omega | (simp <;> omega))))⟩
    have := Blk.new ((w.alloc (.cells #[.int .i64 5, .int .i64 q, .slice A kids.length c] 38)).alloc (.cells #[.slice L xs.length d, .int .i64 back] 27)) 89 #[]
    rwa [World.size_alloc, World.size_alloc] at this
  case round =>
    obtain ⟨j, hj, rfl, hkr, hsz, hB, hC, hb⟩ := hrel
    obtain ⟨kv, rfl⟩ : ∃ kv : Value, kv = u7 := ⟨_, rfl⟩
    have HKR := Lib.hid hkr
    clear hkr
    by_cases hlt : j < kids.length
    · obtain ⟨b, off, f, u, rfl, _, hlb, hc1, hc2, hc3, hu, HX, _⟩ := forms_get (h.below hb) hlt
      obtain ⟨Au, cu, rfl, hnu, hcu⟩ := forms_slice hu
      have hmem := List.mem_of_getElem? HX.out
      obtain ⟨q4, q5⟩ := hC.c2
      have hC1 := hC.alloc (.cells #[.int .i64 f.kind, .int .i64 f.prop, .slice Au f.kids.length cu] 38)
      have l1 := (l.below hb).alloc (.cells #[.int .i64 f.kind, .int .i64 f.prop, .slice Au f.kids.length cu] 38)
      have m1 := (m.below hb).alloc (.cells #[.int .i64 f.kind, .int .i64 f.prop, .slice Au f.kids.length cu] 38)
      have hu1 := hu.alloc (.cells #[.int .i64 f.kind, .int .i64 f.prop, .slice Au f.kids.length cu] 38)
      have HKR1 := Lib.hid (HKR.out.below ((Below.refl wr.heap.size wr).alloc (Nat.le_refl _) (.cells #[.int .i64 f.kind, .int .i64 f.prop, .slice Au f.kids.length cu] 38)))
      obtain ⟨_, _⟩ := hC1.c2
      go_wp2_with fail
      refine (IH.out f hmem _ _ _ _ hu1 l1 m1 (HK.out f hmem)).mono ?_
      rintro e w1 ⟨v', rfl, ha, hb1⟩
      obtain ⟨A', c', rfl, hn', hc'⟩ := bools_slice ha
      have z1 := hb1.size
      simp at z1
      have hBs : KidRow (w1.alloc (.cells #[.slice A' (holdL xs.length back (labAt xs ls) f).length c'] 89)) (w.heap.size + 1 + 1) kv j (kids.map (holdL xs.length back (labAt xs ls))) := (HKR1.out.below hb1).below ((Below.refl _ _).alloc (Nat.le_refl _) _)
      obtain ⟨vs, hown, hvl, hvs⟩ := hBs
      have HOW := Lib.hid hown
      have hnews := World.news_of_block (heap_alloc_new w1 (.cells #[.slice A' (holdL xs.length back (labAt xs ls) f).length c'] 89))
      have HNW := Lib.hid hnews
      have HVS := Lib.hid hvs
      obtain ⟨i0, hi, hz0, hz1, hz2⟩ := info_parts Try.infoBools
      clear hown hnews hvs
      go_wp2_with (at_builtin; refine wpList_append_lies _ rfl _ _ _ rfl (w.heap.size + 1 + 1) 89 i0 (.slice none 0 0) 1 24 Try.underlying107 hi hz0 hz1 hz2 rfl (by omega) kv j vs rfl HOW.out ⟨w1.heap.size, 0, none⟩ 1 1 [.slice A' (holdL xs.length back (labAt xs ls) f).length c'] rfl rfl HNW.out (by simp [Value.oneCell']) (by omega) (by unfold maxLen; omega) (by omega) (by simp; omega) (w1.heap.size + 1) (World.size_alloc _ _) ?_; intro g cap w3 hown3 hgrow3 hat3 hlt3)
      go_wp2_with fail
      go_roundw
      case rel =>
        obtain ⟨r1, r2, r3⟩ := HKR1.out.round (by simp; omega) hb1 ha (by simp [HX.out]) vs HOW.out hown3 hgrow3 hat3
        have z3 := r2.size
        simp at z3
        exact ⟨j + 1, by omega, by go_num, r1, by omega, r3 _ _ _ (by omega) (hB.alloc _), r3 _ _ _ (by omega) hC1, by repeat (first | with_reducible exact Below.refl _ _ | with_reducible refine Below.setCell ?_ (by first | omega | (simp <;> omega)) _ | with_reducible refine Below.drew ?_ | with_reducible refine below_drewN ?_ _ | with_reducible refine Below.alloc ?_ (by first | omega | (simp <;> omega)) _ | with_reducible refine Below.trans ?_ (Below.mono (by assumption) (by first | omega | (simp <;> omega))))⟩
      case measure => simp [intOf]; omega
    · have hjk : j = kids.length := by omega
      subst hjk
      have hmk := run_make_row' (P := Try.prog) 89 4 _ 1 Try.underlying89 Try.infoBool rfl .i64 .i64 xs.length (by omega) (by omega)
      have hbo : Below wr.heap.size wr ((wr.alloc (.cells #[.int .i64 xs.length] 3)).alloc (.cells (madeCells #[.bool false] xs.length) 4)) := by repeat (first | with_reducible exact Below.refl _ _ | with_reducible refine Below.setCell ?_ (by first | omega | (simp <;> omega)) _ | with_reducible refine Below.drew ?_ | with_reducible refine below_drewN ?_ _ | with_reducible refine Below.alloc ?_ (by first | omega | (simp <;> omega)) _ | with_reducible refine Below.trans ?_ (Below.mono (by assumption) (by first | omega | (simp <;> omega))))
      have hB2 := hB.next hbo
      have hC2 := hC.next hbo
      obtain ⟨q1, q2, q3⟩ := hB2.c3
      obtain ⟨q4, q5⟩ := hC2.c2
      obtain ⟨q6, q7⟩ := hC.c2
      have hlr := l.below hb
      have hmr := m.below hb
      have hN0 := (Blk.new wr 3 #[.int .i64 xs.length]).alloc (.cells (madeCells #[.bool false] xs.length) 4)
      have hO0 := Blk.new (wr.alloc (.cells #[.int .i64 xs.length] 3)) 4 (madeCells #[.bool false] xs.length)
      rw [World.size_alloc] at hO0
      have HO0 := Lib.hid hO0
      have HN0 := Lib.hid hN0
      have hpos := hl.pos
      have hbk := hl.back
      clear hO0 hN0 hC0 hB0 hlt hj
      obtain ⟨wo, rfl⟩ : ∃ wo : World, wo = wr := ⟨_, rfl⟩
      go_wp2_with fail
      go_loopw [41] (fun t w2 => ∃ (i : Nat) (cs : Array Value), i ≤ xs.length ∧ t = .int .i64 i ∧ Blk w2 (wo.heap.size + 1) 4 cs ∧ Filled cs xs.length i (fun k => Bool.or (kidH xs back ls kids 0 k) (kidH xs back ls kids 1 k)) ∧ Blk w2 wo.heap.size 3 #[.int .i64 xs.length] ∧ Below wo.heap.size wo w2) (fun t _ => xs.length - (intOf t).toNat)
      case atStart => exact ⟨0, _, Nat.zero_le _, rfl, HO0.out, Filled.start _ _, HN0.out, hbo⟩
      case round =>
        obtain ⟨i, cs, hi, rfl, hO, hfl, hN, hb2⟩ := hrel
        have HO := Lib.hid hO
        have HFL := Lib.hid hfl
        obtain ⟨p1, p2, p3⟩ := (hB.next hb2).c3
        obtain ⟨p4, p5⟩ := (hC.next hb2).c2
        clear hO hfl
        by_cases hlt : i < xs.length
        · obtain ⟨bl, ol, x, rfl, _, hll, cx, HX, _⟩ := ints_get (hlr.below hb2) hlt
          obtain ⟨u, hu⟩ := HFL.out.at_ hlt
          have cu : wr.cell? ⟨wo.heap.size + 1, i, none⟩ = some u := (HO.out.cell i).trans hu
          have fu := HO.out.frozen i
          clear hu
          have hj1 : 0 < kids.length := by rw [HKL.out]; omega
          have hj2 : 1 < kids.length := by rw [HKL.out]; omega
          obtain ⟨g, cap, b0, o0, c0, rfl, hg, hb0, k1, hc0, k2⟩ := HKR.out.cell hb2 hj1 hlt
          obtain ⟨g', cap', b1, o1, c1, eg, hg', hb1, k3, hc1, k4⟩ := HKR.out.cell hb2 hj2 hlt
          injection eg with eg1 eg2 eg3
          injection eg1 with eg1
          injection eg1 with eg1
          subst eg1 eg3
          obtain ⟨x0, hx0⟩ : ∃ x0, x0 = kidH xs back ls kids 0 i := ⟨_, rfl⟩
          obtain ⟨x1, hx1⟩ : ∃ x1, x1 = kidH xs back ls kids 1 i := ⟨_, rfl⟩
          rw [← hx0] at k2
          rw [← hx1] at k4
          have HX0 := Lib.hid hx0
          have HX1 := Lib.hid hx1
          clear hx0 hx1 eg2
          cases x0
          · go_wp2_with fail
            go_roundw
            case rel => exact ⟨i + 1, _, by omega, by go_num, HO.out.set_ _ _, HFL.out.to hlt (by rw [← HX0.out, ← HX1.out]; simp), hN.far (by simp) _, by repeat (first | with_reducible exact Below.refl _ _ | with_reducible refine Below.setCell ?_ (by first | omega | (simp <;> omega)) _ | with_reducible refine Below.drew ?_ | with_reducible refine below_drewN ?_ _ | with_reducible refine Below.alloc ?_ (by first | omega | (simp <;> omega)) _ | with_reducible refine Below.trans ?_ (Below.mono (by assumption) (by first | omega | (simp <;> omega))))⟩
            case measure => simp [intOf]; omega
          · go_wp2_with fail
            go_roundw
            case rel => exact ⟨i + 1, _, by omega, by go_num, HO.out.set_ _ _, HFL.out.to hlt (by rw [← HX0.out, ← HX1.out]; simp), hN.far (by simp) _, by repeat (first | with_reducible exact Below.refl _ _ | with_reducible refine Below.setCell ?_ (by first | omega | (simp <;> omega)) _ | with_reducible refine Below.drew ?_ | with_reducible refine below_drewN ?_ _ | with_reducible refine Below.alloc ?_ (by first | omega | (simp <;> omega)) _ | with_reducible refine Below.trans ?_ (Below.mono (by assumption) (by first | omega | (simp <;> omega))))⟩
            case measure => simp [intOf]; omega
        · have hin : i = xs.length := by omega
          subst hin
          go_wp2_with fail
          go_ret
          refine ⟨_, rfl, ?_, ?_⟩
          · have e : holdL xs.length back (labAt xs ls) ⟨5, q, kids⟩ = (List.range xs.length).map fun k => Bool.or (kidH xs back ls kids 0 k) (kidH xs back ls kids 1 k) := by
              unfold holdL
              rw [Fm.hold_eq]
              rfl
            rw [e]
            exact HFL.out.all HO.out (by omega) (by omega)
          · repeat (first | with_reducible exact Below.refl _ _ | with_reducible refine Below.setCell ?_ (by first | omega | (simp <;> omega)) _ | with_reducible refine Below.drew ?_ | with_reducible refine below_drewN ?_ _ | with_reducible refine Below.alloc ?_ (by first | omega | (simp <;> omega)) _ | with_reducible refine Below.trans ?_ (Below.mono (by assumption) (by first | omega | (simp <;> omega))))

end Go.Proofs.Ytagnfckihdlhpaa

/-
  What the program's places computes at kind 6.
-/
namespace Go.Proofs.Ytagnfckihdlhpaa
open Go.RowKit

theorem next_any (n back i : Nat) (hn : n ≤ 40) (hi : i < n) (N Lb : Nat) (w : World) (h1 : w.cell? ⟨N, 0, none⟩ = some (.int .i64 n)) (h2 : w.cell? ⟨Lb, 1, none⟩ = some (.int .i64 back)) :
    Calls Try.prog 76 #[.int .i64 i, .pointer (some ⟨N, 0, none⟩), .pointer (some ⟨Lb, 0, none⟩)] w fun e w' => e = .returned (.int .i64 (nxt n back i : Nat)) ∧ w = w' := by
  by_cases e : i + 1 < n
  · have HF : Hid (nxt n back i = i + 1) := by show nxt n back i = _; unfold nxt; rw [if_pos e]
    go_enter Try.func76, Try.ntmps76
    go_wp2_with fail
    go_ret
    exact ⟨ret_int (by rw [HF.out]; omega), rfl⟩
  · have HF : Hid (nxt n back i = back) := by show nxt n back i = _; unfold nxt; rw [if_neg e]
    go_enter Try.func76, Try.ntmps76
    go_wp2_with fail
    go_ret
    exact ⟨ret_int (by rw [HF.out]), rfl⟩
theorem nxt_lt {n back i : Nat} (hb : back < n) : nxt n back i < n := by
  unfold nxt
  split <;> omega

set_option maxRecDepth 100000 in
set_option maxHeartbeats 4000000 in
theorem places_6 (xs : List Int) (back : Nat) (ls : List Int) (hl : LassoOK xs back ls) (q : Int) (kids : List Fm) (hk : kids.length = 1) (hkok : ∀ x ∈ kids, x.ok = true) (ih : ∀ x ∈ kids, PlacesF xs back ls x) (_hq0 : 0 ≤ q) (_hq7 : q ≤ 7) (w : World) (v s lv : Value)
    (h : At w Any (forms kids) v) (l : At w Any (ints xs) s) (m : At w Any (ints ls) lv) :
    Calls Try.prog 60 #[.agg #[.int .i64 6, .int .i64 q, v], .agg #[s, .int .i64 back], lv] w fun e w' => ∃ v', e = .returned v' ∧ At w' (From w.heap.size) (bools (holdL xs.length back (labAt xs ls) ⟨6, q, kids⟩)) v' ∧ Below w.heap.size w w' := by
  obtain ⟨A, c, rfl, hn, hc⟩ := forms_slice h
  obtain ⟨L, d, rfl, hnl, hcl⟩ := ints_slice l
  obtain ⟨M, e, rfl, hnm, hcm⟩ := ints_slice m
  have hB0 := (Blk.new w 38 #[.int .i64 6, .int .i64 q, .slice A kids.length c]).alloc (.cells #[.slice L xs.length d, .int .i64 back] 27)
  have hC0 := Blk.new (w.alloc (.cells #[.int .i64 6, .int .i64 q, .slice A kids.length c] 38)) 27 #[.slice L xs.length d, .int .i64 back]
  rw [World.size_alloc] at hC0
  have hks : kids.length ≤ 2 := by omega
  have hxl := hl.le
  have IH := Lib.hid ih
  have HK := Lib.hid hkok
  have HKL := Lib.hid hk
  clear ih hkok hk
  go_enter Try.func60, Try.ntmps60
  go_wp2_with fail
  go_loopw [7, 20] (fun kv t wr => ∃ j : Nat, j ≤ kids.length ∧ t = .int .i64 j ∧ KidRow wr (w.heap.size + 1 + 1) kv j (kids.map (holdL xs.length back (labAt xs ls))) ∧ w.heap.size + 1 + 1 ≤ wr.heap.size ∧
      Blk wr w.heap.size 38 #[.int .i64 6, .int .i64 q, .slice A kids.length c] ∧ Blk wr (w.heap.size + 1) 27 #[.slice L xs.length d, .int .i64 back] ∧ Below w.heap.size w wr) (fun _ t _ => kids.length - (intOf t).toNat)
  case atStart =>
    refine ⟨0, Nat.zero_le _, rfl, KidRow.none_ _ (Nat.le_refl _) ?_ rfl, by simp, hB0.alloc _, hC0.alloc _, by repeat (first | with_reducible exact Below.refl _ _ | with_reducible refine Below.setCell ?_ (by first | omega | (simp <;> omega)) _ | with_reducible refine Below.drew ?_ | with_reducible refine below_drewN ?_ _ | with_reducible refine Below.alloc ?_ (by first | omega | (simp <;> omega)) _ | with_reducible refine Below.trans ?_ (Below.mono (by assumption) (by first | omega | (simp <;> omega))))⟩
    have := Blk.new ((w.alloc (.cells #[.int .i64 6, .int .i64 q, .slice A kids.length c] 38)).alloc (.cells #[.slice L xs.length d, .int .i64 back] 27)) 89 #[]
    rwa [World.size_alloc, World.size_alloc] at this
  case round =>
    obtain ⟨j, hj, rfl, hkr, hsz, hB, hC, hb⟩ := hrel
    obtain ⟨kv, rfl⟩ : ∃ kv : Value, kv = u7 := ⟨_, rfl⟩
    have HKR := Lib.hid hkr
    clear hkr
    by_cases hlt : j < kids.length
    · obtain ⟨b, off, f, u, rfl, _, hlb, hc1, hc2, hc3, hu, HX, _⟩ := forms_get (h.below hb) hlt
      obtain ⟨Au, cu, rfl, hnu, hcu⟩ := forms_slice hu
      have hmem := List.mem_of_getElem? HX.out
      obtain ⟨q4, q5⟩ := hC.c2
      have hC1 := hC.alloc (.cells #[.int .i64 f.kind, .int .i64 f.prop, .slice Au f.kids.length cu] 38)
      have l1 := (l.below hb).alloc (.cells #[.int .i64 f.kind, .int .i64 f.prop, .slice Au f.kids.length cu] 38)
      have m1 := (m.below hb).alloc (.cells #[.int .i64 f.kind, .int .i64 f.prop, .slice Au f.kids.length cu] 38)
      have hu1 := hu.alloc (.cells #[.int .i64 f.kind, .int .i64 f.prop, .slice Au f.kids.length cu] 38)
      have HKR1 := Lib.hid (HKR.out.below ((Below.refl wr.heap.size wr).alloc (Nat.le_refl _) (.cells #[.int .i64 f.kind, .int .i64 f.prop, .slice Au f.kids.length cu] 38)))
      obtain ⟨_, _⟩ := hC1.c2
      go_wp2_with fail
      refine (IH.out f hmem _ _ _ _ hu1 l1 m1 (HK.out f hmem)).mono ?_
      rintro e w1 ⟨v', rfl, ha, hb1⟩
      obtain ⟨A', c', rfl, hn', hc'⟩ := bools_slice ha
      have z1 := hb1.size
      simp at z1
      have hBs : KidRow (w1.alloc (.cells #[.slice A' (holdL xs.length back (labAt xs ls) f).length c'] 89)) (w.heap.size + 1 + 1) kv j (kids.map (holdL xs.length back (labAt xs ls))) := (HKR1.out.below hb1).below ((Below.refl _ _).alloc (Nat.le_refl _) _)
      obtain ⟨vs, hown, hvl, hvs⟩ := hBs
      have HOW := Lib.hid hown
      have hnews := World.news_of_block (heap_alloc_new w1 (.cells #[.slice A' (holdL xs.length back (labAt xs ls) f).length c'] 89))
      have HNW := Lib.hid hnews
      have HVS := Lib.hid hvs
      obtain ⟨i0, hi, hz0, hz1, hz2⟩ := info_parts Try.infoBools
      clear hown hnews hvs
      go_wp2_with (at_builtin; refine wpList_append_lies _ rfl _ _ _ rfl (w.heap.size + 1 + 1) 89 i0 (.slice none 0 0) 1 24 Try.underlying107 hi hz0 hz1 hz2 rfl (by omega) kv j vs rfl HOW.out ⟨w1.heap.size, 0, none⟩ 1 1 [.slice A' (holdL xs.length back (labAt xs ls) f).length c'] rfl rfl HNW.out (by simp [Value.oneCell']) (by omega) (by unfold maxLen; omega) (by omega) (by simp; omega) (w1.heap.size + 1) (World.size_alloc _ _) ?_; intro g cap w3 hown3 hgrow3 hat3 hlt3)
      go_wp2_with fail
      go_roundw
      case rel =>
        obtain ⟨r1, r2, r3⟩ := HKR1.out.round (by simp; omega) hb1 ha (by simp [HX.out]) vs HOW.out hown3 hgrow3 hat3
        have z3 := r2.size
        simp at z3
        exact ⟨j + 1, by omega, by go_num, r1, by omega, r3 _ _ _ (by omega) (hB.alloc _), r3 _ _ _ (by omega) hC1, by repeat (first | with_reducible exact Below.refl _ _ | with_reducible refine Below.setCell ?_ (by first | omega | (simp <;> omega)) _ | with_reducible refine Below.drew ?_ | with_reducible refine below_drewN ?_ _ | with_reducible refine Below.alloc ?_ (by first | omega | (simp <;> omega)) _ | with_reducible refine Below.trans ?_ (Below.mono (by assumption) (by first | omega | (simp <;> omega))))⟩
      case measure => simp [intOf]; omega
    · have hjk : j = kids.length := by omega
      subst hjk
      have hmk := run_make_row' (P := Try.prog) 89 4 _ 1 Try.underlying89 Try.infoBool rfl .i64 .i64 xs.length (by omega) (by omega)
      have hbo : Below wr.heap.size wr ((wr.alloc (.cells #[.int .i64 xs.length] 3)).alloc (.cells (madeCells #[.bool false] xs.length) 4)) := by repeat (first | with_reducible exact Below.refl _ _ | with_reducible refine Below.setCell ?_ (by first | omega | (simp <;> omega)) _ | with_reducible refine Below.drew ?_ | with_reducible refine below_drewN ?_ _ | with_reducible refine Below.alloc ?_ (by first | omega | (simp <;> omega)) _ | with_reducible refine Below.trans ?_ (Below.mono (by assumption) (by first | omega | (simp <;> omega))))
      have hB2 := hB.next hbo
      have hC2 := hC.next hbo
      obtain ⟨q1, q2, q3⟩ := hB2.c3
      obtain ⟨q4, q5⟩ := hC2.c2
      obtain ⟨q6, q7⟩ := hC.c2
      have hlr := l.below hb
      have hmr := m.below hb
      have hN0 := (Blk.new wr 3 #[.int .i64 xs.length]).alloc (.cells (madeCells #[.bool false] xs.length) 4)
      have hO0 := Blk.new (wr.alloc (.cells #[.int .i64 xs.length] 3)) 4 (madeCells #[.bool false] xs.length)
      rw [World.size_alloc] at hO0
      have HO0 := Lib.hid hO0
      have HN0 := Lib.hid hN0
      have hpos := hl.pos
      have hbk := hl.back
      clear hO0 hN0 hC0 hB0 hlt hj
      obtain ⟨wo, rfl⟩ : ∃ wo : World, wo = wr := ⟨_, rfl⟩
      go_wp2_with fail
      go_loopw [41] (fun t w2 => ∃ (i : Nat) (cs : Array Value), i ≤ xs.length ∧ t = .int .i64 i ∧ Blk w2 (wo.heap.size + 1) 4 cs ∧ Filled cs xs.length i (fun k => kidH xs back ls kids 0 (nxt xs.length back k)) ∧ Blk w2 wo.heap.size 3 #[.int .i64 xs.length] ∧ Below wo.heap.size wo w2) (fun t _ => xs.length - (intOf t).toNat)
      case atStart => exact ⟨0, _, Nat.zero_le _, rfl, HO0.out, Filled.start _ _, HN0.out, hbo⟩
      case round =>
        obtain ⟨i, cs, hi, rfl, hO, hfl, hN, hb2⟩ := hrel
        have HO := Lib.hid hO
        have HFL := Lib.hid hfl
        obtain ⟨p1, p2, p3⟩ := (hB.next hb2).c3
        obtain ⟨p4, p5⟩ := (hC.next hb2).c2
        clear hO hfl
        by_cases hlt : i < xs.length
        · obtain ⟨bl, ol, x, rfl, _, hll, cx, HX, _⟩ := ints_get (hlr.below hb2) hlt
          obtain ⟨u, hu⟩ := HFL.out.at_ hlt
          have cu : wr.cell? ⟨wo.heap.size + 1, i, none⟩ = some u := (HO.out.cell i).trans hu
          have fu := HO.out.frozen i
          clear hu
          have hj1 : 0 < kids.length := by rw [HKL.out]; omega
          have hnx := nxt_lt (i := i) hbk
          obtain ⟨g, cap, b0, o0, c0, rfl, hg, hb0, k1, hc0, k2⟩ := HKR.out.cell hb2 hj1 hnx
          have hn1 := hN.c1
          have HNX : Hid (∀ W : World, W.cell? ⟨wo.heap.size, 0, none⟩ = some (.int .i64 xs.length) → W.cell? ⟨w.heap.size + 1, 1, none⟩ = some (.int .i64 back) → Calls Try.prog 76 #[.int .i64 i, .pointer (some ⟨wo.heap.size, 0, none⟩), .pointer (some ⟨w.heap.size + 1, 0, none⟩)] W fun e w' => e = .returned (.int .i64 (nxt xs.length back i : Nat)) ∧ W = w') := fun W => next_any xs.length back i (by omega) hlt _ _ W
          generalize hgn : nxt xs.length back i = ni at *
          have HGN := Lib.hid hgn
          clear hgn
          have hii : (i : Int) < (xs.length : Int) := by omega
          have hni : (ni : Int) < (xs.length : Int) := by omega
          have hne1 : ¬ g = wo.heap.size + 1 := by omega
          have hne2 : ¬ b0 = wo.heap.size + 1 := by omega
          have hne3 : ¬ wo.heap.size + 1 = g := by omega
          have hne4 : ¬ wo.heap.size + 1 = b0 := by omega
          have hne5 : ¬ w.heap.size + 1 = wo.heap.size + 1 := by omega
          have hne6 : ¬ w.heap.size = wo.heap.size := by omega
          have hne7 : ¬ wo.heap.size = w.heap.size := by omega
          go_wp2_with fail
          go_region_held3 (fun w' => w'.cell? ⟨g, 0, none⟩ = some (.slice (some ⟨b0, o0, none⟩) xs.length c0) ∧ w'.cell? ⟨b0, o0 + ni, none⟩ = some (.bool (kidH xs back ls kids 0 ni)) ∧ w'.cell? ⟨wo.heap.size, 0, none⟩ = some (.int .i64 xs.length) ∧ w'.cell? ⟨w.heap.size + 1, 1, none⟩ = some (.int .i64 back)) (go_keep)
            (first | (go_at_call 76; refine (HNX.out _ ?_ ?_).mono ?_; (exact hn1); (exact p5); rintro e w4 ⟨rfl, rfl⟩))
          go_wp2_with fail
          go_roundw
          case rel => exact ⟨i + 1, _, by omega, by go_num, HO.out.set_ _ _, HFL.out.to hlt (by rw [HGN.out]), hN.far (by simp) _, by repeat (first | with_reducible exact Below.refl _ _ | with_reducible refine Below.setCell ?_ (by first | omega | (simp <;> omega)) _ | with_reducible refine Below.drew ?_ | with_reducible refine below_drewN ?_ _ | with_reducible refine Below.alloc ?_ (by first | omega | (simp <;> omega)) _ | with_reducible refine Below.trans ?_ (Below.mono (by assumption) (by first | omega | (simp <;> omega))))⟩
          case measure => simp [intOf]; omega
        · have hin : i = xs.length := by omega
          subst hin
          go_wp2_with fail
          go_ret
          refine ⟨_, rfl, ?_, ?_⟩
          · have e : holdL xs.length back (labAt xs ls) ⟨6, q, kids⟩ = (List.range xs.length).map fun k => kidH xs back ls kids 0 (nxt xs.length back k) := by
              unfold holdL
              rw [Fm.hold_eq]
              rfl
            rw [e]
            exact HFL.out.all HO.out (by omega) (by omega)
          · repeat (first | with_reducible exact Below.refl _ _ | with_reducible refine Below.setCell ?_ (by first | omega | (simp <;> omega)) _ | with_reducible refine Below.drew ?_ | with_reducible refine below_drewN ?_ _ | with_reducible refine Below.alloc ?_ (by first | omega | (simp <;> omega)) _ | with_reducible refine Below.trans ?_ (Below.mono (by assumption) (by first | omega | (simp <;> omega))))

end Go.Proofs.Ytagnfckihdlhpaa

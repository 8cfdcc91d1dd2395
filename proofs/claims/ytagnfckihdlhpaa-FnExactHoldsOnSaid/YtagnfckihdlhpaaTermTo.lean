/-
  What toTerm, toTermS and toIntSS compute: copies in new memory.
-/
import Derived.Test.YtagnfckihdlhpaaTermSz
namespace Go.Proofs.Ytagnfckihdlhpaa
open Go.RowKit

theorem Try.infoTerm : (Try.prog.info? 100).map (fun i => (i.zero, i.size, i.bytes)) = some (some (.agg #[.int .i64 0, .string ⟨#[]⟩, .int .i64 0, .slice none 0 0]), 4, 56) := by kernel_rfl
theorem Try.infoInts : (Try.prog.info? 22).map (fun i => (i.zero, i.size, i.bytes)) = some (some (.slice none 0 0), 1, 24) := by kernel_rfl

def ToT (t : Tm) : Prop := ∀ (w : World) (S : Nat → Prop) (v : Value), At w S (terms t.args) v → t.total ≤ 1048576 →
    Calls Try.prog 72 #[.agg #[.int .i64 t.op, .string t.name, .int .i64 t.sort, v]] w fun e w' => ∃ v', e = .returned (.agg #[.int .i64 t.op, .string t.name, .int .i64 t.sort, v']) ∧ At w' (From w.heap.size) (terms t.args) v' ∧ Below w.heap.size w w'

/-- What the row under copy holds when k elements are copied. -/
def ToRowT (w : World) (B : Nat) (ts : List Tm) (k : Nat) (cs : Array Value) : Prop :=
  cs.size = ts.length * 4 ∧ ∀ (j : Nat) (t : Tm), j < k → ts[j]? = some t → ∃ v, cs[j * 4]? = some (.int .i64 t.op) ∧ cs[j * 4 + 1]? = some (.string t.name) ∧ cs[j * 4 + 2]? = some (.int .i64 t.sort) ∧ cs[j * 4 + 3]? = some v ∧ At w (From B) (terms t.args) v

theorem ToRowT.step {w w1 : World} {B : Nat} {ts : List Tm} {k : Nat} {cs : Array Value} {t : Tm} {u : Value} (h : ToRowT w B ts k cs) (hb : Below w.heap.size w w1) (ht : ts[k]? = some t) (ha : At w1 (From B) (terms t.args) u) {p0 p1 p2 p3 : Addr} {u0 u1 u2 u3 : Value}
    (q0 : p0.block < B) (q1 : p1.block < B) (q2 : p2.block < B) (q3 : p3.block < B) :
    ToRowT ((((w1.setCell p0 u0).setCell p1 u1).setCell p2 u2).setCell p3 u3) B ts (k + 1) ((((cs.setIfInBounds (k * 4) (.int .i64 t.op)).setIfInBounds (k * 4 + 1) (.string t.name)).setIfInBounds (k * 4 + 2) (.int .i64 t.sort)).setIfInBounds (k * 4 + 3) u) := by
  obtain ⟨h1, h2⟩ := h
  have hk : k < ts.length := (List.getElem?_eq_some_iff.1 ht).1
  have keep : ∀ {d : D} {v : Value}, At w1 (From B) d v → At ((((w1.setCell p0 u0).setCell p1 u1).setCell p2 u2).setCell p3 u3) (From B) d v := fun h =>
    (((h.setCell (by simp [From]; omega) _).setCell (by simp [From]; omega) _).setCell (by simp [From]; omega) _).setCell (by simp [From]; omega) _
  refine ⟨by simpa using h1, fun j g hj hg => ?_⟩
  by_cases e : j = k
  · subst e
    rw [ht] at hg
    obtain rfl : t = g := by injection hg
    refine ⟨u, ?_, ?_, ?_, ?_, keep ha⟩ <;> simp [Array.getElem?_setIfInBounds, h1] <;> omega
  · obtain ⟨v, e0, e1, e2, e3, hat⟩ := h2 j g (by omega) hg
    refine ⟨v, ?_, ?_, ?_, ?_, keep (hat.below hb)⟩
    · rw [Array.getElem?_setIfInBounds_ne (by omega), Array.getElem?_setIfInBounds_ne (by omega), Array.getElem?_setIfInBounds_ne (by omega), Array.getElem?_setIfInBounds_ne (by omega)]; exact e0
    · rw [Array.getElem?_setIfInBounds_ne (by omega), Array.getElem?_setIfInBounds_ne (by omega), Array.getElem?_setIfInBounds_ne (by omega), Array.getElem?_setIfInBounds_ne (by omega)]; exact e1
    · rw [Array.getElem?_setIfInBounds_ne (by omega), Array.getElem?_setIfInBounds_ne (by omega), Array.getElem?_setIfInBounds_ne (by omega), Array.getElem?_setIfInBounds_ne (by omega)]; exact e2
    · rw [Array.getElem?_setIfInBounds_ne (by omega), Array.getElem?_setIfInBounds_ne (by omega), Array.getElem?_setIfInBounds_ne (by omega), Array.getElem?_setIfInBounds_ne (by omega)]; exact e3

theorem terms_fits {w : World} {S : Nat → Prop} {ts : List Tm} {v : Value} (h : At w S (terms ts) v) {k : Nat} {t : Tm} (hk : ts[k]? = some t) : t.fits := by
  obtain ⟨A, c, rfl, _⟩ := terms_slice h
  obtain ⟨_, _, g, _, _, _, _, _, _, _, _, _, hg, hf⟩ := terms_get h (List.getElem?_eq_some_iff.1 hk).1
  have hg' := hg.out
  rw [hk] at hg'
  obtain rfl : t = g := by injection hg'
  exact hf

set_option maxHeartbeats 1000000 in
theorem toTermS_of (ts : List Tm) (ih : ∀ x ∈ ts, ToT x) (w : World) (S : Nat → Prop) (v : Value) (h : At w S (terms ts) v) (h1 : tmTotals ts ≤ 1048576) :
    Calls Try.prog 49 #[v] w fun e w' => ∃ v', e = .returned v' ∧ At w' (From w.heap.size) (terms ts) v' ∧ Below w.heap.size w w' := by
  obtain ⟨A, c, rfl, hn, hc⟩ := terms_slice h
  have IH := Lib.hid ih
  clear ih
  unfold tmTotals at h1
  have hmk := make_rowN (P := Try.prog) 48 100 _ 4 56 Try.underlying48 Try.infoTerm ts.length (by omega) (by omega)
  go_enter Try.func49, Try.ntmps49
  go_wp2_with fail
  go_loopw [4] (fun i wr => ∃ (k : Nat) (cs : Array Value), k ≤ ts.length ∧ i = .int .i64 k ∧ Blk wr w.heap.size 100 cs ∧ ToRowT wr (w.heap.size + 1) ts k cs ∧ Below w.heap.size w wr)
    (fun i _ => ts.length - (intOf i).toNat)
  case atStart => exact ⟨0, _, Nat.zero_le _, rfl, Blk.new _ _ _, ⟨made_size _ _, fun j _ hj => by omega⟩, (Below.refl _ _).alloc (Nat.le_refl _) _⟩
  case round =>
    obtain ⟨k, cs, hk, rfl, hblk, hrow, hb⟩ := hrel
    have HB := Lib.hid hblk
    have HR := Lib.hid hrow
    clear hblk hrow hmk
    by_cases hlt : k < ts.length
    · obtain ⟨b, off, t, u, rfl, _, hlb, hc1, hc2, hc3, hc4, hu, HX, _⟩ := terms_get (h.below hb) hlt
      have hmem := List.mem_of_getElem? HX.out
      have hle := le_sum_of_mem (f := Tm.total) hmem
      have hbs := HB.out.lt
      go_wp2_with fail
      refine (IH.out t hmem _ S _ hu (by omega)).mono ?_
      rintro e w1 ⟨v', rfl, ha, hb1⟩
      obtain ⟨A', c', rfl, hn', hc'⟩ := terms_slice ha
      have HB1 := Lib.hid (HB.out.next hb1)
      have hsz := HR.out.1
      obtain ⟨d0, e0⟩ : ∃ d, w1.cell? ⟨w.heap.size, k * 4, none⟩ = some d := ⟨_, (HB1.out.cell _).trans (Array.getElem?_eq_getElem (by omega))⟩
      obtain ⟨d1, e1⟩ : ∃ d, w1.cell? ⟨w.heap.size, k * 4 + 1, none⟩ = some d := ⟨_, (HB1.out.cell _).trans (Array.getElem?_eq_getElem (by omega))⟩
      obtain ⟨d2, e2⟩ : ∃ d, w1.cell? ⟨w.heap.size, k * 4 + 2, none⟩ = some d := ⟨_, (HB1.out.cell _).trans (Array.getElem?_eq_getElem (by omega))⟩
      obtain ⟨d3, e3⟩ : ∃ d, w1.cell? ⟨w.heap.size, k * 4 + 3, none⟩ = some d := ⟨_, (HB1.out.cell _).trans (Array.getElem?_eq_getElem (by omega))⟩
      have f0 := HB1.out.frozen (k * 4)
      have f1 := HB1.out.frozen (k * 4 + 1)
      have f2 := HB1.out.frozen (k * 4 + 2)
      have f3 := HB1.out.frozen (k * 4 + 3)
      clear hsz
      go_wp2_with fail
      go_roundw
      case rel => exact ⟨k + 1, _, by omega, by go_num, (((HB1.out.set_ _ _).set_ _ _).set_ _ _).set_ _ _, HR.out.step hb1 HX.out (ha.mono (by simp only [From]; omega)) (by simp) (by simp) (by simp) (by simp), by repeat (first | with_reducible exact Below.refl _ _ | with_reducible refine Below.setCell ?_ (by first | omega | (simp <;> omega)) _ | with_reducible refine Below.drew ?_ | with_reducible refine below_drewN ?_ _ | with_reducible refine Below.alloc ?_ (by first | omega | (simp <;> omega)) _ | with_reducible refine Below.trans ?_ (Below.mono (by assumption) (by first | omega | (simp <;> omega))))⟩
      case measure => simp [intOf]; omega
    · go_wp2_with fail
      go_ret
      refine ⟨_, rfl, terms_mk (Nat.le_refl _) (by omega) fun _ => ⟨w.heap.size, 0, rfl, Nat.le_refl _, fun j t hj => ?_⟩, hb⟩
      obtain ⟨v, e0, e1, e2, e3, hat⟩ := HR.out.2 j t (by have := (List.getElem?_eq_some_iff.1 hj).1; omega) hj
      refine ⟨v, ?_, ?_, ?_, ?_, hat.mono (by simp only [From]; omega), terms_fits h hj⟩
      · rw [Nat.zero_add, HB.out.cell]; exact e0
      · rw [Nat.zero_add, HB.out.cell]; exact e1
      · rw [Nat.zero_add, HB.out.cell]; exact e2
      · rw [Nat.zero_add, HB.out.cell]; exact e3

set_option maxHeartbeats 400000 in
theorem toTerm_any (t : Tm) : ToT t := by
  induction t using Tm.induct with
  | h o n s args ih =>
    intro w S v h h1
    rw [Tm.total_eq] at h1
    have IH := Lib.hid ih
    clear ih
    obtain ⟨A, c, rfl, hn, hc⟩ := terms_slice h
    go_enter Try.func72, Try.ntmps72
    go_wp2_with fail
    refine (toTermS_of args IH.out _ S _ (((h.alloc _).alloc _).alloc _) (by omega)).mono ?_
    rintro e w1 ⟨v', rfl, ha, hb⟩
    obtain ⟨A', c', rfl, hn', hc'⟩ := terms_slice ha
    obtain ⟨hc1, hf1⟩ := bcell hb
    go_wp2_with fail
    refine bodyPost_ret (v := .agg #[.int .i64 o, .string n, .int .i64 s, .slice A' args.length c']) (by simp [results, Try.results72, go_sem, hc1]) rfl ⟨_, rfl, ?_, ?_⟩
    · refine At.mono (((((ha.setCell ?_ _).setCell ?_ _).setCell ?_ _).setCell ?_ _).setCell ?_ _) ?_ <;> simp [From] <;> omega
    · repeat (first | with_reducible exact Below.refl _ _ | with_reducible refine Below.setCell ?_ (by first | omega | (simp <;> omega)) _ | with_reducible refine Below.drew ?_ | with_reducible refine below_drewN ?_ _ | with_reducible refine Below.alloc ?_ (by first | omega | (simp <;> omega)) _ | with_reducible refine Below.trans ?_ (Below.mono (by assumption) (by first | omega | (simp <;> omega))))
theorem toTermS_any (ts : List Tm) (w : World) (S : Nat → Prop) (v : Value) (h : At w S (terms ts) v) (h1 : tmTotals ts ≤ 1048576) :
    Calls Try.prog 49 #[v] w fun e w' => ∃ v', e = .returned v' ∧ At w' (From w.heap.size) (terms ts) v' ∧ Below w.heap.size w w' :=
  toTermS_of ts (fun x _ => toTerm_any x) w S v h h1

def ToRowI (w : World) (B : Nat) (xss : List (List Int)) (k : Nat) (cs : Array Value) : Prop :=
  cs.size = xss.length ∧ ∀ (j : Nat) (xs : List Int), j < k → xss[j]? = some xs → ∃ v, cs[j]? = some v ∧ At w (From B) (ints xs) v
theorem ToRowI.step {w w1 : World} {B : Nat} {xss : List (List Int)} {k : Nat} {cs : Array Value} {xs : List Int} {u : Value} (h : ToRowI w B xss k cs) (hb : Below w.heap.size w w1) (ht : xss[k]? = some xs) (ha : At w1 (From B) (ints xs) u) {p0 : Addr} {u0 : Value}
    (q0 : p0.block < B) : ToRowI (w1.setCell p0 u0) B xss (k + 1) (cs.setIfInBounds k u) := by
  obtain ⟨h1, h2⟩ := h
  have hk : k < xss.length := (List.getElem?_eq_some_iff.1 ht).1
  refine ⟨by simpa using h1, fun j g hj hg => ?_⟩
  by_cases e : j = k
  · subst e
    rw [ht] at hg
    obtain rfl : xs = g := by injection hg
    exact ⟨u, by simp [h1, hk], ha.setCell (by simp [From]; omega) _⟩
  · obtain ⟨v, e0, hat⟩ := h2 j g (by omega) hg
    exact ⟨v, by rw [Array.getElem?_setIfInBounds_ne (by omega)]; exact e0, (hat.below hb).setCell (by simp [From]; omega) _⟩

set_option maxHeartbeats 1000000 in
theorem toIntSS_any (xss : List (List Int)) (w : World) (S : Nat → Prop) (v : Value) (h : At w S (rows xss) v) (h1 : rowTotals xss ≤ 1048576) :
    Calls Try.prog 50 #[v] w fun e w' => ∃ v', e = .returned v' ∧ At w' (From w.heap.size) (rows xss) v' ∧ Below w.heap.size w w' := by
  obtain ⟨A, c, rfl, hn, hc⟩ := rows_slice h
  unfold rowTotals at h1
  have hmk := run_make_row' (P := Try.prog) 43 22 _ 24 Try.underlying43 Try.infoInts rfl .i64 .i64 xss.length (by omega) (by omega)
  go_enter Try.func50, Try.ntmps50
  go_wp2_with fail
  go_loopw [4] (fun i wr => ∃ (k : Nat) (cs : Array Value), k ≤ xss.length ∧ i = .int .i64 k ∧ Blk wr w.heap.size 22 cs ∧ ToRowI wr (w.heap.size + 1) xss k cs ∧ Below w.heap.size w wr)
    (fun i _ => xss.length - (intOf i).toNat)
  case atStart => exact ⟨0, _, Nat.zero_le _, rfl, Blk.new _ _ _, ⟨made_size _ _, fun j _ hj => by omega⟩, (Below.refl _ _).alloc (Nat.le_refl _) _⟩
  case round =>
    obtain ⟨k, cs, hk, rfl, hblk, hrow, hb⟩ := hrel
    have HB := Lib.hid hblk
    have HR := Lib.hid hrow
    clear hblk hrow hmk
    by_cases hlt : k < xss.length
    · obtain ⟨b, off, xs, u, rfl, _, hlb, hc1, hu, HX⟩ := rows_get (h.below hb) hlt
      obtain ⟨Au, cu, rfl, hnu, hcu⟩ := ints_slice hu
      have hle := le_sum_of_mem (f := List.length) (List.mem_of_getElem? HX.out)
      have hbs := HB.out.lt
      go_wp2_with fail
      refine (toIntS_any xs _ S _ hu (by omega)).mono ?_
      rintro e w1 ⟨v', rfl, ha, hb1⟩
      obtain ⟨A', c', rfl, hn', hc'⟩ := ints_slice ha
      have HB1 := Lib.hid (HB.out.next hb1)
      have hsz := HR.out.1
      obtain ⟨d0, e0⟩ : ∃ d, w1.cell? ⟨w.heap.size, k, none⟩ = some d := ⟨_, (HB1.out.cell _).trans (Array.getElem?_eq_getElem (by omega))⟩
      have f0 := HB1.out.frozen k
      clear hsz
      go_wp2_with fail
      go_roundw
      case rel => exact ⟨k + 1, _, by omega, by go_num, HB1.out.set_ _ _, HR.out.step hb1 HX.out (ha.mono (by simp only [From]; omega)) (by simp), by repeat (first | with_reducible exact Below.refl _ _ | with_reducible refine Below.setCell ?_ (by first | omega | (simp <;> omega)) _ | with_reducible refine Below.drew ?_ | with_reducible refine below_drewN ?_ _ | with_reducible refine Below.alloc ?_ (by first | omega | (simp <;> omega)) _ | with_reducible refine Below.trans ?_ (Below.mono (by assumption) (by first | omega | (simp <;> omega))))⟩
      case measure => simp [intOf]; omega
    · go_wp2_with fail
      go_ret
      refine ⟨_, rfl, rows_mk (Nat.le_refl _) (by omega) fun _ => ⟨w.heap.size, 0, rfl, Nat.le_refl _, fun j xs hj => ?_⟩, hb⟩
      obtain ⟨v, e0, hat⟩ := HR.out.2 j xs (by have := (List.getElem?_eq_some_iff.1 hj).1; omega) hj
      exact ⟨v, by rw [Nat.zero_add, HB.out.cell]; exact e0, hat.mono (by simp only [From]; omega)⟩

end Go.Proofs.Ytagnfckihdlhpaa

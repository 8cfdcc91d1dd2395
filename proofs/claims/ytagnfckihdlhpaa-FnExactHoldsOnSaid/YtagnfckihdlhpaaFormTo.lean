/-
  What toFormula computes: a copy in new memory.
-/
import Derived.Test.YtagnfckihdlhpaaFormSz
namespace Go.Proofs.Ytagnfckihdlhpaa
open Go.RowKit

theorem Try.infoForm : (Try.prog.info? 38).map (fun i => (i.zero, i.size, i.bytes)) = some (some (.agg #[.int .i64 0, .int .i64 0, .slice none 0 0]), 3, 40) := by kernel_rfl

def ToF (f : Fm) : Prop := ∀ (w : World) (S : Nat → Prop) (v : Value), At w S (forms f.kids) v → f.total ≤ 1048576 →
    Calls Try.prog 17 #[.agg #[.int .i64 f.kind, .int .i64 f.prop, v]] w fun e w' => ∃ v', e = .returned (.agg #[.int .i64 f.kind, .int .i64 f.prop, v']) ∧ At w' (From w.heap.size) (forms f.kids) v' ∧ Below w.heap.size w w'

/-- What the row under copy holds when k elements are copied. -/
def ToRow (w : World) (B : Nat) (fs : List Fm) (k : Nat) (cs : Array Value) : Prop :=
  cs.size = fs.length * 3 ∧ ∀ (j : Nat) (f : Fm), j < k → fs[j]? = some f → ∃ v, cs[j * 3]? = some (.int .i64 f.kind) ∧ cs[j * 3 + 1]? = some (.int .i64 f.prop) ∧ cs[j * 3 + 2]? = some v ∧ At w (From B) (forms f.kids) v

theorem ToRow.step {w w1 : World} {B : Nat} {fs : List Fm} {k : Nat} {cs : Array Value} {f : Fm} {u : Value} (h : ToRow w B fs k cs) (hb : Below w.heap.size w w1) (hf : fs[k]? = some f) (ha : At w1 (From B) (forms f.kids) u) {p0 p1 p2 : Addr} {u0 u1 u2 : Value}
    (q0 : p0.block < B) (q1 : p1.block < B) (q2 : p2.block < B) :
    ToRow (((w1.setCell p0 u0).setCell p1 u1).setCell p2 u2) B fs (k + 1) (((cs.setIfInBounds (k * 3) (.int .i64 f.kind)).setIfInBounds (k * 3 + 1) (.int .i64 f.prop)).setIfInBounds (k * 3 + 2) u) := by
  obtain ⟨h1, h2⟩ := h
  have hk : k < fs.length := (List.getElem?_eq_some_iff.1 hf).1
  have keep : ∀ {d : D} {v : Value}, At w1 (From B) d v → At (((w1.setCell p0 u0).setCell p1 u1).setCell p2 u2) (From B) d v := fun h =>
    ((h.setCell (by simp [From]; omega) _).setCell (by simp [From]; omega) _).setCell (by simp [From]; omega) _
  refine ⟨by simpa using h1, fun j g hj hg => ?_⟩
  by_cases e : j = k
  · subst e
    rw [hf] at hg
    obtain rfl : f = g := by injection hg
    refine ⟨u, ?_, ?_, ?_, keep ha⟩ <;> simp [Array.getElem?_setIfInBounds, h1] <;> omega
  · obtain ⟨v, e0, e1, e2, hat⟩ := h2 j g (by omega) hg
    refine ⟨v, ?_, ?_, ?_, keep (hat.below hb)⟩
    · rw [Array.getElem?_setIfInBounds_ne (by omega), Array.getElem?_setIfInBounds_ne (by omega), Array.getElem?_setIfInBounds_ne (by omega)]; exact e0
    · rw [Array.getElem?_setIfInBounds_ne (by omega), Array.getElem?_setIfInBounds_ne (by omega), Array.getElem?_setIfInBounds_ne (by omega)]; exact e1
    · rw [Array.getElem?_setIfInBounds_ne (by omega), Array.getElem?_setIfInBounds_ne (by omega), Array.getElem?_setIfInBounds_ne (by omega)]; exact e2

theorem total_le_of_mem {fs : List Fm} {f : Fm} (h : f ∈ fs) : f.total ≤ (fs.map Fm.total).sum := by
  induction fs with
  | nil => cases h
  | cons a l ih =>
    rw [List.map_cons, List.sum_cons]
    rcases List.mem_cons.1 h with rfl | h
    · omega
    · have := ih h; omega

/-- The bounds of the numbers of formulas that lie in memory. -/
theorem forms_wf {w : World} {S : Nat → Prop} {fs : List Fm} {v : Value} (h : At w S (forms fs) v) {k : Nat} {f : Fm} (hk : fs[k]? = some f) : (Lit.int .i64 f.kind).wf = true ∧ (Lit.int .i64 f.prop).wf = true := by
  obtain ⟨A, c, rfl, _⟩ := forms_slice h
  obtain ⟨_, _, g, _, _, _, _, _, _, _, _, hg, b1, b2, b3, b4⟩ := forms_get h (List.getElem?_eq_some_iff.1 hk).1
  have hg' := hg.out
  rw [hk] at hg'
  obtain rfl : f = g := by injection hg'
  exact ⟨WalkArith.wf_i64 ⟨b1, b2⟩, WalkArith.wf_i64 ⟨b3, b4⟩⟩

set_option maxHeartbeats 1000000 in
theorem toFormulaS_of (fs : List Fm) (ih : ∀ x ∈ fs, ToF x) (w : World) (S : Nat → Prop) (v : Value) (h : At w S (forms fs) v) (h1 : totals fs ≤ 1048576) :
    Calls Try.prog 43 #[v] w fun e w' => ∃ v', e = .returned v' ∧ At w' (From w.heap.size) (forms fs) v' ∧ Below w.heap.size w w' := by
  obtain ⟨A, c, rfl, hn, hc⟩ := forms_slice h
  have IH := Lib.hid ih
  clear ih
  unfold totals at h1
  have hmk := make_rowN (P := Try.prog) 36 38 _ 3 40 Try.underlying36 Try.infoForm fs.length (by omega) (by omega)
  go_enter Try.func43, Try.ntmps43
  go_wp2_with fail
  go_loopw [4] (fun i wr => ∃ (k : Nat) (cs : Array Value), k ≤ fs.length ∧ i = .int .i64 k ∧ Blk wr w.heap.size 38 cs ∧ ToRow wr (w.heap.size + 1) fs k cs ∧ Below w.heap.size w wr)
    (fun i _ => fs.length - (intOf i).toNat)
  case atStart => exact ⟨0, _, Nat.zero_le _, rfl, Blk.new _ _ _, ⟨made_size _ _, fun j _ hj => by omega⟩, (Below.refl _ _).alloc (Nat.le_refl _) _⟩
  case round =>
    obtain ⟨k, cs, hk, rfl, hblk, hrow, hb⟩ := hrel
    have HB := Lib.hid hblk
    have HR := Lib.hid hrow
    clear hblk hrow hmk
    by_cases hlt : k < fs.length
    · obtain ⟨b, off, f, u, rfl, _, hlb, hc1, hc2, hc3, hu, HX, _⟩ := forms_get (h.below hb) hlt
      have hmem := List.mem_of_getElem? HX.out
      have hle := total_le_of_mem hmem
      have hbs := HB.out.lt
      go_wp2_with fail
      refine (IH.out f hmem _ S _ hu (by omega)).mono ?_
      rintro e w1 ⟨v', rfl, ha, hb1⟩
      obtain ⟨A', c', rfl, hn', hc'⟩ := forms_slice ha
      have HB1 := Lib.hid (HB.out.next hb1)
      have hsz := HR.out.1
      obtain ⟨d0, e0⟩ : ∃ d, w1.cell? ⟨w.heap.size, k * 3, none⟩ = some d := ⟨_, (HB1.out.cell _).trans (Array.getElem?_eq_getElem (by omega))⟩
      obtain ⟨d1, e1⟩ : ∃ d, w1.cell? ⟨w.heap.size, k * 3 + 1, none⟩ = some d := ⟨_, (HB1.out.cell _).trans (Array.getElem?_eq_getElem (by omega))⟩
      obtain ⟨d2, e2⟩ : ∃ d, w1.cell? ⟨w.heap.size, k * 3 + 2, none⟩ = some d := ⟨_, (HB1.out.cell _).trans (Array.getElem?_eq_getElem (by omega))⟩
      have f0 := HB1.out.frozen (k * 3)
      have f1 := HB1.out.frozen (k * 3 + 1)
      have f2 := HB1.out.frozen (k * 3 + 2)
      clear hsz
      go_wp2_with fail
      go_roundw
      case rel => exact ⟨k + 1, _, by omega, by go_num, ((HB1.out.set_ _ _).set_ _ _).set_ _ _, HR.out.step hb1 HX.out (ha.mono (by simp only [From]; omega)) (by simp) (by simp) (by simp), by repeat (first | with_reducible exact Below.refl _ _ | with_reducible refine Below.setCell ?_ (by first | omega | (simp <;> omega)) _ | with_reducible refine Below.drew ?_ | with_reducible refine below_drewN ?_ _ | with_reducible refine Below.alloc ?_ (by first | omega | (simp <;> omega)) _ | with_reducible refine Below.trans ?_ (Below.mono (by assumption) (by first | omega | (simp <;> omega))))⟩
      case measure => simp [intOf]; omega
    · go_wp2_with fail
      go_ret
      refine ⟨_, rfl, forms_mk (Nat.le_refl _) (by omega) fun _ => ⟨w.heap.size, 0, rfl, Nat.le_refl _, fun j f hj => ?_⟩, hb⟩
      obtain ⟨v, e0, e1, e2, hat⟩ := HR.out.2 j f (by have := (List.getElem?_eq_some_iff.1 hj).1; omega) hj
      obtain ⟨w0, w1⟩ := forms_wf h hj
      refine ⟨v, ?_, ?_, ?_, hat.mono (by simp only [From]; omega), w0, w1⟩
      · rw [Nat.zero_add, HB.out.cell]; exact e0
      · rw [Nat.zero_add, HB.out.cell]; exact e1
      · rw [Nat.zero_add, HB.out.cell]; exact e2

set_option maxHeartbeats 400000 in
theorem toFormula_any (f : Fm) : ToF f := by
  induction f using Fm.induct with
  | h k q kids ih =>
    intro w S v h h1
    rw [Fm.total_eq] at h1
    have IH := Lib.hid ih
    clear ih
    obtain ⟨A, c, rfl, hn, hc⟩ := forms_slice h
    go_enter Try.func17, Try.ntmps17
    go_wp2_with fail
    refine (toFormulaS_of kids IH.out _ S _ (((h.alloc _).alloc _).alloc _) h1).mono ?_
    rintro e w1 ⟨v', rfl, ha, hb⟩
    obtain ⟨A', c', rfl, hn', hc'⟩ := forms_slice ha
    obtain ⟨hc1, hf1⟩ := bcell hb
    go_wp2_with fail
    refine bodyPost_ret (v := .agg #[.int .i64 k, .int .i64 q, .slice A' kids.length c']) (by simp [results, Try.results17, go_sem, hc1]) rfl ⟨_, rfl, ?_, ?_⟩
    · refine At.mono ((((ha.setCell ?_ _).setCell ?_ _).setCell ?_ _).setCell ?_ _) ?_ <;> simp [From] <;> omega
    · repeat (first | with_reducible exact Below.refl _ _ | with_reducible refine Below.setCell ?_ (by first | omega | (simp <;> omega)) _ | with_reducible refine Below.drew ?_ | with_reducible refine below_drewN ?_ _ | with_reducible refine Below.alloc ?_ (by first | omega | (simp <;> omega)) _ | with_reducible refine Below.trans ?_ (Below.mono (by assumption) (by first | omega | (simp <;> omega))))
theorem toFormulaS_any (fs : List Fm) (w : World) (S : Nat → Prop) (v : Value) (h : At w S (forms fs) v) (h1 : totals fs ≤ 1048576) :
    Calls Try.prog 43 #[v] w fun e w' => ∃ v', e = .returned v' ∧ At w' (From w.heap.size) (forms fs) v' ∧ Below w.heap.size w w' :=
  toFormulaS_of fs (fun x _ => toFormula_any x) w S v h h1

end Go.Proofs.Ytagnfckihdlhpaa

/-
  Terms: trees of a number, a text, a number and the terms below; how they lie in memory. Slices of slices of numbers.
-/
import Derived.Test.YtagnfckihdlhpaaData
namespace Go.Proofs.Ytagnfckihdlhpaa
open Go.RowKit

structure Tm where
  op : Int
  name : ByteArray
  sort : Int
  args : List Tm

theorem Tm.induct {p : Tm → Prop} (h : ∀ o n s args, (∀ x ∈ args, p x) → p ⟨o, n, s, args⟩) (t : Tm) : p t := by
  match t with
  | ⟨o, n, s, args⟩ => exact h o n s args fun x hx => Tm.induct h x
termination_by t
decreasing_by
  have := List.sizeOf_lt_of_mem hx
  simp only [Tm.mk.sizeOf_spec]
  omega

/-- The datum of a term's slice of terms. -/
def Tm.d (t : Tm) : D :=
  match t with
  | ⟨_, _, _, args⟩ => .row args.length (args.attach.flatMap fun ⟨x, _⟩ => [.lit (.int .i64 x.op), .lit (.string x.name), .lit (.int .i64 x.sort), Tm.d x])
termination_by t
decreasing_by
  rename_i hx
  have := List.sizeOf_lt_of_mem hx
  simp only [Tm.mk.sizeOf_spec]
  omega

/-- The four cells of a term. -/
def Tm.cells (t : Tm) : List D := [.lit (.int .i64 t.op), .lit (.string t.name), .lit (.int .i64 t.sort), t.d]
/-- The datum of a slice of terms. -/
def terms (ts : List Tm) : D := .row ts.length (ts.flatMap Tm.cells)

theorem Tm.d_eq (t : Tm) : t.d = terms t.args := by
  obtain ⟨o, n, s, args⟩ := t
  rw [Tm.d]
  show D.row _ _ = D.row _ _
  congr 1
  have : (fun (x : { x // x ∈ args }) => match x with | ⟨x, _⟩ => [D.lit (.int .i64 x.op), .lit (.string x.name), .lit (.int .i64 x.sort), Tm.d x]) = fun x : { x // x ∈ args } => Tm.cells x.1 := by
    funext x; rfl
  rw [this]
  conv => rhs; rw [← List.attach_map_subtype_val args, List.flatMap_map]
theorem Tm.cells_len (t : Tm) : t.cells.length = 4 := rfl

theorem terms_slice {w : World} {S : Nat → Prop} {ts : List Tm} {v : Value} (h : At w S (terms ts) v) : ∃ A c, v = .slice A ts.length c ∧ ts.length ≤ c ∧ c ≤ 9223372036854775807 := h.slice

/-- What is asked of a term's own values. -/
def Tm.fits (t : Tm) : Prop := -9223372036854775808 ≤ t.op ∧ t.op ≤ 9223372036854775807 ∧ t.name.size ≤ 9223372036854775807 ∧ -9223372036854775808 ≤ t.sort ∧ t.sort ≤ 9223372036854775807

/-- One element of a slice of terms. -/
theorem terms_get {w : World} {S : Nat → Prop} {ts : List Tm} {A : Option Addr} {n c k : Nat} (h : At w S (terms ts) (.slice A n c)) (hk : k < ts.length) :
    ∃ b off t v, A = some ⟨b, off, none⟩ ∧ S b ∧ b < w.heap.size ∧ w.cell? ⟨b, off + k * 4, none⟩ = some (.int .i64 t.op) ∧ w.cell? ⟨b, off + k * 4 + 1, none⟩ = some (.string t.name) ∧
      w.cell? ⟨b, off + k * 4 + 2, none⟩ = some (.int .i64 t.sort) ∧ w.cell? ⟨b, off + k * 4 + 3, none⟩ = some v ∧ At w S (terms t.args) v ∧ Hid (ts[k]? = some t) ∧ t.fits := by
  have hn : n = ts.length := by obtain ⟨_, _, e, _⟩ := terms_slice h; injection e
  subst hn
  obtain ⟨b, off, e, hs, hlt, hc⟩ := At.cellAt h (by rw [flat_len _ 4 Tm.cells_len]; omega)
  have hf : ts[k]? = some ts[k] := List.getElem?_eq_getElem hk
  have hat : ∀ j, j < 4 → (ts.flatMap Tm.cells)[k * 4 + j]? = (Tm.cells ts[k])[j]? := fun j hj => by
    rw [flat_at _ 4 Tm.cells_len _ _ _ hj, hf]; rfl
  obtain ⟨u0, hu0, ha0⟩ := hc (k * 4 + 0) _ (hat 0 (by omega))
  obtain ⟨u1, hu1, ha1⟩ := hc (k * 4 + 1) _ (hat 1 (by omega))
  obtain ⟨u2, hu2, ha2⟩ := hc (k * 4 + 2) _ (hat 2 (by omega))
  obtain ⟨u3, hu3, ha3⟩ := hc (k * 4 + 3) _ (hat 3 (by omega))
  obtain ⟨rfl, w0⟩ := at_lit.1 ha0
  obtain ⟨rfl, w1⟩ := at_lit.1 ha1
  obtain ⟨rfl, w2⟩ := at_lit.1 ha2
  rw [Tm.d_eq] at ha3
  have w1' : ts[k].name.size ≤ 9223372036854775807 := by simp only [okLit, maxLen] at w1; omega
  exact ⟨b, off, ts[k], u3, e, hs, hlt, hu0, hu1, hu2, hu3, ha3, hf, (wf_bounds w0).1, (wf_bounds w0).2, w1', (wf_bounds w2).1, (wf_bounds w2).2⟩

/-- A slice of terms from its cells. -/
theorem terms_mk {w : World} {S : Nat → Prop} {ts : List Tm} {A : Option Addr} {c : Nat} (hn : ts.length ≤ c) (hc : c ≤ 9223372036854775807)
    (h : 0 < ts.length → ∃ b off, A = some ⟨b, off, none⟩ ∧ S b ∧ ∀ k t, ts[k]? = some t → ∃ v, w.cell? ⟨b, off + k * 4, none⟩ = some (.int .i64 t.op) ∧ w.cell? ⟨b, off + k * 4 + 1, none⟩ = some (.string t.name) ∧
      w.cell? ⟨b, off + k * 4 + 2, none⟩ = some (.int .i64 t.sort) ∧ w.cell? ⟨b, off + k * 4 + 3, none⟩ = some v ∧ At w S (terms t.args) v ∧ t.fits) :
    At w S (terms ts) (.slice A ts.length c) := by
  refine at_row.2 ⟨A, c, rfl, hn, hc, fun hp => ?_⟩
  rw [flat_len _ 4 Tm.cells_len] at hp
  obtain ⟨b, off, e, hs, hk⟩ := h (by omega)
  refine ⟨b, off, e, hs, fun j hj => ?_⟩
  have hj' : j < ts.length * 4 := by rw [flat_len _ 4 Tm.cells_len] at hj; exact hj
  have hq : j / 4 < ts.length := by omega
  obtain ⟨v, c0, c1, c2, c3, ha, w0, w1, w2, w3, w4⟩ := hk (j / 4) ts[j / 4] (List.getElem?_eq_getElem hq)
  have hat : (ts.flatMap Tm.cells)[j]? = (Tm.cells ts[j / 4])[j % 4]? := by
    have := flat_at Tm.cells 4 Tm.cells_len ts (j / 4) (j % 4) (by omega)
    rw [show j / 4 * 4 + j % 4 = j by omega, List.getElem?_eq_getElem hq] at this
    exact this
  rw [List.getElem?_eq_getElem hj] at hat
  have h4 : j % 4 = 0 ∨ j % 4 = 1 ∨ j % 4 = 2 ∨ j % 4 = 3 := by omega
  rcases h4 with h4 | h4 | h4 | h4
  · rw [h4] at hat
    simp only [Tm.cells, List.getElem?_cons_zero, Option.some.injEq] at hat
    rw [hat]
    exact ⟨_, by rw [show off + j = off + j / 4 * 4 by omega]; exact c0, at_lit.2 ⟨rfl, WalkArith.wf_i64 ⟨w0, w1⟩⟩⟩
  · rw [h4] at hat
    simp only [Tm.cells, List.getElem?_cons_zero, List.getElem?_cons_succ, Option.some.injEq] at hat
    rw [hat]
    exact ⟨_, by rw [show off + j = off + j / 4 * 4 + 1 by omega]; exact c1, at_lit.2 ⟨rfl, by simp only [okLit, maxLen]; omega⟩⟩
  · rw [h4] at hat
    simp only [Tm.cells, List.getElem?_cons_zero, List.getElem?_cons_succ, Option.some.injEq] at hat
    rw [hat]
    exact ⟨_, by rw [show off + j = off + j / 4 * 4 + 2 by omega]; exact c2, at_lit.2 ⟨rfl, WalkArith.wf_i64 ⟨w3, w4⟩⟩⟩
  · rw [h4] at hat
    simp only [Tm.cells, List.getElem?_cons_zero, List.getElem?_cons_succ, Option.some.injEq] at hat
    rw [hat, Tm.d_eq]
    exact ⟨_, by rw [show off + j = off + j / 4 * 4 + 3 by omega]; exact c3, ha⟩

/-- How much a term weighs: its text, and what lies below. -/
def Tm.total (t : Tm) : Nat :=
  match t with
  | ⟨_, n, _, args⟩ => n.size + (args.length + (args.attach.map fun ⟨x, _⟩ => Tm.total x).sum)
termination_by t
decreasing_by
  rename_i hx
  have := List.sizeOf_lt_of_mem hx
  simp only [Tm.mk.sizeOf_spec]
  omega
def tmTotals (ts : List Tm) : Nat := ts.length + (ts.map Tm.total).sum
theorem Tm.total_eq (t : Tm) : t.total = t.name.size + tmTotals t.args := by
  obtain ⟨o, n, s, args⟩ := t
  rw [Tm.total]
  show _ = n.size + (args.length + (args.map Tm.total).sum)
  congr 2
  have : (fun (x : { x // x ∈ args }) => match x with | ⟨x, _⟩ => Tm.total x) = fun x : { x // x ∈ args } => Tm.total x.1 := by
    funext x; rfl
  rw [this]
  conv => rhs; rw [← List.attach_map_subtype_val args, List.map_map]
  rfl

/-- A sum over the first k of a list. -/
def sumOf {α : Type} (f : α → Nat) (l : List α) (k : Nat) : Nat := ((l.take k).map f).sum
theorem sumOf_succ {α : Type} {f : α → Nat} {l : List α} {k : Nat} {x : α} (h : l[k]? = some x) : sumOf f l (k + 1) = sumOf f l k + f x := by
  obtain ⟨h1, rfl⟩ := List.getElem?_eq_some_iff.1 h
  unfold sumOf
  rw [List.take_succ_eq_append_getElem h1]
  simp only [List.map_append, List.map_cons, List.map_nil, List.sum_append, List.sum_cons, List.sum_nil, Nat.add_zero]
theorem sumOf_le {α : Type} (f : α → Nat) (l : List α) (k : Nat) : sumOf f l k ≤ (l.map f).sum := by
  unfold sumOf
  conv => rhs; rw [← List.take_append_drop k l]
  rw [List.map_append, List.sum_append]
  omega
theorem sumOf_all {α : Type} (f : α → Nat) (l : List α) : sumOf f l l.length = (l.map f).sum := by unfold sumOf; rw [List.take_length]
theorem sumOf_zero {α : Type} (f : α → Nat) (l : List α) : sumOf f l 0 = 0 := by simp [sumOf]
theorem le_sum_of_mem {α : Type} {f : α → Nat} {l : List α} {x : α} (h : x ∈ l) : f x ≤ (l.map f).sum := by
  induction l with
  | nil => cases h
  | cons a l ih =>
    rw [List.map_cons, List.sum_cons]
    rcases List.mem_cons.1 h with rfl | h
    · omega
    · have := ih h; omega

/-- The datum of a [][]int. -/
def rows (xss : List (List Int)) : D := .row xss.length (xss.map ints)
theorem rows_slice {w : World} {S : Nat → Prop} {xss : List (List Int)} {v : Value} (h : At w S (rows xss) v) : ∃ A c, v = .slice A xss.length c ∧ xss.length ≤ c ∧ c ≤ 9223372036854775807 := h.slice
theorem rows_get {w : World} {S : Nat → Prop} {xss : List (List Int)} {A : Option Addr} {n c k : Nat} (h : At w S (rows xss) (.slice A n c)) (hk : k < xss.length) :
    ∃ b off xs v, A = some ⟨b, off, none⟩ ∧ S b ∧ b < w.heap.size ∧ w.cell? ⟨b, off + k, none⟩ = some v ∧ At w S (ints xs) v ∧ Hid (xss[k]? = some xs) := by
  have hn : n = xss.length := by obtain ⟨_, _, e, _⟩ := rows_slice h; injection e
  subst hn
  obtain ⟨b, off, e, hs, hlt, hc⟩ := At.cellAt h (by simp; omega)
  obtain ⟨u, hu, ha⟩ := hc k (ints xss[k]) (by simp [hk])
  exact ⟨b, off, xss[k], u, e, hs, hlt, hu, ha, List.getElem?_eq_getElem hk⟩
theorem rows_mk {w : World} {S : Nat → Prop} {xss : List (List Int)} {A : Option Addr} {c : Nat} (hn : xss.length ≤ c) (hc : c ≤ 9223372036854775807)
    (h : 0 < xss.length → ∃ b off, A = some ⟨b, off, none⟩ ∧ S b ∧ ∀ k xs, xss[k]? = some xs → ∃ v, w.cell? ⟨b, off + k, none⟩ = some v ∧ At w S (ints xs) v) :
    At w S (rows xss) (.slice A xss.length c) := by
  refine at_row.2 ⟨A, c, rfl, hn, hc, fun hp => ?_⟩
  obtain ⟨b, off, e, hs, hk⟩ := h (by simpa using hp)
  refine ⟨b, off, e, hs, fun k hlt => ?_⟩
  have hlt' : k < xss.length := by simpa using hlt
  obtain ⟨v, h1, h2⟩ := hk k xss[k] (List.getElem?_eq_getElem hlt')
  exact ⟨v, h1, by simpa using h2⟩
def rowTotals (xss : List (List Int)) : Nat := xss.length + (xss.map List.length).sum

end Go.Proofs.Ytagnfckihdlhpaa

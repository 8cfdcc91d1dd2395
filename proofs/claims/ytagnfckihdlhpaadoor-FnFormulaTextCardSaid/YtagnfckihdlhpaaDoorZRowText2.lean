/-
  Texts that the claim rests on, merged: FormData, FormOk.
-/
import Derived.Test.YtagnfckihdlhpaaDoorZRowText1

/-
  Formulas: trees of a kind, a number and the formulas below; how they lie in memory.
-/
namespace Go.Proofs.YtagnfckihdlhpaaDoor
open Go.RowKit

structure Fm where
  kind : Int
  prop : Int
  kids : List Fm

theorem Fm.induct {p : Fm → Prop} (h : ∀ k q kids, (∀ x ∈ kids, p x) → p ⟨k, q, kids⟩) (f : Fm) : p f := by
  match f with
  | ⟨k, q, kids⟩ => exact h k q kids fun x hx => Fm.induct h x
termination_by f
decreasing_by
  have := List.sizeOf_lt_of_mem hx
  simp only [Fm.mk.sizeOf_spec]
  omega

/-- The datum of a formula's slice of formulas. -/
def Fm.d (f : Fm) : D :=
  match f with
  | ⟨_, _, kids⟩ => .row kids.length (kids.attach.flatMap fun ⟨x, _⟩ => [.lit (.int .i64 x.kind), .lit (.int .i64 x.prop), Fm.d x])
termination_by f
decreasing_by
  rename_i hx
  have := List.sizeOf_lt_of_mem hx
  simp only [Fm.mk.sizeOf_spec]
  omega

/-- The three cells of a formula. -/
def Fm.cells (f : Fm) : List D := [.lit (.int .i64 f.kind), .lit (.int .i64 f.prop), f.d]
/-- The datum of a slice of formulas. -/
def forms (fs : List Fm) : D := .row fs.length (fs.flatMap Fm.cells)

theorem Fm.d_eq (f : Fm) : f.d = forms f.kids := by
  obtain ⟨k, q, kids⟩ := f
  rw [Fm.d]
  show D.row _ _ = D.row _ _
  congr 1
  have : (fun (x : { x // x ∈ kids }) => match x with | ⟨x, _⟩ => [D.lit (.int .i64 x.kind), .lit (.int .i64 x.prop), Fm.d x]) = fun x : { x // x ∈ kids } => Fm.cells x.1 := by
    funext x; rfl
  rw [this]
  conv => rhs; rw [← List.attach_map_subtype_val kids, List.flatMap_map]
theorem Fm.cells_len (f : Fm) : f.cells.length = 3 := rfl

theorem forms_slice {w : World} {S : Nat → Prop} {fs : List Fm} {v : Value} (h : At w S (forms fs) v) : ∃ A c, v = .slice A fs.length c ∧ fs.length ≤ c ∧ c ≤ 9223372036854775807 := h.slice

/-- One element of a slice of formulas. -/
theorem forms_get {w : World} {S : Nat → Prop} {fs : List Fm} {A : Option Addr} {n c k : Nat} (h : At w S (forms fs) (.slice A n c)) (hk : k < fs.length) :
    ∃ b off f v, A = some ⟨b, off, none⟩ ∧ S b ∧ b < w.heap.size ∧ w.cell? ⟨b, off + k * 3, none⟩ = some (.int .i64 f.kind) ∧ w.cell? ⟨b, off + k * 3 + 1, none⟩ = some (.int .i64 f.prop) ∧
      w.cell? ⟨b, off + k * 3 + 2, none⟩ = some v ∧ At w S (forms f.kids) v ∧ Hid (fs[k]? = some f) ∧ -9223372036854775808 ≤ f.kind ∧ f.kind ≤ 9223372036854775807 ∧ -9223372036854775808 ≤ f.prop ∧ f.prop ≤ 9223372036854775807 := by
  have hn : n = fs.length := by obtain ⟨_, _, e, _⟩ := forms_slice h; injection e
  subst hn
  obtain ⟨b, off, e, hs, hlt, hc⟩ := At.cellAt h (by rw [flat_len _ 3 Fm.cells_len]; omega)
  have hf : fs[k]? = some fs[k] := List.getElem?_eq_getElem hk
  have hat : ∀ j, j < 3 → (fs.flatMap Fm.cells)[k * 3 + j]? = (Fm.cells fs[k])[j]? := fun j hj => by
    rw [flat_at _ 3 Fm.cells_len _ _ _ hj, hf]; rfl
  obtain ⟨u0, hu0, ha0⟩ := hc (k * 3 + 0) _ (hat 0 (by omega))
  obtain ⟨u1, hu1, ha1⟩ := hc (k * 3 + 1) _ (hat 1 (by omega))
  obtain ⟨u2, hu2, ha2⟩ := hc (k * 3 + 2) _ (hat 2 (by omega))
  obtain ⟨rfl, w0⟩ := at_lit.1 ha0
  obtain ⟨rfl, w1⟩ := at_lit.1 ha1
  rw [Fm.d_eq] at ha2
  exact ⟨b, off, fs[k], u2, e, hs, hlt, hu0, hu1, hu2, ha2, hf, (wf_bounds w0).1, (wf_bounds w0).2, (wf_bounds w1).1, (wf_bounds w1).2⟩

/-- A slice of formulas from its cells. -/
theorem forms_mk {w : World} {S : Nat → Prop} {fs : List Fm} {A : Option Addr} {c : Nat} (hn : fs.length ≤ c) (hc : c ≤ 9223372036854775807)
    (h : 0 < fs.length → ∃ b off, A = some ⟨b, off, none⟩ ∧ S b ∧ ∀ k f, fs[k]? = some f → ∃ v, w.cell? ⟨b, off + k * 3, none⟩ = some (.int .i64 f.kind) ∧ w.cell? ⟨b, off + k * 3 + 1, none⟩ = some (.int .i64 f.prop) ∧
      w.cell? ⟨b, off + k * 3 + 2, none⟩ = some v ∧ At w S (forms f.kids) v ∧ (Lit.int .i64 f.kind).wf = true ∧ (Lit.int .i64 f.prop).wf = true) :
    At w S (forms fs) (.slice A fs.length c) := by
  refine at_row.2 ⟨A, c, rfl, hn, hc, fun hp => ?_⟩
  rw [flat_len _ 3 Fm.cells_len] at hp
  obtain ⟨b, off, e, hs, hk⟩ := h (by omega)
  refine ⟨b, off, e, hs, fun j hj => ?_⟩
  have hj' : j < fs.length * 3 := by rw [flat_len _ 3 Fm.cells_len] at hj; exact hj
  have hq : j / 3 < fs.length := by omega
  obtain ⟨v, c0, c1, c2, ha, w0, w1⟩ := hk (j / 3) fs[j / 3] (List.getElem?_eq_getElem hq)
  have hat : (fs.flatMap Fm.cells)[j]? = (Fm.cells fs[j / 3])[j % 3]? := by
    have := flat_at Fm.cells 3 Fm.cells_len fs (j / 3) (j % 3) (by omega)
    rw [show j / 3 * 3 + j % 3 = j by omega, List.getElem?_eq_getElem hq] at this
    exact this
  rw [List.getElem?_eq_getElem hj] at hat
  have h3 : j % 3 = 0 ∨ j % 3 = 1 ∨ j % 3 = 2 := by omega
  rcases h3 with h3 | h3 | h3
  · rw [h3] at hat
    simp only [Fm.cells, List.getElem?_cons_zero, Option.some.injEq] at hat
    rw [hat]
    exact ⟨_, by rw [show off + j = off + j / 3 * 3 by omega]; exact c0, at_lit.2 ⟨rfl, w0⟩⟩
  · rw [h3] at hat
    simp only [Fm.cells, List.getElem?_cons_zero, List.getElem?_cons_succ, Option.some.injEq] at hat
    rw [hat]
    exact ⟨_, by rw [show off + j = off + j / 3 * 3 + 1 by omega]; exact c1, at_lit.2 ⟨rfl, w1⟩⟩
  · rw [h3] at hat
    simp only [Fm.cells, List.getElem?_cons_zero, List.getElem?_cons_succ, Option.some.injEq] at hat
    rw [hat, Fm.d_eq]
    exact ⟨_, by rw [show off + j = off + j / 3 * 3 + 2 by omega]; exact c2, ha⟩

/-- How many formulas lie below. -/
def Fm.total (f : Fm) : Nat :=
  match f with
  | ⟨_, _, kids⟩ => kids.length + (kids.attach.map fun ⟨x, _⟩ => Fm.total x).sum
termination_by f
decreasing_by
  rename_i hx
  have := List.sizeOf_lt_of_mem hx
  simp only [Fm.mk.sizeOf_spec]
  omega
def totals (fs : List Fm) : Nat := fs.length + (fs.map Fm.total).sum
theorem Fm.total_eq (f : Fm) : f.total = totals f.kids := by
  obtain ⟨k, q, kids⟩ := f
  rw [Fm.total]
  show _ = kids.length + (kids.map Fm.total).sum
  congr 1
  have : (fun (x : { x // x ∈ kids }) => match x with | ⟨x, _⟩ => Fm.total x) = fun x : { x // x ∈ kids } => Fm.total x.1 := by
    funext x; rfl
  rw [this]
  conv => rhs; rw [← List.attach_map_subtype_val kids, List.map_map]
  rfl

/-- The sum over the first k. -/
def sumTo (fs : List Fm) (k : Nat) : Nat := ((fs.take k).map Fm.total).sum
theorem sumTo_succ {fs : List Fm} {k : Nat} {f : Fm} (h : fs[k]? = some f) : sumTo fs (k + 1) = sumTo fs k + f.total := by
  obtain ⟨h1, rfl⟩ := List.getElem?_eq_some_iff.1 h
  unfold sumTo
  rw [List.take_succ_eq_append_getElem h1]
  simp only [List.map_append, List.map_cons, List.map_nil, List.sum_append, List.sum_cons, List.sum_nil, Nat.add_zero]
theorem sumTo_le (fs : List Fm) (k : Nat) : sumTo fs k ≤ (fs.map Fm.total).sum := by
  unfold sumTo
  conv => rhs; rw [← List.take_append_drop k fs]
  rw [List.map_append, List.sum_append]
  omega
theorem sumTo_all (fs : List Fm) : sumTo fs fs.length = (fs.map Fm.total).sum := by unfold sumTo; rw [List.take_length]

end Go.Proofs.YtagnfckihdlhpaaDoor

/-
  What a valid formula is.
-/
namespace Go.Proofs.YtagnfckihdlhpaaDoor

/-- How many formulas a kind takes; below 0: no kind. -/
def arity (k : Int) : Int := if k = 1 ∨ k = 2 then 0 else if k = 3 ∨ k = 6 then 1 else if k = 4 ∨ k = 5 ∨ k = 7 then 2 else -1
/-- What is asked of a node. -/
def okHead (k q : Int) (n : Nat) : Prop := arity k = n ∧ 0 ≤ q ∧ q ≤ 7 ∧ (k = 2 ∨ q = 0)
instance (k q : Int) (n : Nat) : Decidable (okHead k q n) := by unfold okHead; infer_instance

def Fm.ok (f : Fm) : Bool :=
  match f with
  | ⟨k, q, kids⟩ => decide (okHead k q kids.length) && (kids.attach.all fun ⟨x, _⟩ => Fm.ok x)
termination_by f
decreasing_by
  rename_i hx
  have := List.sizeOf_lt_of_mem hx
  simp only [Fm.mk.sizeOf_spec]
  omega
theorem Fm.ok_eq (k q : Int) (kids : List Fm) : Fm.ok ⟨k, q, kids⟩ = (decide (okHead k q kids.length) && kids.all Fm.ok) := by
  rw [Fm.ok]
  congr 1
  conv => rhs; rw [← List.attach_map_subtype_val kids, List.all_map]
  rfl

def Fm.size (f : Fm) : Nat := f.total + 1
def isFormula (f : Fm) : Bool := decide (f.size ≤ 12) && f.ok

theorem Fm.size_eq (f : Fm) : f.size = 1 + (f.kids.map Fm.size).sum := by
  unfold Fm.size
  rw [Fm.total_eq]
  unfold totals
  have : ∀ l : List Fm, (l.map fun f => f.total + 1).sum = l.length + (l.map Fm.total).sum := fun l => by
    induction l with
    | nil => rfl
    | cons x l ih => simp only [List.map_cons, List.sum_cons, List.length_cons, ih]; omega
  rw [this]
  omega
end Go.Proofs.YtagnfckihdlhpaaDoor

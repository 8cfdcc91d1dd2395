/-
  A formula that is read lies in memory as 'forms' says.
-/
import Derived.Test.YtagnfckihdlhpaaRead
import Derived.Test.YtagnfckihdlhpaaFormData
namespace Go.Proofs.Ytagnfckihdlhpaa
open Go.ChangeShapes Go.WideShapes Go.ChangeAt Go.RowKit Go.Deep Go.Joins

instance : Inhabited Fm := ⟨⟨0, 0, []⟩⟩

theorem three {α : Type} {l : List α} (h : l.length = 3) : ∃ a b c, l = [a, b, c] := by
  match l, h with
  | [a, b, c], _ => exact ⟨a, b, c, rfl⟩

theorem read_forms_of {H : Type} {enc : TypeId × Value → H} {w : World} {base : Nat} {spare : Nat → Bool} {held : Bool} {fuel : Nat} {v : Value} {x : DataW H × List MemPlace}
    (ih : ∀ n, n < fuel → ∀ cs y, DataW.trod enc Try.prog w base spare held n 33 cs = some y → ∃ (f : Fm) (u : Value), cs = [.int .i64 f.kind, .int .i64 f.prop, u] ∧ At w Any (forms f.kids) u ∧ (Lit.int .i64 f.kind).wf = true ∧ (Lit.int .i64 f.prop).wf = true)
    (h : DataW.trod enc Try.prog w base spare held fuel 31 [v] = some x) : ∃ fs, At w Any (forms fs) v := by
  obtain ⟨A, len, cap, rfl, h1, h2, h3⟩ := read_slice (size := 3) Try.underlying31 (by kernel_rfl) (by omega) h
  rcases Nat.eq_zero_or_pos len with rfl | hp
  · exact ⟨[], forms_mk (by simp) h2 (fun h => absurd h (by simp))⟩
  · obtain ⟨b, off, n, hfu, rfl, h4⟩ := h3 hp
    obtain ⟨F, hF⟩ := choose_lt (α := Fm) (n := len) (p := fun i f => ∃ u, w.cell? ⟨b, off + i * 3, none⟩ = some (.int .i64 f.kind) ∧ w.cell? ⟨b, off + i * 3 + 1, none⟩ = some (.int .i64 f.prop) ∧
        w.cell? ⟨b, off + i * 3 + 2, none⟩ = some u ∧ At w Any (forms f.kids) u ∧ (Lit.int .i64 f.kind).wf = true ∧ (Lit.int .i64 f.prop).wf = true) (fun i hi => by
      obtain ⟨cs, y, _, hc, ht⟩ := h4 i hi
      obtain ⟨f, u, rfl, ha, w0, w1⟩ := ih n (by omega) cs y ht
      exact ⟨f, u, hc 0 (by omega), hc 1 (by omega), hc 2 (by omega), ha, w0, w1⟩)
    have hlen : ((List.range len).map F).length = len := by simp
    have hm := forms_mk (w := w) (S := Any) (fs := (List.range len).map F) (A := some ⟨b, off, none⟩) (c := cap) (by rw [hlen]; exact h1) h2 (fun _ => ⟨b, off, rfl, trivial, fun k f hk => by
      have hk' : k < len := by have := (List.getElem?_eq_some_iff.1 hk).1; simpa using this
      have : f = F k := by simpa [hk'] using hk.symm
      subst this
      exact hF k hk'⟩)
    rw [hlen] at hm
    exact ⟨_, hm⟩

theorem read_form {H : Type} {enc : TypeId × Value → H} {w : World} {base : Nat} {spare : Nat → Bool} {held : Bool} (fuel : Nat) :
    ∀ cs y, DataW.trod enc Try.prog w base spare held fuel 33 cs = some y → ∃ (f : Fm) (u : Value), cs = [.int .i64 f.kind, .int .i64 f.prop, u] ∧ At w Any (forms f.kids) u ∧ (Lit.int .i64 f.kind).wf = true ∧ (Lit.int .i64 f.prop).wf = true := by
  induction fuel using Nat.strongRecOn with
  | ind fuel ih =>
    intro cs y h
    obtain ⟨xs, n, hn, _, hcl, hxl, hf⟩ := DataW.trod_struct Try.underlying33 h
    have hc3 : Try.prog.cellsOf 33 = 3 := by kernel_rfl
    rw [hc3] at hcl
    obtain ⟨c0, c1, c2, rfl⟩ := three hcl
    obtain ⟨x0, x1, x2, rfl⟩ := three hxl
    have e1 : Try.prog.cellsOf 3 = 1 := by kernel_rfl
    have e2 : Try.prog.cellsOf 31 = 1 := by kernel_rfl
    have f0 := hf 0 _ rfl
    have f1 := hf 1 _ rfl
    have f2 := hf 2 _ rfl
    simp [e1] at f0 f1
    simp [e2] at f2
    obtain ⟨k, r0, _, w0⟩ := DataW.trod_int Try.underlying3 f0
    obtain ⟨q, r1, _, w1⟩ := DataW.trod_int Try.underlying3 f1
    simp at r0 r1
    subst r0 r1
    obtain ⟨kids, ha⟩ := read_forms_of (fun m hm => ih m (by omega)) f2
    exact ⟨⟨k, q, kids⟩, c2, rfl, ha, w0, w1⟩

theorem read_forms {H : Type} {enc : TypeId × Value → H} {w : World} {base : Nat} {spare : Nat → Bool} {held : Bool} {fuel : Nat} {v : Value} {x : DataW H × List MemPlace}
    (h : DataW.trod enc Try.prog w base spare held fuel 31 [v] = some x) : ∃ fs, At w Any (forms fs) v := read_forms_of (fun n _ => read_form n) h

end Go.Proofs.Ytagnfckihdlhpaa

/-
  From a reading of an argument (the row's form) to the relation 'At' that the walks speak of.
-/
import Derived.Test.YtagnfckihdlhpaaRows
import Derived.Test.YtagnfckihdlhpaaData
import Derived.WalkKit
import Derived.ProofKit
import Derived.OpenShut
import Derived.ShutString
import Derived.ChangeOld
import Derived.Below
import Derived.Deep.Slices
import Derived.Deep.Strs
import Derived.Lib.SmallJoins
namespace Go.Proofs.Ytagnfckihdlhpaa
open Go.ChangeShapes Go.WideShapes Go.ChangeAt Go.RowKit Go.Deep Go.Joins

theorem Try.own : ownKnob Try.prog.godebug = none := by kernel_rfl
theorem Try.laidOut : laidOutB Try.prog = true := by kernel_rfl

theorem spot_none {w : World} {a : Addr} {v : Value} (h : w.cell? a = some v) : a = ⟨a.block, a.off, none⟩ := by
  obtain ⟨b, o, s⟩ := a
  have : s = none := World.cell?_spot h
  subst this
  rfl

theorem add_none (b o k : Nat) : (⟨b, o, none⟩ : Addr).add k = ⟨b, o + k, none⟩ := by
  unfold Addr.add
  split
  · subst_vars; rfl
  · rfl

theorem read_ints {H : Type} {enc : TypeId × Value → H} {w : World} {base : Nat} {spare : Nat → Bool} {held : Bool} {fuel : Nat} {v : Value} {x : DataW H × List MemPlace}
    (h : DataW.trod enc Try.prog w base spare held fuel 22 [v] = some x) : ∃ xs, At w Any (ints xs) v := by
  rcases open_ints Try.underlying22 Try.underlying3 (by kernel_rfl) h with ⟨hcs, _⟩ | ⟨a, len, cap, zs, hcs, _, hl, hm, hz, _, hcell, hwf⟩
  · simp at hcs
    subst hcs
    exact ⟨[], ints_mk (Nat.le_refl 0) (by omega) (fun h => absurd h (by simp))⟩
  · simp at hcs
    subst hcs
    unfold maxLen at hm
    have hzl : len ≤ zs.length := by rw [hz]; split <;> omega
    have hlen : (zs.take len).length = len := by rw [List.length_take]; omega
    have h1 := ints_mk (w := w) (S := Any) (xs := zs.take len) (A := some a) (c := cap) (by omega) (by omega) (fun hp => by
      have hc0 := hcell 0 (by omega)
      have e0 : a.add 0 = a := by simp [Addr.add]
      rw [e0] at hc0
      have e := spot_none hc0
      refine ⟨a.block, a.off, by rw [← e], trivial, fun k hk => ?_⟩
      have hk' : k < zs.length := by omega
      have hc := hcell k hk'
      rw [e, add_none] at hc
      have eg : (zs.take len).getD k 0 = zs.getD k 0 := by
        simp [List.getD, show k < len by omega]
      rw [eg]
      refine ⟨hc, hwf _ ?_⟩
      simp [List.getD, hk'])
    rw [hlen] at h1
    exact ⟨_, h1⟩

theorem read_int {H : Type} {enc : TypeId × Value → H} {w : World} {base : Nat} {spare : Nat → Bool} {held : Bool} {fuel : Nat} {v : Value} {x : DataW H × List MemPlace}
    (h : DataW.trod enc Try.prog w base spare held fuel 3 [v] = some x) : ∃ n : Int, v = .int .i64 n ∧ -9223372036854775808 ≤ n ∧ n ≤ 9223372036854775807 := by
  obtain ⟨n, e, _, wf⟩ := DataW.trod_int Try.underlying3 h
  simp at e
  exact ⟨n, e, wf_bounds wf⟩

/-- A slice that is read: where its elements' cells lie, and their own readings. -/
theorem read_slice {H : Type} {enc : TypeId × Value → H} {P : Program} {w : World} {base : Nat} {spare : Nat → Bool} {held : Bool} {fuel : Nat} {v : Value} {x : DataW H × List MemPlace} {t e : TypeId} {size : Nat}
    (ht : P.underlying t = some (.slice e)) (hsz : P.cellsOf e = size) (hpos : 0 < size) (h : DataW.trod enc P w base spare held fuel t [v] = some x) :
    ∃ A len cap, v = .slice A len cap ∧ len ≤ cap ∧ cap ≤ 9223372036854775807 ∧
      (0 < len → ∃ b off n, fuel = n + 1 ∧ A = some ⟨b, off, none⟩ ∧ ∀ i, i < len → ∃ cs y, cs.length = size ∧ (∀ j, j < size → w.cell? ⟨b, off + (i * size + j), none⟩ = cs[j]?) ∧ DataW.trod enc P w base spare held n e cs = some y) := by
  rcases DataW.trod_slice ht h with ⟨hcs, _⟩ | ⟨a, len, cap, elems, rest, n, rfl, hcs, _, hb, hl, hm, hlen, hel, _, _⟩
  · simp at hcs
    subst hcs
    exact ⟨none, 0, 0, rfl, Nat.le_refl _, by omega, fun h => absurd h (by omega)⟩
  · simp at hcs
    subst hcs
    unfold maxLen at hm
    refine ⟨some a, len, cap, rfl, hl, by omega, fun hp => ?_⟩
    have key : ∀ i, i < len → ∃ cs y, cs.length = size ∧ (∀ j, j < size → w.cell? (a.add (i * size + j)) = cs[j]?) ∧ DataW.trod enc P w base spare held n e cs = some y := by
      intro i hi
      have h1 := hel i hi
      rw [List.getElem?_eq_getElem (by omega), hsz] at h1
      obtain ⟨cs, h2, h3⟩ := Option.bind_eq_some_iff.1 h1
      obtain ⟨_, hcl, hc⟩ := World.cells?_some h2
      exact ⟨cs, _, hcl, fun j hj => by rw [← hc j hj, Go.Deep.add_add], h3⟩
    have e0 : a = ⟨a.block, a.off, none⟩ := by
      obtain ⟨cs, y, hcl, hc, _⟩ := key 0 hp
      have h0 := hc 0 hpos
      rw [List.getElem?_eq_getElem (by omega)] at h0
      have ea : a.add (0 * size + 0) = a := by simp [Addr.add]
      rw [ea] at h0
      exact spot_none h0
    refine ⟨a.block, a.off, n, rfl, by rw [← e0], fun i hi => ?_⟩
    obtain ⟨cs, y, hcl, hc, ht'⟩ := key i hi
    exact ⟨cs, y, hcl, fun j hj => by rw [← hc j hj, e0, add_none], ht'⟩

end Go.Proofs.Ytagnfckihdlhpaa

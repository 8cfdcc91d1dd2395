/-
  What IsFormula answers, in the reference and in the program.
-/
import Derived.Test.YtagnfckihdlhpaaFormEq
namespace Go.Proofs.Ytagnfckihdlhpaa
open Go.RowKit

/-- How many formulas a kind takes; below 0: no kind. -/
def arity (k : Int) : Int := if k = 1 ∨ k = 2 then 0 else if k = 3 ∨ k = 6 then 1 else if k = 4 ∨ k = 5 ∨ k = 7 then 2 else -1
/-- What is asked of a node. -/
def okHead (k q : Int) (n : Nat) : Prop := arity k = n ∧ 0 ≤ q ∧ q ≤ 7 ∧ (k = 2 ∨ q = 0)
instance (k q : Int) (n : Nat) : Decidable (okHead k q n) := by unfold okHead; infer_instance

def Fm.ok (f : Fm) : Bool :=
  match f with
  | ⟨k, q, kids⟩ => decide (okHead k q kids.length) && (kids.attach.all fun ⟨x, _⟩ => Fm.ok x)
termination_by f
decreasing_by
  rename_i hx
  have := List.sizeOf_lt_of_mem hx
  simp only [Fm.mk.sizeOf_spec]
  omega
theorem Fm.ok_eq (k q : Int) (kids : List Fm) : Fm.ok ⟨k, q, kids⟩ = (decide (okHead k q kids.length) && kids.all Fm.ok) := by
  rw [Fm.ok]
  congr 1
  conv => rhs; rw [← List.attach_map_subtype_val kids, List.all_map]
  rfl

def Fm.size (f : Fm) : Nat := f.total + 1
def isFormula (f : Fm) : Bool := decide (f.size ≤ 12) && f.ok

def SizeF (f : Fm) : Prop := ∀ (w : World) (v : Value), At w Any (forms f.kids) v → f.total ≤ 1048576 →
    Calls Try.prog 44 #[.agg #[.int .i64 f.kind, .int .i64 f.prop, v]] w fun e w' => e = .returned (.int .i64 (f.size : Nat)) ∧ Below w.heap.size w w'

set_option maxHeartbeats 1000000 in
theorem formulaSize_any (f : Fm) : SizeF f := by
  induction f using Fm.induct with
  | h k q kids ih =>
    intro w v h h1
    have IH := Lib.hid ih
    clear ih
    obtain ⟨A, c, rfl, hn, hc⟩ := forms_slice h
    have ht := Fm.total_eq ⟨k, q, kids⟩
    have HT := Lib.hid ht
    rw [ht] at h1
    clear ht
    unfold totals at h1
    go_enter Try.func44, Try.ntmps44
    go_wp2_with fail
    go_loopw [3, 9] (fun l i wr => ∃ j : Nat, j ≤ kids.length ∧ i = .int .i64 j ∧ l = .int .i64 ((1 + j + sumTo kids j : Nat) : Int) ∧ Below w.heap.size w wr) (fun _ i _ => kids.length - (intOf i).toNat)
    case atStart => exact ⟨0, Nat.zero_le _, rfl, by simp [sumTo], by repeat (first | with_reducible exact Below.refl _ _ | with_reducible refine Below.setCell ?_ (by first | omega | (simp <;> omega)) _ | with_reducible refine Below.drew ?_ | with_reducible refine below_drewN ?_ _ | with_reducible refine Below.alloc ?_ (by first | omega | (simp <;> omega)) _ | with_reducible refine Below.trans ?_ (Below.mono (by assumption) (by first | omega | (simp <;> omega))))⟩
    case round =>
      obtain ⟨j, hj, rfl, rfl, hb⟩ := hrel
      have hle0 := sumTo_le kids j
      by_cases hlt : j < kids.length
      · obtain ⟨b, off, f, u, rfl, _, hlb, hc1, hc2, hc3, hu, HX, _⟩ := forms_get (h.below hb) hlt
        obtain ⟨Au, cu, rfl, hnu, hcu⟩ := forms_slice hu
        have hmem := List.mem_of_getElem? HX.out
        have HS := Lib.hid (sumTo_succ HX.out)
        have hle := sumTo_le kids (j + 1)
        have htl : sumTo kids j + f.total ≤ (kids.map Fm.total).sum := by have := HS.out; omega
        have hfs : f.size ≤ 1048577 := by unfold Fm.size; omega
        go_wp2_with fail
        refine (IH.out f hmem _ _ (hu.alloc _) (by omega)).mono ?_
        rintro e w1 ⟨rfl, hb1⟩
        have hfs2 : f.size = f.total + 1 := rfl
        have HF := Lib.hid hfs2
        clear hfs2
        go_wp2_with fail
        go_roundw
        case rel => exact ⟨j + 1, by omega, by go_num, by have := HF.out; have := HS.out; go_num, by have z := hb.size; repeat (first | with_reducible exact Below.refl _ _ | with_reducible refine Below.setCell ?_ (by first | omega | (simp <;> omega)) _ | with_reducible refine Below.drew ?_ | with_reducible refine below_drewN ?_ _ | with_reducible refine Below.alloc ?_ (by first | omega | (simp <;> omega)) _ | with_reducible refine Below.trans ?_ (Below.mono (by assumption) (by first | omega | (simp <;> omega))))⟩
        case measure => simp [intOf]; omega
      · have hj' : j = kids.length := by omega
        have HR : Hid (((1 + j + sumTo kids j : Nat) : Int) = ((Fm.size ⟨k, q, kids⟩ : Nat) : Int)) := by
          show ((1 + j + sumTo kids j : Nat) : Int) = _
          have := HT.out
          rw [hj', sumTo_all]
          unfold Fm.size
          unfold totals at this
          omega
        clear hj'
        go_wp2_with fail
        go_ret
        exact ⟨ret_int HR.out, hb⟩

/-- What makes a node wrong, test by test. -/
theorem bad_head {k q : Int} {n : Nat} (h : ¬ okHead k q n) :
    (k < 1 ∨ 7 < k) ∨ (1 ≤ k ∧ k ≤ 7 ∧ ((n : Int) ≠ arity k ∨ ((n : Int) = arity k ∧ (q < 0 ∨ (0 ≤ q ∧ (7 < q ∨ (q ≤ 7 ∧ k ≠ 2 ∧ q ≠ 0))))))) := by
  unfold okHead at h
  omega

def OkF (f : Fm) : Prop := ∀ (w : World) (v : Value), At w Any (forms f.kids) v →
    Calls Try.prog 45 #[.agg #[.int .i64 f.kind, .int .i64 f.prop, v]] w fun e w' => e = .returned (.bool f.ok) ∧ Below w.heap.size w w'

theorem kinds {k : Int} (h1 : 1 ≤ k) (h2 : k ≤ 7) : k = 1 ∨ k = 2 ∨ k = 3 ∨ k = 4 ∨ k = 5 ∨ k = 6 ∨ k = 7 := by omega

end Go.Proofs.Ytagnfckihdlhpaa

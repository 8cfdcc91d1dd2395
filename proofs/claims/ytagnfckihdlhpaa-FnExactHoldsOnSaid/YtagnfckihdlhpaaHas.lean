/-
  What the reference's l2Has answers for a label and a proposition; l31After by numbers.
-/
import Derived.Test.YtagnfckihdlhpaaPlacesI2
import Derived.Test.YtagnfckihdlhpaaPlacesI6
namespace Go.Proofs.Ytagnfckihdlhpaa
open Go.RowKit

theorem has_all : ∀ ny, ny < 256 → ∀ nq, nq < 8 → (bits BinOp.and IntKind.i64 (((ny : Nat) : Int) / 2 ^ nq) 1 == 1) = ny.testBit nq := by decide +kernel

set_option maxHeartbeats 1000000 in
theorem l2Has_any (ny nq : Nat) (h1 : ny < 256) (h2 : nq < 8) (w : World) :
    Calls Try.prog 77 #[.int .i64 ny, .int .i64 nq] w fun e w' => e = .returned (.bool (hasBit ny nq)) ∧ w = w' := by
  have HA := Lib.hid (has_all ny h1 nq h2)
  go_enter Try.func77, Try.ntmps77
  go_wp2_with fail
  go_ret
  exact ⟨ret_bool HA.out, rfl⟩

theorem afterN (xs : List Int) (back : Nat) (i : Nat) (hi : i < xs.length) (w : World) (v : Value) (h : At w Any (ints xs) v) :
    Calls Try.prog 65 #[.agg #[v, .int .i64 back], .int .i64 i] w fun e w' => e = .returned (.int .i64 (nxt xs.length back i : Nat)) ∧ Below w.heap.size w w' :=
  (l31After_any xs back i hi w v h).mono fun e w' hh => ⟨by
    rw [hh.1]
    unfold afterP nxt
    split <;> rfl, hh.2⟩

end Go.Proofs.Ytagnfckihdlhpaa

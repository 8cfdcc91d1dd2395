/-
  NARROWER THAN 'FOR EVERY INPUT', by the rows' own cells (each row's printed sentence says how): FnExactIsFormula: loops · FnExactIsGraph: loops · FnExactIsRun: loops · FnExactHoldsOn: loops · FnExactShortestPath: loops.
  DERIVED. THE GIVEN ROWS OF THIS SEAT. 7 by the template 'for every input the law returns true; each argument reads behind the call as it read before'; 0 by the template 'total and deterministic' (their statements: YtagnfckihdlhpaaTotals.lean).
  GIVEN WITH THE SEED: the statements are not yours to turn. If you find one false, say at which input.
  Laid BY PROGRAM, IN A SANDBOX (cutbox-rows.mjs): the forced cells as the released guide's own fill.sh prints them over the translation beb22416f11f5343… (all of the seat's roots in one cut). By AI agents, Wed Nov 11 2026. No macro, syntax, notation, axiom, sorry.
-/
import Derived.Test.YtagnfckihdlhpaaChecked
import GoSem.Claim
import GoSem.ClaimJoined
import GoSem.ClaimMapViews
import Derived.JoinedTies
import Derived.KernelRfl
namespace Go.Proofs.Ytagnfckihdlhpaa
/- THE CELL 'sum', in the pinned program and in every row, IS THE sha256 OF THE DUMP (.gsa) THAT YtagnfckihdlhpaaProg.lean LOADS. Nothing in Lean hashes anything: it is a label: what it is worth is what the hold of that sum in a sandbox is worth. -/
noncomputable def Try.pinned : Pinned := { name := "ytagnfckihdlhpaa", sum := "beb22416f11f5343018268eda3fb8ab08ad3b694f1c9d8dded34bf110a1f1342", checked := Try.checked }
namespace Rows
def none {H : Type} : Left H := { results := [], args := [] }

/-- 'laws.FnExactIsLasso': WHATEVER THE INPUT: true; the input reads as it did. -/
def fnExactIsLassoSpec : ChangeSpec := { name := "fnExactIsLasso", fn := fun _ => fun
  | [d] => { results := [.lit (.bool true)], args := [d] }
  | _ => none }
def fnExactIsLassoRow : OpenClaim := { program := "ytagnfckihdlhpaa", sum := "beb22416f11f5343018268eda3fb8ab08ad3b694f1c9d8dded34bf110a1f1342", func := "loop.example/g03107/laws.FnExactIsLasso", spec := "fnExactIsLasso", apart := false }
def FnExactIsLassoSaid : Prop := fnExactIsLassoRow.holds Try.pinned (OpenSpec.ofChange fnExactIsLassoSpec)

/-- ITS FALSE NEIGHBOUR: 'it returns false'. Refute it at one input. -/
def fnExactIsLassoWrong : ChangeSpec := { name := "fnExactIsLasso", fn := fun _ => fun
  | [d] => { results := [.lit (.bool false)], args := [d] }
  | _ => none }
def FnExactIsLassoWrongFalsely : Prop := fnExactIsLassoRow.holds Try.pinned (OpenSpec.ofChange fnExactIsLassoWrong)

/-- 'laws.FnExactIsFormula': WHATEVER THE INPUT: true; the input reads as it did. -/
def fnExactIsFormulaSpec : ChangeSpec := { name := "fnExactIsFormula", fn := fun _ => fun
  | [d] => { results := [.lit (.bool true)], args := [d] }
  | _ => none }
def fnExactIsFormulaRow : OpenClaim := { program := "ytagnfckihdlhpaa", sum := "beb22416f11f5343018268eda3fb8ab08ad3b694f1c9d8dded34bf110a1f1342", func := "loop.example/g03107/laws.FnExactIsFormula", spec := "fnExactIsFormula", recurses := true, loops := true, apart := false }
def FnExactIsFormulaSaid : Prop := fnExactIsFormulaRow.holds Try.pinned (OpenSpec.ofChange fnExactIsFormulaSpec)

/-- ITS FALSE NEIGHBOUR: 'it returns false'. Refute it at one input. -/
def fnExactIsFormulaWrong : ChangeSpec := { name := "fnExactIsFormula", fn := fun _ => fun
  | [d] => { results := [.lit (.bool false)], args := [d] }
  | _ => none }
def FnExactIsFormulaWrongFalsely : Prop := fnExactIsFormulaRow.holds Try.pinned (OpenSpec.ofChange fnExactIsFormulaWrong)

/-- 'laws.FnExactIsGraph': WHATEVER THE INPUT: true; the input reads as it did. -/
def fnExactIsGraphSpec : ChangeSpec := { name := "fnExactIsGraph", fn := fun _ => fun
  | [d] => { results := [.lit (.bool true)], args := [d] }
  | _ => none }
def fnExactIsGraphRow : OpenClaim := { program := "ytagnfckihdlhpaa", sum := "beb22416f11f5343018268eda3fb8ab08ad3b694f1c9d8dded34bf110a1f1342", func := "loop.example/g03107/laws.FnExactIsGraph", spec := "fnExactIsGraph", recurses := true, loops := true, apart := false }
def FnExactIsGraphSaid : Prop := fnExactIsGraphRow.holds Try.pinned (OpenSpec.ofChange fnExactIsGraphSpec)

/-- ITS FALSE NEIGHBOUR: 'it returns false'. Refute it at one input. -/
def fnExactIsGraphWrong : ChangeSpec := { name := "fnExactIsGraph", fn := fun _ => fun
  | [d] => { results := [.lit (.bool false)], args := [d] }
  | _ => none }
def FnExactIsGraphWrongFalsely : Prop := fnExactIsGraphRow.holds Try.pinned (OpenSpec.ofChange fnExactIsGraphWrong)

/-- 'laws.FnUnrolled': WHATEVER THE INPUT: true; the input reads as it did. -/
def fnUnrolledSpec : ChangeSpec := { name := "fnUnrolled", fn := fun _ => fun
  | [d] => { results := [.lit (.bool true)], args := [d] }
  | _ => none }
def fnUnrolledRow : OpenClaim := { program := "ytagnfckihdlhpaa", sum := "beb22416f11f5343018268eda3fb8ab08ad3b694f1c9d8dded34bf110a1f1342", func := "loop.example/g03107/laws.FnUnrolled", spec := "fnUnrolled", unfollowed := true, recurses := true, apart := false }
def FnUnrolledSaid : Prop := fnUnrolledRow.holds Try.pinned (OpenSpec.ofChange fnUnrolledSpec)

/-- ITS FALSE NEIGHBOUR: 'it returns false'. Refute it at one input. -/
def fnUnrolledWrong : ChangeSpec := { name := "fnUnrolled", fn := fun _ => fun
  | [d] => { results := [.lit (.bool false)], args := [d] }
  | _ => none }
def FnUnrolledWrongFalsely : Prop := fnUnrolledRow.holds Try.pinned (OpenSpec.ofChange fnUnrolledWrong)

/-- 'laws.FnExactIsRun': WHATEVER THE INPUT: true; the input reads as it did. -/
def fnExactIsRunSpec : ChangeSpec := { name := "fnExactIsRun", fn := fun _ => fun
  | [d1, d2] => { results := [.lit (.bool true)], args := [d1, d2] }
  | _ => none }
def fnExactIsRunRow : OpenClaim := { program := "ytagnfckihdlhpaa", sum := "beb22416f11f5343018268eda3fb8ab08ad3b694f1c9d8dded34bf110a1f1342", func := "loop.example/g03107/laws.FnExactIsRun", spec := "fnExactIsRun", recurses := true, loops := true, apart := false }
def FnExactIsRunSaid : Prop := fnExactIsRunRow.holds Try.pinned (OpenSpec.ofChange fnExactIsRunSpec)

/-- ITS FALSE NEIGHBOUR: 'it returns false'. Refute it at one input. -/
def fnExactIsRunWrong : ChangeSpec := { name := "fnExactIsRun", fn := fun _ => fun
  | [d1, d2] => { results := [.lit (.bool false)], args := [d1, d2] }
  | _ => none }
def FnExactIsRunWrongFalsely : Prop := fnExactIsRunRow.holds Try.pinned (OpenSpec.ofChange fnExactIsRunWrong)

/-- 'laws.FnExactHoldsOn': WHATEVER THE INPUT: true; the input reads as it did. -/
def fnExactHoldsOnSpec : ChangeSpec := { name := "fnExactHoldsOn", fn := fun _ => fun
  | [d1, d2, d3] => { results := [.lit (.bool true)], args := [d1, d2, d3] }
  | _ => none }
def fnExactHoldsOnRow : OpenClaim := { program := "ytagnfckihdlhpaa", sum := "beb22416f11f5343018268eda3fb8ab08ad3b694f1c9d8dded34bf110a1f1342", func := "loop.example/g03107/laws.FnExactHoldsOn", spec := "fnExactHoldsOn", unfollowed := true, recurses := true, loops := true, apart := false }
def FnExactHoldsOnSaid : Prop := fnExactHoldsOnRow.holds Try.pinned (OpenSpec.ofChange fnExactHoldsOnSpec)

/-- ITS FALSE NEIGHBOUR: 'it returns false'. Refute it at one input. -/
def fnExactHoldsOnWrong : ChangeSpec := { name := "fnExactHoldsOn", fn := fun _ => fun
  | [d1, d2, d3] => { results := [.lit (.bool false)], args := [d1, d2, d3] }
  | _ => none }
def FnExactHoldsOnWrongFalsely : Prop := fnExactHoldsOnRow.holds Try.pinned (OpenSpec.ofChange fnExactHoldsOnWrong)

/-- 'laws.FnExactShortestPath': WHATEVER THE INPUT: true; the input reads as it did. -/
def fnExactShortestPathSpec : ChangeSpec := { name := "fnExactShortestPath", fn := fun _ => fun
  | [d1, d2] => { results := [.lit (.bool true)], args := [d1, d2] }
  | _ => none }
def fnExactShortestPathRow : OpenClaim := { program := "ytagnfckihdlhpaa", sum := "beb22416f11f5343018268eda3fb8ab08ad3b694f1c9d8dded34bf110a1f1342", func := "loop.example/g03107/laws.FnExactShortestPath", spec := "fnExactShortestPath", inPlace := ["slices.overlaps[int]"], recurses := true, loops := true, apart := false }
def FnExactShortestPathSaid : Prop := fnExactShortestPathRow.holds Try.pinned (OpenSpec.ofChange fnExactShortestPathSpec)

/-- ITS FALSE NEIGHBOUR: 'it returns false'. Refute it at one input. -/
def fnExactShortestPathWrong : ChangeSpec := { name := "fnExactShortestPath", fn := fun _ => fun
  | [d1, d2] => { results := [.lit (.bool false)], args := [d1, d2] }
  | _ => none }
def FnExactShortestPathWrongFalsely : Prop := fnExactShortestPathRow.holds Try.pinned (OpenSpec.ofChange fnExactShortestPathWrong)

/- THE SECOND FORM. 'bulk': how many values and letters a reading holds, each counted each time it is reached (what is shared counts as often as it is met; a slice's spare places count too). A statement '..UptoSaid' is the law's where the arguments, and the package variables that the reading takes, are together of bulk at most 1048576: NARROWER than '..Said'. Prove '..Said' where nothing that the law and all that it calls make is longer than what came in: it says more and counts as full. Else prove '..UptoSaid'. A law counts once. -/
mutual
def uptoBulk {H : Type} : DataW H → Nat
  | .lit (.string bytes) => bytes.length + 1
  | .lit _ => 1
  | .nil => 1
  | .ptr d => uptoBulk d + 1
  | .slice elems spare => uptoBulkAll elems + uptoBulkAll spare + 1
  | .agg parts => uptoBulkAll parts + 1
  | .iface _ d => uptoBulk d + 1
  | .map entries => uptoBulkEntries entries + 1
  | .held _ => 1
def uptoBulkAll {H : Type} : List (DataW H) → Nat
  | [] => 0
  | d :: r => uptoBulk d + uptoBulkAll r
def uptoBulkEntries {H : Type} : List (Lit × DataW H) → Nat
  | [] => 0
  | x :: r => uptoBulkEntry x + uptoBulkEntries r
def uptoBulkEntry {H : Type} : Lit × DataW H → Nat
  | (.string bytes, d) => bytes.length + uptoBulk d + 1
  | (_, d) => uptoBulk d + 1
 end
def uptoSmall : (H : Type) → List (DataW H) → Bool := fun _ ds => decide (uptoBulkAll ds ≤ 1048576)
def OpenSpec.upto (s : _root_.Go.ChangeSpec) : _root_.Go.OpenSpec := { _root_.Go.OpenSpec.ofChange s with cond := some uptoSmall }

/-- 'laws.FnExactIsLasso', WHERE WHAT IT READS IS OF BULK AT MOST 1048576: true; the input reads as it did. -/
def fnExactIsLassoUptoRow : OpenClaim := { program := "ytagnfckihdlhpaa", sum := "beb22416f11f5343018268eda3fb8ab08ad3b694f1c9d8dded34bf110a1f1342", func := "loop.example/g03107/laws.FnExactIsLasso", spec := "fnExactIsLasso", apart := false, narrowed := true }
def FnExactIsLassoUptoSaid : Prop := fnExactIsLassoUptoRow.holds Try.pinned (OpenSpec.upto fnExactIsLassoSpec)

/-- 'laws.FnExactIsFormula', WHERE WHAT IT READS IS OF BULK AT MOST 1048576: true; the input reads as it did. -/
def fnExactIsFormulaUptoRow : OpenClaim := { program := "ytagnfckihdlhpaa", sum := "beb22416f11f5343018268eda3fb8ab08ad3b694f1c9d8dded34bf110a1f1342", func := "loop.example/g03107/laws.FnExactIsFormula", spec := "fnExactIsFormula", recurses := true, loops := true, apart := false, narrowed := true }
def FnExactIsFormulaUptoSaid : Prop := fnExactIsFormulaUptoRow.holds Try.pinned (OpenSpec.upto fnExactIsFormulaSpec)

/-- 'laws.FnExactIsGraph', WHERE WHAT IT READS IS OF BULK AT MOST 1048576: true; the input reads as it did. -/
def fnExactIsGraphUptoRow : OpenClaim := { program := "ytagnfckihdlhpaa", sum := "beb22416f11f5343018268eda3fb8ab08ad3b694f1c9d8dded34bf110a1f1342", func := "loop.example/g03107/laws.FnExactIsGraph", spec := "fnExactIsGraph", recurses := true, loops := true, apart := false, narrowed := true }
def FnExactIsGraphUptoSaid : Prop := fnExactIsGraphUptoRow.holds Try.pinned (OpenSpec.upto fnExactIsGraphSpec)

/-- 'laws.FnUnrolled', WHERE WHAT IT READS IS OF BULK AT MOST 1048576: true; the input reads as it did. -/
def fnUnrolledUptoRow : OpenClaim := { program := "ytagnfckihdlhpaa", sum := "beb22416f11f5343018268eda3fb8ab08ad3b694f1c9d8dded34bf110a1f1342", func := "loop.example/g03107/laws.FnUnrolled", spec := "fnUnrolled", unfollowed := true, recurses := true, apart := false, narrowed := true }
def FnUnrolledUptoSaid : Prop := fnUnrolledUptoRow.holds Try.pinned (OpenSpec.upto fnUnrolledSpec)

/-- 'laws.FnExactIsRun', WHERE WHAT IT READS IS OF BULK AT MOST 1048576: true; the input reads as it did. -/
def fnExactIsRunUptoRow : OpenClaim := { program := "ytagnfckihdlhpaa", sum := "beb22416f11f5343018268eda3fb8ab08ad3b694f1c9d8dded34bf110a1f1342", func := "loop.example/g03107/laws.FnExactIsRun", spec := "fnExactIsRun", recurses := true, loops := true, apart := false, narrowed := true }
def FnExactIsRunUptoSaid : Prop := fnExactIsRunUptoRow.holds Try.pinned (OpenSpec.upto fnExactIsRunSpec)

/-- 'laws.FnExactHoldsOn', WHERE WHAT IT READS IS OF BULK AT MOST 1048576: true; the input reads as it did. -/
def fnExactHoldsOnUptoRow : OpenClaim := { program := "ytagnfckihdlhpaa", sum := "beb22416f11f5343018268eda3fb8ab08ad3b694f1c9d8dded34bf110a1f1342", func := "loop.example/g03107/laws.FnExactHoldsOn", spec := "fnExactHoldsOn", unfollowed := true, recurses := true, loops := true, apart := false, narrowed := true }
def FnExactHoldsOnUptoSaid : Prop := fnExactHoldsOnUptoRow.holds Try.pinned (OpenSpec.upto fnExactHoldsOnSpec)

/-- 'laws.FnExactShortestPath', WHERE WHAT IT READS IS OF BULK AT MOST 1048576: true; the input reads as it did. -/
def fnExactShortestPathUptoRow : OpenClaim := { program := "ytagnfckihdlhpaa", sum := "beb22416f11f5343018268eda3fb8ab08ad3b694f1c9d8dded34bf110a1f1342", func := "loop.example/g03107/laws.FnExactShortestPath", spec := "fnExactShortestPath", inPlace := ["slices.overlaps[int]"], recurses := true, loops := true, apart := false, narrowed := true }
def FnExactShortestPathUptoSaid : Prop := fnExactShortestPathUptoRow.holds Try.pinned (OpenSpec.upto fnExactShortestPathSpec)

end Rows
end Go.Proofs.Ytagnfckihdlhpaa

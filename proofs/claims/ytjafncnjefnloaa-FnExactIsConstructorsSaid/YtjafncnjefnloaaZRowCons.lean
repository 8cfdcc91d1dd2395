/-
  PROVED: for every signature and list of operators that can be read, the law FnExactIsConstructors (the program's IsConstructors returns what the reference's returns, and leaves its arguments as they were) returns true, and its arguments read afterwards as before. No condition.
-/
import Derived.Test.YtjafncnjefnloaaZRowCons13
import Derived.Test.YtjafncnjefnloaaZRowCons18
namespace Go.Proofs.Ytjafncnjefnloaa
open Go.ChangeShapes Go.WideShapes Go.ChangeAt Go.RowKit Go.Deep Go.Joins

def tmCons : List (Nat × Den.Ty) := [(3, .i), (4, .b), (9, .s), (29, .sl .i), (22, .sl .s), (88, .n 5), (23, .sl (.n 5)), (25, .n 6), (96, .n 7), (58, .sl (.n 7)), (60, .n 8), (26, .sl (.n 8)), (28, .n 9)]
theorem tmCons_ok : Den.TMOK Try.prog tmCons := by
  have h : (tmCons.all fun p => Den.stepT Try.prog tmCons p.1 p.2) = true := by kernel_rfl
  exact fun p hp => List.all_eq_true.1 h p hp

set_option maxRecDepth 100000 in
theorem fnExactIsConstructors_lifted (os : Os) (started : os.Started) (H : Type) (enc : TypeId × Value → H) :
    ReturnsInHanded {} Try.checked os 3 .any (Rows.fnExactIsConstructorsSpec.pre6 enc Try.prog Try.f3 Rows.fnExactIsConstructorsRow.domain false) (Rows.fnExactIsConstructorsSpec.post enc Try.prog Try.f3 false true false false) := by
  refine returnsInHanded_of_change (C := Try.checked) Try.own started (by kernel_rfl) Try.func3
    (ChangeSpec.witness6 (enc := enc) (C := Try.checked) false ⟨#[], #[.agg #[.slice none 0 0, .slice none 0 0, .slice none 0 0], .slice none 0 0], []⟩ 8 (by kernel_rfl) (by kernel_rfl) (by kernel_rfl) (by kernel_rfl)) ?_
  intro W base args ds gs before hval0 hW hcnd _
  have hval : ∀ (j : Nat) t v, Try.f3.params[j]? = some t → args[j]? = some v → Value.okWide Try.prog W .any base t v := hval0
  have hW' := hW
  obtain ⟨p, q, hA0, hV, rfl, hfz, hnd⟩ := hW
  have hA : DataW.TrodAll enc Try.prog W 0 (fun _ => true) true Try.f3.params.toList args.toList ds p := hA0
  rw [Try.params3] at hA hval
  obtain ⟨v0, vs0, d0, ds0, p0, q0, hargs, rfl, rfl, h0, r0⟩ := trodAll_cons hA
  obtain ⟨v1, vs1, d1, ds1, p1, q1, rfl, rfl, rfl, h1, r1⟩ := trodAll_cons r0
  obtain ⟨rfl, rfl, rfl⟩ := trodAll_nil r1
  obtain rfl : args = #[v0, v1] := by cases args; simp_all
  obtain ⟨rfl, rfl⟩ := trodVars_none hV
  have k0 := h0
  have k1 := h1
  have lt0 : ∀ x ∈ p0, x.block < W.heap.size := by obtain ⟨m, hm⟩ := k0; exact DataW.trod_lt m _ _ _ hm
  have lt1 : ∀ x ∈ p1, x.block < W.heap.size := by obtain ⟨m, hm⟩ := k1; exact DataW.trod_lt m _ _ _ hm
  obtain ⟨m0, hm0⟩ := h0
  obtain ⟨m1, hm1⟩ := h1
  obtain ⟨c0, e0, _⟩ := okWide_struct Try.underlying28 (hval 0 28 v0 rfl rfl)
  have e1 : v1.cells = #[v1] := by
    obtain ⟨a1, len, cap, rfl⟩ := okWide_slice Try.underlying29 (hval 1 29 v1 rfl rfl)
    rfl
  have l0 := Den.read_ty tmCons_ok m0 28 (.n 9) _ _ rfl hm0
  have l1 := Den.read_ty tmCons_ok m1 29 (.sl .i) _ _ rfl hm1
  have f0 : ∃ (s : Den.I (.n 9)) (us : List Abs.V), Den.Fit (.n 9) s ∧ Den.ATR [] [] (.agg (Den.explode (.n 9) s)) (.agg us) ∧ Abs.AR [] (fun b => b < W.heap.size) W (.agg us) v0 := Den.arg_agg_fit l0 ⟨c0, e0⟩
  have f1 : ∃ (s : Den.I (.sl .i)) (x : Abs.V), Den.Fit (.sl .i) s ∧ Den.ATR [] [] (.one (.l .i s)) (.one x) ∧ Abs.AR [] (fun b => b < W.heap.size) W (.one x) v1 := Den.arg_one_fit l1 e1 (fun d => rfl)
  obtain ⟨s, us, fs, t0, a0⟩ := f0
  obtain ⟨cs, x, fc, t1, a1⟩ := f1
  clear hA0 hval0
  obtain ⟨g, hg, hl⟩ := Den.isConstructors_law
  obtain ⟨r, hr, rfl⟩ := hl s cs ⟨fs, fc⟩
  have hcfn : Den.CFn Try.prog 3 [.agg (Den.explode (.n 9) s), .one (.l .i cs)] [] (.one (.b true)) [] := by
    obtain ⟨v, H', e, k⟩ := hg (Den.AT × List Den.Ob) [.agg (Den.explode (.n 9) s), .one (.l .i cs)] [] (fun v H' => some (v, H')) _ (by first | (show (g s cs).bind _ = some _; rw [hr]; rfl) | (simp only [hr]; rfl))
    cases e
    exact k
  refine (Den.calls_law hcfn (Den.atrs_cons t0 (Den.atrs_cons t1 Den.atrs_nil)) (Den.ars_cons a0 (Den.ars_cons a1 Den.ars_nil))).mono fun e W' ⟨he, bel⟩ => ?_
  subst he
  exact ⟨_, rfl, _, _, _, [], _, [], hW', trodAll_mk1 (shut_bool Try.underlying4 _), (trodAll_cons_mk (Below.trod Try.laidOut (by kernel_rfl) (of_decide_eq_true (by kernel_rfl)) k0 bel lt0) (trodAll_cons_mk (Below.trod Try.laidOut (by kernel_rfl) (of_decide_eq_true (by kernel_rfl)) k1 bel lt1) trodAll_mk0)), rfl, bel.frame _, fun h => by cases h⟩

theorem fnExactIsConstructors_holds : Rows.FnExactIsConstructorsSaid :=
  OpenClaim.holds_of_wide 3 Try.f3 rfl rfl rfl rfl rfl rfl rfl ⟨rfl, rfl, rfl, rfl, rfl⟩ rfl rfl rfl rfl rfl (by kernel_rfl) Try.func3 (by kernel_rfl)
    (of_decide_eq_true (by kernel_rfl)) (by unfold Func.isWrapper; rw [if_neg (by decide +kernel)]; exact ⟨rfl, rfl⟩)
    (fun os started H enc _ => fnExactIsConstructors_lifted os started H enc)

end Go.Proofs.Ytjafncnjefnloaa

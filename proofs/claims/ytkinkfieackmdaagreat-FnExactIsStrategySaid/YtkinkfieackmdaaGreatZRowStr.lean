import Derived.Test.YtkinkfieackmdaaGreatZRowStr14
import Derived.Test.YtkinkfieackmdaaGreatZRowStr36
namespace Go.Proofs.YtkinkfieackmdaaGreat
open Go.ChangeShapes Go.WideShapes Go.ChangeAt Go.RowKit Go.Deep Go.Joins
def tmStr : List (Nat × Den.Ty) := [(3, .i), (4, .b), (9, .s), (121, .sl .i), (22, .sl .s), (189, .n 5), (23, .sl (.n 5)), (25, .n 6), (219, .n 7), (136, .sl (.n 7)), (138, .n 8), (26, .sl (.n 8)), (28, .n 9), (34, .n 1), (32, .sl (.n 1)), (200, .n 13), (110, .sl (.n 13)), (112, .n 14), (29, .sl (.n 14)), (31, .n 15), (37, .n 16), (35, .sl (.n 16))]
theorem tmStr_ok : Den.TMOK Tryz.prog tmStr := by
 have h : (tmStr.all fun p => Den.stepT Tryz.prog tmStr p.1 p.2) = true := by kernel_rfl
 exact fun p hp => List.all_eq_true.1 h p hp
set_option maxRecDepth 100000 in
theorem fnExactIsStrategy_lifted (os : Os) (started : os.Started) (H : Type) (enc : TypeId × Value → H) :
  ReturnsInHanded {} Tryz.checked os 3 .any (Rows.fnExactIsStrategySpec.pre6 enc Tryz.prog Tryz.f3 Rows.fnExactIsStrategyRow.domain false) (Rows.fnExactIsStrategySpec.post enc Tryz.prog Tryz.f3 false true false false) := by
 refine returnsInHanded_of_change (C := Tryz.checked) Tryz.own started (by kernel_rfl) Tryz.func3
  (ChangeSpec.witness6 (enc := enc) (C := Tryz.checked) false ⟨#[], #[.agg #[.slice none 0 0, .slice none 0 0, .slice none 0 0, .slice none 0 0, .slice none 0 0], .agg #[.int .i64 0, .int .i64 0, .int .i64 0, .string ⟨#[]⟩, .int .i64 0, .slice none 0 0, .slice none 0 0]], []⟩ 8 (by kernel_rfl) (by kernel_rfl) (by kernel_rfl) (by kernel_rfl)) ?_
 intro W base args ds gs before hval0 hW hcnd _
 have hval : ∀ (j : Nat) t v, Tryz.f3.params[j]? = some t → args[j]? = some v → Value.okWide Tryz.prog W .any base t v := hval0
 have hW' := hW
 obtain ⟨p, q, hA0, hV, rfl, hfz, hnd⟩ := hW
 have hA : DataW.TrodAll enc Tryz.prog W 0 (fun _ => true) true Tryz.f3.params.toList args.toList ds p := hA0
 rw [Tryz.params3] at hA hval
 obtain ⟨v0, vs0, d0, ds0, p0, q0, hargs, rfl, rfl, h0, r0⟩ := trodAll_cons hA
 obtain ⟨v1, vs1, d1, ds1, p1, q1, rfl, rfl, rfl, h1, r1⟩ := trodAll_cons r0
 obtain ⟨rfl, rfl, rfl⟩ := trodAll_nil r1
 obtain rfl : args = #[v0, v1] := by cases args; simp_all
 obtain ⟨rfl, rfl⟩ := trodVars_none hV
 have k0 := h0
 have k1 := h1
 have lt0 : ∀ x ∈ p0, x.block < W.heap.size := by obtain ⟨m, hm⟩ := k0; exact DataW.trod_lt m _ _ _ hm
 have lt1 : ∀ x ∈ p1, x.block < W.heap.size := by obtain ⟨m, hm⟩ := k1; exact DataW.trod_lt m _ _ _ hm
 obtain ⟨m0, hm0⟩ := h0
 obtain ⟨m1, hm1⟩ := h1
 obtain ⟨c0, e0, _⟩ := okWide_struct Tryz.underlying31 (hval 0 31 v0 rfl rfl)
 obtain ⟨c1, e1, _⟩ := okWide_struct Tryz.underlying37 (hval 1 37 v1 rfl rfl)
 have l0 := Den.read_ty tmStr_ok m0 31 (.n 15) _ _ rfl hm0
 have l1 := Den.read_ty tmStr_ok m1 37 (.n 16) _ _ rfl hm1
 have f0 : ∃ (s : Den.I (.n 15)) (us : List Abs.V), Den.Fit (.n 15) s ∧ Den.ATR [] [] (.agg (Den.explode (.n 15) s)) (.agg us) ∧ Abs.AR [] (fun b => b < W.heap.size) W (.agg us) v0 := Den.arg_agg_fit l0 ⟨c0, e0⟩
 have f1 : ∃ (s : Den.I (.n 16)) (us : List Abs.V), Den.Fit (.n 16) s ∧ Den.ATR [] [] (.agg (Den.explode (.n 16) s)) (.agg us) ∧ Abs.AR [] (fun b => b < W.heap.size) W (.agg us) v1 := Den.arg_agg_fit l1 ⟨c1, e1⟩
 obtain ⟨s, us, fs, t0, a0⟩ := f0
 obtain ⟨cs, x, fc, t1, a1⟩ := f1
 clear hA0 hval0
 obtain ⟨g, hg, hl⟩ := Den.isStrategy_law
 obtain ⟨r, hr, rfl⟩ := hl s cs ⟨fs, fc⟩
 have hcfn : Den.CFn Tryz.prog 3 [.agg (Den.explode (.n 15) s), .agg (Den.explode (.n 16) cs)] [] (.one (.b true)) [] := by
  obtain ⟨v, H', e, k⟩ := hg (Den.AT × List Den.Ob) [.agg (Den.explode (.n 15) s), .agg (Den.explode (.n 16) cs)] [] (fun v H' => some (v, H')) _ (show (g s (Den.Sgy.mk (Den.Sgy.kind cs) (Den.Sgy.index cs) (Tm.mk (Tm.op (Den.Sgy.test cs)) (Tm.name (Den.Sgy.test cs)) (Tm.sort (Den.Sgy.test cs)) (Tm.args (Den.Sgy.test cs))) (Den.Sgy.kids cs))).bind (fun r => some (Den.AT.one (.b r), ([] : List Den.Ob))) = some (Den.AT.one (.b true), []) by rw [Den.Tm.eta]; exact (congrArg (fun z : Den.Sgy => (g s z).bind fun r => some (Den.AT.one (.b r), ([] : List Den.Ob))) (Den.Sgy.eta cs)).trans (by show (g s cs).bind _ = _; rw [hr]; rfl))
  cases e
  exact k
 refine (Den.calls_law hcfn (Den.atrs_cons t0 (Den.atrs_cons t1 Den.atrs_nil)) (Den.ars_cons a0 (Den.ars_cons a1 Den.ars_nil))).mono fun e W' ⟨he, bel⟩ => ?_
 subst he
 exact ⟨_, rfl, _, _, _, [], _, [], hW', trodAll_mk1 (shut_bool Tryz.underlying4 _), (trodAll_cons_mk (Below.trod Tryz.laidOut (by kernel_rfl) (of_decide_eq_true (by kernel_rfl)) k0 bel lt0) (trodAll_cons_mk (Below.trod Tryz.laidOut (by kernel_rfl) (of_decide_eq_true (by kernel_rfl)) k1 bel lt1) trodAll_mk0)), rfl, bel.frame _, fun h => by cases h⟩
theorem fnExactIsStrategy_holds : Rows.FnExactIsStrategySaid :=
 OpenClaim.holds_of_wide 3 Tryz.f3 rfl rfl rfl rfl rfl rfl rfl ⟨rfl, rfl, rfl, rfl, rfl⟩ rfl rfl rfl rfl rfl (by kernel_rfl) Tryz.func3 (by kernel_rfl)
  (of_decide_eq_true (by kernel_rfl)) (by unfold Func.isWrapper; rw [if_neg (by decide +kernel)]; exact ⟨rfl, rfl⟩)
  (fun os started H enc _ => fnExactIsStrategy_lifted os started H enc)
end Go.Proofs.YtkinkfieackmdaaGreat

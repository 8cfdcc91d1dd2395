import Derived.Test.YtjafncnjefnloaaDoorTie
import Derived.Test.YtjafncnjefnloaaDoorCards
import Derived.SevenTiedAt
import Derived.LaidMore
import Derived.LaidLaws
import Derived.Stop.Joined
import Derived.ChangeSame
import Derived.ChangeVars
import Derived.JoinedOf
import Derived.RowKit
import Derived.Test.YtjafncnjefnloaaDoorZRowAll12
import Derived.Test.YtjafncnjefnloaaDoorZRowAll28
namespace Go.Proofs.YtjafncnjefnloaaDoor
open Go.ChangeShapes Go.WideShapes Go.ChangeAt Go.RowKit Go.Deep Go.Joins
def tmRuns : List (Nat × Den.Ty) := [(3, .i), (9, .s), (4, .b), (26, .sl .i), (23, .sl (.sl .i)), (97, .n 1), (22, .sl (.n 1)), (25, .n 3), (29, .n 2), (27, .sl (.n 2))]
theorem tmRuns_ok : Den.TMOK Tryd.prog tmRuns := by
 have h : (tmRuns.all fun p => Den.stepT Tryd.prog tmRuns p.1 p.2) = true := by kernel_rfl
 exact fun p hp => List.all_eq_true.1 h p hp
theorem fnExactAllRunsHold_door (os : Os) (args : Array Value) : laidMetH Tryd.prog Rows.fnExactAllRunsHoldRow.laid ((World.doorLaid Tryd.prog 4000 os).forCall (fun _ _ => 0) ⟨#[], args, []⟩).memory :=
 laidMetH_of_parts3 (fuel := 8) (laidMet_of_run' 8 (by kernel_rfl) (by kernel_rfl)) (by kernel_rfl) (by kernel_rfl)
set_option maxRecDepth 100000 in
theorem fnExactAllRunsHold_lifted (os : Os) (started : os.Started) (H : Type) (enc : TypeId × Value → H) :
  ReturnsInHanded {} Tryd.checked os 4 .any (fun w args => (Rows.fnExactAllRunsHoldSpec.pre enc Tryd.prog Tryd.f4 [] false w args ∧ laidMetH Tryd.prog Rows.fnExactAllRunsHoldRow.laid w) ∧ sizedMet enc Tryd.prog Tryd.f4 (OpenSpec.ofChange Rows.fnExactAllRunsHoldSpec) false w args)
   (Rows.fnExactAllRunsHoldSpec.post enc Tryd.prog Tryd.f4 false true false false) := by
 refine returnsInHanded_of_change_and (C := Tryd.checked) (X := fun w _ => laidMetH Tryd.prog Rows.fnExactAllRunsHoldRow.laid w) (fun _ _ _ hh h => h.of_heap hh) Tryd.own started (by kernel_rfl) Tryd.func4
  (ChangeSpec.witness_shaped (enc := enc) (C := Tryd.checked) (os := os) (X := fun w _ => laidMetH Tryd.prog Rows.fnExactAllRunsHoldRow.laid w) false (World.doorLaid Tryd.prog 4000 os) #[.agg #[.slice none 0 0, .slice none 0 0, .bool false], .slice none 0 0, .agg #[.int .i64 0, .int .i64 0, .slice none 0 0]] 8 rfl (World.shaped_of_RefB (by kernel_rfl) (by kernel_rfl)) (by kernel_rfl) (by kernel_rfl) (by kernel_rfl) (fnExactAllRunsHold_door os _)) ?_
 intro W base args ds gs before hval0 hW hcnd _ hL _
 have hval : ∀ (j : Nat) t v, Tryd.f4.params[j]? = some t → args[j]? = some v → Value.okWide Tryd.prog W .any base t v := hval0
 have hW' := hW
 obtain ⟨p, q, hA0, hV, rfl, hfz, hnd⟩ := hW
 have hA : DataW.TrodAll enc Tryd.prog W 0 (fun _ => true) true Tryd.f4.params.toList args.toList ds p := hA0
 rw [Tryd.params4] at hA hval
 obtain ⟨v0, vs0, d0, ds0, p0, q0, hargs, rfl, rfl, h0, r0⟩ := trodAll_cons hA
 obtain ⟨v1, vs1, d1, ds1, p1, q1, rfl, rfl, rfl, h1, r1⟩ := trodAll_cons r0
 obtain ⟨v2, vs2, d2, ds2, p2, q2, rfl, rfl, rfl, h2, r2⟩ := trodAll_cons r1
 obtain ⟨rfl, rfl, rfl⟩ := trodAll_nil r2
 obtain rfl : args = #[v0, v1, v2] := by cases args; simp_all
 obtain ⟨rfl, rfl⟩ := trodVars_none hV
 have k0 := h0
 have k1 := h1
 have k2 := h2
 have lt0 : ∀ x ∈ p0, x.block < W.heap.size := by obtain ⟨m, hm⟩ := k0; exact DataW.trod_lt m _ _ _ hm
 have lt1 : ∀ x ∈ p1, x.block < W.heap.size := by obtain ⟨m, hm⟩ := k1; exact DataW.trod_lt m _ _ _ hm
 have lt2 : ∀ x ∈ p2, x.block < W.heap.size := by obtain ⟨m, hm⟩ := k2; exact DataW.trod_lt m _ _ _ hm
 obtain ⟨m0, hm0⟩ := h0
 obtain ⟨m1, hm1⟩ := h1
 obtain ⟨m2, hm2⟩ := h2
 obtain ⟨c0, e0, _⟩ := okWide_struct Tryd.underlying25 (hval 0 25 v0 rfl rfl)
 have e1 : v1.cells = #[v1] := by
  obtain ⟨a1, len, cap, rfl⟩ := okWide_slice Tryd.underlying26 (hval 1 26 v1 rfl rfl)
  rfl
 obtain ⟨c2, e2, _⟩ := okWide_struct Tryd.underlying29 (hval 2 29 v2 rfl rfl)
 have l0 := Den.read_ty tmRuns_ok m0 25 (.n 3) _ _ rfl hm0
 have l1 := Den.read_ty tmRuns_ok m1 26 (.sl .i) _ _ rfl hm1
 have l2 := Den.read_ty tmRuns_ok m2 29 (.n 2) _ _ rfl hm2
 have f0 : ∃ (s : Den.I (.n 3)) (us : List Abs.V), Den.Fit (.n 3) s ∧ Den.ATR [] [] (.agg (Den.explode (.n 3) s)) (.agg us) ∧ Abs.AR [] (fun b => b < W.heap.size) W (.agg us) v0 := Den.arg_agg_fit l0 ⟨c0, e0⟩
 have f1 : ∃ (s : Den.I (.sl .i)) (x : Abs.V), Den.Fit (.sl .i) s ∧ Den.ATR [] [] (.one (.l .i s)) (.one x) ∧ Abs.AR [] (fun b => b < W.heap.size) W (.one x) v1 := Den.arg_one_fit l1 e1 (fun d => rfl)
 have f2 : ∃ (s : Den.I (.n 2)) (us : List Abs.V), Den.Fit (.n 2) s ∧ Den.ATR [] [] (.agg (Den.explode (.n 2) s)) (.agg us) ∧ Abs.AR [] (fun b => b < W.heap.size) W (.agg us) v2 := Den.arg_agg_fit l2 ⟨c2, e2⟩
 obtain ⟨s0, us0, fs0, t0, a0⟩ := f0
 obtain ⟨s1, us1, fs1, t1, a1⟩ := f1
 obtain ⟨s2, us2, fs2, t2, a2⟩ := f2
 clear hA0 hval0
 obtain ⟨g, hg, hl⟩ := Den.allRunsHold_law
 obtain ⟨r, hr, rfl⟩ := hl s0 s1 s2 fs0 fs1 fs2
 have hr2 : g s0 s1 (Fm.mk (Fm.kind s2) (Fm.prop s2) (Fm.kids s2)) = some true := (congrArg (g s0 s1) (Den.Fm.eta s2)).trans hr
 have hcfn : Den.CFn Tryd.prog 4 [.agg (Den.explode (.n 3) s0), .one (.l .i s1), .agg (Den.explode (.n 2) s2)] [] (.one (.b true)) [] := by
  obtain ⟨v, H', e, k⟩ := hg (Den.AT × List Den.Ob) [.agg (Den.explode (.n 3) s0), .one (.l .i s1), .agg (Den.explode (.n 2) s2)] [] (fun v H' => some (v, H')) _ (congrArg (fun o : Option Bool => o.bind fun r => some (Den.AT.one (.b r), ([] : List Den.Ob))) hr2)
  cases e
  exact k
 refine (Den.calls_law hcfn (Den.atrs_cons t0 (Den.atrs_cons t1 (Den.atrs_cons t2 Den.atrs_nil))) (Den.ars_cons a0 (Den.ars_cons a1 (Den.ars_cons a2 Den.ars_nil)))).mono fun e W' ⟨he, bel⟩ => ?_
 subst he
 exact ⟨_, rfl, _, _, _, [], _, [], hW', trodAll_mk1 (shut_bool Tryd.underlying4 _), (trodAll_cons_mk (Below.trod Tryd.laidOut (by kernel_rfl) (of_decide_eq_true (by kernel_rfl)) k0 bel lt0) (trodAll_cons_mk (Below.trod Tryd.laidOut (by kernel_rfl) (of_decide_eq_true (by kernel_rfl)) k1 bel lt1) (trodAll_cons_mk (Below.trod Tryd.laidOut (by kernel_rfl) (of_decide_eq_true (by kernel_rfl)) k2 bel lt2) trodAll_mk0))), rfl, bel.frame _, fun h => by cases h⟩
theorem fnExactSomeRunHolds_door (os : Os) (args : Array Value) : laidMetH Tryd.prog Rows.fnExactSomeRunHoldsRow.laid ((World.doorLaid Tryd.prog 4000 os).forCall (fun _ _ => 0) ⟨#[], args, []⟩).memory :=
 laidMetH_of_parts3 (fuel := 8) (laidMet_of_run' 8 (by kernel_rfl) (by kernel_rfl)) (by kernel_rfl) (by kernel_rfl)
set_option maxRecDepth 100000 in
theorem fnExactSomeRunHolds_lifted (os : Os) (started : os.Started) (H : Type) (enc : TypeId × Value → H) :
  ReturnsInHanded {} Tryd.checked os 5 .any (fun w args => (Rows.fnExactSomeRunHoldsSpec.pre enc Tryd.prog Tryd.f5 [] false w args ∧ laidMetH Tryd.prog Rows.fnExactSomeRunHoldsRow.laid w) ∧ sizedMet enc Tryd.prog Tryd.f5 (OpenSpec.ofChange Rows.fnExactSomeRunHoldsSpec) false w args)
   (Rows.fnExactSomeRunHoldsSpec.post enc Tryd.prog Tryd.f5 false true false false) := by
 refine returnsInHanded_of_change_and (C := Tryd.checked) (X := fun w _ => laidMetH Tryd.prog Rows.fnExactSomeRunHoldsRow.laid w) (fun _ _ _ hh h => h.of_heap hh) Tryd.own started (by kernel_rfl) Tryd.func5
  (ChangeSpec.witness_shaped (enc := enc) (C := Tryd.checked) (os := os) (X := fun w _ => laidMetH Tryd.prog Rows.fnExactSomeRunHoldsRow.laid w) false (World.doorLaid Tryd.prog 4000 os) #[.agg #[.slice none 0 0, .slice none 0 0, .bool false], .slice none 0 0, .agg #[.int .i64 0, .int .i64 0, .slice none 0 0]] 8 rfl (World.shaped_of_RefB (by kernel_rfl) (by kernel_rfl)) (by kernel_rfl) (by kernel_rfl) (by kernel_rfl) (fnExactSomeRunHolds_door os _)) ?_
 intro W base args ds gs before hval0 hW hcnd _ hL _
 have hval : ∀ (j : Nat) t v, Tryd.f5.params[j]? = some t → args[j]? = some v → Value.okWide Tryd.prog W .any base t v := hval0
 have hW' := hW
 obtain ⟨p, q, hA0, hV, rfl, hfz, hnd⟩ := hW
 have hA : DataW.TrodAll enc Tryd.prog W 0 (fun _ => true) true Tryd.f5.params.toList args.toList ds p := hA0
 rw [Tryd.params5] at hA hval
 obtain ⟨v0, vs0, d0, ds0, p0, q0, hargs, rfl, rfl, h0, r0⟩ := trodAll_cons hA
 obtain ⟨v1, vs1, d1, ds1, p1, q1, rfl, rfl, rfl, h1, r1⟩ := trodAll_cons r0
 obtain ⟨v2, vs2, d2, ds2, p2, q2, rfl, rfl, rfl, h2, r2⟩ := trodAll_cons r1
 obtain ⟨rfl, rfl, rfl⟩ := trodAll_nil r2
 obtain rfl : args = #[v0, v1, v2] := by cases args; simp_all
 obtain ⟨rfl, rfl⟩ := trodVars_none hV
 have k0 := h0
 have k1 := h1
 have k2 := h2
 have lt0 : ∀ x ∈ p0, x.block < W.heap.size := by obtain ⟨m, hm⟩ := k0; exact DataW.trod_lt m _ _ _ hm
 have lt1 : ∀ x ∈ p1, x.block < W.heap.size := by obtain ⟨m, hm⟩ := k1; exact DataW.trod_lt m _ _ _ hm
 have lt2 : ∀ x ∈ p2, x.block < W.heap.size := by obtain ⟨m, hm⟩ := k2; exact DataW.trod_lt m _ _ _ hm
 obtain ⟨m0, hm0⟩ := h0
 obtain ⟨m1, hm1⟩ := h1
 obtain ⟨m2, hm2⟩ := h2
 obtain ⟨c0, e0, _⟩ := okWide_struct Tryd.underlying25 (hval 0 25 v0 rfl rfl)
 have e1 : v1.cells = #[v1] := by
  obtain ⟨a1, len, cap, rfl⟩ := okWide_slice Tryd.underlying26 (hval 1 26 v1 rfl rfl)
  rfl
 obtain ⟨c2, e2, _⟩ := okWide_struct Tryd.underlying29 (hval 2 29 v2 rfl rfl)
 have l0 := Den.read_ty tmRuns_ok m0 25 (.n 3) _ _ rfl hm0
 have l1 := Den.read_ty tmRuns_ok m1 26 (.sl .i) _ _ rfl hm1
 have l2 := Den.read_ty tmRuns_ok m2 29 (.n 2) _ _ rfl hm2
 have f0 : ∃ (s : Den.I (.n 3)) (us : List Abs.V), Den.Fit (.n 3) s ∧ Den.ATR [] [] (.agg (Den.explode (.n 3) s)) (.agg us) ∧ Abs.AR [] (fun b => b < W.heap.size) W (.agg us) v0 := Den.arg_agg_fit l0 ⟨c0, e0⟩
 have f1 : ∃ (s : Den.I (.sl .i)) (x : Abs.V), Den.Fit (.sl .i) s ∧ Den.ATR [] [] (.one (.l .i s)) (.one x) ∧ Abs.AR [] (fun b => b < W.heap.size) W (.one x) v1 := Den.arg_one_fit l1 e1 (fun d => rfl)
 have f2 : ∃ (s : Den.I (.n 2)) (us : List Abs.V), Den.Fit (.n 2) s ∧ Den.ATR [] [] (.agg (Den.explode (.n 2) s)) (.agg us) ∧ Abs.AR [] (fun b => b < W.heap.size) W (.agg us) v2 := Den.arg_agg_fit l2 ⟨c2, e2⟩
 obtain ⟨s0, us0, fs0, t0, a0⟩ := f0
 obtain ⟨s1, us1, fs1, t1, a1⟩ := f1
 obtain ⟨s2, us2, fs2, t2, a2⟩ := f2
 clear hA0 hval0
 obtain ⟨g, hg, hl⟩ := Den.someRunHolds_law
 obtain ⟨r, hr, rfl⟩ := hl s0 s1 s2 fs0 fs1 fs2
 have hr2 : g s0 s1 (Fm.mk (Fm.kind s2) (Fm.prop s2) (Fm.kids s2)) = some true := (congrArg (g s0 s1) (Den.Fm.eta s2)).trans hr
 have hcfn : Den.CFn Tryd.prog 5 [.agg (Den.explode (.n 3) s0), .one (.l .i s1), .agg (Den.explode (.n 2) s2)] [] (.one (.b true)) [] := by
  obtain ⟨v, H', e, k⟩ := hg (Den.AT × List Den.Ob) [.agg (Den.explode (.n 3) s0), .one (.l .i s1), .agg (Den.explode (.n 2) s2)] [] (fun v H' => some (v, H')) _ (congrArg (fun o : Option Bool => o.bind fun r => some (Den.AT.one (.b r), ([] : List Den.Ob))) hr2)
  cases e
  exact k
 refine (Den.calls_law hcfn (Den.atrs_cons t0 (Den.atrs_cons t1 (Den.atrs_cons t2 Den.atrs_nil))) (Den.ars_cons a0 (Den.ars_cons a1 (Den.ars_cons a2 Den.ars_nil)))).mono fun e W' ⟨he, bel⟩ => ?_
 subst he
 exact ⟨_, rfl, _, _, _, [], _, [], hW', trodAll_mk1 (shut_bool Tryd.underlying4 _), (trodAll_cons_mk (Below.trod Tryd.laidOut (by kernel_rfl) (of_decide_eq_true (by kernel_rfl)) k0 bel lt0) (trodAll_cons_mk (Below.trod Tryd.laidOut (by kernel_rfl) (of_decide_eq_true (by kernel_rfl)) k1 bel lt1) (trodAll_cons_mk (Below.trod Tryd.laidOut (by kernel_rfl) (of_decide_eq_true (by kernel_rfl)) k2 bel lt2) trodAll_mk0))), rfl, bel.frame _, fun h => by cases h⟩
theorem fnExactSomeRunHolds_holds : Rows.FnExactSomeRunHoldsSaid :=
 OpenClaim.holds_of_wide 5 Tryd.f5 rfl rfl rfl rfl rfl rfl rfl ⟨rfl, rfl, rfl, rfl, rfl⟩ rfl rfl rfl rfl rfl (by kernel_rfl) Tryd.func5 (by kernel_rfl)
  (of_decide_eq_true (by kernel_rfl)) (by unfold Func.isWrapper; rw [if_neg (by decide +kernel)]; exact ⟨rfl, rfl⟩)
  (fun os started H enc _ => fnExactSomeRunHolds_lifted os started H enc)
theorem fnExactSomeRunHolds_card : Rows.FnExactSomeRunHoldsCardSaid :=
 Claim7.holds_tied_plain_at .later [] [.data, .data, .data] true (true, "2f5b324496a1b3f506762d45e8ed081554964ac07a5a75904071388516b70b90") false
  fnExactSomeRunHolds_holds (fun _ h => by cases h) (by kernel_rfl) (fun _ h => by cases h) fnExactSomeRunHolds_row_tie rfl ⟨rfl, rfl⟩ (by kernel_rfl) rfl
  (fun f fn hf hfn => by
   obtain rfl : f = 5 := Option.some.inj ((show Tryd.prog.funcNamed "loop.example/g03107/laws.FnExactSomeRunHolds" = some 5 by kernel_rfl).symm.trans hf) |>.symm
   obtain rfl : fn = Tryd.f5 := (Option.some.inj (Tryd.func5.symm.trans hfn)).symm
   exact ⟨by kernel_rfl, fun j t ht => by
    rw [Tryd.params5] at ht
    have h3 : t = 25 ∨ t = 26 ∨ t = 29 := by
     rcases j with _ | _ | _ | j
     ·exact .inl (by simpa using ht.symm)
     ·exact .inr (.inl (by simpa using ht.symm))
     ·exact .inr (.inr (by simpa using ht.symm))
     ·simp at ht
    rcases h3 with rfl | rfl | rfl
    ·exact (show Tryd.prog.wantsStandIn 25 = false by kernel_rfl)
    ·exact (show Tryd.prog.wantsStandIn 26 = false by kernel_rfl)
    ·exact (show Tryd.prog.wantsStandIn 29 = false by kernel_rfl)⟩)
  (by kernel_rfl)
end Go.Proofs.YtjafncnjefnloaaDoor

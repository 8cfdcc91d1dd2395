/-
  PROVED: for every formula that can be read, the law FnExactFormatFormula (the program's FormatFormula returns the text that the reference's returns, and leaves its argument as it was) returns true, and its argument reads afterwards as before; the listed package-level variables are tied to the program's text. No condition.
-/
import Derived.Test.YtagnfckihdlhpaaDoorTie
import Derived.Test.YtagnfckihdlhpaaDoorCards
import Derived.SevenTiedAt
import Derived.LaidMore
import Derived.LaidLaws
import Derived.Stop.Joined
import Derived.ChangeSame
import Derived.ChangeVars
import Derived.JoinedOf
import Derived.RowKit
import Derived.Test.YtagnfckihdlhpaaDoorZRowFmt11
import Derived.Test.YtagnfckihdlhpaaDoorZRowFmt17
namespace Go.Proofs.YtagnfckihdlhpaaDoor
open Go.ChangeShapes Go.WideShapes Go.ChangeAt Go.RowKit Go.Deep Go.Joins

def tmFmt : List (Nat × Den.Ty) := [(3, .i), (24, .n 2), (22, .sl (.n 2))]
theorem tmFmt_ok : Den.TMOK Tryd.prog tmFmt := by
  have h : (tmFmt.all fun p => Den.stepT Tryd.prog tmFmt p.1 p.2) = true := by kernel_rfl
  exact fun p hp => List.all_eq_true.1 h p hp

/-- The heap that the door's own run leaves meets the row's condition. -/
theorem fnExactFormatFormula_door (os : Os) (args : Array Value) : laidMetH Tryd.prog Rows.fnExactFormatFormulaRow.laid ((World.doorLaid Tryd.prog 4000 os).forCall (fun _ _ => 0) ⟨#[], args, []⟩).memory :=
  laidMetH_of_parts3 (fuel := 8) (laidMet_of_run' 8 (by kernel_rfl) (by kernel_rfl)) (by kernel_rfl) (by kernel_rfl)
set_option maxRecDepth 100000 in
theorem fnExactFormatFormula_lifted (os : Os) (started : os.Started) (H : Type) (enc : TypeId × Value → H) :
    ReturnsInHanded {} Tryd.checked os 3 .any (fun w args => (Rows.fnExactFormatFormulaSpec.pre enc Tryd.prog Tryd.f3 [] false w args ∧ laidMetH Tryd.prog Rows.fnExactFormatFormulaRow.laid w) ∧ sizedMet enc Tryd.prog Tryd.f3 (OpenSpec.ofChange Rows.fnExactFormatFormulaSpec) false w args)
      (Rows.fnExactFormatFormulaSpec.post enc Tryd.prog Tryd.f3 false true false false) := by
  refine returnsInHanded_of_change_and (C := Tryd.checked) (X := fun w _ => laidMetH Tryd.prog Rows.fnExactFormatFormulaRow.laid w) (fun _ _ _ hh h => h.of_heap hh) Tryd.own started (by kernel_rfl) Tryd.func3
    (ChangeSpec.witness_shaped (enc := enc) (C := Tryd.checked) (os := os) (X := fun w _ => laidMetH Tryd.prog Rows.fnExactFormatFormulaRow.laid w) false (World.doorLaid Tryd.prog 4000 os) #[.agg #[.int .i64 0, .int .i64 0, .slice none 0 0]] 8 rfl (World.shaped_of_RefB (by kernel_rfl) (by kernel_rfl)) (by kernel_rfl) (by kernel_rfl) (by kernel_rfl) (fnExactFormatFormula_door os _)) ?_
  intro W base args ds gs before hval0 hW hcnd _ hL _
  have hval : ∀ (j : Nat) t v, Tryd.f3.params[j]? = some t → args[j]? = some v → Value.okWide Tryd.prog W .any base t v := hval0
  have hW' := hW
  obtain ⟨p, q, hA0, hV, rfl, hfz, hnd⟩ := hW
  have hA : DataW.TrodAll enc Tryd.prog W 0 (fun _ => true) true Tryd.f3.params.toList args.toList ds p := hA0
  rw [Tryd.params3] at hA hval
  obtain ⟨v0, vs0, d0, ds0, p0, q0, hargs, rfl, rfl, h0, r0⟩ := trodAll_cons hA
  obtain ⟨rfl, rfl, rfl⟩ := trodAll_nil r0
  obtain rfl : args = #[v0] := by cases args; simp_all
  obtain ⟨rfl, rfl⟩ := trodVars_none hV
  have k0 := h0
  have lt0 : ∀ x ∈ p0, x.block < W.heap.size := by obtain ⟨m, hm⟩ := k0; exact DataW.trod_lt m _ _ _ hm
  obtain ⟨m0, hm0⟩ := h0
  obtain ⟨c0, e0, _⟩ := okWide_struct Tryd.underlying24 (hval 0 24 v0 rfl rfl)
  have l0 := Den.read_ty tmFmt_ok m0 24 (.n 2) _ _ rfl hm0
  have f0 : ∃ (s : Den.I (.n 2)) (us : List Abs.V), Den.Fit (.n 2) s ∧ Den.ATR [] [] (.agg (Den.explode (.n 2) s)) (.agg us) ∧ Abs.AR [] (fun b => b < W.heap.size) W (.agg us) v0 := Den.arg_agg_fit l0 ⟨c0, e0⟩
  obtain ⟨s, us, fs, t0, a0⟩ := f0
  clear hA0 hval0
  obtain ⟨g, hg, hl⟩ := Den.formatFormula_law
  obtain ⟨r, hr, rfl⟩ := hl s fs
  have hr2 : g (Fm.mk (Fm.kind s) (Fm.prop s) (Fm.kids s)) = some true := (congrArg g (Den.Fm.eta s)).trans hr
  have hcfn : Den.CFn Tryd.prog 3 [.agg (Den.explode (.n 2) s)] [] (.one (.b true)) [] := by
    obtain ⟨v, H', e, k⟩ := hg (Den.AT × List Den.Ob) [.agg (Den.explode (.n 2) s)] [] (fun v H' => some (v, H')) _ (congrArg (fun o : Option Bool => o.bind fun r => some (Den.AT.one (.b r), ([] : List Den.Ob))) hr2)
    cases e
    exact k
  refine (Den.calls_law hcfn (Den.atrs_cons t0 Den.atrs_nil) (Den.ars_cons a0 Den.ars_nil)).mono fun e W' ⟨he, bel⟩ => ?_
  subst he
  exact ⟨_, rfl, _, _, _, [], _, [], hW', trodAll_mk1 (shut_bool Tryd.underlying4 _), (trodAll_cons_mk (Below.trod Tryd.laidOut (by kernel_rfl) (of_decide_eq_true (by kernel_rfl)) k0 bel lt0) trodAll_mk0), rfl, bel.frame _, fun h => by cases h⟩

theorem fnExactFormatFormula_holds : Rows.FnExactFormatFormulaSaid :=
  OpenClaim.holds_of_wide 3 Tryd.f3 rfl rfl rfl rfl rfl rfl rfl ⟨rfl, rfl, rfl, rfl, rfl⟩ rfl rfl rfl rfl rfl (by kernel_rfl) Tryd.func3 (by kernel_rfl)
    (of_decide_eq_true (by kernel_rfl)) (by unfold Func.isWrapper; rw [if_neg (by decide +kernel)]; exact ⟨rfl, rfl⟩)
    (fun os started H enc _ => fnExactFormatFormula_lifted os started H enc)

theorem fnExactFormatFormula_card : Rows.FnExactFormatFormulaCardSaid :=
  Claim7.holds_tied_plain_at .later [] [.data, .data, .data] true (true, "3faefea9e3c834ebb641557e9bcaee73c01ad3fe63b501473b1116cada766cb2") false
    fnExactFormatFormula_holds (fun _ h => by cases h) (by kernel_rfl) (fun _ h => by cases h) fnExactFormatFormula_row_tie rfl ⟨rfl, rfl⟩ (by kernel_rfl) rfl
    (fun f fn hf hfn => by
      obtain rfl : f = 3 := Option.some.inj ((show Tryd.prog.funcNamed "loop.example/g03107/laws.FnExactFormatFormula" = some 3 by kernel_rfl).symm.trans hf) |>.symm
      obtain rfl : fn = Tryd.f3 := (Option.some.inj (Tryd.func3.symm.trans hfn)).symm
      exact ⟨by kernel_rfl, fun j t ht => by
        rw [Tryd.params3] at ht
        have h3 : t = 24 := by
          rcases j with _ | j
          · simpa using ht.symm
          · simp at ht
        subst h3
        exact (show Tryd.prog.wantsStandIn 24 = false by kernel_rfl)⟩)
    (by kernel_rfl)

end Go.Proofs.YtagnfckihdlhpaaDoor

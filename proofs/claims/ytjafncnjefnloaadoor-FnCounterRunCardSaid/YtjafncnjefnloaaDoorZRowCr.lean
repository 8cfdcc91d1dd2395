import Derived.Test.YtjafncnjefnloaaDoorTie
import Derived.Test.YtjafncnjefnloaaDoorCards
import Derived.SevenTiedAt
import Derived.LaidMore
import Derived.LaidLaws
import Derived.Stop.Joined
import Derived.ChangeSame
import Derived.ChangeVars
import Derived.JoinedOf
import Derived.RowKit
import Derived.Test.YtjafncnjefnloaaDoorZRowCr13
import Derived.Test.YtjafncnjefnloaaDoorZRowCr30
namespace Go.Proofs.YtjafncnjefnloaaDoor
open Go.ChangeShapes Go.WideShapes Go.ChangeAt Go.RowKit Go.Deep Go.Joins
def tmBytes : List (Nat × Den.Ty) := [(5, .u), (57, .sl .u)]
theorem tmBytes_ok : Den.TMOK Tryd.prog tmBytes := by
 have h : (tmBytes.all fun p => Den.stepT Tryd.prog tmBytes p.1 p.2) = true := by kernel_rfl
 exact fun p hp => List.all_eq_true.1 h p hp
theorem fnCounterRun_door (os : Os) (args : Array Value) : laidMetH Tryd.prog Rows.fnCounterRunRow.laid ((World.doorLaid Tryd.prog 4000 os).forCall (fun _ _ => 0) ⟨#[], args, []⟩).memory :=
 laidMetH_of_parts3 (fuel := 8) (laidMet_of_run' 8 (by kernel_rfl) (by kernel_rfl)) (by kernel_rfl) (by kernel_rfl)
set_option maxRecDepth 100000 in
theorem fnCounterRun_lifted (os : Os) (started : os.Started) (H : Type) (enc : TypeId × Value → H) :
  ReturnsInHanded {} Tryd.checked os 7 .any (fun w args => (Rows.fnCounterRunSpec.pre enc Tryd.prog Tryd.f7 [] false w args ∧ laidMetH Tryd.prog Rows.fnCounterRunRow.laid w) ∧ sizedMet enc Tryd.prog Tryd.f7 (OpenSpec.ofChange Rows.fnCounterRunSpec) false w args)
   (Rows.fnCounterRunSpec.post enc Tryd.prog Tryd.f7 false true false false) := by
 refine returnsInHanded_of_change_and (C := Tryd.checked) (X := fun w _ => laidMetH Tryd.prog Rows.fnCounterRunRow.laid w) (fun _ _ _ hh h => h.of_heap hh) Tryd.own started (by kernel_rfl) Tryd.func7
  (ChangeSpec.witness_shaped (enc := enc) (C := Tryd.checked) (os := os) (X := fun w _ => laidMetH Tryd.prog Rows.fnCounterRunRow.laid w) false (World.doorLaid Tryd.prog 4000 os) #[.slice none 0 0] 8 rfl (World.shaped_of_RefB (by kernel_rfl) (by kernel_rfl)) (by kernel_rfl) (by kernel_rfl) (by kernel_rfl) (fnCounterRun_door os _)) ?_
 intro W base args ds gs before hval0 hW hcnd _ hL _
 have hval : ∀ (j : Nat) t v, Tryd.f7.params[j]? = some t → args[j]? = some v → Value.okWide Tryd.prog W .any base t v := hval0
 have hW' := hW
 obtain ⟨p, q, hA0, hV, rfl, hfz, hnd⟩ := hW
 have hA : DataW.TrodAll enc Tryd.prog W 0 (fun _ => true) true Tryd.f7.params.toList args.toList ds p := hA0
 rw [Tryd.params7] at hA hval
 obtain ⟨v0, vs0, d0, ds0, p0, q0, hargs, rfl, rfl, h0, r0⟩ := trodAll_cons hA
 obtain ⟨rfl, rfl, rfl⟩ := trodAll_nil r0
 obtain rfl : args = #[v0] := by cases args; simp_all
 obtain ⟨rfl, rfl⟩ := trodVars_none hV
 have k0 := h0
 have lt0 : ∀ x ∈ p0, x.block < W.heap.size := by obtain ⟨m, hm⟩ := k0; exact DataW.trod_lt m _ _ _ hm
 obtain ⟨m0, hm0⟩ := h0
 have e0 : v0.cells = #[v0] := by
  obtain ⟨a1, len, cap, rfl⟩ := okWide_slice Tryd.underlying57 (hval 0 57 v0 rfl rfl)
  rfl
 have l0 := Den.read_ty tmBytes_ok m0 57 (.sl .u) _ _ rfl hm0
 have f0 : ∃ (s : Den.I (.sl .u)) (x : Abs.V), Den.Fit (.sl .u) s ∧ Den.ATR [] [] (.one (.l .u s)) (.one x) ∧ Abs.AR [] (fun b => b < W.heap.size) W (.one x) v0 := Den.arg_one_fit l0 e0 (fun d => rfl)
 obtain ⟨s, x, fs, t0, a0⟩ := f0
 clear hA0 hval0
 obtain ⟨g, hg, hl⟩ := Den.counterRun_law
 obtain ⟨r, hr, rfl⟩ := hl s fs
 have hcfn : Den.CFn Tryd.prog 7 [.one (.l .u s)] [] (.one (.b true)) [] := by
  obtain ⟨v, H', e, k⟩ := hg (Den.AT × List Den.Ob) [.one (.l .u s)] [] (fun v H' => some (v, H')) _ (congrArg (fun o : Option Bool => o.bind fun r => some (Den.AT.one (.b r), ([] : List Den.Ob))) hr)
  cases e
  exact k
 refine (Den.calls_law hcfn (Den.atrs_cons t0 Den.atrs_nil) (Den.ars_cons a0 Den.ars_nil)).mono fun e W' ⟨he, bel⟩ => ?_
 subst he
 exact ⟨_, rfl, _, _, _, [], _, [], hW', trodAll_mk1 (shut_bool Tryd.underlying4 _), (trodAll_cons_mk (Below.trod Tryd.laidOut (by kernel_rfl) (of_decide_eq_true (by kernel_rfl)) k0 bel lt0) trodAll_mk0), rfl, bel.frame _, fun h => by cases h⟩
theorem fnCounterRun_holds : Rows.FnCounterRunSaid :=
 OpenClaim.holds_of_wide 7 Tryd.f7 rfl rfl rfl rfl rfl rfl rfl ⟨rfl, rfl, rfl, rfl, rfl⟩ rfl rfl rfl rfl rfl (by kernel_rfl) Tryd.func7 (by kernel_rfl)
  (of_decide_eq_true (by kernel_rfl)) (by unfold Func.isWrapper; rw [if_neg (by decide +kernel)]; exact ⟨rfl, rfl⟩)
  (fun os started H enc _ => fnCounterRun_lifted os started H enc)
theorem fnCounterRun_card : Rows.FnCounterRunCardSaid :=
 Claim7.holds_tied_plain_at .later [] [.data, .data, .data] true (true, "2f5b324496a1b3f506762d45e8ed081554964ac07a5a75904071388516b70b90") false
  fnCounterRun_holds (fun _ h => by cases h) (by kernel_rfl) (fun _ h => by cases h) fnCounterRun_row_tie rfl ⟨rfl, rfl⟩ (by kernel_rfl) rfl
  (fun f fn hf hfn => by
   obtain rfl : f = 7 := Option.some.inj ((show Tryd.prog.funcNamed "loop.example/g03107/laws.FnCounterRun" = some 7 by kernel_rfl).symm.trans hf) |>.symm
   obtain rfl : fn = Tryd.f7 := (Option.some.inj (Tryd.func7.symm.trans hfn)).symm
   exact ⟨by kernel_rfl, fun j t ht => by
    rw [Tryd.params7] at ht
    have h3 : t = 57 := by
     rcases j with _ | j
     ·simpa using ht.symm
     ·simp at ht
    subst h3
    exact (show Tryd.prog.wantsStandIn 57 = false by kernel_rfl)⟩)
  (by kernel_rfl)
end Go.Proofs.YtjafncnjefnloaaDoor

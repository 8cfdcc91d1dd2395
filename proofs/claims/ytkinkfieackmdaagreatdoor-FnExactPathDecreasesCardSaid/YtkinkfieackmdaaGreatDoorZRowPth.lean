import Derived.Test.YtkinkfieackmdaaGreatDoorTie
import Derived.Test.YtkinkfieackmdaaGreatDoorCards
import Derived.SevenTiedAt
import Derived.LaidMore
import Derived.LaidLaws
import Derived.Stop.Joined
import Derived.ChangeSame
import Derived.ChangeVars
import Derived.JoinedOf
import Derived.RowKit
import Derived.Test.YtkinkfieackmdaaGreatDoorZRowPth12
import Derived.Test.YtkinkfieackmdaaGreatDoorZRowPth37
namespace Go.Proofs.YtkinkfieackmdaaGreatDoor
open Go.ChangeShapes Go.WideShapes Go.ChangeAt Go.RowKit Go.Deep Go.Joins
def tmPth : List (Nat × Den.Ty) := [(3, .i), (4, .b), (9, .s), (32, .sl .i), (22, .sl .s), (162, .n 5), (23, .sl (.n 5)), (25, .n 6), (176, .n 7), (106, .sl (.n 7)), (108, .n 8), (26, .sl (.n 8)), (28, .n 9), (77, .n 1), (75, .sl (.n 1)), (150, .n 13), (78, .sl (.n 13)), (80, .n 14), (29, .sl (.n 14)), (31, .n 15)]
theorem tmPth_ok : Den.TMOK Tryz.prog tmPth := by
 have h : (tmPth.all fun p => Den.kV Tryz.prog tmPth p.1 p.2) = true := by kernel_rfl
 exact fun p hp => List.all_eq_true.1 h p hp
theorem fnExactPathDecreases_door (os : Os) (args : Array Value) : laidMetH Tryz.prog Rows.fnExactPathDecreasesRow.laid ((World.doorLaid Tryz.prog 4000 os).forCall (fun _ _ => 0) ⟨#[], args, []⟩).memory :=
 laidMetH_of_parts3 (fuel := 8) (laidMet_of_run' 8 (by kernel_rfl) (by kernel_rfl)) (by kernel_rfl) (by kernel_rfl)
set_option maxRecDepth 100000 in
theorem fnExactPathDecreases_lifted (os : Os) (started : os.Started) (H : Type) (enc : TypeId × Value → H) :
  ReturnsInHanded {} Tryz.checked os 3 .any (fun w args => (Rows.fnExactPathDecreasesSpec.pre enc Tryz.prog Tryz.f3 [] false w args ∧ laidMetH Tryz.prog Rows.fnExactPathDecreasesRow.laid w) ∧ sizedMet enc Tryz.prog Tryz.f3 (OpenSpec.ofChange Rows.fnExactPathDecreasesSpec) false w args)
   (Rows.fnExactPathDecreasesSpec.post enc Tryz.prog Tryz.f3 false true false false) := by
 refine returnsInHanded_of_change_and (C := Tryz.checked) (X := fun w _ => laidMetH Tryz.prog Rows.fnExactPathDecreasesRow.laid w) (fun _ _ _ hh h => h.of_heap hh) Tryz.own started (by kernel_rfl) Tryz.func3
  (ChangeSpec.witness_shaped (enc := enc) (C := Tryz.checked) (os := os) (X := fun w _ => laidMetH Tryz.prog Rows.fnExactPathDecreasesRow.laid w) false (World.doorLaid Tryz.prog 4000 os) #[.agg #[.slice none 0 0, .slice none 0 0, .slice none 0 0, .slice none 0 0, .slice none 0 0], .slice none 0 0] 8 rfl (World.shaped_of_RefB (by kernel_rfl) (by kernel_rfl)) (by kernel_rfl) (by kernel_rfl) (by kernel_rfl) (fnExactPathDecreases_door os _)) ?_
 intro W base args ds gs before hval0 hW hcnd _ hL _
 have hval : ∀ (j : Nat) t v, Tryz.f3.params[j]? = some t → args[j]? = some v → Value.okWide Tryz.prog W .any base t v := hval0
 have hW' := hW
 obtain ⟨p, q, hA0, hV, rfl, hfz, hnd⟩ := hW
 have hA : DataW.TrodAll enc Tryz.prog W 0 (fun _ => true) true Tryz.f3.params.toList args.toList ds p := hA0
 rw [Tryz.params3] at hA hval
 obtain ⟨v0, vs0, d0, ds0, p0, q0, hargs, rfl, rfl, h0, r0⟩ := trodAll_cons hA
 obtain ⟨v1, vs1, d1, ds1, p1, q1, rfl, rfl, rfl, h1, r1⟩ := trodAll_cons r0
 obtain ⟨rfl, rfl, rfl⟩ := trodAll_nil r1
 obtain rfl : args = #[v0, v1] := by cases args; simp_all
 obtain ⟨rfl, rfl⟩ := trodVars_none hV
 have k0 := h0
 have k1 := h1
 have lt0 : ∀ x ∈ p0, x.block < W.heap.size := by obtain ⟨m, hm⟩ := k0; exact DataW.trod_lt m _ _ _ hm
 have lt1 : ∀ x ∈ p1, x.block < W.heap.size := by obtain ⟨m, hm⟩ := k1; exact DataW.trod_lt m _ _ _ hm
 obtain ⟨m0, hm0⟩ := h0
 obtain ⟨m1, hm1⟩ := h1
 obtain ⟨c0, e0, _⟩ := okWide_struct Tryz.underlying31 (hval 0 31 v0 rfl rfl)
 have e1 : v1.cells = #[v1] := by
  obtain ⟨a1, len, cap, rfl⟩ := okWide_slice Tryz.underlying32 (hval 1 32 v1 rfl rfl)
  rfl
 have l0 := Den.vD tmPth_ok m0 31 (.n 15) _ _ rfl hm0
 have l1 := Den.vD tmPth_ok m1 32 (.sl .i) _ _ rfl hm1
 have f0 : ∃ (s : Den.I (.n 15)) (us : List Abs.V), Den.Fit (.n 15) s ∧ Den.ATR [] [] (.agg (Den.aj (.n 15) s)) (.agg us) ∧ Abs.AR [] (fun b => b < W.heap.size) W (.agg us) v0 := Den.rg l0 ⟨c0, e0⟩
 have f1 : ∃ (s : Den.I (.sl .i)) (x : Abs.V), Den.Fit (.sl .i) s ∧ Den.ATR [] [] (.one (.l .i s)) (.one x) ∧ Abs.AR [] (fun b => b < W.heap.size) W (.one x) v1 := Den.rl l1 e1 (fun d => rfl)
 obtain ⟨s, us, fs, t0, a0⟩ := f0
 obtain ⟨cs, x, fc, t1, a1⟩ := f1
 clear hA0 hval0
 obtain ⟨g, hg, hl⟩ := Den.Be
 obtain ⟨r, hr, rfl⟩ := hl s cs ⟨fs, fc⟩
 have hcfn : Den.CFn Tryz.prog 3 [.agg (Den.aj (.n 15) s), .one (.l .i cs)] [] (.one (.b true)) [] := by
  obtain ⟨v, H', e, k⟩ := hg (Den.AT × List Den.Ob) [.agg (Den.aj (.n 15) s), .one (.l .i cs)] [] (fun v H' => some (v, H')) _ (show (g s cs).bind (fun r => some (Den.AT.one (.b r), ([] : List Den.Ob))) = some (Den.AT.one (.b true), []) by rw [hr]; rfl)
  cases e
  exact k
 refine (Den.xN hcfn (Den.om t0 (Den.om t1 Den.zH)) (Den.qA a0 (Den.qA a1 Den.C2))).mono fun e W' ⟨he, bel⟩ => ?_
 subst he
 exact ⟨_, rfl, _, _, _, [], _, [], hW', trodAll_mk1 (shut_bool Tryz.underlying4 _), (trodAll_cons_mk (Below.trod Tryz.laidOut (by kernel_rfl) (of_decide_eq_true (by kernel_rfl)) k0 bel lt0) (trodAll_cons_mk (Below.trod Tryz.laidOut (by kernel_rfl) (of_decide_eq_true (by kernel_rfl)) k1 bel lt1) trodAll_mk0)), rfl, bel.frame _, fun h => by cases h⟩
theorem fnExactPathDecreases_holds : Rows.FnExactPathDecreasesSaid :=
 OpenClaim.holds_of_wide 3 Tryz.f3 rfl rfl rfl rfl rfl rfl rfl ⟨rfl, rfl, rfl, rfl, rfl⟩ rfl rfl rfl rfl rfl (by kernel_rfl) Tryz.func3 (by kernel_rfl)
  (of_decide_eq_true (by kernel_rfl)) (by unfold Func.isWrapper; rw [if_neg (by decide +kernel)]; exact ⟨rfl, rfl⟩)
  (fun os started H enc _ => fnExactPathDecreases_lifted os started H enc)
theorem fnExactPathDecreases_card : Rows.FnExactPathDecreasesCardSaid :=
 Claim7.holds_tied_plain_at .later [] [.data, .data, .data] true (true, "55a62c6a2098c7b170f84c92793c8ab6538007f91f0a63aad5ad90016af95258") false
  fnExactPathDecreases_holds (fun _ h => by cases h) (by kernel_rfl) (fun _ h => by cases h) fnExactPathDecreases_row_tie rfl ⟨rfl, rfl⟩ (by kernel_rfl) rfl
  (fun f fn hf hfn => by
   obtain rfl : f = 3 := Option.some.inj ((show Tryz.prog.funcNamed "loop.example/g03107/laws.FnExactPathDecreases" = some 3 by kernel_rfl).symm.trans hf) |>.symm
   obtain rfl : fn = Tryz.f3 := (Option.some.inj (Tryz.func3.symm.trans hfn)).symm
   exact ⟨by kernel_rfl, fun j t ht => by
    rw [Tryz.params3] at ht
    have h3 : t = 31 ∨ t = 32 := by
     rcases j with _ | _ | j
     ·exact .inl (by simpa using ht.symm)
     ·exact .inr (by simpa using ht.symm)
     ·simp at ht
    rcases h3 with rfl | rfl
    ·exact (show Tryz.prog.wantsStandIn 31 = false by kernel_rfl)
    ·exact (show Tryz.prog.wantsStandIn 32 = false by kernel_rfl)⟩)
  (by kernel_rfl)
end Go.Proofs.YtkinkfieackmdaaGreatDoor

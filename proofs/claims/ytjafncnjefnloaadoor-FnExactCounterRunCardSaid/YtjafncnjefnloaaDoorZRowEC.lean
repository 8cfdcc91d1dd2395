import Derived.Test.YtjafncnjefnloaaDoorTie
import Derived.Test.YtjafncnjefnloaaDoorCards
import Derived.SevenTiedAt
import Derived.LaidMore
import Derived.LaidLaws
import Derived.Stop.Joined
import Derived.ChangeSame
import Derived.ChangeVars
import Derived.JoinedOf
import Derived.RowKit
import Derived.Test.YtjafncnjefnloaaDoorZRowEC5
import Derived.Test.YtjafncnjefnloaaDoorZRowEC39
import Derived.Test.YtjafncnjefnloaaDoorZRowEC40
namespace Go.Proofs.YtjafncnjefnloaaDoor
open Go.ChangeShapes Go.WideShapes Go.ChangeAt Go.RowKit Go.Deep Go.Joins
theorem cnt_both (g : Gr) (ls : List Int) (f : Fm) (most : Int) (hk : (Lit.int .i64 f.kind).wf = true) (hp : (Lit.int .i64 f.prop).wf = true) (hm : (Lit.int .i64 most).wf = true) :
  ∃ xs back ok, xs.length ≤ 1000 ∧ (g.total + f.total ≤ 1048576 → ls.length ≤ 1048576 → SpecC g f ls most xs back ok ∧ ImplC g f ls most xs back ok) := by
 refine ⟨(Den.cntF ⟨g.states, g.edges, g.whole⟩ ls f most).1.states, (Den.cntF ⟨g.states, g.edges, g.whole⟩ ls f most).1.back, (Den.cntF ⟨g.states, g.edges, g.whole⟩ ls f most).2, Nat.le_trans (Den.cntF_len ⟨g.states, g.edges, g.whole⟩ ls f most) (by omega), fun h1 h2 => ?_⟩
 unfold Gr.total at h1
 have hsm : Den.smallA ⟨g.states, g.edges, g.whole⟩ ls f := Den.small_at (g := ⟨g.states, g.edges, g.whole⟩) (by simp only; omega) h2 (by omega)
 exact ⟨fun w J v u lv fv hJ a b c d => Den.spec_cnt hsm hJ a b c d hk hp hm, fun w v u lv fv a b c d => Den.impl_cnt hsm (J := Old w) (fun _ hb => hb) a.old b.old c.old d.old hk hp hm⟩
theorem fnExactCounterRun_door (os : Os) (args : Array Value) : laidMetH Tryd.prog Rows.fnExactCounterRunRow.laid ((World.doorLaid Tryd.prog 4000 os).forCall (fun _ _ => 0) ⟨#[], args, []⟩).memory :=
 laidMetH_of_parts3 (fuel := 8) (laidMet_of_run' 8 (by kernel_rfl) (by kernel_rfl)) (by kernel_rfl) (by kernel_rfl)
set_option maxRecDepth 100000 in
theorem fnExactCounterRun_lifted (os : Os) (started : os.Started) (H : Type) (enc : TypeId × Value → H) :
  ReturnsInHanded {} Tryd.checked os 3 .any (fun w args => (Rows.fnExactCounterRunSpec.pre enc Tryd.prog Tryd.f3 [] false w args ∧ laidMetH Tryd.prog Rows.fnExactCounterRunRow.laid w) ∧ sizedMet enc Tryd.prog Tryd.f3 (OpenSpec.ofChange Rows.fnExactCounterRunSpec) false w args)
   (Rows.fnExactCounterRunSpec.post enc Tryd.prog Tryd.f3 false true false false) := by
 refine returnsInHanded_of_change_and (C := Tryd.checked) (X := fun w _ => laidMetH Tryd.prog Rows.fnExactCounterRunRow.laid w) (fun _ _ _ hh h => h.of_heap hh) Tryd.own started (by kernel_rfl) Tryd.func3
  (ChangeSpec.witness_shaped (enc := enc) (C := Tryd.checked) (os := os) (X := fun w _ => laidMetH Tryd.prog Rows.fnExactCounterRunRow.laid w) false (World.doorLaid Tryd.prog 4000 os) #[.agg #[.slice none 0 0, .slice none 0 0, .bool false], .slice none 0 0, .agg #[.int .i64 0, .int .i64 0, .slice none 0 0], .int .i64 0] 8 rfl (World.shaped_of_RefB (by kernel_rfl) (by kernel_rfl)) (by kernel_rfl) (by kernel_rfl) (by kernel_rfl) (fnExactCounterRun_door os _)) ?_
 intro W base args ds gs before hval0 hW hcnd _ hL _
 have hval : ∀ (j : Nat) t v, Tryd.f3.params[j]? = some t → args[j]? = some v → Value.okWide Tryd.prog W .any base t v := hval0
 have hW' := hW
 obtain ⟨p, q, hA0, hV, rfl, hfz, hnd⟩ := hW
 have hA : DataW.TrodAll enc Tryd.prog W 0 (fun _ => true) true Tryd.f3.params.toList args.toList ds p := hA0
 rw [Tryd.params3] at hA hval
 obtain ⟨v0, vs0, d0, ds0, p0, q0, hargs, rfl, rfl, h0, r0⟩ := trodAll_cons hA
 obtain ⟨v1, vs1, d1, ds1, p1, q1, rfl, rfl, rfl, h1, r1⟩ := trodAll_cons r0
 obtain ⟨v2, vs2, d2, ds2, p2, q2, rfl, rfl, rfl, h2, r2⟩ := trodAll_cons r1
 obtain ⟨v3, vs3, d3, ds3, p3, q3, rfl, rfl, rfl, h3, r3⟩ := trodAll_cons r2
 obtain ⟨rfl, rfl, rfl⟩ := trodAll_nil r3
 obtain rfl : args = #[v0, v1, v2, v3] := by cases args; simp_all
 obtain ⟨rfl, rfl⟩ := trodVars_none hV
 have k0 := h0
 have k1 := h1
 have k2 := h2
 have k3 := h3
 have lt0 : ∀ x ∈ p0, x.block < W.heap.size := by obtain ⟨m, hm⟩ := k0; exact DataW.trod_lt m _ _ _ hm
 have lt1 : ∀ x ∈ p1, x.block < W.heap.size := by obtain ⟨m, hm⟩ := k1; exact DataW.trod_lt m _ _ _ hm
 have lt2 : ∀ x ∈ p2, x.block < W.heap.size := by obtain ⟨m, hm⟩ := k2; exact DataW.trod_lt m _ _ _ hm
 have lt3 : ∀ x ∈ p3, x.block < W.heap.size := by obtain ⟨m, hm⟩ := k3; exact DataW.trod_lt m _ _ _ hm
 obtain ⟨c0, c1, c2, y0, y1, y2, m, rfl, rfl, rfl, hy0, hy1, hy2⟩ := open_agg3 Tryd.underlying25 (by kernel_rfl) (by kernel_rfl) (hval 0 25 v0 rfl rfl) h0
 obtain ⟨ts, ha⟩ := read_terms hy0
 obtain ⟨xss, hk⟩ := read_rows hy1
 obtain ⟨b, e2, _⟩ := DataW.trod_bool Tryd.underlying4 hy2
 simp at e2
 subst e2
 obtain ⟨a1, len1, cap1, rfl⟩ := okWide_slice Tryd.underlying26 (hval 1 26 v1 rfl rfl)
 obtain ⟨ls, hl⟩ : ∃ ls, At W Any (ints ls) (.slice a1 len1 cap1) := by
  obtain ⟨fuel, hf⟩ := h1
  exact read_ints (by simpa [Value.cells] using hf)
 obtain ⟨c5, c6, c7, y5, y6, y7, m', rfl, rfl, rfl, hy5, hy6, hy7⟩ := open_agg3 Tryd.underlying29 (by kernel_rfl) (by kernel_rfl) (hval 2 29 v2 rfl rfl) h2
 obtain ⟨kd, rfl, wk⟩ := read_int hy5
 obtain ⟨pr, rfl, wp⟩ := read_int hy6
 obtain ⟨kids, hf⟩ := read_forms hy7
 obtain ⟨most, rfl⟩ := okWide_int Tryd.underlying3 (hval 3 3 v3 rfl rfl)
 have wm : (Lit.int .i64 most).wf = true := by
  obtain ⟨fuel, hf⟩ := h3
  obtain ⟨n, e, hb⟩ := read_int (v := .int .i64 most) (by simpa [Value.cells] using hf)
  cases e
  exact WalkArith.wf_i64 hb
 clear hA0 hval0
 obtain ⟨xs, back, ok, hx, hc⟩ := cnt_both ⟨ts, xss, b⟩ ls ⟨kd, pr, kids⟩ most (WalkArith.wf_i64 wk) (WalkArith.wf_i64 wp) wm
 refine (fnExactCounterRun_any ⟨ts, xss, b⟩ ls ⟨kd, pr, kids⟩ most xs back ok hc hx W _ _ _ _ ha hk hl hf).mono fun e W' ⟨he, bel⟩ => ?_
 subst he
 exact ⟨_, rfl, _, _, _, [], _, [], hW', trodAll_mk1 (shut_bool Tryd.underlying4 _), (trodAll_cons_mk (Below.trod Tryd.laidOut (by kernel_rfl) (of_decide_eq_true (by kernel_rfl)) k0 bel lt0) (trodAll_cons_mk (Below.trod Tryd.laidOut (by kernel_rfl) (of_decide_eq_true (by kernel_rfl)) k1 bel lt1) (trodAll_cons_mk (Below.trod Tryd.laidOut (by kernel_rfl) (of_decide_eq_true (by kernel_rfl)) k2 bel lt2) (trodAll_cons_mk (Below.trod Tryd.laidOut (by kernel_rfl) (of_decide_eq_true (by kernel_rfl)) k3 bel lt3) trodAll_mk0)))), rfl, bel.frame _, fun h => by cases h⟩
theorem fnExactCounterRun_holds : Rows.FnExactCounterRunSaid :=
 OpenClaim.holds_of_wide 3 Tryd.f3 rfl rfl rfl rfl rfl rfl rfl ⟨rfl, rfl, rfl, rfl, rfl⟩ rfl rfl rfl rfl rfl (by kernel_rfl) Tryd.func3 (by kernel_rfl)
  (of_decide_eq_true (by kernel_rfl)) (by unfold Func.isWrapper; rw [if_neg (by decide +kernel)]; exact ⟨rfl, rfl⟩)
  (fun os started H enc _ => fnExactCounterRun_lifted os started H enc)
theorem fnExactCounterRun_card : Rows.FnExactCounterRunCardSaid :=
 Claim7.holds_tied_plain_at .later [] [.data, .data, .data] true (true, "2f5b324496a1b3f506762d45e8ed081554964ac07a5a75904071388516b70b90") false
  fnExactCounterRun_holds (fun _ h => by cases h) (by kernel_rfl) (fun _ h => by cases h) fnExactCounterRun_row_tie rfl ⟨rfl, rfl⟩ (by kernel_rfl) rfl
  (fun f fn hf hfn => by
   obtain rfl : f = 3 := Option.some.inj ((show Tryd.prog.funcNamed "loop.example/g03107/laws.FnExactCounterRun" = some 3 by kernel_rfl).symm.trans hf) |>.symm
   obtain rfl : fn = Tryd.f3 := (Option.some.inj (Tryd.func3.symm.trans hfn)).symm
   exact ⟨by kernel_rfl, fun j t ht => by
    rw [Tryd.params3] at ht
    have h3 : t = 25 ∨ t = 26 ∨ t = 29 ∨ t = 3 := by
     rcases j with _ | _ | _ | _ | j
     ·exact .inl (by simpa using ht.symm)
     ·exact .inr (.inl (by simpa using ht.symm))
     ·exact .inr (.inr (.inl (by simpa using ht.symm)))
     ·exact .inr (.inr (.inr (by simpa using ht.symm)))
     ·simp at ht
    rcases h3 with rfl | rfl | rfl | rfl
    ·exact (show Tryd.prog.wantsStandIn 25 = false by kernel_rfl)
    ·exact (show Tryd.prog.wantsStandIn 26 = false by kernel_rfl)
    ·exact (show Tryd.prog.wantsStandIn 29 = false by kernel_rfl)
    ·exact (show Tryd.prog.wantsStandIn 3 = false by kernel_rfl)⟩)
  (by kernel_rfl)
end Go.Proofs.YtjafncnjefnloaaDoor

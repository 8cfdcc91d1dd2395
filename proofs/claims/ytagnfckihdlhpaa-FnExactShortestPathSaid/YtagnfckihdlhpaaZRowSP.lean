import Derived.Test.YtagnfckihdlhpaaZRowSP5
import Derived.Test.YtagnfckihdlhpaaZRowSP23
namespace Go.Proofs.Ytagnfckihdlhpaa
open Go.ChangeShapes Go.WideShapes Go.ChangeAt Go.RowKit Go.Deep Go.Joins
theorem sh_both (g : Gr) (goal : Int) (hm : (Lit.int .i64 goal).wf = true) : ∃ xs ok, xs.length ≤ 1000 ∧ (g.total ≤ 1048576 → SpecC g goal xs ok ∧ ImplC g goal xs ok) := by
 refine ⟨(Den.shF ⟨g.states, g.edges, g.whole⟩ goal).1, (Den.shF ⟨g.states, g.edges, g.whole⟩ goal).2, Nat.le_trans (Den.shF_len ⟨g.states, g.edges, g.whole⟩ goal) (by omega), fun h1 => ?_⟩
 unfold Gr.total at h1
 have hsm : Den.smallG ⟨g.states, g.edges, g.whole⟩ := Den.smallG_at (g := ⟨g.states, g.edges, g.whole⟩) h1
 exact ⟨fun w v u a b => Den.spec_sh hsm (J := Old w) (fun _ hb => hb) a.old b.old hm, fun w v u a b => Den.impl_sh hsm (J := Old w) (fun _ hb => hb) a.old b.old hm⟩
set_option maxRecDepth 100000 in
theorem fnExactShortestPath_lifted (os : Os) (started : os.Started) (H : Type) (enc : TypeId × Value → H) :
  ReturnsInHanded {} Try.checked os 9 .any (Rows.fnExactShortestPathSpec.pre6 enc Try.prog Try.f9 Rows.fnExactShortestPathRow.domain false) (Rows.fnExactShortestPathSpec.post enc Try.prog Try.f9 false true false false) := by
 refine returnsInHanded_of_change (C := Try.checked) Try.own started (by kernel_rfl) Try.func9
  (ChangeSpec.witness6 (enc := enc) (C := Try.checked) false ⟨#[], #[.agg #[.slice none 0 0, .slice none 0 0, .bool false], .int .i64 0], []⟩ 8 (by kernel_rfl) (by kernel_rfl) (by kernel_rfl) (by kernel_rfl)) ?_
 intro W base args ds gs before hval0 hW hcnd _
 have hval : ∀ (j : Nat) t v, Try.f9.params[j]? = some t → args[j]? = some v → Value.okWide Try.prog W .any base t v := hval0
 have hW' := hW
 obtain ⟨p, q, hA0, hV, rfl, hfz, hnd⟩ := hW
 have hA : DataW.TrodAll enc Try.prog W 0 (fun _ => true) true Try.f9.params.toList args.toList ds p := hA0
 rw [Try.params9] at hA hval
 obtain ⟨v0, vs0, d0, ds0, p0, q0, hargs, rfl, rfl, h0, r0⟩ := trodAll_cons hA
 obtain ⟨v1, vs1, d1, ds1, p1, q1, rfl, rfl, rfl, h1, r1⟩ := trodAll_cons r0
 obtain ⟨rfl, rfl, rfl⟩ := trodAll_nil r1
 obtain rfl : args = #[v0, v1] := by cases args; simp_all
 obtain ⟨rfl, rfl⟩ := trodVars_none hV
 have k0 := h0
 have k1 := h1
 have lt0 : ∀ x ∈ p0, x.block < W.heap.size := by obtain ⟨m, hm⟩ := k0; exact DataW.trod_lt m _ _ _ hm
 have lt1 : ∀ x ∈ p1, x.block < W.heap.size := by obtain ⟨m, hm⟩ := k1; exact DataW.trod_lt m _ _ _ hm
 obtain ⟨c0, c1, c2, y0, y1, y2, m, rfl, rfl, rfl, hy0, hy1, hy2⟩ := open_agg3 Try.underlying45 (by kernel_rfl) (by kernel_rfl) (hval 0 45 v0 rfl rfl) h0
 obtain ⟨ts, ha⟩ := read_terms hy0
 obtain ⟨xss, hk⟩ := read_rows hy1
 obtain ⟨b, e2, _⟩ := DataW.trod_bool Try.underlying4 hy2
 simp at e2
 subst e2
 obtain ⟨goal, rfl⟩ := okWide_int Try.underlying3 (hval 1 3 v1 rfl rfl)
 have wm : (Lit.int .i64 goal).wf = true := by
  obtain ⟨fuel, hf⟩ := h1
  obtain ⟨n, e, hb⟩ := read_int (v := .int .i64 goal) (by simpa [Value.cells] using hf)
  cases e
  exact WalkArith.wf_i64 hb
 clear hA0 hval0
 obtain ⟨xs, ok, hx, hc⟩ := sh_both ⟨ts, xss, b⟩ goal wm
 refine (fnExactShortestPath_any ⟨ts, xss, b⟩ goal xs ok hc hx W _ _ ha hk).mono fun e W' ⟨he, bel⟩ => ?_
 subst he
 exact ⟨_, rfl, _, _, _, [], _, [], hW', trodAll_mk1 (shut_bool Try.underlying4 _), (trodAll_cons_mk (Below.trod Try.laidOut (by kernel_rfl) (of_decide_eq_true (by kernel_rfl)) k0 bel lt0) (trodAll_cons_mk (Below.trod Try.laidOut (by kernel_rfl) (of_decide_eq_true (by kernel_rfl)) k1 bel lt1) trodAll_mk0)), rfl, bel.frame _, fun h => by cases h⟩
theorem fnExactShortestPath_holds : Rows.FnExactShortestPathSaid :=
 OpenClaim.holds_of_wide 9 Try.f9 rfl rfl rfl rfl rfl rfl rfl ⟨rfl, rfl, rfl, rfl, rfl⟩ rfl rfl rfl rfl rfl (by kernel_rfl) Try.func9 (by kernel_rfl)
  (of_decide_eq_true (by kernel_rfl)) (by unfold Func.isWrapper; rw [if_neg (by decide +kernel)]; exact ⟨rfl, rfl⟩)
  (fun os started H enc _ => fnExactShortestPath_lifted os started H enc)
end Go.Proofs.Ytagnfckihdlhpaa

import Derived.Test.YtfdkldmkbibknaaGreatZRowPT24
import Derived.Test.YtfdkldmkbibknaaGreatZRowPT30
namespace Go.Proofs.YtfdkldmkbibknaaGreat
open Go.ChangeShapes Go.WideShapes Go.ChangeAt Go.RowKit Go.Deep Go.Joins
def tmSig : List (Nat × Den.Ty) := [(3, .i), (4, .b), (9, .s), (101, .sl .i), (22, .sl .s), (143, .n 5), (23, .sl (.n 5)), (25, .n 6), (171, .n 7), (82, .sl (.n 7)), (84, .n 8), (26, .sl (.n 8)), (28, .n 9)]
theorem tmSig_ok : Den.TMOK Tryz.prog tmSig := by
 have h : (tmSig.all fun p => Den.stepT Tryz.prog tmSig p.1 p.2) = true := by kernel_rfl
 exact fun p hp => List.all_eq_true.1 h p hp
theorem pt_total (s : Den.Sg) (t : ByteArray) : (Den.parseF s t).1.total ≤ 780 := by
 cases hb : (Den.parseF s t).2 with
 | true => exact (Den.pre_yes hb).2.total
 | false =>
  rw [(Den.parseF_no hb).1]
  show (Tm.mk 0 ByteArray.empty 0 []).total ≤ 780
  rw [Tm.total_eq]
  simp [tmTotals]
set_option maxRecDepth 100000 in
theorem fnExactParseTerm_lifted (os : Os) (started : os.Started) (H : Type) (enc : TypeId × Value → H) :
  ReturnsInHanded {} Tryz.checked os 3 .any (Rows.fnExactParseTermSpec.pre6 enc Tryz.prog Tryz.f3 Rows.fnExactParseTermRow.domain false) (Rows.fnExactParseTermSpec.post enc Tryz.prog Tryz.f3 false true false false) := by
 refine returnsInHanded_of_change (C := Tryz.checked) Tryz.own started (by kernel_rfl) Tryz.func3
  (ChangeSpec.witness6 (enc := enc) (C := Tryz.checked) false ⟨#[], #[.agg #[.slice none 0 0, .slice none 0 0, .slice none 0 0], .string ⟨#[]⟩], []⟩ 8 (by kernel_rfl) (by kernel_rfl) (by kernel_rfl) (by kernel_rfl)) ?_
 intro W base args ds gs before hval0 hW hcnd _
 have hval : ∀ (j : Nat) t v, Tryz.f3.params[j]? = some t → args[j]? = some v → Value.okWide Tryz.prog W .any base t v := hval0
 have hW' := hW
 obtain ⟨p, q, hA0, hV, rfl, hfz, hnd⟩ := hW
 have hA : DataW.TrodAll enc Tryz.prog W 0 (fun _ => true) true Tryz.f3.params.toList args.toList ds p := hA0
 rw [Tryz.params3] at hA hval
 obtain ⟨v0, vs0, d0, ds0, p0, q0, hargs, rfl, rfl, h0, r0⟩ := trodAll_cons hA
 obtain ⟨v1, vs1, d1, ds1, p1, q1, rfl, rfl, rfl, h1, r1⟩ := trodAll_cons r0
 obtain ⟨rfl, rfl, rfl⟩ := trodAll_nil r1
 obtain rfl : args = #[v0, v1] := by cases args; simp_all
 obtain ⟨rfl, rfl⟩ := trodVars_none hV
 have k0 := h0
 have k1 := h1
 have lt0 : ∀ x ∈ p0, x.block < W.heap.size := by obtain ⟨m, hm⟩ := k0; exact DataW.trod_lt m _ _ _ hm
 have lt1 : ∀ x ∈ p1, x.block < W.heap.size := by obtain ⟨m, hm⟩ := k1; exact DataW.trod_lt m _ _ _ hm
 obtain ⟨m0, hm0⟩ := h0
 obtain ⟨m1, hm1⟩ := h1
 obtain ⟨c0, e0, _⟩ := okWide_struct Tryz.underlying28 (hval 0 28 v0 rfl rfl)
 obtain ⟨x, rfl⟩ := okWide_string Tryz.underlying9 (hval 1 9 v1 rfl rfl)
 have l0 := Den.read_ty tmSig_ok m0 28 (.n 9) _ _ rfl hm0
 have l1 := Den.read_ty tmSig_ok m1 9 .s _ _ rfl hm1
 obtain ⟨s, a, b, c, rfl, hs⟩ := Den.lies_sig l0 ⟨c0, e0⟩
 have hx : x.size ≤ maxLen := by
  obtain ⟨y, y1, _, y2, y3⟩ : ∃ (d : Den.I .s) (x' : Abs.V), Den.Fit .s d ∧ Den.ATR [] [] (.one (.s d)) (.one x') ∧ Abs.AR [] (fun b => b < W.heap.size) W (.one x') (.string x) := Den.arg_one_fit l1 rfl (fun d => rfl)
  obtain ⟨v, v1, v2⟩ := Den.res_one y2 y3
  obtain ⟨e, he⟩ := Den.res_str v1 v2
  injection e with e
  rw [e]; exact he
 clear hA0 hval0
 refine (fnExactParseTerm_any s x (Den.parseF s x).1 (Den.parseF s x).2 (fun w v u z h => Den.spec_pt h.n h.b h.o hx) (fun w v u z h => Den.impl_pt h.n h.b h.o hx) (pt_total s x) W _ _ _ hs hx).mono fun e W' ⟨he, bel⟩ => ?_
 subst he
 exact ⟨_, rfl, _, _, _, [], _, [], hW', trodAll_mk1 (shut_bool Tryz.underlying4 _), (trodAll_cons_mk (Below.trod Tryz.laidOut (by kernel_rfl) (of_decide_eq_true (by kernel_rfl)) k0 bel lt0) (trodAll_cons_mk (Below.trod Tryz.laidOut (by kernel_rfl) (of_decide_eq_true (by kernel_rfl)) k1 bel lt1) trodAll_mk0)), rfl, bel.frame _, fun h => by cases h⟩
theorem fnExactParseTerm_holds : Rows.FnExactParseTermSaid :=
 OpenClaim.holds_of_wide 3 Tryz.f3 rfl rfl rfl rfl rfl rfl rfl ⟨rfl, rfl, rfl, rfl, rfl⟩ rfl rfl rfl rfl rfl (by kernel_rfl) Tryz.func3 (by kernel_rfl)
  (of_decide_eq_true (by kernel_rfl)) (by unfold Func.isWrapper; rw [if_neg (by decide +kernel)]; exact ⟨rfl, rfl⟩)
  (fun os started H enc _ => fnExactParseTerm_lifted os started H enc)
end Go.Proofs.YtfdkldmkbibknaaGreat

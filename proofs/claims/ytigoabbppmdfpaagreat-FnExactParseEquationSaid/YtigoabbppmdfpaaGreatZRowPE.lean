/-
  PROVED: for every signature and text that can be read, the law FnExactParseEquation (the program's ParseEquation returns what the reference's returns, leaves its arguments as they were, and its answer's memory is its own) returns true, and its arguments read afterwards as before. No condition.
-/
import Derived.HandedShaped
import Derived.Test.YtigoabbppmdfpaaGreatZRowPE1
import Derived.Test.YtigoabbppmdfpaaGreatZRowPE8
import Derived.Test.YtigoabbppmdfpaaGreatZRowPE10
import Derived.Test.YtigoabbppmdfpaaGreatZRowPE28
namespace Go.Proofs.YtigoabbppmdfpaaGreat
open Go.ChangeShapes Go.WideShapes Go.ChangeAt Go.RowKit Go.Deep Go.Joins
def tmSig : List (Nat × Den.Ty) := [(3, .i), (4, .b), (9, .s), (90, .sl .i), (22, .sl .s), (123, .n 5), (23, .sl (.n 5)), (25, .n 6), (143, .n 7), (76, .sl (.n 7)), (78, .n 8), (26, .sl (.n 8)), (28, .n 9)]
theorem tmSig_ok : Den.TMOK Tryz.prog tmSig := by
 have h : (tmSig.all fun p => Den.pM Tryz.prog tmSig p.1 p.2) = true := by kernel_rfl
 exact fun p hp => List.all_eq_true.1 h p hp
theorem gv_of {w : World} (h : w.ShapedOpen Tryz.prog) : Den.GV w := Go.Proofs.cell_of_shapedOpen_int (zero := #[.int .i64 0]) (t := 3) h (of_decide_eq_true (by kernel_rfl)) (by kernel_rfl) rfl (by kernel_rfl) (by kernel_rfl) Tryz.underlying3
theorem pe_small (s : Den.Sg) (t : ByteArray) : Den.SmF (Den.peF s t).1 ∧ qI (Den.peF s t).1 ≤ 1048576 := by
 have tt : ∀ u : Tm, ap u.ac ≤ u.az := fun u => by rw [Tm.eV]; omega
 unfold Den.peF
 split
 ·rename_i h
  have hs : Den.SmC (Den.jC s t).2 := Den.Cz s _ _ _ _ _ fun c hc => by cases hc
  have h2 : (Den.jC s t).2.length ≤ 2 := by
   have h := h.2.1
   unfold Den.iz at h
   simp only [Bool.and_eq_true, decide_eq_true_eq] at h
   have := h.2.2.1
   have e : (Den.ly s t).aM = (Den.jC s t).2 := rfl
   rw [e] at this
   omega
  have a := Den.iX s (Den.bG (Den.bG t Den.wIf).1 Den.wEq).1
  have b := Den.iX s (Den.bG (Den.bG t Den.wIf).1 Den.wEq).2.1
  have hc : ap (Den.ca (Den.jC s t).2) ≤ 4 * 781 := by
   match (Den.jC s t).2, h2, hs with
   | [], _, _ => simp [Den.ca, ap]
   | [c], _, hs => have := hs c (by simp); simp [Den.ca, ap]; omega
   | [c, d], _, hs => have := hs c (by simp); have := hs d (by simp); simp [Den.ca, ap]; omega
   | _ :: _ :: _ :: _, h2, _ => simp at h2
  refine ⟨⟨by show (Den.bl s _).1.az < _; omega, by show (Den.bl s _).1.az < _; omega, Nat.le_trans h2 (by omega), fun c hc => ⟨by have := (hs c hc).1; omega, by have := (hs c hc).2; omega⟩⟩, ?_⟩
  have a2 := tt (Den.bl s (Den.bG (Den.bG t Den.wIf).1 Den.wEq).1).1
  have b2 := tt (Den.bl s (Den.bG (Den.bG t Den.wIf).1 Den.wEq).2.1).1
  show ap (Den.bl s _).1.ac + ap (Den.bl s _).1.ac + ap (Den.ca (Den.jC s t).2) ≤ _
  omega
 ·refine ⟨⟨?_, ?_, by simp, fun c hc => by cases hc⟩, by simp [qI, Den.ca, ap]⟩ <;> (show (Tm.mk 0 ByteArray.empty 0 []).az < _; rw [Tm.eV]; simp [ap])
set_option maxRecDepth 100000 in
theorem fnExactParseEquation_lifted (os : Os) (started : os.Started) (H : Type) (enc : TypeId × Value → H) :
  ReturnsInHanded {} Tryz.checked os 3 .any (Rows.fnExactParseEquationSpec.pre6 enc Tryz.prog Tryz.f3 Rows.fnExactParseEquationRow.domain false) (Rows.fnExactParseEquationSpec.post enc Tryz.prog Tryz.f3 false true false false) := by
 refine returnsInHanded_of_change_shaped (C := Tryz.checked) Tryz.own started (by kernel_rfl) Tryz.func3
  (ChangeSpec.witness6 (enc := enc) (C := Tryz.checked) false ⟨#[], #[.agg #[.slice none 0 0, .slice none 0 0, .slice none 0 0], .string ⟨#[]⟩], []⟩ 8 (by kernel_rfl) (by kernel_rfl) (by kernel_rfl) (by kernel_rfl)) ?_
 intro W base ac ds gs before hval0 hW hcnd _ hshape _
 have hval : ∀ (j : Nat) t v, Tryz.f3.params[j]? = some t → ac[j]? = some v → Value.okWide Tryz.prog W .any base t v := hval0
 have hW' := hW
 obtain ⟨p, q, hA0, hV, rfl, hfz, hnd⟩ := hW
 have hA : DataW.TrodAll enc Tryz.prog W 0 (fun _ => true) true Tryz.f3.params.toList ac.toList ds p := hA0
 rw [Tryz.params3] at hA hval
 obtain ⟨v0, vs0, d0, ds0, p0, q0, hargs, rfl, rfl, h0, r0⟩ := trodAll_cons hA
 obtain ⟨v1, vs1, d1, ds1, p1, q1, rfl, rfl, rfl, h1, r1⟩ := trodAll_cons r0
 obtain ⟨rfl, rfl, rfl⟩ := trodAll_nil r1
 obtain rfl : ac = #[v0, v1] := by cases ac; simp_all
 obtain ⟨rfl, rfl⟩ := trodVars_none hV
 have k0 := h0
 have k1 := h1
 have lt0 : ∀ x ∈ p0, x.block < W.heap.size := by obtain ⟨m, hm⟩ := k0; exact DataW.trod_lt m _ _ _ hm
 have lt1 : ∀ x ∈ p1, x.block < W.heap.size := by obtain ⟨m, hm⟩ := k1; exact DataW.trod_lt m _ _ _ hm
 obtain ⟨m0, hm0⟩ := h0
 obtain ⟨m1, hm1⟩ := h1
 obtain ⟨c0, e0, _⟩ := okWide_struct Tryz.underlying28 (hval 0 28 v0 rfl rfl)
 obtain ⟨x, rfl⟩ := okWide_string Tryz.underlying9 (hval 1 9 v1 rfl rfl)
 have l0 := Den.BG tmSig_ok m0 28 (.n 9) _ _ rfl hm0
 have l1 := Den.BG tmSig_ok m1 9 .s _ _ rfl hm1
 obtain ⟨s, a, b, c, rfl, hs⟩ := Den.FL l0 ⟨c0, e0⟩
 have hx : x.size ≤ maxLen := by
  obtain ⟨y, y1, _, y2, y3⟩ : ∃ (d : Den.I .s) (x' : Abs.V), Den.Fit .s d ∧ Den.ATR [] [] (.one (.s d)) (.one x') ∧ Abs.AR [] (fun b => b < W.heap.size) W (.one x') (.string x) := Den.wU l1 rfl (fun d => rfl)
  obtain ⟨v, v1, v2⟩ := Den.fP y2 y3
  obtain ⟨e, he⟩ := Den.iG v1 v2
  injection e with e
  rw [e]; exact he
 clear hA0 hval0
 refine (iV s x _ _ (fun hb w v u z h => Kr h.n h.b h.o hb) (fun hb w v u z h g => JD h.n h.b h.o hb g) (pe_small s x).1 (pe_small s x).2 W (gv_of hshape) _ _ _ hs hx).mono fun e W' ⟨he, bel⟩ => ?_
 subst he
 exact ⟨_, rfl, _, _, _, [], _, [], hW', trodAll_mk1 (shut_bool Tryz.underlying4 _), (trodAll_cons_mk (Below.trod Tryz.laidOut (by kernel_rfl) (of_decide_eq_true (by kernel_rfl)) k0 bel lt0) (trodAll_cons_mk (Below.trod Tryz.laidOut (by kernel_rfl) (of_decide_eq_true (by kernel_rfl)) k1 bel lt1) trodAll_mk0)), rfl, bel.frame _, fun h => by cases h⟩
theorem fnExactParseEquation_holds : Rows.FnExactParseEquationSaid :=
 OpenClaim.holds_of_wide 3 Tryz.f3 rfl rfl rfl rfl rfl rfl rfl ⟨rfl, rfl, rfl, rfl, rfl⟩ rfl rfl rfl rfl rfl (by kernel_rfl) Tryz.func3 (by kernel_rfl)
  (of_decide_eq_true (by kernel_rfl)) (by unfold Func.isWrapper; rw [if_neg (by decide +kernel)]; exact ⟨rfl, rfl⟩)
  (fun os started H enc _ => fnExactParseEquation_lifted os started H enc)
end Go.Proofs.YtigoabbppmdfpaaGreat

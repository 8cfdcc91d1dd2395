import Derived.Test.YtfdkldmkbibknaaGreatZRowTx13
import Derived.Test.YtfdkldmkbibknaaGreatZRowTx28
import Derived.Test.YtfdkldmkbibknaaGreatZRowTx35
namespace Go.Proofs.YtfdkldmkbibknaaGreat
open Go.ChangeShapes Go.WideShapes Go.ChangeAt Go.RowKit Go.Deep Go.Joins
theorem Den.textAgain_done : ∃ g, Den.oO Tryz.prog (Den.z1b.ent g) ∧ ∀ code, Den.Fit (.sl .u) code → ∃ r, g code = some r ∧ r = true :=
 Den.oy Den.yC (fun code hl => ⟨(Den.Sg.mk (Den.So.mk [] []) [], Tm.mk 0 ByteArray.empty 0 []), hl, by rw [Den.bC]; decide⟩) fun _ _ h => h.2
def tmBytes : List (Nat × Den.Ty) := [(5, .u), (47, .sl .u)]
theorem tmBytes_ok : Den.TMOK Tryz.prog tmBytes := by
 have h : (tmBytes.all fun p => Den.lN Tryz.prog tmBytes p.1 p.2) = true := by kernel_rfl
 exact fun p hp => List.all_eq_true.1 h p hp
set_option maxRecDepth 100000 in
theorem fnTextAgain_lifted (os : Os) (started : os.Started) (H : Type) (enc : TypeId × Value → H) :
  ReturnsInHanded {} Tryz.checked os 4 .any (Rows.fnTextAgainSpec.pre6 enc Tryz.prog Tryz.f4 Rows.fnTextAgainRow.domain false) (Rows.fnTextAgainSpec.post enc Tryz.prog Tryz.f4 false true false false) := by
 refine returnsInHanded_of_change (C := Tryz.checked) Tryz.own started (by kernel_rfl) Tryz.func4
  (ChangeSpec.witness6 (enc := enc) (C := Tryz.checked) false ⟨#[], #[.slice none 0 0], []⟩ 8 (by kernel_rfl) (by kernel_rfl) (by kernel_rfl) (by kernel_rfl)) ?_
 intro W base args ds gs before hval0 hW hcnd _
 have hval : ∀ (j : Nat) t v, Tryz.f4.params[j]? = some t → args[j]? = some v → Value.okWide Tryz.prog W .any base t v := hval0
 have hW' := hW
 obtain ⟨p, q, hA0, hV, rfl, hfz, hnd⟩ := hW
 have hA : DataW.TrodAll enc Tryz.prog W 0 (fun _ => true) true Tryz.f4.params.toList args.toList ds p := hA0
 rw [Tryz.params4] at hA hval
 obtain ⟨v0, vs0, d0, ds0, p0, q0, hargs, rfl, rfl, h0, r0⟩ := trodAll_cons hA
 obtain ⟨rfl, rfl, rfl⟩ := trodAll_nil r0
 obtain rfl : args = #[v0] := by cases args; simp_all
 obtain ⟨rfl, rfl⟩ := trodVars_none hV
 have k0 := h0
 have lt0 : ∀ x ∈ p0, x.block < W.heap.size := by obtain ⟨m, hm⟩ := k0; exact DataW.trod_lt m _ _ _ hm
 obtain ⟨m0, hm0⟩ := h0
 have e0 : v0.cells = #[v0] := by
  obtain ⟨a1, len, cap, rfl⟩ := okWide_slice Tryz.underlying47 (hval 0 47 v0 rfl rfl)
  rfl
 have l0 := Den.Bp tmBytes_ok m0 47 (.sl .u) _ _ rfl hm0
 have f0 : ∃ (s : Den.I (.sl .u)) (x : Abs.V), Den.Fit (.sl .u) s ∧ Den.ATR [] [] (.one (.l .u s)) (.one x) ∧ Abs.AR [] (fun b => b < W.heap.size) W (.one x) v0 := Den.sn l0 e0 (fun d => rfl)
 obtain ⟨s, x, fs, t0, a0⟩ := f0
 clear hA0 hval0
 obtain ⟨g, hg, hl⟩ := Den.textAgain_done
 obtain ⟨r, hr, rfl⟩ := hl s fs
 have hcfn : Den.CFn Tryz.prog 4 [.one (.l .u s)] [] (.one (.b true)) [] := by
  obtain ⟨v, H', e, k⟩ := hg (Den.AT × List Den.Ob) [.one (.l .u s)] [] (fun v H' => some (v, H')) _ (congrArg (fun o : Option Bool => o.bind fun r => some (Den.AT.one (.b r), ([] : List Den.Ob))) hr)
  cases e
  exact k
 refine (Den.xl hcfn (Den.xE t0 Den.Bg) (Den.zX a0 Den.CD)).mono fun e W' ⟨he, bel⟩ => ?_
 subst he
 exact ⟨_, rfl, _, _, _, [], _, [], hW', trodAll_mk1 (shut_bool Tryz.underlying4 _), (trodAll_cons_mk (Below.trod Tryz.laidOut (by kernel_rfl) (of_decide_eq_true (by kernel_rfl)) k0 bel lt0) trodAll_mk0), rfl, bel.frame _, fun h => by cases h⟩
theorem fnTextAgain_holds : Rows.FnTextAgainSaid :=
 OpenClaim.holds_of_wide 4 Tryz.f4 rfl rfl rfl rfl rfl rfl rfl ⟨rfl, rfl, rfl, rfl, rfl⟩ rfl rfl rfl rfl rfl (by kernel_rfl) Tryz.func4 (by kernel_rfl)
  (of_decide_eq_true (by kernel_rfl)) (by unfold Func.isWrapper; rw [if_neg (by decide +kernel)]; exact ⟨rfl, rfl⟩)
  (fun os started H enc _ => fnTextAgain_lifted os started H enc)
end Go.Proofs.YtfdkldmkbibknaaGreat

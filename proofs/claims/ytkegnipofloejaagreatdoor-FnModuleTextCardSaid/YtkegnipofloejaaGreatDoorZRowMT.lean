import Derived.Test.YtkegnipofloejaaGreatDoorTie
import Derived.Test.YtkegnipofloejaaGreatDoorCards
import Derived.LaidMore
import Derived.HandedShaped
import Derived.Lay
import Derived.Test.YtkegnipofloejaaGreatDoorZRowMT30
namespace Go.Proofs.YtkegnipofloejaaGreatDoor
open Go.ChangeShapes Go.WideShapes Go.ChangeAt Go.RowKit Go.Deep Go.Joins
def tmBytes : List (Nat × Den.Ty) := [(5, .u), (22, .sl .u)]
theorem tmBytes_ok : Den.TMOK Tryz.prog tmBytes := by
 have h : (tmBytes.all fun p => Den.qD Tryz.prog tmBytes p.1 p.2) = true := by kernel_rfl
 exact fun p hp => List.all_eq_true.1 h p hp
theorem gv_of {w : World} (h : w.ShapedOpen Tryz.prog) : Abs.GV w := Go.Proofs.cell_of_shapedOpen_int (zero := #[.int .i64 0]) (t := 3) h (of_decide_eq_true (by kernel_rfl)) (by kernel_rfl) rfl (by kernel_rfl) (by kernel_rfl) Tryz.underlying3
set_option maxRecDepth 100000 in
theorem fnModuleText_lifted (os : Os) (started : os.Started) (H : Type) (enc : TypeId × Value → H) :
  ReturnsInHanded {} Tryz.checked os 3 .any (fun w ae => (Rows.fnModuleTextSpec.pre enc Tryz.prog Tryz.f3 [] false w ae ∧ laidMetH Tryz.prog Rows.fnModuleTextRow.laid w) ∧ sizedMet enc Tryz.prog Tryz.f3 (OpenSpec.ofChange Rows.fnModuleTextSpec) false w ae)
   (Rows.fnModuleTextSpec.post enc Tryz.prog Tryz.f3 false true false false) := by
 refine returnsInHanded_of_calls (C := Tryz.checked) Tryz.own started (by kernel_rfl)
  (ChangeSpec.witness_shaped (enc := enc) (C := Tryz.checked) (os := os) (X := fun w _ => laidMetH Tryz.prog Rows.fnModuleTextRow.laid w) false (World.laidAll Tryz.prog os Rows.fnModuleTextRow.laid) #[.slice none 0 0] 8 (World.laidAll_os _ _ _) (World.shaped_of_ZipB (by kernel_rfl) (by kernel_rfl)) (by kernel_rfl) (by kernel_rfl) (by kernel_rfl)
   (by rw [MakeChecks.laidMetH_plain _ _ _ (by kernel_rfl)]; exact laidMet_laidAll _ (by kernel_rfl) (by kernel_rfl))) ?_
 intro w0 tape i _ hshape _ hok hpre _
 obtain ⟨_, _, _, fn, hfn, _, _, _, _, hval0⟩ := hok
 obtain rfl : fn = Tryz.f3 := Option.some.inj (hfn.symm.trans Tryz.func3)
 obtain ⟨⟨⟨ds, gs, before, hW0, hcnd⟩, hL⟩, _⟩ := hpre
 have hW := DataW.Whole.of_heap (w' := w0.forCall tape i) (by rfl) hW0
 suffices key : Calls Tryz.prog 3 i.args (w0.forCall tape i) fun e W' => ∃ v, e = .returned v ∧ Rows.fnModuleTextSpec.post enc Tryz.prog Tryz.f3 false true false false (w0.forCall tape i) i.args v W' by
  refine key.mono fun e W' ⟨v, he, hp⟩ => ?_
  subst he
  exact ChangeSpec.post_blind hp
 clear hL hW0
 generalize w0.forCall tape i = W at *
 generalize i.args = ae at *
 have hval : ∀ (j : Nat) t v, Tryz.f3.params[j]? = some t → ae[j]? = some v → Value.okWide Tryz.prog W .any w0.heap.size t v := hval0
 have hW' := hW
 obtain ⟨p, q, hA0, hV, rfl, hfz, hnd⟩ := hW
 have hA : DataW.TrodAll enc Tryz.prog W 0 (fun _ => true) true Tryz.f3.params.toList ae.toList ds p := hA0
 rw [Tryz.params3] at hA hval
 obtain ⟨v0, vs0, d0, ds0, p0, q0, hargs, rfl, rfl, h0, r0⟩ := trodAll_cons hA
 obtain ⟨rfl, rfl, rfl⟩ := trodAll_nil r0
 obtain rfl : ae = #[v0] := by cases ae; simp_all
 obtain ⟨rfl, rfl⟩ := trodVars_none hV
 have k0 := h0
 have lt0 : ∀ x ∈ p0, x.block < W.heap.size := by obtain ⟨m, hm⟩ := k0; exact DataW.trod_lt m _ _ _ hm
 obtain ⟨m0, hm0⟩ := h0
 have e0 : v0.cells = #[v0] := by
  obtain ⟨a1, len, cap, rfl⟩ := okWide_slice Tryz.underlying22 (hval 0 22 v0 rfl rfl)
  rfl
 have l0 := Den.KS tmBytes_ok m0 22 (.sl .u) _ _ rfl hm0
 have f0 : ∃ (s : Den.I (.sl .u)) (x : Abs.V), Den.Fit (.sl .u) s ∧ Den.ATR [] [] (.one (.l .u s)) (.one x) ∧ Abs.AR [] (fun b => b < W.heap.size) W (.one x) v0 := Den.w6 l0 e0 (fun d => rfl)
 obtain ⟨s, x, fs, t0, a0⟩ := f0
 clear hA0 hval0
 obtain ⟨g, hg, hl⟩ := Den.sk
 obtain ⟨r, hr, rfl⟩ := hl s fs
 have hcfn : Den.CFn Tryz.prog 3 [.one (.l .u s)] [] (.one (.b true)) [] := by
  obtain ⟨v, H', e, k⟩ := hg (Den.AT × List Den.Ob) [.one (.l .u s)] [] (fun v H' => some (v, H')) _ (congrArg (fun o : Option Bool => o.bind fun r => some (Den.AT.one (.b r), ([] : List Den.Ob))) hr)
  cases e
  exact k
 refine (Den.EE hcfn (gv_of hshape) (Den.aP t0 Den.bY) (Den.FH a0 Den.Ki)).mono fun e W' ⟨he, bel⟩ => ?_
 subst he
 exact ⟨_, rfl, _, _, _, [], _, [], hW', trodAll_mk1 (shut_bool Tryz.underlying4 _), (trodAll_cons_mk (Below.trod Tryz.laidOut (by kernel_rfl) (of_decide_eq_true (by kernel_rfl)) k0 bel lt0) trodAll_mk0), rfl, bel.frame _, fun h => by cases h⟩
theorem fnModuleText_holds : Rows.FnModuleTextSaid :=
 OpenClaim.holds_of_wide 3 Tryz.f3 rfl rfl rfl rfl rfl rfl rfl ⟨rfl, rfl, rfl, rfl, rfl⟩ rfl rfl rfl rfl rfl (by kernel_rfl) Tryz.func3 (by kernel_rfl)
  (of_decide_eq_true (by kernel_rfl)) (by unfold Func.isWrapper; rw [if_neg (by decide +kernel)]; exact ⟨rfl, rfl⟩)
  (fun os started H enc _ => fnModuleText_lifted os started H enc)
theorem fnModuleText_card : Rows.FnModuleTextCardSaid :=
 Claim7.holds_tied_plain_at .later [] [.data, .pinned] true (true, "767a69197a5317696fe630a498346770a07dd892ba7bf0fed97948d4efb99647") false
  fnModuleText_holds (fun _ h => by cases h) (by kernel_rfl) (fun _ h => by cases h) fnModuleText_row_tie rfl ⟨rfl, rfl⟩ (by kernel_rfl) rfl
  (fun f fn hf hfn => by
   obtain rfl : f = 3 := Option.some.inj ((show Tryz.prog.funcNamed "loop.example/g03107/laws.FnModuleText" = some 3 by kernel_rfl).symm.trans hf) |>.symm
   obtain rfl : fn = Tryz.f3 := (Option.some.inj (Tryz.func3.symm.trans hfn)).symm
   exact ⟨by kernel_rfl, fun j t ht => by
    rw [Tryz.params3] at ht
    have h3 : t = 22 := by
     rcases j with _ | j
     ·simpa using ht.symm
     ·simp at ht
    subst h3
    exact (show Tryz.prog.wantsStandIn 22 = false by kernel_rfl)⟩)
  (by kernel_rfl)
end Go.Proofs.YtkegnipofloejaaGreatDoor

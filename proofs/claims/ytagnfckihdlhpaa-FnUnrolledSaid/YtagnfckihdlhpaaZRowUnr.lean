/-
  PROVED: for every slice of bytes, the law FnUnrolled (a lasso says the same when its loop is written twice, and an until holds now or later) returns true, and its argument reads afterwards as before. No condition.
-/
import Derived.Test.YtagnfckihdlhpaaZRowUnr10
namespace Go.Proofs.Ytagnfckihdlhpaa
open Go.ChangeShapes Go.WideShapes Go.ChangeAt Go.RowKit Go.Deep Go.Joins

theorem read_bytes {H : Type} {enc : TypeId × Value → H} {w : World} {base : Nat} {spare : Nat → Bool} {held : Bool} {fuel : Nat} {v : Value} {x : DataW H × List MemPlace}
    (h : DataW.trod enc Try.prog w base spare held fuel 54 [v] = some x) : ∃ bs : List Int, Abs.VR (fun b => b < w.heap.size) w [] (.imm 1 (bs.map fun b => [.lit (.int .u8 b)])) v := by
  rcases open_ints Try.underlying54 Try.underlying5 (by kernel_rfl) h with ⟨hcs, _⟩ | ⟨a, len, cap, zs, hcs, _, hl, hm, hz, _, hcell, hwf⟩
  · simp at hcs
    subst hcs
    exact ⟨[], .imm0 (Nat.zero_le _)⟩
  · simp at hcs
    subst hcs
    unfold maxLen at hm
    have hzl : len ≤ zs.length := by rw [hz]; split <;> omega
    have hlen : (zs.take len).length = len := by rw [List.length_take]; omega
    rcases Nat.eq_zero_or_pos len with e0 | hp
    · subst e0
      exact ⟨[], .imm0 (by omega)⟩
    · have hc0 := hcell 0 (by omega)
      have e0 : a.add 0 = a := by simp [Addr.add]
      rw [e0] at hc0
      have e := spot_none hc0
      have hblk : a.block < w.heap.size := by
        rcases Nat.lt_or_ge a.block w.heap.size with h | h
        · exact h
        · simp [World.cell?, Array.getElem?_eq_none h] at hc0
      have hx := Abs.VR.imm (I := fun b => b < w.heap.size) (w := w) (ι := []) (s := 1) (b := a.block) (off := a.off) (c := cap) (es := (zs.take len).map fun b => [Abs.V.lit (.int .u8 b)]) (f := fun k _ => .int .u8 (zs.getD k 0)) (fun e he => by
        obtain ⟨y, _, rfl⟩ := List.mem_map.1 he; rfl) (by rw [List.length_map, hlen]; exact hl) (by omega) hblk (fun k j hk hj => by
        rw [List.length_map, hlen] at hk
        have hc := hcell k (by omega)
        rw [e, add_none] at hc
        have : j = 0 := by omega
        subst this
        simpa using hc) (fun k hk j hj => by
        rw [List.length_map, hlen] at hk
        simp only [List.getElem_map, List.length_singleton] at hj ⊢
        have : j = 0 := by omega
        subst this
        have hk' : k < zs.length := by omega
        have eg : zs.getD k 0 = (zs.take len)[k]'(by omega) := by simp [List.getD, hk']
        rw [List.getElem_cons_zero, eg]
        refine .lit (hwf _ ?_)
        exact List.mem_of_mem_take (List.getElem_mem _))
      rw [List.length_map, hlen] at hx
      rw [← e] at hx
      exact ⟨_, hx⟩

/-- A law over bytes, by den's contract. -/
theorem calls_bytes {P : Program} {f : FuncId} {bs : List Int} (hc : Den.CFn P f [.one (.l .u bs)] [] (.one (.b true)) []) {w : World} {v : Value} (hv : Abs.VR (fun b => b < w.heap.size) w [] (.imm 1 (bs.map fun b => [.lit (.int .u8 b)])) v) :
    Calls P f #[v] w fun e w' => e = .returned (.bool true) ∧ Below w.heap.size w w' := by
  have hfr : Den.FR (.l .u bs) (.imm 1 (bs.map fun b => [Abs.V.lit (.int .u8 b)])) := by
    refine Den.FR.l (T := .u) (by decide) (List.length_map _) (fun e he => by obtain ⟨y, _, rfl⟩ := List.mem_map.1 he; rfl) (fun m h1 h2 j h3 h4 => ?_)
    have : j = 0 := by simp at h4; omega
    subst this
    simp only [List.getElem_map, List.getElem_cons_zero]
    exact Den.FR.k
  have hF := hc [] [] [.one (.imm 1 (bs.map fun b => [Abs.V.lit (.int .u8 b)]))] Den.HpR.nil_ (.cons (.one (.fl hfr)) .nil_)
  refine (hF.2 w (fun b => b < w.heap.size) [] #[v] (Abs.HR.nil _ w) (fun _ h => h) ⟨rfl, fun j hj => ?_⟩).mono ?_
  · have : j = 0 := by simp at hj; omega
    subst this
    exact ⟨v, rfl, .one hv⟩
  · rintro e w' ⟨r, h', ι', I', c, ⟨ρ', hr, _, _⟩, rfl, D⟩
    obtain ⟨u, rfl, hu⟩ := hr.one'
    have e1 := hu.bool
    subst e1
    have := D.res.bool
    subst this
    exact ⟨rfl, ⟨D.os, D.tape, D.output, D.grown, fun b hb => D.frame b hb (Abs.noPass b)⟩⟩

set_option maxRecDepth 100000 in
theorem fnUnrolled_lifted (os : Os) (started : os.Started) (H : Type) (enc : TypeId × Value → H) :
    ReturnsInHanded {} Try.checked os 6 .any (Rows.fnUnrolledSpec.pre6 enc Try.prog Try.f6 Rows.fnUnrolledRow.domain false) (Rows.fnUnrolledSpec.post enc Try.prog Try.f6 false true false false) := by
  refine returnsInHanded_of_change (C := Try.checked) Try.own started (by kernel_rfl) Try.func6
    (ChangeSpec.witness6 (enc := enc) (C := Try.checked) false ⟨#[], #[.slice none 0 0], []⟩ 8 (by kernel_rfl) (by kernel_rfl) (by kernel_rfl) (by kernel_rfl)) ?_
  intro W base args ds gs before hval0 hW hcnd _
  have hval : ∀ (j : Nat) t v, Try.f6.params[j]? = some t → args[j]? = some v → Value.okWide Try.prog W .any base t v := hval0
  have hW' := hW
  obtain ⟨p, q, hA0, hV, rfl, hfz, hnd⟩ := hW
  have hA : DataW.TrodAll enc Try.prog W 0 (fun _ => true) true Try.f6.params.toList args.toList ds p := hA0
  rw [Try.params6] at hA hval
  obtain ⟨v0, vs0, d0, ds0, p0, q0, hargs, rfl, rfl, h0, r0⟩ := trodAll_cons hA
  obtain ⟨rfl, rfl, rfl⟩ := trodAll_nil r0
  obtain rfl : args = #[v0] := by cases args; simp_all
  obtain ⟨rfl, rfl⟩ := trodVars_none hV
  have k0 := h0
  have lt0 : ∀ x ∈ p0, x.block < W.heap.size := by obtain ⟨m, hm⟩ := k0; exact DataW.trod_lt m _ _ _ hm
  obtain ⟨m, hm⟩ := h0
  have hcells : v0.cells.toList = [v0] := by
    obtain ⟨a1, len, cap, rfl⟩ := okWide_slice Try.underlying54 (hval 0 54 v0 rfl rfl)
    rfl
  rw [hcells] at hm
  obtain ⟨bs, hb⟩ := read_bytes hm
  clear hA0 hval0
  have hcfn : Den.CFn Try.prog 6 [.one (.l .u bs)] [] (.one (.b true)) [] := by
    obtain ⟨v, H', e, k⟩ := Den.unrolled_ok (Den.AT × List Den.Ob) [.one (.l .u bs)] [] (fun v H' => some (v, H')) _ rfl
    cases e
    exact k
  refine (calls_bytes hcfn hb).mono fun e W' ⟨he, bel⟩ => ?_
  subst he
  exact ⟨_, rfl, _, _, _, [], _, [], hW', trodAll_mk1 (shut_bool Try.underlying4 _), (trodAll_cons_mk (Below.trod Try.laidOut (by kernel_rfl) (of_decide_eq_true (by kernel_rfl)) k0 bel lt0) trodAll_mk0), rfl, bel.frame _, fun h => by cases h⟩

theorem fnUnrolled_holds : Rows.FnUnrolledSaid :=
  OpenClaim.holds_of_wide 6 Try.f6 rfl rfl rfl rfl rfl rfl rfl ⟨rfl, rfl, rfl, rfl, rfl⟩ rfl rfl rfl rfl rfl (by kernel_rfl) Try.func6 (by kernel_rfl)
    (of_decide_eq_true (by kernel_rfl)) (by unfold Func.isWrapper; rw [if_neg (by decide +kernel)]; exact ⟨rfl, rfl⟩)
    (fun os started H enc _ => fnUnrolled_lifted os started H enc)

end Go.Proofs.Ytagnfckihdlhpaa

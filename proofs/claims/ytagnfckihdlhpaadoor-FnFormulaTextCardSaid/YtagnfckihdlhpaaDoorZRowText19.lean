/-
  Texts that the claim rests on, merged: PC, Fm4.
-/
import Derived.Test.YtagnfckihdlhpaaDoorZRowText10
import Derived.Test.YtagnfckihdlhpaaDoorZRowText17
import Derived.Test.YtagnfckihdlhpaaDoorZRowText18

/-
  Functions of the program, by den. Printed by wip/den/dp.py.
-/
namespace Go.Proofs.YtagnfckihdlhpaaDoor.Den
open Go.RowKit
set_option maxRecDepth 100000
set_option linter.unusedVariables false
namespace l_FnExactFormatFormula
structure Gs where
  l_szFormula : Fm → Int → Option (Int)
  l_toFormula : Fm → Option (Fm)
  s_FormatFormula : Fm → Option (ByteArray)
  i_FormatFormula : Fm → Option (ByteArray)
  l_eqFormula : Fm → Fm → Option (Bool)
noncomputable def ents (G : Gs) : List Ent := [l_szFormula.ent G.l_szFormula, l_toFormula.ent G.l_toFormula, s_FormatFormula.ent G.s_FormatFormula, i_FormatFormula.ent G.i_FormatFormula, l_eqFormula.ent G.l_eqFormula]
noncomputable def main {R : Type} (G : Gs) (n : Nat) (aF : Fm) (K : Bool → Option R) : Option R :=
  Option.bind (G.l_szFormula (Fm.mk (Fm.kind aF) (Fm.prop aF) (Fm.kids aF)) 1048576) fun r =>
  bif decide (r < 0) then
    (K true)
  else
    Option.bind (G.l_toFormula (Fm.mk (Fm.kind aF) (Fm.prop aF) (Fm.kids aF))) fun r2 =>
    Option.bind (G.s_FormatFormula (Fm.mk (Fm.kind r2) (Fm.prop r2) (Fm.kids r2))) fun r3 =>
    Option.bind (G.l_toFormula (Fm.mk (Fm.kind aF) (Fm.prop aF) (Fm.kids aF))) fun r4 =>
    Option.bind (G.i_FormatFormula (Fm.mk (Fm.kind r4) (Fm.prop r4) (Fm.kids r4))) fun r5 =>
    bif !sEq r5 r3 then
      (K false)
    else
      Option.bind (G.l_toFormula (Fm.mk (Fm.kind aF) (Fm.prop aF) (Fm.kids aF))) fun r7 =>
      Option.bind (G.l_eqFormula (Fm.mk (Fm.kind r4) (Fm.prop r4) (Fm.kids r4)) (Fm.mk (Fm.kind r7) (Fm.prop r7) (Fm.kids r7))) fun r9 =>
      bif !r9 then
        (K false)
      else
        K true
noncomputable def pc (_ : Gs) (_ : Nat) : Pcs := ⟨fun _ _ _ _ => none, fun _ _ _ _ => none, fun _ _ _ _ => none⟩
noncomputable def an : Ann := ⟨27, 0, [], [], [2], [(10, ⟨[([0, 1, 2, 3, 4], [], [])], [], [], [0, 1], []⟩)]⟩
theorem allp {G : Gs} (hG : AllE Tryd.prog (ents G)) (n : Nat) : AllP Tryd.prog an (pc G n) (pieces an (bodyOf Tryd.f3)) := by
    have h : pieces an (bodyOf Tryd.f3) = [] := by kernel_rfl
    rw [h]
    exact trivial
/-- What the function computes. -/
noncomputable def Does (G : Gs) (aF : Fm) (r : Bool) : Prop := ∃ n, main (R := AT × List Ob) G n aF (fun r0 => some (.one (.b r0), [])) = some (.one (.b r), [])
theorem eq (G : Gs) (n : Nat) (aF : Fm) : den tb (orcOf (ents G)) (pc G n) an (bodyOf Tryd.f3) ⟨argsD 0 [.agg [.i (Fm.kind aF), .i (Fm.prop aF), .l (.n 2) (Fm.kids aF)]], []⟩ (atEnd (finF tb an [.tmp 2])) = main (R := AT × List Ob) G n aF (fun r0 => some (.one (.b r0), [])) := by kernel_rfl
theorem ok {G : Gs} (hG : AllE Tryd.prog (ents G)) {g : Fm → Option (Bool)} (hg : ∀ aF r, g aF = some r → Does G aF r) : EntOK Tryd.prog (ent g) := fun R xs H K r hc => by
  simp only [ent] at hc
  split at hc
  · rename_i a a2 a3
    obtain ⟨r, q1, q2⟩ := bind_some hc
    obtain ⟨n, q3⟩ := hg (Fm.mk a a2 a3) _ q1
    exact ⟨_, _, q2, fn_of_den (pc := pc G n) (an := an) (xs := [.agg [.i a, .i a2, .l (.n 2) a3]]) (H := []) (fin := finF tb an [.tmp 2]) mixed tb_ok (orc_ok hG) (fn := Tryd.f3) (c := bodyOf Tryd.f3) Tryd.func3 (by kernel_rfl) (by kernel_rfl) (by kernel_rfl) (by kernel_rfl) (by kernel_rfl) (rs := [.tmp 2]) (by kernel_rfl) (.inl rfl) (allp hG n) ((eq G n (Fm.mk a a2 a3)).trans q3)⟩
  · cases hc
end l_FnExactFormatFormula
end Go.Proofs.YtagnfckihdlhpaaDoor.Den

/-
  FormatFormula: program and reference agree; the law FnExactFormatFormula answers true.
-/
namespace Go.Proofs.YtagnfckihdlhpaaDoor.Den
open Go.RowKit
open Classical

abbrev gIs (k : Nat) : Fm → Option Bool := fun f => if f.size ≤ k then some (isFormula f) else none
abbrev gFmt (k : Nat) : Fm → Option ByteArray := fun f => if f.size ≤ k then some (bif isFormula f then Fm.text f else ByteArray.empty) else none
theorem i_IsFormula_ok (k : Nat) (hk : k ≤ 4294967296) : EntOK Tryd.prog (i_IsFormula.ent (gIs k)) := i_IsFormula.ok (G := ⟨gSize k, gOk k⟩) ⟨formulaSize_ok k hk, formulaOK_ok k hk, trivial⟩ fun f r h => by
  unfold gIs at h
  split at h
  · rename_i hs
    cases h
    refine ⟨1, ?_⟩
    unfold i_IsFormula.main
    have e1 : gSize k f = some (f.size : Int) := if_pos hs
    have e2 : gOk k f = some f.ok := if_pos hs
    simp only [Fm.eta]
    rw [e1, Option.bind_some, e2]
    unfold isFormula
    by_cases h12 : f.size ≤ 12
    · rw [decide_eq_true (by omega), decide_eq_true h12]; rfl
    · rw [decide_eq_false (by omega), decide_eq_false h12]; rfl
  · cases h
section
variable {R : Type}
theorem left_loop (n k : Nat) (a b : Int) (kids : List Fm) (hk : ∀ x ∈ kids, x.size ≤ k) (hn : kids.length ≤ 4294967296) (k0 : Int → Option R) : ∀ m (L i : Int), -1 ≤ L → L ≤ 12 → 0 ≤ i → i ≤ kids.length → (kids.length - i).toNat < m →
    s_l31Left.l3 ⟨gLeft k⟩ n m L i a b kids k0 = k0 (if L < 0 then -1 else if ((wS Fm.size (kids.drop i.toNat) : Nat) : Int) ≤ L then L - (wS Fm.size (kids.drop i.toNat) : Nat) else -1) := by
  intro m
  induction m with
  | zero => intro L i _ _ _ _ hm; omega
  | succ m ih =>
    intro L i l0 l1 q0 q1 hm
    show s_l31Left.b3 ⟨gLeft k⟩ n L i a b kids (fun y0 y1 y2 y3 y4 => s_l31Left.l3 ⟨gLeft k⟩ n m y0 y1 y2 y3 y4 k0) k0 = _
    unfold s_l31Left.b3
    by_cases hi : i < (kids.length : Int)
    · rw [decide_eq_true hi, cond_true]
      by_cases hL : 0 ≤ L
      · obtain ⟨x, x1, x2, x3, _⟩ := drop_step q0 hi
        rw [decide_eq_true hL, cond_true, x1, Option.bind_some, Fm.eta]
        show Option.bind (gLeft k x L) _ = _
        have e : gLeft k x L = some (if (x.size : Int) ≤ L then L - x.size else -1) := if_pos ⟨hk x x2, hL, l1⟩
        rw [e, Option.bind_some, wr_in (x := i + 1) (by omega)]
        refine (ih _ (i + 1) (by split <;> omega) (by split <;> omega) (by omega) (by omega) (by omega)).trans ?_
        congr 1
        rw [x3, wS_cons]
        split <;> split <;> split <;> (try split) <;> omega
      · rw [decide_eq_false hL, cond_false, if_pos (by omega)]
        congr 1
        omega
    · rw [decide_eq_false hi, cond_false, drop_all hi, wS_nil]
      congr 1
      split
      · omega
      · rw [if_pos (by omega)]; omega
end
theorem gLeft_zero : gLeft 0 = fun _ _ => none := by
  funext f l
  unfold gLeft
  rw [if_neg (by rw [Fm.size_eq]; omega)]
theorem l31Left_ok : ∀ k, k ≤ 4294967296 → EntOK Tryd.prog (s_l31Left.ent (gLeft k))
  | 0, _ => by
    rw [gLeft_zero]
    intro R xs H K r h
    simp only [s_l31Left.ent] at h
    split at h <;> cases h
  | k + 1, hk => s_l31Left.ok (G := ⟨gLeft k⟩) ⟨l31Left_ok k (by omega), trivial⟩ fun f left r h => by
    unfold gLeft at h
    split at h
    · rename_i hs
      cases h
      have h2 := len_size f
      refine ⟨f.kids.length + 1, ?_⟩
      unfold s_l31Left.main
      rw [wr_in (by omega), left_loop _ k _ _ f.kids (fun x hx => by have := size_mem hx; omega) (by omega) _ _ (left - 1) 0 (by omega) (by omega) (by omega) (by omega) (by omega)]
      simp only [Int.toNat_zero, List.drop_zero]
      have := sizes_eq f
      congr 4
      split <;> split <;> (try split) <;> omega
    · cases h
theorem s_IsFormula_ok (k : Nat) (hk : k ≤ 4294967296) : EntOK Tryd.prog (s_IsFormula.ent (gIs k)) := s_IsFormula.ok (G := ⟨gLeft k, gOk k⟩) ⟨l31Left_ok k hk, l31Right_ok k hk, trivial⟩ fun f r h => by
  unfold gIs at h
  split at h
  · rename_i hs
    cases h
    refine ⟨1, ?_⟩
    unfold s_IsFormula.main
    have e1 : gLeft k f 12 = some (if (f.size : Int) ≤ 12 then (12 : Int) - f.size else (-1 : Int)) := if_pos ⟨hs, by omega, by omega⟩
    have e2 : gOk k f = some f.ok := if_pos hs
    simp only [Fm.eta]
    rw [e1, Option.bind_some, e2]
    unfold isFormula
    by_cases h12 : f.size ≤ 12
    · rw [if_pos (by omega), decide_eq_true (by omega), decide_eq_true h12]; rfl
    · rw [if_neg (by omega), decide_eq_false (by omega), decide_eq_false h12]; rfl
  · cases h
theorem isF_parts {f : Fm} (h : isFormula f = true) : f.size ≤ 12 ∧ f.ok = true := by
  unfold isFormula at h
  rw [Bool.and_eq_true, decide_eq_true_eq] at h
  exact h
theorem i_FormatFormula_ok (k : Nat) (hk : k ≤ 4294967296) : EntOK Tryd.prog (i_FormatFormula.ent (gFmt k)) := i_FormatFormula.ok (G := ⟨gIs k, gText 12⟩) ⟨i_IsFormula_ok k hk, formulaText_ok 12, trivial⟩ fun f r h => by
  unfold gFmt at h
  split at h
  · rename_i hs
    cases h
    refine ⟨1, ?_⟩
    unfold i_FormatFormula.main
    have e1 : gIs k f = some (isFormula f) := if_pos hs
    simp only [Fm.eta]
    rw [e1, Option.bind_some]
    cases hf : isFormula f
    · rfl
    · have e2 : gText 12 f = some (Fm.text f) := if_pos ⟨(isF_parts hf).1, (isF_parts hf).1, (isF_parts hf).2⟩
      rw [Bool.not_true, cond_false, e2]; rfl
  · cases h
theorem s_FormatFormula_ok (k : Nat) (hk : k ≤ 4294967296) : EntOK Tryd.prog (s_FormatFormula.ent (gFmt k)) := s_FormatFormula.ok (G := ⟨gIs k, gText 12⟩) ⟨s_IsFormula_ok k hk, l31Text_ok 12, trivial⟩ fun f r h => by
  unfold gFmt at h
  split at h
  · rename_i hs
    cases h
    refine ⟨1, ?_⟩
    unfold s_FormatFormula.main
    have e1 : gIs k f = some (isFormula f) := if_pos hs
    simp only [Fm.eta]
    rw [e1, Option.bind_some]
    cases hf : isFormula f
    · rfl
    · have e2 : gText 12 f = some (Fm.text f) := if_pos ⟨(isF_parts hf).1, (isF_parts hf).1, (isF_parts hf).2⟩
      rw [Bool.not_true, cond_false, e2]; rfl
  · cases h

-- the laws' own functions
theorem fit_kids {f : Fm} (h : Fit (.n 2) f) : FitC (.l (.n 2) f.kids) := h _ (by simp [explode])
theorem total_kids (f : Fm) : f.total = totals f.kids := Fm.total_eq f
theorem totals_cons (x : Fm) (l : List Fm) : totals (x :: l) = 1 + x.total + totals l := by unfold totals; simp only [List.length_cons, List.map_cons, List.sum_cons]; omega
theorem totals_nil : totals [] = 0 := rfl
theorem totals_mem {x : Fm} {l : List Fm} (h : x ∈ l) : x.total < totals l := by
  induction l with
  | nil => simp at h
  | cons y l ih =>
    rw [totals_cons]
    rcases List.mem_cons.1 h with rfl | h
    · omega
    · have := ih h; omega
theorem totals_len (l : List Fm) : l.length ≤ totals l := by unfold totals; omega
/-- Copies and comparisons. -/
abbrev gTo (k : Nat) : Fm → Option Fm := fun f => if f.total < k then some f else none
abbrev gToS (k : Nat) : List Fm → Option (List Fm) := fun l => if totals l < k then some l else none
theorem toS_ok (k : Nat) (hk : k ≤ 2097152) (e : EntOK Tryd.prog (l_toFormula.ent (gTo k))) : EntOK Tryd.prog (l_toFormulaS.ent (gToS (k + 1))) := l_toFormulaS.ok (G := ⟨gTo k⟩) ⟨e, trivial⟩ fun xs r h => by
  unfold gToS at h
  split at h
  · rename_i hs
    cases h
    have hlen := totals_len xs
    refine ⟨xs.length + 1, ?_⟩
    unfold l_toFormulaS.main
    rw [mk_nat (by omega), Option.bind_some]
    refine Eq.trans (iter_rule (body := fun v nx => l_toFormulaS.b3 ⟨gTo k⟩ (xs.length + 1) v.1 v.2.1 v.2.2 (fun y0 y1 y2 => nx (y0, y1, y2)) (fun h => some (AT.one (.l (.n 2) h), ([] : List Ob)))) (Q := fun v => v.1 = xs ∧ 0 ≤ v.2.1 ∧ v.2.1 ≤ xs.length ∧ v.2.2.length = xs.length ∧ v.2.2.take v.2.1.toNat = xs.take v.2.1.toNat) (μ := fun v => (xs.length - v.2.1).toNat) (f := fun _ => some (AT.one (.l (.n 2) xs), [])) ?_ (xs.length + 1) (xs, 0, _) ⟨rfl, by simp, by simp, by simp, by simp⟩ (by simp)) rfl
    rintro ⟨a, i, h⟩ nx ⟨e0, q0, q1, q2, q3⟩ ih
    simp only at e0 q0 q1 q2 q3 ih ⊢
    subst e0
    unfold l_toFormulaS.b3
    by_cases hi : i < (List.length a : Int)
    · obtain ⟨x, x1, x2, _, x4⟩ := drop_step q0 hi
      obtain ⟨y, y1⟩ := ix_len (a := h) q0 (by omega)
      rw [decide_eq_true hi, cond_true, x1, Option.bind_some, Fm.eta]
      show Option.bind (gTo k x) _ = _
      have e : gTo k x = some x := if_pos (by have := totals_mem x2; omega)
      rw [e, Option.bind_some, y1, Option.bind_some, wr_in (x := i + 1) (by omega), Fm.eta]
      obtain ⟨s1, s2⟩ := set_take q0 hi q2 q3 x4
      exact ih (a, i + 1, _) ⟨rfl, by simp only; omega, by simp only; omega, s1, s2⟩ (by simp only; omega)
    · rw [decide_eq_false hi, cond_false, full_take hi q2 q3]
  · cases h
theorem toF_ok : ∀ k, k ≤ 2097152 → EntOK Tryd.prog (l_toFormula.ent (gTo k))
  | 0, _ => by
    intro R xs H K r h
    simp only [l_toFormula.ent] at h
    split at h
    · cases h
    · cases h
  | k + 1, hk => l_toFormula.ok (G := ⟨gToS (k + 1)⟩) ⟨toS_ok k (by omega) (toF_ok k (by omega)), trivial⟩ fun f r h => by
    unfold gTo at h
    split at h
    · rename_i hs
      cases h
      refine ⟨1, ?_⟩
      unfold l_toFormula.main
      have e : gToS (k + 1) f.kids = some f.kids := if_pos (by rw [← total_kids]; exact hs)
      show Option.bind (gToS (k + 1) f.kids) _ = _
      rw [e]
      rfl
    · cases h
noncomputable def gEqF (k : Nat) : Fm → Fm → Option Bool := fun f g => if f = g ∧ f.total < k then some true else none
noncomputable def gEqS (k : Nat) : List Fm → List Fm → Option Bool := fun f g => if f = g ∧ totals f < k then some true else none
theorem eqS_ok (k : Nat) (hk : k ≤ 2097152) (e : EntOK Tryd.prog (l_eqFormula.ent (gEqF k))) : EntOK Tryd.prog (l_eqFormulaS.ent (gEqS (k + 1))) := l_eqFormulaS.ok (G := ⟨gEqF k⟩) ⟨e, trivial⟩ fun xs ys r h => by
  unfold gEqS at h
  split at h
  · rename_i hs
    obtain ⟨hxy, hs⟩ := hs
    subst hxy
    cases h
    have hlen := totals_len xs
    refine ⟨xs.length + 1, ?_⟩
    unfold l_eqFormulaS.main
    rw [decide_eq_true rfl, Bool.not_true, cond_false]
    refine Eq.trans (iter_rule (body := fun v nx => l_eqFormulaS.b4 ⟨gEqF k⟩ (xs.length + 1) v.1 v.2.1 v.2.2 (fun y0 y1 y2 => nx (y0, y1, y2)) (fun t => some (AT.one (.b t), ([] : List Ob))) (some (AT.one (.b true), []))) (Q := fun v => v.1 = xs ∧ v.2.1 = xs ∧ 0 ≤ v.2.2 ∧ v.2.2 ≤ xs.length) (μ := fun v => (xs.length - v.2.2).toNat) (f := fun _ => some (AT.one (.b true), [])) ?_ (xs.length + 1) (xs, xs, 0) ⟨rfl, rfl, by simp, by simp⟩ (by simp)) rfl
    rintro ⟨a, b, i⟩ nx ⟨e1, e0, q0, q1⟩ ih
    simp only at e1 e0 q0 q1 ih ⊢
    subst e1
    subst e0
    unfold l_eqFormulaS.b4
    by_cases hi : i < (List.length b : Int)
    · obtain ⟨x, x1, x2, _, x4⟩ := drop_step q0 hi
      rw [decide_eq_true hi, cond_true, x1, Option.bind_some, Option.bind_some, Fm.eta]
      show Option.bind (gEqF k x x) _ = _
      have e : gEqF k x x = some true := if_pos ⟨rfl, by have := totals_mem x2; omega⟩
      rw [e, Option.bind_some, Bool.not_true, cond_false, wr_in (x := i + 1) (by omega)]
      exact ih (b, b, i + 1) ⟨rfl, rfl, by simp only; omega, by simp only; omega⟩ (by simp only; omega)
    · rw [decide_eq_false hi, cond_false]
  · cases h
theorem eqF_ok : ∀ k, k ≤ 2097152 → EntOK Tryd.prog (l_eqFormula.ent (gEqF k))
  | 0, _ => by
    intro R xs H K r h
    simp only [l_eqFormula.ent] at h
    split at h
    · simp [gEqF] at h
    · cases h
  | k + 1, hk => l_eqFormula.ok (G := ⟨gEqS (k + 1)⟩) ⟨eqS_ok k (by omega) (eqF_ok k (by omega)), trivial⟩ fun f g r h => by
    unfold gEqF at h
    split at h
    · rename_i hs
      obtain ⟨hxy, hs⟩ := hs
      subst hxy
      cases h
      refine ⟨1, ?_⟩
      unfold l_eqFormula.main
      have e : gEqS (k + 1) f.kids f.kids = some true := if_pos ⟨rfl, by rw [← total_kids]; exact hs⟩
      rw [decide_eq_true rfl, decide_eq_true rfl, Bool.not_true, cond_false, cond_false]
      show Option.bind (gEqS (k + 1) f.kids f.kids) _ = _
      rw [e]
      rfl
    · cases h
/-- Sizes. -/
noncomputable def gSz (k : Int) : Fm → Int → Option Int := fun f left => if Fit (.n 2) f ∧ 0 ≤ left ∧ left ≤ k then some (if ((Fm.total f : Nat) : Int) ≤ left then left - (Fm.total f : Nat) else (-1 : Int)) else none
noncomputable def gSzS (k : Int) : List Fm → Int → Option Int := fun l left => if FitC (.l (.n 2) l) ∧ 0 ≤ left ∧ left ≤ k then some (if ((totals l : Nat) : Int) ≤ left then left - (totals l : Nat) else (-1 : Int)) else none
section
variable {R : Type}
theorem sz_loop (n : Nat) (k : Int) (xs : List Fm) (hf : FitC (.l (.n 2) xs)) (hl : xs.length ≤ 2097152) (k0 k1 : Int → Option R) : ∀ m (L i : Int), 0 ≤ L → L ≤ k → 0 ≤ i → i ≤ xs.length → (xs.length - i).toNat < m →
    l_szFormulaS.l5 ⟨gSz k⟩ n m xs L i k0 k1 = if ((((xs.drop i.toNat).map Fm.total).sum : Nat) : Int) ≤ L then k1 (L - (((xs.drop i.toNat).map Fm.total).sum : Nat)) else k0 (-1) := by
  intro m
  induction m with
  | zero => intro L i _ _ _ _ hm; omega
  | succ m ih =>
    intro L i l0 l1 q0 q1 hm
    show l_szFormulaS.b5 ⟨gSz k⟩ n xs L i (fun y0 y1 y2 => l_szFormulaS.l5 ⟨gSz k⟩ n m y0 y1 y2 k0 k1) k0 k1 = _
    unfold l_szFormulaS.b5
    by_cases hi : i < (xs.length : Int)
    · obtain ⟨x, x1, x2, x3, _⟩ := drop_step q0 hi
      rw [decide_eq_true hi, cond_true, x1, Option.bind_some, Fm.eta, x3, List.map_cons, List.sum_cons]
      show Option.bind (gSz k x L) _ = _
      have e : gSz k x L = some (if ((Fm.total x : Nat) : Int) ≤ L then L - (Fm.total x : Nat) else (-1 : Int)) := if_pos ⟨hf.mem x x2, l0, l1⟩
      rw [e, Option.bind_some]
      by_cases c : ((Fm.total x : Nat) : Int) ≤ L
      · rw [if_pos c, decide_eq_false (by omega), cond_false, wr_in (x := i + 1) (by omega)]
        refine (ih _ (i + 1) (by omega) (by omega) (by omega) (by omega) (by omega)).trans ?_
        by_cases c2 : ((((xs.drop (i + 1).toNat).map Fm.total).sum : Nat) : Int) ≤ L - (Fm.total x : Nat)
        · rw [if_pos c2, if_pos (by omega)]
          congr 1
          omega
        · rw [if_neg c2, if_neg (by omega)]
      · rw [if_neg c, decide_eq_true (by omega), cond_true, if_neg (by omega)]
    · rw [decide_eq_false hi, cond_false, drop_all hi, List.map_nil, List.sum_nil, if_pos (by omega)]
      congr 1
      omega
end
theorem sz_nil {R : Type} (G : l_szFormulaS.Gs) (n m : Nat) (L : Int) (k0 k1 : Int → Option R) : l_szFormulaS.l5 G n (m + 1) [] L 0 k0 k1 = k1 L := by
  show l_szFormulaS.b5 G n [] L 0 (fun y0 y1 y2 => l_szFormulaS.l5 G n m y0 y1 y2 k0 k1) k0 k1 = _
  unfold l_szFormulaS.b5
  rw [decide_eq_false (by simp), cond_false]
theorem szS_ok (k : Int) (hk : k ≤ 2097151) (e : EntOK Tryd.prog (l_szFormula.ent (gSz k))) : EntOK Tryd.prog (l_szFormulaS.ent (gSzS (k + 1))) := l_szFormulaS.ok (G := ⟨gSz k⟩) ⟨e, trivial⟩ fun xs left r h => by
  unfold gSzS at h
  split at h
  · rename_i hs
    obtain ⟨hf, h0, h1⟩ := hs
    cases h
    have hlen : xs.length ≤ 9223372036854775807 := hf.len
    have ht := totals_len xs
    refine ⟨xs.length + 1, ?_⟩
    unfold l_szFormulaS.main
    rw [wr_in (x := left - (xs.length : Int)) (by omega)]
    by_cases c : (xs.length : Int) ≤ left
    · rw [decide_eq_false (by omega), cond_false]
      rcases Nat.eq_zero_or_pos xs.length with hz | hp
      · have : xs = [] := List.eq_nil_of_length_eq_zero hz
        subst this
        rw [totals_nil, if_pos (by omega)]
        simp only [List.length_nil]
        rw [sz_nil]
      · rw [sz_loop _ k xs hf (by omega) _ _ _ _ 0 (by omega) (by omega) (by omega) (by omega) (by omega)]
        simp only [Int.toNat_zero, List.drop_zero]
        have hT : totals xs = xs.length + (xs.map Fm.total).sum := rfl
        by_cases c2 : (((xs.map Fm.total).sum : Nat) : Int) ≤ left - xs.length
        · rw [if_pos c2, if_pos (by omega)]
          congr 4
          omega
        · rw [if_neg c2, if_neg (by omega)]
    · rw [decide_eq_true (by omega), cond_true, if_neg (by omega)]
  · cases h
theorem szF_ok : ∀ k : Nat, k ≤ 2097152 → EntOK Tryd.prog (l_szFormula.ent (gSz ((k : Int) - 1)))
  | 0, _ => by
    intro R xs H K r h
    simp only [l_szFormula.ent] at h
    split at h
    · rename_i a b c d
      have : gSz (((0 : Nat) : Int) - 1) ⟨a, b, c⟩ d = none := if_neg (by omega)
      rw [this] at h
      cases h
    · cases h
  | k + 1, hk => l_szFormula.ok (G := ⟨gSzS (k : Int)⟩) ⟨by have := szS_ok ((k : Int) - 1) (by omega) (szF_ok k (by omega)); rwa [show (k : Int) - 1 + 1 = k by omega] at this, trivial⟩ fun f left r h => by
    unfold gSz at h
    split at h
    · rename_i hs
      obtain ⟨hf, h0, h1⟩ := hs
      cases h
      refine ⟨1, ?_⟩
      unfold l_szFormula.main
      have e : gSzS (k : Int) f.kids left = some (if ((totals f.kids : Nat) : Int) ≤ left then left - (totals f.kids : Nat) else (-1 : Int)) := if_pos ⟨fit_kids hf, h0, by omega⟩
      show Option.bind (gSzS (k : Int) f.kids left) _ = _
      rw [e, Option.bind_some, total_kids]
      by_cases c : ((totals f.kids : Nat) : Int) ≤ left
      · rw [if_pos c, decide_eq_false (by omega)]; rfl
      · rw [if_neg c]; rfl
    · cases h

theorem formatFormula_law : ∃ g, EntOK Tryd.prog (l_FnExactFormatFormula.ent g) ∧ ∀ f, Fit (.n 2) f → ∃ r, g f = some r ∧ r = true := by
  refine by_pick (fun g hg => l_FnExactFormatFormula.ok (G := { l_szFormula := gSz 1048576, l_toFormula := gTo 1048577, s_FormatFormula := gFmt 1048577, i_FormatFormula := gFmt 1048577, l_eqFormula := gEqF 1048577 }) ⟨szF_ok 1048577 (by omega), toF_ok _ (by omega), s_FormatFormula_ok _ (by omega), i_FormatFormula_ok _ (by omega), eqF_ok _ (by omega), trivial⟩ hg) fun f hf => ⟨true, ⟨1, ?_⟩, rfl⟩
  unfold l_FnExactFormatFormula.main
  simp only [Fm.eta]
  have e1 : gSz 1048576 f 1048576 = some (if ((Fm.total f : Nat) : Int) ≤ 1048576 then 1048576 - ((Fm.total f : Nat) : Int) else (-1 : Int)) := if_pos ⟨hf, by omega, by omega⟩
  rw [e1, Option.bind_some]
  by_cases c : ((Fm.total f : Nat) : Int) ≤ 1048576
  · have e2 : gTo 1048577 f = some f := if_pos (by omega)
    have e3 : gFmt 1048577 f = some (bif isFormula f then Fm.text f else ByteArray.empty) := if_pos (by unfold Fm.size; omega)
    have e4 : gEqF 1048577 f f = some true := if_pos ⟨rfl, by omega⟩
    rw [if_pos c, decide_eq_false (by omega), cond_false]
    simp only [e2, e3, e4, Option.bind_some]
    have e5 : ∀ s : ByteArray, sEq s s = true := fun s => by unfold sEq; simp
    rw [e5]; rfl
  · rw [if_neg c]; rfl
end Go.Proofs.YtagnfckihdlhpaaDoor.Den

/-
  Texts that the claim rests on, merged: Fm5, Fm6.
-/
import Derived.Test.YtagnfckihdlhpaaDoorZRowText12
import Derived.Test.YtagnfckihdlhpaaDoorZRowText13
import Derived.Test.YtagnfckihdlhpaaDoorZRowText17
import Derived.Test.YtagnfckihdlhpaaDoorZRowText19

/-
  Different valid formulas have different texts.
-/
namespace Go.Proofs.YtagnfckihdlhpaaDoor.Den
open Go.RowKit

def textL (f : Fm) : List UInt8 := (Fm.text f).data.toList
def hd (k : Int) : List UInt8 := if k = 1 then [116, 114, 117, 101] else if k = 2 then [112] else if k = 3 then [110, 111, 116, 40] else if k = 4 then [97, 110, 100, 40] else if k = 5 then [111, 114, 40] else if k = 6 then [110, 101, 120, 116, 40] else [117, 110, 116, 105, 108, 40]
theorem hd_inj {k k' : Int} (h : 1 ≤ k ∧ k ≤ 7) (h' : 1 ≤ k' ∧ k' ≤ 7) {x y : List UInt8} (e : hd k ++ x = hd k' ++ y) : k = k' ∧ x = y := by
  have c : k = 1 ∨ k = 2 ∨ k = 3 ∨ k = 4 ∨ k = 5 ∨ k = 6 ∨ k = 7 := by omega
  have c' : k' = 1 ∨ k' = 2 ∨ k' = 3 ∨ k' = 4 ∨ k' = 5 ∨ k' = 6 ∨ k' = 7 := by omega
  rcases c with rfl | rfl | rfl | rfl | rfl | rfl | rfl <;> rcases c' with rfl | rfl | rfl | rfl | rfl | rfl | rfl <;> first | exact ⟨rfl, List.append_cancel_left e⟩ | (exfalso; simp [hd] at e)
theorem prop_zero {f : Fm} (h : f.ok = true) (h2 : f.kind ≠ 2) : f.prop = 0 := by
  rw [ok_parts_eq, Bool.and_eq_true, decide_eq_true_eq] at h
  obtain ⟨⟨_, _, _, h4⟩, _⟩ := h
  omega
theorem word_hd {k : Int} (h : 3 ≤ k ∧ k ≤ 7) : (word k).data.toList ++ [40] = hd k := by
  have c : k = 3 ∨ k = 4 ∨ k = 5 ∨ k = 6 ∨ k = 7 := by omega
  rcases c with rfl | rfl | rfl | rfl | rfl <;> rfl
theorem text1 {f : Fm} (h : f.kind = 1) : textL f = hd 1 := by
  unfold textL
  rw [text_eq, if_pos h]; rfl
theorem text2 {f : Fm} (h : f.kind = 2) (hq : 0 ≤ f.prop ∧ f.prop ≤ 7) : textL f = hd 2 ++ [UInt8.ofNat (48 + f.prop.toNat)] := by
  unfold textL
  rw [text_eq, if_neg (by omega), if_pos h, ba_app, numB_eq hq]; rfl
theorem text3 {f a : Fm} (h : f.kind = 3 ∨ f.kind = 6) (hk : f.kids = [a]) : textL f = hd f.kind ++ (textL a ++ [41]) := by
  unfold textL
  rw [text_eq, if_neg (by omega), if_neg (by omega), hk, ba_app, ba_app, ba_app, List.map_cons, List.map_nil, joinB_one, ← word_hd (by omega)]
  simp [List.append_assoc]
theorem text4 {f a b : Fm} (h : f.kind = 4 ∨ f.kind = 5 ∨ f.kind = 7) (hk : f.kids = [a, b]) : textL f = hd f.kind ++ (textL a ++ ([44, 32] ++ (textL b ++ [41]))) := by
  unfold textL
  rw [text_eq, if_neg (by omega), if_neg (by omega), hk, ba_app, ba_app, ba_app, List.map_cons, List.map_cons, List.map_nil, joinB_two, ba_app, ba_app, ← word_hd (by omega)]
  simp [List.append_assoc, sep2]
/-- What a text begins with. -/
theorem text_hd {f : Fm} (h : f.ok = true) : 1 ≤ f.kind ∧ f.kind ≤ 7 ∧ ∃ r, textL f = hd f.kind ++ r := by
  rcases ok_cases h with ⟨c, _⟩ | ⟨c, _, q0, q1⟩ | ⟨c, a, hk, ha⟩ | ⟨c, a, b, hk, ha, hb⟩
  · exact ⟨by omega, by omega, [], by rw [text1 c, c, List.append_nil]⟩
  · exact ⟨by omega, by omega, _, by rw [text2 c ⟨q0, q1⟩, c]⟩
  · exact ⟨by omega, by omega, _, text3 c hk⟩
  · exact ⟨by omega, by omega, _, text4 c hk⟩
theorem fm_ext {f g : Fm} (h1 : f.kind = g.kind) (h2 : f.prop = g.prop) (h3 : f.kids = g.kids) : f = g := by
  cases f; cases g
  simp only at h1 h2 h3
  subst h1; subst h2; subst h3
  rfl
theorem text_inj : ∀ (n : Nat) (f g : Fm) (s t : List UInt8), f.size ≤ n → f.ok = true → g.ok = true → textL f ++ s = textL g ++ t → f = g ∧ s = t := by
  intro n
  induction n with
  | zero => intro f g s t h; rw [Fm.size_eq] at h; omega
  | succ n ih =>
    intro f g s t hn hf hg e
    obtain ⟨f1, f7, rf, ef⟩ := text_hd hf
    obtain ⟨g1, g7, rg, eg⟩ := text_hd hg
    have hkk : f.kind = g.kind := by
      rw [ef, eg, List.append_assoc, List.append_assoc] at e
      exact (hd_inj ⟨f1, f7⟩ ⟨g1, g7⟩ e).1
    have hs := Fm.size_eq f
    rcases ok_cases hf with ⟨c, hk⟩ | ⟨c, hk, q0, q1⟩ | ⟨c, a, hk, ha⟩ | ⟨c, a, b, hk, ha, hb⟩ <;> rcases ok_cases hg with ⟨c', hk'⟩ | ⟨c', hk', q0', q1'⟩ | ⟨c', a', hk', ha'⟩ | ⟨c', a', b', hk', ha', hb'⟩ <;> first | (exfalso; omega) | skip
    · rw [text1 c, text1 c'] at e
      exact ⟨fm_ext hkk (by rw [prop_zero hf (by omega), prop_zero hg (by omega)]) (by rw [hk, hk']), List.append_cancel_left e⟩
    · rw [text2 c ⟨q0, q1⟩, text2 c' ⟨q0', q1'⟩, List.append_assoc, List.append_assoc] at e
      have e2 := List.append_cancel_left e
      simp only [List.singleton_append, List.cons.injEq] at e2
      have e3 : f.prop = g.prop := by
        have := congrArg UInt8.toNat e2.1
        simp only [UInt8.toNat_ofNat'] at this
        omega
      exact ⟨fm_ext hkk e3 (by rw [hk, hk']), e2.2⟩
    · rw [text3 c hk, text3 c' hk', hkk] at e
      simp only [List.append_assoc] at e
      have e2 := List.append_cancel_left e
      rw [hk] at hs
      simp only [List.map_cons, List.map_nil, List.sum_cons, List.sum_nil] at hs
      obtain ⟨e3, e4⟩ := ih a a' _ _ (by omega) ha ha' e2
      simp only [List.singleton_append, List.cons.injEq] at e4
      exact ⟨fm_ext hkk (by rw [prop_zero hf (by omega), prop_zero hg (by omega)]) (by rw [hk, hk', e3]), e4.2⟩
    · rw [text4 c hk, text4 c' hk', hkk] at e
      simp only [List.append_assoc] at e
      have e2 := List.append_cancel_left e
      rw [hk] at hs
      simp only [List.map_cons, List.map_nil, List.sum_cons, List.sum_nil] at hs
      obtain ⟨e3, e4⟩ := ih a a' _ _ (by omega) ha ha' e2
      have e5 := List.append_cancel_left e4
      obtain ⟨e6, e7⟩ := ih b b' _ _ (by omega) hb hb' e5
      simp only [List.singleton_append, List.cons.injEq] at e7
      exact ⟨fm_ext hkk (by rw [prop_zero hf (by omega), prop_zero hg (by omega)]) (by rw [hk, hk', e3, e6]), e7.2⟩
theorem text_eq_inj {f g : Fm} (hf : f.ok = true) (hg : g.ok = true) (e : Fm.text f = Fm.text g) : f = g :=
  (text_inj _ f g [] [] (Nat.le_refl _) hf hg (by unfold textL; rw [e])).1
theorem text_ne {f : Fm} (hf : f.ok = true) : Fm.text f ≠ ByteArray.empty := fun e => by
  obtain ⟨f1, f7, r, er⟩ := text_hd hf
  unfold textL at er
  rw [e] at er
  have : (hd f.kind ++ r) = [] := er.symm
  have h0 := (List.append_eq_nil_iff.1 this).1
  unfold hd at h0
  repeat' split at h0
  all_goals cases h0
end Go.Proofs.YtagnfckihdlhpaaDoor.Den

/-
  The law FnFormulaText answers true.
-/
namespace Go.Proofs.YtagnfckihdlhpaaDoor.Den
open Go.RowKit
open Classical

theorem big_ok : EntOK Tryd.prog (l_big.ent fun code => some (decide (1048576 < (List.length code : Int)))) := l_big.ok (G := ⟨()⟩) trivial fun code r h => ⟨1, by cases h; rfl⟩
abbrev gTail : List Int → Option (List Int) := fun code => if code.length ≤ 1048576 then some (code.drop 1) else none
theorem tail_ok : EntOK Tryd.prog (l_tail.ent gTail) := l_tail.ok (G := ⟨()⟩) trivial fun code r h => by
  unfold gTail at h
  split at h
  · rename_i hl
    cases h
    refine ⟨1, ?_⟩
    unfold l_tail.main
    by_cases h0 : (List.length code : Int) = 0
    · have : code = [] := List.eq_nil_of_length_eq_zero (by omega)
      subst this
      rfl
    · rw [decide_eq_false h0, cond_false, sub_eq (by omega) (by omega) (by omega), Option.bind_some]
      have e : (code.take ((List.length code : Int)).toNat) = code := by simp
      rw [e]; rfl
  · cases h
noncomputable def gAl (k : Nat) : Fm → Fm → Option Bool := fun f g => if f = g ∧ f.total < k then some true else none
theorem alike_ok : ∀ k, k ≤ 2097152 → EntOK Tryd.prog (l_alike.ent (gAl k))
  | 0, _ => by
    intro R xs H K r h
    simp only [l_alike.ent] at h
    split at h
    · simp [gAl] at h
    · cases h
  | k + 1, hk => l_alike.ok (G := ⟨gAl k⟩) ⟨alike_ok k (by omega), trivial⟩ fun f g r h => by
    unfold gAl at h
    split at h
    · rename_i hs
      obtain ⟨hxy, hs⟩ := hs
      subst hxy
      cases h
      have ht := total_kids f
      have hlen := totals_len f.kids
      refine ⟨f.kids.length + 1, ?_⟩
      unfold l_alike.main
      rw [decide_eq_true rfl, decide_eq_true rfl, decide_eq_true rfl, Bool.not_true, cond_false, cond_false, cond_false]
      refine Eq.trans (iter_rule (body := fun (v : Int × Int × Int × List Fm × Int × Int × List Fm) nx => l_alike.b4 ⟨gAl k⟩ (f.kids.length + 1) v.1 v.2.1 v.2.2.1 v.2.2.2.1 v.2.2.2.2.1 v.2.2.2.2.2.1 v.2.2.2.2.2.2 (fun y0 y1 y2 y3 y4 y5 y6 => nx (y0, y1, y2, y3, y4, y5, y6)) (fun t => some (AT.one (.b t), ([] : List Ob))) (some (AT.one (.b true), []))) (Q := fun v => v.2.2.2.1 = f.kids ∧ v.2.2.2.2.2.2 = f.kids ∧ 0 ≤ v.1 ∧ v.1 ≤ f.kids.length) (μ := fun v => (f.kids.length - v.1).toNat) (f := fun _ => some (AT.one (.b true), [])) ?_ (f.kids.length + 1) (0, f.kind, f.prop, f.kids, f.kind, f.prop, f.kids) ⟨rfl, rfl, by simp, by simp⟩ (by simp)) rfl
      rintro ⟨i, a1, a2, a, b1, b2, b⟩ nx ⟨e1, e0, q0, q1⟩ ih
      simp only at e1 e0 q0 q1 ih ⊢
      subst e1
      subst e0
      unfold l_alike.b4
      by_cases hi : i < (List.length f.kids : Int)
      · obtain ⟨x, x1, x2, _, x4⟩ := drop_step q0 hi
        rw [decide_eq_true hi, cond_true, x1, Option.bind_some, Option.bind_some, Fm.eta]
        show Option.bind (gAl k x x) _ = _
        have e : gAl k x x = some true := if_pos ⟨rfl, by have := totals_mem x2; omega⟩
        rw [e, Option.bind_some, Bool.not_true, cond_false, wr_in (x := i + 1) (by omega)]
        exact ih (i + 1, a1, a2, f.kids, b1, b2, f.kids) ⟨rfl, rfl, by simp only; omega, by simp only; omega⟩ (by simp only; omega)
      · rw [decide_eq_false hi, cond_false]
    · cases h
theorem drawI_ex : ∃ g, EntOK Tryd.prog (s_DrawIsFormula.ent g) ∧ ∀ code, code.length ≤ 1048576 → ∃ r, g code = some r ∧ r.total ≤ 20 := by
  obtain ⟨gB, eB, hB⟩ := byte_ex
  obtain ⟨gL, eL, hL⟩ := below_ex eB hB
  obtain ⟨gO, eO, hO⟩ := once_ex eL hL
  obtain ⟨gN, eN, hN⟩ := new_ex
  obtain ⟨gE, eE, hE⟩ := drawO_ex hL hO eL eO
  obtain ⟨gF, eF, hF⟩ := bent_ex hL eL eE hE
  exact by_pick (fun g hg => s_DrawIsFormula.ok (G := ⟨gN, gF⟩) ⟨eN, eF, trivial⟩ hg) fun code hl => by
    obtain ⟨c, e1, i1⟩ := hN code hl
    obtain ⟨r, e2, t2, i2⟩ := hF c i1
    exact ⟨r.1, ⟨1, by unfold s_DrawIsFormula.main; simp only [e1, e2, Option.bind_some, Fm.eta]⟩, t2⟩
theorem drawF_ex : ∃ g, EntOK Tryd.prog (s_DrawFormatFormula.ent g) ∧ ∀ code, code.length ≤ 1048576 → ∃ r, g code = some r ∧ r.total ≤ 20 := by
  obtain ⟨gI, eI, hI⟩ := drawI_ex
  exact by_pick (fun g hg => s_DrawFormatFormula.ok (G := ⟨gI⟩) ⟨eI, trivial⟩ hg) fun code hl => by
    obtain ⟨r, e1, t1⟩ := hI code hl
    exact ⟨r, ⟨1, by unfold s_DrawFormatFormula.main; simp only [e1, Option.bind_some, Fm.eta]⟩, t1⟩
theorem formulaText_law : ∃ g, EntOK Tryd.prog (l_FnFormulaText.ent g) ∧ ∀ code : List Int, True → ∃ r, g code = some r ∧ r = true := by
  obtain ⟨gD, eD, hD⟩ := drawF_ex
  refine by_pick (fun g hg => l_FnFormulaText.ok (G := { l_big := fun code => some (decide (1048576 < (List.length code : Int))), s_DrawFormatFormula := gD, l_tail := gTail, i_FormatFormula := gFmt 100, s_FormatFormula := gFmt 100, s_IsFormula := gIs 100, l_alike := gAl 100 }) ⟨big_ok, eD, tail_ok, i_FormatFormula_ok 100 (by omega), s_FormatFormula_ok 100 (by omega), s_IsFormula_ok 100 (by omega), alike_ok 100 (by omega), trivial⟩ hg) fun code _ => ⟨true, ⟨1, ?_⟩, rfl⟩
  unfold l_FnFormulaText.main
  simp only [Option.bind_some, Fm.eta]
  by_cases hl : 1048576 < (List.length code : Int)
  · rw [decide_eq_true hl, cond_true]
  · rw [decide_eq_false hl, cond_false]
    obtain ⟨f, e1, t1⟩ := hD code (by omega)
    have e2 : gTail code = some (code.drop 1) := if_pos (by omega)
    obtain ⟨g, e3, t3⟩ := hD (code.drop 1) (by rw [List.length_drop]; omega)
    have e4 : gFmt 100 f = some (bif isFormula f then Fm.text f else ByteArray.empty) := if_pos (by unfold Fm.size; omega)
    have e5 : gFmt 100 g = some (bif isFormula g then Fm.text g else ByteArray.empty) := if_pos (by unfold Fm.size; omega)
    have e6 : gIs 100 f = some (isFormula f) := if_pos (by unfold Fm.size; omega)
    have es : ∀ s : ByteArray, sEq s s = true := fun s => by unfold sEq; simp
    simp only [e1, e2, e3, e4, e5, e6, Option.bind_some, es, cond_true]
    cases hf : isFormula f
    · simp only [cond_false, es, Bool.not_false, beq_self_eq_true, cond_true]
      cases sEq ByteArray.empty (bif isFormula g then Fm.text g else ByteArray.empty) <;> rfl
    · have hne : sEq (Fm.text f) ByteArray.empty = false := by unfold sEq; rw [decide_eq_false (text_ne (isF_parts hf).2)]
      simp only [cond_true, hne, Bool.not_true, beq_self_eq_true, cond_false]
      cases hg : isFormula g
      · simp only [cond_false, hne, Bool.not_false, cond_true]
      · simp only [cond_true]
        by_cases he : Fm.text f = Fm.text g
        · have hfg := text_eq_inj (isF_parts hf).2 (isF_parts hg).2 he
          subst hfg
          have e7 : gAl 100 f f = some true := if_pos ⟨rfl, by omega⟩
          simp only [es, Bool.not_true, cond_false, e7, Option.bind_some]
        · have : sEq (Fm.text f) (Fm.text g) = false := by unfold sEq; rw [decide_eq_false he]
          simp only [this, Bool.not_false, cond_true]
end Go.Proofs.YtagnfckihdlhpaaDoor.Den

/-
  Texts that the claim rests on, merged: UnrP, LawUnr.
-/
import Derived.Test.YtagnfckihdlhpaaZRowUnr9

/-
  A lasso whose loop is written twice says the same; until holds now or later: plain laws.
-/
namespace Go.Proofs.Ytagnfckihdlhpaa

section
variable {n back : Nat} {a b : Nat → Bool}
/-- A witness lies within n places. -/
theorem wit_lt (hb : back < n) {j i : Nat} (hi : i < n) (h : wit n back a b j i) : ∃ j', j' < n ∧ wit n back a b j' i := by
  by_cases hji : i + j < n
  · exact ⟨j, by omega, h⟩
  · have e : j = n - i + (j - (n - i)) := by omega
    rw [e, wit_wrap n back a b _ _ i hi rfl] at h
    obtain ⟨r, hr, hw⟩ := wit_short n back a b hb _ h.2
    have hs := (wit_straight n back a b r back (by omega)).1 hw
    by_cases hp : i ≤ back + r
    · refine ⟨back + r - i, by omega, (wit_straight n back a b (back + r - i) i (by omega)).2 ?_⟩
      rw [show i + (back + r - i) = back + r by omega]
      exact ⟨hs.1, fun m hm hm2 => h.1 m hm (by omega)⟩
    · exact ⟨n - i + r, by omega, (wit_wrap n back a b r _ i hi rfl).2 ⟨h.1, hw⟩⟩
theorem untilR_stable (hb : back < n) {i k : Nat} (hi : i < n) (hk : n ≤ k + 1) : untilR n back a b k i = untilR n back a b n i := by
  rw [Bool.eq_iff_iff, untilR_iff, untilR_iff]
  constructor
  · rintro ⟨j, _, hw⟩
    obtain ⟨j', h1, h2⟩ := wit_lt hb hi hw
    exact ⟨j', by omega, h2⟩
  · rintro ⟨j, _, hw⟩
    obtain ⟨j', h1, h2⟩ := wit_lt hb hi hw
    exact ⟨j', by omega, h2⟩
end

/-- Places of one lasso that are places of another. -/
structure Sim (n' back' : Nat) (lab' : Nat → Int) (n back : Nat) (lab : Nat → Int) (φ : Nat → Nat) : Prop where
  hb : back < n
  hb' : back' < n'
  hn : n ≤ n' + 1
  lt : ∀ i, i < n' → φ i < n
  lab : ∀ i, i < n' → lab' i = lab (φ i)
  nxt : ∀ i, i < n' → φ (nxt n' back' i) = nxt n back (φ i)

theorem untilR_sim {n' back' n back : Nat} {lab' lab : Nat → Int} {φ : Nat → Nat} (s : Sim n' back' lab' n back lab φ) {a' b' a b : Nat → Bool} (ha : ∀ i, i < n' → a' i = a (φ i)) (hb : ∀ i, i < n' → b' i = b (φ i)) : ∀ k i, i < n' → untilR n' back' a' b' k i = untilR n back a b k (φ i)
  | 0, i, hi => hb i hi
  | k + 1, i, hi => by
    simp only [untilR]
    rw [ha i hi, hb i hi, untilR_sim s ha hb k _ (nxt_lt s.hb'), s.nxt i hi]
theorem hold_sim {n' back' n back : Nat} {lab' lab : Nat → Int} {φ : Nat → Nat} (s : Sim n' back' lab' n back lab φ) (f : Fm) : ∀ i, i < n' → Fm.hold n' back' lab' f i = Fm.hold n back lab f (φ i) := by
  induction f using Fm.induct with
  | h k q kids ih =>
    intro i hi
    rw [Fm.hold_eq, Fm.hold_eq]
    have hk : ∀ j i, i < n' → ((kids.map (Fm.hold n' back' lab')).getD j fun _ => false) i = ((kids.map (Fm.hold n back lab)).getD j fun _ => false) (φ i) := fun j i hi => by
      simp only [List.getD_eq_getElem?_getD, List.getElem?_map]
      cases hx : kids[j]? with
      | none => rfl
      | some x => exact ih x (List.mem_of_getElem? hx) i hi
    unfold evalK
    rw [s.lab i hi, hk 0 i hi, hk 1 i hi, hk 0 _ (nxt_lt s.hb'), s.nxt i hi]
    rw [untilR_sim s (hk 0) (hk 1) n' i hi, untilR_stable s.hb (s.lt i hi) s.hn]

section
variable {xs : List Int} {back : Nat} {ls : List Int}
/-- The lasso whose loop is written twice. -/
theorem sim_twice (hb : back < xs.length) : Sim (xs ++ xs.drop back).length xs.length (labAt (xs ++ xs.drop back) ls) xs.length back (labAt xs ls) (fun i => if i < xs.length then i else back + (i - xs.length)) := by
  have hlen : (xs ++ xs.drop back).length = xs.length + (xs.length - back) := by simp
  have key : ∀ i, i < (xs ++ xs.drop back).length → (xs ++ xs.drop back)[i]? = xs[if i < xs.length then i else back + (i - xs.length)]? := fun i hi => by
    split
    · rename_i h; rw [List.getElem?_append_left h]
    · rename_i h; rw [List.getElem?_append_right (by omega), List.getElem?_drop]
  refine ⟨hb, by omega, by omega, fun i hi => ?_, fun i hi => ?_, fun i hi => ?_⟩
  · split <;> omega
  · unfold labAt
    simp only [List.getD_eq_getElem?_getD]
    rw [key i hi]
  · unfold nxt
    rw [hlen] at hi ⊢
    by_cases h1 : i < xs.length <;> by_cases h2 : i + 1 < xs.length
    · simp [h1, h2, show i + 1 < xs.length + (xs.length - back) by omega]
    · simp [h1, h2, show i + 1 < xs.length + (xs.length - back) by omega]; omega
    · omega
    · by_cases h3 : i + 1 < xs.length + (xs.length - back)
      · simp [h1, h2, h3, show back + (i - xs.length) + 1 < xs.length by omega]; omega
      · simp [h1, h3, show ¬ back + (i - xs.length) + 1 < xs.length by omega]
/-- The lasso from the second place on. -/
theorem sim_rest (hb : back < xs.length) : Sim ((xs ++ xs.drop back).drop 1).length (xs.length - 1) (labAt ((xs ++ xs.drop back).drop 1) ls) (xs ++ xs.drop back).length xs.length (labAt (xs ++ xs.drop back) ls) (fun i => i + 1) := by
  have hlen : (xs ++ xs.drop back).length = xs.length + (xs.length - back) := by simp
  have hlen1 : ((xs ++ xs.drop back).drop 1).length = xs.length + (xs.length - back) - 1 := by rw [List.length_drop, hlen]
  refine ⟨by omega, by omega, by omega, fun i hi => by omega, fun i hi => ?_, fun i hi => ?_⟩
  · unfold labAt
    simp only [List.getD_eq_getElem?_getD, List.getElem?_drop]
    rw [show 1 + i = i + 1 by omega]
  · unfold nxt
    rw [hlen1] at hi
    rw [hlen, hlen1]
    by_cases h3 : i + 1 < xs.length + (xs.length - back) - 1
    · simp [h3, show i + 1 + 1 < xs.length + (xs.length - back) by omega]
    · simp [h3, show ¬ i + 1 + 1 < xs.length + (xs.length - back) by omega]; omega
end

theorem isLasso_partsU {xs : List Int} {back : Int} (h : isLasso xs back = true) : 1 ≤ xs.length ∧ xs.length ≤ 40 ∧ 0 ≤ back ∧ back < xs.length ∧ ∀ x ∈ xs, 0 ≤ x := by
  unfold isLasso at h
  exact of_decide_eq_true h
theorem isLasso_mk {xs : List Int} {back : Int} (h : 1 ≤ xs.length ∧ xs.length ≤ 40 ∧ 0 ≤ back ∧ back < xs.length ∧ ∀ x ∈ xs, 0 ≤ x) : isLasso xs back = true := by
  unfold isLasso
  exact decide_eq_true h
theorem inLabels_eq {xs ys ls : List Int} (h1 : ∀ x ∈ xs, x ∈ ys) (h2 : ∀ x ∈ ys, x ∈ xs) : inLabels xs ls = inLabels ys ls := by
  unfold inLabels
  exact decide_eq_decide.2 ⟨fun h x hx => h x (h2 x hx), fun h x hx => h x (h1 x hx)⟩

section
variable {f : Fm} {xs : List Int} {back : Int} {ls : List Int} (hl : isLasso xs back = true) (hn : xs.length ≤ 6)
include hl hn
theorem holdsOn_twice : holdsOn f (xs ++ xs.drop back.toNat) xs.length ls = holdsOn f xs back ls := by
  obtain ⟨h1, h2, h3, h4, h5⟩ := isLasso_partsU hl
  have hb : back.toNat < xs.length := by omega
  have ht : isLasso (xs ++ xs.drop back.toNat) xs.length = true := isLasso_mk ⟨by simp; omega, by simp; omega, by omega, by simp; omega, fun x hx => by
    rcases List.mem_append.1 hx with hx | hx
    · exact h5 x hx
    · exact h5 x (List.mem_of_mem_drop hx)⟩
  unfold holdsOn holdsPre
  rw [ht, hl, inLabels_eq (xs := xs ++ xs.drop back.toNat) (ys := xs) (fun x hx => by
    rcases List.mem_append.1 hx with hx | hx
    · exact hx
    · exact List.mem_of_mem_drop hx) (fun x hx => List.mem_append_left _ hx)]
  congr 1
  have := hold_sim (sim_twice (ls := ls) hb) f 0 (by simp; omega)
  rw [if_pos (by omega)] at this
  simpa using this
theorem holdsOn_rest : holdsOn f ((xs ++ xs.drop back.toNat).drop 1) (xs.length - 1 : Nat) ls = (holdsPre f xs back ls && inLabels xs ls && Fm.hold xs.length back.toNat (labAt xs ls) f (nxt xs.length back.toNat 0)) ∨ ¬ ∀ x ∈ xs, x < ls.length := by
  obtain ⟨h1, h2, h3, h4, h5⟩ := isLasso_partsU hl
  have hb : back.toNat < xs.length := by omega
  have hlen : (xs ++ xs.drop back.toNat).length = xs.length + (xs.length - back.toNat) := by simp
  have hsub : ∀ x ∈ (xs ++ xs.drop back.toNat).drop 1, x ∈ xs := fun x hx => by
    rcases List.mem_append.1 (List.mem_of_mem_drop hx) with hx | hx
    · exact hx
    · exact List.mem_of_mem_drop hx
  by_cases hin : ∀ x ∈ xs, x < ls.length
  · left
    have ht : isLasso ((xs ++ xs.drop back.toNat).drop 1) (xs.length - 1 : Nat) = true := isLasso_mk ⟨by rw [List.length_drop]; omega, by rw [List.length_drop]; omega, by omega, by rw [List.length_drop]; omega, fun x hx => h5 x (hsub x hx)⟩
    have i1 : inLabels ((xs ++ xs.drop back.toNat).drop 1) ls = true := by
      unfold inLabels; exact decide_eq_true fun x hx => hin x (hsub x hx)
    have i2 : inLabels xs ls = true := by unfold inLabels; exact decide_eq_true hin
    unfold holdsOn holdsPre
    rw [ht, hl, i1, i2]
    congr 1
    have e1 := hold_sim (sim_rest (ls := ls) hb) f 0 (by rw [List.length_drop]; omega)
    have e2 := hold_sim (sim_twice (ls := ls) hb) f 1 (by rw [hlen]; omega)
    rw [Int.toNat_natCast]
    rw [e1]
    simp only [Nat.zero_add]
    rw [e2]
    congr 1
    unfold nxt
    split <;> omega
  · right; exact hin
end

theorem isFormula_parts {f : Fm} (h : isFormula f = true) : f.size ≤ 12 ∧ f.ok = true := by
  unfold isFormula at h
  simpa using h
theorem not_holds {f : Fm} {xs : List Int} {back : Int} {ls : List Int} (hf : isFormula f = true) (hl : isLasso xs back = true) (hL : isLabels ls = true) (hin : ∀ x ∈ xs, x < ls.length) (hn : isFormula ⟨3, 0, [f]⟩ = true) : holdsOn ⟨3, 0, [f]⟩ xs back ls = !holdsOn f xs back ls := by
  have i2 : inLabels xs ls = true := by unfold inLabels; exact decide_eq_true hin
  unfold holdsOn holdsPre
  rw [hf, hl, hL, i2, hn, Fm.hold_eq]
  rfl
theorem next_holds {f : Fm} {xs : List Int} {back : Int} {ls : List Int} (hl : isLasso xs back = true) (hL : isLabels ls = true) (hn : isFormula ⟨6, 0, [f]⟩ = true) : holdsOn ⟨6, 0, [f]⟩ xs back ls = (inLabels xs ls && Fm.hold xs.length back.toNat (labAt xs ls) f (nxt xs.length back.toNat 0)) := by
  unfold holdsOn holdsPre
  rw [hl, hL, hn, Fm.hold_eq]
  rfl
theorem until_holds {f : Fm} {xs : List Int} {back : Int} {ls : List Int} (hf : isFormula f = true) (hl : isLasso xs back = true) (hL : isLabels ls = true) (hin : ∀ x ∈ xs, x < ls.length) (hu : isFormula ⟨7, 0, [⟨2, 1, []⟩, f]⟩ = true) (hla : isFormula ⟨6, 0, [⟨7, 0, [⟨2, 1, []⟩, f]⟩]⟩ = true) :
    holdsOn ⟨7, 0, [⟨2, 1, []⟩, f]⟩ xs back ls = (holdsOn f xs back ls || (holdsOn ⟨2, 1, []⟩ xs back ls && holdsOn ⟨6, 0, [⟨7, 0, [⟨2, 1, []⟩, f]⟩]⟩ xs back ls)) := by
  obtain ⟨h1, h2, h3, h4, h5⟩ := isLasso_partsU hl
  have hb : back.toNat < xs.length := by omega
  have i2 : inLabels xs ls = true := by unfold inLabels; exact decide_eq_true hin
  have hp : isFormula ⟨2, 1, []⟩ = true := by unfold isFormula Fm.size; rw [Fm.total_eq, Fm.ok_eq]; simp [totals, okHead, arity]
  rw [next_holds hl hL hla]
  unfold holdsOn holdsPre
  rw [hf, hl, hL, i2, hu, hp]
  simp only [Bool.true_and, Bool.and_true]
  rw [Fm.hold_eq xs.length back.toNat _ 7]
  show untilR xs.length back.toNat _ _ xs.length 0 = _
  rw [← untilR_stable (k := xs.length + 1) hb (by omega) (by omega)]
  rfl
theorem isFormula_until {f : Fm} (h : isFormula ⟨6, 0, [⟨7, 0, [⟨2, 1, []⟩, f]⟩]⟩ = true) : isFormula ⟨7, 0, [⟨2, 1, []⟩, f]⟩ = true := by
  obtain ⟨h1, h2⟩ := isFormula_parts h
  rw [Fm.ok_eq] at h2
  simp only [List.all_cons, List.all_nil, Bool.and_true, Bool.and_eq_true] at h2
  unfold isFormula
  rw [h2.2, Bool.and_true]
  unfold Fm.size at h1 ⊢
  rw [Fm.total_eq] at h1
  simp only [totals, List.map_cons, List.map_nil, List.sum_cons, List.sum_nil, List.length_cons, List.length_nil] at h1
  exact decide_eq_true (by omega)
end Go.Proofs.Ytagnfckihdlhpaa

/-
  FnUnrolled answers true, whatever bytes it is given.
-/
namespace Go.Proofs.Ytagnfckihdlhpaa.Den
open Go.RowKit

theorem big_ok : EntOK Try.prog (l_big.ent fun code => some (decide (1048576 < (List.length code : Int)))) := l_big.ok (G := ⟨()⟩) trivial fun code r h => ⟨1, by cases h; rfl⟩

noncomputable def unrG (gD : List Int → Option (Fm × Lasso × List Int)) : l_FnUnrolled.Gs :=
  ⟨fun code => some (decide (1048576 < (List.length code : Int))), gD, fun f l ls => if f.total ≤ 1048576 then some (holdsOn f l.states l.back ls) else none, fun f l ls => if f.total ≤ 1048576 then some (holdsOn f l.states l.back ls) else none,
    fun f => if f.total ≤ 1048576 then some (isFormula f) else none, fun f => some (isFormula f), fun l => some (isLasso l.states l.back)⟩

section
variable {gD : List Int → Option (Fm × Lasso × List Int)} {f : Fm} {xs : List Int} {back : Int} {ls : List Int}
theorem unr_loop {R : Type} (n : Nat) (ok : Bool) (a b : Int) (l : List Fm) (bk h2 : Int) (h3 : List Int) (hn : xs.length ≤ 6) (k0 : Bool → Option R) (k1 : List Int → Bool → Int → Int → List Fm → List Int → Int → Int → List Int → Option R) : ∀ (m i : Nat), i ≤ xs.length → (∀ x ∈ xs.take i, x < ls.length) → xs.length - i < m →
    l_FnUnrolled.l13 (unrG gD) n m ls ok (i : Int) a b l xs bk h2 h3 k0 k1 = (if ∀ x ∈ xs, x < ls.length then k1 ls ok a b l xs bk h2 h3 else k0 (!ok)) := by
  intro m
  induction m with
  | zero => intro i _ _ hm; omega
  | succ m ih =>
    intro i h1 hin hm
    show l_FnUnrolled.b13 (unrG gD) n ls ok (i : Int) a b l xs bk h2 h3 (fun y0 y1 y2 y3 y4 y5 y6 y7 y8 y9 => l_FnUnrolled.l13 (unrG gD) n m y0 y1 y2 y3 y4 y5 y6 y7 y8 y9 k0 k1) k0 k1 = _
    unfold l_FnUnrolled.b13
    by_cases hi : i < xs.length
    · have hi' : (i : Int) < xs.length := by omega
      rw [ix_nat, List.getElem?_eq_getElem hi]
      simp only [hi', decide_true, cond_true, Option.bind_some]
      by_cases hx : (List.length ls : Int) ≤ xs[i]
      · simp only [hx, decide_true, cond_true]
        rw [if_neg (fun h => by have := h xs[i] (List.getElem_mem hi); omega)]
      · simp only [hx, decide_false, cond_false]
        rw [wr_in (x := (i : Int) + 1) (by omega), show (i : Int) + 1 = ((i + 1 : Nat) : Int) by omega]
        refine ih (i + 1) (by omega) (fun x hx' => ?_) (by omega)
        rw [List.take_succ_eq_append_getElem hi] at hx'
        rcases List.mem_append.1 hx' with h | h
        · exact hin x h
        · simp at h; subst h; omega
    · have hi' : ¬ (i : Int) < xs.length := by omega
      simp only [hi', decide_false, cond_false]
      rw [if_pos (fun x hx => hin x (by rw [List.take_of_length_le (by omega)]; exact hx))]

theorem unr_c20 (ht : f.total ≤ 20) (hf : isFormula f = true) (hl : isLasso xs back = true) (hn : xs.length ≤ 6) (hL : isLabels ls = true) (hin : ∀ x ∈ xs, x < ls.length) (n : Nat) (R : Type) (k : Bool → Option R) :
    l_FnUnrolled.c20 (unrG gD) n ls (holdsOn f xs back ls) f.kind f.prop f.kids xs back (xs.length : Int) (xs ++ xs.drop back.toNat) k = k true := by
  obtain ⟨h1, h2, h3, h4, h5⟩ := isLasso_partsU hl
  have t2 : Fm.total ⟨2, 1, []⟩ ≤ 1048576 := by rw [total0]; omega
  have tu : Fm.total ⟨7, 0, [⟨2, 1, []⟩, f]⟩ ≤ 1048576 := by rw [total2, total0]; omega
  have tl : Fm.total ⟨6, 0, [⟨7, 0, [⟨2, 1, []⟩, f]⟩]⟩ ≤ 1048576 := by rw [total1, total2, total0]; omega
  have tn : Fm.total ⟨6, 0, [f]⟩ ≤ 1048576 := by rw [total1]; omega
  have tf : f.total ≤ 1048576 := by omega
  unfold l_FnUnrolled.c20 l_FnUnrolled.d26
  simp only [unrG, Fm.eta, Option.bind_some, t2, tu, tl, tn, tf, if_true]
  by_cases hla : isFormula ⟨6, 0, [⟨7, 0, [⟨2, 1, []⟩, f]⟩]⟩ = true
  · by_cases hnx : isFormula ⟨6, 0, [f]⟩ = true
    · have e1 := until_holds hf hl hL hin (isFormula_until hla) hla
      have e2 := next_holds hl hL hnx
      have e3 := (holdsOn_rest (f := f) (ls := ls) hl hn).resolve_right (fun h => h hin)
      have hpre : holdsPre f xs back ls = true := by unfold holdsPre; rw [hf, hl, hL]; rfl
      rw [hpre, Bool.true_and] at e3
      have el : (xs ++ xs.drop back.toNat).length = xs.length + (xs.length - back.toNat) := by simp
      rw [hla, hnx, sub_eq (by omega) (by rw [el]; omega) (Int.le_refl _)]
      simp only [Bool.not_true, cond_false, Option.bind_some, List.nil_append, Int.toNat_natCast, List.take_length]
      rw [lim_eq (by rw [List.length_drop, el]; omega), wr_in (x := (xs.length : Int) - 1) (by omega)]
      simp only [Option.bind_some]
      rw [show ((xs.length : Int) - 1) = ((xs.length - 1 : Nat) : Int) by omega, show Int.toNat 1 = 1 from rfl, e2, e3, e1]
      cases holdsOn f xs back ls <;> cases holdsOn ⟨2, 1, []⟩ xs back ls <;> cases holdsOn ⟨6, 0, [⟨7, 0, [⟨2, 1, []⟩, f]⟩]⟩ xs back ls <;> simp
    · have hnx : isFormula ⟨6, 0, [f]⟩ = false := by simpa using hnx
      rw [hla, hnx]; rfl
  · have hla : isFormula ⟨6, 0, [⟨7, 0, [⟨2, 1, []⟩, f]⟩]⟩ = false := by simpa using hla
    rw [hla]; rfl

theorem unr_c9 (ht : f.total ≤ 20) (hf : isFormula f = true) (hl : isLasso xs back = true) (hn : xs.length ≤ 6) (hL : isLabels ls = true) (R : Type) (k : Bool → Option R) :
    l_FnUnrolled.c9 (unrG gD) 1000 ls (holdsOn f xs back ls) f.kind f.prop f.kids xs back k = k true := by
  obtain ⟨h1, h2, h3, h4, h5⟩ := isLasso_partsU hl
  have tf : f.total ≤ 1048576 := by omega
  have tn : Fm.total ⟨3, 0, [f]⟩ ≤ 1048576 := by rw [total1]; omega
  have el : (xs ++ xs.drop back.toNat).length = xs.length + (xs.length - back.toNat) := by simp
  unfold l_FnUnrolled.c9 l_FnUnrolled.d9
  rw [List.nil_append, lim_eq (by omega), Option.bind_some, sub_eq (by omega) (by omega) (Int.le_refl _), Option.bind_some]
  rw [Int.toNat_natCast, List.take_length, lim_eq (by omega), Option.bind_some]
  have e0 : (unrG gD).i_HoldsOn f ⟨xs ++ xs.drop back.toNat, xs.length⟩ ls = some (holdsOn f xs back ls) := by
    simp only [unrG, tf, if_true]
    rw [holdsOn_twice hl hn]
  simp only [Fm.eta, e0, Option.bind_some]
  simp only [beq_self_eq_true, Bool.not_true, cond_false]
  have := unr_loop (gD := gD) (ls := ls) 1000 (holdsOn f xs back ls) f.kind f.prop f.kids back (xs.length : Int) (xs ++ xs.drop back.toNat) hn k (fun labels3 ok3 h05 h023 h033 h14 h123 h22 h32 =>
            Option.bind ((unrG gD).s_IsFormula (Fm.mk 3 0 [(Fm.mk h05 h023 h033)])) fun r2 =>
            bif r2 then
              (
              Option.bind ((unrG gD).i_HoldsOn (Fm.mk 3 0 [(Fm.mk h05 h023 h033)]) (Lasso.mk h14 h123) labels3) fun r3 =>
              bif r3 == ok3 then
                (k false)
              else
                l_FnUnrolled.c20 (unrG gD) 1000 labels3 ok3 h05 h023 h033 h14 h123 h22 h32
                  (fun t22 => k t22)
              )
            else
              l_FnUnrolled.c20 (unrG gD) 1000 labels3 ok3 h05 h023 h033 h14 h123 h22 h32
                (fun t23 => k t23)) 1000 0 (by omega) (fun x hx => by simp at hx) (by omega)
  refine Eq.trans this ?_
  by_cases hin : ∀ x ∈ xs, x < ls.length
  · rw [if_pos hin]
    simp only [unrG, Fm.eta, Option.bind_some, tn, if_true]
    have ec := unr_c20 (gD := gD) ht hf hl hn hL hin 1000 R k
    by_cases hnf : isFormula ⟨3, 0, [f]⟩ = true
    · rw [hnf, not_holds hf hl hL hin hnf]
      cases hb : holdsOn f xs back ls <;> (rw [hb] at ec; exact ec)
    · have hnf : isFormula ⟨3, 0, [f]⟩ = false := by simpa using hnf
      rw [hnf]
      exact ec
  · rw [if_neg hin]
    have : holdsOn f xs back ls = false := by
      unfold holdsOn inLabels
      rw [decide_eq_false hin]
      simp
    rw [this]; rfl
end

theorem unrolled_ok : EntOK Try.prog (l_FnUnrolled.ent fun _ => some true) := by
  obtain ⟨gD, eD, hD⟩ := drawH_ex
  refine l_FnUnrolled.ok (G := unrG gD) ⟨big_ok, eD, i_HoldsOn_ok, s_HoldsOn_ok, i_IsFormula_ok, s_IsFormula_ok, s_IsLasso_ok, trivial⟩ fun code r h => ?_
  cases h
  refine ⟨1000, ?_⟩
  unfold l_FnUnrolled.main
  show Option.bind (some (decide (1048576 < (List.length code : Int)))) _ = _
  rw [Option.bind_some]
  by_cases hb : 1048576 < (List.length code : Int)
  · simp [hb]
  · obtain ⟨⟨f, ⟨xs, back⟩, ls⟩, e, t, l1, l2, n1, hlab⟩ := hD code (by omega)
    simp only at t l1 l2 n1 hlab
    have tf : f.total ≤ 1048576 := by omega
    have eg : (unrG gD).s_DrawHoldsOn code = some (f, ⟨xs, back⟩, ls) := e
    rw [eg]
    simp only [hb, decide_false, cond_false, Option.bind_some, Fm.eta, unrG, tf, if_true, beq_self_eq_true, Bool.not_true]
    by_cases hf : isFormula f = true
    · by_cases hl : isLasso xs back = true
      · rw [hf, hl]
        have hne : ¬ (List.length ls : Int) = 0 := by omega
        obtain ⟨x, hx, hx2⟩ := ix_in (xs := ls) (i := 0) (by omega) (by omega)
        simp only [Bool.not_true, cond_false, hne, decide_false, Bool.not_false, cond_true, hx, Option.bind_some]
        by_cases h255 : 255 < x
        · simp [h255]
        · simp only [h255, decide_false, cond_false]
          have hL : isLabels ls = true := by
            rcases hlab with h | ⟨y, h, h2⟩
            · unfold isLabels; exact decide_eq_true h
            · have : ls[0]? = some x := hx2
              rw [h] at this; cases this; omega
          exact unr_c9 (gD := gD) t hf hl l2 hL _ _
      · have hl : isLasso xs back = false := by simpa using hl
        rw [hf, hl]; rfl
    · have hf : isFormula f = false := by simpa using hf
      rw [hf]; rfl
end Go.Proofs.Ytagnfckihdlhpaa.Den

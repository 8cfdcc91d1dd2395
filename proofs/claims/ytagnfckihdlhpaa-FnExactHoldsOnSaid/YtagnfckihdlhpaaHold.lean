/-
  When a formula holds at a place of a lasso: plain functions, and that two ways to find 'until' agree.
-/
import Derived.Test.YtagnfckihdlhpaaFormIs
namespace Go.Proofs.Ytagnfckihdlhpaa

/-- The place behind a place. -/
def nxt (n back i : Nat) : Nat := if i + 1 < n then i + 1 else back

section
variable (n back : Nat) (a b : Nat → Bool)

/-- Until, looked for within k places. -/
def untilR : Nat → Nat → Bool
  | 0, i => b i
  | k + 1, i => b i || (a i && untilR k (nxt n back i))

/-- k places ahead b holds, and a at all places before. -/
def wit : Nat → Nat → Prop
  | 0, i => b i = true
  | k + 1, i => a i = true ∧ wit k (nxt n back i)

/-- One turn from the last place to the first; d: how far from the last. c: what stood at the place behind the last. -/
def swF (c : Bool) : Nat → Bool
  | 0 => b (n - 1) || (a (n - 1) && c)
  | d + 1 => b (n - 1 - (d + 1)) || (a (n - 1 - (d + 1)) && swF c d)

theorem untilR_iff (k : Nat) : ∀ i, untilR n back a b k i = true ↔ ∃ j, j ≤ k ∧ wit n back a b j i := by
  induction k with
  | zero =>
    intro i
    constructor
    · intro h; exact ⟨0, Nat.le_refl _, h⟩
    · rintro ⟨j, hj, h⟩
      obtain rfl : j = 0 := by omega
      exact h
  | succ k ih =>
    intro i
    simp only [untilR, Bool.or_eq_true, Bool.and_eq_true, ih]
    constructor
    · rintro (h | ⟨h, j, hj, hw⟩)
      · exact ⟨0, by omega, h⟩
      · exact ⟨j + 1, by omega, h, hw⟩
    · rintro ⟨j, hj, hw⟩
      cases j with
      | zero => exact .inl hw
      | succ j => exact .inr ⟨hw.1, j, by omega, hw.2⟩

theorem wit_straight (k : Nat) : ∀ i, i + k < n → (wit n back a b k i ↔ (b (i + k) = true ∧ ∀ m, i ≤ m → m < i + k → a m = true)) := by
  induction k with
  | zero =>
    intro i hi
    simp only [wit, Nat.add_zero]
    exact ⟨fun h => ⟨h, fun m h1 h2 => by omega⟩, fun h => h.1⟩
  | succ k ih =>
    intro i hi
    have e : nxt n back i = i + 1 := by unfold nxt; rw [if_pos (by omega)]
    simp only [wit, e, ih (i + 1) (by omega)]
    rw [show i + 1 + k = i + (k + 1) by omega]
    constructor
    · rintro ⟨h1, h2, h3⟩
      refine ⟨h2, fun m hm hm2 => ?_⟩
      by_cases e : m = i
      · subst e; exact h1
      · exact h3 m (by omega) hm2
    · rintro ⟨h1, h2⟩
      exact ⟨h2 i (by omega) (by omega), h1, fun m hm hm2 => h2 m (by omega) hm2⟩

theorem wit_wrap (r : Nat) (e : Nat) : ∀ i, i < n → n - i = e → (wit n back a b (n - i + r) i ↔ ((∀ m, i ≤ m → m < n → a m = true) ∧ wit n back a b r back)) := by
  induction e with
  | zero => intro i hi he; omega
  | succ e ih =>
    intro i hi he
    have e1 : n - i + r = (e + r) + 1 := by omega
    rw [e1]
    simp only [wit]
    by_cases hl : i + 1 < n
    · have e2 : nxt n back i = i + 1 := by unfold nxt; rw [if_pos hl]
      have e3 : e + r = n - (i + 1) + r := by omega
      rw [e2, e3, ih (i + 1) hl (by omega)]
      constructor
      · rintro ⟨h1, h2, h3⟩
        refine ⟨fun m hm hm2 => ?_, h3⟩
        by_cases e : m = i
        · subst e; exact h1
        · exact h2 m (by omega) hm2
      · rintro ⟨h1, h2⟩
        exact ⟨h1 i (by omega) hi, fun m hm hm2 => h1 m (by omega) hm2, h2⟩
    · have e2 : nxt n back i = back := by unfold nxt; rw [if_neg hl]
      have e3 : e = 0 := by omega
      subst e3
      rw [e2, Nat.zero_add]
      constructor
      · rintro ⟨h1, h2⟩
        refine ⟨fun m hm hm2 => ?_, h2⟩
        obtain rfl : m = i := by omega
        exact h1
      · rintro ⟨h1, h2⟩
        exact ⟨h1 i (by omega) hi, h2⟩

theorem swF_iff (c : Bool) (d : Nat) (hd : d < n) : swF n a b c d = true ↔
    ((∃ p, n - 1 - d ≤ p ∧ p < n ∧ b p = true ∧ ∀ m, n - 1 - d ≤ m → m < p → a m = true) ∨ (c = true ∧ ∀ m, n - 1 - d ≤ m → m < n → a m = true)) := by
  induction d with
  | zero =>
    simp only [swF, Bool.or_eq_true, Bool.and_eq_true, Nat.sub_zero]
    constructor
    · rintro (h | ⟨h1, h2⟩)
      · exact .inl ⟨n - 1, by omega, by omega, h, fun m h1 h2 => by omega⟩
      · refine .inr ⟨h2, fun m hm hm2 => ?_⟩
        obtain rfl : m = n - 1 := by omega
        exact h1
    · rintro (⟨p, hp, hp2, h1, _⟩ | ⟨h1, h2⟩)
      · obtain rfl : p = n - 1 := by omega
        exact .inl h1
      · exact .inr ⟨h2 (n - 1) (by omega) (by omega), h1⟩
  | succ d ih =>
    simp only [swF, Bool.or_eq_true, Bool.and_eq_true, ih (by omega)]
    have e : n - 1 - d = n - 1 - (d + 1) + 1 := by omega
    rw [e]
    generalize n - 1 - (d + 1) = i at *
    constructor
    · rintro (h | ⟨h1, ⟨p, hp, hp2, h3, h4⟩ | ⟨h3, h4⟩⟩)
      · exact .inl ⟨i, by omega, by omega, h, fun m h1 h2 => by omega⟩
      · refine .inl ⟨p, by omega, hp2, h3, fun m hm hm2 => ?_⟩
        by_cases em : m = i
        · subst em; exact h1
        · exact h4 m (by omega) hm2
      · refine .inr ⟨h3, fun m hm hm2 => ?_⟩
        by_cases em : m = i
        · subst em; exact h1
        · exact h4 m (by omega) hm2
    · rintro (⟨p, hp, hp2, h3, h4⟩ | ⟨h3, h4⟩)
      · by_cases ep : p = i
        · subst ep; exact .inl h3
        · exact .inr ⟨h4 i (by omega) (by omega), .inl ⟨p, by omega, hp2, h3, fun m hm hm2 => h4 m (by omega) hm2⟩⟩
      · exact .inr ⟨h4 i (by omega) (by omega), .inr ⟨h3, fun m hm hm2 => h4 m (by omega) hm2⟩⟩

/-- A witness at the place where the loop begins lies within one turn. -/
theorem wit_short (hb : back < n) (r : Nat) : wit n back a b r back → ∃ r', r' < n - back ∧ wit n back a b r' back := by
  induction r using Nat.strongRecOn with
  | ind r ih =>
    intro h
    by_cases hr : r < n - back
    · exact ⟨r, hr, h⟩
    · have e : r = n - back + (r - (n - back)) := by omega
      rw [e, wit_wrap n back a b _ _ back hb rfl] at h
      exact ih _ (by omega) h.2

theorem until_eq (hb : back < n) (i : Nat) (hi : i < n) : swF n a b (swF n a b false (n - 1 - back)) (n - 1 - i) = untilR n back a b n i := by
  rw [Bool.eq_iff_iff, untilR_iff, swF_iff n a b _ _ (by omega), swF_iff n a b _ _ (by omega)]
  rw [show n - 1 - (n - 1 - i) = i by omega, show n - 1 - (n - 1 - back) = back by omega]
  simp only [Bool.false_eq_true, false_and, or_false]
  constructor
  · rintro (⟨p, hp, hp2, h1, h2⟩ | ⟨⟨p, hp, hp2, h1, h2⟩, h3⟩)
    · refine ⟨p - i, by omega, (wit_straight n back a b (p - i) i (by omega)).2 ?_⟩
      rw [show i + (p - i) = p by omega]
      exact ⟨h1, fun m hm hm2 => h2 m hm hm2⟩
    · by_cases hpi : i ≤ p
      · refine ⟨p - i, by omega, (wit_straight n back a b (p - i) i (by omega)).2 ?_⟩
        rw [show i + (p - i) = p by omega]
        exact ⟨h1, fun m hm hm2 => h3 m hm (by omega)⟩
      · refine ⟨n - i + (p - back), by omega, (wit_wrap n back a b (p - back) _ i hi rfl).2 ⟨h3, ?_⟩⟩
        refine (wit_straight n back a b (p - back) back (by omega)).2 ?_
        rw [show back + (p - back) = p by omega]
        exact ⟨h1, h2⟩
  · rintro ⟨j, hj, hw⟩
    by_cases hji : i + j < n
    · have h := (wit_straight n back a b j i hji).1 hw
      exact .inl ⟨i + j, by omega, hji, h.1, h.2⟩
    · have e : j = n - i + (j - (n - i)) := by omega
      rw [e, wit_wrap n back a b _ _ i hi rfl] at hw
      obtain ⟨r, hr, hw2⟩ := wit_short n back a b hb _ hw.2
      have h := (wit_straight n back a b r back (by omega)).1 hw2
      exact .inr ⟨⟨back + r, by omega, by omega, h.1, h.2⟩, hw.1⟩
end

/-- A label has the bit of a proposition. -/
def hasBit (lab q : Int) : Bool := lab.toNat.testBit q.toNat

/-- The answer of a node at a place, out of the answers below. -/
def evalK (n back : Nat) (lab : Nat → Int) (k q : Int) (ks : List (Nat → Bool)) (i : Nat) : Bool :=
  if k = 1 then true
  else if k = 2 then hasBit (lab i) q
  else if k = 3 then !(ks.getD 0 fun _ => false) i
  else if k = 4 then (ks.getD 0 fun _ => false) i && (ks.getD 1 fun _ => false) i
  else if k = 5 then (ks.getD 0 fun _ => false) i || (ks.getD 1 fun _ => false) i
  else if k = 6 then (ks.getD 0 fun _ => false) (nxt n back i)
  else untilR n back (ks.getD 0 fun _ => false) (ks.getD 1 fun _ => false) n i

/-- Whether a formula holds at a place. -/
def Fm.hold (n back : Nat) (lab : Nat → Int) (f : Fm) : Nat → Bool :=
  match f with
  | ⟨k, q, kids⟩ => evalK n back lab k q (kids.attach.map fun ⟨x, _⟩ => Fm.hold n back lab x)
termination_by f
decreasing_by
  rename_i hx
  have := List.sizeOf_lt_of_mem hx
  simp only [Fm.mk.sizeOf_spec]
  omega
theorem Fm.hold_eq (n back : Nat) (lab : Nat → Int) (k q : Int) (kids : List Fm) : Fm.hold n back lab ⟨k, q, kids⟩ = evalK n back lab k q (kids.map (Fm.hold n back lab)) := by
  rw [Fm.hold]
  congr 1
  conv => rhs; rw [← List.attach_map_subtype_val kids, List.map_map]
  rfl

end Go.Proofs.Ytagnfckihdlhpaa

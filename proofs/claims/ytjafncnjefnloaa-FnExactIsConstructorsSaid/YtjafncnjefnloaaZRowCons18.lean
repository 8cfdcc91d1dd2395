/-
  Texts that the claim rests on, merged: Bits, Names, Sorts, Sorts2, Sorts3, Order, Sig, Sig2, Sig3, Sig4, LawCons.
-/
import Derived.Test.YtjafncnjefnloaaZRowCons13
import Derived.Test.YtjafncnjefnloaaZRowCons14
import Derived.Test.YtjafncnjefnloaaZRowCons15
import Derived.Test.YtjafncnjefnloaaZRowCons16
import Derived.Test.YtjafncnjefnloaaZRowCons17

/-
  Bits of small numbers; bytes of strings.
-/
namespace Go.Proofs.Ytjafncnjefnloaa.Den
open Go.RowKit

theorem ofInt_nat {a : Nat} (h : a < 9223372036854775808) : (BitVec.ofInt IntKind.i64.bits (a : Int)).toNat = a := by
  show (BitVec.ofInt 64 (a : Int)).toNat = a
  rw [BitVec.toNat_ofInt]
  omega
theorem wr_nat {a : Nat} (h : a < 9223372036854775808) : IntKind.i64.wrap (a : Int) = a := Abs.wrap_in (by omega) (by omega)
theorem bor_nat {a b : Nat} (ha : a < 9223372036854775808) (hb : b < 9223372036854775808) : Abs.bitsI .or .i64 a b = ((a ||| b : Nat) : Int) := by
  unfold Abs.bitsI
  simp only
  rw [BitVec.toNat_or, ofInt_nat ha, ofInt_nat hb, wr_nat]
  exact Nat.or_lt_two_pow (n := 63) ha hb
theorem band_nat {a b : Nat} (ha : a < 9223372036854775808) (hb : b < 9223372036854775808) : Abs.bitsI .and .i64 a b = ((a &&& b : Nat) : Int) := by
  unfold Abs.bitsI
  simp only
  rw [BitVec.toNat_and, ofInt_nat ha, ofInt_nat hb, wr_nat]
  exact Nat.lt_of_le_of_lt Nat.and_le_left ha
theorem shl1_nat {k : Nat} (hk : k < 63) : Abs.bitsI .shl .i64 1 k = ((2 ^ k : Nat) : Int) := by
  unfold Abs.bitsI
  simp only
  have e : min ((k : Int).toNat) IntKind.i64.bits = k := by
    have : IntKind.i64.bits = 64 := rfl
    rw [this]; omega
  rw [e]
  have h2 : (2 : Nat) ^ k < 9223372036854775808 := by
    have := Nat.pow_lt_pow_right (a := 2) (by omega) hk
    simpa using this
  have := wr_nat h2
  simpa using this
theorem shr_nat {a k : Nat} (hk : k < 64) : Abs.bitsI .shr .i64 a k = ((a >>> k : Nat) : Int) := by
  unfold Abs.bitsI
  simp only
  have e : min ((k : Int).toNat) IntKind.i64.bits = k := by
    have : IntKind.i64.bits = 64 := rfl
    rw [this]; omega
  rw [e, Int.fdiv_eq_ediv_of_nonneg _ (Int.le_of_lt (Int.pow_pos (by decide))), Nat.shiftRight_eq_div_pow]
  simp
theorem wrap_u64 {k : Int} (h0 : 0 ≤ k) (h1 : k < 1000) : IntKind.wrap .u64 k = k := by
  simp [IntKind.wrap, IntKind.signed, IntKind.bits]
  omega
/-- One bit of a set. -/
theorem bit_and {a k : Nat} (ha : a < 9223372036854775808) (hk : k < 63) : (decide (Abs.bitsI .and .i64 a ((2 ^ k : Nat) : Int) = 0)) = !a.testBit k := by
  have h2 : (2 : Nat) ^ k < 9223372036854775808 := by
    have := Nat.pow_lt_pow_right (a := 2) (by omega) hk
    simpa using this
  rw [band_nat ha h2]
  have key : (a &&& 2 ^ k = 0) ↔ a.testBit k = false := by
    constructor
    · intro h
      have := congrArg (fun n => Nat.testBit n k) h
      simpa [Nat.testBit_and, Nat.testBit_two_pow] using this
    · intro h
      apply Nat.eq_of_testBit_eq
      intro j
      rw [Nat.testBit_and, Nat.testBit_two_pow, Nat.zero_testBit]
      by_cases e : k = j
      · subst e; rw [h]; rfl
      · simp [e]
  cases h : a.testBit k with
  | false => rw [key.2 h]; rfl
  | true =>
    have : ¬ (a &&& 2 ^ k = 0) := fun e => by rw [key.1 e] at h; cases h
    simp [this]
theorem bit_shr {a k : Nat} (ha : a < 9223372036854775808) (hk : k < 63) : (decide (Abs.bitsI .and .i64 (Abs.bitsI .shr .i64 a k) 1 = 1)) = a.testBit k := by
  rw [shr_nat (by omega), show (1 : Int) = ((1 : Nat) : Int) from rfl, band_nat (by
    rw [Nat.shiftRight_eq_div_pow]
    exact Nat.lt_of_le_of_lt (Nat.div_le_self _ _) ha) (by omega)]
  rw [Nat.testBit, Nat.and_comm, Nat.one_and_eq_mod_two]
  rcases Nat.mod_two_eq_zero_or_one (a >>> k) with h | h <;> rw [h] <;> rfl

theorem sIx_eq (s : ByteArray) (i : Int) : sIx s i = ix (ofS s) i := by
  unfold sIx ix ofS
  cases decide (0 ≤ i) with
  | false => rfl
  | true =>
    simp only [cond_true]
    rw [List.getElem?_map, Array.getElem?_toList]
    have : s[i.toNat]? = s.data[i.toNat]? := rfl
    rw [this]
    cases s.data[i.toNat]? <;> rfl
theorem ofS_len (s : ByteArray) : (ofS s).length = s.size := by unfold ofS; rw [List.length_map, Array.length_toList]; rfl
theorem ofS_range (s : ByteArray) : ∀ c ∈ ofS s, 0 ≤ c ∧ c ≤ 255 := fun c hc => by
  obtain ⟨b, _, rfl⟩ := List.mem_map.1 hc
  have := b.toNat_lt
  omega
end Go.Proofs.Ytjafncnjefnloaa.Den

/-
  Names, small words of the reference: what they compute.
-/
namespace Go.Proofs.Ytjafncnjefnloaa.Den
open Go.RowKit

def alnum (c : Int) : Bool := (decide (97 ≤ c) && decide (c ≤ 122)) || ((decide (65 ≤ c) && decide (c ≤ 90)) || (decide (48 ≤ c) && decide (c ≤ 57)))
def letter (c : Int) : Bool := (decide (97 ≤ c) && decide (c ≤ 122)) || (decide (65 ≤ c) && decide (c ≤ 90))
def isIf (s : ByteArray) : Bool := sEq s (ByteArray.mk #[105, 102]) || sEq s (ByteArray.mk #[97, 110, 100])
def nameF (s : ByteArray) : Bool := decide (1 ≤ s.size) && (decide (s.size ≤ 12) && (!isIf s && (((ofS s).head?.any letter) && (ofS s).all alnum)))

theorem l1In_ok : EntOK Try.prog (s_l1In.ent fun x lo hi => some (decide (lo ≤ x) && decide (x ≤ hi))) := s_l1In.ok (G := ⟨()⟩) trivial fun x lo hi r h => ⟨1, by
  cases h
  unfold s_l1In.main
  by_cases h : lo ≤ x <;> simp [h]⟩
theorem l1Min_ok : EntOK Try.prog (s_l1Min.ent fun a b => some (imin b a)) := s_l1Min.ok (G := ⟨()⟩) trivial fun a b r h => ⟨1, by
  cases h
  unfold s_l1Min.main imin
  by_cases h : a < b <;> simp [h]⟩
theorem l1Has_ok : EntOK Try.prog (s_l1Has.ent fun l s => if l.length ≤ 1048576 then some (l.any fun x => sEq x s) else none) := s_l1Has.ok (G := ⟨()⟩) trivial fun (l : List ByteArray) s r h => by
  split at h
  · rename_i hl
    cases h
    refine ⟨l.length + 1, ?_⟩
    refine Eq.trans (iter_rule (body := fun v nx => s_l1Has.b2 ⟨()⟩ (l.length + 1) v.1 v.2.1 v.2.2 (fun y0 y1 y2 => nx (y0, y1, y2)) (fun t => some (AT.one (.b t), ([] : List Ob))) (some (AT.one (.b false), []))) (Q := fun v => v.1 = l ∧ v.2.1 = s ∧ 0 ≤ v.2.2 ∧ v.2.2 ≤ l.length) (μ := fun v => (l.length - v.2.2).toNat) (f := fun v => some (AT.one (.b ((l.drop v.2.2.toNat).any fun x => sEq x s)), [])) ?_ (l.length + 1) (l, s, 0) ⟨rfl, rfl, by simp, by simp⟩ (by simp)) (by simp)
    rintro ⟨a, b, i⟩ nx ⟨e1, e0, q0, q1⟩ ih
    simp only at e1 e0 q0 q1 ih ⊢
    subst e1 e0
    unfold s_l1Has.b2
    by_cases hi : i < (List.length a : Int)
    · obtain ⟨x, x1, x2, x3, x4⟩ := drop_step q0 hi
      rw [decide_eq_true hi, cond_true, x1, Option.bind_some, x3, List.any_cons]
      cases hs : sEq x b with
      | true => rfl
      | false =>
        rw [cond_false, wr_in (x := i + 1) (by omega), Bool.false_or]
        exact ih (a, b, i + 1) ⟨rfl, rfl, by simp only; omega, by simp only; omega⟩ (by simp only; omega)
    · rw [decide_eq_false hi, cond_false, drop_all hi]; rfl
  · cases h

theorem nameByte_ok : EntOK Try.prog (i_nameByte.ent fun c => some (alnum c)) := i_nameByte.ok (G := ⟨()⟩) trivial fun c r h => ⟨1, by
  cases h
  unfold i_nameByte.main alnum
  generalize decide (97 ≤ c) = b1
  generalize decide (c ≤ 122) = b2
  generalize decide (65 ≤ c) = b3
  generalize decide (c ≤ 90) = b4
  generalize decide (48 ≤ c) = b5
  generalize decide (c ≤ 57) = b6
  cases b1 <;> cases b2 <;> cases b3 <;> cases b4 <;> cases b5 <;> cases b6 <;> rfl⟩

theorem s_name_loop {R : Type} (G : s_IsName.Gs) (n : Nat) (s : ByteArray) (hs : s.size ≤ 12) (k0 : Bool → Option R) (k1 : Option R) : s_IsName.l4 G n 1000 s 0 k0 k1 = bif (ofS s).all alnum then k1 else k0 false := by
  refine Eq.trans (iter_rule (body := fun v nx => s_IsName.b4 G n v.1 v.2 (fun y0 y1 => nx (y0, y1)) k0 k1) (Q := fun v => v.1 = s ∧ 0 ≤ v.2 ∧ v.2 ≤ s.size) (μ := fun v => (s.size - v.2).toNat) (f := fun v => bif ((ofS s).drop v.2.toNat).all alnum then k1 else k0 false) ?_ 1000 (s, 0) ⟨rfl, by simp, by simp⟩ (by simp only; omega)) (by simp)
  rintro ⟨a, i⟩ nx ⟨e1, q0, q1⟩ ih
  simp only at e1 q0 q1 ih ⊢
  subst e1
  unfold s_IsName.b4
  by_cases hi : i < (ByteArray.size a : Int)
  · obtain ⟨c, x1, x2, x3, _⟩ := drop_step (a := ofS a) q0 (by rw [ofS_len]; exact hi)
    rw [decide_eq_true hi, cond_true]
    simp only [sIx_eq, x1, Option.bind_some]
    rw [x3, List.all_cons, wr_in (x := i + 1) (by omega)]
    have e := ih (a, i + 1) ⟨rfl, by simp only; omega, by simp only; omega⟩ (by simp only; omega)
    rw [e]
    unfold alnum
    generalize decide (97 ≤ c) = b1
    generalize decide (c ≤ 122) = b2
    generalize decide (65 ≤ c) = b3
    generalize decide (c ≤ 90) = b4
    generalize decide (48 ≤ c) = b5
    generalize decide (c ≤ 57) = b6
    cases b1 <;> cases b2 <;> cases b3 <;> cases b4 <;> cases b5 <;> cases b6 <;> rfl
  · rw [decide_eq_false hi, cond_false, drop_all (by rw [ofS_len]; exact hi)]; rfl
theorem s_IsName_ok : EntOK Try.prog (s_IsName.ent fun s => some (nameF s)) := s_IsName.ok (G := ⟨()⟩) trivial fun s r h => ⟨1000, by
  cases h
  unfold s_IsName.main nameF isIf
  cases h1 : sEq s (ByteArray.mk #[105, 102]) with
  | true => simp
  | false =>
    cases h2 : sEq s (ByteArray.mk #[97, 110, 100]) with
    | true => simp
    | false =>
      by_cases h3 : (ByteArray.size s : Int) < 1
      · rw [decide_eq_true h3, decide_eq_false (show ¬ 1 ≤ s.size by omega)]; rfl
      · by_cases h4 : 12 < (ByteArray.size s : Int)
        · rw [decide_eq_false h3, decide_eq_true h4, decide_eq_false (show ¬ s.size ≤ 12 by omega), decide_eq_true (show 1 ≤ s.size by omega)]; rfl
        · rw [decide_eq_false h3, decide_eq_false h4, decide_eq_true (show s.size ≤ 12 by omega), decide_eq_true (show 1 ≤ s.size by omega)]
          have hl := ofS_len s
          simp only [sIx_eq, cond_false, Bool.or_self, Bool.not_false, Bool.true_and, s_IsName.c3, s_name_loop ⟨()⟩ 1000 s (by omega)]
          cases hq : ofS s with
          | nil => rw [hq] at hl; simp at hl; omega
          | cons c l =>
            have e : ix (c :: l) 0 = some c := rfl
            simp only [e, Option.bind_some, List.head?_cons, Option.any_some]
            unfold letter
            generalize (c :: l).all alnum = b0
            generalize decide (97 ≤ c) = b1
            generalize decide (c ≤ 122) = b2
            generalize decide (65 ≤ c) = b3
            generalize decide (c ≤ 90) = b4
            cases b0 <;> cases b1 <;> cases b2 <;> cases b3 <;> cases b4 <;> rfl⟩

theorem i_name_loop {R : Type} (n : Nat) (s : ByteArray) (hs : s.size ≤ 12) (k0 : Bool → Option R) (k1 : Option R) : ∀ m (i : Int), 0 < i → i ≤ s.size → (s.size - i).toNat < m →
    i_IsName.l4 ⟨fun c => some (alnum c)⟩ n m s i k0 k1 = bif ((ofS s).drop i.toNat).all alnum then k1 else k0 false := by
  intro m
  induction m with
  | zero => intro i _ _ hm; omega
  | succ m ih =>
    intro i q0 q1 hm
    show i_IsName.b4 ⟨fun c => some (alnum c)⟩ n s i (fun y0 y1 => i_IsName.l4 ⟨fun c => some (alnum c)⟩ n m y0 y1 k0 k1) k0 k1 = _
    unfold i_IsName.b4
    by_cases hi : i < (ByteArray.size s : Int)
    · obtain ⟨c, x1, x2, x3, _⟩ := drop_step (a := ofS s) (i := i) (by omega) (by rw [ofS_len]; exact hi)
      rw [decide_eq_true hi, cond_true]
      simp only [sIx_eq, x1, Option.bind_some]
      rw [x3, List.all_cons, wr_in (x := i + 1) (by omega), decide_eq_false (by omega : ¬ i = 0), ih (i + 1) (by omega) (by omega) (by omega)]
      cases alnum c <;> rfl
    · rw [decide_eq_false hi, cond_false, drop_all (by rw [ofS_len]; exact hi)]; rfl
theorem i_IsName_ok : EntOK Try.prog (i_IsName.ent fun s => some (nameF s)) := i_IsName.ok (G := ⟨fun c => some (alnum c)⟩) ⟨nameByte_ok, trivial⟩ fun s r h => ⟨1000, by
  cases h
  unfold i_IsName.main nameF isIf
  by_cases h3 : (ByteArray.size s : Int) < 1
  · rw [decide_eq_true h3, decide_eq_false (show ¬ 1 ≤ s.size by omega)]; rfl
  · by_cases h4 : 12 < (ByteArray.size s : Int)
    · rw [decide_eq_false h3, decide_eq_true h4, decide_eq_false (show ¬ s.size ≤ 12 by omega), decide_eq_true (show 1 ≤ s.size by omega)]; rfl
    · rw [decide_eq_false h3, decide_eq_false h4, decide_eq_true (show s.size ≤ 12 by omega), decide_eq_true (show 1 ≤ s.size by omega)]
      cases h1 : sEq s (ByteArray.mk #[105, 102]) with
      | true => simp
      | false =>
        cases h2 : sEq s (ByteArray.mk #[97, 110, 100]) with
        | true => simp
        | false =>
          have hl := ofS_len s
          simp only [cond_false, Bool.or_self, Bool.not_false, Bool.true_and]
          show i_IsName.b4 ⟨fun c => some (alnum c)⟩ 1000 s 0 (fun y0 y1 => i_IsName.l4 ⟨fun c => some (alnum c)⟩ 1000 999 y0 y1 (fun t2 => some (AT.one (C.b t2), ([] : List Ob))) (some (AT.one (C.b true), []))) (fun t2 => some (AT.one (C.b t2), [])) (some (AT.one (C.b true), [])) = _
          unfold i_IsName.b4
          rw [decide_eq_true (by omega : 0 < (ByteArray.size s : Int)), cond_true]
          have key := i_name_loop 1000 s (by omega) (fun r0 => some (AT.one (.b r0), ([] : List Ob))) (some (AT.one (.b true), [])) 999 1 (by omega) (by omega) (by omega)
          have hr := ofS_range s
          cases hq : ofS s with
          | nil => rw [hq] at hl; simp at hl; omega
          | cons c l =>
            have e : ix (c :: l) 0 = some c := rfl
            rw [hq] at key
            have w1 : wr 1 = 1 := wr_in (by omega)
            simp only [sIx_eq, hq, e, Option.bind_some, List.head?_cons, Option.any_some, decide_true, cond_true, Int.zero_add, w1, key, Int.toNat_one, List.drop_one, List.tail_cons, List.all_cons]
            generalize l.all alnum = b0
            unfold alnum letter
            by_cases g1 : c ≤ 57
            · rw [decide_eq_true g1, decide_eq_false (show ¬ 97 ≤ c by omega), decide_eq_false (show ¬ 65 ≤ c by omega)]
              cases decide (48 ≤ c) <;> cases b0 <;> rfl
            · rw [decide_eq_false g1]
              generalize decide (97 ≤ c) = b1
              generalize decide (c ≤ 122) = b2
              generalize decide (65 ≤ c) = b3
              generalize decide (c ≤ 90) = b4
              generalize decide (48 ≤ c) = b5
              cases b0 <;> cases b1 <;> cases b2 <;> cases b3 <;> cases b4 <;> cases b5 <;> rfl⟩
end Go.Proofs.Ytjafncnjefnloaa.Den

/-
  The order of sorts: what the program and the reference compute.
-/
namespace Go.Proofs.Ytjafncnjefnloaa.Den
open Go.RowKit

abbrev orI (a b : Int) : Int := Abs.bitsI .or .i64 a b
abbrev bitI (i : Int) : Int := Abs.bitsI .shl .i64 1 i
def getI (l : List Int) (i : Int) : Int := (ix l i).getD 0
def itn {A : Type} (f : A → A) : Nat → A → A
  | 0, x => x
  | n + 1, x => itn f n (f x)
def upStep (l : List Int) (p : Sb) : List Int := l.set p.low.toNat (orI (getI l p.low) (getI l p.high))
def upRound (subs : List Sb) (l : List Int) : List Int := subs.foldl upStep l
def bitsTo (n : Nat) : List Int := (List.range n).map fun (k : Nat) => bitI (k : Int)
def upI (n : Nat) (subs : List Sb) : List Int := itn (upRound subs) n (bitsTo n)
def kindStep (l : List Int) (p : Sb) : List Int := (l.set p.low.toNat (imin (getI l p.low) (getI l p.high))).set p.high.toNat (imin (getI l p.low) (getI l p.high))
def kindRound (subs : List Sb) (l : List Int) : List Int := subs.foldl kindStep l
def nats (n : Nat) : List Int := (List.range n).map fun (k : Nat) => (k : Int)
def kindI (n : Nat) (subs : List Sb) : List Int := itn (kindRound subs) n (nats n)
def inSub (n : Nat) (p : Sb) : Bool := decide (0 ≤ p.low) && decide (p.low < n) && decide (0 ≤ p.high) && decide (p.high < n)
def subsIn (n : Nat) (subs : List Sb) : Bool := subs.all (inSub n)
def preS (s : So) : Bool := decide (s.names.length ≤ 8) && decide (s.subs.length ≤ 16) && subsIn s.names.length s.subs

theorem getI_ix {l : List Int} {i : Int} (h0 : 0 ≤ i) (h1 : i < l.length) : ix l i = some (getI l i) := by
  obtain ⟨x, hx⟩ := ix_len h0 h1
  unfold getI
  rw [hx]; rfl
theorem inSub_iff {n : Nat} {p : Sb} (h : inSub n p = true) : 0 ≤ p.low ∧ p.low < n ∧ 0 ≤ p.high ∧ p.high < n := by
  unfold inSub at h
  simp only [Bool.and_eq_true, decide_eq_true_eq] at h
  exact ⟨h.1.1.1, h.1.1.2, h.1.2, h.2⟩
theorem upStep_len (l : List Int) (p : Sb) : (upStep l p).length = l.length := by simp [upStep]
theorem kindStep_len (l : List Int) (p : Sb) : (kindStep l p).length = l.length := by simp [kindStep]
theorem fold_len {A : Type} {f : List Int → A → List Int} (hf : ∀ l p, (f l p).length = l.length) : ∀ (xs : List A) (l : List Int), (xs.foldl f l).length = l.length
  | [], _ => rfl
  | x :: xs, l => by rw [List.foldl_cons, fold_len hf xs, hf]
theorem itn_len {f : List Int → List Int} (hf : ∀ l, (f l).length = l.length) : ∀ n l, (itn f n l).length = l.length
  | 0, _ => rfl
  | n + 1, l => by simp only [itn]; rw [itn_len hf n, hf]
theorem upI_len (n : Nat) (subs : List Sb) : (upI n subs).length = n := by
  unfold upI
  rw [itn_len (f := upRound subs) (fun l => fold_len upStep_len subs l)]
  simp [bitsTo]
theorem kindI_len (n : Nat) (subs : List Sb) : (kindI n subs).length = n := by
  unfold kindI
  rw [itn_len (f := kindRound subs) (fun l => fold_len kindStep_len subs l)]
  simp [nats]

-- the program
section
variable {R : Type}
theorem up_init (G : i_sortsAbove.Gs) (n N : Nat) (hN : N ≤ 8) (h0 : List ByteArray) (h02 : List Sb) (k0 : List ByteArray → List Sb → List Int → Option R) : ∀ m (i : Int) (l : List Int), 0 ≤ i → i ≤ N → l.length = N → l.take i.toNat = (bitsTo N).take i.toNat → (N - i).toNat < m →
    i_sortsAbove.l3 G n m (N : Int) i h0 h02 l k0 = k0 h0 h02 (bitsTo N) := by
  intro m
  induction m with
  | zero => intro i l _ _ _ _ hm; omega
  | succ m ih =>
    intro i l q0 q1 ql qt hm
    show i_sortsAbove.b3 G n N i h0 h02 l (fun y0 y1 y2 y3 y4 => i_sortsAbove.l3 G n m y0 y1 y2 y3 y4 k0) k0 = _
    unfold i_sortsAbove.b3
    have hbl : (bitsTo N).length = N := by simp [bitsTo]
    by_cases hi : i < (N : Int)
    · rw [decide_eq_true hi, cond_true, decide_eq_true q0, cond_true, Option.bind_some, getI_ix q0 (by omega), Option.bind_some, wr_in (x := i + 1) (by omega)]
      have hx : (bitsTo N)[i.toNat]? = some (bitI i) := by
        have hlt : i.toNat < N := by omega
        have e : ((i.toNat : Nat) : Int) = i := by omega
        simp [bitsTo, hlt, e]
      obtain ⟨s1, s2⟩ := set_take (a := bitsTo N) (h := l) q0 (by omega) (by omega) qt hx
      exact ih (i + 1) _ (by omega) (by omega) (by simp [ql]) s2 (by omega)
    · rw [decide_eq_false hi, cond_false, full_take (a := bitsTo N) (h := l) (i := i) (by omega) (by omega) qt]
theorem up_subs (G : i_sortsAbove.Gs) (n N : Nat) (a b : Int) (subs : List Sb) (hs : subs.length ≤ 16) (h : subsIn N subs = true) (h0 : List ByteArray) (h02 : List Sb) (k0 : Int → Int → List ByteArray → List Sb → List Int → Option R) : ∀ m (i : Int) (l : List Int), 0 ≤ i → i ≤ subs.length → l.length = N → (subs.length - i).toNat < m →
    i_sortsAbove.l10 G n m a b subs (subs.length : Int) i h0 h02 l k0 = k0 a b h0 h02 (upRound (subs.drop i.toNat) l) := by
  intro m
  induction m with
  | zero => intro i l _ _ _ hm; omega
  | succ m ih =>
    intro i l q0 q1 ql hm
    show i_sortsAbove.b10 G n a b subs (subs.length : Int) i h0 h02 l (fun y0 y1 y2 y3 y4 y5 y6 y7 => i_sortsAbove.l10 G n m y0 y1 y2 y3 y4 y5 y6 y7 k0) k0 = _
    unfold i_sortsAbove.b10
    by_cases hi : i < (subs.length : Int)
    · obtain ⟨p, x1, x2, x3, _⟩ := drop_step q0 hi
      obtain ⟨p0, p1, p2, p3⟩ := inSub_iff (List.all_eq_true.1 h p x2)
      rw [decide_eq_true hi, cond_true, x1, Option.bind_some, getI_ix p0 (by omega), Option.bind_some, getI_ix p2 (by omega), Option.bind_some, Option.bind_some, wr_in (x := i + 1) (by omega)]
      refine Eq.trans (ih (i + 1) _ (by omega) (by omega) (by simp [ql]) (by omega)) ?_
      rw [x3]; rfl
    · rw [decide_eq_false hi, cond_false, drop_all hi]; rfl
theorem up_rounds (G : i_sortsAbove.Gs) (N : Nat) (hN : N ≤ 8) (subs : List Sb) (hs : subs.length ≤ 16) (h : subsIn N subs = true) (h0 : List ByteArray) (k0 : List Int → Option R) : ∀ m (i : Int) (l : List Int), 0 ≤ i → i ≤ N → l.length = N → (N - i).toNat < m →
    i_sortsAbove.l8 G 1000 m (N : Int) i h0 subs l k0 = k0 (itn (upRound subs) (N - i).toNat l) := by
  intro m
  induction m with
  | zero => intro i l _ _ _ hm; omega
  | succ m ih =>
    intro i l q0 q1 ql hm
    show i_sortsAbove.b8 G 1000 N i h0 subs l (fun y0 y1 y2 y3 y4 => i_sortsAbove.l8 G 1000 m y0 y1 y2 y3 y4 k0) k0 = _
    unfold i_sortsAbove.b8
    by_cases hi : i < (N : Int)
    · rw [decide_eq_true hi, cond_true, up_subs G 1000 N _ _ subs hs h _ _ _ 1000 0 l (by omega) (by omega) ql (by omega), wr_in (x := i + 1) (by omega)]
      refine Eq.trans (ih (i + 1) _ (by omega) (by omega) (by rw [Int.toNat_zero, List.drop_zero]; exact (fold_len upStep_len subs l).trans ql) (by omega)) ?_
      rw [show (N - i).toNat = (N - (i + 1)).toNat + 1 by omega]; rfl
    · rw [decide_eq_false hi, cond_false, show (N - i).toNat = 0 by omega]; rfl
end
theorem preS_iff {s : So} (h : preS s = true) : s.names.length ≤ 8 ∧ s.subs.length ≤ 16 ∧ subsIn s.names.length s.subs = true := by
  unfold preS at h
  simp only [Bool.and_eq_true, decide_eq_true_eq] at h
  exact ⟨h.1.1, h.1.2, h.2⟩
theorem sortsAbove_ok : EntOK Try.prog (i_sortsAbove.ent fun s => if preS s then some (upI s.names.length s.subs) else none) := i_sortsAbove.ok (G := ⟨()⟩) trivial fun s r h => by
  split at h
  · rename_i hp
    cases h
    obtain ⟨h1, h2, h3⟩ := preS_iff hp
    refine ⟨1000, ?_⟩
    unfold i_sortsAbove.main
    rw [mk_nat (by omega), Option.bind_some]
    have e : ((List.replicate s.names.length (0 : Int)).length : Int) = (s.names.length : Int) := by simp
    rw [e, up_init ⟨()⟩ 1000 s.names.length h1 _ _ _ 1000 0 _ (by omega) (by omega) (by simp) (by simp) (by omega)]
    have e2 : ((bitsTo s.names.length).length : Int) = (s.names.length : Int) := by simp [bitsTo]
    rw [e2, up_rounds ⟨()⟩ s.names.length h1 s.subs h2 h3 _ _ 1000 0 _ (by omega) (by omega) (by simp [bitsTo]) (by omega)]
    rfl
  · cases h

-- the reference
theorem l2Bit_ok : EntOK Try.prog (s_l2Bit.ent fun k => if 0 ≤ k ∧ k < 1000 then some (bitI k) else none) := s_l2Bit.ok (G := ⟨()⟩) trivial fun k r h => by
  split at h
  · rename_i hk
    cases h
    refine ⟨1, ?_⟩
    unfold s_l2Bit.main
    rw [wrap_u64 hk.1 hk.2, decide_eq_true hk.1]; rfl
  · cases h
abbrev g2Bit : Int → Option Int := fun k => if 0 ≤ k ∧ k < 1000 then some (bitI k) else none
section
variable {R : Type}
theorem sup_init (n : Nat) (h0 : List ByteArray) (hN : h0.length ≤ 8) (h02 : List Sb) (k0 : List ByteArray → List Sb → List Int → Option R) : ∀ m (i : Int) (l : List Int), 0 ≤ i → i ≤ h0.length → l = bitsTo i.toNat → (h0.length - i).toNat < m →
    s_l3Up.l3 ⟨g2Bit⟩ n m i h0 h02 l k0 = k0 h0 h02 (bitsTo h0.length) := by
  intro m
  induction m with
  | zero => intro i l _ _ _ hm; omega
  | succ m ih =>
    intro i l q0 q1 ql hm
    show s_l3Up.b3 ⟨g2Bit⟩ n i h0 h02 l (fun y0 y1 y2 y3 => s_l3Up.l3 ⟨g2Bit⟩ n m y0 y1 y2 y3 k0) k0 = _
    unfold s_l3Up.b3
    have hl : l.length = i.toNat := by rw [ql]; simp [bitsTo]
    by_cases hi : i < (h0.length : Int)
    · have hb : g2Bit i = some (bitI i) := if_pos ⟨q0, by omega⟩
      rw [decide_eq_true hi, cond_true]
      dsimp only
      rw [hb, Option.bind_some, lim_eq (by simp; omega), Option.bind_some, wr_in (x := i + 1) (by omega)]
      refine ih (i + 1) _ (by omega) (by omega) ?_ (by omega)
      have e : (i + 1).toNat = i.toNat + 1 := by omega
      have e2 : ((i.toNat : Nat) : Int) = i := by omega
      rw [e, ql]
      simp [bitsTo, List.range_succ, e2]
    · rw [decide_eq_false hi, cond_false, ql, show i.toNat = h0.length by omega]
theorem sup_subs (G : s_l3Up.Gs) (n N : Nat) (a : Int) (subs : List Sb) (hs : subs.length ≤ 16) (h : subsIn N subs = true) (h0 : List ByteArray) (k0 : Int → List ByteArray → List Sb → List Int → Option R) : ∀ m (i : Int) (l : List Int), 0 ≤ i → i ≤ subs.length → l.length = N → (subs.length - i).toNat < m →
    s_l3Up.l10 G n m a i h0 subs l k0 = k0 a h0 subs (upRound (subs.drop i.toNat) l) := by
  intro m
  induction m with
  | zero => intro i l _ _ _ hm; omega
  | succ m ih =>
    intro i l q0 q1 ql hm
    show s_l3Up.b10 G n a i h0 subs l (fun y0 y1 y2 y3 y4 => s_l3Up.l10 G n m y0 y1 y2 y3 y4 k0) k0 = _
    unfold s_l3Up.b10
    by_cases hi : i < (subs.length : Int)
    · obtain ⟨p, x1, x2, x3, _⟩ := drop_step q0 hi
      obtain ⟨p0, p1, p2, p3⟩ := inSub_iff (List.all_eq_true.1 h p x2)
      rw [decide_eq_true hi, cond_true]
      simp only [x1, Option.bind_some, getI_ix (l := l) p0 (by omega), getI_ix (l := l) p2 (by omega), wr_in (x := i + 1) (by omega)]
      refine Eq.trans (ih (i + 1) _ (by omega) (by omega) (by simp [ql]) (by omega)) ?_
      rw [x3]; rfl
    · rw [decide_eq_false hi, cond_false, drop_all hi]; rfl
theorem sup_rounds (G : s_l3Up.Gs) (N : Nat) (h0 : List ByteArray) (hN : h0.length = N) (hN8 : N ≤ 8) (subs : List Sb) (hs : subs.length ≤ 16) (h : subsIn N subs = true) (k0 : List Int → Option R) : ∀ m (i : Int) (l : List Int), 0 ≤ i → i ≤ N → l.length = N → (N - i).toNat < m →
    s_l3Up.l7 G 1000 m i h0 subs l k0 = k0 (itn (upRound subs) (N - i).toNat l) := by
  intro m
  induction m with
  | zero => intro i l _ _ _ hm; omega
  | succ m ih =>
    intro i l q0 q1 ql hm
    show s_l3Up.b7 G 1000 i h0 subs l (fun y0 y1 y2 y3 => s_l3Up.l7 G 1000 m y0 y1 y2 y3 k0) k0 = _
    unfold s_l3Up.b7
    rw [hN]
    by_cases hi : i < (N : Int)
    · rw [decide_eq_true hi, cond_true, sup_subs G 1000 N _ subs hs h _ _ 1000 0 l (by omega) (by omega) ql (by omega), wr_in (x := i + 1) (by omega)]
      refine Eq.trans (ih (i + 1) _ (by omega) (by omega) (by rw [Int.toNat_zero, List.drop_zero]; exact (fold_len upStep_len subs l).trans ql) (by omega)) ?_
      rw [show (N - i).toNat = (N - (i + 1)).toNat + 1 by omega]; rfl
    · rw [decide_eq_false hi, cond_false, show (N - i).toNat = 0 by omega]; rfl
theorem skind_init (G : s_l3Kinds.Gs) (n : Nat) (h0 : List ByteArray) (hN : h0.length ≤ 8) (h02 : List Sb) (k0 : List ByteArray → List Sb → List Int → Option R) : ∀ m (i : Int) (l : List Int), 0 ≤ i → i ≤ h0.length → l = nats i.toNat → (h0.length - i).toNat < m →
    s_l3Kinds.l3 G n m i h0 h02 l k0 = k0 h0 h02 (nats h0.length) := by
  intro m
  induction m with
  | zero => intro i l _ _ _ hm; omega
  | succ m ih =>
    intro i l q0 q1 ql hm
    show s_l3Kinds.b3 G n i h0 h02 l (fun y0 y1 y2 y3 => s_l3Kinds.l3 G n m y0 y1 y2 y3 k0) k0 = _
    unfold s_l3Kinds.b3
    have hl : l.length = i.toNat := by rw [ql]; simp [nats]
    by_cases hi : i < (h0.length : Int)
    · rw [decide_eq_true hi, cond_true, lim_eq (by simp; omega), Option.bind_some, wr_in (x := i + 1) (by omega)]
      refine ih (i + 1) _ (by omega) (by omega) ?_ (by omega)
      have e : (i + 1).toNat = i.toNat + 1 := by omega
      have e2 : ((i.toNat : Nat) : Int) = i := by omega
      rw [e, ql]
      simp [nats, List.range_succ, e2]
    · rw [decide_eq_false hi, cond_false, ql, show i.toNat = h0.length by omega]
theorem skind_subs (n N : Nat) (a : Int) (subs : List Sb) (hs : subs.length ≤ 16) (h : subsIn N subs = true) (h0 : List ByteArray) (k0 : Int → List ByteArray → List Sb → List Int → Option R) : ∀ m (i : Int) (l : List Int), 0 ≤ i → i ≤ subs.length → l.length = N → (subs.length - i).toNat < m →
    s_l3Kinds.l10 ⟨fun a b => some (imin b a)⟩ n m a i h0 subs l k0 = k0 a h0 subs (kindRound (subs.drop i.toNat) l) := by
  intro m
  induction m with
  | zero => intro i l _ _ _ hm; omega
  | succ m ih =>
    intro i l q0 q1 ql hm
    show s_l3Kinds.b10 ⟨fun a b => some (imin b a)⟩ n a i h0 subs l (fun y0 y1 y2 y3 y4 => s_l3Kinds.l10 ⟨fun a b => some (imin b a)⟩ n m y0 y1 y2 y3 y4 k0) k0 = _
    unfold s_l3Kinds.b10
    by_cases hi : i < (subs.length : Int)
    · obtain ⟨p, x1, x2, x3, _⟩ := drop_step q0 hi
      obtain ⟨p0, p1, p2, p3⟩ := inSub_iff (List.all_eq_true.1 h p x2)
      rw [decide_eq_true hi, cond_true]
      have hset : ∀ z, ∃ y, ix (l.set p.low.toNat z) p.high = some y := fun z => ix_len p2 (by simp; omega)
      have e0 : imin (getI l p.high) (getI l p.low) = imin (getI l p.low) (getI l p.high) := by unfold imin; split <;> split <;> omega
      obtain ⟨y, hy⟩ := hset (imin (getI l p.low) (getI l p.high))
      simp only [x1, Option.bind_some, getI_ix (l := l) p0 (by omega), getI_ix (l := l) p2 (by omega), wr_in (x := i + 1) (by omega), e0, hy]
      refine Eq.trans (ih (i + 1) _ (by omega) (by omega) (by simp [ql]) (by omega)) ?_
      rw [x3]; rfl
    · rw [decide_eq_false hi, cond_false, drop_all hi]; rfl
theorem skind_rounds (N : Nat) (h0 : List ByteArray) (hN8 : N ≤ 8) (subs : List Sb) (hs : subs.length ≤ 16) (h : subsIn N subs = true) (k0 : List Int → Option R) : ∀ m (i : Int) (l : List Int), 0 ≤ i → i ≤ N → l.length = N → (N - i).toNat < m →
    s_l3Kinds.l7 ⟨fun a b => some (imin b a)⟩ 1000 m i h0 subs l k0 = k0 (itn (kindRound subs) (N - i).toNat l) := by
  intro m
  induction m with
  | zero => intro i l _ _ _ hm; omega
  | succ m ih =>
    intro i l q0 q1 ql hm
    show s_l3Kinds.b7 ⟨fun a b => some (imin b a)⟩ 1000 i h0 subs l (fun y0 y1 y2 y3 => s_l3Kinds.l7 ⟨fun a b => some (imin b a)⟩ 1000 m y0 y1 y2 y3 k0) k0 = _
    unfold s_l3Kinds.b7
    rw [ql]
    by_cases hi : i < (N : Int)
    · rw [decide_eq_true hi, cond_true, skind_subs 1000 N _ subs hs h _ _ 1000 0 l (by omega) (by omega) ql (by omega), wr_in (x := i + 1) (by omega)]
      refine Eq.trans (ih (i + 1) _ (by omega) (by omega) (by rw [Int.toNat_zero, List.drop_zero]; exact (fold_len kindStep_len subs l).trans ql) (by omega)) ?_
      rw [show (N - i).toNat = (N - (i + 1)).toNat + 1 by omega]; rfl
    · rw [decide_eq_false hi, cond_false, show (N - i).toNat = 0 by omega]; rfl
end
theorem l3Up_ok : EntOK Try.prog (s_l3Up.ent fun s => if preS s then some (upI s.names.length s.subs) else none) := s_l3Up.ok (G := ⟨g2Bit⟩) ⟨l2Bit_ok, trivial⟩ fun s r h => by
  split at h
  · rename_i hp
    cases h
    obtain ⟨h1, h2, h3⟩ := preS_iff hp
    refine ⟨1000, ?_⟩
    unfold s_l3Up.main
    rw [sup_init 1000 s.names h1 _ _ 1000 0 [] (by omega) (by omega) rfl (by omega), sup_rounds ⟨g2Bit⟩ s.names.length s.names rfl h1 s.subs h2 h3 _ 1000 0 _ (by omega) (by omega) (by simp [bitsTo]) (by omega)]
    rfl
  · cases h
theorem l3Kinds_ok : EntOK Try.prog (s_l3Kinds.ent fun s => if preS s then some (kindI s.names.length s.subs) else none) := s_l3Kinds.ok (G := ⟨fun a b => some (imin b a)⟩) ⟨l1Min_ok, trivial⟩ fun s r h => by
  split at h
  · rename_i hp
    cases h
    obtain ⟨h1, h2, h3⟩ := preS_iff hp
    refine ⟨1000, ?_⟩
    unfold s_l3Kinds.main
    rw [skind_init _ 1000 s.names h1 _ _ 1000 0 [] (by omega) (by omega) rfl (by omega), skind_rounds s.names.length s.names h1 s.subs h2 h3 _ 1000 0 _ (by omega) (by omega) (by simp [nats]) (by omega)]
    rfl
  · cases h
end Go.Proofs.Ytjafncnjefnloaa.Den

/-
  Valid sorts: the program and the reference say the same.
-/
namespace Go.Proofs.Ytjafncnjefnloaa.Den
open Go.RowKit
open Classical

def namesF : List ByteArray → List ByteArray → Bool
  | _, [] => true
  | seen, x :: xs => nameF x && (!(seen.any fun y => sEq y x) && namesF (seen ++ [x]) xs)
def subF (n : Nat) (p : Sb) : Bool := inSub n p && !decide (p.low = p.high)
def hasB (x k : Int) : Bool := decide (Abs.bitsI .and .i64 (Abs.bitsI .shr .i64 x k) 1 = 1)
def bad (l : List Int) (i k : Int) : Prop := hasB (getI l i) k = true ∧ hasB (getI l k) i = true
noncomputable def antiF (l : List Int) : Bool := decide (¬ ∃ i k : Int, 0 ≤ k ∧ k < i ∧ i < l.length ∧ bad l i k)
noncomputable def sortsF (s : So) : Bool := decide (1 ≤ s.names.length) && (decide (s.names.length ≤ 8) && (decide (s.subs.length ≤ 16) && (namesF [] s.names && (s.subs.all (subF s.names.length) && antiF (upI s.names.length s.subs)))))

def SmallN (N : Nat) (x : Int) : Prop := ∃ a : Nat, x = a ∧ a < 2 ^ N
abbrev Small (x : Int) : Prop := ∃ a : Nat, x = a ∧ a < 256
theorem pow_le8 {N : Nat} (hN : N ≤ 8) : 2 ^ N ≤ 256 := by
  have := Nat.pow_le_pow_right (n := 2) (by omega) hN
  simpa using this
theorem SmallN.small {N : Nat} (hN : N ≤ 8) {x : Int} (h : SmallN N x) : Small x := by
  obtain ⟨a, e, h⟩ := h
  have := pow_le8 hN
  exact ⟨a, e, by omega⟩
theorem orI_small {N : Nat} (hN : N ≤ 8) {a b : Int} (ha : SmallN N a) (hb : SmallN N b) : SmallN N (orI a b) := by
  have := pow_le8 hN
  obtain ⟨x, rfl, hx⟩ := ha
  obtain ⟨y, rfl, hy⟩ := hb
  exact ⟨x ||| y, bor_nat (by omega) (by omega), Nat.or_lt_two_pow hx hy⟩
theorem getI_mem {l : List Int} {i : Int} (h0 : 0 ≤ i) (h1 : i < l.length) : getI l i ∈ l := by
  have := getI_ix h0 h1
  unfold ix at this
  rw [decide_eq_true h0, cond_true] at this
  exact List.mem_of_getElem? this
theorem upStep_small {l : List Int} {p : Sb} {N : Nat} (hN : N ≤ 8) (hl : l.length = N) (hp : inSub N p = true) (h : ∀ x ∈ l, SmallN N x) : ∀ x ∈ upStep l p, SmallN N x := by
  obtain ⟨p0, p1, p2, p3⟩ := inSub_iff hp
  intro x hx
  rcases List.mem_or_eq_of_mem_set hx with hx | rfl
  · exact h x hx
  · exact orI_small hN (h _ (getI_mem p0 (by omega))) (h _ (getI_mem p2 (by omega)))
theorem upRound_small {N : Nat} (hN : N ≤ 8) : ∀ (subs : List Sb) (l : List Int), l.length = N → subsIn N subs = true → (∀ x ∈ l, SmallN N x) → ∀ x ∈ upRound subs l, SmallN N x
  | [], _, _, _, h => h
  | p :: ps, l, hl, hs, h => by
    simp only [subsIn, List.all_cons, Bool.and_eq_true] at hs
    exact upRound_small hN ps (upStep l p) (by rw [upStep_len, hl]) hs.2 (upStep_small hN hl hs.1 h)
theorem itn_small {N : Nat} (hN : N ≤ 8) {subs : List Sb} (hs : subsIn N subs = true) : ∀ (n : Nat) (l : List Int), l.length = N → (∀ x ∈ l, SmallN N x) → ∀ x ∈ itn (upRound subs) n l, SmallN N x
  | 0, _, _, h => h
  | n + 1, l, hl, h => itn_small hN hs n _ ((fold_len upStep_len subs l).trans hl) (upRound_small hN subs l hl hs h)
theorem upI_smallN {N : Nat} {subs : List Sb} (hN : N ≤ 8) (hs : subsIn N subs = true) : ∀ x ∈ upI N subs, SmallN N x := by
  refine itn_small hN hs N _ (by simp [bitsTo]) fun x hx => ?_
  obtain ⟨k, hk, rfl⟩ := List.mem_map.1 hx
  have hk : k < N := by simpa using hk
  exact ⟨2 ^ k, shl1_nat (by omega), Nat.pow_lt_pow_right (by omega) hk⟩
theorem upI_small {N : Nat} {subs : List Sb} (hN : N ≤ 8) (hs : subsIn N subs = true) : ∀ x ∈ upI N subs, Small x := fun x hx => (upI_smallN hN hs x hx).small hN
theorem ite_iff {A : Type} {p q : Prop} {a b : A} (h : p ↔ q) : (if p then a else b) = (if q then a else b) := by
  by_cases hp : p
  · rw [if_pos hp, if_pos (h.1 hp)]
  · rw [if_neg hp, if_neg (fun x => hp (h.2 x))]
/-- The two ways to ask for a bit. -/
theorem has_and {x k : Int} (hx : Small x) (h0 : 0 ≤ k) (h1 : k < 63) : (!decide (Abs.bitsI .and .i64 x (bitI k) = 0)) = hasB x k := by
  obtain ⟨a, rfl, ha⟩ := hx
  obtain ⟨j, rfl⟩ : ∃ j : Nat, k = j := ⟨k.toNat, by omega⟩
  unfold hasB bitI
  rw [shl1_nat (by omega), bit_and (by omega) (by omega), bit_shr (by omega) (by omega), Bool.not_not]

abbrev g2Has : Int → Int → Option Bool := fun set k => some (decide (0 ≤ k) && (decide (k < 16) && hasB set k))
theorem l2Has_ok : EntOK Try.prog (s_l2Has.ent g2Has) := s_l2Has.ok (G := ⟨()⟩) trivial fun set k r h => ⟨1, by
  cases h
  unfold s_l2Has.main hasB
  by_cases h0 : 0 ≤ k
  · by_cases h1 : k < 16
    · rw [decide_eq_true h0, decide_eq_true h1, wrap_u64 h0 (by omega), decide_eq_true h0]; rfl
    · rw [decide_eq_true h0, decide_eq_false h1]; rfl
  · rw [decide_eq_false h0]; rfl⟩
abbrev gUpS : So → Option (List Int) := fun s => if preS s then some (upI s.names.length s.subs) else none
abbrev gName : ByteArray → Option Bool := fun s => some (nameF s)
abbrev gIn : Int → Int → Int → Option Bool := fun x lo hi => some (decide (lo ≤ x) && decide (x ≤ hi))
abbrev gHasS : List ByteArray → ByteArray → Option Bool := fun l s => if l.length ≤ 1048576 then some (l.any fun x => sEq x s) else none
abbrev GSorts : s_IsSorts.Gs := { s_IsName := gName, s_l1Has := gHasS, s_l1In := gIn, s_l3Up := gUpS, s_l2Has := g2Has }
section
variable {R : Type}
theorem subF_false {n : Nat} {p : Sb} : subF n p = true ↔ 0 ≤ p.low ∧ p.low < n ∧ 0 ≤ p.high ∧ p.high < n ∧ p.low ≠ p.high := by
  unfold subF inSub
  simp only [Bool.and_eq_true, decide_eq_true_eq, Bool.not_eq_true', decide_eq_false_iff_not]
  constructor
  · rintro ⟨⟨⟨⟨h1, h2⟩, h3⟩, h4⟩, h5⟩; exact ⟨h1, h2, h3, h4, h5⟩
  · rintro ⟨h1, h2, h3, h4, h5⟩; exact ⟨⟨⟨⟨h1, h2⟩, h3⟩, h4⟩, h5⟩
theorem ss_names (n : Nat) (h0 : List ByteArray) (hN : h0.length ≤ 8) (h02 : List Sb) (k0 : Bool → Option R) (k1 : List ByteArray → List Sb → Option R) : ∀ m (i : Int), 0 ≤ i → i ≤ h0.length → (h0.length - i).toNat < m →
    s_IsSorts.l4 GSorts n m i h0 h02 k0 k1 = bif namesF (h0.take i.toNat) (h0.drop i.toNat) then k1 h0 h02 else k0 false := by
  intro m
  induction m with
  | zero => intro i _ _ hm; omega
  | succ m ih =>
    intro i q0 q1 hm
    show s_IsSorts.b4 GSorts n i h0 h02 (fun y0 y1 y2 => s_IsSorts.l4 GSorts n m y0 y1 y2 k0 k1) k0 k1 = _
    unfold s_IsSorts.b4
    by_cases hi : i < (h0.length : Int)
    · obtain ⟨x, x1, x2, x3, x4⟩ := drop_step q0 hi
      have e : (i + 1).toNat = i.toNat + 1 := by omega
      have ht : h0.take (i + 1).toNat = h0.take i.toNat ++ [x] := by
        obtain ⟨hlt, hx⟩ := List.getElem?_eq_some_iff.1 x4
        rw [e, List.take_succ_eq_append_getElem hlt, hx]
      have hsub : sub h0 0 i = some (h0.take i.toNat) := by rw [sub_eq (by omega) q0 (by omega)]; rfl
      have hhas : gHasS (h0.take i.toNat) x = some ((h0.take i.toNat).any fun y => sEq y x) := if_pos (by rw [List.length_take]; omega)
      rw [decide_eq_true hi, cond_true]
      simp only [x1, Option.bind_some, hsub, hhas, wr_in (x := i + 1) (by omega)]
      rw [x3, namesF, ih (i + 1) (by omega) (by omega) (by omega), ht]
      cases nameF x <;> cases ((h0.take i.toNat).any fun y => sEq y x) <;> rfl
    · rw [decide_eq_false hi, cond_false, drop_all hi]; rfl
theorem ss_subs (n : Nat) (h0 : List ByteArray) (hN : h0.length ≤ 8) (subs : List Sb) (hs : subs.length ≤ 16) (k0 : Bool → Option R) (k1 : List ByteArray → List Sb → Option R) : ∀ m (i : Int), 0 ≤ i → i ≤ subs.length → (subs.length - i).toNat < m →
    s_IsSorts.l9 GSorts n m i h0 subs k0 k1 = bif (subs.drop i.toNat).all (subF h0.length) then k1 h0 subs else k0 false := by
  intro m
  induction m with
  | zero => intro i _ _ hm; omega
  | succ m ih =>
    intro i q0 q1 hm
    show s_IsSorts.b9 GSorts n i h0 subs (fun y0 y1 y2 => s_IsSorts.l9 GSorts n m y0 y1 y2 k0 k1) k0 k1 = _
    unfold s_IsSorts.b9
    by_cases hi : i < (subs.length : Int)
    · obtain ⟨p, x1, x2, x3, x4⟩ := drop_step q0 hi
      rw [decide_eq_true hi, cond_true]
      simp only [x1, Option.bind_some, wr_in (x := i + 1) (by omega), wr_in (x := (h0.length : Int) - 1) (by omega)]
      rw [x3, List.all_cons, ih (i + 1) (by omega) (by omega) (by omega)]
      have e1 : (decide (0 ≤ p.low) && decide (p.low ≤ (h0.length : Int) - 1)) = (decide (0 ≤ p.low) && decide (p.low < h0.length)) := by congr 1; exact decide_eq_decide.2 (by omega)
      have e2 : (decide (0 ≤ p.high) && decide (p.high ≤ (h0.length : Int) - 1)) = (decide (0 ≤ p.high) && decide (p.high < h0.length)) := by congr 1; exact decide_eq_decide.2 (by omega)
      rw [e1, e2]
      unfold subF inSub
      cases decide (0 ≤ p.low) <;> cases decide (p.low < (h0.length : Int)) <;> cases decide (0 ≤ p.high) <;> cases decide (p.high < (h0.length : Int)) <;> cases decide (p.low = p.high) <;> rfl
    · rw [decide_eq_false hi, cond_false, drop_all hi]; rfl
theorem ss_in (n : Nat) (l : List Int) (hl : l.length ≤ 8) (i : Int) (i0 : 0 ≤ i) (i1 : i < l.length) (k0 : Bool → Option R) (k1 : List Int → Int → Option R) : ∀ m (k : Int), 0 ≤ k → k ≤ i → (i - k).toNat < m →
    s_IsSorts.l18 GSorts n m l i k k0 k1 = if ∃ j, k ≤ j ∧ j < i ∧ bad l i j then k0 false else k1 l i := by
  intro m
  induction m with
  | zero => intro k _ _ hm; omega
  | succ m ih =>
    intro k q0 q1 hm
    show s_IsSorts.b18 GSorts n l i k (fun y0 y1 y2 => s_IsSorts.l18 GSorts n m y0 y1 y2 k0 k1) k0 k1 = _
    unfold s_IsSorts.b18
    by_cases hi : k < i
    · rw [decide_eq_true hi, cond_true]
      simp only [getI_ix i0 i1, getI_ix (l := l) q0 (by omega), Option.bind_some, decide_eq_true q0, decide_eq_true (show k < 16 by omega), decide_eq_true i0, decide_eq_true (show i < 16 by omega), Bool.true_and, wr_in (x := k + 1) (by omega)]
      rw [ih (k + 1) (by omega) (by omega) (by omega)]
      have hex : (∃ j, k ≤ j ∧ j < i ∧ bad l i j) ↔ bad l i k ∨ ∃ j, k + 1 ≤ j ∧ j < i ∧ bad l i j := by
        constructor
        · rintro ⟨j, h1, h2, h3⟩
          by_cases e : j = k
          · subst e; exact .inl h3
          · exact .inr ⟨j, by omega, h2, h3⟩
        · rintro (h | ⟨j, h1, h2, h3⟩)
          · exact ⟨k, by omega, hi, h⟩
          · exact ⟨j, by omega, h2, h3⟩
      by_cases hb : bad l i k
      · rw [if_pos (hex.2 (.inl hb)), hb.1, hb.2]; rfl
      · have : (∃ j, k ≤ j ∧ j < i ∧ bad l i j) ↔ ∃ j, k + 1 ≤ j ∧ j < i ∧ bad l i j := hex.trans ⟨fun h => h.resolve_left hb, .inr⟩
        rw [ite_iff this]
        unfold bad at hb
        cases h1 : hasB (getI l i) k with
        | false => rfl
        | true =>
          cases h2 : hasB (getI l k) i with
          | false => rfl
          | true => exact absurd ⟨h1, h2⟩ hb
    · rw [decide_eq_false hi, cond_false, if_neg (by rintro ⟨j, h1, h2, _⟩; omega)]
theorem ss_out (l : List Int) (hl : l.length ≤ 8) (k0 : Bool → Option R) (k1 : Option R) : ∀ m (i : Int), 0 ≤ i → i ≤ l.length → (l.length - i).toNat < m →
    s_IsSorts.l15 GSorts 1000 m l i k0 k1 = if ∃ j k, i ≤ j ∧ j < l.length ∧ 0 ≤ k ∧ k < j ∧ bad l j k then k0 false else k1 := by
  intro m
  induction m with
  | zero => intro k _ _ hm; omega
  | succ m ih =>
    intro i q0 q1 hm
    show s_IsSorts.b15 GSorts 1000 l i (fun y0 y1 => s_IsSorts.l15 GSorts 1000 m y0 y1 k0 k1) k0 k1 = _
    unfold s_IsSorts.b15
    by_cases hi : i < (l.length : Int)
    · rw [decide_eq_true hi, cond_true, ss_in 1000 l hl i q0 hi _ _ 1000 0 (by omega) (by omega) (by omega), wr_in (x := i + 1) (by omega)]
      dsimp only
      rw [ih (i + 1) (by omega) (by omega) (by omega)]
      have hex : (∃ j k, i ≤ j ∧ j < (l.length : Int) ∧ 0 ≤ k ∧ k < j ∧ bad l j k) ↔ (∃ k, 0 ≤ k ∧ k < i ∧ bad l i k) ∨ ∃ j k, i + 1 ≤ j ∧ j < (l.length : Int) ∧ 0 ≤ k ∧ k < j ∧ bad l j k := by
        constructor
        · rintro ⟨j, k, h1, h2, h3, h4, h5⟩
          by_cases e : j = i
          · subst e; exact .inl ⟨k, h3, h4, h5⟩
          · exact .inr ⟨j, k, by omega, h2, h3, h4, h5⟩
        · rintro (⟨k, h3, h4, h5⟩ | ⟨j, k, h1, h2, h3, h4, h5⟩)
          · exact ⟨i, k, by omega, hi, h3, h4, h5⟩
          · exact ⟨j, k, by omega, h2, h3, h4, h5⟩
      by_cases hb : ∃ k, 0 ≤ k ∧ k < i ∧ bad l i k
      · rw [if_pos hb, if_pos (hex.2 (.inl hb))]
      · rw [if_neg hb, ite_iff (hex.trans ⟨fun h => h.resolve_left hb, .inr⟩)]
    · rw [decide_eq_false hi, cond_false, if_neg (by rintro ⟨j, k, h1, h2, _⟩; omega)]
end
theorem subs_in {n : Nat} {subs : List Sb} (h : subs.all (subF n) = true) : subsIn n subs = true := by
  unfold subsIn
  rw [List.all_eq_true] at h ⊢
  intro p hp
  have := h p hp
  unfold subF at this
  rw [Bool.and_eq_true] at this
  exact this.1
theorem antiF_if {l : List Int} {R : Type} {a b : R} : (if ∃ j k, 0 ≤ j ∧ j < (l.length : Int) ∧ 0 ≤ k ∧ k < j ∧ bad l j k then a else b) = bif antiF l then b else a := by
  unfold antiF
  have : (∃ j k, 0 ≤ j ∧ j < (l.length : Int) ∧ 0 ≤ k ∧ k < j ∧ bad l j k) ↔ ∃ i k : Int, 0 ≤ k ∧ k < i ∧ i < l.length ∧ bad l i k :=
    ⟨fun ⟨j, k, h1, h2, h3, h4, h5⟩ => ⟨j, k, h3, h4, h2, h5⟩, fun ⟨j, k, h3, h4, h2, h5⟩ => ⟨j, k, by omega, h2, h3, h4, h5⟩⟩
  by_cases h : ∃ i k : Int, 0 ≤ k ∧ k < i ∧ i < l.length ∧ bad l i k
  · rw [if_pos (this.2 h), decide_eq_false (not_not_intro h)]; rfl
  · rw [if_neg (fun x => h (this.1 x)), decide_eq_true h]; rfl
theorem s_IsSorts_ok : EntOK Try.prog (s_IsSorts.ent fun s => some (sortsF s)) := s_IsSorts.ok (G := GSorts) ⟨s_IsName_ok, l1Has_ok, l1In_ok, l3Up_ok, l2Has_ok, trivial⟩ fun s r h => ⟨1000, by
  cases h
  unfold s_IsSorts.main sortsF
  by_cases h1 : (s.names.length : Int) < 1
  · rw [decide_eq_true h1, decide_eq_false (show ¬ 1 ≤ s.names.length by omega)]; rfl
  by_cases h2 : 8 < (s.names.length : Int)
  · rw [decide_eq_false h1, decide_eq_true h2, decide_eq_false (show ¬ s.names.length ≤ 8 by omega), decide_eq_true (show 1 ≤ s.names.length by omega)]; rfl
  by_cases h3 : 16 < (s.subs.length : Int)
  · rw [decide_eq_false h1, decide_eq_false h2, decide_eq_true h3, decide_eq_false (show ¬ s.subs.length ≤ 16 by omega), decide_eq_true (show s.names.length ≤ 8 by omega), decide_eq_true (show 1 ≤ s.names.length by omega)]; rfl
  rw [decide_eq_false h1, decide_eq_false h2, decide_eq_false h3, decide_eq_true (show s.subs.length ≤ 16 by omega), decide_eq_true (show s.names.length ≤ 8 by omega), decide_eq_true (show 1 ≤ s.names.length by omega)]
  simp only [cond_false, Bool.true_and]
  rw [ss_names 1000 s.names (by omega) s.subs _ _ 1000 0 (by omega) (by omega) (by omega), ss_subs 1000 s.names (by omega) s.subs (by omega) _ _ 1000 0 (by omega) (by omega) (by omega)]
  simp only [Int.toNat_zero, List.take_zero, List.drop_zero]
  cases namesF [] s.names with
  | false => rfl
  | true =>
    cases h4 : s.subs.all (subF s.names.length) with
    | false => rfl
    | true =>
      have hp : preS s = true := by
        unfold preS
        rw [decide_eq_true (show s.names.length ≤ 8 by omega), decide_eq_true (show s.subs.length ≤ 16 by omega), subs_in h4]; rfl
      have e : gUpS (So.mk s.names s.subs) = some (upI s.names.length s.subs) := if_pos hp
      simp only [cond_true, e, Option.bind_some, Bool.true_and]
      rw [ss_out _ (by rw [upI_len]; omega) _ _ 1000 0 (by omega) (by omega) (by rw [upI_len]; omega), antiF_if]
      cases antiF (upI s.names.length s.subs) <;> rfl⟩
end Go.Proofs.Ytjafncnjefnloaa.Den

/-
  Valid sorts: the program.
-/
namespace Go.Proofs.Ytjafncnjefnloaa.Den
open Go.RowKit
open Classical

abbrev GSortsI : i_IsSorts.Gs := { i_IsName := gName, i_sortsAbove := gUpS }
def SeenIs (kvs : List (ByteArray × Bool)) (seen : List ByteArray) : Prop := ∀ y, mval kvs y false = seen.any fun z => sEq z y
theorem seen_nil : SeenIs [] [] := fun y => rfl
theorem seen_add {kvs : List (ByteArray × Bool)} {seen : List ByteArray} (h : SeenIs kvs seen) (x : ByteArray) : SeenIs ((x, true) :: kvs) (seen ++ [x]) := fun y => by
  unfold mval mget
  rw [List.any_append]
  by_cases e : x = y
  · rw [if_pos e]
    simp [sEq, e]
  · rw [if_neg e]
    have := h y
    unfold mval at this
    rw [this]
    simp [sEq, e]
section
variable {R : Type}
theorem is_names (n : Nat) (n1 : Int) (names : List ByteArray) (hN : names.length ≤ 8) (h0 : List ByteArray) (h02 : List Sb) (k0 : Bool → Option R) (k1 : Int → List ByteArray → List Sb → Option R) : ∀ m (i : Int) (kvs : List (ByteArray × Bool)), 0 ≤ i → i ≤ names.length → SeenIs kvs (names.take i.toNat) → (names.length - i).toNat < m →
    i_IsSorts.l6 GSortsI n m n1 names (names.length : Int) i h0 h02 kvs k0 k1 = bif namesF (names.take i.toNat) (names.drop i.toNat) then k1 n1 h0 h02 else k0 false := by
  intro m
  induction m with
  | zero => intro i _ _ _ _ hm; omega
  | succ m ih =>
    intro i kvs q0 q1 qs hm
    show i_IsSorts.b6 GSortsI n n1 names (names.length : Int) i h0 h02 kvs (fun y0 y1 y2 y3 y4 y5 y6 => i_IsSorts.l6 GSortsI n m y0 y1 y2 y3 y4 y5 y6 k0 k1) k0 k1 = _
    unfold i_IsSorts.b6
    by_cases hi : i < (names.length : Int)
    · obtain ⟨x, x1, x2, x3, x4⟩ := drop_step q0 hi
      have e : (i + 1).toNat = i.toNat + 1 := by omega
      have ht : names.take (i + 1).toNat = names.take i.toNat ++ [x] := by
        obtain ⟨hlt, hx⟩ := List.getElem?_eq_some_iff.1 x4
        rw [e, List.take_succ_eq_append_getElem hlt, hx]
      rw [decide_eq_true hi, cond_true]
      simp only [x1, Option.bind_some, wr_in (x := i + 1) (by omega)]
      rw [x3, namesF, ih (i + 1) _ (by omega) (by omega) (by rw [ht]; exact seen_add qs x) (by omega), ht, qs x]
      cases nameF x <;> cases ((names.take i.toNat).any fun y => sEq y x) <;> rfl
    · rw [decide_eq_false hi, cond_false, drop_all hi]; rfl
theorem is_subs (n : Nat) (N : Nat) (subs : List Sb) (hs : subs.length ≤ 16) (h0 : List ByteArray) (h02 : List Sb) (k0 : Bool → Option R) (k1 : List ByteArray → List Sb → Option R) : ∀ m (i : Int), 0 ≤ i → i ≤ subs.length → (subs.length - i).toNat < m →
    i_IsSorts.l13 GSortsI n m (N : Int) subs (subs.length : Int) i h0 h02 k0 k1 = bif (subs.drop i.toNat).all (subF N) then k1 h0 h02 else k0 false := by
  intro m
  induction m with
  | zero => intro i _ _ hm; omega
  | succ m ih =>
    intro i q0 q1 hm
    show i_IsSorts.b13 GSortsI n (N : Int) subs (subs.length : Int) i h0 h02 (fun y0 y1 y2 y3 y4 y5 => i_IsSorts.l13 GSortsI n m y0 y1 y2 y3 y4 y5 k0 k1) k0 k1 = _
    unfold i_IsSorts.b13
    by_cases hi : i < (subs.length : Int)
    · obtain ⟨p, x1, x2, x3, x4⟩ := drop_step q0 hi
      rw [decide_eq_true hi, cond_true]
      simp only [x1, Option.bind_some, wr_in (x := i + 1) (by omega)]
      rw [x3, List.all_cons, ih (i + 1) (by omega) (by omega) (by omega)]
      have e1 : decide (p.low < 0) = !decide (0 ≤ p.low) := by rw [← decide_not]; exact decide_eq_decide.2 (by omega)
      have e2 : decide ((N : Int) ≤ p.low) = !decide (p.low < N) := by rw [← decide_not]; exact decide_eq_decide.2 (by omega)
      have e3 : decide (p.high < 0) = !decide (0 ≤ p.high) := by rw [← decide_not]; exact decide_eq_decide.2 (by omega)
      have e4 : decide ((N : Int) ≤ p.high) = !decide (p.high < N) := by rw [← decide_not]; exact decide_eq_decide.2 (by omega)
      rw [e1, e2, e3, e4]
      unfold subF inSub
      cases decide (0 ≤ p.low) <;> cases decide (p.low < (N : Int)) <;> cases decide (0 ≤ p.high) <;> cases decide (p.high < (N : Int)) <;> cases decide (p.low = p.high) <;> rfl
    · rw [decide_eq_false hi, cond_false, drop_all hi]; rfl
theorem is_in (n : Nat) (l : List Int) (hl : l.length ≤ 8) (hsm : ∀ x ∈ l, Small x) (i : Int) (i0 : 0 ≤ i) (i1 : i < l.length) (a b : Int) (k0 : Bool → Option R) (k1 : List Int → Int → Int → Option R) : ∀ m (k : Int), 0 ≤ k → k ≤ l.length → (l.length - k).toNat < m →
    i_IsSorts.l23 GSortsI n m l i a b (l.length : Int) k k0 k1 = if ∃ j, k ≤ j ∧ j < (l.length : Int) ∧ i ≠ j ∧ bad l i j then k0 false else k1 l a b := by
  intro m
  induction m with
  | zero => intro k _ _ hm; omega
  | succ m ih =>
    intro k q0 q1 hm
    show i_IsSorts.b23 GSortsI n l i a b (l.length : Int) k (fun y0 y1 y2 y3 y4 y5 => i_IsSorts.l23 GSortsI n m y0 y1 y2 y3 y4 y5 k0 k1) k0 k1 = _
    unfold i_IsSorts.b23
    by_cases hi : k < (l.length : Int)
    · have a1 : (0 : Int) ≤ k + 1 := by omega
      have a2 : k + 1 ≤ (l.length : Int) := by omega
      have a3 : ((l.length : Int) - (k + 1)).toNat < m := by omega
      have hex : (∃ j, k ≤ j ∧ j < (l.length : Int) ∧ i ≠ j ∧ bad l i j) ↔ (i ≠ k ∧ bad l i k) ∨ ∃ j, k + 1 ≤ j ∧ j < (l.length : Int) ∧ i ≠ j ∧ bad l i j := by
        constructor
        · rintro ⟨j, h1, h2, h3⟩
          by_cases e : j = k
          · subst e; exact .inl h3
          · exact .inr ⟨j, by omega, h2, h3⟩
        · rintro (h | ⟨j, h1, h2, h3⟩)
          · exact ⟨k, by omega, hi, h⟩
          · exact ⟨j, by omega, h2, h3⟩
      rw [decide_eq_true hi, cond_true]
      simp only [getI_ix i0 i1, getI_ix (l := l) q0 (by omega), Option.bind_some, decide_eq_true q0, decide_eq_true i0, cond_true, has_and (hsm _ (getI_mem i0 i1)) q0 (by omega), has_and (hsm _ (getI_mem q0 hi)) i0 (by omega), wr_in (x := k + 1) (by omega)]
      rw [ih (k + 1) a1 a2 a3]
      by_cases hb : i ≠ k ∧ bad l i k
      · rw [if_pos (hex.2 (.inl hb)), hb.2.1, hb.2.2, decide_eq_false hb.1]; rfl
      · have : (∃ j, k ≤ j ∧ j < (l.length : Int) ∧ i ≠ j ∧ bad l i j) ↔ ∃ j, k + 1 ≤ j ∧ j < (l.length : Int) ∧ i ≠ j ∧ bad l i j := hex.trans ⟨fun h => h.resolve_left hb, .inr⟩
        rw [ite_iff this]
        by_cases hik : i = k
        · rw [decide_eq_true hik]; rfl
        · rw [decide_eq_false hik]
          unfold bad at hb
          cases h1 : hasB (getI l i) k with
          | false => rfl
          | true =>
            cases h2 : hasB (getI l k) i with
            | false => rfl
            | true => exact absurd ⟨hik, h1, h2⟩ hb
    · rw [decide_eq_false hi, cond_false, if_neg (by rintro ⟨j, h1, h2, _⟩; omega)]
theorem is_out (l : List Int) (hl : l.length ≤ 8) (hsm : ∀ x ∈ l, Small x) (k0 : Bool → Option R) (k1 : Option R) : ∀ m (i : Int), 0 ≤ i → i ≤ l.length → (l.length - i).toNat < m →
    i_IsSorts.l20 GSortsI 1000 m l (l.length : Int) i k0 k1 = if ∃ j k, i ≤ j ∧ j < (l.length : Int) ∧ 0 ≤ k ∧ k < (l.length : Int) ∧ j ≠ k ∧ bad l j k then k0 false else k1 := by
  intro m
  induction m with
  | zero => intro k _ _ hm; omega
  | succ m ih =>
    intro i q0 q1 hm
    show i_IsSorts.b20 GSortsI 1000 l (l.length : Int) i (fun y0 y1 y2 => i_IsSorts.l20 GSortsI 1000 m y0 y1 y2 k0 k1) k0 k1 = _
    unfold i_IsSorts.b20
    by_cases hi : i < (l.length : Int)
    · rw [decide_eq_true hi, cond_true, is_in 1000 l hl hsm i q0 hi _ _ _ _ 1000 0 (by omega) (by omega) (by omega), wr_in (x := i + 1) (by omega)]
      dsimp only
      rw [ih (i + 1) (by omega) (by omega) (by omega)]
      have hex : (∃ j k, i ≤ j ∧ j < (l.length : Int) ∧ 0 ≤ k ∧ k < (l.length : Int) ∧ j ≠ k ∧ bad l j k) ↔ (∃ k, 0 ≤ k ∧ k < (l.length : Int) ∧ i ≠ k ∧ bad l i k) ∨ ∃ j k, i + 1 ≤ j ∧ j < (l.length : Int) ∧ 0 ≤ k ∧ k < (l.length : Int) ∧ j ≠ k ∧ bad l j k := by
        constructor
        · rintro ⟨j, k, h1, h2, h3, h4, h5⟩
          by_cases e : j = i
          · subst e; exact .inl ⟨k, h3, h4, h5⟩
          · exact .inr ⟨j, k, by omega, h2, h3, h4, h5⟩
        · rintro (⟨k, h3, h4, h5⟩ | ⟨j, k, h1, h2, h3, h4, h5⟩)
          · exact ⟨i, k, by omega, hi, h3, h4, h5⟩
          · exact ⟨j, k, by omega, h2, h3, h4, h5⟩
      by_cases hb : ∃ k, 0 ≤ k ∧ k < (l.length : Int) ∧ i ≠ k ∧ bad l i k
      · rw [if_pos hb, if_pos (hex.2 (.inl hb))]
      · rw [if_neg hb, ite_iff (hex.trans ⟨fun h => h.resolve_left hb, .inr⟩)]
    · rw [decide_eq_false hi, cond_false, if_neg (by rintro ⟨j, k, h1, h2, _⟩; omega)]
end
theorem antiF_if2 {l : List Int} {R : Type} {a b : R} : (if ∃ j k, 0 ≤ j ∧ j < (l.length : Int) ∧ 0 ≤ k ∧ k < (l.length : Int) ∧ j ≠ k ∧ bad l j k then a else b) = bif antiF l then b else a := by
  rw [← antiF_if]
  refine ite_iff ⟨fun ⟨j, k, h1, h2, h3, h4, h5, h6⟩ => ?_, fun ⟨j, k, h1, h2, h3, h4, h5⟩ => ⟨j, k, h1, h2, h3, by omega, by omega, h5⟩⟩
  rcases Int.lt_or_gt_of_ne h5 with h | h
  · exact ⟨k, j, h3, h4, h1, h, h6.2, h6.1⟩
  · exact ⟨j, k, h1, h2, h3, h, h6⟩
theorem i_IsSorts_ok : EntOK Try.prog (i_IsSorts.ent fun s => some (sortsF s)) := i_IsSorts.ok (G := GSortsI) ⟨i_IsName_ok, sortsAbove_ok, trivial⟩ fun s r h => ⟨1000, by
  cases h
  unfold i_IsSorts.main sortsF
  by_cases h1 : (s.names.length : Int) < 1
  · rw [decide_eq_true h1, decide_eq_false (show ¬ 1 ≤ s.names.length by omega)]; rfl
  by_cases h2 : 8 < (s.names.length : Int)
  · rw [decide_eq_false h1, decide_eq_true h2, decide_eq_false (show ¬ s.names.length ≤ 8 by omega), decide_eq_true (show 1 ≤ s.names.length by omega)]; rfl
  by_cases h3 : 16 < (s.subs.length : Int)
  · rw [decide_eq_false h1, decide_eq_false h2, decide_eq_true h3, decide_eq_false (show ¬ s.subs.length ≤ 16 by omega), decide_eq_true (show s.names.length ≤ 8 by omega), decide_eq_true (show 1 ≤ s.names.length by omega)]; rfl
  rw [decide_eq_false h1, decide_eq_false h2, decide_eq_false h3, decide_eq_true (show s.subs.length ≤ 16 by omega), decide_eq_true (show s.names.length ≤ 8 by omega), decide_eq_true (show 1 ≤ s.names.length by omega)]
  simp only [cond_false, Bool.true_and]
  rw [is_names 1000 _ s.names (by omega) s.names s.subs _ _ 1000 0 [] (by omega) (by omega) seen_nil (by omega), is_subs 1000 s.names.length s.subs (by omega) s.names s.subs _ _ 1000 0 (by omega) (by omega) (by omega)]
  simp only [Int.toNat_zero, List.take_zero, List.drop_zero]
  cases namesF [] s.names with
  | false => rfl
  | true =>
    cases h4 : s.subs.all (subF s.names.length) with
    | false => rfl
    | true =>
      have hp : preS s = true := by
        unfold preS
        rw [decide_eq_true (show s.names.length ≤ 8 by omega), decide_eq_true (show s.subs.length ≤ 16 by omega), subs_in h4]; rfl
      have e : gUpS (So.mk s.names s.subs) = some (upI s.names.length s.subs) := if_pos hp
      simp only [cond_true, e, Option.bind_some, Bool.true_and]
      rw [is_out _ (by rw [upI_len]; omega) (upI_small (by omega) (subs_in h4)) _ _ 1000 0 (by omega) (by omega) (by rw [upI_len]; omega), antiF_if2]
      cases antiF (upI s.names.length s.subs) <;> rfl⟩
end Go.Proofs.Ytjafncnjefnloaa.Den

/-
  The order of valid sorts, as the program keeps it.
-/
namespace Go.Proofs.Ytjafncnjefnloaa.Den
open Go.RowKit
open Classical

def isSetF (x : Int) : Bool := decide (0 ≤ x) && decide (x ≤ 65535)
def bitsOf (x : Int) : List Int := if isSetF x then (nats 16).filter fun k => hasB x k else []
theorem isSet_ok : EntOK Try.prog (i_isSet.ent fun x => some (isSetF x)) := i_isSet.ok (G := ⟨()⟩) trivial fun x r h => ⟨1, by
  cases h
  unfold i_isSet.main isSetF
  by_cases h : 0 ≤ x <;> simp [h]⟩
theorem nats_step {n : Nat} {i : Int} (h0 : 0 ≤ i) (h1 : i < n) : (nats n).drop i.toNat = i :: (nats n).drop (i + 1).toNat := by
  obtain ⟨x, x1, _, x3, x4⟩ := drop_step (a := nats n) h0 (by simp [nats]; exact h1)
  have hlt : i.toNat < n := by omega
  have e : ((i.toNat : Nat) : Int) = i := by omega
  have : x = i := by simp [nats, hlt, e] at x4; exact x4.symm
  rw [x3, this]
theorem has_and16 {x k : Int} (hx : isSetF x = true) (h0 : 0 ≤ k) (h1 : k < 63) : (!decide (Abs.bitsI .and .i64 x (bitI k) = 0)) = hasB x k := by
  unfold isSetF at hx
  simp only [Bool.and_eq_true, decide_eq_true_eq] at hx
  obtain ⟨a, rfl⟩ : ∃ a : Nat, x = a := ⟨x.toNat, by omega⟩
  obtain ⟨j, rfl⟩ : ∃ j : Nat, k = j := ⟨k.toNat, by omega⟩
  unfold hasB bitI
  rw [shl1_nat (by omega), bit_and (by omega) (by omega), bit_shr (by omega) (by omega), Bool.not_not]
theorem listOf_loop {R : Type} (n : Nat) (x : Int) (k0 : List Int → Option R) (hx : isSetF x = true) : ∀ m (i : Int) (l : List Int), 0 ≤ i → i ≤ 16 → l.length ≤ i → (16 - i).toNat < m →
    i_ListOf.l3 ⟨fun x => some (isSetF x)⟩ n m x i l k0 = k0 (l ++ ((nats 16).drop i.toNat).filter fun k => hasB x k) := by
  intro m
  induction m with
  | zero => intro i l _ _ _ hm; omega
  | succ m ih =>
    intro i l q0 q1 ql hm
    show i_ListOf.b3 ⟨fun x => some (isSetF x)⟩ n x i l (fun y0 y1 y2 => i_ListOf.l3 ⟨fun x => some (isSetF x)⟩ n m y0 y1 y2 k0) k0 = _
    unfold i_ListOf.b3
    by_cases hi : i < 16
    · rw [decide_eq_true hi, cond_true]
      simp only [Option.bind_some, hx, cond_true, decide_eq_true q0, has_and16 hx q0 (by omega), wr_in (x := i + 1) (by omega)]
      rw [nats_step q0 hi, List.filter_cons]
      cases hasB x i with
      | true =>
        rw [cond_true, lim_eq (by simp; omega), Option.bind_some, ih (i + 1) _ (by omega) (by omega) (by simp; omega) (by omega)]
        simp
      | false =>
        rw [cond_false, ih (i + 1) _ (by omega) (by omega) (by omega) (by omega)]
        simp
    · rw [decide_eq_false hi, cond_false, List.drop_eq_nil_of_le (by simp [nats]; omega)]
      simp
abbrev gList : Int → Option (List Int) := fun x => some (bitsOf x)
theorem listOf_ok : EntOK Try.prog (i_ListOf.ent gList) := i_ListOf.ok (G := ⟨fun x => some (isSetF x)⟩) ⟨isSet_ok, trivial⟩ fun x r h => ⟨1000, by
  cases h
  unfold i_ListOf.main bitsOf
  cases hx : isSetF x with
  | true => rw [listOf_loop 1000 x _ hx 1000 0 [] (by omega) (by omega) (by simp) (by omega)]; rfl
  | false =>
    show i_ListOf.b3 ⟨fun x => some (isSetF x)⟩ 1000 x 0 [] (fun y0 y1 y2 => i_ListOf.l3 ⟨fun x => some (isSetF x)⟩ 1000 999 y0 y1 y2 (fun h0 => some (AT.one (.l .i h0), ([] : List Ob)))) (fun h0 => some (AT.one (.l .i h0), [])) = _
    unfold i_ListOf.b3
    simp [hx]⟩
theorem bitsOf_lt {N : Nat} (hN : N ≤ 8) {x : Int} (hx : SmallN N x) : ∀ k ∈ bitsOf x, 0 ≤ k ∧ k < N := by
  have h8 := pow_le8 hN
  obtain ⟨a, rfl, ha⟩ := hx
  intro k hk
  unfold bitsOf at hk
  split at hk
  · rw [List.mem_filter] at hk
    obtain ⟨j, hj, rfl⟩ := List.mem_map.1 hk.1
    have hj : j < 16 := by simpa using hj
    have hb := hk.2
    unfold hasB at hb
    rw [bit_shr (by omega) (by omega)] at hb
    have := Nat.ge_two_pow_of_testBit hb
    refine ⟨by omega, ?_⟩
    rcases Nat.lt_or_ge j N with h | h
    · omega
    · have := Nat.pow_le_pow_right (n := 2) (by omega) h
      omega
  · cases hk

def belIn (i : Int) (b : List Int) (k : Int) : List Int := b.set k.toNat (orI (getI b k) (bitI i))
def belRow (up : List Int) (b : List Int) (i : Int) : List Int := (bitsOf (getI up i)).foldl (belIn i) b
def belowI (up : List Int) : List Int := (nats up.length).foldl (belRow up) (List.replicate up.length 0)
theorem belIn_len (i : Int) (b : List Int) (k : Int) : (belIn i b k).length = b.length := by simp [belIn]
theorem belRow_len (up : List Int) (b : List Int) (i : Int) : (belRow up b i).length = b.length := fold_len (belIn_len i) _ b
theorem belowI_len (up : List Int) : (belowI up).length = up.length := by
  unfold belowI
  rw [fold_len (belRow_len up)]
  simp
noncomputable def orderF (s : So) : Od × Bool := if sortsF s then (⟨upI s.names.length s.subs, belowI (upI s.names.length s.subs), kindI s.names.length s.subs⟩, true) else (⟨[], [], []⟩, false)
abbrev GOrder (q : So → Option Bool) : i_newOrder.Gs := { i_IsSorts := q, i_sortsAbove := gUpS, i_ListOf := gList }
section
variable {R : Type} {q : So → Option Bool}
theorem no_bits (n N : Nat) (n1 i : Int) (i0 : 0 ≤ i) (t28 : List Int) (t29 t30 : Int) (bits : List Int) (hb : ∀ k ∈ bits, 0 ≤ k ∧ k < N) (hbl : bits.length ≤ 16) (h0 : List ByteArray) (h02 : List Sb) (h2 h3 h4 h5 h7 : List Int) (k0 : Int → Int → List Int → Int → Int → List ByteArray → List Sb → List Int → List Int → List Int → List Int → List Int → List Int → Option R) : ∀ m (j : Int) (b : List Int), 0 ≤ j → j ≤ bits.length → b.length = N → (bits.length - j).toNat < m →
    i_newOrder.l9 (GOrder q) n m n1 i t28 t29 t30 bits (bits.length : Int) j h0 h02 h2 h3 h4 h5 b h7 k0 = k0 n1 i t28 t29 t30 h0 h02 h2 h3 h4 h5 ((bits.drop j.toNat).foldl (belIn i) b) h7 := by
  intro m
  induction m with
  | zero => intro j b _ _ _ hm; omega
  | succ m ih =>
    intro j b q0 q1 qb hm
    show i_newOrder.b9 (GOrder q) n n1 i t28 t29 t30 bits (bits.length : Int) j h0 h02 h2 h3 h4 h5 b h7 (fun y0 y1 y2 y3 y4 y5 y6 y7 y8 y9 y10 y11 y12 y13 y14 y15 => i_newOrder.l9 (GOrder q) n m y0 y1 y2 y3 y4 y5 y6 y7 y8 y9 y10 y11 y12 y13 y14 y15 k0) k0 = _
    unfold i_newOrder.b9
    by_cases hj : j < (bits.length : Int)
    · obtain ⟨k, x1, x2, x3, _⟩ := drop_step q0 hj
      obtain ⟨k1, k2⟩ := hb k x2
      rw [decide_eq_true hj, cond_true]
      simp only [x1, Option.bind_some, getI_ix (l := b) k1 (by omega), decide_eq_true i0, cond_true, wr_in (x := j + 1) (by omega)]
      refine Eq.trans (ih (j + 1) _ (by omega) (by omega) (by simp [qb]) (by omega)) ?_
      rw [x3]; rfl
    · rw [decide_eq_false hj, cond_false, drop_all hj]; rfl
theorem no_rows (N : Nat) (hN : N ≤ 8) (n1 : Int) (up : List Int) (hu : up.length = N) (hs : ∀ x ∈ up, SmallN N x) (h0 : List ByteArray) (h02 : List Sb) (h2 h3 h4 : List Int) (k0 : Int → List ByteArray → List Sb → List Int → List Int → List Int → List Int → List Int → List Int → Option R) : ∀ m (i : Int) (b kd : List Int), 0 ≤ i → i ≤ N → b.length = N → kd.length = N → kd.take i.toNat = (nats N).take i.toNat → (N - i).toNat < m →
    i_newOrder.l6 (GOrder q) 1000 m n1 up (N : Int) i h0 h02 h2 h3 h4 up b kd k0 = k0 n1 h0 h02 h2 h3 h4 up (((nats N).drop i.toNat).foldl (belRow up) b) (nats N) := by
  intro m
  induction m with
  | zero => intro i b kd _ _ _ _ _ hm; omega
  | succ m ih =>
    intro i b kd q0 q1 qb qk qt hm
    show i_newOrder.b6 (GOrder q) 1000 n1 up (N : Int) i h0 h02 h2 h3 h4 up b kd (fun y0 y1 y2 y3 y4 y5 y6 y7 y8 y9 y10 y11 => i_newOrder.l6 (GOrder q) 1000 m y0 y1 y2 y3 y4 y5 y6 y7 y8 y9 y10 y11 k0) k0 = _
    unfold i_newOrder.b6
    have hnl : (nats N).length = N := by simp [nats]
    by_cases hi : i < (N : Int)
    · rw [decide_eq_true hi, cond_true, getI_ix (l := up) q0 (by omega), Option.bind_some, Option.bind_some]
      have hbl : (bitsOf (getI up i)).length ≤ 16 := by
        unfold bitsOf
        split
        · refine Nat.le_trans (List.length_filter_le _ _) ?_
          simp [nats]
        · simp
      rw [no_bits (q := q) 1000 N n1 i q0 up (N : Int) i (bitsOf (getI up i)) (bitsOf_lt hN (hs _ (getI_mem q0 (by omega)))) hbl _ _ _ _ _ _ _ _ 1000 0 b (by omega) (by omega) qb (by omega)]
      dsimp only
      rw [getI_ix (l := kd) q0 (by omega), Option.bind_some, wr_in (x := i + 1) (by omega)]
      have hx : (nats N)[i.toNat]? = some i := by
        have hlt : i.toNat < N := by omega
        have e : ((i.toNat : Nat) : Int) = i := by omega
        simp [nats, hlt, e]
      obtain ⟨s1, s2⟩ := set_take (a := nats N) (h := kd) q0 (by omega) (by omega) qt hx
      rw [ih (i + 1) _ _ (by omega) (by omega) (by rw [Int.toNat_zero, List.drop_zero]; exact (belRow_len up b i).trans qb) (by simp [qk]) s2 (by omega)]
      rw [nats_step q0 hi, List.foldl_cons]; rfl
    · rw [decide_eq_false hi, cond_false, List.drop_eq_nil_of_le (by omega), full_take (a := nats N) (h := kd) (i := i) (by omega) (by omega) qt]; rfl
theorem no_subs (n N : Nat) (a b : Int) (subs : List Sb) (hs : subs.length ≤ 16) (h : subsIn N subs = true) (h0 : List ByteArray) (h02 : List Sb) (h2 h3 h4 h5 h6 : List Int) (k0 : Int → Int → List ByteArray → List Sb → List Int → List Int → List Int → List Int → List Int → List Int → Option R) : ∀ m (i : Int) (l : List Int), 0 ≤ i → i ≤ subs.length → l.length = N → (subs.length - i).toNat < m →
    i_newOrder.l18 (GOrder q) n m a b subs (subs.length : Int) i h0 h02 h2 h3 h4 h5 h6 l k0 = k0 a b h0 h02 h2 h3 h4 h5 h6 (kindRound (subs.drop i.toNat) l) := by
  intro m
  induction m with
  | zero => intro i l _ _ _ hm; omega
  | succ m ih =>
    intro i l q0 q1 ql hm
    show i_newOrder.b18 (GOrder q) n a b subs (subs.length : Int) i h0 h02 h2 h3 h4 h5 h6 l (fun y0 y1 y2 y3 y4 y5 y6 y7 y8 y9 y10 y11 y12 => i_newOrder.l18 (GOrder q) n m y0 y1 y2 y3 y4 y5 y6 y7 y8 y9 y10 y11 y12 k0) k0 = _
    unfold i_newOrder.b18
    by_cases hi : i < (subs.length : Int)
    · obtain ⟨p, x1, x2, x3, _⟩ := drop_step q0 hi
      obtain ⟨p0, p1, p2, p3⟩ := inSub_iff (List.all_eq_true.1 h p x2)
      rw [decide_eq_true hi, cond_true]
      obtain ⟨y, hy⟩ := ix_len (a := l.set p.low.toNat (imin (getI l p.low) (getI l p.high))) p2 (by simp; omega)
      simp only [x1, Option.bind_some, getI_ix (l := l) p0 (by omega), getI_ix (l := l) p2 (by omega), wr_in (x := i + 1) (by omega), hy]
      refine Eq.trans (ih (i + 1) _ (by omega) (by omega) (by simp [ql]) (by omega)) ?_
      rw [x3]; rfl
    · rw [decide_eq_false hi, cond_false, drop_all hi]; rfl
theorem no_rounds (N : Nat) (hN8 : N ≤ 8) (subs : List Sb) (hs : subs.length ≤ 16) (h : subsIn N subs = true) (h0 : List ByteArray) (h2 h3 h4 h5 h6 : List Int) (k0 : List Int → List Int → List Int → List Int → List Int → List Int → Option R) : ∀ m (i : Int) (l : List Int), 0 ≤ i → i ≤ N → l.length = N → (N - i).toNat < m →
    i_newOrder.l16 (GOrder q) 1000 m (N : Int) i h0 subs h2 h3 h4 h5 h6 l k0 = k0 h2 h3 h4 h5 h6 (itn (kindRound subs) (N - i).toNat l) := by
  intro m
  induction m with
  | zero => intro i l _ _ _ hm; omega
  | succ m ih =>
    intro i l q0 q1 ql hm
    show i_newOrder.b16 (GOrder q) 1000 (N : Int) i h0 subs h2 h3 h4 h5 h6 l (fun y0 y1 y2 y3 y4 y5 y6 y7 y8 y9 => i_newOrder.l16 (GOrder q) 1000 m y0 y1 y2 y3 y4 y5 y6 y7 y8 y9 k0) k0 = _
    unfold i_newOrder.b16
    by_cases hi : i < (N : Int)
    · rw [decide_eq_true hi, cond_true, no_subs (q := q) 1000 N _ _ subs hs h _ _ _ _ _ _ _ _ 1000 0 l (by omega) (by omega) ql (by omega), wr_in (x := i + 1) (by omega)]
      refine Eq.trans (ih (i + 1) _ (by omega) (by omega) (by rw [Int.toNat_zero, List.drop_zero]; exact (fold_len kindStep_len subs l).trans ql) (by omega)) ?_
      rw [show (N - i).toNat = (N - (i + 1)).toNat + 1 by omega]; rfl
    · rw [decide_eq_false hi, cond_false, show (N - i).toNat = 0 by omega]; rfl
end
theorem sortsF_parts {s : So} (h : sortsF s = true) : 1 ≤ s.names.length ∧ s.names.length ≤ 8 ∧ s.subs.length ≤ 16 ∧ subsIn s.names.length s.subs = true ∧ preS s = true := by
  unfold sortsF at h
  simp only [Bool.and_eq_true, decide_eq_true_eq] at h
  obtain ⟨h1, h2, h3, _, h4, _⟩ := h
  refine ⟨h1, h2, h3, subs_in h4, ?_⟩
  unfold preS
  rw [decide_eq_true h2, decide_eq_true h3, subs_in h4]; rfl
theorem newOrder_ok : EntOK Try.prog (i_newOrder.ent fun s => some (orderF s)) := i_newOrder.ok (G := GOrder fun s => some (sortsF s)) ⟨i_IsSorts_ok, sortsAbove_ok, listOf_ok, trivial⟩ fun s r h => ⟨1000, by
  cases h
  unfold i_newOrder.main orderF
  cases hs : sortsF s with
  | false => simp only [Option.bind_some, hs]; rfl
  | true =>
    obtain ⟨h1, h2, h3, h4, h5⟩ := sortsF_parts hs
    have e : gUpS (So.mk s.names s.subs) = some (upI s.names.length s.subs) := if_pos h5
    simp only [Option.bind_some, hs, Bool.not_true, cond_false, i_newOrder.d4, mk_nat (show s.names.length ≤ 4294967296 by omega), e]
    rw [upI_len, no_rows s.names.length h2 _ _ (upI_len _ _) (upI_smallN h2 h4) _ _ _ _ _ _ 1000 0 _ _ (by omega) (by omega) (by simp) (by simp) (by simp) (by omega)]
    rw [no_rounds s.names.length h2 s.subs h3 h4 _ _ _ _ _ _ _ 1000 0 _ (by omega) (by omega) (by simp [nats]) (by omega)]
    unfold belowI
    rw [upI_len]
    rfl⟩
end Go.Proofs.Ytjafncnjefnloaa.Den

/-
  Valid signatures: the reference.
-/
namespace Go.Proofs.Ytjafncnjefnloaa.Den
open Go.RowKit
open Classical

def inN (N : Nat) (x : Int) : Bool := decide (0 ≤ x) && decide (x < N)
theorem inN_iff {N : Nat} {x : Int} : inN N x = true ↔ 0 ≤ x ∧ x < N := by unfold inN; simp
def argsF (N : Nat) (kinds : List Int) : List Int → List Int → Bool
  | [], _ => true
  | a :: l, b :: m => inN N a && (decide (getI kinds a = getI kinds b) && argsF N kinds l m)
  | _ :: _, [] => false
def declF (N : Nat) (kinds : List Int) (first d : Dc) : Bool := decide (d.args.length = first.args.length) && (inN N d.result && (argsF N kinds d.args first.args && decide (getI kinds d.result = getI kinds first.result)))
def first (o : Opr) : Dc := o.decls.headD ⟨[], 0⟩
def declsF (N : Nat) (kinds : List Int) (o : Opr) : Bool := decide (1 ≤ o.decls.length) && (decide (o.decls.length ≤ 4) && (decide ((first o).args.length ≤ 3) && o.decls.all (declF N kinds (first o))))
def axF (kinds : List Int) (ops : List Opr) (o : Opr) : Bool :=
  bif !o.assoc && (!o.comm && decide (o.unit = 0)) then true
  else decide ((first o).args.length = 2) && (decide (0 ≤ o.unit) && (decide (o.unit ≤ ops.length) && (decide (getI kinds (getI (first o).args 0) = getI kinds (getI (first o).args 1)) &&
    ((bif o.assoc || decide (0 < o.unit) then decide (getI kinds (getI (first o).args 0) = getI kinds (first o).result) else true) &&
    (bif decide (o.unit = 0) then true else match ix ops (o.unit - 1) with
      | some u => decide ((first u).args.length = 0) && decide (getI kinds (first u).result = getI kinds (first o).result)
      | none => false)))))
def opsF (N : Nat) (kinds : List Int) : List ByteArray → List Opr → Bool
  | _, [] => true
  | seen, o :: rest => nameF o.name && (declsF N kinds o && (!(seen.any fun y => sEq y o.name) && opsF N kinds (seen ++ [o.name]) rest))
noncomputable def sigF (s : Sg) : Bool := sortsF s.sorts && (decide (s.ops.length ≤ 14) && (opsF s.sorts.names.length (kindI s.sorts.names.length s.sorts.subs) [] s.ops && s.ops.all (axF (kindI s.sorts.names.length s.sorts.subs) s.ops)))

theorem first_ix {o : Opr} (h : 1 ≤ o.decls.length) : ix o.decls 0 = some (first o) := by
  unfold first
  cases hd : o.decls with
  | nil => rw [hd] at h; simp at h
  | cons d l => rfl
theorem argsF_in {N : Nat} {kinds : List Int} : ∀ {l m : List Int}, argsF N kinds l m = true → ∀ x ∈ l, inN N x = true
  | [], _, _, x, hx => by simp at hx
  | a :: l, b :: m, h, x, hx => by
    simp only [argsF, Bool.and_eq_true] at h
    rcases List.mem_cons.1 hx with rfl | hx
    · exact h.1
    · exact argsF_in h.2.2 x hx
  | _ :: _, [], h, _, _ => by simp [argsF] at h
theorem declsF_parts {N : Nat} {kinds : List Int} {o : Opr} (h : declsF N kinds o = true) : 1 ≤ o.decls.length ∧ o.decls.length ≤ 4 ∧ (first o).args.length ≤ 3 ∧ (∀ d ∈ o.decls, declF N kinds (first o) d = true) ∧ inN N (first o).result = true ∧ ∀ x ∈ (first o).args, inN N x = true := by
  unfold declsF at h
  simp only [Bool.and_eq_true, decide_eq_true_eq] at h
  obtain ⟨h1, h2, h3, h4⟩ := h
  rw [List.all_eq_true] at h4
  have hm : first o ∈ o.decls := by
    unfold first
    cases hd : o.decls with
    | nil => rw [hd] at h1; simp at h1
    | cons d l => simp
  have hf := h4 _ hm
  unfold declF at hf
  simp only [Bool.and_eq_true] at hf
  exact ⟨h1, h2, h3, h4, hf.2.1, argsF_in hf.2.2.1⟩
theorem l4Arity_ok : EntOK Try.prog (s_l4Arity.ent fun o => if 1 ≤ o.decls.length then some ((first o).args.length : Int) else none) := s_l4Arity.ok (G := ⟨()⟩) trivial fun o r h => by
  split at h
  · rename_i h1
    cases h
    exact ⟨1, by unfold s_l4Arity.main; rw [first_ix h1]; rfl⟩
  · cases h
abbrev gKinds : So → Option (List Int) := fun s => if preS s then some (kindI s.names.length s.subs) else none
abbrev gAr : Opr → Option Int := fun o => if 1 ≤ o.decls.length then some ((first o).args.length : Int) else none
abbrev GDecls : s_l4Decls.Gs := { s_l3Kinds := gKinds, s_l1In := gIn }
section
variable {R : Type}
theorem in_dec {N : Nat} {x : Int} (hN : N ≤ 8) : (decide (0 ≤ x) && decide (x ≤ wr ((N : Int) - 1))) = inN N x := by
  unfold inN
  rw [wr_in (x := (N : Int) - 1) (by omega)]
  congr 1
  exact decide_eq_decide.2 (by omega)
theorem sd_args (n N : Nat) (hN : N ≤ 8) (kinds : List Int) (hk : kinds.length = N) (i : Int) (nm : ByteArray) (ds : List Dc) (as_ cm : Bool) (un : Int) (fa : List Int) (fr : Int) (da : List Int) (dr : Int) (hl : da.length = fa.length) (h3 : fa.length ≤ 3) (hfa : da = fa ∨ ∀ x ∈ fa, inN N x = true) (k0 : Bool → Option R)
    (k1 : List Int → Int → ByteArray → List Dc → Bool → Bool → Int → List Int → Int → List Int → Int → Option R) : ∀ m (k : Int), 0 ≤ k → k ≤ da.length → (da.length - k).toNat < m →
    s_l4Decls.l12 GDecls n m kinds i k nm ds as_ cm un fa fr da dr k0 k1 = bif argsF N kinds (da.drop k.toNat) (fa.drop k.toNat) then k1 kinds i nm ds as_ cm un fa fr da dr else k0 false := by
  intro m
  induction m with
  | zero => intro k _ _ hm; omega
  | succ m ih =>
    intro k q0 q1 hm
    show s_l4Decls.b12 GDecls n kinds i k nm ds as_ cm un fa fr da dr (fun y0 y1 y2 y3 y4 y5 y6 y7 y8 y9 y10 y11 => s_l4Decls.l12 GDecls n m y0 y1 y2 y3 y4 y5 y6 y7 y8 y9 y10 y11 k0 k1) k0 k1 = _
    unfold s_l4Decls.b12
    by_cases hi : k < (da.length : Int)
    · obtain ⟨a, a1, a2, a3, a4⟩ := drop_step (a := da) q0 hi
      obtain ⟨b, b1, b2, b3, b4⟩ := drop_step (a := fa) q0 (by omega)
      rw [decide_eq_true hi, cond_true, hk]
      simp only [a1, b1, Option.bind_some, in_dec hN, wr_in (x := k + 1) (by omega)]
      rw [a3, b3, argsF]
      cases ha : inN N a with
      | false => rfl
      | true =>
        have hb : inN N b = true := by
          rcases hfa with e | h
          · rw [e] at a1; rw [a1] at b1; cases b1; exact ha
          · exact h b b2
        have ha' := inN_iff.1 ha
        have hb' := inN_iff.1 hb
        rw [getI_ix ha'.1 (by omega), getI_ix hb'.1 (by omega), Option.bind_some, Option.bind_some, ih (k + 1) (by omega) (by omega) (by omega)]
        cases decide (getI kinds a = getI kinds b) <;> rfl
    · rw [decide_eq_false hi, cond_false, drop_all hi]; rfl
theorem sd_loop (N : Nat) (hN : N ≤ 8) (kinds : List Int) (hk : kinds.length = N) (o : Opr) (h4 : o.decls.length ≤ 4) (h3 : (first o).args.length ≤ 3) (h1 : 1 ≤ o.decls.length) (k0 : Bool → Option R) (k1 : Option R) : ∀ m (i : Int), 0 ≤ i → i ≤ o.decls.length → (0 < i → inN N (first o).result = true ∧ ∀ x ∈ (first o).args, inN N x = true) → (o.decls.length - i).toNat < m →
    s_l4Decls.l6 GDecls 1000 m kinds i o.name o.decls o.assoc o.comm o.unit (first o).args (first o).result k0 k1 = bif (o.decls.drop i.toNat).all (declF N kinds (first o)) then k1 else k0 false := by
  intro m
  induction m with
  | zero => intro i _ _ _ hm; omega
  | succ m ih =>
    intro i q0 q1 qf hm
    show s_l4Decls.b6 GDecls 1000 kinds i o.name o.decls o.assoc o.comm o.unit (first o).args (first o).result (fun y0 y1 y2 y3 y4 y5 y6 y7 y8 => s_l4Decls.l6 GDecls 1000 m y0 y1 y2 y3 y4 y5 y6 y7 y8 k0 k1) k0 k1 = _
    unfold s_l4Decls.b6
    by_cases hi : i < (o.decls.length : Int)
    · obtain ⟨d, d1, d2, d3, d4⟩ := drop_step q0 hi
      have hd0 : i = 0 → d = first o := fun e => by
        subst e
        rw [first_ix h1] at d1
        cases d1; rfl
      rw [decide_eq_true hi, cond_true, d1, Option.bind_some, d3, List.all_cons]
      by_cases hl : d.args.length = (first o).args.length
      · have hl' : (d.args.length : Int) = ((first o).args.length : Int) := by omega
        rw [decide_eq_true hl', Bool.not_true, cond_false]
        unfold declF
        rw [decide_eq_true hl, Bool.true_and]
        simp only [hk, Option.bind_some, in_dec hN]
        cases hr : inN N d.result with
        | false => rfl
        | true =>
          have hr' := inN_iff.1 hr
          rw [Bool.not_true, cond_false]
          rw [sd_args 1000 N hN kinds hk i _ _ _ _ _ _ _ d.args d.result hl h3 (by
            rcases Int.lt_or_eq_of_le q0 with h | h
            · exact .inr (qf h).2
            · left; rw [hd0 h.symm]) _ _ 1000 0 (by omega) (by omega) (by omega)]
          simp only [Int.toNat_zero, List.drop_zero]
          cases ha : argsF N kinds d.args (first o).args with
          | false => rfl
          | true =>
            have hfr : inN N (first o).result = true := by
              rcases Int.lt_or_eq_of_le q0 with h | h
              · exact (qf h).1
              · rw [← hd0 h.symm]; exact hr
            have hfr' := inN_iff.1 hfr
            have hfa : ∀ x ∈ (first o).args, inN N x = true := by
              rcases Int.lt_or_eq_of_le q0 with h | h
              · exact (qf h).2
              · rw [← hd0 h.symm]; rw [hd0 h.symm] at ha ⊢; exact argsF_in ha
            rw [cond_true, getI_ix hr'.1 (by omega), getI_ix hfr'.1 (by omega), Option.bind_some, Option.bind_some, wr_in (x := i + 1) (by omega)]
            rw [ih (i + 1) (by omega) (by omega) (fun _ => ⟨hfr, hfa⟩) (by omega)]
            cases decide (getI kinds d.result = getI kinds (first o).result) <;> rfl
      · have hl' : ¬ (d.args.length : Int) = ((first o).args.length : Int) := by omega
        unfold declF
        rw [decide_eq_false hl', decide_eq_false hl]; rfl
    · rw [decide_eq_false hi, cond_false, drop_all hi]; rfl
end
theorem l4Decls_ok : EntOK Try.prog (s_l4Decls.ent fun s o => if preS s.sorts then some (declsF s.sorts.names.length (kindI s.sorts.names.length s.sorts.subs) o) else none) := s_l4Decls.ok (G := GDecls) ⟨l3Kinds_ok, l1In_ok, trivial⟩ fun s o r h => by
  split at h
  · rename_i hp
    cases h
    obtain ⟨p1, p2, p3⟩ := preS_iff hp
    refine ⟨1000, ?_⟩
    unfold s_l4Decls.main declsF
    by_cases h1 : (o.decls.length : Int) < 1
    · rw [decide_eq_true h1, decide_eq_false (show ¬ 1 ≤ o.decls.length by omega)]; rfl
    by_cases h4 : 4 < (o.decls.length : Int)
    · rw [decide_eq_false h1, decide_eq_true h4, decide_eq_true (show 1 ≤ o.decls.length by omega), decide_eq_false (show ¬ o.decls.length ≤ 4 by omega)]; rfl
    rw [decide_eq_false h1, decide_eq_false h4, decide_eq_true (show 1 ≤ o.decls.length by omega), decide_eq_true (show o.decls.length ≤ 4 by omega), first_ix (by omega)]
    simp only [cond_false, Option.bind_some, Bool.true_and]
    by_cases h3 : 3 < ((first o).args.length : Int)
    · rw [decide_eq_true h3, decide_eq_false (show ¬ (first o).args.length ≤ 3 by omega)]; rfl
    have e : gKinds s.sorts = some (kindI s.sorts.names.length s.sorts.subs) := if_pos hp
    rw [decide_eq_false h3, decide_eq_true (show (first o).args.length ≤ 3 by omega), cond_false, e, Option.bind_some, sd_loop s.sorts.names.length p1 _ (kindI_len _ _) o (by omega) (by omega) (by omega) _ _ 1000 0 (by omega) (by omega) (fun h => absurd h (by omega)) (by omega)]
    simp only [Int.toNat_zero, List.drop_zero, Bool.true_and]
    cases o.decls.all (declF s.sorts.names.length (kindI s.sorts.names.length s.sorts.subs) (first o)) <;> rfl
  · cases h
end Go.Proofs.Ytjafncnjefnloaa.Den

/-
  Valid signatures, constructors: the reference.
-/
namespace Go.Proofs.Ytjafncnjefnloaa.Den
open Go.RowKit
open Classical

def opsIn (N : Nat) (kinds : List Int) (ops : List Opr) : Bool := ops.all (declsF N kinds)
abbrev GAx : s_l4Axioms.Gs := { s_l4Arity := gAr, s_l1In := gIn, s_l3Kinds := gKinds }
section
variable {R : Type}
theorem gAr_eq {o : Opr} (h : 1 ≤ o.decls.length) : gAr o = some ((first o).args.length : Int) := if_pos h
theorem sax_end (n N : Nat) (hN : N ≤ 8) (kinds : List Int) (hk : kinds.length = N) (names : List ByteArray) (subs : List Sb) (ops : List Opr) (hol : ops.length ≤ 14) (ho : opsIn N kinds ops = true) (o : Opr) (hf : inN N (first o).result = true) (h0 : 0 ≤ o.unit) (h1 : o.unit ≤ ops.length) (k0 : Bool → Option R) :
    s_l4Axioms.c11 GAx n kinds (getI kinds (first o).result) names subs ops o.name o.decls o.assoc o.comm o.unit k0 = k0 (bif decide (o.unit = 0) then true else match ix ops (o.unit - 1) with
      | some u => decide ((first u).args.length = 0) && decide (getI kinds (first u).result = getI kinds (first o).result)
      | none => false) := by
  unfold s_l4Axioms.c11
  by_cases hu : o.unit = 0
  · rw [decide_eq_true hu]; rfl
  · rw [decide_eq_false hu, cond_false, cond_false, wr_in (x := o.unit - 1) (by omega)]
    obtain ⟨u, u1, u2, _, _⟩ := drop_step (a := ops) (i := o.unit - 1) (by omega) (by omega)
    obtain ⟨d1, d2, d3, d4, d5, d6⟩ := declsF_parts (List.all_eq_true.1 ho u u2)
    have d5' := inN_iff.1 d5
    rw [u1, Option.bind_some]
    dsimp only
    rw [gAr_eq d1, Option.bind_some]
    by_cases hz : (first u).args.length = 0
    · rw [decide_eq_true hz, decide_eq_true (show ((first u).args.length : Int) = 0 by omega), cond_true, first_ix d1, Option.bind_some, getI_ix d5'.1 (by omega), Option.bind_some, Bool.true_and]
    · rw [decide_eq_false hz, decide_eq_false (show ¬ ((first u).args.length : Int) = 0 by omega)]; rfl
theorem sax_main (n : Nat) (s : So) (hp : preS s = true) (ops : List Opr) (hol : ops.length ≤ 14) (ho : opsIn s.names.length (kindI s.names.length s.subs) ops = true) (o : Opr) (hd : declsF s.names.length (kindI s.names.length s.subs) o = true) (k0 : Bool → Option R) :
    s_l4Axioms.c4 GAx n s.names s.subs ops o.name o.decls o.assoc o.comm o.unit k0 = k0 (decide ((first o).args.length = 2) && (decide (0 ≤ o.unit) && (decide (o.unit ≤ ops.length) && (decide (getI (kindI s.names.length s.subs) (getI (first o).args 0) = getI (kindI s.names.length s.subs) (getI (first o).args 1)) &&
    ((bif o.assoc || decide (0 < o.unit) then decide (getI (kindI s.names.length s.subs) (getI (first o).args 0) = getI (kindI s.names.length s.subs) (first o).result) else true) &&
    (bif decide (o.unit = 0) then true else match ix ops (o.unit - 1) with
      | some u => decide ((first u).args.length = 0) && decide (getI (kindI s.names.length s.subs) (first u).result = getI (kindI s.names.length s.subs) (first o).result)
      | none => false)))))) := by
  obtain ⟨p1, p2, p3⟩ := preS_iff hp
  obtain ⟨d1, d2, d3, d4, d5, d6⟩ := declsF_parts hd
  have hkl := kindI_len s.names.length s.subs
  generalize hkk : kindI s.names.length s.subs = kinds at *
  have d5' := inN_iff.1 d5
  unfold s_l4Axioms.c4
  have e0 : gAr (Opr.mk o.name o.decls o.assoc o.comm o.unit) = some ((first o).args.length : Int) := if_pos d1
  dsimp only
  rw [e0, Option.bind_some]
  by_cases h2 : (first o).args.length = 2
  · rw [decide_eq_true h2, decide_eq_true (show ((first o).args.length : Int) = 2 by omega), Bool.not_true, cond_false, Bool.true_and, Option.bind_some]
    by_cases hu0 : 0 ≤ o.unit
    · by_cases hu1 : o.unit ≤ ops.length
      · rw [decide_eq_true hu0, decide_eq_true hu1]
        have e : gKinds (So.mk s.names s.subs) = some kinds := by rw [← hkk]; exact if_pos hp
        simp only [Bool.and_self, Bool.not_true, cond_false, Bool.true_and, e, Option.bind_some, first_ix d1]
        have a0 : ix (first o).args 0 = some (getI (first o).args 0) := getI_ix (by omega) (by omega)
        have a1 : ix (first o).args 1 = some (getI (first o).args 1) := getI_ix (by omega) (by omega)
        have m0 := inN_iff.1 (d6 _ (getI_mem (l := (first o).args) (i := 0) (by omega) (by omega)))
        have m1 := inN_iff.1 (d6 _ (getI_mem (l := (first o).args) (i := 1) (by omega) (by omega)))
        rw [a0, Option.bind_some, getI_ix (l := kinds) m0.1 (by omega), Option.bind_some, a1, Option.bind_some, getI_ix (l := kinds) m1.1 (by omega), Option.bind_some, getI_ix (l := kinds) d5'.1 (by omega), Option.bind_some]
        rw [sax_end n s.names.length p1 kinds hkl s.names s.subs ops hol ho o d5 hu0 hu1]
        cases o.assoc <;> cases decide (getI kinds (getI (first o).args 0) = getI kinds (getI (first o).args 1)) <;> cases decide (getI kinds (getI (first o).args 0) = getI kinds (first o).result) <;> cases decide (0 < o.unit) <;> rfl
      · rw [decide_eq_true hu0, decide_eq_false hu1]; rfl
    · rw [decide_eq_false hu0]; rfl
  · rw [decide_eq_false h2, decide_eq_false (show ¬ ((first o).args.length : Int) = 2 by omega)]; rfl
end
abbrev gAx : Sg → Int → Option Bool := fun s i => if preS s.sorts && (decide (s.ops.length ≤ 14) && opsIn s.sorts.names.length (kindI s.sorts.names.length s.sorts.subs) s.ops) then (ix s.ops i).map (axF (kindI s.sorts.names.length s.sorts.subs) s.ops) else none
theorem l4Axioms_ok : EntOK Try.prog (s_l4Axioms.ent gAx) := s_l4Axioms.ok (G := GAx) ⟨l4Arity_ok, l1In_ok, l3Kinds_ok, trivial⟩ fun s i r h => by
  unfold gAx at h
  split at h
  · rename_i hp
    simp only [Bool.and_eq_true, decide_eq_true_eq] at hp
    obtain ⟨hp, h14, ho⟩ := hp
    obtain ⟨o, h1, rfl⟩ := Option.map_eq_some_iff.1 h
    have hm : o ∈ s.ops := by
      unfold ix at h1
      cases hi : decide (0 ≤ i) with
      | false => rw [hi] at h1; cases h1
      | true => rw [hi] at h1; exact List.mem_of_getElem? h1
    refine ⟨1000, ?_⟩
    unfold s_l4Axioms.main axF
    rw [h1, Option.bind_some, sax_main 1000 s.sorts hp s.ops h14 ho o (List.all_eq_true.1 ho o hm)]
    cases o.assoc <;> cases o.comm <;> cases decide (o.unit = 0) <;> rfl
  · cases h

abbrev gDecls : Sg → Opr → Option Bool := fun s o => if preS s.sorts then some (declsF s.sorts.names.length (kindI s.sorts.names.length s.sorts.subs) o) else none
/-- The reference's test of signatures calls these. -/
abbrev GSig (q : So → Option Bool) : s_IsSignature.Gs := { s_IsSorts := q, s_IsName := gName, s_l4Decls := gDecls, s_l4Axioms := gAx }
section
variable {R : Type} {q : So → Option Bool}
def nm (ops : List Opr) : List ByteArray := ops.map Opr.name
theorem ssig_same (n : Nat) (i : Int) (names : List ByteArray) (subs : List Sb) (ops : List Opr) (hol : ops.length ≤ 14) (o : Opr) (i0 : 0 ≤ i) (i1 : i < ops.length) (ho : ix ops i = some o) (k0 : Bool → Option R) (k1 : Int → List ByteArray → List Sb → List Opr → Option R) : ∀ m (k : Int), 0 ≤ k → k ≤ i → (i - k).toNat < m →
    s_IsSignature.l9 (GSig q) n m i k names subs ops k0 k1 = bif ((nm (ops.take i.toNat)).drop k.toNat).any (fun y => sEq y o.name) then k0 false else k1 i names subs ops := by
  intro m
  induction m with
  | zero => intro k _ _ hm; omega
  | succ m ih =>
    intro k q0 q1 hm
    show s_IsSignature.b9 (GSig q) n i k names subs ops (fun y0 y1 y2 y3 y4 => s_IsSignature.l9 (GSig q) n m y0 y1 y2 y3 y4 k0 k1) k0 k1 = _
    unfold s_IsSignature.b9
    have hlen : (nm (ops.take i.toNat)).length = i.toNat := by simp [nm]; omega
    by_cases hi : k < i
    · obtain ⟨p, x1, x2, x3, x4⟩ := drop_step (a := ops) q0 (by omega)
      obtain ⟨y, y1, y2, y3, y4⟩ := drop_step (a := nm (ops.take i.toNat)) q0 (by omega)
      have hy : y = p.name := by
        unfold nm at y4
        rw [List.getElem?_map, List.getElem?_take, if_pos (by omega), x4] at y4
        exact (Option.some.inj y4).symm
      rw [decide_eq_true hi, cond_true, x1, Option.bind_some, ho, Option.bind_some, y3, List.any_cons, hy, wr_in (x := k + 1) (by omega)]
      cases sEq p.name o.name with
      | true => rfl
      | false => exact ih (k + 1) (by omega) (by omega) (by omega)
    · rw [decide_eq_false hi, cond_false, List.drop_eq_nil_of_le (by omega)]; rfl
theorem ssig_ops (s : So) (hp : preS s = true) (ops : List Opr) (hol : ops.length ≤ 14) (k0 : Bool → Option R) (k1 : List ByteArray → List Sb → List Opr → Option R) : ∀ m (i : Int), 0 ≤ i → i ≤ ops.length → (ops.length - i).toNat < m →
    s_IsSignature.l4 (GSig q) 1000 m i s.names s.subs ops k0 k1 = bif opsF s.names.length (kindI s.names.length s.subs) (nm (ops.take i.toNat)) (ops.drop i.toNat) then k1 s.names s.subs ops else k0 false := by
  intro m
  induction m with
  | zero => intro i _ _ hm; omega
  | succ m ih =>
    intro i q0 q1 hm
    show s_IsSignature.b4 (GSig q) 1000 i s.names s.subs ops (fun y0 y1 y2 y3 => s_IsSignature.l4 (GSig q) 1000 m y0 y1 y2 y3 k0 k1) k0 k1 = _
    unfold s_IsSignature.b4
    by_cases hi : i < (ops.length : Int)
    · obtain ⟨o, x1, x2, x3, x4⟩ := drop_step q0 hi
      have e : (i + 1).toNat = i.toNat + 1 := by omega
      have ht : nm (ops.take (i + 1).toNat) = nm (ops.take i.toNat) ++ [o.name] := by
        obtain ⟨hlt, hx⟩ := List.getElem?_eq_some_iff.1 x4
        rw [e, List.take_succ_eq_append_getElem hlt, hx]
        simp [nm]
      have eD : gDecls (Sg.mk (So.mk s.names s.subs) ops) o = some (declsF s.names.length (kindI s.names.length s.subs) o) := if_pos hp
      rw [decide_eq_true hi, cond_true]
      simp only [x1, Option.bind_some, eD]
      rw [x3, opsF, ssig_same 1000 i s.names s.subs ops hol o q0 hi x1 _ _ 1000 0 (by omega) (by omega) (by omega), wr_in (x := i + 1) (by omega)]
      rw [ih (i + 1) (by omega) (by omega) (by omega), ht]
      simp only [Int.toNat_zero, List.drop_zero]
      cases nameF o.name <;> cases declsF s.names.length (kindI s.names.length s.subs) o <;> cases ((nm (ops.take i.toNat)).any fun y => sEq y o.name) <;> rfl
    · rw [decide_eq_false hi, cond_false, drop_all hi]; rfl
theorem opsF_in {N : Nat} {kinds : List Int} : ∀ {ops : List Opr} {seen : List ByteArray}, opsF N kinds seen ops = true → opsIn N kinds ops = true
  | [], _, _ => rfl
  | o :: ops, seen, h => by
    simp only [opsF, Bool.and_eq_true] at h
    simp only [opsIn, List.all_cons, Bool.and_eq_true]
    exact ⟨h.2.1, opsF_in h.2.2.2⟩
theorem ssig_ax (s : So) (hp : preS s = true) (ops : List Opr) (hol : ops.length ≤ 14) (ho : opsIn s.names.length (kindI s.names.length s.subs) ops = true) (k0 : Bool → Option R) (k1 : Option R) : ∀ m (i : Int), 0 ≤ i → i ≤ ops.length → (ops.length - i).toNat < m →
    s_IsSignature.l14 (GSig q) 1000 m i s.names s.subs ops k0 k1 = bif (ops.drop i.toNat).all (axF (kindI s.names.length s.subs) ops) then k1 else k0 false := by
  intro m
  induction m with
  | zero => intro i _ _ hm; omega
  | succ m ih =>
    intro i q0 q1 hm
    show s_IsSignature.b14 (GSig q) 1000 i s.names s.subs ops (fun y0 y1 y2 y3 => s_IsSignature.l14 (GSig q) 1000 m y0 y1 y2 y3 k0 k1) k0 k1 = _
    unfold s_IsSignature.b14
    by_cases hi : i < (ops.length : Int)
    · obtain ⟨o, x1, x2, x3, x4⟩ := drop_step q0 hi
      have eA : gAx (Sg.mk (So.mk s.names s.subs) ops) i = some (axF (kindI s.names.length s.subs) ops o) := by
        unfold gAx
        rw [if_pos (by
          rw [Bool.and_eq_true, Bool.and_eq_true]
          exact ⟨hp, decide_eq_true hol, ho⟩)]
        show (ix ops i).map _ = _
        rw [x1]; rfl
      rw [decide_eq_true hi, cond_true]
      dsimp only
      rw [eA, Option.bind_some, x3, List.all_cons, wr_in (x := i + 1) (by omega), ih (i + 1) (by omega) (by omega) (by omega)]
      cases axF (kindI s.names.length s.subs) ops o <;> rfl
    · rw [decide_eq_false hi, cond_false, drop_all hi]; rfl
end
theorem s_IsSignature_ok : EntOK Try.prog (s_IsSignature.ent fun s => some (sigF s)) := s_IsSignature.ok (G := GSig fun s => some (sortsF s)) ⟨s_IsSorts_ok, s_IsName_ok, l4Decls_ok, l4Axioms_ok, trivial⟩ fun s r h => ⟨1000, by
  cases h
  unfold s_IsSignature.main sigF
  rw [Option.bind_some]
  cases hs : sortsF s.sorts with
  | false => rfl
  | true =>
    obtain ⟨_, _, _, _, hp⟩ := sortsF_parts hs
    by_cases h14 : 14 < (s.ops.length : Int)
    · rw [decide_eq_true h14, decide_eq_false (show ¬ s.ops.length ≤ 14 by omega)]; rfl
    · rw [decide_eq_false h14, decide_eq_true (show s.ops.length ≤ 14 by omega), Bool.not_true, cond_false, cond_false]
      rw [ssig_ops s.sorts hp s.ops (by omega) _ _ 1000 0 (by omega) (by omega) (by omega)]
      simp only [Int.toNat_zero, List.take_zero, List.drop_zero, nm, List.map_nil, Bool.true_and]
      cases ho : opsF s.sorts.names.length (kindI s.sorts.names.length s.sorts.subs) [] s.ops with
      | false => rfl
      | true =>
        rw [cond_true, ssig_ax s.sorts hp s.ops (by omega) (opsF_in ho) _ _ 1000 0 (by omega) (by omega) (by omega)]
        simp only [Int.toNat_zero, List.drop_zero, Bool.true_and]
        cases s.ops.all (axF (kindI s.sorts.names.length s.sorts.subs) s.ops) <;> rfl⟩

/-- Constructors. -/
def oneF (o : Opr) : Bool := decide (o.decls.length = 1) && (!o.assoc && (!o.comm && decide (o.unit = 0)))
def ctorsF (ops : List Opr) : Option Int → List Int → Bool
  | _, [] => true
  | prev, c :: rest => inN ops.length c && ((match prev with | some p => decide (p < c) | none => true) && ((match ix ops c with | some o => oneF o | none => false) && ctorsF ops (some c) rest))
theorem ctorsF_cons {ops : List Opr} {prev : Option Int} {c : Int} {rest : List Int} : ctorsF ops prev (c :: rest) = (inN ops.length c && ((match prev with | some p => decide (p < c) | none => true) && ((match ix ops c with | some o => oneF o | none => false) && ctorsF ops (some c) rest))) := by cases prev <;> rfl
noncomputable def consF (s : Sg) (cs : List Int) : Bool := sigF s && ctorsF s.ops none cs
theorem sigF_parts {s : Sg} (h : sigF s = true) : s.ops.length ≤ 14 ∧ ∀ o ∈ s.ops, declsF s.sorts.names.length (kindI s.sorts.names.length s.sorts.subs) o = true ∧ axF (kindI s.sorts.names.length s.sorts.subs) s.ops o = true := by
  unfold sigF at h
  simp only [Bool.and_eq_true, decide_eq_true_eq] at h
  obtain ⟨_, h1, h2, h3⟩ := h
  exact ⟨h1, fun o ho => ⟨List.all_eq_true.1 (opsF_in h2) o ho, List.all_eq_true.1 h3 o ho⟩⟩
theorem axF_unit {kinds : List Int} {ops : List Opr} {o : Opr} (h : axF kinds ops o = true) : 0 ≤ o.unit ∧ o.unit ≤ ops.length := by
  unfold axF at h
  cases hc : (!o.assoc && (!o.comm && decide (o.unit = 0))) with
  | true =>
    simp only [Bool.and_eq_true, decide_eq_true_eq] at hc
    omega
  | false =>
    rw [hc, cond_false] at h
    simp only [Bool.and_eq_true, decide_eq_true_eq] at h
    exact ⟨h.2.1, h.2.2.1⟩
abbrev GCons (q : Sg → Option Bool) : s_IsConstructors.Gs := { s_IsSignature := q, s_l1In := gIn }
def prevAt (cs : List Int) (i : Int) : Option Int := if 0 < i then ix cs (i - 1) else none
theorem scons_loop {R : Type} {q : Sg → Option Bool} (ops : List Opr) (h14 : ops.length ≤ 14) (hu : ∀ o ∈ ops, 0 ≤ o.unit) (names : List ByteArray) (subs : List Sb) (cs : List Int) (hc : cs.length ≤ 1048576) (n : Nat) (k0 : Bool → Option R) (k1 : Option R) : ∀ m (i : Int), 0 ≤ i → i ≤ cs.length → (cs.length - i).toNat < m →
    s_IsConstructors.l4 (GCons q) n m cs i names subs ops k0 k1 = bif ctorsF ops (prevAt cs i) (cs.drop i.toNat) then k1 else k0 false := by
  intro m
  induction m with
  | zero => intro i _ _ hm; omega
  | succ m ih =>
    intro i q0 q1 hm
    show s_IsConstructors.b4 (GCons q) n cs i names subs ops (fun y0 y1 y2 y3 y4 => s_IsConstructors.l4 (GCons q) n m y0 y1 y2 y3 y4 k0 k1) k0 k1 = _
    unfold s_IsConstructors.b4
    by_cases hi : i < (cs.length : Int)
    · obtain ⟨c, x1, x2, x3, x4⟩ := drop_step q0 hi
      have hin : (decide (0 ≤ c) && decide (c ≤ wr ((ops.length : Int) - 1))) = inN ops.length c := by
        unfold inN
        rw [wr_in (x := (ops.length : Int) - 1) (by omega)]
        congr 1
        exact decide_eq_decide.2 (by omega)
      have hnext : prevAt cs (i + 1) = some c := by
        unfold prevAt
        rw [if_pos (by omega), show i + 1 - 1 = i by omega, x1]
      rw [decide_eq_true hi, cond_true]
      simp only [x1, Option.bind_some, hin]
      rw [x3, ctorsF_cons]
      cases hb : inN ops.length c with
      | false => rfl
      | true =>
        obtain ⟨c0, c1⟩ := inN_iff.1 hb
        obtain ⟨o, o1, o2, _, _⟩ := drop_step (a := ops) c0 c1
        have hou := hu o o2
        have e8 : ∀ (k : Bool → Option R) (kk : List Int → Int → List ByteArray → List Sb → List Opr → Option R), s_IsConstructors.c8 (GCons q) n cs i names subs ops k kk = bif oneF o then kk cs i names subs ops else k false := fun k kk => by
          unfold s_IsConstructors.c8 oneF
          rw [x1, Option.bind_some, o1, Option.bind_some]
          have e1 : decide (0 < o.unit) = !decide (o.unit = 0) := by rw [← decide_not]; exact decide_eq_decide.2 (by omega)
          have e2 : decide ((o.decls.length : Int) = 1) = decide (o.decls.length = 1) := decide_eq_decide.2 (by omega)
          rw [e1, e2]
          cases o.assoc <;> cases o.comm <;> cases decide (o.unit = 0) <;> cases decide (o.decls.length = 1) <;> rfl
        simp only [e8]
        rw [o1, wr_in (x := i + 1) (by omega)]
        rw [ih (i + 1) (by omega) (by omega) (by omega), hnext]
        by_cases h0 : 0 < i
        · obtain ⟨p, p1, _⟩ := drop_step (a := cs) (i := i - 1) (by omega) (by omega)
          have hpr : prevAt cs i = some p := by unfold prevAt; rw [if_pos h0, p1]
          have e3 : decide (c ≤ p) = !decide (p < c) := by rw [← decide_not]; exact decide_eq_decide.2 (by omega)
          rw [hpr, decide_eq_true h0, wr_in (x := i - 1) (by omega), p1]
          simp only [Bool.not_true, cond_false, cond_true, Option.bind_some, e3, Bool.true_and]
          cases decide (p < c) <;> cases oneF o <;> rfl
        · have hpr : prevAt cs i = none := by unfold prevAt; rw [if_neg h0]
          rw [hpr, decide_eq_false h0]
          simp only [Bool.not_true, cond_false, Bool.true_and]
          cases oneF o <;> rfl
    · rw [decide_eq_false hi, cond_false, drop_all hi]
      cases prevAt cs i <;> rfl
theorem s_IsConstructors_ok : EntOK Try.prog (s_IsConstructors.ent fun s cs => if cs.length ≤ 1048576 then some (consF s cs) else none) := s_IsConstructors.ok (G := GCons fun s => some (sigF s)) ⟨s_IsSignature_ok, l1In_ok, trivial⟩ fun s (cs : List Int) r h => by
  split at h
  · rename_i hl
    cases h
    refine ⟨2000000, ?_⟩
    unfold s_IsConstructors.main consF
    rw [Option.bind_some]
    cases hs : sigF s with
    | false => rfl
    | true =>
      obtain ⟨h1, h2⟩ := sigF_parts hs
      rw [Bool.not_true, cond_false, scons_loop s.ops h1 (fun o ho => (axF_unit (h2 o ho).2).1) _ _ cs hl 2000000 _ _ 2000000 0 (by omega) (by omega) (by omega)]
      simp only [Int.toNat_zero, List.drop_zero, Bool.true_and]
      have : prevAt cs 0 = none := rfl
      rw [this]
      cases ctorsF s.ops none cs <;> rfl
  · cases h
end Go.Proofs.Ytjafncnjefnloaa.Den

/-
  Valid signatures, constructors: the program.
-/
namespace Go.Proofs.Ytjafncnjefnloaa.Den
open Go.RowKit
open Classical

/-- An order that belongs to valid sorts. -/
def OdIs (N : Nat) (kinds : List Int) (x : Od) : Prop := N ≤ 8 ∧ x.above.length = N ∧ x.kind = kinds ∧ kinds.length = N
abbrev gHas : Od → Int → Option Bool := fun x k => some (inN x.above.length k)
theorem orderHas_ok : EntOK Try.prog (i_order_has.ent gHas) := i_order_has.ok (G := ⟨()⟩) trivial fun x k r h => ⟨1, by
  cases h
  unfold i_order_has.main inN
  by_cases h : 0 ≤ k
  · rw [decide_eq_true h]; rfl
  · rw [decide_eq_false h]; rfl⟩
abbrev GDI : i_declsOK.Gs := { i_order_has := gHas }
section
variable {R : Type}
theorem id_first (n N : Nat) (ab be kinds : List Int) (hN : ab.length = N) (l : List Int) (hl : l.length ≤ 3) (nm : ByteArray) (ds : List Dc) (a1 a2 : Bool) (un : Int) (fa : List Int) (fr : Int) (k0 : Bool → Option R) (k1 : List Int → List Int → List Int → ByteArray → List Dc → Bool → Bool → Int → List Int → Int → Option R) : ∀ m (i : Int), 0 ≤ i → i ≤ l.length → (l.length - i).toNat < m →
    i_declsOK.l7 GDI n m l (l.length : Int) i ab be kinds nm ds a1 a2 un fa fr k0 k1 = bif (l.drop i.toNat).all (inN N) then k1 ab be kinds nm ds a1 a2 un fa fr else k0 false := by
  intro m
  induction m with
  | zero => intro i _ _ hm; omega
  | succ m ih =>
    intro i q0 q1 hm
    show i_declsOK.b7 GDI n l (l.length : Int) i ab be kinds nm ds a1 a2 un fa fr (fun y0 y1 y2 y3 y4 y5 y6 y7 y8 y9 y10 y11 y12 => i_declsOK.l7 GDI n m y0 y1 y2 y3 y4 y5 y6 y7 y8 y9 y10 y11 y12 k0 k1) k0 k1 = _
    unfold i_declsOK.b7
    by_cases hi : i < (l.length : Int)
    · obtain ⟨x, x1, x2, x3, _⟩ := drop_step q0 hi
      rw [decide_eq_true hi, cond_true]
      simp only [x1, Option.bind_some, hN, wr_in (x := i + 1) (by omega)]
      rw [x3, List.all_cons, ih (i + 1) (by omega) (by omega) (by omega)]
      cases inN N x <;> rfl
    · rw [decide_eq_false hi, cond_false, drop_all hi]; rfl
theorem id_args (n N : Nat) (ds : List Dc) (t54 t55 : Int) (ab be kinds : List Int) (hN : ab.length = N) (hk : kinds.length = N) (fa : List Int) (fr : Int) (da : List Int) (hl : da.length = fa.length) (h3 : fa.length ≤ 3) (hfa : ∀ x ∈ fa, inN N x = true) (k0 : Bool → Option R)
    (k1 : List Dc → Int → Int → List Int → List Int → List Int → List Int → Int → Option R) : ∀ m (k : Int), 0 ≤ k → k ≤ da.length → (da.length - k).toNat < m →
    i_declsOK.l18 GDI n m ds t54 t55 da (da.length : Int) k ab be kinds fa fr k0 k1 = bif argsF N kinds (da.drop k.toNat) (fa.drop k.toNat) then k1 ds t54 t55 ab be kinds fa fr else k0 false := by
  intro m
  induction m with
  | zero => intro k _ _ hm; omega
  | succ m ih =>
    intro k q0 q1 hm
    show i_declsOK.b18 GDI n ds t54 t55 da (da.length : Int) k ab be kinds fa fr (fun y0 y1 y2 y3 y4 y5 y6 y7 y8 y9 y10 => i_declsOK.l18 GDI n m y0 y1 y2 y3 y4 y5 y6 y7 y8 y9 y10 k0 k1) k0 k1 = _
    unfold i_declsOK.b18
    by_cases hi : k < (da.length : Int)
    · obtain ⟨a, a1, a2, a3, a4⟩ := drop_step (a := da) q0 hi
      obtain ⟨b, b1, b2, b3, b4⟩ := drop_step (a := fa) q0 (by omega)
      rw [decide_eq_true hi, cond_true]
      simp only [a1, b1, Option.bind_some, hN, wr_in (x := k + 1) (by omega)]
      rw [a3, b3, argsF]
      cases ha : inN N a with
      | false => rfl
      | true =>
        have ha' := inN_iff.1 ha
        have hb' := inN_iff.1 (hfa b b2)
        rw [getI_ix ha'.1 (by omega), getI_ix hb'.1 (by omega), Option.bind_some, Option.bind_some, ih (k + 1) (by omega) (by omega) (by omega)]
        cases decide (getI kinds a = getI kinds b) <;> rfl
    · rw [decide_eq_false hi, cond_false, drop_all hi]; rfl
theorem id_loop (N : Nat) (ab be kinds : List Int) (hN : ab.length = N) (hk : kinds.length = N) (f : Dc) (h3 : f.args.length ≤ 3) (hfr : inN N f.result = true) (hfa : ∀ x ∈ f.args, inN N x = true) (ds : List Dc) (h4 : ds.length ≤ 4) (k0 : Bool → Option R) (k1 : Option R) : ∀ m (i : Int), 0 ≤ i → i ≤ ds.length → (ds.length - i).toNat < m →
    i_declsOK.l13 GDI 1000 m ds (ds.length : Int) i ab be kinds f.args f.result k0 k1 = bif (ds.drop i.toNat).all (declF N kinds f) then k1 else k0 false := by
  intro m
  induction m with
  | zero => intro i _ _ hm; omega
  | succ m ih =>
    intro i q0 q1 hm
    show i_declsOK.b13 GDI 1000 ds (ds.length : Int) i ab be kinds f.args f.result (fun y0 y1 y2 y3 y4 y5 y6 y7 => i_declsOK.l13 GDI 1000 m y0 y1 y2 y3 y4 y5 y6 y7 k0 k1) k0 k1 = _
    unfold i_declsOK.b13
    by_cases hi : i < (ds.length : Int)
    · obtain ⟨d, d1, d2, d3, d4⟩ := drop_step q0 hi
      rw [decide_eq_true hi, cond_true, d1, Option.bind_some, d3, List.all_cons]
      unfold declF
      by_cases hl : d.args.length = f.args.length
      · rw [decide_eq_true hl, decide_eq_true (show (d.args.length : Int) = (f.args.length : Int) by omega), Bool.not_true, cond_false, Bool.true_and]
        simp only [Option.bind_some, hN]
        cases hr : inN N d.result with
        | false => rfl
        | true =>
          have hr' := inN_iff.1 hr
          have hfr' := inN_iff.1 hfr
          rw [Bool.not_true, cond_false, getI_ix hr'.1 (by omega), getI_ix hfr'.1 (by omega), Option.bind_some, Option.bind_some]
          rw [id_args 1000 N ds _ _ ab be kinds hN hk f.args f.result d.args hl h3 hfa _ _ 1000 0 (by omega) (by omega) (by omega), wr_in (x := i + 1) (by omega)]
          simp only [Int.toNat_zero, List.drop_zero]
          rw [ih (i + 1) (by omega) (by omega) (by omega)]
          unfold declF
          cases decide (getI kinds d.result = getI kinds f.result) <;> cases argsF N kinds d.args f.args <;> rfl
      · rw [decide_eq_false hl, decide_eq_false (show ¬ (d.args.length : Int) = (f.args.length : Int) by omega)]; rfl
    · rw [decide_eq_false hi, cond_false, drop_all hi]; rfl
end
/-- The order of valid sorts s. -/
def IsOd (s : So) (x : Od) : Prop := x.above.length = s.names.length ∧ x.kind = kindI s.names.length s.subs
noncomputable def gDI : Od → Opr → Option Bool := fun x o => if x.above.length ≤ 8 ∧ x.kind.length = x.above.length then some (declsF x.above.length x.kind o) else none
theorem declsOK_ok : EntOK Try.prog (i_declsOK.ent gDI) := i_declsOK.ok (G := GDI) ⟨orderHas_ok, trivial⟩ fun x o r h => by
  unfold gDI at h
  split at h
  · rename_i hp
    cases h
    obtain ⟨p1, p2⟩ := hp
    refine ⟨1000, ?_⟩
    unfold i_declsOK.main declsF
    by_cases h1 : (o.decls.length : Int) < 1
    · rw [decide_eq_true h1, decide_eq_false (show ¬ 1 ≤ o.decls.length by omega)]; rfl
    by_cases h4 : 4 < (o.decls.length : Int)
    · rw [decide_eq_false h1, decide_eq_true h4, decide_eq_true (show 1 ≤ o.decls.length by omega), decide_eq_false (show ¬ o.decls.length ≤ 4 by omega)]; rfl
    rw [decide_eq_false h1, decide_eq_false h4, decide_eq_true (show 1 ≤ o.decls.length by omega), decide_eq_true (show o.decls.length ≤ 4 by omega), first_ix (by omega)]
    simp only [cond_false, Option.bind_some, Bool.true_and]
    by_cases h3 : 3 < ((first o).args.length : Int)
    · rw [decide_eq_true h3, decide_eq_false (show ¬ (first o).args.length ≤ 3 by omega)]; rfl
    rw [decide_eq_false h3, decide_eq_true (show (first o).args.length ≤ 3 by omega), cond_false]
    have hm : first o ∈ o.decls := by
      unfold first
      cases hd : o.decls with
      | nil => rw [hd] at h1; simp at h1
      | cons d l => simp
    have key : o.decls.all (declF x.above.length x.kind (first o)) = true → inN x.above.length (first o).result = true ∧ (first o).args.all (inN x.above.length) = true := fun hall => by
      have hf := List.all_eq_true.1 hall _ hm
      unfold declF at hf
      simp only [Bool.and_eq_true] at hf
      exact ⟨hf.2.1, List.all_eq_true.2 (argsF_in hf.2.2.1)⟩
    cases hr : inN x.above.length (first o).result with
    | false =>
      have : o.decls.all (declF x.above.length x.kind (first o)) = false := by
        cases hc : o.decls.all (declF x.above.length x.kind (first o)) with
        | false => rfl
        | true => rw [(key hc).1] at hr; cases hr
      rw [this]; rfl
    | true =>
      rw [Bool.not_true, cond_false, id_first 1000 x.above.length x.above x.below x.kind rfl (first o).args (by omega) _ _ _ _ _ _ _ _ _ 1000 0 (by omega) (by omega) (by omega)]
      simp only [Int.toNat_zero, List.drop_zero]
      cases ha : (first o).args.all (inN x.above.length) with
      | false =>
        have : o.decls.all (declF x.above.length x.kind (first o)) = false := by
          cases hc : o.decls.all (declF x.above.length x.kind (first o)) with
          | false => rfl
          | true => rw [(key hc).2] at ha; cases ha
        rw [this]; rfl
      | true =>
        rw [cond_true, id_loop x.above.length x.above x.below x.kind rfl p2 (first o) (by omega) hr (List.all_eq_true.1 ha) o.decls (by omega) _ _ 1000 0 (by omega) (by omega) (by omega)]
        simp only [Int.toNat_zero, List.drop_zero, Bool.true_and]
        cases o.decls.all (declF x.above.length x.kind (first o)) <;> rfl
  · cases h
end Go.Proofs.Ytjafncnjefnloaa.Den

/-
  Valid signatures, constructors: the program, to the end.
-/
namespace Go.Proofs.Ytjafncnjefnloaa.Den
open Go.RowKit
open Classical

section
variable {R : Type}
theorem iax_end (n N : Nat) (G : i_axiomsOK.Gs) (ab be kinds : List Int) (hk : kinds.length = N) (names : List ByteArray) (subs : List Sb) (ops : List Opr) (hol : ops.length ≤ 14) (ho : opsIn N kinds ops = true) (o : Opr) (hf : inN N (first o).result = true) (h0 : 0 ≤ o.unit) (h1 : o.unit ≤ ops.length) (k0 : Bool → Option R) :
    i_axiomsOK.c10 G n ab be kinds names subs ops o.name o.decls o.assoc o.comm o.unit (first o).args (first o).result k0 = k0 (bif decide (o.unit = 0) then true else match ix ops (o.unit - 1) with
      | some u => decide ((first u).args.length = 0) && decide (getI kinds (first u).result = getI kinds (first o).result)
      | none => false) := by
  unfold i_axiomsOK.c10
  by_cases hu : o.unit = 0
  · rw [decide_eq_true hu]; rfl
  · rw [decide_eq_false hu, cond_false, cond_false, wr_in (x := o.unit - 1) (by omega)]
    obtain ⟨u, u1, u2, _, _⟩ := drop_step (a := ops) (i := o.unit - 1) (by omega) (by omega)
    obtain ⟨d1, d2, d3, d4, d5, d6⟩ := declsF_parts (List.all_eq_true.1 ho u u2)
    have d5' := inN_iff.1 d5
    have hf' := inN_iff.1 hf
    rw [u1, Option.bind_some, first_ix d1, Option.bind_some]
    by_cases hz : (first u).args.length = 0
    · rw [decide_eq_true (show ((first u).args.length : Int) = 0 by omega), cond_true, getI_ix d5'.1 (by omega), Option.bind_some, getI_ix hf'.1 (by omega), Option.bind_some]
      simp [hz]
    · rw [decide_eq_false (show ¬ ((first u).args.length : Int) = 0 by omega)]
      simp [hz]
theorem iax_main (n N : Nat) (G : i_axiomsOK.Gs) (ab be kinds : List Int) (hk : kinds.length = N) (names : List ByteArray) (subs : List Sb) (ops : List Opr) (hol : ops.length ≤ 14) (ho : opsIn N kinds ops = true) (o : Opr) (hd : declsF N kinds o = true) (h0 : 0 ≤ o.unit) (h1 : o.unit ≤ ops.length) (k0 : Bool → Option R) :
    i_axiomsOK.c5 G n ab be kinds names subs ops o.name o.decls o.assoc o.comm o.unit k0 = k0 (decide ((first o).args.length = 2) && (decide (getI kinds (getI (first o).args 0) = getI kinds (getI (first o).args 1)) &&
    ((bif o.assoc || decide (0 < o.unit) then decide (getI kinds (getI (first o).args 0) = getI kinds (first o).result) else true) &&
    (bif decide (o.unit = 0) then true else match ix ops (o.unit - 1) with
      | some u => decide ((first u).args.length = 0) && decide (getI kinds (first u).result = getI kinds (first o).result)
      | none => false)))) := by
  obtain ⟨d1, d2, d3, d4, d5, d6⟩ := declsF_parts hd
  have d5' := inN_iff.1 d5
  unfold i_axiomsOK.c5
  rw [first_ix d1, Option.bind_some]
  by_cases h2 : (first o).args.length = 2
  · rw [decide_eq_true h2, decide_eq_true (show ((first o).args.length : Int) = 2 by omega), Bool.not_true, cond_false, Bool.true_and]
    have a0 : ix (first o).args 0 = some (getI (first o).args 0) := getI_ix (by omega) (by omega)
    have a1 : ix (first o).args 1 = some (getI (first o).args 1) := getI_ix (by omega) (by omega)
    have m0 := inN_iff.1 (d6 _ (getI_mem (l := (first o).args) (i := 0) (by omega) (by omega)))
    have m1 := inN_iff.1 (d6 _ (getI_mem (l := (first o).args) (i := 1) (by omega) (by omega)))
    have k0' : ix kinds (getI (first o).args 0) = some (getI kinds (getI (first o).args 0)) := getI_ix m0.1 (by omega)
    have k1' : ix kinds (getI (first o).args 1) = some (getI kinds (getI (first o).args 1)) := getI_ix m1.1 (by omega)
    have kr : ix kinds (first o).result = some (getI kinds (first o).result) := getI_ix d5'.1 (by omega)
    simp only [a0, a1, k0', k1', kr, Option.bind_some]
    rw [iax_end n N G ab be kinds hk names subs ops hol ho o d5 h0 h1]
    have e1 : decide (0 < o.unit) = !decide (o.unit = 0) := by rw [← decide_not]; exact decide_eq_decide.2 (by omega)
    rw [e1]
    cases o.assoc <;> cases decide (getI kinds (getI (first o).args 0) = getI kinds (getI (first o).args 1)) <;> cases decide (getI kinds (getI (first o).args 0) = getI kinds (first o).result) <;> cases decide (o.unit = 0) <;> rfl
  · rw [decide_eq_false h2, decide_eq_false (show ¬ ((first o).args.length : Int) = 2 by omega)]; rfl
end
noncomputable def gAI : Od → Sg → Opr → Option Bool := fun x s o => if x.kind.length = x.above.length ∧ s.ops.length ≤ 14 ∧ opsIn x.above.length x.kind s.ops = true ∧ o ∈ s.ops then some (axF x.kind s.ops o) else none
theorem axiomsOK_ok : EntOK Try.prog (i_axiomsOK.ent gAI) := i_axiomsOK.ok (G := ⟨()⟩) trivial fun x s o r h => by
  unfold gAI at h
  split at h
  · rename_i hp
    cases h
    obtain ⟨p1, p2, p3, p4⟩ := hp
    have hd := List.all_eq_true.1 p3 o p4
    refine ⟨1000, ?_⟩
    unfold i_axiomsOK.main axF
    by_cases h0 : o.unit < 0
    · rw [decide_eq_true h0, decide_eq_false (show ¬ o.unit = 0 by omega), decide_eq_false (show ¬ 0 ≤ o.unit by omega)]
      simp
    by_cases h1 : (s.ops.length : Int) < o.unit
    · rw [decide_eq_false h0, decide_eq_true h1, decide_eq_false (show ¬ o.unit = 0 by omega), decide_eq_false (show ¬ o.unit ≤ s.ops.length by omega)]
      simp
    rw [decide_eq_false h0, decide_eq_false h1, cond_false, cond_false, iax_main 1000 x.above.length ⟨()⟩ x.above x.below x.kind p1 s.sorts.names s.sorts.subs s.ops p2 p3 o hd (by omega) (by omega)]
    rw [decide_eq_true (show 0 ≤ o.unit by omega), decide_eq_true (show o.unit ≤ s.ops.length by omega)]
    cases o.assoc <;> cases o.comm <;> cases decide (o.unit = 0) <;> rfl
  · cases h

abbrev GSigI (q : So → Option (Od × Bool)) (d : Od → Opr → Option Bool) (a : Od → Sg → Opr → Option Bool) : i_IsSignature.Gs := { i_newOrder := q, i_IsName := gName, i_declsOK := d, i_axiomsOK := a }
section
variable {R : Type} {q : So → Option (Od × Bool)}
theorem isig_ops (n N : Nat) (hN : N ≤ 8) (x : Od) (hx : x.above.length = N) (hk : x.kind.length = N) (names : List ByteArray) (subs : List Sb) (ops0 ops : List Opr) (hol : ops.length ≤ 14) (k0 : Bool → Option R) (k1 : List ByteArray → List Sb → List Opr → List Int → List Int → List Int → Option R) : ∀ m (i : Int) (kvs : List (ByteArray × Bool)), 0 ≤ i → i ≤ ops.length → SeenIs kvs (nm (ops.take i.toNat)) → (ops.length - i).toNat < m →
    i_IsSignature.l6 (GSigI q gDI gAI) n m ops (ops.length : Int) i names subs ops0 x.above x.below x.kind kvs k0 k1 = bif opsF N x.kind (nm (ops.take i.toNat)) (ops.drop i.toNat) then k1 names subs ops0 x.above x.below x.kind else k0 false := by
  intro m
  induction m with
  | zero => intro i _ _ _ _ hm; omega
  | succ m ih =>
    intro i kvs q0 q1 qs hm
    show i_IsSignature.b6 (GSigI q gDI gAI) n ops (ops.length : Int) i names subs ops0 x.above x.below x.kind kvs (fun y0 y1 y2 y3 y4 y5 y6 y7 y8 y9 => i_IsSignature.l6 (GSigI q gDI gAI) n m y0 y1 y2 y3 y4 y5 y6 y7 y8 y9 k0 k1) k0 k1 = _
    unfold i_IsSignature.b6
    by_cases hi : i < (ops.length : Int)
    · obtain ⟨o, x1, x2, x3, x4⟩ := drop_step q0 hi
      have e : (i + 1).toNat = i.toNat + 1 := by omega
      have ht : nm (ops.take (i + 1).toNat) = nm (ops.take i.toNat) ++ [o.name] := by
        obtain ⟨hlt, hx⟩ := List.getElem?_eq_some_iff.1 x4
        rw [e, List.take_succ_eq_append_getElem hlt, hx]
        simp [nm]
      have eD : gDI (Od.mk x.above x.below x.kind) o = some (declsF N x.kind o) := by
        unfold gDI
        rw [if_pos ⟨by show x.above.length ≤ 8; omega, by show x.kind.length = x.above.length; omega⟩]
        show some (declsF x.above.length x.kind o) = _
        rw [hx]
      rw [decide_eq_true hi, cond_true]
      simp only [x1, Option.bind_some, eD, wr_in (x := i + 1) (by omega)]
      rw [x3, opsF, ih (i + 1) _ (by omega) (by omega) (by rw [ht]; exact seen_add qs o.name) (by omega), ht, qs o.name]
      cases nameF o.name <;> cases declsF N x.kind o <;> cases ((nm (ops.take i.toNat)).any fun y => sEq y o.name) <;> rfl
    · rw [decide_eq_false hi, cond_false, drop_all hi]; rfl
theorem isig_ax (n N : Nat) (x : Od) (hx : x.above.length = N) (hk : x.kind.length = N) (names : List ByteArray) (subs : List Sb) (ops : List Opr) (hol : ops.length ≤ 14) (ho : opsIn N x.kind ops = true) (k0 : Bool → Option R) (k1 : Option R) : ∀ m (i : Int), 0 ≤ i → i ≤ ops.length → (ops.length - i).toNat < m →
    i_IsSignature.l13 (GSigI q gDI gAI) n m ops (ops.length : Int) i names subs ops x.above x.below x.kind k0 k1 = bif (ops.drop i.toNat).all (axF x.kind ops) then k1 else k0 false := by
  intro m
  induction m with
  | zero => intro i _ _ hm; omega
  | succ m ih =>
    intro i q0 q1 hm
    show i_IsSignature.b13 (GSigI q gDI gAI) n ops (ops.length : Int) i names subs ops x.above x.below x.kind (fun y0 y1 y2 y3 y4 y5 y6 y7 y8 => i_IsSignature.l13 (GSigI q gDI gAI) n m y0 y1 y2 y3 y4 y5 y6 y7 y8 k0 k1) k0 k1 = _
    unfold i_IsSignature.b13
    by_cases hi : i < (ops.length : Int)
    · obtain ⟨o, x1, x2, x3, x4⟩ := drop_step q0 hi
      have eA : gAI (Od.mk x.above x.below x.kind) (Sg.mk (So.mk names subs) ops) o = some (axF x.kind ops o) := by
        unfold gAI
        rw [if_pos ⟨by show x.kind.length = x.above.length; omega, hol, by show opsIn x.above.length x.kind ops = true; rw [hx]; exact ho, x2⟩]
      rw [decide_eq_true hi, cond_true, x1, Option.bind_some]
      dsimp only
      rw [eA, Option.bind_some, x3, List.all_cons, wr_in (x := i + 1) (by omega), ih (i + 1) (by omega) (by omega) (by omega)]
      cases axF x.kind ops o <;> rfl
    · rw [decide_eq_false hi, cond_false, drop_all hi]; rfl
end
theorem i_IsSignature_ok : EntOK Try.prog (i_IsSignature.ent fun s => some (sigF s)) := i_IsSignature.ok (G := GSigI (fun s => some (orderF s)) gDI gAI) ⟨newOrder_ok, i_IsName_ok, declsOK_ok, axiomsOK_ok, trivial⟩ fun s r h => ⟨1000, by
  cases h
  unfold i_IsSignature.main sigF
  rw [Option.bind_some]
  cases hs : sortsF s.sorts with
  | false =>
    rw [show orderF s.sorts = (⟨[], [], []⟩, false) from if_neg (by rw [hs]; simp)]
    rfl
  | true =>
    obtain ⟨p1, p2, p3, p4, p5⟩ := sortsF_parts hs
    rw [show orderF s.sorts = (⟨upI s.sorts.names.length s.sorts.subs, belowI (upI s.sorts.names.length s.sorts.subs), kindI s.sorts.names.length s.sorts.subs⟩, true) from if_pos hs]
    simp only [Bool.not_true, cond_false]
    by_cases h14 : 14 < (s.ops.length : Int)
    · rw [decide_eq_true h14, decide_eq_false (show ¬ s.ops.length ≤ 14 by omega)]; rfl
    · rw [decide_eq_false h14, decide_eq_true (show s.ops.length ≤ 14 by omega), cond_false]
      have hu := upI_len s.sorts.names.length s.sorts.subs
      have hkl := kindI_len s.sorts.names.length s.sorts.subs
      have e6 := isig_ops (R := AT × List Ob) (q := fun s => some (orderF s)) 1000 s.sorts.names.length p2 ⟨upI s.sorts.names.length s.sorts.subs, belowI (upI s.sorts.names.length s.sorts.subs), kindI s.sorts.names.length s.sorts.subs⟩ hu hkl s.sorts.names s.sorts.subs s.ops s.ops (by omega)
      simp only at e6
      rw [e6 _ _ 1000 0 [] (by omega) (by omega) seen_nil (by omega)]
      simp only [Int.toNat_zero, List.take_zero, List.drop_zero, nm, List.map_nil, Bool.true_and]
      cases ho : opsF s.sorts.names.length (kindI s.sorts.names.length s.sorts.subs) [] s.ops with
      | false => rfl
      | true =>
        have e13 := isig_ax (R := AT × List Ob) (q := fun s => some (orderF s)) 1000 s.sorts.names.length ⟨upI s.sorts.names.length s.sorts.subs, belowI (upI s.sorts.names.length s.sorts.subs), kindI s.sorts.names.length s.sorts.subs⟩ hu hkl s.sorts.names s.sorts.subs s.ops (by omega) (opsF_in ho)
        simp only at e13
        rw [cond_true, e13 _ _ 1000 0 (by omega) (by omega) (by omega)]
        simp only [Int.toNat_zero, List.drop_zero, Bool.true_and]
        cases s.ops.all (axF (kindI s.sorts.names.length s.sorts.subs) s.ops) <;> rfl⟩

theorem singleOp_ok : EntOK Try.prog (i_singleOp.ent fun o => some (oneF o)) := i_singleOp.ok (G := ⟨()⟩) trivial fun o r h => ⟨1, by
  cases h
  unfold i_singleOp.main oneF
  have e2 : decide ((o.decls.length : Int) = 1) = decide (o.decls.length = 1) := decide_eq_decide.2 (by omega)
  rw [e2]
  cases o.assoc <;> cases o.comm <;> cases decide (o.decls.length = 1) <;> rfl⟩
abbrev GConsI (q : Sg → Option Bool) : i_IsConstructors.Gs := { i_IsSignature := q, i_singleOp := fun o => some (oneF o) }
theorem icons_loop {R : Type} {q : Sg → Option Bool} (ops : List Opr) (h14 : ops.length ≤ 14) (names : List ByteArray) (subs : List Sb) (cs : List Int) (hc : cs.length ≤ 1048576) (n : Nat) (k0 : Bool → Option R) (k1 : Option R) : ∀ m (i : Int), 0 ≤ i → i ≤ cs.length → (cs.length - i).toNat < m →
    i_IsConstructors.l4 (GConsI q) n m cs cs (cs.length : Int) i names subs ops k0 k1 = bif ctorsF ops (prevAt cs i) (cs.drop i.toNat) then k1 else k0 false := by
  intro m
  induction m with
  | zero => intro i _ _ hm; omega
  | succ m ih =>
    intro i q0 q1 hm
    show i_IsConstructors.b4 (GConsI q) n cs cs (cs.length : Int) i names subs ops (fun y0 y1 y2 y3 y4 y5 y6 => i_IsConstructors.l4 (GConsI q) n m y0 y1 y2 y3 y4 y5 y6 k0 k1) k0 k1 = _
    unfold i_IsConstructors.b4
    by_cases hi : i < (cs.length : Int)
    · obtain ⟨c, x1, x2, x3, x4⟩ := drop_step q0 hi
      have hnext : prevAt cs (i + 1) = some c := by
        unfold prevAt
        rw [if_pos (by omega), show i + 1 - 1 = i by omega, x1]
      have e1 : decide (c < 0) = !decide (0 ≤ c) := by rw [← decide_not]; exact decide_eq_decide.2 (by omega)
      have e2 : decide ((ops.length : Int) ≤ c) = !decide (c < ops.length) := by rw [← decide_not]; exact decide_eq_decide.2 (by omega)
      rw [decide_eq_true hi, cond_true, x1, Option.bind_some, e1, e2, x3, ctorsF_cons]
      unfold inN
      by_cases c0 : 0 ≤ c
      · by_cases c1 : c < ops.length
        · obtain ⟨o, o1, o2, _, _⟩ := drop_step (a := ops) c0 c1
          rw [decide_eq_true c0, decide_eq_true c1]
          simp only [o1, Option.bind_some, Bool.not_true, cond_false, wr_in (x := i + 1) (by omega)]
          rw [ih (i + 1) (by omega) (by omega) (by omega), hnext]
          by_cases h0 : 0 < i
          · obtain ⟨p, p1, _⟩ := drop_step (a := cs) (i := i - 1) (by omega) (by omega)
            have hpr : prevAt cs i = some p := by unfold prevAt; rw [if_pos h0, p1]
            have e3 : decide (c ≤ p) = !decide (p < c) := by rw [← decide_not]; exact decide_eq_decide.2 (by omega)
            rw [hpr, decide_eq_true h0, wr_in (x := i - 1) (by omega), p1]
            simp only [cond_true, Option.bind_some, e3, Bool.and_self, Bool.true_and]
            cases decide (p < c) <;> cases oneF o <;> rfl
          · have hpr : prevAt cs i = none := by unfold prevAt; rw [if_neg h0]
            rw [hpr, decide_eq_false h0]
            simp only [cond_false, Bool.and_self, Bool.true_and]
            cases oneF o <;> rfl
        · rw [decide_eq_true c0, decide_eq_false c1]; rfl
      · rw [decide_eq_false c0]; rfl
    · rw [decide_eq_false hi, cond_false, drop_all hi]
      cases prevAt cs i <;> rfl
theorem i_IsConstructors_ok : EntOK Try.prog (i_IsConstructors.ent fun s cs => if cs.length ≤ 1048576 then some (consF s cs) else none) := i_IsConstructors.ok (G := GConsI fun s => some (sigF s)) ⟨i_IsSignature_ok, singleOp_ok, trivial⟩ fun s (cs : List Int) r h => by
  split at h
  · rename_i hl
    cases h
    refine ⟨2000000, ?_⟩
    unfold i_IsConstructors.main consF
    rw [Option.bind_some]
    cases hs : sigF s with
    | false => rfl
    | true =>
      obtain ⟨h1, h2⟩ := sigF_parts hs
      rw [Bool.not_true, cond_false, icons_loop s.ops h1 _ _ cs hl 2000000 _ _ 2000000 0 (by omega) (by omega) (by omega)]
      simp only [Int.toNat_zero, List.drop_zero, Bool.true_and]
      have : prevAt cs 0 = none := rfl
      rw [this]
      cases ctorsF s.ops none cs <;> rfl
  · cases h
end Go.Proofs.Ytjafncnjefnloaa.Den

/-
  FnExactIsConstructors answers true.
-/
namespace Go.Proofs.Ytjafncnjefnloaa.Den
open Go.RowKit
open Classical

theorem isConstructors_law : ∃ g, EntOK Try.prog (l_FnExactIsConstructors.ent g) ∧ ∀ s cs, (Fit (.n 9) s ∧ Fit (.sl .i) cs) → ∃ r, g s cs = some r ∧ r = true := by
  obtain ⟨gz, ez, hz⟩ := szSignature_all
  obtain ⟨gt, et, ht⟩ := toSignature_all
  obtain ⟨gq, eq, hq⟩ := eqSignature_all
  obtain ⟨gti, eti, hti⟩ := toIntS_all
  obtain ⟨gqi, eqi, hqi⟩ := eqIntS_all
  refine by_pick2 (fun g hg => l_FnExactIsConstructors.ok (G := { l_szSignature := gz, l_toSignature := gt, l_toIntS := gti, s_IsConstructors := fun s cs => if cs.length ≤ 1048576 then some (consF s cs) else none, i_IsConstructors := fun s cs => if cs.length ≤ 1048576 then some (consF s cs) else none, l_eqSignature := gq, l_eqIntS := gqi }) ⟨ez, et, eti, s_IsConstructors_ok, i_IsConstructors_ok, eq, eqi, trivial⟩ hg) fun s (cs : List Int) ⟨hf, hc⟩ => ⟨true, ⟨1, ?_⟩, rfl⟩
  unfold l_FnExactIsConstructors.main
  by_cases hl : 1048576 < (cs.length : Int)
  · rw [decide_eq_true hl]; rfl
  · rw [decide_eq_false hl, cond_false]
    have r1 : gz s 1048576 = some (if (w_Signature s : Int) ≤ 1048576 then (1048576 : Int) - w_Signature s else (-1 : Int)) := by
      obtain ⟨_, r, q⟩ := hz s 1048576 ⟨hf, by omega, by omega⟩
      rw [q] at r
      exact r
    dsimp only
    rw [r1, Option.bind_some]
    by_cases hw : (w_Signature s : Int) ≤ 1048576
    · have r2 : gt s = some s := by
        obtain ⟨_, r, q⟩ := ht s ⟨hf, by omega⟩
        rw [q] at r
        exact r
      have r3 : gti cs = some cs := by
        obtain ⟨_, r, q⟩ := hti cs ⟨hc, by show cs.length ≤ _; omega⟩
        rw [q] at r
        exact r
      have r4 : gq s s = some true := by
        obtain ⟨_, r, q⟩ := hq s s ⟨rfl, hf, by omega⟩
        rw [q] at r
        exact r
      have r5 : gqi cs cs = some true := by
        obtain ⟨_, r, q⟩ := hqi cs cs ⟨rfl, hc, by show cs.length ≤ _; omega⟩
        rw [q] at r
        exact r
      rw [if_pos hw, decide_eq_false (by omega), cond_false]
      simp only [r2, r3, r4, r5, Option.bind_some, if_pos (show cs.length ≤ 1048576 by omega), beq_self_eq_true, Bool.not_true, cond_false]
    · rw [if_neg hw]; rfl
end Go.Proofs.Ytjafncnjefnloaa.Den

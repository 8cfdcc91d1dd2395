/-
  Slices of bools, and a row of such slices that a call builds by append.
-/
import Derived.Test.YtagnfckihdlhpaaHold
import Derived.Test.YtagnfckihdlhpaaRunParts
import Derived.Deep.AppendLies
import Derived.Maps.AppendAt
namespace Go.Proofs.Ytagnfckihdlhpaa
open Go.RowKit

def bools (bs : List Bool) : D := .row bs.length (bs.map fun x => .lit (.bool x))
theorem bools_slice {w : World} {S : Nat → Prop} {bs : List Bool} {v : Value} (h : At w S (bools bs) v) : ∃ A c, v = .slice A bs.length c ∧ bs.length ≤ c ∧ c ≤ 9223372036854775807 := h.slice
theorem bools_get {w : World} {S : Nat → Prop} {bs : List Bool} {A : Option Addr} {n c k : Nat} (h : At w S (bools bs) (.slice A n c)) (hk : k < bs.length) :
    ∃ b off x, A = some ⟨b, off, none⟩ ∧ S b ∧ b < w.heap.size ∧ w.cell? ⟨b, off + k, none⟩ = some (.bool x) ∧ Hid (bs[k]? = some x) := by
  have hn : n = bs.length := by obtain ⟨_, _, e, _⟩ := bools_slice h; injection e
  subst hn
  obtain ⟨b, off, e, hs, hlt, hc⟩ := At.cellAt h (by simp; omega)
  obtain ⟨u, hu, ha⟩ := hc k (.lit (.bool bs[k])) (by simp [hk])
  obtain ⟨rfl, _⟩ := at_lit.1 ha
  exact ⟨b, off, bs[k], e, hs, hlt, hu, List.getElem?_eq_getElem hk⟩
theorem bools_mk {w : World} {S : Nat → Prop} {bs : List Bool} {A : Option Addr} {c : Nat} (hn : bs.length ≤ c) (hc : c ≤ 9223372036854775807)
    (h : 0 < bs.length → ∃ b off, A = some ⟨b, off, none⟩ ∧ S b ∧ ∀ k x, bs[k]? = some x → w.cell? ⟨b, off + k, none⟩ = some (.bool x)) :
    At w S (bools bs) (.slice A bs.length c) := by
  refine at_row.2 ⟨A, c, rfl, hn, hc, fun hp => ?_⟩
  obtain ⟨b, off, e, hs, hk⟩ := h (by simpa using hp)
  refine ⟨b, off, e, hs, fun k hlt => ?_⟩
  have hlt' : k < bs.length := by simpa using hlt
  refine ⟨_, hk k bs[k] (List.getElem?_eq_getElem hlt'), ?_⟩
  simp only [List.getElem_map]
  exact at_lit.2 ⟨rfl, trivial⟩

/-- The answers of a formula at all places. -/
def holdL (n back : Nat) (lab : Nat → Int) (f : Fm) : List Bool := (List.range n).map (Fm.hold n back lab f)
theorem holdL_len (n back : Nat) (lab : Nat → Int) (f : Fm) : (holdL n back lab f).length = n := by simp [holdL]
theorem holdL_at {n back : Nat} {lab : Nat → Int} {f : Fm} {k : Nat} {x : Bool} (h : (holdL n back lab f)[k]? = some x) : x = Fm.hold n back lab f k := by
  have hk : k < n := by have := (List.getElem?_eq_some_iff.1 h).1; simpa [holdL_len] using this
  simp [holdL, hk] at h
  exact h.symm

/-- The blocks from B on, but the row's own. -/
def Beside (B : Nat) (v : Value) : Nat → Prop := fun b => B ≤ b ∧ some b ≠ v.ownBlock

/-- A row of j slices of bools, built by append: their data are the first j of bss. -/
def KidRow (w : World) (B : Nat) (kv : Value) (j : Nat) (bss : List (List Bool)) : Prop :=
  ∃ vs, w.ownsRow B 89 1 kv j vs ∧ vs.length = j ∧ ∀ (t : Nat) (v : Value), vs[t]? = some v → ∃ bs, bss[t]? = some bs ∧ At w (Beside B kv) (bools bs) v

theorem KidRow.below {w w' : World} {B : Nat} {kv : Value} {j : Nat} {bss : List (List Bool)} (h : KidRow w B kv j bss) (hb : Below w.heap.size w w') : KidRow w' B kv j bss := by
  obtain ⟨vs, h1, h2, h3⟩ := h
  refine ⟨vs, ?_, h2, fun t v ht => ?_⟩
  · have hg : w.grownBy w' none := ⟨hb.os, hb.tape, hb.output, hb.size, fun k hk _ => hb.block k hk⟩
    refine h1.kept hg ?_
    cases kv.ownBlock with
    | none => exact .inl rfl
    | some b => exact .inr (by simp)
  · obtain ⟨bs, e, ha⟩ := h3 t v ht
    exact ⟨bs, e, ha.below hb⟩

/-- What an append makes of the row. -/
theorem KidRow.step {w w2 w3 : World} {B : Nat} {kv : Value} {j : Nat} {bss : List (List Bool)} {bs : List Bool} {v : Value} {g cap H : Nat} (h : KidRow w B kv j bss) (hB : B ≤ w.heap.size) (hb : Below w.heap.size w w2)
    (hv : At w2 (From w.heap.size) (bools bs) v) (hbs : bss[j]? = some bs)
    (vs : List Value) (hvs : w2.ownsRow B 89 1 kv j vs)
    (hown : w3.ownsRow B 89 1 (.slice (some ⟨g, 0, none⟩) (j + 1) cap) (j + 1) (vs ++ [v])) (hg : w2.grownBy w3 kv.ownBlock) (hat : kv.ownBlock = some g ∨ g = H) (hH : w2.heap.size = H) :
    KidRow w3 B (.slice (some ⟨g, 0, none⟩) (j + 1) cap) (j + 1) bss := by
  obtain ⟨vs', h1, h2, h3⟩ := h.below hb
  have hlv : vs.length = j := by have := hvs.1; simpa using this
  have evs : vs' = vs := by
    have l2 : vs'.length = vs.length := by omega
    rcases h1.2 with ⟨rfl, h0⟩ | ⟨g', cap', cur, e1, _, hh, _, _, _, ht⟩
    · have : vs = [] := List.eq_nil_of_length_eq_zero (by omega)
      have : vs' = [] := List.eq_nil_of_length_eq_zero (by omega)
      simp_all
    · rcases hvs.2 with ⟨e2, _⟩ | ⟨g'', cap'', cur'', e2, _, hh', _, _, _, ht'⟩
      · rw [e1] at e2; cases e2
      · rw [e1] at e2
        injection e2 with e3
        injection e3 with e3
        injection e3 with e3
        subst e3
        rw [hh] at hh'
        injection hh' with hh'
        injection hh' with hh'
        subst hh'
        rw [← ht, ← ht']
  subst evs
  have keep : ∀ {d : D} {u : Value} {S : Nat → Prop}, (∀ b, S b → b < w2.heap.size → B ≤ b ∧ some b ≠ kv.ownBlock) → At w2 S d u → At w3 (Beside B (.slice (some ⟨g, 0, none⟩) (j + 1) cap)) d u := by
    intro d u S hS ha
    refine ha.keep (fun b o hb' hlt => World.cell?_of_block (hg.block b hlt (hS b hb' hlt).2)) (fun b hb' hlt => ⟨(hS b hb' hlt).1, ?_⟩)
    simp only [Value.ownBlock, ne_eq, Option.some.injEq]
    rintro rfl
    rcases hat with e | e
    · exact (hS b hb' hlt).2 e.symm
    · omega
  refine ⟨_, hown, by simp [hlv], fun t u ht => ?_⟩
  by_cases e : t < vs'.length
  · rw [List.getElem?_append_left e] at ht
    obtain ⟨bs', e', ha⟩ := h3 t u ht
    exact ⟨bs', e', keep (fun b hb' _ => hb') ha⟩
  · have et : t = vs'.length := by
      have := (List.getElem?_eq_some_iff.1 ht).1
      simp at this
      omega
    subst et
    simp at ht
    subst ht
    refine ⟨bs, by rw [hlv]; exact hbs, keep (fun b hb' hlt => ⟨by have : w.heap.size ≤ b := hb'; omega, ?_⟩) hv⟩
    intro e2
    obtain ⟨_, h10, _⟩ := h
    have := (h10.lt b e2.symm).2
    have : w.heap.size ≤ b := hb'
    omega

theorem Blk.grown {w w' : World} {g : Nat} {t : TypeId} {cs : Array Value} {row : Option Nat} (h : Blk w g t cs) (hb : w.grownBy w' row) (hg : some g ≠ row) : Blk w' g t cs := (hb.block g h.lt hg).trans h

/-- A round that calls, lays the answer into a block of its own and appends it. -/
theorem KidRow.round {wr w1 w3 : World} {B : Nat} {kv : Value} {j : Nat} {bss : List (List Bool)} {bs : List Bool} {v : Value} {g cap : Nat} {o : Obj} (h : KidRow wr B kv j bss) (hB : B ≤ wr.heap.size) (hb : Below wr.heap.size wr w1)
    (hv : At w1 (From wr.heap.size) (bools bs) v) (hbs : bss[j]? = some bs) (vs : List Value) (hvs : (w1.alloc o).ownsRow B 89 1 kv j vs)
    (hown : w3.ownsRow B 89 1 (.slice (some ⟨g, 0, none⟩) (j + 1) cap) (j + 1) (vs ++ [v])) (hg : (w1.alloc o).grownBy w3 kv.ownBlock) (hat : kv.ownBlock = some g ∨ g = w1.heap.size + 1) :
    KidRow w3 B (.slice (some ⟨g, 0, none⟩) (j + 1) cap) (j + 1) bss ∧ Below B wr w3 ∧ (∀ x t cs, x < B → Blk wr x t cs → Blk w3 x t cs) := by
  have hsz := hb.size
  have hb2 : Below wr.heap.size wr (w1.alloc o) := hb.alloc (by omega) o
  have hrow : ∀ k, kv.ownBlock = some k → B ≤ k := fun k hk => (hvs.lt k hk).1
  refine ⟨h.step hB hb2 (hv.alloc o) hbs vs hvs hown hg hat (World.size_alloc _ _), ?_, fun x t cs hx hX => ?_⟩
  · exact (hb2.mono hB).grown hg (by simp; omega) hrow
  · exact (hX.next hb2).grown hg (fun e => by have := hrow x e.symm; omega)

theorem KidRow.nil (w : World) (B : Nat) (bss : List (List Bool)) : KidRow w B (.slice none 0 0) 0 bss := ⟨[], World.ownsRow_nil _ _ _ _, rfl, fun t v h => by simp at h⟩
theorem KidRow.none_ {w : World} {B g c : Nat} (bss : List (List Bool)) (hb : B ≤ g) (h : Blk w g 89 #[]) (hc : c = 0) : KidRow w B (.slice (some ⟨g, 0, none⟩) 0 c) 0 bss := by
  subst hc
  exact ⟨[], ⟨by simp, .inr ⟨g, 0, #[], rfl, hb, h, Nat.le_refl _, by unfold maxLen; omega, by simp, by simp⟩⟩, rfl, fun t v h => by simp at h⟩

/-- One slice of the row. -/
theorem KidRow.get {w : World} {B : Nat} {kv : Value} {j : Nat} {bss : List (List Bool)} (h : KidRow w B kv j bss) {t : Nat} (ht : t < j) :
    ∃ g cap bs v, kv = .slice (some ⟨g, 0, none⟩) j cap ∧ j ≤ cap ∧ B ≤ g ∧ g < w.heap.size ∧ bss[t]? = some bs ∧ w.cell? ⟨g, t, none⟩ = some v ∧ At w (Beside B kv) (bools bs) v := by
  obtain ⟨vs, h1, h2, h3⟩ := h
  obtain ⟨g, cap, e, hb, hlt⟩ := h1.form (by omega)
  have hv : vs[t]? = some (vs[t]'(by omega)) := List.getElem?_eq_getElem (by omega)
  obtain ⟨bs, e2, ha⟩ := h3 t _ hv
  subst e
  have hc := h1.cells (g := g) rfl t _ hv
  have hcap : j ≤ cap := by
    rcases h1.2 with ⟨e, _⟩ | ⟨g', cap', cur, e, _, _, hle, _⟩
    · cases e
    · injection e with _ _ e; omega
  have ea : (⟨g, 0, none⟩ : Addr).add t = ⟨g, t, none⟩ := by
    unfold Addr.add
    split
    · subst_vars; rfl
    · simp
  rw [ea] at hc
  exact ⟨g, cap, bs, _, rfl, hcap, hb, hlt, e2, hc, ha⟩

/-- The first i cells hold f, the others false. -/
def Filled (cs : Array Value) (n i : Nat) (f : Nat → Bool) : Prop := cs.size = n ∧ (∀ k, k < i → cs[k]? = some (.bool (f k))) ∧ ∀ k, i ≤ k → k < n → cs[k]? = some (.bool false)
theorem Filled.start (n : Nat) (f : Nat → Bool) : Filled (madeCells #[.bool false] n) n 0 f :=
  ⟨made_size _ _, fun k h => by omega, fun k _ h => by simp [madeCells, h, Nat.mod_one]⟩
theorem Filled.step {cs : Array Value} {n i : Nat} {f : Nat → Bool} (h : Filled cs n i f) (hi : i < n) : Filled (cs.setIfInBounds i (.bool (f i))) n (i + 1) f := by
  obtain ⟨h1, h2, h3⟩ := h
  refine ⟨by simpa using h1, fun k hk => ?_, fun k hk hk2 => ?_⟩
  · by_cases e : k = i
    · subst e; simp [h1, hi]
    · rw [Array.getElem?_setIfInBounds_ne (by omega)]; exact h2 k (by omega)
  · rw [Array.getElem?_setIfInBounds_ne (by omega)]; exact h3 k (by omega) hk2
theorem Filled.to {cs : Array Value} {n i : Nat} {f : Nat → Bool} (h : Filled cs n i f) (hi : i < n) {x : Bool} (hx : f i = x) : Filled (cs.setIfInBounds i (.bool x)) n (i + 1) f := by
  subst hx
  exact h.step hi
theorem Filled.skip {cs : Array Value} {n i : Nat} (h : Filled cs n i fun _ => false) (hi : i < n) : Filled cs n (i + 1) fun _ => false := by
  obtain ⟨h1, h2, h3⟩ := h
  refine ⟨h1, fun k hk => ?_, fun k hk hk2 => h3 k (by omega) hk2⟩
  by_cases e : k = i
  · subst e; exact h3 k (Nat.le_refl _) hi
  · exact h2 k (by omega)
theorem Filled.at_ {cs : Array Value} {n i : Nat} {f : Nat → Bool} (h : Filled cs n i f) {k : Nat} (hk : k < n) : ∃ u, cs[k]? = some u := ⟨_, Array.getElem?_eq_getElem (by rw [h.1]; exact hk)⟩
theorem Filled.all {cs : Array Value} {n : Nat} {f : Nat → Bool} {w : World} {O : Nat} {B : Nat} (h : Filled cs n n f) (hO : Blk w O 4 cs) (hB : B ≤ O) (hn : n ≤ 9223372036854775807) :
    At w (From B) (bools ((List.range n).map f)) (.slice (some ⟨O, 0, none⟩) n n) := by
  have hl : ((List.range n).map f).length = n := by simp
  have := bools_mk (w := w) (S := From B) (bs := (List.range n).map f) (A := some ⟨O, 0, none⟩) (c := n) (by omega) hn (fun _ => ⟨O, 0, rfl, hB, fun k x hx => by
    have hk : k < n := by have := (List.getElem?_eq_some_iff.1 hx).1; simpa using this
    simp [hk] at hx
    subst hx
    rw [Nat.zero_add, hO.cell]
    exact h.2.1 k hk⟩)
  rwa [hl] at this

end Go.Proofs.Ytagnfckihdlhpaa
